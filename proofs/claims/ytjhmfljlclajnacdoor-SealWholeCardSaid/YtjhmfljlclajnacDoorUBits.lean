/- Part of the proof: Bits. -/
import Derived.Test.YtjhmfljlclajnacDoorUDecP
import Derived.Laws.BitsAllLaws
set_option linter.unusedVariables false
set_option linter.unusedSimpArgs false
namespace Wb
open Go Go.RowKit
theorem or_mul (a b m i : Nat) (hm : m = 2 ^ i) (h : a < m) : (b * m) ||| a = b * m + a := by
 subst hm
 rw [← Nat.shiftLeft_eq, Nat.shiftLeft_add_eq_or_of_lt h]
theorem i64_or_nat (a b : Nat) (ha : a < 4294967296) (hb : b < 4294967296) : bits .or .i64 (a : Int) (b : Int) = ((a ||| b : Nat) : Int) := by
 have hx : a ||| b < 2 ^ 32 := Nat.or_lt_two_pow (by omega) (by omega)
 show IntKind.i64.wrap ((BitVec.ofInt 64 (a : Int) ||| BitVec.ofInt 64 (b : Int)).toNat : Int) = _
 rw [BitVec.toNat_or, ofInt_u64 a (by omega), ofInt_u64 b (by omega), IntKind.wrap_i64]
 omega
theorem or_seq (s : ByteArray) : bits BinOp.or IntKind.i64 (bits BinOp.or IntKind.i64 (bits BinOp.or IntKind.i64 (nb s 5 * 16777216) (nb s 6 * 65536)) (nb s 7 * 256)) (nb s 8) = seqOf s := by
 have b5 := nb_lt s 5; have b6 := nb_lt s 6; have b7 := nb_lt s 7; have b8 := nb_lt s 8
 unfold seqOf
 unfold nb at *
 generalize (bt s 5).toNat = n5 at *
 generalize (bt s 6).toNat = n6 at *
 generalize (bt s 7).toNat = n7 at *
 generalize (bt s 8).toNat = n8 at *
 have e5 : ((n5 : Int) * 16777216) = ((n5 * 16777216 : Nat) : Int) := by omega
 have e6 : ((n6 : Int) * 65536) = ((n6 * 65536 : Nat) : Int) := by omega
 have e7 : ((n7 : Int) * 256) = ((n7 * 256 : Nat) : Int) := by omega
 rw [e5, e6, e7, i64_or_nat (n5 * 16777216) (n6 * 65536) (by omega) (by omega), or_mul (n6 * 65536) n5 16777216 24 (by decide) (by omega),
  show n5 * 16777216 + n6 * 65536 = (n5 * 256 + n6) * 65536 by omega, i64_or_nat _ (n7 * 256) (by omega) (by omega), or_mul (n7 * 256) (n5 * 256 + n6) 65536 16 (by decide) (by omega),
  show (n5 * 256 + n6) * 65536 + n7 * 256 = ((n5 * 256 + n6) * 256 + n7) * 256 by omega, i64_or_nat _ n8 (by omega) (by omega), or_mul n8 _ 256 8 (by decide) (by omega)]
 omega
end Wb
