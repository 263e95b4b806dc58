/- Parts of the proof: Laid LaidF Saids. -/
import Derived.Test.YtjhmfljlclajnaaGreatDoorKTopReads0
import Derived.Test.YtjhmfljlclajnaaGreatDoorCards
import Derived.Test.YtjhmfljlclajnaaGreatDoorTie
import Derived.Test.YtjhmfljlclajnaaGreatDoorKTopReads4
import Derived.Lib.LaidTab
import Derived.Test.YtjhmfljlclajnaaGreatDoorKTopReads15
set_option linter.unusedVariables false
set_option linter.unusedSimpArgs false
namespace Go.Proofs.YtjhmfljlclajnaaGreatDoor
open Go.ChangeShapes Go.WideShapes Go.ChangeAt Go.RowKit Wb
noncomputable def laidWorld (os : Os) : World :=
 { World.holding Tryz.prog os ⟨#[], #[], []⟩ with heap := (World.holding Tryz.prog os ⟨#[], #[], []⟩).heap.modify 0 fun
     | .cells _ t frozen => .cells #[.int .i64 2, .int .i64 0, .string ⟨#[]⟩] t frozen
     | o => o }
end Go.Proofs.YtjhmfljlclajnaaGreatDoor
namespace Go.Proofs.YtjhmfljlclajnaaGreatDoor
open Go.ChangeShapes Go.WideShapes Go.ChangeAt Go.RowKit Wb
set_option maxRecDepth 100000
theorem flush_laid {W : World} (hL : laidMetH Tryz.prog [("wastebook/seal.flush", .agg [.lit (.int .i64 2), .lit (.int .i64 0), .lit (.string [])])] W) :
    Sl W (flR 0).v 1 (flR 0).cs := by
 have h : laidMet Tryz.prog [("wastebook/seal.flush", .agg [.lit (.int .i64 2), .lit (.int .i64 0), .lit (.string [])])] W := hL
 obtain ⟨ps, ⟨g', t', cs, fuel, p, q, hg', ht', hvar, hd, _, _⟩, _⟩ := h
 have hg : Tryz.prog.globalNamed "wastebook/seal.flush" = some 0 := by kernel_rfl
 have hty : (Tryz.prog.globals[0]?).map (·.type) = some 99 := by kernel_rfl
 obtain rfl := Option.some.inj (hg.symm.trans hg')
 obtain rfl := Option.some.inj (hty.symm.trans ht')
 have hcs : cs.toList = [.int .i64 2, .int .i64 0, .string ⟨#[]⟩] := by
  obtain ⟨xs, m, _, hx, hl, hln, hg⟩ := DataW.trod_struct Tryz.underlying99 hd
  have hl3 : cs.toList.length = 3 := hl.trans (by kernel_rfl)
  generalize cs.toList = ls at *
  match ls, hl3, xs, hln with
  | [u0, u1, u2], _, [y0, y1, y2], _ =>
   have h0 : DataW.trod (fun _ => ()) Tryz.prog W 0 (fun _ => true) false m 3 [u0] = some y0 := hg 0 _ rfl
   have h1 : DataW.trod (fun _ => ()) Tryz.prog W 0 (fun _ => true) false m 3 [u1] = some y1 := hg 1 _ rfl
   have h2 : DataW.trod (fun _ => ()) Tryz.prog W 0 (fun _ => true) false m 9 [u2] = some y2 := hg 2 _ rfl
   obtain ⟨a0, e0, rfl, _⟩ := DataW.trod_int Tryz.underlying3 h0
   obtain ⟨a1, e1, rfl, _⟩ := DataW.trod_int Tryz.underlying3 h1
   obtain ⟨a2, e2, rfl, _⟩ := DataW.trod_string Tryz.underlying9 h2
   simp at e0 e1 e2 hx
   subst e0 e1 e2
   obtain ⟨⟨rfl, rfl, h3⟩, _⟩ := hx
   have : a2 = ⟨#[]⟩ := by
    obtain ⟨⟨l⟩⟩ := a2
    simp at h3
    subst h3
    rfl
   rw [this]
 refine ⟨some ⟨0, 0, none⟩, 1, rfl, Nat.le_refl _, by decide, .inr ⟨0, 0, rfl, fun j u hj => ?_⟩⟩
 have := World.var?_cell hg hvar j
 rw [Nat.zero_add, this]
 have e : cs[j]? = cs.toList[j]? := by simp
 rw [e, hcs]
 exact hj
end Go.Proofs.YtjhmfljlclajnaaGreatDoor
namespace Go.Proofs.YtjhmfljlclajnaaGreatDoor
open Go.RowKit Wb
theorem decodeSaid : DecodeSaid := fun s w h => stamp_DecodeO s w h
theorem oneSaid : OneSaid := fun d W br vs vw A seq r0 w h1 h2 h3 h4 h5 h6 => scan_one decodeSaid d W br vs vw A seq r0 w h1 h2 h3 h4 h5 h6
theorem scanSaid : ScanSaid := fun d v w h => scan_Scan decodeSaid oneSaid d v w h
end Go.Proofs.YtjhmfljlclajnaaGreatDoor
