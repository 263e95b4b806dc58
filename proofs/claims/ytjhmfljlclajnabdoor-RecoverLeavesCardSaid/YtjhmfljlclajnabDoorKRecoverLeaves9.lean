/- The walks of Escape and Unescape. The walk of stamp.Decode at whatever is no block of a mark. What Decode answers, its lists its own. What a new disk with a super block tells. No program in sight. The walk of the reference's FlushDisk. The walks of New, NewDisk. The walk of the reader's one. The reader's one, by what it finds. -/
import Derived.Test.YtjhmfljlclajnabDoorKRecoverLeaves2
import Derived.Test.YtjhmfljlclajnabDoorShelf
import Derived.Test.YtjhmfljlclajnabDoorFit2
import Derived.Test.YtjhmfljlclajnabDoorPure2
import Derived.Test.YtjhmfljlclajnabDoorEncR
import Derived.Test.YtjhmfljlclajnabDoorMarks
import Derived.Test.YtjhmfljlclajnabDoorDecP2
import Derived.Test.YtjhmfljlclajnabDoorDecA
import Derived.Test.YtjhmfljlclajnabDoorRegCall
import Derived.Test.YtjhmfljlclajnabDoorDec2
import Derived.Test.YtjhmfljlclajnabDoorKRecoverLeaves8
import Derived.Test.YtjhmfljlclajnabDoorKRecoverLeaves6
import Derived.Test.YtjhmfljlclajnabDoorKRecoverLeaves3
import Derived.Test.YtjhmfljlclajnabDoorKRecoverLeaves5
set_option linter.unusedVariables false
set_option linter.unusedSimpArgs false
namespace Go.Proofs.YtjhmfljlclajnabDoor
open Go.RowKit Wb
set_option linter.unusedVariables false
set_option linter.unusedSimpArgs false
set_option maxRecDepth 100000
set_option maxHeartbeats 4000000

theorem pre_isEsc (s : ByteArray) : Lib.hasPrefix s.data.toList [87, 66, 75, 49] = isEsc s := by
  rw [← Lib.hasPrefix_of_take, Bool.eq_iff_iff, Bool.and_eq_true, decide_eq_true_iff, beq_iff_eq]
  constructor
  · intro hh
    exact decide_eq_true hh.2
  · intro hh
    exact ⟨by rw [ba_len]; exact isEsc_len hh, of_decide_eq_true hh⟩
theorem take_isEsc (s : ByteArray) : ((s.extract 0 4).toList == [87, 66, 75, 49]) = isEsc s := by
  rw [Lib.toList_data, Lib.extract_data, List.drop_zero]
  unfold isEsc
  rw [Bool.eq_iff_iff, decide_eq_true_iff, beq_iff_eq]
  rfl
theorem drop_str (p : List UInt8) (s : ByteArray) (h : 4 ≤ s.size) : str p ++ s.extract 4 s.size = str (p ++ s.data.toList.drop 4) := by
  apply ba_ext
  rw [ByteArray.data_append, Array.toList_append, Lib.extract_data, List.take_of_length_le (by rw [List.length_drop, ba_len]; omega)]
  simp [str]

theorem stamp_Escape (s : ByteArray) (w : World) (hs : s.size ≤ 9223372036854775807) :
    Calls Tryd.prog 41 #[.string s] w fun e w' => e = .returned (.tuple #[.string (escS s), .bool (isEsc s)]) ∧ Below w.heap.size w w' := by
  have hP := fun w => Tryd.strings_HasPrefix s ⟨#[87, 66, 75, 49]⟩ w
  have hb := pre_isEsc s
  dsimp only at hP
  rw [hb] at hP
  clear hb
  cases hc : isEsc s
  · rw [hc] at hP
    have hv : escS s = s := by unfold escS; rw [hc]; rfl
    rw [hv]
    replace hP := hid hP
    go_enter Tryd.func41, Tryd.ntmps41
    go_wp2_with (go_at_call 71; refine (hP.out _).mono ?_; rintro e w1 ⟨rfl, rfl⟩)
    go_ret2
    exact ⟨rfl, by repeat (first | exact Below.refl _ _ | with_reducible assumption | (refine allocB ?_ (by first | omega | (simp; done) | (simp; omega)) _) | (refine Below.setCell ?_ (by first | omega | (simp; done) | (simp; omega)) _) | refine Below.drew ?_ | (refine Below.trans ?_ (Below.mono (by with_reducible assumption) (by first | omega | (simp; done) | (simp; omega)))))⟩
  · rw [hc] at hP
    have h4 := isEsc_len hc
    have hv : (⟨#[0, 0, 0, 0]⟩ : ByteArray) ++ s.extract 4 s.size = escS s := by unfold escS; rw [hc]; exact drop_str [0, 0, 0, 0] s h4
    have hx : (s.extract 4 s.size).size = s.size - 4 := by simp
    replace hP := hid hP
    go_enter Tryd.func41, Tryd.ntmps41
    go_wp2_with (go_at_call 71; refine (hP.out _).mono ?_; rintro e w1 ⟨rfl, rfl⟩)
    go_ret2
    exact ⟨rfl, by repeat (first | exact Below.refl _ _ | with_reducible assumption | (refine allocB ?_ (by first | omega | (simp; done) | (simp; omega)) _) | (refine Below.setCell ?_ (by first | omega | (simp; done) | (simp; omega)) _) | refine Below.drew ?_ | (refine Below.trans ?_ (Below.mono (by with_reducible assumption) (by first | omega | (simp; done) | (simp; omega)))))⟩

theorem ref_EscapeBlock (s : ByteArray) (w : World) (hs : s.size ≤ 9223372036854775807) :
    Calls Tryd.prog 73 #[.string s] w fun e w' => e = .returned (.tuple #[.string (escS s), .bool (isEsc s)]) ∧ Below w.heap.size w w' := by
  have hb := take_isEsc s
  by_cases h4 : 4 ≤ s.size
  · cases hc : isEsc s
    · rw [hc] at hb
      have hv : escS s = s := by unfold escS; rw [hc]; rfl
      rw [hv]
      go_enter Tryd.func73, Tryd.ntmps73
      go_wp2
      go_ret2
      exact ⟨rfl, by repeat (first | exact Below.refl _ _ | with_reducible assumption | (refine allocB ?_ (by first | omega | (simp; done) | (simp; omega)) _) | (refine Below.setCell ?_ (by first | omega | (simp; done) | (simp; omega)) _) | refine Below.drew ?_ | (refine Below.trans ?_ (Below.mono (by with_reducible assumption) (by first | omega | (simp; done) | (simp; omega)))))⟩
    · rw [hc] at hb
      have hv : (⟨#[0, 0, 0, 0]⟩ : ByteArray) ++ s.extract 4 s.size = escS s := by unfold escS; rw [hc]; exact drop_str [0, 0, 0, 0] s h4
      have hx : (s.extract 4 s.size).size = s.size - 4 := by simp
      go_enter Tryd.func73, Tryd.ntmps73
      go_wp2
      go_ret2
      exact ⟨rfl, by repeat (first | exact Below.refl _ _ | with_reducible assumption | (refine allocB ?_ (by first | omega | (simp; done) | (simp; omega)) _) | (refine Below.setCell ?_ (by first | omega | (simp; done) | (simp; omega)) _) | refine Below.drew ?_ | (refine Below.trans ?_ (Below.mono (by with_reducible assumption) (by first | omega | (simp; done) | (simp; omega)))))⟩
  · have hc : isEsc s = false := isEsc_short (by omega)
    have hv : escS s = s := by unfold escS; rw [hc]; rfl
    rw [hv, hc]
    go_enter Tryd.func73, Tryd.ntmps73
    go_wp2
    go_ret2
    exact ⟨rfl, by repeat (first | exact Below.refl _ _ | with_reducible assumption | (refine allocB ?_ (by first | omega | (simp; done) | (simp; omega)) _) | (refine Below.setCell ?_ (by first | omega | (simp; done) | (simp; omega)) _) | refine Below.drew ?_ | (refine Below.trans ?_ (Below.mono (by with_reducible assumption) (by first | omega | (simp; done) | (simp; omega)))))⟩

theorem stamp_Unescape (s : ByteArray) (e : Bool) (w : World) (hs : s.size ≤ 9223372036854775807) :
    Calls Tryd.prog 83 #[.string s, .bool e] w fun r w' => r = .returned (.string (unescS s e)) ∧ Below w.heap.size w w' := by
  by_cases h4 : 4 ≤ s.size
  · have hx : (s.extract 4 s.size).size = s.size - 4 := by simp
    have hv1 : (⟨#[87, 66, 75, 49]⟩ : ByteArray) ++ s.extract 4 s.size = unescS s true := by unfold unescS; rw [if_pos ⟨rfl, h4⟩]; exact drop_str magic s h4
    have hv0 : unescS s false = s := by unfold unescS; simp
    cases e
    · rw [hv0]
      clear hv1
      go_enter Tryd.func83, Tryd.ntmps83
      go_wp2
      go_ret
      exact ⟨rfl, by repeat (first | exact Below.refl _ _ | with_reducible assumption | (refine allocB ?_ (by first | omega | (simp; done) | (simp; omega)) _) | (refine Below.setCell ?_ (by first | omega | (simp; done) | (simp; omega)) _) | refine Below.drew ?_ | (refine Below.trans ?_ (Below.mono (by with_reducible assumption) (by first | omega | (simp; done) | (simp; omega)))))⟩
    · go_enter Tryd.func83, Tryd.ntmps83
      go_wp2
      go_ret
      exact ⟨rfl, by repeat (first | exact Below.refl _ _ | with_reducible assumption | (refine allocB ?_ (by first | omega | (simp; done) | (simp; omega)) _) | (refine Below.setCell ?_ (by first | omega | (simp; done) | (simp; omega)) _) | refine Below.drew ?_ | (refine Below.trans ?_ (Below.mono (by with_reducible assumption) (by first | omega | (simp; done) | (simp; omega)))))⟩
  · have hv : unescS s e = s := by unfold unescS; rw [if_neg (fun hh => h4 hh.2)]
    rw [hv]
    cases e
    all_goals
      go_enter Tryd.func83, Tryd.ntmps83
      go_wp2
      go_ret
      exact ⟨rfl, by repeat (first | exact Below.refl _ _ | with_reducible assumption | (refine allocB ?_ (by first | omega | (simp; done) | (simp; omega)) _) | (refine Below.setCell ?_ (by first | omega | (simp; done) | (simp; omega)) _) | refine Below.drew ?_ | (refine Below.trans ?_ (Below.mono (by with_reducible assumption) (by first | omega | (simp; done) | (simp; omega)))))⟩

end Go.Proofs.YtjhmfljlclajnabDoor

namespace Go.Proofs.YtjhmfljlclajnabDoor
open Go.RowKit Wb
set_option linter.unusedVariables false
set_option linter.unusedSimpArgs false
set_option maxRecDepth 100000
set_option maxHeartbeats 1000000
theorem zero_reads (w : World) : RMark w (.agg #[.int .i64 0, .int .i64 0, .int .i64 0, .slice none 0 0, .slice none 0 0]) zeroM := ⟨_, _, rfl, RL.nil _ _, RL.nil _ _, Nat.zero_le _, Nat.zero_le _⟩

theorem stamp_Decode_no (s : ByteArray) (w : World) (hs : ¬ okS s) (hz : s.size ≤ 9223372036854775807) :
    Calls Tryd.prog 58 #[.string s] w fun e w' => ∃ v, e = .returned (.tuple #[v, .int .i64 (decE s)]) ∧ OMark w.heap.size w' v (decM s) ∧ Below w.heap.size w w' := by
  have hd : ¬ decOk s := fun h => hs h.1
  obtain ⟨dM, dE⟩ := dec_no hd
  rw [dM, dE]
  have hP := hid (fun w' => OMark.plain w.heap.size w' 0 0 0)
  by_cases h1 : s.size = 32
  · have e1 : ((s.size : Int) != 32) = false := by rw [h1]; rfl
    have h2 : isEsc s = false := decide_eq_false fun hh => hs ⟨h1, hh⟩
    have e2 := take_isEsc s
    rw [h2] at e2
    have h4 : 4 ≤ s.size := by omega
    clear hs hd dM dE h2 h1
    go_enter Tryd.func58, Tryd.ntmps58
    go_wp2
    refine bodyPost_ret (v := .tuple #[.agg #[.int .i64 0, .int .i64 0, .int .i64 0, .slice none 0 0, .slice none 0 0], .int .i64 1]) (by simp [results, Tryd.results58, go_sem]) rfl ⟨_, rfl, hP.out _, ?_⟩
    exact bal (b0 w) _
  · have e1 : ((s.size : Int) != 32) = true := bne_iff_ne.2 (by omega)
    clear hs hd dM dE h1
    go_enter Tryd.func58, Tryd.ntmps58
    go_wp2
    refine bodyPost_ret (v := .tuple #[.agg #[.int .i64 0, .int .i64 0, .int .i64 0, .slice none 0 0, .slice none 0 0], .int .i64 1]) (by simp [results, Tryd.results58, go_sem]) rfl ⟨_, rfl, hP.out _, ?_⟩
    exact bal (b0 w) _
end Go.Proofs.YtjhmfljlclajnabDoor

namespace Go.Proofs.YtjhmfljlclajnabDoor
open Go.RowKit Wb
theorem stamp_DecodeO (s : ByteArray) (w : World) (hz : s.size ≤ 9223372036854775807) :
    Calls Tryd.prog 58 #[.string s] w fun e w' => ∃ v, e = .returned (.tuple #[v, .int .i64 (decE s)]) ∧ OMark w.heap.size w' v (decM s) ∧ Below w.heap.size w w' := by
  by_cases h : okS s
  · exact stamp_Decode_ok s w h
  · exact stamp_Decode_no s w h hz
end Go.Proofs.YtjhmfljlclajnabDoor

namespace Wb
open Go Go.RowKit
def tellM : Mrk := ⟨1, 7, 2, [], []⟩
def tellD : Dsk := ⟨(List.replicate 37 (fit ⟨#[]⟩)).set 0 (markS tellM), []⟩
theorem tellM_ok : markE tellM = 0 := by decide
theorem markS_size {m : Mrk} (h : markE m = 0) : (markS m).size = 32 := by
  unfold markS
  rw [if_pos h]
  exact (raw_enc h).1.1
theorem zero_no : decE (fit ⟨#[]⟩) = 1 := by
  refine (dec_no fun h => ?_).2
  have := h.1.2
  revert this
  decide
theorem tellD_good : goodD tellD = true := by
  refine (goodD_iff _).2 ⟨by simp [tellD], by simp [tellD], ?_, by simp [tellD]⟩
  rw [List.all_eq_true]
  intro x hx
  unfold tellD at hx
  rcases List.mem_or_eq_of_mem_set hx with hx | rfl
  · rw [List.eq_of_mem_replicate hx]
    exact decide_eq_true (fit_size _)
  · exact decide_eq_true (markS_size tellM_ok)
theorem tell_0 : readD tellD 0 = markS tellM := by
  unfold readD
  rw [if_pos ⟨tellD_good, by decide⟩]
  rfl
theorem tell_e : readE tellD 0 = 0 := by
  unfold readE
  rw [if_pos ⟨tellD_good, by decide⟩]
theorem tell_log (k : Nat) (hk : k < 24) : readD tellD (1 + (k : Int)) = fit ⟨#[]⟩ := by
  unfold readD
  rw [if_pos ⟨tellD_good, decide_eq_true (by omega)⟩]
  show lastT _ _ [] = _
  rw [lastT_nil]
  unfold safeAt tellD
  have e : (1 + (k : Int)).toNat = k + 1 := by omega
  rw [e, List.getD_eq_getElem?_getD, List.getElem?_set_ne (by omega), List.getElem?_replicate, if_pos (by omega)]
  rfl
theorem tell_logL : ∃ r, logL tellD 2 = fit ⟨#[]⟩ :: r := by
  refine ⟨(logL tellD 2).tail, ?_⟩
  have h : (logL tellD 2).head? = some (fit ⟨#[]⟩) := by
    have e : (logL tellD 2).head? = some (readD tellD (1 + (2 + ((0 : Nat) : Int)) % 24)) := rfl
    rw [e]
    exact congrArg some (tell_log 2 (by decide))
  cases hl : logL tellD 2 with
  | nil => rw [hl] at h; cases h
  | cons s r =>
    rw [hl] at h
    simp only [List.head?_cons, Option.some.injEq] at h
    rw [h]; rfl
theorem tell_dec : decE (markS tellM) = 0 ∧ decM (markS tellM) = tellM := by
  have := dec_enc tellM_ok
  unfold markS
  rw [if_pos tellM_ok]
  exact ⟨this.2.2, this.2.1⟩
theorem tell_E : scanE tellD = 0 := by
  unfold scanE
  rw [if_pos tell_e, tell_0, if_pos ⟨tell_dec.1, by rw [tell_dec.2]; rfl⟩]
theorem tell_F : scanF tellD = ⟨[], 7, 2⟩ := by
  unfold scanF
  rw [if_pos tell_E, tell_0, tell_dec.2]
  have hg : scanGo 25 (logL tellD tellM.at_) tellM.seq = ([], 7, logL tellD 2) := by
    have hl : 25 = (logL tellD 2).length + 1 := by rw [logL_len]
    show scanGo 25 (logL tellD 2) 7 = _
    rw [hl]
    refine scanGo_stop ?_
    obtain ⟨r, hr⟩ := tell_logL
    rw [hr]
    exact parse_bad (fun h => by rw [zero_no] at h; exact absurd h.1 (by decide))
  rw [hg]
  show (⟨[], 7, (2 + (24 - ((logL tellD 2).length : Int))) % 24⟩ : Fnd) = _
  rw [logL_len]
  rfl
end Wb

namespace Go.Proofs.YtjhmfljlclajnabDoor
open Go.RowKit Wb
set_option linter.unusedVariables false
set_option linter.unusedSimpArgs false
set_option maxRecDepth 100000
set_option maxHeartbeats 1000000

theorem after_end (s : ByteArray) (n : Int) (ws : List Wr) : ∃ q, (afterL s n ws).length = q + 1 ∧ (afterL s n ws)[q]? = some (lastT s n ws) := by
  have h := after_last s n ws
  rw [List.getLast?_eq_getElem?] at h
  have hl := (List.getElem?_eq_some_iff.1 h).1
  exact ⟨(afterL s n ws).length - 1, by omega, h⟩

end Go.Proofs.YtjhmfljlclajnabDoor

namespace Go.Proofs.YtjhmfljlclajnabDoor
open Go.RowKit Wb
set_option linter.unusedVariables false
set_option linter.unusedSimpArgs false
set_option maxRecDepth 100000
set_option maxHeartbeats 1000000

theorem disk_New (w : World) :
    Calls Tryd.prog 60 #[] w fun e w' => ∃ vs, e = .returned (.agg #[vs, .slice none 0 0]) ∧ Wb.Own strC (w.heap.size + 2) 9 1 w' vs (List.replicate 37 (fit ⟨#[]⟩)) ∧ Below w.heap.size w w' := by
  have hFit := fun w => disk_Fit ⟨#[]⟩ w (by decide)
  have hrep := fun k => (List.replicate_succ' (n := k) (a := fit ⟨#[]⟩))
  generalize fit ⟨#[]⟩ = z at *
  replace hFit := hid hFit
  replace hrep := hid hrep
  go_enter Tryd.func60, Tryd.ntmps60
  go_wp2
  go_loopw [2] (fun i wr => ∃ k : Nat, k ≤ 37 ∧ i = .int .i64 k ∧ ∃ vo, Wb.Own strC (w.heap.size + 2) 9 1 wr vo (List.replicate k z) ∧ Blk wr w.heap.size #[.slice none 0 0, .slice none 0 0] 55 ∧ Blk wr (w.heap.size + 1) #[vo, .slice none 0 0] 55 ∧ Below w.heap.size w wr) (fun i _ => 37 - (intOf i).toNat)
  case atStart => exact ⟨0, by decide, rfl, _, Own.nil _ _ _ _ _, (Blk.new w _ _).alloc _, Blk.newAt (by simp), by repeat (first | exact Below.refl _ _ | with_reducible assumption | (refine allocB ?_ (by first | omega | (simp; done) | (simp; omega)) _) | (refine Below.setCell ?_ (by first | omega | (simp; done) | (simp; omega)) _) | refine Below.drew ?_ | (refine Below.trans ?_ (Below.mono (by with_reducible assumption) (by first | omega | (simp; done) | (simp; omega)))))⟩
  case round =>
    obtain ⟨k, hk, rfl, vo, hown, k0, k1, hnx⟩ := hrel
    obtain ⟨ao, capo, rfl⟩ := hown.form
    have lt0 := k0.lt
    have lt1 := k1.lt
    have c0 := k0.cell 0
    have c1 := k0.cell 1
    have c2 := k1.cell 0
    have c3 := k1.cell 1
    simp only [List.getElem?_toArray, List.getElem?_cons_zero, List.getElem?_cons_succ] at c0 c1 c2 c3
    have hkl : (List.replicate k z).length = k := List.length_replicate
    rw [hkl] at hown k1 c2
    clear hkl
    by_cases hlt : k < 37
    · have hr := hid (hrep.out k)
      have hlen : (List.replicate k z).length = k := List.length_replicate
      generalize List.replicate k z = Mk at *
      go_wp2
      go_region_law (first
        | (refine step_call 68 _ _ (by rfl) (by rfl) #[.string ⟨#[]⟩] (by rfl) ⟨_, _, Tryd.func68, by kernel_rfl, rfl⟩ (hFit.out _) ?_; rintro e w3 ⟨rfl, hb3⟩; refine ⟨_, rfl, ?_⟩; have k0' := k0.drew.step hb3; have k1' := k1.drew.step hb3; have c2' := k1'.cell 0; simp only [List.getElem?_toArray, List.getElem?_cons_zero, List.getElem?_cons_succ] at c2'; have hown3 := hown.drew.below hb3; have hnx3 := hnx.drew.trans (hb3.mono (by simp; omega)); have lt1' := k1'.lt)
        | go_loud (refine step_push (by rfl) _ _ 52 (by rfl) (w.heap.size + 2) _ 1 16 strC_flat elemStr (hown3.alloc _) (by rfl) z w3.heap.size (Blk.newAt (w := w3) rfl) (by rfl) (by rfl) k hlen (by omega) (by omega) (by (try simp); omega) ?_; intro a4 cap4 w4 hown4 hb4 _; have k4 := (k1'.alloc _).below hb4 (by omega); have f5 := k4.cell 0; simp only [List.getElem?_toArray, List.getElem?_cons_zero, List.getElem?_cons_succ] at f5; have f6 := k4.free 0))
      all_goals
        go_wp2
        go_roundw
        case rel => exact ⟨k + 1, by omega, by go_num, _, by rw [hr.out]; exact hown4.setCell (p := ⟨w.heap.size + 1, 0, none⟩) (by simp) _, ((k0'.alloc _).below hb4 (by omega)).set_other _ _ (by simp), k4.set 0 _, ((allocB hnx3 (by omega) _).trans (hb4.mono (by omega))).setCell (by simp) _⟩
        case measure => simp [intOf]; omega
    · obtain rfl : k = 37 := by omega
      have f1 := k0.free 0
      have f2 := k0.free 1
      go_wp2
      have hF : Below w.heap.size w ((wr.setCell ⟨w.heap.size, 0, none⟩ (.slice ao 37 capo)).setCell ⟨w.heap.size, 1, none⟩ (.slice none 0 0)) := (hnx.setCell (by simp) _).setCell (by simp) _
      have ho := (hown.setCell (p := ⟨w.heap.size, 0, none⟩) (by simp) (.slice ao 37 capo)).setCell (p := ⟨w.heap.size, 1, none⟩) (by simp) (.slice none 0 0)
      exact bodyPost_ret (v := .agg #[.slice ao 37 capo, .slice none 0 0]) (by simp [results, Tryd.results60, go_sem, c0, c1]) rfl ⟨_, rfl, ho, hF⟩

def fillL (z : ByteArray) (k : Nat) : List ByteArray := List.replicate k z ++ List.replicate (37 - k) ⟨#[]⟩
theorem fillL_set (z : ByteArray) {k : Nat} (hk : k < 37) : (fillL z k).set k z = fillL z (k + 1) := by
  unfold fillL
  rw [List.set_append_right _ _ (by simp), List.length_replicate, Nat.sub_self, show 37 - k = (37 - (k + 1)) + 1 by omega, List.replicate_succ, List.set_cons_zero, List.replicate_succ', List.append_assoc]
  rfl
theorem fillL_len (z : ByteArray) {k : Nat} (hk : k ≤ 37) : (fillL z k).length = 37 := by simp [fillL]; omega

end Go.Proofs.YtjhmfljlclajnabDoor

namespace Wb
open Go Go.RowKit
theorem Own.blk_ne {α : Type} {f : α → List Value} {base : Nat} {e : TypeId} {c : Nat} {w : World} {v : Value} {l : List α} (h : Own f base e c w v l) {b : Nat} {cs : Array Value} {t : TypeId} (hb : Blk w b cs t) (hne : e ≠ t) : some b ≠ v.ownBlock := by
  intro hh
  obtain ⟨cur, hc⟩ := h.cellsOf hh.symm
  unfold Blk at hb
  rw [hc] at hb
  simp only [Option.some.injEq, Obj.cells.injEq] at hb
  exact hne hb.2.1
theorem gNew {α : Type} {f : α → List Value} {base : Nat} {e : TypeId} {c : Nat} {w w1 w2 : World} {row : Option Nat} {v : Value} {l : List α} (h : w.grownBy w1 row) (h2 : w1.grownBy w2 v.ownBlock) (ho : Own f base e c w1 v l) (hb : w.heap.size ≤ base) : w.grownBy w2 row :=
  ⟨h2.os.trans h.os, h2.tape.trans h.tape, h2.output.trans h.output, Nat.le_trans h.size h2.size, fun k hk hne => (h2.block k (Nat.lt_of_lt_of_le hk h.size) (fun hh => by have := (World.ownsRow.lt ho k hh.symm).1; omega)).trans (h.block k hk hne)⟩
theorem gAlloc {w w1 : World} {row : Option Nat} (h : w.grownBy w1 row) (o : Obj) : w.grownBy (w1.alloc o) row := gTrans h (World.grownBy_alloc w1 o row)
theorem gSets {w : World} {row : Option Nat} : ∀ (ps : List (Addr × Value)) (w' : World), w.grownBy w' row → (∀ p ∈ ps, w.heap.size ≤ p.1.block) → w.grownBy (ps.foldl (fun w p => w.setCell p.1 p.2) w') row
  | [], _, h, _ => h
  | p :: ps, w', h, hp => gSets ps _ (⟨h.os, h.tape, h.output, by simpa using h.size, fun k hk hne => by rw [Below.heap_setCell w' p.1 p.2 k (fun hh => by have := hp p (by simp); omega)]; exact h.block k hk hne⟩) (fun q hq => hp q (by simp [hq]))
theorem Blk.setCells {b : Nat} {cs : Array Value} {t : TypeId} : ∀ (ps : List (Addr × Value)) (w : World), Blk w b cs t → (∀ p ∈ ps, b ≠ p.1.block) → Blk (ps.foldl (fun w p => w.setCell p.1 p.2) w) b cs t
  | [], _, h, _ => h
  | p :: ps, _, h, hp => Blk.setCells ps _ (h.set_other p.1 p.2 (hp p (by simp))) (fun q hq => hp q (by simp [hq]))
theorem gDrew {w w1 : World} {row : Option Nat} (h : w.grownBy w1 row) : w.grownBy w1.drew row := ⟨h.os, h.tape, h.output, h.size, h.block⟩
theorem gBnew {w w1 w2 : World} {row : Option Nat} (h : w.grownBy w1 row) (h2 : Below w1.heap.size w1 w2) : w.grownBy w2 row := gTrans h (gB h2 row)
theorem parse_cons (seq : Int) (n : Nat) (s : ByteArray) (r : List ByteArray) (t : Txn) : parseT seq (n + 1) (s :: r) t =
    if decE s = 0 ∧ (decM s).seq = seq then
      if (decM s).kind = 4 then some (t, r)
      else if (decM s).kind = 3 then parseT seq n r { t with rev := t.rev ++ (decM s).blocks }
      else if (decM s).kind = 2 then
        match takeTags (decM s).tags r t.mt with
        | some (mt, r') => parseT seq n r' { t with mt := mt }
        | none => none
      else none
    else none := rfl
end Wb
namespace Go.Proofs.YtjhmfljlclajnabDoor
open Go.RowKit Wb
set_option linter.unusedVariables false
set_option linter.unusedSimpArgs false
set_option maxRecDepth 100000
set_option maxHeartbeats 40000000
def DecodeSaid : Prop := ∀ (s : ByteArray) (w : World), s.size ≤ 9223372036854775807 → Calls Tryd.prog 58 #[.string s] w fun e w' => ∃ v, e = .returned (.tuple #[v, .int .i64 (decE s)]) ∧ OMark w.heap.size w' v (decM s) ∧ Below w.heap.size w w'
def OneP (seq : Int) (r0 : List ByteArray) (br : Nat) (vs vw : Value) (A : Int) (w : World) (e : Ending) (w' : World) : Prop :=
  (∃ t r', parseT seq 25 r0 (txn0 seq) = some (t, r') ∧ ∃ v, e = .returned (.tuple #[v, .bool true]) ∧ OTxn w.heap.size 74 3 w' v t ∧ Blk w' br (rdrC vs vw A r'.length) 108 ∧ w.grownBy w' (some br)) ∨
  (parseT seq 25 r0 (txn0 seq) = none ∧ e = .returned (.tuple #[.agg #[.int .i64 0, .slice none 0 0, .slice none 0 0, .slice none 0 0, .bool false, .int .i64 0, .bool false, .int .i64 0, .bool false, .int .i64 0], .bool false]) ∧ ∃ n, Blk w' br (rdrC vs vw A n) 108 ∧ w.grownBy w' (some br))

theorem scan_one (hDec : DecodeSaid) (d : Dsk) (W : World) (br : Nat) (vs vw : Value) (A seq : Int) (r0 : List ByteArray) (w : World) (hW : Below W.heap.size W w) (hd : RDisk W (.agg #[vs, vw]) d) (hbr : W.heap.size ≤ br) (hs0 : sfx d A r0) (hsz : ∀ s ∈ r0, s.size ≤ 9223372036854775807)
    (kb : Blk w br (rdrC vs vw A r0.length) 108) :
    Calls Tryd.prog 59 #[.pointer (some ⟨br, 0, none⟩), .int .i64 seq] w fun e w' => OneP seq r0 br vs vw A w e w' := by
  have hN0 := fun w k => next_nil br vs vw A w k
  have hN1 := fun s r w hd k hs => next_cons d br vs vw A s r w hd k hs
  have hU := fun s e w hs => stamp_Unescape s e w hs
  have hbw := kb.lt
  have hwW := hW.size
  have hr24 := hs0.2
  have hp0 := hid (parseT_fuel (seq := seq) (n := r0.length + 1) (m := 25) (r := r0) (t := txn0 seq) (by omega) (by omega))
  replace hN0 := hid hN0; replace hN1 := hid hN1; replace hU := hid hU; replace hd := hid hd; replace hsz := hid hsz; replace hs0 := hid hs0; replace hDec := hid hDec
  have k40 : Blk ((w.alloc (.cells #[.int .i64 0, .slice none 0 0, .slice none 0 0, .slice none 0 0, .bool false, .int .i64 0, .bool false, .int .i64 0, .bool false, .int .i64 0] 30)).alloc (.cells #[.int .i64 seq, .slice none 0 0, .slice none 0 0, .slice none 0 0, .bool false, .int .i64 0, .bool false, .int .i64 0, .bool false, .int .i64 0] 30)) w.heap.size #[.int .i64 0, .slice none 0 0, .slice none 0 0, .slice none 0 0, .bool false, .int .i64 0, .bool false, .int .i64 0, .bool false, .int .i64 0] 30 := (Blk.new w _ _).alloc _
  have k60 : Blk ((w.alloc (.cells #[.int .i64 0, .slice none 0 0, .slice none 0 0, .slice none 0 0, .bool false, .int .i64 0, .bool false, .int .i64 0, .bool false, .int .i64 0] 30)).alloc (.cells #[.int .i64 seq, .slice none 0 0, .slice none 0 0, .slice none 0 0, .bool false, .int .i64 0, .bool false, .int .i64 0, .bool false, .int .i64 0] 30)) (w.heap.size + 1) #[.int .i64 seq, .slice none 0 0, .slice none 0 0, .slice none 0 0, .bool false, .int .i64 0, .bool false, .int .i64 0, .bool false, .int .i64 0] 30 := Blk.newAt (by simp)
  have kb0 := (kb.alloc (.cells #[.int .i64 0, .slice none 0 0, .slice none 0 0, .slice none 0 0, .bool false, .int .i64 0, .bool false, .int .i64 0, .bool false, .int .i64 0] 30)).alloc (.cells #[.int .i64 seq, .slice none 0 0, .slice none 0 0, .slice none 0 0, .bool false, .int .i64 0, .bool false, .int .i64 0, .bool false, .int .i64 0] 30)
  have g0 : w.grownBy ((w.alloc (.cells #[.int .i64 0, .slice none 0 0, .slice none 0 0, .slice none 0 0, .bool false, .int .i64 0, .bool false, .int .i64 0, .bool false, .int .i64 0] 30)).alloc (.cells #[.int .i64 seq, .slice none 0 0, .slice none 0 0, .slice none 0 0, .bool false, .int .i64 0, .bool false, .int .i64 0, .bool false, .int .i64 0] 30)) (some br) := gB (bal (bal (b0 w) _) _) _
  have s0 : w.heap.size + 2 ≤ ((w.alloc (.cells #[.int .i64 0, .slice none 0 0, .slice none 0 0, .slice none 0 0, .bool false, .int .i64 0, .bool false, .int .i64 0, .bool false, .int .i64 0] 30)).alloc (.cells #[.int .i64 seq, .slice none 0 0, .slice none 0 0, .slice none 0 0, .bool false, .int .i64 0, .bool false, .int .i64 0, .bool false, .int .i64 0] 30)).heap.size := by simp
  go_enter Tryd.func59, Tryd.ntmps59
  go_wp2
  go_loopg [7] r0.length (fun g _ wr => ∃ (r : List ByteArray) (mt : List Cpy) (rev : List Int), g = r.length ∧ Hid (sfx d A r) ∧ Hid (∀ s ∈ r, s.size ≤ 9223372036854775807) ∧ Hid (parseT seq (r.length + 1) r ⟨seq, mt, [], rev, hnd0, hnd0, hnd0⟩ = parseT seq 25 r0 (txn0 seq)) ∧ ∃ vm vr, Wb.Own cpyC (w.heap.size + 2) 74 2 wr vm mt ∧ Wb.Own intC (w.heap.size + 2) 3 1 wr vr rev ∧ Blk wr w.heap.size #[.int .i64 0, .slice none 0 0, .slice none 0 0, .slice none 0 0, .bool false, .int .i64 0, .bool false, .int .i64 0, .bool false, .int .i64 0] 30 ∧ Blk wr (w.heap.size + 1) #[.int .i64 seq, vm, .slice none 0 0, vr, .bool false, .int .i64 0, .bool false, .int .i64 0, .bool false, .int .i64 0] 30 ∧ Blk wr br (rdrC vs vw A r.length) 108 ∧ w.grownBy wr (some br) ∧ w.heap.size + 2 ≤ wr.heap.size ∧ rev.length + 20 * r.length ≤ 480 ∧ mt.length + r.length ≤ 24)
  case atStart => exact ⟨r0, [], [], rfl, hs0, hsz, hp0, _, _, Own.nil _ _ _ _ _, Own.nil _ _ _ _ _, k40, k60, kb0, g0, s0, by simp; omega, by simp; omega⟩
  case round =>
    clear k40 k60 kb0 g0 hp0 hs0 hsz s0
    obtain ⟨r, mt, rev, rfl, hs, hsz, hp, vm, vr, om, or_, k4, k6, kb, g, hg2, hb1, hb2⟩ := hrel
    obtain ⟨am, cm, rfl⟩ := om.form
    obtain ⟨ar, cr, rfl⟩ := or_.form
    have lt4 := k4.lt
    have lt6 := k6.lt
    have nx := gBelow g hW hwW hbr
    cases r with
    | nil =>
      have hno := hid (hp.out.symm.trans rfl : parseT seq 25 r0 (txn0 seq) = none)
      clear hp hs hsz
      have z0 := k4.cell 0; have z1 := k4.cell 1; have z2 := k4.cell 2; have z3 := k4.cell 3; have z4 := k4.cell 4; have z5 := k4.cell 5; have z6 := k4.cell 6; have z7 := k4.cell 7; have z8 := k4.cell 8; have z9 := k4.cell 9
      have f0 := k4.free 0; have f1 := k4.free 1; have f2 := k4.free 2; have f3 := k4.free 3; have f4 := k4.free 4; have f5 := k4.free 5; have f6 := k4.free 6; have f7 := k4.free 7; have f8 := k4.free 8; have f9 := k4.free 9
      simp only [List.getElem?_toArray, List.getElem?_cons_zero, List.getElem?_cons_succ] at z0 z1 z2 z3 z4 z5 z6 z7 z8 z9
      go_wp2_with (go_at_call 82; go_loud ((with_reducible refine (hN0.out _ kb).mono ?_); rintro e w1 ⟨rfl, rfl⟩))
      have kz := (Blk.setCells [(⟨w.heap.size, 0, none⟩, .int .i64 0), (⟨w.heap.size, 1, none⟩, .slice none 0 0), (⟨w.heap.size, 2, none⟩, .slice none 0 0), (⟨w.heap.size, 3, none⟩, .slice none 0 0), (⟨w.heap.size, 4, none⟩, .bool false), (⟨w.heap.size, 5, none⟩, .int .i64 0), (⟨w.heap.size, 6, none⟩, .bool false), (⟨w.heap.size, 7, none⟩, .int .i64 0), (⟨w.heap.size, 8, none⟩, .bool false), (⟨w.heap.size, 9, none⟩, .int .i64 0)] _ kb (by simp; omega))
      have gz := gSets [(⟨w.heap.size, 0, none⟩, .int .i64 0), (⟨w.heap.size, 1, none⟩, .slice none 0 0), (⟨w.heap.size, 2, none⟩, .slice none 0 0), (⟨w.heap.size, 3, none⟩, .slice none 0 0), (⟨w.heap.size, 4, none⟩, .bool false), (⟨w.heap.size, 5, none⟩, .int .i64 0), (⟨w.heap.size, 6, none⟩, .bool false), (⟨w.heap.size, 7, none⟩, .int .i64 0), (⟨w.heap.size, 8, none⟩, .bool false), (⟨w.heap.size, 9, none⟩, .int .i64 0)] _ g (by simp)
      exact bodyPost_ret (v := .tuple #[.agg #[.int .i64 0, .slice none 0 0, .slice none 0 0, .slice none 0 0, .bool false, .int .i64 0, .bool false, .int .i64 0, .bool false, .int .i64 0], .bool false]) (by simp [results, Tryd.results59, go_sem, z0, z1, z2, z3, z4, z5, z6, z7, z8, z9]) rfl (.inr ⟨hno.out, rfl, _, kz, gz⟩)
    | cons s r =>
      have hDs := hDec.out s
      have hbd := fun h => dec_bds (s := s) h
      have hp1 := hp.out
      simp only [List.length_cons] at hp1 hb1 hb2 kb
      rw [parse_cons] at hp1
      have hsz1 := hsz.out s (by simp)
      have hsz2 := hid (fun x (hx : x ∈ r) => hsz.out x (by simp [hx]))
      have hs2 := hid (sfx_cons hs.out).1
      have hr24' := (sfx_cons hs.out).2.2
      generalize decM s = M at *
      generalize decE s = de at *
      obtain ⟨mk, ms, ma, tags, blocks⟩ := M
      dsimp only at hDs hbd hp1
      replace hDs := hid hDs
      by_cases hc : de = 0 ∧ ms = seq
      rotate_left
      · rw [if_neg hc] at hp1
        have hno := hid hp1.symm
        clear hp1 hp hbd hsz hsz2
        by_cases hde : de = 0
        · have hms : (ms != seq) = true := bne_iff_ne.2 (fun h => hc ⟨hde, h⟩)
          have hde2 : (de != 0) = false := by rw [hde]; rfl
          clear hc hde
          go_wp2_with ((go_at_call 82; go_loud ((with_reducible refine (hN1.out s r _ (hd.out.below nx) kb hs.out).mono ?_); rintro e w1 ⟨rfl, kb1, gn⟩; replace om := om.grownBlk kb (by decide) gn; replace or_ := or_.grownBlk kb (by decide) gn; replace k4 := k4.grown gn (by simp; omega); replace k6 := k6.grown gn (by simp; omega); replace kb := kb1; replace g := gTrans g gn; replace nx := gBelow g hW hwW hbr; have lt4 := k4.lt; have lt6 := k6.lt)))
          go_wp2_with ((go_at_call 58; go_loud ((with_reducible refine (hDs.out _ hsz1).mono ?_); rintro e w2 ⟨v2, rfl, hmk, hb⟩; obtain ⟨vt, vb, rfl, ot, ob, t1, t2⟩ := hmk; dsimp only at ot ob t1 t2 ⊢; obtain ⟨at_, ct, rfl⟩ := ot.form; obtain ⟨ab, cb, rfl⟩ := ob.form; replace om := om.below hb; replace or_ := or_.below hb; replace k4 := k4.step hb; replace k6 := k6.step hb; replace kb := kb.step hb; replace g := gBnew g hb; replace nx := nx.trans (hb.mono nx.size); have lt4 := k4.lt; have lt6 := k6.lt; (try clear z0 z1 z2 z3 z4 z5 z6 z7 z8 z9); (try clear f0 f1 f2 f3 f4 f5 f6 f7 f8 f9); have z0 := k4.cell 0; have z1 := k4.cell 1; have z2 := k4.cell 2; have z3 := k4.cell 3; have z4 := k4.cell 4; have z5 := k4.cell 5; have z6 := k4.cell 6; have z7 := k4.cell 7; have z8 := k4.cell 8; have z9 := k4.cell 9; have f0 := k4.free 0; have f1 := k4.free 1; have f2 := k4.free 2; have f3 := k4.free 3; have f4 := k4.free 4; have f5 := k4.free 5; have f6 := k4.free 6; have f7 := k4.free 7; have f8 := k4.free 8; have f9 := k4.free 9; simp only [List.getElem?_toArray, List.getElem?_cons_zero, List.getElem?_cons_succ] at z0 z1 z2 z3 z4 z5 z6 z7 z8 z9; have kb2 := hid kb; have g2 := hid g; have om2 := hid om; have or2 := hid or_; have lt42 := k4.lt; have km := Blk.new w2 #[.int .i64 mk, .int .i64 ms, .int .i64 ma, .slice at_ tags.length ct, .slice ab blocks.length cb] 81; have lg2 := g.size; replace ot := ot.alloc (.cells #[.int .i64 mk, .int .i64 ms, .int .i64 ma, .slice at_ tags.length ct, .slice ab blocks.length cb] 81); replace ob := ob.alloc (.cells #[.int .i64 mk, .int .i64 ms, .int .i64 ma, .slice at_ tags.length ct, .slice ab blocks.length cb] 81); have lw12 := hb.size; replace om := om.alloc (.cells #[.int .i64 mk, .int .i64 ms, .int .i64 ma, .slice at_ tags.length ct, .slice ab blocks.length cb] 81); replace or_ := or_.alloc (.cells #[.int .i64 mk, .int .i64 ms, .int .i64 ma, .slice at_ tags.length ct, .slice ab blocks.length cb] 81); replace k4 := k4.alloc (.cells #[.int .i64 mk, .int .i64 ms, .int .i64 ma, .slice at_ tags.length ct, .slice ab blocks.length cb] 81); replace k6 := k6.alloc (.cells #[.int .i64 mk, .int .i64 ms, .int .i64 ma, .slice at_ tags.length ct, .slice ab blocks.length cb] 81); replace kb := kb.alloc (.cells #[.int .i64 mk, .int .i64 ms, .int .i64 ma, .slice at_ tags.length ct, .slice ab blocks.length cb] 81); replace g := gAlloc g (.cells #[.int .i64 mk, .int .i64 ms, .int .i64 ma, .slice at_ tags.length ct, .slice ab blocks.length cb] 81); replace nx := bal nx (.cells #[.int .i64 mk, .int .i64 ms, .int .i64 ma, .slice at_ tags.length ct, .slice ab blocks.length cb] 81); have lt4 := k4.lt; have lt6 := k6.lt)))
          have kz := (Blk.setCells [(⟨w.heap.size, 0, none⟩, .int .i64 0), (⟨w.heap.size, 1, none⟩, .slice none 0 0), (⟨w.heap.size, 2, none⟩, .slice none 0 0), (⟨w.heap.size, 3, none⟩, .slice none 0 0), (⟨w.heap.size, 4, none⟩, .bool false), (⟨w.heap.size, 5, none⟩, .int .i64 0), (⟨w.heap.size, 6, none⟩, .bool false), (⟨w.heap.size, 7, none⟩, .int .i64 0), (⟨w.heap.size, 8, none⟩, .bool false), (⟨w.heap.size, 9, none⟩, .int .i64 0)] _ kb2.out (by simp; omega)).alloc (.cells #[.int .i64 mk, .int .i64 ms, .int .i64 ma, .slice at_ tags.length ct, .slice ab blocks.length cb] 81)
          have gz := gAlloc (gSets [(⟨w.heap.size, 0, none⟩, .int .i64 0), (⟨w.heap.size, 1, none⟩, .slice none 0 0), (⟨w.heap.size, 2, none⟩, .slice none 0 0), (⟨w.heap.size, 3, none⟩, .slice none 0 0), (⟨w.heap.size, 4, none⟩, .bool false), (⟨w.heap.size, 5, none⟩, .int .i64 0), (⟨w.heap.size, 6, none⟩, .bool false), (⟨w.heap.size, 7, none⟩, .int .i64 0), (⟨w.heap.size, 8, none⟩, .bool false), (⟨w.heap.size, 9, none⟩, .int .i64 0)] _ g2.out (by simp)) (.cells #[.int .i64 mk, .int .i64 ms, .int .i64 ma, .slice at_ tags.length ct, .slice ab blocks.length cb] 81)
          exact bodyPost_ret (v := .tuple #[.agg #[.int .i64 0, .slice none 0 0, .slice none 0 0, .slice none 0 0, .bool false, .int .i64 0, .bool false, .int .i64 0, .bool false, .int .i64 0], .bool false]) (by simp [results, Tryd.results59, go_sem, z0, z1, z2, z3, z4, z5, z6, z7, z8, z9, lt42]) rfl (.inr ⟨hno.out, rfl, _, kz, gz⟩)
        · have hde2 : (de != 0) = true := bne_iff_ne.2 hde
          clear hc hde
          go_wp2_with ((go_at_call 82; go_loud ((with_reducible refine (hN1.out s r _ (hd.out.below nx) kb hs.out).mono ?_); rintro e w1 ⟨rfl, kb1, gn⟩; replace om := om.grownBlk kb (by decide) gn; replace or_ := or_.grownBlk kb (by decide) gn; replace k4 := k4.grown gn (by simp; omega); replace k6 := k6.grown gn (by simp; omega); replace kb := kb1; replace g := gTrans g gn; replace nx := gBelow g hW hwW hbr; have lt4 := k4.lt; have lt6 := k6.lt)))
          go_wp2_with ((go_at_call 58; go_loud ((with_reducible refine (hDs.out _ hsz1).mono ?_); rintro e w2 ⟨v2, rfl, hmk, hb⟩; obtain ⟨vt, vb, rfl, ot, ob, t1, t2⟩ := hmk; dsimp only at ot ob t1 t2 ⊢; obtain ⟨at_, ct, rfl⟩ := ot.form; obtain ⟨ab, cb, rfl⟩ := ob.form; replace om := om.below hb; replace or_ := or_.below hb; replace k4 := k4.step hb; replace k6 := k6.step hb; replace kb := kb.step hb; replace g := gBnew g hb; replace nx := nx.trans (hb.mono nx.size); have lt4 := k4.lt; have lt6 := k6.lt; (try clear z0 z1 z2 z3 z4 z5 z6 z7 z8 z9); (try clear f0 f1 f2 f3 f4 f5 f6 f7 f8 f9); have z0 := k4.cell 0; have z1 := k4.cell 1; have z2 := k4.cell 2; have z3 := k4.cell 3; have z4 := k4.cell 4; have z5 := k4.cell 5; have z6 := k4.cell 6; have z7 := k4.cell 7; have z8 := k4.cell 8; have z9 := k4.cell 9; have f0 := k4.free 0; have f1 := k4.free 1; have f2 := k4.free 2; have f3 := k4.free 3; have f4 := k4.free 4; have f5 := k4.free 5; have f6 := k4.free 6; have f7 := k4.free 7; have f8 := k4.free 8; have f9 := k4.free 9; simp only [List.getElem?_toArray, List.getElem?_cons_zero, List.getElem?_cons_succ] at z0 z1 z2 z3 z4 z5 z6 z7 z8 z9; have kb2 := hid kb; have g2 := hid g; have om2 := hid om; have or2 := hid or_; have lt42 := k4.lt; have km := Blk.new w2 #[.int .i64 mk, .int .i64 ms, .int .i64 ma, .slice at_ tags.length ct, .slice ab blocks.length cb] 81; have lg2 := g.size; replace ot := ot.alloc (.cells #[.int .i64 mk, .int .i64 ms, .int .i64 ma, .slice at_ tags.length ct, .slice ab blocks.length cb] 81); replace ob := ob.alloc (.cells #[.int .i64 mk, .int .i64 ms, .int .i64 ma, .slice at_ tags.length ct, .slice ab blocks.length cb] 81); have lw12 := hb.size; replace om := om.alloc (.cells #[.int .i64 mk, .int .i64 ms, .int .i64 ma, .slice at_ tags.length ct, .slice ab blocks.length cb] 81); replace or_ := or_.alloc (.cells #[.int .i64 mk, .int .i64 ms, .int .i64 ma, .slice at_ tags.length ct, .slice ab blocks.length cb] 81); replace k4 := k4.alloc (.cells #[.int .i64 mk, .int .i64 ms, .int .i64 ma, .slice at_ tags.length ct, .slice ab blocks.length cb] 81); replace k6 := k6.alloc (.cells #[.int .i64 mk, .int .i64 ms, .int .i64 ma, .slice at_ tags.length ct, .slice ab blocks.length cb] 81); replace kb := kb.alloc (.cells #[.int .i64 mk, .int .i64 ms, .int .i64 ma, .slice at_ tags.length ct, .slice ab blocks.length cb] 81); replace g := gAlloc g (.cells #[.int .i64 mk, .int .i64 ms, .int .i64 ma, .slice at_ tags.length ct, .slice ab blocks.length cb] 81); replace nx := bal nx (.cells #[.int .i64 mk, .int .i64 ms, .int .i64 ma, .slice at_ tags.length ct, .slice ab blocks.length cb] 81); have lt4 := k4.lt; have lt6 := k6.lt)))
          have kz := (Blk.setCells [(⟨w.heap.size, 0, none⟩, .int .i64 0), (⟨w.heap.size, 1, none⟩, .slice none 0 0), (⟨w.heap.size, 2, none⟩, .slice none 0 0), (⟨w.heap.size, 3, none⟩, .slice none 0 0), (⟨w.heap.size, 4, none⟩, .bool false), (⟨w.heap.size, 5, none⟩, .int .i64 0), (⟨w.heap.size, 6, none⟩, .bool false), (⟨w.heap.size, 7, none⟩, .int .i64 0), (⟨w.heap.size, 8, none⟩, .bool false), (⟨w.heap.size, 9, none⟩, .int .i64 0)] _ kb2.out (by simp; omega)).alloc (.cells #[.int .i64 mk, .int .i64 ms, .int .i64 ma, .slice at_ tags.length ct, .slice ab blocks.length cb] 81)
          have gz := gAlloc (gSets [(⟨w.heap.size, 0, none⟩, .int .i64 0), (⟨w.heap.size, 1, none⟩, .slice none 0 0), (⟨w.heap.size, 2, none⟩, .slice none 0 0), (⟨w.heap.size, 3, none⟩, .slice none 0 0), (⟨w.heap.size, 4, none⟩, .bool false), (⟨w.heap.size, 5, none⟩, .int .i64 0), (⟨w.heap.size, 6, none⟩, .bool false), (⟨w.heap.size, 7, none⟩, .int .i64 0), (⟨w.heap.size, 8, none⟩, .bool false), (⟨w.heap.size, 9, none⟩, .int .i64 0)] _ g2.out (by simp)) (.cells #[.int .i64 mk, .int .i64 ms, .int .i64 ma, .slice at_ tags.length ct, .slice ab blocks.length cb] 81)
          exact bodyPost_ret (v := .tuple #[.agg #[.int .i64 0, .slice none 0 0, .slice none 0 0, .slice none 0 0, .bool false, .int .i64 0, .bool false, .int .i64 0, .bool false, .int .i64 0], .bool false]) (by simp [results, Tryd.results59, go_sem, z0, z1, z2, z3, z4, z5, z6, z7, z8, z9, lt42]) rfl (.inr ⟨hno.out, rfl, _, kz, gz⟩)
      obtain ⟨hde, rfl⟩ := hc
      obtain ⟨q1, q2, _⟩ := hbd hde
      rw [if_pos ⟨hde, rfl⟩] at hp1
      have hde2 : (de != 0) = false := by rw [hde]; rfl
      have hms : (ms != ms) = false := by simp
      clear hbd hde hp hsz
      by_cases h4 : mk = 4
      · rw [if_pos h4] at hp1
        have e4 : (mk == 4) = true := beq_iff_eq.2 h4
        replace hp1 := hid hp1
        clear h4
        go_wp2_with ((go_at_call 82; go_loud ((with_reducible refine (hN1.out s r _ (hd.out.below nx) kb hs.out).mono ?_); rintro e w1 ⟨rfl, kb1, gn⟩; replace om := om.grownBlk kb (by decide) gn; replace or_ := or_.grownBlk kb (by decide) gn; replace k4 := k4.grown gn (by simp; omega); replace k6 := k6.grown gn (by simp; omega); replace kb := kb1; replace g := gTrans g gn; replace nx := gBelow g hW hwW hbr; have lt4 := k4.lt; have lt6 := k6.lt)))
        go_wp2_with ((((go_at_call 58; go_loud ((with_reducible refine (hDs.out _ hsz1).mono ?_); rintro e w2 ⟨v2, rfl, hmk, hb⟩; obtain ⟨vt, vb, rfl, ot, ob, t1, t2⟩ := hmk; dsimp only at ot ob t1 t2 ⊢; obtain ⟨at_, ct, rfl⟩ := ot.form; obtain ⟨ab, cb, rfl⟩ := ob.form; replace om := om.below hb; replace or_ := or_.below hb; replace k4 := k4.step hb; replace k6 := k6.step hb; replace kb := kb.step hb; replace g := gBnew g hb; replace nx := nx.trans (hb.mono nx.size); have lt4 := k4.lt; have lt6 := k6.lt; (try clear z0 z1 z2 z3 z4 z5 z6 z7 z8 z9); (try clear f0 f1 f2 f3 f4 f5 f6 f7 f8 f9); have z0 := k4.cell 0; have z1 := k4.cell 1; have z2 := k4.cell 2; have z3 := k4.cell 3; have z4 := k4.cell 4; have z5 := k4.cell 5; have z6 := k4.cell 6; have z7 := k4.cell 7; have z8 := k4.cell 8; have z9 := k4.cell 9; have f0 := k4.free 0; have f1 := k4.free 1; have f2 := k4.free 2; have f3 := k4.free 3; have f4 := k4.free 4; have f5 := k4.free 5; have f6 := k4.free 6; have f7 := k4.free 7; have f8 := k4.free 8; have f9 := k4.free 9; simp only [List.getElem?_toArray, List.getElem?_cons_zero, List.getElem?_cons_succ] at z0 z1 z2 z3 z4 z5 z6 z7 z8 z9; have kb2 := hid kb; have g2 := hid g; have om2 := hid om; have or2 := hid or_; have lt42 := k4.lt; have km := Blk.new w2 #[.int .i64 mk, .int .i64 ms, .int .i64 ma, .slice at_ tags.length ct, .slice ab blocks.length cb] 81; have lg2 := g.size; replace ot := ot.alloc (.cells #[.int .i64 mk, .int .i64 ms, .int .i64 ma, .slice at_ tags.length ct, .slice ab blocks.length cb] 81); replace ob := ob.alloc (.cells #[.int .i64 mk, .int .i64 ms, .int .i64 ma, .slice at_ tags.length ct, .slice ab blocks.length cb] 81); have lw12 := hb.size; replace om := om.alloc (.cells #[.int .i64 mk, .int .i64 ms, .int .i64 ma, .slice at_ tags.length ct, .slice ab blocks.length cb] 81); replace or_ := or_.alloc (.cells #[.int .i64 mk, .int .i64 ms, .int .i64 ma, .slice at_ tags.length ct, .slice ab blocks.length cb] 81); replace k4 := k4.alloc (.cells #[.int .i64 mk, .int .i64 ms, .int .i64 ma, .slice at_ tags.length ct, .slice ab blocks.length cb] 81); replace k6 := k6.alloc (.cells #[.int .i64 mk, .int .i64 ms, .int .i64 ma, .slice at_ tags.length ct, .slice ab blocks.length cb] 81); replace kb := kb.alloc (.cells #[.int .i64 mk, .int .i64 ms, .int .i64 ma, .slice at_ tags.length ct, .slice ab blocks.length cb] 81); replace g := gAlloc g (.cells #[.int .i64 mk, .int .i64 ms, .int .i64 ma, .slice at_ tags.length ct, .slice ab blocks.length cb] 81); replace nx := bal nx (.cells #[.int .i64 mk, .int .i64 ms, .int .i64 ma, .slice at_ tags.length ct, .slice ab blocks.length cb] 81); have lt4 := k4.lt; have lt6 := k6.lt))); have y0 := k6.cell 0; have y1 := k6.cell 1; have y2 := k6.cell 2; have y3 := k6.cell 3; have y4 := k6.cell 4; have y5 := k6.cell 5; have y6 := k6.cell 6; have y7 := k6.cell 7; have y8 := k6.cell 8; have y9 := k6.cell 9; simp only [List.getElem?_toArray, List.getElem?_cons_zero, List.getElem?_cons_succ] at y0 y1 y2 y3 y4 y5 y6 y7 y8 y9))
        have kz := (Blk.setCells [(⟨w.heap.size, 0, none⟩, .int .i64 ms), (⟨w.heap.size, 1, none⟩, .slice am mt.length cm), (⟨w.heap.size, 2, none⟩, .slice none 0 0), (⟨w.heap.size, 3, none⟩, .slice ar rev.length cr), (⟨w.heap.size, 4, none⟩, .bool false), (⟨w.heap.size, 5, none⟩, .int .i64 0), (⟨w.heap.size, 6, none⟩, .bool false), (⟨w.heap.size, 7, none⟩, .int .i64 0), (⟨w.heap.size, 8, none⟩, .bool false), (⟨w.heap.size, 9, none⟩, .int .i64 0)] _ kb2.out (by simp; omega)).alloc (.cells #[.int .i64 mk, .int .i64 ms, .int .i64 ma, .slice at_ tags.length ct, .slice ab blocks.length cb] 81)
        have gz := gAlloc (gSets [(⟨w.heap.size, 0, none⟩, .int .i64 ms), (⟨w.heap.size, 1, none⟩, .slice am mt.length cm), (⟨w.heap.size, 2, none⟩, .slice none 0 0), (⟨w.heap.size, 3, none⟩, .slice ar rev.length cr), (⟨w.heap.size, 4, none⟩, .bool false), (⟨w.heap.size, 5, none⟩, .int .i64 0), (⟨w.heap.size, 6, none⟩, .bool false), (⟨w.heap.size, 7, none⟩, .int .i64 0), (⟨w.heap.size, 8, none⟩, .bool false), (⟨w.heap.size, 9, none⟩, .int .i64 0)] _ g2.out (by simp)) (.cells #[.int .i64 mk, .int .i64 ms, .int .i64 ma, .slice at_ tags.length ct, .slice ab blocks.length cb] 81)
        have omz := (om2.out.setCells [(⟨w.heap.size, 0, none⟩, .int .i64 ms), (⟨w.heap.size, 1, none⟩, .slice am mt.length cm), (⟨w.heap.size, 2, none⟩, .slice none 0 0), (⟨w.heap.size, 3, none⟩, .slice ar rev.length cr), (⟨w.heap.size, 4, none⟩, .bool false), (⟨w.heap.size, 5, none⟩, .int .i64 0), (⟨w.heap.size, 6, none⟩, .bool false), (⟨w.heap.size, 7, none⟩, .int .i64 0), (⟨w.heap.size, 8, none⟩, .bool false), (⟨w.heap.size, 9, none⟩, .int .i64 0)] _ (by simp)).alloc (.cells #[.int .i64 mk, .int .i64 ms, .int .i64 ma, .slice at_ tags.length ct, .slice ab blocks.length cb] 81)
        have orz := (or2.out.setCells [(⟨w.heap.size, 0, none⟩, .int .i64 ms), (⟨w.heap.size, 1, none⟩, .slice am mt.length cm), (⟨w.heap.size, 2, none⟩, .slice none 0 0), (⟨w.heap.size, 3, none⟩, .slice ar rev.length cr), (⟨w.heap.size, 4, none⟩, .bool false), (⟨w.heap.size, 5, none⟩, .int .i64 0), (⟨w.heap.size, 6, none⟩, .bool false), (⟨w.heap.size, 7, none⟩, .int .i64 0), (⟨w.heap.size, 8, none⟩, .bool false), (⟨w.heap.size, 9, none⟩, .int .i64 0)] _ (by simp)).alloc (.cells #[.int .i64 mk, .int .i64 ms, .int .i64 ma, .slice at_ tags.length ct, .slice ab blocks.length cb] 81)
        have lm1 : mt.length ≤ 5864062014805 := by omega
        have lr1 : rev.length ≤ 17592186044160 := by omega
        exact bodyPost_ret (v := .tuple #[.agg #[.int .i64 ms, .slice am mt.length cm, .slice none 0 0, .slice ar rev.length cr, .bool false, .int .i64 0, .bool false, .int .i64 0, .bool false, .int .i64 0], .bool true]) (by simp [results, Tryd.results59, go_sem, z0, z1, z2, z3, z4, z5, z6, z7, z8, z9, lt42]) rfl (.inl ⟨_, _, hp1.out.symm, _, rfl, ⟨_, _, _, rfl, omz.mono (by omega), Own.nil _ _ _ _ _, orz.mono (by omega), lm1, by simp, lr1⟩, kz, gz⟩)
      rw [if_neg h4] at hp1
      have e4 : (mk == 4) = false := beq_eq_false_iff_ne.2 h4
      by_cases h3 : mk = 3
      · rw [if_pos h3] at hp1
        have e3 : (mk == 3) = true := beq_iff_eq.2 h3
        replace hp1 := hid hp1
        clear h4 h3
        obtain ⟨rev2, hrv⟩ : ∃ r2, r2 = rev ++ blocks := ⟨_, rfl⟩
        have hrl2 : rev2.length = rev.length + blocks.length := by rw [hrv, List.length_append]
        replace hrv := hid hrv; replace hrl2 := hid hrl2
        go_wp2_with ((go_at_call 82; go_loud ((with_reducible refine (hN1.out s r _ (hd.out.below nx) kb hs.out).mono ?_); rintro e w1 ⟨rfl, kb1, gn⟩; replace om := om.grownBlk kb (by decide) gn; replace or_ := or_.grownBlk kb (by decide) gn; replace k4 := k4.grown gn (by simp; omega); replace k6 := k6.grown gn (by simp; omega); replace kb := kb1; replace g := gTrans g gn; replace nx := gBelow g hW hwW hbr; have lt4 := k4.lt; have lt6 := k6.lt)))
        go_wp2_with (first
          | ((go_at_call 58; go_loud ((with_reducible refine (hDs.out _ hsz1).mono ?_); rintro e w2 ⟨v2, rfl, hmk, hb⟩; obtain ⟨vt, vb, rfl, ot, ob, t1, t2⟩ := hmk; dsimp only at ot ob t1 t2 ⊢; obtain ⟨at_, ct, rfl⟩ := ot.form; obtain ⟨ab, cb, rfl⟩ := ob.form; replace om := om.below hb; replace or_ := or_.below hb; replace k4 := k4.step hb; replace k6 := k6.step hb; replace kb := kb.step hb; replace g := gBnew g hb; replace nx := nx.trans (hb.mono nx.size); have lt4 := k4.lt; have lt6 := k6.lt; (try clear z0 z1 z2 z3 z4 z5 z6 z7 z8 z9); (try clear f0 f1 f2 f3 f4 f5 f6 f7 f8 f9); have z0 := k4.cell 0; have z1 := k4.cell 1; have z2 := k4.cell 2; have z3 := k4.cell 3; have z4 := k4.cell 4; have z5 := k4.cell 5; have z6 := k4.cell 6; have z7 := k4.cell 7; have z8 := k4.cell 8; have z9 := k4.cell 9; have f0 := k4.free 0; have f1 := k4.free 1; have f2 := k4.free 2; have f3 := k4.free 3; have f4 := k4.free 4; have f5 := k4.free 5; have f6 := k4.free 6; have f7 := k4.free 7; have f8 := k4.free 8; have f9 := k4.free 9; simp only [List.getElem?_toArray, List.getElem?_cons_zero, List.getElem?_cons_succ] at z0 z1 z2 z3 z4 z5 z6 z7 z8 z9; have kb2 := hid kb; have g2 := hid g; have om2 := hid om; have or2 := hid or_; have lt42 := k4.lt; have km := Blk.new w2 #[.int .i64 mk, .int .i64 ms, .int .i64 ma, .slice at_ tags.length ct, .slice ab blocks.length cb] 81; have lg2 := g.size; replace ot := ot.alloc (.cells #[.int .i64 mk, .int .i64 ms, .int .i64 ma, .slice at_ tags.length ct, .slice ab blocks.length cb] 81); replace ob := ob.alloc (.cells #[.int .i64 mk, .int .i64 ms, .int .i64 ma, .slice at_ tags.length ct, .slice ab blocks.length cb] 81); have lw12 := hb.size; replace om := om.alloc (.cells #[.int .i64 mk, .int .i64 ms, .int .i64 ma, .slice at_ tags.length ct, .slice ab blocks.length cb] 81); replace or_ := or_.alloc (.cells #[.int .i64 mk, .int .i64 ms, .int .i64 ma, .slice at_ tags.length ct, .slice ab blocks.length cb] 81); replace k4 := k4.alloc (.cells #[.int .i64 mk, .int .i64 ms, .int .i64 ma, .slice at_ tags.length ct, .slice ab blocks.length cb] 81); replace k6 := k6.alloc (.cells #[.int .i64 mk, .int .i64 ms, .int .i64 ma, .slice at_ tags.length ct, .slice ab blocks.length cb] 81); replace kb := kb.alloc (.cells #[.int .i64 mk, .int .i64 ms, .int .i64 ma, .slice at_ tags.length ct, .slice ab blocks.length cb] 81); replace g := gAlloc g (.cells #[.int .i64 mk, .int .i64 ms, .int .i64 ma, .slice at_ tags.length ct, .slice ab blocks.length cb] 81); replace nx := bal nx (.cells #[.int .i64 mk, .int .i64 ms, .int .i64 ma, .slice at_ tags.length ct, .slice ab blocks.length cb] 81); have lt4 := k4.lt; have lt6 := k6.lt)); have y3 := k6.cell 3; have m4 := km.cell 4; simp only [List.getElem?_toArray, List.getElem?_cons_zero, List.getElem?_cons_succ] at y3 m4; have hwn := gn.size)
          | (at_builtin; go_loud (refine wpList_app rfl _ _ _ rfl (w.heap.size + 2) _ 1 8 intC_flat elemIntT or_ rfl blocks ob.reads rfl (by omega) (by unfold maxLen; omega) (by simp; omega) ?_; intro v7 w7 hown7 hg7; rw [← hrv.out] at hown7; obtain ⟨ar7, cr7, rfl⟩ := hown7.form; have k67 := k6.grown hg7 (or_.blk_ne k6 (by decide)); have yf3 := k67.free 3; have yc3 := k67.cell 3; simp only [List.getElem?_toArray, List.getElem?_cons_zero, List.getElem?_cons_succ] at yc3)))
        have om7 := (om.grownTy or_ (by decide) hg7).setCell (p := ⟨w.heap.size + 1, 3, none⟩) (by simp) (.slice ar7 rev2.length cr7)
        have or7 := hown7.setCell (p := ⟨w.heap.size + 1, 3, none⟩) (by simp) (.slice ar7 rev2.length cr7)
        have k47 := (k4.grown hg7 (or_.blk_ne k4 (by decide))).set_other ⟨w.heap.size + 1, 3, none⟩ (.slice ar7 rev2.length cr7) (by simp)
        have k68 := k67.set 3 (.slice ar7 rev2.length cr7)
        have kb7 := (kb.grown hg7 (or_.blk_ne kb (by decide))).set_other ⟨w.heap.size + 1, 3, none⟩ (.slice ar7 rev2.length cr7) (by simp; omega)
        have g7 := gSets [(⟨w.heap.size + 1, 3, none⟩, .slice ar7 rev2.length cr7)] _ (gNew g hg7 or_ (by omega)) (by simp)
        have s7 : w.heap.size + 2 ≤ (w7.setCell ⟨w.heap.size + 1, 3, none⟩ (.slice ar7 rev2.length cr7)).heap.size := by have := hg7.size; simp at this ⊢; omega
        replace om7 := hid om7; replace or7 := hid or7; replace k47 := hid k47; replace k68 := hid k68; replace kb7 := hid kb7; replace g7 := hid g7; replace s7 := hid s7
        go_wp2
        go_roundg r.length
        case measure => simp
        case rel => exact ⟨r, mt, rev2, rfl, hs2, hsz2, by rw [hrv.out]; exact hp1, _, _, om7.out, or7.out, k47.out, k68.out, kb7.out, g7.out, s7.out, by rw [hrl2.out]; omega, by omega⟩
      rw [if_neg h3] at hp1
      have e3 : (mk == 3) = false := beq_eq_false_iff_ne.2 h3
      by_cases h2 : mk = 2
      · rw [if_pos h2] at hp1
        have e2 : (mk == 2) = true := beq_iff_eq.2 h2
        replace hp1 := hid hp1
        clear h4 h3 h2
        go_wp2_with ((go_at_call 82; go_loud ((with_reducible refine (hN1.out s r _ (hd.out.below nx) kb hs.out).mono ?_); rintro e w1 ⟨rfl, kb1, gn⟩; replace om := om.grownBlk kb (by decide) gn; replace or_ := or_.grownBlk kb (by decide) gn; replace k4 := k4.grown gn (by simp; omega); replace k6 := k6.grown gn (by simp; omega); replace kb := kb1; replace g := gTrans g gn; replace nx := gBelow g hW hwW hbr; have lt4 := k4.lt; have lt6 := k6.lt)))
        go_wp2_with (((go_at_call 58; go_loud ((with_reducible refine (hDs.out _ hsz1).mono ?_); rintro e w2 ⟨v2, rfl, hmk, hb⟩; obtain ⟨vt, vb, rfl, ot, ob, t1, t2⟩ := hmk; dsimp only at ot ob t1 t2 ⊢; obtain ⟨at_, ct, rfl⟩ := ot.form; obtain ⟨ab, cb, rfl⟩ := ob.form; replace om := om.below hb; replace or_ := or_.below hb; replace k4 := k4.step hb; replace k6 := k6.step hb; replace kb := kb.step hb; replace g := gBnew g hb; replace nx := nx.trans (hb.mono nx.size); have lt4 := k4.lt; have lt6 := k6.lt; (try clear z0 z1 z2 z3 z4 z5 z6 z7 z8 z9); (try clear f0 f1 f2 f3 f4 f5 f6 f7 f8 f9); have z0 := k4.cell 0; have z1 := k4.cell 1; have z2 := k4.cell 2; have z3 := k4.cell 3; have z4 := k4.cell 4; have z5 := k4.cell 5; have z6 := k4.cell 6; have z7 := k4.cell 7; have z8 := k4.cell 8; have z9 := k4.cell 9; have f0 := k4.free 0; have f1 := k4.free 1; have f2 := k4.free 2; have f3 := k4.free 3; have f4 := k4.free 4; have f5 := k4.free 5; have f6 := k4.free 6; have f7 := k4.free 7; have f8 := k4.free 8; have f9 := k4.free 9; simp only [List.getElem?_toArray, List.getElem?_cons_zero, List.getElem?_cons_succ] at z0 z1 z2 z3 z4 z5 z6 z7 z8 z9; have kb2 := hid kb; have g2 := hid g; have om2 := hid om; have or2 := hid or_; have lt42 := k4.lt; have km := Blk.new w2 #[.int .i64 mk, .int .i64 ms, .int .i64 ma, .slice at_ tags.length ct, .slice ab blocks.length cb] 81; have lg2 := g.size; replace ot := ot.alloc (.cells #[.int .i64 mk, .int .i64 ms, .int .i64 ma, .slice at_ tags.length ct, .slice ab blocks.length cb] 81); replace ob := ob.alloc (.cells #[.int .i64 mk, .int .i64 ms, .int .i64 ma, .slice at_ tags.length ct, .slice ab blocks.length cb] 81); have lw12 := hb.size; replace om := om.alloc (.cells #[.int .i64 mk, .int .i64 ms, .int .i64 ma, .slice at_ tags.length ct, .slice ab blocks.length cb] 81); replace or_ := or_.alloc (.cells #[.int .i64 mk, .int .i64 ms, .int .i64 ma, .slice at_ tags.length ct, .slice ab blocks.length cb] 81); replace k4 := k4.alloc (.cells #[.int .i64 mk, .int .i64 ms, .int .i64 ma, .slice at_ tags.length ct, .slice ab blocks.length cb] 81); replace k6 := k6.alloc (.cells #[.int .i64 mk, .int .i64 ms, .int .i64 ma, .slice at_ tags.length ct, .slice ab blocks.length cb] 81); replace kb := kb.alloc (.cells #[.int .i64 mk, .int .i64 ms, .int .i64 ma, .slice at_ tags.length ct, .slice ab blocks.length cb] 81); replace g := gAlloc g (.cells #[.int .i64 mk, .int .i64 ms, .int .i64 ma, .slice at_ tags.length ct, .slice ab blocks.length cb] 81); replace nx := bal nx (.cells #[.int .i64 mk, .int .i64 ms, .int .i64 ma, .slice at_ tags.length ct, .slice ab blocks.length cb] 81); have lt4 := k4.lt; have lt6 := k6.lt)); have m3 := km.cell 3; simp only [List.getElem?_toArray, List.getElem?_cons_zero, List.getElem?_cons_succ] at m3; have hwn := gn.size))
        replace ot := ot.mono (base' := w.heap.size + 2) (by omega)
        have s2' : w.heap.size + 2 ≤ (w2.alloc (.cells #[.int .i64 mk, .int .i64 ms, .int .i64 ma, .slice at_ tags.length ct, .slice ab blocks.length cb] 81)).heap.size := by simp; omega
        have hr23 : mt.length + r.length ≤ 23 := by omega
        have ht0 := hid (show takeTags (tags.drop 0) r mt = takeTags tags r mt by rw [List.drop_zero])
        clear z0 z1 z2 z3 z4 z5 z6 z7 z8 z9 f0 f1 f2 f3 f4 f5 f6 f7 f8 f9
        go_loopw [12, 13, 14, 58] (fun _ _ _ i wx => ∃ (k : Nat) (rr : List ByteArray) (mtk : List Cpy), k ≤ tags.length ∧ i = .int .i64 (k : Int) ∧ Hid (takeTags (tags.drop k) rr mtk = takeTags tags r mt) ∧ Hid (sfx d A rr) ∧ Hid (∀ s ∈ rr, s.size ≤ 9223372036854775807) ∧ ∃ vmk, Wb.Own cpyC (w.heap.size + 2) 74 2 wx vmk mtk ∧ Wb.Own intC (w.heap.size + 2) 3 1 wx (.slice ar rev.length cr) rev ∧ Wb.Own tagC (w.heap.size + 2) 92 2 wx (.slice at_ tags.length ct) tags ∧ Blk wx w.heap.size #[.int .i64 0, .slice none 0 0, .slice none 0 0, .slice none 0 0, .bool false, .int .i64 0, .bool false, .int .i64 0, .bool false, .int .i64 0] 30 ∧ Blk wx (w.heap.size + 1) #[.int .i64 ms, vmk, .slice none 0 0, .slice ar rev.length cr, .bool false, .int .i64 0, .bool false, .int .i64 0, .bool false, .int .i64 0] 30 ∧ Blk wx br (rdrC vs vw A rr.length) 108 ∧ w.grownBy wx (some br) ∧ w.heap.size + 2 ≤ wx.heap.size ∧ mtk.length + rr.length ≤ 23 ∧ rr.length ≤ r.length) (fun _ _ _ i _ => tags.length - (intOf i).toNat)
        case atStart => exact ⟨0, r, mt, Nat.zero_le _, rfl, ht0, hs2, hsz2, _, om, or_, ot, k4, k6, kb, g, s2', hr23, Nat.le_refl _⟩
        case round =>
          clear om or_ ot k4 k6 kb g s2' nx kb2 g2 om2 or2 lt42 hr23 ht0 km ob m3 hs hs2 hsz2 lt4 lt6 lg2 lw12
          obtain ⟨k, rr, mtk, hk, rfl, htk, hs, hsz, vmk, om, or_, ot, k4, k6, kb, g, hg3, hb3, hrl⟩ := hrel
          obtain ⟨am2, cm2, rfl⟩ := om.form
          have lt4 := k4.lt
          have lt6 := k6.lt
          have nx := gBelow g hW hwW hbr
          by_cases hlt : k < tags.length
          · obtain ⟨bt, ot_, rfl, t0, t1⟩ := RL.at2 (fun x => .int .i64 x.block) (fun x => .bool x.esc) (fun _ => rfl) ot.reads hlt
            have hdk : tags.drop k = tags[k] :: tags.drop (k + 1) := List.drop_eq_getElem_cons hlt
            replace htk := htk.out
            rw [hdk] at htk
            clear hdk
            generalize tags[k] = x at *
            obtain ⟨xb, xe⟩ := x
            dsimp only at t0 t1
            have kt := Blk.new wr #[.int .i64 xb, .bool xe] 92
            cases rr with
            | nil =>
              have hno := hid (show parseT ms 25 r0 (txn0 ms) = none by
                have := hp1.out
                rw [← htk] at this
                exact this.symm)
              clear htk hp1
              have kb2 := hid kb; have g2 := hid g; have lt42 := k4.lt
              (try clear z0 z1 z2 z3 z4 z5 z6 z7 z8 z9); (try clear f0 f1 f2 f3 f4 f5 f6 f7 f8 f9); have z0 := k4.cell 0; have z1 := k4.cell 1; have z2 := k4.cell 2; have z3 := k4.cell 3; have z4 := k4.cell 4; have z5 := k4.cell 5; have z6 := k4.cell 6; have z7 := k4.cell 7; have z8 := k4.cell 8; have z9 := k4.cell 9; have f0 := k4.free 0; have f1 := k4.free 1; have f2 := k4.free 2; have f3 := k4.free 3; have f4 := k4.free 4; have f5 := k4.free 5; have f6 := k4.free 6; have f7 := k4.free 7; have f8 := k4.free 8; have f9 := k4.free 9; simp only [List.getElem?_toArray, List.getElem?_cons_zero, List.getElem?_cons_succ] at z0 z1 z2 z3 z4 z5 z6 z7 z8 z9
              replace kb := kb.alloc (.cells #[.int .i64 xb, .bool xe] 92)
              go_wp2_with (go_at_call 82; go_loud ((with_reducible refine (hN0.out _ kb).mono ?_); rintro e w1 ⟨rfl, rfl⟩))
              have kz := (Blk.setCells [(⟨w.heap.size, 0, none⟩, .int .i64 0), (⟨w.heap.size, 1, none⟩, .slice none 0 0), (⟨w.heap.size, 2, none⟩, .slice none 0 0), (⟨w.heap.size, 3, none⟩, .slice none 0 0), (⟨w.heap.size, 4, none⟩, .bool false), (⟨w.heap.size, 5, none⟩, .int .i64 0), (⟨w.heap.size, 6, none⟩, .bool false), (⟨w.heap.size, 7, none⟩, .int .i64 0), (⟨w.heap.size, 8, none⟩, .bool false), (⟨w.heap.size, 9, none⟩, .int .i64 0)] _ kb2.out (by simp; omega)).alloc (.cells #[.int .i64 xb, .bool xe] 92)
              have gz := gAlloc (gSets [(⟨w.heap.size, 0, none⟩, .int .i64 0), (⟨w.heap.size, 1, none⟩, .slice none 0 0), (⟨w.heap.size, 2, none⟩, .slice none 0 0), (⟨w.heap.size, 3, none⟩, .slice none 0 0), (⟨w.heap.size, 4, none⟩, .bool false), (⟨w.heap.size, 5, none⟩, .int .i64 0), (⟨w.heap.size, 6, none⟩, .bool false), (⟨w.heap.size, 7, none⟩, .int .i64 0), (⟨w.heap.size, 8, none⟩, .bool false), (⟨w.heap.size, 9, none⟩, .int .i64 0)] _ g2.out (by simp)) (.cells #[.int .i64 xb, .bool xe] 92)
              exact bodyPost_ret (v := .tuple #[.agg #[.int .i64 0, .slice none 0 0, .slice none 0 0, .slice none 0 0, .bool false, .int .i64 0, .bool false, .int .i64 0, .bool false, .int .i64 0], .bool false]) (by simp [results, Tryd.results59, go_sem, z0, z1, z2, z3, z4, z5, z6, z7, z8, z9, lt42]) rfl (.inr ⟨hno.out, rfl, _, kz, gz⟩)
            | cons s2 rr2 =>
              have hU2 := hid (hU.out s2 xe)
              have hsz1 := hsz.out s2 (by simp)
              have hszr := hid (fun x (hx : x ∈ rr2) => hsz.out x (by simp [hx]))
              have hsr := hid (sfx_cons hs.out).1
              have htk2 := hid (show takeTags (tags.drop (k + 1)) rr2 (mtk ++ [⟨xb, unescS s2 xe⟩]) = takeTags tags r mt from htk)
              clear htk hsz
              generalize unescS s2 xe = u2 at *
              simp only [List.length_cons] at hb3 hrl kb
              replace om := om.alloc (.cells #[.int .i64 xb, .bool xe] 92)
              replace or_ := or_.alloc (.cells #[.int .i64 xb, .bool xe] 92)
              replace ot := ot.alloc (.cells #[.int .i64 xb, .bool xe] 92)
              replace k4 := k4.alloc (.cells #[.int .i64 xb, .bool xe] 92)
              replace k6 := k6.alloc (.cells #[.int .i64 xb, .bool xe] 92)
              replace kb := kb.alloc (.cells #[.int .i64 xb, .bool xe] 92)
              replace g := gAlloc g (.cells #[.int .i64 xb, .bool xe] 92)
              replace nx := bal nx (.cells #[.int .i64 xb, .bool xe] 92)
              go_wp2_with (go_at_call 82; go_loud ((with_reducible refine (hN1.out s2 rr2 _ (hd.out.below nx) kb hs.out).mono ?_); rintro e w1 ⟨rfl, kb1, gn⟩; replace om := om.grownBlk kb (by decide) gn; replace or_ := or_.grownBlk kb (by decide) gn; replace ot := ot.grownBlk kb (by decide) gn; replace k4 := k4.grown gn (by simp; omega); replace k6 := k6.grown gn (by simp; omega); replace kt := kt.grown gn (by simp; omega); replace kb := kb1; replace g := gTrans g gn; have hwn := gn.size; simp only [World.size_alloc] at hwn; have y1 := k6.cell 1; have x0 := kt.cell 0; have x1 := kt.cell 1; simp only [List.getElem?_toArray, List.getElem?_cons_zero, List.getElem?_cons_succ] at y1 x0 x1))
              have lt6 := k6.lt
              have ltt := kt.lt
              go_region_law (first
                | (refine step_call 83 _ _ (by rfl) (by rfl) #[.string s2, .bool xe] (by rfl) ⟨_, _, Tryd.func83, by kernel_rfl, rfl⟩ (hU2.out _ hsz1) ?_; rintro e w3 ⟨rfl, hb3'⟩; refine ⟨_, rfl, ?_⟩; replace om := om.drew.below hb3'; replace or_ := or_.drew.below hb3'; replace ot := ot.drew.below hb3'; replace k4 := k4.drew.step hb3'; replace k6 := k6.drew.step hb3'; replace kb := kb.drew.step hb3'; replace kt := kt.drew.step hb3'; replace g := gBnew (gDrew g) hb3'; have hw3 := hb3'.size; simp only [World.size_drew] at hw3; have lt63 := k6.lt; have ltt3 := kt.lt; have e1 := k6.cell 1; have p0 := kt.cell 0; have p1 := kt.cell 1; simp only [List.getElem?_toArray, List.getElem?_cons_zero, List.getElem?_cons_succ] at e1 p0 p1)
                | (have t1 := om.alloc (.cells #[.int .i64 xb, .string u2] 74); have t2 : w.heap.size + 2 ≤ (w3.alloc (.cells #[.int .i64 xb, .string u2] 74)).heap.size := (by simp; omega); have t3 : (mtk.length + 1) * 24 ≤ 140737488355328 := (by omega); have t4 : Blk (w3.alloc (.cells #[.int .i64 xb, .string u2] 74)) w3.heap.size #[.int .i64 xb, .string u2] 74 := Blk.newAt (w := w3) rfl; refine step_push (by rfl) _ _ 24 (by rfl) (w.heap.size + 2) _ 2 24 cpyC_flat elemCpy t1 (by rfl) ⟨xb, u2⟩ w3.heap.size t4 (by rfl) (by rfl) mtk.length rfl t3 (by omega) t2 ?_; clear t2 t3 t4; intro a7 c7 w7 hown7 hb7 hg7; go_loud (have q6 := k6.alloc (.cells #[.int .i64 xb, .string u2] 74)); go_loud (have k67 := q6.grown hg7 (t1.blk_ne q6 (by decide))); have yf1 := k67.free 1; have yc1 : w7.cell? ⟨w.heap.size + 1, 1, none⟩ = some (.slice am2 mtk.length cm2) := k67.cell 1))
              all_goals
                have om7 := hown7.setCell (p := ⟨w.heap.size + 1, 1, none⟩) (by simp) (.slice a7 (mtk.length + 1) c7)
                have or7 := ((or_.alloc _).grownTy t1 (by decide) hg7).setCell (p := ⟨w.heap.size + 1, 1, none⟩) (by simp) (.slice a7 (mtk.length + 1) c7)
                have ot7 := ((ot.alloc _).grownTy t1 (by decide) hg7).setCell (p := ⟨w.heap.size + 1, 1, none⟩) (by simp) (.slice a7 (mtk.length + 1) c7)
                have k47 := ((k4.alloc _).grown hg7 (t1.blk_ne (k4.alloc _) (by decide))).set_other ⟨w.heap.size + 1, 1, none⟩ (.slice a7 (mtk.length + 1) c7) (by simp)
                have k68 := k67.set 1 (.slice a7 (mtk.length + 1) c7)
                have kb7 := ((kb.alloc _).grown hg7 (t1.blk_ne (kb.alloc _) (by decide))).set_other ⟨w.heap.size + 1, 1, none⟩ (.slice a7 (mtk.length + 1) c7) (by simp; omega)
                have g7 := gSets [(⟨w.heap.size + 1, 1, none⟩, .slice a7 (mtk.length + 1) c7)] _ (gNew (gAlloc g _) hg7 t1 (by omega)) (by simp)
                have s7 : w.heap.size + 2 ≤ (w7.setCell ⟨w.heap.size + 1, 1, none⟩ (.slice a7 (mtk.length + 1) c7)).heap.size := by have := hg7.size; simp at this ⊢; omega
                replace om7 := hid om7; replace or7 := hid or7; replace ot7 := hid ot7; replace k47 := hid k47; replace k68 := hid k68; replace kb7 := hid kb7; replace g7 := hid g7; replace s7 := hid s7
                go_wp2
                go_roundw
                case rel =>
                  first
                    | (refine ⟨k + 1, rr2, mtk ++ [⟨xb, u2⟩], by omega, ?_, htk2, hsr, hszr, _, om7.out, or7.out, ot7.out, k47.out, k68.out, kb7.out, g7.out, s7.out, by simp; omega, by omega⟩ <;> go_num; done)
                    | ((repeat apply Exists.intro); refine ⟨⟨k + 1, rr2, mtk ++ [⟨xb, u2⟩], by omega, ?_, htk2, hsr, hszr, _, om7.out, or7.out, ot7.out, k47.out, k68.out, kb7.out, g7.out, s7.out, by simp; omega, by omega⟩, rfl⟩ <;> go_num; done)
                case measure => simp [intOf]; omega
          · obtain rfl : k = tags.length := by omega
            have hp2 := hid (show parseT ms (rr.length + 1) rr ⟨ms, mtk, [], rev, hnd0, hnd0, hnd0⟩ = parseT ms 25 r0 (txn0 ms) by
              have h1 := htk.out
              have h2 := hp1.out
              rw [List.drop_length] at h1
              rw [← h1] at h2
              refine Eq.trans ?_ h2
              exact parseT_fuel (by omega) (by omega))
            clear htk hp1
            go_wp2
            go_roundg rr.length
            case measure => simp; omega
            case rel => exact ⟨rr, mtk, rev, rfl, hs, hsz, hp2, _, _, om, or_, k4, k6, kb, g, hg3, by omega, by omega⟩
      · rw [if_neg h2] at hp1
        have e2 : (mk == 2) = false := beq_eq_false_iff_ne.2 h2
        have hno := hid hp1.symm
        clear h4 h3 h2 hp1
        go_wp2_with ((go_at_call 82; go_loud ((with_reducible refine (hN1.out s r _ (hd.out.below nx) kb hs.out).mono ?_); rintro e w1 ⟨rfl, kb1, gn⟩; replace om := om.grownBlk kb (by decide) gn; replace or_ := or_.grownBlk kb (by decide) gn; replace k4 := k4.grown gn (by simp; omega); replace k6 := k6.grown gn (by simp; omega); replace kb := kb1; replace g := gTrans g gn; replace nx := gBelow g hW hwW hbr; have lt4 := k4.lt; have lt6 := k6.lt)))
        go_wp2_with ((go_at_call 58; go_loud ((with_reducible refine (hDs.out _ hsz1).mono ?_); rintro e w2 ⟨v2, rfl, hmk, hb⟩; obtain ⟨vt, vb, rfl, ot, ob, t1, t2⟩ := hmk; dsimp only at ot ob t1 t2 ⊢; obtain ⟨at_, ct, rfl⟩ := ot.form; obtain ⟨ab, cb, rfl⟩ := ob.form; replace om := om.below hb; replace or_ := or_.below hb; replace k4 := k4.step hb; replace k6 := k6.step hb; replace kb := kb.step hb; replace g := gBnew g hb; replace nx := nx.trans (hb.mono nx.size); have lt4 := k4.lt; have lt6 := k6.lt; (try clear z0 z1 z2 z3 z4 z5 z6 z7 z8 z9); (try clear f0 f1 f2 f3 f4 f5 f6 f7 f8 f9); have z0 := k4.cell 0; have z1 := k4.cell 1; have z2 := k4.cell 2; have z3 := k4.cell 3; have z4 := k4.cell 4; have z5 := k4.cell 5; have z6 := k4.cell 6; have z7 := k4.cell 7; have z8 := k4.cell 8; have z9 := k4.cell 9; have f0 := k4.free 0; have f1 := k4.free 1; have f2 := k4.free 2; have f3 := k4.free 3; have f4 := k4.free 4; have f5 := k4.free 5; have f6 := k4.free 6; have f7 := k4.free 7; have f8 := k4.free 8; have f9 := k4.free 9; simp only [List.getElem?_toArray, List.getElem?_cons_zero, List.getElem?_cons_succ] at z0 z1 z2 z3 z4 z5 z6 z7 z8 z9; have kb2 := hid kb; have g2 := hid g; have om2 := hid om; have or2 := hid or_; have lt42 := k4.lt; have km := Blk.new w2 #[.int .i64 mk, .int .i64 ms, .int .i64 ma, .slice at_ tags.length ct, .slice ab blocks.length cb] 81; have lg2 := g.size; replace ot := ot.alloc (.cells #[.int .i64 mk, .int .i64 ms, .int .i64 ma, .slice at_ tags.length ct, .slice ab blocks.length cb] 81); replace ob := ob.alloc (.cells #[.int .i64 mk, .int .i64 ms, .int .i64 ma, .slice at_ tags.length ct, .slice ab blocks.length cb] 81); have lw12 := hb.size; replace om := om.alloc (.cells #[.int .i64 mk, .int .i64 ms, .int .i64 ma, .slice at_ tags.length ct, .slice ab blocks.length cb] 81); replace or_ := or_.alloc (.cells #[.int .i64 mk, .int .i64 ms, .int .i64 ma, .slice at_ tags.length ct, .slice ab blocks.length cb] 81); replace k4 := k4.alloc (.cells #[.int .i64 mk, .int .i64 ms, .int .i64 ma, .slice at_ tags.length ct, .slice ab blocks.length cb] 81); replace k6 := k6.alloc (.cells #[.int .i64 mk, .int .i64 ms, .int .i64 ma, .slice at_ tags.length ct, .slice ab blocks.length cb] 81); replace kb := kb.alloc (.cells #[.int .i64 mk, .int .i64 ms, .int .i64 ma, .slice at_ tags.length ct, .slice ab blocks.length cb] 81); replace g := gAlloc g (.cells #[.int .i64 mk, .int .i64 ms, .int .i64 ma, .slice at_ tags.length ct, .slice ab blocks.length cb] 81); replace nx := bal nx (.cells #[.int .i64 mk, .int .i64 ms, .int .i64 ma, .slice at_ tags.length ct, .slice ab blocks.length cb] 81); have lt4 := k4.lt; have lt6 := k6.lt)))
        have kz := (Blk.setCells [(⟨w.heap.size, 0, none⟩, .int .i64 0), (⟨w.heap.size, 1, none⟩, .slice none 0 0), (⟨w.heap.size, 2, none⟩, .slice none 0 0), (⟨w.heap.size, 3, none⟩, .slice none 0 0), (⟨w.heap.size, 4, none⟩, .bool false), (⟨w.heap.size, 5, none⟩, .int .i64 0), (⟨w.heap.size, 6, none⟩, .bool false), (⟨w.heap.size, 7, none⟩, .int .i64 0), (⟨w.heap.size, 8, none⟩, .bool false), (⟨w.heap.size, 9, none⟩, .int .i64 0)] _ kb2.out (by simp; omega)).alloc (.cells #[.int .i64 mk, .int .i64 ms, .int .i64 ma, .slice at_ tags.length ct, .slice ab blocks.length cb] 81)
        have gz := gAlloc (gSets [(⟨w.heap.size, 0, none⟩, .int .i64 0), (⟨w.heap.size, 1, none⟩, .slice none 0 0), (⟨w.heap.size, 2, none⟩, .slice none 0 0), (⟨w.heap.size, 3, none⟩, .slice none 0 0), (⟨w.heap.size, 4, none⟩, .bool false), (⟨w.heap.size, 5, none⟩, .int .i64 0), (⟨w.heap.size, 6, none⟩, .bool false), (⟨w.heap.size, 7, none⟩, .int .i64 0), (⟨w.heap.size, 8, none⟩, .bool false), (⟨w.heap.size, 9, none⟩, .int .i64 0)] _ g2.out (by simp)) (.cells #[.int .i64 mk, .int .i64 ms, .int .i64 ma, .slice at_ tags.length ct, .slice ab blocks.length cb] 81)
        exact bodyPost_ret (v := .tuple #[.agg #[.int .i64 0, .slice none 0 0, .slice none 0 0, .slice none 0 0, .bool false, .int .i64 0, .bool false, .int .i64 0, .bool false, .int .i64 0], .bool false]) (by simp [results, Tryd.results59, go_sem, z0, z1, z2, z3, z4, z5, z6, z7, z8, z9, lt42]) rfl (.inr ⟨hno.out, rfl, _, kz, gz⟩)
end Go.Proofs.YtjhmfljlclajnabDoor

namespace Go.Proofs.YtjhmfljlclajnabDoor
open Go.RowKit Wb
set_option linter.unusedVariables false
set_option linter.unusedSimpArgs false
set_option maxRecDepth 100000
set_option maxHeartbeats 40000000
def OneSaid : Prop := ∀ (d : Dsk) (W : World) (br : Nat) (vs vw : Value) (A seq : Int) (r0 : List ByteArray) (w : World), Below W.heap.size W w → RDisk W (.agg #[vs, vw]) d → W.heap.size ≤ br → sfx d A r0 → (∀ s ∈ r0, s.size ≤ 9223372036854775807) → Blk w br (rdrC vs vw A r0.length) 108 →
    Calls Tryd.prog 59 #[.pointer (some ⟨br, 0, none⟩), .int .i64 seq] w fun e w' => OneP seq r0 br vs vw A w e w'
section
variable (hOne : OneSaid) (d : Dsk) (W : World) (br : Nat) (vs vw : Value) (A seq : Int) (r0 : List ByteArray) (w : World) (hW : Below W.heap.size W w) (hd : RDisk W (.agg #[vs, vw]) d) (hbr : W.heap.size ≤ br) (hs0 : sfx d A r0) (hsz : ∀ s ∈ r0, s.size ≤ 9223372036854775807) (kb : Blk w br (rdrC vs vw A r0.length) 108)
include hOne hW hd hbr hs0 hsz kb
theorem one_some {t : Txn} {r' : List ByteArray} (hp : parseT seq 25 r0 (txn0 seq) = some (t, r')) :
    Calls Tryd.prog 59 #[.pointer (some ⟨br, 0, none⟩), .int .i64 seq] w fun e w' => ∃ v, e = .returned (.tuple #[v, .bool true]) ∧ OTxn w.heap.size 74 3 w' v t ∧ Blk w' br (rdrC vs vw A r'.length) 108 ∧ w.grownBy w' (some br) := by
  refine (hOne d W br vs vw A seq r0 w hW hd hbr hs0 hsz kb).mono fun e w' h => ?_
  rcases h with ⟨t2, r2, h1, h2⟩ | ⟨h1, _⟩
  · rw [hp] at h1
    simp only [Option.some.injEq, Prod.mk.injEq] at h1
    obtain ⟨rfl, rfl⟩ := h1
    exact h2
  · rw [hp] at h1; cases h1
theorem one_none (hp : parseT seq 25 r0 (txn0 seq) = none) :
    Calls Tryd.prog 59 #[.pointer (some ⟨br, 0, none⟩), .int .i64 seq] w fun e w' => e = .returned (.tuple #[.agg #[.int .i64 0, .slice none 0 0, .slice none 0 0, .slice none 0 0, .bool false, .int .i64 0, .bool false, .int .i64 0, .bool false, .int .i64 0], .bool false]) ∧ ∃ n, Blk w' br (rdrC vs vw A n) 108 ∧ w.grownBy w' (some br) := by
  refine (hOne d W br vs vw A seq r0 w hW hd hbr hs0 hsz kb).mono fun e w' h => ?_
  rcases h with ⟨t2, r2, h1, _⟩ | ⟨_, h2⟩
  · rw [hp] at h1; cases h1
  · exact h2
end
end Go.Proofs.YtjhmfljlclajnabDoor
