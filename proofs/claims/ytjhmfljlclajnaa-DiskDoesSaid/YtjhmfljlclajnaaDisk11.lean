/- The walks of New, NewDisk. -/
import Derived.Test.YtjhmfljlclajnaaDisk10
import Derived.Test.YtjhmfljlclajnaaFit2
namespace Go.Proofs.Ytjhmfljlclajnaa
open Go.RowKit Wb
set_option linter.unusedVariables false
set_option linter.unusedSimpArgs false
set_option maxRecDepth 100000
set_option maxHeartbeats 1000000

theorem disk_New (w : World) :
    Calls Try.prog 52 #[] w fun e w' => ∃ vs, e = .returned (.agg #[vs, .slice none 0 0]) ∧ Own strC (w.heap.size + 2) 9 1 w' vs (List.replicate 37 (fit ⟨#[]⟩)) ∧ Below w.heap.size w w' := by
  have hFit := fun w => disk_Fit ⟨#[]⟩ w (by decide)
  have hrep := fun k => (List.replicate_succ' (n := k) (a := fit ⟨#[]⟩))
  generalize fit ⟨#[]⟩ = z at *
  replace hFit := hid hFit
  replace hrep := hid hrep
  go_enter Try.func52, Try.ntmps52
  go_wp2
  go_loopw [2] (fun i wr => ∃ k : Nat, k ≤ 37 ∧ i = .int .i64 k ∧ ∃ vo, Own strC (w.heap.size + 2) 9 1 wr vo (List.replicate k z) ∧ Blk wr w.heap.size #[.slice none 0 0, .slice none 0 0] 56 ∧ Blk wr (w.heap.size + 1) #[vo, .slice none 0 0] 56 ∧ Below w.heap.size w wr) (fun i _ => 37 - (intOf i).toNat)
  case atStart => exact ⟨0, by decide, rfl, _, Own.nil _ _ _ _ _, (Blk.new w _ _).alloc _, Blk.newAt (by simp), by repeat (first | exact Below.refl _ _ | with_reducible assumption | (refine allocB ?_ (by first | omega | (simp; done) | (simp; omega)) _) | (refine Below.setCell ?_ (by first | omega | (simp; done) | (simp; omega)) _) | refine Below.drew ?_ | (refine Below.trans ?_ (Below.mono (by with_reducible assumption) (by first | omega | (simp; done) | (simp; omega)))))⟩
  case round =>
    obtain ⟨k, hk, rfl, vo, hown, k0, k1, hnx⟩ := hrel
    obtain ⟨ao, capo, rfl⟩ := hown.form
    have lt0 := k0.lt
    have lt1 := k1.lt
    have c0 := k0.cell 0
    have c1 := k0.cell 1
    have c2 := k1.cell 0
    have c3 := k1.cell 1
    simp only [List.getElem?_toArray, List.getElem?_cons_zero, List.getElem?_cons_succ] at c0 c1 c2 c3
    have hkl : (List.replicate k z).length = k := List.length_replicate
    rw [hkl] at hown k1 c2
    clear hkl
    by_cases hlt : k < 37
    · have hr := hid (hrep.out k)
      have hlen : (List.replicate k z).length = k := List.length_replicate
      generalize List.replicate k z = Mk at *
      go_wp2
      go_region_law (first
        | (refine step_call 50 _ _ (by rfl) (by rfl) #[.string ⟨#[]⟩] (by rfl) ⟨_, _, Try.func50, by kernel_rfl, rfl⟩ (hFit.out _) ?_; rintro e w3 ⟨rfl, hb3⟩; refine ⟨_, rfl, ?_⟩; have k0' := k0.drew.step hb3; have k1' := k1.drew.step hb3; have c2' := k1'.cell 0; simp only [List.getElem?_toArray, List.getElem?_cons_zero, List.getElem?_cons_succ] at c2'; have hown3 := hown.drew.below hb3; have hnx3 := hnx.drew.trans (hb3.mono (by simp; omega)); have lt1' := k1'.lt)
        | go_loud (refine step_push (by rfl) _ _ 53 (by rfl) (w.heap.size + 2) _ 1 16 strC_flat elemStr (hown3.alloc _) (by rfl) z w3.heap.size (Blk.newAt (w := w3) rfl) (by rfl) (by rfl) k hlen (by omega) (by omega) (by (try simp); omega) ?_; intro a4 cap4 w4 hown4 hb4 _; have k4 := (k1'.alloc _).below hb4 (by omega); have f5 := k4.cell 0; simp only [List.getElem?_toArray, List.getElem?_cons_zero, List.getElem?_cons_succ] at f5; have f6 := k4.free 0))
      all_goals
        go_wp2
        go_roundw
        case rel => exact ⟨k + 1, by omega, by go_num, _, by rw [hr.out]; exact hown4.setCell (p := ⟨w.heap.size + 1, 0, none⟩) (by simp) _, ((k0'.alloc _).below hb4 (by omega)).set_other _ _ (by simp), k4.set 0 _, ((allocB hnx3 (by omega) _).trans (hb4.mono (by omega))).setCell (by simp) _⟩
        case measure => simp [intOf]; omega
    · obtain rfl : k = 37 := by omega
      have f1 := k0.free 0
      have f2 := k0.free 1
      go_wp2
      have hF : Below w.heap.size w ((wr.setCell ⟨w.heap.size, 0, none⟩ (.slice ao 37 capo)).setCell ⟨w.heap.size, 1, none⟩ (.slice none 0 0)) := (hnx.setCell (by simp) _).setCell (by simp) _
      have ho := (hown.setCell (p := ⟨w.heap.size, 0, none⟩) (by simp) (.slice ao 37 capo)).setCell (p := ⟨w.heap.size, 1, none⟩) (by simp) (.slice none 0 0)
      exact bodyPost_ret (v := .agg #[.slice ao 37 capo, .slice none 0 0]) (by simp [results, Try.results52, go_sem, c0, c1]) rfl ⟨_, rfl, ho, hF⟩

def fillL (z : ByteArray) (k : Nat) : List ByteArray := List.replicate k z ++ List.replicate (37 - k) ⟨#[]⟩
theorem fillL_set (z : ByteArray) {k : Nat} (hk : k < 37) : (fillL z k).set k z = fillL z (k + 1) := by
  unfold fillL
  rw [List.set_append_right _ _ (by simp), List.length_replicate, Nat.sub_self, show 37 - k = (37 - (k + 1)) + 1 by omega, List.replicate_succ, List.set_cons_zero, List.replicate_succ', List.append_assoc]
  rfl
theorem fillL_len (z : ByteArray) {k : Nat} (hk : k ≤ 37) : (fillL z k).length = 37 := by simp [fillL]; omega

theorem ref_NewDisk (w : World) :
    Calls Try.prog 53 #[] w fun e w' => ∃ vs, e = .returned (.agg #[vs, .slice none 0 0]) ∧ Own strC (w.heap.size + 1) 9 1 w' vs (List.replicate 37 (fit ⟨#[]⟩)) ∧ Below w.heap.size w w' := by
  have hFit := fun w => ref_FitText ⟨#[]⟩ w (by decide)
  generalize fit ⟨#[]⟩ = z at *
  have hmk : ∀ w, (Instr.makeSlice 53 (Value.int IntKind.i64 37) (Value.int IntKind.i64 37)).run Try.prog w = .ok (.slice (some ⟨w.heap.size, 0, none⟩) 37 37) (w.alloc (.cells (List.replicate 37 (Value.string ⟨#[]⟩)).toArray 9)) := fun _ => by kernel_rfl
  have hrow : ((List.replicate 37 (⟨#[]⟩ : ByteArray)).flatMap strC).toArray = (List.replicate 37 (Value.string ⟨#[]⟩)).toArray := rfl
  generalize (List.replicate 37 (Value.string ⟨#[]⟩)).toArray = row at *
  have hset := fun (k : Nat) (hk : k < 37) => fillL_set z hk
  have hlen := fun (k : Nat) (hk : k ≤ 37) => fillL_len z hk
  have hfull : fillL z 37 = List.replicate 37 z := by simp [fillL]
  have hnone : fillL z 0 = List.replicate 37 ⟨#[]⟩ := by simp [fillL]
  rw [← hfull]
  replace hFit := hid hFit
  replace hrow := hid hrow
  replace hset := hid hset
  replace hlen := hid hlen
  replace hnone := hid hnone
  clear hfull
  go_enter Try.func53, Try.ntmps53
  go_wp2
  go_loopw [2, 8] (fun _ i wr => ∃ k : Nat, k ≤ 37 ∧ i = .int .i64 k ∧ Own strC (w.heap.size + 1) 9 1 wr (.slice (some ⟨w.heap.size + 1, 0, none⟩) 37 37) (fillL z k) ∧ Blk wr w.heap.size #[.slice none 0 0, .slice none 0 0] 56 ∧ Blk wr (w.heap.size + 2) #[.slice (some ⟨w.heap.size + 1, 0, none⟩) 37 37, .slice none 0 0] 56 ∧ Below w.heap.size w wr) (fun _ i _ => 37 - (intOf i).toNat)
  case atStart =>
    refine ⟨0, by decide, rfl, ?_, ((Blk.new w _ _).alloc _).alloc _, Blk.newAt (by simp), by repeat (first | exact Below.refl _ _ | with_reducible assumption | (refine allocB ?_ (by first | omega | (simp; done) | (simp; omega)) _) | (refine Below.setCell ?_ (by first | omega | (simp; done) | (simp; omega)) _) | refine Below.drew ?_ | (refine Below.trans ?_ (Below.mono (by with_reducible assumption) (by first | omega | (simp; done) | (simp; omega)))))⟩
    rw [hnone.out]
    exact (Own.lit strC_flat (w.heap.size + 1) 9 (w.alloc _) (List.replicate 37 ⟨#[]⟩) (by simp) (by simp [maxLen]) hrow.out (by simp) (by simp)).alloc _
  case round =>
    obtain ⟨k, hk, rfl, hown, k0, k2, hnx⟩ := hrel
    have lt0 := k0.lt
    have lt2 := k2.lt
    have c0 := k0.cell 0
    have c1 := k0.cell 1
    have c2 := k2.cell 0
    have c3 := k2.cell 1
    simp only [List.getElem?_toArray, List.getElem?_cons_zero, List.getElem?_cons_succ] at c0 c1 c2 c3
    by_cases hlt : k < 37
    · have hst := hset.out k hlt
      have hln := hlen.out k hk
      replace hst := hid hst
      have hkl : k < (fillL z k).length := by omega
      clear hln
      generalize fillL z k = fl at *
      go_wp2
      go_region_law (first
        | (refine step_call 51 _ _ (by rfl) (by rfl) #[.string ⟨#[]⟩] (by rfl) ⟨_, _, Try.func51, by kernel_rfl, rfl⟩ (hFit.out _) ?_; rintro e w3 ⟨rfl, hb3⟩; refine ⟨_, rfl, ?_⟩; have k0' := k0.drew.step hb3; have k2' := k2.drew.step hb3; have c2' := k2'.cell 0; simp only [List.getElem?_toArray, List.getElem?_cons_zero, List.getElem?_cons_succ] at c2'; have hown3 := hown.drew.below hb3; have hnx3 := hnx.drew.trans (hb3.mono (by simp; omega)); have lt2' := k2'.lt; obtain ⟨g, cap4, hv, hgb, hgl, hgc, hset3⟩ := hown3.poke strC_flat hkl; simp only [Value.slice.injEq, Option.some.injEq, Addr.mk.injEq] at hv; obtain ⟨⟨rfl, _⟩, h37, rfl⟩ := hv; clear h37; obtain ⟨z0, z1⟩ := hgc 0 (by decide); replace hset3 := hset3 0 z (.string z) (by decide) rfl; rw [hst.out, Nat.mul_one, Nat.add_zero] at hset3; simp only [Nat.mul_one, Nat.add_zero, strC, List.getElem?_cons_zero] at z0 z1; replace hset3 := hid hset3; generalize fl[k] = old at z1; clear hgc))
      all_goals
        go_wp2
        go_roundw
        case rel => exact ⟨k + 1, by omega, by go_num, hset3.out, k0'.set_other _ _ (by simp), k2'.set_other _ _ (by simp), hnx3.setCell (by simp) _⟩
        case measure => simp [intOf]; omega
    · obtain rfl : k = 37 := by omega
      have f1 := k0.free 0
      have f2 := k0.free 1
      go_wp2
      have hF : Below w.heap.size w ((wr.setCell ⟨w.heap.size, 0, none⟩ (.slice (some ⟨w.heap.size + 1, 0, none⟩) 37 37)).setCell ⟨w.heap.size, 1, none⟩ (.slice none 0 0)) := (hnx.setCell (by simp) _).setCell (by simp) _
      have ho := (hown.setCell (p := ⟨w.heap.size, 0, none⟩) (by simp) (.slice (some ⟨w.heap.size + 1, 0, none⟩) 37 37)).setCell (p := ⟨w.heap.size, 1, none⟩) (by simp) (.slice none 0 0)
      exact bodyPost_ret (v := .agg #[.slice (some ⟨w.heap.size + 1, 0, none⟩) 37 37, .slice none 0 0]) (by simp [results, Try.results53, go_sem, c0, c1]) rfl ⟨_, rfl, ho, hF⟩
end Go.Proofs.Ytjhmfljlclajnaa
