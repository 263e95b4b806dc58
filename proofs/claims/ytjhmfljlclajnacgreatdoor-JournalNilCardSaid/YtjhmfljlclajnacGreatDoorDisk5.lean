/- The walk of slices.Clone of writes. -/
import Derived.Test.YtjhmfljlclajnacGreatDoorDisk4
namespace Go.Proofs.YtjhmfljlclajnacGreatDoor
open Go.RowKit Wb
set_option linter.unusedVariables false
set_option linter.unusedSimpArgs false
set_option maxRecDepth 100000
set_option maxHeartbeats 4000000

theorem clone_Writes (l : List Wr) (v : Value) (w : World) (hl : RL wrC w v l) (hn : l.length ≤ 5864062014805) :
    Calls Tryz.prog 46 #[v] w fun e w' => ∃ v', e = .returned v' ∧ Own wrC w.heap.size 95 2 w' v' l ∧ Below w.heap.size w w' := by
  obtain ⟨a, cap, rfl, c1, c2⟩ := hl.form
  have q24 : ∀ (w : World) (a : Option Addr) (n c n' c' : Nat), (binOp .eql 44 (.slice a n c) (.slice none n' c')).run Tryz.prog w = .ok (.bool a.isNone) w := fun w a n c n' c' => Lib.run_eql_slice_nil w _ _ a n c n' c' Tryz.underlying44
  cases a with
  | none =>
    have h0 : l = [] := by
      obtain ⟨a', cap', hv, _, _, h3⟩ := hl
      rcases h3 with h3 | ⟨b, off, ha, _⟩
      · cases l with
        | nil => rfl
        | cons x l => simp [wrC] at h3
      · simp only [Value.slice.injEq] at hv
        rw [ha] at hv
        exact absurd hv.1 (by simp)
    subst h0
    go_enter Tryz.func46, Tryz.ntmps46
    go_wp2
    go_ret
    exact ⟨_, rfl, Own.nil _ _ _ _ _, by repeat (first | exact Below.refl _ _ | with_reducible assumption | (refine allocB ?_ (by first | omega | (simp; done) | (simp; omega)) _) | (refine Below.setCell ?_ (by first | omega | (simp; done) | (simp; omega)) _) | refine Below.drew ?_ | (refine Below.trans ?_ (Below.mono (by with_reducible assumption) (by first | omega | (simp; done) | (simp; omega)))))⟩
  | some a =>
    replace hl := hid hl
    go_enter Tryz.func46, Tryz.ntmps46
    go_wp2_with (at_builtin; go_loud (refine wpList_app rfl _ _ _ rfl w.heap.size _ 2 24 wrC_flat elemWr (Own.lit wrC_flat w.heap.size _ w [] (Nat.le_refl _) (Nat.zero_le _) rfl rfl rfl) rfl l (hl.out.below (by repeat (first | exact Below.refl _ _ | with_reducible assumption | (refine allocB ?_ (by first | omega | (simp; done) | (simp; omega)) _) | (refine Below.setCell ?_ (by first | omega | (simp; done) | (simp; omega)) _) | refine Below.drew ?_ | (refine Below.trans ?_ (Below.mono (by with_reducible assumption) (by first | omega | (simp; done) | (simp; omega))))))) rfl ?k1 ?k2 ?k3 ?k4))
    all_goals try (case k1 => simp; omega)
    all_goals try (case k2 => simp; omega)
    all_goals try (case k3 => simp)
    case k4 =>
      intro v7 w7 hown7 hgrow
      have hb : Below w.heap.size w w7 := (allocB (Below.refl _ _) (Nat.le_refl _) _).grown hgrow (by simp) (fun k hk => by simp [Value.ownBlock] at hk; omega)
      go_wp2
      go_ret
      exact ⟨_, rfl, hown7, hb⟩
theorem clone_Strings (l : List ByteArray) (v : Value) (w : World) (hl : RL strC w v l) (hn : l.length ≤ 8796093022208) :
    Calls Tryz.prog 45 #[v] w fun e w' => ∃ v', e = .returned v' ∧ Own strC w.heap.size 9 1 w' v' l ∧ Below w.heap.size w w' := by
  obtain ⟨a, cap, rfl, c1, c2⟩ := hl.form
  have q24 : ∀ (w : World) (a : Option Addr) (n c n' c' : Nat), (binOp .eql 43 (.slice a n c) (.slice none n' c')).run Tryz.prog w = .ok (.bool a.isNone) w := fun w a n c n' c' => Lib.run_eql_slice_nil w _ _ a n c n' c' Tryz.underlying43
  cases a with
  | none =>
    have h0 : l = [] := by
      obtain ⟨a', cap', hv, _, _, h3⟩ := hl
      rcases h3 with h3 | ⟨b, off, ha, _⟩
      · cases l with
        | nil => rfl
        | cons x l => simp [strC] at h3
      · simp only [Value.slice.injEq] at hv
        rw [ha] at hv
        exact absurd hv.1 (by simp)
    subst h0
    go_enter Tryz.func45, Tryz.ntmps45
    go_wp2
    go_ret
    exact ⟨_, rfl, Own.nil _ _ _ _ _, by repeat (first | exact Below.refl _ _ | with_reducible assumption | (refine allocB ?_ (by first | omega | (simp; done) | (simp; omega)) _) | (refine Below.setCell ?_ (by first | omega | (simp; done) | (simp; omega)) _) | refine Below.drew ?_ | (refine Below.trans ?_ (Below.mono (by with_reducible assumption) (by first | omega | (simp; done) | (simp; omega)))))⟩
  | some a =>
    replace hl := hid hl
    go_enter Tryz.func45, Tryz.ntmps45
    go_wp2_with (at_builtin; go_loud (refine wpList_app rfl _ _ _ rfl w.heap.size _ 1 16 strC_flat elemStr (Own.lit strC_flat w.heap.size _ w [] (Nat.le_refl _) (Nat.zero_le _) rfl rfl rfl) rfl l (hl.out.below (by repeat (first | exact Below.refl _ _ | with_reducible assumption | (refine allocB ?_ (by first | omega | (simp; done) | (simp; omega)) _) | (refine Below.setCell ?_ (by first | omega | (simp; done) | (simp; omega)) _) | refine Below.drew ?_ | (refine Below.trans ?_ (Below.mono (by with_reducible assumption) (by first | omega | (simp; done) | (simp; omega))))))) rfl ?k1 ?k2 ?k3 ?k4))
    all_goals try (case k1 => simp; omega)
    all_goals try (case k2 => simp; omega)
    all_goals try (case k3 => simp)
    case k4 =>
      intro v7 w7 hown7 hgrow
      have hb : Below w.heap.size w w7 := (allocB (Below.refl _ _) (Nat.le_refl _) _).grown hgrow (by simp) (fun k hk => by simp [Value.ownBlock] at hk; omega)
      go_wp2
      go_ret
      exact ⟨_, rfl, hown7, hb⟩
end Go.Proofs.YtjhmfljlclajnacGreatDoor
