/- The law on what is taken in two parts. -/
import Derived.Test.YtjhmfljlclajnaaRing4
import Derived.Test.YtjhmfljlclajnaaIMap
import Derived.Test.YtjhmfljlclajnaaRegCall
namespace Go.Proofs.Ytjhmfljlclajnaa
open Go.RowKit Wb
set_option linter.unusedVariables false
set_option linter.unusedSimpArgs false
set_option maxRecDepth 100000
set_option maxHeartbeats 4000000

theorem tmod_pos (k n : Int) (hn : 0 < n) : -n < k.tmod n ∧ k.tmod n < n ∧ (k.tmod n < 0 → k.tmod n + n = k % n) ∧ (¬ k.tmod n < 0 → k.tmod n = k % n) := by
  have h1 := Int.emod_nonneg k (show n ≠ 0 by omega)
  have h2 := Int.emod_lt_of_pos k hn
  by_cases h0 : 0 ≤ k
  · rw [Int.tmod_eq_emod_of_nonneg h0]
    refine ⟨by omega, h2, fun h => by omega, fun _ => rfl⟩
  · have e : k = -(-k) := by omega
    have g1 := Int.emod_nonneg (-k) (show n ≠ 0 by omega)
    have g2 := Int.emod_lt_of_pos (-k) hn
    have e2 : k.tmod n = -((-k) % n) := by
      conv => lhs; rw [e]
      rw [Int.neg_tmod, Int.tmod_eq_emod_of_nonneg (by omega)]
    have e3 : k % n = if (-k) % n = 0 then 0 else n - (-k) % n := by
      have q1 : k = n * (-((-k) / n)) + -((-k) % n) := by have := Int.mul_ediv_add_emod (-k) n; rw [Int.mul_neg]; omega
      split
      · rename_i hz
        have : n ∣ -k := Int.dvd_of_emod_eq_zero hz
        exact Int.emod_eq_zero_of_dvd ((Int.dvd_neg).1 this)
      · rename_i hz
        have q2 : k = n * (-((-k) / n) - 1) + (n - (-k) % n) := by rw [Int.mul_sub]; omega
        conv => lhs; rw [q2]
        rw [Int.mul_add_emod_self_left]
        exact Int.emod_eq_of_lt (by omega) (by omega)
    rw [e2]
    refine ⟨by omega, by omega, fun h => ?_, fun h => ?_⟩
    · rw [e3, if_neg (by omega)]; omega
    · rw [e3, if_pos (by omega)]; omega

theorem keep_pick (k n : Int) (w : World) (hn : 0 < n) (hn2 : n ≤ 1099511627776) :
    Calls Try.prog 23 #[.int .i64 k, .int .i64 n] w fun e w' => e = .returned (.int .i64 (k % n)) ∧ w = w' := by
  obtain ⟨t1, t2, t3, t4⟩ := tmod_pos k n hn
  have hne : n ≠ 0 := by omega
  have hne' : (n == 0) = false := beq_eq_false_iff_ne.2 hne
  by_cases hlt : k.tmod n < 0
  · have e := hid (t3 hlt)
    clear t3 t4
    have hd : decide (k.tmod n < 0) = true := decide_eq_true hlt
    go_enter Try.func23, Try.ntmps23
    go_wp2
    go_ret
    exact ⟨ret_i e.out, rfl⟩
  · have e := hid (t4 hlt)
    clear t3 t4
    have hlt2 : 0 ≤ k.tmod n := by omega
    go_enter Try.func23, Try.ntmps23
    go_wp2
    go_ret
    exact ⟨ret_i e.out, rfl⟩

theorem keep_rings (w : World) :
    Calls Try.prog 24 #[] w fun e w' => e = .returned (.bool true) ∧ Below w.heap.size w w' := by
  have hT := fun w => ring_Take ⟨22, 0⟩ 3 w
  obtain ⟨t1, t2, t3⟩ := take22
  rw [t1, t2, t3] at hT
  unfold Ring.val at hT
  dsimp only at hT
  replace hT := hid hT
  clear t1 t2 t3
  go_enter Try.func24, Try.ntmps24
  go_wp2_with fail
  refine (hT.out _).mono ?_
  rintro e w1 ⟨v, rfl, hown, hb1⟩
  obtain ⟨a, cap, rfl⟩ := hown.form
  obtain ⟨b, off, rfl, c2⟩ := RL.at1 (fun x => .int .i64 x) (fun _ => rfl) hown.reads (k := 2) (by decide)
  have hlt := World.block_lt_of_cell? _ _ c2
  have c2 : w1.cell? ⟨b, off + 2, none⟩ = some (.int .i64 0) := c2
  have hB : Below w.heap.size w w1 := hb1
  go_wp2
  all_goals go_ret
  all_goals exact ⟨ret_b rfl, by repeat (first | exact Below.refl _ _ | with_reducible assumption | (refine allocB ?_ (by first | omega | (simp; done) | (simp; omega)) _) | (refine Below.setCell ?_ (by first | omega | (simp; done) | (simp; omega)) _) | refine Below.drew ?_ | (refine Below.trans ?_ (Below.mono (by with_reducible assumption) (by first | omega | (simp; done) | (simp; omega)))))⟩

/-! ### The plain law -/
theorem take_two {r : Ring} {n m : Int} (hn : 0 ≤ n) (hm : 0 ≤ m) (h1 : takeE r n = 0) (h2 : takeE (takeR r n) m = 0) :
    goodR r = true ∧ n + m ≤ 24 - r.used ∧ takeR r n = ⟨(r.head + n) % 24, r.used + n⟩ ∧ takeL r n = places r.head n.toNat ∧
    takeR (takeR r n) m = ⟨(r.head + (n + m)) % 24, r.used + (n + m)⟩ ∧ takeL (takeR r n) m = places ((r.head + n) % 24) m.toNat ∧
    takeE r (n + m) = 0 ∧ takeR r (n + m) = ⟨(r.head + (n + m)) % 24, r.used + (n + m)⟩ ∧ takeL r (n + m) = places r.head (n + m).toNat := by
  have e1 := takeR_ok h1
  rw [e1] at h2
  have g1 : ¬ (goodR r = false ∨ n < 0) := fun h => by rw [takeE_bad h] at h1; cases h1
  have g2 : ¬ n > 24 - r.used := fun h => by rw [takeE_full g1 h] at h1; cases h1
  have g3 : ¬ (goodR ⟨(r.head + n) % 24, r.used + n⟩ = false ∨ m < 0) := fun h => by rw [takeE_bad h] at h2; cases h2
  have g4 : ¬ m > 24 - (r.used + n) := fun h => by rw [takeE_full g3 h] at h2; cases h2
  have hg : goodR r = true := by
    cases hh : goodR r
    · exact absurd (.inl hh) g1
    · rfl
  have e3 : takeE r (n + m) = 0 := takeE_ok (fun h => by rcases h with h | h; (· rw [hg] at h; cases h); omega) (by omega)
  refine ⟨hg, by omega, e1, takeL_ok h1, ?_, ?_, e3, takeR_ok e3, takeL_ok e3⟩
  · rw [e1, takeR_ok h2]
    simp only [Ring.mk.injEq]
    exact ⟨by omega, by omega⟩
  · rw [e1, takeL_ok h2]
theorem take_not {r : Ring} {n m : Int} (hn : 0 ≤ n) (hm : 0 ≤ m) (h : takeE r n ≠ 0 ∨ takeE r n = 0 ∧ takeE (takeR r n) m ≠ 0) : takeE r (n + m) ≠ 0 := by
  intro h3
  have g1 : ¬ (goodR r = false ∨ n + m < 0) := fun h => by rw [takeE_bad h] at h3; cases h3
  have g2 : ¬ n + m > 24 - r.used := fun h => by rw [takeE_full g1 h] at h3; cases h3
  have hg : goodR r = true := by
    cases hh : goodR r
    · exact absurd (.inl hh) g1
    · rfl
  have hg' := (goodR_iff r).1 hg
  rcases h with h | ⟨h, h2⟩
  · exact h (takeE_ok (fun h => by rcases h with h | h; (· rw [hg] at h; cases h); omega) (by omega))
  · rw [takeR_ok h] at h2
    refine h2 (takeE_ok (fun h => ?_) ?_)
    · rcases h with h | h
      · rw [goodR_not] at h
        apply h
        dsimp only
        omega
      · omega
    · dsimp only; omega
/-- What is marked behind k rounds. -/
def marked (l : List Int) (k : Nat) (x : Int) : Option Value := if x ∈ l.take k then some (.bool true) else none
theorem marked_step {l : List Int} {k : Nat} (hk : k < l.length) (x : Int) : (if x = l[k] then some (.bool true) else marked l k x) = marked l (k + 1) x := by
  unfold marked
  have e : x ∈ l.take (k + 1) ↔ x = l[k] ∨ x ∈ l.take k := by
    rw [List.take_succ_eq_append_getElem hk, List.mem_append, List.mem_singleton]; exact Or.comm
  by_cases h : x = l[k]
  · rw [if_pos h, if_pos (e.2 (.inl h))]
  · rw [if_neg h]
    by_cases h2 : x ∈ l.take k
    · rw [if_pos h2, if_pos (e.2 (.inr h2))]
    · rw [if_neg h2, if_neg (fun hh => (e.1 hh).elim h h2)]
theorem marked_not {h : Int} {n k : Nat} (hk : k < n) (hn : n ≤ 24) : marked (places h n) k ((h + k) % 24) = none := by
  unfold marked
  rw [if_neg]
  intro hm
  obtain ⟨i, hi⟩ := List.mem_iff_getElem?.1 hm
  rw [List.getElem?_take] at hi
  split at hi
  · rename_i hik
    rw [places_get h n i (by omega)] at hi
    simp only [Option.some.injEq] at hi
    omega
  · cases hi
end Go.Proofs.Ytjhmfljlclajnaa
