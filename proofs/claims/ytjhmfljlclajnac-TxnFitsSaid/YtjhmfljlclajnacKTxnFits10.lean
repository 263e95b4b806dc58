/- Rows that a value owns, among the blocks that are known. No program in sight. The walk of keep's follow. (gen_fits.py) -/
import Derived.Test.YtjhmfljlclajnacKTxnFits5
import Derived.Deep.DeepAppendWide
import Derived.Test.YtjhmfljlclajnacKTxnFits6
import Derived.Test.YtjhmfljlclajnacKTxnFits7
import Derived.Test.YtjhmfljlclajnacKTxnFits9
import Derived.Test.YtjhmfljlclajnacKTxnFits1
namespace Wb
open Go Go.RowKit
set_option linter.unusedVariables false
set_option linter.unusedSimpArgs false

/-- v is the list l, in a row of its own: M is that row, with what is behind the list; or no row, where nothing is there yet. -/
def OwnM {α : Type} (f : α → List Value) (e : TypeId) (c : Nat) (v : Value) (l : List α) (M : List Ent) : Prop :=
  (v = .slice none 0 0 ∧ l = [] ∧ M = []) ∨ ∃ g cap rest, v = .slice (some ⟨g, 0, none⟩) l.length cap ∧ l.length ≤ cap ∧ cap ≤ maxLen ∧ (l.flatMap f ++ rest).length = cap * c ∧ M = [⟨g, l.flatMap f ++ rest, e⟩]
section
variable {α : Type} {f : α → List Value} {e : TypeId} {c : Nat} {v : Value} {l : List α} {M : List Ent} {S : List Nat} {w0 w w' : World} {L T : List Ent} {R : List Rd}
theorem OwnM.nil (f : α → List Value) (e : TypeId) (c : Nat) : OwnM f e c (.slice none 0 0) [] [] := .inl ⟨rfl, rfl, rfl⟩
theorem OwnM.form (h : OwnM f e c v l M) : ∃ a cap, v = .slice a l.length cap := by
  rcases h with ⟨rfl, rfl, _⟩ | ⟨g, cap, rest, rfl, _⟩
  · exact ⟨none, 0, rfl⟩
  · exact ⟨_, _, rfl⟩
/-- It is read. -/
theorem OwnM.reads (h : OwnM f e c v l M) (hb : ∀ x ∈ M, Blk w x.g x.cs.toArray x.t) : RL f w v l := by
  rcases h with ⟨rfl, rfl, rfl⟩ | ⟨g, cap, rest, rfl, h1, h2, h3, rfl⟩
  · exact ⟨none, 0, rfl, Nat.le_refl _, by simp [maxLen], .inl rfl⟩
  · have hk := hb _ (List.mem_singleton.2 rfl)
    refine ⟨_, cap, rfl, h1, h2, .inr ⟨g, 0, rfl, fun j u hj => ?_⟩⟩
    rw [hk.cell]
    have hlt : j < (l.flatMap f).length := (List.getElem?_eq_some_iff.1 hj).1
    rw [Nat.zero_add]
    simp only [List.getElem?_toArray]
    rw [List.getElem?_append_left hlt]; exact hj
theorem St.ownRd (X : St S w0 w (L ++ (M ++ T)) R) (h : OwnM f e c v l M) : RL f w v l := h.reads fun x hx => X.blk x (by simp [hx])
/-- Some of the blocks are forgotten. -/
theorem St.sub {L2 : List Ent} (X : St S w0 w L R) (hs : L2.Sublist L) : St S w0 w L2 R :=
  ⟨X.mv, (hs.map _).nodup X.nd, fun x hx => X.blk x (hs.subset hx), fun x hx => X.own x (hs.subset hx), fun r hr => ⟨(X.rd r hr).1, (X.rd r hr).2.imp id fun h b hb x hx => h b hb x (hs.subset hx)⟩⟩
/-- The row is only read from now on. -/
theorem St.ownEnd (X : St S w0 w (L ++ (M ++ T)) R) (h : OwnM f e c v l M) : St S w0 w (L ++ T) (Rd.of f v l :: R) := by
  have X2 : St S w0 w (L ++ T) R := X.sub (List.Sublist.append_left (List.sublist_append_right _ _) _)
  refine X2.addR (X.ownRd h) ?_
  rcases h with ⟨rfl, rfl, rfl⟩ | ⟨g, cap, rest, rfl, h1, h2, h3, rfl⟩
  · exact .inl rfl
  · refine .inr fun b hb x hx heq => ?_
    cases hb
    have hnd := X.nd
    simp only [List.map_append, List.map_cons, List.map_nil, List.nodup_append, List.nodup_cons, List.mem_append, List.mem_map, List.mem_singleton] at hnd
    obtain ⟨_, ⟨_, _, h5⟩, h6⟩ := hnd
    have heq2 : x.g = g := heq
    rcases List.mem_append.1 hx with hx | hx
    · exact h6 x.g ⟨x, hx, rfl⟩ g (.inl (by simp)) heq2
    · exact h5 g (by simp) x.g ⟨x, hx, rfl⟩ heq2.symm
/-- A block's cells behind its being written as a row. -/
theorem St.push_blk {w1 : World} {g g' : Nat} {cs cs' : List Value} (X : St S w0 w (L ++ ([⟨g, cs, e⟩] ++ T)) R) (hg : w.grownBy w1 (some g)) (hb : Blk w1 g' cs'.toArray e) (hg' : g' = g ∨ w.heap.size ≤ g') :
    St S w0 w1 (L ++ ([⟨g', cs', e⟩] ++ T)) R := by
  have hnd := X.nd
  simp only [List.map_append, List.map_cons, List.map_nil, List.nodup_append, List.nodup_cons, List.mem_append, List.mem_map, List.mem_singleton] at hnd
  obtain ⟨nL, ⟨_, nT, h5⟩, h6⟩ := hnd
  have ho := X.own ⟨g, cs, e⟩ (by simp)
  have hlt : ∀ x ∈ L ++ T, x.g < w.heap.size := fun x hx => (X.blk x (by rcases List.mem_append.1 hx with h | h <;> simp [h])).lt
  have hneL : ∀ x ∈ L, x.g ≠ g := fun x hx => h6 x.g ⟨x, hx, rfl⟩ g (.inl (by simp))
  have hneT : ∀ x ∈ T, x.g ≠ g := fun x hx heq => h5 g (by simp) x.g ⟨x, hx, rfl⟩ heq.symm
  have hne' : ∀ x ∈ L ++ T, x.g ≠ g' := fun x hx heq => by
    rcases hg' with rfl | hg'
    · rcases List.mem_append.1 hx with h | h
      · exact hneL x h heq
      · exact hneT x h heq
    · have := hlt x hx; omega
  have hm := Mv.ofGrown hg
  have hsz := X.mv.size
  have hR : ∀ r ∈ R, r.cs = [] ∨ ∀ b, vblk r.v = some b → b ≠ g := fun r hr => (X.rd r hr).2.imp id fun h b hb => (h b hb ⟨g, cs, e⟩ (by simp)).symm
  refine ⟨X.mv.then hm (fun k hk => ?_), ?_, fun x hx => ?_, fun x hx => ?_, fun r hr => ⟨(X.rd r hr).1.mv hm ((hR r hr).imp id fun h b hb => by simpa using h b hb), ?_⟩⟩
  · obtain rfl : k = g := by simpa using hk
    exact ho
  · simp only [List.map_append, List.map_cons, List.map_nil, List.nodup_append, List.nodup_cons, List.mem_append, List.mem_map, List.mem_singleton]
    refine ⟨nL, ⟨⟨by simp, List.nodup_nil⟩, nT, ?_⟩, ?_⟩
    · rintro a rfl b ⟨x, hx, rfl⟩ heq
      exact hne' x (by simp [hx]) heq.symm
    · rintro a ⟨x, hx, rfl⟩ b (rfl | ⟨y, hy, rfl⟩) heq
      · exact hne' x (by simp [hx]) heq
      · exact h6 x.g ⟨x, hx, rfl⟩ y.g (.inr ⟨y, hy, rfl⟩) heq
  · rcases List.mem_append.1 hx with hx | hx
    · exact (X.blk x (by simp [hx])).mv hm (by simpa using hneL x hx)
    · rcases List.mem_append.1 hx with hx | hx
      · obtain rfl := List.mem_singleton.1 hx; exact hb
      · exact (X.blk x (by simp [hx])).mv hm (by simpa using hneT x hx)
  · rcases List.mem_append.1 hx with hx | hx
    · exact X.own x (by simp [hx])
    · rcases List.mem_append.1 hx with hx | hx
      · obtain rfl := List.mem_singleton.1 hx
        rcases hg' with rfl | hg'
        · exact ho
        · exact .inr (by show w0.heap.size ≤ g'; omega)
      · exact X.own x (by simp [hx])
  · rcases (X.rd r hr).2 with h | h
    · exact .inl h
    · rcases (X.rd r hr).1.lt with h2 | h2
      · exact .inl h2
      refine .inr fun b hb x hx heq => ?_
      rcases List.mem_append.1 hx with hx | hx
      · exact h b hb x (by simp [hx]) heq
      · rcases List.mem_append.1 hx with hx | hx
        · obtain rfl := List.mem_singleton.1 hx
          rcases hg' with rfl | hg'
          · exact h b hb ⟨g', cs, e⟩ (by simp) heq
          · have := h2 b hb
            have h3 : g' = b := heq
            omega
        · exact h b hb x (by simp [hx]) heq
theorem St.perm {L2 : List Ent} (X : St S w0 w L R) (hp : L.Perm L2) : St S w0 w L2 R :=
  ⟨X.mv, (hp.map _).nodup_iff.1 X.nd, fun x hx => X.blk x (hp.mem_iff.2 hx), fun x hx => X.own x (hp.mem_iff.2 hx), fun r hr => ⟨(X.rd r hr).1, (X.rd r hr).2.imp id fun h b hb x hx => h b hb x (hp.mem_iff.2 hx)⟩⟩
theorem size_zeros (z : Array Value) (n : Nat) : (Builtin.zeroCells z n).size = n * z.size := by simp [Builtin.zeroCells]
/-- append: the row grows where it is, or a new one is laid. -/
theorem St.pushF {P : Program} (t ty : TypeId) (bytes : Nat) (hF : Flat f c) (hT : Elem P t e c bytes) (X : St S w0 w (L ++ (M ++ T)) R) (hO : OwnM f e c v l M)
    {vx : Value} (l2 : List α) (hs : RL f w vx l2) (hroom : l2.length * bytes ≤ 281474976710656) (hfit : ∀ old, old < l.length + l2.length → Builtin.nextslicecap (l.length + l2.length) old * bytes ≤ 281474976710656) (h63 : l.length + l2.length ≤ maxLen) :
    ∃ v' w' M', (Builtin.append_ #[t, t] ty #[v, vx]).run P w = .ok v' w' ∧ OwnM f e c v' (l ++ l2) M' ∧ St S w0 w' (L ++ (M' ++ T)) R := by
  obtain ⟨a, cx, rfl, x1, x2, x3⟩ := hs
  obtain ⟨ht, i, z, hi, hz, hsz, hby, hzs⟩ := hT
  subst hsz
  subst hby
  cases l2 with
  | nil =>
    refine ⟨v, w, M, ?_, by simpa using hO, X⟩
    rcases hO with ⟨rfl, rfl, rfl⟩ | ⟨g, cap, rest, rfl, h1, h2, h3, rfl⟩
    · cases a <;> simp [Builtin.append_, run_underlying ht, Go.sizeOf, typeInfo, hi, Builtin.lenOf, Builtin.firstCells, loadCells, loadCellsFrom]
    · cases a <;> simp [Builtin.append_, run_underlying ht, Go.sizeOf, typeInfo, hi, Builtin.lenOf, Builtin.firstCells, loadCells, loadCellsFrom, h1, storeCells]
  | cons y l2 =>
    have hfl := flat_len hF.len (y :: l2)
    rcases x3 with x3 | ⟨bx, off, rfl, hc⟩
    · exfalso
      have h4 : 0 < (y :: l2).length * i.size := Nat.mul_pos (by simp) hF.pos
      rw [x3] at hfl; rw [← hfl] at h4
      simp at h4
    have hnews : ∀ j u, ((y :: l2).flatMap f)[j]? = some u → w.cell? ((⟨bx, off, none⟩ : Addr).add j) = some u := fun j u hj => by rw [Addr.add_lit]; exact hc j u hj
    have hone : ∀ u ∈ (y :: l2).flatMap f, u.oneCell' = true := fun u hu => by obtain ⟨x, _, hx⟩ := List.mem_flatMap.1 hu; exact hF.one x u hx
    have hpos : 0 < (y :: l2).length := by simp
    generalize hn : (y :: l2).length = m at *
    generalize hnw : (y :: l2).flatMap f = news at *
    have hlm : (l ++ y :: l2).length = l.length + m := by rw [List.length_append, hn]
    have hfm : (l ++ y :: l2).flatMap f = l.flatMap f ++ news := by rw [List.flatMap_append, hnw]
    have hll := flat_len hF.len l
    simp only [maxLen] at h63
    rcases hO with ⟨rfl, rfl, rfl⟩ | ⟨g, cap, rest, rfl, h1, h2, h3, rfl⟩
    · have hr := run_append_nil (P := P) w t ty e i z ht hi hz ⟨bx, off, none⟩ m cx news hfl hnews (by omega) (by omega) hroom
      have hge := grownCap_ge w m 0 e
      have hcm : grownCap w m 0 e ≤ maxLen := grownCap_le_maxLen w m 0 e (by simp only [maxLen]; simp at h63; omega)
      refine ⟨_, _, [⟨w.heap.size, news ++ (Builtin.zeroCells z.cells (grownCap w m 0 e - m)).toList, e⟩], hr, .inr ⟨w.heap.size, grownCap w m 0 e, (Builtin.zeroCells z.cells (grownCap w m 0 e - m)).toList, by rw [hlm]; simp, by rw [hlm]; simpa using hge, hcm, ?_, by rw [hfm]; simp⟩, ?_⟩
      · rw [hfm]
        simp only [List.flatMap_nil, List.nil_append, List.length_append, Array.length_toList, size_zeros, hzs, hfl, ← Nat.add_mul]
        congr 1; omega
      · have X2 := (X.drew.alloc (news ++ (Builtin.zeroCells z.cells (grownCap w m 0 e - m)).toList) e)
        have X3 := X2.perm (L2 := L ++ ([⟨w.heap.size, news ++ (Builtin.zeroCells z.cells (grownCap w m 0 e - m)).toList, e⟩] ++ T)) (by
          simp only [List.nil_append, List.cons_append]
          exact (List.perm_middle).symm)
        have e1 : (news ++ (Builtin.zeroCells z.cells (grownCap w m 0 e - m)).toList).toArray = news.toArray ++ Builtin.zeroCells z.cells (grownCap w m 0 e - m) := by simp
        rw [e1] at X3
        exact X3
    · have hb := X.blk ⟨g, l.flatMap f ++ rest, e⟩ (by simp)
      have htk : (l.flatMap f ++ rest).take (l.length * i.size) = l.flatMap f := by rw [← hll]; exact List.take_left
      by_cases hrm : l.length + m ≤ cap
      · have hfit : l.length * i.size + news.length ≤ (l.flatMap f ++ rest).toArray.size := by
          rw [List.size_toArray, h3, hfl, ← Nat.add_mul]; exact Nat.mul_le_mul_right _ hrm
        have hr := run_append_room (P := P) w t ty e i ht hi g l.length cap _ hb ⟨bx, off, none⟩ m cx news hfl hnews hone hrm hfit
        have hdr : (l.flatMap f ++ rest).drop (l.length * i.size + news.length) = rest.drop news.length := by
          rw [← hll, ← List.drop_drop, List.drop_left]
        rw [List.toList_toArray, htk, hdr] at hr
        refine ⟨_, _, [⟨g, l.flatMap f ++ news ++ rest.drop news.length, e⟩], hr, .inr ⟨g, cap, rest.drop news.length, by rw [hlm], by rw [hlm]; exact hrm, h2, ?_, by rw [hfm]⟩, ?_⟩
        · rw [hfm]
          simp only [List.length_append, List.length_drop] at h3 ⊢
          rw [List.size_toArray, List.length_append] at hfit
          rw [hll] at h3 ⊢
          omega
        · refine X.push_blk ⟨rfl, rfl, rfl, by simp, fun k _ hk => setRow_other w g k _ (fun e => hk (by simp [e]))⟩ ?_ (.inl rfl)
          exact setRow_heap w g _ _ e _ hb
      · have holds : ∀ j u, (l.flatMap f)[j]? = some u → w.cell? ((⟨g, 0, none⟩ : Addr).add j) = some u := fun j u hj => by
          rw [Addr.add_lit, Nat.zero_add, hb.cell]
          have hlt : j < (l.flatMap f).length := (List.getElem?_eq_some_iff.1 hj).1
          simp only [List.getElem?_toArray]
          rw [List.getElem?_append_left hlt]; exact hj
        have hr := run_append_grow (P := P) w t ty e i z ht hi hz ⟨g, 0, none⟩ l.length cap (l.flatMap f) hll holds ⟨bx, off, none⟩ m cx news hfl hnews (by omega) (by omega) (hfit cap (by omega))
        have hge := grownCap_ge w (l.length + m) cap e
        have hcm : grownCap w (l.length + m) cap e ≤ maxLen := grownCap_le_maxLen w (l.length + m) cap e (by simp only [maxLen]; omega)
        refine ⟨_, _, [⟨w.heap.size, l.flatMap f ++ news ++ (Builtin.zeroCells z.cells (grownCap w (l.length + m) cap e - (l.length + m))).toList, e⟩], hr, .inr ⟨w.heap.size, grownCap w (l.length + m) cap e, (Builtin.zeroCells z.cells (grownCap w (l.length + m) cap e - (l.length + m))).toList, by rw [hlm], by rw [hlm]; exact hge, hcm, ?_, by rw [hfm]⟩, ?_⟩
        · rw [hfm]
          simp only [List.length_append, Array.length_toList, size_zeros, hzs, hfl, hll, ← Nat.add_mul]
          congr 1; omega
        · have e1 : (l.flatMap f).toArray ++ news.toArray ++ Builtin.zeroCells z.cells (grownCap w (l.length + m) cap e - (l.length + m)) = (l.flatMap f ++ news ++ (Builtin.zeroCells z.cells (grownCap w (l.length + m) cap e - (l.length + m))).toList).toArray := by simp
          rw [e1]
          refine X.push_blk (w1 := w.drew.alloc _) ⟨rfl, rfl, rfl, by simp, fun k hk _ => heap_alloc_old w.drew _ hk⟩ ?_ (.inr (Nat.le_refl _))
          exact Blk.new w.drew _ _
theorem St.push {P : Program} (t ty : TypeId) (bytes : Nat) (hF : Flat f c) (hT : Elem P t e c bytes) (X : St S w0 w (L ++ (M ++ T)) R) (hO : OwnM f e c v l M)
    {vx : Value} (l2 : List α) (hs : RL f w vx l2) (hroom : (l.length + l2.length) * bytes ≤ 140737488355328) (h63 : l.length + l2.length ≤ maxLen) :
    ∃ v' w' M', (Builtin.append_ #[t, t] ty #[v, vx]).run P w = .ok v' w' ∧ OwnM f e c v' (l ++ l2) M' ∧ St S w0 w' (L ++ (M' ++ T)) R :=
  X.pushF t ty bytes hF hT hO l2 hs (Nat.le_trans (Nat.mul_le_mul_right _ (Nat.le_add_left _ _)) (Nat.le_trans hroom (by decide))) (fun _ h => growslice_fits h hroom) h63
theorem St.pushW {P : Program} (t ty : TypeId) (bytes : Nat) (hF : Flat f c) (hT : Elem P t e c bytes) (X : St S w0 w (L ++ (M ++ T)) R) (hO : OwnM f e c v l M)
    {vx : Value} (l2 : List α) (hs : RL f w vx l2) (hroom : (l.length + l2.length + (l.length + l2.length) / 4 + 192) * bytes ≤ 281474976710656) (h63 : l.length + l2.length ≤ maxLen) :
    ∃ v' w' M', (Builtin.append_ #[t, t] ty #[v, vx]).run P w = .ok v' w' ∧ OwnM f e c v' (l ++ l2) M' ∧ St S w0 w' (L ++ (M' ++ T)) R :=
  X.pushF t ty bytes hF hT hO l2 hs (Nat.le_trans (Nat.mul_le_mul_right _ (by omega)) hroom) (fun _ h => growslice_fits_wide h hroom) h63
end
end Wb
namespace Wb
open Go Go.RowKit
section
variable {α : Type} {f : α → List Value} {e : TypeId} {c : Nat} {v : Value} {l : List α} {M : List Ent} {S : List Nat} {w0 w w' : World} {L T : List Ent} {R : List Rd}
theorem OwnM.fresh (h : OwnM f e c v l M) (X : St [] w0 w (L ++ (M ++ T)) R) : ∀ b, vblk v = some b → w0.heap.size ≤ b := fun b hb => by
  rcases h with ⟨rfl, rfl, rfl⟩ | ⟨g, cap, rest, rfl, h1, h2, h3, rfl⟩
  · cases hb
  · cases hb
    rcases X.own ⟨g, l.flatMap f ++ rest, e⟩ (by simp) with h | h
    · cases h
    · exact h
/-- 'append(s, y)' where s has a row of its own. pre: the blocks ahead of the row. -/
theorem m_push (pre : List Ent) {P : Program} {ops : Array Oper} {rest : List Oper} {o : Oper} {a : Act} {Q : Exit → Act → World → Prop} {cs : Array Value} {fr : Nat × Nat} {g : Nat} (hgd : o.guard = none) (s x : Operand) (t : TypeId)
    (ho : o.op = .call { callee := .builtin .append, args := #[s, x], argTypes := #[t, t] })
    (bytes : Nat) (hF : Flat f c) (hT : Elem P t e c bytes) (X : St S w0 w (pre ++ (M ++ T)) R) (hO : OwnM f e c v l M) (hs : a.eval s = v)
    (y : α) (hcs : (f y).toArray = cs) (hx : a.eval x = .slice (some ⟨g, 0, none⟩) 1 1) (hroom : (l.length + 1) * bytes ≤ 140737488355328) (h63 : l.length + 1 ≤ maxLen)
    (h : ∀ a' cap' w' M', OwnM f e c (.slice a' (l.length + 1) cap') (l ++ [y]) M' → St S w0 w' (pre ++ (M' ++ T)) R → wpList P ops Q rest (a.put o.dst (.slice a' (l.length + 1) cap')) w')
    (hg : g = w.heap.size := by first | rfl | (simp; done)) : wpList P ops Q (o :: rest) a (w.alloc (.cells cs e fr)) := by
  subst hcs
  subst hg
  have X2 : St S w0 (w.alloc (.cells (f y).toArray e fr)) (pre ++ (M ++ T)) R := X.call (bal (b0 w) _)
  refine wpList_plain hgd fun K hK => ?_
  obtain ⟨v', w', M', hr, r1, r2⟩ := X2.push (P := P) t o.type bytes hF hT hO [y] (RL.new1 w e fr y) hroom h63
  obtain ⟨a', cap', rfl⟩ := r1.form
  have hl : (l ++ [y]).length = l.length + 1 := by simp
  rw [hl] at hr r1
  unfold Oper.wp execOp
  simp only [ho, resolve, invoke, builtin, Sem.run_bind, Sem.run_pure, Result.andThen_ok, List.map_toArray, List.map_cons, List.map_nil, hs, hx, hr]
  exact hK _ _ (h a' cap' w' M' r1 r2)
end
end Wb

namespace Wb
open Go Go.RowKit
theorem NewT.lift {B0 B : Nat} {w1 w' : World} {vm vd vr vm' vd' vr' : Value} {t t' : Txn} (hN : NewT B w1 vm vd vr vm' vd' vr' t t') (hB : B0 ≤ B) (hm : RL cpyC w' vm' t'.mt) (hd : RL cpyC w' vd' t'.dt) (hr : RL intC w' vr' t'.rev) : NewT B0 w' vm vd vr vm' vd' vr' t t' :=
  ⟨hN.m.imp id fun h => ⟨hm, fun b hb => Nat.le_trans hB (h.2 b hb)⟩, hN.d.imp id fun h => ⟨hd, fun b hb => Nat.le_trans hB (h.2 b hb)⟩, hN.r.imp id fun h => ⟨hr, fun b hb => Nat.le_trans hB (h.2 b hb)⟩⟩
theorem NewT.of {B : Nat} {w' : World} {vm vd vr : Value} {t t' : Txn} (h : t'.mt = t.mt ∧ t'.dt = t.dt ∧ t'.rev = t.rev) : NewT B w' vm vd vr vm vd vr t t' := ⟨.inl ⟨rfl, h.1⟩, .inl ⟨rfl, h.2.1⟩, .inl ⟨rfl, h.2.2⟩⟩
end Wb
namespace Go.Proofs.Ytjhmfljlclajnac
open Go.RowKit Wb
set_option linter.unusedVariables false
set_option linter.unusedSimpArgs false
set_option maxRecDepth 100000
set_option maxHeartbeats 8000000
instance : AggT Try.prog 47 5 := ⟨⟨_, Try.underlying47, rfl⟩, by kernel_rfl⟩
instance : FieldT Try.prog 47 0 0 := ⟨fun _ _ _ => by kernel_rfl⟩
instance : FieldT Try.prog 47 1 1 := ⟨fun _ _ _ => by kernel_rfl⟩
instance : FieldT Try.prog 47 2 2 := ⟨fun _ _ _ => by kernel_rfl⟩
instance : FieldT Try.prog 47 3 3 := ⟨fun _ _ _ => by kernel_rfl⟩
instance : FieldT Try.prog 47 4 4 := ⟨fun _ _ _ => by kernel_rfl⟩
theorem keep_follow_0 (t : Txn) (o : Ord) (fr : Int) (vm vd vr : Value) (w0 : World) (ht : RTxn w0 (txnV t vm vd vr) t) (hs : o.text.size ≤ 9223372036854775807) (hk : o.kind % 5 = 0) :
    Calls Try.prog 19 #[txnV t vm vd vr, .agg (ordC o).toArray, .int .i64 fr] w0 fun e w' => ∃ vm' vd' vr', e = .returned (.tuple #[txnV (ordT t o fr) vm' vd' vr', .int .i64 (ordE t o fr)]) ∧ NewT w0.heap.size w' vm vd vr vm' vd' vr' t (ordT t o fr) ∧ Below w0.heap.size w0 w' := by
  have eT : ordT t o fr = begT t (o.h % 3) o.n fr := by unfold ordT;  rw [if_pos hk]
  have eE : ordE t o fr = begE t (o.h % 3) o.n fr := by unfold ordE;  rw [if_pos hk]
  rw [eT, eE]
  clear eT eE
  obtain ⟨vm', vd', vr', hvv, hm, hd, hr, n1, n2, n3⟩ := ht
  simp only [txnV, Value.agg.injEq, Array.mk.injEq, List.cons.injEq, and_true, true_and] at hvv
  obtain ⟨rfl, rfl, rfl⟩ := hvv
  have X : St [] w0 w0 [] [Rd.of cpyC vm t.mt, Rd.of cpyC vd t.dt, Rd.of intC vr t.rev] := (((St.start [] w0).addR0 hr).addR0 hd).addR0 hm
  obtain ⟨am, cm, rfl, _⟩ := hm.form
  obtain ⟨ad, cd, rfl, _⟩ := hd.form
  obtain ⟨ar, cr, rfl, _⟩ := hr.form
  have hP3 := hid (fun w' => keep_pick o.h 3 w' (by decide) (by decide))
  have hP12 := hid (fun w' => keep_pick o.b 12 w' (by decide) (by decide))
  have hP5 := fun w' => keep_pick o.kind 5 w' (by decide) (by decide)
  rw [hk] at hP5
  replace hP5 := hid hP5
  have hF := hid (fun w' => disk_Fit o.text w' hs)
  have hC := fun vm vd vr w' hx => txn_Begin t (o.h % 3) o.n fr vm vd vr w' hx
  have hsm := begT_same t (o.h % 3) o.n fr
  obtain ⟨kind, oh, ob, n, text⟩ := o
  dsimp only [ordC] at *
  simp only [txnV] at hC ⊢
  replace hC := hid hC
  generalize oh % 3 = H at *
  generalize ob % 12 = B at *
  skip
  clear hm hd hr hs hk
  go_enter Try.func19, Try.ntmps19
  go_wp2_with (first
    | (refine at_mem rfl ?_; (first | (refine at_load rfl ?_; (first | (refine c_load1 rfl _ _ rfl rfl X (by repeat (first | exact ReadA.here rfl | apply ReadA.there)) ?_) | (refine c_loadN rfl _ _ rfl rfl X (by repeat (first | exact ReadB.here (Nat.le_of_ble_eq_true rfl) | apply ReadB.there)) ?_))) | (refine at_store rfl ?_; (first | (refine c_store1 rfl _ _ _ rfl rfl (by first | exact EvR.const _ | exact EvR.tmp rfl rfl) X rfl rfl (by repeat (first | exact PutA.here (Nat.le_of_ble_eq_true rfl) | apply PutA.there)) ?_; intro w X2; (try simp only [upd] at X2); replace X := X2; clear X2) | (refine c_storeN rfl _ _ _ rfl rfl rfl X rfl rfl (by repeat (first | exact PutA.here (Nat.le_of_ble_eq_true rfl) | apply PutA.there)) ?_; intro w X2; (try simp only [upd] at X2); replace X := X2; clear X2))) | (refine m_alloc rfl _ rfl X ?_; intro g w X2; (replace X := X2; clear X2)) | (refine m_box rfl _ _ rfl (by first | exact EvR.const _ | exact EvR.tmp rfl rfl) rfl X ?_; intro g w X2; (replace X := X2; clear X2))); (simp only [Act.put, List.setIfInBounds_toArray, List.set_cons_succ, List.set_cons_zero, List.drop_succ_cons, List.drop_zero, List.take_succ_cons, List.take_zero, Nat.reduceAdd])))
  have X9 := X.perm (List.perm_append_comm (l₁ := [_]) (l₂ := [_, _]))
  simp only [List.cons_append, List.nil_append] at X9
  replace X := X9
  clear X9
  (refine q_start 2 [] [2, 5] [1, 4] [0, 1, 3, 4, 2, 5, 6, 7] X (by kernel_rfl) (by kernel_rfl) (fun _ _ _ _ _ h => h) ?_; intro hQ X2 hL; replace X := X2; clear X2; simp only [List.take_succ_cons, List.take_zero] at hL; simp only [List.take_succ_cons, List.take_zero])
  (refine q_field rfl rfl (by first | exact EvR.const _ | exact EvR.tmp rfl rfl) rfl rfl hQ ?_; (simp only [Act.put, List.setIfInBounds_toArray, List.set_cons_succ, List.set_cons_zero, List.drop_succ_cons, List.drop_zero, List.take_succ_cons, List.take_zero, Nat.reduceAdd]))
  ((first | (refine d_load1 rfl rfl (by first | exact EvR.const _ | exact EvR.tmp rfl rfl) (by repeat (first | exact ReadA.here rfl | apply ReadA.there)) rfl rfl X hL hQ ?_) | (refine d_loadN rfl rfl (by first | exact EvR.const _ | exact EvR.tmp rfl rfl) (by repeat (first | exact ReadB.here (Nat.le_of_ble_eq_true rfl) | apply ReadB.there)) rfl rfl X hL hQ ?_)); (simp only [Act.put, List.setIfInBounds_toArray, List.set_cons_succ, List.set_cons_zero, List.drop_succ_cons, List.drop_zero, List.take_succ_cons, List.take_zero, Nat.reduceAdd]))
  (refine q_field rfl rfl (by first | exact EvR.const _ | exact EvR.tmp rfl rfl) rfl rfl hQ ?_; (simp only [Act.put, List.setIfInBounds_toArray, List.set_cons_succ, List.set_cons_zero, List.drop_succ_cons, List.drop_zero, List.take_succ_cons, List.take_zero, Nat.reduceAdd]))
  ((first | (refine d_load1 rfl rfl (by first | exact EvR.const _ | exact EvR.tmp rfl rfl) (by repeat (first | exact ReadA.here rfl | apply ReadA.there)) rfl rfl X hL hQ ?_) | (refine d_loadN rfl rfl (by first | exact EvR.const _ | exact EvR.tmp rfl rfl) (by repeat (first | exact ReadB.here (Nat.le_of_ble_eq_true rfl) | apply ReadB.there)) rfl rfl X hL hQ ?_)); (simp only [Act.put, List.setIfInBounds_toArray, List.set_cons_succ, List.set_cons_zero, List.drop_succ_cons, List.drop_zero, List.take_succ_cons, List.take_zero, Nat.reduceAdd]))
  (refine q_call 18 _ _ rfl rfl _ rfl ⟨_, _, Try.func18, by kernel_rfl, rfl⟩ rfl rfl (hP3.out _) ?_; rintro e w1 ⟨rfl, rfl⟩; (have hL2 := X.und (by first | exact hL | exact hL.up | exact hL.up3 | exact hL.up.up); replace hL := hL2; clear hL2); refine ⟨_, rfl, fun _ _ => X.keeps hL, ?_⟩; (simp only [Act.put, List.setIfInBounds_toArray, List.set_cons_succ, List.set_cons_zero, List.drop_succ_cons, List.drop_zero, List.take_succ_cons, List.take_zero, Nat.reduceAdd]))
  (refine q_call 18 _ _ rfl rfl _ rfl ⟨_, _, Try.func18, by kernel_rfl, rfl⟩ rfl rfl (hP12.out _) ?_; rintro e w1 ⟨rfl, rfl⟩; (have hL2 := X.und (by first | exact hL | exact hL.up | exact hL.up3 | exact hL.up.up); replace hL := hL2; clear hL2); refine ⟨_, rfl, fun _ _ => X.keeps hL, ?_⟩; (simp only [Act.put, List.setIfInBounds_toArray, List.set_cons_succ, List.set_cons_zero, List.drop_succ_cons, List.drop_zero, List.take_succ_cons, List.take_zero, Nat.reduceAdd]))
  (refine q_assign rfl rfl (by first | exact EvR.const _ | exact EvR.tmp rfl rfl) rfl rfl hQ ?_; (simp only [Act.put, List.setIfInBounds_toArray, List.set_cons_succ, List.set_cons_zero, List.drop_succ_cons, List.drop_zero, List.take_succ_cons, List.take_zero, Nat.reduceAdd]))
  (refine q_assign rfl rfl (by first | exact EvR.const _ | exact EvR.tmp rfl rfl) rfl rfl hQ ?_; (simp only [Act.put, List.setIfInBounds_toArray, List.set_cons_succ, List.set_cons_zero, List.drop_succ_cons, List.drop_zero, List.take_succ_cons, List.take_zero, Nat.reduceAdd]))
  refine q_nil ?_
  go_wp2_with (first
    | (refine at_mem rfl ?_; (first | (refine at_load rfl ?_; (first | (refine c_load1 rfl _ _ rfl rfl X (by repeat (first | exact ReadA.here rfl | apply ReadA.there)) ?_) | (refine c_loadN rfl _ _ rfl rfl X (by repeat (first | exact ReadB.here (Nat.le_of_ble_eq_true rfl) | apply ReadB.there)) ?_))) | (refine at_store rfl ?_; (first | (refine c_store1 rfl _ _ _ rfl rfl (by first | exact EvR.const _ | exact EvR.tmp rfl rfl) X rfl rfl (by repeat (first | exact PutA.here (Nat.le_of_ble_eq_true rfl) | apply PutA.there)) ?_; intro w X2; (try simp only [upd] at X2); replace X := X2; clear X2) | (refine c_storeN rfl _ _ _ rfl rfl rfl X rfl rfl (by repeat (first | exact PutA.here (Nat.le_of_ble_eq_true rfl) | apply PutA.there)) ?_; intro w X2; (try simp only [upd] at X2); replace X := X2; clear X2))) | (refine m_alloc rfl _ rfl X ?_; intro g w X2; (replace X := X2; clear X2)) | (refine m_box rfl _ _ rfl (by first | exact EvR.const _ | exact EvR.tmp rfl rfl) rfl X ?_; intro g w X2; (replace X := X2; clear X2))); (simp only [Act.put, List.setIfInBounds_toArray, List.set_cons_succ, List.set_cons_zero, List.drop_succ_cons, List.drop_zero, List.take_succ_cons, List.take_zero, Nat.reduceAdd]))
    | (go_at_call 18; go_loud ((with_reducible refine (hP5.out _).mono ?_); rintro e w1 ⟨rfl, rfl⟩))
    | (go_at_call 41; go_loud ((have hc := hC.out _ _ _ _ (X.rtxn (.head _) (.tail _ (.head _)) (.tail _ (.tail _ (.head _))) n1 n2 n3); (try simp only [txnV] at hc); (with_reducible refine hc.mono ?_); clear hc; rintro e w1 ⟨rfl, hb1⟩; replace X := X.call hb1; clear hb1))))
  exact m_ret2 rfl (.tmp rfl rfl) (.tmp rfl rfl) X (.tail _ (.tail _ (.head _))) rfl rfl ⟨_, _, _, rfl, NewT.of hsm, X.below⟩
theorem keep_follow_1 (t : Txn) (o : Ord) (fr : Int) (vm vd vr : Value) (w0 : World) (ht : RTxn w0 (txnV t vm vd vr) t) (hs : o.text.size ≤ 9223372036854775807) (hk : o.kind % 5 = 1) :
    Calls Try.prog 19 #[txnV t vm vd vr, .agg (ordC o).toArray, .int .i64 fr] w0 fun e w' => ∃ vm' vd' vr', e = .returned (.tuple #[txnV (ordT t o fr) vm' vd' vr', .int .i64 (ordE t o fr)]) ∧ NewT w0.heap.size w' vm vd vr vm' vd' vr' t (ordT t o fr) ∧ Below w0.heap.size w0 w' := by
  have eT : ordT t o fr = chgT t (o.h % 3) (o.b % 12) (fit o.text) := by unfold ordT; rw [if_neg (by omega)]; rw [if_pos hk]
  have eE : ordE t o fr = chgE t (o.h % 3) (o.b % 12) (fit o.text) := by unfold ordE; rw [if_neg (by omega)]; rw [if_pos hk]
  rw [eT, eE]
  clear eT eE
  obtain ⟨vm', vd', vr', hvv, hm, hd, hr, n1, n2, n3⟩ := ht
  simp only [txnV, Value.agg.injEq, Array.mk.injEq, List.cons.injEq, and_true, true_and] at hvv
  obtain ⟨rfl, rfl, rfl⟩ := hvv
  have X : St [] w0 w0 [] [Rd.of cpyC vm t.mt, Rd.of cpyC vd t.dt, Rd.of intC vr t.rev] := (((St.start [] w0).addR0 hr).addR0 hd).addR0 hm
  obtain ⟨am, cm, rfl, _⟩ := hm.form
  obtain ⟨ad, cd, rfl, _⟩ := hd.form
  obtain ⟨ar, cr, rfl, _⟩ := hr.form
  have hP3 := hid (fun w' => keep_pick o.h 3 w' (by decide) (by decide))
  have hP12 := hid (fun w' => keep_pick o.b 12 w' (by decide) (by decide))
  have hP5 := fun w' => keep_pick o.kind 5 w' (by decide) (by decide)
  rw [hk] at hP5
  replace hP5 := hid hP5
  have hF := hid (fun w' => disk_Fit o.text w' hs)
  have hC := fun vm vd vr w' hx => txn_Change t (o.h % 3) (o.b % 12) (fit o.text) vm vd vr w' hx
  obtain ⟨kind, oh, ob, n, text⟩ := o
  dsimp only [ordC] at *
  simp only [txnV] at hC ⊢
  replace hC := hid hC
  generalize oh % 3 = H at *
  generalize ob % 12 = B at *
  generalize fit text = F at *
  clear hm hd hr hs hk
  go_enter Try.func19, Try.ntmps19
  go_wp2_with (first
    | (refine at_mem rfl ?_; (first | (refine at_load rfl ?_; (first | (refine c_load1 rfl _ _ rfl rfl X (by repeat (first | exact ReadA.here rfl | apply ReadA.there)) ?_) | (refine c_loadN rfl _ _ rfl rfl X (by repeat (first | exact ReadB.here (Nat.le_of_ble_eq_true rfl) | apply ReadB.there)) ?_))) | (refine at_store rfl ?_; (first | (refine c_store1 rfl _ _ _ rfl rfl (by first | exact EvR.const _ | exact EvR.tmp rfl rfl) X rfl rfl (by repeat (first | exact PutA.here (Nat.le_of_ble_eq_true rfl) | apply PutA.there)) ?_; intro w X2; (try simp only [upd] at X2); replace X := X2; clear X2) | (refine c_storeN rfl _ _ _ rfl rfl rfl X rfl rfl (by repeat (first | exact PutA.here (Nat.le_of_ble_eq_true rfl) | apply PutA.there)) ?_; intro w X2; (try simp only [upd] at X2); replace X := X2; clear X2))) | (refine m_alloc rfl _ rfl X ?_; intro g w X2; (replace X := X2; clear X2)) | (refine m_box rfl _ _ rfl (by first | exact EvR.const _ | exact EvR.tmp rfl rfl) rfl X ?_; intro g w X2; (replace X := X2; clear X2))); (simp only [Act.put, List.setIfInBounds_toArray, List.set_cons_succ, List.set_cons_zero, List.drop_succ_cons, List.drop_zero, List.take_succ_cons, List.take_zero, Nat.reduceAdd])))
  have X9 := X.perm (List.perm_append_comm (l₁ := [_]) (l₂ := [_, _]))
  simp only [List.cons_append, List.nil_append] at X9
  replace X := X9
  clear X9
  (refine q_start 2 [] [2, 5] [1, 4] [0, 1, 3, 4, 2, 5, 6, 7] X (by kernel_rfl) (by kernel_rfl) (fun _ _ _ _ _ h => h) ?_; intro hQ X2 hL; replace X := X2; clear X2; simp only [List.take_succ_cons, List.take_zero] at hL; simp only [List.take_succ_cons, List.take_zero])
  (refine q_field rfl rfl (by first | exact EvR.const _ | exact EvR.tmp rfl rfl) rfl rfl hQ ?_; (simp only [Act.put, List.setIfInBounds_toArray, List.set_cons_succ, List.set_cons_zero, List.drop_succ_cons, List.drop_zero, List.take_succ_cons, List.take_zero, Nat.reduceAdd]))
  ((first | (refine d_load1 rfl rfl (by first | exact EvR.const _ | exact EvR.tmp rfl rfl) (by repeat (first | exact ReadA.here rfl | apply ReadA.there)) rfl rfl X hL hQ ?_) | (refine d_loadN rfl rfl (by first | exact EvR.const _ | exact EvR.tmp rfl rfl) (by repeat (first | exact ReadB.here (Nat.le_of_ble_eq_true rfl) | apply ReadB.there)) rfl rfl X hL hQ ?_)); (simp only [Act.put, List.setIfInBounds_toArray, List.set_cons_succ, List.set_cons_zero, List.drop_succ_cons, List.drop_zero, List.take_succ_cons, List.take_zero, Nat.reduceAdd]))
  (refine q_field rfl rfl (by first | exact EvR.const _ | exact EvR.tmp rfl rfl) rfl rfl hQ ?_; (simp only [Act.put, List.setIfInBounds_toArray, List.set_cons_succ, List.set_cons_zero, List.drop_succ_cons, List.drop_zero, List.take_succ_cons, List.take_zero, Nat.reduceAdd]))
  ((first | (refine d_load1 rfl rfl (by first | exact EvR.const _ | exact EvR.tmp rfl rfl) (by repeat (first | exact ReadA.here rfl | apply ReadA.there)) rfl rfl X hL hQ ?_) | (refine d_loadN rfl rfl (by first | exact EvR.const _ | exact EvR.tmp rfl rfl) (by repeat (first | exact ReadB.here (Nat.le_of_ble_eq_true rfl) | apply ReadB.there)) rfl rfl X hL hQ ?_)); (simp only [Act.put, List.setIfInBounds_toArray, List.set_cons_succ, List.set_cons_zero, List.drop_succ_cons, List.drop_zero, List.take_succ_cons, List.take_zero, Nat.reduceAdd]))
  (refine q_call 18 _ _ rfl rfl _ rfl ⟨_, _, Try.func18, by kernel_rfl, rfl⟩ rfl rfl (hP3.out _) ?_; rintro e w1 ⟨rfl, rfl⟩; (have hL2 := X.und (by first | exact hL | exact hL.up | exact hL.up3 | exact hL.up.up); replace hL := hL2; clear hL2); refine ⟨_, rfl, fun _ _ => X.keeps hL, ?_⟩; (simp only [Act.put, List.setIfInBounds_toArray, List.set_cons_succ, List.set_cons_zero, List.drop_succ_cons, List.drop_zero, List.take_succ_cons, List.take_zero, Nat.reduceAdd]))
  (refine q_call 18 _ _ rfl rfl _ rfl ⟨_, _, Try.func18, by kernel_rfl, rfl⟩ rfl rfl (hP12.out _) ?_; rintro e w1 ⟨rfl, rfl⟩; (have hL2 := X.und (by first | exact hL | exact hL.up | exact hL.up3 | exact hL.up.up); replace hL := hL2; clear hL2); refine ⟨_, rfl, fun _ _ => X.keeps hL, ?_⟩; (simp only [Act.put, List.setIfInBounds_toArray, List.set_cons_succ, List.set_cons_zero, List.drop_succ_cons, List.drop_zero, List.take_succ_cons, List.take_zero, Nat.reduceAdd]))
  (refine q_assign rfl rfl (by first | exact EvR.const _ | exact EvR.tmp rfl rfl) rfl rfl hQ ?_; (simp only [Act.put, List.setIfInBounds_toArray, List.set_cons_succ, List.set_cons_zero, List.drop_succ_cons, List.drop_zero, List.take_succ_cons, List.take_zero, Nat.reduceAdd]))
  (refine q_assign rfl rfl (by first | exact EvR.const _ | exact EvR.tmp rfl rfl) rfl rfl hQ ?_; (simp only [Act.put, List.setIfInBounds_toArray, List.set_cons_succ, List.set_cons_zero, List.drop_succ_cons, List.drop_zero, List.take_succ_cons, List.take_zero, Nat.reduceAdd]))
  refine q_nil ?_
  go_wp2_with (first
    | (refine at_mem rfl ?_; (first | (refine at_load rfl ?_; (first | (refine c_load1 rfl _ _ rfl rfl X (by repeat (first | exact ReadA.here rfl | apply ReadA.there)) ?_) | (refine c_loadN rfl _ _ rfl rfl X (by repeat (first | exact ReadB.here (Nat.le_of_ble_eq_true rfl) | apply ReadB.there)) ?_))) | (refine at_store rfl ?_; (first | (refine c_store1 rfl _ _ _ rfl rfl (by first | exact EvR.const _ | exact EvR.tmp rfl rfl) X rfl rfl (by repeat (first | exact PutA.here (Nat.le_of_ble_eq_true rfl) | apply PutA.there)) ?_; intro w X2; (try simp only [upd] at X2); replace X := X2; clear X2) | (refine c_storeN rfl _ _ _ rfl rfl rfl X rfl rfl (by repeat (first | exact PutA.here (Nat.le_of_ble_eq_true rfl) | apply PutA.there)) ?_; intro w X2; (try simp only [upd] at X2); replace X := X2; clear X2))) | (refine m_alloc rfl _ rfl X ?_; intro g w X2; (replace X := X2; clear X2)) | (refine m_box rfl _ _ rfl (by first | exact EvR.const _ | exact EvR.tmp rfl rfl) rfl X ?_; intro g w X2; (replace X := X2; clear X2))); (simp only [Act.put, List.setIfInBounds_toArray, List.set_cons_succ, List.set_cons_zero, List.drop_succ_cons, List.drop_zero, List.take_succ_cons, List.take_zero, Nat.reduceAdd]))
    | (go_at_call 18; go_loud ((with_reducible refine (hP5.out _).mono ?_); rintro e w1 ⟨rfl, rfl⟩)))
  (refine q_start 2 [] [5, 6, 9] [0, 4] [0, 1, 2, 3, 4, 5, 6, 7, 8, 9, 10] X (by kernel_rfl) (by kernel_rfl) (fun _ _ _ _ _ h => h) ?_; intro hQ X2 hL; replace X := X2; clear X2; simp only [List.take_succ_cons, List.take_zero] at hL; simp only [List.take_succ_cons, List.take_zero])
  ((first | (refine d_load1 rfl rfl (by first | exact EvR.const _ | exact EvR.tmp rfl rfl) (by repeat (first | exact ReadA.here rfl | apply ReadA.there)) rfl rfl X hL hQ ?_) | (refine d_loadN rfl rfl (by first | exact EvR.const _ | exact EvR.tmp rfl rfl) (by repeat (first | exact ReadB.here (Nat.le_of_ble_eq_true rfl) | apply ReadB.there)) rfl rfl X hL hQ ?_)); (simp only [Act.put, List.setIfInBounds_toArray, List.set_cons_succ, List.set_cons_zero, List.drop_succ_cons, List.drop_zero, List.take_succ_cons, List.take_zero, Nat.reduceAdd]))
  (refine q_move rfl rfl (by first | exact EvR.const _ | exact EvR.tmp rfl rfl) rfl rfl hQ ?_; (simp only [Act.put, List.setIfInBounds_toArray, List.set_cons_succ, List.set_cons_zero, List.drop_succ_cons, List.drop_zero, List.take_succ_cons, List.take_zero, Nat.reduceAdd]))
  (refine q_move rfl rfl (by first | exact EvR.const _ | exact EvR.tmp rfl rfl) rfl rfl hQ ?_; (simp only [Act.put, List.setIfInBounds_toArray, List.set_cons_succ, List.set_cons_zero, List.drop_succ_cons, List.drop_zero, List.take_succ_cons, List.take_zero, Nat.reduceAdd]))
  (refine q_field rfl rfl (by first | exact EvR.const _ | exact EvR.tmp rfl rfl) rfl rfl hQ ?_; (simp only [Act.put, List.setIfInBounds_toArray, List.set_cons_succ, List.set_cons_zero, List.drop_succ_cons, List.drop_zero, List.take_succ_cons, List.take_zero, Nat.reduceAdd]))
  ((first | (refine d_load1 rfl rfl (by first | exact EvR.const _ | exact EvR.tmp rfl rfl) (by repeat (first | exact ReadA.here rfl | apply ReadA.there)) rfl rfl X hL hQ ?_) | (refine d_loadN rfl rfl (by first | exact EvR.const _ | exact EvR.tmp rfl rfl) (by repeat (first | exact ReadB.here (Nat.le_of_ble_eq_true rfl) | apply ReadB.there)) rfl rfl X hL hQ ?_)); (simp only [Act.put, List.setIfInBounds_toArray, List.set_cons_succ, List.set_cons_zero, List.drop_succ_cons, List.drop_zero, List.take_succ_cons, List.take_zero, Nat.reduceAdd]))
  (refine q_call 15 _ _ rfl rfl _ rfl ⟨_, _, Try.func15, by kernel_rfl, rfl⟩ rfl rfl (hF.out _) ?_; rintro e w1 ⟨rfl, hb1⟩; replace X := X.call hb1; clear hb1; (have hL2 := X.und (by first | exact hL | exact hL.up | exact hL.up3 | exact hL.up.up); replace hL := hL2; clear hL2); refine ⟨_, rfl, fun _ _ => X.keeps hL, ?_⟩; (simp only [Act.put, List.setIfInBounds_toArray, List.set_cons_succ, List.set_cons_zero, List.drop_succ_cons, List.drop_zero, List.take_succ_cons, List.take_zero, Nat.reduceAdd]))
  have hc := hC.out _ _ _ _ (X.rtxn (.head _) (.tail _ (.head _)) (.tail _ (.tail _ (.head _))) n1 n2 n3)
  (try simp only [txnV] at hc)
  (refine q_call 7 _ _ rfl rfl _ rfl ⟨_, _, Try.func7, by kernel_rfl, rfl⟩ rfl rfl (hc) ?_; rintro e w1 ⟨vm1, vd1, vr1, rfl, hN, hb1⟩; have hB := hid X.mv.size; have hN2 := hid hN; replace X := X.addT hb1 hN (.head _) (.tail _ (.head _)) (.tail _ (.tail _ (.head _))); clear hb1 hN; obtain ⟨am1, cm1, rfl, _⟩ := X.r0.form; obtain ⟨ad1, cd1, rfl, _⟩ := X.r1.form; obtain ⟨ar1, cr1, rfl, _⟩ := X.r2.form; (try simp only [txnV]); (have hL2 := X.und (by first | exact hL | exact hL.up | exact hL.up3 | exact hL.up.up); replace hL := hL2; clear hL2); refine ⟨_, rfl, fun _ _ => X.keeps hL, ?_⟩; (simp only [Act.put, List.setIfInBounds_toArray, List.set_cons_succ, List.set_cons_zero, List.drop_succ_cons, List.drop_zero, List.take_succ_cons, List.take_zero, Nat.reduceAdd]))
  (refine q_extract rfl rfl (by first | exact EvR.const _ | exact EvR.tmp rfl rfl) rfl rfl rfl hQ ?_; (simp only [Act.put, List.setIfInBounds_toArray, List.set_cons_succ, List.set_cons_zero, List.drop_succ_cons, List.drop_zero, List.take_succ_cons, List.take_zero, Nat.reduceAdd]))
  (refine q_extract rfl rfl (by first | exact EvR.const _ | exact EvR.tmp rfl rfl) rfl rfl rfl hQ ?_; (simp only [Act.put, List.setIfInBounds_toArray, List.set_cons_succ, List.set_cons_zero, List.drop_succ_cons, List.drop_zero, List.take_succ_cons, List.take_zero, Nat.reduceAdd]))
  ((first | (refine d_put1 rfl rfl (by first | exact EvR.const _ | exact EvR.tmp rfl rfl) (by first | exact EvR.const _ | exact EvR.tmp rfl rfl) X rfl rfl rfl rfl hL (by repeat (first | exact PutA.here (Nat.le_of_ble_eq_true rfl) | apply PutA.there)) (by repeat (first | exact List.Sublist.slnil | refine List.Sublist.cons_cons _ ?_ | refine List.Sublist.cons _ ?_)) ?_) | (refine d_putN rfl rfl (by first | exact EvR.const _ | exact EvR.tmp rfl rfl) rfl X rfl rfl rfl rfl hL (by repeat (first | exact PutA.here (Nat.le_of_ble_eq_true rfl) | apply PutA.there)) (by repeat (first | exact List.Sublist.slnil | refine List.Sublist.cons_cons _ ?_ | refine List.Sublist.cons _ ?_)) ?_)); intro w X2 hL2; (try simp only [upd] at X2); (try simp only [upd] at hL2); replace X := X2; clear X2; replace hL := hL2; clear hL2; (simp only [Act.put, List.setIfInBounds_toArray, List.set_cons_succ, List.set_cons_zero, List.drop_succ_cons, List.drop_zero, List.take_succ_cons, List.take_zero, Nat.reduceAdd]))
  (refine q_assign rfl rfl (by first | exact EvR.const _ | exact EvR.tmp rfl rfl) rfl rfl hQ ?_; (simp only [Act.put, List.setIfInBounds_toArray, List.set_cons_succ, List.set_cons_zero, List.drop_succ_cons, List.drop_zero, List.take_succ_cons, List.take_zero, Nat.reduceAdd]))
  refine q_nil ?_
  go_wp2
  exact m_ret2 rfl (.tmp rfl rfl) (.tmp rfl rfl) X (.tail _ (.tail _ (.head _))) rfl rfl ⟨_, _, _, rfl, hN2.out.lift hB.out X.r0 X.r1 X.r2, X.below⟩
theorem keep_follow_2 (t : Txn) (o : Ord) (fr : Int) (vm vd vr : Value) (w0 : World) (ht : RTxn w0 (txnV t vm vd vr) t) (hs : o.text.size ≤ 9223372036854775807) (hk : o.kind % 5 = 2) :
    Calls Try.prog 19 #[txnV t vm vd vr, .agg (ordC o).toArray, .int .i64 fr] w0 fun e w' => ∃ vm' vd' vr', e = .returned (.tuple #[txnV (ordT t o fr) vm' vd' vr', .int .i64 (ordE t o fr)]) ∧ NewT w0.heap.size w' vm vd vr vm' vd' vr' t (ordT t o fr) ∧ Below w0.heap.size w0 w' := by
  have eT : ordT t o fr = filT t (o.h % 3) (o.b % 12) (fit o.text) := by unfold ordT; rw [if_neg (by omega)]; rw [if_neg (by omega)]; rw [if_pos hk]
  have eE : ordE t o fr = filE t (o.h % 3) (o.b % 12) (fit o.text) := by unfold ordE; rw [if_neg (by omega)]; rw [if_neg (by omega)]; rw [if_pos hk]
  rw [eT, eE]
  clear eT eE
  obtain ⟨vm', vd', vr', hvv, hm, hd, hr, n1, n2, n3⟩ := ht
  simp only [txnV, Value.agg.injEq, Array.mk.injEq, List.cons.injEq, and_true, true_and] at hvv
  obtain ⟨rfl, rfl, rfl⟩ := hvv
  have X : St [] w0 w0 [] [Rd.of cpyC vm t.mt, Rd.of cpyC vd t.dt, Rd.of intC vr t.rev] := (((St.start [] w0).addR0 hr).addR0 hd).addR0 hm
  obtain ⟨am, cm, rfl, _⟩ := hm.form
  obtain ⟨ad, cd, rfl, _⟩ := hd.form
  obtain ⟨ar, cr, rfl, _⟩ := hr.form
  have hP3 := hid (fun w' => keep_pick o.h 3 w' (by decide) (by decide))
  have hP12 := hid (fun w' => keep_pick o.b 12 w' (by decide) (by decide))
  have hP5 := fun w' => keep_pick o.kind 5 w' (by decide) (by decide)
  rw [hk] at hP5
  replace hP5 := hid hP5
  have hF := hid (fun w' => disk_Fit o.text w' hs)
  have hC := fun vm vd vr w' hx => txn_Fill t (o.h % 3) (o.b % 12) (fit o.text) vm vd vr w' hx
  obtain ⟨kind, oh, ob, n, text⟩ := o
  dsimp only [ordC] at *
  simp only [txnV] at hC ⊢
  replace hC := hid hC
  generalize oh % 3 = H at *
  generalize ob % 12 = B at *
  generalize fit text = F at *
  clear hm hd hr hs hk
  go_enter Try.func19, Try.ntmps19
  go_wp2_with (first
    | (refine at_mem rfl ?_; (first | (refine at_load rfl ?_; (first | (refine c_load1 rfl _ _ rfl rfl X (by repeat (first | exact ReadA.here rfl | apply ReadA.there)) ?_) | (refine c_loadN rfl _ _ rfl rfl X (by repeat (first | exact ReadB.here (Nat.le_of_ble_eq_true rfl) | apply ReadB.there)) ?_))) | (refine at_store rfl ?_; (first | (refine c_store1 rfl _ _ _ rfl rfl (by first | exact EvR.const _ | exact EvR.tmp rfl rfl) X rfl rfl (by repeat (first | exact PutA.here (Nat.le_of_ble_eq_true rfl) | apply PutA.there)) ?_; intro w X2; (try simp only [upd] at X2); replace X := X2; clear X2) | (refine c_storeN rfl _ _ _ rfl rfl rfl X rfl rfl (by repeat (first | exact PutA.here (Nat.le_of_ble_eq_true rfl) | apply PutA.there)) ?_; intro w X2; (try simp only [upd] at X2); replace X := X2; clear X2))) | (refine m_alloc rfl _ rfl X ?_; intro g w X2; (replace X := X2; clear X2)) | (refine m_box rfl _ _ rfl (by first | exact EvR.const _ | exact EvR.tmp rfl rfl) rfl X ?_; intro g w X2; (replace X := X2; clear X2))); (simp only [Act.put, List.setIfInBounds_toArray, List.set_cons_succ, List.set_cons_zero, List.drop_succ_cons, List.drop_zero, List.take_succ_cons, List.take_zero, Nat.reduceAdd])))
  have X9 := X.perm (List.perm_append_comm (l₁ := [_]) (l₂ := [_, _]))
  simp only [List.cons_append, List.nil_append] at X9
  replace X := X9
  clear X9
  (refine q_start 2 [] [2, 5] [1, 4] [0, 1, 3, 4, 2, 5, 6, 7] X (by kernel_rfl) (by kernel_rfl) (fun _ _ _ _ _ h => h) ?_; intro hQ X2 hL; replace X := X2; clear X2; simp only [List.take_succ_cons, List.take_zero] at hL; simp only [List.take_succ_cons, List.take_zero])
  (refine q_field rfl rfl (by first | exact EvR.const _ | exact EvR.tmp rfl rfl) rfl rfl hQ ?_; (simp only [Act.put, List.setIfInBounds_toArray, List.set_cons_succ, List.set_cons_zero, List.drop_succ_cons, List.drop_zero, List.take_succ_cons, List.take_zero, Nat.reduceAdd]))
  ((first | (refine d_load1 rfl rfl (by first | exact EvR.const _ | exact EvR.tmp rfl rfl) (by repeat (first | exact ReadA.here rfl | apply ReadA.there)) rfl rfl X hL hQ ?_) | (refine d_loadN rfl rfl (by first | exact EvR.const _ | exact EvR.tmp rfl rfl) (by repeat (first | exact ReadB.here (Nat.le_of_ble_eq_true rfl) | apply ReadB.there)) rfl rfl X hL hQ ?_)); (simp only [Act.put, List.setIfInBounds_toArray, List.set_cons_succ, List.set_cons_zero, List.drop_succ_cons, List.drop_zero, List.take_succ_cons, List.take_zero, Nat.reduceAdd]))
  (refine q_field rfl rfl (by first | exact EvR.const _ | exact EvR.tmp rfl rfl) rfl rfl hQ ?_; (simp only [Act.put, List.setIfInBounds_toArray, List.set_cons_succ, List.set_cons_zero, List.drop_succ_cons, List.drop_zero, List.take_succ_cons, List.take_zero, Nat.reduceAdd]))
  ((first | (refine d_load1 rfl rfl (by first | exact EvR.const _ | exact EvR.tmp rfl rfl) (by repeat (first | exact ReadA.here rfl | apply ReadA.there)) rfl rfl X hL hQ ?_) | (refine d_loadN rfl rfl (by first | exact EvR.const _ | exact EvR.tmp rfl rfl) (by repeat (first | exact ReadB.here (Nat.le_of_ble_eq_true rfl) | apply ReadB.there)) rfl rfl X hL hQ ?_)); (simp only [Act.put, List.setIfInBounds_toArray, List.set_cons_succ, List.set_cons_zero, List.drop_succ_cons, List.drop_zero, List.take_succ_cons, List.take_zero, Nat.reduceAdd]))
  (refine q_call 18 _ _ rfl rfl _ rfl ⟨_, _, Try.func18, by kernel_rfl, rfl⟩ rfl rfl (hP3.out _) ?_; rintro e w1 ⟨rfl, rfl⟩; (have hL2 := X.und (by first | exact hL | exact hL.up | exact hL.up3 | exact hL.up.up); replace hL := hL2; clear hL2); refine ⟨_, rfl, fun _ _ => X.keeps hL, ?_⟩; (simp only [Act.put, List.setIfInBounds_toArray, List.set_cons_succ, List.set_cons_zero, List.drop_succ_cons, List.drop_zero, List.take_succ_cons, List.take_zero, Nat.reduceAdd]))
  (refine q_call 18 _ _ rfl rfl _ rfl ⟨_, _, Try.func18, by kernel_rfl, rfl⟩ rfl rfl (hP12.out _) ?_; rintro e w1 ⟨rfl, rfl⟩; (have hL2 := X.und (by first | exact hL | exact hL.up | exact hL.up3 | exact hL.up.up); replace hL := hL2; clear hL2); refine ⟨_, rfl, fun _ _ => X.keeps hL, ?_⟩; (simp only [Act.put, List.setIfInBounds_toArray, List.set_cons_succ, List.set_cons_zero, List.drop_succ_cons, List.drop_zero, List.take_succ_cons, List.take_zero, Nat.reduceAdd]))
  (refine q_assign rfl rfl (by first | exact EvR.const _ | exact EvR.tmp rfl rfl) rfl rfl hQ ?_; (simp only [Act.put, List.setIfInBounds_toArray, List.set_cons_succ, List.set_cons_zero, List.drop_succ_cons, List.drop_zero, List.take_succ_cons, List.take_zero, Nat.reduceAdd]))
  (refine q_assign rfl rfl (by first | exact EvR.const _ | exact EvR.tmp rfl rfl) rfl rfl hQ ?_; (simp only [Act.put, List.setIfInBounds_toArray, List.set_cons_succ, List.set_cons_zero, List.drop_succ_cons, List.drop_zero, List.take_succ_cons, List.take_zero, Nat.reduceAdd]))
  refine q_nil ?_
  go_wp2_with (first
    | (refine at_mem rfl ?_; (first | (refine at_load rfl ?_; (first | (refine c_load1 rfl _ _ rfl rfl X (by repeat (first | exact ReadA.here rfl | apply ReadA.there)) ?_) | (refine c_loadN rfl _ _ rfl rfl X (by repeat (first | exact ReadB.here (Nat.le_of_ble_eq_true rfl) | apply ReadB.there)) ?_))) | (refine at_store rfl ?_; (first | (refine c_store1 rfl _ _ _ rfl rfl (by first | exact EvR.const _ | exact EvR.tmp rfl rfl) X rfl rfl (by repeat (first | exact PutA.here (Nat.le_of_ble_eq_true rfl) | apply PutA.there)) ?_; intro w X2; (try simp only [upd] at X2); replace X := X2; clear X2) | (refine c_storeN rfl _ _ _ rfl rfl rfl X rfl rfl (by repeat (first | exact PutA.here (Nat.le_of_ble_eq_true rfl) | apply PutA.there)) ?_; intro w X2; (try simp only [upd] at X2); replace X := X2; clear X2))) | (refine m_alloc rfl _ rfl X ?_; intro g w X2; (replace X := X2; clear X2)) | (refine m_box rfl _ _ rfl (by first | exact EvR.const _ | exact EvR.tmp rfl rfl) rfl X ?_; intro g w X2; (replace X := X2; clear X2))); (simp only [Act.put, List.setIfInBounds_toArray, List.set_cons_succ, List.set_cons_zero, List.drop_succ_cons, List.drop_zero, List.take_succ_cons, List.take_zero, Nat.reduceAdd]))
    | (go_at_call 18; go_loud ((with_reducible refine (hP5.out _).mono ?_); rintro e w1 ⟨rfl, rfl⟩)))
  (refine q_start 2 [] [5, 6, 9] [0, 4] [0, 1, 2, 3, 4, 5, 6, 7, 8, 9, 10] X (by kernel_rfl) (by kernel_rfl) (fun _ _ _ _ _ h => h) ?_; intro hQ X2 hL; replace X := X2; clear X2; simp only [List.take_succ_cons, List.take_zero] at hL; simp only [List.take_succ_cons, List.take_zero])
  ((first | (refine d_load1 rfl rfl (by first | exact EvR.const _ | exact EvR.tmp rfl rfl) (by repeat (first | exact ReadA.here rfl | apply ReadA.there)) rfl rfl X hL hQ ?_) | (refine d_loadN rfl rfl (by first | exact EvR.const _ | exact EvR.tmp rfl rfl) (by repeat (first | exact ReadB.here (Nat.le_of_ble_eq_true rfl) | apply ReadB.there)) rfl rfl X hL hQ ?_)); (simp only [Act.put, List.setIfInBounds_toArray, List.set_cons_succ, List.set_cons_zero, List.drop_succ_cons, List.drop_zero, List.take_succ_cons, List.take_zero, Nat.reduceAdd]))
  (refine q_move rfl rfl (by first | exact EvR.const _ | exact EvR.tmp rfl rfl) rfl rfl hQ ?_; (simp only [Act.put, List.setIfInBounds_toArray, List.set_cons_succ, List.set_cons_zero, List.drop_succ_cons, List.drop_zero, List.take_succ_cons, List.take_zero, Nat.reduceAdd]))
  (refine q_move rfl rfl (by first | exact EvR.const _ | exact EvR.tmp rfl rfl) rfl rfl hQ ?_; (simp only [Act.put, List.setIfInBounds_toArray, List.set_cons_succ, List.set_cons_zero, List.drop_succ_cons, List.drop_zero, List.take_succ_cons, List.take_zero, Nat.reduceAdd]))
  (refine q_field rfl rfl (by first | exact EvR.const _ | exact EvR.tmp rfl rfl) rfl rfl hQ ?_; (simp only [Act.put, List.setIfInBounds_toArray, List.set_cons_succ, List.set_cons_zero, List.drop_succ_cons, List.drop_zero, List.take_succ_cons, List.take_zero, Nat.reduceAdd]))
  ((first | (refine d_load1 rfl rfl (by first | exact EvR.const _ | exact EvR.tmp rfl rfl) (by repeat (first | exact ReadA.here rfl | apply ReadA.there)) rfl rfl X hL hQ ?_) | (refine d_loadN rfl rfl (by first | exact EvR.const _ | exact EvR.tmp rfl rfl) (by repeat (first | exact ReadB.here (Nat.le_of_ble_eq_true rfl) | apply ReadB.there)) rfl rfl X hL hQ ?_)); (simp only [Act.put, List.setIfInBounds_toArray, List.set_cons_succ, List.set_cons_zero, List.drop_succ_cons, List.drop_zero, List.take_succ_cons, List.take_zero, Nat.reduceAdd]))
  (refine q_call 15 _ _ rfl rfl _ rfl ⟨_, _, Try.func15, by kernel_rfl, rfl⟩ rfl rfl (hF.out _) ?_; rintro e w1 ⟨rfl, hb1⟩; replace X := X.call hb1; clear hb1; (have hL2 := X.und (by first | exact hL | exact hL.up | exact hL.up3 | exact hL.up.up); replace hL := hL2; clear hL2); refine ⟨_, rfl, fun _ _ => X.keeps hL, ?_⟩; (simp only [Act.put, List.setIfInBounds_toArray, List.set_cons_succ, List.set_cons_zero, List.drop_succ_cons, List.drop_zero, List.take_succ_cons, List.take_zero, Nat.reduceAdd]))
  have hc := hC.out _ _ _ _ (X.rtxn (.head _) (.tail _ (.head _)) (.tail _ (.tail _ (.head _))) n1 n2 n3)
  (try simp only [txnV] at hc)
  (refine q_call 10 _ _ rfl rfl _ rfl ⟨_, _, Try.func10, by kernel_rfl, rfl⟩ rfl rfl (hc) ?_; rintro e w1 ⟨vm1, vd1, vr1, rfl, hN, hb1⟩; have hB := hid X.mv.size; have hN2 := hid hN; replace X := X.addT hb1 hN (.head _) (.tail _ (.head _)) (.tail _ (.tail _ (.head _))); clear hb1 hN; obtain ⟨am1, cm1, rfl, _⟩ := X.r0.form; obtain ⟨ad1, cd1, rfl, _⟩ := X.r1.form; obtain ⟨ar1, cr1, rfl, _⟩ := X.r2.form; (try simp only [txnV]); (have hL2 := X.und (by first | exact hL | exact hL.up | exact hL.up3 | exact hL.up.up); replace hL := hL2; clear hL2); refine ⟨_, rfl, fun _ _ => X.keeps hL, ?_⟩; (simp only [Act.put, List.setIfInBounds_toArray, List.set_cons_succ, List.set_cons_zero, List.drop_succ_cons, List.drop_zero, List.take_succ_cons, List.take_zero, Nat.reduceAdd]))
  (refine q_extract rfl rfl (by first | exact EvR.const _ | exact EvR.tmp rfl rfl) rfl rfl rfl hQ ?_; (simp only [Act.put, List.setIfInBounds_toArray, List.set_cons_succ, List.set_cons_zero, List.drop_succ_cons, List.drop_zero, List.take_succ_cons, List.take_zero, Nat.reduceAdd]))
  (refine q_extract rfl rfl (by first | exact EvR.const _ | exact EvR.tmp rfl rfl) rfl rfl rfl hQ ?_; (simp only [Act.put, List.setIfInBounds_toArray, List.set_cons_succ, List.set_cons_zero, List.drop_succ_cons, List.drop_zero, List.take_succ_cons, List.take_zero, Nat.reduceAdd]))
  ((first | (refine d_put1 rfl rfl (by first | exact EvR.const _ | exact EvR.tmp rfl rfl) (by first | exact EvR.const _ | exact EvR.tmp rfl rfl) X rfl rfl rfl rfl hL (by repeat (first | exact PutA.here (Nat.le_of_ble_eq_true rfl) | apply PutA.there)) (by repeat (first | exact List.Sublist.slnil | refine List.Sublist.cons_cons _ ?_ | refine List.Sublist.cons _ ?_)) ?_) | (refine d_putN rfl rfl (by first | exact EvR.const _ | exact EvR.tmp rfl rfl) rfl X rfl rfl rfl rfl hL (by repeat (first | exact PutA.here (Nat.le_of_ble_eq_true rfl) | apply PutA.there)) (by repeat (first | exact List.Sublist.slnil | refine List.Sublist.cons_cons _ ?_ | refine List.Sublist.cons _ ?_)) ?_)); intro w X2 hL2; (try simp only [upd] at X2); (try simp only [upd] at hL2); replace X := X2; clear X2; replace hL := hL2; clear hL2; (simp only [Act.put, List.setIfInBounds_toArray, List.set_cons_succ, List.set_cons_zero, List.drop_succ_cons, List.drop_zero, List.take_succ_cons, List.take_zero, Nat.reduceAdd]))
  (refine q_assign rfl rfl (by first | exact EvR.const _ | exact EvR.tmp rfl rfl) rfl rfl hQ ?_; (simp only [Act.put, List.setIfInBounds_toArray, List.set_cons_succ, List.set_cons_zero, List.drop_succ_cons, List.drop_zero, List.take_succ_cons, List.take_zero, Nat.reduceAdd]))
  refine q_nil ?_
  go_wp2
  exact m_ret2 rfl (.tmp rfl rfl) (.tmp rfl rfl) X (.tail _ (.tail _ (.head _))) rfl rfl ⟨_, _, _, rfl, hN2.out.lift hB.out X.r0 X.r1 X.r2, X.below⟩
theorem keep_follow_3 (t : Txn) (o : Ord) (fr : Int) (vm vd vr : Value) (w0 : World) (ht : RTxn w0 (txnV t vm vd vr) t) (hs : o.text.size ≤ 9223372036854775807) (hk : o.kind % 5 = 3) :
    Calls Try.prog 19 #[txnV t vm vd vr, .agg (ordC o).toArray, .int .i64 fr] w0 fun e w' => ∃ vm' vd' vr', e = .returned (.tuple #[txnV (ordT t o fr) vm' vd' vr', .int .i64 (ordE t o fr)]) ∧ NewT w0.heap.size w' vm vd vr vm' vd' vr' t (ordT t o fr) ∧ Below w0.heap.size w0 w' := by
  have eT : ordT t o fr = rvkT t (o.h % 3) (o.b % 12) := by unfold ordT; rw [if_neg (by omega)]; rw [if_neg (by omega)]; rw [if_neg (by omega)]; rw [if_pos hk]
  have eE : ordE t o fr = rvkE t (o.h % 3) (o.b % 12) := by unfold ordE; rw [if_neg (by omega)]; rw [if_neg (by omega)]; rw [if_neg (by omega)]; rw [if_pos hk]
  rw [eT, eE]
  clear eT eE
  obtain ⟨vm', vd', vr', hvv, hm, hd, hr, n1, n2, n3⟩ := ht
  simp only [txnV, Value.agg.injEq, Array.mk.injEq, List.cons.injEq, and_true, true_and] at hvv
  obtain ⟨rfl, rfl, rfl⟩ := hvv
  have X : St [] w0 w0 [] [Rd.of cpyC vm t.mt, Rd.of cpyC vd t.dt, Rd.of intC vr t.rev] := (((St.start [] w0).addR0 hr).addR0 hd).addR0 hm
  obtain ⟨am, cm, rfl, _⟩ := hm.form
  obtain ⟨ad, cd, rfl, _⟩ := hd.form
  obtain ⟨ar, cr, rfl, _⟩ := hr.form
  have hP3 := hid (fun w' => keep_pick o.h 3 w' (by decide) (by decide))
  have hP12 := hid (fun w' => keep_pick o.b 12 w' (by decide) (by decide))
  have hP5 := fun w' => keep_pick o.kind 5 w' (by decide) (by decide)
  rw [hk] at hP5
  replace hP5 := hid hP5
  have hF := hid (fun w' => disk_Fit o.text w' hs)
  have hC := fun vm vd vr w' hx => txn_Revoke t (o.h % 3) (o.b % 12) vm vd vr w' hx
  obtain ⟨kind, oh, ob, n, text⟩ := o
  dsimp only [ordC] at *
  simp only [txnV] at hC ⊢
  replace hC := hid hC
  generalize oh % 3 = H at *
  generalize ob % 12 = B at *
  skip
  clear hm hd hr hs hk
  go_enter Try.func19, Try.ntmps19
  go_wp2_with (first
    | (refine at_mem rfl ?_; (first | (refine at_load rfl ?_; (first | (refine c_load1 rfl _ _ rfl rfl X (by repeat (first | exact ReadA.here rfl | apply ReadA.there)) ?_) | (refine c_loadN rfl _ _ rfl rfl X (by repeat (first | exact ReadB.here (Nat.le_of_ble_eq_true rfl) | apply ReadB.there)) ?_))) | (refine at_store rfl ?_; (first | (refine c_store1 rfl _ _ _ rfl rfl (by first | exact EvR.const _ | exact EvR.tmp rfl rfl) X rfl rfl (by repeat (first | exact PutA.here (Nat.le_of_ble_eq_true rfl) | apply PutA.there)) ?_; intro w X2; (try simp only [upd] at X2); replace X := X2; clear X2) | (refine c_storeN rfl _ _ _ rfl rfl rfl X rfl rfl (by repeat (first | exact PutA.here (Nat.le_of_ble_eq_true rfl) | apply PutA.there)) ?_; intro w X2; (try simp only [upd] at X2); replace X := X2; clear X2))) | (refine m_alloc rfl _ rfl X ?_; intro g w X2; (replace X := X2; clear X2)) | (refine m_box rfl _ _ rfl (by first | exact EvR.const _ | exact EvR.tmp rfl rfl) rfl X ?_; intro g w X2; (replace X := X2; clear X2))); (simp only [Act.put, List.setIfInBounds_toArray, List.set_cons_succ, List.set_cons_zero, List.drop_succ_cons, List.drop_zero, List.take_succ_cons, List.take_zero, Nat.reduceAdd])))
  have X9 := X.perm (List.perm_append_comm (l₁ := [_]) (l₂ := [_, _]))
  simp only [List.cons_append, List.nil_append] at X9
  replace X := X9
  clear X9
  (refine q_start 2 [] [2, 5] [1, 4] [0, 1, 3, 4, 2, 5, 6, 7] X (by kernel_rfl) (by kernel_rfl) (fun _ _ _ _ _ h => h) ?_; intro hQ X2 hL; replace X := X2; clear X2; simp only [List.take_succ_cons, List.take_zero] at hL; simp only [List.take_succ_cons, List.take_zero])
  (refine q_field rfl rfl (by first | exact EvR.const _ | exact EvR.tmp rfl rfl) rfl rfl hQ ?_; (simp only [Act.put, List.setIfInBounds_toArray, List.set_cons_succ, List.set_cons_zero, List.drop_succ_cons, List.drop_zero, List.take_succ_cons, List.take_zero, Nat.reduceAdd]))
  ((first | (refine d_load1 rfl rfl (by first | exact EvR.const _ | exact EvR.tmp rfl rfl) (by repeat (first | exact ReadA.here rfl | apply ReadA.there)) rfl rfl X hL hQ ?_) | (refine d_loadN rfl rfl (by first | exact EvR.const _ | exact EvR.tmp rfl rfl) (by repeat (first | exact ReadB.here (Nat.le_of_ble_eq_true rfl) | apply ReadB.there)) rfl rfl X hL hQ ?_)); (simp only [Act.put, List.setIfInBounds_toArray, List.set_cons_succ, List.set_cons_zero, List.drop_succ_cons, List.drop_zero, List.take_succ_cons, List.take_zero, Nat.reduceAdd]))
  (refine q_field rfl rfl (by first | exact EvR.const _ | exact EvR.tmp rfl rfl) rfl rfl hQ ?_; (simp only [Act.put, List.setIfInBounds_toArray, List.set_cons_succ, List.set_cons_zero, List.drop_succ_cons, List.drop_zero, List.take_succ_cons, List.take_zero, Nat.reduceAdd]))
  ((first | (refine d_load1 rfl rfl (by first | exact EvR.const _ | exact EvR.tmp rfl rfl) (by repeat (first | exact ReadA.here rfl | apply ReadA.there)) rfl rfl X hL hQ ?_) | (refine d_loadN rfl rfl (by first | exact EvR.const _ | exact EvR.tmp rfl rfl) (by repeat (first | exact ReadB.here (Nat.le_of_ble_eq_true rfl) | apply ReadB.there)) rfl rfl X hL hQ ?_)); (simp only [Act.put, List.setIfInBounds_toArray, List.set_cons_succ, List.set_cons_zero, List.drop_succ_cons, List.drop_zero, List.take_succ_cons, List.take_zero, Nat.reduceAdd]))
  (refine q_call 18 _ _ rfl rfl _ rfl ⟨_, _, Try.func18, by kernel_rfl, rfl⟩ rfl rfl (hP3.out _) ?_; rintro e w1 ⟨rfl, rfl⟩; (have hL2 := X.und (by first | exact hL | exact hL.up | exact hL.up3 | exact hL.up.up); replace hL := hL2; clear hL2); refine ⟨_, rfl, fun _ _ => X.keeps hL, ?_⟩; (simp only [Act.put, List.setIfInBounds_toArray, List.set_cons_succ, List.set_cons_zero, List.drop_succ_cons, List.drop_zero, List.take_succ_cons, List.take_zero, Nat.reduceAdd]))
  (refine q_call 18 _ _ rfl rfl _ rfl ⟨_, _, Try.func18, by kernel_rfl, rfl⟩ rfl rfl (hP12.out _) ?_; rintro e w1 ⟨rfl, rfl⟩; (have hL2 := X.und (by first | exact hL | exact hL.up | exact hL.up3 | exact hL.up.up); replace hL := hL2; clear hL2); refine ⟨_, rfl, fun _ _ => X.keeps hL, ?_⟩; (simp only [Act.put, List.setIfInBounds_toArray, List.set_cons_succ, List.set_cons_zero, List.drop_succ_cons, List.drop_zero, List.take_succ_cons, List.take_zero, Nat.reduceAdd]))
  (refine q_assign rfl rfl (by first | exact EvR.const _ | exact EvR.tmp rfl rfl) rfl rfl hQ ?_; (simp only [Act.put, List.setIfInBounds_toArray, List.set_cons_succ, List.set_cons_zero, List.drop_succ_cons, List.drop_zero, List.take_succ_cons, List.take_zero, Nat.reduceAdd]))
  (refine q_assign rfl rfl (by first | exact EvR.const _ | exact EvR.tmp rfl rfl) rfl rfl hQ ?_; (simp only [Act.put, List.setIfInBounds_toArray, List.set_cons_succ, List.set_cons_zero, List.drop_succ_cons, List.drop_zero, List.take_succ_cons, List.take_zero, Nat.reduceAdd]))
  refine q_nil ?_
  go_wp2_with (first
    | (refine at_mem rfl ?_; (first | (refine at_load rfl ?_; (first | (refine c_load1 rfl _ _ rfl rfl X (by repeat (first | exact ReadA.here rfl | apply ReadA.there)) ?_) | (refine c_loadN rfl _ _ rfl rfl X (by repeat (first | exact ReadB.here (Nat.le_of_ble_eq_true rfl) | apply ReadB.there)) ?_))) | (refine at_store rfl ?_; (first | (refine c_store1 rfl _ _ _ rfl rfl (by first | exact EvR.const _ | exact EvR.tmp rfl rfl) X rfl rfl (by repeat (first | exact PutA.here (Nat.le_of_ble_eq_true rfl) | apply PutA.there)) ?_; intro w X2; (try simp only [upd] at X2); replace X := X2; clear X2) | (refine c_storeN rfl _ _ _ rfl rfl rfl X rfl rfl (by repeat (first | exact PutA.here (Nat.le_of_ble_eq_true rfl) | apply PutA.there)) ?_; intro w X2; (try simp only [upd] at X2); replace X := X2; clear X2))) | (refine m_alloc rfl _ rfl X ?_; intro g w X2; (replace X := X2; clear X2)) | (refine m_box rfl _ _ rfl (by first | exact EvR.const _ | exact EvR.tmp rfl rfl) rfl X ?_; intro g w X2; (replace X := X2; clear X2))); (simp only [Act.put, List.setIfInBounds_toArray, List.set_cons_succ, List.set_cons_zero, List.drop_succ_cons, List.drop_zero, List.take_succ_cons, List.take_zero, Nat.reduceAdd]))
    | (go_at_call 18; go_loud ((with_reducible refine (hP5.out _).mono ?_); rintro e w1 ⟨rfl, rfl⟩))
    | (go_at_call 11; go_loud ((have hc := hC.out _ _ _ _ (X.rtxn (.head _) (.tail _ (.head _)) (.tail _ (.tail _ (.head _))) n1 n2 n3); (try simp only [txnV] at hc); (with_reducible refine hc.mono ?_); clear hc; rintro e w1 ⟨vm1, vd1, vr1, rfl, hN, hb1⟩; have hB := hid X.mv.size; have hN2 := hid hN; replace X := X.addT hb1 hN (.head _) (.tail _ (.head _)) (.tail _ (.tail _ (.head _))); clear hb1 hN; obtain ⟨am1, cm1, rfl, _⟩ := X.r0.form; obtain ⟨ad1, cd1, rfl, _⟩ := X.r1.form; obtain ⟨ar1, cr1, rfl, _⟩ := X.r2.form; (try simp only [txnV])))))
  exact m_ret2 rfl (.tmp rfl rfl) (.tmp rfl rfl) X (.tail _ (.tail _ (.head _))) rfl rfl ⟨_, _, _, rfl, hN2.out.lift hB.out X.r0 X.r1 X.r2, X.below⟩
theorem keep_follow_4 (t : Txn) (o : Ord) (fr : Int) (vm vd vr : Value) (w0 : World) (ht : RTxn w0 (txnV t vm vd vr) t) (hs : o.text.size ≤ 9223372036854775807) (hk : o.kind % 5 = 4) :
    Calls Try.prog 19 #[txnV t vm vd vr, .agg (ordC o).toArray, .int .i64 fr] w0 fun e w' => ∃ vm' vd' vr', e = .returned (.tuple #[txnV (ordT t o fr) vm' vd' vr', .int .i64 (ordE t o fr)]) ∧ NewT w0.heap.size w' vm vd vr vm' vd' vr' t (ordT t o fr) ∧ Below w0.heap.size w0 w' := by
  have eT : ordT t o fr = stopT t (o.h % 3) := by unfold ordT; rw [if_neg (by omega)]; rw [if_neg (by omega)]; rw [if_neg (by omega)]; rw [if_neg (by omega)]; skip
  have eE : ordE t o fr = stopE t (o.h % 3) := by unfold ordE; rw [if_neg (by omega)]; rw [if_neg (by omega)]; rw [if_neg (by omega)]; rw [if_neg (by omega)]; skip
  rw [eT, eE]
  clear eT eE
  obtain ⟨vm', vd', vr', hvv, hm, hd, hr, n1, n2, n3⟩ := ht
  simp only [txnV, Value.agg.injEq, Array.mk.injEq, List.cons.injEq, and_true, true_and] at hvv
  obtain ⟨rfl, rfl, rfl⟩ := hvv
  have X : St [] w0 w0 [] [Rd.of cpyC vm t.mt, Rd.of cpyC vd t.dt, Rd.of intC vr t.rev] := (((St.start [] w0).addR0 hr).addR0 hd).addR0 hm
  obtain ⟨am, cm, rfl, _⟩ := hm.form
  obtain ⟨ad, cd, rfl, _⟩ := hd.form
  obtain ⟨ar, cr, rfl, _⟩ := hr.form
  have hP3 := hid (fun w' => keep_pick o.h 3 w' (by decide) (by decide))
  have hP12 := hid (fun w' => keep_pick o.b 12 w' (by decide) (by decide))
  have hP5 := fun w' => keep_pick o.kind 5 w' (by decide) (by decide)
  rw [hk] at hP5
  replace hP5 := hid hP5
  have hF := hid (fun w' => disk_Fit o.text w' hs)
  have hC := fun vm vd vr w' hx => txn_Stop t (o.h % 3) vm vd vr w' hx
  have hsm := stopT_same t (o.h % 3)
  obtain ⟨kind, oh, ob, n, text⟩ := o
  dsimp only [ordC] at *
  simp only [txnV] at hC ⊢
  replace hC := hid hC
  generalize oh % 3 = H at *
  generalize ob % 12 = B at *
  skip
  clear hm hd hr hs hk
  go_enter Try.func19, Try.ntmps19
  go_wp2_with (first
    | (refine at_mem rfl ?_; (first | (refine at_load rfl ?_; (first | (refine c_load1 rfl _ _ rfl rfl X (by repeat (first | exact ReadA.here rfl | apply ReadA.there)) ?_) | (refine c_loadN rfl _ _ rfl rfl X (by repeat (first | exact ReadB.here (Nat.le_of_ble_eq_true rfl) | apply ReadB.there)) ?_))) | (refine at_store rfl ?_; (first | (refine c_store1 rfl _ _ _ rfl rfl (by first | exact EvR.const _ | exact EvR.tmp rfl rfl) X rfl rfl (by repeat (first | exact PutA.here (Nat.le_of_ble_eq_true rfl) | apply PutA.there)) ?_; intro w X2; (try simp only [upd] at X2); replace X := X2; clear X2) | (refine c_storeN rfl _ _ _ rfl rfl rfl X rfl rfl (by repeat (first | exact PutA.here (Nat.le_of_ble_eq_true rfl) | apply PutA.there)) ?_; intro w X2; (try simp only [upd] at X2); replace X := X2; clear X2))) | (refine m_alloc rfl _ rfl X ?_; intro g w X2; (replace X := X2; clear X2)) | (refine m_box rfl _ _ rfl (by first | exact EvR.const _ | exact EvR.tmp rfl rfl) rfl X ?_; intro g w X2; (replace X := X2; clear X2))); (simp only [Act.put, List.setIfInBounds_toArray, List.set_cons_succ, List.set_cons_zero, List.drop_succ_cons, List.drop_zero, List.take_succ_cons, List.take_zero, Nat.reduceAdd])))
  have X9 := X.perm (List.perm_append_comm (l₁ := [_]) (l₂ := [_, _]))
  simp only [List.cons_append, List.nil_append] at X9
  replace X := X9
  clear X9
  (refine q_start 2 [] [2, 5] [1, 4] [0, 1, 3, 4, 2, 5, 6, 7] X (by kernel_rfl) (by kernel_rfl) (fun _ _ _ _ _ h => h) ?_; intro hQ X2 hL; replace X := X2; clear X2; simp only [List.take_succ_cons, List.take_zero] at hL; simp only [List.take_succ_cons, List.take_zero])
  (refine q_field rfl rfl (by first | exact EvR.const _ | exact EvR.tmp rfl rfl) rfl rfl hQ ?_; (simp only [Act.put, List.setIfInBounds_toArray, List.set_cons_succ, List.set_cons_zero, List.drop_succ_cons, List.drop_zero, List.take_succ_cons, List.take_zero, Nat.reduceAdd]))
  ((first | (refine d_load1 rfl rfl (by first | exact EvR.const _ | exact EvR.tmp rfl rfl) (by repeat (first | exact ReadA.here rfl | apply ReadA.there)) rfl rfl X hL hQ ?_) | (refine d_loadN rfl rfl (by first | exact EvR.const _ | exact EvR.tmp rfl rfl) (by repeat (first | exact ReadB.here (Nat.le_of_ble_eq_true rfl) | apply ReadB.there)) rfl rfl X hL hQ ?_)); (simp only [Act.put, List.setIfInBounds_toArray, List.set_cons_succ, List.set_cons_zero, List.drop_succ_cons, List.drop_zero, List.take_succ_cons, List.take_zero, Nat.reduceAdd]))
  (refine q_field rfl rfl (by first | exact EvR.const _ | exact EvR.tmp rfl rfl) rfl rfl hQ ?_; (simp only [Act.put, List.setIfInBounds_toArray, List.set_cons_succ, List.set_cons_zero, List.drop_succ_cons, List.drop_zero, List.take_succ_cons, List.take_zero, Nat.reduceAdd]))
  ((first | (refine d_load1 rfl rfl (by first | exact EvR.const _ | exact EvR.tmp rfl rfl) (by repeat (first | exact ReadA.here rfl | apply ReadA.there)) rfl rfl X hL hQ ?_) | (refine d_loadN rfl rfl (by first | exact EvR.const _ | exact EvR.tmp rfl rfl) (by repeat (first | exact ReadB.here (Nat.le_of_ble_eq_true rfl) | apply ReadB.there)) rfl rfl X hL hQ ?_)); (simp only [Act.put, List.setIfInBounds_toArray, List.set_cons_succ, List.set_cons_zero, List.drop_succ_cons, List.drop_zero, List.take_succ_cons, List.take_zero, Nat.reduceAdd]))
  (refine q_call 18 _ _ rfl rfl _ rfl ⟨_, _, Try.func18, by kernel_rfl, rfl⟩ rfl rfl (hP3.out _) ?_; rintro e w1 ⟨rfl, rfl⟩; (have hL2 := X.und (by first | exact hL | exact hL.up | exact hL.up3 | exact hL.up.up); replace hL := hL2; clear hL2); refine ⟨_, rfl, fun _ _ => X.keeps hL, ?_⟩; (simp only [Act.put, List.setIfInBounds_toArray, List.set_cons_succ, List.set_cons_zero, List.drop_succ_cons, List.drop_zero, List.take_succ_cons, List.take_zero, Nat.reduceAdd]))
  (refine q_call 18 _ _ rfl rfl _ rfl ⟨_, _, Try.func18, by kernel_rfl, rfl⟩ rfl rfl (hP12.out _) ?_; rintro e w1 ⟨rfl, rfl⟩; (have hL2 := X.und (by first | exact hL | exact hL.up | exact hL.up3 | exact hL.up.up); replace hL := hL2; clear hL2); refine ⟨_, rfl, fun _ _ => X.keeps hL, ?_⟩; (simp only [Act.put, List.setIfInBounds_toArray, List.set_cons_succ, List.set_cons_zero, List.drop_succ_cons, List.drop_zero, List.take_succ_cons, List.take_zero, Nat.reduceAdd]))
  (refine q_assign rfl rfl (by first | exact EvR.const _ | exact EvR.tmp rfl rfl) rfl rfl hQ ?_; (simp only [Act.put, List.setIfInBounds_toArray, List.set_cons_succ, List.set_cons_zero, List.drop_succ_cons, List.drop_zero, List.take_succ_cons, List.take_zero, Nat.reduceAdd]))
  (refine q_assign rfl rfl (by first | exact EvR.const _ | exact EvR.tmp rfl rfl) rfl rfl hQ ?_; (simp only [Act.put, List.setIfInBounds_toArray, List.set_cons_succ, List.set_cons_zero, List.drop_succ_cons, List.drop_zero, List.take_succ_cons, List.take_zero, Nat.reduceAdd]))
  refine q_nil ?_
  go_wp2_with (first
    | (refine at_mem rfl ?_; (first | (refine at_load rfl ?_; (first | (refine c_load1 rfl _ _ rfl rfl X (by repeat (first | exact ReadA.here rfl | apply ReadA.there)) ?_) | (refine c_loadN rfl _ _ rfl rfl X (by repeat (first | exact ReadB.here (Nat.le_of_ble_eq_true rfl) | apply ReadB.there)) ?_))) | (refine at_store rfl ?_; (first | (refine c_store1 rfl _ _ _ rfl rfl (by first | exact EvR.const _ | exact EvR.tmp rfl rfl) X rfl rfl (by repeat (first | exact PutA.here (Nat.le_of_ble_eq_true rfl) | apply PutA.there)) ?_; intro w X2; (try simp only [upd] at X2); replace X := X2; clear X2) | (refine c_storeN rfl _ _ _ rfl rfl rfl X rfl rfl (by repeat (first | exact PutA.here (Nat.le_of_ble_eq_true rfl) | apply PutA.there)) ?_; intro w X2; (try simp only [upd] at X2); replace X := X2; clear X2))) | (refine m_alloc rfl _ rfl X ?_; intro g w X2; (replace X := X2; clear X2)) | (refine m_box rfl _ _ rfl (by first | exact EvR.const _ | exact EvR.tmp rfl rfl) rfl X ?_; intro g w X2; (replace X := X2; clear X2))); (simp only [Act.put, List.setIfInBounds_toArray, List.set_cons_succ, List.set_cons_zero, List.drop_succ_cons, List.drop_zero, List.take_succ_cons, List.take_zero, Nat.reduceAdd]))
    | (go_at_call 18; go_loud ((with_reducible refine (hP5.out _).mono ?_); rintro e w1 ⟨rfl, rfl⟩))
    | (go_at_call 44; go_loud ((have hc := hC.out _ _ _ _ (X.rtxn (.head _) (.tail _ (.head _)) (.tail _ (.tail _ (.head _))) n1 n2 n3); (try simp only [txnV] at hc); (with_reducible refine hc.mono ?_); clear hc; rintro e w1 ⟨rfl, hb1⟩; replace X := X.call hb1; clear hb1))))
  exact m_ret2 rfl (.tmp rfl rfl) (.tmp rfl rfl) X (.tail _ (.tail _ (.head _))) rfl rfl ⟨_, _, _, rfl, NewT.of hsm, X.below⟩
theorem keep_follow (t : Txn) (o : Ord) (fr : Int) (vm vd vr : Value) (w0 : World) (ht : RTxn w0 (txnV t vm vd vr) t) (hs : o.text.size ≤ 9223372036854775807) :
    Calls Try.prog 19 #[txnV t vm vd vr, .agg (ordC o).toArray, .int .i64 fr] w0 fun e w' => ∃ vm' vd' vr', e = .returned (.tuple #[txnV (ordT t o fr) vm' vd' vr', .int .i64 (ordE t o fr)]) ∧ NewT w0.heap.size w' vm vd vr vm' vd' vr' t (ordT t o fr) ∧ Below w0.heap.size w0 w' := by
  obtain (hk | hk | hk | hk | hk) : o.kind % 5 = 0 ∨ o.kind % 5 = 1 ∨ o.kind % 5 = 2 ∨ o.kind % 5 = 3 ∨ o.kind % 5 = 4 := by omega
  · exact keep_follow_0 t o fr vm vd vr w0 ht hs hk
  · exact keep_follow_1 t o fr vm vd vr w0 ht hs hk
  · exact keep_follow_2 t o fr vm vd vr w0 ht hs hk
  · exact keep_follow_3 t o fr vm vd vr w0 ht hs hk
  · exact keep_follow_4 t o fr vm vd vr w0 ht hs hk
end Go.Proofs.Ytjhmfljlclajnac
