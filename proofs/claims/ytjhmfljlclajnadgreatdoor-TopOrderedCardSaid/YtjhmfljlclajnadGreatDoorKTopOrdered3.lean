/- Parts of the proof: Own OwnO Seq SeqT MemC. -/
import Derived.Test.YtjhmfljlclajnadGreatDoorKTopOrdered2
import Derived.Deep.DeepAppendWide
set_option linter.unusedVariables false
set_option linter.unusedSimpArgs false
set_option maxRecDepth 100000
set_option maxHeartbeats 40000000
namespace Wb
open Go Go.RowKit
def OwnM {α : Type} (f : α -> List Value) (e : TypeId) (c : Nat) (v : Value) (l : List α) (M : List Ent) : Prop :=
 (v = .slice none 0 0 /\ l = [] /\ M = []) \/ ∃ g cap rest, v = .slice (some ⟨g, 0, none⟩) l.length cap /\ l.length <= cap /\ cap <= maxLen /\ (l.flatMap f ++ rest).length = cap * c /\ M = [⟨g, l.flatMap f ++ rest, e⟩]
section
variable {α : Type} {f : α -> List Value} {e : TypeId} {c : Nat} {v : Value} {l : List α} {M : List Ent} {S : List Nat} {w0 w w' : World} {L T : List Ent} {R : List Rd}
theorem OwnM.nil (f : α -> List Value) (e : TypeId) (c : Nat) : OwnM f e c (.slice none 0 0) [] [] := .inl ⟨rfl, rfl, rfl⟩
theorem OwnM.form (h : OwnM f e c v l M) : ∃ a cap, v = .slice a l.length cap := by
 rcases h with ⟨rfl, rfl, _⟩ | ⟨g, cap, rest, rfl, _⟩
 ·exact ⟨none, 0, rfl⟩
 ·exact ⟨_, _, rfl⟩
theorem OwnM.reads (h : OwnM f e c v l M) (hb : ∀ x ∈ M, Blk w x.g x.cs.toArray x.t) : RL f w v l := by
 rcases h with ⟨rfl, rfl, rfl⟩ | ⟨g, cap, rest, rfl, h1, h2, h3, rfl⟩
 ·exact ⟨none, 0, rfl, Nat.le_refl _, by simp [maxLen], .inl rfl⟩
 ·have hk := hb _ (List.mem_singleton.2 rfl)
  refine ⟨_, cap, rfl, h1, h2, .inr ⟨g, 0, rfl, fun j u hj => ?_⟩⟩
  rw [hk.cell]
  have hlt : j < (l.flatMap f).length := (List.getElem?_eq_some_iff.1 hj).1
  rw [Nat.zero_add]
  simp only [List.getElem?_toArray]
  rw [List.getElem?_append_left hlt]; exact hj
theorem St.ownRd (X : St S w0 w (L ++ (M ++ T)) R) (h : OwnM f e c v l M) : RL f w v l := h.reads fun x hx => X.blk x (by simp [hx])
theorem St.sub {L2 : List Ent} (X : St S w0 w L R) (hs : L2.Sublist L) : St S w0 w L2 R :=
 ⟨X.mv, (hs.map _).nodup X.nd, fun x hx => X.blk x (hs.subset hx), fun x hx => X.own x (hs.subset hx), fun r hr => ⟨(X.rd r hr).1, (X.rd r hr).2.imp id fun h b hb x hx => h b hb x (hs.subset hx)⟩⟩
theorem St.ownEnd (X : St S w0 w (L ++ (M ++ T)) R) (h : OwnM f e c v l M) : St S w0 w (L ++ T) (Rd.of f v l :: R) := by
 have X2 : St S w0 w (L ++ T) R := X.sub (List.Sublist.append_left (List.sublist_append_right _ _) _)
 refine X2.addR (X.ownRd h) ?_
 rcases h with ⟨rfl, rfl, rfl⟩ | ⟨g, cap, rest, rfl, h1, h2, h3, rfl⟩
 ·exact .inl rfl
 ·refine .inr fun b hb x hx heq => ?_
  cases hb
  have hnd := X.nd
  simp only [List.map_append, List.map_cons, List.map_nil, List.nodup_append, List.nodup_cons, List.mem_append, List.mem_map, List.mem_singleton] at hnd
  obtain ⟨_, ⟨_, _, h5⟩, h6⟩ := hnd
  have heq2 : x.g = g := heq
  rcases List.mem_append.1 hx with hx | hx
  ·exact h6 x.g ⟨x, hx, rfl⟩ g (.inl (by simp)) heq2
  ·exact h5 g (by simp) x.g ⟨x, hx, rfl⟩ heq2.symm
theorem St.push_blk {w1 : World} {g g' : Nat} {cs cs' : List Value} (X : St S w0 w (L ++ ([⟨g, cs, e⟩] ++ T)) R) (hg : w.grownBy w1 (some g)) (hb : Blk w1 g' cs'.toArray e) (hg' : g' = g \/ w.heap.size <= g') :
    St S w0 w1 (L ++ ([⟨g', cs', e⟩] ++ T)) R := by
 have hnd := X.nd
 simp only [List.map_append, List.map_cons, List.map_nil, List.nodup_append, List.nodup_cons, List.mem_append, List.mem_map, List.mem_singleton] at hnd
 obtain ⟨nL, ⟨_, nT, h5⟩, h6⟩ := hnd
 have ho := X.own ⟨g, cs, e⟩ (by simp)
 have hlt : ∀ x ∈ L ++ T, x.g < w.heap.size := fun x hx => (X.blk x (by rcases List.mem_append.1 hx with h | h <;> simp [h])).lt
 have hneL : ∀ x ∈ L, x.g ≠ g := fun x hx => h6 x.g ⟨x, hx, rfl⟩ g (.inl (by simp))
 have hneT : ∀ x ∈ T, x.g ≠ g := fun x hx heq => h5 g (by simp) x.g ⟨x, hx, rfl⟩ heq.symm
 have hne' : ∀ x ∈ L ++ T, x.g ≠ g' := fun x hx heq => by
  rcases hg' with rfl | hg'
  ·rcases List.mem_append.1 hx with h | h
   ·exact hneL x h heq
   ·exact hneT x h heq
  ·have := hlt x hx; omega
 have hm := Mv.ofGrown hg
 have hsz := X.mv.size
 have hR : ∀ r ∈ R, r.cs = [] \/ ∀ b, vblk r.v = some b -> b ≠ g := fun r hr => (X.rd r hr).2.imp id fun h b hb => (h b hb ⟨g, cs, e⟩ (by simp)).symm
 refine ⟨X.mv.then hm (fun k hk => ?_), ?_, fun x hx => ?_, fun x hx => ?_, fun r hr => ⟨(X.rd r hr).1.mv hm ((hR r hr).imp id fun h b hb => by simpa using h b hb), ?_⟩⟩
 ·obtain rfl : k = g := by simpa using hk
  exact ho
 ·simp only [List.map_append, List.map_cons, List.map_nil, List.nodup_append, List.nodup_cons, List.mem_append, List.mem_map, List.mem_singleton]
  refine ⟨nL, ⟨⟨by simp, List.nodup_nil⟩, nT, ?_⟩, ?_⟩
  ·rintro a rfl b ⟨x, hx, rfl⟩ heq
   exact hne' x (by simp [hx]) heq.symm
  ·rintro a ⟨x, hx, rfl⟩ b (rfl | ⟨y, hy, rfl⟩) heq
   ·exact hne' x (by simp [hx]) heq
   ·exact h6 x.g ⟨x, hx, rfl⟩ y.g (.inr ⟨y, hy, rfl⟩) heq
 ·rcases List.mem_append.1 hx with hx | hx
  ·exact (X.blk x (by simp [hx])).mv hm (by simpa using hneL x hx)
  ·rcases List.mem_append.1 hx with hx | hx
   ·obtain rfl := List.mem_singleton.1 hx; exact hb
   ·exact (X.blk x (by simp [hx])).mv hm (by simpa using hneT x hx)
 ·rcases List.mem_append.1 hx with hx | hx
  ·exact X.own x (by simp [hx])
  ·rcases List.mem_append.1 hx with hx | hx
   ·obtain rfl := List.mem_singleton.1 hx
    rcases hg' with rfl | hg'
    ·exact ho
    ·exact .inr (by show w0.heap.size <= g'; omega)
   ·exact X.own x (by simp [hx])
 ·rcases (X.rd r hr).2 with h | h
  ·exact .inl h
  ·rcases (X.rd r hr).1.lt with h2 | h2
   ·exact .inl h2
   refine .inr fun b hb x hx heq => ?_
   rcases List.mem_append.1 hx with hx | hx
   ·exact h b hb x (by simp [hx]) heq
   ·rcases List.mem_append.1 hx with hx | hx
    ·obtain rfl := List.mem_singleton.1 hx
     rcases hg' with rfl | hg'
     ·exact h b hb ⟨g', cs, e⟩ (by simp) heq
     ·have := h2 b hb
      have h3 : g' = b := heq
      omega
    ·exact h b hb x (by simp [hx]) heq
theorem St.perm {L2 : List Ent} (X : St S w0 w L R) (hp : L.Perm L2) : St S w0 w L2 R :=
 ⟨X.mv, (hp.map _).nodup_iff.1 X.nd, fun x hx => X.blk x (hp.mem_iff.2 hx), fun x hx => X.own x (hp.mem_iff.2 hx), fun r hr => ⟨(X.rd r hr).1, (X.rd r hr).2.imp id fun h b hb x hx => h b hb x (hp.mem_iff.2 hx)⟩⟩
theorem size_zeros (z : Array Value) (n : Nat) : (Builtin.zeroCells z n).size = n * z.size := by simp [Builtin.zeroCells]
theorem St.pushF {P : Program} (t ty : TypeId) (bytes : Nat) (hF : Flat f c) (hT : Elem P t e c bytes) (X : St S w0 w (L ++ (M ++ T)) R) (hO : OwnM f e c v l M)
    {vx : Value} (l2 : List α) (hs : RL f w vx l2) (hroom : l2.length * bytes <= 281474976710656) (hfit : ∀ old, old < l.length + l2.length -> Builtin.nextslicecap (l.length + l2.length) old * bytes <= 281474976710656) (h63 : l.length + l2.length <= maxLen) :
    ∃ v' w' M', (Builtin.append_ #[t, t] ty #[v, vx]).run P w = .ok v' w' /\ OwnM f e c v' (l ++ l2) M' /\ St S w0 w' (L ++ (M' ++ T)) R := by
 obtain ⟨a, cx, rfl, x1, x2, x3⟩ := hs
 obtain ⟨ht, i, z, hi, hz, hsz, hby, hzs⟩ := hT
 subst hsz
 subst hby
 cases l2 with
 | nil =>
  refine ⟨v, w, M, ?_, by simpa using hO, X⟩
  rcases hO with ⟨rfl, rfl, rfl⟩ | ⟨g, cap, rest, rfl, h1, h2, h3, rfl⟩
  ·cases a <;> simp [Builtin.append_, run_underlying ht, Go.sizeOf, typeInfo, hi, Builtin.lenOf, Builtin.firstCells, loadCells, loadCellsFrom]
  ·cases a <;> simp [Builtin.append_, run_underlying ht, Go.sizeOf, typeInfo, hi, Builtin.lenOf, Builtin.firstCells, loadCells, loadCellsFrom, h1, storeCells]
 | cons y l2 =>
  have hfl := flat_len hF.len (y :: l2)
  rcases x3 with x3 | ⟨bx, off, rfl, hc⟩
  ·exfalso
   have h4 : 0 < (y :: l2).length * i.size := Nat.mul_pos (by simp) hF.pos
   rw [x3] at hfl; rw [<- hfl] at h4
   simp at h4
  have hnews : ∀ j u, ((y :: l2).flatMap f)[j]? = some u -> w.cell? ((⟨bx, off, none⟩ : Addr).add j) = some u := fun j u hj => by rw [Addr.add_lit]; exact hc j u hj
  have hone : ∀ u ∈ (y :: l2).flatMap f, u.oneCell' = true := fun u hu => by obtain ⟨x, _, hx⟩ := List.mem_flatMap.1 hu; exact hF.one x u hx
  have hpos : 0 < (y :: l2).length := by simp
  generalize hn : (y :: l2).length = m at *
  generalize hnw : (y :: l2).flatMap f = news at *
  have hlm : (l ++ y :: l2).length = l.length + m := by rw [List.length_append, hn]
  have hfm : (l ++ y :: l2).flatMap f = l.flatMap f ++ news := by rw [List.flatMap_append, hnw]
  have hll := flat_len hF.len l
  simp only [maxLen] at h63
  rcases hO with ⟨rfl, rfl, rfl⟩ | ⟨g, cap, rest, rfl, h1, h2, h3, rfl⟩
  ·have hr := run_append_nil (P := P) w t ty e i z ht hi hz ⟨bx, off, none⟩ m cx news hfl hnews (by omega) (by omega) hroom
   have hge := grownCap_ge w m 0 e
   have hcm : grownCap w m 0 e <= maxLen := grownCap_le_maxLen w m 0 e (by simp only [maxLen]; simp at h63; omega)
   refine ⟨_, _, [⟨w.heap.size, news ++ (Builtin.zeroCells z.cells (grownCap w m 0 e - m)).toList, e⟩], hr, .inr ⟨w.heap.size, grownCap w m 0 e, (Builtin.zeroCells z.cells (grownCap w m 0 e - m)).toList, by rw [hlm]; simp, by rw [hlm]; simpa using hge, hcm, ?_, by rw [hfm]; simp⟩, ?_⟩
   ·rw [hfm]
    simp only [List.flatMap_nil, List.nil_append, List.length_append, Array.length_toList, size_zeros, hzs, hfl, <- Nat.add_mul]
    congr 1; omega
   ·have X2 := (X.drew.alloc (news ++ (Builtin.zeroCells z.cells (grownCap w m 0 e - m)).toList) e)
    have X3 := X2.perm (L2 := L ++ ([⟨w.heap.size, news ++ (Builtin.zeroCells z.cells (grownCap w m 0 e - m)).toList, e⟩] ++ T)) (by
     simp only [List.nil_append, List.cons_append]
     exact (List.perm_middle).symm)
    have e1 : (news ++ (Builtin.zeroCells z.cells (grownCap w m 0 e - m)).toList).toArray = news.toArray ++ Builtin.zeroCells z.cells (grownCap w m 0 e - m) := by simp
    rw [e1] at X3
    exact X3
  ·have hb := X.blk ⟨g, l.flatMap f ++ rest, e⟩ (by simp)
   have htk : (l.flatMap f ++ rest).take (l.length * i.size) = l.flatMap f := by rw [<- hll]; exact List.take_left
   by_cases hrm : l.length + m <= cap
   ·have hfit : l.length * i.size + news.length <= (l.flatMap f ++ rest).toArray.size := by
      rw [List.size_toArray, h3, hfl, <- Nat.add_mul]; exact Nat.mul_le_mul_right _ hrm
    have hr := run_append_room (P := P) w t ty e i ht hi g l.length cap _ hb ⟨bx, off, none⟩ m cx news hfl hnews hone hrm hfit
    have hdr : (l.flatMap f ++ rest).drop (l.length * i.size + news.length) = rest.drop news.length := by
     rw [<- hll, <- List.drop_drop, List.drop_left]
    rw [List.toList_toArray, htk, hdr] at hr
    refine ⟨_, _, [⟨g, l.flatMap f ++ news ++ rest.drop news.length, e⟩], hr, .inr ⟨g, cap, rest.drop news.length, by rw [hlm], by rw [hlm]; exact hrm, h2, ?_, by rw [hfm]⟩, ?_⟩
    ·rw [hfm]
     simp only [List.length_append, List.length_drop] at h3 ⊢
     rw [List.size_toArray, List.length_append] at hfit
     rw [hll] at h3 ⊢
     omega
    ·refine X.push_blk ⟨rfl, rfl, rfl, by simp, fun k _ hk => setRow_other w g k _ (fun e => hk (by simp [e]))⟩ ?_ (.inl rfl)
     exact setRow_heap w g _ _ e _ hb
   ·have holds : ∀ j u, (l.flatMap f)[j]? = some u -> w.cell? ((⟨g, 0, none⟩ : Addr).add j) = some u := fun j u hj => by
      rw [Addr.add_lit, Nat.zero_add, hb.cell]
      have hlt : j < (l.flatMap f).length := (List.getElem?_eq_some_iff.1 hj).1
      simp only [List.getElem?_toArray]
      rw [List.getElem?_append_left hlt]; exact hj
    have hr := run_append_grow (P := P) w t ty e i z ht hi hz ⟨g, 0, none⟩ l.length cap (l.flatMap f) hll holds ⟨bx, off, none⟩ m cx news hfl hnews (by omega) (by omega) (hfit cap (by omega))
    have hge := grownCap_ge w (l.length + m) cap e
    have hcm : grownCap w (l.length + m) cap e <= maxLen := grownCap_le_maxLen w (l.length + m) cap e (by simp only [maxLen]; omega)
    refine ⟨_, _, [⟨w.heap.size, l.flatMap f ++ news ++ (Builtin.zeroCells z.cells (grownCap w (l.length + m) cap e - (l.length + m))).toList, e⟩], hr, .inr ⟨w.heap.size, grownCap w (l.length + m) cap e, (Builtin.zeroCells z.cells (grownCap w (l.length + m) cap e - (l.length + m))).toList, by rw [hlm], by rw [hlm]; exact hge, hcm, ?_, by rw [hfm]⟩, ?_⟩
    ·rw [hfm]
     simp only [List.length_append, Array.length_toList, size_zeros, hzs, hfl, hll, <- Nat.add_mul]
     congr 1; omega
    ·have e1 : (l.flatMap f).toArray ++ news.toArray ++ Builtin.zeroCells z.cells (grownCap w (l.length + m) cap e - (l.length + m)) = (l.flatMap f ++ news ++ (Builtin.zeroCells z.cells (grownCap w (l.length + m) cap e - (l.length + m))).toList).toArray := by simp
     rw [e1]
     refine X.push_blk (w1 := w.drew.alloc _) ⟨rfl, rfl, rfl, by simp, fun k hk _ => heap_alloc_old w.drew _ hk⟩ ?_ (.inr (Nat.le_refl _))
     exact Blk.new w.drew _ _
theorem St.push {P : Program} (t ty : TypeId) (bytes : Nat) (hF : Flat f c) (hT : Elem P t e c bytes) (X : St S w0 w (L ++ (M ++ T)) R) (hO : OwnM f e c v l M)
    {vx : Value} (l2 : List α) (hs : RL f w vx l2) (hroom : (l.length + l2.length) * bytes <= 140737488355328) (h63 : l.length + l2.length <= maxLen) :
    ∃ v' w' M', (Builtin.append_ #[t, t] ty #[v, vx]).run P w = .ok v' w' /\ OwnM f e c v' (l ++ l2) M' /\ St S w0 w' (L ++ (M' ++ T)) R :=
 X.pushF t ty bytes hF hT hO l2 hs (Nat.le_trans (Nat.mul_le_mul_right _ (Nat.le_add_left _ _)) (Nat.le_trans hroom (by decide))) (fun _ h => growslice_fits h hroom) h63
theorem St.pushW {P : Program} (t ty : TypeId) (bytes : Nat) (hF : Flat f c) (hT : Elem P t e c bytes) (X : St S w0 w (L ++ (M ++ T)) R) (hO : OwnM f e c v l M)
    {vx : Value} (l2 : List α) (hs : RL f w vx l2) (hroom : (l.length + l2.length + (l.length + l2.length) / 4 + 192) * bytes <= 281474976710656) (h63 : l.length + l2.length <= maxLen) :
    ∃ v' w' M', (Builtin.append_ #[t, t] ty #[v, vx]).run P w = .ok v' w' /\ OwnM f e c v' (l ++ l2) M' /\ St S w0 w' (L ++ (M' ++ T)) R :=
 X.pushF t ty bytes hF hT hO l2 hs (Nat.le_trans (Nat.mul_le_mul_right _ (by omega)) hroom) (fun _ h => growslice_fits_wide h hroom) h63
end
def OwnO {α : Type} (f : α -> List Value) (e : TypeId) (c : Nat) (v : Value) (l : List α) (M : List Ent) : Prop :=
 (v = .slice none 0 0 /\ l = [] /\ M = []) \/ ∃ g pre cap rest, v = .slice (some ⟨g, pre.length, none⟩) l.length cap /\ l.length <= cap /\ cap <= maxLen /\ cap * c <= (l.flatMap f ++ rest).length /\ M = [⟨g, pre ++ (l.flatMap f ++ rest), e⟩]
section
variable {α : Type} {f : α -> List Value} {e : TypeId} {c : Nat} {v : Value} {l : List α} {M : List Ent} {S : List Nat} {w0 w w' : World} {L T : List Ent} {R : List Rd}
theorem OwnO.nil (f : α -> List Value) (e : TypeId) (c : Nat) : OwnO f e c (.slice none 0 0) [] [] := .inl ⟨rfl, rfl, rfl⟩
theorem OwnM.o (h : OwnM f e c v l M) : OwnO f e c v l M := by
 rcases h with h | ⟨g, cap, rest, h1, h2, h3, h4, h5⟩
 ·exact .inl h
 ·exact .inr ⟨g, [], cap, rest, h1, h2, h3, Nat.le_of_eq h4.symm, h5⟩
theorem OwnO.form (h : OwnO f e c v l M) : ∃ a cap, v = .slice a l.length cap := by
 rcases h with ⟨rfl, rfl, _⟩ | ⟨g, pre, cap, rest, rfl, _⟩
 ·exact ⟨none, 0, rfl⟩
 ·exact ⟨_, _, rfl⟩
theorem OwnO.reads (h : OwnO f e c v l M) (hb : ∀ x ∈ M, Blk w x.g x.cs.toArray x.t) : RL f w v l := by
 rcases h with ⟨rfl, rfl, rfl⟩ | ⟨g, pre, cap, rest, rfl, h1, h2, h3, rfl⟩
 ·exact ⟨none, 0, rfl, Nat.le_refl _, by simp [maxLen], .inl rfl⟩
 ·have hk := hb _ (List.mem_singleton.2 rfl)
  refine ⟨_, cap, rfl, h1, h2, .inr ⟨g, pre.length, rfl, fun j u hj => ?_⟩⟩
  rw [hk.cell]
  have hlt : j < (l.flatMap f).length := (List.getElem?_eq_some_iff.1 hj).1
  simp only [List.getElem?_toArray]
  rw [List.getElem?_append_right (by omega), Nat.add_sub_cancel_left, List.getElem?_append_left hlt]; exact hj
theorem St.ownORd (X : St S w0 w (L ++ (M ++ T)) R) (h : OwnO f e c v l M) : RL f w v l := h.reads fun x hx => X.blk x (by simp [hx])
theorem set_cells_row (pre news cs : List Value) (h : news.length <= cs.length) : upd pre.length news (pre ++ cs) = pre ++ (news ++ cs.drop news.length) := by
 rw [upd_seg _ _ _ (by simp; omega)]
 rw [List.take_left, <- List.drop_drop, List.drop_left, List.append_assoc]
theorem St.pushO {P : Program} (t ty : TypeId) (bytes : Nat) (hF : Flat f c) (hT : Elem P t e c bytes) (X : St S w0 w (L ++ (M ++ T)) R) (hO : OwnO f e c v l M)
    {vx : Value} (y : α) (hs : RL f w vx [y]) (hroom : (l.length + 1) * bytes <= 140737488355328) (h63 : l.length + 1 <= maxLen) :
    ∃ v' w' M', (Builtin.append_ #[t, t] ty #[v, vx]).run P w = .ok v' w' /\ OwnO f e c v' (l ++ [y]) M' /\ St S w0 w' (L ++ (M' ++ T)) R := by
 rcases hO with ⟨h1, h2, h3⟩ | ⟨g, pre, cap, rest, rfl, h1, h2, h3, rfl⟩
 ·obtain ⟨v', w', M', r1, r2, r3⟩ := X.push t ty bytes hF hT (.inl ⟨h1, h2, h3⟩) [y] hs hroom h63
  exact ⟨v', w', M', r1, r2.o, r3⟩
 ·obtain ⟨a, cx, rfl, x1, x2, x3⟩ := hs
  obtain ⟨ht, i, z, hi, hz, hsz, hby, hzs⟩ := hT
  subst hsz
  subst hby
  have hfl : (f y).length = i.size := hF.len y
  have hy : [y].flatMap f = f y := by simp
  rcases x3 with x3 | ⟨bx, off, rfl, hc⟩
  ·exfalso
   have h4 := hF.pos
   rw [hy] at x3
   rw [<- hfl, x3] at h4
   simp at h4
  have hsrc : Src P i.size t (.slice (some ⟨bx, off, none⟩) 1 cx) 1 (f y) w := Src.ofSlice w ht ⟨bx, off, none⟩ 1 cx (f y) (by rw [hfl]; simp) (fun j u hj => by rw [Addr.add_lit]; exact hc j u (by rw [hy]; exact hj)) (fun u hu => hF.one y u hu)
  have hb := X.blk ⟨g, pre ++ (l.flatMap f ++ rest), e⟩ (by simp)
  have hll := flat_len hF.len l
  have hfm : (l ++ [y]).flatMap f = l.flatMap f ++ f y := by rw [List.flatMap_append, hy]
  have hlm : (l ++ [y]).length = l.length + 1 := by simp
  simp only [maxLen] at h63
  by_cases hrm : l.length + 1 <= cap
  ·have hle : l.length * i.size + i.size <= cap * i.size := by rw [<- Nat.succ_mul]; exact Nat.mul_le_mul_right _ hrm
   have hlr : i.size <= rest.length := by rw [List.length_append, hll] at h3; omega
   have hin : ∀ j, j < (f y).length -> pre.length + l.length * i.size + j < (pre ++ (l.flatMap f ++ rest)).length := fun j hj => by
    rw [List.length_append, List.length_append, hll]; omega
   have hr := run_append_room_src (P := P) w t t ty e i ht hi g pre.length l.length cap (.slice (some ⟨bx, off, none⟩) 1 cx) 1 (f y) hsrc hrm (fun j hj => by
    rw [hb.cell]
    simp only [List.getElem?_toArray]
    rw [List.getElem?_eq_getElem (hin j hj)]; rfl) (fun j hj => hb.free _)
   refine ⟨_, _, [⟨g, pre ++ ((l ++ [y]).flatMap f ++ rest.drop i.size), e⟩], hr, .inr ⟨g, pre, cap, rest.drop i.size, by rw [hlm], by rw [hlm]; exact hrm, h2, ?_, rfl⟩, ?_⟩
   ·rw [hfm]
    simp only [List.length_append, List.length_drop] at h3 ⊢
    rw [hll] at h3 ⊢
    omega
   ·have X2 := X.wrote L T (pre.length + l.length * i.size) (f y) (by rw [List.length_append, List.length_append, hll]; omega)
    have e1 : upd (pre.length + l.length * i.size) (f y) (pre ++ (l.flatMap f ++ rest)) = pre ++ ((l ++ [y]).flatMap f ++ rest.drop i.size) := by
     have := set_cells_row (pre ++ l.flatMap f) (f y) rest (by omega)
     rw [List.length_append, hll, List.append_assoc, List.append_assoc, hfl] at this
     rw [hfm, List.append_assoc]
     exact this
    rw [e1] at X2
    exact X2
  ·have hgt : cap < l.length + 1 := by omega
   have hold : (Builtin.firstCells i.size l.length (.slice (some ⟨g, pre.length, none⟩) l.length cap)).run P w.drew = .ok (l.flatMap f).toArray w.drew :=
    run_firstCells_some w.drew i.size l.length ⟨g, pre.length, none⟩ l.length cap (l.flatMap f) hll (fun j u hj => by
     rw [Addr.add_lit, World.cell?_drew, hb.cell]
     have hlt : j < (l.flatMap f).length := (List.getElem?_eq_some_iff.1 hj).1
     simp only [List.getElem?_toArray]
     rw [List.getElem?_append_right (by omega), Nat.add_sub_cancel_left, List.getElem?_append_left hlt]; exact hj)
   have hr := run_append_grow_src (P := P) w t t ty e i z ht hi hz (some ⟨g, pre.length, none⟩) l.length cap (l.flatMap f) hold (.slice (some ⟨bx, off, none⟩) 1 cx) 1 (f y) hsrc hgt (by omega) (growslice_fits hgt hroom)
   have hge := grownCap_ge w (l.length + 1) cap e
   have hcm : grownCap w (l.length + 1) cap e <= maxLen := grownCap_le_maxLen w (l.length + 1) cap e (by simp only [maxLen]; omega)
   refine ⟨_, _, [⟨w.heap.size, l.flatMap f ++ f y ++ (Builtin.zeroCells z.cells (grownCap w (l.length + 1) cap e - (l.length + 1))).toList, e⟩], hr, .inr ⟨w.heap.size, [], grownCap w (l.length + 1) cap e, (Builtin.zeroCells z.cells (grownCap w (l.length + 1) cap e - (l.length + 1))).toList, by rw [hlm]; rfl, by rw [hlm]; exact hge, hcm, ?_, by rw [hfm]; rfl⟩, ?_⟩
   ·rw [hfm]
    simp only [List.length_append, Array.length_toList, size_zeros, hzs, hfl, hll]
    rw [<- Nat.succ_mul, <- Nat.add_mul]
    refine Nat.le_of_eq ?_
    congr 1; omega
   ·have e1 : (l.flatMap f ++ f y).toArray ++ Builtin.zeroCells z.cells (grownCap w (l.length + 1) cap e - (l.length + 1)) = (l.flatMap f ++ f y ++ (Builtin.zeroCells z.cells (grownCap w (l.length + 1) cap e - (l.length + 1))).toList).toArray := by simp
    rw [e1]
    refine X.push_blk (w1 := w.drew.alloc _) ⟨rfl, rfl, rfl, by simp, fun k hk _ => heap_alloc_old w.drew _ hk⟩ ?_ (.inr (Nat.le_refl _))
    exact Blk.new w.drew _ _
end
section
variable {P : Program} {ops : Array Oper} {Q : Exit -> Act -> World -> Prop} {md : Region.Mode} {S : World -> Prop} {brk : List Nat}
def waitB (md : Region.Mode) (ops : Array Oper) (b i : Nat) : Bool := ((ops[b]?).map fun o => o.after.any fun e => Region.binds md e && e.on == i).getD true
def AnyS (P : Program) (md : Region.Mode) (ops : Array Oper) (Q : Exit -> Act -> World -> Prop) (S : World -> Prop) (brk : List Nat) : Nat -> Array Bool -> Act -> World -> Prop
 | 0, x, a, w => Region.ready md ops x = [] /\ Q .normal a w
 | n + 1, x, a, w => (Region.ready md ops x = [] -> Q .normal a w) /\
     ∀ i ∈ Region.ready md ops x, wpOp P ops Q i (fun b v => (brk.contains i = false -> S w -> S v) /\ AnyS P md ops Q S brk n (x.setIfInBounds i true) b v) a w
theorem AnyS.any : ∀ (n : Nat) (x : Array Bool) (a : Act) (w : World), AnyS P md ops Q S brk n x a w -> wpAny P md ops Q n x a w
 | 0, _, _, _, h => h
 | n + 1, x, a, w, h => ⟨h.1, fun i hi => wpOp_mono (fun b v hh => AnyS.any n _ b v hh.2) (h.2 i hi)⟩
theorem waitB_spec {b i : Nat} {o : Oper} (ho : ops[b]? = some o) (h : waitB md ops b i = true) : ∃ e ∈ o.after, Region.binds md e = true /\ e.on = i := by
 unfold waitB at h
 rw [ho] at h
 obtain ⟨e, he, hb⟩ := Array.any_eq_true'.1 h
 rw [Bool.and_eq_true, beq_iff_eq] at hb
 exact ⟨e, he, hb.1, hb.2⟩
def Loose (md : Region.Mode) (ops : Array Oper) (x : Array Bool) (i : Nat) (o : Oper) : Prop :=
 ∀ j oj, ops[j]? = some oj -> j ≠ i -> x.getD j true = false -> (∀ e ∈ oj.after, Region.binds md e = true -> e.on ≠ i) -> o.apart ops oj = true
theorem Loose.set {x : Array Bool} {i j : Nat} {o : Oper} (h : Loose md ops x i o) (hj : x.getD j true = false) : Loose md ops (x.setIfInBounds j true) i o := fun k ok hk hne hun hno => by
 by_cases e : j = k
 ·subst e; exact h _ ok hk hne hj hno
 ·exact h k ok hk hne (by rw [getD_set_ne true e] at hun; exact hun) hno
theorem AnyS.take {T : World -> Prop} {i : Nat} {o : Oper} {v : Value} (hi : ops[i]? = some o) (hsel : ∀ (j : Nat) (o : Oper) cs b, ops[j]? = some o -> o.op ≠ .select cs b)
    (hQ : ∀ c a w, Q (.panic c) (a.put o.dst v) w -> Q (.panic c) a w) (hT : (T = S /\ brk.all (fun b => waitB md ops b i) = true) \/ ∀ w, T w) :
    ∀ (n : Nat) (x : Array Bool) (a : Act) (w : World), Loose md ops x i o -> i ∈ Region.ready md ops x -> YieldsIf P ops T o v a -> T w ->
      AnyS P md ops Q S brk n (x.setIfInBounds i true) (a.put o.dst v) w -> AnyS P md ops Q S brk (n + 1) x a w
 | n, x, a, w, hl, hr, hy, hS, H => by
  have hne : Region.ready md ops x ≠ [] := fun e => by rw [e] at hr; cases hr
  refine ⟨fun e => absurd e hne, fun j hj => ?_⟩
  by_cases e : j = i
  ·subst e
   exact hy.wpOp hi hS ⟨fun _ h => h, H⟩
  ·have hj2 := ready_mono hj e
   obtain ⟨hju, oj, hoj, hall⟩ := mem_ready.1 hj
   have hiu := (mem_ready.1 hr).1
   have hnot : ∀ d ∈ oj.after, Region.binds md d = true -> d.on ≠ i := fun d hd hb he => by
    have h1 := hall d hd hb
    rw [he] at h1
    rcases Nat.lt_or_ge i x.size with h3 | h3
    ·simp [h3] at hiu h1; rw [hiu] at h1; cases h1
    ·simp [Array.getElem?_eq_none h3] at h1
   have next : ∀ u, (brk.contains j = false -> S w -> S u) -> T u := fun u hu => by
    rcases hT with ⟨rfl, hbrk⟩ | hT
    ·refine hu ?_ hS
     cases hb : brk.contains j with
     | false => rfl
     | true =>
      have h1 := List.all_eq_true.1 hbrk j (by simpa using hb)
      obtain ⟨d, hd, hb1, hb2⟩ := waitB_spec hoj h1
      exact absurd hb2 (hnot d hd hb1)
    ·exact hT u
   cases n with
   | zero => rw [H.1] at hj2; cases hj2
   | succ n =>
    have h1 := H.2 j hj2
    have h2 := wpOp_putIf hoj (hl j oj hoj e hju hnot) (fun cs b => hsel i o cs b hi) (fun cs b => hsel j oj cs b hoj) hQ hy h1
    refine wpOp_mono (fun b u hh => ?_) h2
    obtain ⟨hy2, hS2, H2⟩ := hh
    refine ⟨hS2, AnyS.take hi hsel hQ hT n _ b u (hl.set hju) (ready_mono hr (Ne.symm e)) hy2 (next u hS2) ?_⟩
    rw [Array.setIfInBounds_comm _ _ e]
    exact H2
def Seq (P : Program) (ops : Array Oper) (Q : Exit -> Act -> World -> Prop) (S : World -> Prop) (brk eff lds : List Nat) : List Nat -> Act -> World -> Prop
 | [], a, w => Q .normal a w
 | i :: r, a, w => if eff.contains i = true then wpOp P ops Q i (fun b v => (brk.contains i = false -> S w -> S v) /\ Seq P ops Q S brk eff lds r b v) a w
     else if lds.contains i = true then ∃ o v, ops[i]? = some o /\ YieldsIf P ops S o v a /\ S w /\ (∀ c a w, Q (.panic c) (a.put o.dst v) w -> Q (.panic c) a w) /\ Seq P ops Q S brk eff lds r (a.put o.dst v) w
     else ∃ o v, ops[i]? = some o /\ YieldsIf P ops (fun _ => True) o v a /\ (∀ c a w, Q (.panic c) (a.put o.dst v) w -> Q (.panic c) a w) /\ Seq P ops Q S brk eff lds r (a.put o.dst v) w
def ordOk (md : Region.Mode) (ops : Array Oper) (brk eff lds : List Nat) : Array Bool -> List Nat -> Bool
 | x, [] => (Region.ready md ops x).isEmpty
 | x, i :: r => (if eff.contains i = true then Region.ready md ops x == [i] else (Region.ready md ops x).contains i && Region.free md ops x i && (!lds.contains i || brk.all (fun b => waitB md ops b i))) && ordOk md ops brk eff lds (x.setIfInBounds i true) r
theorem Seq.anyS {eff lds : List Nat} (hs : Region.noSelect ops = true) : ∀ (r : List Nat) (x : Array Bool) (a : Act) (w : World), ordOk md ops brk eff lds x r = true -> Seq P ops Q S brk eff lds r a w -> AnyS P md ops Q S brk r.length x a w
 | [], x, a, w, hk, h => ⟨List.isEmpty_iff.1 hk, h⟩
 | i :: r, x, a, w, hk, h => by
  unfold ordOk at hk
  rw [Bool.and_eq_true] at hk
  obtain ⟨h1, h2⟩ := hk
  unfold Seq at h
  split at h
  ·rename_i he
   rw [if_pos he] at h1
   have hr : Region.ready md ops x = [i] := by simpa using h1
   refine ⟨fun e => (by rw [hr] at e; cases e), fun j hj => ?_⟩
   rw [hr] at hj
   obtain rfl : j = i := by simpa using hj
   exact wpOp_mono (fun b v hh => ⟨hh.1, Seq.anyS hs r _ b v h2 hh.2⟩) h
  ·rename_i he
   rw [if_neg he, Bool.and_eq_true, Bool.and_eq_true] at h1
   obtain ⟨⟨h3, h4⟩, h5⟩ := h1
   split at h
   ·rename_i hl
    rw [hl, Bool.not_true, Bool.false_or] at h5
    obtain ⟨o, v, hi, hy, hS, hQ, hn⟩ := h
    exact AnyS.take hi (Region.noSelect_spec hs) hQ (.inl ⟨rfl, h5⟩) r.length x a w (fun j oj hj hne hun hno => Region.free_spec hi h4 j oj hj hne hun hno) (by simpa using h3) hy hS (Seq.anyS hs r _ _ _ h2 hn)
   ·obtain ⟨o, v, hi, hy, hQ, hn⟩ := h
    exact AnyS.take hi (Region.noSelect_spec hs) hQ (.inr fun _ => trivial) r.length x a w (fun j oj hj hne hun hno => Region.free_spec hi h4 j oj hj hne hun hno) (by simpa using h3) hy trivial (Seq.anyS hs r _ _ _ h2 hn)
structure Kept (L0 : List Ent) (R0 : List Rd) (w : World) : Prop where
 l : ∀ e ∈ L0, Blk w e.g e.cs.toArray e.t
 r : ∀ x ∈ R0, Sl w x.v x.n x.cs
theorem wp_seq {id : Nat} {a : Act} {w : World} (L : List Ent) (R : List Rd) (brk eff lds perm : List Nat) (hm : P.follows .mixedOrders = true) (hs : (Region.noSelect ops && (perm.length == ops.size && ordOk .any ops brk eff lds (Array.replicate ops.size false) perm)) = true)
    (h : Seq P ops Q (Kept L R) brk eff lds perm a w.drew) : (Code.region id ops true).wp P Q a w := by
 rw [Bool.and_eq_true, Bool.and_eq_true] at hs
 obtain ⟨h1, h2, h3⟩ := hs
 have := Seq.anyS h1 perm _ a _ h3 h
 rw [show perm.length = ops.size by simpa using h2] at this
 exact wp_region_any hm (AnyS.any _ _ _ _ this)
end
def nthO : List Oper -> Nat -> Option Oper
 | [], _ => none
 | o :: _, 0 => some o
 | _ :: r, n + 1 => nthO r n
theorem nthO_get : ∀ (l : List Oper) (i : Nat), nthO l i = l[i]?
 | [], i => by simp [nthO]
 | v :: r, 0 => rfl
 | v :: r, i + 1 => by rw [List.getElem?_cons_succ]; exact nthO_get r i
def oAt (ops : Array Oper) (i : Nat) : Option Oper := nthO ops.toList i
theorem oAt_get {ops : Array Oper} {i : Nat} {o : Oper} (h : oAt ops i = some o) : ops[i]? = some o := by
 unfold oAt at h
 rw [nthO_get] at h
 simpa using h
section
variable {P : Program} {ops : Array Oper} {Q : Exit -> Act -> World -> Prop} {L0 : List Ent} {brk eff lds : List Nat} {i : Nat} {r : List Nat} {o : Oper} {a : Act} {S : List Nat} {w0 w : World} {L : List Ent} {R : List Rd}
structure Under (L0 : List Ent) (R0 : List Rd) (L : List Ent) (R : List Rd) : Prop where
 l : L0.Sublist L
 r : ∀ x ∈ R0, x ∈ R
theorem Under.up {R0 : List Rd} {x : Rd} (h : Under L0 R0 L R) : Under L0 R0 L (x :: R) := ⟨h.l, fun y hy => List.mem_cons_of_mem _ (h.r y hy)⟩
theorem Under.up3 {R0 : List Rd} {x y z : Rd} (h : Under L0 R0 L R) : Under L0 R0 L (x :: y :: z :: R) := h.up.up.up
abbrev SQ (P : Program) (ops : Array Oper) (Q : Exit -> Act -> World -> Prop) (L0 : List Ent) (R0 : List Rd) (brk eff lds : List Nat) : List Nat -> Act -> World -> Prop := Seq P ops Q (Kept L0 R0) brk eff lds
def NoLook (Q : Exit -> Act -> World -> Prop) : Prop := ∀ c a (k : Tmp) v w, Q (.panic c) (a.put (some k) v) w -> Q (.panic c) a w
theorem NoLook.all (h : NoLook Q) : ∀ c a d v w, Q (.panic c) (a.put d v) w -> Q (.panic c) a w := fun c a d v w hh => by
 cases d with
 | none => exact hh
 | some k => exact h c a k v w hh
theorem q_start {id : Nat} (k : Nat) (brk eff lds perm : List Nat) (X : St S w0 w L R) (hm : P.follows .mixedOrders = true) (hs : (Region.noSelect ops && (perm.length == ops.size && ordOk .any ops brk eff lds (Array.replicate ops.size false) perm)) = true) (hQ : NoLook Q)
    (h : NoLook Q -> St S w0 w.drew L R -> Under (L.take k) R L R -> SQ P ops Q (L.take k) R brk eff lds perm a w.drew) : (Code.region id ops true).wp P Q a w := wp_seq (L.take k) R brk eff lds perm hm hs (h hQ X.drew ⟨List.take_sublist _ _, fun _ h => h⟩)
theorem q_nil {R0 : List Rd} (h : Q .normal a w) : SQ P ops Q L0 R0 brk eff lds [] a w := h
theorem St.keeps {R0 : List Rd} (X : St S w0 w L R) (hL : Under L0 R0 L R) : Kept L0 R0 w := ⟨fun e he => X.blk e (hL.l.subset he), fun r hr => (X.rd r (hL.r r hr)).1⟩
theorem St.und {R0 : List Rd} (X : St S w0 w L R) (hL : Under L0 R0 L R) : Under L0 R0 L R := hL
variable {R0 : List Rd}
theorem q_eff (hi : oAt ops i = some o) (he : eff.contains i = true) (hw : Region.wanted o (yielded ops a.tmps) = true)
    (h : ∀ K : Act -> World -> Prop, (∀ b v, (brk.contains i = false -> Kept L0 R0 w -> Kept L0 R0 v) -> SQ P ops Q L0 R0 brk eff lds r b v -> K b v) -> o.wp P a w K Q) : SQ P ops Q L0 R0 brk eff lds (i :: r) a w := by
 unfold SQ Seq
 rw [if_pos he]
 unfold wpOp
 rw [oAt_get hi]
 simp only [hw, if_true]
 exact .inl (h _ fun b v h1 h2 => ⟨h1, h2⟩)
theorem q_read {v : Value} (hi : oAt ops i = some o) (he : (!eff.contains i && lds.contains i) = true) (hw : Region.wanted o (yielded ops a.tmps) = true) (X : St S w0 w L R) (hL : Under L0 R0 L R) (hQ : NoLook Q)
    (hv : ∀ w', Kept L0 R0 w' -> (execOp a.eval o).run P w' = .ok (.value v) w') (h : SQ P ops Q L0 R0 brk eff lds r (a.put o.dst v) w) : SQ P ops Q L0 R0 brk eff lds (i :: r) a w := by
 rw [Bool.and_eq_true, Bool.not_eq_true'] at he
 unfold SQ Seq
 rw [if_neg (by rw [he.1]; decide), if_pos he.2]
 exact ⟨o, v, oAt_get hi, .inl ⟨hw, hv⟩, X.keeps hL, fun c a w hh => hQ.all c a o.dst v w hh, h⟩
theorem q_skip (hi : oAt ops i = some o) (he : (!eff.contains i && !lds.contains i) = true) (hw : Region.wanted o (yielded ops a.tmps) = false) (hQ : NoLook Q)
    (h : SQ P ops Q L0 R0 brk eff lds r (a.put o.dst undef) w) : SQ P ops Q L0 R0 brk eff lds (i :: r) a w := by
 rw [Bool.and_eq_true, Bool.not_eq_true', Bool.not_eq_true'] at he
 unfold SQ Seq
 rw [if_neg (by rw [he.1]; decide), if_neg (by rw [he.2]; decide)]
 exact ⟨o, undef, oAt_get hi, .inr ⟨hw, rfl⟩, fun c a w hh => hQ.all c a o.dst undef w hh, h⟩
theorem q_pure {v : Value} (hi : oAt ops i = some o) (he : (!eff.contains i && !lds.contains i) = true) (hw : Region.wanted o (yielded ops a.tmps) = true) (hQ : NoLook Q)
    (hv : ∀ w', (execOp a.eval o).run P w' = .ok (.value v) w') (h : SQ P ops Q L0 R0 brk eff lds r (a.put o.dst v) w) : SQ P ops Q L0 R0 brk eff lds (i :: r) a w := by
 rw [Bool.and_eq_true, Bool.not_eq_true', Bool.not_eq_true'] at he
 unfold SQ Seq
 rw [if_neg (by rw [he.1]; decide), if_neg (by rw [he.2]; decide)]
 exact ⟨o, v, oAt_get hi, .inl ⟨hw, fun w' _ => hv w'⟩, fun c a w hh => hQ.all c a o.dst v w hh, h⟩
theorem q_move {x : Operand} {v : Value} (hi : oAt ops i = some o) (ho : o.op = .move x) (hx : EvR a x v) (he : (!eff.contains i && !lds.contains i) = true) (hw : Region.wanted o (yielded ops a.tmps) = true) (hQ : NoLook Q)
    (h : SQ P ops Q L0 R0 brk eff lds r (a.put o.dst v) w) : SQ P ops Q L0 R0 brk eff lds (i :: r) a w :=
 q_pure hi he hw hQ (fun w' => by unfold execOp; simp only [ho, hx.eval]; rfl) h
theorem q_assign {x : Operand} {v : Value} (hi : oAt ops i = some o) (ho : o.op = .assign x) (hx : EvR a x v) (he : (!eff.contains i && !lds.contains i) = true) (hw : Region.wanted o (yielded ops a.tmps) = true) (hQ : NoLook Q)
    (h : SQ P ops Q L0 R0 brk eff lds r (a.put o.dst v) w) : SQ P ops Q L0 R0 brk eff lds (i :: r) a w :=
 q_pure hi he hw hQ (fun w' => by unfold execOp; simp only [ho, hx.eval]; rfl) h
theorem q_nilCheck {x : Operand} {p : Addr} (hi : oAt ops i = some o) (ho : o.op = .nilCheck x) (hx : EvR a x (.pointer (some p))) (he : (!eff.contains i && !lds.contains i) = true) (hw : Region.wanted o (yielded ops a.tmps) = true) (hQ : NoLook Q)
    (h : SQ P ops Q L0 R0 brk eff lds r (a.put o.dst (.pointer (some p))) w) : SQ P ops Q L0 R0 brk eff lds (i :: r) a w :=
 q_pure hi he hw hQ (fun w' => by unfold execOp; simp only [ho, hx.eval]; rfl) h
theorem q_extract {x : Operand} {k : Nat} {vs : List Value} {v : Value} (hi : oAt ops i = some o) (ho : o.op = .extract x k) (hx : EvR a x (.tuple vs.toArray)) (hv : nth vs k = some v) (he : (!eff.contains i && !lds.contains i) = true) (hw : Region.wanted o (yielded ops a.tmps) = true) (hQ : NoLook Q)
    (h : SQ P ops Q L0 R0 brk eff lds r (a.put o.dst v) w) : SQ P ops Q L0 R0 brk eff lds (i :: r) a w :=
 q_pure hi he hw hQ (fun w' => by
  rw [nth_get] at hv
  unfold execOp; simp only [ho, hx.eval, Instr.extract]; simp [hv]) h
class FieldT (P : Program) (T : TypeId) (k : Nat) (d : outParam Nat) : Prop where
 at_ : ∀ (g i : Nat) (w : World), (Instr.fieldAt T (.pointer (some ⟨g, i, none⟩)) k).run P w = .ok (.pointer (some ⟨g, i + d, none⟩)) w
theorem q_field {x : Operand} {T : TypeId} {k d g n : Nat} (hi : oAt ops i = some o) (ho : o.op = .fieldAddr T x k) (hx : EvR a x (.pointer (some ⟨g, n, none⟩))) [hF : FieldT P T k d] (he : (!eff.contains i && !lds.contains i) = true) (hw : Region.wanted o (yielded ops a.tmps) = true) (hQ : NoLook Q)
    (h : SQ P ops Q L0 R0 brk eff lds r (a.put o.dst (.pointer (some ⟨g, n + d, none⟩))) w) : SQ P ops Q L0 R0 brk eff lds (i :: r) a w :=
 q_pure hi he hw hQ (fun w' => by unfold execOp; simp only [ho, hx.eval, Sem.run_bind, hF.at_, Result.andThen_ok, Sem.run_pure]) h
theorem q_load1 {x : Operand} {T : TypeId} {g n : Nat} (hi : oAt ops i = some o) (ho : o.op = .load T x) (hx : EvR a x (.pointer (some ⟨g, n, none⟩))) [OneT P T] {cs : List Value} {t : TypeId} (hm : ⟨g, cs, t⟩ ∈ L0) {v : Value} (hv : nth cs n = some v)
    (he : (!eff.contains i && lds.contains i) = true) (hw : Region.wanted o (yielded ops a.tmps) = true) (X : St S w0 w L R) (hL : Under L0 R0 L R) (hQ : NoLook Q)
    (h : SQ P ops Q L0 R0 brk eff lds r (a.put o.dst v) w) : SQ P ops Q L0 R0 brk eff lds (i :: r) a w :=
 q_read hi he hw X hL hQ (fun w' hw' => by
  have hc : w'.cell? ⟨g, n, none⟩ = some v := by rw [(hw'.l _ hm).cell n, <- hv, nth_get]; simp
  unfold execOp
  simp only [ho, hx.eval, Instr.loadAt, Instr.sureAddr, Sem.run_bind, Sem.run_pure, Result.andThen_ok, run_loadOne (T := T) hc]) h
theorem q_loadN {x : Operand} {T : TypeId} {g n m : Nat} (hi : oAt ops i = some o) (ho : o.op = .load T x) (hx : EvR a x (.pointer (some ⟨g, n, none⟩))) [hT : AggT P T m] {cs : List Value} {t : TypeId} (hm : ⟨g, cs, t⟩ ∈ L0) (hn : n + m <= cs.length)
    (he : (!eff.contains i && lds.contains i) = true) (hw : Region.wanted o (yielded ops a.tmps) = true) (X : St S w0 w L R) (hL : Under L0 R0 L R) (hQ : NoLook Q)
    (h : SQ P ops Q L0 R0 brk eff lds r (a.put o.dst (.agg ((cs.drop n).take m).toArray)) w) : SQ P ops Q L0 R0 brk eff lds (i :: r) a w :=
 q_read hi he hw X hL hQ (fun w' hw' => by
  obtain ⟨⟨d, hu, hd⟩, hs⟩ := hT
  have hr : (loadVar T ⟨g, n, none⟩).run P w' = .ok (.agg ((cs.drop n).take m).toArray) w' := run_loadVar_mid w' g n T ((cs.drop n).take m) d (fun j v hj => by
   rw [(hw'.l _ hm).cell]
   rw [List.getElem?_take] at hj
   split at hj
   ·rw [List.getElem?_drop] at hj; simpa using hj
   ·cases hj) hu hd (by rw [hs, List.length_take, List.length_drop]; congr 1; omega)
  unfold execOp
  simp only [ho, hx.eval, Instr.loadAt, Instr.sureAddr, Sem.run_bind, Sem.run_pure, Result.andThen_ok, hr]) h
theorem flat_nth {α : Type} {f : α -> List Value} {c : Nat} (hF : ∀ x, (f x).length = c) : ∀ {l : List α} {k d : Nat} (hk : k < l.length), d < c -> (l.flatMap f)[k * c + d]? = (f l[k])[d]?
 | x :: l, 0, d, hk, hd => by
  rw [List.flatMap_cons, Nat.zero_mul, Nat.zero_add, List.getElem?_append_left (by rw [hF]; exact hd)]; rfl
 | x :: l, k + 1, d, hk, hd => by
  rw [List.flatMap_cons, List.getElem?_append_right (by rw [hF, Nat.add_mul]; omega), hF, show (k + 1) * c + d - c = k * c + d by rw [Nat.add_mul]; omega]
  exact flat_nth hF (l := l) (Nat.lt_of_succ_lt_succ hk) hd
theorem Sl.elem {α : Type} {f : α -> List Value} {c : Nat} (hF : ∀ x, (f x).length = c) {w : World} {b off cap n k d : Nat} {l : List α} (h : Sl w (.slice (some ⟨b, off, none⟩) n cap) l.length (l.flatMap f)) (hk : k < l.length) (hd : d < c) : w.cell? ⟨b, off + k * c + d, none⟩ = (f l[k])[d]? := by
 have hfn := flat_nth hF (d := d) hk hd
 have hlt : d < (f l[k]).length := by rw [hF]; exact hd
 rw [List.getElem?_eq_getElem hlt] at hfn ⊢
 obtain ⟨a, cap', hv, h1, h2, h3⟩ := h
 rcases h3 with h3 | ⟨b', off', ha, hc⟩
 ·rw [h3] at hfn; cases hfn
 ·cases hv
  cases ha
  rw [Nat.add_assoc]
  exact hc _ _ hfn
theorem q_elemN {α : Type} {f : α -> List Value} {c : Nat} (hF : ∀ x, (f x).length = c) {l : List α} {k : Nat} (hk : k < l.length) {x : Operand} {T : TypeId} {b off cap n : Nat} (hi : oAt ops i = some o) (ho : o.op = .load T x) (hm : Rd.of f (.slice (some ⟨b, off, none⟩) n cap) l ∈ R0) (hx : EvR a x (.pointer (some ⟨b, off + k * c, none⟩))) [hT : AggT P T c]
    (he : (!eff.contains i && lds.contains i) = true) (hw : Region.wanted o (yielded ops a.tmps) = true) (X : St S w0 w L R) (hL : Under L0 R0 L R) (hQ : NoLook Q)
    (h : SQ P ops Q L0 R0 brk eff lds r (a.put o.dst (.agg (f l[k]).toArray)) w) : SQ P ops Q L0 R0 brk eff lds (i :: r) a w :=
 q_read hi he hw X hL hQ (fun w' hw' => by
  obtain ⟨⟨d, hu, hd⟩, hs⟩ := hT
  have hr : (loadVar T ⟨b, off + k * c, none⟩).run P w' = .ok (.agg (f l[k]).toArray) w' := run_loadVar_mid w' b (off + k * c) T (f l[k]) d (fun j v hj => by
   have hlt : j < c := by rw [<- hF l[k]]; exact (List.getElem?_eq_some_iff.1 hj).1
   rw [Sl.elem hF (hw'.r _ hm) hk hlt]; exact hj) hu hd (by rw [hs, hF])
  unfold execOp
  simp only [ho, hx.eval, Instr.loadAt, Instr.sureAddr, Sem.run_bind, Sem.run_pure, Result.andThen_ok, hr]) h
theorem q_call (f : FuncId) (xs : List Operand) (ts : Array TypeId) (hi : oAt ops i = some o) (ho : o.op = .call { callee := .value (.func f), args := xs.toArray, argTypes := ts }) (args : Array Value) (ha : (xs.map a.eval).toArray = args)
    (hb : ∃ fn c, P.funcs[f]? = some fn /\ (fn.name == "runtime.NumGoroutine") = false /\ fn.body = some c) (he : eff.contains i = true) (hw : Region.wanted o (yielded ops a.tmps) = true) {F : Ending -> World -> Prop}
    (h : Calls P f args w F) (hK : ∀ e w', F e w' -> ∃ v, e = .returned v /\ (brk.contains i = false -> Kept L0 R0 w -> Kept L0 R0 w') /\ SQ P ops Q L0 R0 brk eff lds r (a.put o.dst v) w') : SQ P ops Q L0 R0 brk eff lds (i :: r) a w :=
 q_eff hi he hw fun K hk => by
  subst ha
  obtain ⟨fn, c, h1, h2, h3⟩ := hb
  have hr : (execOp a.eval o).run P w = .ok (.enter f (xs.map a.eval).toArray) w := by
   unfold execOp
   simp [ho, resolve, invoke, Deferred.ofValue, Act.eval, run_enter h1 h2 h3]
  unfold Oper.wp
  rw [hr, Oper.upon_enter]
  exact h.mono fun e w' hF => by obtain ⟨v, rfl, hs, hq⟩ := hK e w' hF; exact hk _ _ hs hq
theorem q_store1 (A B : List Ent) {x y : Operand} {T : TypeId} {g n : Nat} {cs : List Value} {t : TypeId} (hi : oAt ops i = some o) (ho : o.op = .store T x y) (hx : EvR a x (.pointer (some ⟨g, n, none⟩))) [OneT P T] {v : Value} (hy : EvR a y v)
    (X : St S w0 w (A ++ ⟨g, cs, t⟩ :: B) R) (hn : n < cs.length) (h1 : v.oneCell' = true) (hc : v.cells = #[v]) (he : eff.contains i = true) (hw : Region.wanted o (yielded ops a.tmps) = true)
    (h : ∀ w', St S w0 w' (A ++ ⟨g, upd n [v] cs, t⟩ :: B) R -> (brk.contains i = false -> Kept L0 R0 w -> Kept L0 R0 w') /\ SQ P ops Q L0 R0 brk eff lds r (a.put o.dst undef) w') : SQ P ops Q L0 R0 brk eff lds (i :: r) a w :=
 q_eff hi he hw fun K hk => by
  have ht := X.there (g := g) (cs := cs) (t := t) (i := n) (n := 1) (by simp) (by omega)
  obtain ⟨h2, h3⟩ := h _ (by simpa using X.wrote A B n [v] (show n + 1 <= cs.length from hn))
  unfold Oper.wp execOp
  simp only [ho, hx.eval, hy.eval, Instr.storeAt, Instr.sureAddr, Sem.run_bind, Sem.run_pure, Result.andThen_ok, run_storeOne (T := T) ht h1 hc]
  exact hk _ _ h2 h3
theorem q_storeN (A B : List Ent) {x y : Operand} {T : TypeId} {g n m : Nat} {cs : List Value} {t : TypeId} (hi : oAt ops i = some o) (ho : o.op = .store T x y) (hx : EvR a x (.pointer (some ⟨g, n, none⟩))) [hT : AggT P T m] {vs : List Value} (hy : a.eval y = .agg vs.toArray)
    (X : St S w0 w (A ++ ⟨g, cs, t⟩ :: B) R) (hm : vs.length = m) (hn : n + vs.length <= cs.length) (h1 : vs.all (·.oneCell') = true) (he : eff.contains i = true) (hw : Region.wanted o (yielded ops a.tmps) = true)
    (h : ∀ w', St S w0 w' (A ++ ⟨g, upd n vs cs, t⟩ :: B) R -> (brk.contains i = false -> Kept L0 R0 w -> Kept L0 R0 w') /\ SQ P ops Q L0 R0 brk eff lds r (a.put o.dst undef) w') : SQ P ops Q L0 R0 brk eff lds (i :: r) a w :=
 q_eff hi he hw fun K hk => by
  obtain ⟨h2, h3⟩ := h _ (by simpa using X.wrote A B n vs hn)
  exact wp_store_mid T x y ho g n vs.toArray hx.eval hy (X.there (cs := cs) (t := t) (by simp) (by simpa using hn)) (by rw [hT.size]; simp [hm]) (by simpa using h1) (hk _ _ (by simpa using h2) (by simpa using h3))
theorem q_alloc {T : TypeId} (hi : oAt ops i = some o) (ho : o.op = .alloc T) {cs : List Value} [hT : ZeroT P T cs] (X : St S w0 w L R) (hL : Under L0 R0 L R) (he : eff.contains i = true) (hw : Region.wanted o (yielded ops a.tmps) = true)
    (h : ∀ g w', St S w0 w' (⟨g, cs, T⟩ :: L) R -> Under L0 R0 (⟨g, cs, T⟩ :: L) R -> SQ P ops Q L0 R0 brk eff lds r (a.put o.dst (.pointer (some ⟨g, 0, none⟩))) w') : SQ P ops Q L0 R0 brk eff lds (i :: r) a w :=
 q_eff hi he hw fun K hk => by
  have hz := hT.zero
  cases hq : P.info? T with
  | none => simp [hq] at hz
  | some x =>
   cases hs : x.zero with
   | none => simp [hq, hs] at hz
   | some z =>
    have hc : z.cells = cs.toArray := by simpa [hq, hs] using hz
    have hL' : Under L0 R0 ((⟨w.heap.size, cs, T⟩ : Ent) :: L) R := ⟨hL.l.cons _, hL.r⟩
    unfold Oper.wp execOp
    simp only [ho, Instr.alloc, zeroValue, typeInfo, newVar, newRow, newObj, Sem.run_bind, Sem.run_pure, Result.andThen_ok]
    simp [hq, hs, hc]
    exact hk _ _ (fun _ _ => (X.alloc cs T).keeps hL') (h _ _ (X.alloc cs T) hL')
end
section
variable {P : Program} {S : List Nat} {w0 w : World} {L : List Ent} {R : List Rd}
variable {ops : Array Oper} {Q : Exit -> Act -> World -> Prop} {L0 : List Ent} {R0 : List Rd} {brk eff lds r : List Nat} {a : Act} {i : Nat} {o : Oper}
theorem q_moveS {x : Operand} {v : Value} (hQ : NoLook Q) (h : SQ P ops Q L0 R0 brk eff lds r (a.put o.dst v) w) (hi : oAt ops i = some o := by rfl) (ho : o.op = .move x := by rfl) (hx : EvR a x v := by first | exact EvR.const _ | exact EvR.tmp rfl rfl) (he : (!eff.contains i && !lds.contains i) = true := by rfl) (hw : Region.wanted o (yielded ops a.tmps) = true := by rfl) :
    SQ P ops Q L0 R0 brk eff lds (i :: r) a w := q_move hi ho hx he hw hQ h
theorem q_assignS {x : Operand} {v : Value} (hQ : NoLook Q) (h : SQ P ops Q L0 R0 brk eff lds r (a.put o.dst v) w) (hi : oAt ops i = some o := by rfl) (ho : o.op = .assign x := by rfl) (hx : EvR a x v := by first | exact EvR.const _ | exact EvR.tmp rfl rfl) (he : (!eff.contains i && !lds.contains i) = true := by rfl) (hw : Region.wanted o (yielded ops a.tmps) = true := by rfl) :
    SQ P ops Q L0 R0 brk eff lds (i :: r) a w := q_assign hi ho hx he hw hQ h
theorem q_nilS {x : Operand} {p : Addr} (hQ : NoLook Q) (h : SQ P ops Q L0 R0 brk eff lds r (a.put o.dst (.pointer (some p))) w) (hi : oAt ops i = some o := by rfl) (ho : o.op = .nilCheck x := by rfl) (hx : EvR a x (.pointer (some p)) := by first | exact EvR.const _ | exact EvR.tmp rfl rfl) (he : (!eff.contains i && !lds.contains i) = true := by rfl) (hw : Region.wanted o (yielded ops a.tmps) = true := by rfl) :
    SQ P ops Q L0 R0 brk eff lds (i :: r) a w := q_nilCheck hi ho hx he hw hQ h
theorem q_fieldS {x : Operand} {T : TypeId} {k d g n : Nat} (hQ : NoLook Q) (h : SQ P ops Q L0 R0 brk eff lds r (a.put o.dst (.pointer (some ⟨g, n + d, none⟩))) w) (hi : oAt ops i = some o := by rfl) (ho : o.op = .fieldAddr T x k := by rfl) (hF : FieldT P T k d := by infer_instance) (hx : EvR a x (.pointer (some ⟨g, n, none⟩)) := by first | exact EvR.const _ | exact EvR.tmp rfl rfl) (he : (!eff.contains i && !lds.contains i) = true := by rfl) (hw : Region.wanted o (yielded ops a.tmps) = true := by rfl) :
    SQ P ops Q L0 R0 brk eff lds (i :: r) a w := q_field hi ho hx he hw hQ h
end
section
variable {P : Program} {ops : Array Oper} {Q : Exit -> Act -> World -> Prop} {md : Region.Mode} {S : World -> Prop} {brk eff lds : List Nat}
def endE (Q : Exit -> Act -> World -> Prop) (E : Act -> World -> Prop) : Exit -> Act -> World -> Prop
 | .normal => E
 | e => Q e
theorem wpOp_congQ {Q' : Exit -> Act -> World -> Prop} {i : Nat} {K : Act -> World -> Prop} {a : Act} {w : World} (hp : ∀ c, Q (.panic c) = Q' (.panic c)) (ho : Q .outgrown = Q' .outgrown) (h : wpOp P ops Q i K a w) : wpOp P ops Q' i K a w := by
 have hl : LetsOut Q = LetsOut Q' := by unfold LetsOut; rw [ho]
 unfold wpOp at *
 split
 ·simpa [*] using h
 ·rename_i o hoi
  simp only [hoi] at h
  split
  ·rename_i hw
   simp only [hw, if_true] at h
   refine h.imp (fun h => ?_) (fun h => ⟨h.1, hl ▸ h.2⟩)
   unfold Oper.wp at *
   generalize (execOp a.eval o).run P w = r at *
   cases r with
   | ok n w' =>
    cases n <;> simp only [Oper.upon] at h ⊢ <;> first | exact h | exact Calls.mono h (fun e w'' he => by cases e <;> first | exact he | (simp only [<- hp]; exact he) | (simp only [<- hl]; exact he))
   | halt x w' => cases x <;> simp only [Oper.upon] at h ⊢ <;> first | exact h | (rw [<- hp]; exact h)
  ·rename_i hw; simp only [hw] at h; exact h
def marks (x : Array Bool) : List Nat -> Array Bool
 | [] => x
 | i :: r => marks (x.setIfInBounds i true) r
def begOk (md : Region.Mode) (ops : Array Oper) (brk eff lds : List Nat) : Array Bool -> List Nat -> Bool
 | _, [] => true
 | x, i :: r => (if eff.contains i = true then Region.ready md ops x == [i] else (Region.ready md ops x).contains i && Region.free md ops x i && (!lds.contains i || brk.all (fun b => waitB md ops b i))) && begOk md ops brk eff lds (x.setIfInBounds i true) r
theorem Seq.anyE {E : Act -> World -> Prop} (hs : Region.noSelect ops = true) (n : Nat) : ∀ (r : List Nat) (x : Array Bool) (a : Act) (w : World), begOk md ops brk eff lds x r = true -> Seq P ops (endE Q E) S brk eff lds r a w -> (∀ b v, E b v -> AnyS P md ops Q S brk n (marks x r) b v) -> AnyS P md ops Q S brk (r.length + n) x a w
 | [], x, a, w, _, h, hE => by rw [List.length_nil, Nat.zero_add]; exact hE a w h
 | i :: r, x, a, w, hk, h, hE => by
  unfold begOk at hk
  rw [Bool.and_eq_true] at hk
  obtain ⟨h1, h2⟩ := hk
  unfold Seq at h
  rw [List.length_cons, Nat.add_right_comm]
  split at h
  ·rename_i he
   rw [if_pos he] at h1
   have hr : Region.ready md ops x = [i] := by simpa using h1
   refine ⟨fun e => (by rw [hr] at e; cases e), fun j hj => ?_⟩
   rw [hr] at hj
   obtain rfl : j = i := by simpa using hj
   exact wpOp_mono (fun b v hh => ⟨hh.1, Seq.anyE hs n r _ b v h2 hh.2 hE⟩) (wpOp_congQ (Q := endE Q E) (Q' := Q) (fun _ => rfl) rfl h)
  ·rename_i he
   rw [if_neg he, Bool.and_eq_true, Bool.and_eq_true] at h1
   obtain ⟨⟨h3, h4⟩, h5⟩ := h1
   split at h
   ·rename_i hl
    rw [hl, Bool.not_true, Bool.false_or] at h5
    obtain ⟨o, v, hi, hy, hS, hQ, hn⟩ := h
    exact AnyS.take (Q := Q) hi (Region.noSelect_spec hs) hQ (.inl ⟨rfl, h5⟩) (r.length + n) x a w (fun j oj hj hne hun hno => Region.free_spec hi h4 j oj hj hne hun hno) (by simpa using h3) hy hS (Seq.anyE hs n r _ _ _ h2 hn hE)
   ·obtain ⟨o, v, hi, hy, hQ, hn⟩ := h
    exact AnyS.take (Q := Q) hi (Region.noSelect_spec hs) hQ (.inr fun _ => trivial) (r.length + n) x a w (fun j oj hj hne hun hno => Region.free_spec hi h4 j oj hj hne hun hno) (by simpa using h3) hy trivial (Seq.anyE hs n r _ _ _ h2 hn hE)
inductive Tr where
 | fin (p : List Nat)
 | fork (p : List Nat) (t u : Tr)
def Tr.len : Tr -> Nat
 | .fin p => p.length
 | .fork p t _ => p.length + t.len
def Tr.head : Tr -> Option Nat
 | .fin p => p.head?
 | .fork p _ _ => p.head?
def SeqT (P : Program) (ops : Array Oper) (Q : Exit -> Act -> World -> Prop) (S : World -> Prop) (brk eff lds : List Nat) : Tr -> Act -> World -> Prop
 | .fin p, a, w => Seq P ops Q S brk eff lds p a w
 | .fork p t u, a, w => Seq P ops (endE Q fun a w => SeqT P ops Q S brk eff lds t a w /\ SeqT P ops Q S brk eff lds u a w) S brk eff lds p a w
def hdOk (md : Region.Mode) (ops : Array Oper) (brk eff lds : List Nat) (x : Array Bool) : List Nat -> Bool
 | [] => false
 | i :: r => eff.contains i && begOk md ops brk eff lds (x.setIfInBounds i true) r
def trOk (md : Region.Mode) (ops : Array Oper) (brk eff lds : List Nat) : Bool -> Array Bool -> Tr -> Bool
 | hd, x, .fin p => (if hd then hdOk md ops brk eff lds x p else begOk md ops brk eff lds x p) && (Region.ready md ops (marks x p)).isEmpty
 | hd, x, .fork p t u => (if hd then hdOk md ops brk eff lds x p else begOk md ops brk eff lds x p) &&
     ((t.head.toList ++ u.head.toList) == Region.ready md ops (marks x p) && (t.len == u.len && (trOk md ops brk eff lds true (marks x p) t && trOk md ops brk eff lds true (marks x p) u)))
def Shows (P : Program) (md : Region.Mode) (ops : Array Oper) (Q : Exit -> Act -> World -> Prop) (S : World -> Prop) (brk : List Nat) (hd : Bool) (n : Nat) (h : Option Nat) (x : Array Bool) (a : Act) (w : World) : Prop :=
 if hd then ∃ i m, h = some i /\ n = m + 1 /\ wpOp P ops Q i (fun b v => (brk.contains i = false -> S w -> S v) /\ AnyS P md ops Q S brk m (x.setIfInBounds i true) b v) a w else AnyS P md ops Q S brk n x a w
theorem Seq.shows {E : Act -> World -> Prop} (hs : Region.noSelect ops = true) (hd : Bool) (n : Nat) (p : List Nat) (x : Array Bool) (a : Act) (w : World)
    (hk : (if hd then hdOk md ops brk eff lds x p else begOk md ops brk eff lds x p) = true) (h : Seq P ops (endE Q E) S brk eff lds p a w) (hE : ∀ b v, E b v -> AnyS P md ops Q S brk n (marks x p) b v) :
    Shows P md ops Q S brk hd (p.length + n) p.head? x a w := by
 unfold Shows
 cases hd with
 | false => exact Seq.anyE hs n p x a w hk h hE
 | true =>
  cases p with
  | nil => cases hk
  | cons i r =>
   simp only [if_true] at hk ⊢
   unfold hdOk at hk
   rw [Bool.and_eq_true] at hk
   unfold Seq at h
   rw [if_pos hk.1] at h
   exact ⟨i, r.length + n, rfl, by rw [List.length_cons]; omega, wpOp_mono (fun b v hh => ⟨hh.1, Seq.anyE hs n r _ b v hk.2 hh.2 hE⟩) (wpOp_congQ (Q := endE Q E) (Q' := Q) (fun _ => rfl) rfl h)⟩
theorem endE_self : endE Q (Q .normal) = Q := by funext e; cases e <;> rfl
theorem SeqT.shows (hs : Region.noSelect ops = true) : ∀ (t : Tr) (hd : Bool) (x : Array Bool) (a : Act) (w : World), trOk md ops brk eff lds hd x t = true -> SeqT P ops Q S brk eff lds t a w -> Shows P md ops Q S brk hd t.len t.head x a w
 | .fin p, hd, x, a, w, hk, h => by
  unfold trOk at hk
  rw [Bool.and_eq_true] at hk
  unfold SeqT at h
  rw [<- endE_self (Q := Q)] at h
  exact Seq.shows hs hd 0 p x a w hk.1 h fun b v hb => ⟨List.isEmpty_iff.1 hk.2, hb⟩
 | .fork p t u, hd, x, a, w, hk, h => by
  unfold trOk at hk
  rw [Bool.and_eq_true, Bool.and_eq_true, Bool.and_eq_true, Bool.and_eq_true] at hk
  obtain ⟨h1, h2, h3, h4, h5⟩ := hk
  unfold SeqT at h
  refine Seq.shows hs hd t.len p x a w h1 h fun b v hb => ?_
  have ht := SeqT.shows hs t true _ b v h4 hb.1
  have hu := SeqT.shows hs u true _ b v h5 hb.2
  unfold Shows at ht hu
  rw [if_pos rfl] at ht hu
  obtain ⟨i, m, hi, hm, hwi⟩ := ht
  obtain ⟨j, k, hj, hk, hwj⟩ := hu
  have h6 : t.len = u.len := by simpa using h3
  obtain rfl : m = k := by omega
  rw [hi, hj] at h2
  have hr : Region.ready md ops (marks x p) = [i, j] := (show [i, j] = Region.ready md ops (marks x p) from beq_iff_eq.1 h2).symm
  rw [hm]
  refine ⟨fun e => (by rw [hr] at e; cases e), fun l hl => ?_⟩
  rw [hr] at hl
  rcases List.mem_cons.1 hl with rfl | hl
  ·exact hwi
  ·obtain rfl : l = j := by simpa using hl
   exact hwj
end
section
variable {P : Program} {ops : Array Oper} {Q : Exit -> Act -> World -> Prop} {L0 : List Ent} {brk eff lds : List Nat} {i : Nat} {r : List Nat} {o : Oper} {a : Act} {S : List Nat} {w0 w : World} {L : List Ent} {R R0 : List Rd}
abbrev SQT (P : Program) (ops : Array Oper) (Q : Exit -> Act -> World -> Prop) (L0 : List Ent) (R0 : List Rd) (brk eff lds : List Nat) : Tr -> Act -> World -> Prop := SeqT P ops Q (Kept L0 R0) brk eff lds
theorem q_tree {id : Nat} (k : Nat) (brk eff lds : List Nat) (t : Tr) (X : St S w0 w L R) (hm : P.follows .mixedOrders = true) (hs : (Region.noSelect ops && (t.len == ops.size && trOk .any ops brk eff lds false (Array.replicate ops.size false) t)) = true) (hQ : NoLook Q)
    (h : NoLook Q -> St S w0 w.drew L R -> Under (L.take k) R L R -> SQT P ops Q (L.take k) R brk eff lds t a w.drew) : (Code.region id ops true).wp P Q a w := by
 rw [Bool.and_eq_true, Bool.and_eq_true] at hs
 obtain ⟨h1, h2, h3⟩ := hs
 have := SeqT.shows h1 t false _ a _ h3 (h hQ X.drew ⟨List.take_sublist _ _, fun _ h => h⟩)
 unfold Shows at this
 rw [if_neg (by decide), show t.len = ops.size by simpa using h2] at this
 exact wp_region_any hm (AnyS.any _ _ _ _ this)
theorem NoLook.endE (h : NoLook Q) (E : Act -> World -> Prop) : NoLook (endE Q E) := h
theorem t_fork {p : List Nat} {t u : Tr} (h : NoLook (endE Q fun a w => SQT P ops Q L0 R0 brk eff lds t a w /\ SQT P ops Q L0 R0 brk eff lds u a w) -> SQ P ops (endE Q fun a w => SQT P ops Q L0 R0 brk eff lds t a w /\ SQT P ops Q L0 R0 brk eff lds u a w) L0 R0 brk eff lds p a w) (hQ : NoLook Q) : SQT P ops Q L0 R0 brk eff lds (.fork p t u) a w := h (hQ.endE _)
theorem t_fin {p : List Nat} (h : SQ P ops Q L0 R0 brk eff lds p a w) : SQT P ops Q L0 R0 brk eff lds (.fin p) a w := h
theorem t_two {A B : Act -> World -> Prop} (h1 : A a w) (h2 : B a w) : SQ P ops (endE Q fun a w => A a w /\ B a w) L0 R0 brk eff lds [] a w := ⟨h1, h2⟩
theorem q_skipL (hi : oAt ops i = some o) (he : (!eff.contains i && lds.contains i) = true) (hw : Region.wanted o (yielded ops a.tmps) = false) (X : St S w0 w L R) (hL : Under L0 R0 L R) (hQ : NoLook Q)
    (h : SQ P ops Q L0 R0 brk eff lds r (a.put o.dst undef) w) : SQ P ops Q L0 R0 brk eff lds (i :: r) a w := by
 rw [Bool.and_eq_true, Bool.not_eq_true'] at he
 unfold SQ Seq
 rw [if_neg (by rw [he.1]; decide), if_pos he.2]
 exact ⟨o, undef, oAt_get hi, .inr ⟨hw, rfl⟩, X.keeps hL, fun c a w hh => hQ.all c a o.dst undef w hh, h⟩
theorem q_put1 (A B : List Ent) {x y : Operand} {T : TypeId} {g n : Nat} {cs : List Value} {t : TypeId} (hi : oAt ops i = some o) (ho : o.op = .store T x y) (hx : EvR a x (.pointer (some ⟨g, n, none⟩))) [OneT P T] {v : Value} (hy : EvR a y v)
    (X : St S w0 w (A ++ ⟨g, cs, t⟩ :: B) R) (hn : n < cs.length) (h1 : v.oneCell' = true) (hc : v.cells = #[v]) (he : eff.contains i = true) (hw : Region.wanted o (yielded ops a.tmps) = true) (hL : Under L0 R0 (A ++ ⟨g, cs, t⟩ :: B) R) (hA : L0.Sublist (A ++ B))
    (h : ∀ w', St S w0 w' (A ++ ⟨g, upd n [v] cs, t⟩ :: B) R -> Under L0 R0 (A ++ ⟨g, upd n [v] cs, t⟩ :: B) R -> SQ P ops Q L0 R0 brk eff lds r (a.put o.dst undef) w') : SQ P ops Q L0 R0 brk eff lds (i :: r) a w :=
 q_store1 A B hi ho hx hy X hn h1 hc he hw fun w' X2 => by
  have h3 : Under L0 R0 (A ++ ⟨g, upd n [v] cs, t⟩ :: B) R := ⟨hA.trans (List.Sublist.append_left (List.sublist_cons_self _ _) _), hL.r⟩
  exact ⟨fun _ _ => X2.keeps h3, h w' X2 h3⟩
theorem q_putN (A B : List Ent) {x y : Operand} {T : TypeId} {g n m : Nat} {cs : List Value} {t : TypeId} (hi : oAt ops i = some o) (ho : o.op = .store T x y) (hx : EvR a x (.pointer (some ⟨g, n, none⟩))) [hT : AggT P T m] {vs : List Value} (hy : a.eval y = .agg vs.toArray)
    (X : St S w0 w (A ++ ⟨g, cs, t⟩ :: B) R) (hm : vs.length = m) (hn : n + vs.length <= cs.length) (h1 : vs.all (·.oneCell') = true) (he : eff.contains i = true) (hw : Region.wanted o (yielded ops a.tmps) = true) (hL : Under L0 R0 (A ++ ⟨g, cs, t⟩ :: B) R) (hA : L0.Sublist (A ++ B))
    (h : ∀ w', St S w0 w' (A ++ ⟨g, upd n vs cs, t⟩ :: B) R -> Under L0 R0 (A ++ ⟨g, upd n vs cs, t⟩ :: B) R -> SQ P ops Q L0 R0 brk eff lds r (a.put o.dst undef) w') : SQ P ops Q L0 R0 brk eff lds (i :: r) a w :=
 q_storeN A B hi ho hx hy X hm hn h1 he hw fun w' X2 => by
  have h3 : Under L0 R0 (A ++ ⟨g, upd n vs cs, t⟩ :: B) R := ⟨hA.trans (List.Sublist.append_left (List.sublist_cons_self _ _) _), hL.r⟩
  exact ⟨fun _ _ => X2.keeps h3, h w' X2 h3⟩
end
inductive ReadA : List Ent -> Nat -> Nat -> Value -> Prop where
 | here {g : Nat} {cs : List Value} {t : TypeId} {L : List Ent} {i : Nat} {v : Value} (h : nth cs i = some v) : ReadA (⟨g, cs, t⟩ :: L) g i v
 | there {e : Ent} {L : List Ent} {g i : Nat} {v : Value} (h : ReadA L g i v) : ReadA (e :: L) g i v
inductive ReadB : List Ent -> Nat -> Nat -> Nat -> List Value -> Prop where
 | here {g : Nat} {cs : List Value} {t : TypeId} {L : List Ent} {i n : Nat} (h : i + n <= cs.length) : ReadB (⟨g, cs, t⟩ :: L) g i n ((cs.drop i).take n)
 | there {e : Ent} {L : List Ent} {g i n : Nat} {vs : List Value} (h : ReadB L g i n vs) : ReadB (e :: L) g i n vs
inductive PutA : List Ent -> Nat -> Nat -> List Value -> List Ent -> List Ent -> Prop where
 | here {g : Nat} {cs : List Value} {t : TypeId} {L : List Ent} {i : Nat} {vs : List Value} (h : i + vs.length <= cs.length) : PutA (⟨g, cs, t⟩ :: L) g i vs (⟨g, upd i vs cs, t⟩ :: L) L
 | there {e : Ent} {L : List Ent} {g i : Nat} {vs : List Value} {L' B : List Ent} (h : PutA L g i vs L' B) : PutA (e :: L) g i vs (e :: L') (e :: B)
theorem ReadA.spec {L : List Ent} {g i : Nat} {v : Value} (h : ReadA L g i v) : ∃ cs t, (⟨g, cs, t⟩ : Ent) ∈ L /\ nth cs i = some v := by
 induction h with
 | here h => exact ⟨_, _, .head _, h⟩
 | there _ ih => obtain ⟨cs, t, h1, h2⟩ := ih; exact ⟨cs, t, .tail _ h1, h2⟩
theorem ReadB.spec {L : List Ent} {g i n : Nat} {vs : List Value} (h : ReadB L g i n vs) : ∃ cs t, (⟨g, cs, t⟩ : Ent) ∈ L /\ i + n <= cs.length /\ vs = (cs.drop i).take n := by
 induction h with
 | here h => exact ⟨_, _, .head _, h, rfl⟩
 | there _ ih => obtain ⟨cs, t, h1, h2⟩ := ih; exact ⟨cs, t, .tail _ h1, h2⟩
theorem PutA.spec {L : List Ent} {g i : Nat} {vs : List Value} {L' D : List Ent} (h : PutA L g i vs L' D) : ∃ A B cs t, L = A ++ ⟨g, cs, t⟩ :: B /\ L' = A ++ ⟨g, upd i vs cs, t⟩ :: B /\ D = A ++ B /\ i + vs.length <= cs.length := by
 induction h with
 | here h => exact ⟨[], _, _, _, rfl, rfl, rfl, h⟩
 | there _ ih => obtain ⟨A, B, cs, t, rfl, rfl, rfl, h⟩ := ih; exact ⟨_ :: A, B, cs, t, rfl, rfl, rfl, h⟩
section
variable {P : Program} {ops : Array Oper} {rest : List Oper} {o : Oper} {a : Act} {Q : Exit -> Act -> World -> Prop} {S : List Nat} {w0 w : World} {L : List Ent} {R : List Rd}
theorem c_load1 (hw : Region.wanted o (yielded ops a.tmps) = true) (T : TypeId) (x : Operand) (ho : o.op = .load T x) {g i : Nat} (hx : a.eval x = .pointer (some ⟨g, i, none⟩)) [OneT P T] (X : St S w0 w L R) {v : Value} (he : ReadA L g i v)
    (h : wpList P ops Q rest (a.put o.dst v) w) : wpList P ops Q (o :: rest) a w := by
 obtain ⟨cs, t, h1, h2⟩ := he.spec
 exact m_load1 hw T x ho hx X h1 h2 h
theorem c_loadN (hw : Region.wanted o (yielded ops a.tmps) = true) (T : TypeId) (x : Operand) (ho : o.op = .load T x) {g i : Nat} (hx : a.eval x = .pointer (some ⟨g, i, none⟩)) {n : Nat} [hT : AggT P T n] (X : St S w0 w L R) {vs : List Value} (he : ReadB L g i n vs)
    (h : wpList P ops Q rest (a.put o.dst (.agg vs.toArray)) w) : wpList P ops Q (o :: rest) a w := by
 obtain ⟨cs, t, h1, h2, rfl⟩ := he.spec
 exact m_loadN hw T x ho hx X h1 h2 h
theorem c_store1 (hw : Region.wanted o (yielded ops a.tmps) = true) (T : TypeId) (x y : Operand) (ho : o.op = .store T x y) {g i : Nat} (hx : a.eval x = .pointer (some ⟨g, i, none⟩)) [hT : OneT P T]
    {v : Value} (hy0 : EvR a y v) (X : St S w0 w L R) (h1 : v.oneCell' = true) (hc : v.cells = #[v]) {L' D : List Ent} (hp : PutA L g i [v] L' D)
    (h : ∀ w', St S w0 w' L' R -> wpList P ops Q rest (a.put o.dst undef) w') : wpList P ops Q (o :: rest) a w := by
 obtain ⟨A, B, cs, t, rfl, rfl, rfl, hi⟩ := hp.spec
 exact m_store1 A B hw T x y ho hx hy0 X hi h1 hc h
theorem c_storeN (hw : Region.wanted o (yielded ops a.tmps) = true) (T : TypeId) (x y : Operand) (ho : o.op = .store T x y) {g i : Nat} (hx : a.eval x = .pointer (some ⟨g, i, none⟩)) {n : Nat} [hT : AggT P T n]
    {vs : List Value} (hy : a.eval y = .agg vs.toArray) (X : St S w0 w L R) (hn : vs.length = n) (h1 : vs.all (·.oneCell') = true) {L' D : List Ent} (hp : PutA L g i vs L' D)
    (h : ∀ w', St S w0 w' L' R -> wpList P ops Q rest (a.put o.dst undef) w') : wpList P ops Q (o :: rest) a w := by
 obtain ⟨A, B, cs, t, rfl, rfl, rfl, hi⟩ := hp.spec
 exact m_storeN A B hw T x y ho hx hy X hn hi h1 h
end
section
variable {P : Program} {ops : Array Oper} {Q : Exit -> Act -> World -> Prop} {L0 : List Ent} {R0 : List Rd} {brk eff lds : List Nat} {i : Nat} {r : List Nat} {o : Oper} {a : Act} {S : List Nat} {w0 w : World} {L : List Ent} {R : List Rd}
theorem d_load1 {x : Operand} {T : TypeId} {g n : Nat} (hi : oAt ops i = some o) (ho : o.op = .load T x) (hx : EvR a x (.pointer (some ⟨g, n, none⟩))) [OneT P T] {v : Value} (hm : ReadA L0 g n v)
    (he : (!eff.contains i && lds.contains i) = true) (hw : Region.wanted o (yielded ops a.tmps) = true) (X : St S w0 w L R) (hL : Under L0 R0 L R) (hQ : NoLook Q)
    (h : SQ P ops Q L0 R0 brk eff lds r (a.put o.dst v) w) : SQ P ops Q L0 R0 brk eff lds (i :: r) a w := by
 obtain ⟨cs, t, h1, h2⟩ := hm.spec
 exact q_load1 hi ho hx h1 h2 he hw X hL hQ h
theorem d_loadN {x : Operand} {T : TypeId} {g n m : Nat} (hi : oAt ops i = some o) (ho : o.op = .load T x) (hx : EvR a x (.pointer (some ⟨g, n, none⟩))) [hT : AggT P T m] {vs : List Value} (hm : ReadB L0 g n m vs)
    (he : (!eff.contains i && lds.contains i) = true) (hw : Region.wanted o (yielded ops a.tmps) = true) (X : St S w0 w L R) (hL : Under L0 R0 L R) (hQ : NoLook Q)
    (h : SQ P ops Q L0 R0 brk eff lds r (a.put o.dst (.agg vs.toArray)) w) : SQ P ops Q L0 R0 brk eff lds (i :: r) a w := by
 obtain ⟨cs, t, h1, h2, rfl⟩ := hm.spec
 exact q_loadN hi ho hx h1 h2 he hw X hL hQ h
theorem d_brk1 {x y : Operand} {T : TypeId} {g n : Nat} (hi : oAt ops i = some o) (ho : o.op = .store T x y) (hx : EvR a x (.pointer (some ⟨g, n, none⟩))) [OneT P T] {v : Value} (hy : EvR a y v)
    (X : St S w0 w L R) (h1 : v.oneCell' = true) (hc : v.cells = #[v]) (he : eff.contains i = true) (hb : brk.contains i = true) (hw : Region.wanted o (yielded ops a.tmps) = true) {L' D : List Ent} (hp : PutA L g n [v] L' D)
    (h : ∀ w', St S w0 w' L' R -> SQ P ops Q L0 R0 brk eff lds r (a.put o.dst undef) w') : SQ P ops Q L0 R0 brk eff lds (i :: r) a w := by
 obtain ⟨A, B, cs, t, rfl, rfl, rfl, hn⟩ := hp.spec
 exact q_store1 A B hi ho hx hy X hn h1 hc he hw fun w' X2 => ⟨fun hb2 _ => (by rw [hb] at hb2; cases hb2), h w' X2⟩
theorem d_brkN {x y : Operand} {T : TypeId} {g n m : Nat} (hi : oAt ops i = some o) (ho : o.op = .store T x y) (hx : EvR a x (.pointer (some ⟨g, n, none⟩))) [hT : AggT P T m] {vs : List Value} (hy : a.eval y = .agg vs.toArray)
    (X : St S w0 w L R) (hm : vs.length = m) (h1 : vs.all (·.oneCell') = true) (he : eff.contains i = true) (hb : brk.contains i = true) (hw : Region.wanted o (yielded ops a.tmps) = true) {L' D : List Ent} (hp : PutA L g n vs L' D)
    (h : ∀ w', St S w0 w' L' R -> SQ P ops Q L0 R0 brk eff lds r (a.put o.dst undef) w') : SQ P ops Q L0 R0 brk eff lds (i :: r) a w := by
 obtain ⟨A, B, cs, t, rfl, rfl, rfl, hn⟩ := hp.spec
 exact q_storeN A B hi ho hx hy X hm hn h1 he hw fun w' X2 => ⟨fun hb2 _ => (by rw [hb] at hb2; cases hb2), h w' X2⟩
theorem d_put1 {x y : Operand} {T : TypeId} {g n : Nat} (hi : oAt ops i = some o) (ho : o.op = .store T x y) (hx : EvR a x (.pointer (some ⟨g, n, none⟩))) [OneT P T] {v : Value} (hy : EvR a y v)
    (X : St S w0 w L R) (h1 : v.oneCell' = true) (hc : v.cells = #[v]) (he : eff.contains i = true) (hw : Region.wanted o (yielded ops a.tmps) = true) (hL : Under L0 R0 L R) {L' D : List Ent} (hp : PutA L g n [v] L' D) (hA : L0.Sublist D)
    (h : ∀ w', St S w0 w' L' R -> Under L0 R0 L' R -> SQ P ops Q L0 R0 brk eff lds r (a.put o.dst undef) w') : SQ P ops Q L0 R0 brk eff lds (i :: r) a w := by
 obtain ⟨A, B, cs, t, rfl, rfl, rfl, hn⟩ := hp.spec
 exact q_put1 A B hi ho hx hy X hn h1 hc he hw hL hA h
theorem d_putN {x y : Operand} {T : TypeId} {g n m : Nat} (hi : oAt ops i = some o) (ho : o.op = .store T x y) (hx : EvR a x (.pointer (some ⟨g, n, none⟩))) [hT : AggT P T m] {vs : List Value} (hy : a.eval y = .agg vs.toArray)
    (X : St S w0 w L R) (hm : vs.length = m) (h1 : vs.all (·.oneCell') = true) (he : eff.contains i = true) (hw : Region.wanted o (yielded ops a.tmps) = true) (hL : Under L0 R0 L R) {L' D : List Ent} (hp : PutA L g n vs L' D) (hA : L0.Sublist D)
    (h : ∀ w', St S w0 w' L' R -> Under L0 R0 L' R -> SQ P ops Q L0 R0 brk eff lds r (a.put o.dst undef) w') : SQ P ops Q L0 R0 brk eff lds (i :: r) a w := by
 obtain ⟨A, B, cs, t, rfl, rfl, rfl, hn⟩ := hp.spec
 exact q_putN A B hi ho hx hy X hm hn h1 he hw hL hA h
end
section
variable {P : Program} {ops : Array Oper} {rest : List Oper} {o : Oper} {a : Act} {Q : Exit -> Act -> World -> Prop} {S : List Nat} {w0 w : World} {L : List Ent} {R : List Rd}
theorem c_load1S {T : TypeId} {x : Operand} {g i : Nat} (X : St S w0 w L R) {v : Value} (h : wpList P ops Q rest (a.put o.dst v) w) (hw : Region.wanted o (yielded ops a.tmps) = true := by rfl) (ho : o.op = .load T x := by rfl) (hT : OneT P T := by infer_instance) (hx : a.eval x = .pointer (some ⟨g, i, none⟩) := by rfl) (he : ReadA L g i v := by first | exact ReadA.here rfl | exact ReadA.there (ReadA.here rfl) | exact ReadA.there (ReadA.there (ReadA.here rfl)) | exact ReadA.there (ReadA.there (ReadA.there (ReadA.here rfl))) | exact ReadA.there (ReadA.there (ReadA.there (ReadA.there (ReadA.here rfl)))) | exact ReadA.there (ReadA.there (ReadA.there (ReadA.there (ReadA.there (ReadA.here rfl)))))) :
    wpList P ops Q (o :: rest) a w := c_load1 hw T x ho hx X he h
theorem c_loadNS {T : TypeId} {x : Operand} {g i n : Nat} (X : St S w0 w L R) {vs : List Value} (h : wpList P ops Q rest (a.put o.dst (.agg vs.toArray)) w) (hw : Region.wanted o (yielded ops a.tmps) = true := by rfl) (ho : o.op = .load T x := by rfl) (hT : AggT P T n := by infer_instance) (hx : a.eval x = .pointer (some ⟨g, i, none⟩) := by rfl) (he : ReadB L g i n vs := by first | exact ReadB.here (Nat.le_of_ble_eq_true rfl) | exact ReadB.there (ReadB.here (Nat.le_of_ble_eq_true rfl)) | exact ReadB.there (ReadB.there (ReadB.here (Nat.le_of_ble_eq_true rfl))) | exact ReadB.there (ReadB.there (ReadB.there (ReadB.here (Nat.le_of_ble_eq_true rfl)))) | exact ReadB.there (ReadB.there (ReadB.there (ReadB.there (ReadB.here (Nat.le_of_ble_eq_true rfl))))) | exact ReadB.there (ReadB.there (ReadB.there (ReadB.there (ReadB.there (ReadB.here (Nat.le_of_ble_eq_true rfl))))))) :
    wpList P ops Q (o :: rest) a w := c_loadN hw T x ho hx X he h
theorem c_store1S {T : TypeId} {x y : Operand} {g i : Nat} {v : Value} (X : St S w0 w L R) {L' D : List Ent} (h : ∀ w', St S w0 w' L' R -> wpList P ops Q rest (a.put o.dst undef) w') (hw : Region.wanted o (yielded ops a.tmps) = true := by rfl) (ho : o.op = .store T x y := by rfl) (hT : OneT P T := by infer_instance) (hx : a.eval x = .pointer (some ⟨g, i, none⟩) := by rfl) (hy0 : EvR a y v := by first | exact EvR.const _ | exact EvR.tmp rfl rfl) (h1 : v.oneCell' = true := by rfl) (hc : v.cells = #[v] := by rfl) (hp : PutA L g i [v] L' D := by first | exact PutA.here (Nat.le_of_ble_eq_true rfl) | exact PutA.there (PutA.here (Nat.le_of_ble_eq_true rfl)) | exact PutA.there (PutA.there (PutA.here (Nat.le_of_ble_eq_true rfl))) | exact PutA.there (PutA.there (PutA.there (PutA.here (Nat.le_of_ble_eq_true rfl)))) | exact PutA.there (PutA.there (PutA.there (PutA.there (PutA.here (Nat.le_of_ble_eq_true rfl))))) | exact PutA.there (PutA.there (PutA.there (PutA.there (PutA.there (PutA.here (Nat.le_of_ble_eq_true rfl))))))) :
    wpList P ops Q (o :: rest) a w := c_store1 hw T x y ho hx hy0 X h1 hc hp h
theorem c_storeNS {T : TypeId} {x y : Operand} {g i n : Nat} {vs : List Value} (X : St S w0 w L R) {L' D : List Ent} (h : ∀ w', St S w0 w' L' R -> wpList P ops Q rest (a.put o.dst undef) w') (hw : Region.wanted o (yielded ops a.tmps) = true := by rfl) (ho : o.op = .store T x y := by rfl) (hT : AggT P T n := by infer_instance) (hx : a.eval x = .pointer (some ⟨g, i, none⟩) := by rfl) (hy : a.eval y = .agg vs.toArray := by rfl) (hn : vs.length = n := by rfl) (h1 : vs.all (·.oneCell') = true := by rfl) (hp : PutA L g i vs L' D := by first | exact PutA.here (Nat.le_of_ble_eq_true rfl) | exact PutA.there (PutA.here (Nat.le_of_ble_eq_true rfl)) | exact PutA.there (PutA.there (PutA.here (Nat.le_of_ble_eq_true rfl))) | exact PutA.there (PutA.there (PutA.there (PutA.here (Nat.le_of_ble_eq_true rfl)))) | exact PutA.there (PutA.there (PutA.there (PutA.there (PutA.here (Nat.le_of_ble_eq_true rfl))))) | exact PutA.there (PutA.there (PutA.there (PutA.there (PutA.there (PutA.here (Nat.le_of_ble_eq_true rfl))))))) :
    wpList P ops Q (o :: rest) a w := c_storeN hw T x y ho hx hy X hn h1 hp h
end
section
variable {P : Program} {ops : Array Oper} {Q : Exit -> Act -> World -> Prop} {L0 : List Ent} {R0 : List Rd} {brk eff lds : List Nat} {i : Nat} {r : List Nat} {o : Oper} {a : Act} {S : List Nat} {w0 w : World} {L : List Ent} {R : List Rd}
theorem d_load1S {x : Operand} {T : TypeId} {g n : Nat} {v : Value} (X : St S w0 w L R) (hL : Under L0 R0 L R) (hQ : NoLook Q) (h : SQ P ops Q L0 R0 brk eff lds r (a.put o.dst v) w) (hi : oAt ops i = some o := by rfl) (ho : o.op = .load T x := by rfl) (hT : OneT P T := by infer_instance) (hx : EvR a x (.pointer (some ⟨g, n, none⟩)) := by first | exact EvR.const _ | exact EvR.tmp rfl rfl) (hm : ReadA L0 g n v := by repeat (first | exact ReadA.here rfl | apply ReadA.there)) (he : (!eff.contains i && lds.contains i) = true := by rfl) (hw : Region.wanted o (yielded ops a.tmps) = true := by rfl) :
    SQ P ops Q L0 R0 brk eff lds (i :: r) a w := d_load1 hi ho hx hm he hw X hL hQ h
theorem d_loadNS {x : Operand} {T : TypeId} {g n m : Nat} {vs : List Value} (X : St S w0 w L R) (hL : Under L0 R0 L R) (hQ : NoLook Q) (h : SQ P ops Q L0 R0 brk eff lds r (a.put o.dst (.agg vs.toArray)) w) (hi : oAt ops i = some o := by rfl) (ho : o.op = .load T x := by rfl) (hT : AggT P T m := by infer_instance) (hx : EvR a x (.pointer (some ⟨g, n, none⟩)) := by first | exact EvR.const _ | exact EvR.tmp rfl rfl) (hm : ReadB L0 g n m vs := by repeat (first | exact ReadB.here (Nat.le_of_ble_eq_true rfl) | apply ReadB.there)) (he : (!eff.contains i && lds.contains i) = true := by rfl) (hw : Region.wanted o (yielded ops a.tmps) = true := by rfl) :
    SQ P ops Q L0 R0 brk eff lds (i :: r) a w := d_loadN hi ho hx hm he hw X hL hQ h
theorem d_brk1S {x y : Operand} {T : TypeId} {g n : Nat} {v : Value} (X : St S w0 w L R) {L' D : List Ent} (h : ∀ w', St S w0 w' L' R -> SQ P ops Q L0 R0 brk eff lds r (a.put o.dst undef) w') (hi : oAt ops i = some o := by rfl) (ho : o.op = .store T x y := by rfl) (hT : OneT P T := by infer_instance) (hx : EvR a x (.pointer (some ⟨g, n, none⟩)) := by first | exact EvR.const _ | exact EvR.tmp rfl rfl) (hy : EvR a y v := by first | exact EvR.const _ | exact EvR.tmp rfl rfl) (h1 : v.oneCell' = true := by rfl) (hc : v.cells = #[v] := by rfl) (he : eff.contains i = true := by rfl) (hb : brk.contains i = true := by rfl) (hw : Region.wanted o (yielded ops a.tmps) = true := by rfl) (hp : PutA L g n [v] L' D := by repeat (first | exact PutA.here (Nat.le_of_ble_eq_true rfl) | apply PutA.there)) :
    SQ P ops Q L0 R0 brk eff lds (i :: r) a w := d_brk1 hi ho hx hy X h1 hc he hb hw hp h
theorem d_brkNS {x y : Operand} {T : TypeId} {g n m : Nat} {vs : List Value} (X : St S w0 w L R) {L' D : List Ent} (h : ∀ w', St S w0 w' L' R -> SQ P ops Q L0 R0 brk eff lds r (a.put o.dst undef) w') (hi : oAt ops i = some o := by rfl) (ho : o.op = .store T x y := by rfl) (hT : AggT P T m := by infer_instance) (hx : EvR a x (.pointer (some ⟨g, n, none⟩)) := by first | exact EvR.const _ | exact EvR.tmp rfl rfl) (hy : a.eval y = .agg vs.toArray := by rfl) (hm : vs.length = m := by rfl) (h1 : vs.all (·.oneCell') = true := by rfl) (he : eff.contains i = true := by rfl) (hb : brk.contains i = true := by rfl) (hw : Region.wanted o (yielded ops a.tmps) = true := by rfl) (hp : PutA L g n vs L' D := by repeat (first | exact PutA.here (Nat.le_of_ble_eq_true rfl) | apply PutA.there)) :
    SQ P ops Q L0 R0 brk eff lds (i :: r) a w := d_brkN hi ho hx hy X hm h1 he hb hw hp h
theorem d_put1S {x y : Operand} {T : TypeId} {g n : Nat} {v : Value} (X : St S w0 w L R) (hL : Under L0 R0 L R) {L' D : List Ent} (h : ∀ w', St S w0 w' L' R -> Under L0 R0 L' R -> SQ P ops Q L0 R0 brk eff lds r (a.put o.dst undef) w') (hi : oAt ops i = some o := by rfl) (ho : o.op = .store T x y := by rfl) (hT : OneT P T := by infer_instance) (hx : EvR a x (.pointer (some ⟨g, n, none⟩)) := by first | exact EvR.const _ | exact EvR.tmp rfl rfl) (hy : EvR a y v := by first | exact EvR.const _ | exact EvR.tmp rfl rfl) (h1 : v.oneCell' = true := by rfl) (hc : v.cells = #[v] := by rfl) (he : eff.contains i = true := by rfl) (hw : Region.wanted o (yielded ops a.tmps) = true := by rfl) (hp : PutA L g n [v] L' D := by repeat (first | exact PutA.here (Nat.le_of_ble_eq_true rfl) | apply PutA.there)) (hA : L0.Sublist D := by repeat (first | exact List.Sublist.slnil | exact List.nil_sublist _ | refine List.Sublist.cons_cons _ ?_ | refine List.Sublist.cons _ ?_)) :
    SQ P ops Q L0 R0 brk eff lds (i :: r) a w := d_put1 hi ho hx hy X h1 hc he hw hL hp hA h
theorem d_putNS {x y : Operand} {T : TypeId} {g n m : Nat} {vs : List Value} (X : St S w0 w L R) (hL : Under L0 R0 L R) {L' D : List Ent} (h : ∀ w', St S w0 w' L' R -> Under L0 R0 L' R -> SQ P ops Q L0 R0 brk eff lds r (a.put o.dst undef) w') (hi : oAt ops i = some o := by rfl) (ho : o.op = .store T x y := by rfl) (hT : AggT P T m := by infer_instance) (hx : EvR a x (.pointer (some ⟨g, n, none⟩)) := by first | exact EvR.const _ | exact EvR.tmp rfl rfl) (hy : a.eval y = .agg vs.toArray := by rfl) (hm : vs.length = m := by rfl) (h1 : vs.all (·.oneCell') = true := by rfl) (he : eff.contains i = true := by rfl) (hw : Region.wanted o (yielded ops a.tmps) = true := by rfl) (hp : PutA L g n vs L' D := by repeat (first | exact PutA.here (Nat.le_of_ble_eq_true rfl) | apply PutA.there)) (hA : L0.Sublist D := by repeat (first | exact List.Sublist.slnil | exact List.nil_sublist _ | refine List.Sublist.cons_cons _ ?_ | refine List.Sublist.cons _ ?_)) :
    SQ P ops Q L0 R0 brk eff lds (i :: r) a w := d_putN hi ho hx hy X hm h1 he hw hL hp hA h
end
theorem Zra {A : Prop} (h : A := by repeat (first | exact ReadA.here rfl | apply ReadA.there)) : A := h
theorem Zrb {A : Prop} (h : A := by repeat (first | exact ReadB.here (Nat.le_of_ble_eq_true rfl) | apply ReadB.there)) : A := h
theorem Zpa {A : Prop} (h : A := by repeat (first | exact PutA.here (Nat.le_of_ble_eq_true rfl) | apply PutA.there)) : A := h
theorem Zrc {A : Prop} (h : A := by first | exact ReadA.here rfl | exact ReadA.there (ReadA.here rfl)) : A := h
theorem Zrd {A : Prop} (h : A := by first | exact ReadB.here (Nat.le_of_ble_eq_true rfl) | exact ReadB.there (ReadB.here (Nat.le_of_ble_eq_true rfl))) : A := h
theorem Zpb {A : Prop} (h : A := by first | exact PutA.here (Nat.le_of_ble_eq_true rfl) | exact PutA.there (PutA.here (Nat.le_of_ble_eq_true rfl))) : A := h
theorem Zsu {A : Prop} (h : A := by repeat (first | exact List.Sublist.slnil | exact List.nil_sublist _ | refine List.Sublist.cons_cons _ ?_ | refine List.Sublist.cons _ ?_)) : A := h
theorem Zsn {A : Prop} (h : A := by repeat (first | exact List.nil_sublist _ | refine List.Sublist.cons_cons _ ?_ | refine List.Sublist.cons _ ?_)) : A := h
theorem Zpv {A : Prop} (h : A := by first | exact PutA.here (by (try simp only [List.length_cons, List.length_nil]); omega) | exact PutA.there (PutA.here (by (try simp only [List.length_cons, List.length_nil]); omega)) | exact PutA.there (PutA.there (PutA.here (by (try simp only [List.length_cons, List.length_nil]); omega))) | exact PutA.there (PutA.there (PutA.there (PutA.here (by (try simp only [List.length_cons, List.length_nil]); omega))))) : A := h
section
variable {P : Program} {ops : Array Oper} {Q : Exit -> Act -> World -> Prop} {L0 : List Ent} {brk eff lds : List Nat} {i : Nat} {r : List Nat} {o : Oper} {a : Act} {S : List Nat} {w0 w : World} {L : List Ent} {R R0 : List Rd}
theorem q_startS {id : Nat} (k : Nat) (brk eff lds perm : List Nat) (X : St S w0 w L R)
    (h : NoLook Q -> St S w0 w.drew L R -> Under (L.take k) R L R -> SQ P ops Q (L.take k) R brk eff lds perm a w.drew) (hm : P.follows .mixedOrders = true := by kernel_rfl) (hs : (Region.noSelect ops && (perm.length == ops.size && ordOk .any ops brk eff lds (Array.replicate ops.size false) perm)) = true := by kernel_rfl) (hQ : NoLook Q := by exact fun _ _ _ _ _ h => h) : (Code.region id ops true).wp P Q a w := q_start k brk eff lds perm X hm hs hQ h
theorem q_treeS {id : Nat} (k : Nat) (brk eff lds : List Nat) (t : Tr) (X : St S w0 w L R)
    (h : NoLook Q -> St S w0 w.drew L R -> Under (L.take k) R L R -> SQT P ops Q (L.take k) R brk eff lds t a w.drew) (hm : P.follows .mixedOrders = true := by kernel_rfl) (hs : (Region.noSelect ops && (t.len == ops.size && trOk .any ops brk eff lds false (Array.replicate ops.size false) t)) = true := by kernel_rfl) (hQ : NoLook Q := by exact fun _ _ _ _ _ h => h) : (Code.region id ops true).wp P Q a w := q_tree k brk eff lds t X hm hs hQ h
theorem q_callS (f : FuncId) {xs : List Operand} {ts : Array TypeId} {args : Array Value} {fn : Func} {c : Code} (hf : P.funcs[f]? = some fn) {F : Ending -> World -> Prop} (h : Calls P f args w F)
    (hK : ∀ e w', F e w' -> ∃ v, e = .returned v /\ (brk.contains i = false -> Kept L0 R0 w -> Kept L0 R0 w') /\ SQ P ops Q L0 R0 brk eff lds r (a.put o.dst v) w')
    (hi : oAt ops i = some o := by rfl) (ho : o.op = .call { callee := .value (.func f), args := xs.toArray, argTypes := ts } := by rfl) (ha : (xs.map a.eval).toArray = args := by rfl) (hn : (fn.name == "runtime.NumGoroutine") = false := by kernel_rfl) (hb : fn.body = some c := by rfl) (he : eff.contains i = true := by rfl) (hw : Region.wanted o (yielded ops a.tmps) = true := by rfl) : SQ P ops Q L0 R0 brk eff lds (i :: r) a w :=
 q_call f xs ts hi ho args ha ⟨fn, c, hf, hn, hb⟩ he hw h hK
end
theorem Zm {A B : Prop} (k : B) (h : B -> A := by intro k; (refine q_moveS hQ ?_; (simp only [Act.put, zA, zB, zC, zD, zE, zF, zG, Nat.reduceAdd])); exact k) : A := h k
theorem Za {A B : Prop} (k : B) (h : B -> A := by intro k; (refine q_assignS hQ ?_; (simp only [Act.put, zA, zB, zC, zD, zE, zF, zG, Nat.reduceAdd])); exact k) : A := h k
theorem Zn {A B : Prop} (k : B) (h : B -> A := by intro k; (refine q_nilS hQ ?_; (simp only [Act.put, zA, zB, zC, zD, zE, zF, zG, Nat.reduceAdd])); exact k) : A := h k
theorem Zf {A B : Prop} (k : B) (h : B -> A := by intro k; (refine q_fieldS hQ ?_; (simp only [Act.put, zA, zB, zC, zD, zE, zF, zG, Nat.reduceAdd])); exact k) : A := h k
theorem Zx {A B : Prop} (k : B) (h : B -> A := by intro k; (refine q_extract rfl rfl Zev rfl rfl rfl hQ ?_; (simp only [Act.put, zA, zB, zC, zD, zE, zF, zG, Nat.reduceAdd])); exact k) : A := h k
theorem Zg {A B : Prop} (k : B) (h : B -> A := by intro k; (apply q_pure rfl rfl rfl hQ; (case hv => (intro w'; (try go_simp); (try exact rfl))); (simp only [Act.put, zA, zB, zC, zD, zE, zF, zG, Nat.reduceAdd])); exact k) : A := h k
theorem Zl {A B : Prop} (k : B) (h : B -> A := by intro k; ((first | refine d_load1S X hL hQ ?_ | refine d_loadNS X hL hQ ?_); (simp only [Act.put, zA, zB, zC, zD, zE, zF, zG, Nat.reduceAdd])); exact k) : A := h k
theorem Zk {A B : Prop} (k : B) (h : B -> A := by intro k; (first | (refine q_skip rfl rfl rfl hQ ?_; (simp only [Act.put, zA, zB, zC, zD, zE, zF, zG, Nat.reduceAdd])) | (refine q_skipE rfl rfl rfl ?_; (simp only [Act.put, zA, zB, zC, zD, zE, zF, zG, Nat.reduceAdd])) | (refine q_skipL rfl rfl rfl X hL hQ ?_; (simp only [Act.put, zA, zB, zC, zD, zE, zF, zG, Nat.reduceAdd]))); exact k) : A := h k
theorem Zb {A B : Prop} (k : B) (h : B -> A := by intro k; ((first | refine d_brk1S X ?_ | refine d_brkNS X ?_); intro w X2; (try simp only [upd] at X2); (simp only [Act.put, zA, zB, zC, zD, zE, zF, zG, Nat.reduceAdd]); revert X2; revert w); exact k) : A := h k
theorem Zs {A B : Prop} (k : B) (h : B -> A := by intro k; ((first | refine d_put1S X hL ?_ | refine d_putNS X hL ?_); intro w X2 hL2; (try simp only [upd] at X2); (try simp only [upd] at hL2); (simp only [Act.put, zA, zB, zC, zD, zE, zF, zG, Nat.reduceAdd]); revert hL2; revert X2; revert w); exact k) : A := h k
theorem Zq {A B : Prop} (k : B) (h : B -> A := by intro k; (refine q_alloc rfl rfl X hL rfl rfl ?_; intro g w X2 hL2; (simp only [Act.put, zA, zB, zC, zD, zE, zF, zG, Nat.reduceAdd]); revert hL2; revert X2; revert g w); exact k) : A := h k
theorem Zbx {A B : Prop} (k : B) (h : B -> A := by intro k; (refine at_mem rfl ?_; refine m_box rfl _ _ rfl Zev rfl X ?_; intro g w X2; (simp only [Act.put, zA, zB, zC, zD, zE, zF, zG, Nat.reduceAdd]); revert X2; revert g w); exact k) : A := h k
theorem Zce {A B : Prop} (k : B) (h : B -> A := by intro k; ((have hL2 := X.und (by first | exact hL | exact hL.up | exact hL.up3 | exact hL.up.up)); refine ⟨_, rfl, fun _ _ => X.keeps hL2, ?_⟩; (simp only [Act.put, zA, zB, zC, zD, zE, zF, zG, Nat.reduceAdd]); revert hL2); exact k) : A := h k
theorem ZcL {A B : Prop} (k : B) (h : B -> A := by intro k; (refine at_mem rfl ?_; (refine at_load rfl ?_; (first | refine c_load1 rfl _ _ rfl rfl X Zra ?_ | refine c_loadN rfl _ _ rfl rfl X Zrb ?_)); (simp only [Act.put, zA, zB, zC, zD, zE, zF, zG, Nat.reduceAdd])); exact k) : A := h k
theorem ZcS {A B : Prop} (k : B) (h : B -> A := by intro k; (refine at_mem rfl ?_; (refine at_store rfl ?_; (first | refine c_store1 rfl _ _ _ rfl rfl Zev X rfl rfl Zpa ?_ | refine c_storeN rfl _ _ _ rfl rfl rfl X rfl rfl Zpa ?_)); intro w X2; (try simp only [upd] at X2); (simp only [Act.put, zA, zB, zC, zD, zE, zF, zG, Nat.reduceAdd]); revert X2; revert w); exact k) : A := h k
theorem ZcA {A B : Prop} (k : B) (h : B -> A := by intro k; (refine at_mem rfl ?_; (first | refine m_alloc rfl _ rfl X ?_ | refine m_box rfl _ _ rfl Zev rfl X ?_); intro g w X2; (simp only [Act.put, zA, zB, zC, zD, zE, zF, zG, Nat.reduceAdd]); revert X2; revert g w); exact k) : A := h k
theorem ZeL {A B : Prop} (k : B) (h : B -> A := by intro k; (refine at_mem rfl ?_; (refine at_load rfl ?_; (first | refine c_load1 rfl _ _ rfl rfl X Zrc ?_ | refine c_loadN rfl _ _ rfl rfl X Zrd ?_)); (simp only [Act.put, zA, zB, zC, zD, zE, zF, zG, Nat.reduceAdd])); exact k) : A := h k
theorem ZeS {A B : Prop} (k : B) (h : B -> A := by intro k; (refine at_mem rfl ?_; (refine at_store rfl ?_; (first | refine c_store1 rfl _ _ _ rfl rfl Zev X rfl rfl Zpb ?_ | refine c_storeN rfl _ _ _ rfl rfl rfl X rfl rfl Zpb ?_)); intro w X2; (try simp only [upd] at X2); (simp only [Act.put, zA, zB, zC, zD, zE, zF, zG, Nat.reduceAdd]); revert X2; revert w); exact k) : A := h k
theorem ZeA {A B : Prop} (k : B) (h : B -> A := by intro k; (refine at_mem rfl ?_; refine m_alloc rfl _ rfl X ?_; intro g w X2; (simp only [Act.put, zA, zB, zC, zD, zE, zF, zG, Nat.reduceAdd]); revert X2; revert g w); exact k) : A := h k
end Wb
