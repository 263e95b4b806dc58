/- Part of the proof: Bytes. -/
import Derived.Test.YtjhmfljlclajnacDoorUBase
set_option linter.unusedVariables false
set_option linter.unusedSimpArgs false
namespace Wb
open Go Go.RowKit
theorem ret_st {x : Value} {a b : ByteArray} (h : a = b) : Ending.returned (.tuple #[.string a, x]) = .returned (.tuple #[.string b, x]) := by rw [h]
def byteC (b : UInt8) : List Value := [.int .u8 b.toNat]
theorem byteC_flat : Flat byteC 1 := ⟨fun _ => rfl, fun _ u hu => by simp [byteC] at hu; subst hu; rfl, by decide⟩
def str (bs : List UInt8) : ByteArray := ⟨bs.toArray⟩
theorem str_size (bs : List UInt8) : (str bs).size = bs.length := by simp [str, ByteArray.size]
theorem str_toList (s : ByteArray) : str s.data.toList = s := by cases s; simp [str]
theorem foldl_push (ns : List UInt8) : ∀ (s : ByteArray), ((ns.map fun b => ((b.toNat : Nat) : Int)).foldl (fun r n => r.push (UInt8.ofNat n.toNat)) s) = ⟨s.data ++ ns.toArray⟩ := by
 induction ns with
 | nil => intro s; simp
 | cons b ns ih =>
  intro s
  simp only [List.map_cons, List.foldl_cons]
  rw [ih]
  simp [ByteArray.push]
theorem flat_bytes (bs : List UInt8) : bs.flatMap byteC = (bs.map fun b => ((b.toNat : Nat) : Int)).map (Value.int .u8) := by
 induction bs with
 | nil => rfl
 | cons x bs ih => rw [List.flatMap_cons, ih]; rfl
theorem run_toString {P : Program} {w : World} {src dst e : TypeId} {v : Value} (bs : List UInt8) (hs : P.underlying src = some (.slice e)) (he : P.underlying e = some (.int .u8)) (hd : P.underlying dst = some .string)
    (hr : RL byteC w v bs) : (convert src dst v).run P w = .ok (.string (str bs)) w := by
 obtain ⟨a, cap, rfl, h1, h2, h3⟩ := hr
 rw [run_convert_bytes_string w src dst e a _ cap hs he hd]
 have hl := flat_len (f := byteC) (fun _ => rfl) bs
 rcases h3 with h3 | ⟨b, off, rfl, hc⟩
 ·rw [h3] at hl
  have hb : bs = [] := List.eq_nil_of_length_eq_zero (by simpa using hl.symm)
  subst hb
  cases a with
  | none => simp [Conv.bytesToString, str, Sem.run_pure]; rfl
  | some a => simp [Conv.bytesToString, str, loadCells, loadCellsFrom, Sem.run_pure]; rfl
 ·have hm := flat_bytes bs
  rw [hm] at hc
  have hload := run_loadCells_list (P := P) w ⟨b, off, none⟩ ((bs.map fun b => ((b.toNat : Nat) : Int)).map (Value.int .u8)) (fun j u hj => by rw [Addr.add_lit]; exact hc j u hj)
  rw [run_bytesToString w ⟨b, off, none⟩ bs.length cap (bs.map fun b => ((b.toNat : Nat) : Int)) (by simpa using hload), foldl_push]
  simp [str]
theorem byte_of (n : Int) : ((UInt8.ofNat (n % 256).toNat).toNat : Int) = n % 256 := by
 have h0 : 0 ≤ n % 256 := Int.emod_nonneg _ (by decide)
 have h1 : n % 256 < 256 := Int.emod_lt_of_pos _ (by decide)
 simp; omega
theorem RL.newN {α : Type} {f : α → List Value} (w : World) (e : TypeId) (fr : Nat × Nat) (ys : List α) (hn : ys.length ≤ maxLen) : RL f (w.alloc (.cells (ys.flatMap f).toArray e fr)) (.slice (some ⟨w.heap.size, 0, none⟩) ys.length ys.length) ys := by
 refine ⟨_, _, rfl, Nat.le_refl _, hn, .inr ⟨_, _, rfl, fun j u hj => ?_⟩⟩
 rw [cell_of_row _ _ _ (ys.flatMap f).toArray e fr (heap_alloc_new w _)]
 simpa using hj
theorem wpList_pushN {α : Type} {f : α → List Value} {P : Program} {w : World} {ops : Array Oper} {rest : List Oper} {o : Oper} {a : Act} {Q : Exit → Act → World → Prop} {cs : Array Value} {fr : Nat × Nat} {g n : Nat} (hgd : o.guard = none) (s x : Operand) (t : TypeId)
    (ho : o.op = .call { callee := .builtin .append, args := #[s, x], argTypes := #[t, t] })
    (base : Nat) (e : TypeId) (c bytes : Nat) (hF : Flat f c) (hT : Elem P t e c bytes) {v : Value} {l : List α} (hown : Own f base e c w v l) (hs : a.eval s = v)
    (ys : List α) (hcs : (ys.flatMap f).toArray = cs) (hx : a.eval x = .slice (some ⟨g, 0, none⟩) n n) (hroom : (l.length + ys.length) * bytes ≤ 140737488355328) (h63 : l.length + ys.length ≤ maxLen) (hbase : base ≤ w.heap.size)
    (h : ∀ v' w', Own f base e c w' v' (l ++ ys) → Below base w w' → w.grownBy w' v.ownBlock → wpList P ops Q rest (a.put o.dst v') w')
    (hg : g = w.heap.size := by first | rfl | (simp; done)) (hn : n = ys.length := by first | rfl | (simp; done)) : wpList P ops Q (o :: rest) a (w.alloc (.cells cs e fr)) := by
 subst hcs
 subst hg
 subst hn
 refine wpList_app hgd s x t ho base e c bytes hF hT (hown.alloc _) hs ys (RL.newN w e fr ys (by omega)) hx hroom h63 (by simp; omega) fun v' w' h1 h2 => ?_
 have hlt := World.ownsRow.lt hown
 exact h v' w' h1 (((Below.refl base w).alloc hbase _).grown h2 (by simp; omega) fun k hk => (hlt k hk).1)
  ⟨h2.os, h2.tape, h2.output, by have := h2.size; simp at this; omega, fun k hk hne => by rw [h2.block k (by simp; omega) hne, Below.heap_alloc w _ k hk]⟩
theorem Own.lit {α : Type} {f : α → List Value} {c : Nat} (hF : Flat f c) (base : Nat) (e : TypeId) (w : World) (ys : List α) (hb : base ≤ w.heap.size) (hn : ys.length ≤ maxLen) {cs : Array Value} (hcs : (ys.flatMap f).toArray = cs) {g n : Nat} (hg : g = w.heap.size) (hnn : n = ys.length) :
    Own f base e c (w.alloc (.cells cs e)) (.slice (some ⟨g, 0, none⟩) n n) ys := by
 subst hcs hg hnn
 refine ⟨flat_len hF.len ys, .inr ⟨w.heap.size, ys.length, _, rfl, hb, heap_alloc_new w _, Nat.le_refl _, hn, ?_, ?_⟩⟩
 ·simp [flat_len hF.len ys]
 ·simp only [List.toList_toArray]; exact List.take_of_length_le (Nat.le_of_eq (flat_len hF.len ys))
def byte (n : Int) : UInt8 := UInt8.ofNat (n % 256).toNat
theorem byte_val (n : Int) : ((byte n).toNat : Int) = n % 256 := byte_of n
theorem run_app_full {α : Type} {f : α → List Value} {P : Program} (w : World) (base : Nat) (t ty e : TypeId) (c bytes : Nat) (hF : Flat f c) (hT : Elem P t e c bytes) (g1 g2 : Nat) (l l2 : List α) (hpos : 0 < l2.length)
    (h1 : ∀ j u, (l.flatMap f)[j]? = some u → w.cell? ⟨g1, j, none⟩ = some u) (h2 : ∀ j u, (l2.flatMap f)[j]? = some u → w.cell? ⟨g2, j, none⟩ = some u)
    (hroom : (l.length + l2.length) * bytes ≤ 140737488355328) (h63 : l.length + l2.length ≤ maxLen) (hbase : base ≤ w.heap.size) :
    ∃ v' w', (Builtin.append_ #[t, t] ty #[.slice (some ⟨g1, 0, none⟩) l.length l.length, .slice (some ⟨g2, 0, none⟩) l2.length l2.length]).run P w = .ok v' w' ∧ Own f base e c w' v' (l ++ l2) ∧ w.grownBy w' none := by
 obtain ⟨ht, i, z, hi, hz, rfl, rfl, hzs⟩ := hT
 have hsmall : l.length + l2.length ≤ 9223372036854775807 := by simp only [maxLen] at h63; omega
 have hl1 := flat_len hF.len l
 have hl2 := flat_len hF.len l2
 have hr := run_append_grow (P := P) w t ty e i z ht hi hz ⟨g1, 0, none⟩ l.length l.length (l.flatMap f) hl1 (fun j u hj => by rw [Addr.add_lit]; simpa using h1 j u hj) ⟨g2, 0, none⟩ l2.length l2.length (l2.flatMap f) hl2 (fun j u hj => by rw [Addr.add_lit]; simpa using h2 j u hj) (by omega) (by omega) (growslice_fits (by omega) hroom)
 have hge := grownCap_ge w (l.length + l2.length) l.length e
 have hcm : grownCap w (l.length + l2.length) l.length e ≤ maxLen := grownCap_le_maxLen w _ _ e h63
 have hlen : (l.flatMap f ++ l2.flatMap f).length = (l.length + l2.length) * i.size := by rw [List.length_append, hl1, hl2, Nat.add_mul]
 refine ⟨_, _, hr, ?_, ⟨rfl, rfl, rfl, by simp, fun k hk _ => Below.heap_alloc w.drew _ k hk⟩⟩
 unfold Own
 rw [List.length_append, List.flatMap_append]
 refine ⟨hlen, .inr ⟨w.heap.size, _, _, rfl, hbase, heap_alloc_new w.drew _, hge, hcm, ?_, ?_⟩⟩
 ·simp only [Array.size_append, List.size_toArray, size_zeroCells, hzs, hl1, hl2, ← Nat.add_mul]
  congr 1
  omega
 ·simp only [Array.toList_append, List.append_assoc]
  rw [← List.append_assoc, ← hlen]
  exact List.take_left
theorem wpList_lit {α : Type} {f : α → List Value} {P : Program} {w : World} {ops : Array Oper} {rest : List Oper} {o : Oper} {a : Act} {Q : Exit → Act → World → Prop} {cs0 cs : Array Value} {fr0 fr : Nat × Nat} {g0 n0 g n : Nat} (hgd : o.guard = none) (s x : Operand) (t : TypeId)
    (ho : o.op = .call { callee := .builtin .append, args := #[s, x], argTypes := #[t, t] })
    (base : Nat) (e : TypeId) (c bytes : Nat) (hF : Flat f c) (hT : Elem P t e c bytes) (l ys : List α) (hcs0 : (l.flatMap f).toArray = cs0) (hcs : (ys.flatMap f).toArray = cs)
    (hs : a.eval s = .slice (some ⟨g0, 0, none⟩) n0 n0) (hx : a.eval x = .slice (some ⟨g, 0, none⟩) n n) (hpos : 0 < ys.length) (hroom : (l.length + ys.length) * bytes ≤ 140737488355328) (h63 : l.length + ys.length ≤ maxLen) (hbase : base ≤ w.heap.size)
    (h : ∀ v' w', Own f base e c w' v' (l ++ ys) → Below base w w' → wpList P ops Q rest (a.put o.dst v') w')
    (hg0 : g0 = w.heap.size := by first | rfl | (simp; done)) (hn0 : n0 = l.length := by first | rfl | (simp; done)) (hg : g = w.heap.size + 1 := by first | rfl | (simp; done)) (hn : n = ys.length := by first | rfl | (simp; done)) : wpList P ops Q (o :: rest) a ((w.alloc (.cells cs0 e fr0)).alloc (.cells cs e fr)) := by
 subst hcs0 hcs hg0 hn0 hg hn
 refine wpList_plain hgd fun K hK => ?_
 obtain ⟨v', w', hr, r1, r2⟩ := run_app_full (P := P) ((w.alloc (.cells (l.flatMap f).toArray e fr0)).alloc (.cells (ys.flatMap f).toArray e fr)) base t o.type e c bytes hF hT w.heap.size (w.heap.size + 1) l ys hpos
  (fun j u hj => by
   rw [cell_of_row _ _ _ (l.flatMap f).toArray e fr0 (by rw [Below.heap_alloc _ _ _ (by simp)]; exact heap_alloc_new w _)]
   simpa using hj)
  (fun j u hj => by
   rw [cell_of_row _ _ _ (ys.flatMap f).toArray e fr (by have := heap_alloc_new (w.alloc (.cells (l.flatMap f).toArray e fr0)) (.cells (ys.flatMap f).toArray e fr); simpa using this)]
   simpa using hj) hroom h63 (by simp; omega)
 unfold Oper.wp execOp
 simp only [ho, resolve, invoke, builtin, Sem.run_bind, Sem.run_pure, Result.andThen_ok, List.map_toArray, List.map_cons, List.map_nil, hs, hx, hr]
 exact hK _ _ (h v' w' r1 ((((Below.refl base w).alloc hbase _).alloc (by simp; omega) _).grown r2 (by simp; omega) (fun _ hh => nomatch hh)))
end Wb
