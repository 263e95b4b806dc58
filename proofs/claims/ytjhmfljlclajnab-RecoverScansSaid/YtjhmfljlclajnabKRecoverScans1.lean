/- The walk of the reader's one. The reader's one, by what it finds. The newest copies, as plain lists. No program in sight. Counting blocks. No program in sight. An element of an array value. No program in sight. The walk of GoodTxn. The walk of NewestOf. The walks of the law's lists of transactions: txns, good. The walk of Scan. The walks of tells. Decode, one and Scan, as they are. What DecodeMark answers, its lists its own. The walk of the reference's txnAt. -/
import Derived.Test.YtjhmfljlclajnabKRecoverScans0
import Derived.Test.YtjhmfljlclajnabBase
import Derived.Test.YtjhmfljlclajnabStampR
import Derived.Laws.Rows
import Derived.Test.YtjhmfljlclajnabEnc
import Derived.Test.YtjhmfljlclajnabPoke
import Derived.Test.YtjhmfljlclajnabDecR2
import Derived.Test.YtjhmfljlclajnabDecR3
namespace Wb
open Go Go.RowKit
theorem Own.blk_ne {α : Type} {f : α → List Value} {base : Nat} {e : TypeId} {c : Nat} {w : World} {v : Value} {l : List α} (h : Own f base e c w v l) {b : Nat} {cs : Array Value} {t : TypeId} (hb : Blk w b cs t) (hne : e ≠ t) : some b ≠ v.ownBlock := by
  intro hh
  obtain ⟨cur, hc⟩ := h.cellsOf hh.symm
  unfold Blk at hb
  rw [hc] at hb
  simp only [Option.some.injEq, Obj.cells.injEq] at hb
  exact hne hb.2.1
theorem gNew {α : Type} {f : α → List Value} {base : Nat} {e : TypeId} {c : Nat} {w w1 w2 : World} {row : Option Nat} {v : Value} {l : List α} (h : w.grownBy w1 row) (h2 : w1.grownBy w2 v.ownBlock) (ho : Own f base e c w1 v l) (hb : w.heap.size ≤ base) : w.grownBy w2 row :=
  ⟨h2.os.trans h.os, h2.tape.trans h.tape, h2.output.trans h.output, Nat.le_trans h.size h2.size, fun k hk hne => (h2.block k (Nat.lt_of_lt_of_le hk h.size) (fun hh => by have := (World.ownsRow.lt ho k hh.symm).1; omega)).trans (h.block k hk hne)⟩
theorem gAlloc {w w1 : World} {row : Option Nat} (h : w.grownBy w1 row) (o : Obj) : w.grownBy (w1.alloc o) row := gTrans h (World.grownBy_alloc w1 o row)
theorem gSets {w : World} {row : Option Nat} : ∀ (ps : List (Addr × Value)) (w' : World), w.grownBy w' row → (∀ p ∈ ps, w.heap.size ≤ p.1.block) → w.grownBy (ps.foldl (fun w p => w.setCell p.1 p.2) w') row
  | [], _, h, _ => h
  | p :: ps, w', h, hp => gSets ps _ (⟨h.os, h.tape, h.output, by simpa using h.size, fun k hk hne => by rw [Below.heap_setCell w' p.1 p.2 k (fun hh => by have := hp p (by simp); omega)]; exact h.block k hk hne⟩) (fun q hq => hp q (by simp [hq]))
theorem Blk.setCells {b : Nat} {cs : Array Value} {t : TypeId} : ∀ (ps : List (Addr × Value)) (w : World), Blk w b cs t → (∀ p ∈ ps, b ≠ p.1.block) → Blk (ps.foldl (fun w p => w.setCell p.1 p.2) w) b cs t
  | [], _, h, _ => h
  | p :: ps, _, h, hp => Blk.setCells ps _ (h.set_other p.1 p.2 (hp p (by simp))) (fun q hq => hp q (by simp [hq]))
theorem gDrew {w w1 : World} {row : Option Nat} (h : w.grownBy w1 row) : w.grownBy w1.drew row := ⟨h.os, h.tape, h.output, h.size, h.block⟩
theorem gBnew {w w1 w2 : World} {row : Option Nat} (h : w.grownBy w1 row) (h2 : Below w1.heap.size w1 w2) : w.grownBy w2 row := gTrans h (gB h2 row)
theorem parse_cons (seq : Int) (n : Nat) (s : ByteArray) (r : List ByteArray) (t : Txn) : parseT seq (n + 1) (s :: r) t =
    if decE s = 0 ∧ (decM s).seq = seq then
      if (decM s).kind = 4 then some (t, r)
      else if (decM s).kind = 3 then parseT seq n r { t with rev := t.rev ++ (decM s).blocks }
      else if (decM s).kind = 2 then
        match takeTags (decM s).tags r t.mt with
        | some (mt, r') => parseT seq n r' { t with mt := mt }
        | none => none
      else none
    else none := rfl
end Wb
namespace Go.Proofs.Ytjhmfljlclajnab
open Go.RowKit Wb
set_option linter.unusedVariables false
set_option linter.unusedSimpArgs false
set_option maxRecDepth 100000
set_option maxHeartbeats 40000000
def DecodeSaid : Prop := ∀ (s : ByteArray) (w : World), s.size ≤ 9223372036854775807 → Calls Try.prog 16 #[.string s] w fun e w' => ∃ v, e = .returned (.tuple #[v, .int .i64 (decE s)]) ∧ OMark w.heap.size w' v (decM s) ∧ Below w.heap.size w w'
def OneP (seq : Int) (r0 : List ByteArray) (br : Nat) (vs vw : Value) (A : Int) (w : World) (e : Ending) (w' : World) : Prop :=
  (∃ t r', parseT seq 25 r0 (txn0 seq) = some (t, r') ∧ ∃ v, e = .returned (.tuple #[v, .bool true]) ∧ OTxn w.heap.size 93 3 w' v t ∧ Blk w' br (rdrC vs vw A r'.length) 87 ∧ w.grownBy w' (some br)) ∨
  (parseT seq 25 r0 (txn0 seq) = none ∧ e = .returned (.tuple #[.agg #[.int .i64 0, .slice none 0 0, .slice none 0 0, .slice none 0 0, .bool false, .int .i64 0, .bool false, .int .i64 0, .bool false, .int .i64 0], .bool false]) ∧ ∃ n, Blk w' br (rdrC vs vw A n) 87 ∧ w.grownBy w' (some br))

theorem scan_one (hDec : DecodeSaid) (d : Dsk) (W : World) (br : Nat) (vs vw : Value) (A seq : Int) (r0 : List ByteArray) (w : World) (hW : Below W.heap.size W w) (hd : RDisk W (.agg #[vs, vw]) d) (hbr : W.heap.size ≤ br) (hs0 : sfx d A r0) (hsz : ∀ s ∈ r0, s.size ≤ 9223372036854775807)
    (kb : Blk w br (rdrC vs vw A r0.length) 87) :
    Calls Try.prog 56 #[.pointer (some ⟨br, 0, none⟩), .int .i64 seq] w fun e w' => OneP seq r0 br vs vw A w e w' := by
  have hN0 := fun w k => next_nil br vs vw A w k
  have hN1 := fun s r w hd k hs => next_cons d br vs vw A s r w hd k hs
  have hU := fun s e w hs => stamp_Unescape s e w hs
  have hbw := kb.lt
  have hwW := hW.size
  have hr24 := hs0.2
  have hp0 := hid (parseT_fuel (seq := seq) (n := r0.length + 1) (m := 25) (r := r0) (t := txn0 seq) (by omega) (by omega))
  replace hN0 := hid hN0; replace hN1 := hid hN1; replace hU := hid hU; replace hd := hid hd; replace hsz := hid hsz; replace hs0 := hid hs0; replace hDec := hid hDec
  have k40 : Blk ((w.alloc (.cells #[.int .i64 0, .slice none 0 0, .slice none 0 0, .slice none 0 0, .bool false, .int .i64 0, .bool false, .int .i64 0, .bool false, .int .i64 0] 64)).alloc (.cells #[.int .i64 seq, .slice none 0 0, .slice none 0 0, .slice none 0 0, .bool false, .int .i64 0, .bool false, .int .i64 0, .bool false, .int .i64 0] 64)) w.heap.size #[.int .i64 0, .slice none 0 0, .slice none 0 0, .slice none 0 0, .bool false, .int .i64 0, .bool false, .int .i64 0, .bool false, .int .i64 0] 64 := (Blk.new w _ _).alloc _
  have k60 : Blk ((w.alloc (.cells #[.int .i64 0, .slice none 0 0, .slice none 0 0, .slice none 0 0, .bool false, .int .i64 0, .bool false, .int .i64 0, .bool false, .int .i64 0] 64)).alloc (.cells #[.int .i64 seq, .slice none 0 0, .slice none 0 0, .slice none 0 0, .bool false, .int .i64 0, .bool false, .int .i64 0, .bool false, .int .i64 0] 64)) (w.heap.size + 1) #[.int .i64 seq, .slice none 0 0, .slice none 0 0, .slice none 0 0, .bool false, .int .i64 0, .bool false, .int .i64 0, .bool false, .int .i64 0] 64 := Blk.newAt (by simp)
  have kb0 := (kb.alloc (.cells #[.int .i64 0, .slice none 0 0, .slice none 0 0, .slice none 0 0, .bool false, .int .i64 0, .bool false, .int .i64 0, .bool false, .int .i64 0] 64)).alloc (.cells #[.int .i64 seq, .slice none 0 0, .slice none 0 0, .slice none 0 0, .bool false, .int .i64 0, .bool false, .int .i64 0, .bool false, .int .i64 0] 64)
  have g0 : w.grownBy ((w.alloc (.cells #[.int .i64 0, .slice none 0 0, .slice none 0 0, .slice none 0 0, .bool false, .int .i64 0, .bool false, .int .i64 0, .bool false, .int .i64 0] 64)).alloc (.cells #[.int .i64 seq, .slice none 0 0, .slice none 0 0, .slice none 0 0, .bool false, .int .i64 0, .bool false, .int .i64 0, .bool false, .int .i64 0] 64)) (some br) := gB (bal (bal (b0 w) _) _) _
  have s0 : w.heap.size + 2 ≤ ((w.alloc (.cells #[.int .i64 0, .slice none 0 0, .slice none 0 0, .slice none 0 0, .bool false, .int .i64 0, .bool false, .int .i64 0, .bool false, .int .i64 0] 64)).alloc (.cells #[.int .i64 seq, .slice none 0 0, .slice none 0 0, .slice none 0 0, .bool false, .int .i64 0, .bool false, .int .i64 0, .bool false, .int .i64 0] 64)).heap.size := by simp
  go_enter Try.func56, Try.ntmps56
  go_wp2
  go_loopg [7] r0.length (fun g _ wr => ∃ (r : List ByteArray) (mt : List Cpy) (rev : List Int), g = r.length ∧ Hid (sfx d A r) ∧ Hid (∀ s ∈ r, s.size ≤ 9223372036854775807) ∧ Hid (parseT seq (r.length + 1) r ⟨seq, mt, [], rev, hnd0, hnd0, hnd0⟩ = parseT seq 25 r0 (txn0 seq)) ∧ ∃ vm vr, Own cpyC (w.heap.size + 2) 93 2 wr vm mt ∧ Own intC (w.heap.size + 2) 3 1 wr vr rev ∧ Blk wr w.heap.size #[.int .i64 0, .slice none 0 0, .slice none 0 0, .slice none 0 0, .bool false, .int .i64 0, .bool false, .int .i64 0, .bool false, .int .i64 0] 64 ∧ Blk wr (w.heap.size + 1) #[.int .i64 seq, vm, .slice none 0 0, vr, .bool false, .int .i64 0, .bool false, .int .i64 0, .bool false, .int .i64 0] 64 ∧ Blk wr br (rdrC vs vw A r.length) 87 ∧ w.grownBy wr (some br) ∧ w.heap.size + 2 ≤ wr.heap.size ∧ rev.length + 20 * r.length ≤ 480 ∧ mt.length + r.length ≤ 24)
  case atStart => exact ⟨r0, [], [], rfl, hs0, hsz, hp0, _, _, Own.nil _ _ _ _ _, Own.nil _ _ _ _ _, k40, k60, kb0, g0, s0, by simp; omega, by simp; omega⟩
  case round =>
    clear k40 k60 kb0 g0 hp0 hs0 hsz s0
    obtain ⟨r, mt, rev, rfl, hs, hsz, hp, vm, vr, om, or_, k4, k6, kb, g, hg2, hb1, hb2⟩ := hrel
    obtain ⟨am, cm, rfl⟩ := om.form
    obtain ⟨ar, cr, rfl⟩ := or_.form
    have lt4 := k4.lt
    have lt6 := k6.lt
    have nx := gBelow g hW hwW hbr
    cases r with
    | nil =>
      have hno := hid (hp.out.symm.trans rfl : parseT seq 25 r0 (txn0 seq) = none)
      clear hp hs hsz
      have z0 := k4.cell 0; have z1 := k4.cell 1; have z2 := k4.cell 2; have z3 := k4.cell 3; have z4 := k4.cell 4; have z5 := k4.cell 5; have z6 := k4.cell 6; have z7 := k4.cell 7; have z8 := k4.cell 8; have z9 := k4.cell 9
      have f0 := k4.free 0; have f1 := k4.free 1; have f2 := k4.free 2; have f3 := k4.free 3; have f4 := k4.free 4; have f5 := k4.free 5; have f6 := k4.free 6; have f7 := k4.free 7; have f8 := k4.free 8; have f9 := k4.free 9
      simp only [List.getElem?_toArray, List.getElem?_cons_zero, List.getElem?_cons_succ] at z0 z1 z2 z3 z4 z5 z6 z7 z8 z9
      go_wp2_with (go_at_call 80; go_loud ((with_reducible refine (hN0.out _ kb).mono ?_); rintro e w1 ⟨rfl, rfl⟩))
      have kz := (Blk.setCells [(⟨w.heap.size, 0, none⟩, .int .i64 0), (⟨w.heap.size, 1, none⟩, .slice none 0 0), (⟨w.heap.size, 2, none⟩, .slice none 0 0), (⟨w.heap.size, 3, none⟩, .slice none 0 0), (⟨w.heap.size, 4, none⟩, .bool false), (⟨w.heap.size, 5, none⟩, .int .i64 0), (⟨w.heap.size, 6, none⟩, .bool false), (⟨w.heap.size, 7, none⟩, .int .i64 0), (⟨w.heap.size, 8, none⟩, .bool false), (⟨w.heap.size, 9, none⟩, .int .i64 0)] _ kb (by simp; omega))
      have gz := gSets [(⟨w.heap.size, 0, none⟩, .int .i64 0), (⟨w.heap.size, 1, none⟩, .slice none 0 0), (⟨w.heap.size, 2, none⟩, .slice none 0 0), (⟨w.heap.size, 3, none⟩, .slice none 0 0), (⟨w.heap.size, 4, none⟩, .bool false), (⟨w.heap.size, 5, none⟩, .int .i64 0), (⟨w.heap.size, 6, none⟩, .bool false), (⟨w.heap.size, 7, none⟩, .int .i64 0), (⟨w.heap.size, 8, none⟩, .bool false), (⟨w.heap.size, 9, none⟩, .int .i64 0)] _ g (by simp)
      exact bodyPost_ret (v := .tuple #[.agg #[.int .i64 0, .slice none 0 0, .slice none 0 0, .slice none 0 0, .bool false, .int .i64 0, .bool false, .int .i64 0, .bool false, .int .i64 0], .bool false]) (by simp [results, Try.results56, go_sem, z0, z1, z2, z3, z4, z5, z6, z7, z8, z9]) rfl (.inr ⟨hno.out, rfl, _, kz, gz⟩)
    | cons s r =>
      have hDs := hDec.out s
      have hbd := fun h => dec_bds (s := s) h
      have hp1 := hp.out
      simp only [List.length_cons] at hp1 hb1 hb2 kb
      rw [parse_cons] at hp1
      have hsz1 := hsz.out s (by simp)
      have hsz2 := hid (fun x (hx : x ∈ r) => hsz.out x (by simp [hx]))
      have hs2 := hid (sfx_cons hs.out).1
      have hr24' := (sfx_cons hs.out).2.2
      generalize decM s = M at *
      generalize decE s = de at *
      obtain ⟨mk, ms, ma, tags, blocks⟩ := M
      dsimp only at hDs hbd hp1
      replace hDs := hid hDs
      by_cases hc : de = 0 ∧ ms = seq
      rotate_left
      · rw [if_neg hc] at hp1
        have hno := hid hp1.symm
        clear hp1 hp hbd hsz hsz2
        by_cases hde : de = 0
        · have hms : (ms != seq) = true := bne_iff_ne.2 (fun h => hc ⟨hde, h⟩)
          have hde2 : (de != 0) = false := by rw [hde]; rfl
          clear hc hde
          go_wp2_with ((go_at_call 80; go_loud ((with_reducible refine (hN1.out s r _ (hd.out.below nx) kb hs.out).mono ?_); rintro e w1 ⟨rfl, kb1, gn⟩; replace om := om.grownBlk kb (by decide) gn; replace or_ := or_.grownBlk kb (by decide) gn; replace k4 := k4.grown gn (by simp; omega); replace k6 := k6.grown gn (by simp; omega); replace kb := kb1; replace g := gTrans g gn; replace nx := gBelow g hW hwW hbr; have lt4 := k4.lt; have lt6 := k6.lt)))
          go_wp2_with ((go_at_call 16; go_loud ((with_reducible refine (hDs.out _ hsz1).mono ?_); rintro e w2 ⟨v2, rfl, hmk, hb⟩; obtain ⟨vt, vb, rfl, ot, ob, t1, t2⟩ := hmk; dsimp only at ot ob t1 t2 ⊢; obtain ⟨at_, ct, rfl⟩ := ot.form; obtain ⟨ab, cb, rfl⟩ := ob.form; replace om := om.below hb; replace or_ := or_.below hb; replace k4 := k4.step hb; replace k6 := k6.step hb; replace kb := kb.step hb; replace g := gBnew g hb; replace nx := nx.trans (hb.mono nx.size); have lt4 := k4.lt; have lt6 := k6.lt; (try clear z0 z1 z2 z3 z4 z5 z6 z7 z8 z9); (try clear f0 f1 f2 f3 f4 f5 f6 f7 f8 f9); have z0 := k4.cell 0; have z1 := k4.cell 1; have z2 := k4.cell 2; have z3 := k4.cell 3; have z4 := k4.cell 4; have z5 := k4.cell 5; have z6 := k4.cell 6; have z7 := k4.cell 7; have z8 := k4.cell 8; have z9 := k4.cell 9; have f0 := k4.free 0; have f1 := k4.free 1; have f2 := k4.free 2; have f3 := k4.free 3; have f4 := k4.free 4; have f5 := k4.free 5; have f6 := k4.free 6; have f7 := k4.free 7; have f8 := k4.free 8; have f9 := k4.free 9; simp only [List.getElem?_toArray, List.getElem?_cons_zero, List.getElem?_cons_succ] at z0 z1 z2 z3 z4 z5 z6 z7 z8 z9; have kb2 := hid kb; have g2 := hid g; have om2 := hid om; have or2 := hid or_; have lt42 := k4.lt; have km := Blk.new w2 #[.int .i64 mk, .int .i64 ms, .int .i64 ma, .slice at_ tags.length ct, .slice ab blocks.length cb] 38; have lg2 := g.size; replace ot := ot.alloc (.cells #[.int .i64 mk, .int .i64 ms, .int .i64 ma, .slice at_ tags.length ct, .slice ab blocks.length cb] 38); replace ob := ob.alloc (.cells #[.int .i64 mk, .int .i64 ms, .int .i64 ma, .slice at_ tags.length ct, .slice ab blocks.length cb] 38); have lw12 := hb.size; replace om := om.alloc (.cells #[.int .i64 mk, .int .i64 ms, .int .i64 ma, .slice at_ tags.length ct, .slice ab blocks.length cb] 38); replace or_ := or_.alloc (.cells #[.int .i64 mk, .int .i64 ms, .int .i64 ma, .slice at_ tags.length ct, .slice ab blocks.length cb] 38); replace k4 := k4.alloc (.cells #[.int .i64 mk, .int .i64 ms, .int .i64 ma, .slice at_ tags.length ct, .slice ab blocks.length cb] 38); replace k6 := k6.alloc (.cells #[.int .i64 mk, .int .i64 ms, .int .i64 ma, .slice at_ tags.length ct, .slice ab blocks.length cb] 38); replace kb := kb.alloc (.cells #[.int .i64 mk, .int .i64 ms, .int .i64 ma, .slice at_ tags.length ct, .slice ab blocks.length cb] 38); replace g := gAlloc g (.cells #[.int .i64 mk, .int .i64 ms, .int .i64 ma, .slice at_ tags.length ct, .slice ab blocks.length cb] 38); replace nx := bal nx (.cells #[.int .i64 mk, .int .i64 ms, .int .i64 ma, .slice at_ tags.length ct, .slice ab blocks.length cb] 38); have lt4 := k4.lt; have lt6 := k6.lt)))
          have kz := (Blk.setCells [(⟨w.heap.size, 0, none⟩, .int .i64 0), (⟨w.heap.size, 1, none⟩, .slice none 0 0), (⟨w.heap.size, 2, none⟩, .slice none 0 0), (⟨w.heap.size, 3, none⟩, .slice none 0 0), (⟨w.heap.size, 4, none⟩, .bool false), (⟨w.heap.size, 5, none⟩, .int .i64 0), (⟨w.heap.size, 6, none⟩, .bool false), (⟨w.heap.size, 7, none⟩, .int .i64 0), (⟨w.heap.size, 8, none⟩, .bool false), (⟨w.heap.size, 9, none⟩, .int .i64 0)] _ kb2.out (by simp; omega)).alloc (.cells #[.int .i64 mk, .int .i64 ms, .int .i64 ma, .slice at_ tags.length ct, .slice ab blocks.length cb] 38)
          have gz := gAlloc (gSets [(⟨w.heap.size, 0, none⟩, .int .i64 0), (⟨w.heap.size, 1, none⟩, .slice none 0 0), (⟨w.heap.size, 2, none⟩, .slice none 0 0), (⟨w.heap.size, 3, none⟩, .slice none 0 0), (⟨w.heap.size, 4, none⟩, .bool false), (⟨w.heap.size, 5, none⟩, .int .i64 0), (⟨w.heap.size, 6, none⟩, .bool false), (⟨w.heap.size, 7, none⟩, .int .i64 0), (⟨w.heap.size, 8, none⟩, .bool false), (⟨w.heap.size, 9, none⟩, .int .i64 0)] _ g2.out (by simp)) (.cells #[.int .i64 mk, .int .i64 ms, .int .i64 ma, .slice at_ tags.length ct, .slice ab blocks.length cb] 38)
          exact bodyPost_ret (v := .tuple #[.agg #[.int .i64 0, .slice none 0 0, .slice none 0 0, .slice none 0 0, .bool false, .int .i64 0, .bool false, .int .i64 0, .bool false, .int .i64 0], .bool false]) (by simp [results, Try.results56, go_sem, z0, z1, z2, z3, z4, z5, z6, z7, z8, z9, lt42]) rfl (.inr ⟨hno.out, rfl, _, kz, gz⟩)
        · have hde2 : (de != 0) = true := bne_iff_ne.2 hde
          clear hc hde
          go_wp2_with ((go_at_call 80; go_loud ((with_reducible refine (hN1.out s r _ (hd.out.below nx) kb hs.out).mono ?_); rintro e w1 ⟨rfl, kb1, gn⟩; replace om := om.grownBlk kb (by decide) gn; replace or_ := or_.grownBlk kb (by decide) gn; replace k4 := k4.grown gn (by simp; omega); replace k6 := k6.grown gn (by simp; omega); replace kb := kb1; replace g := gTrans g gn; replace nx := gBelow g hW hwW hbr; have lt4 := k4.lt; have lt6 := k6.lt)))
          go_wp2_with ((go_at_call 16; go_loud ((with_reducible refine (hDs.out _ hsz1).mono ?_); rintro e w2 ⟨v2, rfl, hmk, hb⟩; obtain ⟨vt, vb, rfl, ot, ob, t1, t2⟩ := hmk; dsimp only at ot ob t1 t2 ⊢; obtain ⟨at_, ct, rfl⟩ := ot.form; obtain ⟨ab, cb, rfl⟩ := ob.form; replace om := om.below hb; replace or_ := or_.below hb; replace k4 := k4.step hb; replace k6 := k6.step hb; replace kb := kb.step hb; replace g := gBnew g hb; replace nx := nx.trans (hb.mono nx.size); have lt4 := k4.lt; have lt6 := k6.lt; (try clear z0 z1 z2 z3 z4 z5 z6 z7 z8 z9); (try clear f0 f1 f2 f3 f4 f5 f6 f7 f8 f9); have z0 := k4.cell 0; have z1 := k4.cell 1; have z2 := k4.cell 2; have z3 := k4.cell 3; have z4 := k4.cell 4; have z5 := k4.cell 5; have z6 := k4.cell 6; have z7 := k4.cell 7; have z8 := k4.cell 8; have z9 := k4.cell 9; have f0 := k4.free 0; have f1 := k4.free 1; have f2 := k4.free 2; have f3 := k4.free 3; have f4 := k4.free 4; have f5 := k4.free 5; have f6 := k4.free 6; have f7 := k4.free 7; have f8 := k4.free 8; have f9 := k4.free 9; simp only [List.getElem?_toArray, List.getElem?_cons_zero, List.getElem?_cons_succ] at z0 z1 z2 z3 z4 z5 z6 z7 z8 z9; have kb2 := hid kb; have g2 := hid g; have om2 := hid om; have or2 := hid or_; have lt42 := k4.lt; have km := Blk.new w2 #[.int .i64 mk, .int .i64 ms, .int .i64 ma, .slice at_ tags.length ct, .slice ab blocks.length cb] 38; have lg2 := g.size; replace ot := ot.alloc (.cells #[.int .i64 mk, .int .i64 ms, .int .i64 ma, .slice at_ tags.length ct, .slice ab blocks.length cb] 38); replace ob := ob.alloc (.cells #[.int .i64 mk, .int .i64 ms, .int .i64 ma, .slice at_ tags.length ct, .slice ab blocks.length cb] 38); have lw12 := hb.size; replace om := om.alloc (.cells #[.int .i64 mk, .int .i64 ms, .int .i64 ma, .slice at_ tags.length ct, .slice ab blocks.length cb] 38); replace or_ := or_.alloc (.cells #[.int .i64 mk, .int .i64 ms, .int .i64 ma, .slice at_ tags.length ct, .slice ab blocks.length cb] 38); replace k4 := k4.alloc (.cells #[.int .i64 mk, .int .i64 ms, .int .i64 ma, .slice at_ tags.length ct, .slice ab blocks.length cb] 38); replace k6 := k6.alloc (.cells #[.int .i64 mk, .int .i64 ms, .int .i64 ma, .slice at_ tags.length ct, .slice ab blocks.length cb] 38); replace kb := kb.alloc (.cells #[.int .i64 mk, .int .i64 ms, .int .i64 ma, .slice at_ tags.length ct, .slice ab blocks.length cb] 38); replace g := gAlloc g (.cells #[.int .i64 mk, .int .i64 ms, .int .i64 ma, .slice at_ tags.length ct, .slice ab blocks.length cb] 38); replace nx := bal nx (.cells #[.int .i64 mk, .int .i64 ms, .int .i64 ma, .slice at_ tags.length ct, .slice ab blocks.length cb] 38); have lt4 := k4.lt; have lt6 := k6.lt)))
          have kz := (Blk.setCells [(⟨w.heap.size, 0, none⟩, .int .i64 0), (⟨w.heap.size, 1, none⟩, .slice none 0 0), (⟨w.heap.size, 2, none⟩, .slice none 0 0), (⟨w.heap.size, 3, none⟩, .slice none 0 0), (⟨w.heap.size, 4, none⟩, .bool false), (⟨w.heap.size, 5, none⟩, .int .i64 0), (⟨w.heap.size, 6, none⟩, .bool false), (⟨w.heap.size, 7, none⟩, .int .i64 0), (⟨w.heap.size, 8, none⟩, .bool false), (⟨w.heap.size, 9, none⟩, .int .i64 0)] _ kb2.out (by simp; omega)).alloc (.cells #[.int .i64 mk, .int .i64 ms, .int .i64 ma, .slice at_ tags.length ct, .slice ab blocks.length cb] 38)
          have gz := gAlloc (gSets [(⟨w.heap.size, 0, none⟩, .int .i64 0), (⟨w.heap.size, 1, none⟩, .slice none 0 0), (⟨w.heap.size, 2, none⟩, .slice none 0 0), (⟨w.heap.size, 3, none⟩, .slice none 0 0), (⟨w.heap.size, 4, none⟩, .bool false), (⟨w.heap.size, 5, none⟩, .int .i64 0), (⟨w.heap.size, 6, none⟩, .bool false), (⟨w.heap.size, 7, none⟩, .int .i64 0), (⟨w.heap.size, 8, none⟩, .bool false), (⟨w.heap.size, 9, none⟩, .int .i64 0)] _ g2.out (by simp)) (.cells #[.int .i64 mk, .int .i64 ms, .int .i64 ma, .slice at_ tags.length ct, .slice ab blocks.length cb] 38)
          exact bodyPost_ret (v := .tuple #[.agg #[.int .i64 0, .slice none 0 0, .slice none 0 0, .slice none 0 0, .bool false, .int .i64 0, .bool false, .int .i64 0, .bool false, .int .i64 0], .bool false]) (by simp [results, Try.results56, go_sem, z0, z1, z2, z3, z4, z5, z6, z7, z8, z9, lt42]) rfl (.inr ⟨hno.out, rfl, _, kz, gz⟩)
      obtain ⟨hde, rfl⟩ := hc
      obtain ⟨q1, q2, _⟩ := hbd hde
      rw [if_pos ⟨hde, rfl⟩] at hp1
      have hde2 : (de != 0) = false := by rw [hde]; rfl
      have hms : (ms != ms) = false := by simp
      clear hbd hde hp hsz
      by_cases h4 : mk = 4
      · rw [if_pos h4] at hp1
        have e4 : (mk == 4) = true := beq_iff_eq.2 h4
        replace hp1 := hid hp1
        clear h4
        go_wp2_with ((go_at_call 80; go_loud ((with_reducible refine (hN1.out s r _ (hd.out.below nx) kb hs.out).mono ?_); rintro e w1 ⟨rfl, kb1, gn⟩; replace om := om.grownBlk kb (by decide) gn; replace or_ := or_.grownBlk kb (by decide) gn; replace k4 := k4.grown gn (by simp; omega); replace k6 := k6.grown gn (by simp; omega); replace kb := kb1; replace g := gTrans g gn; replace nx := gBelow g hW hwW hbr; have lt4 := k4.lt; have lt6 := k6.lt)))
        go_wp2_with ((((go_at_call 16; go_loud ((with_reducible refine (hDs.out _ hsz1).mono ?_); rintro e w2 ⟨v2, rfl, hmk, hb⟩; obtain ⟨vt, vb, rfl, ot, ob, t1, t2⟩ := hmk; dsimp only at ot ob t1 t2 ⊢; obtain ⟨at_, ct, rfl⟩ := ot.form; obtain ⟨ab, cb, rfl⟩ := ob.form; replace om := om.below hb; replace or_ := or_.below hb; replace k4 := k4.step hb; replace k6 := k6.step hb; replace kb := kb.step hb; replace g := gBnew g hb; replace nx := nx.trans (hb.mono nx.size); have lt4 := k4.lt; have lt6 := k6.lt; (try clear z0 z1 z2 z3 z4 z5 z6 z7 z8 z9); (try clear f0 f1 f2 f3 f4 f5 f6 f7 f8 f9); have z0 := k4.cell 0; have z1 := k4.cell 1; have z2 := k4.cell 2; have z3 := k4.cell 3; have z4 := k4.cell 4; have z5 := k4.cell 5; have z6 := k4.cell 6; have z7 := k4.cell 7; have z8 := k4.cell 8; have z9 := k4.cell 9; have f0 := k4.free 0; have f1 := k4.free 1; have f2 := k4.free 2; have f3 := k4.free 3; have f4 := k4.free 4; have f5 := k4.free 5; have f6 := k4.free 6; have f7 := k4.free 7; have f8 := k4.free 8; have f9 := k4.free 9; simp only [List.getElem?_toArray, List.getElem?_cons_zero, List.getElem?_cons_succ] at z0 z1 z2 z3 z4 z5 z6 z7 z8 z9; have kb2 := hid kb; have g2 := hid g; have om2 := hid om; have or2 := hid or_; have lt42 := k4.lt; have km := Blk.new w2 #[.int .i64 mk, .int .i64 ms, .int .i64 ma, .slice at_ tags.length ct, .slice ab blocks.length cb] 38; have lg2 := g.size; replace ot := ot.alloc (.cells #[.int .i64 mk, .int .i64 ms, .int .i64 ma, .slice at_ tags.length ct, .slice ab blocks.length cb] 38); replace ob := ob.alloc (.cells #[.int .i64 mk, .int .i64 ms, .int .i64 ma, .slice at_ tags.length ct, .slice ab blocks.length cb] 38); have lw12 := hb.size; replace om := om.alloc (.cells #[.int .i64 mk, .int .i64 ms, .int .i64 ma, .slice at_ tags.length ct, .slice ab blocks.length cb] 38); replace or_ := or_.alloc (.cells #[.int .i64 mk, .int .i64 ms, .int .i64 ma, .slice at_ tags.length ct, .slice ab blocks.length cb] 38); replace k4 := k4.alloc (.cells #[.int .i64 mk, .int .i64 ms, .int .i64 ma, .slice at_ tags.length ct, .slice ab blocks.length cb] 38); replace k6 := k6.alloc (.cells #[.int .i64 mk, .int .i64 ms, .int .i64 ma, .slice at_ tags.length ct, .slice ab blocks.length cb] 38); replace kb := kb.alloc (.cells #[.int .i64 mk, .int .i64 ms, .int .i64 ma, .slice at_ tags.length ct, .slice ab blocks.length cb] 38); replace g := gAlloc g (.cells #[.int .i64 mk, .int .i64 ms, .int .i64 ma, .slice at_ tags.length ct, .slice ab blocks.length cb] 38); replace nx := bal nx (.cells #[.int .i64 mk, .int .i64 ms, .int .i64 ma, .slice at_ tags.length ct, .slice ab blocks.length cb] 38); have lt4 := k4.lt; have lt6 := k6.lt))); have y0 := k6.cell 0; have y1 := k6.cell 1; have y2 := k6.cell 2; have y3 := k6.cell 3; have y4 := k6.cell 4; have y5 := k6.cell 5; have y6 := k6.cell 6; have y7 := k6.cell 7; have y8 := k6.cell 8; have y9 := k6.cell 9; simp only [List.getElem?_toArray, List.getElem?_cons_zero, List.getElem?_cons_succ] at y0 y1 y2 y3 y4 y5 y6 y7 y8 y9))
        have kz := (Blk.setCells [(⟨w.heap.size, 0, none⟩, .int .i64 ms), (⟨w.heap.size, 1, none⟩, .slice am mt.length cm), (⟨w.heap.size, 2, none⟩, .slice none 0 0), (⟨w.heap.size, 3, none⟩, .slice ar rev.length cr), (⟨w.heap.size, 4, none⟩, .bool false), (⟨w.heap.size, 5, none⟩, .int .i64 0), (⟨w.heap.size, 6, none⟩, .bool false), (⟨w.heap.size, 7, none⟩, .int .i64 0), (⟨w.heap.size, 8, none⟩, .bool false), (⟨w.heap.size, 9, none⟩, .int .i64 0)] _ kb2.out (by simp; omega)).alloc (.cells #[.int .i64 mk, .int .i64 ms, .int .i64 ma, .slice at_ tags.length ct, .slice ab blocks.length cb] 38)
        have gz := gAlloc (gSets [(⟨w.heap.size, 0, none⟩, .int .i64 ms), (⟨w.heap.size, 1, none⟩, .slice am mt.length cm), (⟨w.heap.size, 2, none⟩, .slice none 0 0), (⟨w.heap.size, 3, none⟩, .slice ar rev.length cr), (⟨w.heap.size, 4, none⟩, .bool false), (⟨w.heap.size, 5, none⟩, .int .i64 0), (⟨w.heap.size, 6, none⟩, .bool false), (⟨w.heap.size, 7, none⟩, .int .i64 0), (⟨w.heap.size, 8, none⟩, .bool false), (⟨w.heap.size, 9, none⟩, .int .i64 0)] _ g2.out (by simp)) (.cells #[.int .i64 mk, .int .i64 ms, .int .i64 ma, .slice at_ tags.length ct, .slice ab blocks.length cb] 38)
        have omz := (om2.out.setCells [(⟨w.heap.size, 0, none⟩, .int .i64 ms), (⟨w.heap.size, 1, none⟩, .slice am mt.length cm), (⟨w.heap.size, 2, none⟩, .slice none 0 0), (⟨w.heap.size, 3, none⟩, .slice ar rev.length cr), (⟨w.heap.size, 4, none⟩, .bool false), (⟨w.heap.size, 5, none⟩, .int .i64 0), (⟨w.heap.size, 6, none⟩, .bool false), (⟨w.heap.size, 7, none⟩, .int .i64 0), (⟨w.heap.size, 8, none⟩, .bool false), (⟨w.heap.size, 9, none⟩, .int .i64 0)] _ (by simp)).alloc (.cells #[.int .i64 mk, .int .i64 ms, .int .i64 ma, .slice at_ tags.length ct, .slice ab blocks.length cb] 38)
        have orz := (or2.out.setCells [(⟨w.heap.size, 0, none⟩, .int .i64 ms), (⟨w.heap.size, 1, none⟩, .slice am mt.length cm), (⟨w.heap.size, 2, none⟩, .slice none 0 0), (⟨w.heap.size, 3, none⟩, .slice ar rev.length cr), (⟨w.heap.size, 4, none⟩, .bool false), (⟨w.heap.size, 5, none⟩, .int .i64 0), (⟨w.heap.size, 6, none⟩, .bool false), (⟨w.heap.size, 7, none⟩, .int .i64 0), (⟨w.heap.size, 8, none⟩, .bool false), (⟨w.heap.size, 9, none⟩, .int .i64 0)] _ (by simp)).alloc (.cells #[.int .i64 mk, .int .i64 ms, .int .i64 ma, .slice at_ tags.length ct, .slice ab blocks.length cb] 38)
        have lm1 : mt.length ≤ 5864062014805 := by omega
        have lr1 : rev.length ≤ 17592186044160 := by omega
        exact bodyPost_ret (v := .tuple #[.agg #[.int .i64 ms, .slice am mt.length cm, .slice none 0 0, .slice ar rev.length cr, .bool false, .int .i64 0, .bool false, .int .i64 0, .bool false, .int .i64 0], .bool true]) (by simp [results, Try.results56, go_sem, z0, z1, z2, z3, z4, z5, z6, z7, z8, z9, lt42]) rfl (.inl ⟨_, _, hp1.out.symm, _, rfl, ⟨_, _, _, rfl, omz.mono (by omega), Own.nil _ _ _ _ _, orz.mono (by omega), lm1, by simp, lr1⟩, kz, gz⟩)
      rw [if_neg h4] at hp1
      have e4 : (mk == 4) = false := beq_eq_false_iff_ne.2 h4
      by_cases h3 : mk = 3
      · rw [if_pos h3] at hp1
        have e3 : (mk == 3) = true := beq_iff_eq.2 h3
        replace hp1 := hid hp1
        clear h4 h3
        obtain ⟨rev2, hrv⟩ : ∃ r2, r2 = rev ++ blocks := ⟨_, rfl⟩
        have hrl2 : rev2.length = rev.length + blocks.length := by rw [hrv, List.length_append]
        replace hrv := hid hrv; replace hrl2 := hid hrl2
        go_wp2_with ((go_at_call 80; go_loud ((with_reducible refine (hN1.out s r _ (hd.out.below nx) kb hs.out).mono ?_); rintro e w1 ⟨rfl, kb1, gn⟩; replace om := om.grownBlk kb (by decide) gn; replace or_ := or_.grownBlk kb (by decide) gn; replace k4 := k4.grown gn (by simp; omega); replace k6 := k6.grown gn (by simp; omega); replace kb := kb1; replace g := gTrans g gn; replace nx := gBelow g hW hwW hbr; have lt4 := k4.lt; have lt6 := k6.lt)))
        go_wp2_with (first
          | ((go_at_call 16; go_loud ((with_reducible refine (hDs.out _ hsz1).mono ?_); rintro e w2 ⟨v2, rfl, hmk, hb⟩; obtain ⟨vt, vb, rfl, ot, ob, t1, t2⟩ := hmk; dsimp only at ot ob t1 t2 ⊢; obtain ⟨at_, ct, rfl⟩ := ot.form; obtain ⟨ab, cb, rfl⟩ := ob.form; replace om := om.below hb; replace or_ := or_.below hb; replace k4 := k4.step hb; replace k6 := k6.step hb; replace kb := kb.step hb; replace g := gBnew g hb; replace nx := nx.trans (hb.mono nx.size); have lt4 := k4.lt; have lt6 := k6.lt; (try clear z0 z1 z2 z3 z4 z5 z6 z7 z8 z9); (try clear f0 f1 f2 f3 f4 f5 f6 f7 f8 f9); have z0 := k4.cell 0; have z1 := k4.cell 1; have z2 := k4.cell 2; have z3 := k4.cell 3; have z4 := k4.cell 4; have z5 := k4.cell 5; have z6 := k4.cell 6; have z7 := k4.cell 7; have z8 := k4.cell 8; have z9 := k4.cell 9; have f0 := k4.free 0; have f1 := k4.free 1; have f2 := k4.free 2; have f3 := k4.free 3; have f4 := k4.free 4; have f5 := k4.free 5; have f6 := k4.free 6; have f7 := k4.free 7; have f8 := k4.free 8; have f9 := k4.free 9; simp only [List.getElem?_toArray, List.getElem?_cons_zero, List.getElem?_cons_succ] at z0 z1 z2 z3 z4 z5 z6 z7 z8 z9; have kb2 := hid kb; have g2 := hid g; have om2 := hid om; have or2 := hid or_; have lt42 := k4.lt; have km := Blk.new w2 #[.int .i64 mk, .int .i64 ms, .int .i64 ma, .slice at_ tags.length ct, .slice ab blocks.length cb] 38; have lg2 := g.size; replace ot := ot.alloc (.cells #[.int .i64 mk, .int .i64 ms, .int .i64 ma, .slice at_ tags.length ct, .slice ab blocks.length cb] 38); replace ob := ob.alloc (.cells #[.int .i64 mk, .int .i64 ms, .int .i64 ma, .slice at_ tags.length ct, .slice ab blocks.length cb] 38); have lw12 := hb.size; replace om := om.alloc (.cells #[.int .i64 mk, .int .i64 ms, .int .i64 ma, .slice at_ tags.length ct, .slice ab blocks.length cb] 38); replace or_ := or_.alloc (.cells #[.int .i64 mk, .int .i64 ms, .int .i64 ma, .slice at_ tags.length ct, .slice ab blocks.length cb] 38); replace k4 := k4.alloc (.cells #[.int .i64 mk, .int .i64 ms, .int .i64 ma, .slice at_ tags.length ct, .slice ab blocks.length cb] 38); replace k6 := k6.alloc (.cells #[.int .i64 mk, .int .i64 ms, .int .i64 ma, .slice at_ tags.length ct, .slice ab blocks.length cb] 38); replace kb := kb.alloc (.cells #[.int .i64 mk, .int .i64 ms, .int .i64 ma, .slice at_ tags.length ct, .slice ab blocks.length cb] 38); replace g := gAlloc g (.cells #[.int .i64 mk, .int .i64 ms, .int .i64 ma, .slice at_ tags.length ct, .slice ab blocks.length cb] 38); replace nx := bal nx (.cells #[.int .i64 mk, .int .i64 ms, .int .i64 ma, .slice at_ tags.length ct, .slice ab blocks.length cb] 38); have lt4 := k4.lt; have lt6 := k6.lt)); have y3 := k6.cell 3; have m4 := km.cell 4; simp only [List.getElem?_toArray, List.getElem?_cons_zero, List.getElem?_cons_succ] at y3 m4; have hwn := gn.size)
          | (at_builtin; go_loud (refine wpList_app rfl _ _ _ rfl (w.heap.size + 2) _ 1 8 intC_flat elemIntT or_ rfl blocks ob.reads rfl (by omega) (by unfold maxLen; omega) (by simp; omega) ?_; intro v7 w7 hown7 hg7; rw [← hrv.out] at hown7; obtain ⟨ar7, cr7, rfl⟩ := hown7.form; have k67 := k6.grown hg7 (or_.blk_ne k6 (by decide)); have yf3 := k67.free 3; have yc3 := k67.cell 3; simp only [List.getElem?_toArray, List.getElem?_cons_zero, List.getElem?_cons_succ] at yc3)))
        have om7 := (om.grownTy or_ (by decide) hg7).setCell (p := ⟨w.heap.size + 1, 3, none⟩) (by simp) (.slice ar7 rev2.length cr7)
        have or7 := hown7.setCell (p := ⟨w.heap.size + 1, 3, none⟩) (by simp) (.slice ar7 rev2.length cr7)
        have k47 := (k4.grown hg7 (or_.blk_ne k4 (by decide))).set_other ⟨w.heap.size + 1, 3, none⟩ (.slice ar7 rev2.length cr7) (by simp)
        have k68 := k67.set 3 (.slice ar7 rev2.length cr7)
        have kb7 := (kb.grown hg7 (or_.blk_ne kb (by decide))).set_other ⟨w.heap.size + 1, 3, none⟩ (.slice ar7 rev2.length cr7) (by simp; omega)
        have g7 := gSets [(⟨w.heap.size + 1, 3, none⟩, .slice ar7 rev2.length cr7)] _ (gNew g hg7 or_ (by omega)) (by simp)
        have s7 : w.heap.size + 2 ≤ (w7.setCell ⟨w.heap.size + 1, 3, none⟩ (.slice ar7 rev2.length cr7)).heap.size := by have := hg7.size; simp at this ⊢; omega
        replace om7 := hid om7; replace or7 := hid or7; replace k47 := hid k47; replace k68 := hid k68; replace kb7 := hid kb7; replace g7 := hid g7; replace s7 := hid s7
        go_wp2
        go_roundg r.length
        case measure => simp
        case rel => exact ⟨r, mt, rev2, rfl, hs2, hsz2, by rw [hrv.out]; exact hp1, _, _, om7.out, or7.out, k47.out, k68.out, kb7.out, g7.out, s7.out, by rw [hrl2.out]; omega, by omega⟩
      rw [if_neg h3] at hp1
      have e3 : (mk == 3) = false := beq_eq_false_iff_ne.2 h3
      by_cases h2 : mk = 2
      · rw [if_pos h2] at hp1
        have e2 : (mk == 2) = true := beq_iff_eq.2 h2
        replace hp1 := hid hp1
        clear h4 h3 h2
        go_wp2_with ((go_at_call 80; go_loud ((with_reducible refine (hN1.out s r _ (hd.out.below nx) kb hs.out).mono ?_); rintro e w1 ⟨rfl, kb1, gn⟩; replace om := om.grownBlk kb (by decide) gn; replace or_ := or_.grownBlk kb (by decide) gn; replace k4 := k4.grown gn (by simp; omega); replace k6 := k6.grown gn (by simp; omega); replace kb := kb1; replace g := gTrans g gn; replace nx := gBelow g hW hwW hbr; have lt4 := k4.lt; have lt6 := k6.lt)))
        go_wp2_with (((go_at_call 16; go_loud ((with_reducible refine (hDs.out _ hsz1).mono ?_); rintro e w2 ⟨v2, rfl, hmk, hb⟩; obtain ⟨vt, vb, rfl, ot, ob, t1, t2⟩ := hmk; dsimp only at ot ob t1 t2 ⊢; obtain ⟨at_, ct, rfl⟩ := ot.form; obtain ⟨ab, cb, rfl⟩ := ob.form; replace om := om.below hb; replace or_ := or_.below hb; replace k4 := k4.step hb; replace k6 := k6.step hb; replace kb := kb.step hb; replace g := gBnew g hb; replace nx := nx.trans (hb.mono nx.size); have lt4 := k4.lt; have lt6 := k6.lt; (try clear z0 z1 z2 z3 z4 z5 z6 z7 z8 z9); (try clear f0 f1 f2 f3 f4 f5 f6 f7 f8 f9); have z0 := k4.cell 0; have z1 := k4.cell 1; have z2 := k4.cell 2; have z3 := k4.cell 3; have z4 := k4.cell 4; have z5 := k4.cell 5; have z6 := k4.cell 6; have z7 := k4.cell 7; have z8 := k4.cell 8; have z9 := k4.cell 9; have f0 := k4.free 0; have f1 := k4.free 1; have f2 := k4.free 2; have f3 := k4.free 3; have f4 := k4.free 4; have f5 := k4.free 5; have f6 := k4.free 6; have f7 := k4.free 7; have f8 := k4.free 8; have f9 := k4.free 9; simp only [List.getElem?_toArray, List.getElem?_cons_zero, List.getElem?_cons_succ] at z0 z1 z2 z3 z4 z5 z6 z7 z8 z9; have kb2 := hid kb; have g2 := hid g; have om2 := hid om; have or2 := hid or_; have lt42 := k4.lt; have km := Blk.new w2 #[.int .i64 mk, .int .i64 ms, .int .i64 ma, .slice at_ tags.length ct, .slice ab blocks.length cb] 38; have lg2 := g.size; replace ot := ot.alloc (.cells #[.int .i64 mk, .int .i64 ms, .int .i64 ma, .slice at_ tags.length ct, .slice ab blocks.length cb] 38); replace ob := ob.alloc (.cells #[.int .i64 mk, .int .i64 ms, .int .i64 ma, .slice at_ tags.length ct, .slice ab blocks.length cb] 38); have lw12 := hb.size; replace om := om.alloc (.cells #[.int .i64 mk, .int .i64 ms, .int .i64 ma, .slice at_ tags.length ct, .slice ab blocks.length cb] 38); replace or_ := or_.alloc (.cells #[.int .i64 mk, .int .i64 ms, .int .i64 ma, .slice at_ tags.length ct, .slice ab blocks.length cb] 38); replace k4 := k4.alloc (.cells #[.int .i64 mk, .int .i64 ms, .int .i64 ma, .slice at_ tags.length ct, .slice ab blocks.length cb] 38); replace k6 := k6.alloc (.cells #[.int .i64 mk, .int .i64 ms, .int .i64 ma, .slice at_ tags.length ct, .slice ab blocks.length cb] 38); replace kb := kb.alloc (.cells #[.int .i64 mk, .int .i64 ms, .int .i64 ma, .slice at_ tags.length ct, .slice ab blocks.length cb] 38); replace g := gAlloc g (.cells #[.int .i64 mk, .int .i64 ms, .int .i64 ma, .slice at_ tags.length ct, .slice ab blocks.length cb] 38); replace nx := bal nx (.cells #[.int .i64 mk, .int .i64 ms, .int .i64 ma, .slice at_ tags.length ct, .slice ab blocks.length cb] 38); have lt4 := k4.lt; have lt6 := k6.lt)); have m3 := km.cell 3; simp only [List.getElem?_toArray, List.getElem?_cons_zero, List.getElem?_cons_succ] at m3; have hwn := gn.size))
        replace ot := ot.mono (base' := w.heap.size + 2) (by omega)
        have s2' : w.heap.size + 2 ≤ (w2.alloc (.cells #[.int .i64 mk, .int .i64 ms, .int .i64 ma, .slice at_ tags.length ct, .slice ab blocks.length cb] 38)).heap.size := by simp; omega
        have hr23 : mt.length + r.length ≤ 23 := by omega
        have ht0 := hid (show takeTags (tags.drop 0) r mt = takeTags tags r mt by rw [List.drop_zero])
        clear z0 z1 z2 z3 z4 z5 z6 z7 z8 z9 f0 f1 f2 f3 f4 f5 f6 f7 f8 f9
        go_loopw [12, 13, 14, 58] (fun _ _ _ i wx => ∃ (k : Nat) (rr : List ByteArray) (mtk : List Cpy), k ≤ tags.length ∧ i = .int .i64 (k : Int) ∧ Hid (takeTags (tags.drop k) rr mtk = takeTags tags r mt) ∧ Hid (sfx d A rr) ∧ Hid (∀ s ∈ rr, s.size ≤ 9223372036854775807) ∧ ∃ vmk, Own cpyC (w.heap.size + 2) 93 2 wx vmk mtk ∧ Own intC (w.heap.size + 2) 3 1 wx (.slice ar rev.length cr) rev ∧ Own tagC (w.heap.size + 2) 82 2 wx (.slice at_ tags.length ct) tags ∧ Blk wx w.heap.size #[.int .i64 0, .slice none 0 0, .slice none 0 0, .slice none 0 0, .bool false, .int .i64 0, .bool false, .int .i64 0, .bool false, .int .i64 0] 64 ∧ Blk wx (w.heap.size + 1) #[.int .i64 ms, vmk, .slice none 0 0, .slice ar rev.length cr, .bool false, .int .i64 0, .bool false, .int .i64 0, .bool false, .int .i64 0] 64 ∧ Blk wx br (rdrC vs vw A rr.length) 87 ∧ w.grownBy wx (some br) ∧ w.heap.size + 2 ≤ wx.heap.size ∧ mtk.length + rr.length ≤ 23 ∧ rr.length ≤ r.length) (fun _ _ _ i _ => tags.length - (intOf i).toNat)
        case atStart => exact ⟨0, r, mt, Nat.zero_le _, rfl, ht0, hs2, hsz2, _, om, or_, ot, k4, k6, kb, g, s2', hr23, Nat.le_refl _⟩
        case round =>
          clear om or_ ot k4 k6 kb g s2' nx kb2 g2 om2 or2 lt42 hr23 ht0 km ob m3 hs hs2 hsz2 lt4 lt6 lg2 lw12
          obtain ⟨k, rr, mtk, hk, rfl, htk, hs, hsz, vmk, om, or_, ot, k4, k6, kb, g, hg3, hb3, hrl⟩ := hrel
          obtain ⟨am2, cm2, rfl⟩ := om.form
          have lt4 := k4.lt
          have lt6 := k6.lt
          have nx := gBelow g hW hwW hbr
          by_cases hlt : k < tags.length
          · obtain ⟨bt, ot_, rfl, t0, t1⟩ := RL.at2 (fun x => .int .i64 x.block) (fun x => .bool x.esc) (fun _ => rfl) ot.reads hlt
            have hdk : tags.drop k = tags[k] :: tags.drop (k + 1) := List.drop_eq_getElem_cons hlt
            replace htk := htk.out
            rw [hdk] at htk
            clear hdk
            generalize tags[k] = x at *
            obtain ⟨xb, xe⟩ := x
            dsimp only at t0 t1
            have kt := Blk.new wr #[.int .i64 xb, .bool xe] 82
            cases rr with
            | nil =>
              have hno := hid (show parseT ms 25 r0 (txn0 ms) = none by
                have := hp1.out
                rw [← htk] at this
                exact this.symm)
              clear htk hp1
              have kb2 := hid kb; have g2 := hid g; have lt42 := k4.lt
              (try clear z0 z1 z2 z3 z4 z5 z6 z7 z8 z9); (try clear f0 f1 f2 f3 f4 f5 f6 f7 f8 f9); have z0 := k4.cell 0; have z1 := k4.cell 1; have z2 := k4.cell 2; have z3 := k4.cell 3; have z4 := k4.cell 4; have z5 := k4.cell 5; have z6 := k4.cell 6; have z7 := k4.cell 7; have z8 := k4.cell 8; have z9 := k4.cell 9; have f0 := k4.free 0; have f1 := k4.free 1; have f2 := k4.free 2; have f3 := k4.free 3; have f4 := k4.free 4; have f5 := k4.free 5; have f6 := k4.free 6; have f7 := k4.free 7; have f8 := k4.free 8; have f9 := k4.free 9; simp only [List.getElem?_toArray, List.getElem?_cons_zero, List.getElem?_cons_succ] at z0 z1 z2 z3 z4 z5 z6 z7 z8 z9
              replace kb := kb.alloc (.cells #[.int .i64 xb, .bool xe] 82)
              go_wp2_with (go_at_call 80; go_loud ((with_reducible refine (hN0.out _ kb).mono ?_); rintro e w1 ⟨rfl, rfl⟩))
              have kz := (Blk.setCells [(⟨w.heap.size, 0, none⟩, .int .i64 0), (⟨w.heap.size, 1, none⟩, .slice none 0 0), (⟨w.heap.size, 2, none⟩, .slice none 0 0), (⟨w.heap.size, 3, none⟩, .slice none 0 0), (⟨w.heap.size, 4, none⟩, .bool false), (⟨w.heap.size, 5, none⟩, .int .i64 0), (⟨w.heap.size, 6, none⟩, .bool false), (⟨w.heap.size, 7, none⟩, .int .i64 0), (⟨w.heap.size, 8, none⟩, .bool false), (⟨w.heap.size, 9, none⟩, .int .i64 0)] _ kb2.out (by simp; omega)).alloc (.cells #[.int .i64 xb, .bool xe] 82)
              have gz := gAlloc (gSets [(⟨w.heap.size, 0, none⟩, .int .i64 0), (⟨w.heap.size, 1, none⟩, .slice none 0 0), (⟨w.heap.size, 2, none⟩, .slice none 0 0), (⟨w.heap.size, 3, none⟩, .slice none 0 0), (⟨w.heap.size, 4, none⟩, .bool false), (⟨w.heap.size, 5, none⟩, .int .i64 0), (⟨w.heap.size, 6, none⟩, .bool false), (⟨w.heap.size, 7, none⟩, .int .i64 0), (⟨w.heap.size, 8, none⟩, .bool false), (⟨w.heap.size, 9, none⟩, .int .i64 0)] _ g2.out (by simp)) (.cells #[.int .i64 xb, .bool xe] 82)
              exact bodyPost_ret (v := .tuple #[.agg #[.int .i64 0, .slice none 0 0, .slice none 0 0, .slice none 0 0, .bool false, .int .i64 0, .bool false, .int .i64 0, .bool false, .int .i64 0], .bool false]) (by simp [results, Try.results56, go_sem, z0, z1, z2, z3, z4, z5, z6, z7, z8, z9, lt42]) rfl (.inr ⟨hno.out, rfl, _, kz, gz⟩)
            | cons s2 rr2 =>
              have hU2 := hid (hU.out s2 xe)
              have hsz1 := hsz.out s2 (by simp)
              have hszr := hid (fun x (hx : x ∈ rr2) => hsz.out x (by simp [hx]))
              have hsr := hid (sfx_cons hs.out).1
              have htk2 := hid (show takeTags (tags.drop (k + 1)) rr2 (mtk ++ [⟨xb, unescS s2 xe⟩]) = takeTags tags r mt from htk)
              clear htk hsz
              generalize unescS s2 xe = u2 at *
              simp only [List.length_cons] at hb3 hrl kb
              replace om := om.alloc (.cells #[.int .i64 xb, .bool xe] 82)
              replace or_ := or_.alloc (.cells #[.int .i64 xb, .bool xe] 82)
              replace ot := ot.alloc (.cells #[.int .i64 xb, .bool xe] 82)
              replace k4 := k4.alloc (.cells #[.int .i64 xb, .bool xe] 82)
              replace k6 := k6.alloc (.cells #[.int .i64 xb, .bool xe] 82)
              replace kb := kb.alloc (.cells #[.int .i64 xb, .bool xe] 82)
              replace g := gAlloc g (.cells #[.int .i64 xb, .bool xe] 82)
              replace nx := bal nx (.cells #[.int .i64 xb, .bool xe] 82)
              go_wp2_with (go_at_call 80; go_loud ((with_reducible refine (hN1.out s2 rr2 _ (hd.out.below nx) kb hs.out).mono ?_); rintro e w1 ⟨rfl, kb1, gn⟩; replace om := om.grownBlk kb (by decide) gn; replace or_ := or_.grownBlk kb (by decide) gn; replace ot := ot.grownBlk kb (by decide) gn; replace k4 := k4.grown gn (by simp; omega); replace k6 := k6.grown gn (by simp; omega); replace kt := kt.grown gn (by simp; omega); replace kb := kb1; replace g := gTrans g gn; have hwn := gn.size; simp only [World.size_alloc] at hwn; have y1 := k6.cell 1; have x0 := kt.cell 0; have x1 := kt.cell 1; simp only [List.getElem?_toArray, List.getElem?_cons_zero, List.getElem?_cons_succ] at y1 x0 x1))
              have lt6 := k6.lt
              have ltt := kt.lt
              go_region_law (first
                | (refine step_call 17 _ _ (by rfl) (by rfl) #[.string s2, .bool xe] (by rfl) ⟨_, _, Try.func17, by kernel_rfl, rfl⟩ (hU2.out _ hsz1) ?_; rintro e w3 ⟨rfl, hb3'⟩; refine ⟨_, rfl, ?_⟩; replace om := om.drew.below hb3'; replace or_ := or_.drew.below hb3'; replace ot := ot.drew.below hb3'; replace k4 := k4.drew.step hb3'; replace k6 := k6.drew.step hb3'; replace kb := kb.drew.step hb3'; replace kt := kt.drew.step hb3'; replace g := gBnew (gDrew g) hb3'; have hw3 := hb3'.size; simp only [World.size_drew] at hw3; have lt63 := k6.lt; have ltt3 := kt.lt; have e1 := k6.cell 1; have p0 := kt.cell 0; have p1 := kt.cell 1; simp only [List.getElem?_toArray, List.getElem?_cons_zero, List.getElem?_cons_succ] at e1 p0 p1)
                | (have t1 := om.alloc (.cells #[.int .i64 xb, .string u2] 93); have t2 : w.heap.size + 2 ≤ (w3.alloc (.cells #[.int .i64 xb, .string u2] 93)).heap.size := (by simp; omega); have t3 : (mtk.length + 1) * 24 ≤ 140737488355328 := (by omega); have t4 : Blk (w3.alloc (.cells #[.int .i64 xb, .string u2] 93)) w3.heap.size #[.int .i64 xb, .string u2] 93 := Blk.newAt (w := w3) rfl; refine step_push (by rfl) _ _ 57 (by rfl) (w.heap.size + 2) _ 2 24 cpyC_flat elemCpy t1 (by rfl) ⟨xb, u2⟩ w3.heap.size t4 (by rfl) (by rfl) mtk.length rfl t3 (by omega) t2 ?_; clear t2 t3 t4; intro a7 c7 w7 hown7 hb7 hg7; go_loud (have q6 := k6.alloc (.cells #[.int .i64 xb, .string u2] 93)); go_loud (have k67 := q6.grown hg7 (t1.blk_ne q6 (by decide))); have yf1 := k67.free 1; have yc1 : w7.cell? ⟨w.heap.size + 1, 1, none⟩ = some (.slice am2 mtk.length cm2) := k67.cell 1))
              all_goals
                have om7 := hown7.setCell (p := ⟨w.heap.size + 1, 1, none⟩) (by simp) (.slice a7 (mtk.length + 1) c7)
                have or7 := ((or_.alloc _).grownTy t1 (by decide) hg7).setCell (p := ⟨w.heap.size + 1, 1, none⟩) (by simp) (.slice a7 (mtk.length + 1) c7)
                have ot7 := ((ot.alloc _).grownTy t1 (by decide) hg7).setCell (p := ⟨w.heap.size + 1, 1, none⟩) (by simp) (.slice a7 (mtk.length + 1) c7)
                have k47 := ((k4.alloc _).grown hg7 (t1.blk_ne (k4.alloc _) (by decide))).set_other ⟨w.heap.size + 1, 1, none⟩ (.slice a7 (mtk.length + 1) c7) (by simp)
                have k68 := k67.set 1 (.slice a7 (mtk.length + 1) c7)
                have kb7 := ((kb.alloc _).grown hg7 (t1.blk_ne (kb.alloc _) (by decide))).set_other ⟨w.heap.size + 1, 1, none⟩ (.slice a7 (mtk.length + 1) c7) (by simp; omega)
                have g7 := gSets [(⟨w.heap.size + 1, 1, none⟩, .slice a7 (mtk.length + 1) c7)] _ (gNew (gAlloc g _) hg7 t1 (by omega)) (by simp)
                have s7 : w.heap.size + 2 ≤ (w7.setCell ⟨w.heap.size + 1, 1, none⟩ (.slice a7 (mtk.length + 1) c7)).heap.size := by have := hg7.size; simp at this ⊢; omega
                replace om7 := hid om7; replace or7 := hid or7; replace ot7 := hid ot7; replace k47 := hid k47; replace k68 := hid k68; replace kb7 := hid kb7; replace g7 := hid g7; replace s7 := hid s7
                go_wp2
                go_roundw
                case rel =>
                  first
                    | (refine ⟨k + 1, rr2, mtk ++ [⟨xb, u2⟩], by omega, ?_, htk2, hsr, hszr, _, om7.out, or7.out, ot7.out, k47.out, k68.out, kb7.out, g7.out, s7.out, by simp; omega, by omega⟩ <;> go_num; done)
                    | ((repeat apply Exists.intro); refine ⟨⟨k + 1, rr2, mtk ++ [⟨xb, u2⟩], by omega, ?_, htk2, hsr, hszr, _, om7.out, or7.out, ot7.out, k47.out, k68.out, kb7.out, g7.out, s7.out, by simp; omega, by omega⟩, rfl⟩ <;> go_num; done)
                case measure => simp [intOf]; omega
          · obtain rfl : k = tags.length := by omega
            have hp2 := hid (show parseT ms (rr.length + 1) rr ⟨ms, mtk, [], rev, hnd0, hnd0, hnd0⟩ = parseT ms 25 r0 (txn0 ms) by
              have h1 := htk.out
              have h2 := hp1.out
              rw [List.drop_length] at h1
              rw [← h1] at h2
              refine Eq.trans ?_ h2
              exact parseT_fuel (by omega) (by omega))
            clear htk hp1
            go_wp2
            go_roundg rr.length
            case measure => simp; omega
            case rel => exact ⟨rr, mtk, rev, rfl, hs, hsz, hp2, _, _, om, or_, k4, k6, kb, g, hg3, by omega, by omega⟩
      · rw [if_neg h2] at hp1
        have e2 : (mk == 2) = false := beq_eq_false_iff_ne.2 h2
        have hno := hid hp1.symm
        clear h4 h3 h2 hp1
        go_wp2_with ((go_at_call 80; go_loud ((with_reducible refine (hN1.out s r _ (hd.out.below nx) kb hs.out).mono ?_); rintro e w1 ⟨rfl, kb1, gn⟩; replace om := om.grownBlk kb (by decide) gn; replace or_ := or_.grownBlk kb (by decide) gn; replace k4 := k4.grown gn (by simp; omega); replace k6 := k6.grown gn (by simp; omega); replace kb := kb1; replace g := gTrans g gn; replace nx := gBelow g hW hwW hbr; have lt4 := k4.lt; have lt6 := k6.lt)))
        go_wp2_with ((go_at_call 16; go_loud ((with_reducible refine (hDs.out _ hsz1).mono ?_); rintro e w2 ⟨v2, rfl, hmk, hb⟩; obtain ⟨vt, vb, rfl, ot, ob, t1, t2⟩ := hmk; dsimp only at ot ob t1 t2 ⊢; obtain ⟨at_, ct, rfl⟩ := ot.form; obtain ⟨ab, cb, rfl⟩ := ob.form; replace om := om.below hb; replace or_ := or_.below hb; replace k4 := k4.step hb; replace k6 := k6.step hb; replace kb := kb.step hb; replace g := gBnew g hb; replace nx := nx.trans (hb.mono nx.size); have lt4 := k4.lt; have lt6 := k6.lt; (try clear z0 z1 z2 z3 z4 z5 z6 z7 z8 z9); (try clear f0 f1 f2 f3 f4 f5 f6 f7 f8 f9); have z0 := k4.cell 0; have z1 := k4.cell 1; have z2 := k4.cell 2; have z3 := k4.cell 3; have z4 := k4.cell 4; have z5 := k4.cell 5; have z6 := k4.cell 6; have z7 := k4.cell 7; have z8 := k4.cell 8; have z9 := k4.cell 9; have f0 := k4.free 0; have f1 := k4.free 1; have f2 := k4.free 2; have f3 := k4.free 3; have f4 := k4.free 4; have f5 := k4.free 5; have f6 := k4.free 6; have f7 := k4.free 7; have f8 := k4.free 8; have f9 := k4.free 9; simp only [List.getElem?_toArray, List.getElem?_cons_zero, List.getElem?_cons_succ] at z0 z1 z2 z3 z4 z5 z6 z7 z8 z9; have kb2 := hid kb; have g2 := hid g; have om2 := hid om; have or2 := hid or_; have lt42 := k4.lt; have km := Blk.new w2 #[.int .i64 mk, .int .i64 ms, .int .i64 ma, .slice at_ tags.length ct, .slice ab blocks.length cb] 38; have lg2 := g.size; replace ot := ot.alloc (.cells #[.int .i64 mk, .int .i64 ms, .int .i64 ma, .slice at_ tags.length ct, .slice ab blocks.length cb] 38); replace ob := ob.alloc (.cells #[.int .i64 mk, .int .i64 ms, .int .i64 ma, .slice at_ tags.length ct, .slice ab blocks.length cb] 38); have lw12 := hb.size; replace om := om.alloc (.cells #[.int .i64 mk, .int .i64 ms, .int .i64 ma, .slice at_ tags.length ct, .slice ab blocks.length cb] 38); replace or_ := or_.alloc (.cells #[.int .i64 mk, .int .i64 ms, .int .i64 ma, .slice at_ tags.length ct, .slice ab blocks.length cb] 38); replace k4 := k4.alloc (.cells #[.int .i64 mk, .int .i64 ms, .int .i64 ma, .slice at_ tags.length ct, .slice ab blocks.length cb] 38); replace k6 := k6.alloc (.cells #[.int .i64 mk, .int .i64 ms, .int .i64 ma, .slice at_ tags.length ct, .slice ab blocks.length cb] 38); replace kb := kb.alloc (.cells #[.int .i64 mk, .int .i64 ms, .int .i64 ma, .slice at_ tags.length ct, .slice ab blocks.length cb] 38); replace g := gAlloc g (.cells #[.int .i64 mk, .int .i64 ms, .int .i64 ma, .slice at_ tags.length ct, .slice ab blocks.length cb] 38); replace nx := bal nx (.cells #[.int .i64 mk, .int .i64 ms, .int .i64 ma, .slice at_ tags.length ct, .slice ab blocks.length cb] 38); have lt4 := k4.lt; have lt6 := k6.lt)))
        have kz := (Blk.setCells [(⟨w.heap.size, 0, none⟩, .int .i64 0), (⟨w.heap.size, 1, none⟩, .slice none 0 0), (⟨w.heap.size, 2, none⟩, .slice none 0 0), (⟨w.heap.size, 3, none⟩, .slice none 0 0), (⟨w.heap.size, 4, none⟩, .bool false), (⟨w.heap.size, 5, none⟩, .int .i64 0), (⟨w.heap.size, 6, none⟩, .bool false), (⟨w.heap.size, 7, none⟩, .int .i64 0), (⟨w.heap.size, 8, none⟩, .bool false), (⟨w.heap.size, 9, none⟩, .int .i64 0)] _ kb2.out (by simp; omega)).alloc (.cells #[.int .i64 mk, .int .i64 ms, .int .i64 ma, .slice at_ tags.length ct, .slice ab blocks.length cb] 38)
        have gz := gAlloc (gSets [(⟨w.heap.size, 0, none⟩, .int .i64 0), (⟨w.heap.size, 1, none⟩, .slice none 0 0), (⟨w.heap.size, 2, none⟩, .slice none 0 0), (⟨w.heap.size, 3, none⟩, .slice none 0 0), (⟨w.heap.size, 4, none⟩, .bool false), (⟨w.heap.size, 5, none⟩, .int .i64 0), (⟨w.heap.size, 6, none⟩, .bool false), (⟨w.heap.size, 7, none⟩, .int .i64 0), (⟨w.heap.size, 8, none⟩, .bool false), (⟨w.heap.size, 9, none⟩, .int .i64 0)] _ g2.out (by simp)) (.cells #[.int .i64 mk, .int .i64 ms, .int .i64 ma, .slice at_ tags.length ct, .slice ab blocks.length cb] 38)
        exact bodyPost_ret (v := .tuple #[.agg #[.int .i64 0, .slice none 0 0, .slice none 0 0, .slice none 0 0, .bool false, .int .i64 0, .bool false, .int .i64 0, .bool false, .int .i64 0], .bool false]) (by simp [results, Try.results56, go_sem, z0, z1, z2, z3, z4, z5, z6, z7, z8, z9, lt42]) rfl (.inr ⟨hno.out, rfl, _, kz, gz⟩)
end Go.Proofs.Ytjhmfljlclajnab

namespace Go.Proofs.Ytjhmfljlclajnab
open Go.RowKit Wb
set_option linter.unusedVariables false
set_option linter.unusedSimpArgs false
set_option maxRecDepth 100000
set_option maxHeartbeats 40000000
def OneSaid : Prop := ∀ (d : Dsk) (W : World) (br : Nat) (vs vw : Value) (A seq : Int) (r0 : List ByteArray) (w : World), Below W.heap.size W w → RDisk W (.agg #[vs, vw]) d → W.heap.size ≤ br → sfx d A r0 → (∀ s ∈ r0, s.size ≤ 9223372036854775807) → Blk w br (rdrC vs vw A r0.length) 87 →
    Calls Try.prog 56 #[.pointer (some ⟨br, 0, none⟩), .int .i64 seq] w fun e w' => OneP seq r0 br vs vw A w e w'
section
variable (hOne : OneSaid) (d : Dsk) (W : World) (br : Nat) (vs vw : Value) (A seq : Int) (r0 : List ByteArray) (w : World) (hW : Below W.heap.size W w) (hd : RDisk W (.agg #[vs, vw]) d) (hbr : W.heap.size ≤ br) (hs0 : sfx d A r0) (hsz : ∀ s ∈ r0, s.size ≤ 9223372036854775807) (kb : Blk w br (rdrC vs vw A r0.length) 87)
include hOne hW hd hbr hs0 hsz kb
theorem one_some {t : Txn} {r' : List ByteArray} (hp : parseT seq 25 r0 (txn0 seq) = some (t, r')) :
    Calls Try.prog 56 #[.pointer (some ⟨br, 0, none⟩), .int .i64 seq] w fun e w' => ∃ v, e = .returned (.tuple #[v, .bool true]) ∧ OTxn w.heap.size 93 3 w' v t ∧ Blk w' br (rdrC vs vw A r'.length) 87 ∧ w.grownBy w' (some br) := by
  refine (hOne d W br vs vw A seq r0 w hW hd hbr hs0 hsz kb).mono fun e w' h => ?_
  rcases h with ⟨t2, r2, h1, h2⟩ | ⟨h1, _⟩
  · rw [hp] at h1
    simp only [Option.some.injEq, Prod.mk.injEq] at h1
    obtain ⟨rfl, rfl⟩ := h1
    exact h2
  · rw [hp] at h1; cases h1
theorem one_none (hp : parseT seq 25 r0 (txn0 seq) = none) :
    Calls Try.prog 56 #[.pointer (some ⟨br, 0, none⟩), .int .i64 seq] w fun e w' => e = .returned (.tuple #[.agg #[.int .i64 0, .slice none 0 0, .slice none 0 0, .slice none 0 0, .bool false, .int .i64 0, .bool false, .int .i64 0, .bool false, .int .i64 0], .bool false]) ∧ ∃ n, Blk w' br (rdrC vs vw A n) 87 ∧ w.grownBy w' (some br) := by
  refine (hOne d W br vs vw A seq r0 w hW hd hbr hs0 hsz kb).mono fun e w' h => ?_
  rcases h with ⟨t2, r2, h1, _⟩ | ⟨_, h2⟩
  · rw [hp] at h1; cases h1
  · exact h2
end
end Go.Proofs.Ytjhmfljlclajnab

namespace Wb
open Go Go.RowKit
/-- Copies of the blocks 0 to 11, by number, as a function has them. -/
def viewN (f : Int → Option ByteArray) (n : Nat) : List Cpy := (List.range n).filterMap fun (k : Nat) => (f k).map fun t => (⟨k, t⟩ : Cpy)
def viewL (f : Int → Option ByteArray) : List Cpy := viewN f 12
/-- What a transaction makes of block b's copy. -/
def turnT (t : Txn) (o : Option ByteArray) (b : Int) : Option ByteArray := match getC t.mt b with | some s => some s | none => if inI t.rev b then none else o
def newestB (l : List Txn) (b : Int) : Option ByteArray := l.foldl (fun o t => turnT t o b) none
def newestL (l : List Txn) : List Cpy := viewL (newestB l)
theorem newestB_snoc (l : List Txn) (t : Txn) (b : Int) : newestB (l ++ [t]) b = turnT t (newestB l b) b := by simp [newestB]
theorem newestB_step {l : List Txn} {k : Nat} (hk : k < l.length) (b : Int) : newestB (l.take (k + 1)) b = turnT l[k] (newestB (l.take k) b) b := by
  rw [List.take_succ_eq_append_getElem hk, newestB_snoc]
theorem viewN_succ (f : Int → Option ByteArray) (n : Nat) : viewN f (n + 1) = viewN f n ++ ((f n).map fun t => (⟨n, t⟩ : Cpy)).toList := by
  unfold viewN
  rw [List.range_succ, List.filterMap_append]
  cases h : (f n).map fun t => (⟨n, t⟩ : Cpy) <;> simp [h]
theorem viewN_len (f : Int → Option ByteArray) (n : Nat) : (viewN f n).length ≤ n := by
  unfold viewN
  exact Nat.le_trans (List.length_filterMap_le _ _) (by simp)
theorem viewN_congr {f g : Int → Option ByteArray} {n : Nat} (h : ∀ k : Nat, k < n → f k = g k) : viewN f n = viewN g n := by
  induction n with
  | zero => rfl
  | succ n ih => rw [viewN_succ, viewN_succ, ih (fun k hk => h k (by omega)), h n (by omega)]
theorem viewL_congr {f g : Int → Option ByteArray} (h : ∀ k : Nat, k < 12 → f k = g k) : viewL f = viewL g := viewN_congr h
theorem viewN_mem {f : Int → Option ByteArray} {n : Nat} {c : Cpy} : c ∈ viewN f n ↔ ∃ k : Nat, k < n ∧ c.block = k ∧ f k = some c.text := by
  unfold viewN
  rw [List.mem_filterMap]
  constructor
  · rintro ⟨k, hk, hc⟩
    rw [Option.map_eq_some_iff] at hc
    obtain ⟨t, ht, rfl⟩ := hc
    exact ⟨k, List.mem_range.1 hk, rfl, ht⟩
  · rintro ⟨k, hk, hb, ht⟩
    refine ⟨k, List.mem_range.2 hk, ?_⟩
    rw [ht, Option.map_some]
    obtain ⟨b, t⟩ := c
    simp only at hb
    subst hb
    rfl
theorem getC_viewN {f : Int → Option ByteArray} {n : Nat} (b : Int) : getC (viewN f n) b = if 0 ≤ b ∧ b < n then f b else none := by
  induction n with
  | zero =>
    rw [if_neg (by omega)]
    rfl
  | succ n ih =>
    rw [viewN_succ]
    have happ : ∀ (l1 l2 : List Cpy), getC (l1 ++ l2) b = (getC l1 b).or (getC l2 b) := fun l1 l2 => by
      unfold getC
      rw [List.find?_append]
      cases List.find? (fun c => c.block == b) l1 <;> rfl
    rw [happ, ih]
    by_cases h1 : 0 ≤ b ∧ b < n
    · rw [if_pos h1, if_pos (by omega)]
      cases hf : f b with
      | some s => rfl
      | none =>
        cases hg : f n with
        | none => rfl
        | some s =>
          have : ((n : Int) == b) = false := beq_eq_false_iff_ne.2 (by omega)
          simp [getC, this]
    · rw [if_neg h1, Option.none_or]
      by_cases h2 : b = n
      · subst h2
        rw [if_pos (by omega)]
        cases hg : f n with
        | none => rfl
        | some s => simp [getC]
      · rw [if_neg (by omega)]
        cases hg : f n with
        | none => rfl
        | some s =>
          have : ((n : Int) == b) = false := beq_eq_false_iff_ne.2 (fun h => h2 h.symm)
          simp [getC, this]
theorem getC_viewL {f : Int → Option ByteArray} {b : Int} (h0 : 0 ≤ b) (h1 : b < 12) : getC (viewL f) b = f b := by
  unfold viewL
  rw [getC_viewN, if_pos ⟨h0, by simpa using h1⟩]
/-- 'rest' upon such a list. -/
theorem dropC_view (f : Int → Option ByteArray) (b : Int) : dropC (viewL f) b = viewL (fun x => if x = b then none else f x) := by
  unfold viewL
  generalize 12 = n
  induction n with
  | zero => rfl
  | succ n ih =>
    have happ : ∀ (l1 l2 : List Cpy), dropC (l1 ++ l2) b = dropC l1 b ++ dropC l2 b := fun l1 l2 => List.filter_append _ _
    rw [viewN_succ, viewN_succ, happ, ih]
    congr 1
    by_cases h : (n : Int) = b
    · rw [if_pos h]
      cases hf : f n with
      | none => rfl
      | some s => simp [dropC, h]
    · rw [if_neg h]
      cases hf : f n with
      | none => rfl
      | some s => simp [dropC, h]
/-- 'with' upon such a list. -/
theorem withL_view (f : Int → Option ByteArray) (b : Int) (s : ByteArray) : withL (viewL f) b s = viewL (fun x => if x = b then some s else f x) := by
  unfold withL
  have key : ∀ n : Nat, n ≤ 12 → withN (viewL f) b s n = viewN (fun x => if x = b then some s else f x) n := by
    intro n
    induction n with
    | zero => intro _; rfl
    | succ n ih =>
      intro hn
      rw [withN_step, viewN_succ, ih (by omega)]
      congr 1
      unfold withK
      by_cases h : (n : Int) = b
      · rw [if_pos h, if_pos h, Option.map_some, h]
      · rw [if_neg h, if_neg h, getC_viewL (by omega) (by omega)]
  exact key 12 (Nat.le_refl _)

/-! ### Lists that rise -/
theorem rise_get {l : List Int} (h : rise l = true) {k : Nat} (hk : k < l.length) : 0 ≤ l[k] ∧ l[k] < 12 ∧ ∀ i (hi : i < k), l[i] < l[k] := by
  have hr := (rise_iff l).1 h
  have hg : ∀ j (hj : j < l.length), l.getD j 0 = l[j] := fun j hj => by simp [hj]
  have hlt : ∀ d i, i + d < l.length → 0 < d → l.getD i 0 < l.getD (i + d) 0 := by
    intro d
    induction d with
    | zero => intro i _ h; omega
    | succ d ih =>
      intro i hi _
      have h1 := (hr (i + (d + 1)) hi).2.2 (by omega)
      rw [show i + (d + 1) - 1 = i + d by omega] at h1
      by_cases hd : 0 < d
      · have := ih i (by omega) hd
        omega
      · obtain rfl : d = 0 := by omega
        simpa using h1
  have h0 := hr k hk
  refine ⟨by rw [← hg k hk]; exact h0.1, by rw [← hg k hk]; exact h0.2.1, fun i hi => ?_⟩
  have := hlt (k - i) i (by omega) (by omega)
  rw [show i + (k - i) = k by omega, hg i (by omega), hg k hk] at this
  exact this
theorem copies_get {l : List Cpy} (h : copiesB l = true) {k : Nat} (hk : k < l.length) : isBlk l[k].block = true ∧ l[k].text.size = 32 ∧ (∀ i (hi : i < k), l[i].block < l[k].block) ∧ hasB (l.take k) l[k].block = false := by
  unfold copiesB at h
  rw [Bool.and_eq_true] at h
  have hk' : k < (blks l).length := by simpa [blks] using hk
  obtain ⟨g1, g2, g3⟩ := rise_get h.1 hk'
  have e : ∀ j (hj : j < l.length), (blks l)[j]'(by simpa [blks] using hj) = l[j].block := fun j hj => by simp [blks]
  rw [e k hk] at g1 g2
  have g4 : ∀ i (hi : i < k), l[i].block < l[k].block := fun i hi => by
    have := g3 i hi
    rw [e k hk, e i (by omega)] at this
    exact this
  refine ⟨decide_eq_true ⟨g1, g2⟩, of_decide_eq_true (List.all_eq_true.1 h.2 _ (List.getElem_mem hk)), g4, ?_⟩
  unfold hasB
  rw [List.any_eq_false]
  intro c hc
  obtain ⟨i, hi, rfl⟩ := List.mem_iff_getElem.1 hc
  rw [List.length_take] at hi
  rw [List.getElem_take]
  have := g4 i (by omega)
  simp only [beq_iff_eq]
  omega
theorem copies_len {l : List Cpy} (h : copiesB l = true) : l.length ≤ 12 := by
  by_cases hl : l.length ≤ 12
  · exact hl
  · exfalso
    have hk : ∀ k (hk : k < l.length), (k : Int) ≤ l[k].block := by
      intro k
      induction k with
      | zero => intro hk; have := of_decide_eq_true (copies_get h hk).1; exact this.1
      | succ k ih =>
        intro hk
        have h1 := ih (by omega)
        have h2 := (copies_get h hk).2.2.1 k (by omega)
        omega
    have h12 := of_decide_eq_true (copies_get h (k := 12) (by omega)).1
    have := hk 12 (by omega)
    omega
theorem rise_len {l : List Int} (h : rise l = true) : l.length ≤ 12 := by
  by_cases hl : l.length ≤ 12
  · exact hl
  · exfalso
    have hk : ∀ k (hk : k < l.length), (k : Int) ≤ l[k] := by
      intro k
      induction k with
      | zero => intro hk; exact (rise_get h hk).1
      | succ k ih =>
        intro hk
        have h1 := ih (by omega)
        have h2 := (rise_get h hk).2.2 k (by omega)
        omega
    have h12 := (rise_get h (k := 12) (by omega)).2.1
    have := hk 12 (by omega)
    omega

/-! ### One transaction's turn -/
def revF (g : Int → Option ByteArray) (r : List Int) : Int → Option ByteArray := fun x => if inI r x then none else g x
theorem revF_step (g : Int → Option ByteArray) {r : List Int} {k : Nat} (hk : k < r.length) : (fun x => if x = r[k] then none else revF g (r.take k) x) = revF g (r.take (k + 1)) := by
  funext x
  unfold revF
  rw [inI_step hk]
  by_cases h : x = r[k]
  · have hb : (r[k] == x) = true := beq_iff_eq.2 h.symm
    rw [if_pos h, hb, Bool.or_true, if_pos rfl]
  · have hb : (r[k] == x) = false := beq_eq_false_iff_ne.2 (fun hh => h hh.symm)
    rw [if_neg h, hb, Bool.or_false]
def metaF (g : Int → Option ByteArray) (m : List Cpy) : Int → Option ByteArray := m.foldl (fun f c x => if x = c.block then some c.text else f x) g
theorem metaF_step (g : Int → Option ByteArray) {m : List Cpy} {k : Nat} (hk : k < m.length) : (fun x => if x = m[k].block then some m[k].text else metaF g (m.take k) x) = metaF g (m.take (k + 1)) := by
  unfold metaF
  rw [List.take_succ_eq_append_getElem hk, List.foldl_append]
  rfl
theorem metaF_good {m : List Cpy} (h : copiesB m = true) (g : Int → Option ByteArray) (x : Int) : metaF g m x = match getC m x with | some s => some s | none => g x := by
  have key : ∀ k, k ≤ m.length → metaF g (m.take k) x = match getC (m.take k) x with | some s => some s | none => g x := by
    intro k
    induction k with
    | zero => intro _; rfl
    | succ k ih =>
      intro hk
      have hk' : k < m.length := by omega
      rw [← metaF_step g hk']
      have hd := (copies_get h hk').2.2.2
      have hget : getC (m.take (k + 1)) x = (getC (m.take k) x).or (if m[k].block = x then some m[k].text else none) := by
        unfold getC
        rw [List.take_succ_eq_append_getElem hk', List.find?_append]
        cases hf : (m.take k).find? (fun c => c.block == x) with
        | some c => rfl
        | none =>
          by_cases hb : m[k].block = x
          · simp [hb]
          · have : (m[k].block == x) = false := beq_eq_false_iff_ne.2 hb
            simp [hb, this]
      rw [hget]
      show (if x = m[k].block then some m[k].text else metaF g (m.take k) x) = _
      by_cases hb : x = m[k].block
      · have hn := getC_none hd
        rw [← hb] at hn
        rw [if_pos hb, hn, if_pos hb.symm]
        rfl
      · rw [if_neg hb, if_neg (fun hh => hb hh.symm), Option.or_none]
        exact ih (by omega)
  have := key m.length (Nat.le_refl _)
  rwa [List.take_length] at this
theorem turn_good {t : Txn} (h : copiesB t.mt = true) (g : Int → Option ByteArray) : metaF (revF g t.rev) t.mt = fun b => turnT t (g b) b := by
  funext b
  rw [metaF_good h]
  unfold turnT revF
  cases getC t.mt b <;> rfl
theorem good_meta {t : Txn} (h : goodT t = true) {k : Nat} (hk : k < t.mt.length) : inI t.rev t.mt[k].block = false ∧ hasB t.dt t.mt[k].block = false := by
  obtain ⟨_, _, _, _, ha, _⟩ := (goodT_iff t).1 h
  unfold apart at ha
  rw [Bool.and_eq_true, List.all_eq_true, List.all_eq_true] at ha
  constructor
  · unfold inI
    rw [List.any_eq_false]
    intro x hx hh
    rw [beq_iff_eq] at hh
    subst hh
    have := ha.1 _ hx
    rw [Bool.and_eq_true] at this
    have h2 := hasB_hit hk rfl
    rw [h2] at this
    cases this.1
  · have := ha.2 _ (List.getElem_mem hk)
    simpa using this
end Wb

namespace Wb
open Go Go.RowKit
def cntI (bs : List Int) (x : Int) : Int := (bs.countP (fun b => b == x) : Nat)
def cntL (bs : List Int) : List Int := (List.range 12).map fun (k : Nat) => cntI bs k
theorem cnt_append (l1 l2 : List Int) (x : Int) : cntI (l1 ++ l2) x = cntI l1 x + cntI l2 x := by simp [cntI]
theorem cnt_one (b x : Int) : cntI [b] x = if b = x then 1 else 0 := by
  by_cases h : b = x <;> simp [cntI, h]
theorem cntL_len (bs : List Int) : (cntL bs).length = 12 := by simp [cntL]
theorem cntL_nil : cntL [] = List.replicate 12 0 := rfl
theorem cntL_get (bs : List Int) {k : Nat} (hk : k < 12) : (cntL bs)[k]'(by rw [cntL_len]; exact hk) = cntI bs k := by simp [cntL]
theorem cnt_nonneg (bs : List Int) (x : Int) : 0 ≤ cntI bs x := by unfold cntI; omega
theorem cnt_le (bs : List Int) (x : Int) : cntI bs x ≤ bs.length := by
  unfold cntI
  have := List.countP_le_length (p := fun b => b == x) (l := bs)
  omega
theorem cntL_step (bs : List Int) {b : Nat} (_hb : b < 12) : cntL (bs ++ [(b : Int)]) = (cntL bs).set b (cntI bs b + 1) := by
  refine List.ext_getElem (by simp [cntL]) fun n h1 h2 => ?_
  rw [cntL_len] at h1
  rw [cntL_get _ h1, List.getElem_set, cnt_append, cnt_one]
  by_cases h : b = n
  · subst h; rw [if_pos rfl, if_pos rfl]
  · rw [if_neg (by omega), if_neg h, cntL_get _ h1]; omega
theorem inI_false {l : List Int} {x : Int} (h : ∀ b ∈ l, b ≠ x) : inI l x = false := by
  unfold inI
  rw [List.any_eq_false]
  intro b hb hh
  exact h b hb (beq_iff_eq.1 hh)
theorem cnt_rise {r : List Int} (h : ∀ k (hk : k < r.length), ∀ i (hi : i < k), r[i] < r[k]) (x : Int) : cntI r x = if inI r x then 1 else 0 := by
  have key : ∀ k, k ≤ r.length → cntI (r.take k) x = if inI (r.take k) x then 1 else 0 := by
    intro k
    induction k with
    | zero => intro _; rfl
    | succ k ih =>
      intro hk
      have hk' : k < r.length := by omega
      rw [inI_step hk', List.take_succ_eq_append_getElem hk', cnt_append, cnt_one, ih (by omega)]
      by_cases hx : r[k] = x
      · have hn : inI (r.take k) x = false := inI_false fun b hb => by
          obtain ⟨i, hi, rfl⟩ := List.mem_iff_getElem.1 hb
          rw [List.length_take] at hi
          rw [List.getElem_take]
          have := h k hk' i (by omega)
          omega
        rw [hn, if_pos hx, beq_iff_eq.2 hx]
        simp
      · have hb : (r[k] == x) = false := beq_eq_false_iff_ne.2 hx
        rw [if_neg hx, hb, Bool.or_false]
        omega
  have := key r.length (Nat.le_refl _)
  rwa [List.take_length] at this
theorem inI_blks (l : List Cpy) (x : Int) : inI (blks l) x = hasB l x := by simp [inI, blks, hasB, List.any_map, Function.comp_def]
theorem cnt_copies {l : List Cpy} (h : copiesB l = true) (x : Int) : cntI (blks l) x = if hasB l x then 1 else 0 := by
  rw [← inI_blks]
  refine cnt_rise (fun k hk i hi => ?_) x
  have hk' : k < l.length := by simpa [blks] using hk
  have := (copies_get h hk').2.2.1 i hi
  simpa [blks] using this
theorem cnt_rev {r : List Int} (h : rise r = true) (x : Int) : cntI r x = if inI r x then 1 else 0 := cnt_rise (fun _ hk i hi => (rise_get h hk).2.2 i hi) x
theorem hasB_mem {l : List Cpy} {b : Int} : hasB l b = true ↔ ∃ c ∈ l, c.block = b := by simp [hasB]
theorem inI_mem {l : List Int} {b : Int} : inI l b = true ↔ b ∈ l := by simp [inI]
theorem apart_iff (t : Txn) : apart t = true ↔ (∀ x, ¬ (inI t.rev x = true ∧ hasB t.mt x = true)) ∧ (∀ x, ¬ (inI t.rev x = true ∧ hasB t.dt x = true)) ∧ (∀ x, ¬ (hasB t.mt x = true ∧ hasB t.dt x = true)) := by
  unfold apart
  rw [Bool.and_eq_true, List.all_eq_true, List.all_eq_true]
  constructor
  · rintro ⟨h1, h2⟩
    refine ⟨fun x ⟨hx, hy⟩ => ?_, fun x ⟨hx, hy⟩ => ?_, fun x ⟨hx, hy⟩ => ?_⟩
    · have := h1 x (inI_mem.1 hx)
      rw [hy] at this; cases this
    · have := h1 x (inI_mem.1 hx)
      rw [hy] at this; simp at this
    · obtain ⟨c, hc, rfl⟩ := hasB_mem.1 hx
      have := h2 c hc
      rw [hy] at this; cases this
  · rintro ⟨h1, h2, h3⟩
    refine ⟨fun b hb => ?_, fun c hc => ?_⟩
    · have hx := inI_mem.2 hb
      cases hm : hasB t.mt b
      · cases hd : hasB t.dt b
        · rfl
        · exact absurd ⟨hx, hd⟩ (h2 b)
      · exact absurd ⟨hx, hm⟩ (h1 b)
    · cases hd : hasB t.dt c.block
      · rfl
      · exact absurd ⟨hasB_mem.2 ⟨c, hc, rfl⟩, hd⟩ (h3 c.block)
/-- All that a transaction names. -/
def allOf (t : Txn) : List Int := (blks t.mt ++ blks t.dt) ++ t.rev
theorem cnt_all {t : Txn} (h1 : copiesB t.mt = true) (h2 : copiesB t.dt = true) (h3 : rise t.rev = true) (x : Int) :
    cntI (allOf t) x = (if hasB t.mt x then 1 else 0) + (if hasB t.dt x then 1 else 0) + (if inI t.rev x then 1 else 0) := by
  unfold allOf
  rw [cnt_append, cnt_append, cnt_copies h1, cnt_copies h2, cnt_rev h3]
theorem apart_cnt {t : Txn} (h1 : copiesB t.mt = true) (h2 : copiesB t.dt = true) (h3 : rise t.rev = true) (h : apart t = true) (x : Int) : cntI (allOf t) x ≤ 1 := by
  rw [cnt_all h1 h2 h3]
  obtain ⟨g1, g2, g3⟩ := (apart_iff t).1 h
  have g1 := g1 x; have g2 := g2 x; have g3 := g3 x
  cases hm : hasB t.mt x <;> cases hd : hasB t.dt x <;> cases hr : inI t.rev x <;> simp_all
theorem cnt_apart {t : Txn} (h1 : copiesB t.mt = true) (h2 : copiesB t.dt = true) (h3 : rise t.rev = true) (h : ∀ k : Nat, k < 12 → cntI (allOf t) k ≤ 1) : apart t = true := by
  have hall : ∀ x, cntI (allOf t) x ≤ 1 := by
    intro x
    by_cases hx : 0 ≤ x ∧ x < 12
    · have := h x.toNat (by omega)
      rwa [Int.toNat_of_nonneg hx.1] at this
    · rw [cnt_all h1 h2 h3]
      have hm : hasB t.mt x = false := by
        cases hh : hasB t.mt x
        · rfl
        · obtain ⟨c, hc, rfl⟩ := hasB_mem.1 hh
          obtain ⟨k, hk, rfl⟩ := List.mem_iff_getElem.1 hc
          exact absurd (of_decide_eq_true (copies_get h1 hk).1) hx
      have hd : hasB t.dt x = false := by
        cases hh : hasB t.dt x
        · rfl
        · obtain ⟨c, hc, rfl⟩ := hasB_mem.1 hh
          obtain ⟨k, hk, rfl⟩ := List.mem_iff_getElem.1 hc
          exact absurd (of_decide_eq_true (copies_get h2 hk).1) hx
      rw [hm, hd]
      cases inI t.rev x <;> decide
  rw [apart_iff]
  refine ⟨fun x ⟨a, b⟩ => ?_, fun x ⟨a, b⟩ => ?_, fun x ⟨a, b⟩ => ?_⟩
  all_goals
    have := hall x
    rw [cnt_all h1 h2 h3, a, b] at this
  · cases hd : hasB t.dt x <;> simp [hd] at this
  · cases hd : hasB t.mt x <;> simp [hd] at this
  · cases hd : inI t.rev x <;> simp [hd] at this
/-! ### Copies, one by one -/
def okC (l : List Cpy) (k : Nat) : Prop := riseAt (blks l) k ∧ (l.getD k ⟨0, ⟨#[]⟩⟩).text.size = 32
def okTo (l : List Cpy) (n : Nat) : Prop := ∀ k, k < n → okC l k
theorem copies_okTo (l : List Cpy) : copiesB l = true ↔ okTo l l.length := by
  unfold copiesB
  rw [Bool.and_eq_true, rise_iff]
  have hl : (blks l).length = l.length := by simp [blks]
  rw [hl]
  constructor
  · rintro ⟨h1, h2⟩ k hk
    refine ⟨h1 k hk, ?_⟩
    rw [List.getD_eq_getElem?_getD, List.getElem?_eq_getElem hk]
    exact of_decide_eq_true (List.all_eq_true.1 h2 _ (List.getElem_mem hk))
  · intro h
    refine ⟨fun k hk => (h k hk).1, ?_⟩
    rw [List.all_eq_true]
    intro c hc
    obtain ⟨k, hk, rfl⟩ := List.mem_iff_getElem.1 hc
    have := (h k hk).2
    rw [List.getD_eq_getElem?_getD, List.getElem?_eq_getElem hk] at this
    exact decide_eq_true this
theorem copies_no {l : List Cpy} {k : Nat} (hk : k < l.length) (h : ¬ okC l k) : copiesB l = false := by
  cases hc : copiesB l
  · rfl
  · exact absurd ((copies_okTo l).1 hc k hk) h
/-- The block before place k. -/
def lastB (l : List Int) (k : Nat) : Int := if k = 0 then -1 else l.getD (k - 1) 0
theorem lastB_succ {l : List Int} {k : Nat} (hk : k < l.length) : lastB l (k + 1) = l[k] := by
  unfold lastB
  rw [if_neg (by omega), Nat.add_sub_cancel]
  simp [hk]
theorem okC_iff {l : List Cpy} {k : Nat} (hk : k < l.length) (hto : okTo l k) : okC l k ↔ lastB (blks l) k < l[k].block ∧ l[k].block < 12 ∧ l[k].text.size = 32 := by
  have e : (blks l).getD k 0 = l[k].block := by simp [blks, hk]
  have e2 : l.getD k ⟨0, ⟨#[]⟩⟩ = l[k] := by simp [hk]
  unfold okC riseAt lastB
  rw [e, e2]
  by_cases h0 : k = 0
  · subst h0
    simp only [Nat.lt_irrefl, false_implies, and_true, if_true]
    omega
  · rw [if_neg h0]
    have hp : 0 ≤ (blks l).getD (k - 1) 0 := (hto (k - 1) (by omega)).1.1
    constructor
    · rintro ⟨⟨a, b, c⟩, d⟩
      exact ⟨c (by omega), b, d⟩
    · rintro ⟨a, b, c⟩
      exact ⟨⟨by omega, b, fun _ => a⟩, c⟩
end Wb

namespace Wb
open Go Go.RowKit
theorem run_index_ints {P : Program} {t e : TypeId} {n : Nat} {i : TypeInfo} (w : World) (ht : P.underlying t = some (.array n e)) (hi : P.info? e = some i) (hs : i.size = 1) (hz : (isAgg e).run P w = .ok false w) (l : List Int) (hl : l.length = n) {k : Nat} (hk : k < l.length) :
    (Instr.index t (.agg (l.map (Value.int .i64)).toArray) (.int .i64 (k : Int))).run P w = .ok (.int .i64 l[k]) w := by
  have h0 : (0 : Int) ≤ (k : Int) ∧ (k : Int) < (n : Int) := by omega
  simp [Instr.index, asIntOf, run_underlying ht, h0, Go.sizeOf, typeInfo, hi, hs, part, hz, Result.andThen, hk]
  omega
end Wb

namespace Wb
open Go Go.RowKit
theorem map_set (l : List Int) (n : Nat) (y : Int) : ((l.map (Value.int .i64)).toArray).setIfInBounds n (.int .i64 y) = ((l.set n y).map (Value.int .i64)).toArray := by
  simp [List.map_set]
theorem notGood {t : Txn} (h : seqOk t.seq = false ∨ copiesB t.mt = false ∨ copiesB t.dt = false ∨ rise t.rev = false ∨ apart t = false ∨ hOk t.h0 = false ∨ hOk t.h1 = false ∨ hOk t.h2 = false) : goodT t = false := by
  cases hg : goodT t
  · rfl
  · obtain ⟨h1, h2, h3, h4, h5, h6, h7, h8⟩ := (goodT_iff t).1 hg
    rw [h1, h2, h3, h4, h5, h6, h7, h8] at h
    simp at h
theorem hOk_iff (h : Hnd) : hOk h = true ↔ 0 ≤ h.left ∧ h.left ≤ 24 ∧ (h.on = true ∨ h.left = 0) := by
  unfold hOk; simp [and_assoc]
end Wb
namespace Go.Proofs.Ytjhmfljlclajnab
open Go.RowKit Wb
set_option linter.unusedVariables false
set_option linter.unusedSimpArgs false
set_option maxRecDepth 100000
set_option maxHeartbeats 16000000
theorem index12 (w : World) (l : List Int) (hl : l.length = 12) {k : Nat} (hk : k < l.length) :
    (Instr.index 102 (.agg (l.map (Value.int .i64)).toArray) (.int .i64 (k : Int))).run Try.prog w = .ok (.int .i64 l[k]) w := by
  obtain ⟨i, hi, _, hs, _⟩ := info_parts (show (Try.prog.info? 3).map (fun i => (i.zero, i.size, i.bytes)) = some (some (.int .i64 0), 1, 8) by kernel_rfl)
  exact run_index_ints w Try.underlying102 hi hs (by kernel_rfl) l hl hk
theorem index3 (w : World) (o0 o1 o2 : Bool) (l0 l1 l2 : Int) :
    (Instr.index 62 (.agg #[.bool o0, .int .i64 l0, .bool o1, .int .i64 l1, .bool o2, .int .i64 l2]) (.int .i64 0)).run Try.prog w = .ok (.agg #[.bool o0, .int .i64 l0]) w ∧
    (Instr.index 62 (.agg #[.bool o0, .int .i64 l0, .bool o1, .int .i64 l1, .bool o2, .int .i64 l2]) (.int .i64 1)).run Try.prog w = .ok (.agg #[.bool o1, .int .i64 l1]) w ∧
    (Instr.index 62 (.agg #[.bool o0, .int .i64 l0, .bool o1, .int .i64 l1, .bool o2, .int .i64 l2]) (.int .i64 2)).run Try.prog w = .ok (.agg #[.bool o2, .int .i64 l2]) w :=
  ⟨by kernel_rfl, by kernel_rfl, by kernel_rfl⟩

theorem ref_GoodTxn (t : Txn) (v : Value) (w : World) (h : RTxn w v t) :
    Calls Try.prog 39 #[v] w fun e w' => e = .returned (.bool (goodT t)) ∧ Below w.heap.size w w' := by
  obtain ⟨vm, vd, vr, rfl, hm, hd, hr, n1, n2, n3⟩ := h
  obtain ⟨am, cm, rfl, _⟩ := hm.form
  obtain ⟨ad, cd, rfl, _⟩ := hd.form
  obtain ⟨ar, cr, rfl, _⟩ := hr.form
  have hRi := fun v w (hh : RL intC w v t.rev) => ref_rising v t.rev w hh
  have hng := fun hh => notGood (t := t) hh
  have hix := fun w (l : List Int) (hl : l.length = 12) k (hk : k < l.length) => index12 w l hl hk
  have hi3 := fun w => index3 w t.h0.on t.h1.on t.h2.on t.h0.left t.h1.left t.h2.left
  unfold txnV
  replace hm := hid hm; replace hd := hid hd; replace hr := hid hr; replace hRi := hid hRi; replace hng := hid hng; replace hix := hid hix; replace hi3 := hid hi3
  have k00 : Blk ((w.alloc (.cells #[.int .i64 t.seq, .slice am t.mt.length cm, .slice ad t.dt.length cd, .slice ar t.rev.length cr, .bool t.h0.on, .int .i64 t.h0.left, .bool t.h1.on, .int .i64 t.h1.left, .bool t.h2.on, .int .i64 t.h2.left] 64)).alloc (.cells #[.int .i64 0, .int .i64 0, .int .i64 0, .int .i64 0, .int .i64 0, .int .i64 0, .int .i64 0, .int .i64 0, .int .i64 0, .int .i64 0, .int .i64 0, .int .i64 0] 102)) w.heap.size #[.int .i64 t.seq, .slice am t.mt.length cm, .slice ad t.dt.length cd, .slice ar t.rev.length cr, .bool t.h0.on, .int .i64 t.h0.left, .bool t.h1.on, .int .i64 t.h1.left, .bool t.h2.on, .int .i64 t.h2.left] 64 := (Blk.new w _ _).alloc _
  have kw0 : Blk ((w.alloc (.cells #[.int .i64 t.seq, .slice am t.mt.length cm, .slice ad t.dt.length cd, .slice ar t.rev.length cr, .bool t.h0.on, .int .i64 t.h0.left, .bool t.h1.on, .int .i64 t.h1.left, .bool t.h2.on, .int .i64 t.h2.left] 64)).alloc (.cells #[.int .i64 0, .int .i64 0, .int .i64 0, .int .i64 0, .int .i64 0, .int .i64 0, .int .i64 0, .int .i64 0, .int .i64 0, .int .i64 0, .int .i64 0, .int .i64 0] 102)) (w.heap.size + 1) ((cntL []).map (Value.int .i64)).toArray 102 := Blk.newAt (by simp)
  have nx0 : Below w.heap.size w ((w.alloc (.cells #[.int .i64 t.seq, .slice am t.mt.length cm, .slice ad t.dt.length cd, .slice ar t.rev.length cr, .bool t.h0.on, .int .i64 t.h0.left, .bool t.h1.on, .int .i64 t.h1.left, .bool t.h2.on, .int .i64 t.h2.left] 64)).alloc (.cells #[.int .i64 0, .int .i64 0, .int .i64 0, .int .i64 0, .int .i64 0, .int .i64 0, .int .i64 0, .int .i64 0, .int .i64 0, .int .i64 0, .int .i64 0, .int .i64 0] 102)) := bal (bal (b0 w) _) _
  go_enter Try.func39, Try.ntmps39
  go_wp2
  go_loopw [4, 6, 19] (fun la _ i wr => ∃ k : Nat, k ≤ t.mt.length ∧ i = .int .i64 k ∧ la = .int .i64 (lastB (blks t.mt) k) ∧ Hid (okTo t.mt k) ∧ Blk wr w.heap.size #[.int .i64 t.seq, .slice am t.mt.length cm, .slice ad t.dt.length cd, .slice ar t.rev.length cr, .bool t.h0.on, .int .i64 t.h0.left, .bool t.h1.on, .int .i64 t.h1.left, .bool t.h2.on, .int .i64 t.h2.left] 64 ∧ Blk wr (w.heap.size + 1) ((cntL (blks (t.mt.take k))).map (Value.int .i64)).toArray 102 ∧ Below w.heap.size w wr) (fun _ _ i _ => t.mt.length - (intOf i).toNat)
  case atStart => exact ⟨0, Nat.zero_le _, rfl, rfl, hid (fun k hk => absurd hk (Nat.not_lt_zero k)), k00, kw0, nx0⟩
  case round =>
    clear k00 kw0 nx0
    obtain ⟨k, hk, rfl, rfl, hto, k0, kw, nx⟩ := hrel
    have l0 := k0.lt
    have lw := kw.lt
    by_cases hlt : k < t.mt.length
    · obtain ⟨b1, o1, rfl, c0, c1⟩ := RL.at2 (fun x => .int .i64 x.block) (fun x => .string x.text) (fun _ => rfl) (hm.out.below nx) hlt
      have hoi := okC_iff hlt hto.out
      have hno := fun hn => hng.out (.inr (.inl (copies_no hlt hn)))
      have hsc := fun ho => (show okTo t.mt (k + 1) from fun j hj => if e : j = k then e ▸ ho else hto.out j (by omega))
      have hbl : blks (t.mt.take (k + 1)) = blks (t.mt.take k) ++ [t.mt[k].block] := by unfold blks; rw [List.take_succ_eq_append_getElem hlt, List.map_append]; rfl
      have hls : lastB (blks t.mt) (k + 1) = t.mt[k].block := by rw [lastB_succ (by simpa [blks] using hlt)]; simp [blks]
      have hcl : (cntL (blks (t.mt.take k))).length = 12 := cntL_len _
      have hlast : lastB (blks t.mt) k = -1 ∨ 0 ≤ lastB (blks t.mt) k := by
        by_cases hk0 : k = 0
        · left; subst hk0; rfl
        · right; unfold lastB; rw [if_neg hk0]; exact (hto.out (k - 1) (by omega)).1.1
      generalize t.mt[k] = x at *
      generalize lastB (blks t.mt) k = la at *
      replace hno := hid hno; replace hsc := hid hsc; replace hbl := hid hbl; replace hls := hid hls; replace hcl := hid hcl
      by_cases hA : la < x.block
      · by_cases hB : x.block < 12
        · by_cases hC : x.text.size = 32
          · have ho := hid (hsc.out (hoi.2 ⟨hA, hB, hC⟩))
            have eC : ((x.text.size : Int) != 32) = false := by rw [hC]; rfl
            obtain ⟨n, hn⟩ : ∃ n : Nat, x.block = n := ⟨x.block.toNat, by omega⟩
            have hn12 : n < 12 := by omega
            have hst := cntL_step (blks (t.mt.take k)) hn12
            have hcn := cntL_get (blks (t.mt.take k)) hn12
            have hc0 := cnt_nonneg (blks (t.mt.take k)) (n : Int)
            have hc1 := cnt_le (blks (t.mt.take k)) (n : Int)
            have hc2 : (blks (t.mt.take k)).length ≤ 11728124029610 := by simp only [blks, List.length_append, List.length_map, List.length_take]; omega
            have kwc := kw.cell n
            have kwf := kw.free n
            rw [List.getElem?_toArray, List.getElem?_map, List.getElem?_eq_getElem (by rw [cntL_len]; exact hn12), hcn, Option.map_some] at kwc
            obtain ⟨xb, xt⟩ := x
            dsimp only at hn
            subst hn
            dsimp only at *
            generalize cntI (blks (t.mt.take k)) (n : Int) = cn at *
            have hsz := nx.size
            have hn12' : (n : Int) < 12 := by omega
            clear hoi hC hcn hB hlast
            replace hst := hid hst
            go_wp2
            go_roundw
            case rel =>
              refine ⟨k + 1, by omega, by go_num, by rw [hls.out], ho, (k0.set_other _ _ (by simp)).alloc _, ?_, bal (nx.setCell (by simp) _) _⟩
              rw [hbl.out]
              have hk2 := (kw.set n (.int .i64 (cn + 1))).alloc (.cells #[.int .i64 (n : Int), .string xt] 93)
              rw [map_set] at hk2
              rw [← hst.out] at hk2; exact hk2
            case measure => simp [intOf]; omega
          · have hgf := hid (hno.out (fun ho => hC (hoi.1 ho).2.2))
            have eC : ((x.text.size : Int) != 32) = true := bne_iff_ne.2 (by omega)
            clear hoi hC
            go_wp2
            go_ret
            exact ⟨ret_b hgf.out.symm, bal nx _⟩
        · have hgf := hid (hno.out (fun ho => hB (hoi.1 ho).2.1))
          have hB2 : 11 < x.block := by omega
          clear hoi hB
          go_wp2
          go_ret
          exact ⟨ret_b hgf.out.symm, bal nx _⟩
      · have hgf := hid (hno.out (fun ho => hA (hoi.1 ho).1))
        have hA2 : x.block ≤ la := by omega
        clear hoi hA
        go_wp2
        go_ret
        exact ⟨ret_b hgf.out.symm, bal nx _⟩
    · obtain rfl : k = t.mt.length := by omega
      have hokmt := hid ((copies_okTo t.mt).2 hto.out)
      rw [List.take_length] at kw
      have c2 := k0.cell 2
      simp only [List.getElem?_toArray, List.getElem?_cons_zero, List.getElem?_cons_succ] at c2
      go_wp2
      go_loopw [4, 8, 50] (fun la _ i wr => ∃ k : Nat, k ≤ t.dt.length ∧ i = .int .i64 k ∧ la = .int .i64 (lastB (blks t.dt) k) ∧ Hid (okTo t.dt k) ∧ Blk wr w.heap.size #[.int .i64 t.seq, .slice am t.mt.length cm, .slice ad t.dt.length cd, .slice ar t.rev.length cr, .bool t.h0.on, .int .i64 t.h0.left, .bool t.h1.on, .int .i64 t.h1.left, .bool t.h2.on, .int .i64 t.h2.left] 64 ∧ Blk wr (w.heap.size + 1) ((cntL (blks t.mt ++ blks (t.dt.take k))).map (Value.int .i64)).toArray 102 ∧ Below w.heap.size w wr) (fun _ _ i _ => t.dt.length - (intOf i).toNat)
      case atStart => exact ⟨0, Nat.zero_le _, rfl, rfl, hid (fun k hk => absurd hk (Nat.not_lt_zero k)), k0, by simpa [blks] using kw, nx⟩
      case round =>
        clear k0 kw nx l0 lw c2 hto hk hlt
        obtain ⟨k, hk, rfl, rfl, hto, k0, kw, nx⟩ := hrel
        have l0 := k0.lt
        have lw := kw.lt
        by_cases hlt : k < t.dt.length
        · obtain ⟨b1, o1, rfl, c0, c1⟩ := RL.at2 (fun x => .int .i64 x.block) (fun x => .string x.text) (fun _ => rfl) (hd.out.below nx) hlt
          have hoi := okC_iff hlt hto.out
          have hno := fun hn => hng.out (.inr (.inr (.inl (copies_no hlt hn))))
          have hsc := fun ho => (show okTo t.dt (k + 1) from fun j hj => if e : j = k then e ▸ ho else hto.out j (by omega))
          have hbl : blks (t.dt.take (k + 1)) = blks (t.dt.take k) ++ [t.dt[k].block] := by unfold blks; rw [List.take_succ_eq_append_getElem hlt, List.map_append]; rfl
          have hls : lastB (blks t.dt) (k + 1) = t.dt[k].block := by rw [lastB_succ (by simpa [blks] using hlt)]; simp [blks]
          have hcl : (cntL (blks t.mt ++ blks (t.dt.take k))).length = 12 := cntL_len _
          have hlast : lastB (blks t.dt) k = -1 ∨ 0 ≤ lastB (blks t.dt) k := by
            by_cases hk0 : k = 0
            · left; subst hk0; rfl
            · right; unfold lastB; rw [if_neg hk0]; exact (hto.out (k - 1) (by omega)).1.1
          generalize t.dt[k] = x at *
          generalize lastB (blks t.dt) k = la at *
          replace hno := hid hno; replace hsc := hid hsc; replace hbl := hid hbl; replace hls := hid hls; replace hcl := hid hcl
          by_cases hA : la < x.block
          · by_cases hB : x.block < 12
            · by_cases hC : x.text.size = 32
              · have ho := hid (hsc.out (hoi.2 ⟨hA, hB, hC⟩))
                have eC : ((x.text.size : Int) != 32) = false := by rw [hC]; rfl
                obtain ⟨n, hn⟩ : ∃ n : Nat, x.block = n := ⟨x.block.toNat, by omega⟩
                have hn12 : n < 12 := by omega
                have hst := cntL_step (blks t.mt ++ blks (t.dt.take k)) hn12
                have hcn := cntL_get (blks t.mt ++ blks (t.dt.take k)) hn12
                have hc0 := cnt_nonneg (blks t.mt ++ blks (t.dt.take k)) (n : Int)
                have hc1 := cnt_le (blks t.mt ++ blks (t.dt.take k)) (n : Int)
                have hc2 : (blks t.mt ++ blks (t.dt.take k)).length ≤ 11728124029610 := by simp only [blks, List.length_append, List.length_map, List.length_take]; omega
                have kwc := kw.cell n
                have kwf := kw.free n
                rw [List.getElem?_toArray, List.getElem?_map, List.getElem?_eq_getElem (by rw [cntL_len]; exact hn12), hcn, Option.map_some] at kwc
                obtain ⟨xb, xt⟩ := x
                dsimp only at hn
                subst hn
                dsimp only at *
                rw [List.append_assoc] at hst
                generalize cntI (blks t.mt ++ blks (t.dt.take k)) (n : Int) = cn at *
                have hsz := nx.size
                have hn12' : (n : Int) < 12 := by omega
                clear hoi hC hcn hB hlast
                replace hst := hid hst
                go_wp2
                go_roundw
                case rel =>
                  refine ⟨k + 1, by omega, by go_num, by rw [hls.out], ho, (k0.set_other _ _ (by simp)).alloc _, ?_, bal (nx.setCell (by simp) _) _⟩
                  rw [hbl.out]
                  have hk2 := (kw.set n (.int .i64 (cn + 1))).alloc (.cells #[.int .i64 (n : Int), .string xt] 93)
                  rw [map_set] at hk2
                  rw [← hst.out] at hk2; exact hk2
                case measure => simp [intOf]; omega
              · have hgf := hid (hno.out (fun ho => hC (hoi.1 ho).2.2))
                have eC : ((x.text.size : Int) != 32) = true := bne_iff_ne.2 (by omega)
                clear hoi hC
                go_wp2
                go_ret
                exact ⟨ret_b hgf.out.symm, bal nx _⟩
            · have hgf := hid (hno.out (fun ho => hB (hoi.1 ho).2.1))
              have hB2 : 11 < x.block := by omega
              clear hoi hB
              go_wp2
              go_ret
              exact ⟨ret_b hgf.out.symm, bal nx _⟩
          · have hgf := hid (hno.out (fun ho => hA (hoi.1 ho).1))
            have hA2 : x.block ≤ la := by omega
            clear hoi hA
            go_wp2
            go_ret
            exact ⟨ret_b hgf.out.symm, bal nx _⟩
        · obtain rfl : k = t.dt.length := by omega
          have hokdt := hid ((copies_okTo t.dt).2 hto.out)
          rw [List.take_length] at kw
          by_cases hrr : rise t.rev = true
          rotate_left
          · have hgf := hid (hng.out (.inr (.inr (.inr (.inl (by simpa using hrr))))))
            have hRk := fun w hh => hRi.out (.slice ar t.rev.length cr) w hh
            rw [Bool.not_eq_true _ |>.mp hrr] at hRk
            replace hRk := hid hRk
            have c3 := k0.cell 3
            simp only [List.getElem?_toArray, List.getElem?_cons_zero, List.getElem?_cons_succ] at c3
            clear hrr
            go_wp2_with (go_at_call 70; go_loud ((with_reducible refine (hRk.out _ (hr.out.below nx)).mono ?_); rintro e w1 ⟨rfl, rfl⟩))
            go_ret
            exact ⟨ret_b hgf.out.symm, nx⟩
          have hRk := fun w hh => hRi.out (.slice ar t.rev.length cr) w hh
          rw [hrr] at hRk
          replace hRk := hid hRk
          have hrg := hid (fun k (hk : k < t.rev.length) => rise_get hrr hk)
          replace hrr := hid hrr
          have c3 := k0.cell 3
          simp only [List.getElem?_toArray, List.getElem?_cons_zero, List.getElem?_cons_succ] at c3
          go_wp2_with (go_at_call 70; go_loud ((with_reducible refine (hRk.out _ (hr.out.below nx)).mono ?_); rintro e w1 ⟨rfl, rfl⟩))
          go_loopw [10, 85] (fun _ i wr => ∃ k : Nat, k ≤ t.rev.length ∧ i = .int .i64 k ∧ Blk wr w.heap.size #[.int .i64 t.seq, .slice am t.mt.length cm, .slice ad t.dt.length cd, .slice ar t.rev.length cr, .bool t.h0.on, .int .i64 t.h0.left, .bool t.h1.on, .int .i64 t.h1.left, .bool t.h2.on, .int .i64 t.h2.left] 64 ∧ Blk wr (w.heap.size + 1) ((cntL ((blks t.mt ++ blks t.dt) ++ t.rev.take k)).map (Value.int .i64)).toArray 102 ∧ Below w.heap.size w wr) (fun _ i _ => t.rev.length - (intOf i).toNat)
          case atStart => exact ⟨0, Nat.zero_le _, rfl, k0, by simpa using kw, nx⟩
          case round =>
            clear k0 kw nx l0 lw c3
            obtain ⟨k, hk, rfl, k0, kw, nx⟩ := hrel
            have l0 := k0.lt
            have lw := kw.lt
            by_cases hlt : k < t.rev.length
            · obtain ⟨b1, o1, rfl, c0⟩ := RL.at1 (fun x => .int .i64 x) (fun _ => rfl) (hr.out.below nx) hlt
              obtain ⟨g1, g2, _⟩ := hrg.out k hlt
              have htk : t.rev.take (k + 1) = t.rev.take k ++ [t.rev[k]] := List.take_succ_eq_append_getElem hlt
              generalize t.rev[k] = x at *
              obtain ⟨n, rfl⟩ : ∃ n : Nat, x = n := ⟨x.toNat, by omega⟩
              have hn12 : n < 12 := by omega
              have hst := cntL_step ((blks t.mt ++ blks t.dt) ++ t.rev.take k) hn12
              have hcn := cntL_get ((blks t.mt ++ blks t.dt) ++ t.rev.take k) hn12
              have hc0 := cnt_nonneg ((blks t.mt ++ blks t.dt) ++ t.rev.take k) (n : Int)
              have hc1 := cnt_le ((blks t.mt ++ blks t.dt) ++ t.rev.take k) (n : Int)
              have hc2 : ((blks t.mt ++ blks t.dt) ++ t.rev.take k).length ≤ 29320310073770 := by simp only [blks, List.length_append, List.length_map, List.length_take]; omega
              have kwc := kw.cell n
              have kwf := kw.free n
              rw [List.getElem?_toArray, List.getElem?_map, List.getElem?_eq_getElem (by rw [cntL_len]; exact hn12), hcn, Option.map_some] at kwc
              generalize cntI ((blks t.mt ++ blks t.dt) ++ t.rev.take k) (n : Int) = cn at *
              have hn12' : (n : Int) < 12 := by omega
              clear hcn
              replace hst := hid hst; replace htk := hid htk
              go_wp2
              go_roundw
              case rel =>
                refine ⟨k + 1, by omega, by go_num, k0.set_other _ _ (by simp), ?_, nx.setCell (by simp) _⟩
                have hk2 := kw.set n (.int .i64 (cn + 1))
                rw [map_set, ← hst.out] at hk2
                rw [htk.out, ← List.append_assoc]
                exact hk2
              case measure => simp [intOf]; omega
            · obtain rfl : k = t.rev.length := by omega
              rw [List.take_length] at kw
              have hap := fun ha x => apart_cnt hokmt.out hokdt.out hrr.out ha x
              have hac := fun hh => cnt_apart hokmt.out hokdt.out hrr.out hh
              change Blk wr (w.heap.size + 1) ((cntL (allOf t)).map (Value.int .i64)).toArray 102 at kw
              have hsz : some 12 = some (((cntL (allOf t)).map (Value.int .i64)).toArray).size := by simp [cntL_len]
              have hget : ∀ k : Nat, k < 12 → (cntL (allOf t))[k]? = some (cntI (allOf t) k) := fun k hk => by rw [List.getElem?_eq_getElem (by rw [cntL_len]; exact hk), cntL_get _ hk]
              have hl12 := cntL_len (allOf t)
              have hng5 := fun (ha : ¬ apart t = true) => hng.out (.inr (.inr (.inr (.inr (.inl (by simpa using ha))))))
              generalize hcl : cntL (allOf t) = cl at *
              generalize hca : cntI (allOf t) = ca at *
              clear hcl hca
              replace hap := hid hap; replace hac := hid hac; replace hsz := hid hsz; replace hget := hid hget; replace hl12 := hid hl12; replace hng5 := hid hng5
              have kw2 := hid kw
              clear hlt
              go_wp2_with (refine wpList_load_row rfl 102 _ rfl _ rfl _ _ _ _ kw2.out Try.underlying102 rfl ((by kernel_rfl : _ = some 12).trans hsz.out) ?_)
              go_loopw [12, 96] (fun _ i wr => ∃ k : Nat, k ≤ 12 ∧ i = .int .i64 k ∧ Hid (∀ j : Nat, j < k → ca j ≤ 1) ∧ Blk wr w.heap.size #[.int .i64 t.seq, .slice am t.mt.length cm, .slice ad t.dt.length cd, .slice ar t.rev.length cr, .bool t.h0.on, .int .i64 t.h0.left, .bool t.h1.on, .int .i64 t.h1.left, .bool t.h2.on, .int .i64 t.h2.left] 64 ∧ Below w.heap.size w wr) (fun _ i _ => 12 - (intOf i).toNat)
              case atStart => exact ⟨0, by decide, rfl, hid (fun j hj => absurd hj (Nat.not_lt_zero j)), k0, nx⟩
              case round =>
                clear k0 kw kw2 nx l0 lw
                obtain ⟨k, hk, rfl, hall, k0, nx⟩ := hrel
                by_cases hlt : k < 12
                · have hixk := hix.out wr cl hl12.out k (by rw [hl12.out]; exact hlt)
                  have hg2 := hget.out k hlt
                  rw [List.getElem?_eq_getElem (by rw [hl12.out]; exact hlt)] at hg2
                  simp only [Option.some.injEq] at hg2
                  rw [hg2] at hixk
                  clear hg2
                  by_cases hc : ca k ≤ 1
                  · have hall2 := hid (show ∀ j : Nat, j < k + 1 → ca j ≤ 1 from fun j hj => by
                      rcases Nat.lt_succ_iff_lt_or_eq.1 hj with h1 | rfl
                      · exact hall.out j h1
                      · exact hc)
                    generalize ca k = cn at *
                    go_wp2
                    go_roundw
                    case rel => exact ⟨k + 1, by omega, by go_num, hall2, k0, nx⟩
                    case measure => simp [intOf]; omega
                  · have hgf := hid (hng5.out (fun ha => hc (hap.out ha k)))
                    have hc2 : 1 < ca k := by omega
                    generalize ca k = cn at *
                    clear hc
                    go_wp2
                    go_ret
                    exact ⟨ret_b hgf.out.symm, nx⟩
                · obtain rfl : k = 12 := by omega
                  have hapt := hid (hac.out (fun j hj => hall.out j hj))
                  have l0 := k0.lt
                  have e4 := k0.cell 4; have e5 := k0.cell 5; have e6 := k0.cell 6; have e7 := k0.cell 7; have e8 := k0.cell 8; have e9 := k0.cell 9
                  simp only [List.getElem?_toArray, List.getElem?_cons_zero, List.getElem?_cons_succ] at e4 e5 e6 e7 e8 e9
                  clear hlt hall
                  go_wp2
                  go_loopw [14, 104] (fun _ i wr => ∃ k : Nat, k ≤ 3 ∧ i = .int .i64 k ∧ Hid (∀ j, j < k → (if j = 0 then hOk t.h0 else if j = 1 then hOk t.h1 else hOk t.h2) = true) ∧ Blk wr w.heap.size #[.int .i64 t.seq, .slice am t.mt.length cm, .slice ad t.dt.length cd, .slice ar t.rev.length cr, .bool t.h0.on, .int .i64 t.h0.left, .bool t.h1.on, .int .i64 t.h1.left, .bool t.h2.on, .int .i64 t.h2.left] 64 ∧ Below w.heap.size w wr) (fun _ i _ => 3 - (intOf i).toNat)
                  case atStart => exact ⟨0, by decide, rfl, hid (fun j hj => absurd hj (Nat.not_lt_zero j)), k0, nx⟩
                  case round =>
                    clear k0 nx l0 e4 e5 e6 e7 e8 e9
                    obtain ⟨k, hk, rfl, hall, k0, nx⟩ := hrel
                    have l0 := k0.lt
                    by_cases hlt : k < 3
                    · obtain (rfl | rfl | rfl) : k = 0 ∨ k = 1 ∨ k = 2 := by omega
                      · -- handle 0
                        have hi := hi3.out wr
                        replace hi := hi.1
                        have hof := hOk_iff t.h0
                        have hnh := fun hh => hng.out (.inr (.inr (.inr (.inr (.inr (.inl hh))))))
                        generalize t.h0.on = o at *
                        generalize hle : t.h0.left = lf at *
                        replace hnh := hid hnh; replace hle := hid hle
                        by_cases hoo : hOk t.h0 = true
                        · obtain ⟨a1, a2, a3⟩ := hof.1 hoo
                          have hoo2 := hid hoo
                          have hall2 := hid (show ∀ j, j < 0 + 1 → (if j = 0 then hOk t.h0 else if j = 1 then hOk t.h1 else hOk t.h2) = true from by intro j hj; obtain rfl : j = 0 := (by omega); exact hoo2.out)
                          clear hof hoo
                          by_cases hz : lf = 0
                          · subst hz
                            go_wp2
                            go_roundw
                            case rel => first | exact ⟨0 + 1, by decide, rfl, hall2, k0.alloc _, bal nx _⟩ | ((repeat apply Exists.intro); exact ⟨⟨0 + 1, by decide, rfl, hall2, k0.alloc _, bal nx _⟩, rfl⟩)
                            case measure => simp [intOf]
                          · have ho : o = true := a3.resolve_right hz
                            have hz2 : 0 < lf := by omega
                            subst ho
                            clear hz a3
                            go_wp2
                            go_roundw
                            case rel => first | exact ⟨0 + 1, by decide, rfl, hall2, k0.alloc _, bal nx _⟩ | ((repeat apply Exists.intro); exact ⟨⟨0 + 1, by decide, rfl, hall2, k0.alloc _, bal nx _⟩, rfl⟩)
                            case measure => simp [intOf]
                        · replace hoo : hOk t.h0 = false := by simpa using hoo
                          have hgf := hid (hnh.out hoo)
                          have hof2 : ¬ (0 ≤ lf ∧ lf ≤ 24 ∧ (o = true ∨ lf = 0)) := fun h => by rw [hof.2 h] at hoo; cases hoo
                          clear hof hoo
                          by_cases q1 : lf < 0
                          · clear hof2
                            go_wp2
                            go_ret
                            exact ⟨ret_b hgf.out.symm, bal nx _⟩
                          · by_cases q2 : 24 < lf
                            · clear hof2
                              go_wp2
                              go_ret
                              exact ⟨ret_b hgf.out.symm, bal nx _⟩
                            · have q3 : 0 < lf := by
                                by_cases hz : lf = 0
                                · exact absurd ⟨by omega, by omega, .inr hz⟩ hof2
                                · omega
                              have q4 : o = false := by
                                cases o
                                · rfl
                                · exact absurd ⟨by omega, by omega, .inl rfl⟩ hof2
                              have q5 : 0 ≤ lf := by omega
                              have q6 : lf ≤ 24 := by omega
                              subst q4
                              clear hof2 q1 q2
                              go_wp2
                              go_ret
                              exact ⟨ret_b hgf.out.symm, bal nx _⟩
                      · -- handle 1
                        have hi := hi3.out wr
                        replace hi := hi.2.1
                        have hof := hOk_iff t.h1
                        have hnh := fun hh => hng.out (.inr (.inr (.inr (.inr (.inr (.inr (.inl hh)))))))
                        generalize t.h1.on = o at *
                        generalize hle : t.h1.left = lf at *
                        replace hnh := hid hnh; replace hle := hid hle
                        by_cases hoo : hOk t.h1 = true
                        · obtain ⟨a1, a2, a3⟩ := hof.1 hoo
                          have hoo2 := hid hoo
                          have hall2 := hid (show ∀ j, j < 1 + 1 → (if j = 0 then hOk t.h0 else if j = 1 then hOk t.h1 else hOk t.h2) = true from by intro j hj; rcases Nat.lt_succ_iff_lt_or_eq.1 hj with h1 | rfl; (· exact hall.out j h1); exact hoo2.out)
                          clear hof hoo
                          by_cases hz : lf = 0
                          · subst hz
                            go_wp2
                            go_roundw
                            case rel => first | exact ⟨1 + 1, by decide, rfl, hall2, k0.alloc _, bal nx _⟩ | ((repeat apply Exists.intro); exact ⟨⟨1 + 1, by decide, rfl, hall2, k0.alloc _, bal nx _⟩, rfl⟩)
                            case measure => simp [intOf]
                          · have ho : o = true := a3.resolve_right hz
                            have hz2 : 0 < lf := by omega
                            subst ho
                            clear hz a3
                            go_wp2
                            go_roundw
                            case rel => first | exact ⟨1 + 1, by decide, rfl, hall2, k0.alloc _, bal nx _⟩ | ((repeat apply Exists.intro); exact ⟨⟨1 + 1, by decide, rfl, hall2, k0.alloc _, bal nx _⟩, rfl⟩)
                            case measure => simp [intOf]
                        · replace hoo : hOk t.h1 = false := by simpa using hoo
                          have hgf := hid (hnh.out hoo)
                          have hof2 : ¬ (0 ≤ lf ∧ lf ≤ 24 ∧ (o = true ∨ lf = 0)) := fun h => by rw [hof.2 h] at hoo; cases hoo
                          clear hof hoo
                          by_cases q1 : lf < 0
                          · clear hof2
                            go_wp2
                            go_ret
                            exact ⟨ret_b hgf.out.symm, bal nx _⟩
                          · by_cases q2 : 24 < lf
                            · clear hof2
                              go_wp2
                              go_ret
                              exact ⟨ret_b hgf.out.symm, bal nx _⟩
                            · have q3 : 0 < lf := by
                                by_cases hz : lf = 0
                                · exact absurd ⟨by omega, by omega, .inr hz⟩ hof2
                                · omega
                              have q4 : o = false := by
                                cases o
                                · rfl
                                · exact absurd ⟨by omega, by omega, .inl rfl⟩ hof2
                              have q5 : 0 ≤ lf := by omega
                              have q6 : lf ≤ 24 := by omega
                              subst q4
                              clear hof2 q1 q2
                              go_wp2
                              go_ret
                              exact ⟨ret_b hgf.out.symm, bal nx _⟩
                      · -- handle 2
                        have hi := hi3.out wr
                        replace hi := hi.2.2
                        have hof := hOk_iff t.h2
                        have hnh := fun hh => hng.out (.inr (.inr (.inr (.inr (.inr (.inr (.inr hh)))))))
                        generalize t.h2.on = o at *
                        generalize hle : t.h2.left = lf at *
                        replace hnh := hid hnh; replace hle := hid hle
                        by_cases hoo : hOk t.h2 = true
                        · obtain ⟨a1, a2, a3⟩ := hof.1 hoo
                          have hoo2 := hid hoo
                          have hall2 := hid (show ∀ j, j < 2 + 1 → (if j = 0 then hOk t.h0 else if j = 1 then hOk t.h1 else hOk t.h2) = true from by intro j hj; rcases Nat.lt_succ_iff_lt_or_eq.1 hj with h1 | rfl; (· exact hall.out j h1); exact hoo2.out)
                          clear hof hoo
                          by_cases hz : lf = 0
                          · subst hz
                            go_wp2
                            go_roundw
                            case rel => first | exact ⟨2 + 1, by decide, rfl, hall2, k0.alloc _, bal nx _⟩ | ((repeat apply Exists.intro); exact ⟨⟨2 + 1, by decide, rfl, hall2, k0.alloc _, bal nx _⟩, rfl⟩)
                            case measure => simp [intOf]
                          · have ho : o = true := a3.resolve_right hz
                            have hz2 : 0 < lf := by omega
                            subst ho
                            clear hz a3
                            go_wp2
                            go_roundw
                            case rel => first | exact ⟨2 + 1, by decide, rfl, hall2, k0.alloc _, bal nx _⟩ | ((repeat apply Exists.intro); exact ⟨⟨2 + 1, by decide, rfl, hall2, k0.alloc _, bal nx _⟩, rfl⟩)
                            case measure => simp [intOf]
                        · replace hoo : hOk t.h2 = false := by simpa using hoo
                          have hgf := hid (hnh.out hoo)
                          have hof2 : ¬ (0 ≤ lf ∧ lf ≤ 24 ∧ (o = true ∨ lf = 0)) := fun h => by rw [hof.2 h] at hoo; cases hoo
                          clear hof hoo
                          by_cases q1 : lf < 0
                          · clear hof2
                            go_wp2
                            go_ret
                            exact ⟨ret_b hgf.out.symm, bal nx _⟩
                          · by_cases q2 : 24 < lf
                            · clear hof2
                              go_wp2
                              go_ret
                              exact ⟨ret_b hgf.out.symm, bal nx _⟩
                            · have q3 : 0 < lf := by
                                by_cases hz : lf = 0
                                · exact absurd ⟨by omega, by omega, .inr hz⟩ hof2
                                · omega
                              have q4 : o = false := by
                                cases o
                                · rfl
                                · exact absurd ⟨by omega, by omega, .inl rfl⟩ hof2
                              have q5 : 0 ≤ lf := by omega
                              have q6 : lf ≤ 24 := by omega
                              subst q4
                              clear hof2 q1 q2
                              go_wp2
                              go_ret
                              exact ⟨ret_b hgf.out.symm, bal nx _⟩
                    · obtain rfl : k = 3 := by omega
                      have e0 := k0.cell 0
                      simp only [List.getElem?_toArray, List.getElem?_cons_zero, List.getElem?_cons_succ] at e0
                      have hgt : seqOk t.seq = true → goodT t = true := fun hh => (goodT_iff t).2 ⟨hh, hokmt.out, hokdt.out, hrr.out, hapt.out, hall.out 0 (by decide), hall.out 1 (by decide), hall.out 2 (by decide)⟩
                      have hgn : seqOk t.seq = false → goodT t = false := fun hh => hng.out (.inl hh)
                      generalize hsq : t.seq = sq at *
                      replace hgt := hid hgt; replace hgn := hid hgn; replace hsq := hid hsq
                      by_cases q1 : 1 ≤ sq
                      · by_cases q2 : sq ≤ 2147483647
                        · have hv := hid (hgt.out (decide_eq_true ⟨q1, q2⟩))
                          have q3 : 0 < sq := by omega
                          have q4 : sq < 2147483648 := by omega
                          go_wp2
                          go_ret
                          exact ⟨ret_b hv.out.symm, nx⟩
                        · have hv := hid (hgn.out (decide_eq_false (fun h => q2 h.2)))
                          have q3 : 0 < sq := by omega
                          have q4 : decide (sq < 2147483648) = false := decide_eq_false (by omega)
                          go_wp2
                          go_ret
                          exact ⟨ret_b hv.out.symm, nx⟩
                      · have hv := hid (hgn.out (decide_eq_false (fun h => q1 h.1)))
                        have q3 : sq ≤ 0 := by omega
                        go_wp2
                        go_ret
                        exact ⟨ret_b hv.out.symm, nx⟩
end Go.Proofs.Ytjhmfljlclajnab

namespace Go.Proofs.Ytjhmfljlclajnab
open Go.RowKit Wb
set_option linter.unusedVariables false
set_option linter.unusedSimpArgs false
set_option maxRecDepth 100000
set_option maxHeartbeats 4000000

theorem ref_NewestOf (l : List Txn) (hg : ∀ t ∈ l, goodT t = true) (v : Value) (w : World) (h : RTxns w v l) :
    Calls Try.prog 31 #[v] w fun e w' => ∃ v', e = .returned v' ∧ Own cpyC w.heap.size 93 2 w' v' (newestL l) ∧ Below w.heap.size w w' := by
  obtain ⟨a, cap, rfl, hl⟩ := h.form
  have hR : ∀ (f : Int → Option ByteArray) (b : Int) v w (hh : RL cpyC w v (viewL f)), Calls Try.prog 60 #[v, .int .i64 b] w fun e w' => ∃ v', e = .returned v' ∧ Own cpyC w.heap.size 93 2 w' v' (viewL (fun x => if x = b then none else f x)) ∧ Below w.heap.size w w' := fun f b v w hh => by
    rw [← dropC_view]; exact ref_rest _ b v w hh (Nat.le_trans (viewN_len f 12) (by decide))
  have hW : ∀ (f : Int → Option ByteArray) (b : Int) (s : ByteArray) v w (hh : RL cpyC w v (viewL f)), Calls Try.prog 63 #[v, .int .i64 b, .string s] w fun e w' => ∃ v', e = .returned v' ∧ Own cpyC w.heap.size 93 2 w' v' (viewL (fun x => if x = b then some s else f x)) ∧ Below w.heap.size w w' := fun f b s v w hh => by
    rw [← withL_view]; exact ref_with _ b s v w hh (Nat.le_trans (viewN_len f 12) (by decide))
  have hB := fun b w => ref_isBlock b w
  have hA := fun l b v w h1 h2 => ref_among l b v w h1 h2
  have hgk := fun k (hk : k < l.length) => hg l[k] (List.getElem_mem hk)
  have hst := fun k (hk : k < l.length) b => newestB_step hk b
  have h0 : ∀ b, newestB (l.take 0) b = none := fun b => rfl
  have hnl : newestL l = viewL (newestB l) := rfl
  have hv0 : viewL (fun _ => none) = [] := by unfold viewL viewN; rw [List.filterMap_eq_nil_iff]; intro _ _; rfl
  rw [hnl]
  replace h := hid h; replace hR := hid hR; replace hW := hid hW; replace hB := hid hB; replace hA := hid hA; replace hgk := hid hgk; replace hst := hid hst; replace h0 := hid h0; replace hv0 := hid hv0
  clear hg hnl
  go_enter Try.func31, Try.ntmps31
  go_wp2
  go_loopw [3, 12] (fun o i wr => ∃ k : Nat, k ≤ l.length ∧ i = .int .i64 k ∧ Own cpyC w.heap.size 93 2 wr o (viewL (newestB (l.take k))) ∧ Below w.heap.size w wr) (fun _ i _ => l.length - (intOf i).toNat)
  case atStart => exact ⟨0, Nat.zero_le _, rfl, by rw [show viewL (newestB (l.take 0)) = [] from hv0.out]; exact Own.nil _ _ _ _ _, b0 w⟩
  case round =>
    obtain ⟨wo, rfl⟩ : ∃ wo : World, wo = wr := ⟨_, rfl⟩
    obtain ⟨k, hk, rfl, hown, nx⟩ := hrel
    by_cases hlt : k < l.length
    · obtain ⟨b1, o1, vm, vd, vr, rfl, hrt, c0, c1, c2, c3, c4, c5, c6, c7, c8, c9⟩ := (h.out.below nx).at hlt
      have hgt := hgk.out k hlt
      have hstk := hst.out k hlt
      generalize l[k] = t at *
      generalize newestB (l.take k) = g at *
      have hturn := turn_good ((goodT_iff t).1 hgt).2.1 g
      have hend : (fun b => turnT t (g b) b) = newestB (l.take (k + 1)) := funext fun b => (hstk b).symm
      rw [hend] at hturn
      clear hstk hend
      generalize hge : newestB (l.take (k + 1)) = g' at *
      replace hge := hid hge
      obtain ⟨vm', vd', vr', hv, hm, hd, hr, n1, n2, n3⟩ := hrt
      simp only [txnV, Value.agg.injEq, Array.mk.injEq, List.cons.injEq, and_true, true_and] at hv
      obtain ⟨rfl, rfl, rfl⟩ := hv
      obtain ⟨am, cm, rfl, _⟩ := hm.form
      obtain ⟨ad, cd, rfl, _⟩ := hd.form
      obtain ⟨ar, cr, rfl, _⟩ := hr.form
      have hmk := fun j (hj : j < t.mt.length) => (copies_get ((goodT_iff t).1 hgt).2.1 hj).1
      have hma := fun j (hj : j < t.mt.length) => (good_meta hgt hj).1
      have hrs := fun j (hj : j < t.rev.length) => revF_step g hj
      have hms := fun j (hj : j < t.mt.length) => metaF_step (revF g t.rev) hj
      have hr0 : revF g (t.rev.take 0) = g := rfl
      have hrn : revF g (t.rev.take t.rev.length) = revF g t.rev := by rw [List.take_length]
      have hm0 : metaF (revF g t.rev) (t.mt.take 0) = revF g t.rev := rfl
      have hmn : metaF (revF g t.rev) (t.mt.take t.mt.length) = g' := by rw [List.take_length]; exact hturn
      replace hm := hid hm; replace hr := hid hr; replace hmk := hid hmk; replace hma := hid hma; replace hrs := hid hrs; replace hms := hid hms; replace hr0 := hid hr0; replace hrn := hid hrn; replace hm0 := hid hm0; replace hmn := hid hmn
      clear hturn hgt hd
      have k5 : Blk (wo.alloc (.cells #[.int .i64 t.seq, .slice am t.mt.length cm, .slice ad t.dt.length cd, .slice ar t.rev.length cr, .bool t.h0.on, .int .i64 t.h0.left, .bool t.h1.on, .int .i64 t.h1.left, .bool t.h2.on, .int .i64 t.h2.left] 64)) wo.heap.size #[.int .i64 t.seq, .slice am t.mt.length cm, .slice ad t.dt.length cd, .slice ar t.rev.length cr, .bool t.h0.on, .int .i64 t.h0.left, .bool t.h1.on, .int .i64 t.h1.left, .bool t.h2.on, .int .i64 t.h2.left] 64 := Blk.new wo _ _
      go_wp2
      go_loopw [3, 7, 19] (fun o _ i wr => ∃ j : Nat, j ≤ t.rev.length ∧ i = .int .i64 j ∧ Own cpyC w.heap.size 93 2 wr o (viewL (revF g (t.rev.take j))) ∧ Below w.heap.size w wr ∧ Below (wo.heap.size + 1) (wo.alloc (.cells #[.int .i64 t.seq, .slice am t.mt.length cm, .slice ad t.dt.length cd, .slice ar t.rev.length cr, .bool t.h0.on, .int .i64 t.h0.left, .bool t.h1.on, .int .i64 t.h1.left, .bool t.h2.on, .int .i64 t.h2.left] 64)) wr) (fun _ _ i _ => t.rev.length - (intOf i).toNat)
      case atStart => exact ⟨0, Nat.zero_le _, rfl, by rw [hr0.out]; exact hown.alloc _, bal nx _, Below.refl _ _⟩
      case round =>
        clear hown
        obtain ⟨j, hj, rfl, hown, nx2, hb2⟩ := hrel
        have hbo : Below wo.heap.size wo wr := (bal (b0 wo) _).trans (hb2.mono (by omega))
        by_cases hlt2 : j < t.rev.length
        · obtain ⟨b3, o3, rfl, d0⟩ := RL.at1 (fun x => .int .i64 x) (fun _ => rfl) (hr.out.below hbo) hlt2
          have hs := hrs.out j hlt2
          have hRj := hR.out (revF g (t.rev.take j)) t.rev[j]
          rw [hs] at hRj
          clear hs
          generalize revF g (t.rev.take j) = gj at *
          generalize t.rev[j] = x at *
          obtain ⟨ao, co, rfl⟩ := hown.form
          replace hRj := hid hRj
          go_wp2_with (go_at_call 60; go_loud ((with_reducible refine (hRj.out _ _ hown.reads).mono ?_); rintro e w1 ⟨v1, rfl, hown1, hb1⟩; have nx3 := bgo nx2 hb1; have hb3 := hb2.trans (hb1.mono (by have := hb2.size; simpa using this)); have hown1' := hown1.mono (base' := w.heap.size) nx2.size))
          go_roundw
          case rel => exact ⟨j + 1, by omega, by go_num, hown1', nx3, hb3⟩
          case measure => simp [intOf]; omega
        · obtain rfl : j = t.rev.length := by omega
          rw [hrn.out] at hown
          have k5b := k5.below hb2 (by omega)
          have l5 := k5b.lt
          have c1 := k5b.cell 1
          simp only [List.getElem?_toArray, List.getElem?_cons_zero, List.getElem?_cons_succ] at c1
          go_wp2
          go_loopw [3, 9, 30] (fun o _ i wi => ∃ j : Nat, j ≤ t.mt.length ∧ i = .int .i64 j ∧ Own cpyC w.heap.size 93 2 wi o (viewL (metaF (revF g t.rev) (t.mt.take j))) ∧ Below w.heap.size w wi ∧ Below (wo.heap.size + 1) (wo.alloc (.cells #[.int .i64 t.seq, .slice am t.mt.length cm, .slice ad t.dt.length cd, .slice ar t.rev.length cr, .bool t.h0.on, .int .i64 t.h0.left, .bool t.h1.on, .int .i64 t.h1.left, .bool t.h2.on, .int .i64 t.h2.left] 64)) wi) (fun _ _ i _ => t.mt.length - (intOf i).toNat)
          case atStart => exact ⟨0, Nat.zero_le _, rfl, by rw [hm0.out]; exact hown, nx2, hb2⟩
          case round =>
            clear hown nx2 hb2 hbo k5b l5 c1
            obtain ⟨j, hj, rfl, hown, nx2, hb2⟩ := hrel
            have hbo : Below wo.heap.size wo wr := (bal (b0 wo) _).trans (hb2.mono (by omega))
            have k5b := k5.below hb2 (by omega)
            have l5 := k5b.lt
            by_cases hlt2 : j < t.mt.length
            · obtain ⟨b3, o3, rfl, d0, d1⟩ := RL.at2 (fun x => .int .i64 x.block) (fun x => .string x.text) (fun _ => rfl) (hm.out.below hbo) hlt2
              have hs := hms.out j hlt2
              have hWj := hW.out (metaF (revF g t.rev) (t.mt.take j)) t.mt[j].block t.mt[j].text
              rw [hs] at hWj
              have hBj := hB.out t.mt[j].block
              rw [hmk.out j hlt2] at hBj
              have hAj := hA.out t.rev t.mt[j].block (.slice ar t.rev.length cr)
              rw [hma.out j hlt2] at hAj
              clear hs
              generalize metaF (revF g t.rev) (t.mt.take j) = gj at *
              generalize t.mt[j] = x at *
              obtain ⟨ao, co, rfl⟩ := hown.form
              replace hWj := hid hWj; replace hBj := hid hBj; replace hAj := hid hAj
              have c3 := k5b.cell 3
              simp only [List.getElem?_toArray, List.getElem?_cons_zero, List.getElem?_cons_succ] at c3
              have k9 : Blk (wr.alloc (.cells #[.int .i64 x.block, .string x.text] 93)) wr.heap.size #[.int .i64 x.block, .string x.text] 93 := Blk.new wr _ _
              go_wp2_with (first
                | (go_at_call 61; go_loud ((with_reducible refine (hBj.out _).mono ?_); rintro e w1 ⟨rfl, rfl⟩))
                | (go_at_call 62; go_loud ((with_reducible refine (hAj.out _ (hr.out.below (bal hbo _)) n3).mono ?_); rintro e w1 ⟨rfl, rfl⟩))
                | (go_at_call 63; go_loud ((with_reducible refine (hWj.out _ _ (hown.alloc _).reads).mono ?_); rintro e w1 ⟨v1, rfl, hown1, hb1⟩; have nx3 := bgo (bal nx2 _) hb1; have hb3 := (allocB hb2 (by simp) _).trans (hb1.mono (by have := hb2.size; simp at this ⊢; omega)); have hown1' := hown1.mono (base' := w.heap.size) (by have := nx2.size; simp; omega))))
              go_roundw
              case rel => exact ⟨j + 1, by omega, by go_num, hown1', nx3, hb3⟩
              case measure => simp [intOf]; omega
            · obtain rfl : j = t.mt.length := by omega
              rw [hmn.out] at hown
              go_wp2
              go_roundw
              case rel => exact ⟨k + 1, by omega, by go_num, by rw [hge.out]; exact hown, nx2⟩
              case measure => simp [intOf]; omega
    · obtain rfl : k = l.length := by omega
      rw [List.take_length] at hown
      go_wp2
      go_ret
      exact ⟨_, rfl, hown, nx⟩
end Go.Proofs.Ytjhmfljlclajnab

namespace Go.Proofs.Ytjhmfljlclajnab
open Go.RowKit Wb
set_option linter.unusedVariables false
set_option linter.unusedSimpArgs false
set_option maxRecDepth 100000
set_option maxHeartbeats 4000000
theorem elemTxn : Elem Try.prog 49 64 10 128 := Elem.mk' (z := .agg #[.int .i64 0, .slice none 0 0, .slice none 0 0, .slice none 0 0, .bool false, .int .i64 0, .bool false, .int .i64 0, .bool false, .int .i64 0]) Try.underlying49 (by kernel_rfl) rfl

theorem law_txns (l : List Txn) (v : Value) (w : World) (h : RTxns w v l) :
    Calls Try.prog 30 #[v] w fun e w' => ∃ v', e = .returned v' ∧ OTxns w.heap.size 64 93 3 w' v' l ∧ Below w.heap.size w w' := by
  obtain ⟨a, cap, rfl, hl⟩ := h.form
  have hC := fun t v w (hh : RTxn w v t) => ref_CopyTxn t v w hh
  have hst := fun k (hk : k < l.length) => List.take_succ_eq_append_getElem hk
  have h0 : l.take 0 = [] := rfl
  replace h := hid h; replace hC := hid hC; replace hst := hid hst; replace h0 := hid h0
  go_enter Try.func30, Try.ntmps30
  go_wp2
  go_loopw [3, 8] (fun o i wr => ∃ k : Nat, k ≤ l.length ∧ i = .int .i64 k ∧ OTxns w.heap.size 64 93 3 wr o (l.take k) ∧ Below w.heap.size w wr) (fun _ i _ => l.length - (intOf i).toNat)
  case atStart => exact ⟨0, Nat.zero_le _, rfl, by rw [h0.out]; exact OTxns.nil _ _ _ _ _, b0 w⟩
  case round =>
    obtain ⟨k, hk, rfl, hown, nx⟩ := hrel
    by_cases hlt : k < l.length
    · obtain ⟨b1, o1, am, cm, ad, cd, ar, cr, rfl, hrt, c0, c1, c2, c3, c4, c5, c6, c7, c8, c9⟩ := (h.out.below nx).at3 hlt
      have hstk := hst.out k hlt
      have hlk : (l.take k).length ≤ 1099511627743 := by rw [List.length_take]; omega
      generalize hl2 : l.take (k + 1) = l2 at *
      replace hl2 := hid hl2
      generalize l.take k = l1 at *
      generalize l[k] = t at *
      obtain ⟨xs, hox, hxm, hxo⟩ := hown
      have hxl : xs.length = l1.length := by rw [← hxm]; simp
      have hxl2 : xs.length ≤ 1099511627743 := by omega
      replace hxl := hid hxl; replace hxm := hid hxm; replace hxo := hid hxo
      replace hrt := hid hrt
      replace hstk := hid hstk
      go_wp2_with (first
        | (go_at_call 32; go_loud ((refine (hC.out t _ _ (hrt.out.below (bal (b0 wr) _))).mono ?_); rintro e w1 ⟨v1, rfl, hot, hb1⟩; obtain ⟨y, hyt, hv, hoy⟩ := hot.tv; obtain ⟨ty, ⟨q1, q2, q3⟩, ⟨q4, q5, q6⟩, ⟨q7, q8, q9⟩⟩ := y; subst hyt; dsimp only [TV.val, txnV, SlV.val] at hv; subst hv; have nx1 := bgo (bal nx _) hb1; have hox1 := (hox.alloc _).below hb1; have hxo1 := hid (fun x hx => ((hxo.out x hx).below (bgo (bal (b0 wr) _) hb1))); have hoy2 := hid (hoy.mono (b2 := w.heap.size) (by have := nx.size; simp; omega)); clear hox hoy hot))
        | (at_builtin; go_loud (refine wpList_push rfl _ _ _ rfl w.heap.size _ 10 128 tvC_flat elemTxn hox1 rfl ⟨ty, ⟨q1, q2, q3⟩, ⟨q4, q5, q6⟩, ⟨q7, q8, q9⟩⟩ rfl rfl (by omega) (by unfold maxLen; omega) nx1.size ?_); intro v7 w7 hown7 hbel7 hg7))
      have hp := OTxns.pushed hox1 hxo1.out hoy2.out (by decide) (by decide) hown7 hg7
      rw [hxm.out] at hp
      dsimp only at hp
      rw [← hstk.out] at hp
      replace hp := hid hp
      go_wp2
      go_roundw
      case rel => exact ⟨k + 1, by omega, by go_num, by rw [hl2.out]; exact hp.out, nx1.trans hbel7⟩
      case measure => simp [intOf]; omega
    · obtain rfl : k = l.length := by omega
      rw [List.take_length] at hown
      go_wp2
      go_ret
      exact ⟨_, rfl, hown, nx⟩

theorem law_good (l : List Txn) (v : Value) (w : World) (h : RTxns w v l) :
    Calls Try.prog 27 #[v] w fun e w' => e = .returned (.bool (l.all goodT)) ∧ Below w.heap.size w w' := by
  obtain ⟨a, cap, rfl, hl⟩ := h.form
  have hG := fun t v w (hh : RTxn w v t) => ref_GoodTxn t v w hh
  have hno := fun k (hk : k < l.length) (hn : goodT l[k] = false) => all_no (p := goodT) hk hn
  have hst := fun k (hk : k < l.length) hh (hn : goodT l[k] = true) => all_step (p := goodT) hk hh hn
  replace h := hid h; replace hG := hid hG; replace hst := hid hst; replace hno := hid hno
  go_enter Try.func27, Try.ntmps27
  go_wp2
  go_loopw [7] (fun i wr => ∃ k : Nat, k ≤ l.length ∧ i = .int .i64 k ∧ Hid ((l.take k).all goodT = true) ∧ Below w.heap.size w wr) (fun i _ => l.length - (intOf i).toNat)
  case atStart => exact ⟨0, Nat.zero_le _, rfl, hid rfl, b0 w⟩
  case round =>
    obtain ⟨k, hk, rfl, hall, nx⟩ := hrel
    by_cases hlt : k < l.length
    · obtain ⟨b1, o1, am, cm, ad, cd, ar, cr, rfl, hrt, c0, c1, c2, c3, c4, c5, c6, c7, c8, c9⟩ := (h.out.below nx).at3 hlt
      have hnk := hno.out k hlt
      have hsk := hst.out k hlt hall.out
      generalize l[k] = t at *
      have hGt := hG.out t
      replace hrt := hid hrt; replace hnk := hid hnk; replace hsk := hid hsk
      cases hg : goodT t with
      | true =>
        rw [hg] at hGt
        have hs := hid (hsk.out hg)
        clear hg
        replace hGt := hid hGt
        go_wp2_with (go_at_call 39; go_loud ((refine (hGt.out _ _ (hrt.out.below (bal (b0 wr) _))).mono ?_); rintro e w1 ⟨rfl, hb1⟩; have nx1 := bgo (bal nx _) hb1))
        go_roundw
        case rel => exact ⟨k + 1, by omega, by go_num, hs, nx1⟩
        case measure => simp [intOf]; omega
      | false =>
        rw [hg] at hGt
        have hs := hid (hnk.out hg)
        clear hg
        replace hGt := hid hGt
        go_wp2_with (go_at_call 39; go_loud ((refine (hGt.out _ _ (hrt.out.below (bal (b0 wr) _))).mono ?_); rintro e w1 ⟨rfl, hb1⟩; have nx1 := bgo (bal nx _) hb1))
        go_ret
        exact ⟨ret_b hs.out.symm, nx1⟩
    · obtain rfl : k = l.length := by omega
      have hv := hall.out
      rw [List.take_length] at hv
      replace hv := hid hv
      go_wp2
      go_ret
      exact ⟨ret_b hv.out.symm, nx⟩
end Go.Proofs.Ytjhmfljlclajnab

namespace Go.Proofs.Ytjhmfljlclajnab
open Go.RowKit Wb
set_option linter.unusedVariables false
set_option linter.unusedSimpArgs false
set_option maxRecDepth 100000
set_option maxHeartbeats 40000000
theorem scan_Scan (hDec : DecodeSaid) (hOne : OneSaid) (d : Dsk) (v : Value) (w : World) (hd : RDisk w v d) :
    Calls Try.prog 23 #[v] w fun e w' => ∃ v', e = .returned (.tuple #[v', .int .i64 (scanE d)]) ∧ OFnd w.heap.size 64 93 3 w' v' (scanF d) ∧ Below w.heap.size w w' := by
  have hd0 := hd
  obtain ⟨vs, vw, rfl, hs, hw, n1, n2⟩ := hd
  obtain ⟨as_, cs, rfl, _⟩ := hs.form
  obtain ⟨aw, cw, rfl, _⟩ := hw.form
  have hR := fun w' (hh : RDisk w' (.agg #[.slice as_ d.safe.length cs, .slice aw d.writes.length cw]) d) => disk_Read d 0 _ w' hh
  have hsz := readD_size d 0
  have hD := fun w' => hDec (readD d 0) w' (by omega)
  have hbd := fun h => dec_bds (s := readD d 0) h
  have hLs := fun A => logL_size d A
  have hLx := fun A => sfx_all d A
  have hLl := fun A => logL_len d A
  have hx2 : readE d 0 ≠ 0 → readE d 0 = 2 ∧ scanE d = 2 ∧ scanF d = ⟨[], 0, 0⟩ := fun h => by
    have h1 : scanE d = 2 := by unfold scanE; rw [if_neg h]
    refine ⟨?_, h1, ?_⟩
    · unfold readE at h ⊢
      split
      · rename_i hh; rw [if_pos hh] at h; exact absurd rfl h
      · rfl
    · unfold scanF; rw [if_neg (by rw [h1]; decide)]
  have hx1 : readE d 0 = 0 → ¬ (decE (readD d 0) = 0 ∧ (decM (readD d 0)).kind = 1) → scanE d = 1 ∧ scanF d = ⟨[], 0, 0⟩ := fun h h2 => by
    have h1 : scanE d = 1 := by unfold scanE; rw [if_pos h, if_neg h2]
    refine ⟨h1, ?_⟩
    unfold scanF; rw [if_neg (by rw [h1]; decide)]
  have hx0 : readE d 0 = 0 → decE (readD d 0) = 0 ∧ (decM (readD d 0)).kind = 1 → scanE d = 0 ∧ scanF d = ⟨(scanGo 25 (logL d (decM (readD d 0)).at_) (decM (readD d 0)).seq).1, (scanGo 25 (logL d (decM (readD d 0)).at_) (decM (readD d 0)).seq).2.1, ((decM (readD d 0)).at_ + (24 - ((scanGo 25 (logL d (decM (readD d 0)).at_) (decM (readD d 0)).seq).2.2.length : Int))) % 24⟩ := fun h h2 => by
    have h1 : scanE d = 0 := by unfold scanE; rw [if_pos h, if_pos h2]
    refine ⟨h1, ?_⟩
    unfold scanF; rw [if_pos h1]
  generalize scanE d = sE at *
  generalize scanF d = sF at *
  generalize readE d 0 = re at *
  generalize readD d 0 = s0 at *
  generalize decE s0 = de at *
  generalize decM s0 = M at *
  obtain ⟨mk, ms, ma, tags, blocks⟩ := M
  dsimp only at *
  have kd : Blk ((w.alloc (.cells #[.slice as_ d.safe.length cs, .slice aw d.writes.length cw] 25)).alloc (.cells #[.slice none 0 0, .int .i64 0, .int .i64 0] 51)) w.heap.size #[.slice as_ d.safe.length cs, .slice aw d.writes.length cw] 25 := (Blk.new w _ _).alloc _
  have kr : Blk ((w.alloc (.cells #[.slice as_ d.safe.length cs, .slice aw d.writes.length cw] 25)).alloc (.cells #[.slice none 0 0, .int .i64 0, .int .i64 0] 51)) (w.heap.size + 1) #[.slice none 0 0, .int .i64 0, .int .i64 0] 51 := Blk.newAt (by simp)
  have nx : Below w.heap.size w ((w.alloc (.cells #[.slice as_ d.safe.length cs, .slice aw d.writes.length cw] 25)).alloc (.cells #[.slice none 0 0, .int .i64 0, .int .i64 0] 51)) := bal (bal (b0 w) _) _
  have a0 := kd.cell 0; have a1 := kd.cell 1
  simp only [List.getElem?_toArray, List.getElem?_cons_zero, List.getElem?_cons_succ] at a0 a1
  replace hR := hid (hR _ (hd0.below nx)); replace hD := hid hD; replace hLs := hid hLs; replace hLx := hid hLx; replace hLl := hid hLl; replace hd0 := hid hd0
  clear hs hw
  by_cases hre : re = 0
  rotate_left
  · obtain ⟨rfl, rfl, rfl⟩ := hx2 hre
    clear hx1 hx0 hx2 hre hbd
    go_enter Try.func23, Try.ntmps23
    go_wp2_with (go_at_call 21; go_loud ((with_reducible refine hR.out.mono ?_); rintro e w1 ⟨rfl, hb1⟩; replace kr := kr.step hb1; replace nx := bgo nx hb1; have r0 := kr.cell 0; have r1 := kr.cell 1; have r2 := kr.cell 2; have z0 := kr.free 0; have z1 := kr.free 1; have z2 := kr.free 2; simp only [List.getElem?_toArray, List.getElem?_cons_zero, List.getElem?_cons_succ] at r0 r1 r2))
    exact bodyPost_ret (v := .tuple #[.agg #[.slice none 0 0, .int .i64 0, .int .i64 0], .int .i64 2]) (by simp [results, Try.results23, go_sem, r0, r1, r2]) rfl ⟨_, rfl, ⟨_, rfl, OTxns.nil _ _ _ _ _⟩, ((nx.setCell (by simp) _).setCell (by simp) _).setCell (by simp) _⟩
  by_cases hsu : de = 0 ∧ mk = 1
  rotate_left
  · obtain ⟨rfl, rfl⟩ := hx1 hre hsu
    subst hre
    clear hx1 hx0 hx2 hbd
    by_cases hde : de = 0
    · have hde2 : (de != 0) = false := by rw [hde]; rfl
      have hmk : (mk != 1) = true := bne_iff_ne.2 (fun h => hsu ⟨hde, h⟩)
      clear hsu hde
      go_enter Try.func23, Try.ntmps23
      go_wp2_with (go_at_call 21; go_loud ((with_reducible refine hR.out.mono ?_); rintro e w1 ⟨rfl, hb1⟩; replace kr := kr.step hb1; replace nx := bgo nx hb1))
      go_wp2_with (go_at_call 16; go_loud ((with_reducible refine (hD.out _).mono ?_); rintro e w2 ⟨v2, rfl, hmk, hb2⟩; obtain ⟨vt, vb, rfl, ot, ob, t1, t2⟩ := hmk; dsimp only at ot ob t1 t2 ⊢; obtain ⟨at_, ct, rfl⟩ := ot.form; obtain ⟨ab, cb, rfl⟩ := ob.form; replace kr := kr.step hb2; replace nx := bgo nx hb2; have r0 := kr.cell 0; have r1 := kr.cell 1; have r2 := kr.cell 2; have z0 := kr.free 0; have z1 := kr.free 1; have z2 := kr.free 2; simp only [List.getElem?_toArray, List.getElem?_cons_zero, List.getElem?_cons_succ] at r0 r1 r2; have lr := kr.lt))
      exact bodyPost_ret (v := .tuple #[.agg #[.slice none 0 0, .int .i64 0, .int .i64 0], .int .i64 1]) (by simp [results, Try.results23, go_sem, r0, r1, r2, lr]) rfl ⟨_, rfl, ⟨_, rfl, OTxns.nil _ _ _ _ _⟩, bal (((nx.setCell (p := ⟨w.heap.size + 1, 0, none⟩) (by simp) _).setCell (p := ⟨w.heap.size + 1, 1, none⟩) (by simp) _).setCell (p := ⟨w.heap.size + 1, 2, none⟩) (by simp) _) _⟩
    · have hde2 : (de != 0) = true := bne_iff_ne.2 hde
      clear hsu hde
      go_enter Try.func23, Try.ntmps23
      go_wp2_with (go_at_call 21; go_loud ((with_reducible refine hR.out.mono ?_); rintro e w1 ⟨rfl, hb1⟩; replace kr := kr.step hb1; replace nx := bgo nx hb1))
      go_wp2_with (go_at_call 16; go_loud ((with_reducible refine (hD.out _).mono ?_); rintro e w2 ⟨v2, rfl, hmk, hb2⟩; obtain ⟨vt, vb, rfl, ot, ob, t1, t2⟩ := hmk; dsimp only at ot ob t1 t2 ⊢; obtain ⟨at_, ct, rfl⟩ := ot.form; obtain ⟨ab, cb, rfl⟩ := ob.form; replace kr := kr.step hb2; replace nx := bgo nx hb2; have r0 := kr.cell 0; have r1 := kr.cell 1; have r2 := kr.cell 2; have z0 := kr.free 0; have z1 := kr.free 1; have z2 := kr.free 2; simp only [List.getElem?_toArray, List.getElem?_cons_zero, List.getElem?_cons_succ] at r0 r1 r2; have lr := kr.lt))
      exact bodyPost_ret (v := .tuple #[.agg #[.slice none 0 0, .int .i64 0, .int .i64 0], .int .i64 1]) (by simp [results, Try.results23, go_sem, r0, r1, r2, lr]) rfl ⟨_, rfl, ⟨_, rfl, OTxns.nil _ _ _ _ _⟩, bal (((nx.setCell (p := ⟨w.heap.size + 1, 0, none⟩) (by simp) _).setCell (p := ⟨w.heap.size + 1, 1, none⟩) (by simp) _).setCell (p := ⟨w.heap.size + 1, 2, none⟩) (by simp) _) _⟩
  obtain ⟨rfl, hF⟩ := hx0 hre hsu
  obtain ⟨rfl, rfl⟩ := hsu
  subst hre
  obtain ⟨_, _, q3, q4, q5, q6⟩ := hbd rfl
  clear hx0 hx1 hx2 hbd
  have hL0 := hid (hLx.out ma)
  have hL1 := hid (hLs.out ma)
  have hL2 := hLl.out ma
  generalize logL d ma = L at *
  have hG0 := hid (show (scanGo 25 L ms) = scanGo (L.length + 1) L ms by rw [hL2])
  replace hF := hid hF
  generalize hGG : scanGo 25 L ms = G at *
  have hA0 : (ma + (24 - ((24 : Nat) : Int))) % 24 = ma := by omega
  have hrd : rdrC (.slice as_ d.safe.length cs) (.slice aw d.writes.length cw) ma L.length = #[.slice as_ d.safe.length cs, .slice aw d.writes.length cw, .int .i64 ma, .int .i64 24] := by unfold rdrC; rw [hL2, hA0]; rfl
  clear hLs hLx hLl hGG
  replace hrd := hid hrd
  go_enter Try.func23, Try.ntmps23
  go_wp2_with (go_at_call 21; go_loud ((with_reducible refine hR.out.mono ?_); rintro e w1 ⟨rfl, hb1⟩; replace kr := kr.step hb1; replace kd := kd.step hb1; replace nx := bgo nx hb1))
  go_wp2_with (go_at_call 16; go_loud ((with_reducible refine (hD.out _).mono ?_); rintro e w2 ⟨v2, rfl, hmk, hb2⟩; obtain ⟨vt, vb, rfl, ot, ob, t1, t2⟩ := hmk; dsimp only at ot ob t1 t2 ⊢; obtain ⟨at_, ct, rfl⟩ := ot.form; obtain ⟨ab, cb, rfl⟩ := ob.form; replace kr := kr.step hb2; replace kd := kd.step hb2; replace nx := bgo nx hb2; clear a0 a1; have a0 := kd.cell 0; have a1 := kd.cell 1; simp only [List.getElem?_toArray, List.getElem?_cons_zero, List.getElem?_cons_succ] at a0 a1; have lr := kr.lt; have ld := kd.lt))
  have hat0 : (ma + (24 - (L.length : Int))) % 24 = ma := by rw [hL2]; omega
  have kb0 : Blk (((w2.alloc (.cells #[.int .i64 1, .int .i64 ms, .int .i64 ma, .slice at_ tags.length ct, .slice ab blocks.length cb] 38)).alloc (.cells #[.slice as_ d.safe.length cs, .slice aw d.writes.length cw, .int .i64 ma, .int .i64 24] 87)).alloc (.cells #[.slice none 0 0, .int .i64 ms, .int .i64 ma] 51)) (w2.heap.size + 1) (rdrC (.slice as_ d.safe.length cs) (.slice aw d.writes.length cw) ma L.length) 87 := by rw [hrd.out]; exact (Blk.newAt (by simp)).alloc _
  have kf0 : Blk (((w2.alloc (.cells #[.int .i64 1, .int .i64 ms, .int .i64 ma, .slice at_ tags.length ct, .slice ab blocks.length cb] 38)).alloc (.cells #[.slice as_ d.safe.length cs, .slice aw d.writes.length cw, .int .i64 ma, .int .i64 24] 87)).alloc (.cells #[.slice none 0 0, .int .i64 ms, .int .i64 ma] 51)) (w2.heap.size + 2) #[.slice none 0 0, .int .i64 ms, .int .i64 ((ma + (24 - (L.length : Int))) % 24)] 51 := by rw [hat0]; exact Blk.newAt (by simp)
  have kr0 := ((kr.alloc (.cells #[.int .i64 1, .int .i64 ms, .int .i64 ma, .slice at_ tags.length ct, .slice ab blocks.length cb] 38)).alloc (.cells #[.slice as_ d.safe.length cs, .slice aw d.writes.length cw, .int .i64 ma, .int .i64 24] 87)).alloc (.cells #[.slice none 0 0, .int .i64 ms, .int .i64 ma] 51)
  have nx0 := bal (bal (bal nx (.cells #[.int .i64 1, .int .i64 ms, .int .i64 ma, .slice at_ tags.length ct, .slice ab blocks.length cb] 38)) (.cells #[.slice as_ d.safe.length cs, .slice aw d.writes.length cw, .int .i64 ma, .int .i64 24] 87)) (.cells #[.slice none 0 0, .int .i64 ms, .int .i64 ma] 51)
  have s0 : w2.heap.size + 3 ≤ (((w2.alloc (.cells #[.int .i64 1, .int .i64 ms, .int .i64 ma, .slice at_ tags.length ct, .slice ab blocks.length cb] 38)).alloc (.cells #[.slice as_ d.safe.length cs, .slice aw d.writes.length cw, .int .i64 ma, .int .i64 24] 87)).alloc (.cells #[.slice none 0 0, .int .i64 ms, .int .i64 ma] 51)).heap.size := by simp
  have lw2 := kr.lt
  have hgo0 := hid (show ([] : List Txn) ++ (scanGo (L.length + 1) L ms).1 = G.1 ∧ (scanGo (L.length + 1) L ms).2 = G.2 by rw [← hG0.out]; exact ⟨rfl, rfl⟩)
  clear hat0 kd ot ob hG0 hrd
  go_loopg [9, 10] L.length (fun g _ _ wr => ∃ (r : List ByteArray) (n : Int) (ts : List Txn), g = r.length ∧ Hid (sfx d ma r) ∧ Hid (∀ s ∈ r, s.size ≤ 9223372036854775807) ∧ Hid (ts ++ (scanGo (r.length + 1) r n).1 = G.1 ∧ (scanGo (r.length + 1) r n).2 = G.2) ∧ 1 ≤ n ∧ n ≤ 2147483647 ∧ ts.length + r.length ≤ 24 ∧ ∃ vt, OTxns (w2.heap.size + 3) 64 93 3 wr vt ts ∧ Blk wr (w2.heap.size + 2) #[vt, .int .i64 n, .int .i64 ((ma + (24 - (r.length : Int))) % 24)] 51 ∧ Blk wr (w2.heap.size + 1) (rdrC (.slice as_ d.safe.length cs) (.slice aw d.writes.length cw) ma r.length) 87 ∧ Blk wr (w.heap.size + 1) #[.slice none 0 0, .int .i64 0, .int .i64 0] 51 ∧ Below w.heap.size w wr ∧ w2.heap.size + 3 ≤ wr.heap.size)
  case atStart => exact ⟨L, ms, [], rfl, hL0, hL1, hgo0, q5, q6, by simp; omega, _, OTxns.nil _ _ _ _ _, kf0, kb0, kr0, nx0, s0⟩
  case round =>
    clear kb0 kf0 kr0 nx0 s0 hgo0 hL0 hL1 kr nx a0 a1 ld lr
    obtain ⟨r, n, ts, rfl, hs, hsz, hgo, b1, b2, hb, vt, hox, kf, kb, kr, nx, hg3⟩ := hrel
    obtain ⟨a, c, rfl⟩ := hox.form
    have lf := kf.lt; have lb := kb.lt; have lr := kr.lt
    have f0 := kf.cell 0; have f1 := kf.cell 1; have f2 := kf.cell 2
    have r0 := kr.cell 0; have r1 := kr.cell 1; have r2 := kr.cell 2
    have z0 := kr.free 0; have z1 := kr.free 1; have z2 := kr.free 2
    simp only [List.getElem?_toArray, List.getElem?_cons_zero, List.getElem?_cons_succ] at f0 f1 f2 r0 r1 r2
    by_cases hlt : n < 2147483647
    rotate_left
    · have hFF := hid (show sF = ⟨ts, n, ((ma + (24 - (r.length : Int))) % 24)⟩ by
        obtain ⟨g1, g2⟩ := hgo.out
        rw [scanGo_full hlt] at g1 g2
        rw [hF.out, ← g1, ← g2]
        simp)
      clear hgo hF
      go_wp2
      have oz := ((hox.setCell (p := ⟨w.heap.size + 1, 0, none⟩) (by simp; omega) (.slice a ts.length c)).setCell (p := ⟨w.heap.size + 1, 1, none⟩) (by simp; omega) (.int .i64 n)).setCell (p := ⟨w.heap.size + 1, 2, none⟩) (by simp; omega) (.int .i64 ((ma + (24 - (r.length : Int))) % 24))
      have nz := ((nx.setCell (p := ⟨w.heap.size + 1, 0, none⟩) (by simp) (.slice a ts.length c)).setCell (p := ⟨w.heap.size + 1, 1, none⟩) (by simp) (.int .i64 n)).setCell (p := ⟨w.heap.size + 1, 2, none⟩) (by simp) (.int .i64 ((ma + (24 - (r.length : Int))) % 24))
      exact bodyPost_ret (v := .tuple #[.agg #[.slice a ts.length c, .int .i64 n, .int .i64 ((ma + (24 - (r.length : Int))) % 24)], .int .i64 0]) (by simp [results, Try.results23, go_sem, r0, r1, r2]) rfl ⟨_, rfl, by rw [hFF.out]; exact ⟨_, rfl, oz.mono (by omega)⟩, nz⟩
    have hw1 : IntKind.i64.wrap (n + 1) = n + 1 := IntWalk.i64_in _ (by omega)
    cases hp : parseT n 25 r (txn0 n) with
    | none =>
      have hFF := hid (show sF = ⟨ts, n, ((ma + (24 - (r.length : Int))) % 24)⟩ by
        obtain ⟨g1, g2⟩ := hgo.out
        rw [scanGo_stop hp] at g1 g2
        rw [hF.out, ← g1, ← g2]
        simp)
      have hO := hid (one_none hOne d w (w2.heap.size + 1) (.slice as_ d.safe.length cs) (.slice aw d.writes.length cw) ma n r wr nx hd0.out (by omega) hs.out hsz.out kb hp)
      clear hgo hF hp
      go_wp2_with (go_at_call 56; go_loud ((with_reducible refine hO.out.mono ?_); rintro e w4 ⟨rfl, n4, kb4, g4⟩; replace hox := hox.grownBlk kb (by decide) (by decide) (by decide) g4; replace kf := kf.grown g4 (by simp); replace kr := kr.grown g4 (by simp; omega); replace nx := gBelow g4 nx nx.size (by omega); clear f0 f1 f2 r0 r1 r2 z0 z1 z2 lf lr; have lf := kf.lt; have lr := kr.lt; have f0 := kf.cell 0; have f1 := kf.cell 1; have f2 := kf.cell 2; have r0 := kr.cell 0; have r1 := kr.cell 1; have r2 := kr.cell 2; have z0 := kr.free 0; have z1 := kr.free 1; have z2 := kr.free 2; simp only [List.getElem?_toArray, List.getElem?_cons_zero, List.getElem?_cons_succ] at f0 f1 f2 r0 r1 r2))
      have oz := (((hox.setCell (p := ⟨w.heap.size + 1, 0, none⟩) (by simp; omega) (.slice a ts.length c)).setCell (p := ⟨w.heap.size + 1, 1, none⟩) (by simp; omega) (.int .i64 n)).setCell (p := ⟨w.heap.size + 1, 2, none⟩) (by simp; omega) (.int .i64 ((ma + (24 - (r.length : Int))) % 24))).below (bal (b0 _) (.cells #[.int .i64 0, .slice none 0 0, .slice none 0 0, .slice none 0 0, .bool false, .int .i64 0, .bool false, .int .i64 0, .bool false, .int .i64 0] 64))
      have nz := bal (((nx.setCell (p := ⟨w.heap.size + 1, 0, none⟩) (by simp) (.slice a ts.length c)).setCell (p := ⟨w.heap.size + 1, 1, none⟩) (by simp) (.int .i64 n)).setCell (p := ⟨w.heap.size + 1, 2, none⟩) (by simp) (.int .i64 ((ma + (24 - (r.length : Int))) % 24))) (.cells #[.int .i64 0, .slice none 0 0, .slice none 0 0, .slice none 0 0, .bool false, .int .i64 0, .bool false, .int .i64 0, .bool false, .int .i64 0] 64)
      exact bodyPost_ret (v := .tuple #[.agg #[.slice a ts.length c, .int .i64 n, .int .i64 ((ma + (24 - (r.length : Int))) % 24)], .int .i64 0]) (by simp [results, Try.results23, go_sem, r0, r1, r2, lr]) rfl ⟨_, rfl, by rw [hFF.out]; exact ⟨_, rfl, oz.mono (by omega)⟩, nz⟩
    | some p =>
      obtain ⟨t, r'⟩ := p
      have hO := hid (one_some hOne d w (w2.heap.size + 1) (.slice as_ d.safe.length cs) (.slice aw d.writes.length cw) ma n r wr nx hd0.out (by omega) hs.out hsz.out kb hp)
      have hlen := parseT_len hp
      have hs2 := hid (parseT_sfx hp hs.out)
      have hsz2 := hid (fun x hx => hsz.out x (parseT_sub hp x hx))
      have hgo2 := hid (show (ts ++ [t]) ++ (scanGo (r'.length + 1) r' (n + 1)).1 = G.1 ∧ (scanGo (r'.length + 1) r' (n + 1)).2 = G.2 by
        obtain ⟨g1, g2⟩ := hgo.out
        obtain ⟨g3, g4⟩ := scanGo_step hlt hp
        rw [g3] at g1
        rw [g4] at g2
        exact ⟨by rw [List.append_assoc]; exact g1, g2⟩)
      clear hgo hp hs hsz r0 r1 r2 z0 z1 z2
      obtain ⟨xs, hox1, hxm, hxo⟩ := hox
      have hxl : xs.length = ts.length := by rw [← hxm]; simp
      replace hxl := hid hxl; replace hxm := hid hxm; replace hxo := hid hxo
      go_wp2_with (first
        | (go_at_call 56; go_loud ((with_reducible refine hO.out.mono ?_); rintro e w4 ⟨v4, rfl, ot, kb4, g4⟩; obtain ⟨y, hyt, hv, hoy⟩ := ot.tv; obtain ⟨ty, ⟨q1, q2, q3⟩, ⟨q4, q5, q6⟩, ⟨q7, q8, q9⟩⟩ := y; dsimp only at hyt; subst hyt; dsimp only [TV.val, txnV, SlV.val] at hv; subst hv; have lw4 := g4.size; replace nx := bal (gBelow g4 nx nx.size (by omega)) (.cells #[.int .i64 ty.seq, .slice q1 q2 q3, .slice q4 q5 q6, .slice q7 q8 q9, .bool ty.h0.on, .int .i64 ty.h0.left, .bool ty.h1.on, .int .i64 ty.h1.left, .bool ty.h2.on, .int .i64 ty.h2.left] 64); have hxo4 := hid (fun x hx => ((hxo.out x hx).grownBlk kb (by decide) (by decide) g4).below (bal (b0 w4) (.cells #[.int .i64 ty.seq, .slice q1 q2 q3, .slice q4 q5 q6, .slice q7 q8 q9, .bool ty.h0.on, .int .i64 ty.h0.left, .bool ty.h1.on, .int .i64 ty.h1.left, .bool ty.h2.on, .int .i64 ty.h2.left] 64))); have hox4 := (hox1.grownBlk kb (by decide) g4).alloc (.cells #[.int .i64 ty.seq, .slice q1 q2 q3, .slice q4 q5 q6, .slice q7 q8 q9, .bool ty.h0.on, .int .i64 ty.h0.left, .bool ty.h1.on, .int .i64 ty.h1.left, .bool ty.h2.on, .int .i64 ty.h2.left] 64); replace kf := (kf.grown g4 (by simp)).alloc (.cells #[.int .i64 ty.seq, .slice q1 q2 q3, .slice q4 q5 q6, .slice q7 q8 q9, .bool ty.h0.on, .int .i64 ty.h0.left, .bool ty.h1.on, .int .i64 ty.h1.left, .bool ty.h2.on, .int .i64 ty.h2.left] 64); replace kr := (kr.grown g4 (by simp; omega)).alloc (.cells #[.int .i64 ty.seq, .slice q1 q2 q3, .slice q4 q5 q6, .slice q7 q8 q9, .bool ty.h0.on, .int .i64 ty.h0.left, .bool ty.h1.on, .int .i64 ty.h1.left, .bool ty.h2.on, .int .i64 ty.h2.left] 64); replace kb4 := kb4.alloc (.cells #[.int .i64 ty.seq, .slice q1 q2 q3, .slice q4 q5 q6, .slice q7 q8 q9, .bool ty.h0.on, .int .i64 ty.h0.left, .bool ty.h1.on, .int .i64 ty.h1.left, .bool ty.h2.on, .int .i64 ty.h2.left] 64); have hoy4 := hid ((hoy.mono (b2 := w2.heap.size + 3) (by omega)).below (bal (b0 w4) (.cells #[.int .i64 ty.seq, .slice q1 q2 q3, .slice q4 q5 q6, .slice q7 q8 q9, .bool ty.h0.on, .int .i64 ty.h0.left, .bool ty.h1.on, .int .i64 ty.h1.left, .bool ty.h2.on, .int .i64 ty.h2.left] 64))); clear f0 f1 f2 lf hoy ot; have lf := kf.lt; have f0 := kf.cell 0; simp only [List.getElem?_toArray, List.getElem?_cons_zero, List.getElem?_cons_succ] at f0; have kt := Blk.new w4 #[.int .i64 ty.seq, .slice q1 q2 q3, .slice q4 q5 q6, .slice q7 q8 q9, .bool ty.h0.on, .int .i64 ty.h0.left, .bool ty.h1.on, .int .i64 ty.h1.left, .bool ty.h2.on, .int .i64 ty.h2.left] 64; have x0 := kt.cell 0; have x1 := kt.cell 1; have x2 := kt.cell 2; have x3 := kt.cell 3; have x4 := kt.cell 4; have x5 := kt.cell 5; have x6 := kt.cell 6; have x7 := kt.cell 7; have x8 := kt.cell 8; have x9 := kt.cell 9; simp only [List.getElem?_toArray, List.getElem?_cons_zero, List.getElem?_cons_succ] at x0 x1 x2 x3 x4 x5 x6 x7 x8 x9))
        | (at_builtin; go_loud (refine wpList_push1 rfl _ _ _ rfl (w2.heap.size + 3) _ 10 128 tvC_flat elemTxn hox4 rfl ⟨ty, ⟨q1, q2, q3⟩, ⟨q4, q5, q6⟩, ⟨q7, q8, q9⟩⟩ rfl rfl ts.length hxl.out (by omega) (by omega) (by simp; omega) ?_; intro a7 c7 w7 hown7 hbel7 hg7; have kf7 := kf.below hbel7 (by omega); have kr7 := kr.below hbel7 (by omega); have kb7 := kb4.below hbel7 (by omega); have nx7 := nx.trans (hbel7.mono (by omega)); have lf7 := kf7.lt; have y0 := kf7.cell 0; have y1 := kf7.cell 1; have y2 := kf7.cell 2; have u0 := kf7.free 0; have u1 := kf7.free 1; have u2 := kf7.free 2; have d2 := kb7.cell 2; simp only [List.getElem?_toArray, List.getElem?_cons_zero, List.getElem?_cons_succ] at y0 y1 y2; simp only [rdrC, List.getElem?_toArray, List.getElem?_cons_zero, List.getElem?_cons_succ] at d2)))
      have hp7 := OTxns.pushed hox4 hxo4.out hoy4.out (by decide) (by decide) hown7 hg7
      rw [hxm.out] at hp7
      have oz := (((hp7.setCell (p := ⟨w2.heap.size + 2, 0, none⟩) (by simp) (.slice a7 (ts.length + 1) c7)).setCell (p := ⟨w2.heap.size + 2, 1, none⟩) (by simp) (.int .i64 (n + 1))).setCell (p := ⟨w2.heap.size + 2, 2, none⟩) (by simp) (.int .i64 ((ma + (24 - (r'.length : Int))) % 24))).below (b0 _).drew
      have kz := (((kf7.set 0 (.slice a7 (ts.length + 1) c7)).set 1 (.int .i64 (n + 1))).set 2 (.int .i64 ((ma + (24 - (r'.length : Int))) % 24))).drew
      have kbz := (((kb7.set_other ⟨w2.heap.size + 2, 0, none⟩ (.slice a7 (ts.length + 1) c7) (by simp)).set_other ⟨w2.heap.size + 2, 1, none⟩ (.int .i64 (n + 1)) (by simp)).set_other ⟨w2.heap.size + 2, 2, none⟩ (.int .i64 ((ma + (24 - (r'.length : Int))) % 24)) (by simp)).drew
      have krz := (((kr7.set_other ⟨w2.heap.size + 2, 0, none⟩ (.slice a7 (ts.length + 1) c7) (by simp; omega)).set_other ⟨w2.heap.size + 2, 1, none⟩ (.int .i64 (n + 1)) (by simp; omega)).set_other ⟨w2.heap.size + 2, 2, none⟩ (.int .i64 ((ma + (24 - (r'.length : Int))) % 24)) (by simp; omega)).drew
      have nz := (((nx7.setCell (p := ⟨w2.heap.size + 2, 0, none⟩) (by simp; omega) (.slice a7 (ts.length + 1) c7)).setCell (p := ⟨w2.heap.size + 2, 1, none⟩) (by simp; omega) (.int .i64 (n + 1))).setCell (p := ⟨w2.heap.size + 2, 2, none⟩) (by simp; omega) (.int .i64 ((ma + (24 - (r'.length : Int))) % 24))).drew
      have sz : w2.heap.size + 3 ≤ w7.heap.size := by have := hbel7.size; simp at this; omega
      replace oz := hid oz; replace kz := hid kz; replace kbz := hid kbz; replace krz := hid krz; replace nz := hid nz; replace sz := hid sz
      clear hp7
      go_region
      all_goals
        go_wp2
        go_roundg r'.length
        case measure => omega
        case rel => exact ⟨r', n + 1, ts ++ [ty], rfl, hs2, hsz2, hgo2, by omega, by omega, by simp; omega, _, oz.out, kz.out, kbz.out, krz.out, nz.out, by simpa using sz.out⟩
end Go.Proofs.Ytjhmfljlclajnab

namespace Go.Proofs.Ytjhmfljlclajnab
open Go.RowKit Wb
set_option linter.unusedVariables false
set_option linter.unusedSimpArgs false
set_option maxRecDepth 100000
set_option maxHeartbeats 4000000
def ScanSaid : Prop := ∀ (d : Dsk) (v : Value) (w : World), RDisk w v d → Calls Try.prog 23 #[v] w fun e w' => ∃ v', e = .returned (.tuple #[v', .int .i64 (scanE d)]) ∧ OFnd w.heap.size 64 93 3 w' v' (scanF d) ∧ Below w.heap.size w w'
theorem law_tells (hScan : ScanSaid) (w : World) : Calls Try.prog 26 #[] w fun e w' => e = .returned (.bool true) ∧ Below w.heap.size w w' := by
  have hE := fun w => stamp_Encode tellM (.agg #[.int .i64 1, .int .i64 7, .int .i64 2, .slice none 0 0, .slice none 0 0]) w ⟨_, _, rfl, RL.nil _ _, RL.nil _ _, by decide, by decide⟩
  have hN := fun w => disk_New w
  have hS := fun v w (h : RDisk w v tellD) => hScan tellD v w h
  rw [tellM_ok] at hE
  rw [tell_E, tell_F] at hS
  have hgood : ∀ b w vs, Own strC b 9 1 w vs ((List.replicate 37 (fit ⟨#[]⟩)).set 0 (markS tellM)) → RDisk w (.agg #[vs, .slice none 0 0]) tellD := fun b w vs h => ⟨_, _, rfl, h.reads, RL.nil _ _, by simp [tellD], by simp [tellD]⟩
  have hl0 : (List.replicate 37 (fit ⟨#[]⟩)).length = 37 := by simp
  generalize List.replicate 37 (fit ⟨#[]⟩) = L at *
  generalize markS tellM = s at *
  generalize tellD = d at *
  replace hE := hid hE; replace hN := hid hN; replace hS := hid hS; replace hgood := hid hgood
  go_enter Try.func26, Try.ntmps26
  go_wp2_with (go_at_call 51; go_loud (refine (hE.out _).mono ?_; rintro e w1 ⟨rfl, hb1⟩))
  go_wp2_with (go_at_call 49; go_loud (refine (hN.out _).mono ?_; rintro e w2 ⟨vs1, rfl, o1, hb2⟩; have lw1 := hb1.size; obtain ⟨g, cap, rfl, hgb, hgl, hgc, hset⟩ := o1.poke strC_flat (k := 0) (by omega); rw [hl0]; obtain ⟨f0, g0⟩ := hgc 0 (by decide); have hg3 : g ≠ w2.heap.size := (by omega); have o3 : RDisk ((w2.setCell ⟨g, 0, none⟩ (.string s)).alloc (.cells #[.slice (some ⟨g, 0, none⟩) 37 cap, .slice none 0 0] 25)) (.agg #[.slice (some ⟨g, 0, none⟩) 37 cap, .slice none 0 0]) d := (by have h9 := hgood.out _ _ _ ((hset 0 s (.string s) (by decide) rfl).alloc (.cells #[.slice (some ⟨g, 0, none⟩) 37 cap, .slice none 0 0] 25)); simpa only [hl0, Nat.zero_mul, Nat.add_zero] using h9); have nx3 := bal ((bgo hb1 hb2).setCell (p := ⟨g, 0, none⟩) (by simp; omega) (.string s)) (.cells #[.slice (some ⟨g, 0, none⟩) 37 cap, .slice none 0 0] 25); simp only [Nat.zero_mul, Nat.add_zero, strC, List.getElem?_cons_zero] at f0 g0; replace o3 := hid o3; replace nx3 := hid nx3; clear hset hgc o1))
  go_wp2_with (go_at_call 23; go_loud ((with_reducible refine (hS.out _ _ o3.out).mono ?_); rintro e w4 ⟨v4, rfl, ⟨vt, rfl, ofn⟩, hb4⟩; obtain ⟨a4, c4, rfl⟩ := ofn.form))
  go_ret
  exact ⟨rfl, bal (bgo nx3.out hb4) _⟩
end Go.Proofs.Ytjhmfljlclajnab

namespace Go.Proofs.Ytjhmfljlclajnab
open Go.RowKit Wb
theorem decodeSaid : DecodeSaid := fun s w h => stamp_DecodeO s w h
theorem oneSaid : OneSaid := fun d W br vs vw A seq r0 w h1 h2 h3 h4 h5 h6 => scan_one decodeSaid d W br vs vw A seq r0 w h1 h2 h3 h4 h5 h6
theorem scanSaid : ScanSaid := fun d v w h => scan_Scan decodeSaid oneSaid d v w h
theorem law_tells' (w : World) : Calls Try.prog 26 #[] w fun e w' => e = .returned (.bool true) ∧ Below w.heap.size w w' := law_tells scanSaid w
end Go.Proofs.Ytjhmfljlclajnab

namespace Go.Proofs.Ytjhmfljlclajnab
open Go.RowKit Wb
theorem ref_DecodeO (s : ByteArray) (w : World) (hz : s.size ≤ 9223372036854775807) :
    Calls Try.prog 58 #[.string s] w fun e w' => ∃ v, e = .returned (.tuple #[v, .int .i64 (decE s)]) ∧ OMark w.heap.size w' v (decM s) ∧ Below w.heap.size w w' := by
  by_cases h : okS s
  · exact ref_Decode_ok s w h
  · exact ref_Decode_no s w h hz
end Go.Proofs.Ytjhmfljlclajnab

namespace Wb
open Go Go.RowKit
theorem drop_nil_len {α : Type} {l : List α} {i : Nat} (h : ¬ i < l.length) : l.drop i = [] := List.drop_eq_nil_iff.2 (by omega)
end Wb
namespace Go.Proofs.Ytjhmfljlclajnab
open Go.RowKit Wb
set_option linter.unusedVariables false
set_option linter.unusedSimpArgs false
set_option maxRecDepth 100000
set_option maxHeartbeats 40000000
def RDecodeSaid : Prop := ∀ (s : ByteArray) (w : World), s.size ≤ 9223372036854775807 → Calls Try.prog 58 #[.string s] w fun e w' => ∃ v, e = .returned (.tuple #[v, .int .i64 (decE s)]) ∧ OMark w.heap.size w' v (decM s) ∧ Below w.heap.size w w'
def TxnAtP (seq : Int) (r0 : List ByteArray) (w : World) (e : Ending) (w' : World) : Prop :=
  (∃ t r', parseT seq 25 r0 (txn0 seq) = some (t, r') ∧ ∃ v n, n = (r0.length : Int) - (r'.length : Int) ∧ e = .returned (.tuple #[v, .int .i64 n]) ∧ OTxn w.heap.size 93 3 w' v t ∧ Below w.heap.size w w') ∨
  (parseT seq 25 r0 (txn0 seq) = none ∧ e = .returned (.tuple #[.agg #[.int .i64 0, .slice none 0 0, .slice none 0 0, .slice none 0 0, .bool false, .int .i64 0, .bool false, .int .i64 0, .bool false, .int .i64 0], .int .i64 0]) ∧ Below w.heap.size w w')

theorem ref_txnAt (hDec : RDecodeSaid) (seq : Int) (r0 : List ByteArray) (v : Value) (w : World) (hl : RL strC w v r0) (hlen : r0.length ≤ 24) (hsz : ∀ s ∈ r0, s.size ≤ 9223372036854775807) :
    Calls Try.prog 59 #[v, .int .i64 seq] w fun e w' => TxnAtP seq r0 w e w' := by
  obtain ⟨a0, cap, rfl, _⟩ := hl.form
  have hU := fun s e w hs => ref_UnescapeBlock s e w hs
  have hp0 := hid (show parseT seq ((r0.drop 0).length + 1) (r0.drop 0) ⟨seq, [], [], [], hnd0, hnd0, hnd0⟩ = parseT seq 25 r0 (txn0 seq) from parseT_fuel (Nat.lt_succ_self _) (by rw [List.drop_zero]; omega))
  replace hU := hid hU; replace hl := hid hl; replace hsz := hid hsz; replace hDec := hid hDec
  have k40 : Blk ((w.alloc (.cells #[.int .i64 0, .slice none 0 0, .slice none 0 0, .slice none 0 0, .bool false, .int .i64 0, .bool false, .int .i64 0, .bool false, .int .i64 0] 64)).alloc (.cells #[.int .i64 seq, .slice none 0 0, .slice none 0 0, .slice none 0 0, .bool false, .int .i64 0, .bool false, .int .i64 0, .bool false, .int .i64 0] 64)) w.heap.size #[.int .i64 0, .slice none 0 0, .slice none 0 0, .slice none 0 0, .bool false, .int .i64 0, .bool false, .int .i64 0, .bool false, .int .i64 0] 64 := (Blk.new w _ _).alloc _
  have k60 : Blk ((w.alloc (.cells #[.int .i64 0, .slice none 0 0, .slice none 0 0, .slice none 0 0, .bool false, .int .i64 0, .bool false, .int .i64 0, .bool false, .int .i64 0] 64)).alloc (.cells #[.int .i64 seq, .slice none 0 0, .slice none 0 0, .slice none 0 0, .bool false, .int .i64 0, .bool false, .int .i64 0, .bool false, .int .i64 0] 64)) (w.heap.size + 1) #[.int .i64 seq, .slice none 0 0, .slice none 0 0, .slice none 0 0, .bool false, .int .i64 0, .bool false, .int .i64 0, .bool false, .int .i64 0] 64 := Blk.newAt (by simp)
  have nx0 := bal (bal (b0 w) (.cells #[.int .i64 0, .slice none 0 0, .slice none 0 0, .slice none 0 0, .bool false, .int .i64 0, .bool false, .int .i64 0, .bool false, .int .i64 0] 64)) (.cells #[.int .i64 seq, .slice none 0 0, .slice none 0 0, .slice none 0 0, .bool false, .int .i64 0, .bool false, .int .i64 0, .bool false, .int .i64 0] 64)
  have s0 : w.heap.size + 2 ≤ ((w.alloc (.cells #[.int .i64 0, .slice none 0 0, .slice none 0 0, .slice none 0 0, .bool false, .int .i64 0, .bool false, .int .i64 0, .bool false, .int .i64 0] 64)).alloc (.cells #[.int .i64 seq, .slice none 0 0, .slice none 0 0, .slice none 0 0, .bool false, .int .i64 0, .bool false, .int .i64 0, .bool false, .int .i64 0] 64)).heap.size := by simp
  go_enter Try.func59, Try.ntmps59
  go_wp2
  go_loopg [7] r0.length (fun g i wr => ∃ (j : Nat) (mt : List Cpy) (rev : List Int), g = r0.length - j ∧ j ≤ r0.length ∧ i = .int .i64 (j : Int) ∧ Hid (parseT seq ((r0.drop j).length + 1) (r0.drop j) ⟨seq, mt, [], rev, hnd0, hnd0, hnd0⟩ = parseT seq 25 r0 (txn0 seq)) ∧ ∃ vm vr, Own cpyC (w.heap.size + 2) 93 2 wr vm mt ∧ Own intC (w.heap.size + 2) 3 1 wr vr rev ∧ Blk wr w.heap.size #[.int .i64 0, .slice none 0 0, .slice none 0 0, .slice none 0 0, .bool false, .int .i64 0, .bool false, .int .i64 0, .bool false, .int .i64 0] 64 ∧ Blk wr (w.heap.size + 1) #[.int .i64 seq, vm, .slice none 0 0, vr, .bool false, .int .i64 0, .bool false, .int .i64 0, .bool false, .int .i64 0] 64 ∧ Below w.heap.size w wr ∧ w.heap.size + 2 ≤ wr.heap.size ∧ rev.length ≤ 20 * j ∧ mt.length ≤ j)
  case atStart => exact ⟨0, [], [], rfl, Nat.zero_le _, rfl, hp0, _, _, Own.nil _ _ _ _ _, Own.nil _ _ _ _ _, k40, k60, nx0, s0, by simp, by simp⟩
  case round =>
    clear k40 k60 nx0 hp0 s0
    obtain ⟨j, mt, rev, rfl, hj, rfl, hp, vm, vr, om, or_, k4, k6, nx, hg2, hb1, hb2⟩ := hrel
    obtain ⟨am, cm, rfl⟩ := om.form
    obtain ⟨ar, cr, rfl⟩ := or_.form
    have lt4 := k4.lt
    have lt6 := k6.lt
    by_cases hlt : j < r0.length
    rotate_left
    · have hno := hid (show parseT seq 25 r0 (txn0 seq) = none by
        rw [← hp.out, drop_nil_len hlt]; rfl)
      clear hp
      (try clear z0 z1 z2 z3 z4 z5 z6 z7 z8 z9); (try clear f0 f1 f2 f3 f4 f5 f6 f7 f8 f9); have z0 := k4.cell 0; have z1 := k4.cell 1; have z2 := k4.cell 2; have z3 := k4.cell 3; have z4 := k4.cell 4; have z5 := k4.cell 5; have z6 := k4.cell 6; have z7 := k4.cell 7; have z8 := k4.cell 8; have z9 := k4.cell 9; have f0 := k4.free 0; have f1 := k4.free 1; have f2 := k4.free 2; have f3 := k4.free 3; have f4 := k4.free 4; have f5 := k4.free 5; have f6 := k4.free 6; have f7 := k4.free 7; have f8 := k4.free 8; have f9 := k4.free 9; simp only [List.getElem?_toArray, List.getElem?_cons_zero, List.getElem?_cons_succ] at z0 z1 z2 z3 z4 z5 z6 z7 z8 z9
      go_wp2
      have nz := Wb.Below.setCells [(⟨w.heap.size, 0, none⟩, .int .i64 0), (⟨w.heap.size, 1, none⟩, .slice none 0 0), (⟨w.heap.size, 2, none⟩, .slice none 0 0), (⟨w.heap.size, 3, none⟩, .slice none 0 0), (⟨w.heap.size, 4, none⟩, .bool false), (⟨w.heap.size, 5, none⟩, .int .i64 0), (⟨w.heap.size, 6, none⟩, .bool false), (⟨w.heap.size, 7, none⟩, .int .i64 0), (⟨w.heap.size, 8, none⟩, .bool false), (⟨w.heap.size, 9, none⟩, .int .i64 0)] _ nx (by simp)
      exact bodyPost_ret (v := .tuple #[.agg #[.int .i64 0, .slice none 0 0, .slice none 0 0, .slice none 0 0, .bool false, .int .i64 0, .bool false, .int .i64 0, .bool false, .int .i64 0], .int .i64 0]) (by simp [results, Try.results59, go_sem, z0, z1, z2, z3, z4, z5, z6, z7, z8, z9]) rfl (.inr ⟨hno.out, rfl, nz⟩)
    obtain ⟨b1, o1, rfl, c0⟩ := RL.at1 (fun x => .string x) (fun _ => rfl) (hl.out.below nx) hlt
    have hdr : r0.drop j = r0[j] :: r0.drop (j + 1) := List.drop_eq_getElem_cons hlt
    have hp1 := hp.out
    rw [hdr] at hp1
    have hsz1 := hsz.out r0[j] (List.getElem_mem hlt)
    have hlr : (r0.drop (j + 1)).length = r0.length - (j + 1) := List.length_drop
    clear hp hdr
    generalize r0[j] = s at *
    have hDs := hDec.out s
    have hbd := fun h => dec_bds (s := s) h
    have hkd := fun h => dec_kinds (s := s) h
    have hps := fun h h2 h3 h4 => parse_ref (s := s) (seq := seq) (r := r0.drop (j + 1)) (t := ⟨seq, mt, [], rev, hnd0, hnd0, hnd0⟩) (n := (r0.drop (j + 1)).length + 1) h h2 h3 h4
    have hpe := fun h h2 h3 => parse_end (s := s) (seq := seq) (r := r0.drop (j + 1)) (t := ⟨seq, mt, [], rev, hnd0, hnd0, hnd0⟩) (n := (r0.drop (j + 1)).length + 1) h h2 h3
    have hpb := fun h => parse_bad (s := s) (seq := seq) (r := r0.drop (j + 1)) (t := ⟨seq, mt, [], rev, hnd0, hnd0, hnd0⟩) (n := (r0.drop (j + 1)).length + 1) h
    have hp1 : parseT seq ((r0.drop (j + 1)).length + 1 + 1) (s :: r0.drop (j + 1)) ⟨seq, mt, [], rev, hnd0, hnd0, hnd0⟩ = parseT seq 25 r0 (txn0 seq) := hp1
    generalize decM s = M at *
    generalize decE s = de at *
    obtain ⟨mk, ms, ma, tags, blocks⟩ := M
    dsimp only at *
    replace hDs := hid hDs
    by_cases hc : de = 0 ∧ ms = seq ∧ mk ≠ 1
    rotate_left
    · rw [hpb hc] at hp1
      have hno := hid hp1.symm
      clear hp1 hbd hkd hps hpe hpb hlr
      by_cases hde : de = 0
      · have hde2 : (de != 0) = false := by rw [hde]; rfl
        by_cases hq : ms = seq
        · have hms : (ms != seq) = false := by rw [hq]; simp
          have hm1 : (mk == 1) = true := beq_iff_eq.2 (by
            by_cases h1 : mk = 1
            · exact h1
            · exact absurd ⟨hde, hq, h1⟩ hc)
          clear hc hde hq
          go_wp2_with ((go_at_call 58; go_loud ((with_reducible refine (hDs.out _ hsz1).mono ?_); rintro e w2 ⟨v2, rfl, hmk, hb⟩; obtain ⟨vt, vb, rfl, ot, ob, t1, t2⟩ := hmk; dsimp only at ot ob t1 t2 ⊢; obtain ⟨at_, ct, rfl⟩ := ot.form; obtain ⟨ab, cb, rfl⟩ := ob.form; replace om := om.below hb; replace or_ := or_.below hb; replace k4 := k4.step hb; replace k6 := k6.step hb; replace nx := bgo nx hb; (try clear z0 z1 z2 z3 z4 z5 z6 z7 z8 z9); (try clear f0 f1 f2 f3 f4 f5 f6 f7 f8 f9); have z0 := k4.cell 0; have z1 := k4.cell 1; have z2 := k4.cell 2; have z3 := k4.cell 3; have z4 := k4.cell 4; have z5 := k4.cell 5; have z6 := k4.cell 6; have z7 := k4.cell 7; have z8 := k4.cell 8; have z9 := k4.cell 9; have f0 := k4.free 0; have f1 := k4.free 1; have f2 := k4.free 2; have f3 := k4.free 3; have f4 := k4.free 4; have f5 := k4.free 5; have f6 := k4.free 6; have f7 := k4.free 7; have f8 := k4.free 8; have f9 := k4.free 9; simp only [List.getElem?_toArray, List.getElem?_cons_zero, List.getElem?_cons_succ] at z0 z1 z2 z3 z4 z5 z6 z7 z8 z9; have nx2 := hid nx; have om2 := hid om; have or2 := hid or_; have lt42 := k4.lt; have km := Blk.new w2 #[.int .i64 mk, .int .i64 ms, .int .i64 ma, .slice at_ tags.length ct, .slice ab blocks.length cb] 38; replace ot := ot.alloc (.cells #[.int .i64 mk, .int .i64 ms, .int .i64 ma, .slice at_ tags.length ct, .slice ab blocks.length cb] 38); replace ob := ob.alloc (.cells #[.int .i64 mk, .int .i64 ms, .int .i64 ma, .slice at_ tags.length ct, .slice ab blocks.length cb] 38); have lw12 := hb.size; replace om := om.alloc (.cells #[.int .i64 mk, .int .i64 ms, .int .i64 ma, .slice at_ tags.length ct, .slice ab blocks.length cb] 38); replace or_ := or_.alloc (.cells #[.int .i64 mk, .int .i64 ms, .int .i64 ma, .slice at_ tags.length ct, .slice ab blocks.length cb] 38); replace k4 := k4.alloc (.cells #[.int .i64 mk, .int .i64 ms, .int .i64 ma, .slice at_ tags.length ct, .slice ab blocks.length cb] 38); replace k6 := k6.alloc (.cells #[.int .i64 mk, .int .i64 ms, .int .i64 ma, .slice at_ tags.length ct, .slice ab blocks.length cb] 38); replace nx := bal nx (.cells #[.int .i64 mk, .int .i64 ms, .int .i64 ma, .slice at_ tags.length ct, .slice ab blocks.length cb] 38); have lt4 := k4.lt; have lt6 := k6.lt; have y0 := k6.cell 0; have y1 := k6.cell 1; have y2 := k6.cell 2; have y3 := k6.cell 3; have y4 := k6.cell 4; have y5 := k6.cell 5; have y6 := k6.cell 6; have y7 := k6.cell 7; have y8 := k6.cell 8; have y9 := k6.cell 9; simp only [List.getElem?_toArray, List.getElem?_cons_zero, List.getElem?_cons_succ] at y0 y1 y2 y3 y4 y5 y6 y7 y8 y9)))
          have nz := bal (Wb.Below.setCells [(⟨w.heap.size, 0, none⟩, .int .i64 0), (⟨w.heap.size, 1, none⟩, .slice none 0 0), (⟨w.heap.size, 2, none⟩, .slice none 0 0), (⟨w.heap.size, 3, none⟩, .slice none 0 0), (⟨w.heap.size, 4, none⟩, .bool false), (⟨w.heap.size, 5, none⟩, .int .i64 0), (⟨w.heap.size, 6, none⟩, .bool false), (⟨w.heap.size, 7, none⟩, .int .i64 0), (⟨w.heap.size, 8, none⟩, .bool false), (⟨w.heap.size, 9, none⟩, .int .i64 0)] _ nx2.out (by simp)) (.cells #[.int .i64 mk, .int .i64 ms, .int .i64 ma, .slice at_ tags.length ct, .slice ab blocks.length cb] 38)
          exact bodyPost_ret (v := .tuple #[.agg #[.int .i64 0, .slice none 0 0, .slice none 0 0, .slice none 0 0, .bool false, .int .i64 0, .bool false, .int .i64 0, .bool false, .int .i64 0], .int .i64 0]) (by simp [results, Try.results59, go_sem, z0, z1, z2, z3, z4, z5, z6, z7, z8, z9, lt42]) rfl (.inr ⟨hno.out, rfl, nz⟩)
        · have hms : (ms != seq) = true := bne_iff_ne.2 hq
          clear hc hde hq
          go_wp2_with ((go_at_call 58; go_loud ((with_reducible refine (hDs.out _ hsz1).mono ?_); rintro e w2 ⟨v2, rfl, hmk, hb⟩; obtain ⟨vt, vb, rfl, ot, ob, t1, t2⟩ := hmk; dsimp only at ot ob t1 t2 ⊢; obtain ⟨at_, ct, rfl⟩ := ot.form; obtain ⟨ab, cb, rfl⟩ := ob.form; replace om := om.below hb; replace or_ := or_.below hb; replace k4 := k4.step hb; replace k6 := k6.step hb; replace nx := bgo nx hb; (try clear z0 z1 z2 z3 z4 z5 z6 z7 z8 z9); (try clear f0 f1 f2 f3 f4 f5 f6 f7 f8 f9); have z0 := k4.cell 0; have z1 := k4.cell 1; have z2 := k4.cell 2; have z3 := k4.cell 3; have z4 := k4.cell 4; have z5 := k4.cell 5; have z6 := k4.cell 6; have z7 := k4.cell 7; have z8 := k4.cell 8; have z9 := k4.cell 9; have f0 := k4.free 0; have f1 := k4.free 1; have f2 := k4.free 2; have f3 := k4.free 3; have f4 := k4.free 4; have f5 := k4.free 5; have f6 := k4.free 6; have f7 := k4.free 7; have f8 := k4.free 8; have f9 := k4.free 9; simp only [List.getElem?_toArray, List.getElem?_cons_zero, List.getElem?_cons_succ] at z0 z1 z2 z3 z4 z5 z6 z7 z8 z9; have nx2 := hid nx; have om2 := hid om; have or2 := hid or_; have lt42 := k4.lt; have km := Blk.new w2 #[.int .i64 mk, .int .i64 ms, .int .i64 ma, .slice at_ tags.length ct, .slice ab blocks.length cb] 38; replace ot := ot.alloc (.cells #[.int .i64 mk, .int .i64 ms, .int .i64 ma, .slice at_ tags.length ct, .slice ab blocks.length cb] 38); replace ob := ob.alloc (.cells #[.int .i64 mk, .int .i64 ms, .int .i64 ma, .slice at_ tags.length ct, .slice ab blocks.length cb] 38); have lw12 := hb.size; replace om := om.alloc (.cells #[.int .i64 mk, .int .i64 ms, .int .i64 ma, .slice at_ tags.length ct, .slice ab blocks.length cb] 38); replace or_ := or_.alloc (.cells #[.int .i64 mk, .int .i64 ms, .int .i64 ma, .slice at_ tags.length ct, .slice ab blocks.length cb] 38); replace k4 := k4.alloc (.cells #[.int .i64 mk, .int .i64 ms, .int .i64 ma, .slice at_ tags.length ct, .slice ab blocks.length cb] 38); replace k6 := k6.alloc (.cells #[.int .i64 mk, .int .i64 ms, .int .i64 ma, .slice at_ tags.length ct, .slice ab blocks.length cb] 38); replace nx := bal nx (.cells #[.int .i64 mk, .int .i64 ms, .int .i64 ma, .slice at_ tags.length ct, .slice ab blocks.length cb] 38); have lt4 := k4.lt; have lt6 := k6.lt; have y0 := k6.cell 0; have y1 := k6.cell 1; have y2 := k6.cell 2; have y3 := k6.cell 3; have y4 := k6.cell 4; have y5 := k6.cell 5; have y6 := k6.cell 6; have y7 := k6.cell 7; have y8 := k6.cell 8; have y9 := k6.cell 9; simp only [List.getElem?_toArray, List.getElem?_cons_zero, List.getElem?_cons_succ] at y0 y1 y2 y3 y4 y5 y6 y7 y8 y9)))
          have nz := bal (Wb.Below.setCells [(⟨w.heap.size, 0, none⟩, .int .i64 0), (⟨w.heap.size, 1, none⟩, .slice none 0 0), (⟨w.heap.size, 2, none⟩, .slice none 0 0), (⟨w.heap.size, 3, none⟩, .slice none 0 0), (⟨w.heap.size, 4, none⟩, .bool false), (⟨w.heap.size, 5, none⟩, .int .i64 0), (⟨w.heap.size, 6, none⟩, .bool false), (⟨w.heap.size, 7, none⟩, .int .i64 0), (⟨w.heap.size, 8, none⟩, .bool false), (⟨w.heap.size, 9, none⟩, .int .i64 0)] _ nx2.out (by simp)) (.cells #[.int .i64 mk, .int .i64 ms, .int .i64 ma, .slice at_ tags.length ct, .slice ab blocks.length cb] 38)
          exact bodyPost_ret (v := .tuple #[.agg #[.int .i64 0, .slice none 0 0, .slice none 0 0, .slice none 0 0, .bool false, .int .i64 0, .bool false, .int .i64 0, .bool false, .int .i64 0], .int .i64 0]) (by simp [results, Try.results59, go_sem, z0, z1, z2, z3, z4, z5, z6, z7, z8, z9, lt42]) rfl (.inr ⟨hno.out, rfl, nz⟩)
      · have hde2 : (de != 0) = true := bne_iff_ne.2 hde
        clear hc hde
        go_wp2_with ((go_at_call 58; go_loud ((with_reducible refine (hDs.out _ hsz1).mono ?_); rintro e w2 ⟨v2, rfl, hmk, hb⟩; obtain ⟨vt, vb, rfl, ot, ob, t1, t2⟩ := hmk; dsimp only at ot ob t1 t2 ⊢; obtain ⟨at_, ct, rfl⟩ := ot.form; obtain ⟨ab, cb, rfl⟩ := ob.form; replace om := om.below hb; replace or_ := or_.below hb; replace k4 := k4.step hb; replace k6 := k6.step hb; replace nx := bgo nx hb; (try clear z0 z1 z2 z3 z4 z5 z6 z7 z8 z9); (try clear f0 f1 f2 f3 f4 f5 f6 f7 f8 f9); have z0 := k4.cell 0; have z1 := k4.cell 1; have z2 := k4.cell 2; have z3 := k4.cell 3; have z4 := k4.cell 4; have z5 := k4.cell 5; have z6 := k4.cell 6; have z7 := k4.cell 7; have z8 := k4.cell 8; have z9 := k4.cell 9; have f0 := k4.free 0; have f1 := k4.free 1; have f2 := k4.free 2; have f3 := k4.free 3; have f4 := k4.free 4; have f5 := k4.free 5; have f6 := k4.free 6; have f7 := k4.free 7; have f8 := k4.free 8; have f9 := k4.free 9; simp only [List.getElem?_toArray, List.getElem?_cons_zero, List.getElem?_cons_succ] at z0 z1 z2 z3 z4 z5 z6 z7 z8 z9; have nx2 := hid nx; have om2 := hid om; have or2 := hid or_; have lt42 := k4.lt; have km := Blk.new w2 #[.int .i64 mk, .int .i64 ms, .int .i64 ma, .slice at_ tags.length ct, .slice ab blocks.length cb] 38; replace ot := ot.alloc (.cells #[.int .i64 mk, .int .i64 ms, .int .i64 ma, .slice at_ tags.length ct, .slice ab blocks.length cb] 38); replace ob := ob.alloc (.cells #[.int .i64 mk, .int .i64 ms, .int .i64 ma, .slice at_ tags.length ct, .slice ab blocks.length cb] 38); have lw12 := hb.size; replace om := om.alloc (.cells #[.int .i64 mk, .int .i64 ms, .int .i64 ma, .slice at_ tags.length ct, .slice ab blocks.length cb] 38); replace or_ := or_.alloc (.cells #[.int .i64 mk, .int .i64 ms, .int .i64 ma, .slice at_ tags.length ct, .slice ab blocks.length cb] 38); replace k4 := k4.alloc (.cells #[.int .i64 mk, .int .i64 ms, .int .i64 ma, .slice at_ tags.length ct, .slice ab blocks.length cb] 38); replace k6 := k6.alloc (.cells #[.int .i64 mk, .int .i64 ms, .int .i64 ma, .slice at_ tags.length ct, .slice ab blocks.length cb] 38); replace nx := bal nx (.cells #[.int .i64 mk, .int .i64 ms, .int .i64 ma, .slice at_ tags.length ct, .slice ab blocks.length cb] 38); have lt4 := k4.lt; have lt6 := k6.lt; have y0 := k6.cell 0; have y1 := k6.cell 1; have y2 := k6.cell 2; have y3 := k6.cell 3; have y4 := k6.cell 4; have y5 := k6.cell 5; have y6 := k6.cell 6; have y7 := k6.cell 7; have y8 := k6.cell 8; have y9 := k6.cell 9; simp only [List.getElem?_toArray, List.getElem?_cons_zero, List.getElem?_cons_succ] at y0 y1 y2 y3 y4 y5 y6 y7 y8 y9)))
        have nz := bal (Wb.Below.setCells [(⟨w.heap.size, 0, none⟩, .int .i64 0), (⟨w.heap.size, 1, none⟩, .slice none 0 0), (⟨w.heap.size, 2, none⟩, .slice none 0 0), (⟨w.heap.size, 3, none⟩, .slice none 0 0), (⟨w.heap.size, 4, none⟩, .bool false), (⟨w.heap.size, 5, none⟩, .int .i64 0), (⟨w.heap.size, 6, none⟩, .bool false), (⟨w.heap.size, 7, none⟩, .int .i64 0), (⟨w.heap.size, 8, none⟩, .bool false), (⟨w.heap.size, 9, none⟩, .int .i64 0)] _ nx2.out (by simp)) (.cells #[.int .i64 mk, .int .i64 ms, .int .i64 ma, .slice at_ tags.length ct, .slice ab blocks.length cb] 38)
        exact bodyPost_ret (v := .tuple #[.agg #[.int .i64 0, .slice none 0 0, .slice none 0 0, .slice none 0 0, .bool false, .int .i64 0, .bool false, .int .i64 0, .bool false, .int .i64 0], .int .i64 0]) (by simp [results, Try.results59, go_sem, z0, z1, z2, z3, z4, z5, z6, z7, z8, z9, lt42]) rfl (.inr ⟨hno.out, rfl, nz⟩)
    obtain ⟨hde, rfl, hm1⟩ := hc
    obtain ⟨q1, q2, _⟩ := hbd hde
    have hde2 : (de != 0) = false := by rw [hde]; rfl
    have hms : (ms != ms) = false := by simp
    have hm1' : (mk == 1) = false := beq_eq_false_iff_ne.2 hm1
    have hw1 : IntKind.i64.wrap ((j : Int) + 1) = (j : Int) + 1 := IntWalk.i64_in _ (by omega)
    by_cases h4 : mk = 4
    · rw [hpe hde rfl h4] at hp1
      have e4 : (mk == 4) = true := beq_iff_eq.2 h4
      replace hp1 := hid hp1
      clear h4 hbd hkd hps hpe hpb hde hm1
      go_wp2_with ((go_at_call 58; go_loud ((with_reducible refine (hDs.out _ hsz1).mono ?_); rintro e w2 ⟨v2, rfl, hmk, hb⟩; obtain ⟨vt, vb, rfl, ot, ob, t1, t2⟩ := hmk; dsimp only at ot ob t1 t2 ⊢; obtain ⟨at_, ct, rfl⟩ := ot.form; obtain ⟨ab, cb, rfl⟩ := ob.form; replace om := om.below hb; replace or_ := or_.below hb; replace k4 := k4.step hb; replace k6 := k6.step hb; replace nx := bgo nx hb; (try clear z0 z1 z2 z3 z4 z5 z6 z7 z8 z9); (try clear f0 f1 f2 f3 f4 f5 f6 f7 f8 f9); have z0 := k4.cell 0; have z1 := k4.cell 1; have z2 := k4.cell 2; have z3 := k4.cell 3; have z4 := k4.cell 4; have z5 := k4.cell 5; have z6 := k4.cell 6; have z7 := k4.cell 7; have z8 := k4.cell 8; have z9 := k4.cell 9; have f0 := k4.free 0; have f1 := k4.free 1; have f2 := k4.free 2; have f3 := k4.free 3; have f4 := k4.free 4; have f5 := k4.free 5; have f6 := k4.free 6; have f7 := k4.free 7; have f8 := k4.free 8; have f9 := k4.free 9; simp only [List.getElem?_toArray, List.getElem?_cons_zero, List.getElem?_cons_succ] at z0 z1 z2 z3 z4 z5 z6 z7 z8 z9; have nx2 := hid nx; have om2 := hid om; have or2 := hid or_; have lt42 := k4.lt; have km := Blk.new w2 #[.int .i64 mk, .int .i64 ms, .int .i64 ma, .slice at_ tags.length ct, .slice ab blocks.length cb] 38; replace ot := ot.alloc (.cells #[.int .i64 mk, .int .i64 ms, .int .i64 ma, .slice at_ tags.length ct, .slice ab blocks.length cb] 38); replace ob := ob.alloc (.cells #[.int .i64 mk, .int .i64 ms, .int .i64 ma, .slice at_ tags.length ct, .slice ab blocks.length cb] 38); have lw12 := hb.size; replace om := om.alloc (.cells #[.int .i64 mk, .int .i64 ms, .int .i64 ma, .slice at_ tags.length ct, .slice ab blocks.length cb] 38); replace or_ := or_.alloc (.cells #[.int .i64 mk, .int .i64 ms, .int .i64 ma, .slice at_ tags.length ct, .slice ab blocks.length cb] 38); replace k4 := k4.alloc (.cells #[.int .i64 mk, .int .i64 ms, .int .i64 ma, .slice at_ tags.length ct, .slice ab blocks.length cb] 38); replace k6 := k6.alloc (.cells #[.int .i64 mk, .int .i64 ms, .int .i64 ma, .slice at_ tags.length ct, .slice ab blocks.length cb] 38); replace nx := bal nx (.cells #[.int .i64 mk, .int .i64 ms, .int .i64 ma, .slice at_ tags.length ct, .slice ab blocks.length cb] 38); have lt4 := k4.lt; have lt6 := k6.lt; have y0 := k6.cell 0; have y1 := k6.cell 1; have y2 := k6.cell 2; have y3 := k6.cell 3; have y4 := k6.cell 4; have y5 := k6.cell 5; have y6 := k6.cell 6; have y7 := k6.cell 7; have y8 := k6.cell 8; have y9 := k6.cell 9; simp only [List.getElem?_toArray, List.getElem?_cons_zero, List.getElem?_cons_succ] at y0 y1 y2 y3 y4 y5 y6 y7 y8 y9)))
      have nz := bal (Wb.Below.setCells [(⟨w.heap.size, 0, none⟩, .int .i64 ms), (⟨w.heap.size, 1, none⟩, .slice am mt.length cm), (⟨w.heap.size, 2, none⟩, .slice none 0 0), (⟨w.heap.size, 3, none⟩, .slice ar rev.length cr), (⟨w.heap.size, 4, none⟩, .bool false), (⟨w.heap.size, 5, none⟩, .int .i64 0), (⟨w.heap.size, 6, none⟩, .bool false), (⟨w.heap.size, 7, none⟩, .int .i64 0), (⟨w.heap.size, 8, none⟩, .bool false), (⟨w.heap.size, 9, none⟩, .int .i64 0)] _ nx2.out (by simp)) (.cells #[.int .i64 mk, .int .i64 ms, .int .i64 ma, .slice at_ tags.length ct, .slice ab blocks.length cb] 38)
      have omz := (om2.out.setCells [(⟨w.heap.size, 0, none⟩, .int .i64 ms), (⟨w.heap.size, 1, none⟩, .slice am mt.length cm), (⟨w.heap.size, 2, none⟩, .slice none 0 0), (⟨w.heap.size, 3, none⟩, .slice ar rev.length cr), (⟨w.heap.size, 4, none⟩, .bool false), (⟨w.heap.size, 5, none⟩, .int .i64 0), (⟨w.heap.size, 6, none⟩, .bool false), (⟨w.heap.size, 7, none⟩, .int .i64 0), (⟨w.heap.size, 8, none⟩, .bool false), (⟨w.heap.size, 9, none⟩, .int .i64 0)] _ (by simp)).alloc (.cells #[.int .i64 mk, .int .i64 ms, .int .i64 ma, .slice at_ tags.length ct, .slice ab blocks.length cb] 38)
      have orz := (or2.out.setCells [(⟨w.heap.size, 0, none⟩, .int .i64 ms), (⟨w.heap.size, 1, none⟩, .slice am mt.length cm), (⟨w.heap.size, 2, none⟩, .slice none 0 0), (⟨w.heap.size, 3, none⟩, .slice ar rev.length cr), (⟨w.heap.size, 4, none⟩, .bool false), (⟨w.heap.size, 5, none⟩, .int .i64 0), (⟨w.heap.size, 6, none⟩, .bool false), (⟨w.heap.size, 7, none⟩, .int .i64 0), (⟨w.heap.size, 8, none⟩, .bool false), (⟨w.heap.size, 9, none⟩, .int .i64 0)] _ (by simp)).alloc (.cells #[.int .i64 mk, .int .i64 ms, .int .i64 ma, .slice at_ tags.length ct, .slice ab blocks.length cb] 38)
      have lm1 : mt.length ≤ 5864062014805 := by omega
      have lr1 : rev.length ≤ 17592186044160 := by omega
      exact bodyPost_ret (v := .tuple #[.agg #[.int .i64 ms, .slice am mt.length cm, .slice none 0 0, .slice ar rev.length cr, .bool false, .int .i64 0, .bool false, .int .i64 0, .bool false, .int .i64 0], .int .i64 ((j : Int) + 1)]) (by simp [results, Try.results59, go_sem, z0, z1, z2, z3, z4, z5, z6, z7, z8, z9, lt42]) rfl (.inl ⟨_, _, hp1.out.symm, _, _, by omega, rfl, ⟨_, _, _, rfl, omz.mono (by omega), Own.nil _ _ _ _ _, orz.mono (by omega), lm1, by simp, lr1⟩, nz⟩)
    have e4 : (mk == 4) = false := beq_eq_false_iff_ne.2 h4
    rw [hps hde rfl hm1 h4] at hp1
    replace hp1 := hid hp1
    clear h4 hbd hkd hps hpe hpb hde hm1
    obtain ⟨rev2, hrv⟩ : ∃ r2, r2 = rev ++ blocks := ⟨_, rfl⟩
    have hb3 : rev2.length ≤ 20 * (j + 1) := by rw [hrv, List.length_append]; omega
    replace hrv := hid hrv
    go_wp2_with (first
      | ((go_at_call 58; go_loud ((with_reducible refine (hDs.out _ hsz1).mono ?_); rintro e w2 ⟨v2, rfl, hmk, hb⟩; obtain ⟨vt, vb, rfl, ot, ob, t1, t2⟩ := hmk; dsimp only at ot ob t1 t2 ⊢; obtain ⟨at_, ct, rfl⟩ := ot.form; obtain ⟨ab, cb, rfl⟩ := ob.form; replace om := om.below hb; replace or_ := or_.below hb; replace k4 := k4.step hb; replace k6 := k6.step hb; replace nx := bgo nx hb; (try clear z0 z1 z2 z3 z4 z5 z6 z7 z8 z9); (try clear f0 f1 f2 f3 f4 f5 f6 f7 f8 f9); have z0 := k4.cell 0; have z1 := k4.cell 1; have z2 := k4.cell 2; have z3 := k4.cell 3; have z4 := k4.cell 4; have z5 := k4.cell 5; have z6 := k4.cell 6; have z7 := k4.cell 7; have z8 := k4.cell 8; have z9 := k4.cell 9; have f0 := k4.free 0; have f1 := k4.free 1; have f2 := k4.free 2; have f3 := k4.free 3; have f4 := k4.free 4; have f5 := k4.free 5; have f6 := k4.free 6; have f7 := k4.free 7; have f8 := k4.free 8; have f9 := k4.free 9; simp only [List.getElem?_toArray, List.getElem?_cons_zero, List.getElem?_cons_succ] at z0 z1 z2 z3 z4 z5 z6 z7 z8 z9; have nx2 := hid nx; have om2 := hid om; have or2 := hid or_; have lt42 := k4.lt; have km := Blk.new w2 #[.int .i64 mk, .int .i64 ms, .int .i64 ma, .slice at_ tags.length ct, .slice ab blocks.length cb] 38; replace ot := ot.alloc (.cells #[.int .i64 mk, .int .i64 ms, .int .i64 ma, .slice at_ tags.length ct, .slice ab blocks.length cb] 38); replace ob := ob.alloc (.cells #[.int .i64 mk, .int .i64 ms, .int .i64 ma, .slice at_ tags.length ct, .slice ab blocks.length cb] 38); have lw12 := hb.size; replace om := om.alloc (.cells #[.int .i64 mk, .int .i64 ms, .int .i64 ma, .slice at_ tags.length ct, .slice ab blocks.length cb] 38); replace or_ := or_.alloc (.cells #[.int .i64 mk, .int .i64 ms, .int .i64 ma, .slice at_ tags.length ct, .slice ab blocks.length cb] 38); replace k4 := k4.alloc (.cells #[.int .i64 mk, .int .i64 ms, .int .i64 ma, .slice at_ tags.length ct, .slice ab blocks.length cb] 38); replace k6 := k6.alloc (.cells #[.int .i64 mk, .int .i64 ms, .int .i64 ma, .slice at_ tags.length ct, .slice ab blocks.length cb] 38); replace nx := bal nx (.cells #[.int .i64 mk, .int .i64 ms, .int .i64 ma, .slice at_ tags.length ct, .slice ab blocks.length cb] 38); have lt4 := k4.lt; have lt6 := k6.lt; have y0 := k6.cell 0; have y1 := k6.cell 1; have y2 := k6.cell 2; have y3 := k6.cell 3; have y4 := k6.cell 4; have y5 := k6.cell 5; have y6 := k6.cell 6; have y7 := k6.cell 7; have y8 := k6.cell 8; have y9 := k6.cell 9; simp only [List.getElem?_toArray, List.getElem?_cons_zero, List.getElem?_cons_succ] at y0 y1 y2 y3 y4 y5 y6 y7 y8 y9)); have m3 := km.cell 3; have m4 := km.cell 4; simp only [List.getElem?_toArray, List.getElem?_cons_zero, List.getElem?_cons_succ] at m3 m4)
      | (at_builtin; go_loud (refine wpList_app rfl _ _ _ rfl (w.heap.size + 2) _ 1 8 intC_flat elemIntT or_ rfl blocks ob.reads rfl (by omega) (by unfold maxLen; omega) (by simp; omega) ?_; intro v7 w7 hown7 hg7; rw [← hrv.out] at hown7; obtain ⟨ar7, cr7, rfl⟩ := hown7.form; have k67 := k6.grown hg7 (or_.blk_ne k6 (by decide)); have km7 := km.grown hg7 (or_.blk_ne km (by decide)); have yf3 := k67.free 3; have yc3 := k67.cell 3; simp only [List.getElem?_toArray, List.getElem?_cons_zero, List.getElem?_cons_succ] at yc3; have m37 := km7.cell 3; simp only [List.getElem?_toArray, List.getElem?_cons_zero, List.getElem?_cons_succ] at m37)))
    have om7 := (om.grownTy or_ (by decide) hg7).setCell (p := ⟨w.heap.size + 1, 3, none⟩) (by simp) (.slice ar7 rev2.length cr7)
    have or7 := hown7.setCell (p := ⟨w.heap.size + 1, 3, none⟩) (by simp) (.slice ar7 rev2.length cr7)
    have ot7 := ((ot.mono (base' := w.heap.size + 2) (by have := nx.size; omega)).grownTy or_ (by decide) hg7).setCell (p := ⟨w.heap.size + 1, 3, none⟩) (by simp) (.slice ar7 rev2.length cr7)
    have k47 := (k4.grown hg7 (or_.blk_ne k4 (by decide))).set_other ⟨w.heap.size + 1, 3, none⟩ (.slice ar7 rev2.length cr7) (by simp)
    have k68 := k67.set 3 (.slice ar7 rev2.length cr7)
    have nx7 := (nx.grown hg7 (by simp; omega) (fun k hk => by have := (World.ownsRow.lt or_ k hk).1; omega)).setCell (p := ⟨w.heap.size + 1, 3, none⟩) (by simp) (.slice ar7 rev2.length cr7)
    have s7 : w.heap.size + 2 ≤ (w7.setCell ⟨w.heap.size + 1, 3, none⟩ (.slice ar7 rev2.length cr7)).heap.size := by have := hg7.size; simp at this ⊢; omega
    have ht0 := hid (show takeTags (tags.drop 0) (r0.drop (j + 1)) mt = takeTags tags (r0.drop (j + 1)) mt by rw [List.drop_zero])
    replace om7 := hid om7; replace or7 := hid or7; replace ot7 := hid ot7; replace k47 := hid k47; replace k68 := hid k68; replace nx7 := hid nx7; replace s7 := hid s7
    go_wp2
    replace hp1 := hid (by have := hp1.out; rw [← hrv.out] at this; exact this)
    clear hrv om or_ ot ob k4 k6 km nx m3 m4 k67 km7 yf3 m37 hown7 hg7 hb1
    go_loopw [7, 57] (fun i7 i wx => ∃ (k n : Nat) (mtk : List Cpy), k ≤ tags.length ∧ i = .int .i64 (k : Int) ∧ i7 = .int .i64 (n : Int) ∧ n + 1 ≤ r0.length ∧ j ≤ n ∧ Hid (takeTags (tags.drop k) (r0.drop (n + 1)) mtk = takeTags tags (r0.drop (j + 1)) mt) ∧ ∃ vmk, Own cpyC (w.heap.size + 2) 93 2 wx vmk mtk ∧ Own intC (w.heap.size + 2) 3 1 wx (.slice ar7 rev2.length cr7) rev2 ∧ Own tagC (w.heap.size + 2) 82 2 wx (.slice at_ tags.length ct) tags ∧ Blk wx w.heap.size #[.int .i64 0, .slice none 0 0, .slice none 0 0, .slice none 0 0, .bool false, .int .i64 0, .bool false, .int .i64 0, .bool false, .int .i64 0] 64 ∧ Blk wx (w.heap.size + 1) #[.int .i64 ms, vmk, .slice none 0 0, .slice ar7 rev2.length cr7, .bool false, .int .i64 0, .bool false, .int .i64 0, .bool false, .int .i64 0] 64 ∧ Below w.heap.size w wx ∧ w.heap.size + 2 ≤ wx.heap.size ∧ mtk.length ≤ n) (fun _ i _ => tags.length - (intOf i).toNat)
    case atStart => exact ⟨0, j, mt, Nat.zero_le _, rfl, rfl, by omega, Nat.le_refl _, ht0, _, om7.out, or7.out, ot7.out, k47.out, k68.out, nx7.out, s7.out, hb2⟩
    case round =>
      clear om7 or7 ot7 k47 k68 nx7 s7 ht0
      obtain ⟨k, n, mtk, hk, rfl, rfl, hn1, hjn, htk, vmk, om, or_, ot, k4, k6, nx, hg3, hmt⟩ := hrel
      obtain ⟨am2, cm2, rfl⟩ := om.form
      have lt4 := k4.lt
      have lt6 := k6.lt
      have hw2 : IntKind.i64.wrap ((n : Int) + 1) = (n : Int) + 1 := IntWalk.i64_in _ (by omega)
      by_cases hlt2 : k < tags.length
      · obtain ⟨bt, ot_, rfl, t0, t1⟩ := RL.at2 (fun x => .int .i64 x.block) (fun x => .bool x.esc) (fun _ => rfl) ot.reads hlt2
        have hdk : tags.drop k = tags[k] :: tags.drop (k + 1) := List.drop_eq_getElem_cons hlt2
        replace htk := htk.out
        rw [hdk] at htk
        clear hdk
        generalize tags[k] = x at *
        obtain ⟨xb, xe⟩ := x
        dsimp only at t0 t1
        have kt := Blk.new wr #[.int .i64 xb, .bool xe] 82
        have x0 := kt.cell 0; have x1 := kt.cell 1
        simp only [List.getElem?_toArray, List.getElem?_cons_zero, List.getElem?_cons_succ] at x0 x1
        by_cases hn2 : n + 1 < r0.length
        · have hd2 : r0.drop (n + 1) = r0[n + 1] :: r0.drop (n + 1 + 1) := List.drop_eq_getElem_cons hn2
          rw [hd2] at htk
          obtain ⟨b2, o2, hab, c2⟩ := RL.at1 (fun x => .string x) (fun _ => rfl) (hl.out.below (bal nx (.cells #[.int .i64 xb, .bool xe] 82))) hn2
          simp only [Option.some.injEq, Addr.mk.injEq, and_true] at hab
          obtain ⟨rfl, rfl⟩ := hab
          have hsz2 := hsz.out r0[n + 1] (List.getElem_mem hn2)
          clear hd2
          have e2 : ((n : Int) + 1 == (r0.length : Int)) = false := beq_eq_false_iff_ne.2 (by omega)
          have e3 : (n : Int) + 1 < (r0.length : Int) := by omega
          have e5 : ((n : Int) + 1).toNat = n + 1 := by omega
          have e6 : (0 : Int) ≤ (n : Int) + 1 := by omega
          generalize r0[n + 1] = s2 at *
          have hU2 := hid (hU.out s2 xe)
          have htk2 := hid (show takeTags (tags.drop (k + 1)) (r0.drop (n + 1 + 1)) (mtk ++ [⟨xb, unescS s2 xe⟩]) = takeTags tags (r0.drop (j + 1)) mt from htk)
          clear htk
          generalize unescS s2 xe = u2 at *
          replace om := om.alloc (.cells #[.int .i64 xb, .bool xe] 82)
          replace or_ := or_.alloc (.cells #[.int .i64 xb, .bool xe] 82)
          replace ot := ot.alloc (.cells #[.int .i64 xb, .bool xe] 82)
          replace k4 := k4.alloc (.cells #[.int .i64 xb, .bool xe] 82)
          replace k6 := k6.alloc (.cells #[.int .i64 xb, .bool xe] 82)
          replace nx := bal nx (.cells #[.int .i64 xb, .bool xe] 82)
          have y1 := k6.cell 1
          simp only [List.getElem?_toArray, List.getElem?_cons_zero, List.getElem?_cons_succ] at y1
          go_wp2
          go_region_law (first
            | (refine step_call 84 _ _ (by rfl) (by rfl) #[.string s2, .bool xe] (by rfl) ⟨_, _, Try.func84, by kernel_rfl, rfl⟩ (hU2.out _ hsz2) ?_; rintro e w3 ⟨rfl, hb3'⟩; refine ⟨_, rfl, ?_⟩; replace om := om.drew.below hb3'; replace or_ := or_.drew.below hb3'; replace ot := ot.drew.below hb3'; replace k4 := k4.drew.step hb3'; replace k6 := k6.drew.step hb3'; replace kt := kt.drew.step hb3'; replace nx := bgo nx.drew hb3'; have hw3 := hb3'.size; simp only [World.size_drew, World.size_alloc] at hw3; have lt63 := k6.lt; have ltt3 := kt.lt; have e1 := k6.cell 1; have p0 := kt.cell 0; have p1 := kt.cell 1; simp only [List.getElem?_toArray, List.getElem?_cons_zero, List.getElem?_cons_succ] at e1 p0 p1)
            | (have t1 := om.alloc (.cells #[.int .i64 xb, .string u2] 93); have t2 : w.heap.size + 2 ≤ (w3.alloc (.cells #[.int .i64 xb, .string u2] 93)).heap.size := (by simp; omega); have t3 : (mtk.length + 1) * 24 ≤ 140737488355328 := (by omega); have t4 : Blk (w3.alloc (.cells #[.int .i64 xb, .string u2] 93)) w3.heap.size #[.int .i64 xb, .string u2] 93 := Blk.newAt (w := w3) rfl; refine step_push (by rfl) _ _ 57 (by rfl) (w.heap.size + 2) _ 2 24 cpyC_flat elemCpy t1 (by rfl) ⟨xb, u2⟩ w3.heap.size t4 (by rfl) (by rfl) mtk.length rfl t3 (by omega) t2 ?_; clear t2 t3 t4; intro a7 c7 w7 hown7 hb7 hg7; go_loud (have q6 := k6.alloc (.cells #[.int .i64 xb, .string u2] 93)); go_loud (have k67 := q6.grown hg7 (t1.blk_ne q6 (by decide))); have yf1 := k67.free 1; have yc1 : w7.cell? ⟨w.heap.size + 1, 1, none⟩ = some (.slice am2 mtk.length cm2) := k67.cell 1))
          all_goals
            have om7 := hown7.setCell (p := ⟨w.heap.size + 1, 1, none⟩) (by simp) (.slice a7 (mtk.length + 1) c7)
            have or7 := ((or_.alloc _).grownTy t1 (by decide) hg7).setCell (p := ⟨w.heap.size + 1, 1, none⟩) (by simp) (.slice a7 (mtk.length + 1) c7)
            have ot7 := ((ot.alloc _).grownTy t1 (by decide) hg7).setCell (p := ⟨w.heap.size + 1, 1, none⟩) (by simp) (.slice a7 (mtk.length + 1) c7)
            have k47 := ((k4.alloc _).grown hg7 (t1.blk_ne (k4.alloc _) (by decide))).set_other ⟨w.heap.size + 1, 1, none⟩ (.slice a7 (mtk.length + 1) c7) (by simp)
            have k68 := k67.set 1 (.slice a7 (mtk.length + 1) c7)
            have nx7 := ((bal nx _).grown hg7 (by simp; omega) (fun k hk => by have := (World.ownsRow.lt t1 k hk).1; omega)).setCell (p := ⟨w.heap.size + 1, 1, none⟩) (by simp) (.slice a7 (mtk.length + 1) c7)
            have s7 : w.heap.size + 2 ≤ (w7.setCell ⟨w.heap.size + 1, 1, none⟩ (.slice a7 (mtk.length + 1) c7)).heap.size := by have := hg7.size; simp at this ⊢; omega
            replace om7 := hid om7; replace or7 := hid or7; replace ot7 := hid ot7; replace k47 := hid k47; replace k68 := hid k68; replace nx7 := hid nx7; replace s7 := hid s7
            go_wp2
            go_roundw
            case rel =>
              first
                | (refine ⟨k + 1, n + 1, mtk ++ [⟨xb, u2⟩], by omega, ?_, ?_, by omega, by omega, htk2, _, om7.out, or7.out, ot7.out, k47.out, k68.out, nx7.out, s7.out, by simp; omega⟩ <;> go_num; done)
                | ((repeat apply Exists.intro); refine ⟨⟨k + 1, n + 1, mtk ++ [⟨xb, u2⟩], by omega, ?_, ?_, by omega, by omega, htk2, _, om7.out, or7.out, ot7.out, k47.out, k68.out, nx7.out, s7.out, by simp; omega⟩, rfl⟩ <;> go_num; done)
            case measure => simp [intOf]; omega
        · have e2 : ((n : Int) + 1 == (r0.length : Int)) = true := beq_iff_eq.2 (by omega)
          have hno := hid (show parseT ms 25 r0 (txn0 ms) = none by
            have := hp1.out
            rw [drop_nil_len hn2] at htk
            rw [← htk] at this
            exact this.symm)
          clear htk hp1
          have nx2 := hid nx; have lt42 := k4.lt
          (try clear z0 z1 z2 z3 z4 z5 z6 z7 z8 z9); (try clear f0 f1 f2 f3 f4 f5 f6 f7 f8 f9); have z0 := k4.cell 0; have z1 := k4.cell 1; have z2 := k4.cell 2; have z3 := k4.cell 3; have z4 := k4.cell 4; have z5 := k4.cell 5; have z6 := k4.cell 6; have z7 := k4.cell 7; have z8 := k4.cell 8; have z9 := k4.cell 9; have f0 := k4.free 0; have f1 := k4.free 1; have f2 := k4.free 2; have f3 := k4.free 3; have f4 := k4.free 4; have f5 := k4.free 5; have f6 := k4.free 6; have f7 := k4.free 7; have f8 := k4.free 8; have f9 := k4.free 9; simp only [List.getElem?_toArray, List.getElem?_cons_zero, List.getElem?_cons_succ] at z0 z1 z2 z3 z4 z5 z6 z7 z8 z9
          go_wp2
          have nz := bal (Wb.Below.setCells [(⟨w.heap.size, 0, none⟩, .int .i64 0), (⟨w.heap.size, 1, none⟩, .slice none 0 0), (⟨w.heap.size, 2, none⟩, .slice none 0 0), (⟨w.heap.size, 3, none⟩, .slice none 0 0), (⟨w.heap.size, 4, none⟩, .bool false), (⟨w.heap.size, 5, none⟩, .int .i64 0), (⟨w.heap.size, 6, none⟩, .bool false), (⟨w.heap.size, 7, none⟩, .int .i64 0), (⟨w.heap.size, 8, none⟩, .bool false), (⟨w.heap.size, 9, none⟩, .int .i64 0)] _ nx2.out (by simp)) (.cells #[.int .i64 xb, .bool xe] 82)
          exact bodyPost_ret (v := .tuple #[.agg #[.int .i64 0, .slice none 0 0, .slice none 0 0, .slice none 0 0, .bool false, .int .i64 0, .bool false, .int .i64 0, .bool false, .int .i64 0], .int .i64 0]) (by simp [results, Try.results59, go_sem, z0, z1, z2, z3, z4, z5, z6, z7, z8, z9, lt42]) rfl (.inr ⟨hno.out, rfl, nz⟩)
      · obtain rfl : k = tags.length := by omega
        have hp2 := hid (show parseT ms ((r0.drop (n + 1)).length + 1) (r0.drop (n + 1)) ⟨ms, mtk, [], rev2, hnd0, hnd0, hnd0⟩ = parseT ms 25 r0 (txn0 ms) by
          have h1 := htk.out
          have h2 := hp1.out
          rw [List.drop_length] at h1
          rw [← h1] at h2
          refine Eq.trans ?_ h2
          have h3 : (r0.drop (n + 1)).length ≤ (r0.drop (j + 1)).length := by simp only [List.length_drop]; omega
          exact parseT_fuel (by omega) (by omega))
        clear htk hp1
        go_wp2
        go_roundg (r0.length - (n + 1))
        case measure => omega
        case rel =>
          first
            | (refine ⟨n + 1, mtk, rev2, rfl, by omega, ?_, hp2, _, _, om, or_, k4, k6, nx, hg3, by omega, by omega⟩ <;> go_num; done)
            | ((repeat apply Exists.intro); refine ⟨⟨n + 1, mtk, rev2, rfl, by omega, ?_, hp2, _, _, om, or_, k4, k6, nx, hg3, by omega, by omega⟩, rfl⟩ <;> go_num; done)
end Go.Proofs.Ytjhmfljlclajnab
