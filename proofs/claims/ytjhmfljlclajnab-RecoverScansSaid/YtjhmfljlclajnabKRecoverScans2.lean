/- The walk of the reference's ScanLog. Three handles are what they are. The walks of SameCopies and SameTxn, at two that are alike. The walk of SameFound, at two that are alike. The walk of the law RecoverScans. -/
import Derived.Test.YtjhmfljlclajnabKRecoverScans1
import Derived.Test.YtjhmfljlclajnabKRecoverScans0
import Derived.Test.YtjhmfljlclajnabBase
import Derived.Test.YtjhmfljlclajnabChecked
import Derived.ChangeKeysEq
import Derived.Test.YtjhmfljlclajnabRegCall
import Derived.Deep.QuietTactic
import Derived.BigQuiet
namespace Wb
open Go Go.RowKit
theorem OTxn.setCells {base : Nat} {tc ti : TypeId} {v : Value} {t : Txn} : ∀ (ps : List (Addr × Value)) (w : World), OTxn base tc ti w v t → (∀ p ∈ ps, p.1.block < base) → OTxn base tc ti (ps.foldl (fun w p => w.setCell p.1 p.2) w) v t
  | [], _, h, _ => h
  | p :: ps, _, h, hp => OTxn.setCells ps _ (h.setCell (hp p (by simp)) p.2) (fun q hq => hp q (by simp [hq]))
end Wb
namespace Go.Proofs.Ytjhmfljlclajnab
open Go.RowKit Wb
set_option linter.unusedVariables false
set_option linter.unusedSimpArgs false
set_option maxRecDepth 100000
set_option maxHeartbeats 40000000
def TxnAtSaid : Prop := ∀ (seq : Int) (r0 : List ByteArray) (v : Value) (w : World), RL strC w v r0 → r0.length ≤ 24 → (∀ s ∈ r0, s.size ≤ 9223372036854775807) → Calls Try.prog 59 #[v, .int .i64 seq] w fun e w' => TxnAtP seq r0 w e w'
theorem at_some (hTx : TxnAtSaid) (seq : Int) (r0 : List ByteArray) (v : Value) (w : World) (hl : RL strC w v r0) (hlen : r0.length ≤ 24) (hsz : ∀ s ∈ r0, s.size ≤ 9223372036854775807) {t : Txn} {r' : List ByteArray} (hp : parseT seq 25 r0 (txn0 seq) = some (t, r')) :
    Calls Try.prog 59 #[v, .int .i64 seq] w fun e w' => ∃ v, e = .returned (.tuple #[v, .int .i64 ((r0.length : Int) - (r'.length : Int))]) ∧ OTxn w.heap.size 93 3 w' v t ∧ Below w.heap.size w w' := by
  refine (hTx seq r0 v w hl hlen hsz).mono fun e w' h => ?_
  rcases h with ⟨t2, r2, h1, v', n, hn, he, h2, h3⟩ | ⟨h1, _⟩
  · rw [hp] at h1
    simp only [Option.some.injEq, Prod.mk.injEq] at h1
    obtain ⟨rfl, rfl⟩ := h1
    subst hn
    exact ⟨v', he, h2, h3⟩
  · rw [hp] at h1; cases h1
theorem at_none (hTx : TxnAtSaid) (seq : Int) (r0 : List ByteArray) (v : Value) (w : World) (hl : RL strC w v r0) (hlen : r0.length ≤ 24) (hsz : ∀ s ∈ r0, s.size ≤ 9223372036854775807) (hp : parseT seq 25 r0 (txn0 seq) = none) :
    Calls Try.prog 59 #[v, .int .i64 seq] w fun e w' => e = .returned (.tuple #[.agg #[.int .i64 0, .slice none 0 0, .slice none 0 0, .slice none 0 0, .bool false, .int .i64 0, .bool false, .int .i64 0, .bool false, .int .i64 0], .int .i64 0]) ∧ Below w.heap.size w w' := by
  refine (hTx seq r0 v w hl hlen hsz).mono fun e w' h => ?_
  rcases h with ⟨t2, r2, h1, _⟩ | ⟨_, h2⟩
  · rw [hp] at h1; cases h1
  · exact h2
theorem ref_ScanLog (hDec : RDecodeSaid) (hTx : TxnAtSaid) (d : Dsk) (v : Value) (w : World) (hd : RDisk w v d) :
    Calls Try.prog 24 #[v] w fun e w' => ∃ v', e = .returned (.tuple #[v', .int .i64 (scanE d)]) ∧ OFnd w.heap.size 64 93 3 w' v' (scanF d) ∧ Below w.heap.size w w' := by
  have hd0 := hd
  obtain ⟨vs, vw, rfl, hs, hw, n1, n2⟩ := hd
  obtain ⟨as_, cs, rfl, _⟩ := hs.form
  obtain ⟨aw, cw, rfl, _⟩ := hw.form
  have hR := fun w' (hh : RDisk w' (.agg #[.slice as_ d.safe.length cs, .slice aw d.writes.length cw]) d) => ref_ReadDisk d 0 _ w' hh
  have hsz := readD_size d 0
  have hD := fun w' => hDec (readD d 0) w' (by omega)
  have hbd := fun h => dec_bds (s := readD d 0) h
  have hLs := fun A => logL_size d A
  have hLx := fun A => sfx_all d A
  have hLl := fun A => logL_len d A
  have hx2 : readE d 0 ≠ 0 → readE d 0 = 2 ∧ scanE d = 2 ∧ scanF d = ⟨[], 0, 0⟩ := fun h => by
    have h1 : scanE d = 2 := by unfold scanE; rw [if_neg h]
    refine ⟨?_, h1, ?_⟩
    · unfold readE at h ⊢
      split
      · rename_i hh; rw [if_pos hh] at h; exact absurd rfl h
      · rfl
    · unfold scanF; rw [if_neg (by rw [h1]; decide)]
  have hx1 : readE d 0 = 0 → ¬ (decE (readD d 0) = 0 ∧ (decM (readD d 0)).kind = 1) → scanE d = 1 ∧ scanF d = ⟨[], 0, 0⟩ := fun h h2 => by
    have h1 : scanE d = 1 := by unfold scanE; rw [if_pos h, if_neg h2]
    refine ⟨h1, ?_⟩
    unfold scanF; rw [if_neg (by rw [h1]; decide)]
  have hx0 : readE d 0 = 0 → decE (readD d 0) = 0 ∧ (decM (readD d 0)).kind = 1 → scanE d = 0 ∧ scanF d = ⟨(scanGo 25 (logL d (decM (readD d 0)).at_) (decM (readD d 0)).seq).1, (scanGo 25 (logL d (decM (readD d 0)).at_) (decM (readD d 0)).seq).2.1, ((decM (readD d 0)).at_ + (24 - ((scanGo 25 (logL d (decM (readD d 0)).at_) (decM (readD d 0)).seq).2.2.length : Int))) % 24⟩ := fun h h2 => by
    have h1 : scanE d = 0 := by unfold scanE; rw [if_pos h, if_pos h2]
    refine ⟨h1, ?_⟩
    unfold scanF; rw [if_pos h1]
  generalize scanE d = sE at *
  generalize scanF d = sF at *
  generalize readE d 0 = re at *
  generalize readD d 0 = s0 at *
  generalize decE s0 = de at *
  generalize decM s0 = M at *
  obtain ⟨mk, ms, ma, tags, blocks⟩ := M
  dsimp only at *
  have kd : Blk ((w.alloc (.cells #[.slice as_ d.safe.length cs, .slice aw d.writes.length cw] 25)).alloc (.cells #[.slice none 0 0, .int .i64 0, .int .i64 0] 51)) w.heap.size #[.slice as_ d.safe.length cs, .slice aw d.writes.length cw] 25 := (Blk.new w _ _).alloc _
  have kr : Blk ((w.alloc (.cells #[.slice as_ d.safe.length cs, .slice aw d.writes.length cw] 25)).alloc (.cells #[.slice none 0 0, .int .i64 0, .int .i64 0] 51)) (w.heap.size + 1) #[.slice none 0 0, .int .i64 0, .int .i64 0] 51 := Blk.newAt (by simp)
  have nx : Below w.heap.size w ((w.alloc (.cells #[.slice as_ d.safe.length cs, .slice aw d.writes.length cw] 25)).alloc (.cells #[.slice none 0 0, .int .i64 0, .int .i64 0] 51)) := bal (bal (b0 w) _) _
  have a0 := kd.cell 0; have a1 := kd.cell 1
  simp only [List.getElem?_toArray, List.getElem?_cons_zero, List.getElem?_cons_succ] at a0 a1
  replace hR := hid (hR _ (hd0.below nx)); replace hD := hid hD; replace hLs := hid hLs; replace hLx := hid hLx; replace hLl := hid hLl; replace hd0 := hid hd0
  clear hs hw
  by_cases hre : re = 0
  rotate_left
  · obtain ⟨rfl, rfl, rfl⟩ := hx2 hre
    clear hx1 hx0 hx2 hre hbd
    go_enter Try.func24, Try.ntmps24
    go_wp2_with (go_at_call 57; go_loud ((with_reducible refine hR.out.mono ?_); rintro e w1 ⟨rfl, hb1⟩; replace kr := kr.step hb1; replace nx := bgo nx hb1; have r0 := kr.cell 0; have r1 := kr.cell 1; have r2 := kr.cell 2; have z0 := kr.free 0; have z1 := kr.free 1; have z2 := kr.free 2; simp only [List.getElem?_toArray, List.getElem?_cons_zero, List.getElem?_cons_succ] at r0 r1 r2))
    exact bodyPost_ret (v := .tuple #[.agg #[.slice none 0 0, .int .i64 0, .int .i64 0], .int .i64 2]) (by simp [results, Try.results24, go_sem, r0, r1, r2]) rfl ⟨_, rfl, ⟨_, rfl, OTxns.nil _ _ _ _ _⟩, ((nx.setCell (by simp) _).setCell (by simp) _).setCell (by simp) _⟩
  by_cases hsu : de = 0 ∧ mk = 1
  rotate_left
  · obtain ⟨rfl, rfl⟩ := hx1 hre hsu
    subst hre
    clear hx1 hx0 hx2 hbd
    by_cases hde : de = 0
    · have hde2 : (de != 0) = false := by rw [hde]; rfl
      have hmk : (mk != 1) = true := bne_iff_ne.2 (fun h => hsu ⟨hde, h⟩)
      clear hsu hde
      go_enter Try.func24, Try.ntmps24
      go_wp2_with (go_at_call 57; go_loud ((with_reducible refine hR.out.mono ?_); rintro e w1 ⟨rfl, hb1⟩; replace kr := kr.step hb1; replace nx := bgo nx hb1))
      go_wp2_with (go_at_call 58; go_loud ((with_reducible refine (hD.out _).mono ?_); rintro e w2 ⟨v2, rfl, hmk, hb2⟩; obtain ⟨vt, vb, rfl, ot, ob, t1, t2⟩ := hmk; dsimp only at ot ob t1 t2 ⊢; obtain ⟨at_, ct, rfl⟩ := ot.form; obtain ⟨ab, cb, rfl⟩ := ob.form; replace kr := kr.step hb2; replace nx := bgo nx hb2; have r0 := kr.cell 0; have r1 := kr.cell 1; have r2 := kr.cell 2; have z0 := kr.free 0; have z1 := kr.free 1; have z2 := kr.free 2; simp only [List.getElem?_toArray, List.getElem?_cons_zero, List.getElem?_cons_succ] at r0 r1 r2; have lr := kr.lt))
      exact bodyPost_ret (v := .tuple #[.agg #[.slice none 0 0, .int .i64 0, .int .i64 0], .int .i64 1]) (by simp [results, Try.results24, go_sem, r0, r1, r2, lr]) rfl ⟨_, rfl, ⟨_, rfl, OTxns.nil _ _ _ _ _⟩, bal (((nx.setCell (p := ⟨w.heap.size + 1, 0, none⟩) (by simp) _).setCell (p := ⟨w.heap.size + 1, 1, none⟩) (by simp) _).setCell (p := ⟨w.heap.size + 1, 2, none⟩) (by simp) _) _⟩
    · have hde2 : (de != 0) = true := bne_iff_ne.2 hde
      clear hsu hde
      go_enter Try.func24, Try.ntmps24
      go_wp2_with (go_at_call 57; go_loud ((with_reducible refine hR.out.mono ?_); rintro e w1 ⟨rfl, hb1⟩; replace kr := kr.step hb1; replace nx := bgo nx hb1))
      go_wp2_with (go_at_call 58; go_loud ((with_reducible refine (hD.out _).mono ?_); rintro e w2 ⟨v2, rfl, hmk, hb2⟩; obtain ⟨vt, vb, rfl, ot, ob, t1, t2⟩ := hmk; dsimp only at ot ob t1 t2 ⊢; obtain ⟨at_, ct, rfl⟩ := ot.form; obtain ⟨ab, cb, rfl⟩ := ob.form; replace kr := kr.step hb2; replace nx := bgo nx hb2; have r0 := kr.cell 0; have r1 := kr.cell 1; have r2 := kr.cell 2; have z0 := kr.free 0; have z1 := kr.free 1; have z2 := kr.free 2; simp only [List.getElem?_toArray, List.getElem?_cons_zero, List.getElem?_cons_succ] at r0 r1 r2; have lr := kr.lt))
      exact bodyPost_ret (v := .tuple #[.agg #[.slice none 0 0, .int .i64 0, .int .i64 0], .int .i64 1]) (by simp [results, Try.results24, go_sem, r0, r1, r2, lr]) rfl ⟨_, rfl, ⟨_, rfl, OTxns.nil _ _ _ _ _⟩, bal (((nx.setCell (p := ⟨w.heap.size + 1, 0, none⟩) (by simp) _).setCell (p := ⟨w.heap.size + 1, 1, none⟩) (by simp) _).setCell (p := ⟨w.heap.size + 1, 2, none⟩) (by simp) _) _⟩
  obtain ⟨rfl, hF⟩ := hx0 hre hsu
  obtain ⟨rfl, rfl⟩ := hsu
  subst hre
  obtain ⟨_, _, q3, q4, q5, q6⟩ := hbd rfl
  clear hx0 hx1 hx2 hbd
  have hL0 := hid (hLx.out ma)
  have hL1 := hid (hLs.out ma)
  have hL2 := hLl.out ma
  generalize hLd : logL d ma = L at *
  replace hLd := hid hLd
  have hG0 := hid (show (scanGo 25 L ms) = scanGo (L.length + 1) L ms by rw [hL2])
  replace hF := hid hF
  generalize hGG : scanGo 25 L ms = G at *
  clear hLx hGG
  have hRk := hid (fun (k : Nat) w' (hh : Below w.heap.size w w') => ref_ReadDisk d (1 + (ma + (k : Int)) % 24) _ w' (hd0.out.below hh))
  have hLk := hid (fun (k : Nat) (hk : k < 24) => (show L.take (k + 1) = L.take k ++ [readD d (1 + (ma + (k : Int)) % 24)] from by
    have e : L[k]? = some (readD d (1 + (ma + (k : Int)) % 24)) := by rw [← hLd.out]; simp [logL, hk]
    rw [List.take_add_one, e]
    rfl))
  have hLt : L.take 0 = [] := rfl
  replace hLt := hid hLt
  go_enter Try.func24, Try.ntmps24
  go_wp2_with (go_at_call 57; go_loud ((with_reducible refine hR.out.mono ?_); rintro e w1 ⟨rfl, hb1⟩; replace kr := kr.step hb1; replace kd := kd.step hb1; replace nx := bgo nx hb1))
  go_wp2_with (go_at_call 58; go_loud ((with_reducible refine (hD.out _).mono ?_); rintro e w2 ⟨v2, rfl, hmk, hb2⟩; obtain ⟨vt, vb, rfl, ot, ob, t1, t2⟩ := hmk; dsimp only at ot ob t1 t2 ⊢; obtain ⟨at_, ct, rfl⟩ := ot.form; obtain ⟨ab, cb, rfl⟩ := ob.form; replace kr := kr.step hb2; replace kd := kd.step hb2; replace nx := bgo nx hb2; clear a0 a1; have lr := kr.lt; have ld := kd.lt))
  have lw2 := kr.lt
  have km := Blk.new w2 #[.int .i64 1, .int .i64 ms, .int .i64 ma, .slice at_ tags.length ct, .slice ab blocks.length cb] 38
  replace kr := kr.alloc (.cells #[.int .i64 1, .int .i64 ms, .int .i64 ma, .slice at_ tags.length ct, .slice ab blocks.length cb] 38)
  replace kd := kd.alloc (.cells #[.int .i64 1, .int .i64 ms, .int .i64 ma, .slice at_ tags.length ct, .slice ab blocks.length cb] 38)
  replace nx := bal nx (.cells #[.int .i64 1, .int .i64 ms, .int .i64 ma, .slice at_ tags.length ct, .slice ab blocks.length cb] 38)
  have s1 : w2.heap.size + 1 ≤ (w2.alloc (.cells #[.int .i64 1, .int .i64 ms, .int .i64 ma, .slice at_ tags.length ct, .slice ab blocks.length cb] 38)).heap.size := by simp
  clear ot ob lr ld
  go_loopw [7, 8, 9, 10, 37] (fun lo _ _ _ i wr => ∃ k : Nat, k ≤ 24 ∧ i = .int .i64 (k : Int) ∧ Own strC (w2.heap.size + 1) 9 1 wr lo (L.take k) ∧ Blk wr w.heap.size #[.slice as_ d.safe.length cs, .slice aw d.writes.length cw] 25 ∧ Blk wr (w.heap.size + 1) #[.slice none 0 0, .int .i64 0, .int .i64 0] 51 ∧ Blk wr w2.heap.size #[.int .i64 1, .int .i64 ms, .int .i64 ma, .slice at_ tags.length ct, .slice ab blocks.length cb] 38 ∧ Below w.heap.size w wr ∧ w2.heap.size + 1 ≤ wr.heap.size) (fun _ _ _ _ i _ => 24 - (intOf i).toNat)
  case atStart => exact ⟨0, by decide, rfl, by rw [hLt.out]; exact Own.nil _ _ _ _ _, kd, kr, km, nx, s1⟩
  case round =>
    clear kd kr km nx s1
    obtain ⟨k, hk, rfl, ol, kd, kr, km, nx, hg1⟩ := hrel
    have ld := kd.lt; have lr := kr.lt; have lm := km.lt
    have a0 := kd.cell 0; have a1 := kd.cell 1; have m1 := km.cell 1; have m2 := km.cell 2
    simp only [List.getElem?_toArray, List.getElem?_cons_zero, List.getElem?_cons_succ] at a0 a1 m1 m2
    by_cases hlt : k < 24
    · have hRw := hRk.out k
      have hst := hid (hLk.out k hlt)
      have hw1 : IntKind.i64.wrap (ma + (k : Int)) = ma + k := IntWalk.i64_in _ (by omega)
      have hw2 : IntKind.i64.wrap (1 + (ma + (k : Int)) % 24) = 1 + (ma + k) % 24 := IntWalk.i64_in _ (by omega)
      have hw3 : (ma + (k : Int)).tmod 24 = (ma + k) % 24 := Int.tmod_eq_emod_of_nonneg (by omega)
      have hw4 : IntKind.i64.wrap ((ma + (k : Int)) % 24) = (ma + k) % 24 := IntWalk.i64_in _ (by omega)
      have hle : (L.take k).length = k := by rw [List.length_take]; omega
      generalize readD d (1 + (ma + (k : Int)) % 24) = x at *
      generalize readE d (1 + (ma + (k : Int)) % 24) = xe at *
      generalize hl2 : L.take (k + 1) = L2 at *
      generalize L.take k = L1 at *
      replace hl2 := hid hl2; replace hRw := hid hRw; replace hle := hid hle
      go_wp2_with (first
        | (go_at_call 57; go_loud ((refine (hRw.out _ nx).mono ?_); rintro e w3 ⟨rfl, hb3⟩; replace ol := ol.below hb3; replace kd := kd.step hb3; replace kr := kr.step hb3; replace km := km.step hb3; replace nx := bgo nx hb3; have hw5 := hb3.size))
        | (at_builtin; go_loud (refine wpList_push rfl _ _ _ rfl (w2.heap.size + 1) _ 1 16 strC_flat elemStr ol rfl x rfl rfl (by have := hle.out; omega) (by have := hle.out; unfold maxLen; omega) (by omega) ?_; intro v7 w7 hown7 hbel7 hg7)))
      rw [← hst.out] at hown7
      go_roundw
      case rel => first | exact ⟨k + 1, by omega, by go_num, by rw [hl2.out]; exact hown7, kd.below hbel7 (by omega), kr.below hbel7 (by omega), km.below hbel7 (by omega), nx.trans (hbel7.mono (by omega)), by have := hbel7.size; omega⟩ | ((repeat apply Exists.intro); refine ⟨⟨k + 1, by omega, ?_, by rw [hl2.out]; exact hown7, kd.below hbel7 (by omega), kr.below hbel7 (by omega), km.below hbel7 (by omega), nx.trans (hbel7.mono (by omega)), by have := hbel7.size; omega⟩, rfl⟩; go_num)
      case measure => simp [intOf]; omega
    · have hL24 : L.take k = L := List.take_of_length_le (by omega)
      rw [hL24] at ol
      clear hL24 hLk hRk hLt
      obtain ⟨wo, hwo⟩ : ∃ wo : World, wo = wr := ⟨_, rfl⟩
      subst hwo
      obtain ⟨al, cl, hvl⟩ := ol.form
      rw [hL2] at hvl
      subst hvl
      obtain ⟨bl, ofl, rfl, _⟩ := RL.at1 (fun x => .string x) (fun _ => rfl) ol.reads (k := 0) (by omega)
      have hcl := ol.reads.form
      have kf0 : Blk (wo.alloc (.cells #[.slice none 0 0, .int .i64 ms, .int .i64 ma] 51)) wo.heap.size #[.slice none 0 0, .int .i64 ms, .int .i64 ((ma + ((0 : Nat) : Int)) % 24)] 51 := by rw [show (ma + ((0 : Nat) : Int)) % 24 = ma by omega]; exact Blk.new wo _ _
      have no0 := bal (b0 wo) (.cells #[.slice none 0 0, .int .i64 ms, .int .i64 ma] 51)
      have so0 : wo.heap.size + 1 ≤ (wo.alloc (.cells #[.slice none 0 0, .int .i64 ms, .int .i64 ma] 51)).heap.size := by simp
      have hgo0 := hid (show ([] : List Txn) ++ (scanGo ((L.drop 0).length + 1) (L.drop 0) ms).1 = G.1 ∧ (scanGo ((L.drop 0).length + 1) (L.drop 0) ms).2 = G.2 by rw [List.drop_zero, ← hG0.out]; exact ⟨rfl, rfl⟩)
      clear hG0
      go_wp2
      clear a0 a1 m1 m2 ld lr lm
      go_loopg [12, 13, 14] L.length (fun g s12 _ _ wr => ∃ (p : Nat) (n : Int) (ts : List Txn), g = L.length - p ∧ p ≤ L.length ∧ s12 = .int .i64 (p : Int) ∧ Hid (ts ++ (scanGo ((L.drop p).length + 1) (L.drop p) n).1 = G.1 ∧ (scanGo ((L.drop p).length + 1) (L.drop p) n).2 = G.2) ∧ 1 ≤ n ∧ n ≤ 2147483647 ∧ ts.length ≤ p ∧ ∃ vt, OTxns (wo.heap.size + 1) 64 93 3 wr vt ts ∧ Blk wr wo.heap.size #[vt, .int .i64 n, .int .i64 ((ma + (p : Int)) % 24)] 51 ∧ Below wo.heap.size wo wr ∧ wo.heap.size + 1 ≤ wr.heap.size)
      case atStart => exact ⟨0, ms, [], rfl, Nat.zero_le _, rfl, hgo0, q5, q6, by simp, _, OTxns.nil _ _ _ _ _, kf0, no0, so0⟩
      case round =>
        clear kf0 no0 so0 hgo0
        obtain ⟨p, n, ts, rfl, hpl, rfl, hgo, b1, b2, htp, vt, hox, kf, no, hg3⟩ := hrel
        obtain ⟨a, c, rfl⟩ := hox.form
        have kmr := km.step no; have krr := kr.step no
        have lf := kf.lt; have lm := kmr.lt; have lr := krr.lt
        have f0 := kf.cell 0; have f1 := kf.cell 1; have f2 := kf.cell 2; have m2 := kmr.cell 2
        have r0 := krr.cell 0; have r1 := krr.cell 1; have r2 := krr.cell 2
        have z0 := krr.free 0; have z1 := krr.free 1; have z2 := krr.free 2
        simp only [List.getElem?_toArray, List.getElem?_cons_zero, List.getElem?_cons_succ] at f0 f1 f2 m2 r0 r1 r2
        by_cases hlt : n < 2147483647
        rotate_left
        · have hFF := hid (show sF = ⟨ts, n, ((ma + (p : Int)) % 24)⟩ by
            obtain ⟨g1, g2⟩ := hgo.out
            rw [scanGo_full hlt] at g1 g2
            rw [hF.out, ← g1, ← g2]
            simp only [List.append_nil, List.length_drop, hL2, Fnd.mk.injEq, true_and]
            omega)
          clear hgo hF
          go_wp2
          have nw := nx.trans (no.mono (by have := nx.size; omega))
          have oz := (((hox.setCell (p := ⟨w.heap.size + 1, 0, none⟩) (by simp; omega) (.slice a ts.length c)).setCell (p := ⟨w.heap.size + 1, 1, none⟩) (by simp; omega) (.int .i64 n)).setCell (p := ⟨w.heap.size + 1, 2, none⟩) (by simp; omega) (.int .i64 ((ma + (p : Int)) % 24)))
          have nz := (((nw.setCell (p := ⟨w.heap.size + 1, 0, none⟩) (by simp) (.slice a ts.length c)).setCell (p := ⟨w.heap.size + 1, 1, none⟩) (by simp) (.int .i64 n)).setCell (p := ⟨w.heap.size + 1, 2, none⟩) (by simp) (.int .i64 ((ma + (p : Int)) % 24)))
          exact bodyPost_ret (v := .tuple #[.agg #[.slice a ts.length c, .int .i64 n, .int .i64 ((ma + (p : Int)) % 24)], .int .i64 0]) (by simp [results, Try.results24, go_sem, r0, r1, r2]) rfl ⟨_, rfl, by rw [hFF.out]; exact ⟨_, rfl, oz.mono (by have := nx.size; omega)⟩, nz⟩
        obtain ⟨va, hva⟩ : ∃ va : Option Addr, (if cl = p then some (⟨bl, ofl, none⟩ : Addr) else some ⟨bl, ofl + p, none⟩) = va := ⟨_, rfl⟩
        have hol : RL strC wr (.slice va (24 - p) (cl - p)) (L.drop p) := by
          have h1 := RL.drop (f := strC) (c := 1) (fun _ => rfl) (ol.reads.below no) hpl
          rw [← hva]
          by_cases hcp : cl = p
          · rw [if_pos hcp]
            have h2 : L.drop p = [] := List.drop_eq_nil_iff.2 (by obtain ⟨_, _, h3, h4, _⟩ := ol.reads.form; simp only [Value.slice.injEq] at h3; omega)
            rw [h2, hcp, Nat.sub_self, show 24 - p = 0 by have := List.drop_eq_nil_iff.1 h2; omega]
            exact ⟨_, _, rfl, Nat.le_refl _, by unfold maxLen; omega, .inl rfl⟩
          · rw [if_neg hcp]
            rw [Nat.mul_one] at h1
            exact h1
        have hds := hid (fun x (hx : x ∈ L.drop p) => hL1.out x (List.mem_of_mem_drop hx))
        have hdl : (L.drop p).length = 24 - p := by rw [List.length_drop, hL2]
        have hp24 : p ≤ 24 := by omega
        have hp24' : (p : Int) ≤ 24 := by omega
        replace hol := hid hol
        cases hp : parseT n 25 (L.drop p) (txn0 n) with
        | none =>
          have hFF := hid (show sF = ⟨ts, n, ((ma + (p : Int)) % 24)⟩ by
            obtain ⟨g1, g2⟩ := hgo.out
            rw [scanGo_stop hp] at g1 g2
            rw [hF.out, ← g1, ← g2]
            simp only [List.append_nil, List.length_drop, hL2, Fnd.mk.injEq, true_and]
            omega)
          have hO := hid (fun w' hl => at_none hTx n (L.drop p) (.slice va (24 - p) (cl - p)) w' hl (by omega) hds.out hp)
          clear hgo hF hp hds
          go_wp2
          clear f0 f2 r0 r1 r2 z0 z1 z2 m2 lr lm
          go_region_law (first
            | (refine step_call 59 _ _ (by rfl) (by rfl) #[.slice va (24 - p) (cl - p), .int .i64 n] (by rfl) ⟨_, _, Try.func59, by kernel_rfl, rfl⟩ (hO.out _ hol.out.drew) ?_; rintro e w4 ⟨rfl, hb4⟩; refine ⟨_, rfl, ?_⟩; have hA : True := trivial; have hbw : Below wr.heap.size wr w4 := bgo (b0 wr).drew hb4; replace kf := kf.drew.step hb4; have lf4 := kf.lt; clear f1; have f1 := kf.cell 1; simp only [List.getElem?_toArray, List.getElem?_cons_zero, List.getElem?_cons_succ] at f1)
            | (refine step_call 59 _ _ (by rfl) (by rfl) #[.slice va (24 - p) (cl - p), .int .i64 n] (by rfl) ⟨_, _, Try.func59, by kernel_rfl, rfl⟩ (hO.out _ (hol.out.below (bal (b0 wr) (.cells #[.int .i64 0, .slice none 0 0, .slice none 0 0, .slice none 0 0, .bool false, .int .i64 0, .bool false, .int .i64 0, .bool false, .int .i64 0] 64)).drew)) ?_; rintro e w4 ⟨rfl, hb4⟩; refine ⟨_, rfl, ?_⟩; have hB : True := trivial; have hbw : Below wr.heap.size wr w4 := bgo (bal (b0 wr) (.cells #[.int .i64 0, .slice none 0 0, .slice none 0 0, .slice none 0 0, .bool false, .int .i64 0, .bool false, .int .i64 0, .bool false, .int .i64 0] 64)).drew hb4; have kt4 := ((Blk.new wr #[.int .i64 0, .slice none 0 0, .slice none 0 0, .slice none 0 0, .bool false, .int .i64 0, .bool false, .int .i64 0, .bool false, .int .i64 0] 64).drew).step hb4; have lt4 := kt4.lt; replace kf := ((kf.alloc (.cells #[.int .i64 0, .slice none 0 0, .slice none 0 0, .slice none 0 0, .bool false, .int .i64 0, .bool false, .int .i64 0, .bool false, .int .i64 0] 64)).drew).step hb4; have lf4 := kf.lt; clear f1; have f1 := kf.cell 1; simp only [List.getElem?_toArray, List.getElem?_cons_zero, List.getElem?_cons_succ] at f1; have g0 := kt4.free 0; have g1 := kt4.free 1; have g2 := kt4.free 2; have g3 := kt4.free 3; have g4 := kt4.free 4; have g5 := kt4.free 5; have g6 := kt4.free 6; have g7 := kt4.free 7; have g8 := kt4.free 8; have g9 := kt4.free 9; have j0 := kt4.cell 0; have j1 := kt4.cell 1; have j2 := kt4.cell 2; have j3 := kt4.cell 3; have j4 := kt4.cell 4; have j5 := kt4.cell 5; have j6 := kt4.cell 6; have j7 := kt4.cell 7; have j8 := kt4.cell 8; have j9 := kt4.cell 9; simp only [List.getElem?_toArray, List.getElem?_cons_zero, List.getElem?_cons_succ] at j0 j1 j2 j3 j4 j5 j6 j7 j8 j9))
          · have hq := hA
            have hbW : Below wr.heap.size wr (w4.alloc (.cells #[.int .i64 0, .slice none 0 0, .slice none 0 0, .slice none 0 0, .bool false, .int .i64 0, .bool false, .int .i64 0, .bool false, .int .i64 0] 64)) := bal hbw _
            have kfW := kf.alloc (.cells #[.int .i64 0, .slice none 0 0, .slice none 0 0, .slice none 0 0, .bool false, .int .i64 0, .bool false, .int .i64 0, .bool false, .int .i64 0] 64)
            have hoxW := hox.below hbW
            generalize w4.alloc (.cells #[.int .i64 0, .slice none 0 0, .slice none 0 0, .slice none 0 0, .bool false, .int .i64 0, .bool false, .int .i64 0, .bool false, .int .i64 0] 64) = wf at hbW kfW hoxW ⊢
            have noW : Below wo.heap.size wo wf := no.trans (hbW.mono (by omega))
            have krr := kr.step noW
            have kmr := km.step noW
            have lf := kfW.lt; have lr := krr.lt; have lm := kmr.lt
            clear f1; have f0 := kfW.cell 0; have f1 := kfW.cell 1; have f2 := kfW.cell 2
            have r0 := krr.cell 0; have r1 := krr.cell 1; have r2 := krr.cell 2
            have z0 := krr.free 0; have z1 := krr.free 1; have z2 := krr.free 2
            simp only [List.getElem?_toArray, List.getElem?_cons_zero, List.getElem?_cons_succ] at f0 f1 f2 r0 r1 r2
            go_wp2
            have nw := nx.trans (noW.mono (by have := nx.size; omega))
            have oz := (((hoxW.setCell (p := ⟨w.heap.size + 1, 0, none⟩) (by simp; omega) (.slice a ts.length c)).setCell (p := ⟨w.heap.size + 1, 1, none⟩) (by simp; omega) (.int .i64 n)).setCell (p := ⟨w.heap.size + 1, 2, none⟩) (by simp; omega) (.int .i64 ((ma + (p : Int)) % 24)))
            have nz := (((nw.setCell (p := ⟨w.heap.size + 1, 0, none⟩) (by simp) (.slice a ts.length c)).setCell (p := ⟨w.heap.size + 1, 1, none⟩) (by simp) (.int .i64 n)).setCell (p := ⟨w.heap.size + 1, 2, none⟩) (by simp) (.int .i64 ((ma + (p : Int)) % 24)))
            exact bodyPost_ret (v := .tuple #[.agg #[.slice a ts.length c, .int .i64 n, .int .i64 ((ma + (p : Int)) % 24)], .int .i64 0]) (by simp [results, Try.results24, go_sem, r0, r1, r2]) rfl ⟨_, rfl, by rw [hFF.out]; exact ⟨_, rfl, oz.mono (by have := nx.size; omega)⟩, nz⟩
          · have hq := hB
            have hbW : Below wr.heap.size wr ((((((((((w4.setCell ⟨wr.heap.size, 0, none⟩ (.int .i64 0)).setCell ⟨wr.heap.size, 1, none⟩ (.slice none 0 0)).setCell ⟨wr.heap.size, 2, none⟩ (.slice none 0 0)).setCell ⟨wr.heap.size, 3, none⟩ (.slice none 0 0)).setCell ⟨wr.heap.size, 4, none⟩ (.bool false)).setCell ⟨wr.heap.size, 5, none⟩ (.int .i64 0)).setCell ⟨wr.heap.size, 6, none⟩ (.bool false)).setCell ⟨wr.heap.size, 7, none⟩ (.int .i64 0)).setCell ⟨wr.heap.size, 8, none⟩ (.bool false)).setCell ⟨wr.heap.size, 9, none⟩ (.int .i64 0)) := Wb.Below.setCells [(⟨wr.heap.size, 0, none⟩, .int .i64 0), (⟨wr.heap.size, 1, none⟩, .slice none 0 0), (⟨wr.heap.size, 2, none⟩, .slice none 0 0), (⟨wr.heap.size, 3, none⟩, .slice none 0 0), (⟨wr.heap.size, 4, none⟩, .bool false), (⟨wr.heap.size, 5, none⟩, .int .i64 0), (⟨wr.heap.size, 6, none⟩, .bool false), (⟨wr.heap.size, 7, none⟩, .int .i64 0), (⟨wr.heap.size, 8, none⟩, .bool false), (⟨wr.heap.size, 9, none⟩, .int .i64 0)] _ hbw (by simp)
            have kfW : Blk ((((((((((w4.setCell ⟨wr.heap.size, 0, none⟩ (.int .i64 0)).setCell ⟨wr.heap.size, 1, none⟩ (.slice none 0 0)).setCell ⟨wr.heap.size, 2, none⟩ (.slice none 0 0)).setCell ⟨wr.heap.size, 3, none⟩ (.slice none 0 0)).setCell ⟨wr.heap.size, 4, none⟩ (.bool false)).setCell ⟨wr.heap.size, 5, none⟩ (.int .i64 0)).setCell ⟨wr.heap.size, 6, none⟩ (.bool false)).setCell ⟨wr.heap.size, 7, none⟩ (.int .i64 0)).setCell ⟨wr.heap.size, 8, none⟩ (.bool false)).setCell ⟨wr.heap.size, 9, none⟩ (.int .i64 0)) wo.heap.size _ _ := Blk.setCells [(⟨wr.heap.size, 0, none⟩, .int .i64 0), (⟨wr.heap.size, 1, none⟩, .slice none 0 0), (⟨wr.heap.size, 2, none⟩, .slice none 0 0), (⟨wr.heap.size, 3, none⟩, .slice none 0 0), (⟨wr.heap.size, 4, none⟩, .bool false), (⟨wr.heap.size, 5, none⟩, .int .i64 0), (⟨wr.heap.size, 6, none⟩, .bool false), (⟨wr.heap.size, 7, none⟩, .int .i64 0), (⟨wr.heap.size, 8, none⟩, .bool false), (⟨wr.heap.size, 9, none⟩, .int .i64 0)] _ kf (by simp; omega)
            have hoxW := hox.below hbW
            generalize ((((((((((w4.setCell ⟨wr.heap.size, 0, none⟩ (.int .i64 0)).setCell ⟨wr.heap.size, 1, none⟩ (.slice none 0 0)).setCell ⟨wr.heap.size, 2, none⟩ (.slice none 0 0)).setCell ⟨wr.heap.size, 3, none⟩ (.slice none 0 0)).setCell ⟨wr.heap.size, 4, none⟩ (.bool false)).setCell ⟨wr.heap.size, 5, none⟩ (.int .i64 0)).setCell ⟨wr.heap.size, 6, none⟩ (.bool false)).setCell ⟨wr.heap.size, 7, none⟩ (.int .i64 0)).setCell ⟨wr.heap.size, 8, none⟩ (.bool false)).setCell ⟨wr.heap.size, 9, none⟩ (.int .i64 0)) = wf at hbW kfW hoxW ⊢
            have noW : Below wo.heap.size wo wf := no.trans (hbW.mono (by omega))
            have krr := kr.step noW
            have kmr := km.step noW
            have lf := kfW.lt; have lr := krr.lt; have lm := kmr.lt
            clear f1; have f0 := kfW.cell 0; have f1 := kfW.cell 1; have f2 := kfW.cell 2
            have r0 := krr.cell 0; have r1 := krr.cell 1; have r2 := krr.cell 2
            have z0 := krr.free 0; have z1 := krr.free 1; have z2 := krr.free 2
            simp only [List.getElem?_toArray, List.getElem?_cons_zero, List.getElem?_cons_succ] at f0 f1 f2 r0 r1 r2
            go_wp2
            have nw := nx.trans (noW.mono (by have := nx.size; omega))
            have oz := (((hoxW.setCell (p := ⟨w.heap.size + 1, 0, none⟩) (by simp; omega) (.slice a ts.length c)).setCell (p := ⟨w.heap.size + 1, 1, none⟩) (by simp; omega) (.int .i64 n)).setCell (p := ⟨w.heap.size + 1, 2, none⟩) (by simp; omega) (.int .i64 ((ma + (p : Int)) % 24)))
            have nz := (((nw.setCell (p := ⟨w.heap.size + 1, 0, none⟩) (by simp) (.slice a ts.length c)).setCell (p := ⟨w.heap.size + 1, 1, none⟩) (by simp) (.int .i64 n)).setCell (p := ⟨w.heap.size + 1, 2, none⟩) (by simp) (.int .i64 ((ma + (p : Int)) % 24)))
            exact bodyPost_ret (v := .tuple #[.agg #[.slice a ts.length c, .int .i64 n, .int .i64 ((ma + (p : Int)) % 24)], .int .i64 0]) (by simp [results, Try.results24, go_sem, r0, r1, r2]) rfl ⟨_, rfl, by rw [hFF.out]; exact ⟨_, rfl, oz.mono (by have := nx.size; omega)⟩, nz⟩
          · have hq := hB
            have hbW : Below wr.heap.size wr ((((((((((w4.setCell ⟨wr.heap.size, 0, none⟩ (.int .i64 0)).setCell ⟨wr.heap.size, 1, none⟩ (.slice none 0 0)).setCell ⟨wr.heap.size, 2, none⟩ (.slice none 0 0)).setCell ⟨wr.heap.size, 3, none⟩ (.slice none 0 0)).setCell ⟨wr.heap.size, 4, none⟩ (.bool false)).setCell ⟨wr.heap.size, 5, none⟩ (.int .i64 0)).setCell ⟨wr.heap.size, 6, none⟩ (.bool false)).setCell ⟨wr.heap.size, 7, none⟩ (.int .i64 0)).setCell ⟨wr.heap.size, 8, none⟩ (.bool false)).setCell ⟨wr.heap.size, 9, none⟩ (.int .i64 0)) := Wb.Below.setCells [(⟨wr.heap.size, 0, none⟩, .int .i64 0), (⟨wr.heap.size, 1, none⟩, .slice none 0 0), (⟨wr.heap.size, 2, none⟩, .slice none 0 0), (⟨wr.heap.size, 3, none⟩, .slice none 0 0), (⟨wr.heap.size, 4, none⟩, .bool false), (⟨wr.heap.size, 5, none⟩, .int .i64 0), (⟨wr.heap.size, 6, none⟩, .bool false), (⟨wr.heap.size, 7, none⟩, .int .i64 0), (⟨wr.heap.size, 8, none⟩, .bool false), (⟨wr.heap.size, 9, none⟩, .int .i64 0)] _ hbw (by simp)
            have kfW : Blk ((((((((((w4.setCell ⟨wr.heap.size, 0, none⟩ (.int .i64 0)).setCell ⟨wr.heap.size, 1, none⟩ (.slice none 0 0)).setCell ⟨wr.heap.size, 2, none⟩ (.slice none 0 0)).setCell ⟨wr.heap.size, 3, none⟩ (.slice none 0 0)).setCell ⟨wr.heap.size, 4, none⟩ (.bool false)).setCell ⟨wr.heap.size, 5, none⟩ (.int .i64 0)).setCell ⟨wr.heap.size, 6, none⟩ (.bool false)).setCell ⟨wr.heap.size, 7, none⟩ (.int .i64 0)).setCell ⟨wr.heap.size, 8, none⟩ (.bool false)).setCell ⟨wr.heap.size, 9, none⟩ (.int .i64 0)) wo.heap.size _ _ := Blk.setCells [(⟨wr.heap.size, 0, none⟩, .int .i64 0), (⟨wr.heap.size, 1, none⟩, .slice none 0 0), (⟨wr.heap.size, 2, none⟩, .slice none 0 0), (⟨wr.heap.size, 3, none⟩, .slice none 0 0), (⟨wr.heap.size, 4, none⟩, .bool false), (⟨wr.heap.size, 5, none⟩, .int .i64 0), (⟨wr.heap.size, 6, none⟩, .bool false), (⟨wr.heap.size, 7, none⟩, .int .i64 0), (⟨wr.heap.size, 8, none⟩, .bool false), (⟨wr.heap.size, 9, none⟩, .int .i64 0)] _ kf (by simp; omega)
            have hoxW := hox.below hbW
            generalize ((((((((((w4.setCell ⟨wr.heap.size, 0, none⟩ (.int .i64 0)).setCell ⟨wr.heap.size, 1, none⟩ (.slice none 0 0)).setCell ⟨wr.heap.size, 2, none⟩ (.slice none 0 0)).setCell ⟨wr.heap.size, 3, none⟩ (.slice none 0 0)).setCell ⟨wr.heap.size, 4, none⟩ (.bool false)).setCell ⟨wr.heap.size, 5, none⟩ (.int .i64 0)).setCell ⟨wr.heap.size, 6, none⟩ (.bool false)).setCell ⟨wr.heap.size, 7, none⟩ (.int .i64 0)).setCell ⟨wr.heap.size, 8, none⟩ (.bool false)).setCell ⟨wr.heap.size, 9, none⟩ (.int .i64 0)) = wf at hbW kfW hoxW ⊢
            have noW : Below wo.heap.size wo wf := no.trans (hbW.mono (by omega))
            have krr := kr.step noW
            have kmr := km.step noW
            have lf := kfW.lt; have lr := krr.lt; have lm := kmr.lt
            clear f1; have f0 := kfW.cell 0; have f1 := kfW.cell 1; have f2 := kfW.cell 2
            have r0 := krr.cell 0; have r1 := krr.cell 1; have r2 := krr.cell 2
            have z0 := krr.free 0; have z1 := krr.free 1; have z2 := krr.free 2
            simp only [List.getElem?_toArray, List.getElem?_cons_zero, List.getElem?_cons_succ] at f0 f1 f2 r0 r1 r2
            go_wp2
            have nw := nx.trans (noW.mono (by have := nx.size; omega))
            have oz := (((hoxW.setCell (p := ⟨w.heap.size + 1, 0, none⟩) (by simp; omega) (.slice a ts.length c)).setCell (p := ⟨w.heap.size + 1, 1, none⟩) (by simp; omega) (.int .i64 n)).setCell (p := ⟨w.heap.size + 1, 2, none⟩) (by simp; omega) (.int .i64 ((ma + (p : Int)) % 24)))
            have nz := (((nw.setCell (p := ⟨w.heap.size + 1, 0, none⟩) (by simp) (.slice a ts.length c)).setCell (p := ⟨w.heap.size + 1, 1, none⟩) (by simp) (.int .i64 n)).setCell (p := ⟨w.heap.size + 1, 2, none⟩) (by simp) (.int .i64 ((ma + (p : Int)) % 24)))
            exact bodyPost_ret (v := .tuple #[.agg #[.slice a ts.length c, .int .i64 n, .int .i64 ((ma + (p : Int)) % 24)], .int .i64 0]) (by simp [results, Try.results24, go_sem, r0, r1, r2]) rfl ⟨_, rfl, by rw [hFF.out]; exact ⟨_, rfl, oz.mono (by have := nx.size; omega)⟩, nz⟩
        | some pr =>
          obtain ⟨t, r'⟩ := pr
          have hlen := parseT_len hp
          obtain ⟨mm, hmm⟩ : ∃ mm : Nat, mm = (L.drop p).length - r'.length := ⟨_, rfl⟩
          have hmi : (((L.drop p).length : Int) - (r'.length : Int)) = (mm : Int) := by omega
          have hO := hid (fun w' hl => at_some hTx n (L.drop p) (.slice va (24 - p) (cl - p)) w' hl (by omega) hds.out hp)
          rw [hmi] at hO
          have hm0 : ((mm : Int) == 0) = false := beq_eq_false_iff_ne.2 (by omega)
          have hpm : p + mm ≤ 24 := by omega
          have hmp : 1 ≤ mm := by omega
          have hgo2 := hid (show (ts ++ [t]) ++ (scanGo ((L.drop (p + mm)).length + 1) (L.drop (p + mm)) (n + 1)).1 = G.1 ∧ (scanGo ((L.drop (p + mm)).length + 1) (L.drop (p + mm)) (n + 1)).2 = G.2 by
            obtain ⟨g1, g2⟩ := hgo.out
            obtain ⟨g3, g4⟩ := scanGo_step hlt hp
            have hsf : sfx d ma (L.drop p) := ⟨by rw [hLd.out, List.length_drop, hL2, show 24 - (24 - p) = p by omega], by omega⟩
            have hs2 := (parseT_sfx hp hsf).1
            rw [hLd.out, show 24 - r'.length = p + mm by omega] at hs2
            rw [← hs2]
            rw [g3] at g1
            rw [g4] at g2
            exact ⟨by rw [List.append_assoc]; exact g1, g2⟩)
          have hw1 : IntKind.i64.wrap (n + 1) = n + 1 := IntWalk.i64_in _ (by omega)
          have hw2 : IntKind.i64.wrap ((p : Int) + mm) = p + mm := IntWalk.i64_in _ (by omega)
          have hw3 : IntKind.i64.wrap (ma + ((p : Int) + mm)) = ma + (p + mm) := IntWalk.i64_in _ (by omega)
          have hw4 : (ma + ((p : Int) + mm)).tmod 24 = (ma + (p + mm)) % 24 := Int.tmod_eq_emod_of_nonneg (by omega)
          have hw5 : IntKind.i64.wrap ((ma + ((p : Int) + mm)) % 24) = (ma + (p + mm)) % 24 := IntWalk.i64_in _ (by omega)
          obtain ⟨xs, hox1, hxm, hxo⟩ := hox
          have hxl : xs.length = ts.length := by rw [← hxm]; simp
          replace hxl := hid hxl; replace hxm := hid hxm; replace hxo := hid hxo
          clear hgo hp hds hmi hlen hmm
          go_wp2
          clear f0 f2 r0 r1 r2 z0 z1 z2 m2 lr lm
          go_region_law (first
            | (refine step_call 59 _ _ (by rfl) (by rfl) #[.slice va (24 - p) (cl - p), .int .i64 n] (by rfl) ⟨_, _, Try.func59, by kernel_rfl, rfl⟩ (hO.out _ hol.out.drew) ?_; rintro e w4 ⟨v4, rfl, ot, hb4⟩; refine ⟨_, rfl, ?_⟩; have hA : True := trivial; obtain ⟨y, hyt, hv, hoy⟩ := ot.tv; obtain ⟨ty, ⟨q1, q2, q3⟩, ⟨q4, q5, q6⟩, ⟨q7, q8, q9⟩⟩ := y; dsimp only at hyt; subst hyt; dsimp only [TV.val, txnV, SlV.val] at hv; subst hv; clear ot; replace hoy := hid hoy; have hbw : Below wr.heap.size wr w4 := bgo (b0 wr).drew hb4; replace kf := kf.drew.step hb4; have lf4 := kf.lt; clear f1; have f1 := kf.cell 1; simp only [List.getElem?_toArray, List.getElem?_cons_zero, List.getElem?_cons_succ] at f1)
            | (refine step_call 59 _ _ (by rfl) (by rfl) #[.slice va (24 - p) (cl - p), .int .i64 n] (by rfl) ⟨_, _, Try.func59, by kernel_rfl, rfl⟩ (hO.out _ (hol.out.below (bal (b0 wr) (.cells #[.int .i64 0, .slice none 0 0, .slice none 0 0, .slice none 0 0, .bool false, .int .i64 0, .bool false, .int .i64 0, .bool false, .int .i64 0] 64)).drew)) ?_; rintro e w4 ⟨v4, rfl, ot, hb4⟩; refine ⟨_, rfl, ?_⟩; have hB : True := trivial; obtain ⟨y, hyt, hv, hoy⟩ := ot.tv; obtain ⟨ty, ⟨q1, q2, q3⟩, ⟨q4, q5, q6⟩, ⟨q7, q8, q9⟩⟩ := y; dsimp only at hyt; subst hyt; dsimp only [TV.val, txnV, SlV.val] at hv; subst hv; clear ot; replace hoy := hid hoy; have hbw : Below wr.heap.size wr w4 := bgo (bal (b0 wr) (.cells #[.int .i64 0, .slice none 0 0, .slice none 0 0, .slice none 0 0, .bool false, .int .i64 0, .bool false, .int .i64 0, .bool false, .int .i64 0] 64)).drew hb4; have kt4 := ((Blk.new wr #[.int .i64 0, .slice none 0 0, .slice none 0 0, .slice none 0 0, .bool false, .int .i64 0, .bool false, .int .i64 0, .bool false, .int .i64 0] 64).drew).step hb4; have lt4 := kt4.lt; replace kf := ((kf.alloc (.cells #[.int .i64 0, .slice none 0 0, .slice none 0 0, .slice none 0 0, .bool false, .int .i64 0, .bool false, .int .i64 0, .bool false, .int .i64 0] 64)).drew).step hb4; have lf4 := kf.lt; clear f1; have f1 := kf.cell 1; simp only [List.getElem?_toArray, List.getElem?_cons_zero, List.getElem?_cons_succ] at f1; have g0 := kt4.free 0; have j0 := kt4.cell 0; have g1 := kt4.free 1; have j1 := kt4.cell 1; have g2 := kt4.free 2; have j2 := kt4.cell 2; have g3 := kt4.free 3; have j3 := kt4.cell 3; have g4 := kt4.free 4; have j4 := kt4.cell 4; have g5 := kt4.free 5; have j5 := kt4.cell 5; have g6 := kt4.free 6; have j6 := kt4.cell 6; have g7 := kt4.free 7; have j7 := kt4.cell 7; have g8 := kt4.free 8; have j8 := kt4.cell 8; have g9 := kt4.free 9; have j9 := kt4.cell 9; simp only [List.getElem?_toArray, List.getElem?_cons_zero, List.getElem?_cons_succ] at j0 j1 j2 j3 j4 j5 j6 j7 j8 j9))
          · have hq := hA
            have hbW : Below wr.heap.size wr (w4.alloc (.cells #[.int .i64 ty.seq, .slice q1 q2 q3, .slice q4 q5 q6, .slice q7 q8 q9, .bool ty.h0.on, .int .i64 ty.h0.left, .bool ty.h1.on, .int .i64 ty.h1.left, .bool ty.h2.on, .int .i64 ty.h2.left] 64)) := bal hbw _
            have kfW := kf.alloc (.cells #[.int .i64 ty.seq, .slice q1 q2 q3, .slice q4 q5 q6, .slice q7 q8 q9, .bool ty.h0.on, .int .i64 ty.h0.left, .bool ty.h1.on, .int .i64 ty.h1.left, .bool ty.h2.on, .int .i64 ty.h2.left] 64)
            have ktW := Blk.new w4 #[.int .i64 ty.seq, .slice q1 q2 q3, .slice q4 q5 q6, .slice q7 q8 q9, .bool ty.h0.on, .int .i64 ty.h0.left, .bool ty.h1.on, .int .i64 ty.h1.left, .bool ty.h2.on, .int .i64 ty.h2.left] 64
            have hoyW : OTxn (wo.heap.size + 1) 93 3 (w4.alloc (.cells #[.int .i64 ty.seq, .slice q1 q2 q3, .slice q4 q5 q6, .slice q7 q8 q9, .bool ty.h0.on, .int .i64 ty.h0.left, .bool ty.h1.on, .int .i64 ty.h1.left, .bool ty.h2.on, .int .i64 ty.h2.left] 64)) _ _ := (hoy.out.mono (by show wo.heap.size + 1 ≤ wr.heap.size; omega)).below (bal (b0 w4) (.cells #[.int .i64 ty.seq, .slice q1 q2 q3, .slice q4 q5 q6, .slice q7 q8 q9, .bool ty.h0.on, .int .i64 ty.h0.left, .bool ty.h1.on, .int .i64 ty.h1.left, .bool ty.h2.on, .int .i64 ty.h2.left] 64))
            generalize w4.alloc (.cells #[.int .i64 ty.seq, .slice q1 q2 q3, .slice q4 q5 q6, .slice q7 q8 q9, .bool ty.h0.on, .int .i64 ty.h0.left, .bool ty.h1.on, .int .i64 ty.h1.left, .bool ty.h2.on, .int .i64 ty.h2.left] 64) = wf at hbW kfW ktW hoyW ⊢
            have noW : Below wo.heap.size wo wf := no.trans (hbW.mono (by omega))
            have kmr := km.step noW
            have hwf := hbW.size
            have lf := kfW.lt; have ltw := ktW.lt; have lm := kmr.lt
            have f0 := kfW.cell 0
            have x0 := ktW.cell 0; have x1 := ktW.cell 1; have x2 := ktW.cell 2; have x3 := ktW.cell 3; have x4 := ktW.cell 4; have x5 := ktW.cell 5; have x6 := ktW.cell 6; have x7 := ktW.cell 7; have x8 := ktW.cell 8; have x9 := ktW.cell 9
            simp only [List.getElem?_toArray, List.getElem?_cons_zero, List.getElem?_cons_succ] at f0 x0 x1 x2 x3 x4 x5 x6 x7 x8 x9
            have hox4 := hox1.below hbW
            have hxo4 := hid (fun x hx => (hxo.out x hx).below hbW)
            replace hoyW := hid hoyW
            clear f1 kf
            go_wp2_with (at_builtin; go_loud (refine wpList_push1 rfl _ _ _ rfl (wo.heap.size + 1) _ 10 128 tvC_flat elemTxn hox4 rfl ⟨ty, ⟨q1, q2, q3⟩, ⟨q4, q5, q6⟩, ⟨q7, q8, q9⟩⟩ rfl rfl ts.length hxl.out (by omega) (by omega) (by omega) ?_; intro a7 c7 w7 hown7 hbel7 hg7; have kf7 := kfW.below hbel7 (by omega); have km7 := kmr.below hbel7 (by omega); have no7 := noW.trans (hbel7.mono (by omega)); have y0 := kf7.cell 0; have y1 := kf7.cell 1; have y2 := kf7.cell 2; have u0 := kf7.free 0; have u1 := kf7.free 1; have u2 := kf7.free 2; have e2 := km7.cell 2; simp only [List.getElem?_toArray, List.getElem?_cons_zero, List.getElem?_cons_succ] at y0 y1 y2 e2))
            have hp7 := OTxns.pushed hox4 hxo4.out hoyW.out (by decide) (by decide) hown7 hg7
            rw [hxm.out] at hp7
            have oz := (((hp7.setCell (p := ⟨wo.heap.size, 0, none⟩) (by simp) (.slice a7 (ts.length + 1) c7)).setCell (p := ⟨wo.heap.size, 1, none⟩) (by simp) (.int .i64 (n + 1))).setCell (p := ⟨wo.heap.size, 2, none⟩) (by simp) (.int .i64 ((ma + ((p : Int) + mm)) % 24)))
            have kz := (((kf7.set 0 (.slice a7 (ts.length + 1) c7)).set 1 (.int .i64 (n + 1))).set 2 (.int .i64 ((ma + ((p : Int) + mm)) % 24)))
            have nz := (((no7.setCell (p := ⟨wo.heap.size, 0, none⟩) (by simp) (.slice a7 (ts.length + 1) c7)).setCell (p := ⟨wo.heap.size, 1, none⟩) (by simp) (.int .i64 (n + 1))).setCell (p := ⟨wo.heap.size, 2, none⟩) (by simp) (.int .i64 ((ma + ((p : Int) + mm)) % 24)))
            have sz : wo.heap.size + 1 ≤ w7.heap.size := by have := hbel7.size; omega
            replace oz := hid oz; replace kz := hid kz; replace nz := hid nz; replace sz := hid sz
            go_roundg (L.length - (p + mm))
            case measure => omega
            case rel =>
              have kzz : Blk (((w7.setCell ⟨wo.heap.size, 0, none⟩ (.slice a7 (ts.length + 1) c7)).setCell ⟨wo.heap.size, 1, none⟩ (.int .i64 (n + 1))).setCell ⟨wo.heap.size, 2, none⟩ (.int .i64 ((ma + ((p : Int) + mm)) % 24))) wo.heap.size #[.slice a7 (ts.length + 1) c7, .int .i64 (n + 1), .int .i64 ((ma + ((p + mm : Nat) : Int)) % 24)] 51 := by rw [show ((p + mm : Nat) : Int) = (p : Int) + mm from by omega]; exact kz.out
              refine ⟨p + mm, n + 1, ts ++ [ty], rfl, by omega, ?_, hgo2, by omega, by omega, ?_, _, oz.out, kzz, nz.out, by simpa using sz.out⟩
              · first | rfl | go_num
              · rw [List.length_append, List.length_singleton]; omega
          · have hq := hB
            have hbW : Below wr.heap.size wr ((((((((((w4.setCell ⟨wr.heap.size, 0, none⟩ (.int .i64 ty.seq)).setCell ⟨wr.heap.size, 1, none⟩ (.slice q1 q2 q3)).setCell ⟨wr.heap.size, 2, none⟩ (.slice q4 q5 q6)).setCell ⟨wr.heap.size, 3, none⟩ (.slice q7 q8 q9)).setCell ⟨wr.heap.size, 4, none⟩ (.bool ty.h0.on)).setCell ⟨wr.heap.size, 5, none⟩ (.int .i64 ty.h0.left)).setCell ⟨wr.heap.size, 6, none⟩ (.bool ty.h1.on)).setCell ⟨wr.heap.size, 7, none⟩ (.int .i64 ty.h1.left)).setCell ⟨wr.heap.size, 8, none⟩ (.bool ty.h2.on)).setCell ⟨wr.heap.size, 9, none⟩ (.int .i64 ty.h2.left)) := Wb.Below.setCells [(⟨wr.heap.size, 0, none⟩, .int .i64 ty.seq), (⟨wr.heap.size, 1, none⟩, .slice q1 q2 q3), (⟨wr.heap.size, 2, none⟩, .slice q4 q5 q6), (⟨wr.heap.size, 3, none⟩, .slice q7 q8 q9), (⟨wr.heap.size, 4, none⟩, .bool ty.h0.on), (⟨wr.heap.size, 5, none⟩, .int .i64 ty.h0.left), (⟨wr.heap.size, 6, none⟩, .bool ty.h1.on), (⟨wr.heap.size, 7, none⟩, .int .i64 ty.h1.left), (⟨wr.heap.size, 8, none⟩, .bool ty.h2.on), (⟨wr.heap.size, 9, none⟩, .int .i64 ty.h2.left)] _ hbw (by simp)
            have kfW : Blk ((((((((((w4.setCell ⟨wr.heap.size, 0, none⟩ (.int .i64 ty.seq)).setCell ⟨wr.heap.size, 1, none⟩ (.slice q1 q2 q3)).setCell ⟨wr.heap.size, 2, none⟩ (.slice q4 q5 q6)).setCell ⟨wr.heap.size, 3, none⟩ (.slice q7 q8 q9)).setCell ⟨wr.heap.size, 4, none⟩ (.bool ty.h0.on)).setCell ⟨wr.heap.size, 5, none⟩ (.int .i64 ty.h0.left)).setCell ⟨wr.heap.size, 6, none⟩ (.bool ty.h1.on)).setCell ⟨wr.heap.size, 7, none⟩ (.int .i64 ty.h1.left)).setCell ⟨wr.heap.size, 8, none⟩ (.bool ty.h2.on)).setCell ⟨wr.heap.size, 9, none⟩ (.int .i64 ty.h2.left)) wo.heap.size _ _ := Blk.setCells [(⟨wr.heap.size, 0, none⟩, .int .i64 ty.seq), (⟨wr.heap.size, 1, none⟩, .slice q1 q2 q3), (⟨wr.heap.size, 2, none⟩, .slice q4 q5 q6), (⟨wr.heap.size, 3, none⟩, .slice q7 q8 q9), (⟨wr.heap.size, 4, none⟩, .bool ty.h0.on), (⟨wr.heap.size, 5, none⟩, .int .i64 ty.h0.left), (⟨wr.heap.size, 6, none⟩, .bool ty.h1.on), (⟨wr.heap.size, 7, none⟩, .int .i64 ty.h1.left), (⟨wr.heap.size, 8, none⟩, .bool ty.h2.on), (⟨wr.heap.size, 9, none⟩, .int .i64 ty.h2.left)] _ kf (by simp; omega)
            have kw0 : Blk (w4.setCell ⟨wr.heap.size, 0, none⟩ (.int .i64 ty.seq)) wr.heap.size #[.int .i64 ty.seq, .slice none 0 0, .slice none 0 0, .slice none 0 0, .bool false, .int .i64 0, .bool false, .int .i64 0, .bool false, .int .i64 0] 64 := kt4.set 0 (.int .i64 ty.seq)
            have kw1 : Blk ((w4.setCell ⟨wr.heap.size, 0, none⟩ (.int .i64 ty.seq)).setCell ⟨wr.heap.size, 1, none⟩ (.slice q1 q2 q3)) wr.heap.size #[.int .i64 ty.seq, .slice q1 q2 q3, .slice none 0 0, .slice none 0 0, .bool false, .int .i64 0, .bool false, .int .i64 0, .bool false, .int .i64 0] 64 := kw0.set 1 (.slice q1 q2 q3)
            have kw2 : Blk (((w4.setCell ⟨wr.heap.size, 0, none⟩ (.int .i64 ty.seq)).setCell ⟨wr.heap.size, 1, none⟩ (.slice q1 q2 q3)).setCell ⟨wr.heap.size, 2, none⟩ (.slice q4 q5 q6)) wr.heap.size #[.int .i64 ty.seq, .slice q1 q2 q3, .slice q4 q5 q6, .slice none 0 0, .bool false, .int .i64 0, .bool false, .int .i64 0, .bool false, .int .i64 0] 64 := kw1.set 2 (.slice q4 q5 q6)
            have kw3 : Blk ((((w4.setCell ⟨wr.heap.size, 0, none⟩ (.int .i64 ty.seq)).setCell ⟨wr.heap.size, 1, none⟩ (.slice q1 q2 q3)).setCell ⟨wr.heap.size, 2, none⟩ (.slice q4 q5 q6)).setCell ⟨wr.heap.size, 3, none⟩ (.slice q7 q8 q9)) wr.heap.size #[.int .i64 ty.seq, .slice q1 q2 q3, .slice q4 q5 q6, .slice q7 q8 q9, .bool false, .int .i64 0, .bool false, .int .i64 0, .bool false, .int .i64 0] 64 := kw2.set 3 (.slice q7 q8 q9)
            have kw4 : Blk (((((w4.setCell ⟨wr.heap.size, 0, none⟩ (.int .i64 ty.seq)).setCell ⟨wr.heap.size, 1, none⟩ (.slice q1 q2 q3)).setCell ⟨wr.heap.size, 2, none⟩ (.slice q4 q5 q6)).setCell ⟨wr.heap.size, 3, none⟩ (.slice q7 q8 q9)).setCell ⟨wr.heap.size, 4, none⟩ (.bool ty.h0.on)) wr.heap.size #[.int .i64 ty.seq, .slice q1 q2 q3, .slice q4 q5 q6, .slice q7 q8 q9, .bool ty.h0.on, .int .i64 0, .bool false, .int .i64 0, .bool false, .int .i64 0] 64 := kw3.set 4 (.bool ty.h0.on)
            have kw5 : Blk ((((((w4.setCell ⟨wr.heap.size, 0, none⟩ (.int .i64 ty.seq)).setCell ⟨wr.heap.size, 1, none⟩ (.slice q1 q2 q3)).setCell ⟨wr.heap.size, 2, none⟩ (.slice q4 q5 q6)).setCell ⟨wr.heap.size, 3, none⟩ (.slice q7 q8 q9)).setCell ⟨wr.heap.size, 4, none⟩ (.bool ty.h0.on)).setCell ⟨wr.heap.size, 5, none⟩ (.int .i64 ty.h0.left)) wr.heap.size #[.int .i64 ty.seq, .slice q1 q2 q3, .slice q4 q5 q6, .slice q7 q8 q9, .bool ty.h0.on, .int .i64 ty.h0.left, .bool false, .int .i64 0, .bool false, .int .i64 0] 64 := kw4.set 5 (.int .i64 ty.h0.left)
            have kw6 : Blk (((((((w4.setCell ⟨wr.heap.size, 0, none⟩ (.int .i64 ty.seq)).setCell ⟨wr.heap.size, 1, none⟩ (.slice q1 q2 q3)).setCell ⟨wr.heap.size, 2, none⟩ (.slice q4 q5 q6)).setCell ⟨wr.heap.size, 3, none⟩ (.slice q7 q8 q9)).setCell ⟨wr.heap.size, 4, none⟩ (.bool ty.h0.on)).setCell ⟨wr.heap.size, 5, none⟩ (.int .i64 ty.h0.left)).setCell ⟨wr.heap.size, 6, none⟩ (.bool ty.h1.on)) wr.heap.size #[.int .i64 ty.seq, .slice q1 q2 q3, .slice q4 q5 q6, .slice q7 q8 q9, .bool ty.h0.on, .int .i64 ty.h0.left, .bool ty.h1.on, .int .i64 0, .bool false, .int .i64 0] 64 := kw5.set 6 (.bool ty.h1.on)
            have kw7 : Blk ((((((((w4.setCell ⟨wr.heap.size, 0, none⟩ (.int .i64 ty.seq)).setCell ⟨wr.heap.size, 1, none⟩ (.slice q1 q2 q3)).setCell ⟨wr.heap.size, 2, none⟩ (.slice q4 q5 q6)).setCell ⟨wr.heap.size, 3, none⟩ (.slice q7 q8 q9)).setCell ⟨wr.heap.size, 4, none⟩ (.bool ty.h0.on)).setCell ⟨wr.heap.size, 5, none⟩ (.int .i64 ty.h0.left)).setCell ⟨wr.heap.size, 6, none⟩ (.bool ty.h1.on)).setCell ⟨wr.heap.size, 7, none⟩ (.int .i64 ty.h1.left)) wr.heap.size #[.int .i64 ty.seq, .slice q1 q2 q3, .slice q4 q5 q6, .slice q7 q8 q9, .bool ty.h0.on, .int .i64 ty.h0.left, .bool ty.h1.on, .int .i64 ty.h1.left, .bool false, .int .i64 0] 64 := kw6.set 7 (.int .i64 ty.h1.left)
            have kw8 : Blk (((((((((w4.setCell ⟨wr.heap.size, 0, none⟩ (.int .i64 ty.seq)).setCell ⟨wr.heap.size, 1, none⟩ (.slice q1 q2 q3)).setCell ⟨wr.heap.size, 2, none⟩ (.slice q4 q5 q6)).setCell ⟨wr.heap.size, 3, none⟩ (.slice q7 q8 q9)).setCell ⟨wr.heap.size, 4, none⟩ (.bool ty.h0.on)).setCell ⟨wr.heap.size, 5, none⟩ (.int .i64 ty.h0.left)).setCell ⟨wr.heap.size, 6, none⟩ (.bool ty.h1.on)).setCell ⟨wr.heap.size, 7, none⟩ (.int .i64 ty.h1.left)).setCell ⟨wr.heap.size, 8, none⟩ (.bool ty.h2.on)) wr.heap.size #[.int .i64 ty.seq, .slice q1 q2 q3, .slice q4 q5 q6, .slice q7 q8 q9, .bool ty.h0.on, .int .i64 ty.h0.left, .bool ty.h1.on, .int .i64 ty.h1.left, .bool ty.h2.on, .int .i64 0] 64 := kw7.set 8 (.bool ty.h2.on)
            have ktW : Blk ((((((((((w4.setCell ⟨wr.heap.size, 0, none⟩ (.int .i64 ty.seq)).setCell ⟨wr.heap.size, 1, none⟩ (.slice q1 q2 q3)).setCell ⟨wr.heap.size, 2, none⟩ (.slice q4 q5 q6)).setCell ⟨wr.heap.size, 3, none⟩ (.slice q7 q8 q9)).setCell ⟨wr.heap.size, 4, none⟩ (.bool ty.h0.on)).setCell ⟨wr.heap.size, 5, none⟩ (.int .i64 ty.h0.left)).setCell ⟨wr.heap.size, 6, none⟩ (.bool ty.h1.on)).setCell ⟨wr.heap.size, 7, none⟩ (.int .i64 ty.h1.left)).setCell ⟨wr.heap.size, 8, none⟩ (.bool ty.h2.on)).setCell ⟨wr.heap.size, 9, none⟩ (.int .i64 ty.h2.left)) wr.heap.size #[.int .i64 ty.seq, .slice q1 q2 q3, .slice q4 q5 q6, .slice q7 q8 q9, .bool ty.h0.on, .int .i64 ty.h0.left, .bool ty.h1.on, .int .i64 ty.h1.left, .bool ty.h2.on, .int .i64 ty.h2.left] 64 := kw8.set 9 (.int .i64 ty.h2.left)
            clear kw0 kw1 kw2 kw3 kw4 kw5 kw6 kw7 kw8
            have hoyW : OTxn (wo.heap.size + 1) 93 3 ((((((((((w4.setCell ⟨wr.heap.size, 0, none⟩ (.int .i64 ty.seq)).setCell ⟨wr.heap.size, 1, none⟩ (.slice q1 q2 q3)).setCell ⟨wr.heap.size, 2, none⟩ (.slice q4 q5 q6)).setCell ⟨wr.heap.size, 3, none⟩ (.slice q7 q8 q9)).setCell ⟨wr.heap.size, 4, none⟩ (.bool ty.h0.on)).setCell ⟨wr.heap.size, 5, none⟩ (.int .i64 ty.h0.left)).setCell ⟨wr.heap.size, 6, none⟩ (.bool ty.h1.on)).setCell ⟨wr.heap.size, 7, none⟩ (.int .i64 ty.h1.left)).setCell ⟨wr.heap.size, 8, none⟩ (.bool ty.h2.on)).setCell ⟨wr.heap.size, 9, none⟩ (.int .i64 ty.h2.left)) _ _ := (OTxn.setCells [(⟨wr.heap.size, 0, none⟩, .int .i64 ty.seq), (⟨wr.heap.size, 1, none⟩, .slice q1 q2 q3), (⟨wr.heap.size, 2, none⟩, .slice q4 q5 q6), (⟨wr.heap.size, 3, none⟩, .slice q7 q8 q9), (⟨wr.heap.size, 4, none⟩, .bool ty.h0.on), (⟨wr.heap.size, 5, none⟩, .int .i64 ty.h0.left), (⟨wr.heap.size, 6, none⟩, .bool ty.h1.on), (⟨wr.heap.size, 7, none⟩, .int .i64 ty.h1.left), (⟨wr.heap.size, 8, none⟩, .bool ty.h2.on), (⟨wr.heap.size, 9, none⟩, .int .i64 ty.h2.left)] _ hoy.out (by simp [World.size_drew])).mono (by show wo.heap.size + 1 ≤ (wr.alloc (.cells #[.int .i64 0, .slice none 0 0, .slice none 0 0, .slice none 0 0, .bool false, .int .i64 0, .bool false, .int .i64 0, .bool false, .int .i64 0] 64)).heap.size; simp; omega)
            generalize ((((((((((w4.setCell ⟨wr.heap.size, 0, none⟩ (.int .i64 ty.seq)).setCell ⟨wr.heap.size, 1, none⟩ (.slice q1 q2 q3)).setCell ⟨wr.heap.size, 2, none⟩ (.slice q4 q5 q6)).setCell ⟨wr.heap.size, 3, none⟩ (.slice q7 q8 q9)).setCell ⟨wr.heap.size, 4, none⟩ (.bool ty.h0.on)).setCell ⟨wr.heap.size, 5, none⟩ (.int .i64 ty.h0.left)).setCell ⟨wr.heap.size, 6, none⟩ (.bool ty.h1.on)).setCell ⟨wr.heap.size, 7, none⟩ (.int .i64 ty.h1.left)).setCell ⟨wr.heap.size, 8, none⟩ (.bool ty.h2.on)).setCell ⟨wr.heap.size, 9, none⟩ (.int .i64 ty.h2.left)) = wf at hbW kfW ktW hoyW ⊢
            have noW : Below wo.heap.size wo wf := no.trans (hbW.mono (by omega))
            have kmr := km.step noW
            have hwf := hbW.size
            have lf := kfW.lt; have ltw := ktW.lt; have lm := kmr.lt
            have f0 := kfW.cell 0
            have x0 := ktW.cell 0; have x1 := ktW.cell 1; have x2 := ktW.cell 2; have x3 := ktW.cell 3; have x4 := ktW.cell 4; have x5 := ktW.cell 5; have x6 := ktW.cell 6; have x7 := ktW.cell 7; have x8 := ktW.cell 8; have x9 := ktW.cell 9
            simp only [List.getElem?_toArray, List.getElem?_cons_zero, List.getElem?_cons_succ] at f0 x0 x1 x2 x3 x4 x5 x6 x7 x8 x9
            have hox4 := hox1.below hbW
            have hxo4 := hid (fun x hx => (hxo.out x hx).below hbW)
            replace hoyW := hid hoyW
            clear f1 kf
            go_wp2_with (at_builtin; go_loud (refine wpList_push1 rfl _ _ _ rfl (wo.heap.size + 1) _ 10 128 tvC_flat elemTxn hox4 rfl ⟨ty, ⟨q1, q2, q3⟩, ⟨q4, q5, q6⟩, ⟨q7, q8, q9⟩⟩ rfl rfl ts.length hxl.out (by omega) (by omega) (by omega) ?_; intro a7 c7 w7 hown7 hbel7 hg7; have kf7 := kfW.below hbel7 (by omega); have km7 := kmr.below hbel7 (by omega); have no7 := noW.trans (hbel7.mono (by omega)); have y0 := kf7.cell 0; have y1 := kf7.cell 1; have y2 := kf7.cell 2; have u0 := kf7.free 0; have u1 := kf7.free 1; have u2 := kf7.free 2; have e2 := km7.cell 2; simp only [List.getElem?_toArray, List.getElem?_cons_zero, List.getElem?_cons_succ] at y0 y1 y2 e2))
            have hp7 := OTxns.pushed hox4 hxo4.out hoyW.out (by decide) (by decide) hown7 hg7
            rw [hxm.out] at hp7
            have oz := (((hp7.setCell (p := ⟨wo.heap.size, 0, none⟩) (by simp) (.slice a7 (ts.length + 1) c7)).setCell (p := ⟨wo.heap.size, 1, none⟩) (by simp) (.int .i64 (n + 1))).setCell (p := ⟨wo.heap.size, 2, none⟩) (by simp) (.int .i64 ((ma + ((p : Int) + mm)) % 24)))
            have kz := (((kf7.set 0 (.slice a7 (ts.length + 1) c7)).set 1 (.int .i64 (n + 1))).set 2 (.int .i64 ((ma + ((p : Int) + mm)) % 24)))
            have nz := (((no7.setCell (p := ⟨wo.heap.size, 0, none⟩) (by simp) (.slice a7 (ts.length + 1) c7)).setCell (p := ⟨wo.heap.size, 1, none⟩) (by simp) (.int .i64 (n + 1))).setCell (p := ⟨wo.heap.size, 2, none⟩) (by simp) (.int .i64 ((ma + ((p : Int) + mm)) % 24)))
            have sz : wo.heap.size + 1 ≤ w7.heap.size := by have := hbel7.size; omega
            replace oz := hid oz; replace kz := hid kz; replace nz := hid nz; replace sz := hid sz
            go_roundg (L.length - (p + mm))
            case measure => omega
            case rel =>
              have kzz : Blk (((w7.setCell ⟨wo.heap.size, 0, none⟩ (.slice a7 (ts.length + 1) c7)).setCell ⟨wo.heap.size, 1, none⟩ (.int .i64 (n + 1))).setCell ⟨wo.heap.size, 2, none⟩ (.int .i64 ((ma + ((p : Int) + mm)) % 24))) wo.heap.size #[.slice a7 (ts.length + 1) c7, .int .i64 (n + 1), .int .i64 ((ma + ((p + mm : Nat) : Int)) % 24)] 51 := by rw [show ((p + mm : Nat) : Int) = (p : Int) + mm from by omega]; exact kz.out
              refine ⟨p + mm, n + 1, ts ++ [ty], rfl, by omega, ?_, hgo2, by omega, by omega, ?_, _, oz.out, kzz, nz.out, by simpa using sz.out⟩
              · first | rfl | go_num
              · rw [List.length_append, List.length_singleton]; omega
          · have hq := hB
            have hbW : Below wr.heap.size wr ((((((((((w4.setCell ⟨wr.heap.size, 0, none⟩ (.int .i64 ty.seq)).setCell ⟨wr.heap.size, 1, none⟩ (.slice q1 q2 q3)).setCell ⟨wr.heap.size, 2, none⟩ (.slice q4 q5 q6)).setCell ⟨wr.heap.size, 3, none⟩ (.slice q7 q8 q9)).setCell ⟨wr.heap.size, 4, none⟩ (.bool ty.h0.on)).setCell ⟨wr.heap.size, 5, none⟩ (.int .i64 ty.h0.left)).setCell ⟨wr.heap.size, 6, none⟩ (.bool ty.h1.on)).setCell ⟨wr.heap.size, 7, none⟩ (.int .i64 ty.h1.left)).setCell ⟨wr.heap.size, 8, none⟩ (.bool ty.h2.on)).setCell ⟨wr.heap.size, 9, none⟩ (.int .i64 ty.h2.left)) := Wb.Below.setCells [(⟨wr.heap.size, 0, none⟩, .int .i64 ty.seq), (⟨wr.heap.size, 1, none⟩, .slice q1 q2 q3), (⟨wr.heap.size, 2, none⟩, .slice q4 q5 q6), (⟨wr.heap.size, 3, none⟩, .slice q7 q8 q9), (⟨wr.heap.size, 4, none⟩, .bool ty.h0.on), (⟨wr.heap.size, 5, none⟩, .int .i64 ty.h0.left), (⟨wr.heap.size, 6, none⟩, .bool ty.h1.on), (⟨wr.heap.size, 7, none⟩, .int .i64 ty.h1.left), (⟨wr.heap.size, 8, none⟩, .bool ty.h2.on), (⟨wr.heap.size, 9, none⟩, .int .i64 ty.h2.left)] _ hbw (by simp)
            have kfW : Blk ((((((((((w4.setCell ⟨wr.heap.size, 0, none⟩ (.int .i64 ty.seq)).setCell ⟨wr.heap.size, 1, none⟩ (.slice q1 q2 q3)).setCell ⟨wr.heap.size, 2, none⟩ (.slice q4 q5 q6)).setCell ⟨wr.heap.size, 3, none⟩ (.slice q7 q8 q9)).setCell ⟨wr.heap.size, 4, none⟩ (.bool ty.h0.on)).setCell ⟨wr.heap.size, 5, none⟩ (.int .i64 ty.h0.left)).setCell ⟨wr.heap.size, 6, none⟩ (.bool ty.h1.on)).setCell ⟨wr.heap.size, 7, none⟩ (.int .i64 ty.h1.left)).setCell ⟨wr.heap.size, 8, none⟩ (.bool ty.h2.on)).setCell ⟨wr.heap.size, 9, none⟩ (.int .i64 ty.h2.left)) wo.heap.size _ _ := Blk.setCells [(⟨wr.heap.size, 0, none⟩, .int .i64 ty.seq), (⟨wr.heap.size, 1, none⟩, .slice q1 q2 q3), (⟨wr.heap.size, 2, none⟩, .slice q4 q5 q6), (⟨wr.heap.size, 3, none⟩, .slice q7 q8 q9), (⟨wr.heap.size, 4, none⟩, .bool ty.h0.on), (⟨wr.heap.size, 5, none⟩, .int .i64 ty.h0.left), (⟨wr.heap.size, 6, none⟩, .bool ty.h1.on), (⟨wr.heap.size, 7, none⟩, .int .i64 ty.h1.left), (⟨wr.heap.size, 8, none⟩, .bool ty.h2.on), (⟨wr.heap.size, 9, none⟩, .int .i64 ty.h2.left)] _ kf (by simp; omega)
            have kw0 : Blk (w4.setCell ⟨wr.heap.size, 0, none⟩ (.int .i64 ty.seq)) wr.heap.size #[.int .i64 ty.seq, .slice none 0 0, .slice none 0 0, .slice none 0 0, .bool false, .int .i64 0, .bool false, .int .i64 0, .bool false, .int .i64 0] 64 := kt4.set 0 (.int .i64 ty.seq)
            have kw1 : Blk ((w4.setCell ⟨wr.heap.size, 0, none⟩ (.int .i64 ty.seq)).setCell ⟨wr.heap.size, 1, none⟩ (.slice q1 q2 q3)) wr.heap.size #[.int .i64 ty.seq, .slice q1 q2 q3, .slice none 0 0, .slice none 0 0, .bool false, .int .i64 0, .bool false, .int .i64 0, .bool false, .int .i64 0] 64 := kw0.set 1 (.slice q1 q2 q3)
            have kw2 : Blk (((w4.setCell ⟨wr.heap.size, 0, none⟩ (.int .i64 ty.seq)).setCell ⟨wr.heap.size, 1, none⟩ (.slice q1 q2 q3)).setCell ⟨wr.heap.size, 2, none⟩ (.slice q4 q5 q6)) wr.heap.size #[.int .i64 ty.seq, .slice q1 q2 q3, .slice q4 q5 q6, .slice none 0 0, .bool false, .int .i64 0, .bool false, .int .i64 0, .bool false, .int .i64 0] 64 := kw1.set 2 (.slice q4 q5 q6)
            have kw3 : Blk ((((w4.setCell ⟨wr.heap.size, 0, none⟩ (.int .i64 ty.seq)).setCell ⟨wr.heap.size, 1, none⟩ (.slice q1 q2 q3)).setCell ⟨wr.heap.size, 2, none⟩ (.slice q4 q5 q6)).setCell ⟨wr.heap.size, 3, none⟩ (.slice q7 q8 q9)) wr.heap.size #[.int .i64 ty.seq, .slice q1 q2 q3, .slice q4 q5 q6, .slice q7 q8 q9, .bool false, .int .i64 0, .bool false, .int .i64 0, .bool false, .int .i64 0] 64 := kw2.set 3 (.slice q7 q8 q9)
            have kw4 : Blk (((((w4.setCell ⟨wr.heap.size, 0, none⟩ (.int .i64 ty.seq)).setCell ⟨wr.heap.size, 1, none⟩ (.slice q1 q2 q3)).setCell ⟨wr.heap.size, 2, none⟩ (.slice q4 q5 q6)).setCell ⟨wr.heap.size, 3, none⟩ (.slice q7 q8 q9)).setCell ⟨wr.heap.size, 4, none⟩ (.bool ty.h0.on)) wr.heap.size #[.int .i64 ty.seq, .slice q1 q2 q3, .slice q4 q5 q6, .slice q7 q8 q9, .bool ty.h0.on, .int .i64 0, .bool false, .int .i64 0, .bool false, .int .i64 0] 64 := kw3.set 4 (.bool ty.h0.on)
            have kw5 : Blk ((((((w4.setCell ⟨wr.heap.size, 0, none⟩ (.int .i64 ty.seq)).setCell ⟨wr.heap.size, 1, none⟩ (.slice q1 q2 q3)).setCell ⟨wr.heap.size, 2, none⟩ (.slice q4 q5 q6)).setCell ⟨wr.heap.size, 3, none⟩ (.slice q7 q8 q9)).setCell ⟨wr.heap.size, 4, none⟩ (.bool ty.h0.on)).setCell ⟨wr.heap.size, 5, none⟩ (.int .i64 ty.h0.left)) wr.heap.size #[.int .i64 ty.seq, .slice q1 q2 q3, .slice q4 q5 q6, .slice q7 q8 q9, .bool ty.h0.on, .int .i64 ty.h0.left, .bool false, .int .i64 0, .bool false, .int .i64 0] 64 := kw4.set 5 (.int .i64 ty.h0.left)
            have kw6 : Blk (((((((w4.setCell ⟨wr.heap.size, 0, none⟩ (.int .i64 ty.seq)).setCell ⟨wr.heap.size, 1, none⟩ (.slice q1 q2 q3)).setCell ⟨wr.heap.size, 2, none⟩ (.slice q4 q5 q6)).setCell ⟨wr.heap.size, 3, none⟩ (.slice q7 q8 q9)).setCell ⟨wr.heap.size, 4, none⟩ (.bool ty.h0.on)).setCell ⟨wr.heap.size, 5, none⟩ (.int .i64 ty.h0.left)).setCell ⟨wr.heap.size, 6, none⟩ (.bool ty.h1.on)) wr.heap.size #[.int .i64 ty.seq, .slice q1 q2 q3, .slice q4 q5 q6, .slice q7 q8 q9, .bool ty.h0.on, .int .i64 ty.h0.left, .bool ty.h1.on, .int .i64 0, .bool false, .int .i64 0] 64 := kw5.set 6 (.bool ty.h1.on)
            have kw7 : Blk ((((((((w4.setCell ⟨wr.heap.size, 0, none⟩ (.int .i64 ty.seq)).setCell ⟨wr.heap.size, 1, none⟩ (.slice q1 q2 q3)).setCell ⟨wr.heap.size, 2, none⟩ (.slice q4 q5 q6)).setCell ⟨wr.heap.size, 3, none⟩ (.slice q7 q8 q9)).setCell ⟨wr.heap.size, 4, none⟩ (.bool ty.h0.on)).setCell ⟨wr.heap.size, 5, none⟩ (.int .i64 ty.h0.left)).setCell ⟨wr.heap.size, 6, none⟩ (.bool ty.h1.on)).setCell ⟨wr.heap.size, 7, none⟩ (.int .i64 ty.h1.left)) wr.heap.size #[.int .i64 ty.seq, .slice q1 q2 q3, .slice q4 q5 q6, .slice q7 q8 q9, .bool ty.h0.on, .int .i64 ty.h0.left, .bool ty.h1.on, .int .i64 ty.h1.left, .bool false, .int .i64 0] 64 := kw6.set 7 (.int .i64 ty.h1.left)
            have kw8 : Blk (((((((((w4.setCell ⟨wr.heap.size, 0, none⟩ (.int .i64 ty.seq)).setCell ⟨wr.heap.size, 1, none⟩ (.slice q1 q2 q3)).setCell ⟨wr.heap.size, 2, none⟩ (.slice q4 q5 q6)).setCell ⟨wr.heap.size, 3, none⟩ (.slice q7 q8 q9)).setCell ⟨wr.heap.size, 4, none⟩ (.bool ty.h0.on)).setCell ⟨wr.heap.size, 5, none⟩ (.int .i64 ty.h0.left)).setCell ⟨wr.heap.size, 6, none⟩ (.bool ty.h1.on)).setCell ⟨wr.heap.size, 7, none⟩ (.int .i64 ty.h1.left)).setCell ⟨wr.heap.size, 8, none⟩ (.bool ty.h2.on)) wr.heap.size #[.int .i64 ty.seq, .slice q1 q2 q3, .slice q4 q5 q6, .slice q7 q8 q9, .bool ty.h0.on, .int .i64 ty.h0.left, .bool ty.h1.on, .int .i64 ty.h1.left, .bool ty.h2.on, .int .i64 0] 64 := kw7.set 8 (.bool ty.h2.on)
            have ktW : Blk ((((((((((w4.setCell ⟨wr.heap.size, 0, none⟩ (.int .i64 ty.seq)).setCell ⟨wr.heap.size, 1, none⟩ (.slice q1 q2 q3)).setCell ⟨wr.heap.size, 2, none⟩ (.slice q4 q5 q6)).setCell ⟨wr.heap.size, 3, none⟩ (.slice q7 q8 q9)).setCell ⟨wr.heap.size, 4, none⟩ (.bool ty.h0.on)).setCell ⟨wr.heap.size, 5, none⟩ (.int .i64 ty.h0.left)).setCell ⟨wr.heap.size, 6, none⟩ (.bool ty.h1.on)).setCell ⟨wr.heap.size, 7, none⟩ (.int .i64 ty.h1.left)).setCell ⟨wr.heap.size, 8, none⟩ (.bool ty.h2.on)).setCell ⟨wr.heap.size, 9, none⟩ (.int .i64 ty.h2.left)) wr.heap.size #[.int .i64 ty.seq, .slice q1 q2 q3, .slice q4 q5 q6, .slice q7 q8 q9, .bool ty.h0.on, .int .i64 ty.h0.left, .bool ty.h1.on, .int .i64 ty.h1.left, .bool ty.h2.on, .int .i64 ty.h2.left] 64 := kw8.set 9 (.int .i64 ty.h2.left)
            clear kw0 kw1 kw2 kw3 kw4 kw5 kw6 kw7 kw8
            have hoyW : OTxn (wo.heap.size + 1) 93 3 ((((((((((w4.setCell ⟨wr.heap.size, 0, none⟩ (.int .i64 ty.seq)).setCell ⟨wr.heap.size, 1, none⟩ (.slice q1 q2 q3)).setCell ⟨wr.heap.size, 2, none⟩ (.slice q4 q5 q6)).setCell ⟨wr.heap.size, 3, none⟩ (.slice q7 q8 q9)).setCell ⟨wr.heap.size, 4, none⟩ (.bool ty.h0.on)).setCell ⟨wr.heap.size, 5, none⟩ (.int .i64 ty.h0.left)).setCell ⟨wr.heap.size, 6, none⟩ (.bool ty.h1.on)).setCell ⟨wr.heap.size, 7, none⟩ (.int .i64 ty.h1.left)).setCell ⟨wr.heap.size, 8, none⟩ (.bool ty.h2.on)).setCell ⟨wr.heap.size, 9, none⟩ (.int .i64 ty.h2.left)) _ _ := (OTxn.setCells [(⟨wr.heap.size, 0, none⟩, .int .i64 ty.seq), (⟨wr.heap.size, 1, none⟩, .slice q1 q2 q3), (⟨wr.heap.size, 2, none⟩, .slice q4 q5 q6), (⟨wr.heap.size, 3, none⟩, .slice q7 q8 q9), (⟨wr.heap.size, 4, none⟩, .bool ty.h0.on), (⟨wr.heap.size, 5, none⟩, .int .i64 ty.h0.left), (⟨wr.heap.size, 6, none⟩, .bool ty.h1.on), (⟨wr.heap.size, 7, none⟩, .int .i64 ty.h1.left), (⟨wr.heap.size, 8, none⟩, .bool ty.h2.on), (⟨wr.heap.size, 9, none⟩, .int .i64 ty.h2.left)] _ hoy.out (by simp [World.size_drew])).mono (by show wo.heap.size + 1 ≤ (wr.alloc (.cells #[.int .i64 0, .slice none 0 0, .slice none 0 0, .slice none 0 0, .bool false, .int .i64 0, .bool false, .int .i64 0, .bool false, .int .i64 0] 64)).heap.size; simp; omega)
            generalize ((((((((((w4.setCell ⟨wr.heap.size, 0, none⟩ (.int .i64 ty.seq)).setCell ⟨wr.heap.size, 1, none⟩ (.slice q1 q2 q3)).setCell ⟨wr.heap.size, 2, none⟩ (.slice q4 q5 q6)).setCell ⟨wr.heap.size, 3, none⟩ (.slice q7 q8 q9)).setCell ⟨wr.heap.size, 4, none⟩ (.bool ty.h0.on)).setCell ⟨wr.heap.size, 5, none⟩ (.int .i64 ty.h0.left)).setCell ⟨wr.heap.size, 6, none⟩ (.bool ty.h1.on)).setCell ⟨wr.heap.size, 7, none⟩ (.int .i64 ty.h1.left)).setCell ⟨wr.heap.size, 8, none⟩ (.bool ty.h2.on)).setCell ⟨wr.heap.size, 9, none⟩ (.int .i64 ty.h2.left)) = wf at hbW kfW ktW hoyW ⊢
            have noW : Below wo.heap.size wo wf := no.trans (hbW.mono (by omega))
            have kmr := km.step noW
            have hwf := hbW.size
            have lf := kfW.lt; have ltw := ktW.lt; have lm := kmr.lt
            have f0 := kfW.cell 0
            have x0 := ktW.cell 0; have x1 := ktW.cell 1; have x2 := ktW.cell 2; have x3 := ktW.cell 3; have x4 := ktW.cell 4; have x5 := ktW.cell 5; have x6 := ktW.cell 6; have x7 := ktW.cell 7; have x8 := ktW.cell 8; have x9 := ktW.cell 9
            simp only [List.getElem?_toArray, List.getElem?_cons_zero, List.getElem?_cons_succ] at f0 x0 x1 x2 x3 x4 x5 x6 x7 x8 x9
            have hox4 := hox1.below hbW
            have hxo4 := hid (fun x hx => (hxo.out x hx).below hbW)
            replace hoyW := hid hoyW
            clear f1 kf
            go_wp2_with (at_builtin; go_loud (refine wpList_push1 rfl _ _ _ rfl (wo.heap.size + 1) _ 10 128 tvC_flat elemTxn hox4 rfl ⟨ty, ⟨q1, q2, q3⟩, ⟨q4, q5, q6⟩, ⟨q7, q8, q9⟩⟩ rfl rfl ts.length hxl.out (by omega) (by omega) (by omega) ?_; intro a7 c7 w7 hown7 hbel7 hg7; have kf7 := kfW.below hbel7 (by omega); have km7 := kmr.below hbel7 (by omega); have no7 := noW.trans (hbel7.mono (by omega)); have y0 := kf7.cell 0; have y1 := kf7.cell 1; have y2 := kf7.cell 2; have u0 := kf7.free 0; have u1 := kf7.free 1; have u2 := kf7.free 2; have e2 := km7.cell 2; simp only [List.getElem?_toArray, List.getElem?_cons_zero, List.getElem?_cons_succ] at y0 y1 y2 e2))
            have hp7 := OTxns.pushed hox4 hxo4.out hoyW.out (by decide) (by decide) hown7 hg7
            rw [hxm.out] at hp7
            have oz := (((hp7.setCell (p := ⟨wo.heap.size, 0, none⟩) (by simp) (.slice a7 (ts.length + 1) c7)).setCell (p := ⟨wo.heap.size, 1, none⟩) (by simp) (.int .i64 (n + 1))).setCell (p := ⟨wo.heap.size, 2, none⟩) (by simp) (.int .i64 ((ma + ((p : Int) + mm)) % 24)))
            have kz := (((kf7.set 0 (.slice a7 (ts.length + 1) c7)).set 1 (.int .i64 (n + 1))).set 2 (.int .i64 ((ma + ((p : Int) + mm)) % 24)))
            have nz := (((no7.setCell (p := ⟨wo.heap.size, 0, none⟩) (by simp) (.slice a7 (ts.length + 1) c7)).setCell (p := ⟨wo.heap.size, 1, none⟩) (by simp) (.int .i64 (n + 1))).setCell (p := ⟨wo.heap.size, 2, none⟩) (by simp) (.int .i64 ((ma + ((p : Int) + mm)) % 24)))
            have sz : wo.heap.size + 1 ≤ w7.heap.size := by have := hbel7.size; omega
            replace oz := hid oz; replace kz := hid kz; replace nz := hid nz; replace sz := hid sz
            go_roundg (L.length - (p + mm))
            case measure => omega
            case rel =>
              have kzz : Blk (((w7.setCell ⟨wo.heap.size, 0, none⟩ (.slice a7 (ts.length + 1) c7)).setCell ⟨wo.heap.size, 1, none⟩ (.int .i64 (n + 1))).setCell ⟨wo.heap.size, 2, none⟩ (.int .i64 ((ma + ((p : Int) + mm)) % 24))) wo.heap.size #[.slice a7 (ts.length + 1) c7, .int .i64 (n + 1), .int .i64 ((ma + ((p + mm : Nat) : Int)) % 24)] 51 := by rw [show ((p + mm : Nat) : Int) = (p : Int) + mm from by omega]; exact kz.out
              refine ⟨p + mm, n + 1, ts ++ [ty], rfl, by omega, ?_, hgo2, by omega, by omega, ?_, _, oz.out, kzz, nz.out, by simpa using sz.out⟩
              · first | rfl | go_num
              · rw [List.length_append, List.length_singleton]; omega
end Go.Proofs.Ytjhmfljlclajnab

namespace Go.Proofs.Ytjhmfljlclajnab
open Go.RowKit Wb
set_option linter.unusedSimpArgs false
set_option maxRecDepth 100000
theorem run_neq_hnds (w : World) (o0 o1 o2 : Bool) (l0 l1 l2 : Int) :
    (binOp .neq 62 (.agg #[.bool o0, .int .i64 l0, .bool o1, .int .i64 l1, .bool o2, .int .i64 l2]) (.agg #[.bool o0, .int .i64 l0, .bool o1, .int .i64 l1, .bool o2, .int .i64 l2])).run Try.prog w = .ok (.bool false) w := by
  obtain ⟨i, hi, _⟩ := info_parts (show (Try.prog.info? 61).map (fun i => (i.zero, i.size, i.bytes)) = some (some (.agg #[.bool false, .int .i64 0]), 2, 16) by kernel_rfl)
  have hc : Try.prog.cellsOf 61 = 2 := by kernel_rfl
  rw [run_neq_struct, run_equalIn_array w 9999 _ _ Try.underlying62 hi, hc, show List.range 3 = [0, 1, 2] from rfl]
  simp [Op.eqItems, go_sem]
end Go.Proofs.Ytjhmfljlclajnab

namespace Go.Proofs.Ytjhmfljlclajnab
open Go.RowKit Wb
set_option linter.unusedVariables false
set_option linter.unusedSimpArgs false
set_option maxRecDepth 100000
set_option maxHeartbeats 2000000

theorem ref_SameCopies (l : List Cpy) (v1 v2 : Value) (w : World) (h1 : RL cpyC w v1 l) (h2 : RL cpyC w v2 l) (hl : l.length ≤ 5864062014805) :
    Calls Try.prog 28 #[v1, v2] w fun e w' => e = .returned (.bool true) ∧ Below w.heap.size w w' := by
  obtain ⟨a, cap, rfl, _⟩ := h1.form
  obtain ⟨b, bcap, rfl, _⟩ := h2.form
  have hle : ((l.length : Int) != (l.length : Int)) = false := by simp
  replace h1 := hid h1
  replace h2 := hid h2
  go_enter Try.func28, Try.ntmps28
  go_wp2
  go_loopw [13] (fun i wr => ∃ k : Nat, k ≤ l.length ∧ i = .int .i64 k ∧ Below w.heap.size w wr) (fun i _ => l.length - (intOf i).toNat)
  case atStart => exact ⟨0, Nat.zero_le _, rfl, b0 w⟩
  case round =>
    obtain ⟨k, hk, rfl, nx⟩ := hrel
    by_cases hlt : k < l.length
    · obtain ⟨b1, o1, rfl, c0, c1⟩ := RL.at2 (fun x => .int .i64 x.block) (fun x => .string x.text) (fun _ => rfl) (h1.out.below nx) hlt
      obtain ⟨b2, o2, rfl, d0, d1⟩ := RL.at2 (fun x => .int .i64 x.block) (fun x => .string x.text) (fun _ => rfl) (h2.out.below nx) hlt
      generalize l[k] = x at *
      go_wp2
      go_quiet (fail)
      go_wp2
      go_roundw
      case rel => exact ⟨k + 1, by omega, by go_num, belowDrewN nx⟩
      case measure => simp [intOf]; omega
    · go_wp2
      go_ret
      exact ⟨rfl, nx⟩

theorem ref_SameTxn (t : Txn) (v1 v2 : Value) (w : World) (h1 : RTxn w v1 t) (h2 : RTxn w v2 t) :
    Calls Try.prog 37 #[v1, v2] w fun e w' => e = .returned (.bool true) ∧ Below w.heap.size w w' := by
  obtain ⟨vm, vd, vr, rfl, hm, hd, hr, n1, n2, n3⟩ := h1
  obtain ⟨vm2, vd2, vr2, rfl, hm2, hd2, hr2, _⟩ := h2
  unfold txnV
  have hSm := fun w h1 h2 => ref_SameCopies t.mt vm vm2 w h1 h2 n1
  have hSd := fun w h1 h2 => ref_SameCopies t.dt vd vd2 w h1 h2 n2
  obtain ⟨am, cm, rfl, _⟩ := hm.form
  obtain ⟨am2, cm2, rfl, _⟩ := hm2.form
  obtain ⟨ad, cd, rfl, _⟩ := hd.form
  obtain ⟨ad2, cd2, rfl, _⟩ := hd2.form
  obtain ⟨ar, cr, rfl, _⟩ := hr.form
  obtain ⟨ar2, cr2, rfl, _⟩ := hr2.form
  have hle : ((t.rev.length : Int) != (t.rev.length : Int)) = false := by simp
  replace hm := hid hm; replace hm2 := hid hm2; replace hd := hid hd; replace hd2 := hid hd2; replace hr := hid hr; replace hr2 := hid hr2; replace hSm := hid hSm; replace hSd := hid hSd
  obtain ⟨seq, mt, dt, rev, ⟨on0, l0⟩, ⟨on1, l1⟩, ⟨on2, l2⟩⟩ := t
  dsimp only at *
  have hH := fun w => run_neq_hnds w on0 on1 on2 l0 l1 l2
  have k0 := (Blk.new w #[.int .i64 seq, .slice am mt.length cm, .slice ad dt.length cd, .slice ar rev.length cr, .bool on0, .int .i64 l0, .bool on1, .int .i64 l1, .bool on2, .int .i64 l2] 64).alloc (.cells #[.int .i64 seq, .slice am2 mt.length cm2, .slice ad2 dt.length cd2, .slice ar2 rev.length cr2, .bool on0, .int .i64 l0, .bool on1, .int .i64 l1, .bool on2, .int .i64 l2] 64)
  have k1 : Blk ((w.alloc (.cells #[.int .i64 seq, .slice am mt.length cm, .slice ad dt.length cd, .slice ar rev.length cr, .bool on0, .int .i64 l0, .bool on1, .int .i64 l1, .bool on2, .int .i64 l2] 64)).alloc (.cells #[.int .i64 seq, .slice am2 mt.length cm2, .slice ad2 dt.length cd2, .slice ar2 rev.length cr2, .bool on0, .int .i64 l0, .bool on1, .int .i64 l1, .bool on2, .int .i64 l2] 64)) (w.heap.size + 1) #[.int .i64 seq, .slice am2 mt.length cm2, .slice ad2 dt.length cd2, .slice ar2 rev.length cr2, .bool on0, .int .i64 l0, .bool on1, .int .i64 l1, .bool on2, .int .i64 l2] 64 := Blk.newAt (by simp)
  have nx0 : Below w.heap.size w ((w.alloc (.cells #[.int .i64 seq, .slice am mt.length cm, .slice ad dt.length cd, .slice ar rev.length cr, .bool on0, .int .i64 l0, .bool on1, .int .i64 l1, .bool on2, .int .i64 l2] 64)).alloc (.cells #[.int .i64 seq, .slice am2 mt.length cm2, .slice ad2 dt.length cd2, .slice ar2 rev.length cr2, .bool on0, .int .i64 l0, .bool on1, .int .i64 l1, .bool on2, .int .i64 l2] 64)) := bal (bal (b0 w) _) _
  have hne : ¬ (w.heap.size = w.heap.size + 1) := by omega
  go_enter Try.func37, Try.ntmps37
  go_wp2_with (first
    | (go_at_call_of 28 (Value.slice am2 mt.length cm2); go_loud (refine (hSm.out _ (hm.out.below nx0) (hm2.out.below nx0)).mono ?_; rintro e w1 ⟨rfl, hb1⟩; replace k0 := k0.step hb1; replace k1 := k1.step hb1; have nx1 := bgo nx0 hb1; have l0' := k0.lt; have l1' := k1.lt; have c0 := k0.cell 2; have c1 := k1.cell 2; have c2 := k0.cell 3; have c3 := k1.cell 3; simp only [List.getElem?_toArray, List.getElem?_cons_zero, List.getElem?_cons_succ] at c0 c1 c2 c3))
    | (go_at_call_of 28 (Value.slice ad2 dt.length cd2); go_loud (refine (hSd.out _ (hd.out.below nx1) (hd2.out.below nx1)).mono ?_; rintro e w2 ⟨rfl, hb2⟩; replace k0 := k0.step hb2; replace k1 := k1.step hb2; have nx2 := bgo nx1 hb2; (try clear l0' l1' c0 c1 c2 c3); have l0' := k0.lt; have l1' := k1.lt; have c2 := k0.cell 3; have c3 := k1.cell 3; simp only [List.getElem?_toArray, List.getElem?_cons_zero, List.getElem?_cons_succ] at c2 c3)))
  clear l0' l1' c2 c3
  go_loopw [46] (fun i wr => ∃ k : Nat, k ≤ rev.length ∧ i = .int .i64 k ∧ Below w2.heap.size w2 wr) (fun i _ => rev.length - (intOf i).toNat)
  case atStart => exact ⟨0, Nat.zero_le _, rfl, b0 w2⟩
  case round =>
    obtain ⟨k, hk, rfl, nx⟩ := hrel
    have nx3 := bgo nx2 nx
    by_cases hlt : k < rev.length
    · obtain ⟨b1, o1, rfl, d0⟩ := RL.at1 (fun x => .int .i64 x) (fun _ => rfl) (hr.out.below nx3) hlt
      obtain ⟨b2, o2, rfl, d1⟩ := RL.at1 (fun x => .int .i64 x) (fun _ => rfl) (hr2.out.below nx3) hlt
      replace k0 := k0.step nx; replace k1 := k1.step nx
      have l0' := k0.lt; have l1' := k1.lt; have c2 := k0.cell 3; have c3 := k1.cell 3; simp only [List.getElem?_toArray, List.getElem?_cons_zero, List.getElem?_cons_succ] at c2 c3
      generalize rev[k] = x at *
      go_wp2
      go_quiet (fail)
      go_wp2
      go_roundw
      case rel => exact ⟨k + 1, by omega, by go_num, belowDrewN nx⟩
      case measure => simp [intOf]; omega
    · go_wp2
      go_ret
      exact ⟨rfl, nx3⟩
end Go.Proofs.Ytjhmfljlclajnab

namespace Go.Proofs.Ytjhmfljlclajnab
open Go.RowKit Wb
set_option linter.unusedVariables false
set_option linter.unusedSimpArgs false
set_option maxRecDepth 100000
set_option maxHeartbeats 4000000
theorem ref_SameFound (F : Fnd) (v1 v2 : Value) (w : World) (h1 : RFnd w v1 F) (h2 : RFnd w v2 F) :
    Calls Try.prog 25 #[v1, v2] w fun e w' => e = .returned (.bool true) ∧ Below w.heap.size w w' := by
  obtain ⟨t1, rfl, r1⟩ := h1
  obtain ⟨t2, rfl, r2⟩ := h2
  obtain ⟨txns, n, p⟩ := F
  dsimp only at *
  obtain ⟨a1, c1, rfl, hl⟩ := r1.form
  obtain ⟨a2, c2, rfl, _⟩ := r2.form
  have hS := fun t v1 v2 w h1 h2 => ref_SameTxn t v1 v2 w h1 h2
  have e1 : (n != n) = false := by simp
  have e2 : (p != p) = false := by simp
  have e3 : ((txns.length : Int) != (txns.length : Int)) = false := by simp
  replace r1 := hid r1; replace r2 := hid r2; replace hS := hid hS
  have k0 := (Blk.new w #[.slice a1 txns.length c1, .int .i64 n, .int .i64 p] 51).alloc (.cells #[.slice a2 txns.length c2, .int .i64 n, .int .i64 p] 51)
  have k1 : Blk ((w.alloc (.cells #[.slice a1 txns.length c1, .int .i64 n, .int .i64 p] 51)).alloc (.cells #[.slice a2 txns.length c2, .int .i64 n, .int .i64 p] 51)) (w.heap.size + 1) #[.slice a2 txns.length c2, .int .i64 n, .int .i64 p] 51 := Blk.newAt (by simp)
  have nx := bal (bal (b0 w) (.cells #[.slice a1 txns.length c1, .int .i64 n, .int .i64 p] 51)) (.cells #[.slice a2 txns.length c2, .int .i64 n, .int .i64 p] 51)
  have c0 := k0.cell 0; have c1' := k0.cell 1; have c2' := k0.cell 2; have d0 := k1.cell 0; have d1 := k1.cell 1; have d2 := k1.cell 2
  simp only [List.getElem?_toArray, List.getElem?_cons_zero, List.getElem?_cons_succ] at c0 c1' c2' d0 d1 d2
  go_enter Try.func25, Try.ntmps25
  go_wp2
  go_loopw [5, 30] (fun _ i wr => ∃ k : Nat, k ≤ txns.length ∧ i = .int .i64 k ∧ Blk wr w.heap.size #[.slice a1 txns.length c1, .int .i64 n, .int .i64 p] 51 ∧ Blk wr (w.heap.size + 1) #[.slice a2 txns.length c2, .int .i64 n, .int .i64 p] 51 ∧ Below w.heap.size w wr) (fun _ i _ => txns.length - (intOf i).toNat)
  case atStart => exact ⟨0, Nat.zero_le _, rfl, k0, k1, nx⟩
  case round =>
    clear k0 k1 nx c0 c1' c2' d0 d1 d2
    obtain ⟨k, hk, rfl, k0, k1, nx⟩ := hrel
    have c0 := k0.cell 0; have d0 := k1.cell 0
    simp only [List.getElem?_toArray, List.getElem?_cons_zero, List.getElem?_cons_succ] at c0 d0
    by_cases hlt : k < txns.length
    · obtain ⟨b1, o1, am, cm, ad, cd, ar, cr, rfl, hrt, x0, x1, x2, x3, x4, x5, x6, x7, x8, x9⟩ := (r1.out.below nx).at3 hlt
      obtain ⟨b2, o2, am2, cm2, ad2, cd2, ar2, cr2, rfl, hrt2, y0, y1, y2, y3, y4, y5, y6, y7, y8, y9⟩ := (r2.out.below nx).at3 hlt
      generalize txns[k] = t at *
      replace hrt := hid hrt; replace hrt2 := hid hrt2
      have l0 := k0.lt; have l1 := k1.lt
      have lb1 := World.block_lt_of_cell? _ _ x0; have lb2 := World.block_lt_of_cell? _ _ y0
      dsimp only at lb1 lb2
      go_wp2
      (refine wp_region_below (by kernel_rfl) (by kernel_rfl) ?_); (repeat (go_big_quiet_step ((first | (go_at_call 37; exact BW.call (hS.out t _ _ _ (hrt.out.below (BW.below _)) (hrt2.out.below (BW.below _)))))) )); refine wpQuiet_nil ?_; intro wq hw'; obtain ⟨⟨_, hb1⟩, rfl⟩ := hw'
      go_wp2
      go_roundw
      case rel => first | exact ⟨k + 1, by omega, by go_num, k0.step hb1, k1.step hb1, bgo nx hb1⟩ | ((repeat apply Exists.intro); refine ⟨⟨k + 1, by omega, ?_, k0.step hb1, k1.step hb1, bgo nx hb1⟩, rfl⟩; go_num)
      case measure => simp [intOf]; omega
    · go_wp2
      go_ret
      exact ⟨rfl, nx⟩
end Go.Proofs.Ytjhmfljlclajnab

namespace Go.Proofs.Ytjhmfljlclajnab
open Go.RowKit Wb
set_option linter.unusedVariables false
set_option linter.unusedSimpArgs false
set_option maxRecDepth 100000
set_option maxHeartbeats 4000000
theorem scanGo_len : ∀ (k : Nat) (r : List ByteArray) (n : Int), (scanGo k r n).1.length ≤ k
  | 0, r, n => Nat.le_refl _
  | k + 1, r, n => by
    unfold scanGo
    split
    · split
      · simp only [List.length_cons]
        have := scanGo_len k ‹_› (n + 1)
        omega
      · exact Nat.zero_le _
    · exact Nat.zero_le _
theorem scanF_len (d : Dsk) : (scanF d).txns.length ≤ 25 := by
  unfold scanF
  split
  · exact scanGo_len _ _ _
  · exact Nat.zero_le _
theorem OFnd.reads {base : Nat} {tt tc ti : TypeId} {w : World} {v : Value} {F : Fnd} (h : OFnd base tt tc ti w v F) (hl : F.txns.length ≤ 25) : RFnd w v F := by
  obtain ⟨vt, hv, ho⟩ := h
  exact ⟨vt, hv, ho.reads (by omega)⟩
theorem rdecodeSaid : RDecodeSaid := fun s w h => ref_DecodeO s w h
theorem txnAtSaid : TxnAtSaid := fun seq r0 v w h1 h2 h3 => ref_txnAt rdecodeSaid seq r0 v w h1 h2 h3
theorem law_RecoverScans (d : Dsk) (v : Value) (w : World) (hd : RDisk w v d) :
    Calls Try.prog 6 #[v] w fun e w' => e = .returned (.bool true) ∧ Below w.heap.size w w' := by
  have hC := fun w (h : RDisk w v d) => ref_CopyDisk d v w h
  have hS := fun v w (h : RDisk w v d) => scanSaid d v w h
  have hL := fun v w (h : RDisk w v d) => ref_ScanLog rdecodeSaid txnAtSaid d v w h
  have hF := fun v1 v2 w h1 h2 => ref_SameFound (scanF d) v1 v2 w h1 h2
  have hD := fun v1 v2 w h1 h2 => ref_SameDisk d v1 v2 w h1 h2
  have hT := fun w => law_tells' w
  have hsl := scanF_len d
  have hd0 := hd
  obtain ⟨vs, vw, rfl, hs, hw, n1, n2⟩ := hd
  obtain ⟨as_, cs, rfl, _⟩ := hs.form
  obtain ⟨aw, cw, rfl, _⟩ := hw.form
  have hrd : ∀ vt a b w', OFnd a 64 93 3 w' vt (scanF d) → b = scanF d → RFnd w' vt b := fun vt a b w' h e => by rw [e]; exact OFnd.reads h hsl
  generalize scanE d = sE at *
  generalize scanF d = F at *
  obtain ⟨txns, fn, fa⟩ := F
  dsimp only at *
  have k0 := Blk.new w #[.slice as_ d.safe.length cs, .slice aw d.writes.length cw] 25
  have nx := bal (b0 w) (.cells #[.slice as_ d.safe.length cs, .slice aw d.writes.length cw] 25)
  have c0 := k0.cell 0; have c1 := k0.cell 1
  simp only [List.getElem?_toArray, List.getElem?_cons_zero, List.getElem?_cons_succ] at c0 c1
  replace hd0 := hid hd0; replace hC := hid hC; replace hS := hid hS; replace hL := hid hL; replace hF := hid hF; replace hD := hid hD; replace hT := hid hT; replace hrd := hid hrd
  clear hs hw
  have e1 : (sE == sE) = true := by simp
  go_enter Try.func6, Try.ntmps6
  go_wp2_with (go_at_call 9; go_loud ((with_reducible refine (hC.out _ (hd0.out.below nx)).mono ?_); rintro e w1 ⟨vs1, vw1, rfl, os1, ow1, _, hb1⟩; obtain ⟨a1, c1', rfl⟩ := os1.form; obtain ⟨b1, e1', rfl⟩ := ow1.form; have hc1 : RDisk w1 (.agg #[.slice a1 d.safe.length c1', .slice b1 d.writes.length e1']) d := ⟨_, _, rfl, os1.reads, ow1.reads, n1, n2⟩; have kc := Blk.new w1 #[.slice a1 d.safe.length c1', .slice b1 d.writes.length e1'] 25; replace k0 := (k0.step hb1).alloc (.cells #[.slice a1 d.safe.length c1', .slice b1 d.writes.length e1'] 25); replace nx := bal (bgo nx hb1) (.cells #[.slice a1 d.safe.length c1', .slice b1 d.writes.length e1'] 25); replace hc1 := hid (hc1.below (bal (b0 w1) (.cells #[.slice a1 d.safe.length c1', .slice b1 d.writes.length e1'] 25))); clear os1 ow1 c0 c1; have d0 := kc.cell 0; have d1 := kc.cell 1; simp only [List.getElem?_toArray, List.getElem?_cons_zero, List.getElem?_cons_succ] at d0 d1))
  go_wp2_with (go_at_call 23; go_loud ((with_reducible refine (hS.out _ _ hc1.out).mono ?_); rintro e w2 ⟨v2, rfl, ofn, hb2⟩; have rf := hrd.out _ _ _ _ ofn rfl; obtain ⟨t2, rfl, rt2⟩ := rf; obtain ⟨ta2, tc2, rfl, _⟩ := rt2.form; have rf := hrd.out _ _ _ _ ofn rfl; replace rf := hid (rf.below (bal (b0 w2) (.cells #[.slice ta2 txns.length tc2, .int .i64 fn, .int .i64 fa] 51))); replace k0 := (k0.step hb2).alloc (.cells #[.slice ta2 txns.length tc2, .int .i64 fn, .int .i64 fa] 51); replace kc := (kc.step hb2).alloc (.cells #[.slice ta2 txns.length tc2, .int .i64 fn, .int .i64 fa] 51); replace nx := bal (bgo nx hb2) (.cells #[.slice ta2 txns.length tc2, .int .i64 fn, .int .i64 fa] 51); replace hc1 := hid ((hc1.out.below hb2).below (bal (b0 w2) (.cells #[.slice ta2 txns.length tc2, .int .i64 fn, .int .i64 fa] 51))); have ka := Blk.new w2 #[.slice ta2 txns.length tc2, .int .i64 fn, .int .i64 fa] 51; clear d0 d1 ofn rt2; have c0 := k0.cell 0; have c1 := k0.cell 1; simp only [List.getElem?_toArray, List.getElem?_cons_zero, List.getElem?_cons_succ] at c0 c1))
  go_wp2_with (go_at_call 24; go_loud ((with_reducible refine (hL.out _ _ (hd0.out.below nx)).mono ?_); rintro e w4 ⟨v4, rfl, ofn4, hb4⟩; have rf4 := hrd.out _ _ _ _ ofn4 rfl; obtain ⟨t4, rfl, rt4⟩ := rf4; obtain ⟨ta4, tc4, rfl, _⟩ := rt4.form; have rf4 := hrd.out _ _ _ _ ofn4 rfl; replace rf4 := hid (rf4.below (bal (b0 w4) (.cells #[.slice ta4 txns.length tc4, .int .i64 fn, .int .i64 fa] 51))); replace rf := hid ((rf.out.below hb4).below (bal (b0 w4) (.cells #[.slice ta4 txns.length tc4, .int .i64 fn, .int .i64 fa] 51))); replace k0 := (k0.step hb4).alloc (.cells #[.slice ta4 txns.length tc4, .int .i64 fn, .int .i64 fa] 51); replace kc := (kc.step hb4).alloc (.cells #[.slice ta4 txns.length tc4, .int .i64 fn, .int .i64 fa] 51); replace ka := (ka.step hb4).alloc (.cells #[.slice ta4 txns.length tc4, .int .i64 fn, .int .i64 fa] 51); replace nx := bal (bgo nx hb4) (.cells #[.slice ta4 txns.length tc4, .int .i64 fn, .int .i64 fa] 51); replace hc1 := hid ((hc1.out.below hb4).below (bal (b0 w4) (.cells #[.slice ta4 txns.length tc4, .int .i64 fn, .int .i64 fa] 51))); have kb := Blk.new w4 #[.slice ta4 txns.length tc4, .int .i64 fn, .int .i64 fa] 51; clear c0 c1 ofn4 rt4; have c0 := ka.cell 0; have c1 := ka.cell 1; have c2 := ka.cell 2; have d0 := kb.cell 0; have d1 := kb.cell 1; have d2 := kb.cell 2; simp only [List.getElem?_toArray, List.getElem?_cons_zero, List.getElem?_cons_succ] at c0 c1 c2 d0 d1 d2))
  go_wp2_with (go_at_call 25; go_loud ((with_reducible refine (hF.out _ _ _ rf.out rf4.out).mono ?_); rintro e w5 ⟨rfl, hb5⟩; replace k0 := k0.step hb5; replace kc := kc.step hb5; replace nx := bgo nx hb5; replace hc1 := hid (hc1.out.below hb5); clear c0 c1 c2 d0 d1 d2; have c0 := k0.cell 0; have c1 := k0.cell 1; have d0 := kc.cell 0; have d1 := kc.cell 1; simp only [List.getElem?_toArray, List.getElem?_cons_zero, List.getElem?_cons_succ] at c0 c1 d0 d1))
  go_wp2_with (go_at_call 12; go_loud ((with_reducible refine (hD.out _ _ _ hc1.out (hd0.out.below nx)).mono ?_); rintro e w6 ⟨rfl, hb6⟩; replace nx := bgo nx hb6))
  go_wp2_with (go_at_call 26; go_loud ((with_reducible refine (hT.out _).mono ?_); rintro e w7 ⟨rfl, hb7⟩; replace nx := bgo nx hb7))
  go_ret
  exact ⟨rfl, nx⟩
end Go.Proofs.Ytjhmfljlclajnab
