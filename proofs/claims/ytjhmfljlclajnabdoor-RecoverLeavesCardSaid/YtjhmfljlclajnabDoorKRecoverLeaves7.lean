/- The laws of going home and of coming into the log as a whole, of plain data. No program in sight. Rows of transactions that are owned, among what is read. No program in sight. Maps keyed by ints: what a block of a map holds, as a function. No program in sight. The walk of scan.Replay. What the table of types says of slices and their elements; further types. Where the fields of structs lie. The walks of seal's write, Newest, Check. The walks of txn.Get and of in. Rows of elements: what an insertion and a deletion leave. No program in sight. The walks of package slices: Clone, Index, Contains, IndexFunc. Rows of elements: copies onto owned rows, for the walk. No program in sight. The walks of package slices: DeleteFunc. The walk of seal.Newest. -/
import Derived.Test.YtjhmfljlclajnabDoorKRecoverLeaves6
import Derived.Test.YtjhmfljlclajnabDoorKRecoverLeaves1
import Derived.Test.YtjhmfljlclajnabDoorKRecoverLeaves4
import Derived.Test.YtjhmfljlclajnabDoorKRecoverLeaves3
import Derived.Test.YtjhmfljlclajnabDoorBase
import Derived.MapKept
import Derived.ChangeMaps5
import Derived.Carry
import Derived.Maps.OwnOps
import Derived.Test.YtjhmfljlclajnabDoorKRecoverLeaves2
import Derived.Test.YtjhmfljlclajnabDoorKRecoverLeaves5
import Derived.Test.YtjhmfljlclajnabDoorKRecoverLeaves0
import Derived.Lib.SmallJoins
import Derived.Deep.CutBlock
import Derived.Deep.DeepCutAuto
import Derived.Deep.LoopGhost
set_option linter.unusedVariables false
set_option linter.unusedSimpArgs false
set_option linter.unusedVariables false
set_option linter.unusedSimpArgs false
namespace Wb
open Go Go.RowKit
/-! ### A block that was revoked last, or never copied -/
def copStep (b : Int) (c : Bool) (t : Txn) : Bool := (c || (getC t.mt b).isSome) && !inI t.rev b
def copB (l : List Txn) (b : Int) : Bool := l.foldl (copStep b) false
theorem copB_snoc (l : List Txn) (t : Txn) (b : Int) : copB (l ++ [t]) b = copStep b (copB l b) t := by simp [copB]
theorem copB_step {l : List Txn} {k : Nat} (hk : k < l.length) (b : Int) : copB (l.take (k + 1)) b = copStep b (copB (l.take k) b) l[k] := by rw [List.take_succ_eq_append_getElem hk, copB_snoc]
theorem copB_newest {l : List Txn} (hg : ∀ t ∈ l, goodT t = true) (b : Int) : copB l b = (newestB l b).isSome := by
  revert hg
  refine snoc_ind (p := fun l => (∀ t ∈ l, goodT t = true) → copB l b = (newestB l b).isSome) (fun _ => rfl) (fun l t ih hg => ?_) l
  rw [copB_snoc, newestB_back, ih (fun x hx => hg x (by simp [hx]))]
  unfold copStep
  cases h1 : getC t.mt b with
  | some s =>
    have g := goodT_of.1 (hg t (by simp))
    have h2 : inI t.rev b = false := by
      cases h3 : inI t.rev b with
      | false => rfl
      | true =>
        have h4 := (g.ap).1 b h3
        rw [hasB_get, h1] at h4
        cases h4.1
    rw [h2]; simp
  | none =>
    cases h3 : inI t.rev b <;> simp
theorem scan_clean {d : Dsk} (h : scanE (flushD d) = 0) : goodD d = true ∧ goodD (flushD d) = true ∧ (flushD d).writes = [] := by
  have h1 := (scanE_zero h).1
  by_cases hg : goodD d = true
  · exact ⟨hg, h1, flush_clean hg⟩
  · unfold flushD at h1
    rw [if_neg hg] at h1
    exact absurd h1 hg
theorem scan_bounds {d : Dsk} (h : scanE d = 0) : (0 ≤ (scanF d).at_ ∧ (scanF d).at_ < 24) ∧ (1 ≤ (scanF d).next ∧ (scanF d).next ≤ 2147483647) := by
  obtain ⟨hb1, hb2, hb3, hb4, hb5⟩ := scanE_zero h
  obtain ⟨pre, p1, p2, p3, p4, p5, p6, p7, p8⟩ := scan_parts h
  exact ⟨by rw [p6]; omega, by omega⟩
theorem leaves_pure {d : Dsk} {b : Nat} (hb : b < 12) (h : scanE (flushD d) = 0) (hg : ∀ t ∈ (scanF (flushD d)).txns, goodT t = true) :
    checkE (newestL (scanF (flushD d)).txns) (scanF (flushD d)).at_ (scanF (flushD d)).next = 0 ∧ (copB (scanF (flushD d)).txns b = true ∨ readD (flushD d) (25 + (b : Int)) = readD (runD (flushD d) (checkL (newestL (scanF (flushD d)).txns) (scanF (flushD d)).at_ (scanF (flushD d)).next)) (25 + (b : Int))) := by
  obtain ⟨_, hgd, hw⟩ := scan_clean h
  obtain ⟨ha, hq⟩ := scan_bounds h
  have g := newestL_copies hg
  obtain ⟨e1, e2⟩ := check_zero g ha hq
  obtain ⟨ho, hlen⟩ := chk_ok g ha hq
  refine ⟨e1, ?_⟩
  cases hc : copB (scanF (flushD d)).txns b with
  | true => exact .inl rfl
  | false =>
    right
    rw [copB_newest hg] at hc
    have := run_read_none hgd ho (by rw [hw, List.length_nil]; omega) (k := 25 + b) (by omega) (fun x hx hk2 ha2 => by
      rw [e2] at hx
      rcases List.mem_append.1 hx with hx | hx
      · rcases mem_home hx with rfl | ⟨c, hcm, rfl⟩
        · exact absurd rfl hk2
        · have ha3 : 25 + c.block = ((25 + b : Nat) : Int) := ha2
          have h1 := getC_of_mem ((copies_pw _).1 g).1 hcm
          rw [newestL_get hg] at h1
          have hcb : c.block = (b : Int) := by omega
          rw [hcb] at h1
          rw [h1] at hc
          cases hc
      · rcases List.mem_cons.1 hx with rfl | hx
        · have ha3 : (0 : Int) = ((25 + b : Nat) : Int) := ha2
          omega
        · obtain rfl := List.mem_singleton.1 hx
          exact absurd rfl hk2)
    have e : ((25 + b : Nat) : Int) = 25 + (b : Int) := by omega
    rw [e] at this
    exact this.symm
/-! ### Marks of that number or a later one -/
def laterAt (d : Dsk) (q : Int) (i : Nat) : Bool := decide (decE (readD d (1 + (i : Int))) = 0 ∧ q ≤ (decM (readD d (1 + (i : Int)))).seq)
def laterB (d : Dsk) (q : Int) : Bool := (List.range 24).any (laterAt d q)
theorem later_noCom {d : Dsk} {q : Int} (h : laterB d q = false) : noCom d q := by
  intro i hi x hx hc
  have := List.any_eq_false.1 h i (List.mem_range.2 hi)
  unfold laterAt at this
  simp only [decide_eq_true_eq, not_and] at this
  have h2 := hc.2.1
  exact this hc.1 (by omega)
/-- How many blocks of the log what was found takes. -/
def usedI (d : Dsk) (f : Fnd) : Int := if (f.at_ - (decM (readD d 0)).at_) % 24 = 0 ∧ 0 < f.txns.length then 24 else (f.at_ - (decM (readD d 0)).at_) % 24
theorem used_eq {d : Dsk} (h : scanE d = 0) : usedI d (scanF d) = usedN d := by
  obtain ⟨hb1, hb2, hb3, hb4, hb5⟩ := scanE_zero h
  obtain ⟨pre, p1, p2, p3, p4, p5, p6, p7, p8⟩ := scan_parts h
  unfold usedI
  have e : (decM (readD d 0)).at_ = supA d := rfl
  rw [e, p6]
  have hm : ((supA d + (usedN d : Int)) % 24 - supA d) % 24 = (usedN d : Int) % 24 := by omega
  rw [hm]
  by_cases hu : usedN d = 0
  · rw [if_neg]
    · omega
    · rintro ⟨_, h2⟩
      rw [p7.2 hu] at h2
      exact absurd h2 (by decide)
  · have ht : 0 < (scanF d).txns.length := List.length_pos_iff.2 fun h => hu (p7.1 h)
    by_cases h24 : usedN d = 24
    · rw [if_pos ⟨by omega, ht⟩]; omega
    · rw [if_neg (by omega)]; omega
theorem crash_run {d : Dsk} {l : List Stp} {x : Int} (hg : goodD d = true) (hw : d.writes = []) (ho : ∀ s ∈ l, stpOk s) (hl : l.length ≤ 200) (hx : 0 ≤ x) : crashE (runD d l) x = 0 := by
  have := (run_good l hg ho (by rw [hw, List.length_nil]; omega)).1
  unfold crashE
  rw [if_pos ⟨this, hx⟩]
/-- AS A WHOLE OR NOT AT ALL. -/
theorem whole_pure {d : Dsk} {t : Txn} {k : Nat} {x : Int} (h : scanE (flushD d) = 0) (hn : (scanF (flushD d)).next < 2147483646) (hl : laterB (flushD d) (scanF (flushD d)).next = false) (hq : t.seq = (scanF (flushD d)).next)
    (hc : comE ⟨(scanF (flushD d)).at_, usedI (flushD d) (scanF (flushD d))⟩ t = 0) (hk : k ≤ (comL ⟨(scanF (flushD d)).at_, usedI (flushD d) (scanF (flushD d))⟩ t).length) (hx : 0 ≤ x) :
    crashE (runD (flushD d) ((comL ⟨(scanF (flushD d)).at_, usedI (flushD d) (scanF (flushD d))⟩ t).take k)) x = 0 ∧
    scanE (crashD (runD (flushD d) ((comL ⟨(scanF (flushD d)).at_, usedI (flushD d) (scanF (flushD d))⟩ t).take k)) x) = 0 ∧
    (((scanF (crashD (runD (flushD d) ((comL ⟨(scanF (flushD d)).at_, usedI (flushD d) (scanF (flushD d))⟩ t).take k)) x)).txns = (scanF (flushD d)).txns ∧ k < (comL ⟨(scanF (flushD d)).at_, usedI (flushD d) (scanF (flushD d))⟩ t).length) ∨
     ((scanF (crashD (runD (flushD d) ((comL ⟨(scanF (flushD d)).at_, usedI (flushD d) (scanF (flushD d))⟩ t).take k)) x)).txns = (scanF (flushD d)).txns ++ [logOf t] ∧ (comL ⟨(scanF (flushD d)).at_, usedI (flushD d) (scanF (flushD d))⟩ t).length ≤ k + 1)) := by
  obtain ⟨_, hgd, hw⟩ := scan_clean h
  obtain ⟨ho, hlen⟩ := com_ok hc
  have hcr := crash_run (x := x) hgd hw (fun s hs => ho s (List.mem_of_mem_take (i := k) hs)) (by rw [List.length_take]; omega) hx
  have hL := comL_split hc
  have hL2 : (comL ⟨(scanF (flushD d)).at_, usedI (flushD d) (scanF (flushD d))⟩ t).length = (comA ⟨(scanF (flushD d)).at_, usedI (flushD d) (scanF (flushD d))⟩ t).length + 2 := by rw [hL]; simp
  have hcl := com_left hc hgd hw hk (Left.crash hcr)
  obtain ⟨e1, e2⟩ := com_scan h (later_noCom hl) hc rfl (used_eq h) hq (by omega) hcl
  refine ⟨hcr, e1, ?_⟩
  rcases e2 with ⟨f1, f2, _⟩ | ⟨f1, f2, _⟩
  · exact .inl ⟨by rw [f2], by omega⟩
  · exact .inr ⟨by rw [f2], by omega⟩
/-- WHAT IS PUT RIGHT TWICE IS PUT RIGHT ONCE. -/
structure Twice (d : Dsk) (k : Nat) (x : Int) (L : List Stp) (X Y : Dsk) : Prop where
  crash : crashE (runD d (L.take k)) x = 0
  scan : scanE X = 0
  next : (scanF X).next = (scanF d).next
  at_ : (scanF X).at_ = (scanF d).at_
  good : ∀ t ∈ (scanF X).txns, goodT t = true
  check : checkE (newestL (scanF X).txns) (scanF X).at_ (scanF X).next = 0
  home : ∀ c ∈ newestL (scanF d).txns, readD Y (25 + c.block) = c.text
  scan2 : scanE Y = 0
  txns2 : (scanF Y).txns = []
  next2 : (scanF Y).next = (scanF d).next
  at2 : (scanF Y).at_ = (scanF d).at_
  done : k = L.length → (scanF X).txns = []
theorem twice_pure {d : Dsk} {k : Nat} {x : Int} (h : scanE d = 0) (hgd : goodD d = true) (hw : d.writes = []) (hgt : ∀ t ∈ (scanF d).txns, goodT t = true) (hl : laterB d (scanF d).next = false)
    (hk : k ≤ (checkL (newestL (scanF d).txns) (scanF d).at_ (scanF d).next).length) (hx : 0 ≤ x) :
    Twice d k x (checkL (newestL (scanF d).txns) (scanF d).at_ (scanF d).next) (crashD (runD d ((checkL (newestL (scanF d).txns) (scanF d).at_ (scanF d).next).take k)) x)
      (runD (crashD (runD d ((checkL (newestL (scanF d).txns) (scanF d).at_ (scanF d).next).take k)) x) (checkL (newestL (scanF (crashD (runD d ((checkL (newestL (scanF d).txns) (scanF d).at_ (scanF d).next).take k)) x)).txns) (scanF (crashD (runD d ((checkL (newestL (scanF d).txns) (scanF d).at_ (scanF d).next).take k)) x)).at_ (scanF (crashD (runD d ((checkL (newestL (scanF d).txns) (scanF d).at_ (scanF d).next).take k)) x)).next)) := by
  obtain ⟨ha, hq⟩ := scan_bounds h
  have g := newestL_copies hgt
  obtain ⟨ho, hlen⟩ := chk_ok g ha hq
  have hsp := (check_zero g ha hq).2
  have hL2 : (checkL (newestL (scanF d).txns) (scanF d).at_ (scanF d).next).length = (homeS (newestL (scanF d).txns)).length + 2 := by rw [hsp]; simp
  have hcr := crash_run (x := x) hgd hw (fun s hs => ho s (List.mem_of_mem_take (i := k) hs)) (by rw [List.length_take]; omega) hx
  have hcl := chk_left g ha hq hgd hw hk (Left.crash hcr)
  obtain ⟨e1, e2, e3⟩ := chk_scan h (later_noCom hl) hcl
  generalize hX : crashD (runD d ((checkL (newestL (scanF d).txns) (scanF d).at_ (scanF d).next).take k)) x = X at *
  -- the second time, all of it
  have hn : (scanF X).next = (scanF d).next ∧ (scanF X).at_ = (scanF d).at_ := by
    rcases e3 with ⟨_, f2, _⟩ | ⟨_, f2, _⟩
    · rw [f2]; exact ⟨rfl, rfl⟩
    · rw [f2]; exact ⟨rfl, rfl⟩
  have hgX : ∀ t ∈ (scanF X).txns, goodT t = true := by
    rcases e3 with ⟨_, f2, _⟩ | ⟨_, f2, _⟩
    · rw [f2]; exact hgt
    · rw [f2]; intro t ht; cases ht
  have g2 := newestL_copies hgX
  have hz2 := check_zero g2 (a := (scanF X).at_) (q := (scanF X).next) (by rw [hn.2]; exact ha) (by rw [hn.1]; exact hq)
  obtain ⟨ho2, hlen2⟩ := chk_ok g2 (a := (scanF X).at_) (q := (scanF X).next) (by rw [hn.2]; exact ha) (by rw [hn.1]; exact hq)
  have hL3 : (checkL (newestL (scanF X).txns) (scanF X).at_ (scanF X).next).length = (homeS (newestL (scanF X).txns)).length + 2 := by rw [hz2.2]; simp
  have hrg := run_good _ hcl.good ho2 (by rw [hcl.clean, List.length_nil]; omega)
  have hY : Left (runD X ((checkL (newestL (scanF X).txns) (scanF X).at_ (scanF X).next).take (checkL (newestL (scanF X).txns) (scanF X).at_ (scanF X).next).length)) (runD X (checkL (newestL (scanF X).txns) (scanF X).at_ (scanF X).next)) := by
    rw [List.take_length]
    refine ⟨hrg.1, ?_, fun n hn => texts_last hrg.1 hn⟩
    rw [hz2.2]
    have e : homeS (newestL (scanF X).txns) ++ [wrS 0 (markS (superM (scanF X).next (scanF X).at_)), flushS] = (homeS (newestL (scanF X).txns) ++ [wrS 0 (markS (superM (scanF X).next (scanF X).at_))]) ++ [flushS] := by simp
    rw [e, runD_append, runD_cons, runD_nil]
    unfold stepD
    rw [if_pos (show flushS.kind = 2 from rfl)]
    refine flush_clean (run_good _ hcl.good (fun s hs => ho2 s (by rw [hz2.2]; rcases List.mem_append.1 hs with hs | hs <;> simp at hs ⊢ <;> simp [hs])) ?_).1
    rw [hcl.clean, List.length_nil]; simp; omega
  have hcl2 := chk_left g2 (a := (scanF X).at_) (q := (scanF X).next) (by rw [hn.2]; exact ha) (by rw [hn.1]; exact hq) hcl.good hcl.clean (Nat.le_refl _) hY
  obtain ⟨k1, k2, k3⟩ := chk_scan e1 (by rw [hn.1]; exact e2) hcl2
  have k4 := k3.resolve_left (by rintro ⟨h1, _⟩; omega)
  refine ⟨hcr, e1, hn.1, hn.2, hgX, hz2.1, fun c hc => ?_, k1, by rw [k4.2.1], by rw [k4.2.1]; exact hn.1, by rw [k4.2.1]; exact hn.2, fun hkl => ?_⟩
  · rcases e3 with ⟨_, f2, _⟩ | ⟨f1, f2, _⟩
    · exact hcl2.done (by omega) c (by rw [f2]; exact hc)
    · -- the super block was new: all was home before
      have hh := hcl.done (by omega) c hc
      have hb := cpy_ok g hc
      obtain ⟨b, hbb, hb12⟩ : ∃ b : Nat, c.block = b ∧ b < 12 := ⟨c.block.toNat, by omega, by omega⟩
      rw [hbb] at hh ⊢
      rcases hcl2.home b hb12 with e | ⟨y, hy, _⟩
      · rw [e]; exact hh
      · rw [f2] at hy
        have : newestL ([] : List Txn) = [] := rfl
        rw [this] at hy
        cases hy
  · rcases e3 with ⟨f1, _⟩ | ⟨_, f2, _⟩
    · omega
    · rw [f2]
theorem scanGo_len2 : ∀ (k : Nat) (r : List ByteArray) (n : Int), (scanGo k r n).1.length ≤ k
  | 0, r, n => Nat.le_refl _
  | k + 1, r, n => by
    unfold scanGo
    split
    · split
      · simp only [List.length_cons]
        have := scanGo_len2 k ‹_› (n + 1)
        omega
      · exact Nat.zero_le _
    · exact Nat.zero_le _
theorem scanF_len2 (d : Dsk) : (scanF d).txns.length ≤ 25 := by
  unfold scanF
  split
  · exact scanGo_len2 _ _ _
  · exact Nat.zero_le _
end Wb

set_option linter.unusedVariables false
set_option linter.unusedSimpArgs false
namespace Wb
open Go Go.RowKit
/-- Something read that lies behind the base. -/
def RdIn (base : Nat) (w : World) (r : Rd) : Prop := Sl w r.v r.n r.cs ∧ (r.cs = [] ∨ ∀ b, vblk r.v = some b → base ≤ b)
theorem Own.rdIn {α : Type} {f : α → List Value} {base : Nat} {e : TypeId} {c : Nat} {w : World} {v : Value} {l : List α} (ho : Own f base e c w v l) : RdIn base w (Rd.of f v l) := by
  refine ⟨ho.reads, .inr fun b hbv => ?_⟩
  obtain ⟨_, h2⟩ := ho
  rcases h2 with ⟨rfl, _⟩ | ⟨g, cap, cur, rfl, hbg, _⟩
  · cases hbv
  · cases hbv
    exact hbg
theorem St.addRs {S : List Nat} {w0 w : World} {L : List Ent} {R : List Rd} {base : Nat} (X : St S w0 w L R) (hL : ∀ e ∈ L, e.g < base) {Rs : List Rd} (h : ∀ r ∈ Rs, RdIn base w r) : St S w0 w L (Rs ++ R) := by
  induction Rs with
  | nil => exact X
  | cons r Rs ih =>
    obtain ⟨h1, h2⟩ := h r (.head _)
    refine (ih fun x hx => h x (.tail _ hx)).addR h1 ?_
    rcases h2 with h2 | h2
    · exact .inl h2
    · exact .inr fun b hb e he heq => by
        have := h2 b hb
        have := hL e he
        omega
/-- The readings of a row of transactions. -/
def txR (v : Value) (xs : List TV) : List Rd := Rd.of tvC v xs :: xs.flatMap fun x => [Rd.of cpyC x.m.val x.t.mt, Rd.of cpyC x.d.val x.t.dt, Rd.of intC x.r.val x.t.rev]
def TV.fits (x : TV) : Prop := x.t.mt.length ≤ 5864062014805 ∧ x.t.dt.length ≤ 5864062014805 ∧ x.t.rev.length ≤ 17592186044160
theorem OTxns.rdIn {base : Nat} {tt tc ti : TypeId} {w : World} {v : Value} {l : List Txn} (h : OTxns base tt tc ti w v l) : ∃ xs : List TV, xs.map (·.t) = l ∧ (∀ x ∈ xs, x.fits) ∧ ∀ r ∈ txR v xs, RdIn base w r := by
  obtain ⟨xs, h1, h2, h3⟩ := h
  refine ⟨xs, h2, fun x hx => ?_, fun r hr => ?_⟩
  · obtain ⟨_, _, _, _, _, _, _, n⟩ := h3 x hx
    exact n
  · rcases List.mem_cons.1 hr with rfl | hr
    · exact h1.rdIn
    · obtain ⟨x, hx, hr⟩ := List.mem_flatMap.1 hr
      obtain ⟨vm, vd, vr, hv, o1, o2, o3, _⟩ := h3 x hx
      simp only [TV.val, txnV, Value.agg.injEq, Array.mk.injEq, List.cons.injEq, and_true, true_and] at hv
      obtain ⟨e1, e2, e3⟩ := hv
      subst e1 e2 e3
      simp only [List.mem_cons, List.not_mem_nil, or_false] at hr
      rcases hr with rfl | rfl | rfl
      · exact o1.rdIn
      · exact o2.rdIn
      · exact o3.rdIn
theorem St.txns {S : List Nat} {w0 w : World} {L : List Ent} {R : List Rd} (X : St S w0 w L R) {v : Value} {xs : List TV} (hf : ∀ x ∈ xs, x.fits) (hl : xs.length ≤ 1099511627744) (h : ∀ r ∈ txR v xs, r ∈ R) : RTxns w v (xs.map (·.t)) := by
  refine ⟨xs, (X.rd _ (h _ (.head _))).1, rfl, fun x hx => ?_, hl⟩
  have hm := fun r hr => (X.rd r (h r (.tail _ (List.mem_flatMap.2 ⟨x, hx, hr⟩)))).1
  exact ⟨x.m.val, x.d.val, x.r.val, rfl, hm _ (.head _), hm _ (.tail _ (.head _)), hm _ (.tail _ (.tail _ (.head _))), hf x hx⟩
theorem St.addOTxns {S : List Nat} {w0 w w' : World} {L : List Ent} {R : List Rd} (X : St S w0 w L R) (hb : Below w.heap.size w w') {tt tc ti : TypeId} {v : Value} {l : List Txn} (h : OTxns w.heap.size tt tc ti w' v l) :
    ∃ xs : List TV, xs.map (·.t) = l ∧ (∀ x ∈ xs, x.fits) ∧ St S w0 w' L (txR v xs ++ R) := by
  obtain ⟨xs, h1, h2, h3⟩ := h.rdIn
  exact ⟨xs, h1, h2, (X.call hb).addRs (fun e he => (X.blk e he).lt) h3⟩
theorem St.dskM {S : List Nat} {w0 w : World} {L : List Ent} {R : List Rd} {as_ aw : Option Addr} {cs cw : Nat} {d : Dsk} (X : St S w0 w L R) (h3 : d.safe.length ≤ 8796093022208) (h4 : d.writes.length ≤ 5864062014805) (h : ∀ r ∈ dskR as_ cs aw cw d, r ∈ R) :
    RDisk w (.agg #[.slice as_ d.safe.length cs, .slice aw d.writes.length cw]) d := ⟨_, _, rfl, (X.rd _ (h _ (.head _))).1, (X.rd _ (h _ (.tail _ (.head _)))).1, h3, h4⟩
/-- The first of a list that is read. -/
theorem RL.take {α : Type} {f : α → List Value} {w : World} {a : Option Addr} {n cap : Nat} {l : List α} (h : RL f w (.slice a n cap) l) {k : Nat} (hk : k ≤ l.length) : RL f w (.slice a k cap) (l.take k) := by
  obtain ⟨a', cap', hv, h1, h2, h3⟩ := h
  simp only [Value.slice.injEq] at hv
  obtain ⟨rfl, rfl, rfl⟩ := hv
  have hl : (l.take k).length = k := by rw [List.length_take]; omega
  refine ⟨a, cap, by rw [hl], by omega, h2, ?_⟩
  have hp : l.flatMap f = (l.take k).flatMap f ++ (l.drop k).flatMap f := by rw [← List.flatMap_append, List.take_append_drop]
  rcases h3 with h3 | ⟨b, off, ha, hc⟩
  · rw [hp] at h3
    exact .inl (List.append_eq_nil_iff.1 h3).1
  · refine .inr ⟨b, off, ha, fun j u hj => hc j u ?_⟩
    have hlt : j < ((l.take k).flatMap f).length := (List.getElem?_eq_some_iff.1 hj).1
    rw [hp, List.getElem?_append_left hlt]; exact hj
end Wb

namespace Wb
open Go Go.RowKit Go.MapKept

/-- Block b is a map that holds f. -/
def IMap (w : World) (b : Nat) (f : Int → Option Value) : Prop :=
  ∃ es clock, w.heap[b]? = some (.map es clock) ∧ Stamped es clock ∧ (∀ x ∈ es.toList, IsKey (.int .i64) x.key) ∧ ∀ k v, f k = some v ↔ ∃ x ∈ es.toList, x.key = .int .i64 k ∧ x.val = v
section
variable {w w' : World} {b : Nat} {f : Int → Option Value} {P : Program} {t kt e : TypeId}
theorem IMap.lt (h : IMap w b f) : b < w.heap.size := by
  obtain ⟨es, c, h1, _⟩ := h
  exact (Array.getElem?_eq_some_iff.1 h1).1
theorem IMap.below {B : Nat} (h : IMap w b f) (hb : Below B w w') (hlt : b < B) : IMap w' b f := by
  obtain ⟨es, c, h1, r⟩ := h
  exact ⟨es, c, (hb.block b hlt).trans h1, r⟩
theorem IMap.step (h : IMap w b f) (hb : Below w.heap.size w w') : IMap w' b f := h.below hb h.lt
theorem IMap.drewN (h : IMap w b f) (n : Nat) : IMap (w.drewN n) b f := h
theorem IMap.drew (h : IMap w b f) : IMap w.drew b f := h
theorem IMap.alloc (h : IMap w b f) (o : Obj) : IMap (w.alloc o) b f := by
  have hl := h.lt
  obtain ⟨es, c, h1, r⟩ := h
  exact ⟨es, c, (heap_alloc_old w o hl).trans h1, r⟩
theorem IMap.set_other (h : IMap w b f) (p : Addr) (v : Value) (hne : b ≠ p.block) : IMap (w.setCell p v) b f := by
  obtain ⟨es, c, h1, r⟩ := h
  exact ⟨es, c, (Below.heap_setCell w p v b hne).trans h1, r⟩
theorem IMap.grown {row : Option Nat} (h : IMap w b f) (hg : w.grownBy w' row) (hne : some b ≠ row) : IMap w' b f := by
  have hl := h.lt
  obtain ⟨es, c, h1, r⟩ := h
  exact ⟨es, c, (hg.block b hl hne).trans h1, r⟩
theorem IMap.congr {g : Int → Option Value} (h : IMap w b f) (hfg : ∀ k, f k = g k) : IMap w b g := by
  obtain rfl : f = g := funext hfg
  exact h
theorem IMap.made (w : World) : IMap (w.alloc (.map #[] 0)) w.heap.size (fun _ => none) :=
  ⟨#[], 0, (MapKept.heap_alloc w _).1, stamped_empty 0, by simp, by simp⟩

theorem IMap.at_ {w : World} {b : Nat} {f : Int → Option Value} (h : IMap w b f) (k : Int) : ∃ es clock, w.heap[b]? = some (.map es clock) ∧
    ((f k = none ∧ Instr.findNow (.int .i64) (.int .i64 k) es.toList 0 = some none ∧ ∀ x ∈ es.toList, x.key ≠ .int .i64 k) ∨
     ∃ j x, Instr.findNow (.int .i64) (.int .i64 k) es.toList 0 = some (some (j, x.val)) ∧ es[j]? = some x ∧ x.key = .int .i64 k ∧ f k = some x.val) := by
  obtain ⟨es, c, h1, h2, h3, h4⟩ := h
  refine ⟨es, c, h1, ?_⟩
  rcases findNow_spec (d := .int .i64) (k := .int .i64 k) rfl es.toList 0 h3 with ⟨g1, g2⟩ | ⟨j, x, g1, g2, g3⟩
  · refine .inl ⟨?_, g1, g2⟩
    cases hf : f k with
    | none => rfl
    | some v =>
      obtain ⟨x, hx, hk, _⟩ := (h4 k v).1 hf
      exact absurd hk (g2 x hx)
  · rw [Nat.zero_add] at g1
    exact .inr ⟨j, x, g1, by simpa using g2, g3, (h4 k x.val).2 ⟨x, List.mem_of_getElem? g2, g3, rfl⟩⟩

/-- 'm[k]', 'v, ok := m[k]'. -/
theorem IMap.lookup (h : IMap w b f) (ht : P.underlying t = some (.map kt e)) (hk : P.underlying kt = some (.int .i64)) {z : Value} (hz : (zeroValue e).run P w = .ok z w) (k : Int) :
    (Instr.lookup t (.map (some b)) (.int .i64 k) false).run P w = .ok ((f k).getD z) w ∧
    (Instr.lookup t (.map (some b)) (.int .i64 k) true).run P w = .ok (.tuple #[(f k).getD z, .bool (f k).isSome]) w := by
  obtain ⟨es, c, h1, hh⟩ := h.at_ k
  have hc := fun n e' => run_checkKey (P := P) (w := w) hk (k := .int .i64 k) rfl e' n
  rcases hh with ⟨hf, g1, _⟩ | ⟨j, x, g1, g2, g3, hf⟩
  · have hfk := run_findKey (P := P) (w := w) hk g1
    rw [hf]
    constructor <;> simp [Instr.lookup, run_underlying ht, run_getObj_map h1, hc 9999, hfk, hz, Result.andThen]
  · have hfk := run_findKey (P := P) (w := w) hk g1
    rw [hf]
    constructor <;> simp [Instr.lookup, run_underlying ht, run_getObj_map h1, hc 9999, hfk, Result.andThen]

/-- A map that is nil. -/
theorem look_nil (ht : P.underlying t = some (.map kt e)) (hk : P.underlying kt = some (.int .i64)) {z : Value} (hz : (zeroValue e).run P w = .ok z w) (k : Int) :
    (Instr.lookup t (.map none) (.int .i64 k) false).run P w = .ok z w ∧ (Instr.lookup t (.map none) (.int .i64 k) true).run P w = .ok (.tuple #[z, .bool false]) w := by
  have hc := fun n e' => run_checkKey (P := P) (w := w) hk (k := .int .i64 k) rfl e' n
  have hfk := run_findKey (P := P) (w := w) (l := []) (k := .int .i64 k) (d := .int .i64) hk rfl
  constructor <;> simp [Instr.lookup, run_underlying ht, hc 9999, hfk, hz, Result.andThen]

/-- Nothing but block b has turned. -/
structure Turned (w w' : World) (b : Nat) : Prop where
  os : w'.os = w.os
  tape : w'.tape = w.tape
  output : w'.output = w.output
  size : w'.heap.size = w.heap.size
  block : ∀ i, i ≠ b → w'.heap[i]? = w.heap[i]?

theorem setBlock_turned {es : Array MapEntry} {c : Nat} (hb : w.heap[b]? = some (.map es c)) (o : Obj) : Turned w (ChangeMaps.setBlock w b o) b :=
  ⟨rfl, rfl, rfl, by simp [ChangeMaps.setBlock], fun i hi => ChangeMaps.heap_setBlock_other hb _ hi⟩
theorem Turned.blk (h : Turned w w' b) {g : Nat} {cs : Array Value} {ty : TypeId} (hg : Blk w g cs ty) (hne : g ≠ b) : Blk w' g cs ty := (h.block g hne).trans hg
theorem Turned.imap (h : Turned w w' b) {g : Nat} {f : Int → Option Value} (hg : IMap w g f) (hne : g ≠ b) : IMap w' g f := by
  obtain ⟨es, c, h1, r⟩ := hg
  exact ⟨es, c, (h.block g hne).trans h1, r⟩
theorem Turned.below (h : Turned w w' b) {W : World} {B : Nat} (hw : Below B W w) (hlt : B ≤ b) : Below B W w' :=
  ⟨h.os.trans hw.os, by rw [h.tape]; exact hw.tape, by rw [h.output]; exact hw.output, by rw [h.size]; exact hw.size, fun i hi => (h.block i (by omega)).trans (hw.block i hi)⟩
theorem Turned.grown (h : Turned w w' b) : w.grownBy w' (some b) := ⟨h.os, h.tape, h.output, by rw [h.size]; exact Nat.le_refl _, fun i hi hne => h.block i (fun hh => hne (by rw [hh]))⟩

/-- 'm[k] = v'. -/
theorem IMap.update (h : IMap w b f) (ht : P.underlying t = some (.map kt e)) (hk : P.underlying kt = some (.int .i64)) (k : Int) (v : Value) :
    ∃ w', (Instr.mapUpdate t (.map (some b)) (.int .i64 k) v).run P w = .ok () w' ∧ IMap w' b (fun x => if x = k then some v else f x) ∧ Turned w w' b := by
  obtain ⟨es, c, h1, h2, h3, h4⟩ := h
  have hc := fun n e' => run_checkKey (P := P) (w := w) hk (k := .int .i64 k) rfl e' n
  rcases findNow_spec (d := .int .i64) (k := .int .i64 k) rfl es.toList 0 h3 with ⟨g1, g2⟩ | ⟨j, x, g1, g2, g3⟩
  · have hfk := run_findKey (P := P) (w := w) hk g1
    refine ⟨ChangeMaps.setBlock w b (.map (es.push { key := .int .i64 k, val := v, born := c }) (c + 1)), ?_, ?_, setBlock_turned h1 _⟩
    · simp [Instr.mapUpdate, run_underlying ht, run_getObj_map h1, hc 9999, hfk, run_setObj_map _ h1, Result.andThen, ChangeMaps.setBlock]
    · refine ⟨_, _, ChangeMaps.heap_setBlock_same h1 _, stamped_push h2 g2, ?_, ?_⟩
      · intro y hy
        simp only [Array.toList_push, List.mem_append, List.mem_singleton] at hy
        rcases hy with hy | rfl
        · exact h3 y hy
        · rfl
      · intro q u
        simp only [Array.toList_push, List.mem_append, List.mem_singleton]
        by_cases hq : q = k
        · subst hq
          simp only [if_pos]
          constructor
          · intro hu
            cases hu
            exact ⟨_, .inr rfl, rfl, rfl⟩
          · rintro ⟨y, hy | rfl, e1, e2⟩
            · exact absurd e1 (g2 y hy)
            · simp at e2; rw [e2]
        · simp only [if_neg hq, h4 q u]
          constructor
          · rintro ⟨y, hy, e1, e2⟩
            exact ⟨y, .inl hy, e1, e2⟩
          · rintro ⟨y, hy | rfl, e1, e2⟩
            · exact ⟨y, hy, e1, e2⟩
            · simp at e1; exact absurd e1.symm hq
  · rw [Nat.zero_add] at g1
    have hj : es[j]? = some x := by simpa using g2
    have hfk := run_findKey (P := P) (w := w) hk g1
    have hkey : ∀ e', es[j]? = some e' → ({ e' with key := .int .i64 k, val := v } : MapEntry).key = e'.key := fun e' he' => by rw [hj] at he'; cases he'; exact g3.symm
    refine ⟨ChangeMaps.setBlock w b (.map (es.modify j fun e => { e with key := .int .i64 k, val := v }) c), ?_, ?_, setBlock_turned h1 _⟩
    · simp [Instr.mapUpdate, run_underlying ht, run_getObj_map h1, hc 9999, hfk, hj, g3, run_keyThatStays (d := .int .i64) (k := .int .i64 k) rfl, run_setObj_map _ h1, Result.andThen, ChangeMaps.setBlock]
    · have hst := stamped_modify h2 j (fun e => { e with key := .int .i64 k, val := v }) (fun _ _ => rfl) (fun e' _ he' => hkey e' he')
      refine ⟨_, _, ChangeMaps.heap_setBlock_same h1 _, hst, isKey_modify h3 _ _ hkey, ?_⟩
      have hmem : ∀ y, y ∈ (es.modify j fun e => { e with key := .int .i64 k, val := v }).toList ↔ (y = { x with key := .int .i64 k, val := v } ∨ ∃ i, i ≠ j ∧ es[i]? = some y) := by
        intro y
        rw [List.mem_iff_getElem?]
        simp only [Array.getElem?_toList, Array.getElem?_modify]
        constructor
        · rintro ⟨i, hi⟩
          by_cases hij : j = i
          · subst hij
            simp [hj] at hi
            exact .inl hi.symm
          · simp [hij] at hi
            exact .inr ⟨i, fun h => hij h.symm, hi⟩
        · rintro (rfl | ⟨i, hi, hy⟩)
          · exact ⟨j, by simp [hj]⟩
          · exact ⟨i, by simp [Ne.symm hi, hy]⟩
      have hun : ∀ i y, es[i]? = some y → y.key = .int .i64 k → i = j := by
        intro i y hi hy
        have hnd := h2.2.2
        have hi' : (es.toList.map (·.key))[i]? = some (.int .i64 k) := by simp [hi, hy]
        have hj' : (es.toList.map (·.key))[j]? = some (.int .i64 k) := by simp [hj, g3]
        have hil := (List.getElem?_eq_some_iff.1 hi').1
        exact (List.getElem?_inj hil hnd).1 (hi'.trans hj'.symm)
      intro q u
      by_cases hq : q = k
      · subst hq
        simp only [if_pos]
        constructor
        · intro hu
          cases hu
          exact ⟨_, (hmem _).2 (.inl rfl), rfl, rfl⟩
        · rintro ⟨y, hy, e1, e2⟩
          rcases (hmem y).1 hy with rfl | ⟨i, hi, hy⟩
          · simp at e2; rw [e2]
          · exact absurd (hun i y hy e1) hi
      · simp only [if_neg hq, h4 q u]
        constructor
        · rintro ⟨y, hy, e1, e2⟩
          obtain ⟨i, hi⟩ := List.mem_iff_getElem?.1 hy
          refine ⟨y, (hmem y).2 (.inr ⟨i, ?_, by simpa using hi⟩), e1, e2⟩
          rintro rfl
          rw [g2] at hi
          cases hi
          rw [g3] at e1
          simp at e1
          exact hq e1.symm
        · rintro ⟨y, hy, e1, e2⟩
          rcases (hmem y).1 hy with rfl | ⟨i, hi, hy⟩
          · simp at e1; exact absurd e1.symm hq
          · exact ⟨y, List.mem_iff_getElem?.2 ⟨i, by simpa using hy⟩, e1, e2⟩
end
end Wb

namespace Wb
open Go Go.RowKit
theorem IMap.own_ne {w : World} {b : Nat} {f : Int → Option Value} (h : IMap w b f) {α : Type} {g : α → List Value} {base : Nat} {e : TypeId} {c : Nat} {v : Value} {l : List α} (ho : Own g base e c w v l) : some b ≠ v.ownBlock := by
  intro hh
  obtain ⟨cur, hc⟩ := ho.cellsOf hh.symm
  obtain ⟨es, clk, h1, _⟩ := h
  rw [hc] at h1
  cases h1
end Wb
namespace Go.Proofs.YtjhmfljlclajnabDoor
open Go.RowKit Wb
set_option linter.unusedVariables false
set_option linter.unusedSimpArgs false
set_option maxRecDepth 100000
set_option maxHeartbeats 4000000

theorem scan_Replay (l : List Txn) (hg : ∀ t ∈ l, goodT t = true) (v : Value) (w : World) (h : RTxns w v l) :
    Calls Tryd.prog 28 #[v] w fun e w' => ∃ v', e = .returned v' ∧ Wb.Own cpyC w.heap.size 74 2 w' v' (newestL l) ∧ Below w.heap.size w w' := by
  obtain ⟨a, cap, rfl, hl⟩ := h.form
  have hmm := @run_makeMap Tryd.prog
  have hlk := fun (w : World) b f (im : IMap w b f) k => (im.lookup (P := Tryd.prog) Tryd.underlying112 Tryd.underlying3 (e := 3) (z := .int .i64 0) (by kernel_rfl) k).1
  have hlk2 := fun (w : World) b f (im : IMap w b f) k => (im.lookup (P := Tryd.prog) Tryd.underlying113 Tryd.underlying3 (e := 9) (z := .string ⟨#[]⟩) (by kernel_rfl) k).2
  have hup := fun (w : World) b f (im : IMap w b f) k v => im.update (P := Tryd.prog) Tryd.underlying112 Tryd.underlying3 k v
  have hup2 := fun (w : World) b f (im : IMap w b f) k v => im.update (P := Tryd.prog) Tryd.underlying113 Tryd.underlying3 k v
  have hgk := fun k (hk : k < l.length) => hg l[k] (List.getElem_mem hk)
  have hrs := fun k (hk : k < l.length) b => rho_step hk b
  have hrl := fun b => rho_le l l.length b
  have hts := fun r k (hk : k < l.length) b => txF_step hk r b
  have hfin := txF_newest hg
  have hvs := fun k => viewN_succ (newestB l) k
  have hvn := fun k => viewN_len (newestB l) k
  have hnl : newestL l = viewN (newestB l) 12 := rfl
  have hv0 : viewN (newestB l) 0 = [] := rfl
  have hr0 : ∀ b, (none : Option Value) = revV (rho l 0) b := fun b => rfl
  have ht0 : ∀ r b, (none : Option Value) = txtV (txF l r 0) b := fun r b => rfl
  rw [hnl]
  replace h := hid h; replace hlk := hid hlk; replace hlk2 := hid hlk2; replace hup := hid hup; replace hup2 := hid hup2; replace hgk := hid hgk; replace hrs := hid hrs; replace hts := hid hts; replace hfin := hid hfin; replace hvs := hid hvs; replace hvn := hid hvn; replace hv0 := hid hv0; replace hr0 := hid hr0; replace ht0 := hid ht0; replace hrl := hid hrl
  clear hnl hg
  go_enter Tryd.func28, Tryd.ntmps28
  go_wp2
  go_loopw [20] (fun i wr => ∃ k : Nat, k ≤ l.length ∧ i = .int .i64 k ∧ IMap wr w.heap.size (revV (rho l k)) ∧ Below w.heap.size w wr) (fun i _ => l.length - (intOf i).toNat)
  case atStart => exact ⟨0, Nat.zero_le _, rfl, (IMap.made w).congr hr0.out, bal (b0 w) _⟩
  case round =>
    obtain ⟨wo, rfl⟩ : ∃ wo : World, wo = wr := ⟨_, rfl⟩
    obtain ⟨k, hk, rfl, im, nx⟩ := hrel
    by_cases hlt : k < l.length
    · obtain ⟨b1, o1, am, cm, ad, cd, ar, cr, rfl, hrt, c0, c1, c2, c3, c4, c5, c6, c7, c8, c9⟩ := h.out.at3 hlt
      replace c0 := cell_below nx c0; replace c1 := cell_below nx c1; replace c2 := cell_below nx c2; replace c3 := cell_below nx c3; replace c4 := cell_below nx c4; replace c5 := cell_below nx c5; replace c6 := cell_below nx c6; replace c7 := cell_below nx c7; replace c8 := cell_below nx c8; replace c9 := cell_below nx c9
      have hstk := hrs.out k hlt
      generalize l[k] = t at *
      obtain ⟨vm', vd', vr', hv, hm, hd, hr, n1, n2, n3⟩ := hrt
      simp only [txnV, Value.agg.injEq, Array.mk.injEq, List.cons.injEq, and_true, true_and] at hv
      obtain ⟨rfl, rfl, rfl⟩ := hv
      have hj0 : ∀ b, revV (rho l k) b = revV (fun b => if inI (t.rev.take 0) b then k + 1 else rho l k b) b := fun b => rfl
      have hjs := fun j (hj : j < t.rev.length) b => inI_step (l := t.rev) (b := b) hj
      have hjn : ∀ b, revV (fun b => if inI (t.rev.take t.rev.length) b then k + 1 else rho l k b) b = revV (rho l (k + 1)) b := fun b => by
        unfold revV; rw [hstk b, List.take_length]
      generalize rho l k = g at *
      generalize hge : rho l (k + 1) = g' at *
      replace hge := hid hge; replace hr := hid hr; replace hj0 := hid hj0; replace hjs := hid hjs; replace hjn := hid hjn
      clear hstk hm hd
      have hk3 : k ≤ 1099511627744 := by omega
      go_wp2
      go_loopw [7, 28] (fun _ i wr => ∃ j : Nat, j ≤ t.rev.length ∧ i = .int .i64 j ∧ IMap wr w.heap.size (revV (fun b => if inI (t.rev.take j) b then k + 1 else g b)) ∧ Below w.heap.size w wr) (fun _ i _ => t.rev.length - (intOf i).toNat)
      case atStart => exact ⟨0, Nat.zero_le _, rfl, (im.congr hj0.out).alloc _, bal nx _⟩
      case round =>
        clear im nx c0 c1 c2 c3 c4 c5 c6 c7 c8 c9
        obtain ⟨j, hj, rfl, im, nx⟩ := hrel
        by_cases hlt2 : j < t.rev.length
        · obtain ⟨b3, o3, rfl, d0⟩ := RL.at1 (fun x => .int .i64 x) (fun _ => rfl) (hr.out.below nx) hlt2
          have hsj := hjs.out j hlt2
          generalize t.rev[j] = x at *
          obtain ⟨wu, hrun, imu, htu⟩ := hup.out wr _ _ im x (.int .i64 ((k : Int) + 1))
          have hsu := hid (imu.congr (g := revV (fun b => if inI (t.rev.take (j + 1)) b then k + 1 else g b)) (fun b => by
            unfold revV
            simp only [hsj b]
            by_cases hb : b = x
            · have e1 : (x == b) = true := beq_iff_eq.2 hb.symm
              rw [if_pos hb, e1, Bool.or_true]; simp
            · have e1 : (x == b) = false := beq_eq_false_iff_ne.2 (fun hh => hb hh.symm)
              rw [if_neg hb, e1, Bool.or_false]))
          clear imu hsj
          go_wp2
          go_roundw
          case rel => exact ⟨j + 1, by omega, by go_num, hsu.out, htu.below nx (Nat.le_refl _)⟩
          case measure => simp [intOf]; omega
        · obtain rfl : j = t.rev.length := by omega
          have im2 := hid (im.congr hjn.out)
          go_wp2
          go_roundw
          case rel => exact ⟨k + 1, by omega, by go_num, by rw [hge.out]; exact im2.out, nx⟩
          case measure => simp [intOf]; omega
    · obtain rfl : k = l.length := by omega
      have hr2 := hrl.out
      generalize hrr : rho l l.length = r at *
      replace hrr := hid hrr
      replace hr2 := hid hr2
      have imt := (IMap.made wo).congr (ht0.out r)
      have hts := hts.out r
      replace hts := hid hts
      have ltw := im.lt
      have im := im.alloc (.map #[] 0)
      have nx := bal nx (.map #[] 0)
      have hne : w.heap.size ≠ wo.heap.size := by omega
      obtain ⟨B, hB⟩ : ∃ B, wo.heap.size = B := ⟨_, rfl⟩
      rw [hB] at imt ltw hne
      go_wp2
      go_loopw [41] (fun i wr => ∃ k : Nat, k ≤ l.length ∧ i = .int .i64 k ∧ IMap wr w.heap.size (revV r) ∧ IMap wr B (txtV (txF l r k)) ∧ Below w.heap.size w wr) (fun i _ => l.length - (intOf i).toNat)
      case atStart => exact ⟨0, Nat.zero_le _, rfl, im, imt, nx⟩
      case round =>
        clear im imt nx
        obtain ⟨k, hk, rfl, im, imt, nx⟩ := hrel
        by_cases hlt : k < l.length
        · obtain ⟨b1, o1, am, cm, ad, cd, ar, cr, rfl, hrt, c0, c1, c2, c3, c4, c5, c6, c7, c8, c9⟩ := h.out.at3 hlt
          replace c0 := cell_below nx c0; replace c1 := cell_below nx c1; replace c2 := cell_below nx c2; replace c3 := cell_below nx c3; replace c4 := cell_below nx c4; replace c5 := cell_below nx c5; replace c6 := cell_below nx c6; replace c7 := cell_below nx c7; replace c8 := cell_below nx c8; replace c9 := cell_below nx c9
          have hstk := hts.out k hlt
          have hgt := hgk.out k hlt
          generalize l[k] = t at *
          obtain ⟨vm', vd', vr', hv, hm, hd, hr, n1, n2, n3⟩ := hrt
          simp only [txnV, Value.agg.injEq, Array.mk.injEq, List.cons.injEq, and_true, true_and] at hv
          obtain ⟨rfl, rfl, rfl⟩ := hv
          have hj0 : ∀ b, txtV (txF l r k) b = txtV (metaG (txF l r k) r k (t.mt.take 0)) b := fun b => rfl
          have hjs := fun j (hj : j < t.mt.length) b => metaG_step (txF l r k) r k hj b
          have hjn : ∀ b, txtV (metaG (txF l r k) r k (t.mt.take t.mt.length)) b = txtV (txF l r (k + 1)) b := fun b => by
            unfold txtV; rw [hstk b, List.take_length, metaG_good ((goodT_iff t).1 hgt).2.1]
          generalize hge : txF l r (k + 1) = g' at *
          generalize txF l r k = g at *
          replace hge := hid hge; replace hm := hid hm; replace hj0 := hid hj0; replace hjs := hid hjs; replace hjn := hid hjn
          clear hstk hgt hd hr
          go_wp2
          go_loopw [12, 49] (fun _ i wr => ∃ j : Nat, j ≤ t.mt.length ∧ i = .int .i64 j ∧ IMap wr w.heap.size (revV r) ∧ IMap wr B (txtV (metaG g r k (t.mt.take j))) ∧ Below w.heap.size w wr) (fun _ i _ => t.mt.length - (intOf i).toNat)
          case atStart => exact ⟨0, Nat.zero_le _, rfl, im.alloc _, (imt.congr hj0.out).alloc _, bal nx _⟩
          case round =>
            clear im imt nx c0 c1 c2 c3 c4 c5 c6 c7 c8 c9
            obtain ⟨j, hj, rfl, im, imt, nx⟩ := hrel
            by_cases hlt2 : j < t.mt.length
            · obtain ⟨b3, o3, rfl, d0, d1⟩ := RL.at2 (fun x => .int .i64 x.block) (fun x => .string x.text) (fun _ => rfl) (hm.out.below nx) hlt2
              have hsj := hjs.out j hlt2
              generalize t.mt[j] = x at *
              replace im := im.alloc (.cells #[.int .i64 x.block, .string x.text] 74)
              replace imt := imt.alloc (.cells #[.int .i64 x.block, .string x.text] 74)
              have nx' := bal nx (.cells #[.int .i64 x.block, .string x.text] 74)
              have hl1 := hlk.out _ _ _ im x.block
              rw [revV_get] at hl1
              by_cases hrk : r x.block ≤ k
              · obtain ⟨wu, hrun, imu, htu⟩ := hup2.out _ _ _ imt x.block (.string x.text)
                have hsu := hid (imu.congr (g := txtV (metaG g r k (t.mt.take (j + 1)))) (fun b => by
                  unfold txtV
                  rw [hsj b]
                  by_cases hb : b = x.block
                  · rw [if_pos hb, if_pos ⟨hb, by rw [hb]; exact hrk⟩]; rfl
                  · rw [if_neg hb, if_neg (fun hh => hb hh.1)]))
                have imr := hid (htu.imap im hne)
                have nxu := hid (htu.below nx' (by omega))
                clear imu hsj imt im
                go_wp2
                go_roundw
                case rel => exact ⟨j + 1, by omega, by go_num, imr.out, hsu.out, nxu.out⟩
                case measure => simp [intOf]; omega
              · have hsu := hid (imt.congr (g := txtV (metaG g r k (t.mt.take (j + 1)))) (fun b => by
                  unfold txtV
                  rw [hsj b]
                  by_cases hb : b = x.block
                  · rw [if_neg (fun hh => hrk (by rw [← hb]; exact hh.2))]
                  · rw [if_neg (fun hh => hb hh.1)]))
                have hrk2 : k < r x.block := by omega
                clear hsj
                go_wp2
                go_roundw
                case rel => exact ⟨j + 1, by omega, by go_num, im, hsu.out, nx'⟩
                case measure => simp [intOf]; omega
            · obtain rfl : j = t.mt.length := by omega
              have im2 := hid (imt.congr hjn.out)
              go_wp2
              go_roundw
              case rel => exact ⟨k + 1, by omega, by go_num, im, by rw [hge.out]; exact im2.out, nx⟩
              case measure => simp [intOf]; omega
        · obtain rfl : k = l.length := by omega
          replace imt := imt.congr (g := txtV (newestB l)) (fun b => by unfold txtV; rw [hfin.out b])
          clear im hr2 hts hrr hup hup2 hlk hrs hgk hrl hr0 ht0 hfin
          generalize hnb : newestB l = nb at *
          replace hnb := hid hnb
          go_wp2
          go_loopw [13, 66] (fun o i wr => ∃ k : Nat, k ≤ 12 ∧ i = .int .i64 k ∧ Wb.Own cpyC w.heap.size 74 2 wr o (viewN nb k) ∧ IMap wr B (txtV nb) ∧ Below w.heap.size w wr) (fun _ i _ => 12 - (intOf i).toNat)
          case atStart => exact ⟨0, by decide, rfl, by rw [hv0.out]; exact Own.nil _ _ _ _ _, imt, nx⟩
          case round =>
            clear imt nx
            obtain ⟨k, hk, rfl, hown, imt, nx⟩ := hrel
            by_cases hlt : k < 12
            · have hl2 := hlk2.out _ _ _ imt (k : Int)
              rw [txtV_get, txtV_some] at hl2
              have hs := hvs.out k
              have hn := hvn.out k
              generalize hvk : viewN nb (k + 1) = v1 at *
              generalize viewN nb k = v0 at *
              generalize nb (k : Int) = o at *
              replace hvk := hid hvk
              cases o with
              | none =>
                simp only [Option.map_none, Option.toList_none, List.append_nil] at hs
                simp only [Option.getD_none, Option.isSome_none] at hl2
                replace hs := hid hs
                go_wp2
                go_roundw
                case rel => exact ⟨k + 1, by omega, by go_num, by rw [hvk.out, hs.out]; exact hown, imt, nx⟩
                case measure => simp [intOf]; omega
              | some s =>
                simp only [Option.map_some, Option.toList_some] at hs
                simp only [Option.getD_some, Option.isSome_some] at hl2
                replace hs := hid hs
                have hne2 := imt.own_ne hown
                go_wp2_with (at_builtin; go_loud (refine wpList_push rfl _ _ _ rfl w.heap.size _ 2 24 cpyC_flat elemCpy hown rfl ⟨(k : Int), s⟩ rfl rfl (by omega) (by unfold maxLen; omega) nx.size ?_); intro v7 w7 hown7 hbel7 hg7)
                have imt7 := hid (imt.grown hg7 hne2)
                rw [← hs.out] at hown7
                go_wp2
                go_roundw
                case rel => exact ⟨k + 1, by omega, by go_num, by rw [hvk.out]; exact hown7, imt7.out, nx.trans hbel7⟩
                case measure => simp [intOf]; omega
            · obtain rfl : k = 12 := by omega
              go_wp2
              go_ret
              exact ⟨_, rfl, by rw [hnb.out]; exact hown, nx⟩
end Go.Proofs.YtjhmfljlclajnabDoor

namespace Go.Proofs.YtjhmfljlclajnabDoor
open Go.RowKit Wb
instance : SlT Tryd.prog 32 76 3 32 := ⟨Elem.mk' (z := .agg #[.int .i64 0, .int .i64 0, .string ⟨#[]⟩]) Tryd.underlying32 (by kernel_rfl) rfl, by decide, by decide, by decide⟩
instance : SlT Tryd.prog 24 74 2 24 := ⟨Elem.mk' (z := .agg #[.int .i64 0, .string ⟨#[]⟩]) Tryd.underlying24 (by kernel_rfl) rfl, by decide, by decide, by decide⟩
instance : SlT Tryd.prog 25 3 1 8 := ⟨Elem.mk' (z := .int .i64 0) Tryd.underlying25 (by kernel_rfl) rfl, by decide, by decide, by decide⟩
instance : SlT Tryd.prog 52 9 1 16 := ⟨Elem.mk' (z := .string ⟨#[]⟩) Tryd.underlying52 (by kernel_rfl) rfl, by decide, by decide, by decide⟩
instance : SlT Tryd.prog 79 92 2 16 := ⟨Elem.mk' (z := .agg #[.int .i64 0, .bool false]) Tryd.underlying79 (by kernel_rfl) rfl, by decide, by decide, by decide⟩
instance : SlT Tryd.prog 40 30 10 128 := ⟨Elem.mk' (z := .agg #[.int .i64 0, .slice none 0 0, .slice none 0 0, .slice none 0 0, .bool false, .int .i64 0, .bool false, .int .i64 0, .bool false, .int .i64 0]) Tryd.underlying40 (by kernel_rfl) rfl, by decide, by decide, by decide⟩
instance : OneT Tryd.prog 78 := ⟨⟨_, Tryd.underlying78, rfl⟩, by kernel_rfl⟩
instance : ZeroT Tryd.prog 78 [.nilFunc] := ⟨by kernel_rfl⟩
instance : OneT Tryd.prog 83 := ⟨⟨_, Tryd.underlying83, rfl⟩, by kernel_rfl⟩
instance : ZeroT Tryd.prog 83 [.nilFunc] := ⟨by kernel_rfl⟩
end Go.Proofs.YtjhmfljlclajnabDoor

namespace Go.Proofs.YtjhmfljlclajnabDoor
open Go.RowKit Wb
instance : FieldT Tryd.prog 30 0 0 := ⟨fun _ _ _ => by kernel_rfl⟩
instance : FieldT Tryd.prog 30 1 1 := ⟨fun _ _ _ => by kernel_rfl⟩
instance : FieldT Tryd.prog 30 2 2 := ⟨fun _ _ _ => by kernel_rfl⟩
instance : FieldT Tryd.prog 30 3 3 := ⟨fun _ _ _ => by kernel_rfl⟩
instance : FieldT Tryd.prog 30 4 4 := ⟨fun _ _ _ => by kernel_rfl⟩
instance : FieldT Tryd.prog 27 0 0 := ⟨fun _ _ _ => by kernel_rfl⟩
instance : FieldT Tryd.prog 27 1 1 := ⟨fun _ _ _ => by kernel_rfl⟩
instance : FieldT Tryd.prog 74 0 0 := ⟨fun _ _ _ => by kernel_rfl⟩
instance : FieldT Tryd.prog 74 1 1 := ⟨fun _ _ _ => by kernel_rfl⟩
instance : FieldT Tryd.prog 76 0 0 := ⟨fun _ _ _ => by kernel_rfl⟩
instance : FieldT Tryd.prog 76 1 1 := ⟨fun _ _ _ => by kernel_rfl⟩
instance : FieldT Tryd.prog 76 2 2 := ⟨fun _ _ _ => by kernel_rfl⟩
instance : FieldT Tryd.prog 23 0 0 := ⟨fun _ _ _ => by kernel_rfl⟩
instance : FieldT Tryd.prog 23 1 1 := ⟨fun _ _ _ => by kernel_rfl⟩
instance : FieldT Tryd.prog 60 0 0 := ⟨fun _ _ _ => by kernel_rfl⟩
instance : FieldT Tryd.prog 60 1 1 := ⟨fun _ _ _ => by kernel_rfl⟩
instance : FieldT Tryd.prog 60 2 2 := ⟨fun _ _ _ => by kernel_rfl⟩
instance : FieldT Tryd.prog 55 0 0 := ⟨fun _ _ _ => by kernel_rfl⟩
instance : FieldT Tryd.prog 55 1 1 := ⟨fun _ _ _ => by kernel_rfl⟩
instance : FieldT Tryd.prog 103 0 0 := ⟨fun _ _ _ => by kernel_rfl⟩
instance : FieldT Tryd.prog 103 1 1 := ⟨fun _ _ _ => by kernel_rfl⟩
end Go.Proofs.YtjhmfljlclajnabDoor

namespace Go.Proofs.YtjhmfljlclajnabDoor
open Go.RowKit Wb
set_option linter.unusedVariables false
set_option linter.unusedSimpArgs false
set_option maxRecDepth 100000
set_option maxHeartbeats 8000000
theorem seal_write (p : Int) (s : ByteArray) (w : World) :
    Calls Tryd.prog 35 #[.int .i64 p, .string s] w fun e w' => e = .returned (.agg #[.int .i64 1, .int .i64 p, .string s]) ∧ Below w.heap.size w w' := by
  have X := St.start [] w
  go_enter Tryd.func35, Tryd.ntmps35
  go_wp2_with (first
    | (refine at_mem rfl ?_; (first | (refine at_load rfl ?_; (first | (refine c_load1 rfl _ _ rfl rfl X (by repeat (first | exact ReadA.here rfl | apply ReadA.there)) ?_) | (refine c_loadN rfl _ _ rfl rfl X (by repeat (first | exact ReadB.here (Nat.le_of_ble_eq_true rfl) | apply ReadB.there)) ?_))) | (refine at_store rfl ?_; (first | (refine c_store1 rfl _ _ _ rfl rfl (by first | exact EvR.const _ | exact EvR.tmp rfl rfl) X rfl rfl (by repeat (first | exact PutA.here (Nat.le_of_ble_eq_true rfl) | apply PutA.there)) ?_; intro w X2; (try simp only [upd] at X2); replace X := X2; clear X2) | (refine c_storeN rfl _ _ _ rfl rfl rfl X rfl rfl (by repeat (first | exact PutA.here (Nat.le_of_ble_eq_true rfl) | apply PutA.there)) ?_; intro w X2; (try simp only [upd] at X2); replace X := X2; clear X2))) | (refine m_alloc rfl _ rfl X ?_; intro g w X2; (replace X := X2; clear X2)) | (refine m_box rfl _ _ rfl (by first | exact EvR.const _ | exact EvR.tmp rfl rfl) rfl X ?_; intro g w X2; (replace X := X2; clear X2))); (simp only [Act.put, List.setIfInBounds_toArray, List.set_cons_succ, List.set_cons_zero, List.drop_succ_cons, List.drop_zero, List.take_succ_cons, List.take_zero, Nat.reduceAdd])))
  exact m_ret1 rfl (.tmp rfl rfl) X (.head _) rfl rfl ⟨rfl, X.below⟩
end Go.Proofs.YtjhmfljlclajnabDoor

namespace Go.Proofs.YtjhmfljlclajnabDoor
open Go.RowKit Wb
set_option linter.unusedVariables false
set_option linter.unusedSimpArgs false
set_option maxRecDepth 100000
set_option maxHeartbeats 8000000
theorem txn_Get (l : List Cpy) (b : Int) (v : Value) (w : World) (h : RL cpyC w v l) (hl : l.length ≤ 5864062014805) :
    Calls Tryd.prog 15 #[v, .int .i64 b] w fun e w' => e = .returned (.tuple #[.string ((getC l b).getD ⟨#[]⟩), .bool (getC l b).isSome]) ∧ Below w.heap.size w w' := by
  obtain ⟨a, cap, rfl, _⟩ := h.form
  have hst := fun k (hk : k < l.length) => hasB_step (l := l) (b := b) hk
  have hft := fun k (hk : ¬ k < l.length) => hasB_full (l := l) (b := b) hk
  have hht := fun k (hk : k < l.length) (hn : hasB (l.take k) b = false) (hb : l[k].block = b) => getC_step hk hn hb
  have hno' := fun (hn : hasB l b = false) => getC_none hn
  generalize getC l b = g at *
  replace h := hid h; replace hst := hid hst; replace hft := hid hft; replace hht := hid hht; replace hno' := hid hno'
  go_enter Tryd.func15, Tryd.ntmps15
  go_wp2
  go_loopw [7, 10] (fun _ i wr => ∃ k : Nat, k ≤ l.length ∧ i = .int .i64 k ∧ Hid (hasB (l.take k) b = false) ∧ Below w.heap.size w wr) (fun _ i _ => l.length - (intOf i).toNat)
  case atStart => exact ⟨0, Nat.zero_le _, rfl, hid (by simp [hasB]), b0 w⟩
  case round =>
    obtain ⟨k, hk, rfl, hno, nx⟩ := hrel
    by_cases hlt : k < l.length
    · obtain ⟨b1, o1, rfl, c0, c1⟩ := RL.at2 (fun x => .int .i64 x.block) (fun x => .string x.text) (fun _ => rfl) (h.out.below nx) hlt
      by_cases hb : l[k].block = b
      · have hv := hht.out k hlt hno.out hb
        have e1 : (l[k].block == b) = true := beq_iff_eq.2 hb
        clear hb hno'
        generalize l[k] = x at *
        subst hv
        go_wp2
        go_ret2
        exact ⟨by simp, bal nx _⟩
      · have hs := hst.out k hlt
        have e1 : (l[k].block == b) = false := beq_eq_false_iff_ne.2 hb
        rw [e1, hno.out] at hs
        replace hs := hid hs
        clear hb
        generalize l[k] = x at *
        go_wp2
        go_roundw
        case rel => exact ⟨k + 1, by omega, by go_num, hs, bal nx _⟩
        case measure => simp [intOf]; omega
    · have hv := hno.out
      rw [hft.out k hlt] at hv
      have hg := hno'.out hv
      subst hg
      clear hv hno'
      go_wp2
      go_ret2
      exact ⟨rfl, nx⟩

end Go.Proofs.YtjhmfljlclajnabDoor

namespace Wb
open Go Go.RowKit
set_option linter.unusedVariables false
set_option linter.unusedSimpArgs false
section
variable {α : Type} {f : α → List Value} {base : Nat} {e : TypeId} {c : Nat} {w w' : World} {v : Value} {l : List α}
theorem flat_take (hf : ∀ x, (f x).length = c) : ∀ (l : List α) (i : Nat), i ≤ l.length → (l.flatMap f).take (i * c) = (l.take i).flatMap f
  | l, 0, _ => by simp
  | [], i + 1, h => by simp at h
  | x :: l, i + 1, h => by
    rw [List.flatMap_cons, List.take_succ_cons, List.flatMap_cons, List.take_append, List.take_of_length_le (by rw [hf, Nat.succ_mul]; omega), hf, show (i + 1) * c - c = i * c by rw [Nat.succ_mul]; omega, flat_take hf l i (by simpa using h)]
theorem flat_dropLen (hf : ∀ x, (f x).length = c) (l : List α) (i : Nat) : ((l.drop i).flatMap f).length = (l.length - i) * c := by
  rw [flat_len hf, List.length_drop]
theorem mul_split {n i c : Nat} (h : i ≤ n) : i * c + (n - i) * c = n * c := by rw [← Nat.add_mul]; congr 1; omega
/-- There is room: what stood from i on goes on by one place, then x is written. -/
theorem ins_room (hf : ∀ x, (f x).length = c) (L : List Value) (l : List α) (i cap : Nat) (x : α) (hL : L.length = cap * c) (ht : L.take (l.length * c) = l.flatMap f) (hi : i ≤ l.length) (hc : l.length + 1 ≤ cap) {L1 L2 : List Value}
    (h1 : L1 = L.take ((i + 1) * c) ++ (l.drop i).flatMap f ++ L.drop ((i + 1) * c + ((l.drop i).flatMap f).length)) (h2 : L2 = L1.take (i * c) ++ f x ++ L1.drop (i * c + (f x).length)) :
    L2.length = cap * c ∧ L2.take ((l.length + 1) * c) = (l.take i ++ x :: l.drop i).flatMap f := by
  have hx := hf x
  have hd := flat_dropLen hf l i
  have hm := mul_split (c := c) hi
  have hm2 : (l.length + 1) * c ≤ cap * c := Nat.mul_le_mul_right _ hc
  rw [Nat.succ_mul] at hm2
  have hsucc : (i + 1) * c = i * c + (f x).length := by rw [hx, Nat.succ_mul]
  rw [hsucc] at h1
  subst h1
  rw [seg2 L (i * c) (f x) ((l.drop i).flatMap f) (by rw [hx, hd, hL]; omega)] at h2
  subst h2
  have h3 : L.take (i * c) = (l.take i).flatMap f := by
    rw [← flat_take hf l i hi, ← ht, List.take_take, Nat.min_eq_left (by rw [← hm]; omega)]
  have h4 := flat_len hf (l.take i)
  rw [List.length_take, Nat.min_eq_left hi] at h4
  rw [h3]
  refine ⟨?_, ?_⟩
  · simp only [List.length_append, List.length_drop, h4, hx, hd, hL]
    omega
  · rw [List.flatMap_append, List.flatMap_cons, ← List.append_assoc]
    have h5 : ((l.take i).flatMap f ++ f x ++ (l.drop i).flatMap f).length = (l.length + 1) * c := by
      simp only [List.length_append, h4, hx, hd, Nat.succ_mul]
      omega
    rw [← h5]
    exact List.take_left
/-- There is none: a new row; x is written, then what stood from i on. -/
theorem ins_grow (hf : ∀ x, (f x).length = c) (Z : List Value) (l : List α) (i cap : Nat) (x : α) (hZ : Z.length = (cap - i) * c) (hi : i ≤ l.length) (hc : l.length + 1 ≤ cap) {L L1 L2 : List Value} (h0 : L = (l.take i).flatMap f ++ Z)
    (h1 : L1 = L.take (i * c) ++ f x ++ L.drop (i * c + (f x).length)) (h2 : L2 = L1.take ((i + 1) * c) ++ (l.drop i).flatMap f ++ L1.drop ((i + 1) * c + ((l.drop i).flatMap f).length)) :
    L2.length = cap * c ∧ L2.take ((l.length + 1) * c) = (l.take i ++ x :: l.drop i).flatMap f := by
  have hx := hf x
  have hd := flat_dropLen hf l i
  have hm := mul_split (c := c) hi
  have hm2 : (l.length + 1) * c ≤ cap * c := Nat.mul_le_mul_right _ hc
  rw [Nat.succ_mul] at hm2
  have hm3 := mul_split (c := c) (n := cap) (i := i) (by omega)
  have hsucc : (i + 1) * c = i * c + (f x).length := by rw [hx, Nat.succ_mul]
  have h4 := flat_len hf (l.take i)
  rw [List.length_take, Nat.min_eq_left hi] at h4
  have hL : L.length = cap * c := by rw [h0, List.length_append, h4, hZ]; exact hm3
  rw [hsucc] at h2
  subst h1
  rw [seg3 L (i * c) (f x) ((l.drop i).flatMap f) (by rw [hx, hd, hL]; omega)] at h2
  subst h2
  have h3 : L.take (i * c) = (l.take i).flatMap f := by
    rw [h0, ← h4]
    exact List.take_left
  rw [h3]
  refine ⟨?_, ?_⟩
  · simp only [List.length_append, List.length_drop, h4, hx, hd, hL]
    omega
  · rw [List.flatMap_append, List.flatMap_cons, ← List.append_assoc]
    have h5 : ((l.take i).flatMap f ++ f x ++ (l.drop i).flatMap f).length = (l.length + 1) * c := by
      simp only [List.length_append, h4, hx, hd, Nat.succ_mul]
      omega
    rw [← h5]
    exact List.take_left
/-- The cells of a row from element i on. -/
theorem row_from (hf : ∀ x, (f x).length = c) {g : Nat} {cur : Array Value} (hk : Blk w g cur e) (ht : cur.toList.take (l.length * c) = l.flatMap f) {i : Nat} (hi : i ≤ l.length) :
    ∀ j u, ((l.drop i).flatMap f)[j]? = some u → w.cell? ⟨g, i * c + j, none⟩ = some u := by
  intro j u hj
  have hd := flat_dropLen hf l i
  have hm := mul_split (c := c) hi
  have hlt : j < ((l.drop i).flatMap f).length := (List.getElem?_eq_some_iff.1 hj).1
  have h4 := flat_len hf (l.take i)
  rw [List.length_take, Nat.min_eq_left hi] at h4
  have h5 : (l.flatMap f)[i * c + j]? = some u := by
    conv => lhs; rw [← List.take_append_drop i l]
    rw [List.flatMap_append, List.getElem?_append_right (by omega), h4, Nat.add_sub_cancel_left]
    exact hj
  rw [← ht, List.getElem?_take, if_pos (by omega)] at h5
  rw [hk.cell, ← h5]
  simp
/-- What is cut off behind element i may be written at will. -/
theorem Own.cut {g cap : Nat} (hF : Flat f c) (h : Own f base e c w (.slice (some ⟨g, 0, none⟩) l.length cap) l) {i : Nat} (hi : i ≤ l.length) (zs : List Value) (hz : i * c + zs.length ≤ l.length * c) :
    Own f base e c (w.setCells g (i * c) zs) (.slice (some ⟨g, 0, none⟩) i cap) (l.take i) := by
  obtain ⟨h1, h2⟩ := h
  rcases h2 with ⟨h3, _⟩ | ⟨g', cap', cur, hv, hb, hg, hn, hc, hs, ht⟩
  · exact absurd h3 (by simp)
  · simp only [Value.slice.injEq, Option.some.injEq, Addr.mk.injEq, true_and, and_true] at hv
    obtain ⟨rfl, rfl⟩ := hv
    have hle : l.length * c ≤ cap * c := Nat.mul_le_mul_right _ hn
    have hk := Blk.sets (t := e) zs (i * c) w cur hg (by rw [hs]; omega)
    have hil : (l.take i).length = i := by rw [List.length_take]; omega
    have hm := mul_split (c := c) hi
    have := Own.ofRow (l := l.take i) (cap := cap) hF hb hk (by rw [hil]; omega) hc (by
      simp only [List.size_toArray, List.length_append, List.length_take, List.length_drop, Array.length_toList, hs]
      omega) (by
      rw [hil]
      show ((cur.toList.take (i * c) ++ zs) ++ _).take (i * c) = _
      rw [List.append_assoc, List.take_append_of_le_length (by rw [List.length_take, Array.length_toList, hs]; omega), List.take_take, Nat.min_self, ← flat_take hF.len l i hi, ← ht, List.take_take, Nat.min_eq_left (by omega)])
    rw [hil] at this
    exact this
/-! ### Striking elements out, in place -/
/-- j elements are looked at, i of them kept; the row holds lk. -/
def KeptI (p : α → Bool) (l : List α) (j i : Nat) (lk : List α) : Prop :=
  lk.length = l.length ∧ i = ((l.take j).filter p).length ∧ lk.take i = (l.take j).filter p ∧ lk.drop j = l.drop j
theorem KeptI.le {p : α → Bool} {j i : Nat} {lk : List α} (h : KeptI p l j i lk) : i ≤ j := by
  rw [h.2.1]
  exact Nat.le_trans (List.length_filter_le _ _) (by rw [List.length_take]; exact Nat.min_le_left _ _)
theorem KeptI.get {p : α → Bool} {j i : Nat} {lk : List α} (h : KeptI p l j i lk) (hj : j < l.length) : ∃ hk : j < lk.length, lk[j] = l[j] := by
  have hk : j < lk.length := by rw [h.1]; exact hj
  refine ⟨hk, ?_⟩
  have h1 := congrArg (fun x => x[0]?) h.2.2.2
  simp only [List.getElem?_drop, Nat.add_zero] at h1
  rw [List.getElem?_eq_getElem hk, List.getElem?_eq_getElem hj, Option.some.injEq] at h1
  exact h1
theorem KeptI.keep {p : α → Bool} {j i : Nat} {lk : List α} (h : KeptI p l j i lk) (hj : j < l.length) (hp : p l[j] = true) : KeptI p l (j + 1) (i + 1) (lk.set i l[j]) := by
  have hij := h.le
  obtain ⟨h1, h2, h3, h4⟩ := h
  have h5 : (l.take (j + 1)).filter p = (l.take j).filter p ++ [l[j]] := by rw [List.take_succ_eq_append_getElem hj, List.filter_append, List.filter_cons, if_pos hp, List.filter_nil]
  refine ⟨by simpa using h1, by rw [h5, List.length_append, ← h2]; rfl, ?_, ?_⟩
  · rw [h5, ← h3, List.take_succ_eq_append_getElem (by rw [List.length_set, h1]; omega), List.getElem_set_self]
    congr 1
    rw [List.take_set_of_le (by omega)]
  · rw [List.drop_set_of_lt (by omega), ← List.drop_drop, h4, List.drop_drop]
theorem KeptI.skip {p : α → Bool} {j i : Nat} {lk : List α} (h : KeptI p l j i lk) (hj : j < l.length) (hp : p l[j] = false) : KeptI p l (j + 1) i lk := by
  obtain ⟨h1, h2, h3, h4⟩ := h
  have h5 : (l.take (j + 1)).filter p = (l.take j).filter p := by rw [List.take_succ_eq_append_getElem hj, List.filter_append, List.filter_cons, if_neg (by rw [hp]; simp), List.filter_nil, List.append_nil]
  exact ⟨h1, by rw [h5, ← h2], by rw [h5, ← h3], by rw [← List.drop_drop, h4, List.drop_drop]⟩
theorem KeptI.start {p : α → Bool} {k : Nat} (hk : k < l.length) (h : ∀ i (hi : i < l.length), i < k → p l[i] = true) (hp : p l[k] = false) : KeptI p l (k + 1) k l := by
  have h5 : (l.take k).filter p = l.take k := List.filter_eq_self.2 (fun x hx => by
    obtain ⟨i, hi, rfl⟩ := List.getElem_of_mem hx
    rw [List.length_take] at hi
    rw [List.getElem_take]
    exact h i (by omega) (by omega))
  refine KeptI.skip ⟨rfl, ?_, ?_, rfl⟩ hk hp
  · rw [h5, List.length_take]; omega
  · rw [h5]
theorem KeptI.done {p : α → Bool} {j i : Nat} {lk : List α} (h : KeptI p l j i lk) (hj : l.length ≤ j) : lk.take i = l.filter p ∧ i = (l.filter p).length := by
  obtain ⟨h1, h2, h3, h4⟩ := h
  rw [List.take_of_length_le hj] at h2 h3
  exact ⟨h3, h2⟩
theorem filter_all {p : α → Bool} (h : ∀ i (hi : i < l.length), p l[i] = true) : l.filter p = l := List.filter_eq_self.2 (fun x hx => by
  obtain ⟨i, hi, rfl⟩ := List.getElem_of_mem hx
  exact h i hi)
end
end Wb

namespace Wb
open Go Go.RowKit
/-- The place of the first element of key b, or -1. -/
def idxK {α : Type} (key : α → Int) (l : List α) (b : Int) : Int := match l.findIdx? (fun x => key x == b) with
  | some k => (k : Int)
  | none => -1
section
variable {α : Type} {key : α → Int} {l : List α} {b : Int}
theorem idxK_hit {k : Nat} (hk : k < l.length) (h1 : key l[k] = b) (h2 : ∀ i (hi : i < k), ¬ key l[i] = b) : idxK key l b = k := by
  have : l.findIdx? (fun x => key x == b) = some k := List.findIdx?_eq_some_iff_getElem.2 ⟨hk, by simpa using h1, fun j hj => by simpa using h2 j hj⟩
  unfold idxK; rw [this]
theorem idxK_none (h2 : ∀ i (hi : i < l.length), ¬ key l[i] = b) : idxK key l b = -1 := by
  have : l.findIdx? (fun x => key x == b) = none := List.findIdx?_eq_none_iff.2 (fun x hx => by
    obtain ⟨i, hi, rfl⟩ := List.getElem_of_mem hx
    simpa using h2 i hi)
  unfold idxK; rw [this]
theorem idxK_spec (key : α → Int) (l : List α) (b : Int) : (idxK key l b = -1 ∧ ∀ i (hi : i < l.length), ¬ key l[i] = b) ∨ ∃ k : Nat, idxK key l b = k ∧ ∃ hk : k < l.length, key l[k] = b ∧ ∀ i (hi : i < k), ¬ key l[i] = b := by
  cases e : l.findIdx? (fun x => key x == b) with
  | none =>
    refine .inl ⟨by unfold idxK; rw [e], fun i hi hb => ?_⟩
    have := List.findIdx?_eq_none_iff.1 e _ (List.getElem_mem hi)
    simp [hb] at this
  | some k =>
    obtain ⟨hk, h1, h2⟩ := List.findIdx?_eq_some_iff_getElem.1 e
    exact .inr ⟨k, by unfold idxK; rw [e], hk, by simpa using h1, fun i hi => by simpa using h2 i hi⟩
end
end Wb
namespace Go.Proofs.YtjhmfljlclajnabDoor
open Go.RowKit Wb
set_option linter.unusedVariables false
set_option linter.unusedSimpArgs false
set_option maxRecDepth 100000
set_option maxHeartbeats 8000000
theorem slices_IndexI (l : List Int) (b : Int) (v : Value) (w : World) (h : RL intC w v l) (hl : l.length ≤ 17592186044160) :
    Calls Tryd.prog 75 #[v, .int .i64 b] w fun e w' => ∃ r : Int, e = .returned (.int .i64 r) ∧ (inI l b = decide (0 ≤ r)) ∧ w = w' := by
  obtain ⟨a, cap, rfl, _⟩ := h.form
  have hst := fun k (hk : k < l.length) => inI_step (l := l) (b := b) hk
  have hft := fun k (hk : ¬ k < l.length) => inI_full (l := l) (b := b) hk
  have hht := fun k (hk : k < l.length) (hb : l[k] = b) => inI_hit hk hb
  replace h := hid h; replace hst := hid hst; replace hft := hid hft; replace hht := hid hht
  go_enter Tryd.func75, Tryd.ntmps75
  go_wp2
  go_loop [8] (fun i => ∃ k : Nat, k ≤ l.length ∧ i = .int .i64 k ∧ Hid (inI (l.take k) b = false)) (fun i => l.length - (intOf i).toNat)
  case atStart => exact ⟨0, Nat.zero_le _, rfl, hid (by simp [inI])⟩
  case round =>
    obtain ⟨k, hk, rfl, hno⟩ := hrel
    by_cases hlt : k < l.length
    · obtain ⟨b1, o1, rfl, c0⟩ := RL.at1 (fun x => .int .i64 x) (fun _ => rfl) h.out hlt
      by_cases hb : l[k] = b
      · have hv := hid (hht.out k hlt hb)
        have e1 : (l[k] == b) = true := beq_iff_eq.2 hb
        have e2 : (b == l[k]) = true := beq_iff_eq.2 hb.symm
        clear hb
        generalize l[k] = x at *
        go_wp2
        go_ret
        exact ⟨_, rfl, by rw [hv.out]; exact (decide_eq_true (by omega)).symm, rfl⟩
      · have hs := hst.out k hlt
        have e1 : (l[k] == b) = false := beq_eq_false_iff_ne.2 hb
        have e2 : (b == l[k]) = false := beq_eq_false_iff_ne.2 (fun x => hb x.symm)
        rw [e1, hno.out] at hs
        replace hs := hid hs
        clear hb
        generalize l[k] = x at *
        go_wp2
        go_round
        case rel => exact ⟨k + 1, by omega, by go_num, hs⟩
        case measure => simp [intOf]; omega
    · have hv := hid (hft.out k hlt)
      obtain rfl : k = l.length := by omega
      rw [hno.out] at hv
      clear hno
      go_wp2
      go_ret
      exact ⟨_, rfl, by rw [← hv.out]; rfl, rfl⟩
theorem slices_ContainsI (l : List Int) (b : Int) (v : Value) (w : World) (h : RL intC w v l) (hl : l.length ≤ 17592186044160) :
    Calls Tryd.prog 50 #[v, .int .i64 b] w fun e w' => e = .returned (.bool (inI l b)) ∧ w = w' := by
  have hI := hid (slices_IndexI l b v w h hl)
  obtain ⟨a, cap, rfl, _⟩ := h.form
  clear h
  go_enter Tryd.func50, Tryd.ntmps50
  go_wp2_with (go_at_call 75; go_loud ((with_reducible refine hI.out.mono ?_); rintro e w1 ⟨r, rfl, hr, rfl⟩; replace hr := hid hr))
  go_ret
  exact ⟨ret_b hr.out.symm, rfl⟩
end Go.Proofs.YtjhmfljlclajnabDoor

namespace Wb
open Go Go.RowKit
set_option linter.unusedVariables false
set_option linter.unusedSimpArgs false
section
variable {P : Program} {w : World} {ops : Array Oper} {rest : List Oper} {o : Oper} {a : Act} {Q : Exit → Act → World → Prop}
theorem wpList_copyR (hgd : o.guard = none) (d s : Operand) (t t' : TypeId) (ho : o.op = .call { callee := .builtin .copy, args := #[d, s], argTypes := #[t, t'] }) {v u v' : Value} {w' : World}
    (hr : (Builtin.copy_ #[t, t'] o.type #[v, u]).run P w = .ok v' w') (hd : a.eval d = v) (hs : a.eval s = u) (h : wpList P ops Q rest (a.put o.dst v') w') : wpList P ops Q (o :: rest) a w := by
  refine wpList_plain hgd fun K hK => ?_
  unfold Oper.wp execOp
  simp only [ho, resolve, invoke, builtin, Sem.run_bind, Sem.run_pure, Result.andThen_ok, List.map_toArray, List.map_cons, List.map_nil, hd, hs, hr]
  exact hK _ _ h
theorem wpList_appR (hgd : o.guard = none) (d s : Operand) (t t' : TypeId) (ho : o.op = .call { callee := .builtin .append, args := #[d, s], argTypes := #[t, t'] }) {v u v' : Value} {w' : World}
    (hr : (Builtin.append_ #[t, t'] o.type #[v, u]).run P w = .ok v' w') (hd : a.eval d = v) (hs : a.eval s = u) (h : wpList P ops Q rest (a.put o.dst v') w') : wpList P ops Q (o :: rest) a w := by
  refine wpList_plain hgd fun K hK => ?_
  unfold Oper.wp execOp
  simp only [ho, resolve, invoke, builtin, Sem.run_bind, Sem.run_pure, Result.andThen_ok, List.map_toArray, List.map_cons, List.map_nil, hd, hs, hr]
  exact hK _ _ h
theorem wpList_clearR (hgd : o.guard = none) (s : Operand) (t : TypeId) (ho : o.op = .call { callee := .builtin .clear, args := #[s], argTypes := #[t] }) (u : Value) (hs : a.eval s = u) {v' : Value} {w' : World}
    (hr : (Builtin.clear_ #[t] o.type #[u]).run P w = .ok v' w') (h : wpList P ops Q rest (a.put o.dst v') w') : wpList P ops Q (o :: rest) a w := by
  refine wpList_plain hgd fun K hK => ?_
  unfold Oper.wp execOp
  simp only [ho, resolve, invoke, builtin, Sem.run_bind, Sem.run_pure, Result.andThen_ok, List.map_toArray, List.map_cons, List.map_nil, hs, hr]
  exact hK _ _ h
theorem step_copyR {K : Act → World → Prop} {E : Prop} (hg : o.guard = none) (d s : Operand) (t t' : TypeId) (ho : o.op = .call { callee := .builtin .copy, args := #[d, s], argTypes := #[t, t'] }) {v u v' : Value} {w' : World}
    (hr : (Builtin.copy_ #[t, t'] o.type #[v, u]).run P w = .ok v' w') (hd : a.eval d = v) (hs : a.eval s = u) (hK : K (a.put o.dst v') w') : if Region.wanted o (yielded ops a.tmps) = true then Oper.wp P o a w K Q else E := by
  have hw : Region.wanted o (yielded ops a.tmps) = true := by simp [Region.wanted, hg]
  rw [if_pos hw]
  unfold Oper.wp execOp
  simp only [ho, resolve, invoke, builtin, Sem.run_bind, Sem.run_pure, Result.andThen_ok, List.map_toArray, List.map_cons, List.map_nil, hd, hs, hr]
  exact hK
theorem run_copy_blk {dT elem : TypeId} {c bytes : Nat} (hT : Elem P dT elem c bytes) (w : World) (sT ty : TypeId) {g : Nat} {cur : Array Value} (hk : Blk w g cur elem) (off dLen dCap : Nat) (b soff sLen sCap : Nat) (cs : List Value)
    (hn : cs.length = Nat.min sLen dLen * c) (hsrc : ∀ j v, cs[j]? = some v → w.cell? ⟨b, soff + j, none⟩ = some v) (hfit : off + cs.length ≤ cur.size) (h1 : ∀ v ∈ cs, v.oneCell' = true) :
    (Builtin.copy_ #[dT, sT] ty #[.slice (some ⟨g, off, none⟩) dLen dCap, .slice (some ⟨b, soff, none⟩) sLen sCap]).run P w = .ok (goInt (Nat.min sLen dLen : Nat)) (w.setCells g off cs) := by
  obtain ⟨hu, i, z, hi, hz, hsz, hby, hzs⟩ := hT
  exact run_copy_c w dT sT ty elem c g off dLen dCap ⟨b, soff, none⟩ sLen sCap cs hu (by rw [hi]; simp [hsz]) hn (fun j v hj => by rw [Addr.add_lit]; exact hsrc j v hj) (fun j hj => by rw [hk.cell, Array.getElem?_eq_getElem (by omega)]; rfl) (fun j hj => hk.free _) h1
end
section
variable {α : Type} {f : α → List Value} {base : Nat} {e : TypeId} {c : Nat} {l : List α}
theorem flat_one (hF : Flat f c) (l : List α) : ∀ u ∈ l.flatMap f, u.oneCell' = true := fun u hu => by obtain ⟨x, _, hx⟩ := List.mem_flatMap.1 hu; exact hF.one x u hx
theorem insLen {i : Nat} (x : α) (hi : i ≤ l.length) : (l.take i ++ x :: l.drop i).length = l.length + 1 := by
  rw [List.length_append, List.length_take, List.length_cons, List.length_drop]; omega
theorem ins_shift (hF : Flat f c) {g cap i : Nat} {cur : Array Value} (hbg : base ≤ g) (hmax : cap ≤ maxLen) (hsz : cur.size = cap * c) (htk : cur.toList.take (l.length * c) = l.flatMap f) (hi : i ≤ l.length) (hc : l.length + 1 ≤ cap) (x : α) {w0 : World} (hk : Blk w0 g cur e) :
    ∃ cur1 : Array Value, cur1.size = cap * c ∧ Blk (w0.setCells g ((i + 1) * c) ((l.drop i).flatMap f)) g cur1 e ∧ ∀ w1, Blk w1 g cur1 e → Own f base e c (w1.setCells g (i * c) (f x)) (.slice (some ⟨g, 0, none⟩) (l.length + 1) cap) (l.take i ++ x :: l.drop i) := by
  have hd := flat_dropLen hF.len l i
  have hm := mul_split (c := c) hi
  have hm2 : (l.length + 1) * c ≤ cap * c := Nat.mul_le_mul_right _ hc
  rw [Nat.succ_mul] at hm2
  have b1 := Blk.sets ((l.drop i).flatMap f) ((i + 1) * c) w0 cur hk (by rw [hd, hsz, Nat.succ_mul]; omega)
  have hs1 : (cur.toList.take ((i + 1) * c) ++ (l.drop i).flatMap f ++ cur.toList.drop ((i + 1) * c + ((l.drop i).flatMap f).length)).length = cap * c := by
    simp only [List.length_append, List.length_take, List.length_drop, Array.length_toList, hsz, hd, Nat.succ_mul]
    omega
  refine ⟨_, by simpa using hs1, b1, fun w1 k1 => ?_⟩
  have b2 := Blk.sets (f x) (i * c) w1 _ k1 (by rw [hF.len, List.size_toArray, hs1]; omega)
  obtain ⟨h1, h2⟩ := ins_room hF.len cur.toList l i cap x (by rw [Array.length_toList]; exact hsz) htk hi hc rfl rfl
  have := Own.ofRow (l := l.take i ++ x :: l.drop i) (base := base) hF hbg b2 (by rw [insLen x hi]; exact hc) hmax (by rw [List.size_toArray]; exact h1) (by rw [insLen x hi]; exact h2)
  rw [insLen x hi] at this
  exact this
theorem ins_grown (hF : Flat f c) {g cap i : Nat} {cur : Array Value} (Z : List Value) (hbg : base ≤ g) (hmax : cap ≤ maxLen) (hZ : Z.length = (cap - i) * c) (hcur : cur = ((l.take i).flatMap f ++ Z).toArray) (hi : i ≤ l.length) (hc : l.length + 1 ≤ cap) (x : α) {w0 : World} (hk : Blk w0 g cur e) :
    cur.size = cap * c ∧ ∃ cur1 : Array Value, cur1.size = cap * c ∧ Blk (w0.setCells g (i * c) (f x)) g cur1 e ∧ ∀ w1, Blk w1 g cur1 e → Own f base e c (w1.setCells g ((i + 1) * c) ((l.drop i).flatMap f)) (.slice (some ⟨g, 0, none⟩) (l.length + 1) cap) (l.take i ++ x :: l.drop i) := by
  have hd := flat_dropLen hF.len l i
  have hm := mul_split (c := c) hi
  have hm2 : (l.length + 1) * c ≤ cap * c := Nat.mul_le_mul_right _ hc
  have hm3 := mul_split (c := c) (n := cap) (i := i) (by omega)
  have h4 := flat_len hF.len (l.take i)
  rw [List.length_take, Nat.min_eq_left hi] at h4
  rw [Nat.succ_mul] at hm2
  have hs0 : cur.size = cap * c := by rw [hcur, List.size_toArray, List.length_append, h4, hZ]; exact hm3
  refine ⟨hs0, ?_⟩
  have b1 := Blk.sets (f x) (i * c) w0 cur hk (by rw [hF.len, hs0]; omega)
  have hs1 : (cur.toList.take (i * c) ++ f x ++ cur.toList.drop (i * c + (f x).length)).length = cap * c := by
    simp only [List.length_append, List.length_take, List.length_drop, Array.length_toList, hs0, hF.len]
    omega
  refine ⟨_, by simpa using hs1, b1, fun w1 k1 => ?_⟩
  have b2 := Blk.sets ((l.drop i).flatMap f) ((i + 1) * c) w1 _ k1 (by rw [hd, List.size_toArray, hs1, Nat.succ_mul]; omega)
  obtain ⟨h1, h2⟩ := ins_grow hF.len Z l i cap x hZ hi hc (L := cur.toList) (by rw [hcur]) rfl rfl
  have := Own.ofRow (l := l.take i ++ x :: l.drop i) (base := base) hF hbg b2 (by rw [insLen x hi]; exact hc) hmax (by rw [List.size_toArray]; exact h1) (by rw [insLen x hi]; exact h2)
  rw [insLen x hi] at this
  exact this
/-- append(s[:i], make(.., m)...), no room: a new row. -/
theorem run_app_make {P : Program} {t tn : TypeId} {bytes : Nat} (hF : Flat f c) (hT : Elem P t e c bytes) (htn : P.underlying tn = some (.int .i64)) (w : World) {g cap i m : Nat} {cur : Array Value} (hk : Blk w g cur e) (htk : cur.toList.take (l.length * c) = l.flatMap f) (hi : i ≤ l.length) (hm : 0 < m) (hg : cap < i + m)
    (hroom : (i + m) * bytes ≤ 140737488355328) (h63 : i + m ≤ maxLen) :
    ∃ Z : List Value, Z.length = (grownCap w (i + m) cap e - i) * c ∧ ∀ ty, (Builtin.append_ #[t, tn] ty #[.slice (some ⟨g, 0, none⟩) i cap, .int .i64 m]).run P w =
      .ok (.slice (some ⟨w.heap.size, 0, none⟩) (i + m) (grownCap w (i + m) cap e)) (w.drew.alloc (.cells ((l.take i).flatMap f ++ Z).toArray e)) := by
  obtain ⟨hu, io, z, hio, hz, hsz, hby, hzs⟩ := hT
  have hold : (Builtin.firstCells io.size i (.slice (some ⟨g, 0, none⟩) i cap)).run P w.drew = .ok ((l.take i).flatMap f).toArray w.drew := by
    have h4 := flat_len hF.len (l.take i)
    rw [List.length_take, Nat.min_eq_left hi] at h4
    refine run_firstCells_some w.drew io.size i ⟨g, 0, none⟩ i cap _ (by rw [h4, hsz]) (fun j u hj => ?_)
    have hlt : j < ((l.take i).flatMap f).length := (List.getElem?_eq_some_iff.1 hj).1
    rw [Addr.add_lit, Nat.zero_add]
    have h5 : (l.flatMap f)[j]? = some u := by
      conv => lhs; rw [← List.take_append_drop i l]
      rw [List.flatMap_append, List.getElem?_append_left hlt]
      exact hj
    rw [← htk, List.getElem?_take] at h5
    split at h5
    · show w.cell? _ = _
      rw [hk.cell, ← h5]
      simp
    · cases h5
  have hby' : m * bytes ≤ (i + m) * bytes := Nat.mul_le_mul_right _ (by omega)
  have hr := fun ty => Lib.run_append_grow_zeros w t tn ty e io z .i64 .i64 hu htn hio hz (some ⟨g, 0, none⟩) i cap _ hold m hm (by rw [hsz]; exact hF.pos) hg (by unfold maxLen at h63; omega) (by rw [hby]; omega) (by rw [hby]; exact growslice_fits hg hroom)
  have hge := grownCap_ge w (i + m) cap e
  refine ⟨(Builtin.zeroCells z.cells m).toList ++ (Builtin.zeroCells z.cells (grownCap w (i + m) cap e - (i + m))).toList, ?_, ?_⟩
  · rw [List.length_append, Array.length_toList, Array.length_toList, size_zeroCells, size_zeroCells, hzs, ← Nat.add_mul]
    congr 1
    omega
  · intro ty
    rw [hr]
    congr 3
    apply Array.ext'
    simp [List.append_assoc]
end
end Wb

namespace Go.Proofs.YtjhmfljlclajnabDoor
open Go.RowKit Wb
set_option linter.unusedVariables false
set_option linter.unusedSimpArgs false
set_option maxRecDepth 100000
set_option maxHeartbeats 8000000
end Go.Proofs.YtjhmfljlclajnabDoor

namespace Wb
open Go Go.RowKit
/-- Going backward: what the last one says. -/
theorem back_rev {l : List Txn} (hg : ∀ t ∈ l, goodT t = true) {j : Nat} (hj : j < l.length) {b : Int} (h : inI l[j].rev b = true) : newestB (l.take (j + 1)) b = none := by
  rw [List.take_succ_eq_append_getElem hj, newestB_back]
  have g := hg _ (List.getElem_mem hj)
  have h1 : getC l[j].mt b = none := by
    cases hc : getC l[j].mt b with
    | none => rfl
    | some s =>
      exfalso
      have h2 : hasB l[j].mt b = true := by rw [hasB_get, hc]; rfl
      obtain ⟨c, hc1, hc2⟩ := List.any_eq_true.1 h2
      obtain ⟨k, hk, rfl⟩ := List.mem_iff_getElem.1 hc1
      have := (good_meta g hk).1
      rw [beq_iff_eq.1 hc2, h] at this
      cases this
  rw [h1, h]
  rfl
theorem back_get {l : List Txn} {j : Nat} (hj : j < l.length) {b : Int} {s : ByteArray} (h : getC l[j].mt b = some s) : newestB (l.take (j + 1)) b = some s := by
  rw [List.take_succ_eq_append_getElem hj, newestB_back, h]
theorem back_no {l : List Txn} {j : Nat} (hj : j < l.length) {b : Int} (h1 : inI l[j].rev b = false) (h : getC l[j].mt b = none) : newestB (l.take (j + 1)) b = newestB (l.take j) b := by
  rw [List.take_succ_eq_append_getElem hj, newestB_back, h, h1]
  rfl
theorem viewN_none {f : Int → Option ByteArray} {n : Nat} (h : f n = none) : viewN f (n + 1) = viewN f n := by rw [viewN_succ, h]; simp
theorem viewN_some {f : Int → Option ByteArray} {n : Nat} {s : ByteArray} (h : f n = some s) : viewN f (n + 1) = viewN f n ++ [⟨n, s⟩] := by rw [viewN_succ, h]; rfl
/-- As a row of the call's own. -/
theorem OwnM.own {α : Type} {f : α → List Value} {e : TypeId} {c : Nat} {v : Value} {l : List α} {M L T : List Ent} {w0 w : World} {R : List Rd} (hF : Flat f c) (h : OwnM f e c v l M) (X : St [] w0 w (L ++ (M ++ T)) R) : Own f w0.heap.size e c w v l := by
  rcases h with ⟨rfl, rfl, rfl⟩ | ⟨g, cap, rest, rfl, h1, h2, h3, rfl⟩
  · exact Own.nil _ _ _ _ _
  · have hk := X.blk ⟨g, l.flatMap f ++ rest, e⟩ (by simp)
    have ho := X.own ⟨g, l.flatMap f ++ rest, e⟩ (by simp)
    refine ⟨flat_len hF.len l, .inr ⟨g, cap, _, rfl, ho.resolve_left (fun h => by cases h), hk, h1, h2, ?_, ?_⟩⟩
    · simpa using h3
    · rw [← flat_len hF.len l]; simp
end Wb
namespace Go.Proofs.YtjhmfljlclajnabDoor
open Go.RowKit Wb
set_option linter.unusedVariables false
set_option linter.unusedSimpArgs false
set_option maxRecDepth 100000
set_option maxHeartbeats 8000000
theorem seal_Newest (l : List Txn) (hg : ∀ t ∈ l, goodT t = true) (v : Value) (w : World) (h : RTxns w v l) :
    Calls Tryd.prog 16 #[v] w fun e w' => ∃ v', e = .returned v' ∧ Wb.Own cpyC w.heap.size 74 2 w' v' (newestL l) ∧ Below w.heap.size w w' := by
  obtain ⟨a, cap, rfl, hl⟩ := h.form
  have hbr := fun j (hj : j < l.length) b => back_rev hg hj (b := b)
  have hbg := fun j (hj : j < l.length) b s => back_get (l := l) hj (b := b) (s := s)
  have hbn := fun j (hj : j < l.length) b => back_no (l := l) hj (b := b)
  have hvn := fun k => viewN_none (f := newestB l) (n := k)
  have hvs := fun k s => viewN_some (f := newestB l) (n := k) (s := s)
  have hvl := fun k => viewN_len (newestB l) k
  have hz : ∀ b, newestB (l.take 0) b = none := fun b => rfl
  have hfu : l.take l.length = l := List.take_length
  have hrl := fun k (hk : k < l.length) => lens (goodT_of.1 (hg _ (List.getElem_mem hk)))
  have hnl : newestL l = viewN (newestB l) 12 := rfl
  have hv0 : viewN (newestB l) 0 = [] := rfl
  rw [hnl]
  replace h := hid h; replace hbr := hid hbr; replace hbg := hid hbg; replace hbn := hid hbn; replace hvn := hid hvn; replace hvs := hid hvs; replace hvl := hid hvl; replace hz := hid hz; replace hfu := hid hfu; replace hrl := hid hrl; replace hv0 := hid hv0
  clear hnl hg
  go_enter Tryd.func16, Tryd.ntmps16
  go_wp2
  go_loopw [3, 8] (fun o i wr => ∃ (k : Nat) (M : List Ent), k ≤ 12 ∧ i = .int .i64 k ∧ OwnM cpyC 74 2 o (viewN (newestB l) k) M ∧ St [] w wr (M ++ []) []) (fun _ i _ => 12 - (intOf i).toNat)
  case atStart => exact ⟨0, [], by decide, rfl, by rw [hv0.out]; exact OwnM.nil _ _ _, St.start [] w⟩
  case round =>
    obtain ⟨k, M, hk, rfl, hO, X⟩ := hrel
    by_cases hlt : k < 12
    · have hvk := hvl.out k
      have hk12 : (k : Int) < 12 := by omega
      obtain ⟨ao, co, rfl⟩ := hO.form
      go_upto_block 1 with fail
      go_cut [3] (fun o wx => ∃ M, OwnM cpyC 74 2 o (viewN (newestB l) (k + 1)) M ∧ St [] w wx (M ++ []) [])
      case first =>
        go_wp2
        go_loopw [3, 5] (fun o i wr => ∃ j : Nat, j ≤ l.length ∧ i = .int .i64 ((j : Int) - 1) ∧ o = .slice ao (viewN (newestB l) k).length co ∧ Hid (newestB l k = newestB (l.take j) k) ∧ St [] w wr (M ++ []) []) (fun _ i _ => (intOf i + 1).toNat)
        case atStart => exact ⟨l.length, Nat.le_refl _, rfl, rfl, hid (by rw [hfu.out]), X⟩
        case round =>
          clear X
          obtain ⟨j, hj, rfl, rfl, hnw, X⟩ := hrel
          rcases Nat.eq_zero_or_pos j with hj0 | hj0
          · subst hj0
            have hn := hnw.out.trans (hz.out k)
            replace hn := hid hn
            go_wp2
            go_meet
            exact ⟨M, by rw [hvn.out _ hn.out]; exact hO, X⟩
          · obtain ⟨i, rfl⟩ : ∃ i, j = i + 1 := ⟨j - 1, by omega⟩
            have hi : i < l.length := by omega
            obtain ⟨b1, o1, am, cm, ad, cd, ar, cr, rfl, hrt, c0, c1, c2, c3, c4, c5, c6, c7, c8, c9⟩ := (h.out.below X.below).at3 hi
            obtain ⟨vm', vd', vr', hv, hm, hd, hr, n1, n2, n3⟩ := hrt
            simp only [txnV, Value.agg.injEq, Array.mk.injEq, List.cons.injEq, and_true, true_and] at hv
            obtain ⟨rfl, rfl, rfl⟩ := hv
            have hb1 := hbr.out i hi k
            have hb2 := hbg.out i hi k
            have hb3 := hbn.out i hi k
            rw [← hnw.out] at hb1 hb2 hb3
            generalize l[i] = t at *
            have hC := fun w' (hb : Below wr.heap.size wr w') => slices_ContainsI t.rev k _ w' (hr.below hb) (by omega)
            have hG := fun w' (hb : Below wr.heap.size wr w') => txn_Get t.mt k _ w' (hm.below hb) (by omega)
            replace hb1 := hid hb1; replace hb2 := hid hb2; replace hb3 := hid hb3; replace hm := hid hm; replace hr := hid hr; replace hC := hid hC; replace hG := hid hG
            cases hB : inI t.rev k with
            | true =>
              have hn := hb1.out hB
              rw [hB] at hC
              clear hB
              replace hn := hid hn
              go_wp2_with (first
                | (go_at_call 50; go_loud ((with_reducible refine (hC.out _ (b0 _)).mono ?_); rintro e w1 ⟨rfl, rfl⟩)))
              go_meet
              exact ⟨M, by rw [hvn.out _ hn.out]; exact hO, X⟩
            | false =>
              have hb3 := hb3.out hB
              rw [hB] at hC
              clear hB
              cases hT : getC t.mt k with
              | none =>
                have hn := hb3 hT
                rw [hT] at hG
                clear hT hb3
                replace hn := hid hn
                go_wp2_with (first
                  | (go_at_call 50; go_loud ((with_reducible refine (hC.out _ (b0 _)).mono ?_); rintro e w1 ⟨rfl, rfl⟩))
                  | (go_at_call 15; go_loud ((with_reducible refine (hG.out _ (b0 _)).mono ?_); rintro e w1 ⟨rfl, hb1⟩; replace X := X.call hb1; clear hb1)))
                go_roundw
                case rel => (first | exact ⟨i, by omega, by go_num, rfl, hn, X⟩ | ((repeat apply Exists.intro); exact ⟨⟨i, by omega, by go_num, rfl, hn, X⟩, rfl⟩))
                case measure => simp [intOf]
              | some s =>
                have hn := hb2.out s hT
                rw [hT] at hG
                clear hT hb3
                replace hn := hid hn
                have hy : [(⟨k, s⟩ : Cpy)].flatMap cpyC = [.int .i64 k, .string s] := rfl
                go_wp2_with (first
                  | (go_at_call 50; go_loud ((with_reducible refine (hC.out _ (b0 _)).mono ?_); rintro e w1 ⟨rfl, rfl⟩))
                  | (go_at_call 15; go_loud ((with_reducible refine (hG.out _ (b0 _)).mono ?_); rintro e w1 ⟨rfl, hb1⟩; replace X := X.call hb1; clear hb1))
                  | (refine at_build rfl ?_; go_loud (refine m_build1 rfl rfl (by first | exact EvR.const _ | exact EvR.tmp rfl rfl) (by rfl) (by rfl) X ?_; intro g w2 X2; replace X := X2; clear X2; (simp only [Act.put, List.setIfInBounds_toArray, List.set_cons_succ, List.set_cons_zero, List.drop_succ_cons, List.drop_zero, List.take_succ_cons, List.take_zero, Nat.reduceAdd])))
                  | (at_builtin; go_loud ((refine m_app (M := M) (T := []) (n := 1) [] rfl rfl [⟨k, s⟩] cpyC_flat X hO (by first | exact EvR.const _ | exact EvR.tmp rfl rfl) (by first | exact EvR.const _ | exact EvR.tmp rfl rfl) hy rfl (by omega) ?_); intro a2 c2 w2 M2 hO2 X2; (simp only [Act.put, List.setIfInBounds_toArray, List.set_cons_succ, List.set_cons_zero, List.drop_succ_cons, List.drop_zero, List.take_succ_cons, List.take_zero, Nat.reduceAdd]))))
                go_meet
                exact ⟨M2, by rw [hvs.out _ _ hn.out]; exact hO2, X2⟩
      case rest =>
        obtain ⟨M, hO, X⟩ := hcut
        go_wp2
        go_roundw
        case rel => exact ⟨k + 1, M, by omega, by go_num, hO, X⟩
        case measure => simp [intOf]; omega
    · obtain rfl : k = 12 := by omega
      go_wp2
      go_ret
      exact ⟨_, rfl, hO.own (L := []) cpyC_flat X, X.below⟩
end Go.Proofs.YtjhmfljlclajnabDoor
