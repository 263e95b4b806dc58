/- Parts of the proof: Ty Fld Want AppO Jk JwA JwB JwC SlTy JwD JwE JrQ. -/
import Derived.Test.YtjhmfljlclajnacGreatDoorKTopSpace3
import Derived.Test.YtjhmfljlclajnacGreatDoorChecked
import Derived.Test.YtjhmfljlclajnacGreatDoorKTopSpace4
import Derived.Deep.DeepCutAuto
set_option linter.unusedVariables false
set_option linter.unusedSimpArgs false
namespace Go.Proofs.YtjhmfljlclajnacGreatDoor
open Go.RowKit Wb
instance : AggT Tryz.prog 40 10 := ⟨⟨_, Tryz.underlying40, rfl⟩, by kernel_rfl⟩
instance : ZeroT Tryz.prog 40 [.int .i64 0, .slice none 0 0, .slice none 0 0, .slice none 0 0, .bool false, .int .i64 0, .bool false, .int .i64 0, .bool false, .int .i64 0] := ⟨by kernel_rfl⟩
instance : AggT Tryz.prog 92 2 := ⟨⟨_, Tryz.underlying92, rfl⟩, by kernel_rfl⟩
instance : ZeroT Tryz.prog 92 [.int .i64 0, .string ⟨#[]⟩] := ⟨by kernel_rfl⟩
instance : AggT Tryz.prog 37 2 := ⟨⟨_, Tryz.underlying37, rfl⟩, by kernel_rfl⟩
instance : AggT Tryz.prog 26 2 := ⟨⟨_, Tryz.underlying26, rfl⟩, by kernel_rfl⟩
instance : ZeroT Tryz.prog 26 [.int .i64 0, .int .i64 0] := ⟨by kernel_rfl⟩
instance : AggT Tryz.prog 46 2 := ⟨⟨_, Tryz.underlying46, rfl⟩, by kernel_rfl⟩
instance : ZeroT Tryz.prog 46 [.slice none 0 0, .slice none 0 0] := ⟨by kernel_rfl⟩
instance : AggT Tryz.prog 127 3 := ⟨⟨_, Tryz.underlying127, rfl⟩, by kernel_rfl⟩
instance : ZeroT Tryz.prog 127 [.int .i64 0, .int .i64 0, .string ⟨#[]⟩] := ⟨by kernel_rfl⟩
instance : AggT Tryz.prog 31 3 := ⟨⟨_, Tryz.underlying31, rfl⟩, by kernel_rfl⟩
instance : ZeroT Tryz.prog 31 [.int .i64 0, .int .i64 0, .string ⟨#[]⟩] := ⟨by kernel_rfl⟩
instance : AggT Tryz.prog 23 5 := ⟨⟨_, Tryz.underlying23, rfl⟩, by kernel_rfl⟩
instance : ZeroT Tryz.prog 23 [.int .i64 0, .int .i64 0, .int .i64 0, .int .i64 0, .string ⟨#[]⟩] := ⟨by kernel_rfl⟩
instance : AggT Tryz.prog 61 3 := ⟨⟨_, Tryz.underlying61, rfl⟩, by kernel_rfl⟩
instance : ZeroT Tryz.prog 61 [.slice none 0 0, .int .i64 0, .int .i64 0] := ⟨by kernel_rfl⟩
instance : AggT Tryz.prog 102 5 := ⟨⟨_, Tryz.underlying102, rfl⟩, by kernel_rfl⟩
instance : ZeroT Tryz.prog 102 [.int .i64 0, .int .i64 0, .int .i64 0, .slice none 0 0, .slice none 0 0] := ⟨by kernel_rfl⟩
instance : AggT Tryz.prog 95 2 := ⟨⟨_, Tryz.underlying95, rfl⟩, by kernel_rfl⟩
instance : OneT Tryz.prog 3 := ⟨⟨_, Tryz.underlying3, rfl⟩, by kernel_rfl⟩
instance : ZeroT Tryz.prog 3 [.int .i64 0] := ⟨by kernel_rfl⟩
instance : OneT Tryz.prog 4 := ⟨⟨_, Tryz.underlying4, rfl⟩, by kernel_rfl⟩
instance : ZeroT Tryz.prog 4 [.bool false] := ⟨by kernel_rfl⟩
instance : OneT Tryz.prog 9 := ⟨⟨_, Tryz.underlying9, rfl⟩, by kernel_rfl⟩
instance : ZeroT Tryz.prog 9 [.string ⟨#[]⟩] := ⟨by kernel_rfl⟩
instance : OneT Tryz.prog 29 := ⟨⟨_, Tryz.underlying29, rfl⟩, by kernel_rfl⟩
instance : OneT Tryz.prog 34 := ⟨⟨_, Tryz.underlying34, rfl⟩, by kernel_rfl⟩
instance : ZeroT Tryz.prog 34 [.slice none 0 0] := ⟨by kernel_rfl⟩
instance : OneT Tryz.prog 35 := ⟨⟨_, Tryz.underlying35, rfl⟩, by kernel_rfl⟩
instance : ZeroT Tryz.prog 35 [.slice none 0 0] := ⟨by kernel_rfl⟩
instance : OneT Tryz.prog 57 := ⟨⟨_, Tryz.underlying57, rfl⟩, by kernel_rfl⟩
instance : ZeroT Tryz.prog 57 [.slice none 0 0] := ⟨by kernel_rfl⟩
instance : OneT Tryz.prog 59 := ⟨⟨_, Tryz.underlying59, rfl⟩, by kernel_rfl⟩
instance : ZeroT Tryz.prog 59 [.slice none 0 0] := ⟨by kernel_rfl⟩
instance : OneT Tryz.prog 100 := ⟨⟨_, Tryz.underlying100, rfl⟩, by kernel_rfl⟩
instance : OneT Tryz.prog 43 := ⟨⟨_, Tryz.underlying43, rfl⟩, by kernel_rfl⟩
instance : ZeroT Tryz.prog 43 [.slice none 0 0] := ⟨by kernel_rfl⟩
instance : OneT Tryz.prog 44 := ⟨⟨_, Tryz.underlying44, rfl⟩, by kernel_rfl⟩
instance : FieldT Tryz.prog 40 0 0 := ⟨fun _ _ _ => by kernel_rfl⟩
instance : FieldT Tryz.prog 40 1 1 := ⟨fun _ _ _ => by kernel_rfl⟩
instance : FieldT Tryz.prog 40 2 2 := ⟨fun _ _ _ => by kernel_rfl⟩
instance : FieldT Tryz.prog 40 3 3 := ⟨fun _ _ _ => by kernel_rfl⟩
instance : FieldT Tryz.prog 40 4 4 := ⟨fun _ _ _ => by kernel_rfl⟩
instance : FieldT Tryz.prog 37 0 0 := ⟨fun _ _ _ => by kernel_rfl⟩
instance : FieldT Tryz.prog 37 1 1 := ⟨fun _ _ _ => by kernel_rfl⟩
instance : FieldT Tryz.prog 92 0 0 := ⟨fun _ _ _ => by kernel_rfl⟩
instance : FieldT Tryz.prog 92 1 1 := ⟨fun _ _ _ => by kernel_rfl⟩
instance : FieldT Tryz.prog 23 0 0 := ⟨fun _ _ _ => by kernel_rfl⟩
instance : FieldT Tryz.prog 23 1 1 := ⟨fun _ _ _ => by kernel_rfl⟩
instance : FieldT Tryz.prog 23 2 2 := ⟨fun _ _ _ => by kernel_rfl⟩
instance : FieldT Tryz.prog 23 3 3 := ⟨fun _ _ _ => by kernel_rfl⟩
instance : FieldT Tryz.prog 23 4 4 := ⟨fun _ _ _ => by kernel_rfl⟩
instance : FieldT Tryz.prog 31 0 0 := ⟨fun _ _ _ => by kernel_rfl⟩
instance : FieldT Tryz.prog 31 1 1 := ⟨fun _ _ _ => by kernel_rfl⟩
instance : FieldT Tryz.prog 31 2 2 := ⟨fun _ _ _ => by kernel_rfl⟩
instance : FieldT Tryz.prog 127 0 0 := ⟨fun _ _ _ => by kernel_rfl⟩
instance : FieldT Tryz.prog 127 1 1 := ⟨fun _ _ _ => by kernel_rfl⟩
instance : FieldT Tryz.prog 127 2 2 := ⟨fun _ _ _ => by kernel_rfl⟩
instance : FieldT Tryz.prog 26 0 0 := ⟨fun _ _ _ => by kernel_rfl⟩
instance : FieldT Tryz.prog 26 1 1 := ⟨fun _ _ _ => by kernel_rfl⟩
instance : FieldT Tryz.prog 61 0 0 := ⟨fun _ _ _ => by kernel_rfl⟩
instance : FieldT Tryz.prog 61 1 1 := ⟨fun _ _ _ => by kernel_rfl⟩
instance : FieldT Tryz.prog 61 2 2 := ⟨fun _ _ _ => by kernel_rfl⟩
instance : FieldT Tryz.prog 46 0 0 := ⟨fun _ _ _ => by kernel_rfl⟩
instance : FieldT Tryz.prog 46 1 1 := ⟨fun _ _ _ => by kernel_rfl⟩
instance : FieldT Tryz.prog 95 0 0 := ⟨fun _ _ _ => by kernel_rfl⟩
instance : FieldT Tryz.prog 95 1 1 := ⟨fun _ _ _ => by kernel_rfl⟩
instance : FieldT Tryz.prog 82 0 0 := ⟨fun _ _ _ => by kernel_rfl⟩
instance : FieldT Tryz.prog 82 1 2 := ⟨fun _ _ _ => by kernel_rfl⟩
instance : FieldT Tryz.prog 82 2 3 := ⟨fun _ _ _ => by kernel_rfl⟩
instance : FieldT Tryz.prog 82 3 5 := ⟨fun _ _ _ => by kernel_rfl⟩
instance : FieldT Tryz.prog 82 4 15 := ⟨fun _ _ _ => by kernel_rfl⟩
instance : FieldT Tryz.prog 82 5 25 := ⟨fun _ _ _ => by kernel_rfl⟩
instance : FieldT Tryz.prog 82 6 26 := ⟨fun _ _ _ => by kernel_rfl⟩
instance : FieldT Tryz.prog 82 7 27 := ⟨fun _ _ _ => by kernel_rfl⟩
instance : FieldT Tryz.prog 82 8 39 := ⟨fun _ _ _ => by kernel_rfl⟩
instance : FieldT Tryz.prog 82 9 51 := ⟨fun _ _ _ => by kernel_rfl⟩
instance : FieldT Tryz.prog 82 10 52 := ⟨fun _ _ _ => by kernel_rfl⟩
instance : FieldT Tryz.prog 82 11 53 := ⟨fun _ _ _ => by kernel_rfl⟩
instance : FieldT Tryz.prog 82 12 55 := ⟨fun _ _ _ => by kernel_rfl⟩
instance : FieldT Tryz.prog 82 13 56 := ⟨fun _ _ _ => by kernel_rfl⟩
instance : FieldT Tryz.prog 82 14 59 := ⟨fun _ _ _ => by kernel_rfl⟩
instance : FieldT Tryz.prog 82 15 60 := ⟨fun _ _ _ => by kernel_rfl⟩
end Go.Proofs.YtjhmfljlclajnacGreatDoor
namespace Wb
open Go Go.RowKit
theorem at_want2 {P : Program} {ops : Array Oper} {rest : List Oper} {o : Oper} {a : Act} {Q : Exit → Act → World → Prop} {w : World} (_ : Region.wanted o (yielded ops a.tmps) = true) (h : wpList P ops Q (o :: rest) a w) : wpList P ops Q (o :: rest) a w := h
theorem ZdL {A B : Prop} (k : B) (h : B → A := by intro k; (refine at_mem rfl ?_; refine at_want2 (by kernel_rfl) ?_; (refine at_load rfl ?_; (first | refine c_load1 rfl _ _ rfl rfl X Zra ?_ | refine c_loadN rfl _ _ rfl rfl X Zrb ?_)); (simp only [Act.put, zA, zB, zC, zD, zE, zF, zG, Nat.reduceAdd])); exact k) : A := h k
theorem ZdS {A B : Prop} (k : B) (h : B → A := by intro k; (refine at_mem rfl ?_; refine at_want2 (by kernel_rfl) ?_; (refine at_store rfl ?_; (first | refine c_store1 rfl _ _ _ rfl rfl Zev X rfl rfl Zpa ?_ | refine c_storeN rfl _ _ _ rfl rfl rfl X rfl rfl Zpa ?_)); intro w X2; (try simp only [upd] at X2); (simp only [Act.put, zA, zB, zC, zD, zE, zF, zG, Nat.reduceAdd]); revert X2; revert w); exact k) : A := h k
theorem ZdA {A B : Prop} (k : B) (h : B → A := by intro k; (refine at_mem rfl ?_; refine at_want2 (by kernel_rfl) ?_; (first | refine m_alloc rfl _ rfl X ?_ | refine m_box rfl _ _ rfl Zev rfl X ?_); intro g w X2; (simp only [Act.put, zA, zB, zC, zD, zE, zF, zG, Nat.reduceAdd]); revert X2; revert g w); exact k) : A := h k
theorem ZhL {A B : Prop} (k : B) (h : B → A := by intro k; (refine at_mem rfl ?_; refine at_want2 (by kernel_rfl) ?_; (refine at_load rfl ?_; (first | refine c_load1 rfl _ _ rfl rfl X Zrc ?_ | refine c_loadN rfl _ _ rfl rfl X Zrd ?_)); (simp only [Act.put, zA, zB, zC, zD, zE, zF, zG, Nat.reduceAdd])); exact k) : A := h k
theorem ZhS {A B : Prop} (k : B) (h : B → A := by intro k; (refine at_mem rfl ?_; refine at_want2 (by kernel_rfl) ?_; (refine at_store rfl ?_; (first | refine c_store1 rfl _ _ _ rfl rfl Zev X rfl rfl Zpb ?_ | refine c_storeN rfl _ _ _ rfl rfl rfl X rfl rfl Zpb ?_)); intro w X2; (try simp only [upd] at X2); (simp only [Act.put, zA, zB, zC, zD, zE, zF, zG, Nat.reduceAdd]); revert X2; revert w); exact k) : A := h k
theorem ZhA {A B : Prop} (k : B) (h : B → A := by intro k; (refine at_mem rfl ?_; refine at_want2 (by kernel_rfl) ?_; refine m_alloc rfl _ rfl X ?_; intro g w X2; (simp only [Act.put, zA, zB, zC, zD, zE, zF, zG, Nat.reduceAdd]); revert X2; revert g w); exact k) : A := h k
theorem ZyL {A B : Prop} (k : B) (h : B → A := by intro k; (refine at_mem rfl ?_; refine at_want2 (by kernel_rfl) ?_; (refine at_load rfl ?_; (first | refine c_load1S X ?_ | refine c_loadNS X ?_)); (simp only [Act.put, zA, zB, zC, zD, zE, zF, zG, Nat.reduceAdd])); exact k) : A := h k
theorem ZyS {A B : Prop} (k : B) (h : B → A := by intro k; (refine at_mem rfl ?_; refine at_want2 (by kernel_rfl) ?_; (refine at_store rfl ?_; (first | refine c_store1S X ?_ | refine c_storeNS X ?_)); intro w X2; (try simp only [upd] at X2); (simp only [Act.put, zA, zB, zC, zD, zE, zF, zG, Nat.reduceAdd]); revert X2; revert w); exact k) : A := h k
theorem ZyA {A B : Prop} (k : B) (h : B → A := by intro k; (refine at_mem rfl ?_; refine at_want2 (by kernel_rfl) ?_; refine m_alloc rfl _ rfl X ?_; intro g w X2; (simp only [Act.put, zA, zB, zC, zD, zE, zF, zG, Nat.reduceAdd]); revert X2; revert g w); exact k) : A := h k
section
variable {P : Program} {ops : Array Oper} {Q : Exit → Act → World → Prop} {L0 : List Ent} {R0 : List Rd} {brk eff lds : List Nat} {i : Nat} {r : List Nat} {o : Oper} {a : Act} {S : List Nat} {w0 w : World} {L M T : List Ent} {R : List Rd}
theorem q_appO (pre : List Ent) (hi : oAt ops i = some o) {s x : Operand} {t : TypeId} (ho : o.op = .call { callee := .builtin .append, args := #[s, x], argTypes := #[t, t] }) {α : Type} {f : α → List Value} (y : α) {e : TypeId} {c bytes : Nat} [hT : SlT P t e c bytes] (hF : Flat f c)
    {g : Nat} {cs : List Value} {te : TypeId} (X : St S w0 w (⟨g, cs, te⟩ :: (pre ++ (M ++ T))) R) (hL : Under L0 R0 (⟨g, cs, te⟩ :: (pre ++ (M ++ T))) R) {v : Value} {l : List α} (hO : OwnO f e c v l M) (hs : EvR a s v) (hx : EvR a x (.slice (some ⟨g, 0, none⟩) 1 1)) (hc : f y = cs) (h20 : l.length + 1 ≤ 1048576)
    (hP : L0.Sublist pre) (he : eff.contains i = true) (hw : Region.wanted o (yielded ops a.tmps) = true)
    (h : ∀ a' cap' w' M', OwnO f e c (.slice a' (l.length + 1) cap') (l ++ [y]) M' → St S w0 w' (pre ++ (M' ++ T)) R → Under L0 R0 (pre ++ (M' ++ T)) R → SQ P ops Q L0 R0 brk eff lds r (a.put o.dst (.slice a' (l.length + 1) cap')) w') : SQ P ops Q L0 R0 brk eff lds (i :: r) a w :=
  q_eff hi he hw fun K hk => by
    have hr : RL f w (.slice (some ⟨g, 0, none⟩) 1 1) [y] := X.rd0 (l2 := [y]) (by simp [hc]) rfl (Nat.le_refl _) (by unfold maxLen; omega)
    have hby := hT.by_
    obtain ⟨v', w', M', h1, h2, h3⟩ := X.tail.pushO (P := P) t o.type bytes hF hT.elem hO y hr (Nat.le_trans (Nat.mul_le_mul h20 hby) (by decide)) (by unfold maxLen; omega)
    obtain ⟨a', cap', rfl⟩ := h2.form
    have hl : (l ++ [y]).length = l.length + 1 := by simp
    rw [hl] at h1 h2
    have hU : Under L0 R0 (pre ++ (M' ++ T)) R := ⟨hP.trans (List.sublist_append_left _ _), hL.r⟩
    unfold Oper.wp execOp
    simp only [ho, resolve, invoke, builtin, Sem.run_bind, Sem.run_pure, Result.andThen_ok, List.map_toArray, List.map_cons, List.map_nil, hs.eval, hx.eval, h1]
    exact hk _ _ (fun _ _ => h3.keeps hU) (h a' cap' w' M' h2 h3 hU)
end
end Wb
namespace Go.Proofs.YtjhmfljlclajnacGreatDoor
open Go.RowKit Wb
instance : AggT Tryz.prog 82 61 := ⟨⟨_, Tryz.underlying82, rfl⟩, by kernel_rfl⟩
instance : AggT Tryz.prog 58 12 := ⟨⟨_, Tryz.underlying58, rfl⟩, by kernel_rfl⟩
instance : ZeroT Tryz.prog 58 [.int .i64 0, .int .i64 0, .int .i64 0, .int .i64 0, .int .i64 0, .int .i64 0, .int .i64 0, .int .i64 0, .int .i64 0, .int .i64 0, .int .i64 0, .int .i64 0] := ⟨by kernel_rfl⟩
structure JK : Prop where
  fit : ∀ (s : ByteArray) (w : World), s.size ≤ 9223372036854775807 → Calls Tryz.prog 65 #[.string s] w fun e w' => e = .returned (.string (fit s)) ∧ Below w.heap.size w w'
  dnew : ∀ (w : World), Calls Tryz.prog 60 #[] w fun e w' => ∃ vs, e = .returned (.agg #[vs, .slice none 0 0]) ∧ Wb.Own strC (w.heap.size + 2) 9 1 w' vs (List.replicate 37 (Wb.fit ⟨#[]⟩)) ∧ Below w.heap.size w w'
  put : ∀ (d : Dsk) (n : Int) (t : ByteArray) (v : Value) (w : World), RDisk w v d → Calls Tryz.prog 62 #[v, .int .i64 n, .string t] w fun e w' => ∃ v', e = .returned (.tuple #[v', .int .i64 (putE d n t)]) ∧ RDisk w' v' (putD d n t) ∧ NewD w.heap.size w' v v' d (putD d n t) ∧ Below w.heap.size w w'
  flush : ∀ (d : Dsk) (v : Value) (w : World), RDisk w v d → Calls Tryz.prog 63 #[v] w fun e w' => ∃ v', e = .returned (.tuple #[v', .int .i64 (flushE d)]) ∧ RDisk w' v' (flushD d) ∧ NewD w.heap.size w' v v' d (flushD d) ∧ Below w.heap.size w w'
  crash : ∀ (d : Dsk) (x : Int) (v : Value) (w : World), RDisk w v d → x ≤ 9223372036854775807 → Calls Tryz.prog 74 #[v, .int .i64 x] w fun e w' => ∃ v', e = .returned (.tuple #[v', .int .i64 (crashE d x)]) ∧ RDisk w' v' (crashD d x) ∧ NewD w.heap.size w' v v' d (crashD d x) ∧ Below w.heap.size w w'
  read : ∀ (d : Dsk) (n : Int) (v : Value) (w : World), RDisk w v d → Calls Tryz.prog 67 #[v, .int .i64 n] w fun e w' => e = .returned (.tuple #[.string (readD d n), .int .i64 (readE d n)]) ∧ Below w.heap.size w w'
  enc : ∀ (m : Mrk) (v : Value) (w : World), RMark w v m → Calls Tryz.prog 61 #[v] w fun e w' => e = .returned (.tuple #[.string (markS m), .int .i64 (markE m)]) ∧ Below w.heap.size w w'
  free : ∀ (r : Ring) (w : World), 0 ≤ r.used → r.used ≤ 24 → Calls Tryz.prog 33 #[r.val] w fun e w' => e = .returned (.int .i64 (24 - r.used)) ∧ Below w.heap.size w w'
  give : ∀ (r : Ring) (n : Int) (w : World), Calls Tryz.prog 81 #[r.val, .int .i64 n] w fun e w' => e = .returned (.tuple #[(giveR r n).val, .int .i64 (giveE r n)]) ∧ Below w.heap.size w w'
  beg : ∀ (t : Txn) (h nn fr : Int) (vm vd vr : Value) (w : World), RTxn w (txnV t vm vd vr) t → Calls Tryz.prog 84 #[txnV t vm vd vr, .int .i64 h, .int .i64 nn, .int .i64 fr] w fun e w' => e = .returned (.tuple #[txnV (begT t h nn fr) vm vd vr, .int .i64 (begE t h nn fr)]) ∧ Below w.heap.size w w'
  stop : ∀ (t : Txn) (h : Int) (vm vd vr : Value) (w : World), RTxn w (txnV t vm vd vr) t → Calls Tryz.prog 85 #[txnV t vm vd vr, .int .i64 h] w fun e w' => e = .returned (.tuple #[txnV (stopT t h) vm vd vr, .int .i64 (stopE t h)]) ∧ Below w.heap.size w w'
  chg : ∀ (t : Txn) (h b : Int) (s : ByteArray) (vm vd vr : Value) (w : World), RTxn w (txnV t vm vd vr) t → Calls Tryz.prog 86 #[txnV t vm vd vr, .int .i64 h, .int .i64 b, .string s] w fun e w' => ∃ vm' vd' vr', e = .returned (.tuple #[txnV (chgT t h b s) vm' vd' vr', .int .i64 (chgE t h b s)]) ∧ NewT w.heap.size w' vm vd vr vm' vd' vr' t (chgT t h b s) ∧ Below w.heap.size w w'
  fil : ∀ (t : Txn) (h b : Int) (s : ByteArray) (vm vd vr : Value) (w : World), RTxn w (txnV t vm vd vr) t → Calls Tryz.prog 87 #[txnV t vm vd vr, .int .i64 h, .int .i64 b, .string s] w fun e w' => ∃ vm' vd' vr', e = .returned (.tuple #[txnV (filT t h b s) vm' vd' vr', .int .i64 (filE t h b s)]) ∧ NewT w.heap.size w' vm vd vr vm' vd' vr' t (filT t h b s) ∧ Below w.heap.size w w'
  rvk : ∀ (t : Txn) (h b : Int) (vm vd vr : Value) (w : World), RTxn w (txnV t vm vd vr) t → Calls Tryz.prog 88 #[txnV t vm vd vr, .int .i64 h, .int .i64 b] w fun e w' => ∃ vm' vd' vr', e = .returned (.tuple #[txnV (rvkT t h b) vm' vd' vr', .int .i64 (rvkE t h b)]) ∧ NewT w.heap.size w' vm vd vr vm' vd' vr' t (rvkT t h b) ∧ Below w.heap.size w w'
  get : ∀ (l : List Cpy) (b : Int) (v : Value) (w : World), RL cpyC w v l → l.length ≤ 5864062014805 → Calls Tryz.prog 83 #[v, .int .i64 b] w fun e w' => e = .returned (.tuple #[.string ((getC l b).getD ⟨#[]⟩), .bool (getC l b).isSome]) ∧ Below w.heap.size w w'
  opn : ∀ (t : Txn) (v : Value) (w : World), RTxn w v t → Calls Tryz.prog 29 #[v] w fun e w' => e = .returned (.bool (openB t)) ∧ Below w.heap.size w w'
  com : ∀ (r : Ring) (t : Txn) (v : Value) (w : World), RTxn w v t → Sl w (flR 0).v 1 (flR 0).cs → Calls Tryz.prog 80 #[r.val, v] w fun e w' => ∃ v', e = .returned (.tuple #[(comR r t).val, v', .int .i64 (comE r t)]) ∧ Wb.Own stpC w.heap.size 127 3 w' v' (comL r t) ∧ Below w.heap.size w w'
  newest : ∀ (l : List Txn), (∀ t ∈ l, goodT t = true) → ∀ (v : Value) (w : World), RTxns w v l → Calls Tryz.prog 82 #[v] w fun e w' => ∃ v', e = .returned v' ∧ Wb.Own cpyC w.heap.size 92 2 w' v' (newestL l) ∧ Below w.heap.size w w'
  check : ∀ (l : List Cpy) (p q : Int) (v : Value) (w : World), RL cpyC w v l → l.length ≤ 5864062014805 → Sl w (flR 0).v 1 (flR 0).cs → Calls Tryz.prog 76 #[v, .int .i64 p, .int .i64 q] w fun e w' => ∃ v', e = .returned (.tuple #[v', .int .i64 (checkE l p q)]) ∧ Wb.Own stpC w.heap.size 127 3 w' v' (checkL l p q) ∧ Below w.heap.size w w'
  replay : ∀ (l : List Txn), (∀ t ∈ l, goodT t = true) → ∀ (v : Value) (w : World), RTxns w v l → Calls Tryz.prog 77 #[v] w fun e w' => ∃ v', e = .returned v' ∧ Wb.Own cpyC w.heap.size 92 2 w' v' (newestL l) ∧ Below w.heap.size w w'
  scan : ∀ (d : Dsk) (v : Value) (w : World), RDisk w v d → Calls Tryz.prog 75 #[v] w fun e w' => ∃ vt, e = .returned (.tuple #[.agg #[vt, .int .i64 (scanF d).next, .int .i64 (scanF d).at_], .int .i64 (scanE d)]) ∧ OTxns w.heap.size 40 92 3 w' vt (scanF d).txns ∧ Below w.heap.size w w'
end Go.Proofs.YtjhmfljlclajnacGreatDoor
namespace Go.Proofs.YtjhmfljlclajnacGreatDoor
open Go.RowKit Wb
set_option maxRecDepth 100000
set_option maxHeartbeats 8000000
abbrev JF (g : Nat) (j : Jn) (M : List Ent) (Rj : List Rd) : Prop := JForm 82 40 3 g j M Rj
theorem jr_Ring {S : List Nat} {w0 w : World} {L : List Ent} {R : List Rd} {g : Nat} {j : Jn} {M : List Ent} {Rj : List Rd} (F : JF g j M Rj) (X : St S w0 w (M ++ L) (Rj ++ R)) :
    Calls Tryz.prog 10 #[.pointer (some ⟨g, 0, none⟩)] w fun e w' => e = .returned (.tuple #[j.ring.val, .int .i64 j.last, .bool j.down]) ∧ St S w0 w' (M ++ L) (Rj ++ R) := by
  obtain ⟨v, ds, fs, MD, MU, hm, rfl, rfl⟩ := F
  rw [List.cons_append] at X ⊢
  unfold jCells at X ⊢
  generalize jRds v j ds fs ++ R = RR at *
  generalize MD ++ MU ++ L = LL at *
  go_enter Tryz.func10, Tryz.ntmps10
  go_upto_region 3 with (first
      | (refine ZeL ?_) | (refine ZeS ?_; clear X; intro w X) | (refine ZeA ?_; clear X; intro g w X))
  have X9 := X.perm (.swap _ _ _)
  clear X
  have X := X9
  clear X9
  (refine q_startS 1 [] [12] [3, 7, 11] [0, 1, 2, 3, 4, 5, 6, 7, 8, 9, 10, 11, 12, 13, 14] X ?_; clear X; intro hQ X hL; simp only [zF, zG] at hL; simp only [zF, zG])
  (refine Zm ?_)
  (refine Zn ?_)
  (refine Zf ?_)
  (refine Zl ?_)
  (refine Zm ?_)
  (refine Zn ?_)
  (refine Zf ?_)
  (refine Zl ?_)
  (refine Zm ?_)
  (refine Zn ?_)
  (refine Zf ?_)
  (refine Zl ?_)
  (refine Zs ?_; clear hL X; intro w X hL)
  (refine Za ?_)
  (refine Za ?_)
  refine q_nil ?_
  go_wp2
  exact m_ret3 rfl (.tmp rfl rfl) (.tmp rfl rfl) (.tmp rfl rfl) X (.tail _ (.head _)) rfl rfl ⟨rfl, X.sub (List.Sublist.cons_cons _ (List.sublist_cons_self _ _))⟩
theorem jr_crash (K : JK) {S : List Nat} {w0 w : World} {L : List Ent} {R : List Rd} {gj : Nat} {j : Jn} {M : List Ent} {Rj : List Rd} (F : JF gj j M Rj) (X : St S w0 w (M ++ L) (Rj ++ R)) (x : Int) (hx : x ≤ 9223372036854775807) :
    Calls Tryz.prog 35 #[.pointer (some ⟨gj, 0, none⟩), .int .i64 x] w fun e w' => ∃ M' Rj', e = .returned (.int .i64 (crashJ j x).2) ∧ JF gj (crashJ j x).1 M' Rj' ∧ St S w0 w' (M' ++ L) (Rj' ++ R) := by
  obtain ⟨v, ds, fs, MD, MU, hm, rfl, rfl⟩ := F
  have hsz := hm.inv.sz hm.sz
  have hdk := hsz.dk
  have hCr := fun v w (h : RDisk w v j.disk) => K.crash j.disk x v w h hx
  replace hCr := hid hCr
  rw [List.cons_append] at X
  unfold jCells at X
  by_cases hE : crashE j.disk x = 0
  · have hJ : crashJ j x = ({ zeroJ (crashD j.disk x) j.last j.acts with down := true }, 0) := by unfold crashJ; rw [if_pos hE]
    have hI := inv_crash x hm.inv
    rw [hJ] at hI ⊢
    rw [hE] at hCr
    dsimp only at hI ⊢
    generalize crashD j.disk x = D at *
    have hLL : L.Sublist (MD ++ MU ++ L) := List.sublist_append_right _ _
    generalize MD ++ MU ++ L = LL at *
    go_enter Tryz.func35, Tryz.ntmps35
    go_upto_region 4 with (first
      | (refine ZeL ?_) | (refine ZeS ?_; clear X; intro w X) | (refine ZeA ?_; clear X; intro g w X)
      | (go_at_call 74; go_loud ((with_reducible refine (hCr.out _ _ (X.jDisk hdk (fun r hr => List.mem_append_left _ hr))).mono ?_); rintro e w1 ⟨v1, rfl, hr1, hn1, hb1⟩; obtain ⟨as2, cs2, aw2, cw2, rfl, X2⟩ := X.addNewD hb1 hn1 (fun r hr => List.mem_append_left _ (jRds_dsk r hr)); replace X := X2; clear X2 hb1 hn1 hr1)))
    (refine q_startS 2 [12] [12] [1, 5, 9] [0, 1, 2, 3, 4, 5, 6, 7, 8, 9, 10, 11, 12] X ?_; clear X; intro hQ X hL; simp only [zF, zG] at hL; simp only [zF, zG])
    (refine Zm ?_)
    (refine Zl ?_)
    (refine Zm ?_)
    (refine Zn ?_)
    (refine Zf ?_)
    (refine Zl ?_)
    (refine Zm ?_)
    (refine Zn ?_)
    (refine Zf ?_)
    (refine Zl ?_)
    (refine Zg ?_)
    (refine Zn ?_)
    (refine Zb ?_; clear X; intro w X)
    refine q_nil ?_
    go_wp2
    go_ret
    refine ⟨_, _, rfl, ⟨zeroV ⟨as2, cs2⟩ ⟨aw2, cw2⟩, [], [], [], [], ⟨.nil _ _ _, .nil _ _ _, rfl, rfl, (fun x hx => by cases hx), (fun x hx => by cases hx), hI, ⟨Nat.zero_le _, Nat.zero_le _⟩⟩, rfl, rfl⟩, ?_⟩
    exact X.jZero rfl rfl rfl rfl (List.Sublist.cons _ (List.Sublist.cons_cons _ hLL)) (fun r hr => List.mem_append_right _ hr)
  · have hJ : crashJ j x = (j, crashE j.disk x) := by unfold crashJ; rw [if_neg hE]
    have hE2 : (crashE j.disk x != 0) = true := by simpa using hE
    rw [hJ]
    dsimp only
    generalize crashE j.disk x = cE at *
    go_enter Tryz.func35, Tryz.ntmps35
    go_wp2_with (first
      | (refine ZeL ?_) | (refine ZeS ?_; clear X; intro w X) | (refine ZeA ?_; clear X; intro g w X)
      | (go_at_call 74; go_loud ((with_reducible refine (hCr.out _ _ (X.jDisk hdk (fun r hr => List.mem_append_left _ hr))).mono ?_); rintro e w1 ⟨v1, rfl, hr1, hn1, hb1⟩; obtain ⟨as2, cs2, aw2, cw2, rfl, X2⟩ := X.addNewD hb1 hn1 (fun r hr => List.mem_append_left _ (jRds_dsk r hr)); replace X := X2; clear X2 hb1 hn1 hr1)))
    go_ret
    exact ⟨_, _, rfl, ⟨v, ds, fs, MD, MU, hm, rfl, rfl⟩, (X.sub (List.sublist_cons_self _ _)).rds (fun r hr => .tail _ (.tail _ hr))⟩
theorem jr_check (K : JK) {S : List Nat} {w0 w : World} {L : List Ent} {R : List Rd} {gj : Nat} {j : Jn} {M : List Ent} {Rj : List Rd} (F : JF gj j M Rj) (X : St S w0 w (M ++ L) (Rj ++ R)) (hF : flR 0 ∈ R) :
    Calls Tryz.prog 39 #[.pointer (some ⟨gj, 0, none⟩)] w fun e w' => ∃ M' Rj', e = .returned (.int .i64 (checkJ j).2) ∧ JF gj (checkJ j).1 M' Rj' ∧ St S w0 w' (M' ++ L) (Rj' ++ R) := by
  obtain ⟨v, ds, fs, MD, MU, hm, rfl, rfl⟩ := F
  have hsz := hm.inv.sz hm.sz
  rw [List.cons_append] at X
  unfold jCells at X
  by_cases hw : j.work = 0
  · have hw2 : (j.work != 0) = false := by simpa using hw
    by_cases hd : j.done.length = 0
    · have hJ : checkJ j = (j, 4) := by unfold checkJ; rw [if_neg (not_not_intro hw), if_pos hd]
      rw [hJ]
      dsimp only
      have hd2 : ((j.done.length : Int) == 0) = true := by rw [hd]; rfl
      clear hw hd
      go_enter Tryz.func39, Tryz.ntmps39
      go_wp2_with (first
        | (refine ZeL ?_) | (refine ZeS ?_; clear X; intro w X) | (refine ZeA ?_; clear X; intro g w X))
      go_ret
      exact ⟨_, _, rfl, ⟨v, ds, fs, MD, MU, hm, rfl, rfl⟩, X⟩
    · obtain ⟨hu, hn, hs, hdn⟩ := hm.inv.up hw (.inr hd)
      have hJ : checkJ j = ({ j with after := giveR j.ring j.used.sum, steps := checkL (newestL j.done) j.ring.head (j.last + 1), pending := j.done.length, work := 2 }, 0) := by unfold checkJ; rw [if_neg (not_not_intro hw), if_neg hd]
      have hI := inv_check hdn hm.inv
      rw [hJ] at hI ⊢
      dsimp only at hI ⊢
      have hd2 : ((j.done.length : Int) == 0) = false := beq_eq_false_iff_ne.2 (by omega)
      have hgr := (goodR_iff _).1 hu.ring
      have hsum : ∀ k, 0 ≤ (j.used.take k).sum ∧ (j.used.take k).sum ≤ 24 := fun k => by
        have := sum_take_le hu.pos k
        rw [hu.sum] at this
        omega
      have hst := fun k (hk : k < j.used.length) => sum_step hk
      have hg := newestL_copies hu.log.goods
      have hb := hu.log.bounds
      have hck := (chk_ok hg hb.1 hb.2.1).2
      have hul := hsz.used
      have hlast : IntKind.i64.wrap (j.last + 1) = j.last + 1 := IntWalk.i64_in _ (by have := hu.last; omega)
      have hNw := fun v w (h : RTxns w v j.done) => K.newest j.done hu.log.goods v w h
      have hCk := fun v w (h : RL cpyC w v (newestL j.done)) hF => K.check (newestL j.done) j.ring.head (j.last + 1) v w h (by have := copies_len hg; omega) hF
      have hGi := fun w => K.give j.ring j.used.sum w
      unfold Ring.val at hGi
      clear hw hd hu hn hs hdn hJ hg hb hgr
      generalize checkE (newestL j.done) j.ring.head (j.last + 1) = cE at *
      generalize checkL (newestL j.done) j.ring.head (j.last + 1) = ST at *
      generalize newestL j.done = NL at *
      generalize giveE j.ring j.used.sum = gE at *
      generalize giveR j.ring j.used.sum = gR at *
      replace hNw := hid hNw; replace hCk := hid hCk; replace hGi := hid hGi; replace hsum := hid hsum; replace hst := hid hst; replace hI := hid hI; replace hck := hid hck; replace hm := hid hm; replace hsz := hid hsz
      go_enter Tryz.func39, Tryz.ntmps39
      go_wp2_with (first
        | (refine ZeL ?_) | (refine ZeS ?_; clear X; intro w X) | (refine ZeA ?_; clear X; intro g w X))
      go_loopw [3, 24] (fun s i wr => ∃ k : Nat, k ≤ j.used.length ∧ s = .int .i64 (j.used.take k).sum ∧ i = .int .i64 k ∧ St S w0 wr (⟨gj, jCells v j, 82⟩ :: (MD ++ MU ++ L)) (jRds v j ds fs ++ R)) (fun _ i _ => j.used.length - (intOf i).toNat)
      case atStart => exact ⟨0, Nat.zero_le _, rfl, rfl, X⟩
      case round =>
        clear X
        obtain ⟨k, hk, rfl, rfl, X⟩ := hrel
        by_cases hlt : k < j.used.length
        · obtain ⟨b4, off4, hb4, d0⟩ := RL.at1 (fun x : Int => .int .i64 x) (fun _ => rfl) (X.jUsed hm.out) hlt
          rw [hb4]
          have h1 := hst.out k hlt
          have h2 := hsum.out (k + 1)
          have hwr : IntKind.i64.wrap ((j.used.take k).sum + j.used[k]) = (j.used.take (k + 1)).sum := by rw [h1]; exact IntWalk.i64_in _ (by rw [← h1]; omega)
          clear h1 h2
          generalize j.used[k] = x at *
          generalize hs1 : (j.used.take (k + 1)).sum = s1 at *
          generalize (j.used.take k).sum = s0 at *
          replace hs1 := hid hs1
          go_wp2
          go_roundw
          case rel => exact ⟨k + 1, by omega, by rw [hs1.out], by go_num, X⟩
          case measure => simp [intOf]; omega
        · obtain rfl : k = j.used.length := by omega
          rw [List.take_length]
          unfold jCells at X
          clear hst hsum hk hlt
          go_upto_region 12 with (first
            | (refine ZeL ?_) | (refine ZeS ?_; clear X; intro w X) | (refine ZeA ?_; clear X; intro g w X)
            | (go_at_call 81; go_loud ((with_reducible refine (hGi.out _).mono ?_); rintro e w1 ⟨rfl, hb1⟩; replace X := X.call hb1; clear hb1)))
          (refine q_startS 1 [22] [5, 16, 22] [4, 10, 14] [0, 1, 2, 3, 4, 6, 7, 8, 9, 10, 11, 12, 13, 14, 15, 5, 16, 17, 18, 19, 20, 21, 22] X ?_; clear X; intro hQ X hL; simp only [zF, zG] at hL; simp only [zF, zG])
          (refine Zm ?_)
          (refine Zm ?_)
          (refine Zn ?_)
          (refine Zf ?_)
          (refine Zl ?_)
          (refine Zm ?_)
          (refine Zn ?_)
          (refine Zf ?_)
          (refine Zf ?_)
          (refine Zl ?_)
          (refine Zm ?_)
          (refine Zn ?_)
          (refine Zf ?_)
          (refine Zl ?_)
          (refine Zg ?_)
          (refine q_callS 82 Tryz.func82 (hNw.out _ _ (X.jDone2 hm.out hsz.out (fun r hr => List.mem_append_left _ hr))) ?_; rintro e w1 ⟨v1, rfl, ho1, hb1⟩; obtain ⟨a1, c1, rfl⟩ := ho1.form; replace X := X.addOwn hb1 ho1; clear hb1 ho1; refine Zce ?_; clear hL; intro hL)
          (refine q_callS 76 Tryz.func76 (hCk.out _ _ X.r0 (X.rd _ (List.Mem.tail _ (List.mem_append_right _ hF))).1) ?_; rintro e w1 ⟨v3, rfl, ho1, hb1⟩; obtain ⟨a3, c3, rfl⟩ := ho1.form; replace X := X.addOwn hb1 ho1; clear hb1 ho1; refine Zce ?_; clear hL; intro hL)
          (refine Zm ?_)
          (refine Zx ?_)
          (refine Zx ?_)
          (refine Zn ?_)
          (refine Zf ?_)
          (refine Zb ?_; clear X; intro w X)
          refine q_nil ?_
          go_wp2_with (first
            | (refine ZeL ?_) | (refine ZeS ?_; clear X; intro w X) | (refine ZeA ?_; clear X; intro g w X))
          go_ret
          refine ⟨_, _, rfl, ⟨{ v with st := ⟨a3, c3⟩ }, ds, fs, MD, MU, ⟨hm.out.dn, hm.out.us, hm.out.dmap, hm.out.fmap, hm.out.dfit, hm.out.ffit, hI.out, ⟨hm.out.sz.1, ?_⟩⟩, rfl, rfl⟩, ?_⟩
          · have := hck.out
            show ST.length ≤ 100
            omega
          · exact X.rds (jRds_sub Zfl Zfl Zfl Zfl Zfl Zfl Zfl Zfl Zfl Zfl (fun r hr => .tail _ (.tail _ (inF_in r hr))) (fun r hr => .tail _ (.tail _ (inD_in r hr))) (fun r hr => .tail _ (.tail _ (List.mem_append_right _ hr))))
  · have hJ : checkJ j = (j, 9) := by unfold checkJ; rw [if_pos hw]
    rw [hJ]
    dsimp only
    have hw2 : (j.work != 0) = true := by simpa using hw
    clear hw
    go_enter Tryz.func39, Tryz.ntmps39
    go_wp2_with (first
      | (refine ZeL ?_) | (refine ZeS ?_; clear X; intro w X) | (refine ZeA ?_; clear X; intro g w X))
    go_ret
    exact ⟨_, _, rfl, ⟨v, ds, fs, MD, MU, hm, rfl, rfl⟩, X⟩
theorem _root_.Wb.InvJ.off' {j : Jn} (h : InvJ j) (hd : j.down = true) (hw : j.work = 0) : DnI j.disk j.last ∧ j.found = fnd0 := by
  cases h with
  | idle hd0 => rw [hd0] at hd; cases hd
  | sealing d r us k hd0 => rw [hd0] at hd; cases hd
  | homing d k hd0 => rw [hd0] at hd; cases hd
  | off hj hu => exact ⟨hu, by rw [hj]; rfl⟩
  | rising d k hj => rw [hj] at hw; cases hw
theorem jr_begin (K : JK) {S : List Nat} {w0 w : World} {L : List Ent} {R : List Rd} {gj : Nat} {j : Jn} {M : List Ent} {Rj : List Rd} (F : JF gj j M Rj) (X : St S w0 w (M ++ L) (Rj ++ R)) (hF : flR 0 ∈ R) :
    Calls Tryz.prog 36 #[.pointer (some ⟨gj, 0, none⟩)] w fun e w' => ∃ M' Rj', e = .returned (.int .i64 (beginJ j).2) ∧ JF gj (beginJ j).1 M' Rj' ∧ St S w0 w' (M' ++ L) (Rj' ++ R) := by
  obtain ⟨v, ds, fs, MD, MU, hm, rfl, rfl⟩ := F
  have hsz := hm.inv.sz hm.sz
  have hdk := hsz.dk
  rw [List.cons_append] at X
  unfold jCells at X
  by_cases hd : j.down = false
  · have hJ : beginJ j = (j, 9) := by unfold beginJ; rw [if_pos (.inl hd)]
    rw [hJ]
    dsimp only
    go_enter Tryz.func36, Tryz.ntmps36
    go_wp2_with (first
      | (refine ZhL ?_) | (refine ZhS ?_; clear X; intro w X) | (refine ZhA ?_; clear X; intro g w X))
    go_ret
    exact ⟨_, _, rfl, ⟨v, ds, fs, MD, MU, hm, rfl, rfl⟩, X⟩
  · have hdt : j.down = true := by simpa using hd
    by_cases hw : j.work = 0
    · obtain ⟨hdn, hfd⟩ := hm.inv.off' hdt hw
      obtain ⟨e1, e2, e3, e4, e5⟩ := hdn.scan
      have hJ : beginJ j = ({ j with found := scanF j.disk, steps := checkL (newestL (scanF j.disk).txns) (scanF j.disk).at_ (scanF j.disk).next, work := 3 }, 0) := by unfold beginJ; rw [if_neg (by rw [hdt, hw]; simp), if_neg (by rw [e1]; decide), if_neg (by rw [e3]; decide)]
      have hI := inv_begin hm.inv
      rw [hJ] at hI ⊢
      dsimp only at hI ⊢
      have hw2 : (j.work != 0) = false := by simpa using hw
      have hg := newestL_copies e2
      obtain ⟨b1, b2⟩ := scan_bounds e1
      have hck := (chk_ok hg b1 b2).2
      have hSc := fun v w (h : RDisk w v j.disk) => K.scan j.disk v w h
      rw [e1] at hSc
      have hRp := fun v w (h : RTxns w v (scanF j.disk).txns) => K.replay (scanF j.disk).txns e2 v w h
      have hCk := fun v w (h : RL cpyC w v (newestL (scanF j.disk).txns)) hF => K.check (newestL (scanF j.disk).txns) (scanF j.disk).at_ (scanF j.disk).next v w h (by have := copies_len hg; omega) hF
      rw [e3] at hCk
      clear hJ hd hw e1 e2 e3 e4 hg b1 b2 hdn
      generalize checkL (newestL (scanF j.disk).txns) (scanF j.disk).at_ (scanF j.disk).next = ST at *
      generalize newestL (scanF j.disk).txns = NL at *
      generalize scanF j.disk = FF at *
      obtain ⟨fl, fn, fa⟩ := FF
      dsimp only at *
      replace hSc := hid hSc; replace hRp := hid hRp; replace hCk := hid hCk; replace hI := hid hI; replace hck := hid hck; replace hm := hid hm; replace hsz := hid hsz; replace hfd := hid hfd
      go_enter Tryz.func36, Tryz.ntmps36
      go_upto_region 7 with (first
        | (refine ZhL ?_) | (refine ZhS ?_; clear X; intro w X) | (refine ZhA ?_; clear X; intro g w X)
        | (go_at_call 75; go_loud ((with_reducible refine (hSc.out _ _ (X.jDisk hdk (fun r hr => List.mem_append_left _ hr))).mono ?_); rintro e w2 ⟨vt, rfl, of1, hb2⟩; obtain ⟨at1, ct1, rfl⟩ := of1.form; obtain ⟨xs, hxs, hxf, X2⟩ := X.addOTxns hb2 of1; replace X := X2; clear hb2 of1 X2)))
      have hxl : xs.length ≤ 1099511627744 := by have := congrArg List.length hxs; simp at this; omega
      (refine q_startS 1 [] [3, 8, 14] [2, 5, 7] [0, 1, 2, 4, 5, 6, 7, 3, 8, 9, 10, 11, 12, 13, 14, 15] X ?_; clear X; intro hQ X hL; simp only [zF, zG] at hL; simp only [zF, zG])
      (refine Zm ?_)
      (refine Zf ?_)
      (refine Zl ?_)
      (refine Zf ?_)
      (refine Zl ?_)
      (refine Zf ?_)
      (refine Zl ?_)
      (refine q_callS 77 Tryz.func77 (hRp.out _ _ (by have hq := X.txns hxf hxl (fun r hr => List.mem_append_left _ hr); rw [hxs] at hq; exact hq)) ?_; rintro e w1 ⟨v1, rfl, ho1, hb1⟩; obtain ⟨a1, c1, rfl⟩ := ho1.form; replace X := X.addOwn hb1 ho1; clear hb1 ho1; refine Zce ?_; clear hL; intro hL)
      (refine q_callS 76 Tryz.func76 (hCk.out _ _ X.r0 (X.rd _ (List.Mem.tail _ (List.mem_append_right _ (List.mem_append_right _ hF)))).1) ?_; rintro e w1 ⟨v3, rfl, ho1, hb1⟩; obtain ⟨a3, c3, rfl⟩ := ho1.form; replace X := X.addOwn hb1 ho1; clear hb1 ho1; refine Zce ?_; clear hL; intro hL)
      (refine Zm ?_)
      (refine Zx ?_)
      (refine Zx ?_)
      (refine Zn ?_)
      (refine Zf ?_)
      (refine Zs ?_; clear hL X; intro w X hL)
      (refine Za ?_)
      refine q_nil ?_
      go_wp2_with (first
        | (refine ZhL ?_) | (refine ZhS ?_; clear X; intro w X) | (refine ZhA ?_; clear X; intro g w X))
      go_ret
      refine ⟨_, _, rfl, ⟨{ v with st := ⟨a3, c3⟩, ft := ⟨at1, ct1⟩ }, ds, xs, MD, MU, ⟨hm.out.dn, hm.out.us, hm.out.dmap, hxs, hm.out.dfit, hxf, hI.out, ⟨e5, ?_⟩⟩, rfl, rfl⟩, ?_⟩
      · have := hck.out
        show ST.length ≤ 100
        omega
      · exact (X.sub (List.sublist_cons_self _ _)).rds (jRds_sub (.tail _ (.tail _ (List.mem_append_right _ Zfl))) (.tail _ (.tail _ (List.mem_append_right _ Zfl))) (.tail _ (.tail _ (List.mem_append_right _ Zfl))) (.tail _ (.tail _ (List.mem_append_right _ Zfl))) (.tail _ (.tail _ (List.mem_append_right _ Zfl))) (.tail _ (.tail _ (List.mem_append_right _ Zfl))) (.tail _ (.tail _ (List.mem_append_right _ Zfl))) (.tail _ (.tail _ (List.mem_append_right _ Zfl))) (.head _) (.tail _ (.tail _ (.head _))) (fun r hr => .tail _ (.tail _ (List.mem_append_left _ (.tail _ hr)))) (fun r hr => .tail _ (.tail _ (List.mem_append_right _ (inD_in r hr)))) (fun r hr => .tail _ (.tail _ (List.mem_append_right _ (List.mem_append_right _ hr)))))
    · have hJ : beginJ j = (j, 9) := by unfold beginJ; rw [if_pos (.inr hw)]
      rw [hJ]
      dsimp only
      have hw2 : (j.work != 0) = true := by simpa using hw
      clear hw hd
      go_enter Tryz.func36, Tryz.ntmps36
      go_wp2_with (first
        | (refine ZhL ?_) | (refine ZhS ?_; clear X; intro w X) | (refine ZhA ?_; clear X; intro g w X))
      go_ret
      exact ⟨_, _, rfl, ⟨v, ds, fs, MD, MU, hm, rfl, rfl⟩, X⟩
end Go.Proofs.YtjhmfljlclajnacGreatDoor
namespace Go.Proofs.YtjhmfljlclajnacGreatDoor
open Go.RowKit Wb
instance : SlT Tryz.prog 59 127 3 32 := ⟨Elem.mk' (z := .agg #[.int .i64 0, .int .i64 0, .string ⟨#[]⟩]) Tryz.underlying59 (by kernel_rfl) rfl, by decide, by decide, by decide⟩
instance : SlT Tryz.prog 34 92 2 24 := ⟨Elem.mk' (z := .agg #[.int .i64 0, .string ⟨#[]⟩]) Tryz.underlying34 (by kernel_rfl) rfl, by decide, by decide, by decide⟩
instance : SlT Tryz.prog 35 3 1 8 := ⟨Elem.mk' (z := .int .i64 0) Tryz.underlying35 (by kernel_rfl) rfl, by decide, by decide, by decide⟩
instance : SlT Tryz.prog 43 9 1 16 := ⟨Elem.mk' (z := .string ⟨#[]⟩) Tryz.underlying43 (by kernel_rfl) rfl, by decide, by decide, by decide⟩
instance : SlT Tryz.prog 100 140 2 16 := ⟨Elem.mk' (z := .agg #[.int .i64 0, .bool false]) Tryz.underlying100 (by kernel_rfl) rfl, by decide, by decide, by decide⟩
instance : SlT Tryz.prog 57 40 10 128 := ⟨Elem.mk' (z := .agg #[.int .i64 0, .slice none 0 0, .slice none 0 0, .slice none 0 0, .bool false, .int .i64 0, .bool false, .int .i64 0, .bool false, .int .i64 0]) Tryz.underlying57 (by kernel_rfl) rfl, by decide, by decide, by decide⟩
instance : OneT Tryz.prog 168 := ⟨⟨_, Tryz.underlying168, rfl⟩, by kernel_rfl⟩
instance : ZeroT Tryz.prog 168 [.nilFunc] := ⟨by kernel_rfl⟩
instance : OneT Tryz.prog 169 := ⟨⟨_, Tryz.underlying169, rfl⟩, by kernel_rfl⟩
instance : ZeroT Tryz.prog 169 [.nilFunc] := ⟨by kernel_rfl⟩
end Go.Proofs.YtjhmfljlclajnacGreatDoor
namespace Go.Proofs.YtjhmfljlclajnacGreatDoor
open Go.RowKit Wb
set_option maxRecDepth 100000
set_option maxHeartbeats 8000000
theorem jr_noC (c : Int) (w : World) :
    Calls Tryz.prog 79 #[.int .i64 c] w fun e w' => e = .returned (.agg #[.int .i64 c, .int .i64 0, .string ⟨#[]⟩]) ∧ Below w.heap.size w w' := by
  have X : St [] w w [] [] := St.start [] w
  go_enter Tryz.func79, Tryz.ntmps79
  go_wp2_with (first
    | (refine ZyL ?_) | (refine ZyS ?_; clear X; intro w X) | (refine ZyA ?_; clear X; intro g w X))
  exact m_ret1 rfl (.tmp rfl rfl) X (.head _) rfl rfl ⟨rfl, X.below⟩
theorem jr_commit (K : JK) {S : List Nat} {w0 w : World} {L : List Ent} {R : List Rd} {gj : Nat} {j : Jn} {M : List Ent} {Rj : List Rd} (F : JF gj j M Rj) (X : St S w0 w (M ++ L) (Rj ++ R)) (hF : flR 0 ∈ R) (hd : j.down = false) :
    Calls Tryz.prog 38 #[.pointer (some ⟨gj, 0, none⟩)] w fun e w' => ∃ M' Rj', e = .returned (commitJ j).2.val ∧ JF gj (commitJ j).1 M' Rj' ∧ St S w0 w' (M' ++ L) (Rj' ++ R) := by
  obtain ⟨v, ds, fs, MD, MU, hm, rfl, rfl⟩ := F
  have hsz := hm.inv.sz hm.sz
  rw [List.cons_append] at X
  unfold jCells at X
  have hNo := fun c w => jr_noC c w
  have hOp := fun v w h => K.opn j.now v w h
  by_cases hw : j.work = 0
  · have hw2 : (j.work != 0) = false := by simpa using hw
    have hwn : ¬ j.work ≠ 0 := not_not_intro hw
    clear hw
    cases ho : openB j.now with
    | true =>
      have hJ : commitJ j = (j, noR 9) := by unfold commitJ; rw [if_pos (.inr ho)]
      rw [hJ]
      rw [ho] at hOp
      clear ho hwn hJ
      replace hNo := hid hNo; replace hOp := hid hOp; replace hsz := hid hsz; replace hm := hid hm
      go_enter Tryz.func38, Tryz.ntmps38
      go_wp2_with (first
        | (refine ZyL ?_) | (refine ZyS ?_; clear X; intro w X) | (refine ZyA ?_; clear X; intro g w X)
        | (go_at_call 79; go_loud ((with_reducible refine (hNo.out _ _).mono ?_); rintro e w1 ⟨rfl, hb1⟩; replace X := X.call hb1; clear hb1))
        | (go_at_call 29; go_loud ((with_reducible refine (hOp.out _ _ (X.jNow hsz.out (fun r hr => List.mem_append_left _ hr))).mono ?_); rintro e w1 ⟨rfl, hb1⟩; replace X := X.call hb1; clear hb1)))
      exact m_ret1 rfl (.tmp rfl rfl) X (.tail _ (.head _)) rfl rfl ⟨_, _, rfl, ⟨v, ds, fs, MD, MU, hm.out, rfl, rfl⟩, X.sub (List.Sublist.cons _ (List.sublist_cons_self _ _))⟩
    | false =>
      have hl := hsz.now
      rw [ho] at hOp
      have hwo : ¬ (j.work ≠ 0 ∨ openB j.now = true) := fun h => h.elim hwn (by rw [ho]; decide)
      clear hwn
      by_cases h0 : j.now.mt.length + j.now.dt.length + j.now.rev.length = 0
      · have hJ : commitJ j = (j, noR 4) := by unfold commitJ; rw [if_neg hwo, if_pos h0]
        rw [hJ]
        have e1 : (((j.now.mt.length : Int) + (j.now.dt.length : Int) + (j.now.rev.length : Int)) == 0) = true := by simp; omega
        clear ho hwo hJ h0
        replace hNo := hid hNo; replace hOp := hid hOp; replace hsz := hid hsz; replace hm := hid hm
        go_enter Tryz.func38, Tryz.ntmps38
        go_wp2_with (first
              | (refine ZyL ?_) | (refine ZyS ?_; clear X; intro w X) | (refine ZyA ?_; clear X; intro g w X)
              | (go_at_call 79; go_loud ((with_reducible refine (hNo.out _ _).mono ?_); rintro e w1 ⟨rfl, hb1⟩; replace X := X.call hb1; clear hb1))
              | (go_at_call 29; go_loud ((with_reducible refine (hOp.out _ _ (X.jNow hsz.out (fun r hr => List.mem_append_left _ hr))).mono ?_); rintro e w1 ⟨rfl, hb1⟩; replace X := X.call hb1; clear hb1)))
        exact m_ret1 rfl (.tmp rfl rfl) X (.tail _ (.head _)) rfl rfl ⟨_, _, rfl, ⟨v, ds, fs, MD, MU, hm.out, rfl, rfl⟩, X.sub (List.Sublist.cons _ (List.sublist_cons_self _ _))⟩
      · have e1 : (((j.now.mt.length : Int) + (j.now.dt.length : Int) + (j.now.rev.length : Int)) == 0) = false := beq_eq_false_iff_ne.2 (by omega)
        by_cases hq : 2147483646 ≤ j.now.seq
        · have hJ : commitJ j = (j, noR 11) := by unfold commitJ; rw [if_neg hwo, if_neg h0, if_pos hq]
          rw [hJ]
          clear ho hwo hJ h0
          replace hNo := hid hNo; replace hOp := hid hOp; replace hsz := hid hsz; replace hm := hid hm
          go_enter Tryz.func38, Tryz.ntmps38
          go_wp2_with (first
              | (refine ZyL ?_) | (refine ZyS ?_; clear X; intro w X) | (refine ZyA ?_; clear X; intro g w X)
              | (go_at_call 79; go_loud ((with_reducible refine (hNo.out _ _).mono ?_); rintro e w1 ⟨rfl, hb1⟩; replace X := X.call hb1; clear hb1))
              | (go_at_call 29; go_loud ((with_reducible refine (hOp.out _ _ (X.jNow hsz.out (fun r hr => List.mem_append_left _ hr))).mono ?_); rintro e w1 ⟨rfl, hb1⟩; replace X := X.call hb1; clear hb1)))
          exact m_ret1 rfl (.tmp rfl rfl) X (.tail _ (.head _)) rfl rfl ⟨_, _, rfl, ⟨v, ds, fs, MD, MU, hm.out, rfl, rfl⟩, X.sub (List.Sublist.cons _ (List.sublist_cons_self _ _))⟩
        · have hCm := fun v w h hF => K.com j.ring j.now v w h hF
          unfold Ring.val at hCm
          by_cases hc : comE j.ring j.now = 0
          · have hJ : commitJ j = ({ j with used := j.used ++ [(comR j.ring j.now).used - j.ring.used], ring := comR j.ring j.now, sealed := j.now, steps := comL j.ring j.now, work := 1, now := txn0 (j.now.seq + 1) }, ⟨0, j.now.seq, ⟨#[]⟩⟩) := by unfold commitJ; rw [if_neg hwo, if_neg h0, if_neg hq, if_neg (not_not_intro hc)]
            have hI := inv_commit hd hm.inv
            rw [hJ] at hI ⊢
            dsimp only at hI ⊢
            rw [hc] at hCm
            have hcl := (com_ok hc).2
            obtain ⟨g1, g, g3, g4, g5, g6⟩ := comE_zero hc
            obtain ⟨u1, u2⟩ := comR_used hc
            have u3 := (goodR_iff _).1 u1
            have hwr : IntKind.i64.wrap ((comR j.ring j.now).used - j.ring.used) = (comR j.ring j.now).used - j.ring.used := IntWalk.i64_in _ (by omega)
            have hws : IntKind.i64.wrap (j.now.seq + 1) = j.now.seq + 1 := IntWalk.i64_in _ (by have := g.seq; omega)
            have hul := hsz.used
            clear ho hwo hJ h0 g1 g g3 g4 g5 g6 u1 u2 u3 hc
            generalize comR j.ring j.now = cr at *
            generalize comL j.ring j.now = ST at *
            replace hNo := hid hNo; replace hOp := hid hOp; replace hsz := hid hsz; replace hm := hid hm; replace hCm := hid hCm; replace hI := hid hI; replace hcl := hid hcl
            rw [List.append_assoc] at X
            go_enter Tryz.func38, Tryz.ntmps38
            go_upto_region 9 with (first
                  | (refine ZyL ?_) | (refine ZyS ?_; clear X; intro w X) | (refine ZyA ?_; clear X; intro g w X)
                  | (go_at_call 79; go_loud ((with_reducible refine (hNo.out _ _).mono ?_); rintro e w1 ⟨rfl, hb1⟩; replace X := X.call hb1; clear hb1))
                  | (go_at_call 29; go_loud ((with_reducible refine (hOp.out _ _ (X.jNow hsz.out (fun r hr => List.mem_append_left _ hr))).mono ?_); rintro e w1 ⟨rfl, hb1⟩; replace X := X.call hb1; clear hb1)))
            (refine q_treeS 3 [] [5, 10, 11] [3, 4] (.fork [0, 1, 2, 3, 4] (.fin [5, 6, 7, 8, 9, 10, 11, 12, 13]) (.fin [10, 5, 6, 7, 8, 9, 11, 12, 13])) X ?_; clear X; intro hQ X hL; simp only [zF, zG] at hL; simp only [zF, zG])
            refine t_fork (fun _ => ?_) hQ
            (refine Zm ?_)
            (refine Zn ?_)
            (refine Zf ?_)
            (refine Zl ?_)
            (refine Zl ?_)
            refine t_two ?_ ?_
            · refine t_fin ?_
              (refine q_callS 80 Tryz.func80 (hCm.out _ _ (X.jNow hsz.out (fun r hr => List.mem_append_left _ hr)) (X.rd _ (List.mem_append_right _ hF)).1) ?_; rintro e w1 ⟨v3, rfl, ho1, hb1⟩; obtain ⟨a3, c3, rfl⟩ := ho1.form; replace X := X.addOwn hb1 ho1; clear hb1 ho1; refine Zce ?_; clear hL; intro hL)
              (refine Zm ?_)
              (refine Zx ?_)
              (refine Zx ?_)
              (refine Zx ?_)
              (refine Zq ?_; clear hL X; intro g w X hL)
              (refine Zs ?_; clear hL X; intro w X hL)
              (refine Za ?_)
              (refine Za ?_)
              refine q_nil ?_
              go_upto_region 12 with (first
                | (refine ZyL ?_) | (refine ZyS ?_; clear X; intro w X) | (refine ZyA ?_; clear X; intro g w X))
              (refine q_startS 4 [17] [13, 14, 17] [4, 6, 11] [0, 1, 2, 3, 4, 5, 6, 7, 8, 9, 10, 11, 12, 13, 14, 15, 16, 17] X ?_; clear X; intro hQ X hL; simp only [zF, zG] at hL; simp only [zF, zG])
              (refine Zm ?_)
              (refine Zm ?_)
              (refine Zn ?_)
              (refine Zf ?_)
              (refine Zl ?_)
              (refine Zf ?_)
              (refine Zl ?_)
              (refine Zm ?_)
              (refine Zn ?_)
              (refine Zf ?_)
              (refine Zf ?_)
              (refine Zl ?_)
              (refine Zg ?_)
              (refine q_build1 rfl rfl Zev (by rfl) (by rfl) X hL rfl rfl ?_; intro g w X2 hL2; replace X := X2; replace hL := hL2; clear X2 hL2; (simp only [Act.put, zA, zB, zC, zD, zE, zF, zG, Nat.reduceAdd]))
              refine q_appO (_ :: _ :: _ :: _ :: MD) rfl rfl (cr.used - j.ring.used) intC_flat X hL hm.out.us Zev Zev rfl (by omega) Zsu rfl rfl ?_
              intro a5 c5 w5 MU5 hO5 X2 hL2
              replace X := X2
              replace hL := hL2
              clear X2 hL2
              simp only [List.cons_append] at X hL
              (simp only [Act.put, zA, zB, zC, zD, zE, zF, zG, Nat.reduceAdd])
              (refine Zn ?_)
              (refine Zf ?_)
              (refine Zb ?_; clear X; intro w X)
              refine q_nil ?_
              go_upto_region 13 with (first
                | (refine ZyL ?_) | (refine ZyS ?_; clear X; intro w X) | (refine ZyA ?_; clear X; intro g w X))
              (refine q_startS 2 [] [9, 12, 15, 18] [4, 5] [0, 1, 2, 3, 4, 5, 6, 7, 8, 9, 10, 11, 12, 13, 14, 15, 16, 17, 18] X ?_; clear X; intro hQ X hL; simp only [zF, zG] at hL; simp only [zF, zG])
              (refine Zm ?_)
              (refine Zm ?_)
              (refine Zm ?_)
              (refine Zm ?_)
              (refine Zl ?_)
              (refine Zl ?_)
              (refine Zm ?_)
              (refine Zn ?_)
              (refine Zf ?_)
              (refine Zs ?_; clear hL X; intro w X hL)
              (refine Zn ?_)
              (refine Zf ?_)
              (refine Zs ?_; clear hL X; intro w X hL)
              (refine Zn ?_)
              (refine Zf ?_)
              (refine Zs ?_; clear hL X; intro w X hL)
              (refine Zn ?_)
              (refine Zf ?_)
              (refine Zs ?_; clear hL X; intro w X hL)
              refine q_nil ?_
              go_wp2_with (first
                | (refine ZyL ?_) | (refine ZyS ?_; clear X; intro w X) | (refine ZyA ?_; clear X; intro g w X))
              have hul2 : (j.used ++ [cr.used - j.ring.used]).length = j.used.length + 1 := by simp
              rw [← hul2] at hO5 X
              refine m_ret1 rfl (.tmp rfl rfl) X (.tail _ (.tail _ (.head _))) rfl rfl ⟨_, _, rfl, ⟨{ v with st := ⟨a3, c3⟩, us := ⟨a5, c5⟩, nm := nilAC, nd := nilAC, nr := nilAC, sm := v.nm, sd := v.nd, sr := v.nr }, ds, fs, MD, MU5, ⟨hm.out.dn, hO5, hm.out.dmap, hm.out.fmap, hm.out.dfit, hm.out.ffit, hI.out, ⟨hm.out.sz.1, hcl.out⟩⟩, rfl, rfl⟩, ?_⟩
              rw [List.cons_append, List.append_assoc]
              exact (X.addNil.sub (List.Sublist.cons _ (List.Sublist.cons _ (List.sublist_cons_self _ _)))).rds (jRds_sub Zfl Zfl Zfl Zfl Zfl Zfl Zfl Zfl Zfl Zfl (fun r hr => .tail _ (.tail _ (inF_in r hr))) (fun r hr => .tail _ (.tail _ (inD_in r hr))) (fun r hr => .tail _ (.tail _ (List.mem_append_right _ hr))))
            · refine t_fin ?_
              (refine Zq ?_; clear hL X; intro g w X hL)
              (refine q_callS 80 Tryz.func80 (hCm.out _ _ (X.jNow hsz.out (fun r hr => List.mem_append_left _ hr)) (X.rd _ (List.mem_append_right _ hF)).1) ?_; rintro e w1 ⟨v3, rfl, ho1, hb1⟩; obtain ⟨a3, c3, rfl⟩ := ho1.form; replace X := X.addOwn hb1 ho1; clear hb1 ho1; refine Zce ?_; clear hL; intro hL)
              (refine Zm ?_)
              (refine Zx ?_)
              (refine Zx ?_)
              (refine Zx ?_)
              (refine Zs ?_; clear hL X; intro w X hL)
              (refine Za ?_)
              (refine Za ?_)
              refine q_nil ?_
              go_upto_region 12 with (first
                | (refine ZyL ?_) | (refine ZyS ?_; clear X; intro w X) | (refine ZyA ?_; clear X; intro g w X))
              (refine q_startS 4 [17] [13, 14, 17] [4, 6, 11] [0, 1, 2, 3, 4, 5, 6, 7, 8, 9, 10, 11, 12, 13, 14, 15, 16, 17] X ?_; clear X; intro hQ X hL; simp only [zF, zG] at hL; simp only [zF, zG])
              (refine Zm ?_)
              (refine Zm ?_)
              (refine Zn ?_)
              (refine Zf ?_)
              (refine Zl ?_)
              (refine Zf ?_)
              (refine Zl ?_)
              (refine Zm ?_)
              (refine Zn ?_)
              (refine Zf ?_)
              (refine Zf ?_)
              (refine Zl ?_)
              (refine Zg ?_)
              (refine q_build1 rfl rfl Zev (by rfl) (by rfl) X hL rfl rfl ?_; intro g w X2 hL2; replace X := X2; replace hL := hL2; clear X2 hL2; (simp only [Act.put, zA, zB, zC, zD, zE, zF, zG, Nat.reduceAdd]))
              refine q_appO (_ :: _ :: _ :: _ :: MD) rfl rfl (cr.used - j.ring.used) intC_flat X hL hm.out.us Zev Zev rfl (by omega) Zsu rfl rfl ?_
              intro a5 c5 w5 MU5 hO5 X2 hL2
              replace X := X2
              replace hL := hL2
              clear X2 hL2
              simp only [List.cons_append] at X hL
              (simp only [Act.put, zA, zB, zC, zD, zE, zF, zG, Nat.reduceAdd])
              (refine Zn ?_)
              (refine Zf ?_)
              (refine Zb ?_; clear X; intro w X)
              refine q_nil ?_
              go_upto_region 13 with (first
                | (refine ZyL ?_) | (refine ZyS ?_; clear X; intro w X) | (refine ZyA ?_; clear X; intro g w X))
              (refine q_startS 2 [] [9, 12, 15, 18] [4, 5] [0, 1, 2, 3, 4, 5, 6, 7, 8, 9, 10, 11, 12, 13, 14, 15, 16, 17, 18] X ?_; clear X; intro hQ X hL; simp only [zF, zG] at hL; simp only [zF, zG])
              (refine Zm ?_)
              (refine Zm ?_)
              (refine Zm ?_)
              (refine Zm ?_)
              (refine Zl ?_)
              (refine Zl ?_)
              (refine Zm ?_)
              (refine Zn ?_)
              (refine Zf ?_)
              (refine Zs ?_; clear hL X; intro w X hL)
              (refine Zn ?_)
              (refine Zf ?_)
              (refine Zs ?_; clear hL X; intro w X hL)
              (refine Zn ?_)
              (refine Zf ?_)
              (refine Zs ?_; clear hL X; intro w X hL)
              (refine Zn ?_)
              (refine Zf ?_)
              (refine Zs ?_; clear hL X; intro w X hL)
              refine q_nil ?_
              go_wp2_with (first
                | (refine ZyL ?_) | (refine ZyS ?_; clear X; intro w X) | (refine ZyA ?_; clear X; intro g w X))
              have hul2 : (j.used ++ [cr.used - j.ring.used]).length = j.used.length + 1 := by simp
              rw [← hul2] at hO5 X
              refine m_ret1 rfl (.tmp rfl rfl) X (.tail _ (.tail _ (.head _))) rfl rfl ⟨_, _, rfl, ⟨{ v with st := ⟨a3, c3⟩, us := ⟨a5, c5⟩, nm := nilAC, nd := nilAC, nr := nilAC, sm := v.nm, sd := v.nd, sr := v.nr }, ds, fs, MD, MU5, ⟨hm.out.dn, hO5, hm.out.dmap, hm.out.fmap, hm.out.dfit, hm.out.ffit, hI.out, ⟨hm.out.sz.1, hcl.out⟩⟩, rfl, rfl⟩, ?_⟩
              rw [List.cons_append, List.append_assoc]
              exact (X.addNil.sub (List.Sublist.cons _ (List.Sublist.cons _ (List.sublist_cons_self _ _)))).rds (jRds_sub Zfl Zfl Zfl Zfl Zfl Zfl Zfl Zfl Zfl Zfl (fun r hr => .tail _ (.tail _ (inF_in r hr))) (fun r hr => .tail _ (.tail _ (inD_in r hr))) (fun r hr => .tail _ (.tail _ (List.mem_append_right _ hr))))
          · have hJ : commitJ j = (j, noR (comE j.ring j.now)) := by unfold commitJ; rw [if_neg hwo, if_neg h0, if_neg hq, if_pos hc]
            rw [hJ]
            have hc2 : (comE j.ring j.now != 0) = true := by simpa using hc
            clear ho hwo hJ h0 hc
            generalize comR j.ring j.now = cr at *
            generalize comL j.ring j.now = ST at *
            generalize comE j.ring j.now = cE at *
            replace hNo := hid hNo; replace hOp := hid hOp; replace hsz := hid hsz; replace hm := hid hm; replace hCm := hid hCm
            go_enter Tryz.func38, Tryz.ntmps38
            go_upto_region 9 with (first
                  | (refine ZyL ?_) | (refine ZyS ?_; clear X; intro w X) | (refine ZyA ?_; clear X; intro g w X)
                  | (go_at_call 79; go_loud ((with_reducible refine (hNo.out _ _).mono ?_); rintro e w1 ⟨rfl, hb1⟩; replace X := X.call hb1; clear hb1))
                  | (go_at_call 29; go_loud ((with_reducible refine (hOp.out _ _ (X.jNow hsz.out (fun r hr => List.mem_append_left _ hr))).mono ?_); rintro e w1 ⟨rfl, hb1⟩; replace X := X.call hb1; clear hb1)))
            (refine q_treeS 3 [] [5, 10, 11] [3, 4] (.fork [0, 1, 2, 3, 4] (.fin [5, 6, 7, 8, 9, 10, 11, 12, 13]) (.fin [10, 5, 6, 7, 8, 9, 11, 12, 13])) X ?_; clear X; intro hQ X hL; simp only [zF, zG] at hL; simp only [zF, zG])
            refine t_fork (fun _ => ?_) hQ
            (refine Zm ?_)
            (refine Zn ?_)
            (refine Zf ?_)
            (refine Zl ?_)
            (refine Zl ?_)
            refine t_two ?_ ?_
            · refine t_fin ?_
              (refine q_callS 80 Tryz.func80 (hCm.out _ _ (X.jNow hsz.out (fun r hr => List.mem_append_left _ hr)) (X.rd _ (List.mem_append_right _ hF)).1) ?_; rintro e w1 ⟨v3, rfl, ho1, hb1⟩; obtain ⟨a3, c3, rfl⟩ := ho1.form; replace X := X.addOwn hb1 ho1; clear hb1 ho1; refine Zce ?_; clear hL; intro hL)
              (refine Zm ?_)
              (refine Zx ?_)
              (refine Zx ?_)
              (refine Zx ?_)
              (refine Zq ?_; clear hL X; intro g w X hL)
              (refine Zs ?_; clear hL X; intro w X hL)
              (refine Za ?_)
              (refine Za ?_)
              refine q_nil ?_
              go_wp2_with (first
                | (refine ZyL ?_) | (refine ZyS ?_; clear X; intro w X) | (refine ZyA ?_; clear X; intro g w X)
                | (go_at_call 79; go_loud ((with_reducible refine (hNo.out _ _).mono ?_); rintro e w1 ⟨rfl, hb1⟩; replace X := X.call hb1; clear hb1)))
              exact m_ret1 rfl (.tmp rfl rfl) X (.tail _ (.tail _ (.head _))) rfl rfl ⟨_, _, rfl, ⟨v, ds, fs, MD, MU, hm.out, rfl, rfl⟩, (X.sub (List.Sublist.cons _ (List.Sublist.cons _ (List.sublist_cons_self _ _)))).rds (fun r hr => .tail _ hr)⟩
            · refine t_fin ?_
              (refine Zq ?_; clear hL X; intro g w X hL)
              (refine q_callS 80 Tryz.func80 (hCm.out _ _ (X.jNow hsz.out (fun r hr => List.mem_append_left _ hr)) (X.rd _ (List.mem_append_right _ hF)).1) ?_; rintro e w1 ⟨v3, rfl, ho1, hb1⟩; obtain ⟨a3, c3, rfl⟩ := ho1.form; replace X := X.addOwn hb1 ho1; clear hb1 ho1; refine Zce ?_; clear hL; intro hL)
              (refine Zm ?_)
              (refine Zx ?_)
              (refine Zx ?_)
              (refine Zx ?_)
              (refine Zs ?_; clear hL X; intro w X hL)
              (refine Za ?_)
              (refine Za ?_)
              refine q_nil ?_
              go_wp2_with (first
                | (refine ZyL ?_) | (refine ZyS ?_; clear X; intro w X) | (refine ZyA ?_; clear X; intro g w X)
                | (go_at_call 79; go_loud ((with_reducible refine (hNo.out _ _).mono ?_); rintro e w1 ⟨rfl, hb1⟩; replace X := X.call hb1; clear hb1)))
              exact m_ret1 rfl (.tmp rfl rfl) X (.tail _ (.tail _ (.head _))) rfl rfl ⟨_, _, rfl, ⟨v, ds, fs, MD, MU, hm.out, rfl, rfl⟩, (X.sub (List.Sublist.cons _ (List.Sublist.cons _ (List.sublist_cons_self _ _)))).rds (fun r hr => .tail _ hr)⟩
  · have hJ : commitJ j = (j, noR 9) := by unfold commitJ; rw [if_pos (.inl hw)]
    rw [hJ]
    have hw2 : (j.work != 0) = true := by simpa using hw
    clear hw hJ
    replace hNo := hid hNo; replace hOp := hid hOp; replace hsz := hid hsz; replace hm := hid hm
    go_enter Tryz.func38, Tryz.ntmps38
    go_wp2_with (first
      | (refine ZyL ?_) | (refine ZyS ?_; clear X; intro w X) | (refine ZyA ?_; clear X; intro g w X)
      | (go_at_call 79; go_loud ((with_reducible refine (hNo.out _ _).mono ?_); rintro e w1 ⟨rfl, hb1⟩; replace X := X.call hb1; clear hb1)))
    exact m_ret1 rfl (.tmp rfl rfl) X (.tail _ (.head _)) rfl rfl ⟨_, _, rfl, ⟨v, ds, fs, MD, MU, hm.out, rfl, rfl⟩, X.sub (List.Sublist.cons _ (List.sublist_cons_self _ _))⟩
theorem jr_rise {S : List Nat} {w0 w : World} {LL : List Ent} {RR : List Rd} {gj : Nat} {j : Jn} {v : JV} {fs : List TV} (X : St S w0 w (⟨gj, jCells v j, 82⟩ :: LL) RR)
    (hft : Rd.of tvC (.slice v.ft.a j.found.txns.length v.ft.c) fs ∈ RR) (hin : ∀ r ∈ inR fs, r ∈ RR) (hfm : fs.map (·.t) = j.found.txns) (hfl : fs.length ≤ 25) (hgd : ∀ t ∈ j.found.txns, goodT t = true) (hnx : 1 ≤ j.found.next ∧ j.found.next ≤ 2147483647) :
    Calls Tryz.prog 78 #[.pointer (some ⟨gj, 0, none⟩)] w fun e w' => ∃ u, e = .returned u ∧ St S w0 w' (⟨gj, jCells (zeroV v.sf v.wr) (riseJ j), 82⟩ :: LL) RR := by
  have hlen : j.found.txns.length = fs.length := by rw [← hfm, List.length_map]
  have hwr : IntKind.i64.wrap (j.found.next - 1) = j.found.next - 1 := IntWalk.i64_in _ (by omega)
  unfold jCells at X
  go_enter Tryz.func78, Tryz.ntmps78
  go_wp2_with (first
    | (refine ZyL ?_) | (refine ZyS ?_; clear X; intro w X) | (refine ZyA ?_; clear X; intro g w X))
  obtain ⟨g3, g2, rfl, rfl⟩ := X.nm2
  go_loopw [15] (fun i wr => ∃ k : Nat, k ≤ 12 ∧ i = .int .i64 k ∧ St S w0 wr (⟨g3, arrL (oneF k), 58⟩ :: ⟨g2, [.slice v.ft.a j.found.txns.length v.ft.c, .int .i64 j.found.next, .int .i64 j.found.at_], 61⟩ :: ⟨gj, jCells v j, 82⟩ :: LL) RR) (fun i _ => 12 - (intOf i).toNat)
  case atStart => exact ⟨0, Nat.zero_le _, rfl, X⟩
  case round =>
    clear X
    obtain ⟨k, hk, rfl, X⟩ := hrel
    by_cases hlt : k < 12
    · go_wp2_with (first
        | (refine at_mem rfl ?_; refine at_store rfl ?_; refine c_store1 rfl _ _ _ rfl rfl Zev X rfl rfl Zpv ?_; intro w X2; replace X := X2; clear X2; (simp only [Act.put, zA, zB, zC, zD, zE, zF, zG, Nat.reduceAdd])))
      rw [upd_arr _ hlt, oneF_step] at X
      go_roundw
      case rel => exact ⟨k + 1, by omega, by go_num, X⟩
      case measure => simp [intOf]; omega
    · obtain rfl : k = 12 := by omega
      have X9 := X
      rw [oneF_full] at X9
      clear X
      have X := X9
      clear X9
      rw [hlen] at X
      go_wp2_with (first
        | (refine ZyL ?_) | (refine ZyS ?_; clear X; intro w X) | (refine ZyA ?_; clear X; intro g w X))
      go_loopw [24] (fun i wr => ∃ k : Nat, k ≤ fs.length ∧ i = .int .i64 k ∧ St S w0 wr (⟨g3, arrL (riseR (j.found.txns.take k)), 58⟩ :: ⟨g2, [.slice v.ft.a fs.length v.ft.c, .int .i64 j.found.next, .int .i64 j.found.at_], 61⟩ :: ⟨gj, jCells v j, 82⟩ :: LL) RR) (fun i _ => fs.length - (intOf i).toNat)
      case atStart => exact ⟨0, Nat.zero_le _, rfl, X⟩
      case round =>
        clear X
        obtain ⟨k, hk, rfl, X⟩ := hrel
        by_cases hlt : k < fs.length
        · rw [hlen] at hft
          have hltt : k < j.found.txns.length := by omega
          have hst := riseR_step hltt
          have hte : j.found.txns[k] = fs[k].t := by simp only [← hfm, List.getElem_map]
          have hgk := good_blks (hgd _ (List.getElem_mem hltt))
          rw [hte] at hst hgk
          obtain ⟨b4, off4, hb4, c0, c1, c2, c3, c4, c5, c6, c7, c8, c9⟩ := RL.atTV (X.read hft) hlt
          obtain ⟨e1, e2, e3⟩ := inR_mem hlt
          have e1 := hin _ e1
          have e3 := hin _ e3
          have e2 := hin _ e2
          obtain ⟨am, cm, hm1, _⟩ := (X.read e1).form
          obtain ⟨ar, cr, hr1, _⟩ := (X.read e3).form
          obtain ⟨ad, cd, hd1, _⟩ := (X.read e2).form
          rw [hm1] at e1 c1
          rw [hr1] at e3 c3
          rw [hd1] at c2
          clear e2 hd1
          rw [hb4] at X ⊢
          have hte0 := hte
          clear hte hm1 hr1
          have hfit : (fs[k]).t.rev.length ≤ 17592186044160 ∧ (fs[k]).t.mt.length ≤ 5864062014805 := ⟨by have := good_lens (hgd _ (List.getElem_mem hltt)); rw [hte0] at this; omega, by have := good_lens (hgd _ (List.getElem_mem hltt)); rw [hte0] at this; omega⟩
          clear hte0
          generalize fs[k].t = t at *
          generalize riseR (j.found.txns.take k) = f0 at *
          generalize hrn : riseR (j.found.txns.take (k + 1)) = fN at *
          replace hrn := hid hrn; replace hst := hid hst; replace hgk := hid hgk
          go_wp2_with (first
            | (refine ZyL ?_) | (refine ZyS ?_; clear X; intro w X) | (refine ZyA ?_; clear X; intro g w X))
          obtain ⟨g6, rfl⟩ := X.nm1
          clear c0 c1 c2 c3 c4 c5 c6 c7 c8 c9
          have hgr := hgk.out.1
          have hgm := hgk.out.2
          have hl1 : t.rev.length ≤ 17592186044160 := hfit.1
          have hl2 : t.mt.length ≤ 5864062014805 := hfit.2
          go_loopw [31] (fun i w2 => ∃ m : Nat, m ≤ t.rev.length ∧ i = .int .i64 m ∧ St S w0 w2 (⟨g6, [.int .i64 t.seq, .slice am t.mt.length cm, .slice ad t.dt.length cd, .slice ar t.rev.length cr, .bool t.h0.on, .int .i64 t.h0.left, .bool t.h1.on, .int .i64 t.h1.left, .bool t.h2.on, .int .i64 t.h2.left], 40⟩ :: ⟨g3, arrL (rvF12 f0 (t.rev.take m)), 58⟩ :: ⟨g2, [.slice (some ⟨b4, off4, none⟩) fs.length v.ft.c, .int .i64 j.found.next, .int .i64 j.found.at_], 61⟩ :: ⟨gj, jCells v j, 82⟩ :: LL) RR) (fun i _ => t.rev.length - (intOf i).toNat)
          case atStart => exact ⟨0, Nat.zero_le _, rfl, X⟩
          case round =>
            clear X
            obtain ⟨m, hm, rfl, X⟩ := hrel
            by_cases hmlt : m < t.rev.length
            · obtain ⟨b5, off5, hb5, d0⟩ := RL.at1 (fun x : Int => .int .i64 x) (fun _ => rfl) (X.read e3) hmlt
              have hs2 := rvF12_step f0 hmlt
              have hbb := hgr _ (List.getElem_mem hmlt)
              generalize t.rev[m] = x at *
              obtain ⟨xn, rfl⟩ : ∃ xn : Nat, x = xn := ⟨x.toNat, by omega⟩
              have hx12 : xn < 12 := by omega
              rw [hb5] at X ⊢
              replace hs2 := hid hs2
              generalize hfn : rvF12 f0 (t.rev.take (m + 1)) = fn2 at *
              generalize rvF12 f0 (t.rev.take m) = fo2 at *
              replace hfn := hid hfn
              go_wp2_with (first
                | (refine at_mem rfl ?_; refine at_store rfl ?_; refine c_store1 rfl _ _ _ rfl rfl Zev X rfl rfl Zpv ?_; intro w X2; replace X := X2; clear X2; (simp only [Act.put, zA, zB, zC, zD, zE, zF, zG, Nat.reduceAdd])))
              rw [upd_arr _ hx12, ← hs2.out, ← hfn.out] at X
              go_roundw
              case rel => exact ⟨m + 1, by omega, by go_num, X⟩
              case measure => simp [intOf]; omega
            · obtain rfl : m = t.rev.length := by omega
              rw [List.take_length] at X
              have hst1 := hst.out
              generalize rvF12 f0 t.rev = f1 at *
              clear hst
              go_wp2_with (first
                | (refine ZyL ?_) | (refine ZyS ?_; clear X; intro w X) | (refine ZyA ?_; clear X; intro g w X))
              have X9 := X.sub (List.sublist_cons_self _ _)
              clear X
              have X := X9
              clear X9
              go_loopw [41] (fun i w2 => ∃ m : Nat, m ≤ t.mt.length ∧ i = .int .i64 m ∧ St S w0 w2 (⟨g3, arrL (mtF12 f1 (t.mt.take m)), 58⟩ :: ⟨g2, [.slice (some ⟨b4, off4, none⟩) fs.length v.ft.c, .int .i64 j.found.next, .int .i64 j.found.at_], 61⟩ :: ⟨gj, jCells v j, 82⟩ :: LL) RR) (fun i _ => t.mt.length - (intOf i).toNat)
              case atStart => exact ⟨0, Nat.zero_le _, rfl, X⟩
              case round =>
                clear X
                obtain ⟨m, hm, rfl, X⟩ := hrel
                by_cases hmlt : m < t.mt.length
                · obtain ⟨b5, off5, hb5, d0, d1⟩ := RL.at2 (fun x : Cpy => .int .i64 x.block) (fun x => .string x.text) (fun _ => rfl) (X.read e1) hmlt
                  have hs2 := mtF12_step f1 hmlt
                  have hbb := hgm _ (List.getElem_mem hmlt)
                  obtain ⟨⟨x, tx⟩, hx⟩ : ∃ y, t.mt[m] = y := ⟨_, rfl⟩
                  rw [hx] at d0 d1 hs2 hbb
                  clear hx
                  dsimp only at d0 d1 hs2 hbb
                  obtain ⟨xn, rfl⟩ : ∃ xn : Nat, x = xn := ⟨x.toNat, by omega⟩
                  have hx12 : xn < 12 := by omega
                  rw [hb5]
                  replace hs2 := hid hs2
                  generalize hfn : mtF12 f1 (t.mt.take (m + 1)) = fn2 at *
                  generalize mtF12 f1 (t.mt.take m) = fo2 at *
                  replace hfn := hid hfn
                  go_upto_region 18 with (first
                    | (refine ZyL ?_) | (refine ZyS ?_; clear X; intro w X) | (refine ZyA ?_; clear X; intro g w X))
                  go_wp2_with (first
                    | (refine ZyL ?_) | (refine ZyS ?_; clear X; intro w X) | (refine ZyA ?_; clear X; intro g w X)
                    | (refine at_mem rfl ?_; refine at_store rfl ?_; refine c_store1 rfl _ _ _ rfl rfl Zev X rfl rfl Zpv ?_; intro w X2; replace X := X2; clear X2; (simp only [Act.put, zA, zB, zC, zD, zE, zF, zG, Nat.reduceAdd])))
                  rw [upd_arr _ hx12, ← hs2.out, ← hfn.out] at X
                  go_roundw
                  case rel => exact ⟨m + 1, by omega, by go_num, X.sub (List.sublist_cons_self _ _)⟩
                  case measure => simp [intOf]; omega
                · obtain rfl : m = t.mt.length := by omega
                  rw [List.take_length, ← hst1, ← hrn.out] at X
                  go_wp2
                  go_roundw
                  case rel => exact ⟨k + 1, by omega, by go_num, X⟩
                  case measure => simp [intOf]; omega
        · obtain rfl : k = fs.length := by omega
          rw [← hlen, List.take_length, hlen] at X
          unfold jCells at X
          go_upto_region 21 with (first
            | (refine ZyL ?_) | (refine ZyS ?_; clear X; intro w X) | (refine ZyA ?_; clear X; intro g w X))
          (refine q_startS 3 [21] [21] [4, 6, 9, 12, 14, 18] [0, 1, 2, 3, 4, 5, 6, 7, 8, 9, 10, 11, 12, 13, 14, 15, 16, 17, 18, 19, 20, 21] X ?_; clear X; intro hQ X hL; simp only [zF, zG] at hL; simp only [zF, zG])
          (refine Zm ?_)
          (refine Zm ?_)
          (refine Zn ?_)
          (refine Zf ?_)
          (refine Zl ?_)
          (refine Zf ?_)
          (refine Zl ?_)
          (refine Zg ?_)
          (refine Zf ?_)
          (refine Zl ?_)
          (refine Zg ?_)
          (refine Zf ?_)
          (refine Zl ?_)
          (refine Zg ?_)
          (refine Zl ?_)
          (refine Zm ?_)
          (refine Zn ?_)
          (refine Zf ?_)
          (refine Zl ?_)
          (refine Zg ?_)
          (refine Zn ?_)
          (refine Zb ?_; clear X; intro w X)
          refine q_nil ?_
          exact bodyPost_end (results_none rfl _ _ _) rfl ⟨_, rfl, X.sub (List.Sublist.cons _ (List.sublist_cons_self _ _))⟩
end Go.Proofs.YtjhmfljlclajnacGreatDoor
namespace Wb
open Go Go.RowKit
section
variable {TJ Tt Ti : TypeId} {S : List Nat} {w0 w : World} {gj : Nat} {v : JV} {j : Jn} {ds fs : List TV} {MD MU L : List Ent} {R R1 : List Rd} {e : Ending} {u : Value}
theorem JMk (A : List Ent) (X : St S w0 w (A ++ (⟨gj, jCells v j, TJ⟩ :: (MD ++ (MU ++ L)))) R1) (hm : JFm Tt Ti v j ds fs MD MU) (hr : ∀ r ∈ jRds v j ds fs ++ R, r ∈ R1) : ∃ M' Rj', JForm TJ Tt Ti gj j M' Rj' ∧ St S w0 w (M' ++ L) (Rj' ++ R) :=
  ⟨_, _, ⟨v, ds, fs, MD, MU, hm, rfl, rfl⟩, by rw [List.cons_append, List.append_assoc]; exact (X.sub (List.sublist_append_right _ _)).rds hr⟩
theorem JMk1 (A : List Ent) (X : St S w0 w (A ++ (⟨gj, jCells v j, TJ⟩ :: (MD ++ (MU ++ L)))) R1) (hm : JFm Tt Ti v j ds fs MD MU) (hr : ∀ r ∈ jRds v j ds fs ++ R, r ∈ R1) (he : e = .returned u) : ∃ M' Rj', e = .returned u ∧ JForm TJ Tt Ti gj j M' Rj' ∧ St S w0 w (M' ++ L) (Rj' ++ R) :=
  let ⟨a, b, c, d⟩ := JMk A X hm hr
  ⟨a, b, he, c, d⟩
theorem JMk2 (A : List Ent) (X : St S w0 w (A ++ (⟨gj, jCells v j, TJ⟩ :: (MD ++ (MU ++ L)))) R1) (hm : JFm Tt Ti v j ds fs MD MU) (hr : ∀ r ∈ jRds v j ds fs ++ R, r ∈ R1) (he : e = .returned u) : e = .returned u ∧ ∃ M' Rj', JForm TJ Tt Ti gj j M' Rj' ∧ St S w0 w (M' ++ L) (Rj' ++ R) := ⟨he, JMk A X hm hr⟩
end
end Wb
