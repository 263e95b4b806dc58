/- The walk of the reference's CheckSteps. append of all of a slice that is read, onto nothing. No program in sight. The walk of NewestOf. The walks of the law's lists of transactions: txns, good. The walk of the law SealChecks. -/
import Derived.Test.YtjhmfljlclajnabDoorKSealCommits6
import Derived.Test.YtjhmfljlclajnabDoorKSealCommits7
import Derived.Test.YtjhmfljlclajnabDoorKSealCommits4
import Derived.Test.YtjhmfljlclajnabDoorKSealCommits10
import Derived.Test.YtjhmfljlclajnabDoorKSealCommits3
import Derived.Test.YtjhmfljlclajnabDoorKSealCommits0
import Derived.Test.YtjhmfljlclajnabDoorKSealCommits5
import Derived.Test.YtjhmfljlclajnabDoorKSealCommits11
import Derived.Test.YtjhmfljlclajnabDoorKSealCommits12
set_option linter.unusedVariables false
set_option linter.unusedSimpArgs false
namespace Go.Proofs.YtjhmfljlclajnabDoor
open Go.RowKit Wb
set_option linter.unusedVariables false
set_option linter.unusedSimpArgs false
set_option maxRecDepth 100000
set_option maxHeartbeats 8000000
theorem ref_CheckSteps (l : List Cpy) (p q : Int) (v : Value) (w : World) (h : RL cpyC w v l) (hl : l.length ≤ 5864062014805) :
    Calls Tryd.prog 18 #[v, .int .i64 p, .int .i64 q] w fun e w' => ∃ v', e = .returned (.tuple #[v', .int .i64 (checkE l p q)]) ∧ Wb.Own stpC w.heap.size 76 3 w' v' (checkL l p q) ∧ Below w.heap.size w w' := by
  obtain ⟨a, cap, rfl, _⟩ := h.form
  have hE := fun w => ref_EncodeMark (superM q p) _ w (superM_read w q p)
  have hB := fun x w => ref_isBlock x w
  have X : St [] w w [] [] := St.start [] w
  replace hE := hid hE; replace hB := hid hB
  by_cases hM : markE (superM q p) = 0
  · rw [hM] at hE
    have hbad := fun k (hk : k < l.length) (hc : cpyOk l[k] = false) => checkE_form hM hk hc
    have hok := fun (hc : l.all cpyOk = true) => checkE_ok hM hc
    have hat := fun k (hk : k < l.length) (h : (l.take k).all cpyOk = true) (hc : cpyOk l[k] = true) => all_take hk h hc
    have hmt := fun k (hk : k < l.length) => map_take (f := goS) hk
    have hfu : l.take l.length = l := List.take_length
    have hho : homeS l = l.map goS ++ (if l = [] then [] else [flushS]) := rfl
    have hnil : (l = []) ↔ l.length = 0 := List.length_eq_zero_iff.symm
    rw [hho] at hok
    generalize checkE l p q = E at *
    generalize checkL l p q = C at *
    generalize markS (superM q p) = ms at *
    replace h := hid h; replace hbad := hid hbad; replace hok := hid hok; replace hat := hid hat; replace hmt := hid hmt; replace hfu := hid hfu; replace hnil := hid hnil
    clear hho hM
    go_enter Tryd.func18, Tryd.ntmps18
    go_wp2_with (first
      | (go_at_call 51; go_loud ((with_reducible refine (hE.out _).mono ?_); rintro e w1 ⟨rfl, hb1⟩; replace X := X.call hb1; clear hb1)))
    go_loopw [10, 25] (fun o i wr => ∃ (k : Nat) (M : List Ent), k ≤ l.length ∧ i = .int .i64 k ∧ Hid ((l.take k).all cpyOk = true) ∧ OwnM stpC 76 3 o ((l.take k).map goS) M ∧ St [] w wr (M ++ []) []) (fun _ i _ => l.length - (intOf i).toNat)
    case atStart => exact ⟨0, [], Nat.zero_le _, rfl, hid rfl, OwnM.nil _ _ _, X⟩
    case round =>
      clear X
      obtain ⟨k, M, hk, rfl, hal, hO, X⟩ := hrel
      have hlk : ((l.take k).map goS).length = k := by rw [List.length_map, List.length_take]; omega
      obtain ⟨ao, co, rfl⟩ := hO.form
      rw [hlk] at hO ⊢
      by_cases hlt : k < l.length
      · obtain ⟨b1, o1, rfl, c0, c1⟩ := RL.at2 (fun x => .int .i64 x.block) (fun x => .string x.text) (fun _ => rfl) (h.out.below X.below) hlt
        have hb := hbad.out k hlt
        have ha := hat.out k hlt hal.out
        have hm := hmt.out k hlt
        generalize l[k] = x at *
        generalize (l.take k).map goS = ls at *
        obtain ⟨xb, xt⟩ := x
        (try dsimp only at *)
        have hci := cpyOk_iff ⟨xb, xt⟩
        (try dsimp only at hci)
        cases hc : cpyOk ⟨xb, xt⟩ with
        | true =>
          obtain ⟨⟨y0, y1⟩, y2⟩ := hci.1 hc
          have ha := ha hc
          replace ha := hid ha; replace hm := hid hm
          have y3 : ((xt.size : Int) != 32) = false := by rw [y2]; rfl
          have d1 : isBlk xb = true := decide_eq_true ⟨y0, y1⟩
          have hBx := fun w => hB.out xb w
          rw [d1] at hBx
          replace hBx := hid hBx
          clear hci hc hb
          have hwr : IntKind.i64.wrap (25 + xb) = 25 + xb := IntWalk.i64_in _ (by omega)
          have hr1 : (ls.length + 1 + (ls.length + 1) / 4 + 192) * 32 ≤ 281474976710656 := by omega
          have hr2 : ls.length + 1 ≤ 140737488355328 := by omega
          have hgo : [goS ⟨xb, xt⟩].flatMap stpC = [.int .i64 1, .int .i64 (25 + xb), .string xt] := rfl
          go_wp2_with (first
            | (refine at_mem rfl ?_; (first | (refine at_load rfl ?_; (first | (refine c_load1 rfl _ _ rfl rfl X (by first | exact ReadA.here rfl | exact ReadA.there (ReadA.here rfl)) ?_) | (refine c_loadN rfl _ _ rfl rfl X (by first | exact ReadB.here (Nat.le_of_ble_eq_true rfl) | exact ReadB.there (ReadB.here (Nat.le_of_ble_eq_true rfl))) ?_))) | (refine at_store rfl ?_; (first | (refine c_store1 rfl _ _ _ rfl rfl (by first | exact EvR.const _ | exact EvR.tmp rfl rfl) X rfl rfl (by first | exact PutA.here (Nat.le_of_ble_eq_true rfl) | exact PutA.there (PutA.here (Nat.le_of_ble_eq_true rfl))) ?_; intro w X2; (try simp only [upd] at X2); replace X := X2; clear X2) | (refine c_storeN rfl _ _ _ rfl rfl rfl X rfl rfl (by first | exact PutA.here (Nat.le_of_ble_eq_true rfl) | exact PutA.there (PutA.here (Nat.le_of_ble_eq_true rfl))) ?_; intro w X2; (try simp only [upd] at X2); replace X := X2; clear X2))) | (refine m_alloc rfl _ rfl X ?_; intro g w X2; (replace X := X2; clear X2))); (simp only [Act.put, List.setIfInBounds_toArray, List.set_cons_succ, List.set_cons_zero, List.drop_succ_cons, List.drop_zero, List.take_succ_cons, List.take_zero, Nat.reduceAdd]))
            | (go_at_call 52; go_loud ((with_reducible refine (hBx.out _).mono ?_); rintro e w1 ⟨rfl, rfl⟩))
            | (refine at_build rfl ?_; go_loud (refine m_build1 rfl rfl (by first | exact EvR.const _ | exact EvR.tmp rfl rfl) (by rfl) (by rfl) X ?_; intro g w2 X2; replace X := X2; clear X2; (simp only [Act.put, List.setIfInBounds_toArray, List.set_cons_succ, List.set_cons_zero, List.drop_succ_cons, List.drop_zero, List.take_succ_cons, List.take_zero, Nat.reduceAdd])))
            | (at_builtin; go_loud ((refine m_appB (M := M) (T := []) (n := 1) [_] rfl rfl [goS ⟨xb, xt⟩] stpC_flat X hO (by first | exact EvR.const _ | exact EvR.tmp rfl rfl) (by first | exact EvR.const _ | exact EvR.tmp rfl rfl) hgo rfl hr1 hr2 ?_); intro a2 c2 w2 M2 hO2 X2; (simp only [Act.put, List.setIfInBounds_toArray, List.set_cons_succ, List.set_cons_zero, List.drop_succ_cons, List.drop_zero, List.take_succ_cons, List.take_zero, Nat.reduceAdd]))))
          rw [hlk]
          go_roundw
          case rel => exact ⟨k + 1, M2, by omega, by go_num, ha, by rw [hm.out, ← hlk]; exact hO2, X2.tail⟩
          case measure => simp [intOf]; omega
        | false =>
          obtain ⟨e1, e2⟩ := hb hc
          subst e1 e2
          have hn : ¬ ((0 ≤ xb ∧ xb < 12) ∧ xt.size = 32) := fun h => by rw [hci.2 h] at hc; cases hc
          clear hci hc hb ha hm
          have hBx := fun w => hB.out xb w
          cases d1 : isBlk xb with
          | false =>
            rw [d1] at hBx
            replace hBx := hid hBx
            clear d1
            go_wp2_with (first
              | (refine at_mem rfl ?_; refine at_want2 (by kernel_rfl) ?_; (first | (refine at_load rfl ?_; (first | (refine c_load1 rfl _ _ rfl rfl X (by repeat (first | exact ReadA.here rfl | apply ReadA.there)) ?_) | (refine c_loadN rfl _ _ rfl rfl X (by repeat (first | exact ReadB.here (Nat.le_of_ble_eq_true rfl) | apply ReadB.there)) ?_))) | (refine at_store rfl ?_; (first | (refine c_store1 rfl _ _ _ rfl rfl (by first | exact EvR.const _ | exact EvR.tmp rfl rfl) X rfl rfl (by repeat (first | exact PutA.here (Nat.le_of_ble_eq_true rfl) | apply PutA.there)) ?_; intro w X2; (try simp only [upd] at X2); replace X := X2; clear X2) | (refine c_storeN rfl _ _ _ rfl rfl rfl X rfl rfl (by repeat (first | exact PutA.here (Nat.le_of_ble_eq_true rfl) | apply PutA.there)) ?_; intro w X2; (try simp only [upd] at X2); replace X := X2; clear X2))) | (refine m_alloc rfl _ rfl X ?_; intro g w X2; (replace X := X2; clear X2)) | (refine m_box rfl _ _ rfl (by first | exact EvR.const _ | exact EvR.tmp rfl rfl) rfl X ?_; intro g w X2; (replace X := X2; clear X2))); (simp only [Act.put, List.setIfInBounds_toArray, List.set_cons_succ, List.set_cons_zero, List.drop_succ_cons, List.drop_zero, List.take_succ_cons, List.take_zero, Nat.reduceAdd]))
              | (go_at_call 52; go_loud ((with_reducible refine (hBx.out _).mono ?_); rintro e w1 ⟨rfl, rfl⟩)))
            go_ret2
            exact ⟨_, rfl, Own.nil _ _ _ _ _, X.below⟩
          | true =>
            rw [d1] at hBx
            have y2 : ¬ xt.size = 32 := fun h => hn ⟨of_decide_eq_true d1, h⟩
            have y3 : ((xt.size : Int) != 32) = true := bne_iff_ne.2 (by omega)
            replace hBx := hid hBx
            clear d1
            go_wp2_with (first
              | (refine at_mem rfl ?_; refine at_want2 (by kernel_rfl) ?_; (first | (refine at_load rfl ?_; (first | (refine c_load1 rfl _ _ rfl rfl X (by repeat (first | exact ReadA.here rfl | apply ReadA.there)) ?_) | (refine c_loadN rfl _ _ rfl rfl X (by repeat (first | exact ReadB.here (Nat.le_of_ble_eq_true rfl) | apply ReadB.there)) ?_))) | (refine at_store rfl ?_; (first | (refine c_store1 rfl _ _ _ rfl rfl (by first | exact EvR.const _ | exact EvR.tmp rfl rfl) X rfl rfl (by repeat (first | exact PutA.here (Nat.le_of_ble_eq_true rfl) | apply PutA.there)) ?_; intro w X2; (try simp only [upd] at X2); replace X := X2; clear X2) | (refine c_storeN rfl _ _ _ rfl rfl rfl X rfl rfl (by repeat (first | exact PutA.here (Nat.le_of_ble_eq_true rfl) | apply PutA.there)) ?_; intro w X2; (try simp only [upd] at X2); replace X := X2; clear X2))) | (refine m_alloc rfl _ rfl X ?_; intro g w X2; (replace X := X2; clear X2)) | (refine m_box rfl _ _ rfl (by first | exact EvR.const _ | exact EvR.tmp rfl rfl) rfl X ?_; intro g w X2; (replace X := X2; clear X2))); (simp only [Act.put, List.setIfInBounds_toArray, List.set_cons_succ, List.set_cons_zero, List.drop_succ_cons, List.drop_zero, List.take_succ_cons, List.take_zero, Nat.reduceAdd]))
              | (go_at_call 52; go_loud ((with_reducible refine (hBx.out _).mono ?_); rintro e w1 ⟨rfl, rfl⟩)))
            go_ret2
            exact ⟨_, rfl, Own.nil _ _ _ _ _, X.below⟩
      · obtain rfl : k = l.length := by omega
        rw [hfu.out] at hO hal
        obtain ⟨e1, e2⟩ := hok.out hal.out
        have hkl := hlk
        rw [hfu.out] at hlk
        generalize hls : l.map goS = ls at *
        subst e1
        have hfl : [wrS 0 ms, flushS].flatMap stpC = [.int .i64 1, .int .i64 0, .string ms, .int .i64 2, .int .i64 0, .string ⟨#[]⟩] := rfl
        by_cases hz : l.length = 0
        · rw [if_pos (hnil.out.2 hz), List.append_nil] at e2
          clear hok hal hmt hfu hat hbad hnil h
          generalize l.length = k at *
          have hzi : decide (0 < k) = false := decide_eq_false (by omega)
          have hr3 : (ls.length + 2 + (ls.length + 2) / 4 + 192) * 32 ≤ 281474976710656 := by omega
          have hr4 : ls.length + 2 ≤ 140737488355328 := by omega
          clear hz
          replace e2 := hid e2
          go_wp2_with (first
            | (refine at_build rfl ?_; go_loud (refine m_build2 rfl rfl (by first | exact EvR.const _ | exact EvR.tmp rfl rfl) (by first | exact EvR.const _ | exact EvR.tmp rfl rfl) (by rfl) (by rfl) (by rfl) (by rfl) X ?_; intro g w2 X2; (try simp only [List.cons_append, List.nil_append] at X2); replace X := X2; clear X2; (simp only [Act.put, List.setIfInBounds_toArray, List.set_cons_succ, List.set_cons_zero, List.drop_succ_cons, List.drop_zero, List.take_succ_cons, List.take_zero, Nat.reduceAdd])))
            | (at_builtin; go_loud ((refine m_appB (M := M) (T := []) (n := 2) [] rfl rfl [wrS 0 ms, flushS] stpC_flat X hO (by first | exact EvR.const _ | exact EvR.tmp rfl rfl) (by first | exact EvR.const _ | exact EvR.tmp rfl rfl) hfl rfl hr3 hr4 ?_); intro a3 c3 w3 M3 hO3 X3; replace X := X3; clear X3; (simp only [Act.put, List.setIfInBounds_toArray, List.set_cons_succ, List.set_cons_zero, List.drop_succ_cons, List.drop_zero, List.take_succ_cons, List.take_zero, Nat.reduceAdd]))))
          go_ret2
          exact ⟨_, rfl, by rw [e2.out]; exact hO3.own (L := []) stpC_flat X, X.below⟩
        · rw [if_neg (fun h => hz (hnil.out.1 h))] at e2
          clear hok hal hmt hfu hat hbad hnil h
          generalize l.length = k at *
          have hzi : decide (0 < k) = true := decide_eq_true (by omega)
          have hr1 : (ls.length + 1 + (ls.length + 1) / 4 + 192) * 32 ≤ 281474976710656 := by omega
          have hr2 : ls.length + 1 ≤ 140737488355328 := by omega
          have hlf : (ls ++ [flushS]).length = k + 1 := by rw [List.length_append, hlk]; rfl
          obtain ⟨hr3, hr4⟩ := room2 hlf (by omega)
          have hgo : [flushS].flatMap stpC = [.int .i64 2, .int .i64 0, .string ⟨#[]⟩] := rfl
          clear hz hlf
          replace e2 := hid e2
          go_wp2_with (first
            | (refine at_build rfl ?_; go_loud (refine m_build2 rfl rfl (by first | exact EvR.const _ | exact EvR.tmp rfl rfl) (by first | exact EvR.const _ | exact EvR.tmp rfl rfl) (by rfl) (by rfl) (by rfl) (by rfl) X ?_; intro g w2 X2; (try simp only [List.cons_append, List.nil_append] at X2); replace X := X2; clear X2; (simp only [Act.put, List.setIfInBounds_toArray, List.set_cons_succ, List.set_cons_zero, List.drop_succ_cons, List.drop_zero, List.take_succ_cons, List.take_zero, Nat.reduceAdd])))
            | (refine at_build rfl ?_; go_loud (refine m_build1 rfl rfl (by first | exact EvR.const _ | exact EvR.tmp rfl rfl) (by rfl) (by rfl) X ?_; intro g w2 X2; replace X := X2; clear X2; (simp only [Act.put, List.setIfInBounds_toArray, List.set_cons_succ, List.set_cons_zero, List.drop_succ_cons, List.drop_zero, List.take_succ_cons, List.take_zero, Nat.reduceAdd])))
            | (at_builtin; (first
              | (refine m_appB (M := M) (T := []) (n := 1) [] rfl rfl [flushS] stpC_flat X hO (by first | exact EvR.const _ | exact EvR.tmp rfl rfl) (by first | exact EvR.const _ | exact EvR.tmp rfl rfl) hgo rfl hr1 hr2 ?_; intro a2 c2 w2 M2 hO2 X2; replace X := X2; clear X2; (simp only [Act.put, List.setIfInBounds_toArray, List.set_cons_succ, List.set_cons_zero, List.drop_succ_cons, List.drop_zero, List.take_succ_cons, List.take_zero, Nat.reduceAdd]))
              | (refine m_appB (M := M2) (T := []) (n := 2) [] rfl rfl [wrS 0 ms, flushS] stpC_flat X hO2 (by first | exact EvR.const _ | exact EvR.tmp rfl rfl) (by first | exact EvR.const _ | exact EvR.tmp rfl rfl) hfl rfl hr3 hr4 ?_; intro a3 c3 w3 M3 hO3 X3; replace X := X3; clear X3; (simp only [Act.put, List.setIfInBounds_toArray, List.set_cons_succ, List.set_cons_zero, List.drop_succ_cons, List.drop_zero, List.take_succ_cons, List.take_zero, Nat.reduceAdd])))))
          go_ret2
          exact ⟨_, rfl, by rw [e2.out]; exact hO3.own (L := []) stpC_flat X, X.below⟩
  · obtain ⟨e1, e2⟩ := checkE_bad (l := l) hM
    rw [e1, e2]
    generalize markE (superM q p) = E at *
    have hne : (E != 0) = true := bne_iff_ne.2 hM
    clear h
    go_enter Tryd.func18, Tryd.ntmps18
    go_wp2_with (first
      | (go_at_call 51; go_loud ((with_reducible refine (hE.out _).mono ?_); rintro e w1 ⟨rfl, hb1⟩; replace X := X.call hb1; clear hb1)))
    go_ret2
    exact ⟨_, rfl, Own.nil _ _ _ _ _, X.below⟩
end Go.Proofs.YtjhmfljlclajnabDoor

namespace Wb
open Go Go.RowKit
section
variable {P : Program} {ops : Array Oper} {Q : Exit → Act → World → Prop} {o : Oper} {rest : List Oper} {a : Act} {S : List Nat} {w0 w : World} {L T M : List Ent} {R : List Rd}
theorem m_appL (hw : Region.wanted o (yielded ops a.tmps) = true) {s x : Operand} {t : TypeId} (ho : o.op = .call { callee := .builtin .append, args := #[s, x], argTypes := #[t, t] }) {α : Type} {f : α → List Value} (l2 : List α) {e : TypeId} {c bytes : Nat} [hT : SlT P t e c bytes] (hF : Flat f c)
    (X : St S w0 w L R) {vx : Value} (hs : EvR a s (.slice none 0 0)) (hx : EvR a x vx) (hr : RL f w vx l2) (hroom : (l2.length + l2.length / 4 + 192) * bytes ≤ 281474976710656) (h63 : l2.length ≤ 140737488355328)
    (h : ∀ a' cap' w' M', OwnM f e c (.slice a' l2.length cap') l2 M' → St S w0 w' (M' ++ L) R → wpList P ops Q rest (a.put o.dst (.slice a' l2.length cap')) w') : wpList P ops Q (o :: rest) a w :=
  BigFrame.wpList_want hw fun K hK => by
    obtain ⟨v', w', M', h1, h2, h3⟩ := exec_app (P := P) (pre := []) (M := []) (T := L) ho hF X (OwnM.nil f e c) hs l2 hx hr (by simpa using hroom) (by unfold maxLen; simp; omega)
    obtain ⟨a', cap', rfl⟩ := h2.form
    rw [List.nil_append] at h1 h2
    unfold Oper.wp
    rw [h1]
    exact hK _ _ (h a' cap' w' M' h2 h3)
end
end Wb

namespace Go.Proofs.YtjhmfljlclajnabDoor
open Go.RowKit Wb
set_option linter.unusedVariables false
set_option linter.unusedSimpArgs false
set_option maxRecDepth 100000
set_option maxHeartbeats 4000000

theorem ref_NewestOf (l : List Txn) (hg : ∀ t ∈ l, goodT t = true) (v : Value) (w : World) (h : RTxns w v l) :
    Calls Tryd.prog 22 #[v] w fun e w' => ∃ v', e = .returned v' ∧ Wb.Own cpyC w.heap.size 74 2 w' v' (newestL l) ∧ Below w.heap.size w w' := by
  obtain ⟨a, cap, rfl, hl⟩ := h.form
  have hR : ∀ (f : Int → Option ByteArray) (b : Int) v w (hh : RL cpyC w v (viewL f)), Calls Tryd.prog 53 #[v, .int .i64 b] w fun e w' => ∃ v', e = .returned v' ∧ Wb.Own cpyC w.heap.size 74 2 w' v' (viewL (fun x => if x = b then none else f x)) ∧ Below w.heap.size w w' := fun f b v w hh => by
    rw [← dropC_view]; exact ref_rest _ b v w hh (Nat.le_trans (viewN_len f 12) (by decide))
  have hW : ∀ (f : Int → Option ByteArray) (b : Int) (s : ByteArray) v w (hh : RL cpyC w v (viewL f)), Calls Tryd.prog 55 #[v, .int .i64 b, .string s] w fun e w' => ∃ v', e = .returned v' ∧ Wb.Own cpyC w.heap.size 74 2 w' v' (viewL (fun x => if x = b then some s else f x)) ∧ Below w.heap.size w w' := fun f b s v w hh => by
    rw [← withL_view]; exact ref_with _ b s v w hh (Nat.le_trans (viewN_len f 12) (by decide))
  have hB := fun b w => ref_isBlock b w
  have hA := fun l b v w h1 h2 => ref_among l b v w h1 h2
  have hgk := fun k (hk : k < l.length) => hg l[k] (List.getElem_mem hk)
  have hst := fun k (hk : k < l.length) b => newestB_step hk b
  have h0 : ∀ b, newestB (l.take 0) b = none := fun b => rfl
  have hnl : newestL l = viewL (newestB l) := rfl
  have hv0 : viewL (fun _ => none) = [] := by unfold viewL viewN; rw [List.filterMap_eq_nil_iff]; intro _ _; rfl
  rw [hnl]
  replace h := hid h; replace hR := hid hR; replace hW := hid hW; replace hB := hid hB; replace hA := hid hA; replace hgk := hid hgk; replace hst := hid hst; replace h0 := hid h0; replace hv0 := hid hv0
  clear hg hnl
  go_enter Tryd.func22, Tryd.ntmps22
  go_wp2
  go_loopw [3, 12] (fun o i wr => ∃ k : Nat, k ≤ l.length ∧ i = .int .i64 k ∧ Wb.Own cpyC w.heap.size 74 2 wr o (viewL (newestB (l.take k))) ∧ Below w.heap.size w wr) (fun _ i _ => l.length - (intOf i).toNat)
  case atStart => exact ⟨0, Nat.zero_le _, rfl, by rw [show viewL (newestB (l.take 0)) = [] from hv0.out]; exact Own.nil _ _ _ _ _, b0 w⟩
  case round =>
    obtain ⟨wo, rfl⟩ : ∃ wo : World, wo = wr := ⟨_, rfl⟩
    obtain ⟨k, hk, rfl, hown, nx⟩ := hrel
    by_cases hlt : k < l.length
    · obtain ⟨b1, o1, vm, vd, vr, rfl, hrt, c0, c1, c2, c3, c4, c5, c6, c7, c8, c9⟩ := (h.out.below nx).at hlt
      have hgt := hgk.out k hlt
      have hstk := hst.out k hlt
      generalize l[k] = t at *
      generalize newestB (l.take k) = g at *
      have hturn := turn_good ((goodT_iff t).1 hgt).2.1 g
      have hend : (fun b => turnT t (g b) b) = newestB (l.take (k + 1)) := funext fun b => (hstk b).symm
      rw [hend] at hturn
      clear hstk hend
      generalize hge : newestB (l.take (k + 1)) = g' at *
      replace hge := hid hge
      obtain ⟨vm', vd', vr', hv, hm, hd, hr, n1, n2, n3⟩ := hrt
      simp only [txnV, Value.agg.injEq, Array.mk.injEq, List.cons.injEq, and_true, true_and] at hv
      obtain ⟨rfl, rfl, rfl⟩ := hv
      obtain ⟨am, cm, rfl, _⟩ := hm.form
      obtain ⟨ad, cd, rfl, _⟩ := hd.form
      obtain ⟨ar, cr, rfl, _⟩ := hr.form
      have hmk := fun j (hj : j < t.mt.length) => (copies_get ((goodT_iff t).1 hgt).2.1 hj).1
      have hma := fun j (hj : j < t.mt.length) => (good_meta hgt hj).1
      have hrs := fun j (hj : j < t.rev.length) => revF_step g hj
      have hms := fun j (hj : j < t.mt.length) => metaF_step (revF g t.rev) hj
      have hr0 : revF g (t.rev.take 0) = g := rfl
      have hrn : revF g (t.rev.take t.rev.length) = revF g t.rev := by rw [List.take_length]
      have hm0 : metaF (revF g t.rev) (t.mt.take 0) = revF g t.rev := rfl
      have hmn : metaF (revF g t.rev) (t.mt.take t.mt.length) = g' := by rw [List.take_length]; exact hturn
      replace hm := hid hm; replace hr := hid hr; replace hmk := hid hmk; replace hma := hid hma; replace hrs := hid hrs; replace hms := hid hms; replace hr0 := hid hr0; replace hrn := hid hrn; replace hm0 := hid hm0; replace hmn := hid hmn
      clear hturn hgt hd
      have k5 : Blk (wo.alloc (.cells #[.int .i64 t.seq, .slice am t.mt.length cm, .slice ad t.dt.length cd, .slice ar t.rev.length cr, .bool t.h0.on, .int .i64 t.h0.left, .bool t.h1.on, .int .i64 t.h1.left, .bool t.h2.on, .int .i64 t.h2.left] 30)) wo.heap.size #[.int .i64 t.seq, .slice am t.mt.length cm, .slice ad t.dt.length cd, .slice ar t.rev.length cr, .bool t.h0.on, .int .i64 t.h0.left, .bool t.h1.on, .int .i64 t.h1.left, .bool t.h2.on, .int .i64 t.h2.left] 30 := Blk.new wo _ _
      go_wp2
      go_loopw [3, 7, 19] (fun o _ i wr => ∃ j : Nat, j ≤ t.rev.length ∧ i = .int .i64 j ∧ Wb.Own cpyC w.heap.size 74 2 wr o (viewL (revF g (t.rev.take j))) ∧ Below w.heap.size w wr ∧ Below (wo.heap.size + 1) (wo.alloc (.cells #[.int .i64 t.seq, .slice am t.mt.length cm, .slice ad t.dt.length cd, .slice ar t.rev.length cr, .bool t.h0.on, .int .i64 t.h0.left, .bool t.h1.on, .int .i64 t.h1.left, .bool t.h2.on, .int .i64 t.h2.left] 30)) wr) (fun _ _ i _ => t.rev.length - (intOf i).toNat)
      case atStart => exact ⟨0, Nat.zero_le _, rfl, by rw [hr0.out]; exact hown.alloc _, bal nx _, Below.refl _ _⟩
      case round =>
        clear hown
        obtain ⟨j, hj, rfl, hown, nx2, hb2⟩ := hrel
        have hbo : Below wo.heap.size wo wr := (bal (b0 wo) _).trans (hb2.mono (by omega))
        by_cases hlt2 : j < t.rev.length
        · obtain ⟨b3, o3, rfl, d0⟩ := RL.at1 (fun x => .int .i64 x) (fun _ => rfl) (hr.out.below hbo) hlt2
          have hs := hrs.out j hlt2
          have hRj := hR.out (revF g (t.rev.take j)) t.rev[j]
          rw [hs] at hRj
          clear hs
          generalize revF g (t.rev.take j) = gj at *
          generalize t.rev[j] = x at *
          obtain ⟨ao, co, rfl⟩ := hown.form
          replace hRj := hid hRj
          go_wp2_with (go_at_call 53; go_loud ((with_reducible refine (hRj.out _ _ hown.reads).mono ?_); rintro e w1 ⟨v1, rfl, hown1, hb1⟩; have nx3 := bgo nx2 hb1; have hb3 := hb2.trans (hb1.mono (by have := hb2.size; simpa using this)); have hown1' := hown1.mono (base' := w.heap.size) nx2.size))
          go_roundw
          case rel => exact ⟨j + 1, by omega, by go_num, hown1', nx3, hb3⟩
          case measure => simp [intOf]; omega
        · obtain rfl : j = t.rev.length := by omega
          rw [hrn.out] at hown
          have k5b := k5.below hb2 (by omega)
          have l5 := k5b.lt
          have c1 := k5b.cell 1
          simp only [List.getElem?_toArray, List.getElem?_cons_zero, List.getElem?_cons_succ] at c1
          go_wp2
          go_loopw [3, 9, 30] (fun o _ i wi => ∃ j : Nat, j ≤ t.mt.length ∧ i = .int .i64 j ∧ Wb.Own cpyC w.heap.size 74 2 wi o (viewL (metaF (revF g t.rev) (t.mt.take j))) ∧ Below w.heap.size w wi ∧ Below (wo.heap.size + 1) (wo.alloc (.cells #[.int .i64 t.seq, .slice am t.mt.length cm, .slice ad t.dt.length cd, .slice ar t.rev.length cr, .bool t.h0.on, .int .i64 t.h0.left, .bool t.h1.on, .int .i64 t.h1.left, .bool t.h2.on, .int .i64 t.h2.left] 30)) wi) (fun _ _ i _ => t.mt.length - (intOf i).toNat)
          case atStart => exact ⟨0, Nat.zero_le _, rfl, by rw [hm0.out]; exact hown, nx2, hb2⟩
          case round =>
            clear hown nx2 hb2 hbo k5b l5 c1
            obtain ⟨j, hj, rfl, hown, nx2, hb2⟩ := hrel
            have hbo : Below wo.heap.size wo wr := (bal (b0 wo) _).trans (hb2.mono (by omega))
            have k5b := k5.below hb2 (by omega)
            have l5 := k5b.lt
            by_cases hlt2 : j < t.mt.length
            · obtain ⟨b3, o3, rfl, d0, d1⟩ := RL.at2 (fun x => .int .i64 x.block) (fun x => .string x.text) (fun _ => rfl) (hm.out.below hbo) hlt2
              have hs := hms.out j hlt2
              have hWj := hW.out (metaF (revF g t.rev) (t.mt.take j)) t.mt[j].block t.mt[j].text
              rw [hs] at hWj
              have hBj := hB.out t.mt[j].block
              rw [hmk.out j hlt2] at hBj
              have hAj := hA.out t.rev t.mt[j].block (.slice ar t.rev.length cr)
              rw [hma.out j hlt2] at hAj
              clear hs
              generalize metaF (revF g t.rev) (t.mt.take j) = gj at *
              generalize t.mt[j] = x at *
              obtain ⟨ao, co, rfl⟩ := hown.form
              replace hWj := hid hWj; replace hBj := hid hBj; replace hAj := hid hAj
              have c3 := k5b.cell 3
              simp only [List.getElem?_toArray, List.getElem?_cons_zero, List.getElem?_cons_succ] at c3
              have k9 : Blk (wr.alloc (.cells #[.int .i64 x.block, .string x.text] 74)) wr.heap.size #[.int .i64 x.block, .string x.text] 74 := Blk.new wr _ _
              go_wp2_with (first
                | (go_at_call 52; go_loud ((with_reducible refine (hBj.out _).mono ?_); rintro e w1 ⟨rfl, rfl⟩))
                | (go_at_call 54; go_loud ((with_reducible refine (hAj.out _ (hr.out.below (bal hbo _)) n3).mono ?_); rintro e w1 ⟨rfl, rfl⟩))
                | (go_at_call 55; go_loud ((with_reducible refine (hWj.out _ _ (hown.alloc _).reads).mono ?_); rintro e w1 ⟨v1, rfl, hown1, hb1⟩; have nx3 := bgo (bal nx2 _) hb1; have hb3 := (allocB hb2 (by simp) _).trans (hb1.mono (by have := hb2.size; simp at this ⊢; omega)); have hown1' := hown1.mono (base' := w.heap.size) (by have := nx2.size; simp; omega))))
              go_roundw
              case rel => exact ⟨j + 1, by omega, by go_num, hown1', nx3, hb3⟩
              case measure => simp [intOf]; omega
            · obtain rfl : j = t.mt.length := by omega
              rw [hmn.out] at hown
              go_wp2
              go_roundw
              case rel => exact ⟨k + 1, by omega, by go_num, by rw [hge.out]; exact hown, nx2⟩
              case measure => simp [intOf]; omega
    · obtain rfl : k = l.length := by omega
      rw [List.take_length] at hown
      go_wp2
      go_ret
      exact ⟨_, rfl, hown, nx⟩
end Go.Proofs.YtjhmfljlclajnabDoor

namespace Go.Proofs.YtjhmfljlclajnabDoor
open Go.RowKit Wb
set_option linter.unusedVariables false
set_option linter.unusedSimpArgs false
set_option maxRecDepth 100000
set_option maxHeartbeats 4000000
theorem elemTxn : Elem Tryd.prog 40 30 10 128 := Elem.mk' (z := .agg #[.int .i64 0, .slice none 0 0, .slice none 0 0, .slice none 0 0, .bool false, .int .i64 0, .bool false, .int .i64 0, .bool false, .int .i64 0]) Tryd.underlying40 (by kernel_rfl) rfl

theorem law_txns (l : List Txn) (v : Value) (w : World) (h : RTxns w v l) :
    Calls Tryd.prog 21 #[v] w fun e w' => ∃ v', e = .returned v' ∧ OTxns w.heap.size 30 74 3 w' v' l ∧ Below w.heap.size w w' := by
  obtain ⟨a, cap, rfl, hl⟩ := h.form
  have hC := fun t v w (hh : RTxn w v t) => ref_CopyTxn t v w hh
  have hst := fun k (hk : k < l.length) => List.take_succ_eq_append_getElem hk
  have h0 : l.take 0 = [] := rfl
  replace h := hid h; replace hC := hid hC; replace hst := hid hst; replace h0 := hid h0
  go_enter Tryd.func21, Tryd.ntmps21
  go_wp2
  go_loopw [3, 8] (fun o i wr => ∃ k : Nat, k ≤ l.length ∧ i = .int .i64 k ∧ OTxns w.heap.size 30 74 3 wr o (l.take k) ∧ Below w.heap.size w wr) (fun _ i _ => l.length - (intOf i).toNat)
  case atStart => exact ⟨0, Nat.zero_le _, rfl, by rw [h0.out]; exact OTxns.nil _ _ _ _ _, b0 w⟩
  case round =>
    obtain ⟨k, hk, rfl, hown, nx⟩ := hrel
    by_cases hlt : k < l.length
    · obtain ⟨b1, o1, am, cm, ad, cd, ar, cr, rfl, hrt, c0, c1, c2, c3, c4, c5, c6, c7, c8, c9⟩ := (h.out.below nx).at3 hlt
      have hstk := hst.out k hlt
      have hlk : (l.take k).length ≤ 1099511627743 := by rw [List.length_take]; omega
      generalize hl2 : l.take (k + 1) = l2 at *
      replace hl2 := hid hl2
      generalize l.take k = l1 at *
      generalize l[k] = t at *
      obtain ⟨xs, hox, hxm, hxo⟩ := hown
      have hxl : xs.length = l1.length := by rw [← hxm]; simp
      have hxl2 : xs.length ≤ 1099511627743 := by omega
      replace hxl := hid hxl; replace hxm := hid hxm; replace hxo := hid hxo
      replace hrt := hid hrt
      replace hstk := hid hstk
      go_wp2_with (first
        | (go_at_call 7; go_loud ((refine (hC.out t _ _ (hrt.out.below (bal (b0 wr) _))).mono ?_); rintro e w1 ⟨v1, rfl, hot, hb1⟩; obtain ⟨y, hyt, hv, hoy⟩ := hot.tv; obtain ⟨ty, ⟨q1, q2, q3⟩, ⟨q4, q5, q6⟩, ⟨q7, q8, q9⟩⟩ := y; subst hyt; dsimp only [TV.val, txnV, SlV.val] at hv; subst hv; have nx1 := bgo (bal nx _) hb1; have hox1 := (hox.alloc _).below hb1; have hxo1 := hid (fun x hx => ((hxo.out x hx).below (bgo (bal (b0 wr) _) hb1))); have hoy2 := hid (hoy.mono (b2 := w.heap.size) (by have := nx.size; simp; omega)); clear hox hoy hot))
        | (at_builtin; go_loud (refine wpList_push rfl _ _ _ rfl w.heap.size _ 10 128 tvC_flat elemTxn hox1 rfl ⟨ty, ⟨q1, q2, q3⟩, ⟨q4, q5, q6⟩, ⟨q7, q8, q9⟩⟩ rfl rfl (by omega) (by unfold maxLen; omega) nx1.size ?_); intro v7 w7 hown7 hbel7 hg7))
      have hp := OTxns.pushed hox1 hxo1.out hoy2.out (by decide) (by decide) hown7 hg7
      rw [hxm.out] at hp
      dsimp only at hp
      rw [← hstk.out] at hp
      replace hp := hid hp
      go_wp2
      go_roundw
      case rel => exact ⟨k + 1, by omega, by go_num, by rw [hl2.out]; exact hp.out, nx1.trans hbel7⟩
      case measure => simp [intOf]; omega
    · obtain rfl : k = l.length := by omega
      rw [List.take_length] at hown
      go_wp2
      go_ret
      exact ⟨_, rfl, hown, nx⟩

theorem law_good (l : List Txn) (v : Value) (w : World) (h : RTxns w v l) :
    Calls Tryd.prog 19 #[v] w fun e w' => e = .returned (.bool (l.all goodT)) ∧ Below w.heap.size w w' := by
  obtain ⟨a, cap, rfl, hl⟩ := h.form
  have hG := fun t v w (hh : RTxn w v t) => ref_GoodTxn t v w hh
  have hno := fun k (hk : k < l.length) (hn : goodT l[k] = false) => all_no (p := goodT) hk hn
  have hst := fun k (hk : k < l.length) hh (hn : goodT l[k] = true) => all_step (p := goodT) hk hh hn
  replace h := hid h; replace hG := hid hG; replace hst := hid hst; replace hno := hid hno
  go_enter Tryd.func19, Tryd.ntmps19
  go_wp2
  go_loopw [7] (fun i wr => ∃ k : Nat, k ≤ l.length ∧ i = .int .i64 k ∧ Hid ((l.take k).all goodT = true) ∧ Below w.heap.size w wr) (fun i _ => l.length - (intOf i).toNat)
  case atStart => exact ⟨0, Nat.zero_le _, rfl, hid rfl, b0 w⟩
  case round =>
    obtain ⟨k, hk, rfl, hall, nx⟩ := hrel
    by_cases hlt : k < l.length
    · obtain ⟨b1, o1, am, cm, ad, cd, ar, cr, rfl, hrt, c0, c1, c2, c3, c4, c5, c6, c7, c8, c9⟩ := (h.out.below nx).at3 hlt
      have hnk := hno.out k hlt
      have hsk := hst.out k hlt hall.out
      generalize l[k] = t at *
      have hGt := hG.out t
      replace hrt := hid hrt; replace hnk := hid hnk; replace hsk := hid hsk
      cases hg : goodT t with
      | true =>
        rw [hg] at hGt
        have hs := hid (hsk.out hg)
        clear hg
        replace hGt := hid hGt
        go_wp2_with (go_at_call 43; go_loud ((refine (hGt.out _ _ (hrt.out.below (bal (b0 wr) _))).mono ?_); rintro e w1 ⟨rfl, hb1⟩; have nx1 := bgo (bal nx _) hb1))
        go_roundw
        case rel => exact ⟨k + 1, by omega, by go_num, hs, nx1⟩
        case measure => simp [intOf]; omega
      | false =>
        rw [hg] at hGt
        have hs := hid (hnk.out hg)
        clear hg
        replace hGt := hid hGt
        go_wp2_with (go_at_call 43; go_loud ((refine (hGt.out _ _ (hrt.out.below (bal (b0 wr) _))).mono ?_); rintro e w1 ⟨rfl, hb1⟩; have nx1 := bgo (bal nx _) hb1))
        go_ret
        exact ⟨ret_b hs.out.symm, nx1⟩
    · obtain rfl : k = l.length := by omega
      have hv := hall.out
      rw [List.take_length] at hv
      replace hv := hid hv
      go_wp2
      go_ret
      exact ⟨ret_b hv.out.symm, nx⟩
end Go.Proofs.YtjhmfljlclajnabDoor

namespace Wb
open Go Go.RowKit
theorem checkL_len (l : List Cpy) (p q : Int) : (checkL l p q).length ≤ l.length + 3 := by
  unfold checkL homeS
  split
  · have : (if l = [] then ([] : List Stp) else [flushS]).length ≤ 1 := by split <;> simp
    simp only [List.length_append, List.length_map, List.length_cons, List.length_nil]; omega
  · simp
end Wb
namespace Go.Proofs.YtjhmfljlclajnabDoor
open Go.RowKit Wb
set_option linter.unusedVariables false
set_option linter.unusedSimpArgs false
set_option maxRecDepth 100000
set_option maxHeartbeats 8000000
theorem ref_SameSteps2 (l : List Stp) (v1 v2 : Value) (w : World) (h1 : RL stpC w v1 l) (h2 : RL stpC w v2 l) (hl : l.length ≤ 6000000000000) :
    Calls Tryd.prog 10 #[v1, v2] w fun e w' => e = .returned (.bool true) ∧ Below w.heap.size w w' := by
  obtain ⟨a, cap, rfl, _⟩ := h1.form
  obtain ⟨b, bcap, rfl, _⟩ := h2.form
  have hle : ((l.length : Int) != (l.length : Int)) = false := by simp
  replace h1 := hid h1
  replace h2 := hid h2
  go_enter Tryd.func10, Tryd.ntmps10
  go_wp2
  go_loopw [13] (fun i wr => ∃ k : Nat, k ≤ l.length ∧ i = .int .i64 k ∧ Below w.heap.size w wr) (fun i _ => l.length - (intOf i).toNat)
  case atStart => exact ⟨0, Nat.zero_le _, rfl, b0 w⟩
  case round =>
    obtain ⟨k, hk, rfl, nx⟩ := hrel
    by_cases hlt : k < l.length
    · obtain ⟨b1, o1, rfl, c0, c1, c2⟩ := RL.at3 (fun x => .int .i64 x.kind) (fun x => .int .i64 x.at_) (fun x => .string x.text) (fun _ => rfl) (h1.out.below nx) hlt
      obtain ⟨b2, o2, rfl, d0, d1, d2⟩ := RL.at3 (fun x => .int .i64 x.kind) (fun x => .int .i64 x.at_) (fun x => .string x.text) (fun _ => rfl) (h2.out.below nx) hlt
      generalize l[k] = x at *
      go_wp2
      go_quiet (fail)
      go_wp2
      go_roundw
      case rel => exact ⟨k + 1, by omega, by go_num, belowDrewN nx⟩
      case measure => simp [intOf]; omega
    · go_wp2
      go_ret
      exact ⟨rfl, nx⟩
theorem law_SealChecks (l : List Txn) (c : List Cpy) (p q : Int) (v vc : Value) (w0 : World) (hT : RTxns w0 v l) (hC : RL cpyC w0 vc c) (hcl : c.length ≤ 5864062014805) (hF : Sl w0 (flR 0).v 1 (flR 0).cs) :
    Calls Tryd.prog 5 #[v, vc, .int .i64 p, .int .i64 q] w0 fun e w' => e = .returned (.bool true) ∧ Below w0.heap.size w0 w' := by
  obtain ⟨a, cap, rfl, hl⟩ := hT.form
  obtain ⟨ac, cc, rfl, _⟩ := hC.form
  have hCk := fun v w' (hb : Below w0.heap.size w0 w') (hh : RL cpyC w' v c) => seal_Check c p q v w' hh hcl (hF.below hb)
  have hRk := fun w' (hb : Below w0.heap.size w0 w') => ref_CheckSteps c p q _ w' (hC.below hb) hcl
  have hSs := fun v1 v2 w' h1 h2 => ref_SameSteps2 (checkL c p q) v1 v2 w' h1 h2 (Nat.le_trans (checkL_len c p q) (by omega))
  have hSe := fun w' (hb : Below w0.heap.size w0 w') => law_seals w' (hF.below hb)
  have hG := fun w' (hb : Below w0.heap.size w0 w') => law_good l _ w' (hT.below hb)
  have hX := fun w' (hb : Below w0.heap.size w0 w') => law_txns l _ w' (hT.below hb)
  have hS2 := fun v1 v2 w h1 h2 => ref_SameCopies (newestL l) v1 v2 w h1 h2 (by have : (newestL l).length ≤ 12 := viewN_len _ 12; omega)
  have hN : l.all goodT = true → ∀ v w', RTxns w' v l → _ := fun hg v w' hh => seal_Newest l (fun t ht => List.all_eq_true.1 hg t ht) v w' hh
  have hRN : l.all goodT = true → ∀ w', Below w0.heap.size w0 w' → _ := fun hg w' hb => ref_NewestOf l (fun t ht => List.all_eq_true.1 hg t ht) _ w' (hT.below hb)
  generalize checkL c p q = CL at *
  generalize checkE c p q = CE at *
  generalize newestL l = NL at *
  have hroom : (c.length + c.length / 4 + 192) * 24 ≤ 281474976710656 := by omega
  have h63 : c.length ≤ 140737488355328 := by omega
  have hCb := fun w' (hb : Below w0.heap.size w0 w') => hC.below hb
  have X : St [] w0 w0 [] [] := St.start [] w0
  replace hCk := hid hCk; replace hRk := hid hRk; replace hSs := hid hSs; replace hSe := hid hSe; replace hG := hid hG; replace hX := hid hX; replace hS2 := hid hS2; replace hN := hid hN; replace hRN := hid hRN; replace hC := hid hC; replace hT := hid hT; replace hCb := hid hCb
  cases hg : l.all goodT with
  | false =>
    rw [hg] at hG
    go_enter Tryd.func5, Tryd.ntmps5
    go_wp2_with (first
      | (at_builtin; go_loud (refine m_appL rfl rfl c cpyC_flat X (by first | exact EvR.const _ | exact EvR.tmp rfl rfl) (by first | exact EvR.const _ | exact EvR.tmp rfl rfl) (hCb.out _ X.below) hroom h63 ?_; intro a2 c2 w2 M2 hO2 X2; replace X := St.ownEnd (L := []) (T := []) X2 hO2; clear X2 hO2; (simp only [Act.put, List.setIfInBounds_toArray, List.set_cons_succ, List.set_cons_zero, List.drop_succ_cons, List.drop_zero, List.take_succ_cons, List.take_zero, Nat.reduceAdd])))
      | (go_at_call 17; go_loud ((with_reducible refine (hCk.out _ _ X.below X.r0).mono ?_); rintro e w1 ⟨va, rfl, hoa, hb1⟩; obtain ⟨la, lc, rfl, _⟩ := hoa.reads.form; replace X := X.addOwn hb1 hoa; clear hb1 hoa))
      | (go_at_call 18; go_loud ((with_reducible refine (hRk.out _ X.below).mono ?_); rintro e w1 ⟨va, rfl, hoa, hb1⟩; obtain ⟨lb, ld, rfl, _⟩ := hoa.reads.form; replace X := X.addOwn hb1 hoa; clear hb1 hoa))
      | (go_at_call 10; go_loud ((with_reducible refine (hSs.out _ _ _ X.r1 X.r0).mono ?_); rintro e w1 ⟨rfl, hb1⟩; replace X := X.call hb1; clear hb1))
      | (go_at_call 12; go_loud ((with_reducible refine (hSe.out _ X.below).mono ?_); rintro e w1 ⟨rfl, hb1⟩; replace X := X.call hb1; clear hb1))
      | (go_at_call 19; go_loud ((with_reducible refine (hG.out _ X.below).mono ?_); rintro e w1 ⟨rfl, hb1⟩; replace X := X.call hb1; clear hb1)))
    go_ret
    exact ⟨rfl, X.below⟩
  | true =>
    rw [hg] at hG
    have hN2 := hid (hN.out hg)
    have hRN2 := hid (hRN.out hg)
    clear hg hN hRN
    go_enter Tryd.func5, Tryd.ntmps5
    go_wp2_with (first
      | (at_builtin; go_loud (refine m_appL rfl rfl c cpyC_flat X (by first | exact EvR.const _ | exact EvR.tmp rfl rfl) (by first | exact EvR.const _ | exact EvR.tmp rfl rfl) (hCb.out _ X.below) hroom h63 ?_; intro a2 c2 w2 M2 hO2 X2; replace X := St.ownEnd (L := []) (T := []) X2 hO2; clear X2 hO2; (simp only [Act.put, List.setIfInBounds_toArray, List.set_cons_succ, List.set_cons_zero, List.drop_succ_cons, List.drop_zero, List.take_succ_cons, List.take_zero, Nat.reduceAdd])))
      | (go_at_call 17; go_loud ((with_reducible refine (hCk.out _ _ X.below X.r0).mono ?_); rintro e w1 ⟨va, rfl, hoa, hb1⟩; obtain ⟨la, lc, rfl, _⟩ := hoa.reads.form; replace X := X.addOwn hb1 hoa; clear hb1 hoa))
      | (go_at_call 18; go_loud ((with_reducible refine (hRk.out _ X.below).mono ?_); rintro e w1 ⟨va, rfl, hoa, hb1⟩; obtain ⟨lb, ld, rfl, _⟩ := hoa.reads.form; replace X := X.addOwn hb1 hoa; clear hb1 hoa))
      | (go_at_call 10; go_loud ((with_reducible refine (hSs.out _ _ _ X.r1 X.r0).mono ?_); rintro e w1 ⟨rfl, hb1⟩; replace X := X.call hb1; clear hb1))
      | (go_at_call 12; go_loud ((with_reducible refine (hSe.out _ X.below).mono ?_); rintro e w1 ⟨rfl, hb1⟩; replace X := X.call hb1; clear hb1))
      | (go_at_call 19; go_loud ((with_reducible refine (hG.out _ X.below).mono ?_); rintro e w1 ⟨rfl, hb1⟩; replace X := X.call hb1; clear hb1))
      | (go_at_call 21; go_loud ((with_reducible refine (hX.out _ X.below).mono ?_); rintro e w1 ⟨vt, rfl, o2, hb1⟩; have hrt := o2.reads hl; obtain ⟨lt, lu, rfl, _⟩ := hrt.form; replace X := X.call hb1; replace hrt := hid hrt; clear hb1 o2))
      | (go_at_call 16; go_loud ((with_reducible refine (hN2.out _ _ hrt.out).mono ?_); rintro e w1 ⟨va, rfl, hoa, hb1⟩; obtain ⟨ln, lm, rfl, _⟩ := hoa.reads.form; replace X := X.addOwn hb1 hoa; clear hb1 hoa))
      | (go_at_call 22; go_loud ((with_reducible refine (hRN2.out _ X.below).mono ?_); rintro e w1 ⟨va, rfl, hoa, hb1⟩; obtain ⟨lo, lp, rfl, _⟩ := hoa.reads.form; replace X := X.addOwn hb1 hoa; clear hb1 hoa))
      | (go_at_call 20; go_loud ((with_reducible refine (hS2.out _ _ _ X.r1 X.r0).mono ?_); rintro e w1 ⟨rfl, hb1⟩; replace X := X.call hb1; clear hb1)))
    go_ret
    exact ⟨rfl, X.below⟩
end Go.Proofs.YtjhmfljlclajnabDoor
