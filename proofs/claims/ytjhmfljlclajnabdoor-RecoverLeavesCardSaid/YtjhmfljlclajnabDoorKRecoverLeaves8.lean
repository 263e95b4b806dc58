/- The walk of seal.Check. The walks of the ring that take places. The walks of the ring that give back; whether the ring answers at all. Whether the ring answers at all; the law on Need and Most. The law on what is taken in two parts. More on what a log tells. No program in sight. The walk of the law RecoverLeaves. The world of the witness, where the program's own step 'flush' stands as its text lays it. What the listed variable holds: the step 'flush'. -/
import Derived.Test.YtjhmfljlclajnabDoorKRecoverLeaves7
import Derived.Test.YtjhmfljlclajnabDoorEnc
import Derived.Test.YtjhmfljlclajnabDoorRing
import Derived.Test.YtjhmfljlclajnabDoorRegCall
import Derived.Test.YtjhmfljlclajnabDoorKRecoverLeaves3
import Derived.Test.YtjhmfljlclajnabDoorKRecoverLeaves5
import Derived.Test.YtjhmfljlclajnabDoorKRecoverLeaves4
import Derived.Test.YtjhmfljlclajnabDoorKRecoverLeaves6
import Derived.Test.YtjhmfljlclajnabDoorKRecoverLeaves0
import Derived.Test.YtjhmfljlclajnabDoorCards
import Derived.Test.YtjhmfljlclajnabDoorTie
import Derived.Test.YtjhmfljlclajnabDoorKRecoverLeaves1
import Derived.Lib.LaidTab
set_option linter.unusedVariables false
set_option linter.unusedSimpArgs false
namespace Wb
open Go Go.RowKit
theorem superM_read (w : World) (q p : Int) : RMark w (.agg #[.int .i64 1, .int .i64 q, .int .i64 p, .slice none 0 0, .slice none 0 0]) (superM q p) :=
  ⟨_, _, rfl, RL.nil _ _, RL.nil _ _, Nat.zero_le _, Nat.zero_le _⟩
theorem checkE_bad {l : List Cpy} {p q : Int} (h : markE (superM q p) ≠ 0) : checkE l p q = markE (superM q p) ∧ checkL l p q = [] := by
  have e : checkE l p q = markE (superM q p) := by unfold checkE; rw [if_pos h]
  exact ⟨e, by unfold checkL; rw [e, if_neg h]⟩
theorem checkE_form {l : List Cpy} {p q : Int} (h : markE (superM q p) = 0) {k : Nat} (hk : k < l.length) (hc : cpyOk l[k] = false) : checkE l p q = 1 ∧ checkL l p q = [] := by
  have hn : ¬ l.all cpyOk = true := fun hh => by
    have := List.all_eq_true.1 hh _ (List.getElem_mem hk)
    rw [hc] at this; cases this
  have e : checkE l p q = 1 := by unfold checkE; rw [if_neg (by rw [h]; decide), if_neg hn]
  exact ⟨e, by unfold checkL; rw [e, if_neg (by decide)]⟩
theorem checkE_ok {l : List Cpy} {p q : Int} (h : markE (superM q p) = 0) (hc : l.all cpyOk = true) : checkE l p q = 0 ∧ checkL l p q = homeS l ++ [wrS 0 (markS (superM q p)), flushS] := by
  have e : checkE l p q = 0 := by unfold checkE; rw [if_neg (by rw [h]; decide), if_pos hc]
  exact ⟨e, by unfold checkL; rw [if_pos e]⟩
theorem all_take {α : Type} {p : α → Bool} {l : List α} {k : Nat} (hk : k < l.length) (h : (l.take k).all p = true) (hc : p l[k] = true) : (l.take (k + 1)).all p = true := by
  rw [List.take_succ_eq_append_getElem hk, List.all_append, h]
  simp [hc]
theorem map_take {α β : Type} {f : α → β} {l : List α} {k : Nat} (hk : k < l.length) : (l.take (k + 1)).map f = (l.take k).map f ++ [f l[k]] := by
  rw [List.take_succ_eq_append_getElem hk, List.map_append]; rfl
theorem room2 {n m : Nat} (h : n = m) (hm : m ≤ 6000000000000) : (n + 2 + (n + 2) / 4 + 192) * 32 ≤ 281474976710656 ∧ n + 2 ≤ 140737488355328 := by subst h; omega
theorem cpyOk_iff (c : Cpy) : cpyOk c = true ↔ (0 ≤ c.block ∧ c.block < 12) ∧ c.text.size = 32 := by
  unfold cpyOk isBlk ok32; simp
end Wb
namespace Go.Proofs.YtjhmfljlclajnabDoor
open Go.RowKit Wb
set_option linter.unusedVariables false
set_option linter.unusedSimpArgs false
set_option maxRecDepth 100000
set_option maxHeartbeats 8000000
theorem seal_Check (l : List Cpy) (p q : Int) (v : Value) (w : World) (h : RL cpyC w v l) (hl : l.length ≤ 5864062014805) (hF : Sl w (flR 0).v 1 (flR 0).cs) :
    Calls Tryd.prog 17 #[v, .int .i64 p, .int .i64 q] w fun e w' => ∃ v', e = .returned (.tuple #[v', .int .i64 (checkE l p q)]) ∧ Wb.Own stpC w.heap.size 76 3 w' v' (checkL l p q) ∧ Below w.heap.size w w' := by
  obtain ⟨a, cap, rfl, _⟩ := h.form
  have hE := fun w => stamp_Encode (superM q p) _ w (superM_read w q p)
  have hW := fun x s w => seal_write x s w
  have X : St [] w w [] [flR 0] := (St.start [] w).addR0 hF
  replace hE := hid hE; replace hW := hid hW
  by_cases hM : markE (superM q p) = 0
  · rw [hM] at hE
    have hbad := fun k (hk : k < l.length) (hc : cpyOk l[k] = false) => checkE_form hM hk hc
    have hok := fun (hc : l.all cpyOk = true) => checkE_ok hM hc
    have hat := fun k (hk : k < l.length) (h : (l.take k).all cpyOk = true) (hc : cpyOk l[k] = true) => all_take hk h hc
    have hmt := fun k (hk : k < l.length) => map_take (f := goS) hk
    have hfu : l.take l.length = l := List.take_length
    have hho : homeS l = l.map goS ++ (if l = [] then [] else [flushS]) := rfl
    have hnil : (l = []) ↔ l.length = 0 := List.length_eq_zero_iff.symm
    rw [hho] at hok
    generalize checkE l p q = E at *
    generalize checkL l p q = C at *
    generalize markS (superM q p) = ms at *
    replace h := hid h; replace hbad := hid hbad; replace hok := hid hok; replace hat := hid hat; replace hmt := hid hmt; replace hfu := hid hfu; replace hnil := hid hnil
    clear hho hM hF
    go_enter Tryd.func17, Tryd.ntmps17
    go_wp2_with (first
      | (go_at_call 38; go_loud ((with_reducible refine (hE.out _).mono ?_); rintro e w1 ⟨rfl, hb1⟩; replace X := X.call hb1; clear hb1)))
    go_loopw [10, 25] (fun o i wr => ∃ (k : Nat) (M : List Ent), k ≤ l.length ∧ i = .int .i64 k ∧ Hid ((l.take k).all cpyOk = true) ∧ OwnM stpC 76 3 o ((l.take k).map goS) M ∧ St [] w wr (M ++ []) [flR 0]) (fun _ i _ => l.length - (intOf i).toNat)
    case atStart => exact ⟨0, [], Nat.zero_le _, rfl, hid rfl, OwnM.nil _ _ _, X⟩
    case round =>
      clear X
      obtain ⟨k, M, hk, rfl, hal, hO, X⟩ := hrel
      have hlk : ((l.take k).map goS).length = k := by rw [List.length_map, List.length_take]; omega
      obtain ⟨ao, co, rfl⟩ := hO.form
      rw [hlk] at hO ⊢
      by_cases hlt : k < l.length
      · obtain ⟨b1, o1, rfl, c0, c1⟩ := RL.at2 (fun x => .int .i64 x.block) (fun x => .string x.text) (fun _ => rfl) (h.out.below X.below) hlt
        have hb := hbad.out k hlt
        have ha := hat.out k hlt hal.out
        have hm := hmt.out k hlt
        generalize l[k] = x at *
        generalize (l.take k).map goS = ls at *
        obtain ⟨xb, xt⟩ := x
        dsimp only at *
        have hci := cpyOk_iff ⟨xb, xt⟩
        dsimp only at hci
        cases hc : cpyOk ⟨xb, xt⟩ with
        | true =>
          obtain ⟨⟨y0, y1⟩, y2⟩ := hci.1 hc
          have ha := ha hc
          replace ha := hid ha; replace hm := hid hm
          have y3 : ((xt.size : Int) != 32) = false := by rw [y2]; rfl
          have d1 : decide (xb < 0) = false := decide_eq_false (by omega)
          have d2 : decide (12 ≤ xb) = false := decide_eq_false (by omega)
          clear hci hc hb
          have hr1 : (ls.length + 1 + (ls.length + 1) / 4 + 192) * 32 ≤ 281474976710656 := by omega
          have hr2 : ls.length + 1 ≤ 140737488355328 := by omega
          have hgo : [goS ⟨xb, xt⟩].flatMap stpC = [.int .i64 1, .int .i64 (25 + xb), .string xt] := rfl
          go_wp2_with (first
            | (refine at_mem rfl ?_; (first | (refine at_load rfl ?_; (first | (refine c_load1 rfl _ _ rfl rfl X (by repeat (first | exact ReadA.here rfl | apply ReadA.there)) ?_) | (refine c_loadN rfl _ _ rfl rfl X (by repeat (first | exact ReadB.here (Nat.le_of_ble_eq_true rfl) | apply ReadB.there)) ?_))) | (refine at_store rfl ?_; (first | (refine c_store1 rfl _ _ _ rfl rfl (by first | exact EvR.const _ | exact EvR.tmp rfl rfl) X rfl rfl (by repeat (first | exact PutA.here (Nat.le_of_ble_eq_true rfl) | apply PutA.there)) ?_; intro w X2; (try simp only [upd] at X2); replace X := X2; clear X2) | (refine c_storeN rfl _ _ _ rfl rfl rfl X rfl rfl (by repeat (first | exact PutA.here (Nat.le_of_ble_eq_true rfl) | apply PutA.there)) ?_; intro w X2; (try simp only [upd] at X2); replace X := X2; clear X2))) | (refine m_alloc rfl _ rfl X ?_; intro g w X2; (replace X := X2; clear X2)) | (refine m_box rfl _ _ rfl (by first | exact EvR.const _ | exact EvR.tmp rfl rfl) rfl X ?_; intro g w X2; (replace X := X2; clear X2))); (simp only [Act.put, List.setIfInBounds_toArray, List.set_cons_succ, List.set_cons_zero, List.drop_succ_cons, List.drop_zero, List.take_succ_cons, List.take_zero, Nat.reduceAdd]))
            | (go_at_call 35; go_loud ((with_reducible refine (hW.out _ _ _).mono ?_); rintro e w1 ⟨rfl, hb1⟩; replace X := X.call hb1; clear hb1))
            | (refine at_build rfl ?_; go_loud (refine m_build1 rfl rfl (by first | exact EvR.const _ | exact EvR.tmp rfl rfl) (by rfl) (by rfl) X ?_; intro g w2 X2; replace X := X2; clear X2; (simp only [Act.put, List.setIfInBounds_toArray, List.set_cons_succ, List.set_cons_zero, List.drop_succ_cons, List.drop_zero, List.take_succ_cons, List.take_zero, Nat.reduceAdd])))
            | (at_builtin; go_loud ((refine m_appB (M := M) (T := []) (n := 1) [_] rfl rfl [goS ⟨xb, xt⟩] stpC_flat X hO (by first | exact EvR.const _ | exact EvR.tmp rfl rfl) (by first | exact EvR.const _ | exact EvR.tmp rfl rfl) hgo rfl hr1 hr2 ?_); intro a2 c2 w2 M2 hO2 X2; (simp only [Act.put, List.setIfInBounds_toArray, List.set_cons_succ, List.set_cons_zero, List.drop_succ_cons, List.drop_zero, List.take_succ_cons, List.take_zero, Nat.reduceAdd]))))
          rw [hlk]
          go_roundw
          case rel => exact ⟨k + 1, M2, by omega, by go_num, ha, by rw [hm.out, ← hlk]; exact hO2, X2.tail⟩
          case measure => simp [intOf]; omega
        | false =>
          obtain ⟨e1, e2⟩ := hb hc
          subst e1 e2
          have hn : ¬ ((0 ≤ xb ∧ xb < 12) ∧ xt.size = 32) := fun h => by rw [hci.2 h] at hc; cases hc
          clear hci hc hb ha hm
          by_cases z1 : xb < 0
          · have d1 : decide (xb < 0) = true := decide_eq_true z1
            go_wp2_with (first
              | (refine at_mem rfl ?_; (first | (refine at_load rfl ?_; (first | (refine c_load1 rfl _ _ rfl rfl X (by repeat (first | exact ReadA.here rfl | apply ReadA.there)) ?_) | (refine c_loadN rfl _ _ rfl rfl X (by repeat (first | exact ReadB.here (Nat.le_of_ble_eq_true rfl) | apply ReadB.there)) ?_))) | (refine at_store rfl ?_; (first | (refine c_store1 rfl _ _ _ rfl rfl (by first | exact EvR.const _ | exact EvR.tmp rfl rfl) X rfl rfl (by repeat (first | exact PutA.here (Nat.le_of_ble_eq_true rfl) | apply PutA.there)) ?_; intro w X2; (try simp only [upd] at X2); replace X := X2; clear X2) | (refine c_storeN rfl _ _ _ rfl rfl rfl X rfl rfl (by repeat (first | exact PutA.here (Nat.le_of_ble_eq_true rfl) | apply PutA.there)) ?_; intro w X2; (try simp only [upd] at X2); replace X := X2; clear X2))) | (refine m_alloc rfl _ rfl X ?_; intro g w X2; (replace X := X2; clear X2)) | (refine m_box rfl _ _ rfl (by first | exact EvR.const _ | exact EvR.tmp rfl rfl) rfl X ?_; intro g w X2; (replace X := X2; clear X2))); (simp only [Act.put, List.setIfInBounds_toArray, List.set_cons_succ, List.set_cons_zero, List.drop_succ_cons, List.drop_zero, List.take_succ_cons, List.take_zero, Nat.reduceAdd])))
            go_ret2
            exact ⟨_, rfl, Own.nil _ _ _ _ _, X.below⟩
          · have d1 : decide (xb < 0) = false := decide_eq_false z1
            by_cases z2 : 12 ≤ xb
            · have d2 : decide (12 ≤ xb) = true := decide_eq_true z2
              go_wp2_with (first
                | (refine at_mem rfl ?_; (first | (refine at_load rfl ?_; (first | (refine c_load1 rfl _ _ rfl rfl X (by repeat (first | exact ReadA.here rfl | apply ReadA.there)) ?_) | (refine c_loadN rfl _ _ rfl rfl X (by repeat (first | exact ReadB.here (Nat.le_of_ble_eq_true rfl) | apply ReadB.there)) ?_))) | (refine at_store rfl ?_; (first | (refine c_store1 rfl _ _ _ rfl rfl (by first | exact EvR.const _ | exact EvR.tmp rfl rfl) X rfl rfl (by repeat (first | exact PutA.here (Nat.le_of_ble_eq_true rfl) | apply PutA.there)) ?_; intro w X2; (try simp only [upd] at X2); replace X := X2; clear X2) | (refine c_storeN rfl _ _ _ rfl rfl rfl X rfl rfl (by repeat (first | exact PutA.here (Nat.le_of_ble_eq_true rfl) | apply PutA.there)) ?_; intro w X2; (try simp only [upd] at X2); replace X := X2; clear X2))) | (refine m_alloc rfl _ rfl X ?_; intro g w X2; (replace X := X2; clear X2)) | (refine m_box rfl _ _ rfl (by first | exact EvR.const _ | exact EvR.tmp rfl rfl) rfl X ?_; intro g w X2; (replace X := X2; clear X2))); (simp only [Act.put, List.setIfInBounds_toArray, List.set_cons_succ, List.set_cons_zero, List.drop_succ_cons, List.drop_zero, List.take_succ_cons, List.take_zero, Nat.reduceAdd])))
              go_ret2
              exact ⟨_, rfl, Own.nil _ _ _ _ _, X.below⟩
            · have d2 : decide (12 ≤ xb) = false := decide_eq_false z2
              have y3 : ((xt.size : Int) != 32) = true := bne_iff_ne.2 (fun h => hn ⟨by omega, by omega⟩)
              clear hn
              go_wp2_with (first
                | (refine at_mem rfl ?_; (first | (refine at_load rfl ?_; (first | (refine c_load1 rfl _ _ rfl rfl X (by repeat (first | exact ReadA.here rfl | apply ReadA.there)) ?_) | (refine c_loadN rfl _ _ rfl rfl X (by repeat (first | exact ReadB.here (Nat.le_of_ble_eq_true rfl) | apply ReadB.there)) ?_))) | (refine at_store rfl ?_; (first | (refine c_store1 rfl _ _ _ rfl rfl (by first | exact EvR.const _ | exact EvR.tmp rfl rfl) X rfl rfl (by repeat (first | exact PutA.here (Nat.le_of_ble_eq_true rfl) | apply PutA.there)) ?_; intro w X2; (try simp only [upd] at X2); replace X := X2; clear X2) | (refine c_storeN rfl _ _ _ rfl rfl rfl X rfl rfl (by repeat (first | exact PutA.here (Nat.le_of_ble_eq_true rfl) | apply PutA.there)) ?_; intro w X2; (try simp only [upd] at X2); replace X := X2; clear X2))) | (refine m_alloc rfl _ rfl X ?_; intro g w X2; (replace X := X2; clear X2)) | (refine m_box rfl _ _ rfl (by first | exact EvR.const _ | exact EvR.tmp rfl rfl) rfl X ?_; intro g w X2; (replace X := X2; clear X2))); (simp only [Act.put, List.setIfInBounds_toArray, List.set_cons_succ, List.set_cons_zero, List.drop_succ_cons, List.drop_zero, List.take_succ_cons, List.take_zero, Nat.reduceAdd])))
              go_ret2
              exact ⟨_, rfl, Own.nil _ _ _ _ _, X.below⟩
      · have hkl : k = l.length := by omega
        have hts : l.take k = l := by rw [hkl, List.take_length]
        obtain ⟨e1, e2⟩ := hok.out (by rw [← hts]; exact hal.out)
        have e3 : C = (l.take k).map goS ++ (if k = 0 then [] else [flushS]) ++ [wrS 0 ms, flushS] := by
          rw [e2, hts]
          by_cases hz : l = []
          · rw [if_pos hz, if_pos (by rw [hkl]; exact hnil.out.1 hz)]
          · rw [if_neg hz, if_neg (fun h => hz (hnil.out.2 (by omega)))]
        clear hal hbad hok hat hmt e2 hts hnil hfu
        generalize (l.take k).map goS = ls at *
        have hfl : [wrS 0 ms, flushS].flatMap stpC = [.int .i64 1, .int .i64 0, .string ms, .int .i64 2, .int .i64 0, .string ⟨#[]⟩] := rfl
        have hli : ((k : Int) < (l.length : Int)) = False := eq_false (by omega)
        by_cases hz : k = 0
        · rw [if_pos hz] at e3
          have hzi : decide (0 < k) = false := decide_eq_false (by omega)
          have hr3 : (ls.length + 2 + (ls.length + 2) / 4 + 192) * 32 ≤ 281474976710656 := by omega
          have hr4 : ls.length + 2 ≤ 140737488355328 := by omega
          clear hz
          replace e3 := hid e3
          replace hkl := hid hkl
          go_wp2
          (refine q_start 0 [] [2, 4, 5] [3] [0, 1, 3, 2, 4, 5, 6, 7] X (by kernel_rfl) (by kernel_rfl) (fun _ _ _ _ _ h => h) ?_; intro hQ X2 hL; replace X := X2; clear X2; simp only [List.take_succ_cons, List.take_zero] at hL; simp only [List.take_succ_cons, List.take_zero])
          (refine q_move rfl rfl (by first | exact EvR.const _ | exact EvR.tmp rfl rfl) rfl rfl hQ ?_; (simp only [Act.put, List.setIfInBounds_toArray, List.set_cons_succ, List.set_cons_zero, List.drop_succ_cons, List.drop_zero, List.take_succ_cons, List.take_zero, Nat.reduceAdd]))
          (refine q_move rfl rfl (by first | exact EvR.const _ | exact EvR.tmp rfl rfl) rfl rfl hQ ?_; (simp only [Act.put, List.setIfInBounds_toArray, List.set_cons_succ, List.set_cons_zero, List.drop_succ_cons, List.drop_zero, List.take_succ_cons, List.take_zero, Nat.reduceAdd]))
          (refine q_rd0 rfl rfl rfl (by repeat (first | exact .head _ | apply List.Mem.tail)) (by rfl) rfl rfl X hL hQ ?_; (simp only [Act.put, List.setIfInBounds_toArray, List.set_cons_succ, List.set_cons_zero, List.drop_succ_cons, List.drop_zero, List.take_succ_cons, List.take_zero, Nat.reduceAdd]))
          (refine q_call 35 _ _ rfl rfl _ rfl ⟨_, _, Tryd.func35, by kernel_rfl, rfl⟩ rfl rfl (hW.out _ _ _) ?_; rintro e w1 ⟨rfl, hb1⟩; replace X := X.call hb1; clear hb1; (have hL2 := X.und (by first | exact hL | exact hL.up | exact hL.up3 | exact hL.up.up); replace hL := hL2; clear hL2); refine ⟨_, rfl, fun _ _ => X.keeps hL, ?_⟩; (simp only [Act.put, List.setIfInBounds_toArray, List.set_cons_succ, List.set_cons_zero, List.drop_succ_cons, List.drop_zero, List.take_succ_cons, List.take_zero, Nat.reduceAdd]))
          (refine q_build2 rfl rfl (by first | exact EvR.const _ | exact EvR.tmp rfl rfl) (by first | exact EvR.const _ | exact EvR.tmp rfl rfl) (by rfl) (by rfl) (by rfl) (by rfl) X hL rfl rfl ?_; intro g w X2 hL2; (try simp only [List.cons_append, List.nil_append] at X2 hL2); replace X := X2; replace hL := hL2; clear X2 hL2; (simp only [Act.put, List.setIfInBounds_toArray, List.set_cons_succ, List.set_cons_zero, List.drop_succ_cons, List.drop_zero, List.take_succ_cons, List.take_zero, Nat.reduceAdd]))
          (refine q_appB (M := M) (T := []) (n := 2) [] rfl rfl [wrS 0 ms, flushS] stpC_flat X hO (by first | exact EvR.const _ | exact EvR.tmp rfl rfl) (by first | exact EvR.const _ | exact EvR.tmp rfl rfl) hfl rfl hr3 hr4 hL (List.nil_sublist _) rfl rfl ?_; intro a3 c3 w3 M3 hO3 X3 hL3; replace X := X3; replace hL := hL3; clear X3 hL3; (simp only [Act.put, List.setIfInBounds_toArray, List.set_cons_succ, List.set_cons_zero, List.drop_succ_cons, List.drop_zero, List.take_succ_cons, List.take_zero, Nat.reduceAdd]))
          (refine q_assign rfl rfl (by first | exact EvR.const _ | exact EvR.tmp rfl rfl) rfl rfl hQ ?_; (simp only [Act.put, List.setIfInBounds_toArray, List.set_cons_succ, List.set_cons_zero, List.drop_succ_cons, List.drop_zero, List.take_succ_cons, List.take_zero, Nat.reduceAdd]))
          (refine q_assign rfl rfl (by first | exact EvR.const _ | exact EvR.tmp rfl rfl) rfl rfl hQ ?_; (simp only [Act.put, List.setIfInBounds_toArray, List.set_cons_succ, List.set_cons_zero, List.drop_succ_cons, List.drop_zero, List.take_succ_cons, List.take_zero, Nat.reduceAdd]))
          refine q_nil ?_
          go_wp2
          go_ret2
          subst e1
          exact ⟨_, rfl, by rw [e3.out, List.append_nil]; exact hO3.own (L := []) stpC_flat X, X.below⟩
        · rw [if_neg hz] at e3
          have hzi : decide (0 < k) = true := decide_eq_true (by omega)
          have hr1 : (ls.length + 1 + (ls.length + 1) / 4 + 192) * 32 ≤ 281474976710656 := by omega
          have hr2 : ls.length + 1 ≤ 140737488355328 := by omega
          have hlf : (ls ++ [flushS]).length = k + 1 := by rw [List.length_append, hlk]; rfl
          obtain ⟨hr3, hr4⟩ := room2 hlf (by omega)
          have hgo : [flushS].flatMap stpC = [.int .i64 2, .int .i64 0, .string ⟨#[]⟩] := rfl
          clear hz hlf
          replace e3 := hid e3
          replace hkl := hid hkl
          go_wp2_with (first
            | (refine at_mem rfl ?_; refine m_rd0 rfl rfl rfl X (by repeat (first | exact .head _ | apply List.Mem.tail)) (by rfl) ?_; (simp only [Act.put, List.setIfInBounds_toArray, List.set_cons_succ, List.set_cons_zero, List.drop_succ_cons, List.drop_zero, List.take_succ_cons, List.take_zero, Nat.reduceAdd]))
            | (refine at_build rfl ?_; go_loud (refine m_build1 rfl rfl (by first | exact EvR.const _ | exact EvR.tmp rfl rfl) (by rfl) (by rfl) X ?_; intro g w2 X2; replace X := X2; clear X2; (simp only [Act.put, List.setIfInBounds_toArray, List.set_cons_succ, List.set_cons_zero, List.drop_succ_cons, List.drop_zero, List.take_succ_cons, List.take_zero, Nat.reduceAdd])))
            | (at_builtin; go_loud ((refine m_appB (M := M) (T := []) (n := 1) [] rfl rfl [flushS] stpC_flat X hO (by first | exact EvR.const _ | exact EvR.tmp rfl rfl) (by first | exact EvR.const _ | exact EvR.tmp rfl rfl) hgo rfl hr1 hr2 ?_); intro a2 c2 w2 M2 hO2 X2; replace X := X2; clear X2; (simp only [Act.put, List.setIfInBounds_toArray, List.set_cons_succ, List.set_cons_zero, List.drop_succ_cons, List.drop_zero, List.take_succ_cons, List.take_zero, Nat.reduceAdd]))))
          (refine q_start 0 [] [2, 4, 5] [3] [0, 1, 3, 2, 4, 5, 6, 7] X (by kernel_rfl) (by kernel_rfl) (fun _ _ _ _ _ h => h) ?_; intro hQ X2 hL; replace X := X2; clear X2; simp only [List.take_succ_cons, List.take_zero] at hL; simp only [List.take_succ_cons, List.take_zero])
          (refine q_move rfl rfl (by first | exact EvR.const _ | exact EvR.tmp rfl rfl) rfl rfl hQ ?_; (simp only [Act.put, List.setIfInBounds_toArray, List.set_cons_succ, List.set_cons_zero, List.drop_succ_cons, List.drop_zero, List.take_succ_cons, List.take_zero, Nat.reduceAdd]))
          (refine q_move rfl rfl (by first | exact EvR.const _ | exact EvR.tmp rfl rfl) rfl rfl hQ ?_; (simp only [Act.put, List.setIfInBounds_toArray, List.set_cons_succ, List.set_cons_zero, List.drop_succ_cons, List.drop_zero, List.take_succ_cons, List.take_zero, Nat.reduceAdd]))
          (refine q_rd0 rfl rfl rfl (by repeat (first | exact .head _ | apply List.Mem.tail)) (by rfl) rfl rfl X hL hQ ?_; (simp only [Act.put, List.setIfInBounds_toArray, List.set_cons_succ, List.set_cons_zero, List.drop_succ_cons, List.drop_zero, List.take_succ_cons, List.take_zero, Nat.reduceAdd]))
          (refine q_call 35 _ _ rfl rfl _ rfl ⟨_, _, Tryd.func35, by kernel_rfl, rfl⟩ rfl rfl (hW.out _ _ _) ?_; rintro e w1 ⟨rfl, hb1⟩; replace X := X.call hb1; clear hb1; (have hL2 := X.und (by first | exact hL | exact hL.up | exact hL.up3 | exact hL.up.up); replace hL := hL2; clear hL2); refine ⟨_, rfl, fun _ _ => X.keeps hL, ?_⟩; (simp only [Act.put, List.setIfInBounds_toArray, List.set_cons_succ, List.set_cons_zero, List.drop_succ_cons, List.drop_zero, List.take_succ_cons, List.take_zero, Nat.reduceAdd]))
          (refine q_build2 rfl rfl (by first | exact EvR.const _ | exact EvR.tmp rfl rfl) (by first | exact EvR.const _ | exact EvR.tmp rfl rfl) (by rfl) (by rfl) (by rfl) (by rfl) X hL rfl rfl ?_; intro g w X2 hL2; (try simp only [List.cons_append, List.nil_append] at X2 hL2); replace X := X2; replace hL := hL2; clear X2 hL2; (simp only [Act.put, List.setIfInBounds_toArray, List.set_cons_succ, List.set_cons_zero, List.drop_succ_cons, List.drop_zero, List.take_succ_cons, List.take_zero, Nat.reduceAdd]))
          (refine q_appB (M := M2) (T := []) (n := 2) [] rfl rfl [wrS 0 ms, flushS] stpC_flat X hO2 (by first | exact EvR.const _ | exact EvR.tmp rfl rfl) (by first | exact EvR.const _ | exact EvR.tmp rfl rfl) hfl rfl hr3 hr4 hL (List.nil_sublist _) rfl rfl ?_; intro a3 c3 w3 M3 hO3 X3 hL3; replace X := X3; replace hL := hL3; clear X3 hL3; (simp only [Act.put, List.setIfInBounds_toArray, List.set_cons_succ, List.set_cons_zero, List.drop_succ_cons, List.drop_zero, List.take_succ_cons, List.take_zero, Nat.reduceAdd]))
          (refine q_assign rfl rfl (by first | exact EvR.const _ | exact EvR.tmp rfl rfl) rfl rfl hQ ?_; (simp only [Act.put, List.setIfInBounds_toArray, List.set_cons_succ, List.set_cons_zero, List.drop_succ_cons, List.drop_zero, List.take_succ_cons, List.take_zero, Nat.reduceAdd]))
          (refine q_assign rfl rfl (by first | exact EvR.const _ | exact EvR.tmp rfl rfl) rfl rfl hQ ?_; (simp only [Act.put, List.setIfInBounds_toArray, List.set_cons_succ, List.set_cons_zero, List.drop_succ_cons, List.drop_zero, List.take_succ_cons, List.take_zero, Nat.reduceAdd]))
          refine q_nil ?_
          go_wp2
          go_ret2
          subst e1
          exact ⟨_, rfl, by rw [e3.out]; exact hO3.own (L := []) stpC_flat X, X.below⟩
  · obtain ⟨e1, e2⟩ := checkE_bad (l := l) hM
    rw [e1, e2]
    generalize markE (superM q p) = E at *
    have hne : (E != 0) = true := bne_iff_ne.2 hM
    clear hF h
    go_enter Tryd.func17, Tryd.ntmps17
    go_wp2_with (first
      | (go_at_call 38; go_loud ((with_reducible refine (hE.out _).mono ?_); rintro e w1 ⟨rfl, hb1⟩; replace X := X.call hb1; clear hb1)))
    go_ret2
    exact ⟨_, rfl, Own.nil _ _ _ _ _, X.below⟩
end Go.Proofs.YtjhmfljlclajnabDoor

namespace Go.Proofs.YtjhmfljlclajnabDoor
open Go.RowKit Wb
set_option linter.unusedVariables false
set_option linter.unusedSimpArgs false
set_option maxRecDepth 100000

theorem takeE_bad {r : Ring} {n : Int} (h : goodR r = false ∨ n < 0) : takeE r n = 2 := by unfold takeE; rw [if_pos h]
theorem takeE_full {r : Ring} {n : Int} (h : ¬ (goodR r = false ∨ n < 0)) (h2 : n > 24 - r.used) : takeE r n = 6 := by unfold takeE; rw [if_neg h, if_pos h2]
theorem takeE_ok {r : Ring} {n : Int} (h : ¬ (goodR r = false ∨ n < 0)) (h2 : ¬ n > 24 - r.used) : takeE r n = 0 := by unfold takeE; rw [if_neg h, if_neg h2]
theorem takeR_bad {r : Ring} {n : Int} (h : takeE r n ≠ 0) : takeR r n = r := by unfold takeR; rw [if_neg h]
theorem takeL_bad {r : Ring} {n : Int} (h : takeE r n ≠ 0) : takeL r n = [] := by unfold takeL; rw [if_neg h]
theorem takeR_ok {r : Ring} {n : Int} (h : takeE r n = 0) : takeR r n = ⟨(r.head + n) % 24, r.used + n⟩ := by unfold takeR; rw [if_pos h]
theorem takeL_ok {r : Ring} {n : Int} (h : takeE r n = 0) : takeL r n = places r.head n.toNat := by unfold takeL; rw [if_pos h]


theorem ring_Take (r : Ring) (n : Int) (w : World) :
    Calls Tryd.prog 34 #[r.val, .int .i64 n] w fun e w' =>
      ∃ v, e = .returned (.tuple #[(takeR r n).val, v, .int .i64 (takeE r n)]) ∧ Wb.Own intC w.heap.size 3 1 w' v (takeL r n) ∧ Below w.heap.size w w' := by
  obtain ⟨p, u⟩ := r
  have hG := fun w => ring_Good ⟨p, u⟩ w
  have hgi := goodR_iff ⟨p, u⟩
  by_cases hb : goodR ⟨p, u⟩ = false ∨ n < 0
  · rw [takeR_bad (by rw [takeE_bad hb]; decide), takeL_bad (by rw [takeE_bad hb]; decide), takeE_bad hb]
    clear hgi
    generalize goodR ⟨p, u⟩ = g at *
    replace hG := hid hG
    unfold Ring.val at *
    dsimp only at *
    cases g
    · clear hb
      go_enter Tryd.func34, Tryd.ntmps34
      go_wp2_with (go_at_call 31; refine (hG.out _).mono ?_; rintro e w1 ⟨rfl, hb1⟩; obtain ⟨hbc, hbf⟩ := bcell hb1; have hbz := hb1.size; try simp only [World.size_alloc, World.size_setCell, World.size_drew] at hbz; have hz0 := Nat.lt_of_lt_of_le (n := w.heap.size) (by omega) hbz; have hz1 := Nat.lt_of_lt_of_le (n := w.heap.size + 1) (by omega) hbz)
      exact bodyPost_ret (v := .tuple #[.agg #[.int .i64 p, .int .i64 u], .slice none 0 0, .int .i64 2]) (by simp [results, Tryd.results34, go_sem, hbc]) rfl ⟨_, rfl, Own.nil _ _ _ _ _, by repeat (first | exact Below.refl _ _ | with_reducible assumption | (refine allocB ?_ (by first | omega | (simp; done) | (simp; omega)) _) | (refine Below.setCell ?_ (by first | omega | (simp; done) | (simp; omega)) _) | refine Below.drew ?_ | (refine Below.trans ?_ (Below.mono (by with_reducible assumption) (by first | omega | (simp; done) | (simp; omega)))))⟩
    · replace hb : n < 0 := by simpa using hb
      go_enter Tryd.func34, Tryd.ntmps34
      go_wp2_with (go_at_call 31; refine (hG.out _).mono ?_; rintro e w1 ⟨rfl, hb1⟩; obtain ⟨hbc, hbf⟩ := bcell hb1; have hbz := hb1.size; try simp only [World.size_alloc, World.size_setCell, World.size_drew] at hbz; have hz0 := Nat.lt_of_lt_of_le (n := w.heap.size) (by omega) hbz; have hz1 := Nat.lt_of_lt_of_le (n := w.heap.size + 1) (by omega) hbz)
      exact bodyPost_ret (v := .tuple #[.agg #[.int .i64 p, .int .i64 u], .slice none 0 0, .int .i64 2]) (by simp [results, Tryd.results34, go_sem, hbc]) rfl ⟨_, rfl, Own.nil _ _ _ _ _, by repeat (first | exact Below.refl _ _ | with_reducible assumption | (refine allocB ?_ (by first | omega | (simp; done) | (simp; omega)) _) | (refine Below.setCell ?_ (by first | omega | (simp; done) | (simp; omega)) _) | refine Below.drew ?_ | (refine Below.trans ?_ (Below.mono (by with_reducible assumption) (by first | omega | (simp; done) | (simp; omega)))))⟩
  · obtain ⟨hg, hn⟩ : goodR ⟨p, u⟩ = true ∧ 0 ≤ n := by simpa using hb
    obtain ⟨g1, g2, g3, g4⟩ := hgi.1 hg
    dsimp only at g1 g2 g3 g4
    rw [hg] at hG
    have hF := fun w => ring_Free ⟨p, u⟩ w g3 g4
    replace hG := hid hG
    replace hF := hid hF
    by_cases hs : n > 24 - u
    · rw [takeR_bad (by rw [takeE_full hb hs]; decide), takeL_bad (by rw [takeE_full hb hs]; decide), takeE_full hb hs]
      clear hgi hb hg
      unfold Ring.val at *
      dsimp only at *
      go_enter Tryd.func34, Tryd.ntmps34
      go_wp2_with (first | (go_at_call 31; refine (hG.out _).mono ?_; rintro e w1 ⟨rfl, hb1⟩; obtain ⟨hbc, hbf⟩ := bcell hb1; have hbz := hb1.size; try simp only [World.size_alloc, World.size_setCell, World.size_drew] at hbz; have hz0 := Nat.lt_of_lt_of_le (n := w.heap.size) (by omega) hbz; have hz1 := Nat.lt_of_lt_of_le (n := w.heap.size + 1) (by omega) hbz) | (go_at_call 66; refine (hF.out _).mono ?_; rintro e w2 ⟨rfl, hb1⟩; obtain ⟨hbc, hbf⟩ := bcell hb1; have hbz := hb1.size; try simp only [World.size_alloc, World.size_setCell, World.size_drew] at hbz; have hz0 := Nat.lt_of_lt_of_le (n := w.heap.size) (by omega) hbz; have hz1 := Nat.lt_of_lt_of_le (n := w.heap.size + 1) (by omega) hbz))
      exact bodyPost_ret (v := .tuple #[.agg #[.int .i64 p, .int .i64 u], .slice none 0 0, .int .i64 6]) (by simp [results, Tryd.results34, go_sem, *]) rfl ⟨_, rfl, Own.nil _ _ _ _ _, by repeat (first | exact Below.refl _ _ | with_reducible assumption | (refine allocB ?_ (by first | omega | (simp; done) | (simp; omega)) _) | (refine Below.setCell ?_ (by first | omega | (simp; done) | (simp; omega)) _) | refine Below.drew ?_ | (refine Below.trans ?_ (Below.mono (by with_reducible assumption) (by first | omega | (simp; done) | (simp; omega)))))⟩
    · rw [takeR_ok (takeE_ok hb hs), takeL_ok (takeE_ok hb hs), takeE_ok hb hs]
      clear hgi hb hg
      unfold Ring.val at *
      dsimp only at *
      go_enter Tryd.func34, Tryd.ntmps34
      go_wp2_with (first | (go_at_call 31; refine (hG.out _).mono ?_; rintro e w1 ⟨rfl, hb1⟩; obtain ⟨hbc, hbf⟩ := bcell hb1; have hbz := hb1.size; try simp only [World.size_alloc, World.size_setCell, World.size_drew] at hbz; have hz0 := Nat.lt_of_lt_of_le (n := w.heap.size) (by omega) hbz; have hz1 := Nat.lt_of_lt_of_le (n := w.heap.size + 1) (by omega) hbz) | (go_at_call 66; refine (hF.out _).mono ?_; rintro e w2 ⟨rfl, hb1⟩; obtain ⟨hbc, hbf⟩ := bcell hb1; have hbz := hb1.size; try simp only [World.size_alloc, World.size_setCell, World.size_drew] at hbz; have hz0 := Nat.lt_of_lt_of_le (n := w.heap.size) (by omega) hbz; have hz1 := Nat.lt_of_lt_of_le (n := w.heap.size + 1) (by omega) hbz))
      have k1 : Blk w2 w.heap.size #[.int .i64 p, .int .i64 u] 23 := (((Blk.new w _ _).alloc _).step (by assumption)).step (by assumption)
      have k2 : Blk w2 (w.heap.size + 1) #[.int .i64 0, .int .i64 0] 23 := ((Blk.newAt (w := w.alloc _) (by simp)).step (by assumption)).step (by assumption)
      have hw2 : Below w.heap.size w w2 := by repeat (first | exact Below.refl _ _ | with_reducible assumption | (refine allocB ?_ (by first | omega | (simp; done) | (simp; omega)) _) | (refine Below.setCell ?_ (by first | omega | (simp; done) | (simp; omega)) _) | refine Below.drew ?_ | (refine Below.trans ?_ (Below.mono (by with_reducible assumption) (by first | omega | (simp; done) | (simp; omega)))))
      clear hbc hbf
      go_loopw [7, 22] (fun l i wr => ∃ k : Nat, (k : Int) ≤ n ∧ i = .int .i64 k ∧ Wb.Own intC (w.heap.size + 2) 3 1 wr l (places p k) ∧ Blk wr w.heap.size #[.int .i64 ((p + k) % 24), .int .i64 u] 23 ∧ Blk wr (w.heap.size + 1) #[.int .i64 0, .int .i64 0] 23 ∧ Below w.heap.size w wr ∧ w.heap.size + 1 < wr.heap.size) (fun _ i _ => (n - intOf i).toNat)
      case atStart => exact ⟨0, by omega, rfl, Own.nil _ _ _ _ _, by rw [show (p + ((0 : Nat) : Int)) % 24 = p by omega]; exact k1, k2, hw2, by omega⟩
      case round =>
        obtain ⟨k, hk, rfl, hown, b1, b2, hnx, hz⟩ := hrel
        have hz0 : w.heap.size < wr.heap.size := by omega
        have c0 := b1.cell 0
        have c1 := b1.cell 1
        have f0 := b1.free 0
        have f1 := b1.free 1
        simp only [List.getElem?_toArray, List.getElem?_cons_zero, List.getElem?_cons_succ] at c0 c1
        by_cases hlt : (k : Int) < n
        · go_wp2_with (at_builtin; go_loud (refine wpList_push rfl _ _ _ rfl (w.heap.size + 2) _ 1 8 intC_flat elemInt hown rfl ((p + k) % 24) rfl rfl ?c1 ?c2 ?c3 ?c4))
          case c1 => rw [places_len]; omega
          case c2 => rw [places_len]; unfold maxLen; omega
          case c3 => omega
          case c4 =>
            intro v' w' hown' hbel hgrow
            rw [← places_succ] at hown'
            have b1' := b1.below hbel (by omega)
            have b2' := b2.below hbel (by omega)
            have hnx' := hnx.trans (hbel.mono (by omega))
            have hz' := hbel.size
            have c0' := b1'.cell 0
            have f0' := b1'.free 0
            simp only [List.getElem?_toArray, List.getElem?_cons_zero, List.getElem?_cons_succ] at c0'
            go_wp2
            go_roundw
            case rel => 
              refine ⟨k + 1, by omega, by go_num, hown'.setCell (by simp) _, ?_, b2'.set_other _ _ (by simp), hnx'.setCell (Nat.le_refl _) _, by simp; omega⟩
              have hbb := b1'.set 0 (.int .i64 ((p + k + 1) % 24))
              rw [show (p + ((k + 1 : Nat) : Int)) = p + k + 1 by omega]
              simpa using hbb
            case measure => simp [intOf]; omega
        · have c2 := b2.cell 0
          have c3 := b2.cell 1
          have f2 := b2.free 0
          have f3 := b2.free 1
          simp only [List.getElem?_toArray, List.getElem?_cons_zero, List.getElem?_cons_succ] at c2 c3
          go_wp2
          obtain rfl : n = k := by omega
          refine bodyPost_ret (v := .tuple #[.agg #[.int .i64 ((p + k) % 24), .int .i64 (u + k)], u7, .int .i64 0]) (by simp [results, Tryd.results34, go_sem, c0, c1, c2, c3]) rfl ⟨_, rfl, ?_, ?_⟩
          · rw [Int.toNat_natCast]
            exact (((hown.setCell (by simp) _).setCell (by simp) _).setCell (by simp) _).mono (by omega)
          · repeat (first | exact Below.refl _ _ | with_reducible assumption | (refine allocB ?_ (by first | omega | (simp; done) | (simp; omega)) _) | (refine Below.setCell ?_ (by first | omega | (simp; done) | (simp; omega)) _) | refine Below.drew ?_ | (refine Below.trans ?_ (Below.mono (by with_reducible assumption) (by first | omega | (simp; done) | (simp; omega)))))

theorem ref_TakeRing (r : Ring) (n : Int) (w : World) :
    Calls Tryd.prog 46 #[r.val, .int .i64 n] w fun e w' =>
      ∃ v, e = .returned (.tuple #[(takeR r n).val, v, .int .i64 (takeE r n)]) ∧ Wb.Own intC w.heap.size 3 1 w' v (takeL r n) ∧ Below w.heap.size w w' := by
  obtain ⟨p, u⟩ := r
  have hG := fun w => ring_GoodRing ⟨p, u⟩ w
  have hgi := goodR_iff ⟨p, u⟩
  by_cases hb : goodR ⟨p, u⟩ = false ∨ n < 0
  · rw [takeR_bad (by rw [takeE_bad hb]; decide), takeL_bad (by rw [takeE_bad hb]; decide), takeE_bad hb]
    clear hgi
    generalize goodR ⟨p, u⟩ = g at *
    replace hG := hid hG
    unfold Ring.val at *
    dsimp only at *
    cases g
    · clear hb
      go_enter Tryd.func46, Tryd.ntmps46
      go_wp2_with (go_at_call 42; refine (hG.out _).mono ?_; rintro e w1 ⟨rfl, hb1⟩; obtain ⟨hbc, hbf⟩ := bcell hb1; have hbz := hb1.size; try simp only [World.size_alloc, World.size_setCell, World.size_drew] at hbz; have hz0 := Nat.lt_of_lt_of_le (n := w.heap.size) (by omega) hbz; have hz1 := Nat.lt_of_lt_of_le (n := w.heap.size + 1) (by omega) hbz)
      exact bodyPost_ret (v := .tuple #[.agg #[.int .i64 p, .int .i64 u], .slice none 0 0, .int .i64 2]) (by simp [results, Tryd.results46, go_sem, hbc]) rfl ⟨_, rfl, Own.nil _ _ _ _ _, by repeat (first | exact Below.refl _ _ | with_reducible assumption | (refine allocB ?_ (by first | omega | (simp; done) | (simp; omega)) _) | (refine Below.setCell ?_ (by first | omega | (simp; done) | (simp; omega)) _) | refine Below.drew ?_ | (refine Below.trans ?_ (Below.mono (by with_reducible assumption) (by first | omega | (simp; done) | (simp; omega)))))⟩
    · replace hb : n < 0 := by simpa using hb
      go_enter Tryd.func46, Tryd.ntmps46
      go_wp2_with (go_at_call 42; refine (hG.out _).mono ?_; rintro e w1 ⟨rfl, hb1⟩; obtain ⟨hbc, hbf⟩ := bcell hb1; have hbz := hb1.size; try simp only [World.size_alloc, World.size_setCell, World.size_drew] at hbz; have hz0 := Nat.lt_of_lt_of_le (n := w.heap.size) (by omega) hbz; have hz1 := Nat.lt_of_lt_of_le (n := w.heap.size + 1) (by omega) hbz)
      exact bodyPost_ret (v := .tuple #[.agg #[.int .i64 p, .int .i64 u], .slice none 0 0, .int .i64 2]) (by simp [results, Tryd.results46, go_sem, hbc]) rfl ⟨_, rfl, Own.nil _ _ _ _ _, by repeat (first | exact Below.refl _ _ | with_reducible assumption | (refine allocB ?_ (by first | omega | (simp; done) | (simp; omega)) _) | (refine Below.setCell ?_ (by first | omega | (simp; done) | (simp; omega)) _) | refine Below.drew ?_ | (refine Below.trans ?_ (Below.mono (by with_reducible assumption) (by first | omega | (simp; done) | (simp; omega)))))⟩
  · obtain ⟨hg, hn⟩ : goodR ⟨p, u⟩ = true ∧ 0 ≤ n := by simpa using hb
    obtain ⟨g1, g2, g3, g4⟩ := hgi.1 hg
    dsimp only at g1 g2 g3 g4
    rw [hg] at hG
    replace hG := hid hG
    by_cases hs : n > 24 - u
    · rw [takeR_bad (by rw [takeE_full hb hs]; decide), takeL_bad (by rw [takeE_full hb hs]; decide), takeE_full hb hs]
      clear hgi hb hg
      unfold Ring.val at *
      dsimp only at *
      go_enter Tryd.func46, Tryd.ntmps46
      go_wp2_with (go_at_call 42; refine (hG.out _).mono ?_; rintro e w1 ⟨rfl, hb1⟩; obtain ⟨hbc, hbf⟩ := bcell hb1; have hbz := hb1.size; try simp only [World.size_alloc, World.size_setCell, World.size_drew] at hbz; have hz0 := Nat.lt_of_lt_of_le (n := w.heap.size) (by omega) hbz; have hz1 := Nat.lt_of_lt_of_le (n := w.heap.size + 1) (by omega) hbz)
      exact bodyPost_ret (v := .tuple #[.agg #[.int .i64 p, .int .i64 u], .slice none 0 0, .int .i64 6]) (by simp [results, Tryd.results46, go_sem, *]) rfl ⟨_, rfl, Own.nil _ _ _ _ _, by repeat (first | exact Below.refl _ _ | with_reducible assumption | (refine allocB ?_ (by first | omega | (simp; done) | (simp; omega)) _) | (refine Below.setCell ?_ (by first | omega | (simp; done) | (simp; omega)) _) | refine Below.drew ?_ | (refine Below.trans ?_ (Below.mono (by with_reducible assumption) (by first | omega | (simp; done) | (simp; omega)))))⟩
    · rw [takeR_ok (takeE_ok hb hs), takeL_ok (takeE_ok hb hs), takeE_ok hb hs]
      clear hgi hb hg
      unfold Ring.val at *
      dsimp only at *
      go_enter Tryd.func46, Tryd.ntmps46
      go_wp2_with (go_at_call 42; refine (hG.out _).mono ?_; rintro e w1 ⟨rfl, hb1⟩; obtain ⟨hbc, hbf⟩ := bcell hb1; have hbz := hb1.size; try simp only [World.size_alloc, World.size_setCell, World.size_drew] at hbz; have hz0 := Nat.lt_of_lt_of_le (n := w.heap.size) (by omega) hbz; have hz1 := Nat.lt_of_lt_of_le (n := w.heap.size + 1) (by omega) hbz)
      have k1 : Blk w1 w.heap.size #[.int .i64 p, .int .i64 u] 23 := ((Blk.new w _ _).alloc _).step (by assumption)
      have k2 : Blk w1 (w.heap.size + 1) #[.int .i64 0, .int .i64 0] 23 := (Blk.newAt (w := w.alloc _) (by simp)).step (by assumption)
      have hw2 : Below w.heap.size w w1 := by repeat (first | exact Below.refl _ _ | with_reducible assumption | (refine allocB ?_ (by first | omega | (simp; done) | (simp; omega)) _) | (refine Below.setCell ?_ (by first | omega | (simp; done) | (simp; omega)) _) | refine Below.drew ?_ | (refine Below.trans ?_ (Below.mono (by with_reducible assumption) (by first | omega | (simp; done) | (simp; omega)))))
      clear hbc hbf
      go_loopw [7, 8, 24] (fun l _ i wr => ∃ k : Nat, (k : Int) ≤ n ∧ i = .int .i64 k ∧ Wb.Own intC (w.heap.size + 2) 3 1 wr l (places p k) ∧ Blk wr w.heap.size #[.int .i64 p, .int .i64 u] 23 ∧ Blk wr (w.heap.size + 1) #[.int .i64 0, .int .i64 0] 23 ∧ Below w.heap.size w wr ∧ w.heap.size + 1 < wr.heap.size) (fun _ _ i _ => (n - intOf i).toNat)
      case atStart => exact ⟨0, by omega, rfl, Own.nil _ _ _ _ _, k1, k2, hw2, by omega⟩
      case round =>
        obtain ⟨k, hk, rfl, hown, b1, b2, hnx, hz⟩ := hrel
        have hz0 : w.heap.size < wr.heap.size := by omega
        have c0 := b1.cell 0
        have c1 := b1.cell 1
        have f0 := b1.free 0
        have f1 := b1.free 1
        have c2 := b2.cell 0
        have c3 := b2.cell 1
        have f2 := b2.free 0
        have f3 := b2.free 1
        simp only [List.getElem?_toArray, List.getElem?_cons_zero, List.getElem?_cons_succ] at c0 c1 c2 c3
        by_cases hlt : (k : Int) < n
        · go_wp2_with (at_builtin; refine wpList_push rfl _ _ _ rfl (w.heap.size + 2) _ 1 8 intC_flat elemInt hown rfl ((p + k) % 24) rfl rfl ?c1 ?c2 ?c3 ?c4)
          case c1 => rw [places_len]; omega
          case c2 => rw [places_len]; unfold maxLen; omega
          case c3 => omega
          case c4 =>
            intro v' w' hown' hbel hgrow
            rw [← places_succ] at hown'
            have b1' := b1.below hbel (by omega)
            have b2' := b2.below hbel (by omega)
            have hnx' := hnx.trans (hbel.mono (by omega))
            have hz' := hbel.size
            go_wp2
            go_roundw
            case rel => exact ⟨k + 1, by omega, by go_num, hown', b1', b2', hnx', by omega⟩
            case measure => simp [intOf]; omega
        · go_wp2
          obtain rfl : n = k := by omega
          refine bodyPost_ret (v := .tuple #[.agg #[.int .i64 ((p + k) % 24), .int .i64 (u + k)], u7, .int .i64 0]) (by simp [results, Tryd.results46, go_sem, c0, c1, c2, c3]) rfl ⟨_, rfl, ?_, ?_⟩
          · rw [Int.toNat_natCast]
            exact ((hown.setCell (by simp) _).setCell (by simp) _).mono (by omega)
          · repeat (first | exact Below.refl _ _ | with_reducible assumption | (refine allocB ?_ (by first | omega | (simp; done) | (simp; omega)) _) | (refine Below.setCell ?_ (by first | omega | (simp; done) | (simp; omega)) _) | refine Below.drew ?_ | (refine Below.trans ?_ (Below.mono (by with_reducible assumption) (by first | omega | (simp; done) | (simp; omega)))))

end Go.Proofs.YtjhmfljlclajnabDoor

namespace Go.Proofs.YtjhmfljlclajnabDoor
open Go.RowKit Wb
set_option linter.unusedVariables false
set_option linter.unusedSimpArgs false
set_option maxRecDepth 100000

end Go.Proofs.YtjhmfljlclajnabDoor

namespace Go.Proofs.YtjhmfljlclajnabDoor
open Go.RowKit Wb
set_option linter.unusedVariables false
set_option linter.unusedSimpArgs false
set_option maxRecDepth 100000

theorem take22 : takeR ⟨22, 0⟩ 3 = ⟨1, 3⟩ ∧ takeL ⟨22, 0⟩ 3 = [22, 23, 0] ∧ takeE ⟨22, 0⟩ 3 = 0 := ⟨rfl, rfl, rfl⟩

end Go.Proofs.YtjhmfljlclajnabDoor

namespace Go.Proofs.YtjhmfljlclajnabDoor
open Go.RowKit Wb
set_option linter.unusedVariables false
set_option linter.unusedSimpArgs false
set_option maxRecDepth 100000
set_option maxHeartbeats 4000000

theorem tmod_pos (k n : Int) (hn : 0 < n) : -n < k.tmod n ∧ k.tmod n < n ∧ (k.tmod n < 0 → k.tmod n + n = k % n) ∧ (¬ k.tmod n < 0 → k.tmod n = k % n) := by
  have h1 := Int.emod_nonneg k (show n ≠ 0 by omega)
  have h2 := Int.emod_lt_of_pos k hn
  by_cases h0 : 0 ≤ k
  · rw [Int.tmod_eq_emod_of_nonneg h0]
    refine ⟨by omega, h2, fun h => by omega, fun _ => rfl⟩
  · have e : k = -(-k) := by omega
    have g1 := Int.emod_nonneg (-k) (show n ≠ 0 by omega)
    have g2 := Int.emod_lt_of_pos (-k) hn
    have e2 : k.tmod n = -((-k) % n) := by
      conv => lhs; rw [e]
      rw [Int.neg_tmod, Int.tmod_eq_emod_of_nonneg (by omega)]
    have e3 : k % n = if (-k) % n = 0 then 0 else n - (-k) % n := by
      have q1 : k = n * (-((-k) / n)) + -((-k) % n) := by have := Int.mul_ediv_add_emod (-k) n; rw [Int.mul_neg]; omega
      split
      · rename_i hz
        have : n ∣ -k := Int.dvd_of_emod_eq_zero hz
        exact Int.emod_eq_zero_of_dvd ((Int.dvd_neg).1 this)
      · rename_i hz
        have q2 : k = n * (-((-k) / n) - 1) + (n - (-k) % n) := by rw [Int.mul_sub]; omega
        conv => lhs; rw [q2]
        rw [Int.mul_add_emod_self_left]
        exact Int.emod_eq_of_lt (by omega) (by omega)
    rw [e2]
    refine ⟨by omega, by omega, fun h => ?_, fun h => ?_⟩
    · rw [e3, if_neg (by omega)]; omega
    · rw [e3, if_pos (by omega)]; omega

theorem keep_pick (k n : Int) (w : World) (hn : 0 < n) (hn2 : n ≤ 1099511627776) :
    Calls Tryd.prog 24 #[.int .i64 k, .int .i64 n] w fun e w' => e = .returned (.int .i64 (k % n)) ∧ w = w' := by
  obtain ⟨t1, t2, t3, t4⟩ := tmod_pos k n hn
  have hne : n ≠ 0 := by omega
  have hne' : (n == 0) = false := beq_eq_false_iff_ne.2 hne
  by_cases hlt : k.tmod n < 0
  · have e := hid (t3 hlt)
    clear t3 t4
    have hd : decide (k.tmod n < 0) = true := decide_eq_true hlt
    go_enter Tryd.func24, Tryd.ntmps24
    go_wp2
    go_ret
    exact ⟨ret_i e.out, rfl⟩
  · have e := hid (t4 hlt)
    clear t3 t4
    have hlt2 : 0 ≤ k.tmod n := by omega
    go_enter Tryd.func24, Tryd.ntmps24
    go_wp2
    go_ret
    exact ⟨ret_i e.out, rfl⟩

/-! ### The plain law -/
theorem take_two {r : Ring} {n m : Int} (hn : 0 ≤ n) (hm : 0 ≤ m) (h1 : takeE r n = 0) (h2 : takeE (takeR r n) m = 0) :
    goodR r = true ∧ n + m ≤ 24 - r.used ∧ takeR r n = ⟨(r.head + n) % 24, r.used + n⟩ ∧ takeL r n = places r.head n.toNat ∧
    takeR (takeR r n) m = ⟨(r.head + (n + m)) % 24, r.used + (n + m)⟩ ∧ takeL (takeR r n) m = places ((r.head + n) % 24) m.toNat ∧
    takeE r (n + m) = 0 ∧ takeR r (n + m) = ⟨(r.head + (n + m)) % 24, r.used + (n + m)⟩ ∧ takeL r (n + m) = places r.head (n + m).toNat := by
  have e1 := takeR_ok h1
  rw [e1] at h2
  have g1 : ¬ (goodR r = false ∨ n < 0) := fun h => by rw [takeE_bad h] at h1; cases h1
  have g2 : ¬ n > 24 - r.used := fun h => by rw [takeE_full g1 h] at h1; cases h1
  have g3 : ¬ (goodR ⟨(r.head + n) % 24, r.used + n⟩ = false ∨ m < 0) := fun h => by rw [takeE_bad h] at h2; cases h2
  have g4 : ¬ m > 24 - (r.used + n) := fun h => by rw [takeE_full g3 h] at h2; cases h2
  have hg : goodR r = true := by
    cases hh : goodR r
    · exact absurd (.inl hh) g1
    · rfl
  have e3 : takeE r (n + m) = 0 := takeE_ok (fun h => by rcases h with h | h; (· rw [hg] at h; cases h); omega) (by omega)
  refine ⟨hg, by omega, e1, takeL_ok h1, ?_, ?_, e3, takeR_ok e3, takeL_ok e3⟩
  · rw [e1, takeR_ok h2]
    simp only [Ring.mk.injEq]
    exact ⟨by omega, by omega⟩
  · rw [e1, takeL_ok h2]
theorem take_not {r : Ring} {n m : Int} (hn : 0 ≤ n) (hm : 0 ≤ m) (h : takeE r n ≠ 0 ∨ takeE r n = 0 ∧ takeE (takeR r n) m ≠ 0) : takeE r (n + m) ≠ 0 := by
  intro h3
  have g1 : ¬ (goodR r = false ∨ n + m < 0) := fun h => by rw [takeE_bad h] at h3; cases h3
  have g2 : ¬ n + m > 24 - r.used := fun h => by rw [takeE_full g1 h] at h3; cases h3
  have hg : goodR r = true := by
    cases hh : goodR r
    · exact absurd (.inl hh) g1
    · rfl
  have hg' := (goodR_iff r).1 hg
  rcases h with h | ⟨h, h2⟩
  · exact h (takeE_ok (fun h => by rcases h with h | h; (· rw [hg] at h; cases h); omega) (by omega))
  · rw [takeR_ok h] at h2
    refine h2 (takeE_ok (fun h => ?_) ?_)
    · rcases h with h | h
      · rw [goodR_not] at h
        apply h
        dsimp only
        omega
      · omega
    · dsimp only; omega
/-- What is marked behind k rounds. -/
def marked (l : List Int) (k : Nat) (x : Int) : Option Value := if x ∈ l.take k then some (.bool true) else none
theorem marked_step {l : List Int} {k : Nat} (hk : k < l.length) (x : Int) : (if x = l[k] then some (.bool true) else marked l k x) = marked l (k + 1) x := by
  unfold marked
  have e : x ∈ l.take (k + 1) ↔ x = l[k] ∨ x ∈ l.take k := by
    rw [List.take_succ_eq_append_getElem hk, List.mem_append, List.mem_singleton]; exact Or.comm
  by_cases h : x = l[k]
  · rw [if_pos h, if_pos (e.2 (.inl h))]
  · rw [if_neg h]
    by_cases h2 : x ∈ l.take k
    · rw [if_pos h2, if_pos (e.2 (.inr h2))]
    · rw [if_neg h2, if_neg (fun hh => (e.1 hh).elim h h2)]
theorem marked_not {h : Int} {n k : Nat} (hk : k < n) (hn : n ≤ 24) : marked (places h n) k ((h + k) % 24) = none := by
  unfold marked
  rw [if_neg]
  intro hm
  obtain ⟨i, hi⟩ := List.mem_iff_getElem?.1 hm
  rw [List.getElem?_take] at hi
  split at hi
  · rename_i hik
    rw [places_get h n i (by omega)] at hi
    simp only [Option.some.injEq] at hi
    omega
  · cases hi
end Go.Proofs.YtjhmfljlclajnabDoor

namespace Wb
open Go Go.RowKit
/-- What is found, owned. -/
def OFnd (base : Nat) (tt tc ti : TypeId) (w : World) (v : Value) (F : Fnd) : Prop := ∃ vt, v = .agg #[vt, .int .i64 F.next, .int .i64 F.at_] ∧ OTxns base tt tc ti w vt F.txns
theorem OTxn.grownBlk {base : Nat} {tc ti : TypeId} {w w' : World} {v : Value} {t : Txn} (h : OTxn base tc ti w v t) {b : Nat} {cs : Array Value} {e : TypeId} (hb : Blk w b cs e) (hc : tc ≠ e) (hi : ti ≠ e) (hg : w.grownBy w' (some b)) : OTxn base tc ti w' v t := by
  obtain ⟨vm, vd, vr, hv, h1, h2', h3, h4⟩ := h
  exact ⟨vm, vd, vr, hv, h1.grownBlk hb hc hg, h2'.grownBlk hb hc hg, h3.grownBlk hb hi hg, h4⟩
theorem OTxn.setCell {base : Nat} {tc ti : TypeId} {w : World} {v : Value} {t : Txn} (h : OTxn base tc ti w v t) {p : Addr} (hp : p.block < base) (u : Value) : OTxn base tc ti (w.setCell p u) v t := by
  obtain ⟨vm, vd, vr, hv, h1, h2', h3, h4⟩ := h
  exact ⟨vm, vd, vr, hv, h1.setCell hp u, h2'.setCell hp u, h3.setCell hp u, h4⟩
theorem OTxns.grownBlk {base : Nat} {tt tc ti : TypeId} {w w' : World} {v : Value} {l : List Txn} (h : OTxns base tt tc ti w v l) {b : Nat} {cs : Array Value} {e : TypeId} (hb : Blk w b cs e) (ht : tt ≠ e) (hc : tc ≠ e) (hi : ti ≠ e) (hg : w.grownBy w' (some b)) : OTxns base tt tc ti w' v l := by
  obtain ⟨xs, h1, h2, h3⟩ := h
  exact ⟨xs, h1.grownBlk hb ht hg, h2, fun x hx => (h3 x hx).grownBlk hb hc hi hg⟩
theorem OTxns.setCell {base : Nat} {tt tc ti : TypeId} {w : World} {v : Value} {l : List Txn} (h : OTxns base tt tc ti w v l) {p : Addr} (hp : p.block < base) (u : Value) : OTxns base tt tc ti (w.setCell p u) v l := by
  obtain ⟨xs, h1, h2, h3⟩ := h
  exact ⟨xs, h1.setCell hp u, h2, fun x hx => (h3 x hx).setCell hp u⟩
end Wb

namespace Go.Proofs.YtjhmfljlclajnabDoor
open Go.RowKit Wb
set_option linter.unusedVariables false
set_option linter.unusedSimpArgs false
set_option maxRecDepth 100000
set_option maxHeartbeats 16000000
theorem mem2L {α : Type} {a b r : α} {R : List α} (h : r ∈ [a, b]) : r ∈ a :: b :: R := by
  rcases List.mem_cons.1 h with rfl | h
  · exact .head _
  · rcases List.mem_singleton.1 h with rfl; exact .tail _ (.head _)
theorem law_RecoverLeaves (hSc : ∀ (d : Dsk) (v : Value) (w : World), RDisk w v d → Calls Tryd.prog 25 #[v] w fun e w' => ∃ v', e = .returned (.tuple #[v', .int .i64 (scanE d)]) ∧ OFnd w.heap.size 30 74 3 w' v' (scanF d) ∧ Below w.heap.size w w')
    (hTe : ∀ w, Calls Tryd.prog 26 #[] w fun e w' => e = .returned (.bool true) ∧ Below w.heap.size w w')
    (d : Dsk) (b : Int) (v : Value) (w0 : World) (hd : RDisk w0 v d) (hF : Sl w0 (flR 0).v 1 (flR 0).cs) :
    Calls Tryd.prog 6 #[v, .int .i64 b] w0 fun e w' => e = .returned (.bool true) ∧ Below w0.heap.size w0 w' := by
  have hFl := fun v w (h : RDisk w v d) => disk_Flush d v w h
  have hPk := fun w => keep_pick b 12 w (by decide) (by decide)
  obtain ⟨n, hn, hn12⟩ : ∃ n : Nat, b % 12 = n ∧ n < 12 := ⟨(b % 12).toNat, by omega, by omega⟩
  rw [hn] at hPk
  clear hn
  obtain ⟨as_, cs, aw, cw, rfl, h1, h2, n1, n2⟩ := hd.form
  have X : St [] w0 w0 [] (dskR as_ cs aw cw d) := ((St.start [] w0).addR0 h2).addR0 h1
  clear h1 h2
  have hpure := fun h g => leaves_pure (d := d) (b := n) hn12 h g
  generalize flushE d = fe at *
  generalize flushD d = D at *
  have hS := fun v w (h : RDisk w v D) => hSc D v w h
  have hG := fun v w (h : RFnd w v (scanF D)) => keep_goods (scanF D) v w h
  have hfl := scanF_len2 D
  have hb25 : IntKind.i64.wrap (25 + (n : Int)) = 25 + (n : Int) := IntWalk.i64_in _ (by omega)
  by_cases he : scanE D = 0
  · have hpure2 := hpure he
    clear hpure
    rw [he] at hS
    cases hgd : (scanF D).txns.all goodT with
    | false =>
      rw [hgd] at hG
      clear hpure2
      generalize scanE D = sE at *
      have hrf : ∀ vt w, RTxns w vt (scanF D).txns → RFnd w (.agg #[vt, .int .i64 (scanF D).next, .int .i64 (scanF D).at_]) (scanF D) := fun vt w h => ⟨vt, rfl, h⟩
      generalize scanF D = F at *
      obtain ⟨fl, fn, fa⟩ := F
      dsimp only at *
      replace hFl := hid hFl; replace hS := hid hS; replace hG := hid hG; replace hTe := hid hTe; replace hPk := hid hPk
      go_enter Tryd.func6, Tryd.ntmps6
      go_wp2_with (first
        | (refine at_mem rfl ?_; refine at_want2 (by kernel_rfl) ?_; (first | (refine at_load rfl ?_; (first | (refine c_load1 rfl _ _ rfl rfl X (by repeat (first | exact ReadA.here rfl | apply ReadA.there)) ?_) | (refine c_loadN rfl _ _ rfl rfl X (by repeat (first | exact ReadB.here (Nat.le_of_ble_eq_true rfl) | apply ReadB.there)) ?_))) | (refine at_store rfl ?_; (first | (refine c_store1 rfl _ _ _ rfl rfl (by first | exact EvR.const _ | exact EvR.tmp rfl rfl) X rfl rfl (by repeat (first | exact PutA.here (Nat.le_of_ble_eq_true rfl) | apply PutA.there)) ?_; intro w X2; (try simp only [upd] at X2); replace X := X2; clear X2) | (refine c_storeN rfl _ _ _ rfl rfl rfl X rfl rfl (by repeat (first | exact PutA.here (Nat.le_of_ble_eq_true rfl) | apply PutA.there)) ?_; intro w X2; (try simp only [upd] at X2); replace X := X2; clear X2))) | (refine m_alloc rfl _ rfl X ?_; intro g w X2; (replace X := X2; clear X2)) | (refine m_box rfl _ _ rfl (by first | exact EvR.const _ | exact EvR.tmp rfl rfl) rfl X ?_; intro g w X2; (replace X := X2; clear X2))); (simp only [Act.put, List.setIfInBounds_toArray, List.set_cons_succ, List.set_cons_zero, List.drop_succ_cons, List.drop_zero, List.take_succ_cons, List.take_zero, Nat.reduceAdd]))
        | (go_at_call 26; go_loud ((with_reducible refine (hTe.out _).mono ?_); rintro e w1 ⟨rfl, hb1⟩; replace X := X.call hb1; clear hb1))
        | (go_at_call 24; go_loud ((with_reducible refine (hPk.out _).mono ?_); rintro e w1 ⟨rfl, rfl⟩))
        | (go_at_call 27; go_loud ((with_reducible refine (hG.out _ _ (hrf _ _ (by have hq := X.txns hxf (by have := congrArg List.length hxs; simp at this; omega) (fun r hr => List.mem_append_left _ hr); rw [hxs] at hq; exact hq))).mono ?_); rintro e w1 ⟨rfl, hb1⟩; replace X := X.call hb1; clear hb1))
        | (go_at_call 23; go_loud ((with_reducible refine (hFl.out _ _ (X.dsk n1 n2)).mono ?_); rintro e w1 ⟨v1, rfl, hr1, hb1⟩; obtain ⟨as2, cs2, aw2, cw2, rfl, f1, f2, m1, m2⟩ := hr1.form; replace X := (X.call hb1).addDsk f1 f2 (by simp [noSl]); clear hb1 hr1 f1 f2))
        | (go_at_call 25; go_loud ((with_reducible refine (hS.out _ _ (X.dsk m1 m2)).mono ?_); rintro e w2 ⟨v2, rfl, ⟨vt, rfl, of1⟩, hb2⟩; obtain ⟨at1, ct1, rfl⟩ := of1.form; obtain ⟨xs, hxs, hxf, X2⟩ := X.addOTxns hb2 of1; replace X := X2; clear hb2 of1 X2)))
      go_ret
      exact ⟨rfl, X.below⟩
    | true =>
      have hgs : ∀ t ∈ (scanF D).txns, goodT t = true := List.all_eq_true.1 hgd
      rw [hgd] at hG
      obtain ⟨hE, hOr⟩ := hpure2 hgs
      clear hpure2 hgd
      have hg := newestL_copies hgs
      obtain ⟨hba, hbq⟩ := scan_bounds he
      have hRp := fun v w (h : RTxns w v (scanF D).txns) => scan_Replay (scanF D).txns hgs v w h
      have hCk := fun v w' (hb : Below w0.heap.size w0 w') (h : RL cpyC w' v (newestL (scanF D).txns)) => seal_Check (newestL (scanF D).txns) (scanF D).at_ (scanF D).next v w' h (by have := copies_len hg; omega) (hF.below hb)
      rw [hE] at hCk
      have hRd := fun v w (h : RDisk w v D) => disk_Read D (25 + (n : Int)) v w h
      have hRu := fun v vl w (h : RDisk w v D) (h2 : RL stpC w vl (checkL (newestL (scanF D).txns) (scanF D).at_ (scanF D).next)) => keep_run D (checkL (newestL (scanF D).txns) (scanF D).at_ (scanF D).next) v vl w h h2 (by have := (chk_ok hg hba hbq).2; omega)
      have hRd2 := fun v w (h : RDisk w v (runD D (checkL (newestL (scanF D).txns) (scanF D).at_ (scanF D).next))) => disk_Read (runD D (checkL (newestL (scanF D).txns) (scanF D).at_ (scanF D).next)) (25 + (n : Int)) v w h
      have hGt := fun (l : List Cpy) v w (h : RL cpyC w v l) (hl : l.length ≤ 5864062014805) => txn_Get l n v w h hl
      have hcs := fun k (hk : k < (scanF D).txns.length) => copB_step hk (n : Int)
      have hrf : ∀ vt w, RTxns w vt (scanF D).txns → RFnd w (.agg #[vt, .int .i64 (scanF D).next, .int .i64 (scanF D).at_]) (scanF D) := fun vt w h => ⟨vt, rfl, h⟩
      clear hE hg hba hbq hgs he
      generalize checkL (newestL (scanF D).txns) (scanF D).at_ (scanF D).next = ST at *
      generalize newestL (scanF D).txns = NL at *
      generalize runD D ST = Y at *
      generalize readD D (25 + (n : Int)) = sA at *
      generalize readE D (25 + (n : Int)) = eA at *
      generalize readD Y (25 + (n : Int)) = sB at *
      generalize readE Y (25 + (n : Int)) = eB at *
      generalize scanF D = F at *
      obtain ⟨fl, fn, fa⟩ := F
      dsimp only at *
      replace hFl := hid hFl; replace hS := hid hS; replace hG := hid hG; replace hTe := hid hTe; replace hPk := hid hPk; replace hRp := hid hRp; replace hCk := hid hCk; replace hRd := hid hRd; replace hRu := hid hRu; replace hRd2 := hid hRd2; replace hGt := hid hGt; replace hcs := hid hcs; replace hOr := hid hOr; replace hrf := hid hrf
      go_enter Tryd.func6, Tryd.ntmps6
      go_upto_region 6 with (first
        | (refine at_mem rfl ?_; refine at_want2 (by kernel_rfl) ?_; (first | (refine at_load rfl ?_; (first | (refine c_load1 rfl _ _ rfl rfl X (by repeat (first | exact ReadA.here rfl | apply ReadA.there)) ?_) | (refine c_loadN rfl _ _ rfl rfl X (by repeat (first | exact ReadB.here (Nat.le_of_ble_eq_true rfl) | apply ReadB.there)) ?_))) | (refine at_store rfl ?_; (first | (refine c_store1 rfl _ _ _ rfl rfl (by first | exact EvR.const _ | exact EvR.tmp rfl rfl) X rfl rfl (by repeat (first | exact PutA.here (Nat.le_of_ble_eq_true rfl) | apply PutA.there)) ?_; intro w X2; (try simp only [upd] at X2); replace X := X2; clear X2) | (refine c_storeN rfl _ _ _ rfl rfl rfl X rfl rfl (by repeat (first | exact PutA.here (Nat.le_of_ble_eq_true rfl) | apply PutA.there)) ?_; intro w X2; (try simp only [upd] at X2); replace X := X2; clear X2))) | (refine m_alloc rfl _ rfl X ?_; intro g w X2; (replace X := X2; clear X2)) | (refine m_box rfl _ _ rfl (by first | exact EvR.const _ | exact EvR.tmp rfl rfl) rfl X ?_; intro g w X2; (replace X := X2; clear X2))); (simp only [Act.put, List.setIfInBounds_toArray, List.set_cons_succ, List.set_cons_zero, List.drop_succ_cons, List.drop_zero, List.take_succ_cons, List.take_zero, Nat.reduceAdd]))
        | (go_at_call 26; go_loud ((with_reducible refine (hTe.out _).mono ?_); rintro e w1 ⟨rfl, hb1⟩; replace X := X.call hb1; clear hb1))
        | (go_at_call 24; go_loud ((with_reducible refine (hPk.out _).mono ?_); rintro e w1 ⟨rfl, rfl⟩))
        | (go_at_call 27; go_loud ((with_reducible refine (hG.out _ _ (hrf.out _ _ (by have hq := X.txns hxf (by have := congrArg List.length hxs; simp at this; omega) (fun r hr => List.mem_append_left _ hr); rw [hxs] at hq; exact hq))).mono ?_); rintro e w1 ⟨rfl, hb1⟩; replace X := X.call hb1; clear hb1))
        | (go_at_call 23; go_loud ((with_reducible refine (hFl.out _ _ (X.dsk n1 n2)).mono ?_); rintro e w1 ⟨v1, rfl, hr1, hb1⟩; obtain ⟨as2, cs2, aw2, cw2, rfl, f1, f2, m1, m2⟩ := hr1.form; replace X := (X.call hb1).addDsk f1 f2 (by simp [noSl]); clear hb1 hr1 f1 f2))
        | (go_at_call 25; go_loud ((with_reducible refine (hS.out _ _ (X.dsk m1 m2)).mono ?_); rintro e w2 ⟨v2, rfl, ⟨vt, rfl, of1⟩, hb2⟩; obtain ⟨at1, ct1, rfl⟩ := of1.form; obtain ⟨xs, hxs, hxf, X2⟩ := X.addOTxns hb2 of1; replace X := X2; clear hb2 of1 X2)))
      have hxl : xs.length ≤ 1099511627744 := by have := congrArg List.length hxs; simp at this; omega
      (refine q_start 1 [] [2, 7] [1, 4, 6] [0, 1, 3, 4, 5, 6, 2, 7, 8, 9, 10, 11, 12] X (by kernel_rfl) (by kernel_rfl) (fun _ _ _ _ _ h => h) ?_; intro hQ X2 hL; replace X := X2; clear X2; simp only [List.take_succ_cons, List.take_zero] at hL; simp only [List.take_succ_cons, List.take_zero])
      (refine q_field rfl rfl (by first | exact EvR.const _ | exact EvR.tmp rfl rfl) rfl rfl hQ ?_; (simp only [Act.put, List.setIfInBounds_toArray, List.set_cons_succ, List.set_cons_zero, List.drop_succ_cons, List.drop_zero, List.take_succ_cons, List.take_zero, Nat.reduceAdd]))
      ((first | (refine d_load1 rfl rfl (by first | exact EvR.const _ | exact EvR.tmp rfl rfl) (by repeat (first | exact ReadA.here rfl | apply ReadA.there)) rfl rfl X hL hQ ?_) | (refine d_loadN rfl rfl (by first | exact EvR.const _ | exact EvR.tmp rfl rfl) (by repeat (first | exact ReadB.here (Nat.le_of_ble_eq_true rfl) | apply ReadB.there)) rfl rfl X hL hQ ?_)); (simp only [Act.put, List.setIfInBounds_toArray, List.set_cons_succ, List.set_cons_zero, List.drop_succ_cons, List.drop_zero, List.take_succ_cons, List.take_zero, Nat.reduceAdd]))
      (refine q_field rfl rfl (by first | exact EvR.const _ | exact EvR.tmp rfl rfl) rfl rfl hQ ?_; (simp only [Act.put, List.setIfInBounds_toArray, List.set_cons_succ, List.set_cons_zero, List.drop_succ_cons, List.drop_zero, List.take_succ_cons, List.take_zero, Nat.reduceAdd]))
      ((first | (refine d_load1 rfl rfl (by first | exact EvR.const _ | exact EvR.tmp rfl rfl) (by repeat (first | exact ReadA.here rfl | apply ReadA.there)) rfl rfl X hL hQ ?_) | (refine d_loadN rfl rfl (by first | exact EvR.const _ | exact EvR.tmp rfl rfl) (by repeat (first | exact ReadB.here (Nat.le_of_ble_eq_true rfl) | apply ReadB.there)) rfl rfl X hL hQ ?_)); (simp only [Act.put, List.setIfInBounds_toArray, List.set_cons_succ, List.set_cons_zero, List.drop_succ_cons, List.drop_zero, List.take_succ_cons, List.take_zero, Nat.reduceAdd]))
      (refine q_field rfl rfl (by first | exact EvR.const _ | exact EvR.tmp rfl rfl) rfl rfl hQ ?_; (simp only [Act.put, List.setIfInBounds_toArray, List.set_cons_succ, List.set_cons_zero, List.drop_succ_cons, List.drop_zero, List.take_succ_cons, List.take_zero, Nat.reduceAdd]))
      ((first | (refine d_load1 rfl rfl (by first | exact EvR.const _ | exact EvR.tmp rfl rfl) (by repeat (first | exact ReadA.here rfl | apply ReadA.there)) rfl rfl X hL hQ ?_) | (refine d_loadN rfl rfl (by first | exact EvR.const _ | exact EvR.tmp rfl rfl) (by repeat (first | exact ReadB.here (Nat.le_of_ble_eq_true rfl) | apply ReadB.there)) rfl rfl X hL hQ ?_)); (simp only [Act.put, List.setIfInBounds_toArray, List.set_cons_succ, List.set_cons_zero, List.drop_succ_cons, List.drop_zero, List.take_succ_cons, List.take_zero, Nat.reduceAdd]))
      (refine q_call 28 _ _ rfl rfl _ rfl ⟨_, _, Tryd.func28, by kernel_rfl, rfl⟩ rfl rfl (hRp.out _ _ (by have hq := X.txns hxf hxl (fun r hr => List.mem_append_left _ hr); rw [hxs] at hq; exact hq)) ?_; rintro e w1 ⟨v1, rfl, ho1, hb1⟩; obtain ⟨a1, c1, rfl⟩ := ho1.form; replace X := X.addOwn hb1 ho1; clear hb1 ho1; (have hL2 := X.und (by first | exact hL | exact hL.up | exact hL.up3 | exact hL.up.up); replace hL := hL2; clear hL2); refine ⟨_, rfl, fun _ _ => X.keeps hL, ?_⟩; (simp only [Act.put, List.setIfInBounds_toArray, List.set_cons_succ, List.set_cons_zero, List.drop_succ_cons, List.drop_zero, List.take_succ_cons, List.take_zero, Nat.reduceAdd]))
      (refine q_call 17 _ _ rfl rfl _ rfl ⟨_, _, Tryd.func17, by kernel_rfl, rfl⟩ rfl rfl (hCk.out _ _ X.below X.r0) ?_; rintro e w1 ⟨v3, rfl, ho1, hb1⟩; obtain ⟨a3, c3, rfl⟩ := ho1.form; replace X := X.addOwn hb1 ho1; clear hb1 ho1; (have hL2 := X.und (by first | exact hL | exact hL.up | exact hL.up3 | exact hL.up.up); replace hL := hL2; clear hL2); refine ⟨_, rfl, fun _ _ => X.keeps hL, ?_⟩; (simp only [Act.put, List.setIfInBounds_toArray, List.set_cons_succ, List.set_cons_zero, List.drop_succ_cons, List.drop_zero, List.take_succ_cons, List.take_zero, Nat.reduceAdd]))
      (refine q_move rfl rfl (by first | exact EvR.const _ | exact EvR.tmp rfl rfl) rfl rfl hQ ?_; (simp only [Act.put, List.setIfInBounds_toArray, List.set_cons_succ, List.set_cons_zero, List.drop_succ_cons, List.drop_zero, List.take_succ_cons, List.take_zero, Nat.reduceAdd]))
      (refine q_extract rfl rfl (by first | exact EvR.const _ | exact EvR.tmp rfl rfl) rfl rfl rfl hQ ?_; (simp only [Act.put, List.setIfInBounds_toArray, List.set_cons_succ, List.set_cons_zero, List.drop_succ_cons, List.drop_zero, List.take_succ_cons, List.take_zero, Nat.reduceAdd]))
      (refine q_extract rfl rfl (by first | exact EvR.const _ | exact EvR.tmp rfl rfl) rfl rfl rfl hQ ?_; (simp only [Act.put, List.setIfInBounds_toArray, List.set_cons_succ, List.set_cons_zero, List.drop_succ_cons, List.drop_zero, List.take_succ_cons, List.take_zero, Nat.reduceAdd]))
      (refine q_assign rfl rfl (by first | exact EvR.const _ | exact EvR.tmp rfl rfl) rfl rfl hQ ?_; (simp only [Act.put, List.setIfInBounds_toArray, List.set_cons_succ, List.set_cons_zero, List.drop_succ_cons, List.drop_zero, List.take_succ_cons, List.take_zero, Nat.reduceAdd]))
      (refine q_assign rfl rfl (by first | exact EvR.const _ | exact EvR.tmp rfl rfl) rfl rfl hQ ?_; (simp only [Act.put, List.setIfInBounds_toArray, List.set_cons_succ, List.set_cons_zero, List.drop_succ_cons, List.drop_zero, List.take_succ_cons, List.take_zero, Nat.reduceAdd]))
      refine q_nil ?_
      go_wp2_with (first
        | (refine at_mem rfl ?_; refine at_want2 (by kernel_rfl) ?_; (first | (refine at_load rfl ?_; (first | (refine c_load1 rfl _ _ rfl rfl X (by repeat (first | exact ReadA.here rfl | apply ReadA.there)) ?_) | (refine c_loadN rfl _ _ rfl rfl X (by repeat (first | exact ReadB.here (Nat.le_of_ble_eq_true rfl) | apply ReadB.there)) ?_))) | (refine at_store rfl ?_; (first | (refine c_store1 rfl _ _ _ rfl rfl (by first | exact EvR.const _ | exact EvR.tmp rfl rfl) X rfl rfl (by repeat (first | exact PutA.here (Nat.le_of_ble_eq_true rfl) | apply PutA.there)) ?_; intro w X2; (try simp only [upd] at X2); replace X := X2; clear X2) | (refine c_storeN rfl _ _ _ rfl rfl rfl X rfl rfl (by repeat (first | exact PutA.here (Nat.le_of_ble_eq_true rfl) | apply PutA.there)) ?_; intro w X2; (try simp only [upd] at X2); replace X := X2; clear X2))) | (refine m_alloc rfl _ rfl X ?_; intro g w X2; (replace X := X2; clear X2)) | (refine m_box rfl _ _ rfl (by first | exact EvR.const _ | exact EvR.tmp rfl rfl) rfl X ?_; intro g w X2; (replace X := X2; clear X2))); (simp only [Act.put, List.setIfInBounds_toArray, List.set_cons_succ, List.set_cons_zero, List.drop_succ_cons, List.drop_zero, List.take_succ_cons, List.take_zero, Nat.reduceAdd]))
        | (go_at_call 30; go_loud ((with_reducible refine (hRu.out _ _ _ (X.dskM m1 m2 (fun r hr => List.Mem.tail _ (List.Mem.tail _ (List.mem_append_right _ (mem2L hr))))) X.r0).mono ?_); rintro e w1 ⟨v9, rfl, hrY, hb1⟩; replace X := X.call hb1; clear hb1))
        | (go_at_call 29; go_loud ((with_reducible refine (hRd.out _ _ (X.dskM m1 m2 (fun r hr => List.Mem.tail _ (List.Mem.tail _ (List.mem_append_right _ (mem2L hr)))))).mono ?_); rintro e w1 ⟨rfl, hb1⟩; replace X := X.call hb1; clear hb1))
        | (go_at_call 29; go_loud ((with_reducible refine (hRd2.out _ _ hrY).mono ?_); rintro e w1 ⟨rfl, hb1⟩; replace X := X.call hb1; clear hb1)))
      have X2 := X.less (L2 := []) (List.nil_sublist _) (R2 := txR (.slice at1 fl.length ct1) xs) (fun r hr => List.Mem.tail _ (List.Mem.tail _ (List.mem_append_left _ hr)))
      clear X
      have X := X2
      clear X2 hFl hS hG hTe hPk hRp hCk hRd hRu hRd2 hrf
      go_loopw [12, 73] (fun c i wr => ∃ k : Nat, k ≤ fl.length ∧ c = .bool (copB (fl.take k) n) ∧ i = .int .i64 k ∧ St [] w0 wr [] (txR (.slice at1 fl.length ct1) xs)) (fun _ i _ => fl.length - (intOf i).toNat)
      case atStart => exact ⟨0, Nat.zero_le _, rfl, rfl, X⟩
      case round =>
        clear X
        obtain ⟨k, hk, rfl, rfl, X⟩ := hrel
        by_cases hlt : k < fl.length
        · have hT := X.txns hxf hxl (fun r hr => hr)
          rw [hxs] at hT
          obtain ⟨bb, off, vm, vd, vr, hbb, hrt, c0, c1, c2, c3, c4, c5, c6, c7, c8, c9⟩ := hT.at hlt
          cases hbb
          obtain ⟨vm2, vd2, vr2, hvv, f1, f2, f3, l1, l2, l3⟩ := hrt
          simp only [txnV, Value.agg.injEq, Array.mk.injEq, List.cons.injEq, and_true, true_and] at hvv
          obtain ⟨rfl, rfl, rfl⟩ := hvv
          obtain ⟨am, cm, rfl, _⟩ := f1.form
          obtain ⟨ad, cd, rfl, _⟩ := f2.form
          obtain ⟨ar, cr, rfl, _⟩ := f3.form
          have hst := hcs.out k hlt
          unfold copStep at hst
          have hgk := fun w' (hb : Below wr.heap.size wr w') => hGt.out (fl[k]).mt _ w' (f1.below hb) l1
          have hrv := fun w' (hb : Below wr.heap.size wr w') => f3.below hb
          have Y2 : St [] wr wr [] [] := St.start [] wr
          have hXY : ∀ w', Below wr.heap.size wr w' → St [] w0 w' [] (txR (.slice (some ⟨bb, off, none⟩) fl.length ct1) xs) := fun w' hb => X.call hb
          clear X f1 f2 hT
          generalize hN : copB (fl.take (k + 1)) (n : Int) = cN at *
          generalize copB (fl.take k) (n : Int) = cO at *
          generalize (getC (fl[k]).mt (n : Int)).isSome = gs at *
          generalize (getC (fl[k]).mt (n : Int)).getD ⟨#[]⟩ = gt at *
          have hin := fun m (hm : m < (fl[k]).rev.length) => (show inI ((fl[k]).rev.take (m + 1)) (n : Int) = (inI ((fl[k]).rev.take m) (n : Int) || (fl[k]).rev[m] == (n : Int)) by unfold inI; rw [List.take_succ_eq_append_getElem hm, List.any_append]; simp)
          generalize fl[k] = t at *
          replace hin := hid hin
          have X := Y2
          clear Y2
          replace hN := hid hN; replace hgk := hid hgk; replace hrv := hid hrv; replace hXY := hid hXY; replace hst := hid hst; replace f3 := hid f3
          cases gs with
          | true =>
            go_wp2_with (first
              | (refine at_mem rfl ?_; (first | (refine at_load rfl ?_; (first | (refine c_load1 rfl _ _ rfl rfl X (by first | exact ReadA.here rfl | exact ReadA.there (ReadA.here rfl)) ?_) | (refine c_loadN rfl _ _ rfl rfl X (by first | exact ReadB.here (Nat.le_of_ble_eq_true rfl) | exact ReadB.there (ReadB.here (Nat.le_of_ble_eq_true rfl))) ?_))) | (refine at_store rfl ?_; (first | (refine c_store1 rfl _ _ _ rfl rfl (by first | exact EvR.const _ | exact EvR.tmp rfl rfl) X rfl rfl (by first | exact PutA.here (Nat.le_of_ble_eq_true rfl) | exact PutA.there (PutA.here (Nat.le_of_ble_eq_true rfl))) ?_; intro w X2; (try simp only [upd] at X2); replace X := X2; clear X2) | (refine c_storeN rfl _ _ _ rfl rfl rfl X rfl rfl (by first | exact PutA.here (Nat.le_of_ble_eq_true rfl) | exact PutA.there (PutA.here (Nat.le_of_ble_eq_true rfl))) ?_; intro w X2; (try simp only [upd] at X2); replace X := X2; clear X2))) | (refine m_alloc rfl _ rfl X ?_; intro g w X2; (replace X := X2; clear X2))); (simp only [Act.put, List.setIfInBounds_toArray, List.set_cons_succ, List.set_cons_zero, List.drop_succ_cons, List.drop_zero, List.take_succ_cons, List.take_zero, Nat.reduceAdd]))
              | (go_at_call 15; go_loud ((with_reducible refine (hgk.out _ X.below).mono ?_); rintro e w1 ⟨rfl, hb1⟩; replace X := X.call hb1; clear hb1)))
            obtain ⟨wo, rfl⟩ : ∃ wo : World, wo = wr := ⟨_, rfl⟩
            have X9 := X.less (L2 := []) (List.nil_sublist _) (R2 := []) (fun r hr => by cases hr)
            clear X
            have X := X9
            clear X9
            go_loopw [12, 88] (fun c i w2 => ∃ m : Nat, m ≤ t.rev.length ∧ c = .bool (true && !inI (t.rev.take m) n) ∧ i = .int .i64 m ∧ St [] wo w2 [] []) (fun _ i _ => t.rev.length - (intOf i).toNat)
            case atStart => exact ⟨0, Nat.zero_le _, by simp [inI], rfl, X⟩
            case round =>
              clear X
              obtain ⟨m, hm, rfl, rfl, X⟩ := hrel
              by_cases hmlt : m < t.rev.length
              · obtain ⟨b4, off4, hb4, d0⟩ := RL.at1 (fun x : Int => .int .i64 x) (fun _ => rfl) (hrv.out _ X.below) hmlt
                cases hb4
                have his := hin.out m hmlt
                by_cases hx : t.rev[m] = (n : Int)
                · have hx2 : (t.rev[m] == (n : Int)) = true := by simpa using hx
                  rw [hx2, Bool.or_true] at his
                  rw [hx] at d0
                  clear hx hx2
                  go_wp2
                  go_roundw
                  case rel => exact ⟨m + 1, by omega, by rw [his]; simp, by go_num, X⟩
                  case measure => simp [intOf]; omega
                · have hx2 : (t.rev[m] == (n : Int)) = false := by simpa using hx
                  rw [hx2, Bool.or_false] at his
                  clear hx
                  generalize t.rev[m] = x at *
                  go_wp2
                  go_roundw
                  case rel => exact ⟨m + 1, by omega, by rw [his], by go_num, X⟩
                  case measure => simp [intOf]; omega
              · obtain rfl : m = t.rev.length := by omega
                rw [List.take_length]
                go_wp2
                go_roundw
                case rel => exact ⟨k + 1, by omega, by rw [hN.out, hst.out]; simp, by go_num, hXY.out _ X.below⟩
                case measure => simp [intOf]; omega
          | false =>
            go_wp2_with (first
              | (refine at_mem rfl ?_; (first | (refine at_load rfl ?_; (first | (refine c_load1 rfl _ _ rfl rfl X (by first | exact ReadA.here rfl | exact ReadA.there (ReadA.here rfl)) ?_) | (refine c_loadN rfl _ _ rfl rfl X (by first | exact ReadB.here (Nat.le_of_ble_eq_true rfl) | exact ReadB.there (ReadB.here (Nat.le_of_ble_eq_true rfl))) ?_))) | (refine at_store rfl ?_; (first | (refine c_store1 rfl _ _ _ rfl rfl (by first | exact EvR.const _ | exact EvR.tmp rfl rfl) X rfl rfl (by first | exact PutA.here (Nat.le_of_ble_eq_true rfl) | exact PutA.there (PutA.here (Nat.le_of_ble_eq_true rfl))) ?_; intro w X2; (try simp only [upd] at X2); replace X := X2; clear X2) | (refine c_storeN rfl _ _ _ rfl rfl rfl X rfl rfl (by first | exact PutA.here (Nat.le_of_ble_eq_true rfl) | exact PutA.there (PutA.here (Nat.le_of_ble_eq_true rfl))) ?_; intro w X2; (try simp only [upd] at X2); replace X := X2; clear X2))) | (refine m_alloc rfl _ rfl X ?_; intro g w X2; (replace X := X2; clear X2))); (simp only [Act.put, List.setIfInBounds_toArray, List.set_cons_succ, List.set_cons_zero, List.drop_succ_cons, List.drop_zero, List.take_succ_cons, List.take_zero, Nat.reduceAdd]))
              | (go_at_call 15; go_loud ((with_reducible refine (hgk.out _ X.below).mono ?_); rintro e w1 ⟨rfl, hb1⟩; replace X := X.call hb1; clear hb1)))
            obtain ⟨wo, rfl⟩ : ∃ wo : World, wo = wr := ⟨_, rfl⟩
            have X9 := X.less (L2 := []) (List.nil_sublist _) (R2 := []) (fun r hr => by cases hr)
            clear X
            have X := X9
            clear X9
            go_loopw [12, 88] (fun c i w2 => ∃ m : Nat, m ≤ t.rev.length ∧ c = .bool (cO && !inI (t.rev.take m) n) ∧ i = .int .i64 m ∧ St [] wo w2 [] []) (fun _ i _ => t.rev.length - (intOf i).toNat)
            case atStart => exact ⟨0, Nat.zero_le _, by simp [inI], rfl, X⟩
            case round =>
              clear X
              obtain ⟨m, hm, rfl, rfl, X⟩ := hrel
              by_cases hmlt : m < t.rev.length
              · obtain ⟨b4, off4, hb4, d0⟩ := RL.at1 (fun x : Int => .int .i64 x) (fun _ => rfl) (hrv.out _ X.below) hmlt
                cases hb4
                have his := hin.out m hmlt
                by_cases hx : t.rev[m] = (n : Int)
                · have hx2 : (t.rev[m] == (n : Int)) = true := by simpa using hx
                  rw [hx2, Bool.or_true] at his
                  rw [hx] at d0
                  clear hx hx2
                  go_wp2
                  go_roundw
                  case rel => exact ⟨m + 1, by omega, by rw [his]; simp, by go_num, X⟩
                  case measure => simp [intOf]; omega
                · have hx2 : (t.rev[m] == (n : Int)) = false := by simpa using hx
                  rw [hx2, Bool.or_false] at his
                  clear hx
                  generalize t.rev[m] = x at *
                  go_wp2
                  go_roundw
                  case rel => exact ⟨m + 1, by omega, by rw [his], by go_num, X⟩
                  case measure => simp [intOf]; omega
              · obtain rfl : m = t.rev.length := by omega
                rw [List.take_length]
                go_wp2
                go_roundw
                case rel => exact ⟨k + 1, by omega, by rw [hN.out, hst.out]; simp, by go_num, hXY.out _ X.below⟩
                case measure => simp [intOf]; omega
        · obtain rfl : k = fl.length := by omega
          rw [List.take_length]
          have hO := hOr.out
          generalize copB fl (n : Int) = cF at *
          cases cF with
          | true =>
            go_wp2
            go_ret
            exact ⟨rfl, X.below⟩
          | false =>
            obtain rfl : sA = sB := by simpa using hO
            go_wp2
            go_ret
            exact ⟨rfl, X.below⟩
  · have he2 : (scanE D != 0) = true := by simpa using he
    clear hpure
    generalize scanE D = sE at *
    generalize scanF D = F at *
    obtain ⟨fl, fn, fa⟩ := F
    dsimp only at *
    replace hFl := hid hFl; replace hS := hid hS; replace hG := hid hG; replace hTe := hid hTe; replace hPk := hid hPk
    go_enter Tryd.func6, Tryd.ntmps6
    go_wp2_with (first
      | (refine at_mem rfl ?_; refine at_want2 (by kernel_rfl) ?_; (first | (refine at_load rfl ?_; (first | (refine c_load1 rfl _ _ rfl rfl X (by repeat (first | exact ReadA.here rfl | apply ReadA.there)) ?_) | (refine c_loadN rfl _ _ rfl rfl X (by repeat (first | exact ReadB.here (Nat.le_of_ble_eq_true rfl) | apply ReadB.there)) ?_))) | (refine at_store rfl ?_; (first | (refine c_store1 rfl _ _ _ rfl rfl (by first | exact EvR.const _ | exact EvR.tmp rfl rfl) X rfl rfl (by repeat (first | exact PutA.here (Nat.le_of_ble_eq_true rfl) | apply PutA.there)) ?_; intro w X2; (try simp only [upd] at X2); replace X := X2; clear X2) | (refine c_storeN rfl _ _ _ rfl rfl rfl X rfl rfl (by repeat (first | exact PutA.here (Nat.le_of_ble_eq_true rfl) | apply PutA.there)) ?_; intro w X2; (try simp only [upd] at X2); replace X := X2; clear X2))) | (refine m_alloc rfl _ rfl X ?_; intro g w X2; (replace X := X2; clear X2)) | (refine m_box rfl _ _ rfl (by first | exact EvR.const _ | exact EvR.tmp rfl rfl) rfl X ?_; intro g w X2; (replace X := X2; clear X2))); (simp only [Act.put, List.setIfInBounds_toArray, List.set_cons_succ, List.set_cons_zero, List.drop_succ_cons, List.drop_zero, List.take_succ_cons, List.take_zero, Nat.reduceAdd]))
      | (go_at_call 26; go_loud ((with_reducible refine (hTe.out _).mono ?_); rintro e w1 ⟨rfl, hb1⟩; replace X := X.call hb1; clear hb1))
      | (go_at_call 24; go_loud ((with_reducible refine (hPk.out _).mono ?_); rintro e w1 ⟨rfl, rfl⟩))
      | (go_at_call 23; go_loud ((with_reducible refine (hFl.out _ _ (X.dsk n1 n2)).mono ?_); rintro e w1 ⟨v1, rfl, hr1, hb1⟩; obtain ⟨as2, cs2, aw2, cw2, rfl, f1, f2, m1, m2⟩ := hr1.form; replace X := (X.call hb1).addDsk f1 f2 (by simp [noSl]); clear hb1 hr1 f1 f2))
      | (go_at_call 25; go_loud ((with_reducible refine (hS.out _ _ (X.dsk m1 m2)).mono ?_); rintro e w2 ⟨v2, rfl, ⟨vt, rfl, of1⟩, hb2⟩; obtain ⟨at1, ct1, rfl⟩ := of1.form; replace X := X.call hb2; clear hb2 of1)))
    go_ret
    exact ⟨rfl, X.below⟩
end Go.Proofs.YtjhmfljlclajnabDoor

namespace Go.Proofs.YtjhmfljlclajnabDoor
open Go.ChangeShapes Go.WideShapes Go.ChangeAt Go.RowKit Wb
noncomputable def laidWorld (os : Os) : World :=
  { World.holding Tryd.prog os ⟨#[], #[], []⟩ with heap := (World.holding Tryd.prog os ⟨#[], #[], []⟩).heap.modify 0 fun
      | .cells _ t frozen => .cells #[.int .i64 2, .int .i64 0, .string ⟨#[]⟩] t frozen
      | o => o }
end Go.Proofs.YtjhmfljlclajnabDoor

namespace Go.Proofs.YtjhmfljlclajnabDoor
open Go.ChangeShapes Go.WideShapes Go.ChangeAt Go.RowKit Wb
set_option maxRecDepth 100000
theorem flush_laid {W : World} (hL : laidMetH Tryd.prog [("wastebook/seal.flush", .agg [.lit (.int .i64 2), .lit (.int .i64 0), .lit (.string [])])] W) :
    Sl W (flR 0).v 1 (flR 0).cs := by
  have h : laidMet Tryd.prog [("wastebook/seal.flush", .agg [.lit (.int .i64 2), .lit (.int .i64 0), .lit (.string [])])] W := hL
  obtain ⟨ps, ⟨g', t', cs, fuel, p, q, hg', ht', hvar, hd, _, _⟩, _⟩ := h
  have hg : Tryd.prog.globalNamed "wastebook/seal.flush" = some 0 := by kernel_rfl
  have hty : (Tryd.prog.globals[0]?).map (·.type) = some 76 := by kernel_rfl
  obtain rfl := Option.some.inj (hg.symm.trans hg')
  obtain rfl := Option.some.inj (hty.symm.trans ht')
  have hcs : cs.toList = [.int .i64 2, .int .i64 0, .string ⟨#[]⟩] := by
    obtain ⟨xs, m, _, hx, hl, hln, hg⟩ := DataW.trod_struct Tryd.underlying76 hd
    have hl3 : cs.toList.length = 3 := hl.trans (by kernel_rfl)
    generalize cs.toList = ls at *
    match ls, hl3, xs, hln with
    | [u0, u1, u2], _, [y0, y1, y2], _ =>
      have h0 : DataW.trod (fun _ => ()) Tryd.prog W 0 (fun _ => true) false m 3 [u0] = some y0 := hg 0 _ rfl
      have h1 : DataW.trod (fun _ => ()) Tryd.prog W 0 (fun _ => true) false m 3 [u1] = some y1 := hg 1 _ rfl
      have h2 : DataW.trod (fun _ => ()) Tryd.prog W 0 (fun _ => true) false m 9 [u2] = some y2 := hg 2 _ rfl
      obtain ⟨a0, e0, rfl, _⟩ := DataW.trod_int Tryd.underlying3 h0
      obtain ⟨a1, e1, rfl, _⟩ := DataW.trod_int Tryd.underlying3 h1
      obtain ⟨a2, e2, rfl, _⟩ := DataW.trod_string Tryd.underlying9 h2
      simp at e0 e1 e2 hx
      subst e0 e1 e2
      obtain ⟨⟨rfl, rfl, h3⟩, _⟩ := hx
      have : a2 = ⟨#[]⟩ := by
        obtain ⟨⟨l⟩⟩ := a2
        simp at h3
        subst h3
        rfl
      rw [this]
  refine ⟨some ⟨0, 0, none⟩, 1, rfl, Nat.le_refl _, by decide, .inr ⟨0, 0, rfl, fun j u hj => ?_⟩⟩
  have := World.var?_cell hg hvar j
  rw [Nat.zero_add, this]
  have e : cs[j]? = cs.toList[j]? := by simp
  rw [e, hcs]
  exact hj
end Go.Proofs.YtjhmfljlclajnabDoor
