/- What the log tells when a transaction was on its way into it: what it told, and that one as a whole or not at all. No program in sight. What a crash may leave while copies go home and the log begins anew. No program in sight. The laws of going home and of coming into the log as a whole, of plain data. No program in sight. The walks of the ring that take places. The walks of the ring that give back; whether the ring answers at all. Whether the ring answers at all; the law on Need and Most. Maps keyed by ints: what a block of a map holds, as a function. No program in sight. The law on what is taken in two parts. The walks of later and used. Rows of transactions that are owned, among what is read. No program in sight. -/
import Derived.Test.YtjhmfljlclajnacDoorKRecoverTwice5
import Derived.Test.YtjhmfljlclajnacDoorRing
import Derived.Test.YtjhmfljlclajnacDoorBase
import Derived.MapKept
import Derived.ChangeMaps5
import Derived.Carry
import Derived.Maps.OwnOps
import Derived.Test.YtjhmfljlclajnacDoorRegCall
import Derived.Test.YtjhmfljlclajnacDoorKRecoverTwice1
import Derived.Test.YtjhmfljlclajnacDoorKRecoverTwice3
import Derived.Test.YtjhmfljlclajnacDoorDecA
import Derived.Test.YtjhmfljlclajnacDoorKRecoverTwice4
set_option linter.unusedVariables false
set_option linter.unusedSimpArgs false
set_option linter.unusedVariables false
set_option linter.unusedSimpArgs false
namespace Wb
open Go Go.RowKit
theorem log_split {d c : Dsk} (a : Int) {u : Nat} (hu : u ≤ 24) (h : ∀ i : Nat, i < u → readD c (1 + (a + (i : Int)) % 24) = readD d (1 + (a + (i : Int)) % 24)) : logL c a = (logL d a).take u ++ (logL c a).drop u := by
  conv => lhs; rw [← List.take_append_drop u (logL c a)]
  congr 1
  refine List.ext_getElem? fun i => ?_
  by_cases hi : i < u
  · rw [List.getElem?_take, List.getElem?_take, if_pos hi, if_pos hi, logL_get _ _ (by omega), logL_get _ _ (by omega), h i hi]
  · rw [List.getElem?_take, List.getElem?_take, if_neg hi, if_neg hi]
theorem fnd_eta (f : Fnd) {x : List Txn} {y z : Int} (h1 : f.txns = x) (h2 : f.next = y) (h3 : f.at_ = z) : f = ⟨x, y, z⟩ := by cases f; simp_all
/-- The scan of a log that has other blocks behind what is told of. -/
theorem scan_more {d c : Dsk} (hd : scanE d = 0) (hc : goodD c = true) (hz : readD c 0 = readD d 0) (h : ∀ i : Nat, i < usedN d → readD c (1 + (supA d + (i : Int)) % 24) = readD d (1 + (supA d + (i : Int)) % 24)) :
    scanE c = 0 ∧ supA c = supA d ∧ supQ c = supQ d ∧ (scanF c).txns = (scanF d).txns ++ (scanA ((logL c (supA d)).drop (usedN d)) (scanF d).next).1 ∧ (scanF c).next = (scanA ((logL c (supA d)).drop (usedN d)) (scanF d).next).2.1 ∧
      (scanA (logL c (supA c)) (supQ c)).2.2 = (scanA ((logL c (supA d)).drop (usedN d)) (scanF d).next).2.2 := by
  have hg := (scanE_zero hd).1
  have hE : scanE c = 0 := by rw [scanE_congr hg hc hz]; exact hd
  have hA : supA c = supA d := by unfold supA; rw [hz]
  have hQ : supQ c = supQ d := by unfold supQ; rw [hz]
  obtain ⟨pre, p1, p2, p3, p4, p5, p6, p7, p8⟩ := scan_parts hd
  have hpre : (logL d (supA d)).take (usedN d) = pre := by rw [p1, ← p2, List.take_left]
  have hsp := log_split (d := d) (c := c) (supA d) p3 h
  rw [hpre] at hsp
  obtain ⟨q1, q2⟩ := p8 ((logL c (supA d)).drop (usedN d))
  rw [← hsp] at q1 q2
  refine ⟨hE, hA, hQ, ?_, ?_, ?_⟩
  · rw [scanF_eq hE, hA, hQ]; exact q1
  · rw [scanF_eq hE, hA, hQ]; exact congrArg Prod.fst q2
  · rw [hA, hQ]; exact congrArg Prod.snd q2
/-- Behind what it told nothing is told of. -/
theorem scan_same {d c : Dsk} (hd : scanE d = 0) (hc : goodD c = true) (hz : readD c 0 = readD d 0) (h : ∀ i : Nat, i < usedN d → readD c (1 + (supA d + (i : Int)) % 24) = readD d (1 + (supA d + (i : Int)) % 24)) (hn : noCom c (scanF d).next) :
    scanE c = 0 ∧ scanF c = scanF d ∧ usedN c = usedN d := by
  obtain ⟨hE, hA, hQ, s1, s2, s3⟩ := scan_more hd hc hz h
  have h0 := scanA_none (q := (scanF d).next) (r := (logL c (supA d)).drop (usedN d)) (fun s hs => hn.log (supA d) (Int.le_refl _) s (List.mem_of_mem_drop hs))
  rw [h0] at s1 s2 s3
  obtain ⟨pre, p1, p2, p3, p4, p5, p6, p7, p8⟩ := scan_parts hd
  have hu : usedN c = usedN d := by
    unfold usedN at p3 ⊢
    rw [s3, List.length_drop, logL_len]
    unfold usedN
    omega
  obtain ⟨_, _, _, _, _, _, r6, _⟩ := scan_parts hE
  refine ⟨hE, ?_, hu⟩
  rw [fnd_eta (scanF d) rfl rfl rfl]
  exact fnd_eta _ (by rw [s1, List.append_nil]) s2 (by rw [r6, hA, hu, ← p6])
theorem com_scan {r : Ring} {t : Txn} {d c : Dsk} {k : Nat} (hd : scanE d = 0) (hn : noCom d (scanF d).next) (h : comE r t = 0) (hh : r.head = (scanF d).at_) (hu : r.used = usedN d) (hq : t.seq = (scanF d).next) (hq2 : t.seq < 2147483647) (hl : ComLeft r t d c k) :
    scanE c = 0 ∧ ((k ≤ (comA r t).length + 1 ∧ scanF c = scanF d ∧ usedN c = usedN d ∧ noCom c (scanF d).next) ∨
      ((comA r t).length < k ∧ scanF c = ⟨(scanF d).txns ++ [logOf t], (scanF d).next + 1, ((scanF d).at_ + ((bodyT t).length + 1 : Nat)) % 24⟩ ∧ usedN c = usedN d + ((bodyT t).length + 1) ∧ noCom c ((scanF d).next + 1))) := by
  obtain ⟨h1, g, h3, h4, h5, h6⟩ := comE_zero h
  obtain ⟨hb1, hb2, hb3, hb4, hb5⟩ := scanE_zero hd
  obtain ⟨pre, p1, p2, p3, p4, p5, p6, p7, p8⟩ := scan_parts hd
  have hnl : (logT t).length = (bodyT t).length + 1 := by unfold logT; simp
  have hold : ∀ i : Nat, i < usedN d → ∀ j : Nat, j < (bodyT t).length + 1 → ((supA d + (i : Int)) % 24) ≠ (r.head + (j : Int)) % 24 := fun i hi j hj e => by
    rw [hh, p6] at e
    omega
  rcases hl.log with ⟨hk, hA⟩ | ⟨hk, hB1, hB2⟩
  · have hn2 : noCom c (scanF d).next := fun i hi x hx hc => by
      rcases hA i hi with e | ⟨j, hj, _, e⟩
      · rw [e] at hc; exact hn i hi x hx hc
      · rw [e] at hc; exact body_com g (List.getElem_mem hj) x hc
    obtain ⟨e1, e2, e3⟩ := scan_same hd hl.good hl.zero (fun i hi => by
      have hi24 : ((supA d + (i : Int)) % 24).toNat < 24 := by omega
      have e0 : (((supA d + (i : Int)) % 24).toNat : Int) = (supA d + (i : Int)) % 24 := by omega
      rcases hA _ hi24 with e | ⟨j, hj, e, _⟩
      · rw [e0] at e; exact e
      · rw [e0] at e; exact absurd e (hold i hi j (by omega))) hn2
    exact ⟨e1, .inl ⟨hk, e2, e3, hn2⟩⟩
  · have hn2 : noCom c ((scanF d).next + 1) := fun i hi x hx hc => by
      by_cases hex : ∃ j : Nat, j < (logT t).length ∧ (i : Int) = (r.head + (j : Int)) % 24
      · obtain ⟨j, hj, e⟩ := hex
        have e2 := hB1 j hj
        rw [← e] at e2
        rw [e2] at hc
        by_cases hjb : j < (bodyT t).length
        · rw [log_body t hjb] at hc
          exact body_com g (List.getElem_mem hjb) x hc
        · obtain rfl : j = (bodyT t).length := by omega
          rw [log_last] at hc
          obtain ⟨_, d2, _⟩ := dec_mark (com_good g.seq)
          have h7 := hc.2.1
          rw [d2] at h7
          have h8 : t.seq = x := h7
          omega
      · rw [hB2 i hi (fun j hj e => hex ⟨j, hj, e⟩)] at hc
        exact hn i hi x (by omega) hc
    obtain ⟨hE, hA, hQ, s1, s2, s3⟩ := scan_more hd hl.good hl.zero (fun i hi => by
      have hi24 : ((supA d + (i : Int)) % 24).toNat < 24 := by omega
      have e0 : (((supA d + (i : Int)) % 24).toNat : Int) = (supA d + (i : Int)) % 24 := by omega
      have := hB2 _ hi24 (fun j hj e => by rw [e0] at e; exact hold i hi j (by omega) e)
      rw [e0] at this; exact this)
    -- behind what it told stand the blocks of the new one
    have hr2 : (logL c (supA d)).drop (usedN d) = logT t ++ (logL c (supA d)).drop (usedN d + ((bodyT t).length + 1)) := by
      rw [← List.drop_drop]
      conv => lhs; rw [← List.take_append_drop ((bodyT t).length + 1) ((logL c (supA d)).drop (usedN d))]
      congr 1
      refine List.ext_getElem? fun j => ?_
      rw [List.getElem?_take]
      by_cases hj : j < (bodyT t).length + 1
      · rw [if_pos hj, List.getElem?_drop, logL_get _ _ (by omega), List.getElem?_eq_getElem (by omega), ← hB1 j (by omega), hh, p6]
        congr 3
        omega
      · rw [if_neg hj, List.getElem?_eq_none (by omega)]
    have hlen : ((logL c (supA d)).drop (usedN d)).length = 24 - usedN d := by rw [List.length_drop, logL_len]
    have hp := parse_log g ((logL c (supA d)).drop (usedN d + ((bodyT t).length + 1))) (n := 25) (by rw [← hr2, hlen]; omega)
    rw [← hr2, hq] at hp
    have hst := scanGo_step (by omega) hp
    have h0 := scanA_none (q := (scanF d).next + 1) (r := (logL c (supA d)).drop (usedN d + ((bodyT t).length + 1))) (fun s hs => hn2.log (supA d) (Int.le_refl _) s (List.mem_of_mem_drop hs))
    have t1 : (scanA ((logL c (supA d)).drop (usedN d)) (scanF d).next).1 = [logOf t] := by
      show (scanGo _ _ _).1 = _
      rw [hst.1]
      show logOf t :: (scanA _ _).1 = _
      rw [h0]
    have t2 : (scanA ((logL c (supA d)).drop (usedN d)) (scanF d).next).2 = ((scanF d).next + 1, (logL c (supA d)).drop (usedN d + ((bodyT t).length + 1))) := by
      show (scanGo _ _ _).2 = _
      rw [hst.2]
      show (scanA _ _).2 = _
      rw [h0]
    rw [t1] at s1
    rw [t2] at s2 s3
    have huc : usedN c = usedN d + ((bodyT t).length + 1) := by
      show 24 - _ = _
      rw [s3]
      show 24 - (List.drop _ _).length = _
      rw [List.length_drop, logL_len]
      omega
    obtain ⟨_, _, _, _, _, _, r6, _⟩ := scan_parts hE
    refine ⟨hE, .inr ⟨hk, fnd_eta _ s1 s2 ?_, huc, hn2⟩⟩
    rw [r6, hA, huc, p6]
    omega
end Wb

set_option linter.unusedVariables false
set_option linter.unusedSimpArgs false
namespace Wb
open Go Go.RowKit
/-- What was safe and is not written again stays. -/
theorem flushed_read {d c : Dsk} {m l2 : List Stp} {k n : Nat} {s : ByteArray} (hg : goodD d = true) (ho : ∀ x ∈ (m ++ [flushS]) ++ l2, stpOk x) (hln : d.writes.length + ((m ++ [flushS]) ++ l2).length ≤ 100) (hn : n < 37) (hr : readD (runD d m) n = s)
    (h2 : ∀ x ∈ l2, x.kind ≠ 2 → x.at_ ≠ n) (hk : m.length + 1 ≤ k) (hl : Left (runD d (((m ++ [flushS]) ++ l2).take k)) c) : readD c n = s := by
  simp only [List.length_append, List.length_cons, List.length_nil] at hln
  have htk : ((m ++ [flushS]) ++ l2).take k = (m ++ [flushS]) ++ l2.take (k - (m.length + 1)) := by
    rw [List.take_append, List.take_of_length_le (by simp; omega)]
    simp
  have h := hl.read n hn
  rw [htk, runD_append] at h
  have hgm := run_good (m ++ [flushS]) hg (fun x hx => ho x (List.mem_append_left _ hx)) (by simp; omega)
  have hgl : (runD d (m ++ [flushS])).writes.length + (l2.take (k - (m.length + 1))).length ≤ 200 := by
    have := hgm.2
    simp only [List.length_append, List.length_cons, List.length_nil] at this
    rw [List.length_take]; omega
  rcases run_texts _ hgm.1 (fun x hx => ho x (List.mem_append_right _ (List.mem_of_mem_take hx))) hgl hn _ h with hh | ⟨x, hx, hk2, ha, _⟩
  · rw [run_flush hg (fun x hx => ho x (by simp [hx])) (by omega) hn, hr] at hh
    exact List.mem_singleton.1 hh
  · exact absurd ha (h2 x (List.mem_of_mem_take hx) hk2)
theorem mem_home {l : List Cpy} {x : Stp} (hx : x ∈ homeS l) : x = flushS ∨ ∃ c ∈ l, x = wrS (25 + c.block) c.text := by
  unfold homeS at hx
  rcases List.mem_append.1 hx with hx | hx
  · obtain ⟨c, hc, rfl⟩ := List.mem_map.1 hx
    exact .inr ⟨c, hc, rfl⟩
  · split at hx
    · cases hx
    · exact .inl (List.mem_singleton.1 hx)
theorem cpy_ok {l : List Cpy} (g : copiesB l = true) {c : Cpy} (hc : c ∈ l) : (0 ≤ c.block ∧ c.block < 12) ∧ c.text.size = 32 := by
  have := ((copies_pw _).1 g).2 c hc
  exact ⟨of_decide_eq_true this.1, this.2⟩
theorem cpy_one {l : List Cpy} (g : copiesB l = true) {x y : Cpy} (hx : x ∈ l) (hy : y ∈ l) (h : x.block = y.block) : x.text = y.text := by
  have hp := ((copies_pw _).1 g).1
  have h1 := getC_of_mem hp hx
  have h2 := getC_of_mem hp hy
  rw [h, h2, Option.some.injEq] at h1
  exact h1.symm
theorem check_zero {l : List Cpy} {a q : Int} (g : copiesB l = true) (ha : 0 ≤ a ∧ a < 24) (hq : 1 ≤ q ∧ q ≤ 2147483647) : checkE l a q = 0 ∧ checkL l a q = homeS l ++ [wrS 0 (markS (superM q a)), flushS] := by
  have e : checkE l a q = 0 := by
    unfold checkE
    rw [if_neg (fun h => h (super_good hq ha)), if_pos]
    rw [List.all_eq_true]
    intro c hc
    have := cpy_ok g hc
    unfold cpyOk isBlk ok32
    simp [this]
  exact ⟨e, by unfold checkL; rw [if_pos e]⟩
theorem chk_ok {l : List Cpy} {a q : Int} (g : copiesB l = true) (ha : 0 ≤ a ∧ a < 24) (hq : 1 ≤ q ∧ q ≤ 2147483647) : (∀ x ∈ checkL l a q, stpOk x) ∧ (checkL l a q).length ≤ 15 := by
  rw [(check_zero g ha hq).2]
  constructor
  · intro x hx hk2
    rcases List.mem_append.1 hx with hx | hx
    · rcases mem_home hx with rfl | ⟨c, hc, rfl⟩
      · exact absurd rfl hk2
      · have := cpy_ok g hc
        exact ⟨by unfold isAt wrS; simp; omega, this.2⟩
    · rcases List.mem_cons.1 hx with rfl | hx
      · exact ⟨rfl, (dec_mark (super_good hq ha)).2.2⟩
      · obtain rfl := List.mem_singleton.1 hx
        exact absurd rfl hk2
  · unfold homeS
    have := copies_len g
    have e1 : (if l = [] then ([] : List Stp) else [flushS]).length ≤ 1 := by split <;> simp
    simp only [List.length_append, List.length_map, List.length_cons, List.length_nil]
    omega
structure ChkLeft (l : List Cpy) (a q : Int) (d c : Dsk) (k : Nat) : Prop where
  good : goodD c = true
  clean : c.writes = []
  log : ∀ i : Nat, i < 24 → readD c (1 + (i : Int)) = readD d (1 + (i : Int))
  home : ∀ b : Nat, b < 12 → readD c (25 + (b : Int)) = readD d (25 + (b : Int)) ∨ ∃ x ∈ l, x.block = b ∧ readD c (25 + (b : Int)) = x.text
  done : (homeS l).length ≤ k → ∀ x ∈ l, readD c (25 + x.block) = x.text
  zero : (k ≤ (homeS l).length + 1 ∧ readD c 0 = readD d 0) ∨ ((homeS l).length < k ∧ readD c 0 = markS (superM q a))
theorem chk_left {l : List Cpy} {a q : Int} {d c : Dsk} {k : Nat} (g : copiesB l = true) (ha : 0 ≤ a ∧ a < 24) (hq : 1 ≤ q ∧ q ≤ 2147483647) (hg : goodD d = true) (hw : d.writes = []) (hk : k ≤ (checkL l a q).length) (hl : Left (runD d ((checkL l a q).take k)) c) : ChkLeft l a q d c k := by
  obtain ⟨ho, hlen⟩ := chk_ok g ha hq
  have hsp := (check_zero g ha hq).2
  have hL : (checkL l a q).length = (homeS l).length + 2 := by rw [hsp]; simp
  have hwr : ∀ x ∈ checkL l a q, x.kind ≠ 2 → (∃ y ∈ l, x = wrS (25 + y.block) y.text) ∨ x = wrS 0 (markS (superM q a)) := fun x hx hk2 => by
    rw [hsp] at hx
    rcases List.mem_append.1 hx with hx | hx
    · rcases mem_home hx with rfl | hx
      · exact absurd rfl hk2
      · exact .inl hx
    · rcases List.mem_cons.1 hx with rfl | hx
      · exact .inr rfl
      · obtain rfl := List.mem_singleton.1 hx
        exact absurd rfl hk2
  have htx : ∀ n : Nat, n < 37 → readD c n = readD d n ∨ ∃ x ∈ (checkL l a q).take k, x.kind ≠ 2 ∧ x.at_ = n ∧ x.text = readD c n := fun n hn => by
    rcases run_texts _ hg (fun x hx => ho x (List.mem_of_mem_take hx)) (by rw [hw, List.length_nil, List.length_take]; omega) hn _ (hl.read n hn) with hh | hh
    · rw [texts_clean hg hw hn] at hh
      exact .inl (List.mem_singleton.1 hh)
    · exact .inr hh
  refine ⟨hl.good, hl.clean, fun i hi => ?_, fun b hb => ?_, fun hd x hx => ?_, ?_⟩
  · rcases htx (1 + i) (by omega) with hh | ⟨x, hx, hk2, ha2, _⟩
    · simpa using hh
    · exfalso
      rcases hwr x (List.mem_of_mem_take hx) hk2 with ⟨y, hy, rfl⟩ | rfl
      · have := (cpy_ok g hy).1
        have ha3 : 25 + y.block = ((1 + i : Nat) : Int) := ha2
        omega
      · have ha3 : (0 : Int) = ((1 + i : Nat) : Int) := ha2
        omega
  · rcases htx (25 + b) (by omega) with hh | ⟨x, hx, hk2, ha2, he⟩
    · exact .inl (by simpa using hh)
    · rcases hwr x (List.mem_of_mem_take hx) hk2 with ⟨y, hy, rfl⟩ | rfl
      · have ha3 : 25 + y.block = ((25 + b : Nat) : Int) := ha2
        exact .inr ⟨y, hy, by omega, by have he2 := he.symm; simpa [wrS] using he2⟩
      · exfalso
        have ha3 : (0 : Int) = ((25 + b : Nat) : Int) := ha2
        omega
  · have hn0 : l ≠ [] := fun e => by rw [e] at hx; cases hx
    have hds : homeS l = l.map (fun c => wrS (25 + c.block) c.text) ++ [flushS] := by unfold homeS; rw [if_neg hn0]
    have hb := cpy_ok g hx
    obtain ⟨b, hbb, hb12⟩ : ∃ b : Nat, x.block = b ∧ b < 12 := ⟨x.block.toNat, by omega, by omega⟩
    have hlm := copies_len g
    have e : readD (runD d (l.map (fun c => wrS (25 + c.block) c.text))) ((25 + b : Nat) : Int) = x.text :=
      run_read _ hg (fun y hy => ho y (by rw [hsp, hds]; simp [hy])) (by rw [hw, List.length_map, List.length_nil]; omega) (by omega) (fun y hy _ ha2 => by
        obtain ⟨z, hz2, rfl⟩ := List.mem_map.1 hy
        have ha3 : 25 + z.block = ((25 + b : Nat) : Int) := ha2
        exact cpy_one g hz2 hx (by omega)) (.inl ⟨wrS (25 + x.block) x.text, List.mem_map.2 ⟨x, hx, rfl⟩, wr_kind _ _, by show 25 + x.block = _; omega⟩)
    rw [hsp, hds] at hl
    have := flushed_read (n := 25 + b) hg (by rw [hsp, hds] at ho; exact ho) (by rw [hsp, hds] at hlen; rw [hw, List.length_nil]; omega) (by omega) e (fun y hy hk2 ha2 => by
      rcases List.mem_cons.1 hy with rfl | hy
      · have ha3 : (0 : Int) = ((25 + b : Nat) : Int) := ha2
        omega
      · obtain rfl := List.mem_singleton.1 hy
        exact absurd rfl hk2) (by rw [hds] at hd; simpa using hd) hl
    rw [hbb]
    simpa using this
  · have hno : ∀ x ∈ homeS l, x.kind ≠ 2 → x.at_ ≠ ((0 : Nat) : Int) := fun x hx hk2 ha2 => by
      rcases mem_home hx with rfl | ⟨y, hy, rfl⟩
      · exact absurd rfl hk2
      · have := (cpy_ok g hy).1
        have ha3 : 25 + y.block = ((0 : Nat) : Int) := ha2
        omega
    by_cases hkA : k ≤ (homeS l).length
    · refine .inl ⟨by omega, ?_⟩
      rcases htx 0 (by decide) with hh | ⟨x, hx, hk2, ha2, _⟩
      · exact hh
      · rw [hsp, List.take_append_of_le_length hkA] at hx
        exact absurd ha2 (hno x (List.mem_of_mem_take hx) hk2)
    · by_cases hk1 : k = (homeS l).length + 1
      · rcases htx 0 (by decide) with hh | ⟨x, hx, hk2, ha2, he⟩
        · exact .inl ⟨by omega, hh⟩
        · refine .inr ⟨by omega, ?_⟩
          rcases hwr x (List.mem_of_mem_take hx) hk2 with ⟨y, hy, rfl⟩ | rfl
          · exfalso
            have := (cpy_ok g hy).1
            have ha3 : 25 + y.block = ((0 : Nat) : Int) := ha2
            omega
          · exact he.symm
      · refine .inr ⟨by omega, ?_⟩
        have e : (checkL l a q).take k = (homeS l ++ [wrS 0 (markS (superM q a))]) ++ [flushS] := by
          rw [List.take_of_length_le (by omega), hsp]; simp
        have hh := hl.read 0 (by decide)
        rw [e, run_flush hg (fun x hx => ho x (by rw [hsp]; rcases List.mem_append.1 hx with hx | hx <;> simp at hx ⊢ <;> simp [hx])) (by rw [hw, List.length_nil]; simp; omega) (by decide)] at hh
        refine (List.mem_singleton.1 hh).trans ?_
        refine run_read _ hg (fun x hx => ho x (by rw [hsp]; rcases List.mem_append.1 hx with hx | hx <;> simp at hx ⊢ <;> simp [hx])) (by rw [hw, List.length_nil]; simp; omega) (by decide) (fun x hx hk2 ha2 => ?_) (.inl ⟨wrS 0 (markS (superM q a)), by simp, wr_kind _ _, rfl⟩)
        rcases List.mem_append.1 hx with hx | hx
        · exact absurd ha2 (hno x hx hk2)
        · obtain rfl := List.mem_singleton.1 hx
          rfl
/-- A log that begins anew, with no later transaction in it. -/
theorem scan_anew {c : Dsk} {a q : Int} (hg : goodD c = true) (ha : 0 ≤ a ∧ a < 24) (hq : 1 ≤ q ∧ q ≤ 2147483647) (hz : readD c 0 = markS (superM q a)) (hn : noCom c q) : scanE c = 0 ∧ scanF c = ⟨[], q, a⟩ ∧ usedN c = 0 := by
  obtain ⟨d1, d2, _⟩ := dec_mark (super_good hq ha)
  have hE : scanE c = 0 := by
    unfold scanE readE
    rw [hz, hg, d1, d2]; rfl
  have hA : supA c = a := by unfold supA; rw [hz, d2]; rfl
  have hQ : supQ c = q := by unfold supQ; rw [hz, d2]; rfl
  have h0 := scanA_none (q := q) (r := logL c a) (fun s hs => hn.log a (Int.le_refl _) s hs)
  have hu : usedN c = 0 := by unfold usedN; rw [hA, hQ, h0]; simp [logL_len]
  obtain ⟨_, _, _, _, _, _, r6, _⟩ := scan_parts hE
  refine ⟨hE, fnd_eta _ ?_ ?_ ?_, hu⟩
  · rw [scanF_eq hE, hA, hQ, h0]
  · rw [scanF_eq hE, hA, hQ, h0]
  · rw [r6, hu, hA]; omega
theorem chk_scan {l : List Cpy} {d c : Dsk} {k : Nat} (hd : scanE d = 0) (hn : noCom d (scanF d).next) (hl : ChkLeft l (scanF d).at_ (scanF d).next d c k) :
    scanE c = 0 ∧ noCom c (scanF d).next ∧ ((k ≤ (homeS l).length + 1 ∧ scanF c = scanF d ∧ usedN c = usedN d) ∨ ((homeS l).length < k ∧ scanF c = ⟨[], (scanF d).next, (scanF d).at_⟩ ∧ usedN c = 0)) := by
  obtain ⟨hb1, hb2, hb3, hb4, hb5⟩ := scanE_zero hd
  obtain ⟨pre, p1, p2, p3, p4, p5, p6, p7, p8⟩ := scan_parts hd
  have hn2 : noCom c (scanF d).next := fun i hi x hx hc => by
    rw [hl.log i hi] at hc
    exact hn i hi x hx hc
  rcases hl.zero with ⟨hk, hz⟩ | ⟨hk, hz⟩
  · obtain ⟨e1, e2, e3⟩ := scan_same hd hl.good hz (fun i hi => by
      have e0 : (((supA d + (i : Int)) % 24).toNat : Int) = (supA d + (i : Int)) % 24 := by omega
      have := hl.log ((supA d + (i : Int)) % 24).toNat (by omega)
      rw [e0] at this; exact this) hn2
    exact ⟨e1, hn2, .inl ⟨hk, e2, e3⟩⟩
  · obtain ⟨e1, e2, e3⟩ := scan_anew hl.good (a := (scanF d).at_) (q := (scanF d).next) (by rw [p6]; omega) (by omega) hz hn2
    exact ⟨e1, hn2, .inr ⟨hk, e2, e3⟩⟩
end Wb

set_option linter.unusedVariables false
set_option linter.unusedSimpArgs false
namespace Wb
open Go Go.RowKit
/-! ### A block that was revoked last, or never copied -/
def copStep (b : Int) (c : Bool) (t : Txn) : Bool := (c || (getC t.mt b).isSome) && !inI t.rev b
def copB (l : List Txn) (b : Int) : Bool := l.foldl (copStep b) false
theorem copB_snoc (l : List Txn) (t : Txn) (b : Int) : copB (l ++ [t]) b = copStep b (copB l b) t := by simp [copB]
theorem copB_step {l : List Txn} {k : Nat} (hk : k < l.length) (b : Int) : copB (l.take (k + 1)) b = copStep b (copB (l.take k) b) l[k] := by rw [List.take_succ_eq_append_getElem hk, copB_snoc]
theorem copB_newest {l : List Txn} (hg : ∀ t ∈ l, goodT t = true) (b : Int) : copB l b = (newestB l b).isSome := by
  revert hg
  refine snoc_ind (p := fun l => (∀ t ∈ l, goodT t = true) → copB l b = (newestB l b).isSome) (fun _ => rfl) (fun l t ih hg => ?_) l
  rw [copB_snoc, newestB_back, ih (fun x hx => hg x (by simp [hx]))]
  unfold copStep
  cases h1 : getC t.mt b with
  | some s =>
    have g := goodT_of.1 (hg t (by simp))
    have h2 : inI t.rev b = false := by
      cases h3 : inI t.rev b with
      | false => rfl
      | true =>
        have h4 := (g.ap).1 b h3
        rw [hasB_get, h1] at h4
        cases h4.1
    rw [h2]; simp
  | none =>
    cases h3 : inI t.rev b <;> simp
theorem scan_clean {d : Dsk} (h : scanE (flushD d) = 0) : goodD d = true ∧ goodD (flushD d) = true ∧ (flushD d).writes = [] := by
  have h1 := (scanE_zero h).1
  by_cases hg : goodD d = true
  · exact ⟨hg, h1, flush_clean hg⟩
  · unfold flushD at h1
    rw [if_neg hg] at h1
    exact absurd h1 hg
theorem scan_bounds {d : Dsk} (h : scanE d = 0) : (0 ≤ (scanF d).at_ ∧ (scanF d).at_ < 24) ∧ (1 ≤ (scanF d).next ∧ (scanF d).next ≤ 2147483647) := by
  obtain ⟨hb1, hb2, hb3, hb4, hb5⟩ := scanE_zero h
  obtain ⟨pre, p1, p2, p3, p4, p5, p6, p7, p8⟩ := scan_parts h
  exact ⟨by rw [p6]; omega, by omega⟩
theorem leaves_pure {d : Dsk} {b : Nat} (hb : b < 12) (h : scanE (flushD d) = 0) (hg : ∀ t ∈ (scanF (flushD d)).txns, goodT t = true) :
    checkE (newestL (scanF (flushD d)).txns) (scanF (flushD d)).at_ (scanF (flushD d)).next = 0 ∧ (copB (scanF (flushD d)).txns b = true ∨ readD (flushD d) (25 + (b : Int)) = readD (runD (flushD d) (checkL (newestL (scanF (flushD d)).txns) (scanF (flushD d)).at_ (scanF (flushD d)).next)) (25 + (b : Int))) := by
  obtain ⟨_, hgd, hw⟩ := scan_clean h
  obtain ⟨ha, hq⟩ := scan_bounds h
  have g := newestL_copies hg
  obtain ⟨e1, e2⟩ := check_zero g ha hq
  obtain ⟨ho, hlen⟩ := chk_ok g ha hq
  refine ⟨e1, ?_⟩
  cases hc : copB (scanF (flushD d)).txns b with
  | true => exact .inl rfl
  | false =>
    right
    rw [copB_newest hg] at hc
    have := run_read_none hgd ho (by rw [hw, List.length_nil]; omega) (k := 25 + b) (by omega) (fun x hx hk2 ha2 => by
      rw [e2] at hx
      rcases List.mem_append.1 hx with hx | hx
      · rcases mem_home hx with rfl | ⟨c, hcm, rfl⟩
        · exact absurd rfl hk2
        · have ha3 : 25 + c.block = ((25 + b : Nat) : Int) := ha2
          have h1 := getC_of_mem ((copies_pw _).1 g).1 hcm
          rw [newestL_get hg] at h1
          have hcb : c.block = (b : Int) := by omega
          rw [hcb] at h1
          rw [h1] at hc
          cases hc
      · rcases List.mem_cons.1 hx with rfl | hx
        · have ha3 : (0 : Int) = ((25 + b : Nat) : Int) := ha2
          omega
        · obtain rfl := List.mem_singleton.1 hx
          exact absurd rfl hk2)
    have e : ((25 + b : Nat) : Int) = 25 + (b : Int) := by omega
    rw [e] at this
    exact this.symm
/-! ### Marks of that number or a later one -/
def laterAt (d : Dsk) (q : Int) (i : Nat) : Bool := decide (decE (readD d (1 + (i : Int))) = 0 ∧ q ≤ (decM (readD d (1 + (i : Int)))).seq)
def laterB (d : Dsk) (q : Int) : Bool := (List.range 24).any (laterAt d q)
theorem later_noCom {d : Dsk} {q : Int} (h : laterB d q = false) : noCom d q := by
  intro i hi x hx hc
  have := List.any_eq_false.1 h i (List.mem_range.2 hi)
  unfold laterAt at this
  simp only [decide_eq_true_eq, not_and] at this
  have h2 := hc.2.1
  exact this hc.1 (by omega)
/-- How many blocks of the log what was found takes. -/
def usedI (d : Dsk) (f : Fnd) : Int := if (f.at_ - (decM (readD d 0)).at_) % 24 = 0 ∧ 0 < f.txns.length then 24 else (f.at_ - (decM (readD d 0)).at_) % 24
theorem used_eq {d : Dsk} (h : scanE d = 0) : usedI d (scanF d) = usedN d := by
  obtain ⟨hb1, hb2, hb3, hb4, hb5⟩ := scanE_zero h
  obtain ⟨pre, p1, p2, p3, p4, p5, p6, p7, p8⟩ := scan_parts h
  unfold usedI
  have e : (decM (readD d 0)).at_ = supA d := rfl
  rw [e, p6]
  have hm : ((supA d + (usedN d : Int)) % 24 - supA d) % 24 = (usedN d : Int) % 24 := by omega
  rw [hm]
  by_cases hu : usedN d = 0
  · rw [if_neg]
    · omega
    · rintro ⟨_, h2⟩
      rw [p7.2 hu] at h2
      exact absurd h2 (by decide)
  · have ht : 0 < (scanF d).txns.length := List.length_pos_iff.2 fun h => hu (p7.1 h)
    by_cases h24 : usedN d = 24
    · rw [if_pos ⟨by omega, ht⟩]; omega
    · rw [if_neg (by omega)]; omega
theorem crash_run {d : Dsk} {l : List Stp} {x : Int} (hg : goodD d = true) (hw : d.writes = []) (ho : ∀ s ∈ l, stpOk s) (hl : l.length ≤ 200) (hx : 0 ≤ x) : crashE (runD d l) x = 0 := by
  have := (run_good l hg ho (by rw [hw, List.length_nil]; omega)).1
  unfold crashE
  rw [if_pos ⟨this, hx⟩]
/-- AS A WHOLE OR NOT AT ALL. -/
theorem whole_pure {d : Dsk} {t : Txn} {k : Nat} {x : Int} (h : scanE (flushD d) = 0) (hn : (scanF (flushD d)).next < 2147483646) (hl : laterB (flushD d) (scanF (flushD d)).next = false) (hq : t.seq = (scanF (flushD d)).next)
    (hc : comE ⟨(scanF (flushD d)).at_, usedI (flushD d) (scanF (flushD d))⟩ t = 0) (hk : k ≤ (comL ⟨(scanF (flushD d)).at_, usedI (flushD d) (scanF (flushD d))⟩ t).length) (hx : 0 ≤ x) :
    crashE (runD (flushD d) ((comL ⟨(scanF (flushD d)).at_, usedI (flushD d) (scanF (flushD d))⟩ t).take k)) x = 0 ∧
    scanE (crashD (runD (flushD d) ((comL ⟨(scanF (flushD d)).at_, usedI (flushD d) (scanF (flushD d))⟩ t).take k)) x) = 0 ∧
    (((scanF (crashD (runD (flushD d) ((comL ⟨(scanF (flushD d)).at_, usedI (flushD d) (scanF (flushD d))⟩ t).take k)) x)).txns = (scanF (flushD d)).txns ∧ k < (comL ⟨(scanF (flushD d)).at_, usedI (flushD d) (scanF (flushD d))⟩ t).length) ∨
     ((scanF (crashD (runD (flushD d) ((comL ⟨(scanF (flushD d)).at_, usedI (flushD d) (scanF (flushD d))⟩ t).take k)) x)).txns = (scanF (flushD d)).txns ++ [logOf t] ∧ (comL ⟨(scanF (flushD d)).at_, usedI (flushD d) (scanF (flushD d))⟩ t).length ≤ k + 1)) := by
  obtain ⟨_, hgd, hw⟩ := scan_clean h
  obtain ⟨ho, hlen⟩ := com_ok hc
  have hcr := crash_run (x := x) hgd hw (fun s hs => ho s (List.mem_of_mem_take (i := k) hs)) (by rw [List.length_take]; omega) hx
  have hL := comL_split hc
  have hL2 : (comL ⟨(scanF (flushD d)).at_, usedI (flushD d) (scanF (flushD d))⟩ t).length = (comA ⟨(scanF (flushD d)).at_, usedI (flushD d) (scanF (flushD d))⟩ t).length + 2 := by rw [hL]; simp
  have hcl := com_left hc hgd hw hk (Left.crash hcr)
  obtain ⟨e1, e2⟩ := com_scan h (later_noCom hl) hc rfl (used_eq h) hq (by omega) hcl
  refine ⟨hcr, e1, ?_⟩
  rcases e2 with ⟨f1, f2, _⟩ | ⟨f1, f2, _⟩
  · exact .inl ⟨by rw [f2], by omega⟩
  · exact .inr ⟨by rw [f2], by omega⟩
/-- WHAT IS PUT RIGHT TWICE IS PUT RIGHT ONCE. -/
structure Twice (d : Dsk) (k : Nat) (x : Int) (L : List Stp) (X Y : Dsk) : Prop where
  crash : crashE (runD d (L.take k)) x = 0
  scan : scanE X = 0
  next : (scanF X).next = (scanF d).next
  at_ : (scanF X).at_ = (scanF d).at_
  good : ∀ t ∈ (scanF X).txns, goodT t = true
  check : checkE (newestL (scanF X).txns) (scanF X).at_ (scanF X).next = 0
  home : ∀ c ∈ newestL (scanF d).txns, readD Y (25 + c.block) = c.text
  scan2 : scanE Y = 0
  txns2 : (scanF Y).txns = []
  next2 : (scanF Y).next = (scanF d).next
  at2 : (scanF Y).at_ = (scanF d).at_
  done : k = L.length → (scanF X).txns = []
theorem twice_pure {d : Dsk} {k : Nat} {x : Int} (h : scanE d = 0) (hgd : goodD d = true) (hw : d.writes = []) (hgt : ∀ t ∈ (scanF d).txns, goodT t = true) (hl : laterB d (scanF d).next = false)
    (hk : k ≤ (checkL (newestL (scanF d).txns) (scanF d).at_ (scanF d).next).length) (hx : 0 ≤ x) :
    Twice d k x (checkL (newestL (scanF d).txns) (scanF d).at_ (scanF d).next) (crashD (runD d ((checkL (newestL (scanF d).txns) (scanF d).at_ (scanF d).next).take k)) x)
      (runD (crashD (runD d ((checkL (newestL (scanF d).txns) (scanF d).at_ (scanF d).next).take k)) x) (checkL (newestL (scanF (crashD (runD d ((checkL (newestL (scanF d).txns) (scanF d).at_ (scanF d).next).take k)) x)).txns) (scanF (crashD (runD d ((checkL (newestL (scanF d).txns) (scanF d).at_ (scanF d).next).take k)) x)).at_ (scanF (crashD (runD d ((checkL (newestL (scanF d).txns) (scanF d).at_ (scanF d).next).take k)) x)).next)) := by
  obtain ⟨ha, hq⟩ := scan_bounds h
  have g := newestL_copies hgt
  obtain ⟨ho, hlen⟩ := chk_ok g ha hq
  have hsp := (check_zero g ha hq).2
  have hL2 : (checkL (newestL (scanF d).txns) (scanF d).at_ (scanF d).next).length = (homeS (newestL (scanF d).txns)).length + 2 := by rw [hsp]; simp
  have hcr := crash_run (x := x) hgd hw (fun s hs => ho s (List.mem_of_mem_take (i := k) hs)) (by rw [List.length_take]; omega) hx
  have hcl := chk_left g ha hq hgd hw hk (Left.crash hcr)
  obtain ⟨e1, e2, e3⟩ := chk_scan h (later_noCom hl) hcl
  generalize hX : crashD (runD d ((checkL (newestL (scanF d).txns) (scanF d).at_ (scanF d).next).take k)) x = X at *
  -- the second time, all of it
  have hn : (scanF X).next = (scanF d).next ∧ (scanF X).at_ = (scanF d).at_ := by
    rcases e3 with ⟨_, f2, _⟩ | ⟨_, f2, _⟩
    · rw [f2]; exact ⟨rfl, rfl⟩
    · rw [f2]; exact ⟨rfl, rfl⟩
  have hgX : ∀ t ∈ (scanF X).txns, goodT t = true := by
    rcases e3 with ⟨_, f2, _⟩ | ⟨_, f2, _⟩
    · rw [f2]; exact hgt
    · rw [f2]; intro t ht; cases ht
  have g2 := newestL_copies hgX
  have hz2 := check_zero g2 (a := (scanF X).at_) (q := (scanF X).next) (by rw [hn.2]; exact ha) (by rw [hn.1]; exact hq)
  obtain ⟨ho2, hlen2⟩ := chk_ok g2 (a := (scanF X).at_) (q := (scanF X).next) (by rw [hn.2]; exact ha) (by rw [hn.1]; exact hq)
  have hL3 : (checkL (newestL (scanF X).txns) (scanF X).at_ (scanF X).next).length = (homeS (newestL (scanF X).txns)).length + 2 := by rw [hz2.2]; simp
  have hrg := run_good _ hcl.good ho2 (by rw [hcl.clean, List.length_nil]; omega)
  have hY : Left (runD X ((checkL (newestL (scanF X).txns) (scanF X).at_ (scanF X).next).take (checkL (newestL (scanF X).txns) (scanF X).at_ (scanF X).next).length)) (runD X (checkL (newestL (scanF X).txns) (scanF X).at_ (scanF X).next)) := by
    rw [List.take_length]
    refine ⟨hrg.1, ?_, fun n hn => texts_last hrg.1 hn⟩
    rw [hz2.2]
    have e : homeS (newestL (scanF X).txns) ++ [wrS 0 (markS (superM (scanF X).next (scanF X).at_)), flushS] = (homeS (newestL (scanF X).txns) ++ [wrS 0 (markS (superM (scanF X).next (scanF X).at_))]) ++ [flushS] := by simp
    rw [e, runD_append, runD_cons, runD_nil]
    unfold stepD
    rw [if_pos (show flushS.kind = 2 from rfl)]
    refine flush_clean (run_good _ hcl.good (fun s hs => ho2 s (by rw [hz2.2]; rcases List.mem_append.1 hs with hs | hs <;> simp at hs ⊢ <;> simp [hs])) ?_).1
    rw [hcl.clean, List.length_nil]; simp; omega
  have hcl2 := chk_left g2 (a := (scanF X).at_) (q := (scanF X).next) (by rw [hn.2]; exact ha) (by rw [hn.1]; exact hq) hcl.good hcl.clean (Nat.le_refl _) hY
  obtain ⟨k1, k2, k3⟩ := chk_scan e1 (by rw [hn.1]; exact e2) hcl2
  have k4 := k3.resolve_left (by rintro ⟨h1, _⟩; omega)
  refine ⟨hcr, e1, hn.1, hn.2, hgX, hz2.1, fun c hc => ?_, k1, by rw [k4.2.1], by rw [k4.2.1]; exact hn.1, by rw [k4.2.1]; exact hn.2, fun hkl => ?_⟩
  · rcases e3 with ⟨_, f2, _⟩ | ⟨f1, f2, _⟩
    · exact hcl2.done (by omega) c (by rw [f2]; exact hc)
    · -- the super block was new: all was home before
      have hh := hcl.done (by omega) c hc
      have hb := cpy_ok g hc
      obtain ⟨b, hbb, hb12⟩ : ∃ b : Nat, c.block = b ∧ b < 12 := ⟨c.block.toNat, by omega, by omega⟩
      rw [hbb] at hh ⊢
      rcases hcl2.home b hb12 with e | ⟨y, hy, _⟩
      · rw [e]; exact hh
      · rw [f2] at hy
        have : newestL ([] : List Txn) = [] := rfl
        rw [this] at hy
        cases hy
  · rcases e3 with ⟨f1, _⟩ | ⟨_, f2, _⟩
    · omega
    · rw [f2]
theorem scanGo_len2 : ∀ (k : Nat) (r : List ByteArray) (n : Int), (scanGo k r n).1.length ≤ k
  | 0, r, n => Nat.le_refl _
  | k + 1, r, n => by
    unfold scanGo
    split
    · split
      · simp only [List.length_cons]
        have := scanGo_len2 k ‹_› (n + 1)
        omega
      · exact Nat.zero_le _
    · exact Nat.zero_le _
theorem scanF_len2 (d : Dsk) : (scanF d).txns.length ≤ 25 := by
  unfold scanF
  split
  · exact scanGo_len2 _ _ _
  · exact Nat.zero_le _
end Wb

namespace Go.Proofs.YtjhmfljlclajnacDoor
open Go.RowKit Wb
set_option linter.unusedVariables false
set_option linter.unusedSimpArgs false
set_option maxRecDepth 100000

theorem takeE_bad {r : Ring} {n : Int} (h : goodR r = false ∨ n < 0) : takeE r n = 2 := by unfold takeE; rw [if_pos h]
theorem takeE_full {r : Ring} {n : Int} (h : ¬ (goodR r = false ∨ n < 0)) (h2 : n > 24 - r.used) : takeE r n = 6 := by unfold takeE; rw [if_neg h, if_pos h2]
theorem takeE_ok {r : Ring} {n : Int} (h : ¬ (goodR r = false ∨ n < 0)) (h2 : ¬ n > 24 - r.used) : takeE r n = 0 := by unfold takeE; rw [if_neg h, if_neg h2]
theorem takeR_bad {r : Ring} {n : Int} (h : takeE r n ≠ 0) : takeR r n = r := by unfold takeR; rw [if_neg h]
theorem takeL_bad {r : Ring} {n : Int} (h : takeE r n ≠ 0) : takeL r n = [] := by unfold takeL; rw [if_neg h]
theorem takeR_ok {r : Ring} {n : Int} (h : takeE r n = 0) : takeR r n = ⟨(r.head + n) % 24, r.used + n⟩ := by unfold takeR; rw [if_pos h]
theorem takeL_ok {r : Ring} {n : Int} (h : takeE r n = 0) : takeL r n = places r.head n.toNat := by unfold takeL; rw [if_pos h]


theorem ring_Take (r : Ring) (n : Int) (w : World) :
    Calls Tryd.prog 33 #[r.val, .int .i64 n] w fun e w' =>
      ∃ v, e = .returned (.tuple #[(takeR r n).val, v, .int .i64 (takeE r n)]) ∧ Wb.Own intC w.heap.size 3 1 w' v (takeL r n) ∧ Below w.heap.size w w' := by
  obtain ⟨p, u⟩ := r
  have hG := fun w => ring_Good ⟨p, u⟩ w
  have hgi := goodR_iff ⟨p, u⟩
  by_cases hb : goodR ⟨p, u⟩ = false ∨ n < 0
  · rw [takeR_bad (by rw [takeE_bad hb]; decide), takeL_bad (by rw [takeE_bad hb]; decide), takeE_bad hb]
    clear hgi
    generalize goodR ⟨p, u⟩ = g at *
    replace hG := hid hG
    unfold Ring.val at *
    dsimp only at *
    cases g
    · clear hb
      go_enter Tryd.func33, Tryd.ntmps33
      go_wp2_with (go_at_call 30; refine (hG.out _).mono ?_; rintro e w1 ⟨rfl, hb1⟩; obtain ⟨hbc, hbf⟩ := bcell hb1; have hbz := hb1.size; try simp only [World.size_alloc, World.size_setCell, World.size_drew] at hbz; have hz0 := Nat.lt_of_lt_of_le (n := w.heap.size) (by omega) hbz; have hz1 := Nat.lt_of_lt_of_le (n := w.heap.size + 1) (by omega) hbz)
      exact bodyPost_ret (v := .tuple #[.agg #[.int .i64 p, .int .i64 u], .slice none 0 0, .int .i64 2]) (by simp [results, Tryd.results33, go_sem, hbc]) rfl ⟨_, rfl, Own.nil _ _ _ _ _, by repeat (first | exact Below.refl _ _ | with_reducible assumption | (refine allocB ?_ (by first | omega | (simp; done) | (simp; omega)) _) | (refine Below.setCell ?_ (by first | omega | (simp; done) | (simp; omega)) _) | refine Below.drew ?_ | (refine Below.trans ?_ (Below.mono (by with_reducible assumption) (by first | omega | (simp; done) | (simp; omega)))))⟩
    · replace hb : n < 0 := by simpa using hb
      go_enter Tryd.func33, Tryd.ntmps33
      go_wp2_with (go_at_call 30; refine (hG.out _).mono ?_; rintro e w1 ⟨rfl, hb1⟩; obtain ⟨hbc, hbf⟩ := bcell hb1; have hbz := hb1.size; try simp only [World.size_alloc, World.size_setCell, World.size_drew] at hbz; have hz0 := Nat.lt_of_lt_of_le (n := w.heap.size) (by omega) hbz; have hz1 := Nat.lt_of_lt_of_le (n := w.heap.size + 1) (by omega) hbz)
      exact bodyPost_ret (v := .tuple #[.agg #[.int .i64 p, .int .i64 u], .slice none 0 0, .int .i64 2]) (by simp [results, Tryd.results33, go_sem, hbc]) rfl ⟨_, rfl, Own.nil _ _ _ _ _, by repeat (first | exact Below.refl _ _ | with_reducible assumption | (refine allocB ?_ (by first | omega | (simp; done) | (simp; omega)) _) | (refine Below.setCell ?_ (by first | omega | (simp; done) | (simp; omega)) _) | refine Below.drew ?_ | (refine Below.trans ?_ (Below.mono (by with_reducible assumption) (by first | omega | (simp; done) | (simp; omega)))))⟩
  · obtain ⟨hg, hn⟩ : goodR ⟨p, u⟩ = true ∧ 0 ≤ n := by simpa using hb
    obtain ⟨g1, g2, g3, g4⟩ := hgi.1 hg
    dsimp only at g1 g2 g3 g4
    rw [hg] at hG
    have hF := fun w => ring_Free ⟨p, u⟩ w g3 g4
    replace hG := hid hG
    replace hF := hid hF
    by_cases hs : n > 24 - u
    · rw [takeR_bad (by rw [takeE_full hb hs]; decide), takeL_bad (by rw [takeE_full hb hs]; decide), takeE_full hb hs]
      clear hgi hb hg
      unfold Ring.val at *
      dsimp only at *
      go_enter Tryd.func33, Tryd.ntmps33
      go_wp2_with (first | (go_at_call 30; refine (hG.out _).mono ?_; rintro e w1 ⟨rfl, hb1⟩; obtain ⟨hbc, hbf⟩ := bcell hb1; have hbz := hb1.size; try simp only [World.size_alloc, World.size_setCell, World.size_drew] at hbz; have hz0 := Nat.lt_of_lt_of_le (n := w.heap.size) (by omega) hbz; have hz1 := Nat.lt_of_lt_of_le (n := w.heap.size + 1) (by omega) hbz) | (go_at_call 53; refine (hF.out _).mono ?_; rintro e w2 ⟨rfl, hb1⟩; obtain ⟨hbc, hbf⟩ := bcell hb1; have hbz := hb1.size; try simp only [World.size_alloc, World.size_setCell, World.size_drew] at hbz; have hz0 := Nat.lt_of_lt_of_le (n := w.heap.size) (by omega) hbz; have hz1 := Nat.lt_of_lt_of_le (n := w.heap.size + 1) (by omega) hbz))
      exact bodyPost_ret (v := .tuple #[.agg #[.int .i64 p, .int .i64 u], .slice none 0 0, .int .i64 6]) (by simp [results, Tryd.results33, go_sem, *]) rfl ⟨_, rfl, Own.nil _ _ _ _ _, by repeat (first | exact Below.refl _ _ | with_reducible assumption | (refine allocB ?_ (by first | omega | (simp; done) | (simp; omega)) _) | (refine Below.setCell ?_ (by first | omega | (simp; done) | (simp; omega)) _) | refine Below.drew ?_ | (refine Below.trans ?_ (Below.mono (by with_reducible assumption) (by first | omega | (simp; done) | (simp; omega)))))⟩
    · rw [takeR_ok (takeE_ok hb hs), takeL_ok (takeE_ok hb hs), takeE_ok hb hs]
      clear hgi hb hg
      unfold Ring.val at *
      dsimp only at *
      go_enter Tryd.func33, Tryd.ntmps33
      go_wp2_with (first | (go_at_call 30; refine (hG.out _).mono ?_; rintro e w1 ⟨rfl, hb1⟩; obtain ⟨hbc, hbf⟩ := bcell hb1; have hbz := hb1.size; try simp only [World.size_alloc, World.size_setCell, World.size_drew] at hbz; have hz0 := Nat.lt_of_lt_of_le (n := w.heap.size) (by omega) hbz; have hz1 := Nat.lt_of_lt_of_le (n := w.heap.size + 1) (by omega) hbz) | (go_at_call 53; refine (hF.out _).mono ?_; rintro e w2 ⟨rfl, hb1⟩; obtain ⟨hbc, hbf⟩ := bcell hb1; have hbz := hb1.size; try simp only [World.size_alloc, World.size_setCell, World.size_drew] at hbz; have hz0 := Nat.lt_of_lt_of_le (n := w.heap.size) (by omega) hbz; have hz1 := Nat.lt_of_lt_of_le (n := w.heap.size + 1) (by omega) hbz))
      have k1 : Blk w2 w.heap.size #[.int .i64 p, .int .i64 u] 57 := (((Blk.new w _ _).alloc _).step (by assumption)).step (by assumption)
      have k2 : Blk w2 (w.heap.size + 1) #[.int .i64 0, .int .i64 0] 57 := ((Blk.newAt (w := w.alloc _) (by simp)).step (by assumption)).step (by assumption)
      have hw2 : Below w.heap.size w w2 := by repeat (first | exact Below.refl _ _ | with_reducible assumption | (refine allocB ?_ (by first | omega | (simp; done) | (simp; omega)) _) | (refine Below.setCell ?_ (by first | omega | (simp; done) | (simp; omega)) _) | refine Below.drew ?_ | (refine Below.trans ?_ (Below.mono (by with_reducible assumption) (by first | omega | (simp; done) | (simp; omega)))))
      clear hbc hbf
      go_loopw [7, 22] (fun l i wr => ∃ k : Nat, (k : Int) ≤ n ∧ i = .int .i64 k ∧ Wb.Own intC (w.heap.size + 2) 3 1 wr l (places p k) ∧ Blk wr w.heap.size #[.int .i64 ((p + k) % 24), .int .i64 u] 57 ∧ Blk wr (w.heap.size + 1) #[.int .i64 0, .int .i64 0] 57 ∧ Below w.heap.size w wr ∧ w.heap.size + 1 < wr.heap.size) (fun _ i _ => (n - intOf i).toNat)
      case atStart => exact ⟨0, by omega, rfl, Own.nil _ _ _ _ _, by rw [show (p + ((0 : Nat) : Int)) % 24 = p by omega]; exact k1, k2, hw2, by omega⟩
      case round =>
        obtain ⟨k, hk, rfl, hown, b1, b2, hnx, hz⟩ := hrel
        have hz0 : w.heap.size < wr.heap.size := by omega
        have c0 := b1.cell 0
        have c1 := b1.cell 1
        have f0 := b1.free 0
        have f1 := b1.free 1
        simp only [List.getElem?_toArray, List.getElem?_cons_zero, List.getElem?_cons_succ] at c0 c1
        by_cases hlt : (k : Int) < n
        · go_wp2_with (at_builtin; go_loud (refine wpList_push rfl _ _ _ rfl (w.heap.size + 2) _ 1 8 intC_flat elemInt hown rfl ((p + k) % 24) rfl rfl ?c1 ?c2 ?c3 ?c4))
          case c1 => rw [places_len]; omega
          case c2 => rw [places_len]; unfold maxLen; omega
          case c3 => omega
          case c4 =>
            intro v' w' hown' hbel hgrow
            rw [← places_succ] at hown'
            have b1' := b1.below hbel (by omega)
            have b2' := b2.below hbel (by omega)
            have hnx' := hnx.trans (hbel.mono (by omega))
            have hz' := hbel.size
            have c0' := b1'.cell 0
            have f0' := b1'.free 0
            simp only [List.getElem?_toArray, List.getElem?_cons_zero, List.getElem?_cons_succ] at c0'
            go_wp2
            go_roundw
            case rel => 
              refine ⟨k + 1, by omega, by go_num, hown'.setCell (by simp) _, ?_, b2'.set_other _ _ (by simp), hnx'.setCell (Nat.le_refl _) _, by simp; omega⟩
              have hbb := b1'.set 0 (.int .i64 ((p + k + 1) % 24))
              rw [show (p + ((k + 1 : Nat) : Int)) = p + k + 1 by omega]
              simpa using hbb
            case measure => simp [intOf]; omega
        · have c2 := b2.cell 0
          have c3 := b2.cell 1
          have f2 := b2.free 0
          have f3 := b2.free 1
          simp only [List.getElem?_toArray, List.getElem?_cons_zero, List.getElem?_cons_succ] at c2 c3
          go_wp2
          obtain rfl : n = k := by omega
          refine bodyPost_ret (v := .tuple #[.agg #[.int .i64 ((p + k) % 24), .int .i64 (u + k)], u7, .int .i64 0]) (by simp [results, Tryd.results33, go_sem, c0, c1, c2, c3]) rfl ⟨_, rfl, ?_, ?_⟩
          · rw [Int.toNat_natCast]
            exact (((hown.setCell (by simp) _).setCell (by simp) _).setCell (by simp) _).mono (by omega)
          · repeat (first | exact Below.refl _ _ | with_reducible assumption | (refine allocB ?_ (by first | omega | (simp; done) | (simp; omega)) _) | (refine Below.setCell ?_ (by first | omega | (simp; done) | (simp; omega)) _) | refine Below.drew ?_ | (refine Below.trans ?_ (Below.mono (by with_reducible assumption) (by first | omega | (simp; done) | (simp; omega)))))

end Go.Proofs.YtjhmfljlclajnacDoor

namespace Go.Proofs.YtjhmfljlclajnacDoor
open Go.RowKit Wb
set_option linter.unusedVariables false
set_option linter.unusedSimpArgs false
set_option maxRecDepth 100000

end Go.Proofs.YtjhmfljlclajnacDoor

namespace Go.Proofs.YtjhmfljlclajnacDoor
open Go.RowKit Wb
set_option linter.unusedVariables false
set_option linter.unusedSimpArgs false
set_option maxRecDepth 100000

theorem take22 : takeR ⟨22, 0⟩ 3 = ⟨1, 3⟩ ∧ takeL ⟨22, 0⟩ 3 = [22, 23, 0] ∧ takeE ⟨22, 0⟩ 3 = 0 := ⟨rfl, rfl, rfl⟩

end Go.Proofs.YtjhmfljlclajnacDoor

namespace Wb
open Go Go.RowKit Go.MapKept

/-- Block b is a map that holds f. -/
def IMap (w : World) (b : Nat) (f : Int → Option Value) : Prop :=
  ∃ es clock, w.heap[b]? = some (.map es clock) ∧ Stamped es clock ∧ (∀ x ∈ es.toList, IsKey (.int .i64) x.key) ∧ ∀ k v, f k = some v ↔ ∃ x ∈ es.toList, x.key = .int .i64 k ∧ x.val = v
section
variable {w w' : World} {b : Nat} {f : Int → Option Value} {P : Program} {t kt e : TypeId}
theorem IMap.lt (h : IMap w b f) : b < w.heap.size := by
  obtain ⟨es, c, h1, _⟩ := h
  exact (Array.getElem?_eq_some_iff.1 h1).1
theorem IMap.below {B : Nat} (h : IMap w b f) (hb : Below B w w') (hlt : b < B) : IMap w' b f := by
  obtain ⟨es, c, h1, r⟩ := h
  exact ⟨es, c, (hb.block b hlt).trans h1, r⟩
theorem IMap.step (h : IMap w b f) (hb : Below w.heap.size w w') : IMap w' b f := h.below hb h.lt
theorem IMap.drewN (h : IMap w b f) (n : Nat) : IMap (w.drewN n) b f := h
theorem IMap.drew (h : IMap w b f) : IMap w.drew b f := h
theorem IMap.alloc (h : IMap w b f) (o : Obj) : IMap (w.alloc o) b f := by
  have hl := h.lt
  obtain ⟨es, c, h1, r⟩ := h
  exact ⟨es, c, (heap_alloc_old w o hl).trans h1, r⟩
theorem IMap.set_other (h : IMap w b f) (p : Addr) (v : Value) (hne : b ≠ p.block) : IMap (w.setCell p v) b f := by
  obtain ⟨es, c, h1, r⟩ := h
  exact ⟨es, c, (Below.heap_setCell w p v b hne).trans h1, r⟩
theorem IMap.grown {row : Option Nat} (h : IMap w b f) (hg : w.grownBy w' row) (hne : some b ≠ row) : IMap w' b f := by
  have hl := h.lt
  obtain ⟨es, c, h1, r⟩ := h
  exact ⟨es, c, (hg.block b hl hne).trans h1, r⟩
theorem IMap.congr {g : Int → Option Value} (h : IMap w b f) (hfg : ∀ k, f k = g k) : IMap w b g := by
  obtain rfl : f = g := funext hfg
  exact h
theorem IMap.made (w : World) : IMap (w.alloc (.map #[] 0)) w.heap.size (fun _ => none) :=
  ⟨#[], 0, (MapKept.heap_alloc w _).1, stamped_empty 0, by simp, by simp⟩

theorem IMap.at_ {w : World} {b : Nat} {f : Int → Option Value} (h : IMap w b f) (k : Int) : ∃ es clock, w.heap[b]? = some (.map es clock) ∧
    ((f k = none ∧ Instr.findNow (.int .i64) (.int .i64 k) es.toList 0 = some none ∧ ∀ x ∈ es.toList, x.key ≠ .int .i64 k) ∨
     ∃ j x, Instr.findNow (.int .i64) (.int .i64 k) es.toList 0 = some (some (j, x.val)) ∧ es[j]? = some x ∧ x.key = .int .i64 k ∧ f k = some x.val) := by
  obtain ⟨es, c, h1, h2, h3, h4⟩ := h
  refine ⟨es, c, h1, ?_⟩
  rcases findNow_spec (d := .int .i64) (k := .int .i64 k) rfl es.toList 0 h3 with ⟨g1, g2⟩ | ⟨j, x, g1, g2, g3⟩
  · refine .inl ⟨?_, g1, g2⟩
    cases hf : f k with
    | none => rfl
    | some v =>
      obtain ⟨x, hx, hk, _⟩ := (h4 k v).1 hf
      exact absurd hk (g2 x hx)
  · rw [Nat.zero_add] at g1
    exact .inr ⟨j, x, g1, by simpa using g2, g3, (h4 k x.val).2 ⟨x, List.mem_of_getElem? g2, g3, rfl⟩⟩

/-- 'm[k]', 'v, ok := m[k]'. -/
theorem IMap.lookup (h : IMap w b f) (ht : P.underlying t = some (.map kt e)) (hk : P.underlying kt = some (.int .i64)) {z : Value} (hz : (zeroValue e).run P w = .ok z w) (k : Int) :
    (Instr.lookup t (.map (some b)) (.int .i64 k) false).run P w = .ok ((f k).getD z) w ∧
    (Instr.lookup t (.map (some b)) (.int .i64 k) true).run P w = .ok (.tuple #[(f k).getD z, .bool (f k).isSome]) w := by
  obtain ⟨es, c, h1, hh⟩ := h.at_ k
  have hc := fun n e' => run_checkKey (P := P) (w := w) hk (k := .int .i64 k) rfl e' n
  rcases hh with ⟨hf, g1, _⟩ | ⟨j, x, g1, g2, g3, hf⟩
  · have hfk := run_findKey (P := P) (w := w) hk g1
    rw [hf]
    constructor <;> simp [Instr.lookup, run_underlying ht, run_getObj_map h1, hc 9999, hfk, hz, Result.andThen]
  · have hfk := run_findKey (P := P) (w := w) hk g1
    rw [hf]
    constructor <;> simp [Instr.lookup, run_underlying ht, run_getObj_map h1, hc 9999, hfk, Result.andThen]

/-- A map that is nil. -/
theorem look_nil (ht : P.underlying t = some (.map kt e)) (hk : P.underlying kt = some (.int .i64)) {z : Value} (hz : (zeroValue e).run P w = .ok z w) (k : Int) :
    (Instr.lookup t (.map none) (.int .i64 k) false).run P w = .ok z w ∧ (Instr.lookup t (.map none) (.int .i64 k) true).run P w = .ok (.tuple #[z, .bool false]) w := by
  have hc := fun n e' => run_checkKey (P := P) (w := w) hk (k := .int .i64 k) rfl e' n
  have hfk := run_findKey (P := P) (w := w) (l := []) (k := .int .i64 k) (d := .int .i64) hk rfl
  constructor <;> simp [Instr.lookup, run_underlying ht, hc 9999, hfk, hz, Result.andThen]

/-- Nothing but block b has turned. -/
structure Turned (w w' : World) (b : Nat) : Prop where
  os : w'.os = w.os
  tape : w'.tape = w.tape
  output : w'.output = w.output
  size : w'.heap.size = w.heap.size
  block : ∀ i, i ≠ b → w'.heap[i]? = w.heap[i]?

theorem setBlock_turned {es : Array MapEntry} {c : Nat} (hb : w.heap[b]? = some (.map es c)) (o : Obj) : Turned w (ChangeMaps.setBlock w b o) b :=
  ⟨rfl, rfl, rfl, by simp [ChangeMaps.setBlock], fun i hi => ChangeMaps.heap_setBlock_other hb _ hi⟩
theorem Turned.blk (h : Turned w w' b) {g : Nat} {cs : Array Value} {ty : TypeId} (hg : Blk w g cs ty) (hne : g ≠ b) : Blk w' g cs ty := (h.block g hne).trans hg
theorem Turned.imap (h : Turned w w' b) {g : Nat} {f : Int → Option Value} (hg : IMap w g f) (hne : g ≠ b) : IMap w' g f := by
  obtain ⟨es, c, h1, r⟩ := hg
  exact ⟨es, c, (h.block g hne).trans h1, r⟩
theorem Turned.below (h : Turned w w' b) {W : World} {B : Nat} (hw : Below B W w) (hlt : B ≤ b) : Below B W w' :=
  ⟨h.os.trans hw.os, by rw [h.tape]; exact hw.tape, by rw [h.output]; exact hw.output, by rw [h.size]; exact hw.size, fun i hi => (h.block i (by omega)).trans (hw.block i hi)⟩
theorem Turned.grown (h : Turned w w' b) : w.grownBy w' (some b) := ⟨h.os, h.tape, h.output, by rw [h.size]; exact Nat.le_refl _, fun i hi hne => h.block i (fun hh => hne (by rw [hh]))⟩

/-- 'm[k] = v'. -/
theorem IMap.update (h : IMap w b f) (ht : P.underlying t = some (.map kt e)) (hk : P.underlying kt = some (.int .i64)) (k : Int) (v : Value) :
    ∃ w', (Instr.mapUpdate t (.map (some b)) (.int .i64 k) v).run P w = .ok () w' ∧ IMap w' b (fun x => if x = k then some v else f x) ∧ Turned w w' b := by
  obtain ⟨es, c, h1, h2, h3, h4⟩ := h
  have hc := fun n e' => run_checkKey (P := P) (w := w) hk (k := .int .i64 k) rfl e' n
  rcases findNow_spec (d := .int .i64) (k := .int .i64 k) rfl es.toList 0 h3 with ⟨g1, g2⟩ | ⟨j, x, g1, g2, g3⟩
  · have hfk := run_findKey (P := P) (w := w) hk g1
    refine ⟨ChangeMaps.setBlock w b (.map (es.push { key := .int .i64 k, val := v, born := c }) (c + 1)), ?_, ?_, setBlock_turned h1 _⟩
    · simp [Instr.mapUpdate, run_underlying ht, run_getObj_map h1, hc 9999, hfk, run_setObj_map _ h1, Result.andThen, ChangeMaps.setBlock]
    · refine ⟨_, _, ChangeMaps.heap_setBlock_same h1 _, stamped_push h2 g2, ?_, ?_⟩
      · intro y hy
        simp only [Array.toList_push, List.mem_append, List.mem_singleton] at hy
        rcases hy with hy | rfl
        · exact h3 y hy
        · rfl
      · intro q u
        simp only [Array.toList_push, List.mem_append, List.mem_singleton]
        by_cases hq : q = k
        · subst hq
          simp only [if_pos]
          constructor
          · intro hu
            cases hu
            exact ⟨_, .inr rfl, rfl, rfl⟩
          · rintro ⟨y, hy | rfl, e1, e2⟩
            · exact absurd e1 (g2 y hy)
            · simp at e2; rw [e2]
        · simp only [if_neg hq, h4 q u]
          constructor
          · rintro ⟨y, hy, e1, e2⟩
            exact ⟨y, .inl hy, e1, e2⟩
          · rintro ⟨y, hy | rfl, e1, e2⟩
            · exact ⟨y, hy, e1, e2⟩
            · simp at e1; exact absurd e1.symm hq
  · rw [Nat.zero_add] at g1
    have hj : es[j]? = some x := by simpa using g2
    have hfk := run_findKey (P := P) (w := w) hk g1
    have hkey : ∀ e', es[j]? = some e' → ({ e' with key := .int .i64 k, val := v } : MapEntry).key = e'.key := fun e' he' => by rw [hj] at he'; cases he'; exact g3.symm
    refine ⟨ChangeMaps.setBlock w b (.map (es.modify j fun e => { e with key := .int .i64 k, val := v }) c), ?_, ?_, setBlock_turned h1 _⟩
    · simp [Instr.mapUpdate, run_underlying ht, run_getObj_map h1, hc 9999, hfk, hj, g3, run_keyThatStays (d := .int .i64) (k := .int .i64 k) rfl, run_setObj_map _ h1, Result.andThen, ChangeMaps.setBlock]
    · have hst := stamped_modify h2 j (fun e => { e with key := .int .i64 k, val := v }) (fun _ _ => rfl) (fun e' _ he' => hkey e' he')
      refine ⟨_, _, ChangeMaps.heap_setBlock_same h1 _, hst, isKey_modify h3 _ _ hkey, ?_⟩
      have hmem : ∀ y, y ∈ (es.modify j fun e => { e with key := .int .i64 k, val := v }).toList ↔ (y = { x with key := .int .i64 k, val := v } ∨ ∃ i, i ≠ j ∧ es[i]? = some y) := by
        intro y
        rw [List.mem_iff_getElem?]
        simp only [Array.getElem?_toList, Array.getElem?_modify]
        constructor
        · rintro ⟨i, hi⟩
          by_cases hij : j = i
          · subst hij
            simp [hj] at hi
            exact .inl hi.symm
          · simp [hij] at hi
            exact .inr ⟨i, fun h => hij h.symm, hi⟩
        · rintro (rfl | ⟨i, hi, hy⟩)
          · exact ⟨j, by simp [hj]⟩
          · exact ⟨i, by simp [Ne.symm hi, hy]⟩
      have hun : ∀ i y, es[i]? = some y → y.key = .int .i64 k → i = j := by
        intro i y hi hy
        have hnd := h2.2.2
        have hi' : (es.toList.map (·.key))[i]? = some (.int .i64 k) := by simp [hi, hy]
        have hj' : (es.toList.map (·.key))[j]? = some (.int .i64 k) := by simp [hj, g3]
        have hil := (List.getElem?_eq_some_iff.1 hi').1
        exact (List.getElem?_inj hil hnd).1 (hi'.trans hj'.symm)
      intro q u
      by_cases hq : q = k
      · subst hq
        simp only [if_pos]
        constructor
        · intro hu
          cases hu
          exact ⟨_, (hmem _).2 (.inl rfl), rfl, rfl⟩
        · rintro ⟨y, hy, e1, e2⟩
          rcases (hmem y).1 hy with rfl | ⟨i, hi, hy⟩
          · simp at e2; rw [e2]
          · exact absurd (hun i y hy e1) hi
      · simp only [if_neg hq, h4 q u]
        constructor
        · rintro ⟨y, hy, e1, e2⟩
          obtain ⟨i, hi⟩ := List.mem_iff_getElem?.1 hy
          refine ⟨y, (hmem y).2 (.inr ⟨i, ?_, by simpa using hi⟩), e1, e2⟩
          rintro rfl
          rw [g2] at hi
          cases hi
          rw [g3] at e1
          simp at e1
          exact hq e1.symm
        · rintro ⟨y, hy, e1, e2⟩
          rcases (hmem y).1 hy with rfl | ⟨i, hi, hy⟩
          · simp at e1; exact absurd e1.symm hq
          · exact ⟨y, List.mem_iff_getElem?.2 ⟨i, by simpa using hy⟩, e1, e2⟩
end
end Wb

namespace Go.Proofs.YtjhmfljlclajnacDoor
open Go.RowKit Wb
set_option linter.unusedVariables false
set_option linter.unusedSimpArgs false
set_option maxRecDepth 100000
set_option maxHeartbeats 4000000

theorem tmod_pos (k n : Int) (hn : 0 < n) : -n < k.tmod n ∧ k.tmod n < n ∧ (k.tmod n < 0 → k.tmod n + n = k % n) ∧ (¬ k.tmod n < 0 → k.tmod n = k % n) := by
  have h1 := Int.emod_nonneg k (show n ≠ 0 by omega)
  have h2 := Int.emod_lt_of_pos k hn
  by_cases h0 : 0 ≤ k
  · rw [Int.tmod_eq_emod_of_nonneg h0]
    refine ⟨by omega, h2, fun h => by omega, fun _ => rfl⟩
  · have e : k = -(-k) := by omega
    have g1 := Int.emod_nonneg (-k) (show n ≠ 0 by omega)
    have g2 := Int.emod_lt_of_pos (-k) hn
    have e2 : k.tmod n = -((-k) % n) := by
      conv => lhs; rw [e]
      rw [Int.neg_tmod, Int.tmod_eq_emod_of_nonneg (by omega)]
    have e3 : k % n = if (-k) % n = 0 then 0 else n - (-k) % n := by
      have q1 : k = n * (-((-k) / n)) + -((-k) % n) := by have := Int.mul_ediv_add_emod (-k) n; rw [Int.mul_neg]; omega
      split
      · rename_i hz
        have : n ∣ -k := Int.dvd_of_emod_eq_zero hz
        exact Int.emod_eq_zero_of_dvd ((Int.dvd_neg).1 this)
      · rename_i hz
        have q2 : k = n * (-((-k) / n) - 1) + (n - (-k) % n) := by rw [Int.mul_sub]; omega
        conv => lhs; rw [q2]
        rw [Int.mul_add_emod_self_left]
        exact Int.emod_eq_of_lt (by omega) (by omega)
    rw [e2]
    refine ⟨by omega, by omega, fun h => ?_, fun h => ?_⟩
    · rw [e3, if_neg (by omega)]; omega
    · rw [e3, if_pos (by omega)]; omega

theorem keep_pick (k n : Int) (w : World) (hn : 0 < n) (hn2 : n ≤ 1099511627776) :
    Calls Tryd.prog 12 #[.int .i64 k, .int .i64 n] w fun e w' => e = .returned (.int .i64 (k % n)) ∧ w = w' := by
  obtain ⟨t1, t2, t3, t4⟩ := tmod_pos k n hn
  have hne : n ≠ 0 := by omega
  have hne' : (n == 0) = false := beq_eq_false_iff_ne.2 hne
  by_cases hlt : k.tmod n < 0
  · have e := hid (t3 hlt)
    clear t3 t4
    have hd : decide (k.tmod n < 0) = true := decide_eq_true hlt
    go_enter Tryd.func12, Tryd.ntmps12
    go_wp2
    go_ret
    exact ⟨ret_i e.out, rfl⟩
  · have e := hid (t4 hlt)
    clear t3 t4
    have hlt2 : 0 ≤ k.tmod n := by omega
    go_enter Tryd.func12, Tryd.ntmps12
    go_wp2
    go_ret
    exact ⟨ret_i e.out, rfl⟩

/-! ### The plain law -/
theorem take_two {r : Ring} {n m : Int} (hn : 0 ≤ n) (hm : 0 ≤ m) (h1 : takeE r n = 0) (h2 : takeE (takeR r n) m = 0) :
    goodR r = true ∧ n + m ≤ 24 - r.used ∧ takeR r n = ⟨(r.head + n) % 24, r.used + n⟩ ∧ takeL r n = places r.head n.toNat ∧
    takeR (takeR r n) m = ⟨(r.head + (n + m)) % 24, r.used + (n + m)⟩ ∧ takeL (takeR r n) m = places ((r.head + n) % 24) m.toNat ∧
    takeE r (n + m) = 0 ∧ takeR r (n + m) = ⟨(r.head + (n + m)) % 24, r.used + (n + m)⟩ ∧ takeL r (n + m) = places r.head (n + m).toNat := by
  have e1 := takeR_ok h1
  rw [e1] at h2
  have g1 : ¬ (goodR r = false ∨ n < 0) := fun h => by rw [takeE_bad h] at h1; cases h1
  have g2 : ¬ n > 24 - r.used := fun h => by rw [takeE_full g1 h] at h1; cases h1
  have g3 : ¬ (goodR ⟨(r.head + n) % 24, r.used + n⟩ = false ∨ m < 0) := fun h => by rw [takeE_bad h] at h2; cases h2
  have g4 : ¬ m > 24 - (r.used + n) := fun h => by rw [takeE_full g3 h] at h2; cases h2
  have hg : goodR r = true := by
    cases hh : goodR r
    · exact absurd (.inl hh) g1
    · rfl
  have e3 : takeE r (n + m) = 0 := takeE_ok (fun h => by rcases h with h | h; (· rw [hg] at h; cases h); omega) (by omega)
  refine ⟨hg, by omega, e1, takeL_ok h1, ?_, ?_, e3, takeR_ok e3, takeL_ok e3⟩
  · rw [e1, takeR_ok h2]
    simp only [Ring.mk.injEq]
    exact ⟨by omega, by omega⟩
  · rw [e1, takeL_ok h2]
theorem take_not {r : Ring} {n m : Int} (hn : 0 ≤ n) (hm : 0 ≤ m) (h : takeE r n ≠ 0 ∨ takeE r n = 0 ∧ takeE (takeR r n) m ≠ 0) : takeE r (n + m) ≠ 0 := by
  intro h3
  have g1 : ¬ (goodR r = false ∨ n + m < 0) := fun h => by rw [takeE_bad h] at h3; cases h3
  have g2 : ¬ n + m > 24 - r.used := fun h => by rw [takeE_full g1 h] at h3; cases h3
  have hg : goodR r = true := by
    cases hh : goodR r
    · exact absurd (.inl hh) g1
    · rfl
  have hg' := (goodR_iff r).1 hg
  rcases h with h | ⟨h, h2⟩
  · exact h (takeE_ok (fun h => by rcases h with h | h; (· rw [hg] at h; cases h); omega) (by omega))
  · rw [takeR_ok h] at h2
    refine h2 (takeE_ok (fun h => ?_) ?_)
    · rcases h with h | h
      · rw [goodR_not] at h
        apply h
        dsimp only
        omega
      · omega
    · dsimp only; omega
/-- What is marked behind k rounds. -/
def marked (l : List Int) (k : Nat) (x : Int) : Option Value := if x ∈ l.take k then some (.bool true) else none
theorem marked_step {l : List Int} {k : Nat} (hk : k < l.length) (x : Int) : (if x = l[k] then some (.bool true) else marked l k x) = marked l (k + 1) x := by
  unfold marked
  have e : x ∈ l.take (k + 1) ↔ x = l[k] ∨ x ∈ l.take k := by
    rw [List.take_succ_eq_append_getElem hk, List.mem_append, List.mem_singleton]; exact Or.comm
  by_cases h : x = l[k]
  · rw [if_pos h, if_pos (e.2 (.inl h))]
  · rw [if_neg h]
    by_cases h2 : x ∈ l.take k
    · rw [if_pos h2, if_pos (e.2 (.inr h2))]
    · rw [if_neg h2, if_neg (fun hh => (e.1 hh).elim h h2)]
theorem marked_not {h : Int} {n k : Nat} (hk : k < n) (hn : n ≤ 24) : marked (places h n) k ((h + k) % 24) = none := by
  unfold marked
  rw [if_neg]
  intro hm
  obtain ⟨i, hi⟩ := List.mem_iff_getElem?.1 hm
  rw [List.getElem?_take] at hi
  split at hi
  · rename_i hik
    rw [places_get h n i (by omega)] at hi
    simp only [Option.some.injEq] at hi
    omega
  · cases hi
end Go.Proofs.YtjhmfljlclajnacDoor

namespace Go.Proofs.YtjhmfljlclajnacDoor
open Go.RowKit Wb
set_option linter.unusedVariables false
set_option linter.unusedSimpArgs false
set_option maxRecDepth 100000
set_option maxHeartbeats 8000000
theorem _root_.Wb.St.gsC {S : List Nat} {w0 w : World} {a : Nat} {ca : List Value} {ta : TypeId} {L : List Ent} {R : List Rd} (_ : St S w0 w (⟨a, ca, ta⟩ :: L) R) : ∃ x, x = a := ⟨_, rfl⟩
theorem later_some {d : Dsk} {q : Int} {i : Nat} (hi : i < 24) (h : laterAt d q i = true) : laterB d q = true := List.any_eq_true.2 ⟨i, List.mem_range.2 hi, h⟩
theorem later_none {d : Dsk} {q : Int} (h : ∀ i < 24, laterAt d q i = false) : laterB d q = false := List.any_eq_false.2 fun i hi => by rw [h i (List.mem_range.1 hi)]; simp
theorem keep_later (hDec : ∀ (s : ByteArray) (w : World), s.size ≤ 9223372036854775807 → Calls Tryd.prog 22 #[.string s] w fun e w' => ∃ v, e = .returned (.tuple #[v, .int .i64 (decE s)]) ∧ OMark w.heap.size w' v (decM s) ∧ Below w.heap.size w w') (d : Dsk) (q : Int) (v : Value) (w0 : World) (hd : RDisk w0 v d) :
    Calls Tryd.prog 9 #[v, .int .i64 q] w0 fun e w' => e = .returned (.bool (laterB d q)) ∧ Below w0.heap.size w0 w' := by
  have hd0 := hd
  obtain ⟨as_, cs, aw, cw, rfl, h1, h2, n1, n2⟩ := hd.form
  clear h1 h2
  have hRd := fun n w' (hb : Below w0.heap.size w0 w') => disk_Read d n _ w' (hd0.below hb)
  have hD := fun n w' => hDec (readD d n) w' (by have := readD_size d n; omega)
  have hsome := fun i (hi : i < 24) h => later_some (d := d) (q := q) hi h
  have hnone := fun h => later_none (d := d) (q := q) h
  have hat : ∀ i, laterAt d q i = decide (decE (readD d (1 + (i : Int))) = 0 ∧ q ≤ (decM (readD d (1 + (i : Int)))).seq) := fun i => rfl
  have X : St [] w0 w0 [] [] := St.start [] w0
  generalize laterB d q = ans at *
  replace hRd := hid hRd; replace hD := hid hD; replace hsome := hid hsome; replace hnone := hid hnone; replace hat := hid hat
  clear hd hd0
  go_enter Tryd.func9, Tryd.ntmps9
  go_wp2_with (first
    | (refine at_mem rfl ?_; refine at_want2 (by kernel_rfl) ?_; (first | (refine at_load rfl ?_; (first | (refine c_load1 rfl _ _ rfl rfl X (by repeat (first | exact ReadA.here rfl | apply ReadA.there)) ?_) | (refine c_loadN rfl _ _ rfl rfl X (by repeat (first | exact ReadB.here (Nat.le_of_ble_eq_true rfl) | apply ReadB.there)) ?_))) | (refine at_store rfl ?_; (first | (refine c_store1 rfl _ _ _ rfl rfl (by first | exact EvR.const _ | exact EvR.tmp rfl rfl) X rfl rfl (by repeat (first | exact PutA.here (Nat.le_of_ble_eq_true rfl) | apply PutA.there)) ?_; intro w X2; (try simp only [upd] at X2); replace X := X2; clear X2) | (refine c_storeN rfl _ _ _ rfl rfl rfl X rfl rfl (by repeat (first | exact PutA.here (Nat.le_of_ble_eq_true rfl) | apply PutA.there)) ?_; intro w X2; (try simp only [upd] at X2); replace X := X2; clear X2))) | (refine m_alloc rfl _ rfl X ?_; intro g w X2; (replace X := X2; clear X2)) | (refine m_box rfl _ _ rfl (by first | exact EvR.const _ | exact EvR.tmp rfl rfl) rfl X ?_; intro g w X2; (replace X := X2; clear X2))); (simp only [Act.put, List.setIfInBounds_toArray, List.set_cons_succ, List.set_cons_zero, List.drop_succ_cons, List.drop_zero, List.take_succ_cons, List.take_zero, Nat.reduceAdd])))
  obtain ⟨g1, rfl⟩ := X.gsC
  go_loopw [5] (fun i wr => ∃ k : Nat, k ≤ 24 ∧ i = .int .i64 ((k : Int) + 1) ∧ Hid (∀ j < k, laterAt d q j = false) ∧ St [] w0 wr [⟨g1, [.slice as_ d.safe.length cs, .slice aw d.writes.length cw], 25⟩] []) (fun i _ => 25 - (intOf i).toNat)
  case atStart => exact ⟨0, Nat.zero_le _, rfl, hid (fun j hj => absurd hj (Nat.not_lt_zero j)), X⟩
  case round =>
    clear X
    obtain ⟨k, hk, rfl, hgk, X⟩ := hrel
    by_cases hlt : k < 24
    · have hRk := fun w' hb => hRd.out ((k : Int) + 1) w' hb
      have hDk := fun w' => hD.out ((k : Int) + 1) w'
      have hak := hat.out k
      rw [Int.add_comm 1 (k : Int)] at hak
      have hsk := hsome.out k hlt
      have hgn : laterAt d q k = false → ∀ j < k + 1, laterAt d q j = false := fun h j hj => by
        rcases Nat.lt_succ_iff_lt_or_eq.1 hj with h1 | rfl
        · exact hgk.out j h1
        · exact h
      generalize laterAt d q k = lk at *
      generalize readE d ((k : Int) + 1) = re at *
      generalize readD d ((k : Int) + 1) = s at *
      generalize decM s = m at *
      obtain ⟨mk, ms, ma, mt, mb⟩ := m
      dsimp only at hak
      generalize decE s = de at *
      replace hRk := hid hRk; replace hDk := hid hDk; replace hsk := hid hsk; replace hgn := hid hgn
      have hle : ((k : Int) + 1 ≤ 24) := by omega
      cases lk with
      | true =>
        obtain rfl := hsk.out rfl
        obtain ⟨rfl, hq⟩ := of_decide_eq_true hak.symm
        clear hak
        go_wp2_with (first
          | (refine at_mem rfl ?_; refine at_want2 (by kernel_rfl) ?_; (first | (refine at_load rfl ?_; (first | (refine c_load1 rfl _ _ rfl rfl X (by repeat (first | exact ReadA.here rfl | apply ReadA.there)) ?_) | (refine c_loadN rfl _ _ rfl rfl X (by repeat (first | exact ReadB.here (Nat.le_of_ble_eq_true rfl) | apply ReadB.there)) ?_))) | (refine at_store rfl ?_; (first | (refine c_store1 rfl _ _ _ rfl rfl (by first | exact EvR.const _ | exact EvR.tmp rfl rfl) X rfl rfl (by repeat (first | exact PutA.here (Nat.le_of_ble_eq_true rfl) | apply PutA.there)) ?_; intro w X2; (try simp only [upd] at X2); replace X := X2; clear X2) | (refine c_storeN rfl _ _ _ rfl rfl rfl X rfl rfl (by repeat (first | exact PutA.here (Nat.le_of_ble_eq_true rfl) | apply PutA.there)) ?_; intro w X2; (try simp only [upd] at X2); replace X := X2; clear X2))) | (refine m_alloc rfl _ rfl X ?_; intro g w X2; (replace X := X2; clear X2)) | (refine m_box rfl _ _ rfl (by first | exact EvR.const _ | exact EvR.tmp rfl rfl) rfl X ?_; intro g w X2; (replace X := X2; clear X2))); (simp only [Act.put, List.setIfInBounds_toArray, List.set_cons_succ, List.set_cons_zero, List.drop_succ_cons, List.drop_zero, List.take_succ_cons, List.take_zero, Nat.reduceAdd]))
          | (go_at_call 15; go_loud ((with_reducible refine (hRk.out _ X.below).mono ?_); rintro e w1 ⟨rfl, hb1⟩; replace X := X.call hb1; clear hb1))
          | (go_at_call 22; go_loud ((with_reducible refine (hDk.out _).mono ?_); rintro e w1 ⟨v1, rfl, hm, hb1⟩; obtain ⟨vt, vb, rfl, ot, ob, _⟩ := hm; obtain ⟨at1, ct1, rfl, _⟩ := ot.reads.form; obtain ⟨ab1, cb1, rfl, _⟩ := ob.reads.form; replace X := X.call hb1; clear hb1 ot ob)))
        go_ret
        exact ⟨rfl, X.below⟩
      | false =>
        have hno := of_decide_eq_false hak.symm
        clear hak hsk
        by_cases he : de = 0
        · subst he
          have hq : ¬ q ≤ ms := fun h => hno ⟨rfl, h⟩
          clear hno
          go_wp2_with (first
            | (refine at_mem rfl ?_; refine at_want2 (by kernel_rfl) ?_; (first | (refine at_load rfl ?_; (first | (refine c_load1 rfl _ _ rfl rfl X (by repeat (first | exact ReadA.here rfl | apply ReadA.there)) ?_) | (refine c_loadN rfl _ _ rfl rfl X (by repeat (first | exact ReadB.here (Nat.le_of_ble_eq_true rfl) | apply ReadB.there)) ?_))) | (refine at_store rfl ?_; (first | (refine c_store1 rfl _ _ _ rfl rfl (by first | exact EvR.const _ | exact EvR.tmp rfl rfl) X rfl rfl (by repeat (first | exact PutA.here (Nat.le_of_ble_eq_true rfl) | apply PutA.there)) ?_; intro w X2; (try simp only [upd] at X2); replace X := X2; clear X2) | (refine c_storeN rfl _ _ _ rfl rfl rfl X rfl rfl (by repeat (first | exact PutA.here (Nat.le_of_ble_eq_true rfl) | apply PutA.there)) ?_; intro w X2; (try simp only [upd] at X2); replace X := X2; clear X2))) | (refine m_alloc rfl _ rfl X ?_; intro g w X2; (replace X := X2; clear X2)) | (refine m_box rfl _ _ rfl (by first | exact EvR.const _ | exact EvR.tmp rfl rfl) rfl X ?_; intro g w X2; (replace X := X2; clear X2))); (simp only [Act.put, List.setIfInBounds_toArray, List.set_cons_succ, List.set_cons_zero, List.drop_succ_cons, List.drop_zero, List.take_succ_cons, List.take_zero, Nat.reduceAdd]))
            | (go_at_call 15; go_loud ((with_reducible refine (hRk.out _ X.below).mono ?_); rintro e w1 ⟨rfl, hb1⟩; replace X := X.call hb1; clear hb1))
            | (go_at_call 22; go_loud ((with_reducible refine (hDk.out _).mono ?_); rintro e w1 ⟨v1, rfl, hm, hb1⟩; obtain ⟨vt, vb, rfl, ot, ob, _⟩ := hm; obtain ⟨at1, ct1, rfl, _⟩ := ot.reads.form; obtain ⟨ab1, cb1, rfl, _⟩ := ob.reads.form; replace X := X.call hb1; clear hb1 ot ob)))
          go_roundw
          case rel => (first | exact ⟨k + 1, by omega, by go_num, hid (hgn.out trivial), X.tail⟩ | ((repeat apply Exists.intro); exact ⟨⟨k + 1, by omega, by go_num, hid (hgn.out trivial), X.tail⟩, rfl⟩))
          case measure => simp [intOf]; omega
        · have he2 : (de == 0) = false := beq_eq_false_iff_ne.2 he
          clear hno
          go_wp2_with (first
            | (refine at_mem rfl ?_; refine at_want2 (by kernel_rfl) ?_; (first | (refine at_load rfl ?_; (first | (refine c_load1 rfl _ _ rfl rfl X (by repeat (first | exact ReadA.here rfl | apply ReadA.there)) ?_) | (refine c_loadN rfl _ _ rfl rfl X (by repeat (first | exact ReadB.here (Nat.le_of_ble_eq_true rfl) | apply ReadB.there)) ?_))) | (refine at_store rfl ?_; (first | (refine c_store1 rfl _ _ _ rfl rfl (by first | exact EvR.const _ | exact EvR.tmp rfl rfl) X rfl rfl (by repeat (first | exact PutA.here (Nat.le_of_ble_eq_true rfl) | apply PutA.there)) ?_; intro w X2; (try simp only [upd] at X2); replace X := X2; clear X2) | (refine c_storeN rfl _ _ _ rfl rfl rfl X rfl rfl (by repeat (first | exact PutA.here (Nat.le_of_ble_eq_true rfl) | apply PutA.there)) ?_; intro w X2; (try simp only [upd] at X2); replace X := X2; clear X2))) | (refine m_alloc rfl _ rfl X ?_; intro g w X2; (replace X := X2; clear X2)) | (refine m_box rfl _ _ rfl (by first | exact EvR.const _ | exact EvR.tmp rfl rfl) rfl X ?_; intro g w X2; (replace X := X2; clear X2))); (simp only [Act.put, List.setIfInBounds_toArray, List.set_cons_succ, List.set_cons_zero, List.drop_succ_cons, List.drop_zero, List.take_succ_cons, List.take_zero, Nat.reduceAdd]))
            | (go_at_call 15; go_loud ((with_reducible refine (hRk.out _ X.below).mono ?_); rintro e w1 ⟨rfl, hb1⟩; replace X := X.call hb1; clear hb1))
            | (go_at_call 22; go_loud ((with_reducible refine (hDk.out _).mono ?_); rintro e w1 ⟨v1, rfl, hm, hb1⟩; obtain ⟨vt, vb, rfl, ot, ob, _⟩ := hm; obtain ⟨at1, ct1, rfl, _⟩ := ot.reads.form; obtain ⟨ab1, cb1, rfl, _⟩ := ob.reads.form; replace X := X.call hb1; clear hb1 ot ob)))
          go_roundw
          case rel => (first | exact ⟨k + 1, by omega, by go_num, hid (hgn.out trivial), X.tail⟩ | ((repeat apply Exists.intro); exact ⟨⟨k + 1, by omega, by go_num, hid (hgn.out trivial), X.tail⟩, rfl⟩))
          case measure => simp [intOf]; omega
    · obtain rfl : k = 24 := by omega
      obtain rfl := hnone.out hgk.out
      go_wp2
      go_ret
      exact ⟨rfl, X.below⟩
theorem keep_used (hDec : ∀ (s : ByteArray) (w : World), s.size ≤ 9223372036854775807 → Calls Tryd.prog 22 #[.string s] w fun e w' => ∃ v, e = .returned (.tuple #[v, .int .i64 (decE s)]) ∧ OMark w.heap.size w' v (decM s) ∧ Below w.heap.size w w') (d : Dsk) (F : Fnd) (v : Value) (a : Option Addr) (cap : Nat) (w0 : World) (hd : RDisk w0 v d)
    (ha : 0 ≤ F.at_ ∧ F.at_ < 24) (hs : 0 ≤ (decM (readD d 0)).at_ ∧ (decM (readD d 0)).at_ < 24) :
    Calls Tryd.prog 18 #[v, .agg #[.slice a F.txns.length cap, .int .i64 F.next, .int .i64 F.at_]] w0 fun e w' => e = .returned (.int .i64 (usedI d F)) ∧ Below w0.heap.size w0 w' := by
  have hd0 := hd
  obtain ⟨as_, cs, aw, cw, rfl, h1, h2, n1, n2⟩ := hd.form
  clear h1 h2
  have hRd := fun w' (hb : Below w0.heap.size w0 w') => disk_Read d 0 _ w' (hd0.below hb)
  have hD := fun w' => hDec (readD d 0) w' (by have := readD_size d 0; omega)
  have hP := fun w' => keep_pick (F.at_ - (decM (readD d 0)).at_) 24 w' (by decide) (by decide)
  have hu : usedI d F = if (F.at_ - (decM (readD d 0)).at_) % 24 = 0 ∧ 0 < F.txns.length then 24 else (F.at_ - (decM (readD d 0)).at_) % 24 := rfl
  have X : St [] w0 w0 [] [] := St.start [] w0
  generalize usedI d F = ans at *
  obtain ⟨l, nx, fa⟩ := F
  dsimp only at *
  generalize readE d 0 = re at *
  generalize readD d 0 = s at *
  generalize decM s = m at *
  obtain ⟨mk, ms, ma, mt, mb⟩ := m
  dsimp only at *
  generalize decE s = de at *
  have hsub : (-9223372036854775808 ≤ fa - ma ∧ fa - ma ≤ 9223372036854775807) := by omega
  generalize hr : (fa - ma) % 24 = r at *
  replace hr := hid hr
  replace hRd := hid hRd; replace hD := hid hD; replace hP := hid hP; replace hu := hid hu
  clear hd hd0 hDec
  by_cases hz : r = 0
  · subst hz
    by_cases hl : 0 < l.length
    · have hans := hu.out
      rw [if_pos ⟨rfl, hl⟩] at hans
      subst hans
      clear hu
      go_enter Tryd.func18, Tryd.ntmps18
      go_wp2_with (first
        | (refine at_mem rfl ?_; refine at_want2 (by kernel_rfl) ?_; (first | (refine at_load rfl ?_; (first | (refine c_load1 rfl _ _ rfl rfl X (by repeat (first | exact ReadA.here rfl | apply ReadA.there)) ?_) | (refine c_loadN rfl _ _ rfl rfl X (by repeat (first | exact ReadB.here (Nat.le_of_ble_eq_true rfl) | apply ReadB.there)) ?_))) | (refine at_store rfl ?_; (first | (refine c_store1 rfl _ _ _ rfl rfl (by first | exact EvR.const _ | exact EvR.tmp rfl rfl) X rfl rfl (by repeat (first | exact PutA.here (Nat.le_of_ble_eq_true rfl) | apply PutA.there)) ?_; intro w X2; (try simp only [upd] at X2); replace X := X2; clear X2) | (refine c_storeN rfl _ _ _ rfl rfl rfl X rfl rfl (by repeat (first | exact PutA.here (Nat.le_of_ble_eq_true rfl) | apply PutA.there)) ?_; intro w X2; (try simp only [upd] at X2); replace X := X2; clear X2))) | (refine m_alloc rfl _ rfl X ?_; intro g w X2; (replace X := X2; clear X2)) | (refine m_box rfl _ _ rfl (by first | exact EvR.const _ | exact EvR.tmp rfl rfl) rfl X ?_; intro g w X2; (replace X := X2; clear X2))); (simp only [Act.put, List.setIfInBounds_toArray, List.set_cons_succ, List.set_cons_zero, List.drop_succ_cons, List.drop_zero, List.take_succ_cons, List.take_zero, Nat.reduceAdd]))
        | (go_at_call 15; go_loud ((with_reducible refine (hRd.out _ X.below).mono ?_); rintro e w1 ⟨rfl, hb1⟩; replace X := X.call hb1; clear hb1))
        | (go_at_call 12; go_loud ((with_reducible refine (hP.out _).mono ?_); rintro e w1 ⟨rfl, rfl⟩))
        | (go_at_call 22; go_loud ((with_reducible refine (hD.out _).mono ?_); rintro e w1 ⟨v1, rfl, hm, hb1⟩; obtain ⟨vt, vb, rfl, ot, ob, _⟩ := hm; obtain ⟨at1, ct1, rfl, _⟩ := ot.reads.form; obtain ⟨ab1, cb1, rfl, _⟩ := ob.reads.form; replace X := X.call hb1; clear hb1 ot ob)))
      go_ret
      exact ⟨rfl, X.below⟩
    · have hans := hu.out
      rw [if_neg (fun h => hl h.2)] at hans
      subst hans
      clear hu
      go_enter Tryd.func18, Tryd.ntmps18
      go_wp2_with (first
        | (refine at_mem rfl ?_; refine at_want2 (by kernel_rfl) ?_; (first | (refine at_load rfl ?_; (first | (refine c_load1 rfl _ _ rfl rfl X (by repeat (first | exact ReadA.here rfl | apply ReadA.there)) ?_) | (refine c_loadN rfl _ _ rfl rfl X (by repeat (first | exact ReadB.here (Nat.le_of_ble_eq_true rfl) | apply ReadB.there)) ?_))) | (refine at_store rfl ?_; (first | (refine c_store1 rfl _ _ _ rfl rfl (by first | exact EvR.const _ | exact EvR.tmp rfl rfl) X rfl rfl (by repeat (first | exact PutA.here (Nat.le_of_ble_eq_true rfl) | apply PutA.there)) ?_; intro w X2; (try simp only [upd] at X2); replace X := X2; clear X2) | (refine c_storeN rfl _ _ _ rfl rfl rfl X rfl rfl (by repeat (first | exact PutA.here (Nat.le_of_ble_eq_true rfl) | apply PutA.there)) ?_; intro w X2; (try simp only [upd] at X2); replace X := X2; clear X2))) | (refine m_alloc rfl _ rfl X ?_; intro g w X2; (replace X := X2; clear X2)) | (refine m_box rfl _ _ rfl (by first | exact EvR.const _ | exact EvR.tmp rfl rfl) rfl X ?_; intro g w X2; (replace X := X2; clear X2))); (simp only [Act.put, List.setIfInBounds_toArray, List.set_cons_succ, List.set_cons_zero, List.drop_succ_cons, List.drop_zero, List.take_succ_cons, List.take_zero, Nat.reduceAdd]))
        | (go_at_call 15; go_loud ((with_reducible refine (hRd.out _ X.below).mono ?_); rintro e w1 ⟨rfl, hb1⟩; replace X := X.call hb1; clear hb1))
        | (go_at_call 12; go_loud ((with_reducible refine (hP.out _).mono ?_); rintro e w1 ⟨rfl, rfl⟩))
        | (go_at_call 22; go_loud ((with_reducible refine (hD.out _).mono ?_); rintro e w1 ⟨v1, rfl, hm, hb1⟩; obtain ⟨vt, vb, rfl, ot, ob, _⟩ := hm; obtain ⟨at1, ct1, rfl, _⟩ := ot.reads.form; obtain ⟨ab1, cb1, rfl, _⟩ := ob.reads.form; replace X := X.call hb1; clear hb1 ot ob)))
      go_ret
      exact ⟨rfl, X.below⟩
  · have hz2 : (r == 0) = false := beq_eq_false_iff_ne.2 hz
    have hans := hu.out
    rw [if_neg (fun h => hz h.1)] at hans
    subst hans
    clear hu
    go_enter Tryd.func18, Tryd.ntmps18
    go_wp2_with (first
      | (refine at_mem rfl ?_; refine at_want2 (by kernel_rfl) ?_; (first | (refine at_load rfl ?_; (first | (refine c_load1 rfl _ _ rfl rfl X (by repeat (first | exact ReadA.here rfl | apply ReadA.there)) ?_) | (refine c_loadN rfl _ _ rfl rfl X (by repeat (first | exact ReadB.here (Nat.le_of_ble_eq_true rfl) | apply ReadB.there)) ?_))) | (refine at_store rfl ?_; (first | (refine c_store1 rfl _ _ _ rfl rfl (by first | exact EvR.const _ | exact EvR.tmp rfl rfl) X rfl rfl (by repeat (first | exact PutA.here (Nat.le_of_ble_eq_true rfl) | apply PutA.there)) ?_; intro w X2; (try simp only [upd] at X2); replace X := X2; clear X2) | (refine c_storeN rfl _ _ _ rfl rfl rfl X rfl rfl (by repeat (first | exact PutA.here (Nat.le_of_ble_eq_true rfl) | apply PutA.there)) ?_; intro w X2; (try simp only [upd] at X2); replace X := X2; clear X2))) | (refine m_alloc rfl _ rfl X ?_; intro g w X2; (replace X := X2; clear X2)) | (refine m_box rfl _ _ rfl (by first | exact EvR.const _ | exact EvR.tmp rfl rfl) rfl X ?_; intro g w X2; (replace X := X2; clear X2))); (simp only [Act.put, List.setIfInBounds_toArray, List.set_cons_succ, List.set_cons_zero, List.drop_succ_cons, List.drop_zero, List.take_succ_cons, List.take_zero, Nat.reduceAdd]))
      | (go_at_call 15; go_loud ((with_reducible refine (hRd.out _ X.below).mono ?_); rintro e w1 ⟨rfl, hb1⟩; replace X := X.call hb1; clear hb1))
      | (go_at_call 12; go_loud ((with_reducible refine (hP.out _).mono ?_); rintro e w1 ⟨rfl, rfl⟩))
      | (go_at_call 22; go_loud ((with_reducible refine (hD.out _).mono ?_); rintro e w1 ⟨v1, rfl, hm, hb1⟩; obtain ⟨vt, vb, rfl, ot, ob, _⟩ := hm; obtain ⟨at1, ct1, rfl, _⟩ := ot.reads.form; obtain ⟨ab1, cb1, rfl, _⟩ := ob.reads.form; replace X := X.call hb1; clear hb1 ot ob)))
    go_ret
    exact ⟨rfl, X.below⟩
end Go.Proofs.YtjhmfljlclajnacDoor

set_option linter.unusedVariables false
set_option linter.unusedSimpArgs false
namespace Wb
open Go Go.RowKit
/-- Something read that lies behind the base. -/
def RdIn (base : Nat) (w : World) (r : Rd) : Prop := Sl w r.v r.n r.cs ∧ (r.cs = [] ∨ ∀ b, vblk r.v = some b → base ≤ b)
theorem Own.rdIn {α : Type} {f : α → List Value} {base : Nat} {e : TypeId} {c : Nat} {w : World} {v : Value} {l : List α} (ho : Own f base e c w v l) : RdIn base w (Rd.of f v l) := by
  refine ⟨ho.reads, .inr fun b hbv => ?_⟩
  obtain ⟨_, h2⟩ := ho
  rcases h2 with ⟨rfl, _⟩ | ⟨g, cap, cur, rfl, hbg, _⟩
  · cases hbv
  · cases hbv
    exact hbg
theorem St.addRs {S : List Nat} {w0 w : World} {L : List Ent} {R : List Rd} {base : Nat} (X : St S w0 w L R) (hL : ∀ e ∈ L, e.g < base) {Rs : List Rd} (h : ∀ r ∈ Rs, RdIn base w r) : St S w0 w L (Rs ++ R) := by
  induction Rs with
  | nil => exact X
  | cons r Rs ih =>
    obtain ⟨h1, h2⟩ := h r (.head _)
    refine (ih fun x hx => h x (.tail _ hx)).addR h1 ?_
    rcases h2 with h2 | h2
    · exact .inl h2
    · exact .inr fun b hb e he heq => by
        have := h2 b hb
        have := hL e he
        omega
/-- The readings of a row of transactions. -/
def txR (v : Value) (xs : List TV) : List Rd := Rd.of tvC v xs :: xs.flatMap fun x => [Rd.of cpyC x.m.val x.t.mt, Rd.of cpyC x.d.val x.t.dt, Rd.of intC x.r.val x.t.rev]
def TV.fits (x : TV) : Prop := x.t.mt.length ≤ 5864062014805 ∧ x.t.dt.length ≤ 5864062014805 ∧ x.t.rev.length ≤ 17592186044160
theorem OTxns.rdIn {base : Nat} {tt tc ti : TypeId} {w : World} {v : Value} {l : List Txn} (h : OTxns base tt tc ti w v l) : ∃ xs : List TV, xs.map (·.t) = l ∧ (∀ x ∈ xs, x.fits) ∧ ∀ r ∈ txR v xs, RdIn base w r := by
  obtain ⟨xs, h1, h2, h3⟩ := h
  refine ⟨xs, h2, fun x hx => ?_, fun r hr => ?_⟩
  · obtain ⟨_, _, _, _, _, _, _, n⟩ := h3 x hx
    exact n
  · rcases List.mem_cons.1 hr with rfl | hr
    · exact h1.rdIn
    · obtain ⟨x, hx, hr⟩ := List.mem_flatMap.1 hr
      obtain ⟨vm, vd, vr, hv, o1, o2, o3, _⟩ := h3 x hx
      simp only [TV.val, txnV, Value.agg.injEq, Array.mk.injEq, List.cons.injEq, and_true, true_and] at hv
      obtain ⟨e1, e2, e3⟩ := hv
      subst e1 e2 e3
      simp only [List.mem_cons, List.not_mem_nil, or_false] at hr
      rcases hr with rfl | rfl | rfl
      · exact o1.rdIn
      · exact o2.rdIn
      · exact o3.rdIn
theorem St.txns {S : List Nat} {w0 w : World} {L : List Ent} {R : List Rd} (X : St S w0 w L R) {v : Value} {xs : List TV} (hf : ∀ x ∈ xs, x.fits) (hl : xs.length ≤ 1099511627744) (h : ∀ r ∈ txR v xs, r ∈ R) : RTxns w v (xs.map (·.t)) := by
  refine ⟨xs, (X.rd _ (h _ (.head _))).1, rfl, fun x hx => ?_, hl⟩
  have hm := fun r hr => (X.rd r (h r (.tail _ (List.mem_flatMap.2 ⟨x, hx, hr⟩)))).1
  exact ⟨x.m.val, x.d.val, x.r.val, rfl, hm _ (.head _), hm _ (.tail _ (.head _)), hm _ (.tail _ (.tail _ (.head _))), hf x hx⟩
theorem St.addOTxns {S : List Nat} {w0 w w' : World} {L : List Ent} {R : List Rd} (X : St S w0 w L R) (hb : Below w.heap.size w w') {tt tc ti : TypeId} {v : Value} {l : List Txn} (h : OTxns w.heap.size tt tc ti w' v l) :
    ∃ xs : List TV, xs.map (·.t) = l ∧ (∀ x ∈ xs, x.fits) ∧ St S w0 w' L (txR v xs ++ R) := by
  obtain ⟨xs, h1, h2, h3⟩ := h.rdIn
  exact ⟨xs, h1, h2, (X.call hb).addRs (fun e he => (X.blk e he).lt) h3⟩
theorem St.dskM {S : List Nat} {w0 w : World} {L : List Ent} {R : List Rd} {as_ aw : Option Addr} {cs cw : Nat} {d : Dsk} (X : St S w0 w L R) (h3 : d.safe.length ≤ 8796093022208) (h4 : d.writes.length ≤ 5864062014805) (h : ∀ r ∈ dskR as_ cs aw cw d, r ∈ R) :
    RDisk w (.agg #[.slice as_ d.safe.length cs, .slice aw d.writes.length cw]) d := ⟨_, _, rfl, (X.rd _ (h _ (.head _))).1, (X.rd _ (h _ (.tail _ (.head _)))).1, h3, h4⟩
/-- The first of a list that is read. -/
theorem RL.take {α : Type} {f : α → List Value} {w : World} {a : Option Addr} {n cap : Nat} {l : List α} (h : RL f w (.slice a n cap) l) {k : Nat} (hk : k ≤ l.length) : RL f w (.slice a k cap) (l.take k) := by
  obtain ⟨a', cap', hv, h1, h2, h3⟩ := h
  simp only [Value.slice.injEq] at hv
  obtain ⟨rfl, rfl, rfl⟩ := hv
  have hl : (l.take k).length = k := by rw [List.length_take]; omega
  refine ⟨a, cap, by rw [hl], by omega, h2, ?_⟩
  have hp : l.flatMap f = (l.take k).flatMap f ++ (l.drop k).flatMap f := by rw [← List.flatMap_append, List.take_append_drop]
  rcases h3 with h3 | ⟨b, off, ha, hc⟩
  · rw [hp] at h3
    exact .inl (List.append_eq_nil_iff.1 h3).1
  · refine .inr ⟨b, off, ha, fun j u hj => hc j u ?_⟩
    have hlt : j < ((l.take k).flatMap f).length := (List.getElem?_eq_some_iff.1 hj).1
    rw [hp, List.getElem?_append_left hlt]; exact hj
end Wb
