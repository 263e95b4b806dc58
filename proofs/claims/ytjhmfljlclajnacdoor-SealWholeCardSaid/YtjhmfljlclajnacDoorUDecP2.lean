/- Part of the proof: DecP2. -/
import Derived.Test.YtjhmfljlclajnacDoorUDecP
set_option linter.unusedVariables false
set_option linter.unusedSimpArgs false
namespace Wb
open Go Go.RowKit
theorem byte_small {n : Int} (h0 : 0 ≤ n) (h1 : n < 256) : ((byte n).toNat : Int) = n := by rw [byte_val, Int.emod_eq_of_lt h0 h1]
theorem body1 {m : Mrk} (h : m.kind = 1) : bodyL m = [byte m.at_] := by unfold bodyL; rw [if_pos h]
theorem body2 {m : Mrk} (h : m.kind = 2) : bodyL m = byte m.tags.length :: m.tags.flatMap tagB := by unfold bodyL; rw [if_neg (by omega), if_pos h]; rfl
theorem body3 {m : Mrk} (h : m.kind = 3) : bodyL m = byte m.blocks.length :: m.blocks.map byte := by unfold bodyL; rw [if_neg (by omega), if_neg (by omega), if_pos h]; rfl
theorem cnt_nb (s : ByteArray) : (cnt s : Int) = nb s 9 := rfl
theorem good_rise {m : Mrk} (h : markE m = 0) : rise (m.tags.map (·.block)) = true ∧ rise m.blocks = true := by
 obtain ⟨h1, h2, h3, h4⟩ := markE_good h
 by_cases h5 : badRise m
 ·rw [markE_rise h1 h2 h3 h5] at h; exact absurd h (by decide)
 ·unfold badRise at h5
  constructor
  ·by_cases hh : rise (m.tags.map (·.block)) = false
   ·exact absurd (.inl hh) h5
   ·simpa using hh
  ·by_cases hh : rise m.blocks = false
   ·exact absurd (.inr hh) h5
   ·simpa using hh
theorem rise_at {l : List Int} (h : rise l = true) {k : Nat} (hk : k < l.length) : 0 ≤ l[k] ∧ l[k] < 12 := by
 have := (rise_iff l).1 h k hk
 unfold riseAt at this
 rw [show l.getD k 0 = l[k] by simp [hk]] at this
 exact ⟨this.1, this.2.1⟩
theorem raw_enc {m : Mrk} (h : markE m = 0) : okS (str (markL m)) ∧ rawM (str (markL m)) = m := by
 obtain ⟨g1, g2, g3, g4⟩ := markE_good h
 obtain ⟨r1, r2⟩ := good_rise h
 have hb := ((enc_iff m (str (markL m))).1 rfl)
 generalize str (markL m) = s at hb
 obtain ⟨hsz, hb⟩ := hb
 have hh : ∀ j, j < 9 → bt s j = (headL m).getD j 0 := fun j hj => by rw [hb j (by omega), head_head _ _ hj]
 have hbd : ∀ j, j < 23 → bt s (9 + j) = (bodyL m).getD j 0 := fun j hj => by rw [hb _ (by omega), head_body]
 obtain ⟨kind, seq, at_, tags, blocks⟩ := m
 unfold badKind badNum badForm badLen at *
 dsimp only at *
 have n4 : nb s 4 = kind := by unfold nb; rw [hh 4 (by decide)]; exact byte_small (n := kind) (by omega) (by omega)
 have n5 : nb s 5 = (seq / 16777216) % 256 := by unfold nb; rw [hh 5 (by decide)]; exact byte_val _
 have n6 : nb s 6 = (seq / 65536) % 256 := by unfold nb; rw [hh 6 (by decide)]; exact byte_val _
 have n7 : nb s 7 = (seq / 256) % 256 := by unfold nb; rw [hh 7 (by decide)]; exact byte_val _
 have n8 : nb s 8 = seq % 256 := by unfold nb; rw [hh 8 (by decide)]; exact byte_val _
 have hseq : seqOf s = seq := by unfold seqOf; rw [n5, n6, n7, n8]; omega
 have hl : s.data.toList.length = 32 := by simpa using hsz
 refine ⟨⟨hsz, ?_⟩, ?_⟩
 ·refine List.ext_getElem (by simp [hl, magic]) fun i h3 h4 => ?_
  have hi : i < 4 := h4
  have h5 := hh i (by omega)
  simp only [bt, List.getD_eq_getElem?_getD, List.getElem?_eq_getElem (show i < s.data.toList.length by omega)] at h5
  rw [List.getElem_take]
  rw [show ((headL ⟨kind, seq, at_, tags, blocks⟩)[i]?).getD 0 = magic[i]'h4 by
   simp only [headL]; rw [List.getElem?_append_left (by exact h4), List.getElem?_eq_getElem h4]; rfl] at h5
  simpa using h5
 ·unfold rawM
  rw [n4, hseq]
  simp only [Mrk.mk.injEq, true_and]
  by_cases k1 : kind = 1
  ·have h9 := hbd 0 (by decide)
   rw [body1 (m := ⟨kind, seq, at_, tags, blocks⟩) k1] at h9
   have : nb s 9 = at_ := by unfold nb; rw [h9]; exact byte_small (n := at_) (by omega) (by omega)
   rw [if_pos k1, if_neg (by omega), if_neg (by omega)]
   exact ⟨this, (List.eq_nil_of_length_eq_zero (by omega)).symm, (List.eq_nil_of_length_eq_zero (by omega)).symm⟩
  ·rw [if_neg k1]
   refine ⟨by omega, ?_, ?_⟩
   ·by_cases k2 : kind = 2
    ·rw [if_pos k2]
     have h9 := hbd 0 (by decide)
     rw [body2 (m := ⟨kind, seq, at_, tags, blocks⟩) k2] at h9
     have hc : cnt s = tags.length := by
      have : ((bt s 9).toNat : Int) = tags.length := by rw [h9]; exact byte_small (n := tags.length) (by omega) (by omega)
      unfold cnt; omega
     rw [hc, Nat.min_eq_left (by omega)]
     refine List.ext_getElem (rawTags_len _ _) fun i h3 h4 => ?_
     have e1 := hbd (2 * i + 1) (by omega)
     have e2 := hbd (2 * i + 1 + 1) (by omega)
     rw [body2 (m := ⟨kind, seq, at_, tags, blocks⟩) k2, List.getD_cons_succ] at e1 e2
     rw [(tagB_getD _ i).1] at e1
     rw [(tagB_getD _ i).2] at e2
     simp only [List.getElem?_eq_getElem h4] at e1 e2
     have hr := rise_at r1 (k := i) (by simpa using h4)
     simp only [List.getElem_map] at hr
     have f1 : nb s (10 + 2 * i) = tags[i].block := by unfold nb; rw [show 10 + 2 * i = 9 + (2 * i + 1) by omega, e1]; exact byte_small (by omega) (by omega)
     have f2 : decide (nb s (11 + 2 * i) = 1) = tags[i].esc := by
      unfold nb; rw [show 11 + 2 * i = 9 + (2 * i + 1 + 1) by omega, e2]
      cases tags[i].esc <;> simp
     simp only [rawTags, List.getElem_map, List.getElem_range, tagAt, f1, f2]
    ·rw [if_neg k2]; exact (List.eq_nil_of_length_eq_zero (by omega)).symm
   ·by_cases k3 : kind = 3
    ·rw [if_pos k3]
     have h9 := hbd 0 (by decide)
     rw [body3 (m := ⟨kind, seq, at_, tags, blocks⟩) k3] at h9
     have hc : cnt s = blocks.length := by
      have : ((bt s 9).toNat : Int) = blocks.length := by rw [h9]; exact byte_small (n := blocks.length) (by omega) (by omega)
      unfold cnt; omega
     rw [hc, Nat.min_eq_left (by omega)]
     refine List.ext_getElem (rawBlks_len _ _) fun i h3 h4 => ?_
     have e1 := hbd (i + 1) (by omega)
     rw [body3 (m := ⟨kind, seq, at_, tags, blocks⟩) k3, List.getD_cons_succ] at e1
     have hr := rise_at r2 (k := i) h4
     have f1 : nb s (10 + i) = blocks[i] := by
      unfold nb; rw [show 10 + i = 9 + (i + 1) by omega, e1]
      simp only [List.getD_eq_getElem?_getD, List.getElem?_map, List.getElem?_eq_getElem h4, Option.map_some, Option.getD_some]
      exact byte_small (by omega) (by omega)
     simp only [rawBlks, List.getElem_map, List.getElem_range, f1]
    ·rw [if_neg k3]; exact (List.eq_nil_of_length_eq_zero (by omega)).symm
theorem dec_yes {s : ByteArray} (h : decOk s) : decM s = rawM s ∧ decE s = 0 ∧ markE (rawM s) = 0 ∧ markS (rawM s) = s :=
 ⟨if_pos h, if_pos h, h.2.1, by unfold markS; rw [if_pos h.2.1]; exact h.2.2⟩
theorem dec_no {s : ByteArray} (h : ¬ decOk s) : decM s = zeroM ∧ decE s = 1 := ⟨if_neg h, if_neg h⟩
theorem dec_no2 {s : ByteArray} (h : ¬ decOk s) (hs : okS s) : markE (rawM s) ≠ 0 ∨ markE (rawM s) = 0 ∧ markS (rawM s) ≠ s := by
 by_cases h1 : markE (rawM s) = 0
 ·refine .inr ⟨h1, fun h2 => h ⟨hs, h1, ?_⟩⟩
  unfold markS at h2
  rwa [if_pos h1] at h2
 ·exact .inl h1
theorem raw1 {s : ByteArray} (h : nb s 4 = 1) : rawM s = ⟨1, seqOf s, nb s 9, [], []⟩ := by simp [rawM, h]
theorem raw2 {s : ByteArray} (h : nb s 4 = 2) : rawM s = ⟨2, seqOf s, 0, rawTags s (min (cnt s) 11), []⟩ := by simp [rawM, h]
theorem raw3 {s : ByteArray} (h : nb s 4 = 3) : rawM s = ⟨3, seqOf s, 0, [], rawBlks s (min (cnt s) 22)⟩ := by simp [rawM, h]
theorem raw4 {s : ByteArray} (h1 : nb s 4 ≠ 1) (h2 : nb s 4 ≠ 2) (h3 : nb s 4 ≠ 3) : rawM s = ⟨nb s 4, seqOf s, 0, [], []⟩ := by simp [rawM, h1, h2, h3]
theorem dec_enc {m : Mrk} (h : markE m = 0) : decOk (str (markL m)) ∧ decM (str (markL m)) = m ∧ decE (str (markL m)) = 0 := by
 obtain ⟨h1, h2⟩ := raw_enc h
 have : decOk (str (markL m)) := ⟨h1, by rw [h2]; exact h, by rw [h2]⟩
 exact ⟨this, by unfold decM; rw [if_pos this, h2], by unfold decE; rw [if_pos this]⟩
end Wb
