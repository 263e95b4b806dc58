/- Parts of the proof: Lift DskP TxnP Disk Disk3 Disk5 Lists Reads2 ReadsT TxnO NewP TxnB AltP TxnD AltQ AskP ReplayP EscP. -/
import Derived.Test.YtjhmfljlclajnadGreatDoorRows
import Derived.Deep.DeepHandedRow
import Derived.Test.YtjhmfljlclajnadGreatDoorURegApp
import Derived.Lib.SmallJoins
import Derived.Test.YtjhmfljlclajnadGreatDoorUPure2
set_option linter.unusedVariables false
set_option linter.unusedSimpArgs false
set_option maxRecDepth 100000
set_option maxHeartbeats 40000000
namespace Go.Proofs.YtjhmfljlclajnadGreatDoor
open Go.ChangeShapes Go.WideShapes Go.ChangeAt Go.RowKit Wb
theorem own : ownKnob Tryz.prog.godebug = none := by kernel_rfl
theorem laidOut : laidOutB Tryz.prog = true := by kernel_rfl
theorem trodAll_stays {H : Type} {enc : TypeId × Value -> H} {W W' : World} {sp : Nat -> Bool} (hb : Below W.heap.size W W') : ∀ (ts : List TypeId) (vs : List Value) (ds : List (DataW H)) (ps : List MemPlace),
    (∀ t ∈ ts, Tryz.prog.readableRec t = true /\ t < Tryz.prog.types.size) -> DataW.TrodAll enc Tryz.prog W 0 (fun _ => true) true ts vs ds ps ->
    (∀ x ∈ ps, x.block < W.heap.size) -> (∀ x ∈ ps, sp x.block = true) -> DataW.TrodAll enc Tryz.prog W' 0 sp true ts vs ds ps
 | [], [], [], _, _, h, _, _ => h
 | t :: ts, v :: vs, d :: ds, ps, hr, h, hlt, hs => by
  obtain ⟨p, q, h1, h2, rfl⟩ := h
  refine ⟨p, q, ?_, ?_, rfl⟩
  ·exact WideElems.Trod_stays laidOut (hr t (by simp)).1 (hr t (by simp)).2 h1 (fun x hx => hb.same (hlt x (by simp [hx]))) (fun x hx => hs x (by simp [hx]))
  ·exact trodAll_stays hb ts vs ds q (fun t' ht => hr t' (by simp [ht])) h2 (fun x hx => hlt x (by simp [hx])) (fun x hx => hs x (by simp [hx]))
 | [], [], _ :: _, _, _, h, _, _ => h.elim
 | [], _ :: _, _, _, _, h, _, _ => h.elim
 | _ :: _, [], _, _, _, h, _, _ => h.elim
 | _ :: _, _ :: _, [], _, _, h, _, _ => h.elim
theorem post_true {H : Type} {enc : TypeId × Value -> H} {f : Func} {s : ChangeSpec} {apart fresh handsOn : Bool} {W W' : World} {args : Array Value} {ds gs : List (DataW H)} {before : List MemPlace}
    (hres : f.resultTypes = #[4]) (hvars : s.vars = []) (hspec : s.fn H (ds ++ gs) = { results := [.lit (.bool true)], args := ds })
    (hread : ∀ t ∈ f.params.toList, Tryz.prog.readableRec t = true /\ t < Tryz.prog.types.size)
    (hW : DataW.Whole enc Tryz.prog f.params.toList s.vars apart W args.toList ds gs before) (hb : Below W.heap.size W W') :
    s.post enc Tryz.prog f apart fresh handsOn false W args (.bool true) W' := by
 have hlt := hW.lt
 have hW' := hW
 obtain ⟨p, q, hA, hV, rfl, hfz, hnd⟩ := hW
 rw [hvars] at hV
 obtain ⟨rfl, rfl⟩ := trodVars_none hV
 refine ⟨ds, [], _, [], p, [], hW', ?_, ?_, ?_, hb.frame _, fun h => by cases h⟩
 ·rw [hspec, hres]
  exact trodAll_mk1 (shut_bool Tryz.underlying4 true)
 ·rw [hspec]
  exact trodAll_stays hb _ _ _ _ hread hA (fun x hx => hlt x (by simp [hx])) (fun x hx => by simpa using hlt x (by simp [hx]))
 ·rw [hspec, hvars]
  rfl
end Go.Proofs.YtjhmfljlclajnadGreatDoor
namespace Wb
open Go Go.RowKit
structure Wr where
 at_ : Int
 text : ByteArray
structure Dsk where
 safe : List ByteArray
 writes : List Wr
instance : Inhabited Wr := ⟨⟨0, ⟨#[]⟩⟩⟩
instance : Inhabited ByteArray := ⟨⟨#[]⟩⟩
def wrC (x : Wr) : List Value := [.int .i64 x.at_, .string x.text]
theorem wrC_flat : Flat wrC 2 := ⟨fun _ => rfl, fun _ u hu => by simp [wrC] at hu; rcases hu with rfl | rfl <;> rfl, by decide⟩
def isAt (n : Int) : Bool := decide (0 <= n /\ n < 37)
def ok32 (s : ByteArray) : Bool := decide (s.size = 32)
def wrOk (x : Wr) : Bool := isAt x.at_ && ok32 x.text
def goodD (d : Dsk) : Bool := decide (d.safe.length = 37) && decide (d.writes.length <= 200) && d.safe.all ok32 && d.writes.all wrOk
theorem goodD_iff (d : Dsk) : goodD d = true ↔ d.safe.length = 37 /\ d.writes.length <= 200 /\ d.safe.all ok32 = true /\ d.writes.all wrOk = true := by
 unfold goodD; simp only [Bool.and_eq_true, decide_eq_true_iff, and_assoc]
def RDisk (w : World) (v : Value) (d : Dsk) : Prop :=
 ∃ vs vw, v = .agg #[vs, vw] /\ RL strC w vs d.safe /\ RL wrC w vw d.writes /\ d.safe.length <= 8796093022208 /\ d.writes.length <= 5864062014805
theorem RDisk.below {w w' : World} {v : Value} {d : Dsk} (h : RDisk w v d) (hb : Below w.heap.size w w') : RDisk w' v d := by
 obtain ⟨vs, vw, hv, h1, h2, h3⟩ := h
 exact ⟨vs, vw, hv, h1.below hb, h2.below hb, h3⟩
def idxIs (b : Bool) (r : Int) : Prop := if b = true then r = -1 else 0 <= r
theorem all_step {α : Type} {p : α -> Bool} {l : List α} {k : Nat} (hk : k < l.length) (h : (l.take k).all p = true) (hp : p l[k] = true) : (l.take (k + 1)).all p = true := by
 rw [List.take_succ_eq_append_getElem hk, List.all_append, h]
 simp [hp]
theorem all_no {α : Type} {p : α -> Bool} {l : List α} {k : Nat} (hk : k < l.length) (hp : p l[k] = false) : l.all p = false := by
 rw [<- Bool.not_eq_true, List.all_eq_true]
 intro h
 rw [h _ (List.getElem_mem hk)] at hp
 exact Bool.noConfusion hp
theorem all_full {α : Type} {p : α -> Bool} {l : List α} {k : Nat} (hk : k <= l.length) (hn : ¬ k < l.length) (h : (l.take k).all p = true) : l.all p = true := by
 rw [List.take_of_length_le (by omega)] at h; exact h
def lastT (s : ByteArray) (n : Int) (ws : List Wr) : ByteArray := ws.foldl (fun r x => if x.at_ = n then x.text else r) s
theorem lastT_nil (s : ByteArray) (n : Int) : lastT s n [] = s := rfl
theorem lastT_step (s : ByteArray) (n : Int) (ws : List Wr) (x : Wr) : lastT s n (ws ++ [x]) = if x.at_ = n then x.text else lastT s n ws := by simp [lastT]
theorem lastT_hit (s : ByteArray) (n : Int) {ws : List Wr} {k : Nat} (hk : k < ws.length) (h : ws[k].at_ = n) : lastT s n (ws.take (k + 1)) = ws[k].text := by
 rw [List.take_succ_eq_append_getElem hk, lastT_step, if_pos h]
theorem lastT_miss (s : ByteArray) (n : Int) {ws : List Wr} {k : Nat} (hk : k < ws.length) (h : ws[k].at_ ≠ n) : lastT s n (ws.take (k + 1)) = lastT s n (ws.take k) := by
 rw [List.take_succ_eq_append_getElem hk, lastT_step, if_neg h]
def safeAt (d : Dsk) (n : Int) : ByteArray := d.safe.getD n.toNat ⟨#[]⟩
def readD (d : Dsk) (n : Int) : ByteArray := if goodD d = true /\ isAt n = true then lastT (safeAt d n) n d.writes else ⟨#[]⟩
def readE (d : Dsk) (n : Int) : Int := if goodD d = true /\ isAt n = true then 0 else 2
def afterL (s : ByteArray) (n : Int) (ws : List Wr) : List ByteArray := s :: (ws.filter (fun x => decide (x.at_ = n))).map (·.text)
theorem afterL_nil (s : ByteArray) (n : Int) : afterL s n [] = [s] := rfl
theorem afterL_step (s : ByteArray) (n : Int) (ws : List Wr) (x : Wr) : afterL s n (ws ++ [x]) = if x.at_ = n then afterL s n ws ++ [x.text] else afterL s n ws := by
 by_cases h : x.at_ = n <;> simp [afterL, h]
theorem afterL_len (s : ByteArray) (n : Int) (ws : List Wr) : (afterL s n ws).length <= ws.length + 1 := by
 simp only [afterL, List.length_cons, List.length_map]
 have := List.length_filter_le (fun x : Wr => decide (x.at_ = n)) ws
 omega
theorem afterL_hit (s : ByteArray) (n : Int) {ws : List Wr} {k : Nat} (hk : k < ws.length) (h : ws[k].at_ = n) : afterL s n (ws.take (k + 1)) = afterL s n (ws.take k) ++ [ws[k].text] := by
 rw [List.take_succ_eq_append_getElem hk, afterL_step, if_pos h]
theorem afterL_miss (s : ByteArray) (n : Int) {ws : List Wr} {k : Nat} (hk : k < ws.length) (h : ws[k].at_ ≠ n) : afterL s n (ws.take (k + 1)) = afterL s n (ws.take k) := by
 rw [List.take_succ_eq_append_getElem hk, afterL_step, if_neg h]
theorem after_last (s : ByteArray) (n : Int) (ws : List Wr) : (afterL s n ws).getLast? = some (lastT s n ws) := by
 have key : ∀ k, k <= ws.length -> (afterL s n (ws.take k)).getLast? = some (lastT s n (ws.take k)) := by
  intro k
  induction k with
  | zero => intro _; rfl
  | succ k ih =>
   intro hk
   by_cases h : ws[k].at_ = n
   ·rw [afterL_hit s n hk h, lastT_hit s n hk h]; simp
   ·rw [afterL_miss s n hk h, lastT_miss s n hk h]; exact ih (by omega)
 have := key ws.length (Nat.le_refl _)
 rwa [List.take_length] at this
def putE (d : Dsk) (n : Int) (t : ByteArray) : Int := if ¬ (goodD d = true /\ isAt n = true) then 2 else if t.size ≠ 32 then 1 else if 200 <= d.writes.length then 11 else 0
def putD (d : Dsk) (n : Int) (t : ByteArray) : Dsk := if putE d n t = 0 then ⟨d.safe, d.writes ++ [⟨n, t⟩]⟩ else d
structure Cpy where
 block : Int
 text : ByteArray
instance : Inhabited Cpy := ⟨⟨0, ⟨#[]⟩⟩⟩
def cpyC (x : Cpy) : List Value := [.int .i64 x.block, .string x.text]
theorem cpyC_flat : Flat cpyC 2 := ⟨fun _ => rfl, fun _ u hu => by simp [cpyC] at hu; rcases hu with rfl | rfl <;> rfl, by decide⟩
structure Hnd where
 on : Bool
 left : Int
structure Txn where
 seq : Int
 mt : List Cpy
 dt : List Cpy
 rev : List Int
 h0 : Hnd
 h1 : Hnd
 h2 : Hnd
def hnd0 : Hnd := ⟨false, 0⟩
def txn0 (seq : Int) : Txn := ⟨seq, [], [], [], hnd0, hnd0, hnd0⟩
def blks (l : List Cpy) : List Int := l.map (·.block)
def hasB (l : List Cpy) (b : Int) : Bool := l.any (fun c => c.block == b)
def inI (l : List Int) (b : Int) : Bool := l.any (fun x => x == b)
def getC (l : List Cpy) (b : Int) : Option ByteArray := (l.find? (fun c => c.block == b)).map (·.text)
def copiesB (l : List Cpy) : Bool := rise (blks l) && l.all (fun c => ok32 c.text)
def hOk (h : Hnd) : Bool := decide (0 <= h.left /\ h.left <= 24) && (h.on || decide (h.left = 0))
def seqOk (s : Int) : Bool := decide (1 <= s /\ s <= 2147483647)
def apart (t : Txn) : Bool := t.rev.all (fun b => !hasB t.mt b && !hasB t.dt b) && t.mt.all (fun c => !hasB t.dt c.block)
def goodT (t : Txn) : Bool := seqOk t.seq && copiesB t.mt && copiesB t.dt && rise t.rev && apart t && (hOk t.h0 && hOk t.h1 && hOk t.h2)
theorem goodT_iff (t : Txn) : goodT t = true ↔ seqOk t.seq = true /\ copiesB t.mt = true /\ copiesB t.dt = true /\ rise t.rev = true /\ apart t = true /\ hOk t.h0 = true /\ hOk t.h1 = true /\ hOk t.h2 = true := by
 unfold goodT; simp only [Bool.and_eq_true, and_assoc]
def txnV (t : Txn) (vm vd vr : Value) : Value := .agg #[.int .i64 t.seq, vm, vd, vr, .bool t.h0.on, .int .i64 t.h0.left, .bool t.h1.on, .int .i64 t.h1.left, .bool t.h2.on, .int .i64 t.h2.left]
def RTxn (w : World) (v : Value) (t : Txn) : Prop :=
 ∃ vm vd vr, v = txnV t vm vd vr /\ RL cpyC w vm t.mt /\ RL cpyC w vd t.dt /\ RL intC w vr t.rev /\ t.mt.length <= 5864062014805 /\ t.dt.length <= 5864062014805 /\ t.rev.length <= 17592186044160
theorem RTxn.below {w w' : World} {v : Value} {t : Txn} (h : RTxn w v t) (hb : Below w.heap.size w w') : RTxn w' v t := by
 obtain ⟨vm, vd, vr, hv, h1, h2, h3, h4⟩ := h
 exact ⟨vm, vd, vr, hv, h1.below hb, h2.below hb, h3.below hb, h4⟩
structure SlV where
 a : Option Addr
 n : Nat
 c : Nat
def SlV.val (x : SlV) : Value := .slice x.a x.n x.c
structure TV where
 t : Txn
 m : SlV
 d : SlV
 r : SlV
def tvC (x : TV) : List Value := [.int .i64 x.t.seq, x.m.val, x.d.val, x.r.val, .bool x.t.h0.on, .int .i64 x.t.h0.left, .bool x.t.h1.on, .int .i64 x.t.h1.left, .bool x.t.h2.on, .int .i64 x.t.h2.left]
theorem tvC_flat : Flat tvC 10 := ⟨fun _ => rfl, fun _ u hu => by simp [tvC, SlV.val] at hu; rcases hu with rfl | rfl | rfl | rfl | rfl | rfl | rfl | rfl | rfl | rfl <;> rfl, by decide⟩
def TV.val (x : TV) : Value := txnV x.t x.m.val x.d.val x.r.val
def TV.ok (w : World) (x : TV) : Prop := RTxn w x.val x.t
theorem RTxn.tv {w : World} {v : Value} {t : Txn} (h : RTxn w v t) : ∃ x : TV, x.t = t /\ v = x.val /\ x.ok w := by
 have hh := h
 obtain ⟨vm, vd, vr, rfl, h1, h2, h3, h4⟩ := h
 obtain ⟨a, c, rfl, _⟩ := h1.form
 obtain ⟨a2, c2, rfl, _⟩ := h2.form
 obtain ⟨a3, c3, rfl, _⟩ := h3.form
 exact ⟨⟨t, ⟨a, _, c⟩, ⟨a2, _, c2⟩, ⟨a3, _, c3⟩⟩, rfl, rfl, hh⟩
def RTxns (w : World) (v : Value) (l : List Txn) : Prop := ∃ xs : List TV, RL tvC w v xs /\ xs.map (·.t) = l /\ (∀ x ∈ xs, x.ok w) /\ xs.length <= 1099511627744
theorem RTxns.below {w w' : World} {v : Value} {l : List Txn} (h : RTxns w v l) (hb : Below w.heap.size w w') : RTxns w' v l := by
 obtain ⟨xs, h1, h2, h3, h4⟩ := h
 exact ⟨xs, h1.below hb, h2, fun x hx => (h3 x hx).below hb, h4⟩
theorem RTxns.nil (w : World) : RTxns w (.slice none 0 0) [] := ⟨[], RL.nil _ _, rfl, (fun _ h => absurd h List.not_mem_nil), by decide⟩
theorem RTxns.form {w : World} {v : Value} {l : List Txn} (h : RTxns w v l) : ∃ a c, v = .slice a l.length c /\ l.length <= 1099511627744 := by
 obtain ⟨xs, h1, rfl, h3, h4⟩ := h
 obtain ⟨a, c, hv, _⟩ := h1.form
 exact ⟨a, c, by rw [hv, List.length_map], by rw [List.length_map]; exact h4⟩
theorem RL.at10 {α : Type} {f : α -> List Value} {w : World} {a : Option Addr} {n cap : Nat} {l : List α} (g0 g1 g2 g3 g4 g5 g6 g7 g8 g9 : α -> Value) (hf : ∀ x, f x = [g0 x, g1 x, g2 x, g3 x, g4 x, g5 x, g6 x, g7 x, g8 x, g9 x]) (h : RL f w (.slice a n cap) l) {k : Nat} (hk : k < l.length) :
    ∃ b off, a = some ⟨b, off, none⟩ /\ w.cell? ⟨b, off + k * 10, none⟩ = some (g0 l[k]) /\ w.cell? ⟨b, off + k * 10 + 1, none⟩ = some (g1 l[k]) /\ w.cell? ⟨b, off + k * 10 + 2, none⟩ = some (g2 l[k]) /\ w.cell? ⟨b, off + k * 10 + 3, none⟩ = some (g3 l[k]) /\ w.cell? ⟨b, off + k * 10 + 4, none⟩ = some (g4 l[k]) /\ w.cell? ⟨b, off + k * 10 + 5, none⟩ = some (g5 l[k]) /\ w.cell? ⟨b, off + k * 10 + 6, none⟩ = some (g6 l[k]) /\ w.cell? ⟨b, off + k * 10 + 7, none⟩ = some (g7 l[k]) /\ w.cell? ⟨b, off + k * 10 + 8, none⟩ = some (g8 l[k]) /\ w.cell? ⟨b, off + k * 10 + 9, none⟩ = some (g9 l[k]) := by
 obtain ⟨b, off, ha, hc⟩ := RL.at (c := 10) (fun x => by rw [hf]; rfl) h hk (by decide)
 exact ⟨b, off, ha, hc 0 _ (by rw [hf]; rfl), hc 1 _ (by rw [hf]; rfl), hc 2 _ (by rw [hf]; rfl), hc 3 _ (by rw [hf]; rfl), hc 4 _ (by rw [hf]; rfl), hc 5 _ (by rw [hf]; rfl), hc 6 _ (by rw [hf]; rfl), hc 7 _ (by rw [hf]; rfl), hc 8 _ (by rw [hf]; rfl), hc 9 _ (by rw [hf]; rfl)⟩
theorem RTxns.at {w : World} {a : Option Addr} {n cap : Nat} {l : List Txn} (h : RTxns w (.slice a n cap) l) {k : Nat} (hk : k < l.length) :
    ∃ b off vm vd vr, a = some ⟨b, off, none⟩ /\ RTxn w (txnV l[k] vm vd vr) l[k] /\ w.cell? ⟨b, off + k * 10, none⟩ = some (.int .i64 l[k].seq) /\ w.cell? ⟨b, off + k * 10 + 1, none⟩ = some vm /\ w.cell? ⟨b, off + k * 10 + 2, none⟩ = some vd /\ w.cell? ⟨b, off + k * 10 + 3, none⟩ = some vr /\ w.cell? ⟨b, off + k * 10 + 4, none⟩ = some (.bool l[k].h0.on) /\ w.cell? ⟨b, off + k * 10 + 5, none⟩ = some (.int .i64 l[k].h0.left) /\ w.cell? ⟨b, off + k * 10 + 6, none⟩ = some (.bool l[k].h1.on) /\ w.cell? ⟨b, off + k * 10 + 7, none⟩ = some (.int .i64 l[k].h1.left) /\ w.cell? ⟨b, off + k * 10 + 8, none⟩ = some (.bool l[k].h2.on) /\ w.cell? ⟨b, off + k * 10 + 9, none⟩ = some (.int .i64 l[k].h2.left) := by
 obtain ⟨xs, h1, rfl, h3, h4⟩ := h
 have hk' : k < xs.length := by simpa using hk
 obtain ⟨b, off, ha, c0, c1, c2, c3, c4, c5, c6, c7, c8, c9⟩ := RL.at10 (fun x : TV => .int .i64 x.t.seq) (fun x => x.m.val) (fun x => x.d.val) (fun x => x.r.val) (fun x => .bool x.t.h0.on) (fun x => .int .i64 x.t.h0.left) (fun x => .bool x.t.h1.on) (fun x => .int .i64 x.t.h1.left) (fun x => .bool x.t.h2.on) (fun x => .int .i64 x.t.h2.left) (fun _ => rfl) h1 hk'
 have hx := h3 xs[k] (List.getElem_mem hk')
 simp only [List.getElem_map]
 exact ⟨b, off, _, _, _, ha, hx, c0, c1, c2, c3, c4, c5, c6, c7, c8, c9⟩
theorem hasB_get (l : List Cpy) (b : Int) : hasB l b = (getC l b).isSome := by
 unfold hasB getC
 rw [Option.isSome_map]
 induction l with
 | nil => rfl
 | cons c l ih =>
  rw [List.any_cons, List.find?_cons]
  cases c.block == b with
  | true => rfl
  | false => simpa using ih
theorem getC_step {l : List Cpy} {b : Int} {k : Nat} (hk : k < l.length) (h : hasB (l.take k) b = false) (hb : l[k].block = b) : getC l b = some l[k].text := by
 have hn : (l.take k).find? (fun c => c.block == b) = none := by
  rw [List.find?_eq_none]
  intro x hx hh
  unfold hasB at h
  rw [List.any_eq_false] at h
  exact h x hx hh
 have e : l.find? (fun c => c.block == b) = some l[k] := by
  conv => lhs; rw [<- List.take_append_drop k l]
  rw [List.find?_append, hn, Option.none_or, List.drop_eq_getElem_cons hk, List.find?_cons, beq_iff_eq.2 hb]
 unfold getC
 rw [e]; rfl
theorem hasB_step {l : List Cpy} {b : Int} {k : Nat} (hk : k < l.length) : hasB (l.take (k + 1)) b = (hasB (l.take k) b || (l[k].block == b)) := by
 unfold hasB
 rw [List.take_succ_eq_append_getElem hk, List.any_append]
 simp
theorem hasB_full {l : List Cpy} {b : Int} {k : Nat} (hk : ¬ k < l.length) : hasB (l.take k) b = hasB l b := by rw [List.take_of_length_le (by omega)]
theorem getC_none {l : List Cpy} {b : Int} (h : hasB l b = false) : getC l b = none := by
 rw [hasB_get] at h
 cases hg : getC l b with
 | none => rfl
 | some x => rw [hg] at h; cases h
theorem inI_step {l : List Int} {b : Int} {k : Nat} (hk : k < l.length) : inI (l.take (k + 1)) b = (inI (l.take k) b || (l[k] == b)) := by
 unfold inI
 rw [List.take_succ_eq_append_getElem hk, List.any_append]
 simp
theorem inI_full {l : List Int} {b : Int} {k : Nat} (hk : ¬ k < l.length) : inI (l.take k) b = inI l b := by rw [List.take_of_length_le (by omega)]
theorem inI_hit {l : List Int} {b : Int} {k : Nat} (hk : k < l.length) (hb : l[k] = b) : inI l b = true := by
 unfold inI
 exact List.any_eq_true.2 ⟨_, List.getElem_mem hk, beq_iff_eq.2 hb⟩
theorem hasB_hit {l : List Cpy} {b : Int} {k : Nat} (hk : k < l.length) (hb : l[k].block = b) : hasB l b = true := by
 unfold hasB
 exact List.any_eq_true.2 ⟨_, List.getElem_mem hk, beq_iff_eq.2 hb⟩
end Wb
namespace Go.Proofs.YtjhmfljlclajnadGreatDoor
open Go.RowKit Wb
theorem disk_at (n : Int) (w : World) : Calls Tryz.prog 47 #[.int .i64 n] w fun e w' => e = .returned (.bool (isAt n)) /\ w = w' := by
 by_cases h0 : 0 <= n
 ·by_cases h1 : n < 37
  ·have hv : isAt n = true := decide_eq_true ⟨h0, h1⟩
   rw [hv]
   go_enter Tryz.func47, Tryz.ntmps47
   go_wp2
   go_ret
   exact ⟨rfl, rfl⟩
  ·have hv : isAt n = false := decide_eq_false fun hh => h1 hh.2
   rw [hv]
   go_enter Tryz.func47, Tryz.ntmps47
   go_wp2
   go_ret
   exact ⟨rfl, rfl⟩
 ·have hv : isAt n = false := decide_eq_false fun hh => h0 hh.1
  rw [hv]
  go_enter Tryz.func47, Tryz.ntmps47
  go_wp2
  go_ret
  exact ⟨rfl, rfl⟩
theorem disk_Good1 (s : ByteArray) (w : World) : Calls Tryz.prog 73 #[.string s] w fun e w' => e = .returned (.bool (!ok32 s)) /\ w = w' := by
 by_cases h0 : s.size = 32
 ·have hv : ok32 s = true := decide_eq_true h0
  rw [hv]
  have h1 : ((s.size : Int) != 32) = false := by rw [h0]; rfl
  go_enter Tryz.func73, Tryz.ntmps73
  go_wp2
  go_ret
  exact ⟨rfl, rfl⟩
 ·have hv : ok32 s = false := decide_eq_false h0
  rw [hv]
  have h1 : ((s.size : Int) != 32) = true := bne_iff_ne.2 (by omega)
  go_enter Tryz.func73, Tryz.ntmps73
  go_wp2
  go_ret
  exact ⟨rfl, rfl⟩
theorem slices_IndexFunc (v : Value) (xs : List ByteArray) (w : World) (hx : RL strC w v xs) (hn : xs.length <= 8796093022208) :
    Calls Tryz.prog 104 #[v, .func (.func 73) #[] #[]] w fun e w' => (∃ r : Int, e = .returned (.int .i64 r) /\ idxIs (xs.all ok32) r) /\ w = w' := by
 obtain ⟨a, cap, rfl, c1, c2⟩ := hx.form
 have hno := fun k (hk : k < xs.length) (hp : ok32 xs[k] = false) => all_no hk hp
 have hful := fun k (hk : k <= xs.length) (hn : ¬ k < xs.length) (hp : (xs.take k).all ok32 = true) => all_full hk hn hp
 generalize xs.all ok32 = ai at *
 replace hno := hid hno
 replace hful := hid hful
 go_enter Tryz.func104, Tryz.ntmps104
 go_wp2
 go_loop [5, 8] (fun _ i => ∃ k : Nat, k <= xs.length /\ i = .int .i64 k /\ Hid ((xs.take k).all ok32 = true)) (fun _ i => xs.length - (intOf i).toNat)
 case atStart => exact ⟨0, Nat.zero_le _, rfl, rfl⟩
 case round =>
  obtain ⟨k, hk, rfl, hall⟩ := hrel
  by_cases hlt : k < xs.length
  ·obtain ⟨b, off, rfl, d0⟩ := RL.at1 (fun x => .string x) (fun _ => rfl) hx hlt
   have hG := fun w => disk_Good1 xs[k] w
   cases hb : ok32 xs[k]
   ·rw [hb] at hG
    obtain rfl := hno.out k hlt hb
    replace hG := hid hG
    clear hall hb
    generalize xs[k] = x at *
    go_wp2_with (go_at_call 73; refine (hG.out _).mono ?_; rintro e w1 ⟨rfl, rfl⟩)
    go_ret
    exact ⟨⟨_, rfl, Int.natCast_nonneg _⟩, rfl⟩
   ·rw [hb] at hG
    have hs := hid (all_step hlt hall.out hb)
    replace hG := hid hG
    clear hall hb
    generalize xs[k] = x at *
    go_wp2_with (go_at_call 73; refine (hG.out _).mono ?_; rintro e w1 ⟨rfl, rfl⟩)
    go_round
    case rel => exact ⟨k + 1, by omega, by go_num, hs.out⟩
    case measure => simp [intOf]; omega
  ·obtain rfl := hful.out k hk hlt hall.out
   clear hall
   go_wp2
   go_ret
   exact ⟨⟨_, rfl, rfl⟩, rfl⟩
theorem slices_ContainsFunc (v : Value) (xs : List ByteArray) (w : World) (hx : RL strC w v xs) (hn : xs.length <= 8796093022208) :
    Calls Tryz.prog 72 #[v, .func (.func 73) #[] #[]] w fun e w' => e = .returned (.bool (!xs.all ok32)) /\ w = w' := by
 have hI := slices_IndexFunc v xs w hx hn
 obtain ⟨a, cap, rfl, c1, c2⟩ := hx.form
 clear hx
 cases hb : xs.all ok32
 ·rw [hb] at hI
  replace hI := hid hI
  go_enter Tryz.func72, Tryz.ntmps72
  go_wp2_with (go_at_call 104; refine hI.out.mono ?_; rintro e w1 ⟨⟨r, rfl, hr⟩, rfl⟩; replace hr : 0 <= r := hr)
  go_ret
  exact ⟨rfl, rfl⟩
 ·rw [hb] at hI
  replace hI := hid hI
  go_enter Tryz.func72, Tryz.ntmps72
  go_wp2_with (go_at_call 104; refine hI.out.mono ?_; rintro e w1 ⟨⟨r, rfl, hr⟩, rfl⟩; obtain rfl : r = -1 := hr)
  go_ret
  exact ⟨rfl, rfl⟩
theorem disk_Good (d : Dsk) (v : Value) (w : World) (hd : RDisk w v d) :
    Calls Tryz.prog 46 #[v] w fun e w' => e = .returned (.bool (goodD d)) /\ Below w.heap.size w w' := by
 obtain ⟨vs, vw, rfl, hs, hw, n1, n2⟩ := hd
 obtain ⟨safe, writes⟩ := d
 dsimp only at *
 have hC := fun v w (hx : RL strC w v safe) => slices_ContainsFunc v safe w hx n1
 have hgi := goodD_iff ⟨safe, writes⟩
 dsimp only at hgi
 have hno : (¬ (safe.length = 37 /\ writes.length <= 200 /\ safe.all ok32 = true /\ writes.all wrOk = true)) -> goodD ⟨safe, writes⟩ = false := fun hh => by
  rw [<- Bool.not_eq_true]; exact fun h2 => hh (hgi.1 h2)
 have hyes := hgi.2
 clear hgi
 generalize goodD ⟨safe, writes⟩ = g at *
 replace hno := hid hno
 replace hyes := hid hyes
 obtain ⟨a, cap, rfl, _⟩ := hs.form
 obtain ⟨b, bcap, rfl, _⟩ := hw.form
 replace hs := hid hs
 replace hw := hid hw
 have hC0 := fun (hb : safe.all ok32 = true) => hC
 by_cases h37 : safe.length ≠ 37
 ·obtain rfl := hno.out (fun hh => h37 hh.1)
  have e1 : ((safe.length : Int) != 37) = true := bne_iff_ne.2 (by omega)
  clear hC hC0
  go_enter Tryz.func46, Tryz.ntmps46
  go_wp2
  go_ret
  exact ⟨rfl, by exact Zlo⟩
 replace h37 := Decidable.not_not.1 h37
 have e1 : ((safe.length : Int) != 37) = false := by rw [h37]; rfl
 by_cases h200 : ¬ writes.length <= 200
 ·obtain rfl := hno.out (fun hh => h200 hh.2.1)
  clear hC hC0
  go_enter Tryz.func46, Tryz.ntmps46
  go_wp2
  go_ret
  exact ⟨rfl, by exact Zlo⟩
 replace h200 := Decidable.not_not.1 h200
 clear hC0
 replace hC := hid hC
 replace h37 := hid h37
 have kb : Blk (w.alloc (.cells #[.slice a safe.length cap, .slice b writes.length bcap] 58)) w.heap.size #[.slice a safe.length cap, .slice b writes.length bcap] 58 := Blk.new w _ _
 have nf : 0 < w.heap.size + 1 := by omega
 go_enter Tryz.func46, Tryz.ntmps46
 go_wp2
 go_loopw [4, 18] (fun _ i wr => ∃ k : Nat, k <= writes.length /\ i = .int .i64 k /\ Hid ((writes.take k).all wrOk = true) /\ Blk wr w.heap.size #[.slice a safe.length cap, .slice b writes.length bcap] 58 /\ Below w.heap.size w wr) (fun _ i _ => writes.length - (intOf i).toNat)
 case atStart => exact ⟨0, Nat.zero_le _, rfl, rfl, kb, by exact Zlo⟩
 case round =>
  obtain ⟨k, hk, rfl, hall, kb, hnx⟩ := hrel
  have lt0 := kb.lt
  by_cases hlt : k < writes.length
  ·obtain ⟨b, off, rfl, d0, d1⟩ := RL.at2 (fun x => .int .i64 x.at_) (fun x => .string x.text) (fun _ => rfl) (hw.out.below hnx) hlt
   have lt1 := World.block_lt_of_cell? _ _ d0
   dsimp only at lt1
   have hA := fun w => disk_at writes[k].at_ w
   by_cases ha : isAt writes[k].at_ = true
   ·rw [ha] at hA
    replace hA := hid hA
    by_cases ht : ok32 writes[k].text = true
    ·have hst := hid (all_step hlt hall.out (by unfold wrOk; rw [ha, ht]; rfl))
     have e2 : ((writes[k].text.size : Int) != 32) = false := by rw [of_decide_eq_true ht]; rfl
     clear ha ht hall hno hyes
     generalize writes[k] = x at *
     go_wp2_with (go_at_call 47; refine (hA.out _).mono ?_; rintro e w1 ⟨rfl, rfl⟩)
     go_roundw
     case rel => exact ⟨k + 1, by omega, by go_num, hst, kb.alloc _, allocB hnx (by omega) _⟩
     case measure => simp [intOf]; omega
    ·obtain rfl := hno.out (fun hh => by
       have := all_no hlt (p := wrOk) (by unfold wrOk; rw [ha, Bool.not_eq_true _ |>.mp ht]; rfl)
       rw [this] at hh; exact Bool.noConfusion hh.2.2.2)
     have e2 : ((writes[k].text.size : Int) != 32) = true := bne_iff_ne.2 (fun hh => ht (decide_eq_true (by omega)))
     clear ha ht hall hno hyes
     generalize writes[k] = x at *
     go_wp2_with (go_at_call 47; refine (hA.out _).mono ?_; rintro e w1 ⟨rfl, rfl⟩)
     go_ret
     exact ⟨rfl, allocB hnx (by omega) _⟩
   ·obtain rfl := hno.out (fun hh => by
      have := all_no hlt (p := wrOk) (by unfold wrOk; rw [Bool.not_eq_true _ |>.mp ha]; rfl)
      rw [this] at hh; exact Bool.noConfusion hh.2.2.2)
    rw [Bool.not_eq_true _ |>.mp ha] at hA
    replace hA := hid hA
    clear ha hall hno hyes
    generalize writes[k] = x at *
    go_wp2_with (go_at_call 47; refine (hA.out _).mono ?_; rintro e w1 ⟨rfl, rfl⟩)
    go_ret
    exact ⟨rfl, allocB hnx (by omega) _⟩
  ·have hf := hid (all_full hk hlt hall.out)
   have c0 := kb.cell 0
   simp only [Zga, Zgb, Zgc] at c0
   clear hall
   cases hb : safe.all ok32
   ·obtain rfl := hno.out (fun hh => by rw [hb] at hh; exact Bool.noConfusion hh.2.2.1)
    rw [hb] at hC
    clear hno hyes hb
    go_wp2_with (go_at_call 72; refine (hC.out _ _ (hs.out.below hnx)).mono ?_; rintro e w1 ⟨rfl, rfl⟩)
    go_ret
    exact ⟨rfl, hnx⟩
   ·obtain rfl := hyes.out ⟨h37.out, h200, hb, hf.out⟩
    rw [hb] at hC
    clear hno hyes hb
    go_wp2_with (go_at_call 72; refine (hC.out _ _ (hs.out.below hnx)).mono ?_; rintro e w1 ⟨rfl, rfl⟩)
    go_ret
    exact ⟨rfl, hnx⟩
theorem elemStr : Elem Tryz.prog 55 9 1 16 := Elem.mk' (z := .string ⟨#[]⟩) Tryz.underlying55 (by kernel_rfl) rfl
theorem elemWr : Elem Tryz.prog 56 61 2 24 := Elem.mk' (z := .agg #[.int .i64 0, .string ⟨#[]⟩]) Tryz.underlying56 (by kernel_rfl) rfl
theorem clone_Writes (l : List Wr) (v : Value) (w : World) (hl : RL wrC w v l) (hn : l.length <= 5864062014805) :
    Calls Tryz.prog 39 #[v] w fun e w' => ∃ v', e = .returned v' /\ Wb.Own wrC w.heap.size 61 2 w' v' l /\ Below w.heap.size w w' := by
 obtain ⟨a, cap, rfl, c1, c2⟩ := hl.form
 have q24 : ∀ (w : World) (a : Option Addr) (n c n' c' : Nat), (binOp .eql 56 (.slice a n c) (.slice none n' c')).run Tryz.prog w = .ok (.bool a.isNone) w := fun w a n c n' c' => Lib.run_eql_slice_nil w _ _ a n c n' c' Tryz.underlying56
 cases a with
 | none =>
  have h0 : l = [] := by
   obtain ⟨a', cap', hv, _, _, h3⟩ := hl
   rcases h3 with h3 | ⟨b, off, ha, _⟩
   ·cases l with
    | nil => rfl
    | cons x l => simp [wrC] at h3
   ·simp only [Value.slice.injEq] at hv
    rw [ha] at hv
    exact absurd hv.1 (by simp)
  subst h0
  go_enter Tryz.func39, Tryz.ntmps39
  go_wp2
  go_ret
  exact ⟨_, rfl, Own.nil _ _ _ _ _, by exact Zlo⟩
 | some a =>
  replace hl := hid hl
  go_enter Tryz.func39, Tryz.ntmps39
  go_wp2_with (at_builtin; (refine wpList_app rfl _ _ _ rfl w.heap.size _ 2 24 wrC_flat elemWr (Own.lit wrC_flat w.heap.size _ w [] (Nat.le_refl _) (Nat.zero_le _) rfl rfl rfl) rfl l (hl.out.below (by exact Zlo)) rfl ?k1 ?k2 ?k3 ?k4))
  all_goals try (case k1 => simp; omega)
  all_goals try (case k2 => simp; omega)
  all_goals try (case k3 => simp)
  case k4 =>
   intro v7 w7 hown7 hgrow
   have hb : Below w.heap.size w w7 := (allocB (Below.refl _ _) (Nat.le_refl _) _).grown hgrow (by simp) (fun k hk => by simp [Value.ownBlock] at hk; omega)
   go_wp2
   go_ret
   exact ⟨_, rfl, hown7, hb⟩
theorem clone_Strings (l : List ByteArray) (v : Value) (w : World) (hl : RL strC w v l) (hn : l.length <= 8796093022208) :
    Calls Tryz.prog 38 #[v] w fun e w' => ∃ v', e = .returned v' /\ Wb.Own strC w.heap.size 9 1 w' v' l /\ Below w.heap.size w w' := by
 obtain ⟨a, cap, rfl, c1, c2⟩ := hl.form
 have q24 : ∀ (w : World) (a : Option Addr) (n c n' c' : Nat), (binOp .eql 55 (.slice a n c) (.slice none n' c')).run Tryz.prog w = .ok (.bool a.isNone) w := fun w a n c n' c' => Lib.run_eql_slice_nil w _ _ a n c n' c' Tryz.underlying55
 cases a with
 | none =>
  have h0 : l = [] := by
   obtain ⟨a', cap', hv, _, _, h3⟩ := hl
   rcases h3 with h3 | ⟨b, off, ha, _⟩
   ·cases l with
    | nil => rfl
    | cons x l => simp [strC] at h3
   ·simp only [Value.slice.injEq] at hv
    rw [ha] at hv
    exact absurd hv.1 (by simp)
  subst h0
  go_enter Tryz.func38, Tryz.ntmps38
  go_wp2
  go_ret
  exact ⟨_, rfl, Own.nil _ _ _ _ _, by exact Zlo⟩
 | some a =>
  replace hl := hid hl
  go_enter Tryz.func38, Tryz.ntmps38
  go_wp2_with (at_builtin; (refine wpList_app rfl _ _ _ rfl w.heap.size _ 1 16 strC_flat elemStr (Own.lit strC_flat w.heap.size _ w [] (Nat.le_refl _) (Nat.zero_le _) rfl rfl rfl) rfl l (hl.out.below (by exact Zlo)) rfl ?k1 ?k2 ?k3 ?k4))
  all_goals try (case k1 => simp; omega)
  all_goals try (case k2 => simp; omega)
  all_goals try (case k3 => simp)
  case k4 =>
   intro v7 w7 hown7 hgrow
   have hb : Below w.heap.size w w7 := (allocB (Below.refl _ _) (Nat.le_refl _) _).grown hgrow (by simp) (fun k hk => by simp [Value.ownBlock] at hk; omega)
   go_wp2
   go_ret
   exact ⟨_, rfl, hown7, hb⟩
end Go.Proofs.YtjhmfljlclajnadGreatDoor
namespace Wb
open Go Go.ChangeShapes Go.WideShapes Go.ChangeAt Go.RowKit Go.Joins Go.Deep
theorem flat_at {α : Type} {f : α -> List Value} {c : Nat} (hf : ∀ x, (f x).length = c) : ∀ (l : List α) (j : Nat) (u : Value), (l.flatMap f)[j]? = some u -> ∃ i x r, l[i]? = some x /\ j = i * c + r /\ (f x)[r]? = some u /\ r < c
 | [], j, u, h => by simp at h
 | y :: l, j, u, h => by
  rw [List.flatMap_cons] at h
  by_cases hj : j < c
  ·rw [List.getElem?_append_left (by rw [hf]; exact hj)] at h
   exact ⟨0, y, j, rfl, by omega, h, hj⟩
  ·rw [List.getElem?_append_right (by rw [hf]; omega), hf] at h
   obtain ⟨i, x, r, h1, h2, h3, h4⟩ := flat_at hf l _ u h
   exact ⟨i + 1, x, r, by simpa using h1, by rw [Nat.succ_mul]; omega, h3, h4⟩
end Wb
namespace Go.Proofs.YtjhmfljlclajnadGreatDoor
open Go.ChangeShapes Go.WideShapes Go.ChangeAt Go.RowKit Go.Joins Wb
instance : Inhabited Tag := ⟨⟨0, false⟩⟩
end Go.Proofs.YtjhmfljlclajnadGreatDoor
namespace Wb
open Go Go.ChangeShapes Go.WideShapes Go.ChangeAt Go.RowKit Go.Joins Go.Deep
section
variable {H : Type} {enc : TypeId × Value -> H} {P : Program} {w : World} {base : Nat} {spare : Nat -> Bool} {held : Bool}
theorem read_RLq {α : Type} [Inhabited α] {f : α -> List Value} {c : Nat} {Q : α -> DataW H -> Prop} (hf : ∀ x, (f x).length = c) (h0 : 0 < c) {t e : TypeId} {fuel : Nat} {cs : List Value} {x : DataW H × List MemPlace} (ht : P.underlying t = some (.slice e)) (hc : P.cellsOf e = c)
    (hread : ∀ n cs' y, DataW.trod enc P w base spare held n e cs' = some y -> cs'.length = c -> ∃ x : α, cs' = f x /\ Q x y.1) (h : DataW.trod enc P w base spare held fuel t cs = some x) :
    ∃ (v : Value) (l : List α), cs = [v] /\ RL f w v l /\ ((x.1 = .nil /\ l = []) \/ ∃ el sp, x.1 = .slice el sp /\ el.length = l.length /\ ∀ (i : Nat) (z : α), l[i]? = some z -> ∃ y, el[i]? = some y /\ Q z y) := by
 rcases open_slice ht h with ⟨rfl, rfl⟩ | ⟨a, len, cap, m, n, D, Pl, rfl, hb, hl, hm, hmm, rfl, hx⟩
 ·exact ⟨_, [], rfl, RL.nil f w, .inl ⟨rfl, rfl⟩⟩
 have hlm : len <= m := by rw [hmm]; split <;> omega
 have each : ∀ i, i < len -> ∃ x : α, (∀ r, r < c -> w.cell? (a.add (i * c + r)) = (f x)[r]?) /\ Q x (D i) := by
  intro i hi
  obtain ⟨cs', h1, h2⟩ := hx i (by omega)
  rw [hc] at h1
  obtain ⟨_, hlen, hcell⟩ := World.cells?_some h1
  obtain ⟨x, rfl, hq⟩ := hread _ _ _ h2 hlen
  exact ⟨x, fun r hr => by have := hcell r hr; rwa [add_add] at this, hq⟩
 obtain ⟨X, hX⟩ := choose_lt each
 refine ⟨_, (List.range len).map X, rfl, ?_, .inr ⟨_, _, rfl, by simp, ?_⟩⟩
 rotate_left
 ·intro i z hz
  rw [List.getElem?_map, Option.map_eq_some_iff] at hz
  obtain ⟨k, hk, rfl⟩ := hz
  obtain ⟨hkl, rfl⟩ := List.getElem?_eq_some_iff.1 hk
  simp only [List.length_range] at hkl
  refine ⟨D i, by rw [List.getElem?_map, hk]; simp, ?_⟩
  simpa using (hX i hkl).2
 refine ⟨some a, cap, by simp, by simpa using hl, hm, ?_⟩
 by_cases hlen : len = 0
 ·subst hlen; left; rfl
 right
 have hspot : a.spot = none := by
  have h1 := (hX 0 (by omega)).1 0 h0
  have h2 : (f (X 0))[0]? ≠ none := by rw [Ne, List.getElem?_eq_none_iff, hf]; omega
  obtain ⟨u, hu⟩ := Option.ne_none_iff_exists'.1 h2
  rw [hu] at h1
  simpa [Addr.add] using World.cell?_spot h1
 obtain ⟨b, off, spot⟩ := a
 obtain rfl : spot = none := hspot
 refine ⟨b, off, rfl, fun j u hj => ?_⟩
 obtain ⟨i, x, r, h1, rfl, h3, h4⟩ := flat_at hf _ _ _ hj
 rw [List.getElem?_map, Option.map_eq_some_iff] at h1
 obtain ⟨k, hk, rfl⟩ := h1
 obtain ⟨hkl, rfl⟩ := List.getElem?_eq_some_iff.1 hk
 simp only [List.length_range] at hkl
 simp only [List.getElem_range] at h3
 have := (hX i hkl).1 r h4
 rw [h3, Addr.add_lit] at this
 exact this
end
instance : Inhabited TV := ⟨⟨txn0 0, ⟨none, 0, 0⟩, ⟨none, 0, 0⟩, ⟨none, 0, 0⟩⟩⟩
end Wb
namespace Wb
open Go Go.RowKit
def dropC (l : List Cpy) (b : Int) : List Cpy := l.filter (fun c => c.block != b)
def viewN (f : Int -> Option ByteArray) (n : Nat) : List Cpy := (List.range n).filterMap fun (k : Nat) => (f k).map fun t => (⟨k, t⟩ : Cpy)
def viewL (f : Int -> Option ByteArray) : List Cpy := viewN f 12
def turnT (t : Txn) (o : Option ByteArray) (b : Int) : Option ByteArray := match getC t.mt b with | some s => some s | none => if inI t.rev b then none else o
def newestB (l : List Txn) (b : Int) : Option ByteArray := l.foldl (fun o t => turnT t o b) none
def newestL (l : List Txn) : List Cpy := viewL (newestB l)
theorem newestB_snoc (l : List Txn) (t : Txn) (b : Int) : newestB (l ++ [t]) b = turnT t (newestB l b) b := by simp [newestB]
theorem newestB_step {l : List Txn} {k : Nat} (hk : k < l.length) (b : Int) : newestB (l.take (k + 1)) b = turnT l[k] (newestB (l.take k) b) b := by
 rw [List.take_succ_eq_append_getElem hk, newestB_snoc]
theorem viewN_succ (f : Int -> Option ByteArray) (n : Nat) : viewN f (n + 1) = viewN f n ++ ((f n).map fun t => (⟨n, t⟩ : Cpy)).toList := by
 unfold viewN
 rw [List.range_succ, List.filterMap_append]
 cases h : (f n).map fun t => (⟨n, t⟩ : Cpy) <;> simp [h]
theorem viewN_len (f : Int -> Option ByteArray) (n : Nat) : (viewN f n).length <= n := by
 unfold viewN
 exact Nat.le_trans (List.length_filterMap_le _ _) (by simp)
theorem viewN_mem {f : Int -> Option ByteArray} {n : Nat} {c : Cpy} : c ∈ viewN f n ↔ ∃ k : Nat, k < n /\ c.block = k /\ f k = some c.text := by
 unfold viewN
 rw [List.mem_filterMap]
 constructor
 ·rintro ⟨k, hk, hc⟩
  rw [Option.map_eq_some_iff] at hc
  obtain ⟨t, ht, rfl⟩ := hc
  exact ⟨k, List.mem_range.1 hk, rfl, ht⟩
 ·rintro ⟨k, hk, hb, ht⟩
  refine ⟨k, List.mem_range.2 hk, ?_⟩
  rw [ht, Option.map_some]
  obtain ⟨b, t⟩ := c
  simp only at hb
  subst hb
  rfl
theorem getC_viewN {f : Int -> Option ByteArray} {n : Nat} (b : Int) : getC (viewN f n) b = if 0 <= b /\ b < n then f b else none := by
 induction n with
 | zero =>
  rw [if_neg (by omega)]
  rfl
 | succ n ih =>
  rw [viewN_succ]
  have happ : ∀ (l1 l2 : List Cpy), getC (l1 ++ l2) b = (getC l1 b).or (getC l2 b) := fun l1 l2 => by
   unfold getC
   rw [List.find?_append]
   cases List.find? (fun c => c.block == b) l1 <;> rfl
  rw [happ, ih]
  by_cases h1 : 0 <= b /\ b < n
  ·rw [if_pos h1, if_pos (by omega)]
   cases hf : f b with
   | some s => rfl
   | none =>
    cases hg : f n with
    | none => rfl
    | some s =>
     have : ((n : Int) == b) = false := beq_eq_false_iff_ne.2 (by omega)
     simp [getC, this]
  ·rw [if_neg h1, Option.none_or]
   by_cases h2 : b = n
   ·subst h2
    rw [if_pos (by omega)]
    cases hg : f n with
    | none => rfl
    | some s => simp [getC]
   ·rw [if_neg (by omega)]
    cases hg : f n with
    | none => rfl
    | some s =>
     have : ((n : Int) == b) = false := beq_eq_false_iff_ne.2 (fun h => h2 h.symm)
     simp [getC, this]
theorem getC_viewL {f : Int -> Option ByteArray} {b : Int} (h0 : 0 <= b) (h1 : b < 12) : getC (viewL f) b = f b := by
 unfold viewL
 rw [getC_viewN, if_pos ⟨h0, by simpa using h1⟩]
theorem rise_get {l : List Int} (h : rise l = true) {k : Nat} (hk : k < l.length) : 0 <= l[k] /\ l[k] < 12 /\ ∀ i (hi : i < k), l[i] < l[k] := by
 have hr := (rise_iff l).1 h
 have hg : ∀ j (hj : j < l.length), l.getD j 0 = l[j] := fun j hj => by simp [hj]
 have hlt : ∀ d i, i + d < l.length -> 0 < d -> l.getD i 0 < l.getD (i + d) 0 := by
  intro d
  induction d with
  | zero => intro i _ h; omega
  | succ d ih =>
   intro i hi _
   have h1 := (hr (i + (d + 1)) hi).2.2 (by omega)
   rw [show i + (d + 1) - 1 = i + d by omega] at h1
   by_cases hd : 0 < d
   ·have := ih i (by omega) hd
    omega
   ·obtain rfl : d = 0 := by omega
    simpa using h1
 have h0 := hr k hk
 refine ⟨by rw [<- hg k hk]; exact h0.1, by rw [<- hg k hk]; exact h0.2.1, fun i hi => ?_⟩
 have := hlt (k - i) i (by omega) (by omega)
 rw [show i + (k - i) = k by omega, hg i (by omega), hg k hk] at this
 exact this
theorem copies_get {l : List Cpy} (h : copiesB l = true) {k : Nat} (hk : k < l.length) : isBlk l[k].block = true /\ l[k].text.size = 32 /\ (∀ i (hi : i < k), l[i].block < l[k].block) /\ hasB (l.take k) l[k].block = false := by
 unfold copiesB at h
 rw [Bool.and_eq_true] at h
 have hk' : k < (blks l).length := by simpa [blks] using hk
 obtain ⟨g1, g2, g3⟩ := rise_get h.1 hk'
 have e : ∀ j (hj : j < l.length), (blks l)[j]'(by simpa [blks] using hj) = l[j].block := fun j hj => by simp [blks]
 rw [e k hk] at g1 g2
 have g4 : ∀ i (hi : i < k), l[i].block < l[k].block := fun i hi => by
  have := g3 i hi
  rw [e k hk, e i (by omega)] at this
  exact this
 refine ⟨decide_eq_true ⟨g1, g2⟩, of_decide_eq_true (List.all_eq_true.1 h.2 _ (List.getElem_mem hk)), g4, ?_⟩
 unfold hasB
 rw [List.any_eq_false]
 intro c hc
 obtain ⟨i, hi, rfl⟩ := List.mem_iff_getElem.1 hc
 rw [List.length_take] at hi
 rw [List.getElem_take]
 have := g4 i (by omega)
 simp only [beq_iff_eq]
 omega
theorem copies_len {l : List Cpy} (h : copiesB l = true) : l.length <= 12 := by
 by_cases hl : l.length <= 12
 ·exact hl
 ·exfalso
  have hk : ∀ k (hk : k < l.length), (k : Int) <= l[k].block := by
   intro k
   induction k with
   | zero => intro hk; have := of_decide_eq_true (copies_get h hk).1; exact this.1
   | succ k ih =>
    intro hk
    have h1 := ih (by omega)
    have h2 := (copies_get h hk).2.2.1 k (by omega)
    omega
  have h12 := of_decide_eq_true (copies_get h (k := 12) (by omega)).1
  have := hk 12 (by omega)
  omega
theorem rise_len {l : List Int} (h : rise l = true) : l.length <= 12 := by
 by_cases hl : l.length <= 12
 ·exact hl
 ·exfalso
  have hk : ∀ k (hk : k < l.length), (k : Int) <= l[k] := by
   intro k
   induction k with
   | zero => intro hk; exact (rise_get h hk).1
   | succ k ih =>
    intro hk
    have h1 := ih (by omega)
    have h2 := (rise_get h hk).2.2 k (by omega)
    omega
  have h12 := (rise_get h (k := 12) (by omega)).2.1
  have := hk 12 (by omega)
  omega
def metaF (g : Int -> Option ByteArray) (m : List Cpy) : Int -> Option ByteArray := m.foldl (fun f c x => if x = c.block then some c.text else f x) g
theorem metaF_step (g : Int -> Option ByteArray) {m : List Cpy} {k : Nat} (hk : k < m.length) : (fun x => if x = m[k].block then some m[k].text else metaF g (m.take k) x) = metaF g (m.take (k + 1)) := by
 unfold metaF
 rw [List.take_succ_eq_append_getElem hk, List.foldl_append]
 rfl
theorem metaF_good {m : List Cpy} (h : copiesB m = true) (g : Int -> Option ByteArray) (x : Int) : metaF g m x = match getC m x with | some s => some s | none => g x := by
 have key : ∀ k, k <= m.length -> metaF g (m.take k) x = match getC (m.take k) x with | some s => some s | none => g x := by
  intro k
  induction k with
  | zero => intro _; rfl
  | succ k ih =>
   intro hk
   have hk' : k < m.length := by omega
   rw [<- metaF_step g hk']
   have hd := (copies_get h hk').2.2.2
   have hget : getC (m.take (k + 1)) x = (getC (m.take k) x).or (if m[k].block = x then some m[k].text else none) := by
    unfold getC
    rw [List.take_succ_eq_append_getElem hk', List.find?_append]
    cases hf : (m.take k).find? (fun c => c.block == x) with
    | some c => rfl
    | none =>
     by_cases hb : m[k].block = x
     ·simp [hb]
     ·have : (m[k].block == x) = false := beq_eq_false_iff_ne.2 hb
      simp [hb, this]
   rw [hget]
   show (if x = m[k].block then some m[k].text else metaF g (m.take k) x) = _
   by_cases hb : x = m[k].block
   ·have hn := getC_none hd
    rw [<- hb] at hn
    rw [if_pos hb, hn, if_pos hb.symm]
    rfl
   ·rw [if_neg hb, if_neg (fun hh => hb hh.symm), Option.or_none]
    exact ih (by omega)
 have := key m.length (Nat.le_refl _)
 rwa [List.take_length] at this
theorem good_meta {t : Txn} (h : goodT t = true) {k : Nat} (hk : k < t.mt.length) : inI t.rev t.mt[k].block = false /\ hasB t.dt t.mt[k].block = false := by
 obtain ⟨_, _, _, _, ha, _⟩ := (goodT_iff t).1 h
 unfold apart at ha
 rw [Bool.and_eq_true, List.all_eq_true, List.all_eq_true] at ha
 constructor
 ·unfold inI
  rw [List.any_eq_false]
  intro x hx hh
  rw [beq_iff_eq] at hh
  subst hh
  have := ha.1 _ hx
  rw [Bool.and_eq_true] at this
  have h2 := hasB_hit hk rfl
  rw [h2] at this
  cases this.1
 ·have := ha.2 _ (List.getElem_mem hk)
  simpa using this
def cmpI (x y : Int) : Int := if x < y then -1 else if y < x then 1 else 0
theorem cmpI_lt {x y : Int} (h : x < y) : cmpI x y = -1 := if_pos h
theorem cmpI_gt {x y : Int} (h : y < x) : cmpI x y = 1 := by unfold cmpI; rw [if_neg (by omega), if_pos h]
theorem cmpI_eq {x y : Int} (h : x = y) : cmpI x y = 0 := by unfold cmpI; rw [if_neg (by omega), if_neg (by omega)]
def posB (l : List Cpy) (b : Int) : Nat := (l.filter (fun c => decide (c.block < b))).length
theorem pos_of {l : List Cpy} {b : Int} {i : Nat} (hi : i <= l.length) (h1 : ∀ k (hk : k < l.length), k < i -> l[k].block < b) (h2 : ∀ k (hk : k < l.length), i <= k -> b <= l[k].block) : posB l b = i := by
 unfold posB
 have e : l.filter (fun c => decide (c.block < b)) = l.take i := by
  conv => lhs; rw [<- List.take_append_drop i l, List.filter_append]
  rw [List.filter_eq_self.2, List.filter_eq_nil_iff.2, List.append_nil]
  ·intro c hc
   obtain ⟨k, hk, rfl⟩ := List.mem_iff_getElem.1 hc
   rw [List.getElem_drop]
   rw [List.length_drop] at hk
   have := h2 (i + k) (by omega) (by omega)
   simpa using this
  ·intro c hc
   obtain ⟨k, hk, rfl⟩ := List.mem_iff_getElem.1 hc
   rw [List.getElem_take]
   rw [List.length_take] at hk
   exact decide_eq_true (h1 k (by omega) (by omega))
 rw [e, List.length_take]
 omega
theorem rises {l : List Cpy} (h : rise (blks l) = true) : ∀ k (hk : k < l.length) i (hi : i < k), l[i].block < l[k].block := by
 intro k hk i hi
 have hk' : k < (blks l).length := by simpa [blks] using hk
 have := (rise_get h hk').2.2 i hi
 simpa [blks] using this
theorem has_of {l : List Cpy} {b : Int} {i : Nat} (hs : ∀ k (hk : k < l.length) i (hi : i < k), l[i].block < l[k].block) (h1 : ∀ k (hk : k < l.length), k < i -> l[k].block < b) (h2 : ∀ k (hk : k < l.length), i <= k -> b <= l[k].block) :
    hasB l b = true ↔ ∃ h : i < l.length, l[i].block = b := by
 unfold hasB
 rw [List.any_eq_true]
 constructor
 ·rintro ⟨c, hc, hb⟩
  obtain ⟨k, hk, rfl⟩ := List.mem_iff_getElem.1 hc
  have hb : l[k].block = b := beq_iff_eq.1 hb
  have hik : i <= k := by
   by_cases hki : k < i
   ·have := h1 k hk hki; omega
   ·omega
  refine ⟨by omega, ?_⟩
  by_cases e : i = k
  ·subst e; exact hb
  ·have := hs k hk i (by omega)
   have := h2 i (by omega) (Nat.le_refl _)
   omega
 ·rintro ⟨h, hb⟩
  exact ⟨_, List.getElem_mem h, beq_iff_eq.2 hb⟩
theorem rise_pw (l : List Int) : rise l = true ↔ l.Pairwise (· < ·) /\ ∀ x ∈ l, 0 <= x /\ x < 12 := by
 constructor
 ·intro h
  refine ⟨List.pairwise_iff_getElem.2 fun i j hi hj hij => (rise_get h hj).2.2 i hij, fun x hx => ?_⟩
  obtain ⟨k, hk, rfl⟩ := List.mem_iff_getElem.1 hx
  exact ⟨(rise_get h hk).1, (rise_get h hk).2.1⟩
 ·rintro ⟨h1, h2⟩
  rw [rise_iff]
  intro k hk
  have e := h2 l[k] (List.getElem_mem hk)
  refine ⟨by simpa [List.getD_eq_getElem?_getD, hk] using e.1, by simpa [List.getD_eq_getElem?_getD, hk] using e.2, fun h0 => ?_⟩
  have := List.pairwise_iff_getElem.1 h1 (k - 1) k (by omega) hk (by omega)
  simpa [List.getD_eq_getElem?_getD, hk, show k - 1 < l.length by omega] using this
theorem copies_pw (l : List Cpy) : copiesB l = true ↔ (blks l).Pairwise (· < ·) /\ ∀ c ∈ l, isBlk c.block = true /\ c.text.size = 32 := by
 unfold copiesB
 rw [Bool.and_eq_true, rise_pw, List.all_eq_true]
 constructor
 ·rintro ⟨⟨h1, h2⟩, h3⟩
  exact ⟨h1, fun c hc => ⟨decide_eq_true (h2 _ (List.mem_map_of_mem hc)), of_decide_eq_true (h3 c hc)⟩⟩
 ·rintro ⟨h1, h2⟩
  refine ⟨⟨h1, fun x hx => ?_⟩, fun c hc => decide_eq_true (h2 c hc).2⟩
  obtain ⟨c, hc, rfl⟩ := List.mem_map.1 hx
  exact of_decide_eq_true (h2 c hc).1
theorem mem_getC : ∀ {l : List Cpy}, (blks l).Pairwise (· < ·) -> ∀ c : Cpy, c ∈ l ↔ getC l c.block = some c.text
 | [], _, c => by simp [getC]
 | x :: l, h, c => by
  rw [blks, List.map_cons, List.pairwise_cons] at h
  have ih := mem_getC (l := l) h.2 c
  rw [List.mem_cons]
  by_cases e : x.block = c.block
  ·have hg : getC (x :: l) c.block = some x.text := by simp [getC, e]
   rw [hg]
   constructor
   ·rintro (rfl | hc)
    ·rfl
    ·have := h.1 c.block (List.mem_map_of_mem hc); omega
   ·intro ht
    left
    obtain ⟨b, t⟩ := x; obtain ⟨b', t'⟩ := c
    simp only [Option.some.injEq] at ht
    simp only at e
    rw [e, ht]
  ·have hg : getC (x :: l) c.block = getC l c.block := by
     unfold getC
     rw [List.find?_cons_of_neg (by simpa using e)]
   rw [hg, <- ih]
   constructor
   ·rintro (rfl | hc)
    ·exact absurd rfl e
    ·exact hc
   ·exact .inr
theorem getC_of_mem {l : List Cpy} (h : (blks l).Pairwise (· < ·)) {c : Cpy} (hc : c ∈ l) : getC l c.block = some c.text := (mem_getC h c).1 hc
theorem hasB_iff {l : List Cpy} {b : Int} : hasB l b = true ↔ ∃ c ∈ l, c.block = b := by simp [hasB]
theorem inI_iff {l : List Int} {b : Int} : inI l b = true ↔ b ∈ l := by simp [inI]
theorem inI_no {l : List Int} {b : Int} : inI l b = false ↔ b ∉ l := by rw [<- inI_iff]; simp
theorem viewN_pw (f : Int -> Option ByteArray) (n : Nat) : (blks (viewN f n)).Pairwise (· < ·) := by
 induction n with
 | zero => exact List.Pairwise.nil
 | succ n ih =>
  rw [viewN_succ, blks, List.map_append]
  refine List.pairwise_append.2 ⟨ih, ?_, ?_⟩
  ·cases f n <;> simp
  ·intro a ha b hb
   obtain ⟨c, hc, rfl⟩ := List.mem_map.1 ha
   obtain ⟨d, hd, rfl⟩ := List.mem_map.1 hb
   obtain ⟨k, hk, he, _⟩ := viewN_mem.1 hc
   cases hf : f n with
   | none => rw [hf] at hd; simp at hd
   | some t => rw [hf] at hd; simp at hd; subst hd; simp only; omega
theorem viewL_copies {f : Int -> Option ByteArray} (h : ∀ b t, isBlk b = true -> f b = some t -> t.size = 32) : copiesB (viewL f) = true := by
 rw [copies_pw]
 refine ⟨viewN_pw f 12, fun c hc => ?_⟩
 obtain ⟨k, hk, he, ht⟩ := viewN_mem.1 hc
 have hb : isBlk c.block = true := decide_eq_true (by omega)
 exact ⟨hb, h c.block c.text hb (by rw [he]; exact ht)⟩
theorem getC_blk {l : List Cpy} (h : copiesB l = true) {b : Int} {t : ByteArray} (hg : getC l b = some t) : isBlk b = true /\ t.size = 32 := by
 obtain ⟨h1, h2⟩ := (copies_pw l).1 h
 have := (mem_getC h1 ⟨b, t⟩).2 hg
 exact h2 _ this
theorem pos_at {l : List Cpy} (b : Int) (h : rise (blks l) = true) : (∀ k (hk : k < l.length), k < posB l b -> l[k].block < b) /\ (∀ k (hk : k < l.length), posB l b <= k -> b <= l[k].block) /\ posB l b <= l.length := by
 have hr := rises h
 have hle : l.findIdx (fun c => !decide (c.block < b)) <= l.length := List.findIdx_le_length
 have h1 : ∀ k (hk : k < l.length), k < l.findIdx (fun c => !decide (c.block < b)) -> l[k].block < b := fun k hk hlt => by
  have := List.not_of_lt_findIdx hlt
  simpa using this
 have h2 : ∀ k (hk : k < l.length), l.findIdx (fun c => !decide (c.block < b)) <= k -> b <= l[k].block := fun k hk hge => by
  have hlt : l.findIdx (fun c => !decide (c.block < b)) < l.length := by omega
  have h3 := List.findIdx_getElem (w := hlt)
  have h4 : b <= l[l.findIdx (fun c => !decide (c.block < b))].block := by simpa using h3
  by_cases e : l.findIdx (fun c => !decide (c.block < b)) = k
  ·simp only [e] at h4; exact h4
  ·have := hr k hk _ (show l.findIdx (fun c => !decide (c.block < b)) < k by omega)
   omega
 rw [pos_of hle h1 h2]
 exact ⟨h1, h2, hle⟩
theorem has_at {l : List Cpy} {b : Int} (h : rise (blks l) = true) : hasB l b = true ↔ ∃ hk : posB l b < l.length, l[posB l b].block = b := by
 obtain ⟨h1, h2, _⟩ := pos_at b h
 exact has_of (rises h) h1 h2
def putL (l : List Cpy) (b : Int) (s : ByteArray) : List Cpy := if hasB l b then l.set (posB l b) ⟨b, s⟩ else l.take (posB l b) ++ ⟨b, s⟩ :: l.drop (posB l b)
theorem copies_rise {l : List Cpy} (h : copiesB l = true) : rise (blks l) = true := by
 unfold copiesB at h; rw [Bool.and_eq_true] at h; exact h.1
theorem put_pw {l : List Cpy} (b : Int) (s : ByteArray) (h : copiesB l = true) : (blks (putL l b s)).Pairwise (· < ·) := by
 have hr := copies_rise h
 obtain ⟨h1, h2, hle⟩ := pos_at b hr
 have hpw := ((copies_pw l).1 h).1
 unfold putL
 cases hb : hasB l b with
 | true =>
  rw [if_pos rfl]
  obtain ⟨hk, he⟩ := (has_at hr).1 hb
  have e : blks (l.set (posB l b) ⟨b, s⟩) = blks l := by
   unfold blks
   rw [List.map_set]
   apply List.ext_getElem (by simp)
   intro i h3 h4
   rw [List.getElem_set]
   split
   ·rename_i e; subst e; simp [he]
   ·rfl
  rw [e]; exact hpw
 | false =>
  rw [if_neg (by decide)]
  have hne : ∀ c ∈ l, c.block ≠ b := fun c hc e => by
   rw [hasB_iff.2 ⟨c, hc, e⟩] at hb; cases hb
  have hsplit : (blks (l.take (posB l b)) ++ blks (l.drop (posB l b))).Pairwise (· < ·) := by
   unfold blks; rw [<- List.map_append, List.take_append_drop]; exact hpw
  obtain ⟨p1, p2, p3⟩ := List.pairwise_append.1 hsplit
  have q1 : ∀ x ∈ blks (l.take (posB l b)), x < b := fun x hx => by
   obtain ⟨c, hc, rfl⟩ := List.mem_map.1 hx
   obtain ⟨k, hk, rfl⟩ := List.mem_iff_getElem.1 hc
   rw [List.length_take] at hk
   rw [List.getElem_take]; exact h1 k (by omega) (by omega)
  have q2 : ∀ x ∈ blks (l.drop (posB l b)), b < x := fun x hx => by
   obtain ⟨c, hc, rfl⟩ := List.mem_map.1 hx
   have hn := hne c (List.mem_of_mem_drop hc)
   obtain ⟨k, hk, rfl⟩ := List.mem_iff_getElem.1 hc
   rw [List.length_drop] at hk
   rw [List.getElem_drop] at hn ⊢
   have := h2 (posB l b + k) (by omega) (by omega)
   omega
  unfold blks at *
  rw [List.map_append, List.map_cons]
  refine List.pairwise_append.2 ⟨p1, List.pairwise_cons.2 ⟨q2, p2⟩, fun x hx y hy => ?_⟩
  rcases List.mem_cons.1 hy with rfl | hy
  ·exact q1 x hx
  ·exact p3 x hx y hy
theorem put_mem {l : List Cpy} (b : Int) (s : ByteArray) (h : copiesB l = true) (c : Cpy) : c ∈ putL l b s ↔ c = ⟨b, s⟩ \/ (c ∈ l /\ c.block ≠ b) := by
 have hr := copies_rise h
 have hpw := ((copies_pw l).1 h).1
 unfold putL
 cases hb : hasB l b with
 | true =>
  rw [if_pos rfl]
  obtain ⟨hk, he⟩ := (has_at hr).1 hb
  have hrs := rises hr
  rw [List.mem_iff_getElem]
  constructor
  ·rintro ⟨i, hi, rfl⟩
   rw [List.length_set] at hi
   rw [List.getElem_set]
   split
   ·exact .inl rfl
   ·rename_i hne
    refine .inr ⟨List.getElem_mem hi, fun e => hne ?_⟩
    rcases Nat.lt_trichotomy i (posB l b) with hlt | heq | hgt
    ·have := hrs _ hk i hlt; omega
    ·exact heq.symm
    ·have := hrs i hi _ hgt; omega
  ·rintro (rfl | ⟨hc, hne⟩)
   ·exact ⟨posB l b, by simpa using hk, by simp⟩
   ·obtain ⟨i, hi, rfl⟩ := List.mem_iff_getElem.1 hc
    refine ⟨i, by simpa using hi, ?_⟩
    rw [List.getElem_set, if_neg]
    intro e; subst e; exact hne he
 | false =>
  rw [if_neg (by decide)]
  have hne : ∀ c ∈ l, c.block ≠ b := fun c hc e => by
   rw [hasB_iff.2 ⟨c, hc, e⟩] at hb; cases hb
  have hl : c ∈ l ↔ c ∈ l.take (posB l b) \/ c ∈ l.drop (posB l b) := by
   rw [<- List.mem_append, List.take_append_drop]
  rw [List.mem_append, List.mem_cons, hl]
  constructor
  ·rintro (hc | rfl | hc)
   ·exact .inr ⟨.inl hc, hne c (List.mem_of_mem_take hc)⟩
   ·exact .inl rfl
   ·exact .inr ⟨.inr hc, hne c (List.mem_of_mem_drop hc)⟩
  ·rintro (rfl | ⟨hc | hc, _⟩)
   ·exact .inr (.inl rfl)
   ·exact .inl hc
   ·exact .inr (.inr hc)
theorem put_copies {l : List Cpy} {b : Int} {s : ByteArray} (h : copiesB l = true) (hb : isBlk b = true) (hs : s.size = 32) : copiesB (putL l b s) = true := by
 rw [copies_pw]
 refine ⟨put_pw b s h, fun c hc => ?_⟩
 rcases (put_mem b s h c).1 hc with rfl | ⟨hc, _⟩
 ·exact ⟨hb, hs⟩
 ·exact ((copies_pw l).1 h).2 c hc
theorem put_get {l : List Cpy} (b : Int) (s : ByteArray) (h : copiesB l = true) (x : Int) : getC (putL l b s) x = if x = b then some s else getC l x := by
 have hp := put_pw b s h
 have hpw := ((copies_pw l).1 h).1
 have hm := mem_getC hp
 by_cases e : x = b
 ·subst e
  rw [if_pos rfl]
  exact (hm ⟨x, s⟩).1 ((put_mem x s h _).2 (.inl rfl))
 ·rw [if_neg e]
  cases hg : getC l x with
  | some t =>
   exact (hm ⟨x, t⟩).1 ((put_mem b s h _).2 (.inr ⟨(mem_getC hpw ⟨x, t⟩).2 hg, e⟩))
  | none =>
   cases hg2 : getC (putL l b s) x with
   | none => rfl
   | some t =>
    rcases (put_mem b s h _).1 ((hm ⟨x, t⟩).2 hg2) with e2 | ⟨hc, _⟩
    ·exact absurd (congrArg Cpy.block e2) e
    ·rw [(mem_getC hpw ⟨x, t⟩).1 hc] at hg; cases hg
theorem put_has {l : List Cpy} (b : Int) (s : ByteArray) (h : copiesB l = true) (x : Int) : hasB (putL l b s) x = (decide (x = b) || hasB l x) := by
 rw [hasB_get, hasB_get, put_get b s h]
 by_cases e : x = b
 ·simp [e]
 ·simp [e]
theorem drop_copies {l : List Cpy} (b : Int) (h : copiesB l = true) : copiesB (dropC l b) = true := by
 obtain ⟨h1, h2⟩ := (copies_pw l).1 h
 rw [copies_pw]
 unfold dropC
 refine ⟨?_, fun c hc => h2 c (List.mem_filter.1 hc).1⟩
 exact h1.sublist (List.Sublist.map _ List.filter_sublist)
theorem drop_has (l : List Cpy) (b x : Int) : hasB (dropC l b) x = (hasB l x && decide (x ≠ b)) := by
 rw [Bool.eq_iff_iff, Bool.and_eq_true, hasB_iff, hasB_iff, decide_eq_true_eq]
 unfold dropC
 constructor
 ·rintro ⟨c, hc, rfl⟩
  rw [List.mem_filter] at hc
  exact ⟨⟨c, hc.1, rfl⟩, by simpa using hc.2⟩
 ·rintro ⟨⟨c, hc, rfl⟩, hne⟩
  exact ⟨c, List.mem_filter.2 ⟨hc, by simpa using hne⟩, rfl⟩
theorem drop_get (l : List Cpy) (b x : Int) : getC (dropC l b) x = if x = b then none else getC l x := by
 by_cases e : x = b
 ·rw [if_pos e]
  refine getC_none ?_
  rw [drop_has]; simp [e]
 ·rw [if_neg e]
  unfold getC dropC
  rw [List.find?_filter]
  congr 1
  congr 1
  funext c
  by_cases e2 : c.block = x
  ·subst e2; simp [e]
  ·simp [e2]
def posI (l : List Int) (b : Int) : Nat := (l.filter (fun x => decide (x < b))).length
def insI (l : List Int) (b : Int) : List Int := l.take (posI l b) ++ b :: l.drop (posI l b)
theorem posI_at {l : List Int} (b : Int) (h : l.Pairwise (· < ·)) : l.take (posI l b) = l.filter (fun x => decide (x < b)) /\ l.drop (posI l b) = l.filter (fun x => !decide (x < b)) := by
 induction l with
 | nil => exact ⟨rfl, rfl⟩
 | cons x l ih =>
  rw [List.pairwise_cons] at h
  obtain ⟨i1, i2⟩ := ih h.2
  by_cases e : x < b
  ·have hp : posI (x :: l) b = posI l b + 1 := by simp [posI, e]
   rw [hp, List.take_succ_cons, List.drop_succ_cons, i1, i2]
   simp [e]
  ·have hf : l.filter (fun x => decide (x < b)) = [] := List.filter_eq_nil_iff.2 fun y hy => by
     have := h.1 y hy; simp; omega
   have hp : posI (x :: l) b = 0 := by simp [posI, e, hf]
   rw [hp]
   have hg : l.filter (fun x => !decide (x < b)) = l := List.filter_eq_self.2 fun y hy => by
    have := h.1 y hy; simp; omega
   simp [e, hf, hg]
theorem posI_le (l : List Int) (b : Int) : posI l b <= l.length := List.length_filter_le _ _
theorem ins_mem (l : List Int) (b x : Int) : x ∈ insI l b ↔ x = b \/ x ∈ l := by
 unfold insI
 rw [List.mem_append, List.mem_cons]
 have : x ∈ l ↔ x ∈ l.take (posI l b) \/ x ∈ l.drop (posI l b) := by rw [<- List.mem_append, List.take_append_drop]
 rw [this]
 constructor
 ·rintro (h | h | h) <;> simp [h]
 ·rintro (h | h | h) <;> simp [h]
theorem ins_pw {l : List Int} {b : Int} (h : l.Pairwise (· < ·)) (hn : b ∉ l) : (insI l b).Pairwise (· < ·) := by
 obtain ⟨h1, h2⟩ := posI_at b h
 unfold insI
 rw [h1, h2]
 refine List.pairwise_append.2 ⟨h.filter _, List.pairwise_cons.2 ⟨fun y hy => ?_, h.filter _⟩, fun x hx y hy => ?_⟩
 ·obtain ⟨hy, hy2⟩ := List.mem_filter.1 hy
  have : y ≠ b := fun e => hn (e ▸ hy)
  simp at hy2; omega
 ·obtain ⟨_, hx2⟩ := List.mem_filter.1 hx
  rcases List.mem_cons.1 hy with rfl | hy
  ·simpa using hx2
  ·obtain ⟨_, hy2⟩ := List.mem_filter.1 hy
   simp at hx2 hy2; omega
theorem ins_rise {l : List Int} {b : Int} (h : rise l = true) (hb : isBlk b = true) (hn : inI l b = false) : rise (insI l b) = true := by
 obtain ⟨h1, h2⟩ := (rise_pw l).1 h
 rw [rise_pw]
 refine ⟨ins_pw h1 (inI_no.1 hn), fun x hx => ?_⟩
 rcases (ins_mem l b x).1 hx with rfl | hx
 ·exact of_decide_eq_true hb
 ·exact h2 x hx
def offI (l : List Int) (b : Int) : List Int := l.filter (fun x => !decide (x = b))
theorem off_mem (l : List Int) (b x : Int) : x ∈ offI l b ↔ x ∈ l /\ x ≠ b := by simp [offI, List.mem_filter]
theorem off_rise {l : List Int} (b : Int) (h : rise l = true) : rise (offI l b) = true := by
 obtain ⟨h1, h2⟩ := (rise_pw l).1 h
 rw [rise_pw]
 exact ⟨h1.filter _, fun x hx => h2 x ((off_mem l b x).1 hx).1⟩
theorem off_in (l : List Int) (b x : Int) : inI (offI l b) x = (inI l x && decide (x ≠ b)) := by
 rw [Bool.eq_iff_iff, Bool.and_eq_true, inI_iff, inI_iff, off_mem, decide_eq_true_eq]
theorem ins_in (l : List Int) (b x : Int) : inI (insI l b) x = (decide (x = b) || inI l x) := by
 rw [Bool.eq_iff_iff, Bool.or_eq_true, inI_iff, inI_iff, ins_mem, decide_eq_true_eq]
def askedI (t : Txn) : Int := IntKind.i64.wrap (IntKind.i64.wrap (IntKind.i64.wrap (((t.mt.length + t.rev.length : Nat) : Int) + t.h0.left) + t.h1.left) + t.h2.left)
def openB (t : Txn) : Bool := t.h0.on || t.h1.on || t.h2.on
def isHnd (h : Int) : Bool := decide (0 <= h /\ h < 3)
theorem notGood' {t : Txn} (h : seqOk t.seq = false \/ copiesB t.mt = false \/ copiesB t.dt = false \/ rise t.rev = false \/ apart t = false \/ hOk t.h0 = false \/ hOk t.h1 = false \/ hOk t.h2 = false) : goodT t = false := by
 cases hg : goodT t
 ·rfl
 ·obtain ⟨h1, h2, h3, h4, h5, h6, h7, h8⟩ := (goodT_iff t).1 hg
  rw [h1, h2, h3, h4, h5, h6, h7, h8] at h
  simp at h
theorem hOk_iff' (h : Hnd) : hOk h = true ↔ 0 <= h.left /\ h.left <= 24 /\ (h.on = true \/ h.left = 0) := by
 unfold hOk; simp [and_assoc]
def getH (t : Txn) (h : Int) : Hnd := if h = 0 then t.h0 else if h = 1 then t.h1 else t.h2
def setH (t : Txn) (h : Int) (x : Hnd) : Txn := if h = 0 then { t with h0 := x } else if h = 1 then { t with h1 := x } else { t with h2 := x }
def stopE (t : Txn) (h : Int) : Int := if goodT t = false then 2 else if ¬ (0 <= h /\ h <= 2) \/ (getH t h).on = false then 4 else 0
def stopT (t : Txn) (h : Int) : Txn := if stopE t h = 0 then setH t h hnd0 else t
theorem stop_bad {t : Txn} {h : Int} (hg : goodT t = false) : stopE t h = 2 /\ stopT t h = t := by
 have e : stopE t h = 2 := by unfold stopE; rw [if_pos hg]
 exact ⟨e, by unfold stopT; rw [e, if_neg (by decide)]⟩
theorem stop_none {t : Txn} {h : Int} (hg : goodT t = true) (hn : ¬ (0 <= h /\ h <= 2) \/ (getH t h).on = false) : stopE t h = 4 /\ stopT t h = t := by
 have e : stopE t h = 4 := by unfold stopE; rw [if_neg (by rw [hg]; decide), if_pos hn]
 exact ⟨e, by unfold stopT; rw [e, if_neg (by decide)]⟩
theorem stop_ok {t : Txn} {h : Int} (hg : goodT t = true) (hh : 0 <= h /\ h <= 2) (hn : (getH t h).on = true) : stopE t h = 0 /\ stopT t h = setH t h hnd0 := by
 have e : stopE t h = 0 := by unfold stopE; rw [if_neg (by rw [hg]; decide), if_neg (by rintro (h1 | h1); exact h1 hh; rw [hn] at h1; cases h1)]
 exact ⟨e, by unfold stopT; rw [if_pos e]⟩
def begE (t : Txn) (h n free : Int) : Int := if goodT t = false then 2 else if ¬ (0 <= h /\ h <= 2) then 4 else if (getH t h).on = true then 5 else if n < 0 \/ 12 < n then 2 else if 24 < askedI t + n \/ free < mostN (askedI t + n) then 6 else 0
def begT (t : Txn) (h n free : Int) : Txn := if begE t h n free = 0 then setH t h ⟨true, n⟩ else t
theorem begT_not {t : Txn} {h n free : Int} {k : Int} (hk : k ≠ 0) (e : begE t h n free = k) : begE t h n free = k /\ begT t h n free = t := ⟨e, by unfold begT; rw [e, if_neg hk]⟩
theorem beg_bad {t : Txn} {h n free : Int} (hg : goodT t = false) : begE t h n free = 2 /\ begT t h n free = t :=
 begT_not (by decide) (by unfold begE; rw [if_pos hg])
theorem beg_none {t : Txn} {h n free : Int} (hg : goodT t = true) (hn : ¬ (0 <= h /\ h <= 2)) : begE t h n free = 4 /\ begT t h n free = t :=
 begT_not (by decide) (by unfold begE; rw [if_neg (by rw [hg]; decide), if_pos hn])
theorem beg_on {t : Txn} {h n free : Int} (hg : goodT t = true) (hh : 0 <= h /\ h <= 2) (ho : (getH t h).on = true) : begE t h n free = 5 /\ begT t h n free = t :=
 begT_not (by decide) (by unfold begE; rw [if_neg (by rw [hg]; decide), if_neg (fun x => x hh), if_pos ho])
theorem beg_far {t : Txn} {h n free : Int} (hg : goodT t = true) (hh : 0 <= h /\ h <= 2) (ho : (getH t h).on = false) (hn : n < 0 \/ 12 < n) : begE t h n free = 2 /\ begT t h n free = t :=
 begT_not (by decide) (by unfold begE; rw [if_neg (by rw [hg]; decide), if_neg (fun x => x hh), if_neg (by rw [ho]; decide), if_pos hn])
theorem beg_full {t : Txn} {h n free : Int} (hg : goodT t = true) (hh : 0 <= h /\ h <= 2) (ho : (getH t h).on = false) (hn : ¬ (n < 0 \/ 12 < n)) (hf : 24 < askedI t + n \/ free < mostN (askedI t + n)) : begE t h n free = 6 /\ begT t h n free = t :=
 begT_not (by decide) (by unfold begE; rw [if_neg (by rw [hg]; decide), if_neg (fun x => x hh), if_neg (by rw [ho]; decide), if_neg hn, if_pos hf])
theorem beg_ok {t : Txn} {h n free : Int} (hg : goodT t = true) (hh : 0 <= h /\ h <= 2) (ho : (getH t h).on = false) (hn : ¬ (n < 0 \/ 12 < n)) (hf : ¬ (24 < askedI t + n \/ free < mostN (askedI t + n))) : begE t h n free = 0 /\ begT t h n free = setH t h ⟨true, n⟩ := by
 have e : begE t h n free = 0 := by unfold begE; rw [if_neg (by rw [hg]; decide), if_neg (fun x => x hh), if_neg (by rw [ho]; decide), if_neg hn, if_neg hf]
 exact ⟨e, by unfold begT; rw [if_pos e]⟩
theorem hnd_of_good {t : Txn} (h : goodT t = true) : (0 <= t.h0.left /\ t.h0.left <= 24) /\ (0 <= t.h1.left /\ t.h1.left <= 24) /\ (0 <= t.h2.left /\ t.h2.left <= 24) := by
 have no : ∀ {x : Bool}, x ≠ false -> x = true := fun {x} hx => by cases x; exact absurd rfl hx; rfl
 have a0 := (hOk_iff' _).1 (no fun hf => by rw [notGood' (.inr (.inr (.inr (.inr (.inr (.inl hf))))))] at h; cases h)
 have a1 := (hOk_iff' _).1 (no fun hf => by rw [notGood' (.inr (.inr (.inr (.inr (.inr (.inr (.inl hf)))))))] at h; cases h)
 have a2 := (hOk_iff' _).1 (no fun hf => by rw [notGood' (.inr (.inr (.inr (.inr (.inr (.inr (.inr hf)))))))] at h; cases h)
 exact ⟨⟨a0.1, a0.2.1⟩, ⟨a1.1, a1.2.1⟩, a2.1, a2.2.1⟩
theorem asked_sum {t : Txn} (h : goodT t = true) (h1 : t.mt.length <= 5864062014805) (h2 : t.rev.length <= 17592186044160) : askedI t = (t.mt.length : Int) + t.rev.length + t.h0.left + t.h1.left + t.h2.left := by
 obtain ⟨⟨a0, a0'⟩, ⟨a1, a1'⟩, a2, a2'⟩ := hnd_of_good h
 unfold askedI
 rw [IntWalk.i64_in (((t.mt.length + t.rev.length : Nat) : Int) + t.h0.left) (by omega), IntWalk.i64_in (((t.mt.length + t.rev.length : Nat) : Int) + t.h0.left + t.h1.left) (by omega), IntWalk.i64_in _ (by omega)]
 omega
theorem asked_low {t : Txn} (h : goodT t = true) (h1 : t.mt.length <= 5864062014805) (h2 : t.rev.length <= 17592186044160) : 0 <= askedI t /\ askedI t <= 30000000000000 := by
 obtain ⟨⟨a0, a0'⟩, ⟨a1, a1'⟩, a2, a2'⟩ := hnd_of_good h
 rw [asked_sum h h1 h2]
 omega
def mayE (t : Txn) (h b : Int) : Int := if goodT t = false then 2 else if ¬ (0 <= h /\ h <= 2) \/ (getH t h).on = false \/ isBlk b = false then 4 else 0
theorem may_bad {t : Txn} {h b : Int} (hg : goodT t = false) : mayE t h b = 2 := by unfold mayE; rw [if_pos hg]
theorem may_none {t : Txn} {h b : Int} (hg : goodT t = true) (hn : ¬ (0 <= h /\ h <= 2) \/ (getH t h).on = false \/ isBlk b = false) : mayE t h b = 4 := by unfold mayE; rw [if_neg (by rw [hg]; decide), if_pos hn]
theorem may_ok {t : Txn} {h b : Int} (hg : goodT t = true) (hh : 0 <= h /\ h <= 2) (ho : (getH t h).on = true) (hb : isBlk b = true) : mayE t h b = 0 := by
 unfold mayE; rw [if_neg (by rw [hg]; decide), if_neg]
 rintro (h1 | h1 | h1)
 ·exact h1 hh
 ·rw [ho] at h1; cases h1
 ·rw [hb] at h1; cases h1
theorem ne32 {s : ByteArray} (h : ((s.size : Int) != 32) = false) : s.size = 32 := by
 have : (s.size : Int) = 32 := by simpa using h
 omega
theorem ne32' {s : ByteArray} (h : ((s.size : Int) != 32) = true) : ¬ s.size = 32 := fun e => by rw [e] at h; cases h
def owed (t : Txn) (b : Int) : Bool := !(hasB t.mt b || inI t.rev b)
def payE (t : Txn) (h b : Int) : Int := if owed t b = true /\ (getH t h).left = 0 then 7 else 0
def payT (t : Txn) (h b : Int) : Txn := if owed t b = true then setH t h ⟨(getH t h).on, (getH t h).left - 1⟩ else t
def chgE (t : Txn) (h b : Int) (s : ByteArray) : Int := if mayE t h b ≠ 0 then mayE t h b else if s.size ≠ 32 then 1 else if hasB t.dt b = true then 8 else payE t h b
def chgT (t : Txn) (h b : Int) (s : ByteArray) : Txn := if chgE t h b s = 0 then { payT t h b with mt := putL t.mt b s, rev := offI t.rev b } else t
def filE (t : Txn) (h b : Int) (s : ByteArray) : Int := if mayE t h b ≠ 0 then mayE t h b else if s.size ≠ 32 then 1 else if owed t b = false then 8 else 0
def filT (t : Txn) (h b : Int) (s : ByteArray) : Txn := if filE t h b s = 0 then { t with dt := putL t.dt b s } else t
def rvkE (t : Txn) (h b : Int) : Int := if mayE t h b ≠ 0 then mayE t h b else if inI t.rev b = true then 5 else payE t h b
def rvkT (t : Txn) (h b : Int) : Txn := if rvkE t h b = 0 then { payT t h b with mt := dropC t.mt b, dt := dropC t.dt b, rev := insI t.rev b } else t
theorem setH_same (t : Txn) (h : Int) (x : Hnd) : (setH t h x).seq = t.seq /\ (setH t h x).mt = t.mt /\ (setH t h x).dt = t.dt /\ (setH t h x).rev = t.rev := by
 unfold setH; split
 ·exact ⟨rfl, rfl, rfl, rfl⟩
 ·split <;> exact ⟨rfl, rfl, rfl, rfl⟩
theorem payT_same (t : Txn) (h b : Int) : (payT t h b).seq = t.seq /\ (payT t h b).mt = t.mt /\ (payT t h b).dt = t.dt /\ (payT t h b).rev = t.rev := by
 unfold payT; split
 ·exact setH_same _ _ _
 ·exact ⟨rfl, rfl, rfl, rfl⟩
def payU (t : Txn) (h b : Int) : Txn := if payE t h b = 0 then payT t h b else t
theorem payU_zero {t : Txn} {h b : Int} (e : payE t h b = 0) : payU t h b = payT t h b := if_pos e
theorem payU_same (t : Txn) (h b : Int) : (payU t h b).seq = t.seq /\ (payU t h b).mt = t.mt /\ (payU t h b).dt = t.dt /\ (payU t h b).rev = t.rev := by
 unfold payU; split
 ·exact payT_same _ _ _
 ·exact ⟨rfl, rfl, rfl, rfl⟩
theorem chg_may {t : Txn} {h b : Int} {s : ByteArray} (hm : ¬ mayE t h b = 0) : chgE t h b s = mayE t h b /\ chgT t h b s = t := by
 have e : chgE t h b s = mayE t h b := by unfold chgE; rw [if_pos hm]
 exact ⟨e, by unfold chgT; rw [e, if_neg hm]⟩
theorem chg_form {t : Txn} {h b : Int} {s : ByteArray} (hm : mayE t h b = 0) (hs : ¬ s.size = 32) : chgE t h b s = 1 /\ chgT t h b s = t := by
 have e : chgE t h b s = 1 := by unfold chgE; rw [if_neg (by simp [hm]), if_pos hs]
 exact ⟨e, by unfold chgT; rw [e, if_neg (by decide)]⟩
theorem chg_role {t : Txn} {h b : Int} {s : ByteArray} (hm : mayE t h b = 0) (hs : s.size = 32) (hd : hasB t.dt b = true) : chgE t h b s = 8 /\ chgT t h b s = t := by
 have e : chgE t h b s = 8 := by unfold chgE; rw [if_neg (by simp [hm]), if_neg (by simp [hs]), if_pos hd]
 exact ⟨e, by unfold chgT; rw [e, if_neg (by decide)]⟩
theorem chg_pay {t : Txn} {h b : Int} {s : ByteArray} (hm : mayE t h b = 0) (hs : s.size = 32) (hd : hasB t.dt b = false) : chgE t h b s = payE t h b := by
 unfold chgE; rw [if_neg (by simp [hm]), if_neg (by simp [hs]), if_neg (by simp [hd])]
theorem chg_broke {t : Txn} {h b : Int} {s : ByteArray} (hm : mayE t h b = 0) (hs : s.size = 32) (hd : hasB t.dt b = false) (hp : ¬ payE t h b = 0) : chgE t h b s = payE t h b /\ chgT t h b s = t :=
 ⟨chg_pay hm hs hd, by unfold chgT; rw [chg_pay hm hs hd, if_neg hp]⟩
theorem chg_ok {t : Txn} {h b : Int} {s : ByteArray} (hm : mayE t h b = 0) (hs : s.size = 32) (hd : hasB t.dt b = false) (hp : payE t h b = 0) : chgE t h b s = 0 /\ chgT t h b s = { payU t h b with mt := putL t.mt b s, rev := offI t.rev b } := by
 have e : chgE t h b s = 0 := by rw [chg_pay hm hs hd, hp]
 exact ⟨e, by unfold chgT; rw [if_pos e, payU_zero hp]⟩
theorem fil_may {t : Txn} {h b : Int} {s : ByteArray} (hm : ¬ mayE t h b = 0) : filE t h b s = mayE t h b /\ filT t h b s = t := by
 have e : filE t h b s = mayE t h b := by unfold filE; rw [if_pos hm]
 exact ⟨e, by unfold filT; rw [e, if_neg hm]⟩
theorem fil_form {t : Txn} {h b : Int} {s : ByteArray} (hm : mayE t h b = 0) (hs : ¬ s.size = 32) : filE t h b s = 1 /\ filT t h b s = t := by
 have e : filE t h b s = 1 := by unfold filE; rw [if_neg (by simp [hm]), if_pos hs]
 exact ⟨e, by unfold filT; rw [e, if_neg (by decide)]⟩
theorem fil_role {t : Txn} {h b : Int} {s : ByteArray} (hm : mayE t h b = 0) (hs : s.size = 32) (hd : (hasB t.mt b || inI t.rev b) = true) : filE t h b s = 8 /\ filT t h b s = t := by
 have e : filE t h b s = 8 := by unfold filE owed; rw [if_neg (by simp [hm]), if_neg (by simp [hs]), if_pos (by rw [hd]; rfl)]
 exact ⟨e, by unfold filT; rw [e, if_neg (by decide)]⟩
theorem fil_ok {t : Txn} {h b : Int} {s : ByteArray} (hm : mayE t h b = 0) (hs : s.size = 32) (hd : (hasB t.mt b || inI t.rev b) = false) : filE t h b s = 0 /\ filT t h b s = { t with dt := putL t.dt b s } := by
 have e : filE t h b s = 0 := by unfold filE owed; rw [if_neg (by simp [hm]), if_neg (by simp [hs]), if_neg (by rw [hd]; decide)]
 exact ⟨e, by unfold filT; rw [if_pos e]⟩
theorem rvk_may {t : Txn} {h b : Int} (hm : ¬ mayE t h b = 0) : rvkE t h b = mayE t h b /\ rvkT t h b = t := by
 have e : rvkE t h b = mayE t h b := by unfold rvkE; rw [if_pos hm]
 exact ⟨e, by unfold rvkT; rw [e, if_neg hm]⟩
theorem rvk_twice {t : Txn} {h b : Int} (hm : mayE t h b = 0) (hr : inI t.rev b = true) : rvkE t h b = 5 /\ rvkT t h b = t := by
 have e : rvkE t h b = 5 := by unfold rvkE; rw [if_neg (by simp [hm]), if_pos hr]
 exact ⟨e, by unfold rvkT; rw [e, if_neg (by decide)]⟩
theorem rvk_pay {t : Txn} {h b : Int} (hm : mayE t h b = 0) (hr : inI t.rev b = false) : rvkE t h b = payE t h b := by
 unfold rvkE; rw [if_neg (by simp [hm]), if_neg (by simp [hr])]
theorem rvk_broke {t : Txn} {h b : Int} (hm : mayE t h b = 0) (hr : inI t.rev b = false) (hp : ¬ payE t h b = 0) : rvkE t h b = payE t h b /\ rvkT t h b = t :=
 ⟨rvk_pay hm hr, by unfold rvkT; rw [rvk_pay hm hr, if_neg hp]⟩
theorem rvk_ok {t : Txn} {h b : Int} (hm : mayE t h b = 0) (hr : inI t.rev b = false) (hp : payE t h b = 0) : rvkE t h b = 0 /\ rvkT t h b = { payU t h b with mt := dropC t.mt b, dt := dropC t.dt b, rev := insI t.rev b } := by
 have e : rvkE t h b = 0 := by rw [rvk_pay hm hr, hp]
 exact ⟨e, by unfold rvkT; rw [if_pos e, payU_zero hp]⟩
theorem apart_iff2 (t : Txn) : apart t = true ↔ (∀ b, inI t.rev b = true -> hasB t.mt b = false /\ hasB t.dt b = false) /\ (∀ b, hasB t.mt b = true -> hasB t.dt b = false) := by
 unfold apart
 rw [Bool.and_eq_true, List.all_eq_true, List.all_eq_true]
 constructor
 ·rintro ⟨h1, h2⟩
  refine ⟨fun b hb => ?_, fun b hb => ?_⟩
  ·have := h1 b (inI_iff.1 hb)
   simpa using this
  ·obtain ⟨c, hc, rfl⟩ := hasB_iff.1 hb
   have := h2 c hc
   simpa using this
 ·rintro ⟨h1, h2⟩
  refine ⟨fun b hb => ?_, fun c hc => ?_⟩
  ·obtain ⟨a1, a2⟩ := h1 b (inI_iff.2 hb)
   simp [a1, a2]
  ·simp [h2 c.block (hasB_iff.2 ⟨c, hc, rfl⟩)]
structure GoodT (t : Txn) : Prop where
 seq : 1 <= t.seq /\ t.seq <= 2147483647
 mt : copiesB t.mt = true
 dt : copiesB t.dt = true
 rev : rise t.rev = true
 ap : (∀ b, inI t.rev b = true -> hasB t.mt b = false /\ hasB t.dt b = false) /\ (∀ b, hasB t.mt b = true -> hasB t.dt b = false)
 h0 : hOk t.h0 = true
 h1 : hOk t.h1 = true
 h2 : hOk t.h2 = true
theorem goodT_of {t : Txn} : goodT t = true ↔ GoodT t := by
 rw [goodT_iff]
 constructor
 ·rintro ⟨a, b, c, d, e, f, g, h⟩
  exact ⟨of_decide_eq_true a, b, c, d, (apart_iff2 t).1 e, f, g, h⟩
 ·rintro ⟨a, b, c, d, e, f, g, h⟩
  exact ⟨decide_eq_true a, b, c, d, (apart_iff2 t).2 e, f, g, h⟩
theorem may_zero {t : Txn} {h b : Int} (e : mayE t h b = 0) : goodT t = true /\ (0 <= h /\ h <= 2) /\ (getH t h).on = true /\ isBlk b = true := by
 unfold mayE at e
 split at e
 ·cases e
 ·rename_i hg
  split at e
  ·cases e
  ·rename_i hn
   refine ⟨by simpa using hg, ?_, ?_, ?_⟩
   ·exact Decidable.byContradiction fun hh => hn (.inl hh)
   ·cases ho : (getH t h).on with
    | true => rfl
    | false => exact absurd (.inr (.inl ho)) hn
   ·cases hb : isBlk b with
    | true => rfl
    | false => exact absurd (.inr (.inr hb)) hn
theorem getH_ok {t : Txn} (g : GoodT t) (h : Int) : hOk (getH t h) = true := by
 unfold getH; split
 ·exact g.h0
 ·split
  ·exact g.h1
  ·exact g.h2
theorem setH_good {t : Txn} (g : GoodT t) (h : Int) {x : Hnd} (hx : hOk x = true) : GoodT (setH t h x) := by
 obtain ⟨e1, e2, e3, e4⟩ := setH_same t h x
 refine ⟨by rw [e1]; exact g.seq, by rw [e2]; exact g.mt, by rw [e3]; exact g.dt, by rw [e4]; exact g.rev, by rw [e2, e3, e4]; exact g.ap, ?_, ?_, ?_⟩
 ·unfold setH; split
  ·exact hx
  ·split <;> exact g.h0
 ·unfold setH; split
  ·exact g.h1
  ·split
   ·exact hx
   ·exact g.h1
 ·unfold setH; split
  ·exact g.h2
  ·split
   ·exact g.h2
   ·exact hx
theorem payE_zero {t : Txn} {h b : Int} (e : payE t h b = 0) : owed t b = true -> (getH t h).left ≠ 0 := fun ho hl => by
 unfold payE at e; rw [if_pos ⟨ho, hl⟩] at e; cases e
theorem pay_good {t : Txn} (g : GoodT t) {h b : Int} (ho : (getH t h).on = true) (e : payE t h b = 0) : GoodT (payT t h b) := by
 unfold payT
 split
 ·rename_i hw
  have hl := payE_zero e hw
  have hk := (hOk_iff' _).1 (getH_ok g h)
  refine setH_good g h ((hOk_iff' _).2 ⟨?_, ?_, .inl ho⟩)
  ·show 0 <= (getH t h).left - 1; omega
  ·show (getH t h).left - 1 <= 24; omega
 ·exact g
theorem chgE_zero {t : Txn} {h b : Int} {s : ByteArray} (e : chgE t h b s = 0) : mayE t h b = 0 /\ s.size = 32 /\ hasB t.dt b = false /\ payE t h b = 0 := by
 unfold chgE at e
 split at e
 ·rename_i h1; exact absurd e h1
 ·rename_i h1
  split at e
  ·cases e
  ·rename_i h2
   split at e
   ·cases e
   ·rename_i h3
    exact ⟨Decidable.not_not.1 h1, Decidable.not_not.1 h2, by simpa using h3, e⟩
theorem filE_zero {t : Txn} {h b : Int} {s : ByteArray} (e : filE t h b s = 0) : mayE t h b = 0 /\ s.size = 32 /\ hasB t.mt b = false /\ inI t.rev b = false := by
 unfold filE at e
 split at e
 ·rename_i h1; exact absurd e h1
 ·rename_i h1
  split at e
  ·cases e
  ·rename_i h2
   split at e
   ·cases e
   ·rename_i h3
    have : owed t b = true := by simpa using h3
    unfold owed at this
    rw [Bool.not_eq_true', Bool.or_eq_false_iff] at this
    exact ⟨Decidable.not_not.1 h1, Decidable.not_not.1 h2, this.1, this.2⟩
theorem rvkE_zero {t : Txn} {h b : Int} (e : rvkE t h b = 0) : mayE t h b = 0 /\ inI t.rev b = false /\ payE t h b = 0 := by
 unfold rvkE at e
 split at e
 ·rename_i h1; exact absurd e h1
 ·rename_i h1
  split at e
  ·cases e
  ·rename_i h3
   exact ⟨Decidable.not_not.1 h1, by simpa using h3, e⟩
theorem chg_good {t : Txn} {h b : Int} {s : ByteArray} (hg : goodT t = true) : goodT (chgT t h b s) = true := by
 unfold chgT
 split
 ·rename_i e
  obtain ⟨hm, hs, hd, hp⟩ := chgE_zero e
  obtain ⟨_, hh, ho, hb⟩ := may_zero hm
  have g := goodT_of.1 hg
  have gp := pay_good g ho hp
  obtain ⟨e1, e2, e3, e4⟩ := payT_same t h b
  refine goodT_of.2 ⟨gp.seq, put_copies g.mt hb hs, gp.dt, off_rise b g.rev, ?_, gp.h0, gp.h1, gp.h2⟩
  dsimp only
  rw [e3]
  refine ⟨fun x hx => ?_, fun x hx => ?_⟩
  ·rw [off_in, Bool.and_eq_true, decide_eq_true_eq] at hx
   rw [put_has b s g.mt]
   have := g.ap.1 x hx.1
   simp [this.1, this.2, hx.2]
  ·rw [put_has b s g.mt, Bool.or_eq_true, decide_eq_true_eq] at hx
   rcases hx with rfl | hx
   ·exact hd
   ·exact g.ap.2 x hx
 ·exact hg
theorem fil_good {t : Txn} {h b : Int} {s : ByteArray} (hg : goodT t = true) : goodT (filT t h b s) = true := by
 unfold filT
 split
 ·rename_i e
  obtain ⟨hm, hs, hn, hr⟩ := filE_zero e
  obtain ⟨_, hh, ho, hb⟩ := may_zero hm
  have g := goodT_of.1 hg
  refine goodT_of.2 ⟨g.seq, g.mt, put_copies g.dt hb hs, g.rev, ?_, g.h0, g.h1, g.h2⟩
  dsimp only
  refine ⟨fun x hx => ?_, fun x hx => ?_⟩
  ·rw [put_has b s g.dt]
   have := g.ap.1 x hx
   have hne : x ≠ b := fun hxb => by rw [hxb, hr] at hx; cases hx
   simp [this.1, this.2, hne]
  ·rw [put_has b s g.dt]
   have hne : x ≠ b := fun hxb => by rw [hxb, hn] at hx; cases hx
   simp [g.ap.2 x hx, hne]
 ·exact hg
theorem rvk_good {t : Txn} {h b : Int} (hg : goodT t = true) : goodT (rvkT t h b) = true := by
 unfold rvkT
 split
 ·rename_i e
  obtain ⟨hm, hr, hp⟩ := rvkE_zero e
  obtain ⟨_, hh, ho, hb⟩ := may_zero hm
  have g := goodT_of.1 hg
  have gp := pay_good g ho hp
  refine goodT_of.2 ⟨gp.seq, drop_copies b g.mt, drop_copies b g.dt, ins_rise g.rev hb hr, ?_, gp.h0, gp.h1, gp.h2⟩
  dsimp only
  refine ⟨fun x hx => ?_, fun x hx => ?_⟩
  ·rw [ins_in, Bool.or_eq_true, decide_eq_true_eq] at hx
   rw [drop_has, drop_has]
   rcases hx with rfl | hx
   ·simp
   ·have := g.ap.1 x hx
    simp [this.1, this.2]
  ·rw [drop_has, Bool.and_eq_true] at hx
   rw [drop_has]
   simp [g.ap.2 x hx.1]
 ·exact hg
theorem beg_good {t : Txn} {h n free : Int} (hg : goodT t = true) : goodT (begT t h n free) = true := by
 unfold begT
 split
 ·rename_i e
  unfold begE at e
  have g := goodT_of.1 hg
  have hn : 0 <= n /\ n <= 12 := by
   repeat (first | (split at e <;> first | (cases e; done) | skip) | omega)
  exact goodT_of.2 (setH_good g h ((hOk_iff' _).2 ⟨hn.1, by show n <= 24; omega, .inl rfl⟩))
 ·exact hg
theorem stop_good {t : Txn} {h : Int} (hg : goodT t = true) : goodT (stopT t h) = true := by
 unfold stopT
 split
 ·exact goodT_of.2 (setH_good (goodT_of.1 hg) h (by decide))
 ·exact hg
def askN (t : Txn) : Int := (t.mt.length : Int) + t.rev.length + t.h0.left + t.h1.left + t.h2.left
theorem lens {t : Txn} (g : GoodT t) : t.mt.length <= 12 /\ t.dt.length <= 12 /\ t.rev.length <= 12 := ⟨copies_len g.mt, copies_len g.dt, rise_len g.rev⟩
theorem hnds_bd {t : Txn} (g : GoodT t) : (0 <= t.h0.left /\ t.h0.left <= 24) /\ (0 <= t.h1.left /\ t.h1.left <= 24) /\ (0 <= t.h2.left /\ t.h2.left <= 24) := hnd_of_good (goodT_of.2 g)
theorem need_most {t : Txn} (g : GoodT t) : needN t.mt.length t.rev.length <= mostN (askN t) /\ needE t.mt.length t.rev.length = 0 := by
 obtain ⟨a, _, b⟩ := lens g
 obtain ⟨h0, h1, h2⟩ := hnds_bd g
 have e : needE t.mt.length t.rev.length = 0 := by unfold needE; rw [if_neg (by omega)]
 refine ⟨?_, e⟩
 unfold needN
 rw [if_pos e]
 unfold mostN clamp24 partsOf askN
 omega
def rho (l : List Txn) : Nat -> Int -> Nat
 | 0, _ => 0
 | k + 1, b => match l[k]? with
  | some t => if inI t.rev b then k + 1 else rho l k b
  | none => rho l k b
theorem rho_step {l : List Txn} {k : Nat} (hk : k < l.length) (b : Int) : rho l (k + 1) b = if inI l[k].rev b then k + 1 else rho l k b := by
 simp only [rho, List.getElem?_eq_getElem hk]
theorem rho_le (l : List Txn) (k : Nat) (b : Int) : rho l k b <= k := by
 induction k with
 | zero => exact Nat.le_refl _
 | succ k ih =>
  unfold rho
  split
  ·split
   ·exact Nat.le_refl _
   ·omega
  ·omega
theorem rho_last (l : List Txn) (k : Nat) (hk : k <= l.length) (b : Int) : (∀ i (hi : i < k), rho l k b <= i -> inI (l[i]'(by omega)).rev b = false) /\ (∀ m, rho l k b = m + 1 -> ∃ hm : m < l.length, inI l[m].rev b = true) := by
 induction k with
 | zero => exact ⟨fun i hi => by omega, fun m hm => by simp [rho] at hm⟩
 | succ k ih =>
  obtain ⟨h1, h2⟩ := ih (by omega)
  rw [rho_step (by omega)]
  by_cases hc : inI (l[k]'(by omega)).rev b = true
  ·rw [if_pos hc]
   exact ⟨fun i hi hh => by omega, fun m hm => ⟨by omega, by obtain rfl : k = m := by omega
                                                             exact hc⟩⟩
  ·rw [if_neg hc]
   refine ⟨fun i hi hh => ?_, h2⟩
   by_cases hik : i = k
   ·subst hik; simpa using hc
   ·exact h1 i (by omega) hh
def txF (l : List Txn) (r : Int -> Nat) : Nat -> Int -> Option ByteArray
 | 0, _ => none
 | k + 1, b => match l[k]? with
  | some t => match getC t.mt b with
   | some s => if r b <= k then some s else txF l r k b
   | none => txF l r k b
  | none => txF l r k b
theorem txF_step {l : List Txn} {k : Nat} (hk : k < l.length) (r : Int -> Nat) (b : Int) : txF l r (k + 1) b = match getC l[k].mt b with | some s => if r b <= k then some s else txF l r k b | none => txF l r k b := by
 simp only [txF, List.getElem?_eq_getElem hk]
def metaG (g : Int -> Option ByteArray) (r : Int -> Nat) (i : Nat) (m : List Cpy) : Int -> Option ByteArray := m.foldl (fun f c x => if x = c.block /\ r x <= i then some c.text else f x) g
theorem metaG_step (g : Int -> Option ByteArray) (r : Int -> Nat) (i : Nat) {m : List Cpy} {k : Nat} (hk : k < m.length) (x : Int) : metaG g r i (m.take (k + 1)) x = if x = m[k].block /\ r x <= i then some m[k].text else metaG g r i (m.take k) x := by
 unfold metaG
 rw [List.take_succ_eq_append_getElem hk, List.foldl_append]
 rfl
theorem metaG_good {m : List Cpy} (h : copiesB m = true) (g : Int -> Option ByteArray) (r : Int -> Nat) (i : Nat) (x : Int) : metaG g r i m x = match getC m x with | some s => if r x <= i then some s else g x | none => g x := by
 have hm := metaF_good h g x
 have key : ∀ k, k <= m.length -> metaG g r i (m.take k) x = if r x <= i then metaF g (m.take k) x else g x := by
  intro k
  induction k with
  | zero => intro _; simp [metaG, metaF]
  | succ k ih =>
   intro hk
   rw [metaG_step g r i (show k < m.length by omega), ih (by omega), <- metaF_step g (show k < m.length by omega)]
   show _ = if r x <= i then (if x = m[k].block then some m[k].text else metaF g (m.take k) x) else g x
   by_cases h1 : r x <= i
   ·by_cases h2 : x = m[k].block
    ·rw [if_pos ⟨h2, h1⟩, if_pos h1, if_pos h2]
    ·rw [if_neg (fun hh => h2 hh.1), if_pos h1, if_pos h1, if_neg h2]
   ·rw [if_neg (fun hh => h1 hh.2), if_neg h1, if_neg h1]
 have := key m.length (Nat.le_refl _)
 rw [List.take_length, hm] at this
 rw [this]
 by_cases h1 : r x <= i
 ·rw [if_pos h1]
  cases getC m x with
  | some s => dsimp only; rw [if_pos h1]
  | none => rfl
 ·rw [if_neg h1]
  cases getC m x with
  | some s => dsimp only; rw [if_neg h1]
  | none => rfl
theorem txF_newest {l : List Txn} (hg : ∀ t ∈ l, goodT t = true) (b : Int) : txF l (rho l l.length) l.length b = newestB l b := by
 have hgk : ∀ k (hk : k < l.length), goodT l[k] = true := fun k hk => hg _ (List.getElem_mem hk)
 obtain ⟨h1, h2⟩ := rho_last l l.length (Nat.le_refl _) b
 have hle := rho_le l l.length b
 generalize hm : rho l l.length = r at *
 have hlow : ∀ k, k <= r b -> txF l r k b = none := by
  intro k
  induction k with
  | zero => intro _; rfl
  | succ k ih =>
   intro hk
   rw [txF_step (by omega), ih (by omega)]
   cases getC (l[k]'(by omega)).mt b with
   | none => rfl
   | some s => dsimp only; rw [if_neg (by omega)]
 have hnb : newestB (l.take (r b)) b = none := by
  cases hr : r b with
  | zero => rfl
  | succ m =>
   obtain ⟨hml, hin⟩ := h2 m hr
   rw [newestB_step hml]
   unfold turnT
   cases hc : getC l[m].mt b with
   | none => dsimp only; rw [hin]; rfl
   | some s =>
    exfalso
    have hb : hasB l[m].mt b = true := by rw [hasB_get, hc]; rfl
    have ha := ((goodT_iff l[m]).1 (hgk m hml)).2.2.2.2.1
    unfold apart at ha
    rw [Bool.and_eq_true, List.all_eq_true] at ha
    have hbm : b ∈ l[m].rev := by
     unfold inI at hin
     obtain ⟨x, hx, hxb⟩ := List.any_eq_true.1 hin
     rw [beq_iff_eq] at hxb
     exact hxb ▸ hx
    have := ha.1 b hbm
    rw [hb] at this
    cases this
 have hup : ∀ d, r b + d <= l.length -> txF l r (r b + d) b = newestB (l.take (r b + d)) b := by
  intro d
  induction d with
  | zero => intro _; rw [Nat.add_zero, hlow _ (Nat.le_refl _), hnb]
  | succ d ih =>
   intro hd
   have hlt : r b + d < l.length := by omega
   rw [show r b + (d + 1) = r b + d + 1 from rfl, txF_step hlt, newestB_step hlt, ih (by omega)]
   unfold turnT
   rw [h1 (r b + d) hlt (by omega)]
   cases getC l[r b + d].mt b with
   | none => rfl
   | some s => dsimp only; rw [if_pos (by omega)]
 have := hup (l.length - r b) (by omega)
 rw [show r b + (l.length - r b) = l.length by omega, List.take_length] at this
 exact this
def revV (r : Int -> Nat) (b : Int) : Option Value := if r b = 0 then none else some (.int .i64 (r b : Int))
def txtV (f : Int -> Option ByteArray) (b : Int) : Option Value := (f b).map Value.string
theorem revV_get (r : Int -> Nat) (b : Int) : (revV r b).getD (.int .i64 0) = .int .i64 (r b : Int) := by
 unfold revV
 split
 ·rename_i h; rw [h]; rfl
 ·rfl
theorem txtV_get (f : Int -> Option ByteArray) (b : Int) : (txtV f b).getD (.string ⟨#[]⟩) = .string ((f b).getD ⟨#[]⟩) := by
 unfold txtV
 cases f b <;> rfl
theorem txtV_some (f : Int -> Option ByteArray) (b : Int) : (txtV f b).isSome = (f b).isSome := by unfold txtV; cases f b <;> rfl
def isEsc (s : ByteArray) : Bool := decide (s.data.toList.take 4 = magic)
def escS (s : ByteArray) : ByteArray := if isEsc s then str ([0, 0, 0, 0] ++ s.data.toList.drop 4) else s
def unescS (s : ByteArray) (e : Bool) : ByteArray := if e = true /\ 4 <= s.size then str (magic ++ s.data.toList.drop 4) else s
theorem ba_len (s : ByteArray) : s.data.toList.length = s.size := by rw [Array.length_toList]; rfl
theorem isEsc_len {s : ByteArray} (h : isEsc s = true) : 4 <= s.size := by
 have h := of_decide_eq_true h
 have := congrArg List.length h
 rw [List.length_take, ba_len] at this
 have h4 : magic.length = 4 := rfl
 omega
end Wb
