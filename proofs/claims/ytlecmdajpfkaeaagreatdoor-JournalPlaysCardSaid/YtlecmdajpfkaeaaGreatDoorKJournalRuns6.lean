/- Parts of the proof. -/
import Derived.Test.YtlecmdajpfkaeaaGreatDoorKJournalRuns5
import Derived.Deep.DeepCutAuto
set_option linter.unusedVariables false
set_option linter.unusedSimpArgs false
set_option maxRecDepth 100000
set_option maxHeartbeats 40000000
namespace Go.Proofs.YtlecmdajpfkaeaaGreatDoor
open Go.RowKit Wb
instance:AggT Tryz.prog 51 10:=⟨⟨_,Tryz.underlying51,rfl⟩,af⟩
instance:ZeroT Tryz.prog 51 [.int .i64 0,.slice none 0 0,.slice none 0 0,.slice none 0 0,.bool false,.int .i64 0,.bool false,.int .i64 0,.bool false,.int .i64 0]:=⟨af⟩
instance:AggT Tryz.prog 93 2:=⟨⟨_,Tryz.underlying93,rfl⟩,af⟩
instance:ZeroT Tryz.prog 93 [.int .i64 0,.string ⟨#[]⟩]:=⟨af⟩
instance:AggT Tryz.prog 48 2:=⟨⟨_,Tryz.underlying48,rfl⟩,af⟩
instance:AggT Tryz.prog 38 2:=⟨⟨_,Tryz.underlying38,rfl⟩,af⟩
instance:ZeroT Tryz.prog 38 [.int .i64 0,.int .i64 0]:=⟨af⟩
instance:AggT Tryz.prog 44 2:=⟨⟨_,Tryz.underlying44,rfl⟩,af⟩
instance:ZeroT Tryz.prog 44 [.slice none 0 0,.slice none 0 0]:=⟨af⟩
instance:AggT Tryz.prog 105 3:=⟨⟨_,Tryz.underlying105,rfl⟩,af⟩
instance:ZeroT Tryz.prog 105 [.int .i64 0,.int .i64 0,.string ⟨#[]⟩]:=⟨af⟩
instance:AggT Tryz.prog 32 3:=⟨⟨_,Tryz.underlying32,rfl⟩,af⟩
instance:ZeroT Tryz.prog 32 [.int .i64 0,.int .i64 0,.string ⟨#[]⟩]:=⟨af⟩
instance:AggT Tryz.prog 28 5:=⟨⟨_,Tryz.underlying28,rfl⟩,af⟩
instance:ZeroT Tryz.prog 28 [.int .i64 0,.int .i64 0,.int .i64 0,.int .i64 0,.string ⟨#[]⟩]:=⟨af⟩
instance:AggT Tryz.prog 56 3:=⟨⟨_,Tryz.underlying56,rfl⟩,af⟩
instance:ZeroT Tryz.prog 56 [.slice none 0 0,.int .i64 0,.int .i64 0]:=⟨af⟩
instance:AggT Tryz.prog 67 5:=⟨⟨_,Tryz.underlying67,rfl⟩,af⟩
instance:ZeroT Tryz.prog 67 [.int .i64 0,.int .i64 0,.int .i64 0,.slice none 0 0,.slice none 0 0]:=⟨af⟩
instance:AggT Tryz.prog 96 2:=⟨⟨_,Tryz.underlying96,rfl⟩,af⟩
instance:OneT Tryz.prog 3:=⟨⟨_,Tryz.underlying3,rfl⟩,af⟩
instance:ZeroT Tryz.prog 3 [.int .i64 0]:=⟨af⟩
instance:OneT Tryz.prog 4:=⟨⟨_,Tryz.underlying4,rfl⟩,af⟩
instance:ZeroT Tryz.prog 4 [.bool false]:=⟨af⟩
instance:OneT Tryz.prog 9:=⟨⟨_,Tryz.underlying9,rfl⟩,af⟩
instance:ZeroT Tryz.prog 9 [.string ⟨#[]⟩]:=⟨af⟩
instance:OneT Tryz.prog 24:=⟨⟨_,Tryz.underlying24,rfl⟩,af⟩
instance:OneT Tryz.prog 45:=⟨⟨_,Tryz.underlying45,rfl⟩,af⟩
instance:ZeroT Tryz.prog 45 [.slice none 0 0]:=⟨af⟩
instance:OneT Tryz.prog 46:=⟨⟨_,Tryz.underlying46,rfl⟩,af⟩
instance:ZeroT Tryz.prog 46 [.slice none 0 0]:=⟨af⟩
instance:OneT Tryz.prog 52:=⟨⟨_,Tryz.underlying52,rfl⟩,af⟩
instance:ZeroT Tryz.prog 52 [.slice none 0 0]:=⟨af⟩
instance:OneT Tryz.prog 54:=⟨⟨_,Tryz.underlying54,rfl⟩,af⟩
instance:ZeroT Tryz.prog 54 [.slice none 0 0]:=⟨af⟩
instance:OneT Tryz.prog 65:=⟨⟨_,Tryz.underlying65,rfl⟩,af⟩
instance:OneT Tryz.prog 41:=⟨⟨_,Tryz.underlying41,rfl⟩,af⟩
instance:ZeroT Tryz.prog 41 [.slice none 0 0]:=⟨af⟩
instance:OneT Tryz.prog 42:=⟨⟨_,Tryz.underlying42,rfl⟩,af⟩
instance:FieldT Tryz.prog 51 0 0:=⟨fun _ _ _=>af⟩
instance:FieldT Tryz.prog 51 1 1:=⟨fun _ _ _=>af⟩
instance:FieldT Tryz.prog 51 2 2:=⟨fun _ _ _=>af⟩
instance:FieldT Tryz.prog 51 3 3:=⟨fun _ _ _=>af⟩
instance:FieldT Tryz.prog 51 4 4:=⟨fun _ _ _=>af⟩
instance:FieldT Tryz.prog 48 0 0:=⟨fun _ _ _=>af⟩
instance:FieldT Tryz.prog 48 1 1:=⟨fun _ _ _=>af⟩
instance:FieldT Tryz.prog 93 0 0:=⟨fun _ _ _=>af⟩
instance:FieldT Tryz.prog 93 1 1:=⟨fun _ _ _=>af⟩
instance:FieldT Tryz.prog 28 0 0:=⟨fun _ _ _=>af⟩
instance:FieldT Tryz.prog 28 1 1:=⟨fun _ _ _=>af⟩
instance:FieldT Tryz.prog 28 2 2:=⟨fun _ _ _=>af⟩
instance:FieldT Tryz.prog 28 3 3:=⟨fun _ _ _=>af⟩
instance:FieldT Tryz.prog 28 4 4:=⟨fun _ _ _=>af⟩
instance:FieldT Tryz.prog 32 0 0:=⟨fun _ _ _=>af⟩
instance:FieldT Tryz.prog 32 1 1:=⟨fun _ _ _=>af⟩
instance:FieldT Tryz.prog 32 2 2:=⟨fun _ _ _=>af⟩
instance:FieldT Tryz.prog 105 0 0:=⟨fun _ _ _=>af⟩
instance:FieldT Tryz.prog 105 1 1:=⟨fun _ _ _=>af⟩
instance:FieldT Tryz.prog 105 2 2:=⟨fun _ _ _=>af⟩
instance:FieldT Tryz.prog 38 0 0:=⟨fun _ _ _=>af⟩
instance:FieldT Tryz.prog 38 1 1:=⟨fun _ _ _=>af⟩
instance:FieldT Tryz.prog 56 0 0:=⟨fun _ _ _=>af⟩
instance:FieldT Tryz.prog 56 1 1:=⟨fun _ _ _=>af⟩
instance:FieldT Tryz.prog 56 2 2:=⟨fun _ _ _=>af⟩
instance:FieldT Tryz.prog 44 0 0:=⟨fun _ _ _=>af⟩
instance:FieldT Tryz.prog 44 1 1:=⟨fun _ _ _=>af⟩
instance:FieldT Tryz.prog 96 0 0:=⟨fun _ _ _=>af⟩
instance:FieldT Tryz.prog 96 1 1:=⟨fun _ _ _=>af⟩
instance:FieldT Tryz.prog 84 0 0:=⟨fun _ _ _=>af⟩
instance:FieldT Tryz.prog 84 1 2:=⟨fun _ _ _=>af⟩
instance:FieldT Tryz.prog 84 2 3:=⟨fun _ _ _=>af⟩
instance:FieldT Tryz.prog 84 3 5:=⟨fun _ _ _=>af⟩
instance:FieldT Tryz.prog 84 4 15:=⟨fun _ _ _=>af⟩
instance:FieldT Tryz.prog 84 5 25:=⟨fun _ _ _=>af⟩
instance:FieldT Tryz.prog 84 6 26:=⟨fun _ _ _=>af⟩
instance:FieldT Tryz.prog 84 7 27:=⟨fun _ _ _=>af⟩
instance:FieldT Tryz.prog 84 8 39:=⟨fun _ _ _=>af⟩
instance:FieldT Tryz.prog 84 9 51:=⟨fun _ _ _=>af⟩
instance:FieldT Tryz.prog 84 10 52:=⟨fun _ _ _=>af⟩
instance:FieldT Tryz.prog 84 11 53:=⟨fun _ _ _=>af⟩
instance:FieldT Tryz.prog 84 12 55:=⟨fun _ _ _=>af⟩
instance:FieldT Tryz.prog 84 13 56:=⟨fun _ _ _=>af⟩
instance:FieldT Tryz.prog 84 14 59:=⟨fun _ _ _=>af⟩
instance:FieldT Tryz.prog 84 15 60:=⟨fun _ _ _=>af⟩
end Go.Proofs.YtlecmdajpfkaeaaGreatDoor
namespace Wb
open Go Go.RowKit
theorem jY5{P:Program}{ops:Array Oper}{rest:List Oper}{o:Oper}{a:Act}{Q:Exit->Act->World->Prop}{w:World}(_:Region.wanted o (yielded ops a.tmps)=true)(h:wpList P ops Q (o::rest) a w):wpList P ops Q (o::rest) a w:=h
theorem ZdL{A B:Prop}(k:B)(h:B->A:=by intro k;(refine j66 rfl ?_;refine jY5 af ?_;(refine jZ7 rfl ?_;(first|refine jZ9 rfl _ _ rfl rfl X Zra ?_ |refine jB6 rfl _ _ rfl rfl X Zrb ?_));(simp only[Act.put,zA,zB,zC,zD,zE,zF,zG,Nat.reduceAdd]));exact k):A:=h k
theorem ZdS{A B:Prop}(k:B)(h:B->A:=by intro k;(refine j66 rfl ?_;refine jY5 af ?_;(refine j10 rfl ?_;(first|refine j11 rfl _ _ _ rfl rfl Zev X rfl rfl Zpa ?_ |refine jK2 rfl _ _ _ rfl rfl rfl X rfl rfl Zpa ?_));intro w X2;(try simp only[upd] at X2);(simp only[Act.put,zA,zB,zC,zD,zE,zF,zG,Nat.reduceAdd]);revert X2;revert w);exact k):A:=h k
theorem ZdA{A B:Prop}(k:B)(h:B->A:=by intro k;(refine j66 rfl ?_;refine jY5 af ?_;(first|refine jy4 rfl _ rfl X ?_ |refine ky9 rfl _ _ rfl Zev rfl X ?_);intro g w X2;(simp only[Act.put,zA,zB,zC,zD,zE,zF,zG,Nat.reduceAdd]);revert X2;revert g w);exact k):A:=h k
theorem ZhL{A B:Prop}(k:B)(h:B->A:=by intro k;(refine j66 rfl ?_;refine jY5 af ?_;(refine jZ7 rfl ?_;(first|refine jZ9 rfl _ _ rfl rfl X Zrc ?_ |refine jB6 rfl _ _ rfl rfl X Zrd ?_));(simp only[Act.put,zA,zB,zC,zD,zE,zF,zG,Nat.reduceAdd]));exact k):A:=h k
theorem ZhS{A B:Prop}(k:B)(h:B->A:=by intro k;(refine j66 rfl ?_;refine jY5 af ?_;(refine j10 rfl ?_;(first|refine j11 rfl _ _ _ rfl rfl Zev X rfl rfl Zpb ?_ |refine jK2 rfl _ _ _ rfl rfl rfl X rfl rfl Zpb ?_));intro w X2;(try simp only[upd] at X2);(simp only[Act.put,zA,zB,zC,zD,zE,zF,zG,Nat.reduceAdd]);revert X2;revert w);exact k):A:=h k
theorem ZhA{A B:Prop}(k:B)(h:B->A:=by intro k;(refine j66 rfl ?_;refine jY5 af ?_;refine jy4 rfl _ rfl X ?_;intro g w X2;(simp only[Act.put,zA,zB,zC,zD,zE,zF,zG,Nat.reduceAdd]);revert X2;revert g w);exact k):A:=h k
theorem ZyL{A B:Prop}(k:B)(h:B->A:=by intro k;(refine j66 rfl ?_;refine jY5 af ?_;(refine jZ7 rfl ?_;(first|refine kJ1 X ?_ |refine kJ2 X ?_));(simp only[Act.put,zA,zB,zC,zD,zE,zF,zG,Nat.reduceAdd]));exact k):A:=h k
theorem ZyS{A B:Prop}(k:B)(h:B->A:=by intro k;(refine j66 rfl ?_;refine jY5 af ?_;(refine j10 rfl ?_;(first|refine kV1 X ?_ |refine kV2 X ?_));intro w X2;(try simp only[upd] at X2);(simp only[Act.put,zA,zB,zC,zD,zE,zF,zG,Nat.reduceAdd]);revert X2;revert w);exact k):A:=h k
theorem ZyA{A B:Prop}(k:B)(h:B->A:=by intro k;(refine j66 rfl ?_;refine jY5 af ?_;refine jy4 rfl _ rfl X ?_;intro g w X2;(simp only[Act.put,zA,zB,zC,zD,zE,zF,zG,Nat.reduceAdd]);revert X2;revert g w);exact k):A:=h k
section
variable{P:Program}{ops:Array Oper}{Q:Exit->Act->World->Prop}{o:Oper}{rest:List Oper}{a:Act}{S:List Nat}{w0 w:World}{L T M:List Ent}{R:List Rd}
theorem kC8(hw : Region.wanted o (yielded ops a.tmps) = true){s x : Operand}{t : TypeId}(ho : o.op = .call { callee := .builtin .append, args := #[s, x], argTypes := #[t, t] }){α : Type}{f : α -> List Value}(l2 : List α){e : TypeId}{c bytes : Nat}[hT : SlT P t e c bytes](hF : Flat f c)(X:St S w0 w L R) {vx:Value} (hs:EvR a s (.slice none 0 0)) (hx:EvR a x vx) (hr:RL f w vx l2) (hroom:(l2.length+l2.length/4+192)*bytes<=281474976710656) (h63:l2.length<=140737488355328)(h:∀a' cap' w' M',j4_ f e c (.slice a' l2.length cap') l2 M'->St S w0 w' (M'++L) R->wpList P ops Q rest (a.put o.dst (.slice a' l2.length cap')) w'):wpList P ops Q (o::rest) a w:=
 jG hw fun K hK=>by
  obtain⟨v',w',M',h1,h2,h3⟩:=jC5 (P:=P) (pre:=[]) (M:=[]) (T:=L) ho hF X (j4_.nil f e c) hs l2 hx hr (by simpa using hroom) (by unfold maxLen;simp;omega);obtain⟨a',cap',rfl⟩:=h2.form;rw[iw] at h1 h2;unfold Oper.wp;rw[h1];exact hK _ _ (h a' cap' w' M' h2 h3)
end
section
variable{P:Program}{ops:Array Oper}{Q:Exit->Act->World->Prop}{L0:List Ent}{R0:List Rd}{brk eff lds:List Nat}{i:Nat}{r:List Nat}{o:Oper}{a:Act}{S:List Nat}{w0 w:World}{L M T:List Ent}{R:List Rd}
theorem kO_(pre : List Ent)(hi : oAt ops i = some o){s x : Operand}{t : TypeId}(ho : o.op = .call { callee := .builtin .append, args := #[s, x], argTypes := #[t, t] }){α : Type}{f : α -> List Value}(y : α){e : TypeId}{c bytes : Nat}[hT : SlT P t e c bytes](hF : Flat f c){g:Nat} {cs:List Value} {te:TypeId} (X:St S w0 w (⟨g,cs,te⟩::(pre++(M++T))) R) (hL:Under L0 R0 (⟨g,cs,te⟩::(pre++(M++T))) R) {v:Value} {l:List α} (hO:jj7 f e c v l M) (hs:EvR a s v) (hx:EvR a x (.slice (some ⟨g,0,none⟩) 1 1)) (hc:f y=cs) (h20:l.length+1<=1048576)(hP:L0.Sublist pre) (he:eff.contains i=true) (hw:Region.wanted o (yielded ops a.tmps)=true)(h:∀a' cap' w' M',jj7 f e c (.slice a' (l.length+1) cap') (l++ [y]) M'->St S w0 w' (pre++(M'++T)) R->Under L0 R0 (pre++(M'++T)) R->SQ P ops Q L0 R0 brk eff lds r (a.put o.dst (.slice a' (l.length+1) cap')) w'):SQ P ops Q L0 R0 brk eff lds (i::r) a w:=
 jD2 hi he hw fun K hk=>by
  have hr:RL f w (.slice (some ⟨g,0,none⟩) 1 1) [y]:=X.rd0 (l2:=[y]) (by simp[hc]) rfl (iy _) aE;have hby:=hT.by_;obtain⟨v',w',M',h1,h2,h3⟩:=X.tail.pushO (P:=P) t o.type bytes hF hT.elem hO y hr (i3 (Nat.mul_le_mul h20 hby) ae) aE;obtain⟨a',cap',rfl⟩:=h2.form;have hl:(l++ [y]).length=l.length+1:=ag;rw[hl] at h1 h2;have hU:Under L0 R0 (pre++(M'++T)) R:=⟨hP.trans (ka _ _),hL.r⟩;unfold Oper.wp execOp;simp only[ho,resolve,invoke,builtin,Sem.run_bind,Sem.run_pure,Result.andThen_ok,ky,jr,jN,hs.eval,hx.eval,h1];exact hk _ _ (fun _ _=>h3.keeps hU) (h a' cap' w' M' h2 h3 hU)
end
end Wb
namespace Go.Proofs.YtlecmdajpfkaeaaGreatDoor
open Go.RowKit Wb
instance:AggT Tryz.prog 84 61:=⟨⟨_,Tryz.underlying84,rfl⟩,af⟩
instance:AggT Tryz.prog 53 12:=⟨⟨_,Tryz.underlying53,rfl⟩,af⟩
instance:ZeroT Tryz.prog 53 [.int .i64 0,.int .i64 0,.int .i64 0,.int .i64 0,.int .i64 0,.int .i64 0,.int .i64 0,.int .i64 0,.int .i64 0,.int .i64 0,.int .i64 0,.int .i64 0]:=⟨af⟩
structure JK:Prop where
 fit:∀(s:ByteArray) (w:World),s.size<=9223372036854775807->Calls Tryz.prog 65 #[.string s] w fun e w'=>e=.returned (.string (fit s))/\Below w.heap.size w w'
 dnew:∀(w:World),Calls Tryz.prog 28 #[] w fun e w'=>∃vs,e=.returned (.agg #[vs,.slice none 0 0])/\Wb.Own j42 (w.heap.size+2) 9 1 w' vs (List.replicate 37 (Wb.fit ⟨#[]⟩))/\Below w.heap.size w w'
 put:∀(d:Dsk) (n:Int) (t:ByteArray) (v:Value) (w:World),j_7 w v d->Calls Tryz.prog 30 #[v,.int .i64 n,.string t] w fun e w'=>∃v',e=.returned (.tuple #[v',.int .i64 (putE d n t)])/\j_7 w' v' (putD d n t)/\js6 w.heap.size w' v v' d (putD d n t)/\Below w.heap.size w w'
 flush:∀(d:Dsk) (v:Value) (w:World),j_7 w v d->Calls Tryz.prog 31 #[v] w fun e w'=>∃v',e=.returned (.tuple #[v',.int .i64 (flushE d)])/\j_7 w' v' (j55 d)/\js6 w.heap.size w' v v' d (j55 d)/\Below w.heap.size w w'
 crash:∀(d:Dsk) (x:Int) (v:Value) (w:World),j_7 w v d->x<=9223372036854775807->Calls Tryz.prog 69 #[v,.int .i64 x] w fun e w'=>∃v',e=.returned (.tuple #[v',.int .i64 (crashE d x)])/\j_7 w' v' (crashD d x)/\js6 w.heap.size w' v v' d (crashD d x)/\Below w.heap.size w w'
 read:∀(d:Dsk) (n:Int) (v:Value) (w:World),j_7 w v d->Calls Tryz.prog 80 #[v,.int .i64 n] w fun e w'=>e=.returned (.tuple #[.string (readD d n),.int .i64 (readE d n)])/\Below w.heap.size w w'
 enc:∀(m:Mrk) (v:Value) (w:World),j1_ w v m->Calls Tryz.prog 29 #[v] w fun e w'=>e=.returned (.tuple #[.string (markS m),.int .i64 (markE m)])/\Below w.heap.size w w'
 free:∀(r:Ring) (w:World),0<=r.used->r.used<=24->Calls Tryz.prog 82 #[r.val] w fun e w'=>e=.returned (.int .i64 (24-r.used))/\Below w.heap.size w w'
 give:∀(r:Ring) (n:Int) (w:World),Calls Tryz.prog 77 #[r.val,.int .i64 n] w fun e w'=>e=.returned (.tuple #[(giveR r n).val,.int .i64 (giveE r n)])/\Below w.heap.size w w'
 beg:∀(t:Txn) (h nn fr:Int) (vm vd vr:Value) (w:World),j17 w (j84 t vm vd vr) t->Calls Tryz.prog 81 #[j84 t vm vd vr,.int .i64 h,.int .i64 nn,.int .i64 fr] w fun e w'=>e=.returned (.tuple #[j84 (begT t h nn fr) vm vd vr,.int .i64 (begE t h nn fr)])/\Below w.heap.size w w'
 stop:∀(t:Txn) (h:Int) (vm vd vr:Value) (w:World),j17 w (j84 t vm vd vr) t->Calls Tryz.prog 83 #[j84 t vm vd vr,.int .i64 h] w fun e w'=>e=.returned (.tuple #[j84 (stopT t h) vm vd vr,.int .i64 (stopE t h)])/\Below w.heap.size w w'
 chg:∀(t:Txn) (h b:Int) (s:ByteArray) (vm vd vr:Value) (w:World),j17 w (j84 t vm vd vr) t->Calls Tryz.prog 84 #[j84 t vm vd vr,.int .i64 h,.int .i64 b,.string s] w fun e w'=>∃vm' vd' vr',e=.returned (.tuple #[j84 (jC1 t h b s) vm' vd' vr',.int .i64 (chgE t h b s)])/\NewT w.heap.size w' vm vd vr vm' vd' vr' t (jC1 t h b s)/\Below w.heap.size w w'
 fil:∀(t:Txn) (h b:Int) (s:ByteArray) (vm vd vr:Value) (w:World),j17 w (j84 t vm vd vr) t->Calls Tryz.prog 85 #[j84 t vm vd vr,.int .i64 h,.int .i64 b,.string s] w fun e w'=>∃vm' vd' vr',e=.returned (.tuple #[j84 (jr7 t h b s) vm' vd' vr',.int .i64 (filE t h b s)])/\NewT w.heap.size w' vm vd vr vm' vd' vr' t (jr7 t h b s)/\Below w.heap.size w w'
 rvk:∀(t:Txn) (h b:Int) (vm vd vr:Value) (w:World),j17 w (j84 t vm vd vr) t->Calls Tryz.prog 86 #[j84 t vm vd vr,.int .i64 h,.int .i64 b] w fun e w'=>∃vm' vd' vr',e=.returned (.tuple #[j84 (jp6 t h b) vm' vd' vr',.int .i64 (rvkE t h b)])/\NewT w.heap.size w' vm vd vr vm' vd' vr' t (jp6 t h b)/\Below w.heap.size w w'
 get:∀(l:List Cpy) (b:Int) (v:Value) (w:World),RL j_3 w v l->l.length<=5864062014805->Calls Tryz.prog 79 #[v,.int .i64 b] w fun e w'=>e=.returned (.tuple #[.string ((getC l b).getD ⟨#[]⟩),.bool (getC l b).isSome])/\Below w.heap.size w w'
 opn:∀(t:Txn) (v:Value) (w:World),j17 w v t->Calls Tryz.prog 75 #[v] w fun e w'=>e=.returned (.bool (openB t))/\Below w.heap.size w w'
 com:∀(r:Ring) (t:Txn) (v:Value) (w:World),j17 w v t->Sl w (flR 0).v 1 (flR 0).cs->Calls Tryz.prog 76 #[r.val,v] w fun e w'=>∃v',e=.returned (.tuple #[(comR r t).val,v',.int .i64 (comE r t)])/\Wb.Own jY3 w.heap.size 105 3 w' v' (comL r t)/\Below w.heap.size w w'
 newest:∀(l:List Txn),(∀t∈l,goodT t=true)->∀(v:Value) (w:World),j18 w v l->Calls Tryz.prog 78 #[v] w fun e w'=>∃v',e=.returned v'/\Wb.Own j_3 w.heap.size 93 2 w' v' (newestL l)/\Below w.heap.size w w'
 check:∀(l:List Cpy) (p q:Int) (v:Value) (w:World),RL j_3 w v l->l.length<=5864062014805->Sl w (flR 0).v 1 (flR 0).cs->Calls Tryz.prog 71 #[v,.int .i64 p,.int .i64 q] w fun e w'=>∃v',e=.returned (.tuple #[v',.int .i64 (checkE l p q)])/\Wb.Own jY3 w.heap.size 105 3 w' v' (checkL l p q)/\Below w.heap.size w w'
 replay:∀(l:List Txn),(∀t∈l,goodT t=true)->∀(v:Value) (w:World),j18 w v l->Calls Tryz.prog 72 #[v] w fun e w'=>∃v',e=.returned v'/\Wb.Own j_3 w.heap.size 93 2 w' v' (newestL l)/\Below w.heap.size w w'
 scan:∀(d:Dsk) (v:Value) (w:World),j_7 w v d->Calls Tryz.prog 70 #[v] w fun e w'=>∃vt,e=.returned (.tuple #[.agg #[vt,.int .i64 (scanF d).next,.int .i64 (scanF d).at_],.int .i64 (scanE d)])/\j43 w.heap.size 51 93 3 w' vt (scanF d).txns/\Below w.heap.size w w'
abbrev JF(g:Nat)(j:Jn)(M:List Ent)(Rj:List Rd):Prop:=ku9 84 51 3 g j M Rj
theorem ky4{S : List Nat}{w0 w : World}{L : List Ent}{R : List Rd}{g : Nat}{j : Jn}{M : List Ent}{Rj : List Rd}(F : JF g j M Rj)(X : St S w0 w (M ++ L) (Rj ++ R)) :Calls Tryz.prog 10 #[.pointer (some ⟨g,0,none⟩)] w fun e w'=>e=.returned (.tuple #[j.ring.val,.int .i64 j.last,.bool j.down])/\St S w0 w' (M++L) (Rj++R):=by
 obtain⟨v,ds,fs,MD,MU,hm,rfl,rfl⟩:=F;rw[iu] at X⊢;unfold j85 at X⊢;generalize jRds v j ds fs++R=RR at*;generalize MD++MU++L=LL at*;go_enter Tryz.func10,Tryz.ntmps10
 go_upto_region 3 with (first|(refine ZeL ?_)| (refine ZeS ?_;clear X;intro w X)| (refine ZeA ?_;clear X;intro g w X))
 have X9:=X.perm (.swap _ _ _);clear X;have X:=X9;clear X9;(refine j__ 1 [] [12] [3,7,11] [0,1,2,3,4,5,6,7,8,9,10,11,12,13,14] X ?_;clear X;intro hQ X hL;simp only[zF,zG] at hL;simp only[zF,zG]);refine Zm ?_;refine Zn ?_;refine Zf ?_;refine Zl ?_;refine Zm ?_;refine Zn ?_;refine Zf ?_;refine Zl ?_;refine Zm ?_;refine Zn ?_;refine Zf ?_;refine Zl ?_;(refine Zs ?_;clear hL X;intro w X hL);refine Za ?_;refine Za ?_;refine j90 ?_;go_wp2;exact jM0 rfl (.tmp rfl rfl) (.tmp rfl rfl) (.tmp rfl rfl) X (.tail _ (.head _)) rfl rfl ⟨rfl,X.sub (List.Sublist.cons_cons _ (iQ _ _))⟩
theorem kH6(K : JK){S : List Nat}{w0 w : World}{L : List Ent}{R : List Rd}{gj : Nat}{j : Jn}{M : List Ent}{Rj : List Rd}(F : JF gj j M Rj)(X : St S w0 w (M ++ L) (Rj ++ R))(x : Int)(hx : x <= 9223372036854775807) :Calls Tryz.prog 33 #[.pointer (some ⟨gj,0,none⟩),.int .i64 x] w fun e w'=>∃M' Rj',e=.returned (.int .i64 (j15 j x).2)/\JF gj (j15 j x).1 M' Rj'/\St S w0 w' (M'++L) (Rj'++R):=by
 obtain⟨v,ds,fs,MD,MU,hm,rfl,rfl⟩:=F;have hsz:=hm.inv.sz hm.sz;have hdk:=hsz.dk;have hCr:=fun v w (h:j_7 w v j.disk)=>K.crash j.disk x v w h hx;replace hCr:=hid hCr;rw[iu] at X;unfold j85 at X;by_cases hE:crashE j.disk x=0
 ·have hJ:j15 j x=({jY0 (crashD j.disk x) j.last j.acts with down:=true},0):=by unfold j15;rw[ij hE]
  have hI:=jg3 x hm.inv;rw[hJ] at hI⊢;rw[hE] at hCr;dsimp only at hI⊢;generalize crashD j.disk x=D at*;have hLL:L.Sublist (MD++MU++L):=jD _ _;generalize MD++MU++L=LL at*;go_enter Tryz.func33,Tryz.ntmps33
  go_upto_region 4 with (first|(refine ZeL ?_)| (refine ZeS ?_;clear X;intro w X)| (refine ZeA ?_;clear X;intro g w X)|(go_at_call 69;((with_reducible refine(hCr.out _ _ (X.jDisk hdk (fun r hr=>iv _ hr))).mono ?_);rintro e w1 ⟨v1,rfl,hr1,hn1,hb1⟩;obtain⟨as2,cs2,aw2,cw2,rfl,X2⟩:=X.addNewD hb1 hn1 (fun r hr=>iv _ (jV3 r hr));replace X:=X2;clear X2 hb1 hn1 hr1)))
  (refine j__ 2 [12] [12] [1,5,9] [0,1,2,3,4,5,6,7,8,9,10,11,12] X ?_;clear X;intro hQ X hL;simp only[zF,zG] at hL;simp only[zF,zG]);refine Zm ?_;refine Zl ?_;refine Zm ?_;refine Zn ?_;refine Zf ?_;refine Zl ?_;refine Zm ?_;refine Zn ?_;refine Zf ?_;refine Zl ?_;refine Zg ?_;refine Zn ?_;(refine Zb ?_;clear X;intro w X);refine j90 ?_;go_wp2;go_ret;refine⟨_,_,rfl,⟨jW9 ⟨as2,cs2⟩ ⟨aw2,cw2⟩,[],[],[],[],⟨.nil _ _ _,.nil _ _ _,rfl,rfl,(fun x hx=>cI),(fun x hx=>cI),hI,⟨iq _,iq _⟩⟩,rfl,rfl⟩,?_⟩;exact X.jZero rfl rfl rfl rfl (List.Sublist.cons _ (List.Sublist.cons_cons _ hLL)) (fun r hr=>ip _ hr)
 ·have hJ:j15 j x=(j,crashE j.disk x):=by unfold j15;rw[ii hE]
  have hE2:(crashE j.disk x != 0)=true:=by simpa using hE
  rw[hJ];dsimp only;generalize crashE j.disk x=cE at*;go_enter Tryz.func33,Tryz.ntmps33
  go_wp2_with (first|(refine ZeL ?_)| (refine ZeS ?_;clear X;intro w X)| (refine ZeA ?_;clear X;intro g w X)|(go_at_call 69;((with_reducible refine(hCr.out _ _ (X.jDisk hdk (fun r hr=>iv _ hr))).mono ?_);rintro e w1 ⟨v1,rfl,hr1,hn1,hb1⟩;obtain⟨as2,cs2,aw2,cw2,rfl,X2⟩:=X.addNewD hb1 hn1 (fun r hr=>iv _ (jV3 r hr));replace X:=X2;clear X2 hb1 hn1 hr1)))
  go_ret;exact⟨_,_,rfl,⟨v,ds,fs,MD,MU,hm,rfl,rfl⟩,(X.sub (iQ _ _)).rds (fun r hr=>.tail _ (.tail _ hr))⟩
theorem fA{A:Prop}(h:A:=by
 go_enter Tryz.func37,Tryz.ntmps37
 go_wp2_with (first|(refine ZeL ?_)| (refine ZeS ?_;clear X;intro w X)| (refine ZeA ?_;clear X;intro g w X))
 go_ret;exact⟨_,_,rfl,⟨v,ds,fs,MD,MU,hm,rfl,rfl⟩,X⟩):A:=h
theorem kH5(K : JK){S : List Nat}{w0 w : World}{L : List Ent}{R : List Rd}{gj : Nat}{j : Jn}{M : List Ent}{Rj : List Rd}(F : JF gj j M Rj)(X : St S w0 w (M ++ L) (Rj ++ R))(hF : flR 0 ∈ R) :Calls Tryz.prog 37 #[.pointer (some ⟨gj,0,none⟩)] w fun e w'=>∃M' Rj',e=.returned (.int .i64 (j37 j).2)/\JF gj (j37 j).1 M' Rj'/\St S w0 w' (M'++L) (Rj'++R):=by
 obtain⟨v,ds,fs,MD,MU,hm,rfl,rfl⟩:=F;have hsz:=hm.inv.sz hm.sz;rw[iu] at X;unfold j85 at X;by_cases hw:j.work=0
 ·have hw2:(j.work != 0)=false:=by simpa using hw
  by_cases hd:j.done.length=0
  ·have hJ:j37 j=(j,4):=by unfold j37;rw[ii (js hw),ij hd]
   rw[hJ];dsimp only;have hd2:((j.done.length:Int)==0)=true:=by rw[hd];rfl
   clear hw hd;exact fA
  ·obtain⟨hu,hn,hs,hdn⟩:=hm.inv.up hw (.inr hd);have hJ:j37 j=({j with after:=giveR j.ring j.used.sum,steps:=checkL (newestL j.done) j.ring.head (j.last+1),pending:=j.done.length,work:=2},0):=by unfold j37;rw[ii (js hw),ii hd]
   have hI:=jg2 hdn hm.inv;rw[hJ] at hI⊢;dsimp only at hI⊢;have hd2:((j.done.length:Int)==0)=false:=ik.2 aa;have hgr:=(j71 _).1 hu.ring
   have hsum:∀k,0<=(j.used.take k).sum/\(j.used.take k).sum<=24:=fun k=>by
    have:=k88 hu.pos k;rw[hu.sum] at this;omega
   have hst:=fun k (hk:k<j.used.length)=>kE9 hk;have hg:=j96 hu.log.goods;have hb:=hu.log.bounds;have hck:=(jR1 hg hb.1 hb.2.1).2;have hul:=hsz.used;have hlast:IntKind.i64.wrap (j.last+1)=j.last+1:=iz _ dI;have hNw:=fun v w (h:j18 w v j.done)=>K.newest j.done hu.log.goods v w h;have hCk:=fun v w (h:RL j_3 w v (newestL j.done)) hF=>K.check (newestL j.done) j.ring.head (j.last+1) v w h dU hF;have hGi:=fun w=>K.give j.ring j.used.sum w;unfold Ring.val at hGi;clear hw hd hu hn hs hdn hJ hg hb hgr;generalize checkE (newestL j.done) j.ring.head (j.last+1)=cE at*;generalize checkL (newestL j.done) j.ring.head (j.last+1)=ST at*;generalize newestL j.done=NL at*;generalize giveE j.ring j.used.sum=gE at*;generalize giveR j.ring j.used.sum=gR at*;replace hNw:=hid hNw;replace hCk:=hid hCk;replace hGi:=hid hGi;replace hsum:=hid hsum;replace hst:=hid hst;replace hI:=hid hI;replace hck:=hid hck;replace hm:=hid hm;replace hsz:=hid hsz;go_enter Tryz.func37,Tryz.ntmps37
   go_wp2_with (first|(refine ZeL ?_)| (refine ZeS ?_;clear X;intro w X)| (refine ZeA ?_;clear X;intro g w X))
   go_loopw [3,24] (fun s i wr=>∃k:Nat,k<=j.used.length/\s=.int .i64 (j.used.take k).sum/\i=.int .i64 k/\St S w0 wr (⟨gj,j85 v j,84⟩::(MD++MU++L)) (jRds v j ds fs++R)) (fun _ i _=>j.used.length-(intOf i).toNat)
   case atStart=>exact⟨0,iq _,rfl,rfl,X⟩
   case round=>
    clear X;obtain⟨k,hk,rfl,rfl,X⟩:=hrel;by_cases hlt:k<j.used.length
    ·obtain⟨b4,off4,hb4,d0⟩:=kl6 (fun x:Int=>.int .i64 x) (fun _=>rfl) (X.jUsed hm.out) hlt;rw[hb4];have h1:=hst.out k hlt;have h2:=hsum.out (k+1);have hwr:IntKind.i64.wrap ((j.used.take k).sum+j.used[k])=(j.used.take (k+1)).sum:=by rw[h1];exact iz _ (by rw[<-h1];omega)
     clear h1 h2;generalize j.used[k]=x at*;generalize hs1:(j.used.take (k+1)).sum=s1 at*;generalize (j.used.take k).sum=s0 at*;replace hs1:=hid hs1;go_wp2;go_roundw
     case rel=>exact⟨k+1,aa,by rw[hs1.out],an,X⟩
     case measure=>simp[intOf];omega
    ·obtain rfl:k=j.used.length:=by omega
     rw[iY];unfold j85 at X;clear hst hsum hk hlt
     go_upto_region 12 with (first|(refine ZeL ?_)| (refine ZeS ?_;clear X;intro w X)| (refine ZeA ?_;clear X;intro g w X)|(go_at_call 77;((with_reducible refine(hGi.out _).mono ?_);rintro e w1 ⟨rfl,hb1⟩;replace X:=X.call hb1;clear hb1)))
     (refine j__ 1 [22] [5,16,22] [4,10,14] [0,1,2,3,4,6,7,8,9,10,11,12,13,14,15,5,16,17,18,19,20,21,22] X ?_;clear X;intro hQ X hL;simp only[zF,zG] at hL;simp only[zF,zG]);refine Zm ?_;refine Zm ?_;refine Zn ?_;refine Zf ?_;refine Zl ?_;refine Zm ?_;refine Zn ?_;refine Zf ?_;refine Zf ?_;refine Zl ?_;refine Zm ?_;refine Zn ?_;refine Zf ?_;refine Zl ?_;refine Zg ?_;(refine j_0 78 Tryz.func78 (hNw.out _ _ (X.jDone2 hm.out hsz.out (fun r hr=>iv _ hr))) ?_;rintro e w1 ⟨v1,rfl,ho1,hb1⟩;obtain⟨a1,c1,rfl⟩:=ho1.form;replace X:=X.addOwn hb1 ho1;clear hb1 ho1;refine Zce ?_;clear hL;intro hL);(refine j_0 71 Tryz.func71 (hCk.out _ _ X.r0 (X.rd _ (List.Mem.tail _ (ip _ hF))).1) ?_;rintro e w1 ⟨v3,rfl,ho1,hb1⟩;obtain⟨a3,c3,rfl⟩:=ho1.form;replace X:=X.addOwn hb1 ho1;clear hb1 ho1;refine Zce ?_;clear hL;intro hL);refine Zm ?_;refine Zx ?_;refine Zx ?_;refine Zn ?_;refine Zf ?_;(refine Zb ?_;clear X;intro w X);refine j90 ?_
     go_wp2_with (first|(refine ZeL ?_)| (refine ZeS ?_;clear X;intro w X)| (refine ZeA ?_;clear X;intro g w X))
     go_ret;refine⟨_,_,rfl,⟨{v with st:=⟨a3,c3⟩},ds,fs,MD,MU,⟨hm.out.dn,hm.out.us,hm.out.dmap,hm.out.fmap,hm.out.dfit,hm.out.ffit,hI.out,⟨hm.out.sz.1,?_⟩⟩,rfl,rfl⟩,?_⟩
     ·have:=hck.out;show ST.length<=100;omega
     ·exact X.rds (j7_ Zfl Zfl Zfl Zfl Zfl Zfl Zfl Zfl Zfl Zfl (fun r hr=>.tail _ (.tail _ (jR2 r hr))) (fun r hr=>.tail _ (.tail _ (jQ1 r hr))) (fun r hr=>.tail _ (.tail _ (ip _ hr))))
 ·have hJ:j37 j=(j,9):=by unfold j37;rw[ij hw]
  rw[hJ];dsimp only;have hw2:(j.work != 0)=true:=bK;clear hw;exact fA
theorem _root_.Wb.InvJ.off'{j:Jn}(h:InvJ j)(hd:j.down=true)(hw:j.work=0):DnI j.disk j.last/\j.found=kC2:=by
 cases h with
 |idle hd0=>rw[hd0] at hd;cases hd
 |sealing d r us k hd0=>rw[hd0] at hd;cases hd
 |homing d k hd0=>rw[hd0] at hd;cases hd
 |off hj hu=>exact⟨hu,by rw[hj];rfl⟩
 |rising d k hj=>rw[hj] at hw;cases hw
theorem fz{A:Prop}(h:A:=by
 go_enter Tryz.func34,Tryz.ntmps34
 go_wp2_with (first|(refine ZhL ?_)| (refine ZhS ?_;clear X;intro w X)| (refine ZhA ?_;clear X;intro g w X))
 go_ret;exact⟨_,_,rfl,⟨v,ds,fs,MD,MU,hm,rfl,rfl⟩,X⟩):A:=h
theorem kH4(K : JK){S : List Nat}{w0 w : World}{L : List Ent}{R : List Rd}{gj : Nat}{j : Jn}{M : List Ent}{Rj : List Rd}(F : JF gj j M Rj)(X : St S w0 w (M ++ L) (Rj ++ R))(hF : flR 0 ∈ R) :Calls Tryz.prog 34 #[.pointer (some ⟨gj,0,none⟩)] w fun e w'=>∃M' Rj',e=.returned (.int .i64 (j36 j).2)/\JF gj (j36 j).1 M' Rj'/\St S w0 w' (M'++L) (Rj'++R):=by
 obtain⟨v,ds,fs,MD,MU,hm,rfl,rfl⟩:=F;have hsz:=hm.inv.sz hm.sz;have hdk:=hsz.dk;rw[iu] at X;unfold j85 at X;by_cases hd:j.down=false
 ·have hJ:j36 j=(j,9):=by unfold j36;rw[ij (.inl hd)]
  rw[hJ];dsimp only;exact fz
 ·have hdt:j.down=true:=by simpa using hd
  by_cases hw:j.work=0
  ·obtain⟨hdn,hfd⟩:=hm.inv.off' hdt hw;obtain⟨e1,e2,e3,e4,e5⟩:=hdn.scan;have hJ:j36 j=({j with found:=scanF j.disk,steps:=checkL (newestL (scanF j.disk).txns) (scanF j.disk).at_ (scanF j.disk).next,work:=3},0):=bn;have hI:=jg1 hm.inv;rw[hJ] at hI⊢;dsimp only at hI⊢;have hw2:(j.work != 0)=false:=bK;have hg:=j96 e2;obtain⟨b1,b2⟩:=j31 e1;have hck:=(jR1 hg b1 b2).2;have hSc:=fun v w (h:j_7 w v j.disk)=>K.scan j.disk v w h;rw[e1] at hSc;have hRp:=fun v w (h:j18 w v (scanF j.disk).txns)=>K.replay (scanF j.disk).txns e2 v w h;have hCk:=fun v w (h:RL j_3 w v (newestL (scanF j.disk).txns)) hF=>K.check (newestL (scanF j.disk).txns) (scanF j.disk).at_ (scanF j.disk).next v w h dU hF;rw[e3] at hCk;clear hJ hd hw e1 e2 e3 e4 hg b1 b2 hdn;generalize checkL (newestL (scanF j.disk).txns) (scanF j.disk).at_ (scanF j.disk).next=ST at*;generalize newestL (scanF j.disk).txns=NL at*;generalize scanF j.disk=FF at*;obtain⟨fl,fn,fa⟩:=FF;dsimp only at*;replace hSc:=hid hSc;replace hRp:=hid hRp;replace hCk:=hid hCk;replace hI:=hid hI;replace hck:=hid hck;replace hm:=hid hm;replace hsz:=hid hsz;replace hfd:=hid hfd;go_enter Tryz.func34,Tryz.ntmps34
   go_upto_region 7 with (first|(refine ZhL ?_)| (refine ZhS ?_;clear X;intro w X)| (refine ZhA ?_;clear X;intro g w X)|(go_at_call 70;((with_reducible refine(hSc.out _ _ (X.jDisk hdk (fun r hr=>iv _ hr))).mono ?_);rintro e w2 ⟨vt,rfl,of1,hb2⟩;obtain⟨at1,ct1,rfl⟩:=of1.form;obtain⟨xs,hxs,hxf,X2⟩:=X.addOTxns hb2 of1;replace X:=X2;clear hb2 of1 X2)))
   have hxl:xs.length<=1099511627744:=by have:=congrArg List.length hxs;simp at this;omega
   (refine j__ 1 [] [3,8,14] [2,5,7] [0,1,2,4,5,6,7,3,8,9,10,11,12,13,14,15] X ?_;clear X;intro hQ X hL;simp only[zF,zG] at hL;simp only[zF,zG]);refine Zm ?_;refine Zf ?_;refine Zl ?_;refine Zf ?_;refine Zl ?_;refine Zf ?_;refine Zl ?_;(refine j_0 72 Tryz.func72 (hRp.out _ _ bG) ?_;rintro e w1 ⟨v1,rfl,ho1,hb1⟩;obtain⟨a1,c1,rfl⟩:=ho1.form;replace X:=X.addOwn hb1 ho1;clear hb1 ho1;refine Zce ?_;clear hL;intro hL);(refine j_0 71 Tryz.func71 (hCk.out _ _ X.r0 (X.rd _ (List.Mem.tail _ (ip _ (ip _ hF)))).1) ?_;rintro e w1 ⟨v3,rfl,ho1,hb1⟩;obtain⟨a3,c3,rfl⟩:=ho1.form;replace X:=X.addOwn hb1 ho1;clear hb1 ho1;refine Zce ?_;clear hL;intro hL);refine Zm ?_;refine Zx ?_;refine Zx ?_;refine Zn ?_;refine Zf ?_;(refine Zs ?_;clear hL X;intro w X hL);refine Za ?_;refine j90 ?_
   go_wp2_with (first|(refine ZhL ?_)| (refine ZhS ?_;clear X;intro w X)| (refine ZhA ?_;clear X;intro g w X))
   go_ret;refine⟨_,_,rfl,⟨{v with st:=⟨a3,c3⟩,ft:=⟨at1,ct1⟩},ds,xs,MD,MU,⟨hm.out.dn,hm.out.us,hm.out.dmap,hxs,hm.out.dfit,hxf,hI.out,⟨e5,?_⟩⟩,rfl,rfl⟩,?_⟩
   ·have:=hck.out;show ST.length<=100;omega
   ·exact(X.sub (iQ _ _)).rds (j7_ (.tail _ (.tail _ (ip _ Zfl))) (.tail _ (.tail _ (ip _ Zfl))) (.tail _ (.tail _ (ip _ Zfl))) (.tail _ (.tail _ (ip _ Zfl))) (.tail _ (.tail _ (ip _ Zfl))) (.tail _ (.tail _ (ip _ Zfl))) (.tail _ (.tail _ (ip _ Zfl))) (.tail _ (.tail _ (ip _ Zfl))) (.head _) (.tail _ (.tail _ (.head _))) (fun r hr=>.tail _ (.tail _ (iv _ (.tail _ hr)))) (fun r hr=>.tail _ (.tail _ (ip _ (jQ1 r hr)))) (fun r hr=>.tail _ (.tail _ (ip _ (ip _ hr)))))
  ·have hJ:j36 j=(j,9):=by unfold j36;rw[ij (.inr hw)]
   rw[hJ];dsimp only;have hw2:(j.work != 0)=true:=bK;clear hw hd;exact fz
instance:SlT Tryz.prog 54 105 3 32:=⟨kj_ (z:=.agg #[.int .i64 0,.int .i64 0,.string ⟨#[]⟩]) Tryz.underlying54 af rfl,ae,ae,ae⟩
instance:SlT Tryz.prog 45 93 2 24:=⟨kj_ (z:=.agg #[.int .i64 0,.string ⟨#[]⟩]) Tryz.underlying45 af rfl,ae,ae,ae⟩
instance:SlT Tryz.prog 46 3 1 8:=⟨kj_ (z:=.int .i64 0) Tryz.underlying46 af rfl,ae,ae,ae⟩
instance:SlT Tryz.prog 41 9 1 16:=⟨kj_ (z:=.string ⟨#[]⟩) Tryz.underlying41 af rfl,ae,ae,ae⟩
instance:SlT Tryz.prog 65 103 2 16:=⟨kj_ (z:=.agg #[.int .i64 0,.bool false]) Tryz.underlying65 af rfl,ae,ae,ae⟩
instance:SlT Tryz.prog 52 51 10 128:=⟨kj_ (z:=.agg #[.int .i64 0,.slice none 0 0,.slice none 0 0,.slice none 0 0,.bool false,.int .i64 0,.bool false,.int .i64 0,.bool false,.int .i64 0]) Tryz.underlying52 af rfl,ae,ae,ae⟩
instance:OneT Tryz.prog 159:=⟨⟨_,Tryz.underlying159,rfl⟩,af⟩
instance:ZeroT Tryz.prog 159 [.nilFunc]:=⟨af⟩
instance:OneT Tryz.prog 160:=⟨⟨_,Tryz.underlying160,rfl⟩,af⟩
instance:ZeroT Tryz.prog 160 [.nilFunc]:=⟨af⟩
theorem ks8(c : Int)(w : World) :Calls Tryz.prog 74 #[.int .i64 c] w fun e w'=>e=.returned (.agg #[.int .i64 c,.int .i64 0,.string ⟨#[]⟩])/\Below w.heap.size w w':=by
 have X:St [] w w [] []:=kk7 [] w;go_enter Tryz.func74,Tryz.ntmps74
 go_wp2_with (first|(refine ZyL ?_)| (refine ZyS ?_;clear X;intro w X)| (refine ZyA ?_;clear X;intro g w X))
 exact j93 rfl (.tmp rfl rfl) X (.head _) rfl rfl ⟨rfl,X.below⟩
theorem em{A:Prop}(h:A:=by
 (refine Zs ?_;clear hL X;intro w X hL);refine Za ?_;refine Za ?_;refine j90 ?_
 go_upto_region 12 with (first|(refine ZyL ?_)| (refine ZyS ?_;clear X;intro w X)| (refine ZyA ?_;clear X;intro g w X))
 (refine j__ 4 [17] [13,14,17] [4,6,11] [0,1,2,3,4,5,6,7,8,9,10,11,12,13,14,15,16,17] X ?_;clear X;intro hQ X hL;simp only[zF,zG] at hL;simp only[zF,zG]);refine Zm ?_;refine Zm ?_;refine Zn ?_;refine Zf ?_;refine Zl ?_;refine Zf ?_;refine Zl ?_;refine Zm ?_;refine Zn ?_;refine Zf ?_;refine Zf ?_;refine Zl ?_;refine Zg ?_;(refine jY7 rfl rfl Zev ay ay X hL rfl rfl ?_;intro g w X2 hL2;replace X:=X2;replace hL:=hL2;clear X2 hL2;(simp only[Act.put,zA,zB,zC,zD,zE,zF,zG,Nat.reduceAdd]));refine kO_ (_::_::_::_::MD) rfl rfl (cr.used-j.ring.used) j9_ X hL hm.out.us Zev Zev rfl aa Zsu rfl rfl ?_;intro a5 c5 w5 MU5 hO5 X2 hL2;replace X:=X2;replace hL:=hL2;clear X2 hL2;simp only[iu] at X hL;(simp only[Act.put,zA,zB,zC,zD,zE,zF,zG,Nat.reduceAdd]);refine Zn ?_;refine Zf ?_;(refine Zb ?_;clear X;intro w X);refine j90 ?_
 go_upto_region 13 with (first|(refine ZyL ?_)| (refine ZyS ?_;clear X;intro w X)| (refine ZyA ?_;clear X;intro g w X))
 (refine j__ 2 [] [9,12,15,18] [4,5] [0,1,2,3,4,5,6,7,8,9,10,11,12,13,14,15,16,17,18] X ?_;clear X;intro hQ X hL;simp only[zF,zG] at hL;simp only[zF,zG]);refine Zm ?_;refine Zm ?_;refine Zm ?_;refine Zm ?_;refine Zl ?_;refine Zl ?_;refine Zm ?_;refine Zn ?_;refine Zf ?_;(refine Zs ?_;clear hL X;intro w X hL);refine Zn ?_;refine Zf ?_;(refine Zs ?_;clear hL X;intro w X hL);refine Zn ?_;refine Zf ?_;(refine Zs ?_;clear hL X;intro w X hL);refine Zn ?_;refine Zf ?_;(refine Zs ?_;clear hL X;intro w X hL);refine j90 ?_
 go_wp2_with (first|(refine ZyL ?_)| (refine ZyS ?_;clear X;intro w X)| (refine ZyA ?_;clear X;intro g w X))
 have hul2:(j.used++ [cr.used-j.ring.used]).length=j.used.length+1:=ag;rw[<-hul2] at hO5 X;refine j93 rfl (.tmp rfl rfl) X (.tail _ (.tail _ (.head _))) rfl rfl ⟨_,_,rfl,⟨{v with st:=⟨a3,c3⟩,us:=⟨a5,c5⟩,nm:=j23,nd:=j23,nr:=j23,sm:=v.nm,sd:=v.nd,sr:=v.nr},ds,fs,MD,MU5,⟨hm.out.dn,hO5,hm.out.dmap,hm.out.fmap,hm.out.dfit,hm.out.ffit,hI.out,⟨hm.out.sz.1,hcl.out⟩⟩,rfl,rfl⟩,?_⟩;rw[iu,iE];exact(X.addNil.sub (List.Sublist.cons _ (List.Sublist.cons _ (iQ _ _)))).rds (j7_ Zfl Zfl Zfl Zfl Zfl Zfl Zfl Zfl Zfl Zfl (fun r hr=>.tail _ (.tail _ (jR2 r hr))) (fun r hr=>.tail _ (.tail _ (jQ1 r hr))) (fun r hr=>.tail _ (.tail _ (ip _ hr))))):A:=h
theorem eR{A:Prop}(h:A:=by
 (refine Zs ?_;clear hL X;intro w X hL);refine Za ?_;refine Za ?_;refine j90 ?_
 go_wp2_with (first|(refine ZyL ?_)| (refine ZyS ?_;clear X;intro w X)| (refine ZyA ?_;clear X;intro g w X)|(go_at_call 74;((with_reducible refine(hNo.out _ _).mono ?_);rintro e w1 ⟨rfl,hb1⟩;replace X:=X.call hb1;clear hb1)))
 exact j93 rfl (.tmp rfl rfl) X (.tail _ (.tail _ (.head _))) rfl rfl ⟨_,_,rfl,⟨v,ds,fs,MD,MU,hm.out,rfl,rfl⟩,(X.sub (List.Sublist.cons _ (List.Sublist.cons _ (iQ _ _)))).rds (fun r hr=>.tail _ hr)⟩):A:=h
theorem fh{A:Prop}(h:A:=by
 exact j93 rfl (.tmp rfl rfl) X (.tail _ (.head _)) rfl rfl ⟨_,_,rfl,⟨v,ds,fs,MD,MU,hm.out,rfl,rfl⟩,X.sub (List.Sublist.cons _ (iQ _ _))⟩):A:=h
theorem kR_(K : JK){S : List Nat}{w0 w : World}{L : List Ent}{R : List Rd}{gj : Nat}{j : Jn}{M : List Ent}{Rj : List Rd}(F : JF gj j M Rj)(X : St S w0 w (M ++ L) (Rj ++ R))(hF : flR 0 ∈ R)(hd : j.down = false) :Calls Tryz.prog 36 #[.pointer (some ⟨gj,0,none⟩)] w fun e w'=>∃M' Rj',e=.returned (j82 j).2.val/\JF gj (j82 j).1 M' Rj'/\St S w0 w' (M'++L) (Rj'++R):=by
 obtain⟨v,ds,fs,MD,MU,hm,rfl,rfl⟩:=F;have hsz:=hm.inv.sz hm.sz;rw[iu] at X;unfold j85 at X;have hNo:=fun c w=>ks8 c w;have hOp:=fun v w h=>K.opn j.now v w h;by_cases hw:j.work=0
 ·have hw2:(j.work != 0)=false:=by simpa using hw
  have hwn:¬j.work≠0:=js hw;clear hw
  cases ho:openB j.now with
  |true=>
   have hJ:j82 j=(j,noR 9):=by unfold j82;rw[ij (.inr ho)]
   rw[hJ]
   rw[ho] at hOp
   clear ho hwn hJ
   replace hNo:=hid hNo;replace hOp:=hid hOp;replace hsz:=hid hsz;replace hm:=hid hm
   go_enter Tryz.func36,Tryz.ntmps36
   go_wp2_with (first|(refine ZyL ?_)| (refine ZyS ?_;clear X;intro w X)| (refine ZyA ?_;clear X;intro g w X)|(go_at_call 74;((with_reducible refine(hNo.out _ _).mono ?_);rintro e w1 ⟨rfl,hb1⟩;replace X:=X.call hb1;clear hb1))|(go_at_call 75;((with_reducible refine(hOp.out _ _ (X.jNow hsz.out (fun r hr=>iv _ hr))).mono ?_);rintro e w1 ⟨rfl,hb1⟩;replace X:=X.call hb1;clear hb1)))
   exact j93 rfl (.tmp rfl rfl) X (.tail _ (.head _)) rfl rfl ⟨_,_,rfl,⟨v,ds,fs,MD,MU,hm.out,rfl,rfl⟩,X.sub (List.Sublist.cons _ (iQ _ _))⟩
  |false=>
   have hl:=hsz.now
   rw[ho] at hOp
   have hwo:¬(j.work≠0\/openB j.now=true):=fun h=>h.elim hwn (by rw[ho];decide)
   clear hwn
   by_cases h0:j.now.mt.length+j.now.dt.length+j.now.rev.length=0
   ·have hJ:j82 j=(j,noR 4):=by unfold j82;rw[ii hwo,ij h0]
    rw[hJ];have e1:(((j.now.mt.length:Int)+(j.now.dt.length:Int)+(j.now.rev.length:Int))==0)=true:=ah;clear ho hwo hJ h0;replace hNo:=hid hNo;replace hOp:=hid hOp;replace hsz:=hid hsz;replace hm:=hid hm;go_enter Tryz.func36,Tryz.ntmps36
    go_wp2_with (first|(refine ZyL ?_)| (refine ZyS ?_;clear X;intro w X)| (refine ZyA ?_;clear X;intro g w X)|(go_at_call 74;((with_reducible refine(hNo.out _ _).mono ?_);rintro e w1 ⟨rfl,hb1⟩;replace X:=X.call hb1;clear hb1))|(go_at_call 75;((with_reducible refine(hOp.out _ _ (X.jNow hsz.out (fun r hr=>iv _ hr))).mono ?_);rintro e w1 ⟨rfl,hb1⟩;replace X:=X.call hb1;clear hb1)))
    exact fh
   ·have e1:(((j.now.mt.length:Int)+(j.now.dt.length:Int)+(j.now.rev.length:Int))==0)=false:=ik.2 aa;by_cases hq:2147483646<=j.now.seq
    ·have hJ:j82 j=(j,noR 11):=by unfold j82;rw[ii hwo,ii h0,ij hq]
     rw[hJ];clear ho hwo hJ h0;replace hNo:=hid hNo;replace hOp:=hid hOp;replace hsz:=hid hsz;replace hm:=hid hm;go_enter Tryz.func36,Tryz.ntmps36
     go_wp2_with (first|(refine ZyL ?_)| (refine ZyS ?_;clear X;intro w X)| (refine ZyA ?_;clear X;intro g w X)|(go_at_call 74;((with_reducible refine(hNo.out _ _).mono ?_);rintro e w1 ⟨rfl,hb1⟩;replace X:=X.call hb1;clear hb1))|(go_at_call 75;((with_reducible refine(hOp.out _ _ (X.jNow hsz.out (fun r hr=>iv _ hr))).mono ?_);rintro e w1 ⟨rfl,hb1⟩;replace X:=X.call hb1;clear hb1)))
     exact fh
    ·have hCm:=fun v w h hF=>K.com j.ring j.now v w h hF;unfold Ring.val at hCm;by_cases hc:comE j.ring j.now=0
     ·have hJ:j82 j=({j with used:=j.used++ [(comR j.ring j.now).used-j.ring.used],ring:=comR j.ring j.now,sealed:=j.now,steps:=comL j.ring j.now,work:=1,now:=j2_ (j.now.seq+1)},⟨0,j.now.seq,⟨#[]⟩⟩):=by unfold j82;rw[ii hwo,ii h0,ii hq,ii (js hc)]
      have hI:=jq2 hd hm.inv;rw[hJ] at hI⊢;dsimp only at hI⊢;rw[hc] at hCm;have hcl:=(jA0 hc).2;obtain⟨g1,g,g3,g4,g5,g6⟩:=j21 hc;obtain⟨u1,u2⟩:=jA_ hc;have u3:=(j71 _).1 u1;have hwr:IntKind.i64.wrap ((comR j.ring j.now).used-j.ring.used)=(comR j.ring j.now).used-j.ring.used:=iz _ aa;have hws:IntKind.i64.wrap (j.now.seq+1)=j.now.seq+1:=iz _ (by have:=g.seq;omega);have hul:=hsz.used;clear ho hwo hJ h0 g1 g g3 g4 g5 g6 u1 u2 u3 hc;generalize comR j.ring j.now=cr at*;generalize comL j.ring j.now=ST at*;replace hNo:=hid hNo;replace hOp:=hid hOp;replace hsz:=hid hsz;replace hm:=hid hm;replace hCm:=hid hCm;replace hI:=hid hI;replace hcl:=hid hcl;rw[iE] at X;go_enter Tryz.func36,Tryz.ntmps36
      go_upto_region 9 with (first|(refine ZyL ?_)| (refine ZyS ?_;clear X;intro w X)| (refine ZyA ?_;clear X;intro g w X)|(go_at_call 74;((with_reducible refine(hNo.out _ _).mono ?_);rintro e w1 ⟨rfl,hb1⟩;replace X:=X.call hb1;clear hb1))|(go_at_call 75;((with_reducible refine(hOp.out _ _ (X.jNow hsz.out (fun r hr=>iv _ hr))).mono ?_);rintro e w1 ⟨rfl,hb1⟩;replace X:=X.call hb1;clear hb1)))
      (refine jQ4 3 [] [5,10,11] [3,4] (.fork [0,1,2,3,4] (.fin [5,6,7,8,9,10,11,12,13]) (.fin [10,5,6,7,8,9,11,12,13])) X ?_;clear X;intro hQ X hL;simp only[zF,zG] at hL;simp only[zF,zG]);refine jE5 (fun _=>?_) hQ;refine Zm ?_;refine Zn ?_;refine Zf ?_;refine Zl ?_;refine Zl ?_;refine jd8 ?_ ?_
      ·refine jN5 ?_;(refine j_0 76 Tryz.func76 (hCm.out _ _ (X.jNow hsz.out (fun r hr=>iv _ hr)) (X.rd _ (ip _ hF)).1) ?_;rintro e w1 ⟨v3,rfl,ho1,hb1⟩;obtain⟨a3,c3,rfl⟩:=ho1.form;replace X:=X.addOwn hb1 ho1;clear hb1 ho1;refine Zce ?_;clear hL;intro hL);refine Zm ?_;refine Zx ?_;refine Zx ?_;refine Zx ?_;(refine Zq ?_;clear hL X;intro g w X hL);exact em
      ·refine jN5 ?_;(refine Zq ?_;clear hL X;intro g w X hL);(refine j_0 76 Tryz.func76 (hCm.out _ _ (X.jNow hsz.out (fun r hr=>iv _ hr)) (X.rd _ (ip _ hF)).1) ?_;rintro e w1 ⟨v3,rfl,ho1,hb1⟩;obtain⟨a3,c3,rfl⟩:=ho1.form;replace X:=X.addOwn hb1 ho1;clear hb1 ho1;refine Zce ?_;clear hL;intro hL);refine Zm ?_;refine Zx ?_;refine Zx ?_;refine Zx ?_;exact em
     ·have hJ:j82 j=(j,noR (comE j.ring j.now)):=by unfold j82;rw[ii hwo,ii h0,ii hq,ij hc]
      rw[hJ];have hc2:(comE j.ring j.now != 0)=true:=by simpa using hc
      clear ho hwo hJ h0 hc;generalize comR j.ring j.now=cr at*;generalize comL j.ring j.now=ST at*;generalize comE j.ring j.now=cE at*;replace hNo:=hid hNo;replace hOp:=hid hOp;replace hsz:=hid hsz;replace hm:=hid hm;replace hCm:=hid hCm;go_enter Tryz.func36,Tryz.ntmps36
      go_upto_region 9 with (first|(refine ZyL ?_)| (refine ZyS ?_;clear X;intro w X)| (refine ZyA ?_;clear X;intro g w X)|(go_at_call 74;((with_reducible refine(hNo.out _ _).mono ?_);rintro e w1 ⟨rfl,hb1⟩;replace X:=X.call hb1;clear hb1))|(go_at_call 75;((with_reducible refine(hOp.out _ _ (X.jNow hsz.out (fun r hr=>iv _ hr))).mono ?_);rintro e w1 ⟨rfl,hb1⟩;replace X:=X.call hb1;clear hb1)))
      (refine jQ4 3 [] [5,10,11] [3,4] (.fork [0,1,2,3,4] (.fin [5,6,7,8,9,10,11,12,13]) (.fin [10,5,6,7,8,9,11,12,13])) X ?_;clear X;intro hQ X hL;simp only[zF,zG] at hL;simp only[zF,zG]);refine jE5 (fun _=>?_) hQ;refine Zm ?_;refine Zn ?_;refine Zf ?_;refine Zl ?_;refine Zl ?_;refine jd8 ?_ ?_
      ·refine jN5 ?_;(refine j_0 76 Tryz.func76 (hCm.out _ _ (X.jNow hsz.out (fun r hr=>iv _ hr)) (X.rd _ (ip _ hF)).1) ?_;rintro e w1 ⟨v3,rfl,ho1,hb1⟩;obtain⟨a3,c3,rfl⟩:=ho1.form;replace X:=X.addOwn hb1 ho1;clear hb1 ho1;refine Zce ?_;clear hL;intro hL);refine Zm ?_;refine Zx ?_;refine Zx ?_;refine Zx ?_;(refine Zq ?_;clear hL X;intro g w X hL);exact eR
      ·refine jN5 ?_;(refine Zq ?_;clear hL X;intro g w X hL);(refine j_0 76 Tryz.func76 (hCm.out _ _ (X.jNow hsz.out (fun r hr=>iv _ hr)) (X.rd _ (ip _ hF)).1) ?_;rintro e w1 ⟨v3,rfl,ho1,hb1⟩;obtain⟨a3,c3,rfl⟩:=ho1.form;replace X:=X.addOwn hb1 ho1;clear hb1 ho1;refine Zce ?_;clear hL;intro hL);refine Zm ?_;refine Zx ?_;refine Zx ?_;refine Zx ?_;exact eR
 ·have hJ:j82 j=(j,noR 9):=by unfold j82;rw[ij (.inl hw)]
  rw[hJ];have hw2:(j.work != 0)=true:=bK;clear hw hJ;replace hNo:=hid hNo;replace hOp:=hid hOp;replace hsz:=hid hsz;replace hm:=hid hm;go_enter Tryz.func36,Tryz.ntmps36
  go_wp2_with (first|(refine ZyL ?_)| (refine ZyS ?_;clear X;intro w X)| (refine ZyA ?_;clear X;intro g w X)|(go_at_call 74;((with_reducible refine(hNo.out _ _).mono ?_);rintro e w1 ⟨rfl,hb1⟩;replace X:=X.call hb1;clear hb1)))
  exact fh
theorem ky6{S : List Nat}{w0 w : World}{LL : List Ent}{RR : List Rd}{gj : Nat}{j : Jn}{v : JV}{fs : List TV}(X : St S w0 w (⟨gj, j85 v j, 84⟩ :: LL) RR)(hft:kj2 tvC (.slice v.ft.a j.found.txns.length v.ft.c) fs∈RR) (hin:∀r∈inR fs,r∈RR) (hfm:fs.map (·.t)=j.found.txns) (hfl:fs.length<=25) (hgd:∀t∈j.found.txns,goodT t=true) (hnx:1<=j.found.next/\j.found.next<=2147483647):Calls Tryz.prog 73 #[.pointer (some ⟨gj,0,none⟩)] w fun e w'=>∃u,e=.returned u/\St S w0 w' (⟨gj,j85 (jW9 v.sf v.wr) (kE0 j),84⟩::LL) RR:=by
 have hlen:j.found.txns.length=fs.length:=by rw[<-hfm,iZ]
 have hwr:IntKind.i64.wrap (j.found.next-1)=j.found.next-1:=iz _ aa;unfold j85 at X;go_enter Tryz.func73,Tryz.ntmps73
 go_wp2_with (first|(refine ZyL ?_)| (refine ZyS ?_;clear X;intro w X)| (refine ZyA ?_;clear X;intro g w X))
 obtain⟨g3,g2,rfl,rfl⟩:=X.nm2
 go_loopw [15] (fun i wr=>∃k:Nat,k<=12/\i=.int .i64 k/\St S w0 wr (⟨g3,kD9 (kr6 k),53⟩::⟨g2,[.slice v.ft.a j.found.txns.length v.ft.c,.int .i64 j.found.next,.int .i64 j.found.at_],56⟩::⟨gj,j85 v j,84⟩::LL) RR) (fun i _=>12-(intOf i).toNat)
 case atStart=>exact⟨0,iq _,rfl,X⟩
 case round=>
  clear X;obtain⟨k,hk,rfl,X⟩:=hrel;by_cases hlt:k<12
  ·go_wp2_with (first|(refine j66 rfl ?_;refine j10 rfl ?_;refine j11 rfl _ _ _ rfl rfl Zev X rfl rfl Zpv ?_;intro w X2;replace X:=X2;clear X2;(simp only[Act.put,zA,zB,zC,zD,zE,zF,zG,Nat.reduceAdd])))
   rw[k89 _ hlt,kQ2] at X;go_roundw
   case rel=>exact⟨k+1,aa,an,X⟩
   case measure=>simp[intOf];omega
  ·obtain rfl:k=12:=by omega
   have X9:=X;rw[kQ1] at X9;clear X;have X:=X9;clear X9;rw[hlen] at X
   go_wp2_with (first|(refine ZyL ?_)| (refine ZyS ?_;clear X;intro w X)| (refine ZyA ?_;clear X;intro g w X))
   go_loopw [24] (fun i wr=>∃k:Nat,k<=fs.length/\i=.int .i64 k/\St S w0 wr (⟨g3,kD9 (riseR (j.found.txns.take k)),53⟩::⟨g2,[.slice v.ft.a fs.length v.ft.c,.int .i64 j.found.next,.int .i64 j.found.at_],56⟩::⟨gj,j85 v j,84⟩::LL) RR) (fun i _=>fs.length-(intOf i).toNat)
   case atStart=>exact⟨0,iq _,rfl,X⟩
   case round=>
    clear X;obtain⟨k,hk,rfl,X⟩:=hrel;by_cases hlt:k<fs.length
    ·rw[hlen] at hft;have hltt:k<j.found.txns.length:=aa;have hst:=kY_ hltt;have hte:j.found.txns[k]=fs[k].t:=by simp only[<-hfm,kv]
     have hgk:=kT8 (hgd _ (iM hltt));rw[hte] at hst hgk;obtain⟨b4,off4,hb4,c0,c1,c2,c3,c4,c5,c6,c7,c8,c9⟩:=km8 (X.read hft) hlt;obtain⟨e1,e2,e3⟩:=kS5 hlt;have e1:=hin _ e1;have e3:=hin _ e3;have e2:=hin _ e2;obtain⟨am,cm,hm1,_⟩:=(X.read e1).form;obtain⟨ar,cr,hr1,_⟩:=(X.read e3).form;obtain⟨ad,cd,hd1,_⟩:=(X.read e2).form;rw[hm1] at e1 c1;rw[hr1] at e3 c3;rw[hd1] at c2;clear e2 hd1;rw[hb4] at X⊢;have hte0:=hte;clear hte hm1 hr1;have hfit:(fs[k]).t.rev.length<=17592186044160/\(fs[k]).t.mt.length<=5864062014805:=⟨cJ,cJ⟩;clear hte0;generalize fs[k].t=t at*;generalize riseR (j.found.txns.take k)=f0 at*;generalize hrn:riseR (j.found.txns.take (k+1))=fN at*;replace hrn:=hid hrn;replace hst:=hid hst;replace hgk:=hid hgk
     go_wp2_with (first|(refine ZyL ?_)| (refine ZyS ?_;clear X;intro w X)| (refine ZyA ?_;clear X;intro g w X))
     obtain⟨g6,rfl⟩:=X.nm1;clear c0 c1 c2 c3 c4 c5 c6 c7 c8 c9;have hgr:=hgk.out.1;have hgm:=hgk.out.2;have hl1:t.rev.length<=17592186044160:=hfit.1;have hl2:t.mt.length<=5864062014805:=hfit.2
     go_loopw [31] (fun i w2=>∃m:Nat,m<=t.rev.length/\i=.int .i64 m/\St S w0 w2 (⟨g6,[.int .i64 t.seq,.slice am t.mt.length cm,.slice ad t.dt.length cd,.slice ar t.rev.length cr,.bool t.h0.on,.int .i64 t.h0.left,.bool t.h1.on,.int .i64 t.h1.left,.bool t.h2.on,.int .i64 t.h2.left],51⟩::⟨g3,kD9 (rvF12 f0 (t.rev.take m)),53⟩::⟨g2,[.slice (some ⟨b4,off4,none⟩) fs.length v.ft.c,.int .i64 j.found.next,.int .i64 j.found.at_],56⟩::⟨gj,j85 v j,84⟩::LL) RR) (fun i _=>t.rev.length-(intOf i).toNat)
     case atStart=>exact⟨0,iq _,rfl,X⟩
     case round=>
      clear X;obtain⟨m,hm,rfl,X⟩:=hrel;by_cases hmlt:m<t.rev.length
      ·obtain⟨b5,off5,hb5,d0⟩:=kl6 (fun x:Int=>.int .i64 x) (fun _=>rfl) (X.read e3) hmlt;have hs2:=kY4 f0 hmlt;have hbb:=hgr _ (iM hmlt);generalize t.rev[m]=x at*;obtain⟨xn,rfl⟩:∃xn:Nat,x=xn:=⟨x.toNat,aa⟩;have hx12:xn<12:=aa;rw[hb5] at X⊢;replace hs2:=hid hs2;generalize hfn:rvF12 f0 (t.rev.take (m+1))=fn2 at*;generalize rvF12 f0 (t.rev.take m)=fo2 at*;replace hfn:=hid hfn
       go_wp2_with (first|(refine j66 rfl ?_;refine j10 rfl ?_;refine j11 rfl _ _ _ rfl rfl Zev X rfl rfl Zpv ?_;intro w X2;replace X:=X2;clear X2;(simp only[Act.put,zA,zB,zC,zD,zE,zF,zG,Nat.reduceAdd])))
       rw[k89 _ hx12,<-hs2.out,<-hfn.out] at X;go_roundw
       case rel=>exact⟨m+1,aa,an,X⟩
       case measure=>simp[intOf];omega
      ·obtain rfl:m=t.rev.length:=by omega
       rw[iY] at X;have hst1:=hst.out;generalize rvF12 f0 t.rev=f1 at*;clear hst
       go_wp2_with (first|(refine ZyL ?_)| (refine ZyS ?_;clear X;intro w X)| (refine ZyA ?_;clear X;intro g w X))
       have X9:=X.sub (iQ _ _);clear X;have X:=X9;clear X9
       go_loopw [41] (fun i w2=>∃m:Nat,m<=t.mt.length/\i=.int .i64 m/\St S w0 w2 (⟨g3,kD9 (mtF12 f1 (t.mt.take m)),53⟩::⟨g2,[.slice (some ⟨b4,off4,none⟩) fs.length v.ft.c,.int .i64 j.found.next,.int .i64 j.found.at_],56⟩::⟨gj,j85 v j,84⟩::LL) RR) (fun i _=>t.mt.length-(intOf i).toNat)
       case atStart=>exact⟨0,iq _,rfl,X⟩
       case round=>
        clear X;obtain⟨m,hm,rfl,X⟩:=hrel;by_cases hmlt:m<t.mt.length
        ·obtain⟨b5,off5,hb5,d0,d1⟩:=kj3 (fun x:Cpy=>.int .i64 x.block) (fun x=>.string x.text) (fun _=>rfl) (X.read e1) hmlt;have hs2:=k08 f1 hmlt;have hbb:=hgm _ (iM hmlt);obtain⟨⟨x,tx⟩,hx⟩:∃y,t.mt[m]=y:=⟨_,rfl⟩;rw[hx] at d0 d1 hs2 hbb;clear hx;dsimp only at d0 d1 hs2 hbb;obtain⟨xn,rfl⟩:∃xn:Nat,x=xn:=⟨x.toNat,aa⟩;have hx12:xn<12:=aa;rw[hb5];replace hs2:=hid hs2;generalize hfn:mtF12 f1 (t.mt.take (m+1))=fn2 at*;generalize mtF12 f1 (t.mt.take m)=fo2 at*;replace hfn:=hid hfn
         go_upto_region 18 with (first|(refine ZyL ?_)| (refine ZyS ?_;clear X;intro w X)| (refine ZyA ?_;clear X;intro g w X))
         go_wp2_with (first|(refine ZyL ?_)| (refine ZyS ?_;clear X;intro w X)| (refine ZyA ?_;clear X;intro g w X)|(refine j66 rfl ?_;refine j10 rfl ?_;refine j11 rfl _ _ _ rfl rfl Zev X rfl rfl Zpv ?_;intro w X2;replace X:=X2;clear X2;(simp only[Act.put,zA,zB,zC,zD,zE,zF,zG,Nat.reduceAdd])))
         rw[k89 _ hx12,<-hs2.out,<-hfn.out] at X;go_roundw
         case rel=>exact⟨m+1,aa,an,X.sub (iQ _ _)⟩
         case measure=>simp[intOf];omega
        ·obtain rfl:m=t.mt.length:=by omega
         rw[iY,<-hst1,<-hrn.out] at X;go_wp2;go_roundw
         case rel=>exact⟨k+1,aa,an,X⟩
         case measure=>simp[intOf];omega
    ·obtain rfl:k=fs.length:=by omega
     rw[<-hlen,iY,hlen] at X;unfold j85 at X
     go_upto_region 21 with (first|(refine ZyL ?_)| (refine ZyS ?_;clear X;intro w X)| (refine ZyA ?_;clear X;intro g w X))
     (refine j__ 3 [21] [21] [4,6,9,12,14,18] [0,1,2,3,4,5,6,7,8,9,10,11,12,13,14,15,16,17,18,19,20,21] X ?_;clear X;intro hQ X hL;simp only[zF,zG] at hL;simp only[zF,zG]);refine Zm ?_;refine Zm ?_;refine Zn ?_;refine Zf ?_;refine Zl ?_;refine Zf ?_;refine Zl ?_;refine Zg ?_;refine Zf ?_;refine Zl ?_;refine Zg ?_;refine Zf ?_;refine Zl ?_;refine Zg ?_;refine Zl ?_;refine Zm ?_;refine Zn ?_;refine Zf ?_;refine Zl ?_;refine Zg ?_;refine Zn ?_;(refine Zb ?_;clear X;intro w X);refine j90 ?_;exact bodyPost_end (results_none rfl _ _ _) rfl ⟨_,rfl,X.sub (List.Sublist.cons _ (iQ _ _))⟩
end Go.Proofs.YtlecmdajpfkaeaaGreatDoor
namespace Wb
open Go Go.RowKit
section
variable{TJ Tt Ti:TypeId}{S:List Nat}{w0 w:World}{gj:Nat}{v:JV}{j:Jn}{ds fs:List TV}{MD MU L:List Ent}{R R1:List Rd}{e:Ending}{u:Value}
theorem JMk(A:List Ent)(X:St S w0 w (A++(⟨gj,j85 v j,TJ⟩::(MD++(MU++L)))) R1)(hm:JFm Tt Ti v j ds fs MD MU)(hr:∀r∈jRds v j ds fs++R,r∈R1):∃M' Rj',ku9 TJ Tt Ti gj j M' Rj'/\St S w0 w (M'++L) (Rj'++R):=
 ⟨_,_,⟨v,ds,fs,MD,MU,hm,rfl,rfl⟩,by rw[iu,iE];exact(X.sub (jD _ _)).rds hr⟩
end
end Wb
namespace Go.Proofs.YtlecmdajpfkaeaaGreatDoor
open Go.RowKit Wb
theorem _root_.Wb.step_eq{j:Jn}{s:Stp}{r:List Stp}(hw:j.work≠0)(hs:j.steps=s::r)(he:jF0 j.disk s=0):jR5 j=if r=[] then kX7 {j with disk:=jV2 j.disk s,steps:=[]} else({j with disk:=jV2 j.disk s,steps:=r},noR 0):=by
 unfold jR5;rw[ii hw,hs];dsimp only;rw[ii (by rw[he];decide)]
theorem ky7(K : JK){S : List Nat}{w0 w : World}{L : List Ent}{R : List Rd}{gj : Nat}{j : Jn}{M : List Ent}{Rj : List Rd}(F : JF gj j M Rj)(X : St S w0 w (M ++ L) (Rj ++ R)) :Calls Tryz.prog 35 #[.pointer (some ⟨gj,0,none⟩)] w fun e w'=>∃M' Rj',e=.returned (jR5 j).2.val/\JF gj (jR5 j).1 M' Rj'/\St S w0 w' (M'++L) (Rj'++R):=by
 obtain⟨v,ds,fs,MD,MU,hm,rfl,rfl⟩:=F;have hsz:=hm.inv.sz hm.sz;have hdk:=hsz.dk;rw[iu,iE] at X;unfold j85 at X;by_cases hw:j.work=0
 ·have hJ:jR5 j=(j,noR 4):=by unfold jR5;rw[ij hw]
  rw[hJ];have hw2:(j.work==0)=true:=bK;clear hw hJ;go_enter Tryz.func35,Tryz.ntmps35
  go_wp2_with (first|(refine ZyL ?_)| (refine ZyS ?_;clear X;intro w X)| (refine ZyA ?_;clear X;intro g w X))
  exact j93 rfl (.tmp rfl rfl) X (.head _) rfl rfl ⟨_,_,rfl,⟨v,ds,fs,MD,MU,hm,rfl,rfl⟩,by rw[iu,iE];exact X.sub (iQ _ _)⟩
 ·obtain⟨s,r,hs,he⟩:=jz9 hm.inv hw;have hJ:=step_eq hw hs he;have hI:=k53 hm.inv;have hwk:=k54 hm.inv hw;have hw2:(j.work==0)=false:=ik.2 hw;have hrl:r.length<=100:=by have:=hm.sz.2;rw[hs,iB] at this;omega
  have mst:kj2 jY3 (.slice v.st.a j.steps.length v.st.c) j.steps∈jRds v j ds fs++R:=Zfl;have hl:j.steps.length=r.length+1:=by rw[hs];rfl
  rw[hs] at mst;obtain⟨b,off,hb,_⟩:=RL.at3 (fun x:Stp=>.int .i64 x.kind) (fun x=>.int .i64 x.at_) (fun x=>.string x.text) (fun _=>rfl) (X.read mst) (k:=0) (mj _);have hcap:r.length+1<=v.st.c:=bi;have hmx:v.st.c-1<=maxLen:=bO;rw[hb] at mst X;rw[hl] at X;rw[hJ] at hI⊢;clear hJ hw hl hb;obtain⟨sk,sa,tx⟩:=s;have hFl:=fun v w (h:j_7 w v j.disk)=>K.flush j.disk v w h;have hPu:=fun v w (h:j_7 w v j.disk)=>K.put j.disk sa tx v w h;obtain⟨D,hD⟩:∃D,jV2 j.disk ⟨sk,sa,tx⟩=D:=⟨_,rfl⟩;rw[hD] at hI⊢;generalize hJJ:(if r=[] then kX7 {j with disk:=D,steps:=[]} else({j with disk:=D,steps:=r},noR 0))=JJ at*;replace hJJ:=hid hJJ;unfold jF0 at he;unfold jV2 at hD;dsimp only at he hD;replace hFl:=hid hFl;replace hPu:=hid hPu;replace hI:=hid hI;replace hm:=hid hm;replace hsz:=hid hsz;replace he:=hid he;replace hD:=hid hD;replace hwk:=hid hwk;go_enter Tryz.func35,Tryz.ntmps35
  go_upto_region 3 with (first|(refine ZyL ?_)| (refine ZyS ?_;clear X;intro w X)| (refine ZyA ?_;clear X;intro g w X))
  obtain⟨b2,off2,hb2,d0,d1,d2⟩:=RL.at3 (fun x:Stp=>.int .i64 x.kind) (fun x=>.int .i64 x.at_) (fun x=>.string x.text) (fun _=>rfl) (X.read mst) (k:=0) (mj _)
  cases hb2
  simp only[List.getElem_cons_zero,kq,Nat.add_zero] at d0 d1 d2
  go_upto_if 20 with (first|(refine ZyL ?_)| (refine ZyS ?_;clear X;intro w X)| (refine ZyA ?_;clear X;intro g w X))
  clear d0 d1 d2;obtain⟨g3,g2,rfl,rfl⟩:=X.nm2
  go_cut [4] (fun s4 wx=>∃(as2 aw2:Option Addr) (cs2 cw2:Nat),s4=.int .i64 0/\St S w0 wx (⟨g3,[.int .i64 sk,.int .i64 sa,.string tx],105⟩::⟨g2,[.int .i64 0,.int .i64 0,.string ⟨#[]⟩],32⟩::⟨gj,j85 {v with sf:=⟨as2,cs2⟩,wr:=⟨aw2,cw2⟩,st:=⟨some ⟨b,off,none⟩,v.st.c⟩} {j with disk:=D,steps:=⟨sk,sa,tx⟩::r},84⟩::(MD++(MU++L))) (ji8 as2 cs2 aw2 cw2 D++(jRds v j ds fs++R)))
  case first=>
   by_cases hk:sk=2
   ·have hk2:(sk==2)=true:=by simpa using hk
    have h1:=he.out;have h2:=hD.out;rw[ij hk] at h1 h2;have hFl2:=hFl.out;rw[h1,h2] at hFl2;clear hPu hFl h1 h2 hk;replace hFl2:=hid hFl2
    go_wp2_with (first|(refine ZyL ?_)| (refine ZyS ?_;clear X;intro w X)| (refine ZyA ?_;clear X;intro g w X)|(go_at_call 31;((with_reducible refine(hFl2.out _ _ (X.jDisk hdk (fun r hr=>iv _ hr))).mono ?_);rintro e w1 ⟨v1,rfl,hr1,hn1,hb1⟩;obtain⟨as2,cs2,aw2,cw2,rfl,X2⟩:=X.addNewD hb1 hn1 (fun r hr=>iv _ (jV3 r hr));replace X:=X2;clear X2 hb1 hn1 hr1)))
    go_meet;exact⟨_,_,_,_,rfl,X⟩
   ·have hk2:(sk==2)=false:=ik.2 hk;have h1:=he.out;have h2:=hD.out;rw[ii hk] at h1 h2;have hPu2:=hPu.out;rw[h1,h2] at hPu2;clear hPu hFl h1 h2 hk;replace hPu2:=hid hPu2
    go_upto_region 7 with (first|(refine ZyL ?_)| (refine ZyS ?_;clear X;intro w X)| (refine ZyA ?_;clear X;intro g w X))
    (refine j__ 3 [15] [9,15] [4,6,8] [0,1,2,3,4,5,6,7,8,9,10,11,12,13,14,15,16] X ?_;clear X;intro hQ X hL;simp only[zF,zG] at hL;simp only[zF,zG]);refine Zm ?_;refine Zm ?_;refine Zn ?_;refine Zf ?_;refine Zl ?_;refine Zf ?_;refine Zl ?_;refine Zf ?_;refine Zl ?_;(refine j_0 30 Tryz.func30 (hPu2.out _ _ (X.jDisk hdk (fun r hr=>iv _ hr))) ?_;rintro e w1 ⟨v1,rfl,hr1,hn1,hb1⟩;obtain⟨as2,cs2,aw2,cw2,rfl,X2⟩:=X.addNewD hb1 hn1 (fun r hr=>iv _ (jV3 r hr));replace X:=X2;clear X2 hb1 hn1 hr1;refine Zce ?_;clear hL;intro hL);refine Zm ?_;refine Zx ?_;refine Zx ?_;refine Zn ?_;refine Zf ?_;(refine Zb ?_;clear X;intro w X);refine Za ?_;refine j90 ?_;go_wp2;go_meet;exact⟨_,_,_,_,rfl,X⟩
  clear X hFl hPu he;obtain⟨as2,aw2,cs2,cw2,rfl,X⟩:=hcut;unfold j85 at X;dsimp only at X
  cases r with
  |cons x r=>
   have hI2:=hI.out
   obtain rfl:=(ii ag).symm.trans hJJ.out
   clear hwk hI
   have hI:=hI2
   simp only[iB] at X hcap hrl
   replace hI:=hid hI
   go_wp2_with (first|(refine ZyL ?_)| (refine ZyS ?_;clear X;intro w X)| (refine ZyA ?_;clear X;intro g w X))
   all_goals
    have X9:=X.addDrop (c:=3) (fun _=>rfl) (.tail _ (.tail _ mst))
    refine j93 rfl (.tmp rfl rfl) X (.tail _ (.head _)) rfl rfl ?_
    first|refine RMa ?_ rfl|refine RMb ?_ rfl
    exact⟨_,_,⟨{v with sf:=⟨as2,cs2⟩,wr:=⟨aw2,cw2⟩,st:=⟨some ⟨b,off+3,none⟩,v.st.c-1⟩},ds,fs,MD,MU,⟨hm.out.dn,hm.out.us,hm.out.dmap,hm.out.fmap,hm.out.dfit,hm.out.ffit,hI.out,⟨hm.out.sz.1,hrl⟩⟩,rfl,rfl⟩,(by rw[iu,iE];refine St.rds (X9.sub (List.Sublist.cons _ (iQ _ _))) ?_;exact j7_ Zfl Zfl Zfl Zfl Zfl Zfl Zfl Zfl Zfl Zfl (fun r hr=>.tail _ (.tail _ (.tail _ (jR2 r hr)))) (fun r hr=>.tail _ (.tail _ (.tail _ (jQ1 r hr)))) (fun r hr=>.tail _ (.tail _ (.tail _ (show r∈jRds v j ds fs++R from ip _ hr)))))⟩
  |nil=>
   have hI2:=hI.out
   have hJ2:=(ij rfl).symm.trans hJJ.out
   clear hI hJJ
   have hI:=hI2
   have hLL:L.Sublist (MD++(MU++L)):=(jD _ _).trans (jD _ _)
   simp only[iB,iC,jm] at X hcap
   rcases hwk.out with h1|⟨h2,hp,hul,hne⟩|⟨h3,hgd,hnx⟩
   ·unfold kX7 at hJ2
    try dsimp only at hJ2
    rw[ij h1] at hJ2
    try dsimp only at hJ2
    subst hJ2;have hw3:(j.work==1)=true:=dX;clear h1;have hdl:ds.length=j.done.length:=dB;have hdb:=hsz.out.done;have hsf:=hsz.out.sealed;replace hI:=hid hI
    go_upto_region 18 with (first|(refine ZyL ?_)| (refine ZyS ?_;clear X;intro w X)| (refine ZyA ?_;clear X;intro g w X))
    all_goals
     (refine j__ 3 [13] [9,10,13] [4,8] [0,1,2,3,4,5,6,7,8,9,10,11,12,13] X ?_;clear X;intro hQ X hL;simp only[zF,zG] at hL;simp only[zF,zG])
     refine Zm ?_
     refine Zm ?_
     refine Zn ?_
     refine Zf ?_
     refine Zl ?_
     refine Zm ?_
     refine Zn ?_
     refine Zf ?_
     refine Zl ?_
     (refine jY7 rfl rfl Zev ay ay X hL rfl rfl ?_;intro g w X2 hL2;replace X:=X2;replace hL:=hL2;clear X2 hL2;(simp only[Act.put,zA,zB,zC,zD,zE,zF,zG,Nat.reduceAdd]))
     refine kO_ (_::_::_:: []) rfl rfl (⟨j.sealed,⟨v.sm.a,j.sealed.mt.length,v.sm.c⟩,⟨v.sd.a,j.sealed.dt.length,v.sd.c⟩,⟨v.sr.a,j.sealed.rev.length,v.sr.c⟩⟩:TV) jZ0 X hL hm.out.dn Zev Zev rfl aa Zsu rfl rfl ?_
     intro a5 c5 w5 MD5 hO5 X2 hL2
     replace X:=X2
     replace hL:=hL2
     clear X2 hL2
     simp only[iu,iw] at X hL
     (simp only[Act.put,zA,zB,zC,zD,zE,zF,zG,Nat.reduceAdd])
     refine Zn ?_
     refine Zf ?_
     (refine Zb ?_;clear X;intro w X)
     refine j90 ?_
     go_wp2_with (first|(refine ZyL ?_)| (refine ZyS ?_;clear X;intro w X)| (refine ZyA ?_;clear X;intro g w X))
     all_goals
      have hdl2:ds.length+1=(j.done++ [j.sealed]).length:=by simp[hdl]
      rw[hdl2] at hO5 X
      refine j93 rfl (.tmp rfl rfl) X (.tail _ (.head _)) rfl rfl ?_
      first|refine RMa ?_ rfl|refine RMb ?_ rfl
      exact JMk (v:=⟨⟨as2,cs2⟩,⟨aw2,cw2⟩,v.nm,v.nd,v.nr,j23,j23,j23,⟨a5,c5⟩,v.us,⟨_,v.st.c-1⟩,v.ft⟩) [_,_] (X.addEmpty _ hmx).addNil ⟨hO5,hm.out.us,by rw[jC,hm.out.dmap];rfl,hm.out.fmap,k66 hm.out.dfit (⟨by show j.sealed.mt.length<=_;omega,by show j.sealed.dt.length<=_;omega,by show j.sealed.rev.length<=_;omega⟩),hm.out.ffit,hI.out,⟨hm.out.sz.1,iq _⟩⟩ (j7_ Zfl Zfl Zfl Zfl Zfl Zfl Zfl Zfl (.tail _ (.head _)) Zfl (fun r hr=>.tail _ (.tail _ (.tail _ (.tail _ (jR2 r hr))))) (kS6 (y:=(⟨j.sealed,⟨v.sm.a,j.sealed.mt.length,v.sm.c⟩,⟨v.sd.a,j.sealed.dt.length,v.sd.c⟩,⟨v.sr.a,j.sealed.rev.length,v.sr.c⟩⟩:TV)) (fun r hr=>.tail _ (.tail _ (.tail _ (.tail _ (jQ1 r hr))))) Zfl Zfl Zfl) (fun r hr=>.tail _ (.tail _ (.tail _ (.tail _ (show r∈jRds v j ds fs++R from ip _ hr))))))
   ·unfold kX7 at hJ2
    try dsimp only at hJ2
    rw[ii (by rw[h2];decide),ij h2] at hJ2
    try dsimp only at hJ2
    have hw3:(j.work==1)=false:=by rw[h2];rfl
    have hw4:(j.work==2)=true:=by rw[h2];rfl
    clear h2;have hdr:j.done.drop j.pending.toNat=[]:=cU;have hur:j.used.drop j.pending.toNat=[]:=by rw[hp,Int.toNat_natCast,<-hul,lC]
    rw[hdr,hur] at hJ2;subst hJ2;clear hdr hur;have hdl:ds.length=j.done.length:=dB;obtain⟨bd,od,hbd,hnd,hcd,hO5⟩:=hm.out.dn.drop jZ0 aa;obtain⟨bu,ou,hbu,hnu,hcu,hO6⟩:=hm.out.us.drop j9_ aa;rw[hbd,hbu,hp,hul] at X;rw[hul] at hO6 hcu;have hdb:=hsz.out.done;clear hbd hbu hul hdl hnd hnu;replace hp:=hid hp;replace hO5:=hid hO5;replace hO6:=hid hO6;replace hI:=hid hI
    go_upto_region 22 with (first|(refine ZyL ?_)| (refine ZyS ?_;clear X;intro w X)| (refine ZyA ?_;clear X;intro g w X))
    all_goals
     (refine j__ 3 [27,30,33] [27,30,33] [6,10,14,19,23] [0,1,2,3,4,5,6,7,8,9,10,11,12,13,14,15,16,17,18,19,20,21,22,23,24,25,26,27,28,29,30,31,32,33] X ?_;clear X;intro hQ X hL;simp only[zF,zG] at hL;simp only[zF,zG])
     refine Zm ?_
     refine Zm ?_
     refine Zm ?_
     refine Zm ?_
     refine Zn ?_
     refine Zf ?_
     refine Zl ?_
     refine Zm ?_
     refine Zn ?_
     refine Zf ?_
     refine Zl ?_
     refine Zm ?_
     refine Zn ?_
     refine Zf ?_
     refine Zl ?_
     refine Zg ?_
     refine Zm ?_
     refine Zn ?_
     refine Zf ?_
     refine Zl ?_
     refine Zm ?_
     refine Zn ?_
     refine Zf ?_
     refine Zl ?_
     refine Zg ?_
     refine Zn ?_
     refine Zf ?_
     (refine Zb ?_;clear X;intro w X)
     refine Zn ?_
     refine Zf ?_
     (refine Zb ?_;clear X;intro w X)
     refine Zn ?_
     refine Zf ?_
     (refine Zb ?_;clear X;intro w X)
     refine j90 ?_
     go_wp2_with (first|(refine ZyL ?_)| (refine ZyS ?_;clear X;intro w X)| (refine ZyA ?_;clear X;intro g w X))
     all_goals
      rw[<-hp.out] at X
      refine j93 rfl (.tmp rfl rfl) X (.tail _ (.head _)) rfl rfl ?_
      first|refine RMa ?_ rfl|refine RMb ?_ rfl
      exact JMk (v:=⟨⟨as2,cs2⟩,⟨aw2,cw2⟩,v.nm,v.nd,v.nr,v.sm,v.sd,v.sr,⟨_,v.dn.c-j.done.length⟩,⟨_,v.us.c-j.done.length⟩,⟨_,v.st.c-1⟩,v.ft⟩) [_,_] (X.addEmpty _ hmx).addNil ⟨hO5.out _ (by(dsimp only;generalize instDecidableEqNat v.dn.c j.done.length=dd;cases dd<;>first|exact .inl rfl|exact .inr ⟨aa,rfl⟩)),hO6.out _ (by(dsimp only;rw[jA];generalize instDecidableEqNat v.us.c j.done.length=dd;cases dd<;>first|exact .inl rfl|exact .inr ⟨aa,rfl⟩)),rfl,hm.out.fmap,(fun x hx=>cI),hm.out.ffit,hI.out,⟨hm.out.sz.1,iq _⟩⟩ (j7_ Zfl Zfl Zfl Zfl Zfl Zfl Zfl Zfl (.tail _ (.head _)) Zfl (fun r hr=>.tail _ (.tail _ (.tail _ (.tail _ (jR2 r hr))))) (fun r hr=>by cases hr) (fun r hr=>.tail _ (.tail _ (.tail _ (.tail _ (show r∈jRds v j ds fs++R from ip _ hr))))))
   ·unfold kX7 at hJ2
    try dsimp only at hJ2
    rw[ii (by rw[h3];decide),ii (by rw[h3];decide),ij h3] at hJ2
    try dsimp only at hJ2
    subst hJ2;have hw3:(j.work==1)=false:=by rw[h3];rfl
    have hw4:(j.work==2)=false:=by rw[h3];rfl
    have hw5:(j.work==3)=true:=by rw[h3];rfl
    clear h3;have hfl:fs.length<=25:=by have:=hsz.out.found;rw[<-hm.out.fmap,iZ] at this;exact this
    replace hI:=hid hI
    go_upto_region 24 with (first|(refine ZyL ?_)| (refine ZyS ?_;clear X;intro w X)| (refine ZyA ?_;clear X;intro g w X))
    all_goals
     have Xp:=X.perm ((iP (l₁:=[_,_]) (l₂:=[_])).append_right _)
     have hRi:=hid (ky6 (v:=⟨⟨as2,cs2⟩,⟨aw2,cw2⟩,v.nm,v.nd,v.nr,v.sm,v.sd,v.sr,v.dn,v.us,⟨_,v.st.c-1⟩,v.ft⟩) (j:={j with disk:=D,steps:=[],work:=0}) (fs:=fs) Xp Zfl (fun r hr=>.tail _ (.tail _ (jR2 r hr))) hm.out.fmap hfl hgd hnx)
     go_wp2_with (first|(refine ZyL ?_)| (refine ZyS ?_;clear X;intro w X)| (refine ZyA ?_;clear X;intro g w X)|(go_at_call 73;((with_reducible refine(hRi.out).mono ?_);rintro e w1 ⟨u,rfl,X2⟩;replace X:=X2.perm ((iP (l₁:=[_]) (l₂:=[_,_])).append_right _);clear X2 Xp)))
     all_goals
      (try simp only[iu,iw] at X)
      refine j93 rfl (.tmp rfl rfl) X (.tail _ (.head _)) rfl rfl ?_
      first|refine RMa ?_ rfl|refine RMb ?_ rfl
      exact⟨_,_,⟨jW9 ⟨as2,cs2⟩ ⟨aw2,cw2⟩,[],[],[],[],⟨.nil _ _ _,.nil _ _ _,rfl,rfl,(fun x hx=>cI),(fun x hx=>cI),hI.out,⟨iq _,iq _⟩⟩,rfl,rfl⟩,X.jZero rfl rfl rfl rfl (List.Sublist.cons _ (List.Sublist.cons _ (List.Sublist.cons_cons _ hLL))) (fun r hr=>ip _ hr)⟩
end Go.Proofs.YtlecmdajpfkaeaaGreatDoor
namespace Wb
open Go Go.RowKit
section
variable{P:Program}{ops:Array Oper}{Q:Exit->Act->World->Prop}{L0:List Ent}{R0:List Rd}{brk eff lds:List Nat}{i:Nat}{r:List Nat}{o:Oper}{a:Act}{S:List Nat}{w0 w:World}{L:List Ent}{R:List Rd}
theorem ja4{t e : TypeId}{bytes : Nat}[hT : SlT P t e 1 bytes]{x0 x1 x2 x3 x4 : Operand}(ho : o.op = .buildSlice t 5 #[(0, x0), (1, x1), (2, x2), (3, x3), (4, x4)]){v0 v1 v2 v3 v4 : Value}(h0 : EvR a x0 v0)(h1 : EvR a x1 v1)(h2 : EvR a x2 v2)(h3 : EvR a x3 v3)(h4 : EvR a x4 v4)(c0:v0.cells= #[v0]) (c1:v1.cells= #[v1]) (c2:v2.cells= #[v2]) (c3:v3.cells= #[v3]) (c4:v4.cells= #[v4]):(execOp a.eval o).run P w=.ok (.value (.slice (some ⟨w.heap.size,0,none⟩) 5 5)) (w.alloc (.cells #[v0,v1,v2,v3,v4] e)):=by
 have hr:=jP_ (w:=w) hT.elem hT.pos [[v0],[v1],[v2],[v3],[v4]] [v0,v1,v2,v3,v4] (by simp[c0,c1,c2,c3,c4]) ag ag ag;simp at hr;unfold execOp;simp[ho,h0.eval,h1.eval,h2.eval,h3.eval,h4.eval,hr]
theorem kF2{t e : TypeId}{bytes : Nat}{x0 x1 x2 x3 x4 : Operand}(hi : oAt ops i = some o)(ho : o.op = .buildSlice t 5 #[(0, x0), (1, x1), (2, x2), (3, x3), (4, x4)])[hT : SlT P t e 1 bytes]{v0 v1 v2 v3 v4 : Value}(h0 : EvR a x0 v0)(h1 : EvR a x1 v1)(h2 : EvR a x2 v2)(h3 : EvR a x3 v3)(h4 : EvR a x4 v4)(c0:v0.cells= #[v0]) (c1:v1.cells= #[v1]) (c2:v2.cells= #[v2]) (c3:v3.cells= #[v3]) (c4:v4.cells= #[v4]) (X:St S w0 w L R) (hL:Under L0 R0 L R) (he:eff.contains i=true) (hw:Region.wanted o (yielded ops a.tmps)=true)(h:∀g w',St S w0 w' (⟨g,[v0,v1,v2,v3,v4],e⟩::L) R->Under L0 R0 (⟨g,[v0,v1,v2,v3,v4],e⟩::L) R->SQ P ops Q L0 R0 brk eff lds r (a.put o.dst (.slice (some ⟨g,0,none⟩) 5 5)) w'):SQ P ops Q L0 R0 brk eff lds (i::r) a w:=
 jD2 hi he hw fun K hk=>by
  have hL':Under L0 R0 ((⟨w.heap.size,[v0,v1,v2,v3,v4],e⟩:Ent)::L) R:=⟨hL.l.cons _,hL.r⟩;unfold Oper.wp;rw[ja4 ho h0 h1 h2 h3 h4 c0 c1 c2 c3 c4];exact hk _ _ (fun _ _=>(X.alloc [v0,v1,v2,v3,v4] e).keeps hL') (h _ _ (X.alloc [v0,v1,v2,v3,v4] e) hL')
end
end Wb