/- Parts of the proof. -/
import Derived.Test.YtlecmdajpfkaeaaGreatDoorKJournalRuns25
import Derived.Test.YtlecmdajpfkaeaaGreatDoorKJournalRuns26
import Derived.Test.YtlecmdajpfkaeaaGreatDoorKJournalRuns28
set_option linter.unusedVariables false
set_option linter.unusedSimpArgs false
set_option maxRecDepth 100000
set_option maxHeartbeats 40000000
namespace Wb
open Go Go.RowKit
def kp7(t:Txn)(vm vd vr:Value):List Value:=[.int .i64 t.seq,vm,vd,vr,.bool t.h0.on,.int .i64 t.h0.left,.bool t.h1.on,.int .i64 t.h1.left,.bool t.h2.on,.int .i64 t.h2.left]
end Wb
namespace Go.Proofs.YtlecmdajpfkaeaaGreatDoor
open Go.RowKit Wb
theorem kM9(t : Txn)(am ad ar : Option Addr)(cm cd cr : Nat)(h b : Int)(g : Nat)(w : World)(k0 : Blk w g (kp7 t (.slice am t.mt.length cm) (.slice ad t.dt.length cd) (.slice ar t.rev.length cr)).toArray 51)(hg:GoodT t) (hm:RL j_3 w (.slice am t.mt.length cm) t.mt) (hr:RL j_9 w (.slice ar t.rev.length cr) t.rev) (hh:0<=h/\h<=2):Calls Tryz.prog 123 #[.pointer (some ⟨g,0,none⟩),.int .i64 h,.int .i64 b] w fun e w'=>e=.returned (.int .i64 (jM1 t h b))/\Blk w' g (kp7 (jp1 t h b) (.slice am t.mt.length cm) (.slice ad t.dt.length cd) (.slice ar t.rev.length cr)).toArray 51/\Mv [g] w w':=by
 obtain⟨n1,_,n3⟩:=jg5 hg;have hs:=j57 hg.mt;obtain⟨l0,l1,l2⟩:=kS1 hg;have hlt:=k0.lt;obtain⟨seq,mt,dt,rev,⟨o0,x0⟩,⟨o1,x1⟩,⟨o2,x2⟩⟩:=t;dsimp only[kp7] at*;unfold jp1 jM1 k43 jt_;dsimp only
 cases hf:(hasB mt b||inI rev b) with
 |true=>
  rw[ii ag,ij rfl,ii ag]
  obtain(rfl|rfl|rfl):h=0\/h=1\/h=2:=aa
  ·refine(jk9 seq mt dt rev o0 o1 o2 x0 x1 x2 am ad ar cm cd cr b g w k0 hs hm hr aa aa hf).mono ?_;rintro e w' ⟨rfl,hb⟩;exact⟨rfl,k0.step hb,kj0 hb⟩
  ·refine(jj_ seq mt dt rev o0 o1 o2 x0 x1 x2 am ad ar cm cd cr b g w k0 hs hm hr aa aa hf).mono ?_;rintro e w' ⟨rfl,hb⟩;exact⟨rfl,k0.step hb,kj0 hb⟩
  ·refine(jj0 seq mt dt rev o0 o1 o2 x0 x1 x2 am ad ar cm cd cr b g w k0 hs hm hr aa aa hf).mono ?_;rintro e w' ⟨rfl,hb⟩;exact⟨rfl,k0.step hb,kj0 hb⟩
 |false=>
  obtain(rfl|rfl|rfl):h=0\/h=1\/h=2:=aa
  ·by_cases hz:x0=0
   ·rw[ij ⟨rfl,hz⟩,ii ae];refine(jj1 seq mt dt rev o0 o1 o2 x0 x1 x2 am ad ar cm cd cr b g w k0 hs hm hr aa aa hf hz).mono ?_;rintro e w' ⟨rfl,hb⟩;exact⟨rfl,k0.step hb,kj0 hb⟩
   ·rw[ii (fun hh=>hz hh.2),ij rfl,ij ag];refine(jc4 seq mt dt rev o0 o1 o2 x0 x1 x2 am ad ar cm cd cr b g w k0 hs hm hr aa aa hf aa aa).mono ?_;rintro e w' ⟨rfl,w1,hb,rfl⟩;exact⟨rfl,by simpa [jk_,j68] using(k0.step hb).set 5 (.int .i64 (x0-1)),(kj0 hb).then (Mv.set w1 ⟨g,5,none⟩ _) ag⟩
  ·by_cases hz:x1=0
   ·rw[ij ⟨rfl,hz⟩,ii ae];refine(jj2 seq mt dt rev o0 o1 o2 x0 x1 x2 am ad ar cm cd cr b g w k0 hs hm hr aa aa hf hz).mono ?_;rintro e w' ⟨rfl,hb⟩;exact⟨rfl,k0.step hb,kj0 hb⟩
   ·rw[ii (fun hh=>hz hh.2),ij rfl,ij ag];refine(jc5 seq mt dt rev o0 o1 o2 x0 x1 x2 am ad ar cm cd cr b g w k0 hs hm hr aa aa hf aa aa).mono ?_;rintro e w' ⟨rfl,w1,hb,rfl⟩;exact⟨rfl,by simpa [jk_,j68] using(k0.step hb).set 7 (.int .i64 (x1-1)),(kj0 hb).then (Mv.set w1 ⟨g,7,none⟩ _) ag⟩
  ·by_cases hz:x2=0
   ·rw[ij ⟨rfl,hz⟩,ii ae];refine(jj3 seq mt dt rev o0 o1 o2 x0 x1 x2 am ad ar cm cd cr b g w k0 hs hm hr aa aa hf hz).mono ?_;rintro e w' ⟨rfl,hb⟩;exact⟨rfl,k0.step hb,kj0 hb⟩
   ·rw[ii (fun hh=>hz hh.2),ij rfl,ij ag];refine(jc6 seq mt dt rev o0 o1 o2 x0 x1 x2 am ad ar cm cd cr b g w k0 hs hm hr aa aa hf aa aa).mono ?_;rintro e w' ⟨rfl,w1,hb,rfl⟩;exact⟨rfl,by simpa [jk_,j68] using(k0.step hb).set 9 (.int .i64 (x2-1)),(kj0 hb).then (Mv.set w1 ⟨g,9,none⟩ _) ag⟩
theorem jk7(t : Txn)(h b : Int)(s : ByteArray)(v : Value)(w : World)(ht : j17 w v t)(hz : ¬ mayE t h b = 0) :Calls Tryz.prog 84 #[v,.int .i64 h,.int .i64 b,.string s] w fun e w'=>e=.returned (.tuple #[v,.int .i64 (mayE t h b)])/\Below w.heap.size w w':=by
 have hMay:=fun w' (hb:Below w.heap.size w w')=>jk8 t h b _ w' (ht.below hb);obtain⟨vm,vd,vr,rfl,hm,hd,hr,n1,n2,n3⟩:=ht;obtain⟨am,cm,rfl,_⟩:=hm.form;obtain⟨ad,cd,rfl,_⟩:=hd.form;obtain⟨ar,cr,rfl,_⟩:=hr.form;generalize mayE t h b=E at*;replace hMay:=hid hMay;clear hm hd hr;unfold j84 at hMay⊢;have X:=kk7 [] w;go_enter Tryz.func84,Tryz.ntmps84
 go_wp2_with (first| (refine ZcL ?_)| (refine ZcS ?_;clear X;intro w X)| (refine ZcA ?_;clear X;intro g w X)| (go_at_call 121;((with_reducible refine(hMay.out _ X.below).mono ?_);rintro e w1 ⟨rfl,hb1⟩;replace X:=X.call hb1;clear hb1)))
 exact j47 rfl (.tmp rfl rfl) (.tmp rfl rfl) X (.head _) rfl rfl ⟨rfl,X.below⟩
theorem eI{A:Prop}(h:A:=by
 exact j47 rfl (.tmp rfl rfl) (.tmp rfl rfl) X (.head _) rfl rfl ⟨_,_,_,rfl,.same _ _ _ _ _ _,X.below⟩):A:=h
theorem gu{A:Prop}(h:A:=by
 rw[e1,e2,hE.out];exact j47 rfl (.tmp rfl rfl) (.tmp rfl rfl) X (.tail _ (.head _)) rfl rfl ⟨_,_,_,rfl,.same _ _ _ _ _ _,X.below⟩):A:=h
theorem jk6(t : Txn)(h b : Int)(s : ByteArray)(vm vd vr : Value)(w : World)(ht : j17 w (j84 t vm vd vr) t)(hz : mayE t h b = 0) :Calls Tryz.prog 84 #[j84 t vm vd vr,.int .i64 h,.int .i64 b,.string s] w fun e w'=>∃vm' vd' vr',e=.returned (.tuple #[j84 (jC1 t h b s) vm' vd' vr',.int .i64 (chgE t h b s)])/\NewT w.heap.size w' vm vd vr vm' vd' vr' t (jC1 t h b s)/\Below w.heap.size w w':=by
 have hMay:=fun w' (hb:Below w.heap.size w w')=>jk8 t h b _ w' (ht.below hb);rw[hz] at hMay;obtain⟨hgt,hh,ho,hb⟩:=j33 hz;have hg:=j92.1 hgt;obtain⟨vm',vd',vr',hvv,hm,hd,hr,n1,n2,n3⟩:=ht;simp only[j84,jo,jt,jh,jy,jF] at hvv;obtain⟨rfl,rfl,rfl⟩:=hvv;obtain⟨am,cm,rfl,_⟩:=hm.form;obtain⟨ad,cd,rfl,_⟩:=hd.form;obtain⟨ar,cr,rfl,_⟩:=hr.form;obtain⟨l1,l2,l3⟩:=jg5 hg;have hHas:=fun w' (hb:Below w.heap.size w w')=>j20 t.dt b _ w' (j57 hg.dt) (hd.below hb) aa;have hPay:=fun w' g (hb:Below w.heap.size w w') k0=>kM9 t am ad ar cm cd cr h b g w' k0 hg (hm.below hb) (hr.below hb) hh;have hCl:=fun w' (hb:Below w.heap.size w w')=>jS8 t.rev _ w' (hr.below hb) aa;have hDel:=fun v w' gb base h1 h2 h3 h4=>jI0 t.rev b v gb base w' h1 h2 h3 h4 aa;have hPut:=fun w' (hb:Below w.heap.size w w')=>kL_ t.mt b s _ w' (j57 hg.mt) (hm.below hb) aa;have hoff:t.rev.filter (fun x=> !(x==b))=kL7 t.rev b:=by unfold kL7;congr 1
 obtain⟨D,hD⟩:∃D,hasB t.dt b=D:=⟨_,rfl⟩;obtain⟨E,hE⟩:∃E,jM1 t h b=E:=⟨_,rfl⟩;rw[hD] at hHas;rw[hE] at hPay;simp only[kp7] at hPay;simp only[hoff] at hDel;obtain⟨_,pm,pd,pr⟩:=jf2 t h b;generalize hU:jp1 t h b=U at*;replace hMay:=hid hMay;replace hHas:=hid hHas;replace hPay:=hid hPay;replace hCl:=hid hCl;replace hDel:=hid hDel;replace hPut:=hid hPut;replace hD:=hid hD;replace hE:=hid hE;replace hz:=hid hz;replace hd:=hid hd;replace hU:=hid hU;replace pd:=hid pd;clear hm hr hgt ho hb hoff pm pr;unfold j84 at hMay⊢;have X:=kk7 [] w;go_enter Tryz.func84,Tryz.ntmps84
 go_wp2_with (first|(refine ZcL ?_)| (refine ZcS ?_;clear X;intro w X)| (refine ZcA ?_;clear X;intro g w X)|(go_at_call 121;((with_reducible refine(hMay.out _ X.below).mono ?_);rintro e w1 ⟨rfl,hb1⟩;replace X:=X.call hb1;clear hb1))|(go_at_call 122;((with_reducible refine(hHas.out _ X.below).mono ?_);rintro e w1 ⟨rfl,hb1⟩;replace X:=X.call hb1;clear hb1))|(go_at_call 123;((with_reducible refine(hPay.out _ _ X.below X.k0).mono ?_);rintro e w1 ⟨rfl,hk1,hm1⟩;have X2:=kk9 [] _ X hm1 hk1;clear hm1 hk1;replace X:=X2;clear X2;simp only[iw] at X))|(go_at_call 42;((with_reducible refine(hCl.out _ X.below).mono ?_);rintro e w1 ⟨v2,rfl,ho2,hb1⟩;obtain⟨a2,c2,rfl⟩:=ho2.form;replace hDel:=hid (hDel.out _ _ _ _ ho2 hb1.size X.k2.lt ((X.call hb1).k2.cell 0));replace hb1:=hid hb1;clear ho2))|(go_at_call 124;((with_reducible refine hDel.out.mono ?_);rintro e w2 ⟨v3,rfl,ho3,hb3⟩;obtain⟨a3,c3,rfl⟩:=ho3.form;have f3:=hid (ho3.fresh X.mv.size);replace X:=X.addOwn (hb1.out.trans hb3) ho3;clear hb1 hb3 ho3))|(go_at_call 126;((with_reducible refine(hPut.out _ X.below).mono ?_);rintro e w1 ⟨v4,rfl,ho4,hb4⟩;obtain⟨a4,c4,rfl⟩:=ho4.form;have f4:=hid (ho4.fresh X.mv.size);replace X:=X.addOwn hb4 ho4;clear hb4 ho4)))
 ·obtain⟨e1,e2⟩:=k6_ (s:=s) hz.out (kx2 cF);rw[e1,e2];exact eI
 all_goals have hs32:s.size=32:=ko0 cF
 ·obtain⟨e1,e2⟩:=k61 hz.out hs32 (hD.out.trans ‹D=true›);rw[e1,e2];exact eI
 ·obtain⟨e1,e2⟩:=ji0 hz.out hs32 (hD.out.trans ‹D=false›) (by rw[hE.out];simpa using ‹(E != 0)=true›);exact gu
 ·have hE0:E=0:=by simpa using ‹(E != 0)=false›
  obtain⟨e1,e2⟩:=kC_ hz.out hs32 (hD.out.trans ‹D=false›) (hE.out.trans hE0);rw[e1,e2,hU.out];exact j47 rfl (.tmp rfl rfl) (.tmp rfl rfl) X (.tail _ (.head _)) rfl rfl ⟨_,_,_,rfl,⟨.inr ⟨X.r0,f4.out⟩,.inl ⟨rfl,pd.out⟩,.inr ⟨X.r1,f3.out⟩⟩,X.below⟩
theorem kX_(t : Txn)(h b : Int)(s : ByteArray)(vm vd vr : Value)(w : World)(ht : j17 w (j84 t vm vd vr) t) :Calls Tryz.prog 84 #[j84 t vm vd vr,.int .i64 h,.int .i64 b,.string s] w fun e w'=>∃vm' vd' vr',e=.returned (.tuple #[j84 (jC1 t h b s) vm' vd' vr',.int .i64 (chgE t h b s)])/\NewT w.heap.size w' vm vd vr vm' vd' vr' t (jC1 t h b s)/\Below w.heap.size w w':=by
 by_cases hz:mayE t h b=0
 ·exact jk6 t h b s vm vd vr w ht hz
 ·obtain⟨e1,e2⟩:=kV4 (s:=s) hz;refine(jk7 t h b s _ w ht hz).mono ?_;rintro e w' ⟨rfl,hb⟩;rw[e1,e2];exact⟨_,_,_,rfl,.same _ _ _ _ _ _,hb⟩
theorem kD1(t : Txn)(h b : Int)(s : ByteArray)(vm vd vr : Value)(w : World)(ht : j17 w (j84 t vm vd vr) t) :Calls Tryz.prog 85 #[j84 t vm vd vr,.int .i64 h,.int .i64 b,.string s] w fun e w'=>∃vm' vd' vr',e=.returned (.tuple #[j84 (jr7 t h b s) vm' vd' vr',.int .i64 (filE t h b s)])/\NewT w.heap.size w' vm vd vr vm' vd' vr' t (jr7 t h b s)/\Below w.heap.size w w':=by
 have hMay:=fun w' (hb:Below w.heap.size w w')=>jk8 t h b _ w' (ht.below hb);obtain⟨vm',vd',vr',hvv,hm,hd,hr,n1,n2,n3⟩:=ht;simp only[j84,jo,jt,jh,jy,jF] at hvv;obtain⟨rfl,rfl,rfl⟩:=hvv;obtain⟨am,cm,rfl,_⟩:=hm.form;obtain⟨ad,cd,rfl,_⟩:=hd.form;obtain⟨ar,cr,rfl,_⟩:=hr.form;by_cases hz:mayE t h b=0
 rotate_left
 ·obtain⟨e1,e2⟩:=kT1 (s:=s) hz;rw[e1,e2];clear e1 e2;generalize mayE t h b=E at*;replace hMay:=hid hMay;clear hm hd hr;unfold j84 at hMay⊢;have X:=kk7 [] w;go_enter Tryz.func85,Tryz.ntmps85
  go_wp2_with (first|(refine ZcL ?_)| (refine ZcS ?_;clear X;intro w X)| (refine ZcA ?_;clear X;intro g w X)|(go_at_call 121;((with_reducible refine(hMay.out _ X.below).mono ?_);rintro e w1 ⟨rfl,hb1⟩;replace X:=X.call hb1;clear hb1)))
  exact eI
 rw[hz] at hMay;obtain⟨hgt,hh,ho,hb⟩:=j33 hz;have hg:=j92.1 hgt;obtain⟨l1,l2,l3⟩:=jg5 hg;have hHas:=fun w' (hb:Below w.heap.size w w')=>j20 t.mt b _ w' (j57 hg.mt) (hm.below hb) aa;have hCon:=fun w' (hb:Below w.heap.size w w')=>j94 t.rev b _ w' (hr.below hb) aa;have hPut:=fun w' (hb:Below w.heap.size w w')=>kL_ t.dt b s _ w' (j57 hg.dt) (hd.below hb) aa;obtain⟨M,hM⟩:∃M,hasB t.mt b=M:=⟨_,rfl⟩;obtain⟨V,hV⟩:∃V,inI t.rev b=V:=⟨_,rfl⟩;rw[hM] at hHas;rw[hV] at hCon;replace hMay:=hid hMay;replace hHas:=hid hHas;replace hCon:=hid hCon;replace hPut:=hid hPut;replace hM:=hid hM;replace hV:=hid hV;replace hz:=hid hz;clear hm hd hr hgt ho hb;unfold j84 at hMay⊢;have X:=kk7 [] w
 cases M
 all_goals
  go_enter Tryz.func85,Tryz.ntmps85
  go_wp2_with (first|(refine ZcL ?_)| (refine ZcS ?_;clear X;intro w X)| (refine ZcA ?_;clear X;intro g w X)|(go_at_call 121;((with_reducible refine(hMay.out _ X.below).mono ?_);rintro e w1 ⟨rfl,hb1⟩;replace X:=X.call hb1;clear hb1))|(go_at_call 122;((with_reducible refine(hHas.out _ X.below).mono ?_);rintro e w1 ⟨rfl,hb1⟩;replace X:=X.call hb1;clear hb1))|(go_at_call 117;((with_reducible refine(hCon.out _ X.below).mono ?_);rintro e w1 ⟨rfl,rfl⟩))|(go_at_call 126;((with_reducible refine(hPut.out _ X.below).mono ?_);rintro e w1 ⟨v4,rfl,ho4,hb4⟩;obtain⟨a4,c4,rfl⟩:=ho4.form;have f4:=hid (ho4.fresh X.mv.size);replace X:=X.addOwn hb4 ho4;clear hb4 ho4)))
 ·obtain⟨e1,e2⟩:=jn0 (s:=s) hz.out (kx2 cF);rw[e1,e2];exact eI
 ·obtain⟨e1,e2⟩:=jC6 (s:=s) hz.out (ko0 cF) (by rw[hM.out,hV.out, ‹V=true›];rfl);rw[e1,e2];exact eI
 ·obtain⟨e1,e2⟩:=kC0 (s:=s) hz.out (ko0 cF) (by rw[hM.out,hV.out, ‹V=false›];rfl);rw[e1,e2];exact j47 rfl (.tmp rfl rfl) (.tmp rfl rfl) X (.head _) rfl rfl ⟨_,_,_,rfl,⟨.inl ⟨rfl,rfl⟩,.inr ⟨X.r0,f4.out⟩,.inl ⟨rfl,rfl⟩⟩,X.below⟩
 ·obtain⟨e1,e2⟩:=jn0 (s:=s) hz.out (kx2 cF);rw[e1,e2];exact eI
 ·obtain⟨e1,e2⟩:=jC6 (s:=s) hz.out (ko0 cF) (by rw[hM.out];rfl);rw[e1,e2];exact eI
theorem kX0(t : Txn)(h b : Int)(vm vd vr : Value)(w : World)(ht : j17 w (j84 t vm vd vr) t) :Calls Tryz.prog 86 #[j84 t vm vd vr,.int .i64 h,.int .i64 b] w fun e w'=>∃vm' vd' vr',e=.returned (.tuple #[j84 (jp6 t h b) vm' vd' vr',.int .i64 (rvkE t h b)])/\NewT w.heap.size w' vm vd vr vm' vd' vr' t (jp6 t h b)/\Below w.heap.size w w':=by
 have hMay:=fun w' (hb:Below w.heap.size w w')=>jk8 t h b _ w' (ht.below hb);obtain⟨vm',vd',vr',hvv,hm,hd,hr,n1,n2,n3⟩:=ht;simp only[j84,jo,jt,jh,jy,jF] at hvv;obtain⟨rfl,rfl,rfl⟩:=hvv;obtain⟨am,cm,rfl,_⟩:=hm.form;obtain⟨ad,cd,rfl,_⟩:=hd.form;obtain⟨ar,cr,rfl,_⟩:=hr.form;by_cases hz:mayE t h b=0
 rotate_left
 ·obtain⟨e1,e2⟩:=kN5 hz;rw[e1,e2];clear e1 e2;generalize mayE t h b=E at*;replace hMay:=hid hMay;clear hm hd hr;unfold j84 at hMay⊢;have X:=kk7 [] w;go_enter Tryz.func86,Tryz.ntmps86
  go_wp2_with (first|(refine ZcL ?_)| (refine ZcS ?_;clear X;intro w X)| (refine ZcA ?_;clear X;intro g w X)|(go_at_call 121;((with_reducible refine(hMay.out _ X.below).mono ?_);rintro e w1 ⟨rfl,hb1⟩;replace X:=X.call hb1;clear hb1)))
  exact eI
 rw[hz] at hMay;obtain⟨hgt,hh,ho,hb⟩:=j33 hz;have hg:=j92.1 hgt;obtain⟨l1,l2,l3⟩:=jg5 hg;have hCon:=fun w' (hb:Below w.heap.size w w')=>j94 t.rev b _ w' (hr.below hb) aa;have hPay:=fun w' g (hb:Below w.heap.size w w') k0=>kM9 t am ad ar cm cd cr h b g w' k0 hg (hm.below hb) (hr.below hb) hh;have hDm:=fun w' (hb:Below w.heap.size w w')=>k29 t.mt b _ w' (hm.below hb) aa;have hDd:=fun w' (hb:Below w.heap.size w w')=>k29 t.dt b _ w' (hd.below hb) aa;have hBS:=fun w' (hb:Below w.heap.size w w')=>jN4 t.rev b _ w' ((jW5 _).1 hg.rev).1 (hr.below hb) aa;have hCl:=fun w' (hb:Below w.heap.size w w')=>jS8 t.rev _ w' (hr.below hb) aa;have hIns:=fun v vb base w' h1 h2 h3 h4=>jt8 t.rev (posI t.rev b) b v vb base w' h1 h2 h3 h4 (kw_ _ _) aa;have hins:t.rev.take (posI t.rev b)++b::t.rev.drop (posI t.rev b)=kS7 t.rev b:=rfl;simp only[hins] at hIns;obtain⟨V,hV⟩:∃V,inI t.rev b=V:=⟨_,rfl⟩;obtain⟨E,hE⟩:∃E,jM1 t h b=E:=⟨_,rfl⟩;rw[hV] at hCon;rw[hE] at hPay;simp only[kp7] at hPay;obtain⟨_,pm,pd,pr⟩:=jf2 t h b;generalize hU:jp1 t h b=U at*;generalize posI t.rev b=p at*;replace hMay:=hid hMay;replace hCon:=hid hCon;replace hPay:=hid hPay;replace hDm:=hid hDm;replace hDd:=hid hDd;replace hBS:=hid hBS;replace hCl:=hid hCl;replace hIns:=hid hIns;replace hV:=hid hV;replace hE:=hid hE;replace hz:=hid hz;replace hU:=hid hU;clear hm hd hr hgt ho hb hins pm pd pr;unfold j84 at hMay⊢;have X:=kk7 [] w;go_enter Tryz.func86,Tryz.ntmps86
 go_wp2_with (first|(refine ZcL ?_)| (refine ZcS ?_;clear X;intro w X)| (refine ZcA ?_;clear X;intro g w X)|(go_at_call 121;((with_reducible refine(hMay.out _ X.below).mono ?_);rintro e w1 ⟨rfl,hb1⟩;replace X:=X.call hb1;clear hb1))|(go_at_call 117;((with_reducible refine(hCon.out _ X.below).mono ?_);rintro e w1 ⟨rfl,rfl⟩))|(go_at_call 123;((with_reducible refine(hPay.out _ _ X.below X.k0).mono ?_);rintro e w1 ⟨rfl,hk1,hm1⟩;have X2:=kk9 [] _ X hm1 hk1;clear hm1 hk1;replace X:=X2;clear X2;simp only[iw] at X)))
 ·obtain⟨e1,e2⟩:=jd2 hz.out (hV.out.trans ‹V=true›);rw[e1,e2];exact eI
 ·obtain⟨e1,e2⟩:=jd1 hz.out (hV.out.trans ‹V=false›) (by rw[hE.out];simpa using ‹(E != 0)=true›);exact gu
 ·(refine j__ 3 [9,11] [3,7,9,11] [1,5] [0,1,2,4,5,6,3,7,8,9,10,11] X ?_;clear X;intro hQ X hL;simp only[zF,zG] at hL;simp only[zF,zG]);refine Zf ?_;refine Zl ?_;refine Zm ?_;refine Zf ?_;refine Zl ?_;refine Zm ?_;(refine j_0 127 Tryz.func127 (hDm.out _ X.below) ?_;rintro e w1 ⟨v4,rfl,ho4,hb4⟩;obtain⟨a4,c4,rfl⟩:=ho4.form;have f4:=hid (ho4.fresh X.mv.size);replace X:=X.addOwn hb4 ho4;clear hb4 ho4;refine Zce ?_;clear hL;intro hL);(refine j_0 127 Tryz.func127 (hDd.out _ X.below) ?_;rintro e w1 ⟨v5,rfl,ho5,hb5⟩;obtain⟨a5,c5,rfl⟩:=ho5.form;have f5:=hid (ho5.fresh X.mv.size);replace X:=X.addOwn hb5 ho5;clear hb5 ho5;refine Zce ?_;clear hL;intro hL);refine Zf ?_;(refine Zb ?_;clear X;intro w X);refine Zf ?_;(refine Zb ?_;clear X;intro w X);refine j90 ?_
  go_wp2_with (first|(refine ZcL ?_)| (refine ZcS ?_;clear X;intro w X)| (refine ZcA ?_;clear X;intro g w X)|(go_at_call 128;((with_reducible refine(hBS.out _ X.below).mono ?_);rintro e w1 ⟨rfl,rfl⟩))|(go_at_call 42;((with_reducible refine(hCl.out _ X.below).mono ?_);rintro e w1 ⟨v2,rfl,ho2,hb1⟩;obtain⟨a2,c2,rfl⟩:=ho2.form)))
  have f2:=hid (ho2.fresh X.mv.size);have hb3:=hid (fun w' (h3:Below w.heap.size (w1.alloc (.cells #[.int .i64 b] 3)) w')=>(bal hb1 (.cells #[.int .i64 b] 3)).trans h3);replace hIns:=hid (hIns.out (.slice a2 t.rev.length c2) w1.heap.size w.heap.size (w1.alloc (.cells #[.int .i64 b] 3)) (ho2.alloc _) (i3 hb1.size ag) (kk3 w1 _ _) (fun h=>lI _ (jE ho2 _ h).2))
  go_wp2_with (first|(refine ZcL ?_)| (refine ZcS ?_;clear X;intro w X)| (refine ZcA ?_;clear X;intro g w X)|(go_at_call 129;((with_reducible refine hIns.out.mono ?_);rintro e w2 ⟨v3,rfl,ho3,hb4⟩;obtain⟨a3,c3,rfl⟩:=ho3.form;have f3:=hid (ho3.fresh X.mv.size);replace X:=X.addOwn (hb3.out _ hb4) ho3;clear hb3 hb4 ho3)))
  have hE0:E=0:=by simpa using ‹(E != 0)=false›
  obtain⟨e1,e2⟩:=kB6 hz.out (hV.out.trans ‹V=false›) (hE.out.trans hE0);rw[e1,e2,hU.out];exact j47 rfl (.tmp rfl rfl) (.tmp rfl rfl) X (.tail _ (.head _)) rfl rfl ⟨_,_,_,rfl,⟨.inr ⟨X.r2,f4.out⟩,.inr ⟨X.r1,f5.out⟩,.inr ⟨X.r0,f3.out⟩⟩,X.below⟩
theorem kK_{A:Prop}(h:A:=by
 go_enter Tryz.func63,Tryz.ntmps63
 go_wp2_with (first|(refine ZcL ?_)| (refine ZcS ?_;clear X;intro w X)| (refine ZcA ?_;clear X;intro g w X)|(go_at_call 93;((with_reducible refine(hG.out _ X.below).mono ?_);rintro e w1 ⟨rfl,hb1⟩;replace X:=X.call hb1;clear hb1)))
 exact j47 rfl (.tmp rfl rfl) (.tmp rfl rfl) X (.head _) rfl rfl ⟨cC,X.below⟩):A:=h
theorem k99(t : Txn)(h : Int)(vm vd vr : Value)(w : World)(ht : j17 w (j84 t vm vd vr) t) :Calls Tryz.prog 63 #[j84 t vm vd vr,.int .i64 h] w fun e w'=>e=.returned (.tuple #[j84 (stopT t h) vm vd vr,.int .i64 (stopE t h)])/\Below w.heap.size w w':=by
 have hG0:=fun w' (hh:Below w.heap.size w w')=>j3_ t _ w' (ht.below hh);obtain⟨vm',vd',vr',hvv,hm,hd,hr,n1,n2,n3⟩:=ht;simp only[j84,jo,jt,jh,jy,jF] at hvv;obtain⟨rfl,rfl,rfl⟩:=hvv;obtain⟨am,cm,rfl,_⟩:=hm.form;obtain⟨ad,cd,rfl,_⟩:=hd.form;obtain⟨ar,cr,rfl,_⟩:=hr.form;have hH:=fun w=>jT2 h w;obtain⟨seq,mt,dt,rev,⟨o0,l0⟩,⟨o1,l1⟩,⟨o2,l2⟩⟩:=t;unfold j84 at hG0⊢;dsimp only at*;have X:=kk7 [] w;clear hm hd hr
 cases hg:goodT ⟨seq,mt,dt,rev,⟨o0,l0⟩,⟨o1,l1⟩,⟨o2,l2⟩⟩ with
 |false=>
  have hv:=hid (k25 (h:=h) hg)
  have hG:=fun w' hh=>hG0 w' hh
  rw[hg] at hG
  replace hG:=hid hG;replace hH:=hid hH
  clear hg hG0
  exact kK_
 |true=>
  have hG:=fun w' hh=>hG0 w' hh
  rw[hg] at hG
  replace hG:=hid hG
  clear hG0
  by_cases hh:0<=h/\h<=2
  rotate_left
  ·have hv:=hid (jZ3 hg (.inl hh));have hhf:jK7 h=false:=iH aa;rw[hhf] at hH;replace hH:=hid hH;clear hhf hg;by_cases hneg:h<0
   ·clear hh;exact kK_
   ·have hgt:2<h:=by omega
    clear hh;exact kK_
  have hht:jK7 h=true:=iG aa
  rw[hht] at hH
  replace hH:=hid hH
  clear hht
  obtain(rfl|rfl|rfl):h=0\/h=1\/h=2:=aa
  ·cases o0 with
   |false=>
    have hv:=hid (jZ3 (h:=0) hg (.inr aC))
    clear hg hh
    exact kK_
   |true=>
    have hv:=hid (jF2 (h:=0) hg ae aC)
    clear hg hh
    exact kK_
  ·cases o1 with
   |false=>
    have hv:=hid (jZ3 (h:=1) hg (.inr aC))
    clear hg hh
    exact kK_
   |true=>
    have hv:=hid (jF2 (h:=1) hg ae aC)
    clear hg hh
    exact kK_
  ·cases o2 with
   |false=>
    have hv:=hid (jZ3 (h:=2) hg (.inr aC))
    clear hg hh
    exact kK_
   |true=>
    have hv:=hid (jF2 (h:=2) hg ae aC)
    clear hg hh
    exact kK_
theorem ju7{A:Prop}(h:A:=by
 go_enter Tryz.func62,Tryz.ntmps62
 go_upto_region 1 with (first|(refine Zbx ?_;clear X;intro g w X)|(refine ZyL ?_)| (refine ZyS ?_;clear X;intro w X)| (refine ZyA ?_;clear X;intro g w X))
 go_wp2_with (first|go_skip|(refine ZyL ?_)| (refine ZyS ?_;clear X;intro w X)| (refine ZyA ?_;clear X;intro g w X)|(go_at_call 93;((with_reducible refine(hG.out _ X.below).mono ?_);rintro e w1 ⟨rfl,hb1⟩;replace X:=X.call hb1;clear hb1))|(go_at_call 96;((with_reducible refine(hA.out _ X.below).mono ?_);rintro e w1 ⟨rfl,hb1⟩;replace X:=X.call hb1;clear hb1))|(go_at_call 97;((with_reducible refine(hM.out _).mono ?_);rintro e w1 ⟨rfl,rfl⟩)))
 exact j47 rfl (.tmp rfl rfl) (.tmp rfl rfl) X (.head _) rfl rfl ⟨cC,X.below⟩):A:=h
theorem fv{A:Prop}(h:A:=by
 clear hg hh hAA hMM hA0 hA1;by_cases hneg:nn<0
 ·clear hn;exact ju7
 ·have hgt:12<nn:=by omega
  clear hn;exact ju7):A:=h
theorem jf9(t : Txn)(h nn fr : Int)(vm vd vr : Value)(w : World)(ht : j17 w (j84 t vm vd vr) t) :Calls Tryz.prog 62 #[j84 t vm vd vr,.int .i64 h,.int .i64 nn,.int .i64 fr] w fun e w'=>e=.returned (.tuple #[j84 (begT t h nn fr) vm vd vr,.int .i64 (begE t h nn fr)])/\Below w.heap.size w w':=by
 have hG0:=fun w' (hh:Below w.heap.size w w')=>j3_ t _ w' (ht.below hh);have hA:=fun w' (hh:Below w.heap.size w w')=>k94 t _ w' (ht.below hh);obtain⟨vm',vd',vr',hvv,hm,hd,hr,n1,n2,n3⟩:=ht;simp only[j84,jo,jt,jh,jy,jF] at hvv;obtain⟨rfl,rfl,rfl⟩:=hvv;obtain⟨am,cm,rfl,_⟩:=hm.form;obtain⟨ad,cd,rfl,_⟩:=hd.form;obtain⟨ar,cr,rfl,_⟩:=hr.form;have hH:=fun w=>jT2 h w;have hM:=fun w=>kZ8 (askedI t+nn) w;have hAb:=fun(h:goodT t=true)=>jj9 h aa aa;obtain⟨seq,mt,dt,rev,⟨o0,l0⟩,⟨o1,l1⟩,⟨o2,l2⟩⟩:=t;unfold j84 at hG0 hA⊢;dsimp only at*;have X:=kk7 [] w;clear hm hd hr
 cases hg:goodT ⟨seq,mt,dt,rev,⟨o0,l0⟩,⟨o1,l1⟩,⟨o2,l2⟩⟩ with
 |false=>
  have hv:=hid (kW8 (h:=h) (n:=nn) (free:=fr) hg)
  have hG:=fun w' hh=>hG0 w' hh
  rw[hg] at hG
  replace hG:=hid hG;replace hH:=hid hH
  clear hg hG0 hM hA hAb
  exact ju7
 |true=>
  have hG:=fun w' hh=>hG0 w' hh
  rw[hg] at hG
  replace hG:=hid hG
  clear hG0
  by_cases hh:0<=h/\h<=2
  rotate_left
  ·have hv:=hid (k77 (n:=nn) (free:=fr) hg hh);have hhf:jK7 h=false:=iH aa;rw[hhf] at hH;replace hH:=hid hH;clear hhf hg hM hA hAb;by_cases hneg:h<0
   ·clear hh;exact ju7
   ·have hgt:2<h:=by omega
    clear hh;exact ju7
  have hht:jK7 h=true:=iG aa
  rw[hht] at hH
  replace hH:=hid hH
  clear hht
  obtain⟨hA0,hA1⟩:=hAb hg
  clear hAb
  obtain⟨A,hAA⟩:∃A,askedI ⟨seq,mt,dt,rev,⟨o0,l0⟩,⟨o1,l1⟩,⟨o2,l2⟩⟩=A:=⟨_,rfl⟩
  rw[hAA] at hA hM hA0 hA1
  replace hA:=hid hA
  obtain⟨M,hMM⟩:∃M,jy8 (A+nn)=M:=⟨_,rfl⟩
  rw[hMM] at hM
  replace hM:=hid hM
  obtain(rfl|rfl|rfl):h=0\/h=1\/h=2:=aa
  ·cases o0 with
   |true=>
    have hv:=hid (jr0 (h:=0) (n:=nn) (free:=fr) hg ae aC)
    clear hg hh hAA hMM hA0 hA1
    exact ju7
   |false=>
    by_cases hn:nn<0\/12<nn
    ·have hv:=hid (jH0 (h:=0) (n:=nn) (free:=fr) hg ae aC hn);exact fv
    have hn0:0<=nn:=aa
    have hn1:nn<=12:=aa
    have hw:IntKind.i64.wrap (A+nn)=A+nn:=iz _ aa
    have hw':RowKit.wrap64 (A+nn)=A+nn:=dH
    by_cases hb:24<A+nn
    ·have hv:=hid (j25 (h:=0) (free:=fr) hg ae aC hn (.inl dG));clear hg hh hAA hMM hn;exact ju7
    have hbd:decide (24<A+nn)=false:=iH hb
    by_cases hf:fr<M
    ·have hv:=hid (j25 (h:=0) (free:=fr) hg ae aC hn (.inr cY));clear hg hh hAA hMM hn;exact ju7
    ·have hv:=hid (jr_ (h:=0) (free:=fr) hg ae aC hn dA);clear hg hh hAA hMM hn;exact ju7
  ·cases o1 with
   |true=>
    have hv:=hid (jr0 (h:=1) (n:=nn) (free:=fr) hg ae aC)
    clear hg hh hAA hMM hA0 hA1
    exact ju7
   |false=>
    by_cases hn:nn<0\/12<nn
    ·have hv:=hid (jH0 (h:=1) (n:=nn) (free:=fr) hg ae aC hn);exact fv
    have hn0:0<=nn:=aa
    have hn1:nn<=12:=aa
    have hw:IntKind.i64.wrap (A+nn)=A+nn:=iz _ aa
    have hw':RowKit.wrap64 (A+nn)=A+nn:=dH
    by_cases hb:24<A+nn
    ·have hv:=hid (j25 (h:=1) (free:=fr) hg ae aC hn (.inl dG));clear hg hh hAA hMM hn;exact ju7
    have hbd:decide (24<A+nn)=false:=iH hb
    by_cases hf:fr<M
    ·have hv:=hid (j25 (h:=1) (free:=fr) hg ae aC hn (.inr cY));clear hg hh hAA hMM hn;exact ju7
    ·have hv:=hid (jr_ (h:=1) (free:=fr) hg ae aC hn dA);clear hg hh hAA hMM hn;exact ju7
  ·cases o2 with
   |true=>
    have hv:=hid (jr0 (h:=2) (n:=nn) (free:=fr) hg ae aC)
    clear hg hh hAA hMM hA0 hA1
    exact ju7
   |false=>
    by_cases hn:nn<0\/12<nn
    ·have hv:=hid (jH0 (h:=2) (n:=nn) (free:=fr) hg ae aC hn);exact fv
    have hn0:0<=nn:=aa
    have hn1:nn<=12:=aa
    have hw:IntKind.i64.wrap (A+nn)=A+nn:=iz _ aa
    have hw':RowKit.wrap64 (A+nn)=A+nn:=dH
    by_cases hb:24<A+nn
    ·have hv:=hid (j25 (h:=2) (free:=fr) hg ae aC hn (.inl dG));clear hg hh hAA hMM hn;exact ju7
    have hbd:decide (24<A+nn)=false:=iH hb
    by_cases hf:fr<M
    ·have hv:=hid (j25 (h:=2) (free:=fr) hg ae aC hn (.inr cY));clear hg hh hAA hMM hn;exact ju7
    ·have hv:=hid (jr_ (h:=2) (free:=fr) hg ae aC hn dA);clear hg hh hAA hMM hn;exact ju7
theorem rK(hDec:jT3)(hTx:jR8):RK where
 fit:=fun s w h=>jL6 s w h
 dnew:=fun w=>k96 w
 put:=fun d n t v w h=>je1 d n t v w h
 flush:=fun d v w h=>jt4 d v w h
 crash:=fun d x v w h hx=>jt2 d x v w h hx
 read:=fun d n v w h=>jQ6 d n v w h
 enc:=fun m v w h=>j24 m v w h
 beg:=fun t h nn fr vm vd vr w ht=>jf9 t h nn fr vm vd vr w ht
 stop:=fun t h vm vd vr w ht=>k99 t h vm vd vr w ht
 alt:=fun K hK t h b s vm vd vr w ht=>jl1 K hK t h b s vm vd vr w ht
 get:=fun l b v w h hl=>jp3 l b v w h hl
 opn:=fun t v w h=>jO3 t v w h
 com:=fun r t v w h=>jw4 r t v w h
 newest:=fun l hg v w h=>je0 l hg v w h
 check:=fun l p q v w h hl=>jt1 l p q v w h hl
 scan:=fun d v w h=>(k98 hDec hTx d v w h).mono fun e w' ⟨v',he,hf,hb⟩=>by
  obtain⟨vt,hv,ho⟩:=hf;subst hv;exact⟨vt,he,ho,hb⟩
 blk:=fun n w=>j03 n w
 among:=fun l b v w h hl=>jQ7 l b v w h hl
 inn:=fun l b v w h hl=>jw8 l b v w h hl
end Go.Proofs.YtlecmdajpfkaeaaGreatDoor