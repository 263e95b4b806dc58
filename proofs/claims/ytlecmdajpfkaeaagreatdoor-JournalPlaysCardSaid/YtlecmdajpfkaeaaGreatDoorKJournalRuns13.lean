/- Parts of the proof. -/
import Derived.Test.YtlecmdajpfkaeaaGreatDoorKJournalRuns7
import Derived.Deep.CutBlock
set_option linter.unusedVariables false
set_option linter.unusedSimpArgs false
set_option maxRecDepth 100000
set_option maxHeartbeats 40000000
namespace Wb
open Go Go.RowKit
theorem jo2(t:Txn)(h n f:Int):(begT t h n f).mt=t.mt/\(begT t h n f).dt=t.dt/\(begT t h n f).rev=t.rev:=by
 unfold begT;split
 ·exact(jZ2 _ _ _).2
 ·exact⟨rfl,rfl,rfl⟩
theorem jv9(t:Txn)(h:Int):(stopT t h).mt=t.mt/\(stopT t h).dt=t.dt/\(stopT t h).rev=t.rev:=by
 unfold stopT;split
 ·exact(jZ2 _ _ _).2
 ·exact⟨rfl,rfl,rfl⟩
theorem jc7(v:JV)(j:Jn){k:Nat}(hk:k<12)(x:Int):upd (27+k) [.int .i64 x] (j85 v j)=j85 v {j with roles:=jV_ j.roles k x}:=by
 exact eA
theorem kL1(v:JV)(j:Jn){k:Nat}(hk:k<12)(x:Int):upd (39+k) [.int .i64 x] (j85 v j)=j85 v {j with freed:=jV_ j.freed k x}:=by
 exact eA
theorem eU{A:Prop}(h:A:=by
 split at h1
 ·rename_i h2;exact absurd h1 h2
 ·rename_i h2;exact(j33 (jL h2)).2.2.2):A:=h
theorem jb1{t:Txn}{h b:Int}{s:ByteArray}(h1:chgE t h b s=0):isBlk b=true:=by
 unfold chgE at h1;exact eU
theorem jb2{t:Txn}{h b:Int}{s:ByteArray}(h1:filE t h b s=0):isBlk b=true:=by
 unfold filE at h1;exact eU
theorem jb3{t:Txn}{h b:Int}(h1:rvkE t h b=0):isBlk b=true:=by
 unfold rvkE at h1;exact eU
theorem kW3{j:Jn}{a:Aj}(hk:a.kind=2\/a.kind=3\/a.kind=4)(he:jN7 j a=0):isBlk a.b=true:=by
 have or0:∀{e:Int} {c:Prop} [Decidable c] {f:Int},f≠0->orE e c f=0->e=0:=fun hf h=>by
  unfold orE at h
  split at h
  ·exact absurd h hf
  ·exact h
 unfold jN7 at he;rcases hk with hk|hk|hk
 ·rw[ii aa,ii aa,ij hk] at he;have h1:=or0 ae he;unfold chgE at h1;exact eU
 ·rw[ii aa,ii aa,ii aa,ij hk] at he;have h1:=or0 ae (or0 ae he);unfold filE at h1;exact eU
 ·rw[ii aa,ii aa,ii aa,ii aa,ij hk] at he;have h1:=or0 ae he;unfold rvkE at h1;exact eU
end Wb
namespace Go.Proofs.YtlecmdajpfkaeaaGreatDoor
open Go.RowKit Wb
theorem ea{A:Prop}(h:A:=by
 go_upto_region 1 with (first|(refine Zbx ?_;clear X;intro g w X))
 go_upto_block 0 with (first|(refine ZyL ?_)| (refine ZyS ?_;clear X;intro w X)| (refine ZyA ?_;clear X;intro g w X)|(go_at_call 65;((with_reducible refine(hFit.out _).mono ?_);rintro e w1 ⟨rfl,hb1⟩;replace X:=X.call hb1;clear hb1)))
 obtain⟨g5,g3,rfl,rfl⟩:=X.nm2
 go_cut [6,9] (fun s6 s9 wx=>∃(am ad ar:Option Addr) (nm nd nr cm cd cr:Nat),s6=.int .i64 E/\s9=.int .i64 TO/\St S w0 wx (⟨g5,[.int .i64 T.seq,.slice am nm cm,.slice ad nd cd,.slice ar nr cr,.bool T.h0.on,.int .i64 T.h0.left,.bool T.h1.on,.int .i64 T.h1.left,.bool T.h2.on,.int .i64 T.h2.left],51⟩::⟨g3,[.int .i64 a.kind,.int .i64 a.h,.int .i64 a.b,.int .i64 a.n,.string a.text],28⟩::⟨gj,j85 v j,84⟩::(MD++(MU++L))) (kj2 j_3 (.slice am nm cm) T.mt::kj2 j_3 (.slice ad nd cd) T.dt::kj2 j_9 (.slice ar nr cr) T.rev::(jRds v j ds fs++R)))
 case first=>
  rcases hks with hk|hk|hk|hk|hk
  ·have hBg:=fun w h=>K.beg j.now a.h a.n (24-j.ring.used) (.slice v.nm.a j.now.mt.length v.nm.c) (.slice v.nd.a j.now.dt.length v.nd.c) (.slice v.nr.a j.now.rev.length v.nr.c) w h;have hFr:=fun w=>K.free j.ring w hgr.2.2.1 hgr.2.2.2;unfold Ring.val at hFr;have eE:begE j.now a.h a.n (24-j.ring.used)=E:=cR;have eT:begT j.now a.h a.n (24-j.ring.used)=T:=cM;have hT:=jo2 j.now a.h a.n (24-j.ring.used);rw[eT] at hT;rw[eE,eT] at hBg;obtain rfl:TO=0:=by rw[<-hTO.out,<-hrole.out];unfold jZ6;rw[ii aa,ii aa,ii aa]
   simp only[j84] at hBg;replace hBg:=hid hBg;replace hFr:=hid hFr;replace hT:=hid hT;clear eE eT hE hTT hTO hrole;have q1:(a.kind==1)=true:=az;clear hk
   go_wp2_with (first|(refine ZyL ?_)| (refine ZyS ?_;clear X;intro w X)| (refine ZyA ?_;clear X;intro g w X))
   have X9:=X.perm ((iP (l₁:=[_]) (l₂:=[_,_])).append_right _);simp only[iu,iw] at X9;clear X;have X:=X9;clear X9;(refine j__ 2 [] [12,13,17] [3,5,7,11] [0,1,2,3,4,5,6,7,8,9,10,11,12,13,14,15,16,17,18] X ?_;clear X;intro hQ X hL;simp only[zF,zG] at hL;simp only[zF,zG]);refine Zm ?_;refine Zn ?_;refine Zf ?_;refine Zl ?_;refine Zf ?_;refine Zl ?_;refine Zf ?_;refine Zl ?_;refine Zm ?_;refine Zn ?_;refine Zf ?_;refine Zl ?_;(refine j_0 82 Tryz.func82 (hFr.out _) ?_;rintro e w1 ⟨rfl,hb1⟩;replace X:=X.call hb1;clear hb1;refine Zce ?_;clear hL;intro hL);(refine j_0 81 Tryz.func81 (hBg.out _ (X.jNow hsz.out (fun r hr=>iv _ hr))) ?_;rintro e w1 ⟨rfl,hb1⟩;replace X:=X.call hb1;clear hb1;refine Zce ?_;clear hL;intro hL);refine Zm ?_;refine Zx ?_;refine Zx ?_;(refine Zs ?_;clear hL X;intro w X hL);refine Za ?_;refine j90 ?_;replace hT:=hT.out;have X9:=X.perm ((iP (l₁:=[_,_]) (l₂:=[_])).append_right _);simp only[iu,iw] at X9;clear X;have X:=X9;clear X9;go_wp2;go_meet;exact⟨_,_,_,_,_,_,_,_,_,rfl,rfl,(X.rds (fun r hr=>(iS.1 hr).elim (fun h=>cW) (fun hr=>(iS.1 hr).elim (fun h=>cA) (fun hr=>(iS.1 hr).elim (fun h=>cB) (fun hr=>hr)))))⟩
  ·have hAl:=fun w h=>K.chg j.now a.h a.b ft (.slice v.nm.a j.now.mt.length v.nm.c) (.slice v.nd.a j.now.dt.length v.nd.c) (.slice v.nr.a j.now.rev.length v.nr.c) w h;have eT:jC1 j.now a.h a.b ft=T:=by rw[<-hTT.out];unfold jK0;rw[ii aa,ii aa,ij hk,hft.out]
   have eE:E=orE (chgE j.now a.h a.b ft) ((0:Int)=2) 8:=by rw[<-hE.out];unfold jN7;rw[ii aa,ii aa,ij hk,hft.out,hrole.out]
   rw[eT] at hAl;obtain rfl:TO=1:=dh;simp only[j84] at hAl;have hblk:chgE j.now a.h a.b ft=0->0<=a.b/\a.b<12:=fun h=>iF (jb1 h);clear eT hE hTT hTO hrole;have q1:(a.kind==1)=false:=az;have q5:(a.kind==5)=false:=az;have q2:(a.kind==2)=true:=az;clear hk;unfold orE at eE;generalize chgE j.now a.h a.b ft=c at*;have hc:¬c=0:=fun h=>dr;have c0:(c==0)=false:=ik.2 hc;obtain rfl:E=c:=cy;clear eE hc hblk;replace hAl:=hid hAl
   go_wp2_with (first|(refine ZyL ?_)| (refine ZyS ?_;clear X;intro w X)| (refine ZyA ?_;clear X;intro g w X))
   have X9:=X.perm ((iP (l₁:=[_]) (l₂:=[_,_])).append_right _);simp only[iu,iw] at X9;clear X;have X:=X9;clear X9;(refine j__ 2 [] [9,13] [3,5,7] [0,1,2,3,4,5,6,7,8,9,10,11,12,13,14] X ?_;clear X;intro hQ X hL;simp only[zF,zG] at hL;simp only[zF,zG]);refine Zm ?_;refine Zn ?_;refine Zf ?_;refine Zl ?_;refine Zf ?_;refine Zl ?_;refine Zf ?_;refine Zl ?_;refine Zm ?_;(refine j_0 84 Tryz.func84 (hAl.out _ (X.jNow hsz.out (fun r hr=>iv _ hr))) ?_;rintro e w1 ⟨vm',vd',vr',rfl,hN,hb1⟩;replace X:=X.addT hb1 hN Zfl Zfl Zfl;clear hb1 hN;obtain⟨am,cm,rfl,_⟩:=X.r0.form;obtain⟨ad,cd,rfl,_⟩:=X.r1.form;obtain⟨ar,cr,rfl,_⟩:=X.r2.form;refine Zce ?_;clear hL;intro hL);refine Zm ?_;refine Zx ?_;refine Zx ?_;(refine Zs ?_;clear hL X;intro w X hL);refine Za ?_;refine j90 ?_;have X9:=X.perm ((iP (l₁:=[_,_]) (l₂:=[_])).append_right _);simp only[iu,iw] at X9;clear X;have X:=X9;clear X9
   go_wp2_with (first|(refine ZyL ?_)| (refine ZyS ?_;clear X;intro w X)| (refine ZyA ?_;clear X;intro g w X))
   go_meet;exact⟨_,_,_,_,_,_,_,_,_,rfl,rfl,X⟩
  ·have hAl:=fun w h=>K.fil j.now a.h a.b ft (.slice v.nm.a j.now.mt.length v.nm.c) (.slice v.nd.a j.now.dt.length v.nd.c) (.slice v.nr.a j.now.rev.length v.nr.c) w h;have eT:jr7 j.now a.h a.b ft=T:=by rw[<-hTT.out];unfold jK0;rw[ii aa,ii aa,ii aa,ij hk,hft.out]
   have eE:E=orE (orE (filE j.now a.h a.b ft) ((0:Int)=1) 8) (j.last<j.freed a.b) 9:=by rw[<-hE.out];unfold jN7;rw[ii aa,ii aa,ii aa,ij hk,hft.out,hrole.out]
   rw[eT] at hAl;obtain rfl:TO=2:=by rw[<-hTO.out];unfold jZ6;rw[ii aa,ij hk]
   simp only[j84] at hAl;have hblk:filE j.now a.h a.b ft=0->0<=a.b/\a.b<12:=fun h=>iF (jb2 h);clear eT hE hTT hTO hrole;have q1:(a.kind==1)=false:=az;have q5:(a.kind==5)=false:=az;have q2:(a.kind==2)=false:=az;have q3:(a.kind==3)=true:=az;clear hk;unfold orE at eE;generalize filE j.now a.h a.b ft=c at*;have hc:¬c=0:=fun h=>dr;have c0:(c==0)=false:=ik.2 hc;obtain rfl:E=c:=cy;clear eE hc hblk;replace hAl:=hid hAl
   go_wp2_with (first|(refine ZyL ?_)| (refine ZyS ?_;clear X;intro w X)| (refine ZyA ?_;clear X;intro g w X))
   have X9:=X.perm ((iP (l₁:=[_]) (l₂:=[_,_])).append_right _);simp only[iu,iw] at X9;clear X;have X:=X9;clear X9;(refine j__ 2 [] [9,13] [3,5,7] [0,1,2,3,4,5,6,7,8,9,10,11,12,13,14] X ?_;clear X;intro hQ X hL;simp only[zF,zG] at hL;simp only[zF,zG]);refine Zm ?_;refine Zn ?_;refine Zf ?_;refine Zl ?_;refine Zf ?_;refine Zl ?_;refine Zf ?_;refine Zl ?_;refine Zm ?_;(refine j_0 85 Tryz.func85 (hAl.out _ (X.jNow hsz.out (fun r hr=>iv _ hr))) ?_;rintro e w1 ⟨vm',vd',vr',rfl,hN,hb1⟩;replace X:=X.addT hb1 hN Zfl Zfl Zfl;clear hb1 hN;obtain⟨am,cm,rfl,_⟩:=X.r0.form;obtain⟨ad,cd,rfl,_⟩:=X.r1.form;obtain⟨ar,cr,rfl,_⟩:=X.r2.form;refine Zce ?_;clear hL;intro hL);refine Zm ?_;refine Zx ?_;refine Zx ?_;(refine Zs ?_;clear hL X;intro w X hL);refine Za ?_;refine j90 ?_;have X9:=X.perm ((iP (l₁:=[_,_]) (l₂:=[_])).append_right _);simp only[iu,iw] at X9;clear X;have X:=X9;clear X9
   go_wp2_with (first|(refine ZyL ?_)| (refine ZyS ?_;clear X;intro w X)| (refine ZyA ?_;clear X;intro g w X))
   (refine j__ 3 [] [] [5,9,13] [0,1,2,3,4,5,6,7,8,9,10,11,12,13,14,15] X ?_;clear X;intro hQ X hL;simp only[zF,zG] at hL;simp only[zF,zG]);refine Zm ?_;refine Zg ?_;refine Zm ?_;refine Zk ?_;refine Zk ?_;refine Zk ?_;refine Zk ?_;refine Zk ?_;refine Zk ?_;refine Zk ?_;refine Zk ?_;refine Zk ?_;refine Zk ?_;refine Zk ?_;refine Zk ?_;refine Zg ?_;refine j90 ?_
   go_wp2_with (first|(refine ZyL ?_)| (refine ZyS ?_;clear X;intro w X)| (refine ZyA ?_;clear X;intro g w X))
   go_meet;exact⟨_,_,_,_,_,_,_,_,_,rfl,rfl,X⟩
  ·have hAl:=fun w h=>K.rvk j.now a.h a.b (.slice v.nm.a j.now.mt.length v.nm.c) (.slice v.nd.a j.now.dt.length v.nd.c) (.slice v.nr.a j.now.rev.length v.nr.c) w h;have eT:jp6 j.now a.h a.b=T:=by rw[<-hTT.out];unfold jK0;rw[ii aa,ii aa,ii aa,ii aa]
   have eE:E=orE (rvkE j.now a.h a.b) ((0:Int)=0) 8:=by rw[<-hE.out];unfold jN7;rw[ii aa,ii aa,ii aa,ii aa,ij hk,hrole.out]
   rw[eT] at hAl;obtain rfl:TO=0:=by rw[<-hTO.out];unfold jZ6;rw[ii aa,ii aa,ij hk]
   simp only[j84] at hAl;have hblk:rvkE j.now a.h a.b=0->0<=a.b/\a.b<12:=fun h=>iF (jb3 h);clear eT hE hTT hTO hrole;have q1:(a.kind==1)=false:=az;have q5:(a.kind==5)=false:=az;have q2:(a.kind==2)=false:=az;have q3:(a.kind==3)=false:=az;have q4:(a.kind==4)=true:=az;clear hk;unfold orE at eE;generalize rvkE j.now a.h a.b=c at*;have hc:¬c=0:=fun h=>dr;have c0:(c==0)=false:=ik.2 hc;obtain rfl:E=c:=cy;clear eE hc hblk;replace hAl:=hid hAl
   go_wp2_with (first|(refine ZyL ?_)| (refine ZyS ?_;clear X;intro w X)| (refine ZyA ?_;clear X;intro g w X))
   have X9:=X.perm ((iP (l₁:=[_]) (l₂:=[_,_])).append_right _);simp only[iu,iw] at X9;clear X;have X:=X9;clear X9;(refine j__ 2 [] [8,12] [3,5,7] [0,1,2,3,4,5,6,7,8,9,10,11,12,13] X ?_;clear X;intro hQ X hL;simp only[zF,zG] at hL;simp only[zF,zG]);refine Zm ?_;refine Zn ?_;refine Zf ?_;refine Zl ?_;refine Zf ?_;refine Zl ?_;refine Zf ?_;refine Zl ?_;(refine j_0 86 Tryz.func86 (hAl.out _ (X.jNow hsz.out (fun r hr=>iv _ hr))) ?_;rintro e w1 ⟨vm',vd',vr',rfl,hN,hb1⟩;replace X:=X.addT hb1 hN Zfl Zfl Zfl;clear hb1 hN;obtain⟨am,cm,rfl,_⟩:=X.r0.form;obtain⟨ad,cd,rfl,_⟩:=X.r1.form;obtain⟨ar,cr,rfl,_⟩:=X.r2.form;refine Zce ?_;clear hL;intro hL);refine Zm ?_;refine Zx ?_;refine Zx ?_;(refine Zs ?_;clear hL X;intro w X hL);refine Za ?_;refine j90 ?_;have X9:=X.perm ((iP (l₁:=[_,_]) (l₂:=[_])).append_right _);simp only[iu,iw] at X9;clear X;have X:=X9;clear X9
   go_wp2_with (first|(refine ZyL ?_)| (refine ZyS ?_;clear X;intro w X)| (refine ZyA ?_;clear X;intro g w X))
   go_meet;exact⟨_,_,_,_,_,_,_,_,_,rfl,rfl,X⟩
  ·have hSt:=fun w h=>K.stop j.now a.h (.slice v.nm.a j.now.mt.length v.nm.c) (.slice v.nd.a j.now.dt.length v.nd.c) (.slice v.nr.a j.now.rev.length v.nr.c) w h;have eE:stopE j.now a.h=E:=by rw[<-hE.out];unfold jN7;rw[ii aa,ij hk]
   have eT:stopT j.now a.h=T:=by rw[<-hTT.out];unfold jK0;rw[ii aa,ij hk]
   have hT:=jv9 j.now a.h;rw[eT] at hT;rw[eE,eT] at hSt;obtain rfl:TO=0:=by rw[<-hTO.out,<-hrole.out];unfold jZ6;rw[ii aa,ii aa,ii aa]
   simp only[j84] at hSt;replace hSt:=hid hSt;replace hT:=hid hT;clear eE eT hE hTT hTO hrole;have q1:(a.kind==1)=false:=az;have q5:(a.kind==5)=true:=az;clear hk
   go_wp2_with (first|(refine ZyL ?_)| (refine ZyS ?_;clear X;intro w X)| (refine ZyA ?_;clear X;intro g w X))
   have X9:=X.perm ((iP (l₁:=[_]) (l₂:=[_,_])).append_right _);simp only[iu,iw] at X9;clear X;have X:=X9;clear X9;(refine j__ 2 [] [6,10] [3,5] [0,1,2,3,4,5,6,7,8,9,10,11] X ?_;clear X;intro hQ X hL;simp only[zF,zG] at hL;simp only[zF,zG]);refine Zm ?_;refine Zn ?_;refine Zf ?_;refine Zl ?_;refine Zf ?_;refine Zl ?_;(refine j_0 83 Tryz.func83 (hSt.out _ (X.jNow hsz.out (fun r hr=>iv _ hr))) ?_;rintro e w1 ⟨rfl,hb1⟩;replace X:=X.call hb1;clear hb1;refine Zce ?_;clear hL;intro hL);refine Zm ?_;refine Zx ?_;refine Zx ?_;(refine Zs ?_;clear hL X;intro w X hL);refine Za ?_;refine j90 ?_;replace hT:=hT.out;have X9:=X.perm ((iP (l₁:=[_,_]) (l₂:=[_])).append_right _);simp only[iu,iw] at X9;clear X;have X:=X9;clear X9;go_wp2;go_meet;exact⟨_,_,_,_,_,_,_,_,_,rfl,rfl,(X.rds (fun r hr=>(iS.1 hr).elim (fun h=>cW) (fun hr=>(iS.1 hr).elim (fun h=>cA) (fun hr=>(iS.1 hr).elim (fun h=>cB) (fun hr=>hr)))))⟩
 clear X;obtain⟨am,ad,ar,nm,nd,nr,cm,cd,cr,rfl,rfl,X⟩:=hcut;obtain rfl:nm=T.mt.length:=aV;obtain rfl:nd=T.dt.length:=aN;obtain rfl:nr=T.rev.length:=aK;clear hE hTT hTO hFit;by_cases hE0:E=0
 ·have hE1:jN7 j a=0:=hE9.out.trans hE0;have hnb:¬isBlk a.b=true:=fun h=>hb (iF h);have hk4:¬a.kind=4:=fun hk=>hnb (kW3 (.inr (.inr hk)) hE1);have hJ:j98 j a=({j with now:=T},0):=ck;have hI2:=hI.out;rw[hJ] at hI2;dsimp only at hI2;replace hI:=hid hI2;have f4:(a.kind==4)=false:=ik.2 hk4;replace hJ:=hid hJ;clear hI2 hk4 hnb hE1 hb;subst hE0;unfold j85 at X
  go_wp2_with (first|(refine ZyL ?_)| (refine ZyS ?_;clear X;intro w X)| (refine ZyA ?_;clear X;intro g w X))
  go_ret;rw[hJ.out];dsimp only
  first|refine RMa ?_ rfl|refine RMb ?_ rfl
  exact JMk (v:={v with nm:=⟨am,cm⟩,nd:=⟨ad,cd⟩,nr:=⟨ar,cr⟩}) [_,_] X ⟨hm.out.dn,hm.out.us,hm.out.dmap,hm.out.fmap,hm.out.dfit,hm.out.ffit,hI.out,hm.out.sz⟩ (j7_ Zfl Zfl Zfl Zfl Zfl Zfl Zfl Zfl Zfl Zfl (fun r hr=>.tail _ (.tail _ (.tail _ (jR2 r hr)))) (fun r hr=>.tail _ (.tail _ (.tail _ (jQ1 r hr)))) (fun r hr=>.tail _ (.tail _ (.tail _ (ip _ hr)))))
 ·have hJ:j98 j a=(j,E):=by unfold j98;rw[hE9.out,ii hE0]
  have f0:(E != 0)=true:=by simpa using hE0
  clear hE0;replace hJ:=hid hJ
  go_wp2_with (first|(refine ZyL ?_)| (refine ZyS ?_;clear X;intro w X)| (refine ZyA ?_;clear X;intro g w X))
  go_ret;rw[hJ.out];dsimp only
  first|refine RMa ?_ rfl|refine RMb ?_ rfl
  exact JMk (v:=v) [_,_] X hm.out (fun r hr=>.tail _ (.tail _ (.tail _ hr)))):A:=h
theorem ee{A:Prop}(h:A:=by
 go_wp2_with (first|(refine ZyL ?_)| (refine ZyS ?_;clear X;intro w X)| (refine ZyA ?_;clear X;intro g w X))
 have X9:=X.perm ((iP (l₁:=[_]) (l₂:=[_,_])).append_right _);simp only[iu,iw] at X9;clear X;have X:=X9;clear X9;(refine j__ 2 [] [9,13] [3,5,7] [0,1,2,3,4,5,6,7,8,9,10,11,12,13,14] X ?_;clear X;intro hQ X hL;simp only[zF,zG] at hL;simp only[zF,zG]);refine Zm ?_;refine Zn ?_;refine Zf ?_;refine Zl ?_;refine Zf ?_;refine Zl ?_;refine Zf ?_;refine Zl ?_;refine Zm ?_;(refine j_0 85 Tryz.func85 (hAl.out _ (X.jNow hsz.out (fun r hr=>iv _ hr))) ?_;rintro e w1 ⟨vm',vd',vr',rfl,hN,hb1⟩;replace X:=X.addT hb1 hN Zfl Zfl Zfl;clear hb1 hN;obtain⟨am,cm,rfl,_⟩:=X.r0.form;obtain⟨ad,cd,rfl,_⟩:=X.r1.form;obtain⟨ar,cr,rfl,_⟩:=X.r2.form;refine Zce ?_;clear hL;intro hL);refine Zm ?_;refine Zx ?_;refine Zx ?_;(refine Zs ?_;clear hL X;intro w X hL);refine Za ?_;refine j90 ?_;have X9:=X.perm ((iP (l₁:=[_,_]) (l₂:=[_])).append_right _);simp only[iu,iw] at X9;clear X;have X:=X9;clear X9
 go_wp2_with (first|(refine ZyL ?_)| (refine ZyS ?_;clear X;intro w X)| (refine ZyA ?_;clear X;intro g w X))
 (refine j__ 3 [] [] [5,9,13] [0,1,2,3,4,5,6,7,8,9,10,11,12,13,14,15] X ?_;clear X;intro hQ X hL;simp only[zF,zG] at hL;simp only[zF,zG]);refine Zm ?_;refine Zg ?_;refine Zm ?_;refine Zk ?_;refine Zk ?_;refine Zk ?_;refine Zk ?_;refine Zk ?_;refine Zk ?_;refine Zk ?_;refine Zk ?_;refine Zk ?_;refine Zk ?_;refine Zk ?_;refine Zk ?_;refine Zg ?_;refine j90 ?_
 go_wp2_with (first|(refine ZyL ?_)| (refine ZyS ?_;clear X;intro w X)| (refine ZyA ?_;clear X;intro g w X))
 go_meet;exact⟨_,_,_,_,_,_,_,_,_,rfl,rfl,X⟩):A:=h
theorem ef{A:Prop}(h:A:=by
 go_wp2_with (first|(refine ZyL ?_)| (refine ZyS ?_;clear X;intro w X)| (refine ZyA ?_;clear X;intro g w X))
 have X9:=X.perm ((iP (l₁:=[_]) (l₂:=[_,_])).append_right _);simp only[iu,iw] at X9;clear X;have X:=X9;clear X9;(refine j__ 2 [] [9,13] [3,5,7] [0,1,2,3,4,5,6,7,8,9,10,11,12,13,14] X ?_;clear X;intro hQ X hL;simp only[zF,zG] at hL;simp only[zF,zG]);refine Zm ?_;refine Zn ?_;refine Zf ?_;refine Zl ?_;refine Zf ?_;refine Zl ?_;refine Zf ?_;refine Zl ?_;refine Zm ?_;(refine j_0 84 Tryz.func84 (hAl.out _ (X.jNow hsz.out (fun r hr=>iv _ hr))) ?_;rintro e w1 ⟨vm',vd',vr',rfl,hN,hb1⟩;replace X:=X.addT hb1 hN Zfl Zfl Zfl;clear hb1 hN;obtain⟨am,cm,rfl,_⟩:=X.r0.form;obtain⟨ad,cd,rfl,_⟩:=X.r1.form;obtain⟨ar,cr,rfl,_⟩:=X.r2.form;refine Zce ?_;clear hL;intro hL);refine Zm ?_;refine Zx ?_;refine Zx ?_;(refine Zs ?_;clear hL X;intro w X hL);refine Za ?_;refine j90 ?_;have X9:=X.perm ((iP (l₁:=[_,_]) (l₂:=[_])).append_right _);simp only[iu,iw] at X9;clear X;have X:=X9;clear X9
 go_wp2_with (first|(refine ZyL ?_)| (refine ZyS ?_;clear X;intro w X)| (refine ZyA ?_;clear X;intro g w X))
 go_meet;exact⟨_,_,_,_,_,_,_,_,_,rfl,rfl,X⟩):A:=h
theorem eh{A:Prop}(h:A:=by
 go_wp2_with (first|(refine ZyL ?_)| (refine ZyS ?_;clear X;intro w X)| (refine ZyA ?_;clear X;intro g w X))
 have X9:=X.perm ((iP (l₁:=[_]) (l₂:=[_,_])).append_right _);simp only[iu,iw] at X9;clear X;have X:=X9;clear X9;(refine j__ 2 [] [8,12] [3,5,7] [0,1,2,3,4,5,6,7,8,9,10,11,12,13] X ?_;clear X;intro hQ X hL;simp only[zF,zG] at hL;simp only[zF,zG]);refine Zm ?_;refine Zn ?_;refine Zf ?_;refine Zl ?_;refine Zf ?_;refine Zl ?_;refine Zf ?_;refine Zl ?_;(refine j_0 86 Tryz.func86 (hAl.out _ (X.jNow hsz.out (fun r hr=>iv _ hr))) ?_;rintro e w1 ⟨vm',vd',vr',rfl,hN,hb1⟩;replace X:=X.addT hb1 hN Zfl Zfl Zfl;clear hb1 hN;obtain⟨am,cm,rfl,_⟩:=X.r0.form;obtain⟨ad,cd,rfl,_⟩:=X.r1.form;obtain⟨ar,cr,rfl,_⟩:=X.r2.form;refine Zce ?_;clear hL;intro hL);refine Zm ?_;refine Zx ?_;refine Zx ?_;(refine Zs ?_;clear hL X;intro w X hL);refine Za ?_;refine j90 ?_;have X9:=X.perm ((iP (l₁:=[_,_]) (l₂:=[_])).append_right _);simp only[iu,iw] at X9;clear X;have X:=X9;clear X9
 go_wp2_with (first|(refine ZyL ?_)| (refine ZyS ?_;clear X;intro w X)| (refine ZyA ?_;clear X;intro g w X))
 go_meet;exact⟨_,_,_,_,_,_,_,_,_,rfl,rfl,X⟩):A:=h
theorem ek{A:Prop}(h:A:=by
 refine Zm ?_;refine Zx ?_;refine Zx ?_;(refine Zs ?_;clear hL X;intro w X hL);refine Za ?_;refine j90 ?_;replace hT:=hT.out;have X9:=X.perm ((iP (l₁:=[_,_]) (l₂:=[_])).append_right _);simp only[iu,iw] at X9;clear X;have X:=X9;clear X9;go_wp2;go_meet;exact⟨_,_,_,_,_,_,_,_,_,rfl,rfl,(X.rds (fun r hr=>(iS.1 hr).elim (fun h=>cW) (fun hr=>(iS.1 hr).elim (fun h=>cA) (fun hr=>(iS.1 hr).elim (fun h=>cB) (fun hr=>hr)))))⟩):A:=h
theorem eo{A:Prop}(h:A:=by
 go_wp2_with (first|(refine ZyL ?_)| (refine ZyS ?_;clear X;intro w X)| (refine ZyA ?_;clear X;intro g w X))
 go_meet;exact⟨_,_,_,_,_,_,_,_,_,rfl,rfl,X⟩):A:=h
theorem ep{A:Prop}(h:A:=by
 go_wp2_with (first|(refine ZyL ?_)| (refine ZyS ?_;clear X;intro w X)| (refine ZyA ?_;clear X;intro g w X))
 go_ret;rw[hJ.out];dsimp only
 first|refine RMa ?_ rfl|refine RMb ?_ rfl
 exact JMk (v:={v with nm:=⟨am,cm⟩,nd:=⟨ad,cd⟩,nr:=⟨ar,cr⟩}) [_,_] X ⟨hm.out.dn,hm.out.us,hm.out.dmap,hm.out.fmap,hm.out.dfit,hm.out.ffit,hI.out,hm.out.sz⟩ (j7_ Zfl Zfl Zfl Zfl Zfl Zfl Zfl Zfl Zfl Zfl (fun r hr=>.tail _ (.tail _ (.tail _ (jR2 r hr)))) (fun r hr=>.tail _ (.tail _ (.tail _ (jQ1 r hr)))) (fun r hr=>.tail _ (.tail _ (.tail _ (ip _ hr)))))):A:=h
theorem kS9(K : JK){S : List Nat}{w0 w : World}{L : List Ent}{R : List Rd}{gj : Nat}{j : Jn}{M : List Ent}{Rj : List Rd}(F : JF gj j M Rj)(X : St S w0 w (M ++ L) (Rj ++ R))(a : Aj)(hs : a.text.size <= 9223372036854775807)(hkd : 1 <= a.kind /\ a.kind <= 5)(hd : j.down = false) :Calls Tryz.prog 39 #[.pointer (some ⟨gj,0,none⟩),.agg #[.int .i64 a.kind,.int .i64 a.h,.int .i64 a.b,.int .i64 a.n,.string a.text]] w fun e w'=>∃M' Rj',e=.returned (.int .i64 (j98 j a).2)/\JF gj (j98 j a).1 M' Rj'/\St S w0 w' (M'++L) (Rj'++R):=by
 obtain⟨v,ds,fs,MD,MU,hm,rfl,rfl⟩:=F;have hsz:=hm.inv.sz hm.sz;have hI:=jq1 a hd hm.inv;have hng:=((jn6 hm.inv).2 hd).1;have hgr:=(j71 _).1 (jn6 hm.inv).1;rw[iu,iE] at X;unfold j85 at X;have hFit:=fun w=>K.fit a.text w hs;have hro:=fun{n:Nat} (h:n<12)=>jg9 v j h;have hfr:=fun{n:Nat} (h:n<12)=>kQ_ v j h;generalize hft:fit a.text=ft at*;replace hFit:=hid hFit;replace hm:=hid hm;replace hsz:=hid hsz;replace hI:=hid hI;replace hft:=hid hft;obtain⟨role,hrole⟩:∃role,jS6 j a.b=role:=⟨_,rfl⟩;replace hrole:=hid hrole;obtain⟨E,hE⟩:∃E,jN7 j a=E:=⟨_,rfl⟩;obtain⟨T,hTT⟩:∃T,jK0 j a=T:=⟨_,rfl⟩;obtain⟨TO,hTO⟩:∃TO,jZ6 j a=TO:=⟨_,rfl⟩;have hE9:=hid hE;have hTT9:=hid hTT;have hTO9:=hid hTO;replace hE:=hid hE;replace hTT:=hid hTT;replace hTO:=hid hTO;replace hng:=hid hng;replace hgr:=hgr;have hks:a.kind=1\/a.kind=2\/a.kind=3\/a.kind=4\/a.kind=5:=aa;by_cases hb:0<=a.b/\a.b<12
 ·obtain⟨n,hn⟩:∃n:Nat,a.b=n:=⟨a.b.toNat,aa⟩;have hn12:n<12:=aa;have hr0:=hro hn12;have hrl:j.roles n=role:=by rw[<-hrole.out];unfold jS6;rw[ij (show isBlk a.b=true from iG hb),hn]
  rw[hrl] at hr0;replace hrl:=hid hrl;clear hb;rw[hn];go_enter Tryz.func39,Tryz.ntmps39
  go_upto_region 1 with (first|(refine Zbx ?_;clear X;intro g w X))
  go_upto_region 6 with (first|(refine ZyL ?_)| (refine ZyS ?_;clear X;intro w X)| (refine ZyA ?_;clear X;intro g w X)|(go_at_call 65;((with_reducible refine(hFit.out _).mono ?_);rintro e w1 ⟨rfl,hb1⟩;replace X:=X.call hb1;clear hb1)))
  (refine j__ 3 [] [] [2,6] [0,1,2,3,4,5,6,7] X ?_;clear X;intro hQ X hL;simp only[zF,zG] at hL;simp only[zF,zG]);refine Zm ?_;refine Zf ?_;refine Zl ?_;refine Zn ?_;refine Zf ?_;refine Zg ?_;((refine jR9 rfl rfl Zev bc rfl rfl X hL hQ ?_);(simp only[Act.put,zA,zB,zC,zD,zE,zF,zG,Nat.reduceAdd]));refine Za ?_;refine j90 ?_
  go_upto_block 0 with (first|(refine ZyL ?_)| (refine ZyS ?_;clear X;intro w X)| (refine ZyA ?_;clear X;intro g w X)|(go_at_call 65;((with_reducible refine(hFit.out _).mono ?_);rintro e w1 ⟨rfl,hb1⟩;replace X:=X.call hb1;clear hb1)))
  obtain⟨g5,g3,rfl,rfl⟩:=X.nm2
  go_cut [6,9] (fun s6 s9 wx=>∃(am ad ar:Option Addr) (nm nd nr cm cd cr:Nat),s6=.int .i64 E/\s9=.int .i64 TO/\St S w0 wx (⟨g5,[.int .i64 T.seq,.slice am nm cm,.slice ad nd cd,.slice ar nr cr,.bool T.h0.on,.int .i64 T.h0.left,.bool T.h1.on,.int .i64 T.h1.left,.bool T.h2.on,.int .i64 T.h2.left],51⟩::⟨g3,[.int .i64 a.kind,.int .i64 a.h,.int .i64 n,.int .i64 a.n,.string a.text],28⟩::⟨gj,j85 v j,84⟩::(MD++(MU++L))) (kj2 j_3 (.slice am nm cm) T.mt::kj2 j_3 (.slice ad nd cd) T.dt::kj2 j_9 (.slice ar nr cr) T.rev::(jRds v j ds fs++R)))
  case first=>
   rcases hks with hk|hk|hk|hk|hk
   ·have hBg:=fun w h=>K.beg j.now a.h a.n (24-j.ring.used) (.slice v.nm.a j.now.mt.length v.nm.c) (.slice v.nd.a j.now.dt.length v.nd.c) (.slice v.nr.a j.now.rev.length v.nr.c) w h;have hFr:=fun w=>K.free j.ring w hgr.2.2.1 hgr.2.2.2;unfold Ring.val at hFr;have eE:begE j.now a.h a.n (24-j.ring.used)=E:=cR;have eT:begT j.now a.h a.n (24-j.ring.used)=T:=cM;have hT:=jo2 j.now a.h a.n (24-j.ring.used);rw[eT] at hT;rw[eE,eT] at hBg;obtain rfl:TO=role:=by rw[<-hTO.out,<-hrole.out];unfold jZ6;rw[ii aa,ii aa,ii aa]
    simp only[j84] at hBg;replace hBg:=hid hBg;replace hFr:=hid hFr;replace hT:=hid hT;clear eE eT hE hTT hTO hrole;have q1:(a.kind==1)=true:=az;clear hk
    go_wp2_with (first|(refine ZyL ?_)| (refine ZyS ?_;clear X;intro w X)| (refine ZyA ?_;clear X;intro g w X))
    have X9:=X.perm ((iP (l₁:=[_]) (l₂:=[_,_])).append_right _);simp only[iu,iw] at X9;clear X;have X:=X9;clear X9;(refine j__ 2 [] [12,13,17] [3,5,7,11] [0,1,2,3,4,5,6,7,8,9,10,11,12,13,14,15,16,17,18] X ?_;clear X;intro hQ X hL;simp only[zF,zG] at hL;simp only[zF,zG]);refine Zm ?_;refine Zn ?_;refine Zf ?_;refine Zl ?_;refine Zf ?_;refine Zl ?_;refine Zf ?_;refine Zl ?_;refine Zm ?_;refine Zn ?_;refine Zf ?_;refine Zl ?_;(refine j_0 82 Tryz.func82 (hFr.out _) ?_;rintro e w1 ⟨rfl,hb1⟩;replace X:=X.call hb1;clear hb1;refine Zce ?_;clear hL;intro hL);(refine j_0 81 Tryz.func81 (hBg.out _ (X.jNow hsz.out (fun r hr=>iv _ hr))) ?_;rintro e w1 ⟨rfl,hb1⟩;replace X:=X.call hb1;clear hb1;refine Zce ?_;clear hL;intro hL);exact ek
   ·have hAl:=fun w h=>K.chg j.now a.h a.b ft (.slice v.nm.a j.now.mt.length v.nm.c) (.slice v.nd.a j.now.dt.length v.nd.c) (.slice v.nr.a j.now.rev.length v.nr.c) w h;have eT:jC1 j.now a.h a.b ft=T:=by rw[<-hTT.out];unfold jK0;rw[ii aa,ii aa,ij hk,hft.out]
    have eE:E=orE (chgE j.now a.h a.b ft) (role=2) 8:=by rw[<-hE.out];unfold jN7;rw[ii aa,ii aa,ij hk,hft.out,hrole.out]
    rw[eT] at hAl;obtain rfl:TO=1:=dh;simp only[j84] at hAl;have hblk:chgE j.now a.h a.b ft=0->0<=a.b/\a.b<12:=fun h=>iF (jb1 h);clear eT hE hTT hTO hrole;have q1:(a.kind==1)=false:=az;have q5:(a.kind==5)=false:=az;have q2:(a.kind==2)=true:=az;clear hk;unfold orE at eE;rw[hn] at hAl eE hblk;generalize chgE j.now a.h n ft=c at*;by_cases hc:c=0
    ·rw[hc] at hAl eE;clear hc hblk;replace hAl:=hid hAl;by_cases hr:role=2
     ·obtain rfl:E=8:=by rw[eE];simp[hr]
      clear eE;have r0:(role==2)=true:=by simpa using hr
      clear hr;exact ef
     ·have r0:(role==2)=false:=ik.2 hr;rw[ii (show¬((0:Int)=0/\role=2) from fun h=>hr h.2)] at eE;clear hr;obtain rfl:E=0:=eE;exact ef
    ·have c0:(c==0)=false:=ik.2 hc;obtain rfl:E=c:=cy;clear eE hc hblk;replace hAl:=hid hAl;exact ef
   ·have hAl:=fun w h=>K.fil j.now a.h a.b ft (.slice v.nm.a j.now.mt.length v.nm.c) (.slice v.nd.a j.now.dt.length v.nd.c) (.slice v.nr.a j.now.rev.length v.nr.c) w h;have eT:jr7 j.now a.h a.b ft=T:=by rw[<-hTT.out];unfold jK0;rw[ii aa,ii aa,ii aa,ij hk,hft.out]
    have eE:E=orE (orE (filE j.now a.h a.b ft) (role=1) 8) (j.last<j.freed a.b) 9:=by rw[<-hE.out];unfold jN7;rw[ii aa,ii aa,ii aa,ij hk,hft.out,hrole.out]
    rw[eT] at hAl;obtain rfl:TO=2:=by rw[<-hTO.out];unfold jZ6;rw[ii aa,ij hk]
    simp only[j84] at hAl;have hblk:filE j.now a.h a.b ft=0->0<=a.b/\a.b<12:=fun h=>iF (jb2 h);clear eT hE hTT hTO hrole;have q1:(a.kind==1)=false:=az;have q5:(a.kind==5)=false:=az;have q2:(a.kind==2)=false:=az;have q3:(a.kind==3)=true:=az;clear hk;unfold orE at eE;rw[hn] at hAl eE hblk;generalize filE j.now a.h n ft=c at*;by_cases hc:c=0
    ·rw[hc] at hAl eE;clear hc hblk;replace hAl:=hid hAl;by_cases hr:role=1
     ·obtain rfl:E=8:=by rw[eE];simp[hr]
      clear eE;have r0:(role==1)=true:=by simpa using hr
      clear hr;exact ee
     ·have r0:(role==1)=false:=ik.2 hr;rw[ii (show¬((0:Int)=0/\role=1) from fun h=>hr h.2)] at eE;clear hr;have hf0:=hfr hn12;by_cases hl:j.last<j.freed n
      ·obtain rfl:E=9:=by rw[eE];simp[hl]
       clear eE
       go_wp2_with (first|(refine ZyL ?_)| (refine ZyS ?_;clear X;intro w X)| (refine ZyA ?_;clear X;intro g w X))
       have X9:=X.perm ((iP (l₁:=[_]) (l₂:=[_,_])).append_right _);simp only[iu,iw] at X9;clear X;have X:=X9;clear X9;(refine j__ 2 [] [9,13] [3,5,7] [0,1,2,3,4,5,6,7,8,9,10,11,12,13,14] X ?_;clear X;intro hQ X hL;simp only[zF,zG] at hL;simp only[zF,zG]);refine Zm ?_;refine Zn ?_;refine Zf ?_;refine Zl ?_;refine Zf ?_;refine Zl ?_;refine Zf ?_;refine Zl ?_;refine Zm ?_;(refine j_0 85 Tryz.func85 (hAl.out _ (X.jNow hsz.out (fun r hr=>iv _ hr))) ?_;rintro e w1 ⟨vm',vd',vr',rfl,hN,hb1⟩;replace X:=X.addT hb1 hN Zfl Zfl Zfl;clear hb1 hN;obtain⟨am,cm,rfl,_⟩:=X.r0.form;obtain⟨ad,cd,rfl,_⟩:=X.r1.form;obtain⟨ar,cr,rfl,_⟩:=X.r2.form;refine Zce ?_;clear hL;intro hL);refine Zm ?_;refine Zx ?_;refine Zx ?_;(refine Zs ?_;clear hL X;intro w X hL);refine Za ?_;refine j90 ?_;have X9:=X.perm ((iP (l₁:=[_,_]) (l₂:=[_])).append_right _);simp only[iu,iw] at X9;clear X;have X:=X9;clear X9
       go_wp2_with (first|(refine ZyL ?_)| (refine ZyS ?_;clear X;intro w X)| (refine ZyA ?_;clear X;intro g w X))
       (refine j__ 3 [] [] [5,9,13] [0,1,2,3,4,5,6,7,8,9,10,11,12,13,14,15] X ?_;clear X;intro hQ X hL;simp only[zF,zG] at hL;simp only[zF,zG]);refine Zm ?_;refine Zg ?_;refine Zm ?_;refine Zm ?_;refine Zf ?_;refine Zl ?_;refine Zn ?_;refine Zf ?_;refine Zg ?_;((refine jR9 rfl rfl Zev aB rfl rfl X hL hQ ?_);(simp only[Act.put,zA,zB,zC,zD,zE,zF,zG,Nat.reduceAdd]));refine Zm ?_;refine Zn ?_;refine Zf ?_;refine Zl ?_;refine Zg ?_;refine Zg ?_;refine j90 ?_;exact eo
      ·obtain rfl:E=0:=by rw[eE];simp[hl]
       clear eE
       go_wp2_with (first|(refine ZyL ?_)| (refine ZyS ?_;clear X;intro w X)| (refine ZyA ?_;clear X;intro g w X))
       have X9:=X.perm ((iP (l₁:=[_]) (l₂:=[_,_])).append_right _);simp only[iu,iw] at X9;clear X;have X:=X9;clear X9;(refine j__ 2 [] [9,13] [3,5,7] [0,1,2,3,4,5,6,7,8,9,10,11,12,13,14] X ?_;clear X;intro hQ X hL;simp only[zF,zG] at hL;simp only[zF,zG]);refine Zm ?_;refine Zn ?_;refine Zf ?_;refine Zl ?_;refine Zf ?_;refine Zl ?_;refine Zf ?_;refine Zl ?_;refine Zm ?_;(refine j_0 85 Tryz.func85 (hAl.out _ (X.jNow hsz.out (fun r hr=>iv _ hr))) ?_;rintro e w1 ⟨vm',vd',vr',rfl,hN,hb1⟩;replace X:=X.addT hb1 hN Zfl Zfl Zfl;clear hb1 hN;obtain⟨am,cm,rfl,_⟩:=X.r0.form;obtain⟨ad,cd,rfl,_⟩:=X.r1.form;obtain⟨ar,cr,rfl,_⟩:=X.r2.form;refine Zce ?_;clear hL;intro hL);refine Zm ?_;refine Zx ?_;refine Zx ?_;(refine Zs ?_;clear hL X;intro w X hL);refine Za ?_;refine j90 ?_;have X9:=X.perm ((iP (l₁:=[_,_]) (l₂:=[_])).append_right _);simp only[iu,iw] at X9;clear X;have X:=X9;clear X9
       go_wp2_with (first|(refine ZyL ?_)| (refine ZyS ?_;clear X;intro w X)| (refine ZyA ?_;clear X;intro g w X))
       (refine j__ 3 [] [] [5,9,13] [0,1,2,3,4,5,6,7,8,9,10,11,12,13,14,15] X ?_;clear X;intro hQ X hL;simp only[zF,zG] at hL;simp only[zF,zG]);refine Zm ?_;refine Zg ?_;refine Zm ?_;refine Zm ?_;refine Zf ?_;refine Zl ?_;refine Zn ?_;refine Zf ?_;refine Zg ?_;((refine jR9 rfl rfl Zev aB rfl rfl X hL hQ ?_);(simp only[Act.put,zA,zB,zC,zD,zE,zF,zG,Nat.reduceAdd]));refine Zm ?_;refine Zn ?_;refine Zf ?_;refine Zl ?_;refine Zg ?_;refine Zg ?_;refine j90 ?_;exact eo
    ·have c0:(c==0)=false:=ik.2 hc;obtain rfl:E=c:=cy;clear eE hc hblk;replace hAl:=hid hAl;exact ee
   ·have hAl:=fun w h=>K.rvk j.now a.h a.b (.slice v.nm.a j.now.mt.length v.nm.c) (.slice v.nd.a j.now.dt.length v.nd.c) (.slice v.nr.a j.now.rev.length v.nr.c) w h;have eT:jp6 j.now a.h a.b=T:=by rw[<-hTT.out];unfold jK0;rw[ii aa,ii aa,ii aa,ii aa]
    have eE:E=orE (rvkE j.now a.h a.b) (role=0) 8:=by rw[<-hE.out];unfold jN7;rw[ii aa,ii aa,ii aa,ii aa,ij hk,hrole.out]
    rw[eT] at hAl;obtain rfl:TO=0:=by rw[<-hTO.out];unfold jZ6;rw[ii aa,ii aa,ij hk]
    simp only[j84] at hAl;have hblk:rvkE j.now a.h a.b=0->0<=a.b/\a.b<12:=fun h=>iF (jb3 h);clear eT hE hTT hTO hrole;have q1:(a.kind==1)=false:=az;have q5:(a.kind==5)=false:=az;have q2:(a.kind==2)=false:=az;have q3:(a.kind==3)=false:=az;have q4:(a.kind==4)=true:=az;clear hk;unfold orE at eE;rw[hn] at hAl eE hblk;generalize rvkE j.now a.h n=c at*;by_cases hc:c=0
    ·rw[hc] at hAl eE;clear hc hblk;replace hAl:=hid hAl;by_cases hr:role=0
     ·obtain rfl:E=8:=by rw[eE];simp[hr]
      clear eE;have r0:(role==0)=true:=by simpa using hr
      clear hr;exact eh
     ·have r0:(role==0)=false:=ik.2 hr;rw[ii (show¬((0:Int)=0/\role=0) from fun h=>hr h.2)] at eE;clear hr;obtain rfl:E=0:=eE;exact eh
    ·have c0:(c==0)=false:=ik.2 hc;obtain rfl:E=c:=cy;clear eE hc hblk;replace hAl:=hid hAl;exact eh
   ·have hSt:=fun w h=>K.stop j.now a.h (.slice v.nm.a j.now.mt.length v.nm.c) (.slice v.nd.a j.now.dt.length v.nd.c) (.slice v.nr.a j.now.rev.length v.nr.c) w h;have eE:stopE j.now a.h=E:=by rw[<-hE.out];unfold jN7;rw[ii aa,ij hk]
    have eT:stopT j.now a.h=T:=by rw[<-hTT.out];unfold jK0;rw[ii aa,ij hk]
    have hT:=jv9 j.now a.h;rw[eT] at hT;rw[eE,eT] at hSt;obtain rfl:TO=role:=by rw[<-hTO.out,<-hrole.out];unfold jZ6;rw[ii aa,ii aa,ii aa]
    simp only[j84] at hSt;replace hSt:=hid hSt;replace hT:=hid hT;clear eE eT hE hTT hTO hrole;have q1:(a.kind==1)=false:=az;have q5:(a.kind==5)=true:=az;clear hk
    go_wp2_with (first|(refine ZyL ?_)| (refine ZyS ?_;clear X;intro w X)| (refine ZyA ?_;clear X;intro g w X))
    have X9:=X.perm ((iP (l₁:=[_]) (l₂:=[_,_])).append_right _);simp only[iu,iw] at X9;clear X;have X:=X9;clear X9;(refine j__ 2 [] [6,10] [3,5] [0,1,2,3,4,5,6,7,8,9,10,11] X ?_;clear X;intro hQ X hL;simp only[zF,zG] at hL;simp only[zF,zG]);refine Zm ?_;refine Zn ?_;refine Zf ?_;refine Zl ?_;refine Zf ?_;refine Zl ?_;(refine j_0 83 Tryz.func83 (hSt.out _ (X.jNow hsz.out (fun r hr=>iv _ hr))) ?_;rintro e w1 ⟨rfl,hb1⟩;replace X:=X.call hb1;clear hb1;refine Zce ?_;clear hL;intro hL);exact ek
  clear X;obtain⟨am,ad,ar,nm,nd,nr,cm,cd,cr,rfl,rfl,X⟩:=hcut;obtain rfl:nm=T.mt.length:=aV;obtain rfl:nd=T.dt.length:=aN;obtain rfl:nr=T.rev.length:=aK;clear hE hTT hTO hFit;by_cases hE0:E=0
  ·have hE1:jN7 j a=0:=hE9.out.trans hE0;by_cases hto:TO=role
   ·have hk4 : ¬ a.kind = 4 := fun hk => by
      have h1:=hE1;have h2:=hTO9.out;unfold jN7 at h1;unfold jZ6 at h2;rw[ii aa,ii aa,ii aa,ii aa,ij hk,hrole.out] at h1;rw[ii aa,ii aa,ij hk] at h2;have h3:role=0:=aa;unfold orE at h1
      split at h1
      · cases h1
      · rename_i h4;exact h4 ⟨h1,h3⟩
    have hJ:j98 j a=({j with now:=T},0):=by unfold j98;rw[ij hE1,hTT9.out,hTO9.out,hrole.out,ii (fun h=>h.2 hto),ii hk4]
    have hI2:=hI.out;rw[hJ] at hI2;dsimp only at hI2;replace hI:=hid hI2;have f1:(TO != role)=false:=by rw[hto];simp
    have f4:(a.kind==4)=false:=ik.2 hk4;replace hJ:=hid hJ;clear hI2 hk4 hto hE1;subst hE0;unfold j85 at X;exact ep
   ·have f1:(TO != role)=true:=by simpa using hto
    by_cases hk4:a.kind=4
    ·have hJ:j98 j a=({j with now:=T,roles:=jV_ j.roles n TO,freed:=jV_ j.freed n T.seq},0):=by unfold j98;rw[ij hE1,hTT9.out,hTO9.out,hrole.out,ij ⟨show isBlk a.b=true from iG aa,hto⟩,ij hk4,hn]
     have hI2:=hI.out;rw[hJ] at hI2;dsimp only at hI2;replace hI:=hid hI2;have f4:(a.kind==4)=true:=by rw[hk4];rfl
     replace hJ:=hid hJ;clear hI2 hk4 hto hE1;subst hE0;unfold j85 at X
     go_upto_region 34 with (first|(refine ZyL ?_)| (refine ZyS ?_;clear X;intro w X)| (refine ZyA ?_;clear X;intro g w X))
     (refine j__ 2 [] [7] [2] [0,1,2,3,4,5,6,7] X ?_;clear X;intro hQ X hL;simp only[zF,zG] at hL;simp only[zF,zG]);refine Zm ?_;refine Zf ?_;refine Zl ?_;refine Zm ?_;refine Zn ?_;refine Zf ?_;refine Zg ?_;((refine jN8 rfl rfl Zev Zev X rfl rfl rfl rfl hL Zpv Zsu ?_);intro w X2 hL2;replace X:=X2;clear X2;replace hL:=hL2;clear hL2;(simp only[Act.put,zA,zB,zC,zD,zE,zF,zG,Nat.reduceAdd]));refine j90 ?_;have hu:=jc7 {v with nm:=⟨am,cm⟩,nd:=⟨ad,cd⟩,nr:=⟨ar,cr⟩} {j with now:=T} hn12 TO;unfold j85 at hu;dsimp only at hu;rw[hu] at X;clear hu
     go_upto_region 36 with (first|(refine ZyL ?_)| (refine ZyS ?_;clear X;intro w X)| (refine ZyA ?_;clear X;intro g w X))
     (refine j__ 2 [] [8] [2,4] [0,1,2,3,4,5,6,7,8] X ?_;clear X;intro hQ X hL;simp only[zF,zG] at hL;simp only[zF,zG]);refine Zm ?_;refine Zf ?_;refine Zl ?_;refine Zf ?_;refine Zl ?_;refine Zn ?_;refine Zf ?_;refine Zg ?_;((refine jN8 rfl rfl Zev Zev X rfl rfl rfl rfl hL Zpv Zsu ?_);intro w X2 hL2;replace X:=X2;clear X2;replace hL:=hL2;clear hL2;(simp only[Act.put,zA,zB,zC,zD,zE,zF,zG,Nat.reduceAdd]));refine j90 ?_;have hu:=kL1 {v with nm:=⟨am,cm⟩,nd:=⟨ad,cd⟩,nr:=⟨ar,cr⟩} {j with now:=T,roles:=jV_ j.roles n TO} hn12 T.seq;unfold j85 at hu;dsimp only at hu;rw[hu] at X;clear hu;exact ep
    ·have hJ:j98 j a=({j with now:=T,roles:=jV_ j.roles n TO},0):=by unfold j98;rw[ij hE1,hTT9.out,hTO9.out,hrole.out,ij ⟨show isBlk a.b=true from iG aa,hto⟩,ii hk4,hn]
     have hI2:=hI.out;rw[hJ] at hI2;dsimp only at hI2;replace hI:=hid hI2;have f4:(a.kind==4)=false:=ik.2 hk4;replace hJ:=hid hJ;clear hI2 hk4 hto hE1;subst hE0;unfold j85 at X
     go_upto_region 34 with (first|(refine ZyL ?_)| (refine ZyS ?_;clear X;intro w X)| (refine ZyA ?_;clear X;intro g w X))
     (refine j__ 2 [] [7] [2] [0,1,2,3,4,5,6,7] X ?_;clear X;intro hQ X hL;simp only[zF,zG] at hL;simp only[zF,zG]);refine Zm ?_;refine Zf ?_;refine Zl ?_;refine Zm ?_;refine Zn ?_;refine Zf ?_;refine Zg ?_;((refine jN8 rfl rfl Zev Zev X rfl rfl rfl rfl hL Zpv Zsu ?_);intro w X2 hL2;replace X:=X2;clear X2;replace hL:=hL2;clear hL2;(simp only[Act.put,zA,zB,zC,zD,zE,zF,zG,Nat.reduceAdd]));refine j90 ?_;have hu:=jc7 {v with nm:=⟨am,cm⟩,nd:=⟨ad,cd⟩,nr:=⟨ar,cr⟩} {j with now:=T} hn12 TO;unfold j85 at hu;dsimp only at hu;rw[hu] at X;clear hu;exact ep
  ·have hJ:j98 j a=(j,E):=by unfold j98;rw[hE9.out,ii hE0]
   have f0:(E != 0)=true:=by simpa using hE0
   clear hE0;replace hJ:=hid hJ
   go_wp2_with (first|(refine ZyL ?_)| (refine ZyS ?_;clear X;intro w X)| (refine ZyA ?_;clear X;intro g w X))
   go_ret;rw[hJ.out];dsimp only
   first|refine RMa ?_ rfl|refine RMb ?_ rfl
   exact JMk (v:=v) [_,_] X hm.out (fun r hr=>.tail _ (.tail _ (.tail _ hr)))
 ·obtain rfl:role=0:=by rw[<-hrole.out];unfold jS6;rw[ii (show¬isBlk a.b=true from fun h=>hb (iF h))]
  by_cases hlt:a.b<0
  ·go_enter Tryz.func39,Tryz.ntmps39;exact ea
  ·have hge:(12:Int)<=a.b:=by omega
   go_enter Tryz.func39,Tryz.ntmps39;exact ea
end Go.Proofs.YtlecmdajpfkaeaaGreatDoor