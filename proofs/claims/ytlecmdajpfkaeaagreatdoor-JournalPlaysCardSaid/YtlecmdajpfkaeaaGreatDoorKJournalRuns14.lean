/- Parts of the proof. -/
import Derived.Test.YtlecmdajpfkaeaaGreatDoorKJournalRuns30
import Derived.Test.YtlecmdajpfkaeaaGreatDoorKJournalRuns8
set_option linter.unusedVariables false
set_option linter.unusedSimpArgs false
set_option maxRecDepth 100000
set_option maxHeartbeats 40000000
namespace Wb
open Go Go.RowKit
theorem kx8{α:Type}(a b c:α)(L:List α):(a::b::c::L).Perm (c::a::b::L):=(iP (l₁:=[a,b]) (l₂:=[c])).append_right _
theorem kP3{α:Type}(c a b:α)(L:List α):(c::a::b::L).Perm (a::b::c::L):=(iP (l₁:=[c]) (l₂:=[a,b])).append_right _
def doK(j:Jn)(a:Aj):Jn×Rep:=
 if a.kind<1\/11<a.kind then(j,noR 3) else if a.kind=10 then noJ (j15 j a.n) else if a.kind=11 then noJ (j36 j) else if a.kind=8 then jR5 j
 else if j.down=true then(j,noR 10) else if a.kind=6 then j82 j else if a.kind=7 then noJ (j37 j) else if a.kind=9 then(j,jJ5 j a.b) else noJ (j98 j a)
theorem kt9{j:Jn}(a:Aj)(h:¬400<=j.acts):doJ j a=doK {j with acts:=j.acts+1} a:=by unfold doJ;rw[ii h];rfl
def ors(p:Option ByteArray)(l:List (List Cpy))(b:Int):Option ByteArray:=l.foldl (fun p x=>p.or (getC x b)) p
theorem kT4(j:Jn)(b:Int):firstC j b=ors (getC j.now.mt b) [j.now.dt,j.sealed.mt,j.sealed.dt,newestL j.done] b:=by
 unfold firstC ors;simp only[List.foldl_cons,List.foldl_nil]
 cases getC j.now.mt b<;>cases getC j.now.dt b<;>cases getC j.sealed.mt b<;>cases getC j.sealed.dt b<;>rfl
end Wb
namespace Go.Proofs.YtlecmdajpfkaeaaGreatDoor
open Go.RowKit Wb
theorem Zdf{A:Prop}(h:A:=by
 refine j93 rfl (.tmp rfl rfl) X (.head _) rfl rfl ?_;rw[hD.out];exact⟨_,_,rfl,⟨v,ds,fs,hm.out,(by unfold j80;first|rfl|rw[hd]),rfl⟩,X.sub (List.Sublist.cons _ (iQ _ _))⟩):A:=h
theorem Zde{A:Prop}(h:A:=by
 go_wp2_with (first|go_skip|(refine ZyL ?_)| (refine ZyS ?_;clear X;intro w X)| (refine ZyA ?_;clear X;intro g w X)|(go_at_call 17;((with_reducible refine(hNo.out _ _).mono ?_);rintro e w1 ⟨rfl,hb1⟩;replace X:=X.call hb1;clear hb1)))
 exact Zdf):A:=h
theorem Zdr{A:Prop}(h:A:=by
 clear hGt hRd m1 m2 m3 m4;replace hg:=hid hg
 cases P with
 |some s0=>
  obtain rfl:Q=some s0:=hN
  go_wp2_with (first|(refine ZyL ?_)| (refine ZyS ?_;clear X;intro w X)| (refine ZyA ?_;clear X;intro g w X))
  go_roundw
  case rel=>first
   | (first|exact⟨1,aa,rfl,ax,ax,X⟩| ((repeat apply Exists.intro);exact⟨⟨1,aa,rfl,ax,ax,X⟩,rfl⟩))
   | (first|exact⟨2,aa,rfl,ax,ax,X⟩| ((repeat apply Exists.intro);exact⟨⟨2,aa,rfl,ax,ax,X⟩,rfl⟩))
   | (first|exact⟨3,aa,rfl,ax,ax,X⟩| ((repeat apply Exists.intro);exact⟨⟨3,aa,rfl,ax,ax,X⟩,rfl⟩))
   | (first|exact⟨4,aa,rfl,ax,ax,X⟩| ((repeat apply Exists.intro);exact⟨⟨4,aa,rfl,ax,ax,X⟩,rfl⟩))
  case measure=>simp[intOf]
 |none=>
  obtain rfl:Q=gk:=hN
  go_upto_region 47 with (first|(refine ZyL ?_)| (refine ZyS ?_;clear X;intro w X)| (refine ZyA ?_;clear X;intro g w X))
  go_wp2_with (first|(refine ZyL ?_)| (refine ZyS ?_;clear X;intro w X)| (refine ZyA ?_;clear X;intro g w X)|(go_at_call 25;((with_reducible refine(hg.out _ _ (X.read mk)).mono ?_);rintro e w1 ⟨rfl,hb1⟩;replace X:=X.call hb1;clear hb1)))
  go_roundw
  case rel=>first
   | (first|exact⟨1,aa,rfl,ax,ax,X⟩| ((repeat apply Exists.intro);exact⟨⟨1,aa,rfl,ax,ax,X⟩,rfl⟩))
   | (first|exact⟨2,aa,rfl,ax,ax,X⟩| ((repeat apply Exists.intro);exact⟨⟨2,aa,rfl,ax,ax,X⟩,rfl⟩))
   | (first|exact⟨3,aa,rfl,ax,ax,X⟩| ((repeat apply Exists.intro);exact⟨⟨3,aa,rfl,ax,ax,X⟩,rfl⟩))
   | (first|exact⟨4,aa,rfl,ax,ax,X⟩| ((repeat apply Exists.intro);exact⟨⟨4,aa,rfl,ax,ax,X⟩,rfl⟩))
  case measure=>simp[intOf]):A:=h
theorem gK{A:Prop}(h:A:=by
 (refine Zs ?_;clear hL X;intro w X hL);refine Za ?_;refine j90 ?_;go_wp2;go_meet;exact⟨_,_,_,_,_,rfl,rfl,X⟩):A:=h
theorem kp0(K : RK){S : List Nat}{w0 w : World}{L : List Ent}{R : List Rd}{gj : Nat}{j : Jn}{c : List Value}{Rj : List Rd}(F : jE9 j c Rj)(X : St S w0 w (⟨gj, c, 58⟩ :: L) (Rj ++ R))(a : Aj)(hs : a.text.size <= 9223372036854775807)(hn : a.n <= 9223372036854775807)(ha : 0 <= j.acts /\ j.acts <= 400) :Calls Tryz.prog 7 #[.pointer (some ⟨gj,0,none⟩),.agg #[.int .i64 a.kind,.int .i64 a.h,.int .i64 a.b,.int .i64 a.n,.string a.text]] w fun e w'=>∃c' Rj',e=.returned (doJ j a).2.val/\jE9 (doJ j a).1 c' Rj'/\St S w0 w' (⟨gj,c',58⟩::L) (Rj'++R):=by
 obtain⟨v,ds,fs,hm,rfl,rfl⟩:=F;unfold j80 at X;have hNo:=fun c w=>kp2 c w;replace hNo:=hid hNo;by_cases h4:400<=j.acts
 ·have hD:doJ j a=(j,noR 11):=by unfold doJ;rw[ij h4]
  have h42:(j.acts==400)=true:=iT.2 aa;replace hD:=hid hD;replace hm:=hid hm;clear h4 ha;go_enter Tryz.func7,Tryz.ntmps7
  go_upto_region 1 with (first|(refine Zbx ?_;clear X;intro g w X)|(refine ZyL ?_)| (refine ZyS ?_;clear X;intro w X)| (refine ZyA ?_;clear X;intro g w X))
  exact Zde
 have h42:(j.acts==400)=false:=ik.2 aa;have hw4:IntKind.i64.wrap (j.acts+1)=j.acts+1:=iz _ aa;have hD:=kt9 a h4;obtain⟨DD,hDD⟩:∃DD,doJ j a=DD:=⟨_,rfl⟩;rw[hDD] at hD⊢;replace hD:=hid hD;clear hDD;have hm1:=hm.acts (j.acts+1);replace hm1:=hid hm1;clear h4 ha;go_enter Tryz.func7,Tryz.ntmps7
 go_upto_region 1 with (first|(refine Zbx ?_;clear X;intro g w X)|(refine ZyL ?_)| (refine ZyS ?_;clear X;intro w X)| (refine ZyA ?_;clear X;intro g w X))
 go_upto_region 5 with (first|(refine ZyL ?_)| (refine ZyS ?_;clear X;intro w X)| (refine ZyA ?_;clear X;intro g w X))
 obtain⟨g4,g3,rfl,rfl⟩:=X.nm2;have X1:St S w0 w (⟨g4,[.int .i64 0,.int .i64 0,.string ⟨#[]⟩],32⟩::⟨g3,[.int .i64 a.kind,.int .i64 a.h,.int .i64 a.b,.int .i64 a.n,.string a.text],28⟩::⟨gj,j80 v {j with acts:=j.acts+1},58⟩::L) (jY2 v {j with acts:=j.acts+1} ds fs++R):=X;clear X hm h42 hw4;obtain⟨j1,hj1⟩:∃j1,{j with acts:=j.acts+1}=j1:=⟨_,rfl⟩;rw[hj1] at hD hm1 X1;clear hj1;have X:=X1;have hm:=hm1;clear X1 hm1;obtain⟨j,rfl⟩:∃j,j=j1:=⟨_,rfl⟩;have hsz:=hm.out.inv.sz hm.out.sz;have hdk:=hsz.dk;have mdk:∀r∈jRds v j ds fs,r∈jY2 v j ds fs++R:=jQ5;replace hsz:=hid hsz;replace mdk:=hid mdk;unfold j80 at X;by_cases hlo:a.kind<1
 ·have hJ:doK j a=(j,noR 3):=by unfold doK;rw[ij (.inl hlo)]
  replace hD:=hid (hD.out.trans hJ);have fl1:decide (a.kind<1)=true:=iG hlo;clear hlo hJ;exact Zde
 by_cases hhi:11<a.kind
 ·have hJ:doK j a=(j,noR 3):=by unfold doK;rw[ij (.inr hhi)]
  replace hD:=hid (hD.out.trans hJ);have fl1:decide (a.kind<1)=false:=iH hlo;have fl2:decide (11<a.kind)=true:=iG hhi;clear hlo hhi hJ;exact Zde
 have hkk:¬(a.kind<1\/11<a.kind):=aa;clear hlo hhi;by_cases k10:a.kind=10
 ·have hJ:doK j a=noJ (j15 j a.n):=by unfold doK;rw[ii hkk,ij k10]
  have hI:=jg3 a.n hm.out.inv;have hCr:=fun v w (h:j_7 w v j.disk)=>K.crash j.disk a.n v w h hn;replace hD:=hid (hD.out.trans hJ);replace hCr:=hid hCr;replace hI:=hid hI;rw[k10] at X;clear hkk hJ
  go_upto_region 11 with (first|(refine ZyL ?_)| (refine ZyS ?_;clear X;intro w X)| (refine ZyA ?_;clear X;intro g w X))
  go_cut [6,7] (fun s6 s7 wx=>∃(as2 aw2:Option Addr) (cs2 cw2 g6:Nat),s6=.pointer (some ⟨g6,0,none⟩)/\s7=.int .i64 (crashE j.disk a.n)/\St S w0 wx (⟨g6,[.slice as2 (crashD j.disk a.n).safe.length cs2,.slice aw2 (crashD j.disk a.n).writes.length cw2],44⟩::⟨g4,[.int .i64 0,.int .i64 0,.string ⟨#[]⟩],32⟩::⟨g3,[.int .i64 10,.int .i64 a.h,.int .i64 a.b,.int .i64 a.n,.string a.text],28⟩::⟨gj,j80 v j,58⟩::L) (ji8 as2 cs2 aw2 cw2 (crashD j.disk a.n)++(jY2 v j ds fs++R)))
  case first=>
   generalize crashD j.disk a.n=D at*;generalize crashE j.disk a.n=E at*;(refine jQ4 3 [] [6,10,11] [3,5] (.fork [0,1,2,3,4,5] (.fin [6,7,8,9,10,11,12]) (.fin [10,6,7,8,9,11,12])) X ?_;clear X;intro hQ X hL;simp only[zF,zG] at hL;simp only[zF,zG]);have hQo:=hQ;refine jE5 (fun hQ=>?_) hQo;refine Zm ?_;refine Zn ?_;refine Zf ?_;refine Zl ?_;refine Zf ?_;refine Zl ?_;refine jd8 ?_ ?_
   ·have hQ:=hQo;refine jN5 ?_;(refine j_0 19 Tryz.func19 (hCr.out _ _ (X.jDisk hdk mdk.out)) ?_;rintro e w1 ⟨v1,rfl,hr1,hn1,hb1⟩;obtain⟨as2,cs2,aw2,cw2,rfl,X2⟩:=X.addNewD hb1 hn1 (fun r hr=>mdk.out _ (jV3 r hr));replace X:=X2;clear X2 hb1 hn1 hr1;refine Zce ?_;clear hL;intro hL);refine Zm ?_;refine Zx ?_;refine Zx ?_;(refine Zq ?_;clear hL X;intro g w X hL);exact gK
   ·have hQ:=hQo;refine jN5 ?_;(refine Zq ?_;clear hL X;intro g w X hL);(refine j_0 19 Tryz.func19 (hCr.out _ _ (X.jDisk hdk mdk.out)) ?_;rintro e w1 ⟨v1,rfl,hr1,hn1,hb1⟩;obtain⟨as2,cs2,aw2,cw2,rfl,X2⟩:=X.addNewD hb1 hn1 (fun r hr=>mdk.out _ (jV3 r hr));replace X:=X2;clear X2 hb1 hn1 hr1;refine Zce ?_;clear hL;intro hL);refine Zm ?_;refine Zx ?_;refine Zx ?_;exact gK
  clear X hCr;obtain⟨as2,aw2,cs2,cw2,g6,rfl,rfl,X⟩:=hcut;unfold j80 at X;by_cases hE:crashE j.disk a.n=0
  ·have hJ:j15 j a.n=({jY0 (crashD j.disk a.n) j.last j.acts with down:=true},0):=by unfold j15;rw[ij hE]
   have hI:=hI.out;rw[hJ] at hI;have hJ2:=hid (hD.out.trans (congrArg noJ hJ));dsimp only at hI;replace hI:=hid hI;have hE2:(crashE j.disk a.n==0)=true:=iT.2 hE;clear hJ;generalize crashD j.disk a.n=D at*
   go_upto_region 13 with (first|(refine ZyL ?_)| (refine ZyS ?_;clear X;intro w X)| (refine ZyA ?_;clear X;intro g w X))
   (refine j__ 4 [12] [12] [1,5,9] [0,1,2,3,4,5,6,7,8,9,10,11,12] X ?_;clear X;intro hQ X hL;simp only[zF,zG] at hL;simp only[zF,zG]);refine Zm ?_;refine Zl ?_;refine Zm ?_;refine Zn ?_;refine Zf ?_;refine Zl ?_;refine Zm ?_;refine Zn ?_;refine Zf ?_;refine Zl ?_;refine Zg ?_;refine Zn ?_;(refine Zb ?_;clear X;intro w X);refine j90 ?_
   go_wp2_with (first|go_skip|(refine ZyL ?_)| (refine ZyS ?_;clear X;intro w X)| (refine ZyA ?_;clear X;intro g w X)|(go_at_call 17;((with_reducible refine(hNo.out _ _).mono ?_);rintro e w1 ⟨rfl,hb1⟩;replace X:=X.call hb1;clear hb1)))
   have X9:=X.addNil;refine j93 rfl (.tmp rfl rfl) X (.tail _ (.head _)) rfl rfl ?_;rw[hJ2.out]
   first|refine RMa ?_ rfl|refine RMb ?_ rfl
   exact RMk (v:=jW9 ⟨as2,cs2⟩ ⟨aw2,cw2⟩) (j:={jY0 D j.last j.acts with down:=true}) (ds:=[]) (fs:=[]) [_,_,_] X9 ⟨rfl,rfl,(fun x hx=>cI),(fun x hx=>cI),hI.out,⟨iq _,iq _⟩⟩ (jl9 rfl rfl rfl rfl rfl (fun r hr=>show r∈jY2 v j ds fs++R from ip _ hr))
  ·have hJ:j15 j a.n=(j,crashE j.disk a.n):=by unfold j15;rw[ii hE]
   have hJ2:=hid (hD.out.trans (congrArg noJ hJ));have hE2:(crashE j.disk a.n==0)=false:=ik.2 hE;clear hJ hI;generalize crashD j.disk a.n=D at*
   go_wp2_with (first|go_skip|(refine ZyL ?_)| (refine ZyS ?_;clear X;intro w X)| (refine ZyA ?_;clear X;intro g w X)|(go_at_call 17;((with_reducible refine(hNo.out _ _).mono ?_);rintro e w1 ⟨rfl,hb1⟩;replace X:=X.call hb1;clear hb1)))
   refine j93 rfl (.tmp rfl rfl) X (.tail _ (.head _)) rfl rfl ?_;rw[hJ2.out]
   first|refine RMa ?_ rfl|refine RMb ?_ rfl
   exact RMk (v:=v) (j:=j) [_,_,_] X hm.out (fun r hr=>.tail _ (.tail _ hr))
 by_cases k11:a.kind=11
 ·have hJ:doK j a=noJ (j36 j):=by unfold doK;rw[ii hkk,ii k10,ij k11]
  replace hD:=hid (hD.out.trans hJ);rw[k11] at X;clear hkk hJ k10;by_cases hd:j.down=false
  ·have hJ:j36 j=(j,9):=by unfold j36;rw[ij (.inl hd)]
   replace hD:=hid (hD.out.trans (congrArg noJ hJ));clear hJ;exact Zde
  have hdt:j.down=true:=by simpa using hd
  by_cases hw:j.work=0
  rotate_left
  ·have hJ:j36 j=(j,9):=by unfold j36;rw[ij (.inr hw)]
   replace hD:=hid (hD.out.trans (congrArg noJ hJ));have hw2:(j.work != 0)=true:=bK;clear hw hd hJ;exact Zde
  obtain⟨hdn,hfd⟩:=hm.out.inv.off' hdt hw;obtain⟨e1,e2,e3,e4,e5⟩:=hdn.scan;have hJ:j36 j=({j with found:=scanF j.disk,steps:=checkL (newestL (scanF j.disk).txns) (scanF j.disk).at_ (scanF j.disk).next,work:=3},0):=bn;have hI:=jg1 hm.out.inv;rw[hJ] at hI;replace hD:=hid (hD.out.trans (congrArg noJ hJ));dsimp only at hI;have hw2:(j.work != 0)=false:=bK;have hg:=j96 e2;obtain⟨b1,b2⟩:=j31 e1;have hck:=(jR1 hg b1 b2).2;have hSc:=fun v w (h:j_7 w v j.disk)=>K.scan j.disk v w h;rw[e1] at hSc;have hRp:=fun v w (h:j18 w v (scanF j.disk).txns)=>K.newest (scanF j.disk).txns e2 v w h;have hCk:=fun v w (h:RL j_3 w v (newestL (scanF j.disk).txns))=>K.check (newestL (scanF j.disk).txns) (scanF j.disk).at_ (scanF j.disk).next v w h dU;rw[e3] at hCk;clear hJ hd hw e1 e2 e3 e4 hg b1 b2 hdn;generalize checkL (newestL (scanF j.disk).txns) (scanF j.disk).at_ (scanF j.disk).next=ST at*;generalize newestL (scanF j.disk).txns=NL at*;generalize scanF j.disk=FF at*;obtain⟨fl,fn,fa⟩:=FF;dsimp only at hSc hRp hCk hI hck e5 hfd;replace hSc:=hid hSc;replace hRp:=hid hRp;replace hCk:=hid hCk;replace hI:=hid hI;replace hck:=hid hck;replace hfd:=hid hfd
  go_upto_region 21 with (first|go_skip|(refine ZyL ?_)| (refine ZyS ?_;clear X;intro w X)| (refine ZyA ?_;clear X;intro g w X)|(go_at_call 20;((with_reducible refine(hSc.out _ _ (X.jDisk hdk mdk.out)).mono ?_);rintro e w2 ⟨vt,rfl,of1,hb2⟩;obtain⟨at1,ct1,rfl⟩:=of1.form;obtain⟨xs,hxs,hxf,X2⟩:=X.addOTxns hb2 of1;replace X:=X2;clear hb2 of1 X2)))
  have hxl:xs.length<=1099511627744:=by have:=congrArg List.length hxs;simp at this;omega
  (refine j__ 1 [] [2,7] [1,4,6] [0,1,3,4,5,6,2,7,8,9,10,11,12] X ?_;clear X;intro hQ X hL;simp only[zF,zG] at hL;simp only[zF,zG]);refine Zf ?_;refine Zl ?_;refine Zf ?_;refine Zl ?_;refine Zf ?_;refine Zl ?_;(refine j_0 22 Tryz.func22 (hRp.out _ _ bG) ?_;rintro e w1 ⟨v1,rfl,ho1,hb1⟩;obtain⟨a1,c1,rfl⟩:=ho1.form;replace X:=X.addOwn hb1 ho1;clear hb1 ho1;refine Zce ?_;clear hL;intro hL);(refine j_0 21 Tryz.func21 (hCk.out _ _ X.r0) ?_;rintro e w1 ⟨v3,rfl,ho1,hb1⟩;obtain⟨a3,c3,rfl⟩:=ho1.form;replace X:=X.addOwn hb1 ho1;clear hb1 ho1;refine Zce ?_;clear hL;intro hL);refine Zm ?_;refine Zx ?_;refine Zx ?_;refine Za ?_;refine Za ?_;refine j90 ?_
  go_wp2_with (first|go_skip|(refine ZyL ?_)| (refine ZyS ?_;clear X;intro w X)| (refine ZyA ?_;clear X;intro g w X)|(go_at_call 17;((with_reducible refine(hNo.out _ _).mono ?_);rintro e w1 ⟨rfl,hb1⟩;replace X:=X.call hb1;clear hb1)))
  refine j93 rfl (.tmp rfl rfl) X (.tail _ (.head _)) rfl rfl ?_;rw[hD.out];have hck2:ST.length<=100:=by have:=hck.out;omega
  first|refine RMa ?_ rfl|refine RMb ?_ rfl
  exact RMk (v:={v with st:=⟨a3,c3⟩,ft:=⟨at1,ct1⟩}) (j:={j with found:=⟨fl,fn,fa⟩,steps:=ST,work:=3}) (ds:=ds) (fs:=xs) [_,_,_] X ⟨hm.out.dmap,hxs,hm.out.dfit,hxf,hI.out,⟨e5,hck2⟩⟩ (j34 (.tail _ (.tail _ (ip _ Zfl))) (j7_ (.tail _ (.tail _ (ip _ Zfl))) (.tail _ (.tail _ (ip _ Zfl))) (.tail _ (.tail _ (ip _ Zfl))) (.tail _ (.tail _ (ip _ Zfl))) (.tail _ (.tail _ (ip _ Zfl))) (.tail _ (.tail _ (ip _ Zfl))) (.tail _ (.tail _ (ip _ Zfl))) (.tail _ (.tail _ (ip _ Zfl))) (.head _) (.tail _ (.tail _ (.head _))) (fun r hr=>.tail _ (.tail _ (iv _ (.tail _ hr)))) (fun r hr=>(.tail _ (.tail _ (ip _ (jD3 r hr))))) (fun r hr=>(.tail _ (.tail _ (ip _ (show r∈jY2 v j ds fs++R from ip _ hr)))))))
 by_cases k8:a.kind=8
 ·have hJ:doK j a=jR5 j:=by unfold doK;rw[ii hkk,ii k10,ii k11,ij k8]
  replace hD:=hid (hD.out.trans hJ);rw[k8] at X;clear hkk k10 k11 hJ
  go_upto_region 9 with (first|(refine ZyL ?_)| (refine ZyS ?_;clear X;intro w X)| (refine ZyA ?_;clear X;intro g w X))
  have hC:=hid (ku1 K (j:=j) ⟨v,ds,fs,hm.out,rfl,rfl⟩ (X.perm (kx8 _ _ _ _)))
  go_wp2_with (first|(refine ZyL ?_)| (refine ZyS ?_;clear X;intro w X)| (refine ZyA ?_;clear X;intro g w X)|(go_at_call 18;((with_reducible refine(hC.out).mono ?_);rintro e w1 ⟨c2,R2,rfl,F2,X2⟩;replace X:=X2.perm (kP3 _ _ _ _);clear X2))|(go_at_call 17;((with_reducible refine(hNo.out _ _).mono ?_);rintro e w1 ⟨rfl,hb1⟩;replace X:=X.call hb1;clear hb1)))
  exact eu
 by_cases hd:j.down=true
 ·have hJ:doK j a=(j,noR 10):=by unfold doK;rw[ii hkk,ii k10,ii k11,ii k8,ij hd]
  replace hD:=hid (hD.out.trans hJ);have f8:(a.kind==8)=false:=ik.2 k8;have f10:(a.kind==10)=false:=ik.2 k10;have f11:(a.kind==11)=false:=ik.2 k11;have fl1:decide (a.kind<1)=false:=iH aa;have fl2:decide (11<a.kind)=false:=iH aa;rw[hd] at X;clear hkk k10 k11 k8 hJ;exact Zde
 have hdf:j.down=false:=by simpa using hd
 have f8:(a.kind==8)=false:=ik.2 k8;have f10:(a.kind==10)=false:=ik.2 k10;have f11:(a.kind==11)=false:=ik.2 k11;have fl1:decide (a.kind<1)=false:=iH aa;have fl2:decide (11<a.kind)=false:=iH aa;rw[hdf] at X
 go_upto_region 28 with (first|go_skip|(refine ZyL ?_)| (refine ZyS ?_;clear X;intro w X)| (refine ZyA ?_;clear X;intro g w X))
 replace X:=(show∀w,St S w0 w _ _->St S w0 w (⟨g4,[.int .i64 0,.int .i64 0,.string ⟨#[]⟩],32⟩::⟨g3,[.int .i64 a.kind,.int .i64 a.h,.int .i64 a.b,.int .i64 a.n,.string a.text],28⟩::⟨gj,j80 v j,58⟩::L) (jY2 v j ds fs++R) from fun w h=>by unfold j80;rw[hdf];exact h) _ X;unfold j80 at X;by_cases k6:a.kind=6
 ·have hJ:doK j a=j82 j:=by unfold doK;rw[ii hkk,ii k10,ii k11,ii k8,ii hd,ij k6]
  replace hD:=hid (hD.out.trans hJ);rw[k6] at X;clear hkk hJ
  go_upto_region 30 with (first|(refine ZyL ?_)| (refine ZyS ?_;clear X;intro w X)| (refine ZyA ?_;clear X;intro g w X))
  have hC:=hid (kN1 K (j:=j) ⟨v,ds,fs,hm.out,rfl,rfl⟩ (X.perm (kx8 _ _ _ _)) hdf)
  go_wp2_with (first|(refine ZyL ?_)| (refine ZyS ?_;clear X;intro w X)| (refine ZyA ?_;clear X;intro g w X)|(go_at_call 23;((with_reducible refine(hC.out).mono ?_);rintro e w1 ⟨c2,R2,rfl,F2,X2⟩;replace X:=X2.perm (kP3 _ _ _ _);clear X2))|(go_at_call 17;((with_reducible refine(hNo.out _ _).mono ?_);rintro e w1 ⟨rfl,hb1⟩;replace X:=X.call hb1;clear hb1)))
  exact eu
 by_cases k7:a.kind=7
 ·have hJ:doK j a=noJ (j37 j):=by unfold doK;rw[ii hkk,ii k10,ii k11,ii k8,ii hd,ii k6,ij k7]
  replace hD:=hid (hD.out.trans hJ);rw[k7] at X;clear hkk hJ k6;by_cases hw:j.work=0
  rotate_left
  ·have hJ:j37 j=(j,9):=by unfold j37;rw[ij hw]
   replace hD:=hid (hD.out.trans (congrArg noJ hJ));have hw2:(j.work != 0)=true:=bK;clear hw hJ;exact Zde
  have hw2:(j.work != 0)=false:=bK;by_cases hd:j.done.length=0
  ·have hJ:j37 j=(j,4):=by unfold j37;rw[ii (js hw),ij hd]
   replace hD:=hid (hD.out.trans (congrArg noJ hJ));have hd2:((j.done.length:Int)==0)=true:=iT.2 aa;clear hw hd hJ;exact Zde
  obtain⟨hu,hn1,hs1,hdn⟩:=hm.out.inv.up hw (.inr hd);have hJ:j37 j=({j with after:=giveR j.ring j.used.sum,steps:=checkL (newestL j.done) j.ring.head (j.last+1),pending:=j.done.length,work:=2},0):=by unfold j37;rw[ii (js hw),ii hd]
  have hI:=jg2 hdn hm.out.inv;rw[hJ] at hI;replace hD:=hid (hD.out.trans (congrArg noJ hJ));dsimp only at hI;have hd2:((j.done.length:Int)==0)=false:=ik.2 aa;have hg:=j96 hu.log.goods;have hb:=hu.log.bounds;have hck:=(jR1 hg hb.1 hb.2.1).2;have hlast:IntKind.i64.wrap (j.last+1)=j.last+1:=iz _ dI;have hNw:=fun v w (h:j18 w v j.done)=>K.newest j.done hu.log.goods v w h;have hCk:=fun v w (h:RL j_3 w v (newestL j.done))=>K.check (newestL j.done) j.ring.head (j.last+1) v w h dU;clear hw hd hu hn1 hs1 hdn hJ hg hb;generalize checkE (newestL j.done) j.ring.head (j.last+1)=cE at*;generalize checkL (newestL j.done) j.ring.head (j.last+1)=ST at*;generalize newestL j.done=NL at*;generalize giveR j.ring j.used.sum=gR at*;replace hNw:=hid hNw;replace hCk:=hid hCk;replace hI:=hid hI;replace hck:=hid hck
  go_upto_region 36 with (first|go_skip|(refine ZyL ?_)| (refine ZyS ?_;clear X;intro w X)| (refine ZyA ?_;clear X;intro g w X))
  (refine j__ 3 [22] [5,16,22] [4,10,14] [0,1,2,3,4,6,7,8,9,10,11,12,13,14,15,5,16,17,18,19,20,21,22] X ?_;clear X;intro hQ X hL;simp only[zF,zG] at hL;simp only[zF,zG]);refine Zm ?_;refine Zm ?_;refine Zn ?_;refine Zf ?_;refine Zl ?_;refine Zm ?_;refine Zn ?_;refine Zf ?_;refine Zf ?_;refine Zl ?_;refine Zm ?_;refine Zn ?_;refine Zf ?_;refine Zl ?_;refine Zg ?_;(refine j_0 22 Tryz.func22 (hNw.out _ _ (X.rDone hm.out (fun r hr=>iv _ hr))) ?_;rintro e w1 ⟨v1,rfl,ho1,hb1⟩;obtain⟨a1,c1,rfl⟩:=ho1.form;replace X:=X.addOwn hb1 ho1;clear hb1 ho1;refine Zce ?_;clear hL;intro hL);(refine j_0 21 Tryz.func21 (hCk.out _ _ X.r0) ?_;rintro e w1 ⟨v3,rfl,ho1,hb1⟩;obtain⟨a3,c3,rfl⟩:=ho1.form;replace X:=X.addOwn hb1 ho1;clear hb1 ho1;refine Zce ?_;clear hL;intro hL);refine Zm ?_;refine Zx ?_;refine Zx ?_;refine Zn ?_;refine Zf ?_;(refine Zb ?_;clear X;intro w X);refine j90 ?_
  go_wp2_with (first|go_skip|(refine ZyL ?_)| (refine ZyS ?_;clear X;intro w X)| (refine ZyA ?_;clear X;intro g w X)|(go_at_call 17;((with_reducible refine(hNo.out _ _).mono ?_);rintro e w1 ⟨rfl,hb1⟩;replace X:=X.call hb1;clear hb1)))
  refine j93 rfl (.tmp rfl rfl) X (.head _) rfl rfl ?_;rw[hD.out];have hck2:ST.length<=100:=by have:=hck.out;omega
  first|refine RMa ?_ rfl|refine RMb ?_ rfl
  exact RMk (v:={v with st:=⟨a3,c3⟩}) (j:={j with after:=gR,steps:=ST,pending:=j.done.length,work:=2}) (ds:=ds) (fs:=fs) [_,_] X ⟨hm.out.dmap,hm.out.fmap,hm.out.dfit,hm.out.ffit,hI.out,⟨hm.out.sz.1,hck2⟩⟩ (j34 Zfl (j7_ Zfl Zfl Zfl Zfl Zfl Zfl Zfl Zfl Zfl Zfl (fun r hr=>.tail _ (.tail _ (jG1 r hr))) (fun r hr=>.tail _ (.tail _ (jD3 r hr))) (fun r hr=>.tail _ (.tail _ (show r∈jY2 v j ds fs++R from ip _ hr)))))
 by_cases k9:a.kind=9
 ·have hJ:doK j a=(j,jJ5 j a.b):=by unfold doK;rw[ii hkk,ii k10,ii k11,ii k8,ii hd,ii k6,ii k7,ij k9]
  replace hD:=hid (hD.out.trans hJ);rw[k9] at X;clear hkk hJ k6 k7;have hBl:=fun w=>K.blk a.b w;by_cases hb:isBlk a.b=true
  rotate_left
  ·have hJ:jJ5 j a.b=noR 4:=by unfold jJ5;rw[ii hb]
   rw[hJ] at hD;have hb2:isBlk a.b=false:=dC;rw[hb2] at hBl;replace hBl:=hid hBl;clear hJ hb
   go_wp2_with (first|go_skip|(refine ZyL ?_)| (refine ZyS ?_;clear X;intro w X)| (refine ZyA ?_;clear X;intro g w X)|(go_at_call 24;((with_reducible refine(hBl.out _).mono ?_);rintro e w1 ⟨rfl,rfl⟩))|(go_at_call 17;((with_reducible refine(hNo.out _ _).mono ?_);rintro e w1 ⟨rfl,hb1⟩;replace X:=X.call hb1;clear hb1)))
   exact Zdf
  have hb2:0<=a.b/\a.b<12:=iF hb;have hJ:jJ5 j a.b=⟨0,j.roles a.b,(firstC j a.b).getD (readD j.disk (25+a.b))⟩:=by unfold jJ5;rw[ij hb]
  rw[hb] at hBl;obtain⟨n,hn1⟩:∃n:Nat,a.b=n:=⟨a.b.toNat,aa⟩;have hn12:n<12:=aa;rw[hn1] at hJ hBl X;have hn12i:(n:Int)<12:=aa;clear hb2 hb;have hro:=jp5 v j hn12;have hwb:IntKind.i64.wrap (25+(n:Int))=25+(n:Int):=iz _ aa;have hNw:=fun v w (h:j18 w v j.done)=>K.newest j.done hm.out.inv.goods v w h;have hnl:(newestL j.done).length<=5864062014805:=i3 (jx0 _) ae;have hGt:=fun(l:List Cpy) v w (h:RL j_3 w v l) (hl:l.length<=5864062014805)=>K.get l (n:Int) v w h hl;have hRd:=fun v w (h:j_7 w v j.disk)=>K.read j.disk (25+(n:Int)) v w h;obtain⟨rv,hrv⟩:∃rv,jJ5 j a.b=rv:=⟨_,rfl⟩;rw[hrv] at hD;rw[hn1] at hrv;rw[hrv] at hJ;have hfc:firstC j n=ors (getC j.now.mt (n:Int)) ([j.now.dt,j.sealed.mt,j.sealed.dt,newestL j.done]) n:=kT4 j n;rw[hfc] at hJ;generalize readD j.disk (25+(n:Int))=rd at*;generalize readE j.disk (25+(n:Int))=re at*;generalize newestL j.done=NL at*;have hs4:=hsz.out.sealed;have hs3:=hsz.out.now;replace hNw:=hid hNw;replace hGt:=hid hGt;replace hRd:=hid hRd;replace hBl:=hid hBl;replace hJ:=hid hJ;replace hs4:=hid hs4;replace hs3:=hid hs3;replace hnl:=hid hnl;clear hrv hfc hn1
  go_upto_region 42 with (first|go_skip|(refine ZyL ?_)| (refine ZyS ?_;clear X;intro w X)| (refine ZyA ?_;clear X;intro g w X)|(go_at_call 24;((with_reducible refine(hBl.out _).mono ?_);rintro e w1 ⟨rfl,rfl⟩)))
  (refine j__ 3 [] [7] [4,6] [0,1,2,3,4,5,6,7,8,9,10,11,12] X ?_;clear X;intro hQ X hL;simp only[zF,zG] at hL;simp only[zF,zG]);refine Zm ?_;refine Zn ?_;refine Zf ?_;refine Zf ?_;refine Zl ?_;refine Zf ?_;refine Zl ?_;(refine j_0 25 Tryz.func25 (hGt.out j.now.mt _ _ (X.read Zfl) (by have:=hs3.out;omega)) ?_;rintro e w1 ⟨rfl,hb1⟩;replace X:=X.call hb1;clear hb1;refine Zce ?_;clear hL;intro hL);refine Zm ?_;refine Zx ?_;refine Zx ?_;refine Za ?_;refine Za ?_;refine j90 ?_
  go_upto_region 43 with (first|(refine ZyL ?_)| (refine ZyS ?_;clear X;intro w X)| (refine ZyA ?_;clear X;intro g w X))
  (refine j__ 3 [] [19,20] [4,9,14,18] [0,1,2,3,4,5,6,7,8,9,10,11,12,13,14,15,16,17,18,22,19,20,21] X ?_;clear X;intro hQ X hL;simp only[zF,zG] at hL;simp only[zF,zG]);refine Zm ?_;refine Zn ?_;refine Zf ?_;refine Zf ?_;refine Zl ?_;refine Zm ?_;refine Zn ?_;refine Zf ?_;refine Zf ?_;refine Zl ?_;refine Zm ?_;refine Zn ?_;refine Zf ?_;refine Zf ?_;refine Zl ?_;refine Zm ?_;refine Zn ?_;refine Zf ?_;refine Zl ?_;refine Zm ?_;(refine j_0 22 Tryz.func22 (hNw.out _ _ (X.rDone hm.out (fun r hr=>iv _ hr))) ?_;rintro e w1 ⟨v1,rfl,ho1,hb1⟩;obtain⟨a1,c1,rfl⟩:=ho1.form;replace X:=X.addOwn hb1 ho1;clear hb1 ho1;refine Zce ?_;clear hL;intro hL);refine jm9 (n:=4) rfl (ja3 (by infer_instance) rfl Zev Zev Zev Zev rfl rfl rfl rfl) X hL rfl rfl ?_;clear hL X;intro g w X hL;(simp only[Act.put,zA,zB,zC,zD,zE,zF,zG,Nat.reduceAdd]);refine Zg ?_;refine j90 ?_
  go_wp2_with (first|(refine ZyL ?_)| (refine ZyS ?_;clear X;intro w X)| (refine ZyA ?_;clear X;intro g w X))
  have m1:kj2 j_3 (.slice v.nd.a j.now.dt.length v.nd.c) j.now.dt∈(kj2 j_3 (.slice a1 NL.length c1) NL::(jY2 v j ds fs++R)):=Zfl;have m2:kj2 j_3 (.slice v.sm.a j.sealed.mt.length v.sm.c) j.sealed.mt∈(kj2 j_3 (.slice a1 NL.length c1) NL::(jY2 v j ds fs++R)):=Zfl;have m3:kj2 j_3 (.slice v.sd.a j.sealed.dt.length v.sd.c) j.sealed.dt∈(kj2 j_3 (.slice a1 NL.length c1) NL::(jY2 v j ds fs++R)):=Zfl;have m4:kj2 j_3 (.slice a1 NL.length c1) NL∈(kj2 j_3 (.slice a1 NL.length c1) NL::(jY2 v j ds fs++R)):=.head _;clear hNw;obtain⟨g5,g4',g3',rfl,rfl,rfl⟩:=X.nm3
  go_loopw [11,12,14,229] (fun s11 s12 _ i wr=>∃k:Nat,k<=4/\i=.int .i64 k/\s11=.string ((ors (getC j.now.mt (n:Int)) ([j.now.dt,j.sealed.mt,j.sealed.dt,NL].take k) n).getD ⟨#[]⟩)/\s12=.bool (ors (getC j.now.mt (n:Int)) ([j.now.dt,j.sealed.mt,j.sealed.dt,NL].take k) n).isSome/\St S w0 wr (⟨g5,[.slice v.nd.a j.now.dt.length v.nd.c,.slice v.sm.a j.sealed.mt.length v.sm.c,.slice v.sd.a j.sealed.dt.length v.sd.c,.slice a1 NL.length c1],45⟩::⟨g4',[.int .i64 0,.int .i64 0,.string ⟨#[]⟩],32⟩::⟨g3',[.int .i64 9,.int .i64 a.h,.int .i64 n,.int .i64 a.n,.string a.text],28⟩::⟨gj,j80 v j,58⟩::L) (kj2 j_3 (.slice a1 NL.length c1) NL::(jY2 v j ds fs++R))) (fun _ _ _ i _=>4-(intOf i).toNat)
  case atStart=>exact⟨0,aa,rfl,rfl,rfl,X⟩
  case round=>
   clear X;obtain⟨k,hk,rfl,rfl,rfl,X⟩:=hrel;unfold j80 at X;have h5:k=0\/k=1\/k=2\/k=3\/k=4:=aa;rcases h5 with rfl|rfl|rfl|rfl|rfl
   ·have hN:ors (getC j.now.mt (n:Int)) ([j.now.dt,j.sealed.mt,j.sealed.dt,NL].take 1) n=(ors (getC j.now.mt (n:Int)) ([j.now.dt,j.sealed.mt,j.sealed.dt,NL].take 0) n).or (getC j.now.dt n):=rfl;have hg:=fun v0 w h=>hGt.out j.now.dt v0 w h (by have:=hs3.out;omega);have mk:=m1;obtain⟨Q,hq0⟩:∃Q,ors (getC j.now.mt (n:Int)) ([j.now.dt,j.sealed.mt,j.sealed.dt,NL].take 1) n=Q:=⟨_,rfl⟩;rw[hq0] at hN;replace hq0:=hid hq0;generalize ors (getC j.now.mt (n:Int)) ([j.now.dt,j.sealed.mt,j.sealed.dt,NL].take 0) n=P at*;generalize getC j.now.dt (n:Int)=gk at*;exact Zdr
   ·have hN:ors (getC j.now.mt (n:Int)) ([j.now.dt,j.sealed.mt,j.sealed.dt,NL].take 2) n=(ors (getC j.now.mt (n:Int)) ([j.now.dt,j.sealed.mt,j.sealed.dt,NL].take 1) n).or (getC j.sealed.mt n):=rfl;have hg:=fun v0 w h=>hGt.out j.sealed.mt v0 w h (by have:=hs4.out;omega);have mk:=m2;obtain⟨Q,hq0⟩:∃Q,ors (getC j.now.mt (n:Int)) ([j.now.dt,j.sealed.mt,j.sealed.dt,NL].take 2) n=Q:=⟨_,rfl⟩;rw[hq0] at hN;replace hq0:=hid hq0;generalize ors (getC j.now.mt (n:Int)) ([j.now.dt,j.sealed.mt,j.sealed.dt,NL].take 1) n=P at*;generalize getC j.sealed.mt (n:Int)=gk at*;exact Zdr
   ·have hN:ors (getC j.now.mt (n:Int)) ([j.now.dt,j.sealed.mt,j.sealed.dt,NL].take 3) n=(ors (getC j.now.mt (n:Int)) ([j.now.dt,j.sealed.mt,j.sealed.dt,NL].take 2) n).or (getC j.sealed.dt n):=rfl;have hg:=fun v0 w h=>hGt.out j.sealed.dt v0 w h (by have:=hs4.out;omega);have mk:=m3;obtain⟨Q,hq0⟩:∃Q,ors (getC j.now.mt (n:Int)) ([j.now.dt,j.sealed.mt,j.sealed.dt,NL].take 3) n=Q:=⟨_,rfl⟩;rw[hq0] at hN;replace hq0:=hid hq0;generalize ors (getC j.now.mt (n:Int)) ([j.now.dt,j.sealed.mt,j.sealed.dt,NL].take 2) n=P at*;generalize getC j.sealed.dt (n:Int)=gk at*;exact Zdr
   ·have hN:ors (getC j.now.mt (n:Int)) ([j.now.dt,j.sealed.mt,j.sealed.dt,NL].take 4) n=(ors (getC j.now.mt (n:Int)) ([j.now.dt,j.sealed.mt,j.sealed.dt,NL].take 3) n).or (getC NL n):=rfl;have hg:=fun v0 w h=>hGt.out NL v0 w h (by have:=hnl.out;omega);have mk:=m4;obtain⟨Q,hq0⟩:∃Q,ors (getC j.now.mt (n:Int)) ([j.now.dt,j.sealed.mt,j.sealed.dt,NL].take 4) n=Q:=⟨_,rfl⟩;rw[hq0] at hN;replace hq0:=hid hq0;generalize ors (getC j.now.mt (n:Int)) ([j.now.dt,j.sealed.mt,j.sealed.dt,NL].take 3) n=P at*;generalize getC NL (n:Int)=gk at*;exact Zdr
   ·have hl4: [j.now.dt,j.sealed.mt,j.sealed.dt,NL].take 4=[j.now.dt,j.sealed.mt,j.sealed.dt,NL]:=rfl;rw[hl4];generalize ors (getC j.now.mt (n:Int)) [j.now.dt,j.sealed.mt,j.sealed.dt,NL] n=P at*;have X9:=X.tail;clear X hGt hl4;have X:=X9;clear X9
    go_upto_if 244 with (first|(refine ZyL ?_)| (refine ZyS ?_;clear X;intro w X)| (refine ZyA ?_;clear X;intro g w X))
    go_cut [11] (fun s11 wx=>s11=.string (P.getD rd)/\St S w0 wx (⟨g4',[.int .i64 0,.int .i64 0,.string ⟨#[]⟩],32⟩::⟨g3',[.int .i64 9,.int .i64 a.h,.int .i64 n,.int .i64 a.n,.string a.text],28⟩::⟨gj,j80 v j,58⟩::L) (kj2 j_3 (.slice a1 NL.length c1) NL::(jY2 v j ds fs++R)))
    case first=>
     cases P with
     |some s0=>
      go_wp2
      go_meet
      exact⟨rfl,X⟩
     |none=>
      go_upto_region 50 with (first|(refine ZyL ?_)| (refine ZyS ?_;clear X;intro w X)| (refine ZyA ?_;clear X;intro g w X))
      (refine j__ 3 [] [7] [3,5] [0,1,2,3,4,5,6,7,8,9,10,11] X ?_;clear X;intro hQ X hL;simp only[zF,zG] at hL;simp only[zF,zG])
      refine Zm ?_
      refine Zn ?_
      refine Zf ?_
      refine Zl ?_
      refine Zf ?_
      refine Zl ?_
      refine Zg ?_
      (refine j_0 26 Tryz.func26 (hRd.out _ _ (X.jDisk hdk (fun r hr=>.tail _ (mdk.out r hr)))) ?_;rintro e w1 ⟨rfl,hb1⟩;replace X:=X.call hb1;clear hb1;refine Zce ?_;clear hL;intro hL)
      refine Zm ?_
      refine Zx ?_
      refine Zx ?_
      refine Za ?_
      refine j90 ?_
      go_wp2
      go_meet
      exact⟨rfl,X⟩
    clear X hRd;obtain⟨rfl,X⟩:=hcut;unfold j80 at X
    go_upto_region 51 with (first|(refine ZyL ?_)| (refine ZyS ?_;clear X;intro w X)| (refine ZyA ?_;clear X;intro g w X))
    (refine j__ 3 [9] [9] [2,6] [0,1,2,3,4,5,6,7,8,9] X ?_;clear X;intro hQ X hL;simp only[zF,zG] at hL;simp only[zF,zG]);refine Zm ?_;refine Zf ?_;refine Zl ?_;refine Zn ?_;refine Zf ?_;refine Zg ?_;((refine jR9 rfl rfl Zev ak rfl rfl X hL hQ ?_);(simp only[Act.put,zA,zB,zC,zD,zE,zF,zG,Nat.reduceAdd]));refine Zm ?_;refine Zg ?_;(refine Zb ?_;clear X;intro w X);refine j90 ?_
    go_wp2_with (first|(refine ZyL ?_)| (refine ZyS ?_;clear X;intro w X)| (refine ZyA ?_;clear X;intro g w X))
    refine j93 rfl (.tmp rfl rfl) X (.head _) rfl rfl ?_;rw[hD.out,hJ.out]
    first|refine RMa ?_ rfl|refine RMb ?_ rfl
    exact RMk (v:=v) (j:=j) (ds:=ds) (fs:=fs) [_,_] X hm.out (fun r hr=>.tail _ hr)
 have hJ:doK j a=noJ (j98 j a):=by unfold doK;rw[ii hkk,ii k10,ii k11,ii k8,ii hd,ii k6,ii k7,ii k9]
 replace hD:=hid (hD.out.trans hJ);have hk5:1<=a.kind/\a.kind<=5:=aa;have f6:(a.kind==6)=false:=ik.2 k6;have f7:(a.kind==7)=false:=ik.2 k7;have f9:(a.kind==9)=false:=ik.2 k9;clear hkk hJ k6 k7 k9;replace hk5:=hid hk5
 go_upto_region 52 with (first|go_skip|(refine ZyL ?_)| (refine ZyS ?_;clear X;intro w X)| (refine ZyA ?_;clear X;intro g w X))
 have hC:=hid (kN0 K (j:=j) ⟨v,ds,fs,hm.out,rfl,rfl⟩ (X.perm (kx8 _ _ _ _)) a hs hk5.out hdf)
 go_wp2_with (first|(refine ZyL ?_)| (refine ZyS ?_;clear X;intro w X)| (refine ZyA ?_;clear X;intro g w X)|(go_at_call 27;((with_reducible refine(hC.out).mono ?_);rintro e w1 ⟨c2,R2,rfl,F2,X2⟩;replace X:=X2.perm (kP3 _ _ _ _);clear X2))|(go_at_call 17;((with_reducible refine(hNo.out _ _).mono ?_);rintro e w1 ⟨rfl,hb1⟩;replace X:=X.call hb1;clear hb1)))
 refine j93 rfl (.tmp rfl rfl) X (.head _) rfl rfl ?_;rw[hD.out]
 first|refine RMa ?_ rfl|refine RMb ?_ rfl
 exact⟨_,_,F2,X.sub (List.Sublist.cons _ (iQ _ _))⟩
end Go.Proofs.YtlecmdajpfkaeaaGreatDoor