/- Parts of the proof. -/
import Derived.Test.YtlecmdajpfkaeaaGreatDoorKJournalRuns6
set_option linter.unusedVariables false
set_option linter.unusedSimpArgs false
set_option maxRecDepth 100000
set_option maxHeartbeats 40000000
namespace Wb
open Go Go.RowKit
theorem InvJ.goods{j:Jn}(h:InvJ j):∀t∈j.done,goodT t=true:=by
 cases h with
 |idle hd hw hu hn hs=>exact hu.log.goods
 |sealing d r us k hd hw hu=>exact hu.log.goods
 |homing d k hd hw hu=>exact hu.log.goods
 |off hj hu=>rw[hj];intro t ht;cases ht
 |rising d k hj hu hk hdk=>rw[hj];intro t ht;cases ht
theorem jg9(v:JV)(j:Jn){k:Nat}(hk:k<12):nth (j85 v j) (27+k)=some (.int .i64 (j.roles k)):=by
 exact eA
theorem kQ_(v:JV)(j:Jn){k:Nat}(hk:k<12):nth (j85 v j) (39+k)=some (.int .i64 (j.freed k)):=by
 exact eA
end Wb
namespace Go.Proofs.YtlecmdajpfkaeaaGreatDoor
open Go.RowKit Wb
instance:SlT Tryz.prog 80 45 1 24:=⟨kj_ (z:=.slice none 0 0) Tryz.underlying80 af rfl,ae,ae,ae⟩
theorem fo{A:Prop}(h:A:=by
 go_wp2_with (first|(refine ZyL ?_)| (refine ZyS ?_;clear X;intro w X)| (refine ZyA ?_;clear X;intro g w X))
 refine j93 rfl (.tmp rfl rfl) X (.head _) rfl rfl ?_
 first|refine RMa ?_ rfl|refine RMb ?_ rfl
 exact JMk (v:=v) [_] X hm (fun r hr=>hr)):A:=h
theorem ky5(K : JK){S : List Nat}{w0 w : World}{L : List Ent}{R : List Rd}{gj : Nat}{j : Jn}{M : List Ent}{Rj : List Rd}(F : JF gj j M Rj)(X : St S w0 w (M ++ L) (Rj ++ R))(b : Int) :Calls Tryz.prog 38 #[.pointer (some ⟨gj,0,none⟩),.int .i64 b] w fun e w'=>∃M' Rj',e=.returned (jJ5 j b).val/\JF gj j M' Rj'/\St S w0 w' (M'++L) (Rj'++R):=by
 obtain⟨v,ds,fs,MD,MU,hm,rfl,rfl⟩:=F;have hsz:=hm.inv.sz hm.sz;have hdk:=hsz.dk;rw[iu,iE] at X;unfold j85 at X;by_cases hb:isBlk b=true
 ·have hb2:0<=b/\b<12:=iF hb;have hJ:jJ5 j b=⟨0,j.roles b,(firstC j b).getD (readD j.disk (25+b))⟩:=by unfold jJ5;rw[ij hb]
  rw[hJ];clear hJ hb;obtain⟨n,rfl⟩:∃n:Nat,b=n:=⟨b.toNat,aa⟩;have hn12:n<12:=aa;clear hb2;have hro:=jg9 v j hn12;have hwb:IntKind.i64.wrap (25+(n:Int))=25+(n:Int):=iz _ aa;have hNw:=fun v w (h:j18 w v j.done)=>K.newest j.done hm.inv.goods v w h;have hnl:(newestL j.done).length<=5864062014805:=i3 (jx0 _) ae;have hGt:=fun(l:List Cpy) v w (h:RL j_3 w v l) (hl:l.length<=5864062014805)=>K.get l (n:Int) v w h hl;have hRd:=fun v w (h:j_7 w v j.disk)=>K.read j.disk (25+(n:Int)) v w h;have hfc:firstC j n=(getC j.now.mt (n:Int)).or ((getC j.now.dt (n:Int)).or ((getC j.sealed.mt (n:Int)).or ((getC j.sealed.dt (n:Int)).or (getC (newestL j.done) (n:Int))))):=rfl;generalize firstC j n=fc at*;generalize readD j.disk (25+(n:Int))=rd at*;generalize readE j.disk (25+(n:Int))=re at*;generalize newestL j.done=NL at*;replace hNw:=hid hNw;replace hGt:=hid hGt;replace hRd:=hid hRd;replace hfc:=hid hfc;replace hm:=hid hm;replace hsz:=hid hsz;go_enter Tryz.func38,Tryz.ntmps38
  go_upto_region 3 with (first|(refine ZyL ?_)| (refine ZyS ?_;clear X;intro w X)| (refine ZyA ?_;clear X;intro g w X))
  (refine j__ 2 [] [24,25] [4,9,14,19,23] [0,1,2,3,4,5,6,7,8,9,10,11,12,13,14,15,16,17,18,19,20,21,22,23,27,24,25,26] X ?_;clear X;intro hQ X hL;simp only[zF,zG] at hL;simp only[zF,zG]);refine Zm ?_;refine Zn ?_;refine Zf ?_;refine Zf ?_;refine Zl ?_;refine Zm ?_;refine Zn ?_;refine Zf ?_;refine Zf ?_;refine Zl ?_;refine Zm ?_;refine Zn ?_;refine Zf ?_;refine Zf ?_;refine Zl ?_;refine Zm ?_;refine Zn ?_;refine Zf ?_;refine Zf ?_;refine Zl ?_;refine Zm ?_;refine Zn ?_;refine Zf ?_;refine Zl ?_;refine Zm ?_;(refine j_0 78 Tryz.func78 (hNw.out _ _ (kl7 (A:=[_,_]) (T:=MU++L) (MU:=MU) X hm.out hsz.out (fun r hr=>iv _ hr))) ?_;rintro e w1 ⟨v1,rfl,ho1,hb1⟩;obtain⟨a1,c1,rfl⟩:=ho1.form;replace X:=X.addOwn hb1 ho1;clear hb1 ho1;refine Zce ?_;clear hL;intro hL);(refine kF2 rfl rfl Zev Zev Zev Zev Zev rfl rfl rfl rfl rfl X hL rfl rfl ?_;intro g w X2 hL2;replace X:=X2;replace hL:=hL2;clear X2 hL2;(simp only[Act.put,zA,zB,zC,zD,zE,zF,zG,Nat.reduceAdd]));refine Zg ?_;refine j90 ?_
  go_wp2_with (first|(refine ZyL ?_)| (refine ZyS ?_;clear X;intro w X)| (refine ZyA ?_;clear X;intro g w X))
  have m0:kj2 j_3 (.slice v.nm.a j.now.mt.length v.nm.c) j.now.mt∈kj2 j_3 (.slice a1 NL.length c1) NL::(jRds v j ds fs++R):=(.tail _ (iv _ (.tail _ (.tail _ (.head _)))));have m1:kj2 j_3 (.slice v.nd.a j.now.dt.length v.nd.c) j.now.dt∈kj2 j_3 (.slice a1 NL.length c1) NL::(jRds v j ds fs++R):=(.tail _ (iv _ (.tail _ (.tail _ (.tail _ (.head _))))));have m2:kj2 j_3 (.slice v.sm.a j.sealed.mt.length v.sm.c) j.sealed.mt∈kj2 j_3 (.slice a1 NL.length c1) NL::(jRds v j ds fs++R):=(.tail _ (iv _ (.tail _ (.tail _ (.tail _ (.tail _ (.tail _ (.head _))))))));have m3:kj2 j_3 (.slice v.sd.a j.sealed.dt.length v.sd.c) j.sealed.dt∈kj2 j_3 (.slice a1 NL.length c1) NL::(jRds v j ds fs++R):=(.tail _ (iv _ (.tail _ (.tail _ (.tail _ (.tail _ (.tail _ (.tail _ (.head _)))))))));have m4:kj2 j_3 (.slice a1 NL.length c1) NL∈kj2 j_3 (.slice a1 NL.length c1) NL::(jRds v j ds fs++R):=.head _;clear hNw;obtain⟨g5,g4,rfl,rfl⟩:=X.nm2
  go_loopw [45] (fun i wr=>∃k:Nat,k<=5/\i=.int .i64 k/\((0<k->getC j.now.mt (n:Int)=none)/\(1<k->getC j.now.dt (n:Int)=none)/\(2<k->getC j.sealed.mt (n:Int)=none)/\(3<k->getC j.sealed.dt (n:Int)=none)/\(4<k->getC NL (n:Int)=none))/\St S w0 wr (⟨g5,[.slice v.nm.a j.now.mt.length v.nm.c,.slice v.nd.a j.now.dt.length v.nd.c,.slice v.sm.a j.sealed.mt.length v.sm.c,.slice v.sd.a j.sealed.dt.length v.sd.c,.slice a1 NL.length c1],45⟩::⟨g4,[.int .i64 0,.int .i64 0,.string ⟨#[]⟩],32⟩::⟨gj,j85 v j,84⟩::(MD++(MU++L))) (kj2 j_3 (.slice a1 NL.length c1) NL::(jRds v j ds fs++R))) (fun i _=>5-(intOf i).toNat)
  case atStart=>exact⟨0,aa,rfl,⟨fun h=>absurd h aa,fun h=>absurd h aa,fun h=>absurd h aa,fun h=>absurd h aa,fun h=>absurd h aa⟩,X⟩
  case round=>
   clear X;obtain⟨k,hk,rfl,hn,X⟩:=hrel;unfold j85 at X;have h5:k=0\/k=1\/k=2\/k=3\/k=4\/k=5:=aa;rcases h5 with rfl|rfl|rfl|rfl|rfl|rfl
   ·have hg:=hGt.out j.now.mt;clear hn
    cases hq:getC j.now.mt (n:Int) with
    |some s0=>
     rw[hq] at hg
     have hfs:fc=some s0:=by rw[hfc.out];simp only[hq];rfl
     subst hfs
     simp only[Option.getD_some,Option.isSome_some] at hg⊢
     replace hg:=hid hg
     clear hfc hq
     go_wp2_with (first|(refine ZyL ?_)| (refine ZyS ?_;clear X;intro w X)| (refine ZyA ?_;clear X;intro g w X)|(go_at_call 79;((with_reducible refine(hg.out _ _ (X.read m0) dJ).mono ?_);rintro e w1 ⟨rfl,hb1⟩;replace X:=X.call hb1;clear hb1))|(refine j66 rfl ?_;refine jZ7 rfl ?_;refine jZ9 rfl _ _ rfl rfl X ak ?_;(simp only[Act.put,zA,zB,zC,zD,zE,zF,zG,Nat.reduceAdd])))
     refine j93 rfl (.tmp rfl rfl) X (.tail _ (.head _)) rfl rfl ?_
     first|refine RMa ?_ rfl|refine RMb ?_ rfl
     exact JMk (v:=v) [_,_] X hm.out (fun r hr=>.tail _ hr)
    |none=>
     rw[hq] at hg
     simp only[Option.getD_none,Option.isSome_none] at hg
     replace hg:=hid hg
     replace hq:=hid hq
     go_wp2_with (first|(refine ZyL ?_)| (refine ZyS ?_;clear X;intro w X)| (refine ZyA ?_;clear X;intro g w X)|(go_at_call 79;((with_reducible refine(hg.out _ _ (X.read m0) dJ).mono ?_);rintro e w1 ⟨rfl,hb1⟩;replace X:=X.call hb1;clear hb1)))
     go_roundw
     case rel=>exact⟨1,aa,rfl,⟨fun _=>bw,fun h=>absurd h aa,fun h=>absurd h aa,fun h=>absurd h aa,fun h=>absurd h aa⟩,X⟩
     case measure=>simp[intOf]
   ·have hg:=hGt.out j.now.dt;have h0:=hn.1 aa;clear hn
    cases hq:getC j.now.dt (n:Int) with
    |some s0=>
     rw[hq] at hg
     have hfs:fc=some s0:=by rw[hfc.out];simp only[h0,hq];rfl
     subst hfs
     simp only[Option.getD_some,Option.isSome_some] at hg⊢
     replace hg:=hid hg
     clear hfc hq
     go_wp2_with (first|(refine ZyL ?_)| (refine ZyS ?_;clear X;intro w X)| (refine ZyA ?_;clear X;intro g w X)|(go_at_call 79;((with_reducible refine(hg.out _ _ (X.read m1) dJ).mono ?_);rintro e w1 ⟨rfl,hb1⟩;replace X:=X.call hb1;clear hb1))|(refine j66 rfl ?_;refine jZ7 rfl ?_;refine jZ9 rfl _ _ rfl rfl X ak ?_;(simp only[Act.put,zA,zB,zC,zD,zE,zF,zG,Nat.reduceAdd])))
     refine j93 rfl (.tmp rfl rfl) X (.tail _ (.head _)) rfl rfl ?_
     first|refine RMa ?_ rfl|refine RMb ?_ rfl
     exact JMk (v:=v) [_,_] X hm.out (fun r hr=>.tail _ hr)
    |none=>
     rw[hq] at hg
     simp only[Option.getD_none,Option.isSome_none] at hg
     replace hg:=hid hg
     replace hq:=hid hq
     go_wp2_with (first|(refine ZyL ?_)| (refine ZyS ?_;clear X;intro w X)| (refine ZyA ?_;clear X;intro g w X)|(go_at_call 79;((with_reducible refine(hg.out _ _ (X.read m1) dJ).mono ?_);rintro e w1 ⟨rfl,hb1⟩;replace X:=X.call hb1;clear hb1)))
     go_roundw
     case rel=>exact⟨2,aa,rfl,⟨fun _=>h0,fun _=>bw,fun h=>absurd h aa,fun h=>absurd h aa,fun h=>absurd h aa⟩,X⟩
     case measure=>simp[intOf]
   ·have hg:=hGt.out j.sealed.mt;have h0:=hn.1 aa;have h1:=hn.2.1 aa;clear hn
    cases hq:getC j.sealed.mt (n:Int) with
    |some s0=>
     rw[hq] at hg
     have hfs:fc=some s0:=by rw[hfc.out];simp only[h0,h1,hq];rfl
     subst hfs
     simp only[Option.getD_some,Option.isSome_some] at hg⊢
     replace hg:=hid hg
     clear hfc hq
     go_wp2_with (first|(refine ZyL ?_)| (refine ZyS ?_;clear X;intro w X)| (refine ZyA ?_;clear X;intro g w X)|(go_at_call 79;((with_reducible refine(hg.out _ _ (X.read m2) dy).mono ?_);rintro e w1 ⟨rfl,hb1⟩;replace X:=X.call hb1;clear hb1))|(refine j66 rfl ?_;refine jZ7 rfl ?_;refine jZ9 rfl _ _ rfl rfl X ak ?_;(simp only[Act.put,zA,zB,zC,zD,zE,zF,zG,Nat.reduceAdd])))
     refine j93 rfl (.tmp rfl rfl) X (.tail _ (.head _)) rfl rfl ?_
     first|refine RMa ?_ rfl|refine RMb ?_ rfl
     exact JMk (v:=v) [_,_] X hm.out (fun r hr=>.tail _ hr)
    |none=>
     rw[hq] at hg
     simp only[Option.getD_none,Option.isSome_none] at hg
     replace hg:=hid hg
     replace hq:=hid hq
     go_wp2_with (first|(refine ZyL ?_)| (refine ZyS ?_;clear X;intro w X)| (refine ZyA ?_;clear X;intro g w X)|(go_at_call 79;((with_reducible refine(hg.out _ _ (X.read m2) dy).mono ?_);rintro e w1 ⟨rfl,hb1⟩;replace X:=X.call hb1;clear hb1)))
     go_roundw
     case rel=>exact⟨3,aa,rfl,⟨fun _=>h0,fun _=>h1,fun _=>bw,fun h=>absurd h aa,fun h=>absurd h aa⟩,X⟩
     case measure=>simp[intOf]
   ·have hg:=hGt.out j.sealed.dt;have h0:=hn.1 aa;have h1:=hn.2.1 aa;have h2:=hn.2.2.1 aa;clear hn
    cases hq:getC j.sealed.dt (n:Int) with
    |some s0=>
     rw[hq] at hg
     have hfs:fc=some s0:=by rw[hfc.out];simp only[h0,h1,h2,hq];rfl
     subst hfs
     simp only[Option.getD_some,Option.isSome_some] at hg⊢
     replace hg:=hid hg
     clear hfc hq
     go_wp2_with (first|(refine ZyL ?_)| (refine ZyS ?_;clear X;intro w X)| (refine ZyA ?_;clear X;intro g w X)|(go_at_call 79;((with_reducible refine(hg.out _ _ (X.read m3) dy).mono ?_);rintro e w1 ⟨rfl,hb1⟩;replace X:=X.call hb1;clear hb1))|(refine j66 rfl ?_;refine jZ7 rfl ?_;refine jZ9 rfl _ _ rfl rfl X ak ?_;(simp only[Act.put,zA,zB,zC,zD,zE,zF,zG,Nat.reduceAdd])))
     refine j93 rfl (.tmp rfl rfl) X (.tail _ (.head _)) rfl rfl ?_
     first|refine RMa ?_ rfl|refine RMb ?_ rfl
     exact JMk (v:=v) [_,_] X hm.out (fun r hr=>.tail _ hr)
    |none=>
     rw[hq] at hg
     simp only[Option.getD_none,Option.isSome_none] at hg
     replace hg:=hid hg
     replace hq:=hid hq
     go_wp2_with (first|(refine ZyL ?_)| (refine ZyS ?_;clear X;intro w X)| (refine ZyA ?_;clear X;intro g w X)|(go_at_call 79;((with_reducible refine(hg.out _ _ (X.read m3) dy).mono ?_);rintro e w1 ⟨rfl,hb1⟩;replace X:=X.call hb1;clear hb1)))
     go_roundw
     case rel=>exact⟨4,aa,rfl,⟨fun _=>h0,fun _=>h1,fun _=>h2,fun _=>bw,fun h=>absurd h aa⟩,X⟩
     case measure=>simp[intOf]
   ·have hg:=hGt.out NL;have h0:=hn.1 aa;have h1:=hn.2.1 aa;have h2:=hn.2.2.1 aa;have h3:=hn.2.2.2.1 aa;clear hn
    cases hq:getC NL (n:Int) with
    |some s0=>
     rw[hq] at hg
     have hfs:fc=some s0:=by rw[hfc.out];simp only[h0,h1,h2,h3,hq];rfl
     subst hfs
     simp only[Option.getD_some,Option.isSome_some] at hg⊢
     replace hg:=hid hg
     clear hfc hq
     go_wp2_with (first|(refine ZyL ?_)| (refine ZyS ?_;clear X;intro w X)| (refine ZyA ?_;clear X;intro g w X)|(go_at_call 79;((with_reducible refine(hg.out _ _ (X.read m4) hnl).mono ?_);rintro e w1 ⟨rfl,hb1⟩;replace X:=X.call hb1;clear hb1))|(refine j66 rfl ?_;refine jZ7 rfl ?_;refine jZ9 rfl _ _ rfl rfl X ak ?_;(simp only[Act.put,zA,zB,zC,zD,zE,zF,zG,Nat.reduceAdd])))
     refine j93 rfl (.tmp rfl rfl) X (.tail _ (.head _)) rfl rfl ?_
     first|refine RMa ?_ rfl|refine RMb ?_ rfl
     exact JMk (v:=v) [_,_] X hm.out (fun r hr=>.tail _ hr)
    |none=>
     rw[hq] at hg
     simp only[Option.getD_none,Option.isSome_none] at hg
     replace hg:=hid hg
     replace hq:=hid hq
     go_wp2_with (first|(refine ZyL ?_)| (refine ZyS ?_;clear X;intro w X)| (refine ZyA ?_;clear X;intro g w X)|(go_at_call 79;((with_reducible refine(hg.out _ _ (X.read m4) hnl).mono ?_);rintro e w1 ⟨rfl,hb1⟩;replace X:=X.call hb1;clear hb1)))
     go_roundw
     case rel=>exact⟨5,aa,rfl,⟨fun _=>h0,fun _=>h1,fun _=>h2,fun _=>h3,fun _=>bw⟩,X⟩
     case measure=>simp[intOf]
   ·have h0:=hn.1 aa;have h1:=hn.2.1 aa;have h2:=hn.2.2.1 aa;have h3:=hn.2.2.2.1 aa;have h4:=hn.2.2.2.2 aa;clear hn;have hfs:fc=none:=by rw[hfc.out];simp only[h0,h1,h2,h3,h4];rfl
    subst hfs;(try simp only[Option.getD_none]);clear hfc h0 h1 h2 h3 h4
    go_wp2_with (first|(refine ZyL ?_)| (refine ZyS ?_;clear X;intro w X)| (refine ZyA ?_;clear X;intro g w X)|(go_at_call 80;((with_reducible refine(hRd.out _ _ (X.jDisk hdk (fun r hr=>List.Mem.tail _ (iv _ hr)))).mono ?_);rintro e w1 ⟨rfl,hb1⟩;replace X:=X.call hb1;clear hb1))|(refine j66 rfl ?_;refine jZ7 rfl ?_;refine jZ9 rfl _ _ rfl rfl X ak ?_;(simp only[Act.put,zA,zB,zC,zD,zE,zF,zG,Nat.reduceAdd])))
    refine j93 rfl (.tmp rfl rfl) X (.tail _ (.head _)) rfl rfl ?_
    first|refine RMa ?_ rfl|refine RMb ?_ rfl
    exact JMk (v:=v) [_,_] X hm.out (fun r hr=>.tail _ hr)
 ·have hJ:jJ5 j b=noR 4:=by unfold jJ5;rw[ii hb]
  rw[hJ];have hb2:¬(0<=b/\b<12):=fun h=>hb (iG h);clear hJ hb;by_cases hlt:b<0
  ·go_enter Tryz.func38,Tryz.ntmps38;exact fo
  ·have hge:(12:Int)<=b:=by omega
   go_enter Tryz.func38,Tryz.ntmps38;exact fo
end Go.Proofs.YtlecmdajpfkaeaaGreatDoor
namespace Wb
open Go Go.RowKit
theorem kW0(j:Jn)(a:Aj):(doJ j a).1.acts=if 400<=j.acts then j.acts else j.acts+1:=by
 unfold doJ
 split
 ·rfl
 split
 ·rfl
 generalize hJ:({j with acts:=j.acts+1}:Jn)=J;have e:J.acts=j.acts+1:=by rw[<-hJ]
 rw[<-e]
 split
 ·show(j15 J a.n).1.acts=_;unfold j15;split<;>rfl
 split
 ·show(j36 J).1.acts=_;unfold j36;split
  ·rfl
  split
  ·rfl
  split<;>rfl
 split
 ·unfold jR5;split
  ·rfl
  split
  ·rfl
  split
  ·rfl
  split
  ·unfold kX7;split
   ·rfl
   split
   ·rfl
   split<;>rfl
  ·rfl
 split
 ·rfl
 split
 ·unfold j82;split
  ·rfl
  split
  ·rfl
  split
  ·rfl
  split<;>rfl
 split
 ·show(j37 J).1.acts=_;unfold j37;split
  ·rfl
  split<;>rfl
 split
 ·rfl
 ·show(j98 J a).1.acts=_;unfold j98;split<;>rfl
theorem jn6{j:Jn}(h:InvJ j):goodR j.ring=true/\(j.down=false->goodT j.now=true/\j.last<j.now.seq):=by
 cases h with
 |idle hd hw hu hn hs=>exact⟨hu.ring,fun _=>⟨hn.good,by rw[hn.seq];omega⟩⟩
 |sealing d r us k hd hw hu hn he hq hq2 hr hus hk hdk hst=>exact⟨by rw[hr];exact(jA_ he).1,fun _=>⟨hn.good,by rw[hn.seq];omega⟩⟩
 |homing d k hd hw hu hn hs hp ha hk hdk hst=>exact⟨hu.ring,fun _=>⟨hn.good,by rw[hn.seq];omega⟩⟩
 |off hj hu=>rw[hj];exact⟨(by decide:goodR ⟨0,0⟩=true),fun h=>dZ⟩
 |rising d k hj hu hk hdk=>rw[hj];exact⟨(by decide:goodR ⟨0,0⟩=true),fun h=>dZ⟩
end Wb
namespace Go.Proofs.YtlecmdajpfkaeaaGreatDoor
open Go.RowKit Wb
theorem kn1{α:Type}{a b r:α}{R:List α}(h:r∈[a,b]):r∈a::b::R:=by
 rcases iS.1 h with rfl|h
 ·exact .head _
 ·rcases iI.1 h with rfl;exact .tail _ (.head _)
theorem kq9{w:World}{a1:Option Addr}{c1:Nat}(h1:RL j42 w (.slice a1 j54.safe.length c1) j54.safe):j_7 w (.agg #[.slice a1 j54.safe.length c1,.slice none 0 0]) j54:=⟨_,_,rfl,h1,RL.nil _ _,ae,ae⟩
theorem gv{A:Prop}(h:A:=by
 refine(j81 _).2 ⟨by simp[j54],ae,?_,rfl⟩;rw[ja];intro s hs;rw[List.eq_of_mem_replicate hs];unfold jN1;rw[jn1];rfl):A:=h
theorem kC5(K : JK){S : List Nat}{w0 w : World}{L : List Ent}{R : List Rd}(X : St S w0 w L R) :Calls Tryz.prog 8 #[] w fun e w'=>∃g M Rj,e=.returned (.pointer (some ⟨g,0,none⟩))/\JF g newJ M Rj/\St S w0 w' (M++L) (Rj++R):=by
 have hNw:=fun w=>K.dnew w;have hEn:=fun w=>K.enc (j86 1 0) (.agg #[.int .i64 1,.int .i64 1,.int .i64 0,.slice none 0 0,.slice none 0 0]) w ⟨_,_,rfl,RL.nil _ _,RL.nil _ _,ae,ae⟩;have hPu:=fun v w (h:j_7 w v j54)=>K.put j54 0 (markS (j86 1 0)) v w h;have hFl:=fun v w (h:j_7 w v (putD j54 0 (markS (j86 1 0))))=>K.flush (putD j54 0 (markS (j86 1 0))) v w h;have hD:j55 (putD j54 0 (markS (j86 1 0)))=jJ_:=rfl;have hI:=kS8
 have hg0:goodD j54=true:=by
  exact gv
 have hm:=j46 (jX6 (q:=1) (a:=0) ae ae);have hp:putE j54 0 (markS (j86 1 0))=0:=jB0 hg0 ae hm.2.2 ae;have hg1:=jS3 hp;rw[hD] at hFl;have hD0:j54.safe=List.replicate 37 (fit ⟨#[]⟩):=rfl;rw[<-hD0] at hNw;generalize markE (j86 1 0)=mE at*;generalize markS (j86 1 0)=mS at*;generalize putE j54 0 mS=pE at*;generalize putD j54 0 mS=D1 at*;generalize flushE D1=fE at*;have hJ:newJ={jY0 jJ_ 0 0 with now:=j2_ 1}:=rfl;clear hD hm hp hD0 hg0;replace hNw:=hid hNw;replace hEn:=hid hEn;replace hPu:=hid hPu;replace hFl:=hid hFl;replace hI:=hid hI;go_enter Tryz.func8,Tryz.ntmps8
 go_wp2_with (first|(refine Zbx ?_;clear X;intro g w X)|(refine ZyL ?_)| (refine ZyS ?_;clear X;intro w X)| (refine ZyA ?_;clear X;intro g w X)|(go_at_call 28;((with_reducible refine(hNw.out _).mono ?_);rintro e w1 ⟨vs,rfl,ho1,hb1⟩;obtain⟨a1,c1,rfl⟩:=ho1.form;replace X:=(X.addOwn hb1 (ho1.mono aa)).addNil;clear hb1 ho1))|(go_at_call 29;((with_reducible refine(hEn.out _).mono ?_);rintro e w1 ⟨rfl,hb1⟩;replace X:=X.call hb1;clear hb1))|(go_at_call 30;((with_reducible refine(hPu.out _ _ (kq9 (X.read (List.Mem.tail _ (List.Mem.head _))))).mono ?_);rintro e w1 ⟨v1,rfl,hr1,hn1,hb1⟩;obtain⟨as2,cs2,aw2,cw2,rfl,X2⟩:=X.addNewD (as_:=a1) (cs:=c1) (aw:=none) (cw:=0) hb1 hn1 (fun r hr=>by simp only[ji8,iS,jp,or_false] at hr;rcases hr with rfl|rfl;exact .tail _ (.head _);exact .head _);replace X:=X2;clear X2 hb1 hn1 hr1))|(go_at_call 31;((with_reducible refine(hFl.out _ _ (X.dsk (jU4 hg1).1 (jU4 hg1).2)).mono ?_);rintro e w1 ⟨v1,rfl,hr1,hn1,hb1⟩;obtain⟨as3,cs3,aw3,cw3,rfl,X2⟩:=X.addNewD hb1 hn1 (fun r hr=>kn1 hr);replace X:=X2;clear X2 hb1 hn1 hr1)))
 go_ret;refine⟨_,_,_,rfl,⟨jW9 ⟨as3,cs3⟩ ⟨aw3,cw3⟩,[],[],[],[],⟨.nil _ _ _,.nil _ _ _,rfl,rfl,(fun x hx=>cI),(fun x hx=>cI),hI.out,⟨iq _,iq _⟩⟩,rfl,rfl⟩,?_⟩;exact X.jZero rfl rfl rfl rfl (kQ _) (fun r hr=>.tail _ (.tail _ (.tail _ (.tail _ hr))))
end Go.Proofs.YtlecmdajpfkaeaaGreatDoor
namespace Wb
open Go Go.RowKit
variable{P:Program}{S:List Nat}{w0 w:World}{L:List Ent}{R:List Rd}
variable{ops:Array Oper}{Q:Exit->Act->World->Prop}{L0:List Ent}{R0:List Rd}{brk eff lds r:List Nat}{a:Act}{i:Nat}{o:Oper}
def jAt(l:List Aj)(k:Nat):Jn:=(l.take k).foldl (fun j a=>(doJ j a).1) newJ
theorem jn7{l:List Aj}{k:Nat}(hk:k<l.length):jAt l (k+1)=(doJ (jAt l k) l[k]).1:=by
 unfold jAt;rw[List.take_add_one,ix hk,kj];rfl
theorem kA0(a:Aj):(ajC a).length=5:=rfl
theorem kk5{w : World}{al : Option Addr}{n cap : Nat}{l : List Aj}(h : RL ajC w (.slice al n cap) l){k : Nat}(hk : k < l.length) :∃b off,al=some ⟨b,off,none⟩/\w.cell? ⟨b,off+k*5,none⟩=some (.int .i64 l[k].kind)/\w.cell? ⟨b,off+k*5+1,none⟩=some (.int .i64 l[k].h)/\w.cell? ⟨b,off+k*5+2,none⟩=some (.int .i64 l[k].b)/\w.cell? ⟨b,off+k*5+3,none⟩=some (.int .i64 l[k].n)/\w.cell? ⟨b,off+k*5+4,none⟩=some (.string l[k].text):=by
 obtain⟨b,off,ha,hc⟩:=RL.at (c:=5) kA0 h hk ae;exact⟨b,off,ha,hc 0 _ rfl,hc 1 _ rfl,hc 2 _ rfl,hc 3 _ rfl,hc 4 _ rfl⟩
def kB3(r:Rep):List Value:=[.int .i64 r.code,.int .i64 r.n,.string r.text]
theorem kO5:Flat kB3 3:=⟨fun _=>rfl,fun _ u hu=>by simp[kB3] at hu;rcases hu with rfl|rfl|rfl<;>rfl,ae⟩
def repsOf(j:Jn):List Aj->List Rep
 | []=>[]
 |a::r=>(doJ j a).2::repsOf (doJ j a).1 r
theorem jX4(l:List Aj):∀j,(repsOf j l).length=l.length:=by
 induction l with
 |nil=>intro j;rfl
 |cons a r ih=>intro j;simp only[repsOf,iB,ih]
theorem jl5(l m:List Aj):∀j,repsOf j (l++m)=repsOf j l++repsOf (l.foldl (fun j a=>(doJ j a).1) j) m:=by
 induction l with
 |nil=>intro j;rfl
 |cons a r ih=>intro j;simp only[iu,repsOf,ih,List.foldl_cons]
theorem jw9(l:List Aj)(k:Nat):∀j,repsOf j (l.take k)=(repsOf j l).take k:=by
 induction l generalizing k with
 |nil=>intro j;simp[repsOf]
 |cons a r ih=>
  intro j
  cases k with
  |zero=>rfl
  |succ k=>simp only[List.take_succ_cons,repsOf,ih]
def kF5(l:List Aj)(k:Nat):List Rep:=repsOf newJ (l.take k)
theorem je3{l:List Aj}{k:Nat}(hk:k<l.length):kF5 l (k+1)=kF5 l k++ [(doJ (jAt l k) l[k]).2]:=by
 unfold kF5;rw[List.take_add_one,ix hk,jl5];rfl
theorem k34{l:List Aj}{k:Nat}(hk:k<=l.length):(kF5 l k).length=k:=by
 unfold kF5;rw[jX4,iA];omega
theorem kF6(l:List Aj):kF5 l l.length=repsOf newJ l:=by unfold kF5;rw[iY]
def j80(v:JV)(j:Jn):List Value:=
 .slice v.sf.a j.disk.safe.length v.sf.c:: .slice v.wr.a j.disk.writes.length v.wr.c:: .bool j.down:: .int .i64 j.ring.head:: .int .i64 j.ring.used:: .int .i64 j.now.seq:: .slice v.nm.a j.now.mt.length v.nm.c:: .slice v.nd.a j.now.dt.length v.nd.c:: .slice v.nr.a j.now.rev.length v.nr.c:: .bool j.now.h0.on:: .int .i64 j.now.h0.left:: .bool j.now.h1.on:: .int .i64 j.now.h1.left:: .bool j.now.h2.on:: .int .i64 j.now.h2.left:: .int .i64 j.sealed.seq:: .slice v.sm.a j.sealed.mt.length v.sm.c:: .slice v.sd.a j.sealed.dt.length v.sd.c:: .slice v.sr.a j.sealed.rev.length v.sr.c:: .bool j.sealed.h0.on:: .int .i64 j.sealed.h0.left:: .bool j.sealed.h1.on:: .int .i64 j.sealed.h1.left:: .bool j.sealed.h2.on:: .int .i64 j.sealed.h2.left:: .slice v.dn.a j.done.length v.dn.c:: .int .i64 (j.roles 0):: .int .i64 (j.roles 1):: .int .i64 (j.roles 2):: .int .i64 (j.roles 3):: .int .i64 (j.roles 4):: .int .i64 (j.roles 5):: .int .i64 (j.roles 6):: .int .i64 (j.roles 7):: .int .i64 (j.roles 8):: .int .i64 (j.roles 9):: .int .i64 (j.roles 10):: .int .i64 (j.roles 11):: .int .i64 (j.freed 0):: .int .i64 (j.freed 1):: .int .i64 (j.freed 2):: .int .i64 (j.freed 3):: .int .i64 (j.freed 4):: .int .i64 (j.freed 5):: .int .i64 (j.freed 6):: .int .i64 (j.freed 7):: .int .i64 (j.freed 8):: .int .i64 (j.freed 9):: .int .i64 (j.freed 10):: .int .i64 (j.freed 11):: .int .i64 j.work:: .slice v.st.a j.steps.length v.st.c:: .slice v.ft.a j.found.txns.length v.ft.c:: .int .i64 j.found.next:: .int .i64 j.found.at_:: .int .i64 j.last:: .int .i64 j.acts:: []
def jY2(v:JV)(j:Jn)(ds fs:List TV):List Rd:=kj2 tvC (.slice v.dn.a j.done.length v.dn.c) ds::jRds v j ds fs
structure RFm(j:Jn)(ds fs:List TV):Prop where
 dmap:ds.map (·.t)=j.done
 fmap:fs.map (·.t)=j.found.txns
 dfit:∀x∈ds,x.fits
 ffit:∀x∈fs,x.fits
 inv:InvJ j
 sz:SzI j
def jE9(j:Jn)(c:List Value)(Rj:List Rd):Prop:=∃v ds fs,RFm j ds fs/\c=j80 v j/\Rj=jY2 v j ds fs
theorem RFm.acts{j:Jn}{ds fs:List TV}(h:RFm j ds fs)(n:Int):RFm {j with acts:=n} ds fs:=⟨h.dmap,h.fmap,h.dfit,h.ffit,h.inv.acts n,h.sz⟩
section
variable{S:List Nat}{w0 w:World}{v:JV}{j:Jn}{ds fs:List TV}{L:List Ent}{R R2:List Rd}
theorem St.rDone(X:St S w0 w L R)(hm:RFm j ds fs)(h:∀r∈jY2 v j ds fs,r∈R):j18 w (.slice v.dn.a j.done.length v.dn.c) j.done:=by
 refine⟨ds,(X.rd _ (h _ (.head _))).1,hm.dmap,X.jIn hm.dfit (fun r hr=>h r (.tail _ (jH4 r (ip _ hr)))),?_⟩;have:=congrArg List.length hm.dmap;rw[iZ] at this;have:=(hm.inv.sz hm.sz).done;omega
theorem jQ5:∀r∈jRds v j ds fs,r∈jY2 v j ds fs++R2:=fun r hr=>iv _ (.tail _ hr)
theorem j34{R:List Rd}(h0:kj2 tvC (.slice v.dn.a j.done.length v.dn.c) ds∈R)(h:∀r∈jRds v j ds fs++R2,r∈R):∀r∈jY2 v j ds fs++R2,r∈R:=fun r hr=>by
 rcases iS.1 hr with rfl|hr
 ·exact h0
 ·exact h r hr
theorem jG1:∀r∈inR fs,r∈jY2 v j ds fs++R2:=fun r hr=>jQ5 r (jH4 r (iv _ hr))
theorem jD3:∀r∈inR ds,r∈jY2 v j ds fs++R2:=fun r hr=>jQ5 r (jH4 r (ip _ hr))
end
theorem jp5(v:JV)(j:Jn){k:Nat}(hk:k<12):nth (j80 v j) (26+k)=some (.int .i64 (j.roles k)):=by
 exact eA
theorem kY1(v:JV)(j:Jn){k:Nat}(hk:k<12):nth (j80 v j) (38+k)=some (.int .i64 (j.freed k)):=by
 exact eA
theorem jX5(v:JV)(j:Jn){k:Nat}(hk:k<12)(x:Int):upd (26+k) [.int .i64 x] (j80 v j)=j80 v {j with roles:=jV_ j.roles k x}:=by
 exact eA
theorem kY3(v:JV)(j:Jn){k:Nat}(hk:k<12)(x:Int):upd (38+k) [.int .i64 x] (j80 v j)=j80 v {j with freed:=jV_ j.freed k x}:=by
 exact eA
def alE(K:Int)(t:Txn)(h b:Int)(s:ByteArray):Int:=if K=0 then chgE t h b s else if K=1 then filE t h b s else rvkE t h b
def alT(K:Int)(t:Txn)(h b:Int)(s:ByteArray):Txn:=if K=0 then jC1 t h b s else if K=1 then jr7 t h b s else jp6 t h b
theorem jY1{t:Txn}{h b:Int}(K E:Int)(s:ByteArray)(hm:mayE t h b=E)(he:¬E=0):alE K t h b s=E/\alT K t h b s=t:=by
 have hn:¬mayE t h b=0:=by rw[hm];exact he
 unfold alE alT;rw[<-hm]
 split
 ·exact kV4 hn
 ·split
  ·exact kT1 hn
  ·exact kN5 hn
theorem kD8{K:Int}{t:Txn}{h b:Int}{s:ByteArray}(h1:alE K t h b s=0):isBlk b=true:=by
 have:=fun hm=>(jY1 K _ s rfl (t:=t) (h:=h) (b:=b) hm).1;exact(j33 (jL fun hm=>hm (by rw[<-this hm];exact h1))).2.2.2
end Wb
namespace Go.Proofs.YtlecmdajpfkaeaaGreatDoor
open Go.RowKit Wb
instance:AggT Tryz.prog 58 57:=⟨⟨_,Tryz.underlying58,rfl⟩,af⟩
instance:FieldT Tryz.prog 58 0 0:=⟨fun _ _ _=>af⟩
instance:FieldT Tryz.prog 58 1 2:=⟨fun _ _ _=>af⟩
instance:FieldT Tryz.prog 58 2 3:=⟨fun _ _ _=>af⟩
instance:FieldT Tryz.prog 58 3 5:=⟨fun _ _ _=>af⟩
instance:FieldT Tryz.prog 58 4 15:=⟨fun _ _ _=>af⟩
instance:FieldT Tryz.prog 58 5 25:=⟨fun _ _ _=>af⟩
instance:FieldT Tryz.prog 58 6 26:=⟨fun _ _ _=>af⟩
instance:FieldT Tryz.prog 58 7 38:=⟨fun _ _ _=>af⟩
instance:FieldT Tryz.prog 58 8 50:=⟨fun _ _ _=>af⟩
instance:FieldT Tryz.prog 58 9 51:=⟨fun _ _ _=>af⟩
instance:FieldT Tryz.prog 58 10 52:=⟨fun _ _ _=>af⟩
instance:FieldT Tryz.prog 58 11 55:=⟨fun _ _ _=>af⟩
instance:FieldT Tryz.prog 58 12 56:=⟨fun _ _ _=>af⟩
structure RK:Prop where
 fit:∀(s:ByteArray) (w:World),s.size<=9223372036854775807->Calls Tryz.prog 45 #[.string s] w fun e w'=>e=.returned (.string (fit s))/\Below w.heap.size w w'
 dnew:∀(w:World),Calls Tryz.prog 15 #[] w fun e w'=>∃vs,e=.returned (.agg #[vs,.slice none 0 0])/\Wb.Own j42 (w.heap.size+1) 9 1 w' vs (List.replicate 37 (Wb.fit ⟨#[]⟩))/\Below w.heap.size w w'
 put:∀(d:Dsk) (n:Int) (t:ByteArray) (v:Value) (w:World),j_7 w v d->Calls Tryz.prog 49 #[v,.int .i64 n,.string t] w fun e w'=>∃v',e=.returned (.tuple #[v',.int .i64 (putE d n t)])/\j_7 w' v' (putD d n t)/\js6 w.heap.size w' v v' d (putD d n t)/\Below w.heap.size w w'
 flush:∀(d:Dsk) (v:Value) (w:World),j_7 w v d->Calls Tryz.prog 48 #[v] w fun e w'=>∃v',e=.returned (.tuple #[v',.int .i64 (flushE d)])/\j_7 w' v' (j55 d)/\js6 w.heap.size w' v v' d (j55 d)/\Below w.heap.size w w'
 crash:∀(d:Dsk) (x:Int) (v:Value) (w:World),j_7 w v d->x<=9223372036854775807->Calls Tryz.prog 19 #[v,.int .i64 x] w fun e w'=>∃v',e=.returned (.tuple #[v',.int .i64 (crashE d x)])/\j_7 w' v' (crashD d x)/\js6 w.heap.size w' v v' d (crashD d x)/\Below w.heap.size w w'
 read:∀(d:Dsk) (n:Int) (v:Value) (w:World),j_7 w v d->Calls Tryz.prog 26 #[v,.int .i64 n] w fun e w'=>e=.returned (.tuple #[.string (readD d n),.int .i64 (readE d n)])/\Below w.heap.size w w'
 enc:∀(m:Mrk) (v:Value) (w:World),j1_ w v m->Calls Tryz.prog 16 #[v] w fun e w'=>e=.returned (.tuple #[.string (markS m),.int .i64 (markE m)])/\Below w.heap.size w w'
 beg:∀(t:Txn) (h nn fr:Int) (vm vd vr:Value) (w:World),j17 w (j84 t vm vd vr) t->Calls Tryz.prog 62 #[j84 t vm vd vr,.int .i64 h,.int .i64 nn,.int .i64 fr] w fun e w'=>e=.returned (.tuple #[j84 (begT t h nn fr) vm vd vr,.int .i64 (begE t h nn fr)])/\Below w.heap.size w w'
 stop:∀(t:Txn) (h:Int) (vm vd vr:Value) (w:World),j17 w (j84 t vm vd vr) t->Calls Tryz.prog 63 #[j84 t vm vd vr,.int .i64 h] w fun e w'=>e=.returned (.tuple #[j84 (stopT t h) vm vd vr,.int .i64 (stopE t h)])/\Below w.heap.size w w'
 alt:∀(K:Int),K=0\/K=1\/K=2->∀(t:Txn) (h b:Int) (s:ByteArray) (vm vd vr:Value) (w:World),j17 w (j84 t vm vd vr) t->Calls Tryz.prog 64 #[.int .i64 K,j84 t vm vd vr,.int .i64 h,.int .i64 b,.string s] w fun e w'=>∃vm' vd' vr',e=.returned (.tuple #[j84 (alT K t h b s) vm' vd' vr',.int .i64 (alE K t h b s)])/\NewT w.heap.size w' vm vd vr vm' vd' vr' t (alT K t h b s)/\Below w.heap.size w w'
 get:∀(l:List Cpy) (b:Int) (v:Value) (w:World),RL j_3 w v l->l.length<=5864062014805->Calls Tryz.prog 25 #[v,.int .i64 b] w fun e w'=>e=.returned (.tuple #[.string ((getC l b).getD ⟨#[]⟩),.bool (getC l b).isSome])/\Below w.heap.size w w'
 opn:∀(t:Txn) (v:Value) (w:World),j17 w v t->Calls Tryz.prog 59 #[v] w fun e w'=>e=.returned (.bool (openB t))/\Below w.heap.size w w'
 com:∀(r:Ring) (t:Txn) (v:Value) (w:World),j17 w v t->Calls Tryz.prog 60 #[r.val,v] w fun e w'=>∃v',e=.returned (.tuple #[(comR r t).val,v',.int .i64 (comE r t)])/\Wb.Own jY3 w.heap.size 105 3 w' v' (comL r t)/\Below w.heap.size w w'
 newest:∀(l:List Txn),(∀t∈l,goodT t=true)->∀(v:Value) (w:World),j18 w v l->Calls Tryz.prog 22 #[v] w fun e w'=>∃v',e=.returned v'/\Wb.Own j_3 w.heap.size 93 2 w' v' (newestL l)/\Below w.heap.size w w'
 check:∀(l:List Cpy) (p q:Int) (v:Value) (w:World),RL j_3 w v l->l.length<=5864062014805->Calls Tryz.prog 21 #[v,.int .i64 p,.int .i64 q] w fun e w'=>∃v',e=.returned (.tuple #[v',.int .i64 (checkE l p q)])/\Wb.Own jY3 w.heap.size 105 3 w' v' (checkL l p q)/\Below w.heap.size w w'
 scan:∀(d:Dsk) (v:Value) (w:World),j_7 w v d->Calls Tryz.prog 20 #[v] w fun e w'=>∃vt,e=.returned (.tuple #[.agg #[vt,.int .i64 (scanF d).next,.int .i64 (scanF d).at_],.int .i64 (scanE d)])/\j43 w.heap.size 51 93 3 w' vt (scanF d).txns/\Below w.heap.size w w'
 blk:∀(n:Int) (w:World),Calls Tryz.prog 24 #[.int .i64 n] w fun e w'=>e=.returned (.bool (isBlk n))/\w=w'
 among:∀(l:List Int) (b:Int) (v:Value) (w:World),RL j_9 w v l->l.length<=17592186044160->Calls Tryz.prog 50 #[v,.int .i64 b] w fun e w'=>e=.returned (.bool (inI l b))/\w=w'
 inn:∀(l:List Cpy) (b:Int) (v:Value) (w:World),RL j_3 w v l->l.length<=5864062014805->Calls Tryz.prog 51 #[v,.int .i64 b] w fun e w'=>e=.returned (.bool (hasB l b))/\Below w.heap.size w w'
theorem kp2(c : Int)(w : World) :Calls Tryz.prog 17 #[.int .i64 c] w fun e w'=>e=.returned (.agg #[.int .i64 c,.int .i64 0,.string ⟨#[]⟩])/\Below w.heap.size w w':=by
 have X:St [] w w [] []:=kk7 [] w;go_enter Tryz.func17,Tryz.ntmps17
 go_wp2_with (first|(refine ZyL ?_)| (refine ZyS ?_;clear X;intro w X)| (refine ZyA ?_;clear X;intro g w X))
 exact j93 rfl (.tmp rfl rfl) X (.head _) rfl rfl ⟨rfl,X.below⟩
theorem kp1(c : Int)(w : World) :Calls Tryz.prog 58 #[.int .i64 c] w fun e w'=>e=.returned (.agg #[.int .i64 c,.int .i64 0,.string ⟨#[]⟩])/\Below w.heap.size w w':=by
 have X:St [] w w [] []:=kk7 [] w;go_enter Tryz.func58,Tryz.ntmps58
 go_wp2_with (first|(refine ZyL ?_)| (refine ZyS ?_;clear X;intro w X)| (refine ZyA ?_;clear X;intro g w X))
 exact j93 rfl (.tmp rfl rfl) X (.head _) rfl rfl ⟨rfl,X.below⟩
end Go.Proofs.YtlecmdajpfkaeaaGreatDoor
namespace Wb
open Go Go.RowKit
theorem jd5(f:Int->Int)(b x:Int):jV_ f b x b=x:=by unfold jV_;rw[ij rfl]
theorem kN7{f:Int->Int}{b x c:Int}(h:c≠b):jV_ f b x c=f c:=by unfold jV_;rw[ii h]
theorem k24(f:Int->Int)(b x y:Int):jV_ (jV_ f b x) b y=jV_ f b y:=by
 funext c;unfold jV_
 split<;>rfl
theorem kI5(l:List Int)(f:Int->Int)(b:Int):(l.foldl (fun f x=>jV_ f x 0) f) b=if inI l b=true then 0 else f b:=by
 induction l generalizing f with
 |nil=>rfl
 |cons x l ih=>
  rw[List.foldl_cons,ih]
  by_cases h:inI l b=true
  ·rw[ij h,ij (by simp only[inI,List.any_cons,kD] at h⊢;exact .inr h)]
  ·rw[ii h];by_cases hx:b=x
   ·subst hx;rw[jd5,ij (by simp[inI])]
   ·rw[kN7 hx,ii];simp only[inI,List.any_cons,kD,iT] at h⊢;rintro(h1|h1)
    ·exact hx h1.symm
    ·exact h h1
theorem kz8(l:List Cpy)(f:Int->Int)(b:Int):(l.foldl (fun f c=>jV_ f c.block 1) f) b=if hasB l b=true then 1 else f b:=by
 induction l generalizing f with
 |nil=>rfl
 |cons x l ih=>
  rw[List.foldl_cons,ih]
  by_cases h:hasB l b=true
  ·rw[ij h,ij (by simp only[hasB,List.any_cons,kD] at h⊢;exact .inr h)]
  ·rw[ii h];by_cases hx:b=x.block
   ·subst hx;rw[jd5,ij (by simp[hasB])]
   ·rw[kN7 hx,ii];simp only[hasB,List.any_cons,kD,iT] at h⊢;rintro(h1|h1)
    ·exact hx h1.symm
    ·exact h h1
theorem kE1{l:List Txn}{k:Nat}(hk:k<l.length)(b:Int):riseR (l.take (k+1)) b=if hasB l[k].mt b=true then 1 else if inI l[k].rev b=true then 0 else riseR (l.take k) b:=by
 unfold riseR;rw[it hk,kj];show ku0 _ l[k] b=_;unfold ku0;rw[kz8,kI5]
def upF(g:Int->Int)(b:Nat):Int->Int:=fun x=>if x<(b:Int) then g x else 0
theorem kD4(g:Int->Int)(b:Nat):jV_ (upF g b) b (g b)=upF g (b+1):=by
 funext x;unfold jV_ upF;by_cases h:x=(b:Int)
 ·rw[ij h,ij aa,h]
 ·rw[ii h];by_cases h2:x<(b:Int)
  ·rw[ij h2,ij aa]
  ·rw[ii h2,ii aa]
theorem InvJ.home{j:Jn}(h:InvJ j)(hw:j.work=2):j.after=⟨j.ring.head,0⟩:=by
 cases h with
 |idle hd hw0=>rw[hw0] at hw;exact absurd hw ae
 |sealing d r us k hd hw0=>rw[hw0] at hw;exact absurd hw ae
 |homing d k hd hw0 hu hn hs hp ha=>exact ha
 |off hj hu=>rw[hj] at hw;exact absurd hw (by show¬(0:Int)=2;decide)
 |rising d k hj=>rw[hj] at hw;exact absurd hw (by show¬(3:Int)=2;decide)
theorem kp4{S:List Nat}{w0 w:World}{R0 R:List Rd}{M L:List Ent}{g a b c:Ent}(X:St S w0 w (g::(M++(a::b::c::L))) R)(hL:Under [a,b,c] R0 (g::(M++(a::b::c::L))) R):St S w0 w (g::([a,b,c]++(M++L))) R/\Under [a,b,c] R0 (g::([a,b,c]++(M++L))) R:=
 ⟨X.perm ((ko M [a,b,c] L).cons _),(ka [a,b,c] _).cons _,hL.r⟩
theorem kp5{S:List Nat}{w0 w:World}{R0 R:List Rd}{M L:List Ent}{g a b c:Ent}(X:St S w0 w (M++(g::a::b::c::L)) R)(hL:Under [a,b,c] R0 (M++(g::a::b::c::L)) R):St S w0 w (g::([a,b,c]++(M++L))) R/\Under [a,b,c] R0 (g::([a,b,c]++(M++L))) R:=
 ⟨X.perm (ko M [g,a,b,c] L),(ka [a,b,c] _).cons _,hL.r⟩
theorem St.nm3{S:List Nat}{w0 w:World}{a b c:Nat}{ca cb cc:List Value}{ta tb tc:TypeId}{L:List Ent}{R:List Rd}(_:St S w0 w (⟨a,ca,ta⟩::⟨b,cb,tb⟩::⟨c,cc,tc⟩::L) R):∃x1 x2 x3,x1=a/\x2=b/\x3=c:=⟨_,_,_,rfl,rfl,rfl⟩
theorem jl9{j : Jn}{a b : AC}{R R1 : List Rd}{q q2 : Int}(h1 : j.now = j2_ q)(h2 : j.sealed = j2_ q2)(h3 : j.steps = [])(h4 : j.found.txns = [])(h5 : j.done = [])(hR : ∀ r ∈ R, r ∈ R1) :∀r∈jY2 (jW9 a b) j [] []++R,r∈kx3::kj2 j42 (.slice a.a j.disk.safe.length a.c) j.disk.safe::kj2 wrC (.slice b.a j.disk.writes.length b.c) j.disk.writes::R1:=fun r hr=>by
 rcases iK.1 hr with hr|hr
 ·rcases iS.1 hr with rfl|hr
  ·rw[h5];exact .head _
  ·rcases kL6 h1 h2 h3 h4 hr with rfl|rfl|rfl
   ·exact .tail _ (.head _)
   ·exact .tail _ (.tail _ (.head _))
   ·exact .head _
 ·exact .tail _ (.tail _ (.tail _ (hR r hr)))
section
variable{S:List Nat}{w0 w:World}{TJ:TypeId}{gj:Nat}{v:JV}{j:Jn}{ds fs:List TV}{L:List Ent}{R R1:List Rd}{e:Ending}{u:Value}
theorem RMk(A:List Ent)(X:St S w0 w (A++(⟨gj,j80 v j,TJ⟩::L)) R1)(hm:RFm j ds fs)(hr:∀r∈jY2 v j ds fs++R,r∈R1):∃c' Rj',jE9 j c' Rj'/\St S w0 w (⟨gj,c',TJ⟩::L) (Rj'++R):=
 ⟨_,_,⟨v,ds,fs,hm,rfl,rfl⟩,(X.sub (jD A _)).rds hr⟩
end
section
variable{P:Program}{ops:Array Oper}{Q:Exit->Act->World->Prop}{L0:List Ent}{R0:List Rd}{brk eff lds:List Nat}{i:Nat}{r:List Nat}{o:Oper}{a:Act}{S:List Nat}{w0 w:World}{L M T:List Ent}{R:List Rd}
theorem kB2{s x : Operand}{t : TypeId}(hi : oAt ops i = some o)(ho : o.op = .call { callee := .builtin .append, args := #[s, x], argTypes := #[t, t] }){α : Type}{f : α -> List Value}(l2 : List α){e : TypeId}{c bytes : Nat}[hT : SlT P t e c bytes](hF : Flat f c)(X:St S w0 w L R) {vx:Value} (hs:EvR a s (.slice none 0 0)) (hx:EvR a x vx) (hr:RL f w vx l2) (hroom:(l2.length+l2.length/4+192)*bytes<=281474976710656) (h63:l2.length<=140737488355328) (hL:Under L0 R0 L R) (he:eff.contains i=true) (hw:Region.wanted o (yielded ops a.tmps)=true)(h:∀a' cap' w' M',j4_ f e c (.slice a' l2.length cap') l2 M'->St S w0 w' (M'++L) R->Under L0 R0 (M'++L) R->SQ P ops Q L0 R0 brk eff lds r (a.put o.dst (.slice a' l2.length cap')) w'):SQ P ops Q L0 R0 brk eff lds (i::r) a w:=
 jD2 hi he hw fun K hk=>by
  obtain⟨v',w',M',h1,h2,h3⟩:=jC5 (P:=P) (pre:=[]) (M:=[]) (T:=L) ho hF X (j4_.nil f e c) hs l2 hx hr (by simpa using hroom) (by unfold maxLen;simp;omega);obtain⟨a',cap',rfl⟩:=h2.form;rw[iw] at h1 h2;have hL':Under L0 R0 (M'++L) R:=⟨hL.l.trans (jD _ _),hL.r⟩;unfold Oper.wp;rw[h1];exact hk _ _ (fun _ _=>h3.keeps hL') (h a' cap' w' M' h2 h3 hL')
end
end Wb
namespace Go.Proofs.YtlecmdajpfkaeaaGreatDoor
open Go.RowKit Wb
theorem ku7{A:Prop}(h:A:=by
 replace hNo:=hid hNo;replace hOp:=hid hOp;replace hsz:=hid hsz;replace hm:=hid hm;replace mdk:=hid mdk;go_enter Tryz.func23,Tryz.ntmps23
 go_wp2_with (first|go_skip|(refine ZyL ?_)| (refine ZyS ?_;clear X;intro w X)| (refine ZyA ?_;clear X;intro g w X)|(go_at_call 58;((with_reducible refine(hNo.out _ _).mono ?_);rintro e w1 ⟨rfl,hb1⟩;replace X:=X.call hb1;clear hb1))|(go_at_call 59;((with_reducible refine(hOp.out _ _ (X.jNow hsz.out mdk.out)).mono ?_);rintro e w1 ⟨rfl,hb1⟩;replace X:=X.call hb1;clear hb1)))
 exact j93 rfl (.tmp rfl rfl) X (.head _) rfl rfl ⟨_,_,rfl,⟨v,ds,fs,hm.out,rfl,rfl⟩,X.sub (iQ _ _)⟩):A:=h
theorem gw{A:Prop}(h:A:=by
 (refine Zs ?_;clear hL X;intro w X hL);refine Za ?_;refine Za ?_;refine j90 ?_;go_wp2;go_meet;exact⟨_,_,_,rfl,rfl,rfl,X⟩):A:=h
theorem kN1(K : RK){S : List Nat}{w0 w : World}{L : List Ent}{R : List Rd}{gj : Nat}{j : Jn}{c : List Value}{Rj : List Rd}(F : jE9 j c Rj)(X : St S w0 w (⟨gj, c, 58⟩ :: L) (Rj ++ R))(hd : j.down = false) :Calls Tryz.prog 23 #[.pointer (some ⟨gj,0,none⟩)] w fun e w'=>∃c' Rj',e=.returned (j82 j).2.val/\jE9 (j82 j).1 c' Rj'/\St S w0 w' (⟨gj,c',58⟩::L) (Rj'++R):=by
 obtain⟨v,ds,fs,hm,rfl,rfl⟩:=F;have hsz:=hm.inv.sz hm.sz;unfold j80 at X;have hNo:=fun c w=>kp1 c w;have hOp:=fun v w h=>K.opn j.now v w h;have mdk:∀r∈jRds v j ds fs,r∈jY2 v j ds fs++R:=jQ5;by_cases hw:j.work=0
 rotate_left
 ·have hJ:j82 j=(j,noR 9):=by unfold j82;rw[ij (.inl hw)]
  rw[hJ];have hw2:(j.work != 0)=true:=bK;clear hw hJ;exact ku7
 have hw2:(j.work != 0)=false:=bK;have hwn:¬j.work≠0:=js hw;clear hw
 cases ho:openB j.now with
 |true=>
  have hJ:j82 j=(j,noR 9):=by unfold j82;rw[ij (.inr ho)]
  rw[hJ]
  rw[ho] at hOp
  clear ho hwn hJ
  exact ku7
 |false=>
  have hl:=hsz.now
  rw[ho] at hOp
  have hwo:¬(j.work≠0\/openB j.now=true):=fun h=>h.elim hwn (by rw[ho];decide)
  clear hwn ho
  by_cases h0:j.now.mt.length+j.now.dt.length+j.now.rev.length=0
  ·have hJ:j82 j=(j,noR 4):=by unfold j82;rw[ii hwo,ij h0]
   rw[hJ];have e1:((j.now.mt.length:Int)==0)=true:=iT.2 aa;have e2:((j.now.dt.length:Int)==0)=true:=iT.2 aa;have e3:((j.now.rev.length:Int)==0)=true:=iT.2 aa;clear hwo hJ h0;exact ku7
  by_cases hq:2147483646<=j.now.seq
  ·have hJ:j82 j=(j,noR 11):=by unfold j82;rw[ii hwo,ii h0,ij hq]
   rw[hJ];have hq2:decide (2147483645<j.now.seq)=true:=iG aa;clear hwo hJ
   cases e1:((j.now.mt.length:Int)==0)
   ·clear h0;exact ku7
   ·cases e2:((j.now.dt.length:Int)==0)
    ·clear h0;exact ku7
    ·have e3:((j.now.rev.length:Int)==0)=false:=ik.2 (by have:=iT.1 e1;have:=iT.1 e2;omega);clear h0;exact ku7
  have hq2:decide (2147483645<j.now.seq)=false:=iH aa
  have hCm:=fun v w h=>K.com j.ring j.now v w h
  unfold Ring.val at hCm
  replace hNo:=hid hNo;replace hOp:=hid hOp;replace hsz:=hid hsz;replace hm:=hid hm;replace mdk:=hid mdk
  replace hCm:=hid hCm
  obtain⟨E0,hE0⟩:∃E0:Bool,E0=((j.now.mt.length:Int)==0):=⟨_,rfl⟩
  obtain⟨E1,hE1⟩:∃E1:Bool,E1=((j.now.dt.length:Int)==0):=⟨_,rfl⟩
  have hE2:E0=true->E1=true->((j.now.rev.length:Int)==0)=false:=fun a b=>by
   rw[a] at hE0;rw[b] at hE1;exact ik.2 (by have:=iT.1 hE0.symm;have:=iT.1 hE1.symm;omega)
  replace hE2:=hid hE2
  have hq3:=hid hq
  have h03:=hid h0
  clear hq h0
  go_enter Tryz.func23,Tryz.ntmps23
  go_upto_region 4 with (first|go_skip|(refine ZyL ?_)| (refine ZyS ?_;clear X;intro w X)| (refine ZyA ?_;clear X;intro g w X)|(go_at_call 58;((with_reducible refine(hNo.out _ _).mono ?_);rintro e w1 ⟨rfl,hb1⟩;replace X:=X.call hb1;clear hb1))|(go_at_call 59;((with_reducible refine(hOp.out _ _ (X.jNow hsz.out mdk.out)).mono ?_);rintro e w1 ⟨rfl,hb1⟩;replace X:=X.call hb1;clear hb1)))
  obtain⟨g2,rfl⟩:=X.nm1
  go_cut [45] (fun s45 wx=>s45=.bool false/\St S w0 wx (⟨g2,[.int .i64 0,.int .i64 0,.string ⟨#[]⟩],32⟩::⟨gj,j80 v j,58⟩::L) (jY2 v j ds fs++R))
  case first=>
   cases E0
   ·rw[eq_comm] at hE0
    go_wp2_with (first
    |go_skip
    | (refine ZyL ?_)| (refine ZyS ?_;clear X;intro w X)| (refine ZyA ?_;clear X;intro g w X)
    | (go_at_call 58;((with_reducible refine(hNo.out _ _).mono ?_);rintro e w1 ⟨rfl,hb1⟩;replace X:=X.call hb1;clear hb1))
    | (go_at_call 59;((with_reducible refine(hOp.out _ _ (X.jNow hsz.out mdk.out)).mono ?_);rintro e w1 ⟨rfl,hb1⟩;replace X:=X.call hb1;clear hb1)))
    go_meet;exact⟨rfl,X⟩
   ·rw[eq_comm] at hE0
    cases E1
    ·rw[eq_comm] at hE1
     go_wp2_with (first
    |go_skip
    | (refine ZyL ?_)| (refine ZyS ?_;clear X;intro w X)| (refine ZyA ?_;clear X;intro g w X)
    | (go_at_call 58;((with_reducible refine(hNo.out _ _).mono ?_);rintro e w1 ⟨rfl,hb1⟩;replace X:=X.call hb1;clear hb1))
    | (go_at_call 59;((with_reducible refine(hOp.out _ _ (X.jNow hsz.out mdk.out)).mono ?_);rintro e w1 ⟨rfl,hb1⟩;replace X:=X.call hb1;clear hb1)))
     go_meet
     exact⟨rfl,X⟩
    ·have hE3:=hE2.out rfl rfl;rw[eq_comm] at hE1
     go_wp2_with (first
    |go_skip
    | (refine ZyL ?_)| (refine ZyS ?_;clear X;intro w X)| (refine ZyA ?_;clear X;intro g w X)
    | (go_at_call 58;((with_reducible refine(hNo.out _ _).mono ?_);rintro e w1 ⟨rfl,hb1⟩;replace X:=X.call hb1;clear hb1))
    | (go_at_call 59;((with_reducible refine(hOp.out _ _ (X.jNow hsz.out mdk.out)).mono ?_);rintro e w1 ⟨rfl,hb1⟩;replace X:=X.call hb1;clear hb1)))
     go_meet
     exact⟨rfl,X⟩
  clear X hE0 hE1 hE2
  obtain⟨rfl,X⟩:=hcut
  unfold j80 at X
  go_upto_region 8 with (first|go_skip|(refine ZyL ?_)| (refine ZyS ?_;clear X;intro w X)| (refine ZyA ?_;clear X;intro g w X)|(go_at_call 58;((with_reducible refine(hNo.out _ _).mono ?_);rintro e w1 ⟨rfl,hb1⟩;replace X:=X.call hb1;clear hb1))|(go_at_call 59;((with_reducible refine(hOp.out _ _ (X.jNow hsz.out mdk.out)).mono ?_);rintro e w1 ⟨rfl,hb1⟩;replace X:=X.call hb1;clear hb1)))
  go_cut [4,5,6] (fun s4 s5 s6 wx=>∃(a3:Option Addr) (c3:Nat) (g4:Nat),s4=.pointer (some ⟨g4,0,none⟩)/\s5=.slice a3 (comL j.ring j.now).length c3/\s6=.int .i64 (comE j.ring j.now)/\St S w0 wx (⟨g4,[.int .i64 (comR j.ring j.now).head,.int .i64 (comR j.ring j.now).used],38⟩::⟨g2,[.int .i64 0,.int .i64 0,.string ⟨#[]⟩],32⟩::⟨gj,j80 v j,58⟩::L) (kj2 jY3 (.slice a3 (comL j.ring j.now).length c3) (comL j.ring j.now)::(jY2 v j ds fs++R)))
  case first=>
   generalize comR j.ring j.now=cr at*;generalize comL j.ring j.now=ST at*;generalize comE j.ring j.now=cE at*;(refine jQ4 2 [] [8,13,14] [3,7] (.fork [0,1,2,3,4,5,6,7] (.fin [8,9,10,11,12,13,14,15,16]) (.fin [13,8,9,10,11,12,14,15,16])) X ?_;clear X;intro hQ X hL;simp only[zF,zG] at hL;simp only[zF,zG]);have hQo:=hQ;refine jE5 (fun hQ=>?_) hQo;refine Zm ?_;refine Zn ?_;refine Zf ?_;refine Zl ?_;refine Zm ?_;refine Zn ?_;refine Zf ?_;refine Zl ?_;refine jd8 ?_ ?_
   ·have hQ:=hQo;refine jN5 ?_;(refine j_0 60 Tryz.func60 (hCm.out _ _ (X.jNow hsz.out mdk.out)) ?_;rintro e w1 ⟨v3,rfl,ho1,hb1⟩;obtain⟨a3,c3,rfl⟩:=ho1.form;replace X:=X.addOwn hb1 ho1;clear hb1 ho1;refine Zce ?_;clear hL;intro hL);refine Zm ?_;refine Zx ?_;refine Zx ?_;refine Zx ?_;(refine Zq ?_;clear hL X;intro g w X hL);exact gw
   ·have hQ:=hQo;refine jN5 ?_;(refine Zq ?_;clear hL X;intro g w X hL);(refine j_0 60 Tryz.func60 (hCm.out _ _ (X.jNow hsz.out mdk.out)) ?_;rintro e w1 ⟨v3,rfl,ho1,hb1⟩;obtain⟨a3,c3,rfl⟩:=ho1.form;replace X:=X.addOwn hb1 ho1;clear hb1 ho1;refine Zce ?_;clear hL;intro hL);refine Zm ?_;refine Zx ?_;refine Zx ?_;refine Zx ?_;exact gw
  clear X hCm
  obtain⟨a3,c3,g4,rfl,rfl,rfl,X⟩:=hcut
  unfold j80 at X
  by_cases hc:comE j.ring j.now=0
  rotate_left
  ·have hJ:j82 j=(j,noR (comE j.ring j.now)):=by unfold j82;rw[ii hwo,ii h03.out,ii (by have:=hq3.out;omega),ij hc]
   replace hJ:=hid hJ;have hc2:(comE j.ring j.now != 0)=true:=by simpa using hc
   clear hwo hc;generalize comR j.ring j.now=cr at*;generalize comL j.ring j.now=ST at*;generalize comE j.ring j.now=cE at*
   go_wp2_with (first|go_skip|(refine ZyL ?_)| (refine ZyS ?_;clear X;intro w X)| (refine ZyA ?_;clear X;intro g w X)|(go_at_call 58;((with_reducible refine(hNo.out _ _).mono ?_);rintro e w1 ⟨rfl,hb1⟩;replace X:=X.call hb1;clear hb1))|(go_at_call 59;((with_reducible refine(hOp.out _ _ (X.jNow hsz.out mdk.out)).mono ?_);rintro e w1 ⟨rfl,hb1⟩;replace X:=X.call hb1;clear hb1)))
   refine j93 rfl (.tmp rfl rfl) X (.tail _ (.head _)) rfl rfl ?_;rw[hJ.out];exact⟨_,_,rfl,⟨v,ds,fs,hm.out,rfl,rfl⟩,(X.sub (List.Sublist.cons _ (iQ _ _))).rds (fun r hr=>.tail _ hr)⟩
  have hJ:j82 j=({j with used:=j.used++ [(comR j.ring j.now).used-j.ring.used],ring:=comR j.ring j.now,sealed:=j.now,steps:=comL j.ring j.now,work:=1,now:=j2_ (j.now.seq+1)},⟨0,j.now.seq,⟨#[]⟩⟩):=by unfold j82;rw[ii hwo,ii h03.out,ii (by have:=hq3.out;omega),ii (js hc)]
  have hI:=jq2 hd hm.out.inv
  rw[hJ] at hI
  dsimp only at hI
  replace hJ:=hid hJ
  have hcl:=(jA0 hc).2
  have hws:IntKind.i64.wrap (j.now.seq+1)=j.now.seq+1:=iz _ (by have:=(j21 hc).2.1.seq;omega)
  have hc2:(comE j.ring j.now != 0)=false:=by simpa using hc
  clear hwo hc hOp hNo
  generalize (comR j.ring j.now).used-j.ring.used=us at*
  generalize comR j.ring j.now=cr at*
  generalize comL j.ring j.now=ST at*
  replace hI:=hid hI;replace hcl:=hid hcl
  go_upto_region 11 with (first|(refine ZyL ?_)| (refine ZyS ?_;clear X;intro w X)| (refine ZyA ?_;clear X;intro g w X))
  (refine j__ 3 [12,15,18,21] [12,15,18,21] [4,8] [0,1,2,3,4,5,6,7,8,9,10,11,12,13,14,15,16,17,18,19,20,21] X ?_;clear X;intro hQ X hL;simp only[zF,zG] at hL;simp only[zF,zG])
  refine Zm ?_
  refine Zm ?_
  refine Zm ?_
  refine Zm ?_
  refine Zl ?_
  refine Zm ?_
  refine Zn ?_
  refine Zf ?_
  refine Zl ?_
  refine Zm ?_
  refine Zn ?_
  refine Zf ?_
  (refine Zb ?_;clear X;intro w X)
  refine Zn ?_
  refine Zf ?_
  (refine Zb ?_;clear X;intro w X)
  refine Zn ?_
  refine Zf ?_
  (refine Zb ?_;clear X;intro w X)
  refine Zn ?_
  refine Zf ?_
  (refine Zb ?_;clear X;intro w X)
  refine j90 ?_
  go_wp2_with (first|(refine ZyL ?_)| (refine ZyS ?_;clear X;intro w X)| (refine ZyA ?_;clear X;intro g w X))
  have X9:=X.addNil
  refine j93 rfl (.tmp rfl rfl) X (.tail _ (.head _)) rfl rfl ?_
  rw[hJ.out]
  dsimp only
  first|refine RMa ?_ rfl|refine RMb ?_ rfl
  exact RMk (v:={v with st:=⟨a3,c3⟩,nm:=j23,nd:=j23,nr:=j23,sm:=v.nm,sd:=v.nd,sr:=v.nr}) (j:={j with used:=j.used++ [us],ring:=cr,sealed:=j.now,steps:=ST,work:=1,now:=j2_ (j.now.seq+1)}) [_,_] X9 ⟨hm.out.dmap,hm.out.fmap,hm.out.dfit,hm.out.ffit,hI.out,⟨hm.out.sz.1,hcl.out⟩⟩ (j34 Zfl (j7_ Zfl Zfl Zfl Zfl Zfl Zfl Zfl Zfl Zfl Zfl (fun r hr=>.tail _ (.tail _ (jG1 r hr))) (fun r hr=>.tail _ (.tail _ (jD3 r hr))) (fun r hr=>.tail _ (.tail _ (show r∈jY2 v j ds fs++R from ip _ hr)))))
theorem eS{A:Prop}(h:A:=by
 replace X:=X2;replace hL:=hL2;clear X2 hL2;refine kZ6 (n:=1) [_,_,_] rfl rfl [y] jZ0 X hO5 Zev Zev (by rw[<-hy];rfl) rfl aa hL (kQ _) rfl rfl ?_;intro a6 c6 w6 MD6 hO6 X2 hL2;simp only[iu,iw] at X2 hL2;replace X:=X2;replace hL:=hL2;clear X2 hL2;(simp only[Act.put,zA,zB,zC,zD,zE,zF,zG,Nat.reduceAdd]);refine Zn ?_;refine Zf ?_;(refine Zb ?_;clear X;intro w X);refine j90 ?_;go_wp2;go_meet;have hdl2:ds.length+1=(j.done++ [j.sealed]).length:=by simp[hdl]
 rw[hdl2] at hO6 X;exact⟨_,_,_,hO6,X⟩):A:=h
theorem ku1(K : RK){S : List Nat}{w0 w : World}{L : List Ent}{R : List Rd}{gj : Nat}{j : Jn}{c : List Value}{Rj : List Rd}(F : jE9 j c Rj)(X : St S w0 w (⟨gj, c, 58⟩ :: L) (Rj ++ R)) :Calls Tryz.prog 18 #[.pointer (some ⟨gj,0,none⟩)] w fun e w'=>∃c' Rj',e=.returned (jR5 j).2.val/\jE9 (jR5 j).1 c' Rj'/\St S w0 w' (⟨gj,c',58⟩::L) (Rj'++R):=by
 obtain⟨v,ds,fs,hm,rfl,rfl⟩:=F;have hsz:=hm.inv.sz hm.sz;have hdk:=hsz.dk;unfold j80 at X;by_cases hw:j.work=0
 ·have hJ:jR5 j=(j,noR 4):=by unfold jR5;rw[ij hw]
  rw[hJ];have hw2:(j.work==0)=true:=bK;clear hw hJ;go_enter Tryz.func18,Tryz.ntmps18
  go_wp2_with (first|(refine ZyL ?_)| (refine ZyS ?_;clear X;intro w X)| (refine ZyA ?_;clear X;intro g w X))
  exact j93 rfl (.tmp rfl rfl) X (.head _) rfl rfl ⟨_,_,rfl,⟨v,ds,fs,hm,rfl,rfl⟩,X.sub (iQ _ _)⟩
 ·obtain⟨s,r,hs,he⟩:=jz9 hm.inv hw;have hJ:=step_eq hw hs he;have hI:=k53 hm.inv;have hwk:=k54 hm.inv hw;have hw2:(j.work==0)=false:=ik.2 hw;have hrl:r.length<=100:=by have:=hm.sz.2;rw[hs,iB] at this;omega
  have mst:kj2 jY3 (.slice v.st.a j.steps.length v.st.c) j.steps∈jY2 v j ds fs++R:=jQ5 _ (by unfold jRds;exact Zfl);have mdk:∀r∈jRds v j ds fs,r∈jY2 v j ds fs++R:=jQ5;have hl:j.steps.length=r.length+1:=by rw[hs];rfl
  rw[hs] at mst;obtain⟨b,off,hb,d0,d1,d2⟩:=RL.at3 (fun x:Stp=>.int .i64 x.kind) (fun x=>.int .i64 x.at_) (fun x=>.string x.text) (fun _=>rfl) (X.read mst) (k:=0) (mj _);have hcap:r.length+1<=v.st.c:=bi;have hmx:v.st.c-1<=maxLen:=bO;rw[hb] at mst X;rw[hl] at X;rw[hJ] at hI⊢;clear hJ hw hl hb d0 d1 d2;obtain⟨sk,sa,tx⟩:=s;have hFl:=fun v w (h:j_7 w v j.disk)=>K.flush j.disk v w h;have hPu:=fun v w (h:j_7 w v j.disk)=>K.put j.disk sa tx v w h;obtain⟨D,hD⟩:∃D,jV2 j.disk ⟨sk,sa,tx⟩=D:=⟨_,rfl⟩;rw[hD] at hI⊢;generalize hJJ:(if r=[] then kX7 {j with disk:=D,steps:=[]} else({j with disk:=D,steps:=r},noR 0))=JJ at*;replace hJJ:=hid hJJ;unfold jF0 at he;unfold jV2 at hD;dsimp only at he hD;replace hFl:=hid hFl;replace hPu:=hid hPu;replace hI:=hid hI;replace hm:=hid hm;replace hsz:=hid hsz;replace he:=hid he;replace hD:=hid hD;replace hwk:=hid hwk;replace mdk:=hid mdk;go_enter Tryz.func18,Tryz.ntmps18
  go_upto_region 3 with (first|(refine ZyL ?_)| (refine ZyS ?_;clear X;intro w X)| (refine ZyA ?_;clear X;intro g w X))
  obtain⟨b2,off2,hb2,d0,d1,d2⟩:=RL.at3 (fun x:Stp=>.int .i64 x.kind) (fun x=>.int .i64 x.at_) (fun x=>.string x.text) (fun _=>rfl) (X.read mst) (k:=0) (mj _)
  cases hb2
  simp only[List.getElem_cons_zero,kq,Nat.add_zero] at d0 d1 d2
  go_upto_if 23 with (first|(refine ZyL ?_)| (refine ZyS ?_;clear X;intro w X)| (refine ZyA ?_;clear X;intro g w X))
  clear d0 d1 d2;obtain⟨g3,g2,rfl,rfl⟩:=X.nm2
  go_cut [] (fun wx=>∃(as2 aw2:Option Addr) (cs2 cw2:Nat),St S w0 wx (⟨g3,[.int .i64 sk,.int .i64 sa,.string tx],105⟩::⟨g2,[.int .i64 0,.int .i64 0,.string ⟨#[]⟩],32⟩::⟨gj,j80 {v with sf:=⟨as2,cs2⟩,wr:=⟨aw2,cw2⟩,st:=⟨some ⟨b,off,none⟩,v.st.c⟩} {j with disk:=D,steps:=⟨sk,sa,tx⟩::r},58⟩::L) (ji8 as2 cs2 aw2 cw2 D++(jY2 v j ds fs++R)))
  case first=>
   by_cases hk:sk=2
   ·have hk2:(sk==2)=true:=by simpa using hk
    have h1:=he.out;have h2:=hD.out;rw[ij hk] at h1 h2;have hFl2:=hFl.out;rw[h1,h2] at hFl2;clear hPu hFl h1 h2 hk;replace hFl2:=hid hFl2
    go_wp2_with (first|(refine ZyL ?_)| (refine ZyS ?_;clear X;intro w X)| (refine ZyA ?_;clear X;intro g w X)|(go_at_call 48;((with_reducible refine(hFl2.out _ _ (X.jDisk hdk mdk.out)).mono ?_);rintro e w1 ⟨v1,rfl,hr1,hn1,hb1⟩;obtain⟨as2,cs2,aw2,cw2,rfl,X2⟩:=X.addNewD hb1 hn1 (fun r hr=>mdk.out _ (jV3 r hr));replace X:=X2;clear X2 hb1 hn1 hr1)))
    go_meet;exact⟨_,_,_,_,X⟩
   ·have hk2:(sk==2)=false:=ik.2 hk;have h1:=he.out;have h2:=hD.out;rw[ii hk] at h1 h2;have hPu2:=hPu.out;rw[h1,h2] at hPu2;clear hPu hFl h1 h2 hk;replace hPu2:=hid hPu2
    go_upto_region 6 with (first|(refine ZyL ?_)| (refine ZyS ?_;clear X;intro w X)| (refine ZyA ?_;clear X;intro g w X))
    (refine j__ 3 [15] [9,15] [4,6,8] [0,1,2,3,4,5,6,7,8,9,10,11,12,13,14,15] X ?_;clear X;intro hQ X hL;simp only[zF,zG] at hL;simp only[zF,zG]);refine Zm ?_;refine Zm ?_;refine Zn ?_;refine Zf ?_;refine Zl ?_;refine Zf ?_;refine Zl ?_;refine Zf ?_;refine Zl ?_;(refine j_0 49 Tryz.func49 (hPu2.out _ _ (X.jDisk hdk mdk.out)) ?_;rintro e w1 ⟨v1,rfl,hr1,hn1,hb1⟩;obtain⟨as2,cs2,aw2,cw2,rfl,X2⟩:=X.addNewD hb1 hn1 (fun r hr=>mdk.out _ (jV3 r hr));replace X:=X2;clear X2 hb1 hn1 hr1;refine Zce ?_;clear hL;intro hL);refine Zm ?_;refine Zx ?_;refine Zx ?_;refine Zn ?_;refine Zf ?_;(refine Zb ?_;clear X;intro w X);refine j90 ?_;go_wp2;go_meet;exact⟨_,_,_,_,X⟩
  clear X hFl hPu he;obtain⟨as2,aw2,cs2,cw2,X⟩:=hcut;unfold j80 at X;dsimp only at X
  cases r with
  |cons x rr=>
   have hI2:=hI.out
   obtain rfl:=(ii ag).symm.trans hJJ.out
   clear hwk hI
   simp only[iB] at X hcap hrl
   replace hI2:=hid hI2
   go_wp2_with (first|(refine ZyL ?_)| (refine ZyS ?_;clear X;intro w X)| (refine ZyA ?_;clear X;intro g w X))
   all_goals
    have X9:=X.addDrop (c:=3) (fun _=>rfl) (.tail _ (.tail _ mst))
    refine j93 rfl (.tmp rfl rfl) X (.tail _ (.head _)) rfl rfl ?_
    first|refine RMa ?_ rfl|refine RMb ?_ rfl
    exact RMk (v:={v with sf:=⟨as2,cs2⟩,wr:=⟨aw2,cw2⟩,st:=⟨some ⟨b,off+3,none⟩,v.st.c-1⟩}) (j:={j with disk:=D,steps:=x::rr}) [_,_] X9 ⟨hm.out.dmap,hm.out.fmap,hm.out.dfit,hm.out.ffit,hI2.out,⟨hm.out.sz.1,hrl⟩⟩ (j34 Zfl (j7_ Zfl Zfl Zfl Zfl Zfl Zfl Zfl Zfl Zfl Zfl (fun r hr=>.tail _ (.tail _ (.tail _ (jG1 r hr)))) (fun r hr=>.tail _ (.tail _ (.tail _ (jD3 r hr)))) (fun r hr=>.tail _ (.tail _ (.tail _ (show r∈jY2 v j ds fs++R from ip _ hr))))))
  |nil=>
   have hI2:=hI.out
   have hJ2:=(ij rfl).symm.trans hJJ.out
   clear hI hJJ
   simp only[iC,jm] at X hcap
   have h0:((0:Nat):Int)=0:=rfl
   go_upto_region 10 with (first|(refine ZyL ?_)| (refine ZyS ?_;clear X;intro w X)| (refine ZyA ?_;clear X;intro g w X))
   generalize (if v.st.c=1 then some (⟨b,off,none⟩:Addr) else some ⟨b,off+3,none⟩)=pst at*
   unfold kX7 at hJ2
   dsimp only at hJ2
   rcases hwk.out with h1|⟨h2,hp,hul,hne⟩|⟨h3,hgd,hnx⟩
   ·rw[ij h1] at hJ2;subst hJ2;have hw3:(j.work==1)=true:=dX;clear hwk h1;have hdl:ds.length=j.done.length:=dB;have hdb:=hsz.out.done;have hsf:=hsz.out.sealed;have mdn:kj2 tvC (.slice v.dn.a j.done.length v.dn.c) ds∈(ji8 as2 cs2 aw2 cw2 D++(jY2 v j ds fs++R)):=Zfl;obtain⟨y,hy⟩:∃y,(⟨j.sealed,⟨v.sm.a,j.sealed.mt.length,v.sm.c⟩,⟨v.sd.a,j.sealed.dt.length,v.sd.c⟩,⟨v.sr.a,j.sealed.rev.length,v.sr.c⟩⟩:TV)=y:=⟨_,rfl⟩
    go_upto_region 15 with (first|(refine ZyL ?_)| (refine ZyS ?_;clear X;intro w X)| (refine ZyA ?_;clear X;intro g w X))
    go_cut [] (fun wx=>∃(a6:Option Addr) (c6:Nat) (MD6:List Ent),j4_ tvC 51 10 (.slice a6 (j.done++ [j.sealed]).length c6) (ds++ [y]) MD6/\St S w0 wx (⟨g3,[.int .i64 sk,.int .i64 sa,.string tx],105⟩::⟨g2,[.int .i64 0,.int .i64 0,.string ⟨#[]⟩],32⟩::⟨gj,j80 {v with sf:=⟨as2,cs2⟩,wr:=⟨aw2,cw2⟩,st:=⟨pst,v.st.c-1⟩,dn:=⟨a6,c6⟩} {j with disk:=D,steps:=[],work:=0,last:=j.sealed.seq,done:=j.done++ [j.sealed]},58⟩::(MD6++L)) (ji8 as2 cs2 aw2 cw2 D++(jY2 v j ds fs++R)))
    case first=>
     (refine jQ4 3 [14] [5,10,11,14] [4,9] (.fork [0,1,2,3,4,6,7,8,9] (.fin [5,10,11,12,13,14]) (.fin [10,5,11,12,13,14])) X ?_;clear X;intro hQ X hL;simp only[zF,zG] at hL;simp only[zF,zG]);have hQo:=hQ;refine jE5 (fun hQ=>?_) hQo;refine Zm ?_;refine Zm ?_;refine Zn ?_;refine Zf ?_;refine Zl ?_;refine Zm ?_;refine Zn ?_;refine Zf ?_;refine Zl ?_;refine jd8 ?_ ?_
     ·have hQ:=hQo;refine jN5 ?_;refine kB2 rfl rfl ds jZ0 X Zev Zev (X.read mdn) aa aa hL rfl rfl ?_;intro a5 c5 w5 MD5 hO5 X2 hL2;replace X:=X2;replace hL:=hL2;clear X2 hL2;(simp only[Act.put,zA,zB,zC,zD,zE,zF,zG,Nat.reduceAdd]);(refine jY7 rfl rfl Zev ay ay X hL rfl rfl ?_;intro g w X2 hL2;replace X:=X2;replace hL:=hL2;clear X2 hL2;(simp only[Act.put,zA,zB,zC,zD,zE,zF,zG,Nat.reduceAdd]));obtain⟨X2,hL2⟩:=kp4 X hL;exact eS
     ·have hQ:=hQo;refine jN5 ?_;(refine jY7 rfl rfl Zev ay ay X hL rfl rfl ?_;intro g w X2 hL2;replace X:=X2;replace hL:=hL2;clear X2 hL2;(simp only[Act.put,zA,zB,zC,zD,zE,zF,zG,Nat.reduceAdd]));refine kB2 rfl rfl ds jZ0 X Zev Zev (X.read mdn) aa aa hL rfl rfl ?_;intro a5 c5 w5 MD5 hO5 X2 hL2;replace X:=X2;replace hL:=hL2;clear X2 hL2;(simp only[Act.put,zA,zB,zC,zD,zE,zF,zG,Nat.reduceAdd]);obtain⟨X2,hL2⟩:=kp5 X hL;exact eS
    clear X;obtain⟨a6,c6,MD6,hO6,X⟩:=hcut;unfold j80 at X;dsimp only at X
    go_wp2_with (first|(refine ZyL ?_)| (refine ZyS ?_;clear X;intro w X)| (refine ZyA ?_;clear X;intro g w X))
    have X9:=((X.ownEnd (L:=[_,_,_]) hO6).addEmpty pst hmx).addNil;refine j93 rfl (.tmp rfl rfl) X (.tail _ (.head _)) rfl rfl ?_
    first|refine RMa ?_ rfl|refine RMb ?_ rfl
    exact RMk (v:={v with sf:=⟨as2,cs2⟩,wr:=⟨aw2,cw2⟩,st:=⟨pst,v.st.c-1⟩,dn:=⟨a6,c6⟩,sm:=j23,sd:=j23,sr:=j23}) (j:={j with disk:=D,steps:=[],work:=0,last:=j.sealed.seq,done:=j.done++ [j.sealed],sealed:=j2_ 0}) [_,_] X9 ⟨by rw[jC,hm.out.dmap,<-hy];rfl,hm.out.fmap,k66 hm.out.dfit (by rw[<-hy];exact⟨by show j.sealed.mt.length<=_;omega,by show j.sealed.dt.length<=_;omega,by show j.sealed.rev.length<=_;omega⟩),hm.out.ffit,hI2,⟨hm.out.sz.1,iq _⟩⟩ (j34 (.tail _ (.tail _ (.head _))) (j7_ Zfl Zfl Zfl Zfl Zfl Zfl Zfl Zfl (.tail _ (.head _)) Zfl (fun r hr=>.tail _ (.tail _ (.tail _ (.tail _ (.tail _ (jG1 r hr)))))) (kS6 (y:=y) (fun r hr=>.tail _ (.tail _ (.tail _ (.tail _ (.tail _ (jD3 r hr)))))) (by rw[<-hy];exact Zfl) (by rw[<-hy];exact Zfl) (by rw[<-hy];exact Zfl)) (fun r hr=>.tail _ (.tail _ (.tail _ (.tail _ (.tail _ (show r∈jY2 v j ds fs++R from ip _ hr))))))))
   ·rw[ii (by rw[h2];decide),ij h2] at hJ2;have hh:=hm.out.inv.home h2;have hdr:j.done.drop j.pending.toNat=[]:=cU;rw[hh,hdr] at hJ2;subst hJ2;have hw3:(j.work==1)=false:=by rw[h2];rfl
    have hw4:(j.work==2)=true:=by rw[h2];rfl
    clear hwk h2 hp hul hne hh hdr
    go_wp2_with (first|(refine ZyL ?_)| (refine ZyS ?_;clear X;intro w X)| (refine ZyA ?_;clear X;intro g w X))
    have X9:=(X.addEmpty pst hmx).addNil;refine j93 rfl (.tmp rfl rfl) X (.tail _ (.head _)) rfl rfl ?_
    first|refine RMa ?_ rfl|refine RMb ?_ rfl
    exact RMk (v:={v with sf:=⟨as2,cs2⟩,wr:=⟨aw2,cw2⟩,st:=⟨pst,v.st.c-1⟩,dn:=j23}) (j:={j with disk:=D,steps:=[],work:=0,ring:=⟨j.ring.head,0⟩,done:=[],used:=j.used.drop j.pending.toNat,after:=⟨j.ring.head,0⟩}) [_,_] X9 ⟨rfl,hm.out.fmap,(fun x hx=>cI),hm.out.ffit,hI2,⟨hm.out.sz.1,iq _⟩⟩ (ds:=[]) (j34 (.head _) (j7_ Zfl Zfl Zfl Zfl Zfl Zfl Zfl Zfl (.tail _ (.head _)) Zfl (fun r hr=>.tail _ (.tail _ (.tail _ (.tail _ (jG1 r hr))))) (fun r hr=>by cases hr) (fun r hr=>.tail _ (.tail _ (.tail _ (.tail _ (show r∈jY2 v j ds fs++R from ip _ hr)))))))
   ·rw[ii (by rw[h3];decide),ii (by rw[h3];decide),ij h3] at hJ2;unfold kE0 at hJ2;dsimp only at hJ2;subst hJ2;have hw3:(j.work==1)=false:=by rw[h3];rfl
    have hw4:(j.work==2)=false:=by rw[h3];rfl
    have hw5:(j.work==3)=true:=by rw[h3];rfl
    have hlen:j.found.txns.length=fs.length:=by rw[<-hm.out.fmap,iZ]
    have hfl:=hsz.out.found;have hwr:IntKind.i64.wrap (j.found.next-1)=j.found.next-1:=iz _ aa;have hft:kj2 tvC (.slice v.ft.a j.found.txns.length v.ft.c) fs∈(ji8 as2 cs2 aw2 cw2 D++(jY2 v j ds fs++R)):=Zfl;have hin:∀r∈inR fs,r∈(ji8 as2 cs2 aw2 cw2 D++(jY2 v j ds fs++R)):=fun r hr=>.tail _ (.tail _ (jG1 r hr));have hat:=fun(m:Nat) (hm:m<j.found.txns.length) (b:Int)=>kE1 hm b;have hgg:=fun(m:Nat) (hm:m<j.found.txns.length)=>jW0 (hgd _ (iM hm));have hfe:∀(m:Nat) (h:m<fs.length) (h2:m<j.found.txns.length),j.found.txns[m]=fs[m].t:=fun m h h2=>by simp only[<-hm.out.fmap,kv]
    have hAm:=fun l b v w h hl=>K.among l b v w h hl;have hIn:=fun l b v w h hl=>K.inn l b v w h hl;generalize hG:riseR j.found.txns=G at*;have hGf:∀b,G b=riseR (j.found.txns.take fs.length) b:=fun b=>by rw[<-hlen,iY,hG]
    clear hwk h3 hgd;rw[hlen] at X hft;replace hI2:=hid hI2;replace hat:=hid hat;replace hgg:=hid hgg;replace hfe:=hid hfe;replace hAm:=hid hAm;replace hIn:=hid hIn;replace hGf:=hid hGf;replace hin:=hid hin;replace hlen:=hid hlen
    go_upto_region 22 with (first|(refine ZyL ?_)| (refine ZyS ?_;clear X;intro w X)| (refine ZyA ?_;clear X;intro g w X))
    (refine j__ 4 [20] [20] [4,6,9,12,17] [0,1,2,3,4,5,6,7,8,9,10,11,12,13,14,15,16,17,18,19,20] X ?_;clear X;intro hQ X hL;simp only[zF,zG] at hL;simp only[zF,zG]);refine Zm ?_;refine Zm ?_;refine Zn ?_;refine Zf ?_;refine Zl ?_;refine Zf ?_;refine Zl ?_;refine Zg ?_;refine Zf ?_;refine Zl ?_;refine Zg ?_;refine Zf ?_;refine Zl ?_;refine Zg ?_;refine Zm ?_;refine Zn ?_;refine Zf ?_;refine Zl ?_;refine Zg ?_;refine Zn ?_;(refine Zb ?_;clear X;intro w X);refine j90 ?_
    go_wp2_with (first|(refine ZyL ?_)| (refine ZyS ?_;clear X;intro w X)| (refine ZyA ?_;clear X;intro g w X))
    obtain⟨g5,g3',g2',rfl,rfl,rfl⟩:=X.nm3;have X9:=X.sub (List.Sublist.cons_cons _ (List.Sublist.cons _ (kQ _)));clear X
    go_loopw [141] (fun i wr=>∃q:Nat,q<=12/\i=.int .i64 q/\St S w0 wr (⟨g5,[.slice v.ft.a fs.length v.ft.c,.int .i64 j.found.next,.int .i64 j.found.at_],56⟩::⟨g2',[.int .i64 0,.int .i64 0,.string ⟨#[]⟩],32⟩::⟨gj,j80 (jW9 ⟨as2,cs2⟩ ⟨aw2,cw2⟩) {jY0 D (j.found.next-1) j.acts with ring:=⟨j.found.at_,0⟩,now:=j2_ j.found.next,roles:=upF G q},58⟩::L) (ji8 as2 cs2 aw2 cw2 D++(jY2 v j ds fs++R))) (fun i _=>12-(intOf i).toNat)
    case atStart=>exact⟨0,iq _,rfl,X9⟩
    case round=>
     clear X9;obtain⟨q,hq,rfl,X⟩:=hrel;by_cases hb12:q<12
     ·have hb12d:decide ((q:Int)<12)=true:=iG aa;unfold j80 jW9 at X;dsimp only[jY0,j2_,jW1,j23,kC2,iC] at X
      go_upto_region 27 with (first|(refine j66 rfl ?_;refine j10 rfl ?_;refine j11 rfl _ _ _ rfl rfl Zev X rfl rfl Zpv ?_;intro w X2;replace X:=X2;clear X2;(simp only[Act.put,zA,zB,zC,zD,zE,zF,zG,Nat.reduceAdd])))
      have hu:=jX5 (jW9 ⟨as2,cs2⟩ ⟨aw2,cw2⟩) {jY0 D (j.found.next-1) j.acts with ring:=⟨j.found.at_,0⟩,now:=j2_ j.found.next,roles:=upF G q} hb12 1;unfold j80 jW9 at hu;dsimp only[jY0,j2_,jW1,j23,kC2,iC] at hu;rw[hu] at X;clear hu
      go_wp2_with (first|(refine ZyL ?_)| (refine ZyS ?_;clear X;intro w X)| (refine ZyA ?_;clear X;intro g w X))
      go_loopw [8,152] (fun _ i w2=>∃m:Nat,m<=fs.length/\i=.int .i64 m/\St S w0 w2 (⟨g5,[.slice v.ft.a fs.length v.ft.c,.int .i64 j.found.next,.int .i64 j.found.at_],56⟩::⟨g2',[.int .i64 0,.int .i64 0,.string ⟨#[]⟩],32⟩::⟨gj,j80 (jW9 ⟨as2,cs2⟩ ⟨aw2,cw2⟩) {jY0 D (j.found.next-1) j.acts with ring:=⟨j.found.at_,0⟩,now:=j2_ j.found.next,roles:=jV_ (upF G q) q (riseR (j.found.txns.take m) q)},58⟩::L) (ji8 as2 cs2 aw2 cw2 D++(jY2 v j ds fs++R))) (fun _ i _=>fs.length-(intOf i).toNat)
      case atStart=>exact⟨0,iq _,rfl,X⟩
      case round=>
       clear X;obtain⟨m,hmm,rfl,X⟩:=hrel;by_cases hlt:m<fs.length
       ·have hltt:m<j.found.txns.length:=by have:=hlen.out;omega
        have hst:=hat.out m hltt q;have hte:=hfe.out m hlt hltt;have hlg:=hgg.out m hltt;rw[hte] at hst hlg;obtain⟨b4,off4,hb4,c0,c1,c2,c3,c4,c5,c6,c7,c8,c9⟩:=km8 (X.read hft) hlt;obtain⟨e1,e2,e3⟩:=kS5 hlt;have e1:=hin.out _ e1;have e3:=hin.out _ e3;have e2:=hin.out _ e2;obtain⟨am,cm,hm1,_⟩:=(X.read e1).form;obtain⟨ar,cr,hr1,_⟩:=(X.read e3).form;obtain⟨ad,cd,hd1,_⟩:=(X.read e2).form;rw[hm1] at e1 c1;rw[hr1] at e3 c3;rw[hd1] at c2;clear e2 hd1 hte hm1 hr1;rw[hb4] at X⊢;generalize fs[m].t=t at*;generalize riseR (j.found.txns.take m) q=ρ at*;generalize hrn:riseR (j.found.txns.take (m+1)) q=ρN at*;obtain⟨ρ1,hρ⟩:∃ρ1,(if inI t.rev q=true then 0 else ρ)=ρ1:=⟨_,rfl⟩;rw[hρ] at hst;replace hrn:=hid hrn;replace hst:=hid hst;replace hρ:=hid hρ
        go_upto_if 159 with (first|(refine ZyL ?_)| (refine ZyS ?_;clear X;intro w X)| (refine ZyA ?_;clear X;intro g w X)|(go_at_call 50;((with_reducible refine(hAm.out t.rev q _ _ (X.read e3) aa).mono ?_);rintro e w1 ⟨rfl,rfl⟩)))
        obtain⟨g8,rfl⟩:=X.nm1;clear c0 c1 c2 c3 c4 c5 c6 c7 c8 c9
        go_cut [] (fun wx=>St S w0 wx (⟨g8,[.int .i64 t.seq,.slice am t.mt.length cm,.slice ad t.dt.length cd,.slice ar t.rev.length cr,.bool t.h0.on,.int .i64 t.h0.left,.bool t.h1.on,.int .i64 t.h1.left,.bool t.h2.on,.int .i64 t.h2.left],51⟩::⟨g5,[.slice (some ⟨b4,off4,none⟩) fs.length v.ft.c,.int .i64 j.found.next,.int .i64 j.found.at_],56⟩::⟨g2',[.int .i64 0,.int .i64 0,.string ⟨#[]⟩],32⟩::⟨gj,j80 (jW9 ⟨as2,cs2⟩ ⟨aw2,cw2⟩) {jY0 D (j.found.next-1) j.acts with ring:=⟨j.found.at_,0⟩,now:=j2_ j.found.next,roles:=jV_ (upF G q) q ρ1},58⟩::L) (ji8 as2 cs2 aw2 cw2 D++(jY2 v j ds fs++R)))
        case first=>
         have hρ1:=hρ.out
         cases hq1:inI t.rev q
         ·rw[hq1,ii ae] at hρ1;subst hρ1;go_wp2;go_meet;exact X
         ·rw[hq1,ij rfl] at hρ1;subst hρ1;unfold j80 jW9 at X;dsimp only[jY0,j2_,jW1,j23,kC2,iC] at X
          go_wp2_with (first|(refine j66 rfl ?_;refine j10 rfl ?_;refine j11 rfl _ _ _ rfl rfl Zev X rfl rfl Zpv ?_;intro w X2;replace X:=X2;clear X2;(simp only[Act.put,zA,zB,zC,zD,zE,zF,zG,Nat.reduceAdd])))
          have hu:=jX5 (jW9 ⟨as2,cs2⟩ ⟨aw2,cw2⟩) {jY0 D (j.found.next-1) j.acts with ring:=⟨j.found.at_,0⟩,now:=j2_ j.found.next,roles:=jV_ (upF G q) q ρ} hb12 0;unfold j80 jW9 at hu;dsimp only[jY0,j2_,jW1,j23,kC2,iC] at hu;rw[hu] at X;clear hu;go_meet;rw[<-k24 (upF G q) q ρ 0];exact X
        clear X;have X:=hcut;clear hcut
        go_upto_if 168 with (first|(refine ZyL ?_)| (refine ZyS ?_;clear X;intro w X)| (refine ZyA ?_;clear X;intro g w X)|(go_at_call 51;((with_reducible refine(hIn.out t.mt q _ _ (X.read e1) aa).mono ?_);rintro e w1 ⟨rfl,hb1⟩;replace X:=X.call hb1;clear hb1)))
        have hρ1:=hst.out
        cases hq1:hasB t.mt q
        ·rw[hq1,ii ae] at hρ1;subst hρ1;go_wp2;rw[<-hrn.out] at X;go_roundw
         case rel=>(first|exact⟨m+1,aa,an,X.sub (iQ _ _)⟩| ((repeat apply Exists.intro);exact⟨⟨m+1,aa,an,X.sub (iQ _ _)⟩,rfl⟩))
         case measure=>simp[intOf];omega
        ·rw[hq1,ij rfl] at hρ1;subst hρ1;unfold j80 jW9 at X;dsimp only[jY0,j2_,jW1,j23,kC2,iC] at X
         go_wp2_with (first|(refine j66 rfl ?_;refine j10 rfl ?_;refine j11 rfl _ _ _ rfl rfl Zev X rfl rfl Zpv ?_;intro w X2;replace X:=X2;clear X2;(simp only[Act.put,zA,zB,zC,zD,zE,zF,zG,Nat.reduceAdd])))
         have hu:=jX5 (jW9 ⟨as2,cs2⟩ ⟨aw2,cw2⟩) {jY0 D (j.found.next-1) j.acts with ring:=⟨j.found.at_,0⟩,now:=j2_ j.found.next,roles:=jV_ (upF G q) q ρ1} hb12 1;unfold j80 jW9 at hu;dsimp only[jY0,j2_,jW1,j23,kC2,iC] at hu;rw[hu] at X;clear hu;rw[k24] at X;go_roundw
         case rel=>(first|exact⟨m+1,aa,an,by rw[hrn.out];exact X.sub (iQ _ _)⟩| ((repeat apply Exists.intro);exact⟨⟨m+1,aa,an,by rw[hrn.out];exact X.sub (iQ _ _)⟩,rfl⟩))
         case measure=>simp[intOf];omega
       ·obtain rfl:m=fs.length:=by omega
        rw[<-hGf.out q,kD4] at X;go_wp2;go_roundw
        case rel=>(first|exact⟨q+1,aa,an,X⟩| ((repeat apply Exists.intro);exact⟨⟨q+1,aa,an,X⟩,rfl⟩))
        case measure=>simp[intOf];omega
     ·obtain rfl:q=12:=by omega
      have X8:St S w0 wr (⟨g5,[.slice v.ft.a fs.length v.ft.c,.int .i64 j.found.next,.int .i64 j.found.at_],56⟩::⟨g2',[.int .i64 0,.int .i64 0,.string ⟨#[]⟩],32⟩::⟨gj,j80 (jW9 ⟨as2,cs2⟩ ⟨aw2,cw2⟩) {jY0 D (j.found.next-1) j.acts with ring:=⟨j.found.at_,0⟩,now:=j2_ j.found.next,roles:=G},58⟩::L) (ji8 as2 cs2 aw2 cw2 D++(jY2 v j ds fs++R)):=X;clear X;have X:=X8;clear X8
      go_wp2_with (first|(refine ZyL ?_)| (refine ZyS ?_;clear X;intro w X)| (refine ZyA ?_;clear X;intro g w X))
      have X9:=X.addNil;refine j93 rfl (.tmp rfl rfl) X (.tail _ (.head _)) rfl rfl ?_
      first|refine RMa ?_ rfl|refine RMb ?_ rfl
      exact RMk (v:=jW9 ⟨as2,cs2⟩ ⟨aw2,cw2⟩) (j:={jY0 D (j.found.next-1) j.acts with ring:=⟨j.found.at_,0⟩,now:=j2_ j.found.next,roles:=G}) (ds:=[]) (fs:=[]) [_,_] X9 ⟨rfl,rfl,(fun x hx=>cI),(fun x hx=>cI),hI2.out,⟨iq _,iq _⟩⟩ (jl9 rfl rfl rfl rfl rfl (fun r hr=>show r∈jY2 v j ds fs++R from ip _ hr))
end Go.Proofs.YtlecmdajpfkaeaaGreatDoor