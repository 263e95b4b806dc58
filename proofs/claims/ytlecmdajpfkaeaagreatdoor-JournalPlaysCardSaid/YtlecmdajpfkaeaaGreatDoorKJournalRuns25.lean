/- Parts of the proof. -/
import Derived.Test.YtlecmdajpfkaeaaGreatDoorKJournalRuns12
set_option linter.unusedVariables false
set_option linter.unusedSimpArgs false
set_option maxRecDepth 100000
set_option maxHeartbeats 40000000
namespace Wb
open Go Go.RowKit
theorem St.addOTxn{S : List Nat}{w0 w w' : World}{L : List Ent}{R : List Rd}(X : St S w0 w L R)(hb : Below w.heap.size w w'){tc ti : TypeId}{vm vd vr : Value}{t : Txn}(h1 : Own j_3 w.heap.size tc 2 w' vm t.mt)(h2 : Own j_3 w.heap.size tc 2 w' vd t.dt)(h3 : Own j_9 w.heap.size ti 1 w' vr t.rev) :St S w0 w' L (kj2 j_3 vm t.mt::kj2 j_3 vd t.dt::kj2 j_9 vr t.rev::R):=by
 have X1:=X.call hb
 have go:∀{α:Type} {f:α->List Value} {e:TypeId} {c:Nat} {v:Value} {l:List α},Own f w.heap.size e c w' v l->l.flatMap f=[]\/ ∀b,kL2 v=some b->∀e∈L,e.g≠b:=fun ho=>.inr fun b hb e he heq=>by
  have a1:=ho.fresh (iy _) b hb;have a2:=X.lts e he;omega
 exact((X1.addR h3.reads (go h3)).addR h2.reads (go h2)).addR h1.reads (go h1)
theorem St.gt1{S:List Nat}{w0 w:World}{a:Nat}{ca:List Value}{ta:TypeId}{L:List Ent}{R:List Rd}(_:St S w0 w (⟨a,ca,ta⟩::L) R):∃x,x=a:=⟨_,rfl⟩
theorem St.gt2{S:List Nat}{w0 w:World}{a b:Nat}{ca cb:List Value}{ta tb:TypeId}{L:List Ent}{R:List Rd}(_:St S w0 w (⟨a,ca,ta⟩::⟨b,cb,tb⟩::L) R):∃x y,x=a/\y=b:=⟨_,_,rfl,rfl⟩
theorem kP2{t:Txn}{h b:Int}(ho:jt_ t b=false):jM1 t h b=0/\jp1 t h b=t:=by
 have e:jM1 t h b=0:=by unfold jM1;rw[ho];simp
 exact⟨e,by rw[jJ2 e];unfold k43;rw[ho];simp⟩
theorem kP1{t:Txn}{h b:Int}(ho:jt_ t b=true)(hl:¬(j68 t h).left=0):jM1 t h b=0/\jp1 t h b=jk_ t h ⟨(j68 t h).on,(j68 t h).left-1⟩:=by
 have e:jM1 t h b=0:=by unfold jM1;rw[ii (fun x=>hl x.2)]
 exact⟨e,by rw[jJ2 e];unfold k43;rw[ij ho]⟩
theorem k44{t:Txn}{h b:Int}(hn:¬(jt_ t b=true/\(j68 t h).left=0)):jM1 t h b=0/\((hasB t.mt b||inI t.rev b)=true->jp1 t h b=t)/\(hasB t.mt b=false->inI t.rev b=false->jp1 t h b=jk_ t h ⟨(j68 t h).on,(j68 t h).left-1⟩)/\(hasB t.mt b=false->inI t.rev b=false->¬(j68 t h).left=0):=by
 have ho:hasB t.mt b=false->inI t.rev b=false->jt_ t b=true:=fun e1 e2=>by unfold jt_;rw[e1,e2];rfl
 refine⟨?_,fun e=>(kP2 (by unfold jt_;rw[e];rfl)).2,fun e1 e2=>(kP1 (ho e1 e2) (fun h=>hn ⟨ho e1 e2,h⟩)).2,fun e1 e2 h=>hn ⟨ho e1 e2,h⟩⟩
 cases hod:jt_ t b
 ·exact(kP2 hod).1
 ·exact(kP1 hod (fun h=>hn ⟨hod,h⟩)).1
theorem kQ4{t:Txn}{b:Int}(h:jt_ t b=true):hasB t.mt b=false/\inI t.rev b=false:=by
 unfold jt_ at h;revert h
 cases hasB t.mt b<;>cases inI t.rev b<;>decide
theorem k46{t:Txn}{h b:Int}(ho:jt_ t b=true)(hl:(j68 t h).left=0):jM1 t h b=7:=by unfold jM1;rw[ij ⟨ho,hl⟩]
theorem kr_{s:ByteArray}(h:¬s.size=32):((s.size:Int) != 32)=true:=by
 simp only[jd,ne_eq];omega
theorem kr1{s:ByteArray}(h:s.size=32):((s.size:Int) != 32)=false:=by rw[h];rfl
end Wb
namespace Go.Proofs.YtlecmdajpfkaeaaGreatDoor
open Go.RowKit Wb
theorem Zal{A:Prop}(h:A:=by
 clear hgt hT hm hd hr;try clear hbd;clear hAm hWm hWd hRm hRd
 replace hG:=hid hG;replace hB:=hid hB;replace hM:=hid hM;replace hD:=hid hD;replace hV:=hid hV;go_enter Tryz.func64,Tryz.ntmps64
 go_upto_region 1 with (first|(refine Zbx ?_;clear X;intro g w X)|(refine ZyL ?_)| (refine ZyS ?_;clear X;intro w X)| (refine ZyA ?_;clear X;intro g w X))
 go_wp2_with (first|go_skip|(refine ZyL ?_)| (refine ZyS ?_;clear X;intro w X)| (refine ZyA ?_;clear X;intro g w X)|(go_at_call 93;((with_reducible refine(hG.out _ X.below).mono ?_);rintro e w1 ⟨rfl,hb1⟩;replace X:=X.call hb1;clear hb1))|(go_at_call 24;((with_reducible refine(hB.out _).mono ?_);rintro e w1 ⟨rfl,rfl⟩))|(go_at_call 51;((with_reducible refine(hM.out _ X.below).mono ?_);rintro e w1 ⟨rfl,hb1⟩;replace X:=X.call hb1;clear hb1))|(go_at_call 51;((with_reducible refine(hD.out _ X.below).mono ?_);rintro e w1 ⟨rfl,hb1⟩;replace X:=X.call hb1;clear hb1))|(go_at_call 50;((with_reducible refine(hV.out _ X.below).mono ?_);rintro e w1 ⟨rfl,rfl⟩))|(go_at_call 98;((with_reducible refine(hCp.out _ X.below).mono ?_);rintro e w1 ⟨vc,rfl,⟨vm',vd',vr',rfl,p1,p2,p3,_⟩,hb1⟩;obtain⟨am',cm',rfl⟩:=p1.form;obtain⟨ad',cd',rfl⟩:=p2.form;obtain⟨ar',cr',rfl⟩:=p3.form;have f1:=hid (p1.fresh X.mv.size);have f2:=hid (p2.fresh X.mv.size);have f3:=hid (p3.fresh X.mv.size);simp only[j84];replace X:=X.addOTxn hb1 p1 p2 p3;dsimp only at X;clear hb1 p1 p2 p3)))
 first|refine j47 rfl (.tmp rfl rfl) (.tmp rfl rfl) X (.head _) rfl rfl ?_|refine j47 rfl (.tmp rfl rfl) (.tmp rfl rfl) X (.tail _ (.head _)) rfl rfl ?_
 rw[hv.out.1,hv.out.2];exact⟨_,_,_,rfl,.same _ _ _ _ _ _,X.below⟩):A:=h
theorem Zah{A:Prop}(h:A:=by
 rcases h3 with rfl|rfl|rfl<;>(simp only[j68, ↓reduceIte,Int.reduceEq] at ho hx;subst ho;replace hx:=hx.symm;subst hx;exact Zal)):A:=h
theorem Zar{A : Prop}(h : A := by
  simp only[Bool.and_false,Bool.and_true,Bool.false_and,Bool.true_and,Bool.or_self,Bool.or_false,lH,Bool.or_true,Bool.true_or,Bool.false_eq_true, ↓reduceIte,i6] at hs;replace hs:=hid hs;clear hb hQ
  go_wp2_with (first|go_skip|(refine ZyL ?_)| (refine ZyS ?_;clear X;intro w X)| (refine ZyA ?_;clear X;intro g w X)|(go_at_call 50;((with_reducible refine(hAk.out _ X.below).mono ?_);rintro e w1 ⟨rfl,rfl⟩))|(at_builtin;(refine kC9 [_,_,_] rfl _ _ _ rfl 8 j9_ j50 X hO rfl (k:Int) rfl rfl aa aE ?_);intro a7 c7 w7 M7 hO7 X7;simp only[iu,iw] at X7;replace X:=X7;clear X7))
  first
    | (rw [show (G k).length + 1 = (G (k + 1)).length by rw [hs.out]; simp] at X hO7
       rw[<-hs.out] at hO7
       go_roundw
       case rel=>(first|exact⟨k+1,M7,a7,c7,aa,an,hO7,X⟩| ((repeat apply Exists.intro);exact⟨⟨k+1,M7,a7,c7,aa,an,hO7,X⟩,rfl⟩))
       case measure=>simp[intOf];omega)
    | (rw [<- hs.out] at hO X
       go_roundw
       case rel=>(first|exact⟨k+1,M9,a,c,aa,an,hO,X⟩| ((repeat apply Exists.intro);exact⟨⟨k+1,M9,a,c,aa,an,hO,X⟩,rfl⟩))
       case measure=>simp[intOf];omega)):A:=h
theorem Zaw{A:Prop}(h:A:=by
 go_wp2_with (first|(refine ZyL ?_)| (refine ZyS ?_;clear X;intro w X)| (refine ZyA ?_;clear X;intro g w X)|(go_at_call 57;((with_reducible refine(hWm.out _ X.below).mono ?_);rintro e w1 ⟨v4,rfl,ho4,hb4⟩;obtain⟨a4,c4,rfl⟩:=ho4.form;have f4:=hid (ho4.fresh X.mv.size);replace X:=X.addOwn hb4 ho4;clear hb4 ho4)))
 refine j47 rfl (.tmp rfl rfl) (.tmp rfl rfl) X (.tail _ (.head _)) rfl rfl ?_;rw[hv.out.1,hv.out.2];exact⟨_,_,_,rfl,⟨.inr ⟨X.r0,f4.out⟩,.inr ⟨X.read (.tail _ (.tail _ (.tail _ (.head _)))),f2.out⟩,.inr ⟨X.r1,f9.out⟩⟩,X.below⟩):A:=h
theorem Zax{A:Prop}(h:A:=by
 go_upto_region 30 with (first|(refine ZyL ?_)| (refine ZyS ?_;clear X;intro w X)| (refine ZyA ?_;clear X;intro g w X))
 have X9:=X.perm (List.Perm.swap _ _ _);replace X:=X9;have X9:=X.perm ((iP (l₁:=[_,_]) (l₂:=[_])).append_right _);simp only[iu,iw] at X9;replace X:=X9;clear X9;(refine j__ 1 [] [3,7,9,11] [1,5] [0,1,2,4,5,6,3,8,7,9,10,11] X ?_;clear X;intro hQ X hL;simp only[zF,zG] at hL;simp only[zF,zG]);refine Zf ?_;refine Zl ?_;refine Zm ?_;refine Zf ?_;refine Zl ?_;refine Zm ?_;(refine j_0 56 Tryz.func56 (hRm.out _ X.below) ?_;rintro e w1 ⟨v4,rfl,ho4,hb4⟩;obtain⟨a4,c4,rfl⟩:=ho4.form;have f4:=hid (ho4.fresh X.mv.size);replace X:=X.addOwn hb4 ho4;clear hb4 ho4;refine Zce ?_;clear hL;intro hL);refine Zf ?_;(refine j_0 56 Tryz.func56 (hRd.out _ X.below) ?_;rintro e w1 ⟨v5,rfl,ho5,hb5⟩;obtain⟨a5,c5,rfl⟩:=ho5.form;have f5:=hid (ho5.fresh X.mv.size);replace X:=X.addOwn hb5 ho5;clear hb5 ho5;refine Zce ?_;clear hL;intro hL);(refine Zs ?_;clear hL X;intro w X hL);refine Zf ?_;(refine Zs ?_;clear hL X;intro w X hL);refine j90 ?_
 go_wp2_with (first|(refine ZyL ?_)| (refine ZyS ?_;clear X;intro w X)| (refine ZyA ?_;clear X;intro g w X))
 refine j47 rfl (.tmp rfl rfl) (.tmp rfl rfl) X (.tail _ (.head _)) rfl rfl ?_;rw[hv.out.1,hv.out.2];exact⟨_,_,_,rfl,⟨.inr ⟨X.r1,f4.out⟩,.inr ⟨X.r0,f5.out⟩,.inr ⟨X.r2,f9.out⟩⟩,X.below⟩):A:=h
theorem Zan{A:Prop}(h:A:=by
 go_wp2_with (first|go_skip|(refine ZyL ?_)| (refine ZyS ?_;clear X;intro w X)| (refine ZyA ?_;clear X;intro g w X)|(go_at_call 24;((with_reducible refine(hB.out _).mono ?_);rintro e w1 ⟨rfl,rfl⟩)))
 go_meet;exact⟨rfl,dv⟩):A:=h
theorem Zao{A:Prop}(h:A:=by
 go_wp2_with (first|(refine ZyL ?_)| (refine ZyS ?_;clear X;intro w X)| (refine ZyA ?_;clear X;intro g w X))
 go_meet;refine⟨_,_,_,_,_,_,?_,dv⟩;exact hPn.out bv bv):A:=h
theorem ff{A:Prop}(h:A:=by
 have hs:=hsu.out k;have hl:=hle.out k;obtain⟨Q,hQ⟩:∃Q,inI rev (k:Int)=Q:=⟨_,rfl⟩;rw[hQ] at hAk hs;replace hAk:=hid hAk;by_cases hb:(k:Int)=b
 ·have e1:((k:Int)==b)=true:=iT.2 hb;have e2:((k:Int) != b)=false:=by simp[hb]
  rw[e1,e2] at hs;exact Zar
 ·have e1:((k:Int)==b)=false:=ik.2 hb;have e2:((k:Int) != b)=true:=by simp[hb]
  rw[e1,e2] at hs
  cases Q<;>exact Zar):A:=h
theorem fF{A:Prop}(h:A:=by
 rcases h3.out with rfl|rfl|rfl<;>(have ho:=ho.out;have hx:=hx.out;simp only[j68, ↓reduceIte,Int.reduceEq] at ho hx;subst ho;replace hx:=hx.symm;subst hx;rw[hH.out] at X;exact Zao)):A:=h
theorem fO{A:Prop}(h:A:=by
 rcases h3.out with rfl|rfl|rfl<;>(have ho:=ho.out;have hx:=hx.out;simp only[j68, ↓reduceIte,Int.reduceEq] at ho hx;subst ho;replace hx:=hx.symm;subst hx;exact Zan)):A:=h
theorem Zag{A:Prop}(h:A:=by
 obtain⟨M,hMM⟩:∃M,hasB mt b=M:=⟨_,rfl⟩;obtain⟨V,hVV⟩:∃V,inI rev b=V:=⟨_,rfl⟩;rw[hMM] at hM hL hPo hPn;rw[hVV] at hV hL hPo hPn;clear hMM hVV;obtain⟨H,hH⟩:∃H:List Value,H=[.bool o0,.int .i64 x0,.bool o1,.int .i64 x1,.bool o2,.int .i64 x2]:=⟨_,rfl⟩;replace hsu:=hid hsu;replace hle:=hid hle;have hl0:M=false->V=false->(L==0)=false:=fun a c=>ik.2 (hL a c);have hwl:IntKind.i64.wrap (L-1)=L-1:=iz _ aa;clear hgt hT hm hd hr hL;replace hG:=hid hG;replace hB:=hid hB;replace hM:=hid hM;replace hD:=hid hD;replace hV:=hid hV;replace hAm:=hid hAm;replace hWm:=hid hWm;replace hRm:=hid hRm;replace hRd:=hid hRd;replace hl0:=hid hl0;replace hPo:=hid hPo;replace hPn:=hid hPn;replace hH:=hid hH;replace h3:=hid h3;replace ho:=hid ho;replace hx:=hid hx;go_enter Tryz.func64,Tryz.ntmps64
 go_upto_region 1 with (first|(refine Zbx ?_;clear X;intro g w X)|(refine ZyL ?_)| (refine ZyS ?_;clear X;intro w X)| (refine ZyA ?_;clear X;intro g w X))
 go_upto_region 3 with (first|(refine ZyL ?_)| (refine ZyS ?_;clear X;intro w X)| (refine ZyA ?_;clear X;intro g w X)|(go_at_call 93;((with_reducible refine(hG.out _ X.below).mono ?_);rintro e w1 ⟨rfl,hb1⟩;replace X:=X.call hb1;clear hb1)))
 obtain⟨gR,gT,rfl,rfl⟩:=X.gt2
 go_cut [36] (fun s36 wx=>s36=.bool false/\St [] w0 wx (⟨gR,[.int .i64 0,.slice none 0 0,.slice none 0 0,.slice none 0 0,.bool false,.int .i64 0,.bool false,.int .i64 0,.bool false,.int .i64 0],51⟩::⟨gT,.int .i64 seq:: .slice am mt.length cm:: .slice ad dt.length cd:: .slice ar rev.length cr::H,51⟩:: []) [])
 case first=>
  exact fO
 clear X;obtain⟨rfl,X⟩:=hcut;rw[hH.out] at X
 go_upto_region 17 with (first|go_skip|(refine ZyL ?_)| (refine ZyS ?_;clear X;intro w X)| (refine ZyA ?_;clear X;intro g w X)|(go_at_call 93;((with_reducible refine(hG.out _ X.below).mono ?_);rintro e w1 ⟨rfl,hb1⟩;replace X:=X.call hb1;clear hb1))|(go_at_call 24;((with_reducible refine(hB.out _).mono ?_);rintro e w1 ⟨rfl,rfl⟩))|(go_at_call 51;((with_reducible refine(hM.out _ X.below).mono ?_);rintro e w1 ⟨rfl,hb1⟩;replace X:=X.call hb1;clear hb1))|(go_at_call 51;((with_reducible refine(hD.out _ X.below).mono ?_);rintro e w1 ⟨rfl,hb1⟩;replace X:=X.call hb1;clear hb1))|(go_at_call 50;((with_reducible refine(hV.out _ X.below).mono ?_);rintro e w1 ⟨rfl,rfl⟩))|(go_at_call 98;((with_reducible refine(hCp.out _ X.below).mono ?_);rintro e w1 ⟨vc,rfl,⟨vm',vd',vr',rfl,p1,p2,p3,_⟩,hb1⟩;obtain⟨am',cm',rfl⟩:=p1.form;obtain⟨ad',cd',rfl⟩:=p2.form;obtain⟨ar',cr',rfl⟩:=p3.form;have f1:=hid (p1.fresh X.mv.size);have f2:=hid (p2.fresh X.mv.size);have f3:=hid (p3.fresh X.mv.size);simp only[j84];replace X:=X.addOTxn hb1 p1 p2 p3;dsimp only at X;clear hb1 p1 p2 p3)))
 obtain⟨gO,rfl⟩:=X.gt1
 go_cut [97] (fun s97 wx=>s97=.bool (!M&& !V)/\St [] w0 wx (⟨gO,.int .i64 seq:: .slice am' mt.length cm':: .slice ad' dt.length cd':: .slice ar' rev.length cr'::H,51⟩::⟨gR,[.int .i64 0,.slice none 0 0,.slice none 0 0,.slice none 0 0,.bool false,.int .i64 0,.bool false,.int .i64 0,.bool false,.int .i64 0],51⟩::⟨gT,.int .i64 seq:: .slice am mt.length cm:: .slice ad dt.length cd:: .slice ar rev.length cr::H,51⟩:: []) [kj2 j_3 (.slice am' mt.length cm') mt,kj2 j_3 (.slice ad' dt.length cd') dt,kj2 j_9 (.slice ar' rev.length cr') rev])
 case first=>
  cases M<;>cases V
  all_goals
   go_wp2_with (first|go_skip|(refine ZyL ?_)| (refine ZyS ?_;clear X;intro w X)| (refine ZyA ?_;clear X;intro g w X)|(go_at_call 51;((with_reducible refine(hM.out _ X.below).mono ?_);rintro e w1 ⟨rfl,hb1⟩;replace X:=X.call hb1;clear hb1))|(go_at_call 50;((with_reducible refine(hV.out _ X.below).mono ?_);rintro e w1 ⟨rfl,rfl⟩)))
   go_meet
   exact⟨rfl,dv⟩
 clear X;obtain⟨rfl,X⟩:=hcut
 go_upto_if 97 with (first|(refine ZyL ?_)| (refine ZyS ?_;clear X;intro w X)| (refine ZyA ?_;clear X;intro g w X))
 go_cut [] (fun wx=>∃(p0 p1 p2:Bool) (y0 y1 y2:Int),jp1 ⟨seq,mt,dt,rev,⟨o0,x0⟩,⟨o1,x1⟩,⟨o2,x2⟩⟩ h b=⟨seq,mt,dt,rev,⟨p0,y0⟩,⟨p1,y1⟩,⟨p2,y2⟩⟩/\St [] w0 wx (⟨gO,[.int .i64 seq,.slice am' mt.length cm',.slice ad' dt.length cd',.slice ar' rev.length cr',.bool p0,.int .i64 y0,.bool p1,.int .i64 y1,.bool p2,.int .i64 y2],51⟩::⟨gR,[.int .i64 0,.slice none 0 0,.slice none 0 0,.slice none 0 0,.bool false,.int .i64 0,.bool false,.int .i64 0,.bool false,.int .i64 0],51⟩::⟨gT,.int .i64 seq:: .slice am mt.length cm:: .slice ad dt.length cd:: .slice ar rev.length cr::H,51⟩:: []) [kj2 j_3 (.slice am' mt.length cm') mt,kj2 j_3 (.slice ad' dt.length cd') dt,kj2 j_9 (.slice ar' rev.length cr') rev])
 case first=>
  cases M<;>cases V
  ·have hl0:=hl0.out bv bv;exact fF
  all_goals
   rw[hH.out] at X
   go_wp2
   go_meet
   exact⟨_,_,_,_,_,_,hPo.out bv,dv⟩
 clear X hPo hPn;obtain⟨p0,p1,p2,y0,y1,y2,hy,X⟩:=hcut;rw[hH.out] at X;replace hy:=hid hy
 go_wp2_with (first|(refine ZyL ?_)| (refine ZyS ?_;clear X;intro w X)| (refine ZyA ?_;clear X;intro g w X))
 go_loopw [115] (fun i wr=>∃(k:Nat) (M9:List Ent) (a:Option Addr) (c:Nat),k<=12/\i=.int .i64 k/\j4_ j_9 3 1 (.slice a (G k).length c) (G k) M9/\St [] w0 wr (⟨gO,[.int .i64 seq,.slice am' mt.length cm',.slice ad' dt.length cd',.slice a (G k).length c,.bool p0,.int .i64 y0,.bool p1,.int .i64 y1,.bool p2,.int .i64 y2],51⟩::⟨gR,[.int .i64 0,.slice none 0 0,.slice none 0 0,.slice none 0 0,.bool false,.int .i64 0,.bool false,.int .i64 0,.bool false,.int .i64 0],51⟩::⟨gT,.int .i64 seq:: .slice am mt.length cm:: .slice ad dt.length cd:: .slice ar rev.length cr::H,51⟩::(M9++ [])) [kj2 j_3 (.slice am' mt.length cm') mt,kj2 j_3 (.slice ad' dt.length cd') dt,kj2 j_9 (.slice ar' rev.length cr') rev]) (fun i _=>12-(intOf i).toNat)
 case atStart=>exact⟨0,[],none,0,ae,rfl,by rw[hrv0];exact .nil _ _ _,by rw[hrv0,hH.out];exact X⟩
 case round=>
  clear X;obtain⟨k,M9,a,c,hk,rfl,hO,X⟩:=hrel;by_cases hlt:k<12
  ·have hAk:=hAm.out (k:Int);exact ff
  ·obtain rfl:k=12:=by omega
   clear hsu hle hrv0;have hv:=hv.out;rw[hy.out] at hv;dsimp only at hv;generalize G 12=G at*;replace hv:=hid hv;have f9:=hid (hO.fresh (L:=[_,_,_]) (T:=[]) X);have X9:=X.ownEnd (L:=[_,_,_]) hO;simp only[iu,iw] at X9;replace X:=X9;clear X9 hO;exact Zaw):A:=h
theorem Zai{A:Prop}(h:A:=by
 obtain⟨M,hMM⟩:∃M,hasB mt b=M:=⟨_,rfl⟩;have hVV:=hqr;rw[hMM] at hM hL hPo hPn;rw[hVV] at hV hL hPo hPn;clear hMM hVV;obtain⟨H,hH⟩:∃H:List Value,H=[.bool o0,.int .i64 x0,.bool o1,.int .i64 x1,.bool o2,.int .i64 x2]:=⟨_,rfl⟩;replace hsu:=hid hsu;replace hle:=hid hle;have hl0:M=false->(false:Bool)=false->(L==0)=false:=fun a c=>ik.2 (hL a c);have hwl:IntKind.i64.wrap (L-1)=L-1:=iz _ aa;clear hgt hT hm hd hr hL;replace hG:=hid hG;replace hB:=hid hB;replace hM:=hid hM;replace hD:=hid hD;replace hV:=hid hV;replace hAm:=hid hAm;replace hWm:=hid hWm;replace hRm:=hid hRm;replace hRd:=hid hRd;replace hl0:=hid hl0;replace hPo:=hid hPo;replace hPn:=hid hPn;replace hH:=hid hH;replace h3:=hid h3;replace ho:=hid ho;replace hx:=hid hx;go_enter Tryz.func64,Tryz.ntmps64
 go_upto_region 1 with (first|(refine Zbx ?_;clear X;intro g w X)|(refine ZyL ?_)| (refine ZyS ?_;clear X;intro w X)| (refine ZyA ?_;clear X;intro g w X))
 go_upto_region 3 with (first|(refine ZyL ?_)| (refine ZyS ?_;clear X;intro w X)| (refine ZyA ?_;clear X;intro g w X)|(go_at_call 93;((with_reducible refine(hG.out _ X.below).mono ?_);rintro e w1 ⟨rfl,hb1⟩;replace X:=X.call hb1;clear hb1)))
 obtain⟨gR,gT,rfl,rfl⟩:=X.gt2
 go_cut [36] (fun s36 wx=>s36=.bool false/\St [] w0 wx (⟨gR,[.int .i64 0,.slice none 0 0,.slice none 0 0,.slice none 0 0,.bool false,.int .i64 0,.bool false,.int .i64 0,.bool false,.int .i64 0],51⟩::⟨gT,.int .i64 seq:: .slice am mt.length cm:: .slice ad dt.length cd:: .slice ar rev.length cr::H,51⟩:: []) [])
 case first=>
  exact fO
 clear X;obtain⟨rfl,X⟩:=hcut;rw[hH.out] at X
 go_upto_region 17 with (first|go_skip|(refine ZyL ?_)| (refine ZyS ?_;clear X;intro w X)| (refine ZyA ?_;clear X;intro g w X)|(go_at_call 93;((with_reducible refine(hG.out _ X.below).mono ?_);rintro e w1 ⟨rfl,hb1⟩;replace X:=X.call hb1;clear hb1))|(go_at_call 24;((with_reducible refine(hB.out _).mono ?_);rintro e w1 ⟨rfl,rfl⟩))|(go_at_call 51;((with_reducible refine(hM.out _ X.below).mono ?_);rintro e w1 ⟨rfl,hb1⟩;replace X:=X.call hb1;clear hb1))|(go_at_call 51;((with_reducible refine(hD.out _ X.below).mono ?_);rintro e w1 ⟨rfl,hb1⟩;replace X:=X.call hb1;clear hb1))|(go_at_call 50;((with_reducible refine(hV.out _ X.below).mono ?_);rintro e w1 ⟨rfl,rfl⟩))|(go_at_call 98;((with_reducible refine(hCp.out _ X.below).mono ?_);rintro e w1 ⟨vc,rfl,⟨vm',vd',vr',rfl,p1,p2,p3,_⟩,hb1⟩;obtain⟨am',cm',rfl⟩:=p1.form;obtain⟨ad',cd',rfl⟩:=p2.form;obtain⟨ar',cr',rfl⟩:=p3.form;have f1:=hid (p1.fresh X.mv.size);have f2:=hid (p2.fresh X.mv.size);have f3:=hid (p3.fresh X.mv.size);simp only[j84];replace X:=X.addOTxn hb1 p1 p2 p3;dsimp only at X;clear hb1 p1 p2 p3)))
 obtain⟨gO,rfl⟩:=X.gt1
 go_cut [97] (fun s97 wx=>s97=.bool (!M&& !false)/\St [] w0 wx (⟨gO,.int .i64 seq:: .slice am' mt.length cm':: .slice ad' dt.length cd':: .slice ar' rev.length cr'::H,51⟩::⟨gR,[.int .i64 0,.slice none 0 0,.slice none 0 0,.slice none 0 0,.bool false,.int .i64 0,.bool false,.int .i64 0,.bool false,.int .i64 0],51⟩::⟨gT,.int .i64 seq:: .slice am mt.length cm:: .slice ad dt.length cd:: .slice ar rev.length cr::H,51⟩:: []) [kj2 j_3 (.slice am' mt.length cm') mt,kj2 j_3 (.slice ad' dt.length cd') dt,kj2 j_9 (.slice ar' rev.length cr') rev])
 case first=>
  cases M
  all_goals
   go_wp2_with (first|go_skip|(refine ZyL ?_)| (refine ZyS ?_;clear X;intro w X)| (refine ZyA ?_;clear X;intro g w X)|(go_at_call 51;((with_reducible refine(hM.out _ X.below).mono ?_);rintro e w1 ⟨rfl,hb1⟩;replace X:=X.call hb1;clear hb1))|(go_at_call 50;((with_reducible refine(hV.out _ X.below).mono ?_);rintro e w1 ⟨rfl,rfl⟩)))
   go_meet
   exact⟨rfl,dv⟩
 clear X;obtain⟨rfl,X⟩:=hcut
 go_upto_if 97 with (first|(refine ZyL ?_)| (refine ZyS ?_;clear X;intro w X)| (refine ZyA ?_;clear X;intro g w X))
 go_cut [] (fun wx=>∃(p0 p1 p2:Bool) (y0 y1 y2:Int),jp1 ⟨seq,mt,dt,rev,⟨o0,x0⟩,⟨o1,x1⟩,⟨o2,x2⟩⟩ h b=⟨seq,mt,dt,rev,⟨p0,y0⟩,⟨p1,y1⟩,⟨p2,y2⟩⟩/\St [] w0 wx (⟨gO,[.int .i64 seq,.slice am' mt.length cm',.slice ad' dt.length cd',.slice ar' rev.length cr',.bool p0,.int .i64 y0,.bool p1,.int .i64 y1,.bool p2,.int .i64 y2],51⟩::⟨gR,[.int .i64 0,.slice none 0 0,.slice none 0 0,.slice none 0 0,.bool false,.int .i64 0,.bool false,.int .i64 0,.bool false,.int .i64 0],51⟩::⟨gT,.int .i64 seq:: .slice am mt.length cm:: .slice ad dt.length cd:: .slice ar rev.length cr::H,51⟩:: []) [kj2 j_3 (.slice am' mt.length cm') mt,kj2 j_3 (.slice ad' dt.length cd') dt,kj2 j_9 (.slice ar' rev.length cr') rev])
 case first=>
  cases M
  ·have hl0:=hl0.out bv bv;exact fF
  all_goals
   rw[hH.out] at X
   go_wp2
   go_meet
   exact⟨_,_,_,_,_,_,hPo.out bv,dv⟩
 clear X hPo hPn;obtain⟨p0,p1,p2,y0,y1,y2,hy,X⟩:=hcut;rw[hH.out] at X;replace hy:=hid hy
 go_wp2_with (first|(refine ZyL ?_)| (refine ZyS ?_;clear X;intro w X)| (refine ZyA ?_;clear X;intro g w X))
 go_loopw [115] (fun i wr=>∃(k:Nat) (M9:List Ent) (a:Option Addr) (c:Nat),k<=12/\i=.int .i64 k/\j4_ j_9 3 1 (.slice a (G k).length c) (G k) M9/\St [] w0 wr (⟨gO,[.int .i64 seq,.slice am' mt.length cm',.slice ad' dt.length cd',.slice a (G k).length c,.bool p0,.int .i64 y0,.bool p1,.int .i64 y1,.bool p2,.int .i64 y2],51⟩::⟨gR,[.int .i64 0,.slice none 0 0,.slice none 0 0,.slice none 0 0,.bool false,.int .i64 0,.bool false,.int .i64 0,.bool false,.int .i64 0],51⟩::⟨gT,.int .i64 seq:: .slice am mt.length cm:: .slice ad dt.length cd:: .slice ar rev.length cr::H,51⟩::(M9++ [])) [kj2 j_3 (.slice am' mt.length cm') mt,kj2 j_3 (.slice ad' dt.length cd') dt,kj2 j_9 (.slice ar' rev.length cr') rev]) (fun i _=>12-(intOf i).toNat)
 case atStart=>exact⟨0,[],none,0,ae,rfl,by rw[hrv0];exact .nil _ _ _,by rw[hrv0,hH.out];exact X⟩
 case round=>
  clear X;obtain⟨k,M9,a,c,hk,rfl,hO,X⟩:=hrel;by_cases hlt:k<12
  ·have hAk:=hAm.out (k:Int);exact ff
  ·obtain rfl:k=12:=by omega
   clear hsu hle hrv0;have hv:=hv.out;rw[hy.out] at hv;dsimp only at hv;generalize G 12=G at*;replace hv:=hid hv;have f9:=hid (hO.fresh (L:=[_,_,_]) (T:=[]) X);have X9:=X.ownEnd (L:=[_,_,_]) hO;simp only[iu,iw] at X9;replace X:=X9;clear X9 hO;exact Zax):A:=h
theorem Zaf{A:Prop}(h:A:=by
 rcases h3 with rfl|rfl|rfl
 all_goals
  simp only[j68, ↓reduceIte,Int.reduceEq] at ho hx
  subst ho;replace hx:=hx.symm;subst hx
  clear hgt hT hm hd hr hAm hWm hRm hRd hLb
  replace hG:=hid hG;replace hB:=hid hB;replace hM:=hid hM;replace hD:=hid hD;replace hV:=hid hV;replace hWd:=hid hWd
  go_enter Tryz.func64,Tryz.ntmps64
  go_upto_region 1 with (first|(refine Zbx ?_;clear X;intro g w X)|(refine ZyL ?_)| (refine ZyS ?_;clear X;intro w X)| (refine ZyA ?_;clear X;intro g w X))
  go_wp2_with (first|(go_at_call 57;((with_reducible refine(hWd.out _ X.below).mono ?_);rintro e w1 ⟨v4,rfl,ho4,hb4⟩;obtain⟨a4,c4,rfl⟩:=ho4.form;have f4:=hid (ho4.fresh X.mv.size);replace X:=X.addOwn hb4 ho4;clear hb4 ho4))|go_skip|(refine ZyL ?_)| (refine ZyS ?_;clear X;intro w X)| (refine ZyA ?_;clear X;intro g w X)|(go_at_call 93;((with_reducible refine(hG.out _ X.below).mono ?_);rintro e w1 ⟨rfl,hb1⟩;replace X:=X.call hb1;clear hb1))|(go_at_call 24;((with_reducible refine(hB.out _).mono ?_);rintro e w1 ⟨rfl,rfl⟩))|(go_at_call 51;((with_reducible refine(hM.out _ X.below).mono ?_);rintro e w1 ⟨rfl,hb1⟩;replace X:=X.call hb1;clear hb1))|(go_at_call 51;((with_reducible refine(hD.out _ X.below).mono ?_);rintro e w1 ⟨rfl,hb1⟩;replace X:=X.call hb1;clear hb1))|(go_at_call 50;((with_reducible refine(hV.out _ X.below).mono ?_);rintro e w1 ⟨rfl,rfl⟩))|(go_at_call 98;((with_reducible refine(hCp.out _ X.below).mono ?_);rintro e w1 ⟨vc,rfl,⟨vm',vd',vr',rfl,p1,p2,p3,_⟩,hb1⟩;obtain⟨am',cm',rfl⟩:=p1.form;obtain⟨ad',cd',rfl⟩:=p2.form;obtain⟨ar',cr',rfl⟩:=p3.form;have f1:=hid (p1.fresh X.mv.size);have f2:=hid (p2.fresh X.mv.size);have f3:=hid (p3.fresh X.mv.size);simp only[j84];replace X:=X.addOTxn hb1 p1 p2 p3;dsimp only at X;clear hb1 p1 p2 p3)))
  refine j47 rfl (.tmp rfl rfl) (.tmp rfl rfl) X (.tail _ (.head _)) rfl rfl ?_
  rw[hv.out.1,hv.out.2]
  exact⟨_,_,_,rfl,⟨.inr ⟨X.read (.tail _ (.head _)),f1.out⟩,.inr ⟨X.r0,f4.out⟩,.inr ⟨X.read (.tail _ (.tail _ (.tail _ (.head _)))),f3.out⟩⟩,X.below⟩):A:=h
theorem fy{A:Prop}(h:A:=by
 have hbd:=hbd hgt;rcases h3 with rfl|rfl|rfl<;>(simp only[j68, ↓reduceIte,Int.reduceEq] at hx;omega)):A:=h
theorem fJ{A:Prop}(h:A:=by
 rw[p7] at hv;replace hv:=hid hv;obtain⟨m1,m2⟩:=kQ4 hn.1;rw[m1] at hM;rw[m2] at hV;have hl0:(L==0)=true:=iT.2 (by rw[<-hx];exact hn.2);clear m1 m2 hn p7;exact Zah):A:=h
theorem k91(K : Int)(hK : K = 0)(t : Txn)(h b : Int)(s : ByteArray)(vm vd vr : Value)(w0 : World)(ht : j17 w0 (j84 t vm vd vr) t) :Calls Tryz.prog 64 #[.int .i64 K,j84 t vm vd vr,.int .i64 h,.int .i64 b,.string s] w0 fun e w'=>∃vm' vd' vr',e=.returned (.tuple #[j84 (alT K t h b s) vm' vd' vr',.int .i64 (alE K t h b s)])/\NewT w0.heap.size w' vm vd vr vm' vd' vr' t (alT K t h b s)/\Below w0.heap.size w0 w':=by
 have hT:=ht;obtain⟨vm',vd',vr',hvv,hm,hd,hr,n1,n2,n3⟩:=ht;simp only[j84,jo,jt,jh,jy,jF] at hvv;obtain⟨rfl,rfl,rfl⟩:=hvv;obtain⟨am,cm,rfl,_⟩:=hm.form;obtain⟨ad,cd,rfl,_⟩:=hd.form;obtain⟨ar,cr,rfl,_⟩:=hr.form;have hCp:=fun w' (hb:Below w0.heap.size w0 w')=>jL5 _ _ w' (hT.below hb);have hG:=fun w' (hb:Below w0.heap.size w0 w')=>j3_ _ _ w' (hT.below hb);have hB:=fun w'=>j03 b w';have hM:=fun w' (hb:Below w0.heap.size w0 w')=>jw8 t.mt b _ w' (hm.below hb) aa;have hD:=fun w' (hb:Below w0.heap.size w0 w')=>jw8 t.dt b _ w' (hd.below hb) aa;have hAm:=fun x w' (hb:Below w0.heap.size w0 w')=>jQ7 t.rev x _ w' (hr.below hb) aa;have hV:=fun w' (hb:Below w0.heap.size w0 w')=>hAm b w' hb;have hWm:=fun w' (hb:Below w0.heap.size w0 w')=>jS5 t.mt b s _ w' (hm.below hb) aa;have hWd:=fun w' (hb:Below w0.heap.size w0 w')=>jS5 t.dt b s _ w' (hd.below hb) aa;have hRm:=fun(hl:t.mt.length<=12) w' (hb:Below w0.heap.size w0 w')=>jS4 t.mt b _ w' (hm.below hb) aa;have hRd:=fun(hl:t.dt.length<=12) w' (hb:Below w0.heap.size w0 w')=>jS4 t.dt b _ w' (hd.below hb) aa;have hbd:=fun hg=>j01 (t:=t) hg;obtain⟨seq,mt,dt,rev,⟨o0,x0⟩,⟨o1,x1⟩,⟨o2,x2⟩⟩:=t;dsimp only at*;unfold j84 at hCp hG⊢;dsimp only at*;have X:=kk7 [] w0;replace hCp:=hid hCp
 cases hgt:goodT ⟨seq,mt,dt,rev,⟨o0,x0⟩,⟨o1,x1⟩,⟨o2,x2⟩⟩ with
 |false=>
  have hv:=hid (jY1 K 2 s (jm3 (h:=h) (b:=b) hgt) ae)
  rw[hgt] at hG
  exact Zal
 |true=>
  rw[hgt] at hG
  by_cases hlo:h<0
  ·have hv:=hid (jY1 K 4 s (j65 (h:=h) (b:=b) hgt (.inl aa)) ae);exact Zal
  by_cases hhi:2<h
  ·have hv:=hid (jY1 K 4 s (j65 (h:=h) (b:=b) hgt (.inl aa)) ae);exact Zal
  have h3:h=0\/h=1\/h=2:=aa
  have hhh:0<=h/\h<=2:=aa
  clear hlo hhi
  obtain⟨l1,l2,l3⟩:=jg5 (j92.1 hgt)
  dsimp only at l1 l2 l3
  replace hRm:=hRm l1
  replace hRd:=hRd l2
  obtain⟨L,hx⟩:∃L,(j68 ⟨seq,mt,dt,rev,⟨o0,x0⟩,⟨o1,x1⟩,⟨o2,x2⟩⟩ h).left=L:=⟨_,rfl⟩
  have hLb:0<=L/\L<=24:=by
   exact fy
  clear hbd
  cases ho:(j68 ⟨seq,mt,dt,rev,⟨o0,x0⟩,⟨o1,x1⟩,⟨o2,x2⟩⟩ h).on with
  |false=>
   have hv:=hid (jY1 K 4 s (j65 (h:=h) (b:=b) hgt (.inr (.inl ho))) ae)
   exact Zah
  |true=>
  cases hbk:isBlk b with
  |false=>
   have hv:=hid (jY1 K 4 s (j65 (h:=h) (b:=b) hgt (.inr (.inr hbk))) ae)
   rw[hbk] at hB
   exact Zah
  |true=>
  rw[hbk] at hB
  have h0:=jq6 (b:=b) hgt hhh ho hbk
  have hg:=j92.1 hgt
  subst hK
  by_cases hs:s.size=32
  rotate_left
  ·have hv:=hid (show alE 0 ⟨seq,mt,dt,rev,⟨o0,x0⟩,⟨o1,x1⟩,⟨o2,x2⟩⟩ h b s=1/\alT 0 ⟨seq,mt,dt,rev,⟨o0,x0⟩,⟨o1,x1⟩,⟨o2,x2⟩⟩ h b s=⟨seq,mt,dt,rev,⟨o0,x0⟩,⟨o1,x1⟩,⟨o2,x2⟩⟩ from k6_ h0 hs);have hs2:=kr_ hs;clear hs;exact Zah
  have hs2:=kr1 hs
  cases hqd:hasB dt b with
  |true=>
   have hv:=hid (show alE 0 ⟨seq,mt,dt,rev,⟨o0,x0⟩,⟨o1,x1⟩,⟨o2,x2⟩⟩ h b s=8/\alT 0 ⟨seq,mt,dt,rev,⟨o0,x0⟩,⟨o1,x1⟩,⟨o2,x2⟩⟩ h b s=⟨seq,mt,dt,rev,⟨o0,x0⟩,⟨o1,x1⟩,⟨o2,x2⟩⟩ from k61 h0 hs hqd)
   rw[hqd] at hD
   exact Zah
  |false=>
  rw[hqd] at hD
  by_cases hn:jt_ ⟨seq,mt,dt,rev,⟨o0,x0⟩,⟨o1,x1⟩,⟨o2,x2⟩⟩ b=true/\(j68 ⟨seq,mt,dt,rev,⟨o0,x0⟩,⟨o1,x1⟩,⟨o2,x2⟩⟩ h).left=0
  ·have p7:=k46 hn.1 hn.2;have hv:alE 0 ⟨seq,mt,dt,rev,⟨o0,x0⟩,⟨o1,x1⟩,⟨o2,x2⟩⟩ h b s=jM1 ⟨seq,mt,dt,rev,⟨o0,x0⟩,⟨o1,x1⟩,⟨o2,x2⟩⟩ h b/\alT 0 ⟨seq,mt,dt,rev,⟨o0,x0⟩,⟨o1,x1⟩,⟨o2,x2⟩⟩ h b s=⟨seq,mt,dt,rev,⟨o0,x0⟩,⟨o1,x1⟩,⟨o2,x2⟩⟩:=ji0 h0 hs hqd (by rw[p7];decide);exact fJ
  obtain⟨hp,hPo,hPn,hL⟩:=k44 hn
  rw[hx] at hL hPn
  clear hn
  have hpw:=k49 (b:=b) (s:=s) hg.mt hbk hs
  have hof:=kr5 b hg.rev
  dsimp only at hpw hof
  have hsu:=fun n=>je4 false rev b n
  have hle:=fun n=>k36 false rev b n
  have hrv0:revK false rev b 0=[]:=rfl
  have hv:=(show alE 0 ⟨seq,mt,dt,rev,⟨o0,x0⟩,⟨o1,x1⟩,⟨o2,x2⟩⟩ h b s=0/\alT 0 ⟨seq,mt,dt,rev,⟨o0,x0⟩,⟨o1,x1⟩,⟨o2,x2⟩⟩ h b s={jp1 ⟨seq,mt,dt,rev,⟨o0,x0⟩,⟨o1,x1⟩,⟨o2,x2⟩⟩ h b with mt:=jf4 mt b s,rev:=kL7 rev b} from kC_ h0 hs hqd hp)
  dsimp only at hv hPo hPn hL
  rw[hpw,hof] at hv
  generalize revK false rev b=G at*
  replace hv:=hid hv
  exact Zag
theorem k92(K : Int)(hK : K = 1)(t : Txn)(h b : Int)(s : ByteArray)(vm vd vr : Value)(w0 : World)(ht : j17 w0 (j84 t vm vd vr) t) :Calls Tryz.prog 64 #[.int .i64 K,j84 t vm vd vr,.int .i64 h,.int .i64 b,.string s] w0 fun e w'=>∃vm' vd' vr',e=.returned (.tuple #[j84 (alT K t h b s) vm' vd' vr',.int .i64 (alE K t h b s)])/\NewT w0.heap.size w' vm vd vr vm' vd' vr' t (alT K t h b s)/\Below w0.heap.size w0 w':=by
 have hT:=ht;obtain⟨vm',vd',vr',hvv,hm,hd,hr,n1,n2,n3⟩:=ht;simp only[j84,jo,jt,jh,jy,jF] at hvv;obtain⟨rfl,rfl,rfl⟩:=hvv;obtain⟨am,cm,rfl,_⟩:=hm.form;obtain⟨ad,cd,rfl,_⟩:=hd.form;obtain⟨ar,cr,rfl,_⟩:=hr.form;have hCp:=fun w' (hb:Below w0.heap.size w0 w')=>jL5 _ _ w' (hT.below hb);have hG:=fun w' (hb:Below w0.heap.size w0 w')=>j3_ _ _ w' (hT.below hb);have hB:=fun w'=>j03 b w';have hM:=fun w' (hb:Below w0.heap.size w0 w')=>jw8 t.mt b _ w' (hm.below hb) aa;have hD:=fun w' (hb:Below w0.heap.size w0 w')=>jw8 t.dt b _ w' (hd.below hb) aa;have hAm:=fun x w' (hb:Below w0.heap.size w0 w')=>jQ7 t.rev x _ w' (hr.below hb) aa;have hV:=fun w' (hb:Below w0.heap.size w0 w')=>hAm b w' hb;have hWm:=fun w' (hb:Below w0.heap.size w0 w')=>jS5 t.mt b s _ w' (hm.below hb) aa;have hWd:=fun w' (hb:Below w0.heap.size w0 w')=>jS5 t.dt b s _ w' (hd.below hb) aa;have hRm:=fun(hl:t.mt.length<=12) w' (hb:Below w0.heap.size w0 w')=>jS4 t.mt b _ w' (hm.below hb) aa;have hRd:=fun(hl:t.dt.length<=12) w' (hb:Below w0.heap.size w0 w')=>jS4 t.dt b _ w' (hd.below hb) aa;have hbd:=fun hg=>j01 (t:=t) hg;obtain⟨seq,mt,dt,rev,⟨o0,x0⟩,⟨o1,x1⟩,⟨o2,x2⟩⟩:=t;dsimp only at*;unfold j84 at hCp hG⊢;dsimp only at*;have X:=kk7 [] w0;replace hCp:=hid hCp
 cases hgt:goodT ⟨seq,mt,dt,rev,⟨o0,x0⟩,⟨o1,x1⟩,⟨o2,x2⟩⟩ with
 |false=>
  have hv:=hid (jY1 K 2 s (jm3 (h:=h) (b:=b) hgt) ae)
  rw[hgt] at hG
  exact Zal
 |true=>
  rw[hgt] at hG
  by_cases hlo:h<0
  ·have hv:=hid (jY1 K 4 s (j65 (h:=h) (b:=b) hgt (.inl aa)) ae);exact Zal
  by_cases hhi:2<h
  ·have hv:=hid (jY1 K 4 s (j65 (h:=h) (b:=b) hgt (.inl aa)) ae);exact Zal
  have h3:h=0\/h=1\/h=2:=aa
  have hhh:0<=h/\h<=2:=aa
  clear hlo hhi
  obtain⟨l1,l2,l3⟩:=jg5 (j92.1 hgt)
  dsimp only at l1 l2 l3
  replace hRm:=hRm l1
  replace hRd:=hRd l2
  obtain⟨L,hx⟩:∃L,(j68 ⟨seq,mt,dt,rev,⟨o0,x0⟩,⟨o1,x1⟩,⟨o2,x2⟩⟩ h).left=L:=⟨_,rfl⟩
  have hLb:0<=L/\L<=24:=by
   exact fy
  clear hbd
  cases ho:(j68 ⟨seq,mt,dt,rev,⟨o0,x0⟩,⟨o1,x1⟩,⟨o2,x2⟩⟩ h).on with
  |false=>
   have hv:=hid (jY1 K 4 s (j65 (h:=h) (b:=b) hgt (.inr (.inl ho))) ae)
   exact Zah
  |true=>
  cases hbk:isBlk b with
  |false=>
   have hv:=hid (jY1 K 4 s (j65 (h:=h) (b:=b) hgt (.inr (.inr hbk))) ae)
   rw[hbk] at hB
   exact Zah
  |true=>
  rw[hbk] at hB
  have h0:=jq6 (b:=b) hgt hhh ho hbk
  have hg:=j92.1 hgt
  subst hK
  by_cases hs:s.size=32
  rotate_left
  ·have hv:=hid (show alE 1 ⟨seq,mt,dt,rev,⟨o0,x0⟩,⟨o1,x1⟩,⟨o2,x2⟩⟩ h b s=1/\alT 1 ⟨seq,mt,dt,rev,⟨o0,x0⟩,⟨o1,x1⟩,⟨o2,x2⟩⟩ h b s=⟨seq,mt,dt,rev,⟨o0,x0⟩,⟨o1,x1⟩,⟨o2,x2⟩⟩ from jn0 h0 hs);have hs2:=kr_ hs;clear hs;exact Zah
  have hs2:=kr1 hs
  cases hqm:hasB mt b with
  |true=>
   have hv:=hid (show alE 1 ⟨seq,mt,dt,rev,⟨o0,x0⟩,⟨o1,x1⟩,⟨o2,x2⟩⟩ h b s=8/\alT 1 ⟨seq,mt,dt,rev,⟨o0,x0⟩,⟨o1,x1⟩,⟨o2,x2⟩⟩ h b s=⟨seq,mt,dt,rev,⟨o0,x0⟩,⟨o1,x1⟩,⟨o2,x2⟩⟩ from jC6 h0 hs (by simp[hqm]))
   rw[hqm] at hM
   exact Zah
  |false=>
  rw[hqm] at hM
  cases hqr:inI rev b with
  |true=>
   have hv:=hid (show alE 1 ⟨seq,mt,dt,rev,⟨o0,x0⟩,⟨o1,x1⟩,⟨o2,x2⟩⟩ h b s=8/\alT 1 ⟨seq,mt,dt,rev,⟨o0,x0⟩,⟨o1,x1⟩,⟨o2,x2⟩⟩ h b s=⟨seq,mt,dt,rev,⟨o0,x0⟩,⟨o1,x1⟩,⟨o2,x2⟩⟩ from jC6 h0 hs (by simp[hqr]))
   rw[hqr] at hV
   exact Zah
  |false=>
  rw[hqr] at hV
  have hpw:=k49 (b:=b) (s:=s) hg.dt hbk hs
  dsimp only at hpw
  have hv:=(show alE 1 ⟨seq,mt,dt,rev,⟨o0,x0⟩,⟨o1,x1⟩,⟨o2,x2⟩⟩ h b s=0/\alT 1 ⟨seq,mt,dt,rev,⟨o0,x0⟩,⟨o1,x1⟩,⟨o2,x2⟩⟩ h b s=⟨seq,mt,jf4 dt b s,rev,⟨o0,x0⟩,⟨o1,x1⟩,⟨o2,x2⟩⟩ from kC0 h0 hs (by simp[hqm,hqr]))
  rw[hpw] at hv
  replace hv:=hid hv
  exact Zaf
theorem k93(K : Int)(hK : K = 2)(t : Txn)(h b : Int)(s : ByteArray)(vm vd vr : Value)(w0 : World)(ht : j17 w0 (j84 t vm vd vr) t) :Calls Tryz.prog 64 #[.int .i64 K,j84 t vm vd vr,.int .i64 h,.int .i64 b,.string s] w0 fun e w'=>∃vm' vd' vr',e=.returned (.tuple #[j84 (alT K t h b s) vm' vd' vr',.int .i64 (alE K t h b s)])/\NewT w0.heap.size w' vm vd vr vm' vd' vr' t (alT K t h b s)/\Below w0.heap.size w0 w':=by
 have hT:=ht;obtain⟨vm',vd',vr',hvv,hm,hd,hr,n1,n2,n3⟩:=ht;simp only[j84,jo,jt,jh,jy,jF] at hvv;obtain⟨rfl,rfl,rfl⟩:=hvv;obtain⟨am,cm,rfl,_⟩:=hm.form;obtain⟨ad,cd,rfl,_⟩:=hd.form;obtain⟨ar,cr,rfl,_⟩:=hr.form;have hCp:=fun w' (hb:Below w0.heap.size w0 w')=>jL5 _ _ w' (hT.below hb);have hG:=fun w' (hb:Below w0.heap.size w0 w')=>j3_ _ _ w' (hT.below hb);have hB:=fun w'=>j03 b w';have hM:=fun w' (hb:Below w0.heap.size w0 w')=>jw8 t.mt b _ w' (hm.below hb) aa;have hD:=fun w' (hb:Below w0.heap.size w0 w')=>jw8 t.dt b _ w' (hd.below hb) aa;have hAm:=fun x w' (hb:Below w0.heap.size w0 w')=>jQ7 t.rev x _ w' (hr.below hb) aa;have hV:=fun w' (hb:Below w0.heap.size w0 w')=>hAm b w' hb;have hWm:=fun w' (hb:Below w0.heap.size w0 w')=>jS5 t.mt b s _ w' (hm.below hb) aa;have hWd:=fun w' (hb:Below w0.heap.size w0 w')=>jS5 t.dt b s _ w' (hd.below hb) aa;have hRm:=fun(hl:t.mt.length<=12) w' (hb:Below w0.heap.size w0 w')=>jS4 t.mt b _ w' (hm.below hb) aa;have hRd:=fun(hl:t.dt.length<=12) w' (hb:Below w0.heap.size w0 w')=>jS4 t.dt b _ w' (hd.below hb) aa;have hbd:=fun hg=>j01 (t:=t) hg;obtain⟨seq,mt,dt,rev,⟨o0,x0⟩,⟨o1,x1⟩,⟨o2,x2⟩⟩:=t;dsimp only at*;unfold j84 at hCp hG⊢;dsimp only at*;have X:=kk7 [] w0;replace hCp:=hid hCp
 cases hgt:goodT ⟨seq,mt,dt,rev,⟨o0,x0⟩,⟨o1,x1⟩,⟨o2,x2⟩⟩ with
 |false=>
  have hv:=hid (jY1 K 2 s (jm3 (h:=h) (b:=b) hgt) ae)
  rw[hgt] at hG
  exact Zal
 |true=>
  rw[hgt] at hG
  by_cases hlo:h<0
  ·have hv:=hid (jY1 K 4 s (j65 (h:=h) (b:=b) hgt (.inl aa)) ae);exact Zal
  by_cases hhi:2<h
  ·have hv:=hid (jY1 K 4 s (j65 (h:=h) (b:=b) hgt (.inl aa)) ae);exact Zal
  have h3:h=0\/h=1\/h=2:=aa
  have hhh:0<=h/\h<=2:=aa
  clear hlo hhi
  obtain⟨l1,l2,l3⟩:=jg5 (j92.1 hgt)
  dsimp only at l1 l2 l3
  replace hRm:=hRm l1
  replace hRd:=hRd l2
  obtain⟨L,hx⟩:∃L,(j68 ⟨seq,mt,dt,rev,⟨o0,x0⟩,⟨o1,x1⟩,⟨o2,x2⟩⟩ h).left=L:=⟨_,rfl⟩
  have hLb:0<=L/\L<=24:=by
   exact fy
  clear hbd
  cases ho:(j68 ⟨seq,mt,dt,rev,⟨o0,x0⟩,⟨o1,x1⟩,⟨o2,x2⟩⟩ h).on with
  |false=>
   have hv:=hid (jY1 K 4 s (j65 (h:=h) (b:=b) hgt (.inr (.inl ho))) ae)
   exact Zah
  |true=>
  cases hbk:isBlk b with
  |false=>
   have hv:=hid (jY1 K 4 s (j65 (h:=h) (b:=b) hgt (.inr (.inr hbk))) ae)
   rw[hbk] at hB
   exact Zah
  |true=>
  rw[hbk] at hB
  have h0:=jq6 (b:=b) hgt hhh ho hbk
  have hg:=j92.1 hgt
  subst hK
  cases hqr:inI rev b with
  |true=>
   have hv:=hid (show alE 2 ⟨seq,mt,dt,rev,⟨o0,x0⟩,⟨o1,x1⟩,⟨o2,x2⟩⟩ h b s=5/\alT 2 ⟨seq,mt,dt,rev,⟨o0,x0⟩,⟨o1,x1⟩,⟨o2,x2⟩⟩ h b s=⟨seq,mt,dt,rev,⟨o0,x0⟩,⟨o1,x1⟩,⟨o2,x2⟩⟩ from jd2 h0 hqr)
   rw[hqr] at hV
   exact Zah
  |false=>
  have hof:=ks4 hg.rev hbk hqr
  dsimp only at hof
  by_cases hn:jt_ ⟨seq,mt,dt,rev,⟨o0,x0⟩,⟨o1,x1⟩,⟨o2,x2⟩⟩ b=true/\(j68 ⟨seq,mt,dt,rev,⟨o0,x0⟩,⟨o1,x1⟩,⟨o2,x2⟩⟩ h).left=0
  ·have p7:=k46 hn.1 hn.2;have hv:alE 2 ⟨seq,mt,dt,rev,⟨o0,x0⟩,⟨o1,x1⟩,⟨o2,x2⟩⟩ h b s=jM1 ⟨seq,mt,dt,rev,⟨o0,x0⟩,⟨o1,x1⟩,⟨o2,x2⟩⟩ h b/\alT 2 ⟨seq,mt,dt,rev,⟨o0,x0⟩,⟨o1,x1⟩,⟨o2,x2⟩⟩ h b s=⟨seq,mt,dt,rev,⟨o0,x0⟩,⟨o1,x1⟩,⟨o2,x2⟩⟩:=jd1 h0 hqr (by rw[p7];decide);exact fJ
  obtain⟨hp,hPo,hPn,hL⟩:=k44 hn
  rw[hx] at hL hPn
  clear hn
  have hsu:=fun n=>je4 true rev b n
  have hle:=fun n=>k36 true rev b n
  have hrv0:revK true rev b 0=[]:=rfl
  have hv:=(show alE 2 ⟨seq,mt,dt,rev,⟨o0,x0⟩,⟨o1,x1⟩,⟨o2,x2⟩⟩ h b s=0/\alT 2 ⟨seq,mt,dt,rev,⟨o0,x0⟩,⟨o1,x1⟩,⟨o2,x2⟩⟩ h b s={jp1 ⟨seq,mt,dt,rev,⟨o0,x0⟩,⟨o1,x1⟩,⟨o2,x2⟩⟩ h b with mt:=dropC mt b,dt:=dropC dt b,rev:=kS7 rev b} from kB6 h0 hqr hp)
  dsimp only at hv hPo hPn hL
  rw[hof] at hv
  generalize revK true rev b=G at*
  replace hv:=hid hv
  exact Zai
theorem jl1(K : Int)(hK : K = 0 \/ K = 1 \/ K = 2)(t : Txn)(h b : Int)(s : ByteArray)(vm vd vr : Value)(w0 : World)(ht : j17 w0 (j84 t vm vd vr) t) :Calls Tryz.prog 64 #[.int .i64 K,j84 t vm vd vr,.int .i64 h,.int .i64 b,.string s] w0 fun e w'=>∃vm' vd' vr',e=.returned (.tuple #[j84 (alT K t h b s) vm' vd' vr',.int .i64 (alE K t h b s)])/\NewT w0.heap.size w' vm vd vr vm' vd' vr' t (alT K t h b s)/\Below w0.heap.size w0 w':=by
 rcases hK with hK|hK|hK
 ·exact k91 K hK t h b s vm vd vr w0 ht
 ·exact k92 K hK t h b s vm vd vr w0 ht
 ·exact k93 K hK t h b s vm vd vr w0 ht
end Go.Proofs.YtlecmdajpfkaeaaGreatDoor