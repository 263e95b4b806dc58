/- Parts of the proof. -/
import Derived.Test.YtlecmdajpfkaeaaGreatDoorKJournalRuns31
import Derived.Test.YtlecmdajpfkaeaaGreatDoorKJournalRuns32
set_option linter.unusedVariables false
set_option linter.unusedSimpArgs false
set_option maxRecDepth 100000
set_option maxHeartbeats 40000000
namespace Wb
open Go Go.RowKit
theorem kZ5{α:Type}(a:α)(M:List α):(M++ [a]).Perm (a::M):=iP (l₁:=M) (l₂:=[a])
theorem k48{α:Type}(a b:α)(M:List α):(a::b::M).Perm (M++ [a,b]):=(iP (l₁:=[a,b]) (l₂:=M))
theorem ko2{S:List Nat}{w0 w:World}{a b:Ent}{M:List Ent}{R:List Rd}(_:St S w0 w (a::b::M) R):Under [a,b] [] (a::b::M) R:=⟨(jO _).cons_cons _|>.cons_cons _,fun r hr=>by cases hr⟩
theorem in3{α:Type}{A B C:List α}{r:α}(h:r∈B++(A++C)):r∈A++(B++C):=by
 simp only[iK] at h⊢;rcases h with h|h|h
 ·exact .inr (.inl h)
 ·exact .inl h
 ·exact .inr (.inr h)
end Wb
namespace Go.Proofs.YtlecmdajpfkaeaaGreatDoor
open Go.RowKit Wb
theorem fX{A:Prop}(h:A:=by
 go_wp2_with (first|go_skip|(refine ZyL ?_)| (refine ZyS ?_;clear X;intro w X)| (refine ZyA ?_;clear X;intro g w X))
 go_ret;exact⟨rfl,X.below⟩):A:=h
theorem jD0(K : JK)(KK : RK)(l : List Aj)(hok : ∀ a ∈ l, a.text.size <= 9223372036854775807 /\ a.n <= 9223372036854775807)(hz : l.length <= 2932031007402){al : Option Addr}{cl : Nat}(w0 : World)(hl : RL ajC w0 (.slice al l.length cl) l)(hF : Sl w0 (flR 0).v 1 (flR 0).cs) :Calls Tryz.prog 4 #[.slice al l.length cl] w0 fun e w'=>e=.returned (.bool true)/\Below w0.heap.size w0 w':=by
 have X:St [] w0 w0 [] [kj2 ajC (.slice al l.length cl) l,flR 0]:=((kk7 [] w0).addR0 hF).addR0 hl;have hN1:=fun(w1:World) (L:List Ent) (R:List Rd) (X:St [] w0 w1 L R)=>kC5 K X;have hN2:=fun(w1:World) (L:List Ent) (R:List Rd) (X:St [] w0 w1 L R)=>kB5 KK X;replace hN1:=hid hN1;replace hN2:=hid hN2;replace hok:=hid hok;go_enter Tryz.func4,Tryz.ntmps4
 go_wp2_with (first|(refine ZyL ?_)| (refine ZyS ?_;clear X;intro w X)| (refine ZyA ?_;clear X;intro g w X)|(go_at_call 8;((with_reducible refine(hN1.out _ _ _ X).mono ?_);rintro e w1 ⟨g1,M,R1,rfl,F1,X2⟩;replace X:=X2;clear X2))|(go_at_call 6;((with_reducible refine(hN2.out _ _ _ X).mono ?_);rintro e w1 ⟨gj,c,R2,rfl,F2,X2⟩;replace X:=X2;clear X2)))
 obtain⟨RR,X9,m2,mF⟩:∃RR,St [] w0 w1 (M++(⟨gj,c,58⟩:: [])) (R1++(R2++RR))/\kj2 ajC (.slice al l.length cl) l∈RR/\flR 0∈RR:=⟨_,(X.perm (kZ5 _ _).symm|>.perm ag).rds (fun r hr=>in3 hr),by first|exact .head _|exact .tail _ (.head _),by first|exact .tail _ (.head _)|exact .head _⟩;clear X hN1 hN2
 go_loopw [5] (fun i wr=>∃(k:Nat) (M:List Ent) (c:List Value) (R1 R2:List Rd),k<=l.length/\i=.int .i64 k/\JF g1 (jAt l k) M R1/\jE9 (jAt l k) c R2/\St [] w0 wr (M++(⟨gj,c,58⟩:: [])) (R1++(R2++RR))) (fun i _=>l.length-(intOf i).toNat)
 case atStart=>exact⟨0,M,c,R1,R2,iq _,rfl,F1,F2,X9⟩
 case round=>
  clear X9 F1 F2;obtain⟨k,M,c,R1,R2,hk,rfl,F1,F2,X⟩:=hrel;by_cases hlt:k<l.length/\k<150
  rotate_left
  ·by_cases hlt1:k<l.length
   ·have c3:decide ((k:Int)<(l.length:Int))=true:=iG aa;have c4:decide ((k:Int)<150)=false:=iH aa;have c5:(k:Int)<(l.length:Int):=aa;have c6:¬(k:Int)<150:=aa;clear hlt hlt1;exact fX
   ·have c3:decide ((k:Int)<(l.length:Int))=false:=iH aa;clear hlt;exact fX
  ·obtain⟨hlt,h150⟩:=hlt;have c3:decide ((k:Int)<(l.length:Int))=true:=iG aa;have c4:decide ((k:Int)<150)=true:=iG aa;have c5:(k:Int)<(l.length:Int):=aa;obtain⟨b2,o2,hb2,_⟩:=kk5 (X.read (ip _ (ip _ m2))) hlt;subst hb2;have ha:=hok.out _ (iM hlt);have ha4:=k73 l k;have hD1:=fun(w1:World) (L:List Ent) (R:List Rd) (hf:flR 0∈R) (X:St [] w0 w1 (M++L) (R1++R))=>ks6 K F1 X hf l[k] ha.1 ha.2 ha4.1;have hD2:=fun(w1:World) (L:List Ent) (R:List Rd) (X:St [] w0 w1 (⟨gj,c,58⟩::L) (R2++R))=>kp0 KK F2 X l[k] ha.1 ha.2 ha4;rw[<-jn7 hlt] at hD1 hD2;obtain⟨⟨rc,rn,rt⟩,hrp⟩:∃rp,(doJ (jAt l k) l[k]).2=rp:=⟨_,rfl⟩;rw[hrp] at hD1 hD2;clear hrp ha ha4 h150;unfold Rep.val at hD1 hD2;dsimp only at hD1 hD2;replace hD1:=hid hD1;replace hD2:=hid hD2;generalize hJ:jAt l (k+1)=J at hD1 hD2;replace hJ:=hid hJ
   go_upto_region 7 with (first|go_skip|(refine ZyL ?_)| (refine ZyS ?_;clear X;intro w X)| (refine ZyA ?_;clear X;intro g w X))
   refine jl0 RR 0 [] [5,11] [4,10] [0,1,2,3,4,6,7,8,9,10,5,11,12] X (fun r hr=>ip _ (ip _ hr)) ?_;clear X;intro hQ X hL;simp only[zF,zG] at hL;simp only[zF,zG];refine Zm ?_;refine Zm ?_;refine Zm ?_;refine Zg ?_;refine jl_ (f:=ajC) (c:=5) (fun _=>rfl) hlt rfl rfl m2 Zev rfl rfl X hL hQ ?_;(simp only[Act.put,zA,zB,zC,zD,zE,zF,zG,Nat.reduceAdd]);refine Zm ?_;refine Zm ?_;refine Zm ?_;refine Zg ?_;refine jl_ (f:=ajC) (c:=5) (fun _=>rfl) hlt rfl rfl m2 Zev rfl rfl X hL hQ ?_;(simp only[Act.put,zA,zB,zC,zD,zE,zF,zG,Nat.reduceAdd]);refine j_0 9 Tryz.func9 (hD1.out _ _ _ (ip _ mF) X) ?_;rintro e w1 ⟨M2,R3,rfl,F3,X2⟩;refine⟨_,rfl,fun _ _=>X2.keeps ⟨jO _,fun r hr=>ip _ (ip _ hr)⟩,?_⟩;have X3:=(X2.perm (kZ5 _ _)).rds (fun r hr=>in3 (A:=R3) (B:=R2) (C:=RR) hr);clear X X2 hL;(simp only[Act.put,zA,zB,zC,zD,zE,zF,zG,Nat.reduceAdd]);refine j_0 7 Tryz.func7 (hD2.out _ _ _ X3) ?_;rintro e w1 ⟨c2,R4,rfl,F4,X2⟩;refine⟨_,rfl,fun _ _=>X2.keeps ⟨jO _,fun r hr=>ip _ (ip _ hr)⟩,?_⟩;have X:=(X2.perm (kZ5 _ _).symm).rds (fun r hr=>in3 (A:=R4) (B:=R3) (C:=RR) hr);clear X2 X3 F1 F2;(simp only[Act.put,zA,zB,zC,zD,zE,zF,zG,Nat.reduceAdd]);refine Zg ?_;refine j90 ?_;have hRi:=hid (ky4 F3 X)
   go_upto_region 10 with (first|go_skip|(refine ZyL ?_)| (refine ZyS ?_;clear X;intro w X)| (refine ZyA ?_;clear X;intro g w X)|(go_at_call 10;((with_reducible refine(hRi.out).mono ?_);rintro e w1 ⟨rfl,X2⟩;replace X:=X2;clear X2)))
   clear hRi hD1 hD2;have X9:=X.perm ((kZ5 _ _).cons _);clear X;have X:=X9;clear X9;obtain⟨v,ds,fs,hm,rfl,rfl⟩:=F4;have hsz:=hm.inv.sz hm.sz;have hdk:=hsz.dk;have hln:=jU4 hdk;have hnow:=hsz.now;have hRu:=fun(w1:World) (L:List Ent) (R:List Rd) (X:St [] w0 w1 (M2++L) (R3++R))=>k05 F3 X;have hDk:=fun(w1:World) (L:List Ent) (R:List Rd) (X:St [] w0 w1 (M2++L) (R3++R))=>ky3 F3 X;have mdk:∀r∈jRds v J ds fs,r∈R3++(jY2 v J ds fs++RR):=fun r hr=>ip _ (jQ5 r hr);have hST:=fun v1 v2 w' h1 h2=>k97 J.now v1 v2 w' h1 h2;have hSD:=fun v1 v2 w' h1 h2=>je2 J.disk v1 v2 w' h1 h2;unfold j80 at X;replace hRu:=hid hRu;replace hDk:=hid hDk;replace hm:=hid hm;replace hsz:=hid hsz;replace mdk:=hid mdk;replace hST:=hid hST;replace hSD:=hid hSD;replace hnow:=hid hnow;replace hln:=hid hln;refine jl0 [] 2 [] [24,29,34,39] [0,4,11,19,28,38] [0,1,2,3,4,5,6,7,8,9,10,11,12,13,14,15,16,17,18,19,20,21,22,23,25,26,27,28,24,29,30,31,32,33,35,36,37,38,34,39,40,41] X (fun r hr=>by cases hr) ?_;clear X;intro hQ X hL;simp only[List.take_succ_cons,List.take_zero] at hL;simp only[List.take_succ_cons,List.take_zero];refine Zl ?_;refine Zm ?_;refine Zn ?_;refine Zf ?_;refine Zl ?_;refine Zg ?_;refine Zm ?_;refine Zm ?_;refine Zm ?_;refine Zn ?_;refine Zf ?_;refine Zl ?_;refine Zg ?_;refine Zg ?_;refine Zm ?_;refine Zm ?_;refine Zm ?_;refine Zn ?_;refine Zf ?_;refine Zl ?_;refine Zg ?_;refine Zg ?_;refine Zm ?_;refine Zm ?_;refine Zm ?_;refine Zn ?_;refine Zf ?_;refine Zl ?_
   refine j_0 12 Tryz.func12 (hRu.out _ _ _ (X.perm (k48 _ _ _))) ?_;rintro e w1 ⟨a1,e1,a2,e2,a3,e3,rfl,X2⟩;replace X:=X2.perm (k48 _ _ _).symm;refine⟨_,rfl,fun _ _=>X.keeps (ko2 X),?_⟩;clear X2 hL;(simp only[Act.put,zA,zB,zC,zD,zE,zF,zG,Nat.reduceAdd]);refine j_0 11 Tryz.func11 (hST.out _ _ _ ⟨_,_,_,rfl,X.read (.tail _ (.tail _ (.head _))),X.read (.tail _ (.head _)),X.read (.head _),by have:=hnow.out;omega,by have:=hnow.out;omega,by have:=hnow.out;omega⟩ (X.jNow hsz.out (fun r hr=>.tail _ (.tail _ (.tail _ (mdk.out r hr)))))) ?_;rintro e w1 ⟨rfl,hb1⟩;replace X:=X.call hb1;have hL:=ko2 X;refine⟨_,rfl,fun _ _=>X.keeps hL,?_⟩;clear hb1;(simp only[Act.put,zA,zB,zC,zD,zE,zF,zG,Nat.reduceAdd]);refine Zg ?_;refine Zg ?_;refine Zm ?_;refine Zm ?_;refine Zm ?_;refine Zn ?_;refine Zf ?_;refine Zl ?_;refine j_0 14 Tryz.func14 (hDk.out _ _ _ ((X.perm (k48 _ _ _)).rds (fun r hr=>show r∈_::_::_::(R3++_) from .tail _ (.tail _ (.tail _ hr))))) ?_;rintro e w1 ⟨a4,e4,a5,e5,rfl,X2⟩;replace X:=X2.perm (k48 _ _ _).symm;refine⟨_,rfl,fun _ _=>X.keeps (ko2 X),?_⟩;clear X2 hL;(simp only[Act.put,zA,zB,zC,zD,zE,zF,zG,Nat.reduceAdd]);refine j_0 13 Tryz.func13 (hSD.out _ _ _ ⟨_,_,rfl,X.read (.tail _ (.head _)),X.read (.head _),hln.out.1,hln.out.2⟩ (X.jDisk hdk (fun r hr=>.tail _ (.tail _ (mdk.out r hr))))) ?_;rintro e w1 ⟨rfl,hb1⟩;replace X:=X.call hb1;refine⟨_,rfl,fun _ _=>X.keeps (ko2 X),?_⟩;clear hb1;(simp only[Act.put,zA,zB,zC,zD,zE,zF,zG,Nat.reduceAdd]);refine Zg ?_;refine Zg ?_;refine j90 ?_
   go_wp2_with (first|go_skip|(refine ZyL ?_)| (refine ZyS ?_;clear X;intro w X)| (refine ZyA ?_;clear X;intro g w X))
   rw[<-hJ.out] at F3 hm X;go_roundw
   case rel=>(first|exact⟨k+1,M2,_,_,_,aa,an,F3,⟨v,ds,fs,hm.out,rfl,rfl⟩,((X.tail).perm (kZ5 _ _).symm).rds (fun r hr=>.tail _ (.tail _ hr))⟩| ((repeat apply Exists.intro);exact⟨⟨k+1,M2,_,_,_,aa,an,F3,⟨v,ds,fs,hm.out,rfl,rfl⟩,((X.tail).perm (kZ5 _ _).symm).rds (fun r hr=>.tail _ (.tail _ hr))⟩,rfl⟩))
   case measure=>simp[intOf];omega
end Go.Proofs.YtlecmdajpfkaeaaGreatDoor