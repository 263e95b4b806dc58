/- Parts of the proof. -/
import Derived.Test.YtlecmdajpfkaeaaGreatDoorKJournalRuns30
import Derived.Test.YtlecmdajpfkaeaaGreatDoorKJournalRuns14
set_option linter.unusedVariables false
set_option linter.unusedSimpArgs false
set_option maxRecDepth 100000
set_option maxHeartbeats 40000000
namespace Go.Proofs.YtlecmdajpfkaeaaGreatDoor
open Go.RowKit Wb
instance:SlT Tryz.prog 22 28 5 48:=⟨kj_ (z:=.agg #[.int .i64 0,.int .i64 0,.int .i64 0,.int .i64 0,.string ⟨#[]⟩]) Tryz.underlying22 af rfl,ae,ae,ae⟩
def a99:Aj:=⟨99,0,0,0,⟨#[]⟩⟩
theorem kr8(g:Nat):j4_ ajC 28 5 (.slice (some ⟨g,0,none⟩) 1 1) [a99] [⟨g,ajC a99,28⟩]:=.inr ⟨g,1,[],rfl,ae,ae,rfl,rfl⟩
theorem jy0(K : JK)(KK : RK)(l : List Aj)(hok : ∀ a ∈ l, a.text.size <= 9223372036854775807 /\ a.n <= 9223372036854775807)(hz : l.length <= 2932031007402){al : Option Addr}{cl : Nat}(w : World)(hl : RL ajC w (.slice al l.length cl) l)(hF : Sl w (flR 0).v 1 (flR 0).cs) :Calls Tryz.prog 3 #[.slice al l.length cl] w fun e w'=>e=.returned (.bool true)/\Below w.heap.size w w':=by
 have X:St [] w w [] [kj2 ajC (.slice al l.length cl) l,flR 0]:=((kk7 [] w).addR0 hF).addR0 hl;have h99:∀a∈[a99],a.text.size<=9223372036854775807/\a.n<=9223372036854775807:=fun a ha=>by rcases iI.1 ha with rfl;exact⟨ae,ae⟩
 have hR9:∀(w1:World) (R:List Rd) (ac:Option Addr) (cc:Nat),flR 0∈R->kj2 ajC (.slice ac 1 cc) [a99]∈R->St [] w w1 [] R->Calls Tryz.prog 5 #[.slice ac 1 cc] w1 fun e w'=>∃ao co Mo,e=.returned (.tuple #[.slice ao 1 co,.int .i64 0])/\j4_ kB3 32 3 (.slice ao 1 co) (repsOf newJ [a99]) Mo/\St [] w w' (Mo++ []) R:=fun w1 R ac cc hm hm2 X=>kC6 K [a99] h99 X hm hm2 ae;replace hR9:=hid hR9;clear h99;by_cases h4:400<l.length
 ·have hRu:=fun(w1:World) (R:List Rd) (ac:Option Addr) (cc:Nat) (X:St [] w w1 [] R)=>k_1 (al:=ac) (cl:=cc) (n:=l.length) X h4;have c1:decide ((400:Int)<(l.length:Int))=true:=iG aa;replace hRu:=hid hRu;go_enter Tryz.func3,Tryz.ntmps3
  go_upto_region 2 with (first|(refine ZyL ?_)| (refine ZyS ?_;clear X;intro w X)| (refine ZyA ?_;clear X;intro g w X)|(at_builtin;(refine kC8 rfl rfl l k74 X Zev Zev (X.read (List.Mem.head _)) aa aa ?_;intro a2 c2 w2 M2 hO2 X2;replace X:=St.ownEnd (L:=[]) (T:=[]) X2 hO2;clear X2 hO2;(simp only[Act.put,zA,zB,zC,zD,zE,zF,zG,Nat.reduceAdd])))|(go_at_call 5;((with_reducible refine(hRu.out _ _ _ _ X).mono ?_);rintro e w1 ⟨rfl,X2⟩;replace X:=X2;clear X2)))
  go_wp2_with (first|go_skip|(refine ZyL ?_)| (refine ZyS ?_;clear X;intro w X)| (refine ZyA ?_;clear X;intro g w X)|(refine j73 rfl ?_;(refine j79 rfl rfl Zev ay ay X ?_;intro g w2 X2;replace X:=St.ownEnd (L:=[]) (T:=[]) X2 (kr8 g);clear X2;(simp only[Act.put,zA,zB,zC,zD,zE,zF,zG,Nat.reduceAdd])))|(go_at_call 5;((with_reducible refine(hR9.out _ _ _ _ (List.Mem.tail _ (List.Mem.tail _ (List.Mem.tail _ (List.Mem.head _)))) (List.Mem.head _) X).mono ?_);rintro e w1 ⟨ao9,co9,Mo9,rfl,hO,X2⟩;replace X:=St.ownEnd (L:=[]) (T:=[]) X2 hO;clear X2 hO)))
  go_ret;exact⟨rfl,X.below⟩
 have hRu:=fun(w1:World) (R:List Rd) (ac:Option Addr) (cc:Nat) (hm:flR 0∈R) (hm2:kj2 ajC (.slice ac l.length cc) l∈R) (X:St [] w w1 [] R)=>kC6 K l hok X hm hm2 aa;have hNj:=fun(w1:World) (R:List Rd) (X:St [] w w1 [] R)=>kB5 KK X;have c1:decide ((400:Int)<(l.length:Int))=false:=iH aa;have hrl:=jX4 l newJ;have hle:((l.length:Int) != (l.length:Int))=false:=ag;replace hRu:=hid hRu;replace hok:=hid hok;replace hrl:=hid hrl;replace hNj:=hid hNj;go_enter Tryz.func3,Tryz.ntmps3
 go_upto_region 2 with (first|(refine ZyL ?_)| (refine ZyS ?_;clear X;intro w X)| (refine ZyA ?_;clear X;intro g w X)|(at_builtin;(refine kC8 rfl rfl l k74 X Zev Zev (X.read (List.Mem.head _)) aa aa ?_;intro a2 c2 w2 M2 hO2 X2;replace X:=St.ownEnd (L:=[]) (T:=[]) X2 hO2;clear X2 hO2;(simp only[Act.put,zA,zB,zC,zD,zE,zF,zG,Nat.reduceAdd])))|(go_at_call 5;((with_reducible refine(hRu.out _ _ _ _ (List.Mem.tail _ (List.Mem.tail _ (List.Mem.head _))) (List.Mem.head _) X).mono ?_);rintro e w1 ⟨ao,co,Mo,rfl,hO,X2⟩;replace X:=St.ownEnd (L:=[]) (T:=[]) X2 hO;clear X2 hO)))
 go_upto_region 5 with (first|(refine ZyL ?_)| (refine ZyS ?_;clear X;intro w X)| (refine ZyA ?_;clear X;intro g w X)|(refine j73 rfl ?_;(refine j79 rfl rfl Zev ay ay X ?_;intro g w2 X2;replace X:=St.ownEnd (L:=[]) (T:=[]) X2 (kr8 g);clear X2;(simp only[Act.put,zA,zB,zC,zD,zE,zF,zG,Nat.reduceAdd])))|(go_at_call 5;((with_reducible refine(hR9.out _ _ _ _ (List.Mem.tail _ (List.Mem.tail _ (List.Mem.tail _ (List.Mem.tail _ (List.Mem.head _))))) (List.Mem.head _) X).mono ?_);rintro e w1 ⟨ao9,co9,Mo9,rfl,hO,X2⟩;replace X:=St.ownEnd (L:=[]) (T:=[]) X2 hO;clear X2 hO)))
 go_wp2_with (first|go_skip|(refine ZyL ?_)| (refine ZyS ?_;clear X;intro w X)| (refine ZyA ?_;clear X;intro g w X)|(go_at_call 6;((with_reducible refine(hNj.out _ _ X).mono ?_);rintro e w1 ⟨gj,c0,R0,rfl,F,X2⟩;replace X:=X2;clear X2)))
 clear hRu hR9 hNj;have hgt:∀(k:Nat) (hk:k<l.length) (h2:k<(repsOf newJ l).length),(repsOf newJ l)[k]=(doJ (jAt l k) l[k]).2:=fun k hk _=>kF7 hk;generalize repsOf newJ l=RP at X hrl hgt;obtain⟨RR,X9,m1,m2⟩:∃RR,St [] w w1 [⟨gj,c0,58⟩] (R0++RR)/\kj2 kB3 (.slice ao l.length co) RP∈RR/\kj2 ajC (.slice al l.length cl) l∈RR:=⟨_,X,.tail _ (.tail _ (.head _)),.tail _ (.tail _ (.tail _ (.tail _ (.head _))))⟩;clear X;replace hgt:=hid hgt
 go_loopw [8] (fun i wr=>∃(k:Nat) (c:List Value) (Rj:List Rd),k<=l.length/\i=.int .i64 k/\jE9 (jAt l k) c Rj/\St [] w wr (⟨gj,c,58⟩:: []) (Rj++RR)) (fun i _=>l.length-(intOf i).toNat)
 case atStart=>exact⟨0,c0,R0,iq _,rfl,F,X9⟩
 case round=>
  clear X9 F;obtain⟨k,c,Rj,hk,rfl,F,X⟩:=hrel;by_cases hlt:k<l.length
  ·have c3:(k:Int)<(l.length:Int):=by omega
   have hlr:k<RP.length:=by rw[hrl.out];exact hlt
   obtain⟨b1,o1,hb1,_⟩:=RL.at3 (fun x:Rep=>.int .i64 x.code) (fun x=>.int .i64 x.n) (fun x=>.string x.text) (fun _=>rfl) (X.read (ip _ m1)) hlr;obtain⟨b2,o2,hb2,_⟩:=kk5 (X.read (ip _ m2)) hlt;subst hb1 hb2;have ha:=hok.out _ (iM hlt);have hg:=hgt.out k hlt hlr;have hD:=fun(w1:World) (X:St [] w w1 (⟨gj,c,58⟩:: []) (Rj++RR))=>kp0 KK F X l[k] ha.1 ha.2 (k73 l k);have hj:=jn7 hlt;rw[<-hj] at hD;obtain⟨⟨rc,rn,rt⟩,hrp⟩:∃rp,(doJ (jAt l k) l[k]).2=rp:=⟨_,rfl⟩;rw[hrp] at hD hg;clear hrp hj ha;unfold Rep.val at hD;dsimp only at hD;replace hD:=hid hD;replace hg:=hid hg
   go_upto_region 11 with (first|(refine ZyL ?_)| (refine ZyS ?_;clear X;intro w X)| (refine ZyA ?_;clear X;intro g w X))
   refine jl0 RR 0 [] [9] [3,8] [0,1,2,3,4,5,6,7,8,9,10] X (fun r hr=>ip _ hr) ?_;clear X;intro hQ X hL;simp only[zF,zG] at hL;simp only[zF,zG];refine Zm ?_;refine Zm ?_;refine Zg ?_;refine jl_ (f:=kB3) (c:=3) (fun _=>rfl) hlr rfl rfl m1 Zev rfl rfl X hL hQ ?_;rw[hg.out];unfold kB3;dsimp only;(simp only[Act.put,zA,zB,zC,zD,zE,zF,zG,Nat.reduceAdd]);refine Zm ?_;refine Zm ?_;refine Zm ?_;refine Zg ?_;refine jl_ (f:=ajC) (c:=5) (fun _=>rfl) hlt rfl rfl m2 Zev rfl rfl X hL hQ ?_;(simp only[Act.put,zA,zB,zC,zD,zE,zF,zG,Nat.reduceAdd]);refine j_0 7 Tryz.func7 (hD.out _ X) ?_;rintro e w1 ⟨c2,R2,rfl,F2,X2⟩;refine⟨_,rfl,fun _ _=>X2.keeps ⟨jO _,fun r hr=>ip _ hr⟩,?_⟩;replace X:=X2;clear X2 hL;(simp only[Act.put,zA,zB,zC,zD,zE,zF,zG,Nat.reduceAdd]);refine Zg ?_;refine j90 ?_
   go_wp2_with (first|(refine ZyL ?_)| (refine ZyS ?_;clear X;intro w X)| (refine ZyA ?_;clear X;intro g w X))
   go_roundw
   case rel=>(first|exact⟨k+1,c2,R2,aa,an,F2,X⟩| ((repeat apply Exists.intro);exact⟨⟨k+1,c2,R2,aa,an,F2,X⟩,rfl⟩))
   case measure=>simp[intOf];omega
  ·go_wp2;go_ret;exact⟨rfl,X.below⟩
end Go.Proofs.YtlecmdajpfkaeaaGreatDoor