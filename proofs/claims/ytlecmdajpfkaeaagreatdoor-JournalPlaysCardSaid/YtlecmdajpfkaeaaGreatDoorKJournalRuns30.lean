/- Parts of the proof. -/
import Derived.Test.YtlecmdajpfkaeaaGreatDoorKJournalRuns13
import Derived.Test.YtlecmdajpfkaeaaGreatDoorKJournalRuns29
import Derived.Test.YtlecmdajpfkaeaaGreatDoorKJournalRuns18
set_option linter.unusedVariables false
set_option linter.unusedSimpArgs false
set_option maxRecDepth 100000
set_option maxHeartbeats 40000000
namespace Wb
open Go Go.RowKit
theorem k9_{α:Type}(a b c:α)(D L:List α):(a::b::c::(D++L)).Perm (c::(D++(a::b::L))):=by
 have h1:(a::b::c::(D++L)).Perm (c::a::b::(D++L)):=(iP (l₁:=[a,b]) (l₂:=[c])).append_right _;exact h1.trans ((ko [a,b] D L).cons c)
theorem k_9{α:Type}(a b:α)(M L:List α):(M++(a::b::L)).Perm (a::b::(M++L)):=(ko [a,b] M L).symm
theorem JFm.acts{Tt Ti:TypeId}{v:JV}{j:Jn}{ds fs:List TV}{MD MU:List Ent}(h:JFm Tt Ti v j ds fs MD MU)(n:Int):JFm Tt Ti v {j with acts:=n} ds fs MD MU:=⟨h.dn,h.us,h.dmap,h.fmap,h.dfit,h.ffit,h.inv.acts n,h.sz⟩
end Wb
namespace Go.Proofs.YtlecmdajpfkaeaaGreatDoor
open Go.RowKit Wb
theorem ks9(c : Int)(w : World) :Calls Tryz.prog 32 #[.int .i64 c] w fun e w'=>e=.returned (.agg #[.int .i64 c,.int .i64 0,.string ⟨#[]⟩])/\Below w.heap.size w w':=by
 have X:St [] w w [] []:=kk7 [] w;go_enter Tryz.func32,Tryz.ntmps32
 go_wp2_with (first|(refine ZyL ?_)| (refine ZyS ?_;clear X;intro w X)| (refine ZyA ?_;clear X;intro g w X))
 exact j93 rfl (.tmp rfl rfl) X (.head _) rfl rfl ⟨rfl,X.below⟩
theorem eu{A:Prop}(h:A:=by
 refine j93 rfl (.tmp rfl rfl) X (.head _) rfl rfl ?_;rw[hD.out]
 first|refine RMa ?_ rfl|refine RMb ?_ rfl
 exact⟨_,_,F2,X.sub (List.Sublist.cons _ (iQ _ _))⟩):A:=h
theorem ew{A:Prop}(h:A:=by
 go_enter Tryz.func9,Tryz.ntmps9
 go_upto_region 1 with (first|(refine Zbx ?_;clear X;intro g w X)|(refine ZyL ?_)| (refine ZyS ?_;clear X;intro w X)| (refine ZyA ?_;clear X;intro g w X))
 go_wp2_with (first|(refine ZyL ?_)| (refine ZyS ?_;clear X;intro w X)| (refine ZyA ?_;clear X;intro g w X)|(go_at_call 32;((with_reducible refine(hNo.out _ _).mono ?_);rintro e w1 ⟨rfl,hb1⟩;replace X:=X.call hb1;clear hb1)))
 refine j93 rfl (.tmp rfl rfl) X (.head _) rfl rfl ?_;rw[hD.out]
 first|refine RMa ?_ rfl|refine RMb ?_ rfl
 exact⟨_,_,F1.out,X.sub (List.Sublist.cons _ (iQ _ _))⟩):A:=h
theorem ks6(K : JK){S : List Nat}{w0 w : World}{L : List Ent}{R : List Rd}{gj : Nat}{j : Jn}{M : List Ent}{Rj : List Rd}(F : JF gj j M Rj)(X : St S w0 w (M ++ L) (Rj ++ R))(hF : flR 0 ∈ R)(a : Aj)(hs : a.text.size <= 9223372036854775807)(hn : a.n <= 9223372036854775807)(ha : 0 <= j.acts) :Calls Tryz.prog 9 #[.pointer (some ⟨gj,0,none⟩),.agg #[.int .i64 a.kind,.int .i64 a.h,.int .i64 a.b,.int .i64 a.n,.string a.text]] w fun e w'=>∃M' Rj',e=.returned (doJ j a).2.val/\JF gj (doJ j a).1 M' Rj'/\St S w0 w' (M'++L) (Rj'++R):=by
 obtain⟨v,ds,fs,MD,MU,hm,rfl,rfl⟩:=F;rw[iu] at X;unfold j85 at X;have hNo:=fun c w=>ks9 c w;replace hNo:=hid hNo;by_cases h4:400<=j.acts
 ·have hD:doJ j a=(j,noR 11):=by unfold doJ;rw[ij h4]
  replace hD:=hid hD;replace hm:=hid hm;go_enter Tryz.func9,Tryz.ntmps9
  go_upto_region 1 with (first|(refine Zbx ?_;clear X;intro g w X)|(refine ZyL ?_)| (refine ZyS ?_;clear X;intro w X)| (refine ZyA ?_;clear X;intro g w X))
  go_wp2_with (first|(refine ZyL ?_)| (refine ZyS ?_;clear X;intro w X)| (refine ZyA ?_;clear X;intro g w X)|(go_at_call 32;((with_reducible refine(hNo.out _ _).mono ?_);rintro e w1 ⟨rfl,hb1⟩;replace X:=X.call hb1;clear hb1)))
  refine j93 rfl (.tmp rfl rfl) X (.head _) rfl rfl ?_;rw[hD.out]
  first|refine RMa ?_ rfl|refine RMb ?_ rfl
  exact⟨_,_,⟨v,ds,fs,MD,MU,hm.out,rfl,rfl⟩,X.sub (List.Sublist.cons _ (iQ _ _))⟩
 ·have hw4:IntKind.i64.wrap (j.acts+1)=j.acts+1:=iz _ aa;have hm1:=hm.acts (j.acts+1);replace hm:=hid hm;replace hm1:=hid hm1;have F1:JF gj {j with acts:=j.acts+1} (⟨gj,j85 v {j with acts:=j.acts+1},84⟩::(MD++MU)) (jRds v {j with acts:=j.acts+1} ds fs):=⟨v,ds,fs,MD,MU,hm1.out,rfl,rfl⟩;replace F1:=hid F1;by_cases hlo:a.kind<1
  ·have hD:doJ j a=({j with acts:=j.acts+1},noR 3):=by unfold doJ;rw[ii h4,ij (.inl hlo)]
   replace hD:=hid hD;exact ew
  by_cases hhi:11<a.kind
  ·have hD:doJ j a=({j with acts:=j.acts+1},noR 3):=by unfold doJ;rw[ii h4,ij (.inr hhi)]
   replace hD:=hid hD;exact ew
  have hkk:¬(a.kind<1\/11<a.kind):=aa;by_cases k10:a.kind=10
  ·have hD:doJ j a=noJ (j15 {j with acts:=j.acts+1} a.n):=by unfold doJ;rw[ii h4,ii hkk,ij k10]
   replace hD:=hid hD;have f10:(a.kind==10)=true:=by rw[k10];rfl
   go_enter Tryz.func9,Tryz.ntmps9
   go_upto_region 1 with (first|(refine Zbx ?_;clear X;intro g w X)|(refine ZyL ?_)| (refine ZyS ?_;clear X;intro w X)| (refine ZyA ?_;clear X;intro g w X))
   go_upto_region 10 with (first|(refine ZyL ?_)| (refine ZyS ?_;clear X;intro w X)| (refine ZyA ?_;clear X;intro g w X))
   have hC:=hid (kH6 K F1.out (X.perm (k9_ _ _ _ _ _)) a.n hn)
   go_wp2_with (first|(refine ZyL ?_)| (refine ZyS ?_;clear X;intro w X)| (refine ZyA ?_;clear X;intro g w X)|(go_at_call 33;((with_reducible refine(hC.out).mono ?_);rintro e w1 ⟨M2,R2,rfl,F2,X2⟩;replace X:=X2.perm (k_9 _ _ _ _);clear X2))|(go_at_call 32;((with_reducible refine(hNo.out _ _).mono ?_);rintro e w1 ⟨rfl,hb1⟩;replace X:=X.call hb1;clear hb1)))
   exact eu
  by_cases k11:a.kind=11
  ·have hD:doJ j a=noJ (j36 {j with acts:=j.acts+1}):=by unfold doJ;rw[ii h4,ii hkk,ii k10,ij k11]
   replace hD:=hid hD;have f10:(a.kind==10)=false:=ik.2 k10;have f11:(a.kind==11)=true:=by rw[k11];rfl
   go_enter Tryz.func9,Tryz.ntmps9
   go_upto_region 1 with (first|(refine Zbx ?_;clear X;intro g w X)|(refine ZyL ?_)| (refine ZyS ?_;clear X;intro w X)| (refine ZyA ?_;clear X;intro g w X))
   go_upto_region 12 with (first|(refine ZyL ?_)| (refine ZyS ?_;clear X;intro w X)| (refine ZyA ?_;clear X;intro g w X))
   have hC:=hid (kH4 K F1.out (X.perm (k9_ _ _ _ _ _)) hF)
   go_wp2_with (first|(refine ZyL ?_)| (refine ZyS ?_;clear X;intro w X)| (refine ZyA ?_;clear X;intro g w X)|(go_at_call 34;((with_reducible refine(hC.out).mono ?_);rintro e w1 ⟨M2,R2,rfl,F2,X2⟩;replace X:=X2.perm (k_9 _ _ _ _);clear X2))|(go_at_call 32;((with_reducible refine(hNo.out _ _).mono ?_);rintro e w1 ⟨rfl,hb1⟩;replace X:=X.call hb1;clear hb1)))
   exact eu
  by_cases k8:a.kind=8
  ·have hD:doJ j a=jR5 {j with acts:=j.acts+1}:=by unfold doJ;rw[ii h4,ii hkk,ii k10,ii k11,ij k8]
   replace hD:=hid hD;have f10:(a.kind==10)=false:=ik.2 k10;have f11:(a.kind==11)=false:=ik.2 k11;have f8:(a.kind==8)=true:=by rw[k8];rfl
   go_enter Tryz.func9,Tryz.ntmps9
   go_upto_region 1 with (first|(refine Zbx ?_;clear X;intro g w X)|(refine ZyL ?_)| (refine ZyS ?_;clear X;intro w X)| (refine ZyA ?_;clear X;intro g w X))
   go_upto_region 14 with (first|(refine ZyL ?_)| (refine ZyS ?_;clear X;intro w X)| (refine ZyA ?_;clear X;intro g w X))
   have hC:=hid (ky7 K F1.out (X.perm (k9_ _ _ _ _ _)))
   go_wp2_with (first|(refine ZyL ?_)| (refine ZyS ?_;clear X;intro w X)| (refine ZyA ?_;clear X;intro g w X)|(go_at_call 35;((with_reducible refine(hC.out).mono ?_);rintro e w1 ⟨M2,R2,rfl,F2,X2⟩;replace X:=X2.perm (k_9 _ _ _ _);clear X2)))
   exact eu
  by_cases hd:j.down=true
  ·have hD:doJ j a=({j with acts:=j.acts+1},noR 10):=by unfold doJ;rw[ii h4,ii hkk,ii k10,ii k11,ii k8,ij hd]
   replace hD:=hid hD;have f10:(a.kind==10)=false:=ik.2 k10;have f11:(a.kind==11)=false:=ik.2 k11;have f8:(a.kind==8)=false:=ik.2 k8;obtain⟨jx1,jx2,jx3,jx4,jx5,jx6,jx7,jx8,jx9,jx10,jx11,jx12,jx13,jx14,jx15,jx16⟩:=j;dsimp only at hd X;subst hd;exact ew
  have hdf:j.down=false:=by simpa using hd
  by_cases k6:a.kind=6
  ·have hD:doJ j a=j82 {j with acts:=j.acts+1}:=by unfold doJ;rw[ii h4,ii hkk,ii k10,ii k11,ii k8,ii hd,ij k6]
   replace hD:=hid hD;have f10:(a.kind==10)=false:=ik.2 k10;have f11:(a.kind==11)=false:=ik.2 k11;have f8:(a.kind==8)=false:=ik.2 k8;have f6:(a.kind==6)=true:=by rw[k6];rfl
   obtain⟨jx1,jx2,jx3,jx4,jx5,jx6,jx7,jx8,jx9,jx10,jx11,jx12,jx13,jx14,jx15,jx16⟩:=j;dsimp only at hdf X;subst hdf;go_enter Tryz.func9,Tryz.ntmps9
   go_upto_region 1 with (first|(refine Zbx ?_;clear X;intro g w X)|(refine ZyL ?_)| (refine ZyS ?_;clear X;intro w X)| (refine ZyA ?_;clear X;intro g w X))
   go_upto_region 19 with (first|(refine ZyL ?_)| (refine ZyS ?_;clear X;intro w X)| (refine ZyA ?_;clear X;intro g w X))
   have hC:=hid (kR_ K F1.out (X.perm (k9_ _ _ _ _ _)) hF rfl)
   go_wp2_with (first|(refine ZyL ?_)| (refine ZyS ?_;clear X;intro w X)| (refine ZyA ?_;clear X;intro g w X)|(go_at_call 36;((with_reducible refine(hC.out).mono ?_);rintro e w1 ⟨M2,R2,rfl,F2,X2⟩;replace X:=X2.perm (k_9 _ _ _ _);clear X2)))
   exact eu
  by_cases k7:a.kind=7
  ·have hD:doJ j a=noJ (j37 {j with acts:=j.acts+1}):=by unfold doJ;rw[ii h4,ii hkk,ii k10,ii k11,ii k8,ii hd,ii k6,ij k7]
   replace hD:=hid hD;have f10:(a.kind==10)=false:=ik.2 k10;have f11:(a.kind==11)=false:=ik.2 k11;have f8:(a.kind==8)=false:=ik.2 k8;have f6:(a.kind==6)=false:=ik.2 k6;have f7:(a.kind==7)=true:=by rw[k7];rfl
   obtain⟨jx1,jx2,jx3,jx4,jx5,jx6,jx7,jx8,jx9,jx10,jx11,jx12,jx13,jx14,jx15,jx16⟩:=j;dsimp only at hdf X;subst hdf;go_enter Tryz.func9,Tryz.ntmps9
   go_upto_region 1 with (first|(refine Zbx ?_;clear X;intro g w X)|(refine ZyL ?_)| (refine ZyS ?_;clear X;intro w X)| (refine ZyA ?_;clear X;intro g w X))
   go_upto_region 21 with (first|(refine ZyL ?_)| (refine ZyS ?_;clear X;intro w X)| (refine ZyA ?_;clear X;intro g w X))
   have hC:=hid (kH5 K F1.out (X.perm (k9_ _ _ _ _ _)) hF)
   go_wp2_with (first|(refine ZyL ?_)| (refine ZyS ?_;clear X;intro w X)| (refine ZyA ?_;clear X;intro g w X)|(go_at_call 37;((with_reducible refine(hC.out).mono ?_);rintro e w1 ⟨M2,R2,rfl,F2,X2⟩;replace X:=X2.perm (k_9 _ _ _ _);clear X2))|(go_at_call 32;((with_reducible refine(hNo.out _ _).mono ?_);rintro e w1 ⟨rfl,hb1⟩;replace X:=X.call hb1;clear hb1)))
   exact eu
  by_cases k9:a.kind=9
  ·have hD:doJ j a=({j with acts:=j.acts+1},jJ5 {j with acts:=j.acts+1} a.b):=by unfold doJ;rw[ii h4,ii hkk,ii k10,ii k11,ii k8,ii hd,ii k6,ii k7,ij k9]
   replace hD:=hid hD;have f10:(a.kind==10)=false:=ik.2 k10;have f11:(a.kind==11)=false:=ik.2 k11;have f8:(a.kind==8)=false:=ik.2 k8;have f6:(a.kind==6)=false:=ik.2 k6;have f7:(a.kind==7)=false:=ik.2 k7;have f9:(a.kind==9)=true:=by rw[k9];rfl
   obtain⟨jx1,jx2,jx3,jx4,jx5,jx6,jx7,jx8,jx9,jx10,jx11,jx12,jx13,jx14,jx15,jx16⟩:=j;dsimp only at hdf X;subst hdf;go_enter Tryz.func9,Tryz.ntmps9
   go_upto_region 1 with (first|(refine Zbx ?_;clear X;intro g w X)|(refine ZyL ?_)| (refine ZyS ?_;clear X;intro w X)| (refine ZyA ?_;clear X;intro g w X))
   go_upto_region 23 with (first|(refine ZyL ?_)| (refine ZyS ?_;clear X;intro w X)| (refine ZyA ?_;clear X;intro g w X))
   have hC:=hid (ky5 K F1.out (X.perm (k9_ _ _ _ _ _)) a.b)
   go_wp2_with (first|(refine ZyL ?_)| (refine ZyS ?_;clear X;intro w X)| (refine ZyA ?_;clear X;intro g w X)|(go_at_call 38;((with_reducible refine(hC.out).mono ?_);rintro e w1 ⟨M2,R2,rfl,F2,X2⟩;replace X:=X2.perm (k_9 _ _ _ _);clear X2)))
   exact eu
  have hD:doJ j a=noJ (j98 {j with acts:=j.acts+1} a):=by unfold doJ;rw[ii h4,ii hkk,ii k10,ii k11,ii k8,ii hd,ii k6,ii k7,ii k9]
  replace hD:=hid hD;have f10:(a.kind==10)=false:=ik.2 k10;have f11:(a.kind==11)=false:=ik.2 k11;have f8:(a.kind==8)=false:=ik.2 k8;have f6:(a.kind==6)=false:=ik.2 k6;have f7:(a.kind==7)=false:=ik.2 k7;have f9:(a.kind==9)=false:=ik.2 k9;obtain⟨jx1,jx2,jx3,jx4,jx5,jx6,jx7,jx8,jx9,jx10,jx11,jx12,jx13,jx14,jx15,jx16⟩:=j;dsimp only at hdf X;subst hdf;go_enter Tryz.func9,Tryz.ntmps9
  go_upto_region 1 with (first|(refine Zbx ?_;clear X;intro g w X)|(refine ZyL ?_)| (refine ZyS ?_;clear X;intro w X)| (refine ZyA ?_;clear X;intro g w X))
  go_upto_region 24 with (first|(refine ZyL ?_)| (refine ZyS ?_;clear X;intro w X)| (refine ZyA ?_;clear X;intro g w X))
  have hC:=hid (kS9 K F1.out (X.perm (k9_ _ _ _ _ _)) a hs aa rfl)
  go_wp2_with (first|(refine ZyL ?_)| (refine ZyS ?_;clear X;intro w X)| (refine ZyA ?_;clear X;intro g w X)|(go_at_call 39;((with_reducible refine(hC.out).mono ?_);rintro e w1 ⟨M2,R2,rfl,F2,X2⟩;replace X:=X2.perm (k_9 _ _ _ _);clear X2))|(go_at_call 32;((with_reducible refine(hNo.out _ _).mono ?_);rintro e w1 ⟨rfl,hb1⟩;replace X:=X.call hb1;clear hb1)))
  exact eu
end Go.Proofs.YtlecmdajpfkaeaaGreatDoor
namespace Wb
open Go Go.RowKit
variable{S:List Nat}{w0 w:World}{L:List Ent}{R R2:List Rd}
theorem St.lessR(X:St S w0 w L (R2++R)):St S w0 w L R:=⟨X.mv,X.nd,X.blk,X.own,fun r hr=>X.rd r (ip _ hr)⟩
theorem kB_{α:Type}(a:α)(M L:List α):(a::(M++L)).Perm (M++(a::L)):=ko [a] M L
theorem kA_{j:Jn}(a:Aj)(h:0<=j.acts):0<=(doJ j a).1.acts:=by
 rw[kW0];split<;>omega
theorem kG4:0<=newJ.acts:=ae
end Wb
namespace Go.Proofs.YtlecmdajpfkaeaaGreatDoor
open Go.RowKit Wb
theorem ks7(K : JK){S : List Nat}{w0 w : World}{L : List Ent}{R : List Rd}{gj : Nat}{j : Jn}{M : List Ent}{Rj : List Rd}(F : JF gj j M Rj)(X : St S w0 w (M ++ L) (Rj ++ R))(hF : flR 0 ∈ R)(a : Aj)(hs : a.text.size <= 9223372036854775807)(hn : a.n <= 9223372036854775807)(ha : 0 <= j.acts)(vs : List Value)(hv : ajC a = vs){c n : Int}{t : ByteArray}(hr : (doJ j a).2 = ⟨c, n, t⟩) :Calls Tryz.prog 9 #[.pointer (some ⟨gj,0,none⟩),.agg vs.toArray] w fun e w'=>∃M' Rj',e=.returned (.agg #[.int .i64 c,.int .i64 n,.string t])/\JF gj (doJ j a).1 M' Rj'/\St S w0 w' (M'++L) (Rj'++R):=by
 subst hv;refine(ks6 K F X hF a hs hn ha).mono ?_;rintro e w' ⟨M',Rj',rfl,hJ,hX⟩;exact⟨M',Rj',by rw[hr];rfl,hJ,hX⟩
theorem kz7:Elem Tryz.prog 23 32 3 32:=kj_ (z:=.agg #[.int .i64 0,.int .i64 0,.string ⟨#[]⟩]) Tryz.underlying23 af rfl
theorem kK0(l:List Aj):∀k,0<=(jAt l k).acts:=by
 intro k;unfold jAt;generalize hj:newJ=j;have h0:0<=j.acts:=by rw[<-hj];exact kG4
 clear hj
 induction l.take k generalizing j with
 |nil=>exact h0
 |cons a r ih=>exact ih _ (kA_ a h0)
theorem k_1{S : List Nat}{w0 w : World}{L : List Ent}{R : List Rd}(X : St S w0 w L R){al : Option Addr}{n cl : Nat}(h4 : 400 < n) :Calls Tryz.prog 5 #[.slice al n cl] w fun e w'=>e=.returned (.tuple #[.slice none 0 0,.int .i64 11])/\St S w0 w' L R:=by
 have c1:(400:Int)<(n:Int):=aa;go_enter Tryz.func5,Tryz.ntmps5
 go_wp2_with (first|(refine ZyL ?_)| (refine ZyS ?_;clear X;intro w X)| (refine ZyA ?_;clear X;intro g w X))
 go_ret2;exact⟨rfl,X⟩
theorem kC6(K : JK){S : List Nat}{w0 w : World}{L : List Ent}{R : List Rd}(l : List Aj)(hok : ∀ a ∈ l, a.text.size <= 9223372036854775807 /\ a.n <= 9223372036854775807)(X : St S w0 w L R)(hF : flR 0 ∈ R){al : Option Addr}{cl : Nat}(hl : kj2 ajC (.slice al l.length cl) l ∈ R)(h4 : l.length <= 400) :Calls Tryz.prog 5 #[.slice al l.length cl] w fun e w'=>∃ao co Mo,e=.returned (.tuple #[.slice ao l.length co,.int .i64 0])/\j4_ kB3 32 3 (.slice ao l.length co) (repsOf newJ l) Mo/\St S w0 w' (Mo++L) R:=by
 have hN:=hid (kC5 K X);replace hok:=hid hok;have c1:¬(400:Int)<(l.length:Int):=aa;go_enter Tryz.func5,Tryz.ntmps5
 go_wp2_with (first|(refine ZyL ?_)| (refine ZyS ?_;clear X;intro w X)| (refine ZyA ?_;clear X;intro g w X)|(go_at_call 8;((with_reducible refine(hN.out).mono ?_);rintro e w1 ⟨gj,M,Rj,rfl,F,X2⟩;replace X:=X2;clear X2)))
 clear hN c1
 go_loopw [5,14] (fun v i wr=>∃(k:Nat) (M:List Ent) (Rj:List Rd) (Mo:List Ent),k<=l.length/\i=.int .i64 k/\JF gj (jAt l k) M Rj/\j4_ kB3 32 3 v (kF5 l k) Mo/\St S w0 wr (M++(Mo++L)) (Rj++R)) (fun _ i _=>l.length-(intOf i).toNat)
 case atStart=>exact⟨0,M,Rj,[],iq _,rfl,F,j4_.nil _ _ _,X⟩
 case round=>
  clear X F;obtain⟨k,M,Rj,Mo,hk1,rfl,F,hO,X⟩:=hrel;obtain⟨ao,co,rfl⟩:=hO.form;by_cases hlt:k<l.length
  ·obtain⟨b4,off4,hb4,d0,d1,d2,d3,d4⟩:=kk5 (X.read (ip _ hl)) hlt;subst hb4;have hoka:=hok.out _ (iM hlt);have hD:=fun(w:World) (L:List Ent) (X:St S w0 w (M++L) (Rj++R))=>ks7 K F X hF l[k] hoka.1 hoka.2 (kK0 l k) [.int .i64 l[k].kind,.int .i64 l[k].h,.int .i64 l[k].b,.int .i64 l[k].n,.string l[k].text] rfl (c:=(doJ (jAt l k) l[k]).2.code) (n:=(doJ (jAt l k) l[k]).2.n) (t:=(doJ (jAt l k) l[k]).2.text) rfl;rw[<-jn7 hlt] at hD;replace hD:=hid hD;clear hoka;have hrl:=k34 hk1;have hrs:=je3 hlt;rw[show(doJ (jAt l k) l[k]).2=⟨(doJ (jAt l k) l[k]).2.code,(doJ (jAt l k) l[k]).2.n,(doJ (jAt l k) l[k]).2.text⟩ from rfl] at hrs;generalize (doJ (jAt l k) l[k]).2.code=rc,(doJ (jAt l k) l[k]).2.n=rn,(doJ (jAt l k) l[k]).2.text=rt at hD hrs;replace hrs:=hid hrs;replace hrl:=hid hrl
   go_upto_region 8 with (first|(refine ZyL ?_)| (refine ZyS ?_;clear X;intro w X)| (refine ZyA ?_;clear X;intro g w X))
   go_wp2_with (first|(refine ZyL ?_)| (refine ZyS ?_;clear X;intro w X)| (refine ZyA ?_;clear X;intro g w X)|(go_at_call 9;((with_reducible refine(hD.out _ _ (X.perm (kB_ _ _ _))).mono ?_);rintro e w1 ⟨M2,R2,rfl,F2,X2⟩;replace X:=X2.perm (kB_ _ _ _).symm;clear X2))|(at_builtin;(refine kC9 (_::M2) rfl _ _ _ rfl 32 kO5 kz7 X hO rfl ⟨rc,rn,rt⟩ rfl rfl (by rw[hrl.out];omega) (by unfold maxLen;rw[hrl.out];omega) ?_);intro a7 c7 w7 M7 hO7 X7;simp only[iu,iw] at X7;replace X:=X7;clear X7))
   rw[<-hrs.out] at hO7;go_roundw
   case rel=>exact⟨k+1,M2,R2,M7,aa,an,F2,hO7,X.sub (iQ _ _)⟩
   case measure=>simp[intOf];omega
  ·have hk:k=l.length:=by omega
   subst hk;rw[k34 (iy _)] at hO⊢;rw[kF6] at hO
   go_wp2_with (first|(refine ZyL ?_)| (refine ZyS ?_;clear X;intro w X)| (refine ZyA ?_;clear X;intro g w X))
   first|exact iL (results_tmp2 rfl _ _ _) rfl ⟨_,_,_,rfl,hO,(X.sub (jD _ _)).lessR⟩|exact iL (results_tmp2 rfl _ _ _) rfl ⟨_,_,rfl,_,hO,(X.sub (jD _ _)).lessR⟩
theorem jK(hScan:k72):JK where
 fit:=fun s w h=>jo6 s w h
 dnew:=fun w=>kI1 w
 put:=fun d n t v w h=>kU4 d n t v w h
 flush:=fun d v w h=>ja2 d v w h
 crash:=fun d x v w h hx=>ja1 d x v w h hx
 read:=fun d n v w h=>jA8 d n v w h
 enc:=fun m v w h=>j32 m v w h
 free:=fun r w h0 h1=>je5 r w h0 h1
 give:=fun r n w=>kO8 r n w
 beg:=fun t h nn fr vm vd vr w ht=>kM5 t h nn fr vm vd vr w ht
 stop:=fun t h vm vd vr w ht=>kD2 t h vm vd vr w ht
 chg:=fun t h b s vm vd vr w ht=>kX_ t h b s vm vd vr w ht
 fil:=fun t h b s vm vd vr w ht=>kD1 t h b s vm vd vr w ht
 rvk:=fun t h b vm vd vr w ht=>kX0 t h b vm vd vr w ht
 get:=fun l b v w h hl=>kM6 l b v w h hl
 opn:=fun t v w h=>jB2 t v w h
 com:=fun r t v w h hF=>k85 r t v w h hF
 newest:=fun l hg v w h=>k86 l hg v w h
 check:=fun l p q v w h hl hF=>kY7 l p q v w h hl hF
 replay:=fun l hg v w h=>k84 l hg v w h
 scan:=fun d v w h=>(hScan d v w h).mono fun e w' ⟨v',he,hf,hb⟩=>by
  obtain⟨vt,hv,ho⟩:=hf;subst hv;exact⟨vt,he,ho,hb⟩
end Go.Proofs.YtlecmdajpfkaeaaGreatDoor