/- Parts of the proof. -/
import Derived.Test.YtlecmdajpfkaeaaGreatDoorKJournalRuns10
set_option linter.unusedVariables false
set_option linter.unusedSimpArgs false
set_option maxRecDepth 100000
set_option maxHeartbeats 40000000
namespace Wb
open Go Go.RowKit
theorem rdS{w:World}{d:Dsk}{vs vw:Value}(h:j_7 w (.agg #[vs,vw]) d):RL j42 w vs d.safe:=by
 obtain⟨_,_,he,h1,_⟩:=h
 cases he
 exact h1
theorem rdW{w:World}{d:Dsk}{vs vw:Value}(h:j_7 w (.agg #[vs,vw]) d):RL wrC w vw d.writes:=by
 obtain⟨_,_,he,_,h1,_⟩:=h
 cases he
 exact h1
theorem rtM{w:World}{t:Txn}{vm vd vr:Value}(h:j17 w (j84 t vm vd vr) t):RL j_3 w vm t.mt/\RL j_3 w vd t.dt/\RL j_9 w vr t.rev:=by
 obtain⟨_,_,_,he,h1,h2,h3,_⟩:=h;unfold j84 at he;simp only[jo,jt,jh] at he;obtain⟨_,rfl,rfl,rfl,_⟩:=he;exact⟨h1,h2,h3⟩
end Wb
namespace Go.Proofs.YtlecmdajpfkaeaaGreatDoor
open Go.RowKit Wb
theorem ky3{S : List Nat}{w0 w : World}{L : List Ent}{R : List Rd}{g : Nat}{j : Jn}{M : List Ent}{Rj : List Rd}(F : JF g j M Rj)(X : St S w0 w (M ++ L) (Rj ++ R)) :Calls Tryz.prog 14 #[.pointer (some ⟨g,0,none⟩)] w fun e w'=>∃a1 c1 a2 c2,e=.returned (.agg #[.slice a1 j.disk.safe.length c1,.slice a2 j.disk.writes.length c2])/\St S w0 w' (M++L) (kj2 wrC (.slice a2 j.disk.writes.length c2) j.disk.writes::kj2 j42 (.slice a1 j.disk.safe.length c1) j.disk.safe::(Rj++R)):=by
 obtain⟨v,ds,fs,MD,MU,hm,rfl,rfl⟩:=F;have hsz:=hm.inv.sz hm.sz;have hln:=jU4 hsz.dk;rw[iu] at X⊢;have hDk:=fun(w:World) (L2:List Ent) (R2:List Rd) (X:St S w0 w L2 (R2++(jRds v j ds fs++R)))=>X.jDisk hsz.dk (fun r hr=>ip _ (iv _ hr));unfold j85 at X⊢;have hCs:=fun v w h=>jT5 j.disk.safe v w h (by have:=hln.1;omega);have hCw:=fun v w h=>jF6 j.disk.writes v w h (by have:=hln.2;omega);generalize jRds v j ds fs++R=RR at*;generalize MD++MU++L=LL at*;clear hln;replace hCs:=hid hCs;replace hCw:=hid hCw;replace hDk:=hid hDk;go_enter Tryz.func14,Tryz.ntmps14
 go_upto_region 3 with (first|(refine ZeL ?_)| (refine ZeS ?_;clear X;intro w X)| (refine ZeA ?_;clear X;intro g w X))
 have X9:=X.perm (.swap _ _ _);clear X;have X:=X9;clear X9;(refine j__ 1 [] [5,11,13] [4,10] [0,1,2,3,4,6,7,8,9,10,5,11,12,13] X ?_;clear X;intro hQ X hL;simp only[zF,zG] at hL;simp only[zF,zG]);refine Zm ?_;refine Zn ?_;refine Zf ?_;refine Zf ?_;refine Zl ?_;refine Zm ?_;refine Zn ?_;refine Zf ?_;refine Zf ?_;refine Zl ?_;(refine j_0 43 Tryz.func43 (hCs.out _ _ (rdS (hDk.out _ _ [] X))) ?_;rintro e w1 ⟨v1,rfl,ho1,hb1⟩;obtain⟨a1,c1,rfl⟩:=ho1.form;replace X:=X.addOwn hb1 ho1;clear hb1 ho1;refine Zce ?_;clear hL;intro hL);(refine j_0 44 Tryz.func44 (hCw.out _ _ (rdW (hDk.out _ _ [_] X))) ?_;rintro e w2 ⟨v2,rfl,ho2,hb2⟩;obtain⟨a2,c2,rfl⟩:=ho2.form;replace X:=X.addOwn hb2 ho2;clear hb2 ho2;refine Zce ?_;clear hL;intro hL);refine Zg ?_;(refine Zs ?_;clear hL X;intro w X hL);refine j90 ?_;go_wp2;exact j93 rfl (.tmp rfl rfl) X (.tail _ (.head _)) rfl rfl ⟨_,_,_,_,rfl,X.sub (List.Sublist.cons_cons _ (iQ _ _))⟩
theorem k05{S : List Nat}{w0 w : World}{L : List Ent}{R : List Rd}{g : Nat}{j : Jn}{M : List Ent}{Rj : List Rd}(F : JF g j M Rj)(X : St S w0 w (M ++ L) (Rj ++ R)) :Calls Tryz.prog 12 #[.pointer (some ⟨g,0,none⟩)] w fun e w'=>∃a1 c1 a2 c2 a3 c3,e=.returned (j84 j.now (.slice a1 j.now.mt.length c1) (.slice a2 j.now.dt.length c2) (.slice a3 j.now.rev.length c3))/\St S w0 w' (M++L) (kj2 j_9 (.slice a3 j.now.rev.length c3) j.now.rev::kj2 j_3 (.slice a2 j.now.dt.length c2) j.now.dt::kj2 j_3 (.slice a1 j.now.mt.length c1) j.now.mt::(Rj++R)):=by
 obtain⟨v,ds,fs,MD,MU,hm,rfl,rfl⟩:=F;have hsz:=hm.inv.sz hm.sz;rw[iu] at X⊢;have hNw:=fun(w:World) (L2:List Ent) (R2:List Rd) (X:St S w0 w L2 (R2++(jRds v j ds fs++R)))=>rtM (X.jNow hsz (fun r hr=>ip _ (iv _ hr)));unfold j85 at X⊢;obtain⟨z1,z2,z3⟩:=hsz.now;have hC1:=fun v w h=>jX_ j.now.mt v w h aa;have hC2:=fun v w h=>jX_ j.now.dt v w h aa;have hC3:=fun v w h=>jS8 j.now.rev v w h aa;generalize jRds v j ds fs++R=RR at*;generalize MD++MU++L=LL at*;clear z1 z2 z3;replace hC1:=hid hC1;replace hC2:=hid hC2;replace hC3:=hid hC3;replace hNw:=hid hNw;go_enter Tryz.func12,Tryz.ntmps12
 go_upto_region 4 with (first|(refine ZyL ?_)| (refine ZyS ?_;clear X;intro w X)| (refine ZyA ?_;clear X;intro g w X))
 (refine j__ 1 [10,12,14] [2,5,8,10,12,14] [1,4,7] [0,1,3,4,6,7,2,9,5,8,10,11,12,13,14] X ?_;clear X;intro hQ X hL;simp only[zF,zG] at hL;simp only[zF,zG]);refine Zf ?_;refine Zl ?_;refine Zf ?_;refine Zl ?_;refine Zf ?_;refine Zl ?_;(refine j_0 41 Tryz.func41 (hC1.out _ _ (hNw.out _ _ [] X).1) ?_;rintro e w1 ⟨v1,rfl,ho1,hb1⟩;obtain⟨a1,c1,rfl⟩:=ho1.form;replace X:=X.addOwn hb1 ho1;clear hb1 ho1;refine Zce ?_;clear hL;intro hL);refine Zf ?_;(refine j_0 41 Tryz.func41 (hC2.out _ _ (hNw.out _ _ [_] X).2.1) ?_;rintro e w2 ⟨v2,rfl,ho2,hb2⟩;obtain⟨a2,c2,rfl⟩:=ho2.form;replace X:=X.addOwn hb2 ho2;clear hb2 ho2;refine Zce ?_;clear hL;intro hL);(refine j_0 42 Tryz.func42 (hC3.out _ _ (hNw.out _ _ [_,_] X).2.2) ?_;rintro e w3 ⟨v3,rfl,ho3,hb3⟩;obtain⟨a3,c3,rfl⟩:=ho3.form;replace X:=X.addOwn hb3 ho3;clear hb3 ho3;refine Zce ?_;clear hL;intro hL);(refine Zb ?_;clear X;intro w X);refine Zf ?_;(refine Zb ?_;clear X;intro w X);refine Zf ?_;(refine Zb ?_;clear X;intro w X);refine j90 ?_
 go_wp2_with (first|(refine ZyL ?_)| (refine ZyS ?_;clear X;intro w X)| (refine ZyA ?_;clear X;intro g w X))
 exact j93 rfl (.tmp rfl rfl) X (.tail _ (.head _)) rfl rfl ⟨_,_,_,_,_,_,rfl,X.sub (.cons _ (.cons _ (kQ _)))⟩
end Go.Proofs.YtlecmdajpfkaeaaGreatDoor