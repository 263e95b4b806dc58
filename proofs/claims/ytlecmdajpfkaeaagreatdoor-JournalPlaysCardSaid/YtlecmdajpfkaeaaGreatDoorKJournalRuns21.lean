/- Parts of the proof. -/
import Derived.Test.YtlecmdajpfkaeaaGreatDoorKJournalRuns20
import Derived.Test.YtlecmdajpfkaeaaGreatDoorKJournalRuns19
set_option linter.unusedVariables false
set_option linter.unusedSimpArgs false
set_option maxRecDepth 100000
set_option maxHeartbeats 40000000
namespace Go.Proofs.YtlecmdajpfkaeaaGreatDoor
open Go.RowKit Wb
theorem js_(s : ByteArray)(w : World)(hs : okS s)(kk0 : nb s 4 = 2) :Calls Tryz.prog 103 #[.string s] w fun e w'=>∃v,e=.returned (.tuple #[v,.int .i64 (decE s)])/\j26 w.heap.size w' v (decM s)/\Below w.heap.size w w':=by
 have kk:=hid kk0;clear kk0;have hE:=fun v w (hm:j1_ w v (rawM s))=>j32 (rawM s) v w hm;have hdn:=fun h=>jo5 (s:=s) h hs;have hd1:=fun h=>jQ_ (s:=s) h;have hd0:=fun h=>jN9 (s:=s) h;have h1:=hs.1;have e1:((s.size:Int) != 32)=false:=dX;have e2:=jf_ hs;have hbt:=fun i (h:i<s.size)=>jr1 s i h;have hnb:∀i,((bt s i).toNat:Int)=nb s i:=fun _=>rfl;have hor:=k41 s;have n0:=j_1 s 5;have n1:=j_1 s 6;have n2:=j_1 s 7;have n3:=j_1 s 8;have n4:=j_1 s 9;have n5:=j_1 s 4;have l0:=j64 s 5;have l1:=j64 s 6;have l2:=j64 s 7;have l3:=j64 s 8;have l4:=j64 s 9;have l5:=j64 s 4;have hP:=fun w'=>j26.plain w.heap.size w' 0 0 0;have r1:=fun(h:nb s 4=1)=>(kq5 h).trans (by rw[<-h]:_=(⟨nb s 4,seqOf s,nb s 9,[],[]⟩:Mrk));have r2:=fun(h:nb s 4=2)=>(kq6 h).trans (by rw[<-h]:_=(⟨nb s 4,seqOf s,0,rawTags s (min (cnt s) 11),[]⟩:Mrk));have r3:=fun(h:nb s 4=3)=>(kq7 h).trans (by rw[<-h]:_=(⟨nb s 4,seqOf s,0,[],rawBlks s (min (cnt s) 22)⟩:Mrk));have r4:=fun h1 h2 h3=>kq8 (s:=s) h1 h2 h3;have hcl:cnt s=(nb s 9).toNat:=by have:=ji2 s;omega
 generalize seqOf s=q at*;replace hE:=hid hE;replace hdn:=hid hdn;replace hd1:=hid hd1;replace hd0:=hid hd0;replace hP:=hid hP;replace r1:=hid r1;replace r2:=hid r2;replace r3:=hid r3;replace r4:=hid r4;replace hcl:=hid hcl;clear hs;go_enter Tryz.func103,Tryz.ntmps103;go_wp2
 go_region
 clear hor n0 n1 n2 n3 l0 l1 l2 l3;have k0:Blk ((w.alloc (.cells #[.int .i64 0,.int .i64 0,.int .i64 0,.slice none 0 0,.slice none 0 0] 67)).alloc (.cells #[.int .i64 (nb s 4),.int .i64 q,.int .i64 0,.slice none 0 0,.slice none 0 0] 67)).drew w.heap.size #[.int .i64 0,.int .i64 0,.int .i64 0,.slice none 0 0,.slice none 0 0] 67:=((kk3 w _ _).alloc _).drew;have k1:Blk ((w.alloc (.cells #[.int .i64 0,.int .i64 0,.int .i64 0,.slice none 0 0,.slice none 0 0] 67)).alloc (.cells #[.int .i64 (nb s 4),.int .i64 q,.int .i64 0,.slice none 0 0,.slice none 0 0] 67)).drew (w.heap.size+1) #[.int .i64 (nb s 4),.int .i64 q,.int .i64 0,.slice none 0 0,.slice none 0 0] 67:=(kl8 (w:=w.alloc _) ag).drew;have nx:Below w.heap.size w ((w.alloc (.cells #[.int .i64 0,.int .i64 0,.int .i64 0,.slice none 0 0,.slice none 0 0] 67)).alloc (.cells #[.int .i64 (nb s 4),.int .i64 q,.int .i64 0,.slice none 0 0,.slice none 0 0] 67)).drew:=(bal (bal (b0 w) _) _).drew;generalize ((w.alloc (.cells #[.int .i64 0,.int .i64 0,.int .i64 0,.slice none 0 0,.slice none 0 0] 67)).alloc (.cells #[.int .i64 (nb s 4),.int .i64 q,.int .i64 0,.slice none 0 0,.slice none 0 0] 67)).drew=wa at*;have ltm:=k1.lt;have m0:=k1.cell 0;have m1:=k1.cell 1;have m2:=k1.cell 2;have m3:=k1.cell 3;have m4:=k1.cell 4;have f0:=k1.free 0;have f1:=k1.free 1;have f2:=k1.free 2;have f3:=k1.free 3;have f4:=k1.free 4;simp only[Zga,Zgb,Zgc] at m0 m1 m2 m3 m4
 go_upto_block 0 with fail
 go_cut [] (fun wx=>jR7 s w wx)
 case first=>
  have k2':=kk.out;have k1':nb s 4≠1:=aa;have b1:(nb s 4==1)=false:=ik.2 k1';have hR:=hid (r2.out k2');have b2:(nb s 4==2)=true:=iT.2 k2';replace k2':=hid k2';clear k1';go_wp2
  go_loopw [5,6] (fun n i wr=>∃k:Nat,k<=11/\(k:Int)<=nb s 9/\i=.int .i64 ((10+2*k:Nat):Int)/\n=.int .i64 (nb s 9-k)/\ ∃vo,Wb.Own jK_ (w.heap.size+2) 103 2 wr vo (rawTags s k)/\Blk wr w.heap.size #[.int .i64 0,.int .i64 0,.int .i64 0,.slice none 0 0,.slice none 0 0] 67/\Blk wr (w.heap.size+1) #[.int .i64 (nb s 4),.int .i64 q,.int .i64 0,vo,.slice none 0 0] 67/\Below w.heap.size w wr) (fun _ i _=>33-(intOf i).toNat)
  case atStart=>exact⟨0,ae,n4,rfl,(by congr 1<;>omega),_,Own.nil _ _ _ _ _,k0,k1,nx⟩
  case round=>as_aux_lemma=>
   obtain⟨k,j1,j2,rfl,rfl,vo,hown,kr,km,nxr⟩:=hrel;obtain⟨ao,capo,rfl⟩:=hown.form;have hjl:=j5_ s k;rw[hjl] at hown km;have ltr:=kr.lt;have ltm2:=km.lt;clear m0 m1 m2 m3 m4 f0 f1 f2 f3 f4 k0 k1 nx ltm;have m0:=km.cell 0;have m1:=km.cell 1;have m2:=km.cell 2;have m3:=km.cell 3;have m4:=km.cell 4;simp only[Zga,Zgb,Zgc] at m0 m1 m2 m3 m4;have f3:=km.free 3;by_cases hC:(k:Int)<nb s 9/\k<11
   ·obtain⟨hA,hB⟩:=hC;have hst:=hid (kM1 s k);have hjl:=hid hjl;have nj:=j_1 s (10+2*k);have lj:=j64 s (10+2*k);have hjz:10+2*k<s.size:=aa;have hjz1:11+2*k<s.size:=aa;generalize rawTags s k=L at*;have hwj:IntKind.i64.wrap (nb s (10+2*k))=nb s (10+2*k):=iz _ aa;have hwk:IntKind.i64.wrap (((10+2*k:Nat):Int)+1)=((10+2*k:Nat):Int)+1:=iz _ aa;have hnn:((((10+2*k:Nat):Int)+1)).toNat=10+2*k+1:=aa;have hg1:0<nb s 9-(k:Int):=aa;generalize hp:10+2*k=p at*;have hg2:(p:Int)+1<32:=aa;have hg3:p<32:=aa;have hg4:p+1<32:=aa;have hg5:(p:Int)<32:=aa;have hg6:0<=(p:Int)+1:=aa;have hjz1:p+1<s.size:=aa;replace hp:=hid hp;go_wp2
    go_region_law (first| (refine jW7 ay _ _ 65 ay (w.heap.size+2) _ 2 16 jI2 kU6 ((hown.alloc _).drew) ay ⟨nb s p,nb s (p+1)==1⟩ wr.heap.size ((kl8 (w:=wr) rfl).drew) ay ay k hjl.out aa aa (by(try simp);omega) ?_;intro a4 cap4 w4 hown4 hb4 _;have k4:=((km.alloc _).drew).below hb4 aa;have g4:=k4.cell 3;simp only[Zga,Zgb,Zgc] at g4;have f4:=k4.free 3;have kr4:=((kr.alloc _).drew).below hb4 aa;have nx4:=((bal nxr _).drew).trans (hb4.mono aa)))
    all_goals
     go_wp2
     have htag:(⟨nb s p,nb s (p+1)==1⟩:Tag)=jd9 s k:=by
      unfold jd9;rw[<-hp.out,show 10+2*k+1=11+2*k from aa];rfl
     rw[htag,<-hst.out] at hown4
     have hpk:=hp.out
     go_roundw
     case rel=>
      exact⟨k+1,aa,aa,(by congr 1;omega),(by congr 1<;>omega),_,hown4.setCell (p:=⟨w.heap.size+1,3,none⟩) ag _,kr4.set_other _ _ ag,k4.set 3 _,nx4.setCell ag _⟩
     case measure=>simp[intOf];omega
   ·have hfin : k = min (cnt s) 11 := by
      have:=hcl.out;omega
    have hg:nb s 9-(k:Int)<=0\/(0<nb s 9-(k:Int)/\k=11):=aa;clear hC;have hD:jR7 s w wr:=kj1 hR.out (by rw[<-hfin];exact hown) (Own.nil _ _ _ _ _) kr km nxr;replace hfin:=hid hfin;replace hD:=hid hD;rcases hg with hg|⟨hg,hg2⟩
    ·go_wp2;go_meet;exact hD.out
    ·subst hg2;go_wp2;go_meet;exact hD.out
 case rest=>as_aux_lemma=>
  exact d_
end Go.Proofs.YtlecmdajpfkaeaaGreatDoor