/- Parts of the proof. -/
import Derived.Test.YtlecmdajpfkaeaaGreatDoorKJournalRuns20
import Derived.Test.YtlecmdajpfkaeaaGreatDoorKJournalRuns19
set_option linter.unusedVariables false
set_option linter.unusedSimpArgs false
set_option maxRecDepth 100000
set_option maxHeartbeats 40000000
namespace Go.Proofs.YtlecmdajpfkaeaaGreatDoor
open Go.RowKit Wb
theorem js1(s : ByteArray)(w : World)(hs : okS s)(kk0 : nb s 4 ≠ 1 /\ nb s 4 ≠ 2 /\ nb s 4 ≠ 3) :Calls Tryz.prog 103 #[.string s] w fun e w'=>∃v,e=.returned (.tuple #[v,.int .i64 (decE s)])/\j26 w.heap.size w' v (decM s)/\Below w.heap.size w w':=by
 have kk:=hid kk0;clear kk0;have hE:=fun v w (hm:j1_ w v (rawM s))=>j32 (rawM s) v w hm;have hdn:=fun h=>jo5 (s:=s) h hs;have hd1:=fun h=>jQ_ (s:=s) h;have hd0:=fun h=>jN9 (s:=s) h;have h1:=hs.1;have e1:((s.size:Int) != 32)=false:=dX;have e2:=jf_ hs;have hbt:=fun i (h:i<s.size)=>jr1 s i h;have hnb:∀i,((bt s i).toNat:Int)=nb s i:=fun _=>rfl;have hor:=k41 s;have n0:=j_1 s 5;have n1:=j_1 s 6;have n2:=j_1 s 7;have n3:=j_1 s 8;have n4:=j_1 s 9;have n5:=j_1 s 4;have l0:=j64 s 5;have l1:=j64 s 6;have l2:=j64 s 7;have l3:=j64 s 8;have l4:=j64 s 9;have l5:=j64 s 4;have hP:=fun w'=>j26.plain w.heap.size w' 0 0 0;have r1:=fun(h:nb s 4=1)=>(kq5 h).trans (by rw[<-h]:_=(⟨nb s 4,seqOf s,nb s 9,[],[]⟩:Mrk));have r2:=fun(h:nb s 4=2)=>(kq6 h).trans (by rw[<-h]:_=(⟨nb s 4,seqOf s,0,rawTags s (min (cnt s) 11),[]⟩:Mrk));have r3:=fun(h:nb s 4=3)=>(kq7 h).trans (by rw[<-h]:_=(⟨nb s 4,seqOf s,0,[],rawBlks s (min (cnt s) 22)⟩:Mrk));have r4:=fun h1 h2 h3=>kq8 (s:=s) h1 h2 h3;have hcl:cnt s=(nb s 9).toNat:=by have:=ji2 s;omega
 generalize seqOf s=q at*;replace hE:=hid hE;replace hdn:=hid hdn;replace hd1:=hid hd1;replace hd0:=hid hd0;replace hP:=hid hP;replace r1:=hid r1;replace r2:=hid r2;replace r3:=hid r3;replace r4:=hid r4;replace hcl:=hid hcl;clear hs;go_enter Tryz.func103,Tryz.ntmps103;go_wp2
 go_region
 clear hor n0 n1 n2 n3 l0 l1 l2 l3;have k0:Blk ((w.alloc (.cells #[.int .i64 0,.int .i64 0,.int .i64 0,.slice none 0 0,.slice none 0 0] 67)).alloc (.cells #[.int .i64 (nb s 4),.int .i64 q,.int .i64 0,.slice none 0 0,.slice none 0 0] 67)).drew w.heap.size #[.int .i64 0,.int .i64 0,.int .i64 0,.slice none 0 0,.slice none 0 0] 67:=((kk3 w _ _).alloc _).drew;have k1:Blk ((w.alloc (.cells #[.int .i64 0,.int .i64 0,.int .i64 0,.slice none 0 0,.slice none 0 0] 67)).alloc (.cells #[.int .i64 (nb s 4),.int .i64 q,.int .i64 0,.slice none 0 0,.slice none 0 0] 67)).drew (w.heap.size+1) #[.int .i64 (nb s 4),.int .i64 q,.int .i64 0,.slice none 0 0,.slice none 0 0] 67:=(kl8 (w:=w.alloc _) ag).drew;have nx:Below w.heap.size w ((w.alloc (.cells #[.int .i64 0,.int .i64 0,.int .i64 0,.slice none 0 0,.slice none 0 0] 67)).alloc (.cells #[.int .i64 (nb s 4),.int .i64 q,.int .i64 0,.slice none 0 0,.slice none 0 0] 67)).drew:=(bal (bal (b0 w) _) _).drew;generalize ((w.alloc (.cells #[.int .i64 0,.int .i64 0,.int .i64 0,.slice none 0 0,.slice none 0 0] 67)).alloc (.cells #[.int .i64 (nb s 4),.int .i64 q,.int .i64 0,.slice none 0 0,.slice none 0 0] 67)).drew=wa at*;have ltm:=k1.lt;have m0:=k1.cell 0;have m1:=k1.cell 1;have m2:=k1.cell 2;have m3:=k1.cell 3;have m4:=k1.cell 4;have f0:=k1.free 0;have f1:=k1.free 1;have f2:=k1.free 2;have f3:=k1.free 3;have f4:=k1.free 4;simp only[Zga,Zgb,Zgc] at m0 m1 m2 m3 m4
 go_upto_block 0 with fail
 go_cut [] (fun wx=>jR7 s w wx)
 case first=>
  obtain⟨k1',k2',k3'⟩:=kk.out;have b1:(nb s 4==1)=false:=ik.2 k1';have b2:(nb s 4==2)=false:=ik.2 k2';have b3:(nb s 4==3)=false:=ik.2 k3';have hR:=hid (r4.out k1' k2' k3');clear k1' k2' k3';go_wp2;go_meet;exact kj1 hR.out (Own.nil _ _ _ _ _) (Own.nil _ _ _ _ _) k0 k1 nx
 case rest=>
  exact d_
end Go.Proofs.YtlecmdajpfkaeaaGreatDoor