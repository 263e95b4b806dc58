/- Parts of the proof. -/
import Derived.Test.YtlecmdajpfkaeaaGreatDoorKJournalRuns20
import Derived.Test.YtlecmdajpfkaeaaGreatDoorKJournalRuns21
import Derived.Test.YtlecmdajpfkaeaaGreatDoorKJournalRuns22
import Derived.Test.YtlecmdajpfkaeaaGreatDoorKJournalRuns23
set_option linter.unusedVariables false
set_option linter.unusedSimpArgs false
set_option maxRecDepth 100000
set_option maxHeartbeats 40000000
namespace Go.Proofs.YtlecmdajpfkaeaaGreatDoor
open Go.RowKit Wb
theorem jv8(s : ByteArray)(w : World)(hs : okS s) :Calls Tryz.prog 103 #[.string s] w fun e w'=>∃v,e=.returned (.tuple #[v,.int .i64 (decE s)])/\j26 w.heap.size w' v (decM s)/\Below w.heap.size w w':=by
 by_cases k1:nb s 4=1
 ·exact jt9 s w hs k1
 by_cases k2:nb s 4=2
 ·exact js_ s w hs k2
 by_cases k3:nb s 4=3
 ·exact js0 s w hs k3
 exact js1 s w hs ⟨k1,k2,k3⟩
theorem jk2(s : ByteArray)(w : World)(hz : s.size <= 9223372036854775807) :Calls Tryz.prog 103 #[.string s] w fun e w'=>∃v,e=.returned (.tuple #[v,.int .i64 (decE s)])/\j26 w.heap.size w' v (decM s)/\Below w.heap.size w w':=by
 by_cases h:okS s
 ·exact jv8 s w h
 ·exact jv7 s w h hz
end Go.Proofs.YtlecmdajpfkaeaaGreatDoor
namespace Wb
open Go Go.RowKit
theorem Own.blk_ne{α:Type}{f:α->List Value}{base:Nat}{e:TypeId}{c:Nat}{w:World}{v:Value}{l:List α}(h:Own f base e c w v l){b:Nat}{cs:Array Value}{t:TypeId}(hb:Blk w b cs t)(hne:e≠t):some b≠v.ownBlock:=by
 intro hh;obtain⟨cur,hc⟩:=h.cellsOf hh.symm;unfold Blk at hb;rw[hc] at hb;simp only[iO,mu] at hb;exact hne hb.2.1
theorem kn8{α:Type}{f:α->List Value}{base:Nat}{e:TypeId}{c:Nat}{w w1 w2:World}{row:Option Nat}{v:Value}{l:List α}(h:w.grownBy w1 row)(h2:w1.grownBy w2 v.ownBlock)(ho:Own f base e c w1 v l)(hb:w.heap.size<=base):w.grownBy w2 row:=
 ⟨h2.os.trans h.os,h2.tape.trans h.tape,h2.output.trans h.output,i3 h.size h2.size,fun k hk hne=>(h2.block k (ir hk h.size) (fun hh=>by have:=(jE ho k hh.symm).1;omega)).trans (h.block k hk hne)⟩
theorem jU3{w w1:World}{row:Option Nat}(h:w.grownBy w1 row)(o:Obj):w.grownBy (w1.alloc o) row:=jK4 h (World.grownBy_alloc w1 o row)
theorem jn4{w:World}{row:Option Nat}:∀(ps:List (Addr×Value)) (w':World),w.grownBy w' row->(∀p∈ps,w.heap.size<=p.1.block)->w.grownBy (ps.foldl (fun w p=>w.setCell p.1 p.2) w') row
 | [],_,h,_=>h
 |p::ps,w',h,hp=>jn4 ps _ (⟨h.os,h.tape,h.output,by simpa using h.size,fun k hk hne=>by rw[k_ w' p.1 p.2 k (fun hh=>by have:=hp p ag;omega)];exact h.block k hk hne⟩) (fun q hq=>hp q (by simp[hq]))
theorem Blk.setCells{b:Nat}{cs:Array Value}{t:TypeId}:∀(ps:List (Addr×Value)) (w:World),Blk w b cs t->(∀p∈ps,b≠p.1.block)->Blk (ps.foldl (fun w p=>w.setCell p.1 p.2) w) b cs t
 | [],_,h,_=>h
 |p::ps,_,h,hp=>Blk.setCells ps _ (h.set_other p.1 p.2 (hp p ag)) (fun q hq=>hp q (by simp[hq]))
theorem ko9{w w1:World}{row:Option Nat}(h:w.grownBy w1 row):w.grownBy w1.drew row:=⟨h.os,h.tape,h.output,h.size,h.block⟩
theorem ja7{w w1 w2:World}{row:Option Nat}(h:w.grownBy w1 row)(h2:Below w1.heap.size w1 w2):w.grownBy w2 row:=jK4 h (gB h2 row)
theorem kZ1(seq : Int)(n : Nat)(s : ByteArray)(r : List ByteArray)(t : Txn) : j_6 seq (n + 1) (s :: r) t = if decE s = 0 /\ (decM s).seq = seq then if(decM s).kind=4 then some (t,r) else if(decM s).kind=3 then j_6 seq n r {t with rev:=t.rev++(decM s).blocks} else if (decM s).kind = 2 then match j_8 (decM s).tags r t.mt with
        |some (mt,r')=>j_6 seq n r' {t with mt:=mt}
        |none=>none
      else none
    else none:=rfl
end Wb
namespace Go.Proofs.YtlecmdajpfkaeaaGreatDoor
open Go.RowKit Wb
def jI8:Prop:=∀(s:ByteArray) (w:World),s.size<=9223372036854775807->Calls Tryz.prog 103 #[.string s] w fun e w'=>∃v,e=.returned (.tuple #[v,.int .i64 (decE s)])/\j26 w.heap.size w' v (decM s)/\Below w.heap.size w w'
def kn5(seq:Int)(r0:List ByteArray)(br:Nat)(vs vw:Value)(A:Int)(w:World)(e:Ending)(w':World):Prop:=
 (∃t r',j_6 seq 25 r0 (j2_ seq)=some (t,r')/\ ∃v,e=.returned (.tuple #[v,.bool true])/\jR0 w.heap.size 93 3 w' v t/\Blk w' br (jf7 vs vw A r'.length) 148/\w.grownBy w' (some br))\/
 (j_6 seq 25 r0 (j2_ seq)=none/\e=.returned (.tuple #[.agg #[.int .i64 0,.slice none 0 0,.slice none 0 0,.slice none 0 0,.bool false,.int .i64 0,.bool false,.int .i64 0,.bool false,.int .i64 0],.bool false])/\ ∃n,Blk w' br (jf7 vs vw A n) 148/\w.grownBy w' (some br))
theorem ec{A:Prop}(h:A:=by
 go_wp2_with ((go_at_call 138;((with_reducible refine(hN1.out s r _ (hd.out.below nx) kb hs.out).mono ?_);rintro e w1 ⟨rfl,kb1,gn⟩;replace om:=om.grownBlk kb ae gn;replace or_:=or_.grownBlk kb ae gn;replace k4:=k4.grown gn ah;replace k6:=k6.grown gn ah;replace kb:=kb1;replace g:=jK4 g gn;replace nx:=jM_ g hW hwW hbr;have lt4:=k4.lt;have lt6:=k6.lt)))
 go_wp2_with ((go_at_call 103;((with_reducible refine(hDs.out _ hsz1).mono ?_);rintro e w2 ⟨v2,rfl,hmk,hb⟩;obtain⟨vt,vb,rfl,ot,ob,t1,t2⟩:=hmk;dsimp only at ot ob t1 t2⊢;obtain⟨at_,ct,rfl⟩:=ot.form;obtain⟨ab,cb,rfl⟩:=ob.form;replace om:=om.below hb;replace or_:=or_.below hb;replace k4:=k4.step hb;replace k6:=k6.step hb;replace kb:=kb.step hb;replace g:=ja7 g hb;replace nx:=nx.trans (hb.mono nx.size);have lt4:=k4.lt;have lt6:=k6.lt;(try clear z0 z1 z2 z3 z4 z5 z6 z7 z8 z9);(try clear f0 f1 f2 f3 f4 f5 f6 f7 f8 f9);have z0:=k4.cell 0;have z1:=k4.cell 1;have z2:=k4.cell 2;have z3:=k4.cell 3;have z4:=k4.cell 4;have z5:=k4.cell 5;have z6:=k4.cell 6;have z7:=k4.cell 7;have z8:=k4.cell 8;have z9:=k4.cell 9;have f0:=k4.free 0;have f1:=k4.free 1;have f2:=k4.free 2;have f3:=k4.free 3;have f4:=k4.free 4;have f5:=k4.free 5;have f6:=k4.free 6;have f7:=k4.free 7;have f8:=k4.free 8;have f9:=k4.free 9;simp only[Zga,Zgb,Zgc] at z0 z1 z2 z3 z4 z5 z6 z7 z8 z9;have kb2:=hid kb;have g2:=hid g;have om2:=hid om;have or2:=hid or_;have lt42:=k4.lt;have km:=kk3 w2 #[.int .i64 mk,.int .i64 ms,.int .i64 ma,.slice at_ tags.length ct,.slice ab blocks.length cb] 67;have lg2:=g.size;replace ot:=ot.alloc (.cells #[.int .i64 mk,.int .i64 ms,.int .i64 ma,.slice at_ tags.length ct,.slice ab blocks.length cb] 67);replace ob:=ob.alloc (.cells #[.int .i64 mk,.int .i64 ms,.int .i64 ma,.slice at_ tags.length ct,.slice ab blocks.length cb] 67);have lw12:=hb.size;replace om:=om.alloc (.cells #[.int .i64 mk,.int .i64 ms,.int .i64 ma,.slice at_ tags.length ct,.slice ab blocks.length cb] 67);replace or_:=or_.alloc (.cells #[.int .i64 mk,.int .i64 ms,.int .i64 ma,.slice at_ tags.length ct,.slice ab blocks.length cb] 67);replace k4:=k4.alloc (.cells #[.int .i64 mk,.int .i64 ms,.int .i64 ma,.slice at_ tags.length ct,.slice ab blocks.length cb] 67);replace k6:=k6.alloc (.cells #[.int .i64 mk,.int .i64 ms,.int .i64 ma,.slice at_ tags.length ct,.slice ab blocks.length cb] 67);replace kb:=kb.alloc (.cells #[.int .i64 mk,.int .i64 ms,.int .i64 ma,.slice at_ tags.length ct,.slice ab blocks.length cb] 67);replace g:=jU3 g (.cells #[.int .i64 mk,.int .i64 ms,.int .i64 ma,.slice at_ tags.length ct,.slice ab blocks.length cb] 67);replace nx:=bal nx (.cells #[.int .i64 mk,.int .i64 ms,.int .i64 ma,.slice at_ tags.length ct,.slice ab blocks.length cb] 67);have lt4:=k4.lt;have lt6:=k6.lt)))
 have kz:=(Blk.setCells [(⟨w.heap.size,0,none⟩,.int .i64 0),(⟨w.heap.size,1,none⟩,.slice none 0 0),(⟨w.heap.size,2,none⟩,.slice none 0 0),(⟨w.heap.size,3,none⟩,.slice none 0 0),(⟨w.heap.size,4,none⟩,.bool false),(⟨w.heap.size,5,none⟩,.int .i64 0),(⟨w.heap.size,6,none⟩,.bool false),(⟨w.heap.size,7,none⟩,.int .i64 0),(⟨w.heap.size,8,none⟩,.bool false),(⟨w.heap.size,9,none⟩,.int .i64 0)] _ kb2.out ah).alloc (.cells #[.int .i64 mk,.int .i64 ms,.int .i64 ma,.slice at_ tags.length ct,.slice ab blocks.length cb] 67);have gz:=jU3 (jn4 [(⟨w.heap.size,0,none⟩,.int .i64 0),(⟨w.heap.size,1,none⟩,.slice none 0 0),(⟨w.heap.size,2,none⟩,.slice none 0 0),(⟨w.heap.size,3,none⟩,.slice none 0 0),(⟨w.heap.size,4,none⟩,.bool false),(⟨w.heap.size,5,none⟩,.int .i64 0),(⟨w.heap.size,6,none⟩,.bool false),(⟨w.heap.size,7,none⟩,.int .i64 0),(⟨w.heap.size,8,none⟩,.bool false),(⟨w.heap.size,9,none⟩,.int .i64 0)] _ g2.out ag) (.cells #[.int .i64 mk,.int .i64 ms,.int .i64 ma,.slice at_ tags.length ct,.slice ab blocks.length cb] 67);exact iL (v:=.tuple #[.agg #[.int .i64 0,.slice none 0 0,.slice none 0 0,.slice none 0 0,.bool false,.int .i64 0,.bool false,.int .i64 0,.bool false,.int .i64 0],.bool false]) aH rfl (.inr ⟨hno.out,rfl,_,kz,gz⟩)):A:=h
theorem kE6(hDec : jI8)(d : Dsk)(W : World)(br : Nat)(vs vw : Value)(A seq : Int)(r0 : List ByteArray)(w : World)(hW : Below W.heap.size W w)(hd : j_7 W (.agg #[vs, vw]) d)(hbr : W.heap.size <= br)(hs0 : sfx d A r0)(hsz : ∀ s ∈ r0, s.size <= 9223372036854775807)(kb:Blk w br (jf7 vs vw A r0.length) 148):Calls Tryz.prog 104 #[.pointer (some ⟨br,0,none⟩),.int .i64 seq] w fun e w'=>kn5 seq r0 br vs vw A w e w':=by
 have hN0:=fun w k=>kG5 br vs vw A w k;have hN1:=fun s r w hd k hs=>kR9 d br vs vw A s r w hd k hs;have hU:=fun s e w hs=>js3 s e w hs;have hbw:=kb.lt;have hwW:=hW.size;have hr24:=hs0.2;have hp0:=hid (j02 (seq:=seq) (n:=r0.length+1) (m:=25) (r:=r0) (t:=j2_ seq) aa aa);replace hN0:=hid hN0;replace hN1:=hid hN1;replace hU:=hid hU;replace hd:=hid hd;replace hsz:=hid hsz;replace hs0:=hid hs0;replace hDec:=hid hDec;have k40:Blk ((w.alloc (.cells #[.int .i64 0,.slice none 0 0,.slice none 0 0,.slice none 0 0,.bool false,.int .i64 0,.bool false,.int .i64 0,.bool false,.int .i64 0] 51)).alloc (.cells #[.int .i64 seq,.slice none 0 0,.slice none 0 0,.slice none 0 0,.bool false,.int .i64 0,.bool false,.int .i64 0,.bool false,.int .i64 0] 51)) w.heap.size #[.int .i64 0,.slice none 0 0,.slice none 0 0,.slice none 0 0,.bool false,.int .i64 0,.bool false,.int .i64 0,.bool false,.int .i64 0] 51:=(kk3 w _ _).alloc _;have k60:Blk ((w.alloc (.cells #[.int .i64 0,.slice none 0 0,.slice none 0 0,.slice none 0 0,.bool false,.int .i64 0,.bool false,.int .i64 0,.bool false,.int .i64 0] 51)).alloc (.cells #[.int .i64 seq,.slice none 0 0,.slice none 0 0,.slice none 0 0,.bool false,.int .i64 0,.bool false,.int .i64 0,.bool false,.int .i64 0] 51)) (w.heap.size+1) #[.int .i64 seq,.slice none 0 0,.slice none 0 0,.slice none 0 0,.bool false,.int .i64 0,.bool false,.int .i64 0,.bool false,.int .i64 0] 51:=kl8 ag
 have kb0:=(kb.alloc (.cells #[.int .i64 0,.slice none 0 0,.slice none 0 0,.slice none 0 0,.bool false,.int .i64 0,.bool false,.int .i64 0,.bool false,.int .i64 0] 51)).alloc (.cells #[.int .i64 seq,.slice none 0 0,.slice none 0 0,.slice none 0 0,.bool false,.int .i64 0,.bool false,.int .i64 0,.bool false,.int .i64 0] 51);have g0:w.grownBy ((w.alloc (.cells #[.int .i64 0,.slice none 0 0,.slice none 0 0,.slice none 0 0,.bool false,.int .i64 0,.bool false,.int .i64 0,.bool false,.int .i64 0] 51)).alloc (.cells #[.int .i64 seq,.slice none 0 0,.slice none 0 0,.slice none 0 0,.bool false,.int .i64 0,.bool false,.int .i64 0,.bool false,.int .i64 0] 51)) (some br):=gB (bal (bal (b0 w) _) _) _;have s0:w.heap.size+2<=((w.alloc (.cells #[.int .i64 0,.slice none 0 0,.slice none 0 0,.slice none 0 0,.bool false,.int .i64 0,.bool false,.int .i64 0,.bool false,.int .i64 0] 51)).alloc (.cells #[.int .i64 seq,.slice none 0 0,.slice none 0 0,.slice none 0 0,.bool false,.int .i64 0,.bool false,.int .i64 0,.bool false,.int .i64 0] 51)).heap.size:=ag;go_enter Tryz.func104,Tryz.ntmps104;go_wp2
 go_loopg [7] r0.length (fun g _ wr=>∃(r:List ByteArray) (mt:List Cpy) (rev:List Int),g=r.length/\Hid (sfx d A r)/\Hid (∀s∈r,s.size<=9223372036854775807)/\Hid (j_6 seq (r.length+1) r ⟨seq,mt,[],rev,jW1,jW1,jW1⟩=j_6 seq 25 r0 (j2_ seq))/\ ∃vm vr,Wb.Own j_3 (w.heap.size+2) 93 2 wr vm mt/\Wb.Own j_9 (w.heap.size+2) 3 1 wr vr rev/\Blk wr w.heap.size #[.int .i64 0,.slice none 0 0,.slice none 0 0,.slice none 0 0,.bool false,.int .i64 0,.bool false,.int .i64 0,.bool false,.int .i64 0] 51/\Blk wr (w.heap.size+1) #[.int .i64 seq,vm,.slice none 0 0,vr,.bool false,.int .i64 0,.bool false,.int .i64 0,.bool false,.int .i64 0] 51/\Blk wr br (jf7 vs vw A r.length) 148/\w.grownBy wr (some br)/\w.heap.size+2<=wr.heap.size/\rev.length+20*r.length<=480/\mt.length+r.length<=24)
 case atStart=>exact⟨r0,[],[],rfl,hs0,hsz,hp0,_,_,Own.nil _ _ _ _ _,Own.nil _ _ _ _ _,k40,k60,kb0,g0,s0,ah,ah⟩
 case round=>
  clear k40 k60 kb0 g0 hp0 hs0 hsz s0;obtain⟨r,mt,rev,rfl,hs,hsz,hp,vm,vr,om,or_,k4,k6,kb,g,hg2,hb1,hb2⟩:=hrel;obtain⟨am,cm,rfl⟩:=om.form;obtain⟨ar,cr,rfl⟩:=or_.form;have lt4:=k4.lt;have lt6:=k6.lt;have nx:=jM_ g hW hwW hbr
  cases r with
  |nil=>
   have hno:=hid (hp.out.symm.trans rfl:j_6 seq 25 r0 (j2_ seq)=none)
   clear hp hs hsz
   have z0:=k4.cell 0;have z1:=k4.cell 1;have z2:=k4.cell 2;have z3:=k4.cell 3;have z4:=k4.cell 4;have z5:=k4.cell 5;have z6:=k4.cell 6;have z7:=k4.cell 7;have z8:=k4.cell 8;have z9:=k4.cell 9
   have f0:=k4.free 0;have f1:=k4.free 1;have f2:=k4.free 2;have f3:=k4.free 3;have f4:=k4.free 4;have f5:=k4.free 5;have f6:=k4.free 6;have f7:=k4.free 7;have f8:=k4.free 8;have f9:=k4.free 9
   simp only[Zga,Zgb,Zgc] at z0 z1 z2 z3 z4 z5 z6 z7 z8 z9
   go_wp2_with (go_at_call 138;((with_reducible refine(hN0.out _ kb).mono ?_);rintro e w1 ⟨rfl,rfl⟩))
   have kz:=(Blk.setCells [(⟨w.heap.size,0,none⟩,.int .i64 0),(⟨w.heap.size,1,none⟩,.slice none 0 0),(⟨w.heap.size,2,none⟩,.slice none 0 0),(⟨w.heap.size,3,none⟩,.slice none 0 0),(⟨w.heap.size,4,none⟩,.bool false),(⟨w.heap.size,5,none⟩,.int .i64 0),(⟨w.heap.size,6,none⟩,.bool false),(⟨w.heap.size,7,none⟩,.int .i64 0),(⟨w.heap.size,8,none⟩,.bool false),(⟨w.heap.size,9,none⟩,.int .i64 0)] _ kb ah)
   have gz:=jn4 [(⟨w.heap.size,0,none⟩,.int .i64 0),(⟨w.heap.size,1,none⟩,.slice none 0 0),(⟨w.heap.size,2,none⟩,.slice none 0 0),(⟨w.heap.size,3,none⟩,.slice none 0 0),(⟨w.heap.size,4,none⟩,.bool false),(⟨w.heap.size,5,none⟩,.int .i64 0),(⟨w.heap.size,6,none⟩,.bool false),(⟨w.heap.size,7,none⟩,.int .i64 0),(⟨w.heap.size,8,none⟩,.bool false),(⟨w.heap.size,9,none⟩,.int .i64 0)] _ g ag
   exact iL (v:=.tuple #[.agg #[.int .i64 0,.slice none 0 0,.slice none 0 0,.slice none 0 0,.bool false,.int .i64 0,.bool false,.int .i64 0,.bool false,.int .i64 0],.bool false]) (by simp[results,Tryz.results104,go_sem,z0,z1,z2,z3,z4,z5,z6,z7,z8,z9]) rfl (.inr ⟨hno.out,rfl,_,kz,gz⟩)
  |cons s r=>
   have hDs:=hDec.out s
   have hbd:=fun h=>jA5 (s:=s) h
   have hp1:=hp.out
   simp only[iB] at hp1 hb1 hb2 kb
   rw[kZ1] at hp1
   have hsz1:=hsz.out s ag
   have hsz2:=hid (fun x (hx:x∈r)=>hsz.out x bh)
   have hs2:=hid (jO4 hs.out).1
   have hr24':=(jO4 hs.out).2.2
   generalize decM s=M at*
   generalize decE s=de at*
   obtain⟨mk,ms,ma,tags,blocks⟩:=M
   dsimp only at hDs hbd hp1
   replace hDs:=hid hDs
   by_cases hc:de=0/\ms=seq
   rotate_left
   ·rw[ii hc] at hp1;have hno:=hid hp1.symm;clear hp1 hp hbd hsz hsz2;by_cases hde:de=0
    ·have hms:(ms != seq)=true:=jd.2 (fun h=>hc ⟨hde,h⟩);have hde2:(de != 0)=false:=by rw[hde];rfl
     clear hc hde;exact ec
    ·have hde2:(de != 0)=true:=jd.2 hde;clear hc hde;exact ec
   obtain⟨hde,rfl⟩:=hc
   obtain⟨q1,q2,_⟩:=hbd hde
   rw[ij ⟨hde,rfl⟩] at hp1
   have hde2:(de != 0)=false:=by rw[hde];rfl
   have hms:(ms != ms)=false:=ag
   clear hbd hde hp hsz
   by_cases h4:mk=4
   ·rw[ij h4] at hp1;have e4:(mk==4)=true:=iT.2 h4;replace hp1:=hid hp1;clear h4
    go_wp2_with ((go_at_call 138;((with_reducible refine(hN1.out s r _ (hd.out.below nx) kb hs.out).mono ?_);rintro e w1 ⟨rfl,kb1,gn⟩;replace om:=om.grownBlk kb ae gn;replace or_:=or_.grownBlk kb ae gn;replace k4:=k4.grown gn ah;replace k6:=k6.grown gn ah;replace kb:=kb1;replace g:=jK4 g gn;replace nx:=jM_ g hW hwW hbr;have lt4:=k4.lt;have lt6:=k6.lt)))
    go_wp2_with ((((go_at_call 103;((with_reducible refine(hDs.out _ hsz1).mono ?_);rintro e w2 ⟨v2,rfl,hmk,hb⟩;obtain⟨vt,vb,rfl,ot,ob,t1,t2⟩:=hmk;dsimp only at ot ob t1 t2⊢;obtain⟨at_,ct,rfl⟩:=ot.form;obtain⟨ab,cb,rfl⟩:=ob.form;replace om:=om.below hb;replace or_:=or_.below hb;replace k4:=k4.step hb;replace k6:=k6.step hb;replace kb:=kb.step hb;replace g:=ja7 g hb;replace nx:=nx.trans (hb.mono nx.size);have lt4:=k4.lt;have lt6:=k6.lt;(try clear z0 z1 z2 z3 z4 z5 z6 z7 z8 z9);(try clear f0 f1 f2 f3 f4 f5 f6 f7 f8 f9);have z0:=k4.cell 0;have z1:=k4.cell 1;have z2:=k4.cell 2;have z3:=k4.cell 3;have z4:=k4.cell 4;have z5:=k4.cell 5;have z6:=k4.cell 6;have z7:=k4.cell 7;have z8:=k4.cell 8;have z9:=k4.cell 9;have f0:=k4.free 0;have f1:=k4.free 1;have f2:=k4.free 2;have f3:=k4.free 3;have f4:=k4.free 4;have f5:=k4.free 5;have f6:=k4.free 6;have f7:=k4.free 7;have f8:=k4.free 8;have f9:=k4.free 9;simp only[Zga,Zgb,Zgc] at z0 z1 z2 z3 z4 z5 z6 z7 z8 z9;have kb2:=hid kb;have g2:=hid g;have om2:=hid om;have or2:=hid or_;have lt42:=k4.lt;have km:=kk3 w2 #[.int .i64 mk,.int .i64 ms,.int .i64 ma,.slice at_ tags.length ct,.slice ab blocks.length cb] 67;have lg2:=g.size;replace ot:=ot.alloc (.cells #[.int .i64 mk,.int .i64 ms,.int .i64 ma,.slice at_ tags.length ct,.slice ab blocks.length cb] 67);replace ob:=ob.alloc (.cells #[.int .i64 mk,.int .i64 ms,.int .i64 ma,.slice at_ tags.length ct,.slice ab blocks.length cb] 67);have lw12:=hb.size;replace om:=om.alloc (.cells #[.int .i64 mk,.int .i64 ms,.int .i64 ma,.slice at_ tags.length ct,.slice ab blocks.length cb] 67);replace or_:=or_.alloc (.cells #[.int .i64 mk,.int .i64 ms,.int .i64 ma,.slice at_ tags.length ct,.slice ab blocks.length cb] 67);replace k4:=k4.alloc (.cells #[.int .i64 mk,.int .i64 ms,.int .i64 ma,.slice at_ tags.length ct,.slice ab blocks.length cb] 67);replace k6:=k6.alloc (.cells #[.int .i64 mk,.int .i64 ms,.int .i64 ma,.slice at_ tags.length ct,.slice ab blocks.length cb] 67);replace kb:=kb.alloc (.cells #[.int .i64 mk,.int .i64 ms,.int .i64 ma,.slice at_ tags.length ct,.slice ab blocks.length cb] 67);replace g:=jU3 g (.cells #[.int .i64 mk,.int .i64 ms,.int .i64 ma,.slice at_ tags.length ct,.slice ab blocks.length cb] 67);replace nx:=bal nx (.cells #[.int .i64 mk,.int .i64 ms,.int .i64 ma,.slice at_ tags.length ct,.slice ab blocks.length cb] 67);have lt4:=k4.lt;have lt6:=k6.lt)));have y0:=k6.cell 0;have y1:=k6.cell 1;have y2:=k6.cell 2;have y3:=k6.cell 3;have y4:=k6.cell 4;have y5:=k6.cell 5;have y6:=k6.cell 6;have y7:=k6.cell 7;have y8:=k6.cell 8;have y9:=k6.cell 9;simp only[Zga,Zgb,Zgc] at y0 y1 y2 y3 y4 y5 y6 y7 y8 y9))
    have kz:=(Blk.setCells [(⟨w.heap.size,0,none⟩,.int .i64 ms),(⟨w.heap.size,1,none⟩,.slice am mt.length cm),(⟨w.heap.size,2,none⟩,.slice none 0 0),(⟨w.heap.size,3,none⟩,.slice ar rev.length cr),(⟨w.heap.size,4,none⟩,.bool false),(⟨w.heap.size,5,none⟩,.int .i64 0),(⟨w.heap.size,6,none⟩,.bool false),(⟨w.heap.size,7,none⟩,.int .i64 0),(⟨w.heap.size,8,none⟩,.bool false),(⟨w.heap.size,9,none⟩,.int .i64 0)] _ kb2.out ah).alloc (.cells #[.int .i64 mk,.int .i64 ms,.int .i64 ma,.slice at_ tags.length ct,.slice ab blocks.length cb] 67);have gz:=jU3 (jn4 [(⟨w.heap.size,0,none⟩,.int .i64 ms),(⟨w.heap.size,1,none⟩,.slice am mt.length cm),(⟨w.heap.size,2,none⟩,.slice none 0 0),(⟨w.heap.size,3,none⟩,.slice ar rev.length cr),(⟨w.heap.size,4,none⟩,.bool false),(⟨w.heap.size,5,none⟩,.int .i64 0),(⟨w.heap.size,6,none⟩,.bool false),(⟨w.heap.size,7,none⟩,.int .i64 0),(⟨w.heap.size,8,none⟩,.bool false),(⟨w.heap.size,9,none⟩,.int .i64 0)] _ g2.out ag) (.cells #[.int .i64 mk,.int .i64 ms,.int .i64 ma,.slice at_ tags.length ct,.slice ab blocks.length cb] 67)
    have omz:=(om2.out.setCells [(⟨w.heap.size,0,none⟩,.int .i64 ms),(⟨w.heap.size,1,none⟩,.slice am mt.length cm),(⟨w.heap.size,2,none⟩,.slice none 0 0),(⟨w.heap.size,3,none⟩,.slice ar rev.length cr),(⟨w.heap.size,4,none⟩,.bool false),(⟨w.heap.size,5,none⟩,.int .i64 0),(⟨w.heap.size,6,none⟩,.bool false),(⟨w.heap.size,7,none⟩,.int .i64 0),(⟨w.heap.size,8,none⟩,.bool false),(⟨w.heap.size,9,none⟩,.int .i64 0)] _ ag).alloc (.cells #[.int .i64 mk,.int .i64 ms,.int .i64 ma,.slice at_ tags.length ct,.slice ab blocks.length cb] 67);have orz:=(or2.out.setCells [(⟨w.heap.size,0,none⟩,.int .i64 ms),(⟨w.heap.size,1,none⟩,.slice am mt.length cm),(⟨w.heap.size,2,none⟩,.slice none 0 0),(⟨w.heap.size,3,none⟩,.slice ar rev.length cr),(⟨w.heap.size,4,none⟩,.bool false),(⟨w.heap.size,5,none⟩,.int .i64 0),(⟨w.heap.size,6,none⟩,.bool false),(⟨w.heap.size,7,none⟩,.int .i64 0),(⟨w.heap.size,8,none⟩,.bool false),(⟨w.heap.size,9,none⟩,.int .i64 0)] _ ag).alloc (.cells #[.int .i64 mk,.int .i64 ms,.int .i64 ma,.slice at_ tags.length ct,.slice ab blocks.length cb] 67);have lm1:mt.length<=5864062014805:=aa;have lr1:rev.length<=17592186044160:=aa;exact iL (v:=.tuple #[.agg #[.int .i64 ms,.slice am mt.length cm,.slice none 0 0,.slice ar rev.length cr,.bool false,.int .i64 0,.bool false,.int .i64 0,.bool false,.int .i64 0],.bool true]) aH rfl (.inl ⟨_,_,hp1.out.symm,_,rfl,⟨_,_,_,rfl,omz.mono aa,Own.nil _ _ _ _ _,orz.mono aa,lm1,ag,lr1⟩,kz,gz⟩)
   rw[ii h4] at hp1
   have e4:(mk==4)=false:=ik.2 h4
   by_cases h3:mk=3
   ·rw[ij h3] at hp1;have e3:(mk==3)=true:=iT.2 h3;replace hp1:=hid hp1;clear h4 h3;obtain⟨rev2,hrv⟩:∃r2,r2=rev++blocks:=⟨_,rfl⟩;have hrl2:rev2.length=rev.length+blocks.length:=by rw[hrv,il]
    replace hrv:=hid hrv;replace hrl2:=hid hrl2
    go_wp2_with ((go_at_call 138;((with_reducible refine(hN1.out s r _ (hd.out.below nx) kb hs.out).mono ?_);rintro e w1 ⟨rfl,kb1,gn⟩;replace om:=om.grownBlk kb ae gn;replace or_:=or_.grownBlk kb ae gn;replace k4:=k4.grown gn ah;replace k6:=k6.grown gn ah;replace kb:=kb1;replace g:=jK4 g gn;replace nx:=jM_ g hW hwW hbr;have lt4:=k4.lt;have lt6:=k6.lt)))
    go_wp2_with (first|((go_at_call 103;((with_reducible refine(hDs.out _ hsz1).mono ?_);rintro e w2 ⟨v2,rfl,hmk,hb⟩;obtain⟨vt,vb,rfl,ot,ob,t1,t2⟩:=hmk;dsimp only at ot ob t1 t2⊢;obtain⟨at_,ct,rfl⟩:=ot.form;obtain⟨ab,cb,rfl⟩:=ob.form;replace om:=om.below hb;replace or_:=or_.below hb;replace k4:=k4.step hb;replace k6:=k6.step hb;replace kb:=kb.step hb;replace g:=ja7 g hb;replace nx:=nx.trans (hb.mono nx.size);have lt4:=k4.lt;have lt6:=k6.lt;(try clear z0 z1 z2 z3 z4 z5 z6 z7 z8 z9);(try clear f0 f1 f2 f3 f4 f5 f6 f7 f8 f9);have z0:=k4.cell 0;have z1:=k4.cell 1;have z2:=k4.cell 2;have z3:=k4.cell 3;have z4:=k4.cell 4;have z5:=k4.cell 5;have z6:=k4.cell 6;have z7:=k4.cell 7;have z8:=k4.cell 8;have z9:=k4.cell 9;have f0:=k4.free 0;have f1:=k4.free 1;have f2:=k4.free 2;have f3:=k4.free 3;have f4:=k4.free 4;have f5:=k4.free 5;have f6:=k4.free 6;have f7:=k4.free 7;have f8:=k4.free 8;have f9:=k4.free 9;simp only[Zga,Zgb,Zgc] at z0 z1 z2 z3 z4 z5 z6 z7 z8 z9;have kb2:=hid kb;have g2:=hid g;have om2:=hid om;have or2:=hid or_;have lt42:=k4.lt;have km:=kk3 w2 #[.int .i64 mk,.int .i64 ms,.int .i64 ma,.slice at_ tags.length ct,.slice ab blocks.length cb] 67;have lg2:=g.size;replace ot:=ot.alloc (.cells #[.int .i64 mk,.int .i64 ms,.int .i64 ma,.slice at_ tags.length ct,.slice ab blocks.length cb] 67);replace ob:=ob.alloc (.cells #[.int .i64 mk,.int .i64 ms,.int .i64 ma,.slice at_ tags.length ct,.slice ab blocks.length cb] 67);have lw12:=hb.size;replace om:=om.alloc (.cells #[.int .i64 mk,.int .i64 ms,.int .i64 ma,.slice at_ tags.length ct,.slice ab blocks.length cb] 67);replace or_:=or_.alloc (.cells #[.int .i64 mk,.int .i64 ms,.int .i64 ma,.slice at_ tags.length ct,.slice ab blocks.length cb] 67);replace k4:=k4.alloc (.cells #[.int .i64 mk,.int .i64 ms,.int .i64 ma,.slice at_ tags.length ct,.slice ab blocks.length cb] 67);replace k6:=k6.alloc (.cells #[.int .i64 mk,.int .i64 ms,.int .i64 ma,.slice at_ tags.length ct,.slice ab blocks.length cb] 67);replace kb:=kb.alloc (.cells #[.int .i64 mk,.int .i64 ms,.int .i64 ma,.slice at_ tags.length ct,.slice ab blocks.length cb] 67);replace g:=jU3 g (.cells #[.int .i64 mk,.int .i64 ms,.int .i64 ma,.slice at_ tags.length ct,.slice ab blocks.length cb] 67);replace nx:=bal nx (.cells #[.int .i64 mk,.int .i64 ms,.int .i64 ma,.slice at_ tags.length ct,.slice ab blocks.length cb] 67);have lt4:=k4.lt;have lt6:=k6.lt));have y3:=k6.cell 3;have m4:=km.cell 4;simp only[Zga,Zgb,Zgc] at y3 m4;have hwn:=gn.size)|(at_builtin;(refine j62 rfl _ _ _ rfl (w.heap.size+2) _ 1 8 j9_ j50 or_ rfl blocks ob.reads rfl aa aE ah ?_;intro v7 w7 hown7 hg7;rw[<-hrv.out] at hown7;obtain⟨ar7,cr7,rfl⟩:=hown7.form;have k67:=k6.grown hg7 (or_.blk_ne k6 ae);have yf3:=k67.free 3;have yc3:=k67.cell 3;simp only[Zga,Zgb,Zgc] at yc3)))
    have om7:=(om.grownTy or_ ae hg7).setCell (p:=⟨w.heap.size+1,3,none⟩) ag (.slice ar7 rev2.length cr7);have or7:=hown7.setCell (p:=⟨w.heap.size+1,3,none⟩) ag (.slice ar7 rev2.length cr7);have k47:=(k4.grown hg7 (or_.blk_ne k4 ae)).set_other ⟨w.heap.size+1,3,none⟩ (.slice ar7 rev2.length cr7) ag;have k68:=k67.set 3 (.slice ar7 rev2.length cr7);have kb7:=(kb.grown hg7 (or_.blk_ne kb ae)).set_other ⟨w.heap.size+1,3,none⟩ (.slice ar7 rev2.length cr7) ah;have g7:=jn4 [(⟨w.heap.size+1,3,none⟩,.slice ar7 rev2.length cr7)] _ (kn8 g hg7 or_ aa) ag;have s7:w.heap.size+2<=(w7.setCell ⟨w.heap.size+1,3,none⟩ (.slice ar7 rev2.length cr7)).heap.size:=cp;replace om7:=hid om7;replace or7:=hid or7;replace k47:=hid k47;replace k68:=hid k68;replace kb7:=hid kb7;replace g7:=hid g7;replace s7:=hid s7;go_wp2;go_roundg r.length
    case measure=>simp
    case rel=>exact⟨r,mt,rev2,rfl,hs2,hsz2,by rw[hrv.out];exact hp1,_,_,om7.out,or7.out,k47.out,k68.out,kb7.out,g7.out,s7.out,by rw[hrl2.out];omega,aa⟩
   rw[ii h3] at hp1
   have e3:(mk==3)=false:=ik.2 h3
   by_cases h2:mk=2
   ·rw[ij h2] at hp1;have e2:(mk==2)=true:=iT.2 h2;replace hp1:=hid hp1;clear h4 h3 h2
    go_wp2_with ((go_at_call 138;((with_reducible refine(hN1.out s r _ (hd.out.below nx) kb hs.out).mono ?_);rintro e w1 ⟨rfl,kb1,gn⟩;replace om:=om.grownBlk kb ae gn;replace or_:=or_.grownBlk kb ae gn;replace k4:=k4.grown gn ah;replace k6:=k6.grown gn ah;replace kb:=kb1;replace g:=jK4 g gn;replace nx:=jM_ g hW hwW hbr;have lt4:=k4.lt;have lt6:=k6.lt)))
    go_wp2_with (((go_at_call 103;((with_reducible refine(hDs.out _ hsz1).mono ?_);rintro e w2 ⟨v2,rfl,hmk,hb⟩;obtain⟨vt,vb,rfl,ot,ob,t1,t2⟩:=hmk;dsimp only at ot ob t1 t2⊢;obtain⟨at_,ct,rfl⟩:=ot.form;obtain⟨ab,cb,rfl⟩:=ob.form;replace om:=om.below hb;replace or_:=or_.below hb;replace k4:=k4.step hb;replace k6:=k6.step hb;replace kb:=kb.step hb;replace g:=ja7 g hb;replace nx:=nx.trans (hb.mono nx.size);have lt4:=k4.lt;have lt6:=k6.lt;(try clear z0 z1 z2 z3 z4 z5 z6 z7 z8 z9);(try clear f0 f1 f2 f3 f4 f5 f6 f7 f8 f9);have z0:=k4.cell 0;have z1:=k4.cell 1;have z2:=k4.cell 2;have z3:=k4.cell 3;have z4:=k4.cell 4;have z5:=k4.cell 5;have z6:=k4.cell 6;have z7:=k4.cell 7;have z8:=k4.cell 8;have z9:=k4.cell 9;have f0:=k4.free 0;have f1:=k4.free 1;have f2:=k4.free 2;have f3:=k4.free 3;have f4:=k4.free 4;have f5:=k4.free 5;have f6:=k4.free 6;have f7:=k4.free 7;have f8:=k4.free 8;have f9:=k4.free 9;simp only[Zga,Zgb,Zgc] at z0 z1 z2 z3 z4 z5 z6 z7 z8 z9;have kb2:=hid kb;have g2:=hid g;have om2:=hid om;have or2:=hid or_;have lt42:=k4.lt;have km:=kk3 w2 #[.int .i64 mk,.int .i64 ms,.int .i64 ma,.slice at_ tags.length ct,.slice ab blocks.length cb] 67;have lg2:=g.size;replace ot:=ot.alloc (.cells #[.int .i64 mk,.int .i64 ms,.int .i64 ma,.slice at_ tags.length ct,.slice ab blocks.length cb] 67);replace ob:=ob.alloc (.cells #[.int .i64 mk,.int .i64 ms,.int .i64 ma,.slice at_ tags.length ct,.slice ab blocks.length cb] 67);have lw12:=hb.size;replace om:=om.alloc (.cells #[.int .i64 mk,.int .i64 ms,.int .i64 ma,.slice at_ tags.length ct,.slice ab blocks.length cb] 67);replace or_:=or_.alloc (.cells #[.int .i64 mk,.int .i64 ms,.int .i64 ma,.slice at_ tags.length ct,.slice ab blocks.length cb] 67);replace k4:=k4.alloc (.cells #[.int .i64 mk,.int .i64 ms,.int .i64 ma,.slice at_ tags.length ct,.slice ab blocks.length cb] 67);replace k6:=k6.alloc (.cells #[.int .i64 mk,.int .i64 ms,.int .i64 ma,.slice at_ tags.length ct,.slice ab blocks.length cb] 67);replace kb:=kb.alloc (.cells #[.int .i64 mk,.int .i64 ms,.int .i64 ma,.slice at_ tags.length ct,.slice ab blocks.length cb] 67);replace g:=jU3 g (.cells #[.int .i64 mk,.int .i64 ms,.int .i64 ma,.slice at_ tags.length ct,.slice ab blocks.length cb] 67);replace nx:=bal nx (.cells #[.int .i64 mk,.int .i64 ms,.int .i64 ma,.slice at_ tags.length ct,.slice ab blocks.length cb] 67);have lt4:=k4.lt;have lt6:=k6.lt));have m3:=km.cell 3;simp only[Zga,Zgb,Zgc] at m3;have hwn:=gn.size))
    replace ot:=ot.mono (base':=w.heap.size+2) aa;have s2':w.heap.size+2<=(w2.alloc (.cells #[.int .i64 mk,.int .i64 ms,.int .i64 ma,.slice at_ tags.length ct,.slice ab blocks.length cb] 67)).heap.size:=ah;have hr23:mt.length+r.length<=23:=aa;have ht0:=hid (show j_8 (tags.drop 0) r mt=j_8 tags r mt by rw[lZ]);clear z0 z1 z2 z3 z4 z5 z6 z7 z8 z9 f0 f1 f2 f3 f4 f5 f6 f7 f8 f9
    go_loopw [12,13,14,58] (fun _ _ _ i wx=>∃(k:Nat) (rr:List ByteArray) (mtk:List Cpy),k<=tags.length/\i=.int .i64 (k:Int)/\Hid (j_8 (tags.drop k) rr mtk=j_8 tags r mt)/\Hid (sfx d A rr)/\Hid (∀s∈rr,s.size<=9223372036854775807)/\ ∃vmk,Wb.Own j_3 (w.heap.size+2) 93 2 wx vmk mtk/\Wb.Own j_9 (w.heap.size+2) 3 1 wx (.slice ar rev.length cr) rev/\Wb.Own jK_ (w.heap.size+2) 103 2 wx (.slice at_ tags.length ct) tags/\Blk wx w.heap.size #[.int .i64 0,.slice none 0 0,.slice none 0 0,.slice none 0 0,.bool false,.int .i64 0,.bool false,.int .i64 0,.bool false,.int .i64 0] 51/\Blk wx (w.heap.size+1) #[.int .i64 ms,vmk,.slice none 0 0,.slice ar rev.length cr,.bool false,.int .i64 0,.bool false,.int .i64 0,.bool false,.int .i64 0] 51/\Blk wx br (jf7 vs vw A rr.length) 148/\w.grownBy wx (some br)/\w.heap.size+2<=wx.heap.size/\mtk.length+rr.length<=23/\rr.length<=r.length) (fun _ _ _ i _=>tags.length-(intOf i).toNat)
    case atStart=>exact⟨0,r,mt,iq _,rfl,ht0,hs2,hsz2,_,om,or_,ot,k4,k6,kb,g,s2',hr23,iy _⟩
    case round=>
     clear om or_ ot k4 k6 kb g s2' nx kb2 g2 om2 or2 lt42 hr23 ht0 km ob m3 hs hs2 hsz2 lt4 lt6 lg2 lw12;obtain⟨k,rr,mtk,hk,rfl,htk,hs,hsz,vmk,om,or_,ot,k4,k6,kb,g,hg3,hb3,hrl⟩:=hrel;obtain⟨am2,cm2,rfl⟩:=om.form;have lt4:=k4.lt;have lt6:=k6.lt;have nx:=jM_ g hW hwW hbr;by_cases hlt:k<tags.length
     ·obtain⟨bt,ot_,rfl,t0,t1⟩:=kj3 (fun x=>.int .i64 x.block) (fun x=>.bool x.esc) (fun _=>rfl) ot.reads hlt;have hdk:tags.drop k=tags[k]::tags.drop (k+1):=jx hlt;replace htk:=htk.out;rw[hdk] at htk;clear hdk;generalize tags[k]=x at*;obtain⟨xb,xe⟩:=x;dsimp only at t0 t1;have kt:=kk3 wr #[.int .i64 xb,.bool xe] 103
      cases rr with
      |nil=>
       have hno:=hid (show j_6 ms 25 r0 (j2_ ms)=none by
        have:=hp1.out;rw[<-htk] at this;exact this.symm)
       clear htk hp1
       have kb2:=hid kb;have g2:=hid g;have lt42:=k4.lt
       (try clear z0 z1 z2 z3 z4 z5 z6 z7 z8 z9);(try clear f0 f1 f2 f3 f4 f5 f6 f7 f8 f9);have z0:=k4.cell 0;have z1:=k4.cell 1;have z2:=k4.cell 2;have z3:=k4.cell 3;have z4:=k4.cell 4;have z5:=k4.cell 5;have z6:=k4.cell 6;have z7:=k4.cell 7;have z8:=k4.cell 8;have z9:=k4.cell 9;have f0:=k4.free 0;have f1:=k4.free 1;have f2:=k4.free 2;have f3:=k4.free 3;have f4:=k4.free 4;have f5:=k4.free 5;have f6:=k4.free 6;have f7:=k4.free 7;have f8:=k4.free 8;have f9:=k4.free 9;simp only[Zga,Zgb,Zgc] at z0 z1 z2 z3 z4 z5 z6 z7 z8 z9
       replace kb:=kb.alloc (.cells #[.int .i64 xb,.bool xe] 103)
       go_wp2_with (go_at_call 138;((with_reducible refine(hN0.out _ kb).mono ?_);rintro e w1 ⟨rfl,rfl⟩))
       have kz:=(Blk.setCells [(⟨w.heap.size,0,none⟩,.int .i64 0),(⟨w.heap.size,1,none⟩,.slice none 0 0),(⟨w.heap.size,2,none⟩,.slice none 0 0),(⟨w.heap.size,3,none⟩,.slice none 0 0),(⟨w.heap.size,4,none⟩,.bool false),(⟨w.heap.size,5,none⟩,.int .i64 0),(⟨w.heap.size,6,none⟩,.bool false),(⟨w.heap.size,7,none⟩,.int .i64 0),(⟨w.heap.size,8,none⟩,.bool false),(⟨w.heap.size,9,none⟩,.int .i64 0)] _ kb2.out ah).alloc (.cells #[.int .i64 xb,.bool xe] 103)
       have gz:=jU3 (jn4 [(⟨w.heap.size,0,none⟩,.int .i64 0),(⟨w.heap.size,1,none⟩,.slice none 0 0),(⟨w.heap.size,2,none⟩,.slice none 0 0),(⟨w.heap.size,3,none⟩,.slice none 0 0),(⟨w.heap.size,4,none⟩,.bool false),(⟨w.heap.size,5,none⟩,.int .i64 0),(⟨w.heap.size,6,none⟩,.bool false),(⟨w.heap.size,7,none⟩,.int .i64 0),(⟨w.heap.size,8,none⟩,.bool false),(⟨w.heap.size,9,none⟩,.int .i64 0)] _ g2.out ag) (.cells #[.int .i64 xb,.bool xe] 103)
       exact iL (v:=.tuple #[.agg #[.int .i64 0,.slice none 0 0,.slice none 0 0,.slice none 0 0,.bool false,.int .i64 0,.bool false,.int .i64 0,.bool false,.int .i64 0],.bool false]) aH rfl (.inr ⟨hno.out,rfl,_,kz,gz⟩)
      |cons s2 rr2=>
       have hU2:=hid (hU.out s2 xe)
       have hsz1:=hsz.out s2 ag
       have hszr:=hid (fun x (hx:x∈rr2)=>hsz.out x bh)
       have hsr:=hid (jO4 hs.out).1
       have htk2:=hid (show j_8 (tags.drop (k+1)) rr2 (mtk++ [⟨xb,unescS s2 xe⟩])=j_8 tags r mt from htk)
       clear htk hsz
       generalize unescS s2 xe=u2 at*
       simp only[iB] at hb3 hrl kb
       replace om:=om.alloc (.cells #[.int .i64 xb,.bool xe] 103)
       replace or_:=or_.alloc (.cells #[.int .i64 xb,.bool xe] 103)
       replace ot:=ot.alloc (.cells #[.int .i64 xb,.bool xe] 103)
       replace k4:=k4.alloc (.cells #[.int .i64 xb,.bool xe] 103)
       replace k6:=k6.alloc (.cells #[.int .i64 xb,.bool xe] 103)
       replace kb:=kb.alloc (.cells #[.int .i64 xb,.bool xe] 103)
       replace g:=jU3 g (.cells #[.int .i64 xb,.bool xe] 103)
       replace nx:=bal nx (.cells #[.int .i64 xb,.bool xe] 103)
       go_wp2_with (go_at_call 138;((with_reducible refine(hN1.out s2 rr2 _ (hd.out.below nx) kb hs.out).mono ?_);rintro e w1 ⟨rfl,kb1,gn⟩;replace om:=om.grownBlk kb ae gn;replace or_:=or_.grownBlk kb ae gn;replace ot:=ot.grownBlk kb ae gn;replace k4:=k4.grown gn ah;replace k6:=k6.grown gn ah;replace kt:=kt.grown gn ah;replace kb:=kb1;replace g:=jK4 g gn;have hwn:=gn.size;simp only[iN] at hwn;have y1:=k6.cell 1;have x0:=kt.cell 0;have x1:=kt.cell 1;simp only[Zga,Zgb,Zgc] at y1 x0 x1))
       have lt6:=k6.lt
       have ltt:=kt.lt
       go_region_law (first|(refine j14 139 _ _ ay ay #[.string s2,.bool xe] ay ⟨_,_,Tryz.func139,af,rfl⟩ (hU2.out _ hsz1) ?_;rintro e w3 ⟨rfl,hb3'⟩;refine⟨_,rfl,?_⟩;replace om:=om.drew.below hb3';replace or_:=or_.drew.below hb3';replace ot:=ot.drew.below hb3';replace k4:=k4.drew.step hb3';replace k6:=k6.drew.step hb3';replace kb:=kb.drew.step hb3';replace kt:=kt.drew.step hb3';replace g:=ja7 (ko9 g) hb3';have hw3:=hb3'.size;simp only[World.size_drew] at hw3;have lt63:=k6.lt;have ltt3:=kt.lt;have e1:=k6.cell 1;have p0:=kt.cell 0;have p1:=kt.cell 1;simp only[Zga,Zgb,Zgc] at e1 p0 p1)|(have t1:=om.alloc (.cells #[.int .i64 xb,.string u2] 93);have t2:w.heap.size+2<=(w3.alloc (.cells #[.int .i64 xb,.string u2] 93)).heap.size:=ah;have t3:(mtk.length+1)*24<=140737488355328:=aa;have t4:Blk (w3.alloc (.cells #[.int .i64 xb,.string u2] 93)) w3.heap.size #[.int .i64 xb,.string u2] 93:=kl8 (w:=w3) rfl;refine jW7 ay _ _ 45 ay (w.heap.size+2) _ 2 24 j91 j53 t1 ay ⟨xb,u2⟩ w3.heap.size t4 ay ay mtk.length rfl t3 aa t2 ?_;clear t2 t3 t4;intro a7 c7 w7 hown7 hb7 hg7;(have q6:=k6.alloc (.cells #[.int .i64 xb,.string u2] 93));(have k67:=q6.grown hg7 (t1.blk_ne q6 ae));have yf1:=k67.free 1;have yc1:w7.cell? ⟨w.heap.size+1,1,none⟩=some (.slice am2 mtk.length cm2):=k67.cell 1))
       all_goals
        have om7:=hown7.setCell (p:=⟨w.heap.size+1,1,none⟩) ag (.slice a7 (mtk.length+1) c7)
        have or7:=((or_.alloc _).grownTy t1 ae hg7).setCell (p:=⟨w.heap.size+1,1,none⟩) ag (.slice a7 (mtk.length+1) c7)
        have ot7:=((ot.alloc _).grownTy t1 ae hg7).setCell (p:=⟨w.heap.size+1,1,none⟩) ag (.slice a7 (mtk.length+1) c7)
        have k47:=((k4.alloc _).grown hg7 (t1.blk_ne (k4.alloc _) ae)).set_other ⟨w.heap.size+1,1,none⟩ (.slice a7 (mtk.length+1) c7) ag
        have k68:=k67.set 1 (.slice a7 (mtk.length+1) c7)
        have kb7:=((kb.alloc _).grown hg7 (t1.blk_ne (kb.alloc _) ae)).set_other ⟨w.heap.size+1,1,none⟩ (.slice a7 (mtk.length+1) c7) ah
        have g7:=jn4 [(⟨w.heap.size+1,1,none⟩,.slice a7 (mtk.length+1) c7)] _ (kn8 (jU3 g _) hg7 t1 aa) ag
        have s7:w.heap.size+2<=(w7.setCell ⟨w.heap.size+1,1,none⟩ (.slice a7 (mtk.length+1) c7)).heap.size:=cp
        replace om7:=hid om7;replace or7:=hid or7;replace ot7:=hid ot7;replace k47:=hid k47;replace k68:=hid k68;replace kb7:=hid kb7;replace g7:=hid g7;replace s7:=hid s7
        go_wp2
        go_roundw
        case rel=>
         first|(refine⟨k+1,rr2,mtk++ [⟨xb,u2⟩],aa,?_,htk2,hsr,hszr,_,om7.out,or7.out,ot7.out,k47.out,k68.out,kb7.out,g7.out,s7.out,ah,aa⟩<;>go_num;done)|((repeat apply Exists.intro);refine⟨⟨k+1,rr2,mtk++ [⟨xb,u2⟩],aa,?_,htk2,hsr,hszr,_,om7.out,or7.out,ot7.out,k47.out,k68.out,kb7.out,g7.out,s7.out,ah,aa⟩,rfl⟩<;>go_num;done)
        case measure=>simp[intOf];omega
     ·obtain rfl:k=tags.length:=by omega
      have hp2:=hid (show j_6 ms (rr.length+1) rr ⟨ms,mtk,[],rev,jW1,jW1,jW1⟩=j_6 ms 25 r0 (j2_ ms) by
       have h1:=htk.out;have h2:=hp1.out;rw[lC] at h1;rw[<-h1] at h2;refine Eq.trans ?_ h2;exact j02 aa aa)
      clear htk hp1;go_wp2;go_roundg rr.length
      case measure=>simp;omega
      case rel=>exact⟨rr,mtk,rev,rfl,hs,hsz,hp2,_,_,om,or_,k4,k6,kb,g,hg3,aa,aa⟩
   ·rw[ii h2] at hp1;have e2:(mk==2)=false:=ik.2 h2;have hno:=hid hp1.symm;clear h4 h3 h2 hp1;exact ec
def jb_ : Prop := ∀ (d : Dsk) (W : World) (br : Nat) (vs vw : Value) (A seq : Int) (r0 : List ByteArray) (w : World), Below W.heap.size W w -> j_7 W (.agg #[vs, vw]) d -> W.heap.size <= br -> sfx d A r0 -> (∀ s ∈ r0, s.size <= 9223372036854775807) -> Blk w br (jf7 vs vw A r0.length) 148 ->
    Calls Tryz.prog 104 #[.pointer (some ⟨br,0,none⟩),.int .i64 seq] w fun e w'=>kn5 seq r0 br vs vw A w e w'
section
variable(hOne:jb_)(d:Dsk)(W:World)(br:Nat)(vs vw:Value)(A seq:Int)(r0:List ByteArray)(w:World)(hW:Below W.heap.size W w)(hd:j_7 W (.agg #[vs,vw]) d)(hbr:W.heap.size<=br)(hs0:sfx d A r0)(hsz:∀s∈r0,s.size<=9223372036854775807)(kb:Blk w br (jf7 vs vw A r0.length) 148)
include hOne hW hd hbr hs0 hsz kb
theorem kG8{t : Txn}{r' : List ByteArray}(hp : j_6 seq 25 r0 (j2_ seq) = some (t, r')) :Calls Tryz.prog 104 #[.pointer (some ⟨br,0,none⟩),.int .i64 seq] w fun e w'=>∃v,e=.returned (.tuple #[v,.bool true])/\jR0 w.heap.size 93 3 w' v t/\Blk w' br (jf7 vs vw A r'.length) 148/\w.grownBy w' (some br):=by
 refine(hOne d W br vs vw A seq r0 w hW hd hbr hs0 hsz kb).mono fun e w' h=>?_;rcases h with ⟨t2,r2,h1,h2⟩|⟨h1,_⟩
 ·rw[hp] at h1;simp only[iO,ks] at h1;obtain⟨rfl,rfl⟩:=h1;exact h2
 ·rw[hp] at h1;cases h1
theorem kG7(hp : j_6 seq 25 r0 (j2_ seq) = none) :Calls Tryz.prog 104 #[.pointer (some ⟨br,0,none⟩),.int .i64 seq] w fun e w'=>e=.returned (.tuple #[.agg #[.int .i64 0,.slice none 0 0,.slice none 0 0,.slice none 0 0,.bool false,.int .i64 0,.bool false,.int .i64 0,.bool false,.int .i64 0],.bool false])/\ ∃n,Blk w' br (jf7 vs vw A n) 148/\w.grownBy w' (some br):=by
 refine(hOne d W br vs vw A seq r0 w hW hd hbr hs0 hsz kb).mono fun e w' h=>?_;rcases h with ⟨t2,r2,h1,_⟩|⟨_,h2⟩
 ·rw[hp] at h1;cases h1
 ·exact h2
end
theorem eG{A:Prop}(h:A:=by
 clear hsu hde;go_enter Tryz.func70,Tryz.ntmps70
 go_wp2_with (go_at_call 80;((with_reducible refine hR.out.mono ?_);rintro e w1 ⟨rfl,hb1⟩;replace kr:=kr.step hb1;replace nx:=bgo nx hb1))
 go_wp2_with (go_at_call 103;((with_reducible refine(hD.out _).mono ?_);rintro e w2 ⟨v2,rfl,hmk,hb2⟩;obtain⟨vt,vb,rfl,ot,ob,t1,t2⟩:=hmk;dsimp only at ot ob t1 t2⊢;obtain⟨at_,ct,rfl⟩:=ot.form;obtain⟨ab,cb,rfl⟩:=ob.form;replace kr:=kr.step hb2;replace nx:=bgo nx hb2;have r0:=kr.cell 0;have r1:=kr.cell 1;have r2:=kr.cell 2;have z0:=kr.free 0;have z1:=kr.free 1;have z2:=kr.free 2;simp only[Zga,Zgb,Zgc] at r0 r1 r2;have lr:=kr.lt))
 exact iL (v:=.tuple #[.agg #[.slice none 0 0,.int .i64 0,.int .i64 0],.int .i64 1]) bZ rfl ⟨_,rfl,⟨_,rfl,j43.nil _ _ _ _ _⟩,bal (((nx.setCell (p:=⟨w.heap.size+1,0,none⟩) ag _).setCell (p:=⟨w.heap.size+1,1,none⟩) ag _).setCell (p:=⟨w.heap.size+1,2,none⟩) ag _) _⟩):A:=h
theorem fB{A:Prop}(h:A:=by
 have h1:scanE d=2:=by unfold scanE;rw[ii h]
 refine⟨?_,h1,?_⟩
 ·unfold readE at h⊢
  split
  ·rename_i hh;rw[ij hh] at h;exact absurd rfl h
  ·rfl
 ·unfold scanF;rw[ii (by rw[h1];decide)]):A:=h
theorem gG{A:Prop}(h:A:=by
 have h1:scanE d=1:=by unfold scanE;rw[ij h,ii h2]
 refine⟨h1,?_⟩;unfold scanF;rw[ii (by rw[h1];decide)]):A:=h
theorem gS{A:Prop}(h:A:=by
 have h1:scanE d=0:=by unfold scanE;rw[ij h,ij h2]
 refine⟨h1,?_⟩;unfold scanF;rw[ij h1]):A:=h
theorem kN6(hDec : jI8)(hOne : jb_)(d : Dsk)(v : Value)(w : World)(hd : j_7 w v d) :Calls Tryz.prog 70 #[v] w fun e w'=>∃v',e=.returned (.tuple #[v',.int .i64 (scanE d)])/\ko3 w.heap.size 51 93 3 w' v' (scanF d)/\Below w.heap.size w w':=by
 have hd0:=hd;obtain⟨vs,vw,rfl,hs,hw,n1,n2⟩:=hd;obtain⟨as_,cs,rfl,_⟩:=hs.form;obtain⟨aw,cw,rfl,_⟩:=hw.form;have hR:=fun w' (hh:j_7 w' (.agg #[.slice as_ d.safe.length cs,.slice aw d.writes.length cw]) d)=>jA8 d 0 _ w' hh;have hsz:=jG2 d 0;have hD:=fun w'=>hDec (readD d 0) w' aa;have hbd:=fun h=>jA5 (s:=readD d 0) h;have hLs:=fun A=>jg7 d A;have hLx:=fun A=>kN9 d A;have hLl:=fun A=>j13 d A
 have hx2:readE d 0≠0->readE d 0=2/\scanE d=2/\scanF d=⟨[],0,0⟩:=fun h=>by
  exact fB
 have hx1:readE d 0=0->¬(decE (readD d 0)=0/\(decM (readD d 0)).kind=1)->scanE d=1/\scanF d=⟨[],0,0⟩:=fun h h2=>by
  exact gG
 have hx0:readE d 0=0->decE (readD d 0)=0/\(decM (readD d 0)).kind=1->scanE d=0/\scanF d=⟨(j8_ 25 (logL d (decM (readD d 0)).at_) (decM (readD d 0)).seq).1,(j8_ 25 (logL d (decM (readD d 0)).at_) (decM (readD d 0)).seq).2.1,((decM (readD d 0)).at_+(24-((j8_ 25 (logL d (decM (readD d 0)).at_) (decM (readD d 0)).seq).2.2.length:Int)))%24⟩:=fun h h2=>by
  exact gS
 generalize scanE d=sE at*;generalize scanF d=sF at*;generalize readE d 0=re at*;generalize readD d 0=s0 at*;generalize decE s0=de at*;generalize decM s0=M at*;obtain⟨mk,ms,ma,tags,blocks⟩:=M;dsimp only at*;have kd:Blk ((w.alloc (.cells #[.slice as_ d.safe.length cs,.slice aw d.writes.length cw] 44)).alloc (.cells #[.slice none 0 0,.int .i64 0,.int .i64 0] 56)) w.heap.size #[.slice as_ d.safe.length cs,.slice aw d.writes.length cw] 44:=(kk3 w _ _).alloc _;have kr:Blk ((w.alloc (.cells #[.slice as_ d.safe.length cs,.slice aw d.writes.length cw] 44)).alloc (.cells #[.slice none 0 0,.int .i64 0,.int .i64 0] 56)) (w.heap.size+1) #[.slice none 0 0,.int .i64 0,.int .i64 0] 56:=kl8 ag;have nx:Below w.heap.size w ((w.alloc (.cells #[.slice as_ d.safe.length cs,.slice aw d.writes.length cw] 44)).alloc (.cells #[.slice none 0 0,.int .i64 0,.int .i64 0] 56)):=bal (bal (b0 w) _) _;have a0:=kd.cell 0;have a1:=kd.cell 1;simp only[Zga,Zgb,Zgc] at a0 a1;replace hR:=hid (hR _ (hd0.below nx));replace hD:=hid hD;replace hLs:=hid hLs;replace hLx:=hid hLx;replace hLl:=hid hLl;replace hd0:=hid hd0;clear hs hw;by_cases hre:re=0
 rotate_left
 ·obtain⟨rfl,rfl,rfl⟩:=hx2 hre;clear hx1 hx0 hx2 hre hbd;go_enter Tryz.func70,Tryz.ntmps70
  go_wp2_with (go_at_call 80;((with_reducible refine hR.out.mono ?_);rintro e w1 ⟨rfl,hb1⟩;replace kr:=kr.step hb1;replace nx:=bgo nx hb1;have r0:=kr.cell 0;have r1:=kr.cell 1;have r2:=kr.cell 2;have z0:=kr.free 0;have z1:=kr.free 1;have z2:=kr.free 2;simp only[Zga,Zgb,Zgc] at r0 r1 r2))
  exact iL (v:=.tuple #[.agg #[.slice none 0 0,.int .i64 0,.int .i64 0],.int .i64 2]) (by simp[results,Tryz.results70,go_sem,r0,r1,r2]) rfl ⟨_,rfl,⟨_,rfl,j43.nil _ _ _ _ _⟩,((nx.setCell ag _).setCell ag _).setCell ag _⟩
 by_cases hsu:de=0/\mk=1
 rotate_left
 ·obtain⟨rfl,rfl⟩:=hx1 hre hsu;subst hre;clear hx1 hx0 hx2 hbd;by_cases hde:de=0
  ·have hde2:(de != 0)=false:=by rw[hde];rfl
   have hmk:(mk != 1)=true:=jd.2 (fun h=>hsu ⟨hde,h⟩);exact eG
  ·have hde2:(de != 0)=true:=jd.2 hde;exact eG
 obtain⟨rfl,hF⟩:=hx0 hre hsu;obtain⟨rfl,rfl⟩:=hsu;subst hre;obtain⟨_,_,q3,q4,q5,q6⟩:=hbd rfl;clear hx0 hx1 hx2 hbd;have hL0:=hid (hLx.out ma);have hL1:=hid (hLs.out ma);have hL2:=hLl.out ma;generalize logL d ma=L at*;have hG0:=hid (show(j8_ 25 L ms)=j8_ (L.length+1) L ms by rw[hL2]);replace hF:=hid hF;generalize hGG:j8_ 25 L ms=G at*;have hA0:(ma+(24-((24:Nat):Int)))%24=ma:=aa;have hrd:jf7 (.slice as_ d.safe.length cs) (.slice aw d.writes.length cw) ma L.length= #[.slice as_ d.safe.length cs,.slice aw d.writes.length cw,.int .i64 ma,.int .i64 24]:=by unfold jf7;rw[hL2,hA0];rfl
 clear hLs hLx hLl hGG;replace hrd:=hid hrd;go_enter Tryz.func70,Tryz.ntmps70
 go_wp2_with (go_at_call 80;((with_reducible refine hR.out.mono ?_);rintro e w1 ⟨rfl,hb1⟩;replace kr:=kr.step hb1;replace kd:=kd.step hb1;replace nx:=bgo nx hb1))
 go_wp2_with (go_at_call 103;((with_reducible refine(hD.out _).mono ?_);rintro e w2 ⟨v2,rfl,hmk,hb2⟩;obtain⟨vt,vb,rfl,ot,ob,t1,t2⟩:=hmk;dsimp only at ot ob t1 t2⊢;obtain⟨at_,ct,rfl⟩:=ot.form;obtain⟨ab,cb,rfl⟩:=ob.form;replace kr:=kr.step hb2;replace kd:=kd.step hb2;replace nx:=bgo nx hb2;clear a0 a1;have a0:=kd.cell 0;have a1:=kd.cell 1;simp only[Zga,Zgb,Zgc] at a0 a1;have lr:=kr.lt;have ld:=kd.lt))
 have hat0:(ma+(24-(L.length:Int)))%24=ma:=by rw[hL2];omega
 have kb0:Blk (((w2.alloc (.cells #[.int .i64 1,.int .i64 ms,.int .i64 ma,.slice at_ tags.length ct,.slice ab blocks.length cb] 67)).alloc (.cells #[.slice as_ d.safe.length cs,.slice aw d.writes.length cw,.int .i64 ma,.int .i64 24] 148)).alloc (.cells #[.slice none 0 0,.int .i64 ms,.int .i64 ma] 56)) (w2.heap.size+1) (jf7 (.slice as_ d.safe.length cs) (.slice aw d.writes.length cw) ma L.length) 148:=by rw[hrd.out];exact(kl8 ag).alloc _
 have kf0:Blk (((w2.alloc (.cells #[.int .i64 1,.int .i64 ms,.int .i64 ma,.slice at_ tags.length ct,.slice ab blocks.length cb] 67)).alloc (.cells #[.slice as_ d.safe.length cs,.slice aw d.writes.length cw,.int .i64 ma,.int .i64 24] 148)).alloc (.cells #[.slice none 0 0,.int .i64 ms,.int .i64 ma] 56)) (w2.heap.size+2) #[.slice none 0 0,.int .i64 ms,.int .i64 ((ma+(24-(L.length:Int)))%24)] 56:=by rw[hat0];exact kl8 ag
 have kr0:=((kr.alloc (.cells #[.int .i64 1,.int .i64 ms,.int .i64 ma,.slice at_ tags.length ct,.slice ab blocks.length cb] 67)).alloc (.cells #[.slice as_ d.safe.length cs,.slice aw d.writes.length cw,.int .i64 ma,.int .i64 24] 148)).alloc (.cells #[.slice none 0 0,.int .i64 ms,.int .i64 ma] 56);have nx0:=bal (bal (bal nx (.cells #[.int .i64 1,.int .i64 ms,.int .i64 ma,.slice at_ tags.length ct,.slice ab blocks.length cb] 67)) (.cells #[.slice as_ d.safe.length cs,.slice aw d.writes.length cw,.int .i64 ma,.int .i64 24] 148)) (.cells #[.slice none 0 0,.int .i64 ms,.int .i64 ma] 56);have s0:w2.heap.size+3<=(((w2.alloc (.cells #[.int .i64 1,.int .i64 ms,.int .i64 ma,.slice at_ tags.length ct,.slice ab blocks.length cb] 67)).alloc (.cells #[.slice as_ d.safe.length cs,.slice aw d.writes.length cw,.int .i64 ma,.int .i64 24] 148)).alloc (.cells #[.slice none 0 0,.int .i64 ms,.int .i64 ma] 56)).heap.size:=ag;have lw2:=kr.lt;have hgo0:=hid (show([]:List Txn)++(j8_ (L.length+1) L ms).1=G.1/\(j8_ (L.length+1) L ms).2=G.2 by rw[<-hG0.out];exact⟨rfl,rfl⟩);clear hat0 kd ot ob hG0 hrd
 go_loopg [9,10] L.length (fun g _ _ wr=>∃(r:List ByteArray) (n:Int) (ts:List Txn),g=r.length/\Hid (sfx d ma r)/\Hid (∀s∈r,s.size<=9223372036854775807)/\Hid (ts++(j8_ (r.length+1) r n).1=G.1/\(j8_ (r.length+1) r n).2=G.2)/\1<=n/\n<=2147483647/\ts.length+r.length<=24/\ ∃vt,j43 (w2.heap.size+3) 51 93 3 wr vt ts/\Blk wr (w2.heap.size+2) #[vt,.int .i64 n,.int .i64 ((ma+(24-(r.length:Int)))%24)] 56/\Blk wr (w2.heap.size+1) (jf7 (.slice as_ d.safe.length cs) (.slice aw d.writes.length cw) ma r.length) 148/\Blk wr (w.heap.size+1) #[.slice none 0 0,.int .i64 0,.int .i64 0] 56/\Below w.heap.size w wr/\w2.heap.size+3<=wr.heap.size)
 case atStart=>exact⟨L,ms,[],rfl,hL0,hL1,hgo0,q5,q6,ah,_,j43.nil _ _ _ _ _,kf0,kb0,kr0,nx0,s0⟩
 case round=>
  clear kb0 kf0 kr0 nx0 s0 hgo0 hL0 hL1 kr nx a0 a1 ld lr;obtain⟨r,n,ts,rfl,hs,hsz,hgo,b1,b2,hb,vt,hox,kf,kb,kr,nx,hg3⟩:=hrel;obtain⟨a,c,rfl⟩:=hox.form;have lf:=kf.lt;have lb:=kb.lt;have lr:=kr.lt;have f0:=kf.cell 0;have f1:=kf.cell 1;have f2:=kf.cell 2;have r0:=kr.cell 0;have r1:=kr.cell 1;have r2:=kr.cell 2;have z0:=kr.free 0;have z1:=kr.free 1;have z2:=kr.free 2;simp only[Zga,Zgb,Zgc] at f0 f1 f2 r0 r1 r2;by_cases hlt:n<2147483647
  rotate_left
  ·have hFF := hid (show sF = ⟨ts, n, ((ma + (24 - (r.length : Int))) % 24)⟩ by
     obtain⟨g1,g2⟩:=hgo.out;rw[jL7 hlt] at g1 g2;rw[hF.out,<-g1,<-g2];simp)
   clear hgo hF;go_wp2;have oz:=((hox.setCell (p:=⟨w.heap.size+1,0,none⟩) ah (.slice a ts.length c)).setCell (p:=⟨w.heap.size+1,1,none⟩) ah (.int .i64 n)).setCell (p:=⟨w.heap.size+1,2,none⟩) ah (.int .i64 ((ma+(24-(r.length:Int)))%24));have nz:=((nx.setCell (p:=⟨w.heap.size+1,0,none⟩) ag (.slice a ts.length c)).setCell (p:=⟨w.heap.size+1,1,none⟩) ag (.int .i64 n)).setCell (p:=⟨w.heap.size+1,2,none⟩) ag (.int .i64 ((ma+(24-(r.length:Int)))%24));exact iL (v:=.tuple #[.agg #[.slice a ts.length c,.int .i64 n,.int .i64 ((ma+(24-(r.length:Int)))%24)],.int .i64 0]) (by simp[results,Tryz.results70,go_sem,r0,r1,r2]) rfl ⟨_,rfl,by rw[hFF.out];exact⟨_,rfl,oz.mono aa⟩,nz⟩
  have hw1:IntKind.i64.wrap (n+1)=n+1:=iz _ aa
  cases hp:j_6 n 25 r (j2_ n) with
  |none=>
   have hFF:=hid (show sF=⟨ts,n,((ma+(24-(r.length:Int)))%24)⟩ by
    obtain⟨g1,g2⟩:=hgo.out;rw[jL8 hp] at g1 g2;rw[hF.out,<-g1,<-g2];simp)
   have hO:=hid (kG7 hOne d w (w2.heap.size+1) (.slice as_ d.safe.length cs) (.slice aw d.writes.length cw) ma n r wr nx hd0.out aa hs.out hsz.out kb hp)
   clear hgo hF hp
   go_wp2_with (go_at_call 104;((with_reducible refine hO.out.mono ?_);rintro e w4 ⟨rfl,n4,kb4,g4⟩;replace hox:=hox.grownBlk kb ae ae ae g4;replace kf:=kf.grown g4 ag;replace kr:=kr.grown g4 ah;replace nx:=jM_ g4 nx nx.size aa;clear f0 f1 f2 r0 r1 r2 z0 z1 z2 lf lr;have lf:=kf.lt;have lr:=kr.lt;have f0:=kf.cell 0;have f1:=kf.cell 1;have f2:=kf.cell 2;have r0:=kr.cell 0;have r1:=kr.cell 1;have r2:=kr.cell 2;have z0:=kr.free 0;have z1:=kr.free 1;have z2:=kr.free 2;simp only[Zga,Zgb,Zgc] at f0 f1 f2 r0 r1 r2))
   have oz:=(((hox.setCell (p:=⟨w.heap.size+1,0,none⟩) ah (.slice a ts.length c)).setCell (p:=⟨w.heap.size+1,1,none⟩) ah (.int .i64 n)).setCell (p:=⟨w.heap.size+1,2,none⟩) ah (.int .i64 ((ma+(24-(r.length:Int)))%24))).below (bal (b0 _) (.cells #[.int .i64 0,.slice none 0 0,.slice none 0 0,.slice none 0 0,.bool false,.int .i64 0,.bool false,.int .i64 0,.bool false,.int .i64 0] 51))
   have nz:=bal (((nx.setCell (p:=⟨w.heap.size+1,0,none⟩) ag (.slice a ts.length c)).setCell (p:=⟨w.heap.size+1,1,none⟩) ag (.int .i64 n)).setCell (p:=⟨w.heap.size+1,2,none⟩) ag (.int .i64 ((ma+(24-(r.length:Int)))%24))) (.cells #[.int .i64 0,.slice none 0 0,.slice none 0 0,.slice none 0 0,.bool false,.int .i64 0,.bool false,.int .i64 0,.bool false,.int .i64 0] 51)
   exact iL (v:=.tuple #[.agg #[.slice a ts.length c,.int .i64 n,.int .i64 ((ma+(24-(r.length:Int)))%24)],.int .i64 0]) bZ rfl ⟨_,rfl,by rw[hFF.out];exact⟨_,rfl,oz.mono aa⟩,nz⟩
  |some p=>
   obtain⟨t,r'⟩:=p
   have hO:=hid (kG8 hOne d w (w2.heap.size+1) (.slice as_ d.safe.length cs) (.slice aw d.writes.length cw) ma n r wr nx hd0.out aa hs.out hsz.out kb hp)
   have hlen:=jU7 hp
   have hs2:=hid (jp_ hp hs.out)
   have hsz2:=hid (fun x hx=>hsz.out x (kZ0 hp x hx))
   have hgo2:=hid (show(ts++ [t])++(j8_ (r'.length+1) r' (n+1)).1=G.1/\(j8_ (r'.length+1) r' (n+1)).2=G.2 by
    obtain⟨g1,g2⟩:=hgo.out;obtain⟨g3,g4⟩:=jW6 hlt hp;rw[g3] at g1;rw[g4] at g2;exact⟨by rw[iE];exact g1,g2⟩)
   clear hgo hp hs hsz r0 r1 r2 z0 z1 z2
   obtain⟨xs,hox1,hxm,hxo⟩:=hox
   have hxl:xs.length=ts.length:=by rw[<-hxm];simp
   replace hxl:=hid hxl;replace hxm:=hid hxm;replace hxo:=hid hxo
   go_wp2_with (first|(go_at_call 104;((with_reducible refine hO.out.mono ?_);rintro e w4 ⟨v4,rfl,ot,kb4,g4⟩;obtain⟨y,hyt,hv,hoy⟩:=ot.tv;obtain⟨ty,⟨q1,q2,q3⟩,⟨q4,q5,q6⟩,⟨q7,q8,q9⟩⟩:=y;dsimp only at hyt;subst hyt;dsimp only[TV.val,j84,SlV.val] at hv;subst hv;have lw4:=g4.size;replace nx:=bal (jM_ g4 nx nx.size aa) (.cells #[.int .i64 ty.seq,.slice q1 q2 q3,.slice q4 q5 q6,.slice q7 q8 q9,.bool ty.h0.on,.int .i64 ty.h0.left,.bool ty.h1.on,.int .i64 ty.h1.left,.bool ty.h2.on,.int .i64 ty.h2.left] 51);have hxo4:=hid (fun x hx=>((hxo.out x hx).grownBlk kb ae ae g4).below (bal (b0 w4) (.cells #[.int .i64 ty.seq,.slice q1 q2 q3,.slice q4 q5 q6,.slice q7 q8 q9,.bool ty.h0.on,.int .i64 ty.h0.left,.bool ty.h1.on,.int .i64 ty.h1.left,.bool ty.h2.on,.int .i64 ty.h2.left] 51)));have hox4:=(hox1.grownBlk kb ae g4).alloc (.cells #[.int .i64 ty.seq,.slice q1 q2 q3,.slice q4 q5 q6,.slice q7 q8 q9,.bool ty.h0.on,.int .i64 ty.h0.left,.bool ty.h1.on,.int .i64 ty.h1.left,.bool ty.h2.on,.int .i64 ty.h2.left] 51);replace kf:=(kf.grown g4 ag).alloc (.cells #[.int .i64 ty.seq,.slice q1 q2 q3,.slice q4 q5 q6,.slice q7 q8 q9,.bool ty.h0.on,.int .i64 ty.h0.left,.bool ty.h1.on,.int .i64 ty.h1.left,.bool ty.h2.on,.int .i64 ty.h2.left] 51);replace kr:=(kr.grown g4 ah).alloc (.cells #[.int .i64 ty.seq,.slice q1 q2 q3,.slice q4 q5 q6,.slice q7 q8 q9,.bool ty.h0.on,.int .i64 ty.h0.left,.bool ty.h1.on,.int .i64 ty.h1.left,.bool ty.h2.on,.int .i64 ty.h2.left] 51);replace kb4:=kb4.alloc (.cells #[.int .i64 ty.seq,.slice q1 q2 q3,.slice q4 q5 q6,.slice q7 q8 q9,.bool ty.h0.on,.int .i64 ty.h0.left,.bool ty.h1.on,.int .i64 ty.h1.left,.bool ty.h2.on,.int .i64 ty.h2.left] 51);have hoy4:=hid ((hoy.mono (b2:=w2.heap.size+3) aa).below (bal (b0 w4) (.cells #[.int .i64 ty.seq,.slice q1 q2 q3,.slice q4 q5 q6,.slice q7 q8 q9,.bool ty.h0.on,.int .i64 ty.h0.left,.bool ty.h1.on,.int .i64 ty.h1.left,.bool ty.h2.on,.int .i64 ty.h2.left] 51)));clear f0 f1 f2 lf hoy ot;have lf:=kf.lt;have f0:=kf.cell 0;simp only[Zga,Zgb,Zgc] at f0;have kt:=kk3 w4 #[.int .i64 ty.seq,.slice q1 q2 q3,.slice q4 q5 q6,.slice q7 q8 q9,.bool ty.h0.on,.int .i64 ty.h0.left,.bool ty.h1.on,.int .i64 ty.h1.left,.bool ty.h2.on,.int .i64 ty.h2.left] 51;have x0:=kt.cell 0;have x1:=kt.cell 1;have x2:=kt.cell 2;have x3:=kt.cell 3;have x4:=kt.cell 4;have x5:=kt.cell 5;have x6:=kt.cell 6;have x7:=kt.cell 7;have x8:=kt.cell 8;have x9:=kt.cell 9;simp only[Zga,Zgb,Zgc] at x0 x1 x2 x3 x4 x5 x6 x7 x8 x9))|(at_builtin;(refine jZ5 rfl _ _ _ rfl (w2.heap.size+3) _ 10 128 jZ0 jn_ hox4 rfl ⟨ty,⟨q1,q2,q3⟩,⟨q4,q5,q6⟩,⟨q7,q8,q9⟩⟩ rfl rfl ts.length hxl.out aa aa ah ?_;intro a7 c7 w7 hown7 hbel7 hg7;have kf7:=kf.below hbel7 aa;have kr7:=kr.below hbel7 aa;have kb7:=kb4.below hbel7 aa;have nx7:=nx.trans (hbel7.mono aa);have lf7:=kf7.lt;have y0:=kf7.cell 0;have y1:=kf7.cell 1;have y2:=kf7.cell 2;have u0:=kf7.free 0;have u1:=kf7.free 1;have u2:=kf7.free 2;have d2:=kb7.cell 2;simp only[Zga,Zgb,Zgc] at y0 y1 y2;simp only[jf7,Zga,Zgb,Zgc] at d2)))
   have hp7:=km5 hox4 hxo4.out hoy4.out ae ae hown7 hg7
   rw[hxm.out] at hp7
   have oz:=(((hp7.setCell (p:=⟨w2.heap.size+2,0,none⟩) ag (.slice a7 (ts.length+1) c7)).setCell (p:=⟨w2.heap.size+2,1,none⟩) ag (.int .i64 (n+1))).setCell (p:=⟨w2.heap.size+2,2,none⟩) ag (.int .i64 ((ma+(24-(r'.length:Int)))%24))).below (b0 _).drew
   have kz:=(((kf7.set 0 (.slice a7 (ts.length+1) c7)).set 1 (.int .i64 (n+1))).set 2 (.int .i64 ((ma+(24-(r'.length:Int)))%24))).drew
   have kbz:=(((kb7.set_other ⟨w2.heap.size+2,0,none⟩ (.slice a7 (ts.length+1) c7) ag).set_other ⟨w2.heap.size+2,1,none⟩ (.int .i64 (n+1)) ag).set_other ⟨w2.heap.size+2,2,none⟩ (.int .i64 ((ma+(24-(r'.length:Int)))%24)) ag).drew
   have krz:=(((kr7.set_other ⟨w2.heap.size+2,0,none⟩ (.slice a7 (ts.length+1) c7) ah).set_other ⟨w2.heap.size+2,1,none⟩ (.int .i64 (n+1)) ah).set_other ⟨w2.heap.size+2,2,none⟩ (.int .i64 ((ma+(24-(r'.length:Int)))%24)) ah).drew
   have nz:=(((nx7.setCell (p:=⟨w2.heap.size+2,0,none⟩) ah (.slice a7 (ts.length+1) c7)).setCell (p:=⟨w2.heap.size+2,1,none⟩) ah (.int .i64 (n+1))).setCell (p:=⟨w2.heap.size+2,2,none⟩) ah (.int .i64 ((ma+(24-(r'.length:Int)))%24))).drew
   have sz:w2.heap.size+3<=w7.heap.size:=by have:=hbel7.size;simp at this;omega
   replace oz:=hid oz;replace kz:=hid kz;replace kbz:=hid kbz;replace krz:=hid krz;replace nz:=hid nz;replace sz:=hid sz
   clear hp7
   go_region
   all_goals
    go_wp2
    go_roundg r'.length
    case measure=>omega
    case rel=>exact⟨r',n+1,ts++ [ty],rfl,hs2,hsz2,hgo2,aa,aa,ah,_,oz.out,kz.out,kbz.out,krz.out,nz.out,dV⟩
def k72:Prop:=∀(d:Dsk) (v:Value) (w:World),j_7 w v d->Calls Tryz.prog 70 #[v] w fun e w'=>∃v',e=.returned (.tuple #[v',.int .i64 (scanE d)])/\ko3 w.heap.size 51 93 3 w' v' (scanF d)/\Below w.heap.size w w'
theorem jr6:jI8:=fun s w h=>jk2 s w h
theorem kx5:jb_:=fun d W br vs vw A seq r0 w h1 h2 h3 h4 h5 h6=>kE6 jr6 d W br vs vw A seq r0 w h1 h2 h3 h4 h5 h6
theorem k22:k72:=fun d v w h=>kN6 jr6 kx5 d v w h
end Go.Proofs.YtlecmdajpfkaeaaGreatDoor