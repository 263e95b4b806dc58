/- Parts of the proof. -/
import Derived.Test.YtlecmdajpfkaeaaGreatDoorKJournalRuns0
import Derived.Lib.SmallJoins
set_option linter.unusedVariables false
set_option linter.unusedSimpArgs false
set_option maxRecDepth 100000
set_option maxHeartbeats 40000000
namespace Go.Proofs.YtlecmdajpfkaeaaGreatDoor
open Go.RowKit Wb
theorem jQ0:Elem Tryz.prog 41 9 1 16:=kj_ (z:=.string ⟨#[]⟩) Tryz.underlying41 af rfl
theorem ji9:Elem Tryz.prog 42 96 2 24:=kj_ (z:=.agg #[.int .i64 0,.string ⟨#[]⟩]) Tryz.underlying42 af rfl
theorem fi{A:Prop}(h:A:=by
 have hz7:=hbel7.size;go_wp2;go_roundw
 case rel=>exact⟨k+1,aa,an,hown7,(j63 hnx aa _).trans (hbel7.mono aa),by simp at hz7;omega⟩
 case measure=>simp[intOf];omega):A:=h
theorem jw7(d : Dsk)(m : Nat)(v : Value)(w : World)(hd : j_7 w v d)(hm : m < d.safe.length)(hmx : d.writes.length <= 200) :Calls Tryz.prog 53 #[v,.int .i64 m] w fun e w'=>∃v',e=.returned v'/\Wb.Own j42 w.heap.size 9 1 w' v' (afterL d.safe[m] m d.writes)/\Below w.heap.size w w':=by
 obtain⟨vs,vw,rfl,hs,hw,n1,n2⟩:=hd;obtain⟨safe,writes⟩:=d;dsimp only at*;obtain⟨a,cap,rfl,_⟩:=hs.form;obtain⟨b,bcap,rfl,_⟩:=hw.form;obtain⟨b2,off,rfl,d0⟩:=kl6 (fun x=>.string x) (fun _=>rfl) hs hm;have lt2:=i0 _ _ d0;dsimp only at lt2;have hhit:=fun(k:Nat) (hk:k<writes.length)=>jI9 safe[m] m hk;have hmiss:=fun(k:Nat) (hk:k<writes.length)=>jM5 safe[m] m hk;have hnil:=js7 safe[m] m;have hlen:=fun(k:Nat)=>jV7 safe[m] m (writes.take k);replace hw:=hid hw;replace hhit:=hid hhit;replace hmiss:=hid hmiss;replace hnil:=hid hnil;replace hlen:=hid hlen;clear hs;generalize safe[m]=sm at*;have nf:0<w.heap.size+1:=aa;go_enter Tryz.func53,Tryz.ntmps53;go_wp2
 go_loopw [5,7,17] (fun l _ i wr=>∃k:Nat,k<=writes.length/\i=.int .i64 k/\Wb.Own j42 (w.heap.size+1) 9 1 wr l (afterL sm m (writes.take k))/\Below w.heap.size w wr/\w.heap.size+1<=wr.heap.size) (fun _ _ i _=>writes.length-(intOf i).toNat)
 case atStart=>
  refine⟨0,iq _,rfl,?_,aj,ag⟩;rw[List.take_zero,hnil.out];exact Own.lit (f:=j42) j89 (w.heap.size+1) 9 (w.alloc _) [sm] ag bV rfl ag rfl
 case round=>
  obtain⟨k,hk,rfl,hown,hnx,hz⟩:=hrel;by_cases hlt:k<writes.length
  ·obtain⟨b3,off3,rfl,d1,d2⟩:=kj3 (fun x=>.int .i64 x.at_) (fun x=>.string x.text) (fun _=>rfl) (hw.out.below hnx) hlt;have lt1:=i0 _ _ d1;dsimp only at lt1;by_cases heq:writes[k].at_=m
   ·have hh:=hhit.out k hlt heq;have hl:=hlen.out k;rw[iA] at hl;have e1:(writes[k].at_==(m:Int))=true:=iT.2 heq;replace hh:=hid hh;clear heq;generalize writes[k]=x at*;generalize afterL sm m (writes.take k)=ls at*
    go_wp2_with (at_builtin;(refine j70 rfl _ _ _ rfl (w.heap.size+1) _ 1 16 j89 jQ0 (hown.alloc _) rfl x.text rfl rfl ?c1 ?c2 ?c3 ?c4))
    all_goals try(case c1=>omega)
    all_goals try(case c2=>unfold maxLen;omega)
    all_goals try(case c3=>simp;omega)
    case c4=>
     intro v7 w7 hown7 hbel7 _;rw[<-hh.out] at hown7;exact fi
   ·have hh:=hmiss.out k hlt heq;have e1:(writes[k].at_==(m:Int))=false:=ik.2 heq;replace hh:=hid hh;clear heq;generalize writes[k]=x at*;go_wp2;go_roundw
    case rel=>exact⟨k+1,aa,an,by rw[hh.out];exact hown.alloc _,j63 hnx aa _,ah⟩
    case measure=>simp[intOf];omega
  ·rw[iV aa] at hown;go_wp2;go_ret;exact⟨_,rfl,hown.mono aa,hnx⟩
theorem jQ6(d : Dsk)(n : Int)(v : Value)(w : World)(hd : j_7 w v d) :Calls Tryz.prog 26 #[v,.int .i64 n] w fun e w'=>e=.returned (.tuple #[.string (readD d n),.int .i64 (readE d n)])/\Below w.heap.size w w':=by
 have hG:=fun w (hh:j_7 w v d)=>j29 d v w hh;have hA:=fun w=>jB1 n w;have hd2:=hd;obtain⟨vs,vw,rfl,hs,hw,n1,n2⟩:=hd;obtain⟨a,cap,rfl,_⟩:=hs.form;obtain⟨b,bcap,rfl,_⟩:=hw.form;replace hd2:=hid hd2;by_cases hg:goodD d=true
 ·rw[hg] at hG;by_cases ha:jR6 n=true
  ·rw[ha] at hA;have hr:readD d n=lastT (jM3 d n) n d.writes:=by unfold readD;rw[ij ⟨hg,ha⟩]
   have he:readE d n=0:=by unfold readE;rw[ij ⟨hg,ha⟩]
   rw[he];obtain⟨g1,g2,_,_⟩:=(j81 d).1 hg;obtain⟨h0,h1⟩:0<=n/\n<37:=iF ha;obtain⟨m,rfl⟩:∃m:Nat,n=m:=⟨n.toNat,aa⟩;have hm:m<d.safe.length:=aa;have hsf:jM3 d m=d.safe[m]:=by simp[jM3,hm]
   rw[hsf] at hr;have hF:=fun v w (hh:j_7 w v d)=>jw7 d m v w hh hm g2;have hla:=jH_ d.safe[m] m d.writes;have hll:=jV7 d.safe[m] m d.writes;rw[<-hr] at hla;clear hg ha he hsf hr hs hw g1;generalize readD d m=r at*;generalize afterL d.safe[m] m d.writes=ls at*
   obtain⟨hl0,hl1⟩:0<ls.length/\ls[ls.length-1]? =some r:=by
    rw[List.getLast?_eq_getElem?] at hla;exact⟨by have:=(i4.1 hla).1;omega,hla⟩
   obtain⟨safe,writes⟩:=d;dsimp only at*;replace hG:=hid hG;replace hA:=hid hA;replace hF:=hid hF;obtain⟨q,hq⟩:∃q,ls.length=q+1:=⟨ls.length-1,aa⟩;have hql:q<ls.length:=aa
   have hqv:ls[q]=r:=by
    rw[show ls.length-1=q from aa,ix hql] at hl1;exact kF hl1
   replace hqv:=hid hqv;clear hla hm hl1 hl0;go_enter Tryz.func26,Tryz.ntmps26
   go_wp2_with (first|(go_at_call 52;refine(hG.out _ (hd2.out.below aj)).mono ?_;rintro e w1 ⟨rfl,hb1⟩;obtain⟨hbc,hbf⟩:=j51 hb1;have hbz:=hb1.size;try simp only[iN,iJ,World.size_drew] at hbz;have hz0:=ir (n:=w.heap.size) aa hbz)|(go_at_call 61;refine(hA.out _).mono ?_;rintro e w2 ⟨rfl,rfl⟩)|(go_at_call 53;(refine(hF.out _ _ (hd2.out.below aj)).mono ?_;rintro e w3 ⟨v3,rfl,hown,hb3⟩;obtain⟨a3,cap3,rfl⟩:=hown.form;obtain⟨b3,off3,rfl,d3⟩:=kl6 (fun x=>.string x) (fun _=>rfl) hown.reads hql;rw[hqv.out] at d3;rw[hq])))
   go_ret2;exact⟨rfl,aj⟩
  ·have hr:readD d n=⟨#[]⟩:=by unfold readD;rw[ii (fun hh=>ha hh.2)]
   have he:readE d n=2:=by unfold readE;rw[ii (fun hh=>ha hh.2)]
   rw[hr,he];rw[iW _|>.mp ha] at hA;clear hs hw ha hg hr he;replace hG:=hid hG;replace hA:=hid hA;go_enter Tryz.func26,Tryz.ntmps26
   go_wp2_with (first|(go_at_call 52;refine(hG.out _ (hd2.out.below aj)).mono ?_;rintro e w1 ⟨rfl,hb1⟩;obtain⟨hbc,hbf⟩:=j51 hb1;have hbz:=hb1.size;try simp only[iN,iJ,World.size_drew] at hbz;have hz0:=ir (n:=w.heap.size) aa hbz)|(go_at_call 61;refine(hA.out _).mono ?_;rintro e w2 ⟨rfl,rfl⟩))
   go_ret2;exact⟨rfl,aj⟩
 ·have hr:readD d n=⟨#[]⟩:=by unfold readD;rw[ii (fun hh=>hg hh.1)]
  have he:readE d n=2:=by unfold readE;rw[ii (fun hh=>hg hh.1)]
  rw[hr,he];rw[iW _|>.mp hg] at hG;clear hs hw hg hr he;replace hG:=hid hG;go_enter Tryz.func26,Tryz.ntmps26
  go_wp2_with (go_at_call 52;refine(hG.out _ (hd2.out.below aj)).mono ?_;rintro e w1 ⟨rfl,hb1⟩;obtain⟨hbc,hbf⟩:=j51 hb1;have hbz:=hb1.size;try simp only[iN,iJ,World.size_drew] at hbz;have hz0:=ir (n:=w.heap.size) aa hbz)
  go_ret2;exact⟨rfl,aj⟩
theorem je_(d : Dsk)(v : Value)(w : World)(hd : j_7 w v d) :Calls Tryz.prog 88 #[v] w fun e w'=>∃vs vw,e=.returned (.agg #[vs,vw])/\Wb.Own j42 w.heap.size 9 1 w' vs d.safe/\Wb.Own wrC w.heap.size 96 2 w' vw d.writes/\(vs.ownBlock=none\/vs.ownBlock≠vw.ownBlock)/\Below w.heap.size w w':=by
 obtain⟨vs,vw,rfl,hs,hw,n1,n2⟩:=hd;obtain⟨safe,writes⟩:=d;dsimp only at*;obtain⟨a,cap,rfl,c1,c2⟩:=hs.form;obtain⟨b,bcap,rfl,c3,c4⟩:=hw.form;replace hs:=hid hs;replace hw:=hid hw;go_enter Tryz.func88,Tryz.ntmps88;go_wp2
 go_region_law (first|(refine jZ_ rfl _ _ 41 rfl _ _ 1 16 j89 jQ0 (Own.nil _ _ _ _ _) rfl safe (hs.out.below aj) rfl ah ah (iy _) ?_;intro v1 w1 hown1 hb1 _;obtain⟨a1,cap1,rfl⟩:=hown1.form;obtain⟨hbc,hbf⟩:=j51 hb1;have hbz:=hb1.size;try simp only[iN,iJ,World.size_drew] at hbz;have hz0:=ir (n:=w.heap.size) aa hbz;have hz1:=ir (n:=w.heap.size+1) aa hbz;simp only[iw] at hown1)|(refine jZ_ rfl _ _ 42 rfl _ _ 2 24 jO9 ji9 (Own.nil _ _ _ _ _) rfl writes (hw.out.below aj) rfl ah ah (iy _) ?_;intro v2 w2 hown2 hb2 _;obtain⟨a2,cap2,rfl⟩:=hown2.form;obtain⟨hbc2,hbf2⟩:=j51 hb2;simp only[iw] at hown2))
 all_goals
  have hz2:=hb2.size
  have t1:=jE hown1
  have t2:=jE hown2
  have hsep:(Value.slice a1 safe.length cap1).ownBlock=none\/(Value.slice a1 safe.length cap1).ownBlock≠(Value.slice a2 writes.length cap2).ownBlock:=by
   cases h1:(Value.slice a1 safe.length cap1).ownBlock with
   |none=>exact .inl rfl
   |some k=>
    refine .inr fun h2=>?_
    have g1:=(t1 k h1).2
    have g2:=(t2 k h2.symm).1
    omega
  have k1:Blk _ (w.heap.size+1) #[.slice a1 safe.length cap1,.slice a2 writes.length cap2] 44:=(((((kl8 (w:=w.alloc (.cells #[.slice a safe.length cap,.slice b writes.length bcap] 44)) (cs:= #[.slice none 0 0,.slice none 0 0]) (t:=44) (n:=w.heap.size+1) ag).drew.step hb1).step hb2).set 0 (.slice a1 safe.length cap1)).set 1 (.slice a2 writes.length cap2))
  have o1:=((hown1.below hb2).setCell (p:=⟨w.heap.size+1,0,none⟩) ag (.slice a1 safe.length cap1)).setCell (p:=⟨w.heap.size+1,1,none⟩) ag (.slice a2 writes.length cap2)
  have o2:=(hown2.setCell (p:=⟨w.heap.size+1,0,none⟩) ah (.slice a1 safe.length cap1)).setCell (p:=⟨w.heap.size+1,1,none⟩) ah (.slice a2 writes.length cap2)
  have hnx:Below w.heap.size w ((w2.setCell ⟨w.heap.size+1,0,none⟩ (.slice a1 safe.length cap1)).setCell ⟨w.heap.size+1,1,none⟩ (.slice a2 writes.length cap2)):=aj
  generalize (w2.setCell ⟨w.heap.size+1,0,none⟩ (.slice a1 safe.length cap1)).setCell ⟨w.heap.size+1,1,none⟩ (.slice a2 writes.length cap2)=w3 at*
  replace o1:=o1.mono (base':=w.heap.size) ah
  replace o2:=o2.mono (base':=w.heap.size) aa
  clear hb1 hb2 hbc hbf hbc2 hbf2 hown1 hown2 hbz hz0 hz1 hz2 t1 t2
  have d0:=k1.cell 0
  have d1:=k1.cell 1
  simp only[Zga,Zgb,Zgc] at d0 d1
  go_wp2
  exact iL (v:=.agg #[.slice a1 safe.length cap1,.slice a2 writes.length cap2]) (by simp[results,Tryz.results88,go_sem,d0,d1]) rfl ⟨_,_,rfl,o1,o2,hsep,hnx⟩
theorem fC{A:Prop}(h:A:=by
 intro v7 w7 hown7 hgrow;have hb:Below w.heap.size w w7:=(j63 (jW _ _) (iy _) _).grown hgrow ag (fun k hk=>by simp[Value.ownBlock] at hk;omega);go_wp2;go_ret;exact⟨_,rfl,hown7,hb⟩):A:=h
theorem jF6(l : List Wr)(v : Value)(w : World)(hl : RL wrC w v l)(hn : l.length <= 5864062014805) :Calls Tryz.prog 44 #[v] w fun e w'=>∃v',e=.returned v'/\Wb.Own wrC w.heap.size 96 2 w' v' l/\Below w.heap.size w w':=by
 obtain⟨a,cap,rfl,c1,c2⟩:=hl.form;have q24:∀(w:World) (a:Option Addr) (n c n' c':Nat),(binOp .eql 42 (.slice a n c) (.slice none n' c')).run Tryz.prog w=.ok (.bool a.isNone) w:=fun w a n c n' c'=>kA w _ _ a n c n' c' Tryz.underlying42
 cases a with
 |none=>
  have h0:l=[]:=by
   obtain⟨a',cap',hv,_,_,h3⟩:=hl;rcases h3 with h3|⟨b,off,ha,_⟩
   ·cases l with
    |nil=>rfl
    |cons x l=>simp[wrC] at h3
   ·simp only[i9] at hv;rw[ha] at hv;exact absurd hv.1 ag
  subst h0
  go_enter Tryz.func44,Tryz.ntmps44
  go_wp2
  go_ret
  exact⟨_,rfl,Own.nil _ _ _ _ _,aj⟩
 |some a=>
  replace hl:=hid hl
  go_enter Tryz.func44,Tryz.ntmps44
  go_wp2_with (at_builtin;(refine j62 rfl _ _ _ rfl w.heap.size _ 2 24 jO9 ji9 (Own.lit jO9 w.heap.size _ w [] (iy _) (iq _) rfl rfl rfl) rfl l (hl.out.below aj) rfl ?k1 ?k2 ?k3 ?k4))
  all_goals try(case k1=>simp;omega)
  all_goals try(case k2=>simp;omega)
  all_goals try(case k3=>simp)
  case k4=>
   exact fC
theorem jT5(l : List ByteArray)(v : Value)(w : World)(hl : RL j42 w v l)(hn : l.length <= 8796093022208) :Calls Tryz.prog 43 #[v] w fun e w'=>∃v',e=.returned v'/\Wb.Own j42 w.heap.size 9 1 w' v' l/\Below w.heap.size w w':=by
 obtain⟨a,cap,rfl,c1,c2⟩:=hl.form;have q24:∀(w:World) (a:Option Addr) (n c n' c':Nat),(binOp .eql 41 (.slice a n c) (.slice none n' c')).run Tryz.prog w=.ok (.bool a.isNone) w:=fun w a n c n' c'=>kA w _ _ a n c n' c' Tryz.underlying41
 cases a with
 |none=>
  have h0:l=[]:=by
   obtain⟨a',cap',hv,_,_,h3⟩:=hl;rcases h3 with h3|⟨b,off,ha,_⟩
   ·cases l with
    |nil=>rfl
    |cons x l=>simp[j42] at h3
   ·simp only[i9] at hv;rw[ha] at hv;exact absurd hv.1 ag
  subst h0
  go_enter Tryz.func43,Tryz.ntmps43
  go_wp2
  go_ret
  exact⟨_,rfl,Own.nil _ _ _ _ _,aj⟩
 |some a=>
  replace hl:=hid hl
  go_enter Tryz.func43,Tryz.ntmps43
  go_wp2_with (at_builtin;(refine j62 rfl _ _ _ rfl w.heap.size _ 1 16 j89 jQ0 (Own.lit j89 w.heap.size _ w [] (iy _) (iq _) rfl rfl rfl) rfl l (hl.out.below aj) rfl ?k1 ?k2 ?k3 ?k4))
  all_goals try(case k1=>simp;omega)
  all_goals try(case k2=>simp;omega)
  all_goals try(case k3=>simp)
  case k4=>
   exact fC
theorem gH{A:Prop}(h:A:=by
 go_wp2;go_quiet (fail);go_wp2;go_roundw
 case rel=>exact⟨k+1,aa,an,k0,k1,jP4 hnx⟩
 case measure=>simp[intOf];omega):A:=h
theorem je2(d : Dsk)(v1 v2 : Value)(w : World)(hd1 : j_7 w v1 d)(hd2 : j_7 w v2 d) :Calls Tryz.prog 13 #[v1,v2] w fun e w'=>e=.returned (.bool true)/\Below w.heap.size w w':=by
 obtain⟨vs,vw,rfl,hs,hw,n1,n2⟩:=hd1;obtain⟨vs2,vw2,rfl,hs2,hw2,_,_⟩:=hd2;obtain⟨safe,writes⟩:=d;dsimp only at*;obtain⟨a,cap,rfl,_⟩:=hs.form;obtain⟨b,bcap,rfl,_⟩:=hw.form;obtain⟨a2,cap2,rfl,_⟩:=hs2.form;obtain⟨b2,bcap2,rfl,_⟩:=hw2.form;replace hs:=hid hs;replace hw:=hid hw;replace hs2:=hid hs2;replace hw2:=hid hw2;go_enter Tryz.func13,Tryz.ntmps13;go_wp2
 go_loopw [5,26] (fun _ i wr=>∃k:Nat,k<=safe.length/\i=.int .i64 k/\Blk wr w.heap.size #[.slice a safe.length cap,.slice b writes.length bcap] 44/\Blk wr (w.heap.size+1) #[.slice a2 safe.length cap2,.slice b2 writes.length bcap2] 44/\Below w.heap.size w wr) (fun _ i _=>safe.length-(intOf i).toNat)
 case atStart=>exact⟨0,iq _,rfl,(kk3 w _ _).alloc _,kl8 ag,aj⟩
 case round=>
  obtain⟨k,hk,rfl,k0,k1,hnx⟩:=hrel;have c0:=k0.cell 0;have c1:=k0.cell 1;have e0:=k1.cell 0;have e1:=k1.cell 1;simp only[Zga,Zgb,Zgc] at c0 c1 e0 e1;by_cases hlt:k<safe.length
  ·obtain⟨x1,o1,rfl,d0⟩:=kl6 (fun x=>.string x) (fun _=>rfl) (hs.out.below hnx) hlt;obtain⟨x2,o2,rfl,d1⟩:=kl6 (fun x=>.string x) (fun _=>rfl) (hs2.out.below hnx) hlt;generalize safe[k]=x at*;exact gH
  ·go_wp2
   go_loopw [6,44] (fun _ i wr=>∃k:Nat,k<=writes.length/\i=.int .i64 k/\Blk wr w.heap.size #[.slice a safe.length cap,.slice b writes.length bcap] 44/\Blk wr (w.heap.size+1) #[.slice a2 safe.length cap2,.slice b2 writes.length bcap2] 44/\Below w.heap.size w wr) (fun _ i _=>writes.length-(intOf i).toNat)
   case atStart=>exact⟨0,iq _,rfl,k0,k1,hnx⟩
   case round=>
    clear c0 c1 e0 e1 k0 k1 hnx;obtain⟨k,hk,rfl,k0,k1,hnx⟩:=hrel;have c1:=k0.cell 1;have e1:=k1.cell 1;simp only[Zga,Zgb,Zgc] at c1 e1;by_cases hlt:k<writes.length
    ·obtain⟨x1,o1,rfl,d0,d00⟩:=kj3 (fun x=>.int .i64 x.at_) (fun x=>.string x.text) (fun _=>rfl) (hw.out.below hnx) hlt;obtain⟨x2,o2,rfl,d1,d11⟩:=kj3 (fun x=>.int .i64 x.at_) (fun x=>.string x.text) (fun _=>rfl) (hw2.out.below hnx) hlt;generalize writes[k]=x at*;exact gH
    ·go_wp2;go_ret;exact⟨rfl,hnx⟩
end Go.Proofs.YtlecmdajpfkaeaaGreatDoor
namespace Wb
open Go Go.ChangeShapes Go.WideShapes Go.ChangeAt Go.RowKit Go.Joins Go.Deep
theorem kT6{α:Type}{f:α->List Value}{c:Nat}(hf:∀x,(f x).length=c):∀(l:List α) (j:Nat) (u:Value),(l.flatMap f)[j]? =some u->∃i x r,l[i]? =some x/\j=i*c+r/\(f x)[r]? =some u/\r<c
 | [],j,u,h=>by simp at h
 |y::l,j,u,h=>by
  rw[jj] at h;by_cases hj:j<c
  ·rw[i8 (by rw[hf];exact hj)] at h;exact⟨0,y,j,rfl,aa,h,hj⟩
  ·rw[jb (by rw[hf];omega),hf] at h;obtain⟨i,x,r,h1,h2,h3,h4⟩:=kT6 hf l _ u h;exact⟨i+1,x,r,b_,by rw[ju];omega,h3,h4⟩
end Wb
namespace Go.Proofs.YtlecmdajpfkaeaaGreatDoor
open Go.ChangeShapes Go.WideShapes Go.ChangeAt Go.RowKit Go.Joins Wb
instance:Inhabited Tag:=⟨⟨0,false⟩⟩
end Go.Proofs.YtlecmdajpfkaeaaGreatDoor
namespace Wb
open Go Go.ChangeShapes Go.WideShapes Go.ChangeAt Go.RowKit Go.Joins Go.Deep
section
variable{H:Type}{enc:TypeId×Value->H}{P:Program}{w:World}{base:Nat}{spare:Nat->Bool}{held:Bool}
theorem kF4{α : Type}[Inhabited α]{f : α -> List Value}{c : Nat}{Q : α -> DataW H -> Prop}(hf : ∀ x, (f x).length = c)(h0 : 0 < c){t e : TypeId}{fuel : Nat}{cs : List Value}{x : DataW H × List MemPlace}(ht : P.underlying t = some (.slice e))(hc : P.cellsOf e = c)(hread:∀n cs' y,DataW.trod enc P w base spare held n e cs'=some y->cs'.length=c->∃x:α,cs'=f x/\Q x y.1) (h:DataW.trod enc P w base spare held fuel t cs=some x):∃(v:Value) (l:List α),cs=[v]/\RL f w v l/\((x.1=.nil/\l=[])\/ ∃el sp,x.1=.slice el sp/\el.length=l.length/\ ∀(i:Nat) (z:α),l[i]? =some z->∃y,el[i]? =some y/\Q z y):=by
 rcases open_slice ht h with ⟨rfl,rfl⟩|⟨a,len,cap,m,n,D,Pl,rfl,hb,hl,hm,hmm,rfl,hx⟩
 ·exact⟨_,[],rfl,RL.nil f w,.inl ⟨rfl,rfl⟩⟩
 have hlm:len<=m:=by rw[hmm];split<;>omega
 have each:∀i,i<len->∃x:α,(∀r,r<c->w.cell? (a.add (i*c+r))=(f x)[r]?)/\Q x (D i):=by
  intro i hi;obtain⟨cs',h1,h2⟩:=hx i aa;rw[hc] at h1;obtain⟨_,hlen,hcell⟩:=World.cells?_some h1;obtain⟨x,rfl,hq⟩:=hread _ _ _ h2 hlen;exact⟨x,fun r hr=>by have:=hcell r hr;rwa [add_add] at this,hq⟩
 obtain⟨X,hX⟩:=choose_lt each;refine⟨_,(List.range len).map X,rfl,?_,.inr ⟨_,_,rfl,ag,?_⟩⟩
 rotate_left
 ·intro i z hz;rw[jQ,mh] at hz;obtain⟨k,hk,rfl⟩:=hz;obtain⟨hkl,rfl⟩:=i4.1 hk;simp only[List.length_range] at hkl;refine⟨D i,by rw[jQ,hk];simp,?_⟩;simpa using(hX i hkl).2
 refine⟨some a,cap,ag,by simpa using hl,hm,?_⟩;by_cases hlen:len=0
 ·subst hlen;left;rfl
 right
 have hspot:a.spot=none:=by
  have h1:=(hX 0 aa).1 0 h0;have h2:(f (X 0))[0]? ≠none:=by rw[Ne,List.getElem?_eq_none_iff,hf];omega
  obtain⟨u,hu⟩:=Option.ne_none_iff_exists'.1 h2;rw[hu] at h1;simpa [Addr.add] using World.cell?_spot h1
 obtain⟨b,off,spot⟩:=a;obtain rfl:spot=none:=hspot;refine⟨b,off,rfl,fun j u hj=>?_⟩;obtain⟨i,x,r,h1,rfl,h3,h4⟩:=kT6 hf _ _ _ hj;rw[jQ,mh] at h1;obtain⟨k,hk,rfl⟩:=h1;obtain⟨hkl,rfl⟩:=i4.1 hk;simp only[List.length_range] at hkl;simp only[lg] at h3;have:=(hX i hkl).1 r h4;rw[h3,kK] at this;exact this
end
instance:Inhabited TV:=⟨⟨j2_ 0,⟨none,0,0⟩,⟨none,0,0⟩,⟨none,0,0⟩⟩⟩
open Go Go.RowKit
def dropC(l:List Cpy)(b:Int):List Cpy:=l.filter (fun c=>c.block != b)
theorem k19{l:List Cpy}{b:Int}{k:Nat}(hk:k<l.length):dropC (l.take (k+1)) b=if l[k].block=b then dropC (l.take k) b else dropC (l.take k) b++ [l[k]]:=by
 unfold dropC;rw[it hk,kL];by_cases h:l[k].block=b
 ·rw[ij h];simp[h]
 ·rw[ii h];simp[h]
theorem kU5(l:List Cpy)(b:Int):(dropC l b).length<=l.length:=kO _ _
def kX4(l:List Cpy)(b:Int)(s:ByteArray)(k:Nat):Option Cpy:=if(k:Int)=b then some ⟨b,s⟩ else(getC l k).map fun t=>⟨k,t⟩
def ju3(l:List Cpy)(b:Int)(s:ByteArray)(n:Nat):List Cpy:=(List.range n).filterMap (kX4 l b s)
def k71(l:List Cpy)(b:Int)(s:ByteArray):List Cpy:=ju3 l b s 12
theorem jo0(l:List Cpy)(b:Int)(s:ByteArray)(k:Nat):ju3 l b s (k+1)=ju3 l b s k++(kX4 l b s k).toList:=by
 unfold ju3;rw[kE,List.filterMap_append]
 cases h:kX4 l b s k<;>simp[h]
theorem kL5(l:List Cpy)(b:Int)(s:ByteArray)(k:Nat):(ju3 l b s k).length<=k:=by
 unfold ju3;exact i3 (lW _ _) ag
def viewN(f:Int->Option ByteArray)(n:Nat):List Cpy:=(List.range n).filterMap fun(k:Nat)=>(f k).map fun t=>(⟨k,t⟩:Cpy)
def j05(f:Int->Option ByteArray):List Cpy:=viewN f 12
def jc0(t:Txn)(o:Option ByteArray)(b:Int):Option ByteArray:=match getC t.mt b with|some s=>some s|none=>if inI t.rev b then none else o
def newestB(l:List Txn)(b:Int):Option ByteArray:=l.foldl (fun o t=>jc0 t o b) none
def newestL(l:List Txn):List Cpy:=j05 (newestB l)
theorem jF8(l:List Txn)(t:Txn)(b:Int):newestB (l++ [t]) b=jc0 t (newestB l b) b:=by simp[newestB]
theorem jQ2{l:List Txn}{k:Nat}(hk:k<l.length)(b:Int):newestB (l.take (k+1)) b=jc0 l[k] (newestB (l.take k) b) b:=by
 rw[it hk,jF8]
theorem j45(f:Int->Option ByteArray)(n:Nat):viewN f (n+1)=viewN f n++((f n).map fun t=>(⟨n,t⟩:Cpy)).toList:=by
 unfold viewN;rw[kE,List.filterMap_append]
 cases h:(f n).map fun t=>(⟨n,t⟩:Cpy)<;>simp[h]
theorem jI7(f:Int->Option ByteArray)(n:Nat):(viewN f n).length<=n:=by
 unfold viewN;exact i3 (lW _ _) ag
theorem k70{f g:Int->Option ByteArray}{n:Nat}(h:∀k:Nat,k<n->f k=g k):viewN f n=viewN g n:=by
 induction n with
 |zero=>rfl
 |succ n ih=>rw[j45,j45,ih (fun k hk=>h k aa),h n aa]
theorem k7_{f g:Int->Option ByteArray}(h:∀k:Nat,k<12->f k=g k):j05 f=j05 g:=k70 h
theorem jc8{f:Int->Option ByteArray}{n:Nat}{c:Cpy}:c∈viewN f n↔ ∃k:Nat,k<n/\c.block=k/\f k=some c.text:=by
 unfold viewN;rw[List.mem_filterMap];constructor
 ·rintro⟨k,hk,hc⟩;rw[mh] at hc;obtain⟨t,ht,rfl⟩:=hc;exact⟨k,List.mem_range.1 hk,rfl,ht⟩
 ·rintro⟨k,hk,hb,ht⟩;refine⟨k,List.mem_range.2 hk,?_⟩;rw[ht,Option.map_some];obtain⟨b,t⟩:=c;simp only at hb;subst hb;rfl
theorem k02{f:Int->Option ByteArray}{n:Nat}(b:Int):getC (viewN f n) b=if 0<=b/\b<n then f b else none:=by
 induction n with
 |zero=>
  rw[ii aa]
  rfl
 |succ n ih=>
  rw[j45]
  have happ:∀(l1 l2:List Cpy),getC (l1++l2) b=(getC l1 b).or (getC l2 b):=fun l1 l2=>by
   unfold getC;rw[List.find?_append]
   cases List.find? (fun c=>c.block==b) l1<;>rfl
  rw[happ,ih]
  by_cases h1:0<=b/\b<n
  ·rw[ij h1,ij aa]
   cases hf:f b with
   |some s=>rfl
   |none=>
    cases hg:f n with
    |none=>rfl
    |some s=>
     have:((n:Int)==b)=false:=ik.2 aa
     simp[getC,this]
  ·rw[ii h1,Option.none_or];by_cases h2:b=n
   ·subst h2;rw[ij aa]
    cases hg:f n with
    |none=>rfl
    |some s=>simp[getC]
   ·rw[ii aa]
    cases hg:f n with
    |none=>rfl
    |some s=>
     have:((n:Int)==b)=false:=ik.2 (fun h=>h2 h.symm)
     simp[getC,this]
theorem jq_{f:Int->Option ByteArray}{b:Int}(h0:0<=b)(h1:b<12):getC (j05 f) b=f b:=by
 unfold j05;rw[k02,ij ⟨h0,b_⟩]
theorem k0_(f:Int->Option ByteArray)(b:Int):dropC (j05 f) b=j05 (fun x=>if x=b then none else f x):=by
 unfold j05;generalize 12=n
 induction n with
 |zero=>rfl
 |succ n ih=>
  have happ:∀(l1 l2:List Cpy),dropC (l1++l2) b=dropC l1 b++dropC l2 b:=fun l1 l2=>kL _ _
  rw[j45,j45,happ,ih]
  congr 1
  by_cases h:(n:Int)=b
  ·rw[ij h]
   cases hf:f n with
   |none=>rfl
   |some s=>simp[dropC,h]
  ·rw[ii h]
   cases hf:f n with
   |none=>rfl
   |some s=>simp[dropC,h]
theorem kX5(f:Int->Option ByteArray)(b:Int)(s:ByteArray):k71 (j05 f) b s=j05 (fun x=>if x=b then some s else f x):=by
 unfold k71
 have key:∀n:Nat,n<=12->ju3 (j05 f) b s n=viewN (fun x=>if x=b then some s else f x) n:=by
  intro n
  induction n with
  |zero=>intro _;rfl
  |succ n ih=>
   intro hn
   rw[jo0,j45,ih aa]
   congr 1
   unfold kX4
   by_cases h:(n:Int)=b
   ·rw[ij h,ij h,Option.map_some,h]
   ·rw[ii h,ii h,jq_ aa aa]
 exact key 12 (iy _)
theorem j08{l:List Int}(h:rise l=true){k:Nat}(hk:k<l.length):0<=l[k]/\l[k]<12/\ ∀i (hi:i<k),l[i]<l[k]:=by
 have hr:=(jY9 l).1 h;have hg:∀j (hj:j<l.length),l.getD j 0=l[j]:=fun j hj=>by simp[hj]
 have hlt:∀d i,i+d<l.length->0<d->l.getD i 0<l.getD (i+d) 0:=by
  intro d
  induction d with
  |zero=>intro i _ h;omega
  |succ d ih=>
   intro i hi _
   have h1:=(hr (i+(d+1)) hi).2.2 aa
   rw[show i+(d+1)-1=i+d from aa] at h1
   by_cases hd:0<d
   ·have:=ih i aa hd;omega
   ·obtain rfl:d=0:=by omega
    simpa using h1
 have h0:=hr k hk;refine⟨by rw[<-hg k hk];exact h0.1,by rw[<-hg k hk];exact h0.2.1,fun i hi=>?_⟩;have:=hlt (k-i) i aa aa;rw[show i+(k-i)=k from aa,hg i aa,hg k hk] at this;exact this
theorem j58{l:List Cpy}(h:copiesB l=true){k:Nat}(hk:k<l.length):isBlk l[k].block=true/\l[k].text.size=32/\(∀i (hi:i<k),l[i].block<l[k].block)/\hasB (l.take k) l[k].block=false:=by
 unfold copiesB at h;rw[iD] at h;have hk':k<(blks l).length:=by simpa [blks] using hk
 obtain⟨g1,g2,g3⟩:=j08 h.1 hk';have e:∀j (hj:j<l.length),(blks l)[j]'(by simpa [blks] using hj)=l[j].block:=fun j hj=>by simp[blks]
 rw[e k hk] at g1 g2
 have g4:∀i (hi:i<k),l[i].block<l[k].block:=fun i hi=>by
  have:=g3 i hi;rw[e k hk,e i aa] at this;exact this
 refine⟨iG ⟨g1,g2⟩,iF (ja.1 h.2 _ (iM hk)),g4,?_⟩;unfold hasB;rw[mb];intro c hc;obtain⟨i,hi,rfl⟩:=i_.1 hc;rw[iA] at hi;rw[kR];have:=g4 i aa;simp only[iT];omega
theorem j59{l:List Cpy}(h:copiesB l=true):l.length<=12:=by
 by_cases hl:l.length<=12
 ·exact hl
 ·exfalso
  have hk:∀k (hk:k<l.length),(k:Int)<=l[k].block:=by
   intro k
   induction k with
   |zero=>intro hk;have:=iF (j58 h hk).1;exact this.1
   |succ k ih=>
    intro hk
    have h1:=ih aa
    have h2:=(j58 h hk).2.2.1 k aa
    omega
  have h12:=iF (j58 h (k:=12) aa).1;have:=hk 12 aa;omega
theorem k2_{l:List Int}(h:rise l=true):l.length<=12:=by
 by_cases hl:l.length<=12
 ·exact hl
 ·exfalso
  have hk:∀k (hk:k<l.length),(k:Int)<=l[k]:=by
   intro k
   induction k with
   |zero=>intro hk;exact(j08 h hk).1
   |succ k ih=>
    intro hk
    have h1:=ih aa
    have h2:=(j08 h hk).2.2 k aa
    omega
  have h12:=(j08 h (k:=12) aa).2.1;have:=hk 12 aa;omega
def revF(g:Int->Option ByteArray)(r:List Int):Int->Option ByteArray:=fun x=>if inI r x then none else g x
theorem kO6(g:Int->Option ByteArray){r:List Int}{k:Nat}(hk:k<r.length):(fun x=>if x=r[k] then none else revF g (r.take k) x)=revF g (r.take (k+1)):=by
 funext x;unfold revF;rw[jK6 hk];by_cases h:x=r[k]
 ·have hb:(r[k]==x)=true:=iT.2 h.symm;rw[ij h,hb,Bool.or_true,ij rfl]
 ·have hb:(r[k]==x)=false:=ik.2 (fun hh=>h hh.symm);rw[ii h,hb,Bool.or_false]
def metaF(g:Int->Option ByteArray)(m:List Cpy):Int->Option ByteArray:=m.foldl (fun f c x=>if x=c.block then some c.text else f x) g
theorem jH7(g:Int->Option ByteArray){m:List Cpy}{k:Nat}(hk:k<m.length):(fun x=>if x=m[k].block then some m[k].text else metaF g (m.take k) x)=metaF g (m.take (k+1)):=by
 unfold metaF;rw[it hk,kj];rfl
theorem jq7{m:List Cpy}(h:copiesB m=true)(g:Int->Option ByteArray)(x:Int):metaF g m x=match getC m x with|some s=>some s|none=>g x:=by
 have key:∀k,k<=m.length->metaF g (m.take k) x=match getC (m.take k) x with|some s=>some s|none=>g x:=by
  intro k
  induction k with
  |zero=>intro _;rfl
  |succ k ih=>
   intro hk
   have hk':k<m.length:=aa
   rw[<-jH7 g hk']
   have hd:=(j58 h hk').2.2.2
   have hget:getC (m.take (k+1)) x=(getC (m.take k) x).or (if m[k].block=x then some m[k].text else none):=by
    unfold getC;rw[it hk',List.find?_append]
    cases hf:(m.take k).find? (fun c=>c.block==x) with
    |some c=>rfl
    |none=>
     by_cases hb:m[k].block=x
     ·simp[hb]
     ·have:(m[k].block==x)=false:=ik.2 hb;simp[hb,this]
   rw[hget]
   show(if x=m[k].block then some m[k].text else metaF g (m.take k) x)=_
   by_cases hb:x=m[k].block
   ·have hn:=jz5 hd;rw[<-hb] at hn;rw[ij hb,hn,ij hb.symm];rfl
   ·rw[ii hb,ii (fun hh=>hb hh.symm),Option.or_none];exact ih aa
 have:=key m.length (iy _);rwa [iY] at this
theorem kM3{t:Txn}(h:copiesB t.mt=true)(g:Int->Option ByteArray):metaF (revF g t.rev) t.mt=fun b=>jc0 t (g b) b:=by
 funext b;rw[jq7 h];unfold jc0 revF
 cases getC t.mt b<;>rfl
theorem jh5{t:Txn}(h:goodT t=true){k:Nat}(hk:k<t.mt.length):inI t.rev t.mt[k].block=false/\hasB t.dt t.mt[k].block=false:=by
 obtain⟨_,_,_,_,ha,_⟩:=(j22 t).1 h;unfold apart at ha;rw[iD,ja,ja] at ha;constructor
 ·unfold inI;rw[mb];intro x hx hh;rw[iT] at hh;subst hh;have:=ha.1 _ hx;rw[iD] at this;have h2:=kI7 hk rfl;rw[h2] at this
  cases this.1
 ·have:=ha.2 _ (iM hk);simpa using this
def cmpI(x y:Int):Int:=if x<y then-1 else if y<x then 1 else 0
theorem kV5{x y:Int}(h:x<y):cmpI x y= -1:=ij h
theorem jb8{x y:Int}(h:y<x):cmpI x y=1:=by unfold cmpI;rw[ii aa,ij h]
theorem jb7{x y:Int}(h:x=y):cmpI x y=0:=by unfold cmpI;rw[ii aa,ii aa]
def posB(l:List Cpy)(b:Int):Nat:=(l.filter (fun c=>decide (c.block<b))).length
theorem fd{A:Prop}(h:A:=by
 conv=>lhs;rw[<-ji i l,kL]
 rw[lL.2,List.filter_eq_nil_iff.2,i6]
 ·intro c hc;obtain⟨k,hk,rfl⟩:=i_.1 hc;rw[List.getElem_drop];rw[iX] at hk;have:=h2 (i+k) aa aa;simpa using this
 ·intro c hc;obtain⟨k,hk,rfl⟩:=i_.1 hc;rw[kR];rw[iA] at hk;exact iG (h1 k aa aa)):A:=h
theorem kB0{l:List Cpy}{b:Int}{i:Nat}(hi:i<=l.length)(h1:∀k (hk:k<l.length),k<i->l[k].block<b)(h2:∀k (hk:k<l.length),i<=k->b<=l[k].block):posB l b=i:=by
 unfold posB
 have e:l.filter (fun c=>decide (c.block<b))=l.take i:=by
  exact fd
 rw[e,iA];omega
theorem kE2{l:List Cpy}(h:rise (blks l)=true):∀k (hk:k<l.length) i (hi:i<k),l[i].block<l[k].block:=by
 intro k hk i hi;have hk':k<(blks l).length:=by simpa [blks] using hk
 have:=(j08 h hk').2.2 i hi;simpa [blks] using this
theorem kC3{l : List Cpy}{b : Int}{i : Nat}(hs : ∀ k (hk : k < l.length) i (hi : i < k), l[i].block < l[k].block)(h1 : ∀ k (hk : k < l.length), k < i -> l[k].block < b)(h2 : ∀ k (hk : k < l.length), i <= k -> b <= l[k].block) :hasB l b=true↔ ∃h:i<l.length,l[i].block=b:=by
 unfold hasB;rw[kG];constructor
 ·rintro⟨c,hc,hb⟩;obtain⟨k,hk,rfl⟩:=i_.1 hc;have hb:l[k].block=b:=iT.1 hb
  have hik:i<=k:=by
   by_cases hki:k<i
   ·have:=h1 k hk hki;omega
   ·omega
  refine⟨aa,?_⟩;by_cases e:i=k
  ·subst e;exact hb
  ·have:=hs k hk i aa;have:=h2 i aa (iy _);omega
 ·rintro⟨h,hb⟩;exact⟨_,iM h,iT.2 hb⟩
theorem k3_{α:Type}(key:α->Int):∀(l m:List α),(l.map key).Pairwise (· < ·)->(m.map key).Pairwise (· < ·)->(∀x,x∈l↔x∈m)->l=m
 | [],[],_,_,_=>rfl
 | [],y::m,_,_,h=>absurd ((h y).2 lX) jp
 |x::l,[],_,_,h=>absurd ((h x).1 lX) jp
 |x::l,y::m,hl,hm,h=>by
  rw[jr,lh] at hl hm;have hx:=(h x).1 lX;have hy:=(h y).2 lX
  have e:x=y:=by
   rcases iS.1 hx with e|e
   ·exact e
   ·rcases iS.1 hy with e2|e2
    ·exact e2.symm
    ·have a:=hl.1 (key y) (jP e2);have b:=hm.1 (key x) (jP e);omega
  subst e;congr 1;refine k3_ key l m hl.2 hm.2 fun z=>⟨fun hz=>?_,fun hz=>?_⟩
  ·rcases iS.1 ((h z).1 (jH _ hz)) with e|e
   ·subst e;have:=hl.1 (key z) (jP hz);omega
   ·exact e
  ·rcases iS.1 ((h z).2 (jH _ hz)) with e|e
   ·subst e;have:=hm.1 (key z) (jP hz);omega
   ·exact e
theorem jW5(l:List Int):rise l=true↔l.Pairwise (· < ·)/\ ∀x∈l,0<=x/\x<12:=by
 constructor
 ·intro h;refine⟨kS.2 fun i j hi hj hij=>(j08 h hj).2.2 i hij,fun x hx=>?_⟩;obtain⟨k,hk,rfl⟩:=i_.1 hx;exact⟨(j08 h hk).1,(j08 h hk).2.1⟩
 ·rintro⟨h1,h2⟩;rw[jY9];intro k hk;have e:=h2 l[k] (iM hk);refine⟨by simpa [iR,hk] using e.1,by simpa [iR,hk] using e.2,fun h0=>?_⟩;have:=kS.1 h1 (k-1) k aa hk aa;simpa [iR,hk,show k-1<l.length from aa] using this
theorem j60(l:List Cpy):copiesB l=true↔(blks l).Pairwise (· < ·)/\ ∀c∈l,isBlk c.block=true/\c.text.size=32:=by
 unfold copiesB;rw[iD,jW5,ja];constructor
 ·rintro⟨⟨h1,h2⟩,h3⟩;exact⟨h1,fun c hc=>⟨iG (h2 _ (jP hc)),iF (h3 c hc)⟩⟩
 ·rintro⟨h1,h2⟩;refine⟨⟨h1,fun x hx=>?_⟩,fun c hc=>iG (h2 c hc).2⟩;obtain⟨c,hc,rfl⟩:=jg.1 hx;exact iF (h2 c hc).1
theorem j07:∀{l:List Cpy},(blks l).Pairwise (· < ·)->∀c:Cpy,c∈l↔getC l c.block=some c.text
 | [],_,c=>by simp[getC]
 |x::l,h,c=>by
  rw[blks,jr,lh] at h;have ih:=j07 (l:=l) h.2 c;rw[iS];by_cases e:x.block=c.block
  ·have hg:getC (x::l) c.block=some x.text:=by simp[getC,e]
   rw[hg];constructor
   ·rintro(rfl|hc)
    ·rfl
    ·have:=h.1 c.block (jP hc);omega
   ·intro ht;left;obtain⟨b,t⟩:=x;obtain⟨b',t'⟩:=c;simp only[iO] at ht;simp only at e;rw[e,ht]
  ·have hg : getC (x :: l) c.block = getC l c.block := by
     unfold getC;rw[List.find?_cons_of_neg (by simpa using e)]
   rw[hg,<-ih];constructor
   ·rintro(rfl|hc)
    ·exact absurd rfl e
    ·exact hc
   ·exact .inr
theorem jS0{l:List Cpy}(h:(blks l).Pairwise (· < ·)){c:Cpy}(hc:c∈l):getC l c.block=some c.text:=(j07 h c).1 hc
theorem jP9{l:List Cpy}{b:Int}:hasB l b=true↔ ∃c∈l,c.block=b:=by simp[hasB]
theorem jS1{l:List Int}{b:Int}:inI l b=true↔b∈l:=by simp[inI]
theorem kS4{l:List Int}{b:Int}:inI l b=false↔b∉l:=by rw[<-jS1];simp
theorem k17{l m:List Cpy}(hl:copiesB l=true)(hm:copiesB m=true)(h:∀b,isBlk b=true->getC l b=getC m b):l=m:=by
 obtain⟨h1,h2⟩:=(j60 l).1 hl;obtain⟨h3,h4⟩:=(j60 m).1 hm;refine k3_ Cpy.block l m h1 h3 fun c=>?_;constructor
 ·intro hc;rw[j07 h3,<-h _ (h2 c hc).1,<-j07 h1];exact hc
 ·intro hc;rw[j07 h1,h _ (h4 c hc).1,<-j07 h3];exact hc
theorem kD5(f:Int->Option ByteArray)(n:Nat):(blks (viewN f n)).Pairwise (· < ·):=by
 induction n with
 |zero=>exact List.Pairwise.nil
 |succ n ih=>
  rw[j45,blks,jC]
  refine lE.2 ⟨ih,?_,?_⟩
  ·cases f n<;>simp
  ·intro a ha b hb;obtain⟨c,hc,rfl⟩:=jg.1 ha;obtain⟨d,hd,rfl⟩:=jg.1 hb;obtain⟨k,hk,he,_⟩:=jc8.1 hc
   cases hf:f n with
   |none=>rw[hf] at hd;simp at hd
   |some t=>rw[hf] at hd;simp at hd;subst hd;simp only;omega
theorem jE7{f:Int->Option ByteArray}(h:∀b t,isBlk b=true->f b=some t->t.size=32):copiesB (j05 f)=true:=by
 rw[j60];refine⟨kD5 f 12,fun c hc=>?_⟩;obtain⟨k,hk,he,ht⟩:=jc8.1 hc;have hb:isBlk c.block=true:=iG aa;exact⟨hb,h c.block c.text hb (by rw[he];exact ht)⟩
theorem k50{l:List Cpy}(h:copiesB l=true){b:Int}{t:ByteArray}(hg:getC l b=some t):isBlk b=true/\t.size=32:=by
 obtain⟨h1,h2⟩:=(j60 l).1 h;have:=(j07 h1 ⟨b,t⟩).2 hg;exact h2 _ this
theorem kL3{l:List Cpy}(h:copiesB l=true):j05 (getC l)=l:=by
 refine k17 (jE7 fun b t _ ht=>(k50 h ht).2) h fun b hb=>?_;have:=iF hb;exact jq_ this.1 this.2
theorem kD6(l:List Cpy)(b:Int)(s:ByteArray):k71 l b s=j05 (fun x=>if x=b then some s else getC l x):=by
 unfold k71 ju3 j05 viewN;congr 1;funext k;unfold kX4;by_cases e:(k:Int)=b
 ·show(if(k:Int)=b then _ else _)=Option.map _ (if(k:Int)=b then _ else _);rw[ij e,ij e,<-e];rfl
 ·show(if(k:Int)=b then _ else _)=Option.map _ (if(k:Int)=b then _ else _);rw[ii e,ii e]
theorem kP4{l:List Cpy}(b:Int)(h:rise (blks l)=true):(∀k (hk:k<l.length),k<posB l b->l[k].block<b)/\(∀k (hk:k<l.length),posB l b<=k->b<=l[k].block)/\posB l b<=l.length:=by
 have hr:=kE2 h;have hle:l.findIdx (fun c=> !decide (c.block<b))<=l.length:=List.findIdx_le_length
 have h1:∀k (hk:k<l.length),k<l.findIdx (fun c=> !decide (c.block<b))->l[k].block<b:=fun k hk hlt=>by
  have:=List.not_of_lt_findIdx hlt;simpa using this
 have h2:∀k (hk:k<l.length),l.findIdx (fun c=> !decide (c.block<b))<=k->b<=l[k].block:=fun k hk hge=>by
  have hlt:l.findIdx (fun c=> !decide (c.block<b))<l.length:=aa;have h3:=List.findIdx_getElem (w:=hlt);have h4:b<=l[l.findIdx (fun c=> !decide (c.block<b))].block:=cg;by_cases e:l.findIdx (fun c=> !decide (c.block<b))=k
  ·simp only[e] at h4;exact h4
  ·have:=hr k hk _ (show l.findIdx (fun c=> !decide (c.block<b))<k from aa);omega
 rw[kB0 hle h1 h2];exact⟨h1,h2,hle⟩
theorem kS_{l:List Cpy}{b:Int}(h:rise (blks l)=true):hasB l b=true↔ ∃hk:posB l b<l.length,l[posB l b].block=b:=by
 obtain⟨h1,h2,_⟩:=kP4 b h;exact kC3 (kE2 h) h1 h2
def jf4(l:List Cpy)(b:Int)(s:ByteArray):List Cpy:=if hasB l b then l.set (posB l b) ⟨b,s⟩ else l.take (posB l b)++⟨b,s⟩::l.drop (posB l b)
theorem j57{l:List Cpy}(h:copiesB l=true):rise (blks l)=true:=by
 unfold copiesB at h;rw[iD] at h;exact h.1
theorem kB1{l:List Cpy}(b:Int)(s:ByteArray)(h:copiesB l=true):(blks (jf4 l b s)).Pairwise (· < ·):=by
 have hr:=j57 h;obtain⟨h1,h2,hle⟩:=kP4 b hr;have hpw:=((j60 l).1 h).1;unfold jf4
 cases hb:hasB l b with
 |true=>
  rw[ij rfl]
  obtain⟨hk,he⟩:=(kS_ hr).1 hb
  have e:blks (l.set (posB l b) ⟨b,s⟩)=blks l:=by
   unfold blks;rw[List.map_set];apply ku ag;intro i h3 h4;rw[lD]
   split
   ·rename_i e;subst e;simp[he]
   ·rfl
  rw[e];exact hpw
 |false=>
  rw[ii ae]
  have hne:∀c∈l,c.block≠b:=fun c hc e=>by
   rw[jP9.2 ⟨c,hc,e⟩] at hb;cases hb
  have hsplit:(blks (l.take (posB l b))++blks (l.drop (posB l b))).Pairwise (· < ·):=by
   unfold blks;rw[<-jC,ji];exact hpw
  obtain⟨p1,p2,p3⟩:=lE.1 hsplit
  have q1:∀x∈blks (l.take (posB l b)),x<b:=fun x hx=>by
   obtain⟨c,hc,rfl⟩:=jg.1 hx;obtain⟨k,hk,rfl⟩:=i_.1 hc;rw[iA] at hk;rw[kR];exact h1 k aa aa
  have q2:∀x∈blks (l.drop (posB l b)),b<x:=fun x hx=>by
   obtain⟨c,hc,rfl⟩:=jg.1 hx;have hn:=hne c (jI hc);obtain⟨k,hk,rfl⟩:=i_.1 hc;rw[iX] at hk;rw[List.getElem_drop] at hn⊢;have:=h2 (posB l b+k) aa aa;omega
  unfold blks at*
  rw[jC,jr]
  refine lE.2 ⟨p1,lh.2 ⟨q2,p2⟩,fun x hx y hy=>?_⟩
  rcases iS.1 hy with rfl|hy
  ·exact q1 x hx
  ·exact p3 x hx y hy
theorem jm7{l:List Cpy}(b:Int)(s:ByteArray)(h:copiesB l=true)(c:Cpy):c∈jf4 l b s↔c=⟨b,s⟩\/(c∈l/\c.block≠b):=by
 have hr:=j57 h;have hpw:=((j60 l).1 h).1;unfold jf4
 cases hb:hasB l b with
 |true=>
  rw[ij rfl]
  obtain⟨hk,he⟩:=(kS_ hr).1 hb
  have hrs:=kE2 hr
  rw[i_]
  constructor
  ·rintro⟨i,hi,rfl⟩;rw[List.length_set] at hi;rw[lD]
   split
   ·exact .inl rfl
   ·rename_i hne;refine .inr ⟨iM hi,fun e=>hne ?_⟩;rcases Nat.lt_trichotomy i (posB l b) with hlt|heq|hgt
    ·have:=hrs _ hk i hlt;omega
    ·exact heq.symm
    ·have:=hrs i hi _ hgt;omega
  ·rintro(rfl|⟨hc,hne⟩)
   ·exact⟨posB l b,dD,ag⟩
   ·obtain⟨i,hi,rfl⟩:=i_.1 hc;refine⟨i,by simpa using hi,?_⟩;rw[lD,ii];intro e;subst e;exact hne he
 |false=>
  rw[ii ae]
  have hne:∀c∈l,c.block≠b:=fun c hc e=>by
   rw[jP9.2 ⟨c,hc,e⟩] at hb;cases hb
  have hl:c∈l↔c∈l.take (posB l b)\/c∈l.drop (posB l b):=by
   rw[<-iK,ji]
  rw[iK,iS,hl]
  constructor
  ·rintro(hc|rfl|hc)
   ·exact .inr ⟨.inl hc,hne c (jc hc)⟩
   ·exact .inl rfl
   ·exact .inr ⟨.inr hc,hne c (jI hc)⟩
  ·rintro(rfl|⟨hc|hc,_⟩)
   ·exact .inr (.inl rfl)
   ·exact .inl hc
   ·exact .inr (.inr hc)
theorem jG0{l:List Cpy}{b:Int}{s:ByteArray}(h:copiesB l=true)(hb:isBlk b=true)(hs:s.size=32):copiesB (jf4 l b s)=true:=by
 rw[j60];refine⟨kB1 b s h,fun c hc=>?_⟩;rcases(jm7 b s h c).1 hc with rfl|⟨hc,_⟩
 ·exact⟨hb,hs⟩
 ·exact((j60 l).1 h).2 c hc
theorem kP8{l:List Cpy}(b:Int)(s:ByteArray)(h:copiesB l=true)(x:Int):getC (jf4 l b s) x=if x=b then some s else getC l x:=by
 have hp:=kB1 b s h;have hpw:=((j60 l).1 h).1;have hm:=j07 hp;by_cases e:x=b
 ·subst e;rw[ij rfl];exact(hm ⟨x,s⟩).1 ((jm7 x s h _).2 (.inl rfl))
 ·rw[ii e]
  cases hg:getC l x with
  |some t=>
   exact(hm ⟨x,t⟩).1 ((jm7 b s h _).2 (.inr ⟨(j07 hpw ⟨x,t⟩).2 hg,e⟩))
  |none=>
   cases hg2:getC (jf4 l b s) x with
   |none=>rfl
   |some t=>
    rcases(jm7 b s h _).1 ((hm ⟨x,t⟩).2 hg2) with e2|⟨hc,_⟩
    ·exact absurd (congrArg Cpy.block e2) e
    ·rw[(j07 hpw ⟨x,t⟩).1 hc] at hg;cases hg
theorem k49{l:List Cpy}{b:Int}{s:ByteArray}(h:copiesB l=true)(hb:isBlk b=true)(hs:s.size=32):jf4 l b s=k71 l b s:=by
 rw[kD6,<-kL3 (jG0 h hb hs)];exact k7_ fun k _=>kP8 b s h k
theorem jm6{l:List Cpy}(b:Int)(s:ByteArray)(h:copiesB l=true)(x:Int):hasB (jf4 l b s) x=(decide (x=b)||hasB l x):=by
 rw[jK5,jK5,kP8 b s h];by_cases e:x=b
 ·simp[e]
 ·simp[e]
theorem jz_{l:List Cpy}(b:Int)(h:copiesB l=true):copiesB (dropC l b)=true:=by
 obtain⟨h1,h2⟩:=(j60 l).1 h;rw[j60];unfold dropC;refine⟨?_,fun c hc=>h2 c (kn.1 hc).1⟩;exact h1.sublist (List.Sublist.map _ List.filter_sublist)
theorem jC3(l:List Cpy)(b x:Int):hasB (dropC l b) x=(hasB l x&&decide (x≠b)):=by
 rw[lP,iD,jP9,jP9,jY];unfold dropC;constructor
 ·rintro⟨c,hc,rfl⟩;rw[kn] at hc;exact⟨⟨c,hc.1,rfl⟩,by simpa using hc.2⟩
 ·rintro⟨⟨c,hc,rfl⟩,hne⟩;exact⟨c,kn.2 ⟨hc,by simpa using hne⟩,rfl⟩
def posI(l:List Int)(b:Int):Nat:=(l.filter (fun x=>decide (x<b))).length
def kS7(l:List Int)(b:Int):List Int:=l.take (posI l b)++b::l.drop (posI l b)
def revK(two:Bool)(l:List Int)(b:Int)(n:Nat):List Int:=((List.range n).map fun(k:Nat)=>(k:Int)).filter (fun k=>(k==b&&two)||(k != b&&inI l k))
theorem kO7(two:Bool)(l:List Int)(b:Int)(n:Nat):(revK two l b n).Pairwise (· < ·):=by
 unfold revK;refine List.Pairwise.filter _ ?_;rw[List.pairwise_map];exact List.pairwise_lt_range.imp fun h=>aa
theorem k37(two:Bool)(l:List Int)(b x:Int)(n:Nat):x∈revK two l b n↔(0<=x/\x<n)/\((x=b/\two=true)\/(x≠b/\x∈l)):=by
 unfold revK;rw[kn];simp only[jg,List.mem_range,kD,iD,iT,jd,jS1];constructor
 ·rintro⟨⟨k,hk,rfl⟩,h⟩;exact⟨aa,h⟩
 ·rintro⟨⟨h0,h1⟩,h⟩;exact⟨⟨x.toNat,aa,aa⟩,h⟩
theorem je4(two:Bool)(l:List Int)(b:Int)(n:Nat):revK two l b (n+1)=revK two l b n++(if((n:Int)==b&&two)||((n:Int) != b&&inI l n) then [(n:Int)] else []):=by
 unfold revK;rw[kE,jC,kL];congr 1;rw[List.map_singleton,List.filter_cons,List.filter_nil]
theorem k36(two:Bool)(l:List Int)(b:Int)(n:Nat):(revK two l b n).length<=n:=by
 unfold revK;exact i3 (kO _ _) ag
theorem kx9{l:List Int}(b:Int)(h:l.Pairwise (· < ·)):l.take (posI l b)=l.filter (fun x=>decide (x<b))/\l.drop (posI l b)=l.filter (fun x=> !decide (x<b)):=by
 induction l with
 |nil=>exact⟨rfl,rfl⟩
 |cons x l ih=>
  rw[lh] at h
  obtain⟨i1,i2⟩:=ih h.2
  by_cases e:x<b
  ·have hp:posI (x::l) b=posI l b+1:=by simp[posI,e]
   rw[hp,List.take_succ_cons,List.drop_succ_cons,i1,i2];simp[e]
  ·have hf : l.filter (fun x => decide (x < b)) = [] := List.filter_eq_nil_iff.2 fun y hy => by
     have:=h.1 y hy;simp;omega
   have hp:posI (x::l) b=0:=by simp[posI,e,hf]
   rw[hp]
   have hg:l.filter (fun x=> !decide (x<b))=l:=lL.2 fun y hy=>by
    have:=h.1 y hy;simp;omega
   simp[e,hf,hg]
theorem kw_(l:List Int)(b:Int):posI l b<=l.length:=kO _ _
theorem k__(l:List Int)(b x:Int):x∈kS7 l b↔x=b\/x∈l:=by
 unfold kS7;rw[iK,iS];have:x∈l↔x∈l.take (posI l b)\/x∈l.drop (posI l b):=by rw[<-iK,ji]
 rw[this];constructor
 ·rintro(h|h|h)<;>simp[h]
 ·rintro(h|h|h)<;>simp[h]
theorem kC4{l:List Int}{b:Int}(h:l.Pairwise (· < ·))(hn:b∉l):(kS7 l b).Pairwise (· < ·):=by
 obtain⟨h1,h2⟩:=kx9 b h;unfold kS7;rw[h1,h2];refine lE.2 ⟨h.filter _,lh.2 ⟨fun y hy=>?_,h.filter _⟩,fun x hx y hy=>?_⟩
 ·obtain⟨hy,hy2⟩:=kn.1 hy;have:y≠b:=fun e=>hn (e▸hy);simp at hy2;omega
 ·obtain⟨_,hx2⟩:=kn.1 hx;rcases iS.1 hy with rfl|hy
  ·simpa using hx2
  ·obtain⟨_,hy2⟩:=kn.1 hy;simp at hx2 hy2;omega
theorem kH1{l:List Int}{b:Int}(h:rise l=true)(hb:isBlk b=true)(hn:inI l b=false):rise (kS7 l b)=true:=by
 obtain⟨h1,h2⟩:=(jW5 l).1 h;rw[jW5];refine⟨kC4 h1 (kS4.1 hn),fun x hx=>?_⟩;rcases(k__ l b x).1 hx with rfl|hx
 ·exact iF hb
 ·exact h2 x hx
theorem ks4{l:List Int}{b:Int}(h:rise l=true)(hb:isBlk b=true)(hn:inI l b=false):kS7 l b=revK true l b 12:=by
 obtain⟨h1,h2⟩:=(jW5 l).1 h;have hb:=iF hb;refine k3_ id _ _ (by simpa using kC4 h1 (kS4.1 hn)) (by simpa using kO7 true l b 12) fun x=>?_;rw[k__,k37];constructor
 ·rintro(rfl|hx)
  ·exact⟨aa,.inl ⟨rfl,rfl⟩⟩
  ·exact⟨h2 x hx,.inr ⟨fun e=>kS4.1 hn (e▸hx),hx⟩⟩
 ·rintro⟨_,⟨rfl,_⟩|⟨_,hx⟩⟩
  ·exact .inl rfl
  ·exact .inr hx
def kL7(l:List Int)(b:Int):List Int:=l.filter (fun x=> !decide (x=b))
theorem k_6(l:List Int)(b x:Int):x∈kL7 l b↔x∈l/\x≠b:=by simp[kL7,kn]
theorem kG6{l:List Int}(b:Int)(h:rise l=true):rise (kL7 l b)=true:=by
 obtain⟨h1,h2⟩:=(jW5 l).1 h;rw[jW5];exact⟨h1.filter _,fun x hx=>h2 x ((k_6 l b x).1 hx).1⟩
theorem kr5{l:List Int}(b:Int)(h:rise l=true):kL7 l b=revK false l b 12:=by
 obtain⟨h1,h2⟩:=(jW5 l).1 h;refine k3_ id _ _ (by rw[List.map_id];exact h1.filter _) (by simpa using kO7 false l b 12) fun x=>?_;rw[k_6,k37];constructor
 ·rintro⟨hx,hne⟩;exact⟨h2 x hx,.inr ⟨hne,hx⟩⟩
 ·rintro⟨_,⟨_,hf⟩|⟨hne,hx⟩⟩
  ·cases hf
  ·exact⟨hx,hne⟩
theorem kr3(l:List Int)(b x:Int):inI (kL7 l b) x=(inI l x&&decide (x≠b)):=by
 rw[lP,iD,jS1,jS1,k_6,jY]
theorem ks3(l:List Int)(b x:Int):inI (kS7 l b) x=(decide (x=b)||inI l x):=by
 rw[lP,kD,jS1,jS1,k__,jY]
def askedI(t:Txn):Int:=IntKind.i64.wrap (IntKind.i64.wrap (IntKind.i64.wrap (((t.mt.length+t.rev.length:Nat):Int)+t.h0.left)+t.h1.left)+t.h2.left)
def openB(t:Txn):Bool:=t.h0.on||t.h1.on||t.h2.on
def jK7(h:Int):Bool:=decide (0<=h/\h<3)
theorem gD{A:Prop}(h:A:=by
 cases hg:goodT t
 ·rfl
 ·obtain⟨h1,h2,h3,h4,h5,h6,h7,h8⟩:=(j22 t).1 hg;rw[h1,h2,h3,h4,h5,h6,h7,h8] at h;simp at h):A:=h
theorem jB_{t:Txn}(h:k87 t.seq=false\/copiesB t.mt=false\/copiesB t.dt=false\/rise t.rev=false\/apart t=false\/hOk t.h0=false\/hOk t.h1=false\/hOk t.h2=false):goodT t=false:=by
 exact gD
theorem jY6(h:Hnd):hOk h=true↔0<=h.left/\h.left<=24/\(h.on=true\/h.left=0):=by
 unfold hOk;simp[and_assoc]
def j68(t:Txn)(h:Int):Hnd:=if h=0 then t.h0 else if h=1 then t.h1 else t.h2
def jk_(t:Txn)(h:Int)(x:Hnd):Txn:=if h=0 then{t with h0:=x} else if h=1 then{t with h1:=x} else{t with h2:=x}
def stopE(t:Txn)(h:Int):Int:=if goodT t=false then 2 else if¬(0<=h/\h<=2)\/(j68 t h).on=false then 4 else 0
def stopT(t:Txn)(h:Int):Txn:=if stopE t h=0 then jk_ t h jW1 else t
theorem k25{t:Txn}{h:Int}(hg:goodT t=false):stopE t h=2/\stopT t h=t:=by
 have e:stopE t h=2:=by unfold stopE;rw[ij hg]
 exact⟨e,by unfold stopT;rw[e,ii ae]⟩
theorem jZ3{t:Txn}{h:Int}(hg:goodT t=true)(hn:¬(0<=h/\h<=2)\/(j68 t h).on=false):stopE t h=4/\stopT t h=t:=by
 have e:stopE t h=4:=by unfold stopE;rw[ii c_,ij hn]
 exact⟨e,by unfold stopT;rw[e,ii ae]⟩
theorem jF2{t:Txn}{h:Int}(hg:goodT t=true)(hh:0<=h/\h<=2)(hn:(j68 t h).on=true):stopE t h=0/\stopT t h=jk_ t h jW1:=by
 have e:stopE t h=0:=by unfold stopE;rw[ii c_,ii (by rintro(h1|h1);exact h1 hh;rw[hn] at h1;cases h1)]
 exact⟨e,by unfold stopT;rw[ij e]⟩
def begE(t:Txn)(h n free:Int):Int:=if goodT t=false then 2 else if¬(0<=h/\h<=2) then 4 else if(j68 t h).on=true then 5 else if n<0\/12<n then 2 else if 24<askedI t+n\/free<jy8 (askedI t+n) then 6 else 0
def begT(t:Txn)(h n free:Int):Txn:=if begE t h n free=0 then jk_ t h ⟨true,n⟩ else t
theorem jK1{t:Txn}{h n free:Int}{k:Int}(hk:k≠0)(e:begE t h n free=k):begE t h n free=k/\begT t h n free=t:=⟨e,by unfold begT;rw[e,ii hk]⟩
theorem kW8{t:Txn}{h n free:Int}(hg:goodT t=false):begE t h n free=2/\begT t h n free=t:=
 jK1 ae (by unfold begE;rw[ij hg])
theorem k77{t:Txn}{h n free:Int}(hg:goodT t=true)(hn:¬(0<=h/\h<=2)):begE t h n free=4/\begT t h n free=t:=
 jK1 ae (by unfold begE;rw[ii c_,ij hn])
theorem jr0{t:Txn}{h n free:Int}(hg:goodT t=true)(hh:0<=h/\h<=2)(ho:(j68 t h).on=true):begE t h n free=5/\begT t h n free=t:=
 jK1 ae (by unfold begE;rw[ii c_,ii (fun x=>x hh),ij ho])
theorem jH0{t:Txn}{h n free:Int}(hg:goodT t=true)(hh:0<=h/\h<=2)(ho:(j68 t h).on=false)(hn:n<0\/12<n):begE t h n free=2/\begT t h n free=t:=
 jK1 ae (by unfold begE;rw[ii c_,ii (fun x=>x hh),ii (by rw[ho];decide),ij hn])
theorem j25{t:Txn}{h n free:Int}(hg:goodT t=true)(hh:0<=h/\h<=2)(ho:(j68 t h).on=false)(hn:¬(n<0\/12<n))(hf:24<askedI t+n\/free<jy8 (askedI t+n)):begE t h n free=6/\begT t h n free=t:=
 jK1 ae (by unfold begE;rw[ii c_,ii (fun x=>x hh),ii (by rw[ho];decide),ii hn,ij hf])
theorem jr_{t:Txn}{h n free:Int}(hg:goodT t=true)(hh:0<=h/\h<=2)(ho:(j68 t h).on=false)(hn:¬(n<0\/12<n))(hf:¬(24<askedI t+n\/free<jy8 (askedI t+n))):begE t h n free=0/\begT t h n free=jk_ t h ⟨true,n⟩:=by
 have e:begE t h n free=0:=by unfold begE;rw[ii c_,ii (fun x=>x hh),ii (by rw[ho];decide),ii hn,ii hf]
 exact⟨e,by unfold begT;rw[ij e]⟩
theorem j01{t:Txn}(h:goodT t=true):(0<=t.h0.left/\t.h0.left<=24)/\(0<=t.h1.left/\t.h1.left<=24)/\(0<=t.h2.left/\t.h2.left<=24):=by
 have no:∀{x:Bool},x≠false->x=true:=fun{x} hx=>by cases x;exact absurd rfl hx;rfl
 have a0:=(jY6 _).1 (no fun hf=>by rw[jB_ (.inr (.inr (.inr (.inr (.inr (.inl hf))))))] at h;cases h);have a1:=(jY6 _).1 (no fun hf=>by rw[jB_ (.inr (.inr (.inr (.inr (.inr (.inr (.inl hf)))))))] at h;cases h);have a2:=(jY6 _).1 (no fun hf=>by rw[jB_ (.inr (.inr (.inr (.inr (.inr (.inr (.inr hf)))))))] at h;cases h);exact⟨⟨a0.1,a0.2.1⟩,⟨a1.1,a1.2.1⟩,a2.1,a2.2.1⟩
theorem kW7{t:Txn}(h:goodT t=true)(h1:t.mt.length<=5864062014805)(h2:t.rev.length<=17592186044160):askedI t=(t.mt.length:Int)+t.rev.length+t.h0.left+t.h1.left+t.h2.left:=by
 obtain⟨⟨a0,a0'⟩,⟨a1,a1'⟩,a2,a2'⟩:=j01 h;unfold askedI;rw[iz (((t.mt.length+t.rev.length:Nat):Int)+t.h0.left) aa,iz (((t.mt.length+t.rev.length:Nat):Int)+t.h0.left+t.h1.left) aa,iz _ aa];omega
theorem jj9{t:Txn}(h:goodT t=true)(h1:t.mt.length<=5864062014805)(h2:t.rev.length<=17592186044160):0<=askedI t/\askedI t<=30000000000000:=by
 obtain⟨⟨a0,a0'⟩,⟨a1,a1'⟩,a2,a2'⟩:=j01 h;rw[kW7 h h1 h2];omega
def mayE(t:Txn)(h b:Int):Int:=if goodT t=false then 2 else if¬(0<=h/\h<=2)\/(j68 t h).on=false\/isBlk b=false then 4 else 0
theorem jm3{t:Txn}{h b:Int}(hg:goodT t=false):mayE t h b=2:=by unfold mayE;rw[ij hg]
theorem j65{t:Txn}{h b:Int}(hg:goodT t=true)(hn:¬(0<=h/\h<=2)\/(j68 t h).on=false\/isBlk b=false):mayE t h b=4:=by unfold mayE;rw[ii c_,ij hn]
theorem jq6{t:Txn}{h b:Int}(hg:goodT t=true)(hh:0<=h/\h<=2)(ho:(j68 t h).on=true)(hb:isBlk b=true):mayE t h b=0:=by
 unfold mayE;rw[ii c_,ii];rintro(h1|h1|h1)
 ·exact h1 hh
 ·rw[ho] at h1;cases h1
 ·rw[hb] at h1;cases h1
theorem ko0{s:ByteArray}(h:((s.size:Int) != 32)=false):s.size=32:=by
 have:(s.size:Int)=32:=by simpa using h
 omega
theorem kx2{s:ByteArray}(h:((s.size:Int) != 32)=true):¬s.size=32:=fun e=>by rw[e] at h;cases h
def jt_(t:Txn)(b:Int):Bool:= !(hasB t.mt b||inI t.rev b)
def jM1(t:Txn)(h b:Int):Int:=if jt_ t b=true/\(j68 t h).left=0 then 7 else 0
def k43(t:Txn)(h b:Int):Txn:=if jt_ t b=true then jk_ t h ⟨(j68 t h).on,(j68 t h).left-1⟩ else t
def chgE(t:Txn)(h b:Int)(s:ByteArray):Int:=if mayE t h b≠0 then mayE t h b else if s.size≠32 then 1 else if hasB t.dt b=true then 8 else jM1 t h b
def jC1(t:Txn)(h b:Int)(s:ByteArray):Txn:=if chgE t h b s=0 then{k43 t h b with mt:=jf4 t.mt b s,rev:=kL7 t.rev b} else t
def filE(t:Txn)(h b:Int)(s:ByteArray):Int:=if mayE t h b≠0 then mayE t h b else if s.size≠32 then 1 else if jt_ t b=false then 8 else 0
def jr7(t:Txn)(h b:Int)(s:ByteArray):Txn:=if filE t h b s=0 then{t with dt:=jf4 t.dt b s} else t
def rvkE(t:Txn)(h b:Int):Int:=if mayE t h b≠0 then mayE t h b else if inI t.rev b=true then 5 else jM1 t h b
def jp6(t:Txn)(h b:Int):Txn:=if rvkE t h b=0 then{k43 t h b with mt:=dropC t.mt b,dt:=dropC t.dt b,rev:=kS7 t.rev b} else t
theorem jZ2(t:Txn)(h:Int)(x:Hnd):(jk_ t h x).seq=t.seq/\(jk_ t h x).mt=t.mt/\(jk_ t h x).dt=t.dt/\(jk_ t h x).rev=t.rev:=by
 unfold jk_;split
 ·exact⟨rfl,rfl,rfl,rfl⟩
 ·split<;>exact⟨rfl,rfl,rfl,rfl⟩
theorem jJ1(t:Txn)(h b:Int):(k43 t h b).seq=t.seq/\(k43 t h b).mt=t.mt/\(k43 t h b).dt=t.dt/\(k43 t h b).rev=t.rev:=by
 unfold k43;split
 ·exact jZ2 _ _ _
 ·exact⟨rfl,rfl,rfl,rfl⟩
def jp1(t:Txn)(h b:Int):Txn:=if jM1 t h b=0 then k43 t h b else t
theorem jJ2{t:Txn}{h b:Int}(e:jM1 t h b=0):jp1 t h b=k43 t h b:=ij e
theorem jf2(t:Txn)(h b:Int):(jp1 t h b).seq=t.seq/\(jp1 t h b).mt=t.mt/\(jp1 t h b).dt=t.dt/\(jp1 t h b).rev=t.rev:=by
 unfold jp1;split
 ·exact jJ1 _ _ _
 ·exact⟨rfl,rfl,rfl,rfl⟩
theorem kV4{t:Txn}{h b:Int}{s:ByteArray}(hm:¬mayE t h b=0):chgE t h b s=mayE t h b/\jC1 t h b s=t:=by
 have e:chgE t h b s=mayE t h b:=by unfold chgE;rw[ij hm]
 exact⟨e,by unfold jC1;rw[e,ii hm]⟩
theorem k6_{t:Txn}{h b:Int}{s:ByteArray}(hm:mayE t h b=0)(hs:¬s.size=32):chgE t h b s=1/\jC1 t h b s=t:=by
 have e:chgE t h b s=1:=by unfold chgE;rw[ii dY,ij hs]
 exact⟨e,by unfold jC1;rw[e,ii ae]⟩
theorem k61{t:Txn}{h b:Int}{s:ByteArray}(hm:mayE t h b=0)(hs:s.size=32)(hd:hasB t.dt b=true):chgE t h b s=8/\jC1 t h b s=t:=by
 have e:chgE t h b s=8:=by unfold chgE;rw[ii dY,ii (by simp[hs]),ij hd]
 exact⟨e,by unfold jC1;rw[e,ii ae]⟩
theorem jb4{t:Txn}{h b:Int}{s:ByteArray}(hm:mayE t h b=0)(hs:s.size=32)(hd:hasB t.dt b=false):chgE t h b s=jM1 t h b:=by
 unfold chgE;rw[ii dY,ii (by simp[hs]),ii (by simp[hd])]
theorem ji0{t:Txn}{h b:Int}{s:ByteArray}(hm:mayE t h b=0)(hs:s.size=32)(hd:hasB t.dt b=false)(hp:¬jM1 t h b=0):chgE t h b s=jM1 t h b/\jC1 t h b s=t:=
 ⟨jb4 hm hs hd,by unfold jC1;rw[jb4 hm hs hd,ii hp]⟩
theorem kC_{t:Txn}{h b:Int}{s:ByteArray}(hm:mayE t h b=0)(hs:s.size=32)(hd:hasB t.dt b=false)(hp:jM1 t h b=0):chgE t h b s=0/\jC1 t h b s={jp1 t h b with mt:=jf4 t.mt b s,rev:=kL7 t.rev b}:=by
 have e:chgE t h b s=0:=by rw[jb4 hm hs hd,hp]
 exact⟨e,by unfold jC1;rw[ij e,jJ2 hp]⟩
theorem kT1{t:Txn}{h b:Int}{s:ByteArray}(hm:¬mayE t h b=0):filE t h b s=mayE t h b/\jr7 t h b s=t:=by
 have e:filE t h b s=mayE t h b:=by unfold filE;rw[ij hm]
 exact⟨e,by unfold jr7;rw[e,ii hm]⟩
theorem jn0{t:Txn}{h b:Int}{s:ByteArray}(hm:mayE t h b=0)(hs:¬s.size=32):filE t h b s=1/\jr7 t h b s=t:=by
 have e:filE t h b s=1:=by unfold filE;rw[ii dY,ij hs]
 exact⟨e,by unfold jr7;rw[e,ii ae]⟩
theorem jC6{t:Txn}{h b:Int}{s:ByteArray}(hm:mayE t h b=0)(hs:s.size=32)(hd:(hasB t.mt b||inI t.rev b)=true):filE t h b s=8/\jr7 t h b s=t:=by
 have e:filE t h b s=8:=by unfold filE jt_;rw[ii dY,ii (by simp[hs]),ij (by rw[hd];rfl)]
 exact⟨e,by unfold jr7;rw[e,ii ae]⟩
theorem kC0{t:Txn}{h b:Int}{s:ByteArray}(hm:mayE t h b=0)(hs:s.size=32)(hd:(hasB t.mt b||inI t.rev b)=false):filE t h b s=0/\jr7 t h b s={t with dt:=jf4 t.dt b s}:=by
 have e:filE t h b s=0:=by unfold filE jt_;rw[ii dY,ii (by simp[hs]),ii (by rw[hd];decide)]
 exact⟨e,by unfold jr7;rw[ij e]⟩
theorem kN5{t:Txn}{h b:Int}(hm:¬mayE t h b=0):rvkE t h b=mayE t h b/\jp6 t h b=t:=by
 have e:rvkE t h b=mayE t h b:=by unfold rvkE;rw[ij hm]
 exact⟨e,by unfold jp6;rw[e,ii hm]⟩
theorem jd2{t:Txn}{h b:Int}(hm:mayE t h b=0)(hr:inI t.rev b=true):rvkE t h b=5/\jp6 t h b=t:=by
 have e:rvkE t h b=5:=by unfold rvkE;rw[ii dY,ij hr]
 exact⟨e,by unfold jp6;rw[e,ii ae]⟩
theorem k80{t:Txn}{h b:Int}(hm:mayE t h b=0)(hr:inI t.rev b=false):rvkE t h b=jM1 t h b:=by
 unfold rvkE;rw[ii dY,ii (by simp[hr])]
theorem jd1{t:Txn}{h b:Int}(hm:mayE t h b=0)(hr:inI t.rev b=false)(hp:¬jM1 t h b=0):rvkE t h b=jM1 t h b/\jp6 t h b=t:=
 ⟨k80 hm hr,by unfold jp6;rw[k80 hm hr,ii hp]⟩
theorem kB6{t:Txn}{h b:Int}(hm:mayE t h b=0)(hr:inI t.rev b=false)(hp:jM1 t h b=0):rvkE t h b=0/\jp6 t h b={jp1 t h b with mt:=dropC t.mt b,dt:=dropC t.dt b,rev:=kS7 t.rev b}:=by
 have e:rvkE t h b=0:=by rw[k80 hm hr,hp]
 exact⟨e,by unfold jp6;rw[ij e,jJ2 hp]⟩
theorem js8(t:Txn):apart t=true↔(∀b,inI t.rev b=true->hasB t.mt b=false/\hasB t.dt b=false)/\(∀b,hasB t.mt b=true->hasB t.dt b=false):=by
 unfold apart;rw[iD,ja,ja];constructor
 ·rintro⟨h1,h2⟩;refine⟨fun b hb=>?_,fun b hb=>?_⟩
  ·have:=h1 b (jS1.1 hb);simpa using this
  ·obtain⟨c,hc,rfl⟩:=jP9.1 hb;have:=h2 c hc;simpa using this
 ·rintro⟨h1,h2⟩;refine⟨fun b hb=>?_,fun c hc=>?_⟩
  ·obtain⟨a1,a2⟩:=h1 b (jS1.2 hb);simp[a1,a2]
  ·simp[h2 c.block (jP9.2 ⟨c,hc,rfl⟩)]
structure GoodT(t:Txn):Prop where
 seq:1<=t.seq/\t.seq<=2147483647
 mt:copiesB t.mt=true
 dt:copiesB t.dt=true
 rev:rise t.rev=true
 ap:(∀b,inI t.rev b=true->hasB t.mt b=false/\hasB t.dt b=false)/\(∀b,hasB t.mt b=true->hasB t.dt b=false)
 h0:hOk t.h0=true
 h1:hOk t.h1=true
 h2:hOk t.h2=true
theorem j92{t:Txn}:goodT t=true↔GoodT t:=by
 rw[j22];constructor
 ·rintro⟨a,b,c,d,e,f,g,h⟩;exact⟨iF a,b,c,d,(js8 t).1 e,f,g,h⟩
 ·rintro⟨a,b,c,d,e,f,g,h⟩;exact⟨iG a,b,c,d,(js8 t).2 e,f,g,h⟩
theorem j33{t:Txn}{h b:Int}(e:mayE t h b=0):goodT t=true/\(0<=h/\h<=2)/\(j68 t h).on=true/\isBlk b=true:=by
 unfold mayE at e
 split at e
 ·cases e
 ·rename_i hg
  split at e
  ·cases e
  ·rename_i hn;refine⟨by simpa using hg,?_,?_,?_⟩
   ·exact jL fun hh=>hn (.inl hh)
   ·cases ho:(j68 t h).on with
    |true=>rfl
    |false=>exact absurd (.inr (.inl ho)) hn
   ·cases hb:isBlk b with
    |true=>rfl
    |false=>exact absurd (.inr (.inr hb)) hn
theorem kz9{t:Txn}(g:GoodT t)(h:Int):hOk (j68 t h)=true:=by
 unfold j68;split
 ·exact g.h0
 ·split
  ·exact g.h1
  ·exact g.h2
theorem jv6{t:Txn}(g:GoodT t)(h:Int){x:Hnd}(hx:hOk x=true):GoodT (jk_ t h x):=by
 obtain⟨e1,e2,e3,e4⟩:=jZ2 t h x;refine⟨by rw[e1];exact g.seq,by rw[e2];exact g.mt,by rw[e3];exact g.dt,by rw[e4];exact g.rev,by rw[e2,e3,e4];exact g.ap,?_,?_,?_⟩
 ·unfold jk_;split
  ·exact hx
  ·split<;>exact g.h0
 ·unfold jk_;split
  ·exact g.h1
  ·split
   ·exact hx
   ·exact g.h1
 ·unfold jk_;split
  ·exact g.h2
  ·split
   ·exact g.h2
   ·exact hx
theorem kP0{t:Txn}{h b:Int}(e:jM1 t h b=0):jt_ t b=true->(j68 t h).left≠0:=fun ho hl=>by
 unfold jM1 at e;rw[ij ⟨ho,hl⟩] at e;cases e
theorem k45{t:Txn}(g:GoodT t){h b:Int}(ho:(j68 t h).on=true)(e:jM1 t h b=0):GoodT (k43 t h b):=by
 unfold k43
 split
 ·rename_i hw;have hl:=kP0 e hw;have hk:=(jY6 _).1 (kz9 g h);refine jv6 g h ((jY6 _).2 ⟨?_,?_,.inl ho⟩)
  ·show 0<=(j68 t h).left-1;omega
  ·show(j68 t h).left-1<=24;omega
 ·exact g
theorem kV3{t:Txn}{h b:Int}{s:ByteArray}(e:chgE t h b s=0):mayE t h b=0/\s.size=32/\hasB t.dt b=false/\jM1 t h b=0:=by
 unfold chgE at e
 split at e
 ·rename_i h1;exact absurd e h1
 ·rename_i h1
  split at e
  ·cases e
  ·rename_i h2
   split at e
   ·cases e
   ·rename_i h3;exact⟨ki.1 h1,ki.1 h2,cg,e⟩
theorem kT0{t:Txn}{h b:Int}{s:ByteArray}(e:filE t h b s=0):mayE t h b=0/\s.size=32/\hasB t.mt b=false/\inI t.rev b=false:=by
 unfold filE at e
 split at e
 ·rename_i h1;exact absurd e h1
 ·rename_i h1
  split at e
  ·cases e
  ·rename_i h2
   split at e
   ·cases e
   ·rename_i h3;have:jt_ t b=true:=cg;unfold jt_ at this;rw[kh,ke] at this;exact⟨ki.1 h1,ki.1 h2,this.1,this.2⟩
theorem kN4{t:Txn}{h b:Int}(e:rvkE t h b=0):mayE t h b=0/\inI t.rev b=false/\jM1 t h b=0:=by
 unfold rvkE at e
 split at e
 ·rename_i h1;exact absurd e h1
 ·rename_i h1
  split at e
  ·cases e
  ·rename_i h3;exact⟨ki.1 h1,cg,e⟩
theorem kJ3{t:Txn}{h b:Int}{s:ByteArray}(hg:goodT t=true):goodT (jC1 t h b s)=true:=by
 unfold jC1
 split
 ·rename_i e;obtain⟨hm,hs,hd,hp⟩:=kV3 e;obtain⟨_,hh,ho,hb⟩:=j33 hm;have g:=j92.1 hg;have gp:=k45 g ho hp;obtain⟨e1,e2,e3,e4⟩:=jJ1 t h b;refine j92.2 ⟨gp.seq,jG0 g.mt hb hs,gp.dt,kG6 b g.rev,?_,gp.h0,gp.h1,gp.h2⟩;dsimp only;rw[e3];refine⟨fun x hx=>?_,fun x hx=>?_⟩
  ·rw[kr3,iD,jY] at hx;rw[jm6 b s g.mt];have:=g.ap.1 x hx.1;simp[this.1,this.2,hx.2]
  ·rw[jm6 b s g.mt,kD,jY] at hx;rcases hx with rfl|hx
   ·exact hd
   ·exact g.ap.2 x hx
 ·exact hg
theorem kI4{t:Txn}{h b:Int}{s:ByteArray}(hg:goodT t=true):goodT (jr7 t h b s)=true:=by
 unfold jr7
 split
 ·rename_i e;obtain⟨hm,hs,hn,hr⟩:=kT0 e;obtain⟨_,hh,ho,hb⟩:=j33 hm;have g:=j92.1 hg;refine j92.2 ⟨g.seq,g.mt,jG0 g.dt hb hs,g.rev,?_,g.h0,g.h1,g.h2⟩;dsimp only;refine⟨fun x hx=>?_,fun x hx=>?_⟩
  ·rw[jm6 b s g.dt];have:=g.ap.1 x hx;have hne:x≠b:=fun hxb=>by rw[hxb,hr] at hx;cases hx
   simp[this.1,this.2,hne]
  ·rw[jm6 b s g.dt];have hne:x≠b:=fun hxb=>by rw[hxb,hn] at hx;cases hx
   simp[g.ap.2 x hx,hne]
 ·exact hg
theorem kE5{t:Txn}{h b:Int}(hg:goodT t=true):goodT (jp6 t h b)=true:=by
 unfold jp6
 split
 ·rename_i e;obtain⟨hm,hr,hp⟩:=kN4 e;obtain⟨_,hh,ho,hb⟩:=j33 hm;have g:=j92.1 hg;have gp:=k45 g ho hp;refine j92.2 ⟨gp.seq,jz_ b g.mt,jz_ b g.dt,kH1 g.rev hb hr,?_,gp.h0,gp.h1,gp.h2⟩;dsimp only;refine⟨fun x hx=>?_,fun x hx=>?_⟩
  ·rw[ks3,kD,jY] at hx;rw[jC3,jC3];rcases hx with rfl|hx
   ·simp
   ·have:=g.ap.1 x hx;simp[this.1,this.2]
  ·rw[jC3,iD] at hx;rw[jC3];simp[g.ap.2 x hx.1]
 ·exact hg
theorem kK9{t:Txn}{h n free:Int}(hg:goodT t=true):goodT (begT t h n free)=true:=by
 unfold begT
 split
 ·rename_i e;unfold begE at e;have g:=j92.1 hg
  have hn:0<=n/\n<=12:=by
   repeat(first| (split at e<;>first| (cases e;done)|skip)|omega)
  exact j92.2 (jv6 g h ((jY6 _).2 ⟨hn.1,by show n<=24;omega,.inl rfl⟩))
 ·exact hg
theorem kM0{t:Txn}{h:Int}(hg:goodT t=true):goodT (stopT t h)=true:=by
 unfold stopT
 split
 ·exact j92.2 (jv6 (j92.1 hg) h ae)
 ·exact hg
def kn6(t:Txn):Int:=(t.mt.length:Int)+t.rev.length+t.h0.left+t.h1.left+t.h2.left
theorem jg5{t:Txn}(g:GoodT t):t.mt.length<=12/\t.dt.length<=12/\t.rev.length<=12:=⟨j59 g.mt,j59 g.dt,k2_ g.rev⟩
theorem kS1{t:Txn}(g:GoodT t):(0<=t.h0.left/\t.h0.left<=24)/\(0<=t.h1.left/\t.h1.left<=24)/\(0<=t.h2.left/\t.h2.left<=24):=j01 (j92.2 g)
theorem jx_{t:Txn}(g:GoodT t):jy9 t.mt.length t.rev.length<=jy8 (kn6 t)/\jD1 t.mt.length t.rev.length=0:=by
 obtain⟨a,_,b⟩:=jg5 g;obtain⟨h0,h1,h2⟩:=kS1 g;have e:jD1 t.mt.length t.rev.length=0:=by unfold jD1;rw[ii aa]
 refine⟨?_,e⟩;unfold jy9;rw[ij e];unfold jy8 clamp24 j75 kn6;omega
def rho(l:List Txn):Nat->Int->Nat
 |0,_=>0
 |k+1,b=>match l[k]? with
  |some t=>if inI t.rev b then k+1 else rho l k b
  |none=>rho l k b
theorem k39{l:List Txn}{k:Nat}(hk:k<l.length)(b:Int):rho l (k+1) b=if inI l[k].rev b then k+1 else rho l k b:=by
 simp only[rho,ix hk]
theorem kB4(l:List Txn)(k:Nat)(b:Int):rho l k b<=k:=by
 induction k with
 |zero=>exact iy _
 |succ k ih=>
  unfold rho
  split
  ·split
   ·exact iy _
   ·omega
  ·omega
theorem kE_(l:List Txn)(k:Nat)(hk:k<=l.length)(b:Int):(∀i (hi:i<k),rho l k b<=i->inI (l[i]'(aa)).rev b=false)/\(∀m,rho l k b=m+1->∃hm:m<l.length,inI l[m].rev b=true):=by
 induction k with
 |zero=>exact⟨fun i hi=>aa,fun m hm=>by simp[rho] at hm⟩
 |succ k ih=>
  obtain⟨h1,h2⟩:=ih aa
  rw[k39 aa]
  by_cases hc:inI (l[k]'(aa)).rev b=true
  ·rw[ij hc]
   exact ⟨fun i hi hh => by omega, fun m hm => ⟨by omega, by obtain rfl : k = m := by omega
                                                             exact hc⟩⟩
  ·rw[ii hc];refine⟨fun i hi hh=>?_,h2⟩;by_cases hik:i=k
   ·subst hik;simpa using hc
   ·exact h1 i aa hh
def txF(l:List Txn)(r:Int->Nat):Nat->Int->Option ByteArray
 |0,_=>none
 |k+1,b=>match l[k]? with
  |some t=>match getC t.mt b with
   |some s=>if r b<=k then some s else txF l r k b
   |none=>txF l r k b
  |none=>txF l r k b
theorem jk5{l:List Txn}{k:Nat}(hk:k<l.length)(r:Int->Nat)(b:Int):txF l r (k+1) b=match getC l[k].mt b with|some s=>if r b<=k then some s else txF l r k b|none=>txF l r k b:=by
 simp only[txF,ix hk]
def jy7(g:Int->Option ByteArray)(r:Int->Nat)(i:Nat)(m:List Cpy):Int->Option ByteArray:=m.foldl (fun f c x=>if x=c.block/\r x<=i then some c.text else f x) g
theorem jq8(g:Int->Option ByteArray)(r:Int->Nat)(i:Nat){m:List Cpy}{k:Nat}(hk:k<m.length)(x:Int):jy7 g r i (m.take (k+1)) x=if x=m[k].block/\r x<=i then some m[k].text else jy7 g r i (m.take k) x:=by
 unfold jy7;rw[it hk,kj];rfl
theorem k07{m:List Cpy}(h:copiesB m=true)(g:Int->Option ByteArray)(r:Int->Nat)(i:Nat)(x:Int):jy7 g r i m x=match getC m x with|some s=>if r x<=i then some s else g x|none=>g x:=by
 have hm:=jq7 h g x
 have key:∀k,k<=m.length->jy7 g r i (m.take k) x=if r x<=i then metaF g (m.take k) x else g x:=by
  intro k
  induction k with
  |zero=>intro _;simp[jy7,metaF]
  |succ k ih=>
   intro hk
   rw[jq8 g r i (show k<m.length from aa),ih aa,<-jH7 g (show k<m.length from aa)]
   show _=if r x<=i then(if x=m[k].block then some m[k].text else metaF g (m.take k) x) else g x
   by_cases h1:r x<=i
   ·by_cases h2:x=m[k].block
    ·rw[ij ⟨h2,h1⟩,ij h1,ij h2]
    ·rw[ii (fun hh=>h2 hh.1),ij h1,ij h1,ii h2]
   ·rw[ii (fun hh=>h1 hh.2),ii h1,ii h1]
 have:=key m.length (iy _);rw[iY,hm] at this;rw[this];by_cases h1:r x<=i
 ·rw[ij h1]
  cases getC m x with
  |some s=>dsimp only;rw[ij h1]
  |none=>rfl
 ·rw[ii h1]
  cases getC m x with
  |some s=>dsimp only;rw[ii h1]
  |none=>rfl
theorem kY9{l:List Txn}(hg:∀t∈l,goodT t=true)(b:Int):txF l (rho l l.length) l.length b=newestB l b:=by
 have hgk:∀k (hk:k<l.length),goodT l[k]=true:=fun k hk=>hg _ (iM hk);obtain⟨h1,h2⟩:=kE_ l l.length (iy _) b;have hle:=kB4 l l.length b;generalize hm:rho l l.length=r at*
 have hlow:∀k,k<=r b->txF l r k b=none:=by
  intro k
  induction k with
  |zero=>intro _;rfl
  |succ k ih=>
   intro hk
   rw[jk5 aa,ih aa]
   cases getC (l[k]'(aa)).mt b with
   |none=>rfl
   |some s=>dsimp only;rw[ii aa]
 have hnb:newestB (l.take (r b)) b=none:=by
  cases hr:r b with
  |zero=>rfl
  |succ m=>
   obtain⟨hml,hin⟩:=h2 m hr
   rw[jQ2 hml]
   unfold jc0
   cases hc:getC l[m].mt b with
   |none=>dsimp only;rw[hin];rfl
   |some s=>
    exfalso
    have hb:hasB l[m].mt b=true:=by rw[jK5,hc];rfl
    have ha:=((j22 l[m]).1 (hgk m hml)).2.2.2.2.1
    unfold apart at ha
    rw[iD,ja] at ha
    have hbm:b∈l[m].rev:=by
     unfold inI at hin;obtain⟨x,hx,hxb⟩:=kG.1 hin;rw[iT] at hxb;exact hxb▸hx
    have:=ha.1 b hbm
    rw[hb] at this
    cases this
 have hup:∀d,r b+d<=l.length->txF l r (r b+d) b=newestB (l.take (r b+d)) b:=by
  intro d
  induction d with
  |zero=>intro _;rw[Nat.add_zero,hlow _ (iy _),hnb]
  |succ d ih=>
   intro hd
   have hlt:r b+d<l.length:=aa
   rw[show r b+(d+1)=r b+d+1 from rfl,jk5 hlt,jQ2 hlt,ih aa]
   unfold jc0
   rw[h1 (r b+d) hlt aa]
   cases getC l[r b+d].mt b with
   |none=>rfl
   |some s=>dsimp only;rw[ij aa]
 have:=hup (l.length-r b) aa;rw[show r b+(l.length-r b)=l.length from aa,iY] at this;exact this
def k38(r:Int->Nat)(b:Int):Option Value:=if r b=0 then none else some (.int .i64 (r b:Int))
def jj4(f:Int->Option ByteArray)(b:Int):Option Value:=(f b).map Value.string
theorem kF9(r:Int->Nat)(b:Int):(k38 r b).getD (.int .i64 0)=.int .i64 (r b:Int):=by
 unfold k38
 split
 ·rename_i h;rw[h];rfl
 ·rfl
theorem kD3(f:Int->Option ByteArray)(b:Int):(jj4 f b).getD (.string ⟨#[]⟩)=.string ((f b).getD ⟨#[]⟩):=by
 unfold jj4
 cases f b<;>rfl
theorem kL0(f:Int->Option ByteArray)(b:Int):(jj4 f b).isSome=(f b).isSome:=by unfold jj4;cases f b<;>rfl
def k64(s:List UInt8):List UInt8:=s.take 32++List.replicate (32-s.length) 0
theorem k65(s:List UInt8):(k64 s).length=32:=by rw[k64,il,iA,kB];omega
def fit(s:ByteArray):ByteArray:=str (k64 s.data.toList)
theorem jn1(s:ByteArray):(fit s).size=32:=by rw[fit,jV6,k65]
def j38(s:List UInt8)(k:Nat):List UInt8:=s.take k++List.replicate (32-k) 0
theorem jS_{s:List UInt8}{k:Nat}(h:k<=s.length)(h2:k<=32):(j38 s k).length=32:=by simp[j38];omega
theorem jh1(s:List UInt8):j38 s 0=List.replicate 32 0:=by simp[j38]
theorem ja5{s:List UInt8}{k:Nat}(h:k<s.length)(h2:k<32):(j38 s k).set k s[k]=j38 s (k+1):=by
 apply mf;intro i;unfold j38;have hl:(s.take k).length=k:=ah;have hl1:(s.take (k+1)).length=k+1:=ah;rw[List.getElem?_set];by_cases e:k=i
 ·subst e;rw[ij rfl,ij ah,i8 aa,lV aa];simp[h]
 ·rw[ii e];by_cases e2:i<k
  ·rw[i8 aa,i8 aa,lV e2,lV aa]
  ·rw[jb aa,jb aa,hl,hl1,kY,kY];by_cases e3:i<32
   ·rw[ij aa,ij aa]
   ·rw[ii aa,ii aa]
theorem jh0{s:List UInt8}{k:Nat}(h:k<=s.length)(h2:k<=32)(h3:¬(k<s.length/\k<32)):j38 s k=k64 s:=by
 unfold j38 k64;by_cases e:s.length<=32
 ·obtain rfl:k=s.length:=by omega
  rw[iV (iy _),iV e]
 ·obtain rfl:k=32:=by omega
  simp;omega
def magic:List UInt8:=[87,66,75,49]
def headL(m:Mrk):List UInt8:=magic++ [j67 m.kind,j67 (m.seq/16777216),j67 (m.seq/65536),j67 (m.seq/256),j67 m.seq]
def jD8(t:Tag):List UInt8:=[j67 t.block,if t.esc then 1 else 0]
theorem jI1(l:List Tag):(l.flatMap jD8).length=l.length*2:=by
 induction l with
 |nil=>rfl
 |cons x l ih=>rw[jj,il,ih,iB];show 2+_=_;omega
def jV0(m:Mrk):List UInt8:=
 if m.kind=1 then [j67 m.at_] else if m.kind=2 then [j67 m.tags.length]++m.tags.flatMap jD8 else if m.kind=3 then [j67 m.blocks.length]++m.blocks.map j67 else []
theorem kV0(m:Mrk)(h1:m.tags.length<=10)(h2:m.blocks.length<=20):(jV0 m).length<=21:=by
 unfold jV0
 split
 ·simp
 ·split
  ·rw[il,jI1];simp only[iB,iC];omega
  ·split
   ·rw[il,iZ];simp only[iB,iC];omega
   ·simp
def jS2(m:Mrk):List UInt8:=k64 (headL m++jV0 m)
def markS(m:Mrk):ByteArray:=if markE m=0 then str (jS2 m) else str []
theorem jU6{m:Mrk}(hE:markE m=0):¬j97 m/\ ¬j78 m/\ ¬j88 m/\ ¬j44 m:=by
 refine⟨fun h=>?_,fun h=>?_,fun h=>?_,fun h=>?_⟩
 ·rw[j28 h] at hE;exact absurd hE ae
 ·by_cases h1:j97 m
  ·rw[j28 h1] at hE;exact absurd hE ae
  ·rw[jW2 h1 h] at hE;exact absurd hE ae
 ·by_cases h1:j97 m
  ·rw[j28 h1] at hE;exact absurd hE ae
  ·by_cases h2:j78 m
   ·rw[jW2 h1 h2] at hE;exact absurd hE ae
   ·rw[jX3 h1 h2 h] at hE;exact absurd hE ae
 ·by_cases h1:j97 m
  ·rw[j28 h1] at hE;exact absurd hE ae
  ·by_cases h2:j78 m
   ·rw[jW2 h1 h2] at hE;exact absurd hE ae
   ·by_cases h3:j88 m
    ·rw[jX3 h1 h2 h3] at hE;exact absurd hE ae
    ·rw[jK9 h1 h2 h3 h] at hE;exact absurd hE ae
theorem jy6(m:Mrk):(jS2 m).length=32:=k65 _
theorem kT5(l:List UInt8):fit (str l)=str (k64 l):=by simp[fit,str]
end Wb