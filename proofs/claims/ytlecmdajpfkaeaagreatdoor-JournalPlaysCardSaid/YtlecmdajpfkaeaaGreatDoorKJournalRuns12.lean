/- Parts of the proof. -/
import Derived.Test.YtlecmdajpfkaeaaGreatDoorKJournalRuns11
set_option linter.unusedVariables false
set_option linter.unusedSimpArgs false
set_option maxRecDepth 100000
set_option maxHeartbeats 40000000
namespace Wb
open Go Go.RowKit
def cntI(bs:List Int)(x:Int):Int:=(bs.countP (fun b=>b==x):Nat)
def ji1(bs:List Int):List Int:=(List.range 12).map fun(k:Nat)=>cntI bs k
theorem jP6(l1 l2:List Int)(x:Int):cntI (l1++l2) x=cntI l1 x+cntI l2 x:=by simp[cntI]
theorem kV9(b x:Int):cntI [b] x=if b=x then 1 else 0:=by
 by_cases h:b=x<;>simp[cntI,h]
theorem j06(bs:List Int):(ji1 bs).length=12:=by simp[ji1]
theorem jP5(bs:List Int){k:Nat}(hk:k<12):(ji1 bs)[k]'(by rw[j06];exact hk)=cntI bs k:=by simp[ji1]
theorem jH1(bs:List Int)(x:Int):0<=cntI bs x:=by unfold cntI;omega
theorem kV8(bs:List Int)(x:Int):cntI bs x<=bs.length:=by
 unfold cntI;have:=List.countP_le_length (p:=fun b=>b==x) (l:=bs);omega
theorem jB9(bs:List Int){b:Nat}(_hb:b<12):ji1 (bs++ [(b:Int)])=(ji1 bs).set b (cntI bs b+1):=by
 refine ku (by simp[ji1]) fun n h1 h2=>?_;rw[j06] at h1;rw[jP5 _ h1,lD,jP6,kV9];by_cases h:b=n
 ·subst h;rw[ij rfl,ij rfl]
 ·rw[ii aa,ii h,jP5 _ h1];omega
theorem kS2{l:List Int}{x:Int}(h:∀b∈l,b≠x):inI l x=false:=by
 unfold inI;rw[mb];intro b hb hh;exact h b hb (iT.1 hh)
theorem k62{r:List Int}(h:∀k (hk:k<r.length),∀i (hi:i<k),r[i]<r[k])(x:Int):cntI r x=if inI r x then 1 else 0:=by
 have key:∀k,k<=r.length->cntI (r.take k) x=if inI (r.take k) x then 1 else 0:=by
  intro k
  induction k with
  |zero=>intro _;rfl
  |succ k ih=>
   intro hk
   have hk':k<r.length:=aa
   rw[jK6 hk',it hk',jP6,kV9,ih aa]
   by_cases hx:r[k]=x
   ·have hn : inI (r.take k) x = false := kS2 fun b hb => by
      obtain⟨i,hi,rfl⟩:=i_.1 hb;rw[iA] at hi;rw[kR];have:=h k hk' i aa;omega
    rw[hn,ij hx,iT.2 hx];simp
   ·have hb:(r[k]==x)=false:=ik.2 hx;rw[ii hx,hb,Bool.or_false];omega
 have:=key r.length (iy _);rwa [iY] at this
theorem kI9(l:List Cpy)(x:Int):inI (blks l) x=hasB l x:=by simp[inI,blks,hasB,List.any_map,Function.comp_def]
theorem jr3{l:List Cpy}(h:copiesB l=true)(x:Int):cntI (blks l) x=if hasB l x then 1 else 0:=by
 rw[<-kI9];refine k62 (fun k hk i hi=>?_) x;have hk':k<l.length:=by simpa [blks] using hk
 have:=(j58 h hk').2.2.1 i hi;simpa [blks] using this
theorem kz_{r:List Int}(h:rise r=true)(x:Int):cntI r x=if inI r x then 1 else 0:=k62 (fun _ hk i hi=>(j08 h hk).2.2 i hi) x
theorem jC8{l:List Cpy}{b:Int}:hasB l b=true↔ ∃c∈l,c.block=b:=by simp[hasB]
theorem ja9{l:List Int}{b:Int}:inI l b=true↔b∈l:=by simp[inI]
theorem jj8(t:Txn):apart t=true↔(∀x,¬(inI t.rev x=true/\hasB t.mt x=true))/\(∀x,¬(inI t.rev x=true/\hasB t.dt x=true))/\(∀x,¬(hasB t.mt x=true/\hasB t.dt x=true)):=by
 unfold apart;rw[iD,ja,ja];constructor
 ·rintro⟨h1,h2⟩;refine⟨fun x ⟨hx,hy⟩=>?_,fun x ⟨hx,hy⟩=>?_,fun x ⟨hx,hy⟩=>?_⟩
  ·have:=h1 x (ja9.1 hx);rw[hy] at this;cases this
  ·have:=h1 x (ja9.1 hx);rw[hy] at this;simp at this
  ·obtain⟨c,hc,rfl⟩:=jC8.1 hx;have:=h2 c hc;rw[hy] at this;cases this
 ·rintro⟨h1,h2,h3⟩;refine⟨fun b hb=>?_,fun c hc=>?_⟩
  ·have hx:=ja9.2 hb
   cases hm:hasB t.mt b
   ·cases hd:hasB t.dt b
    ·rfl
    ·exact absurd ⟨hx,hd⟩ (h2 b)
   ·exact absurd ⟨hx,hm⟩ (h1 b)
  ·cases hd:hasB t.dt c.block
   ·rfl
   ·exact absurd ⟨jC8.2 ⟨c,hc,rfl⟩,hd⟩ (h3 c.block)
def jD_(t:Txn):List Int:=(blks t.mt++blks t.dt)++t.rev
theorem jb9{t : Txn}(h1 : copiesB t.mt = true)(h2 : copiesB t.dt = true)(h3 : rise t.rev = true)(x : Int) :cntI (jD_ t) x=(if hasB t.mt x then 1 else 0)+(if hasB t.dt x then 1 else 0)+(if inI t.rev x then 1 else 0):=by
 unfold jD_;rw[jP6,jP6,jr3 h1,jr3 h2,kz_ h3]
theorem kW4{t:Txn}(h1:copiesB t.mt=true)(h2:copiesB t.dt=true)(h3:rise t.rev=true)(h:apart t=true)(x:Int):cntI (jD_ t) x<=1:=by
 rw[jb9 h1 h2 h3];obtain⟨g1,g2,g3⟩:=(jj8 t).1 h;have g1:=g1 x;have g2:=g2 x;have g3:=g3 x
 cases hm:hasB t.mt x<;>cases hd:hasB t.dt x<;>cases hr:inI t.rev x<;>simp_all
theorem kV7{t:Txn}(h1:copiesB t.mt=true)(h2:copiesB t.dt=true)(h3:rise t.rev=true)(h:∀k:Nat,k<12->cntI (jD_ t) k<=1):apart t=true:=by
 have hall:∀x,cntI (jD_ t) x<=1:=by
  intro x;by_cases hx:0<=x/\x<12
  ·have:=h x.toNat aa;rwa [lK hx.1] at this
  ·rw[jb9 h1 h2 h3]
   have hm:hasB t.mt x=false:=by
    cases hh:hasB t.mt x
    ·rfl
    ·obtain⟨c,hc,rfl⟩:=jC8.1 hh;obtain⟨k,hk,rfl⟩:=i_.1 hc;exact absurd (iF (j58 h1 hk).1) hx
   have hd:hasB t.dt x=false:=by
    cases hh:hasB t.dt x
    ·rfl
    ·obtain⟨c,hc,rfl⟩:=jC8.1 hh;obtain⟨k,hk,rfl⟩:=i_.1 hc;exact absurd (iF (j58 h2 hk).1) hx
   rw[hm,hd]
   cases inI t.rev x<;>decide
 rw[jj8];refine⟨fun x ⟨a,b⟩=>?_,fun x ⟨a,b⟩=>?_,fun x ⟨a,b⟩=>?_⟩
 all_goals
  have:=hall x
  rw[jb9 h1 h2 h3,a,b] at this
 ·cases hd:hasB t.dt x<;>simp[hd] at this
 ·cases hd:hasB t.mt x<;>simp[hd] at this
 ·cases hd:inI t.rev x<;>simp[hd] at this
def okC(l:List Cpy)(k:Nat):Prop:=j61 (blks l) k/\(l.getD k ⟨0,⟨#[]⟩⟩).text.size=32
def ku8(l:List Cpy)(n:Nat):Prop:=∀k,k<n->okC l k
theorem jM7(l:List Cpy):copiesB l=true↔ku8 l l.length:=by
 unfold copiesB;rw[iD,jY9];have hl:(blks l).length=l.length:=by simp[blks]
 rw[hl];constructor
 ·rintro⟨h1,h2⟩ k hk;refine⟨h1 k hk,?_⟩;rw[iR,ix hk];exact iF (ja.1 h2 _ (iM hk))
 ·intro h;refine⟨fun k hk=>(h k hk).1,?_⟩;rw[ja];intro c hc;obtain⟨k,hk,rfl⟩:=i_.1 hc;have:=(h k hk).2;rw[iR,ix hk] at this;exact iG this
theorem ji3{l:List Cpy}{k:Nat}(hk:k<l.length)(h:¬okC l k):copiesB l=false:=by
 cases hc:copiesB l
 ·rfl
 ·exact absurd ((jM7 l).1 hc k hk) h
def lastB(l:List Int)(k:Nat):Int:=if k=0 then-1 else l.getD (k-1) 0
theorem jq3{l:List Int}{k:Nat}(hk:k<l.length):lastB l (k+1)=l[k]:=by
 unfold lastB;rw[ii aa,lq];simp[hk]
theorem kQ0{l:List Cpy}{k:Nat}(hk:k<l.length)(hto:ku8 l k):okC l k↔lastB (blks l) k<l[k].block/\l[k].block<12/\l[k].text.size=32:=by
 have e:(blks l).getD k 0=l[k].block:=by simp[blks,hk]
 have e2:l.getD k ⟨0,⟨#[]⟩⟩=l[k]:=by simp[hk]
 unfold okC j61 lastB;rw[e,e2];by_cases h0:k=0
 ·subst h0;simp only[lI,false_implies,jy,if_true];omega
 ·rw[ii h0];have hp:0<=(blks l).getD (k-1) 0:=(hto (k-1) aa).1.1;constructor
  ·rintro⟨⟨a,b,c⟩,d⟩;exact⟨c aa,b,d⟩
  ·rintro⟨a,b,c⟩;exact⟨⟨aa,b,fun _=>a⟩,c⟩
theorem jt5{P : Program}{t e : TypeId}{n : Nat}{i : TypeInfo}(w : World)(ht : P.underlying t = some (.array n e))(hi : P.info? e = some i)(hs : i.size = 1)(hz : (isAgg e).run P w = .ok false w)(l : List Int)(hl : l.length = n){k : Nat}(hk : k < l.length) :(Instr.index t (.agg (l.map (Value.int .i64)).toArray) (.int .i64 (k:Int))).run P w=.ok (.int .i64 l[k]) w:=by
 have h0:(0:Int)<=(k:Int)/\(k:Int)<(n:Int):=aa;simp[Instr.index,asIntOf,jR ht,h0,Go.sizeOf,typeInfo,hi,hs,part,hz,Result.andThen,hk];omega
theorem map_set(l:List Int)(n:Nat)(y:Int):((l.map (Value.int .i64)).toArray).setIfInBounds n (.int .i64 y)=((l.set n y).map (Value.int .i64)).toArray:=by
 simp[List.map_set]
theorem kx4{t:Txn}(h:k87 t.seq=false\/copiesB t.mt=false\/copiesB t.dt=false\/rise t.rev=false\/apart t=false\/hOk t.h0=false\/hOk t.h1=false\/hOk t.h2=false):goodT t=false:=by
 exact gD
theorem ja8(h:Hnd):hOk h=true↔0<=h.left/\h.left<=24/\(h.on=true\/h.left=0):=by
 unfold hOk;simp[and_assoc]
end Wb
namespace Go.Proofs.YtlecmdajpfkaeaaGreatDoor
open Go.RowKit Wb
theorem ky0(w : World)(l : List Int)(hl : l.length = 12){k : Nat}(hk : k < l.length) :(Instr.index 53 (.agg (l.map (Value.int .i64)).toArray) (.int .i64 (k:Int))).run Tryz.prog w=.ok (.int .i64 l[k]) w:=by
 obtain⟨i,hi,_,hs,_⟩:=info_parts (show(Tryz.prog.info? 3).map (fun i=>(i.zero,i.size,i.bytes))=some (some (.int .i64 0),1,8) from af);exact jt5 w Tryz.underlying53 hi hs af l hl hk
theorem ks2(w : World)(o0 o1 o2 : Bool)(l0 l1 l2 : Int) :(Instr.index 49 (.agg #[.bool o0,.int .i64 l0,.bool o1,.int .i64 l1,.bool o2,.int .i64 l2]) (.int .i64 0)).run Tryz.prog w=.ok (.agg #[.bool o0,.int .i64 l0]) w/\(Instr.index 49 (.agg #[.bool o0,.int .i64 l0,.bool o1,.int .i64 l1,.bool o2,.int .i64 l2]) (.int .i64 1)).run Tryz.prog w=.ok (.agg #[.bool o1,.int .i64 l1]) w/\(Instr.index 49 (.agg #[.bool o0,.int .i64 l0,.bool o1,.int .i64 l1,.bool o2,.int .i64 l2]) (.int .i64 2)).run Tryz.prog w=.ok (.agg #[.bool o2,.int .i64 l2]) w:=
 ⟨af,af,af⟩
theorem ex{A:Prop}(h:A:=by
 have hgf:=hid (hnh.out hoo);have hof2:¬(0<=lf/\lf<=24/\(o=true\/lf=0)):=fun h=>bJ;clear hof hoo;by_cases q1:lf<0
 ·clear hof2;go_wp2;go_ret;exact⟨j6_ hgf.out.symm,bal nx _⟩
 ·by_cases q2:24<lf
  ·clear hof2;go_wp2;go_ret;exact⟨j6_ hgf.out.symm,bal nx _⟩
  ·have q3 : 0 < lf := by
     by_cases hz:lf=0
     · exact absurd ⟨aa,aa,.inr hz⟩ hof2
     · omega
   have q4:o=false:=by
    cases o
    ·rfl
    ·exact absurd ⟨aa,aa,.inl rfl⟩ hof2
   have q5:0<=lf:=aa;have q6:lf<=24:=aa;subst q4;clear hof2 q1 q2;go_wp2;go_ret;exact⟨j6_ hgf.out.symm,bal nx _⟩):A:=h
theorem eL{A:Prop}(h:A:=by
 go_roundw
 case rel=>first|exact⟨0+1,ae,rfl,hall2,k0.alloc _,bal nx _⟩| ((repeat apply Exists.intro);exact⟨⟨0+1,ae,rfl,hall2,k0.alloc _,bal nx _⟩,rfl⟩)
 case measure=>simp[intOf]):A:=h
theorem eM{A:Prop}(h:A:=by
 go_roundw
 case rel=>first|exact⟨1+1,ae,rfl,hall2,k0.alloc _,bal nx _⟩| ((repeat apply Exists.intro);exact⟨⟨1+1,ae,rfl,hall2,k0.alloc _,bal nx _⟩,rfl⟩)
 case measure=>simp[intOf]):A:=h
theorem eN{A:Prop}(h:A:=by
 go_roundw
 case rel=>first|exact⟨2+1,ae,rfl,hall2,k0.alloc _,bal nx _⟩| ((repeat apply Exists.intro);exact⟨⟨2+1,ae,rfl,hall2,k0.alloc _,bal nx _⟩,rfl⟩)
 case measure=>simp[intOf]):A:=h
theorem fe{A:Prop}(h:A:=by
 have hsz:=nx.size;have hn12':(n:Int)<12:=aa;clear hoi hC hcn hB hlast;replace hst:=hid hst;go_wp2;go_roundw
 case rel=>
  refine⟨k+1,aa,an,by rw[hls.out],ho,(k0.set_other _ _ ag).alloc _,?_,bal (nx.setCell ag _) _⟩;rw[hbl.out];have hk2:=(kw.set n (.int .i64 (cn+1))).alloc (.cells #[.int .i64 (n:Int),.string xt] 93);rw[map_set] at hk2;rw[<-hst.out] at hk2;exact hk2
 case measure=>simp[intOf];omega):A:=h
theorem gF{A:Prop}(h:A:=by
 have eC:((x.text.size:Int) != 32)=true:=jd.2 aa;clear hoi hC;go_wp2;go_ret;exact⟨j6_ hgf.out.symm,bal nx _⟩):A:=h
theorem gU{A:Prop}(h:A:=by
 by_cases hk0:k=0
 ·left;subst hk0;rfl
 ·right;unfold lastB;rw[ii hk0];exact(hto.out (k-1) aa).1.1):A:=h
theorem h_{A:Prop}(h:A:=by
 have hA2:x.block<=la:=aa;clear hoi hA;go_wp2;go_ret;exact⟨j6_ hgf.out.symm,bal nx _⟩):A:=h
theorem ib{A:Prop}(h:A:=by
 have hB2:11<x.block:=aa;clear hoi hB;go_wp2;go_ret;exact⟨j6_ hgf.out.symm,bal nx _⟩):A:=h
theorem j3_(t : Txn)(v : Value)(w : World)(h : j17 w v t) :Calls Tryz.prog 93 #[v] w fun e w'=>e=.returned (.bool (goodT t))/\Below w.heap.size w w':=by
 obtain⟨vm,vd,vr,rfl,hm,hd,hr,n1,n2,n3⟩:=h;obtain⟨am,cm,rfl,_⟩:=hm.form;obtain⟨ad,cd,rfl,_⟩:=hd.form;obtain⟨ar,cr,rfl,_⟩:=hr.form;have hRi:=fun v w (hh:RL j_9 w v t.rev)=>jG4 v t.rev w hh;have hng:=fun hh=>kx4 (t:=t) hh;have hix:=fun w (l:List Int) (hl:l.length=12) k (hk:k<l.length)=>ky0 w l hl hk;have hi3:=fun w=>ks2 w t.h0.on t.h1.on t.h2.on t.h0.left t.h1.left t.h2.left;unfold j84;replace hm:=hid hm;replace hd:=hid hd;replace hr:=hid hr;replace hRi:=hid hRi;replace hng:=hid hng;replace hix:=hid hix;replace hi3:=hid hi3;have k00:Blk ((w.alloc (.cells #[.int .i64 t.seq,.slice am t.mt.length cm,.slice ad t.dt.length cd,.slice ar t.rev.length cr,.bool t.h0.on,.int .i64 t.h0.left,.bool t.h1.on,.int .i64 t.h1.left,.bool t.h2.on,.int .i64 t.h2.left] 51)).alloc (.cells #[.int .i64 0,.int .i64 0,.int .i64 0,.int .i64 0,.int .i64 0,.int .i64 0,.int .i64 0,.int .i64 0,.int .i64 0,.int .i64 0,.int .i64 0,.int .i64 0] 53)) w.heap.size #[.int .i64 t.seq,.slice am t.mt.length cm,.slice ad t.dt.length cd,.slice ar t.rev.length cr,.bool t.h0.on,.int .i64 t.h0.left,.bool t.h1.on,.int .i64 t.h1.left,.bool t.h2.on,.int .i64 t.h2.left] 51:=(kk3 w _ _).alloc _
 have kw0:Blk ((w.alloc (.cells #[.int .i64 t.seq,.slice am t.mt.length cm,.slice ad t.dt.length cd,.slice ar t.rev.length cr,.bool t.h0.on,.int .i64 t.h0.left,.bool t.h1.on,.int .i64 t.h1.left,.bool t.h2.on,.int .i64 t.h2.left] 51)).alloc (.cells #[.int .i64 0,.int .i64 0,.int .i64 0,.int .i64 0,.int .i64 0,.int .i64 0,.int .i64 0,.int .i64 0,.int .i64 0,.int .i64 0,.int .i64 0,.int .i64 0] 53)) (w.heap.size+1) ((ji1 []).map (Value.int .i64)).toArray 53:=kl8 ag;have nx0:Below w.heap.size w ((w.alloc (.cells #[.int .i64 t.seq,.slice am t.mt.length cm,.slice ad t.dt.length cd,.slice ar t.rev.length cr,.bool t.h0.on,.int .i64 t.h0.left,.bool t.h1.on,.int .i64 t.h1.left,.bool t.h2.on,.int .i64 t.h2.left] 51)).alloc (.cells #[.int .i64 0,.int .i64 0,.int .i64 0,.int .i64 0,.int .i64 0,.int .i64 0,.int .i64 0,.int .i64 0,.int .i64 0,.int .i64 0,.int .i64 0,.int .i64 0] 53)):=bal (bal (b0 w) _) _;go_enter Tryz.func93,Tryz.ntmps93;go_wp2
 go_loopw [4,6,19] (fun la _ i wr=>∃k:Nat,k<=t.mt.length/\i=.int .i64 k/\la=.int .i64 (lastB (blks t.mt) k)/\Hid (ku8 t.mt k)/\Blk wr w.heap.size #[.int .i64 t.seq,.slice am t.mt.length cm,.slice ad t.dt.length cd,.slice ar t.rev.length cr,.bool t.h0.on,.int .i64 t.h0.left,.bool t.h1.on,.int .i64 t.h1.left,.bool t.h2.on,.int .i64 t.h2.left] 51/\Blk wr (w.heap.size+1) ((ji1 (blks (t.mt.take k))).map (Value.int .i64)).toArray 53/\Below w.heap.size w wr) (fun _ _ i _=>t.mt.length-(intOf i).toNat)
 case atStart=>exact⟨0,iq _,rfl,rfl,hid (fun k hk=>absurd hk (jl k)),k00,kw0,nx0⟩
 case round=>
  clear k00 kw0 nx0;obtain⟨k,hk,rfl,rfl,hto,k0,kw,nx⟩:=hrel;have l0:=k0.lt;have lw:=kw.lt;by_cases hlt:k<t.mt.length
  ·obtain⟨b1,o1,rfl,c0,c1⟩:=kj3 (fun x=>.int .i64 x.block) (fun x=>.string x.text) (fun _=>rfl) (hm.out.below nx) hlt;have hoi:=kQ0 hlt hto.out;have hno:=fun hn=>hng.out (.inr (.inl (ji3 hlt hn)));have hsc:=fun ho=>(show ku8 t.mt (k+1) from fun j hj=>if e:j=k then e▸ho else hto.out j aa);have hbl:blks (t.mt.take (k+1))=blks (t.mt.take k)++ [t.mt[k].block]:=bX;have hls:lastB (blks t.mt) (k+1)=t.mt[k].block:=by rw[jq3 (by simpa [blks] using hlt)];simp[blks]
   have hcl:(ji1 (blks (t.mt.take k))).length=12:=j06 _
   have hlast:lastB (blks t.mt) k= -1\/0<=lastB (blks t.mt) k:=by
    exact gU
   generalize t.mt[k]=x at*;generalize lastB (blks t.mt) k=la at*;replace hno:=hid hno;replace hsc:=hid hsc;replace hbl:=hid hbl;replace hls:=hid hls;replace hcl:=hid hcl;by_cases hA:la<x.block
   ·by_cases hB:x.block<12
    ·by_cases hC:x.text.size=32
     ·have ho:=hid (hsc.out (hoi.2 ⟨hA,hB,hC⟩));have eC:((x.text.size:Int) != 32)=false:=by rw[hC];rfl
      obtain⟨n,hn⟩:∃n:Nat,x.block=n:=⟨x.block.toNat,aa⟩;have hn12:n<12:=aa;have hst:=jB9 (blks (t.mt.take k)) hn12;have hcn:=jP5 (blks (t.mt.take k)) hn12;have hc0:=jH1 (blks (t.mt.take k)) (n:Int);have hc1:=kV8 (blks (t.mt.take k)) (n:Int);have hc2:(blks (t.mt.take k)).length<=11728124029610:=bg;have kwc:=kw.cell n;have kwf:=kw.free n;rw[jv,jQ,ix (by rw[j06];exact hn12),hcn,Option.map_some] at kwc;obtain⟨xb,xt⟩:=x;dsimp only at hn;subst hn;dsimp only at*;generalize cntI (blks (t.mt.take k)) (n:Int)=cn at*;exact fe
     ·have hgf:=hid (hno.out (fun ho=>hC (hoi.1 ho).2.2));exact gF
    ·have hgf:=hid (hno.out (fun ho=>hB (hoi.1 ho).2.1));exact ib
   ·have hgf:=hid (hno.out (fun ho=>hA (hoi.1 ho).1));exact h_
  ·obtain rfl:k=t.mt.length:=by omega
   have hokmt:=hid ((jM7 t.mt).2 hto.out);rw[iY] at kw;have c2:=k0.cell 2;simp only[Zga,Zgb,Zgc] at c2;go_wp2
   go_loopw [4,8,50] (fun la _ i wr=>∃k:Nat,k<=t.dt.length/\i=.int .i64 k/\la=.int .i64 (lastB (blks t.dt) k)/\Hid (ku8 t.dt k)/\Blk wr w.heap.size #[.int .i64 t.seq,.slice am t.mt.length cm,.slice ad t.dt.length cd,.slice ar t.rev.length cr,.bool t.h0.on,.int .i64 t.h0.left,.bool t.h1.on,.int .i64 t.h1.left,.bool t.h2.on,.int .i64 t.h2.left] 51/\Blk wr (w.heap.size+1) ((ji1 (blks t.mt++blks (t.dt.take k))).map (Value.int .i64)).toArray 53/\Below w.heap.size w wr) (fun _ _ i _=>t.dt.length-(intOf i).toNat)
   case atStart=>exact⟨0,iq _,rfl,rfl,hid (fun k hk=>absurd hk (jl k)),k0,by simpa [blks] using kw,nx⟩
   case round=>
    clear k0 kw nx l0 lw c2 hto hk hlt;obtain⟨k,hk,rfl,rfl,hto,k0,kw,nx⟩:=hrel;have l0:=k0.lt;have lw:=kw.lt;by_cases hlt:k<t.dt.length
    ·obtain⟨b1,o1,rfl,c0,c1⟩:=kj3 (fun x=>.int .i64 x.block) (fun x=>.string x.text) (fun _=>rfl) (hd.out.below nx) hlt;have hoi:=kQ0 hlt hto.out;have hno:=fun hn=>hng.out (.inr (.inr (.inl (ji3 hlt hn))));have hsc:=fun ho=>(show ku8 t.dt (k+1) from fun j hj=>if e:j=k then e▸ho else hto.out j aa);have hbl:blks (t.dt.take (k+1))=blks (t.dt.take k)++ [t.dt[k].block]:=bX;have hls:lastB (blks t.dt) (k+1)=t.dt[k].block:=by rw[jq3 (by simpa [blks] using hlt)];simp[blks]
     have hcl:(ji1 (blks t.mt++blks (t.dt.take k))).length=12:=j06 _
     have hlast:lastB (blks t.dt) k= -1\/0<=lastB (blks t.dt) k:=by
      exact gU
     generalize t.dt[k]=x at*;generalize lastB (blks t.dt) k=la at*;replace hno:=hid hno;replace hsc:=hid hsc;replace hbl:=hid hbl;replace hls:=hid hls;replace hcl:=hid hcl;by_cases hA:la<x.block
     ·by_cases hB:x.block<12
      ·by_cases hC:x.text.size=32
       ·have ho:=hid (hsc.out (hoi.2 ⟨hA,hB,hC⟩));have eC:((x.text.size:Int) != 32)=false:=by rw[hC];rfl
        obtain⟨n,hn⟩:∃n:Nat,x.block=n:=⟨x.block.toNat,aa⟩;have hn12:n<12:=aa;have hst:=jB9 (blks t.mt++blks (t.dt.take k)) hn12;have hcn:=jP5 (blks t.mt++blks (t.dt.take k)) hn12;have hc0:=jH1 (blks t.mt++blks (t.dt.take k)) (n:Int);have hc1:=kV8 (blks t.mt++blks (t.dt.take k)) (n:Int);have hc2:(blks t.mt++blks (t.dt.take k)).length<=11728124029610:=bg;have kwc:=kw.cell n;have kwf:=kw.free n;rw[jv,jQ,ix (by rw[j06];exact hn12),hcn,Option.map_some] at kwc;obtain⟨xb,xt⟩:=x;dsimp only at hn;subst hn;dsimp only at*;rw[iE] at hst;generalize cntI (blks t.mt++blks (t.dt.take k)) (n:Int)=cn at*;exact fe
       ·have hgf:=hid (hno.out (fun ho=>hC (hoi.1 ho).2.2));exact gF
      ·have hgf:=hid (hno.out (fun ho=>hB (hoi.1 ho).2.1));exact ib
     ·have hgf:=hid (hno.out (fun ho=>hA (hoi.1 ho).1));exact h_
    ·obtain rfl:k=t.dt.length:=by omega
     have hokdt:=hid ((jM7 t.dt).2 hto.out);rw[iY] at kw;by_cases hrr:rise t.rev=true
     rotate_left
     ·have hgf:=hid (hng.out (.inr (.inr (.inr (.inl (by simpa using hrr))))));have hRk:=fun w hh=>hRi.out (.slice ar t.rev.length cr) w hh;rw[iW _|>.mp hrr] at hRk;replace hRk:=hid hRk;have c3:=k0.cell 3;simp only[Zga,Zgb,Zgc] at c3;clear hrr
      go_wp2_with (go_at_call 87;((with_reducible refine(hRk.out _ (hr.out.below nx)).mono ?_);rintro e w1 ⟨rfl,rfl⟩))
      go_ret;exact⟨j6_ hgf.out.symm,nx⟩
     have hRk:=fun w hh=>hRi.out (.slice ar t.rev.length cr) w hh;rw[hrr] at hRk;replace hRk:=hid hRk;have hrg:=hid (fun k (hk:k<t.rev.length)=>j08 hrr hk);replace hrr:=hid hrr;have c3:=k0.cell 3;simp only[Zga,Zgb,Zgc] at c3
     go_wp2_with (go_at_call 87;((with_reducible refine(hRk.out _ (hr.out.below nx)).mono ?_);rintro e w1 ⟨rfl,rfl⟩))
     go_loopw [10,85] (fun _ i wr=>∃k:Nat,k<=t.rev.length/\i=.int .i64 k/\Blk wr w.heap.size #[.int .i64 t.seq,.slice am t.mt.length cm,.slice ad t.dt.length cd,.slice ar t.rev.length cr,.bool t.h0.on,.int .i64 t.h0.left,.bool t.h1.on,.int .i64 t.h1.left,.bool t.h2.on,.int .i64 t.h2.left] 51/\Blk wr (w.heap.size+1) ((ji1 ((blks t.mt++blks t.dt)++t.rev.take k)).map (Value.int .i64)).toArray 53/\Below w.heap.size w wr) (fun _ i _=>t.rev.length-(intOf i).toNat)
     case atStart=>exact⟨0,iq _,rfl,k0,by simpa using kw,nx⟩
     case round=>
      clear k0 kw nx l0 lw c3;obtain⟨k,hk,rfl,k0,kw,nx⟩:=hrel;have l0:=k0.lt;have lw:=kw.lt;by_cases hlt:k<t.rev.length
      ·obtain⟨b1,o1,rfl,c0⟩:=kl6 (fun x=>.int .i64 x) (fun _=>rfl) (hr.out.below nx) hlt;obtain⟨g1,g2,_⟩:=hrg.out k hlt;have htk:t.rev.take (k+1)=t.rev.take k++ [t.rev[k]]:=it hlt;generalize t.rev[k]=x at*;obtain⟨n,rfl⟩:∃n:Nat,x=n:=⟨x.toNat,aa⟩;have hn12:n<12:=aa;have hst:=jB9 ((blks t.mt++blks t.dt)++t.rev.take k) hn12;have hcn:=jP5 ((blks t.mt++blks t.dt)++t.rev.take k) hn12;have hc0:=jH1 ((blks t.mt++blks t.dt)++t.rev.take k) (n:Int);have hc1:=kV8 ((blks t.mt++blks t.dt)++t.rev.take k) (n:Int);have hc2:((blks t.mt++blks t.dt)++t.rev.take k).length<=29320310073770:=bg;have kwc:=kw.cell n;have kwf:=kw.free n;rw[jv,jQ,ix (by rw[j06];exact hn12),hcn,Option.map_some] at kwc;generalize cntI ((blks t.mt++blks t.dt)++t.rev.take k) (n:Int)=cn at*;have hn12':(n:Int)<12:=aa;clear hcn;replace hst:=hid hst;replace htk:=hid htk;go_wp2;go_roundw
       case rel=>
        refine⟨k+1,aa,an,k0.set_other _ _ ag,?_,nx.setCell ag _⟩;have hk2:=kw.set n (.int .i64 (cn+1));rw[map_set,<-hst.out] at hk2;rw[htk.out,<-iE];exact hk2
       case measure=>simp[intOf];omega
      ·obtain rfl:k=t.rev.length:=by omega
       rw[iY] at kw;have hap:=fun ha x=>kW4 hokmt.out hokdt.out hrr.out ha x;have hac:=fun hh=>kV7 hokmt.out hokdt.out hrr.out hh;change Blk wr (w.heap.size+1) ((ji1 (jD_ t)).map (Value.int .i64)).toArray 53 at kw;have hsz:some 12=some (((ji1 (jD_ t)).map (Value.int .i64)).toArray).size:=by simp[j06]
       have hget:∀k:Nat,k<12->(ji1 (jD_ t))[k]? =some (cntI (jD_ t) k):=fun k hk=>by rw[ix (by rw[j06];exact hk),jP5 _ hk]
       have hl12:=j06 (jD_ t);have hng5:=fun(ha:¬apart t=true)=>hng.out (.inr (.inr (.inr (.inr (.inl (by simpa using ha))))));generalize hcl:ji1 (jD_ t)=cl at*;generalize hca:cntI (jD_ t)=ca at*;clear hcl hca;replace hap:=hid hap;replace hac:=hid hac;replace hsz:=hid hsz;replace hget:=hid hget;replace hl12:=hid hl12;replace hng5:=hid hng5;have kw2:=hid kw;clear hlt
       go_wp2_with (refine wpList_load_row rfl 53 _ rfl _ rfl _ _ _ _ kw2.out Tryz.underlying53 rfl ((by kernel_rfl:_=some 12).trans hsz.out) ?_)
       go_loopw [12,96] (fun _ i wr=>∃k:Nat,k<=12/\i=.int .i64 k/\Hid (∀j:Nat,j<k->ca j<=1)/\Blk wr w.heap.size #[.int .i64 t.seq,.slice am t.mt.length cm,.slice ad t.dt.length cd,.slice ar t.rev.length cr,.bool t.h0.on,.int .i64 t.h0.left,.bool t.h1.on,.int .i64 t.h1.left,.bool t.h2.on,.int .i64 t.h2.left] 51/\Below w.heap.size w wr) (fun _ i _=>12-(intOf i).toNat)
       case atStart=>exact⟨0,ae,rfl,hid (fun j hj=>absurd hj (jl j)),k0,nx⟩
       case round=>
        clear k0 kw kw2 nx l0 lw;obtain⟨k,hk,rfl,hall,k0,nx⟩:=hrel;by_cases hlt:k<12
        ·have hixk:=hix.out wr cl hl12.out k (by rw[hl12.out];exact hlt);have hg2:=hget.out k hlt;rw[ix (by rw[hl12.out];exact hlt)] at hg2;simp only[iO] at hg2;rw[hg2] at hixk;clear hg2;by_cases hc:ca k<=1
         ·have hall2 := hid (show ∀ j : Nat, j < k + 1 -> ca j <= 1 from fun j hj => by
            rcases lY.1 hj with h1|rfl
            · exact hall.out j h1
            · exact hc)
          generalize ca k=cn at*;go_wp2;go_roundw
          case rel=>exact⟨k+1,aa,an,hall2,k0,nx⟩
          case measure=>simp[intOf];omega
         ·have hgf:=hid (hng5.out (fun ha=>hc (hap.out ha k)));have hc2:1<ca k:=aa;generalize ca k=cn at*;clear hc;go_wp2;go_ret;exact⟨j6_ hgf.out.symm,nx⟩
        ·obtain rfl:k=12:=by omega
         have hapt:=hid (hac.out (fun j hj=>hall.out j hj));have l0:=k0.lt;have e4:=k0.cell 4;have e5:=k0.cell 5;have e6:=k0.cell 6;have e7:=k0.cell 7;have e8:=k0.cell 8;have e9:=k0.cell 9;simp only[Zga,Zgb,Zgc] at e4 e5 e6 e7 e8 e9;clear hlt hall;go_wp2
         go_loopw [14,104] (fun _ i wr=>∃k:Nat,k<=3/\i=.int .i64 k/\Hid (∀j,j<k->(if j=0 then hOk t.h0 else if j=1 then hOk t.h1 else hOk t.h2)=true)/\Blk wr w.heap.size #[.int .i64 t.seq,.slice am t.mt.length cm,.slice ad t.dt.length cd,.slice ar t.rev.length cr,.bool t.h0.on,.int .i64 t.h0.left,.bool t.h1.on,.int .i64 t.h1.left,.bool t.h2.on,.int .i64 t.h2.left] 51/\Below w.heap.size w wr) (fun _ i _=>3-(intOf i).toNat)
         case atStart=>exact⟨0,ae,rfl,hid (fun j hj=>absurd hj (jl j)),k0,nx⟩
         case round=>
          clear k0 nx l0 e4 e5 e6 e7 e8 e9;obtain⟨k,hk,rfl,hall,k0,nx⟩:=hrel;have l0:=k0.lt;by_cases hlt:k<3
          ·obtain(rfl|rfl|rfl):k=0\/k=1\/k=2:=by omega
           ·have hi:=hi3.out wr;replace hi:=hi.1;have hof:=ja8 t.h0;have hnh:=fun hh=>hng.out (.inr (.inr (.inr (.inr (.inr (.inl hh))))));generalize t.h0.on=o at*;generalize hle:t.h0.left=lf at*;replace hnh:=hid hnh;replace hle:=hid hle;by_cases hoo:hOk t.h0=true
            ·obtain⟨a1,a2,a3⟩:=hof.1 hoo;have hoo2:=hid hoo;have hall2:=hid (show∀j,j<0+1->(if j=0 then hOk t.h0 else if j=1 then hOk t.h1 else hOk t.h2)=true from by intro j hj;obtain rfl:j=0:=aa;exact hoo2.out);clear hof hoo;by_cases hz:lf=0
             ·subst hz;go_wp2;exact eL
             ·have ho:o=true:=a3.resolve_right hz;have hz2:0<lf:=aa;subst ho;clear hz a3;go_wp2;exact eL
            ·replace hoo:hOk t.h0=false:=by simpa using hoo
             exact ex
           ·have hi:=hi3.out wr;replace hi:=hi.2.1;have hof:=ja8 t.h1;have hnh:=fun hh=>hng.out (.inr (.inr (.inr (.inr (.inr (.inr (.inl hh)))))));generalize t.h1.on=o at*;generalize hle:t.h1.left=lf at*;replace hnh:=hid hnh;replace hle:=hid hle;by_cases hoo:hOk t.h1=true
            ·obtain⟨a1,a2,a3⟩:=hof.1 hoo;have hoo2:=hid hoo;have hall2:=hid (show∀j,j<1+1->(if j=0 then hOk t.h0 else if j=1 then hOk t.h1 else hOk t.h2)=true from by intro j hj;rcases lY.1 hj with h1|rfl;(· exact hall.out j h1);exact hoo2.out);clear hof hoo;by_cases hz:lf=0
             ·subst hz;go_wp2;exact eM
             ·have ho:o=true:=a3.resolve_right hz;have hz2:0<lf:=aa;subst ho;clear hz a3;go_wp2;exact eM
            ·replace hoo:hOk t.h1=false:=by simpa using hoo
             exact ex
           ·have hi:=hi3.out wr;replace hi:=hi.2.2;have hof:=ja8 t.h2;have hnh:=fun hh=>hng.out (.inr (.inr (.inr (.inr (.inr (.inr (.inr hh)))))));generalize t.h2.on=o at*;generalize hle:t.h2.left=lf at*;replace hnh:=hid hnh;replace hle:=hid hle;by_cases hoo:hOk t.h2=true
            ·obtain⟨a1,a2,a3⟩:=hof.1 hoo;have hoo2:=hid hoo;have hall2:=hid (show∀j,j<2+1->(if j=0 then hOk t.h0 else if j=1 then hOk t.h1 else hOk t.h2)=true from by intro j hj;rcases lY.1 hj with h1|rfl;(· exact hall.out j h1);exact hoo2.out);clear hof hoo;by_cases hz:lf=0
             ·subst hz;go_wp2;exact eN
             ·have ho:o=true:=a3.resolve_right hz;have hz2:0<lf:=aa;subst ho;clear hz a3;go_wp2;exact eN
            ·replace hoo:hOk t.h2=false:=by simpa using hoo
             exact ex
          ·obtain rfl:k=3:=by omega
           have e0:=k0.cell 0;simp only[Zga,Zgb,Zgc] at e0;have hgt:k87 t.seq=true->goodT t=true:=fun hh=>(j22 t).2 ⟨hh,hokmt.out,hokdt.out,hrr.out,hapt.out,hall.out 0 ae,hall.out 1 ae,hall.out 2 ae⟩;have hgn:k87 t.seq=false->goodT t=false:=fun hh=>hng.out (.inl hh);generalize hsq:t.seq=sq at*;replace hgt:=hid hgt;replace hgn:=hid hgn;replace hsq:=hid hsq;by_cases q1:1<=sq
           ·by_cases q2:sq<=2147483647
            ·have hv:=hid (hgt.out (iG ⟨q1,q2⟩));have q3:0<sq:=aa;have q4:sq<2147483648:=aa;go_wp2;go_ret;exact⟨j6_ hv.out.symm,nx⟩
            ·have hv:=hid (hgn.out (iH (fun h=>q2 h.2)));have q3:0<sq:=aa;have q4:decide (sq<2147483648)=false:=iH aa;go_wp2;go_ret;exact⟨j6_ hv.out.symm,nx⟩
           ·have hv:=hid (hgn.out (iH (fun h=>q1 h.1)));have q3:sq<=0:=aa;go_wp2;go_ret;exact⟨j6_ hv.out.symm,nx⟩
theorem ia{A:Prop}(h:A:=by
 go_roundw
 case rel=>exact⟨j+1,aa,an,hown1',nx3,hb3⟩
 case measure=>simp[intOf];omega):A:=h
theorem je0(l : List Txn)(hg : ∀ t ∈ l, goodT t = true)(v : Value)(w : World)(h : j18 w v l) :Calls Tryz.prog 22 #[v] w fun e w'=>∃v',e=.returned v'/\Wb.Own j_3 w.heap.size 93 2 w' v' (newestL l)/\Below w.heap.size w w':=by
 obtain⟨a,cap,rfl,hl⟩:=h.form
 have hR:∀(f:Int->Option ByteArray) (b:Int) v w (hh:RL j_3 w v (j05 f)),Calls Tryz.prog 56 #[v,.int .i64 b] w fun e w'=>∃v',e=.returned v'/\Wb.Own j_3 w.heap.size 93 2 w' v' (j05 (fun x=>if x=b then none else f x))/\Below w.heap.size w w':=fun f b v w hh=>by
  rw[<-k0_];exact jS4 _ b v w hh (i3 (jI7 f 12) ae)
 have hW:∀(f:Int->Option ByteArray) (b:Int) (s:ByteArray) v w (hh:RL j_3 w v (j05 f)),Calls Tryz.prog 57 #[v,.int .i64 b,.string s] w fun e w'=>∃v',e=.returned v'/\Wb.Own j_3 w.heap.size 93 2 w' v' (j05 (fun x=>if x=b then some s else f x))/\Below w.heap.size w w':=fun f b s v w hh=>by
  rw[<-kX5];exact jS5 _ b s v w hh (i3 (jI7 f 12) ae)
 have hB:=fun b w=>j03 b w;have hA:=fun l b v w h1 h2=>jQ7 l b v w h1 h2;have hgk:=fun k (hk:k<l.length)=>hg l[k] (iM hk);have hst:=fun k (hk:k<l.length) b=>jQ2 hk b;have h0:∀b,newestB (l.take 0) b=none:=fun b=>rfl;have hnl:newestL l=j05 (newestB l):=rfl;have hv0:j05 (fun _=>none)=[]:=by unfold j05 viewN;rw[List.filterMap_eq_nil_iff];intro _ _;rfl
 rw[hnl];replace h:=hid h;replace hR:=hid hR;replace hW:=hid hW;replace hB:=hid hB;replace hA:=hid hA;replace hgk:=hid hgk;replace hst:=hid hst;replace h0:=hid h0;replace hv0:=hid hv0;clear hg hnl;go_enter Tryz.func22,Tryz.ntmps22;go_wp2
 go_loopw [3,12] (fun o i wr=>∃k:Nat,k<=l.length/\i=.int .i64 k/\Wb.Own j_3 w.heap.size 93 2 wr o (j05 (newestB (l.take k)))/\Below w.heap.size w wr) (fun _ i _=>l.length-(intOf i).toNat)
 case atStart=>exact⟨0,iq _,rfl,by rw[show j05 (newestB (l.take 0))=[] from hv0.out];exact Own.nil _ _ _ _ _,b0 w⟩
 case round=>
  obtain⟨wo,rfl⟩:∃wo:World,wo=wr:=⟨_,rfl⟩;obtain⟨k,hk,rfl,hown,nx⟩:=hrel;by_cases hlt:k<l.length
  ·obtain⟨b1,o1,vm,vd,vr,rfl,hrt,c0,c1,c2,c3,c4,c5,c6,c7,c8,c9⟩:=(h.out.below nx).at hlt;have hgt:=hgk.out k hlt;have hstk:=hst.out k hlt;generalize l[k]=t at*;generalize newestB (l.take k)=g at*;have hturn:=kM3 ((j22 t).1 hgt).2.1 g;have hend:(fun b=>jc0 t (g b) b)=newestB (l.take (k+1)):=funext fun b=>(hstk b).symm;rw[hend] at hturn;clear hstk hend;generalize hge:newestB (l.take (k+1))=g' at*;replace hge:=hid hge;obtain⟨vm',vd',vr',hv,hm,hd,hr,n1,n2,n3⟩:=hrt;simp only[j84,jo,jt,jh,jy,jF] at hv;obtain⟨rfl,rfl,rfl⟩:=hv;obtain⟨am,cm,rfl,_⟩:=hm.form;obtain⟨ad,cd,rfl,_⟩:=hd.form;obtain⟨ar,cr,rfl,_⟩:=hr.form;have hmk:=fun j (hj:j<t.mt.length)=>(j58 ((j22 t).1 hgt).2.1 hj).1;have hma:=fun j (hj:j<t.mt.length)=>(jh5 hgt hj).1;have hrs:=fun j (hj:j<t.rev.length)=>kO6 g hj;have hms:=fun j (hj:j<t.mt.length)=>jH7 (revF g t.rev) hj;have hr0:revF g (t.rev.take 0)=g:=rfl;have hrn:revF g (t.rev.take t.rev.length)=revF g t.rev:=by rw[iY]
   have hm0:metaF (revF g t.rev) (t.mt.take 0)=revF g t.rev:=rfl;have hmn:metaF (revF g t.rev) (t.mt.take t.mt.length)=g':=by rw[iY];exact hturn
   replace hm:=hid hm;replace hr:=hid hr;replace hmk:=hid hmk;replace hma:=hid hma;replace hrs:=hid hrs;replace hms:=hid hms;replace hr0:=hid hr0;replace hrn:=hid hrn;replace hm0:=hid hm0;replace hmn:=hid hmn;clear hturn hgt hd;have k5:Blk (wo.alloc (.cells #[.int .i64 t.seq,.slice am t.mt.length cm,.slice ad t.dt.length cd,.slice ar t.rev.length cr,.bool t.h0.on,.int .i64 t.h0.left,.bool t.h1.on,.int .i64 t.h1.left,.bool t.h2.on,.int .i64 t.h2.left] 51)) wo.heap.size #[.int .i64 t.seq,.slice am t.mt.length cm,.slice ad t.dt.length cd,.slice ar t.rev.length cr,.bool t.h0.on,.int .i64 t.h0.left,.bool t.h1.on,.int .i64 t.h1.left,.bool t.h2.on,.int .i64 t.h2.left] 51:=kk3 wo _ _;go_wp2
   go_loopw [3,7,19] (fun o _ i wr=>∃j:Nat,j<=t.rev.length/\i=.int .i64 j/\Wb.Own j_3 w.heap.size 93 2 wr o (j05 (revF g (t.rev.take j)))/\Below w.heap.size w wr/\Below (wo.heap.size+1) (wo.alloc (.cells #[.int .i64 t.seq,.slice am t.mt.length cm,.slice ad t.dt.length cd,.slice ar t.rev.length cr,.bool t.h0.on,.int .i64 t.h0.left,.bool t.h1.on,.int .i64 t.h1.left,.bool t.h2.on,.int .i64 t.h2.left] 51)) wr) (fun _ _ i _=>t.rev.length-(intOf i).toNat)
   case atStart=>exact⟨0,iq _,rfl,by rw[hr0.out];exact hown.alloc _,bal nx _,jW _ _⟩
   case round=>
    clear hown;obtain⟨j,hj,rfl,hown,nx2,hb2⟩:=hrel;have hbo:Below wo.heap.size wo wr:=(bal (b0 wo) _).trans (hb2.mono aa);by_cases hlt2:j<t.rev.length
    ·obtain⟨b3,o3,rfl,d0⟩:=kl6 (fun x=>.int .i64 x) (fun _=>rfl) (hr.out.below hbo) hlt2;have hs:=hrs.out j hlt2;have hRj:=hR.out (revF g (t.rev.take j)) t.rev[j];rw[hs] at hRj;clear hs;generalize revF g (t.rev.take j)=gj at*;generalize t.rev[j]=x at*;obtain⟨ao,co,rfl⟩:=hown.form;replace hRj:=hid hRj
     go_wp2_with (go_at_call 56;((with_reducible refine(hRj.out _ _ hown.reads).mono ?_);rintro e w1 ⟨v1,rfl,hown1,hb1⟩;have nx3:=bgo nx2 hb1;have hb3:=hb2.trans (hb1.mono (by have:=hb2.size;simpa using this));have hown1':=hown1.mono (base':=w.heap.size) nx2.size))
     exact ia
    ·obtain rfl:j=t.rev.length:=by omega
     rw[hrn.out] at hown;have k5b:=k5.below hb2 aa;have l5:=k5b.lt;have c1:=k5b.cell 1;simp only[Zga,Zgb,Zgc] at c1;go_wp2
     go_loopw [3,9,30] (fun o _ i wi=>∃j:Nat,j<=t.mt.length/\i=.int .i64 j/\Wb.Own j_3 w.heap.size 93 2 wi o (j05 (metaF (revF g t.rev) (t.mt.take j)))/\Below w.heap.size w wi/\Below (wo.heap.size+1) (wo.alloc (.cells #[.int .i64 t.seq,.slice am t.mt.length cm,.slice ad t.dt.length cd,.slice ar t.rev.length cr,.bool t.h0.on,.int .i64 t.h0.left,.bool t.h1.on,.int .i64 t.h1.left,.bool t.h2.on,.int .i64 t.h2.left] 51)) wi) (fun _ _ i _=>t.mt.length-(intOf i).toNat)
     case atStart=>exact⟨0,iq _,rfl,by rw[hm0.out];exact hown,nx2,hb2⟩
     case round=>
      clear hown nx2 hb2 hbo k5b l5 c1;obtain⟨j,hj,rfl,hown,nx2,hb2⟩:=hrel;have hbo:Below wo.heap.size wo wr:=(bal (b0 wo) _).trans (hb2.mono aa);have k5b:=k5.below hb2 aa;have l5:=k5b.lt;by_cases hlt2:j<t.mt.length
      ·obtain⟨b3,o3,rfl,d0,d1⟩:=kj3 (fun x=>.int .i64 x.block) (fun x=>.string x.text) (fun _=>rfl) (hm.out.below hbo) hlt2;have hs:=hms.out j hlt2;have hWj:=hW.out (metaF (revF g t.rev) (t.mt.take j)) t.mt[j].block t.mt[j].text;rw[hs] at hWj;have hBj:=hB.out t.mt[j].block;rw[hmk.out j hlt2] at hBj;have hAj:=hA.out t.rev t.mt[j].block (.slice ar t.rev.length cr);rw[hma.out j hlt2] at hAj;clear hs;generalize metaF (revF g t.rev) (t.mt.take j)=gj at*;generalize t.mt[j]=x at*;obtain⟨ao,co,rfl⟩:=hown.form;replace hWj:=hid hWj;replace hBj:=hid hBj;replace hAj:=hid hAj;have c3:=k5b.cell 3;simp only[Zga,Zgb,Zgc] at c3;have k9:Blk (wr.alloc (.cells #[.int .i64 x.block,.string x.text] 93)) wr.heap.size #[.int .i64 x.block,.string x.text] 93:=kk3 wr _ _
       go_wp2_with (first|(go_at_call 24;((with_reducible refine(hBj.out _).mono ?_);rintro e w1 ⟨rfl,rfl⟩))|(go_at_call 50;((with_reducible refine(hAj.out _ (hr.out.below (bal hbo _)) n3).mono ?_);rintro e w1 ⟨rfl,rfl⟩))|(go_at_call 57;((with_reducible refine(hWj.out _ _ (hown.alloc _).reads).mono ?_);rintro e w1 ⟨v1,rfl,hown1,hb1⟩;have nx3:=bgo (bal nx2 _) hb1;have hb3:=(j63 hb2 ag _).trans (hb1.mono (by have:=hb2.size;simp at this⊢;omega));have hown1':=hown1.mono (base':=w.heap.size) (by have:=nx2.size;simp;omega))))
       exact ia
      ·obtain rfl:j=t.mt.length:=by omega
       rw[hmn.out] at hown;go_wp2;go_roundw
       case rel=>exact⟨k+1,aa,an,by rw[hge.out];exact hown,nx2⟩
       case measure=>simp[intOf];omega
  ·obtain rfl:k=l.length:=by omega
   rw[iY] at hown;go_wp2;go_ret;exact⟨_,rfl,hown,nx⟩
theorem jn_:Elem Tryz.prog 52 51 10 128:=kj_ (z:=.agg #[.int .i64 0,.slice none 0 0,.slice none 0 0,.slice none 0 0,.bool false,.int .i64 0,.bool false,.int .i64 0,.bool false,.int .i64 0]) Tryz.underlying52 af rfl
end Go.Proofs.YtlecmdajpfkaeaaGreatDoor
namespace Wb
open Go Go.RowKit
theorem jY4.own_ne{w:World}{b:Nat}{f:Int->Option Value}(h:jY4 w b f){α:Type}{g:α->List Value}{base:Nat}{e:TypeId}{c:Nat}{v:Value}{l:List α}(ho:Own g base e c w v l):some b≠v.ownBlock:=by
 intro hh;obtain⟨cur,hc⟩:=ho.cellsOf hh.symm;obtain⟨es,clk,h1,_⟩:=h;rw[hc] at h1
 cases h1
end Wb
namespace Go.Proofs.YtlecmdajpfkaeaaGreatDoor
open Go.RowKit Wb
theorem k84(l : List Txn)(hg : ∀ t ∈ l, goodT t = true)(v : Value)(w : World)(h : j18 w v l) :Calls Tryz.prog 72 #[v] w fun e w'=>∃v',e=.returned v'/\Wb.Own j_3 w.heap.size 93 2 w' v' (newestL l)/\Below w.heap.size w w':=by
 obtain⟨a,cap,rfl,hl⟩:=h.form;have hmm:= @run_makeMap Tryz.prog;have hlk:=fun(w:World) b f (im:jY4 w b f) k=>(im.lookup (P:=Tryz.prog) Tryz.underlying152 Tryz.underlying3 (e:=3) (z:=.int .i64 0) af k).1;have hlk2:=fun(w:World) b f (im:jY4 w b f) k=>(im.lookup (P:=Tryz.prog) Tryz.underlying153 Tryz.underlying3 (e:=9) (z:=.string ⟨#[]⟩) af k).2;have hup:=fun(w:World) b f (im:jY4 w b f) k v=>im.update (P:=Tryz.prog) Tryz.underlying152 Tryz.underlying3 k v;have hup2:=fun(w:World) b f (im:jY4 w b f) k v=>im.update (P:=Tryz.prog) Tryz.underlying153 Tryz.underlying3 k v;have hgk:=fun k (hk:k<l.length)=>hg l[k] (iM hk);have hrs:=fun k (hk:k<l.length) b=>k39 hk b;have hrl:=fun b=>kB4 l l.length b;have hts:=fun r k (hk:k<l.length) b=>jk5 hk r b;have hfin:=kY9 hg;have hvs:=fun k=>j45 (newestB l) k;have hvn:=fun k=>jI7 (newestB l) k;have hnl:newestL l=viewN (newestB l) 12:=rfl;have hv0:viewN (newestB l) 0=[]:=rfl;have hr0:∀b,(none:Option Value)=k38 (rho l 0) b:=fun b=>rfl;have ht0:∀r b,(none:Option Value)=jj4 (txF l r 0) b:=fun r b=>rfl;rw[hnl];replace h:=hid h;replace hlk:=hid hlk;replace hlk2:=hid hlk2;replace hup:=hid hup;replace hup2:=hid hup2;replace hgk:=hid hgk;replace hrs:=hid hrs;replace hts:=hid hts;replace hfin:=hid hfin;replace hvs:=hid hvs;replace hvn:=hid hvn;replace hv0:=hid hv0;replace hr0:=hid hr0;replace ht0:=hid ht0;replace hrl:=hid hrl;clear hnl hg;go_enter Tryz.func72,Tryz.ntmps72;go_wp2
 go_loopw [20] (fun i wr=>∃k:Nat,k<=l.length/\i=.int .i64 k/\jY4 wr w.heap.size (k38 (rho l k))/\Below w.heap.size w wr) (fun i _=>l.length-(intOf i).toNat)
 case atStart=>exact⟨0,iq _,rfl,(km6 w).congr hr0.out,bal (b0 w) _⟩
 case round=>
  obtain⟨wo,rfl⟩:∃wo:World,wo=wr:=⟨_,rfl⟩;obtain⟨k,hk,rfl,im,nx⟩:=hrel;by_cases hlt:k<l.length
  ·obtain⟨b1,o1,am,cm,ad,cd,ar,cr,rfl,hrt,c0,c1,c2,c3,c4,c5,c6,c7,c8,c9⟩:=h.out.at3 hlt;replace c0:=j_5 nx c0;replace c1:=j_5 nx c1;replace c2:=j_5 nx c2;replace c3:=j_5 nx c3;replace c4:=j_5 nx c4;replace c5:=j_5 nx c5;replace c6:=j_5 nx c6;replace c7:=j_5 nx c7;replace c8:=j_5 nx c8;replace c9:=j_5 nx c9;have hstk:=hrs.out k hlt;generalize l[k]=t at*;obtain⟨vm',vd',vr',hv,hm,hd,hr,n1,n2,n3⟩:=hrt;simp only[j84,jo,jt,jh,jy,jF] at hv;obtain⟨rfl,rfl,rfl⟩:=hv;have hj0:∀b,k38 (rho l k) b=k38 (fun b=>if inI (t.rev.take 0) b then k+1 else rho l k b) b:=fun b=>rfl;have hjs:=fun j (hj:j<t.rev.length) b=>jK6 (l:=t.rev) (b:=b) hj
   have hjn:∀b,k38 (fun b=>if inI (t.rev.take t.rev.length) b then k+1 else rho l k b) b=k38 (rho l (k+1)) b:=fun b=>by
    unfold k38;rw[hstk b,iY]
   generalize rho l k=g at*;generalize hge:rho l (k+1)=g' at*;replace hge:=hid hge;replace hr:=hid hr;replace hj0:=hid hj0;replace hjs:=hid hjs;replace hjn:=hid hjn;clear hstk hm hd;have hk3:k<=1099511627744:=aa;go_wp2
   go_loopw [7,28] (fun _ i wr=>∃j:Nat,j<=t.rev.length/\i=.int .i64 j/\jY4 wr w.heap.size (k38 (fun b=>if inI (t.rev.take j) b then k+1 else g b))/\Below w.heap.size w wr) (fun _ i _=>t.rev.length-(intOf i).toNat)
   case atStart=>exact⟨0,iq _,rfl,(im.congr hj0.out).alloc _,bal nx _⟩
   case round=>
    clear im nx c0 c1 c2 c3 c4 c5 c6 c7 c8 c9;obtain⟨j,hj,rfl,im,nx⟩:=hrel;by_cases hlt2:j<t.rev.length
    ·obtain⟨b3,o3,rfl,d0⟩:=kl6 (fun x=>.int .i64 x) (fun _=>rfl) (hr.out.below nx) hlt2;have hsj:=hjs.out j hlt2;generalize t.rev[j]=x at*;obtain⟨wu,hrun,imu,htu⟩:=hup.out wr _ _ im x (.int .i64 ((k:Int)+1))
     have hsu:=hid (imu.congr (g:=k38 (fun b=>if inI (t.rev.take (j+1)) b then k+1 else g b)) (fun b=>by
      unfold k38;simp only[hsj b];by_cases hb:b=x
      ·have e1:(x==b)=true:=iT.2 hb.symm;rw[ij hb,e1,Bool.or_true];simp
      ·have e1:(x==b)=false:=ik.2 (fun hh=>hb hh.symm);rw[ii hb,e1,Bool.or_false]))
     clear imu hsj;go_wp2;go_roundw
     case rel=>exact⟨j+1,aa,an,hsu.out,htu.below nx (iy _)⟩
     case measure=>simp[intOf];omega
    ·obtain rfl:j=t.rev.length:=by omega
     have im2:=hid (im.congr hjn.out);go_wp2;go_roundw
     case rel=>exact⟨k+1,aa,an,by rw[hge.out];exact im2.out,nx⟩
     case measure=>simp[intOf];omega
  ·obtain rfl:k=l.length:=by omega
   have hr2:=hrl.out;generalize hrr:rho l l.length=r at*;replace hrr:=hid hrr;replace hr2:=hid hr2;have imt:=(km6 wo).congr (ht0.out r);have hts:=hts.out r;replace hts:=hid hts;have ltw:=im.lt;have im:=im.alloc (.map #[] 0);have nx:=bal nx (.map #[] 0);have hne:w.heap.size≠wo.heap.size:=aa;obtain⟨B,hB⟩:∃B,wo.heap.size=B:=⟨_,rfl⟩;rw[hB] at imt ltw hne;go_wp2
   go_loopw [41] (fun i wr=>∃k:Nat,k<=l.length/\i=.int .i64 k/\jY4 wr w.heap.size (k38 r)/\jY4 wr B (jj4 (txF l r k))/\Below w.heap.size w wr) (fun i _=>l.length-(intOf i).toNat)
   case atStart=>exact⟨0,iq _,rfl,im,imt,nx⟩
   case round=>
    clear im imt nx;obtain⟨k,hk,rfl,im,imt,nx⟩:=hrel;by_cases hlt:k<l.length
    ·obtain⟨b1,o1,am,cm,ad,cd,ar,cr,rfl,hrt,c0,c1,c2,c3,c4,c5,c6,c7,c8,c9⟩:=h.out.at3 hlt;replace c0:=j_5 nx c0;replace c1:=j_5 nx c1;replace c2:=j_5 nx c2;replace c3:=j_5 nx c3;replace c4:=j_5 nx c4;replace c5:=j_5 nx c5;replace c6:=j_5 nx c6;replace c7:=j_5 nx c7;replace c8:=j_5 nx c8;replace c9:=j_5 nx c9;have hstk:=hts.out k hlt;have hgt:=hgk.out k hlt;generalize l[k]=t at*;obtain⟨vm',vd',vr',hv,hm,hd,hr,n1,n2,n3⟩:=hrt;simp only[j84,jo,jt,jh,jy,jF] at hv;obtain⟨rfl,rfl,rfl⟩:=hv;have hj0:∀b,jj4 (txF l r k) b=jj4 (jy7 (txF l r k) r k (t.mt.take 0)) b:=fun b=>rfl;have hjs:=fun j (hj:j<t.mt.length) b=>jq8 (txF l r k) r k hj b
     have hjn:∀b,jj4 (jy7 (txF l r k) r k (t.mt.take t.mt.length)) b=jj4 (txF l r (k+1)) b:=fun b=>by
      unfold jj4;rw[hstk b,iY,k07 ((j22 t).1 hgt).2.1]
     generalize hge:txF l r (k+1)=g' at*;generalize txF l r k=g at*;replace hge:=hid hge;replace hm:=hid hm;replace hj0:=hid hj0;replace hjs:=hid hjs;replace hjn:=hid hjn;clear hstk hgt hd hr;go_wp2
     go_loopw [12,49] (fun _ i wr=>∃j:Nat,j<=t.mt.length/\i=.int .i64 j/\jY4 wr w.heap.size (k38 r)/\jY4 wr B (jj4 (jy7 g r k (t.mt.take j)))/\Below w.heap.size w wr) (fun _ i _=>t.mt.length-(intOf i).toNat)
     case atStart=>exact⟨0,iq _,rfl,im.alloc _,(imt.congr hj0.out).alloc _,bal nx _⟩
     case round=>
      clear im imt nx c0 c1 c2 c3 c4 c5 c6 c7 c8 c9;obtain⟨j,hj,rfl,im,imt,nx⟩:=hrel;by_cases hlt2:j<t.mt.length
      ·obtain⟨b3,o3,rfl,d0,d1⟩:=kj3 (fun x=>.int .i64 x.block) (fun x=>.string x.text) (fun _=>rfl) (hm.out.below nx) hlt2;have hsj:=hjs.out j hlt2;generalize t.mt[j]=x at*;replace im:=im.alloc (.cells #[.int .i64 x.block,.string x.text] 93);replace imt:=imt.alloc (.cells #[.int .i64 x.block,.string x.text] 93);have nx':=bal nx (.cells #[.int .i64 x.block,.string x.text] 93);have hl1:=hlk.out _ _ _ im x.block;rw[kF9] at hl1;by_cases hrk:r x.block<=k
       ·obtain⟨wu,hrun,imu,htu⟩:=hup2.out _ _ _ imt x.block (.string x.text)
        have hsu:=hid (imu.congr (g:=jj4 (jy7 g r k (t.mt.take (j+1)))) (fun b=>by
         unfold jj4;rw[hsj b];by_cases hb:b=x.block
         ·rw[ij hb,ij ⟨hb,by rw[hb];exact hrk⟩];rfl
         ·rw[ii hb,ii (fun hh=>hb hh.1)]))
        have imr:=hid (htu.imap im hne);have nxu:=hid (htu.below nx' aa);clear imu hsj imt im;go_wp2;go_roundw
        case rel=>exact⟨j+1,aa,an,imr.out,hsu.out,nxu.out⟩
        case measure=>simp[intOf];omega
       ·have hsu := hid (imt.congr (g := jj4 (jy7 g r k (t.mt.take (j + 1)))) (fun b => by
          unfold jj4;rw[hsj b];by_cases hb:b=x.block
          · rw[ii (fun hh=>hrk (by rw[<-hb];exact hh.2))]
          · rw[ii (fun hh=>hb hh.1)]))
        have hrk2:k<r x.block:=aa;clear hsj;go_wp2;go_roundw
        case rel=>exact⟨j+1,aa,an,im,hsu.out,nx'⟩
        case measure=>simp[intOf];omega
      ·obtain rfl:j=t.mt.length:=by omega
       have im2:=hid (imt.congr hjn.out);go_wp2;go_roundw
       case rel=>exact⟨k+1,aa,an,im,by rw[hge.out];exact im2.out,nx⟩
       case measure=>simp[intOf];omega
    ·obtain rfl:k=l.length:=by omega
     replace imt:=imt.congr (g:=jj4 (newestB l)) (fun b=>by unfold jj4;rw[hfin.out b]);clear im hr2 hts hrr hup hup2 hlk hrs hgk hrl hr0 ht0 hfin;generalize hnb:newestB l=nb at*;replace hnb:=hid hnb;go_wp2
     go_loopw [13,66] (fun o i wr=>∃k:Nat,k<=12/\i=.int .i64 k/\Wb.Own j_3 w.heap.size 93 2 wr o (viewN nb k)/\jY4 wr B (jj4 nb)/\Below w.heap.size w wr) (fun _ i _=>12-(intOf i).toNat)
     case atStart=>exact⟨0,ae,rfl,by rw[hv0.out];exact Own.nil _ _ _ _ _,imt,nx⟩
     case round=>
      clear imt nx;obtain⟨k,hk,rfl,hown,imt,nx⟩:=hrel;by_cases hlt:k<12
      ·have hl2:=hlk2.out _ _ _ imt (k:Int);rw[kD3,kL0] at hl2;have hs:=hvs.out k;have hn:=hvn.out k;generalize hvk:viewN nb (k+1)=v1 at*;generalize viewN nb k=v0 at*;generalize nb (k:Int)=o at*;replace hvk:=hid hvk
       cases o with
       |none=>
        simp only[Option.map_none,Option.toList_none,i6] at hs
        simp only[Option.getD_none,Option.isSome_none] at hl2
        replace hs:=hid hs
        go_wp2
        go_roundw
        case rel=>exact⟨k+1,aa,an,by rw[hvk.out,hs.out];exact hown,imt,nx⟩
        case measure=>simp[intOf];omega
       |some s=>
        simp only[Option.map_some,Option.toList_some] at hs
        simp only[Option.getD_some,Option.isSome_some] at hl2
        replace hs:=hid hs
        have hne2:=imt.own_ne hown
        go_wp2_with (at_builtin;(refine j70 rfl _ _ _ rfl w.heap.size _ 2 24 j91 j53 hown rfl ⟨(k:Int),s⟩ rfl rfl aa aE nx.size ?_);intro v7 w7 hown7 hbel7 hg7)
        have imt7:=hid (imt.grown hg7 hne2)
        rw[<-hs.out] at hown7
        go_wp2
        go_roundw
        case rel=>exact⟨k+1,aa,an,by rw[hvk.out];exact hown7,imt7.out,nx.trans hbel7⟩
        case measure=>simp[intOf];omega
      ·obtain rfl:k=12:=by omega
       go_wp2;go_ret;exact⟨_,rfl,by rw[hnb.out];exact hown,nx⟩
end Go.Proofs.YtlecmdajpfkaeaaGreatDoor
namespace Wb
open Go Go.RowKit
theorem gB{w w':World}(h:Below w.heap.size w w')(row:Option Nat):w.grownBy w' row:=⟨h.os,h.tape,h.output,h.size,fun k hk _=>h.block k hk⟩
theorem kn9{w w':World}{b:Nat}(h:w.grownBy w' (some b))(i:Nat)(v:Value):w.grownBy (w'.setCell ⟨b,i,none⟩ v) (some b):=
 ⟨h.os,h.tape,h.output,by simpa using h.size,fun k hk hne=>by rw[k_ w' ⟨b,i,none⟩ v k (fun hh=>hne (by rw[hh]))];exact h.block k hk hne⟩
theorem jM_{B b:Nat}{W w w':World}(h:w.grownBy w' (some b))(hw:Below B W w)(hs:B<=w.heap.size)(hb:B<=b):Below B W w':=
 hw.grown h hs (fun k hk=>by cases hk;exact hb)
theorem jK4{w w1 w2:World}{row:Option Nat}(h:w.grownBy w1 row)(h2:w1.grownBy w2 row):w.grownBy w2 row:=
 ⟨h2.os.trans h.os,h2.tape.trans h.tape,h2.output.trans h.output,i3 h.size h2.size,fun k hk hne=>(h2.block k (ir hk h.size) hne).trans (h.block k hk hne)⟩
end Wb
namespace Go.Proofs.YtlecmdajpfkaeaaGreatDoor
open Go.RowKit Wb
theorem kY5(br : Nat)(vs vw : Value)(a : Int)(w : World)(k : Blk w br #[vs, vw, .int .i64 a, .int .i64 0] 148) :Calls Tryz.prog 138 #[.pointer (some ⟨br,0,none⟩)] w fun e w'=>e=.returned (.tuple #[.string ⟨#[]⟩,.bool false])/\w=w':=by
 have c3:=k.cell 3;simp only[Zga,Zgb,Zgc] at c3;go_enter Tryz.func138,Tryz.ntmps138;go_wp2;go_ret2;exact⟨rfl,rfl⟩
theorem kY6(d : Dsk)(br : Nat)(vs vw : Value)(a lf : Int)(w : World)(hd : j_7 w (.agg #[vs, vw]) d)(k : Blk w br #[vs, vw, .int .i64 a, .int .i64 lf] 148)(a0:0<=a) (a1:a<24) (l0:0<lf) (l1:lf<=24):Calls Tryz.prog 138 #[.pointer (some ⟨br,0,none⟩)] w fun e w'=>e=.returned (.tuple #[.string (readD d (1+a)),.bool true])/\Blk w' br #[vs,vw,.int .i64 ((a+1)%24),.int .i64 (lf-1)] 148/\w.grownBy w' (some br):=by
 have hR:=fun w (hh:j_7 w (.agg #[vs,vw]) d)=>jA8 d (1+a) _ w hh;have c0:=k.cell 0;have c1:=k.cell 1;have c2:=k.cell 2;have c3:=k.cell 3;simp only[Zga,Zgb,Zgc] at c0 c1 c2 c3;have hlf:(lf==0)=false:=ik.2 aa;have lt:=k.lt;obtain⟨vs',vw',hv,hs,hw,n1,n2⟩:=hd;have hd:j_7 w (.agg #[vs,vw]) d:=⟨vs',vw',hv,hs,hw,n1,n2⟩;simp only[jo,jt,jh,jy] at hv;obtain⟨rfl,rfl⟩:=hv;obtain⟨as_,cs,rfl,_⟩:=hs.form;obtain⟨aw,cw,rfl,_⟩:=hw.form;clear hs hw;generalize readD d (1+a)=s at*;generalize readE d (1+a)=e at*;have ha:IntKind.i64.wrap (1+a)=1+a:=iz _ aa;replace hR:=hid hR;replace hd:=hid hd;go_enter Tryz.func138,Tryz.ntmps138;go_wp2;(refine j83 af af ?_);(repeat(go_big_quiet_step ((first| (go_at_call 80;exact BW.call (hR.out _ (hd.out.below (BW.below _))))))));refine lv ?_;intro wq hw';obtain⟨⟨_,hb1⟩,rfl⟩:=hw';have k':=k.step hb1;have c2':=k'.cell 2;have c3':=k'.cell 3;have f2:=k'.free 2;have f3:=k'.free 3;have lt':=k'.lt;simp only[Zga,Zgb,Zgc] at c2' c3';have g:=kn9 (kn9 (gB hb1 (some br)) 2 (.int .i64 ((a+1)%24))) 3 (.int .i64 (lf-1));have k2:=(k'.set 2 (.int .i64 ((a+1)%24))).set 3 (.int .i64 (lf-1));replace g:=hid g;replace k2:=hid k2;clear c0 c1 c2 c3 k;go_wp2;go_ret2;exact⟨rfl,k2.out,g.out⟩
end Go.Proofs.YtlecmdajpfkaeaaGreatDoor
namespace Wb
open Go Go.RowKit
theorem kQ3(a b m i:Nat)(hm:m=2^i)(h:a<m):(b*m) ||| a=b*m+a:=by
 subst hm;rw[<-Nat.shiftLeft_eq,Nat.shiftLeft_add_eq_or_of_lt h]
theorem jH3(a b:Nat)(ha:a<4294967296)(hb:b<4294967296):bits .or .i64 (a:Int) (b:Int)=((a ||| b:Nat):Int):=by
 have hx:a ||| b<2^32:=Nat.or_lt_two_pow aa aa;show IntKind.i64.wrap ((BitVec.ofInt 64 (a:Int) ||| BitVec.ofInt 64 (b:Int)).toNat:Int)=_;rw[BitVec.toNat_or,ofInt_u64 a aa,ofInt_u64 b aa,IntKind.wrap_i64];omega
theorem k41(s:ByteArray):bits BinOp.or IntKind.i64 (bits BinOp.or IntKind.i64 (bits BinOp.or IntKind.i64 (nb s 5*16777216) (nb s 6*65536)) (nb s 7*256)) (nb s 8)=seqOf s:=by
 have b5:=j64 s 5;have b6:=j64 s 6;have b7:=j64 s 7;have b8:=j64 s 8;unfold seqOf;unfold nb at*;generalize (bt s 5).toNat=n5 at*;generalize (bt s 6).toNat=n6 at*;generalize (bt s 7).toNat=n7 at*;generalize (bt s 8).toNat=n8 at*;have e5:((n5:Int)*16777216)=((n5*16777216:Nat):Int):=aa;have e6:((n6:Int)*65536)=((n6*65536:Nat):Int):=aa;have e7:((n7:Int)*256)=((n7*256:Nat):Int):=aa
 rw[e5,e6,e7,jH3 (n5*16777216) (n6*65536) aa aa,kQ3 (n6*65536) n5 16777216 24 ae aa,
  show n5*16777216+n6*65536=(n5*256+n6)*65536 from aa,jH3 _ (n7*256) aa aa,kQ3 (n7*256) (n5*256+n6) 65536 16 ae aa,
  show(n5*256+n6)*65536+n7*256=((n5*256+n6)*256+n7)*256 from aa,jH3 _ n8 aa aa,kQ3 n8 _ 256 8 ae aa]
 omega
end Wb
namespace Go.Proofs.YtlecmdajpfkaeaaGreatDoor
open Go.RowKit Wb
theorem jD5(d : Dsk)(n : Int)(t : ByteArray)(v : Value)(w : World)(hd : j_7 w v d)(hg : goodD d = true)(ha : jR6 n = true)(h32 : t.size = 32)(h200 : ¬ 200 <= d.writes.length) :Calls Tryz.prog 49 #[v,.int .i64 n,.string t] w fun e w'=>∃v',e=.returned (.tuple #[v',.int .i64 0])/\j_7 w' v' ⟨d.safe,d.writes++ [⟨n,t⟩]⟩/\js6 w.heap.size w' v v' d ⟨d.safe,d.writes++ [⟨n,t⟩]⟩/\Below w.heap.size w w':=by
 have hG:=fun w (hh:j_7 w v d)=>j29 d v w hh;have hA:=fun w=>jB1 n w;have hC:=fun w (hh:j_7 w v d)=>je_ d v w hh;rw[hg] at hG;rw[ha] at hA;have g2:=((j81 d).1 hg).2.1;have e1:((t.size:Int) != 32)=false:=by rw[h32];rfl
 have e2:((d.writes.length:Int)==200)=false:=ik.2 aa;have hd2:=hd;obtain⟨vs,vw,rfl,hs,hw,n1,n2⟩:=hd;obtain⟨a,cap,rfl,ca1,ca2⟩:=hs.form;obtain⟨b,bcap,rfl,cb1,cb2⟩:=hw.form;replace hd2:=hid hd2;clear hg ha h32 hs hw;obtain⟨safe,writes⟩:=d;dsimp only at*;replace hG:=hid hG;replace hA:=hid hA;replace hC:=hid hC;go_enter Tryz.func49,Tryz.ntmps49
 go_wp2_with (first|(go_at_call 52;refine(hG.out _ (hd2.out.below aj)).mono ?_;rintro e w1 ⟨rfl,hb1⟩;obtain⟨hbc,hbf⟩:=j51 hb1;have hbz:=hb1.size;try simp only[iN,iJ,World.size_drew] at hbz;have hz0:=ir (n:=w.heap.size) aa hbz;have hz1:=ir (n:=w.heap.size+1) aa hbz)|(go_at_call 61;refine(hA.out _).mono ?_;rintro e w2 ⟨rfl,rfl⟩)|(go_at_call 88;(refine(hC.out _ (hd2.out.below aj)).mono ?_;rintro e w3 ⟨vs3,vw3,rfl,os3,ow3,hsep,hb3⟩;obtain⟨as3,cs3,rfl⟩:=os3.form;obtain⟨aw3,cw3,rfl⟩:=ow3.form;have hnx:Below w.heap.size w w1:=aj;have hnx3:=hnx.trans (hb3.mono aa);have k1:Blk w3 (w.heap.size+1) #[.slice none 0 0,.slice none 0 0] 44:=((kl8 (w:=w.alloc _) ag).step hb1).step hb3;have lt1:=k1.lt;have hz3:=hb3.size;have c0:=k1.cell 0;have c1:=k1.cell 1;simp only[Zga,Zgb,Zgc] at c0 c1;have f0:=k1.free 0;have f1:=k1.free 1;clear hb1 hbc hbf hb3))|(at_builtin;(refine jZ5 rfl _ _ _ rfl w1.heap.size _ 2 24 jO9 ji9 (ow3.alloc _) rfl ⟨n,t⟩ rfl rfl _ rfl aa aa ah ?_;intro a4 cap4 w4 hown4 hb4 hg4;have os4:=(os3.alloc _).grown hg4 hsep;have k4:Blk w4 w3.heap.size #[.slice as3 safe.length cs3,.slice aw3 writes.length cw3] 44:=(kk3 w3 _ _).grown hg4 (kx7 ow3 _ (iy _));have k1:=(k1.alloc _).below hb4 aa;have hnx4:=(j63 hnx3 aa _).trans (hb4.mono aa);have g0:=k4.cell 0;have g1:=k4.cell 1;have g2:=k4.free 1;have c0:=k1.cell 0;have c1:=k1.cell 1;simp only[Zga,Zgb,Zgc] at c0 c1 g0 g1;have f0:=k1.free 0;have f1:=k1.free 1;have ltg:=k4.lt)))
 have o1:=os4.setBlk k4 ae 1 (.slice a4 (writes.length+1) cap4);have o2:=hown4.setBlk k4 ae 1 (.slice a4 (writes.length+1) cap4);have hnx5:=hnx4.setCell (p:=⟨w3.heap.size,1,none⟩) ah (.slice a4 (writes.length+1) cap4);have k5:=k1.set_other ⟨w3.heap.size,1,none⟩ (.slice a4 (writes.length+1) cap4) ah;generalize w4.setCell ⟨w3.heap.size,1,none⟩ (.slice a4 (writes.length+1) cap4)=w5 at*;have d0:=k5.cell 0;have d1:=k5.cell 1;simp only[Zga,Zgb,Zgc] at d0 d1;have o3:=(o1.setCell (p:=⟨w.heap.size+1,0,none⟩) ah (.slice as3 safe.length cs3)).setCell (p:=⟨w.heap.size+1,1,none⟩) ah (.slice a4 (writes.length+1) cap4);have o4:=(o2.setCell (p:=⟨w.heap.size+1,0,none⟩) ah (.slice as3 safe.length cs3)).setCell (p:=⟨w.heap.size+1,1,none⟩) ah (.slice a4 (writes.length+1) cap4);exact iL (v:=.tuple #[.agg #[.slice as3 safe.length cs3,.slice a4 (writes.length+1) cap4],.int .i64 0]) (by simp[results,Tryz.results49,go_sem,d0,d1]) rfl ⟨_,rfl,⟨_,_,rfl,o3.reads,o4.reads,n1,ah⟩,⟨_,_,_,_,rfl,rfl,o3.slot aa,o4.slot aa⟩,(hnx5.setCell ag _).setCell ag _⟩
theorem fQ{A:Prop}(h:A:=by
 exact iL (v:=.tuple #[.agg #[.slice a d.safe.length cap,.slice b d.writes.length bcap],.int .i64 2]) bS rfl ⟨_,rfl,hd2.out.below aj,hd2.out.same _,aj⟩):A:=h
theorem je1(d : Dsk)(n : Int)(t : ByteArray)(v : Value)(w : World)(hd : j_7 w v d) :Calls Tryz.prog 49 #[v,.int .i64 n,.string t] w fun e w'=>∃v',e=.returned (.tuple #[v',.int .i64 (putE d n t)])/\j_7 w' v' (putD d n t)/\js6 w.heap.size w' v v' d (putD d n t)/\Below w.heap.size w w':=by
 have hG:=fun w (hh:j_7 w v d)=>j29 d v w hh;have hA:=fun w=>jB1 n w;by_cases hp:putE d n t=0
 ·obtain⟨hg,ha,h32,h200⟩:=jJ4 hp;unfold putD;rw[ij hp,hp];exact jD5 d n t v w hd hg ha h32 h200
 have hv:putD d n t=d:=by unfold putD;rw[ii hp]
 rw[hv];have hd2:=hd;obtain⟨vs,vw,rfl,hs,hw,n1,n2⟩:=hd;obtain⟨a,cap,rfl,_⟩:=hs.form;obtain⟨b,bcap,rfl,_⟩:=hw.form;replace hd2:=hid hd2;clear hs hw hv;by_cases hg:goodD d=true
 ·rw[hg] at hG;have hle:=((j81 d).1 hg).2.1;by_cases ha:jR6 n=true
  ·rw[ha] at hA;by_cases h32:t.size=32
   ·have e1:((t.size:Int) != 32)=false:=by rw[h32];rfl
    have h200:200<=d.writes.length:=by
     refine ki.1 fun h=>hp ?_;unfold putE;rw[ii (js ⟨hg,ha⟩),ii (js h32),ii h]
    have he:putE d n t=11:=by unfold putE;rw[ii (js ⟨hg,ha⟩),ii (js h32),ij h200]
    have e2:((d.writes.length:Int)==200)=true:=iT.2 aa;rw[he];clear he ha hg h32 hp h200 hle;replace hG:=hid hG;replace hA:=hid hA;go_enter Tryz.func49,Tryz.ntmps49
    go_wp2_with (first|(go_at_call 52;refine(hG.out _ (hd2.out.below aj)).mono ?_;rintro e w1 ⟨rfl,hb1⟩;obtain⟨hbc,hbf⟩:=j51 hb1;have hbz:=hb1.size;try simp only[iN,iJ,World.size_drew] at hbz;have hz0:=ir (n:=w.heap.size) aa hbz;have hz1:=ir (n:=w.heap.size+1) aa hbz)|(go_at_call 61;refine(hA.out _).mono ?_;rintro e w2 ⟨rfl,rfl⟩))
    exact iL (v:=.tuple #[.agg #[.slice a d.safe.length cap,.slice b d.writes.length bcap],.int .i64 11]) bS rfl ⟨_,rfl,hd2.out.below aj,hd2.out.same _,aj⟩
   ·have e1:((t.size:Int) != 32)=true:=jd.2 aa;have he:putE d n t=1:=by unfold putE;rw[ii (js ⟨hg,ha⟩),ij h32]
    rw[he];clear he ha hg h32 hp hle;replace hG:=hid hG;replace hA:=hid hA;go_enter Tryz.func49,Tryz.ntmps49
    go_wp2_with (first|(go_at_call 52;refine(hG.out _ (hd2.out.below aj)).mono ?_;rintro e w1 ⟨rfl,hb1⟩;obtain⟨hbc,hbf⟩:=j51 hb1;have hbz:=hb1.size;try simp only[iN,iJ,World.size_drew] at hbz;have hz0:=ir (n:=w.heap.size) aa hbz;have hz1:=ir (n:=w.heap.size+1) aa hbz)|(go_at_call 61;refine(hA.out _).mono ?_;rintro e w2 ⟨rfl,rfl⟩))
    exact iL (v:=.tuple #[.agg #[.slice a d.safe.length cap,.slice b d.writes.length bcap],.int .i64 1]) bS rfl ⟨_,rfl,hd2.out.below aj,hd2.out.same _,aj⟩
  ·have he:putE d n t=2:=by unfold putE;rw[ij (fun hh=>ha hh.2)]
   rw[he];rw[iW _|>.mp ha] at hA;clear ha hg he hp hle;replace hG:=hid hG;replace hA:=hid hA;go_enter Tryz.func49,Tryz.ntmps49
   go_wp2_with (first|(go_at_call 52;refine(hG.out _ (hd2.out.below aj)).mono ?_;rintro e w1 ⟨rfl,hb1⟩;obtain⟨hbc,hbf⟩:=j51 hb1;have hbz:=hb1.size;try simp only[iN,iJ,World.size_drew] at hbz;have hz0:=ir (n:=w.heap.size) aa hbz;have hz1:=ir (n:=w.heap.size+1) aa hbz)|(go_at_call 61;refine(hA.out _).mono ?_;rintro e w2 ⟨rfl,rfl⟩))
   exact fQ
 ·have he:putE d n t=2:=by unfold putE;rw[ij (fun hh=>hg hh.1)]
  rw[he];rw[iW _|>.mp hg] at hG;clear hg he hp;replace hG:=hid hG;go_enter Tryz.func49,Tryz.ntmps49
  go_wp2_with (go_at_call 52;refine(hG.out _ (hd2.out.below aj)).mono ?_;rintro e w1 ⟨rfl,hb1⟩;obtain⟨hbc,hbf⟩:=j51 hb1;have hbz:=hb1.size;try simp only[iN,iJ,World.size_drew] at hbz;have hz0:=ir (n:=w.heap.size) aa hbz;have hz1:=ir (n:=w.heap.size+1) aa hbz)
  exact fQ
theorem eP{A:Prop}(h:A:=by
 clear hg h;replace hG:=hid hG;go_enter Tryz.func19,Tryz.ntmps19
 go_wp2_with (go_at_call 52;refine(hG.out _ (hd2.out.below aj)).mono ?_;rintro e w1 ⟨rfl,hb1⟩;obtain⟨hbc,hbf⟩:=j51 hb1;have hbz:=hb1.size;try simp only[iN,iJ,World.size_drew] at hbz;have hz0:=ir (n:=w.heap.size) aa hbz;have hz1:=ir (n:=w.heap.size+1) aa hbz)
 exact iL (v:=.tuple #[.agg #[.slice a d.safe.length cap,.slice b d.writes.length bcap],.int .i64 2]) (by simp[results,Tryz.results19,go_sem,hbc]) rfl ⟨_,rfl,hd2.out.below aj,hd2.out.same _,aj⟩):A:=h
theorem jl2(d : Dsk)(draw : Int)(v : Value)(w : World)(hd : j_7 w v d)(h : ¬ (goodD d = true /\ 0 <= draw)) :Calls Tryz.prog 19 #[v,.int .i64 draw] w fun e w'=>∃v',e=.returned (.tuple #[v',.int .i64 (crashE d draw)])/\j_7 w' v' (crashD d draw)/\js6 w.heap.size w' v v' d (crashD d draw)/\Below w.heap.size w w':=by
 have hG:=fun w (hh:j_7 w v d)=>j29 d v w hh;have hd2:=hd;obtain⟨vs,vw,rfl,hs,hw,n1,n2⟩:=hd;obtain⟨a,cap,rfl,ca1,ca2⟩:=hs.form;obtain⟨b,bcap,rfl,cb1,cb2⟩:=hw.form;have he:crashE d draw=2:=by unfold crashE;rw[ii h]
 have hv:crashD d draw=d:=by unfold crashD;rw[ii h]
 rw[hv,he];clear he hv hs hw;replace hd2:=hid hd2;by_cases hg:goodD d=true
 ·have hneg:draw<0:=Int.not_le.1 (fun hh=>h ⟨hg,hh⟩);rw[hg] at hG;exact eP
 ·rw[iW _|>.mp hg] at hG;exact eP
theorem jt3(d : Dsk)(x : Nat)(v : Value)(w : World)(hd : j_7 w v d)(hg : goodD d = true)(hx : x <= 9223372036854775807) :Calls Tryz.prog 19 #[v,.int .i64 (x:Int)] w fun e w'=>∃v',e=.returned (.tuple #[v',.int .i64 0])/\j_7 w' v' ⟨crashL d x d.safe.length,[]⟩/\js6 w.heap.size w' v v' d ⟨crashL d x d.safe.length,[]⟩/\Below w.heap.size w w':=by
 have hG:=fun w (hh:j_7 w v d)=>j29 d v w hh;have hd2:=hd;obtain⟨vs,vw,rfl,hs,hw,n1,n2⟩:=hd;obtain⟨a,cap,rfl,ca1,ca2⟩:=hs.form;obtain⟨b,bcap,rfl,cb1,cb2⟩:=hw.form;rw[hg] at hG;obtain⟨g1,g2,_,_⟩:=(j81 d).1 hg;clear hg
 have hA:∀(m:Nat) (hm:m<d.safe.length) w (hh:j_7 w (.agg #[.slice a d.safe.length cap,.slice b d.writes.length bcap]) d),Calls Tryz.prog 53 #[.agg #[.slice a d.safe.length cap,.slice b d.writes.length bcap],.int .i64 (m:Int)] w fun e w'=>∃v',e=.returned v'/\Wb.Own j42 w.heap.size 9 1 w' v' (textsAt d m)/\Below w.heap.size w w':=fun m hm w hh=>by
  rw[jF4 d hm];exact jw7 d m _ w hh hm g2
 have hget:=fun(k:Nat)=>(ix (l_ _ (j04 d k))).trans (congrArg some (jA2 d x k (l_ _ (j04 d k))));have hpos:=fun(k:Nat)=>j04 d k;have hle:=fun(k:Nat)=>jp9 d k;have hdr:=fun(k:Nat)=>ji7 d x k;have hds:=fun(k:Nat)=>jA9 d x k;have hcs:=fun(k:Nat)=>jA4 d x k;have hcl:=fun(k:Nat)=>jP7 d x k;replace hd2:=hid hd2;replace hG:=hid hG;replace hA:=hid hA;replace hget:=hid hget;replace hpos:=hid hpos;replace hle:=hid hle;replace hdr:=hid hdr;replace hds:=hid hds;replace hcs:=hid hcs;replace hcl:=hid hcl;replace g1:=hid g1;clear hs hw;go_enter Tryz.func19,Tryz.ntmps19
 go_wp2_with (go_at_call 52;refine(hG.out _ (hd2.out.below aj)).mono ?_;rintro e w1 ⟨rfl,hb1⟩;obtain⟨hbc,hbf⟩:=j51 hb1;have hbz:=hb1.size;try simp only[iN,iJ,World.size_drew] at hbz;have hz0:=ir (n:=w.heap.size) aa hbz;have hz1:=ir (n:=w.heap.size+1) aa hbz;have k0:Blk w1 w.heap.size #[.slice a d.safe.length cap,.slice b d.writes.length bcap] 44:=((kk3 w _ _).alloc _).step hb1;have k1:Blk w1 (w.heap.size+1) #[.slice none 0 0,.slice none 0 0] 44:=(kl8 (w:=w.alloc _) ag).step hb1;have hnx3:Below w.heap.size w w1:=aj;have lt1:=k1.lt;have lt0:=k0.lt;have c0:=k0.cell 0;have c1:=k0.cell 1;simp only[Zga,Zgb,Zgc] at c0 c1;clear hb1 hbc hbf)
 go_loopw [1,22] (fun s1 i wr=>∃k:Nat,k<=d.safe.length/\i=.int .i64 k/\s1=.int .i64 (drawAt d x k:Nat)/\ ∃vo,Wb.Own j42 (w1.heap.size+1) 9 1 wr vo (crashL d x k)/\Blk wr w.heap.size #[.slice a d.safe.length cap,.slice b d.writes.length bcap] 44/\Blk wr (w.heap.size+1) #[.slice none 0 0,.slice none 0 0] 44/\Blk wr w1.heap.size #[vo,.slice none 0 0] 44/\Below w.heap.size w wr) (fun _ i _=>d.safe.length-(intOf i).toNat)
 case atStart=>exact⟨0,iq _,rfl,rfl,_,Own.nil _ _ _ _ _,k0.alloc _,k1.alloc _,kk3 _ _ _,j63 hnx3 aa _⟩
 case round=>
  clear k0 k1 hnx3 lt0 lt1 c0 c1;obtain⟨k,hk,rfl,rfl,vo,hown,k0,k1,k2,hnx⟩:=hrel;obtain⟨ao,capo,rfl⟩:=hown.form;have lt0:=k0.lt;have lt1:=k1.lt;have lt2:=k2.lt;have c0:=k0.cell 0;have c1:=k0.cell 1;have c2:=k1.cell 0;have c3:=k1.cell 1;have c4:=k2.cell 0;have c5:=k2.cell 1;simp only[Zga,Zgb,Zgc] at c0 c1 c2 c3 c4 c5;by_cases hlt:k<d.safe.length
  ·have hA:=hA.out k hlt;have hget:=hget.out k;have hpos:=hpos.out k;have hle:=hle.out k;have hdr:=hdr.out k;have hds:=hds.out k;have hcs:=hcs.out k;have hml:=hcl.out k;generalize drawAt d x k=y at*;have hmx:=l_ y hpos;have hmi:((y:Int)%((textsAt d k).length:Int))=((y%(textsAt d k).length:Nat):Int):=rfl;have hmle:y%(textsAt d k).length<=y:=Nat.mod_le _ _
   have hdi:(((y-y%(textsAt d k).length:Nat):Int)/((textsAt d k).length:Int))=((y/(textsAt d k).length:Nat):Int):=by
    rw[<-Int.natCast_ediv];congr 1;have h1:=Nat.div_add_mod y (textsAt d k).length;have h2:y-y%(textsAt d k).length=(textsAt d k).length*(y/(textsAt d k).length):=aa;rw[h2,Nat.mul_div_cancel_left _ hpos]
   rw[<-hds] at hdi;have hys:drawAt d x (k+1)<=y:=by rw[hds];exact Nat.div_le_self _ _
   generalize hye:drawAt d x (k+1)=y2 at*;replace hye:=hid hye;clear hds;generalize y%(textsAt d k).length=q at*;have hsu:(y:Int)-(q:Int)=((y-q:Nat):Int):=aa;generalize crashAt d x k=t at*;generalize textsAt d k=ls at*;generalize hym:y-q=ym at*;have hyl:ym<=y:=aa;replace hym:=hid hym;replace hget:=hid hget;replace hcs:=hid hcs;replace hA:=hid hA;generalize crashL d x k=Mk at*;have hwq:IntKind.i64.wrap (y2:Int)=y2:=iz _ aa;have hws:IntKind.i64.wrap (ym:Int)=ym:=iz _ aa;have hne0:((ls.length:Int)==0)=false:=ik.2 aa;have hmk:Mk.length<=37:=by have:=g1.out;omega
   have hq2:(q:Int)<(ls.length:Int):=aa;replace hml:=hid hml
   go_wp2_with (go_at_call 53;(refine(hA.out _ (hd2.out.below (by with_reducible exact hnx))).mono ?_;rintro e w3 ⟨v3,rfl,hown3,hb3⟩;obtain⟨a3,cap3,rfl⟩:=hown3.form;obtain⟨b3,off3,rfl,d3⟩:=kl6 (fun x=>.string x) (fun _=>rfl) hown3.reads hmx;have hgt:=hget.out;rw[ix hmx] at hgt;simp only[iO] at hgt;rw[hgt] at d3;clear hgt;have lt3:=i0 _ _ d3;dsimp only at lt3;have k0:=k0.step hb3;have k1:=k1.step hb3;have k2:=k2.step hb3;have hnx3:=hnx.trans (hb3.mono aa);have hown:=hown.below hb3;have c4:=k2.cell 0;have f4:=k2.free 0;simp only[Zga,Zgb,Zgc] at c4;have lt2:=k2.lt))
   go_region_law (first| (refine jZ_ ay _ _ 41 ay (w1.heap.size+1) _ 1 16 j89 jQ0 ((hown.alloc _).drew) ay [t] (kj5 (f:=j42) (g:=w3.heap.size) [t] ((kl8 (w:=w3) rfl).drew) bV) ay (by(try simp);omega) (by(try simp);unfold maxLen;omega) (by(try simp);omega) ?_;intro v4 w4 hown4 hb4 _;obtain⟨a4,cap4,rfl⟩:=hown4.form;have k4:=((k2.alloc _).drew).below hb4 aa;have f5:=k4.cell 0;simp only[Zga,Zgb,Zgc] at f5;have f6:=k4.free 0))
   all_goals
    go_wp2
    go_roundw
    case rel=>
     rw[kR1,<-hcs.out] at hown4;have hml2:=hml.out;exact⟨k+1,aa,an,by rw[hye.out],_,hown4.setCell (p:=⟨w1.heap.size,0,none⟩) ag _,((k0.alloc _).drew.below hb4 aa).set_other _ _ ah,((k1.alloc _).drew.below hb4 aa).set_other _ _ ah,k4.set 0 _,((j63 hnx3 aa _).drew.trans (hb4.mono aa)).setCell ah _⟩
    case measure=>simp[intOf];omega
  ·obtain rfl:k=d.safe.length:=by omega
   have f1:=k1.free 0;have f2:=k1.free 1;have hmm:=hcl.out d.safe.length;replace hmm:=hid hmm;go_wp2;have hF:Below w.heap.size w ((wr.setCell ⟨w.heap.size+1,0,none⟩ (.slice ao (crashL d x d.safe.length).length capo)).setCell ⟨w.heap.size+1,1,none⟩ (.slice none 0 0)):=(hnx.setCell ag _).setCell ag _;have ho:=(hown.setCell (p:=⟨w.heap.size+1,0,none⟩) ah (.slice ao (crashL d x d.safe.length).length capo)).setCell (p:=⟨w.heap.size+1,1,none⟩) ah (.slice none 0 0);refine iL (v:=.tuple #[.agg #[.slice ao (crashL d x d.safe.length).length capo,.slice none 0 0],.int .i64 0]) (by simp[results,Tryz.results19,go_sem,c2,c3]) rfl ⟨_,rfl,⟨_,_,rfl,ho.reads,RL.nil _ _,by rw[hmm.out];exact n1,ag⟩,⟨_,_,_,_,rfl,rfl,ho.slot aa,.nil⟩,hF⟩
theorem jt2(d : Dsk)(draw : Int)(v : Value)(w : World)(hd : j_7 w v d)(hx : draw <= 9223372036854775807) :Calls Tryz.prog 19 #[v,.int .i64 draw] w fun e w'=>∃v',e=.returned (.tuple #[v',.int .i64 (crashE d draw)])/\j_7 w' v' (crashD d draw)/\js6 w.heap.size w' v v' d (crashD d draw)/\Below w.heap.size w w':=by
 by_cases h:goodD d=true/\0<=draw
 ·obtain⟨hg,h0⟩:=h;have he:crashE d draw=0:=by unfold crashE;rw[ij ⟨hg,h0⟩]
  have hv:crashD d draw=⟨crashL d draw.toNat d.safe.length,[]⟩:=by unfold crashD;rw[ij ⟨hg,h0⟩]
  rw[he,hv];have:=jt3 d draw.toNat v w hd hg aa;rwa [lK h0] at this
 ·exact jl2 d draw v w hd h
end Go.Proofs.YtlecmdajpfkaeaaGreatDoor