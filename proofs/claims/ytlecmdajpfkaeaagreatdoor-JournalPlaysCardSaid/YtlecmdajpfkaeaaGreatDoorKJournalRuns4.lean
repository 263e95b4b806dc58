/- Parts of the proof. -/
import Derived.Test.YtlecmdajpfkaeaaGreatDoorKJournalRuns3
import Derived.Deep.MidRow
import Derived.Deep.DeepAppendWide
set_option linter.unusedVariables false
set_option linter.unusedSimpArgs false
set_option maxRecDepth 100000
set_option maxHeartbeats 40000000
namespace Wb
open Go Go.RowKit
structure Mv(S:List Nat)(w w':World):Prop where
 os:w'.os=w.os
 tape:w'.tape=w.tape
 output:w'.output=w.output
 size:w.heap.size<=w'.heap.size
 block:∀k,k<w.heap.size->k∉S->w'.heap[k]? =w.heap[k]?
theorem Mv.refl(S:List Nat)(w:World):Mv S w w:=⟨rfl,rfl,rfl,iy _,fun _ _ _=>rfl⟩
theorem Mv.below{w w':World}(h:Mv [] w w'):Below w.heap.size w w':=⟨h.os,h.tape,h.output,h.size,fun k hk=>h.block k hk ag⟩
theorem kj0{S:List Nat}{w w':World}(h:Below w.heap.size w w'):Mv S w w':=⟨h.os,h.tape,h.output,h.size,fun k hk _=>h.block k hk⟩
theorem kl_{g:Nat}{w w':World}(h:w.grownBy w' (some g)):Mv [g] w w':=⟨h.os,h.tape,h.output,h.size,fun k hk hn=>h.block k hk dN⟩
theorem Mv.then{S S':List Nat}{a b c:World}(h:Mv S a b)(h2:Mv S' b c)(hs:∀k,k∈S'->k∈S\/a.heap.size<=k):Mv S a c:=
 ⟨h2.os.trans h.os,h2.tape.trans h.tape,h2.output.trans h.output,i3 h.size h2.size,fun k hk hn=>
  (h2.block k (ir hk h.size) fun hh=>(hs k hh).elim hn (fun hh=>aa)).trans (h.block k hk hn)⟩
theorem Mv.trans{S:List Nat}{a b c:World}(h:Mv S a b)(h2:Mv S b c):Mv S a c:=h.then h2 fun _ h=>.inl h
theorem Mv.drew{S:List Nat}{a b:World}(h:Mv S a b):Mv S a b.drew:=⟨h.os,h.tape,h.output,h.size,h.block⟩
theorem Mv.drewN{S:List Nat}{a b:World}(h:Mv S a b)(n:Nat):Mv S a (b.drewN n):=⟨h.os,h.tape,h.output,h.size,h.block⟩
theorem Mv.alloc(S:List Nat)(w:World)(o:Obj):Mv S w (w.alloc o):=kj0 (bal (b0 w) o)
theorem Mv.set(w:World)(p:Addr)(v:Value):Mv [p.block] w (w.setCell p v):=
 ⟨rfl,rfl,rfl,ag,fun k _ hn=>k_ w p v k dN⟩
theorem Mv.sets(g:Nat):∀(vs:List Value) (o:Nat) (w:World),Mv [g] w (w.setCells g o vs)
 | [],_,w=>Mv.refl _ w
 |v::r,o,w=>(Mv.set w ⟨g,o,none⟩ v).trans (Mv.sets g r (o+1) _)
def kL2:Value->Option Nat
 | .slice (some a) _ _=>some a.block
 |_=>none
theorem Sl.mv{S:List Nat}{w w':World}{v:Value}{n:Nat}{cs:List Value}(h:Sl w v n cs)(hm:Mv S w w')(hn:cs=[]\/ ∀b,kL2 v=some b->b∉S):Sl w' v n cs:=by
 obtain⟨a,cap,hv,h1,h2,h3⟩:=h;refine⟨a,cap,hv,h1,h2,?_⟩;rcases hn with hn|hn
 ·exact .inl hn
 rcases h3 with h3|⟨b,off,ha,hc⟩
 ·exact .inl h3
 ·refine .inr ⟨b,off,ha,fun j u hj=>?_⟩;have h4:=hc j u hj;have h5:=i0 w _ h4;rw[<-h4];refine jM (hm.block b h5 (hn b ?_));rw[hv,ha];rfl
theorem Sl.lt{w:World}{v:Value}{n:Nat}{cs:List Value}(h:Sl w v n cs):cs=[]\/ ∀b,kL2 v=some b->b<w.heap.size:=by
 obtain⟨a,cap,hv,h1,h2,h3⟩:=h;rcases h3 with h3|⟨b,off,ha,hc⟩
 ·exact .inl h3
 ·cases cs with
  |nil=>exact .inl rfl
  |cons u r=>
   refine .inr fun b' hb=>?_
   rw[hv,ha] at hb
   cases hb
   exact i0 w _ (hc 0 u rfl)
structure Ent where
 g:Nat
 cs:List Value
 t:TypeId
structure Rd where
 v:Value
 n:Nat
 cs:List Value
def kj2{α:Type}(f:α->List Value)(v:Value)(l:List α):Rd:=⟨v,l.length,l.flatMap f⟩
structure St(S:List Nat)(w0 w:World)(L:List Ent)(R:List Rd):Prop where
 mv:Mv S w0 w
 nd:(L.map Ent.g).Nodup
 blk:∀e∈L,Blk w e.g e.cs.toArray e.t
 own:∀e∈L,e.g∈S\/w0.heap.size<=e.g
 rd:∀r∈R,Sl w r.v r.n r.cs/\(r.cs=[]\/ ∀b,kL2 r.v=some b->∀e∈L,e.g≠b)
section
variable{S:List Nat}{w0 w w':World}{L:List Ent}{R:List Rd}
theorem kk7(S:List Nat)(w0:World):St S w0 w0 [] []:=⟨Mv.refl _ _,List.nodup_nil,(fun _ h=>absurd h jp),(fun _ h=>absurd h jp),(fun _ h=>absurd h jp)⟩
theorem St.drew(h:St S w0 w L R):St S w0 w.drew L R:=⟨h.mv.drew,h.nd,h.blk,h.own,h.rd⟩
theorem St.drewN(h:St S w0 w L R)(n:Nat):St S w0 (w.drewN n) L R:=⟨h.mv.drewN n,h.nd,h.blk,h.own,h.rd⟩
theorem St.below(h:St [] w0 w L R):Below w0.heap.size w0 w:=h.mv.below
theorem Blk.mv{b:Nat}{cs:Array Value}{t:TypeId}(h:Blk w b cs t)(hm:Mv S w w')(hn:b∉S):Blk w' b cs t:=(hm.block b h.lt hn).trans h
theorem St.moved{S':List Nat}(h:St S w0 w L R)(hm:Mv S' w w')(hs:∀k,k∈S'->k∈S\/w0.heap.size<=k)(hL:∀e∈L,e.g∉S')(hR:∀r∈R,r.cs=[]\/ ∀b,kL2 r.v=some b->b∉S'):St S w0 w' L R:=
 ⟨h.mv.then hm hs,h.nd,fun e he=>(h.blk e he).mv hm (hL e he),h.own,fun r hr=>⟨(h.rd r hr).1.mv hm (hR r hr),(h.rd r hr).2⟩⟩
theorem St.call(h:St S w0 w L R)(hb:Below w.heap.size w w'):St S w0 w' L R:=
 h.moved (S':=[]) (kj0 hb) (fun _ h=>absurd h jp) (fun _ _=>jp) (fun _ _=>.inr fun _ _=>jp)
theorem St.addR(h:St S w0 w L R){v:Value}{n:Nat}{cs:List Value}(hv:Sl w v n cs)(hn:cs=[]\/ ∀b,kL2 v=some b->∀e∈L,e.g≠b):St S w0 w L (⟨v,n,cs⟩::R):=
 ⟨h.mv,h.nd,h.blk,h.own,fun r hr=>by
  rcases iS.1 hr with rfl|hr
  ·exact⟨hv,hn⟩
  ·exact h.rd r hr⟩
theorem St.addR0(h:St [] w0 w L R){v:Value}{n:Nat}{cs:List Value}(hv:Sl w0 v n cs):St [] w0 w L (⟨v,n,cs⟩::R):=by
 refine h.addR (hv.below h.below) ?_;rcases hv.lt with hl|hl
 ·exact .inl hl
 ·refine .inr fun b hb e he heq=>?_;have:=hl b hb;rcases h.own e he with ho|ho
  ·cases ho
  ·omega
theorem St.addOwn(h:St S w0 w L R)(hb:Below w.heap.size w w'){α:Type}{f:α->List Value}{e:TypeId}{c:Nat}{v:Value}{l:List α}(ho:Own f w.heap.size e c w' v l):St S w0 w' L (kj2 f v l::R):=by
 refine(h.call hb).addR ho.reads (.inr fun b hbv x hx heq=>?_);have hlt:=(h.blk x hx).lt;obtain⟨_,h2⟩:=ho;rcases h2 with ⟨rfl,_⟩|⟨g,cap,cur,rfl,hbg,_⟩
 ·cases hbv
 ·cases hbv
  have h3:x.g=g:=heq;omega
theorem St.read(h:St S w0 w L R){α:Type}{f:α->List Value}{v:Value}{l:List α}(hr:kj2 f v l∈R):RL f w v l:=(h.rd _ hr).1
theorem St.at_(h:St S w0 w L R){g:Nat}{cs:List Value}{t:TypeId}(he:⟨g,cs,t⟩∈L):Blk w g cs.toArray t:=h.blk _ he
theorem St.cell(h:St S w0 w L R){g:Nat}{cs:List Value}{t:TypeId}(he:⟨g,cs,t⟩∈L)(i:Nat):w.cell? ⟨g,i,none⟩=cs[i]? :=by
 rw[(h.blk _ he).cell i];simp
theorem St.free(h:St S w0 w L R){g:Nat}{cs:List Value}{t:TypeId}(he:⟨g,cs,t⟩∈L)(i:Nat):w.frozen? ⟨g,i,none⟩=false:=(h.blk _ he).free i
theorem St.k0{g:Nat}{cs:List Value}{t:TypeId}(h:St S w0 w (⟨g,cs,t⟩::L) R):Blk w g cs.toArray t:=h.blk ⟨g,cs,t⟩ ag
theorem St.k2{e0 e1:Ent}{g:Nat}{cs:List Value}{t:TypeId}(h:St S w0 w (e0::e1::⟨g,cs,t⟩::L) R):Blk w g cs.toArray t:=h.blk ⟨g,cs,t⟩ ag
theorem St.r0{α:Type}{f:α->List Value}{v:Value}{l:List α}(h:St S w0 w L (kj2 f v l::R)):RL f w v l:=h.read (v:=v) (l:=l) (f:=f) ag
theorem St.r1{r0:Rd}{α:Type}{f:α->List Value}{v:Value}{l:List α}(h:St S w0 w L (r0::kj2 f v l::R)):RL f w v l:=h.read (v:=v) (l:=l) (f:=f) ag
theorem St.r2{r0 r1:Rd}{α:Type}{f:α->List Value}{v:Value}{l:List α}(h:St S w0 w L (r0::r1::kj2 f v l::R)):RL f w v l:=h.read (v:=v) (l:=l) (f:=f) ag
theorem St.alloc(h:St S w0 w L R)(cs:List Value)(t:TypeId):St S w0 (w.alloc (.cells cs.toArray t)) (⟨w.heap.size,cs,t⟩::L) R:=by
 have h1:=h.call (bal (b0 w) (.cells cs.toArray t));refine⟨h1.mv,?_,fun e he=>?_,fun e he=>?_,fun r hr=>⟨(h1.rd r hr).1,?_⟩⟩
 ·rw[jr,kP];refine⟨fun hm=>?_,h.nd⟩;obtain⟨e,he,heq⟩:=jg.1 hm;have:=(h.blk e he).lt;simp only at heq;omega
 ·rcases iS.1 he with rfl|he
  ·exact kk3 w _ _
  ·exact h1.blk e he
 ·rcases iS.1 he with rfl|he
  ·exact .inr h.mv.size
  ·exact h.own e he
 ·rcases(h.rd r hr).1.lt with hl|hl
  ·exact .inl hl
  ·rcases(h.rd r hr).2 with h2|h2
   ·exact .inl h2
   ·refine .inr fun b hb e he=>?_;rcases iS.1 he with rfl|he
    ·have:=hl b hb;show w.heap.size≠b;omega
    ·exact h2 b hb e he
def upd:Nat->List Value->List Value->List Value
 |i+1,vs,c::cs=>c::upd i vs cs
 |0,v::vs,_::cs=>v::upd 0 vs cs
 |_,_,cs=>cs
theorem jj5:∀(i:Nat) (vs cs:List Value),i+vs.length<=cs.length->upd i vs cs=cs.take i++vs++cs.drop (i+vs.length)
 |i+1,vs,c::cs,h=>by
  have:=jj5 i vs cs (by simp at h;omega);simp only[upd,this,List.take_succ_cons,iu,jh,jF];rw[show i+1+vs.length=(i+vs.length)+1 from aa,List.drop_succ_cons]
 |0,[],cs,h=>by cases cs<;>simp[upd]
 |0,v::vs,c::cs,h=>by
  have:=jj5 0 vs cs (by simp at h;omega);simp only[jm,List.take_zero,iw] at this;simp[upd,this]
 |i+1,vs,[],h=>by simp at h
 |0,v::vs,[],h=>by simp at h
theorem fk{A:Prop}(h:A:=by
 rcases h2 with h2|h2
 ·exact⟨h1.mv hm (.inl h2),.inl h2⟩
 ·refine⟨h1.mv hm (.inr fun b hb hbg=>?_),.inr fun b hb e he=>?_⟩
  ·obtain rfl:b=g:=by simpa using hbg
   exact h2 b hb _ hg rfl
  ·rcases hmem e he with rfl|⟨he,he2⟩
   ·exact h2 b hb ⟨g,cs,t⟩ hg
   ·exact h2 b hb e he2):A:=h
theorem fM{A:Prop}(h:A:=by
 simp only[iK,iS] at he⊢;rcases he with he|he|he
 ·exact .inr ⟨.inl he,.inl he⟩
 ·exact .inl he
 ·exact .inr ⟨.inr he,.inr (.inr he)⟩):A:=h
theorem gd{A:Prop}(h:A:=by
 rcases he with he|he
 ·exact n3 _ (jP he) g ag heq
 ·have h5:=jP (f:=Ent.g) he;rw[heq] at h5;exact n2.1 h5):A:=h
theorem St.wrote(A B:List Ent){g:Nat}{cs:List Value}{t:TypeId}(h:St S w0 w (A++⟨g,cs,t⟩::B) R)(i:Nat)(vs:List Value)(hi:i+vs.length<=cs.length):St S w0 (w.setCells g i vs) (A++⟨g,upd i vs cs,t⟩::B) R:=by
 have hm:=Mv.sets g vs i w;have hg:⟨g,cs,t⟩∈A++⟨g,cs,t⟩::B:=ag;have hnd:=h.nd;rw[jC,jr,ly] at hnd;obtain⟨n1,n2,n3⟩:=hnd;rw[kP] at n2
 have hne:∀e,e∈A\/e∈B->e.g≠g:=fun e he heq=>by
  exact gd
 have hsame:(A++⟨g,upd i vs cs,t⟩::B).map Ent.g=(A++⟨g,cs,t⟩::B).map Ent.g:=ag
 have hmem:∀e,e∈A++(⟨g,upd i vs cs,t⟩:Ent)::B->e=⟨g,upd i vs cs,t⟩\/((e∈A\/e∈B)/\e∈A++(⟨g,cs,t⟩:Ent)::B):=fun e he=>by
  exact fM
 refine⟨h.mv.then hm (fun k hk=>?_),by rw[hsame];exact h.nd,fun e he=>?_,fun e he=>?_,fun r hr=>?_⟩
 ·obtain rfl:k=g:=by simpa using hk
  exact h.own _ hg
 ·rcases hmem e he with rfl|⟨he,he2⟩
  ·have:=Blk.sets (t:=t) (b:=g) vs i w cs.toArray (h.blk _ hg) (by simpa using hi);rw[<-jj5 i vs cs hi] at this;exact this
  ·exact kl0 (hne e he) vs i w (h.blk e he2)
 ·rcases hmem e he with rfl|⟨he,he2⟩
  ·exact h.own ⟨g,cs,t⟩ hg
  ·exact h.own e he2
 ·obtain⟨h1,h2⟩:=h.rd r hr;exact fk
theorem kk9(A B:List Ent){g:Nat}{cs cs':List Value}{t:TypeId}(h:St S w0 w (A++⟨g,cs,t⟩::B) R)(hm:Mv [g] w w')(hk:Blk w' g cs'.toArray t):St S w0 w' (A++⟨g,cs',t⟩::B) R:=by
 have hg:⟨g,cs,t⟩∈A++⟨g,cs,t⟩::B:=ag;have hnd:=h.nd;rw[jC,jr,ly] at hnd;obtain⟨n1,n2,n3⟩:=hnd;rw[kP] at n2
 have hne:∀e,e∈A\/e∈B->e.g≠g:=fun e he heq=>by
  exact gd
 have hsame:(A++⟨g,cs',t⟩::B).map Ent.g=(A++⟨g,cs,t⟩::B).map Ent.g:=ag
 have hmem:∀e,e∈A++(⟨g,cs',t⟩:Ent)::B->e=⟨g,cs',t⟩\/((e∈A\/e∈B)/\e∈A++(⟨g,cs,t⟩:Ent)::B):=fun e he=>by
  exact fM
 refine⟨h.mv.then hm (fun k hk=>?_),by rw[hsame];exact h.nd,fun e he=>?_,fun e he=>?_,fun r hr=>?_⟩
 ·obtain rfl:k=g:=by simpa using hk
  exact h.own _ hg
 ·rcases hmem e he with rfl|⟨he,he2⟩
  ·exact hk
  ·exact(h.blk e he2).mv hm (by simpa using hne e he)
 ·rcases hmem e he with rfl|⟨he,he2⟩
  ·exact h.own ⟨g,cs,t⟩ hg
  ·exact h.own e he2
 ·obtain⟨h1,h2⟩:=h.rd r hr;exact fk
end
class AggT (P:Program) (T:TypeId) (n:outParam Nat):Prop where
 row:∃d,P.underlying T=some d/\d.isRow=true
 size:(P.info? T).map (·.size)=some n
class OneT (P:Program) (T:TypeId):Prop where
 row:∃d,P.underlying T=some d/\d.isRow=false
 size:(P.info? T).map (·.size)=some 1
class ZeroT (P:Program) (T:TypeId) (cs:outParam (List Value)):Prop where
 zero:((P.info? T).bind (·.zero)).map (·.cells)=some cs.toArray
def nth:List Value->Nat->Option Value
 | [],_=>none
 |v::_,0=>some v
 |_::r,n+1=>nth r n
theorem jH8:∀(l:List Value) (i:Nat),nth l i=l[i]?
 | [],i=>by simp[nth]
 |v::r,0=>rfl
 |v::r,i+1=>by rw[List.getElem?_cons_succ];exact jH8 r i
inductive EvR(a:Act):Operand->Value->Prop
 |tmp {l:List Value} {d:List Deferred} {n:Nat} {v:Value}:a=⟨l.toArray,d⟩->nth l n=some v->EvR a (.tmp n) v
 |const (v:Value):EvR a (.const v) v
theorem EvR.eval{a:Act}{x:Operand}{v:Value}(h:EvR a x v):a.eval x=v:=by
 cases h with
 |tmp ha hv=>
  subst ha
  rw[jH8] at hv
  simp[Act.eval,hv]
 |const v=>rfl
section
variable{P:Program}{ops:Array Oper}{Q:Exit->Act->World->Prop}{o:Oper}{rest:List Oper}{a:Act}{S:List Nat}{w0 w:World}{L:List Ent}{R:List Rd}
theorem jS7{T:TypeId}[hT:OneT P T]{b i:Nat}{v:Value}(hc:w.cell? ⟨b,i,none⟩=some v):(loadVar T ⟨b,i,none⟩).run P w=.ok v w:=by
 obtain⟨⟨d,hu,hd⟩,_⟩:=hT
 have hagg:(isAgg T).run P w=.ok false w:=by
  unfold isAgg;rw[Sem.run_bind,jR hu w]
  cases d<;>simp_all
 have hl:(load ⟨b,i,none⟩).run P w=.ok v w:=by
  have:=run_loadCells_list (P:=P) w ⟨b,i,none⟩ [v] (fun j u hj=>by
   cases j with
   |zero=>simp at hj;subst hj;rw[Addr.add_mid];exact hc
   |succ j=>simp at hj)
  simp only[loadCells,iB,iC,loadCellsFrom,Sem.run_bind,Addr.add_mid,Nat.add_zero] at this
  cases hr:(load ⟨b,i,none⟩).run P w with
  |ok x w'=>
   rw[hr] at this
   simp only[Result.andThen_ok,Sem.run_pure] at this
   simp at this
   obtain⟨h1,h2⟩:=this
   rw[h1,h2]
  |halt x w'=>rw[hr] at this;simp at this
 simp only[loadVar,Sem.run_bind,hagg,Result.andThen_ok];exact hl
def ks5:Op->Bool
 | .load _ _=>true
 |_=>false
def ky2:Op->Bool
 | .store _ _ _=>true
 |_=>false
def kn0:Op->Bool
 | .load _ _=>true
 | .store _ _ _=>true
 | .alloc _=>true
 | .box _ _=>true
 |_=>false
theorem j66(_:kn0 o.op=true)(h:wpList P ops Q (o::rest) a w):wpList P ops Q (o::rest) a w:=h
theorem jZ7(_:ks5 o.op=true)(h:wpList P ops Q (o::rest) a w):wpList P ops Q (o::rest) a w:=h
theorem j10(_:ky2 o.op=true)(h:wpList P ops Q (o::rest) a w):wpList P ops Q (o::rest) a w:=h
theorem kx_(hw : Region.wanted o (yielded ops a.tmps) = true)(T : TypeId)(x : Operand)(ho : o.op = .load T x){g i : Nat}(hx : a.eval x = .pointer (some ⟨g, i, none⟩))[OneT P T](X : St S w0 w L R){cs:List Value} {t:TypeId} (he:⟨g,cs,t⟩∈L) {v:Value} (hv:nth cs i=some v) (h:wpList P ops Q rest (a.put o.dst v) w):wpList P ops Q (o::rest) a w:=
 jG hw fun K hK=>by
  have hc:w.cell? ⟨g,i,none⟩=some v:=by rw[X.cell he,<-jH8];exact hv
  unfold Oper.wp execOp;simp only[ho,hx,Instr.loadAt,Instr.sureAddr,Sem.run_bind,Sem.run_pure,Result.andThen_ok,jS7 (T:=T) hc];exact hK _ _ h
theorem kx0(hw : Region.wanted o (yielded ops a.tmps) = true)(T : TypeId)(x : Operand)(ho : o.op = .load T x){g i : Nat}(hx : a.eval x = .pointer (some ⟨g, i, none⟩)){n : Nat}[hT : AggT P T n](X : St S w0 w L R){cs:List Value} {t:TypeId} (he:⟨g,cs,t⟩∈L) (hi:i+n<=cs.length) (h:wpList P ops Q rest (a.put o.dst (.agg ((cs.drop i).take n).toArray)) w):wpList P ops Q (o::rest) a w:=by
 obtain⟨⟨d,hu,hd⟩,hs⟩:=hT;refine jG hw fun K hK=>wp_load_mid T x ho g i hx ((cs.drop i).take n) d (fun j v hj=>?_) hu hd (by rw[hs,iA,iX];congr 1;omega) (hK _ _ h);rw[X.cell he];rw[jB] at hj
 split at hj
 ·rw[lU] at hj;exact hj
 ·cases hj
theorem St.there(X:St S w0 w L R){g:Nat}{cs:List Value}{t:TypeId}(he:⟨g,cs,t⟩∈L){i n:Nat}(h:i+n<=cs.length):w.there g i n:=fun j hj=>by
 refine⟨?_,X.free he _⟩;rw[X.cell he,ix aa];rfl
theorem kG0(A B : List Ent){g : Nat}{cs : List Value}{t : TypeId}(hw : Region.wanted o (yielded ops a.tmps) = true)(T : TypeId)(x y : Operand)(ho : o.op = .store T x y){i : Nat}(hx : a.eval x = .pointer (some ⟨g, i, none⟩)){n : Nat}[hT : AggT P T n]{vs:List Value} (hy:a.eval y=.agg vs.toArray) (X:St S w0 w (A++⟨g,cs,t⟩::B) R) (hn:vs.length=n) (hi:i+vs.length<=cs.length) (h1:vs.all (·.oneCell')=true)(h:∀w',St S w0 w' (A++⟨g,upd i vs cs,t⟩::B) R->wpList P ops Q rest (a.put o.dst undef) w'):wpList P ops Q (o::rest) a w:=
 jG hw fun K hK=>wp_store_mid T x y ho g i vs.toArray hx hy (X.there (cs:=cs) (t:=t) ag (by simpa using hi)) (by rw[hT.size];simp[hn]) b_ (hK _ _ (h _ (by simpa using X.wrote A B i vs hi)))
theorem jE4{T:TypeId}[hT:OneT P T]{b i:Nat}{v:Value}(ht:w.there b i 1)(h1:v.oneCell'=true)(hc:v.cells= #[v]):(storeVar T ⟨b,i,none⟩ v).run P w=.ok () (w.setCells b i [v]):=by
 have:=run_storeCells_cells (P:=P) b i [v] 0 w (fun j hj=>by simpa using(ht j (by simpa using hj)).1) (fun j hj=>by simpa using(ht j (by simpa using hj)).2) (fun u hu=>by simp at hu;subst hu;exact h1);have hi:=hT.size
 cases hq:P.info? T with
 |none=>simp[hq] at hi
 |some x=>
  have hs:x.size=1:=by simpa [hq] using hi
  simp only[Nat.add_zero] at this
  simp[storeVar,Go.sizeOf,typeInfo,hq,hc,hs,this]
theorem kG_(A B : List Ent){g : Nat}{cs : List Value}{t : TypeId}(hw : Region.wanted o (yielded ops a.tmps) = true)(T : TypeId)(x y : Operand)(ho : o.op = .store T x y){i : Nat}(hx : a.eval x = .pointer (some ⟨g, i, none⟩))[hT : OneT P T]{v:Value} (hy0:EvR a y v) (X:St S w0 w (A++⟨g,cs,t⟩::B) R) (hi:i<cs.length) (h1:v.oneCell'=true) (hc:v.cells= #[v])(h:∀w',St S w0 w' (A++⟨g,upd i [v] cs,t⟩::B) R->wpList P ops Q rest (a.put o.dst undef) w'):wpList P ops Q (o::rest) a w:=
 jG hw fun K hK=>by
  have hy:=hy0.eval;have ht:=X.there (g:=g) (cs:=cs) (t:=t) (i:=i) (n:=1) ag aa;unfold Oper.wp execOp;simp only[ho,hx,hy,Instr.storeAt,Instr.sureAddr,Sem.run_bind,Sem.run_pure,Result.andThen_ok,jE4 (T:=T) ht h1 hc];exact hK _ _ (h _ (by simpa using X.wrote A B i [v] (show i+1<=cs.length from hi)))
theorem jy4(hw : Region.wanted o (yielded ops a.tmps) = true)(T : TypeId)(ho : o.op = .alloc T){cs : List Value}[hT : ZeroT P T cs](X : St S w0 w L R)(h:∀g w',St S w0 w' (⟨g,cs,T⟩::L) R->wpList P ops Q rest (a.put o.dst (.pointer (some ⟨g,0,none⟩))) w'):wpList P ops Q (o::rest) a w:=
 jG hw fun K hK=>by
  have hz:=hT.zero
  cases hq:P.info? T with
  |none=>simp[hq] at hz
  |some x=>
   cases hs:x.zero with
   |none=>simp[hq,hs] at hz
   |some z=>
    have hc:z.cells=cs.toArray:=by simpa [hq,hs] using hz
    unfold Oper.wp execOp
    simp only[ho,Instr.alloc,zeroValue,typeInfo,newVar,newRow,newObj,Sem.run_bind,Sem.run_pure,Result.andThen_ok]
    simp[hq,hs,hc]
    exact hK _ _ (h _ _ (X.alloc cs T))
theorem ky9(hw : Region.wanted o (yielded ops a.tmps) = true)(T : TypeId)(x : Operand)(ho : o.op = .box T x){v : Value}(hx0 : EvR a x v){cs : List Value}(hc : v.cells = cs.toArray)(X : St S w0 w L R)(h:∀g w',St S w0 w' (⟨g,cs,T⟩::L) R->wpList P ops Q rest (a.put o.dst (.pointer (some ⟨g,0,none⟩))) w'):wpList P ops Q (o::rest) a w:=
 jG hw fun K hK=>by
  have hx:=hx0.eval;unfold Oper.wp execOp;simp only[ho,hx,hc,Instr.box,newVar,newRow,newObj,Sem.run_bind,Sem.run_pure,Result.andThen_ok];exact hK _ _ (h _ _ (X.alloc cs T))
theorem St.whole(X:St S w0 w L R){T:TypeId}{n:Nat}[hT:AggT P T n]{g:Nat}{cs:List Value}{t:TypeId}(he:⟨g,cs,t⟩∈L)(hn:cs.length=n):(loadVar T ⟨g,0,none⟩).run P w=.ok (.agg cs.toArray) w:=by
 obtain⟨⟨d,hu,hd⟩,hs⟩:=hT;exact run_loadVar_mid w g 0 T cs d (fun j v hj=>by rw[jm,X.cell he];exact hj) hu hd (by rw[hs,hn])
theorem j93{fn : Func}{F : Ending -> World -> Prop}{p : Tmp}{T : TypeId}(hr : fn.results = #[.cell p T]){g : Nat}(hp : EvR a (.tmp p) (.pointer (some ⟨g, 0, none⟩))){n : Nat}[hT : AggT P T n](X : St S w0 w L R){cs:List Value} {t:TypeId} (he:⟨g,cs,t⟩∈L) (hn:cs.length=n) (hd:a.defers=[]) (h:F (.returned (.agg cs.toArray)) w):bodyPost P fn F .ret a w:=by
 have hp':a.tmps[p]?.getD undef=.pointer (some ⟨g,0,none⟩):=bN;refine iL (v:=.agg cs.toArray) ?_ hd h;simp[results,hr,hp',asAddr,X.whole (T:=T) he hn]
theorem j47{fn : Func}{F : Ending -> World -> Prop}{p q : Tmp}{T : TypeId}(hr : fn.results = #[.cell p T, .tmp q]){g : Nat}(hp : EvR a (.tmp p) (.pointer (some ⟨g, 0, none⟩))){v : Value}(hq : EvR a (.tmp q) v){n : Nat}[hT : AggT P T n](X : St S w0 w L R){cs:List Value} {t:TypeId} (he:⟨g,cs,t⟩∈L) (hn:cs.length=n) (hd:a.defers=[]) (h:F (.returned (.tuple #[.agg cs.toArray,v])) w):bodyPost P fn F .ret a w:=by
 have hp':a.tmps[p]?.getD undef=.pointer (some ⟨g,0,none⟩):=bN;have hq':a.tmps[q]?.getD undef=v:=cQ;refine iL (v:=.tuple #[.agg cs.toArray,v]) ?_ hd h;simp[results,hr,hp',hq',asAddr,X.whole (T:=T) he hn]
theorem jM0{fn : Func}{F : Ending -> World -> Prop}{p q r : Tmp}{T : TypeId}(hr : fn.results = #[.cell p T, .tmp q, .tmp r]){g : Nat}(hp : EvR a (.tmp p) (.pointer (some ⟨g, 0, none⟩))){v u : Value}(hq : EvR a (.tmp q) v)(hu : EvR a (.tmp r) u){n : Nat}[hT : AggT P T n](X : St S w0 w L R){cs:List Value} {t:TypeId} (he:⟨g,cs,t⟩∈L) (hn:cs.length=n) (hd:a.defers=[]) (h:F (.returned (.tuple #[.agg cs.toArray,v,u])) w):bodyPost P fn F .ret a w:=by
 have hp':a.tmps[p]?.getD undef=.pointer (some ⟨g,0,none⟩):=bN;have hq':a.tmps[q]?.getD undef=v:=cQ;have hu':a.tmps[r]?.getD undef=u:=by have:=hu.eval;simpa [Act.eval] using this
 refine iL (v:=.tuple #[.agg cs.toArray,v,u]) ?_ hd h;simp[results,hr,hp',hq',hu',asAddr,X.whole (T:=T) he hn]
end
theorem zA{α:Type}(l:List α)(i:Nat)(a:α):l.toArray.setIfInBounds i a=(l.set i a).toArray:=ag
theorem zB{α:Type}(x a:α)(l:List α)(i:Nat):(x::l).set (i+1) a=x::l.set i a:=rfl
theorem zC{α:Type}(x a:α)(l:List α):(x::l).set 0 a=a::l:=rfl
theorem zD{α:Type}(x:α)(l:List α)(i:Nat):(x::l).drop (i+1)=l.drop i:=rfl
theorem zE{α:Type}(l:List α):l.drop 0=l:=rfl
theorem zF{α:Type}(x:α)(l:List α)(i:Nat):(x::l).take (i+1)=x::l.take i:=rfl
theorem zG{α:Type}(l:List α):l.take 0=[]:=rfl
theorem Zfl{A:Prop}(h:A:=by repeat(first|exact .head _|apply List.Mem.tail)):A:=h
theorem Zev{A:Prop}(h:A:=by first|exact EvR.const _|exact EvR.tmp rfl rfl):A:=h
def j4_{α:Type}(f:α->List Value)(e:TypeId)(c:Nat)(v:Value)(l:List α)(M:List Ent):Prop:=
 (v=.slice none 0 0/\l=[]/\M=[])\/ ∃g cap rest,v=.slice (some ⟨g,0,none⟩) l.length cap/\l.length<=cap/\cap<=maxLen/\(l.flatMap f++rest).length=cap*c/\M=[⟨g,l.flatMap f++rest,e⟩]
section
variable{α:Type}{f:α->List Value}{e:TypeId}{c:Nat}{v:Value}{l:List α}{M:List Ent}{S:List Nat}{w0 w w':World}{L T:List Ent}{R:List Rd}
theorem j4_.nil(f:α->List Value)(e:TypeId)(c:Nat):j4_ f e c (.slice none 0 0) [] []:=.inl ⟨rfl,rfl,rfl⟩
theorem j4_.form(h:j4_ f e c v l M):∃a cap,v=.slice a l.length cap:=by
 rcases h with ⟨rfl,rfl,_⟩|⟨g,cap,rest,rfl,_⟩
 ·exact⟨none,0,rfl⟩
 ·exact⟨_,_,rfl⟩
theorem j4_.reads(h:j4_ f e c v l M)(hb:∀x∈M,Blk w x.g x.cs.toArray x.t):RL f w v l:=by
 rcases h with ⟨rfl,rfl,rfl⟩|⟨g,cap,rest,rfl,h1,h2,h3,rfl⟩
 ·exact⟨none,0,rfl,iy _,by simp[maxLen],.inl rfl⟩
 ·have hk:=hb _ (iI.2 rfl);refine⟨_,cap,rfl,h1,h2,.inr ⟨g,0,rfl,fun j u hj=>?_⟩⟩;rw[hk.cell];have hlt:j<(l.flatMap f).length:=(i4.1 hj).1;rw[jm];simp only[jv];rw[i8 hlt];exact hj
theorem St.ownRd(X:St S w0 w (L++(M++T)) R)(h:j4_ f e c v l M):RL f w v l:=h.reads fun x hx=>X.blk x bh
theorem St.sub{L2:List Ent}(X:St S w0 w L R)(hs:L2.Sublist L):St S w0 w L2 R:=
 ⟨X.mv,(hs.map _).nodup X.nd,fun x hx=>X.blk x (hs.subset hx),fun x hx=>X.own x (hs.subset hx),fun r hr=>⟨(X.rd r hr).1,(X.rd r hr).2.imp id fun h b hb x hx=>h b hb x (hs.subset hx)⟩⟩
theorem St.ownEnd(X:St S w0 w (L++(M++T)) R)(h:j4_ f e c v l M):St S w0 w (L++T) (kj2 f v l::R):=by
 have X2:St S w0 w (L++T) R:=X.sub (lR (jD _ _) _);refine X2.addR (X.ownRd h) ?_;rcases h with ⟨rfl,rfl,rfl⟩|⟨g,cap,rest,rfl,h1,h2,h3,rfl⟩
 ·exact .inl rfl
 ·refine .inr fun b hb x hx heq=>?_
  cases hb
  have hnd:=X.nd;simp only[jC,jr,jN,ly,kP,iK,jg,iI] at hnd;obtain⟨_,⟨_,_,h5⟩,h6⟩:=hnd;have heq2:x.g=g:=heq;rcases iK.1 hx with hx|hx
  ·exact h6 x.g ⟨x,hx,rfl⟩ g (.inl ag) heq2
  ·exact h5 g ag x.g ⟨x,hx,rfl⟩ heq2.symm
theorem St.push_blk{w1 : World}{g g' : Nat}{cs cs' : List Value}(X : St S w0 w (L ++ ([⟨g, cs, e⟩] ++ T)) R)(hg : w.grownBy w1 (some g))(hb : Blk w1 g' cs'.toArray e)(hg' : g' = g \/ w.heap.size <= g') :St S w0 w1 (L++([⟨g',cs',e⟩]++T)) R:=by
 have hnd:=X.nd;simp only[jC,jr,jN,ly,kP,iK,jg,iI] at hnd;obtain⟨nL,⟨_,nT,h5⟩,h6⟩:=hnd;have ho:=X.own ⟨g,cs,e⟩ ag;have hlt:∀x∈L++T,x.g<w.heap.size:=fun x hx=>(X.blk x (by rcases iK.1 hx with h|h<;>simp[h])).lt;have hneL:∀x∈L,x.g≠g:=fun x hx=>h6 x.g ⟨x,hx,rfl⟩ g (.inl ag);have hneT:∀x∈T,x.g≠g:=fun x hx heq=>h5 g ag x.g ⟨x,hx,rfl⟩ heq.symm
 have hne':∀x∈L++T,x.g≠g':=fun x hx heq=>by
  rcases hg' with rfl|hg'
  ·rcases iK.1 hx with h|h
   ·exact hneL x h heq
   ·exact hneT x h heq
  ·have:=hlt x hx;omega
 have hm:=kl_ hg;have hsz:=X.mv.size;have hR:∀r∈R,r.cs=[]\/ ∀b,kL2 r.v=some b->b≠g:=fun r hr=>(X.rd r hr).2.imp id fun h b hb=>(h b hb ⟨g,cs,e⟩ ag).symm;refine⟨X.mv.then hm (fun k hk=>?_),?_,fun x hx=>?_,fun x hx=>?_,fun r hr=>⟨(X.rd r hr).1.mv hm ((hR r hr).imp id fun h b hb=>by simpa using h b hb),?_⟩⟩
 ·obtain rfl:k=g:=by simpa using hk
  exact ho
 ·simp only[jC,jr,jN,ly,kP,iK,jg,iI];refine⟨nL,⟨⟨ag,List.nodup_nil⟩,nT,?_⟩,?_⟩
  ·rintro a rfl b ⟨x,hx,rfl⟩ heq;exact hne' x bh heq.symm
  ·rintro a ⟨x,hx,rfl⟩ b (rfl|⟨y,hy,rfl⟩) heq
   ·exact hne' x bh heq
   ·exact h6 x.g ⟨x,hx,rfl⟩ y.g (.inr ⟨y,hy,rfl⟩) heq
 ·rcases iK.1 hx with hx|hx
  ·exact(X.blk x bh).mv hm (by simpa using hneL x hx)
  ·rcases iK.1 hx with hx|hx
   ·obtain rfl:=iI.1 hx;exact hb
   ·exact(X.blk x bh).mv hm (by simpa using hneT x hx)
 ·rcases iK.1 hx with hx|hx
  ·exact X.own x bh
  ·rcases iK.1 hx with hx|hx
   ·obtain rfl:=iI.1 hx;rcases hg' with rfl|hg'
    ·exact ho
    ·exact .inr (by show w0.heap.size<=g';omega)
   ·exact X.own x bh
 ·rcases(X.rd r hr).2 with h|h
  ·exact .inl h
  ·rcases(X.rd r hr).1.lt with h2|h2
   ·exact .inl h2
   refine .inr fun b hb x hx heq=>?_;rcases iK.1 hx with hx|hx
   ·exact h b hb x bh heq
   ·rcases iK.1 hx with hx|hx
    ·obtain rfl:=iI.1 hx;rcases hg' with rfl|hg'
     ·exact h b hb ⟨g',cs,e⟩ ag heq
     ·have:=h2 b hb;have h3:g'=b:=heq;omega
    ·exact h b hb x bh heq
theorem St.perm{L2:List Ent}(X:St S w0 w L R)(hp:L.Perm L2):St S w0 w L2 R:=
 ⟨X.mv,(hp.map _).nodup_iff.1 X.nd,fun x hx=>X.blk x (hp.mem_iff.2 hx),fun x hx=>X.own x (hp.mem_iff.2 hx),fun r hr=>⟨(X.rd r hr).1,(X.rd r hr).2.imp id fun h b hb x hx=>h b hb x (hp.mem_iff.2 hx)⟩⟩
theorem jG8(z:Array Value)(n:Nat):(Builtin.zeroCells z n).size=n*z.size:=by simp[Builtin.zeroCells]
theorem fW{A:Prop}(h:A:=by
 rw[e1];refine X.push_blk (w1:=w.drew.alloc _) ⟨rfl,rfl,rfl,ag,fun k hk _=>heap_alloc_old w.drew _ hk⟩ ?_ (.inr (iy _));exact kk3 w.drew _ _):A:=h
theorem St.pushF{P : Program}(t ty : TypeId)(bytes : Nat)(hF : Flat f c)(hT : Elem P t e c bytes)(X : St S w0 w (L ++ (M ++ T)) R)(hO : j4_ f e c v l M){vx:Value} (l2:List α) (hs:RL f w vx l2) (hroom:l2.length*bytes<=281474976710656) (hfit:∀old,old<l.length+l2.length->Builtin.nextslicecap (l.length+l2.length) old*bytes<=281474976710656) (h63:l.length+l2.length<=maxLen):∃v' w' M',(Builtin.append_ #[t,t] ty #[v,vx]).run P w=.ok v' w'/\j4_ f e c v' (l++l2) M'/\St S w0 w' (L++(M'++T)) R:=by
 obtain⟨a,cx,rfl,x1,x2,x3⟩:=hs;obtain⟨ht,i,z,hi,hz,hsz,hby,hzs⟩:=hT;subst hsz;subst hby
 cases l2 with
 |nil=>
  refine⟨v,w,M,?_,by simpa using hO,X⟩
  rcases hO with ⟨rfl,rfl,rfl⟩|⟨g,cap,rest,rfl,h1,h2,h3,rfl⟩
  ·cases a<;>simp[Builtin.append_,jR ht,Go.sizeOf,typeInfo,hi,Builtin.lenOf,Builtin.firstCells,loadCells,loadCellsFrom]
  ·cases a<;>simp[Builtin.append_,jR ht,Go.sizeOf,typeInfo,hi,Builtin.lenOf,Builtin.firstCells,loadCells,loadCellsFrom,h1,storeCells]
 |cons y l2=>
  have hfl:=j95 hF.len (y::l2)
  rcases x3 with x3|⟨bx,off,rfl,hc⟩
  ·exfalso;have h4:0<(y::l2).length*i.size:=Nat.mul_pos ag hF.pos;rw[x3] at hfl;rw[<-hfl] at h4;simp at h4
  have hnews:∀j u,((y::l2).flatMap f)[j]? =some u->w.cell? ((⟨bx,off,none⟩:Addr).add j)=some u:=fun j u hj=>dF
  have hone:∀u∈(y::l2).flatMap f,u.oneCell'=true:=fun u hu=>bE
  have hpos:0<(y::l2).length:=ag
  generalize hn:(y::l2).length=m at*
  generalize hnw:(y::l2).flatMap f=news at*
  have hlm:(l++y::l2).length=l.length+m:=by rw[il,hn]
  have hfm:(l++y::l2).flatMap f=l.flatMap f++news:=by rw[jz,hnw]
  have hll:=j95 hF.len l
  simp only[maxLen] at h63
  rcases hO with ⟨rfl,rfl,rfl⟩|⟨g,cap,rest,rfl,h1,h2,h3,rfl⟩
  ·have hr:=run_append_nil (P:=P) w t ty e i z ht hi hz ⟨bx,off,none⟩ m cx news hfl hnews aa aa hroom;have hge:=lJ w m 0 e;have hcm:grownCap w m 0 e<=maxLen:=kM w m 0 e (by simp only[maxLen];simp at h63;omega);refine⟨_,_,[⟨w.heap.size,news++(Builtin.zeroCells z.cells (grownCap w m 0 e-m)).toList,e⟩],hr,.inr ⟨w.heap.size,grownCap w m 0 e,(Builtin.zeroCells z.cells (grownCap w m 0 e-m)).toList,by rw[hlm];simp,by rw[hlm];simpa using hge,hcm,?_,by rw[hfm];simp⟩,?_⟩
   ·rw[hfm];simp only[kV,iw,il,Array.length_toList,jG8,hzs,hfl,<-kp];congr 1;omega
   ·have X2:=(X.drew.alloc (news++(Builtin.zeroCells z.cells (grownCap w m 0 e-m)).toList) e)
    have X3:=X2.perm (L2:=L++([⟨w.heap.size,news++(Builtin.zeroCells z.cells (grownCap w m 0 e-m)).toList,e⟩]++T)) (by
     simp only[iw,iu];exact(List.perm_middle).symm)
    have e1:(news++(Builtin.zeroCells z.cells (grownCap w m 0 e-m)).toList).toArray=news.toArray++Builtin.zeroCells z.cells (grownCap w m 0 e-m):=ag;rw[e1] at X3;exact X3
  ·have hb:=X.blk ⟨g,l.flatMap f++rest,e⟩ ag;have htk:(l.flatMap f++rest).take (l.length*i.size)=l.flatMap f:=by rw[<-hll];exact kI
   by_cases hrm:l.length+m<=cap
   ·have hfit : l.length * i.size + news.length <= (l.flatMap f ++ rest).toArray.size := by
      rw[jk,h3,hfl,<-kp];exact i' _ hrm
    have hr:=run_append_room (P:=P) w t ty e i ht hi g l.length cap _ hb ⟨bx,off,none⟩ m cx news hfl hnews hone hrm hfit
    have hdr:(l.flatMap f++rest).drop (l.length*i.size+news.length)=rest.drop news.length:=by
     rw[<-hll,<-kg,List.drop_left]
    rw[List.toList_toArray,htk,hdr] at hr;refine⟨_,_,[⟨g,l.flatMap f++news++rest.drop news.length,e⟩],hr,.inr ⟨g,cap,rest.drop news.length,by rw[hlm],by rw[hlm];exact hrm,h2,?_,by rw[hfm]⟩,?_⟩
    ·rw[hfm];simp only[il,iX] at h3⊢;rw[jk,il] at hfit;rw[hll] at h3⊢;omega
    ·refine X.push_blk ⟨rfl,rfl,rfl,ag,fun k _ hk=>setRow_other w g k _ (fun e=>hk (by simp[e]))⟩ ?_ (.inl rfl);exact setRow_heap w g _ _ e _ hb
   ·have holds : ∀ j u, (l.flatMap f)[j]? = some u -> w.cell? ((⟨g, 0, none⟩ : Addr).add j) = some u := fun j u hj => by
      rw[kK,jm,hb.cell];have hlt:j<(l.flatMap f).length:=(i4.1 hj).1;simp only[jv];rw[i8 hlt];exact hj
    have hr:=run_append_grow (P:=P) w t ty e i z ht hi hz ⟨g,0,none⟩ l.length cap (l.flatMap f) hll holds ⟨bx,off,none⟩ m cx news hfl hnews aa aa (hfit cap aa);have hge:=lJ w (l.length+m) cap e;have hcm:grownCap w (l.length+m) cap e<=maxLen:=kM w (l.length+m) cap e (by simp only[maxLen];omega);refine⟨_,_,[⟨w.heap.size,l.flatMap f++news++(Builtin.zeroCells z.cells (grownCap w (l.length+m) cap e-(l.length+m))).toList,e⟩],hr,.inr ⟨w.heap.size,grownCap w (l.length+m) cap e,(Builtin.zeroCells z.cells (grownCap w (l.length+m) cap e-(l.length+m))).toList,by rw[hlm],by rw[hlm];exact hge,hcm,?_,by rw[hfm]⟩,?_⟩
    ·rw[hfm];simp only[il,Array.length_toList,jG8,hzs,hfl,hll,<-kp];congr 1;omega
    ·have e1:(l.flatMap f).toArray++news.toArray++Builtin.zeroCells z.cells (grownCap w (l.length+m) cap e-(l.length+m))=(l.flatMap f++news++(Builtin.zeroCells z.cells (grownCap w (l.length+m) cap e-(l.length+m))).toList).toArray:=by simp
     exact fW
theorem St.push{P : Program}(t ty : TypeId)(bytes : Nat)(hF : Flat f c)(hT : Elem P t e c bytes)(X : St S w0 w (L ++ (M ++ T)) R)(hO : j4_ f e c v l M){vx:Value} (l2:List α) (hs:RL f w vx l2) (hroom:(l.length+l2.length)*bytes<=140737488355328) (h63:l.length+l2.length<=maxLen):∃v' w' M',(Builtin.append_ #[t,t] ty #[v,vx]).run P w=.ok v' w'/\j4_ f e c v' (l++l2) M'/\St S w0 w' (L++(M'++T)) R:=
 X.pushF t ty bytes hF hT hO l2 hs (i3 (i' _ (Nat.le_add_left _ _)) (i3 hroom ae)) (fun _ h=>growslice_fits h hroom) h63
theorem St.pushW{P : Program}(t ty : TypeId)(bytes : Nat)(hF : Flat f c)(hT : Elem P t e c bytes)(X : St S w0 w (L ++ (M ++ T)) R)(hO : j4_ f e c v l M){vx:Value} (l2:List α) (hs:RL f w vx l2) (hroom:(l.length+l2.length+(l.length+l2.length)/4+192)*bytes<=281474976710656) (h63:l.length+l2.length<=maxLen):∃v' w' M',(Builtin.append_ #[t,t] ty #[v,vx]).run P w=.ok v' w'/\j4_ f e c v' (l++l2) M'/\St S w0 w' (L++(M'++T)) R:=
 X.pushF t ty bytes hF hT hO l2 hs (i3 (i' _ aa) hroom) (fun _ h=>growslice_fits_wide h hroom) h63
end
section
variable{α:Type}{f:α->List Value}{e:TypeId}{c:Nat}{v:Value}{l:List α}{M:List Ent}{S:List Nat}{w0 w w':World}{L T:List Ent}{R:List Rd}
theorem j4_.fresh(h:j4_ f e c v l M)(X:St [] w0 w (L++(M++T)) R):∀b,kL2 v=some b->w0.heap.size<=b:=fun b hb=>by
 rcases h with ⟨rfl,rfl,rfl⟩|⟨g,cap,rest,rfl,h1,h2,h3,rfl⟩
 ·cases hb
 ·cases hb
  rcases X.own ⟨g,l.flatMap f++rest,e⟩ ag with h|h
  ·cases h
  ·exact h
theorem kC9(pre : List Ent){P : Program}{ops : Array Oper}{rest : List Oper}{o : Oper}{a : Act}{Q : Exit -> Act -> World -> Prop}{cs : Array Value}{fr : Nat × Nat}{g : Nat}(hgd : o.guard = none)(s x : Operand)(t : TypeId)(ho:o.op=.call {callee:=.builtin .append,args:= #[s,x],argTypes:= #[t,t]})(bytes:Nat) (hF:Flat f c) (hT:Elem P t e c bytes) (X:St S w0 w (pre++(M++T)) R) (hO:j4_ f e c v l M) (hs:a.eval s=v)(y:α) (hcs:(f y).toArray=cs) (hx:a.eval x=.slice (some ⟨g,0,none⟩) 1 1) (hroom:(l.length+1)*bytes<=140737488355328) (h63:l.length+1<=maxLen)(h:∀a' cap' w' M',j4_ f e c (.slice a' (l.length+1) cap') (l++ [y]) M'->St S w0 w' (pre++(M'++T)) R->wpList P ops Q rest (a.put o.dst (.slice a' (l.length+1) cap')) w')(hg:g=w.heap.size:=by first|rfl| (simp;done)):wpList P ops Q (o::rest) a (w.alloc (.cells cs e fr)):=by
 subst hcs;subst hg;have X2:St S w0 (w.alloc (.cells (f y).toArray e fr)) (pre++(M++T)) R:=X.call (bal (b0 w) _);refine wpList_plain hgd fun K hK=>?_;obtain⟨v',w',M',hr,r1,r2⟩:=X2.push (P:=P) t o.type bytes hF hT hO [y] (kl5 w e fr y) hroom h63;obtain⟨a',cap',rfl⟩:=r1.form;have hl:(l++ [y]).length=l.length+1:=ag;rw[hl] at hr r1;unfold Oper.wp execOp;simp only[ho,resolve,invoke,builtin,Sem.run_bind,Sem.run_pure,Result.andThen_ok,ky,jr,jN,hs,hx,hr];exact hK _ _ (h a' cap' w' M' r1 r2)
end
def jj7{α:Type}(f:α->List Value)(e:TypeId)(c:Nat)(v:Value)(l:List α)(M:List Ent):Prop:=
 (v=.slice none 0 0/\l=[]/\M=[])\/ ∃g pre cap rest,v=.slice (some ⟨g,pre.length,none⟩) l.length cap/\l.length<=cap/\cap<=maxLen/\cap*c<=(l.flatMap f++rest).length/\M=[⟨g,pre++(l.flatMap f++rest),e⟩]
section
variable{α:Type}{f:α->List Value}{e:TypeId}{c:Nat}{v:Value}{l:List α}{M:List Ent}{S:List Nat}{w0 w w':World}{L T:List Ent}{R:List Rd}
theorem jj7.nil(f:α->List Value)(e:TypeId)(c:Nat):jj7 f e c (.slice none 0 0) [] []:=.inl ⟨rfl,rfl,rfl⟩
theorem j4_.o(h:j4_ f e c v l M):jj7 f e c v l M:=by
 rcases h with h|⟨g,cap,rest,h1,h2,h3,h4,h5⟩
 ·exact .inl h
 ·exact .inr ⟨g,[],cap,rest,h1,h2,h3,Nat.le_of_eq h4.symm,h5⟩
theorem jj7.form(h:jj7 f e c v l M):∃a cap,v=.slice a l.length cap:=by
 rcases h with ⟨rfl,rfl,_⟩|⟨g,pre,cap,rest,rfl,_⟩
 ·exact⟨none,0,rfl⟩
 ·exact⟨_,_,rfl⟩
theorem jj7.reads(h:jj7 f e c v l M)(hb:∀x∈M,Blk w x.g x.cs.toArray x.t):RL f w v l:=by
 rcases h with ⟨rfl,rfl,rfl⟩|⟨g,pre,cap,rest,rfl,h1,h2,h3,rfl⟩
 ·exact⟨none,0,rfl,iy _,by simp[maxLen],.inl rfl⟩
 ·have hk:=hb _ (iI.2 rfl);refine⟨_,cap,rfl,h1,h2,.inr ⟨g,pre.length,rfl,fun j u hj=>?_⟩⟩;rw[hk.cell];have hlt:j<(l.flatMap f).length:=(i4.1 hj).1;simp only[jv];rw[jb aa,jw,i8 hlt];exact hj
theorem St.ownORd(X:St S w0 w (L++(M++T)) R)(h:jj7 f e c v l M):RL f w v l:=h.reads fun x hx=>X.blk x bh
theorem jk0(pre news cs:List Value)(h:news.length<=cs.length):upd pre.length news (pre++cs)=pre++(news++cs.drop news.length):=by
 rw[jj5 _ _ _ ah];rw[kI,<-kg,List.drop_left,iE]
theorem St.pushO{P : Program}(t ty : TypeId)(bytes : Nat)(hF : Flat f c)(hT : Elem P t e c bytes)(X : St S w0 w (L ++ (M ++ T)) R)(hO : jj7 f e c v l M){vx:Value} (y:α) (hs:RL f w vx [y]) (hroom:(l.length+1)*bytes<=140737488355328) (h63:l.length+1<=maxLen):∃v' w' M',(Builtin.append_ #[t,t] ty #[v,vx]).run P w=.ok v' w'/\jj7 f e c v' (l++ [y]) M'/\St S w0 w' (L++(M'++T)) R:=by
 rcases hO with ⟨h1,h2,h3⟩|⟨g,pre,cap,rest,rfl,h1,h2,h3,rfl⟩
 ·obtain⟨v',w',M',r1,r2,r3⟩:=X.push t ty bytes hF hT (.inl ⟨h1,h2,h3⟩) [y] hs hroom h63;exact⟨v',w',M',r1,r2.o,r3⟩
 ·obtain⟨a,cx,rfl,x1,x2,x3⟩:=hs;obtain⟨ht,i,z,hi,hz,hsz,hby,hzs⟩:=hT;subst hsz;subst hby;have hfl:(f y).length=i.size:=hF.len y;have hy: [y].flatMap f=f y:=ag;rcases x3 with x3|⟨bx,off,rfl,hc⟩
  ·exfalso;have h4:=hF.pos;rw[hy] at x3;rw[<-hfl,x3] at h4;simp at h4
  have hsrc:Src P i.size t (.slice (some ⟨bx,off,none⟩) 1 cx) 1 (f y) w:=Src.ofSlice w ht ⟨bx,off,none⟩ 1 cx (f y) (by rw[hfl];simp) (fun j u hj=>by rw[kK];exact hc j u (by rw[hy];exact hj)) (fun u hu=>hF.one y u hu);have hb:=X.blk ⟨g,pre++(l.flatMap f++rest),e⟩ ag;have hll:=j95 hF.len l;have hfm:(l++ [y]).flatMap f=l.flatMap f++f y:=by rw[jz,hy]
  have hlm:(l++ [y]).length=l.length+1:=ag;simp only[maxLen] at h63;by_cases hrm:l.length+1<=cap
  ·have hle:l.length*i.size+i.size<=cap*i.size:=by rw[<-ju];exact i' _ hrm
   have hlr:i.size<=rest.length:=by rw[il,hll] at h3;omega
   have hin:∀j,j<(f y).length->pre.length+l.length*i.size+j<(pre++(l.flatMap f++rest)).length:=fun j hj=>by
    rw[il,il,hll];omega
   have hr:=run_append_room_src (P:=P) w t t ty e i ht hi g pre.length l.length cap (.slice (some ⟨bx,off,none⟩) 1 cx) 1 (f y) hsrc hrm (fun j hj=>by
    rw[hb.cell];simp only[jv];rw[ix (hin j hj)];rfl) (fun j hj=>hb.free _)
   refine⟨_,_,[⟨g,pre++((l++ [y]).flatMap f++rest.drop i.size),e⟩],hr,.inr ⟨g,pre,cap,rest.drop i.size,by rw[hlm],by rw[hlm];exact hrm,h2,?_,rfl⟩,?_⟩
   ·rw[hfm];simp only[il,iX] at h3⊢;rw[hll] at h3⊢;omega
   ·have X2:=X.wrote L T (pre.length+l.length*i.size) (f y) (by rw[il,il,hll];omega)
    have e1:upd (pre.length+l.length*i.size) (f y) (pre++(l.flatMap f++rest))=pre++((l++ [y]).flatMap f++rest.drop i.size):=by
     have:=jk0 (pre++l.flatMap f) (f y) rest aa;rw[il,hll,iE,iE,hfl] at this;rw[hfm,iE];exact this
    rw[e1] at X2;exact X2
  ·have hgt:cap<l.length+1:=by omega
   have hold:(Builtin.firstCells i.size l.length (.slice (some ⟨g,pre.length,none⟩) l.length cap)).run P w.drew=.ok (l.flatMap f).toArray w.drew:=
    run_firstCells_some w.drew i.size l.length ⟨g,pre.length,none⟩ l.length cap (l.flatMap f) hll (fun j u hj=>by
     rw[kK,World.cell?_drew,hb.cell];have hlt:j<(l.flatMap f).length:=(i4.1 hj).1;simp only[jv];rw[jb aa,jw,i8 hlt];exact hj)
   have hr:=run_append_grow_src (P:=P) w t t ty e i z ht hi hz (some ⟨g,pre.length,none⟩) l.length cap (l.flatMap f) hold (.slice (some ⟨bx,off,none⟩) 1 cx) 1 (f y) hsrc hgt aa (growslice_fits hgt hroom);have hge:=lJ w (l.length+1) cap e;have hcm:grownCap w (l.length+1) cap e<=maxLen:=kM w (l.length+1) cap e (by simp only[maxLen];omega);refine⟨_,_,[⟨w.heap.size,l.flatMap f++f y++(Builtin.zeroCells z.cells (grownCap w (l.length+1) cap e-(l.length+1))).toList,e⟩],hr,.inr ⟨w.heap.size,[],grownCap w (l.length+1) cap e,(Builtin.zeroCells z.cells (grownCap w (l.length+1) cap e-(l.length+1))).toList,by rw[hlm];rfl,by rw[hlm];exact hge,hcm,?_,by rw[hfm];rfl⟩,?_⟩
   ·rw[hfm];simp only[il,Array.length_toList,jG8,hzs,hfl,hll];rw[<-ju,<-kp];refine Nat.le_of_eq ?_;congr 1;omega
   ·have e1:(l.flatMap f++f y).toArray++Builtin.zeroCells z.cells (grownCap w (l.length+1) cap e-(l.length+1))=(l.flatMap f++f y++(Builtin.zeroCells z.cells (grownCap w (l.length+1) cap e-(l.length+1))).toList).toArray:=by simp
    exact fW
end
section
variable{P:Program}{ops:Array Oper}{Q:Exit->Act->World->Prop}{md:Region.Mode}{S:World->Prop}{brk:List Nat}
def kL4(md:Region.Mode)(ops:Array Oper)(b i:Nat):Bool:=((ops[b]?).map fun o=>o.after.any fun e=>Region.binds md e&&e.on==i).getD true
def js5(P:Program)(md:Region.Mode)(ops:Array Oper)(Q:Exit->Act->World->Prop)(S:World->Prop)(brk:List Nat):Nat->Array Bool->Act->World->Prop
 |0,x,a,w=>Region.ready md ops x=[]/\Q .normal a w
 | n + 1, x, a, w => (Region.ready md ops x = [] -> Q .normal a w) /\
     ∀i∈Region.ready md ops x,wpOp P ops Q i (fun b v=>(brk.contains i=false->S w->S v)/\js5 P md ops Q S brk n (x.setIfInBounds i true) b v) a w
theorem js5.any:∀(n:Nat) (x:Array Bool) (a:Act) (w:World),js5 P md ops Q S brk n x a w->wpAny P md ops Q n x a w
 |0,_,_,_,h=>h
 |n+1,x,a,w,h=>⟨h.1,fun i hi=>wpOp_mono (fun b v hh=>js5.any n _ b v hh.2) (h.2 i hi)⟩
theorem kX3{b i:Nat}{o:Oper}(ho:ops[b]? =some o)(h:kL4 md ops b i=true):∃e∈o.after,Region.binds md e=true/\e.on=i:=by
 unfold kL4 at h;rw[ho] at h;obtain⟨e,he,hb⟩:=Array.any_eq_true'.1 h;rw[iD,iT] at hb;exact⟨e,he,hb.1,hb.2⟩
def kL8(md:Region.Mode)(ops:Array Oper)(x:Array Bool)(i:Nat)(o:Oper):Prop:=
 ∀j oj,ops[j]? =some oj->j≠i->x.getD j true=false->(∀e∈oj.after,Region.binds md e=true->e.on≠i)->o.apart ops oj=true
theorem kL8.set{x:Array Bool}{i j:Nat}{o:Oper}(h:kL8 md ops x i o)(hj:x.getD j true=false):kL8 md ops (x.setIfInBounds j true) i o:=fun k ok hk hne hun hno=>by
 by_cases e:j=k
 ·subst e;exact h _ ok hk hne hj hno
 ·exact h k ok hk hne (by rw[getD_set_ne true e] at hun;exact hun) hno
theorem js5.take{T : World -> Prop}{i : Nat}{o : Oper}{v : Value}(hi : ops[i]? = some o)(hsel : ∀ (j : Nat) (o : Oper) cs b, ops[j]? = some o -> o.op ≠ .select cs b)(hQ:∀c a w,Q (.panic c) (a.put o.dst v) w->Q (.panic c) a w) (hT:(T=S/\brk.all (fun b=>kL4 md ops b i)=true)\/ ∀w,T w):∀ (n : Nat) (x : Array Bool) (a : Act) (w : World), kL8 md ops x i o -> i ∈ Region.ready md ops x -> YieldsIf P ops T o v a -> T w ->js5 P md ops Q S brk n (x.setIfInBounds i true) (a.put o.dst v) w->js5 P md ops Q S brk (n+1) x a w
 |n,x,a,w,hl,hr,hy,hS,H=>by
  have hne:Region.ready md ops x≠ []:=fun e=>by rw[e] at hr;cases hr
  refine⟨fun e=>absurd e hne,fun j hj=>?_⟩;by_cases e:j=i
  ·subst e;exact hy.wpOp hi hS ⟨fun _ h=>h,H⟩
  ·have hj2:=ready_mono hj e;obtain⟨hju,oj,hoj,hall⟩:=mem_ready.1 hj;have hiu:=(mem_ready.1 hr).1
   have hnot:∀d∈oj.after,Region.binds md d=true->d.on≠i:=fun d hd hb he=>by
    have h1:=hall d hd hb;rw[he] at h1;rcases Nat.lt_or_ge i x.size with h3|h3
    ·simp[h3] at hiu h1;rw[hiu] at h1;cases h1
    ·simp[Array.getElem?_eq_none h3] at h1
   have next:∀u,(brk.contains j=false->S w->S u)->T u:=fun u hu=>by
    rcases hT with ⟨rfl,hbrk⟩|hT
    ·refine hu ?_ hS
     cases hb:brk.contains j with
     |false=>rfl
     |true=>
      have h1:=ja.1 hbrk j dC
      obtain⟨d,hd,hb1,hb2⟩:=kX3 hoj h1
      exact absurd hb2 (hnot d hd hb1)
    ·exact hT u
   cases n with
   |zero=>rw[H.1] at hj2;cases hj2
   |succ n=>
    have h1:=H.2 j hj2
    have h2:=wpOp_putIf hoj (hl j oj hoj e hju hnot) (fun cs b=>hsel i o cs b hi) (fun cs b=>hsel j oj cs b hoj) hQ hy h1
    refine wpOp_mono (fun b u hh=>?_) h2
    obtain⟨hy2,hS2,H2⟩:=hh
    refine⟨hS2,js5.take hi hsel hQ hT n _ b u (hl.set hju) (ready_mono hr (Ne.symm e)) hy2 (next u hS2) ?_⟩
    rw[Array.setIfInBounds_comm _ _ e]
    exact H2
def Seq(P:Program)(ops:Array Oper)(Q:Exit->Act->World->Prop)(S:World->Prop)(brk eff lds:List Nat):List Nat->Act->World->Prop
 | [],a,w=>Q .normal a w
 | i :: r, a, w => if eff.contains i = true then wpOp P ops Q i (fun b v => (brk.contains i = false -> S w -> S v) /\ Seq P ops Q S brk eff lds r b v) a w
     else if lds.contains i=true then∃o v,ops[i]? =some o/\YieldsIf P ops S o v a/\S w/\(∀c a w,Q (.panic c) (a.put o.dst v) w->Q (.panic c) a w)/\Seq P ops Q S brk eff lds r (a.put o.dst v) w
     else∃o v,ops[i]? =some o/\YieldsIf P ops (fun _=>True) o v a/\(∀c a w,Q (.panic c) (a.put o.dst v) w->Q (.panic c) a w)/\Seq P ops Q S brk eff lds r (a.put o.dst v) w
def k_7(md:Region.Mode)(ops:Array Oper)(brk eff lds:List Nat):Array Bool->List Nat->Bool
 |x,[]=>(Region.ready md ops x).isEmpty
 |x,i::r=>(if eff.contains i=true then Region.ready md ops x== [i] else(Region.ready md ops x).contains i&&Region.free md ops x i&&(!lds.contains i||brk.all (fun b=>kL4 md ops b i)))&&k_7 md ops brk eff lds (x.setIfInBounds i true) r
theorem kj4{eff lds:List Nat}(hs:Region.noSelect ops=true):∀(r:List Nat) (x:Array Bool) (a:Act) (w:World),k_7 md ops brk eff lds x r=true->Seq P ops Q S brk eff lds r a w->js5 P md ops Q S brk r.length x a w
 | [],x,a,w,hk,h=>⟨List.isEmpty_iff.1 hk,h⟩
 |i::r,x,a,w,hk,h=>by
  unfold k_7 at hk;rw[iD] at hk;obtain⟨h1,h2⟩:=hk;unfold Seq at h
  split at h
  ·rename_i he;rw[ij he] at h1;have hr:Region.ready md ops x=[i]:=b_;refine⟨fun e=>(by rw[hr] at e;cases e),fun j hj=>?_⟩;rw[hr] at hj;obtain rfl:j=i:=by simpa using hj
   exact wpOp_mono (fun b v hh=>⟨hh.1,kj4 hs r _ b v h2 hh.2⟩) h
  ·rename_i he;rw[ii he,iD,iD] at h1;obtain⟨⟨h3,h4⟩,h5⟩:=h1
   split at h
   ·rename_i hl;rw[hl,Bool.not_true,lH] at h5;obtain⟨o,v,hi,hy,hS,hQ,hn⟩:=h;exact js5.take hi (lF hs) hQ (.inl ⟨rfl,h5⟩) r.length x a w (fun j oj hj hne hun hno=>mn hi h4 j oj hj hne hun hno) cg hy hS (kj4 hs r _ _ _ h2 hn)
   ·obtain⟨o,v,hi,hy,hQ,hn⟩:=h;exact js5.take hi (lF hs) hQ (.inr fun _=>trivial) r.length x a w (fun j oj hj hne hun hno=>mn hi h4 j oj hj hne hun hno) cg hy trivial (kj4 hs r _ _ _ h2 hn)
structure Kept(L0:List Ent)(R0:List Rd)(w:World):Prop where
 l:∀e∈L0,Blk w e.g e.cs.toArray e.t
 r:∀x∈R0,Sl w x.v x.n x.cs
theorem kB7{id : Nat}{a : Act}{w : World}(L : List Ent)(R : List Rd)(brk eff lds perm : List Nat)(hm : P.follows .mixedOrders = true)(hs : (Region.noSelect ops && (perm.length == ops.size && k_7 .any ops brk eff lds (Array.replicate ops.size false) perm)) = true)(h:Seq P ops Q (Kept L R) brk eff lds perm a w.drew):(Code.region id ops true).wp P Q a w:=by
 rw[iD,iD] at hs;obtain⟨h1,h2,h3⟩:=hs;have:=kj4 h1 perm _ a _ h3 h;rw[show perm.length=ops.size by simpa using h2] at this;exact wp_region_any hm (js5.any _ _ _ _ this)
end
def ko1:List Oper->Nat->Option Oper
 | [],_=>none
 |o::_,0=>some o
 |_::r,n+1=>ko1 r n
theorem k4_:∀(l:List Oper) (i:Nat),ko1 l i=l[i]?
 | [],i=>by simp[ko1]
 |v::r,0=>rfl
 |v::r,i+1=>by rw[List.getElem?_cons_succ];exact k4_ r i
def oAt(ops:Array Oper)(i:Nat):Option Oper:=ko1 ops.toList i
theorem jH9{ops:Array Oper}{i:Nat}{o:Oper}(h:oAt ops i=some o):ops[i]? =some o:=by
 unfold oAt at h;rw[k4_] at h;simpa using h
section
variable{P:Program}{ops:Array Oper}{Q:Exit->Act->World->Prop}{L0:List Ent}{brk eff lds:List Nat}{i:Nat}{r:List Nat}{o:Oper}{a:Act}{S:List Nat}{w0 w:World}{L:List Ent}{R:List Rd}
structure Under(L0:List Ent)(R0:List Rd)(L:List Ent)(R:List Rd):Prop where
 l:L0.Sublist L
 r:∀x∈R0,x∈R
theorem Under.up{R0:List Rd}{x:Rd}(h:Under L0 R0 L R):Under L0 R0 L (x::R):=⟨h.l,fun y hy=>jH _ (h.r y hy)⟩
theorem Under.up3{R0:List Rd}{x y z:Rd}(h:Under L0 R0 L R):Under L0 R0 L (x::y::z::R):=h.up.up.up
abbrev SQ(P:Program)(ops:Array Oper)(Q:Exit->Act->World->Prop)(L0:List Ent)(R0:List Rd)(brk eff lds:List Nat):List Nat->Act->World->Prop:=Seq P ops Q (Kept L0 R0) brk eff lds
def j72(Q:Exit->Act->World->Prop):Prop:=∀c a (k:Tmp) v w,Q (.panic c) (a.put (some k) v) w->Q (.panic c) a w
theorem j72.all(h:j72 Q):∀c a d v w,Q (.panic c) (a.put d v) w->Q (.panic c) a w:=fun c a d v w hh=>by
 cases d with
 |none=>exact hh
 |some k=>exact h c a k v w hh
theorem kv8{id : Nat}(k : Nat)(brk eff lds perm : List Nat)(X : St S w0 w L R)(hm : P.follows .mixedOrders = true)(hs : (Region.noSelect ops && (perm.length == ops.size && k_7 .any ops brk eff lds (Array.replicate ops.size false) perm)) = true)(hQ : j72 Q)(h:j72 Q->St S w0 w.drew L R->Under (L.take k) R L R->SQ P ops Q (L.take k) R brk eff lds perm a w.drew):(Code.region id ops true).wp P Q a w:=kB7 (L.take k) R brk eff lds perm hm hs (h hQ X.drew ⟨mg _ _,fun _ h=>h⟩)
theorem j90{R0:List Rd}(h:Q .normal a w):SQ P ops Q L0 R0 brk eff lds [] a w:=h
theorem St.keeps{R0:List Rd}(X:St S w0 w L R)(hL:Under L0 R0 L R):Kept L0 R0 w:=⟨fun e he=>X.blk e (hL.l.subset he),fun r hr=>(X.rd r (hL.r r hr)).1⟩
theorem St.und{R0:List Rd}(X:St S w0 w L R)(hL:Under L0 R0 L R):Under L0 R0 L R:=hL
variable{R0:List Rd}
theorem jD2(hi : oAt ops i = some o)(he : eff.contains i = true)(hw : Region.wanted o (yielded ops a.tmps) = true)(h:∀K:Act->World->Prop,(∀b v,(brk.contains i=false->Kept L0 R0 w->Kept L0 R0 v)->SQ P ops Q L0 R0 brk eff lds r b v->K b v)->o.wp P a w K Q):SQ P ops Q L0 R0 brk eff lds (i::r) a w:=by
 unfold SQ Seq;rw[ij he];unfold wpOp;rw[jH9 hi];simp only[hw,if_true];exact .inl (h _ fun b v h1 h2=>⟨h1,h2⟩)
theorem jf6{v : Value}(hi : oAt ops i = some o)(he : (!eff.contains i && lds.contains i) = true)(hw : Region.wanted o (yielded ops a.tmps) = true)(X : St S w0 w L R)(hL : Under L0 R0 L R)(hQ : j72 Q)(hv:∀w',Kept L0 R0 w'->(execOp a.eval o).run P w'=.ok (.value v) w') (h:SQ P ops Q L0 R0 brk eff lds r (a.put o.dst v) w):SQ P ops Q L0 R0 brk eff lds (i::r) a w:=by
 rw[iD,kh] at he;unfold SQ Seq;rw[ii (by rw[he.1];decide),ij he.2];exact⟨o,v,jH9 hi,.inl ⟨hw,hv⟩,X.keeps hL,fun c a w hh=>hQ.all c a o.dst v w hh,h⟩
theorem kq3(hi : oAt ops i = some o)(he : (!eff.contains i && !lds.contains i) = true)(hw : Region.wanted o (yielded ops a.tmps) = false)(hQ : j72 Q)(h:SQ P ops Q L0 R0 brk eff lds r (a.put o.dst undef) w):SQ P ops Q L0 R0 brk eff lds (i::r) a w:=by
 rw[iD,kh,kh] at he;unfold SQ Seq;rw[ii (by rw[he.1];decide),ii (by rw[he.2];decide)];exact⟨o,undef,jH9 hi,.inr ⟨hw,rfl⟩,fun c a w hh=>hQ.all c a o.dst undef w hh,h⟩
theorem jp2{v : Value}(hi : oAt ops i = some o)(he : (!eff.contains i && !lds.contains i) = true)(hw : Region.wanted o (yielded ops a.tmps) = true)(hQ : j72 Q)(hv:∀w',(execOp a.eval o).run P w'=.ok (.value v) w') (h:SQ P ops Q L0 R0 brk eff lds r (a.put o.dst v) w):SQ P ops Q L0 R0 brk eff lds (i::r) a w:=by
 rw[iD,kh,kh] at he;unfold SQ Seq;rw[ii (by rw[he.1];decide),ii (by rw[he.2];decide)];exact⟨o,v,jH9 hi,.inl ⟨hw,fun w' _=>hv w'⟩,fun c a w hh=>hQ.all c a o.dst v w hh,h⟩
theorem kq_{x : Operand}{v : Value}(hi : oAt ops i = some o)(ho : o.op = .move x)(hx : EvR a x v)(he : (!eff.contains i && !lds.contains i) = true)(hw : Region.wanted o (yielded ops a.tmps) = true)(hQ : j72 Q)(h:SQ P ops Q L0 R0 brk eff lds r (a.put o.dst v) w):SQ P ops Q L0 R0 brk eff lds (i::r) a w:=
 jp2 hi he hw hQ (fun w'=>da) h
theorem kF1{x : Operand}{v : Value}(hi : oAt ops i = some o)(ho : o.op = .assign x)(hx : EvR a x v)(he : (!eff.contains i && !lds.contains i) = true)(hw : Region.wanted o (yielded ops a.tmps) = true)(hQ : j72 Q)(h:SQ P ops Q L0 R0 brk eff lds r (a.put o.dst v) w):SQ P ops Q L0 R0 brk eff lds (i::r) a w:=
 jp2 hi he hw hQ (fun w'=>da) h
theorem kZ7{x : Operand}{p : Addr}(hi : oAt ops i = some o)(ho : o.op = .nilCheck x)(hx : EvR a x (.pointer (some p)))(he : (!eff.contains i && !lds.contains i) = true)(hw : Region.wanted o (yielded ops a.tmps) = true)(hQ : j72 Q)(h:SQ P ops Q L0 R0 brk eff lds r (a.put o.dst (.pointer (some p))) w):SQ P ops Q L0 R0 brk eff lds (i::r) a w:=
 jp2 hi he hw hQ (fun w'=>da) h
theorem kO1{x : Operand}{k : Nat}{vs : List Value}{v : Value}(hi : oAt ops i = some o)(ho : o.op = .extract x k)(hx : EvR a x (.tuple vs.toArray))(hv : nth vs k = some v)(he : (!eff.contains i && !lds.contains i) = true)(hw : Region.wanted o (yielded ops a.tmps) = true)(hQ : j72 Q)(h:SQ P ops Q L0 R0 brk eff lds r (a.put o.dst v) w):SQ P ops Q L0 R0 brk eff lds (i::r) a w:=
 jp2 hi he hw hQ (fun w'=>by
  rw[jH8] at hv;unfold execOp;simp only[ho,hx.eval,Instr.extract];simp[hv]) h
class FieldT (P:Program) (T:TypeId) (k:Nat) (d:outParam Nat):Prop where
 at_:∀(g i:Nat) (w:World),(Instr.fieldAt T (.pointer (some ⟨g,i,none⟩)) k).run P w=.ok (.pointer (some ⟨g,i+d,none⟩)) w
theorem kv1{x : Operand}{T : TypeId}{k d g n : Nat}(hi : oAt ops i = some o)(ho : o.op = .fieldAddr T x k)(hx : EvR a x (.pointer (some ⟨g, n, none⟩)))[hF : FieldT P T k d](he : (!eff.contains i && !lds.contains i) = true)(hw : Region.wanted o (yielded ops a.tmps) = true)(hQ : j72 Q)(h:SQ P ops Q L0 R0 brk eff lds r (a.put o.dst (.pointer (some ⟨g,n+d,none⟩))) w):SQ P ops Q L0 R0 brk eff lds (i::r) a w:=
 jp2 hi he hw hQ (fun w'=>by unfold execOp;simp only[ho,hx.eval,Sem.run_bind,hF.at_,Result.andThen_ok,Sem.run_pure]) h
theorem kv2{x : Operand}{T : TypeId}{g n : Nat}(hi : oAt ops i = some o)(ho : o.op = .load T x)(hx : EvR a x (.pointer (some ⟨g, n, none⟩)))[OneT P T]{cs : List Value}{t : TypeId}(hm : ⟨g, cs, t⟩ ∈ L0){v : Value}(hv : nth cs n = some v)(he:(!eff.contains i&&lds.contains i)=true) (hw:Region.wanted o (yielded ops a.tmps)=true) (X:St S w0 w L R) (hL:Under L0 R0 L R) (hQ:j72 Q)(h:SQ P ops Q L0 R0 brk eff lds r (a.put o.dst v) w):SQ P ops Q L0 R0 brk eff lds (i::r) a w:=
 jf6 hi he hw X hL hQ (fun w' hw'=>by
  have hc:w'.cell? ⟨g,n,none⟩=some v:=by rw[(hw'.l _ hm).cell n,<-hv,jH8];simp
  unfold execOp;simp only[ho,hx.eval,Instr.loadAt,Instr.sureAddr,Sem.run_bind,Sem.run_pure,Result.andThen_ok,jS7 (T:=T) hc]) h
theorem kv3{x : Operand}{T : TypeId}{g n m : Nat}(hi : oAt ops i = some o)(ho : o.op = .load T x)(hx : EvR a x (.pointer (some ⟨g, n, none⟩)))[hT : AggT P T m]{cs : List Value}{t : TypeId}(hm : ⟨g, cs, t⟩ ∈ L0)(hn : n + m <= cs.length)(he:(!eff.contains i&&lds.contains i)=true) (hw:Region.wanted o (yielded ops a.tmps)=true) (X:St S w0 w L R) (hL:Under L0 R0 L R) (hQ:j72 Q)(h:SQ P ops Q L0 R0 brk eff lds r (a.put o.dst (.agg ((cs.drop n).take m).toArray)) w):SQ P ops Q L0 R0 brk eff lds (i::r) a w:=
 jf6 hi he hw X hL hQ (fun w' hw'=>by
  obtain⟨⟨d,hu,hd⟩,hs⟩:=hT
  have hr:(loadVar T ⟨g,n,none⟩).run P w'=.ok (.agg ((cs.drop n).take m).toArray) w':=run_loadVar_mid w' g n T ((cs.drop n).take m) d (fun j v hj=>by
   rw[(hw'.l _ hm).cell];rw[jB] at hj
   split at hj
   ·rw[lU] at hj;simpa using hj
   ·cases hj) hu hd (by rw[hs,iA,iX];congr 1;omega)
  unfold execOp;simp only[ho,hx.eval,Instr.loadAt,Instr.sureAddr,Sem.run_bind,Sem.run_pure,Result.andThen_ok,hr]) h
theorem k69{α:Type}{f:α->List Value}{c:Nat}(hF:∀x,(f x).length=c):∀{l:List α} {k d:Nat} (hk:k<l.length),d<c->(l.flatMap f)[k*c+d]? =(f l[k])[d]?
 |x::l,0,d,hk,hd=>by
  rw[jj,kq,jm,i8 (by rw[hF];exact hd)];rfl
 |x::l,k+1,d,hk,hd=>by
  rw[jj,jb (by rw[hF,kp];omega),hF,show(k+1)*c+d-c=k*c+d by rw[kp];omega];exact k69 hF (l:=l) (Nat.lt_of_succ_lt_succ hk) hd
theorem Sl.elem{α:Type}{f:α->List Value}{c:Nat}(hF:∀x,(f x).length=c){w:World}{b off cap n k d:Nat}{l:List α}(h:Sl w (.slice (some ⟨b,off,none⟩) n cap) l.length (l.flatMap f))(hk:k<l.length)(hd:d<c):w.cell? ⟨b,off+k*c+d,none⟩=(f l[k])[d]? :=by
 have hfn:=k69 hF (d:=d) hk hd;have hlt:d<(f l[k]).length:=by rw[hF];exact hd
 rw[ix hlt] at hfn⊢;obtain⟨a,cap',hv,h1,h2,h3⟩:=h;rcases h3 with h3|⟨b',off',ha,hc⟩
 ·rw[h3] at hfn;cases hfn
 ·cases hv
  cases ha
  rw[kZ];exact hc _ _ hfn
theorem jl_{α : Type}{f : α -> List Value}{c : Nat}(hF : ∀ x, (f x).length = c){l : List α}{k : Nat}(hk : k < l.length){x : Operand}{T : TypeId}{b off cap n : Nat}(hi : oAt ops i = some o)(ho : o.op = .load T x)(hm : kj2 f (.slice (some ⟨b, off, none⟩) n cap) l ∈ R0)(hx : EvR a x (.pointer (some ⟨b, off + k * c, none⟩)))[hT : AggT P T c](he:(!eff.contains i&&lds.contains i)=true) (hw:Region.wanted o (yielded ops a.tmps)=true) (X:St S w0 w L R) (hL:Under L0 R0 L R) (hQ:j72 Q)(h:SQ P ops Q L0 R0 brk eff lds r (a.put o.dst (.agg (f l[k]).toArray)) w):SQ P ops Q L0 R0 brk eff lds (i::r) a w:=
 jf6 hi he hw X hL hQ (fun w' hw'=>by
  obtain⟨⟨d,hu,hd⟩,hs⟩:=hT
  have hr:(loadVar T ⟨b,off+k*c,none⟩).run P w'=.ok (.agg (f l[k]).toArray) w':=run_loadVar_mid w' b (off+k*c) T (f l[k]) d (fun j v hj=>by
   have hlt:j<c:=by rw[<-hF l[k]];exact(i4.1 hj).1
   rw[Sl.elem hF (hw'.r _ hm) hk hlt];exact hj) hu hd (by rw[hs,hF])
  unfold execOp;simp only[ho,hx.eval,Instr.loadAt,Instr.sureAddr,Sem.run_bind,Sem.run_pure,Result.andThen_ok,hr]) h
theorem kr9(f : FuncId)(xs : List Operand)(ts : Array TypeId)(hi : oAt ops i = some o)(ho : o.op = .call { callee := .value (.func f), args := xs.toArray, argTypes := ts })(args : Array Value)(ha : (xs.map a.eval).toArray = args)(hb:∃fn c,P.funcs[f]? =some fn/\(fn.name== "runtime.NumGoroutine")=false/\fn.body=some c) (he:eff.contains i=true) (hw:Region.wanted o (yielded ops a.tmps)=true) {F:Ending->World->Prop}(h:Calls P f args w F) (hK:∀e w',F e w'->∃v,e=.returned v/\(brk.contains i=false->Kept L0 R0 w->Kept L0 R0 w')/\SQ P ops Q L0 R0 brk eff lds r (a.put o.dst v) w'):SQ P ops Q L0 R0 brk eff lds (i::r) a w:=
 jD2 hi he hw fun K hk=>by
  subst ha;obtain⟨fn,c,h1,h2,h3⟩:=hb
  have hr:(execOp a.eval o).run P w=.ok (.enter f (xs.map a.eval).toArray) w:=by
   unfold execOp;simp[ho,resolve,invoke,Deferred.ofValue,Act.eval,jd_ h1 h2 h3]
  unfold Oper.wp;rw[hr,Oper.upon_enter];exact h.mono fun e w' hF=>by obtain⟨v,rfl,hs,hq⟩:=hK e w' hF;exact hk _ _ hs hq
theorem k31(A B : List Ent){x y : Operand}{T : TypeId}{g n : Nat}{cs : List Value}{t : TypeId}(hi : oAt ops i = some o)(ho : o.op = .store T x y)(hx : EvR a x (.pointer (some ⟨g, n, none⟩)))[OneT P T]{v : Value}(hy : EvR a y v)(X:St S w0 w (A++⟨g,cs,t⟩::B) R) (hn:n<cs.length) (h1:v.oneCell'=true) (hc:v.cells= #[v]) (he:eff.contains i=true) (hw:Region.wanted o (yielded ops a.tmps)=true)(h:∀w',St S w0 w' (A++⟨g,upd n [v] cs,t⟩::B) R->(brk.contains i=false->Kept L0 R0 w->Kept L0 R0 w')/\SQ P ops Q L0 R0 brk eff lds r (a.put o.dst undef) w'):SQ P ops Q L0 R0 brk eff lds (i::r) a w:=
 jD2 hi he hw fun K hk=>by
  have ht:=X.there (g:=g) (cs:=cs) (t:=t) (i:=n) (n:=1) ag aa;obtain⟨h2,h3⟩:=h _ (by simpa using X.wrote A B n [v] (show n+1<=cs.length from hn));unfold Oper.wp execOp;simp only[ho,hx.eval,hy.eval,Instr.storeAt,Instr.sureAddr,Sem.run_bind,Sem.run_pure,Result.andThen_ok,jE4 (T:=T) ht h1 hc];exact hk _ _ h2 h3
theorem k32(A B : List Ent){x y : Operand}{T : TypeId}{g n m : Nat}{cs : List Value}{t : TypeId}(hi : oAt ops i = some o)(ho : o.op = .store T x y)(hx : EvR a x (.pointer (some ⟨g, n, none⟩)))[hT : AggT P T m]{vs : List Value}(hy : a.eval y = .agg vs.toArray)(X:St S w0 w (A++⟨g,cs,t⟩::B) R) (hm:vs.length=m) (hn:n+vs.length<=cs.length) (h1:vs.all (·.oneCell')=true) (he:eff.contains i=true) (hw:Region.wanted o (yielded ops a.tmps)=true)(h:∀w',St S w0 w' (A++⟨g,upd n vs cs,t⟩::B) R->(brk.contains i=false->Kept L0 R0 w->Kept L0 R0 w')/\SQ P ops Q L0 R0 brk eff lds r (a.put o.dst undef) w'):SQ P ops Q L0 R0 brk eff lds (i::r) a w:=
 jD2 hi he hw fun K hk=>by
  obtain⟨h2,h3⟩:=h _ (by simpa using X.wrote A B n vs hn);exact wp_store_mid T x y ho g n vs.toArray hx.eval hy (X.there (cs:=cs) (t:=t) ag dN) (by rw[hT.size];simp[hm]) b_ (hk _ _ (by simpa using h2) cg)
theorem kv_{T : TypeId}(hi : oAt ops i = some o)(ho : o.op = .alloc T){cs : List Value}[hT : ZeroT P T cs](X : St S w0 w L R)(hL : Under L0 R0 L R)(he : eff.contains i = true)(hw : Region.wanted o (yielded ops a.tmps) = true)(h:∀g w',St S w0 w' (⟨g,cs,T⟩::L) R->Under L0 R0 (⟨g,cs,T⟩::L) R->SQ P ops Q L0 R0 brk eff lds r (a.put o.dst (.pointer (some ⟨g,0,none⟩))) w'):SQ P ops Q L0 R0 brk eff lds (i::r) a w:=
 jD2 hi he hw fun K hk=>by
  have hz:=hT.zero
  cases hq:P.info? T with
  |none=>simp[hq] at hz
  |some x=>
   cases hs:x.zero with
   |none=>simp[hq,hs] at hz
   |some z=>
    have hc:z.cells=cs.toArray:=by simpa [hq,hs] using hz
    have hL':Under L0 R0 ((⟨w.heap.size,cs,T⟩:Ent)::L) R:=⟨hL.l.cons _,hL.r⟩
    unfold Oper.wp execOp
    simp only[ho,Instr.alloc,zeroValue,typeInfo,newVar,newRow,newObj,Sem.run_bind,Sem.run_pure,Result.andThen_ok]
    simp[hq,hs,hc]
    exact hk _ _ (fun _ _=>(X.alloc cs T).keeps hL') (h _ _ (X.alloc cs T) hL')
end
section
variable{P:Program}{S:List Nat}{w0 w:World}{L:List Ent}{R:List Rd}
variable{ops:Array Oper}{Q:Exit->Act->World->Prop}{L0:List Ent}{R0:List Rd}{brk eff lds r:List Nat}{a:Act}{i:Nat}{o:Oper}
theorem kv4{x : Operand}{v : Value}(hQ : j72 Q)(h : SQ P ops Q L0 R0 brk eff lds r (a.put o.dst v) w)(hi : oAt ops i = some o := by rfl)(ho : o.op = .move x := by rfl)(hx : EvR a x v := by first | exact EvR.const _ | exact EvR.tmp rfl rfl)(he : (!eff.contains i && !lds.contains i) = true := by rfl)(hw : Region.wanted o (yielded ops a.tmps) = true := by rfl) :SQ P ops Q L0 R0 brk eff lds (i::r) a w:=kq_ hi ho hx he hw hQ h
theorem kO0{x : Operand}{v : Value}(hQ : j72 Q)(h : SQ P ops Q L0 R0 brk eff lds r (a.put o.dst v) w)(hi : oAt ops i = some o := by rfl)(ho : o.op = .assign x := by rfl)(hx : EvR a x v := by first | exact EvR.const _ | exact EvR.tmp rfl rfl)(he : (!eff.contains i && !lds.contains i) = true := by rfl)(hw : Region.wanted o (yielded ops a.tmps) = true := by rfl) :SQ P ops Q L0 R0 brk eff lds (i::r) a w:=kF1 hi ho hx he hw hQ h
theorem kq0{x : Operand}{p : Addr}(hQ : j72 Q)(h : SQ P ops Q L0 R0 brk eff lds r (a.put o.dst (.pointer (some p))) w)(hi : oAt ops i = some o := by rfl)(ho : o.op = .nilCheck x := by rfl)(hx : EvR a x (.pointer (some p)) := by first | exact EvR.const _ | exact EvR.tmp rfl rfl)(he : (!eff.contains i && !lds.contains i) = true := by rfl)(hw : Region.wanted o (yielded ops a.tmps) = true := by rfl) :SQ P ops Q L0 R0 brk eff lds (i::r) a w:=kZ7 hi ho hx he hw hQ h
theorem kF3{x : Operand}{T : TypeId}{k d g n : Nat}(hQ : j72 Q)(h : SQ P ops Q L0 R0 brk eff lds r (a.put o.dst (.pointer (some ⟨g, n + d, none⟩))) w)(hi : oAt ops i = some o := by rfl)(ho : o.op = .fieldAddr T x k := by rfl)(hF : FieldT P T k d := by infer_instance)(hx : EvR a x (.pointer (some ⟨g, n, none⟩)) := by first | exact EvR.const _ | exact EvR.tmp rfl rfl)(he : (!eff.contains i && !lds.contains i) = true := by rfl)(hw : Region.wanted o (yielded ops a.tmps) = true := by rfl) :SQ P ops Q L0 R0 brk eff lds (i::r) a w:=kv1 hi ho hx he hw hQ h
end
section
variable{P:Program}{ops:Array Oper}{Q:Exit->Act->World->Prop}{md:Region.Mode}{S:World->Prop}{brk eff lds:List Nat}
def endE(Q:Exit->Act->World->Prop)(E:Act->World->Prop):Exit->Act->World->Prop
 | .normal=>E
 |e=>Q e
theorem jo1{Q':Exit->Act->World->Prop}{i:Nat}{K:Act->World->Prop}{a:Act}{w:World}(hp:∀c,Q (.panic c)=Q' (.panic c))(ho:Q .outgrown=Q' .outgrown)(h:wpOp P ops Q i K a w):wpOp P ops Q' i K a w:=by
 have hl:LetsOut Q=LetsOut Q':=by unfold LetsOut;rw[ho]
 unfold wpOp at*
 split
 ·simpa [*] using h
 ·rename_i o hoi;simp only[hoi] at h
  split
  ·rename_i hw;simp only[hw,if_true] at h;refine h.imp (fun h=>?_) (fun h=>⟨h.1,hl▸h.2⟩);unfold Oper.wp at*;generalize (execOp a.eval o).run P w=r at*
   cases r with
   |ok n w'=>
    cases n<;>simp only[Oper.upon] at h⊢ <;>first|exact h|exact Calls.mono h (fun e w'' he=>by cases e<;>first|exact he| (simp only[<-hp];exact he)| (simp only[<-hl];exact he))
   |halt x w'=>cases x<;>simp only[Oper.upon] at h⊢ <;>first|exact h| (rw[<-hp];exact h)
  ·rename_i hw;simp only[hw] at h;exact h
def jm2(x:Array Bool):List Nat->Array Bool
 | []=>x
 |i::r=>jm2 (x.setIfInBounds i true) r
def jb0(md:Region.Mode)(ops:Array Oper)(brk eff lds:List Nat):Array Bool->List Nat->Bool
 |_,[]=>true
 |x,i::r=>(if eff.contains i=true then Region.ready md ops x== [i] else(Region.ready md ops x).contains i&&Region.free md ops x i&&(!lds.contains i||brk.all (fun b=>kL4 md ops b i)))&&jb0 md ops brk eff lds (x.setIfInBounds i true) r
theorem kj6{E:Act->World->Prop}(hs:Region.noSelect ops=true)(n:Nat):∀(r:List Nat) (x:Array Bool) (a:Act) (w:World),jb0 md ops brk eff lds x r=true->Seq P ops (endE Q E) S brk eff lds r a w->(∀b v,E b v->js5 P md ops Q S brk n (jm2 x r) b v)->js5 P md ops Q S brk (r.length+n) x a w
 | [],x,a,w,_,h,hE=>by rw[iC,jm];exact hE a w h
 |i::r,x,a,w,hk,h,hE=>by
  unfold jb0 at hk;rw[iD] at hk;obtain⟨h1,h2⟩:=hk;unfold Seq at h;rw[iB,Nat.add_right_comm]
  split at h
  ·rename_i he;rw[ij he] at h1;have hr:Region.ready md ops x=[i]:=b_;refine⟨fun e=>(by rw[hr] at e;cases e),fun j hj=>?_⟩;rw[hr] at hj;obtain rfl:j=i:=by simpa using hj
   exact wpOp_mono (fun b v hh=>⟨hh.1,kj6 hs n r _ b v h2 hh.2 hE⟩) (jo1 (Q:=endE Q E) (Q':=Q) (fun _=>rfl) rfl h)
  ·rename_i he;rw[ii he,iD,iD] at h1;obtain⟨⟨h3,h4⟩,h5⟩:=h1
   split at h
   ·rename_i hl;rw[hl,Bool.not_true,lH] at h5;obtain⟨o,v,hi,hy,hS,hQ,hn⟩:=h;exact js5.take (Q:=Q) hi (lF hs) hQ (.inl ⟨rfl,h5⟩) (r.length+n) x a w (fun j oj hj hne hun hno=>mn hi h4 j oj hj hne hun hno) cg hy hS (kj6 hs n r _ _ _ h2 hn hE)
   ·obtain⟨o,v,hi,hy,hQ,hn⟩:=h;exact js5.take (Q:=Q) hi (lF hs) hQ (.inr fun _=>trivial) (r.length+n) x a w (fun j oj hj hne hun hno=>mn hi h4 j oj hj hne hun hno) cg hy trivial (kj6 hs n r _ _ _ h2 hn hE)
inductive Tr where
 |fin (p:List Nat)
 |fork (p:List Nat) (t u:Tr)
def Tr.len:Tr->Nat
 | .fin p=>p.length
 | .fork p t _=>p.length+t.len
def Tr.head:Tr->Option Nat
 | .fin p=>p.head?
 | .fork p _ _=>p.head?
def kX9(P:Program)(ops:Array Oper)(Q:Exit->Act->World->Prop)(S:World->Prop)(brk eff lds:List Nat):Tr->Act->World->Prop
 | .fin p,a,w=>Seq P ops Q S brk eff lds p a w
 | .fork p t u,a,w=>Seq P ops (endE Q fun a w=>kX9 P ops Q S brk eff lds t a w/\kX9 P ops Q S brk eff lds u a w) S brk eff lds p a w
def kp9(md:Region.Mode)(ops:Array Oper)(brk eff lds:List Nat)(x:Array Bool):List Nat->Bool
 | []=>false
 |i::r=>eff.contains i&&jb0 md ops brk eff lds (x.setIfInBounds i true) r
def ku4(md:Region.Mode)(ops:Array Oper)(brk eff lds:List Nat):Bool->Array Bool->Tr->Bool
 |hd,x,.fin p=>(if hd then kp9 md ops brk eff lds x p else jb0 md ops brk eff lds x p)&&(Region.ready md ops (jm2 x p)).isEmpty
 | hd, x, .fork p t u => (if hd then kp9 md ops brk eff lds x p else jb0 md ops brk eff lds x p) &&
     ((t.head.toList++u.head.toList)==Region.ready md ops (jm2 x p)&&(t.len==u.len&&(ku4 md ops brk eff lds true (jm2 x p) t&&ku4 md ops brk eff lds true (jm2 x p) u)))
def kW_(P:Program)(md:Region.Mode)(ops:Array Oper)(Q:Exit->Act->World->Prop)(S:World->Prop)(brk:List Nat)(hd:Bool)(n:Nat)(h:Option Nat)(x:Array Bool)(a:Act)(w:World):Prop:=
 if hd then∃i m,h=some i/\n=m+1/\wpOp P ops Q i (fun b v=>(brk.contains i=false->S w->S v)/\js5 P md ops Q S brk m (x.setIfInBounds i true) b v) a w else js5 P md ops Q S brk n x a w
theorem kl1{E : Act -> World -> Prop}(hs : Region.noSelect ops = true)(hd : Bool)(n : Nat)(p : List Nat)(x : Array Bool)(a : Act)(w : World)(hk:(if hd then kp9 md ops brk eff lds x p else jb0 md ops brk eff lds x p)=true) (h:Seq P ops (endE Q E) S brk eff lds p a w) (hE:∀b v,E b v->js5 P md ops Q S brk n (jm2 x p) b v):kW_ P md ops Q S brk hd (p.length+n) p.head? x a w:=by
 unfold kW_
 cases hd with
 |false=>exact kj6 hs n p x a w hk h hE
 |true=>
  cases p with
  |nil=>cases hk
  |cons i r=>
   simp only[if_true] at hk⊢
   unfold kp9 at hk
   rw[iD] at hk
   unfold Seq at h
   rw[ij hk.1] at h
   exact⟨i,r.length+n,rfl,by rw[iB];omega,wpOp_mono (fun b v hh=>⟨hh.1,kj6 hs n r _ b v hk.2 hh.2 hE⟩) (jo1 (Q:=endE Q E) (Q':=Q) (fun _=>rfl) rfl h)⟩
theorem kU8:endE Q (Q .normal)=Q:=by funext e;cases e<;>rfl
theorem kl2(hs:Region.noSelect ops=true):∀(t:Tr) (hd:Bool) (x:Array Bool) (a:Act) (w:World),ku4 md ops brk eff lds hd x t=true->kX9 P ops Q S brk eff lds t a w->kW_ P md ops Q S brk hd t.len t.head x a w
 | .fin p,hd,x,a,w,hk,h=>by
  unfold ku4 at hk;rw[iD] at hk;unfold kX9 at h;rw[<-kU8 (Q:=Q)] at h;exact kl1 hs hd 0 p x a w hk.1 h fun b v hb=>⟨List.isEmpty_iff.1 hk.2,hb⟩
 | .fork p t u,hd,x,a,w,hk,h=>by
  unfold ku4 at hk;rw[iD,iD,iD,iD] at hk;obtain⟨h1,h2,h3,h4,h5⟩:=hk;unfold kX9 at h;refine kl1 hs hd t.len p x a w h1 h fun b v hb=>?_;have ht:=kl2 hs t true _ b v h4 hb.1;have hu:=kl2 hs u true _ b v h5 hb.2;unfold kW_ at ht hu;rw[ij rfl] at ht hu;obtain⟨i,m,hi,hm,hwi⟩:=ht;obtain⟨j,k,hj,hk,hwj⟩:=hu;have h6:t.len=u.len:=cg;obtain rfl:m=k:=aa;rw[hi,hj] at h2;have hr:Region.ready md ops (jm2 x p)=[i,j]:=(show [i,j]=Region.ready md ops (jm2 x p) from iT.1 h2).symm;rw[hm];refine⟨fun e=>(by rw[hr] at e;cases e),fun l hl=>?_⟩;rw[hr] at hl;rcases iS.1 hl with rfl|hl
  ·exact hwi
  ·obtain rfl:l=j:=by simpa using hl
   exact hwj
end
section
variable{P:Program}{ops:Array Oper}{Q:Exit->Act->World->Prop}{L0:List Ent}{brk eff lds:List Nat}{i:Nat}{r:List Nat}{o:Oper}{a:Act}{S:List Nat}{w0 w:World}{L:List Ent}{R R0:List Rd}
abbrev SQT(P:Program)(ops:Array Oper)(Q:Exit->Act->World->Prop)(L0:List Ent)(R0:List Rd)(brk eff lds:List Nat):Tr->Act->World->Prop:=kX9 P ops Q (Kept L0 R0) brk eff lds
theorem kq4{id : Nat}(k : Nat)(brk eff lds : List Nat)(t : Tr)(X : St S w0 w L R)(hm : P.follows .mixedOrders = true)(hs : (Region.noSelect ops && (t.len == ops.size && ku4 .any ops brk eff lds false (Array.replicate ops.size false) t)) = true)(hQ : j72 Q)(h:j72 Q->St S w0 w.drew L R->Under (L.take k) R L R->SQT P ops Q (L.take k) R brk eff lds t a w.drew):(Code.region id ops true).wp P Q a w:=by
 rw[iD,iD] at hs;obtain⟨h1,h2,h3⟩:=hs;have:=kl2 h1 t false _ a _ h3 (h hQ X.drew ⟨mg _ _,fun _ h=>h⟩);unfold kW_ at this;rw[ii ae,show t.len=ops.size by simpa using h2] at this;exact wp_region_any hm (js5.any _ _ _ _ this)
theorem j72.endE(h:j72 Q)(E:Act->World->Prop):j72 (endE Q E):=h
theorem jE5{p:List Nat}{t u:Tr}(h:j72 (endE Q fun a w=>SQT P ops Q L0 R0 brk eff lds t a w/\SQT P ops Q L0 R0 brk eff lds u a w)->SQ P ops (endE Q fun a w=>SQT P ops Q L0 R0 brk eff lds t a w/\SQT P ops Q L0 R0 brk eff lds u a w) L0 R0 brk eff lds p a w)(hQ:j72 Q):SQT P ops Q L0 R0 brk eff lds (.fork p t u) a w:=h (hQ.endE _)
theorem jN5{p:List Nat}(h:SQ P ops Q L0 R0 brk eff lds p a w):SQT P ops Q L0 R0 brk eff lds (.fin p) a w:=h
theorem jd8{A B:Act->World->Prop}(h1:A a w)(h2:B a w):SQ P ops (endE Q fun a w=>A a w/\B a w) L0 R0 brk eff lds [] a w:=⟨h1,h2⟩
theorem kv6(hi : oAt ops i = some o)(he : eff.contains i = true)(hw : Region.wanted o (yielded ops a.tmps) = false)(h:SQ P ops Q L0 R0 brk eff lds r (a.put o.dst undef) w):SQ P ops Q L0 R0 brk eff lds (i::r) a w:=by
 unfold SQ Seq;rw[ij he];unfold wpOp;rw[jH9 hi];simp only[hw];exact⟨fun _ h=>h,h⟩
theorem kv7(hi : oAt ops i = some o)(he : (!eff.contains i && lds.contains i) = true)(hw : Region.wanted o (yielded ops a.tmps) = false)(X : St S w0 w L R)(hL : Under L0 R0 L R)(hQ : j72 Q)(h:SQ P ops Q L0 R0 brk eff lds r (a.put o.dst undef) w):SQ P ops Q L0 R0 brk eff lds (i::r) a w:=by
 rw[iD,kh] at he;unfold SQ Seq;rw[ii (by rw[he.1];decide),ij he.2];exact⟨o,undef,jH9 hi,.inr ⟨hw,rfl⟩,X.keeps hL,fun c a w hh=>hQ.all c a o.dst undef w hh,h⟩
theorem kq1(A B : List Ent){x y : Operand}{T : TypeId}{g n : Nat}{cs : List Value}{t : TypeId}(hi : oAt ops i = some o)(ho : o.op = .store T x y)(hx : EvR a x (.pointer (some ⟨g, n, none⟩)))[OneT P T]{v : Value}(hy : EvR a y v)(X:St S w0 w (A++⟨g,cs,t⟩::B) R) (hn:n<cs.length) (h1:v.oneCell'=true) (hc:v.cells= #[v]) (he:eff.contains i=true) (hw:Region.wanted o (yielded ops a.tmps)=true) (hL:Under L0 R0 (A++⟨g,cs,t⟩::B) R) (hA:L0.Sublist (A++B))(h:∀w',St S w0 w' (A++⟨g,upd n [v] cs,t⟩::B) R->Under L0 R0 (A++⟨g,upd n [v] cs,t⟩::B) R->SQ P ops Q L0 R0 brk eff lds r (a.put o.dst undef) w'):SQ P ops Q L0 R0 brk eff lds (i::r) a w:=
 k31 A B hi ho hx hy X hn h1 hc he hw fun w' X2=>by
  have h3:Under L0 R0 (A++⟨g,upd n [v] cs,t⟩::B) R:=⟨hA.trans (lR (iQ _ _) _),hL.r⟩;exact⟨fun _ _=>X2.keeps h3,h w' X2 h3⟩
theorem kq2(A B : List Ent){x y : Operand}{T : TypeId}{g n m : Nat}{cs : List Value}{t : TypeId}(hi : oAt ops i = some o)(ho : o.op = .store T x y)(hx : EvR a x (.pointer (some ⟨g, n, none⟩)))[hT : AggT P T m]{vs : List Value}(hy : a.eval y = .agg vs.toArray)(X:St S w0 w (A++⟨g,cs,t⟩::B) R) (hm:vs.length=m) (hn:n+vs.length<=cs.length) (h1:vs.all (·.oneCell')=true) (he:eff.contains i=true) (hw:Region.wanted o (yielded ops a.tmps)=true) (hL:Under L0 R0 (A++⟨g,cs,t⟩::B) R) (hA:L0.Sublist (A++B))(h:∀w',St S w0 w' (A++⟨g,upd n vs cs,t⟩::B) R->Under L0 R0 (A++⟨g,upd n vs cs,t⟩::B) R->SQ P ops Q L0 R0 brk eff lds r (a.put o.dst undef) w'):SQ P ops Q L0 R0 brk eff lds (i::r) a w:=
 k32 A B hi ho hx hy X hm hn h1 he hw fun w' X2=>by
  have h3:Under L0 R0 (A++⟨g,upd n vs cs,t⟩::B) R:=⟨hA.trans (lR (iQ _ _) _),hL.r⟩;exact⟨fun _ _=>X2.keeps h3,h w' X2 h3⟩
end
end Wb