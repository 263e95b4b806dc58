/- Parts of the proof. -/
import Derived.Test.YtlecmdajpfkaeaaGreatDoorKJournalPlaysA0
import Derived.WalkSpells
import Derived.WalkLawsBesides
import Derived.Deep.Slices
import Derived.Deep.AppendSrc
import Derived.BigQuiet
import Derived.Test.YtlecmdajpfkaeaaGreatDoorRows
import Derived.ProofKit
import Derived.OpenShut
import Derived.Deep.DeepHandedRow
import Derived.LaidLaws
import Derived.Deep.RegionLaw
set_option linter.unusedVariables false
set_option linter.unusedSimpArgs false
set_option maxRecDepth 100000
set_option maxHeartbeats 40000000
namespace Wb
open Go Go.RowKit
theorem hid{p:Prop}(h:p):Hid p:=h
theorem j6_{a b:Bool}(h:a=b):Ending.returned (.bool a)=.returned (.bool b):=by rw[h]
theorem jW4{k:IntKind}{a b:Int}(h:a=b):Ending.returned (.int k a)=.returned (.int k b):=by rw[h]
theorem kn3{a b:ByteArray}(h:a=b):Ending.returned (.string a)=.returned (.string b):=by rw[h]
def Sl(w:World)(v:Value)(n:Nat)(cs:List Value):Prop:=
 ∃a cap,v=.slice a n cap/\n<=cap/\cap<=maxLen/\
  (cs=[]\/ ∃b off,a=some ⟨b,off,none⟩/\ ∀j u,cs[j]? =some u->w.cell? ⟨b,off+j,none⟩=some u)
theorem j63{B:Nat}{a w:World}(h:Below B a w)(hB:B<=a.heap.size)(o:Obj):Below B a (w.alloc o):=h.alloc (i3 hB h.size) o
theorem Zlo{A:Prop}(h:A:=by repeat(first|exact jW _ _|with_reducible assumption| (refine j63 ?_ dg _)| (refine Below.setCell ?_ dg _)|refine Below.drew ?_ | (refine Below.trans ?_ (Below.mono (by with_reducible assumption) dg)))):A:=h
theorem Zga{α:Type}{l:List α}{i:Nat}:l.toArray[i]? =l[i]? :=jv
theorem Zgb{α:Type}{a:α}{l:List α}:(a::l)[0]? =some a:=rfl
theorem Zgc{α:Type}{a:α}{l:List α}{i:Nat}:(a::l)[i+1]? =l[i]? :=rfl
theorem j_5{w w':World}(hb:Below w.heap.size w w'){p:Addr}{u:Value}(h:w.cell? p=some u):w'.cell? p=some u:=
 (hb.cell (i0 w p h)).trans h
theorem Sl.below{w w':World}{v:Value}{n:Nat}{cs:List Value}(h:Sl w v n cs)(hb:Below w.heap.size w w'):Sl w' v n cs:=by
 obtain⟨a,cap,hv,h1,h2,h3⟩:=h;refine⟨a,cap,hv,h1,h2,h3.imp id ?_⟩;rintro⟨b,off,ha,hc⟩;exact⟨b,off,ha,fun j u hj=>j_5 hb (hc j u hj)⟩
def RL{α:Type}(f:α->List Value)(w:World)(v:Value)(l:List α):Prop:=Sl w v l.length (l.flatMap f)
theorem RL.below{α:Type}{f:α->List Value}{w w':World}{v:Value}{l:List α}(h:RL f w v l)(hb:Below w.heap.size w w'):RL f w' v l:=Sl.below h hb
theorem jn2{α:Type}{f:α->List Value}{c:Nat}(hf:∀x,(f x).length=c):∀(l:List α) (k:Nat) (x:α),l[k]? =some x->∀i u,(f x)[i]? =some u->(l.flatMap f)[k*c+i]? =some u
 | [],k,x,h,i,u,_=>by simp at h
 |y::l,0,x,h,i,u,hu=>by
  simp at h;subst h;rw[jj,kq,jm,i8]
  ·exact hu
  ·exact(i4.1 hu).1
 |y::l,k+1,x,h,i,u,hu=>by
  have:=jn2 hf l k x (by simpa using h) i u hu;rw[jj,jb (by rw[hf,ju];omega),hf];rw[show(k+1)*c+i-c=k*c+i by rw[ju];omega];exact this
theorem j95{α:Type}{f:α->List Value}{c:Nat}(hf:∀x,(f x).length=c)(l:List α):(l.flatMap f).length=l.length*c:=by
 induction l with
 |nil=>simp
 |cons y l ih=>rw[jj,il,ih,hf,iB,ju];omega
theorem RL.at{α : Type}{f : α -> List Value}{c : Nat}(hf : ∀ x, (f x).length = c){w : World}{a : Option Addr}{n cap : Nat}{l : List α}(h : RL f w (.slice a n cap) l){k : Nat}(hk : k < l.length)(h0 : 0 < c) :∃b off,a=some ⟨b,off,none⟩/\ ∀i u,(f l[k])[i]? =some u->w.cell? ⟨b,off+k*c+i,none⟩=some u:=by
 obtain⟨a',cap',hv,h1,h2,h3⟩:=h;simp only[i9] at hv;obtain⟨rfl,hn,rfl⟩:=hv;have hl:=j95 hf l;rcases h3 with h3|⟨b,off,ha,hc⟩
 ·exfalso;rw[h3] at hl;have h4:0<l.length*c:=Nat.mul_pos aa h0;rw[<-hl] at h4;simp at h4
 ·refine⟨b,off,ha,fun i u hu=>?_⟩;have:=hc _ u (jn2 hf l k l[k] (by simp[hk]) i u hu);rw[<-kZ] at this;exact this
theorem RL.form{α:Type}{f:α->List Value}{w:World}{v:Value}{l:List α}(h:RL f w v l):∃a cap,v=.slice a l.length cap/\l.length<=cap/\cap<=maxLen:=
 let⟨a,cap,hv,h1,h2,_⟩:=h
 ⟨a,cap,hv,h1,h2⟩
theorem kl6{α : Type}{f : α -> List Value}{w : World}{a : Option Addr}{n cap : Nat}{l : List α}(g0 : α -> Value)(hf : ∀ x, f x = [g0 x])(h : RL f w (.slice a n cap) l){k : Nat}(hk : k < l.length) :∃b off,a=some ⟨b,off,none⟩/\w.cell? ⟨b,off+k,none⟩=some (g0 l[k]):=by
 obtain⟨b,off,ha,hc⟩:=RL.at (c:=1) (fun x=>bj) h hk ae;refine⟨b,off,ha,?_⟩;have:=hc 0 (g0 l[k]) bj;simpa using this
theorem kj3{α : Type}{f : α -> List Value}{w : World}{a : Option Addr}{n cap : Nat}{l : List α}(g0 g1 : α -> Value)(hf : ∀ x, f x = [g0 x, g1 x])(h : RL f w (.slice a n cap) l){k : Nat}(hk : k < l.length) :∃b off,a=some ⟨b,off,none⟩/\w.cell? ⟨b,off+k*2,none⟩=some (g0 l[k])/\w.cell? ⟨b,off+k*2+1,none⟩=some (g1 l[k]):=by
 obtain⟨b,off,ha,hc⟩:=RL.at (c:=2) (fun x=>bj) h hk ae;exact⟨b,off,ha,hc 0 _ bj,hc 1 _ bj⟩
theorem RL.at3{α : Type}{f : α -> List Value}{w : World}{a : Option Addr}{n cap : Nat}{l : List α}(g0 g1 g2 : α -> Value)(hf : ∀ x, f x = [g0 x, g1 x, g2 x])(h : RL f w (.slice a n cap) l){k : Nat}(hk : k < l.length) :∃b off,a=some ⟨b,off,none⟩/\w.cell? ⟨b,off+k*3,none⟩=some (g0 l[k])/\w.cell? ⟨b,off+k*3+1,none⟩=some (g1 l[k])/\w.cell? ⟨b,off+k*3+2,none⟩=some (g2 l[k]):=by
 obtain⟨b,off,ha,hc⟩:=RL.at (c:=3) (fun x=>bj) h hk ae;exact⟨b,off,ha,hc 0 _ bj,hc 1 _ bj,hc 2 _ bj⟩
theorem kk6{w:World}{base:Nat}{e:TypeId}{size:Nat}{v:Value}{n:Nat}{xs:List Value}(h:w.ownsRow base e size v n xs):Sl w v n xs:=by
 have hh:=h;obtain⟨h1,h2⟩:=h;rcases h2 with ⟨rfl,rfl⟩|⟨g,cap,cur,rfl,hb,hg,hn,hc,hs,ht⟩
 ·simp only[kq,i5] at h1;exact⟨none,0,rfl,iy _,aE,.inl h1⟩
 ·refine⟨some ⟨g,0,none⟩,cap,rfl,hn,hc,.inr ⟨g,0,rfl,fun j u hj=>?_⟩⟩;have:=hh.cells (g:=g) rfl j u hj;have hadd:(⟨g,0,none⟩:Addr).add j=⟨g,0+j,none⟩:=by unfold Addr.add;split<;>simp_all
  rw[<-hadd];exact this
theorem Sl.nil(w:World)(n:Nat)(hn:n=0):Sl w (.slice none n 0) n []:=⟨none,0,rfl,aa,aE,.inl rfl⟩
theorem RL.nil{α:Type}(f:α->List Value)(w:World):RL f w (.slice none 0 0) []:=Sl.nil w 0 rfl
structure Flat{α:Type}(f:α->List Value)(c:Nat):Prop where
 len:∀x,(f x).length=c
 one:∀x,∀u∈f x,u.oneCell'=true
 pos:0<c
structure Elem(P:Program)(t e:TypeId)(c bytes:Nat):Prop where
 under:P.underlying t=some (.slice e)
 info:∃i z,P.info? e=some i/\i.zero=some z/\i.size=c/\i.bytes=bytes/\z.cells.size=c
theorem kj_{P:Program}{t e:TypeId}{z:Value}{c bytes:Nat}(h:P.underlying t=some (.slice e))(hi:(P.info? e).map (fun i=>(i.zero,i.size,i.bytes))=some (some z,c,bytes))(hz:z.cells.size=c):Elem P t e c bytes:=by
 obtain⟨i,h1,h2,h3,h4⟩:=info_parts hi;exact⟨h,i,z,h1,h2,h3,h4,hz⟩
def Own{α:Type}(f:α->List Value)(base:Nat)(e:TypeId)(c:Nat)(w:World)(v:Value)(l:List α):Prop:=w.ownsRow base e c v l.length (l.flatMap f)
theorem Own.nil{α:Type}(f:α->List Value)(base:Nat)(e:TypeId)(c:Nat)(w:World):Own f base e c w (.slice none 0 0) []:=World.ownsRow_nil w base e c
theorem Own.reads{α:Type}{f:α->List Value}{base:Nat}{e:TypeId}{c:Nat}{w:World}{v:Value}{l:List α}(h:Own f base e c w v l):RL f w v l:=kk6 h
theorem Own.alloc{α:Type}{f:α->List Value}{base:Nat}{e:TypeId}{c:Nat}{w:World}{v:Value}{l:List α}(h:Own f base e c w v l)(o:Obj):Own f base e c (w.alloc o) v l:=World.ownsRow.alloc h o
theorem Own.mono{α:Type}{f:α->List Value}{base base':Nat}{e:TypeId}{c:Nat}{w:World}{v:Value}{l:List α}(h:Own f base e c w v l)(hb:base'<=base):Own f base' e c w v l:=by
 obtain⟨h1,h2⟩:=h;exact⟨h1,h2.imp id fun⟨g,cap,cur,a,b,r⟩=>⟨g,cap,cur,a,i3 hb b,r⟩⟩
theorem Own.below{α:Type}{f:α->List Value}{base:Nat}{e:TypeId}{c:Nat}{w w':World}{v:Value}{l:List α}(h:Own f base e c w v l)(hb:Below w.heap.size w w'):Own f base e c w' v l:=by
 obtain⟨h1,h2⟩:=h;refine⟨h1,h2.imp id fun⟨g,cap,cur,a,b,hg,r⟩=>⟨g,cap,cur,a,b,?_,r⟩⟩;rw[hb.block g (jq.1 hg).1];exact hg
theorem Own.grown{α:Type}{f:α->List Value}{base:Nat}{e:TypeId}{c:Nat}{w w':World}{v:Value}{l:List α}{row:Option Nat}(h:Own f base e c w v l)(hg:w.grownBy w' row)(hne:v.ownBlock=none\/v.ownBlock≠row):Own f base e c w' v l:=World.ownsRow.kept h hg hne
theorem Own.setCell{α:Type}{f:α->List Value}{base:Nat}{e:TypeId}{c:Nat}{w:World}{v:Value}{l:List α}(h:Own f base e c w v l){p:Addr}(hp:p.block<base)(u:Value):Own f base e c (w.setCell p u) v l:=ownsRow_setCell_below h hp u
theorem Own.form{α:Type}{f:α->List Value}{base:Nat}{e:TypeId}{c:Nat}{w:World}{v:Value}{l:List α}(h:Own f base e c w v l):∃a cap,v=.slice a l.length cap:=by
 obtain⟨a,cap,hv,_,_⟩:=h.reads.form;exact⟨a,cap,hv⟩
theorem jl8{P : Program}(w : World)(base : Nat)(t ty e : TypeId)(c bytes : Nat)(hT : Elem P t e c bytes)(v : Value)(n : Nat)(xs : List Value)(hown : w.ownsRow base e c v n xs)(ao : Option Addr)(cc : Nat) :(Builtin.append_ #[t,t] ty #[v,.slice ao 0 cc]).run P w=.ok v w:=by
 obtain⟨ht,i,z,hi,_⟩:=hT;rcases hown.2 with ⟨rfl,rfl⟩|⟨g,cap,cur,rfl,hbg,hg,hnc,hcm,hcs,htake⟩
 ·cases ao<;>simp[Builtin.append_,jR ht,Go.sizeOf,typeInfo,hi,Builtin.lenOf,Builtin.firstCells,loadCells,loadCellsFrom]
 ·cases ao<;>simp[Builtin.append_,jR ht,Go.sizeOf,typeInfo,hi,Builtin.lenOf,Builtin.firstCells,loadCells,loadCellsFrom,hnc,storeCells]
theorem kN2{α : Type}{f : α -> List Value}{P : Program}(w : World)(base : Nat)(t ty e : TypeId)(c bytes : Nat)(hF : Flat f c)(hT : Elem P t e c bytes)(v : Value)(l : List α)(hown : Own f base e c w v l)(vx:Value) (l2:List α) (hs:RL f w vx l2) (hroom:(l.length+l2.length)*bytes<=140737488355328) (h63:l.length+l2.length<=maxLen) (hbase:base<=w.heap.size):∃v' w',(Builtin.append_ #[t,t] ty #[v,vx]).run P w=.ok v' w'/\Own f base e c w' v' (l++l2)/\w.grownBy w' v.ownBlock:=by
 obtain⟨a,cap,rfl,h1,h2,h3⟩:=hs
 cases l2 with
 |nil=>
  exact⟨v,w,jl8 w base t ty e c bytes hT v _ _ hown a cap,by simpa using hown,World.grownBy.refl _ _⟩
 |cons y l2=>
  rcases h3 with h3|⟨b,off,rfl,hc⟩
  ·exfalso;have hl:=j95 hF.len (y::l2);have h4:0<(y::l2).length*c:=Nat.mul_pos ag hF.pos;rw[h3] at hl;rw[<-hl] at h4;simp at h4
  ·obtain⟨ht,i,z,hi,hz,hsz,hby,hzs⟩:=hT
   obtain⟨v',w',hr,r1,r2,_⟩:=run_append_own (P:=P) w base t ty e i z c bytes ht hi hz hsz hby hzs hF.pos v _ _ hown ⟨b,off,none⟩ (y::l2).length cap ((y::l2).flatMap f) (j95 hF.len _)
    (fun j u hj=>dF) (fun u hu=>bE) h63 hroom hbase
   refine⟨v',w',hr,?_,r2⟩;unfold Own;rw[il,jz];exact r1
theorem j62{α : Type}{f : α -> List Value}{P : Program}{w : World}{ops : Array Oper}{rest : List Oper}{o : Oper}{a : Act}{Q : Exit -> Act -> World -> Prop}(hgd : o.guard = none)(s x : Operand)(t : TypeId)(ho:o.op=.call {callee:=.builtin .append,args:= #[s,x],argTypes:= #[t,t]})(base:Nat) (e:TypeId) (c bytes:Nat) (hF:Flat f c) (hT:Elem P t e c bytes) {v:Value} {l:List α} (hown:Own f base e c w v l) (hs:a.eval s=v){vx:Value} (l2:List α) (hsrc:RL f w vx l2) (hx:a.eval x=vx) (hroom:(l.length+l2.length)*bytes<=140737488355328) (h63:l.length+l2.length<=maxLen) (hbase:base<=w.heap.size)(h:∀v' w',Own f base e c w' v' (l++l2)->w.grownBy w' v.ownBlock->wpList P ops Q rest (a.put o.dst v') w'):wpList P ops Q (o::rest) a w:=by
 refine wpList_plain hgd fun K hK=>?_;obtain⟨v',w',hr,r1,r2⟩:=kN2 (P:=P) w base t o.type e c bytes hF hT v l hown vx l2 hsrc hroom h63 hbase;unfold Oper.wp execOp;simp only[ho,resolve,invoke,builtin,Sem.run_bind,Sem.run_pure,Result.andThen_ok,ky,jr,jN,hs,hx,hr];exact hK _ _ (h v' w' r1 r2)
theorem kl5{α:Type}{f:α->List Value}(w:World)(e:TypeId)(fr:Nat×Nat)(y:α):RL f (w.alloc (.cells (f y).toArray e fr)) (.slice (some ⟨w.heap.size,0,none⟩) 1 1) [y]:=by
 refine⟨_,_,rfl,iy _,aE,.inr ⟨_,_,rfl,fun j u hj=>?_⟩⟩;rw[cell_of_row _ _ _ (f y).toArray e fr (kT w _)];simpa using hj
theorem j70{α : Type}{f : α -> List Value}{P : Program}{w : World}{ops : Array Oper}{rest : List Oper}{o : Oper}{a : Act}{Q : Exit -> Act -> World -> Prop}{cs : Array Value}{fr : Nat × Nat}{g : Nat}(hgd : o.guard = none)(s x : Operand)(t : TypeId)(ho:o.op=.call {callee:=.builtin .append,args:= #[s,x],argTypes:= #[t,t]})(base:Nat) (e:TypeId) (c bytes:Nat) (hF:Flat f c) (hT:Elem P t e c bytes) {v:Value} {l:List α} (hown:Own f base e c w v l) (hs:a.eval s=v)(y:α) (hcs:(f y).toArray=cs) (hx:a.eval x=.slice (some ⟨g,0,none⟩) 1 1) (hroom:(l.length+1)*bytes<=140737488355328) (h63:l.length+1<=maxLen) (hbase:base<=w.heap.size)(h:∀v' w',Own f base e c w' v' (l++ [y])->Below base w w'->w.grownBy w' v.ownBlock->wpList P ops Q rest (a.put o.dst v') w') (hg:g=w.heap.size:=by first|rfl| (simp;done)):wpList P ops Q (o::rest) a (w.alloc (.cells cs e fr)):=by
 subst hcs;subst hg;refine j62 hgd s x t ho base e c bytes hF hT (hown.alloc _) hs [y] (kl5 w e fr y) hx hroom h63 ah fun v' w' h1 h2=>?_;have hlt:=jE hown
 exact h v' w' h1 (((jW base w).alloc hbase _).grown h2 ah fun k hk=>(hlt k hk).1)
  ⟨h2.os,h2.tape,h2.output,by have:=h2.size;simp at this;omega,fun k hk hne=>by rw[h2.block k ah hne,kU w _ k hk]⟩
def j_9(x:Int):List Value:=[.int .i64 x]
def j42(x:ByteArray):List Value:=[.string x]
theorem j9_:Flat j_9 1:=⟨fun _=>rfl,fun _ u hu=>by simp[j_9] at hu;subst hu;rfl,ae⟩
theorem j89:Flat j42 1:=⟨fun _=>rfl,fun _ u hu=>by simp[j42] at hu;subst hu;rfl,ae⟩
theorem j51{W w1:World}(hb:Below W.heap.size W w1):(∀b o,b<W.heap.size->w1.cell? ⟨b,o,none⟩=W.cell? ⟨b,o,none⟩)/\(∀b o,b<W.heap.size->w1.frozen? ⟨b,o,none⟩=W.frozen? ⟨b,o,none⟩):=
 ⟨fun b o h=>hb.cell (p:=⟨b,o,none⟩) h,fun b o h=>hb.frozen (p:=⟨b,o,none⟩) h⟩
def Blk(w:World)(b:Nat)(cs:Array Value)(t:TypeId):Prop:=w.heap[b]? =some (.cells cs t (0,0))
section
variable{w w':World}{b:Nat}{cs:Array Value}{t:TypeId}
theorem Blk.cell(h:Blk w b cs t)(i:Nat):w.cell? ⟨b,i,none⟩=cs[i]? :=by unfold Blk at h;simp[World.cell?,h]
theorem Blk.free(h:Blk w b cs t)(i:Nat):w.frozen? ⟨b,i,none⟩=false:=by unfold Blk at h;simp[World.frozen?,h]
theorem Blk.lt(h:Blk w b cs t):b<w.heap.size:=(jq.1 h).1
theorem Blk.drewN(h:Blk w b cs t)(n:Nat):Blk (w.drewN n) b cs t:=h
theorem jP4{B n:Nat}{a:World}(h:Below B a w):Below B a (w.drewN n):=⟨h.os,h.tape,h.output,h.size,h.block⟩
theorem Blk.below{B:Nat}(h:Blk w b cs t)(hb:Below B w w')(hlt:b<B):Blk w' b cs t:=(hb.block b hlt).trans h
theorem Blk.step(h:Blk w b cs t)(hb:Below w.heap.size w w'):Blk w' b cs t:=h.below hb h.lt
theorem kk3(w:World)(cs:Array Value)(t:TypeId):Blk (w.alloc (.cells cs t)) w.heap.size cs t:=kT w _
theorem kl8{n:Nat}(hn:n=w.heap.size):Blk (w.alloc (.cells cs t)) n cs t:=by rw[hn];exact kk3 w cs t
theorem Blk.alloc(h:Blk w b cs t)(o:Obj):Blk (w.alloc o) b cs t:=(heap_alloc_old w o h.lt).trans h
theorem Blk.drew(h:Blk w b cs t):Blk w.drew b cs t:=h
theorem Blk.set(h:Blk w b cs t)(i:Nat)(v:Value):Blk (w.setCell ⟨b,i,none⟩ v) b (cs.setIfInBounds i v) t:=by
 have hl:=h.lt;unfold Blk at*;obtain⟨h1,h2⟩:=jq.1 h;simp only[World.setCell];rw[lO (by simpa using hl),Array.getElem_modify];simp[h2]
theorem Blk.set_other(h:Blk w b cs t)(p:Addr)(v:Value)(hne:b≠p.block):Blk (w.setCell p v) b cs t:=(k_ w p v b hne).trans h
theorem Blk.grown{row:Option Nat}(h:Blk w b cs t)(hg:w.grownBy w' row)(hne:some b≠row):Blk w' b cs t:=(hg.block b h.lt hne).trans h
end
structure BW(W:World) where
 val:World
 below:Below W.heap.size W val
instance BW.nonempty{W:World}:Nonempty (BW W):=⟨⟨W,jW _ _⟩⟩
@[go_sem] theorem BW.cell{W : World}(x : BW W)(b o : Nat)(h : b < W.heap.size) : x.val.cell? ⟨b, o, none⟩ = W.cell? ⟨b, o, none⟩ := x.below.cell (p := ⟨b, o, none⟩) h
theorem j83{P : Program}{id : Nat}{Q : Exit -> Act -> World -> Prop}{a : Act}{w : World}{l : List Oper}(hm : P.follows .mixedOrders = true)(hB : Region.lexB .any l.toArray = true)(h:wpQuiet P l.toArray (fun w'=>∃x:BW w,w'=x.val) (fun a'=>∀w',(∃x:BW w,w'=x.val)->Q .normal a' w') l a):(Code.region id l.toArray true).wp P Q a w:=
 wp_region_quiet (C:=fun w'=>∃x:BW w,w'=x.val) hm hB ⟨⟨_,(jW _ w).drew⟩,rfl⟩ (by simpa using h)
theorem BW.call{P : Program}{f : FuncId}{args : Array Value}{W : World}{x : BW W}{v : Value}(h:Calls P f args x.val fun e w'=>e=.returned v/\Below x.val.heap.size x.val w'):Calls P f args x.val fun e w''=>e=.returned v/\ ∃y:BW W,w''=y.val:=
 h.mono fun _ w' ⟨he,hb⟩=>⟨he,⟨w',x.below.trans (hb.mono x.below.size)⟩,rfl⟩
theorem kl4{P : Program}{f : FuncId}{args : Array Value}{W : World}{x : BW W}{v : Value}(h:Calls P f args x.val fun e w'=>e=.returned v/\x.val=w'):Calls P f args x.val fun e w''=>e=.returned v/\ ∃y:BW W,w''=y.val:=
 h.mono fun _ _ ⟨he,hb⟩=>⟨he,x,hb.symm⟩
end Wb
namespace Go.Proofs.YtlecmdajpfkaeaaGreatDoor
open Go.ChangeShapes Go.WideShapes Go.ChangeAt Go.RowKit Wb
theorem own:ownKnob Tryz.prog.godebug=none:=af
theorem ky8:laidOutB Tryz.prog=true:=af
theorem jI6{H : Type}{enc : TypeId × Value -> H}{W W' : World}{sp : Nat -> Bool}(hb : Below W.heap.size W W') : ∀ (ts : List TypeId) (vs : List Value) (ds : List (DataW H)) (ps : List MemPlace),(∀t∈ts,Tryz.prog.readableRec t=true/\t<Tryz.prog.types.size)->DataW.TrodAll enc Tryz.prog W 0 (fun _=>true) true ts vs ds ps->(∀x∈ps,x.block<W.heap.size)->(∀x∈ps,sp x.block=true)->DataW.TrodAll enc Tryz.prog W' 0 sp true ts vs ds ps
 | [],[],[],_,_,h,_,_=>h
 |t::ts,v::vs,d::ds,ps,hr,h,hlt,hs=>by
  obtain⟨p,q,h1,h2,rfl⟩:=h;refine⟨p,q,?_,?_,rfl⟩
  ·exact WideElems.Trod_stays ky8 (hr t ag).1 (hr t ag).2 h1 (fun x hx=>hb.same (hlt x bh)) (fun x hx=>hs x bh)
  ·exact jI6 hb ts vs ds q (fun t' ht=>hr t' (by simp[ht])) h2 (fun x hx=>hlt x bh) (fun x hx=>hs x bh)
 | [],[],_::_,_,_,h,_,_=>h.elim
 | [],_::_,_,_,_,h,_,_=>h.elim
 |_::_,[],_,_,_,h,_,_=>h.elim
 |_::_,_::_,[],_,_,h,_,_=>h.elim
theorem jf3{H : Type}{enc : TypeId × Value -> H}{f : Func}{s : ChangeSpec}{apart fresh handsOn : Bool}{W W' : World}{args : Array Value}{ds gs : List (DataW H)}{before : List MemPlace}(hres:f.resultTypes= #[4]) (hvars:s.vars=[]) (hspec:s.fn H (ds++gs)={results:=[.lit (.bool true)],args:=ds})(hread:∀t∈f.params.toList,Tryz.prog.readableRec t=true/\t<Tryz.prog.types.size)(hW:DataW.Whole enc Tryz.prog f.params.toList s.vars apart W args.toList ds gs before) (hb:Below W.heap.size W W'):s.post enc Tryz.prog f apart fresh handsOn false W args (.bool true) W':=by
 have hlt:=hW.lt;have hW':=hW;obtain⟨p,q,hA,hV,rfl,hfz,hnd⟩:=hW;rw[hvars] at hV;obtain⟨rfl,rfl⟩:=trodVars_none hV;refine⟨ds,[],_,[],p,[],hW',?_,?_,?_,hb.frame _,fun h=>dZ⟩
 ·rw[hspec,hres];exact trodAll_mk1 (shut_bool Tryz.underlying4 true)
 ·rw[hspec];exact jI6 hb _ _ _ _ hread hA (fun x hx=>hlt x bh) (fun x hx=>by simpa using hlt x bh)
 ·rw[hspec,hvars];rfl
end Go.Proofs.YtlecmdajpfkaeaaGreatDoor
namespace Wb
open Go Go.RowKit
theorem k35{x:Value}{a b:ByteArray}(h:a=b):Ending.returned (.tuple #[.string a,x])=.returned (.tuple #[.string b,x]):=by rw[h]
def jZ8(b:UInt8):List Value:=[.int .u8 b.toNat]
theorem j19:Flat jZ8 1:=⟨fun _=>rfl,fun _ u hu=>by simp[jZ8] at hu;subst hu;rfl,ae⟩
def str(bs:List UInt8):ByteArray:=⟨bs.toArray⟩
theorem jV6(bs:List UInt8):(str bs).size=bs.length:=by simp[str,ByteArray.size]
theorem jO6(s:ByteArray):str s.data.toList=s:=by cases s;simp[str]
theorem k01(ns:List UInt8):∀(s:ByteArray),((ns.map fun b=>((b.toNat:Nat):Int)).foldl (fun r n=>r.push (UInt8.ofNat n.toNat)) s)=⟨s.data++ns.toArray⟩:=by
 induction ns with
 |nil=>intro s;simp
 |cons b ns ih=>
  intro s
  simp only[jr,List.foldl_cons]
  rw[ih]
  simp[ByteArray.push]
theorem jP8(bs:List UInt8):bs.flatMap jZ8=(bs.map fun b=>((b.toNat:Nat):Int)).map (Value.int .u8):=by
 induction bs with
 |nil=>rfl
 |cons x bs ih=>rw[jj,ih];rfl
theorem jP0{P : Program}{w : World}{src dst e : TypeId}{v : Value}(bs : List UInt8)(hs : P.underlying src = some (.slice e))(he : P.underlying e = some (.int .u8))(hd : P.underlying dst = some .string)(hr:RL jZ8 w v bs):(convert src dst v).run P w=.ok (.string (str bs)) w:=by
 obtain⟨a,cap,rfl,h1,h2,h3⟩:=hr;rw[run_convert_bytes_string w src dst e a _ cap hs he hd];have hl:=j95 (f:=jZ8) (fun _=>rfl) bs;rcases h3 with h3|⟨b,off,rfl,hc⟩
 ·rw[h3] at hl;have hb:bs=[]:=j_ (by simpa using hl.symm);subst hb
  cases a with
  |none=>simp[Conv.bytesToString,str,Sem.run_pure];rfl
  |some a=>simp[Conv.bytesToString,str,loadCells,loadCellsFrom,Sem.run_pure];rfl
 ·have hm:=jP8 bs;rw[hm] at hc;have hload:=run_loadCells_list (P:=P) w ⟨b,off,none⟩ ((bs.map fun b=>((b.toNat:Nat):Int)).map (Value.int .u8)) (fun j u hj=>dF);rw[run_bytesToString w ⟨b,off,none⟩ bs.length cap (bs.map fun b=>((b.toNat:Nat):Int)) (by simpa using hload),k01];simp[str]
theorem kA7(n:Int):((UInt8.ofNat (n%256).toNat).toNat:Int)=n%256:=by
 have h0:0<=n%256:=jZ _ ae;have h1:n%256<256:=jT _ ae;simp;omega
theorem kl9{α:Type}{f:α->List Value}(w:World)(e:TypeId)(fr:Nat×Nat)(ys:List α)(hn:ys.length<=maxLen):RL f (w.alloc (.cells (ys.flatMap f).toArray e fr)) (.slice (some ⟨w.heap.size,0,none⟩) ys.length ys.length) ys:=by
 refine⟨_,_,rfl,iy _,hn,.inr ⟨_,_,rfl,fun j u hj=>?_⟩⟩;rw[cell_of_row _ _ _ (ys.flatMap f).toArray e fr (kT w _)];simpa using hj
theorem jE8{α : Type}{f : α -> List Value}{P : Program}{w : World}{ops : Array Oper}{rest : List Oper}{o : Oper}{a : Act}{Q : Exit -> Act -> World -> Prop}{cs : Array Value}{fr : Nat × Nat}{g n : Nat}(hgd : o.guard = none)(s x : Operand)(t : TypeId)(ho:o.op=.call {callee:=.builtin .append,args:= #[s,x],argTypes:= #[t,t]})(base:Nat) (e:TypeId) (c bytes:Nat) (hF:Flat f c) (hT:Elem P t e c bytes) {v:Value} {l:List α} (hown:Own f base e c w v l) (hs:a.eval s=v)(ys:List α) (hcs:(ys.flatMap f).toArray=cs) (hx:a.eval x=.slice (some ⟨g,0,none⟩) n n) (hroom:(l.length+ys.length)*bytes<=140737488355328) (h63:l.length+ys.length<=maxLen) (hbase:base<=w.heap.size)(h:∀v' w',Own f base e c w' v' (l++ys)->Below base w w'->w.grownBy w' v.ownBlock->wpList P ops Q rest (a.put o.dst v') w')(hg:g=w.heap.size:=by first|rfl| (simp;done)) (hn:n=ys.length:=by first|rfl| (simp;done)):wpList P ops Q (o::rest) a (w.alloc (.cells cs e fr)):=by
 subst hcs;subst hg;subst hn;refine j62 hgd s x t ho base e c bytes hF hT (hown.alloc _) hs ys (kl9 w e fr ys aa) hx hroom h63 ah fun v' w' h1 h2=>?_;have hlt:=jE hown
 exact h v' w' h1 (((jW base w).alloc hbase _).grown h2 ah fun k hk=>(hlt k hk).1)
  ⟨h2.os,h2.tape,h2.output,by have:=h2.size;simp at this;omega,fun k hk hne=>by rw[h2.block k ah hne,kU w _ k hk]⟩
theorem Own.lit{α : Type}{f : α -> List Value}{c : Nat}(hF : Flat f c)(base : Nat)(e : TypeId)(w : World)(ys : List α)(hb : base <= w.heap.size)(hn : ys.length <= maxLen){cs : Array Value}(hcs : (ys.flatMap f).toArray = cs){g n : Nat}(hg : g = w.heap.size)(hnn : n = ys.length) :Own f base e c (w.alloc (.cells cs e)) (.slice (some ⟨g,0,none⟩) n n) ys:=by
 subst hcs hg hnn;refine⟨j95 hF.len ys,.inr ⟨w.heap.size,ys.length,_,rfl,hb,kT w _,iy _,hn,?_,?_⟩⟩
 ·simp[j95 hF.len ys]
 ·simp only[List.toList_toArray];exact iV (Nat.le_of_eq (j95 hF.len ys))
def j67(n:Int):UInt8:=UInt8.ofNat (n%256).toNat
theorem j41(n:Int):((j67 n).toNat:Int)=n%256:=kA7 n
theorem je8{α : Type}{f : α -> List Value}{P : Program}(w : World)(base : Nat)(t ty e : TypeId)(c bytes : Nat)(hF : Flat f c)(hT : Elem P t e c bytes)(g1 g2 : Nat)(l l2 : List α)(hpos : 0 < l2.length)(h1:∀j u,(l.flatMap f)[j]? =some u->w.cell? ⟨g1,j,none⟩=some u) (h2:∀j u,(l2.flatMap f)[j]? =some u->w.cell? ⟨g2,j,none⟩=some u)(hroom:(l.length+l2.length)*bytes<=140737488355328) (h63:l.length+l2.length<=maxLen) (hbase:base<=w.heap.size):∃v' w',(Builtin.append_ #[t,t] ty #[.slice (some ⟨g1,0,none⟩) l.length l.length,.slice (some ⟨g2,0,none⟩) l2.length l2.length]).run P w=.ok v' w'/\Own f base e c w' v' (l++l2)/\w.grownBy w' none:=by
 obtain⟨ht,i,z,hi,hz,rfl,rfl,hzs⟩:=hT;have hsmall:l.length+l2.length<=9223372036854775807:=by simp only[maxLen] at h63;omega
 have hl1:=j95 hF.len l;have hl2:=j95 hF.len l2;have hr:=run_append_grow (P:=P) w t ty e i z ht hi hz ⟨g1,0,none⟩ l.length l.length (l.flatMap f) hl1 (fun j u hj=>by rw[kK];simpa using h1 j u hj) ⟨g2,0,none⟩ l2.length l2.length (l2.flatMap f) hl2 (fun j u hj=>by rw[kK];simpa using h2 j u hj) aa aa (growslice_fits aa hroom);have hge:=lJ w (l.length+l2.length) l.length e;have hcm:grownCap w (l.length+l2.length) l.length e<=maxLen:=kM w _ _ e h63;have hlen:(l.flatMap f++l2.flatMap f).length=(l.length+l2.length)*i.size:=by rw[il,hl1,hl2,kp]
 refine⟨_,_,hr,?_,⟨rfl,rfl,rfl,ag,fun k hk _=>kU w.drew _ k hk⟩⟩;unfold Own;rw[il,jz];refine⟨hlen,.inr ⟨w.heap.size,_,_,rfl,hbase,kT w.drew _,hge,hcm,?_,?_⟩⟩
 ·simp only[Array.size_append,jk,lB,hzs,hl1,hl2,<-kp];congr 1;omega
 ·simp only[Array.toList_append,iE];rw[<-iE,<-hlen];exact kI
theorem kX6{α : Type}{f : α -> List Value}{P : Program}{w : World}{ops : Array Oper}{rest : List Oper}{o : Oper}{a : Act}{Q : Exit -> Act -> World -> Prop}{cs0 cs : Array Value}{fr0 fr : Nat × Nat}{g0 n0 g n : Nat}(hgd : o.guard = none)(s x : Operand)(t : TypeId)(ho:o.op=.call {callee:=.builtin .append,args:= #[s,x],argTypes:= #[t,t]})(base:Nat) (e:TypeId) (c bytes:Nat) (hF:Flat f c) (hT:Elem P t e c bytes) (l ys:List α) (hcs0:(l.flatMap f).toArray=cs0) (hcs:(ys.flatMap f).toArray=cs)(hs:a.eval s=.slice (some ⟨g0,0,none⟩) n0 n0) (hx:a.eval x=.slice (some ⟨g,0,none⟩) n n) (hpos:0<ys.length) (hroom:(l.length+ys.length)*bytes<=140737488355328) (h63:l.length+ys.length<=maxLen) (hbase:base<=w.heap.size)(h:∀v' w',Own f base e c w' v' (l++ys)->Below base w w'->wpList P ops Q rest (a.put o.dst v') w')(hg0:g0=w.heap.size:=by first|rfl| (simp;done)) (hn0:n0=l.length:=by first|rfl| (simp;done)) (hg:g=w.heap.size+1:=by first|rfl| (simp;done)) (hn:n=ys.length:=by first|rfl| (simp;done)):wpList P ops Q (o::rest) a ((w.alloc (.cells cs0 e fr0)).alloc (.cells cs e fr)):=by
 subst hcs0 hcs hg0 hn0 hg hn;refine wpList_plain hgd fun K hK=>?_
 obtain⟨v',w',hr,r1,r2⟩:=je8 (P:=P) ((w.alloc (.cells (l.flatMap f).toArray e fr0)).alloc (.cells (ys.flatMap f).toArray e fr)) base t o.type e c bytes hF hT w.heap.size (w.heap.size+1) l ys hpos
  (fun j u hj=>by
   rw[cell_of_row _ _ _ (l.flatMap f).toArray e fr0 (by rw[kU _ _ _ ag];exact kT w _)];simpa using hj)
  (fun j u hj=>by
   rw[cell_of_row _ _ _ (ys.flatMap f).toArray e fr (by have:=kT (w.alloc (.cells (l.flatMap f).toArray e fr0)) (.cells (ys.flatMap f).toArray e fr);simpa using this)];simpa using hj) hroom h63 ah
 unfold Oper.wp execOp;simp only[ho,resolve,invoke,builtin,Sem.run_bind,Sem.run_pure,Result.andThen_ok,ky,jr,jN,hs,hx,hr];exact hK _ _ (h v' w' r1 ((((jW base w).alloc hbase _).alloc ah _).grown r2 ah (fun _ hh=>nomatch hh)))
structure Wr where
 at_:Int
 text:ByteArray
structure Dsk where
 safe:List ByteArray
 writes:List Wr
instance:Inhabited Wr:=⟨⟨0,⟨#[]⟩⟩⟩
instance:Inhabited ByteArray:=⟨⟨#[]⟩⟩
def wrC(x:Wr):List Value:=[.int .i64 x.at_,.string x.text]
theorem jO9:Flat wrC 2:=⟨fun _=>rfl,fun _ u hu=>by simp[wrC] at hu;rcases hu with rfl|rfl<;>rfl,ae⟩
def jR6(n:Int):Bool:=decide (0<=n/\n<37)
def jN1(s:ByteArray):Bool:=decide (s.size=32)
def jD9(x:Wr):Bool:=jR6 x.at_&&jN1 x.text
def goodD(d:Dsk):Bool:=decide (d.safe.length=37)&&decide (d.writes.length<=200)&&d.safe.all jN1&&d.writes.all jD9
theorem j81(d:Dsk):goodD d=true↔d.safe.length=37/\d.writes.length<=200/\d.safe.all jN1=true/\d.writes.all jD9=true:=by
 unfold goodD;simp only[iD,decide_eq_true_iff,and_assoc]
def j_7(w:World)(v:Value)(d:Dsk):Prop:=
 ∃vs vw,v=.agg #[vs,vw]/\RL j42 w vs d.safe/\RL wrC w vw d.writes/\d.safe.length<=8796093022208/\d.writes.length<=5864062014805
theorem j_7.below{w w':World}{v:Value}{d:Dsk}(h:j_7 w v d)(hb:Below w.heap.size w w'):j_7 w' v d:=by
 obtain⟨vs,vw,hv,h1,h2,h3⟩:=h;exact⟨vs,vw,hv,h1.below hb,h2.below hb,h3⟩
def kn_(b:Bool)(r:Int):Prop:=if b=true then r= -1 else 0<=r
theorem jC0{α:Type}{p:α->Bool}{l:List α}{k:Nat}(hk:k<l.length)(h:(l.take k).all p=true)(hp:p l[k]=true):(l.take (k+1)).all p=true:=by
 rw[it hk,List.all_append,h];simp[hp]
theorem jF5{α:Type}{p:α->Bool}{l:List α}{k:Nat}(hk:k<l.length)(hp:p l[k]=false):l.all p=false:=by
 rw[<-iW,ja];intro h;rw[h _ (iM hk)] at hp;exact Bool.noConfusion hp
theorem jC_{α:Type}{p:α->Bool}{l:List α}{k:Nat}(hk:k<=l.length)(hn:¬k<l.length)(h:(l.take k).all p=true):l.all p=true:=by
 rw[iV aa] at h;exact h
def lastT(s:ByteArray)(n:Int)(ws:List Wr):ByteArray:=ws.foldl (fun r x=>if x.at_=n then x.text else r) s
theorem jK8(s:ByteArray)(n:Int):lastT s n []=s:=rfl
theorem jO_(s:ByteArray)(n:Int)(ws:List Wr)(x:Wr):lastT s n (ws++ [x])=if x.at_=n then x.text else lastT s n ws:=by simp[lastT]
theorem jg4(s:ByteArray)(n:Int){ws:List Wr}{k:Nat}(hk:k<ws.length)(h:ws[k].at_=n):lastT s n (ws.take (k+1))=ws[k].text:=by
 rw[it hk,jO_,ij h]
theorem jq4(s:ByteArray)(n:Int){ws:List Wr}{k:Nat}(hk:k<ws.length)(h:ws[k].at_≠n):lastT s n (ws.take (k+1))=lastT s n (ws.take k):=by
 rw[it hk,jO_,ii h]
def jM3(d:Dsk)(n:Int):ByteArray:=d.safe.getD n.toNat ⟨#[]⟩
def readD(d:Dsk)(n:Int):ByteArray:=if goodD d=true/\jR6 n=true then lastT (jM3 d n) n d.writes else⟨#[]⟩
def readE(d:Dsk)(n:Int):Int:=if goodD d=true/\jR6 n=true then 0 else 2
def afterL(s:ByteArray)(n:Int)(ws:List Wr):List ByteArray:=s::(ws.filter (fun x=>decide (x.at_=n))).map (·.text)
theorem js7(s:ByteArray)(n:Int):afterL s n []=[s]:=rfl
theorem jM6(s:ByteArray)(n:Int)(ws:List Wr)(x:Wr):afterL s n (ws++ [x])=if x.at_=n then afterL s n ws++ [x.text] else afterL s n ws:=by
 by_cases h:x.at_=n<;>simp[afterL,h]
theorem jV7(s:ByteArray)(n:Int)(ws:List Wr):(afterL s n ws).length<=ws.length+1:=by
 simp only[afterL,iB,iZ];have:=kO (fun x:Wr=>decide (x.at_=n)) ws;omega
theorem jI9(s:ByteArray)(n:Int){ws:List Wr}{k:Nat}(hk:k<ws.length)(h:ws[k].at_=n):afterL s n (ws.take (k+1))=afterL s n (ws.take k)++ [ws[k].text]:=by
 rw[it hk,jM6,ij h]
theorem jM5(s:ByteArray)(n:Int){ws:List Wr}{k:Nat}(hk:k<ws.length)(h:ws[k].at_≠n):afterL s n (ws.take (k+1))=afterL s n (ws.take k):=by
 rw[it hk,jM6,ii h]
theorem jH_(s:ByteArray)(n:Int)(ws:List Wr):(afterL s n ws).getLast? =some (lastT s n ws):=by
 have key:∀k,k<=ws.length->(afterL s n (ws.take k)).getLast? =some (lastT s n (ws.take k)):=by
  intro k
  induction k with
  |zero=>intro _;rfl
  |succ k ih=>
   intro hk
   by_cases h:ws[k].at_=n
   ·rw[jI9 s n hk h,jg4 s n hk h];simp
   ·rw[jM5 s n hk h,jq4 s n hk h];exact ih aa
 have:=key ws.length (iy _);rwa [iY] at this
def putE(d:Dsk)(n:Int)(t:ByteArray):Int:=if¬(goodD d=true/\jR6 n=true) then 2 else if t.size≠32 then 1 else if 200<=d.writes.length then 11 else 0
def putD(d:Dsk)(n:Int)(t:ByteArray):Dsk:=if putE d n t=0 then⟨d.safe,d.writes++ [⟨n,t⟩]⟩ else d
structure Ring where
 head:Int
 used:Int
def Ring.val(r:Ring):Value:=.agg #[.int .i64 r.head,.int .i64 r.used]
def goodR(r:Ring):Bool:=decide (0<=r.head/\r.head<24/\0<=r.used/\r.used<=24)
def places(h:Int)(k:Nat):List Int:=(List.range k).map fun(i:Nat)=>(h+(i:Int))%24
def takeE(r:Ring)(n:Int):Int:=if goodR r=false\/n<0 then 2 else if n>24-r.used then 6 else 0
def jN6(r:Ring)(n:Int):Ring:=if takeE r n=0 then⟨(r.head+n)%24,r.used+n⟩ else r
def jI3(r:Ring)(n:Int):List Int:=if takeE r n=0 then places r.head n.toNat else []
def giveE(r:Ring)(n:Int):Int:=if goodR r=false\/n<0\/n>r.used then 2 else 0
def giveR(r:Ring)(n:Int):Ring:=if giveE r n=0 then⟨r.head,r.used-n⟩ else r
def j75(n each:Int):Int:=(n+each-1)/each
def jD1(m r:Int):Int:=if m<0\/m>12\/r<0\/r>12 then 2 else 0
def jy9(m r:Int):Int:=if jD1 m r=0 then j75 r 20+j75 m 10+m+1 else 0
def clamp24(n:Int):Int:=max 0 (min n 24)
def jy8(n:Int):Int:=clamp24 n+j75 (clamp24 n) 10+j75 (clamp24 n) 20+1
theorem j71(r:Ring):goodR r=true↔0<=r.head/\r.head<24/\0<=r.used/\r.used<=24:=by simp[goodR]
theorem jh4(r:Ring):goodR r=false↔ ¬(0<=r.head/\r.head<24/\0<=r.used/\r.used<=24):=by simp[goodR]
theorem jL1(h:Int)(k:Nat):places h (k+1)=places h k++ [(h+k)%24]:=by simp[places,kE]
theorem j87(h:Int)(k:Nat):(places h k).length=k:=by simp[places]
theorem kM2(r:Ring)(n:Int):(jI3 r n).length<=24:=by
 unfold jI3
 split
 ·rename_i hh;rw[j87];unfold takeE at hh
  split at hh
  ·cases hh
  ·split at hh
   ·cases hh
   ·rename_i h1 h2;simp at h1;obtain⟨h3,h4⟩:=h1;have:=(j71 r).1 h3;omega
 ·simp
theorem jO2(h:Int)(k i:Nat)(hi:i<k):(places h k)[i]? =some ((h+i)%24):=by simp[places,hi]
structure Tag where
 block:Int
 esc:Bool
structure Mrk where
 kind:Int
 seq:Int
 at_:Int
 tags:List Tag
 blocks:List Int
def jK_(t:Tag):List Value:=[.int .i64 t.block,.bool t.esc]
theorem jI2:Flat jK_ 2:=⟨fun _=>rfl,fun _ u hu=>by simp[jK_] at hu;rcases hu with rfl|rfl<;>rfl,ae⟩
def isBlk(b:Int):Bool:=decide (0<=b/\b<12)
def j61(l:List Int)(k:Nat):Prop:=0<=l.getD k 0/\l.getD k 0<12/\(0<k->l.getD (k-1) 0<l.getD k 0)
instance(l:List Int)(k:Nat):Decidable (j61 l k):=by unfold j61;infer_instance
def jR3(l:List Int)(n:Nat):Prop:=∀k,k<n->j61 l k
def rise(l:List Int):Bool:=decide (∀k,k<l.length->j61 l k)
theorem jY9(l:List Int):rise l=true↔jR3 l l.length:=by simp[rise,jR3]
theorem jl7{l:List Int}{k:Nat}(hk:k<l.length)(h:¬j61 l k):rise l=false:=by
 simp only[rise,decide_eq_false_iff_not];exact fun hh=>h (hh k hk)
theorem j30{l:List Int}{k:Nat}(h:jR3 l k)(h2:j61 l k):jR3 l (k+1):=by
 intro j hj;by_cases e:j=k
 ·subst e;exact h2
 ·exact h j aa
def j97(m:Mrk):Prop:=m.kind<1\/m.kind>4
def j78(m:Mrk):Prop:=m.seq<1\/m.seq>2147483647\/m.at_<0\/m.at_>23
def j88(m:Mrk):Prop:=m.kind≠1/\m.at_≠0\/m.kind≠2/\m.tags.length≠0\/m.kind≠3/\m.blocks.length≠0
def j44(m:Mrk):Prop:=m.tags.length>10\/m.blocks.length>20\/m.kind=2/\m.tags.length=0\/m.kind=3/\m.blocks.length=0
def j48(m:Mrk):Prop:=rise (m.tags.map (·.block))=false\/rise m.blocks=false
instance(m:Mrk):Decidable (j97 m):=by unfold j97;infer_instance
instance(m:Mrk):Decidable (j78 m):=by unfold j78;infer_instance
instance(m:Mrk):Decidable (j88 m):=by unfold j88;infer_instance
instance(m:Mrk):Decidable (j44 m):=by unfold j44;infer_instance
instance(m:Mrk):Decidable (j48 m):=by unfold j48;infer_instance
def markE(m:Mrk):Int:=if j97 m then 3 else if j78 m then 2 else if j88 m then 1 else if j44 m\/j48 m then 2 else 0
theorem j28{m:Mrk}(h:j97 m):markE m=3:=by unfold markE;rw[ij h]
theorem jW2{m:Mrk}(h1:¬j97 m)(h:j78 m):markE m=2:=by unfold markE;rw[ii h1,ij h]
theorem jX3{m:Mrk}(h1:¬j97 m)(h2:¬j78 m)(h:j88 m):markE m=1:=by unfold markE;rw[ii h1,ii h2,ij h]
theorem jK9{m:Mrk}(h1:¬j97 m)(h2:¬j78 m)(h3:¬j88 m)(h:j44 m):markE m=2:=by unfold markE;rw[ii h1,ii h2,ii h3,ij (.inl h)]
theorem jH6{m:Mrk}(h1:¬j97 m)(h2:¬j78 m)(h3:¬j88 m)(h:j48 m):markE m=2:=by unfold markE;rw[ii h1,ii h2,ii h3,ij (.inr h)]
theorem jO0{m:Mrk}(h1:¬j97 m)(h2:¬j78 m)(h3:¬j88 m)(h4:¬j44 m)(h5:¬j48 m):markE m=0:=by unfold markE;rw[ii h1,ii h2,ii h3,ii (by simp[h4,h5])]
def j1_(w:World)(v:Value)(m:Mrk):Prop:=
 ∃vt vb,v=.agg #[.int .i64 m.kind,.int .i64 m.seq,.int .i64 m.at_,vt,vb]/\RL jK_ w vt m.tags/\RL j_9 w vb m.blocks/\m.tags.length<=8796093022208/\m.blocks.length<=17592186044416
theorem j1_.below{w w':World}{v:Value}{m:Mrk}(h:j1_ w v m)(hb:Below w.heap.size w w'):j1_ w' v m:=by
 obtain⟨vt,vb,hv,h1,h2,h3⟩:=h;exact⟨vt,vb,hv,h1.below hb,h2.below hb,h3⟩
structure Cpy where
 block:Int
 text:ByteArray
instance:Inhabited Cpy:=⟨⟨0,⟨#[]⟩⟩⟩
def j_3(x:Cpy):List Value:=[.int .i64 x.block,.string x.text]
theorem j91:Flat j_3 2:=⟨fun _=>rfl,fun _ u hu=>by simp[j_3] at hu;rcases hu with rfl|rfl<;>rfl,ae⟩
structure Hnd where
 on:Bool
 left:Int
structure Txn where
 seq:Int
 mt:List Cpy
 dt:List Cpy
 rev:List Int
 h0:Hnd
 h1:Hnd
 h2:Hnd
def jW1:Hnd:=⟨false,0⟩
def j2_(seq:Int):Txn:=⟨seq,[],[],[],jW1,jW1,jW1⟩
def blks(l:List Cpy):List Int:=l.map (·.block)
def hasB(l:List Cpy)(b:Int):Bool:=l.any (fun c=>c.block==b)
def inI(l:List Int)(b:Int):Bool:=l.any (fun x=>x==b)
def getC(l:List Cpy)(b:Int):Option ByteArray:=(l.find? (fun c=>c.block==b)).map (·.text)
def copiesB(l:List Cpy):Bool:=rise (blks l)&&l.all (fun c=>jN1 c.text)
def hOk(h:Hnd):Bool:=decide (0<=h.left/\h.left<=24)&&(h.on||decide (h.left=0))
def k87(s:Int):Bool:=decide (1<=s/\s<=2147483647)
def apart(t:Txn):Bool:=t.rev.all (fun b=> !hasB t.mt b&& !hasB t.dt b)&&t.mt.all (fun c=> !hasB t.dt c.block)
def goodT(t:Txn):Bool:=k87 t.seq&&copiesB t.mt&&copiesB t.dt&&rise t.rev&&apart t&&(hOk t.h0&&hOk t.h1&&hOk t.h2)
theorem j22(t:Txn):goodT t=true↔k87 t.seq=true/\copiesB t.mt=true/\copiesB t.dt=true/\rise t.rev=true/\apart t=true/\hOk t.h0=true/\hOk t.h1=true/\hOk t.h2=true:=by
 unfold goodT;simp only[iD,and_assoc]
def j84(t:Txn)(vm vd vr:Value):Value:=.agg #[.int .i64 t.seq,vm,vd,vr,.bool t.h0.on,.int .i64 t.h0.left,.bool t.h1.on,.int .i64 t.h1.left,.bool t.h2.on,.int .i64 t.h2.left]
def j17(w:World)(v:Value)(t:Txn):Prop:=
 ∃vm vd vr,v=j84 t vm vd vr/\RL j_3 w vm t.mt/\RL j_3 w vd t.dt/\RL j_9 w vr t.rev/\t.mt.length<=5864062014805/\t.dt.length<=5864062014805/\t.rev.length<=17592186044160
theorem gW{A:Prop}(h:A:=by
 obtain⟨vm,vd,vr,hv,h1,h2,h3,h4⟩:=h;exact⟨vm,vd,vr,hv,h1.below hb,h2.below hb,h3.below hb,h4⟩):A:=h
theorem j17.below{w w':World}{v:Value}{t:Txn}(h:j17 w v t)(hb:Below w.heap.size w w'):j17 w' v t:=by
 exact gW
structure SlV where
 a:Option Addr
 n:Nat
 c:Nat
def SlV.val(x:SlV):Value:=.slice x.a x.n x.c
structure TV where
 t:Txn
 m:SlV
 d:SlV
 r:SlV
def tvC(x:TV):List Value:=[.int .i64 x.t.seq,x.m.val,x.d.val,x.r.val,.bool x.t.h0.on,.int .i64 x.t.h0.left,.bool x.t.h1.on,.int .i64 x.t.h1.left,.bool x.t.h2.on,.int .i64 x.t.h2.left]
theorem jZ0:Flat tvC 10:=⟨fun _=>rfl,fun _ u hu=>by simp[tvC,SlV.val] at hu;rcases hu with rfl|rfl|rfl|rfl|rfl|rfl|rfl|rfl|rfl|rfl<;>rfl,ae⟩
def TV.val(x:TV):Value:=j84 x.t x.m.val x.d.val x.r.val
def TV.ok(w:World)(x:TV):Prop:=j17 w x.val x.t
theorem j17.tv{w:World}{v:Value}{t:Txn}(h:j17 w v t):∃x:TV,x.t=t/\v=x.val/\x.ok w:=by
 have hh:=h;obtain⟨vm,vd,vr,rfl,h1,h2,h3,h4⟩:=h;obtain⟨a,c,rfl,_⟩:=h1.form;obtain⟨a2,c2,rfl,_⟩:=h2.form;obtain⟨a3,c3,rfl,_⟩:=h3.form;exact⟨⟨t,⟨a,_,c⟩,⟨a2,_,c2⟩,⟨a3,_,c3⟩⟩,rfl,rfl,hh⟩
def j18(w:World)(v:Value)(l:List Txn):Prop:=∃xs:List TV,RL tvC w v xs/\xs.map (·.t)=l/\(∀x∈xs,x.ok w)/\xs.length<=1099511627744
theorem j18.below{w w':World}{v:Value}{l:List Txn}(h:j18 w v l)(hb:Below w.heap.size w w'):j18 w' v l:=by
 obtain⟨xs,h1,h2,h3,h4⟩:=h;exact⟨xs,h1.below hb,h2,fun x hx=>(h3 x hx).below hb,h4⟩
theorem j18.nil(w:World):j18 w (.slice none 0 0) []:=⟨[],RL.nil _ _,rfl,(fun _ h=>absurd h jp),ae⟩
theorem j18.form{w:World}{v:Value}{l:List Txn}(h:j18 w v l):∃a c,v=.slice a l.length c/\l.length<=1099511627744:=by
 obtain⟨xs,h1,rfl,h3,h4⟩:=h;obtain⟨a,c,hv,_⟩:=h1.form;exact⟨a,c,by rw[hv,iZ],by rw[iZ];exact h4⟩
theorem kl3{α : Type}{f : α -> List Value}{w : World}{a : Option Addr}{n cap : Nat}{l : List α}(g0 g1 g2 g3 g4 g5 g6 g7 g8 g9 : α -> Value)(hf : ∀ x, f x = [g0 x, g1 x, g2 x, g3 x, g4 x, g5 x, g6 x, g7 x, g8 x, g9 x])(h : RL f w (.slice a n cap) l){k : Nat}(hk : k < l.length) :∃b off,a=some ⟨b,off,none⟩/\w.cell? ⟨b,off+k*10,none⟩=some (g0 l[k])/\w.cell? ⟨b,off+k*10+1,none⟩=some (g1 l[k])/\w.cell? ⟨b,off+k*10+2,none⟩=some (g2 l[k])/\w.cell? ⟨b,off+k*10+3,none⟩=some (g3 l[k])/\w.cell? ⟨b,off+k*10+4,none⟩=some (g4 l[k])/\w.cell? ⟨b,off+k*10+5,none⟩=some (g5 l[k])/\w.cell? ⟨b,off+k*10+6,none⟩=some (g6 l[k])/\w.cell? ⟨b,off+k*10+7,none⟩=some (g7 l[k])/\w.cell? ⟨b,off+k*10+8,none⟩=some (g8 l[k])/\w.cell? ⟨b,off+k*10+9,none⟩=some (g9 l[k]):=by
 obtain⟨b,off,ha,hc⟩:=RL.at (c:=10) (fun x=>bj) h hk ae;exact⟨b,off,ha,hc 0 _ bj,hc 1 _ bj,hc 2 _ bj,hc 3 _ bj,hc 4 _ bj,hc 5 _ bj,hc 6 _ bj,hc 7 _ bj,hc 8 _ bj,hc 9 _ bj⟩
theorem j18.at{w : World}{a : Option Addr}{n cap : Nat}{l : List Txn}(h : j18 w (.slice a n cap) l){k : Nat}(hk : k < l.length) :∃b off vm vd vr,a=some ⟨b,off,none⟩/\j17 w (j84 l[k] vm vd vr) l[k]/\w.cell? ⟨b,off+k*10,none⟩=some (.int .i64 l[k].seq)/\w.cell? ⟨b,off+k*10+1,none⟩=some vm/\w.cell? ⟨b,off+k*10+2,none⟩=some vd/\w.cell? ⟨b,off+k*10+3,none⟩=some vr/\w.cell? ⟨b,off+k*10+4,none⟩=some (.bool l[k].h0.on)/\w.cell? ⟨b,off+k*10+5,none⟩=some (.int .i64 l[k].h0.left)/\w.cell? ⟨b,off+k*10+6,none⟩=some (.bool l[k].h1.on)/\w.cell? ⟨b,off+k*10+7,none⟩=some (.int .i64 l[k].h1.left)/\w.cell? ⟨b,off+k*10+8,none⟩=some (.bool l[k].h2.on)/\w.cell? ⟨b,off+k*10+9,none⟩=some (.int .i64 l[k].h2.left):=by
 obtain⟨xs,h1,rfl,h3,h4⟩:=h;have hk':k<xs.length:=dD;obtain⟨b,off,ha,c0,c1,c2,c3,c4,c5,c6,c7,c8,c9⟩:=kl3 (fun x:TV=>.int .i64 x.t.seq) (fun x=>x.m.val) (fun x=>x.d.val) (fun x=>x.r.val) (fun x=>.bool x.t.h0.on) (fun x=>.int .i64 x.t.h0.left) (fun x=>.bool x.t.h1.on) (fun x=>.int .i64 x.t.h1.left) (fun x=>.bool x.t.h2.on) (fun x=>.int .i64 x.t.h2.left) (fun _=>rfl) h1 hk';have hx:=h3 xs[k] (iM hk');simp only[kv];exact⟨b,off,_,_,_,ha,hx,c0,c1,c2,c3,c4,c5,c6,c7,c8,c9⟩
theorem jK5(l:List Cpy)(b:Int):hasB l b=(getC l b).isSome:=by
 unfold hasB getC;rw[Option.isSome_map]
 induction l with
 |nil=>rfl
 |cons c l ih=>
  rw[List.any_cons,List.find?_cons]
  cases c.block==b with
  |true=>rfl
  |false=>simpa using ih
theorem jh3{l:List Cpy}{b:Int}{k:Nat}(hk:k<l.length)(h:hasB (l.take k) b=false)(hb:l[k].block=b):getC l b=some l[k].text:=by
 have hn:(l.take k).find? (fun c=>c.block==b)=none:=by
  rw[List.find?_eq_none];intro x hx hh;unfold hasB at h;rw[mb] at h;exact h x hx hh
 have e:l.find? (fun c=>c.block==b)=some l[k]:=by
  conv=>lhs;rw[<-ji k l]
  rw[List.find?_append,hn,Option.none_or,jx hk,List.find?_cons,iT.2 hb]
 unfold getC;rw[e];rfl
theorem jz7{l:List Cpy}{b:Int}{k:Nat}(hk:k<l.length):hasB (l.take (k+1)) b=(hasB (l.take k) b||(l[k].block==b)):=by
 unfold hasB;rw[it hk,List.any_append];simp
theorem jz6{l:List Cpy}{b:Int}{k:Nat}(hk:¬k<l.length):hasB (l.take k) b=hasB l b:=by rw[iV aa]
theorem jz5{l:List Cpy}{b:Int}(h:hasB l b=false):getC l b=none:=by
 rw[jK5] at h
 cases hg:getC l b with
 |none=>rfl
 |some x=>rw[hg] at h;cases h
theorem jK6{l:List Int}{b:Int}{k:Nat}(hk:k<l.length):inI (l.take (k+1)) b=(inI (l.take k) b||(l[k]==b)):=by
 unfold inI;rw[it hk,List.any_append];simp
theorem k52{l:List Int}{b:Int}{k:Nat}(hk:¬k<l.length):inI (l.take k) b=inI l b:=by rw[iV aa]
theorem kS3{l:List Int}{b:Int}{k:Nat}(hk:k<l.length)(hb:l[k]=b):inI l b=true:=by
 unfold inI;exact kG.2 ⟨_,iM hk,iT.2 hb⟩
theorem kI7{l:List Cpy}{b:Int}{k:Nat}(hk:k<l.length)(hb:l[k].block=b):hasB l b=true:=by
 unfold hasB;exact kG.2 ⟨_,iM hk,iT.2 hb⟩
theorem jZ_{α : Type}{f : α -> List Value}{P : Program}{ops : Array Oper}{o : Oper}{a : Act}{w : World}{K : Act -> World -> Prop}{Q : Exit -> Act -> World -> Prop}{E : Prop}(hg:o.guard=none) (s x:Operand) (t:TypeId) (ho:o.op=.call {callee:=.builtin .append,args:= #[s,x],argTypes:= #[t,t]})(base:Nat) (e:TypeId) (c bytes:Nat) (hF:Flat f c) (hT:Elem P t e c bytes) {v:Value} {l:List α} (hown:Own f base e c w v l) (hs:a.eval s=v){vx:Value} (l2:List α) (hsrc:RL f w vx l2) (hx:a.eval x=vx) (hroom:(l.length+l2.length)*bytes<=140737488355328) (h63:l.length+l2.length<=maxLen) (hbase:base<=w.heap.size)(hK:∀v' w',Own f base e c w' v' (l++l2)->Below base w w'->w.grownBy w' v.ownBlock->K (a.put o.dst v') w'):if Region.wanted o (yielded ops a.tmps)=true then Oper.wp P o a w K Q else E:=by
 have hw:Region.wanted o (yielded ops a.tmps)=true:=by simp[Region.wanted,hg]
 rw[ij hw];obtain⟨v',w',hr,r1,r2⟩:=kN2 (P:=P) w base t o.type e c bytes hF hT v l hown vx l2 hsrc hroom h63 hbase;have hlt:=jE hown;unfold Oper.wp execOp;simp only[ho,resolve,invoke,builtin,Sem.run_bind,Sem.run_pure,Result.andThen_ok,ky,jr,jN,hs,hx,hr];exact hK _ _ r1 ((jW base w).grown r2 hbase (fun k hk=>(hlt k hk).1)) r2
theorem jd_{P : Program}{f : FuncId}{fn : Func}{c : Code}(hf : P.funcs[f]? = some fn)(hname : (fn.name == "runtime.NumGoroutine") = false)(hb : fn.body = some c)(args : Array Value)(w : World) :(callFunc f args).run P w=.ok (.enter f args) w:=by
 have h1:fn.name≠ "runtime.NumGoroutine" :=by simpa using hname
 simp[callFunc,hf,h1,hb]
theorem j14{P : Program}{ops : Array Oper}{o : Oper}{a : Act}{w : World}{K : Act -> World -> Prop}{Q : Exit -> Act -> World -> Prop}{E : Prop}(f : FuncId)(xs : List Operand)(ts : Array TypeId)(hg:o.guard=none) (ho:o.op=.call {callee:=.value (.func f),args:=xs.toArray,argTypes:=ts}) (args:Array Value) (ha:(xs.map a.eval).toArray=args)(hb:∃fn c,P.funcs[f]? =some fn/\(fn.name== "runtime.NumGoroutine")=false/\fn.body=some c) {R:Ending->World->Prop}(h:Calls P f args w R) (hK:∀e w',R e w'->∃v,e=.returned v/\K (a.put o.dst v) w'):if Region.wanted o (yielded ops a.tmps)=true then Oper.wp P o a w K Q else E:=by
 have hw:Region.wanted o (yielded ops a.tmps)=true:=by simp[Region.wanted,hg]
 rw[ij hw];subst ha;obtain⟨fn,c,h1,h2,h3⟩:=hb
 have hr:(execOp a.eval o).run P w=.ok (.enter f (xs.map a.eval).toArray) w:=by
  unfold execOp;simp[ho,resolve,invoke,Deferred.ofValue,Act.eval,jd_ h1 h2 h3]
 unfold Oper.wp;rw[hr,Oper.upon_enter];exact h.mono fun e w' hr=>by obtain⟨v,rfl,hk⟩:=hK e w' hr;exact hk
theorem kj5{α:Type}{f:α->List Value}{w:World}{g:Nat}{e:TypeId}(ys:List α)(hb:Blk w g (ys.flatMap f).toArray e)(hn:ys.length<=maxLen):RL f w (.slice (some ⟨g,0,none⟩) ys.length ys.length) ys:=by
 refine⟨_,_,rfl,iy _,hn,.inr ⟨_,_,rfl,fun j u hj=>?_⟩⟩;rw[jm,hb.cell];simpa using hj
theorem kR1{α:Type}(l:List α)(x:α):(l++ [x]).length=l.length+1:=ag
theorem jW7{α : Type}{f : α -> List Value}{P : Program}{ops : Array Oper}{o : Oper}{a : Act}{w : World}{K : Act -> World -> Prop}{Q : Exit -> Act -> World -> Prop}{E : Prop}(hg:o.guard=none) (s x:Operand) (t:TypeId) (ho:o.op=.call {callee:=.builtin .append,args:= #[s,x],argTypes:= #[t,t]})(base:Nat) (e:TypeId) (c bytes:Nat) (hF:Flat f c) (hT:Elem P t e c bytes) {v:Value} {l:List α} (hown:Own f base e c w v l) (hs:a.eval s=v)(y:α) (g:Nat) {cs:Array Value} (hrow:Blk w g cs e) (hcs:(f y).toArray=cs) (hx:a.eval x=.slice (some ⟨g,0,none⟩) 1 1) (n:Nat) (hn:l.length=n) (hroom:(n+1)*bytes<=140737488355328) (h63:n+1<=9223372036854775807) (hbase:base<=w.heap.size)(hK:∀a' cap' w',Own f base e c w' (.slice a' (n+1) cap') (l++ [y])->Below base w w'->w.grownBy w' v.ownBlock->K (a.put o.dst (.slice a' (n+1) cap')) w'):if Region.wanted o (yielded ops a.tmps)=true then Oper.wp P o a w K Q else E:=by
 subst hcs hn;refine jZ_ hg s x t ho base e c bytes hF hT hown hs [y] (kj5 (e:=e) [y] (by simpa using hrow) bV) hx hroom (by unfold maxLen;simpa using h63) hbase fun v' w' h1 h2 h3=>?_;obtain⟨a',cap',rfl⟩:=h1.form;rw[kR1] at h1;have:=hK a' cap' w' h1 h2 h3;rw[kR1];exact this
theorem jZ5{α : Type}{f : α -> List Value}{P : Program}{w : World}{ops : Array Oper}{rest : List Oper}{o : Oper}{a : Act}{Q : Exit -> Act -> World -> Prop}{cs : Array Value}{fr : Nat × Nat}{g : Nat}(hgd : o.guard = none)(s x : Operand)(t : TypeId)(ho:o.op=.call {callee:=.builtin .append,args:= #[s,x],argTypes:= #[t,t]})(base:Nat) (e:TypeId) (c bytes:Nat) (hF:Flat f c) (hT:Elem P t e c bytes) {v:Value} {l:List α} (hown:Own f base e c w v l) (hs:a.eval s=v)(y:α) (hcs:(f y).toArray=cs) (hx:a.eval x=.slice (some ⟨g,0,none⟩) 1 1) (n:Nat) (hn:l.length=n) (hroom:(n+1)*bytes<=140737488355328) (h63:n+1<=9223372036854775807) (hbase:base<=w.heap.size)(h:∀a' cap' w',Own f base e c w' (.slice a' (n+1) cap') (l++ [y])->Below base w w'->w.grownBy w' v.ownBlock->wpList P ops Q rest (a.put o.dst (.slice a' (n+1) cap')) w') (hg:g=w.heap.size:=by first|rfl| (simp;done)):wpList P ops Q (o::rest) a (w.alloc (.cells cs e fr)):=by
 subst hn;refine j70 hgd s x t ho base e c bytes hF hT hown hs y hcs hx hroom (by unfold maxLen;exact h63) hbase (fun v' w' h1 h2 h3=>?_) hg;obtain⟨a',cap',rfl⟩:=h1.form;rw[kR1] at h1⊢;exact h a' cap' w' h1 h2 h3
theorem kx7{α:Type}{f:α->List Value}{base:Nat}{e:TypeId}{c:Nat}{w:World}{v:Value}{l:List α}(h:Own f base e c w v l)(g:Nat)(hg:w.heap.size<=g):some g≠v.ownBlock:=fun hh=>by
 have:=(jE h g hh.symm).2;omega
theorem Own.setBlk{α:Type}{f:α->List Value}{base:Nat}{e:TypeId}{c:Nat}{w:World}{v:Value}{l:List α}(h:Own f base e c w v l){b:Nat}{cs:Array Value}{t:TypeId}(hb:Blk w b cs t)(hne:e≠t)(i:Nat)(u:Value):Own f base e c (w.setCell ⟨b,i,none⟩ u) v l:=by
 obtain⟨h1,h2⟩:=h;refine⟨h1,h2.imp id fun⟨g,cap,cur,a,b',hg,r⟩=>⟨g,cap,cur,a,b',?_,r⟩⟩
 have hgb:g≠b:=fun hh=>by
  subst hh;unfold Blk at hb;rw[hg] at hb;simp only[iO,mu] at hb;exact hne hb.2.1
 rw[k_ w ⟨b,i,none⟩ u g hgb];exact hg
theorem bgo{a b c:World}(h:Below a.heap.size a b)(h2:Below b.heap.size b c):Below a.heap.size a c:=h.trans (h2.mono h.size)
theorem bal{a b:World}(h:Below a.heap.size a b)(o:Obj):Below a.heap.size a (b.alloc o):=h.alloc h.size o
theorem b0(a:World):Below a.heap.size a a:=jW _ _
theorem Own.drew{α:Type}{f:α->List Value}{base:Nat}{e:TypeId}{c:Nat}{w:World}{v:Value}{l:List α}(h:Own f base e c w v l):Own f base e c w.drew v l:=h
theorem RL.drew{α:Type}{f:α->List Value}{w:World}{v:Value}{l:List α}(h:RL f w v l):RL f w.drew v l:=h
end Wb
namespace Go.Proofs.YtlecmdajpfkaeaaGreatDoor
open Go.RowKit Wb
theorem jd0(w : World)(o0 o1 o2 : Bool)(l0 l1 l2 : Int) :(binOp .neq 49 (.agg #[.bool o0,.int .i64 l0,.bool o1,.int .i64 l1,.bool o2,.int .i64 l2]) (.agg #[.bool o0,.int .i64 l0,.bool o1,.int .i64 l1,.bool o2,.int .i64 l2])).run Tryz.prog w=.ok (.bool false) w:=by
 obtain⟨i,hi,_⟩:=info_parts (show(Tryz.prog.info? 48).map (fun i=>(i.zero,i.size,i.bytes))=some (some (.agg #[.bool false,.int .i64 0]),2,16) from af);have hc:Tryz.prog.cellsOf 48=2:=af;rw[run_neq_struct,run_equalIn_array w 9999 _ _ Tryz.underlying49 hi,hc,show List.range 3=[0,1,2] from rfl];simp[Op.eqItems,go_sem]
theorem gL{A:Prop}(h:A:=by
 go_wp2;go_quiet (fail);go_wp2;go_roundw
 case rel=>exact⟨k+1,aa,an,jP4 nx⟩
 case measure=>simp[intOf];omega):A:=h
theorem jM2(l : List Cpy)(v1 v2 : Value)(w : World)(h1 : RL j_3 w v1 l)(h2 : RL j_3 w v2 l)(hl : l.length <= 5864062014805) :Calls Tryz.prog 40 #[v1,v2] w fun e w'=>e=.returned (.bool true)/\Below w.heap.size w w':=by
 obtain⟨a,cap,rfl,_⟩:=h1.form;obtain⟨b,bcap,rfl,_⟩:=h2.form;have hle:((l.length:Int) != (l.length:Int))=false:=ag;replace h1:=hid h1;replace h2:=hid h2;go_enter Tryz.func40,Tryz.ntmps40;go_wp2
 go_loopw [13] (fun i wr=>∃k:Nat,k<=l.length/\i=.int .i64 k/\Below w.heap.size w wr) (fun i _=>l.length-(intOf i).toNat)
 case atStart=>exact⟨0,iq _,rfl,b0 w⟩
 case round=>
  obtain⟨k,hk,rfl,nx⟩:=hrel;by_cases hlt:k<l.length
  ·obtain⟨b1,o1,rfl,c0,c1⟩:=kj3 (fun x=>.int .i64 x.block) (fun x=>.string x.text) (fun _=>rfl) (h1.out.below nx) hlt;obtain⟨b2,o2,rfl,d0,d1⟩:=kj3 (fun x=>.int .i64 x.block) (fun x=>.string x.text) (fun _=>rfl) (h2.out.below nx) hlt;generalize l[k]=x at*;exact gL
  ·go_wp2;go_ret;exact⟨rfl,nx⟩
theorem k97(t : Txn)(v1 v2 : Value)(w : World)(h1 : j17 w v1 t)(h2 : j17 w v2 t) :Calls Tryz.prog 11 #[v1,v2] w fun e w'=>e=.returned (.bool true)/\Below w.heap.size w w':=by
 obtain⟨vm,vd,vr,rfl,hm,hd,hr,n1,n2,n3⟩:=h1;obtain⟨vm2,vd2,vr2,rfl,hm2,hd2,hr2,_⟩:=h2;unfold j84;have hSm:=fun w h1 h2=>jM2 t.mt vm vm2 w h1 h2 n1;have hSd:=fun w h1 h2=>jM2 t.dt vd vd2 w h1 h2 n2;obtain⟨am,cm,rfl,_⟩:=hm.form;obtain⟨am2,cm2,rfl,_⟩:=hm2.form;obtain⟨ad,cd,rfl,_⟩:=hd.form;obtain⟨ad2,cd2,rfl,_⟩:=hd2.form;obtain⟨ar,cr,rfl,_⟩:=hr.form;obtain⟨ar2,cr2,rfl,_⟩:=hr2.form;have hle:((t.rev.length:Int) != (t.rev.length:Int))=false:=ag;replace hm:=hid hm;replace hm2:=hid hm2;replace hd:=hid hd;replace hd2:=hid hd2;replace hr:=hid hr;replace hr2:=hid hr2;replace hSm:=hid hSm;replace hSd:=hid hSd;obtain⟨seq,mt,dt,rev,⟨on0,l0⟩,⟨on1,l1⟩,⟨on2,l2⟩⟩:=t;dsimp only at*;have hH:=fun w=>jd0 w on0 on1 on2 l0 l1 l2;have k0:=(kk3 w #[.int .i64 seq,.slice am mt.length cm,.slice ad dt.length cd,.slice ar rev.length cr,.bool on0,.int .i64 l0,.bool on1,.int .i64 l1,.bool on2,.int .i64 l2] 51).alloc (.cells #[.int .i64 seq,.slice am2 mt.length cm2,.slice ad2 dt.length cd2,.slice ar2 rev.length cr2,.bool on0,.int .i64 l0,.bool on1,.int .i64 l1,.bool on2,.int .i64 l2] 51)
 have k1:Blk ((w.alloc (.cells #[.int .i64 seq,.slice am mt.length cm,.slice ad dt.length cd,.slice ar rev.length cr,.bool on0,.int .i64 l0,.bool on1,.int .i64 l1,.bool on2,.int .i64 l2] 51)).alloc (.cells #[.int .i64 seq,.slice am2 mt.length cm2,.slice ad2 dt.length cd2,.slice ar2 rev.length cr2,.bool on0,.int .i64 l0,.bool on1,.int .i64 l1,.bool on2,.int .i64 l2] 51)) (w.heap.size+1) #[.int .i64 seq,.slice am2 mt.length cm2,.slice ad2 dt.length cd2,.slice ar2 rev.length cr2,.bool on0,.int .i64 l0,.bool on1,.int .i64 l1,.bool on2,.int .i64 l2] 51:=kl8 ag;have nx0:Below w.heap.size w ((w.alloc (.cells #[.int .i64 seq,.slice am mt.length cm,.slice ad dt.length cd,.slice ar rev.length cr,.bool on0,.int .i64 l0,.bool on1,.int .i64 l1,.bool on2,.int .i64 l2] 51)).alloc (.cells #[.int .i64 seq,.slice am2 mt.length cm2,.slice ad2 dt.length cd2,.slice ar2 rev.length cr2,.bool on0,.int .i64 l0,.bool on1,.int .i64 l1,.bool on2,.int .i64 l2] 51)):=bal (bal (b0 w) _) _;have hne:¬(w.heap.size=w.heap.size+1):=aa;go_enter Tryz.func11,Tryz.ntmps11
 go_wp2_with (first|(go_at_call_of 40 (Value.slice am2 mt.length cm2);(refine(hSm.out _ (hm.out.below nx0) (hm2.out.below nx0)).mono ?_;rintro e w1 ⟨rfl,hb1⟩;replace k0:=k0.step hb1;replace k1:=k1.step hb1;have nx1:=bgo nx0 hb1;have l0':=k0.lt;have l1':=k1.lt;have c0:=k0.cell 2;have c1:=k1.cell 2;have c2:=k0.cell 3;have c3:=k1.cell 3;simp only[Zga,Zgb,Zgc] at c0 c1 c2 c3))|(go_at_call_of 40 (Value.slice ad2 dt.length cd2);(refine(hSd.out _ (hd.out.below nx1) (hd2.out.below nx1)).mono ?_;rintro e w2 ⟨rfl,hb2⟩;replace k0:=k0.step hb2;replace k1:=k1.step hb2;have nx2:=bgo nx1 hb2;(try clear l0' l1' c0 c1 c2 c3);have l0':=k0.lt;have l1':=k1.lt;have c2:=k0.cell 3;have c3:=k1.cell 3;simp only[Zga,Zgb,Zgc] at c2 c3)))
 clear l0' l1' c2 c3
 go_loopw [46] (fun i wr=>∃k:Nat,k<=rev.length/\i=.int .i64 k/\Below w2.heap.size w2 wr) (fun i _=>rev.length-(intOf i).toNat)
 case atStart=>exact⟨0,iq _,rfl,b0 w2⟩
 case round=>
  obtain⟨k,hk,rfl,nx⟩:=hrel;have nx3:=bgo nx2 nx;by_cases hlt:k<rev.length
  ·obtain⟨b1,o1,rfl,d0⟩:=kl6 (fun x=>.int .i64 x) (fun _=>rfl) (hr.out.below nx3) hlt;obtain⟨b2,o2,rfl,d1⟩:=kl6 (fun x=>.int .i64 x) (fun _=>rfl) (hr2.out.below nx3) hlt;replace k0:=k0.step nx;replace k1:=k1.step nx;have l0':=k0.lt;have l1':=k1.lt;have c2:=k0.cell 3;have c3:=k1.cell 3;simp only[Zga,Zgb,Zgc] at c2 c3;generalize rev[k]=x at*;exact gL
  ·go_wp2;go_ret;exact⟨rfl,nx3⟩
theorem f'{A:Prop}(h:A:=by
 rw[hv];go_enter Tryz.func68,Tryz.ntmps68;go_wp2;go_ret;exact⟨rfl,rfl⟩):A:=h
theorem jo8(n:Int)(w:World):Calls Tryz.prog 68 #[.int .i64 n] w fun e w'=>e=.returned (.bool (jR6 n))/\w=w':=by
 by_cases h0:0<=n
 ·by_cases h1:n<37
  ·have hv:jR6 n=true:=iG ⟨h0,h1⟩;exact f'
  ·have hv:jR6 n=false:=iH fun hh=>h1 hh.2;exact f'
 ·have hv:jR6 n=false:=iH fun hh=>h0 hh.1;exact f'
theorem f_{A:Prop}(h:A:=by
 rw[hv];go_enter Tryz.func61,Tryz.ntmps61;go_wp2;go_ret;exact⟨rfl,rfl⟩):A:=h
theorem jB1(n:Int)(w:World):Calls Tryz.prog 61 #[.int .i64 n] w fun e w'=>e=.returned (.bool (jR6 n))/\w=w':=by
 by_cases h0:0<=n
 ·by_cases h1:n<=36
  ·have hv:jR6 n=true:=iG ⟨h0,aa⟩;exact f_
  ·have hv:jR6 n=false:=iH fun hh=>h1 aa;exact f_
 ·have hv:jR6 n=false:=iH fun hh=>h0 hh.1;exact f_
theorem k18(s:ByteArray)(w:World):Calls Tryz.prog 102 #[.string s] w fun e w'=>e=.returned (.bool (!jN1 s))/\w=w':=by
 by_cases h0:s.size=32
 ·have hv:jN1 s=true:=iG h0;rw[hv];have h1:((s.size:Int) != 32)=false:=by rw[h0];rfl
  go_enter Tryz.func102,Tryz.ntmps102;go_wp2;go_ret;exact⟨rfl,rfl⟩
 ·have hv:jN1 s=false:=iH h0;rw[hv];have h1:((s.size:Int) != 32)=true:=jd.2 aa;go_enter Tryz.func102,Tryz.ntmps102;go_wp2;go_ret;exact⟨rfl,rfl⟩
theorem jD7(v : Value)(xs : List ByteArray)(w : World)(hx : RL j42 w v xs)(hn : xs.length <= 8796093022208) :Calls Tryz.prog 137 #[v,.func (.func 102) #[] #[]] w fun e w'=>(∃r:Int,e=.returned (.int .i64 r)/\kn_ (xs.all jN1) r)/\w=w':=by
 obtain⟨a,cap,rfl,c1,c2⟩:=hx.form;have hno:=fun k (hk:k<xs.length) (hp:jN1 xs[k]=false)=>jF5 hk hp;have hful:=fun k (hk:k<=xs.length) (hn:¬k<xs.length) (hp:(xs.take k).all jN1=true)=>jC_ hk hn hp;generalize xs.all jN1=ai at*;replace hno:=hid hno;replace hful:=hid hful;go_enter Tryz.func137,Tryz.ntmps137;go_wp2
 go_loop [5,8] (fun _ i=>∃k:Nat,k<=xs.length/\i=.int .i64 k/\Hid ((xs.take k).all jN1=true)) (fun _ i=>xs.length-(intOf i).toNat)
 case atStart=>exact⟨0,iq _,rfl,rfl⟩
 case round=>
  obtain⟨k,hk,rfl,hall⟩:=hrel;by_cases hlt:k<xs.length
  ·obtain⟨b,off,rfl,d0⟩:=kl6 (fun x=>.string x) (fun _=>rfl) hx hlt;have hG:=fun w=>k18 xs[k] w
   cases hb:jN1 xs[k]
   ·rw[hb] at hG;obtain rfl:=hno.out k hlt hb;replace hG:=hid hG;clear hall hb;generalize xs[k]=x at*
    go_wp2_with (go_at_call 102;refine(hG.out _).mono ?_;rintro e w1 ⟨rfl,rfl⟩)
    go_ret;exact⟨⟨_,rfl,Int.natCast_nonneg _⟩,rfl⟩
   ·rw[hb] at hG;have hs:=hid (jC0 hlt hall.out hb);replace hG:=hid hG;clear hall hb;generalize xs[k]=x at*
    go_wp2_with (go_at_call 102;refine(hG.out _).mono ?_;rintro e w1 ⟨rfl,rfl⟩)
    go_round
    case rel=>exact⟨k+1,aa,an,hs.out⟩
    case measure=>simp[intOf];omega
  ·obtain rfl:=hful.out k hk hlt hall.out;clear hall;go_wp2;go_ret;exact⟨⟨_,rfl,rfl⟩,rfl⟩
theorem jL9(v : Value)(xs : List ByteArray)(w : World)(hx : RL j42 w v xs)(hn : xs.length <= 8796093022208) :Calls Tryz.prog 101 #[v,.func (.func 102) #[] #[]] w fun e w'=>e=.returned (.bool (!xs.all jN1))/\w=w':=by
 have hI:=jD7 v xs w hx hn;obtain⟨a,cap,rfl,c1,c2⟩:=hx.form;clear hx
 cases hb:xs.all jN1
 ·rw[hb] at hI;replace hI:=hid hI;go_enter Tryz.func101,Tryz.ntmps101
  go_wp2_with (go_at_call 137;refine hI.out.mono ?_;rintro e w1 ⟨⟨r,rfl,hr⟩,rfl⟩;replace hr:0<=r:=hr)
  go_ret;exact⟨rfl,rfl⟩
 ·rw[hb] at hI;replace hI:=hid hI;go_enter Tryz.func101,Tryz.ntmps101
  go_wp2_with (go_at_call 137;refine hI.out.mono ?_;rintro e w1 ⟨⟨r,rfl,hr⟩,rfl⟩;obtain rfl:r= -1:=hr)
  go_ret;exact⟨rfl,rfl⟩
theorem fT{A:Prop}(h:A:=by
 rw[hb] at hC;clear hno hyes hb
 go_wp2_with (go_at_call 101;refine(hC.out _ _ (hs.out.below hnx)).mono ?_;rintro e w1 ⟨rfl,rfl⟩)
 go_ret;exact⟨rfl,hnx⟩):A:=h
theorem gh{A:Prop}(h:A:=by
 generalize writes[k]=x at*
 go_wp2_with (go_at_call 68;refine(hA.out _).mono ?_;rintro e w1 ⟨rfl,rfl⟩)
 go_ret;exact⟨rfl,j63 hnx aa _⟩):A:=h
theorem gV{A:Prop}(h:A:=by
 go_roundw
 case rel=>exact⟨k+1,aa,an,hst,kb.alloc _,j63 hnx aa _⟩
 case measure=>simp[intOf];omega):A:=h
theorem jU1(d : Dsk)(v : Value)(w : World)(hd : j_7 w v d) :Calls Tryz.prog 67 #[v] w fun e w'=>e=.returned (.bool (goodD d))/\Below w.heap.size w w':=by
 obtain⟨vs,vw,rfl,hs,hw,n1,n2⟩:=hd;obtain⟨safe,writes⟩:=d;dsimp only at*;have hC:=fun v w (hx:RL j42 w v safe)=>jL9 v safe w hx n1;have hgi:=j81 ⟨safe,writes⟩;dsimp only at hgi
 have hno:(¬(safe.length=37/\writes.length<=200/\safe.all jN1=true/\writes.all jD9=true))->goodD ⟨safe,writes⟩=false:=fun hh=>by
  rw[<-iW];exact fun h2=>hh (hgi.1 h2)
 have hyes:=hgi.2;clear hgi;generalize goodD ⟨safe,writes⟩=g at*;replace hno:=hid hno;replace hyes:=hid hyes;obtain⟨a,cap,rfl,_⟩:=hs.form;obtain⟨b,bcap,rfl,_⟩:=hw.form;replace hs:=hid hs;replace hw:=hid hw;have hC0:=fun(hb:safe.all jN1=true)=>hC;by_cases h37:safe.length≠37
 ·obtain rfl:=hno.out (fun hh=>h37 hh.1);have e1:((safe.length:Int) != 37)=true:=jd.2 aa;clear hC hC0;go_enter Tryz.func67,Tryz.ntmps67;go_wp2;go_ret;exact⟨rfl,aj⟩
 replace h37:=ki.1 h37;have e1:((safe.length:Int) != 37)=false:=by rw[h37];rfl
 by_cases h200:¬writes.length<=200
 ·obtain rfl:=hno.out (fun hh=>h200 hh.2.1);clear hC hC0;go_enter Tryz.func67,Tryz.ntmps67;go_wp2;go_ret;exact⟨rfl,aj⟩
 replace h200:=ki.1 h200;clear hC0;replace hC:=hid hC;replace h37:=hid h37;have kb:Blk (w.alloc (.cells #[.slice a safe.length cap,.slice b writes.length bcap] 44)) w.heap.size #[.slice a safe.length cap,.slice b writes.length bcap] 44:=kk3 w _ _;have nf:0<w.heap.size+1:=aa;go_enter Tryz.func67,Tryz.ntmps67;go_wp2
 go_loopw [4,18] (fun _ i wr=>∃k:Nat,k<=writes.length/\i=.int .i64 k/\Hid ((writes.take k).all jD9=true)/\Blk wr w.heap.size #[.slice a safe.length cap,.slice b writes.length bcap] 44/\Below w.heap.size w wr) (fun _ i _=>writes.length-(intOf i).toNat)
 case atStart=>exact⟨0,iq _,rfl,rfl,kb,aj⟩
 case round=>
  obtain⟨k,hk,rfl,hall,kb,hnx⟩:=hrel;have lt0:=kb.lt;by_cases hlt:k<writes.length
  ·obtain⟨b,off,rfl,d0,d1⟩:=kj3 (fun x=>.int .i64 x.at_) (fun x=>.string x.text) (fun _=>rfl) (hw.out.below hnx) hlt;have lt1:=i0 _ _ d0;dsimp only at lt1;have hA:=fun w=>jo8 writes[k].at_ w;by_cases ha:jR6 writes[k].at_=true
   ·rw[ha] at hA;replace hA:=hid hA;by_cases ht:jN1 writes[k].text=true
    ·have hst:=hid (jC0 hlt hall.out (by unfold jD9;rw[ha,ht];rfl));have e2:((writes[k].text.size:Int) != 32)=false:=by rw[iF ht];rfl
     clear ha ht hall hno hyes;generalize writes[k]=x at*
     go_wp2_with (go_at_call 68;refine(hA.out _).mono ?_;rintro e w1 ⟨rfl,rfl⟩)
     exact gV
    ·obtain rfl := hno.out (fun hh => by
       have:=jF5 hlt (p:=jD9) (by unfold jD9;rw[ha,iW _|>.mp ht];rfl);rw[this] at hh;exact Bool.noConfusion hh.2.2.2)
     have e2:((writes[k].text.size:Int) != 32)=true:=jd.2 (fun hh=>ht (iG aa));clear ha ht hall hno hyes;exact gh
   ·obtain rfl := hno.out (fun hh => by
      have:=jF5 hlt (p:=jD9) (by unfold jD9;rw[iW _|>.mp ha];rfl);rw[this] at hh;exact Bool.noConfusion hh.2.2.2)
    rw[iW _|>.mp ha] at hA;replace hA:=hid hA;clear ha hall hno hyes;exact gh
  ·have hf:=hid (jC_ hk hlt hall.out);have c0:=kb.cell 0;simp only[Zga,Zgb,Zgc] at c0;clear hall
   cases hb:safe.all jN1
   ·obtain rfl:=hno.out (fun hh=>by rw[hb] at hh;exact Bool.noConfusion hh.2.2.1);exact fT
   ·obtain rfl:=hyes.out ⟨h37.out,h200,hb,hf.out⟩;exact fT
theorem j29(d : Dsk)(v : Value)(w : World)(hd : j_7 w v d) :Calls Tryz.prog 52 #[v] w fun e w'=>e=.returned (.bool (goodD d))/\Below w.heap.size w w':=by
 obtain⟨vs,vw,rfl,hs,hw,n1,n2⟩:=hd;obtain⟨safe,writes⟩:=d;dsimp only at*;have hgi:=j81 ⟨safe,writes⟩;dsimp only at hgi
 have hno:(¬(safe.length=37/\writes.length<=200/\safe.all jN1=true/\writes.all jD9=true))->goodD ⟨safe,writes⟩=false:=fun hh=>by
  rw[<-iW];exact fun h2=>hh (hgi.1 h2)
 have hyes:=hgi.2;clear hgi;generalize goodD ⟨safe,writes⟩=g at*;replace hno:=hid hno;replace hyes:=hid hyes;obtain⟨a,cap,rfl,_⟩:=hs.form;obtain⟨b,bcap,rfl,_⟩:=hw.form;replace hs:=hid hs;replace hw:=hid hw;have kb:Blk (w.alloc (.cells #[.slice a safe.length cap,.slice b writes.length bcap] 44)) w.heap.size #[.slice a safe.length cap,.slice b writes.length bcap] 44:=kk3 w _ _;have nf:0<w.heap.size+1:=aa;go_enter Tryz.func52,Tryz.ntmps52;go_wp2
 go_loop [4,10] (fun _ i=>∃k:Nat,k<=safe.length/\i=.int .i64 k/\Hid ((safe.take k).all jN1=true)) (fun _ i=>safe.length-(intOf i).toNat)
 case atStart=>exact⟨0,iq _,rfl,rfl⟩
 case round=>
  obtain⟨k,hk,rfl,hall⟩:=hrel;by_cases hlt:k<safe.length
  ·obtain⟨b,off,rfl,d0⟩:=kl6 (fun x=>.string x) (fun _=>rfl) hs.out hlt;have lt1:=i0 _ _ d0;dsimp only at lt1;by_cases ht:jN1 safe[k]=true
   ·have hst:=hid (jC0 hlt hall.out ht);have e2:((safe[k].size:Int) != 32)=false:=by rw[iF ht];rfl
    clear ht hall hno hyes;generalize safe[k]=x at*;go_wp2;go_round
    case rel=>exact⟨k+1,aa,an,hst⟩
    case measure=>simp[intOf];omega
   ·obtain rfl := hno.out (fun hh => by
      have:=jF5 hlt (p:=jN1) (iW _|>.mp ht);rw[this] at hh;exact Bool.noConfusion hh.2.2.1)
    have e2:((safe[k].size:Int) != 32)=true:=jd.2 (fun hh=>ht (iG aa));clear ht hall hno hyes;generalize safe[k]=x at*;go_wp2;go_ret;exact⟨rfl,aj⟩
  ·have hfs:=hid (jC_ hk hlt hall.out);clear hall;go_wp2
   go_loopw [6,21] (fun _ i wr=>∃k:Nat,k<=writes.length/\i=.int .i64 k/\Hid ((writes.take k).all jD9=true)/\Blk wr w.heap.size #[.slice a safe.length cap,.slice b writes.length bcap] 44/\Below w.heap.size w wr) (fun _ i _=>writes.length-(intOf i).toNat)
   case atStart=>exact⟨0,iq _,rfl,rfl,kb,aj⟩
   case round=>
    obtain⟨k,hk,rfl,hall,kb,hnx⟩:=hrel;have lt0:=kb.lt;by_cases hlt:k<writes.length
    ·obtain⟨b,off,rfl,d0,d1⟩:=kj3 (fun x=>.int .i64 x.at_) (fun x=>.string x.text) (fun _=>rfl) (hw.out.below hnx) hlt;have lt1:=i0 _ _ d0;dsimp only at lt1;have hA:=fun w=>jB1 writes[k].at_ w;by_cases ht:jN1 writes[k].text=true
     ·have e2:((writes[k].text.size:Int) != 32)=false:=by rw[iF ht];rfl
      by_cases ha:jR6 writes[k].at_=true
      ·rw[ha] at hA;replace hA:=hid hA;have hst:=hid (jC0 hlt hall.out (by unfold jD9;rw[ha,ht];rfl));clear ha ht hall hno hyes;generalize writes[k]=x at*
       go_wp2_with (go_at_call 61;refine(hA.out _).mono ?_;rintro e w1 ⟨rfl,rfl⟩)
       exact gV
      ·obtain rfl := hno.out (fun hh => by
         have:=jF5 hlt (p:=jD9) (by unfold jD9;rw[iW _|>.mp ha];rfl);rw[this] at hh;exact Bool.noConfusion hh.2.2.2)
       rw[iW _|>.mp ha] at hA;replace hA:=hid hA;clear ha ht hall hno hyes;generalize writes[k]=x at*
       go_wp2_with (go_at_call 61;refine(hA.out _).mono ?_;rintro e w1 ⟨rfl,rfl⟩)
       go_ret;exact⟨rfl,j63 hnx aa _⟩
     ·obtain rfl := hno.out (fun hh => by
        have:=jF5 hlt (p:=jD9) (by unfold jD9;rw[iW _|>.mp ht,Bool.and_false]);rw[this] at hh;exact Bool.noConfusion hh.2.2.2)
      have e2:((writes[k].text.size:Int) != 32)=true:=jd.2 (fun hh=>ht (iG aa));clear ht hall hno hyes hA;generalize writes[k]=x at*;go_wp2;go_ret;exact⟨rfl,j63 hnx aa _⟩
    ·have hf:=hid (jC_ hk hlt hall.out);have c0:=kb.cell 0;have c1:=kb.cell 1;simp only[Zga,Zgb,Zgc] at c0 c1;clear hall;by_cases h37:safe.length=37
     ·have e1:((safe.length:Int)==37)=true:=by rw[h37];rfl
      by_cases h200:writes.length<=200
      ·obtain rfl:=hyes.out ⟨h37,h200,hfs.out,hf.out⟩;clear hno hyes;replace h37:=hid h37;go_wp2;go_ret;exact⟨j6_ (iG aa),hnx⟩
      ·obtain rfl:=hno.out (fun hh=>h200 hh.2.1);clear hno hyes;replace h37:=hid h37;go_wp2;go_ret;exact⟨j6_ (iH aa),hnx⟩
     ·obtain rfl:=hno.out (fun hh=>h37 hh.1);have e1:((safe.length:Int)==37)=false:=ik.2 aa;clear hno hyes;replace h37:=hid h37;go_wp2;go_ret;exact⟨rfl,hnx⟩
end Go.Proofs.YtlecmdajpfkaeaaGreatDoor