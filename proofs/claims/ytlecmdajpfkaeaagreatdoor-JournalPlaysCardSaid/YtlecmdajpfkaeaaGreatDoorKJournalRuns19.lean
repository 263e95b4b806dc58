/- Parts of the proof. -/
import Derived.Test.YtlecmdajpfkaeaaGreatDoorKJournalRuns15
import Derived.Test.YtlecmdajpfkaeaaGreatDoorKJournalRuns17
import Derived.Test.YtlecmdajpfkaeaaGreatDoorKJournalRuns12
set_option linter.unusedVariables false
set_option linter.unusedSimpArgs false
set_option maxRecDepth 100000
set_option maxHeartbeats 40000000
namespace Go.Proofs.YtlecmdajpfkaeaaGreatDoor
open Go.RowKit Wb
theorem kU6:Elem Tryz.prog 65 103 2 16:=kj_ (z:=.agg #[.int .i64 0,.bool false]) Tryz.underlying65 af rfl
theorem jf_{s:ByteArray}(hs:okS s):s.extract 0 4=⟨#[87,66,75,49]⟩:=by
 apply js9;rw[ByteArray.data_extract,Array.toList_extract];simpa [magic] using hs.2
theorem kK5{x y:ByteArray}(h:x≠y):(!x.toList==y.toList)=true:=by
 rw[kh,ik];intro hh;rw[Lib.toList_data,Lib.toList_data] at hh;exact h (js9 hh)
theorem kM1(s:ByteArray)(k:Nat):rawTags s (k+1)=rawTags s k++ [jd9 s k]:=jE_ s k
theorem kW9(s:ByteArray){j:Nat}(h:10<=j):rawBlks s (j+1-10)=rawBlks s (j-10)++ [nb s j]:=by
 rw[show j+1-10=(j-10)+1 from aa,jF9,show 10+(j-10)=j from aa]
def j26(base:Nat)(w:World)(v:Value)(m:Mrk):Prop:=
 ∃vt vb,v=.agg #[.int .i64 m.kind,.int .i64 m.seq,.int .i64 m.at_,vt,vb]/\Wb.Own jK_ base 103 2 w vt m.tags/\Wb.Own j_9 base 3 1 w vb m.blocks/\m.tags.length<=11/\m.blocks.length<=22
theorem j26.reads{base:Nat}{w:World}{v:Value}{m:Mrk}(h:j26 base w v m):j1_ w v m:=by
 obtain⟨vt,vb,hv,h1,h2,h3,h4⟩:=h;exact⟨vt,vb,hv,h1.reads,h2.reads,aa,aa⟩
theorem j26.below{base:Nat}{w w':World}{v:Value}{m:Mrk}(h:j26 base w v m)(hb:Below w.heap.size w w'):j26 base w' v m:=by
 obtain⟨vt,vb,hv,h1,h2,h3⟩:=h;exact⟨vt,vb,hv,h1.below hb,h2.below hb,h3⟩
theorem j26.plain(base:Nat)(w:World)(k q a:Int):j26 base w (.agg #[.int .i64 k,.int .i64 q,.int .i64 a,.slice none 0 0,.slice none 0 0]) ⟨k,q,a,[],[]⟩:=⟨_,_,rfl,Own.nil _ _ _ _ _,Own.nil _ _ _ _ _,iq _,iq _⟩
def jR7(s:ByteArray)(w0 wx:World):Prop:=
 ∃vt vb,Wb.Own jK_ (w0.heap.size+2) 103 2 wx vt (rawM s).tags/\Wb.Own j_9 (w0.heap.size+2) 3 1 wx vb (rawM s).blocks/\Blk wx w0.heap.size #[.int .i64 0,.int .i64 0,.int .i64 0,.slice none 0 0,.slice none 0 0] 67/\Blk wx (w0.heap.size+1) #[.int .i64 (rawM s).kind,.int .i64 (rawM s).seq,.int .i64 (rawM s).at_,vt,vb] 67/\Below w0.heap.size w0 wx
theorem kj1{s : ByteArray}{w0 wx : World}{k q a : Int}{tags : List Tag}{blocks : List Int}{vt vb : Value}(hR : rawM s = ⟨k, q, a, tags, blocks⟩)(h1 : Wb.Own jK_ (w0.heap.size + 2) 103 2 wx vt tags)(h2 : Wb.Own j_9 (w0.heap.size + 2) 3 1 wx vb blocks)(kr:Blk wx w0.heap.size #[.int .i64 0,.int .i64 0,.int .i64 0,.slice none 0 0,.slice none 0 0] 67) (km:Blk wx (w0.heap.size+1) #[.int .i64 k,.int .i64 q,.int .i64 a,vt,vb] 67) (nx:Below w0.heap.size w0 wx):jR7 s w0 wx:=
 ⟨vt,vb,by rw[hR];exact h1,by rw[hR];exact h2,kr,by rw[hR];exact km,nx⟩
end Go.Proofs.YtlecmdajpfkaeaaGreatDoor
namespace Wb
open Go Go.RowKit
def jf7(vs vw:Value)(A:Int)(n:Nat):Array Value:= #[vs,vw,.int .i64 ((A+(24-(n:Int)))%24),.int .i64 (n:Int)]
theorem Own.grownBlk{α:Type}{f:α->List Value}{base:Nat}{e:TypeId}{c:Nat}{w w':World}{v:Value}{l:List α}(h:Own f base e c w v l){b:Nat}{cs:Array Value}{t:TypeId}(hb:Blk w b cs t)(hne:e≠t)(hg:w.grownBy w' (some b)):Own f base e c w' v l:=by
 refine h.grown hg ?_
 cases hv:v.ownBlock with
 |none=>exact .inl rfl
 |some g=>
  refine .inr fun hh=>?_
  obtain⟨c1,h1⟩:=h.cellsOf hv
  cases hh
  unfold Blk at hb
  rw[h1] at hb
  simp only[iO,mu] at hb
  exact hne hb.2.1
end Wb
namespace Go.Proofs.YtlecmdajpfkaeaaGreatDoor
open Go.RowKit Wb
theorem kG5(br : Nat)(vs vw : Value)(A : Int)(w : World)(k : Blk w br (jf7 vs vw A 0) 148) :Calls Tryz.prog 138 #[.pointer (some ⟨br,0,none⟩)] w fun e w'=>e=.returned (.tuple #[.string ⟨#[]⟩,.bool false])/\w=w':=kY5 br vs vw _ w k
theorem kR9(d : Dsk)(br : Nat)(vs vw : Value)(A : Int)(s : ByteArray)(r : List ByteArray)(w : World)(hd : j_7 w (.agg #[vs, vw]) d)(k : Blk w br (jf7 vs vw A (r.length + 1)) 148)(hs : sfx d A (s :: r)) :Calls Tryz.prog 138 #[.pointer (some ⟨br,0,none⟩)] w fun e w'=>e=.returned (.tuple #[.string s,.bool true])/\Blk w' br (jf7 vs vw A r.length) 148/\w.grownBy w' (some br):=by
 obtain⟨h1,h2,h3⟩:=jO4 hs;have:=kY6 d br vs vw ((A+(24-((r.length+1:Nat):Int)))%24) ((r.length+1:Nat):Int) w hd k (jZ _ ae) (jT _ ae) aa aa;rw[h2] at this;have e1:((A+(24-((r.length+1:Nat):Int)))%24+1)%24=(A+(24-(r.length:Int)))%24:=aa;have e2:((r.length+1:Nat):Int)-1=(r.length:Int):=aa;rw[e1,e2] at this;exact this
end Go.Proofs.YtlecmdajpfkaeaaGreatDoor
namespace Wb
open Go Go.RowKit
def ko3(base:Nat)(tt tc ti:TypeId)(w:World)(v:Value)(F:Fnd):Prop:=∃vt,v=.agg #[vt,.int .i64 F.next,.int .i64 F.at_]/\j43 base tt tc ti w vt F.txns
theorem jR0.grownBlk{base:Nat}{tc ti:TypeId}{w w':World}{v:Value}{t:Txn}(h:jR0 base tc ti w v t){b:Nat}{cs:Array Value}{e:TypeId}(hb:Blk w b cs e)(hc:tc≠e)(hi:ti≠e)(hg:w.grownBy w' (some b)):jR0 base tc ti w' v t:=by
 obtain⟨vm,vd,vr,hv,h1,h2',h3,h4⟩:=h;exact⟨vm,vd,vr,hv,h1.grownBlk hb hc hg,h2'.grownBlk hb hc hg,h3.grownBlk hb hi hg,h4⟩
theorem jR0.setCell{base:Nat}{tc ti:TypeId}{w:World}{v:Value}{t:Txn}(h:jR0 base tc ti w v t){p:Addr}(hp:p.block<base)(u:Value):jR0 base tc ti (w.setCell p u) v t:=by
 obtain⟨vm,vd,vr,hv,h1,h2',h3,h4⟩:=h;exact⟨vm,vd,vr,hv,h1.setCell hp u,h2'.setCell hp u,h3.setCell hp u,h4⟩
theorem j43.grownBlk{base:Nat}{tt tc ti:TypeId}{w w':World}{v:Value}{l:List Txn}(h:j43 base tt tc ti w v l){b:Nat}{cs:Array Value}{e:TypeId}(hb:Blk w b cs e)(ht:tt≠e)(hc:tc≠e)(hi:ti≠e)(hg:w.grownBy w' (some b)):j43 base tt tc ti w' v l:=by
 obtain⟨xs,h1,h2,h3⟩:=h;exact⟨xs,h1.grownBlk hb ht hg,h2,fun x hx=>(h3 x hx).grownBlk hb hc hi hg⟩
theorem j43.setCell{base:Nat}{tt tc ti:TypeId}{w:World}{v:Value}{l:List Txn}(h:j43 base tt tc ti w v l){p:Addr}(hp:p.block<base)(u:Value):j43 base tt tc ti (w.setCell p u) v l:=by
 obtain⟨xs,h1,h2,h3⟩:=h;exact⟨xs,h1.setCell hp u,h2,fun x hx=>(h3 x hx).setCell hp u⟩
theorem ji6{s:ByteArray}(h:decE s=0):1<=(decM s).kind/\(decM s).kind<=4/\((decM s).kind≠2->(decM s).tags=[])/\((decM s).kind≠3->(decM s).blocks=[]):=by
 have hd:j0_ s:=by
  by_cases hd:j0_ s
  ·exact hd
  ·rw[(jN9 hd).2] at h;cases h
 obtain⟨e1,_,e2,_⟩:=jQ_ hd;rw[e1];generalize rawM s=m at*;have k1:¬j97 m:=fun hh=>by rw[j28 hh] at e2;cases e2
 have k2:¬j78 m:=fun hh=>by rw[jW2 k1 hh] at e2;cases e2
 have k3:¬j88 m:=fun hh=>by rw[jX3 k1 k2 hh] at e2;cases e2
 unfold j97 at k1;unfold j88 at k3;refine⟨aa,aa,fun hh=>i5.1 aa,fun hh=>i5.1 aa⟩
theorem kQ8{seq : Int}{n : Nat}{s : ByteArray}{r : List ByteArray}{t : Txn}(h : decE s = 0)(hq : (decM s).seq = seq)(h1 : (decM s).kind ≠ 1)(h4 : (decM s).kind ≠ 4) :j_6 seq (n + 1) (s :: r) t = match j_8 (decM s).tags r t.mt with
      |some (mt,r')=>j_6 seq n r' {t with rev:=t.rev++(decM s).blocks,mt:=mt}
      |none=>none:=by
 obtain⟨k1,k2,k3,k5⟩:=ji6 h
 have e : j_6 seq (n + 1) (s :: r) t = if decE s = 0 /\ (decM s).seq = seq then
     if(decM s).kind=4 then some (t,r)
     else if(decM s).kind=3 then j_6 seq n r {t with rev:=t.rev++(decM s).blocks}
     else if (decM s).kind = 2 then
       match j_8 (decM s).tags r t.mt with
       |some (mt,r')=>j_6 seq n r' {t with mt:=mt}
       |none=>none
     else none
  else none:=rfl
 rw[e,ij ⟨h,hq⟩,ii h4]
 by_cases h3:(decM s).kind=3
 ·rw[ij h3,k3 aa];rfl
 ·have h2:(decM s).kind=2:=by omega
  rw[ii h3,ij h2,k5 h3];simp only[i6]
theorem kQ6{seq:Int}{n:Nat}{s:ByteArray}{r:List ByteArray}{t:Txn}(h:decE s=0)(hq:(decM s).seq=seq)(h4:(decM s).kind=4):j_6 seq (n+1) (s::r) t=some (t,r):=by
 have e : j_6 seq (n + 1) (s :: r) t = if decE s = 0 /\ (decM s).seq = seq then
     if(decM s).kind=4 then some (t,r)
     else if(decM s).kind=3 then j_6 seq n r {t with rev:=t.rev++(decM s).blocks}
     else if (decM s).kind = 2 then
       match j_8 (decM s).tags r t.mt with
       |some (mt,r')=>j_6 seq n r' {t with mt:=mt}
       |none=>none
     else none
  else none:=rfl
 rw[e,ij ⟨h,hq⟩,ij h4]
theorem kQ5{seq:Int}{n:Nat}{s:ByteArray}{r:List ByteArray}{t:Txn}(h:¬(decE s=0/\(decM s).seq=seq/\(decM s).kind≠1)):j_6 seq (n+1) (s::r) t=none:=by
 have e : j_6 seq (n + 1) (s :: r) t = if decE s = 0 /\ (decM s).seq = seq then
     if(decM s).kind=4 then some (t,r)
     else if(decM s).kind=3 then j_6 seq n r {t with rev:=t.rev++(decM s).blocks}
     else if (decM s).kind = 2 then
       match j_8 (decM s).tags r t.mt with
       |some (mt,r')=>j_6 seq n r' {t with mt:=mt}
       |none=>none
     else none
  else none:=rfl
 rw[e];by_cases hc:decE s=0/\(decM s).seq=seq
 ·have h1 : (decM s).kind = 1 := by
    by_cases h1:(decM s).kind=1
    · exact h1
    · exact absurd ⟨hc.1,hc.2,h1⟩ h
  rw[ij hc,ii aa,ii aa,ii aa]
 ·rw[ii hc]
theorem RL.drop{α : Type}{f : α -> List Value}{c : Nat}(hf : ∀ x, (f x).length = c){w : World}{b off n cap : Nat}{l : List α}(h : RL f w (.slice (some ⟨b, off, none⟩) n cap) l){k : Nat}(hk : k <= l.length) :RL f w (.slice (some ⟨b,off+k*c,none⟩) (n-k) (cap-k)) (l.drop k):=by
 obtain⟨a,cap',hv,h1,h2,h3⟩:=h;simp only[i9] at hv;obtain⟨rfl,rfl,rfl⟩:=hv;refine⟨some ⟨b,off+k*c,none⟩,cap-k,by rw[iX],cG,aa,?_⟩;rcases h3 with h3|⟨b',off',ha,hc⟩
 ·left
  cases hl:l.drop k with
  |nil=>rfl
  |cons x r=>
   have:l.flatMap f=(l.take k).flatMap f++(l.drop k).flatMap f:=bY
   rw[h3,hl] at this
   simp only[List.nil_eq,lu] at this
   exact this.2
 ·right;simp only[iO,jJ,jy] at ha;obtain⟨rfl,rfl⟩:=ha;refine⟨b,off+k*c,rfl,fun j u hj=>?_⟩;have:l.flatMap f=(l.take k).flatMap f++(l.drop k).flatMap f:=bY;have hl:=j95 hf (l.take k);rw[iA,jf hk] at hl;have h5:=hc (k*c+j) u (by rw[this,jb aa,hl,jw];exact hj);rw[<-kZ] at h5;exact h5
end Wb
namespace Go.Proofs.YtlecmdajpfkaeaaGreatDoor
open Go.RowKit Wb
theorem fm{A:Prop}(h:A:=by
 go_enter Tryz.func103,Tryz.ntmps103;go_wp2;refine iL (v:=.tuple #[.agg #[.int .i64 0,.int .i64 0,.int .i64 0,.slice none 0 0,.slice none 0 0],.int .i64 1]) (by simp[results,Tryz.results103,go_sem]) rfl ⟨_,rfl,hP.out _,?_⟩;exact bal (b0 w) _):A:=h
theorem jv7(s : ByteArray)(w : World)(hs : ¬ okS s)(hz : s.size <= 9223372036854775807) :Calls Tryz.prog 103 #[.string s] w fun e w'=>∃v,e=.returned (.tuple #[v,.int .i64 (decE s)])/\j26 w.heap.size w' v (decM s)/\Below w.heap.size w w':=by
 have hd:¬j0_ s:=fun h=>hs h.1;obtain⟨dM,dE⟩:=jN9 hd;rw[dM,dE];have hP:=hid (fun w'=>j26.plain w.heap.size w' 0 0 0);by_cases h1:s.size=32
 ·have e1:((s.size:Int) != 32)=false:=by rw[h1];rfl
  have h2:isEsc s=false:=iH fun hh=>hs ⟨h1,hh⟩;have e2:=jF3 s;rw[h2] at e2;have h4:4<=s.size:=aa;clear hs hd dM dE h2 h1;exact fm
 ·have e1:((s.size:Int) != 32)=true:=jd.2 aa;clear hs hd dM dE h1;exact fm
theorem jE2(t : Txn)(hgt : goodT t = true)(v : Value)(w0 : World)(ht : j17 w0 v t) :Calls Tryz.prog 94 #[v] w0 fun e w'=>∃v',e=.returned v'/\Wb.Own j42 w0.heap.size 9 1 w' v' (logT t)/\Below w0.heap.size w0 w':=by
 obtain⟨vm,vd,vr,rfl,hm,hd,hr,n1,n2,n3⟩:=ht;obtain⟨am,cm,rfl,hcm,_⟩:=hm.form;obtain⟨ad,cd,rfl,_⟩:=hd.form;obtain⟨ar,cr,rfl,hcr,_⟩:=hr.form;have hg:=j92.1 hgt;obtain⟨l1,l2,l3⟩:=jg5 hg;have hP0:=kP6 t;have hPs:=fun k (hk:k<2)=>kP5 t hk;have hPe:=kF_ l1;have hPl:=fun k (hk:k<=2)=>kF0 l1 hk;have hLo:logT t=j_4 t++ [markS (jN_ t.seq)]:=rfl;have hpl:=fun k=>jJ0 (t:=t) k;have hpd:∀k,partM t k=(t.mt.drop (k*10)).take 10:=fun k=>rfl;have hcp:∀c∈t.mt,c.text.size=32:=fun c hc=>((j60 _).1 hg.mt).2 c hc|>.2;have hrl1:=fun(h:t.rev≠ [])=>kF8 (q:=t.seq) h;have hrl0:t.rev=[]->ju5 t.seq t.rev=[]:=fun h=>by unfold ju5;rw[ij h]
 generalize hLG:logT t=LG at*;generalize hBT:j_4 t=BT at*;generalize preT t=PT at*;generalize partM t=pm at*;obtain⟨seq,mt,dt,rev,⟨o0,x0⟩,⟨o1,x1⟩,⟨o2,x2⟩⟩:=t;dsimp only at*;unfold j84;dsimp only;have X:St [] w0 w0 [] [kj2 j_3 (.slice am mt.length cm) mt,kj2 j_9 (.slice ar rev.length cr) rev]:=(((kk7 [] w0).addR0 hr).addR0 hm);have hE3:∀w' L',St [] w0 w' L' [kj2 j_3 (.slice am mt.length cm) mt,kj2 j_9 (.slice ar rev.length cr) rev]->_:=fun w' L' Z=>j24 (jL_ seq rev) (.agg #[.int .i64 3,.int .i64 seq,.int .i64 0,.slice none 0 0,.slice ar rev.length cr]) w' ⟨_,_,rfl,RL.nil _ _,Z.r1,iq _,by dsimp only[jL_];omega⟩;have hE4:∀w',_:=fun w'=>j24 (jN_ seq) (.agg #[.int .i64 4,.int .i64 seq,.int .i64 0,.slice none 0 0,.slice none 0 0]) w' ⟨_,_,rfl,RL.nil _ _,RL.nil _ _,iq _,iq _⟩;have hEs:=fun x w hx=>jw5 x w hx;generalize markS (jN_ seq)=mc at*;generalize markE (jN_ seq)=me at*;generalize markS (jL_ seq rev)=ml at*;generalize markE (jL_ seq rev)=mle at*;replace hm:=hid hm;replace hd:=hid hd;replace hr:=hid hr;replace hP0:=hid hP0;replace hPs:=hid hPs;replace hPe:=hid hPe;replace hPl:=hid hPl;replace hLo:=hid hLo;replace hpl:=hid hpl;replace hpd:=hid hpd;replace hcp:=hid hcp;replace hrl1:=hid hrl1;replace hrl0:=hid hrl0;replace hE3:=hid hE3;replace hE4:=hid hE4;replace hEs:=hid hEs;replace hLG:=hid hLG;replace hBT:=hid hBT;replace hg:=hid hg;replace hcm:=hid hcm;replace hcr:=hid hcr;replace hgt:=hid hgt;go_enter Tryz.func94,Tryz.ntmps94
 go_upto_if 24 with (first|(refine ZcL ?_)| (refine ZcS ?_;clear X;intro w X)| (refine ZcA ?_;clear X;intro g w X))
 obtain⟨g1,rfl⟩:=X.gs1
 go_cut [3] (fun v3 wx=>∃(M:List Ent),j4_ j42 9 1 v3 (PT 0) M/\St [] w0 wx (⟨g1,[.int .i64 seq,.slice am mt.length cm,.slice ad dt.length cd,.slice ar rev.length cr,.bool o0,.int .i64 x0,.bool o1,.int .i64 x1,.bool o2,.int .i64 x2],51⟩::(M++ [])) [kj2 j_3 (.slice am mt.length cm) mt,kj2 j_9 (.slice ar rev.length cr) rev])
 case first=>
  by_cases hz:rev=[]
  ·have h0:=hrl0.out hz;rw[<-hP0.out] at h0;have hzi:decide ((0:Int)<(rev.length:Int))=false:=by rw[hz];rfl
   subst hz;go_wp2;go_meet;exact⟨[],by rw[h0];exact j4_.nil _ _ _,X⟩
  ·have h0:=hrl1.out hz;rw[<-hP0.out] at h0;have hlen:0<rev.length:=kX.2 hz;have hzi:decide ((0:Int)<(rev.length:Int))=true:=iG aa;have hgo: [ml].flatMap j42=[.string ml]:=rfl;replace h0:=hid h0;replace hz:=hid hz
   go_wp2_with (first|(refine ZcL ?_)| (refine ZcS ?_;clear X;intro w X)| (refine ZcA ?_;clear X;intro g w X)|(refine j73 rfl ?_;(refine j79 rfl rfl Zev ay ay X ?_;intro g w2 X2;replace X:=X2;clear X2;(simp only[Act.put,zA,zB,zC,zD,zE,zF,zG,Nat.reduceAdd])))|(go_at_call 16;((with_reducible refine(hE3.out _ _ X).mono ?_);rintro e w1 ⟨rfl,hb1⟩;replace X:=X.call hb1;clear hb1))|(at_builtin;((refine jN0 (M:=[]) (T:=[]) (n:=1) [_] rfl rfl [ml] j89 X (j4_.nil _ _ _) Zev Zev hgo rfl ae ?_);intro a2 c2 w2 M2 hO3 X2;replace X:=X2;clear X2;(simp only[Act.put,zA,zB,zC,zD,zE,zF,zG,Nat.reduceAdd]))))
   go_meet;exact⟨M2,by rw[h0.out];exact hO3,X⟩
 case rest=>
  clear X;obtain⟨M,hO,X⟩:=hcut;go_wp2
  go_loopw [3,6] (fun v3 i wr=>∃(k:Nat) (M:List Ent),k<=j74 10 mt.length/\i=.int .i64 ((k:Int)*10)/\j4_ j42 9 1 v3 (PT k) M/\St [] w0 wr (⟨g1,[.int .i64 seq,.slice am mt.length cm,.slice ad dt.length cd,.slice ar rev.length cr,.bool o0,.int .i64 x0,.bool o1,.int .i64 x1,.bool o2,.int .i64 x2],51⟩::(M++ [])) [kj2 j_3 (.slice am mt.length cm) mt,kj2 j_9 (.slice ar rev.length cr) rev]) (fun _ i _=>mt.length+10-(intOf i).toNat)
  case atStart=>exact⟨0,M,iq _,rfl,hO,X⟩
  case round=>
   clear X hO;obtain⟨k,M,hk,rfl,hO,X⟩:=hrel;have hcn:j74 10 mt.length<=2:=by unfold j74;omega
   by_cases hlt:k*10<mt.length
   ·have hk2:k<2:=by omega
    obtain⟨b,off,har,_⟩:=kj3 (f:=j_3) (fun x:Cpy=>.int .i64 x.block) (fun x=>.string x.text) (fun _=>rfl) X.r0 (k:=0) aa;have hpm:=hpl.out k;have hpq:=hpd.out k;have hP:=hPs.out k hk2;have hPn:=hPl.out k aa
    have hmem:∀c∈pm k,c.text.size=32:=fun c hc=>by
     rw[hpq] at hc;exact hcp.out c (jI (jc hc))
    have hp0:0<(pm k).length:=aa;have hp10:(pm k).length<=10:=aa;have hpn:k*10+(pm k).length<=mt.length:=aa;have hX:=fun w L R (X:St [] w0 w L R) (hR:kj2 j_3 (.slice (some ⟨b,off,none⟩) mt.length cm) mt∈R)=>X.partR (f:=j_3) (c:=2) (fun _=>rfl) hR (k*10) (pm k).length hpn
    have hpe:(mt.drop (k*10)).take (pm k).length=pm k:=by
     rw[hpm,hpq];apply ku
     ·simp
     ·intro i _ _;simp
    rw[hpe] at hX;have hmin:min ((k:Int)*10+10) (mt.length:Int)=(k:Int)*10+((pm k).length:Int):=aa;have q0:0<=(k:Int)*10:=aa;have q7:decide ((k:Int)*10<(mt.length:Int))=true:=iG aa;have q1:0<=(k:Int)*10+((pm k).length:Int):=aa;have q2:(k:Int)*10+((pm k).length:Int)<=(cm:Int):=by have:=hcm.out;omega
    have q3:(k:Int)*10<=(k:Int)*10+((pm k).length:Int):=aa;have q4:((k:Int)*10+((pm k).length:Int)).toNat=k*10+(pm k).length:=aa;have q5:¬cm=k*10:=by have:=hcm.out;omega
    have q6:k*10+(pm k).length-k*10=(pm k).length:=aa;subst har;generalize pm k=p at*;replace hpm:=hid hpm;replace hpq:=hid hpq;replace hP:=hid hP;replace hPn:=hid hPn;replace hmem:=hid hmem;replace hX:=hid hX;replace hpe:=hid hpe
    go_wp2_with (first|(refine ZcL ?_)| (refine ZcS ?_;clear X;intro w X)| (refine ZcA ?_;clear X;intro g w X))
    simp only[jw,q7];obtain⟨gm,rfl⟩:=X.gs1;have X2:=hX.out _ _ _ X (.head _);clear X;have X:=X2;clear X2;have hmp:=fun i (hi:i<p.length)=>jV4 (f:=jZ4) hi;have hms:=fun i (hi:i<p.length)=>jV4 (f:=fun c:Cpy=>escS c.text) hi;have hfp:p.take p.length=p:=iY;have hqt:PT (k+1)=PT k++([markS (jR4 seq p)]++p.map (fun c=>escS c.text)):=by rw[hP.out,kZ4 (kX.1 hp0)]
    replace hmp:=hid hmp;replace hms:=hid hms;replace hfp:=hid hfp;replace hqt:=hid hqt
    go_loopw [60] (fun i wr=>∃(q:Nat) (MT:List Ent) (vt:Value),q<=p.length/\i=.int .i64 q/\j4_ jK_ 103 2 vt ((p.take q).map jZ4) MT/\St [] w0 wr (⟨gm,[.int .i64 2,.int .i64 seq,.int .i64 0,vt,.slice none 0 0],67⟩::(MT++(⟨g1,[.int .i64 seq,.slice (some ⟨b,off,none⟩) mt.length cm,.slice ad dt.length cd,.slice ar rev.length cr,.bool o0,.int .i64 x0,.bool o1,.int .i64 x1,.bool o2,.int .i64 x2],51⟩::(M++ [])))) (kj2 j_3 (.slice (some ⟨b,off+k*10*2,none⟩) p.length p.length) p:: [kj2 j_3 (.slice (some ⟨b,off,none⟩) mt.length cm) mt,kj2 j_9 (.slice ar rev.length cr) rev])) (fun i _=>p.length-(intOf i).toNat)
    case atStart=>exact⟨0,[],_,iq _,rfl,j4_.nil _ _ _,X⟩
    case round=>
     clear X;obtain⟨q,MT,vt,hq,rfl,hOT,X⟩:=hrel;by_cases hlq:q<p.length
     ·obtain⟨bz,oz,hbo,c0,c1⟩:=kj3 (fun x:Cpy=>.int .i64 x.block) (fun x=>.string x.text) (fun _=>rfl) X.r0 hlq
      cases hbo
      have hm1:(p.take (q+1)).map jZ4=(p.take q).map jZ4++ [(⟨p[q].block,isEsc p[q].text⟩:Tag)]:=hmp.out q hlq;have hx32:=hmem.out p[q] (iM hlq);have hlT:((p.take q).map jZ4).length<=10:=aQ;(try dsimp only at c0 c1 hm1 hx32);generalize p[q]=x at*;obtain⟨xb,xt⟩:=x;(try dsimp only at*);generalize (p.take q).map jZ4=lT at*;obtain⟨aT,cT,rfl⟩:=hOT.form;have hEx:=fun w=>hEs.out xt w aa;generalize escS xt=xs at*;generalize isEsc xt=xe at*;have hgT: [(⟨xb,xe⟩:Tag)].flatMap jK_=[.int .i64 xb,.bool xe]:=rfl;have h40T:lT.length+1<=1099511627776:=aa;replace hm1:=hid hm1;replace hEx:=hid hEx;replace hx32:=hid hx32
      go_wp2_with (first|(refine ZeL ?_)| (refine ZeS ?_;clear X;intro w X)| (refine ZeA ?_;clear X;intro g w X)|(refine j73 rfl ?_;(refine j79 rfl rfl Zev ay ay X ?_;intro g w2 X2;replace X:=X2;clear X2;(simp only[Act.put,zA,zB,zC,zD,zE,zF,zG,Nat.reduceAdd])))|(go_at_call 130;((with_reducible refine(hEx.out _).mono ?_);rintro e w1 ⟨rfl,hb1⟩;replace X:=X.call hb1;clear hb1))|(at_builtin;((refine jN0 (M:=MT) (T:=_::(M++ [])) (n:=1) [_,_] rfl rfl [(⟨xb,xe⟩:Tag)] jI2 X hOT Zev Zev hgT rfl h40T ?_);intro a2 c2 w2 MT2 hOT2 X2;replace X:=X2;clear X2;(simp only[Act.put,zA,zB,zC,zD,zE,zF,zG,Nat.reduceAdd]))))
      go_roundw
      case rel=>(first|exact⟨q+1,MT2,_,aa,an,by rw[hm1.out];exact hOT2,X.tail⟩| ((repeat apply Exists.intro);exact⟨⟨q+1,MT2,_,aa,an,by rw[hm1.out];exact hOT2,X.tail⟩,rfl⟩))
      case measure=>simp only[intOf];omega
     ·obtain rfl:q=p.length:=by omega
      rw[hfp.out] at hOT
      obtain⟨aT,cT,rfl⟩:∃a c,vt=.slice a p.length c:=by
       obtain⟨a,c,h⟩:=hOT.form;exact⟨a,c,by rw[h,iZ]⟩
      have Z:=St.ownEnd (L:=[_]) (M:=MT) (T:=_::(M++ [])) X hOT;clear X hOT;have X:St [] w0 wr (⟨gm,[.int .i64 2,.int .i64 seq,.int .i64 0,.slice aT p.length cT,.slice none 0 0],67⟩::⟨g1,[.int .i64 seq,.slice (some ⟨b,off,none⟩) mt.length cm,.slice ad dt.length cd,.slice ar rev.length cr,.bool o0,.int .i64 x0,.bool o1,.int .i64 x1,.bool o2,.int .i64 x2],51⟩::(M++ [])) (kj2 jK_ (.slice aT p.length cT) (p.map jZ4)::kj2 j_3 (.slice (some ⟨b,off+k*10*2,none⟩) p.length p.length) p:: [kj2 j_3 (.slice (some ⟨b,off,none⟩) mt.length cm) mt,kj2 j_9 (.slice ar rev.length cr) rev]):=Z;clear Z;have hE2:∀w' L',St [] w0 w' L' (kj2 jK_ (.slice aT p.length cT) (p.map jZ4)::kj2 j_3 (.slice (some ⟨b,off+k*10*2,none⟩) p.length p.length) p:: [kj2 j_3 (.slice (some ⟨b,off,none⟩) mt.length cm) mt,kj2 j_9 (.slice ar rev.length cr) rev])->_:=fun w' L' Z=>j24 (jR4 seq p) (.agg #[.int .i64 2,.int .i64 seq,.int .i64 0,.slice aT p.length cT,.slice none 0 0]) w' ⟨_,_,rfl,Z.r0,RL.nil _ _,by simp only[jR4,iZ];omega,iq _⟩;generalize markS (jR4 seq p)=md at*;generalize markE (jR4 seq p)=mde at*;have hgo: [md].flatMap j42=[.string md]:=rfl;have hPk:=hPn.out;have h40:(PT k).length+1<=1099511627776:=aa;replace hE2:=hid hE2;replace hPk:=hid hPk
      go_wp2_with (first|(refine ZcL ?_)| (refine ZcS ?_;clear X;intro w X)| (refine ZcA ?_;clear X;intro g w X)|(refine j73 rfl ?_;(refine j79 rfl rfl Zev ay ay X ?_;intro g w2 X2;replace X:=X2;clear X2;(simp only[Act.put,zA,zB,zC,zD,zE,zF,zG,Nat.reduceAdd])))|(go_at_call 16;((with_reducible refine(hE2.out _ _ X).mono ?_);rintro e w1 ⟨rfl,hb1⟩;replace X:=X.call hb1;clear hb1))|(at_builtin;((refine jN0 (M:=M) (T:=[]) (n:=1) [_,_] rfl rfl [md] j89 X hO Zev Zev hgo rfl h40 ?_);intro a2 c2 w2 M2 hO2 X2;replace X:=X2;clear X2;(simp only[Act.put,zA,zB,zC,zD,zE,zF,zG,Nat.reduceAdd]))))
      go_loopw [3,91] (fun v3 i wr=>∃(q:Nat) (M:List Ent),q<=p.length/\i=.int .i64 q/\j4_ j42 9 1 v3 (PT k++ [md]++(p.take q).map (fun c=>escS c.text)) M/\St [] w0 wr (⟨gm,[.int .i64 2,.int .i64 seq,.int .i64 0,.slice aT p.length cT,.slice none 0 0],67⟩::⟨g1,[.int .i64 seq,.slice (some ⟨b,off,none⟩) mt.length cm,.slice ad dt.length cd,.slice ar rev.length cr,.bool o0,.int .i64 x0,.bool o1,.int .i64 x1,.bool o2,.int .i64 x2],51⟩::(M++ [])) (kj2 jK_ (.slice aT p.length cT) (p.map jZ4)::kj2 j_3 (.slice (some ⟨b,off+k*10*2,none⟩) p.length p.length) p:: [kj2 j_3 (.slice (some ⟨b,off,none⟩) mt.length cm) mt,kj2 j_9 (.slice ar rev.length cr) rev])) (fun _ i _=>p.length-(intOf i).toNat)
      case atStart=>exact⟨0,M2,iq _,rfl,by rw[List.take_zero,jN,i6];exact hO2,X⟩
      case round=>
       clear X hO2 hO;obtain⟨q,M5,hq,rfl,hO5,X⟩:=hrel;by_cases hlq:q<p.length
       ·obtain⟨bz,oz,hbo,c0,c1⟩:=kj3 (fun x:Cpy=>.int .i64 x.block) (fun x=>.string x.text) (fun _=>rfl) X.r1 hlq
        cases hbo
        have hm2:=hms.out q hlq;have hx32:=hmem.out p[q] (iM hlq);have hlS:(PT k++ [md]++(p.take q).map (fun c:Cpy=>escS c.text)).length<=100:=by simp only[il,iZ,iA,List.length_singleton];have:=hPk.out;omega
        have hm3:PT k++ [md]++(p.take (q+1)).map (fun c:Cpy=>escS c.text)=(PT k++ [md]++(p.take q).map (fun c:Cpy=>escS c.text))++ [escS p[q].text]:=by rw[hm2,<-iE]
        clear hm2;(try dsimp only at c0 c1 hm3 hx32);generalize p[q]=x at*;obtain⟨xb,xt⟩:=x;(try dsimp only at*);generalize PT k++ [md]++(p.take q).map (fun c:Cpy=>escS c.text)=lS at*;have hEx:=fun w=>hEs.out xt w aa;generalize escS xt=xs at*;generalize isEsc xt=xe at*;have hgS: [xs].flatMap j42=[.string xs]:=rfl;have h40S:lS.length+1<=1099511627776:=aa;replace hm3:=hid hm3;replace hEx:=hid hEx;replace hx32:=hid hx32
        go_wp2_with (first|(refine ZeL ?_)| (refine ZeS ?_;clear X;intro w X)| (refine ZeA ?_;clear X;intro g w X)|(refine j73 rfl ?_;(refine j79 rfl rfl Zev ay ay X ?_;intro g w2 X2;replace X:=X2;clear X2;(simp only[Act.put,zA,zB,zC,zD,zE,zF,zG,Nat.reduceAdd])))|(go_at_call 130;((with_reducible refine(hEx.out _).mono ?_);rintro e w1 ⟨rfl,hb1⟩;replace X:=X.call hb1;clear hb1))|(at_builtin;((refine jN0 (M:=M5) (T:=[]) (n:=1) [_,_,_] rfl rfl [xs] j89 X hO5 Zev Zev hgS rfl h40S ?_);intro a2 c2 w2 M6 hO6 X2;replace X:=X2;clear X2;(simp only[Act.put,zA,zB,zC,zD,zE,zF,zG,Nat.reduceAdd]))))
        go_roundw
        case rel=>(first|exact⟨q+1,M6,aa,an,by rw[hm3.out];exact hO6,X.tail⟩| ((repeat apply Exists.intro);exact⟨⟨q+1,M6,aa,an,by rw[hm3.out];exact hO6,X.tail⟩,rfl⟩))
        case measure=>simp only[intOf];omega
       ·obtain rfl:q=p.length:=by omega
        rw[hfp.out,iE] at hO5;have hfin:PT k++([md]++p.map (fun c:Cpy=>escS c.text))=PT (k+1):=hqt.out.symm;rw[hfin] at hO5;have hcN:k+1<=j74 10 mt.length:=(jU_ ae).2 hlt;go_wp2;go_roundw
        case rel=>(first|exact⟨k+1,M5,hcN,an,hO5,X.less (iQ _ _) fun r hr=>.tail _ (.tail _ hr)⟩| ((repeat apply Exists.intro);exact⟨⟨k+1,M5,hcN,an,hO5,X.less (iQ _ _) fun r hr=>.tail _ (.tail _ hr)⟩,rfl⟩))
        case measure=>simp only[intOf];omega
   ·obtain rfl:k=j74 10 mt.length:=Nat.le_antisymm hk (Nat.le_of_not_lt fun h=>hlt ((jU_ ae).1 h));rw[hPe.out] at hO;have hlt2:¬((j74 10 mt.length:Nat):Int)*10<(mt.length:Int):=by exact_mod_cast hlt
    have hBl:BT.length<=30:=by rw[<-hPe.out];exact hPl.out _ hcn
    have hgo: [mc].flatMap j42=[.string mc]:=rfl;have h40:BT.length+1<=1099511627776:=aa
    go_wp2_with (first|(refine ZcL ?_)| (refine ZcS ?_;clear X;intro w X)| (refine ZcA ?_;clear X;intro g w X)|(refine j73 rfl ?_;(refine j79 rfl rfl Zev ay ay X ?_;intro g w2 X2;replace X:=X2;clear X2;(simp only[Act.put,zA,zB,zC,zD,zE,zF,zG,Nat.reduceAdd])))|(go_at_call 16;((with_reducible refine(hE4.out _).mono ?_);rintro e w1 ⟨rfl,hb1⟩;replace X:=X.call hb1;clear hb1))|(at_builtin;((refine jN0 (M:=M) (T:=[]) (n:=1) [_] rfl rfl [mc] j89 X hO Zev Zev hgo rfl h40 ?_);intro a2 c2 w2 M2 hO2 X2;replace X:=X2;clear X2;(simp only[Act.put,zA,zB,zC,zD,zE,zF,zG,Nat.reduceAdd]))))
    go_ret;exact⟨_,rfl,by rw[hLo.out];exact hO2.own (L:=[_]) j89 X,X.below⟩
theorem jt1(l : List Cpy)(p q : Int)(v : Value)(w : World)(h : RL j_3 w v l)(hl : l.length <= 5864062014805) :Calls Tryz.prog 21 #[v,.int .i64 p,.int .i64 q] w fun e w'=>∃v',e=.returned (.tuple #[v',.int .i64 (checkE l p q)])/\Wb.Own jY3 w.heap.size 105 3 w' v' (checkL l p q)/\Below w.heap.size w w':=by
 obtain⟨a,cap,rfl,_⟩:=h.form;have hE:=fun w=>j24 (j86 q p) _ w (ju_ w q p);have hB:=fun x w=>j03 x w;have X:St [] w w [] []:=kk7 [] w;replace hE:=hid hE;replace hB:=hid hB;by_cases hM:markE (j86 q p)=0
 ·rw[hM] at hE;have hbad:=fun k (hk:k<l.length) (hc:jT7 l[k]=false)=>jB7 hM hk hc;have hok:=fun(hc:l.all jT7=true)=>ji_ hM hc;have hat:=fun k (hk:k<l.length) (h:(l.take k).all jT7=true) (hc:jT7 l[k]=true)=>k75 hk h hc;have hmt:=fun k (hk:k<l.length)=>jV4 (f:=goS) hk;have hfu:l.take l.length=l:=iY;have hho:jY_ l=l.map goS++(if l=[] then [] else [j_2]):=rfl;have hnil:(l=[])↔l.length=0:=i5.symm;rw[hho] at hok;generalize checkE l p q=E at*;generalize checkL l p q=C at*;generalize markS (j86 q p)=ms at*;replace h:=hid h;replace hbad:=hid hbad;replace hok:=hid hok;replace hat:=hid hat;replace hmt:=hid hmt;replace hfu:=hid hfu;replace hnil:=hid hnil;clear hho hM;go_enter Tryz.func21,Tryz.ntmps21
  go_wp2_with (first|(go_at_call 16;((with_reducible refine(hE.out _).mono ?_);rintro e w1 ⟨rfl,hb1⟩;replace X:=X.call hb1;clear hb1)))
  go_loopw [10,25] (fun o i wr=>∃(k:Nat) (M:List Ent),k<=l.length/\i=.int .i64 k/\Hid ((l.take k).all jT7=true)/\j4_ jY3 105 3 o ((l.take k).map goS) M/\St [] w wr (M++ []) []) (fun _ i _=>l.length-(intOf i).toNat)
  case atStart=>exact⟨0,[],iq _,rfl,hid rfl,j4_.nil _ _ _,X⟩
  case round=>
   clear X;obtain⟨k,M,hk,rfl,hal,hO,X⟩:=hrel;have hlk:((l.take k).map goS).length=k:=aQ;obtain⟨ao,co,rfl⟩:=hO.form;rw[hlk] at hO⊢;by_cases hlt:k<l.length
   ·obtain⟨b1,o1,rfl,c0,c1⟩:=kj3 (fun x=>.int .i64 x.block) (fun x=>.string x.text) (fun _=>rfl) (h.out.below X.below) hlt;have hb:=hbad.out k hlt;have ha:=hat.out k hlt hal.out;have hm:=hmt.out k hlt;generalize l[k]=x at*;generalize (l.take k).map goS=ls at*;obtain⟨xb,xt⟩:=x;(try dsimp only at*);have hci:=ji4 ⟨xb,xt⟩;(try dsimp only at hci)
    cases hc:jT7 ⟨xb,xt⟩ with
    |true=>
     obtain⟨⟨y0,y1⟩,y2⟩:=hci.1 hc
     have ha:=ha hc
     replace ha:=hid ha;replace hm:=hid hm
     have y3:((xt.size:Int) != 32)=false:=by rw[y2];rfl
     have d1:isBlk xb=true:=iG ⟨y0,y1⟩
     have hBx:=fun w=>hB.out xb w
     rw[d1] at hBx
     replace hBx:=hid hBx
     clear hci hc hb
     have hwr:IntKind.i64.wrap (25+xb)=25+xb:=iz _ aa
     have hr1:(ls.length+1+(ls.length+1)/4+192)*32<=281474976710656:=aa
     have hr2:ls.length+1<=140737488355328:=aa
     have hgo: [goS ⟨xb,xt⟩].flatMap jY3=[.int .i64 1,.int .i64 (25+xb),.string xt]:=rfl
     go_wp2_with (first|(refine ZeL ?_)| (refine ZeS ?_;clear X;intro w X)| (refine ZeA ?_;clear X;intro g w X)|(go_at_call 24;((with_reducible refine(hBx.out _).mono ?_);rintro e w1 ⟨rfl,rfl⟩))|(refine j73 rfl ?_;(refine j79 rfl rfl Zev ay ay X ?_;intro g w2 X2;replace X:=X2;clear X2;(simp only[Act.put,zA,zB,zC,zD,zE,zF,zG,Nat.reduceAdd])))|(at_builtin;((refine jy5 (M:=M) (T:=[]) (n:=1) [_] rfl rfl [goS ⟨xb,xt⟩] j99 X hO Zev Zev hgo rfl hr1 hr2 ?_);intro a2 c2 w2 M2 hO2 X2;(simp only[Act.put,zA,zB,zC,zD,zE,zF,zG,Nat.reduceAdd]))))
     rw[hlk]
     go_roundw
     case rel=>exact⟨k+1,M2,aa,an,ha,by rw[hm.out,<-hlk];exact hO2,X2.tail⟩
     case measure=>simp[intOf];omega
    |false=>
     obtain⟨e1,e2⟩:=hb hc
     subst e1 e2
     have hn:¬((0<=xb/\xb<12)/\xt.size=32):=fun h=>by rw[hci.2 h] at hc;cases hc
     clear hci hc hb ha hm
     have hBx:=fun w=>hB.out xb w
     cases d1:isBlk xb with
     |false=>
      rw[d1] at hBx
      replace hBx:=hid hBx
      clear d1
      go_wp2_with (first|(refine ZdL ?_)| (refine ZdS ?_;clear X;intro w X)| (refine ZdA ?_;clear X;intro g w X)|(go_at_call 24;((with_reducible refine(hBx.out _).mono ?_);rintro e w1 ⟨rfl,rfl⟩)))
      go_ret2
      exact⟨_,rfl,Own.nil _ _ _ _ _,X.below⟩
     |true=>
      rw[d1] at hBx
      have y2:¬xt.size=32:=fun h=>hn ⟨iF d1,h⟩
      have y3:((xt.size:Int) != 32)=true:=jd.2 aa
      replace hBx:=hid hBx
      clear d1
      go_wp2_with (first|(refine ZdL ?_)| (refine ZdS ?_;clear X;intro w X)| (refine ZdA ?_;clear X;intro g w X)|(go_at_call 24;((with_reducible refine(hBx.out _).mono ?_);rintro e w1 ⟨rfl,rfl⟩)))
      go_ret2
      exact⟨_,rfl,Own.nil _ _ _ _ _,X.below⟩
   ·obtain rfl:k=l.length:=by omega
    rw[hfu.out] at hO hal;obtain⟨e1,e2⟩:=hok.out hal.out;have hkl:=hlk;rw[hfu.out] at hlk;generalize hls:l.map goS=ls at*;subst e1;have hfl: [wrS 0 ms,j_2].flatMap jY3=[.int .i64 1,.int .i64 0,.string ms,.int .i64 2,.int .i64 0,.string ⟨#[]⟩]:=rfl;by_cases hz:l.length=0
    ·rw[ij (hnil.out.2 hz),i6] at e2;clear hok hal hmt hfu hat hbad hnil h;generalize l.length=k at*;have hzi:decide (0<k)=false:=iH aa;have hr3:(ls.length+2+(ls.length+2)/4+192)*32<=281474976710656:=aa;have hr4:ls.length+2<=140737488355328:=aa;clear hz;replace e2:=hid e2
     go_wp2_with (first|(refine j73 rfl ?_;(refine k57 rfl rfl Zev Zev ay ay ay ay X ?_;intro g w2 X2;(try simp only[iu,iw] at X2);replace X:=X2;clear X2;(simp only[Act.put,zA,zB,zC,zD,zE,zF,zG,Nat.reduceAdd])))|(at_builtin;((refine jy5 (M:=M) (T:=[]) (n:=2) [] rfl rfl [wrS 0 ms,j_2] j99 X hO Zev Zev hfl rfl hr3 hr4 ?_);intro a3 c3 w3 M3 hO3 X3;replace X:=X3;clear X3;(simp only[Act.put,zA,zB,zC,zD,zE,zF,zG,Nat.reduceAdd]))))
     go_ret2;exact⟨_,rfl,by rw[e2.out];exact hO3.own (L:=[]) j99 X,X.below⟩
    ·rw[ii (fun h=>hz (hnil.out.1 h))] at e2;clear hok hal hmt hfu hat hbad hnil h;generalize l.length=k at*;have hzi:decide (0<k)=true:=iG aa;have hr1:(ls.length+1+(ls.length+1)/4+192)*32<=281474976710656:=aa;have hr2:ls.length+1<=140737488355328:=aa;have hlf:(ls++ [j_2]).length=k+1:=by rw[il,hlk];rfl
     obtain⟨hr3,hr4⟩:=kp3 hlf aa;have hgo: [j_2].flatMap jY3=[.int .i64 2,.int .i64 0,.string ⟨#[]⟩]:=rfl;clear hz hlf;replace e2:=hid e2
     go_wp2_with (first
      | (refine j73 rfl ?_;(refine k57 rfl rfl Zev Zev ay ay ay ay X ?_;intro g w2 X2;(try simp only[iu,iw] at X2);replace X:=X2;clear X2;(simp only[Act.put,zA,zB,zC,zD,zE,zF,zG,Nat.reduceAdd])))
      | (refine j73 rfl ?_;(refine j79 rfl rfl Zev ay ay X ?_;intro g w2 X2;replace X:=X2;clear X2;(simp only[Act.put,zA,zB,zC,zD,zE,zF,zG,Nat.reduceAdd])))
      | (at_builtin;(first|(refine jy5 (M:=M) (T:=[]) (n:=1) [] rfl rfl [j_2] j99 X hO Zev Zev hgo rfl hr1 hr2 ?_;intro a2 c2 w2 M2 hO2 X2;replace X:=X2;clear X2;(simp only[Act.put,zA,zB,zC,zD,zE,zF,zG,Nat.reduceAdd]))|(refine jy5 (M:=M2) (T:=[]) (n:=2) [] rfl rfl [wrS 0 ms,j_2] j99 X hO2 Zev Zev hfl rfl hr3 hr4 ?_;intro a3 c3 w3 M3 hO3 X3;replace X:=X3;clear X3;(simp only[Act.put,zA,zB,zC,zD,zE,zF,zG,Nat.reduceAdd])))))
     go_ret2;exact⟨_,rfl,by rw[e2.out];exact hO3.own (L:=[]) j99 X,X.below⟩
 ·obtain⟨e1,e2⟩:=jr2 (l:=l) hM;rw[e1,e2];generalize markE (j86 q p)=E at*;have hne:(E != 0)=true:=jd.2 hM;clear h;go_enter Tryz.func21,Tryz.ntmps21
  go_wp2_with (first|(go_at_call 16;((with_reducible refine(hE.out _).mono ?_);rintro e w1 ⟨rfl,hb1⟩;replace X:=X.call hb1;clear hb1)))
  go_ret2;exact⟨_,rfl,Own.nil _ _ _ _ _,X.below⟩
def jQ3(s:ByteArray)(n:Nat):Bool:=decide (∀i,i<s.size->n<=i->bt s i=0)
theorem k09{s:ByteArray}{n i:Nat}(h:i<s.size)(h2:n<=i)(h3:bt s i≠0):jQ3 s n=false:=iH fun hh=>h3 (hh i h h2)
theorem jw0{s:ByteArray}{n:Nat}(h:∀i,i<s.size->n<=i->bt s i=0):jQ3 s n=true:=iG h
theorem k8_(s : ByteArray)(n : Nat)(w : World)(hz : s.size <= 9223372036854775807)(hn : n <= s.size) :Calls Tryz.prog 90 #[.string s,.int .i64 n] w fun e w'=>e=.returned (.bool (jQ3 s n))/\w=w':=by
 have hbt:=fun i (h:i<s.size)=>jr1 s i h;go_enter Tryz.func90,Tryz.ntmps90;go_wp2
 go_loop [5] (fun i=>∃k:Nat,n<=k/\k<=s.size/\i=.int .i64 k/\Hid (∀j,j<k->n<=j->bt s j=0)) (fun i=>s.size-(intOf i).toNat)
 case atStart=>exact⟨n,iy _,hn,rfl,hid (fun j h1 h2=>absurd h1 aa)⟩
 case round=>
  obtain⟨k,h1,h2,rfl,hall⟩:=hrel;by_cases hlt:k<s.size
  ·by_cases hb:bt s k=0
   ·have hnx := hid (show ∀ j, j < k + 1 -> n <= j -> bt s j = 0 from fun j h3 h4 => by
      by_cases e:j=k
      · subst e;exact hb
      · exact hall.out j aa h4)
    go_wp2;go_round
    case rel=>exact⟨k+1,aa,aa,an,hnx⟩
    case measure=>simp[intOf];omega
   ·have hv:=k09 hlt h1 hb;have hb2:(((bt s k).toNat:Int) != 0)=true:=jd.2 fun hh=>hb (UInt8.toNat_inj.1 dL);replace hv:=hid hv;clear hb;go_wp2;go_ret;exact⟨j6_ hv.out.symm,rfl⟩
  ·have hv:jQ3 s n=true:=jw0 fun i hi hni=>hall.out i aa hni;replace hv:=hid hv;clear hall;go_wp2;go_ret;exact⟨j6_ hv.out.symm,rfl⟩
theorem kO3(w:World):Calls Tryz.prog 89 #[] w fun e w'=>e=.returned (.tuple #[.agg #[.int .i64 0,.int .i64 0,.int .i64 0,.slice none 0 0,.slice none 0 0],.int .i64 1])/\Below w.heap.size w w':=by
 go_enter Tryz.func89,Tryz.ntmps89;go_wp2;exact iL (v:=.tuple #[.agg #[.int .i64 0,.int .i64 0,.int .i64 0,.slice none 0 0,.slice none 0 0],.int .i64 1]) (by simp[results,Tryz.results89,go_sem]) rfl ⟨rfl,bal (b0 w) _⟩
def seqN(s:ByteArray):Nat->Int
 |0=>0
 |k+1=>256*seqN s k+nb s (5+k)
theorem ku2(s:ByteArray):∀k,k<=4->0<=seqN s k/\seqN s k<4294967296:=by
 have h5:=j_1 s 5;have h6:=j_1 s 6;have h7:=j_1 s 7;have h8:=j_1 s 8;have l5:=j64 s 5;have l6:=j64 s 6;have l7:=j64 s 7;have l8:=j64 s 8;intro k hk
 match k,hk with
 |0,_=>simp[seqN]
 |1,_=>simp only[seqN,Nat.reduceAdd,Nat.add_zero];omega
 |2,_=>simp only[seqN,Nat.reduceAdd,Nat.add_zero];omega
 |3,_=>simp only[seqN,Nat.reduceAdd,Nat.add_zero];omega
 |4,_=>simp only[seqN,Nat.reduceAdd,Nat.add_zero];omega
theorem kp6(s:ByteArray):seqN s 4=seqOf s:=by simp only[seqN,seqOf,Nat.reduceAdd,Nat.add_zero];omega
theorem eO{A:Prop}(h:A:=by
 go_enter Tryz.func54,Tryz.ntmps54
 go_wp2_with (go_at_call 89;(refine(hB.out _).mono ?_;rintro e w9 ⟨rfl,hb9⟩;replace kr:=av;have nx9:=aA;have r0:=kr.cell 0;have r1:=kr.cell 1;have r2:=kr.cell 2;have r3:=kr.cell 3;have r4:=kr.cell 4;have z0:=kr.free 0;have z1:=kr.free 1;have z2:=kr.free 2;have z3:=kr.free 3;have z4:=kr.free 4;simp only[Zga,Zgb,Zgc] at r0 r1 r2 r3 r4))
 exact iL (v:=.tuple #[.agg #[.int .i64 0,.int .i64 0,.int .i64 0,.slice none 0 0,.slice none 0 0],.int .i64 1]) aD rfl ⟨_,rfl,hP.out _,((((nx9.setCell ag _).setCell ag _).setCell ag _).setCell ag _).setCell ag _⟩):A:=h
theorem jl3(s : ByteArray)(w : World)(hs : ¬ okS s)(hz : s.size <= 9223372036854775807) :Calls Tryz.prog 54 #[.string s] w fun e w'=>∃v,e=.returned (.tuple #[v,.int .i64 (decE s)])/\j26 w.heap.size w' v (decM s)/\Below w.heap.size w w':=by
 have hd:¬j0_ s:=fun h=>hs h.1;obtain⟨dM,dE⟩:=jN9 hd;rw[dM,dE];have hP:=hid (fun w'=>j26.plain w.heap.size w' 0 0 0);have hB:=hid (fun w=>kO3 w);have kr:=kk3 w #[.int .i64 0,.int .i64 0,.int .i64 0,.slice none 0 0,.slice none 0 0] 67;by_cases h1:s.size=32
 ·have e1:((s.size:Int) != 32)=false:=by rw[h1];rfl
  have h2:isEsc s=false:=iH fun hh=>hs ⟨h1,hh⟩;have e2:=jF3 s;rw[h2] at e2;have h4:4<=s.size:=aa;clear hs hd dM dE h2 h1;exact eO
 ·have e1:((s.size:Int) != 32)=true:=jd.2 aa;clear hs hd dM dE h1;exact eO
def kX8(s:ByteArray)(w0:World)(v:Value)(wx:World):Prop:=
 v=.int .i64 (endOf s:Int)/\endOf s<=32/\(nb s 4=2->jz3 s)/\(nb s 4=3->cnt s<=20)/\jR7 s w0 wx
theorem ez{A:Prop}(h:A:=by
 go_wp2_with (go_at_call 89;(refine(hB.out _).mono ?_;rintro e w9 ⟨rfl,hb9⟩;replace kr:=av;have nx9:=aA;have r0:=kr.cell 0;have r1:=kr.cell 1;have r2:=kr.cell 2;have r3:=kr.cell 3;have r4:=kr.cell 4;have z0:=kr.free 0;have z1:=kr.free 1;have z2:=kr.free 2;have z3:=kr.free 3;have z4:=kr.free 4;simp only[Zga,Zgb,Zgc] at r0 r1 r2 r3 r4))
 exact iL (v:=.tuple #[.agg #[.int .i64 0,.int .i64 0,.int .i64 0,.slice none 0 0,.slice none 0 0],.int .i64 1]) aD rfl ⟨_,bA,aM,((((nx9.setCell ag _).setCell ag _).setCell ag _).setCell ag _).setCell ag _⟩):A:=h
theorem eH{A:Prop}(h:A:=by
 exact iL (v:=.tuple #[.agg #[.int .i64 0,.int .i64 0,.int .i64 0,.slice none 0 0,.slice none 0 0],.int .i64 1]) aD rfl ⟨_,bA,aM,((((nx9.setCell ag _).setCell ag _).setCell ag _).setCell ag _).setCell ag _⟩):A:=h
theorem jl4(s : ByteArray)(w : World)(hs : okS s) :Calls Tryz.prog 54 #[.string s] w fun e w'=>∃v,e=.returned (.tuple #[v,.int .i64 (decE s)])/\j26 w.heap.size w' v (decM s)/\Below w.heap.size w w':=by
 have hG:=fun v w (hm:j1_ w v (rawM s))=>jE0 (rawM s) v w hm;have hri:=ku_ s;have hok:=hid hs;have hd1:=fun h=>jQ_ (s:=s) h;have hd0:=fun h=>jN9 (s:=s) h;have h1:=hs.1;have e1:((s.size:Int) != 32)=false:=dX;have e2:=jf_ hs;have hbt:=fun i (h:i<s.size)=>jr1 s i h;have hnb:∀i,((bt s i).toNat:Int)=nb s i:=fun _=>rfl;have n4:=j_1 s 9;have n5:=j_1 s 4;have l4:=j64 s 9;have l5:=j64 s 4;have hP:=fun w'=>j26.plain w.heap.size w' 0 0 0;have hB:=fun w=>kO3 w;have r1:=fun(h:nb s 4=1)=>(kq5 h).trans (by rw[<-h]:_=(⟨nb s 4,seqOf s,nb s 9,[],[]⟩:Mrk));have r2:=fun(h:nb s 4=2)=>(kq6 h).trans (by rw[<-h]:_=(⟨nb s 4,seqOf s,0,rawTags s (min (cnt s) 11),[]⟩:Mrk));have r3:=fun(h:nb s 4=3)=>(kq7 h).trans (by rw[<-h]:_=(⟨nb s 4,seqOf s,0,[],rawBlks s (min (cnt s) 22)⟩:Mrk));have r4:=fun h1 h2 h3=>kq8 (s:=s) h1 h2 h3;have hcn:=ji2 s;have hsq:=fun k=>ku2 s k;have hsq4:=kp6 s;replace hG:=hid hG;replace hri:=hid hri;replace hd1:=hid hd1;replace hd0:=hid hd0;replace hP:=hid hP;replace hB:=hid hB;replace r1:=hid r1;replace r2:=hid r2;replace r3:=hid r3;replace r4:=hid r4;replace hcn:=hid hcn;replace hsq:=hid hsq;replace hsq4:=hid hsq4;clear hs;go_enter Tryz.func54,Tryz.ntmps54;go_wp2
 go_loopw [6] (fun i wr=>∃k:Nat,k<=4/\i=.int .i64 ((5+k:Nat):Int)/\Blk wr w.heap.size #[.int .i64 0,.int .i64 0,.int .i64 0,.slice none 0 0,.slice none 0 0] 67/\Blk wr (w.heap.size+1) #[.int .i64 (nb s 4),.int .i64 (seqN s k),.int .i64 0,.slice none 0 0,.slice none 0 0] 67/\Below w.heap.size w wr) (fun i _=>9-(intOf i).toNat)
 case atStart=>exact⟨0,ae,rfl,(kk3 w _ _).alloc _,kl8 ag,bal (bal (b0 w) _) _⟩
 case round=>
  obtain⟨k,hk,rfl,kr,km,nx⟩:=hrel;have ltr:=kr.lt;have ltm:=km.lt;have m0:=km.cell 0;have m1:=km.cell 1;have m2:=km.cell 2;have m3:=km.cell 3;have m4:=km.cell 4;simp only[Zga,Zgb,Zgc] at m0 m1 m2 m3 m4;by_cases hlt:k<4
  ·obtain⟨q0,q1⟩:=hsq.out k hk;obtain⟨q2,q3⟩:=hsq.out (k+1) aa;have hst:seqN s (k+1)=256*seqN s k+nb s (5+k):=rfl;have hst2:=hid hst;rw[hst] at q2 q3;have nj:=j_1 s (5+k);have lj:=j64 s (5+k);have f1:=km.free 1;clear hst;generalize seqN s k=qk at*;generalize hp:5+k=p at*;have p0:p<32:=aa;have p1:(p:Int)<32:=aa;have p2:(p:Int)<9:=aa;have hw1:IntKind.i64.wrap (256*qk)=256*qk:=iz _ aa;have hw2:IntKind.i64.wrap (256*qk+nb s p)=256*qk+nb s p:=iz _ aa;have hw3:IntKind.i64.wrap (nb s p)=nb s p:=iz _ aa;replace hp:=hid hp;go_wp2
   go_region
   all_goals
    go_wp2
    have hpk:=hp.out
    go_roundw
    case rel=>exact⟨k+1,aa,(by congr 1;omega),kr.drew.set_other _ _ ag,by rw[hst2.out];exact km.drew.set 1 _,nx.drew.setCell ag _⟩
    case measure=>simp[intOf];omega
  ·obtain rfl:k=4:=by omega
   rw[hsq4.out] at km m1;clear hsq hsq4;generalize hqq:seqOf s=q at*;replace hqq:=hid hqq;have f0:=km.free 0;have f2:=km.free 2;have f3:=km.free 3;have f4:=km.free 4;have hcn2:cnt s=(nb s 9).toNat:=dR;replace hcn2:=hid hcn2
   go_upto_block 2 with fail
   go_cut [8] (fun s8 wx=>kX8 s w s8 wx)
   case first=>
    by_cases k1':nb s 4=1
    ·have hR:=hid (r1.out k1');have he:=hid (show endOf s=10 by simp[endOf,k1']);have b1:(nb s 4==1)=true:=iT.2 k1';have x2:=hid (show nb s 4=2->jz3 s from fun h=>aa);have x3:=hid (show nb s 4=3->cnt s<=20 from fun h=>aa);clear k1';go_wp2;go_meet;exact⟨by rw[he.out];rfl,by rw[he.out];decide,x2.out,x3.out,kj1 hR.out (Own.nil _ _ _ _ _) (Own.nil _ _ _ _ _) (kr.set_other ⟨w.heap.size+1,2,none⟩ (.int .i64 (nb s 9)) ag) (km.set 2 (.int .i64 (nb s 9))) (nx.setCell (p:=⟨w.heap.size+1,2,none⟩) ag (.int .i64 (nb s 9)))⟩
    have b1:(nb s 4==1)=false:=ik.2 k1';by_cases k2':nb s 4=2
    ·have hR:=hid (r2.out k2');have he:=hid (show endOf s=10+2*cnt s by simp[endOf,k2']);have b2:(nb s 4==2)=true:=iT.2 k2';have hk2:=hid k2';clear k1' k2';by_cases hc:nb s 9<=10
     ·go_wp2
      go_loopw [9] (fun i wr=>∃k:Nat,(k:Int)<=nb s 9/\i=.int .i64 (k:Int)/\Hid (∀j,j<k->nb s (11+2*j)<=1)/\ ∃vo,Wb.Own jK_ (w.heap.size+2) 103 2 wr vo (rawTags s k)/\Blk wr w.heap.size #[.int .i64 0,.int .i64 0,.int .i64 0,.slice none 0 0,.slice none 0 0] 67/\Blk wr (w.heap.size+1) #[.int .i64 (nb s 4),.int .i64 q,.int .i64 0,vo,.slice none 0 0] 67/\Below w.heap.size w wr) (fun i _=>33-(intOf i).toNat)
      case atStart=>exact⟨0,n4,rfl,hid (fun j hj=>absurd hj (jl j)),_,Own.nil _ _ _ _ _,kr,km,nx⟩
      case round=>
       clear kr km nx m0 m1 m2 m3 m4 f0 f2 f3 f4 ltr ltm;obtain⟨k,j1,rfl,hfl,vo,hown,kr,km,nx⟩:=hrel;obtain⟨ao,capo,rfl⟩:=hown.form;have hjl:=j5_ s k;rw[hjl] at hown km;have ltr:=kr.lt;have ltm:=km.lt;have m0:=km.cell 0;have m1:=km.cell 1;have m2:=km.cell 2;have m3:=km.cell 3;have m4:=km.cell 4;simp only[Zga,Zgb,Zgc] at m0 m1 m2 m3 m4;have f3:=km.free 3;by_cases hlt:(k:Int)<nb s 9
       ·have nj:=j_1 s (11+2*k);have lj:=j64 s (11+2*k);have ni:=j_1 s (10+2*k);have li:=j64 s (10+2*k);have y1:11+2*k<32:=aa;have y2:10+2*k<32:=aa;have y3:(11:Int)+2*k<32:=aa;have y4:(10:Int)+2*k<32:=aa;have y5:(0:Int)<=11+2*k:=aa;have y6:(0:Int)<=10+2*k:=aa;have y7:((11:Int)+2*k).toNat=11+2*k:=aa;have y8:((10:Int)+2*k).toNat=10+2*k:=aa;have w1:IntKind.i64.wrap (2*(k:Int))=2*k:=iz _ aa;have w2:IntKind.i64.wrap ((11:Int)+2*k)=11+2*k:=iz _ aa;have w3:IntKind.i64.wrap ((10:Int)+2*k)=10+2*k:=iz _ aa;have w4:IntKind.i64.wrap (nb s (10+2*k))=nb s (10+2*k):=iz _ aa;by_cases hfk:nb s (11+2*k)<=1
        ·have hst:=hid (jE_ s k);have hjl:=hid hjl
         have hfl2:=hid (show∀j,j<k+1->nb s (11+2*j)<=1 from fun j hj=>by
          by_cases e:j=k
          ·subst e;exact hfk
          ·exact hfl.out j aa)
         generalize rawTags s k=L at*;go_wp2
         go_region_law (first| (refine jW7 ay _ _ 65 ay (w.heap.size+2) _ 2 16 jI2 kU6 ((hown.alloc _).drew) ay ⟨nb s (10+2*k),nb s (11+2*k)==1⟩ wr.heap.size ((kl8 (w:=wr) rfl).drew) ay ay k hjl.out aa aa (by(try simp);omega) ?_;intro a4 cap4 w4' hown4 hb4 _;have k4:=((km.alloc _).drew).below hb4 aa;have g4:=k4.cell 3;simp only[Zga,Zgb,Zgc] at g4;have f4':=k4.free 3;have kr4:=((kr.alloc _).drew).below hb4 aa;have nx4:=((bal nx _).drew).trans (hb4.mono aa)))
         all_goals
          go_wp2
          have htag:(⟨nb s (10+2*k),nb s (11+2*k)==1⟩:Tag)=jd9 s k:=rfl
          rw[htag,<-hst.out] at hown4
          go_roundw
          case rel=>
           (repeat apply Exists.intro);refine⟨⟨k+1,aa,?_,hfl2,_,hown4.setCell (p:=⟨w.heap.size+1,3,none⟩) ag _,kr4.set_other _ _ ag,k4.set 3 _,nx4.setCell ag _⟩,rfl⟩;go_num
          case measure=>simp[intOf];omega
        ·have hnd:¬j0_ s:=(fun h=>absurd (hri.out.2 h) (fun h=>hfk ((h.2.1 hk2.out).2 k dR)));obtain⟨dM,dE⟩:=hd0.out hnd;replace dM:=hid dM;replace dE:=hid dE;clear hnd;have hfk2:1<nb s (11+2*k):=aa;exact ez
       ·have hkc:k=cnt s:=by have:=hcn.out;omega
        have hwx:IntKind.i64.wrap (2*nb s 9)=2*nb s 9:=iz _ aa;have hwy:IntKind.i64.wrap (10+2*nb s 9)=10+2*nb s 9:=iz _ aa;have hc10:cnt s<=10:=aa;have hflg:jz3 s:=⟨hc10,fun i hi=>hfl.out i aa⟩
        have hD:kX8 s w (.int .i64 (10+2*nb s 9)) wr:=by
         refine⟨?_,by rw[he.out];omega,fun _=>hflg,fun h=>by have:=hk2.out;omega,kj1 hR.out ?_ (Own.nil _ _ _ _ _) kr km nx⟩
         ·rw[he.out];congr 1;(try(have:=hcn.out;omega))
         ·rw[jf aa,<-hkc];exact hown
        replace hD:=hid hD;replace hkc:=hid hkc;clear hc10;replace hflg:=hid hflg;go_wp2;go_meet;exact hD.out
     ·have hnd:¬j0_ s:=(fun h=>absurd (hri.out.2 h) (fun h=>absurd (h.2.1 hk2.out).1 dR));obtain⟨dM,dE⟩:=hd0.out hnd;replace dM:=hid dM;replace dE:=hid dE;clear hnd;have hc2:10<nb s 9:=aa;exact ez
    have b2:(nb s 4==2)=false:=ik.2 k2';by_cases k3':nb s 4=3
    ·have hR:=hid (r3.out k3');have he:=hid (show endOf s=10+cnt s by simp[endOf,k3']);have b3:(nb s 4==3)=true:=iT.2 k3';have hk3:=hid k3';clear k1' k2' k3';by_cases hc:nb s 9<=20
     ·go_wp2
      go_loopw [10] (fun i wr=>∃k:Nat,(k:Int)<=nb s 9/\i=.int .i64 (k:Int)/\ ∃vo,Wb.Own j_9 (w.heap.size+2) 3 1 wr vo (rawBlks s k)/\Blk wr w.heap.size #[.int .i64 0,.int .i64 0,.int .i64 0,.slice none 0 0,.slice none 0 0] 67/\Blk wr (w.heap.size+1) #[.int .i64 (nb s 4),.int .i64 q,.int .i64 0,.slice none 0 0,vo] 67/\Below w.heap.size w wr) (fun i _=>33-(intOf i).toNat)
      case atStart=>exact⟨0,n4,rfl,_,Own.nil _ _ _ _ _,kr,km,nx⟩
      case round=>
       clear kr km nx m0 m1 m2 m3 m4 f0 f2 f3 f4 ltr ltm;obtain⟨k,j1,rfl,vo,hown,kr,km,nx⟩:=hrel;obtain⟨ao,capo,rfl⟩:=hown.form;have hjl:=j69 s k;rw[hjl] at hown km;have ltr:=kr.lt;have ltm:=km.lt;have m0:=km.cell 0;have m1:=km.cell 1;have m2:=km.cell 2;have m3:=km.cell 3;have m4:=km.cell 4;simp only[Zga,Zgb,Zgc] at m0 m1 m2 m3 m4;have f4:=km.free 4;by_cases hlt:(k:Int)<nb s 9
       ·have ni:=j_1 s (10+k);have li:=j64 s (10+k);have y2:10+k<32:=aa;have y4:(10:Int)+k<32:=aa;have y6:(0:Int)<=10+k:=aa;have y8:((10:Int)+k).toNat=10+k:=aa;have w3:IntKind.i64.wrap ((10:Int)+k)=10+k:=iz _ aa;have w4:IntKind.i64.wrap (nb s (10+k))=nb s (10+k):=iz _ aa;have hst:=hid (jF9 s k);have hjl:=hid hjl;generalize rawBlks s k=L at*;go_wp2
        go_region_law (first| (refine jW7 ay _ _ 46 ay (w.heap.size+2) _ 1 8 j9_ jz0 ((hown.alloc _).drew) ay (nb s (10+k)) wr.heap.size ((kl8 (w:=wr) rfl).drew) ay ay k hjl.out aa aa (by(try simp);omega) ?_;intro a4 cap4 w4' hown4 hb4 _;have k4:=((km.alloc _).drew).below hb4 aa;have g4:=k4.cell 4;simp only[Zga,Zgb,Zgc] at g4;have f4':=k4.free 4;have kr4:=((kr.alloc _).drew).below hb4 aa;have nx4:=((bal nx _).drew).trans (hb4.mono aa)))
        all_goals
         go_wp2
         rw[<-hst.out] at hown4
         go_roundw
         case rel=>
          (repeat apply Exists.intro);refine⟨⟨k+1,aa,?_,_,hown4.setCell (p:=⟨w.heap.size+1,4,none⟩) ag _,kr4.set_other _ _ ag,k4.set 4 _,nx4.setCell ag _⟩,rfl⟩;go_num
         case measure=>simp[intOf];omega
       ·have hkc:k=cnt s:=by have:=hcn.out;omega
        have hwy:IntKind.i64.wrap (10+nb s 9)=10+nb s 9:=iz _ aa
        have hD:kX8 s w (.int .i64 (10+nb s 9)) wr:=by
         refine⟨?_,by rw[he.out];omega,fun h=>by have:=hk3.out;omega,fun _=>aa,kj1 hR.out (Own.nil _ _ _ _ _) ?_ kr km nx⟩
         ·rw[he.out];congr 1
         ·rw[jf aa,<-hkc];exact hown
        replace hD:=hid hD;replace hkc:=hid hkc;go_wp2;go_meet;exact hD.out
     ·have hnd:¬j0_ s:=(fun h=>absurd (hri.out.2 h) (fun h=>absurd (h.2.2.1 hk3.out) dR));obtain⟨dM,dE⟩:=hd0.out hnd;replace dM:=hid dM;replace dE:=hid dE;clear hnd;have hc2:20<nb s 9:=aa;exact ez
    have b3:(nb s 4==3)=false:=ik.2 k3';have hR:=hid (r4.out k1' k2' k3');have he:=hid (show endOf s=9 by simp[endOf,k1',k2',k3']);have x2:=hid (show nb s 4=2->jz3 s from fun h=>absurd h k2');have x3:=hid (show nb s 4=3->cnt s<=20 from fun h=>absurd h k3');clear k1' k2' k3';go_wp2;go_meet;exact⟨by rw[he.out];rfl,by rw[he.out];decide,x2.out,x3.out,kj1 hR.out (Own.nil _ _ _ _ _) (Own.nil _ _ _ _ _) kr km nx⟩
   case rest=>
    obtain⟨rfl,he32,hf2,hf3,vt,vb,o1,o2,kr2,km2,nx2⟩:=hcut;obtain⟨at1,ct1,rfl⟩:=o1.form;obtain⟨ab1,cb1,rfl⟩:=o2.form
    have hq1:(rawM s).tags.length<=11:=by
     show(if nb s 4=2 then rawTags s (min (cnt s) 11) else []).length<=11
     split
     ·rw[j5_];omega
     ·exact iq _
    have hq2:(rawM s).blocks.length<=22:=by
     show(if nb s 4=3 then rawBlks s (min (cnt s) 22) else []).length<=22
     split
     ·rw[j69];omega
     ·exact iq _
    have hrm:∀w',Wb.Own jK_ (w.heap.size+2) 103 2 w' (.slice at1 (rawM s).tags.length ct1) (rawM s).tags->Wb.Own j_9 (w.heap.size+2) 3 1 w' (.slice ab1 (rawM s).blocks.length cb1) (rawM s).blocks->j26 w.heap.size w' (.agg #[.int .i64 (rawM s).kind,.int .i64 (rawM s).seq,.int .i64 (rawM s).at_,.slice at1 (rawM s).tags.length ct1,.slice ab1 (rawM s).blocks.length cb1]) (rawM s):=fun _ h1 h2=>⟨_,_,rfl,h1.mono aa,h2.mono aa,hq1,hq2⟩;have hN:=fun w=>k8_ s (endOf s) w aa aa
    have hyes:j0_ s->markE (rawM s)=0/\jQ3 s (endOf s)=true:=fun h=>by
     obtain⟨_,_,_,g1,g2⟩:=hri.out.2 h;exact⟨g1,jw0 fun i hi hni=>g2 i hni aa⟩
    have hno:markE (rawM s)=0->jQ3 s (endOf s)=true->j0_ s:=fun g1 g2=>hri.out.1 ⟨hok.out,hf2,hf3,g1,fun i hni hi=>iF g2 i aa hni⟩;have hd1:=fun h=>(hd1.out h).1;have hd2:=fun h=>(hd0.out h);have hd1':=fun(h:j0_ s)=>(jQ_ h).2.1;have hG:=hG.out;clear hri hok hf2 hf3 r1 r2 r3 r4 hcn hcn2 hbt hnb n4 n5 l4 l5 e2 kr km nx m0 m1 m2 m3 m4 f0 f2 f3 f4 ltr ltm hd0;generalize rawM s=M at*;obtain⟨mk,mq,ma,tags,blocks⟩:=M;dsimp only at*;generalize hMM:(⟨mk,mq,ma,tags,blocks⟩:Mrk)=M at*;clear hMM;generalize endOf s=en at*;replace hG:=hid hG;replace hrm:=hid hrm;replace hN:=hid hN;replace hyes:=hid hyes;replace hno:=hid hno;replace hd1:=hid hd1;replace hd2:=hid hd2;replace hd1':=hid hd1';have kr:=kr2;have km:=km2;have nx:=nx2;clear kr2 km2 nx2;have ltm:=km.lt;have m0:=km.cell 0;have m1:=km.cell 1;have m2:=km.cell 2;have m3:=km.cell 3;have m4:=km.cell 4;simp only[Zga,Zgb,Zgc] at m0 m1 m2 m3 m4;by_cases hd:j0_ s
    ·have dM:=hid (hd1.out hd);have dE:=hid (hd1'.out hd);obtain⟨g1,g2⟩:=hyes.out hd;replace hG:=hG.out;replace hN:=hN.out;rw[g1] at hG;rw[g2] at hN;replace hG:=hid hG;replace hN:=hid hN;clear hd hd1 hd2 hd1' hyes hno g1 g2
     go_wp2_with (first|(go_at_call 46;((with_reducible refine(hG.out _ _ (hrm.out _ o1 o2).reads).mono ?_);rintro e w1 ⟨rfl,hb1⟩;replace o1:=o1.below hb1;replace o2:=o2.below hb1;replace km:=km.step hb1;replace kr:=kr.step hb1;have nx:=bgo nx hb1;(try clear m0 m1 m2 m3 m4);have m0:=km.cell 0;have m1:=km.cell 1;have m2:=km.cell 2;have m3:=km.cell 3;have m4:=km.cell 4;have r0:=kr.cell 0;have r1:=kr.cell 1;have r2:=kr.cell 2;have r3:=kr.cell 3;have r4:=kr.cell 4;have z0:=kr.free 0;have z1:=kr.free 1;have z2:=kr.free 2;have z3:=kr.free 3;have z4:=kr.free 4;simp only[Zga,Zgb,Zgc] at m0 m1 m2 m3 m4 r0 r1 r2 r3 r4))|(go_at_call 90;(refine(hN.out _).mono ?_;rintro e w2 ⟨rfl,rfl⟩)))
     have p1:=((((o1.setCell (p:=⟨w.heap.size,0,none⟩) ag (.int .i64 mk)).setCell (p:=⟨w.heap.size,1,none⟩) ag (.int .i64 mq)).setCell (p:=⟨w.heap.size,2,none⟩) ag (.int .i64 ma)).setCell (p:=⟨w.heap.size,3,none⟩) ag (.slice at1 tags.length ct1)).setCell (p:=⟨w.heap.size,4,none⟩) ag (.slice ab1 blocks.length cb1);have p2:=((((o2.setCell (p:=⟨w.heap.size,0,none⟩) ag (.int .i64 mk)).setCell (p:=⟨w.heap.size,1,none⟩) ag (.int .i64 mq)).setCell (p:=⟨w.heap.size,2,none⟩) ag (.int .i64 ma)).setCell (p:=⟨w.heap.size,3,none⟩) ag (.slice at1 tags.length ct1)).setCell (p:=⟨w.heap.size,4,none⟩) ag (.slice ab1 blocks.length cb1);refine iL (v:=.tuple #[.agg #[.int .i64 mk,.int .i64 mq,.int .i64 ma,.slice at1 tags.length ct1,.slice ab1 blocks.length cb1],.int .i64 0]) aD rfl ⟨_,bA,by rw[dM.out];exact hrm.out _ p1 p2,?_⟩;exact((((nx.setCell ag _).setCell ag _).setCell ag _).setCell ag _).setCell ag _
    ·obtain⟨dM,dE⟩:=hd2.out hd;replace dM:=hid dM;replace dE:=hid dE;by_cases g1:markE M=0
     ·have g2 : jQ3 s en = false := by
        cases hh:jQ3 s en
        · rfl
        · exact absurd (hno.out g1 hh) hd
      replace hG:=hG.out;replace hN:=hN.out;rw[g1] at hG;rw[g2] at hN;replace hG:=hid hG;replace hN:=hid hN;clear hd hd1 hd2 hd1' hyes hno g1 g2
      go_wp2_with (first|(go_at_call 46;((with_reducible refine(hG.out _ _ (hrm.out _ o1 o2).reads).mono ?_);rintro e w1 ⟨rfl,hb1⟩;replace o1:=o1.below hb1;replace o2:=o2.below hb1;replace km:=km.step hb1;replace kr:=kr.step hb1;have nx:=bgo nx hb1;(try clear m0 m1 m2 m3 m4);have m0:=km.cell 0;have m1:=km.cell 1;have m2:=km.cell 2;have m3:=km.cell 3;have m4:=km.cell 4;have r0:=kr.cell 0;have r1:=kr.cell 1;have r2:=kr.cell 2;have r3:=kr.cell 3;have r4:=kr.cell 4;have z0:=kr.free 0;have z1:=kr.free 1;have z2:=kr.free 2;have z3:=kr.free 3;have z4:=kr.free 4;simp only[Zga,Zgb,Zgc] at m0 m1 m2 m3 m4 r0 r1 r2 r3 r4))|(go_at_call 90;(refine(hN.out _).mono ?_;rintro e w2 ⟨rfl,rfl⟩))|(go_at_call 89;(refine(hB.out _).mono ?_;rintro e w9 ⟨rfl,hb9⟩;replace kr:=av;have nx9:=aA;have r0:=kr.cell 0;have r1:=kr.cell 1;have r2:=kr.cell 2;have r3:=kr.cell 3;have r4:=kr.cell 4;have z0:=kr.free 0;have z1:=kr.free 1;have z2:=kr.free 2;have z3:=kr.free 3;have z4:=kr.free 4;simp only[Zga,Zgb,Zgc] at r0 r1 r2 r3 r4)))
      exact eH
     ·have hne:(markE M != 0)=true:=jd.2 g1;clear hd hd1 hd2 hd1' hyes hno g1;generalize markE M=me at*
      go_wp2_with (first|(go_at_call 46;((with_reducible refine(hG.out _ _ (hrm.out _ o1 o2).reads).mono ?_);rintro e w1 ⟨rfl,hb1⟩;replace o1:=o1.below hb1;replace o2:=o2.below hb1;replace km:=km.step hb1;replace kr:=kr.step hb1;have nx:=bgo nx hb1;(try clear m0 m1 m2 m3 m4);have m0:=km.cell 0;have m1:=km.cell 1;have m2:=km.cell 2;have m3:=km.cell 3;have m4:=km.cell 4;have r0:=kr.cell 0;have r1:=kr.cell 1;have r2:=kr.cell 2;have r3:=kr.cell 3;have r4:=kr.cell 4;have z0:=kr.free 0;have z1:=kr.free 1;have z2:=kr.free 2;have z3:=kr.free 3;have z4:=kr.free 4;simp only[Zga,Zgb,Zgc] at m0 m1 m2 m3 m4 r0 r1 r2 r3 r4))|(go_at_call 89;(refine(hB.out _).mono ?_;rintro e w9 ⟨rfl,hb9⟩;replace kr:=av;have nx9:=aA;have r0:=kr.cell 0;have r1:=kr.cell 1;have r2:=kr.cell 2;have r3:=kr.cell 3;have r4:=kr.cell 4;have z0:=kr.free 0;have z1:=kr.free 1;have z2:=kr.free 2;have z3:=kr.free 3;have z4:=kr.free 4;simp only[Zga,Zgb,Zgc] at r0 r1 r2 r3 r4)))
      exact eH
theorem k95(s : ByteArray)(w : World)(hz : s.size <= 9223372036854775807) :Calls Tryz.prog 54 #[.string s] w fun e w'=>∃v,e=.returned (.tuple #[v,.int .i64 (decE s)])/\j26 w.heap.size w' v (decM s)/\Below w.heap.size w w':=by
 by_cases h:okS s
 ·exact jl4 s w h
 ·exact jl3 s w h hz
end Go.Proofs.YtlecmdajpfkaeaaGreatDoor