/- Parts of the proof. -/
import Derived.Test.YtlecmdajpfkaeaaGreatDoorKJournalRuns9
set_option linter.unusedVariables false
set_option linter.unusedSimpArgs false
set_option maxRecDepth 100000
set_option maxHeartbeats 40000000
namespace Wb
open Go Go.RowKit
section
variable{α:Type}{f:α->List Value}{base:Nat}{e:TypeId}{c:Nat}{w w':World}{v:Value}{l:List α}
theorem jz4(hf:∀x,(f x).length=c):∀(l:List α) (i:Nat),i<=l.length->(l.flatMap f).take (i*c)=(l.take i).flatMap f
 |l,0,_=>ag
 | [],i+1,h=>by simp at h
 |x::l,i+1,h=>by
  rw[jj,List.take_succ_cons,jj,mi,iV (by rw[hf,ju];omega),hf,show(i+1)*c-c=i*c by rw[ju];omega,jz4 hf l i (by simpa using h)]
theorem j49(hf:∀x,(f x).length=c)(l:List α)(i:Nat):((l.drop i).flatMap f).length=(l.length-i)*c:=by
 rw[j95 hf,iX]
theorem j76{n i c:Nat}(h:i<=n):i*c+(n-i)*c=n*c:=by rw[<-kp];congr 1;omega
theorem fH{A:Prop}(h:A:=by
 have h5:((l.take i).flatMap f++f x++(l.drop i).flatMap f).length=(l.length+1)*c:=by
  simp only[il,h4,hx,hd,ju];omega
 rw[<-h5];exact kI):A:=h
theorem kH2(hf : ∀ x, (f x).length = c)(L : List Value)(l : List α)(i cap : Nat)(x : α)(hL : L.length = cap * c)(ht : L.take (l.length * c) = l.flatMap f)(hi : i <= l.length)(hc : l.length + 1 <= cap){L1 L2 : List Value}(h1:L1=L.take ((i+1)*c)++(l.drop i).flatMap f++L.drop ((i+1)*c+((l.drop i).flatMap f).length)) (h2:L2=L1.take (i*c)++f x++L1.drop (i*c+(f x).length)):L2.length=cap*c/\L2.take ((l.length+1)*c)=(l.take i++x::l.drop i).flatMap f:=by
 have hx:=hf x;have hd:=j49 hf l i;have hm:=j76 (c:=c) hi;have hm2:(l.length+1)*c<=cap*c:=i' _ hc;rw[ju] at hm2;have hsucc:(i+1)*c=i*c+(f x).length:=by rw[hx,ju]
 rw[hsucc] at h1;subst h1;rw[km3 L (i*c) (f x) ((l.drop i).flatMap f) (by rw[hx,hd,hL];omega)] at h2;subst h2
 have h3:L.take (i*c)=(l.take i).flatMap f:=by
  rw[<-jz4 hf l i hi,<-ht,l9,jf (by rw[<-hm];omega)]
 have h4:=j95 hf (l.take i);rw[iA,jf hi] at h4;rw[h3];refine⟨?_,?_⟩
 ·simp only[il,iX,h4,hx,hd,hL];omega
 ·rw[jz,jj,<-iE];exact fH
theorem kH0(hf : ∀ x, (f x).length = c)(Z : List Value)(l : List α)(i cap : Nat)(x : α)(hZ : Z.length = (cap - i) * c)(hi : i <= l.length)(hc : l.length + 1 <= cap){L L1 L2 : List Value}(h0 : L = (l.take i).flatMap f ++ Z)(h1:L1=L.take (i*c)++f x++L.drop (i*c+(f x).length)) (h2:L2=L1.take ((i+1)*c)++(l.drop i).flatMap f++L1.drop ((i+1)*c+((l.drop i).flatMap f).length)):L2.length=cap*c/\L2.take ((l.length+1)*c)=(l.take i++x::l.drop i).flatMap f:=by
 have hx:=hf x;have hd:=j49 hf l i;have hm:=j76 (c:=c) hi;have hm2:(l.length+1)*c<=cap*c:=i' _ hc;rw[ju] at hm2;have hm3:=j76 (c:=c) (n:=cap) (i:=i) aa;have hsucc:(i+1)*c=i*c+(f x).length:=by rw[hx,ju]
 have h4:=j95 hf (l.take i);rw[iA,jf hi] at h4;have hL:L.length=cap*c:=by rw[h0,il,h4,hZ];exact hm3
 rw[hsucc] at h2;subst h1;rw[km4 L (i*c) (f x) ((l.drop i).flatMap f) (by rw[hx,hd,hL];omega)] at h2;subst h2
 have h3:L.take (i*c)=(l.take i).flatMap f:=by
  rw[h0,<-h4];exact kI
 rw[h3];refine⟨?_,?_⟩
 ·simp only[il,iX,h4,hx,hd,hL];omega
 ·rw[jz,jj,<-iE];exact fH
theorem k20(hf : ∀ x, (f x).length = c){g : Nat}{cur : Array Value}(hk : Blk w g cur e)(ht : cur.toList.take (l.length * c) = l.flatMap f){i : Nat}(hi : i <= l.length) :∀j u,((l.drop i).flatMap f)[j]? =some u->w.cell? ⟨g,i*c+j,none⟩=some u:=by
 intro j u hj;have hd:=j49 hf l i;have hm:=j76 (c:=c) hi;have hlt:j<((l.drop i).flatMap f).length:=(i4.1 hj).1;have h4:=j95 hf (l.take i);rw[iA,jf hi] at h4
 have h5:(l.flatMap f)[i*c+j]? =some u:=by
  conv=>lhs;rw[<-ji i l]
  rw[jz,jb aa,h4,jw];exact hj
 rw[<-ht,jB,ij aa] at h5;rw[hk.cell,<-h5];simp
theorem km9{g cap : Nat}(hF : Flat f c)(h : Own f base e c w (.slice (some ⟨g, 0, none⟩) l.length cap) l){i : Nat}(hi : i <= l.length)(zs : List Value)(hz : i * c + zs.length <= l.length * c) :Own f base e c (w.setCells g (i*c) zs) (.slice (some ⟨g,0,none⟩) i cap) (l.take i):=by
 obtain⟨h1,h2⟩:=h;rcases h2 with ⟨h3,_⟩|⟨g',cap',cur,hv,hb,hg,hn,hc,hs,ht⟩
 ·exact absurd h3 ag
 ·simp only[i9,iO,jJ,jF,jy] at hv;obtain⟨rfl,rfl⟩:=hv;have hle:l.length*c<=cap*c:=i' _ hn;have hk:=Blk.sets (t:=e) zs (i*c) w cur hg (by rw[hs];omega);have hil:(l.take i).length=i:=aX;have hm:=j76 (c:=c) hi
  have:=kk1 (l:=l.take i) (cap:=cap) hF hb hk (by rw[hil];omega) hc (by
   simp only[jk,il,iA,iX,Array.length_toList,hs];omega) (by
   rw[hil];show((cur.toList.take (i*c)++zs)++_).take (i*c)=_;rw[iE,jU (by rw[iA,Array.length_toList,hs];omega),l9,Nat.min_self,<-jz4 hF.len l i hi,<-ht,l9,jf aa])
  rw[hil] at this;exact this
def jX8(p:α->Bool)(l:List α)(j i:Nat)(lk:List α):Prop:=
 lk.length=l.length/\i=((l.take j).filter p).length/\lk.take i=(l.take j).filter p/\lk.drop j=l.drop j
theorem jX8.le{p:α->Bool}{j i:Nat}{lk:List α}(h:jX8 p l j i lk):i<=j:=by
 rw[h.2.1];exact i3 (kO _ _) (by rw[iA];exact Nat.min_le_left _ _)
theorem jX8.get{p:α->Bool}{j i:Nat}{lk:List α}(h:jX8 p l j i lk)(hj:j<l.length):∃hk:j<lk.length,lk[j]=l[j]:=by
 have hk:j<lk.length:=by rw[h.1];exact hj
 refine⟨hk,?_⟩;have h1:=congrArg (fun x=>x[0]?) h.2.2.2;simp only[lU,Nat.add_zero] at h1;rw[ix hk,ix hj,iO] at h1;exact h1
theorem jX8.keep{p:α->Bool}{j i:Nat}{lk:List α}(h:jX8 p l j i lk)(hj:j<l.length)(hp:p l[j]=true):jX8 p l (j+1) (i+1) (lk.set i l[j]):=by
 have hij:=h.le;obtain⟨h1,h2,h3,h4⟩:=h;have h5:(l.take (j+1)).filter p=(l.take j).filter p++ [l[j]]:=by rw[it hj,kL,List.filter_cons,ij hp,List.filter_nil]
 refine⟨b_,by rw[h5,il,<-h2];rfl,?_,?_⟩
 ·rw[h5,<-h3,it (by rw[List.length_set,h1];omega),List.getElem_set_self];congr 1;rw[List.take_set_of_le aa]
 ·rw[List.drop_set_of_lt aa,<-kg,h4,kg]
theorem jX8.skip{p:α->Bool}{j i:Nat}{lk:List α}(h:jX8 p l j i lk)(hj:j<l.length)(hp:p l[j]=false):jX8 p l (j+1) i lk:=by
 obtain⟨h1,h2,h3,h4⟩:=h;have h5:(l.take (j+1)).filter p=(l.take j).filter p:=by rw[it hj,kL,List.filter_cons,ii (by rw[hp];simp),List.filter_nil,i6]
 exact⟨h1,by rw[h5,<-h2],by rw[h5,<-h3],by rw[<-kg,h4,kg]⟩
theorem kk8{p:α->Bool}{k:Nat}(hk:k<l.length)(h:∀i (hi:i<l.length),i<k->p l[i]=true)(hp:p l[k]=false):jX8 p l (k+1) k l:=by
 have h5:(l.take k).filter p=l.take k:=lL.2 (fun x hx=>by
  obtain⟨i,hi,rfl⟩:=lM hx;rw[iA] at hi;rw[kR];exact h i aa aa)
 refine jX8.skip ⟨rfl,?_,?_,rfl⟩ hk hp
 ·rw[h5,iA];omega
 ·rw[h5]
theorem jX8.done{p:α->Bool}{j i:Nat}{lk:List α}(h:jX8 p l j i lk)(hj:l.length<=j):lk.take i=l.filter p/\i=(l.filter p).length:=by
 obtain⟨h1,h2,h3,h4⟩:=h;rw[iV hj] at h2 h3;exact⟨h3,h2⟩
theorem jr8{p:α->Bool}(h:∀i (hi:i<l.length),p l[i]=true):l.filter p=l:=lL.2 (fun x hx=>by
 obtain⟨i,hi,rfl⟩:=lM hx;exact h i hi)
end
theorem Own.setCells{α:Type}{f:α->List Value}{base:Nat}{e:TypeId}{c:Nat}{v:Value}{l:List α}:∀(ps:List (Addr×Value)) (w:World),Own f base e c w v l->(∀p∈ps,p.1.block<base)->Own f base e c (ps.foldl (fun w p=>w.setCell p.1 p.2) w) v l
 | [],_,h,_=>h
 |p::ps,w,h,hp=>Own.setCells ps _ (h.setCell (hp p ag) p.2) (fun q hq=>hp q (by simp[hq]))
theorem Below.setCells{B:Nat}{w:World}:∀(ps:List (Addr×Value)) (w':World),Below B w w'->(∀p∈ps,B<=p.1.block)->Below B w (ps.foldl (fun w p=>w.setCell p.1 p.2) w')
 | [],_,h,_=>h
 |p::ps,w',h,hp=>Below.setCells ps _ (h.setCell (hp p ag) p.2) (fun q hq=>hp q (by simp[hq]))
end Wb
namespace Go.Proofs.YtlecmdajpfkaeaaGreatDoor
open Go.RowKit Wb
theorem j50:Elem Tryz.prog 46 3 1 8:=kj_ (z:=.int .i64 0) Tryz.underlying46 af rfl
theorem jL5(t : Txn)(v : Value)(w : World)(h : j17 w v t) :Calls Tryz.prog 98 #[v] w fun e w'=>∃v',e=.returned v'/\jR0 w.heap.size 93 3 w' v' t/\Below w.heap.size w w':=by
 obtain⟨vm,vd,vr,rfl,hm,hd,hr,n1,n2,n3⟩:=h;obtain⟨am,cm,rfl,_⟩:=hm.form;obtain⟨ad,cd,rfl,_⟩:=hd.form;obtain⟨ar,cr,rfl,_⟩:=hr.form;obtain⟨seq,mt,dt,rev,⟨on0,l0⟩,⟨on1,l1⟩,⟨on2,l2⟩⟩:=t;unfold j84 jR0;dsimp only at*;replace hm:=hid hm;replace hd:=hid hd;replace hr:=hid hr;go_enter Tryz.func98,Tryz.ntmps98;go_wp2
 go_region_law (first|(refine jZ_ rfl _ _ 45 rfl _ _ 2 24 j91 j53 (Own.nil _ _ _ _ _) rfl mt (hm.out.below (bal (bal (b0 w) _) _).drew) rfl ah aW (iy _) ?_;intro v1 w1 hown1 hb1 _;obtain⟨a1,cap1,rfl⟩:=hown1.form;have k0:Blk w1 w.heap.size #[.int .i64 seq,.slice am mt.length cm,.slice ad dt.length cd,.slice ar rev.length cr,.bool on0,.int .i64 l0,.bool on1,.int .i64 l1,.bool on2,.int .i64 l2] 51:=(((kk3 w _ _).alloc _).drew).step hb1;have k1:Blk w1 (w.heap.size+1) #[.int .i64 0,.slice none 0 0,.slice none 0 0,.slice none 0 0,.bool false,.int .i64 0,.bool false,.int .i64 0,.bool false,.int .i64 0] 51:=((kl8 (w:=w.alloc _) ag).drew).step hb1;have nx:=bgo (bal (bal (b0 w) _) _).drew hb1;have c1:=k0.cell 1;have c2:=k0.cell 2;have c3:=k0.cell 3;simp only[Zga,Zgb,Zgc] at c1 c2 c3;simp only[iw] at hown1)|(refine jZ_ rfl _ _ 45 rfl _ _ 2 24 j91 j53 (Own.nil _ _ _ _ _) rfl dt (hd.out.below nx) rfl ah aW (iy _) ?_;intro v2 w2 hown2 hb2 _;obtain⟨a2,cap2,rfl⟩:=hown2.form;replace k0:=k0.step hb2;replace k1:=k1.step hb2;have nx:=bgo nx hb2;replace hown1:=hown1.below hb2;clear c1 c2 c3;have c1:=k0.cell 1;have c2:=k0.cell 2;have c3:=k0.cell 3;simp only[Zga,Zgb,Zgc] at c1 c2 c3;simp only[iw] at hown2)|(refine jZ_ rfl _ _ 46 rfl _ _ 1 8 j9_ j50 (Own.nil _ _ _ _ _) rfl rev (hr.out.below nx) rfl ah aW (iy _) ?_;intro v3 w3 hown3 hb3 _;obtain⟨a3,cap3,rfl⟩:=hown3.form;replace k0:=k0.step hb3;replace k1:=k1.step hb3;have nx:=bgo nx hb3;replace hown1:=hown1.below hb3;replace hown2:=hown2.below hb3;clear c1 c2 c3;have c1:=k0.cell 1;have c2:=k0.cell 2;have c3:=k0.cell 3;have f1:=k0.free 1;have f2:=k0.free 2;have f3:=k0.free 3;simp only[Zga,Zgb,Zgc] at c1 c2 c3;simp only[iw] at hown3))
 all_goals
  have k0':=((k0.set 1 (.slice a1 mt.length cap1)).set 2 (.slice a2 dt.length cap2)).set 3 (.slice a3 rev.length cap3)
  have k1':=((k1.set_other ⟨w.heap.size,1,none⟩ (.slice a1 mt.length cap1) ag).set_other ⟨w.heap.size,2,none⟩ (.slice a2 dt.length cap2) ag).set_other ⟨w.heap.size,3,none⟩ (.slice a3 rev.length cap3) ag
  have nx':=((nx.setCell (p:=⟨w.heap.size,1,none⟩) ag (.slice a1 mt.length cap1)).setCell (p:=⟨w.heap.size,2,none⟩) ag (.slice a2 dt.length cap2)).setCell (p:=⟨w.heap.size,3,none⟩) ag (.slice a3 rev.length cap3)
  have o1:=((hown1.mono (base':=w.heap.size+2) ag).setCell (p:=⟨w.heap.size,1,none⟩) ag (.slice a1 mt.length cap1)).setCell (p:=⟨w.heap.size,2,none⟩) ag (.slice a2 dt.length cap2)|>.setCell (p:=⟨w.heap.size,3,none⟩) ag (.slice a3 rev.length cap3)
  have hz1:w.heap.size+2<=w1.heap.size:=by have:=hb1.size;simpa using this
  have hz2:w.heap.size+2<=w2.heap.size:=i3 hz1 hb2.size
  have o2:=((hown2.mono (base':=w.heap.size+2) hz1).setCell (p:=⟨w.heap.size,1,none⟩) ag (.slice a1 mt.length cap1)).setCell (p:=⟨w.heap.size,2,none⟩) ag (.slice a2 dt.length cap2)|>.setCell (p:=⟨w.heap.size,3,none⟩) ag (.slice a3 rev.length cap3)
  have o3:=((hown3.mono (base':=w.heap.size+2) hz2).setCell (p:=⟨w.heap.size,1,none⟩) ag (.slice a1 mt.length cap1)).setCell (p:=⟨w.heap.size,2,none⟩) ag (.slice a2 dt.length cap2)|>.setCell (p:=⟨w.heap.size,3,none⟩) ag (.slice a3 rev.length cap3)
  clear k0 k1 nx hown1 hown2 hown3 c1 c2 c3 f1 f2 f3 hb1 hb2 hb3
  generalize (((w3.setCell ⟨w.heap.size,1,none⟩ (.slice a1 mt.length cap1)).setCell ⟨w.heap.size,2,none⟩ (.slice a2 dt.length cap2)).setCell ⟨w.heap.size,3,none⟩ (.slice a3 rev.length cap3))=w4 at*
  replace k0':Blk w4 w.heap.size #[.int .i64 seq,.slice a1 mt.length cap1,.slice a2 dt.length cap2,.slice a3 rev.length cap3,.bool on0,.int .i64 l0,.bool on1,.int .i64 l1,.bool on2,.int .i64 l2] 51:=k0'
  have c0:=k0'.cell 0;have c1:=k0'.cell 1;have c2:=k0'.cell 2;have c3:=k0'.cell 3;have c4:=k0'.cell 4;have c5:=k0'.cell 5;have c6:=k0'.cell 6;have c7:=k0'.cell 7;have c8:=k0'.cell 8;have c9:=k0'.cell 9
  have d0:=k1'.cell 0;have d1:=k1'.cell 1;have d2:=k1'.cell 2;have d3:=k1'.cell 3;have d4:=k1'.cell 4;have d5:=k1'.cell 5;have d6:=k1'.cell 6;have d7:=k1'.cell 7;have d8:=k1'.cell 8;have d9:=k1'.cell 9
  have z0:=k1'.free 0;have z1:=k1'.free 1;have z2:=k1'.free 2;have z3:=k1'.free 3;have z4:=k1'.free 4;have z5:=k1'.free 5;have z6:=k1'.free 6;have z7:=k1'.free 7;have z8:=k1'.free 8;have z9:=k1'.free 9
  simp only[Zga,Zgb,Zgc] at c0 c1 c2 c3 c4 c5 c6 c7 c8 c9 d0 d1 d2 d3 d4 d5 d6 d7 d8 d9
  go_wp2
  have e1:=o1.setCells [(⟨w.heap.size+1,0,none⟩,.int .i64 seq),(⟨w.heap.size+1,1,none⟩,.slice a1 mt.length cap1),(⟨w.heap.size+1,2,none⟩,.slice a2 dt.length cap2),(⟨w.heap.size+1,3,none⟩,.slice a3 rev.length cap3),(⟨w.heap.size+1,4,none⟩,.bool on0),(⟨w.heap.size+1,5,none⟩,.int .i64 l0),(⟨w.heap.size+1,6,none⟩,.bool on1),(⟨w.heap.size+1,7,none⟩,.int .i64 l1),(⟨w.heap.size+1,8,none⟩,.bool on2),(⟨w.heap.size+1,9,none⟩,.int .i64 l2)] _ ag
  have e2:=o2.setCells [(⟨w.heap.size+1,0,none⟩,.int .i64 seq),(⟨w.heap.size+1,1,none⟩,.slice a1 mt.length cap1),(⟨w.heap.size+1,2,none⟩,.slice a2 dt.length cap2),(⟨w.heap.size+1,3,none⟩,.slice a3 rev.length cap3),(⟨w.heap.size+1,4,none⟩,.bool on0),(⟨w.heap.size+1,5,none⟩,.int .i64 l0),(⟨w.heap.size+1,6,none⟩,.bool on1),(⟨w.heap.size+1,7,none⟩,.int .i64 l1),(⟨w.heap.size+1,8,none⟩,.bool on2),(⟨w.heap.size+1,9,none⟩,.int .i64 l2)] _ ag
  have e3:=o3.setCells [(⟨w.heap.size+1,0,none⟩,.int .i64 seq),(⟨w.heap.size+1,1,none⟩,.slice a1 mt.length cap1),(⟨w.heap.size+1,2,none⟩,.slice a2 dt.length cap2),(⟨w.heap.size+1,3,none⟩,.slice a3 rev.length cap3),(⟨w.heap.size+1,4,none⟩,.bool on0),(⟨w.heap.size+1,5,none⟩,.int .i64 l0),(⟨w.heap.size+1,6,none⟩,.bool on1),(⟨w.heap.size+1,7,none⟩,.int .i64 l1),(⟨w.heap.size+1,8,none⟩,.bool on2),(⟨w.heap.size+1,9,none⟩,.int .i64 l2)] _ ag
  have e4:=Wb.Below.setCells [(⟨w.heap.size+1,0,none⟩,.int .i64 seq),(⟨w.heap.size+1,1,none⟩,.slice a1 mt.length cap1),(⟨w.heap.size+1,2,none⟩,.slice a2 dt.length cap2),(⟨w.heap.size+1,3,none⟩,.slice a3 rev.length cap3),(⟨w.heap.size+1,4,none⟩,.bool on0),(⟨w.heap.size+1,5,none⟩,.int .i64 l0),(⟨w.heap.size+1,6,none⟩,.bool on1),(⟨w.heap.size+1,7,none⟩,.int .i64 l1),(⟨w.heap.size+1,8,none⟩,.bool on2),(⟨w.heap.size+1,9,none⟩,.int .i64 l2)] _ nx' ag
  refine iL (v:=.agg #[.int .i64 seq,.slice a1 mt.length cap1,.slice a2 dt.length cap2,.slice a3 rev.length cap3,.bool on0,.int .i64 l0,.bool on1,.int .i64 l1,.bool on2,.int .i64 l2]) (by simp[results,Tryz.results98,go_sem,d0,d1,d2,d3,d4,d5,d6,d7,d8,d9]) rfl ⟨_,rfl,⟨_,_,_,rfl,e1.mono aa,e2.mono aa,e3.mono aa,n1,n2,n3⟩,e4⟩
end Go.Proofs.YtlecmdajpfkaeaaGreatDoor
namespace Wb
open Go Go.RowKit
def idxK{α:Type}(key:α->Int)(l:List α)(b:Int):Int:=match l.findIdx? (fun x=>key x==b) with
 |some k=>(k:Int)
 |none=> -1
section
variable{α:Type}{key:α->Int}{l:List α}{b:Int}
theorem k51{k:Nat}(hk:k<l.length)(h1:key l[k]=b)(h2:∀i (hi:i<k),¬key l[i]=b):idxK key l b=k:=by
 have:l.findIdx? (fun x=>key x==b)=some k:=List.findIdx?_eq_some_iff_getElem.2 ⟨hk,b_,fun j hj=>by simpa using h2 j hj⟩;unfold idxK;rw[this]
theorem jh8(h2:∀i (hi:i<l.length),¬key l[i]=b):idxK key l b= -1:=by
 have:l.findIdx? (fun x=>key x==b)=none:=List.findIdx?_eq_none_iff.2 (fun x hx=>by
  obtain⟨i,hi,rfl⟩:=lM hx;simpa using h2 i hi)
 unfold idxK;rw[this]
theorem jh9(key:α->Int)(l:List α)(b:Int):(idxK key l b= -1/\ ∀i (hi:i<l.length),¬key l[i]=b)\/ ∃k:Nat,idxK key l b=k/\ ∃hk:k<l.length,key l[k]=b/\ ∀i (hi:i<k),¬key l[i]=b:=by
 cases e:l.findIdx? (fun x=>key x==b) with
 |none=>
  refine .inl ⟨by unfold idxK;rw[e],fun i hi hb=>?_⟩
  have:=List.findIdx?_eq_none_iff.1 e _ (iM hi)
  simp[hb] at this
 |some k=>
  obtain⟨hk,h1,h2⟩:=List.findIdx?_eq_some_iff_getElem.1 e
  exact .inr ⟨k,by unfold idxK;rw[e],hk,b_,fun i hi=>by simpa using h2 i hi⟩
end
end Wb
namespace Go.Proofs.YtlecmdajpfkaeaaGreatDoor
open Go.RowKit Wb
theorem jS8(l : List Int)(v : Value)(w : World)(h : RL j_9 w v l)(hl : l.length <= 17592186044160) :Calls Tryz.prog 42 #[v] w fun e w'=>∃v',e=.returned v'/\Wb.Own j_9 w.heap.size 3 1 w' v' l/\Below w.heap.size w w':=by
 have hh:=h;obtain⟨a,cap,rfl,_,_,h3⟩:=hh
 cases a with
 |none=>
  have h0:l=[]:=by
   rcases h3 with h3|⟨_,_,h4,_⟩
   ·have hl2:=j95 j9_.len l;rw[h3] at hl2;exact i5.1 (by simp at hl2;omega)
   ·cases h4
  subst h0
  have heq:=kA (P:=Tryz.prog) w 46 3 none 0 cap 0 0 j50.under
  clear h h3 hl
  go_enter Tryz.func42,Tryz.ntmps42
  go_wp2
  go_ret
  exact⟨_,rfl,Own.nil _ _ _ _ _,b0 w⟩
 |some p=>
  obtain⟨pb,po,ps⟩:=p
  replace h:=hid h
  clear h3
  have h0:Wb.Own j_9 w.heap.size 3 1 (w.alloc (.cells #[] 3)) (.slice (some ⟨w.heap.size,0,none⟩) 0 0) []:=kk1 (l:=([]:List Int)) j9_ (iy _) (kk3 w #[] _) (iy _) aE rfl rfl
  have nx:=bal (b0 w) (.cells #[] 3)
  have heq:=kA (P:=Tryz.prog) w 46 3 (some ⟨pb,po,ps⟩) l.length cap 0 0 j50.under
  replace h0:=hid h0
  go_enter Tryz.func42,Tryz.ntmps42
  go_wp2_with (at_builtin;refine j62 rfl _ _ 46 rfl w.heap.size _ 1 8 j9_ j50 h0.out rfl l (h.out.below nx) rfl ah aW ag ?_;intro v1 w1 hown1 hg1;obtain⟨a1,cap1,rfl⟩:=hown1.form;have nx2:=nx.trans (h0.out.belowGrown ag hg1);simp only[iw,iC,jm] at hown1 nx2)
  go_ret
  exact⟨_,rfl,hown1,nx2⟩
theorem jX_(l : List Cpy)(v : Value)(w : World)(h : RL j_3 w v l)(hl : l.length <= 5864062014805) :Calls Tryz.prog 41 #[v] w fun e w'=>∃v',e=.returned v'/\Wb.Own j_3 w.heap.size 93 2 w' v' l/\Below w.heap.size w w':=by
 have hh:=h;obtain⟨a,cap,rfl,_,_,h3⟩:=hh
 cases a with
 |none=>
  have h0:l=[]:=by
   rcases h3 with h3|⟨_,_,h4,_⟩
   ·have hl2:=j95 j91.len l;rw[h3] at hl2;exact i5.1 (by simp at hl2;omega)
   ·cases h4
  subst h0
  have heq:=kA (P:=Tryz.prog) w 45 93 none 0 cap 0 0 j53.under
  clear h h3 hl
  go_enter Tryz.func41,Tryz.ntmps41
  go_wp2
  go_ret
  exact⟨_,rfl,Own.nil _ _ _ _ _,b0 w⟩
 |some p=>
  obtain⟨pb,po,ps⟩:=p
  replace h:=hid h
  clear h3
  have h0:Wb.Own j_3 w.heap.size 93 2 (w.alloc (.cells #[] 93)) (.slice (some ⟨w.heap.size,0,none⟩) 0 0) []:=kk1 (l:=([]:List Cpy)) j91 (iy _) (kk3 w #[] _) (iy _) aE rfl rfl
  have nx:=bal (b0 w) (.cells #[] 93)
  have heq:=kA (P:=Tryz.prog) w 45 93 (some ⟨pb,po,ps⟩) l.length cap 0 0 j53.under
  replace h0:=hid h0
  go_enter Tryz.func41,Tryz.ntmps41
  go_wp2_with (at_builtin;refine j62 rfl _ _ 45 rfl w.heap.size _ 2 24 j91 j53 h0.out rfl l (h.out.below nx) rfl ah aW ag ?_;intro v1 w1 hown1 hg1;obtain⟨a1,cap1,rfl⟩:=hown1.form;have nx2:=nx.trans (h0.out.belowGrown ag hg1);simp only[iw,iC,jm] at hown1 nx2)
  go_ret
  exact⟨_,rfl,hown1,nx2⟩
theorem jk1(l : List Int)(b : Int)(v : Value)(w : World)(h : RL j_9 w v l)(hl : l.length <= 17592186044160) :Calls Tryz.prog 146 #[v,.int .i64 b] w fun e w'=>∃r:Int,e=.returned (.int .i64 r)/\(inI l b=decide (0<=r))/\w=w':=by
 obtain⟨a,cap,rfl,_⟩:=h.form;have hst:=fun k (hk:k<l.length)=>jK6 (l:=l) (b:=b) hk;have hft:=fun k (hk:¬k<l.length)=>k52 (l:=l) (b:=b) hk;have hht:=fun k (hk:k<l.length) (hb:l[k]=b)=>kS3 hk hb;replace h:=hid h;replace hst:=hid hst;replace hft:=hid hft;replace hht:=hid hht;go_enter Tryz.func146,Tryz.ntmps146;go_wp2
 go_loop [8] (fun i=>∃k:Nat,k<=l.length/\i=.int .i64 k/\Hid (inI (l.take k) b=false)) (fun i=>l.length-(intOf i).toNat)
 case atStart=>exact⟨0,iq _,rfl,hid (by simp[inI])⟩
 case round=>
  obtain⟨k,hk,rfl,hno⟩:=hrel;by_cases hlt:k<l.length
  ·obtain⟨b1,o1,rfl,c0⟩:=kl6 (fun x=>.int .i64 x) (fun _=>rfl) h.out hlt;by_cases hb:l[k]=b
   ·have hv:=hid (hht.out k hlt hb);have e1:(l[k]==b)=true:=iT.2 hb;have e2:(b==l[k])=true:=iT.2 hb.symm;clear hb;generalize l[k]=x at*;go_wp2;go_ret;exact⟨_,rfl,by rw[hv.out];exact(iG aa).symm,rfl⟩
   ·have hs:=hst.out k hlt;have e1:(l[k]==b)=false:=ik.2 hb;have e2:(b==l[k])=false:=ik.2 (fun x=>hb x.symm);exact fV
  ·have hv:=hid (hft.out k hlt);obtain rfl:k=l.length:=aa;rw[hno.out] at hv;clear hno;go_wp2;go_ret;exact⟨_,rfl,by rw[<-hv.out];rfl,rfl⟩
theorem j94(l : List Int)(b : Int)(v : Value)(w : World)(h : RL j_9 w v l)(hl : l.length <= 17592186044160) :Calls Tryz.prog 117 #[v,.int .i64 b] w fun e w'=>e=.returned (.bool (inI l b))/\w=w':=by
 have hI:=hid (jk1 l b v w h hl);obtain⟨a,cap,rfl,_⟩:=h.form;clear h;go_enter Tryz.func117,Tryz.ntmps117
 go_wp2_with (go_at_call 146;((with_reducible refine hI.out.mono ?_);rintro e w1 ⟨r,rfl,hr,rfl⟩;replace hr:=hid hr))
 go_ret;exact⟨j6_ hr.out.symm,rfl⟩
theorem ju1(x b : Int)(gb : Nat)(w : World)(hc : w.cell? ⟨gb, 0, none⟩ = some (.int .i64 b)) :Calls Tryz.prog 125 #[.int .i64 x,.pointer (some ⟨gb,0,none⟩)] w fun e w'=>e=.returned (.bool (x==b))/\Below w.heap.size w w':=by
 by_cases hb:x=b
 ·have e1:(x==b)=true:=iT.2 hb;rw[e1];subst hb;go_enter Tryz.func125,Tryz.ntmps125;go_wp2;go_ret;exact⟨rfl,b0 w⟩
 ·have e1:(x==b)=false:=ik.2 hb;rw[e1];go_enter Tryz.func125,Tryz.ntmps125;go_wp2;go_ret;exact⟨rfl,b0 w⟩
theorem fK{A:Prop}(h:A:=by
 go_roundw
 case rel=>first|exact⟨k+1,aa,an,bgo nx hb1,hno2⟩| ((repeat apply Exists.intro);exact⟨⟨k+1,aa,an,bgo nx hb1,hno2⟩,rfl⟩)
 case measure=>simp[intOf];omega):A:=h
theorem gJ{A:Prop}(h:A:=by
 have hv:=hid (non.out (fun i hi=>hno.out i hi hi));clear hno hit non;go_wp2;go_ret;exact⟨jW4 hv.out.symm,nx⟩):A:=h
theorem jF_(l : List Int)(b : Int)(v : Value)(gb : Nat)(w : World)(h : RL j_9 w v l)(hc : w.cell? ⟨gb, 0, none⟩ = some (.int .i64 b))(hl : l.length <= 17592186044160) :Calls Tryz.prog 148 #[v,.func (.func 125) #[] #[.pointer (some ⟨gb,0,none⟩)]] w fun e w'=>e=.returned (.int .i64 (idxK (fun x=>x) l b))/\Below w.heap.size w w':=by
 obtain⟨a,cap,rfl,_⟩:=h.form;have hit:=hid (fun k (hk:k<l.length) (h1:l[k]=b) h2=>k51 (key:=fun x=>x) (b:=b) hk h1 h2);have non:=hid (fun h2=>jh8 (key:=fun x=>x) (l:=l) (b:=b) h2);have hC:=hid (fun x w hc=>ju1 x b gb w hc);generalize idxK (fun x=>x) l b=r at*;replace h:=hid h;replace hc:=hid hc;go_enter Tryz.func148,Tryz.ntmps148;go_wp2
 go_loopw [8] (fun i wr=>∃k:Nat,k<=l.length/\i=.int .i64 k/\Below w.heap.size w wr/\Hid (∀i (hi:i<l.length),i<k->¬l[i]=b)) (fun i _=>l.length-(intOf i).toNat)
 case atStart=>exact⟨0,iq _,rfl,b0 w,hid (fun i _ h=>absurd h (jl i))⟩
 case round=>
  obtain⟨k,hk,rfl,nx,hno⟩:=hrel;by_cases hlt:k<l.length
  ·obtain⟨b1,o1,rfl,c0⟩:=kl6 (fun x=>.int .i64 x) (fun _=>rfl) (h.out.below nx) hlt;have hcw:=hid (j_5 nx hc.out);by_cases hb:l[k]=b
   ·have hv:=hid (hit.out k hlt hb (fun i hi=>hno.out i aa hi));have hCx:=hC.out l[k] wr hcw.out;have e1:(l[k]==b)=true:=iT.2 hb;rw[e1] at hCx;replace hCx:=hid hCx;clear hb e1 hno hit non;generalize l[k]=x at*
    go_wp2_with (go_at_call 125;((with_reducible refine hCx.out.mono ?_);rintro e w1 ⟨rfl,hb1⟩))
    go_ret;exact⟨jW4 hv.out.symm,bgo nx hb1⟩
   ·have hno2 : Hid (∀ i (hi : i < l.length), i < k + 1 -> ¬ l[i] = b) := hid (fun i hi h2 => by
      by_cases e:i=k
      · subst e;exact hb
      · exact hno.out i hi aa)
    have hCx:=hC.out l[k] wr hcw.out;have e1:(l[k]==b)=false:=ik.2 hb;rw[e1] at hCx;replace hCx:=hid hCx;clear hb e1 hno hit non;generalize l[k]=x at*
    go_wp2_with (go_at_call 125;((with_reducible refine hCx.out.mono ?_);rintro e w1 ⟨rfl,hb1⟩))
    exact fK
  ·obtain rfl:k=l.length:=by omega
   exact gJ
theorem jc3(x : Cpy)(b : Int)(gb : Nat)(w : World)(hc : w.cell? ⟨gb, 0, none⟩ = some (.int .i64 b)) :Calls Tryz.prog 151 #[.agg #[.int .i64 x.block,.string x.text],.pointer (some ⟨gb,0,none⟩)] w fun e w'=>e=.returned (.bool (x.block==b))/\Below w.heap.size w w':=by
 obtain⟨x,s⟩:=x;have k0:=kk3 w #[.int .i64 x,.string s] 93;have c0:=k0.cell 0;have c1:=k0.cell 1;have hc2:=j_5 (bal (b0 w) (.cells #[.int .i64 x,.string s] 93)) hc;simp only[Zga,Zgb,Zgc] at c0 c1;dsimp only;by_cases hb:x=b
 ·have e1:(x==b)=true:=iT.2 hb;rw[e1];subst hb;go_enter Tryz.func151,Tryz.ntmps151;go_wp2;go_ret;exact⟨rfl,bal (b0 w) _⟩
 ·have e1:(x==b)=false:=ik.2 hb;rw[e1];go_enter Tryz.func151,Tryz.ntmps151;go_wp2;go_ret;exact⟨rfl,bal (b0 w) _⟩
theorem jG9(l : List Cpy)(b : Int)(v : Value)(gb : Nat)(w : World)(h : RL j_3 w v l)(hc : w.cell? ⟨gb, 0, none⟩ = some (.int .i64 b))(hl : l.length <= 5864062014805) :Calls Tryz.prog 166 #[v,.func (.func 151) #[] #[.pointer (some ⟨gb,0,none⟩)]] w fun e w'=>e=.returned (.int .i64 (idxK (fun x=>x.block) l b))/\Below w.heap.size w w':=by
 obtain⟨a,cap,rfl,_⟩:=h.form;have hit:=hid (fun k (hk:k<l.length) (h1:l[k].block=b) h2=>k51 (key:=fun x=>x.block) (b:=b) hk h1 h2);have non:=hid (fun h2=>jh8 (key:=fun x=>x.block) (l:=l) (b:=b) h2);have hC:=hid (fun x w hc=>jc3 x b gb w hc);generalize idxK (fun x=>x.block) l b=r at*;replace h:=hid h;replace hc:=hid hc;go_enter Tryz.func166,Tryz.ntmps166;go_wp2
 go_loopw [8] (fun i wr=>∃k:Nat,k<=l.length/\i=.int .i64 k/\Below w.heap.size w wr/\Hid (∀i (hi:i<l.length),i<k->¬l[i].block=b)) (fun i _=>l.length-(intOf i).toNat)
 case atStart=>exact⟨0,iq _,rfl,b0 w,hid (fun i _ h=>absurd h (jl i))⟩
 case round=>
  obtain⟨k,hk,rfl,nx,hno⟩:=hrel;by_cases hlt:k<l.length
  ·obtain⟨b1,o1,rfl,c0,c1⟩:=kj3 (fun x=>.int .i64 x.block) (fun x=>.string x.text) (fun _=>rfl) (h.out.below nx) hlt;have hcw:=hid (j_5 nx hc.out);by_cases hb:l[k].block=b
   ·have hv:=hid (hit.out k hlt hb (fun i hi=>hno.out i aa hi));have hCx:=hC.out l[k] wr hcw.out;have e1:(l[k].block==b)=true:=iT.2 hb;rw[e1] at hCx;replace hCx:=hid hCx;clear hb e1 hno hit non;generalize l[k]=x at*
    go_wp2_with (go_at_call 151;((with_reducible refine hCx.out.mono ?_);rintro e w1 ⟨rfl,hb1⟩))
    go_ret;exact⟨jW4 hv.out.symm,bgo nx hb1⟩
   ·have hno2 : Hid (∀ i (hi : i < l.length), i < k + 1 -> ¬ l[i].block = b) := hid (fun i hi h2 => by
      by_cases e:i=k
      · subst e;exact hb
      · exact hno.out i hi aa)
    have hCx:=hC.out l[k] wr hcw.out;have e1:(l[k].block==b)=false:=ik.2 hb;rw[e1] at hCx;replace hCx:=hid hCx;clear hb e1 hno hit non;generalize l[k]=x at*
    go_wp2_with (go_at_call 151;((with_reducible refine hCx.out.mono ?_);rintro e w1 ⟨rfl,hb1⟩))
    exact fK
  ·obtain rfl:k=l.length:=by omega
   exact gJ
end Go.Proofs.YtlecmdajpfkaeaaGreatDoor
namespace Wb
open Go Go.RowKit
section
variable{P:Program}{w:World}{ops:Array Oper}{rest:List Oper}{o:Oper}{a:Act}{Q:Exit->Act->World->Prop}
theorem ju4(hgd : o.guard = none)(d s : Operand)(t t' : TypeId)(ho : o.op = .call { callee := .builtin .append, args := #[d, s], argTypes := #[t, t'] }){v u v' : Value}{w' : World}(hr:(Builtin.append_ #[t,t'] o.type #[v,u]).run P w=.ok v' w') (hd:a.eval d=v) (hs:a.eval s=u) (h:wpList P ops Q rest (a.put o.dst v') w'):wpList P ops Q (o::rest) a w:=by
 refine wpList_plain hgd fun K hK=>?_;unfold Oper.wp execOp;simp only[ho,resolve,invoke,builtin,Sem.run_bind,Sem.run_pure,Result.andThen_ok,ky,jr,jN,hd,hs,hr];exact hK _ _ h
theorem jO5{K : Act -> World -> Prop}{E : Prop}(hg : o.guard = none)(d s : Operand)(t t' : TypeId)(ho : o.op = .call { callee := .builtin .copy, args := #[d, s], argTypes := #[t, t'] }){v u v' : Value}{w' : World}(hr:(Builtin.copy_ #[t,t'] o.type #[v,u]).run P w=.ok v' w') (hd:a.eval d=v) (hs:a.eval s=u) (hK:K (a.put o.dst v') w'):if Region.wanted o (yielded ops a.tmps)=true then Oper.wp P o a w K Q else E:=by
 have hw:Region.wanted o (yielded ops a.tmps)=true:=by simp[Region.wanted,hg]
 rw[ij hw];unfold Oper.wp execOp;simp only[ho,resolve,invoke,builtin,Sem.run_bind,Sem.run_pure,Result.andThen_ok,ky,jr,jN,hd,hs,hr];exact hK
theorem j40{dT elem : TypeId}{c bytes : Nat}(hT : Elem P dT elem c bytes)(w : World)(sT ty : TypeId){g : Nat}{cur : Array Value}(hk : Blk w g cur elem)(off dLen dCap : Nat)(b soff sLen sCap : Nat)(cs : List Value)(hn:cs.length=Nat.min sLen dLen*c) (hsrc:∀j v,cs[j]? =some v->w.cell? ⟨b,soff+j,none⟩=some v) (hfit:off+cs.length<=cur.size) (h1:∀v∈cs,v.oneCell'=true):(Builtin.copy_ #[dT,sT] ty #[.slice (some ⟨g,off,none⟩) dLen dCap,.slice (some ⟨b,soff,none⟩) sLen sCap]).run P w=.ok (goInt (Nat.min sLen dLen:Nat)) (w.setCells g off cs):=by
 obtain⟨hu,i,z,hi,hz,hsz,hby,hzs⟩:=hT;exact kY2 w dT sT ty elem c g off dLen dCap ⟨b,soff,none⟩ sLen sCap cs hu (by rw[hi];simp[hsz]) hn (fun j v hj=>by rw[kK];exact hsrc j v hj) (fun j hj=>by rw[hk.cell,lO aa];rfl) (fun j hj=>hk.free _) h1
end
section
variable{α:Type}{f:α->List Value}{base:Nat}{e:TypeId}{c:Nat}{l:List α}
theorem jC7(hF:Flat f c)(l:List α):∀u∈l.flatMap f,u.oneCell'=true:=fun u hu=>bE
theorem jq0{i:Nat}(x:α)(hi:i<=l.length):(l.take i++x::l.drop i).length=l.length+1:=by
 rw[il,iA,iB,iX];omega
theorem jg0(hF : Flat f c){g cap i : Nat}{cur : Array Value}(hbg : base <= g)(hmax : cap <= maxLen)(hsz : cur.size = cap * c)(htk : cur.toList.take (l.length * c) = l.flatMap f)(hi : i <= l.length)(hc : l.length + 1 <= cap)(x : α){w0 : World}(hk : Blk w0 g cur e) :∃cur1:Array Value,cur1.size=cap*c/\Blk (w0.setCells g ((i+1)*c) ((l.drop i).flatMap f)) g cur1 e/\ ∀w1,Blk w1 g cur1 e->Own f base e c (w1.setCells g (i*c) (f x)) (.slice (some ⟨g,0,none⟩) (l.length+1) cap) (l.take i++x::l.drop i):=by
 have hd:=j49 hF.len l i;have hm:=j76 (c:=c) hi;have hm2:(l.length+1)*c<=cap*c:=i' _ hc;rw[ju] at hm2;have b1:=Blk.sets ((l.drop i).flatMap f) ((i+1)*c) w0 cur hk (by rw[hd,hsz,ju];omega)
 have hs1:(cur.toList.take ((i+1)*c)++(l.drop i).flatMap f++cur.toList.drop ((i+1)*c+((l.drop i).flatMap f).length)).length=cap*c:=by
  simp only[il,iA,iX,Array.length_toList,hsz,hd,ju];omega
 refine⟨_,by simpa using hs1,b1,fun w1 k1=>?_⟩;have b2:=Blk.sets (f x) (i*c) w1 _ k1 (by rw[hF.len,jk,hs1];omega);obtain⟨h1,h2⟩:=kH2 hF.len cur.toList l i cap x (by rw[Array.length_toList];exact hsz) htk hi hc rfl rfl;have:=kk1 (l:=l.take i++x::l.drop i) (base:=base) hF hbg b2 (by rw[jq0 x hi];exact hc) hmax (by rw[jk];exact h1) (by rw[jq0 x hi];exact h2);rw[jq0 x hi] at this;exact this
theorem jg_(hF : Flat f c){g cap i : Nat}{cur : Array Value}(Z : List Value)(hbg : base <= g)(hmax : cap <= maxLen)(hZ : Z.length = (cap - i) * c)(hcur : cur = ((l.take i).flatMap f ++ Z).toArray)(hi : i <= l.length)(hc : l.length + 1 <= cap)(x : α){w0 : World}(hk : Blk w0 g cur e) :cur.size=cap*c/\ ∃cur1:Array Value,cur1.size=cap*c/\Blk (w0.setCells g (i*c) (f x)) g cur1 e/\ ∀w1,Blk w1 g cur1 e->Own f base e c (w1.setCells g ((i+1)*c) ((l.drop i).flatMap f)) (.slice (some ⟨g,0,none⟩) (l.length+1) cap) (l.take i++x::l.drop i):=by
 have hd:=j49 hF.len l i;have hm:=j76 (c:=c) hi;have hm2:(l.length+1)*c<=cap*c:=i' _ hc;have hm3:=j76 (c:=c) (n:=cap) (i:=i) aa;have h4:=j95 hF.len (l.take i);rw[iA,jf hi] at h4;rw[ju] at hm2;have hs0:cur.size=cap*c:=by rw[hcur,jk,il,h4,hZ];exact hm3
 refine⟨hs0,?_⟩;have b1:=Blk.sets (f x) (i*c) w0 cur hk (by rw[hF.len,hs0];omega)
 have hs1:(cur.toList.take (i*c)++f x++cur.toList.drop (i*c+(f x).length)).length=cap*c:=by
  simp only[il,iA,iX,Array.length_toList,hs0,hF.len];omega
 refine⟨_,by simpa using hs1,b1,fun w1 k1=>?_⟩;have b2:=Blk.sets ((l.drop i).flatMap f) ((i+1)*c) w1 _ k1 (by rw[hd,jk,hs1,ju];omega);obtain⟨h1,h2⟩:=kH0 hF.len Z l i cap x hZ hi hc (L:=cur.toList) (by rw[hcur]) rfl rfl;have:=kk1 (l:=l.take i++x::l.drop i) (base:=base) hF hbg b2 (by rw[jq0 x hi];exact hc) hmax (by rw[jk];exact h1) (by rw[jq0 x hi];exact h2);rw[jq0 x hi] at this;exact this
theorem jE3{P : Program}{t tn : TypeId}{bytes : Nat}(hF : Flat f c)(hT : Elem P t e c bytes)(htn : P.underlying tn = some (.int .i64))(w : World){g cap i m : Nat}{cur : Array Value}(hk : Blk w g cur e)(htk : cur.toList.take (l.length * c) = l.flatMap f)(hi : i <= l.length)(hm : 0 < m)(hg : cap < i + m)(hroom:(i+m)*bytes<=140737488355328) (h63:i+m<=maxLen):∃ Z : List Value, Z.length = (grownCap w (i + m) cap e - i) * c /\ ∀ ty, (Builtin.append_ #[t, tn] ty #[.slice (some ⟨g, 0, none⟩) i cap, .int .i64 m]).run P w = .ok (.slice (some ⟨w.heap.size,0,none⟩) (i+m) (grownCap w (i+m) cap e)) (w.drew.alloc (.cells ((l.take i).flatMap f++Z).toArray e)):=by
 obtain⟨hu,io,z,hio,hz,hsz,hby,hzs⟩:=hT
 have hold:(Builtin.firstCells io.size i (.slice (some ⟨g,0,none⟩) i cap)).run P w.drew=.ok ((l.take i).flatMap f).toArray w.drew:=by
  have h4:=j95 hF.len (l.take i);rw[iA,jf hi] at h4;refine run_firstCells_some w.drew io.size i ⟨g,0,none⟩ i cap _ (by rw[h4,hsz]) (fun j u hj=>?_);have hlt:j<((l.take i).flatMap f).length:=(i4.1 hj).1;rw[kK,jm]
  have h5:(l.flatMap f)[j]? =some u:=by
   conv=>lhs;rw[<-ji i l]
   rw[jz,i8 hlt];exact hj
  rw[<-htk,jB] at h5
  split at h5
  ·show w.cell? _=_;rw[hk.cell,<-h5];simp
  ·cases h5
 have hby':m*bytes<=(i+m)*bytes:=i' _ aa;have hr:=fun ty=>Lib.run_append_grow_zeros w t tn ty e io z .i64 .i64 hu htn hio hz (some ⟨g,0,none⟩) i cap _ hold m hm (by rw[hsz];exact hF.pos) hg (by unfold maxLen at h63;omega) (by rw[hby];omega) (by rw[hby];exact growslice_fits hg hroom);have hge:=lJ w (i+m) cap e;refine⟨(Builtin.zeroCells z.cells m).toList++(Builtin.zeroCells z.cells (grownCap w (i+m) cap e-(i+m))).toList,?_,?_⟩
 ·rw[il,Array.length_toList,Array.length_toList,lB,lB,hzs,<-kp];congr 1;omega
 ·intro ty;rw[hr];congr 3;apply Array.ext';simp[iE]
end
end Wb
namespace Go.Proofs.YtlecmdajpfkaeaaGreatDoor
open Go.RowKit Wb
theorem eV{A:Prop}(h:A:=by
 go_wp2_with (at_builtin;refine j62 rfl _ _ 45 rfl base _ 2 24 j91 j53 h.out rfl [x] hrx.out rfl ah aW hbase ?_;intro v1 w1 hown1 hg1;obtain⟨a1,cap1,rfl⟩:=hown1.form;have nx:=h.out.belowGrown hbase hg1;simp only[kR1] at hown1)
 go_ret;exact⟨_,rfl,hown1,nx⟩):A:=h
theorem fG{A:Prop}(h:A:=by
 rcases h.2 with ⟨h1,_⟩|⟨g,cap',cur,h1,_⟩
 ·simp only[i9] at h1;exact .inl ⟨h1.1,h1.2.2⟩
 ·simp only[i9] at h1;exact .inr ⟨g,h1.1⟩):A:=h
theorem jt7(l : List Cpy)(i : Nat)(x : Cpy)(v : Value)(vb base : Nat)(w : World)(h : Wb.Own j_3 base 93 2 w v l)(hbase : base <= w.heap.size)(hx : Blk w vb #[.int .i64 x.block, .string x.text] 93)(hvb : v.ownBlock ≠ some vb)(hi : i <= l.length)(hl : l.length <= 1000000) :Calls Tryz.prog 149 #[v,.int .i64 i,.slice (some ⟨vb,0,none⟩) 1 1] w fun e w'=>∃v',e=.returned v'/\Wb.Own j_3 base 93 2 w' v' (l.take i++x::l.drop i)/\Below base w w':=by
 have hrx:RL j_3 w (.slice (some ⟨vb,0,none⟩) 1 1) [x]:=kj5 (e:=93) [x] (by simpa [j_3] using hx) (by simp[maxLen]);by_cases hn:i=l.length
 ·subst hn;have e1:l.take l.length++x::l.drop l.length=l++ [x]:=ag;rw[e1];obtain⟨a,cap,rfl,hc1,hc2⟩:=h.reads.form
  have hg:a=none/\cap=0\/ ∃g,a=some ⟨g,0,none⟩:=by
   exact fG
  replace h:=hid h;replace hrx:=hid hrx;clear hx hvb e1;rcases hg with ⟨rfl,rfl⟩|⟨g,rfl⟩
  ·go_enter Tryz.func149,Tryz.ntmps149;exact eV
  ·by_cases hcc:cap=l.length
   ·subst hcc;go_enter Tryz.func149,Tryz.ntmps149;exact eV
   ·go_enter Tryz.func149,Tryz.ntmps149;exact eV
 ·have hlt:i<l.length:=by omega
  obtain⟨g,cap,cur,rfl,hbg,hkk,hcap,hmax,hsz,htk⟩:=h.row aa;have hne:vb≠g:=fun h2=>hvb (by rw[h2];rfl);have hn1:¬((i:Int)=(l.length:Int)):=aa;have hcells:=k20 j91.len hkk htk hi;have hxc:=fun j u (hj:(j_3 x)[j]? =some u)=>(show w.cell? ⟨vb,0+j,none⟩=some u by rw[hx.cell,jm,<-hj];simp[j_3]);have hdl:=j49 j91.len l i;have hfx:=j91.len x;have hci:¬(cap=i):=aa;have hin:(i:Int)<=(l.length:Int):=aa;have hw1:IntKind.i64.wrap ((i:Int)+1)=(i:Int)+1:=iz _ aa;have hw2:IntKind.i64.wrap ((l.length:Int)+1)=(l.length:Int)+1:=iz _ aa;have ht1:((i:Int)+1).toNat=i+1:=aa;have hb1:(0:Int)<=(i:Int)+1:=aa;have hb3:(i:Int)<=(l.length:Int)+1:=aa;have ht2:((l.length:Int)+1).toNat=l.length+1:=aa;by_cases hroom:l.length+1<=cap
  ·have hci2:¬(cap=i+1):=by omega
   have hz:∀w,(Go.sizeOf 93).run Tryz.prog w=.ok 2 w:=fun w=>by
    obtain⟨io,z,h1,h2,h3,_⟩:=j53.info;simp[Go.sizeOf,typeInfo,h1,h3]
   have hcz:cur.size≠0:=by rw[hsz];have:=i' 2 hroom;omega
   have hov:∀off lb cb,(callFunc 164 #[.slice (some ⟨vb,0,none⟩) 1 1,.slice (some ⟨g,off,none⟩) lb cb]).run Tryz.prog w=.ok (.value (.bool false)) w:=fun off lb cb=>by
    rw[run_callFunc_extern Tryz.func164 af af af (e:=Extern.SlicesOverlaps.overlaps #[45,45] #[4]) af,
     Lib.run_overlaps_apart w 45 4 93 j53.under 2 hz ⟨vb,0,none⟩ ⟨g,off,none⟩ 1 1 lb cb hne 93 93 _ _ b9 cj hcz (hx.free _) (hx.free _)]
    rfl
   obtain⟨cur1,hs1,hk1,hfin⟩:=jg0 (base:=base) j91 hbg hmax hsz htk hi hroom x (w0:=w.drew) hkk
   have hcp1:∀ty dc sc,(Builtin.copy_ #[45,45] ty #[.slice (some ⟨g,(i+1)*2,none⟩) (l.length-i) dc,.slice (some ⟨g,i*2,none⟩) (l.length+1-i) sc]).run Tryz.prog w.drew=.ok _ (w.drew.setCells g ((i+1)*2) ((l.drop i).flatMap j_3)):=fun ty dc sc=>
    j40 j53 w.drew _ ty (cur:=cur) hkk _ _ dc g _ _ sc _ ci hcells (by rw[hdl,hsz];have h5:=j76 (c:=2) (n:=l.length+1) (i:=i+1) aa;have h6:=i' 2 hroom;rw[show l.length+1-(i+1)=l.length-i from aa] at h5;omega) (jC7 j91 _)
   have hcp2:∀ty dc (w1:World),Blk w1 g cur1 93->(∀j u,(j_3 x)[j]? =some u->w1.cell? ⟨vb,0+j,none⟩=some u)->(Builtin.copy_ #[45,45] ty #[.slice (some ⟨g,i*2,none⟩) (l.length+1-i) dc,.slice (some ⟨vb,0,none⟩) 1 1]).run Tryz.prog w1=.ok _ (w1.setCells g (i*2) (j_3 x)):=fun ty dc w1 k1 hs2=>
    j40 j53 w1 _ ty (cur:=cur1) k1 _ _ dc vb 0 1 1 _ (by rw[hfx,show Nat.min 1 (l.length+1-i)=1 from jf aa]) hs2 (by rw[hfx,hs1];have h5:=j76 (c:=2) (n:=cap) (i:=i) aa;have h6:1*2<=(cap-i)*2:=i' _ aa;omega) (fun u hu=>j91.one x u hu)
   have hk1:Blk (w.drew.setCells g ((i+1)*2) ((l.drop i).flatMap j_3)) g cur1 93:=hk1;have hs2:=fun j u hj=>(show(w.drew.setCells g ((i+1)*2) ((l.drop i).flatMap j_3)).cell? ⟨vb,0+j,none⟩=some u from di);have nz1:=Wb.Below.sets g hbg ((l.drop i).flatMap j_3) ((i+1)*2) _ (jW base w).drew;have nz2:=Wb.Below.sets g hbg (j_3 x) (i*2) _ nz1;replace hfin:=hid hfin;replace nz2:=hid nz2;replace hxc:=hid hxc;replace hs2:=hid hs2;replace hk1:=hid hk1;replace hcp1:=hid hcp1;replace hcp2:=hid hcp2;clear hcells hdl htk hsz hkk hcz hz hx h nz1;have hcp2x:=fun ty dc=>hcp2.out ty dc _ hk1.out hs2.out;go_enter Tryz.func149,Tryz.ntmps149
   go_wp2_with (simp only[hov])
   go_region_law (refine jO5 rfl _ _ 45 45 rfl (hcp1.out 3 (cap-(i+1)) (cap-i)) bB bB ?_)
   all_goals go_wp2
   all_goals go_ret
   all_goals exact⟨_,rfl,hfin.out _ hk1.out,nz2.out⟩
  ·obtain rfl:cap=l.length:=by omega
   obtain⟨Z,hZ,hrz⟩:∃Z:List Value,Z.length=(grownCap w (l.length+1) l.length 93-i)*2/\ ∀ty,(Builtin.append_ #[45,3] ty #[.slice (some ⟨g,0,none⟩) i l.length,.int .i64 ((l.length:Int)+1-(i:Int))]).run Tryz.prog w=.ok (.slice (some ⟨w.heap.size,0,none⟩) (l.length+1) (grownCap w (l.length+1) l.length 93)) (w.drew.alloc (.cells ((l.take i).flatMap j_3++Z).toArray 93)):=by
    have e1:i+(l.length+1-i)=l.length+1:=aa;have e2:((l.length+1-i:Nat):Int)=(l.length:Int)+1-(i:Int):=aa;obtain⟨Z,hZ,hq⟩:=jE3 (P:=Tryz.prog) (tn:=3) (cap:=l.length) j91 j53 af w hkk htk hi (show 0<l.length+1-i from aa) aa (by rw[e1];omega) (by rw[e1];unfold maxLen;omega);rw[e1] at hZ hq;rw[e2] at hq;exact⟨Z,hZ,hq⟩
   have hGn:l.length+1<=grownCap w (l.length+1) l.length 93:=lJ w _ _ _;have hGm:grownCap w (l.length+1) l.length 93<=maxLen:=kM w _ _ _ aE;obtain⟨G,hG⟩:∃G,G=grownCap w (l.length+1) l.length 93:=⟨_,rfl⟩;rw[<-hG] at hZ hrz hGn hGm;clear hG;obtain⟨row,hrow⟩:∃row:Array Value,row=((l.take i).flatMap j_3++Z).toArray:=⟨_,rfl⟩;rw[<-hrow] at hrz;have hbw:g<w.heap.size:=Blk.lt (cs:=cur) hkk;have hbv:vb<w.heap.size:=hx.lt;have hk0:Blk (w.drew.alloc (.cells row 93)) w.heap.size row 93:=kk3 w.drew row _;have hk0':Blk ((w.alloc (.cells row 93)).drew) w.heap.size row 93:=(kk3 w row _).drew;have hGi:¬(G=i):=aa;have hGi2:¬(G=i+1):=aa;have hgt:(l.length:Int)<(l.length:Int)+1:=aa;have hin2:i<=l.length+1:=aa;obtain⟨hs0,cur1,hs1,hk1,hfin⟩:=jg_ (base:=base) j91 Z hbase hGm hZ hrow hi hGn x (w0:=w.drew.alloc (.cells row 93)) hk0;obtain⟨W1,hW1⟩:∃W1,W1=w.drew.alloc (.cells row 93):=⟨_,rfl⟩;have hxc1:∀j u,(j_3 x)[j]? =some u->W1.cell? ⟨vb,0+j,none⟩=some u:=fun j u hj=>by rw[hW1,Blk.cell (hx.drew.alloc _),<-hxc j u hj,hx.cell]
   have hk0w:Blk W1 w.heap.size row 93:=by rw[hW1];exact hk0
   have hcpA:∀ty dc,(Builtin.copy_ #[45,45] ty #[.slice (some ⟨w.heap.size,i*2,none⟩) (l.length+1-i) dc,.slice (some ⟨vb,0,none⟩) 1 1]).run Tryz.prog W1=.ok _ (W1.setCells w.heap.size (i*2) (j_3 x)):=fun ty dc=>
    j40 j53 W1 _ ty (cur:=row) hk0w _ _ dc vb 0 1 1 _ (by rw[hfx,show Nat.min 1 (l.length+1-i)=1 from jf aa]) hxc1 (by rw[hfx,hs0];have h5:=j76 (c:=2) (n:=G) (i:=i) aa;have h6:1*2<=(G-i)*2:=i' _ aa;omega) (fun u hu=>j91.one x u hu)
   have hk1w:Blk (W1.setCells w.heap.size (i*2) (j_3 x)).drew w.heap.size cur1 93:=by rw[hW1];exact hk1
   have hcells1:∀j u,((l.drop i).flatMap j_3)[j]? =some u->(W1.setCells w.heap.size (i*2) (j_3 x)).drew.cell? ⟨g,i*2+j,none⟩=some u:=fun j u hj=>by
    rw[show(W1.setCells w.heap.size (i*2) (j_3 x)).drew.cell? ⟨g,i*2+j,none⟩=(W1.setCells w.heap.size (i*2) (j_3 x)).cell? ⟨g,i*2+j,none⟩ from rfl,hW1,Blk.cell (kl0 aa _ _ _ ((show Blk w.drew g cur 93 from hkk).alloc _)),<-Blk.cell hkk];exact hcells j u hj
   have hcpB:∀ty dc sc,(Builtin.copy_ #[45,45] ty #[.slice (some ⟨w.heap.size,(i+1)*2,none⟩) (l.length-i) dc,.slice (some ⟨g,i*2,none⟩) (l.length-i) sc]).run Tryz.prog (W1.setCells w.heap.size (i*2) (j_3 x)).drew=.ok _ ((W1.setCells w.heap.size (i*2) (j_3 x)).drew.setCells w.heap.size ((i+1)*2) ((l.drop i).flatMap j_3)):=fun ty dc sc=>
    j40 j53 (W1.setCells w.heap.size (i*2) (j_3 x)).drew _ ty (cur:=cur1) hk1w _ _ dc g _ _ sc _ cz hcells1 (by rw[hdl,hs1];have h5:=j76 (c:=2) (n:=l.length+1) (i:=i+1) aa;have h6:=i' 2 hGn;rw[show l.length+1-(i+1)=l.length-i from aa] at h5;omega) (jC7 j91 _)
   have hfinw:=hfin _ (show Blk (W1.setCells w.heap.size (i*2) (j_3 x)).drew w.heap.size cur1 93 from hk1w);have nx1:Below base w W1:=cq;have nz2:=Wb.Below.sets w.heap.size hbase ((l.drop i).flatMap j_3) ((i+1)*2) _ (Wb.Below.sets w.heap.size hbase (j_3 x) (i*2) _ nx1).drew;rw[<-hW1] at hrz;replace hfinw:=hid hfinw;replace nz2:=hid nz2;replace hW1:=hid hW1;replace hcpB:=hid hcpB;clear hcells hcells1 hdl htk hsz hkk hx h hfin hxc hxc1 hk0 hk0' hk0w hk1 hk1w hs0 hs1 nx1 hrow hZ;go_enter Tryz.func149,Tryz.ntmps149
   go_wp2_with (at_builtin;refine ju4 rfl _ _ _ _ rfl (hrz _) rfl rfl ?_)
   go_region_law (refine jO5 rfl _ _ 45 45 rfl (hcpB.out 3 (G-(i+1)) (l.length-i)) bB bB ?_)
   all_goals go_wp2
   all_goals go_ret
   all_goals exact⟨_,rfl,hfinw.out,nz2.out⟩
theorem eY{A:Prop}(h:A:=by
 go_wp2_with (at_builtin;refine j62 rfl _ _ 46 rfl base _ 1 8 j9_ j50 h.out rfl [x] hrx.out rfl ah aW hbase ?_;intro v1 w1 hown1 hg1;obtain⟨a1,cap1,rfl⟩:=hown1.form;have nx:=h.out.belowGrown hbase hg1;simp only[kR1] at hown1)
 go_ret;exact⟨_,rfl,hown1,nx⟩):A:=h
theorem jt8(l : List Int)(i : Nat)(x : Int)(v : Value)(vb base : Nat)(w : World)(h : Wb.Own j_9 base 3 1 w v l)(hbase : base <= w.heap.size)(hx : Blk w vb #[.int .i64 x] 3)(hvb : v.ownBlock ≠ some vb)(hi : i <= l.length)(hl : l.length <= 1000000) :Calls Tryz.prog 129 #[v,.int .i64 i,.slice (some ⟨vb,0,none⟩) 1 1] w fun e w'=>∃v',e=.returned v'/\Wb.Own j_9 base 3 1 w' v' (l.take i++x::l.drop i)/\Below base w w':=by
 have hrx:RL j_9 w (.slice (some ⟨vb,0,none⟩) 1 1) [x]:=kj5 (e:=3) [x] (by simpa [j_9] using hx) (by simp[maxLen]);by_cases hn:i=l.length
 ·subst hn;have e1:l.take l.length++x::l.drop l.length=l++ [x]:=ag;rw[e1];obtain⟨a,cap,rfl,hc1,hc2⟩:=h.reads.form
  have hg:a=none/\cap=0\/ ∃g,a=some ⟨g,0,none⟩:=by
   exact fG
  replace h:=hid h;replace hrx:=hid hrx;clear hx hvb e1;rcases hg with ⟨rfl,rfl⟩|⟨g,rfl⟩
  ·go_enter Tryz.func129,Tryz.ntmps129;exact eY
  ·by_cases hcc:cap=l.length
   ·subst hcc;go_enter Tryz.func129,Tryz.ntmps129;exact eY
   ·go_enter Tryz.func129,Tryz.ntmps129;exact eY
 ·have hlt:i<l.length:=by omega
  obtain⟨g,cap,cur,rfl,hbg,hkk,hcap,hmax,hsz,htk⟩:=h.row aa;have hne:vb≠g:=fun h2=>hvb (by rw[h2];rfl);have hn1:¬((i:Int)=(l.length:Int)):=aa;have hcells:=k20 j9_.len hkk htk hi;have hxc:=fun j u (hj:(j_9 x)[j]? =some u)=>(show w.cell? ⟨vb,0+j,none⟩=some u by rw[hx.cell,jm,<-hj];simp[j_9]);have hdl:=j49 j9_.len l i;have hfx:=j9_.len x;have hci:¬(cap=i):=aa;have hin:(i:Int)<=(l.length:Int):=aa;have hw1:IntKind.i64.wrap ((i:Int)+1)=(i:Int)+1:=iz _ aa;have hw2:IntKind.i64.wrap ((l.length:Int)+1)=(l.length:Int)+1:=iz _ aa;have ht1:((i:Int)+1).toNat=i+1:=aa;have hb1:(0:Int)<=(i:Int)+1:=aa;have hb3:(i:Int)<=(l.length:Int)+1:=aa;have ht2:((l.length:Int)+1).toNat=l.length+1:=aa;by_cases hroom:l.length+1<=cap
  ·have hci2:¬(cap=i+1):=by omega
   have hz:∀w,(Go.sizeOf 3).run Tryz.prog w=.ok 1 w:=fun w=>by
    obtain⟨io,z,h1,h2,h3,_⟩:=j50.info;simp[Go.sizeOf,typeInfo,h1,h3]
   have hcz:cur.size≠0:=by rw[hsz];have:=i' 1 hroom;omega
   have hov:∀off lb cb,(callFunc 154 #[.slice (some ⟨vb,0,none⟩) 1 1,.slice (some ⟨g,off,none⟩) lb cb]).run Tryz.prog w=.ok (.value (.bool false)) w:=fun off lb cb=>by
    rw[run_callFunc_extern Tryz.func154 af af af (e:=Extern.SlicesOverlaps.overlaps #[46,46] #[4]) af,
     Lib.run_overlaps_apart w 46 4 3 j50.under 1 hz ⟨vb,0,none⟩ ⟨g,off,none⟩ 1 1 lb cb hne 3 3 _ _ b9 cj hcz (hx.free _) (hx.free _)]
    rfl
   obtain⟨cur1,hs1,hk1,hfin⟩:=jg0 (base:=base) j9_ hbg hmax hsz htk hi hroom x (w0:=w.drew) hkk
   have hcp1:∀ty dc sc,(Builtin.copy_ #[46,46] ty #[.slice (some ⟨g,(i+1)*1,none⟩) (l.length-i) dc,.slice (some ⟨g,i*1,none⟩) (l.length+1-i) sc]).run Tryz.prog w.drew=.ok _ (w.drew.setCells g ((i+1)*1) ((l.drop i).flatMap j_9)):=fun ty dc sc=>
    j40 j50 w.drew _ ty (cur:=cur) hkk _ _ dc g _ _ sc _ ci hcells (by rw[hdl,hsz];have h5:=j76 (c:=1) (n:=l.length+1) (i:=i+1) aa;have h6:=i' 1 hroom;rw[show l.length+1-(i+1)=l.length-i from aa] at h5;omega) (jC7 j9_ _)
   have hcp2:∀ty dc (w1:World),Blk w1 g cur1 3->(∀j u,(j_9 x)[j]? =some u->w1.cell? ⟨vb,0+j,none⟩=some u)->(Builtin.copy_ #[46,46] ty #[.slice (some ⟨g,i*1,none⟩) (l.length+1-i) dc,.slice (some ⟨vb,0,none⟩) 1 1]).run Tryz.prog w1=.ok _ (w1.setCells g (i*1) (j_9 x)):=fun ty dc w1 k1 hs2=>
    j40 j50 w1 _ ty (cur:=cur1) k1 _ _ dc vb 0 1 1 _ (by rw[hfx,show Nat.min 1 (l.length+1-i)=1 from jf aa]) hs2 (by rw[hfx,hs1];have h5:=j76 (c:=1) (n:=cap) (i:=i) aa;have h6:1*1<=(cap-i)*1:=i' _ aa;omega) (fun u hu=>j9_.one x u hu)
   have hk1:Blk (w.drew.setCells g ((i+1)*1) ((l.drop i).flatMap j_9)) g cur1 3:=hk1;have hs2:=fun j u hj=>(show(w.drew.setCells g ((i+1)*1) ((l.drop i).flatMap j_9)).cell? ⟨vb,0+j,none⟩=some u from di);have nz1:=Wb.Below.sets g hbg ((l.drop i).flatMap j_9) ((i+1)*1) _ (jW base w).drew;have nz2:=Wb.Below.sets g hbg (j_9 x) (i*1) _ nz1;(try simp only[jA] at hfin);(try simp only[jA] at nz2);(try simp only[jA] at hs2);(try simp only[jA] at hk1);(try simp only[jA] at hcp1);(try simp only[jA] at hcp2);replace hfin:=hid hfin;replace nz2:=hid nz2;replace hxc:=hid hxc;replace hs2:=hid hs2;replace hk1:=hid hk1;replace hcp1:=hid hcp1;replace hcp2:=hid hcp2;clear hcells hdl htk hsz hkk hcz hz hx h nz1;have hcp2x:=fun ty dc=>hcp2.out ty dc _ hk1.out hs2.out;go_enter Tryz.func129,Tryz.ntmps129
   go_wp2_with (simp only[hov])
   go_region_law (refine jO5 rfl _ _ 46 46 rfl (hcp1.out 3 (cap-(i+1)) (cap-i)) bB bB ?_)
   all_goals go_wp2
   all_goals go_ret
   all_goals exact⟨_,rfl,hfin.out _ hk1.out,nz2.out⟩
  ·obtain rfl:cap=l.length:=by omega
   obtain⟨Z,hZ,hrz⟩:∃Z:List Value,Z.length=(grownCap w (l.length+1) l.length 3-i)*1/\ ∀ty,(Builtin.append_ #[46,3] ty #[.slice (some ⟨g,0,none⟩) i l.length,.int .i64 ((l.length:Int)+1-(i:Int))]).run Tryz.prog w=.ok (.slice (some ⟨w.heap.size,0,none⟩) (l.length+1) (grownCap w (l.length+1) l.length 3)) (w.drew.alloc (.cells ((l.take i).flatMap j_9++Z).toArray 3)):=by
    have e1:i+(l.length+1-i)=l.length+1:=aa;have e2:((l.length+1-i:Nat):Int)=(l.length:Int)+1-(i:Int):=aa;obtain⟨Z,hZ,hq⟩:=jE3 (P:=Tryz.prog) (tn:=3) (cap:=l.length) j9_ j50 af w hkk htk hi (show 0<l.length+1-i from aa) aa (by rw[e1];omega) (by rw[e1];unfold maxLen;omega);rw[e1] at hZ hq;rw[e2] at hq;exact⟨Z,hZ,hq⟩
   have hGn:l.length+1<=grownCap w (l.length+1) l.length 3:=lJ w _ _ _;have hGm:grownCap w (l.length+1) l.length 3<=maxLen:=kM w _ _ _ aE;obtain⟨G,hG⟩:∃G,G=grownCap w (l.length+1) l.length 3:=⟨_,rfl⟩;rw[<-hG] at hZ hrz hGn hGm;clear hG;obtain⟨row,hrow⟩:∃row:Array Value,row=((l.take i).flatMap j_9++Z).toArray:=⟨_,rfl⟩;rw[<-hrow] at hrz;have hbw:g<w.heap.size:=Blk.lt (cs:=cur) hkk;have hbv:vb<w.heap.size:=hx.lt;have hk0:Blk (w.drew.alloc (.cells row 3)) w.heap.size row 3:=kk3 w.drew row _;have hk0':Blk ((w.alloc (.cells row 3)).drew) w.heap.size row 3:=(kk3 w row _).drew;have hGi:¬(G=i):=aa;have hGi2:¬(G=i+1):=aa;have hgt:(l.length:Int)<(l.length:Int)+1:=aa;have hin2:i<=l.length+1:=aa;obtain⟨hs0,cur1,hs1,hk1,hfin⟩:=jg_ (base:=base) j9_ Z hbase hGm hZ hrow hi hGn x (w0:=w.drew.alloc (.cells row 3)) hk0;obtain⟨W1,hW1⟩:∃W1,W1=w.drew.alloc (.cells row 3):=⟨_,rfl⟩;have hxc1:∀j u,(j_9 x)[j]? =some u->W1.cell? ⟨vb,0+j,none⟩=some u:=fun j u hj=>by rw[hW1,Blk.cell (hx.drew.alloc _),<-hxc j u hj,hx.cell]
   have hk0w:Blk W1 w.heap.size row 3:=by rw[hW1];exact hk0
   have hcpA:∀ty dc,(Builtin.copy_ #[46,46] ty #[.slice (some ⟨w.heap.size,i*1,none⟩) (l.length+1-i) dc,.slice (some ⟨vb,0,none⟩) 1 1]).run Tryz.prog W1=.ok _ (W1.setCells w.heap.size (i*1) (j_9 x)):=fun ty dc=>
    j40 j50 W1 _ ty (cur:=row) hk0w _ _ dc vb 0 1 1 _ (by rw[hfx,show Nat.min 1 (l.length+1-i)=1 from jf aa]) hxc1 (by rw[hfx,hs0];have h5:=j76 (c:=1) (n:=G) (i:=i) aa;have h6:1*1<=(G-i)*1:=i' _ aa;omega) (fun u hu=>j9_.one x u hu)
   have hk1w:Blk (W1.setCells w.heap.size (i*1) (j_9 x)).drew w.heap.size cur1 3:=by rw[hW1];exact hk1
   have hcells1:∀j u,((l.drop i).flatMap j_9)[j]? =some u->(W1.setCells w.heap.size (i*1) (j_9 x)).drew.cell? ⟨g,i*1+j,none⟩=some u:=fun j u hj=>by
    rw[show(W1.setCells w.heap.size (i*1) (j_9 x)).drew.cell? ⟨g,i*1+j,none⟩=(W1.setCells w.heap.size (i*1) (j_9 x)).cell? ⟨g,i*1+j,none⟩ from rfl,hW1,Blk.cell (kl0 aa _ _ _ ((show Blk w.drew g cur 3 from hkk).alloc _)),<-Blk.cell hkk];exact hcells j u hj
   have hcpB:∀ty dc sc,(Builtin.copy_ #[46,46] ty #[.slice (some ⟨w.heap.size,(i+1)*1,none⟩) (l.length-i) dc,.slice (some ⟨g,i*1,none⟩) (l.length-i) sc]).run Tryz.prog (W1.setCells w.heap.size (i*1) (j_9 x)).drew=.ok _ ((W1.setCells w.heap.size (i*1) (j_9 x)).drew.setCells w.heap.size ((i+1)*1) ((l.drop i).flatMap j_9)):=fun ty dc sc=>
    j40 j50 (W1.setCells w.heap.size (i*1) (j_9 x)).drew _ ty (cur:=cur1) hk1w _ _ dc g _ _ sc _ cz hcells1 (by rw[hdl,hs1];have h5:=j76 (c:=1) (n:=l.length+1) (i:=i+1) aa;have h6:=i' 1 hGn;rw[show l.length+1-(i+1)=l.length-i from aa] at h5;omega) (jC7 j9_ _)
   have hfinw:=hfin _ (show Blk (W1.setCells w.heap.size (i*1) (j_9 x)).drew w.heap.size cur1 3 from hk1w);have nx1:Below base w W1:=cq;have nz2:=Wb.Below.sets w.heap.size hbase ((l.drop i).flatMap j_9) ((i+1)*1) _ (Wb.Below.sets w.heap.size hbase (j_9 x) (i*1) _ nx1).drew;rw[<-hW1] at hrz;(try simp only[jA] at hfinw);(try simp only[jA] at nz2);(try simp only[jA] at hcpA);(try simp only[jA] at hcpB);replace hfinw:=hid hfinw;replace nz2:=hid nz2;replace hW1:=hid hW1;replace hcpB:=hid hcpB;clear hcells hcells1 hdl htk hsz hkk hx h hfin hxc hxc1 hk0 hk0' hk0w hk1 hk1w hs0 hs1 nx1 hrow hZ;go_enter Tryz.func129,Tryz.ntmps129
   go_wp2_with (at_builtin;refine ju4 rfl _ _ _ _ rfl (hrz _) rfl rfl ?_)
   go_region_law (refine jO5 rfl _ _ 46 46 rfl (hcpB.out 3 (G-(i+1)) (l.length-i)) bB bB ?_)
   all_goals go_wp2
   all_goals go_ret
   all_goals exact⟨_,rfl,hfinw.out,nz2.out⟩
theorem gC{A:Prop}(h:A:=by
 go_roundg (l.length-(j+1))
 case measure=>omega
 case rel=>exact⟨i,j+1,lk,rfl,an,aa,aa,iy _,nx2,hcw2,ho2,hK2⟩):A:=h
theorem gQ{A:Prop}(h:A:=by
 have hil:(i:Int)<=(l.length:Int):=aa;have hci:¬(cap=i):=aa;go_wp2;go_ret;exact⟨_,rfl,hfin.out,nz.out⟩):A:=h
theorem jI0(l : List Int)(b : Int)(v : Value)(gb base : Nat)(w : World)(h : Wb.Own j_9 base 3 1 w v l)(hbase : base <= w.heap.size)(hgb : gb < base)(hc : w.cell? ⟨gb, 0, none⟩ = some (.int .i64 b))(hl : l.length <= 17592186044160) :Calls Tryz.prog 124 #[v,.func (.func 125) #[] #[.pointer (some ⟨gb,0,none⟩)]] w fun e w'=>∃v',e=.returned v'/\Wb.Own j_9 base 3 1 w' v' (l.filter (fun x=> !(x==b)))/\Below base w w':=by
 have hIF:=jF_ l b v gb w h.reads hc hl;rcases jh9 (fun x=>x) l b with ⟨e1,hno⟩|⟨k,e1,hk,hkb,hno⟩
 ·rw[e1] at hIF;have e2:l.filter (fun x=> !(x==b))=l:=jr8 (fun i hi=>by simpa using hno i hi);rw[e2];obtain⟨a,cap,rfl⟩:=h.form;replace hIF:=hid hIF;replace h:=hid h;clear e1 e2 hno;go_enter Tryz.func124,Tryz.ntmps124
  go_wp2_with (go_at_call 148;((with_reducible refine hIF.out.mono ?_);rintro e w1 ⟨rfl,hb1⟩))
  go_ret;exact⟨_,rfl,h.out.below hb1,hb1.mono hbase⟩
 ·rw[e1] at hIF;have hK0:jX8 (fun x=> !(x==b)) l (k+1) k l:=kk8 hk (fun i hi h2=>by simpa using hno i h2) (by simpa using hkb);obtain⟨g,cap,cur,rfl,hbg,hkk,hcap,hmax,hsz,htk⟩:=h.row aa;have hC:=hid (fun x w hc=>ju1 x b gb w hc);have hne1:((k:Int)== -1)=false:=ik.2 aa;have hKp:Hid (jX8 (fun x=> !(x==b)) l (k+1) k l):=hid hK0;have hle:=hKp.out.le;replace hIF:=hid hIF;replace h:=hid h;replace hc:=hid hc;clear e1 hno hkb hK0 hkk hsz htk cur;go_enter Tryz.func124,Tryz.ntmps124
  go_wp2_with (go_at_call 148;((with_reducible refine hIF.out.mono ?_);rintro e w1 ⟨rfl,hb1⟩;have h1:=hid (h.out.below hb1);have hc1:=hid (j_5 hb1 hc.out);have nx:=hb1.mono hbase;clear h hc hIF))
  go_loopg [5,6,7] l.length (fun gg s5 s6 _ wr=>∃(i j:Nat) (lk:List Int),s5=.int .i64 i/\s6=.int .i64 j/\j<=l.length/\i<j/\l.length-j<=gg/\Below base w wr/\Hid (wr.cell? ⟨gb,0,none⟩=some (.int .i64 b))/\Hid (Wb.Own j_9 base 3 1 wr (.slice (some ⟨g,0,none⟩) l.length cap) lk)/\Hid (jX8 (fun x=> !(x==b)) l j i lk))
  case atStart=>exact⟨k,k+1,l,rfl,an,aa,aa,aa,nx,hc1,h1,hKp⟩
  case round=>
   clear nx hc1 h1 hKp hb1;obtain⟨i,j,lk,rfl,rfl,hjl,hij,hgg,nx,hcw,ho,hK⟩:=hrel;by_cases hlt:j<l.length
   ·obtain⟨hjk,hje⟩:=hK.out.get hlt;obtain⟨b1,o1,hae,c0⟩:=kl6 (fun x=>.int .i64 x) (fun _=>rfl) ho.out.reads hjk;simp only[iO,jJ,jy] at hae;obtain⟨rfl,rfl⟩:=hae;rw[hje] at c0;simp only[jm] at c0;have hCx:=hC.out l[j] wr hcw.out;by_cases hb:l[j]=b
    ·have hK2:=hid (hK.out.skip hlt dC);have e1:(l[j]==b)=true:=iT.2 hb;rw[e1] at hCx;replace hCx:=hid hCx;clear hb e1 hK hje;generalize l[j]=x at*
     go_wp2_with (go_at_call 125;((with_reducible refine hCx.out.mono ?_);rintro e w1 ⟨rfl,hb1⟩;have ho2:=hid (ho.out.below hb1);have hcw2:=hid (j_5 hb1 hcw.out);have nx2:=nx.trans (hb1.mono (i3 hbase nx.size))))
     exact gC
    ·have hK2:=hid (hK.out.keep hlt dC);have hil:i<lk.length:=aa;have e1:(l[j]==b)=false:=ik.2 hb;rw[e1] at hCx;replace hCx:=hid hCx;clear hb e1 hK hje;have hin:i<l.length:=aa;generalize l[j]=x at*
     go_wp2_with (go_at_call 125;((with_reducible refine hCx.out.mono ?_);rintro e w1 ⟨rfl,hb1⟩;have ho2:=ho.out.below hb1;have hcw2:=hid (j_5 hb1 hcw.out);have nx2:=nx.trans (hb1.mono (i3 hbase nx.size));obtain⟨g2,cap2,hv2,hb2,hg2,hq,hnew⟩:=Own.poke j9_ ho2 hil;simp only[i9,iO,jJ,jy,jF] at hv2;obtain⟨rfl, -,rfl⟩:=hv2;have q0:=(hq 0 ae).1;have q1:=(hq 0 ae).2;simp only[j_9,jA,Nat.add_zero,List.getElem?_cons_zero] at q0 q1;replace hnew:=hid hnew;clear hq))
     go_roundg (l.length-(j+1))
     case measure=>omega
     case rel=>exact⟨i+1,j+1,lk.set i x,an,an,aa,aa,iy _,nx2.setCell hbg _,hid (by rw[lQ _ _ _ _ (fun hh=>dw)];exact hcw2.out),hid (by have:=hnew.out 0 x (.int .i64 x) ae rfl;rw[jA,Nat.add_zero] at this;exact this),hK2⟩
   ·obtain rfl:j=l.length:=by omega
    obtain⟨hd1,hd2⟩:=hK.out.done (iy _);have hlk:=hK.out.1;have hcut:=hid (fun zs hz=>km9 (i:=i) j9_ (by rw[hlk];exact ho.out) aa zs hz);obtain⟨g',cap',cur',hv',hbg',hkk,hcap',hmax',hsz,htk⟩:=ho.out.row aa;simp only[i9,iO,jJ,jy,jF] at hv';obtain⟨rfl, -,rfl⟩:=hv'
    have hcl:∀ty,(Builtin.clear_ #[46] ty #[.slice (some ⟨g,i,none⟩) (l.length-i) (cap-i)]).run Tryz.prog wr=.ok (.tuple #[]) (wr.setCells g (i) (Builtin.zeroCells (.int .i64 0:Value).cells (l.length-i)).toList):=
     fun ty=>jv1 wr _ _ ty (.int .i64 0) j50.under (fun _=>rfl) ae ae g _ _ _ aa
      (fun t ht=>bF) (fun t ht=>hkk.free _)
    have hzl:i*1+(Builtin.zeroCells (.int .i64 0:Value).cells (l.length-i)).toList.length<=l.length*1:=by
     rw[Array.length_toList,lB];have:=j76 (c:=1) (n:=l.length) (i:=i) aa;simp only[Value.cells] at this⊢;simp;omega
    have hfin:=hcut.out _ (by rw[hlk];exact hzl);rw[hd1] at hfin;have nz:=Wb.Below.sets g hbg (Builtin.zeroCells (.int .i64 0:Value).cells (l.length-i)).toList (i*1) _ nx;simp only[jA] at hfin nz;replace hfin:=hid hfin;replace nz:=hid nz;clear hcut hkk hsz htk hzl hK ho hd1 hd2 hlk;generalize (Builtin.zeroCells (.int .i64 0:Value).cells (l.length-i)).toList=zs at*;exact gQ
end Go.Proofs.YtlecmdajpfkaeaaGreatDoor
namespace Wb
open Go Go.RowKit
theorem kk_{base : Nat}{e : TypeId}{w : World}{v : Value}{l : List Cpy}(h : Own j_3 base e 2 w v l){k : Nat}(hk : k < l.length)(x : Cpy) :∃ g cap, v = .slice (some ⟨g, 0, none⟩) l.length cap /\ base <= g /\ g < w.heap.size /\ (w.frozen? ⟨g, k * 2, none⟩ = false /\ w.cell? ⟨g, k * 2, none⟩ = some (.int .i64 l[k].block)) /\ (w.frozen? ⟨g, k * 2 + 1, none⟩ = false /\ w.cell? ⟨g, k * 2 + 1, none⟩ = some (.string l[k].text)) /\Own j_3 base e 2 ((w.setCell ⟨g,k*2,none⟩ (.int .i64 x.block)).setCell ⟨g,k*2+1,none⟩ (.string x.text)) v (l.set k x):=by
 obtain⟨g,cap,rfl,hb,hg,hq,hnew⟩:=Own.poke j91 h hk;have h1:=hnew 0 ⟨x.block,l[k].text⟩ (.int .i64 x.block) ae rfl;rw[Nat.add_zero] at h1;have hk2:k<(l.set k ⟨x.block,l[k].text⟩).length:=dD;obtain⟨g2,cap2,hv,_,_,_,hnew2⟩:=Own.poke j91 h1 hk2;simp only[i9,iO,jJ,jy,jF] at hv;obtain⟨rfl, -,rfl⟩:=hv;have h2:=hnew2 1 x (.string x.text) ae (by simp[j_3]);rw[List.set_set] at h2;have q0:=hq 0 ae;have q1:=hq 1 ae;rw[Nat.add_zero] at q0;exact⟨g,cap,rfl,hb,hg,⟨q0.1,q0.2⟩,⟨q1.1,q1.2⟩,h2⟩
end Wb
namespace Go.Proofs.YtlecmdajpfkaeaaGreatDoor
open Go.RowKit Wb
theorem jI_(l : List Cpy)(b : Int)(v : Value)(gb base : Nat)(w : World)(h : Wb.Own j_3 base 93 2 w v l)(hbase : base <= w.heap.size)(hgb : gb < base)(hc : w.cell? ⟨gb, 0, none⟩ = some (.int .i64 b))(hl : l.length <= 5864062014805) :Calls Tryz.prog 150 #[v,.func (.func 151) #[] #[.pointer (some ⟨gb,0,none⟩)]] w fun e w'=>∃v',e=.returned v'/\Wb.Own j_3 base 93 2 w' v' (l.filter (fun x=> !(x.block==b)))/\Below base w w':=by
 have hIF:=jG9 l b v gb w h.reads hc hl;rcases jh9 (fun x=>x.block) l b with ⟨e1,hno⟩|⟨k,e1,hk,hkb,hno⟩
 ·rw[e1] at hIF;have e2:l.filter (fun x=> !(x.block==b))=l:=jr8 (fun i hi=>by simpa using hno i hi);rw[e2];obtain⟨a,cap,rfl⟩:=h.form;replace hIF:=hid hIF;replace h:=hid h;clear e1 e2 hno;go_enter Tryz.func150,Tryz.ntmps150
  go_wp2_with (go_at_call 166;((with_reducible refine hIF.out.mono ?_);rintro e w1 ⟨rfl,hb1⟩))
  go_ret;exact⟨_,rfl,h.out.below hb1,hb1.mono hbase⟩
 ·rw[e1] at hIF;have hK0:jX8 (fun x=> !(x.block==b)) l (k+1) k l:=kk8 hk (fun i hi h2=>by simpa using hno i h2) (by simpa using hkb);obtain⟨g,cap,cur,rfl,hbg,hkk,hcap,hmax,hsz,htk⟩:=h.row aa;have hC:=hid (fun x w hc=>jc3 x b gb w hc);have hne1:((k:Int)== -1)=false:=ik.2 aa;have hKp:Hid (jX8 (fun x=> !(x.block==b)) l (k+1) k l):=hid hK0;have hle:=hKp.out.le;replace hIF:=hid hIF;replace h:=hid h;replace hc:=hid hc;clear e1 hno hkb hK0 hkk hsz htk cur;go_enter Tryz.func150,Tryz.ntmps150
  go_wp2_with (go_at_call 166;((with_reducible refine hIF.out.mono ?_);rintro e w1 ⟨rfl,hb1⟩;have h1:=hid (h.out.below hb1);have hc1:=hid (j_5 hb1 hc.out);have nx:=hb1.mono hbase;clear h hc hIF))
  go_loopg [5,6,7] l.length (fun gg s5 s6 _ wr=>∃(i j:Nat) (lk:List Cpy),s5=.int .i64 i/\s6=.int .i64 j/\j<=l.length/\i<j/\l.length-j<=gg/\Below base w wr/\Hid (wr.cell? ⟨gb,0,none⟩=some (.int .i64 b))/\Hid (Wb.Own j_3 base 93 2 wr (.slice (some ⟨g,0,none⟩) l.length cap) lk)/\Hid (jX8 (fun x=> !(x.block==b)) l j i lk))
  case atStart=>exact⟨k,k+1,l,rfl,an,aa,aa,aa,nx,hc1,h1,hKp⟩
  case round=>
   clear nx hc1 h1 hKp hb1;obtain⟨i,j,lk,rfl,rfl,hjl,hij,hgg,nx,hcw,ho,hK⟩:=hrel;by_cases hlt:j<l.length
   ·obtain⟨hjk,hje⟩:=hK.out.get hlt;obtain⟨b1,o1,hae,c0,c1⟩:=kj3 (fun x=>.int .i64 x.block) (fun x=>.string x.text) (fun _=>rfl) ho.out.reads hjk;simp only[iO,jJ,jy] at hae;obtain⟨rfl,rfl⟩:=hae;rw[hje] at c0 c1;simp only[jm] at c0 c1;have hCx:=fun w' hc=>hC.out l[j] w' hc;by_cases hb:l[j].block=b
    ·have hK2:=hid (hK.out.skip hlt dC);have e1:(l[j].block==b)=true:=iT.2 hb;rw[e1] at hCx;replace hCx:=hid hCx;clear hb e1 hK hje;generalize l[j]=x at*
     go_wp2_with (go_at_call 151;((with_reducible refine(hCx.out _ (j_5 (bal (b0 wr) (.cells #[.int .i64 x.block,.string x.text] 93)) hcw.out)).mono ?_);rintro e w1 ⟨rfl,hb1⟩;have hb2:=bgo (bal (b0 wr) (.cells #[.int .i64 x.block,.string x.text] 93)) hb1;have ho2:=hid (ho.out.below hb2);have hcw2:=hid (j_5 hb2 hcw.out);have nx2:=nx.trans (hb2.mono (i3 hbase nx.size))))
     exact gC
    ·have hK2:=hid (hK.out.keep hlt dC);have hil:i<lk.length:=aa;have e1:(l[j].block==b)=false:=ik.2 hb;rw[e1] at hCx;replace hCx:=hid hCx;clear hb e1 hK hje;have hin:i<l.length:=aa;generalize l[j]=x at*
     go_wp2_with (go_at_call 151;((with_reducible refine(hCx.out _ (j_5 (bal (b0 wr) (.cells #[.int .i64 x.block,.string x.text] 93)) hcw.out)).mono ?_);rintro e w1 ⟨rfl,hb1⟩;have hb2:=bgo (bal (b0 wr) (.cells #[.int .i64 x.block,.string x.text] 93)) hb1;have kb:=(kk3 wr #[.int .i64 x.block,.string x.text] 93).step hb1;have p0:=kb.cell 0;have p1:=kb.cell 1;simp only[Zga,Zgb,Zgc] at p0 p1;have ho2:=ho.out.below hb2;have hcw2:=hid (j_5 hb2 hcw.out);have nx2:=nx.trans (hb2.mono (i3 hbase nx.size));obtain⟨g2,cap2,hv2,hbb2,hgg2,⟨z0,y0⟩,⟨z1,y1⟩,hnew⟩:=kk_ ho2 hil x;simp only[i9,iO,jJ,jy,jF] at hv2;obtain⟨rfl, -,rfl⟩:=hv2;replace hnew:=hid hnew;clear kb ho2 ho))
     go_roundg (l.length-(j+1))
     case measure=>omega
     case rel=>exact⟨i+1,j+1,lk.set i x,an,an,aa,aa,iy _,(nx2.setCell hbg _).setCell hbg _,hid (by rw[lQ _ _ _ _ (fun hh=>dw),lQ _ _ _ _ (fun hh=>dw)];exact hcw2.out),hid (hnew.out),hK2⟩
   ·obtain rfl:j=l.length:=by omega
    obtain⟨hd1,hd2⟩:=hK.out.done (iy _);have hlk:=hK.out.1;have hcut:=hid (fun zs hz=>km9 (i:=i) j91 (by rw[hlk];exact ho.out) aa zs hz);obtain⟨g',cap',cur',hv',hbg',hkk,hcap',hmax',hsz,htk⟩:=ho.out.row aa;simp only[i9,iO,jJ,jy,jF] at hv';obtain⟨rfl, -,rfl⟩:=hv'
    have hcl:∀ty,(Builtin.clear_ #[45] ty #[.slice (some ⟨g,i*2,none⟩) (l.length-i) (cap-i)]).run Tryz.prog wr=.ok (.tuple #[]) (wr.setCells g (i*2) (Builtin.zeroCells (.agg #[.int .i64 0,.string ⟨#[]⟩]:Value).cells (l.length-i)).toList):=
     fun ty=>jv1 wr _ _ ty (.agg #[.int .i64 0,.string ⟨#[]⟩]) j53.under (fun _=>rfl) ae ae g _ _ _ aa
      (fun t ht=>bF) (fun t ht=>hkk.free _)
    have hzl:i*2+(Builtin.zeroCells (.agg #[.int .i64 0,.string ⟨#[]⟩]:Value).cells (l.length-i)).toList.length<=l.length*2:=by
     rw[Array.length_toList,lB];have:=j76 (c:=2) (n:=l.length) (i:=i) aa;simp only[Value.cells] at this⊢;simp;omega
    have hfin:=hcut.out _ (by rw[hlk];exact hzl);rw[hd1] at hfin;have nz:=Wb.Below.sets g hbg (Builtin.zeroCells (.agg #[.int .i64 0,.string ⟨#[]⟩]:Value).cells (l.length-i)).toList (i*2) _ nx;skip;replace hfin:=hid hfin;replace nz:=hid nz;clear hcut hkk hsz htk hzl hK ho hd1 hd2 hlk;generalize (Builtin.zeroCells (.agg #[.int .i64 0,.string ⟨#[]⟩]:Value).cells (l.length-i)).toList=zs at*;exact gQ
end Go.Proofs.YtlecmdajpfkaeaaGreatDoor