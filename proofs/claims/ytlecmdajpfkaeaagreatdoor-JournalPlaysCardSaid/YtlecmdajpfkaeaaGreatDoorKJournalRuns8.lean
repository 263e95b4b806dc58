/- Parts of the proof. -/
import Derived.Test.YtlecmdajpfkaeaaGreatDoorKJournalRuns7
import Derived.Shelf.Strings.Repeat
import Derived.Shelf.Slices.Clone
import Derived.Deep.RegionHeld3
set_option linter.unusedVariables false
set_option linter.unusedSimpArgs false
set_option maxRecDepth 100000
set_option maxHeartbeats 40000000
namespace Wb
open Go Go.RowKit
theorem kK8(t:Txn)(h n f:Int):(begT t h n f).mt=t.mt/\(begT t h n f).dt=t.dt/\(begT t h n f).rev=t.rev:=by
 unfold begT;split
 ·exact(jZ2 _ _ _).2
 ·exact⟨rfl,rfl,rfl⟩
theorem kM_(t:Txn)(h:Int):(stopT t h).mt=t.mt/\(stopT t h).dt=t.dt/\(stopT t h).rev=t.rev:=by
 unfold stopT;split
 ·exact(jZ2 _ _ _).2
 ·exact⟨rfl,rfl,rfl⟩
def k13(K r:Int):Prop:=K=0/\r=2\/K=1/\r=1\/K=2/\r=0
instance{K r:Int}:Decidable (k13 K r):=by unfold k13;infer_instance
def toK(K:Int):Int:=if K=0 then 1 else if K=1 then 2 else 0
theorem kN8(f:Int->Int)(b:Int):jV_ f b (f b)=f:=by
 funext x;unfold jV_
 split
 ·rename_i h;rw[h]
 ·rfl
variable{j:Jn}{a:Aj}
theorem kt6(hk:a.kind=1):j98 j a=({j with now:=begT j.now a.h a.n (24-j.ring.used)},begE j.now a.h a.n (24-j.ring.used)):=by
 have e1:jN7 j a=begE j.now a.h a.n (24-j.ring.used):=by unfold jN7;rw[ij hk];rfl
 have e2:jK0 j a=begT j.now a.h a.n (24-j.ring.used):=by unfold jK0;rw[ij hk];rfl
 have e3:jZ6 j a=jS6 j a.b:=by unfold jZ6;rw[ii aa,ii aa,ii aa]
 unfold j98;rw[e1,e2,e3]
 split
 ·rename_i h;rw[ii (fun h=>h.2 rfl),ii aa,h]
 ·rename_i h;unfold begT;rw[ii h]
theorem kA9(hk:a.kind=5):j98 j a=({j with now:=stopT j.now a.h},stopE j.now a.h):=by
 have e1:jN7 j a=stopE j.now a.h:=by unfold jN7;rw[ii aa,ij hk]
 have e2:jK0 j a=stopT j.now a.h:=by unfold jK0;rw[ii aa,ij hk]
 have e3:jZ6 j a=jS6 j a.b:=by unfold jZ6;rw[ii aa,ii aa,ii aa]
 unfold j98;rw[e1,e2,e3]
 split
 ·rename_i h;rw[ii (fun h=>h.2 rfl),ii aa,h]
 ·rename_i h;unfold stopT;rw[ii h]
variable{K:Int}
theorem kn7(hk:a.kind=K+2)(hK:K=0\/K=1\/K=2):jK0 j a=alT K j.now a.h a.b (fit a.text)/\jZ6 j a=toK K:=by
 unfold jK0 jZ6 alT toK;rcases hK with rfl|rfl|rfl<;>simp[hk]
theorem ko6(hk:a.kind=K+2)(hK:K=0\/K=1\/K=2)(hc:alE K j.now a.h a.b (fit a.text)=0):jN7 j a=if k13 K (jS6 j a.b) then 8 else if K=1/\j.last<j.freed a.b then 9 else 0:=by
 unfold alE at hc;unfold jN7 k13 orE;rcases hK with rfl|rfl|rfl
 ·simp only[↓reduceIte] at hc;simp[hk,hc]
 ·simp only[Int.reduceEq, ↓reduceIte] at hc;simp only[hk,hc,Int.reduceAdd,Int.reduceEq, ↓reduceIte,jF,false_and,false_or,or_false]
  split<;>rename_i h<;>simp
 ·simp only[Int.reduceEq, ↓reduceIte] at hc;simp[hk,hc]
theorem ko7(hk:a.kind=K+2)(hK:K=0\/K=1\/K=2)(hc:¬alE K j.now a.h a.b (fit a.text)=0):j98 j a=(j,alE K j.now a.h a.b (fit a.text)):=by
 have e:jN7 j a=alE K j.now a.h a.b (fit a.text):=by
  unfold alE at hc⊢;unfold jN7 orE;rcases hK with rfl|rfl|rfl<;>simp only[Int.reduceEq, ↓reduceIte] at hc<;>simp[hk,hc]
 unfold j98;rw[e,ii hc]
theorem kt5(hk:a.kind=K+2)(hK:K=0\/K=1\/K=2)(hc:alE K j.now a.h a.b (fit a.text)=0)(hb:k13 K (jS6 j a.b)):j98 j a=(j,8):=by
 have e:=ko6 hk hK hc;rw[ij hb] at e;unfold j98;rw[e,ii ae]
theorem kA8(hk:a.kind=K+2)(hK:K=0\/K=1\/K=2)(hc:alE K j.now a.h a.b (fit a.text)=0)(hb:¬k13 K (jS6 j a.b))(hf:K=1/\j.last<j.freed a.b):j98 j a=(j,9):=by
 have e:=ko6 hk hK hc;rw[ii hb,ij hf] at e;unfold j98;rw[e,ii ae]
theorem ko8(hk : a.kind = K + 2)(hK : K = 0 \/ K = 1 \/ K = 2)(hc : alE K j.now a.h a.b (fit a.text) = 0)(hb : ¬ k13 K (jS6 j a.b))(hf : ¬ (K = 1 /\ j.last < j.freed a.b)) :j98 j a=({j with now:=alT K j.now a.h a.b (fit a.text),roles:=jV_ j.roles a.b (toK K),freed:=if K=2 then jV_ j.freed a.b (alT K j.now a.h a.b (fit a.text)).seq else j.freed},0):=by
 have e:=ko6 hk hK hc;rw[ii hb,ii hf] at e;have hbl:=kD8 hc;unfold j98;rw[ij e,(kn7 hk hK).1,(kn7 hk hK).2]
 have e2:(if isBlk a.b=true/\toK K≠jS6 j a.b then jV_ j.roles a.b (toK K) else j.roles)=jV_ j.roles a.b (toK K):=by
  split
  ·rfl
  ·rename_i h;have:toK K=jS6 j a.b:=jL fun h2=>h ⟨hbl,h2⟩;rw[this];unfold jS6;rw[ij hbl,kN8]
 have e3:(a.kind=4)=(K=2):=by rw[hk];exact propext ⟨fun h=>aa,fun h=>aa⟩
 rw[e2];simp only[e3]
section
variable{P:Program}{ops:Array Oper}{Q:Exit->Act->World->Prop}{L0:List Ent}{R0:List Rd}{brk eff lds:List Nat}{i:Nat}{r:List Nat}{o:Oper}{a:Act}{S:List Nat}{w0 w:World}{L:List Ent}{R:List Rd}
theorem k90{x : Operand}{T : TypeId}{g n : Nat}(hi : oAt ops i = some o)(ho : o.op = .load T x)(hx : EvR a x (.pointer (some ⟨g, n, none⟩)))[OneT P T]{v : Value}(hm : ReadA L g n v)(X : St S w0 w L R)(hL : Under L0 R0 L R)(he : eff.contains i = true)(hw : Region.wanted o (yielded ops a.tmps) = true)(h:SQ P ops Q L0 R0 brk eff lds r (a.put o.dst v) w):SQ P ops Q L0 R0 brk eff lds (i::r) a w:=
 jD2 hi he hw fun K hk=>by
  obtain⟨cs,t,h1,h2⟩:=hm.spec;have hc:w.cell? ⟨g,n,none⟩=some v:=by rw[(X.blk _ h1).cell n,<-h2,jH8];simp
  unfold Oper.wp execOp;simp only[ho,hx.eval,Instr.loadAt,Instr.sureAddr,Sem.run_bind,Sem.run_pure,Result.andThen_ok,jS7 (T:=T) hc];exact hk _ _ (fun _ _=>X.keeps hL) h
theorem jm9{n : Nat}{vs : List Value}{e : TypeId}(hi : oAt ops i = some o)(hb : (execOp a.eval o).run P w = .ok (.value (.slice (some ⟨w.heap.size, 0, none⟩) n n)) (w.alloc (.cells vs.toArray e)))(X : St S w0 w L R)(hL : Under L0 R0 L R)(he : eff.contains i = true)(hw : Region.wanted o (yielded ops a.tmps) = true)(h:∀g w',St S w0 w' (⟨g,vs,e⟩::L) R->Under L0 R0 (⟨g,vs,e⟩::L) R->SQ P ops Q L0 R0 brk eff lds r (a.put o.dst (.slice (some ⟨g,0,none⟩) n n)) w'):SQ P ops Q L0 R0 brk eff lds (i::r) a w:=
 jD2 hi he hw fun K hk=>by
  have hL':Under L0 R0 ((⟨w.heap.size,vs,e⟩:Ent)::L) R:=⟨hL.l.cons _,hL.r⟩;unfold Oper.wp;rw[hb];exact hk _ _ (fun _ _=>(X.alloc vs e).keeps hL') (h _ _ (X.alloc vs e) hL')
theorem jM8{t e : TypeId}{bytes : Nat}(hT : SlT P t e 1 bytes){x0 x1 x2 : Operand}(ho : o.op = .buildSlice t 3 #[(0, x0), (1, x1), (2, x2)]){v0 v1 v2 : Value}(h0 : EvR a x0 v0)(h1 : EvR a x1 v1)(h2 : EvR a x2 v2)(c0:v0.cells= #[v0]) (c1:v1.cells= #[v1]) (c2:v2.cells= #[v2]):(execOp a.eval o).run P w=.ok (.value (.slice (some ⟨w.heap.size,0,none⟩) 3 3)) (w.alloc (.cells [v0,v1,v2].toArray e)):=by
 have hr:=jP_ (w:=w) hT.elem hT.pos [[v0],[v1],[v2]] [v0,v1,v2] (by simp[c0,c1,c2]) ag ag ag;simp at hr;unfold execOp;simp[ho,h0.eval,h1.eval,h2.eval,hr]
theorem ja3{t e : TypeId}{bytes : Nat}(hT : SlT P t e 1 bytes){x0 x1 x2 x3 : Operand}(ho : o.op = .buildSlice t 4 #[(0, x0), (1, x1), (2, x2), (3, x3)]){v0 v1 v2 v3 : Value}(h0 : EvR a x0 v0)(h1 : EvR a x1 v1)(h2 : EvR a x2 v2)(h3 : EvR a x3 v3)(c0:v0.cells= #[v0]) (c1:v1.cells= #[v1]) (c2:v2.cells= #[v2]) (c3:v3.cells= #[v3]):(execOp a.eval o).run P w=.ok (.value (.slice (some ⟨w.heap.size,0,none⟩) 4 4)) (w.alloc (.cells [v0,v1,v2,v3].toArray e)):=by
 have hr:=jP_ (w:=w) hT.elem hT.pos [[v0],[v1],[v2],[v3]] [v0,v1,v2,v3] (by simp[c0,c1,c2,c3]) ag ag ag;simp at hr;unfold execOp;simp[ho,h0.eval,h1.eval,h2.eval,h3.eval,hr]
end
end Wb
namespace Go.Proofs.YtlecmdajpfkaeaaGreatDoor
open Go.RowKit Wb
theorem et{A:Prop}(h:A:=by
 (refine Zs ?_;clear hL X;intro w X hL);refine Za ?_;refine j90 ?_
 go_wp2_with (first|(refine ZyL ?_)| (refine ZyS ?_;clear X;intro w X)| (refine ZyA ?_;clear X;intro g w X))
 go_ret;rw[hJ.out];dsimp only;replace hT:=hT.out;rw[<-hT.1,<-hT.2.1,<-hT.2.2] at X
 first|refine RMa ?_ rfl|refine RMb ?_ rfl
 exact RMk (v:=v) [_,_] X ⟨hm.out.dmap,hm.out.fmap,hm.out.dfit,hm.out.ffit,hI.out,hm.out.sz⟩ (j34 Zfl (j7_ Zfl Zfl db cO cP Zfl Zfl Zfl Zfl Zfl (fun r hr=>jG1 r hr) (fun r hr=>jD3 r hr) (fun r hr=>show r∈jY2 v j ds fs++R from ip _ hr)))):A:=h
theorem eB{A:Prop}(h:A:=by
 go_wp2_with (first|go_skip|(refine ZyL ?_)| (refine ZyS ?_;clear X;intro w X)| (refine ZyA ?_;clear X;intro g w X))
 go_ret;rw[hJ.out];dsimp only
 first|refine RMa ?_ rfl|refine RMb ?_ rfl
 exact RMk (v:=v) [_,_] X hm.out (fun r hr=>.tail _ (.tail _ (.tail _ (hr))))):A:=h
theorem gI{A:Prop}(h:A:=by
 (refine Zs ?_;clear hL X;intro w X hL);refine Za ?_;refine j90 ?_;go_wp2;go_meet;exact⟨_,_,_,_,_,_,_,rfl,rfl,X⟩):A:=h
theorem kN0(KK : RK){S : List Nat}{w0 w : World}{L : List Ent}{R : List Rd}{gj : Nat}{j : Jn}{c : List Value}{Rj : List Rd}(F : jE9 j c Rj)(X : St S w0 w (⟨gj, c, 58⟩ :: L) (Rj ++ R))(a : Aj)(hs : a.text.size <= 9223372036854775807)(hk0 : 1 <= a.kind /\ a.kind <= 5)(hd : j.down = false) :Calls Tryz.prog 27 #[.pointer (some ⟨gj,0,none⟩),.agg #[.int .i64 a.kind,.int .i64 a.h,.int .i64 a.b,.int .i64 a.n,.string a.text]] w fun e w'=>∃c' Rj',e=.returned (.int .i64 (j98 j a).2)/\jE9 (j98 j a).1 c' Rj'/\St S w0 w' (⟨gj,c',58⟩::L) (Rj'++R):=by
 obtain⟨v,ds,fs,hm,rfl,rfl⟩:=F;have K:=KK;have hsz:=hm.inv.sz hm.sz;have hI:=jq1 a hd hm.inv;have hgr:=(j71 _).1 (jn6 hm.inv).1;unfold j80 at X;have hFit:=fun w=>K.fit a.text w hs;have mdk:∀r∈jRds v j ds fs,r∈jY2 v j ds fs++R:=jQ5;have hwu:IntKind.i64.wrap (24-j.ring.used)=24-j.ring.used:=iz _ aa;obtain⟨ft,hft⟩:∃ft,fit a.text=ft:=⟨_,rfl⟩;rw[hft] at hFit;replace hFit:=hid hFit;replace hm:=hid hm;replace hsz:=hid hsz;replace mdk:=hid mdk;clear K hgr;by_cases hk:a.kind=1
 ·have K:=KK;have hJ:=kt6 (j:=j) hk;rw[hJ] at hI;have hBg:=fun w h=>K.beg j.now a.h a.n (24-j.ring.used) (.slice v.nm.a j.now.mt.length v.nm.c) (.slice v.nd.a j.now.dt.length v.nd.c) (.slice v.nr.a j.now.rev.length v.nr.c) w h;have hT:=kK8 j.now a.h a.n (24-j.ring.used);generalize begT j.now a.h a.n (24-j.ring.used)=T at*;generalize begE j.now a.h a.n (24-j.ring.used)=E at*;simp only[j84] at hBg;dsimp only at hI;replace hBg:=hid hBg;replace hT:=hid hT;replace hJ:=hid hJ;replace hI:=hid hI;have q1:(a.kind==1)=true:=az;clear hk hk0;go_enter Tryz.func27,Tryz.ntmps27
  go_upto_region 1 with (first|(refine Zbx ?_;clear X;intro g w X))
  go_upto_region 4 with (first|(refine ZyL ?_)| (refine ZyS ?_;clear X;intro w X)| (refine ZyA ?_;clear X;intro g w X)|(go_at_call 45;((with_reducible refine(hFit.out _).mono ?_);rintro e w1 ⟨rfl,hb1⟩;replace X:=X.call hb1;clear hb1)))
  (refine jQ4 2 [] [14,18,19] [3,5,7,12] (.fork [0,1,2,3,4,5,6,7,8,9,10,11,12,13] (.fin [14,15,16,17,18,19,20]) (.fin [18,14,15,16,17,19,20])) X ?_;clear X;intro hQ X hL;simp only[zF,zG] at hL;simp only[zF,zG]);have hQo:=hQ;refine jE5 (fun hQ=>?_) hQo;refine Zm ?_;refine Zn ?_;refine Zf ?_;refine Zl ?_;refine Zf ?_;refine Zl ?_;refine Zf ?_;refine Zl ?_;refine Zm ?_;refine Zn ?_;refine Zf ?_;refine Zf ?_;refine Zl ?_;refine Zg ?_;refine jd8 ?_ ?_
  ·have hQ:=hQo;refine jN5 ?_;(refine j_0 62 Tryz.func62 (hBg.out _ (X.jNow hsz.out mdk.out)) ?_;rintro e w1 ⟨rfl,hb1⟩;replace X:=X.call hb1;clear hb1;refine Zce ?_;clear hL;intro hL);refine Zm ?_;refine Zx ?_;refine Zx ?_;(refine Zq ?_;clear hL X;intro g w X hL);exact et
  ·have hQ:=hQo;refine jN5 ?_;(refine Zq ?_;clear hL X;intro g w X hL);(refine j_0 62 Tryz.func62 (hBg.out _ (X.jNow hsz.out mdk.out)) ?_;rintro e w1 ⟨rfl,hb1⟩;replace X:=X.call hb1;clear hb1;refine Zce ?_;clear hL;intro hL);refine Zm ?_;refine Zx ?_;refine Zx ?_;exact et
 by_cases hk5:a.kind=5
 ·have K:=KK;have hk:=hk5;clear hk5;have hJ:=kA9 (j:=j) hk;rw[hJ] at hI;have hBg:=fun w h=>K.stop j.now a.h (.slice v.nm.a j.now.mt.length v.nm.c) (.slice v.nd.a j.now.dt.length v.nd.c) (.slice v.nr.a j.now.rev.length v.nr.c) w h;have hT:=kM_ j.now a.h;generalize stopT j.now a.h=T at*;generalize stopE j.now a.h=E at*;simp only[j84] at hBg;dsimp only at hI;replace hBg:=hid hBg;replace hT:=hid hT;replace hJ:=hid hJ;replace hI:=hid hI;have q1:(a.kind==1)=false:=az;have q5:(a.kind==5)=true:=az;clear hk hk0;go_enter Tryz.func27,Tryz.ntmps27
  go_upto_region 1 with (first|(refine Zbx ?_;clear X;intro g w X))
  go_upto_region 8 with (first|(refine ZyL ?_)| (refine ZyS ?_;clear X;intro w X)| (refine ZyA ?_;clear X;intro g w X)|(go_at_call 45;((with_reducible refine(hFit.out _).mono ?_);rintro e w1 ⟨rfl,hb1⟩;replace X:=X.call hb1;clear hb1)))
  (refine jQ4 2 [] [6,10,11] [3,5] (.fork [0,1,2,3,4,5] (.fin [6,7,8,9,10,11,12]) (.fin [10,6,7,8,9,11,12])) X ?_;clear X;intro hQ X hL;simp only[zF,zG] at hL;simp only[zF,zG]);have hQo:=hQ;refine jE5 (fun hQ=>?_) hQo;refine Zm ?_;refine Zn ?_;refine Zf ?_;refine Zl ?_;refine Zf ?_;refine Zl ?_;refine jd8 ?_ ?_
  ·have hQ:=hQo;refine jN5 ?_;(refine j_0 63 Tryz.func63 (hBg.out _ (X.jNow hsz.out mdk.out)) ?_;rintro e w1 ⟨rfl,hb1⟩;replace X:=X.call hb1;clear hb1;refine Zce ?_;clear hL;intro hL);refine Zm ?_;refine Zx ?_;refine Zx ?_;(refine Zq ?_;clear hL X;intro g w X hL);exact et
  ·have hQ:=hQo;refine jN5 ?_;(refine Zq ?_;clear hL X;intro g w X hL);(refine j_0 63 Tryz.func63 (hBg.out _ (X.jNow hsz.out mdk.out)) ?_;rintro e w1 ⟨rfl,hb1⟩;replace X:=X.call hb1;clear hb1;refine Zce ?_;clear hL;intro hL);refine Zm ?_;refine Zx ?_;refine Zx ?_;exact et
 obtain⟨K,hk2⟩:∃K:Int,a.kind=K+2:=⟨a.kind-2,aa⟩;have hK:K=0\/K=1\/K=2:=aa;have hkw:IntKind.i64.wrap (a.kind-2)=K:=by rw[iz _ aa];omega
 have hAl:=fun w h=>KK.alt K hK j.now a.h a.b (fit a.text) (.slice v.nm.a j.now.mt.length v.nm.c) (.slice v.nd.a j.now.dt.length v.nd.c) (.slice v.nr.a j.now.rev.length v.nr.c) w h;have hno:=ko7 (j:=j) hk2 hK;have hbad:=kt5 (j:=j) hk2 hK;have hbusy:=kA8 (j:=j) hk2 hK;have hok:=ko8 (j:=j) hk2 hK;have hbl:=fun h=>kD8 (K:=K) (t:=j.now) (h:=a.h) (b:=a.b) (s:=fit a.text) h;rw[hft] at hAl hno hbad hbusy hok hbl;generalize alT K j.now a.h a.b ft=T at*;generalize alE K j.now a.h a.b ft=C at*;have q1:(a.kind==1)=false:=ik.2 aa;have q5:(a.kind==5)=false:=ik.2 aa;simp only[j84] at hAl;replace hAl:=hid hAl;replace hno:=hid hno;replace hbad:=hid hbad;replace hbusy:=hid hbusy;replace hok:=hid hok;replace hbl:=hid hbl;replace hK:=hid hK;clear hk hk5 hk0 hk2;go_enter Tryz.func27,Tryz.ntmps27
 go_upto_region 1 with (first|(refine Zbx ?_;clear X;intro g w X))
 go_upto_region 12 with (first|(refine ZyL ?_)| (refine ZyS ?_;clear X;intro w X)| (refine ZyA ?_;clear X;intro g w X)|(go_at_call 45;((with_reducible refine(hFit.out _).mono ?_);rintro e w1 ⟨rfl,hb1⟩;replace X:=X.call hb1;clear hb1)))
 obtain⟨g3,rfl⟩:=X.nm1
 go_cut [11,12] (fun s11 s12 wx=>∃(am ad ar:Option Addr) (cm cd cr g11:Nat),s11=.pointer (some ⟨g11,0,none⟩)/\s12=.int .i64 C/\St S w0 wx (⟨g11,[.int .i64 T.seq,.slice am T.mt.length cm,.slice ad T.dt.length cd,.slice ar T.rev.length cr,.bool T.h0.on,.int .i64 T.h0.left,.bool T.h1.on,.int .i64 T.h1.left,.bool T.h2.on,.int .i64 T.h2.left],51⟩::⟨g3,[.int .i64 a.kind,.int .i64 a.h,.int .i64 a.b,.int .i64 a.n,.string a.text],28⟩::⟨gj,j80 v j,58⟩::L) (kj2 j_3 (.slice am T.mt.length cm) T.mt::kj2 j_3 (.slice ad T.dt.length cd) T.dt::kj2 j_9 (.slice ar T.rev.length cr) T.rev::(jY2 v j ds fs++R)))
 case first=>
  (refine jQ4 2 [] [10,14,15] [4,6,8] (.fork [0,1,2,3,4,5,6,7,8,9] (.fin [10,11,12,13,14,15,16]) (.fin [14,10,11,12,13,15,16])) X ?_;clear X;intro hQ X hL;simp only[zF,zG] at hL;simp only[zF,zG]);have hQo:=hQ;refine jE5 (fun hQ=>?_) hQo;refine Zm ?_;refine Zm ?_;refine Zn ?_;refine Zf ?_;refine Zl ?_;refine Zf ?_;refine Zl ?_;refine Zf ?_;refine Zl ?_;refine Zm ?_;refine jd8 ?_ ?_
  ·have hQ:=hQo;refine jN5 ?_;(refine j_0 64 Tryz.func64 (hAl.out _ (X.jNow hsz.out mdk.out)) ?_;rintro e w1 ⟨vm',vd',vr',rfl,hN,hb1⟩;replace X:=X.addT hb1 hN (mdk.out _ Zfl) (mdk.out _ Zfl) (mdk.out _ Zfl);clear hb1 hN;obtain⟨am,cm,rfl,_⟩:=X.r0.form;obtain⟨ad,cd,rfl,_⟩:=X.r1.form;obtain⟨ar,cr,rfl,_⟩:=X.r2.form;refine Zce ?_;clear hL;intro hL);refine Zm ?_;refine Zx ?_;refine Zx ?_;(refine Zq ?_;clear hL X;intro g w X hL);exact gI
  ·have hQ:=hQo;refine jN5 ?_;(refine Zq ?_;clear hL X;intro g w X hL);(refine j_0 64 Tryz.func64 (hAl.out _ (X.jNow hsz.out mdk.out)) ?_;rintro e w1 ⟨vm',vd',vr',rfl,hN,hb1⟩;replace X:=X.addT hb1 hN (mdk.out _ Zfl) (mdk.out _ Zfl) (mdk.out _ Zfl);clear hb1 hN;obtain⟨am,cm,rfl,_⟩:=X.r0.form;obtain⟨ad,cd,rfl,_⟩:=X.r1.form;obtain⟨ar,cr,rfl,_⟩:=X.r2.form;refine Zce ?_;clear hL;intro hL);refine Zm ?_;refine Zx ?_;refine Zx ?_;exact gI
 clear X hAl hFit;obtain⟨am,ad,ar,cm,cd,cr,g11,rfl,rfl,X⟩:=hcut;by_cases hC:C=0
 rotate_left
 ·have hJ:=hid (hno.out hC);have c0:(C != 0)=true:=by simpa using hC
  clear hC;unfold j80 at X;exact eB
 subst hC;obtain⟨n,hn⟩:∃n:Nat,a.b=n:=⟨a.b.toNat,by have:=iF (hbl.out rfl);omega⟩;have hn12:n<12:=by have:=iF (hbl.out rfl);omega
 have hrol:jS6 j a.b=j.roles n:=by unfold jS6;rw[ij (hbl.out rfl),hn]
 have hbad:=fun h=>hbad.out rfl h;have hbusy:=fun h=>hbusy.out rfl h;have hok:=fun h=>hok.out rfl h;rw[hrol] at hbad;rw[hrol,hn] at hbusy hok;have hr0:=jp5 v j hn12;have hf0:=kY1 v j hn12;obtain⟨role,hro⟩:∃r,j.roles n=r:=⟨_,rfl⟩;obtain⟨fre,hfr⟩:∃r,j.freed n=r:=⟨_,rfl⟩;rw[hro] at hr0 hbad hbusy hok;rw[hfr] at hbusy hok;rw[hfr] at hf0;rw[hn] at X;replace hbad:=hid hbad;replace hbusy:=hid hbusy;replace hok:=hid hok;replace hro:=hid hro;replace hfr:=hid hfr;replace hn:=hid hn;clear hrol hno hbl;have hn12i:(n:Int)<12:=aa;unfold j80 at X
 go_upto_region 15 with (first|(refine ZyL ?_)| (refine ZyS ?_;clear X;intro w X)| (refine ZyA ?_;clear X;intro g w X))
 (refine j__ 3 [] [] [2,6] [0,1,2,3,4,5,6,7] X ?_;clear X;intro hQ X hL;simp only[zF,zG] at hL;simp only[zF,zG]);refine Zm ?_;refine Zf ?_;refine Zl ?_;refine Zn ?_;refine Zf ?_;refine Zg ?_;((refine jR9 rfl rfl Zev bc rfl rfl X hL hQ ?_);(simp only[Act.put,zA,zB,zC,zD,zE,zF,zG,Nat.reduceAdd]));refine Za ?_;refine j90 ?_;rcases hK.out with rfl|rfl|rfl
 ·by_cases hr:role=2
  ·have hJ:=hid (hbad.out (.inl ⟨rfl,hr⟩));have r0:(role==2)=true:=by rw[hr];rfl
   clear hr hI;exact eB
  have hnb:¬k13 0 role:=by unfold k13;omega
  have r0:(role==2)=false:=ik.2 hr;clear hr;have hJ:=hok.out hnb aa;simp only[toK,Int.reduceEq, ↓reduceIte] at hJ;rw[hJ] at hI;dsimp only at hI;replace hI:=hid hI;replace hJ:=hid hJ;clear hnb hbad hbusy hok
  go_upto_region 18 with (first|go_skip|(refine ZyL ?_)| (refine ZyS ?_;clear X;intro w X)| (refine ZyA ?_;clear X;intro g w X))
  (refine j__ 3 [] [] [5,9,13] [0,1,2,3,4,5,6,7,8,9,10,11,12,13,14,15] X ?_;clear X;intro hQ X hL;simp only[zF,zG] at hL;simp only[zF,zG]);refine Zm ?_;refine Zg ?_;refine Zm ?_;refine Zk ?_;refine Zk ?_;refine Zk ?_;refine Zk ?_;refine Zk ?_;refine Zk ?_;refine Zk ?_;refine Zk ?_;refine Zk ?_;refine Zk ?_;refine Zk ?_;refine Zk ?_;refine Zg ?_;refine j90 ?_
  go_upto_region 21 with (first|go_skip|(refine ZyL ?_)| (refine ZyS ?_;clear X;intro w X)| (refine ZyA ?_;clear X;intro g w X))
  (refine j__ 2 [] [3,6,10] [2] [0,1,2,4,7,8,3,5,6,9,10] X ?_;clear X;intro hQ X hL;simp only[zF,zG] at hL;simp only[zF,zG]);refine Zm ?_;refine Zf ?_;refine Zl ?_;refine Zm ?_;refine Zn ?_;refine Zf ?_;refine jm9 (n:=3) rfl (jM8 (by infer_instance) rfl Zev Zev Zev rfl rfl rfl) X hL rfl rfl ?_;clear hL X;intro g w X hL;(simp only[Act.put,zA,zB,zC,zD,zE,zF,zG,Nat.reduceAdd]);refine Zg ?_;refine k90 rfl rfl (EvR.tmp rfl rfl) (ReadA.here rfl) X hL rfl rfl ?_;(simp only[Act.put,zA,zB,zC,zD,zE,zF,zG,Nat.reduceAdd]);refine Zg ?_;((refine jN8 rfl rfl Zev Zev X rfl rfl rfl rfl hL Zpv Zsu ?_);intro w X2 hL2;replace X:=X2;clear X2;replace hL:=hL2;clear hL2;(simp only[Act.put,zA,zB,zC,zD,zE,zF,zG,Nat.reduceAdd]));refine j90 ?_;have hu:=jX5 {v with nm:=⟨am,cm⟩,nd:=⟨ad,cd⟩,nr:=⟨ar,cr⟩} {j with now:=T} hn12 1;unfold j80 at hu;dsimp only at hu;rw[hu] at X;clear hu
  go_wp2_with (first|(refine ZyL ?_)| (refine ZyS ?_;clear X;intro w X)| (refine ZyA ?_;clear X;intro g w X))
  go_ret;rw[hJ.out];dsimp only
  first|refine RMa ?_ rfl|refine RMb ?_ rfl
  exact RMk (v:={v with nm:=⟨am,cm⟩,nd:=⟨ad,cd⟩,nr:=⟨ar,cr⟩}) (j:={j with now:=T,roles:=jV_ j.roles n 1}) [_,_,_] X ⟨hm.out.dmap,hm.out.fmap,hm.out.dfit,hm.out.ffit,hI.out,hm.out.sz⟩ (j34 Zfl (j7_ Zfl Zfl Zfl Zfl Zfl Zfl Zfl Zfl Zfl Zfl (fun r hr=>.tail _ (.tail _ (.tail _ (jG1 r hr)))) (fun r hr=>.tail _ (.tail _ (.tail _ (jD3 r hr)))) (fun r hr=>.tail _ (.tail _ (.tail _ (show r∈jY2 v j ds fs++R from ip _ hr))))))
 ·by_cases hr:role=1
  ·have hJ:=hid (hbad.out (.inr (.inl ⟨rfl,hr⟩)));have r0:(role==1)=true:=by rw[hr];rfl
   clear hr hI;exact eB
  have hnb:¬k13 1 role:=by unfold k13;omega
  have r0:(role==1)=false:=ik.2 hr;clear hr;by_cases hf:j.last<fre
  ·have hJ:=hid (hbusy.out hnb ⟨rfl,hf⟩);have f0:decide (j.last<fre)=true:=iG hf;clear hf hnb hI
   go_upto_region 18 with (first|go_skip|(refine ZyL ?_)| (refine ZyS ?_;clear X;intro w X)| (refine ZyA ?_;clear X;intro g w X))
   (refine j__ 3 [] [] [5,9,13] [0,1,2,3,4,5,6,7,8,9,10,11,12,13,14,15] X ?_;clear X;intro hQ X hL;simp only[zF,zG] at hL;simp only[zF,zG]);refine Zm ?_;refine Zg ?_;refine Zm ?_;refine Zm ?_;refine Zf ?_;refine Zl ?_;refine Zn ?_;refine Zf ?_;refine Zg ?_;((refine jR9 rfl rfl Zev aB rfl rfl X hL hQ ?_);(simp only[Act.put,zA,zB,zC,zD,zE,zF,zG,Nat.reduceAdd]));refine Zm ?_;refine Zn ?_;refine Zf ?_;refine Zl ?_;refine Zg ?_;refine Zg ?_;refine j90 ?_;exact eB
  have f0:decide (j.last<fre)=false:=iH hf;have hJ:=hok.out hnb (by exact fun h=>hf h.2);clear hf;simp only[toK,Int.reduceEq, ↓reduceIte] at hJ;rw[hJ] at hI;dsimp only at hI;replace hI:=hid hI;replace hJ:=hid hJ;clear hnb hbad hbusy hok
  go_upto_region 18 with (first|go_skip|(refine ZyL ?_)| (refine ZyS ?_;clear X;intro w X)| (refine ZyA ?_;clear X;intro g w X))
  (refine j__ 3 [] [] [5,9,13] [0,1,2,3,4,5,6,7,8,9,10,11,12,13,14,15] X ?_;clear X;intro hQ X hL;simp only[zF,zG] at hL;simp only[zF,zG]);refine Zm ?_;refine Zg ?_;refine Zm ?_;refine Zm ?_;refine Zf ?_;refine Zl ?_;refine Zn ?_;refine Zf ?_;refine Zg ?_;((refine jR9 rfl rfl Zev aB rfl rfl X hL hQ ?_);(simp only[Act.put,zA,zB,zC,zD,zE,zF,zG,Nat.reduceAdd]));refine Zm ?_;refine Zn ?_;refine Zf ?_;refine Zl ?_;refine Zg ?_;refine Zg ?_;refine j90 ?_
  go_upto_region 21 with (first|go_skip|(refine ZyL ?_)| (refine ZyS ?_;clear X;intro w X)| (refine ZyA ?_;clear X;intro g w X))
  (refine j__ 2 [] [3,6,10] [2] [0,1,2,4,7,8,3,5,6,9,10] X ?_;clear X;intro hQ X hL;simp only[zF,zG] at hL;simp only[zF,zG]);refine Zm ?_;refine Zf ?_;refine Zl ?_;refine Zm ?_;refine Zn ?_;refine Zf ?_;refine jm9 (n:=3) rfl (jM8 (by infer_instance) rfl Zev Zev Zev rfl rfl rfl) X hL rfl rfl ?_;clear hL X;intro g w X hL;(simp only[Act.put,zA,zB,zC,zD,zE,zF,zG,Nat.reduceAdd]);refine Zg ?_;refine k90 rfl rfl (EvR.tmp rfl rfl) (ReadA.here rfl) X hL rfl rfl ?_;(simp only[Act.put,zA,zB,zC,zD,zE,zF,zG,Nat.reduceAdd]);refine Zg ?_;((refine jN8 rfl rfl Zev Zev X rfl rfl rfl rfl hL Zpv Zsu ?_);intro w X2 hL2;replace X:=X2;clear X2;replace hL:=hL2;clear hL2;(simp only[Act.put,zA,zB,zC,zD,zE,zF,zG,Nat.reduceAdd]));refine j90 ?_;have hu:=jX5 {v with nm:=⟨am,cm⟩,nd:=⟨ad,cd⟩,nr:=⟨ar,cr⟩} {j with now:=T} hn12 2;unfold j80 at hu;dsimp only at hu;rw[hu] at X;clear hu
  go_wp2_with (first|(refine ZyL ?_)| (refine ZyS ?_;clear X;intro w X)| (refine ZyA ?_;clear X;intro g w X))
  go_ret;rw[hJ.out];dsimp only
  first|refine RMa ?_ rfl|refine RMb ?_ rfl
  exact RMk (v:={v with nm:=⟨am,cm⟩,nd:=⟨ad,cd⟩,nr:=⟨ar,cr⟩}) (j:={j with now:=T,roles:=jV_ j.roles n 2}) [_,_,_] X ⟨hm.out.dmap,hm.out.fmap,hm.out.dfit,hm.out.ffit,hI.out,hm.out.sz⟩ (j34 Zfl (j7_ Zfl Zfl Zfl Zfl Zfl Zfl Zfl Zfl Zfl Zfl (fun r hr=>.tail _ (.tail _ (.tail _ (jG1 r hr)))) (fun r hr=>.tail _ (.tail _ (.tail _ (jD3 r hr)))) (fun r hr=>.tail _ (.tail _ (.tail _ (show r∈jY2 v j ds fs++R from ip _ hr))))))
 ·by_cases hr:role=0
  ·have hJ:=hid (hbad.out (.inr (.inr ⟨rfl,hr⟩)));have r0:(role==0)=true:=by rw[hr];rfl
   clear hr hI;exact eB
  have hnb:¬k13 2 role:=by unfold k13;omega
  have r0:(role==0)=false:=ik.2 hr;clear hr;have hJ:=hok.out hnb aa;simp only[toK,Int.reduceEq, ↓reduceIte] at hJ;rw[hJ] at hI;dsimp only at hI;replace hI:=hid hI;replace hJ:=hid hJ;clear hnb hbad hbusy hok
  go_upto_region 18 with (first|go_skip|(refine ZyL ?_)| (refine ZyS ?_;clear X;intro w X)| (refine ZyA ?_;clear X;intro g w X))
  (refine j__ 3 [] [] [5,9,13] [0,1,2,3,4,5,6,7,8,9,10,11,12,13,14,15] X ?_;clear X;intro hQ X hL;simp only[zF,zG] at hL;simp only[zF,zG]);refine Zm ?_;refine Zg ?_;refine Zm ?_;refine Zk ?_;refine Zk ?_;refine Zk ?_;refine Zk ?_;refine Zk ?_;refine Zk ?_;refine Zk ?_;refine Zk ?_;refine Zk ?_;refine Zk ?_;refine Zk ?_;refine Zk ?_;refine Zg ?_;refine j90 ?_
  go_upto_region 21 with (first|go_skip|(refine ZyL ?_)| (refine ZyS ?_;clear X;intro w X)| (refine ZyA ?_;clear X;intro g w X))
  (refine j__ 2 [] [3,6,10] [2] [0,1,2,4,7,8,3,5,6,9,10] X ?_;clear X;intro hQ X hL;simp only[zF,zG] at hL;simp only[zF,zG]);refine Zm ?_;refine Zf ?_;refine Zl ?_;refine Zm ?_;refine Zn ?_;refine Zf ?_;refine jm9 (n:=3) rfl (jM8 (by infer_instance) rfl Zev Zev Zev rfl rfl rfl) X hL rfl rfl ?_;clear hL X;intro g w X hL;(simp only[Act.put,zA,zB,zC,zD,zE,zF,zG,Nat.reduceAdd]);refine Zg ?_;refine k90 rfl rfl (EvR.tmp rfl rfl) (ReadA.here rfl) X hL rfl rfl ?_;(simp only[Act.put,zA,zB,zC,zD,zE,zF,zG,Nat.reduceAdd]);refine Zg ?_;((refine jN8 rfl rfl Zev Zev X rfl rfl rfl rfl hL Zpv Zsu ?_);intro w X2 hL2;replace X:=X2;clear X2;replace hL:=hL2;clear hL2;(simp only[Act.put,zA,zB,zC,zD,zE,zF,zG,Nat.reduceAdd]));refine j90 ?_;have hu:=jX5 {v with nm:=⟨am,cm⟩,nd:=⟨ad,cd⟩,nr:=⟨ar,cr⟩} {j with now:=T} hn12 0;unfold j80 at hu;dsimp only at hu;rw[hu] at X;clear hu
  go_upto_region 23 with (first|(refine ZyL ?_)| (refine ZyS ?_;clear X;intro w X)| (refine ZyA ?_;clear X;intro g w X))
  (refine j__ 3 [] [8] [2,4] [0,1,2,3,4,5,6,7,8] X ?_;clear X;intro hQ X hL;simp only[zF,zG] at hL;simp only[zF,zG]);refine Zm ?_;refine Zf ?_;refine Zl ?_;refine Zf ?_;refine Zl ?_;refine Zn ?_;refine Zf ?_;refine Zg ?_;((refine jN8 rfl rfl Zev Zev X rfl rfl rfl rfl hL Zpv Zsu ?_);intro w X2 hL2;replace X:=X2;clear X2;replace hL:=hL2;clear hL2;(simp only[Act.put,zA,zB,zC,zD,zE,zF,zG,Nat.reduceAdd]));refine j90 ?_;have hu:=kY3 {v with nm:=⟨am,cm⟩,nd:=⟨ad,cd⟩,nr:=⟨ar,cr⟩} {j with now:=T,roles:=jV_ j.roles n 0} hn12 T.seq;unfold j80 at hu;dsimp only at hu;rw[hu] at X;clear hu
  go_wp2_with (first|(refine ZyL ?_)| (refine ZyS ?_;clear X;intro w X)| (refine ZyA ?_;clear X;intro g w X))
  go_ret;rw[hJ.out];dsimp only
  first|refine RMa ?_ rfl|refine RMb ?_ rfl
  exact RMk (v:={v with nm:=⟨am,cm⟩,nd:=⟨ad,cd⟩,nr:=⟨ar,cr⟩}) (j:={j with now:=T,roles:=jV_ j.roles n 0,freed:=jV_ j.freed n T.seq}) [_,_,_] X ⟨hm.out.dmap,hm.out.fmap,hm.out.dfit,hm.out.ffit,hI.out,hm.out.sz⟩ (j34 Zfl (j7_ Zfl Zfl Zfl Zfl Zfl Zfl Zfl Zfl Zfl Zfl (fun r hr=>.tail _ (.tail _ (.tail _ (jG1 r hr)))) (fun r hr=>.tail _ (.tail _ (.tail _ (jD3 r hr)))) (fun r hr=>.tail _ (.tail _ (.tail _ (show r∈jY2 v j ds fs++R from ip _ hr))))))
end Go.Proofs.YtlecmdajpfkaeaaGreatDoor
namespace Wb
open Go Go.RowKit
theorem St.addRow{S : List Nat}{w0 w w' : World}{L : List Ent}{R : List Rd}(h : St S w0 w L R)(hb : Below w.heap.size w w'){α : Type}{f : α -> List Value}{e : TypeId}{c base : Nat}{v : Value}{l : List α}(ho : Own f base e c w' v l)(hbs : w.heap.size <= base)(hl : l.length ≠ 0) :∃g cap rest,v=.slice (some ⟨g,0,none⟩) l.length cap/\l.length<=cap/\cap<=maxLen/\(l.flatMap f++rest).length=cap*c/\St S w0 w' (⟨g,l.flatMap f++rest,e⟩::L) R:=by
 obtain⟨h1,h2⟩:=ho;rcases h2 with ⟨_,h0⟩|⟨g,cap,cur,rfl,hbg,hg,hcap,hmx,hsz,htk⟩
 ·exact absurd h0 hl
 have hc:l.flatMap f++cur.toList.drop (l.length*c)=cur.toList:=by rw[<-htk,ji]
 have hX:=h.call hb;refine⟨g,cap,cur.toList.drop (l.length*c),rfl,hcap,hmx,by rw[hc];simpa using hsz,hX.mv,?_,fun x hx=>?_,fun x hx=>?_,fun r hr=>⟨(hX.rd r hr).1,?_⟩⟩
 ·rw[jr,kP];refine⟨fun hm=>?_,h.nd⟩;obtain⟨x,hx,heq⟩:=jg.1 hm;have:=(h.blk x hx).lt;simp only at heq;omega
 ·rcases iS.1 hx with rfl|hx
  ·rw[hc];exact hg
  ·exact hX.blk x hx
 ·rcases iS.1 hx with rfl|hx
  ·exact .inr (i3 h.mv.size (i3 hbs hbg))
  ·exact h.own x hx
 ·rcases(h.rd r hr).1.lt with hl|hl
  ·exact .inl hl
  ·rcases(h.rd r hr).2 with h2|h2
   ·exact .inl h2
   ·refine .inr fun b hb e he=>?_;rcases iS.1 he with rfl|he
    ·have:=hl b hb;show g≠b;omega
    ·exact h2 b hb e he
theorem kR8:jJ_=⟨markS (j86 1 0)::List.replicate 36 (fit ⟨#[]⟩),[]⟩:=by
 have hg0:goodD j54=true:=by
  exact Go.Proofs.YtlecmdajpfkaeaaGreatDoor.gv
 have hm:=j46 (jX6 (q:=1) (a:=0) ae ae);have hp:putE j54 0 (markS (j86 1 0))=0:=jB0 hg0 ae hm.2.2 ae;have hg1:=jS3 hp;unfold jJ_ j55;rw[ij hg1];unfold putD;rw[ij hp];rfl
end Wb
namespace Go.Proofs.YtlecmdajpfkaeaaGreatDoor
open Go.RowKit Wb
theorem kB5(K : RK){S : List Nat}{w0 w : World}{L : List Ent}{R : List Rd}(X : St S w0 w L R) :Calls Tryz.prog 6 #[] w fun e w'=>∃g c Rj,e=.returned (.pointer (some ⟨g,0,none⟩))/\jE9 newJ c Rj/\St S w0 w' (⟨g,c,58⟩::L) (Rj++R):=by
 have hNw:=fun w=>K.dnew w;have hEn:=fun w=>K.enc (j86 1 0) (.agg #[.int .i64 1,.int .i64 1,.int .i64 0,.slice none 0 0,.slice none 0 0]) w ⟨_,_,rfl,RL.nil _ _,RL.nil _ _,ae,ae⟩;have hI:=kS8;have hD:=kR8;generalize markE (j86 1 0)=mE at*;generalize markS (j86 1 0)=mS at*;have hrep:List.replicate 37 (fit ⟨#[]⟩)=fit ⟨#[]⟩::List.replicate 36 (fit ⟨#[]⟩):=rfl;have hl36:(List.replicate 36 (fit ⟨#[]⟩)).length=36:=kB ..;rw[hrep] at hNw;generalize fit ⟨#[]⟩=z at*;generalize List.replicate 36 z=Z at*;have hJ:newJ={jY0 jJ_ 0 0 with now:=j2_ 1}:=rfl;clear hrep;replace hNw:=hid hNw;replace hEn:=hid hEn;replace hI:=hid hI;replace hJ:=hid hJ;replace hD:=hid hD;have hzl:(z::Z).length=37:=by rw[iB,hl36]
 go_enter Tryz.func6,Tryz.ntmps6
 go_upto_region 2 with (first|(refine Zbx ?_;clear X;intro g w X)|(refine ZyL ?_)| (refine ZyS ?_;clear X;intro w X)| (refine ZyA ?_;clear X;intro g w X)|(go_at_call 15;((with_reducible refine(hNw.out _).mono ?_);rintro e w1 ⟨vs,rfl,ho1,hb1⟩;obtain⟨gr,cr,rest,rfl,hc1,hc2,hc3,X2⟩:=X.addRow hb1 ho1 aa (by rw[hzl];decide);replace X:=X2;clear X2 hb1 ho1;rw[hzl] at hc1⊢)))
 dsimp only at X;have hfl:List.flatMap j42 (z::Z)++rest=.string z::(List.flatMap j42 Z++rest):=rfl;rw[hfl] at X hc3;clear hfl hzl;have hzl:(mS::Z).length=37:=by rw[iB,hl36]
 (refine j__ 1 [] [6,11] [4] [0,1,2,3,4,5,6,7,8,9,10,11] X ?_;clear X;intro hQ X hL;simp only[zF,zG] at hL;simp only[zF,zG]);refine Zm ?_;refine Zn ?_;refine Zf ?_;refine Zf ?_;refine Zl ?_;refine Zg ?_;(refine j_0 16 Tryz.func16 (hEn.out _) ?_;rintro e w1 ⟨rfl,hb1⟩;replace X:=X.call hb1;clear hb1;refine Zce ?_;clear hL;intro hL);refine Zm ?_;refine Zx ?_;refine Zx ?_;refine Zg ?_;(refine Zs ?_;clear hL X;intro w X hL);refine j90 ?_
 go_wp2_with (first|(refine ZyL ?_)| (refine ZyS ?_;clear X;intro w X)| (refine ZyA ?_;clear X;intro g w X))
 go_ret;have hO:j4_ j42 9 1 (.slice (some ⟨gr,0,none⟩) (mS::Z).length cr) (mS::Z) [⟨gr,.string mS::(List.flatMap j42 Z++rest),9⟩]:=.inr ⟨gr,cr,rest,rfl,by rw[hzl];exact hc1,hc2,(show(Value.string mS::(List.flatMap j42 Z++rest)).length=cr*1 from hc3),rfl⟩;have X9:=(St.ownEnd (L:=[_]) (T:=L) X.addNil hO).addNil;rw[hJ.out,hD.out] at hI⊢;rw[<-hzl] at X9;obtain⟨c',Rj',F,X8⟩:=RMk (v:=jW9 ⟨some ⟨gr,0,none⟩,cr⟩ ⟨none,0⟩) (j:={jY0 ⟨mS::Z,[]⟩ 0 0 with now:=j2_ 1}) (ds:=[]) (fs:=[]) [] X9 ⟨rfl,rfl,(fun x hx=>cI),(fun x hx=>cI),hI.out,⟨iq _,iq _⟩⟩ (jl9 rfl rfl rfl rfl rfl (fun r hr=>hr));exact⟨_,_,_,rfl,F,X8⟩
end Go.Proofs.YtlecmdajpfkaeaaGreatDoor
namespace Wb
open Go Go.RowKit
theorem k73(l:List Aj)(k:Nat):0<=(jAt l k).acts/\(jAt l k).acts<=400:=by
 unfold jAt;have h0:0<=newJ.acts/\newJ.acts<=400:=ae;generalize newJ=j at*;generalize l.take k=m at*
 induction m generalizing j with
 |nil=>exact h0
 |cons a r ih=>
  refine ih _ ?_
  rw[kW0]
  split<;>omega
theorem kF7{l:List Aj}{k:Nat}(hk:k<l.length):(repsOf newJ l)[k]'(by rw[jX4];exact hk)=(doJ (jAt l k) l[k]).2:=by
 have h1:=je3 hk;unfold kF5 at h1;rw[jw9,jw9] at h1;have h2:=congrArg (fun x=>x[k]?) h1;simp only[jB] at h2;rw[ij aa,ix (by rw[jX4];exact hk),jb (by rw[iA,jX4];omega)] at h2;have h3:k-((repsOf newJ l).take k).length=0:=by rw[iA,jX4];omega
 rw[h3] at h2;simpa using h2
section
variable{P:Program}{ops:Array Oper}{Q:Exit->Act->World->Prop}{brk eff lds:List Nat}{a:Act}{S:List Nat}{w0 w:World}{L:List Ent}{R R0:List Rd}
theorem jl0{id : Nat}(R0 : List Rd)(k : Nat)(brk eff lds perm : List Nat)(X : St S w0 w L R)(hR : ∀ r ∈ R0, r ∈ R)(h:j72 Q->St S w0 w.drew L R->Under (L.take k) R0 L R->SQ P ops Q (L.take k) R0 brk eff lds perm a w.drew) (hm:P.follows .mixedOrders=true:=by kernel_rfl) (hs:(Region.noSelect ops&&(perm.length==ops.size&&k_7 .any ops brk eff lds (Array.replicate ops.size false) perm))=true:=by kernel_rfl) (hQ:j72 Q:=by exact fun _ _ _ _ _ h=>h):(Code.region id ops true).wp P Q a w:=
 kB7 (L.take k) R0 brk eff lds perm hm hs (h hQ X.drew ⟨mg _ _,hR⟩)
end
end Wb
namespace Go.Proofs.YtlecmdajpfkaeaaGreatDoor
open Go.RowKit Wb
theorem jL6(s : ByteArray)(w : World)(hs : s.size <= 9223372036854775807) :Calls Tryz.prog 45 #[.string s] w fun e w'=>e=.returned (.string (fit s))/\Below w.heap.size w w':=by
 have hfit:fit s=str (k64 s.data.toList):=rfl;generalize fit s=ft at*;replace hfit:=hid hfit;go_enter Tryz.func45,Tryz.ntmps45;go_wp2;have hlen:s.data.toList.length=s.size:=du;replace hlen:=hid hlen
 go_loopw [4] (fun i wr=>∃k:Nat,k<=s.size/\k<=32/\i=.int .i64 k/\Blk wr w.heap.size ((j38 s.data.toList k).flatMap jZ8).toArray 130/\Below w.heap.size w wr) (fun i _=>32-(intOf i).toNat)
 case atStart=>exact⟨0,iq _,iq _,rfl,by rw[jh1];exact kk3 w _ _,aj⟩
 case round=>
  obtain⟨k,hk,hk2,rfl,kb,hnx⟩:=hrel;by_cases hlt:k<s.size/\k<32
  ·obtain⟨hl1,hl2⟩:=hlt;have hl3:k<s.data.toList.length:=by rw[hlen.out];exact hl1
   have hget:∀j:Nat,(((j38 s.data.toList k).flatMap jZ8).toArray)[j]? =((j38 s.data.toList k)[j]?).map fun(b:UInt8)=>Value.int .u8 b.toNat:=by
    intro j;rw[jP8];simp[Function.comp];rfl
   have hc:wr.cell? ⟨w.heap.size,k,none⟩=some (Value.int .u8 ((j38 s.data.toList k)[k]'(by rw[jS_ aa hk2];exact hl2)).toNat):=by
    rw[kb.cell k,hget k];simp[jS_ (s:=s.data.toList) (k:=k) aa hk2,hl2]
   have hf:=kb.free k;have hset:=ja5 hl3 hl2;have lt0:=kb.lt;generalize ((j38 s.data.toList k)[k]'(by rw[jS_ aa hk2];exact hl2)).toNat=old at*;replace hget:=hid hget;replace hset:=hid hset;go_wp2;go_roundw
   case rel=>
    refine⟨k+1,aa,aa,an,?_,hnx.setCell (iy _) _⟩;have hbb:=kb.set k (.int .u8 s[k].toNat)
    have he:(((j38 s.data.toList k).flatMap jZ8).toArray).setIfInBounds k (.int .u8 s[k].toNat)=((j38 s.data.toList (k+1)).flatMap jZ8).toArray:=by
     rw[<-hset.out,jP8,jP8,List.map_map,List.map_map,List.map_set];simp[Function.comp];rfl
    rw[he] at hbb;exact hbb
   case measure=>simp[intOf];omega
  ·have hr : RL jZ8 wr (.slice (some ⟨w.heap.size, 0, none⟩) 32 32) (k64 s.data.toList) := by
     rw[<-jh0 (by rw[hlen.out];exact hk) hk2 (by rw[hlen.out];exact hlt)];have hl:=jS_ (s:=s.data.toList) (k:=k) (by rw[hlen.out];exact hk) hk2;refine⟨_,32,by rw[hl],by rw[hl];exact iy _,aE,.inr ⟨w.heap.size,0,rfl,fun j u hj=>?_⟩⟩;rw[jm,kb.cell j];simpa using hj
   have hcv:=jP0 (P:=Tryz.prog) (src:=123) (dst:=9) (k64 s.data.toList) Tryz.underlying123 Tryz.underlying5 Tryz.underlying9 hr;rw[<-hfit.out] at hcv;clear hr;go_wp2
   all_goals
    go_ret
    exact⟨rfl,hnx⟩
end Go.Proofs.YtlecmdajpfkaeaaGreatDoor
namespace Go.Proofs
open Go.Shelf Wb
def Tryz.lays99_ren:Go.Shelf.Ren:=⟨fun|99=>132|206=>158|n=>n,fun|9=>9|4=>4|3=>3|n=>n,fun|n=>n⟩
theorem Tryz.lays99:Go.Proofs.Lays.n99 Tryz.prog Tryz.lays99_ren:={
 mixed:=af
 f99:=Tryz.func132.trans (congrArg some af)
 f206:=Tryz.func158.trans (congrArg some af)
 t3:=Tryz.underlying3
 a3:=Tryz.isAgg3
 z3:=Tryz.sizeOf3
 v3:=Tryz.zeroValue3
 t4:=Tryz.underlying4
 a4:=Tryz.isAgg4
 z4:=Tryz.sizeOf4
 v4:=Tryz.zeroValue4
 t9:=Tryz.underlying9
 a9:=Tryz.isAgg9
 z9:=Tryz.sizeOf9
 v9:=Tryz.zeroValue9}
open Go.RowKit Go.Lib in
theorem Tryz.strings_HasPrefix(s p : ByteArray)(w : World) :Calls Tryz.prog 132 #[.string s,.string p] w fun e w'=>e=.returned (.bool (Lib.hasPrefix s.data.toList p.data.toList))/\w'=w:=Any.strings_HasPrefix Tryz.lays99 s p w
def Tryz.lays105_ren:Go.Shelf.Ren:=⟨fun|105=>99|212=>131|99=>132|165=>133|166=>134|170=>135|169=>136|263=>156|264=>157|206=>158|240=>159|241=>160|276=>169|277=>170|n=>n,fun|9=>9|3=>3|4=>4|20=>20|0=>0|46=>124|109=>175|5=>5|72=>180|76=>184|51=>202|146=>203|53=>205|148=>206|70=>178|37=>123|75=>183|127=>208|164=>213|80=>187|n=>n,fun|n=>n⟩
theorem Tryz.lays105:Go.Proofs.Lays.n105 Tryz.prog Tryz.lays105_ren:={
 mixed:=af
 f99:=Tryz.func132.trans (congrArg some af)
 f105:=Tryz.func99.trans (congrArg some af)
 f165:=Tryz.func133.trans (congrArg some af)
 f166:=Tryz.func134.trans (congrArg some af)
 f169:=Tryz.func136.trans (congrArg some af)
 f170:=Tryz.func135.trans (congrArg some af)
 f206:=Tryz.func158.trans (congrArg some af)
 f212:=Tryz.func131.trans (congrArg some af)
 f240:=Tryz.func159.trans (congrArg some af)
 f241:=Tryz.func160.trans (congrArg some af)
 f263:=Tryz.func156.trans (congrArg some af)
 f264:=Tryz.func157.trans (congrArg some af)
 f276:=Tryz.func169.trans (congrArg some af)
 f277:=Tryz.func170.trans (congrArg some af)
 t0:=Tryz.underlying0
 a0:=Tryz.isAgg0
 z0:=Tryz.sizeOf0
 v0:=Tryz.zeroValue0
 t3:=Tryz.underlying3
 a3:=Tryz.isAgg3
 z3:=Tryz.sizeOf3
 v3:=Tryz.zeroValue3
 t4:=Tryz.underlying4
 a4:=Tryz.isAgg4
 z4:=Tryz.sizeOf4
 v4:=Tryz.zeroValue4
 t5:=Tryz.underlying5
 a5:=Tryz.isAgg5
 z5:=Tryz.sizeOf5
 v5:=Tryz.zeroValue5
 t9:=Tryz.underlying9
 a9:=Tryz.isAgg9
 z9:=Tryz.sizeOf9
 v9:=Tryz.zeroValue9
 t20:=Tryz.underlying20
 a20:=Tryz.isAgg20
 z20:=Tryz.sizeOf20
 v20:=Tryz.zeroValue20
 t37:=Tryz.underlying123
 a37:=Tryz.isAgg123
 z37:=Tryz.sizeOf123
 v37:=Tryz.zeroValue123
 t46:=Tryz.underlying124
 a46:=Tryz.isAgg124
 z46:=Tryz.sizeOf124
 v46:=Tryz.zeroValue124
 t51:=Tryz.underlying202
 a51:=Tryz.isAgg202
 z51:=Tryz.sizeOf202
 v51:=Tryz.zeroValue202
 t53:=Tryz.underlying205
 a53:=Tryz.isAgg205
 z53:=Tryz.sizeOf205
 v53:=Tryz.zeroValue205
 t70:=Tryz.underlying178
 a70:=Tryz.isAgg178
 z70:=Tryz.sizeOf178
 v70:=Tryz.zeroValue178
 t72:=Tryz.underlying180
 a72:=Tryz.isAgg180
 z72:=Tryz.sizeOf180
 v72:=Tryz.zeroValue180
 t75:=Tryz.underlying183
 a75:=Tryz.isAgg183
 z75:=Tryz.sizeOf183
 v75:=Tryz.zeroValue183
 t76:=Tryz.underlying184
 a76:=Tryz.isAgg184
 z76:=Tryz.sizeOf184
 v76:=Tryz.zeroValue184
 t109:=Tryz.underlying175
 a109:=Tryz.isAgg175
 z109:=Tryz.sizeOf175
 v109:=Tryz.zeroValue175
 t127:=Tryz.underlying208
 a127:=Tryz.isAgg208
 z127:=Tryz.sizeOf208
 v127:=Tryz.zeroValue208
 t146:=Tryz.underlying203
 a146:=Tryz.isAgg203
 z146:=Tryz.sizeOf203
 v146:=Tryz.zeroValue203
 t148:=Tryz.underlying206
 a148:=Tryz.isAgg206
 z148:=Tryz.sizeOf206
 v148:=Tryz.zeroValue206
 t164:=Tryz.underlying213
 a164:=Tryz.isAgg213
 z164:=Tryz.sizeOf213
 v164:=Tryz.zeroValue213}
theorem Tryz.Builder_Extra_105:Builder.Extra Tryz.prog Tryz.lays105_ren:={
 sizeBuilder:=af
 liesBuilder:=af
 t5:=Tryz.underlying5
 a5:=Tryz.isAgg5
 z5:=Tryz.sizeOf5
 v5:=Tryz.zeroValue5
 infoByte:=af
 cellsByte:=af
 sizeByte:=af
 neB5:=ae}
open Go.RowKit Go.Lib in
theorem Tryz.strings_Repeat(s : ByteArray)(c : Nat)(w : World)(hc : c <= 9223372036854775807)(hlen : s.size * c <= 140737488355328) :Calls Tryz.prog 99 #[.string s,.int .i64 c] w fun e w'=>e=.returned (.string ⟨(Lib.repeatL s.data.toList c).toArray⟩)/\Below w.heap.size w w':=Any.strings_Repeat Tryz.lays105 Tryz.Builder_Extra_105 s c w hc hlen
end Go.Proofs
namespace Go.Proofs.YtlecmdajpfkaeaaGreatDoor
open Go.RowKit Wb
theorem k33(c:Nat):Lib.repeatL [0] c=List.replicate c (0:UInt8):=by
 induction c with
 |zero=>rfl
 |succ c ih=>rw[Lib.repeatL,ih,List.replicate_succ];rfl
theorem js9{x y:ByteArray}(h:x.data.toList=y.data.toList):x=y:=by
 rw[<-jO6 x,h,jO6 y]
theorem jo6(s : ByteArray)(w : World)(hs : s.size <= 9223372036854775807) :Calls Tryz.prog 65 #[.string s] w fun e w'=>e=.returned (.string (fit s))/\Below w.heap.size w w':=by
 by_cases hlt:s.size<32
 ·obtain⟨c,hc⟩:∃c:Nat,c+s.size=32:=⟨32-s.size,aa⟩;have hR:=fun w=>Tryz.strings_Repeat ⟨#[0]⟩ c w aa (by show 1*c<=_;omega)
  have hfit:fit s=s++⟨(Lib.repeatL [0] c).toArray⟩:=by
   apply js9;have hl:s.data.toList.length=s.size:=du;have e:32-s.data.toList.length=c:=aa;rw[k33];simp only[fit,str,k64,e,ByteArray.data_append,Array.toList_append];rw[iV aa]
  have hrl:(Lib.repeatL [0] c).length<=32:=by rw[k33,kB];omega
  have e1:(32-(s.size:Int))=(c:Int):=aa;replace hfit:=hid hfit;replace hR:=hid hR;generalize fit s=ft at*;go_enter Tryz.func65,Tryz.ntmps65
  go_wp2_with (go_at_call 99;refine(hR.out _).mono ?_;rintro e w1 ⟨rfl,hb1⟩)
  go_ret;exact⟨kn3 hfit.out.symm,hb1⟩
 ·have hfit : fit s = s.extract 0 32 := by
    apply js9;have hl:s.data.toList.length=s.size:=du;have e:32-s.data.toList.length=0:=aa;simp only[fit,str,k64,e,List.replicate_zero,i6];rw[Lib.extract_data];simp
  rw[hfit];go_enter Tryz.func65,Tryz.ntmps65;go_wp2;go_ret;exact⟨rfl,aj⟩
theorem jo7(d : Dsk)(n : Int)(t : ByteArray)(v : Value)(w : World)(hd : j_7 w v d)(hg : goodD d = true)(ha : jR6 n = true)(h32 : t.size = 32)(h200 : ¬ 200 <= d.writes.length) :Calls Tryz.prog 30 #[v,.int .i64 n,.string t] w fun e w'=>∃v',e=.returned (.tuple #[v',.int .i64 0])/\j_7 w' v' ⟨d.safe,d.writes++ [⟨n,t⟩]⟩/\js6 w.heap.size w' v v' d ⟨d.safe,d.writes++ [⟨n,t⟩]⟩/\Below w.heap.size w w':=by
 have hG:=fun w (hh:j_7 w v d)=>jU1 d v w hh;have hA:=fun w=>jo8 n w;rw[hg] at hG;rw[ha] at hA;have e1:((t.size:Int) != 32)=false:=by rw[h32];rfl
 have hd2:=hd;obtain⟨vs,vw,rfl,hs,hw,n1,n2⟩:=hd;obtain⟨a,cap,rfl,ca1,ca2⟩:=hs.form;obtain⟨b,bcap,rfl,cb1,cb2⟩:=hw.form;replace hd2:=hid hd2;clear hg ha h32;obtain⟨safe,writes⟩:=d;dsimp only at*;have hC:=fun v w (hh:RL wrC w v writes)=>jF6 writes v w hh n2;replace hG:=hid hG;replace hA:=hid hA;replace hC:=hid hC;replace hs:=hid hs;replace hw:=hid hw;go_enter Tryz.func30,Tryz.ntmps30
 go_wp2_with (first|(go_at_call 67;refine(hG.out _ (hd2.out.below aj)).mono ?_;rintro e w1 ⟨rfl,hb1⟩;obtain⟨hbc,hbf⟩:=j51 hb1;have hbz:=hb1.size;try simp only[iN,iJ,World.size_drew] at hbz;have hz0:=ir (n:=w.heap.size) aa hbz;have hz1:=ir (n:=w.heap.size+1) aa hbz)|(go_at_call 68;refine(hA.out _).mono ?_;rintro e w2 ⟨rfl,rfl⟩))
 have hnx:Below w.heap.size w w1:=aj;have k0:Blk w1 w.heap.size #[.slice a safe.length cap,.slice b writes.length bcap] 44:=((kk3 w _ _).alloc _).step hb1;have k1:Blk w1 (w.heap.size+1) #[.slice none 0 0,.slice none 0 0] 44:=(kl8 (w:=w.alloc _) ag).step hb1;have c0:=k0.cell 0;have c1:=k0.cell 1;simp only[Zga,Zgb,Zgc] at c0 c1;have hw1:=hid (hw.out.below hnx);clear hb1 hbc hbf hw hd2
 go_region_held3 (fun w'=>w'.cell? ⟨w.heap.size,0,none⟩=some (.slice a safe.length cap)/\w'.cell? ⟨w.heap.size,1,none⟩=some (.slice b writes.length bcap)) (first|exact⟨by with_reducible assumption,by with_reducible assumption⟩|go_keep) (first|(refine j14 44 _ _ ay ay #[.slice b writes.length bcap] ay ⟨_,_,Tryz.func44,af,rfl⟩ (hC.out _ _ (hw1.out.below aj)) ?_;rintro e w3 ⟨v3,rfl,hown3,hb3⟩;obtain⟨a3,cap3,rfl⟩:=hown3.form;have hz3:w1.heap.size<=w3.heap.size:=(by have h:=hb3.size;simp at h;omega);have k3:Blk w3 (w.heap.size+1) #[.slice none 0 0,.slice none 0 0] 44:=(by with_reducible(first|exact k1.drew.step hb3|exact(k1.alloc _).drew.step hb3));replace hown3:=hown3.mono (base':=w1.heap.size) ag;have hb13:Below w.heap.size w w3:=(by with_reducible(first|exact hnx.drew.trans (hb3.mono ah)|exact(j63 hnx aa _).drew.trans (hb3.mono ah)));have k03:Blk w3 w.heap.size #[.slice a safe.length cap,.slice b writes.length bcap] 44:=(by with_reducible(first|exact k0.drew.step hb3|exact(k0.alloc _).drew.step hb3));have p0:=k03.cell 0;have p1:=k03.cell 1;simp only[Zga,Zgb,Zgc] at p0 p1;refine⟨_,rfl,?_⟩)|(refine jZ_ ay _ _ 42 ay w1.heap.size _ 2 24 jO9 ji9 (hown3.alloc _) ay [⟨n,t⟩] (kl9 (f:=wrC) _ _ _ [⟨n,t⟩] bV) ay (by(try simp);omega) (by(try simp);unfold maxLen;omega) (by(try simp);omega) ?_;intro v4 w4 hown4 hb4 _;obtain⟨a4,cap4,rfl⟩:=hown4.form;have k4:=(k3.alloc _).below hb4 aa;have hb14:=(j63 hb13 aa _).trans (hb4.mono aa);have k04:=(k03.alloc _).below hb4 aa;have p2:=k04.cell 0;have p3:=k04.cell 1;simp only[Zga,Zgb,Zgc] at p2 p3;have f0:=k4.cell 0;have f1:=k4.cell 1;simp only[Zga,Zgb,Zgc] at f0 f1;have f2:=k4.free 0;have f3:=k4.free 1)|(refine jZ_ ay _ _ 42 ay w1.heap.size _ 2 24 jO9 ji9 hown3 ay [⟨n,t⟩] (kj5 (f:=wrC) (g:=w1.heap.size) [⟨n,t⟩] ((kl8 (w:=w1) ag).drew.step hb3) bV) ay (by(try simp);omega) (by(try simp);unfold maxLen;omega) (by(try simp);omega) ?_;intro v4 w4 hown4 hb4 _;obtain⟨a4,cap4,rfl⟩:=hown4.form;have k4:=k3.below hb4 aa;have hb14:=hb13.trans (hb4.mono aa);have k04:=k03.below hb4 aa;have p2:=k04.cell 0;have p3:=k04.cell 1;simp only[Zga,Zgb,Zgc] at p2 p3;have f0:=k4.cell 0;have f1:=k4.cell 1;simp only[Zga,Zgb,Zgc] at f0 f1;have f2:=k4.free 0;have f3:=k4.free 1))
 all_goals
  go_wp2
  have e4:(writes++ [(⟨n,t⟩:Wr)]).length=writes.length+1:=ag
  rw[e4] at hown4
  have l1:=k1.lt
  have hF:Below w.heap.size w ((w4.setCell ⟨w.heap.size+1,0,none⟩ (.slice a safe.length cap)).setCell ⟨w.heap.size+1,1,none⟩ (.slice a4 (writes.length+1) cap4)):=(hb14.setCell ag _).setCell ag _
  refine iL (v:=.tuple #[.agg #[.slice a safe.length cap,.slice a4 (writes.length+1) cap4],.int .i64 0]) (by simp[results,Tryz.results30,go_sem,f0,f1]) rfl ⟨_,rfl,⟨_,_,rfl,hs.out.below hF,?_,n1,ah⟩,⟨_,_,_,_,rfl,rfl,.same _ _ _ _ _,?_⟩,hF⟩
  ·exact((hown4.setCell ah _).setCell ah _).reads
  ·exact((hown4.setCell ah _).setCell ah _).slot aa
theorem fP{A:Prop}(h:A:=by
 exact iL (v:=.tuple #[.agg #[.slice a d.safe.length cap,.slice b d.writes.length bcap],.int .i64 2]) bR rfl ⟨_,rfl,hd2.out.below aj,hd2.out.same _,aj⟩):A:=h
theorem kU4(d : Dsk)(n : Int)(t : ByteArray)(v : Value)(w : World)(hd : j_7 w v d) :Calls Tryz.prog 30 #[v,.int .i64 n,.string t] w fun e w'=>∃v',e=.returned (.tuple #[v',.int .i64 (putE d n t)])/\j_7 w' v' (putD d n t)/\js6 w.heap.size w' v v' d (putD d n t)/\Below w.heap.size w w':=by
 have hG:=fun w (hh:j_7 w v d)=>jU1 d v w hh;have hA:=fun w=>jo8 n w;have hd2:=hd;obtain⟨vs,vw,rfl,hs,hw,n1,n2⟩:=hd;obtain⟨a,cap,rfl,_⟩:=hs.form;obtain⟨b,bcap,rfl,_⟩:=hw.form;replace hd2:=hid hd2;by_cases hg:goodD d=true
 ·rw[hg] at hG;by_cases ha:jR6 n=true
  ·have hg0:=hg;have ha0:=ha;rw[ha] at hA;have hgood:goodD d=true/\jR6 n=true:=⟨hg,ha⟩;by_cases h32:t.size=32
   ·have e1:((t.size:Int) != 32)=false:=by rw[h32];rfl
    by_cases h200:200<=d.writes.length
    ·have he:putE d n t=11:=by unfold putE;rw[ii (js hgood),ii (js h32),ij h200]
     have hv:putD d n t=d:=by unfold putD;rw[he,ii ae]
     rw[hv,he];clear ha hg hv he hs hw hgood h32;replace hG:=hid hG;replace hA:=hid hA;go_enter Tryz.func30,Tryz.ntmps30
     go_wp2_with (first|(go_at_call 67;refine(hG.out _ (hd2.out.below aj)).mono ?_;rintro e w1 ⟨rfl,hb1⟩;obtain⟨hbc,hbf⟩:=j51 hb1;have hbz:=hb1.size;try simp only[iN,iJ,World.size_drew] at hbz;have hz0:=ir (n:=w.heap.size) aa hbz;have hz1:=ir (n:=w.heap.size+1) aa hbz)|(go_at_call 68;refine(hA.out _).mono ?_;rintro e w2 ⟨rfl,rfl⟩))
     exact iL (v:=.tuple #[.agg #[.slice a d.safe.length cap,.slice b d.writes.length bcap],.int .i64 11]) bR rfl ⟨_,rfl,hd2.out.below aj,hd2.out.same _,aj⟩
    ·have he:putE d n t=0:=by unfold putE;rw[ii (js hgood),ii (js h32),ii h200]
     have hv:putD d n t=⟨d.safe,d.writes++ [⟨n,t⟩]⟩:=by unfold putD;rw[ij he]
     rw[hv,he];clear ha hg hv he hgood;exact jo7 d n t _ w hd2.out hg0 ha0 h32 h200
   ·have e1:((t.size:Int) != 32)=true:=jd.2 aa;have he:putE d n t=1:=by unfold putE;rw[ii (js hgood),ij h32]
    have hv:putD d n t=d:=by unfold putD;rw[he,ii ae]
    rw[hv,he];clear ha hg hv he hs hw hgood h32;replace hG:=hid hG;replace hA:=hid hA;go_enter Tryz.func30,Tryz.ntmps30
    go_wp2_with (first|(go_at_call 67;refine(hG.out _ (hd2.out.below aj)).mono ?_;rintro e w1 ⟨rfl,hb1⟩;obtain⟨hbc,hbf⟩:=j51 hb1;have hbz:=hb1.size;try simp only[iN,iJ,World.size_drew] at hbz;have hz0:=ir (n:=w.heap.size) aa hbz;have hz1:=ir (n:=w.heap.size+1) aa hbz)|(go_at_call 68;refine(hA.out _).mono ?_;rintro e w2 ⟨rfl,rfl⟩))
    exact iL (v:=.tuple #[.agg #[.slice a d.safe.length cap,.slice b d.writes.length bcap],.int .i64 1]) bR rfl ⟨_,rfl,hd2.out.below aj,hd2.out.same _,aj⟩
  ·have he:putE d n t=2:=by unfold putE;rw[ij (fun hh=>ha hh.2)]
   have hv:putD d n t=d:=by unfold putD;rw[he,ii ae]
   rw[hv,he];rw[iW _|>.mp ha] at hA;clear ha hg hv he;replace hG:=hid hG;replace hA:=hid hA;replace hs:=hid hs;replace hw:=hid hw;go_enter Tryz.func30,Tryz.ntmps30
   go_wp2_with (first|(go_at_call 67;refine(hG.out _ (hd2.out.below aj)).mono ?_;rintro e w1 ⟨rfl,hb1⟩;obtain⟨hbc,hbf⟩:=j51 hb1;have hbz:=hb1.size;try simp only[iN,iJ,World.size_drew] at hbz;have hz0:=ir (n:=w.heap.size) aa hbz;have hz1:=ir (n:=w.heap.size+1) aa hbz)|(go_at_call 68;refine(hA.out _).mono ?_;rintro e w2 ⟨rfl,rfl⟩))
   exact fP
 ·have he:putE d n t=2:=by unfold putE;rw[ij (fun hh=>hg hh.1)]
  have hv:putD d n t=d:=by unfold putD;rw[he,ii ae]
  rw[hv,he];rw[iW _|>.mp hg] at hG;clear hg hv he hs hw;replace hG:=hid hG;go_enter Tryz.func30,Tryz.ntmps30
  go_wp2_with (go_at_call 67;refine(hG.out _ (hd2.out.below aj)).mono ?_;rintro e w1 ⟨rfl,hb1⟩;obtain⟨hbc,hbf⟩:=j51 hb1;have hbz:=hb1.size;try simp only[iN,iJ,World.size_drew] at hbz;have hz0:=ir (n:=w.heap.size) aa hbz;have hz1:=ir (n:=w.heap.size+1) aa hbz)
  exact fP
theorem ja2(d : Dsk)(v : Value)(w : World)(hd : j_7 w v d) :Calls Tryz.prog 31 #[v] w fun e w'=>∃v',e=.returned (.tuple #[v',.int .i64 (flushE d)])/\j_7 w' v' (j55 d)/\js6 w.heap.size w' v v' d (j55 d)/\Below w.heap.size w w':=by
 have hG:=fun w (hh:j_7 w v d)=>jU1 d v w hh;have hd2:=hd;obtain⟨vs,vw,rfl,hs,hw,n1,n2⟩:=hd;obtain⟨a,cap,rfl,ca1,ca2⟩:=hs.form;obtain⟨b,bcap,rfl,cb1,cb2⟩:=hw.form;replace hd2:=hid hd2;by_cases hg:goodD d=true
 ·have he:flushE d=0:=by unfold flushE;rw[ij hg]
  have hv:j55 d=⟨flushL d.safe d.writes,[]⟩:=by unfold j55;rw[ij hg]
  rw[hv,he];rw[hg] at hG;obtain⟨g1,g2,_,g3⟩:=(j81 d).1 hg;clear he hv hg;obtain⟨safe,writes⟩:=d;dsimp only at*;have hC:=fun v w (hh:RL j42 w v safe)=>jT5 safe v w hh n1;have hstep:=fun(k:Nat) (hk:k<writes.length)=>ja6 safe writes hk;have hlen:=fun k=>jX1 safe (writes.take k);have hwr:=fun(k:Nat) (hk:k<writes.length)=>ja.1 g3 writes[k] (iM hk);replace hG:=hid hG;replace hC:=hid hC;replace hs:=hid hs;replace hw:=hid hw;replace hstep:=hid hstep;replace hlen:=hid hlen;replace hwr:=hid hwr;replace g1:=hid g1;clear g3;go_enter Tryz.func31,Tryz.ntmps31
  go_wp2_with (first|(go_at_call 67;refine(hG.out _ (hd2.out.below aj)).mono ?_;rintro e w1 ⟨rfl,hb1⟩;obtain⟨hbc,hbf⟩:=j51 hb1;have hbz:=hb1.size;try simp only[iN,iJ,World.size_drew] at hbz;have hz0:=ir (n:=w.heap.size) aa hbz;have hz1:=ir (n:=w.heap.size+1) aa hbz)|(go_at_call 43;(refine(hC.out _ _ (hs.out.below aj)).mono ?_;rintro e w3 ⟨v3,rfl,hown3,hb3⟩;obtain⟨a3,cap3,rfl⟩:=hown3.form;have k0:Blk w3 w.heap.size #[.slice a safe.length cap,.slice b writes.length bcap] 44:=(((kk3 w _ _).alloc _).step hb1).step hb3;have k1:Blk w3 (w.heap.size+1) #[.slice none 0 0,.slice none 0 0] 44:=((kl8 (w:=w.alloc _) ag).step hb1).step hb3;have hnx3:Below w.heap.size w w3:=aj;have lt1:=k1.lt;have lt0:=k0.lt;have c0:=k0.cell 0;have c1:=k0.cell 1;simp only[Zga,Zgb,Zgc] at c0 c1;have og:=fun g (hg:(Value.slice a3 safe.length cap3).ownBlock=some g)=>jE hown3 g hg;replace og:=hid og;have lz:=hb1.size;clear hb1 hb3 hbc hbf)))
  have hz1w:w.heap.size+1<w1.heap.size:=by(try simp at lz);omega
  have o0:=hown3
  go_loopw [6,18] (fun _ i wr=>∃k:Nat,k<=writes.length/\i=.int .i64 k/\Wb.Own j42 w1.heap.size 9 1 wr (.slice a3 safe.length cap3) (flushL safe (writes.take k))/\Blk wr w.heap.size #[.slice a safe.length cap,.slice b writes.length bcap] 44/\Blk wr (w.heap.size+1) #[.slice none 0 0,.slice none 0 0] 44/\Blk wr w3.heap.size #[.slice a3 safe.length cap3,.slice none 0 0] 44/\Below w.heap.size w wr) (fun _ i _=>writes.length-(intOf i).toNat)
  case atStart=>exact⟨0,iq _,rfl,o0.alloc _,k0.alloc _,k1.alloc _,kk3 _ _ _,j63 hnx3 aa _⟩
  case round=>
   obtain⟨k,hk,rfl,hown,k0,k1,k2,hnx⟩:=hrel;have lt0:=k0.lt;have lt1:=k1.lt;have lt2:=k2.lt;have c0:=k0.cell 0;have c1:=k0.cell 1;have c2:=k1.cell 0;have c3:=k1.cell 1;have c4:=k2.cell 0;have c5:=k2.cell 1;simp only[Zga,Zgb,Zgc] at c0 c1 c2 c3 c4 c5;by_cases hlt:k<writes.length
   ·obtain⟨b2,off,rfl,d0,d1⟩:=kj3 (fun x=>.int .i64 x.at_) (fun x=>.string x.text) (fun _=>rfl) (hw.out.below hnx) hlt;have lt3:=i0 _ _ d0;dsimp only at lt3;have hst:=hstep.out k hlt;have hwk:=hwr.out k hlt;have hl:=hlen.out k;obtain⟨⟨p,t⟩,hx⟩:∃x,writes[k]=x:=⟨_,rfl⟩;rw[hx] at d0 d1 hst hwk;obtain⟨m,rfl⟩:∃m:Nat,p=m:=⟨p.toNat,by simp only[jD9,iD,jR6,jY] at hwk;omega⟩;have hm:m<safe.length:=by simp only[jD9,iD,jR6,jY] at hwk;have:=g1.out;omega
    dsimp only at d0 d1;simp only[Int.toNat_natCast] at hst;generalize flushL safe (writes.take k)=fl at*;obtain⟨g,cap4,hv,hgb,hgl,hgc,hset⟩:=hown.poke j89 (k:=m) aa;simp only[i9] at hv;obtain⟨rfl,_,rfl⟩:=hv;obtain⟨z0,z1⟩:=hgc 0 ae;replace hset:=hset 0 t (.string t) ae rfl;rw[<-hst,jA,Nat.add_zero] at hset;simp only[jA,Nat.add_zero,j42,List.getElem?_cons_zero] at z0 z1;replace hset:=hid hset;have hne:=og.out g rfl;have hm3:m<fl.length:=aa;obtain⟨old,hold⟩:∃y,fl[m]=y:=⟨_,rfl⟩;rw[hold] at z1;clear hold hwk hst hx hown hgc hl hm3;have hm2:(m:Int)<safe.length:=aa;go_wp2;go_roundw
    case rel=>exact⟨k+1,aa,an,hset.out.alloc _,(k0.set_other _ _ ah).alloc _,(k1.set_other _ _ ah).alloc _,(k2.set_other _ _ ah).alloc _,j63 (hnx.setCell ah _) aa _⟩
    case measure=>simp[intOf];omega
   ·rw[iV aa] at hown;have f1:=k1.free 0;have f2:=k1.free 1;go_wp2;have hF:Below w.heap.size w ((wr.setCell ⟨w.heap.size+1,0,none⟩ (.slice a3 safe.length cap3)).setCell ⟨w.heap.size+1,1,none⟩ (.slice none 0 0)):=(hnx.setCell ag _).setCell ag _;have hfl:=jX1 safe writes;obtain⟨a9,cap9,hv9,_,_⟩:=hown.reads.form;have ho:=(hown.setCell (p:=⟨w.heap.size+1,0,none⟩) ah (.slice a3 safe.length cap3)).setCell (p:=⟨w.heap.size+1,1,none⟩) ah (.slice none 0 0);refine iL (v:=.tuple #[.agg #[.slice a3 safe.length cap3,.slice none 0 0],.int .i64 0]) (by simp[results,Tryz.results31,go_sem,c2,c3]) rfl ⟨_,rfl,⟨_,_,rfl,ho.reads,RL.nil _ _,by rw[hfl];exact n1,ag⟩,⟨_,_,_,_,rfl,rfl,ho.slot aa,.nil⟩,hF⟩
 ·have he:flushE d=2:=by unfold flushE;rw[ii hg]
  have hv:j55 d=d:=by unfold j55;rw[ii hg]
  rw[hv,he];rw[iW _|>.mp hg] at hG;clear hg hv he hs hw;replace hG:=hid hG;go_enter Tryz.func31,Tryz.ntmps31
  go_wp2_with (go_at_call 67;refine(hG.out _ (hd2.out.below aj)).mono ?_;rintro e w1 ⟨rfl,hb1⟩;obtain⟨hbc,hbf⟩:=j51 hb1;have hbz:=hb1.size;try simp only[iN,iJ,World.size_drew] at hbz;have hz0:=ir (n:=w.heap.size) aa hbz;have hz1:=ir (n:=w.heap.size+1) aa hbz)
  exact iL (v:=.tuple #[.agg #[.slice a d.safe.length cap,.slice b d.writes.length bcap],.int .i64 2]) (by simp[results,Tryz.results31,go_sem,hbc]) rfl ⟨_,rfl,hd2.out.below aj,hd2.out.same _,aj⟩
theorem kW1(s:ByteArray)(n:Int)(ws:List Wr):∃q,(afterL s n ws).length=q+1/\(afterL s n ws)[q]? =some (lastT s n ws):=by
 have h:=jH_ s n ws;rw[List.getLast?_eq_getElem?] at h;have hl:=(i4.1 h).1;exact⟨(afterL s n ws).length-1,aa,h⟩
theorem jt4(d : Dsk)(v : Value)(w : World)(hd : j_7 w v d) :Calls Tryz.prog 48 #[v] w fun e w'=>∃v',e=.returned (.tuple #[v',.int .i64 (flushE d)])/\j_7 w' v' (j55 d)/\js6 w.heap.size w' v v' d (j55 d)/\Below w.heap.size w w':=by
 have hG:=fun w (hh:j_7 w v d)=>j29 d v w hh;have hd2:=hd;obtain⟨vs,vw,rfl,hs,hw,n1,n2⟩:=hd;obtain⟨a,cap,rfl,ca1,ca2⟩:=hs.form;obtain⟨b,bcap,rfl,cb1,cb2⟩:=hw.form;replace hd2:=hid hd2;by_cases hg:goodD d=true
 ·have he:flushE d=0:=by unfold flushE;rw[ij hg]
  have hv:j55 d=⟨flushL d.safe d.writes,[]⟩:=by unfold j55;rw[ij hg]
  rw[hv,he];rw[hg] at hG;obtain⟨g1,g2,_,g3⟩:=(j81 d).1 hg;have hA:=fun(m:Nat) (hm:m<d.safe.length) w (hh:j_7 w (.agg #[.slice a d.safe.length cap,.slice b d.writes.length bcap]) d)=>jw7 d m _ w hh hm g2;have hE:=fun(m:Nat) (hm:m<d.safe.length)=>kW1 d.safe[m] m d.writes;have hM:=fun(m:Nat) (hm:m<d.safe.length)=>k_2 (fun n x=>lastT x n d.writes) d.safe hm;have hF:=kT7 d.safe d.writes g3;have hml:∀k,(List.take k (d.safe.mapIdx (fun n x=>lastT x n d.writes))).length<=37:=fun k=>by rw[iA,List.length_mapIdx];omega
  have hmn:(d.safe.mapIdx (fun n x=>lastT x n d.writes)).length=d.safe.length:=List.length_mapIdx;rw[<-hF];clear he hv hg hF g3;generalize hMM:d.safe.mapIdx (fun n x=>lastT x n d.writes)=M at*;replace hG:=hid hG;replace hA:=hid hA;replace hE:=hid hE;replace hM:=hid hM;replace hml:=hid hml;replace hmn:=hid hmn;replace g1:=hid g1;clear hs hw hMM;go_enter Tryz.func48,Tryz.ntmps48
  go_wp2_with (go_at_call 52;refine(hG.out _ (hd2.out.below aj)).mono ?_;rintro e w1 ⟨rfl,hb1⟩;obtain⟨hbc,hbf⟩:=j51 hb1;have hbz:=hb1.size;try simp only[iN,iJ,World.size_drew] at hbz;have hz0:=ir (n:=w.heap.size) aa hbz;have hz1:=ir (n:=w.heap.size+1) aa hbz;have k0:Blk w1 w.heap.size #[.slice a d.safe.length cap,.slice b d.writes.length bcap] 44:=((kk3 w _ _).alloc _).step hb1;have k1:Blk w1 (w.heap.size+1) #[.slice none 0 0,.slice none 0 0] 44:=(kl8 (w:=w.alloc _) ag).step hb1;have hnx3:Below w.heap.size w w1:=aj;have lt1:=k1.lt;have lt0:=k0.lt;have c0:=k0.cell 0;have c1:=k0.cell 1;simp only[Zga,Zgb,Zgc] at c0 c1;clear hb1 hbc hbf)
  go_loopw [5,6,15] (fun _ _ i wr=>∃k:Nat,k<=d.safe.length/\i=.int .i64 k/\ ∃vo,Wb.Own j42 (w1.heap.size+1) 9 1 wr vo (M.take k)/\Blk wr w.heap.size #[.slice a d.safe.length cap,.slice b d.writes.length bcap] 44/\Blk wr (w.heap.size+1) #[.slice none 0 0,.slice none 0 0] 44/\Blk wr w1.heap.size #[vo,.slice none 0 0] 44/\Below w.heap.size w wr) (fun _ _ i _=>d.safe.length-(intOf i).toNat)
  case atStart=>exact⟨0,iq _,rfl,_,Own.nil _ _ _ _ _,k0.alloc _,k1.alloc _,kk3 _ _ _,j63 hnx3 aa _⟩
  case round=>
   obtain⟨k,hk,rfl,vo,hown,k0,k1,k2,hnx⟩:=hrel;obtain⟨ao,capo,rfl⟩:=hown.form;have lt0:=k0.lt;have lt1:=k1.lt;have lt2:=k2.lt;have c0:=k0.cell 0;have c1:=k0.cell 1;have c2:=k1.cell 0;have c3:=k1.cell 1;have c4:=k2.cell 0;have c5:=k2.cell 1;simp only[Zga,Zgb,Zgc] at c0 c1 c2 c3 c4 c5;by_cases hlt:k<d.safe.length
   ·have hA:=hA.out k hlt;obtain⟨q,hq,hqv⟩:=hE.out k hlt;have hq2:=hid (i3 (Nat.le_of_eq hq.symm) (jV7 d.safe[k] k d.writes));have hM:=hM.out k hlt;generalize lastT d.safe[k] k d.writes=r at*;generalize afterL d.safe[k] k d.writes=ls at*;have hql:q<ls.length:=aa;have hqv:ls[q]=r:=by rw[ix hql] at hqv;exact kF hqv
    replace hqv:=hid hqv;replace hM:=hid hM;replace hA:=hid hA;have hml:=hml.out k;generalize M.take k=Mk at*;have hq201:=hq2.out
    go_wp2_with (go_at_call 53;(refine(hA.out _ (hd2.out.below (by with_reducible exact hnx))).mono ?_;rintro e w3 ⟨v3,rfl,hown3,hb3⟩;obtain⟨a3,cap3,rfl⟩:=hown3.form;obtain⟨b3,off3,rfl,d3⟩:=kl6 (fun x=>.string x) (fun _=>rfl) hown3.reads hql;rw[hqv.out] at d3;rw[hq];have hwq:IntKind.i64.wrap (q:Int)=q:=iz _ aa;have hqlt:(q:Int)<(q:Int)+1:=aa;have lt3:=i0 _ _ d3;dsimp only at lt3;have k0:=k0.step hb3;have k1:=k1.step hb3;have k2:=k2.step hb3;have hnx3:=hnx.trans (hb3.mono aa);have hown:=hown.below hb3;have c4:=k2.cell 0;have f4:=k2.free 0;simp only[Zga,Zgb,Zgc] at c4;have lt2:=k2.lt))
    go_region_law (first| (refine jZ_ ay _ _ 41 ay (w1.heap.size+1) _ 1 16 j89 jQ0 ((hown.alloc _).drew) ay [r] (kj5 (f:=j42) (g:=w3.heap.size) [r] ((kl8 (w:=w3) rfl).drew) bV) ay (by(try simp);omega) (by(try simp);unfold maxLen;omega) (by(try simp);omega) ?_;intro v4 w4 hown4 hb4 _;obtain⟨a4,cap4,rfl⟩:=hown4.form;have k4:=((k2.alloc _).drew).below hb4 aa;have f5:=k4.cell 0;simp only[Zga,Zgb,Zgc] at f5;have f6:=k4.free 0))
    all_goals
     go_wp2
     go_roundw
     case rel=>
      rw[kR1] at hown4;exact⟨k+1,aa,an,_,by rw[hM.out];exact hown4.setCell (p:=⟨w1.heap.size,0,none⟩) ag _,((k0.alloc _).drew.below hb4 aa).set_other _ _ ah,((k1.alloc _).drew.below hb4 aa).set_other _ _ ah,k4.set 0 _,((j63 hnx3 aa _).drew.trans (hb4.mono aa)).setCell ah _⟩
     case measure=>simp[intOf];omega
   ·have hkM:List.take k M=M:=iV (by rw[hmn.out];omega);rw[hkM] at hown k2 c4;clear hkM;have f1:=k1.free 0;have f2:=k1.free 1;go_wp2;have hmm:=hmn.out;have hF:Below w.heap.size w ((wr.setCell ⟨w.heap.size+1,0,none⟩ (.slice ao M.length capo)).setCell ⟨w.heap.size+1,1,none⟩ (.slice none 0 0)):=(hnx.setCell ag _).setCell ag _;have ho:=(hown.setCell (p:=⟨w.heap.size+1,0,none⟩) ah (.slice ao M.length capo)).setCell (p:=⟨w.heap.size+1,1,none⟩) ah (.slice none 0 0);refine iL (v:=.tuple #[.agg #[.slice ao M.length capo,.slice none 0 0],.int .i64 0]) (by simp[results,Tryz.results48,go_sem,c2,c3]) rfl ⟨_,rfl,⟨_,_,rfl,ho.reads,RL.nil _ _,by rw[hmm];exact n1,ag⟩,⟨_,_,_,_,rfl,rfl,ho.slot aa,.nil⟩,hF⟩
 ·have he:flushE d=2:=by unfold flushE;rw[ii hg]
  have hv:j55 d=d:=by unfold j55;rw[ii hg]
  rw[hv,he];rw[iW _|>.mp hg] at hG;clear hg hv he hs hw;replace hG:=hid hG;go_enter Tryz.func48,Tryz.ntmps48
  go_wp2_with (go_at_call 52;refine(hG.out _ (hd2.out.below aj)).mono ?_;rintro e w1 ⟨rfl,hb1⟩;obtain⟨hbc,hbf⟩:=j51 hb1;have hbz:=hb1.size;try simp only[iN,iJ,World.size_drew] at hbz;have hz0:=ir (n:=w.heap.size) aa hbz;have hz1:=ir (n:=w.heap.size+1) aa hbz)
  exact iL (v:=.tuple #[.agg #[.slice a d.safe.length cap,.slice b d.writes.length bcap],.int .i64 2]) (by simp[results,Tryz.results48,go_sem,hbc]) rfl ⟨_,rfl,hd2.out.below aj,hd2.out.same _,aj⟩
theorem kI1(w : World) :Calls Tryz.prog 28 #[] w fun e w'=>∃vs,e=.returned (.agg #[vs,.slice none 0 0])/\Wb.Own j42 (w.heap.size+2) 9 1 w' vs (List.replicate 37 (fit ⟨#[]⟩))/\Below w.heap.size w w':=by
 have hFit:=fun w=>jo6 ⟨#[]⟩ w ae;have hrep:=fun k=>(List.replicate_succ' (n:=k) (a:=fit ⟨#[]⟩));generalize fit ⟨#[]⟩=z at*;replace hFit:=hid hFit;replace hrep:=hid hrep;go_enter Tryz.func28,Tryz.ntmps28;go_wp2
 go_loopw [2] (fun i wr=>∃k:Nat,k<=37/\i=.int .i64 k/\ ∃vo,Wb.Own j42 (w.heap.size+2) 9 1 wr vo (List.replicate k z)/\Blk wr w.heap.size #[.slice none 0 0,.slice none 0 0] 44/\Blk wr (w.heap.size+1) #[vo,.slice none 0 0] 44/\Below w.heap.size w wr) (fun i _=>37-(intOf i).toNat)
 case atStart=>exact⟨0,ae,rfl,_,Own.nil _ _ _ _ _,(kk3 w _ _).alloc _,kl8 ag,aj⟩
 case round=>
  obtain⟨k,hk,rfl,vo,hown,k0,k1,hnx⟩:=hrel;obtain⟨ao,capo,rfl⟩:=hown.form;have lt0:=k0.lt;have lt1:=k1.lt;have c0:=k0.cell 0;have c1:=k0.cell 1;have c2:=k1.cell 0;have c3:=k1.cell 1;simp only[Zga,Zgb,Zgc] at c0 c1 c2 c3;have hkl:(List.replicate k z).length=k:=kB;rw[hkl] at hown k1 c2;clear hkl;by_cases hlt:k<37
  ·have hr:=hid (hrep.out k);have hlen:(List.replicate k z).length=k:=kB;generalize List.replicate k z=Mk at*;go_wp2
   go_region_law (first|(refine j14 65 _ _ ay ay #[.string ⟨#[]⟩] ay ⟨_,_,Tryz.func65,af,rfl⟩ (hFit.out _) ?_;rintro e w3 ⟨rfl,hb3⟩;refine⟨_,rfl,?_⟩;have k0':=k0.drew.step hb3;have k1':=k1.drew.step hb3;have c2':=k1'.cell 0;simp only[Zga,Zgb,Zgc] at c2';have hown3:=hown.drew.below hb3;have hnx3:=hnx.drew.trans (hb3.mono ah);have lt1':=k1'.lt)|(refine jW7 ay _ _ 41 ay (w.heap.size+2) _ 1 16 j89 jQ0 (hown3.alloc _) ay z w3.heap.size (kl8 (w:=w3) rfl) ay ay k hlen aa aa (by(try simp);omega) ?_;intro a4 cap4 w4 hown4 hb4 _;have k4:=(k1'.alloc _).below hb4 aa;have f5:=k4.cell 0;simp only[Zga,Zgb,Zgc] at f5;have f6:=k4.free 0))
   all_goals
    go_wp2
    go_roundw
    case rel=>exact⟨k+1,aa,an,_,by rw[hr.out];exact hown4.setCell (p:=⟨w.heap.size+1,0,none⟩) ag _,((k0'.alloc _).below hb4 aa).set_other _ _ ag,k4.set 0 _,((j63 hnx3 aa _).trans (hb4.mono aa)).setCell ag _⟩
    case measure=>simp[intOf];omega
  ·obtain rfl:k=37:=by omega
   have f1:=k0.free 0;have f2:=k0.free 1;go_wp2;have hF:Below w.heap.size w ((wr.setCell ⟨w.heap.size,0,none⟩ (.slice ao 37 capo)).setCell ⟨w.heap.size,1,none⟩ (.slice none 0 0)):=(hnx.setCell ag _).setCell ag _;have ho:=(hown.setCell (p:=⟨w.heap.size,0,none⟩) ag (.slice ao 37 capo)).setCell (p:=⟨w.heap.size,1,none⟩) ag (.slice none 0 0);exact iL (v:=.agg #[.slice ao 37 capo,.slice none 0 0]) (by simp[results,Tryz.results28,go_sem,c0,c1]) rfl ⟨_,rfl,ho,hF⟩
def fillL(z:ByteArray)(k:Nat):List ByteArray:=List.replicate k z++List.replicate (37-k) ⟨#[]⟩
theorem kT3(z:ByteArray){k:Nat}(hk:k<37):(fillL z k).set k z=fillL z (k+1):=by
 unfold fillL;rw[mr _ _ ag,kB,Nat.sub_self,show 37-k=(37-(k+1))+1 from aa,List.replicate_succ,List.set_cons_zero,List.replicate_succ',iE];rfl
theorem kT2(z:ByteArray){k:Nat}(hk:k<=37):(fillL z k).length=37:=by simp[fillL];omega
theorem k96(w : World) :Calls Tryz.prog 15 #[] w fun e w'=>∃vs,e=.returned (.agg #[vs,.slice none 0 0])/\Wb.Own j42 (w.heap.size+1) 9 1 w' vs (List.replicate 37 (fit ⟨#[]⟩))/\Below w.heap.size w w':=by
 have hFit:=fun w=>jL6 ⟨#[]⟩ w ae;generalize fit ⟨#[]⟩=z at*;have hmk:∀w,(Instr.makeSlice 41 (Value.int IntKind.i64 37) (Value.int IntKind.i64 37)).run Tryz.prog w=.ok (.slice (some ⟨w.heap.size,0,none⟩) 37 37) (w.alloc (.cells (List.replicate 37 (Value.string ⟨#[]⟩)).toArray 9)):=fun _=>af;have hrow:((List.replicate 37 (⟨#[]⟩:ByteArray)).flatMap j42).toArray=(List.replicate 37 (Value.string ⟨#[]⟩)).toArray:=rfl;generalize (List.replicate 37 (Value.string ⟨#[]⟩)).toArray=row at*;have hset:=fun(k:Nat) (hk:k<37)=>kT3 z hk;have hlen:=fun(k:Nat) (hk:k<=37)=>kT2 z hk;have hfull:fillL z 37=List.replicate 37 z:=by simp[fillL]
 have hnone:fillL z 0=List.replicate 37 ⟨#[]⟩:=by simp[fillL]
 rw[<-hfull];replace hFit:=hid hFit;replace hrow:=hid hrow;replace hset:=hid hset;replace hlen:=hid hlen;replace hnone:=hid hnone;clear hfull;go_enter Tryz.func15,Tryz.ntmps15;go_wp2
 go_loopw [2,8] (fun _ i wr=>∃k:Nat,k<=37/\i=.int .i64 k/\Wb.Own j42 (w.heap.size+1) 9 1 wr (.slice (some ⟨w.heap.size+1,0,none⟩) 37 37) (fillL z k)/\Blk wr w.heap.size #[.slice none 0 0,.slice none 0 0] 44/\Blk wr (w.heap.size+2) #[.slice (some ⟨w.heap.size+1,0,none⟩) 37 37,.slice none 0 0] 44/\Below w.heap.size w wr) (fun _ i _=>37-(intOf i).toNat)
 case atStart=>
  refine⟨0,ae,rfl,?_,((kk3 w _ _).alloc _).alloc _,kl8 ag,aj⟩;rw[hnone.out];exact(Own.lit j89 (w.heap.size+1) 9 (w.alloc _) (List.replicate 37 ⟨#[]⟩) ag (by simp[maxLen]) hrow.out ag ag).alloc _
 case round=>
  obtain⟨k,hk,rfl,hown,k0,k2,hnx⟩:=hrel;have lt0:=k0.lt;have lt2:=k2.lt;have c0:=k0.cell 0;have c1:=k0.cell 1;have c2:=k2.cell 0;have c3:=k2.cell 1;simp only[Zga,Zgb,Zgc] at c0 c1 c2 c3;by_cases hlt:k<37
  ·have hst:=hset.out k hlt;have hln:=hlen.out k hk;replace hst:=hid hst;have hkl:k<(fillL z k).length:=aa;clear hln;generalize fillL z k=fl at*;go_wp2
   go_region_law (first|(refine j14 45 _ _ ay ay #[.string ⟨#[]⟩] ay ⟨_,_,Tryz.func45,af,rfl⟩ (hFit.out _) ?_;rintro e w3 ⟨rfl,hb3⟩;refine⟨_,rfl,?_⟩;have k0':=k0.drew.step hb3;have k2':=k2.drew.step hb3;have c2':=k2'.cell 0;simp only[Zga,Zgb,Zgc] at c2';have hown3:=hown.drew.below hb3;have hnx3:=hnx.drew.trans (hb3.mono ah);have lt2':=k2'.lt;obtain⟨g,cap4,hv,hgb,hgl,hgc,hset3⟩:=hown3.poke j89 hkl;simp only[i9,iO,jJ] at hv;obtain⟨⟨rfl,_⟩,h37,rfl⟩:=hv;clear h37;obtain⟨z0,z1⟩:=hgc 0 ae;replace hset3:=hset3 0 z (.string z) ae rfl;rw[hst.out,jA,Nat.add_zero] at hset3;simp only[jA,Nat.add_zero,j42,List.getElem?_cons_zero] at z0 z1;replace hset3:=hid hset3;generalize fl[k]=old at z1;clear hgc))
   all_goals
    go_wp2
    go_roundw
    case rel=>exact⟨k+1,aa,an,hset3.out,k0'.set_other _ _ ag,k2'.set_other _ _ ag,hnx3.setCell ag _⟩
    case measure=>simp[intOf];omega
  ·obtain rfl:k=37:=by omega
   have f1:=k0.free 0;have f2:=k0.free 1;go_wp2;have hF:Below w.heap.size w ((wr.setCell ⟨w.heap.size,0,none⟩ (.slice (some ⟨w.heap.size+1,0,none⟩) 37 37)).setCell ⟨w.heap.size,1,none⟩ (.slice none 0 0)):=(hnx.setCell ag _).setCell ag _;have ho:=(hown.setCell (p:=⟨w.heap.size,0,none⟩) ag (.slice (some ⟨w.heap.size+1,0,none⟩) 37 37)).setCell (p:=⟨w.heap.size,1,none⟩) ag (.slice none 0 0);exact iL (v:=.agg #[.slice (some ⟨w.heap.size+1,0,none⟩) 37 37,.slice none 0 0]) (by simp[results,Tryz.results15,go_sem,c0,c1]) rfl ⟨_,rfl,ho,hF⟩
end Go.Proofs.YtlecmdajpfkaeaaGreatDoor