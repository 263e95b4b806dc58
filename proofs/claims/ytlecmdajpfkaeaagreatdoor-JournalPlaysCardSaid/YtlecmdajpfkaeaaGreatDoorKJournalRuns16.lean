/- Parts of the proof. -/
import Derived.Test.YtlecmdajpfkaeaaGreatDoorKJournalRuns15
import Derived.Test.YtlecmdajpfkaeaaGreatDoorKJournalRuns12
import Derived.Test.YtlecmdajpfkaeaaGreatDoorKJournalRuns10
set_option linter.unusedVariables false
set_option linter.unusedSimpArgs false
set_option maxRecDepth 100000
set_option maxHeartbeats 40000000
namespace Wb
open Go Go.RowKit
theorem kW5{t:Txn}{k:Nat}(hk:k<t.rev.length)(h:(!hasB t.mt t.rev[k]&& !hasB t.dt t.rev[k])=false):apart t=false:=by
 unfold apart;rw[jF5 (p:=fun b=> !hasB t.mt b&& !hasB t.dt b) hk h];rfl
theorem kK4{t:Txn}{k:Nat}(hk:k<t.mt.length)(h:(!hasB t.dt t.mt[k].block)=false):apart t=false:=by
 unfold apart;rw[jF5 (p:=fun c:Cpy=> !hasB t.dt c.block) hk h,Bool.and_false]
theorem kW6{t:Txn}(h1:∀k (hk:k<t.rev.length),(!hasB t.mt t.rev[k]&& !hasB t.dt t.rev[k])=true)(h2:∀k (hk:k<t.mt.length),(!hasB t.dt t.mt[k].block)=true):apart t=true:=by
 unfold apart;rw[iD,ja,ja];refine⟨fun x hx=>?_,fun x hx=>?_⟩
 ·obtain⟨k,hk,rfl⟩:=i_.1 hx;exact h1 k hk
 ·obtain⟨k,hk,rfl⟩:=i_.1 hx;exact h2 k hk
end Wb
namespace Go.Proofs.YtlecmdajpfkaeaaGreatDoor
open Go.RowKit Wb
theorem km_(w : World)(o0 o1 o2 : Bool)(l0 l1 l2 : Int) :(Instr.index 49 (.agg #[.bool o0,.int .i64 l0,.bool o1,.int .i64 l1,.bool o2,.int .i64 l2]) (.int .i64 0)).run Tryz.prog w=.ok (.agg #[.bool o0,.int .i64 l0]) w/\(Instr.index 49 (.agg #[.bool o0,.int .i64 l0,.bool o1,.int .i64 l1,.bool o2,.int .i64 l2]) (.int .i64 1)).run Tryz.prog w=.ok (.agg #[.bool o1,.int .i64 l1]) w/\(Instr.index 49 (.agg #[.bool o0,.int .i64 l0,.bool o1,.int .i64 l1,.bool o2,.int .i64 l2]) (.int .i64 2)).run Tryz.prog w=.ok (.agg #[.bool o2,.int .i64 l2]) w:=
 ⟨af,af,af⟩
theorem eD{A:Prop}(h:A:=by
 have hgf:=hid (hnh.out hoo);have hof2:¬(0<=lf/\lf<=24/\(o=true\/lf=0)):=fun h=>bJ;clear hof hoo;by_cases q1:lf<0
 ·clear hof2;go_wp2;go_ret;exact⟨j6_ hgf.out.symm,bal nx _⟩
 ·by_cases q2:24<lf
  ·clear hof2;go_wp2;go_ret;exact⟨j6_ hgf.out.symm,bal nx _⟩
  ·have q3:(lf != 0)=true:=jd.2 (fun hz=>hof2 ⟨aa,aa,.inr hz⟩)
   have q4:o=false:=by
    cases o
    ·rfl
    ·exact absurd ⟨aa,aa,.inl rfl⟩ hof2
   subst q4;clear hof2;go_wp2;go_ret;exact⟨j6_ hgf.out.symm,bal nx _⟩):A:=h
theorem eK{A:Prop}(h:A:=by
 have hDb:=hid (fun w' nx=>a_);clear hh1 hh2 hnA hyA
 go_wp2_with (go_at_call 142;((with_reducible refine(hBk.out _).mono ?_);rintro e w1 ⟨rfl,rfl⟩))
 go_wp2_with (go_at_call_of 122 (Value.slice am t.mt.length cm);((with_reducible refine(hMb.out _ nx).mono ?_);rintro e w2 ⟨rfl,hb2⟩;replace k0:=k0.step hb2;replace nx:=bgo nx hb2;clear e0 e1 e2 e3 e4 e5 e6 e7 e8 e9 l0;obtain⟨e0,e1,e2,e3,e4,e5,e6,e7,e8,e9⟩:=k0.c10;have l0:=k0.lt))
 go_wp2_with (go_at_call_of 122 (Value.slice ad t.dt.length cd);((with_reducible refine(hDb.out _ nx).mono ?_);rintro e w2 ⟨rfl,hb2⟩;replace k0:=k0.step hb2;replace nx:=bgo nx hb2;clear e0 e1 e2 e3 e4 e5 e6 e7 e8 e9 l0;obtain⟨e0,e1,e2,e3,e4,e5,e6,e7,e8,e9⟩:=k0.c10;have l0:=k0.lt))
 go_ret;exact⟨j6_ hv.out.symm,nx⟩):A:=h
theorem e_{A:Prop}(h:A:=by
 have hMb:=hid (fun w' nx=>bT);clear hh1 hDb hnA hyA
 go_wp2_with (go_at_call 142;((with_reducible refine(hBk.out _).mono ?_);rintro e w1 ⟨rfl,rfl⟩))
 go_wp2_with (go_at_call_of 122 (Value.slice am t.mt.length cm);((with_reducible refine(hMb.out _ nx).mono ?_);rintro e w2 ⟨rfl,hb2⟩;replace k0:=k0.step hb2;replace nx:=bgo nx hb2;clear e0 e1 e2 e3 e4 e5 e6 e7 e8 e9 l0;obtain⟨e0,e1,e2,e3,e4,e5,e6,e7,e8,e9⟩:=k0.c10;have l0:=k0.lt))
 go_ret;exact⟨j6_ hv.out.symm,nx⟩):A:=h
theorem gq{A:Prop}(h:A:=by
 go_wp2_with (go_at_call 142;((with_reducible refine(hBk.out _).mono ?_);rintro e w1 ⟨rfl,rfl⟩))
 go_ret;exact⟨j6_ hv.out.symm,nx⟩):A:=h
theorem jO8(t : Txn)(v : Value)(w : World)(h : j17 w v t) :Calls Tryz.prog 109 #[v] w fun e w'=>e=.returned (.bool (goodT t))/\Below w.heap.size w w':=by
 obtain⟨vm,vd,vr,rfl,hm,hd,hr,n1,n2,n3⟩:=h;obtain⟨am,cm,rfl,_⟩:=hm.form;obtain⟨ad,cd,rfl,_⟩:=hd.form;obtain⟨ar,cr,rfl,_⟩:=hr.form;have hng:=fun hh=>jB_ (t:=t) hh;have hyes:=fun h1 h2 h3 h4 h5 h6 h7 h8=>(j22 t).2 ⟨h1,h2,h3,h4,h5,h6,h7,h8⟩;have hi3:=fun w=>km_ w t.h0.on t.h1.on t.h2.on t.h0.left t.h1.left t.h2.left;have hCm:=fun w' (nx:Below w.heap.size w w')=>jo_ t.mt _ w' (hm.below nx) n1;have hCd:=fun w' (nx:Below w.heap.size w w')=>jo_ t.dt _ w' (hd.below nx) n2;have har:=fun k hk hh=>kW5 (t:=t) (k:=k) hk hh;have ham:=fun k hk hh=>kK4 (t:=t) (k:=k) hk hh;have hay:=fun h1 h2=>kW6 (t:=t) h1 h2;unfold j84;generalize goodT t=gT at*;have k0:=kk3 w #[.int .i64 t.seq,.slice am t.mt.length cm,.slice ad t.dt.length cd,.slice ar t.rev.length cr,.bool t.h0.on,.int .i64 t.h0.left,.bool t.h1.on,.int .i64 t.h1.left,.bool t.h2.on,.int .i64 t.h2.left] 51;have nx:=bal (b0 w) (.cells #[.int .i64 t.seq,.slice am t.mt.length cm,.slice ad t.dt.length cd,.slice ar t.rev.length cr,.bool t.h0.on,.int .i64 t.h0.left,.bool t.h1.on,.int .i64 t.h1.left,.bool t.h2.on,.int .i64 t.h2.left] 51);obtain⟨e0,e1,e2,e3,e4,e5,e6,e7,e8,e9⟩:=k0.c10;have l0:=k0.lt;replace hm:=hid hm;replace hd:=hid hd;replace hr:=hid hr;replace hng:=hid hng;replace hyes:=hid hyes;replace hi3:=hid hi3;replace har:=hid har;replace ham:=hid ham;replace hay:=hid hay;have COPM:=hid hCm;have COPD:=hid hCd;clear hCm hCd;by_cases hs1:t.seq<1
 ·have hv:=hid (hng.out (.inl (iH aa)));go_enter Tryz.func109,Tryz.ntmps109;go_wp2;go_ret;exact⟨j6_ hv.out.symm,nx⟩
 by_cases hs2:2147483647<t.seq
 ·have hv:=hid (hng.out (.inl (iH aa)));go_enter Tryz.func109,Tryz.ntmps109;go_wp2;go_ret;exact⟨j6_ hv.out.symm,nx⟩
 have hsq:k87 t.seq=true:=iG aa
 cases hcm:copiesB t.mt with
 |false=>
  have hv:=hid (hng.out (.inr (.inl hcm)))
  have C1:=COPM.out _ nx
  rw[hcm] at C1
  replace C1:=hid C1
  clear hcm
  go_enter Tryz.func109,Tryz.ntmps109
  go_wp2_with (go_at_call_of 141 (Value.slice am t.mt.length cm);((with_reducible refine C1.out.mono ?_);rintro e w1 ⟨rfl,hb1⟩;replace nx:=bgo nx hb1))
  go_ret
  exact⟨j6_ hv.out.symm,nx⟩
 |true=>
 have C1:=COPM.out _ nx;rw[hcm] at C1
 cases hcd:copiesB t.dt with
 |false=>
  have hv:=hid (hng.out (.inr (.inr (.inl hcd))))
  have C2:=fun w' nx=>COPD.out w' nx
  rw[hcd] at C2
  replace C1:=hid C1;replace C2:=hid C2
  clear hcm hcd
  go_enter Tryz.func109,Tryz.ntmps109
  go_wp2_with (go_at_call_of 141 (Value.slice am t.mt.length cm);((with_reducible refine C1.out.mono ?_);rintro e w1 ⟨rfl,hb1⟩;replace k0:=k0.step hb1;replace nx:=bgo nx hb1;clear e0 e1 e2 e3 e4 e5 e6 e7 e8 e9 l0;obtain⟨e0,e1,e2,e3,e4,e5,e6,e7,e8,e9⟩:=k0.c10;have l0:=k0.lt))
  go_wp2_with (go_at_call_of 141 (Value.slice ad t.dt.length cd);((with_reducible refine(C2.out _ nx).mono ?_);rintro e w1 ⟨rfl,hb1⟩;replace nx:=bgo nx hb1))
  go_ret
  exact⟨j6_ hv.out.symm,nx⟩
 |true=>
 have C2:=fun w' nx=>COPD.out w' nx;rw[hcd] at C2;replace C1:=hid C1;replace C2:=hid C2;have hcm':=hid hcm;have hcd':=hid hcd;have hcm:rise (blks t.mt)=true:=by unfold copiesB at hcm;rw[iD] at hcm;exact hcm.1
 have hcd:rise (blks t.dt)=true:=by unfold copiesB at hcd;rw[iD] at hcd;exact hcd.1
 replace hcm:=hid hcm;replace hcd:=hid hcd;replace hsq:=hid hsq;clear COPM COPD;go_enter Tryz.func109,Tryz.ntmps109
 go_wp2_with (go_at_call_of 141 (Value.slice am t.mt.length cm);((with_reducible refine C1.out.mono ?_);rintro e w1 ⟨rfl,hb1⟩;replace k0:=k0.step hb1;replace nx:=bgo nx hb1;clear e0 e1 e2 e3 e4 e5 e6 e7 e8 e9 l0;obtain⟨e0,e1,e2,e3,e4,e5,e6,e7,e8,e9⟩:=k0.c10;have l0:=k0.lt))
 go_wp2_with (go_at_call_of 141 (Value.slice ad t.dt.length cd);((with_reducible refine(C2.out _ nx).mono ?_);rintro e w2 ⟨rfl,hb2⟩;replace k0:=k0.step hb2;replace nx:=bgo nx hb2;clear e0 e1 e2 e3 e4 e5 e6 e7 e8 e9 l0;obtain⟨e0,e1,e2,e3,e4,e5,e6,e7,e8,e9⟩:=k0.c10;have l0:=k0.lt))
 clear C1 C2 hb1 hb2
 go_loopw [3,4,32] (fun _ _ i wr=>∃k:Nat,k<=t.rev.length/\i=.int .i64 k/\Hid (jR3 t.rev k)/\Hid (∀j,j<k->∀(hj:j<t.rev.length),(!hasB t.mt t.rev[j]&& !hasB t.dt t.rev[j])=true)/\Blk wr w.heap.size #[.int .i64 t.seq,.slice am t.mt.length cm,.slice ad t.dt.length cd,.slice ar t.rev.length cr,.bool t.h0.on,.int .i64 t.h0.left,.bool t.h1.on,.int .i64 t.h1.left,.bool t.h2.on,.int .i64 t.h2.left] 51/\Below w.heap.size w wr) (fun _ _ i _=>t.rev.length-(intOf i).toNat)
 case atStart=>exact⟨0,iq _,rfl,hid (fun j hj=>absurd hj (jl j)),hid (fun j hj=>absurd hj (jl j)),k0,nx⟩
 case round=>
  clear k0 nx e0 e1 e2 e3 e4 e5 e6 e7 e8 e9 l0;obtain⟨k,hk,rfl,hri,hap,k0,nx⟩:=hrel;obtain⟨e0,e1,e2,e3,e4,e5,e6,e7,e8,e9⟩:=k0.c10;have l0:=k0.lt;by_cases hlt:k<t.rev.length
  ·obtain⟨b1,o1,rfl,d0⟩:=kl6 (fun x=>.int .i64 x) (fun _=>rfl) (hr.out.below nx) hlt;have hgd:t.rev.getD k 0=t.rev[k]:=by simp[hlt]
   have hno:=hid (show¬j61 t.rev k->gT=false from fun hh=>hng.out (.inr (.inr (.inr (.inl (jl7 hlt hh))))));have hnA:=hid (show(!hasB t.mt t.rev[k]&& !hasB t.dt t.rev[k])=false->gT=false from fun hh=>hng.out (.inr (.inr (.inr (.inr (.inl (har.out k hlt hh)))))))
   have hyA:=hid (show(!hasB t.mt t.rev[k]&& !hasB t.dt t.rev[k])=true->∀j,j<k+1->∀(hj:j<t.rev.length),(!hasB t.mt t.rev[j]&& !hasB t.dt t.rev[j])=true from fun hh j hj hj2=>by
    by_cases e:j=k
    ·subst e;exact hh
    ·exact hap.out j aa hj2)
   have hBk:=ju2 t.rev[k];by_cases hb:isBlk t.rev[k]=true
   ·have hb':=iF hb;have hBk:=fun w=>hBk w;rw[hb] at hBk;replace hBk:=hid hBk;rcases kC k with hk0|hk0
    ·subst hk0;have hr1:=hid (j30 hri.out (show j61 t.rev 0 from by unfold j61;rw[hgd];exact⟨hb'.1,hb'.2,fun h=>absurd h (lI 0)⟩));simp only[Nat.add_zero] at d0;clear hno hgd hb hb' hri hap;generalize t.rev[0]=x at*;have hMb:=hid (fun w' (nx:Below w.heap.size w w')=>j20 t.mt x _ w' hcm.out (hm.out.below nx) n1);have hDb:=hid (fun w' (nx:Below w.heap.size w w')=>j20 t.dt x _ w' hcd.out (hd.out.below nx) n2);by_cases hh1:hasB t.mt x=true
     ·have hv:=hid (hnA.out (by rw[hh1];rfl));exact e_
     ·rw[iW] at hh1;have hMb:=hid (fun w' nx=>bT);by_cases hh2:hasB t.dt x=true
      ·have hv:=hid (hnA.out (by rw[hh1,hh2];rfl));exact eK
      ·rw[iW] at hh2;have hDb:=hid (fun w' nx=>a_);have hy:=hid (hyA.out (by rw[hh1,hh2];rfl));clear hh1 hh2 hnA hyA
       go_wp2_with (go_at_call 142;((with_reducible refine(hBk.out _).mono ?_);rintro e w1 ⟨rfl,rfl⟩))
       go_wp2_with (go_at_call_of 122 (Value.slice am t.mt.length cm);((with_reducible refine(hMb.out _ nx).mono ?_);rintro e w2 ⟨rfl,hb2⟩;replace k0:=k0.step hb2;replace nx:=bgo nx hb2;clear e0 e1 e2 e3 e4 e5 e6 e7 e8 e9 l0;obtain⟨e0,e1,e2,e3,e4,e5,e6,e7,e8,e9⟩:=k0.c10;have l0:=k0.lt))
       go_wp2_with (go_at_call_of 122 (Value.slice ad t.dt.length cd);((with_reducible refine(hDb.out _ nx).mono ?_);rintro e w2 ⟨rfl,hb2⟩;replace k0:=k0.step hb2;replace nx:=bgo nx hb2;clear e0 e1 e2 e3 e4 e5 e6 e7 e8 e9 l0;obtain⟨e0,e1,e2,e3,e4,e5,e6,e7,e8,e9⟩:=k0.c10;have l0:=k0.lt))
       go_roundw
       case rel=>exact⟨0+1,aa,an,hr1,hy,k0,nx⟩
       case measure=>simp[intOf];omega
    ·obtain⟨j,rfl⟩:∃j,k=j+1:=⟨k-1,aa⟩;have hlj:j<t.rev.length:=aa;obtain⟨b2,off2,hbb,d2⟩:=kl6 (fun x=>.int .i64 x) (fun _=>rfl) (hr.out.below nx) hlj;simp only[iO,jJ] at hbb;obtain⟨rfl,rfl,_⟩:=hbb;have hgj:t.rev.getD j 0=t.rev[j]:=by simp[hlj]
     have hiff:j61 t.rev (j+1)↔t.rev[j]<t.rev[j+1]:=by
      unfold j61;rw[hgd,lq,hgj];exact gA
     by_cases hlt2:t.rev[j]<t.rev[j+1]
     ·have hr1:=hid (j30 hri.out (hiff.2 hlt2));clear hno hgd hgj hb hb' hri hap hiff;generalize t.rev[j+1]=x at*;generalize t.rev[j]=y at*;have hMb:=hid (fun w' (nx:Below w.heap.size w w')=>j20 t.mt x _ w' hcm.out (hm.out.below nx) n1);have hDb:=hid (fun w' (nx:Below w.heap.size w w')=>j20 t.dt x _ w' hcd.out (hd.out.below nx) n2);by_cases hh1:hasB t.mt x=true
      ·have hv:=hid (hnA.out (by rw[hh1];rfl));exact e_
      ·rw[iW] at hh1;have hMb:=hid (fun w' nx=>bT);by_cases hh2:hasB t.dt x=true
       ·have hv:=hid (hnA.out (by rw[hh1,hh2];rfl));exact eK
       ·rw[iW] at hh2;have hDb:=hid (fun w' nx=>a_);have hy:=hid (hyA.out (by rw[hh1,hh2];rfl));clear hh1 hh2 hnA hyA
        go_wp2_with (go_at_call 142;((with_reducible refine(hBk.out _).mono ?_);rintro e w1 ⟨rfl,rfl⟩))
        go_wp2_with (go_at_call_of 122 (Value.slice am t.mt.length cm);((with_reducible refine(hMb.out _ nx).mono ?_);rintro e w2 ⟨rfl,hb2⟩;replace k0:=k0.step hb2;replace nx:=bgo nx hb2;clear e0 e1 e2 e3 e4 e5 e6 e7 e8 e9 l0;obtain⟨e0,e1,e2,e3,e4,e5,e6,e7,e8,e9⟩:=k0.c10;have l0:=k0.lt))
        go_wp2_with (go_at_call_of 122 (Value.slice ad t.dt.length cd);((with_reducible refine(hDb.out _ nx).mono ?_);rintro e w2 ⟨rfl,hb2⟩;replace k0:=k0.step hb2;replace nx:=bgo nx hb2;clear e0 e1 e2 e3 e4 e5 e6 e7 e8 e9 l0;obtain⟨e0,e1,e2,e3,e4,e5,e6,e7,e8,e9⟩:=k0.c10;have l0:=k0.lt))
        go_roundw
        case rel=>exact⟨j+1+1,aa,an,hr1,hy,k0,nx⟩
        case measure=>simp[intOf];omega
     ·have hv:=hid (hno.out (fun hh=>hlt2 (hiff.1 hh)));clear hno hgd hgj hb hb' hri hap hiff hnA hyA;generalize t.rev[j+1]=x at*;generalize t.rev[j]=y at*;exact gq
   ·have hv := hid (hno.out (fun hh => hb (by
      unfold j61 at hh;rw[hgd] at hh;exact iG ⟨hh.1,hh.2.1⟩)))
    rw[iW] at hb;have hBk:=fun w=>hBk w;rw[hb] at hBk;replace hBk:=hid hBk;clear hno hgd hb hri hap hnA hyA;generalize t.rev[k]=x at*;exact gq
  ·obtain rfl:k=t.rev.length:=by omega
   have hrise:=hid ((jY9 t.rev).2 hri.out);have hapr:=hid (show∀j (hj:j<t.rev.length),(!hasB t.mt t.rev[j]&& !hasB t.dt t.rev[j])=true from fun j hj=>hap.out j hj hj);clear hri hap;go_wp2
   go_loopw [6,70] (fun _ i wr=>∃k:Nat,k<=t.mt.length/\i=.int .i64 k/\Hid (∀j,j<k->∀(hj:j<t.mt.length),(!hasB t.dt t.mt[j].block)=true)/\Blk wr w.heap.size #[.int .i64 t.seq,.slice am t.mt.length cm,.slice ad t.dt.length cd,.slice ar t.rev.length cr,.bool t.h0.on,.int .i64 t.h0.left,.bool t.h1.on,.int .i64 t.h1.left,.bool t.h2.on,.int .i64 t.h2.left] 51/\Below w.heap.size w wr) (fun _ i _=>t.mt.length-(intOf i).toNat)
   case atStart=>exact⟨0,iq _,rfl,hid (fun j hj=>absurd hj (jl j)),k0,nx⟩
   case round=>
    clear k0 nx e0 e1 e2 e3 e4 e5 e6 e7 e8 e9 l0;obtain⟨k,hk,rfl,hap,k0,nx⟩:=hrel;obtain⟨e0,e1,e2,e3,e4,e5,e6,e7,e8,e9⟩:=k0.c10;have l0:=k0.lt;by_cases hlt:k<t.mt.length
    ·obtain⟨b1,o1,rfl,d0,d1⟩:=kj3 (fun x=>.int .i64 x.block) (fun x=>.string x.text) (fun _=>rfl) (hm.out.below nx) hlt;have hnA:=hid (show(!hasB t.dt t.mt[k].block)=false->gT=false from fun hh=>hng.out (.inr (.inr (.inr (.inr (.inl (ham.out k hlt hh)))))))
     have hyA:=hid (show(!hasB t.dt t.mt[k].block)=true->∀j,j<k+1->∀(hj:j<t.mt.length),(!hasB t.dt t.mt[j].block)=true from fun hh j hj hj2=>by
      by_cases e:j=k
      ·subst e;exact hh
      ·exact hap.out j aa hj2)
     generalize t.mt[k]=c at*;obtain⟨x,ct⟩:=c;dsimp only at*;have hDb:=hid (fun w' (nx:Below w.heap.size w w')=>j20 t.dt x _ w' hcd.out (hd.out.below nx) n2);replace k0:=k0.alloc (.cells #[.int .i64 x,.string ct] 93);have nx':=nx;replace nx:=bal nx (.cells #[.int .i64 x,.string ct] 93);clear e0 e1 e2 e3 e4 e5 e6 e7 e8 e9 l0;obtain⟨e0,e1,e2,e3,e4,e5,e6,e7,e8,e9⟩:=k0.c10;have l0:=k0.lt;have kx:=kk3 wr #[.int .i64 x,.string ct] 93;have x0:=kx.cell 0;simp only[Zga,Zgb,Zgc] at x0;by_cases hh2:hasB t.dt x=true
     ·have hv:=hid (hnA.out (by rw[hh2];rfl));have hDb:=hid (fun w' nx=>a_);clear hh2 hnA hyA hap
      go_wp2_with (go_at_call_of 122 (Value.slice ad t.dt.length cd);((with_reducible refine(hDb.out _ nx).mono ?_);rintro e w2 ⟨rfl,hb2⟩;replace k0:=k0.step hb2;replace nx:=bgo nx hb2;clear e0 e1 e2 e3 e4 e5 e6 e7 e8 e9 l0;obtain⟨e0,e1,e2,e3,e4,e5,e6,e7,e8,e9⟩:=k0.c10;have l0:=k0.lt))
      go_ret;exact⟨j6_ hv.out.symm,nx⟩
     ·rw[iW] at hh2;have hDb:=hid (fun w' nx=>a_);have hy:=hid (hyA.out (by rw[hh2];rfl));clear hh2 hnA hyA hap
      go_wp2_with (go_at_call_of 122 (Value.slice ad t.dt.length cd);((with_reducible refine(hDb.out _ nx).mono ?_);rintro e w2 ⟨rfl,hb2⟩;replace k0:=k0.step hb2;replace nx:=bgo nx hb2;clear e0 e1 e2 e3 e4 e5 e6 e7 e8 e9 l0;obtain⟨e0,e1,e2,e3,e4,e5,e6,e7,e8,e9⟩:=k0.c10;have l0:=k0.lt))
      go_roundw
      case rel=>first|exact⟨k+1,aa,an,hy,k0,nx⟩| ((repeat apply Exists.intro);refine⟨⟨k+1,aa,?_,hy,k0,nx⟩,rfl⟩;go_num)
      case measure=>simp[intOf];omega
    ·obtain rfl:k=t.mt.length:=by omega
     have hapm:=hid (hay.out hapr.out (fun j hj=>hap.out j hj hj));clear hap hapr;go_wp2
     go_loopw [8,82] (fun _ i wr=>∃k:Nat,k<=3/\i=.int .i64 k/\Hid (∀j,j<k->(if j=0 then hOk t.h0 else if j=1 then hOk t.h1 else hOk t.h2)=true)/\Blk wr w.heap.size #[.int .i64 t.seq,.slice am t.mt.length cm,.slice ad t.dt.length cd,.slice ar t.rev.length cr,.bool t.h0.on,.int .i64 t.h0.left,.bool t.h1.on,.int .i64 t.h1.left,.bool t.h2.on,.int .i64 t.h2.left] 51/\Below w.heap.size w wr) (fun _ i _=>3-(intOf i).toNat)
     case atStart=>exact⟨0,ae,rfl,hid (fun j hj=>absurd hj (jl j)),k0,nx⟩
     case round=>
      clear k0 nx e0 e1 e2 e3 e4 e5 e6 e7 e8 e9 l0;obtain⟨k,hk,rfl,hall,k0,nx⟩:=hrel;have l0:=k0.lt;by_cases hlt:k<3
      ·obtain(rfl|rfl|rfl):k=0\/k=1\/k=2:=by omega
       ·have hi:=hi3.out wr;replace hi:=hi.1;have hof:=jY6 t.h0;have hnh:=fun hh=>hng.out (.inr (.inr (.inr (.inr (.inr (.inl hh))))));generalize t.h0.on=o at*;generalize hle:t.h0.left=lf at*;replace hnh:=hid hnh;replace hle:=hid hle;by_cases hoo:hOk t.h0=true
        ·obtain⟨a1,a2,a3⟩:=hof.1 hoo;have hoo2:=hid hoo
         have hall2:=hid (show∀j,j<0+1->(if j=0 then hOk t.h0 else if j=1 then hOk t.h1 else hOk t.h2)=true from by
          intro j hj;by_cases e:j=0
          ·subst e;exact hoo2.out
          ·exact hall.out j aa)
         clear hof hoo;by_cases hz:lf=0
         ·subst hz
          cases o
          ·go_wp2;exact eL
          ·go_wp2;exact eL
         ·have ho:o=true:=a3.resolve_right hz;have hz2:0<lf:=aa;subst ho;clear hz a3;go_wp2;exact eL
        ·replace hoo:hOk t.h0=false:=by simpa using hoo
         exact eD
       ·have hi:=hi3.out wr;replace hi:=hi.2.1;have hof:=jY6 t.h1;have hnh:=fun hh=>hng.out (.inr (.inr (.inr (.inr (.inr (.inr (.inl hh)))))));generalize t.h1.on=o at*;generalize hle:t.h1.left=lf at*;replace hnh:=hid hnh;replace hle:=hid hle;by_cases hoo:hOk t.h1=true
        ·obtain⟨a1,a2,a3⟩:=hof.1 hoo;have hoo2:=hid hoo
         have hall2:=hid (show∀j,j<1+1->(if j=0 then hOk t.h0 else if j=1 then hOk t.h1 else hOk t.h2)=true from by
          intro j hj;by_cases e:j=1
          ·subst e;exact hoo2.out
          ·exact hall.out j aa)
         clear hof hoo;by_cases hz:lf=0
         ·subst hz
          cases o
          ·go_wp2;exact eM
          ·go_wp2;exact eM
         ·have ho:o=true:=a3.resolve_right hz;have hz2:0<lf:=aa;subst ho;clear hz a3;go_wp2;exact eM
        ·replace hoo:hOk t.h1=false:=by simpa using hoo
         exact eD
       ·have hi:=hi3.out wr;replace hi:=hi.2.2;have hof:=jY6 t.h2;have hnh:=fun hh=>hng.out (.inr (.inr (.inr (.inr (.inr (.inr (.inr hh)))))));generalize t.h2.on=o at*;generalize hle:t.h2.left=lf at*;replace hnh:=hid hnh;replace hle:=hid hle;by_cases hoo:hOk t.h2=true
        ·obtain⟨a1,a2,a3⟩:=hof.1 hoo;have hoo2:=hid hoo
         have hall2:=hid (show∀j,j<2+1->(if j=0 then hOk t.h0 else if j=1 then hOk t.h1 else hOk t.h2)=true from by
          intro j hj;by_cases e:j=2
          ·subst e;exact hoo2.out
          ·exact hall.out j aa)
         clear hof hoo;by_cases hz:lf=0
         ·subst hz
          cases o
          ·go_wp2;exact eN
          ·go_wp2;exact eN
         ·have ho:o=true:=a3.resolve_right hz;have hz2:0<lf:=aa;subst ho;clear hz a3;go_wp2;exact eN
        ·replace hoo:hOk t.h2=false:=by simpa using hoo
         exact eD
      ·obtain rfl:k=3:=by omega
       have hv:=hid (hyes.out hsq.out hcm'.out hcd'.out hrise.out hapm.out (hall.out 0 ae) (hall.out 1 ae) (hall.out 2 ae));clear hall;go_wp2;go_ret;exact⟨j6_ hv.out.symm,nx⟩
end Go.Proofs.YtlecmdajpfkaeaaGreatDoor
namespace Wb
open Go Go.RowKit
theorem w64(x:Int):RowKit.wrap64 x=IntKind.i64.wrap x:=by
 first|rfl|(unfold RowKit.wrap64;rw[IntKind.wrap_i64])|(unfold RowKit.wrap64;simp[IntKind.wrap,IntKind.bits,IntKind.signed])
def askP(t:Txn):Nat->Int
 |0=>((t.mt.length+t.rev.length:Nat):Int)
 |1=>IntKind.i64.wrap (((t.mt.length+t.rev.length:Nat):Int)+t.h0.left)
 |2=>IntKind.i64.wrap (IntKind.i64.wrap (((t.mt.length+t.rev.length:Nat):Int)+t.h0.left)+t.h1.left)
 |_=>askedI t
end Wb
namespace Go.Proofs.YtlecmdajpfkaeaaGreatDoor
open Go.RowKit Wb
theorem kM4(t : Txn)(v : Value)(w : World)(h : j17 w v t) :Calls Tryz.prog 119 #[v] w fun e w'=>e=.returned (.int .i64 (askedI t))/\Below w.heap.size w w':=by
 obtain⟨vm,vd,vr,rfl,hm,hd,hr,n1,n2,n3⟩:=h;obtain⟨am,cm,rfl,_⟩:=hm.form;obtain⟨ad,cd,rfl,_⟩:=hd.form;obtain⟨ar,cr,rfl,_⟩:=hr.form;have hi3:=fun w=>km_ w t.h0.on t.h1.on t.h2.on t.h0.left t.h1.left t.h2.left;have h0:askP t 0=(t.mt.length:Int)+(t.rev.length:Int):=by show((t.mt.length+t.rev.length:Nat):Int)=_;omega
 have h3:askP t 3=askedI t:=rfl;have hw:IntKind.i64.wrap ((t.mt.length:Int)+(t.rev.length:Int))=(t.mt.length:Int)+(t.rev.length:Int):=iz _ aa;unfold j84;generalize askedI t=aI at*;have k0:=kk3 w #[.int .i64 t.seq,.slice am t.mt.length cm,.slice ad t.dt.length cd,.slice ar t.rev.length cr,.bool t.h0.on,.int .i64 t.h0.left,.bool t.h1.on,.int .i64 t.h1.left,.bool t.h2.on,.int .i64 t.h2.left] 51;have nx:=bal (b0 w) (.cells #[.int .i64 t.seq,.slice am t.mt.length cm,.slice ad t.dt.length cd,.slice ar t.rev.length cr,.bool t.h0.on,.int .i64 t.h0.left,.bool t.h1.on,.int .i64 t.h1.left,.bool t.h2.on,.int .i64 t.h2.left] 51);obtain⟨e0,e1,e2,e3,e4,e5,e6,e7,e8,e9⟩:=k0.c10;have l0:=k0.lt;replace hi3:=hid hi3;replace h0:=hid h0;replace h3:=hid h3;clear hm hd hr;go_enter Tryz.func119,Tryz.ntmps119;go_wp2
 go_loopw [3,5,15] (fun s _ i wr=>∃k:Nat,k<=3/\i=.int .i64 k/\s=.int .i64 (askP t k)/\Blk wr w.heap.size #[.int .i64 t.seq,.slice am t.mt.length cm,.slice ad t.dt.length cd,.slice ar t.rev.length cr,.bool t.h0.on,.int .i64 t.h0.left,.bool t.h1.on,.int .i64 t.h1.left,.bool t.h2.on,.int .i64 t.h2.left] 51/\Below w.heap.size w wr) (fun _ _ i _=>3-(intOf i).toNat)
 case atStart=>exact⟨0,ae,rfl,by rw[h0.out],k0,nx⟩
 case round=>
  clear k0 nx e0 e1 e2 e3 e4 e5 e6 e7 e8 e9 l0;obtain⟨k,hk,rfl,rfl,k0,nx⟩:=hrel;have l0:=k0.lt;by_cases hlt:k<3
  ·obtain(rfl|rfl|rfl):k=0\/k=1\/k=2:=by omega
   ·have hi:=hi3.out wr;replace hi:=hi.1;have hs:=hid (show askP t (0+1)=RowKit.wrap64 (askP t 0+t.h0.left) from(w64 _).symm);generalize askP t 0=a0 at*;go_wp2;go_roundw
    case rel=>first|exact⟨0+1,ae,rfl,by rw[hs.out],k0.alloc _,bal nx _⟩| ((repeat apply Exists.intro);exact⟨⟨0+1,ae,rfl,by rw[hs.out],k0.alloc _,bal nx _⟩,rfl⟩)
    case measure=>simp[intOf]
   ·have hi:=hi3.out wr;replace hi:=hi.2.1;have hs:=hid (show askP t (1+1)=RowKit.wrap64 (askP t 1+t.h1.left) from(w64 _).symm);generalize askP t 1=a0 at*;go_wp2;go_roundw
    case rel=>first|exact⟨1+1,ae,rfl,by rw[hs.out],k0.alloc _,bal nx _⟩| ((repeat apply Exists.intro);exact⟨⟨1+1,ae,rfl,by rw[hs.out],k0.alloc _,bal nx _⟩,rfl⟩)
    case measure=>simp[intOf]
   ·have hi:=hi3.out wr;replace hi:=hi.2.2;have hs:=hid (show askP t (2+1)=RowKit.wrap64 (askP t 2+t.h2.left) from(w64 _).symm);generalize askP t 2=a0 at*;go_wp2;go_roundw
    case rel=>first|exact⟨2+1,ae,rfl,by rw[hs.out],k0.alloc _,bal nx _⟩| ((repeat apply Exists.intro);exact⟨⟨2+1,ae,rfl,by rw[hs.out],k0.alloc _,bal nx _⟩,rfl⟩)
    case measure=>simp[intOf]
  ·obtain rfl:k=3:=by omega
   rw[h3.out];go_wp2;go_ret;exact⟨rfl,nx⟩
end Go.Proofs.YtlecmdajpfkaeaaGreatDoor
namespace Wb
open Go Go.RowKit
theorem kA1{l:List Hnd}{k:Nat}(hk:k<l.length)(h:l[k].on=true):l.any (·.on)=true:=kG.2 ⟨_,iM hk,h⟩
theorem kK3{l:List Hnd}{k:Nat}(hk:k<l.length)(h0:(l.take k).any (·.on)=false)(h:l[k].on=false):(l.take (k+1)).any (·.on)=false:=by
 rw[it hk,List.any_append,h0];simp[h]
theorem kK2{l:List Hnd}{k:Nat}(hk:¬k<l.length)(h0:(l.take k).any (·.on)=false):l.any (·.on)=false:=by
 rw[iV aa] at h0;exact h0
theorem ky_{w:World}{b:Nat}{t:TypeId}{x0 x1 x2 x3:Value}(p q r:Hnd)(h:Blk w b #[x0,x1,x2,x3,.bool p.on,.int .i64 p.left,.bool q.on,.int .i64 q.left,.bool r.on,.int .i64 r.left] t):RL ko_ w (.slice (some ⟨b,4,none⟩) 3 3) [p,q,r]:=by
 refine⟨_,_,rfl,iy _,aE,.inr ⟨_,_,rfl,fun j u hj=>?_⟩⟩;rw[h.cell];rw[<-hj]
 have hl:j<6:=by
  have:=(i4.1 hj).1;simpa [ko_] using this
 obtain(rfl|rfl|rfl|rfl|rfl|rfl):j=0\/j=1\/j=2\/j=3\/j=4\/j=5:=aa
 all_goals rfl
end Wb
namespace Go.Proofs.YtlecmdajpfkaeaaGreatDoor
open Go.RowKit Wb
theorem kM7(h:Hnd)(w:World):Calls Tryz.prog 107 #[.agg #[.bool h.on,.int .i64 h.left]] w fun e w'=>e=.returned (.bool h.on)/\Below w.heap.size w w':=by
 have k0:=kk3 w #[.bool h.on,.int .i64 h.left] 48;have c0:=k0.cell 0;have c1:=k0.cell 1;simp only[Zga,Zgb,Zgc] at c0 c1;go_enter Tryz.func107,Tryz.ntmps107;go_wp2;go_ret;exact⟨rfl,bal (b0 w) _⟩
theorem kS0(l : List Hnd)(v : Value)(w : World)(h : RL ko_ w v l)(hl : l.length <= 3) :Calls Tryz.prog 140 #[v,.func (.func 107) #[] #[]] w fun e w'=>(∃r:Int,e=.returned (.int .i64 r)/\(decide (r≥0)=l.any (·.on)))/\Below w.heap.size w w':=by
 obtain⟨a,cap,rfl,_⟩:=h.form;have hO:=fun h w=>kM7 h w;have hhit:=fun k (hk:k<l.length) hh=>kA1 (l:=l) hk hh;have hst:=fun k (hk:k<l.length) h0 hh=>kK3 (l:=l) hk h0 hh;have hfu:=fun k (hk:¬k<l.length) h0=>kK2 (l:=l) hk h0;generalize hal:l.any (·.on)=al at*;replace h:=hid h;replace hO:=hid hO;replace hhit:=hid hhit;replace hst:=hid hst;replace hfu:=hid hfu;clear hal;go_enter Tryz.func140,Tryz.ntmps140;go_wp2
 go_loopw [5,8] (fun _ i wr=>∃k:Nat,k<=l.length/\i=.int .i64 k/\Hid ((l.take k).any (·.on)=false)/\Below w.heap.size w wr) (fun _ i _=>l.length-(intOf i).toNat)
 case atStart=>exact⟨0,iq _,rfl,rfl,b0 w⟩
 case round=>
  obtain⟨k,hk,rfl,hall,nx⟩:=hrel;by_cases hlt:k<l.length
  ·obtain⟨b1,o1,rfl,c0,c1⟩:=kj3 (fun x=>.bool x.on) (fun x=>.int .i64 x.left) (fun _=>rfl) (h.out.below nx) hlt;have hh1:=hid (hhit.out k hlt);have hh2:=hid (fun hh=>hst.out k hlt hall.out hh);generalize l[k]=x at*;have hOx:=hO.out x
   cases hx:x.on with
   |true=>
    have hv:=hid (hh1.out hx)
    rw[hx] at hOx c0
    replace hOx:=hid hOx
    clear hx hh1 hh2 hall
    go_wp2_with (go_at_call 107;((with_reducible refine(hOx.out _).mono ?_);rintro e w1 ⟨rfl,hb1⟩))
    go_ret
    exact⟨⟨_,rfl,by rw[hv.out];exact iG (Int.natCast_nonneg _)⟩,bgo nx hb1⟩
   |false=>
    have hy:=hid (hh2.out hx)
    rw[hx] at hOx c0
    replace hOx:=hid hOx
    clear hx hh1 hh2 hall
    go_wp2_with (go_at_call 107;((with_reducible refine(hOx.out _).mono ?_);rintro e w1 ⟨rfl,hb1⟩))
    go_roundw
    case rel=>first|exact⟨k+1,aa,an,hy,bgo nx hb1⟩| ((repeat apply Exists.intro);exact⟨⟨k+1,aa,an,hy,bgo nx hb1⟩,rfl⟩)
    case measure=>simp[intOf];omega
  ·have hv:=hid (hfu.out k hlt hall.out);clear hall;go_wp2;go_ret;exact⟨⟨_,rfl,by rw[hv.out];rfl⟩,nx⟩
theorem jh7(l : List Hnd)(v : Value)(w : World)(h : RL ko_ w v l)(hl : l.length <= 3) :Calls Tryz.prog 106 #[v,.func (.func 107) #[] #[]] w fun e w'=>e=.returned (.bool (l.any (·.on)))/\Below w.heap.size w w':=by
 have hI:=hid (kS0 l v w h hl);obtain⟨a,cap,rfl,_⟩:=h.form;generalize l.any (·.on)=al at*;clear h;go_enter Tryz.func106,Tryz.ntmps106
 go_wp2_with (go_at_call 140;((with_reducible refine hI.out.mono ?_);rintro e w1 ⟨⟨r,rfl,hr⟩,hb1⟩;replace hr:=hid hr))
 all_goals
  go_ret
  refine⟨j6_ ?_,hb1⟩
  have:=hr.out
  first|exact this| (rw[<-this];(try simp_all);(try omega))
theorem jB2(t : Txn)(v : Value)(w : World)(h : j17 w v t) :Calls Tryz.prog 75 #[v] w fun e w'=>e=.returned (.bool (openB t))/\Below w.heap.size w w':=by
 obtain⟨vm,vd,vr,rfl,hm,hd,hr,n1,n2,n3⟩:=h;obtain⟨am,cm,rfl,_⟩:=hm.form;obtain⟨ad,cd,rfl,_⟩:=hd.form;obtain⟨ar,cr,rfl,_⟩:=hr.form;unfold j84;have k0:=kk3 w #[.int .i64 t.seq,.slice am t.mt.length cm,.slice ad t.dt.length cd,.slice ar t.rev.length cr,.bool t.h0.on,.int .i64 t.h0.left,.bool t.h1.on,.int .i64 t.h1.left,.bool t.h2.on,.int .i64 t.h2.left] 51;have nx:=bal (b0 w) (.cells #[.int .i64 t.seq,.slice am t.mt.length cm,.slice ad t.dt.length cd,.slice ar t.rev.length cr,.bool t.h0.on,.int .i64 t.h0.left,.bool t.h1.on,.int .i64 t.h1.left,.bool t.h2.on,.int .i64 t.h2.left] 51);have hC:=jh7 [t.h0,t.h1,t.h2] _ _ (ky_ t.h0 t.h1 t.h2 k0) (iy 3);have e: [t.h0,t.h1,t.h2].any (·.on)=openB t:=by unfold openB;simp[Bool.or_assoc]
 rw[e] at hC;generalize openB t=ob at*;replace hC:=hid hC;clear hm hd hr e k0;go_enter Tryz.func75,Tryz.ntmps75
 go_wp2_with (go_at_call 106;((with_reducible refine hC.out.mono ?_);rintro e w1 ⟨rfl,hb1⟩))
 go_ret;exact⟨rfl,bgo nx hb1⟩
theorem k94(t : Txn)(v : Value)(w : World)(h : j17 w v t) :Calls Tryz.prog 96 #[v] w fun e w'=>e=.returned (.int .i64 (askedI t))/\Below w.heap.size w w':=by
 obtain⟨vm,vd,vr,rfl,hm,hd,hr,n1,n2,n3⟩:=h;obtain⟨am,cm,rfl,_⟩:=hm.form;obtain⟨ad,cd,rfl,_⟩:=hd.form;obtain⟨ar,cr,rfl,_⟩:=hr.form;have hw:IntKind.i64.wrap ((t.mt.length:Int)+(t.rev.length:Int))=(t.mt.length:Int)+(t.rev.length:Int):=iz _ aa
 have hv:askedI t=RowKit.wrap64 (RowKit.wrap64 (RowKit.wrap64 ((t.mt.length:Int)+(t.rev.length:Int)+t.h0.left)+t.h1.left)+t.h2.left):=by
  unfold askedI;rw[w64,w64,w64];rw[show((t.mt.length+t.rev.length:Nat):Int)=(t.mt.length:Int)+(t.rev.length:Int) from aa]
 unfold j84;generalize askedI t=aI at*;have k0:=kk3 w #[.int .i64 t.seq,.slice am t.mt.length cm,.slice ad t.dt.length cd,.slice ar t.rev.length cr,.bool t.h0.on,.int .i64 t.h0.left,.bool t.h1.on,.int .i64 t.h1.left,.bool t.h2.on,.int .i64 t.h2.left] 51;have nx:=bal (b0 w) (.cells #[.int .i64 t.seq,.slice am t.mt.length cm,.slice ad t.dt.length cd,.slice ar t.rev.length cr,.bool t.h0.on,.int .i64 t.h0.left,.bool t.h1.on,.int .i64 t.h1.left,.bool t.h2.on,.int .i64 t.h2.left] 51);have e1:=k0.cell 1;have e3:=k0.cell 3;have e5:=k0.cell 5;have e7:=k0.cell 7;have e9:=k0.cell 9;simp only[Zga,Zgb,Zgc] at e1 e3 e5 e7 e9;replace hv:=hid hv;clear hm hd hr;go_enter Tryz.func96,Tryz.ntmps96;go_wp2;go_ret;exact⟨jW4 hv.out.symm,nx⟩
theorem jO3(t : Txn)(v : Value)(w : World)(h : j17 w v t) :Calls Tryz.prog 59 #[v] w fun e w'=>e=.returned (.bool (openB t))/\Below w.heap.size w w':=by
 obtain⟨vm,vd,vr,rfl,hm,hd,hr,n1,n2,n3⟩:=h;obtain⟨am,cm,rfl,_⟩:=hm.form;obtain⟨ad,cd,rfl,_⟩:=hd.form;obtain⟨ar,cr,rfl,_⟩:=hr.form;obtain⟨seq,mt,dt,rev,⟨o0,l0⟩,⟨o1,l1⟩,⟨o2,l2⟩⟩:=t;unfold j84 openB;dsimp only at*;have k0:=kk3 w #[.int .i64 seq,.slice am mt.length cm,.slice ad dt.length cd,.slice ar rev.length cr,.bool o0,.int .i64 l0,.bool o1,.int .i64 l1,.bool o2,.int .i64 l2] 51;have nx:=bal (b0 w) (.cells #[.int .i64 seq,.slice am mt.length cm,.slice ad dt.length cd,.slice ar rev.length cr,.bool o0,.int .i64 l0,.bool o1,.int .i64 l1,.bool o2,.int .i64 l2] 51);have e4:=k0.cell 4;have e6:=k0.cell 6;have e8:=k0.cell 8;simp only[Zga,Zgb,Zgc] at e4 e6 e8;clear hm hd hr
 cases o0<;>cases o1<;>cases o2
 all_goals
  go_enter Tryz.func59,Tryz.ntmps59
  go_wp2
  go_ret
  exact⟨rfl,nx⟩
theorem kL9{A:Prop}(h:A:=by
 go_enter Tryz.func83,Tryz.ntmps83
 go_wp2_with (first|(refine ZcL ?_)| (refine ZcS ?_;clear X;intro w X)| (refine ZcA ?_;clear X;intro g w X)|(go_at_call 109;((with_reducible refine(hG.out _ X.below).mono ?_);rintro e w1 ⟨rfl,hb1⟩;replace X:=X.call hb1;clear hb1))|(go_at_call 118;((with_reducible refine(hH.out _).mono ?_);rintro e w1 ⟨rfl,rfl⟩)))
 exact j47 rfl (.tmp rfl rfl) (.tmp rfl rfl) X (.head _) rfl rfl ⟨cC,X.below⟩):A:=h
theorem kD2(t : Txn)(h : Int)(vm vd vr : Value)(w : World)(ht : j17 w (j84 t vm vd vr) t) :Calls Tryz.prog 83 #[j84 t vm vd vr,.int .i64 h] w fun e w'=>e=.returned (.tuple #[j84 (stopT t h) vm vd vr,.int .i64 (stopE t h)])/\Below w.heap.size w w':=by
 have hG0:=fun w' (hh:Below w.heap.size w w')=>jO8 t _ w' (ht.below hh);obtain⟨vm',vd',vr',hvv,hm,hd,hr,n1,n2,n3⟩:=ht;simp only[j84,jo,jt,jh,jy,jF] at hvv;obtain⟨rfl,rfl,rfl⟩:=hvv;obtain⟨am,cm,rfl,_⟩:=hm.form;obtain⟨ad,cd,rfl,_⟩:=hd.form;obtain⟨ar,cr,rfl,_⟩:=hr.form;have hH:=fun w=>jT2 h w;obtain⟨seq,mt,dt,rev,⟨o0,l0⟩,⟨o1,l1⟩,⟨o2,l2⟩⟩:=t;unfold j84 at hG0⊢;dsimp only at*;have X:=kk7 [] w;clear hm hd hr
 cases hg:goodT ⟨seq,mt,dt,rev,⟨o0,l0⟩,⟨o1,l1⟩,⟨o2,l2⟩⟩ with
 |false=>
  have hv:=hid (k25 (h:=h) hg)
  have hG:=fun w' hh=>hG0 w' hh
  rw[hg] at hG
  replace hG:=hid hG;replace hH:=hid hH
  clear hg hG0
  exact kL9
 |true=>
  have hG:=fun w' hh=>hG0 w' hh
  rw[hg] at hG
  replace hG:=hid hG
  clear hG0
  by_cases hh:0<=h/\h<=2
  rotate_left
  ·have hv:=hid (jZ3 hg (.inl hh));have hhf:jK7 h=false:=iH aa;rw[hhf] at hH;replace hH:=hid hH;clear hhf hg;by_cases hneg:h<0
   ·clear hh;exact kL9
   ·have hgt:2<h:=by omega
    clear hh;exact kL9
  have hht:jK7 h=true:=iG aa
  rw[hht] at hH
  replace hH:=hid hH
  clear hht
  obtain(rfl|rfl|rfl):h=0\/h=1\/h=2:=aa
  ·cases o0 with
   |false=>
    have hv:=hid (jZ3 (h:=0) hg (.inr aC))
    clear hg hh
    exact kL9
   |true=>
    have hv:=hid (jF2 (h:=0) hg ae aC)
    clear hg hh
    exact kL9
  ·cases o1 with
   |false=>
    have hv:=hid (jZ3 (h:=1) hg (.inr aC))
    clear hg hh
    exact kL9
   |true=>
    have hv:=hid (jF2 (h:=1) hg ae aC)
    clear hg hh
    exact kL9
  ·cases o2 with
   |false=>
    have hv:=hid (jZ3 (h:=2) hg (.inr aC))
    clear hg hh
    exact kL9
   |true=>
    have hv:=hid (jF2 (h:=2) hg ae aC)
    clear hg hh
    exact kL9
theorem ju6{A:Prop}(h:A:=by
 go_enter Tryz.func81,Tryz.ntmps81
 go_upto_region 1 with (first|(refine Zbx ?_;clear X;intro g w X)|(refine ZyL ?_)| (refine ZyS ?_;clear X;intro w X)| (refine ZyA ?_;clear X;intro g w X))
 go_wp2_with (first|go_skip|(refine ZyL ?_)| (refine ZyS ?_;clear X;intro w X)| (refine ZyA ?_;clear X;intro g w X)|(go_at_call 109;((with_reducible refine(hG.out _ X.below).mono ?_);rintro e w1 ⟨rfl,hb1⟩;replace X:=X.call hb1;clear hb1))|(go_at_call 118;((with_reducible refine(hH.out _).mono ?_);rintro e w1 ⟨rfl,rfl⟩))|(go_at_call 119;((with_reducible refine(hA.out _ X.below).mono ?_);rintro e w1 ⟨rfl,hb1⟩;replace X:=X.call hb1;clear hb1))|(go_at_call 120;((with_reducible refine(hM.out _).mono ?_);rintro e w1 ⟨rfl,rfl⟩)))
 exact j47 rfl (.tmp rfl rfl) (.tmp rfl rfl) X (.head _) rfl rfl ⟨cC,X.below⟩):A:=h
theorem fu{A:Prop}(h:A:=by
 clear hg hh hAA hMM hA0 hA1;by_cases hneg:nn<0
 ·clear hn;exact ju6
 ·have hgt:12<nn:=by omega
  clear hn;exact ju6):A:=h
theorem kM5(t : Txn)(h nn fr : Int)(vm vd vr : Value)(w : World)(ht : j17 w (j84 t vm vd vr) t) :Calls Tryz.prog 81 #[j84 t vm vd vr,.int .i64 h,.int .i64 nn,.int .i64 fr] w fun e w'=>e=.returned (.tuple #[j84 (begT t h nn fr) vm vd vr,.int .i64 (begE t h nn fr)])/\Below w.heap.size w w':=by
 have hG0:=fun w' (hh:Below w.heap.size w w')=>jO8 t _ w' (ht.below hh);have hA:=fun w' (hh:Below w.heap.size w w')=>kM4 t _ w' (ht.below hh);obtain⟨vm',vd',vr',hvv,hm,hd,hr,n1,n2,n3⟩:=ht;simp only[j84,jo,jt,jh,jy,jF] at hvv;obtain⟨rfl,rfl,rfl⟩:=hvv;obtain⟨am,cm,rfl,_⟩:=hm.form;obtain⟨ad,cd,rfl,_⟩:=hd.form;obtain⟨ar,cr,rfl,_⟩:=hr.form;have hH:=fun w=>jT2 h w;have hM:=fun w=>kO9 (askedI t+nn) w;have hAb:=fun(h:goodT t=true)=>jj9 h aa aa;obtain⟨seq,mt,dt,rev,⟨o0,l0⟩,⟨o1,l1⟩,⟨o2,l2⟩⟩:=t;unfold j84 at hG0 hA⊢;dsimp only at*;have X:=kk7 [] w;clear hm hd hr
 cases hg:goodT ⟨seq,mt,dt,rev,⟨o0,l0⟩,⟨o1,l1⟩,⟨o2,l2⟩⟩ with
 |false=>
  have hv:=hid (kW8 (h:=h) (n:=nn) (free:=fr) hg)
  have hG:=fun w' hh=>hG0 w' hh
  rw[hg] at hG
  replace hG:=hid hG;replace hH:=hid hH
  clear hg hG0 hM hA hAb
  exact ju6
 |true=>
  have hG:=fun w' hh=>hG0 w' hh
  rw[hg] at hG
  replace hG:=hid hG
  clear hG0
  by_cases hh:0<=h/\h<=2
  rotate_left
  ·have hv:=hid (k77 (n:=nn) (free:=fr) hg hh);have hhf:jK7 h=false:=iH aa;rw[hhf] at hH;replace hH:=hid hH;clear hhf hg hM hA hAb;by_cases hneg:h<0
   ·clear hh;exact ju6
   ·have hgt:2<h:=by omega
    clear hh;exact ju6
  have hht:jK7 h=true:=iG aa
  rw[hht] at hH
  replace hH:=hid hH
  clear hht
  obtain⟨hA0,hA1⟩:=hAb hg
  clear hAb
  obtain⟨A,hAA⟩:∃A,askedI ⟨seq,mt,dt,rev,⟨o0,l0⟩,⟨o1,l1⟩,⟨o2,l2⟩⟩=A:=⟨_,rfl⟩
  rw[hAA] at hA hM hA0 hA1
  replace hA:=hid hA
  obtain⟨M,hMM⟩:∃M,jy8 (A+nn)=M:=⟨_,rfl⟩
  rw[hMM] at hM
  replace hM:=hid hM
  obtain(rfl|rfl|rfl):h=0\/h=1\/h=2:=aa
  ·cases o0 with
   |true=>
    have hv:=hid (jr0 (h:=0) (n:=nn) (free:=fr) hg ae aC)
    clear hg hh hAA hMM hA0 hA1
    exact ju6
   |false=>
    by_cases hn:nn<0\/12<nn
    ·have hv:=hid (jH0 (h:=0) (n:=nn) (free:=fr) hg ae aC hn);exact fu
    have hn0:0<=nn:=aa
    have hn1:nn<=12:=aa
    have hw:IntKind.i64.wrap (A+nn)=A+nn:=iz _ aa
    have hw':RowKit.wrap64 (A+nn)=A+nn:=dH
    by_cases hb:24<A+nn
    ·have hv:=hid (j25 (h:=0) (free:=fr) hg ae aC hn (.inl dG));clear hg hh hAA hMM hn;exact ju6
    have hbd:decide (24<A+nn)=false:=iH hb
    by_cases hf:fr<M
    ·have hv:=hid (j25 (h:=0) (free:=fr) hg ae aC hn (.inr cY));clear hg hh hAA hMM hn;exact ju6
    ·have hv:=hid (jr_ (h:=0) (free:=fr) hg ae aC hn dA);clear hg hh hAA hMM hn;exact ju6
  ·cases o1 with
   |true=>
    have hv:=hid (jr0 (h:=1) (n:=nn) (free:=fr) hg ae aC)
    clear hg hh hAA hMM hA0 hA1
    exact ju6
   |false=>
    by_cases hn:nn<0\/12<nn
    ·have hv:=hid (jH0 (h:=1) (n:=nn) (free:=fr) hg ae aC hn);exact fu
    have hn0:0<=nn:=aa
    have hn1:nn<=12:=aa
    have hw:IntKind.i64.wrap (A+nn)=A+nn:=iz _ aa
    have hw':RowKit.wrap64 (A+nn)=A+nn:=dH
    by_cases hb:24<A+nn
    ·have hv:=hid (j25 (h:=1) (free:=fr) hg ae aC hn (.inl dG));clear hg hh hAA hMM hn;exact ju6
    have hbd:decide (24<A+nn)=false:=iH hb
    by_cases hf:fr<M
    ·have hv:=hid (j25 (h:=1) (free:=fr) hg ae aC hn (.inr cY));clear hg hh hAA hMM hn;exact ju6
    ·have hv:=hid (jr_ (h:=1) (free:=fr) hg ae aC hn dA);clear hg hh hAA hMM hn;exact ju6
  ·cases o2 with
   |true=>
    have hv:=hid (jr0 (h:=2) (n:=nn) (free:=fr) hg ae aC)
    clear hg hh hAA hMM hA0 hA1
    exact ju6
   |false=>
    by_cases hn:nn<0\/12<nn
    ·have hv:=hid (jH0 (h:=2) (n:=nn) (free:=fr) hg ae aC hn);exact fu
    have hn0:0<=nn:=aa
    have hn1:nn<=12:=aa
    have hw:IntKind.i64.wrap (A+nn)=A+nn:=iz _ aa
    have hw':RowKit.wrap64 (A+nn)=A+nn:=dH
    by_cases hb:24<A+nn
    ·have hv:=hid (j25 (h:=2) (free:=fr) hg ae aC hn (.inl dG));clear hg hh hAA hMM hn;exact ju6
    have hbd:decide (24<A+nn)=false:=iH hb
    by_cases hf:fr<M
    ·have hv:=hid (j25 (h:=2) (free:=fr) hg ae aC hn (.inr cY));clear hg hh hAA hMM hn;exact ju6
    ·have hv:=hid (jr_ (h:=2) (free:=fr) hg ae aC hn dA);clear hg hh hAA hMM hn;exact ju6
theorem kL_(l : List Cpy)(b : Int)(s : ByteArray)(v : Value)(w : World)(hs : rise (blks l) = true)(h : RL j_3 w v l)(hl : l.length <= 1000000) :Calls Tryz.prog 126 #[v,.int .i64 b,.string s] w fun e w'=>∃v',e=.returned v'/\Wb.Own j_3 w.heap.size 93 2 w' v' (jf4 l b s)/\Below w.heap.size w w':=by
 have hF:=hid (k1_ l b v w hs h aa);have hC:=hid (fun w' (hb:Below w.heap.size w w')=>jX_ l v w' (h.below hb) aa);have hha:=kS_ (b:=b) hs;obtain⟨_,_,hp⟩:=kP4 b hs;obtain⟨a,cap,rfl,_⟩:=h.form;unfold jf4;generalize posB l b=p at*
 cases hb:hasB l b with
 |true=>
  rw[hb] at hF
  obtain⟨hk,hkb⟩:=hha.1 hb
  rw[ij rfl]
  have hy:j_3 ⟨b,s⟩=(j_3 l[p]).set 1 (.string s):=by simp[j_3,hkb]
  replace hy:=hid hy
  clear hs h hha hb hp
  go_enter Tryz.func126,Tryz.ntmps126
  go_wp2_with (first|(go_at_call 147;((with_reducible refine hF.out.mono ?_);rintro e w1 ⟨rfl,hb1⟩))|(go_at_call 41;((with_reducible refine(hC.out _ hb1).mono ?_);rintro e w2 ⟨v2,rfl,ho2,hb2⟩;obtain⟨g,cap2,rfl,hbg,hgw,hq,hnew⟩:=Own.poke j91 ho2 hk;have q0:=(hq 1 ae).1;have q1:=(hq 1 ae).2;have hn2:=hid (hnew 1 _ _ ae hy.out);have nx:=hb1.trans (hb2.mono hb1.size);have hgs:=i3 hb1.size hbg;simp only[j_3,List.getElem?_cons_succ,List.getElem?_cons_zero] at q1;replace nx:=hid nx;clear hq hnew ho2)))
  go_ret
  exact⟨_,rfl,hn2.out.mono hb1.size,nx.out.setCell hgs _⟩
 |false=>
  rw[hb] at hF
  rw[ii ae]
  clear hs h hha hb
  go_enter Tryz.func126,Tryz.ntmps126
  go_wp2_with (first|(go_at_call 147;((with_reducible refine hF.out.mono ?_);rintro e w1 ⟨rfl,hb1⟩))|(go_at_call 41;((with_reducible refine(hC.out _ hb1).mono ?_);rintro e w2 ⟨v2,rfl,ho2,hb2⟩;have hlt2:=jE ho2;have hbase:=hb1.trans (hb2.mono hb1.size);have ho3:=hid (ho2.mono hb1.size);have hI:=hid (jt7 l p ⟨b,s⟩ v2 w2.heap.size w.heap.size (w2.alloc (.cells #[.int .i64 b,.string s] 93)) (ho3.out.alloc _) (by have:=hbase.size;simp;omega) (kk3 w2 _ _) (fun hh=>by have:=(hlt2 _ hh).2;omega) hp hl);obtain⟨a2,cap2,rfl⟩:=ho2.form;replace hbase:=hid hbase;clear hlt2 ho2))|(go_at_call 149;((with_reducible refine hI.out.mono ?_);rintro e w3 ⟨v3,rfl,ho4,hb3⟩)))
  go_ret
  exact⟨_,rfl,ho4,(hbase.out.alloc (by have:=hbase.out.size;omega) _).trans hb3⟩
theorem eW{A:Prop}(h:A:=by
 go_enter Tryz.func121,Tryz.ntmps121
 go_wp2_with (go_at_call 109;((with_reducible refine(hG.out _ nx).mono ?_);rintro e w1 ⟨rfl,hb1⟩;replace k0:=k0.step hb1;replace nx:=bgo nx hb1;clear e0 e1 e2 e3 e4 e5 e6 e7 e8 e9 l0';obtain⟨e0,e1,e2,e3,e4,e5,e6,e7,e8,e9⟩:=k0.c10;have l0':=k0.lt))
 go_wp2_with (first| (go_at_call 118;((with_reducible refine(hH.out _).mono ?_);rintro e w1 ⟨rfl,rfl⟩))| (go_at_call 142;((with_reducible refine(hB.out _).mono ?_);rintro e w1 ⟨rfl,rfl⟩)))
 go_ret;exact⟨jW4 hv.out.symm,nx⟩):A:=h
theorem jk8(t : Txn)(h b : Int)(v : Value)(w : World)(ht : j17 w v t) :Calls Tryz.prog 121 #[v,.int .i64 h,.int .i64 b] w fun e w'=>e=.returned (.int .i64 (mayE t h b))/\Below w.heap.size w w':=by
 have hG0:=fun w' (hh:Below w.heap.size w w')=>jO8 t _ w' (ht.below hh);obtain⟨vm,vd,vr,rfl,hm,hd,hr,n1,n2,n3⟩:=ht;obtain⟨am,cm,rfl,_⟩:=hm.form;obtain⟨ad,cd,rfl,_⟩:=hd.form;obtain⟨ar,cr,rfl,_⟩:=hr.form;have hH:=fun w=>jT2 h w;have hB:=fun w=>ju2 b w;obtain⟨seq,mt,dt,rev,⟨o0,l0⟩,⟨o1,l1⟩,⟨o2,l2⟩⟩:=t;unfold j84 at hG0⊢;dsimp only at*;have k0:Blk (w.alloc (.cells #[.int .i64 seq,.slice am mt.length cm,.slice ad dt.length cd,.slice ar rev.length cr,.bool o0,.int .i64 l0,.bool o1,.int .i64 l1,.bool o2,.int .i64 l2] 51)) w.heap.size #[.int .i64 seq,.slice am mt.length cm,.slice ad dt.length cd,.slice ar rev.length cr,.bool o0,.int .i64 l0,.bool o1,.int .i64 l1,.bool o2,.int .i64 l2] 51:=kk3 w _ _;have nx:=bal (b0 w) (.cells #[.int .i64 seq,.slice am mt.length cm,.slice ad dt.length cd,.slice ar rev.length cr,.bool o0,.int .i64 l0,.bool o1,.int .i64 l1,.bool o2,.int .i64 l2] 51);obtain⟨e0,e1,e2,e3,e4,e5,e6,e7,e8,e9⟩:=k0.c10;have l0':=k0.lt;clear hm hd hr
 cases hg:goodT ⟨seq,mt,dt,rev,⟨o0,l0⟩,⟨o1,l1⟩,⟨o2,l2⟩⟩ with
 |false=>
  have hv:=hid (jm3 (h:=h) (b:=b) hg)
  rw[hg] at hG0
  have hG:=hid hG0
  clear hg hG0 hH hB
  go_enter Tryz.func121,Tryz.ntmps121
  go_wp2_with (go_at_call 109;((with_reducible refine(hG.out _ nx).mono ?_);rintro e w1 ⟨rfl,hb1⟩;replace k0:=k0.step hb1;replace nx:=bgo nx hb1;clear e0 e1 e2 e3 e4 e5 e6 e7 e8 e9 l0';obtain⟨e0,e1,e2,e3,e4,e5,e6,e7,e8,e9⟩:=k0.c10;have l0':=k0.lt))
  go_ret
  exact⟨jW4 hv.out.symm,nx⟩
 |true=>
  rw[hg] at hG0
  have hG:=hid hG0
  clear hG0
  by_cases hh:0<=h/\h<=2
  rotate_left
  ·have hv:=hid (j65 (b:=b) hg (.inl hh));have hhf:jK7 h=false:=iH aa;rw[hhf] at hH;replace hH:=hid hH;clear hhf hg hB;by_cases hneg:h<0
   ·clear hh;exact eW
   ·have hgt:2<h:=by omega
    clear hh;exact eW
  have hht:jK7 h=true:=iG aa
  rw[hht] at hH
  replace hH:=hid hH
  clear hht
  obtain(rfl|rfl|rfl):h=0\/h=1\/h=2:=aa
  ·cases o0 with
   |false=>
    have hv:=hid (j65 (h:=0) (b:=b) hg (.inr (.inl aC)))
    clear hg hh hB
    go_enter Tryz.func121,Tryz.ntmps121
    go_wp2_with (go_at_call 109;((with_reducible refine(hG.out _ nx).mono ?_);rintro e w1 ⟨rfl,hb1⟩;replace k0:=k0.step hb1;replace nx:=bgo nx hb1;clear e0 e1 e2 e3 e4 e5 e6 e7 e8 e9 l0';obtain⟨e0,e1,e2,e3,e4,e5,e6,e7,e8,e9⟩:=k0.c10;have l0':=k0.lt))
    go_wp2_with (first| (go_at_call 118;((with_reducible refine(hH.out _).mono ?_);rintro e w1 ⟨rfl,rfl⟩))| (go_at_call 142;((with_reducible refine(hB.out _).mono ?_);rintro e w1 ⟨rfl,rfl⟩)))
    go_ret
    exact⟨jW4 hv.out.symm,nx⟩
   |true=>
    cases hbb:isBlk b with
    |false=>
     have hv:=hid (j65 (h:=0) (b:=b) hg (.inr (.inr hbb)))
     rw[hbb] at hB
     replace hB:=hid hB
     clear hg hh hbb
     go_enter Tryz.func121,Tryz.ntmps121
     go_wp2_with (go_at_call 109;((with_reducible refine(hG.out _ nx).mono ?_);rintro e w1 ⟨rfl,hb1⟩;replace k0:=k0.step hb1;replace nx:=bgo nx hb1;clear e0 e1 e2 e3 e4 e5 e6 e7 e8 e9 l0';obtain⟨e0,e1,e2,e3,e4,e5,e6,e7,e8,e9⟩:=k0.c10;have l0':=k0.lt))
     go_wp2_with (first| (go_at_call 118;((with_reducible refine(hH.out _).mono ?_);rintro e w1 ⟨rfl,rfl⟩))| (go_at_call 142;((with_reducible refine(hB.out _).mono ?_);rintro e w1 ⟨rfl,rfl⟩)))
     go_ret
     exact⟨jW4 hv.out.symm,nx⟩
    |true=>
     have hv:=hid (jq6 (h:=0) (b:=b) hg ae aC hbb)
     rw[hbb] at hB
     replace hB:=hid hB
     clear hg hh hbb
     go_enter Tryz.func121,Tryz.ntmps121
     go_wp2_with (go_at_call 109;((with_reducible refine(hG.out _ nx).mono ?_);rintro e w1 ⟨rfl,hb1⟩;replace k0:=k0.step hb1;replace nx:=bgo nx hb1;clear e0 e1 e2 e3 e4 e5 e6 e7 e8 e9 l0';obtain⟨e0,e1,e2,e3,e4,e5,e6,e7,e8,e9⟩:=k0.c10;have l0':=k0.lt))
     go_wp2_with (first| (go_at_call 118;((with_reducible refine(hH.out _).mono ?_);rintro e w1 ⟨rfl,rfl⟩))| (go_at_call 142;((with_reducible refine(hB.out _).mono ?_);rintro e w1 ⟨rfl,rfl⟩)))
     go_ret
     exact⟨jW4 hv.out.symm,nx⟩
  ·cases o1 with
   |false=>
    have hv:=hid (j65 (h:=1) (b:=b) hg (.inr (.inl aC)))
    clear hg hh hB
    go_enter Tryz.func121,Tryz.ntmps121
    go_wp2_with (go_at_call 109;((with_reducible refine(hG.out _ nx).mono ?_);rintro e w1 ⟨rfl,hb1⟩;replace k0:=k0.step hb1;replace nx:=bgo nx hb1;clear e0 e1 e2 e3 e4 e5 e6 e7 e8 e9 l0';obtain⟨e0,e1,e2,e3,e4,e5,e6,e7,e8,e9⟩:=k0.c10;have l0':=k0.lt))
    go_wp2_with (first| (go_at_call 118;((with_reducible refine(hH.out _).mono ?_);rintro e w1 ⟨rfl,rfl⟩))| (go_at_call 142;((with_reducible refine(hB.out _).mono ?_);rintro e w1 ⟨rfl,rfl⟩)))
    go_ret
    exact⟨jW4 hv.out.symm,nx⟩
   |true=>
    cases hbb:isBlk b with
    |false=>
     have hv:=hid (j65 (h:=1) (b:=b) hg (.inr (.inr hbb)))
     rw[hbb] at hB
     replace hB:=hid hB
     clear hg hh hbb
     go_enter Tryz.func121,Tryz.ntmps121
     go_wp2_with (go_at_call 109;((with_reducible refine(hG.out _ nx).mono ?_);rintro e w1 ⟨rfl,hb1⟩;replace k0:=k0.step hb1;replace nx:=bgo nx hb1;clear e0 e1 e2 e3 e4 e5 e6 e7 e8 e9 l0';obtain⟨e0,e1,e2,e3,e4,e5,e6,e7,e8,e9⟩:=k0.c10;have l0':=k0.lt))
     go_wp2_with (first| (go_at_call 118;((with_reducible refine(hH.out _).mono ?_);rintro e w1 ⟨rfl,rfl⟩))| (go_at_call 142;((with_reducible refine(hB.out _).mono ?_);rintro e w1 ⟨rfl,rfl⟩)))
     go_ret
     exact⟨jW4 hv.out.symm,nx⟩
    |true=>
     have hv:=hid (jq6 (h:=1) (b:=b) hg ae aC hbb)
     rw[hbb] at hB
     replace hB:=hid hB
     clear hg hh hbb
     go_enter Tryz.func121,Tryz.ntmps121
     go_wp2_with (go_at_call 109;((with_reducible refine(hG.out _ nx).mono ?_);rintro e w1 ⟨rfl,hb1⟩;replace k0:=k0.step hb1;replace nx:=bgo nx hb1;clear e0 e1 e2 e3 e4 e5 e6 e7 e8 e9 l0';obtain⟨e0,e1,e2,e3,e4,e5,e6,e7,e8,e9⟩:=k0.c10;have l0':=k0.lt))
     go_wp2_with (first| (go_at_call 118;((with_reducible refine(hH.out _).mono ?_);rintro e w1 ⟨rfl,rfl⟩))| (go_at_call 142;((with_reducible refine(hB.out _).mono ?_);rintro e w1 ⟨rfl,rfl⟩)))
     go_ret
     exact⟨jW4 hv.out.symm,nx⟩
  ·cases o2 with
   |false=>
    have hv:=hid (j65 (h:=2) (b:=b) hg (.inr (.inl aC)))
    clear hg hh hB
    go_enter Tryz.func121,Tryz.ntmps121
    go_wp2_with (go_at_call 109;((with_reducible refine(hG.out _ nx).mono ?_);rintro e w1 ⟨rfl,hb1⟩;replace k0:=k0.step hb1;replace nx:=bgo nx hb1;clear e0 e1 e2 e3 e4 e5 e6 e7 e8 e9 l0';obtain⟨e0,e1,e2,e3,e4,e5,e6,e7,e8,e9⟩:=k0.c10;have l0':=k0.lt))
    go_wp2_with (first| (go_at_call 118;((with_reducible refine(hH.out _).mono ?_);rintro e w1 ⟨rfl,rfl⟩))| (go_at_call 142;((with_reducible refine(hB.out _).mono ?_);rintro e w1 ⟨rfl,rfl⟩)))
    go_ret
    exact⟨jW4 hv.out.symm,nx⟩
   |true=>
    cases hbb:isBlk b with
    |false=>
     have hv:=hid (j65 (h:=2) (b:=b) hg (.inr (.inr hbb)))
     rw[hbb] at hB
     replace hB:=hid hB
     clear hg hh hbb
     go_enter Tryz.func121,Tryz.ntmps121
     go_wp2_with (go_at_call 109;((with_reducible refine(hG.out _ nx).mono ?_);rintro e w1 ⟨rfl,hb1⟩;replace k0:=k0.step hb1;replace nx:=bgo nx hb1;clear e0 e1 e2 e3 e4 e5 e6 e7 e8 e9 l0';obtain⟨e0,e1,e2,e3,e4,e5,e6,e7,e8,e9⟩:=k0.c10;have l0':=k0.lt))
     go_wp2_with (first| (go_at_call 118;((with_reducible refine(hH.out _).mono ?_);rintro e w1 ⟨rfl,rfl⟩))| (go_at_call 142;((with_reducible refine(hB.out _).mono ?_);rintro e w1 ⟨rfl,rfl⟩)))
     go_ret
     exact⟨jW4 hv.out.symm,nx⟩
    |true=>
     have hv:=hid (jq6 (h:=2) (b:=b) hg ae aC hbb)
     rw[hbb] at hB
     replace hB:=hid hB
     clear hg hh hbb
     go_enter Tryz.func121,Tryz.ntmps121
     go_wp2_with (go_at_call 109;((with_reducible refine(hG.out _ nx).mono ?_);rintro e w1 ⟨rfl,hb1⟩;replace k0:=k0.step hb1;replace nx:=bgo nx hb1;clear e0 e1 e2 e3 e4 e5 e6 e7 e8 e9 l0';obtain⟨e0,e1,e2,e3,e4,e5,e6,e7,e8,e9⟩:=k0.c10;have l0':=k0.lt))
     go_wp2_with (first| (go_at_call 118;((with_reducible refine(hH.out _).mono ?_);rintro e w1 ⟨rfl,rfl⟩))| (go_at_call 142;((with_reducible refine(hB.out _).mono ?_);rintro e w1 ⟨rfl,rfl⟩)))
     go_ret
     exact⟨jW4 hv.out.symm,nx⟩
theorem jk9(seq : Int)(mt dt : List Cpy)(rev : List Int)(o0 o1 o2 : Bool)(l0 l1 l2 : Int)(am ad ar : Option Addr)(cm cd cr : Nat)(b : Int)(g : Nat)(w : World)(k0 : Blk w g #[.int .i64 seq, .slice am mt.length cm, .slice ad dt.length cd, .slice ar rev.length cr, .bool o0, .int .i64 l0, .bool o1, .int .i64 l1, .bool o2, .int .i64 l2] 51)(hs : rise (blks mt) = true)(hm : RL j_3 w (.slice am mt.length cm) mt)(hr : RL j_9 w (.slice ar rev.length cr) rev)(n1 : mt.length <= 5864062014805)(n3 : rev.length <= 17592186044160)(hf : (hasB mt b || inI rev b) = true) :Calls Tryz.prog 123 #[.pointer (some ⟨g,0,none⟩),.int .i64 0,.int .i64 b] w fun e w'=>e=.returned (.int .i64 0)/\Below w.heap.size w w':=by
 have hM:=j20 mt b _ w hs hm n1;have hC:=hid (fun w' (hh:RL j_9 w' (.slice ar rev.length cr) rev)=>j94 rev b _ w' hh n3);replace hr:=hid hr;obtain⟨e0,e1,e2,e3,e4,e5,e6,e7,e8,e9⟩:=k0.c10;have l0':=k0.lt;have f5:=k0.free 5;have f7:=k0.free 7;have f9:=k0.free 9;clear hm hs
 cases hb:hasB mt b with
 |true=>
  rw[hb] at hM
  replace hM:=hid hM
  clear hb hf
  go_enter Tryz.func123,Tryz.ntmps123
  go_wp2_with (go_at_call 122;((with_reducible refine hM.out.mono ?_);rintro e w1 ⟨rfl,hb1⟩;replace k0:=k0.step hb1;have nx:=hb1;have hr1:=hid (hr.out.below hb1);replace hC:=hid (hC.out _ hr1.out);clear e0 e1 e2 e3 e4 e5 e6 e7 e8 e9 l0' f5 f7 f9;obtain⟨e0,e1,e2,e3,e4,e5,e6,e7,e8,e9⟩:=k0.c10;have l0':=k0.lt;have f5:=k0.free 5;have f7:=k0.free 7;have f9:=k0.free 9))
  go_ret
  exact⟨rfl,nx⟩
 |false=>
  rw[hb] at hM hf
  rw[lH] at hf
  rw[hf] at hC
  replace hM:=hid hM
  clear hb hf
  go_enter Tryz.func123,Tryz.ntmps123
  go_wp2_with (first| (go_at_call 122;((with_reducible refine hM.out.mono ?_);rintro e w1 ⟨rfl,hb1⟩;replace k0:=k0.step hb1;have nx:=hb1;have hr1:=hid (hr.out.below hb1);replace hC:=hid (hC.out _ hr1.out);clear e0 e1 e2 e3 e4 e5 e6 e7 e8 e9 l0' f5 f7 f9;obtain⟨e0,e1,e2,e3,e4,e5,e6,e7,e8,e9⟩:=k0.c10;have l0':=k0.lt;have f5:=k0.free 5;have f7:=k0.free 7;have f9:=k0.free 9))| (go_at_call 117;((with_reducible refine hC.out.mono ?_);rintro e w2 ⟨rfl,rfl⟩)))
  go_ret
  exact⟨rfl,nx⟩
theorem jj1(seq : Int)(mt dt : List Cpy)(rev : List Int)(o0 o1 o2 : Bool)(l0 l1 l2 : Int)(am ad ar : Option Addr)(cm cd cr : Nat)(b : Int)(g : Nat)(w : World)(k0 : Blk w g #[.int .i64 seq, .slice am mt.length cm, .slice ad dt.length cd, .slice ar rev.length cr, .bool o0, .int .i64 l0, .bool o1, .int .i64 l1, .bool o2, .int .i64 l2] 51)(hs : rise (blks mt) = true)(hm : RL j_3 w (.slice am mt.length cm) mt)(hr : RL j_9 w (.slice ar rev.length cr) rev)(n1 : mt.length <= 5864062014805)(n3 : rev.length <= 17592186044160)(hf : (hasB mt b || inI rev b) = false)(h0 : l0 = 0) :Calls Tryz.prog 123 #[.pointer (some ⟨g,0,none⟩),.int .i64 0,.int .i64 b] w fun e w'=>e=.returned (.int .i64 7)/\Below w.heap.size w w':=by
 have hM:=j20 mt b _ w hs hm n1;have hC:=hid (fun w' (hh:RL j_9 w' (.slice ar rev.length cr) rev)=>j94 rev b _ w' hh n3);replace hr:=hid hr;obtain⟨e0,e1,e2,e3,e4,e5,e6,e7,e8,e9⟩:=k0.c10;have l0':=k0.lt;have f5:=k0.free 5;have f7:=k0.free 7;have f9:=k0.free 9;clear hm hs;obtain⟨hb,hf⟩:=ke.1 hf;rw[hb] at hM;rw[hf] at hC;replace hM:=hid hM;subst h0;clear hb hf;go_enter Tryz.func123,Tryz.ntmps123
 go_wp2_with (first| (go_at_call 122;((with_reducible refine hM.out.mono ?_);rintro e w1 ⟨rfl,hb1⟩;replace k0:=k0.step hb1;have nx:=hb1;have hr1:=hid (hr.out.below hb1);replace hC:=hid (hC.out _ hr1.out);clear e0 e1 e2 e3 e4 e5 e6 e7 e8 e9 l0' f5 f7 f9;obtain⟨e0,e1,e2,e3,e4,e5,e6,e7,e8,e9⟩:=k0.c10;have l0':=k0.lt;have f5:=k0.free 5;have f7:=k0.free 7;have f9:=k0.free 9))| (go_at_call 117;((with_reducible refine hC.out.mono ?_);rintro e w2 ⟨rfl,rfl⟩)))
 go_ret;exact⟨rfl,nx⟩
theorem jc4(seq : Int)(mt dt : List Cpy)(rev : List Int)(o0 o1 o2 : Bool)(l0 l1 l2 : Int)(am ad ar : Option Addr)(cm cd cr : Nat)(b : Int)(g : Nat)(w : World)(k0 : Blk w g #[.int .i64 seq, .slice am mt.length cm, .slice ad dt.length cd, .slice ar rev.length cr, .bool o0, .int .i64 l0, .bool o1, .int .i64 l1, .bool o2, .int .i64 l2] 51)(hs : rise (blks mt) = true)(hm : RL j_3 w (.slice am mt.length cm) mt)(hr : RL j_9 w (.slice ar rev.length cr) rev)(n1 : mt.length <= 5864062014805)(n3 : rev.length <= 17592186044160)(hf : (hasB mt b || inI rev b) = false)(h0 : 0 < l0)(h1 : l0 <= 24) :Calls Tryz.prog 123 #[.pointer (some ⟨g,0,none⟩),.int .i64 0,.int .i64 b] w fun e w'=>e=.returned (.int .i64 0)/\ ∃w1,Below w.heap.size w w1/\w'=w1.setCell ⟨g,5,none⟩ (.int .i64 (l0-1)):=by
 have hM:=j20 mt b _ w hs hm n1;have hC:=hid (fun w' (hh:RL j_9 w' (.slice ar rev.length cr) rev)=>j94 rev b _ w' hh n3);replace hr:=hid hr;obtain⟨e0,e1,e2,e3,e4,e5,e6,e7,e8,e9⟩:=k0.c10;have l0':=k0.lt;have f5:=k0.free 5;have f7:=k0.free 7;have f9:=k0.free 9;clear hm hs;obtain⟨hb,hf⟩:=ke.1 hf;have hnz:¬l0=0:=aa;have hwr:IntKind.i64.wrap (l0-1)=l0-1:=iz _ aa;rw[hb] at hM;rw[hf] at hC;replace hM:=hid hM;clear hb hf;go_enter Tryz.func123,Tryz.ntmps123
 go_wp2_with (first| (go_at_call 122;((with_reducible refine hM.out.mono ?_);rintro e w1 ⟨rfl,hb1⟩;replace k0:=k0.step hb1;have nx:=hb1;have hr1:=hid (hr.out.below hb1);replace hC:=hid (hC.out _ hr1.out);clear e0 e1 e2 e3 e4 e5 e6 e7 e8 e9 l0' f5 f7 f9;obtain⟨e0,e1,e2,e3,e4,e5,e6,e7,e8,e9⟩:=k0.c10;have l0':=k0.lt;have f5:=k0.free 5;have f7:=k0.free 7;have f9:=k0.free 9))| (go_at_call 117;((with_reducible refine hC.out.mono ?_);rintro e w2 ⟨rfl,rfl⟩)))
 go_region_law (fail "no call")
 all_goals go_wp2
 all_goals go_ret
 all_goals exact⟨rfl,_,nx.drew,rfl⟩
theorem jj_(seq : Int)(mt dt : List Cpy)(rev : List Int)(o0 o1 o2 : Bool)(l0 l1 l2 : Int)(am ad ar : Option Addr)(cm cd cr : Nat)(b : Int)(g : Nat)(w : World)(k0 : Blk w g #[.int .i64 seq, .slice am mt.length cm, .slice ad dt.length cd, .slice ar rev.length cr, .bool o0, .int .i64 l0, .bool o1, .int .i64 l1, .bool o2, .int .i64 l2] 51)(hs : rise (blks mt) = true)(hm : RL j_3 w (.slice am mt.length cm) mt)(hr : RL j_9 w (.slice ar rev.length cr) rev)(n1 : mt.length <= 5864062014805)(n3 : rev.length <= 17592186044160)(hf : (hasB mt b || inI rev b) = true) :Calls Tryz.prog 123 #[.pointer (some ⟨g,0,none⟩),.int .i64 1,.int .i64 b] w fun e w'=>e=.returned (.int .i64 0)/\Below w.heap.size w w':=by
 have hM:=j20 mt b _ w hs hm n1;have hC:=hid (fun w' (hh:RL j_9 w' (.slice ar rev.length cr) rev)=>j94 rev b _ w' hh n3);replace hr:=hid hr;obtain⟨e0,e1,e2,e3,e4,e5,e6,e7,e8,e9⟩:=k0.c10;have l0':=k0.lt;have f5:=k0.free 5;have f7:=k0.free 7;have f9:=k0.free 9;clear hm hs
 cases hb:hasB mt b with
 |true=>
  rw[hb] at hM
  replace hM:=hid hM
  clear hb hf
  go_enter Tryz.func123,Tryz.ntmps123
  go_wp2_with (go_at_call 122;((with_reducible refine hM.out.mono ?_);rintro e w1 ⟨rfl,hb1⟩;replace k0:=k0.step hb1;have nx:=hb1;have hr1:=hid (hr.out.below hb1);replace hC:=hid (hC.out _ hr1.out);clear e0 e1 e2 e3 e4 e5 e6 e7 e8 e9 l0' f5 f7 f9;obtain⟨e0,e1,e2,e3,e4,e5,e6,e7,e8,e9⟩:=k0.c10;have l0':=k0.lt;have f5:=k0.free 5;have f7:=k0.free 7;have f9:=k0.free 9))
  go_ret
  exact⟨rfl,nx⟩
 |false=>
  rw[hb] at hM hf
  rw[lH] at hf
  rw[hf] at hC
  replace hM:=hid hM
  clear hb hf
  go_enter Tryz.func123,Tryz.ntmps123
  go_wp2_with (first| (go_at_call 122;((with_reducible refine hM.out.mono ?_);rintro e w1 ⟨rfl,hb1⟩;replace k0:=k0.step hb1;have nx:=hb1;have hr1:=hid (hr.out.below hb1);replace hC:=hid (hC.out _ hr1.out);clear e0 e1 e2 e3 e4 e5 e6 e7 e8 e9 l0' f5 f7 f9;obtain⟨e0,e1,e2,e3,e4,e5,e6,e7,e8,e9⟩:=k0.c10;have l0':=k0.lt;have f5:=k0.free 5;have f7:=k0.free 7;have f9:=k0.free 9))| (go_at_call 117;((with_reducible refine hC.out.mono ?_);rintro e w2 ⟨rfl,rfl⟩)))
  go_ret
  exact⟨rfl,nx⟩
theorem jj2(seq : Int)(mt dt : List Cpy)(rev : List Int)(o0 o1 o2 : Bool)(l0 l1 l2 : Int)(am ad ar : Option Addr)(cm cd cr : Nat)(b : Int)(g : Nat)(w : World)(k0 : Blk w g #[.int .i64 seq, .slice am mt.length cm, .slice ad dt.length cd, .slice ar rev.length cr, .bool o0, .int .i64 l0, .bool o1, .int .i64 l1, .bool o2, .int .i64 l2] 51)(hs : rise (blks mt) = true)(hm : RL j_3 w (.slice am mt.length cm) mt)(hr : RL j_9 w (.slice ar rev.length cr) rev)(n1 : mt.length <= 5864062014805)(n3 : rev.length <= 17592186044160)(hf : (hasB mt b || inI rev b) = false)(h0 : l1 = 0) :Calls Tryz.prog 123 #[.pointer (some ⟨g,0,none⟩),.int .i64 1,.int .i64 b] w fun e w'=>e=.returned (.int .i64 7)/\Below w.heap.size w w':=by
 have hM:=j20 mt b _ w hs hm n1;have hC:=hid (fun w' (hh:RL j_9 w' (.slice ar rev.length cr) rev)=>j94 rev b _ w' hh n3);replace hr:=hid hr;obtain⟨e0,e1,e2,e3,e4,e5,e6,e7,e8,e9⟩:=k0.c10;have l0':=k0.lt;have f5:=k0.free 5;have f7:=k0.free 7;have f9:=k0.free 9;clear hm hs;obtain⟨hb,hf⟩:=ke.1 hf;rw[hb] at hM;rw[hf] at hC;replace hM:=hid hM;subst h0;clear hb hf;go_enter Tryz.func123,Tryz.ntmps123
 go_wp2_with (first| (go_at_call 122;((with_reducible refine hM.out.mono ?_);rintro e w1 ⟨rfl,hb1⟩;replace k0:=k0.step hb1;have nx:=hb1;have hr1:=hid (hr.out.below hb1);replace hC:=hid (hC.out _ hr1.out);clear e0 e1 e2 e3 e4 e5 e6 e7 e8 e9 l0' f5 f7 f9;obtain⟨e0,e1,e2,e3,e4,e5,e6,e7,e8,e9⟩:=k0.c10;have l0':=k0.lt;have f5:=k0.free 5;have f7:=k0.free 7;have f9:=k0.free 9))| (go_at_call 117;((with_reducible refine hC.out.mono ?_);rintro e w2 ⟨rfl,rfl⟩)))
 go_ret;exact⟨rfl,nx⟩
theorem jc5(seq : Int)(mt dt : List Cpy)(rev : List Int)(o0 o1 o2 : Bool)(l0 l1 l2 : Int)(am ad ar : Option Addr)(cm cd cr : Nat)(b : Int)(g : Nat)(w : World)(k0 : Blk w g #[.int .i64 seq, .slice am mt.length cm, .slice ad dt.length cd, .slice ar rev.length cr, .bool o0, .int .i64 l0, .bool o1, .int .i64 l1, .bool o2, .int .i64 l2] 51)(hs : rise (blks mt) = true)(hm : RL j_3 w (.slice am mt.length cm) mt)(hr : RL j_9 w (.slice ar rev.length cr) rev)(n1 : mt.length <= 5864062014805)(n3 : rev.length <= 17592186044160)(hf : (hasB mt b || inI rev b) = false)(h0 : 0 < l1)(h1 : l1 <= 24) :Calls Tryz.prog 123 #[.pointer (some ⟨g,0,none⟩),.int .i64 1,.int .i64 b] w fun e w'=>e=.returned (.int .i64 0)/\ ∃w1,Below w.heap.size w w1/\w'=w1.setCell ⟨g,7,none⟩ (.int .i64 (l1-1)):=by
 have hM:=j20 mt b _ w hs hm n1;have hC:=hid (fun w' (hh:RL j_9 w' (.slice ar rev.length cr) rev)=>j94 rev b _ w' hh n3);replace hr:=hid hr;obtain⟨e0,e1,e2,e3,e4,e5,e6,e7,e8,e9⟩:=k0.c10;have l0':=k0.lt;have f5:=k0.free 5;have f7:=k0.free 7;have f9:=k0.free 9;clear hm hs;obtain⟨hb,hf⟩:=ke.1 hf;have hnz:¬l1=0:=aa;have hwr:IntKind.i64.wrap (l1-1)=l1-1:=iz _ aa;rw[hb] at hM;rw[hf] at hC;replace hM:=hid hM;clear hb hf;go_enter Tryz.func123,Tryz.ntmps123
 go_wp2_with (first| (go_at_call 122;((with_reducible refine hM.out.mono ?_);rintro e w1 ⟨rfl,hb1⟩;replace k0:=k0.step hb1;have nx:=hb1;have hr1:=hid (hr.out.below hb1);replace hC:=hid (hC.out _ hr1.out);clear e0 e1 e2 e3 e4 e5 e6 e7 e8 e9 l0' f5 f7 f9;obtain⟨e0,e1,e2,e3,e4,e5,e6,e7,e8,e9⟩:=k0.c10;have l0':=k0.lt;have f5:=k0.free 5;have f7:=k0.free 7;have f9:=k0.free 9))| (go_at_call 117;((with_reducible refine hC.out.mono ?_);rintro e w2 ⟨rfl,rfl⟩)))
 go_region_law (fail "no call")
 all_goals go_wp2
 all_goals go_ret
 all_goals exact⟨rfl,_,nx.drew,rfl⟩
theorem jj0(seq : Int)(mt dt : List Cpy)(rev : List Int)(o0 o1 o2 : Bool)(l0 l1 l2 : Int)(am ad ar : Option Addr)(cm cd cr : Nat)(b : Int)(g : Nat)(w : World)(k0 : Blk w g #[.int .i64 seq, .slice am mt.length cm, .slice ad dt.length cd, .slice ar rev.length cr, .bool o0, .int .i64 l0, .bool o1, .int .i64 l1, .bool o2, .int .i64 l2] 51)(hs : rise (blks mt) = true)(hm : RL j_3 w (.slice am mt.length cm) mt)(hr : RL j_9 w (.slice ar rev.length cr) rev)(n1 : mt.length <= 5864062014805)(n3 : rev.length <= 17592186044160)(hf : (hasB mt b || inI rev b) = true) :Calls Tryz.prog 123 #[.pointer (some ⟨g,0,none⟩),.int .i64 2,.int .i64 b] w fun e w'=>e=.returned (.int .i64 0)/\Below w.heap.size w w':=by
 have hM:=j20 mt b _ w hs hm n1;have hC:=hid (fun w' (hh:RL j_9 w' (.slice ar rev.length cr) rev)=>j94 rev b _ w' hh n3);replace hr:=hid hr;obtain⟨e0,e1,e2,e3,e4,e5,e6,e7,e8,e9⟩:=k0.c10;have l0':=k0.lt;have f5:=k0.free 5;have f7:=k0.free 7;have f9:=k0.free 9;clear hm hs
 cases hb:hasB mt b with
 |true=>
  rw[hb] at hM
  replace hM:=hid hM
  clear hb hf
  go_enter Tryz.func123,Tryz.ntmps123
  go_wp2_with (go_at_call 122;((with_reducible refine hM.out.mono ?_);rintro e w1 ⟨rfl,hb1⟩;replace k0:=k0.step hb1;have nx:=hb1;have hr1:=hid (hr.out.below hb1);replace hC:=hid (hC.out _ hr1.out);clear e0 e1 e2 e3 e4 e5 e6 e7 e8 e9 l0' f5 f7 f9;obtain⟨e0,e1,e2,e3,e4,e5,e6,e7,e8,e9⟩:=k0.c10;have l0':=k0.lt;have f5:=k0.free 5;have f7:=k0.free 7;have f9:=k0.free 9))
  go_ret
  exact⟨rfl,nx⟩
 |false=>
  rw[hb] at hM hf
  rw[lH] at hf
  rw[hf] at hC
  replace hM:=hid hM
  clear hb hf
  go_enter Tryz.func123,Tryz.ntmps123
  go_wp2_with (first| (go_at_call 122;((with_reducible refine hM.out.mono ?_);rintro e w1 ⟨rfl,hb1⟩;replace k0:=k0.step hb1;have nx:=hb1;have hr1:=hid (hr.out.below hb1);replace hC:=hid (hC.out _ hr1.out);clear e0 e1 e2 e3 e4 e5 e6 e7 e8 e9 l0' f5 f7 f9;obtain⟨e0,e1,e2,e3,e4,e5,e6,e7,e8,e9⟩:=k0.c10;have l0':=k0.lt;have f5:=k0.free 5;have f7:=k0.free 7;have f9:=k0.free 9))| (go_at_call 117;((with_reducible refine hC.out.mono ?_);rintro e w2 ⟨rfl,rfl⟩)))
  go_ret
  exact⟨rfl,nx⟩
theorem jj3(seq : Int)(mt dt : List Cpy)(rev : List Int)(o0 o1 o2 : Bool)(l0 l1 l2 : Int)(am ad ar : Option Addr)(cm cd cr : Nat)(b : Int)(g : Nat)(w : World)(k0 : Blk w g #[.int .i64 seq, .slice am mt.length cm, .slice ad dt.length cd, .slice ar rev.length cr, .bool o0, .int .i64 l0, .bool o1, .int .i64 l1, .bool o2, .int .i64 l2] 51)(hs : rise (blks mt) = true)(hm : RL j_3 w (.slice am mt.length cm) mt)(hr : RL j_9 w (.slice ar rev.length cr) rev)(n1 : mt.length <= 5864062014805)(n3 : rev.length <= 17592186044160)(hf : (hasB mt b || inI rev b) = false)(h0 : l2 = 0) :Calls Tryz.prog 123 #[.pointer (some ⟨g,0,none⟩),.int .i64 2,.int .i64 b] w fun e w'=>e=.returned (.int .i64 7)/\Below w.heap.size w w':=by
 have hM:=j20 mt b _ w hs hm n1;have hC:=hid (fun w' (hh:RL j_9 w' (.slice ar rev.length cr) rev)=>j94 rev b _ w' hh n3);replace hr:=hid hr;obtain⟨e0,e1,e2,e3,e4,e5,e6,e7,e8,e9⟩:=k0.c10;have l0':=k0.lt;have f5:=k0.free 5;have f7:=k0.free 7;have f9:=k0.free 9;clear hm hs;obtain⟨hb,hf⟩:=ke.1 hf;rw[hb] at hM;rw[hf] at hC;replace hM:=hid hM;subst h0;clear hb hf;go_enter Tryz.func123,Tryz.ntmps123
 go_wp2_with (first| (go_at_call 122;((with_reducible refine hM.out.mono ?_);rintro e w1 ⟨rfl,hb1⟩;replace k0:=k0.step hb1;have nx:=hb1;have hr1:=hid (hr.out.below hb1);replace hC:=hid (hC.out _ hr1.out);clear e0 e1 e2 e3 e4 e5 e6 e7 e8 e9 l0' f5 f7 f9;obtain⟨e0,e1,e2,e3,e4,e5,e6,e7,e8,e9⟩:=k0.c10;have l0':=k0.lt;have f5:=k0.free 5;have f7:=k0.free 7;have f9:=k0.free 9))| (go_at_call 117;((with_reducible refine hC.out.mono ?_);rintro e w2 ⟨rfl,rfl⟩)))
 go_ret;exact⟨rfl,nx⟩
theorem jc6(seq : Int)(mt dt : List Cpy)(rev : List Int)(o0 o1 o2 : Bool)(l0 l1 l2 : Int)(am ad ar : Option Addr)(cm cd cr : Nat)(b : Int)(g : Nat)(w : World)(k0 : Blk w g #[.int .i64 seq, .slice am mt.length cm, .slice ad dt.length cd, .slice ar rev.length cr, .bool o0, .int .i64 l0, .bool o1, .int .i64 l1, .bool o2, .int .i64 l2] 51)(hs : rise (blks mt) = true)(hm : RL j_3 w (.slice am mt.length cm) mt)(hr : RL j_9 w (.slice ar rev.length cr) rev)(n1 : mt.length <= 5864062014805)(n3 : rev.length <= 17592186044160)(hf : (hasB mt b || inI rev b) = false)(h0 : 0 < l2)(h1 : l2 <= 24) :Calls Tryz.prog 123 #[.pointer (some ⟨g,0,none⟩),.int .i64 2,.int .i64 b] w fun e w'=>e=.returned (.int .i64 0)/\ ∃w1,Below w.heap.size w w1/\w'=w1.setCell ⟨g,9,none⟩ (.int .i64 (l2-1)):=by
 have hM:=j20 mt b _ w hs hm n1;have hC:=hid (fun w' (hh:RL j_9 w' (.slice ar rev.length cr) rev)=>j94 rev b _ w' hh n3);replace hr:=hid hr;obtain⟨e0,e1,e2,e3,e4,e5,e6,e7,e8,e9⟩:=k0.c10;have l0':=k0.lt;have f5:=k0.free 5;have f7:=k0.free 7;have f9:=k0.free 9;clear hm hs;obtain⟨hb,hf⟩:=ke.1 hf;have hnz:¬l2=0:=aa;have hwr:IntKind.i64.wrap (l2-1)=l2-1:=iz _ aa;rw[hb] at hM;rw[hf] at hC;replace hM:=hid hM;clear hb hf;go_enter Tryz.func123,Tryz.ntmps123
 go_wp2_with (first| (go_at_call 122;((with_reducible refine hM.out.mono ?_);rintro e w1 ⟨rfl,hb1⟩;replace k0:=k0.step hb1;have nx:=hb1;have hr1:=hid (hr.out.below hb1);replace hC:=hid (hC.out _ hr1.out);clear e0 e1 e2 e3 e4 e5 e6 e7 e8 e9 l0' f5 f7 f9;obtain⟨e0,e1,e2,e3,e4,e5,e6,e7,e8,e9⟩:=k0.c10;have l0':=k0.lt;have f5:=k0.free 5;have f7:=k0.free 7;have f9:=k0.free 9))| (go_at_call 117;((with_reducible refine hC.out.mono ?_);rintro e w2 ⟨rfl,rfl⟩)))
 go_region_law (fail "no call")
 all_goals go_wp2
 all_goals go_ret
 all_goals exact⟨rfl,_,nx.drew,rfl⟩
end Go.Proofs.YtlecmdajpfkaeaaGreatDoor