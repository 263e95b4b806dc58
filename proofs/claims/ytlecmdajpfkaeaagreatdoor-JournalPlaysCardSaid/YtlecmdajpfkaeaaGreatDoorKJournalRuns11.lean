/- Parts of the proof. -/
import Derived.Test.YtlecmdajpfkaeaaGreatDoorKJournalRuns10
import Derived.RangeFuncNested
import Derived.OwnWalkIn
import Derived.TacticsInMore
import Derived.LoopNIn
import Derived.LoopIn
set_option linter.unusedVariables false
set_option linter.unusedSimpArgs false
set_option maxRecDepth 100000
set_option maxHeartbeats 40000000
namespace Wb
open Go Go.RowKit
theorem kw9{l:List Int}{b:Int}{i:Nat}(hi:i<=l.length)(h1:∀k (hk:k<l.length),k<i->l[k]<b)(h2:∀k (hk:k<l.length),i<=k->b<=l[k]):posI l b=i:=by
 unfold posI
 have e:l.filter (fun x=>decide (x<b))=l.take i:=by
  exact fd
 rw[e,iA];omega
theorem ks1{l : List Int}{b : Int}{i : Nat}(hs : l.Pairwise (· < ·))(h1 : ∀ k (hk : k < l.length), k < i -> l[k] < b)(h2 : ∀ k (hk : k < l.length), i <= k -> b <= l[k]) :inI l b=true↔ ∃h:i<l.length,l[i]=b:=by
 rw[jS1];constructor
 ·intro hb;obtain⟨k,hk,hb⟩:=i_.1 hb
  have hik:i<=k:=by
   by_cases hki:k<i
   ·have:=h1 k hk hki;omega
   ·omega
  refine⟨aa,?_⟩;by_cases e:i=k
  ·subst e;exact hb
  ·have:=kS.1 hs i k aa hk aa;have:=h2 i aa (iy _);omega
 ·rintro⟨h,hb⟩;exact hb▸iM h
end Wb
namespace Go.Proofs.YtlecmdajpfkaeaaGreatDoor
open Go.RowKit Wb
theorem kV6(x:Int)(w:World):Calls Tryz.prog 167 #[.int .i64 x] w fun e w'=>e=.returned (.bool false)/\w=w':=by
 go_enter Tryz.func167,Tryz.ntmps167;go_wp2;go_ret;exact⟨ag,rfl⟩
theorem jd6(x:Int)(w:World):Calls Tryz.prog 153 #[.int .i64 x] w fun e w'=>e=.returned (.bool false)/\w=w':=by
 go_enter Tryz.func153,Tryz.ntmps153;go_wp2;go_ret;exact⟨ag,rfl⟩
theorem kJ6(x y:Int)(w:World):Calls Tryz.prog 152 #[.int .i64 x,.int .i64 y] w fun e w'=>e=.returned (.bool (decide (x<y)))/\w=w':=by
 have h1:=fun x w=>kV6 x w;replace h1:=hid h1;go_enter Tryz.func152,Tryz.ntmps152
 go_wp2_with (go_at_call 167;refine(h1.out _ _).mono ?_;rintro e w1 ⟨rfl,rfl⟩)
 all_goals go_ret
 all_goals exact⟨ag,rfl⟩
theorem gc{A:Prop}(h:A:=by
 clear hge hh2 hx
 go_wp2_with (go_at_call 153;((with_reducible refine(hN.out _ _).mono ?_);rintro e w1 ⟨rfl,rfl⟩))
 go_ret2;exact⟨cN,rfl⟩):A:=h
theorem jN4(l : List Int)(b : Int)(v : Value)(w : World)(hs : l.Pairwise (· < ·))(h : RL j_9 w v l)(hl : l.length <= 17592186044160) :Calls Tryz.prog 128 #[v,.int .i64 b] w fun e w'=>e=.returned (.tuple #[.int .i64 (posI l b:Nat),.bool (inI l b)])/\w=w':=by
 obtain⟨a,cap,rfl,_⟩:=h.form;have hr:=hid (fun k (hk:k<l.length) i (hi:i<k)=>kS.1 hs i k aa hk hi);have hpo:=hid (fun i h0 h1 h2=>kw9 (l:=l) (b:=b) (i:=i) h0 h1 h2);have hha:=hid (fun i h1 h2=>ks1 (l:=l) (b:=b) (i:=i) hs h1 h2);generalize posI l b=p at*;generalize inI l b=hb at*;have hC:=hid (fun x y w=>kJ6 x y w);have hN:=hid (fun x w=>jd6 x w);replace h:=hid h;clear hs;go_enter Tryz.func128,Tryz.ntmps128;go_wp2
 go_loop [7,8,9] (fun s7 s8 _=>∃lo hi:Nat,s7=.int .i64 lo/\s8=.int .i64 hi/\lo<=hi/\hi<=l.length/\Hid (∀k (hk:k<l.length),k<lo->l[k]<b)/\Hid (∀k (hk:k<l.length),hi<=k->b<=l[k])) (fun s7 s8 _=>(intOf s8-intOf s7).toNat)
 case atStart=>exact⟨0,l.length,rfl,rfl,iq _,iy _,hid (fun k _ hk=>absurd hk (jl k)),hid (fun k hk h2=>aa)⟩
 case round=>
  obtain⟨lo,hi,rfl,rfl,hlh,hin,i1,i2⟩:=hrel;by_cases hlt:lo<hi
  ·have hm:(lo+hi)/2<l.length:=by omega
   obtain⟨b1,o1,rfl,c0⟩:=kl6 (fun x=>.int .i64 x) (fun _=>rfl) h.out hm
   have j1:=hid (fun(hh:l[(lo+hi)/2]<b)=>(show∀k (hk:k<l.length),k<(lo+hi)/2+1->l[k]<b from fun k hk hk2=>by
    by_cases e:k=(lo+hi)/2
    ·subst e;exact hh
    ·have:=hr.out _ hm k aa;omega))
   have j2:=hid (fun(hh:b<=l[(lo+hi)/2])=>(show∀k (hk:k<l.length),(lo+hi)/2<=k->b<=l[k] from fun k hk hk2=>by
    by_cases e:k=(lo+hi)/2
    ·subst e;exact hh
    ·have:=hr.out k hk _ (show(lo+hi)/2<k from aa);omega))
   generalize l[(lo+hi)/2]=x at*;have hCx:=hC.out x b w;by_cases hx:x<b
   ·rw[iG hx] at hCx;replace j1:=hid (j1.out hx);replace hCx:=hid hCx;clear j2 hx
    go_wp2_with (go_at_call 152;((with_reducible refine(hCx.out).mono ?_);rintro e w1 ⟨rfl,rfl⟩))
    go_round
    case measure=>simp[intOf];omega
    case rel=>exact⟨(lo+hi)/2+1,hi,by rw[show((lo:Int)+(hi:Int))/2+1=(((lo+hi)/2+1:Nat):Int) from aa],rfl,aa,hin,j1,i2⟩
   ·rw[iH hx] at hCx;replace j2:=hid (j2.out aa);replace hCx:=hid hCx;clear j1 hx
    go_wp2_with (go_at_call 152;((with_reducible refine(hCx.out).mono ?_);rintro e w1 ⟨rfl,rfl⟩))
    go_round
    case measure=>simp[intOf];omega
    case rel=>exact⟨lo,(lo+hi)/2,rfl,by rw[show((lo:Int)+(hi:Int))/2=(((lo+hi)/2:Nat):Int) from aa],aa,aa,i1,j2⟩
  ·obtain rfl:hi=lo:=by omega
   have hp:=hid (hpo.out hi hin i1.out i2.out);have hh:=hid (hha.out hi i1.out i2.out);by_cases hn:hi<l.length
   ·obtain⟨b1,o1,rfl,c0⟩:=kl6 (fun x=>.int .i64 x) (fun _=>rfl) h.out hn;have hge:=i2.out hi hn (iy _);have hh2:hb=true↔l[hi]=b:=⟨fun h=>(hh.out.1 h).2,fun h=>hh.out.2 ⟨hn,h⟩⟩;clear i1 i2 hh;generalize l[hi]=x at*;by_cases hx:x=b
    ·have hv:=hid (hh2.2 hx);have e1:(x==b)=true:=iT.2 hx;exact gc
    ·have hv := hid (show hb = false by
       cases hbv:hb with
       |false=>rfl
       |true=>exact absurd (hh2.1 hbv) hx)
     have e1:(x==b)=false:=ik.2 hx;exact gc
   ·have hv := hid (show hb = false by
      cases hbv:hb with
      |false=>rfl
      |true=>obtain⟨h1,_⟩:=hh.out.1 hbv;omega)
    clear hh i1 i2;go_wp2;go_ret2;exact⟨cN,rfl⟩
theorem k29(l : List Cpy)(b : Int)(v : Value)(w : World)(h : RL j_3 w v l)(hl : l.length <= 5864062014805) :Calls Tryz.prog 127 #[v,.int .i64 b] w fun e w'=>∃v',e=.returned v'/\Wb.Own j_3 w.heap.size 93 2 w' v' (dropC l b)/\Below w.heap.size w w':=by
 have hCl:=fun w' (hb:Below w.heap.size w w')=>jX_ l _ w' (h.below hb) hl;have hDel:=fun v w' gb base h1 h2 h3 h4=>jI_ l b v gb base w' h1 h2 h3 h4 hl;have hoff:l.filter (fun x=> !(x.block==b))=dropC l b:=rfl;simp only[hoff] at hDel;obtain⟨a,cap,rfl,_⟩:=h.form;replace hCl:=hid hCl;replace hDel:=hid hDel;clear h hoff;have X:=kk7 [] w;go_enter Tryz.func127,Tryz.ntmps127
 go_wp2_with (first|(refine ZcL ?_)| (refine ZcS ?_;clear X;intro w X)| (refine ZcA ?_;clear X;intro g w X)|(go_at_call 41;((with_reducible refine(hCl.out _ X.below).mono ?_);rintro e w1 ⟨v2,rfl,ho2,hb1⟩;obtain⟨a2,c2,rfl⟩:=ho2.form;replace hDel:=hid (hDel.out _ _ _ _ ho2 hb1.size X.k0.lt ((X.call hb1).k0.cell 0));replace hb1:=hid hb1;clear ho2))|(go_at_call 150;((with_reducible refine hDel.out.mono ?_);rintro e w2 ⟨v3,rfl,ho3,hb3⟩;obtain⟨a3,c3,rfl⟩:=ho3.form;have ho4:=hid (ho3.mono X.mv.size);replace X:=X.call (hb1.out.trans hb3);clear hb1 hb3 ho3)))
 go_ret;exact⟨_,rfl,ho4.out,X.below⟩
theorem kM6(l : List Cpy)(b : Int)(v : Value)(w : World)(h : RL j_3 w v l)(hl : l.length <= 5864062014805) :Calls Tryz.prog 79 #[v,.int .i64 b] w fun e w'=>e=.returned (.tuple #[.string ((getC l b).getD ⟨#[]⟩),.bool (getC l b).isSome])/\Below w.heap.size w w':=by
 obtain⟨a,cap,rfl,_⟩:=h.form;have hst:=fun k (hk:k<l.length)=>jz7 (l:=l) (b:=b) hk;have hft:=fun k (hk:¬k<l.length)=>jz6 (l:=l) (b:=b) hk;have hht:=fun k (hk:k<l.length) (hn:hasB (l.take k) b=false) (hb:l[k].block=b)=>jh3 hk hn hb;have hno':=fun(hn:hasB l b=false)=>jz5 hn;generalize getC l b=g at*;replace h:=hid h;replace hst:=hid hst;replace hft:=hid hft;replace hht:=hid hht;replace hno':=hid hno';go_enter Tryz.func79,Tryz.ntmps79;go_wp2
 go_loopw [7,10] (fun _ i wr=>∃k:Nat,k<=l.length/\i=.int .i64 k/\Hid (hasB (l.take k) b=false)/\Below w.heap.size w wr) (fun _ i _=>l.length-(intOf i).toNat)
 case atStart=>exact⟨0,iq _,rfl,hid (by simp[hasB]),b0 w⟩
 case round=>
  exact eJ
theorem jw8(l : List Cpy)(b : Int)(v : Value)(w : World)(h : RL j_3 w v l)(hl : l.length <= 5864062014805) :Calls Tryz.prog 51 #[v,.int .i64 b] w fun e w'=>e=.returned (.bool (hasB l b))/\Below w.heap.size w w':=by
 obtain⟨a,cap,rfl,_⟩:=h.form;have hst:=fun k (hk:k<l.length)=>jz7 (l:=l) (b:=b) hk;have hft:=fun k (hk:¬k<l.length)=>jz6 (l:=l) (b:=b) hk;have hht:=fun k (hk:k<l.length) (hb:l[k].block=b)=>(kG.2 ⟨l[k],iM hk,by simp[hb]⟩:hasB l b=true);replace h:=hid h;replace hst:=hid hst;replace hft:=hid hft;replace hht:=hid hht;go_enter Tryz.func51,Tryz.ntmps51;go_wp2
 go_loopw [9] (fun i wr=>∃k:Nat,k<=l.length/\i=.int .i64 k/\Hid (hasB (l.take k) b=false)/\Below w.heap.size w wr) (fun i _=>l.length-(intOf i).toNat)
 case atStart=>exact⟨0,iq _,rfl,hid (by simp[hasB]),b0 w⟩
 case round=>
  obtain⟨k,hk,rfl,hno,nx⟩:=hrel;by_cases hlt:k<l.length
  ·obtain⟨b1,o1,rfl,c0,c1⟩:=kj3 (fun x=>.int .i64 x.block) (fun x=>.string x.text) (fun _=>rfl) (h.out.below nx) hlt;by_cases hb:l[k].block=b
   ·have hv:=hid (hht.out k hlt hb);have e1:(l[k].block==b)=true:=iT.2 hb;clear hb;generalize l[k]=x at*;go_wp2;go_ret;exact⟨j6_ hv.out.symm,bal nx _⟩
   ·have hs:=hst.out k hlt;have e1:(l[k].block==b)=false:=ik.2 hb;rw[e1,hno.out] at hs;replace hs:=hid hs;clear hb;generalize l[k]=x at*;go_wp2;go_roundw
    case rel=>exact⟨k+1,aa,an,hs,bal nx _⟩
    case measure=>simp[intOf];omega
  ·have hv:=hno.out;rw[hft.out k hlt] at hv;replace hv:=hid hv;go_wp2;go_ret;exact⟨j6_ hv.out.symm,nx⟩
end Go.Proofs.YtlecmdajpfkaeaaGreatDoor
namespace Wb
open Go Go.RowKit
abbrev FW:Fence:=Fence.wide
def kB9(P:Program)(gf:Nat)(lb:Array Value)(xs:List Value)(B:List Nat)(w:World):Prop:=
 ∀(l:Nat) (J:Nat->World->Prop) (W:World),(∀b∈B,W.heap[b]? =w.heap[b]?)->(∀k A A',J k A->Below A.heap.size A A'->J k A')->
  (∀k (hk:k<xs.length) A,J k A->YieldAt FW 0 P l #[xs[k]] A fun e A'=>e=.returned (.bool true)/\J (k+1) A'/\A.heap.size<=A'.heap.size/\ ∀b∈B,A'.heap[b]? =A.heap[b]?)->
  J 0 W->CallsIn FW 0 P gf (#[.func (.yield l) #[] #[]]++lb) W fun e W'=>(∃v,e=.returned v)/\J xs.length W'
section
variable{P:Program}{Q:Exit->Act->World->Prop}{a:Act}{w:World}
structure AtBody(W W1:World)(p:Prop):Prop where
 eq:W1=W
 run:p
def kB8(P:Program)(body:Code)(w:World)(B:List Nat)(I:Nat->World->Prop)(k l:Nat)(a1:Act):Prop:=
 ∀W2,w.heap.size<=W2.heap.size->I k W2->body.wpIn (FW.inRound l) 0 P (fun e _ W'=>e=.normal/\KeepsFrom w.heap.size W2 W'/\(∀b∈B,W'.heap[b]? =W2.heap[b]?)/\I (k+1) W') a1 W2
theorem k12{g : Operand}{p : Tmp}{assign body : Code}{gf : Nat}{lb : Array Value}{xs : List Value}{B : List Nat}(hg : a.eval g = .func (.func gf) #[] lb)(eg : ∀ args w, (callFunc gf args).run P w = .ok (.enter gf args) w)(hB:∀b∈B,b<w.heap.size) (hit:kB9 P gf lb xs B w) (I:Nat->World->Prop) (hI:∀k A A',I k A->Below A.heap.size A A'->I k A')(hI2:∀k A l o o',I k A->w.heap.size<=l->A.heap[l]? =some o->o.isCells=false->I k (A.putObj l o')) (h0:I 0 w)(hround:∀k (hk:k<xs.length) l W,assign.wpIn (FW.inRound l) 0 P (Exit.then (fun a1 W1=>AtBody W W1 (kB8 P body w B I k l a1)) (fun _ _ _=>False)) {tmps:=a.tmps.setIfInBounds p xs[k],defers:=[]} W)(hdone:∀D W,w.heap.size<=D->I xs.length W->W.heap[D]? =some (.deferred (some []))->Q .normal {a with defers:={target:=.collected D,args:= #[]}::a.defers} W):(Code.rangeFunc g #[p] assign body).wp P Q a w:=by
 refine(wpIn_wide (n:=0)).1 (wpIn_rangeFunc fun fn hfn=>?_);obtain⟨rec,hrec⟩:∃rec:LoopState->Option Code->Loop,rec=fun st pe=>{state:=st,pending:=pe,fn,tmps:=a.tmps,params:= #[p],assign,body,defers:=w.heap.size}:=⟨_,rfl⟩;obtain⟨W1,hW1⟩:∃W1,(w.alloc (.deferred (some []))).alloc (.loop (rec .ready none))=W1:=⟨_,rfl⟩;have hb1:Below w.heap.size w W1:=by rw[<-hW1];exact bal (bal (b0 w) _) _
 have hL1:W1.heap[w.heap.size+1]? =some (.loop (rec .ready none)):=by
  rw[<-hW1];have:=World.alloc_heap_new (w.alloc (.deferred (some []))) (.loop (rec .ready none));rwa [iN] at this
 have hK1:W1.heap[w.heap.size]? =some (.deferred (some [])):=by
  rw[<-hW1];exact(kU _ _ _ ag).trans (World.alloc_heap_new w _)
 have hne:∀{W:World} {l:Nat} {o:Obj},w.heap.size<=l->∀b∈B,(W.putObj l o).heap[b]? =W.heap[b]? :=fun hl b hb=>World.putObj_heap_other (by have:=hB b hb;omega)
 refine⟨w.heap.size+1,[{target:=.collected w.heap.size,args:= #[]}],W1,{target:=.fn (.func gf) lb,args:= #[.func (.yield (w.heap.size+1)) #[] #[]]},W1,gf,
  #[.func (.yield (w.heap.size+1)) #[] #[]]++lb,W1,?_,?_,fun _ _=>trivial,?_,fun h=>by simp[Fence.wide] at h,?_⟩
 ·rw[<-hW1,hrec];exact run_enterLoop_outer _ _ _ _ _
 ·simp only[resolve,hg];simp[go_sem]
 ·simp[invoke,go_sem,eg]
 refine(hit (w.heap.size+1) (fun k W=>I k W/\W.heap[w.heap.size+1]? =some (.loop (rec .ready none))/\W.heap[w.heap.size]? =some (.deferred (some []))/\w.heap.size<=W.heap.size) W1
  (fun b hb=>hb1.block b (hB b hb)) (fun k A A' h hb=>?_) (fun k hk A h=>?_) ⟨hI _ _ _ h0 hb1,hL1,hK1,hb1.size⟩).mono ?_
 ·obtain⟨h1,h2,h3,h4⟩:=h;exact⟨hI _ _ _ h1 hb,(hb.block _ (jq.1 h2).1).trans h2,(hb.block _ (jq.1 h3).1).trans h3,i3 h4 hb.size⟩
 ·obtain⟨hi,hl,hk1,hsz⟩:=h;have hlt:w.heap.size+1<A.heap.size:=(jq.1 hl).1;have hy:=run_yield (P:=P) (args:= #[xs[k]]) hl (by rw[hrec];simp);rw[hrec] at hy;have hl2:(A.putObj (w.heap.size+1) (.loop {rec .ready none with state:=.busy})).heap[w.heap.size+1]? =some (.loop {rec .ready none with state:=.busy}):=World.putObj_heap_same hlt;have hk2:(A.putObj (w.heap.size+1) (.loop {rec .ready none with state:=.busy})).heap[w.heap.size]? =some (.deferred (some [])):=(World.putObj_heap_other aa).trans hk1;have hts:(#[p].zip #[xs[k]]).foldl (fun t (x:Tmp×Value)=>t.setIfInBounds x.1 x.2) a.tmps=a.tmps.setIfInBounds p xs[k]:=ag;refine⟨fn,_,assign,body,hy,roundIn_of_wpIn hfn ?_⟩;have hr0:=hround k hk (w.heap.size+1) A;rw[<-hts] at hr0;refine wpIn_mono hr0 ?_;intro e a1 W1 hq
  cases e with
  |normal=>
   obtain⟨rfl,hq⟩:=hq
   refine⟨_,run_beginRound hl (by rw[hrec]),wpIn_mono (hq _ (by simpa using hsz) (hI2 _ _ _ _ _ hi aa hl rfl)) ?_⟩
   rintro e a3 W3 ⟨rfl,hk3,hB3,hi3⟩
   have hl3:=hk3.same _ _ aa hl2 rfl
   have hr:=run_endRound (P:=P) none hl3
   rw[hrec] at hr hl3⊢
   have hlt3:=(jq.1 hl3).1
   refine⟨_,_,hr,rfl,⟨hI2 _ _ _ _ _ hi3 aa hl3 rfl,World.putObj_heap_same hlt3,(World.putObj_heap_other aa).trans (hk3.same _ _ (iy _) hk2 rfl),?_⟩,?_,fun b hb=>?_⟩
   ·have:=hk3.size;simp at this⊢;omega
   ·have:=hk3.size;simp at this⊢;omega
   ·rw[hne aa b hb,hB3 b hb];exact hne aa b hb
  |_=>exact hq.elim
 ·rintro e W2 ⟨⟨v,rfl⟩,hi,hl,hk,hsz⟩;exact⟨none,_,by have:=run_endLoop (P:=P) hl (by rw[hrec];simp);rw[hrec] at this;exact this,hdone _ _ (iy _) (hI2 _ _ _ _ _ hi aa hl rfl) ((World.putObj_heap_other aa).trans hk)⟩
theorem ku5{F:Fence}{n:Nat}(hd:F.depth=none)(hf:∀f,F.fn f)(hF:∀m,Machine.fenced P F m){o:Oper}{K:Act->World->Prop}:∀{r:Result Next},o.upon P a K Q r->o.uponIn F n P a K Q r
 | .ok (.value v) w',h=>h
 | .ok .skip w',h=>h
 | .ok (.defer d) w',h=>h
 | .ok (.enter f args) w', h => ⟨fun hh => (by rw [hd] at hh; cases hh), hf f, fun cs _ => by
     obtain⟨e,w2,fr,h1,h2,h3⟩:=h cs;refine⟨e,w2,fr,?_,?_,h3⟩
     · cases e<;>exact h1
     · cases e with
       |returned v=>exact(StepsIn.of_steps h2).mono fun m _=>hF m
       |panicked c=>exact(StepsIn.of_steps h2).mono fun m _=>hF m
       |outgrown=>exact h2⟩
 | .ok (.row row args) w', h => ⟨fun hh => (by rw [hd] at hh; cases hh), fun c cs _ => by
     obtain⟨v,w2,h1,h2⟩:=h c cs;exact⟨v,w2,h1,(StepsIn.of_steps h2).mono fun m _=>hF m⟩⟩
 | .ok (.round ..) w',h=>h.elim
 | .halt x w',h=>by cases x<;>first|exact h|exact h.elim
def jm5:Oper->Bool:=fun o=>match o.op with| .defer _=>false|_=>true
theorem kx6{F:Fence}{n:Nat}(hd:F.depth=none)(hf:∀f,F.fn f)(hF:∀m,Machine.fenced P F m){o:Oper}(ho:jm5 o=true){K:Act->World->Prop}(h:o.wp P a w K Q):o.wpIn F n P a w K Q:=by
 have hs:o.semAt F.round a.eval=execOp a.eval o:=by
  cases hr:F.round with
  |none=>simp[Oper.semAt]
  |some l=>exact Oper.semAt_some l _ _ fun c hc=>by unfold jm5 at ho;rw[hc] at ho;cases ho
 refine⟨fun f _=>hf f,?_⟩;rw[hs];exact ku5 hd hf hF h
theorem jH5{F:Fence}{n:Nat}(hd:F.depth=none)(hf:∀f,F.fn f)(hF:∀m,Machine.fenced P F m){ops:Array Oper}(hno:∀a w,¬Q .outgrown a w):∀(l:List Oper) (a:Act) (w:World),l.all jm5=true->wpList P ops Q l a w->wpListIn F n P ops Q l a w
 | [],_,_,_,h=>h
 |o::r,a,w,hn,h=>by
  rw[List.all_cons,iD] at hn;unfold wpList at h;unfold wpListIn
  split at h
  ·rename_i hw;rw[ij hw];exact Oper.wpIn_mono (fun a w hh=>jH5 hd hf hF hno r a w hn.2 hh) (kx6 hd hf hF hn.1 (h.resolve_right fun hh=>by obtain⟨_,a,w,hq⟩:=hh;exact hno a w hq))
  ·rename_i hw;rw[ii hw];exact⟨fun f _=>hf f,jH5 hd hf hF hno r _ _ hn.2 h⟩
theorem jZ1{l id:Nat}{ops:List Oper}(hn:ops.all jm5=true)(hno:∀a w,¬Q .outgrown a w)(h:wpList P ops.toArray Q ops a w):(Code.region id ops.toArray false).wpIn (FW.inRound l) 0 P Q a w:=
 wpIn_region_lit (jH5 (F:=FW.inRound l) rfl (fun _=>trivial) (fun m=>fenced_wide P m) hno _ _ _ hn h)
end
section
variable{S:List Nat}{w0 W W':World}{L L':List Ent}{R R':List Rd}
theorem St.restart(X:St S w0 W L R):St (L.map Ent.g) W W L R:=⟨Mv.refl _ _,X.nd,X.blk,fun e he=>.inl (jP he),X.rd⟩
theorem St.back(X:St S w0 W L R)(Y:St (L.map Ent.g) W W' L' R'):St S w0 W' L' R':=
 ⟨X.mv.then Y.mv fun k hk => by
     obtain⟨e,he,rfl⟩:=jg.1 hk;exact X.own e he,Y.nd,Y.blk,fun e he=>by
     rcases Y.own e he with h|h
     · obtain⟨e2,he2,heq⟩:=jg.1 h;rw[<-heq];exact X.own e2 he2
     · exact .inr (i3 X.mv.size h),Y.rd⟩
theorem St.keepsFrom(X:St S w0 W L R)(Y:St (L.map Ent.g) W W' L' R')(B:Nat):KeepsFrom B W W':=
 ⟨Y.mv.size,fun k o _ hk ho=>by
  refine(Y.mv.block k (jq.1 hk).1 fun hm=>?_).trans hk;obtain⟨e,he,rfl⟩:=jg.1 hm;have:=X.blk e he;unfold Blk at this;rw[this] at hk
  cases hk
  cases ho⟩
theorem St.other(X:St S w0 W L R)(Y:St (L.map Ent.g) W W' L' R'){D:Nat}{o:Obj}(hD:W.heap[D]? =some o)(ho:o.isCells=false):W'.heap[D]? =some o:=(X.keepsFrom Y 0).same D o (iq _) hD ho
theorem St.putO(X:St S w0 W L R){l:Nat}{o:Obj}(o':Obj)(hl:w0.heap.size<=l)(ho:W.heap[l]? =some o)(hc:o.isCells=false)(hS:l∉S):St S w0 (W.putObj l o') L R:=by
 have hne:∀{b:Nat} {cs t f},W.heap[b]? =some (.cells cs t f)->b≠l:=fun hb e=>by
  rw[e,ho] at hb;cases hb;cases hc
 have hcell:∀{b j:Nat} {u:Value},W.cell? ⟨b,j,none⟩=some u->(W.putObj l o').cell? ⟨b,j,none⟩=some u:=fun{b j u} h=>by
  obtain⟨q,hq,hw⟩:=not_walk_of_cell h
  have hb:b≠l:=fun e=>by
   subst e;unfold World.cell? at h;rw[ho] at h
   cases o<;>simp_all [Obj.isCells]
  rw[<-h];exact jM (World.putObj_heap_other hb)
 refine⟨⟨X.mv.os,X.mv.tape,X.mv.output,by simpa using X.mv.size,fun k hk hn=>?_⟩,X.nd,fun e he=>?_,X.own,fun r hr=>⟨?_,(X.rd r hr).2⟩⟩
 ·rw[World.putObj_heap_other aa];exact X.mv.block k hk hn
 ·have:=X.blk e he;unfold Blk at this⊢;rw[World.putObj_heap_other (hne this)];exact this
 ·obtain⟨a,cap,hv,h1,h2,h3⟩:=(X.rd r hr).1;exact⟨a,cap,hv,h1,h2,h3.imp id fun⟨b,off,ha,hc2⟩=>⟨b,off,ha,fun j u hj=>hcell (hc2 j u hj)⟩⟩
end
theorem St.gs6{S:List Nat}{w0 w:World}{a b c d e f:Nat}{ca cb cc cd ce cf:List Value}{ta tb tc td te tf:TypeId}{L:List Ent}{R:List Rd}(_:St S w0 w (⟨a,ca,ta⟩::⟨b,cb,tb⟩::⟨c,cc,tc⟩::⟨d,cd,td⟩::⟨e,ce,te⟩::⟨f,cf,tf⟩::L) R):∃x1 x2 x3 x4 x5 x6,x1=a/\x2=b/\x3=c/\x4=d/\x5=e/\x6=f:=⟨_,_,_,_,_,_,rfl,rfl,rfl,rfl,rfl,rfl⟩
theorem St.gs4{S:List Nat}{w0 w:World}{a b c d:Nat}{ca cb cc cd:List Value}{ta tb tc td:TypeId}{L:List Ent}{R:List Rd}(_:St S w0 w (⟨a,ca,ta⟩::⟨b,cb,tb⟩::⟨c,cc,tc⟩::⟨d,cd,td⟩::L) R):∃x1 x2 x3 x4,x1=a/\x2=b/\x3=c/\x4=d:=⟨_,_,_,_,rfl,rfl,rfl,rfl⟩
theorem St.front(pre:List Ent){S:List Nat}{w0 w:World}{x:Ent}{L:List Ent}{R:List Rd}(X:St S w0 w (pre++x::L) R):St S w0 w (x::(pre++L)) R:=X.perm List.perm_middle
theorem St.gs2{S:List Nat}{w0 w:World}{a b:Nat}{ca cb:List Value}{ta tb:TypeId}{L:List Ent}{R:List Rd}(_:St S w0 w (⟨a,ca,ta⟩::⟨b,cb,tb⟩::L) R):∃x1 x2,x1=a/\x2=b:=⟨_,_,rfl,rfl⟩
theorem St.gs1{S:List Nat}{w0 w:World}{a:Nat}{ca:List Value}{ta:TypeId}{L:List Ent}{R:List Rd}(_:St S w0 w (⟨a,ca,ta⟩::L) R):∃x1,x1=a:=⟨_,rfl⟩
theorem St.less{S:List Nat}{w0 w:World}{L L2:List Ent}{R R2:List Rd}(X:St S w0 w L R)(hL:L2.Sublist L)(hR:∀r∈R2,r∈R):St S w0 w L2 R2:=
 ⟨X.mv,(hL.map _).nodup X.nd,fun x hx=>X.blk x (hL.subset hx),fun x hx=>X.own x (hL.subset hx),fun r hr=>⟨(X.rd r (hR r hr)).1,(X.rd r (hR r hr)).2.imp id fun h b hb x hx=>h b hb x (hL.subset hx)⟩⟩
theorem kG9{α:Type}{f:α->List Value}{base:Nat}{e:TypeId}{c:Nat}{w:World}{v:Value}{l:List α}(hF:Flat f c)(h:Wb.Own f base e c w v l)(hl:0<l.length):∃g cap,v=.slice (some ⟨g,0,none⟩) l.length cap/\l.length<=cap/\cap<=maxLen:=by
 obtain⟨h1,h2⟩:=h;rcases h2 with ⟨rfl,h0⟩|⟨g,cap,cur,rfl,hb,hg,hn,hc,hs,ht⟩
 ·omega
 ·exact⟨g,cap,rfl,hn,hc⟩
theorem kk4{α:Type}{f:α->List Value}{c:Nat}(hF:∀x,(f x).length=c){w:World}{b off n cap:Nat}{l:List α}(h:RL f w (.slice (some ⟨b,off,none⟩) n cap) l)(j m:Nat)(hm:j+m<=l.length):RL f w (.slice (some ⟨b,off+j*c,none⟩) m m) ((l.drop j).take m):=by
 obtain⟨a,cap',hv,h1,h2,h3⟩:=h;have hl:((l.drop j).take m).length=m:=by rw[iA,iX];omega
 refine⟨_,m,by rw[hl],by rw[hl];exact iy _,aa,?_⟩;rcases h3 with h3|⟨b',off',ha,hc⟩
 ·left;have h4:=j95 hF l;rw[h3,iC] at h4;have h5:=j95 hF ((l.drop j).take m);rw[hl] at h5
  have:m*c=0:=by
   rcases Nat.mul_eq_zero.1 h4.symm with h6|h6
   ·have:m=0:=by omega
    rw[this,kq]
   ·rw[h6,Nat.mul_zero]
  rw[this] at h5;exact i5.1 h5
 ·right
  cases hv;cases ha
  refine⟨b,off+j*c,rfl,fun i u hi=>?_⟩;rw[kZ];apply hc
  have e:l.flatMap f=(l.take j).flatMap f++((l.drop j).take m).flatMap f++((l.drop j).drop m).flatMap f:=by
   rw[<-jz,<-jz,iE,ji,ji]
  have hl2:((l.take j).flatMap f).length=j*c:=by rw[j95 hF,iA];congr 1;omega
  rw[e,iE,jb aa,hl2,jw,i8 (i4.1 hi).1];exact hi
theorem St.partR{S : List Nat}{w0 w : World}{L : List Ent}{R : List Rd}(X : St S w0 w L R){α : Type}{f : α -> List Value}{c : Nat}(hF : ∀ x, (f x).length = c){b off n cap : Nat}{l : List α}(hR : kj2 f (.slice (some ⟨b, off, none⟩) n cap) l ∈ R)(j m : Nat)(hm : j + m <= l.length) :St S w0 w L (kj2 f (.slice (some ⟨b,off+j*c,none⟩) m m) ((l.drop j).take m)::R):=by
 obtain⟨h1,h2⟩:=X.rd _ hR;refine X.addR (kk4 hF h1 j m hm) ?_;rcases h2 with h2|h2
 ·left;have h3:l.flatMap f=[]:=h2;have h4:=j95 hF l;rw[h3,iC] at h4;have h5:=j95 hF ((l.drop j).take m);rw[iA,iX] at h5
  have:min m (l.length-j)*c=0:=by
   rcases Nat.mul_eq_zero.1 h4.symm with h6|h6
   ·have:min m (l.length-j)=0:=by omega
    rw[this,kq]
   ·rw[h6,Nat.mul_zero]
  rw[this] at h5;exact i5.1 h5
 ·right;intro b' hb e he
  cases hb
  exact h2 b rfl e he
theorem St.shortR{S:List Nat}{w0 w:World}{L:List Ent}{R:List Rd}(X:St S w0 w L R){α:Type}{f:α->List Value}{a:Option Addr}{cap:Nat}{l:List α}(hR:kj2 f (.slice a l.length cap) l∈R):St S w0 w L (kj2 f (.slice a l.length l.length) l::R):=by
 obtain⟨⟨a',c',hv,h1,h3,h4⟩,h2⟩:=X.rd _ hR
 cases hv
 exact X.addR ⟨_,_,rfl,iy _,i3 h1 h3,h4⟩ (h2.imp id fun h b hb=>h b (by cases a with|none=>cases hb|some x=>exact hb))
section
variable{P:Program}{fn:Func}{F:Ending->World->Prop}{a:Act}{w w0:World}{S:List Nat}{L:List Ent}{R:List Rd}
theorem k55(h:bodyPost P fn F .ret a w):bodyPostM FW 0 P fn F .ret a w:=by
 obtain⟨hd,v,h1,h2⟩:=h;show LeavesInM FW 0 P fn a.tmps F a.defers .returning w;rw[hd];exact⟨v,h1,h2⟩
theorem kC7{D:Nat}{ds:List Deferred}{T:Array Value}(hD:w.heap[D]? =some (.deferred (some [])))(h:LeavesInM FW 0 P fn T F ds .returning (w.putObj D (.deferred none))):LeavesInM FW 0 P fn T F ({target:=.collected D,args:= #[]}::ds) .returning w:=
 ⟨ag,.inl ⟨_,_,rfl,run_takeDeferred hD,h⟩⟩
theorem kH9{D1 D2 : Nat}{p q r : Tmp}{T : TypeId}(hr : fn.results = #[.cell p T, .tmp q, .tmp r]){g : Nat}(hp : EvR a (.tmp p) (.pointer (some ⟨g, 0, none⟩))){v u : Value}(hq : EvR a (.tmp q) v)(hu : EvR a (.tmp r) u){n : Nat}[hT : AggT P T n](X : St S w0 w L R){cs:List Value} {t:TypeId} (he:⟨g,cs,t⟩∈L) (hn:cs.length=n) (hd:a.defers=[{target:=.collected D2,args:= #[]},{target:=.collected D1,args:= #[]}]) (h1:w.heap[D1]? =some (.deferred (some []))) (h2:w.heap[D2]? =some (.deferred (some []))) (h12:D1≠D2)(s1:w0.heap.size<=D1) (s2:w0.heap.size<=D2) (n1:D1∉S) (n2:D2∉S) (h:∀w',St S w0 w' L R->F (.returned (.tuple #[.agg cs.toArray,v,u])) w'):bodyPostM FW 0 P fn F .ret a w:=by
 have hp':a.tmps[p]?.getD undef=.pointer (some ⟨g,0,none⟩):=bN;have hq':a.tmps[q]?.getD undef=v:=cQ;have hu':a.tmps[r]?.getD undef=u:=by have:=hu.eval;simpa [Act.eval] using this
 have h1':(w.putObj D2 (.deferred none)).heap[D1]? =some (.deferred (some [])):=(World.putObj_heap_other h12).trans h1;have X2:=(X.putO (.deferred none) s2 h2 rfl n2).putO (.deferred none) s1 h1' rfl n1;show LeavesInM FW 0 P fn a.tmps F a.defers .returning w;rw[hd];refine kC7 h2 (kC7 h1' ⟨.tuple #[.agg cs.toArray,v,u],?_,h _ X2⟩);simp[results,hr,hp',hq',hu',asAddr,X2.whole (T:=T) he hn]
def kR0(P:Program)(fn:Func)(F:Ending->World->Prop):Exit->Act->World->Prop
 | .ret,a,w=>bodyPostM FW 0 P fn F .ret a w
 | .normal,a,w=>bodyPostM FW 0 P fn F .normal a w
 |_,_,_=>False
theorem jX9{f : FuncId}{c : Code}{args : Array Value}{R : Ending -> World -> Prop}(hf : P.funcs[f]? = some fn)(hb : fn.body = some c)(h:c.wp P (kR0 P fn R) {tmps:=args++Array.replicate (fn.ntmps-args.size) undef,defers:=[]} w):Calls P f args w R:=
 (callsIn_wide (n:=0)).1 (callsIn_of_wp_marks hf hb trivial ((wpIn_wide (n:=0)).2 (wp_mono h fun e a w hq=>by cases e<;>first|exact hq|exact hq.elim)) rfl)
end
def j74(n len:Nat):Nat:=(len+n-1)/n
theorem jU_{n len k:Nat}(hn:0<n):k<j74 n len↔k*n<len:=by
 unfold j74;rw[Nat.lt_iff_add_one_le,Nat.le_div_iff_mul_le hn,ju];omega
def jB8(b off c n len k:Nat):Value:=.slice (some ⟨b,off+k*n*c,none⟩) (min n (len-k*n)) (min n (len-k*n))
def jW_(b off c n len:Nat):List Value:=(List.range (j74 n len)).map (jB8 b off c n len)
end Wb
namespace Go.Proofs.YtlecmdajpfkaeaaGreatDoor
open Go.RowKit Wb
attribute [local go_sem] Oper.semAt_some
theorem ev{A:Prop}(h:A:=by
 clear hsW hnW;obtain⟨k,hk,rfl,hJk,hs,hn2⟩:=hrel;by_cases hkl:k*n<len
 ·have hkN:=(hlt.out k).2 hkl;have q1:(k:Int)*(n:Int)<(len:Int):=dS
  gi_wp2
  refine(wpIn_wide (n:=0)).2 ?_
  go_region
  obtain⟨fn,tmps,assign,body,hy,hR⟩:=hY.out k hkN wr.drew (hJ.out _ _ _ hJk (b0 wr).drew);simp only[jB8,jA] at hy;obtain⟨m,hm⟩:∃m,m=min n (len-k*n):=⟨_,rfl⟩
  have hif:(if len-k*n<n then((len-k*n:Nat):Int) else(n:Int))=(m:Int):=by
   rw[hm];split<;>omega
  first|rw[hif]|rw[show min (n:Int) ((len-k*n:Nat):Int)=(m:Int) by rw[hm];omega]
  rw[<-hm] at hy;have m1:k*n+m<=len:=aa;have m2:k*n+m<=cap:=aa;have m3:¬m=0:=aa;have hs2:wr.drew.cell? ⟨gs,0,none⟩=some (.slice (some ⟨b,off,none⟩) len cap):=hs;have hn3:wr.drew.cell? ⟨gn,0,none⟩=some (.int .i64 n):=hn2;clear hif hm;generalize wr.drew=wd at*
  gi_wp2
  refine⟨rfl,hR.mono ?_⟩;rintro e W3 ⟨rfl,hJ3,hz3,hB3⟩;have hs3:=(jM (w:=wd) (a:=⟨gs,0,none⟩) (hB3 gs ag)).trans hs2;have hn4:=(jM (w:=wd) (a:=⟨gn,0,none⟩) (hB3 gn ag)).trans hn3
  gi_wp2
  go_roundw
  case rel=>exact⟨k+1,aa,by rw[ju];simp,hJ3,hs3,hn4⟩
  case measure=>simp[intOf];omega
 ·obtain rfl:k=j74 n len:=Nat.le_antisymm hk (Nat.le_of_not_lt fun h=>hkl ((hlt.out k).1 h));have q1:¬((j74 n len:Nat):Int)*(n:Int)<(len:Int):=dS
  gi_wp2
  go_end0;exact⟨⟨_,rfl⟩,hJk⟩):A:=h
theorem jb5(b off cap len n gs gn : Nat)(hn : 0 < n)(h1 : n <= 1000)(h2 : len <= 1000000)(hc : len <= cap)(w : World)(hs : w.cell? ⟨gs, 0, none⟩ = some (.slice (some ⟨b, off, none⟩) len cap))(hk : w.cell? ⟨gn, 0, none⟩ = some (.int .i64 n)) :kB9 Tryz.prog 145 #[.pointer (some ⟨gs,0,none⟩),.pointer (some ⟨gn,0,none⟩)] (jW_ b off 2 n len) [gs,gn] w:=by
 intro l J W hB hJ hY h0;have hxl:(jW_ b off 2 n len).length=j74 n len:=by simp[jW_]
 have hlt:=fun k=>jU_ (len:=len) (k:=k) hn;have hsW:W.cell? ⟨gs,0,none⟩=some (.slice (some ⟨b,off,none⟩) len cap):=(jM (hB gs ag)).trans hs;have hnW:W.cell? ⟨gn,0,none⟩=some (.int .i64 n):=(jM (hB gn ag)).trans hk
 have hY':∀k,k<j74 n len->∀A,J k A->YieldAt FW 0 Tryz.prog l #[jB8 b off 2 n len k] A fun e A'=>e=.returned (.bool true)/\J (k+1) A'/\A.heap.size<=A'.heap.size/\ ∀b∈[gs,gn],A'.heap[b]? =A.heap[b]? :=fun k hk A hA=>by
  have:=hY k (by rw[hxl];exact hk) A hA;simpa [jW_] using this
 rw[hxl];clear hY;have hY:=hY';clear hY' hxl;replace hJ:=hid hJ;replace hY:=hid hY;replace hlt:=hid hlt;clear hB hs hk;refine callsIn_of_wp Tryz.func145 rfl trivial ?_ rfl;simp only[Tryz.ntmps145,jk,iB,iC,Nat.reduceAdd,Nat.reduceSub,jS,Array.replicate_zero,jX,jV,iw,iu]
 gi_wp2
 gi_loopw [4] (fun i wr=>∃k:Nat,k<=j74 n len/\i=.int .i64 ((k*n:Nat):Int)/\J k wr/\wr.cell? ⟨gs,0,none⟩=some (.slice (some ⟨b,off,none⟩) len cap)/\wr.cell? ⟨gn,0,none⟩=some (.int .i64 n)) (fun i _=>len+n-(intOf i).toNat)
 case atStart=>exact⟨0,iq _,ag,h0,hsW,hnW⟩
 case round=>
  exact ev
theorem k14(a : Option Addr)(cap gs gn : Nat)(n : Int)(w : World)(hs : w.cell? ⟨gs, 0, none⟩ = some (.slice a 0 cap))(hk : w.cell? ⟨gn, 0, none⟩ = some (.int .i64 n)) :kB9 Tryz.prog 145 #[.pointer (some ⟨gs,0,none⟩),.pointer (some ⟨gn,0,none⟩)] [] [gs,gn] w:=by
 intro l J W hB hJ hY h0;have hsW:W.cell? ⟨gs,0,none⟩=some (.slice a 0 cap):=(jM (hB gs ag)).trans hs;clear hB hs hk hY hJ;refine callsIn_of_wp Tryz.func145 rfl trivial ?_ rfl;simp only[Tryz.ntmps145,jk,iB,iC,Nat.reduceAdd,Nat.reduceSub,jS,Array.replicate_zero,jX,jV,iw,iu]
 gi_wp2
 gi_loopw [4] (fun i wr=>i=.int .i64 0/\J 0 wr/\wr.cell? ⟨gs,0,none⟩=some (.slice a 0 cap)) (fun _ _=>0)
 case atStart=>exact⟨rfl,h0,hsW⟩
 case round=>
  clear hsW;obtain⟨rfl,hJk,hs⟩:=hrel
  gi_wp2
  go_end0;exact⟨⟨_,rfl⟩,hJk⟩
theorem kt2(a : Option Addr)(len cap n : Nat)(nI : Int)(hI : nI = n)(hn : 0 < n)(h2 : n <= 1000){S : List Nat}{w0 w : World}{L : List Ent}{R : List Rd}(X : St S w0 w L R) :Calls Tryz.prog 115 #[.slice a len cap,.int .i64 nI] w fun e w'=>∃gs gn,e=.returned (.func (.func 145) #[] #[.pointer (some ⟨gs,0,none⟩),.pointer (some ⟨gn,0,none⟩)])/\St S w0 w' (⟨gn,[.int .i64 n],3⟩::⟨gs,[.slice a len cap],45⟩::L) R:=by
 subst hI;have q:¬((n:Int)<1):=aa;go_enter Tryz.func115,Tryz.ntmps115
 go_wp2_with (first|(refine ZcL ?_)| (refine ZcS ?_;clear X;intro w X)| (refine ZcA ?_;clear X;intro g w X))
 go_ret;exact⟨_,_,rfl,X⟩
theorem jb6(b off cap len n gs gn : Nat)(hn : 0 < n)(h1 : n <= 1000)(h2 : len <= 1000000)(hc : len <= cap)(w : World)(hs : w.cell? ⟨gs, 0, none⟩ = some (.slice (some ⟨b, off, none⟩) len cap))(hk : w.cell? ⟨gn, 0, none⟩ = some (.int .i64 n)) :kB9 Tryz.prog 144 #[.pointer (some ⟨gs,0,none⟩),.pointer (some ⟨gn,0,none⟩)] (jW_ b off 1 n len) [gs,gn] w:=by
 intro l J W hB hJ hY h0;have hxl:(jW_ b off 1 n len).length=j74 n len:=by simp[jW_]
 have hlt:=fun k=>jU_ (len:=len) (k:=k) hn;have hsW:W.cell? ⟨gs,0,none⟩=some (.slice (some ⟨b,off,none⟩) len cap):=(jM (hB gs ag)).trans hs;have hnW:W.cell? ⟨gn,0,none⟩=some (.int .i64 n):=(jM (hB gn ag)).trans hk
 have hY':∀k,k<j74 n len->∀A,J k A->YieldAt FW 0 Tryz.prog l #[jB8 b off 1 n len k] A fun e A'=>e=.returned (.bool true)/\J (k+1) A'/\A.heap.size<=A'.heap.size/\ ∀b∈[gs,gn],A'.heap[b]? =A.heap[b]? :=fun k hk A hA=>by
  have:=hY k (by rw[hxl];exact hk) A hA;simpa [jW_] using this
 rw[hxl];clear hY;have hY:=hY';clear hY' hxl;replace hJ:=hid hJ;replace hY:=hid hY;replace hlt:=hid hlt;clear hB hs hk;refine callsIn_of_wp Tryz.func144 rfl trivial ?_ rfl;simp only[Tryz.ntmps144,jk,iB,iC,Nat.reduceAdd,Nat.reduceSub,jS,Array.replicate_zero,jX,jV,iw,iu]
 gi_wp2
 gi_loopw [4] (fun i wr=>∃k:Nat,k<=j74 n len/\i=.int .i64 ((k*n:Nat):Int)/\J k wr/\wr.cell? ⟨gs,0,none⟩=some (.slice (some ⟨b,off,none⟩) len cap)/\wr.cell? ⟨gn,0,none⟩=some (.int .i64 n)) (fun i _=>len+n-(intOf i).toNat)
 case atStart=>exact⟨0,iq _,ag,h0,hsW,hnW⟩
 case round=>
  exact ev
theorem k15(a : Option Addr)(cap gs gn : Nat)(n : Int)(w : World)(hs : w.cell? ⟨gs, 0, none⟩ = some (.slice a 0 cap))(hk : w.cell? ⟨gn, 0, none⟩ = some (.int .i64 n)) :kB9 Tryz.prog 144 #[.pointer (some ⟨gs,0,none⟩),.pointer (some ⟨gn,0,none⟩)] [] [gs,gn] w:=by
 intro l J W hB hJ hY h0;have hsW:W.cell? ⟨gs,0,none⟩=some (.slice a 0 cap):=(jM (hB gs ag)).trans hs;clear hB hs hk hY hJ;refine callsIn_of_wp Tryz.func144 rfl trivial ?_ rfl;simp only[Tryz.ntmps144,jk,iB,iC,Nat.reduceAdd,Nat.reduceSub,jS,Array.replicate_zero,jX,jV,iw,iu]
 gi_wp2
 gi_loopw [4] (fun i wr=>i=.int .i64 0/\J 0 wr/\wr.cell? ⟨gs,0,none⟩=some (.slice a 0 cap)) (fun _ _=>0)
 case atStart=>exact⟨rfl,h0,hsW⟩
 case round=>
  clear hsW;obtain⟨rfl,hJk,hs⟩:=hrel
  gi_wp2
  go_end0;exact⟨⟨_,rfl⟩,hJk⟩
theorem kt3(a : Option Addr)(len cap n : Nat)(nI : Int)(hI : nI = n)(hn : 0 < n)(h2 : n <= 1000){S : List Nat}{w0 w : World}{L : List Ent}{R : List Rd}(X : St S w0 w L R) :Calls Tryz.prog 114 #[.slice a len cap,.int .i64 nI] w fun e w'=>∃gs gn,e=.returned (.func (.func 144) #[] #[.pointer (some ⟨gs,0,none⟩),.pointer (some ⟨gn,0,none⟩)])/\St S w0 w' (⟨gn,[.int .i64 n],3⟩::⟨gs,[.slice a len cap],46⟩::L) R:=by
 subst hI;have q:¬((n:Int)<1):=aa;go_enter Tryz.func114,Tryz.ntmps114
 go_wp2_with (first|(refine ZcL ?_)| (refine ZcS ?_;clear X;intro w X)| (refine ZcA ?_;clear X;intro g w X))
 go_ret;exact⟨_,_,rfl,X⟩
end Go.Proofs.YtlecmdajpfkaeaaGreatDoor
namespace Wb
open Go Go.RowKit
def k56(r:Ring)(t:Txn)(j:Nat):List Stp:=List.zipWith atW (places r.head j) ((logT t).take j)
theorem jg8(r:Ring)(t:Txn):k56 r t 0=[]:=rfl
theorem jy3{r:Ring}{t:Txn}{j:Nat}{s:ByteArray}(h:(logT t)[j]? =some s):k56 r t (j+1)=k56 r t j++ [atW ((r.head+j)%24) s]:=by
 obtain⟨hj,hs⟩:=i4.1 h;unfold k56;rw[jL1,it hj,hs,List.zipWith_append (by rw[j87,iA];omega)];rfl
theorem jm_{r:Ring}{t:Txn}{j:Nat}(h:j<=(logT t).length):(k56 r t j).length=j:=by
 unfold k56;rw[lN,j87,iA];omega
theorem jm0(t:Txn):(logT t).length=(j_4 t).length+1:=by unfold logT;rw[il];rfl
theorem kR3(r:Ring)(t:Txn):k56 r t (j_4 t).length=List.zipWith atW (places r.head (j_4 t).length) (j_4 t):=by
 unfold k56 logT;rw[jU (iy _),iY]
def jt0(t:Txn)(k:Nat):Nat:=(ju5 t.seq t.rev).length+(if k=0 then 0 else if k=1 then(j39 t.seq (t.mt.take 10)).length else(j39 t.seq (t.mt.take 10)).length+(j39 t.seq (t.mt.drop 10)).length)
def partM(t:Txn)(k:Nat):List Cpy:=(t.mt.drop (k*10)).take 10
theorem jl6(q:Int)(r:List Int):(ju5 q r).length=if r=[] then 0 else 1:=by unfold ju5;split<;>rfl
theorem jf1(t:Txn):partM t 0=t.mt.take 10:=rfl
theorem k42{t:Txn}(h:t.mt.length<=12):partM t 1=t.mt.drop 10:=by
 unfold partM;rw[iV cG]
theorem kH7{t:Txn}(h:t.rev≠ []):(logT t)[0]? =some (markS (jL_ t.seq t.rev)):=by
 unfold logT j_4 ju5;rw[ii h];rfl
theorem kR4{t:Txn}(hm:t.mt.length<=12){k i:Nat}(hk:k<2){s:ByteArray}(h:(j39 t.seq (partM t k))[i]? =some s):(logT t)[jt0 t k+i]? =some s:=by
 unfold logT j_4 jt0;rw[i8]
 ·rw[kZ,jb (Nat.le_add_right _ _),jw];obtain rfl|rfl:k=0\/k=1:=aa
  ·rw[ij rfl,jm,<-jf1];rw[i8 (i4.1 h).1];exact h
  ·rw[ii ae,ij rfl,jb (Nat.le_add_right _ _),jw,<-k42 hm];exact h
 ·have:=(i4.1 h).1;rw[il,il];obtain rfl|rfl:k=0\/k=1:=aa
  ·rw[jf1] at this;rw[ij rfl];omega
  ·rw[k42 hm] at this;rw[ii ae,ij rfl];omega
theorem kZ3{q:Int}{p:List Cpy}(h:p≠ []):(j39 q p)[0]? =some (markS (jR4 q p)):=by unfold j39;rw[ii h];rfl
theorem kZ2{q:Int}{p:List Cpy}{i:Nat}(h:i<p.length):(j39 q p)[1+i]? =some (escS p[i].text):=by
 unfold j39;rw[ii (by intro e;subst e;exact absurd h (jl _)),Nat.add_comm,List.getElem?_cons_succ,jQ];simp[h]
theorem jG_{t:Txn}(hm:t.mt.length<=12){k:Nat}(hk:k*10<t.mt.length):jt0 t (k+1)=jt0 t k+(1+(partM t k).length):=by
 have hk2:k<2:=aa;unfold jt0;obtain rfl|rfl:k=0\/k=1:=aa
 ·rw[ii ae,ij rfl,ij rfl,jU8,jf1,ii]
  ·omega
  ·intro h;have:=congrArg List.length h;rw[iA] at this;rw[iC] at this;omega
 ·rw[ii ae,ii ae,ii ae,ij rfl,jU8 t.seq (t.mt.drop 10),k42 hm,ii]
  ·omega
  ·intro h;have:=congrArg List.length h;rw[iX] at this;rw[iC] at this;omega
theorem jJ0{t:Txn}(k:Nat):(partM t k).length=min 10 (t.mt.length-k*10):=by unfold partM;rw[iA,iX]
theorem jB5{t:Txn}(hm:t.mt.length<=12):(j_4 t).length=jt0 t (j74 10 t.mt.length):=by
 have h2:(t.mt.drop 10=[])↔t.mt.length<=10:=by rw[<-i5,iX];omega
 have hc:j74 10 t.mt.length=if t.mt.length=0 then 0 else if t.mt.length<=10 then 1 else 2:=by
  unfold j74
  split
  ·omega
  ·split<;>omega
 rw[hc];unfold j_4 jt0;rw[il,il];by_cases h0:t.mt.length=0
 ·rw[ij h0,ij rfl];have e:t.mt=[]:=i5.1 h0;rw[e];rfl
 ·rw[ii h0];by_cases h1:t.mt.length<=10
  ·rw[ij h1,ii ae,ij rfl,h2.2 h1];have:(j39 t.seq []).length=0:=rfl;rw[this];omega
  ·rw[ii h1,ii ae,ii ae]
theorem jw1{t:Txn}(hm:t.mt.length<=12){k:Nat}(hk:k*10<t.mt.length):jt0 t k+(1+(partM t k).length)<=(j_4 t).length:=by
 rw[jB5 hm];have h1:=jG_ hm hk;have hc:=fun j=>jU_ (n:=10) (len:=t.mt.length) (k:=j) ae;have hk1:=(hc k).2 hk;have h2:=hc (k+1);have h3:=hc (k+2);by_cases hk2:(k+1)*10<t.mt.length
 ·have h4:=jG_ hm hk2;have:j74 10 t.mt.length=k+1+1:=aa;rw[this,h4,h1];omega
 ·have:j74 10 t.mt.length=k+1:=by omega
  rw[this,h1];omega
theorem kP_{t:Txn}(hm:t.mt.length<=12):jt0 t 0<=(j_4 t).length:=by
 by_cases hz:0<t.mt.length
 ·have:=jw1 hm (k:=0) aa;omega
 ·have:j74 10 t.mt.length=0:=by unfold j74;omega
  rw[jB5 hm,this];exact iy _
theorem ji5{t:Txn}(h:t.dt.length<=12):(j12 t).length<=13:=by
 unfold j12;rw[il,iZ];have:(if t.dt=[] then([]:List Stp) else [j_2]).length<=1:=dW;omega
theorem kU_{r:Ring}{t:Txn}(h:comE r t=0):comL r t=j12 t++(k56 r t (j_4 t).length++((if(j_4 t).length=0 then [] else [j_2])++ [atW ((r.head+((j_4 t).length:Int))%24) (markS (jN_ t.seq)),j_2])):=by
 unfold comL;rw[ij h,kR3];congr 3;by_cases hz:j_4 t=[]
 ·rw[ij hz,ij (by rw[hz];rfl)]
 ·rw[ii hz,ii (by rw[i5];exact hz)]
theorem k63(t:Txn):t.dt.map goS++(if 0<t.dt.length then [j_2] else [])=j12 t:=by
 unfold j12;congr 1;by_cases h:t.dt=[]
 ·rw[ij h,ii (by rw[h];decide)]
 ·rw[ii h,ij (kX.2 h)]
structure ComF(r:Ring)(t:Txn)(nb:Nat)(DS:List Stp)(LS:Nat->List Stp)(pj:Nat->Nat)(pm:Nat->List Cpy):Prop where
 l0:LS 0=[]
 lr:t.rev≠ []->LS 1=LS 0++ [atW ((r.head+((0:Nat):Int))%24) (markS (jL_ t.seq t.rev))]
 lp:∀k,k*10<t.mt.length->∀i s,(j39 t.seq (pm k))[i]? =some s->LS (pj k+i+1)=LS (pj k+i)++ [atW ((r.head+((pj k+i:Nat):Int))%24) s]
 j0:pj 0=(ju5 t.seq t.rev).length
 jn:∀k,k*10<t.mt.length->pj (k+1)=pj k+(1+(pm k).length)
 je:nb=pj (j74 10 t.mt.length)
 ml:∀k,(pm k).length=min 10 (t.mt.length-k*10)
 md:∀k,pm k=(t.mt.drop (k*10)).take 10
 ll:∀j,j<=nb+1->(LS j).length=j
 dl:DS.length<=13
 cd:comL r t=DS++(LS nb++((if nb=0 then [] else [j_2])++ [atW ((r.head+(nb:Int))%24) (markS (jN_ t.seq)),j_2]))
 ds:t.dt.map goS++(if 0<t.dt.length then [j_2] else [])=DS
 bk:∀k,k*10<t.mt.length->pj k+(1+(pm k).length)<=nb
 b0:pj 0<=nb
theorem km0{r:Ring}{t:Txn}(hm:t.mt.length<=12)(hd:t.dt.length<=12)(hc:comE r t=0):∃DS LS pj pm,ComF r t (j_4 t).length DS LS pj pm:=
 ⟨j12 t,k56 r t,jt0 t,partM t,jg8 r t,fun h=>jy3 (j:=0) (kH7 h),fun k hk i s hs=>jy3 (kR4 hm aa hs),rfl,fun k hk=>jG_ hm hk,jB5 hm,jJ0,fun _=>rfl,
  fun j hj=>jm_ (by rw[jm0];exact hj),ji5 hd,kU_ hc,k63 t,fun k hk=>jw1 hm hk,kP_ hm⟩
end Wb
namespace Go.Proofs.YtlecmdajpfkaeaaGreatDoor
open Go.RowKit Wb
theorem jG7(p : Int)(s : ByteArray)(w : World) :Calls Tryz.prog 105 #[.int .i64 p,.string s] w fun e w'=>e=.returned (.agg #[.int .i64 1,.int .i64 p,.string s])/\Below w.heap.size w w':=by
 have X:=kk7 [] w;go_enter Tryz.func105,Tryz.ntmps105
 go_wp2_with (first|(refine ZcL ?_)| (refine ZcS ?_;clear X;intro w X)| (refine ZcA ?_;clear X;intro g w X))
 exact j93 rfl (.tmp rfl rfl) X (.head _) rfl rfl ⟨rfl,X.below⟩
end Go.Proofs.YtlecmdajpfkaeaaGreatDoor
namespace Wb
open Go Go.RowKit
theorem kK7{l:List Txn}(hg:∀t∈l,goodT t=true){j:Nat}(hj:j<l.length){b:Int}(h:inI l[j].rev b=true):newestB (l.take (j+1)) b=none:=by
 rw[it hj,jV5];have g:=hg _ (iM hj)
 have h1:getC l[j].mt b=none:=by
  cases hc:getC l[j].mt b with
  |none=>rfl
  |some s=>
   exfalso
   have h2:hasB l[j].mt b=true:=by rw[jK5,hc];rfl
   obtain⟨c,hc1,hc2⟩:=kG.1 h2
   obtain⟨k,hk,rfl⟩:=i_.1 hc1
   have:=(jh5 g hk).1
   rw[iT.1 hc2,h] at this
   cases this
 rw[h1,h];rfl
theorem kK6{l:List Txn}{j:Nat}(hj:j<l.length){b:Int}{s:ByteArray}(h:getC l[j].mt b=some s):newestB (l.take (j+1)) b=some s:=by
 rw[it hj,jV5,h]
theorem kA4{l:List Txn}{j:Nat}(hj:j<l.length){b:Int}(h1:inI l[j].rev b=false)(h:getC l[j].mt b=none):newestB (l.take (j+1)) b=newestB (l.take j) b:=by
 rw[it hj,jV5,h,h1];rfl
theorem kX1{f:Int->Option ByteArray}{n:Nat}(h:f n=none):viewN f (n+1)=viewN f n:=by rw[j45,h];simp
theorem kX2{f:Int->Option ByteArray}{n:Nat}{s:ByteArray}(h:f n=some s):viewN f (n+1)=viewN f n++ [⟨n,s⟩]:=by rw[j45,h];rfl
theorem j4_.own{α:Type}{f:α->List Value}{e:TypeId}{c:Nat}{v:Value}{l:List α}{M L T:List Ent}{w0 w:World}{R:List Rd}(hF:Flat f c)(h:j4_ f e c v l M)(X:St [] w0 w (L++(M++T)) R):Own f w0.heap.size e c w v l:=by
 rcases h with ⟨rfl,rfl,rfl⟩|⟨g,cap,rest,rfl,h1,h2,h3,rfl⟩
 ·exact Own.nil _ _ _ _ _
 ·have hk:=X.blk ⟨g,l.flatMap f++rest,e⟩ ag;have ho:=X.own ⟨g,l.flatMap f++rest,e⟩ ag;refine⟨j95 hF.len l,.inr ⟨g,cap,_,rfl,ho.resolve_left (fun h=>dZ),hk,h1,h2,?_,?_⟩⟩
  ·simpa using h3
  ·rw[<-j95 hF.len l];simp
end Wb
namespace Go.Proofs.YtlecmdajpfkaeaaGreatDoor
open Go.RowKit Wb
theorem k86(l : List Txn)(hg : ∀ t ∈ l, goodT t = true)(v : Value)(w : World)(h : j18 w v l) :Calls Tryz.prog 78 #[v] w fun e w'=>∃v',e=.returned v'/\Wb.Own j_3 w.heap.size 93 2 w' v' (newestL l)/\Below w.heap.size w w':=by
 obtain⟨a,cap,rfl,hl⟩:=h.form;have hbr:=fun j (hj:j<l.length) b=>kK7 hg hj (b:=b);have hbg:=fun j (hj:j<l.length) b s=>kK6 (l:=l) hj (b:=b) (s:=s);have hbn:=fun j (hj:j<l.length) b=>kA4 (l:=l) hj (b:=b);have hvn:=fun k=>kX1 (f:=newestB l) (n:=k);have hvs:=fun k s=>kX2 (f:=newestB l) (n:=k) (s:=s);have hvl:=fun k=>jI7 (newestB l) k;have hz:∀b,newestB (l.take 0) b=none:=fun b=>rfl;have hfu:l.take l.length=l:=iY;have hrl:=fun k (hk:k<l.length)=>jg5 (j92.1 (hg _ (iM hk)));have hnl:newestL l=viewN (newestB l) 12:=rfl;have hv0:viewN (newestB l) 0=[]:=rfl;rw[hnl];replace h:=hid h;replace hbr:=hid hbr;replace hbg:=hid hbg;replace hbn:=hid hbn;replace hvn:=hid hvn;replace hvs:=hid hvs;replace hvl:=hid hvl;replace hz:=hid hz;replace hfu:=hid hfu;replace hrl:=hid hrl;replace hv0:=hid hv0;clear hnl hg;go_enter Tryz.func78,Tryz.ntmps78;go_wp2
 go_loopw [3,8] (fun o i wr=>∃(k:Nat) (M:List Ent),k<=12/\i=.int .i64 k/\j4_ j_3 93 2 o (viewN (newestB l) k) M/\St [] w wr (M++ []) []) (fun _ i _=>12-(intOf i).toNat)
 case atStart=>exact⟨0,[],ae,rfl,by rw[hv0.out];exact j4_.nil _ _ _,kk7 [] w⟩
 case round=>
  obtain⟨k,M,hk,rfl,hO,X⟩:=hrel;by_cases hlt:k<12
  ·have hvk:=hvl.out k;have hk12:(k:Int)<12:=aa;obtain⟨ao,co,rfl⟩:=hO.form
   go_upto_block 1 with fail
   go_cut [3] (fun o wx=>∃M,j4_ j_3 93 2 o (viewN (newestB l) (k+1)) M/\St [] w wx (M++ []) [])
   case first=>
    go_wp2
    go_loopw [3,5] (fun o i wr=>∃j:Nat,j<=l.length/\i=.int .i64 ((j:Int)-1)/\o=.slice ao (viewN (newestB l) k).length co/\Hid (newestB l k=newestB (l.take j) k)/\St [] w wr (M++ []) []) (fun _ i _=>(intOf i+1).toNat)
    case atStart=>exact⟨l.length,iy _,rfl,rfl,hid (by rw[hfu.out]),X⟩
    case round=>
     clear X;obtain⟨j,hj,rfl,rfl,hnw,X⟩:=hrel;rcases kC j with hj0|hj0
     ·subst hj0;have hn:=hnw.out.trans (hz.out k);replace hn:=hid hn;go_wp2;go_meet;exact⟨M,by rw[hvn.out _ hn.out];exact hO,X⟩
     ·obtain⟨i,rfl⟩:∃i,j=i+1:=⟨j-1,aa⟩;have hi:i<l.length:=aa;obtain⟨b1,o1,am,cm,ad,cd,ar,cr,rfl,hrt,c0,c1,c2,c3,c4,c5,c6,c7,c8,c9⟩:=(h.out.below X.below).at3 hi;obtain⟨vm',vd',vr',hv,hm,hd,hr,n1,n2,n3⟩:=hrt;simp only[j84,jo,jt,jh,jy,jF] at hv;obtain⟨rfl,rfl,rfl⟩:=hv;have hb1:=hbr.out i hi k;have hb2:=hbg.out i hi k;have hb3:=hbn.out i hi k;rw[<-hnw.out] at hb1 hb2 hb3;generalize l[i]=t at*;have hC:=fun w' (hb:Below wr.heap.size wr w')=>j94 t.rev k _ w' (hr.below hb) aa;have hG:=fun w' (hb:Below wr.heap.size wr w')=>kM6 t.mt k _ w' (hm.below hb) aa;replace hb1:=hid hb1;replace hb2:=hid hb2;replace hb3:=hid hb3;replace hm:=hid hm;replace hr:=hid hr;replace hC:=hid hC;replace hG:=hid hG
      cases hB:inI t.rev k with
      |true=>
       have hn:=hb1.out hB
       rw[hB] at hC
       clear hB
       replace hn:=hid hn
       go_wp2_with (first|(go_at_call 117;((with_reducible refine(hC.out _ (b0 _)).mono ?_);rintro e w1 ⟨rfl,rfl⟩)))
       go_meet
       exact⟨M,by rw[hvn.out _ hn.out];exact hO,X⟩
      |false=>
       have hb3:=hb3.out hB
       rw[hB] at hC
       clear hB
       cases hT:getC t.mt k with
       |none=>
        have hn:=hb3 hT
        rw[hT] at hG
        clear hT hb3
        replace hn:=hid hn
        go_wp2_with (first|(go_at_call 117;((with_reducible refine(hC.out _ (b0 _)).mono ?_);rintro e w1 ⟨rfl,rfl⟩))|(go_at_call 79;((with_reducible refine(hG.out _ (b0 _)).mono ?_);rintro e w1 ⟨rfl,hb1⟩;replace X:=X.call hb1;clear hb1)))
        go_roundw
        case rel=>(first|exact⟨i,aa,an,rfl,hn,X⟩| ((repeat apply Exists.intro);exact⟨⟨i,aa,an,rfl,hn,X⟩,rfl⟩))
        case measure=>simp[intOf]
       |some s=>
        have hn:=hb2.out s hT
        rw[hT] at hG
        clear hT hb3
        replace hn:=hid hn
        have hy: [(⟨k,s⟩:Cpy)].flatMap j_3=[.int .i64 k,.string s]:=rfl
        go_wp2_with (first|(go_at_call 117;((with_reducible refine(hC.out _ (b0 _)).mono ?_);rintro e w1 ⟨rfl,rfl⟩))|(go_at_call 79;((with_reducible refine(hG.out _ (b0 _)).mono ?_);rintro e w1 ⟨rfl,hb1⟩;replace X:=X.call hb1;clear hb1))|(refine j73 rfl ?_;(refine j79 rfl rfl Zev ay ay X ?_;intro g w2 X2;replace X:=X2;clear X2;(simp only[Act.put,zA,zB,zC,zD,zE,zF,zG,Nat.reduceAdd])))|(at_builtin;((refine jN0 (M:=M) (T:=[]) (n:=1) [] rfl rfl [⟨k,s⟩] j91 X hO Zev Zev hy rfl aa ?_);intro a2 c2 w2 M2 hO2 X2;(simp only[Act.put,zA,zB,zC,zD,zE,zF,zG,Nat.reduceAdd]))))
        go_meet
        exact⟨M2,by rw[hvs.out _ _ hn.out];exact hO2,X2⟩
   case rest=>
    obtain⟨M,hO,X⟩:=hcut;go_wp2;go_roundw
    case rel=>exact⟨k+1,M,aa,an,hO,X⟩
    case measure=>simp[intOf];omega
  ·obtain rfl:k=12:=by omega
   go_wp2;go_ret;exact⟨_,rfl,hO.own (L:=[]) j91 X,X.below⟩
theorem kY0{xs:List Int}{k:Nat}(hk:k<xs.length):xs.getD k 0=xs[k]:=by simp[hk]
theorem jG4(v : Value)(xs : List Int)(w : World)(hx : RL j_9 w v xs) :Calls Tryz.prog 87 #[v] w fun e w'=>e=.returned (.bool (rise xs))/\w=w':=by
 obtain⟨a,cap,rfl,c1,c2⟩:=hx.form;unfold maxLen at c2;have hyes:jR3 xs xs.length->rise xs=true:=(jY9 xs).2;have hno:∀k,k<xs.length->¬j61 xs k->rise xs=false:=fun k=>jl7;generalize rise xs=r at*;replace hyes:=hid hyes;replace hno:=hid hno;go_enter Tryz.func87,Tryz.ntmps87;go_wp2
 go_loop [2,3,5,8] (fun _ q _ i=>∃(k:Nat) (p:Int),k<=xs.length/\i=.int .i64 k/\q=.int .i64 p/\jR3 xs k/\(k=0->p= -1)/\(0<k->p=xs.getD (k-1) 0)) (fun _ _ _ i=>xs.length-(intOf i).toNat)
 case atStart=>exact⟨0, -1,iq _,rfl,rfl,fun j hj=>absurd hj (jl j),fun _=>rfl,fun h=>absurd h (lI 0)⟩
 case round=>
  obtain⟨k,p,hk,rfl,rfl,hr,hp0,hp1⟩:=hrel;by_cases hlt:k<xs.length
  ·obtain⟨b,off,rfl,d0⟩:=kl6 (fun x=>.int .i64 x) (fun _=>rfl) hx hlt;have hxk:=kY0 hlt
   have hiff:j61 xs k↔p<xs[k]/\xs[k]<=11:=by
    unfold j61;rw[hxk];rcases kC k with h0|h0
    ·have:=hp0 h0;omega
    ·have h2:=hr (k-1) aa;unfold j61 at h2;have h3:=hp1 h0;omega
   by_cases hok:p<xs[k]/\xs[k]<=11
   ·have hr1:=j30 hr (hiff.2 hok);replace hr1:=hid hr1;have hp2:xs[k]=xs.getD (k+1-1) 0:=by rw[lq,hxk]
    replace hp2:=hid hp2;generalize xs[k]=x at*;obtain⟨o1,o2⟩:=hok;clear hiff hxk hp0 hp1 hr;go_wp2;go_round
    case rel=>exact⟨k+1,x,aa,an,rfl,hr1.out,fun h=>absurd h aa,fun _=>hp2.out⟩
    case measure=>simp[intOf];omega
   ·obtain rfl:=hno.out k hlt (fun hh=>hok (hiff.1 hh));have hbad:xs[k]<=p\/11<xs[k]:=aa;generalize xs[k]=x at*;clear hiff hxk hp0 hp1 hr hok hyes;go_wp2
    all_goals
     go_ret
     exact⟨rfl,rfl⟩
  ·obtain rfl:k=xs.length:=by omega
   obtain rfl:=hyes.out hr;clear hp0 hp1 hr;go_wp2;go_ret;exact⟨rfl,rfl⟩
theorem fw{A:Prop}(h:A:=by
 go_enter Tryz.func46,Tryz.ntmps46;go_wp2;all_goals (go_ret;exact⟨rfl,aj⟩)):A:=h
theorem gZ{A:Prop}(h:A:=by
 dsimp only at*;go_enter Tryz.func46,Tryz.ntmps46;go_wp2
 all_goals
  go_ret
  exact⟨rfl,aj⟩):A:=h
theorem jD4(m : Mrk)(v : Value)(w : World)(hm : j1_ w v m)(hbad : j97 m \/ j78 m \/ j88 m) :Calls Tryz.prog 46 #[v] w fun e w'=>e=.returned (.int .i64 (markE m))/\Below w.heap.size w w':=by
 obtain⟨vt,vb,rfl,ht,hbk,n1,n2⟩:=hm;obtain⟨ta,tcap,rfl,tc1,tc2⟩:=ht.form;obtain⟨ba,bcap,rfl,bc1,bc2⟩:=hbk.form;unfold maxLen at tc2 bc2;clear ht hbk;by_cases hA:j97 m
 ·rw[j28 hA];obtain⟨kd,sq,at_,tags,blks⟩:=m;clear hbad;unfold j97 at hA;exact gZ
 ·by_cases hB:j78 m
  ·rw[jW2 hA hB];obtain⟨kd,sq,at_,tags,blks⟩:=m;clear hbad;unfold j97 at hA;unfold j78 at hB;exact gZ
  ·by_cases hC:j88 m
   ·rw[jX3 hA hB hC];obtain⟨kd,sq,at_,tags,blks⟩:=m;clear hbad;unfold j97 at hA;unfold j78 at hB;unfold j88 at hC;dsimp only at*;have hk:kd=1\/kd=2\/kd=3\/kd=4:=aa;obtain⟨q1,q2,q3,q4⟩:1<=sq/\sq<=2147483647/\0<=at_/\at_<24:=aa;clear hA hB;by_cases g1:kd≠1/\at_≠0
    ·obtain⟨g1,g2⟩:=g1;have g2':(at_ != 0)=true:=jd.2 g2;clear hC g2;rcases hk with rfl|rfl|rfl|rfl
     ·exact absurd rfl g1
     all_goals
      clear g1
      go_enter Tryz.func46,Tryz.ntmps46;go_wp2;all_goals (go_ret;exact⟨rfl,aj⟩)
    ·have g1':kd=1\/at_=0:=by omega
     by_cases g3:kd≠2/\tags.length≠0
     ·obtain⟨g3,g4⟩:=g3;have g4':0<tags.length:=aa;have g5':((tags.length:Int) != 0)=true:=jd.2 aa;clear hC g1 g4;rcases hk with rfl|rfl|rfl|rfl
      ·clear g1' g3;exact fw
      ·exact absurd rfl g3
      all_goals
       obtain rfl:at_=0:=aa
       clear g1' g3
       go_enter Tryz.func46,Tryz.ntmps46;go_wp2;all_goals (go_ret;exact⟨rfl,aj⟩)
     ·obtain⟨g5,g6⟩:kd≠3/\blks.length≠0:=by omega
      have g6':0<blks.length:=aa;have g5':((blks.length:Int) != 0)=true:=jd.2 aa;have g3':kd=2\/tags.length=0:=aa;clear hC g1 g3 g6;rcases hk with rfl|rfl|rfl|rfl
      ·have t0:tags.length<=0:=by omega
       have t1:((tags.length:Int) != 0)=false:=bC;clear g1' g3' g5;exact fw
      ·obtain rfl:at_=0:=by omega
       clear g1' g3' g5;exact fw
      ·exact absurd rfl g5
      ·obtain rfl:at_=0:=by omega
       have t0:tags.length<=0:=aa;have t1:((tags.length:Int) != 0)=false:=bC;clear g1' g3' g5;exact fw
   ·exact absurd hbad (by simp[hA,hB,hC])
end Go.Proofs.YtlecmdajpfkaeaaGreatDoor
namespace Wb
open Go Go.RowKit
def preT(t:Txn)(k:Nat):List ByteArray:=ju5 t.seq t.rev++(if k=0 then [] else if k=1 then j39 t.seq (partM t 0) else j39 t.seq (partM t 0)++j39 t.seq (partM t 1))
theorem kP6(t:Txn):preT t 0=ju5 t.seq t.rev:=by simp[preT]
theorem kP5(t:Txn){k:Nat}(hk:k<2):preT t (k+1)=preT t k++j39 t.seq (partM t k):=by
 obtain rfl|rfl:k=0\/k=1:=aa
 ·simp[preT]
 ·simp[preT]
theorem kF_{t:Txn}(hm:t.mt.length<=12):preT t (j74 10 t.mt.length)=j_4 t:=by
 unfold preT j_4;congr 1;have e0:j39 t.seq []=[]:=by unfold j39;rw[ij rfl]
 by_cases h0:t.mt.length=0
 ·have hz:t.mt=[]:=i5.1 h0;rw[h0,hz];simp[e0,j74]
 ·by_cases h1:t.mt.length<=10
  ·have hc:j74 10 t.mt.length=1:=by unfold j74;omega
   have hd:t.mt.drop 10=[]:=List.drop_eq_nil_of_le h1;rw[hc,hd,e0,ii ae,ij rfl,jf1,i6]
  ·have hc:j74 10 t.mt.length=2:=by unfold j74;omega
   rw[hc,ii ae,ii ae,jf1,k42 hm]
theorem kF0{t:Txn}(hm:t.mt.length<=12){k:Nat}(hk:k<=2):(preT t k).length<=30:=by
 unfold preT;rw[il,jl6]
 have h1:(j39 t.seq (partM t 0)).length<=11:=by
  rw[jU8];have:=jJ0 (t:=t) 0
  split<;>omega
 have h2:(j39 t.seq (partM t 1)).length<=11:=by
  rw[jU8];have:=jJ0 (t:=t) 1
  split<;>omega
 have h3:(if t.rev=[] then 0 else 1)<=1:=by split<;>omega
 obtain rfl|rfl|rfl:k=0\/k=1\/k=2:=aa
 ·simp;omega
 ·simp;omega
 ·simp;omega
theorem kZ4{q:Int}{p:List Cpy}(h:p≠ []):j39 q p=[markS (jR4 q p)]++p.map (fun c=>escS c.text):=by unfold j39;rw[ii h];rfl
theorem kF8{q:Int}{r:List Int}(h:r≠ []):ju5 q r=[markS (jL_ q r)]:=by unfold ju5;rw[ii h]
def kp_(r:Ring)(t:Txn)(k:Nat):List Stp:=
 if k<=(j_4 t).length then k56 r t k else k56 r t (j_4 t).length++((if(j_4 t).length=0 then [] else [j_2])++ [atW ((r.head+((j_4 t).length:Int))%24) (markS (jN_ t.seq))])
structure RefF(r:Ring)(t:Txn)(nb:Nat)(LG:List ByteArray)(DS:List Stp)(RS:Nat->List Stp)(mc:ByteArray):Prop where
 ln:LG.length=nb+1
 z:RS 0=[]
 s:∀i (h:i<nb) (h2:i<LG.length),RS (i+1)=RS i++ [atW ((r.head+(i:Int))%24) LG[i]]
 e:RS (nb+1)=RS nb++((if nb=0 then [] else [j_2])++ [atW ((r.head+(nb:Int))%24) mc])
 m:∀(h:nb<LG.length),LG[nb]=mc
 l:∀i,i<=nb+1->(RS i).length<=i+1
 d:DS.length<=13
 c:comL r t=DS++(RS (nb+1)++ [j_2])
 g:t.dt.map goS++(if 0<t.dt.length then [j_2] else [])=DS
theorem km1{r:Ring}{t:Txn}(hc:comE r t=0):∃LG DS RS mc,RefF r t (j_4 t).length LG DS RS mc/\LG=logT t:=by
 obtain⟨_,g,_⟩:=j21 hc;have l2:=(jg5 g).2.1;have hl:=jm0 t;have hS:∀k,k<=(j_4 t).length->kp_ r t k=k56 r t k:=fun k hk=>by unfold kp_;rw[ij hk]
 have hE:kp_ r t ((j_4 t).length+1)=k56 r t (j_4 t).length++((if(j_4 t).length=0 then [] else [j_2])++ [atW ((r.head+((j_4 t).length:Int))%24) (markS (jN_ t.seq))]):=by
  unfold kp_;rw[ii aa]
 refine⟨logT t,j12 t,kp_ r t,markS (jN_ t.seq),⟨hl,?_,fun i h h2=>?_,?_,fun h=>jC9 t h,fun i hi=>?_,ji5 l2,?_,k63 t⟩,rfl⟩
 ·rw[hS 0 (iq _)];exact jg8 r t
 ·rw[hS i aa,hS (i+1) aa];exact jy3 (by rw[ix h2])
 ·rw[hE,hS _ (iy _)]
 ·by_cases hib:i<=(j_4 t).length
  ·rw[hS i hib,jm_ aa];omega
  ·obtain rfl:i=(j_4 t).length+1:=by omega
   rw[hE,il,jm_ aa,il];have:(if(j_4 t).length=0 then([]:List Stp) else [j_2]).length<=1:=dW;simp only[List.length_singleton];omega
 ·rw[kU_ hc,hE];simp only[iE,iu,iw]
theorem kU1{t:Txn}(g:GoodT t):((logT t).length:Int)=comN t:=by rw[jm0,<-jV8 g];simp
theorem kU0{r:Ring}{t:Txn}(h:goodR r=false\/goodT t=false\/openB t=true):comE r t=2/\comR r t=r/\comL r t=[]:=by
 have e:comE r t=2:=by unfold comE;rw[ij h]
 refine⟨e,by unfold comR;rw[e,ii ae],by unfold comL;rw[e,ii ae]⟩
theorem jC2{r:Ring}{t:Txn}(h:¬(goodR r=false\/goodT t=false\/openB t=true))(hn:takeE r (comN t)≠0):comE r t=takeE r (comN t)/\comR r t=r/\comL r t=[]/\jN6 r (comN t)=r/\jI3 r (comN t)=[]:=by
 have e:comE r t=takeE r (comN t):=by unfold comE;rw[ii h]
 refine⟨e,by unfold comR;rw[e,ii hn],by unfold comL;rw[e,ii hn],by unfold jN6;rw[ii hn],by unfold jI3;rw[ii hn]⟩
theorem ja0{r:Ring}{t:Txn}(h:¬(goodR r=false\/goodT t=false\/openB t=true))(hn:takeE r (comN t)=0):comE r t=0/\comR r t=jN6 r (comN t):=by
 have e:comE r t=0:=by unfold comE;rw[ii h,hn]
 exact⟨e,by unfold comR;rw[ij e]⟩
open Go Go.RowKit Go.MapKept
def jY4(w:World)(b:Nat)(f:Int->Option Value):Prop:=
 ∃es clock,w.heap[b]? =some (.map es clock)/\Stamped es clock/\(∀x∈es.toList,IsKey (.int .i64) x.key)/\ ∀k v,f k=some v↔ ∃x∈es.toList,x.key=.int .i64 k/\x.val=v
section
variable{w w':World}{b:Nat}{f:Int->Option Value}{P:Program}{t kt e:TypeId}
theorem jY4.lt(h:jY4 w b f):b<w.heap.size:=by
 obtain⟨es,c,h1,_⟩:=h;exact(jq.1 h1).1
theorem jY4.below{B:Nat}(h:jY4 w b f)(hb:Below B w w')(hlt:b<B):jY4 w' b f:=by
 obtain⟨es,c,h1,r⟩:=h;exact⟨es,c,(hb.block b hlt).trans h1,r⟩
theorem jY4.step(h:jY4 w b f)(hb:Below w.heap.size w w'):jY4 w' b f:=h.below hb h.lt
theorem jY4.drewN(h:jY4 w b f)(n:Nat):jY4 (w.drewN n) b f:=h
theorem jY4.drew(h:jY4 w b f):jY4 w.drew b f:=h
theorem jY4.alloc(h:jY4 w b f)(o:Obj):jY4 (w.alloc o) b f:=by
 have hl:=h.lt;obtain⟨es,c,h1,r⟩:=h;exact⟨es,c,(heap_alloc_old w o hl).trans h1,r⟩
theorem jY4.grown{row:Option Nat}(h:jY4 w b f)(hg:w.grownBy w' row)(hne:some b≠row):jY4 w' b f:=by
 have hl:=h.lt;obtain⟨es,c,h1,r⟩:=h;exact⟨es,c,(hg.block b hl hne).trans h1,r⟩
theorem jY4.congr{g:Int->Option Value}(h:jY4 w b f)(hfg:∀k,f k=g k):jY4 w b g:=by
 obtain rfl:f=g:=funext hfg;exact h
theorem km6(w:World):jY4 (w.alloc (.map #[] 0)) w.heap.size (fun _=>none):=
 ⟨#[],0,(MapKept.heap_alloc w _).1,stamped_empty 0,ag,ag⟩
theorem jY4.at_{w : World}{b : Nat}{f : Int -> Option Value}(h : jY4 w b f)(k : Int) : ∃ es clock, w.heap[b]? = some (.map es clock) /\((f k=none/\Instr.findNow (.int .i64) (.int .i64 k) es.toList 0=some none/\ ∀x∈es.toList,x.key≠ .int .i64 k)\/∃j x,Instr.findNow (.int .i64) (.int .i64 k) es.toList 0=some (some (j,x.val))/\es[j]? =some x/\x.key=.int .i64 k/\f k=some x.val):=by
 obtain⟨es,c,h1,h2,h3,h4⟩:=h;refine⟨es,c,h1,?_⟩;rcases findNow_spec (d:=.int .i64) (k:=.int .i64 k) rfl es.toList 0 h3 with ⟨g1,g2⟩|⟨j,x,g1,g2,g3⟩
 ·refine .inl ⟨?_,g1,g2⟩
  cases hf:f k with
  |none=>rfl
  |some v=>
   obtain⟨x,hx,hk,_⟩:=(h4 k v).1 hf
   exact absurd hk (g2 x hx)
 ·rw[jm] at g1;exact .inr ⟨j,x,g1,by simpa using g2,g3,(h4 k x.val).2 ⟨x,List.mem_of_getElem? g2,g3,rfl⟩⟩
theorem jY4.lookup(h : jY4 w b f)(ht : P.underlying t = some (.map kt e))(hk : P.underlying kt = some (.int .i64)){z : Value}(hz : (zeroValue e).run P w = .ok z w)(k : Int) :(Instr.lookup t (.map (some b)) (.int .i64 k) false).run P w=.ok ((f k).getD z) w/\(Instr.lookup t (.map (some b)) (.int .i64 k) true).run P w=.ok (.tuple #[(f k).getD z,.bool (f k).isSome]) w:=by
 obtain⟨es,c,h1,hh⟩:=h.at_ k;have hc:=fun n e'=>run_checkKey (P:=P) (w:=w) hk (k:=.int .i64 k) rfl e' n;rcases hh with ⟨hf,g1,_⟩|⟨j,x,g1,g2,g3,hf⟩
 ·have hfk:=run_findKey (P:=P) (w:=w) hk g1;rw[hf];constructor<;>simp[Instr.lookup,jR ht,run_getObj_map h1,hc 9999,hfk,hz,Result.andThen]
 ·have hfk:=run_findKey (P:=P) (w:=w) hk g1;rw[hf];constructor<;>simp[Instr.lookup,jR ht,run_getObj_map h1,hc 9999,hfk,Result.andThen]
structure Turned(w w':World)(b:Nat):Prop where
 os:w'.os=w.os
 tape:w'.tape=w.tape
 output:w'.output=w.output
 size:w'.heap.size=w.heap.size
 block:∀i,i≠b->w'.heap[i]? =w.heap[i]?
theorem jP1{es:Array MapEntry}{c:Nat}(hb:w.heap[b]? =some (.map es c))(o:Obj):Turned w (ChangeMaps.setBlock w b o) b:=
 ⟨rfl,rfl,rfl,by simp[ChangeMaps.setBlock],fun i hi=>ChangeMaps.heap_setBlock_other hb _ hi⟩
theorem Turned.blk(h:Turned w w' b){g:Nat}{cs:Array Value}{ty:TypeId}(hg:Blk w g cs ty)(hne:g≠b):Blk w' g cs ty:=(h.block g hne).trans hg
theorem Turned.imap(h:Turned w w' b){g:Nat}{f:Int->Option Value}(hg:jY4 w g f)(hne:g≠b):jY4 w' g f:=by
 obtain⟨es,c,h1,r⟩:=hg;exact⟨es,c,(h.block g hne).trans h1,r⟩
theorem Turned.below(h:Turned w w' b){W:World}{B:Nat}(hw:Below B W w)(hlt:B<=b):Below B W w':=
 ⟨h.os.trans hw.os,by rw[h.tape];exact hw.tape,by rw[h.output];exact hw.output,by rw[h.size];exact hw.size,fun i hi=>(h.block i aa).trans (hw.block i hi)⟩
theorem jY4.update(h : jY4 w b f)(ht : P.underlying t = some (.map kt e))(hk : P.underlying kt = some (.int .i64))(k : Int)(v : Value) :∃w',(Instr.mapUpdate t (.map (some b)) (.int .i64 k) v).run P w=.ok () w'/\jY4 w' b (fun x=>if x=k then some v else f x)/\Turned w w' b:=by
 obtain⟨es,c,h1,h2,h3,h4⟩:=h;have hc:=fun n e'=>run_checkKey (P:=P) (w:=w) hk (k:=.int .i64 k) rfl e' n;rcases findNow_spec (d:=.int .i64) (k:=.int .i64 k) rfl es.toList 0 h3 with ⟨g1,g2⟩|⟨j,x,g1,g2,g3⟩
 ·have hfk:=run_findKey (P:=P) (w:=w) hk g1;refine⟨ChangeMaps.setBlock w b (.map (es.push {key:=.int .i64 k,val:=v,born:=c}) (c+1)),?_,?_,jP1 h1 _⟩
  ·simp[Instr.mapUpdate,jR ht,run_getObj_map h1,hc 9999,hfk,run_setObj_map _ h1,Result.andThen,ChangeMaps.setBlock]
  ·refine⟨_,_,ChangeMaps.heap_setBlock_same h1 _,stamped_push h2 g2,?_,?_⟩
   ·intro y hy;simp only[Array.toList_push,iK,iI] at hy;rcases hy with hy|rfl
    ·exact h3 y hy
    ·rfl
   ·intro q u;simp only[Array.toList_push,iK,iI];by_cases hq:q=k
    ·subst hq;simp only[ij];constructor
     ·intro hu
      cases hu
      exact⟨_,.inr rfl,rfl,rfl⟩
     ·rintro⟨y,hy|rfl,e1,e2⟩
      ·exact absurd e1 (g2 y hy)
      ·simp at e2;rw[e2]
    ·simp only[ii hq,h4 q u];constructor
     ·rintro⟨y,hy,e1,e2⟩;exact⟨y,.inl hy,e1,e2⟩
     ·rintro⟨y,hy|rfl,e1,e2⟩
      ·exact⟨y,hy,e1,e2⟩
      ·simp at e1;exact absurd e1.symm hq
 ·rw[jm] at g1;have hj:es[j]? =some x:=by simpa using g2
  have hfk:=run_findKey (P:=P) (w:=w) hk g1;have hkey:∀e',es[j]? =some e'->({e' with key:=.int .i64 k,val:=v}:MapEntry).key=e'.key:=fun e' he'=>by rw[hj] at he';cases he';exact g3.symm
  refine⟨ChangeMaps.setBlock w b (.map (es.modify j fun e=>{e with key:=.int .i64 k,val:=v}) c),?_,?_,jP1 h1 _⟩
  ·simp[Instr.mapUpdate,jR ht,run_getObj_map h1,hc 9999,hfk,hj,g3,run_keyThatStays (d:=.int .i64) (k:=.int .i64 k) rfl,run_setObj_map _ h1,Result.andThen,ChangeMaps.setBlock]
  ·have hst:=stamped_modify h2 j (fun e=>{e with key:=.int .i64 k,val:=v}) (fun _ _=>rfl) (fun e' _ he'=>hkey e' he');refine⟨_,_,ChangeMaps.heap_setBlock_same h1 _,hst,isKey_modify h3 _ _ hkey,?_⟩
   have hmem:∀y,y∈(es.modify j fun e=>{e with key:=.int .i64 k,val:=v}).toList↔(y={x with key:=.int .i64 k,val:=v}\/ ∃i,i≠j/\es[i]? =some y):=by
    intro y;rw[mo];simp only[Array.getElem?_toList,Array.getElem?_modify];constructor
    ·rintro⟨i,hi⟩;by_cases hij:j=i
     ·subst hij;simp[hj] at hi;exact .inl hi.symm
     ·simp[hij] at hi;exact .inr ⟨i,fun h=>hij h.symm,hi⟩
    ·rintro(rfl|⟨i,hi,hy⟩)
     ·exact⟨j,by simp[hj]⟩
     ·exact⟨i,by simp[Ne.symm hi,hy]⟩
   have hun:∀i y,es[i]? =some y->y.key=.int .i64 k->i=j:=by
    intro i y hi hy;have hnd:=h2.2.2;have hi':(es.toList.map (·.key))[i]? =some (.int .i64 k):=by simp[hi,hy]
    have hj':(es.toList.map (·.key))[j]? =some (.int .i64 k):=by simp[hj,g3]
    have hil:=(i4.1 hi').1;exact(List.getElem?_inj hil hnd).1 (hi'.trans hj'.symm)
   intro q u;by_cases hq:q=k
   ·subst hq;simp only[ij];constructor
    ·intro hu
     cases hu
     exact⟨_,(hmem _).2 (.inl rfl),rfl,rfl⟩
    ·rintro⟨y,hy,e1,e2⟩;rcases(hmem y).1 hy with rfl|⟨i,hi,hy⟩
     ·simp at e2;rw[e2]
     ·exact absurd (hun i y hy e1) hi
   ·simp only[ii hq,h4 q u];constructor
    ·rintro⟨y,hy,e1,e2⟩;obtain⟨i,hi⟩:=mo.1 hy;refine⟨y,(hmem y).2 (.inr ⟨i,?_,by simpa using hi⟩),e1,e2⟩;rintro rfl;rw[g2] at hi
     cases hi
     rw[g3] at e1;simp at e1;exact hq e1.symm
    ·rintro⟨y,hy,e1,e2⟩;rcases(hmem y).1 hy with rfl|⟨i,hi,hy⟩
     ·simp at e1;exact absurd e1.symm hq
     ·exact⟨y,mo.2 ⟨i,by simpa using hy⟩,e1,e2⟩
end
end Wb