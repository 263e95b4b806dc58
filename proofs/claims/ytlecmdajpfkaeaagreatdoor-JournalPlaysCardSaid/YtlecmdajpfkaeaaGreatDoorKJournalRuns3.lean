/- Parts of the proof. -/
import Derived.Test.YtlecmdajpfkaeaaGreatDoorKJournalRuns2
import Derived.Lib.AppendZerosOnto
import Derived.Lib.Overlaps
set_option linter.unusedVariables false
set_option linter.unusedSimpArgs false
set_option maxRecDepth 100000
set_option maxHeartbeats 40000000
namespace Wb
open Go Go.RowKit
def jT6(r:Ring)(t:Txn):List Stp:=j12 t++(List.zipWith atW (places r.head (j_4 t).length) (j_4 t)++(if j_4 t=[] then [] else [j_2]))
theorem jU0{r:Ring}{t:Txn}(h:comE r t=0):comL r t=jT6 r t++ [atW ((r.head+(j_4 t).length)%24) (markS (jN_ t.seq)),j_2]:=by
 unfold comL jT6;rw[ij h];simp
theorem j21{r:Ring}{t:Txn}(h:comE r t=0):goodR r=true/\GoodT t/\openB t=false/\((j_4 t).length:Int)+1<=24-r.used/\(0<=r.head/\r.head<24)/\(0<=r.used/\r.used<=24):=by
 unfold comE at h
 split at h
 ·cases h
 ·rename_i hc;simp only[not_or,lx,iW] at hc;obtain⟨h1,h2,h3⟩:=hc;have g:=j92.1 h2;have hb:=jV8 g;have hr:=(j71 r).1 h1;refine⟨h1,g,h3,?_,⟨hr.1,hr.2.1⟩,hr.2.2⟩;rw[hb];unfold takeE at h
  split at h
  ·cases h
  ·split at h
   ·cases h
   ·omega
theorem jj6(p:Int)(s:ByteArray):(wrS p s).kind≠2:=(show(1:Int)≠2 from ae)
theorem jC9(t:Txn)(h:(j_4 t).length<(logT t).length):(logT t)[(j_4 t).length]=markS (jN_ t.seq):=by simp[logT]
theorem jm1(t:Txn){j:Nat}(h:j<(j_4 t).length)(h2:j<(logT t).length):(logT t)[j]=(j_4 t)[j]:=by simp only[logT];rw[List.getElem_append_left h]
theorem fI{A:Prop}(h:A:=by
 rcases iK.1 hx with hx|hx
 ·obtain⟨c,hc,rfl⟩:=jg.1 hx;exact .inr ⟨c,hc,rfl⟩
 ·split at hx
  ·cases hx
  ·exact .inl (iI.1 hx)):A:=h
theorem k59{t:Txn}{x:Stp}(hx:x∈j12 t):x=j_2\/ ∃c∈t.dt,x=wrS (25+c.block) c.text:=by
 unfold j12 at hx;exact fI
theorem k_3{a:Int}{l:List ByteArray}{x:Stp}(hx:x∈List.zipWith atW (places a l.length) l):∃(j:Nat) (hj:j<l.length),x=atW ((a+(j:Int))%24) l[j]:=by
 obtain⟨j,hj,rfl⟩:=i_.1 hx;rw[lN,j87] at hj;refine⟨j,aa,?_⟩;rw[List.getElem_zipWith];congr 1;have:=jO2 a l.length j aa;rw[ix (by rw[j87];omega),iO] at this;exact this
theorem ku6(a:Int)(l:List ByteArray){j:Nat}(hj:j<l.length):atW ((a+(j:Int))%24) l[j]∈List.zipWith atW (places a l.length) l:=by
 have h:j<(List.zipWith atW (places a l.length) l).length:=by rw[lN,j87];omega
 have:=iM h;rw[List.getElem_zipWith] at this;have h2:=jO2 a l.length j aa;rw[ix (by rw[j87];omega),iO] at h2;rw[h2] at this;exact this
theorem jO1{r:Ring}{t:Txn}{x:Stp}(hx:x∈jT6 r t):x=j_2\/(∃c∈t.dt,x=wrS (25+c.block) c.text)\/ ∃(j:Nat) (hj:j<(j_4 t).length),x=atW ((r.head+(j:Int))%24) (j_4 t)[j]:=by
 unfold jT6 at hx;rcases iK.1 hx with hx|hx
 ·exact(k59 hx).imp id .inl
 ·rcases iK.1 hx with hx|hx
  ·exact .inr (.inr (k_3 hx))
  ·split at hx
   ·cases hx
   ·exact .inl (iI.1 hx)
theorem jT8{t:Txn}(g:GoodT t){c:Cpy}(hc:c∈t.dt):(0<=c.block/\c.block<12)/\c.text.size=32:=by
 have:=((j60 _).1 g.dt).2 c hc;exact⟨iF this.1,this.2⟩
theorem jA0{r:Ring}{t:Txn}(h:comE r t=0):(∀x∈comL r t,jP2 x)/\(comL r t).length<=100:=by
 obtain⟨h1,g,h3,h4,h5,h6⟩:=j21 h;constructor
 ·intro x hx hk;rw[jU0 h] at hx
  have hlog:∀(p:Int) (s:ByteArray),0<=p/\p<24->s∈logT t->jR6 (atW p s).at_=true/\(atW p s).text.size=32:=fun p s hp hs=>
   ⟨by unfold jR6 atW wrS;simp;omega,kH8 g hs⟩
  rcases iK.1 hx with hx|hx
  ·rcases jO1 hx with rfl|⟨c,hc,rfl⟩|⟨j,hj,rfl⟩
   ·exact absurd rfl hk
   ·have:=jT8 g hc;exact⟨by unfold jR6 wrS;simp;omega,this.2⟩
   ·exact hlog _ _ ⟨jZ _ ae,jT _ ae⟩ (by unfold logT;exact iv _ (iM hj))
  ·rcases iS.1 hx with rfl|hx
   ·exact hlog _ _ ⟨jZ _ ae,jT _ ae⟩ (by unfold logT;simp)
   ·obtain rfl:=iI.1 hx;exact absurd rfl hk
 ·rw[jU0 h];unfold jT6 j12;have:=(jg5 g).2.1;simp only[il,iZ,lN,j87,iB,iC];have e1:(if t.dt=[] then([]:List Stp) else [j_2]).length<=1:=dW;have e2:(if j_4 t=[] then([]:List Stp) else [j_2]).length<=1:=dW;omega
structure ComLeft(r:Ring)(t:Txn)(d c:Dsk)(k:Nat):Prop where
 good:goodD c=true
 clean:c.writes=[]
 zero:readD c 0=readD d 0
 home:∀b:Nat,b<12->readD c (25+(b:Int))=readD d (25+(b:Int))\/ ∃x∈t.dt,x.block=b/\readD c (25+(b:Int))=x.text
 data:(j12 t).length<=k->∀x∈t.dt,readD c (25+x.block)=x.text
 log:(k<=(jT6 r t).length+1/\ ∀i:Nat,i<24->readD c (1+(i:Int))=readD d (1+(i:Int))\/ ∃(j:Nat) (hj:j<(j_4 t).length),(i:Int)=(r.head+(j:Int))%24/\readD c (1+(i:Int))=(j_4 t)[j])\/
  ((jT6 r t).length<k/\(∀(j:Nat) (hj:j<(logT t).length),readD c (1+(r.head+(j:Int))%24)=(logT t)[j])/\ ∀i:Nat,i<24->(∀j:Nat,j<(logT t).length->(i:Int)≠(r.head+(j:Int))%24)->readD c (1+(i:Int))=readD d (1+(i:Int)))
theorem jw2{a:Int}{i j:Nat}(hi:i<24)(hj:j<24)(h:(a+(i:Int))%24=(a+(j:Int))%24):i=j:=aa
theorem ks_{t:Txn}(g:GoodT t){x y:Cpy}(hx:x∈t.dt)(hy:y∈t.dt)(h:x.block=y.block):x.text=y.text:=by
 have hp:=((j60 _).1 g.dt).1;have h1:=jS0 hp hx;have h2:=jS0 hp hy;rw[h,h2,iO] at h1;exact h1.symm
theorem kJ8{r:Ring}{t:Txn}{d c:Dsk}{k:Nat}(h:comE r t=0)(hg:goodD d=true)(hw:d.writes=[])(hk:k<=(comL r t).length)(hl:Left (jV1 d ((comL r t).take k)) c):ComLeft r t d c k:=by
 obtain⟨h1,g,h3,h4,h5,h6⟩:=j21 h;obtain⟨ho,hlen⟩:=jA0 h;have hok:∀n,(∀x∈(comL r t).take n,jP2 x):=fun n x hx=>ho x (jc hx);have hln:∀n,d.writes.length+((comL r t).take n).length<=200:=fun n=>by rw[hw,iC,iA];omega
 have hsp:=jU0 h;have hL:(comL r t).length=(jT6 r t).length+2:=dK;have hnl:(logT t).length=(j_4 t).length+1:=by unfold logT;simp
 have hwr:∀x∈comL r t,x.kind≠2->(∃y∈t.dt,x=wrS (25+y.block) y.text)\/ ∃(j:Nat) (hj:j<(logT t).length),x=atW ((r.head+(j:Int))%24) (logT t)[j]:=fun x hx hk2=>by
  rw[hsp] at hx;rcases iK.1 hx with hx|hx
  ·rcases jO1 hx with rfl|hx|⟨j,hj,rfl⟩
   ·exact absurd rfl hk2
   ·exact .inl hx
   ·refine .inr ⟨j,aa,?_⟩;rw[jm1 t hj]
  ·rcases iS.1 hx with rfl|hx
   ·refine .inr ⟨(j_4 t).length,aa,?_⟩;rw[jC9]
   ·obtain rfl:=iI.1 hx;exact absurd rfl hk2
 have htx:∀n:Nat,n<37->readD c n=readD d n\/ ∃x∈(comL r t).take k,x.kind≠2/\x.at_=n/\x.text=readD c n:=fun n hn=>by
  rcases jU9 _ hg (hok k) (hln k) hn _ (hl.read n hn) with hh|hh
  ·rw[jW8 hg hw hn] at hh;exact .inl (iI.1 hh)
  ·exact .inr hh
 have hz:readD c 0=readD d 0:=by
  rcases htx 0 ae with hh|⟨x,hx,hk2,ha,_⟩
  ·exact hh
  ·exfalso;rcases hwr x (jc hx) hk2 with ⟨y,hy,rfl⟩|⟨j,hj,rfl⟩
   ·have:=(jT8 g hy).1;have ha2:25+y.block=((0:Nat):Int):=ha;omega
   ·have ha2:1+(r.head+(j:Int))%24=((0:Nat):Int):=ha;omega
 have hh:∀b:Nat,b<12->readD c (25+(b:Int))=readD d (25+(b:Int))\/ ∃x∈t.dt,x.block=b/\readD c (25+(b:Int))=x.text:=fun b hb=>by
  rcases htx (25+b) aa with hh|⟨x,hx,hk2,ha,he⟩
  ·exact .inl dL
  ·rcases hwr x (jc hx) hk2 with ⟨y,hy,rfl⟩|⟨j,hj,rfl⟩
   ·have ha2:25+y.block=((25+b:Nat):Int):=ha;exact .inr ⟨y,hy,aa,cH⟩
   ·exfalso;have ha2:1+(r.head+(j:Int))%24=((25+b:Nat):Int):=ha;omega
 refine⟨hl.good,hl.clean,hz,hh,fun hd x hx=>?_,?_⟩
 ·have hb:=jT8 g hx;have hn0:t.dt≠ []:=fun e=>by rw[e] at hx;cases hx
  have hds:j12 t=t.dt.map (fun c=>wrS (25+c.block) c.text)++ [j_2]:=by unfold j12;rw[ii hn0]
  obtain⟨b,hbb,hb12⟩:∃b:Nat,x.block=b/\b<12:=⟨x.block.toNat,aa,aa⟩
  have htk:(comL r t).take k=j12 t++((comL r t).take k).drop (j12 t).length:=by
   have e:((comL r t).take k).take (j12 t).length=j12 t:=by
    rw[l9,jf hd,hsp];unfold jT6;rw[iE,kI]
   conv=>lhs;rw[<-ji (j12 t).length ((comL r t).take k),e]
  have hrest:∀y∈((comL r t).take k).drop (j12 t).length,y.kind≠2->y.at_≠((25+b:Nat):Int):=fun y hy hk2=>by
   have hy2:y∈(List.zipWith atW (places r.head (j_4 t).length) (j_4 t)++(if j_4 t=[] then [] else [j_2]))++ [atW ((r.head+(j_4 t).length)%24) (markS (jN_ t.seq)),j_2]:=by
    rw[hsp] at hy;unfold jT6 at hy;rw[iE,mi,List.drop_append,List.drop_eq_nil_of_le aX,iw] at hy;exact jc (jI hy)
   have key:∀(p:Int) (s:ByteArray),0<=p/\p<24->(atW p s).at_≠((25+b:Nat):Int):=fun p s hp e=>by
    have e2:1+p=((25+b:Nat):Int):=e;omega
   rcases iK.1 hy2 with hy2|hy2
   ·rcases iK.1 hy2 with hy2|hy2
    ·obtain⟨j,hj,rfl⟩:=k_3 hy2;exact key _ _ ⟨jZ _ ae,jT _ ae⟩
    ·split at hy2
     ·cases hy2
     ·obtain rfl:=iI.1 hy2;exact absurd rfl hk2
   ·rcases iS.1 hy2 with rfl|hy2
    ·exact key _ _ ⟨jZ _ ae,jT _ ae⟩
    ·obtain rfl:=iI.1 hy2;exact absurd rfl hk2
  have hokd:∀y∈t.dt.map (fun c=>wrS (25+c.block) c.text),jP2 y:=fun y hy hk2=>by
   obtain⟨z,hz2,rfl⟩:=jg.1 hy;have:=jT8 g hz2;exact⟨by unfold jR6 wrS;simp;omega,this.2⟩
  have hokD:∀y∈j12 t,jP2 y:=fun y hy=>ho y (by rw[hsp];unfold jT6;simp[hy])
  have hlD:(j12 t).length<=100:=by
   have:=congrArg List.length hsp;unfold jT6 at this;simp only[il] at this;omega
  have hlenD:=(jg5 g).2.1
  have hdisk:textsAt (jV1 d (j12 t)) (25+b)=[x.text]:=by
   have e:readD (jV1 d (t.dt.map (fun c=>wrS (25+c.block) c.text))) ((25+b:Nat):Int)=x.text:=
    jJ8 _ hg hokd cD aa (fun y hy _ ha=>by
     obtain⟨z,hz2,rfl⟩:=jg.1 hy;have ha2:25+z.block=((25+b:Nat):Int):=ha;exact ks_ g hz2 hx aa) (.inl ⟨wrS (25+x.block) x.text,jg.2 ⟨x,hx,rfl⟩,jj6 _ _,by show 25+x.block=_;omega⟩)
   rw[hds,jJ7 hg hokd cD aa,e]
  have hgD:=j09 (j12 t) hg hokD dp;have hlt:(((comL r t).take k).drop (j12 t).length).length<=100:=by rw[iX,iA];omega
  have hfin:=hl.read (25+b) aa;rw[htk,j27] at hfin;rcases jU9 _ hgD.1 (fun y hy=>hok k y (jI hy)) (by have:=hgD.2;rw[hw,iC] at this;omega) (k:=25+b) aa _ hfin with hh2|⟨y,hy,hk2,ha,_⟩
  ·rw[hdisk] at hh2;rw[hbb];simpa using iI.1 hh2
  ·exact absurd ha (hrest y hy hk2)
 ·by_cases hkA:k<=(jT6 r t).length
  ·refine .inl ⟨aa,fun i hi=>?_⟩;rcases htx (1+i) aa with hh|⟨x,hx,hk2,ha,he⟩
   ·exact .inl dL
   ·have hx2 : x ∈ jT6 r t := by
      rw[hsp,jU hkA] at hx;exact jc hx
    rcases jO1 hx2 with rfl|⟨y,hy,rfl⟩|⟨j,hj,rfl⟩
    ·exact absurd rfl hk2
    ·exfalso;have ha2:25+y.block=((1+i:Nat):Int):=ha;have:=(jT8 g hy).1;omega
    ·have ha2:1+(r.head+(j:Int))%24=((1+i:Nat):Int):=ha;exact .inr ⟨j,hj,aa,cH⟩
  ·have hA:(comL r t).take (jT6 r t).length=jT6 r t:=by rw[hsp,kI]
   have hgA:=j09 (jT6 r t) hg (fun x hx=>ho x (by rw[hsp];simp[hx])) dp
   have hbody:∀(j:Nat) (hj:j<(j_4 t).length),textsAt (jV1 d (jT6 r t)) (1+((r.head+(j:Int))%24).toNat)=[(j_4 t)[j]]:=fun j hj=>by
    have hne:j_4 t≠ []:=fun e=>by rw[e] at hj;cases hj
    have hAe:jT6 r t=(j12 t++List.zipWith atW (places r.head (j_4 t).length) (j_4 t))++ [j_2]:=by unfold jT6;rw[ii hne];simp
    have hok2:∀x∈j12 t++List.zipWith atW (places r.head (j_4 t).length) (j_4 t),jP2 x:=fun x hx=>ho x (by rw[hsp,hAe];simp only[iE];rw[<-iE];exact iv _ hx)
    have hln2:d.writes.length+(j12 t++List.zipWith atW (places r.head (j_4 t).length) (j_4 t)).length<=200:=by
     have:=congrArg List.length hAe;rw[il] at this;rw[hw,iC];omega
    have hlt:1+((r.head+(j:Int))%24).toNat<37:=aa;rw[hAe,jJ7 hg hok2 hln2 hlt];congr 1;refine jJ8 _ hg hok2 hln2 hlt (fun x hx hk2 ha=>?_) (.inl ⟨_,ip _ (ku6 r.head (j_4 t) hj),jj6 _ _,?_⟩)
    ·rcases iK.1 hx with hx|hx
     ·exfalso;rcases k59 hx with rfl|⟨y,hy,rfl⟩
      ·exact absurd rfl hk2
      ·have ha2:25+y.block=((1+((r.head+(j:Int))%24).toNat:Nat):Int):=ha;have:=(jT8 g hy).1;omega
     ·obtain⟨i,hi,rfl⟩:=k_3 hx;have ha2:1+(r.head+(i:Int))%24=((1+((r.head+(j:Int))%24).toNat:Nat):Int):=ha;obtain rfl:i=j:=jw2 (a:=r.head) aa aa aa;rfl
    ·show 1+(r.head+(j:Int))%24=_;omega
   have hrestA:∀n:Nat,n<37->∀s∈textsAt (jV1 d (jT6 r t)) n,s=readD d n\/ ∃x∈jT6 r t,x.kind≠2/\x.at_=n/\x.text=s:=fun n hn s hs=>by
    rcases jU9 _ hg (fun x hx=>ho x (by rw[hsp];simp[hx])) dp hn s hs with hh|hh
    ·rw[jW8 hg hw hn] at hh;exact .inl (iI.1 hh)
    ·exact .inr hh
   have hpc:putE (jV1 d (jT6 r t)) (1+(r.head+(j_4 t).length)%24) (markS (jN_ t.seq))=0:=by
    have:=(jR_ hgA.1 (ho (atW ((r.head+(j_4 t).length)%24) (markS (jN_ t.seq))) dK) (by have:=hgA.2;rw[hw,iC] at this;omega)).1;exact this
   have hput:textsAt (putD (jV1 d (jT6 r t)) (1+(r.head+(j_4 t).length)%24) (markS (jN_ t.seq)))=fun n:Nat=>if 1+(r.head+(j_4 t).length)%24=(n:Int) then textsAt (jV1 d (jT6 r t)) n++ [markS (jN_ t.seq)] else textsAt (jV1 d (jT6 r t)) n:=funext fun n=>jc_ hpc n;have hgP:=jS3 hpc
   have htk:∀n:Nat,n<37->readD c n∈textsAt (putD (jV1 d (jT6 r t)) (1+(r.head+(j_4 t).length)%24) (markS (jN_ t.seq))) n/\(k=(comL r t).length->readD c n=readD (putD (jV1 d (jT6 r t)) (1+(r.head+(j_4 t).length)%24) (markS (jN_ t.seq))) n):=fun n hn=>by
    have hrd:=hl.read n hn;obtain rfl|rfl:k=(jT6 r t).length+1\/k=(jT6 r t).length+2:=aa
    ·rw[hsp,mi,iV aa,jw,j27] at hrd;exact⟨hrd,fun e=>aa⟩
    ·rw[iV aa,hsp,j27] at hrd;have e:jV1 (jV1 d (jT6 r t)) [atW ((r.head+(j_4 t).length)%24) (markS (jN_ t.seq)),j_2]=j55 (putD (jV1 d (jT6 r t)) (1+(r.head+(j_4 t).length)%24) (markS (jN_ t.seq))):=rfl;rw[e,jM9 hgP hn] at hrd;have hrd:=iI.1 hrd;exact⟨by rw[hrd];exact jT1 hgP hn,fun _=>hrd⟩
   have hcomq:((1+((r.head+((j_4 t).length:Int))%24).toNat:Nat):Int)=1+(r.head+((j_4 t).length:Int))%24:=aa;have hc24:1+((r.head+((j_4 t).length:Int))%24).toNat<37:=aa;by_cases hmk:readD c (1+(r.head+((j_4 t).length:Int))%24)=markS (jN_ t.seq)
   ·refine .inr ⟨aa,fun j hj=>?_,fun i hi hij=>?_⟩
    ·by_cases hjb:j<(j_4 t).length
     ·have hne : ¬ (1 + (r.head + ((j_4 t).length : Int)) % 24 = ((1 + ((r.head + (j : Int)) % 24).toNat : Nat) : Int)) := fun e => by
        have:=jw2 (a:=r.head) (i:=(j_4 t).length) (j:=j) aa aa aa;omega
      have h7:=(htk (1+((r.head+(j:Int))%24).toNat) aa).1;rw[hput] at h7;simp only[ii hne] at h7;rw[hbody j hjb] at h7;have h8:=iI.1 h7;have e:((1+((r.head+(j:Int))%24).toNat:Nat):Int)=1+(r.head+(j:Int))%24:=aa;rw[e] at h8;rw[h8,jm1 t hjb]
     ·obtain rfl:j=(j_4 t).length:=by omega
      rw[hmk,jC9]
    ·have hne:¬(1+(r.head+((j_4 t).length:Int))%24=((1+i:Nat):Int)):=fun e=>hij (j_4 t).length aa aa;have h7:=(htk (1+i) aa).1;rw[hput] at h7;simp only[ii hne] at h7;rcases hrestA (1+i) aa _ h7 with hh|⟨x,hx,hk2,ha,_⟩
     ·simpa using hh
     ·exfalso;rcases jO1 hx with rfl|⟨y,hy,rfl⟩|⟨j,hj,rfl⟩
      ·exact absurd rfl hk2
      ·have ha2:25+y.block=((1+i:Nat):Int):=ha;have:=(jT8 g hy).1;omega
      ·have ha2:1+(r.head+(j:Int))%24=((1+i:Nat):Int):=ha;exact hij j aa aa
   ·refine .inl ⟨?_,fun i hi=>?_⟩
    ·by_cases hkl:k=(comL r t).length
     ·exfalso;have h9:=(htk _ hc24).2 hkl;rw[hcomq] at h9;exact hmk (h9.trans (jm8 hpc))
     ·omega
    ·by_cases hne:1+(r.head+((j_4 t).length:Int))%24=((1+i:Nat):Int)
     ·have h7:=(htk (1+i) aa).1;rw[hput] at h7;simp only[ij hne] at h7;rcases iK.1 h7 with h7|h7
      ·rcases hrestA (1+i) aa _ h7 with hh|⟨x,hx,hk2,ha,he⟩
       ·exact .inl dL
       ·exfalso;rcases jO1 hx with rfl|⟨y,hy,rfl⟩|⟨j,hj,rfl⟩
        ·exact absurd rfl hk2
        ·have ha2:25+y.block=((1+i:Nat):Int):=ha;have:=(jT8 g hy).1;omega
        ·have ha2:1+(r.head+(j:Int))%24=((1+i:Nat):Int):=ha;have:=jw2 (a:=r.head) (i:=(j_4 t).length) (j:=j) aa aa aa;omega
      ·exfalso;refine hmk ?_;rw[hne];exact iI.1 h7
     ·have h7:=(htk (1+i) aa).1;rw[hput] at h7;simp only[ii hne] at h7;rcases hrestA (1+i) aa _ h7 with hh|⟨x,hx,hk2,ha,he⟩
      ·exact .inl dL
      ·rcases jO1 hx with rfl|⟨y,hy,rfl⟩|⟨j,hj,rfl⟩
       ·exact absurd rfl hk2
       ·exfalso;have ha2:25+y.block=((1+i:Nat):Int):=ha;have:=(jT8 g hy).1;omega
       ·have ha2:1+(r.head+(j:Int))%24=((1+i:Nat):Int):=ha;exact .inr ⟨j,hj,aa,cH⟩
theorem kR5{d c:Dsk}(a:Int){u:Nat}(hu:u<=24)(h:∀i:Nat,i<u->readD c (1+(a+(i:Int))%24)=readD d (1+(a+(i:Int))%24)):logL c a=(logL d a).take u++(logL c a).drop u:=by
 conv=>lhs;rw[<-ji u (logL c a)]
 congr 1;refine mf fun i=>?_;by_cases hi:i<u
 ·rw[jB,jB,ij hi,ij hi,jn9 _ _ aa,jn9 _ _ aa,h i hi]
 ·rw[jB,jB,ii hi,ii hi]
theorem jn3(f:Fnd){x:List Txn}{y z:Int}(h1:f.txns=x)(h2:f.next=y)(h3:f.at_=z):f=⟨x,y,z⟩:=by cases f;simp_all
theorem jd4{d c : Dsk}(hd : scanE d = 0)(hc : goodD c = true)(hz : readD c 0 = readD d 0)(h : ∀ i : Nat, i < j52 d -> readD c (1 + (j16 d + (i : Int)) % 24) = readD d (1 + (j16 d + (i : Int)) % 24)) :scanE c = 0 /\ j16 c = j16 d /\ jp8 c = jp8 d /\ (scanF c).txns = (scanF d).txns ++ (j77 ((logL c (j16 d)).drop (j52 d)) (scanF d).next).1 /\ (scanF c).next = (j77 ((logL c (j16 d)).drop (j52 d)) (scanF d).next).2.1 /\(j77 (logL c (j16 c)) (jp8 c)).2.2=(j77 ((logL c (j16 d)).drop (j52 d)) (scanF d).next).2.2:=by
 have hg:=(jT_ hd).1;have hE:scanE c=0:=by rw[k82 hg hc hz];exact hd
 have hA:j16 c=j16 d:=by unfold j16;rw[hz]
 have hQ:jp8 c=jp8 d:=by unfold jp8;rw[hz]
 obtain⟨pre,p1,p2,p3,p4,p5,p6,p7,p8⟩:=j35 hd;have hpre:(logL d (j16 d)).take (j52 d)=pre:=by rw[p1,<-p2,kI]
 have hsp:=kR5 (d:=d) (c:=c) (j16 d) p3 h;rw[hpre] at hsp;obtain⟨q1,q2⟩:=p8 ((logL c (j16 d)).drop (j52 d));rw[<-hsp] at q1 q2;refine⟨hE,hA,hQ,?_,?_,?_⟩
 ·rw[jJ9 hE,hA,hQ];exact q1
 ·rw[jJ9 hE,hA,hQ];exact congrArg Prod.fst q2
 ·rw[hA,hQ];exact congrArg Prod.snd q2
theorem jv3{d c : Dsk}(hd : scanE d = 0)(hc : goodD c = true)(hz : readD c 0 = readD d 0)(h : ∀ i : Nat, i < j52 d -> readD c (1 + (j16 d + (i : Int)) % 24) = readD d (1 + (j16 d + (i : Int)) % 24))(hn : jL0 c (scanF d).next) :scanE c=0/\scanF c=scanF d/\j52 c=j52 d:=by
 obtain⟨hE,hA,hQ,s1,s2,s3⟩:=jd4 hd hc hz h;have h0:=jG5 (q:=(scanF d).next) (r:=(logL c (j16 d)).drop (j52 d)) (fun s hs=>hn.log (j16 d) (Int.le_refl _) s (jI hs));rw[h0] at s1 s2 s3;obtain⟨pre,p1,p2,p3,p4,p5,p6,p7,p8⟩:=j35 hd
 have hu:j52 c=j52 d:=by
  unfold j52 at p3⊢;rw[s3,iX,j13];unfold j52;omega
 obtain⟨_,_,_,_,_,_,r6,_⟩:=j35 hE;refine⟨hE,?_,hu⟩;rw[jn3 (scanF d) rfl rfl rfl];exact jn3 _ (by rw[s1,i6]) s2 (by rw[r6,hA,hu,<-p6])
theorem kJ9{r : Ring}{t : Txn}{d c : Dsk}{k : Nat}(hd : scanE d = 0)(hn : jL0 d (scanF d).next)(h : comE r t = 0)(hh : r.head = (scanF d).at_)(hu : r.used = j52 d)(hq : t.seq = (scanF d).next)(hq2 : t.seq < 2147483647)(hl : ComLeft r t d c k) :scanE c = 0 /\ ((k <= (jT6 r t).length + 1 /\ scanF c = scanF d /\ j52 c = j52 d /\ jL0 c (scanF d).next) \/((jT6 r t).length<k/\scanF c=⟨(scanF d).txns++ [ju9 t],(scanF d).next+1,((scanF d).at_+((j_4 t).length+1:Nat))%24⟩/\j52 c=j52 d+((j_4 t).length+1)/\jL0 c ((scanF d).next+1))):=by
 obtain⟨h1,g,h3,h4,h5,h6⟩:=j21 h;obtain⟨hb1,hb2,hb3,hb4,hb5⟩:=jT_ hd;obtain⟨pre,p1,p2,p3,p4,p5,p6,p7,p8⟩:=j35 hd;have hnl:(logT t).length=(j_4 t).length+1:=by unfold logT;simp
 have hold:∀i:Nat,i<j52 d->∀j:Nat,j<(j_4 t).length+1->((j16 d+(i:Int))%24)≠(r.head+(j:Int))%24:=fun i hi j hj e=>by
  rw[hh,p6] at e;omega
 rcases hl.log with ⟨hk,hA⟩|⟨hk,hB1,hB2⟩
 ·have hn2 : jL0 c (scanF d).next := fun i hi x hx hc => by
    rcases hA i hi with e|⟨j,hj,_,e⟩
    · rw[e] at hc;exact hn i hi x hx hc
    · rw[e] at hc;exact k78 g (iM hj) x hc
  obtain⟨e1,e2,e3⟩:=jv3 hd hl.good hl.zero (fun i hi=>by
   have hi24:((j16 d+(i:Int))%24).toNat<24:=aa;have e0:(((j16 d+(i:Int))%24).toNat:Int)=(j16 d+(i:Int))%24:=aa;rcases hA _ hi24 with e|⟨j,hj,e,_⟩
   ·rw[e0] at e;exact e
   ·rw[e0] at e;exact absurd e (hold i hi j aa)) hn2
  exact⟨e1,.inl ⟨hk,e2,e3,hn2⟩⟩
 ·have hn2 : jL0 c ((scanF d).next + 1) := fun i hi x hx hc => by
    by_cases hex:∃j:Nat,j<(logT t).length/\(i:Int)=(r.head+(j:Int))%24
    · obtain⟨j,hj,e⟩:=hex;have e2:=hB1 j hj;rw[<-e] at e2;rw[e2] at hc;by_cases hjb:j<(j_4 t).length
      · rw[jm1 t hjb] at hc;exact k78 g (iM hjb) x hc
      · obtain rfl:j=(j_4 t).length:=by omega
        rw[jC9] at hc;obtain⟨_,d2,_⟩:=j46 (jo3 g.seq);have h7:=hc.2.1;rw[d2] at h7;have h8:t.seq=x:=h7;omega
    · rw[hB2 i hi (fun j hj e=>hex ⟨j,hj,e⟩)] at hc;exact hn i hi x aa hc
  obtain⟨hE,hA,hQ,s1,s2,s3⟩:=jd4 hd hl.good hl.zero (fun i hi=>by
   have hi24:((j16 d+(i:Int))%24).toNat<24:=aa;have e0:(((j16 d+(i:Int))%24).toNat:Int)=(j16 d+(i:Int))%24:=aa;have:=hB2 _ hi24 (fun j hj e=>by rw[e0] at e;exact hold i hi j aa e);rw[e0] at this;exact this)
  have hr2:(logL c (j16 d)).drop (j52 d)=logT t++(logL c (j16 d)).drop (j52 d+((j_4 t).length+1)):=by
   rw[<-kg]
   conv=>lhs;rw[<-ji ((j_4 t).length+1) ((logL c (j16 d)).drop (j52 d))]
   congr 1;refine mf fun j=>?_;rw[jB];by_cases hj:j<(j_4 t).length+1
   ·rw[ij hj,lU,jn9 _ _ aa,ix aa,<-hB1 j aa,hh,p6];congr 3;omega
   ·rw[ii hj,kN aa]
  have hlen:((logL c (j16 d)).drop (j52 d)).length=24-j52 d:=by rw[iX,j13]
  have hp:=kQ7 g ((logL c (j16 d)).drop (j52 d+((j_4 t).length+1))) (n:=25) (by rw[<-hr2,hlen];omega);rw[<-hr2,hq] at hp;have hst:=jW6 aa hp;have h0:=jG5 (q:=(scanF d).next+1) (r:=(logL c (j16 d)).drop (j52 d+((j_4 t).length+1))) (fun s hs=>hn2.log (j16 d) (Int.le_refl _) s (jI hs))
  have t1:(j77 ((logL c (j16 d)).drop (j52 d)) (scanF d).next).1=[ju9 t]:=by
   show(j8_ _ _ _).1=_;rw[hst.1];show ju9 t::(j77 _ _).1=_;rw[h0]
  have t2:(j77 ((logL c (j16 d)).drop (j52 d)) (scanF d).next).2=((scanF d).next+1,(logL c (j16 d)).drop (j52 d+((j_4 t).length+1))):=by
   show(j8_ _ _ _).2=_;rw[hst.2];show(j77 _ _).2=_;rw[h0]
  rw[t1] at s1;rw[t2] at s2 s3
  have huc:j52 c=j52 d+((j_4 t).length+1):=by
   show 24-_=_;rw[s3];show 24-(List.drop _ _).length=_;rw[iX,j13];omega
  obtain⟨_,_,_,_,_,_,r6,_⟩:=j35 hE;refine⟨hE,.inr ⟨hk,jn3 _ s1 s2 ?_,huc,hn2⟩⟩;rw[r6,hA,huc,p6];omega
theorem jh2{d c : Dsk}{m l2 : List Stp}{k n : Nat}{s : ByteArray}(hg : goodD d = true)(ho : ∀ x ∈ (m ++ [j_2]) ++ l2, jP2 x)(hln : d.writes.length + ((m ++ [j_2]) ++ l2).length <= 100)(hn : n < 37)(hr : readD (jV1 d m) n = s)(h2:∀x∈l2,x.kind≠2->x.at_≠n) (hk:m.length+1<=k) (hl:Left (jV1 d (((m++ [j_2])++l2).take k)) c):readD c n=s:=by
 simp only[il,iB,iC] at hln
 have htk:((m++ [j_2])++l2).take k=(m++ [j_2])++l2.take (k-(m.length+1)):=by
  rw[mi,iV ah];simp
 have h:=hl.read n hn;rw[htk,j27] at h;have hgm:=j09 (m++ [j_2]) hg (fun x hx=>ho x (iv _ hx)) ah
 have hgl:(jV1 d (m++ [j_2])).writes.length+(l2.take (k-(m.length+1))).length<=200:=by
  have:=hgm.2;simp only[il,iB,iC] at this;rw[iA];omega
 rcases jU9 _ hgm.1 (fun x hx=>ho x (ip _ (jc hx))) hgl hn _ h with hh|⟨x,hx,hk2,ha,_⟩
 ·rw[jJ7 hg (fun x hx=>ho x bh) aa hn,hr] at hh;exact iI.1 hh
 ·exact absurd ha (h2 x (jc hx) hk2)
theorem jm4{l:List Cpy}{x:Stp}(hx:x∈jY_ l):x=j_2\/ ∃c∈l,x=wrS (25+c.block) c.text:=by
 unfold jY_ at hx;exact fI
theorem jA1{l:List Cpy}(g:copiesB l=true){c:Cpy}(hc:c∈l):(0<=c.block/\c.block<12)/\c.text.size=32:=by
 have:=((j60 _).1 g).2 c hc;exact⟨iF this.1,this.2⟩
theorem kz1{l:List Cpy}(g:copiesB l=true){x y:Cpy}(hx:x∈l)(hy:y∈l)(h:x.block=y.block):x.text=y.text:=by
 have hp:=((j60 _).1 g).1;have h1:=jS0 hp hx;have h2:=jS0 hp hy;rw[h,h2,iO] at h1;exact h1.symm
theorem jV9{l:List Cpy}{a q:Int}(g:copiesB l=true)(ha:0<=a/\a<24)(hq:1<=q/\q<=2147483647):checkE l a q=0/\checkL l a q=jY_ l++ [wrS 0 (markS (j86 q a)),j_2]:=by
 have e:checkE l a q=0:=by
  unfold checkE;rw[ii (fun h=>h (jX6 hq ha)),ij];rw[ja];intro c hc;have:=jA1 g hc;unfold jT7 isBlk jN1;simp[this]
 exact⟨e,by unfold checkL;rw[ij e]⟩
theorem jR1{l:List Cpy}{a q:Int}(g:copiesB l=true)(ha:0<=a/\a<24)(hq:1<=q/\q<=2147483647):(∀x∈checkL l a q,jP2 x)/\(checkL l a q).length<=15:=by
 rw[(jV9 g ha hq).2];constructor
 ·intro x hx hk2;rcases iK.1 hx with hx|hx
  ·rcases jm4 hx with rfl|⟨c,hc,rfl⟩
   ·exact absurd rfl hk2
   ·have:=jA1 g hc;exact⟨by unfold jR6 wrS;simp;omega,this.2⟩
  ·rcases iS.1 hx with rfl|hx
   ·exact⟨rfl,(j46 (jX6 hq ha)).2.2⟩
   ·obtain rfl:=iI.1 hx;exact absurd rfl hk2
 ·unfold jY_;have:=j59 g;have e1:(if l=[] then([]:List Stp) else [j_2]).length<=1:=dW;simp only[il,iZ,iB,iC];omega
structure ChkLeft(l:List Cpy)(a q:Int)(d c:Dsk)(k:Nat):Prop where
 good:goodD c=true
 clean:c.writes=[]
 log:∀i:Nat,i<24->readD c (1+(i:Int))=readD d (1+(i:Int))
 home:∀b:Nat,b<12->readD c (25+(b:Int))=readD d (25+(b:Int))\/ ∃x∈l,x.block=b/\readD c (25+(b:Int))=x.text
 done:(jY_ l).length<=k->∀x∈l,readD c (25+x.block)=x.text
 zero:(k<=(jY_ l).length+1/\readD c 0=readD d 0)\/((jY_ l).length<k/\readD c 0=markS (j86 q a))
theorem kJ4{l:List Cpy}{a q:Int}{d c:Dsk}{k:Nat}(g:copiesB l=true)(ha:0<=a/\a<24)(hq:1<=q/\q<=2147483647)(hg:goodD d=true)(hw:d.writes=[])(hk:k<=(checkL l a q).length)(hl:Left (jV1 d ((checkL l a q).take k)) c):ChkLeft l a q d c k:=by
 obtain⟨ho,hlen⟩:=jR1 g ha hq;have hsp:=(jV9 g ha hq).2;have hL:(checkL l a q).length=(jY_ l).length+2:=dK
 have hwr:∀x∈checkL l a q,x.kind≠2->(∃y∈l,x=wrS (25+y.block) y.text)\/x=wrS 0 (markS (j86 q a)):=fun x hx hk2=>by
  rw[hsp] at hx;rcases iK.1 hx with hx|hx
  ·rcases jm4 hx with rfl|hx
   ·exact absurd rfl hk2
   ·exact .inl hx
  ·rcases iS.1 hx with rfl|hx
   ·exact .inr rfl
   ·obtain rfl:=iI.1 hx;exact absurd rfl hk2
 have htx:∀n:Nat,n<37->readD c n=readD d n\/ ∃x∈(checkL l a q).take k,x.kind≠2/\x.at_=n/\x.text=readD c n:=fun n hn=>by
  rcases jU9 _ hg (fun x hx=>ho x (jc hx)) (by rw[hw,iC,iA];omega) hn _ (hl.read n hn) with hh|hh
  ·rw[jW8 hg hw hn] at hh;exact .inl (iI.1 hh)
  ·exact .inr hh
 refine⟨hl.good,hl.clean,fun i hi=>?_,fun b hb=>?_,fun hd x hx=>?_,?_⟩
 ·rcases htx (1+i) aa with hh|⟨x,hx,hk2,ha2,_⟩
  ·simpa using hh
  ·exfalso;rcases hwr x (jc hx) hk2 with ⟨y,hy,rfl⟩|rfl
   ·have:=(jA1 g hy).1;have ha3:25+y.block=((1+i:Nat):Int):=ha2;omega
   ·have ha3:(0:Int)=((1+i:Nat):Int):=ha2;omega
 ·rcases htx (25+b) aa with hh|⟨x,hx,hk2,ha2,he⟩
  ·exact .inl dL
  ·rcases hwr x (jc hx) hk2 with ⟨y,hy,rfl⟩|rfl
   ·have ha3:25+y.block=((25+b:Nat):Int):=ha2;exact .inr ⟨y,hy,aa,by have he2:=he.symm;simpa [wrS] using he2⟩
   ·exfalso;have ha3:(0:Int)=((25+b:Nat):Int):=ha2;omega
 ·have hn0:l≠ []:=fun e=>by rw[e] at hx;cases hx
  have hds:jY_ l=l.map (fun c=>wrS (25+c.block) c.text)++ [j_2]:=by unfold jY_;rw[ii hn0]
  have hb:=jA1 g hx;obtain⟨b,hbb,hb12⟩:∃b:Nat,x.block=b/\b<12:=⟨x.block.toNat,aa,aa⟩;have hlm:=j59 g
  have e:readD (jV1 d (l.map (fun c=>wrS (25+c.block) c.text))) ((25+b:Nat):Int)=x.text:=
   jJ8 _ hg (fun y hy=>ho y (by rw[hsp,hds];simp[hy])) cD aa (fun y hy _ ha2=>by
    obtain⟨z,hz2,rfl⟩:=jg.1 hy;have ha3:25+z.block=((25+b:Nat):Int):=ha2;exact kz1 g hz2 hx aa) (.inl ⟨wrS (25+x.block) x.text,jg.2 ⟨x,hx,rfl⟩,jj6 _ _,by show 25+x.block=_;omega⟩)
  rw[hsp,hds] at hl
  have:=jh2 (n:=25+b) hg (by rw[hsp,hds] at ho;exact ho) (by rw[hsp,hds] at hlen;rw[hw,iC];omega) aa e (fun y hy hk2 ha2=>by
   rcases iS.1 hy with rfl|hy
   ·have ha3:(0:Int)=((25+b:Nat):Int):=ha2;omega
   ·obtain rfl:=iI.1 hy;exact absurd rfl hk2) (by rw[hds] at hd;simpa using hd) hl
  rw[hbb];simpa using this
 ·have hno : ∀ x ∈ jY_ l, x.kind ≠ 2 -> x.at_ ≠ ((0 : Nat) : Int) := fun x hx hk2 ha2 => by
    rcases jm4 hx with rfl|⟨y,hy,rfl⟩
    · exact absurd rfl hk2
    · have:=(jA1 g hy).1;have ha3:25+y.block=((0:Nat):Int):=ha2;omega
  by_cases hkA:k<=(jY_ l).length
  ·refine .inl ⟨aa,?_⟩;rcases htx 0 ae with hh|⟨x,hx,hk2,ha2,_⟩
   ·exact hh
   ·rw[hsp,jU hkA] at hx;exact absurd ha2 (hno x (jc hx) hk2)
  ·by_cases hk1:k=(jY_ l).length+1
   ·rcases htx 0 ae with hh|⟨x,hx,hk2,ha2,he⟩
    ·exact .inl ⟨aa,hh⟩
    ·refine .inr ⟨aa,?_⟩;rcases hwr x (jc hx) hk2 with ⟨y,hy,rfl⟩|rfl
     ·exfalso;have:=(jA1 g hy).1;have ha3:25+y.block=((0:Nat):Int):=ha2;omega
     ·exact he.symm
   ·refine .inr ⟨aa,?_⟩
    have e:(checkL l a q).take k=(jY_ l++ [wrS 0 (markS (j86 q a))])++ [j_2]:=by
     rw[iV aa,hsp];simp
    have hh:=hl.read 0 ae;rw[e,jJ7 hg (fun x hx=>ho x bW) (by rw[hw,iC];simp;omega) ae] at hh;refine(iI.1 hh).trans ?_;refine jJ8 _ hg (fun x hx=>ho x bW) (by rw[hw,iC];simp;omega) ae (fun x hx hk2 ha2=>?_) (.inl ⟨wrS 0 (markS (j86 q a)),ag,jj6 _ _,rfl⟩);rcases iK.1 hx with hx|hx
    ·exact absurd ha2 (hno x hx hk2)
    ·obtain rfl:=iI.1 hx;rfl
theorem jd3{c:Dsk}{a q:Int}(hg:goodD c=true)(ha:0<=a/\a<24)(hq:1<=q/\q<=2147483647)(hz:readD c 0=markS (j86 q a))(hn:jL0 c q):scanE c=0/\scanF c=⟨[],q,a⟩/\j52 c=0:=by
 obtain⟨d1,d2,_⟩:=j46 (jX6 hq ha)
 have hE:scanE c=0:=by
  unfold scanE readE;rw[hz,hg,d1,d2];rfl
 have hA:j16 c=a:=by unfold j16;rw[hz,d2];rfl
 have hQ:jp8 c=q:=by unfold jp8;rw[hz,d2];rfl
 have h0:=jG5 (q:=q) (r:=logL c a) (fun s hs=>hn.log a (Int.le_refl _) s hs);have hu:j52 c=0:=by unfold j52;rw[hA,hQ,h0];simp[j13]
 obtain⟨_,_,_,_,_,_,r6,_⟩:=j35 hE;refine⟨hE,jn3 _ ?_ ?_ ?_,hu⟩
 ·rw[jJ9 hE,hA,hQ,h0]
 ·rw[jJ9 hE,hA,hQ,h0]
 ·rw[r6,hu,hA];omega
theorem kJ5{l : List Cpy}{d c : Dsk}{k : Nat}(hd : scanE d = 0)(hn : jL0 d (scanF d).next)(hl : ChkLeft l (scanF d).at_ (scanF d).next d c k) :scanE c=0/\jL0 c (scanF d).next/\((k<=(jY_ l).length+1/\scanF c=scanF d/\j52 c=j52 d)\/((jY_ l).length<k/\scanF c=⟨[],(scanF d).next,(scanF d).at_⟩/\j52 c=0)):=by
 obtain⟨hb1,hb2,hb3,hb4,hb5⟩:=jT_ hd;obtain⟨pre,p1,p2,p3,p4,p5,p6,p7,p8⟩:=j35 hd
 have hn2:jL0 c (scanF d).next:=fun i hi x hx hc=>by
  rw[hl.log i hi] at hc;exact hn i hi x hx hc
 rcases hl.zero with ⟨hk,hz⟩|⟨hk,hz⟩
 ·obtain ⟨e1, e2, e3⟩ := jv3 hd hl.good hz (fun i hi => by
    have e0:(((j16 d+(i:Int))%24).toNat:Int)=(j16 d+(i:Int))%24:=aa;have:=hl.log ((j16 d+(i:Int))%24).toNat aa;rw[e0] at this;exact this) hn2
  exact⟨e1,hn2,.inl ⟨hk,e2,e3⟩⟩
 ·obtain⟨e1,e2,e3⟩:=jd3 hl.good (a:=(scanF d).at_) (q:=(scanF d).next) (by rw[p6];omega) aa hz hn2;exact⟨e1,hn2,.inr ⟨hk,e2,e3⟩⟩
theorem j31{d:Dsk}(h:scanE d=0):(0<=(scanF d).at_/\(scanF d).at_<24)/\(1<=(scanF d).next/\(scanF d).next<=2147483647):=by
 obtain⟨hb1,hb2,hb3,hb4,hb5⟩:=jT_ h;obtain⟨pre,p1,p2,p3,p4,p5,p6,p7,p8⟩:=j35 h;exact⟨by rw[p6];omega,aa⟩
theorem jv2:∀(k:Nat) (r:List ByteArray) (n:Int),(j8_ k r n).1.length<=k
 |0,r,n=>iy _
 |k+1,r,n=>by
  unfold j8_
  split
  ·split
   ·simp only[iB];have:=jv2 k ‹_› (n+1);omega
   ·exact iq _
  ·exact iq _
theorem jp7(d:Dsk):(scanF d).txns.length<=25:=by
 unfold scanF
 split
 ·exact jv2 _ _ _
 ·exact iq _
structure Aj where
 kind:Int
 h:Int
 b:Int
 n:Int
 text:ByteArray
def ajC(a:Aj):List Value:=[.int .i64 a.kind,.int .i64 a.h,.int .i64 a.b,.int .i64 a.n,.string a.text]
theorem k74:Flat ajC 5:=⟨fun _=>rfl,fun _ u hu=>by simp[ajC] at hu;rcases hu with rfl|rfl|rfl|rfl|rfl<;>rfl,ae⟩
structure Rep where
 code:Int
 n:Int
 text:ByteArray
def Rep.val(r:Rep):Value:=.agg #[.int .i64 r.code,.int .i64 r.n,.string r.text]
def noR(e:Int):Rep:=⟨e,0,⟨#[]⟩⟩
def jV_(f:Int->Int)(b v:Int):Int->Int:=fun x=>if x=b then v else f x
def kC2:Fnd:=⟨[],0,0⟩
structure Jn where
 disk:Dsk
 down:Bool
 ring:Ring
 now:Txn
 sealed:Txn
 done:List Txn
 used:List Int
 roles:Int->Int
 freed:Int->Int
 work:Int
 steps:List Stp
 after:Ring
 pending:Int
 found:Fnd
 last:Int
 acts:Int
def jY0(d:Dsk)(last acts:Int):Jn:=⟨d,false,⟨0,0⟩,j2_ 0,j2_ 0,[],[],fun _=>0,fun _=>0,0,[],⟨0,0⟩,0,kC2,last,acts⟩
def j54:Dsk:=⟨List.replicate 37 (fit ⟨#[]⟩),[]⟩
def jJ_:Dsk:=j55 (putD j54 0 (markS (j86 1 0)))
def newJ:Jn:={jY0 jJ_ 0 0 with now:=j2_ 1}
def jS6(j:Jn)(b:Int):Int:=if isBlk b=true then j.roles b else 0
def frJ(j:Jn):Int:=24-j.ring.used
def orE(e:Int)(c:Prop)[Decidable c](f:Int):Int:=if e=0/\c then f else e
def jN7(j:Jn)(a:Aj):Int:=
 if a.kind=1 then begE j.now a.h a.n (frJ j) else if a.kind=5 then stopE j.now a.h
 else if a.kind=2 then orE (chgE j.now a.h a.b (fit a.text)) (jS6 j a.b=2) 8
 else if a.kind=3 then orE (orE (filE j.now a.h a.b (fit a.text)) (jS6 j a.b=1) 8) (j.last<j.freed a.b) 9
 else if a.kind=4 then orE (rvkE j.now a.h a.b) (jS6 j a.b=0) 8 else 0
def jK0(j:Jn)(a:Aj):Txn:=
 if a.kind=1 then begT j.now a.h a.n (frJ j) else if a.kind=5 then stopT j.now a.h
 else if a.kind=2 then jC1 j.now a.h a.b (fit a.text) else if a.kind=3 then jr7 j.now a.h a.b (fit a.text) else jp6 j.now a.h a.b
def jZ6(j:Jn)(a:Aj):Int:=if a.kind=2 then 1 else if a.kind=3 then 2 else if a.kind=4 then 0 else jS6 j a.b
def j98(j:Jn)(a:Aj):Jn×Int:=
 if jN7 j a=0 then
  ({j with now:=jK0 j a,roles:=if isBlk a.b=true/\jZ6 j a≠jS6 j a.b then jV_ j.roles a.b (jZ6 j a) else j.roles,freed:=if a.kind=4 then jV_ j.freed a.b (jK0 j a).seq else j.freed},0)
 else(j,jN7 j a)
def firstC(j:Jn)(b:Int):Option ByteArray:=(getC j.now.mt b).or ((getC j.now.dt b).or ((getC j.sealed.mt b).or ((getC j.sealed.dt b).or (getC (newestL j.done) b))))
def jJ5(j:Jn)(b:Int):Rep:=if isBlk b=true then⟨0,j.roles b,(firstC j b).getD (readD j.disk (25+b))⟩ else noR 4
def j82(j:Jn):Jn×Rep:=
 if j.work≠0\/openB j.now=true then(j,noR 9) else if j.now.mt.length+j.now.dt.length+j.now.rev.length=0 then(j,noR 4) else if 2147483646<=j.now.seq then(j,noR 11)
 else if comE j.ring j.now≠0 then(j,noR (comE j.ring j.now))
 else({j with used:=j.used++ [(comR j.ring j.now).used-j.ring.used],ring:=comR j.ring j.now,sealed:=j.now,steps:=comL j.ring j.now,work:=1,now:=j2_ (j.now.seq+1)},⟨0,j.now.seq,⟨#[]⟩⟩)
def j37(j:Jn):Jn×Int:=
 if j.work≠0 then(j,9) else if j.done.length=0 then(j,4)
 else({j with after:=giveR j.ring j.used.sum,steps:=checkL (newestL j.done) j.ring.head (j.last+1),pending:=j.done.length,work:=2},0)
def j15(j:Jn)(x:Int):Jn×Int:=if crashE j.disk x=0 then({jY0 (crashD j.disk x) j.last j.acts with down:=true},0) else(j,crashE j.disk x)
def j36(j:Jn):Jn×Int:=
 if j.down=false\/j.work≠0 then(j,9) else if scanE j.disk≠0 then(j,scanE j.disk)
 else if checkE (newestL (scanF j.disk).txns) (scanF j.disk).at_ (scanF j.disk).next≠0 then({j with found:=scanF j.disk,steps:=checkL (newestL (scanF j.disk).txns) (scanF j.disk).at_ (scanF j.disk).next},checkE (newestL (scanF j.disk).txns) (scanF j.disk).at_ (scanF j.disk).next)
 else({j with found:=scanF j.disk,steps:=checkL (newestL (scanF j.disk).txns) (scanF j.disk).at_ (scanF j.disk).next,work:=3},0)
def ku0(f:Int->Int)(t:Txn):Int->Int:=t.mt.foldl (fun f c=>jV_ f c.block 1) (t.rev.foldl (fun f b=>jV_ f b 0) f)
def riseR(l:List Txn):Int->Int:=l.foldl ku0 (fun _=>1)
def kE0(j:Jn):Jn:={jY0 j.disk (j.found.next-1) j.acts with ring:=⟨j.found.at_,0⟩,now:=j2_ j.found.next,roles:=riseR j.found.txns}
def kX7(j:Jn):Jn×Rep:=
 if j.work=1 then({j with work:=0,last:=j.sealed.seq,done:=j.done++ [j.sealed],sealed:=j2_ 0},⟨0,j.sealed.seq,⟨#[]⟩⟩)
 else if j.work=2 then({j with work:=0,ring:=j.after,done:=j.done.drop j.pending.toNat,used:=j.used.drop j.pending.toNat},noR 0)
 else if j.work=3 then(kE0 {j with work:=0},noR 0) else({j with work:=0},noR 0)
def jR5(j:Jn):Jn×Rep:=
 if j.work=0 then(j,noR 4) else
 match j.steps with
 | []=>(j,noR 4)
 |s::r=>
  if jF0 j.disk s≠0 then({j with disk:=jV2 j.disk s},noR (jF0 j.disk s))
  else if r=[] then kX7 {j with disk:=jV2 j.disk s,steps:=[]} else({j with disk:=jV2 j.disk s,steps:=r},noR 0)
def noJ(x:Jn×Int):Jn×Rep:=(x.1,noR x.2)
def doJ(j:Jn)(a:Aj):Jn×Rep:=
 if 400<=j.acts then(j,noR 11)
 else if a.kind<1\/11<a.kind then({j with acts:=j.acts+1},noR 3)
 else if a.kind=10 then noJ (j15 {j with acts:=j.acts+1} a.n)
 else if a.kind=11 then noJ (j36 {j with acts:=j.acts+1})
 else if a.kind=8 then jR5 {j with acts:=j.acts+1}
 else if j.down=true then({j with acts:=j.acts+1},noR 10)
 else if a.kind=6 then j82 {j with acts:=j.acts+1}
 else if a.kind=7 then noJ (j37 {j with acts:=j.acts+1})
 else if a.kind=9 then({j with acts:=j.acts+1},jJ5 {j with acts:=j.acts+1} a.b)
 else noJ (j98 {j with acts:=j.acts+1} a)
end Wb
namespace Go.Proofs.YtlecmdajpfkaeaaGreatDoor
open Go.ChangeShapes Go.WideShapes Go.ChangeAt Go.RowKit Go.Joins Wb
instance:Inhabited Aj:=⟨⟨0,0,0,0,⟨#[]⟩⟩⟩
section
variable{H:Type}{enc:TypeId×Value->H}{W:World}{base:Nat}
def ko5(a:Aj):Prop:=a.text.size<=9223372036854775807/\a.n<=9223372036854775807
theorem jf8{n:Nat}{cs:List Value}{x:DataW H×List MemPlace}(hlen:cs.length=5)(h:DataW.trod enc Tryz.prog W 0 (fun _=>true) true n 28 cs=some x):∃a:Aj,cs=ajC a/\ko5 a:=by
 obtain⟨xs,m,_,hx,hl,hln,hg⟩:=DataW.trod_struct Tryz.underlying28 h
 match cs,hlen,xs,hln with
 | [u0,u1,u2,u3,u4],_,[y0,y1,y2,y3,y4],_=>
  have h0:DataW.trod enc Tryz.prog W 0 (fun _=>true) true m 3 [u0]=some y0:=hg 0 _ rfl
  have h1:DataW.trod enc Tryz.prog W 0 (fun _=>true) true m 3 [u1]=some y1:=hg 1 _ rfl
  have h2:DataW.trod enc Tryz.prog W 0 (fun _=>true) true m 3 [u2]=some y2:=hg 2 _ rfl
  have h3:DataW.trod enc Tryz.prog W 0 (fun _=>true) true m 3 [u3]=some y3:=hg 3 _ rfl
  have h4:DataW.trod enc Tryz.prog W 0 (fun _=>true) true m 9 [u4]=some y4:=hg 4 _ rfl
  obtain⟨a0,e0,_⟩:=lA Tryz.underlying3 h0
  obtain⟨a1,e1,_⟩:=lA Tryz.underlying3 h1
  obtain⟨a2,e2,_⟩:=lA Tryz.underlying3 h2
  obtain⟨a3,e3,_,w3⟩:=lA Tryz.underlying3 h3
  obtain⟨a4,e4,_,w4⟩:=DataW.trod_string Tryz.underlying9 h4
  simp at e0 e1 e2 e3 e4
  subst e0 e1 e2 e3 e4
  refine⟨⟨a0,a1,a2,a3,a4⟩,rfl,?_,?_⟩
  ·simpa only[maxLen] using w4
  ·unfold Lit.wf at w3;have w5:decide (a3<=IntKind.i64.max)=true:=(iD _ _▸w3).2;exact iF w5
end
section
variable{H:Type}{enc:TypeId×Value->H}{W:World}{base:Nat}
theorem jq9{v : Value}{d : DataW H}{p : List MemPlace}(hv : Value.okWide Tryz.prog W .any base 22 v)(h:DataW.Trod enc Tryz.prog W 0 (fun _=>true) true 22 v d p) {ts:List TypeId} {ds:List (DataW H)} (hz:(DataW.weightsEach Tryz.prog ts ds).all (· <=reachBytes)=true) (ht:ts[0]? =some 22) (hd0:ds[0]? =some d):∃(a:Option Addr) (c:Nat) (l:List Aj),v=.slice a l.length c/\RL ajC W (.slice a l.length c) l/\(∀o∈l,ko5 o)/\l.length<=2932031007402:=by
 obtain⟨a,n,c,rfl⟩:=okWide_slice Tryz.underlying22 hv;obtain⟨fuel,hf⟩:=h;obtain⟨v',l,hc,hr,hd⟩:=kF4 (f:=ajC) (c:=5) (Q:=fun z _=>ko5 z) (fun _=>rfl) ae Tryz.underlying22 af (fun n cs' y hy hlen=>jf8 hlen hy) (cs:=[.slice a n c]) hf;simp only[jh,jy] at hc;subst hc;obtain⟨a',c',he,_⟩:=hr.form
 cases he
 rcases hd with ⟨_,rfl⟩|⟨el,sp,hy,hel,hq⟩
 ·exact⟨_,_,[],rfl,hr,(fun o ho=>by cases ho),iq _⟩
 ·refine⟨_,_,l,rfl,hr,fun o ho=>?_,?_⟩
  ·obtain⟨i,hi,rfl⟩:=lM ho;obtain⟨y,hy2,hq2⟩:=hq i _ (ix hi);exact hq2
  ·have b0:Tryz.prog.bytesOf 28=48:=by kernel_rfl
   have:=sized_slice hz (j:=0) ht (by rw[hd0];exact congrArg some hy) Tryz.underlying22;rw[b0] at this;unfold reachBytes at this;omega
end
end Go.Proofs.YtlecmdajpfkaeaaGreatDoor
namespace Wb
open Go Go.RowKit
structure LogI(d:Dsk)(txs:List Txn)(q a:Int)(u:Nat):Prop where
 good:goodD d=true
 clean:d.writes=[]
 scan:scanE d=0
 found:scanF d=⟨txs.map ju9,q,a⟩
 used:j52 d=u
 noc:jL0 d q
 goods:∀t∈txs,goodT t=true
theorem k06{t:Txn}(h:goodT t=true):goodT (ju9 t)=true:=by
 have g:=j92.1 h;refine j92.2 ⟨g.seq,g.mt,(show copiesB []=true from rfl),g.rev,⟨fun b hb=>⟨(g.ap.1 b hb).1,rfl⟩,fun b _=>rfl⟩,(show hOk jW1=true from ae),(show hOk jW1=true from ae),(show hOk jW1=true from ae)⟩
theorem k_4(l:List Txn)(b:Int):newestB (l.map ju9) b=newestB l b:=by
 unfold newestB;rw[List.foldl_map];rfl
theorem jw_(l:List Txn):newestL (l.map ju9)=newestL l:=by
 unfold newestL;rw[funext (k_4 l)]
section
variable{d c:Dsk}{txs:List Txn}{q a:Int}{u:Nat}
theorem LogI.goods2(h:LogI d txs q a u):∀t∈(scanF d).txns,goodT t=true:=by
 rw[h.found];intro t ht;obtain⟨x,hx,rfl⟩:=jg.1 ht;exact k06 (h.goods x hx)
theorem LogI.bounds(h:LogI d txs q a u):(0<=a/\a<24)/\(1<=q/\q<=2147483647)/\u<=24/\txs.length<=25:=by
 obtain⟨h1,h2⟩:=j31 h.scan;obtain⟨pre,p1,p2,p3,_⟩:=j35 h.scan;have h3:=jp7 d;rw[h.found] at h1 h2 h3;rw[h.used] at p3;simp only[iZ] at h3;exact⟨h1,h2,p3,h3⟩
theorem gX{A:Prop}(h:A:=by
 unfold comR;rw[ij he];unfold jN6;rw[ij];unfold comE at he
 split at he
 ·cases he
 ·exact he):A:=h
theorem LogI.com(h : LogI d txs q a u){r : Ring}{t : Txn}{k : Nat}(he : comE r t = 0)(ha : r.head = a)(hu : r.used = u)(hq : t.seq = q)(hq2 : q < 2147483647)(hk : k <= (comL r t).length)(hl : Left (jV1 d ((comL r t).take k)) c) :(LogI c txs q a u/\k<=(jT6 r t).length+1)\/(LogI c (txs++ [t]) (q+1) (comR r t).head (comR r t).used.toNat/\(jT6 r t).length<k):=by
 have hcl:=kJ8 he h.good h.clean hk hl;have hf:=h.found;have hn:(scanF d).next=q:=by rw[hf]
 have hat:(scanF d).at_=a:=by rw[hf]
 have htx:(scanF d).txns=txs.map ju9:=by rw[hf]
 obtain⟨e1,e2⟩:=kJ9 h.scan (by rw[hn];exact h.noc) he (by rw[hat];exact ha) (by rw[h.used];exact hu) (by rw[hn];exact hq) aa hcl;rw[hn,hat,htx,h.used] at e2;obtain⟨g1,g,g3,g4,g5,g6⟩:=j21 he;rcases e2 with ⟨f1,f2,f3,f4⟩|⟨f1,f2,f3,f4⟩
 ·exact .inl ⟨⟨hcl.good,hcl.clean,e1,by rw[f2,hf],f3,f4,h.goods⟩,f1⟩
 ·have hb:=jV8 g
  have hR:comR r t=⟨(r.head+comN t)%24,r.used+comN t⟩:=by
   exact gX
  rw[hR];refine .inr ⟨⟨hcl.good,hcl.clean,e1,?_,?_,f4,fun x hx=>?_⟩,f1⟩
  ·rw[f2,jC,<-hb,ha];simp
  ·rw[f3,<-hb,hu];show _=((u:Int)+(((j_4 t).length:Int)+1)).toNat;omega
  ·rcases iK.1 hx with hx|hx
   ·exact h.goods x hx
   ·obtain rfl:=iI.1 hx;exact j92.2 g
theorem LogI.chk(h : LogI d txs q a u){k : Nat}(hk : k <= (checkL (newestL txs) a q).length)(hl : Left (jV1 d ((checkL (newestL txs) a q).take k)) c) :(LogI c txs q a u/\k<=(jY_ (newestL txs)).length+1)\/(LogI c [] q a 0/\(jY_ (newestL txs)).length<k):=by
 obtain⟨b1,b2,_⟩:=h.bounds;have hf:=h.found;have hn:(scanF d).next=q:=by rw[hf]
 have hat:(scanF d).at_=a:=by rw[hf]
 have hcl:=kJ4 (j96 h.goods) b1 b2 h.good h.clean hk hl;obtain⟨e1,e2,e3⟩:=kJ5 h.scan (by rw[hn];exact h.noc) (by rw[hn,hat];exact hcl);rw[hn,hat] at e3;rw[hn] at e2;rcases e3 with ⟨f1,f2,f3⟩|⟨f1,f2,f3⟩
 ·exact .inl ⟨⟨hcl.good,hcl.clean,e1,by rw[f2,hf],by rw[f3,h.used],e2,h.goods⟩,f1⟩
 ·exact .inr ⟨⟨hcl.good,hcl.clean,e1,f2,f3,e2,fun t ht=>by cases ht⟩,f1⟩
theorem LogI.keep(h:LogI d txs q a u)(hl:Left d c):LogI c txs q a u:=by
 have hr:=fun(k:Nat) hk=>hl.same h.good h.clean (k:=k) hk;have e0:readD c 0=readD d 0:=by simpa using hr 0 ae
 have hlog:∀i:Nat,i<24->readD c (1+(i:Int))=readD d (1+(i:Int)):=fun i hi=>by
  have:=hr (1+i) aa;simpa using this
 have hn2:jL0 c q:=fun i hi x hx hc=>by
  rw[hlog i hi] at hc;exact h.noc i hi x hx hc
 obtain⟨e1,e2,e3⟩:=jv3 h.scan hl.good e0 (fun i hi=>by
  have e0:(((j16 d+(i:Int))%24).toNat:Int)=(j16 d+(i:Int))%24:=aa;have:=hlog ((j16 d+(i:Int))%24).toNat aa;rw[e0] at this;exact this) (by rw[h.found];exact hn2)
 exact⟨hl.good,hl.clean,e1,by rw[e2,h.found],by rw[e3,h.used],hn2,h.goods⟩
theorem je9{l:List Stp}(hg:goodD d=true)(hw:d.writes=[])(ho:∀x∈l++ [j_2],jP2 x)(hn:l.length<=150):goodD (jV1 d (l++ [j_2]))=true/\(jV1 d (l++ [j_2])).writes=[]:=by
 have h1:=j09 l hg (fun x hx=>ho x bh) dp;rw[j27,jQ9,k21];unfold jV2;rw[ij (show j_2.kind=2 from rfl)];exact⟨jX2 h1.1,j00 h1.1⟩
theorem LogI.com_end(h:LogI d txs q a u){r:Ring}{t:Txn}(he:comE r t=0)(ha:r.head=a)(hu:r.used=u)(hq:t.seq=q)(hq2:q<2147483647):LogI (jV1 d (comL r t)) (txs++ [t]) (q+1) (comR r t).head (comR r t).used.toNat:=by
 obtain⟨ho,hlen⟩:=jA0 he;have hsp:=jU0 he;have hL:(comL r t).length=(jT6 r t).length+2:=dK;have e:comL r t=(jT6 r t++ [atW ((r.head+(j_4 t).length)%24) (markS (jN_ t.seq))])++ [j_2]:=dK;have hc:=je9 (l:=jT6 r t++ [atW ((r.head+(j_4 t).length)%24) (markS (jN_ t.seq))]) h.good h.clean (by rw[<-e];exact ho) ah;rw[<-e] at hc;rcases h.com he ha hu hq hq2 (iy _) (by rw[iY];exact kk2 hc.1 hc.2) with ⟨_,h2⟩|⟨h1,_⟩
 ·omega
 ·exact h1
theorem LogI.chk_end(h:LogI d txs q a u):LogI (jV1 d (checkL (newestL txs) a q)) [] q a 0:=by
 obtain⟨b1,b2,_⟩:=h.bounds;have g:=j96 h.goods;obtain⟨ho,hlen⟩:=jR1 g b1 b2;have hsp:=(jV9 g b1 b2).2;have hL:(checkL (newestL txs) a q).length=(jY_ (newestL txs)).length+2:=dK;have e:checkL (newestL txs) a q=(jY_ (newestL txs)++ [wrS 0 (markS (j86 q a))])++ [j_2]:=dK;have hc:=je9 (l:=jY_ (newestL txs)++ [wrS 0 (markS (j86 q a))]) h.good h.clean (by rw[<-e];exact ho) ah;rw[<-e] at hc;rcases h.chk (iy _) (by rw[iY];exact kk2 hc.1 hc.2) with ⟨_,h2⟩|⟨h1,_⟩
 ·omega
 ·exact h1
end
structure UpI(j:Jn)(d:Dsk)(r:Ring)(us:List Int):Prop where
 log:LogI d j.done (j.last+1) r.head r.used.toNat
 ring:goodR r=true
 sum:us.sum=r.used
 pos:∀x∈us,0<=x
 len:us.length=j.done.length
 last:0<=j.last/\j.last+1<=2147483646
structure NowI(j:Jn)(q:Int):Prop where
 good:goodT j.now=true
 seq:j.now.seq=q
structure DnI(d:Dsk)(last:Int):Prop where
 log:∃txs q a u,LogI d txs q a u/\last+1<=q/\q<=2147483646
 last:0<=last
inductive InvJ(j:Jn):Prop
 |idle (hd:j.down=false) (hw:j.work=0) (hu:UpI j j.disk j.ring j.used) (hn:NowI j (j.last+1)) (hs:j.sealed=j2_ 0)
 | sealing (d : Dsk) (r : Ring) (us : List Int) (k : Nat) (hd : j.down = false) (hw : j.work = 1) (hu : UpI j d r us) (hn : NowI j (j.last + 2)) (he : comE r j.sealed = 0) (hq : j.sealed.seq = j.last + 1) (hq2 : j.sealed.seq < 2147483646)
     (hr:j.ring=comR r j.sealed) (hus:j.used=us++ [j.ring.used-r.used]) (hk:k<(comL r j.sealed).length) (hdk:j.disk=jV1 d ((comL r j.sealed).take k)) (hst:j.steps=(comL r j.sealed).drop k)
 | homing (d : Dsk) (k : Nat) (hd : j.down = false) (hw : j.work = 2) (hu : UpI j d j.ring j.used) (hn : NowI j (j.last + 1)) (hs : j.sealed = j2_ 0) (hp : j.pending = j.done.length) (ha : j.after = ⟨j.ring.head, 0⟩)
     (hk:k<(checkL (newestL j.done) j.ring.head (j.last+1)).length) (hdk:j.disk=jV1 d ((checkL (newestL j.done) j.ring.head (j.last+1)).take k)) (hst:j.steps=(checkL (newestL j.done) j.ring.head (j.last+1)).drop k) (hne:j.done.length≠0)
 |off (hj:j={jY0 j.disk j.last j.acts with down:=true}) (hu:DnI j.disk j.last)
 | rising (d : Dsk) (k : Nat) (hj : j = { jY0 j.disk j.last j.acts with down := true, found := scanF d, work := 3, steps := (checkL (newestL (scanF d).txns) (scanF d).at_ (scanF d).next).drop k }) (hu : DnI d j.last)
     (hk:k<(checkL (newestL (scanF d).txns) (scanF d).at_ (scanF d).next).length) (hdk:j.disk=jV1 d ((checkL (newestL (scanF d).txns) (scanF d).at_ (scanF d).next).take k))
theorem UpI.congr{j j':Jn}{d:Dsk}{r:Ring}{us:List Int}(h:UpI j d r us)(e1:j'.done=j.done)(e2:j'.last=j.last):UpI j' d r us:=by
 obtain⟨a,b,c,d,e,f⟩:=h;exact⟨by rw[e1,e2];exact a,b,c,d,by rw[e1];exact e,by rw[e2];exact f⟩
theorem InvJ.acts{j:Jn}(h:InvJ j)(n:Int):InvJ {j with acts:=n}:=by
 cases h with
 |idle hd hw hu hn hs=>exact .idle hd hw (hu.congr rfl rfl) ⟨hn.1,hn.2⟩ hs
 |sealing d r us k hd hw hu hn he hq hq2 hr hus hk hdk hst=>exact .sealing d r us k hd hw (hu.congr rfl rfl) ⟨hn.1,hn.2⟩ he hq hq2 hr hus hk hdk hst
 |homing d k hd hw hu hn hs hp ha hk hdk hst hne=>exact .homing d k hd hw (hu.congr rfl rfl) ⟨hn.1,hn.2⟩ hs hp ha hk hdk hst hne
 |off hj hu=>exact .off (by dsimp only;rw[hj];rfl) hu
 |rising d k hj hu hk hdk=>exact .rising d k (by dsimp only;rw[hj];rfl) hu hk hdk
theorem jc1{q:Int}(h:1<=q/\q<=2147483647):goodT (j2_ q)=true:=
 j92.2 ⟨h,rfl,rfl,rfl,⟨(fun b hb=>⟨rfl,rfl⟩),(fun b hb=>rfl)⟩,(show hOk jW1=true from ae),(show hOk jW1=true from ae),(show hOk jW1=true from ae)⟩
theorem kW2{j:Jn}(a:Aj)(hg:goodT j.now=true):goodT (jK0 j a)=true:=by
 unfold jK0
 split
 ·exact kK9 hg
 split
 ·exact kM0 hg
 split
 ·exact kJ3 hg
 split
 ·exact kI4 hg
 ·exact kE5 hg
theorem kK1(j:Jn)(a:Aj):(jK0 j a).seq=j.now.seq:=by
 unfold jK0
 split
 ·unfold begT;split
  ·exact(jZ2 _ _ _).1
  ·rfl
 split
 ·unfold stopT;split
  ·exact(jZ2 _ _ _).1
  ·rfl
 split
 ·unfold jC1;split
  ·exact(jJ1 _ _ _).1
  ·rfl
 split
 ·unfold jr7;split<;>rfl
 ·unfold jp6;split
  ·exact(jJ1 _ _ _).1
  ·rfl
theorem NowI.alt{j:Jn}{q:Int}(h:NowI j q)(a:Aj){j':Jn}(e:j'.now=jK0 j a):NowI j' q:=⟨by rw[e];exact kW2 a h.good,by rw[e,kK1];exact h.seq⟩
theorem jq1{j:Jn}(a:Aj)(hd:j.down=false)(h:InvJ j):InvJ (j98 j a).1:=by
 unfold j98
 split
 ·cases h with
  |idle hd hw hu hn hs=>exact .idle hd hw (hu.congr rfl rfl) (hn.alt a rfl) hs
  |sealing d r us k hd hw hu hn he hq hq2 hr hus hk hdk hst=>exact .sealing d r us k hd hw (hu.congr rfl rfl) (hn.alt a rfl) he hq hq2 hr hus hk hdk hst
  |homing d k hd hw hu hn hs hp ha hk hdk hst hne=>exact .homing d k hd hw (hu.congr rfl rfl) (hn.alt a rfl) hs hp ha hk hdk hst hne
  |off hj hu=>rw[hj] at hd;cases hd
  |rising d k hj hu hk hdk=>rw[hj] at hd;cases hd
 ·exact h
theorem kz0{r:Ring}{t:Txn}(he:comE r t=0):0<(comL r t).length:=by rw[jU0 he];simp
theorem jq2{j:Jn}(hd:j.down=false)(h:InvJ j):InvJ (j82 j).1:=by
 unfold j82
 split
 ·exact h
 rename_i h1
 split
 ·exact h
 split
 ·exact h
 rename_i h2
 split
 ·exact h
 rename_i h3;have hw0:j.work=0:=jL fun hh=>h1 (.inl hh);have h3':comE j.ring j.now=0:=jL h3
 cases h with
 |idle hd hw hu hn hs=>
  refine .sealing j.disk j.ring j.used 0 hd rfl (hu.congr rfl rfl) ⟨?_,?_⟩ h3' hn.seq (by show j.now.seq<_;omega) rfl rfl (kz0 h3') rfl rfl
  ·have g:=(j92.1 hn.good).seq;exact jc1 (q:=j.now.seq+1) aa
  ·show j.now.seq+1=j.last+2;rw[hn.seq];omega
 |sealing d r us k hd hw=>rw[hw] at hw0;cases hw0
 |homing d k hd hw=>rw[hw] at hw0;cases hw0
 |off hj hu=>rw[hj] at hd;cases hd
 |rising d k hj hu hk hdk=>rw[hj] at hd;cases hd
theorem kI6{r:Ring}(hg:goodR r=true):giveR r r.used=⟨r.head,0⟩:=by
 have h:=(j71 r).1 hg;have e:giveE r r.used=0:=by unfold giveE;rw[ii (by rw[hg];simp;omega)]
 unfold giveR;rw[ij e,Int.sub_self]
theorem jg2{j:Jn}(hd:j.down=false)(h:InvJ j):InvJ (j37 j).1:=by
 unfold j37
 split
 ·exact h
 rename_i h1
 split
 ·exact h
 rename_i hne;have hw0:j.work=0:=jL h1
 cases h with
 |idle hd hw hu hn hs=>
  have hb:=hu.log.bounds
  have g:=j96 hu.log.goods
  refine .homing j.disk 0 hd rfl (hu.congr rfl rfl) ⟨hn.1,hn.2⟩ hs rfl ?_ ?_ rfl rfl hne
  ·show giveR j.ring j.used.sum=_;rw[hu.sum];exact kI6 hu.ring
  ·show 0<(checkL (newestL j.done) j.ring.head (j.last+1)).length;rw[(jV9 g hb.1 hb.2.1).2];simp
 |sealing d r us k hd hw=>rw[hw] at hw0;cases hw0
 |homing d k hd hw=>rw[hw] at hw0;cases hw0
 |off hj hu=>rw[hj] at hd;cases hd
 |rising d k hj hu hk hdk=>rw[hj] at hd;cases hd
theorem DnI.scan{d:Dsk}{n:Int}(h:DnI d n):scanE d=0/\(∀t∈(scanF d).txns,goodT t=true)/\checkE (newestL (scanF d).txns) (scanF d).at_ (scanF d).next=0/\0<(checkL (newestL (scanF d).txns) (scanF d).at_ (scanF d).next).length/\(scanF d).txns.length<=25:=by
 obtain⟨⟨txs,q,a,u,hl,_⟩,_⟩:=h;obtain⟨b1,b2⟩:=j31 hl.scan;have g:=j96 hl.goods2;obtain⟨e1,e2⟩:=jV9 g b1 b2;exact⟨hl.scan,hl.goods2,e1,by rw[e2];simp,jp7 d⟩
theorem jg1{j:Jn}(h:InvJ j):InvJ (j36 j).1:=by
 unfold j36
 split
 ·exact h
 rename_i h1
 have hdn:j.down=true:=by
  cases hh:j.down with
  |true=>rfl
  |false=>exact absurd (.inl hh) h1
 have hw0:j.work=0:=jL fun hh=>h1 (.inr hh)
 cases h with
 |idle hd=>rw[hd] at hdn;cases hdn
 |sealing d r us k hd=>rw[hd] at hdn;cases hdn
 |homing d k hd=>rw[hd] at hdn;cases hdn
 |off hj hu=>
  obtain⟨e1,e2,e3,e4,_⟩:=hu.scan
  rw[ii (by rw[e1];decide),ii (by rw[e3];decide)]
  refine .rising j.disk 0 ?_ hu e4 rfl
  dsimp only
  conv=>lhs;rw[hj]
  rfl
 |rising d k hj hu hk hdk=>rw[hj] at hw0;cases hw0
theorem DnI.crash{d:Dsk}{n x:Int}(h:DnI d n)(hc:crashE d x=0):DnI (crashD d x) n:=by
 obtain⟨⟨txs,q,a,u,hl,h2⟩,h3⟩:=h;exact⟨⟨txs,q,a,u,hl.keep (Left.crash hc),h2⟩,h3⟩
theorem DnI.chk{d c:Dsk}{n:Int}{k:Nat}(h:DnI d n)(hk:k<=(checkL (newestL (scanF d).txns) (scanF d).at_ (scanF d).next).length)(hl:Left (jV1 d ((checkL (newestL (scanF d).txns) (scanF d).at_ (scanF d).next).take k)) c):DnI c n:=by
 obtain⟨⟨txs,q,a,u,hL,h2⟩,h3⟩:=h;rw[hL.found] at hk hl;dsimp only at hk hl;rw[jw_] at hk hl;rcases hL.chk hk hl with ⟨h1,_⟩|⟨h1,_⟩
 ·exact⟨⟨_,_,_,_,h1,h2⟩,h3⟩
 ·exact⟨⟨_,_,_,_,h1,h2⟩,h3⟩
theorem jg3{j:Jn}(x:Int)(h:InvJ j):InvJ (j15 j x).1:=by
 unfold j15
 split
 ·rename_i hc
  have key:DnI (crashD j.disk x) j.last:=by
   cases h with
   |idle hd hw hu hn hs=>exact⟨⟨_,_,_,_,hu.log.keep (Left.crash hc),aa,dI⟩,hu.last.1⟩
   |sealing d r us k hd hw hu hn he hq hq2 hr hus hk hdk hst=>
    have hl:=Left.crash hc
    rw[hdk] at hl
    have hg:=(j71 r).1 hu.ring
    rcases hu.log.com he rfl aa hq aa (Nat.le_of_lt hk) hl with ⟨h1,_⟩|⟨h1,_⟩
    ·rw[<-hdk] at h1;exact⟨⟨_,_,_,_,h1,aa,aa⟩,hu.last.1⟩
    ·rw[<-hdk] at h1;exact⟨⟨_,_,_,_,h1,aa,aa⟩,hu.last.1⟩
   |homing d k hd hw hu hn hs hp ha hk hdk hst hne=>
    have hl:=Left.crash hc
    rw[hdk] at hl
    rcases hu.log.chk (Nat.le_of_lt hk) hl with ⟨h1,_⟩|⟨h1,_⟩
    ·rw[<-hdk] at h1;exact⟨⟨_,_,_,_,h1,aa,dI⟩,hu.last.1⟩
    ·rw[<-hdk] at h1;exact⟨⟨_,_,_,_,h1,aa,dI⟩,hu.last.1⟩
   |off hj hu=>exact hu.crash hc
   |rising d k hj hu hk hdk=>
    have hl:=Left.crash hc
    rw[hdk] at hl
    rw[hdk]
    exact hu.chk (Nat.le_of_lt hk) hl
  exact .off rfl key
 ·exact h
theorem jF1{d D : Dsk}{L r : List Stp}{s : Stp}{k : Nat}(hg : goodD d = true)(hw : d.writes = [])(ho : ∀ x ∈ L, jP2 x)(hlen : L.length <= 150)(hk : k < L.length)(hD : D = jV1 d (L.take k))(hst : s :: r = L.drop k) :jF0 D s=0/\jV2 D s=jV1 d (L.take (k+1))/\r=L.drop (k+1):=by
 rw[jx hk] at hst;obtain⟨rfl,rfl⟩:=List.cons.inj hst;subst hD;refine⟨?_,?_,rfl⟩
 ·have hx:L.take k++L[k]::L.drop (k+1)=L:=by rw[<-jx hk,ji]
  exact kE4 (r:=L.drop (k+1)) hg (by rw[hx];exact ho) (by rw[hx,hw,iC];omega)
 ·rw[it hk,j27];rfl
theorem jo9{α:Type}{L:List α}{k:Nat}(hk:k<L.length):∃s r,L.drop k=s::r:=⟨_,_,jx hk⟩
theorem jz9{j:Jn}(h:InvJ j)(hw:j.work≠0):∃s r,j.steps=s::r/\jF0 j.disk s=0:=by
 cases h with
 |idle hd hw0=>exact absurd hw0 hw
 |sealing d r us k hd hw hu hn he hq hq2 hr hus hk hdk hst=>
  obtain⟨s,rr,e⟩:=jo9 hk
  obtain⟨ho,hlen⟩:=jA0 he
  exact⟨s,rr,hst.trans e,(jF1 (r:=rr) hu.log.good hu.log.clean ho aa hk hdk e.symm).1⟩
 |homing d k hd hw hu hn hs hp ha hk hdk hst hne=>
  obtain⟨s,rr,e⟩:=jo9 hk
  have hb:=hu.log.bounds
  obtain⟨ho,hlen⟩:=jR1 (j96 hu.log.goods) hb.1 hb.2.1
  exact⟨s,rr,hst.trans e,(jF1 (r:=rr) hu.log.good hu.log.clean ho aa hk hdk e.symm).1⟩
 |off hj hu=>rw[hj] at hw;exact absurd rfl hw
 |rising d k hj hu hk hdk=>
  obtain⟨s,rr,e⟩:=jo9 hk
  obtain⟨⟨txs,q,a,u,hL,h2⟩,h3⟩:=hu
  obtain⟨b1,b2⟩:=j31 hL.scan
  obtain⟨ho,hlen⟩:=jR1 (j96 hL.goods2) b1 b2
  exact⟨s,rr,by rw[hj];exact e,(jF1 (r:=rr) hL.good hL.clean ho aa hk hdk e.symm).1⟩
theorem jA_{r:Ring}{t:Txn}(he:comE r t=0):goodR (comR r t)=true/\r.used<=(comR r t).used:=by
 obtain⟨g1,g,g3,g4,g5,g6⟩:=j21 he;have hb:=jV8 g
 have hR:comR r t=⟨(r.head+comN t)%24,r.used+comN t⟩:=by
  exact gX
 rw[hR];refine⟨(j71 _).2 ?_,?_⟩
 ·dsimp only;omega
 ·dsimp only;omega
theorem fD{A:Prop}(h:A:=by
 rw[hr0] at e3;have:=congrArg List.length e3;rw[iX,iC] at this;omega):A:=h
theorem k53{j:Jn}(h:InvJ j):InvJ (jR5 j).1:=by
 by_cases hw0:j.work=0
 ·unfold jR5;rw[ij hw0];exact h
 obtain⟨s,r,hs,he⟩:=jz9 h hw0;unfold jR5;rw[ii hw0,hs];dsimp only;rw[ii (by rw[he];decide)]
 cases h with
 |idle hd hw=>exact absurd hw hw0
 |off hj hu=>rw[hj] at hw0;exact absurd rfl hw0
 |sealing d rg us k hd hw hu hn hc hq hq2 hr hus hk hdk hst=>
  obtain⟨ho,hlen⟩:=jA0 hc
  obtain⟨_,e2,e3⟩:=jF1 hu.log.good hu.log.clean ho aa hk hdk (hs.symm.trans hst)
  by_cases hr0:r=[]
  ·rw[ij hr0]
   have hk1:k+1=(comL rg j.sealed).length:=by
    exact fD
   unfold kX7;dsimp only;rw[ij hw];dsimp only;have hg:=(j71 rg).1 hu.ring;have hl:=hu.log.com_end hc rfl aa hq aa;obtain⟨c1,c2⟩:=jA_ hc;rw[hk1,iY] at e2;refine .idle hd rfl ⟨?_,?_,?_,?_,?_,?_⟩ ⟨hn.1,?_⟩ rfl
   ·dsimp only;rw[e2,hr,hq];exact hl
   ·dsimp only;rw[hr];exact c1
   ·dsimp only;rw[hus,List.sum_append];simp[hu.sum];omega
   ·dsimp only;rw[hus,hr];intro x hx;rcases iK.1 hx with hx|hx
    ·exact hu.pos x hx
    ·obtain rfl:=iI.1 hx;omega
   ·dsimp only;rw[hus,il,il,hu.len];rfl
   ·dsimp only;have:=hu.last;omega
   ·dsimp only;have:=hn.seq;omega
  ·rw[ii hr0]
   have hk1:k+1<(comL rg j.sealed).length:=by
    rcases Nat.lt_or_ge (k+1) (comL rg j.sealed).length with h|h
    ·exact h
    ·rw[kJ h] at e3;exact absurd e3 hr0
   exact .sealing d rg us (k+1) hd hw (hu.congr rfl rfl) ⟨hn.1,hn.2⟩ hc hq hq2 hr hus hk1 e2 e3
 |homing d k hd hw hu hn hse hp ha hk hdk hst hne=>
  have hb:=hu.log.bounds
  obtain⟨ho,hlen⟩:=jR1 (j96 hu.log.goods) hb.1 hb.2.1
  obtain⟨_,e2,e3⟩:=jF1 hu.log.good hu.log.clean ho aa hk hdk (hs.symm.trans hst)
  by_cases hr0:r=[]
  ·rw[ij hr0]
   have hk1:k+1=(checkL (newestL j.done) j.ring.head (j.last+1)).length:=by
    exact fD
   unfold kX7;dsimp only;rw[ii (by rw[hw];decide),ij hw];dsimp only;rw[hk1,iY] at e2;have hdr:j.done.drop j.pending.toNat=[]:=cU;have hur:j.used.drop j.pending.toNat=[]:=by rw[hp,Int.toNat_natCast,<-hu.len,lC]
   refine .idle hd rfl ⟨?_,?_,?_,?_,?_,hu.last⟩ ⟨hn.1,hn.2⟩ hse
   ·dsimp only;rw[e2,hdr,ha];exact hu.log.chk_end
   ·dsimp only;rw[ha];exact(j71 _).2 ⟨hb.1.1,hb.1.2,Int.le_refl 0,(show(0:Int)<=24 from ae)⟩
   ·dsimp only;rw[hur,ha];rfl
   ·dsimp only;rw[hur];intro x hx;cases hx
   ·dsimp only;rw[hur,hdr];rfl
  ·rw[ii hr0]
   have hk1:k+1<(checkL (newestL j.done) j.ring.head (j.last+1)).length:=by
    rcases Nat.lt_or_ge (k+1) (checkL (newestL j.done) j.ring.head (j.last+1)).length with h|h
    ·exact h
    ·rw[kJ h] at e3;exact absurd e3 hr0
   exact .homing d (k+1) hd hw (hu.congr rfl rfl) ⟨hn.1,hn.2⟩ hse hp ha hk1 e2 e3 hne
 |rising d k hj hu hk hdk=>
  obtain⟨⟨txs,q,a,u,hL,h2⟩,h3⟩:=hu
  obtain⟨b1,b2⟩:=j31 hL.scan
  obtain⟨ho,hlen⟩:=jR1 (j96 hL.goods2) b1 b2
  have hst:j.steps=(checkL (newestL (scanF d).txns) (scanF d).at_ (scanF d).next).drop k:=by rw[hj]
  obtain⟨_,e2,e3⟩:=jF1 hL.good hL.clean ho aa hk hdk (hs.symm.trans hst)
  by_cases hr0:r=[]
  ·rw[ij hr0]
   have hk1:k+1=(checkL (newestL (scanF d).txns) (scanF d).at_ (scanF d).next).length:=by
    exact fD
   have hwk:j.work=3:=by rw[hj]
   have hfd:j.found=scanF d:=by rw[hj]
   unfold kX7;dsimp only;rw[ii (by rw[hwk];decide),ii (by rw[hwk];decide),ij hwk];dsimp only;rw[hk1,iY] at e2;unfold kE0;dsimp only;rw[hfd,e2];have hf:=hL.found;rw[hf];dsimp only;rw[jw_];rw[hf] at b1 b2;refine .idle rfl rfl ⟨?_,?_,rfl,(fun x hx=>cI),rfl,?_⟩ ⟨jc1 b2,?_⟩ rfl
   ·show LogI _ [] (q-1+1) a 0;rw[show q-1+1=q from aa];exact hL.chk_end
   ·exact(j71 _).2 ⟨b1.1,b1.2,Int.le_refl 0,(show(0:Int)<=24 from ae)⟩
   ·show 0<=q-1/\q-1+1<=2147483646;dsimp only at b2;omega
   ·show q=q-1+1;omega
  ·rw[ii hr0]
   have hk1:k+1<(checkL (newestL (scanF d).txns) (scanF d).at_ (scanF d).next).length:=by
    rcases Nat.lt_or_ge (k+1) (checkL (newestL (scanF d).txns) (scanF d).at_ (scanF d).next).length with h|h
    ·exact h
    ·rw[kJ h] at e3;exact absurd e3 hr0
   refine .rising d (k+1) ?_ ⟨⟨txs,q,a,u,hL,h2⟩,h3⟩ hk1 e2;dsimp only;rw[e3]
   conv=>lhs;rw[hj]
   rfl
theorem kS8:InvJ newJ:=by
 have hz:∀s∈List.replicate 37 (fit ⟨#[]⟩),jN1 s=true:=fun s hs=>by
  rw[List.eq_of_mem_replicate hs];unfold jN1;rw[jn1];rfl
 have hg0:goodD j54=true:=(j81 _).2 ⟨by simp[j54],ae,by rw[ja];exact hz,rfl⟩;have hm:=j46 (jX6 (q:=1) (a:=0) ae ae);have hp:putE j54 0 (markS (j86 1 0))=0:=jB0 hg0 ae hm.2.2 ae;have hg1:=jS3 hp;have hg:=jX2 hg1
 have hr0:readD jJ_ 0=markS (j86 1 0):=by
  have:=jU2 hg1 (k:=0) ae;rw[Int.natCast_zero] at this;exact this.trans (jm8 hp)
 have hr:∀i:Nat,i<24->readD jJ_ (1+(i:Int))=fit ⟨#[]⟩:=fun i hi=>by
  have:=jU2 hg1 (k:=1+i) aa;have e:((1+i:Nat):Int)=1+(i:Int):=aa;rw[e] at this;refine this.trans ?_;rw[jf5 hp aa,<-e,jW3 hg0 aa];show lastT ((List.replicate 37 (fit ⟨#[]⟩)).getD (1+i) ⟨#[]⟩) _ []=_;rw[jK8,iR,kY,ij aa];rfl
 have hd0:¬decE (fit ⟨#[]⟩)=0:=ae
 have hn:jL0 jJ_ 1:=fun i hi x hx hc=>by
  rw[hr i hi] at hc;exact hd0 hc.1
 obtain⟨e1,e2,e3⟩:=jd3 (q:=1) (a:=0) hg ae ae hr0 hn;exact .idle rfl rfl ⟨⟨hg,j00 hg1,e1,e2,e3,hn,fun t ht=>by cases ht⟩,ae,rfl,(fun x hx=>cI),rfl,ae⟩ ⟨ae,rfl⟩ rfl
theorem jx0(l:List Txn):(newestL l).length<=12:=by
 unfold newestL j05 viewN;exact i3 (lW _ _) ag
def SzI(j:Jn):Prop:=j.found.txns.length<=25/\j.steps.length<=100
theorem k88{l:List Int}(h:∀x∈l,0<=x)(k:Nat):0<=(l.take k).sum/\(l.take k).sum<=l.sum:=by
 induction l generalizing k with
 |nil=>simp
 |cons x l ih=>
  have h1:=h x (.head _)
  have h2:=fun k=>ih (fun y hy=>h y (.tail _ hy)) k
  cases k with
  |zero=>
   have:=h2 0
   rw[List.take_zero,List.sum_nil] at this
   rw[List.take_zero,List.sum_nil,List.sum_cons];omega
  |succ k=>
   have:=h2 k
   rw[List.take_succ_cons,List.sum_cons,List.sum_cons];omega
theorem kE9{l:List Int}{k:Nat}(hk:k<l.length):(l.take (k+1)).sum=(l.take k).sum+l[k]:=by rw[it hk,List.sum_append];simp
theorem InvJ.up{j:Jn}(h:InvJ j)(hw:j.work=0)(hn:j.down=false\/j.done.length≠0):UpI j j.disk j.ring j.used/\NowI j (j.last+1)/\j.sealed=j2_ 0/\j.down=false:=by
 cases h with
 |idle hd hw hu hn hs=>exact⟨hu,hn,hs,hd⟩
 |sealing d r us k hd hw0=>rw[hw0] at hw;cases hw
 |homing d k hd hw0=>rw[hw0] at hw;cases hw
 |off hj hu=>
  rcases hn with hn|hn
  ·rw[hj] at hn;cases hn
  ·rw[hj] at hn;exact absurd rfl hn
 |rising d k hj=>rw[hj] at hw;cases hw
theorem k54{j:Jn}(h:InvJ j)(hw:j.work≠0):j.work=1\/(j.work=2/\j.pending=j.done.length/\j.used.length=j.done.length/\j.done.length≠0)\/(j.work=3/\(∀t∈j.found.txns,goodT t=true)/\(1<=j.found.next/\j.found.next<=2147483647)):=by
 cases h with
 |idle hd hw0=>exact absurd hw0 hw
 |sealing d r us k hd hw0=>exact .inl hw0
 |homing d k hd hw0 hu hn hs hp ha hk hdk hst hne=>exact .inr (.inl ⟨hw0,hp,hu.len,hne⟩)
 |off hj hu=>rw[hj] at hw;exact absurd rfl hw
 |rising d k hj hu hk hdk=>
  obtain⟨⟨txs,q,a,u,hL,h2⟩,h3⟩:=hu
  have hf:j.found=scanF d:=by rw[hj]
  rw[hf]
  exact .inr (.inr ⟨by rw[hj],hL.goods2,(j31 hL.scan).2⟩)
theorem k5_{α:Type}{f:α->List Value}{c:Nat}(hf:∀x,(f x).length=c):∀(l:List α) (k:Nat) (hk:k<l.length) (y:α) (i:Nat) (u:Value),i<c->f y=(f l[k]).set i u->(l.set k y).flatMap f=(l.flatMap f).set (k*c+i) u
 | [],k,hk,_,_,_,_,_=>by simp at hk
 |x::l,0,_,y,i,u,hi,hy=>by
  simp only[List.getElem_cons_zero] at hy;rw[List.set_cons_zero,jj,jj,hy,kq,jm,List.set_append_left _ _ (by rw[hf];exact hi)]
 |x::l,k+1,hk,y,i,u,hi,hy=>by
  rw[List.set_cons_succ,jj,jj,k5_ hf l k dD y i u hi (by simpa using hy),mr _ _ (by rw[hf,ju];omega)];congr 2;rw[hf,ju];omega
theorem Own.poke{α : Type}{f : α -> List Value}{base : Nat}{e : TypeId}{c : Nat}(hF : Flat f c){w : World}{v : Value}{l : List α}(h : Own f base e c w v l){k : Nat}(hk : k < l.length) :∃ g cap, v = .slice (some ⟨g, 0, none⟩) l.length cap /\ base <= g /\ g < w.heap.size /\ (∀ i, i < c -> w.frozen? ⟨g, k * c + i, none⟩ = false /\ w.cell? ⟨g, k * c + i, none⟩ = (f l[k])[i]?) /\∀i y u,i<c->f y=(f l[k]).set i u->Own f base e c (w.setCell ⟨g,k*c+i,none⟩ u) v (l.set k y):=by
 have hr:=h.reads;obtain⟨h1,h2⟩:=h;rcases h2 with ⟨rfl,h0⟩|⟨g,cap,cur,rfl,hb,hg,hn,hc,hs,ht⟩
 ·rw[h0] at h1;have hl:=j95 hF.len l;rw[h0] at hk;omega
 ·refine⟨g,cap,rfl,hb,(jq.1 hg).1,fun i hi=>⟨Blk.free (cs:=cur) hg _,?_⟩,fun i y u hi hy=>?_⟩
  ·have hlt:i<(f l[k]).length:=by rw[hF.len];exact hi
   have:=jn2 hF.len l k l[k] (by simp[hk]) i (f l[k])[i] (by simp[hlt]);rw[<-ht,jB] at this
   split at this
   ·rw[Blk.cell (cs:=cur) hg,ix hlt];simpa using this
   ·simp at this
  ·have hb2:=Blk.set (cs:=cur) hg (k*c+i) u;refine⟨j95 hF.len _,.inr ⟨g,cap,cur.setIfInBounds (k*c+i) u,ag,hb,hb2,dN,hc,by simpa using hs,?_⟩⟩;rw[k5_ hF.len l k hk y i u hi hy,<-ht];simp only[List.length_set,lG];rw[List.take_set]
section
variable{P:Program}
theorem kY2(w : World)(dT sT ty elem : TypeId)(c : Nat)(b o dLen dCap : Nat)(a : Addr)(sLen sCap : Nat)(cs : List Value)(hu:P.underlying dT=some (.slice elem)) (hs:(P.info? elem).map (·.size)=some c) (hn:cs.length=Nat.min sLen dLen*c)(hsrc:∀j v,cs[j]? =some v->w.cell? (a.add j)=some v) (hc:∀j,j<cs.length->(w.cell? ⟨b,o+j,none⟩).isSome=true) (hf:∀j,j<cs.length->w.frozen? ⟨b,o+j,none⟩=false) (h1:∀v∈cs,v.oneCell'=true):(Builtin.copy_ #[dT,sT] ty #[.slice (some ⟨b,o,none⟩) dLen dCap,.slice (some a) sLen sCap]).run P w=.ok (goInt (Nat.min sLen dLen:Nat)) (w.setCells b o cs):=by
 have hl:=run_loadCells_list (P:=P) w a cs hsrc;have hst:=run_storeCells_cells (P:=P) b o cs 0 w (by simpa using hc) (by simpa using hf) h1;rw[Nat.add_zero] at hst
 cases hq:P.info? elem with
 |none=>simp[hq] at hs
 |some i=>
  have hi:i.size=c:=by simpa [hq] using hs
  simp[Builtin.copy_,jR hu,Builtin.lenOf,Builtin.firstCells,Go.sizeOf,typeInfo,hq,hi,<-hn,hl,hst]
theorem jv1(w : World)(t e ty : TypeId)(z : Value)(ht : P.underlying t = some (.slice e))(hv : ∀ w, (zeroValue e).run P w = .ok z w)(h1 : ∀ u ∈ z.cells, u.oneCell' = true)(h0 : 0 < z.cells.size)(b o n c : Nat)(hn : 0 < n)(hc:∀j,j<n*z.cells.size->(w.cell? ⟨b,o+j,none⟩).isSome=true) (hf:∀j,j<n*z.cells.size->w.frozen? ⟨b,o+j,none⟩=false):(Builtin.clear_ #[t] ty #[.slice (some ⟨b,o,none⟩) n c]).run P w=.ok (.tuple #[]) (w.setCells b o (Builtin.zeroCells z.cells n).toList):=by
 have hl:(Builtin.zeroCells z.cells n).toList.length=n*z.cells.size:=by rw[Array.length_toList,lB]
 have hst:=run_storeCells_cells (P:=P) b o (Builtin.zeroCells z.cells n).toList 0 w (by rw[hl];simpa using hc) (by rw[hl];simpa using hf) (by
  intro v hv';simp only[Builtin.zeroCells,Array.toList_map,jg] at hv';obtain⟨i,_,rfl⟩:=hv';have hlt:i%z.cells.size<z.cells.size:=l_ _ h0;rw[getElem!_pos z.cells _ hlt];exact h1 _ (Array.getElem_mem hlt))
 simp only[Nat.add_zero] at hst;obtain⟨m,rfl⟩:∃m,n=m+1:=⟨n-1,aa⟩;simp[Builtin.clear_,jR ht,hv,hst]
end
theorem Blk.sets{t:TypeId}{b:Nat}:∀(vs:List Value) (o:Nat) (w:World) (cur:Array Value),Blk w b cur t->o+vs.length<=cur.size->Blk (w.setCells b o vs) b (cur.toList.take o++vs++cur.toList.drop (o+vs.length)).toArray t
 | [],o,w,cur,h,_=>by simpa [World.setCells] using h
 |v::r,o,w,cur,h,hl=>by
  have h2:=Blk.sets r (o+1) (w.setCell ⟨b,o,none⟩ v) _ (h.set o v) (by simp at hl⊢;omega);have e:=list_seg_step cur.toList o v r (by simp at hl⊢;omega);rw[World.setCells];rw[lG] at h2;rw[e] at h2;exact h2
theorem Below.sets{B:Nat}{w:World}(b:Nat)(hb:B<=b):∀(vs:List Value) (o:Nat) (w':World),Below B w w'->Below B w (w'.setCells b o vs)
 | [],_,_,h=>h
 |v::r,o,w',h=>Below.sets b hb r (o+1) _ (h.setCell hb v)
theorem kl0{t:TypeId}{b g:Nat}{cur:Array Value}(hne:g≠b):∀(vs:List Value) (o:Nat) (w:World),Blk w g cur t->Blk (w.setCells b o vs) g cur t
 | [],_,_,h=>h
 |v::r,o,w,h=>kl0 hne r (o+1) _ (h.set_other _ v hne)
theorem km3{α : Type}(L : List α)(a : Nat)(X D : List α)(h : a + X.length + D.length <= L.length) :(L.take (a+X.length)++D++L.drop (a+X.length+D.length)).take a++X++(L.take (a+X.length)++D++L.drop (a+X.length+D.length)).drop (a+X.length)=L.take a++X++D++L.drop (a+X.length+D.length):=by
 have h1:(L.take (a+X.length)).length=a+X.length:=aX;rw[iE (L.take (a+X.length)),jU aa,l9,jf aa,List.drop_append_of_le_length aa,kJ aa];simp
theorem km4{α : Type}(L : List α)(a : Nat)(X D : List α)(h : a + X.length + D.length <= L.length) :(L.take a++X++L.drop (a+X.length)).take (a+X.length)++D++(L.take a++X++L.drop (a+X.length)).drop (a+X.length+D.length)=L.take a++X++D++L.drop (a+X.length+D.length):=by
 have h1:(L.take a++X).length=a+X.length:=by rw[il,iA];omega
 rw[jU aa,iV aa]
 have h2:(L.take a++X++L.drop (a+X.length)).drop (a+X.length+D.length)=L.drop (a+X.length+D.length):=by
  rw[List.drop_append,kJ aa,iw,h1,kg];congr 1;omega
 rw[h2]
section
variable{α:Type}{f:α->List Value}{base:Nat}{e:TypeId}{c:Nat}{w w':World}{v:Value}{l:List α}
theorem kk1{g cap:Nat}{cur:Array Value}(hF:Flat f c)(hb:base<=g)(hk:Blk w g cur e)(hn:l.length<=cap)(hc:cap<=maxLen)(hs:cur.size=cap*c)(ht:cur.toList.take (l.length*c)=l.flatMap f):Own f base e c w (.slice (some ⟨g,0,none⟩) l.length cap) l:=
 ⟨j95 hF.len l,.inr ⟨g,cap,cur,rfl,hb,hk,hn,hc,hs,ht⟩⟩
theorem Own.row(h:Own f base e c w v l)(h0:0<l.length):∃g cap cur,v=.slice (some ⟨g,0,none⟩) l.length cap/\base<=g/\Blk w g cur e/\l.length<=cap/\cap<=maxLen/\cur.size=cap*c/\cur.toList.take (l.length*c)=l.flatMap f:=by
 obtain⟨h1,h2⟩:=h;rcases h2 with ⟨rfl,h3⟩|⟨g,cap,cur,rfl,hb,hg,hn,hc,hs,ht⟩
 ·omega
 ·exact⟨g,cap,cur,rfl,hb,hg,hn,hc,hs,ht⟩
theorem Own.belowGrown{v:Value}(h:Own f base e c w v l)(hbase:base<=w.heap.size)(hg:w.grownBy w' v.ownBlock):Below base w w':=
 (jW base w).grown hg hbase (fun k hk=>(jE h k hk).1)
end
end Wb