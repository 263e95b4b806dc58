/- Parts of the proof. -/
import Derived.Test.YtlecmdajpfkaeaaGreatDoorKJournalRuns1
set_option linter.unusedVariables false
set_option linter.unusedSimpArgs false
set_option maxRecDepth 100000
set_option maxHeartbeats 40000000
namespace Wb
open Go Go.RowKit
def isEsc(s:ByteArray):Bool:=decide (s.data.toList.take 4=magic)
def escS(s:ByteArray):ByteArray:=if isEsc s then str ([0,0,0,0]++s.data.toList.drop 4) else s
def unescS(s:ByteArray)(e:Bool):ByteArray:=if e=true/\4<=s.size then str (magic++s.data.toList.drop 4) else s
theorem k76(s:ByteArray):s.data.toList.length=s.size:=du
theorem jy_{s:ByteArray}(h:isEsc s=true):4<=s.size:=by
 have h:=iF h;have:=congrArg List.length h;rw[iA,k76] at this;have h4:magic.length=4:=rfl;omega
theorem k_0{s:ByteArray}(h:s.size<4):isEsc s=false:=by
 cases hb:isEsc s
 ·rfl
 ·exact absurd (jy_ hb) aa
def bt(s:ByteArray)(i:Nat):UInt8:=s.data.toList.getD i 0
theorem jr1(s:ByteArray)(i:Nat)(h:i<s.size):s[i]=bt s i:=by
 have h':i<s.data.toList.length:=by simpa using h
 simp[bt,iR,ix h'];rfl
def nb(s:ByteArray)(i:Nat):Int:=((bt s i).toNat:Int)
theorem j_1(s:ByteArray)(i:Nat):0<=nb s i:=Int.natCast_nonneg _
theorem j64(s:ByteArray)(i:Nat):nb s i<256:=by have:=(bt s i).toNat_lt;unfold nb;omega
theorem jT4(s:ByteArray)(i:Nat):j67 (nb s i)=bt s i:=by
 apply UInt8.toNat_inj.1;have h:=j41 (nb s i);rw[Int.emod_eq_of_lt (j_1 s i) (j64 s i)] at h;unfold nb at h⊢;omega
def seqOf(s:ByteArray):Int:=nb s 5*16777216+nb s 6*65536+nb s 7*256+nb s 8
def jd9(s:ByteArray)(i:Nat):Tag:=⟨nb s (10+2*i),decide (nb s (11+2*i)=1)⟩
def rawTags(s:ByteArray)(n:Nat):List Tag:=(List.range n).map (jd9 s)
def rawBlks(s:ByteArray)(n:Nat):List Int:=(List.range n).map (fun i=>nb s (10+i))
theorem jE_(s:ByteArray)(n:Nat):rawTags s (n+1)=rawTags s n++ [jd9 s n]:=by simp[rawTags,kE]
theorem jF9(s:ByteArray)(n:Nat):rawBlks s (n+1)=rawBlks s n++ [nb s (10+n)]:=by simp[rawBlks,kE]
theorem j5_(s:ByteArray)(n:Nat):(rawTags s n).length=n:=by simp[rawTags]
theorem j69(s:ByteArray)(n:Nat):(rawBlks s n).length=n:=by simp[rawBlks]
def cnt(s:ByteArray):Nat:=(bt s 9).toNat
def rawM(s:ByteArray):Mrk:=
 ⟨nb s 4,seqOf s,if nb s 4=1 then nb s 9 else 0,if nb s 4=2 then rawTags s (min (cnt s) 11) else [],if nb s 4=3 then rawBlks s (min (cnt s) 22) else []⟩
def okS(s:ByteArray):Prop:=s.size=32/\s.data.toList.take 4=magic
instance(s:ByteArray):Decidable (okS s):=by unfold okS;infer_instance
def j0_(s:ByteArray):Prop:=okS s/\markE (rawM s)=0/\str (jS2 (rawM s))=s
instance(s:ByteArray):Decidable (j0_ s):=by unfold j0_;infer_instance
def kp8:Mrk:=⟨0,0,0,[],[]⟩
def decM(s:ByteArray):Mrk:=if j0_ s then rawM s else kp8
def decE(s:ByteArray):Int:=if j0_ s then 0 else 1
theorem jh_(l:List UInt8)(i:Nat)(h:i<32):(k64 l).getD i 0=l.getD i 0:=by
 unfold k64;simp only[iR];by_cases hl:i<l.length
 ·rw[i8 aX,jB,ij h]
 ·rw[jb aX,kY,kN aa]
  split<;>rfl
theorem kt1(l:List UInt8)(i:Nat):bt (str l) i=l.getD i 0:=by simp[bt,str]
theorem kU7(m:Mrk)(s:ByteArray):str (jS2 m)=s↔s.size=32/\ ∀i,i<32->bt s i=(headL m++jV0 m).getD i 0:=by
 constructor
 ·rintro rfl;refine⟨by rw[jV6,jy6],fun i hi=>?_⟩;rw[kt1,jS2,jh_ _ _ hi]
 ·rintro⟨h1,h2⟩;have hl:s.data.toList.length=32:=b_
  have:s.data.toList=jS2 m:=by
   refine ku (by rw[hl,jy6]) fun i h3 h4=>?_;have h5:=h2 i aa;rw[<-jh_ _ _ (by omega:i<32)] at h5;simp only[bt,iR,ix h3] at h5;unfold jS2;unfold jS2 at h4;rw[ix h4] at h5;simpa using h5
  rw[<-this,jO6]
theorem jn5(m:Mrk):(headL m).length=9:=rfl
theorem jz8(m:Mrk)(j:Nat):(headL m++jV0 m).getD (9+j) 0=(jV0 m).getD j 0:=by
 simp only[iR];rw[jb (by rw[jn5];omega),jn5,jw]
theorem jh6(m:Mrk)(j:Nat)(h:j<9):(headL m++jV0 m).getD j 0=(headL m).getD j 0:=by
 simp only[iR];rw[i8 (by rw[jn5];omega)]
theorem jP3(tags:List Tag):∀i,(tags.flatMap jD8).getD (2*i) 0=(match tags[i]? with|some t=>j67 t.block|none=>0)/\(tags.flatMap jD8).getD (2*i+1) 0=(match tags[i]? with|some t=>if t.esc then 1 else 0|none=>0):=by
 induction tags with
 |nil=>intro i;simp
 |cons t ts ih=>
  intro i
  cases i with
  |zero=>simp[jD8]
  |succ i=>
   have:=ih i
   simp only[jj,List.getElem?_cons_succ]
   rw[show 2*(i+1)=(2*i)+2 from aa,show 2*i+2+1=(2*i+1)+2 from aa]
   simpa [jD8] using this
theorem fp{A:Prop}(h:A:=by
 have a6:=j_1 s 6;have b6:=j64 s 6;have a7:=j_1 s 7;have b7:=j64 s 7;have a8:=j_1 s 8;have b8:=j64 s 8;unfold seqOf;omega):A:=h
theorem kI8(s:ByteArray)(h:okS s)(j:Nat)(hj:j<9):(headL (rawM s)).getD j 0=bt s j:=by
 obtain⟨h1,h2⟩:=h
 have hm:∀k,k<4->bt s k=magic.getD k 0:=by
  intro k hk;rw[<-h2];simp only[bt,iR,jB,ij hk]
 have e5:j67 ((rawM s).seq/16777216)=bt s 5:=by
  rw[<-jT4];congr 1;show seqOf s/16777216=nb s 5;exact fp
 have bm:∀(n k:Int),j67 (n+256*k)=j67 n:=fun n k=>by unfold j67;rw[Int.add_mul_emod_self_left]
 have e6:j67 ((rawM s).seq/65536)=bt s 6:=by
  rw[<-jT4,<-bm (nb s 6) (nb s 5)];congr 1;show seqOf s/65536=nb s 6+256*nb s 5;exact fp
 have e7:j67 ((rawM s).seq/256)=bt s 7:=by
  rw[<-jT4,<-bm (nb s 7) (nb s 6+256*nb s 5)];congr 1;show seqOf s/256=nb s 7+256*(nb s 6+256*nb s 5);exact fp
 have e8:j67 ((rawM s).seq)=bt s 8:=by
  rw[<-jT4,<-bm (nb s 8) (nb s 7+256*(nb s 6+256*nb s 5))];congr 1;show seqOf s=nb s 8+256*(nb s 7+256*(nb s 6+256*nb s 5));unfold seqOf;omega
 have e4:j67 ((rawM s).kind)=bt s 4:=jT4 s 4
 match j,hj with
 |0,_=>exact(hm 0 ae).symm
 |1,_=>exact(hm 1 ae).symm
 |2,_=>exact(hm 2 ae).symm
 |3,_=>exact(hm 3 ae).symm
 |4,_=>exact e4
 |5,_=>exact e5
 |6,_=>exact e6
 |7,_=>exact e7
 |8,_=>exact e8
theorem kO2(s:ByteArray)(h:okS s):str (jS2 (rawM s))=s↔ ∀j,j<23->bt s (9+j)=(jV0 (rawM s)).getD j 0:=by
 rw[kU7];constructor
 ·rintro⟨_,h2⟩ j hj;rw[h2 _ aa,jz8]
 ·intro h2;refine⟨h.1,fun i hi=>?_⟩;by_cases h9:i<9
  ·rw[jh6 _ _ h9,kI8 s h i h9]
  ·obtain⟨j,rfl⟩:∃j,i=9+j:=⟨i-9,aa⟩;rw[jz8,h2 j aa]
theorem jX0{n:Int}(h0:0<=n)(h1:n<256):((j67 n).toNat:Int)=n:=by rw[j41,Int.emod_eq_of_lt h0 h1]
theorem kA5{m:Mrk}(h:m.kind=1):jV0 m=[j67 m.at_]:=by unfold jV0;rw[ij h]
theorem kV_{m:Mrk}(h:m.kind=2):jV0 m=j67 m.tags.length::m.tags.flatMap jD8:=by unfold jV0;rw[ii aa,ij h];rfl
theorem kJ_{m:Mrk}(h:m.kind=3):jV0 m=j67 m.blocks.length::m.blocks.map j67:=by unfold jV0;rw[ii aa,ii aa,ij h];rfl
theorem kt_{m:Mrk}(h1:m.kind≠1)(h2:m.kind≠2)(h3:m.kind≠3):jV0 m=[]:=by unfold jV0;rw[ii h1,ii h2,ii h3]
def endOf(s:ByteArray):Nat:=if nb s 4=1 then 10 else if nb s 4=2 then 10+2*cnt s else if nb s 4=3 then 10+cnt s else 9
def jz3(s:ByteArray):Prop:=cnt s<=10/\ ∀i,i<cnt s->nb s (11+2*i)<=1
def kn2(s:ByteArray):Prop:=okS s/\(nb s 4=2->jz3 s)/\(nb s 4=3->cnt s<=20)/\markE (rawM s)=0/\ ∀i,endOf s<=i->i<32->bt s i=0
theorem ji2(s:ByteArray):(cnt s:Int)=nb s 9:=rfl
theorem k79(s:ByteArray):j67 (cnt s:Int)=bt s 9:=jT4 s 9
theorem kt0{s:ByteArray}{i:Nat}(h:nb s i<=1):bt s i=if nb s i=1 then 1 else 0:=by
 have h0:=j_1 s i;apply UInt8.toNat_inj.1;unfold nb at*
 split<;>simp<;>omega
theorem kA6{s:ByteArray}{i:Nat}{b:Bool}(h:bt s i=if b then 1 else 0):nb s i<=1:=by
 unfold nb;rw[h];cases b<;>simp
theorem jL2(s:ByteArray){n i:Nat}(h:i<n):(rawTags s n)[i]? =some (jd9 s i):=by simp[rawTags,h]
theorem jw3(s:ByteArray){n i:Nat}(h:¬i<n):(rawTags s n)[i]? =none:=by simp[rawTags];omega
theorem kI3(k:Nat):∃i,k=2*i\/k=2*i+1:=⟨k/2,aa⟩
theorem kG3{m:Mrk}(h:markE m=0):m.tags.length<=10/\m.blocks.length<=20:=by
 obtain⟨_,_,_,h4⟩:=jU6 h;unfold j44 at h4;omega
theorem ks0(s:ByteArray):9<=endOf s:=by
 unfold endOf
 repeat(split<;>first|omega|skip)
theorem ku_(s:ByteArray):kn2 s↔j0_ s:=by
 constructor
 ·rintro⟨hok,hf,hb,hE,hz⟩;refine⟨hok,hE,(kO2 s hok).2 fun j hj=>?_⟩;by_cases k1:nb s 4=1
  ·rw[kA5 (m:=rawM s) k1,show(rawM s).at_=nb s 9 by simp[rawM,k1],jT4]
   cases j with
   |zero=>rfl
   |succ j=>rw[hz _ (by simp[endOf,k1];omega) aa];rfl
  ·by_cases k2:nb s 4=2
   ·obtain⟨h10,hfl⟩:=hf k2;have ht:(rawM s).tags=rawTags s (cnt s):=by simp[rawM,k2];rw[jf aa]
    have he:endOf s=10+2*cnt s:=by simp[endOf,k2]
    rw[kV_ (m:=rawM s) k2,ht,j5_]
    cases j with
    |zero=>exact(k79 s).symm
    |succ j=>
     simp only[kW]
     obtain⟨i,rfl|rfl⟩:=kI3 j
     ·rw[(jP3 _ i).1];by_cases hi:i<cnt s
      ·rw[jL2 s hi];show _=j67 (nb s (10+2*i));rw[jT4];congr 1;omega
      ·rw[jw3 s hi];exact hz _ aa aa
     ·rw[(jP3 _ i).2];by_cases hi:i<cnt s
      ·rw[jL2 s hi];show _=if decide (nb s (11+2*i)=1)=true then(1:UInt8) else 0;rw[show 9+(2*i+1+1)=11+2*i from aa,kt0 (hfl i hi)];simp
      ·rw[jw3 s hi];exact hz _ aa aa
   ·by_cases k3:nb s 4=3
    ·have h20:=hb k3;have hbl:(rawM s).blocks=rawBlks s (cnt s):=by simp[rawM,k3];rw[jf aa]
     have he:endOf s=10+cnt s:=by simp[endOf,k3]
     rw[kJ_ (m:=rawM s) k3,hbl,j69]
     cases j with
     |zero=>exact(k79 s).symm
     |succ j=>
      simp only[kW]
      by_cases hi:j<cnt s
      ·simp[rawBlks,iR,hi,jT4];congr 1;omega
      ·rw[hz _ aa aa];simp[rawBlks,iR,hi]
    ·rw[kt_ (m:=rawM s) k1 k2 k3];rw[hz _ (by simp[endOf,k1,k2,k3]) aa];rfl
 ·rintro⟨hok,hE,hs⟩;have hj:=(kO2 s hok).1 hs;have hlen:=kG3 hE;refine⟨hok,fun k2=>?_,fun k3=>?_,hE,fun i hi h32=>?_⟩
  ·have ht:(rawM s).tags=rawTags s (min (cnt s) 11):=by simp[rawM,k2]
   have hle:min (cnt s) 11<=10:=by have:=hlen.1;rw[ht,j5_] at this;exact this
   have h10:cnt s<=10:=aa;rw[jf aa] at ht;refine⟨h10,fun i hi=>?_⟩;have h1:=hj (2+2*i) aa;rw[kV_ (m:=rawM s) k2,ht,show 2+2*i=(2*i+1)+1 from aa,kW,(jP3 _ i).2,jL2 s hi,show 9+(2*i+1+1)=11+2*i from aa] at h1;exact kA6 h1
  ·have hbl:(rawM s).blocks=rawBlks s (min (cnt s) 22):=by simp[rawM,k3]
   have:=hlen.2;rw[hbl,j69] at this;omega
  ·obtain⟨j,rfl⟩:∃j,i=9+j:=⟨i-9,by have h9:9<=endOf s:=ks0 s;omega⟩;rw[hj j aa]
   have key:(jV0 (rawM s)).length<=j:=by
    unfold endOf at hi;by_cases k1:nb s 4=1
    ·rw[ij k1] at hi;rw[kA5 (m:=rawM s) k1];simp;omega
    ·rw[ii k1] at hi;by_cases k2:nb s 4=2
     ·rw[ij k2] at hi;rw[kV_ (m:=rawM s) k2,show(rawM s).tags=rawTags s (min (cnt s) 11) by simp[rawM,k2],iB,jI1,j5_];omega
     ·rw[ii k2] at hi;by_cases k3:nb s 4=3
      ·rw[ij k3] at hi;rw[kJ_ (m:=rawM s) k3,show(rawM s).blocks=rawBlks s (min (cnt s) 22) by simp[rawM,k3],iB,iZ,j69];omega
      ·rw[ii k3] at hi;rw[kt_ (m:=rawM s) k1 k2 k3];simp
   simp only[iR];rw[kN key];rfl
theorem kT9{m:Mrk}(h:markE m=0):rise (m.tags.map (·.block))=true/\rise m.blocks=true:=by
 obtain⟨h1,h2,h3,h4⟩:=jU6 h;by_cases h5:j48 m
 ·rw[jH6 h1 h2 h3 h5] at h;exact absurd h ae
 ·unfold j48 at h5;constructor
  ·by_cases hh:rise (m.tags.map (·.block))=false
   ·exact absurd (.inl hh) h5
   ·simpa using hh
  ·by_cases hh:rise m.blocks=false
   ·exact absurd (.inr hh) h5
   ·simpa using hh
theorem kN_{l:List Int}(h:rise l=true){k:Nat}(hk:k<l.length):0<=l[k]/\l[k]<12:=by
 have:=(jY9 l).1 h k hk;unfold j61 at this;rw[show l.getD k 0=l[k] by simp[hk]] at this;exact⟨this.1,this.2.1⟩
theorem kv9{m:Mrk}(h:markE m=0):okS (str (jS2 m))/\rawM (str (jS2 m))=m:=by
 obtain⟨g1,g2,g3,g4⟩:=jU6 h;obtain⟨r1,r2⟩:=kT9 h;have hb:=((kU7 m (str (jS2 m))).1 rfl);generalize str (jS2 m)=s at hb;obtain⟨hsz,hb⟩:=hb;have hh:∀j,j<9->bt s j=(headL m).getD j 0:=fun j hj=>by rw[hb j aa,jh6 _ _ hj]
 have hbd:∀j,j<23->bt s (9+j)=(jV0 m).getD j 0:=fun j hj=>by rw[hb _ aa,jz8]
 obtain⟨kind,seq,at_,tags,blocks⟩:=m;unfold j97 j78 j88 j44 at*;dsimp only at*;have n4:nb s 4=kind:=by unfold nb;rw[hh 4 ae];exact jX0 (n:=kind) aa aa
 have n5:nb s 5=(seq/16777216)%256:=by unfold nb;rw[hh 5 ae];exact j41 _
 have n6:nb s 6=(seq/65536)%256:=by unfold nb;rw[hh 6 ae];exact j41 _
 have n7:nb s 7=(seq/256)%256:=by unfold nb;rw[hh 7 ae];exact j41 _
 have n8:nb s 8=seq%256:=by unfold nb;rw[hh 8 ae];exact j41 _
 have hseq:seqOf s=seq:=by unfold seqOf;rw[n5,n6,n7,n8];omega
 have hl:s.data.toList.length=32:=by simpa using hsz
 refine⟨⟨hsz,?_⟩,?_⟩
 ·refine ku (by simp[hl,magic]) fun i h3 h4=>?_;have hi:i<4:=h4;have h5:=hh i aa;simp only[bt,iR,ix (show i<s.data.toList.length from aa)] at h5;rw[kR]
  rw[show((headL ⟨kind,seq,at_,tags,blocks⟩)[i]?).getD 0=magic[i]'h4 by
   simp only[headL];rw[i8 (by exact h4),ix h4];rfl] at h5
  simpa using h5
 ·unfold rawM;rw[n4,hseq];simp only[Mrk.mk.injEq,jF];by_cases k1:kind=1
  ·have h9:=hbd 0 ae;rw[kA5 (m:=⟨kind,seq,at_,tags,blocks⟩) k1] at h9;have:nb s 9=at_:=by unfold nb;rw[h9];exact jX0 (n:=at_) aa aa
   rw[ij k1,ii aa,ii aa];exact⟨this,(j_ aa).symm,(j_ aa).symm⟩
  ·rw[ii k1];refine⟨aa,?_,?_⟩
   ·by_cases k2:kind=2
    ·rw[ij k2];have h9:=hbd 0 ae;rw[kV_ (m:=⟨kind,seq,at_,tags,blocks⟩) k2] at h9
     have hc:cnt s=tags.length:=by
      have:((bt s 9).toNat:Int)=tags.length:=by rw[h9];exact jX0 (n:=tags.length) aa aa
      unfold cnt;omega
     rw[hc,jf aa];refine ku (j5_ _ _) fun i h3 h4=>?_;have e1:=hbd (2*i+1) aa;have e2:=hbd (2*i+1+1) aa;rw[kV_ (m:=⟨kind,seq,at_,tags,blocks⟩) k2,kW] at e1 e2;rw[(jP3 _ i).1] at e1;rw[(jP3 _ i).2] at e2;simp only[ix h4] at e1 e2;have hr:=kN_ r1 (k:=i) (by simpa using h4);simp only[kv] at hr;have f1:nb s (10+2*i)=tags[i].block:=by unfold nb;rw[show 10+2*i=9+(2*i+1) from aa,e1];exact jX0 aa aa
     have f2:decide (nb s (11+2*i)=1)=tags[i].esc:=by
      unfold nb;rw[show 11+2*i=9+(2*i+1+1) from aa,e2]
      cases tags[i].esc<;>simp
     simp only[rawTags,kv,lg,jd9,f1,f2]
    ·rw[ii k2];exact(j_ aa).symm
   ·by_cases k3:kind=3
    ·rw[ij k3];have h9:=hbd 0 ae;rw[kJ_ (m:=⟨kind,seq,at_,tags,blocks⟩) k3] at h9
     have hc:cnt s=blocks.length:=by
      have:((bt s 9).toNat:Int)=blocks.length:=by rw[h9];exact jX0 (n:=blocks.length) aa aa
      unfold cnt;omega
     rw[hc,jf aa];refine ku (j69 _ _) fun i h3 h4=>?_;have e1:=hbd (i+1) aa;rw[kJ_ (m:=⟨kind,seq,at_,tags,blocks⟩) k3,kW] at e1;have hr:=kN_ r2 (k:=i) h4
     have f1:nb s (10+i)=blocks[i]:=by
      unfold nb;rw[show 10+i=9+(i+1) from aa,e1];simp only[iR,jQ,ix h4,Option.map_some,Option.getD_some];exact jX0 aa aa
     simp only[rawBlks,kv,lg,f1]
    ·rw[ii k3];exact(j_ aa).symm
theorem jQ_{s:ByteArray}(h:j0_ s):decM s=rawM s/\decE s=0/\markE (rawM s)=0/\markS (rawM s)=s:=
 ⟨ij h,ij h,h.2.1,by unfold markS;rw[ij h.2.1];exact h.2.2⟩
theorem jN9{s:ByteArray}(h:¬j0_ s):decM s=kp8/\decE s=1:=⟨ii h,ii h⟩
theorem jo5{s:ByteArray}(h:¬j0_ s)(hs:okS s):markE (rawM s)≠0\/markE (rawM s)=0/\markS (rawM s)≠s:=by
 by_cases h1:markE (rawM s)=0
 ·refine .inr ⟨h1,fun h2=>h ⟨hs,h1,?_⟩⟩;unfold markS at h2;rwa [ij h1] at h2
 ·exact .inl h1
theorem kq5{s:ByteArray}(h:nb s 4=1):rawM s=⟨1,seqOf s,nb s 9,[],[]⟩:=by simp[rawM,h]
theorem kq6{s:ByteArray}(h:nb s 4=2):rawM s=⟨2,seqOf s,0,rawTags s (min (cnt s) 11),[]⟩:=by simp[rawM,h]
theorem kq7{s:ByteArray}(h:nb s 4=3):rawM s=⟨3,seqOf s,0,[],rawBlks s (min (cnt s) 22)⟩:=by simp[rawM,h]
theorem kq8{s:ByteArray}(h1:nb s 4≠1)(h2:nb s 4≠2)(h3:nb s 4≠3):rawM s=⟨nb s 4,seqOf s,0,[],[]⟩:=by simp[rawM,h1,h2,h3]
theorem kU3{m:Mrk}(h:markE m=0):j0_ (str (jS2 m))/\decM (str (jS2 m))=m/\decE (str (jS2 m))=0:=by
 obtain⟨h1,h2⟩:=kv9 h;have:j0_ (str (jS2 m)):=⟨h1,by rw[h2];exact h,by rw[h2]⟩;exact⟨this,by unfold decM;rw[ij this,h2],by unfold decE;rw[ij this]⟩
def j_8:List Tag->List ByteArray->List Cpy->Option (List Cpy×List ByteArray)
 | [],r,mt=>some (mt,r)
 |_::_,[],_=>none
 |g::gs,s::r,mt=>j_8 gs r (mt++ [⟨g.block,unescS s g.esc⟩])
def j_6(seq:Int):Nat->List ByteArray->Txn->Option (Txn×List ByteArray)
 |0,_,_=>none
 |_+1,[],_=>none
 |n+1,s::r,t=>
  if decE s=0/\(decM s).seq=seq then
   if(decM s).kind=4 then some (t,r)
   else if(decM s).kind=3 then j_6 seq n r {t with rev:=t.rev++(decM s).blocks}
   else if(decM s).kind=2 then
    match j_8 (decM s).tags r t.mt with
    |some (mt,r')=>j_6 seq n r' {t with mt:=mt}
    |none=>none
   else none
  else none
theorem jE6{gs:List Tag}{r r':List ByteArray}{mt mt':List Cpy}(h:j_8 gs r mt=some (mt',r')):r'.length+gs.length=r.length/\mt'.length=mt.length+gs.length:=by
 induction gs generalizing r mt with
 |nil=>
  simp only[j_8,iO,ks] at h
  obtain⟨rfl,rfl⟩:=h
  exact⟨rfl,rfl⟩
 |cons g gs ih=>
  cases r with
  |nil=>cases h
  |cons s r=>
   have:=ih h
   simp only[iB,il,iC] at this⊢
   omega
theorem jU7{seq:Int}{n:Nat}{r r':List ByteArray}{t t':Txn}(h:j_6 seq n r t=some (t',r')):r'.length<r.length:=by
 induction n generalizing r t with
 |zero=>cases h
 |succ n ih=>
  cases r with
  |nil=>cases h
  |cons s r=>
   unfold j_6 at h
   by_cases h1:decE s=0/\(decM s).seq=seq
   ·rw[ij h1] at h;by_cases h2:(decM s).kind=4
    ·rw[ij h2] at h;simp only[iO,ks] at h;rw[<-h.2];exact Nat.lt_succ_self _
    ·rw[ii h2] at h;by_cases h3:(decM s).kind=3
     ·rw[ij h3] at h;have:=ih h;simp only[iB];omega
     ·rw[ii h3] at h;by_cases h4:(decM s).kind=2
      ·rw[ij h4] at h
       cases hm:j_8 (decM s).tags r t.mt with
       |none=>rw[hm] at h;cases h
       |some p=>
        obtain⟨mt,r2⟩:=p
        rw[hm] at h
        have h5:=jE6 hm
        have:=ih h
        simp only[iB];omega
      ·rw[ii h4] at h;cases h
   ·rw[ii h1] at h;cases h
theorem j02{seq:Int}{n m:Nat}{r:List ByteArray}{t:Txn}(hn:r.length<n)(hm:r.length<m):j_6 seq n r t=j_6 seq m r t:=by
 induction n generalizing m r t with
 |zero=>omega
 |succ n ih=>
  cases m with
  |zero=>omega
  |succ m=>
   cases r with
   |nil=>rfl
   |cons s r=>
    simp only[iB] at hn hm
    unfold j_6
    split
    ·split
     ·rfl
     ·split
      ·exact ih aa aa
      ·split
       ·cases hk:j_8 (decM s).tags r t.mt with
        |none=>rfl
        |some p=>
         have h5:=jE6 hk
         exact ih aa aa
       ·rfl
    ·rfl
structure Fnd where
 txns:List Txn
 next:Int
 at_:Int
def j8_:Nat->List ByteArray->Int->List Txn×Int×List ByteArray
 |0,r,n=>([],n,r)
 |k+1,r,n=>
  if n<2147483647 then
   match j_6 n 25 r (j2_ n) with
   |some (t,r')=>(t::(j8_ k r' (n+1)).1,(j8_ k r' (n+1)).2)
   |none=>([],n,r)
  else([],n,r)
def logL(d:Dsk)(a:Int):List ByteArray:=(List.range 24).map fun(i:Nat)=>readD d (1+(a+(i:Int))%24)
theorem j13(d:Dsk)(a:Int):(logL d a).length=24:=by simp[logL]
def scanE(d:Dsk):Int:=if readE d 0=0 then(if decE (readD d 0)=0/\(decM (readD d 0)).kind=1 then 0 else 1) else 2
def scanF(d:Dsk):Fnd:=
 if scanE d=0 then
  ⟨(j8_ 25 (logL d (decM (readD d 0)).at_) (decM (readD d 0)).seq).1,(j8_ 25 (logL d (decM (readD d 0)).at_) (decM (readD d 0)).seq).2.1,((decM (readD d 0)).at_+(24-((j8_ 25 (logL d (decM (readD d 0)).at_) (decM (readD d 0)).seq).2.2.length:Int)))%24⟩
 else⟨[],0,0⟩
def sfx(d:Dsk)(A:Int)(r:List ByteArray):Prop:=r=(logL d A).drop (24-r.length)/\r.length<=24
theorem kN9(d:Dsk)(A:Int):sfx d A (logL d A):=by
 unfold sfx;rw[j13];exact⟨rfl,iy _⟩
theorem jO4{d:Dsk}{A:Int}{s:ByteArray}{r:List ByteArray}(h:sfx d A (s::r)):sfx d A r/\readD d (1+(A+(24-((r.length+1:Nat):Int)))%24)=s/\r.length<24:=by
 obtain⟨h1,h2⟩:=h;simp only[iB] at h1 h2;have hlt:24-(r.length+1)<(logL d A).length:=by rw[j13];omega
 rw[jx hlt] at h1;simp only[jh] at h1;refine⟨⟨?_,aa⟩,?_,aa⟩
 ·have:=h1.2;rw[show 24-(r.length+1)+1=24-r.length from aa] at this;exact this
 ·rw[h1.1];simp only[logL,kv,lg];congr 3;omega
theorem jA5{s:ByteArray}(h:decE s=0):(decM s).tags.length<=10/\(decM s).blocks.length<=20/\0<=(decM s).at_/\(decM s).at_<24/\1<=(decM s).seq/\(decM s).seq<=2147483647:=by
 have hd:j0_ s:=by
  by_cases hd:j0_ s
  ·exact hd
  ·rw[(jN9 hd).2] at h;cases h
 obtain⟨e1,_,e2,_⟩:=jQ_ hd;rw[e1];generalize rawM s=m at*;have k1:¬j97 m:=fun hh=>by rw[j28 hh] at e2;cases e2
 have k2:¬j78 m:=fun hh=>by rw[jW2 k1 hh] at e2;cases e2
 have k3:¬j88 m:=fun hh=>by rw[jX3 k1 k2 hh] at e2;cases e2
 have k4:¬j44 m:=fun hh=>by rw[jK9 k1 k2 k3 hh] at e2;cases e2
 unfold j78 at k2;unfold j44 at k4;omega
theorem jq5(n:Int):∀(ws:List Wr) (s:ByteArray),s.size<=32->ws.all jD9=true->(lastT s n ws).size<=32
 | [],s,h,_=>h
 |x::ws,s,h,hw=>by
  simp only[List.all_cons,iD] at hw;have e:lastT s n (x::ws)=lastT (if x.at_=n then x.text else s) n ws:=rfl;rw[e];refine jq5 n ws _ ?_ hw.2
  split
  ·have:=hw.1;unfold jD9 at this;simp only[iD] at this;have:x.text.size=32:=iF this.2;omega
  ·exact h
theorem jG2(d:Dsk)(n:Int):(readD d n).size<=32:=by
 unfold readD
 split
 ·rename_i h;obtain⟨h1,h2,h3,h4⟩:=(j81 d).1 h.1;refine jq5 n _ _ ?_ h4;unfold jM3;rw[iR]
  cases hk:d.safe[n.toNat]? with
  |none=>exact iq _
  |some s=>
   have:=ja.1 h3 s (List.mem_of_getElem? hk)
   have:s.size=32:=iF this
   simp only[Option.getD_some]
   omega
 ·exact iq _
theorem jg7(d:Dsk)(A:Int):∀s∈logL d A,s.size<=9223372036854775807:=by
 intro s hs;unfold logL at hs;obtain⟨i,_,rfl⟩:=jg.1 hs;have:=jG2 d (1+(A+(i:Int))%24);omega
theorem kZ_(seq:Int)(n:Nat)(t:Txn):j_6 seq n [] t=none:=by cases n<;>rfl
theorem k83{n m:Nat}{r:List ByteArray}{x:Int}(hn:r.length<n)(hm:r.length<m):j8_ n r x=j8_ m r x:=by
 induction n generalizing m r x with
 |zero=>omega
 |succ n ih=>
  cases m with
  |zero=>omega
  |succ m=>
   unfold j8_
   split
   ·cases hp:j_6 x 25 r (j2_ x) with
    |none=>rfl
    |some p=>
     obtain⟨t,r'⟩:=p
     have hl:=jU7 hp
     have e:j8_ n r' (x+1)=j8_ m r' (x+1):=ih aa aa
     show(t::(j8_ n r' (x+1)).1,(j8_ n r' (x+1)).2)=(t::(j8_ m r' (x+1)).1,(j8_ m r' (x+1)).2)
     rw[e]
   ·rfl
theorem jp_{d:Dsk}{A:Int}{seq:Int}{n:Nat}{r r':List ByteArray}{t t':Txn}(h:j_6 seq n r t=some (t',r'))(hs:sfx d A r):sfx d A r':=by
 induction n generalizing r t with
 |zero=>cases h
 |succ n ih=>
  cases r with
  |nil=>cases h
  |cons s r=>
   obtain⟨h1,_,_⟩:=jO4 hs
   have key:∀(gs:List Tag) (r1 r2:List ByteArray) (m1 m2:List Cpy),j_8 gs r1 m1=some (m2,r2)->sfx d A r1->sfx d A r2:=by
    intro gs
    induction gs with
    |nil=>
     intro r1 r2 m1 m2 hh h5
     simp only[j_8,iO,ks] at hh
     rw[<-hh.2];exact h5
    |cons g gs ihg=>
     intro r1 r2 m1 m2 hh h5
     cases r1 with
     |nil=>cases hh
     |cons s1 r1=>exact ihg _ _ _ _ hh (jO4 h5).1
   unfold j_6 at h
   split at h
   ·split at h
    ·simp only[iO,ks] at h;rw[<-h.2];exact h1
    ·split at h
     ·exact ih h h1
     ·split at h
      ·cases hm:j_8 (decM s).tags r t.mt with
       |none=>rw[hm] at h;cases h
       |some p=>
        obtain⟨mt,r2⟩:=p
        rw[hm] at h
        exact ih h (key _ _ _ _ _ hm h1)
      ·cases h
   ·cases h
theorem kZ0{seq:Int}{n:Nat}{r r':List ByteArray}{t t':Txn}(h:j_6 seq n r t=some (t',r')):∀s∈r',s∈r:=by
 induction n generalizing r t with
 |zero=>cases h
 |succ n ih=>
  cases r with
  |nil=>cases h
  |cons s r=>
   have key:∀(gs:List Tag) (r1 r2:List ByteArray) (m1 m2:List Cpy),j_8 gs r1 m1=some (m2,r2)->∀s∈r2,s∈r1:=by
    intro gs
    induction gs with
    |nil=>
     intro r1 r2 m1 m2 hh s hs
     simp only[j_8,iO,ks] at hh
     rw[hh.2];exact hs
    |cons g gs ihg=>
     intro r1 r2 m1 m2 hh s hs
     cases r1 with
     |nil=>cases hh
     |cons s1 r1=>exact jH _ (ihg _ _ _ _ hh s hs)
   intro x hx
   unfold j_6 at h
   split at h
   ·split at h
    ·simp only[iO,ks] at h;rw[<-h.2] at hx;exact jH _ hx
    ·split at h
     ·exact jH _ (ih h x hx)
     ·split at h
      ·cases hm:j_8 (decM s).tags r t.mt with
       |none=>rw[hm] at h;cases h
       |some p=>
        obtain⟨mt,r2⟩:=p
        rw[hm] at h
        exact jH _ (key _ _ _ _ _ hm x (ih h x hx))
      ·cases h
   ·cases h
theorem jW6{r r' : List ByteArray}{x : Int}{t : Txn}(hx : x < 2147483647)(h : j_6 x 25 r (j2_ x) = some (t, r')) :(j8_ (r.length+1) r x).1=t::(j8_ (r'.length+1) r' (x+1)).1/\(j8_ (r.length+1) r x).2=(j8_ (r'.length+1) r' (x+1)).2:=by
 have hl:=jU7 h
 have e:j8_ (r.length+1) r x=(t::(j8_ r.length r' (x+1)).1,(j8_ r.length r' (x+1)).2):=by
  show(if x<2147483647 then _ else _)=_;rw[ij hx,h]
 rw[e,k83 (n:=r.length) (m:=r'.length+1) aa aa];exact⟨rfl,rfl⟩
theorem jL8{r:List ByteArray}{x:Int}(h:j_6 x 25 r (j2_ x)=none):j8_ (r.length+1) r x=([],x,r):=by
 show(if x<2147483647 then _ else _)=_
 split
 ·rw[h]
 ·rfl
theorem jL7{r:List ByteArray}{x:Int}(h:¬x<2147483647):j8_ (r.length+1) r x=([],x,r):=by
 show(if x<2147483647 then _ else _)=_;rw[ii h]
def flushL(s:List ByteArray)(ws:List Wr):List ByteArray:=ws.foldl (fun s x=>s.set x.at_.toNat x.text) s
theorem ja6(s:List ByteArray)(ws:List Wr){k:Nat}(hk:k<ws.length):flushL s (ws.take (k+1))=(flushL s (ws.take k)).set ws[k].at_.toNat ws[k].text:=by
 unfold flushL;rw[it hk,kj];rfl
theorem jX1(s:List ByteArray)(ws:List Wr):(flushL s ws).length=s.length:=by
 unfold flushL
 induction ws generalizing s with
 |nil=>rfl
 |cons x ws ih=>rw[List.foldl_cons,ih];simp
theorem jH2(s:List ByteArray)(ws:List Wr)(hw:ws.all jD9=true)(n:Nat)(hn:n<s.length):(flushL s ws)[n]? =some (lastT s[n] n ws):=by
 induction ws generalizing s with
 |nil=>simp[flushL,lastT,hn]
 |cons x ws ih=>
  rw[List.all_cons,iD] at hw
  have h0:0<=x.at_:=by
   have:=hw.1;simp only[jD9,iD,jR6,jY] at this;exact this.1.1
  have hx:=ih (s.set x.at_.toNat x.text) hw.2 dN
  simp only[flushL,lastT,List.foldl_cons] at hx⊢
  rw[hx,lD]
  by_cases h:x.at_=n
  ·rw[ij h,ij aa]
  ·rw[ii h,ii aa]
def j55(d:Dsk):Dsk:=if goodD d=true then⟨flushL d.safe d.writes,[]⟩ else d
def flushE(d:Dsk):Int:=if goodD d=true then 0 else 2
theorem kT7(s:List ByteArray)(ws:List Wr)(hw:ws.all jD9=true):s.mapIdx (fun n x=>lastT x n ws)=flushL s ws:=by
 refine mf fun n=>?_;by_cases hn:n<s.length
 ·rw[jH2 s ws hw n hn];simp[hn]
 ·rw[kN dN,kN (by rw[jX1];omega)]
theorem k_2{α β:Type}(f:Nat->α->β)(l:List α){k:Nat}(hk:k<l.length):(l.mapIdx f).take (k+1)=(l.mapIdx f).take k++ [f k l[k]]:=by
 rw[it dD];simp
theorem jJ4{d:Dsk}{n:Int}{t:ByteArray}(h:putE d n t=0):goodD d=true/\jR6 n=true/\t.size=32/\ ¬200<=d.writes.length:=by
 unfold putE at h;by_cases h1:goodD d=true/\jR6 n=true
 ·rw[ii (js h1)] at h;by_cases h2:t.size=32
  ·rw[ii (js h2)] at h;by_cases h3:200<=d.writes.length
   ·rw[ij h3] at h;simp at h
   ·exact⟨h1.1,h1.2,h2,h3⟩
  ·rw[ij h2] at h;simp at h
 ·rw[ij h1] at h;simp at h
theorem jB0{d:Dsk}{n:Int}{t:ByteArray}(hg:goodD d=true)(ha:jR6 n=true)(h32:t.size=32)(h200:¬200<=d.writes.length):putE d n t=0:=by
 unfold putE;rw[ii (js ⟨hg,ha⟩),ii (js h32),ii h200]
theorem jJ3{d:Dsk}{n:Int}{t:ByteArray}(h:putE d n t=0):putD d n t=⟨d.safe,d.writes++ [⟨n,t⟩]⟩:=by unfold putD;rw[ij h]
theorem jS3{d:Dsk}{n:Int}{t:ByteArray}(h:putE d n t=0):goodD (putD d n t)=true:=by
 obtain⟨hg,ha,h32,h200⟩:=jJ4 h;rw[jJ3 h];obtain⟨g1,g2,g3,g4⟩:=(j81 d).1 hg;refine(j81 _).2 ⟨g1,ah,g3,?_⟩;simp only[List.all_append,g4,List.all_cons,List.all_nil,jD9,ha,jN1,h32];decide
theorem jm8{d:Dsk}{n:Int}{t:ByteArray}(h:putE d n t=0):readD (putD d n t) n=t:=by
 obtain⟨hg,ha,h32,h200⟩:=jJ4 h;unfold readD;rw[ij ⟨jS3 h,ha⟩,jJ3 h,jO_,ij rfl]
theorem jf5{d:Dsk}{n m:Int}{t:ByteArray}(h:putE d n t=0)(hm:m≠n):readD (putD d n t) m=readD d m:=by
 obtain⟨hg,ha,h32,h200⟩:=jJ4 h;have hp:=jS3 h;unfold readD;rw[hp,hg,jJ3 h];simp only[jO_,jM3];rw[ii (fun hh:n=m=>hm hh.symm)]
def textsAt(d:Dsk)(k:Nat):List ByteArray:=afterL (d.safe.getD k ⟨#[]⟩) k d.writes
def drawAt(d:Dsk)(x:Nat):Nat->Nat
 |0=>x
 |k+1=>drawAt d x k/(textsAt d k).length
def crashAt(d:Dsk)(x k:Nat):ByteArray:=(textsAt d k).getD (drawAt d x k%(textsAt d k).length) ⟨#[]⟩
def crashL(d:Dsk)(x k:Nat):List ByteArray:=(List.range k).map (crashAt d x)
def mixL(d:Dsk)(x k:Nat):List ByteArray:=crashL d x k++d.safe.drop k
def crashE(d:Dsk)(draw:Int):Int:=if goodD d=true/\0<=draw then 0 else 2
def crashD(d:Dsk)(draw:Int):Dsk:=if goodD d=true/\0<=draw then⟨crashL d draw.toNat d.safe.length,[]⟩ else d
theorem jF4(d:Dsk){k:Nat}(hk:k<d.safe.length):textsAt d k=afterL d.safe[k] k d.writes:=by
 unfold textsAt;rw[iR,ix hk];rfl
theorem j04(d:Dsk)(k:Nat):0<(textsAt d k).length:=by simp[textsAt,afterL]
theorem jp9(d:Dsk)(k:Nat):(textsAt d k).length<=d.writes.length+1:=jV7 _ _ _
theorem ji7(d:Dsk)(x k:Nat):drawAt d x k<=x:=by
 induction k with
 |zero=>exact iy _
 |succ k ih=>exact i3 (Nat.div_le_self _ _) ih
theorem jA9(d:Dsk)(x k:Nat):drawAt d x (k+1)=drawAt d x k/(textsAt d k).length:=rfl
theorem jP7(d:Dsk)(x k:Nat):(crashL d x k).length=k:=by simp[crashL]
theorem jA4(d:Dsk)(x k:Nat):crashL d x (k+1)=crashL d x k++ [crashAt d x k]:=by simp[crashL,kE]
theorem kR7(d:Dsk)(x:Nat):mixL d x 0=d.safe:=by simp[mixL,crashL]
theorem kG1(d:Dsk)(x:Nat){k:Nat}(hk:k<=d.safe.length):(mixL d x k).length=d.safe.length:=by simp[mixL,crashL];omega
theorem kR6(d:Dsk)(x:Nat):mixL d x d.safe.length=crashL d x d.safe.length:=by simp[mixL]
theorem kG2(d:Dsk)(x:Nat){k:Nat}(hk:k<d.safe.length):(mixL d x k).set k (crashAt d x k)=mixL d x (k+1):=by
 unfold mixL;rw[mr _ _ (by rw[jP7];exact iy _),jP7,Nat.sub_self,jx hk,List.set_cons_zero,jA4,iE];rfl
theorem jA3(d:Dsk)(x k:Nat):crashAt d x k∈textsAt d k:=by
 unfold crashAt;rw[iR,ix (l_ _ (j04 d k))];exact iM _
theorem jA2(d:Dsk)(x k:Nat)(h:drawAt d x k%(textsAt d k).length<(textsAt d k).length):(textsAt d k)[drawAt d x k%(textsAt d k).length]=crashAt d x k:=by
 unfold crashAt;rw[iR,ix h];rfl
theorem k28{d:Dsk}(hg:goodD d=true){k:Nat}(hk:k<d.safe.length):∀t∈textsAt d k,jN1 t=true:=by
 obtain⟨g1,g2,g3,g4⟩:=(j81 d).1 hg;intro t ht;rw[jF4 d hk,afterL] at ht;rcases iS.1 ht with rfl|ht
 ·exact ja.1 g3 _ (iM hk)
 ·obtain⟨x,hx,rfl⟩:=jg.1 ht;have:=ja.1 g4 x (kn.1 hx).1;simp only[jD9,iD] at this;exact this.2
theorem jr5{d:Dsk}{draw:Int}(h:crashE d draw=0):goodD (crashD d draw)=true:=by
 have hc:goodD d=true/\0<=draw:=by
  unfold crashE at h;by_cases hh:goodD d=true/\0<=draw
  ·exact hh
  ·rw[ii hh] at h;cases h
 unfold crashD;rw[ij hc];obtain⟨g1,g2,g3,g4⟩:=(j81 d).1 hc.1;refine(j81 _).2 ⟨by simpa [crashL] using g1,ag,?_,rfl⟩;rw[ja];intro t ht;obtain⟨k,hk,rfl⟩:=jg.1 ht;exact k28 hc.1 (List.mem_range.1 hk) _ (jA3 d _ k)
theorem kE7{α:Type}{p:List α->Prop}(h0:p [])(h1:∀l x,p l->p (l++ [x]))(l:List α):p l:=by
 rw[<-List.reverse_reverse l]
 induction l.reverse with
 |nil=>exact h0
 |cons x r ih=>rw[List.reverse_cons];exact h1 _ _ ih
structure Stp where
 kind:Int
 at_:Int
 text:ByteArray
def jY3(x:Stp):List Value:=[.int .i64 x.kind,.int .i64 x.at_,.string x.text]
theorem j99:Flat jY3 3:=⟨fun _=>rfl,fun _ u hu=>by simp[jY3] at hu;rcases hu with rfl|rfl|rfl<;>rfl,ae⟩
def j_2:Stp:=⟨2,0,⟨#[]⟩⟩
def wrS(at_:Int)(s:ByteArray):Stp:=⟨1,at_,s⟩
def jZ4(c:Cpy):Tag:=⟨c.block,isEsc c.text⟩
def jL_(seq:Int)(r:List Int):Mrk:=⟨3,seq,0,[],r⟩
def jR4(seq:Int)(p:List Cpy):Mrk:=⟨2,seq,0,p.map jZ4,[]⟩
def jN_(seq:Int):Mrk:=⟨4,seq,0,[],[]⟩
def j86(seq a:Int):Mrk:=⟨1,seq,a,[],[]⟩
def j39(seq:Int)(p:List Cpy):List ByteArray:=if p=[] then [] else markS (jR4 seq p)::p.map (fun c=>escS c.text)
def ju5(seq:Int)(r:List Int):List ByteArray:=if r=[] then [] else [markS (jL_ seq r)]
def j_4(t:Txn):List ByteArray:=ju5 t.seq t.rev++(j39 t.seq (t.mt.take 10)++j39 t.seq (t.mt.drop 10))
def logT(t:Txn):List ByteArray:=j_4 t++ [markS (jN_ t.seq)]
def j12(t:Txn):List Stp:=t.dt.map (fun c=>wrS (25+c.block) c.text)++(if t.dt=[] then [] else [j_2])
def comN(t:Txn):Int:=jy9 t.mt.length t.rev.length
def comE(r:Ring)(t:Txn):Int:=if goodR r=false\/goodT t=false\/openB t=true then 2 else takeE r (comN t)
def comR(r:Ring)(t:Txn):Ring:=if comE r t=0 then jN6 r (comN t) else r
def atW(p:Int)(s:ByteArray):Stp:=wrS (1+p) s
def comL(r:Ring)(t:Txn):List Stp:=
 if comE r t=0 then
  j12 t++(List.zipWith atW (places r.head (j_4 t).length) (j_4 t)++((if j_4 t=[] then [] else [j_2])++ [atW ((r.head+(j_4 t).length)%24) (markS (jN_ t.seq)),j_2]))
 else []
theorem jU8(seq:Int)(p:List Cpy):(j39 seq p).length=if p=[] then 0 else p.length+1:=by
 unfold j39;split<;>simp
theorem fx{A:Prop}(h:A:=by
 by_cases c3:t.rev.length=0
 ·rw[ij (h3.2 c3)];simp;omega
 ·rw[ii (fun h=>c3 (h3.1 h))];simp;omega):A:=h
theorem jV8{t:Txn}(g:GoodT t):((j_4 t).length:Int)+1=comN t:=by
 obtain⟨a,_,b⟩:=jg5 g;have e:jD1 t.mt.length t.rev.length=0:=(jx_ g).2;unfold j_4 comN jy9;rw[ij e,il,il,jU8,jU8];unfold ju5 j75;have h1:(t.mt.take 10=[])↔t.mt.length=0:=by rw[<-i5,iA];omega
 have h2:(t.mt.drop 10=[])↔t.mt.length<=10:=by rw[<-i5,iX];omega
 have h3:(t.rev=[])↔t.rev.length=0:=i5.symm;by_cases c1:t.mt.length=0
 ·rw[ij (h1.2 c1),ij (h2.2 aa)];exact fx
 ·rw[ii (fun h=>c1 (h1.1 h))];by_cases c2:t.mt.length<=10
  ·rw[ij (h2.2 c2),iA];exact fx
  ·rw[ii (fun h=>c2 (h2.1 h)),iA,iX];exact fx
def goS(c:Cpy):Stp:=wrS (25+c.block) c.text
def jY_(l:List Cpy):List Stp:=l.map (fun c=>wrS (25+c.block) c.text)++(if l=[] then [] else [j_2])
def jT7(c:Cpy):Bool:=isBlk c.block&&jN1 c.text
def checkE(l:List Cpy)(a seq:Int):Int:=if markE (j86 seq a)≠0 then markE (j86 seq a) else if l.all jT7=true then 0 else 1
def checkL(l:List Cpy)(a seq:Int):List Stp:=if checkE l a seq=0 then jY_ l++ [wrS 0 (markS (j86 seq a)),j_2] else []
def jV2(d:Dsk)(s:Stp):Dsk:=if s.kind=2 then j55 d else putD d s.at_ s.text
def jF0(d:Dsk)(s:Stp):Int:=if s.kind=2 then flushE d else putE d s.at_ s.text
def jV1(d:Dsk)(l:List Stp):Dsk:=l.foldl jV2 d
theorem k21(d:Dsk):jV1 d []=d:=rfl
theorem jQ9(d:Dsk)(s:Stp)(l:List Stp):jV1 d (s::l)=jV1 (jV2 d s) l:=rfl
theorem j27(d:Dsk)(l m:List Stp):jV1 d (l++m)=jV1 (jV1 d l) m:=by simp[jV1]
theorem jV5(l:List Txn)(t:Txn)(b:Int):newestB (l++ [t]) b=match getC t.mt b with|some s=>some s|none=>if inI t.rev b then none else newestB l b:=jF8 l t b
theorem k_5{l:List Txn}(hg:∀t∈l,goodT t=true){b:Int}{s:ByteArray}(h:newestB l b=some s):s.size=32:=by
 revert hg h;refine kE7 (p:=fun l=>(∀t∈l,goodT t=true)->newestB l b=some s->s.size=32) (fun _ h=>dZ) (fun l t ih hg h=>?_) l
 ·rw[jV5] at h;have g:=j92.1 (hg t ag)
  cases h1:getC t.mt b with
  |some x=>
   rw[h1] at h
   simp only[iO] at h
   subst h
   exact(k50 g.mt h1).2
  |none=>
   rw[h1] at h
   simp only at h
   split at h
   ·cases h
   ·exact ih (fun x hx=>hg x bh) h
theorem j96{l:List Txn}(hg:∀t∈l,goodT t=true):copiesB (newestL l)=true:=
 jE7 fun _ _ _ ht=>k_5 hg ht
theorem kT_{s:ByteArray}(h:s.size=32):(escS s).size=32:=by
 unfold escS;by_cases hc:isEsc s=true
 ·rw[ij hc,jV6];simp only[il,iX,k76,h];rfl
 ·rw[ii hc];exact h
theorem kI2(s:ByteArray):decE (escS s)=1:=by
 refine(jN9 ?_).2;rintro⟨⟨_,h⟩,_⟩;unfold escS at h;by_cases hc:isEsc s=true
 ·rw[ij hc] at h;have:([0,0,0,0]:List UInt8)=magic:=by simpa [str] using h
  exact absurd this ae
 ·rw[ii hc] at h;exact hc (iG h)
theorem kU9(s:ByteArray):unescS (escS s) (isEsc s)=s:=by
 unfold unescS escS;by_cases hc:isEsc s=true
 ·have hx:4<=(str ([0,0,0,0]++s.data.toList.drop 4)).size:=by rw[jV6];simp
  rw[hc,ij rfl,ij ⟨rfl,hx⟩];have h4:s.data.toList.take 4=magic:=iF hc;have e:s=str s.data.toList:=(jO6 s).symm
  conv=>rhs;rw[e,<-ji 4 s.data.toList,h4]
  simp[str]
 ·rw[ii (fun hh=>hc hh.1),ii hc]
theorem j46{m:Mrk}(h:markE m=0):decE (markS m)=0/\decM (markS m)=m/\(markS m).size=32:=by
 unfold markS;rw[ij h];exact⟨(kU3 h).2.2,(kU3 h).2.1,by rw[jV6,jy6]⟩
theorem jv0{l:List Int}(k:Nat)(h:rise l=true):rise (l.take k)=true:=by
 rw[jW5] at h⊢;exact⟨h.1.sublist (mg _ _),fun x hx=>h.2 x (jc hx)⟩
theorem jv_{l:List Int}(k:Nat)(h:rise l=true):rise (l.drop k)=true:=by
 rw[jW5] at h⊢;exact⟨h.1.sublist (List.drop_sublist _ _),fun x hx=>h.2 x (jI hx)⟩
theorem jB4(l:List Cpy)(k:Nat):blks (l.take k)=(blks l).take k:=by simp[blks]
theorem jB3(l:List Cpy)(k:Nat):blks (l.drop k)=(blks l).drop k:=by simp[blks]
theorem jy2(q:Int)(r:List Int):(jL_ q r).kind=3:=rfl
theorem kJ7(q:Int):(jN_ q).kind=4:=rfl
theorem jK3(q:Int)(p:List Cpy):(jR4 q p).kind=2:=rfl
theorem jy1{q:Int}{r:List Int}(hq:1<=q/\q<=2147483647)(hr:rise r=true)(hn:r≠ []):markE (jL_ q r)=0:=by
 have h1:=hq;have h2:=k2_ hr;have h3:r.length≠0:=fun h=>hn (i5.1 h);refine jO0 ?_ ?_ ?_ ?_ ?_ <;>simp only[j97,j78,j88,j44,j48,jL_,jN,iC]<;>(try omega);rw[hr];rintro(h|h)
 ·exact absurd h ae
 ·exact absurd h ae
theorem jA6{q:Int}{p:List Cpy}(hq:1<=q/\q<=2147483647)(hr:rise (blks p)=true)(hn:p≠ [])(h10:p.length<=10):markE (jR4 q p)=0:=by
 have h1:=hq;have h3:p.length≠0:=fun h=>hn (i5.1 h);have e:(p.map jZ4).map (·.block)=blks p:=by simp[blks,jZ4,Function.comp_def]
 refine jO0 ?_ ?_ ?_ ?_ ?_ <;>simp only[j97,j78,j88,j44,j48,jR4,iZ,iC]<;>(try omega);rw[e,hr];rintro(h|h)
 ·exact absurd h ae
 ·exact absurd h ae
theorem jo3{q:Int}(hq:1<=q/\q<=2147483647):markE (jN_ q)=0:=by
 have h1:=hq;refine jO0 ?_ ?_ ?_ ?_ ?_ <;>simp only[j97,j78,j88,j44,j48,jN_,jN,iC]<;>(try omega);rintro(h|h)
 ·exact absurd h ae
 ·exact absurd h ae
theorem jX6{q a:Int}(hq:1<=q/\q<=2147483647)(ha:0<=a/\a<24):markE (j86 q a)=0:=by
 have h1:=hq;refine jO0 ?_ ?_ ?_ ?_ ?_ <;>simp only[j97,j78,j88,j44,j48,j86,jN,iC]<;>(try omega);rintro(h|h)
 ·exact absurd h ae
 ·exact absurd h ae
def ja_(q:Int)(s:ByteArray):Prop:=decE s=0/\(decM s).seq=q/\(decM s).kind=4
theorem jM4{gs:List Tag}{r r':List ByteArray}{m m':List Cpy}(h:j_8 gs r m=some (m',r')):∃pre,r=pre++r'/\ ∀r2,j_8 gs (pre++r2) m=some (m',r2):=by
 induction gs generalizing r m with
 |nil=>
  simp only[j_8,iO,ks] at h
  obtain⟨rfl,rfl⟩:=h
  exact⟨[],rfl,fun _=>rfl⟩
 |cons g gs ih=>
  cases r with
  |nil=>cases h
  |cons s r=>
   obtain⟨pre,rfl,h2⟩:=ih h
   exact⟨s::pre,rfl,fun r2=>h2 r2⟩
theorem j56(q : Int)(n : Nat)(s : ByteArray)(r : List ByteArray)(t : Txn) : j_6 q (n + 1) (s :: r) t = if decE s = 0 /\ (decM s).seq = q then if(decM s).kind=4 then some (t,r) else if(decM s).kind=3 then j_6 q n r {t with rev:=t.rev++(decM s).blocks} else if (decM s).kind = 2 then match j_8 (decM s).tags r t.mt with
        |some (mt,r')=>j_6 q n r' {t with mt:=mt}
        |none=>none
      else none
    else none:=rfl
theorem k_8{q:Int}{n:Nat}{r:List ByteArray}{t:Txn}(h:∀s∈r,¬ja_ q s):j_6 q n r t=none:=by
 induction n generalizing r t with
 |zero=>rfl
 |succ n ih=>
  cases r with
  |nil=>rfl
  |cons s r=>
   have hr:∀x∈r,¬ja_ q x:=fun x hx=>h x (jH _ hx)
   rw[j56]
   split
   ·rename_i h1;rw[ii (fun h4=>h s ag ⟨h1.1,h1.2,h4⟩)]
    split
    ·exact ih hr
    ·split
     ·cases hk:j_8 (decM s).tags r t.mt with
      |none=>rfl
      |some p=>
       obtain⟨mt,r'⟩:=p
       obtain⟨pre,rfl,_⟩:=jM4 hk
       exact ih fun x hx=>hr x bh
     ·rfl
   ·rfl
theorem jf0{q:Int}{n:Nat}{r r':List ByteArray}{t t':Txn}(h:j_6 q n r t=some (t',r')):∃pre,r=pre++r'/\ ∀r2,j_6 q n (pre++r2) t=some (t',r2):=by
 induction n generalizing r t with
 |zero=>cases h
 |succ n ih=>
  cases r with
  |nil=>cases h
  |cons s r=>
   rw[j56] at h
   split at h
   ·rename_i h1
    split at h
    ·rename_i h4;simp only[iO,ks] at h;obtain⟨rfl,rfl⟩:=h;refine⟨[s],rfl,fun r2=>?_⟩;show j_6 q (n+1) (s::r2) t=_;rw[j56,ij h1,ij h4]
    ·rename_i h4
     split at h
     ·rename_i h3;obtain⟨pre,rfl,h2⟩:=ih h;refine⟨s::pre,rfl,fun r2=>?_⟩;show j_6 q (n+1) (s::(pre++r2)) t=_;rw[j56,ij h1,ii h4,ij h3,h2]
     ·rename_i h3
      split at h
      ·rename_i h2
       cases hk:j_8 (decM s).tags r t.mt with
       |none=>rw[hk] at h;cases h
       |some p=>
        obtain⟨mt,r1⟩:=p
        rw[hk] at h
        obtain⟨p1,rfl,k2⟩:=jM4 hk
        obtain⟨p2,rfl,k3⟩:=ih h
        refine⟨s::(p1++p2),ag,fun r2=>?_⟩
        show j_6 q (n+1) (s::(p1++p2++r2)) t=_
        rw[j56,ij h1,ii h4,ii h3,ij h2,iE,k2]
        exact k3 r2
      ·cases h
   ·cases h
def j77(r:List ByteArray)(q:Int):List Txn×Int×List ByteArray:=j8_ (r.length+1) r q
theorem jG6{r:List ByteArray}{q:Int}(h:j_6 q 25 r (j2_ q)=none):j77 r q=([],q,r):=jL8 h
theorem jG5{r:List ByteArray}{q:Int}(h:∀s∈r,¬ja_ q s):j77 r q=([],q,r):=jG6 (k_8 h)
theorem k81 : ∀ (n : Nat) (r : List ByteArray) (q : Int), r.length <= n -> ∃ pre, r = pre ++ (j77 r q).2.2 /\ (j77 r q).2.1 = q + (j77 r q).1.length /\(q<=2147483647->(j77 r q).2.1<=2147483647)/\((j77 r q).1=[]↔pre=[])/\∀r2,(j77 (pre++r2) q).1=(j77 r q).1++(j77 r2 (j77 r q).2.1).1/\(j77 (pre++r2) q).2=(j77 r2 (j77 r q).2.1).2:=by
 intro n
 induction n with
 |zero=>
  intro r q hr
  have:r=[]:=i5.1 aa
  subst this
  rw[jG6 (kZ_ q 25 _)]
  exact⟨[],rfl,ag,id,ag,fun r2=>⟨rfl,rfl⟩⟩
 |succ n ih=>
  intro r q hr
  have hstop:j77 r q=([],q,r)->_:=fun e=>(show∃pre,r=pre++(j77 r q).2.2/\(j77 r q).2.1=q+(j77 r q).1.length/\
   (q<=2147483647->(j77 r q).2.1<=2147483647)/\((j77 r q).1=[]↔pre=[])/\
   ∀r2,(j77 (pre++r2) q).1=(j77 r q).1++(j77 r2 (j77 r q).2.1).1/\(j77 (pre++r2) q).2=(j77 r2 (j77 r q).2.1).2 from by
    rw[e];exact⟨[],rfl,ag,id,ag,fun r2=>⟨rfl,rfl⟩⟩)
  by_cases hq:q<2147483647
  ·cases hp:j_6 q 25 r (j2_ q) with
   |none=>exact hstop (jG6 hp)
   |some p=>
    obtain⟨t,r1⟩:=p
    have hl:=jU7 hp
    obtain⟨p1,rfl,hp2⟩:=jf0 hp
    obtain⟨e1,e2⟩:=jW6 hq hp
    obtain⟨p2,f1,f2,f3,f4,f5⟩:=ih r1 (q+1) aa
    have e1':(j77 (p1++r1) q).1=t::(j77 r1 (q+1)).1:=e1
    have e2':(j77 (p1++r1) q).2=(j77 r1 (q+1)).2:=e2
    rw[e1',e2']
    have hp1:p1≠ []:=fun e=>by subst e;simp at hl
    refine⟨p1++p2,by rw[iE,<-f1],by rw[f2,iB];omega,fun _=>f3 aa,by simp[hp1],fun r2=>?_⟩
    obtain⟨g1,g2⟩:=f5 r2
    obtain⟨k1,k2⟩:=jW6 (r:=p1++(p2++r2)) hq (hp2 _)
    have k1':(j77 (p1++(p2++r2)) q).1=t::(j77 (p2++r2) (q+1)).1:=k1
    have k2':(j77 (p1++(p2++r2)) q).2=(j77 (p2++r2) (q+1)).2:=k2
    rw[iE,k1',k2',g1,g2]
    exact⟨rfl,rfl⟩
  ·exact hstop (jL7 hq)
def ju9(t:Txn):Txn:=⟨t.seq,t.mt,[],t.rev,jW1,jW1,jW1⟩
theorem ju0{p:List Cpy}(r:List ByteArray)(m:List Cpy):j_8 (p.map jZ4) (p.map (fun c=>escS c.text)++r) m=some (m++p,r):=by
 induction p generalizing m with
 |nil=>simp[j_8]
 |cons c p ih=>
  show j_8 (p.map jZ4) (p.map (fun c=>escS c.text)++r) (m++ [⟨c.block,unescS (escS c.text) (isEsc c.text)⟩])=_
  rw[ih,kU9]
  simp
theorem kQ9{q:Int}{r:List Int}(hq:1<=q/\q<=2147483647)(hr:rise r=true)(l:List ByteArray)(t:Txn){n:Nat}(hn:(ju5 q r++l).length<n):j_6 q n (ju5 q r++l) t=j_6 q n l {t with rev:=t.rev++r}:=by
 unfold ju5 at hn⊢;by_cases h:r=[]
 ·subst h;simp
 ·rw[ii h] at hn⊢;obtain⟨d1,d2,_⟩:=j46 (jy1 hq hr h)
  cases n with
  |zero=>omega
  |succ n=>
   show j_6 q (n+1) (markS (jL_ q r)::l) t=_
   simp only[il,iB,iC] at hn
   rw[j56,d2,ij ⟨d1,rfl⟩,ii (by rw[jy2];decide),ij (jy2 _ _)]
   exact j02 aa aa
theorem jp0{q:Int}{p:List Cpy}(hq:1<=q/\q<=2147483647)(hr:rise (blks p)=true)(h10:p.length<=10)(l:List ByteArray)(t:Txn){n:Nat}(hn:(j39 q p++l).length<n):j_6 q n (j39 q p++l) t=j_6 q n l {t with mt:=t.mt++p}:=by
 unfold j39 at hn⊢;by_cases h:p=[]
 ·subst h;simp
 ·rw[ii h] at hn⊢;obtain⟨d1,d2,_⟩:=j46 (jA6 hq hr h h10)
  cases n with
  |zero=>omega
  |succ n=>
   show j_6 q (n+1) (markS (jR4 q p)::(p.map (fun c=>escS c.text)++l)) t=_
   simp only[il,iB,iZ] at hn
   rw[j56,d2,ij ⟨d1,rfl⟩,ii (by rw[jK3];decide),ii (by rw[jK3];decide),ij (jK3 _ _)]
   rw[show(jR4 q p).tags=p.map jZ4 from rfl,ju0]
   exact j02 aa aa
theorem kQ7{t:Txn}(g:GoodT t)(l:List ByteArray){n:Nat}(hn:(logT t++l).length<n):j_6 t.seq n (logT t++l) (j2_ t.seq)=some (ju9 t,l):=by
 have hb:=j57 g.mt;have hl:=j59 g.mt
 have e:logT t++l=ju5 t.seq t.rev++(j39 t.seq (t.mt.take 10)++(j39 t.seq (t.mt.drop 10)++(markS (jN_ t.seq)::l))):=by
  unfold logT j_4;simp
 rw[e] at hn⊢;rw[kQ9 g.seq g.rev _ _ hn];rw[il] at hn;rw[jp0 g.seq (by rw[jB4];exact jv0 _ hb) aX _ _ aa];rw[il] at hn;rw[jp0 g.seq (by rw[jB3];exact jv_ _ hb) cG _ _ aa];rw[il,iB] at hn;obtain⟨d1,d2,_⟩:=j46 (jo3 g.seq)
 cases n with
 |zero=>omega
 |succ n=>
  rw[j56,d2,ij ⟨d1,rfl⟩,ij (kJ7 _)]
  simp[j2_,ju9]
theorem k78{t:Txn}(g:GoodT t){s:ByteArray}(hs:s∈j_4 t)(q:Int):¬ja_ q s:=by
 have hb:=j57 g.mt;have hl:=j59 g.mt
 have hpart:∀p:List Cpy,rise (blks p)=true->p.length<=10->s∈j39 t.seq p->¬ja_ q s:=fun p h1 h2 h3=>by
  unfold j39 at h3
  split at h3
  ·cases h3
  ·rename_i hn;rcases iS.1 h3 with rfl|h3
   ·obtain⟨d1,d2,_⟩:=j46 (jA6 g.seq h1 hn h2);rintro⟨_,_,h⟩;rw[d2,jK3] at h;exact absurd h ae
   ·obtain⟨c,_,rfl⟩:=jg.1 h3;rintro⟨h,_,_⟩;rw[kI2] at h;exact absurd h ae
 unfold j_4 at hs;rcases iK.1 hs with hs|hs
 ·unfold ju5 at hs
  split at hs
  ·cases hs
  ·rename_i hn;obtain rfl:=iI.1 hs;obtain⟨d1,d2,_⟩:=j46 (jy1 g.seq g.rev hn);rintro⟨_,_,h⟩;rw[d2,jy2] at h;exact absurd h ae
 ·rcases iK.1 hs with hs|hs
  ·exact hpart _ (by rw[jB4];exact jv0 _ hb) aX hs
  ·exact hpart _ (by rw[jB3];exact jv_ _ hb) cG hs
theorem kH8{t:Txn}(g:GoodT t){s:ByteArray}(hs:s∈logT t):s.size=32:=by
 have hb:=j57 g.mt;have hl:=j59 g.mt;have hc:∀c∈t.mt,c.text.size=32:=fun c hc=>((j60 _).1 g.mt).2 c hc|>.2
 have hpart:∀p:List Cpy,rise (blks p)=true->p.length<=10->(∀c∈p,c∈t.mt)->s∈j39 t.seq p->s.size=32:=fun p h1 h2 h4 h3=>by
  unfold j39 at h3
  split at h3
  ·cases h3
  ·rename_i hn;rcases iS.1 h3 with rfl|h3
   ·exact(j46 (jA6 g.seq h1 hn h2)).2.2
   ·obtain⟨c,hcm,rfl⟩:=jg.1 h3;exact kT_ (hc c (h4 c hcm))
 unfold logT at hs;rcases iK.1 hs with hs|hs
 ·unfold j_4 at hs;rcases iK.1 hs with hs|hs
  ·unfold ju5 at hs
   split at hs
   ·cases hs
   ·rename_i hn;obtain rfl:=iI.1 hs;exact(j46 (jy1 g.seq g.rev hn)).2.2
  ·rcases iK.1 hs with hs|hs
   ·exact hpart _ (by rw[jB4];exact jv0 _ hb) aX (fun c h=>jc h) hs
   ·exact hpart _ (by rw[jB3];exact jv_ _ hb) cG (fun c h=>jI h) hs
 ·obtain rfl:=iI.1 hs;exact(j46 (jo3 g.seq)).2.2
theorem kH3{k:Nat}(h:k<37):jR6 (k:Int)=true:=by unfold jR6;simp;omega
theorem jW3{d:Dsk}(hg:goodD d=true){k:Nat}(hk:k<37):readD d k=lastT (d.safe.getD k ⟨#[]⟩) k d.writes:=by
 unfold readD jM3;rw[ij ⟨hg,kH3 hk⟩,Int.toNat_natCast]
theorem jT1{d:Dsk}(hg:goodD d=true){k:Nat}(hk:k<37):readD d k∈textsAt d k:=by
 have h:=jH_ (d.safe.getD k ⟨#[]⟩) k d.writes;rw[<-jW3 hg hk] at h;exact List.mem_of_getLast? h
theorem jW8{d:Dsk}(hg:goodD d=true)(hc:d.writes=[]){k:Nat}(hk:k<37):textsAt d k=[readD d k]:=by
 rw[jW3 hg hk];unfold textsAt;rw[hc];rfl
theorem jc_{d:Dsk}{n:Int}{t:ByteArray}(h:putE d n t=0)(k:Nat):textsAt (putD d n t) k=if n=k then textsAt d k++ [t] else textsAt d k:=by
 rw[jJ3 h];unfold textsAt;exact jM6 _ _ _ ⟨n,t⟩
theorem jX2{d:Dsk}(hg:goodD d=true):goodD (j55 d)=true:=by
 obtain⟨g1,g2,g3,g4⟩:=(j81 d).1 hg;unfold j55;rw[ij hg];refine(j81 _).2 ⟨by rw[jX1];exact g1,ag,?_,rfl⟩;rw[ja];intro s hs;obtain⟨n,hn,rfl⟩:=i_.1 hs;rw[jX1] at hn;have h1:=jH2 d.safe d.writes g4 n hn;rw[ix (by rw[jX1];exact hn),iO] at h1;rw[h1];have h2:=jT1 hg (k:=n) aa;rw[jW3 hg aa,iR,ix hn,Option.getD_some] at h2;exact k28 hg hn _ h2
theorem j00{d:Dsk}(hg:goodD d=true):(j55 d).writes=[]:=by unfold j55;rw[ij hg]
theorem jU2{d:Dsk}(hg:goodD d=true){k:Nat}(hk:k<37):readD (j55 d) k=readD d k:=by
 have hg1:=(j81 d).1 hg;rw[jW3 (jX2 hg) hk,j00 hg,jW3 hg hk];unfold j55;rw[ij hg];have h1:=jH2 d.safe d.writes hg1.2.2.2 k aa;show lastT ((flushL d.safe d.writes).getD k ⟨#[]⟩) k []=_;rw[jK8,iR,h1,iR,ix aa];rfl
theorem jM9{d:Dsk}(hg:goodD d=true){k:Nat}(hk:k<37):textsAt (j55 d) k=[readD d k]:=by
 rw[jW8 (jX2 hg) (j00 hg) hk,jU2 hg hk]
structure Left(d c:Dsk):Prop where
 good:goodD c=true
 clean:c.writes=[]
 read:∀k:Nat,k<37->readD c k∈textsAt d k
theorem Left.crash{d:Dsk}{x:Int}(h:crashE d x=0):Left d (crashD d x):=by
 have hc:goodD d=true/\0<=x:=by
  unfold crashE at h;by_cases hh:goodD d=true/\0<=x
  ·exact hh
  ·rw[ii hh] at h;cases h
 have hg:=(j81 d).1 hc.1;have e:crashD d x=⟨crashL d x.toNat d.safe.length,[]⟩:=by unfold crashD;rw[ij hc]
 refine⟨jr5 h,by rw[e],fun k hk=>?_⟩;rw[jW3 (jr5 h) hk,e];show lastT ((crashL d x.toNat d.safe.length).getD k ⟨#[]⟩) k []∈_;rw[jK8];unfold crashL;rw[iR,jQ,List.getElem?_range aa];exact jA3 d _ k
theorem Left.flush{d:Dsk}(hg:goodD d=true):Left d (j55 d):=
 ⟨jX2 hg,j00 hg,fun k hk=>by rw[jU2 hg hk];exact jT1 hg hk⟩
theorem kk2{d:Dsk}(hg:goodD d=true)(hc:d.writes=[]):Left d d:=⟨hg,hc,fun k hk=>jT1 hg hk⟩
theorem Left.same{d c:Dsk}(h:Left d c)(hg:goodD d=true)(hc:d.writes=[]){k:Nat}(hk:k<37):readD c k=readD d k:=by
 have:=h.read k hk;rw[jW8 hg hc hk] at this;exact iI.1 this
def jP2(s:Stp):Prop:=s.kind≠2->jR6 s.at_=true/\s.text.size=32
theorem jR_{d:Dsk}{s:Stp}(hg:goodD d=true)(ho:jP2 s)(hn:d.writes.length<200):jF0 d s=0/\goodD (jV2 d s)=true/\(jV2 d s).writes.length<=d.writes.length+1:=by
 unfold jF0 jV2;by_cases h:s.kind=2
 ·rw[ij h,ij h];exact⟨by unfold flushE;rw[ij hg],jX2 hg,by rw[j00 hg];simp⟩
 ·rw[ii h,ii h];have hp:=jB0 hg (ho h).1 (ho h).2 aa;refine⟨hp,jS3 hp,?_⟩;rw[jJ3 hp];simp
theorem j09:∀(l:List Stp) {d:Dsk},goodD d=true->(∀s∈l,jP2 s)->d.writes.length+l.length<=200->goodD (jV1 d l)=true/\(jV1 d l).writes.length<=d.writes.length+l.length
 | [],d,hg,_,_=>⟨hg,iy _⟩
 |s::l,d,hg,ho,hn=>by
  simp only[iB] at hn;obtain⟨h1,h2,h3⟩:=jR_ hg (ho s ag) aa;rw[jQ9];obtain⟨h4,h5⟩:=j09 l h2 (fun x hx=>ho x bh) aa;exact⟨h4,by simp only[iB];omega⟩
theorem kE4{l r:List Stp}{s:Stp}{d:Dsk}(hg:goodD d=true)(ho:∀x∈l++s::r,jP2 x)(hn:d.writes.length+(l++s::r).length<=200):jF0 (jV1 d l) s=0:=by
 simp only[il,iB] at hn;obtain⟨h1,h2⟩:=j09 l hg (fun x hx=>ho x bh) aa;exact(jR_ h1 (ho s ag) aa).1
theorem jU9:∀(l:List Stp) {d:Dsk},goodD d=true->(∀s∈l,jP2 s)->d.writes.length+l.length<=200->∀{k:Nat},k<37->∀s∈textsAt (jV1 d l) k,s∈textsAt d k\/ ∃x∈l,x.kind≠2/\x.at_=k/\x.text=s
 | [],d,_,_,_,k,_,s,hs=>.inl hs
 |x::l,d,hg,ho,hn,k,hk,s,hs=>by
  simp only[iB] at hn;obtain⟨h1,h2,h3⟩:=jR_ hg (ho x ag) aa;rw[jQ9] at hs;rcases jU9 l h2 (fun x hx=>ho x bh) aa hk s hs with h|⟨y,hy,h⟩
  ·unfold jF0 at h1;unfold jV2 at h;by_cases hf:x.kind=2
   ·rw[ij hf,jM9 hg hk] at h;obtain rfl:=iI.1 h;exact .inl (jT1 hg hk)
   ·rw[ii hf] at h h1;rw[jc_ h1] at h
    split at h
    ·rename_i he;rcases iK.1 h with h|h
     ·exact .inl h
     ·exact .inr ⟨x,ag,hf,he,(iI.1 h).symm⟩
    ·exact .inl h
  ·exact .inr ⟨y,by simp[hy],h⟩
theorem js4{d:Dsk}{x:Stp}(hg:goodD d=true)(ho:jP2 x)(hn:d.writes.length<200){k:Nat}(hk:k<37)(h:x.kind≠2->x.at_≠k):readD (jV2 d x) k=readD d k:=by
 have h1:=(jR_ hg ho hn).1;unfold jF0 at h1;unfold jV2;by_cases hf:x.kind=2
 ·rw[ij hf];exact jU2 hg hk
 ·rw[ii hf] at h1⊢;exact jf5 h1 (fun e=>h hf e.symm)
theorem jk4{d:Dsk}{x:Stp}(hg:goodD d=true)(ho:jP2 x)(hn:d.writes.length<200){k:Nat}(hf:x.kind≠2)(h:x.at_=k):readD (jV2 d x) k=x.text:=by
 have h1:=(jR_ hg ho hn).1;unfold jF0 at h1;unfold jV2;rw[ii hf] at h1⊢;rw[<-h];exact jm8 h1
theorem jJ8:∀(l:List Stp) {d:Dsk},goodD d=true->(∀s∈l,jP2 s)->d.writes.length+l.length<=200->∀{k:Nat},k<37->∀{s:ByteArray},(∀x∈l,x.kind≠2->x.at_=k->x.text=s)->((∃x∈l,x.kind≠2/\x.at_=k)\/readD d k=s)->readD (jV1 d l) k=s
 | [],d,_,_,_,k,_,s,_,h=>by
  rcases h with ⟨x,hx,_⟩|h
  ·cases hx
  ·exact h
 |x::l,d,hg,ho,hn,k,hk,s,ha,h=>by
  simp only[iB] at hn;obtain⟨h1,h2,h3⟩:=jR_ hg (ho x ag) aa;rw[jQ9];refine jJ8 l h2 (fun x hx=>ho x bh) aa hk (fun y hy=>ha y (by simp[hy])) ?_;by_cases hw:x.kind≠2/\x.at_=k
  ·exact .inr ((jk4 hg (ho x ag) aa hw.1 hw.2).trans (ha x ag hw.1 hw.2))
  ·rcases h with ⟨y,hy,hy2⟩|h
   ·rcases iS.1 hy with rfl|hy
    ·exact absurd hy2 hw
    ·exact .inl ⟨y,hy,hy2⟩
   ·exact .inr ((js4 hg (ho x ag) aa hk fun hf he=>hw ⟨hf,he⟩).trans h)
theorem jJ7{l:List Stp}{d:Dsk}(hg:goodD d=true)(ho:∀s∈l,jP2 s)(hn:d.writes.length+l.length<=200){k:Nat}(hk:k<37):textsAt (jV1 d (l++ [j_2])) k=[readD (jV1 d l) k]:=by
 rw[j27,jQ9,k21];unfold jV2;rw[ij (show j_2.kind=2 from rfl)];exact jM9 (j09 l hg ho hn).1 hk
theorem k82{d c:Dsk}(hd:goodD d=true)(hc:goodD c=true)(h:readD c 0=readD d 0):scanE c=scanE d:=by
 unfold scanE readE;rw[hd,hc,h]
def j16(d:Dsk):Int:=(decM (readD d 0)).at_
def jp8(d:Dsk):Int:=(decM (readD d 0)).seq
theorem jJ9{d:Dsk}(h:scanE d=0):scanF d=⟨(j77 (logL d (j16 d)) (jp8 d)).1,(j77 (logL d (j16 d)) (jp8 d)).2.1,(j16 d+(24-((j77 (logL d (j16 d)) (jp8 d)).2.2.length:Int)))%24⟩:=by
 unfold scanF j77;rw[ij h,j13];rfl
def j52(d:Dsk):Nat:=24-(j77 (logL d (j16 d)) (jp8 d)).2.2.length
theorem jT_{d:Dsk}(h:scanE d=0):goodD d=true/\decE (readD d 0)=0/\(decM (readD d 0)).kind=1/\(0<=j16 d/\j16 d<24)/\(1<=jp8 d/\jp8 d<=2147483647):=by
 unfold scanE at h;by_cases h1:readE d 0=0
 ·rw[ij h1] at h;by_cases h2:decE (readD d 0)=0/\(decM (readD d 0)).kind=1
  ·have hb:=jA5 h2.1;refine⟨?_,h2.1,h2.2,⟨hb.2.2.1,hb.2.2.2.1⟩,hb.2.2.2.2⟩;unfold readE at h1;by_cases h3:goodD d=true/\jR6 0=true
   ·exact h3.1
   ·rw[ii h3] at h1;cases h1
  ·rw[ii h2] at h;cases h
 ·rw[ii h1] at h;cases h
def jL0(d:Dsk)(q:Int):Prop:=∀i:Nat,i<24->∀x,q<=x->¬ja_ x (readD d (1+(i:Int)))
theorem jL0.log{d:Dsk}{q:Int}(h:jL0 d q)(a:Int){x:Int}(hx:q<=x):∀s∈logL d a,¬ja_ x s:=by
 intro s hs;unfold logL at hs;obtain⟨i,_,rfl⟩:=jg.1 hs;have:=h ((a+(i:Int))%24).toNat aa x hx;rw[lK aa] at this;exact this
theorem jn9(d:Dsk)(a:Int){i:Nat}(hi:i<24):(logL d a)[i]? =some (readD d (1+(a+(i:Int))%24)):=by
 unfold logL;rw[jQ,List.getElem?_range hi];rfl
theorem j35{d : Dsk}(h : scanE d = 0) : ∃ pre, logL d (j16 d) = pre ++ (j77 (logL d (j16 d)) (jp8 d)).2.2 /\ pre.length = j52 d /\ j52 d <= 24 /\ (scanF d).next = jp8 d + (scanF d).txns.length /\ (scanF d).next <= 2147483647 /\ (scanF d).at_ = (j16 d + j52 d) % 24 /\ ((scanF d).txns = [] ↔ j52 d = 0) /\∀r2,(j77 (pre++r2) (jp8 d)).1=(scanF d).txns++(j77 r2 (scanF d).next).1/\(j77 (pre++r2) (jp8 d)).2=(j77 r2 (scanF d).next).2:=by
 obtain⟨pre,h1,h2,h3,h4,h5⟩:=k81 24 (logL d (j16 d)) (jp8 d) (by rw[j13];exact iy _);have hb:=jT_ h
 have hl:24=pre.length+(j77 (logL d (j16 d)) (jp8 d)).2.2.length:=by
  have:=congrArg List.length h1;rw[j13,il] at this;exact this
 have hu:pre.length=j52 d:=by unfold j52;omega
 rw[jJ9 h];refine⟨pre,h1,hu,by unfold j52;omega,h2,h3 hb.2.2.2.2.2,?_,?_,h5⟩
 ·show(j16 d+(24-_))%24=_;congr 1;rw[<-hu];omega
 ·show(j77 _ _).1=[]↔_;rw[h4,<-hu,i5]
end Wb