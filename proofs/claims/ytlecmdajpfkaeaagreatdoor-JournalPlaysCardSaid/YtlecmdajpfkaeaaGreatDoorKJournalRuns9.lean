/- Parts of the proof. -/
import Derived.Test.YtlecmdajpfkaeaaGreatDoorKJournalRuns8
set_option linter.unusedVariables false
set_option linter.unusedSimpArgs false
set_option maxRecDepth 100000
set_option maxHeartbeats 40000000
namespace Go.Proofs.YtlecmdajpfkaeaaGreatDoor
open Go.RowKit Wb
theorem eQ{A:Prop}(h:A:=by
 clear hg h;replace hG:=hid hG;go_enter Tryz.func69,Tryz.ntmps69
 go_wp2_with (go_at_call 67;refine(hG.out _ (hd2.out.below aj)).mono ?_;rintro e w1 ⟨rfl,hb1⟩;obtain⟨hbc,hbf⟩:=j51 hb1;have hbz:=hb1.size;try simp only[iN,iJ,World.size_drew] at hbz;have hz0:=ir (n:=w.heap.size) aa hbz;have hz1:=ir (n:=w.heap.size+1) aa hbz)
 exact iL (v:=.tuple #[.agg #[.slice a d.safe.length cap,.slice b d.writes.length bcap],.int .i64 2]) (by simp[results,Tryz.results69,go_sem,hbc]) rfl ⟨_,rfl,hd2.out.below aj,hd2.out.same _,aj⟩):A:=h
theorem ju8(d : Dsk)(draw : Int)(v : Value)(w : World)(hd : j_7 w v d)(h : ¬ (goodD d = true /\ 0 <= draw)) :Calls Tryz.prog 69 #[v,.int .i64 draw] w fun e w'=>∃v',e=.returned (.tuple #[v',.int .i64 (crashE d draw)])/\j_7 w' v' (crashD d draw)/\js6 w.heap.size w' v v' d (crashD d draw)/\Below w.heap.size w w':=by
 have hG:=fun w (hh:j_7 w v d)=>jU1 d v w hh;have hd2:=hd;obtain⟨vs,vw,rfl,hs,hw,n1,n2⟩:=hd;obtain⟨a,cap,rfl,ca1,ca2⟩:=hs.form;obtain⟨b,bcap,rfl,cb1,cb2⟩:=hw.form;have he:crashE d draw=2:=by unfold crashE;rw[ii h]
 have hv:crashD d draw=d:=by unfold crashD;rw[ii h]
 rw[hv,he];clear he hv hs hw;replace hd2:=hid hd2;by_cases hg:goodD d=true
 ·have hneg:draw<0:=Int.not_le.1 (fun hh=>h ⟨hg,hh⟩);rw[hg] at hG;exact eQ
 ·rw[iW _|>.mp hg] at hG;exact eQ
theorem jA7(d : Dsk)(x : Nat)(v : Value)(w : World)(hd : j_7 w v d)(hg : goodD d = true)(hx : x <= 9223372036854775807) :Calls Tryz.prog 69 #[v,.int .i64 (x:Int)] w fun e w'=>∃v',e=.returned (.tuple #[v',.int .i64 0])/\j_7 w' v' ⟨crashL d x d.safe.length,[]⟩/\js6 w.heap.size w' v v' d ⟨crashL d x d.safe.length,[]⟩/\Below w.heap.size w w':=by
 have hG:=fun w (hh:j_7 w v d)=>jU1 d v w hh;have hd2:=hd;obtain⟨vs,vw,rfl,hs,hw,n1,n2⟩:=hd;obtain⟨a,cap,rfl,ca1,ca2⟩:=hs.form;obtain⟨b,bcap,rfl,cb1,cb2⟩:=hw.form;rw[hg] at hG;obtain⟨g1,g2,_,_⟩:=(j81 d).1 hg;clear hg;have hC:=fun v w (hh:RL j42 w v d.safe)=>jT5 d.safe v w hh n1;have hset:=fun(k:Nat) (hk:k<d.safe.length)=>kG2 d x hk;have hlen:=fun(k:Nat) (hk:k<=d.safe.length)=>kG1 d x hk;have hget:=fun(k:Nat)=>jA2 d x k (l_ _ (j04 d k));have hpos:=fun(k:Nat)=>j04 d k;have hle:=fun(k:Nat)=>jp9 d k;have hdr:=fun(k:Nat)=>ji7 d x k;have hds:=fun(k:Nat)=>jA9 d x k;have htx:=fun(k:Nat) (hk:k<d.safe.length)=>jF4 d hk;have hhit:=fun(n k:Nat) (hn:n<d.safe.length) (hk:k<d.writes.length)=>jI9 d.safe[n] n hk;have hmiss:=fun(n k:Nat) (hn:n<d.safe.length) (hk:k<d.writes.length)=>jM5 d.safe[n] n hk;have hal:=fun(n k:Nat) (hn:n<d.safe.length)=>jV7 d.safe[n] n (d.writes.take k);have hm0:=kR7 d x;have hmf:=kR6 d x;have hcl:=jP7 d x d.safe.length;replace hd2:=hid hd2;replace hG:=hid hG;replace hC:=hid hC;replace hs:=hid hs;replace hw:=hid hw;replace hset:=hid hset;replace hlen:=hid hlen;replace hget:=hid hget;replace hpos:=hid hpos;replace hle:=hid hle;replace hdr:=hid hdr;replace hds:=hid hds;replace htx:=hid htx;replace hhit:=hid hhit;replace hmiss:=hid hmiss;replace hal:=hid hal;replace hm0:=hid hm0;replace hmf:=hid hmf;replace hcl:=hid hcl;replace g1:=hid g1;go_enter Tryz.func69,Tryz.ntmps69
 go_wp2_with (first|(go_at_call 67;refine(hG.out _ (hd2.out.below aj)).mono ?_;rintro e w1 ⟨rfl,hb1⟩;obtain⟨hbc,hbf⟩:=j51 hb1;have hbz:=hb1.size;try simp only[iN,iJ,World.size_drew] at hbz;have hz0:=ir (n:=w.heap.size) aa hbz;have hz1:=ir (n:=w.heap.size+1) aa hbz)|(go_at_call 43;(refine(hC.out _ _ (hs.out.below aj)).mono ?_;rintro e w3 ⟨v3,rfl,hown3,hb3⟩;obtain⟨a3,cap3,rfl⟩:=hown3.form;have k0:Blk w3 w.heap.size #[.slice a d.safe.length cap,.slice b d.writes.length bcap] 44:=(((kk3 w _ _).alloc _).step hb1).step hb3;have k1:Blk w3 (w.heap.size+1) #[.slice none 0 0,.slice none 0 0] 44:=((kl8 (w:=w.alloc _) ag).step hb1).step hb3;have hnx3:Below w.heap.size w w3:=aj;have lt1:=k1.lt;have lt0:=k0.lt;have c0:=k0.cell 0;have c1:=k0.cell 1;simp only[Zga,Zgb,Zgc] at c0 c1;have og:=fun g (hh:Value.ownBlock (.slice a3 d.safe.length cap3)=some g)=>jE hown3 g hh;replace og:=hid og;have lz:=hb1.size;clear hbc hbf hbz hb1 hb3)))
 have hz1w:w.heap.size+1<w1.heap.size:=by(try simp at lz);omega
 have o0:=hown3;rw[<-hm0.out] at o0
 go_loopw [1,26] (fun s1 i wr=>∃k:Nat,k<=d.safe.length/\i=.int .i64 k/\s1=.int .i64 (drawAt d x k:Nat)/\Wb.Own j42 w1.heap.size 9 1 wr (.slice a3 d.safe.length cap3) (mixL d x k)/\Blk wr w.heap.size #[.slice a d.safe.length cap,.slice b d.writes.length bcap] 44/\Blk wr (w.heap.size+1) #[.slice none 0 0,.slice none 0 0] 44/\Blk wr w3.heap.size #[.slice a3 d.safe.length cap3,.slice none 0 0] 44/\Below w.heap.size w wr) (fun _ i _=>d.safe.length-(intOf i).toNat)
 case atStart=>exact⟨0,iq _,rfl,rfl,o0.alloc _,k0.alloc _,k1.alloc _,kk3 _ _ _,j63 hnx3 aa _⟩
 case round=>
  clear k0 k1 hnx3 lt0 lt1 c0 c1 o0 hown3;obtain⟨wo,rfl⟩:∃wo:World,wo=wr:=⟨_,rfl⟩;obtain⟨k,hk,rfl,rfl,hown,k0,k1,k2,hnx⟩:=hrel;have lt0:=k0.lt;have lt1:=k1.lt;have lt2:=k2.lt;have c0:=k0.cell 0;have c1:=k0.cell 1;have c2:=k1.cell 0;have c3:=k1.cell 1;have c4:=k2.cell 0;have c5:=k2.cell 1;simp only[Zga,Zgb,Zgc] at c0 c1 c2 c3 c4 c5;by_cases hlt:k<d.safe.length
  ·obtain⟨b2,off,rfl,d0⟩:=kl6 (fun x=>.string x) (fun _=>rfl) (hs.out.below hnx) hlt;have ld:=i0 _ _ d0;dsimp only at ld;have hset:=hset.out k hlt;have hget:=hget.out k;have hpos:=hpos.out k;have hle:=hle.out k;have hdr:=hdr.out k;have hds:=hds.out k;have htx:=htx.out k hlt;have hhit:=fun j hj=>hhit.out k j hlt hj;have hmiss:=fun j hj=>hmiss.out k j hlt hj;have hal:=fun j=>hal.out k j hlt;have hml:=hlen.out k aa;generalize mixL d x k=M at*;replace hset:=hid hset;replace hget:=hid hget;replace hds:=hid hds;replace htx:=hid htx;replace hhit:=hid hhit;replace hmiss:=hid hmiss;replace hal:=hid hal;replace hml:=hid hml;replace hpos:=hid hpos;replace hle:=hid hle;obtain⟨sk,hsk⟩:∃sk,sk=d.safe[k]:=⟨_,rfl⟩;rw[<-hsk] at d0 htx hhit hmiss hal;clear hsk;generalize drawAt d x k=y at*;go_wp2;have kl:Blk (wo.alloc (.cells #[.string sk] 9)) wo.heap.size #[.string sk] 9:=kk3 wo _ _
   go_loopw [8,10,38] (fun l _ i wi=>∃j:Nat,j<=d.writes.length/\i=.int .i64 j/\Wb.Own j42 wo.heap.size 9 1 wi l (afterL sk k (d.writes.take j))/\Below wo.heap.size wo wi/\wo.heap.size<wi.heap.size) (fun _ _ i _=>d.writes.length-(intOf i).toNat)
   case atStart=>
    refine⟨0,iq _,rfl,?_,bal (b0 wo) _,ag⟩;rw[List.take_zero,js7];exact Own.lit (f:=j42) j89 wo.heap.size 9 wo [sk] ag bV rfl ag rfl
   case round=>
    obtain⟨j,hj,rfl,hl,hbi,hzi⟩:=hrel;by_cases hlt2:j<d.writes.length
    ·obtain⟨b3,off3,rfl,d1,d2⟩:=kj3 (fun x=>.int .i64 x.at_) (fun x=>.string x.text) (fun _=>rfl) ((hw.out.below hnx).below hbi) hlt2;have ld3:=i0 _ _ d1;dsimp only at ld3;by_cases heq:d.writes[j].at_=k
     ·have hh:=hhit.out j hlt2 heq;have hq:=hal.out j;rw[iA] at hq;have e1:(d.writes[j].at_==(k:Int))=true:=iT.2 heq;replace hh:=hid hh;clear heq;generalize d.writes[j]=xw at*;generalize afterL sk k (d.writes.take j)=ls at*;have hqq:ls.length<=201:=aa;clear hq
      go_wp2_with (at_builtin;(refine j70 rfl _ _ _ rfl wo.heap.size _ 1 16 j89 jQ0 (hl.alloc _) rfl xw.text rfl rfl ?c1 ?c2 ?c3 ?c4))
      all_goals try(case c1=>omega)
      all_goals try(case c2=>unfold maxLen;omega)
      all_goals try(case c3=>simp;omega)
      case c4=>
       intro v7 w7 hown7 hbel7 _;rw[<-hh.out] at hown7;have hz7:=hbel7.size;go_wp2;go_roundw
       case rel=>exact⟨j+1,aa,an,hown7,(j63 hbi aa _).trans (hbel7.mono aa),by simp at hz7;omega⟩
       case measure=>simp[intOf];omega
     ·have hh:=hmiss.out j hlt2 heq;have e1:(d.writes[j].at_==(k:Int))=false:=ik.2 heq;replace hh:=hid hh;clear heq;generalize d.writes[j]=xw at*;go_wp2;go_roundw
      case rel=>exact⟨j+1,aa,an,by rw[hh.out];exact hl.alloc _,j63 hbi aa _,ah⟩
      case measure=>simp[intOf];omega
    ·rw[iV aa,<-htx.out] at hl;obtain⟨al,capl,rfl⟩:=hl.form;have k0:=k0.step hbi;have k1:=k1.step hbi;have k2:=k2.step hbi;have hown:=hown.below hbi;have hnx:=hnx.trans (hbi.mono aa);clear c0 c1 c2 c3 c4 c5 lt0 lt1 lt2 d0 ld kl;have lt2:=k2.lt;have c4:=k2.cell 0;simp only[Zga,Zgb,Zgc] at c4;replace hpos:=hpos.out;replace hle:=hle.out;replace hget:=hget.out;replace hds:=hds.out;have hmx:=l_ y hpos;have hmi:((y:Int)%((textsAt d k).length:Int))=((y%(textsAt d k).length:Nat):Int):=rfl;have hmt:((y:Int).tmod ((textsAt d k).length:Int))=((y%(textsAt d k).length:Nat):Int):=rfl;have hdi:((y:Int)/((textsAt d k).length:Int))=((y/(textsAt d k).length:Nat):Int):=rfl;have hdt:((y:Int).tdiv ((textsAt d k).length:Int))=((y/(textsAt d k).length:Nat):Int):=rfl;rw[<-hds] at hdi hdt;generalize hye:drawAt d x (k+1)=y2 at*;replace hye:=hid hye;obtain⟨bl,offl,rfl,z0⟩:=kl6 (fun x=>.string x) (fun _=>rfl) hl.reads hmx;rw[hget] at z0;clear hget;replace hds:=hid hds;generalize y%(textsAt d k).length=q at*;generalize crashAt d x k=t at*;generalize textsAt d k=ls at*;have hne0:((ls.length:Int)==0)=false:=ik.2 aa;have hm:=hml.out;obtain⟨g,cap4,hv,hgb,hgl,hgc,hpk⟩:=hown.poke j89 (k:=k) aa;simp only[i9] at hv;obtain⟨rfl,_,rfl⟩:=hv;obtain⟨z2,z3⟩:=hgc 0 ae;replace hpk:=hpk 0 t (.string t) ae rfl;rw[hset.out,jA,Nat.add_zero] at hpk;simp only[jA,Nat.add_zero,j42,List.getElem?_cons_zero] at z2 z3;replace hpk:=hid hpk
     have hne:=og.out g rfl;have hm3:k<M.length:=aa;obtain⟨old,hold⟩:∃o,M[k]=o:=⟨_,rfl⟩;rw[hold] at z3;clear hold hm hown hgc hm3;have hq2:(q:Int)<(ls.length:Int):=aa;have hk2:(k:Int)<(d.safe.length:Int):=aa;have lz0:=i0 _ _ z0;dsimp only at lz0;have hy0:(y:Int)<=9223372036854775807:=aa;have hys:y2<=y:=by rw[hds.out];exact Nat.div_le_self _ _
     have hy2:IntKind.i64.wrap (y2:Int)=y2:=iz _ aa;go_wp2
     go_region
     all_goals
      go_wp2
      go_roundw
      case rel=>exact⟨k+1,aa,an,by rw[hye.out],hpk.out,k0.drew.set_other _ _ ah,k1.drew.set_other _ _ ah,k2.drew.set_other _ _ ah,hnx.drew.setCell ah _⟩
      case measure=>simp[intOf];omega
  ·obtain rfl:k=d.safe.length:=by omega
   rw[hmf.out] at hown;have f1:=k1.free 0;have f2:=k1.free 1;have hcl2:=hcl.out;go_wp2;have hF:Below w.heap.size w ((wo.setCell ⟨w.heap.size+1,0,none⟩ (.slice a3 d.safe.length cap3)).setCell ⟨w.heap.size+1,1,none⟩ (.slice none 0 0)):=(hnx.setCell ag _).setCell ag _;have ho:=(hown.setCell (p:=⟨w.heap.size+1,0,none⟩) ah (.slice a3 d.safe.length cap3)).setCell (p:=⟨w.heap.size+1,1,none⟩) ah (.slice none 0 0);refine iL (v:=.tuple #[.agg #[.slice a3 d.safe.length cap3,.slice none 0 0],.int .i64 0]) (by simp[results,Tryz.results69,go_sem,c2,c3]) rfl ⟨_,rfl,⟨_,_,rfl,ho.reads,RL.nil _ _,by rw[hcl.out];exact n1,ag⟩,⟨_,_,_,_,rfl,rfl,ho.slot aa,.nil⟩,hF⟩
theorem ja1(d : Dsk)(draw : Int)(v : Value)(w : World)(hd : j_7 w v d)(hx : draw <= 9223372036854775807) :Calls Tryz.prog 69 #[v,.int .i64 draw] w fun e w'=>∃v',e=.returned (.tuple #[v',.int .i64 (crashE d draw)])/\j_7 w' v' (crashD d draw)/\js6 w.heap.size w' v v' d (crashD d draw)/\Below w.heap.size w w':=by
 by_cases h:goodD d=true/\0<=draw
 ·obtain⟨hg,h0⟩:=h;have he:crashE d draw=0:=by unfold crashE;rw[ij ⟨hg,h0⟩]
  have hv:crashD d draw=⟨crashL d draw.toNat d.safe.length,[]⟩:=by unfold crashD;rw[ij ⟨hg,h0⟩]
  rw[he,hv];have:=jA7 d draw.toNat v w hd hg aa;rwa [lK h0] at this
 ·exact ju8 d draw v w hd h
theorem jA8(d : Dsk)(n : Int)(v : Value)(w : World)(hd : j_7 w v d) :Calls Tryz.prog 80 #[v,.int .i64 n] w fun e w'=>e=.returned (.tuple #[.string (readD d n),.int .i64 (readE d n)])/\Below w.heap.size w w':=by
 have hG:=fun w (hh:j_7 w v d)=>jU1 d v w hh;have hA:=fun w=>jo8 n w;have hd2:=hd;obtain⟨vs,vw,rfl,hs,hw,n1,n2⟩:=hd;obtain⟨a,cap,rfl,_⟩:=hs.form;obtain⟨b,bcap,rfl,_⟩:=hw.form;replace hd2:=hid hd2;by_cases hg:goodD d=true
 ·rw[hg] at hG;by_cases ha:jR6 n=true
  ·rw[ha] at hA;have hr:readD d n=lastT (jM3 d n) n (d.writes.take d.writes.length):=by unfold readD;rw[ij ⟨hg,ha⟩,iY]
   have he:readE d n=0:=by unfold readE;rw[ij ⟨hg,ha⟩]
   rw[he];obtain⟨g1,g2,_,_⟩:=(j81 d).1 hg;obtain⟨h0,h1⟩:0<=n/\n<37:=iF ha;obtain⟨m,rfl⟩:∃m:Nat,n=m:=⟨n.toNat,aa⟩;have hm:m<d.safe.length:=aa;have hsf:jM3 d m=d.safe[m]:=by simp[jM3,hm]
   rw[hsf] at hr;clear hg ha he hsf;generalize readD d m=r at*;obtain⟨safe,writes⟩:=d;dsimp only at*;have hlast:=fun(k:Nat) (hk:k<writes.length)=>jg4 safe[m] m hk;have hmiss:=fun(k:Nat) (hk:k<writes.length)=>jq4 safe[m] m hk;have hl0:=jK8 safe[m] m;have hm3:m<safe.length:=hm;replace hs:=hid hs;replace hw:=hid hw;replace hG:=hid hG;replace hA:=hid hA;replace hr:=hid hr;replace g1:=hid g1;replace hlast:=hid hlast;replace hmiss:=hid hmiss;replace hl0:=hid hl0;replace hm3:=hid hm3;go_enter Tryz.func80,Tryz.ntmps80
   go_wp2_with (first|(go_at_call 67;refine(hG.out _ (hd2.out.below aj)).mono ?_;rintro e w1 ⟨rfl,hb1⟩;obtain⟨hbc,hbf⟩:=j51 hb1;have hbz:=hb1.size;try simp only[iN,iJ,World.size_drew] at hbz;have hz0:=ir (n:=w.heap.size) aa hbz)|(go_at_call 68;refine(hA.out _).mono ?_;rintro e w2 ⟨rfl,rfl⟩))
   have kb:Blk w1 w.heap.size #[.slice a safe.length cap,.slice b writes.length bcap] 44:=(kk3 w _ _).step hb1;have hnx:Below w.heap.size w w1:=aj;clear hb1 hbc hbf;have lt0:=kb.lt;have c0:=kb.cell 0;have c1:=kb.cell 1;simp only[Zga,Zgb,Zgc] at c0 c1
   go_loop [6] (fun i=>∃k:Nat,k<=writes.length/\i=.int .i64 ((k:Int)-1)/\Hid (r=lastT safe[m] m (writes.take k))) (fun i=>(intOf i+1).toNat)
   case atStart=>exact⟨writes.length,iy _,rfl,hr.out⟩
   case round=>
    obtain⟨k,hk,rfl,hrk⟩:=hrel;rcases kC k with hk0|hk0
    ·subst hk0;obtain⟨b2,off,rfl,d0⟩:=kl6 (fun x=>.string x) (fun _=>rfl) (hs.out.below hnx) hm3.out;have hrs:r=safe[m]:=by rw[hrk.out,List.take_zero];exact hl0.out
     replace hrs:=hid hrs;clear hrk;generalize safe[m]=sm at*;go_wp2;go_ret2;exact⟨k35 hrs.out.symm,hnx⟩
    ·obtain⟨j,rfl⟩:∃j,k=j+1:=⟨k-1,aa⟩;have hj:j<writes.length:=aa;obtain⟨b2,off,rfl,d0,d1⟩:=kj3 (fun x=>.int .i64 x.at_) (fun x=>.string x.text) (fun _=>rfl) (hw.out.below hnx) hj;by_cases heq:writes[j].at_=m
     ·have hrs:r=writes[j].text:=by rw[hrk.out];exact hlast.out j hj heq
      replace hrs:=hid hrs;have e1:(writes[j].at_==(m:Int))=true:=iT.2 heq;clear hrk heq;generalize writes[j]=x at*;go_wp2;go_ret2;exact⟨k35 hrs.out.symm,hnx⟩
     ·have hrs:r=lastT safe[m] m (writes.take j):=by rw[hrk.out];exact hmiss.out j hj heq
      replace hrs:=hid hrs;have e1:(writes[j].at_==(m:Int))=false:=ik.2 heq;clear hrk heq;generalize writes[j]=x at*;go_wp2;go_round
      case rel=>exact⟨j,aa,an,hrs⟩
      case measure=>simp[intOf]
  ·have hr:readD d n=⟨#[]⟩:=by unfold readD;rw[ii (fun hh=>ha hh.2)]
   have he:readE d n=2:=by unfold readE;rw[ii (fun hh=>ha hh.2)]
   rw[hr,he];rw[iW _|>.mp ha] at hA;clear hs hw ha hg hr he;replace hG:=hid hG;replace hA:=hid hA;go_enter Tryz.func80,Tryz.ntmps80
   go_wp2_with (first|(go_at_call 67;refine(hG.out _ (hd2.out.below aj)).mono ?_;rintro e w1 ⟨rfl,hb1⟩;obtain⟨hbc,hbf⟩:=j51 hb1;have hbz:=hb1.size;try simp only[iN,iJ,World.size_drew] at hbz;have hz0:=ir (n:=w.heap.size) aa hbz)|(go_at_call 68;refine(hA.out _).mono ?_;rintro e w2 ⟨rfl,rfl⟩))
   go_ret2;exact⟨rfl,aj⟩
 ·have hr:readD d n=⟨#[]⟩:=by unfold readD;rw[ii (fun hh=>hg hh.1)]
  have he:readE d n=2:=by unfold readE;rw[ii (fun hh=>hg hh.1)]
  rw[hr,he];rw[iW _|>.mp hg] at hG;clear hs hw hg hr he;replace hG:=hid hG;go_enter Tryz.func80,Tryz.ntmps80
  go_wp2_with (go_at_call 67;refine(hG.out _ (hd2.out.below aj)).mono ?_;rintro e w1 ⟨rfl,hb1⟩;obtain⟨hbc,hbf⟩:=j51 hb1;have hbz:=hb1.size;try simp only[iN,iJ,World.size_drew] at hbz;have hz0:=ir (n:=w.heap.size) aa hbz)
  go_ret2;exact⟨rfl,aj⟩
theorem jS9(b : Int)(w : World) :Calls Tryz.prog 100 #[.int .i64 b] w fun e w'=>e=.returned (.bool (isBlk b))/\w=w':=by
 have hi:isBlk b=true↔0<=b/\b<12:=by simp[isBlk]
 generalize isBlk b=x at*;replace hi:=hid hi;go_enter Tryz.func100,Tryz.ntmps100;go_wp2
 all_goals
  go_ret
  refine⟨j6_ ?_,rfl⟩
  have hh:=hi.out
  clear hi
  cases x<;>simp at hh<;>simp<;>omega
theorem fg{A:Prop}(h:A:=by
 go_enter Tryz.func66,Tryz.ntmps66;go_wp2;all_goals (go_ret;exact⟨rfl,aj⟩)):A:=h
theorem g_{A:Prop}(h:A:=by
 dsimp only at*;go_enter Tryz.func66,Tryz.ntmps66;go_wp2
 all_goals
  go_ret
  exact⟨rfl,aj⟩):A:=h
theorem js2(m : Mrk)(v : Value)(w : World)(hm : j1_ w v m)(hbad : j97 m \/ j78 m \/ j88 m \/ j44 m) :Calls Tryz.prog 66 #[v] w fun e w'=>e=.returned (.int .i64 (markE m))/\Below w.heap.size w w':=by
 obtain⟨vt,vb,rfl,ht,hbk,n1,n2⟩:=hm;obtain⟨ta,tcap,rfl,tc1,tc2⟩:=ht.form;obtain⟨ba,bcap,rfl,bc1,bc2⟩:=hbk.form;unfold maxLen at tc2 bc2;clear ht hbk;by_cases hA:j97 m
 ·rw[j28 hA];obtain⟨kd,sq,at_,tags,blks⟩:=m;clear hbad;unfold j97 at hA;exact g_
 ·by_cases hB:j78 m
  ·rw[jW2 hA hB];obtain⟨kd,sq,at_,tags,blks⟩:=m;clear hbad;unfold j97 at hA;unfold j78 at hB;exact g_
  ·by_cases hC:j88 m
   ·rw[jX3 hA hB hC];obtain⟨kd,sq,at_,tags,blks⟩:=m;clear hbad;unfold j97 at hA;unfold j78 at hB;unfold j88 at hC;dsimp only at*;have hk:kd=1\/kd=2\/kd=3\/kd=4:=aa;obtain⟨q1,q2,q3,q4⟩:1<=sq/\sq<=2147483647/\0<=at_/\at_<24:=aa;clear hA hB;by_cases g1:kd≠1/\at_≠0
    ·obtain⟨g1,g2⟩:=g1;have g2':(at_ != 0)=true:=jd.2 g2;clear hC g2;rcases hk with rfl|rfl|rfl|rfl
     ·exact absurd rfl g1
     all_goals
      clear g1
      go_enter Tryz.func66,Tryz.ntmps66;go_wp2;all_goals (go_ret;exact⟨rfl,aj⟩)
    ·have g1':kd=1\/at_=0:=by omega
     by_cases g3:kd≠2/\tags.length≠0
     ·obtain⟨g3,g4⟩:=g3;have g4':0<tags.length:=aa;have g5':((tags.length:Int) != 0)=true:=jd.2 aa;clear hC g1 g4;rcases hk with rfl|rfl|rfl|rfl
      ·clear g1' g3;exact fg
      ·exact absurd rfl g3
      all_goals
       obtain rfl:at_=0:=aa
       clear g1' g3
       go_enter Tryz.func66,Tryz.ntmps66;go_wp2;all_goals (go_ret;exact⟨rfl,aj⟩)
     ·obtain⟨g5,g6⟩:kd≠3/\blks.length≠0:=by omega
      have g6':0<blks.length:=aa;have g5':((blks.length:Int) != 0)=true:=jd.2 aa;have g3':kd=2\/tags.length=0:=aa;clear hC g1 g3 g6;rcases hk with rfl|rfl|rfl|rfl
      ·have t0:tags.length<=0:=by omega
       have t1:((tags.length:Int) != 0)=false:=bC;clear g1' g3' g5;exact fg
      ·obtain rfl:at_=0:=by omega
       clear g1' g3' g5;exact fg
      ·exact absurd rfl g5
      ·obtain rfl:at_=0:=by omega
       have t0:tags.length<=0:=aa;have t1:((tags.length:Int) != 0)=false:=bC;clear g1' g3' g5;exact fg
   ·have hD:j44 m:=by rcases hbad with h|h|h|h<;>first|exact absurd h hA|exact absurd h hB|exact absurd h hC|exact h
    rw[jK9 hA hB hC hD];obtain⟨kd,sq,at_,tags,blks⟩:=m;clear hbad;unfold j97 at hA;unfold j78 at hB;unfold j88 at hC;unfold j44 at hD;dsimp only at*;have hk:kd=1\/kd=2\/kd=3\/kd=4:=aa;obtain⟨q1,q2,q3,q4⟩:1<=sq/\sq<=2147483647/\0<=at_/\at_<24:=aa;have g1:kd=1\/at_=0:=aa;have g2:kd=2\/tags.length<=0:=aa;have g3:kd=3\/blks.length<=0:=aa;have g4:(kd=2/\(tags.length>10\/tags.length=0))\/(kd=3/\(blks.length>20\/blks.length=0)):=aa;clear hA hB hC hD hk;rcases g4 with ⟨rfl,g4⟩|⟨rfl,g4⟩
    ·obtain rfl:at_=0:=by omega
     replace g3:blks.length<=0:=aa;clear g1 g2;rcases g4 with g4|g4
     ·go_enter Tryz.func66,Tryz.ntmps66;go_wp2;all_goals (go_ret;exact⟨rfl,aj⟩)
     ·have e1:((tags.length:Int)==0)=true:=iT.2 aa;replace g4:tags.length<=0:=aa;exact fg
    ·obtain rfl:at_=0:=by omega
     replace g2:tags.length<=0:=aa;have e0:((tags.length:Int)==0)=true:=iT.2 aa;clear g1 g3;rcases g4 with g4|g4
     ·go_enter Tryz.func66,Tryz.ntmps66;go_wp2;all_goals (go_ret;exact⟨rfl,aj⟩)
     ·have e1:((blks.length:Int)==0)=true:=iT.2 aa;replace g4:blks.length<=0:=aa;exact fg
theorem jz0:Elem Tryz.prog 46 3 1 8:=kj_ (z:=.int .i64 0) Tryz.underlying46 af rfl
theorem jQ8(r : Ring)(w : World) :Calls Tryz.prog 108 #[r.val] w fun e w'=>e=.returned (.bool (goodR r))/\Below w.heap.size w w':=by
 obtain⟨h,u⟩:=r;unfold Ring.val;have hg:=j71 ⟨h,u⟩;have hn:=jh4 ⟨h,u⟩;dsimp only at hg hn;generalize goodR ⟨h,u⟩=x at*;have Hg:=hid hg;have Hn:=hid hn;clear hg hn;go_enter Tryz.func108,Tryz.ntmps108;go_wp2
 all_goals
  go_ret
  refine⟨j6_ ?_,(jW _ _).alloc (iy _) _⟩
  cases x
  ·have hh:=Hn.out.1 rfl;simp<;>omega
  ·have hh:=Hg.out.1 rfl;simp<;>omega
theorem jY8(r : Ring)(w : World) :Calls Tryz.prog 92 #[r.val] w fun e w'=>e=.returned (.bool (goodR r))/\Below w.heap.size w w':=by
 obtain⟨h,u⟩:=r;unfold Ring.val;have hg:=j71 ⟨h,u⟩;have hn:=jh4 ⟨h,u⟩;dsimp only at hg hn;generalize goodR ⟨h,u⟩=x at*;have Hg:=hid hg;have Hn:=hid hn;clear hg hn;go_enter Tryz.func92,Tryz.ntmps92;go_wp2
 all_goals
  go_ret
  refine⟨j6_ ?_,(jW _ _).alloc (iy _) _⟩
  cases x
  ·have hh:=Hn.out.1 rfl;simp<;>omega
  ·have hh:=Hg.out.1 rfl;simp<;>omega
theorem je5(r : Ring)(w : World)(h0 : 0 <= r.used)(h1 : r.used <= 24) :Calls Tryz.prog 82 #[r.val] w fun e w'=>e=.returned (.int .i64 (24-r.used))/\Below w.heap.size w w':=by
 obtain⟨h,u⟩:=r;unfold Ring.val;dsimp only at h0 h1⊢;go_enter Tryz.func82,Tryz.ntmps82;go_wp2;go_ret;exact⟨jW4 rfl,(jW _ _).alloc (iy _) _⟩
theorem jp4(n e : Int)(w : World)(h0 : 0 <= n)(h1 : n <= 24)(h2 : 10 <= e)(h3 : e <= 20) :Calls Tryz.prog 143 #[.int .i64 n,.int .i64 e] w fun e' w'=>e'=.returned (.int .i64 (j75 n e))/\w=w':=by
 have h4:(e==0)=false:=ik.2 aa;go_enter Tryz.func143,Tryz.ntmps143;go_wp2;go_ret;exact⟨jW4 rfl,rfl⟩
theorem je6(m r : Int)(w : World) :Calls Tryz.prog 110 #[.int .i64 m,.int .i64 r] w fun e' w'=>e'=.returned (.tuple #[.int .i64 (jy9 m r),.int .i64 (jD1 m r)])/\w=w':=by
 by_cases h:m<0\/m>12\/r<0\/r>12
 ·have e1:jD1 m r=2:=by simp[jD1,h]
  have e2:jy9 m r=0:=by simp[jy9,e1]
  rw[e1,e2];clear e1 e2;go_enter Tryz.func110,Tryz.ntmps110;go_wp2
  all_goals
   go_ret2
   exact⟨rfl,rfl⟩
 ·have e1:jD1 m r=0:=by simp[jD1,h]
  have e2:jy9 m r=j75 r 20+j75 m 10+m+1:=by simp[jy9,e1]
  rw[e1,e2];have g1:0<=j75 r 20/\j75 r 20<=2:=by unfold j75;omega
  have g2:0<=j75 m 10/\j75 m 10<=3:=by unfold j75;omega
  obtain⟨g1,g1'⟩:=g1;obtain⟨g2,g2'⟩:=g2;have a1:0<=m:=aa;have a2:m<=12:=aa;have a3:0<=r:=aa;have a4:r<=12:=aa;clear e1 e2 h;go_enter Tryz.func110,Tryz.ntmps110
  go_wp2_with (go_at_call 143;refine(jp4 _ _ _ aa aa aa aa).mono ?_;rintro e w' ⟨rfl,rfl⟩)
  go_ret2;exact⟨rfl,rfl⟩
theorem kO9(n : Int)(w : World) :Calls Tryz.prog 120 #[.int .i64 n] w fun e' w'=>e'=.returned (.int .i64 (jy8 n))/\w=w':=by
 have e2:jy8 n=clamp24 n+j75 (clamp24 n) 10+j75 (clamp24 n) 20+1:=rfl;have g0:0<=clamp24 n/\clamp24 n<=24:=dQ;have g1:0<=j75 (clamp24 n) 20/\j75 (clamp24 n) 20<=2:=by unfold j75;omega
 have g2:0<=j75 (clamp24 n) 10/\j75 (clamp24 n) 10<=3:=by unfold j75;omega
 obtain⟨g1,g1'⟩:=g1;obtain⟨g2,g2'⟩:=g2;obtain⟨g0,g0'⟩:=g0;rw[e2];have hmm:max 0 (min n 24)=clamp24 n:=rfl;have hc:(n<=0/\clamp24 n=0)\/(24<n/\clamp24 n=24)\/(0<n/\n<=24/\clamp24 n=n):=dQ;clear e2;generalize clamp24 n=c at*;rcases hc with ⟨h1,rfl⟩|⟨h1,rfl⟩|⟨h1,h1',rfl⟩
 all_goals
  go_enter Tryz.func120,Tryz.ntmps120
  go_wp2_with (go_at_call 143;refine(jp4 _ _ _ aa aa aa aa).mono ?_;rintro e w' ⟨rfl,rfl⟩)
  go_ret
  exact⟨jW4 aa,rfl⟩
theorem gi{A:Prop}(h:A:=by
 go_ret;exact⟨jW4 (by rw[Hp.out j aa h2,Hq.out i aa h4];omega),rfl⟩):A:=h
theorem ie{A:Prop}(h:A:=by
 go_round
 case rel=>exact⟨i+1,aa,aa,an,an⟩
 case measure=>simp[intOf];omega):A:=h
theorem kZ8(n : Int)(w : World) :Calls Tryz.prog 97 #[.int .i64 n] w fun e' w'=>e'=.returned (.int .i64 (jy8 n))/\w=w':=by
 have e2:jy8 n=clamp24 n+j75 (clamp24 n) 10+j75 (clamp24 n) 20+1:=rfl;have g0:0<=clamp24 n/\clamp24 n<=24:=dQ;have hp:∀j:Nat,10*(j:Int)≥clamp24 n->10*((j:Int)-1)<clamp24 n->j75 (clamp24 n) 10=j:=by intro j h1 h2;unfold j75;omega
 have hq:∀j:Nat,20*(j:Int)≥clamp24 n->20*((j:Int)-1)<clamp24 n->j75 (clamp24 n) 20=j:=by intro j h1 h2;unfold j75;omega
 obtain⟨g0,g0'⟩:=g0;rw[e2];have hmm:max 0 (min n 24)=clamp24 n:=rfl;have hc:(n<=0/\clamp24 n=0)\/(24<n/\clamp24 n=24)\/(0<n/\n<=24/\clamp24 n=n):=dQ;clear e2;generalize clamp24 n=c at*;have Hp:=hid hp;have Hq:=hid hq;clear hp hq;rcases hc with ⟨h1,rfl⟩|⟨h1,rfl⟩|⟨h1,h1',rfl⟩
 all_goals
  go_enter Tryz.func97,Tryz.ntmps97
  go_wp2
 ·go_loop [3,4] (fun n k=>∃j:Nat,(j:Int)<=3/\10*((j:Int)-1)<0/\k=.int .i64 (10*j)/\n=.int .i64 (1+j)) (fun _ k=>(40-intOf k).toNat)
  case atStart=>exact⟨0,aa,aa,rfl,ag⟩
  case round=>
   obtain⟨j,h1,h2,rfl,rfl⟩:=hrel;go_wp2
   go_loop [3,5] (fun n k=>∃i:Nat,(i:Int)<=3/\20*((i:Int)-1)<0/\k=.int .i64 (20*i)/\n=.int .i64 (1+j+i)) (fun _ k=>(60-intOf k).toNat)
   case atStart=>exact⟨0,aa,aa,rfl,ag⟩
   case round=>
    obtain⟨i,h3,h4,rfl,rfl⟩:=hrel;go_wp2;exact gi
 ·go_loop [3,4] (fun n k=>∃j:Nat,(j:Int)<=3/\10*((j:Int)-1)<24/\k=.int .i64 (10*j)/\n=.int .i64 (25+j)) (fun _ k=>(40-intOf k).toNat)
  case atStart=>exact⟨0,aa,aa,rfl,ag⟩
  case round=>
   obtain⟨j,h1,h2,rfl,rfl⟩:=hrel;by_cases hlt:10*(j:Int)<24
   ·go_wp2;go_round
    case rel=>exact⟨j+1,aa,aa,an,an⟩
    case measure=>simp[intOf];omega
   ·go_wp2
    go_loop [3,5] (fun n k=>∃i:Nat,(i:Int)<=3/\20*((i:Int)-1)<24/\k=.int .i64 (20*i)/\n=.int .i64 (25+j+i)) (fun _ k=>(60-intOf k).toNat)
    case atStart=>exact⟨0,aa,aa,rfl,ag⟩
    case round=>
     obtain⟨i,h3,h4,rfl,rfl⟩:=hrel;by_cases hlt:20*(i:Int)<24
     ·go_wp2;exact ie
     ·go_wp2;exact gi
 ·go_loop [3,4] (fun v k=>∃j:Nat,(j:Int)<=3/\10*((j:Int)-1)<c/\k=.int .i64 (10*j)/\v=.int .i64 (c+1+j)) (fun _ k=>(40-intOf k).toNat)
  case atStart=>exact⟨0,aa,aa,rfl,ag⟩
  case round=>
   obtain⟨j,h1,h2,rfl,rfl⟩:=hrel;by_cases hlt:10*(j:Int)<c
   ·go_wp2;go_round
    case rel=>exact⟨j+1,aa,aa,an,an⟩
    case measure=>simp[intOf];omega
   ·go_wp2
    go_loop [3,5] (fun v k=>∃i:Nat,(i:Int)<=3/\20*((i:Int)-1)<c/\k=.int .i64 (20*i)/\v=.int .i64 (c+1+j+i)) (fun _ k=>(60-intOf k).toNat)
    case atStart=>exact⟨0,aa,aa,rfl,ag⟩
    case round=>
     obtain⟨i,h3,h4,rfl,rfl⟩:=hrel;by_cases hlt:20*(i:Int)<c
     ·go_wp2;exact ie
     ·go_wp2;exact gi
theorem jT0{r:Ring}{n:Int}(h:goodR r=false\/n<0):takeE r n=2:=by unfold takeE;rw[ij h]
theorem jX7{r:Ring}{n:Int}(h:¬(goodR r=false\/n<0))(h2:n>24-r.used):takeE r n=6:=by unfold takeE;rw[ii h,ij h2]
theorem jO7{r:Ring}{n:Int}(h:¬(goodR r=false\/n<0))(h2:¬n>24-r.used):takeE r n=0:=by unfold takeE;rw[ii h,ii h2]
theorem jI5{r:Ring}{n:Int}(h:takeE r n≠0):jN6 r n=r:=by unfold jN6;rw[ii h]
theorem jI4{r:Ring}{n:Int}(h:takeE r n≠0):jI3 r n=[]:=by unfold jI3;rw[ii h]
theorem k27{r:Ring}{n:Int}(h:takeE r n=0):jN6 r n=⟨(r.head+n)%24,r.used+n⟩:=by unfold jN6;rw[ij h]
theorem k26{r:Ring}{n:Int}(h:takeE r n=0):jI3 r n=places r.head n.toNat:=by unfold jI3;rw[ij h]
theorem eX{A:Prop}(h:A:=by
 go_enter Tryz.func111,Tryz.ntmps111
 go_wp2_with (go_at_call 108;refine(hG.out _).mono ?_;rintro e w1 ⟨rfl,hb1⟩;obtain⟨hbc,hbf⟩:=j51 hb1;have hbz:=hb1.size;try simp only[iN,iJ,World.size_drew] at hbz;have hz0:=ir (n:=w.heap.size) aa hbz;have hz1:=ir (n:=w.heap.size+1) aa hbz)
 exact iL (v:=.tuple #[.agg #[.int .i64 p,.int .i64 u],.slice none 0 0,.int .i64 2]) (by simp[results,Tryz.results111,go_sem,hbc]) rfl ⟨_,rfl,Own.nil _ _ _ _ _,aj⟩):A:=h
theorem je7(r : Ring)(n : Int)(w : World) :Calls Tryz.prog 111 #[r.val, .int .i64 n] w fun e w' =>
      ∃v,e=.returned (.tuple #[(jN6 r n).val,v,.int .i64 (takeE r n)])/\Wb.Own j_9 w.heap.size 3 1 w' v (jI3 r n)/\Below w.heap.size w w':=by
 obtain⟨p,u⟩:=r
 have hG:=fun w=>jQ8 ⟨p,u⟩ w
 have hgi:=j71 ⟨p,u⟩
 by_cases hb:goodR ⟨p,u⟩=false\/n<0
 ·rw[jI5 (by rw[jT0 hb];decide),jI4 (by rw[jT0 hb];decide),jT0 hb];clear hgi;generalize goodR ⟨p,u⟩=g at*;replace hG:=hid hG;unfold Ring.val at*;dsimp only at*
  cases g
  ·clear hb;exact eX
  ·replace hb:n<0:=by simpa using hb
   exact eX
 ·obtain⟨hg,hn⟩:goodR ⟨p,u⟩=true/\0<=n:=by simpa using hb
  obtain⟨g1,g2,g3,g4⟩:=hgi.1 hg;dsimp only at g1 g2 g3 g4;rw[hg] at hG;have hF:=fun w=>je5 ⟨p,u⟩ w g3 g4;replace hG:=hid hG;replace hF:=hid hF;by_cases hs:n>24-u
  ·rw[jI5 dP,jI4 dP,jX7 hb hs];clear hgi hb hg;unfold Ring.val at*;dsimp only at*;go_enter Tryz.func111,Tryz.ntmps111
   go_wp2_with (first| (go_at_call 108;refine(hG.out _).mono ?_;rintro e w1 ⟨rfl,hb1⟩;obtain⟨hbc,hbf⟩:=j51 hb1;have hbz:=hb1.size;try simp only[iN,iJ,World.size_drew] at hbz;have hz0:=ir (n:=w.heap.size) aa hbz;have hz1:=ir (n:=w.heap.size+1) aa hbz)| (go_at_call 82;refine(hF.out _).mono ?_;rintro e w2 ⟨rfl,hb1⟩;obtain⟨hbc,hbf⟩:=j51 hb1;have hbz:=hb1.size;try simp only[iN,iJ,World.size_drew] at hbz;have hz0:=ir (n:=w.heap.size) aa hbz;have hz1:=ir (n:=w.heap.size+1) aa hbz))
   exact iL (v:=.tuple #[.agg #[.int .i64 p,.int .i64 u],.slice none 0 0,.int .i64 6]) (by simp[results,Tryz.results111,go_sem, *]) rfl ⟨_,rfl,Own.nil _ _ _ _ _,aj⟩
  ·rw[k27 (jO7 hb hs),k26 (jO7 hb hs),jO7 hb hs];clear hgi hb hg;unfold Ring.val at*;dsimp only at*;go_enter Tryz.func111,Tryz.ntmps111
   go_wp2_with (first| (go_at_call 108;refine(hG.out _).mono ?_;rintro e w1 ⟨rfl,hb1⟩;obtain⟨hbc,hbf⟩:=j51 hb1;have hbz:=hb1.size;try simp only[iN,iJ,World.size_drew] at hbz;have hz0:=ir (n:=w.heap.size) aa hbz;have hz1:=ir (n:=w.heap.size+1) aa hbz)| (go_at_call 82;refine(hF.out _).mono ?_;rintro e w2 ⟨rfl,hb1⟩;obtain⟨hbc,hbf⟩:=j51 hb1;have hbz:=hb1.size;try simp only[iN,iJ,World.size_drew] at hbz;have hz0:=ir (n:=w.heap.size) aa hbz;have hz1:=ir (n:=w.heap.size+1) aa hbz))
   have k1:Blk w2 w.heap.size #[.int .i64 p,.int .i64 u] 38:=(((kk3 w _ _).alloc _).step cF).step cF;have k2:Blk w2 (w.heap.size+1) #[.int .i64 0,.int .i64 0] 38:=((kl8 (w:=w.alloc _) ag).step cF).step cF;have hw2:Below w.heap.size w w2:=aj;clear hbc hbf
   go_loopw [7,22] (fun l i wr=>∃k:Nat,(k:Int)<=n/\i=.int .i64 k/\Wb.Own j_9 (w.heap.size+2) 3 1 wr l (places p k)/\Blk wr w.heap.size #[.int .i64 ((p+k)%24),.int .i64 u] 38/\Blk wr (w.heap.size+1) #[.int .i64 0,.int .i64 0] 38/\Below w.heap.size w wr/\w.heap.size+1<wr.heap.size) (fun _ i _=>(n-intOf i).toNat)
   case atStart=>exact⟨0,aa,rfl,Own.nil _ _ _ _ _,by rw[show(p+((0:Nat):Int))%24=p from aa];exact k1,k2,hw2,aa⟩
   case round=>
    obtain⟨k,hk,rfl,hown,b1,b2,hnx,hz⟩:=hrel;have hz0:w.heap.size<wr.heap.size:=aa;have c0:=b1.cell 0;have c1:=b1.cell 1;have f0:=b1.free 0;have f1:=b1.free 1;simp only[jv,List.getElem?_cons_zero,List.getElem?_cons_succ] at c0 c1;by_cases hlt:(k:Int)<n
    ·go_wp2_with (at_builtin;(refine j70 rfl _ _ _ rfl (w.heap.size+2) _ 1 8 j9_ jz0 hown rfl ((p+k)%24) rfl rfl ?c1 ?c2 ?c3 ?c4))
     case c1=>rw[j87];omega
     case c2=>rw[j87];unfold maxLen;omega
     case c3=>omega
     case c4=>
      intro v' w' hown' hbel hgrow;rw[<-jL1] at hown';have b1':=b1.below hbel aa;have b2':=b2.below hbel aa;have hnx':=hnx.trans (hbel.mono aa);have hz':=hbel.size;have c0':=b1'.cell 0;have f0':=b1'.free 0;simp only[jv,List.getElem?_cons_zero,List.getElem?_cons_succ] at c0';go_wp2;go_roundw
      case rel=>
       refine⟨k+1,aa,an,hown'.setCell ag _,?_,b2'.set_other _ _ ag,hnx'.setCell (iy _) _,ah⟩;have hbb:=b1'.set 0 (.int .i64 ((p+k+1)%24));rw[show(p+((k+1:Nat):Int))=p+k+1 from aa];simpa using hbb
      case measure=>simp[intOf];omega
    ·have c2:=b2.cell 0;have c3:=b2.cell 1;have f2:=b2.free 0;have f3:=b2.free 1;simp only[jv,List.getElem?_cons_zero,List.getElem?_cons_succ] at c2 c3;go_wp2;obtain rfl:n=k:=aa;refine iL (v:=.tuple #[.agg #[.int .i64 ((p+k)%24),.int .i64 (u+k)],u7,.int .i64 0]) (by simp[results,Tryz.results111,go_sem,c0,c1,c2,c3]) rfl ⟨_,rfl,?_,?_⟩
     ·rw[Int.toNat_natCast];exact(((hown.setCell ag _).setCell ag _).setCell ag _).mono aa
     ·exact Zlo
theorem eZ{A:Prop}(h:A:=by
 go_enter Tryz.func95,Tryz.ntmps95
 go_wp2_with (go_at_call 92;refine(hG.out _).mono ?_;rintro e w1 ⟨rfl,hb1⟩;obtain⟨hbc,hbf⟩:=j51 hb1;have hbz:=hb1.size;try simp only[iN,iJ,World.size_drew] at hbz;have hz0:=ir (n:=w.heap.size) aa hbz;have hz1:=ir (n:=w.heap.size+1) aa hbz)
 exact iL (v:=.tuple #[.agg #[.int .i64 p,.int .i64 u],.slice none 0 0,.int .i64 2]) (by simp[results,Tryz.results95,go_sem,hbc]) rfl ⟨_,rfl,Own.nil _ _ _ _ _,aj⟩):A:=h
theorem jE1(r : Ring)(n : Int)(w : World) :Calls Tryz.prog 95 #[r.val, .int .i64 n] w fun e w' =>
      ∃v,e=.returned (.tuple #[(jN6 r n).val,v,.int .i64 (takeE r n)])/\Wb.Own j_9 w.heap.size 3 1 w' v (jI3 r n)/\Below w.heap.size w w':=by
 obtain⟨p,u⟩:=r
 have hG:=fun w=>jY8 ⟨p,u⟩ w
 have hgi:=j71 ⟨p,u⟩
 by_cases hb:goodR ⟨p,u⟩=false\/n<0
 ·rw[jI5 (by rw[jT0 hb];decide),jI4 (by rw[jT0 hb];decide),jT0 hb];clear hgi;generalize goodR ⟨p,u⟩=g at*;replace hG:=hid hG;unfold Ring.val at*;dsimp only at*
  cases g
  ·clear hb;exact eZ
  ·replace hb:n<0:=by simpa using hb
   exact eZ
 ·obtain⟨hg,hn⟩:goodR ⟨p,u⟩=true/\0<=n:=by simpa using hb
  obtain⟨g1,g2,g3,g4⟩:=hgi.1 hg;dsimp only at g1 g2 g3 g4;rw[hg] at hG;replace hG:=hid hG;by_cases hs:n>24-u
  ·rw[jI5 dP,jI4 dP,jX7 hb hs];clear hgi hb hg;unfold Ring.val at*;dsimp only at*;go_enter Tryz.func95,Tryz.ntmps95
   go_wp2_with (go_at_call 92;refine(hG.out _).mono ?_;rintro e w1 ⟨rfl,hb1⟩;obtain⟨hbc,hbf⟩:=j51 hb1;have hbz:=hb1.size;try simp only[iN,iJ,World.size_drew] at hbz;have hz0:=ir (n:=w.heap.size) aa hbz;have hz1:=ir (n:=w.heap.size+1) aa hbz)
   exact iL (v:=.tuple #[.agg #[.int .i64 p,.int .i64 u],.slice none 0 0,.int .i64 6]) (by simp[results,Tryz.results95,go_sem, *]) rfl ⟨_,rfl,Own.nil _ _ _ _ _,aj⟩
  ·rw[k27 (jO7 hb hs),k26 (jO7 hb hs),jO7 hb hs];clear hgi hb hg;unfold Ring.val at*;dsimp only at*;go_enter Tryz.func95,Tryz.ntmps95
   go_wp2_with (go_at_call 92;refine(hG.out _).mono ?_;rintro e w1 ⟨rfl,hb1⟩;obtain⟨hbc,hbf⟩:=j51 hb1;have hbz:=hb1.size;try simp only[iN,iJ,World.size_drew] at hbz;have hz0:=ir (n:=w.heap.size) aa hbz;have hz1:=ir (n:=w.heap.size+1) aa hbz)
   have k1:Blk w1 w.heap.size #[.int .i64 p,.int .i64 u] 38:=((kk3 w _ _).alloc _).step cF;have k2:Blk w1 (w.heap.size+1) #[.int .i64 0,.int .i64 0] 38:=(kl8 (w:=w.alloc _) ag).step cF;have hw2:Below w.heap.size w w1:=aj;clear hbc hbf
   go_loopw [7,8,24] (fun l _ i wr=>∃k:Nat,(k:Int)<=n/\i=.int .i64 k/\Wb.Own j_9 (w.heap.size+2) 3 1 wr l (places p k)/\Blk wr w.heap.size #[.int .i64 p,.int .i64 u] 38/\Blk wr (w.heap.size+1) #[.int .i64 0,.int .i64 0] 38/\Below w.heap.size w wr/\w.heap.size+1<wr.heap.size) (fun _ _ i _=>(n-intOf i).toNat)
   case atStart=>exact⟨0,aa,rfl,Own.nil _ _ _ _ _,k1,k2,hw2,aa⟩
   case round=>
    obtain⟨k,hk,rfl,hown,b1,b2,hnx,hz⟩:=hrel;have hz0:w.heap.size<wr.heap.size:=aa;have c0:=b1.cell 0;have c1:=b1.cell 1;have f0:=b1.free 0;have f1:=b1.free 1;have c2:=b2.cell 0;have c3:=b2.cell 1;have f2:=b2.free 0;have f3:=b2.free 1;simp only[jv,List.getElem?_cons_zero,List.getElem?_cons_succ] at c0 c1 c2 c3;by_cases hlt:(k:Int)<n
    ·go_wp2_with (at_builtin;refine j70 rfl _ _ _ rfl (w.heap.size+2) _ 1 8 j9_ jz0 hown rfl ((p+k)%24) rfl rfl ?c1 ?c2 ?c3 ?c4)
     case c1=>rw[j87];omega
     case c2=>rw[j87];unfold maxLen;omega
     case c3=>omega
     case c4=>
      intro v' w' hown' hbel hgrow;rw[<-jL1] at hown';have b1':=b1.below hbel aa;have b2':=b2.below hbel aa;have hnx':=hnx.trans (hbel.mono aa);have hz':=hbel.size;go_wp2;go_roundw
      case rel=>exact⟨k+1,aa,an,hown',b1',b2',hnx',aa⟩
      case measure=>simp[intOf];omega
    ·go_wp2;obtain rfl:n=k:=aa;refine iL (v:=.tuple #[.agg #[.int .i64 ((p+k)%24),.int .i64 (u+k)],u7,.int .i64 0]) (by simp[results,Tryz.results95,go_sem,c0,c1,c2,c3]) rfl ⟨_,rfl,?_,?_⟩
     ·rw[Int.toNat_natCast];exact((hown.setCell ag _).setCell ag _).mono aa
     ·exact Zlo
theorem kO8(r : Ring)(n : Int)(w : World) :Calls Tryz.prog 77 #[r.val, .int .i64 n] w fun e w' =>
      e=.returned (.tuple #[(giveR r n).val,.int .i64 (giveE r n)])/\Below w.heap.size w w':=by
 obtain⟨p,u⟩:=r
 have hG:=fun w=>jQ8 ⟨p,u⟩ w
 have hgi:=j71 ⟨p,u⟩
 by_cases hb:goodR ⟨p,u⟩=false\/n<0\/n>u
 ·have e1:giveE ⟨p,u⟩ n=2:=by unfold giveE;rw[ij hb]
  have e2:giveR ⟨p,u⟩ n=⟨p,u⟩:=by unfold giveR;rw[e1];rfl
  rw[e1,e2];clear hgi e1 e2;generalize goodR ⟨p,u⟩=g at*;replace hG:=hid hG;unfold Ring.val at*;dsimp only at*
  cases g
  ·clear hb;go_enter Tryz.func77,Tryz.ntmps77
   go_wp2_with (go_at_call 108;refine(hG.out _).mono ?_;rintro e w1 ⟨rfl,hb1⟩;obtain⟨hbc,hbf⟩:=j51 hb1;have hbz:=hb1.size;try simp only[iN,iJ,World.size_drew] at hbz;have hz0:=ir (n:=w.heap.size) aa hbz;have hz1:=ir (n:=w.heap.size+1) aa hbz)
   exact iL (v:=.tuple #[.agg #[.int .i64 p,.int .i64 u],.int .i64 2]) (by simp[results,Tryz.results77,go_sem,hbc]) rfl ⟨rfl,aj⟩
  ·replace hb:n<0\/u<n:=by simpa using hb
   by_cases hn:n<0
   all_goals
    go_enter Tryz.func77,Tryz.ntmps77
    go_wp2_with (go_at_call 108;refine(hG.out _).mono ?_;rintro e w1 ⟨rfl,hb1⟩;obtain⟨hbc,hbf⟩:=j51 hb1;have hbz:=hb1.size;try simp only[iN,iJ,World.size_drew] at hbz;have hz0:=ir (n:=w.heap.size) aa hbz;have hz1:=ir (n:=w.heap.size+1) aa hbz)
    exact iL (v:=.tuple #[.agg #[.int .i64 p,.int .i64 u],.int .i64 2]) (by simp[results,Tryz.results77,go_sem,hbc]) rfl ⟨rfl,aj⟩
 ·have e1:giveE ⟨p,u⟩ n=0:=by unfold giveE;rw[ii hb]
  have e2:giveR ⟨p,u⟩ n=⟨p,u-n⟩:=by unfold giveR;rw[e1];rfl
  rw[e1,e2];obtain⟨hg,hn,hn2⟩:goodR ⟨p,u⟩=true/\0<=n/\n<=u:=dC;obtain⟨g1,g2,g3,g4⟩:=hgi.1 hg;dsimp only at g1 g2 g3 g4;rw[hg] at hG;replace hG:=hid hG;clear hgi hb hg e1 e2;unfold Ring.val at*;dsimp only at*;go_enter Tryz.func77,Tryz.ntmps77
  go_wp2_with ((go_at_call 108;refine(hG.out _).mono ?_;rintro e w1 ⟨rfl,hb1⟩;obtain⟨hbc,hbf⟩:=j51 hb1;have hbz:=hb1.size;try simp only[iN,iJ,World.size_drew] at hbz;have hz0:=ir (n:=w.heap.size) aa hbz;have hz1:=ir (n:=w.heap.size+1) aa hbz);have c0:w1.cell? ⟨w.heap.size,0,none⟩=some (.int .i64 p):=Blk.cell (((kk3 w _ _).alloc _).step hb1) 0;have c1:w1.cell? ⟨w.heap.size,1,none⟩=some (.int .i64 u):=Blk.cell (((kk3 w _ _).alloc _).step hb1) 1;have c2:w1.cell? ⟨w.heap.size+1,0,none⟩=some (.int .i64 0):=Blk.cell ((kl8 (w:=w.alloc _) ag).step hb1) 0;have c3:w1.cell? ⟨w.heap.size+1,1,none⟩=some (.int .i64 0):=Blk.cell ((kl8 (w:=w.alloc _) ag).step hb1) 1;clear hbc)
  exact iL (v:=.tuple #[.agg #[.int .i64 p,.int .i64 (u-n)],.int .i64 0]) (by simp[results,Tryz.results77,go_sem,c0,c1,c2,c3,hbf]) rfl ⟨rfl,aj⟩
end Go.Proofs.YtlecmdajpfkaeaaGreatDoor
namespace Wb
open Go Go.RowKit
theorem Blk.c10{w : World}{g : Nat}{a0 a1 a2 a3 a4 a5 a6 a7 a8 a9 : Value}{T : TypeId}(k : Blk w g #[a0, a1, a2, a3, a4, a5, a6, a7, a8, a9] T) :w.cell? ⟨g,0,none⟩=some a0/\w.cell? ⟨g,1,none⟩=some a1/\w.cell? ⟨g,2,none⟩=some a2/\w.cell? ⟨g,3,none⟩=some a3/\w.cell? ⟨g,4,none⟩=some a4/\w.cell? ⟨g,5,none⟩=some a5/\w.cell? ⟨g,6,none⟩=some a6/\w.cell? ⟨g,7,none⟩=some a7/\w.cell? ⟨g,8,none⟩=some a8/\w.cell? ⟨g,9,none⟩=some a9:=
 ⟨k.cell 0,k.cell 1,k.cell 2,k.cell 3,k.cell 4,k.cell 5,k.cell 6,k.cell 7,k.cell 8,k.cell 9⟩
end Wb
namespace Go.Proofs.YtlecmdajpfkaeaaGreatDoor
open Go.RowKit Wb
theorem j53:Elem Tryz.prog 45 93 2 24:=kj_ (z:=.agg #[.int .i64 0,.string ⟨#[]⟩]) Tryz.underlying45 af rfl
theorem fR{A:Prop}(h:A:=by
 rw[hv];clear hv;go_enter Tryz.func24,Tryz.ntmps24;go_wp2;go_ret;exact⟨rfl,rfl⟩):A:=h
theorem j03(n:Int)(w:World):Calls Tryz.prog 24 #[.int .i64 n] w fun e w'=>e=.returned (.bool (isBlk n))/\w=w':=by
 by_cases h0:0<=n
 ·by_cases h1:n<12
  ·have hv:isBlk n=true:=iG ⟨h0,h1⟩;exact fR
  ·have hv:isBlk n=false:=iH (fun h=>h1 h.2);exact fR
 ·have hv:isBlk n=false:=iH (fun h=>h0 h.1);exact fR
theorem fV{A:Prop}(h:A:=by
 rw[e1,hno.out] at hs;replace hs:=hid hs;clear hb;generalize l[k]=x at*;go_wp2;go_round
 case rel=>exact⟨k+1,aa,an,hs⟩
 case measure=>simp[intOf];omega):A:=h
theorem jQ7(l : List Int)(b : Int)(v : Value)(w : World)(h : RL j_9 w v l)(hl : l.length <= 17592186044160) :Calls Tryz.prog 50 #[v,.int .i64 b] w fun e w'=>e=.returned (.bool (inI l b))/\w=w':=by
 obtain⟨a,cap,rfl,_⟩:=h.form;have hst:=fun k (hk:k<l.length)=>jK6 (l:=l) (b:=b) hk;have hft:=fun k (hk:¬k<l.length)=>k52 (l:=l) (b:=b) hk;have hht:=fun k (hk:k<l.length) (hb:l[k]=b)=>kS3 hk hb;replace h:=hid h;replace hst:=hid hst;replace hft:=hid hft;replace hht:=hid hht;go_enter Tryz.func50,Tryz.ntmps50;go_wp2
 go_loop [9] (fun i=>∃k:Nat,k<=l.length/\i=.int .i64 k/\Hid (inI (l.take k) b=false)) (fun i=>l.length-(intOf i).toNat)
 case atStart=>exact⟨0,iq _,rfl,hid (by simp[inI])⟩
 case round=>
  obtain⟨k,hk,rfl,hno⟩:=hrel;by_cases hlt:k<l.length
  ·obtain⟨b1,o1,rfl,c0⟩:=kl6 (fun x=>.int .i64 x) (fun _=>rfl) h.out hlt;by_cases hb:l[k]=b
   ·have hv:=hid (hht.out k hlt hb);have e1:(l[k]==b)=true:=iT.2 hb;clear hb;generalize l[k]=x at*;go_wp2;go_ret;exact⟨j6_ hv.out.symm,rfl⟩
   ·have hs:=hst.out k hlt;have e1:(l[k]==b)=false:=ik.2 hb;exact fV
  ·have hv:=hno.out;rw[hft.out k hlt] at hv;replace hv:=hid hv;go_wp2;go_ret;exact⟨j6_ hv.out.symm,rfl⟩
theorem eJ{A:Prop}(h:A:=by
 obtain⟨k,hk,rfl,hno,nx⟩:=hrel;by_cases hlt:k<l.length
 ·obtain⟨b1,o1,rfl,c0,c1⟩:=kj3 (fun x=>.int .i64 x.block) (fun x=>.string x.text) (fun _=>rfl) (h.out.below nx) hlt;by_cases hb:l[k].block=b
  ·have hv:=hht.out k hlt hno.out hb;have e1:(l[k].block==b)=true:=iT.2 hb;clear hb hno';generalize l[k]=x at*;subst hv;go_wp2;go_ret2;exact⟨ag,bal nx _⟩
  ·have hs:=hst.out k hlt;have e1:(l[k].block==b)=false:=ik.2 hb;rw[e1,hno.out] at hs;replace hs:=hid hs;clear hb;generalize l[k]=x at*;go_wp2;go_roundw
   case rel=>exact⟨k+1,aa,an,hs,bal nx _⟩
   case measure=>simp[intOf];omega
 ·have hv:=hno.out;rw[hft.out k hlt] at hv;have hg:=hno'.out hv;subst hg;clear hv hno';go_wp2;go_ret2;exact⟨rfl,nx⟩):A:=h
theorem jp3(l : List Cpy)(b : Int)(v : Value)(w : World)(h : RL j_3 w v l)(hl : l.length <= 5864062014805) :Calls Tryz.prog 25 #[v,.int .i64 b] w fun e w'=>e=.returned (.tuple #[.string ((getC l b).getD ⟨#[]⟩),.bool (getC l b).isSome])/\Below w.heap.size w w':=by
 obtain⟨a,cap,rfl,_⟩:=h.form;have hst:=fun k (hk:k<l.length)=>jz7 (l:=l) (b:=b) hk;have hft:=fun k (hk:¬k<l.length)=>jz6 (l:=l) (b:=b) hk;have hht:=fun k (hk:k<l.length) (hn:hasB (l.take k) b=false) (hb:l[k].block=b)=>jh3 hk hn hb;have hno':=fun(hn:hasB l b=false)=>jz5 hn;generalize getC l b=g at*;replace h:=hid h;replace hst:=hid hst;replace hft:=hid hft;replace hht:=hid hht;replace hno':=hid hno';go_enter Tryz.func25,Tryz.ntmps25;go_wp2
 go_loopw [7,10] (fun _ i wr=>∃k:Nat,k<=l.length/\i=.int .i64 k/\Hid (hasB (l.take k) b=false)/\Below w.heap.size w wr) (fun _ i _=>l.length-(intOf i).toNat)
 case atStart=>exact⟨0,iq _,rfl,hid (by simp[hasB]),b0 w⟩
 case round=>
  exact eJ
theorem jS4(l : List Cpy)(b : Int)(v : Value)(w : World)(h : RL j_3 w v l)(hl : l.length <= 1099511627776) :Calls Tryz.prog 56 #[v,.int .i64 b] w fun e w'=>∃v',e=.returned v'/\Wb.Own j_3 w.heap.size 93 2 w' v' (dropC l b)/\Below w.heap.size w w':=by
 obtain⟨a,cap,rfl,_⟩:=h.form;have hst:=fun k (hk:k<l.length)=>k19 (l:=l) (b:=b) hk;have hln:=fun k=>kU5 (l.take k) b;replace h:=hid h;replace hst:=hid hst;replace hln:=hid hln;go_enter Tryz.func56,Tryz.ntmps56;go_wp2
 go_loopw [5,7,10] (fun o _ i wr=>∃k:Nat,k<=l.length/\i=.int .i64 k/\Wb.Own j_3 w.heap.size 93 2 wr o (dropC (l.take k) b)/\Below w.heap.size w wr) (fun _ _ i _=>l.length-(intOf i).toNat)
 case atStart=>exact⟨0,iq _,rfl,by simpa [dropC] using Own.nil _ _ _ _ _,b0 w⟩
 case round=>
  obtain⟨k,hk,rfl,hown,nx⟩:=hrel;by_cases hlt:k<l.length
  ·obtain⟨b1,o1,rfl,c0,c1⟩:=kj3 (fun x=>.int .i64 x.block) (fun x=>.string x.text) (fun _=>rfl) (h.out.below nx) hlt;have hs:=hst.out k hlt;have hl2:=hln.out k;rw[iA] at hl2;by_cases hb:l[k].block=b
   ·rw[ij hb] at hs;have e1:(l[k].block != b)=false:=by rw[bne_eq_false_iff_eq];exact hb
    replace hs:=hid hs;clear hb;generalize l[k]=x at*;go_wp2;go_roundw
    case rel=>exact⟨k+1,aa,an,by rw[hs.out];exact hown.alloc _,bal nx _⟩
    case measure=>simp[intOf];omega
   ·rw[ii hb] at hs;have e1:(l[k].block != b)=true:=jd.2 hb;replace hs:=hid hs;clear hb;generalize l[k]=x at*;generalize dropC (l.take k) b=ls at*;have hsz:=nx.size
    go_wp2_with (at_builtin;(refine j70 rfl _ _ _ rfl w.heap.size _ 2 24 j91 j53 (hown.alloc _) rfl x rfl rfl ?c1 ?c2 ?c3 ?c4))
    all_goals try(case c1=>omega)
    all_goals try(case c2=>unfold maxLen;omega)
    all_goals try(case c3=>simp;omega)
    case c4=>
     intro v7 w7 hown7 hbel7 _;rw[<-hs.out] at hown7;go_wp2;go_roundw
     case rel=>exact⟨k+1,aa,an,hown7,(bal nx _).trans hbel7⟩
     case measure=>simp[intOf];omega
  ·rw[iV aa] at hown;go_wp2;go_ret;exact⟨_,rfl,hown,nx⟩
theorem jS5(l : List Cpy)(b : Int)(s : ByteArray)(v : Value)(w : World)(h : RL j_3 w v l)(hl : l.length <= 5864062014805) :Calls Tryz.prog 57 #[v,.int .i64 b,.string s] w fun e w'=>∃v',e=.returned v'/\Wb.Own j_3 w.heap.size 93 2 w' v' (k71 l b s)/\Below w.heap.size w w':=by
 obtain⟨a,cap,rfl,_⟩:=h.form;have hT:=fun(k:Nat) w (hh:RL j_3 w (.slice a l.length cap) l)=>jp3 l k _ w hh hl;have hst:=fun k=>jo0 l b s k;have hln:=fun k=>kL5 l b s k;have hwk:∀k:Nat,kX4 l b s k=if(k:Int)=b then some ⟨b,s⟩ else(getC l k).map fun t=>⟨k,t⟩:=fun _=>rfl;have hwl:k71 l b s=ju3 l b s 12:=rfl;have hn0:ju3 l b s 0=[]:=rfl;rw[hwl];replace h:=hid h;replace hT:=hid hT;replace hst:=hid hst;replace hln:=hid hln;replace hwk:=hid hwk;replace hn0:=hid hn0;clear hwl hl;generalize hW:ju3 l b s=W at*;clear hW;go_enter Tryz.func57,Tryz.ntmps57;go_wp2
 go_loopw [7,11] (fun o i wr=>∃k:Nat,k<=12/\i=.int .i64 k/\Wb.Own j_3 w.heap.size 93 2 wr o (W k)/\Below w.heap.size w wr) (fun _ i _=>12-(intOf i).toNat)
 case atStart=>exact⟨0,ae,rfl,by rw[hn0.out];exact Own.nil _ _ _ _ _,b0 w⟩
 case round=>
  obtain⟨k,hk,rfl,hown,nx⟩:=hrel;by_cases hlt:k<12
  ·have hs:=hst.out k;have hw2:=hwk.out k;have hl2:=hln.out k;have hTk:=hT.out k;generalize getC l k=g at*;generalize W k=Wk at*;by_cases hb:(k:Int)=b
   ·rw[hw2,ij hb,Option.toList_some] at hs;have e1:((k:Int)==b)=true:=iT.2 hb;replace hs:=hid hs;replace hTk:=hid hTk;clear hb hw2
    go_wp2_with (first|(go_at_call 25;((with_reducible refine(hTk.out _ (h.out.below nx)).mono ?_);rintro e w1 ⟨rfl,hb1⟩;have nx1:=bgo nx hb1;have hown:=hown.below hb1;have hsz:=nx1.size))|(at_builtin;(refine j70 rfl _ _ _ rfl w.heap.size _ 2 24 j91 j53 hown rfl ⟨b,s⟩ rfl rfl aa aE nx1.size ?_);intro v7 w7 hown7 hbel7 _))
    rw[<-hs.out] at hown7;go_wp2;go_roundw
    case rel=>exact⟨k+1,aa,an,hown7,nx1.trans hbel7⟩
    case measure=>simp[intOf];omega
   ·rw[hw2,ii hb] at hs;have e1:((k:Int)==b)=false:=ik.2 hb;clear hb hw2
    cases g with
    |none=>
     simp only[Option.map_none,Option.toList_none,i6] at hs
     simp only[Option.getD_none,Option.isSome_none] at hTk
     replace hs:=hid hs;replace hTk:=hid hTk
     go_wp2_with (go_at_call 25;((with_reducible refine(hTk.out _ (h.out.below nx)).mono ?_);rintro e w1 ⟨rfl,hb1⟩;have nx1:=bgo nx hb1;have hown:=hown.below hb1;have hsz:=nx1.size))
     go_roundw
     case rel=>exact⟨k+1,aa,an,by rw[hs.out];exact hown,nx1⟩
     case measure=>simp[intOf];omega
    |some t=>
     simp only[Option.map_some,Option.toList_some] at hs
     simp only[Option.getD_some,Option.isSome_some] at hTk
     replace hs:=hid hs;replace hTk:=hid hTk
     go_wp2_with (first|(go_at_call 25;((with_reducible refine(hTk.out _ (h.out.below nx)).mono ?_);rintro e w1 ⟨rfl,hb1⟩;have nx1:=bgo nx hb1;have hown:=hown.below hb1;have hsz:=nx1.size))|(at_builtin;(refine j70 rfl _ _ _ rfl w.heap.size _ 2 24 j91 j53 hown rfl ⟨(k:Int),t⟩ rfl rfl aa aE nx1.size ?_);intro v7 w7 hown7 hbel7 _))
     rw[<-hs.out] at hown7
     go_wp2
     go_roundw
     case rel=>exact⟨k+1,aa,an,hown7,nx1.trans hbel7⟩
     case measure=>simp[intOf];omega
  ·obtain rfl:k=12:=by omega
   go_wp2;go_ret;exact⟨_,rfl,hown,nx⟩
theorem fZ{A:Prop}(h:A:=by
 rw[hv];go_enter Tryz.func142,Tryz.ntmps142;go_wp2;go_ret;exact⟨rfl,rfl⟩):A:=h
theorem ju2(b:Int)(w:World):Calls Tryz.prog 142 #[.int .i64 b] w fun e w'=>e=.returned (.bool (isBlk b))/\w=w':=by
 by_cases h0:0<=b
 ·by_cases h1:b<12
  ·have hv:isBlk b=true:=iG ⟨h0,h1⟩;exact fZ
  ·have hv:isBlk b=false:=iH fun hh=>h1 hh.2;exact fZ
 ·have hv:isBlk b=false:=iH fun hh=>h0 hh.1;exact fZ
theorem fU{A:Prop}(h:A:=by
 go_enter Tryz.func162,Tryz.ntmps162;go_wp2;go_ret;exact⟨rfl,bal (b0 w) _⟩):A:=h
theorem kM8(c:Cpy)(b:Int)(w:World):Calls Tryz.prog 162 #[.agg #[.int .i64 c.block,.string c.text],.int .i64 b] w fun e w'=>e=.returned (.int .i64 (cmpI c.block b))/\Below w.heap.size w w':=by
 obtain⟨x,s⟩:=c;have k0:=kk3 w #[.int .i64 x,.string s] 93;have c0:=k0.cell 0;have c1:=k0.cell 1;simp only[Zga,Zgb,Zgc] at c0 c1;dsimp only;by_cases h1:x<b
 ·rw[kV5 h1];exact fU
 ·by_cases h2:b<x
  ·rw[jb8 h2];exact fU
  ·have h3:x=b:=by omega
   rw[jb7 h3];subst h3;exact fU
theorem fL{A:Prop}(h:A:=by
 replace hCx:=hid hCx;clear hx hge hh2
 go_wp2_with (go_at_call 162;((with_reducible refine(hCx.out _).mono ?_);rintro e w1 ⟨rfl,hb1⟩))
 go_ret2;exact⟨cN,bgo nx hb1⟩):A:=h
theorem jN3(l : List Cpy)(b : Int)(v : Value)(w : World)(hs : rise (blks l) = true)(h : RL j_3 w v l)(hl : l.length <= 5864062014805) :Calls Tryz.prog 161 #[v,.int .i64 b,.func (.func 162) #[] #[]] w fun e w'=>e=.returned (.tuple #[.int .i64 (posB l b:Nat),.bool (hasB l b)])/\Below w.heap.size w w':=by
 obtain⟨a,cap,rfl,_⟩:=h.form;have hr:=hid (kE2 hs);have hpo:=hid (fun i h0 h1 h2=>kB0 (l:=l) (b:=b) (i:=i) h0 h1 h2);have hha:=hid (fun i h1 h2=>kC3 (l:=l) (b:=b) (i:=i) hr.out h1 h2);generalize posB l b=p at*;generalize hasB l b=hb at*;have hC:=fun c w=>kM8 c b w;replace h:=hid h;replace hC:=hid hC;clear hs;go_enter Tryz.func161,Tryz.ntmps161;go_wp2
 go_loopg [9,10] l.length (fun kx s9 s10 wr=>∃lo hi:Nat,s9=.int .i64 lo/\s10=.int .i64 hi/\lo<=hi/\hi<=l.length/\hi-lo<=kx/\Below w.heap.size w wr/\Hid (∀k (hk:k<l.length),k<lo->l[k].block<b)/\Hid (∀k (hk:k<l.length),hi<=k->b<=l[k].block))
 case atStart=>exact⟨0,l.length,rfl,rfl,iq _,iy _,aa,b0 w,hid (fun k _ hk=>absurd hk (jl k)),hid (fun k hk h2=>aa)⟩
 case round=>
  obtain⟨lo,hi,rfl,rfl,hlh,hin,hg,nx,i1,i2⟩:=hrel;by_cases hlt:lo<hi
  ·have hm:(lo+hi)/2<l.length:=by omega
   obtain⟨b1,o1,rfl,c0,c1⟩:=kj3 (fun x=>.int .i64 x.block) (fun x=>.string x.text) (fun _=>rfl) (h.out.below nx) hm
   have j1:=hid (fun(hh:l[(lo+hi)/2].block<b)=>(show∀k (hk:k<l.length),k<(lo+hi)/2+1->l[k].block<b from fun k hk hk2=>by
    by_cases e:k=(lo+hi)/2
    ·subst e;exact hh
    ·have:=hr.out _ hm k aa;omega))
   have j2:=hid (fun(hh:b<=l[(lo+hi)/2].block)=>(show∀k (hk:k<l.length),(lo+hi)/2<=k->b<=l[k].block from fun k hk hk2=>by
    by_cases e:k=(lo+hi)/2
    ·subst e;exact hh
    ·have:=hr.out k hk _ (show(lo+hi)/2<k from aa);omega))
   generalize l[(lo+hi)/2]=x at*;have hCx:=hC.out x;by_cases hx:x.block<b
   ·rw[kV5 hx] at hCx;replace j1:=hid (j1.out hx);replace hCx:=hid hCx;clear j2
    go_wp2_with (go_at_call 162;((with_reducible refine(hCx.out _).mono ?_);rintro e w1 ⟨rfl,hb1⟩))
    go_roundg (hi-((lo+hi)/2+1))
    case measure=>omega
    case rel=>exact⟨(lo+hi)/2+1,hi,by rw[show((lo:Int)+(hi:Int))/2+1=(((lo+hi)/2+1:Nat):Int) from aa],rfl,aa,hin,iy _,bgo nx hb1,j1,i2⟩
   ·have hnn : ¬ cmpI x.block b < 0 := by
      by_cases h2:b<x.block
      · rw[jb8 h2];decide
      · rw[jb7 aa];decide
    generalize cmpI x.block b=cv at*;replace j2:=hid (j2.out aa);replace hCx:=hid hCx;clear j1 hx
    go_wp2_with (go_at_call 162;((with_reducible refine(hCx.out _).mono ?_);rintro e w1 ⟨rfl,hb1⟩))
    go_roundg ((lo+hi)/2-lo)
    case measure=>omega
    case rel=>exact⟨lo,(lo+hi)/2,rfl,by rw[show((lo:Int)+(hi:Int))/2=(((lo+hi)/2:Nat):Int) from aa],aa,aa,iy _,bgo nx hb1,i1,j2⟩
  ·obtain rfl:hi=lo:=by omega
   have hp:=hid (hpo.out hi hin i1.out i2.out);have hh:=hid (hha.out hi i1.out i2.out);by_cases hn:hi<l.length
   ·obtain⟨b1,o1,rfl,c0,c1⟩:=kj3 (fun x=>.int .i64 x.block) (fun x=>.string x.text) (fun _=>rfl) (h.out.below nx) hn;have hge:=i2.out hi hn (iy _);have hh2:hb=true↔l[hi].block=b:=⟨fun h=>(hh.out.1 h).2,fun h=>hh.out.2 ⟨hn,h⟩⟩;clear i1 i2 hh;generalize l[hi]=x at*;have hCx:=hC.out x;by_cases hx:x.block=b
    ·have hv:=hid (hh2.2 hx);rw[jb7 hx] at hCx;exact fL
    ·have hv := hid (show hb = false by
       cases hbv:hb with
       |false=>rfl
       |true=>exact absurd (hh2.1 hbv) hx)
     rw[jb8 aa] at hCx;exact fL
   ·have hv := hid (show hb = false by
      cases hbv:hb with
      |false=>rfl
      |true=>obtain⟨h1,_⟩:=hh.out.1 hbv;omega)
    clear hh i1 i2;go_wp2;go_ret2;exact⟨cN,nx⟩
theorem k1_(l : List Cpy)(b : Int)(v : Value)(w : World)(hs : rise (blks l) = true)(h : RL j_3 w v l)(hl : l.length <= 5864062014805) :Calls Tryz.prog 147 #[v,.int .i64 b] w fun e w'=>e=.returned (.tuple #[.int .i64 (posB l b:Nat),.bool (hasB l b)])/\Below w.heap.size w w':=by
 have hB:=hid (jN3 l b v w hs h hl);obtain⟨a,cap,rfl,_⟩:=h.form;generalize posB l b=p at*;clear h hs;go_enter Tryz.func147,Tryz.ntmps147
 go_wp2_with (go_at_call 161;((with_reducible refine hB.out.mono ?_);rintro e w1 ⟨rfl,hb1⟩))
 go_ret2;exact⟨rfl,hb1⟩
theorem j20(l : List Cpy)(b : Int)(v : Value)(w : World)(hs : rise (blks l) = true)(h : RL j_3 w v l)(hl : l.length <= 5864062014805) :Calls Tryz.prog 122 #[v,.int .i64 b] w fun e w'=>e=.returned (.bool (hasB l b))/\Below w.heap.size w w':=by
 have hB:=hid (k1_ l b v w hs h hl);obtain⟨a,cap,rfl,_⟩:=h.form;clear h hs;go_enter Tryz.func122,Tryz.ntmps122
 go_wp2_with (go_at_call 147;((with_reducible refine hB.out.mono ?_);rintro e w1 ⟨rfl,hb1⟩))
 go_ret;exact⟨rfl,hb1⟩
end Go.Proofs.YtlecmdajpfkaeaaGreatDoor
namespace Wb
open Go Go.RowKit
def kE8(l:List Cpy)(k:Nat):Prop:=∀(hk:k<l.length),isBlk l[k].block=true/\l[k].text.size=32/\(∀(h:0<k),l[k-1].block<l[k].block)
theorem jr4(l:List Cpy):copiesB l=true↔ ∀k,k<l.length->kE8 l k:=by
 unfold copiesB;rw[iD,jY9,ja];have hg:∀j (hj:j<l.length),(blks l).getD j 0=l[j].block:=fun j hj=>by simp[blks,hj]
 have hlen:(blks l).length=l.length:=by simp[blks]
 constructor
 ·rintro⟨h1,h2⟩ k hk hk2;have:=h1 k aa;unfold j61 at this;rw[hg k hk] at this;refine⟨iG ⟨this.1,this.2.1⟩,iF (h2 _ (iM hk)),fun h=>?_⟩;have h3:=this.2.2 h;rw[hg (k-1) aa] at h3;exact h3
 ·intro h;refine⟨fun k hk=>?_,fun x hx=>?_⟩
  ·have hk2:k<l.length:=by omega
   obtain⟨g1,g2,g3⟩:=h k hk2 hk2;have g1:=iF g1;unfold j61;rw[hg k hk2];refine⟨g1.1,g1.2,fun h0=>?_⟩;rw[hg (k-1) aa];exact g3 h0
  ·obtain⟨k,hk,rfl⟩:=i_.1 hx;exact iG (h k hk hk).2.1
theorem k16{l:List Cpy}{k:Nat}(hk:k<l.length)(h:¬kE8 l k):copiesB l=false:=by
 rw[<-iW,jr4];exact fun hh=>h (hh k hk)
def ko_(h:Hnd):List Value:=[.bool h.on,.int .i64 h.left]
end Wb
namespace Go.Proofs.YtlecmdajpfkaeaaGreatDoor
open Go.RowKit Wb
theorem fY{A:Prop}(h:A:=by
 rw[hv];go_enter Tryz.func118,Tryz.ntmps118;go_wp2;go_ret;exact⟨rfl,rfl⟩):A:=h
theorem jT2(b:Int)(w:World):Calls Tryz.prog 118 #[.int .i64 b] w fun e w'=>e=.returned (.bool (jK7 b))/\w=w':=by
 by_cases h0:0<=b
 ·by_cases h1:b<3
  ·have hv:jK7 b=true:=iG ⟨h0,h1⟩;exact fY
  ·have hv:jK7 b=false:=iH fun hh=>h1 hh.2;exact fY
 ·have hv:jK7 b=false:=iH fun hh=>h0 hh.1;exact fY
theorem fb{A:Prop}(h:A:=by
 go_wp2;refine j83 af af ?_
 repeat(go_big_quiet_step ((go_at_call 142;exact kl4 (hBk.out _))))
 refine lv ?_;intro _ hw';obtain⟨⟨wq,hq⟩,rfl⟩:=hw';go_wp2;go_ret;exact⟨rfl,(bal nx _).trans (hq.mono cV)⟩):A:=h
theorem jo_(l : List Cpy)(v : Value)(w : World)(h : RL j_3 w v l)(hl : l.length <= 5864062014805) :Calls Tryz.prog 141 #[v] w fun e w'=>e=.returned (.bool (copiesB l))/\Below w.heap.size w w':=by
 obtain⟨a,cap,rfl,_⟩:=h.form;have hci:=jr4 l;have hno:=fun k hk hh=>k16 (l:=l) (k:=k) hk hh;have hB:=fun b w=>ju2 b w;generalize copiesB l=cb at*;replace h:=hid h;replace hci:=hid hci;replace hno:=hid hno;replace hB:=hid hB;go_enter Tryz.func141,Tryz.ntmps141;go_wp2
 go_loopw [3,4,7] (fun _ _ i wr=>∃k:Nat,k<=l.length/\i=.int .i64 k/\Hid (∀j,j<k->kE8 l j)/\Below w.heap.size w wr) (fun _ _ i _=>l.length-(intOf i).toNat)
 case atStart=>exact⟨0,iq _,rfl,hid (fun j hj=>absurd hj (jl j)),b0 w⟩
 case round=>
  obtain⟨k,hk,rfl,hall,nx⟩:=hrel;by_cases hlt:k<l.length
  ·obtain⟨b1,o1,rfl,d0,d1⟩:=kj3 (fun x=>.int .i64 x.block) (fun x=>.string x.text) (fun _=>rfl) (h.out.below nx) hlt
   have hsk:=hid (show isBlk l[k].block=true->l[k].text.size=32->(∀(h:0<k),l[k-1].block<l[k].block)->∀j,j<k+1->kE8 l j from fun h1 h2 h3 j hj=>by
    by_cases e:j=k
    ·subst e;exact fun _=>⟨h1,h2,h3⟩
    ·exact hall.out j aa)
   have hnk:=hid (show¬(isBlk l[k].block=true/\l[k].text.size=32/\(∀(h:0<k),l[k-1].block<l[k].block))->cb=false from fun h=>hno.out k hlt (fun hh=>h (hh hlt)));have hBk:=hB.out l[k].block;by_cases hb:isBlk l[k].block=true
   ·rw[hb] at hBk;by_cases hs:l[k].text.size=32
    ·have hs2:((l[k].text.size:Int) != 32)=false:=by rw[hs];rfl
     rcases kC k with hk0|hk0
     ·subst hk0;have hs3:=hid (hsk.out hb hs (fun h=>absurd h (lI 0)));simp only[kq,Nat.add_zero] at d0 d1;clear hsk hnk hs hb hall;replace hBk:=hid hBk;generalize l[0]=x at*;obtain⟨xb,xt⟩:=x;dsimp only at*;have kx:=kk3 wr #[.int .i64 xb,.string xt] 93;have x0:=kx.cell 0;have x1:=kx.cell 1;simp only[Zga,Zgb,Zgc] at x0 x1;go_wp2;refine j83 af af ?_
      repeat(go_big_quiet_step ((go_at_call 142;exact kl4 (hBk.out _))))
      refine lv ?_;intro _ hw';obtain⟨⟨wq,hq⟩,rfl⟩:=hw';go_wp2;go_roundw
      case rel=>exact⟨1,aa,an,hs3,(bal nx _).trans (hq.mono cV)⟩
      case measure=>simp[intOf];omega
     ·obtain⟨j,rfl⟩:∃j,k=j+1:=⟨k-1,aa⟩;have hlj:j<l.length:=aa;obtain⟨b2,off2,hbb,d2,d3⟩:=kj3 (fun x=>.int .i64 x.block) (fun x=>.string x.text) (fun _=>rfl) (h.out.below nx) hlj;simp only[iO,jJ] at hbb;obtain⟨rfl,rfl,_⟩:=hbb;have e1:j+1-1=j:=aa;by_cases hlt2:l[j].block<l[j+1].block
      ·have hs3:=hid (hsk.out hb hs (fun h=>hlt2));clear hsk hnk hs hb hall;replace hBk:=hid hBk;generalize l[j+1]=x at*;generalize l[j]=y at*;obtain⟨xb,xt⟩:=x;obtain⟨yb,yt⟩:=y;dsimp only at*;have kx:=kk3 wr #[.int .i64 xb,.string xt] 93;have x0:=kx.cell 0;have x1:=kx.cell 1;simp only[Zga,Zgb,Zgc] at x0 x1;have lt1:=i0 _ _ d2;dsimp only at lt1;go_wp2;refine j83 af af ?_
       repeat(go_big_quiet_step ((go_at_call 142;exact kl4 (hBk.out _))))
       refine lv ?_;intro _ hw';obtain⟨⟨wq,hq⟩,rfl⟩:=hw';go_wp2;go_roundw
       case rel=>exact⟨j+1+1,aa,an,hs3,(bal nx _).trans (hq.mono cV)⟩
       case measure=>simp[intOf];omega
      ·have hv:=hnk.out (fun hh=>hlt2 (hh.2.2 aa));subst hv;clear hsk hnk hs hb hall;replace hBk:=hid hBk;generalize l[j+1]=x at*;generalize l[j]=y at*;obtain⟨xb,xt⟩:=x;obtain⟨yb,yt⟩:=y;dsimp only at*;have kx:=kk3 wr #[.int .i64 xb,.string xt] 93;have x0:=kx.cell 0;have x1:=kx.cell 1;simp only[Zga,Zgb,Zgc] at x0 x1;have lt1:=i0 _ _ d2;dsimp only at lt1;exact fb
    ·have hv:=hnk.out (fun hh=>hs hh.2.1);subst hv;have hs2:((l[k].text.size:Int) != 32)=true:=jd.2 aa;clear hsk hnk hs hb hall;replace hBk:=hid hBk;generalize l[k]=x at*;obtain⟨xb,xt⟩:=x;dsimp only at*;have kx:=kk3 wr #[.int .i64 xb,.string xt] 93;have x0:=kx.cell 0;have x1:=kx.cell 1;simp only[Zga,Zgb,Zgc] at x0 x1;exact fb
   ·have hv:=hnk.out (fun hh=>hb hh.1);subst hv;rw[iW] at hb;rw[hb] at hBk;clear hsk hnk hb hall;replace hBk:=hid hBk;generalize l[k]=x at*;obtain⟨xb,xt⟩:=x;dsimp only at*;have kx:=kk3 wr #[.int .i64 xb,.string xt] 93;have x0:=kx.cell 0;have x1:=kx.cell 1;simp only[Zga,Zgb,Zgc] at x0 x1;exact fb
  ·have hv:=hci.out.2 (fun j hj=>hall.out j aa);subst hv;clear hall;go_wp2;go_ret;exact⟨rfl,nx⟩
end Go.Proofs.YtlecmdajpfkaeaaGreatDoor