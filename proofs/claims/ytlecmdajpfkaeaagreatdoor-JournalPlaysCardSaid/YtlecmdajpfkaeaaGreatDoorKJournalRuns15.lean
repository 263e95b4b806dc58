/- Parts of the proof. -/
import Derived.Test.YtlecmdajpfkaeaaGreatDoorKJournalRuns11
set_option linter.unusedVariables false
set_option linter.unusedSimpArgs false
set_option maxRecDepth 100000
set_option maxHeartbeats 40000000
namespace Go.Proofs.YtlecmdajpfkaeaaGreatDoor
open Go.RowKit Wb
theorem k58{tags:List Tag}{k:Nat}(hk:k<tags.length):(tags.map (·.block)).getD k 0=tags[k].block:=by simp[hk]
theorem jg6{l:List Int}{k:Nat}(hk:k<l.length):l.getD k 0=l[k]:=by simp[hk]
theorem fq{A:Prop}(h:A:=by
 go_wp2;refine j83 af af ?_
 repeat(go_big_quiet_step ((go_at_call 100;exact kl4 (hsb.out _))))
 refine lv ?_;intro _ hw';obtain⟨⟨wq,hq⟩,rfl⟩:=hw';go_wp2;go_ret;exact⟨rfl,(j63 hnx (iy _) _).trans (hq.mono ah)⟩):A:=h
theorem gA{A:Prop}(h:A:=by
 exact⟨fun h=>h.2.2 aa,fun h=>⟨hb'.1,hb'.2,fun _=>h⟩⟩):A:=h
theorem gP{A:Prop}(h:A:=by
 go_wp2_with (go_at_call 100;refine(hsb.out _).mono ?_;rintro e w' ⟨rfl,rfl⟩)
 go_ret;exact⟨rfl,hnx⟩):A:=h
theorem jk3(m : Mrk)(v : Value)(w : World)(hm : j1_ w v m)(hA : ¬ j97 m)(hB : ¬ j78 m)(hC : ¬ j88 m)(hD : ¬ j44 m) :Calls Tryz.prog 66 #[v] w fun e w'=>e=.returned (.int .i64 (markE m))/\Below w.heap.size w w':=by
 obtain⟨vt,vb,rfl,ht,hbk,n1,n2⟩:=hm;have hE1:j48 m->markE m=2:=fun h=>jH6 hA hB hC h;have hE0:¬j48 m->markE m=0:=fun h=>jO0 hA hB hC hD h;generalize markE m=er at*;obtain⟨kd,sq,at_,tags,blks⟩:=m;unfold j97 at hA;unfold j78 at hB;unfold j88 at hC;unfold j44 at hD;unfold j48 at hE1 hE0;dsimp only at*;replace hE1:=hid hE1;replace hE0:=hid hE0;obtain⟨ta,tcap,rfl,tc1,tc2⟩:=ht.form;obtain⟨ba,bcap,rfl,bc1,bc2⟩:=hbk.form;unfold maxLen at tc2 bc2;have hk:kd=1\/kd=2\/kd=3\/kd=4:=aa;obtain⟨q1,q2,q3,q4⟩:1<=sq/\sq<=2147483647/\0<=at_/\at_<24:=aa;have g1:kd=1\/at_=0:=aa;have g2:kd=2\/tags.length<=0:=aa;have g3:kd=3\/blks.length<=0:=aa;have g4:tags.length<=10/\blks.length<=20/\(kd=2->0<tags.length)/\(kd=3->0<blks.length):=aa;obtain⟨g4,g5,g6,g7⟩:=g4;have e1:kd=2->((tags.length:Int)==0)=false:=fun h=>ik.2 (by have:=g6 h;omega);have e2:kd=3->((blks.length:Int)==0)=false:=fun h=>ik.2 (by have:=g7 h;omega);clear hA hB hC hD;have nf:0<w.heap.size+1:=aa;go_enter Tryz.func66,Tryz.ntmps66
 go_upto_block 0 with fail
 go_cut [2] (fun s2 wx=>wx=w.alloc (.cells #[.int .i64 kd,.int .i64 sq,.int .i64 at_,.slice ta tags.length tcap,.slice ba blks.length bcap] 67))
 case first=>
  clear hE0 hE1 n1 n2 tc1 tc2 bc1 bc2 nf;rcases hk with rfl|rfl|rfl|rfl
  ·replace g2:tags.length<=0:=by omega
   replace g3:blks.length<=0:=aa;clear g1 g6 g7 e1 e2;go_wp2;go_meet;exact rfl
  ·replace g3:blks.length<=0:=by omega
   replace e1:=e1 rfl;obtain rfl:at_=0:=aa;clear g1 g2 g6 g7 e2;go_wp2;go_meet;exact rfl
  ·replace g2:tags.length<=0:=by omega
   replace e2:=e2 rfl;obtain rfl:at_=0:=aa;clear g1 g3 g6 g7 e1;go_wp2;go_meet;exact rfl
  ·replace g2:tags.length<=0:=by omega
   replace g3:blks.length<=0:=aa;obtain rfl:at_=0:=aa;clear g1 g6 g7 e1 e2;go_wp2;go_meet;exact rfl
 case rest=>
  subst hcut;have kb:Blk (w.alloc (.cells #[.int .i64 kd,.int .i64 sq,.int .i64 at_,.slice ta tags.length tcap,.slice ba blks.length bcap] 67)) w.heap.size #[.int .i64 kd,.int .i64 sq,.int .i64 at_,.slice ta tags.length tcap,.slice ba blks.length bcap] 67:=kk3 w _ _;go_wp2
  go_loopw [2,3,4,102] (fun _ _ _ i wr=>∃k:Nat,k<=tags.length/\i=.int .i64 k/\jR3 (tags.map (·.block)) k/\Blk wr w.heap.size #[.int .i64 kd,.int .i64 sq,.int .i64 at_,.slice ta tags.length tcap,.slice ba blks.length bcap] 67/\Below w.heap.size w wr) (fun _ _ _ i _=>tags.length-(intOf i).toNat)
  case atStart=>exact⟨0,iq _,rfl,fun j hj=>absurd hj (jl j),kb,aj⟩
  case round=>
   obtain⟨k,hk,rfl,hr,kb,hnx⟩:=hrel;have c3:=kb.cell 3;have c4:=kb.cell 4;simp only[Zga,Zgb,Zgc] at c3 c4;have lt0:=kb.lt;by_cases hlt:k<tags.length
   ·have hx:=k58 hlt;obtain⟨b,off,rfl,d0,d1⟩:=kj3 (fun x=>.int .i64 x.block) (fun x=>.bool x.esc) (fun _=>rfl) (ht.below hnx) hlt;have lt1:=i0 _ _ d0;dsimp only at lt1;have lt2:b<wr.heap.size+1:=aa;have lt3:w.heap.size<wr.heap.size+1:=aa;have hs:∀(P:Prop),j61 (tags.map (·.block)) k->(jR3 (tags.map (·.block)) (k+1)->P)->P:=fun P h1 h2=>h2 (j30 hr h1);have hno:¬j61 (tags.map (·.block)) k->er=2:=fun hh=>hE1.out (.inl (jl7 (by simpa using hlt) hh));by_cases hb:isBlk tags[k].block=true
    ·have hb':0<=tags[k].block/\tags[k].block<12:=by simpa [isBlk] using hb
     have hsb:=fun w=>jS9 tags[k].block w;rw[hb] at hsb;replace hsb:=hid hsb;rcases kC k with hk0|hk0
     ·subst hk0;have hA:j61 (tags.map (·.block)) 0:=ch;have hr1:=j30 hr hA;replace hr1:=hid hr1;simp only[kq,Nat.add_zero] at d0 d1;generalize tags[0]=x at*;clear hs hno hE0 hE1 hr hx hb' hb;go_wp2;refine j83 af af ?_
      repeat(go_big_quiet_step ((go_at_call 100;exact kl4 (hsb.out _))))
      refine lv ?_;intro _ hw';obtain⟨⟨wq,hq⟩,rfl⟩:=hw';go_wp2;go_roundw
      case rel=>exact⟨1,aa,an,hr1.out,(kb.alloc _).step hq,(j63 hnx (iy _) _).trans (hq.mono ah)⟩
      case measure=>simp[intOf];omega
     ·obtain⟨j,rfl⟩:∃j,k=j+1:=⟨k-1,aa⟩;have hlj:j<tags.length:=aa;have hy:=k58 hlj;obtain⟨b2,off2,hbb,d2,d3⟩:=kj3 (fun x=>.int .i64 x.block) (fun x=>.bool x.esc) (fun _=>rfl) (ht.below hnx) hlj;simp only[iO,jJ] at hbb;obtain⟨rfl,rfl,_⟩:=hbb
      have hiff:j61 (tags.map (·.block)) (j+1)↔tags[j].block<tags[j+1].block:=by
       unfold j61;rw[hx,lq,hy];exact gA
      by_cases hlt2:tags[j].block<tags[j+1].block
      ·have hr1:=j30 hr (hiff.2 hlt2);replace hr1:=hid hr1;generalize tags[j+1]=x at*;generalize tags[j]=y at*;clear hs hno hE0 hE1 hr hx hb' hb hiff hy;go_wp2;refine j83 af af ?_
       repeat(go_big_quiet_step ((go_at_call 100;exact kl4 (hsb.out _))))
       refine lv ?_;intro _ hw';obtain⟨⟨wq,hq⟩,rfl⟩:=hw';go_wp2;go_roundw
       case rel=>exact⟨j+1+1,aa,an,hr1.out,(kb.alloc _).step hq,(j63 hnx (iy _) _).trans (hq.mono ah)⟩
       case measure=>simp[intOf];omega
      ·obtain rfl:=hno (fun hh=>hlt2 (hiff.1 hh));generalize tags[j+1]=x at*;generalize tags[j]=y at*;clear hs hno hE0 hE1 hr hx hb' hb hiff hy;exact fq
    ·replace hb:isBlk tags[k].block=false:=by simpa using hb
     obtain rfl:=hno (fun hh=>by unfold j61 at hh;rw[hx] at hh;simp[isBlk] at hb;omega);have hsb:=fun w=>jS9 tags[k].block w;rw[hb] at hsb;replace hsb:=hid hsb;clear hb;generalize tags[k]=x at*;clear hs hno hE0 hE1 hr hx;exact fq
   ·have hfull : jR3 (tags.map (·.block)) tags.length := by
      obtain rfl:k=tags.length:=aa;exact hr
    have hT:rise (tags.map (·.block))=true:=(jY9 _).2 (by simpa using hfull);replace hT:=hid hT;clear hr hfull;go_wp2
    go_loop [2,5,6,131] (fun _ _ _ i=>∃k:Nat,k<=blks.length/\i=.int .i64 k/\jR3 blks k) (fun _ _ _ i=>blks.length-(intOf i).toNat)
    case atStart=>exact⟨0,iq _,rfl,fun j hj=>absurd hj (jl j)⟩
    case round=>
     obtain⟨k,hk,rfl,hr⟩:=hrel;by_cases hlt:k<blks.length
     ·have hx:=jg6 hlt;obtain⟨b,off,rfl,d0⟩:=kl6 (fun x=>.int .i64 x) (fun _=>rfl) (hbk.below hnx) hlt;have hno:¬j61 blks k->er=2:=fun hh=>hE1.out (.inr (jl7 hlt hh));by_cases hb:isBlk blks[k]=true
      ·have hb':0<=blks[k]/\blks[k]<12:=by simpa [isBlk] using hb
       have hsb:=fun w=>jS9 blks[k] w;rw[hb] at hsb;replace hsb:=hid hsb;rcases kC k with hk0|hk0
       ·subst hk0;have hA:j61 blks 0:=ch;have hr1:=j30 hr hA;replace hr1:=hid hr1;simp only[Nat.add_zero] at d0;generalize blks[0]=x at*;clear hno hE0 hE1 hr hx hb' hb
        go_wp2_with (go_at_call 100;refine(hsb.out _).mono ?_;rintro e w' ⟨rfl,rfl⟩)
        go_round
        case rel=>exact⟨1,aa,an,hr1.out⟩
        case measure=>simp[intOf];omega
       ·obtain⟨j,rfl⟩:∃j,k=j+1:=⟨k-1,aa⟩;have hlj:j<blks.length:=aa;have hy:=jg6 hlj;obtain⟨b2,off2,hbb,d2⟩:=kl6 (fun x=>.int .i64 x) (fun _=>rfl) (hbk.below hnx) hlj;simp only[iO,jJ] at hbb;obtain⟨rfl,rfl,_⟩:=hbb
        have hiff:j61 blks (j+1)↔blks[j]<blks[j+1]:=by
         unfold j61;rw[hx,lq,hy];exact gA
        by_cases hlt2:blks[j]<blks[j+1]
        ·have hr1:=j30 hr (hiff.2 hlt2);replace hr1:=hid hr1;generalize blks[j+1]=x at*;generalize blks[j]=y at*;clear hno hE0 hE1 hr hx hb' hiff hy hb
         go_wp2_with (go_at_call 100;refine(hsb.out _).mono ?_;rintro e w' ⟨rfl,rfl⟩)
         go_round
         case rel=>exact⟨j+1+1,aa,an,hr1.out⟩
         case measure=>simp[intOf];omega
        ·obtain rfl:=hno (fun hh=>hlt2 (hiff.1 hh));generalize blks[j+1]=x at*;generalize blks[j]=y at*;clear hno hE0 hE1 hr hx hb' hiff hy hb;exact gP
      ·replace hb:isBlk blks[k]=false:=by simpa using hb
       obtain rfl:=hno (fun hh=>by unfold j61 at hh;rw[hx] at hh;simp[isBlk] at hb;omega);have hsb:=fun w=>jS9 blks[k] w;rw[hb] at hsb;replace hsb:=hid hsb;clear hb;generalize blks[k]=x at*;clear hno hE0 hE1 hr hx;exact gP
     ·have hfull : jR3 blks blks.length := by
        obtain rfl:k=blks.length:=aa;exact hr
      have hT2:rise blks=true:=(jY9 _).2 hfull;obtain rfl:=hE0.out (by rw[hT.out,hT2];simp);clear hr hfull hT2;go_wp2;go_ret;exact⟨rfl,hnx⟩
theorem kY8(m : Mrk)(v : Value)(w : World)(hm : j1_ w v m) :Calls Tryz.prog 66 #[v] w fun e w'=>e=.returned (.int .i64 (markE m))/\Below w.heap.size w w':=by
 by_cases hbad:j97 m\/j78 m\/j88 m\/j44 m
 ·exact js2 m v w hm hbad
 ·simp only[not_or] at hbad;exact jk3 m v w hm hbad.1 hbad.2.1 hbad.2.2.1 hbad.2.2.2
theorem jT9:Elem Tryz.prog 123 5 1 1:=kj_ (z:=.int .u8 0) Tryz.underlying123 af rfl
theorem gx{A:Prop}(h:A:=by
 rintro x rfl;rw[hstep,jz,jj,kV,i6];simp only[iE]):A:=h
theorem gM{A:Prop}(h:A:=by
 rw[il,il,hl9,iZ,iA,jf hk];simp;omega):A:=h
theorem gY{A:Prop}(h:A:=by
 rintro x rfl;rw[hstep,jC,jr,jN];simp only[iE]):A:=h
theorem ic{A:Prop}(h:A:=by
 rw[iY] at hown;go_wp2;go_meet;exact⟨by rw[hbody.out];exact hown,hnx⟩):A:=h
theorem j32(m : Mrk)(v : Value)(w : World)(hm : j1_ w v m) :Calls Tryz.prog 29 #[v] w fun e w'=>e=.returned (.tuple #[.string (markS m),.int .i64 (markE m)])/\Below w.heap.size w w':=by
 have hG:=fun w (hh:j1_ w v m)=>kY8 m v w hh;have hm2:=hm;obtain⟨vt,vb,rfl,ht,hbk,n1,n2⟩:=hm;by_cases hE:markE m=0
 ·have hS:markS m=str (jS2 m):=by unfold markS;rw[ij hE]
  have hfit:fit (str (headL m++jV0 m))=markS m:=by rw[hS];exact kT5 _
  rw[hE] at hG⊢;obtain⟨hA,hB,hC,hD⟩:=jU6 hE;clear hS hE;generalize markS m=ms at*;obtain⟨kd,sq,at_,tags,blks⟩:=m;unfold j97 at hA;unfold j78 at hB;unfold j88 at hC;unfold j44 at hD;dsimp only at*;obtain⟨ta,tcap,rfl,tc1,tc2⟩:=ht.form;obtain⟨ba,bcap,rfl,bc1,bc2⟩:=hbk.form;unfold maxLen at tc2 bc2;have hk:kd=1\/kd=2\/kd=3\/kd=4:=aa;obtain⟨q1,q2,q3,q4⟩:1<=sq/\sq<=2147483647/\0<=at_/\at_<24:=aa;have g4:tags.length<=10:=aa;have g5:blks.length<=20:=aa;clear hA hB hC hD;have hFt:=fun s w hs=>jo6 s w hs;replace hFt:=hid hFt;replace hG:=hid hG;replace hm2:=hid hm2;replace hfit:=hid hfit;replace ht:=hid ht;replace hbk:=hid hbk;clear n1 n2 tc1 tc2 bc1 bc2;have nf:0<w.heap.size+1:=aa;go_enter Tryz.func29,Tryz.ntmps29
  go_wp2_with (first|(go_at_call 66;refine(hG.out _ (hm2.out.below aj)).mono ?_;rintro e w1 ⟨rfl,hb1⟩;obtain⟨hbc,hbf⟩:=j51 hb1;have hbz:=hb1.size;try simp only[iN,iJ,World.size_drew] at hbz;have hz0:=ir (n:=w.heap.size) aa hbz;have kc:=Lib.run_convert_bytes_const (P:=Tryz.prog) w1 123 5 #[.int .u8 87,.int .u8 66,.int .u8 75,.int .u8 49] 4 4 Tryz.underlying123 Tryz.underlying5)|(at_builtin;(refine kX6 rfl _ _ _ rfl (w.heap.size+1) _ 1 1 j19 jT9 magic [j67 kd,j67 (sq/16777216),j67 (sq/65536),j67 (sq/256),j67 sq] rfl ?b3 rfl rfl (Nat.succ_pos _) (by show 9*1<=_;decide) (by show 9<=maxLen;decide) ?c3 ?c4)))
  case b3=>
   have e1:kd%256=kd:=aa;have e2:sq/16777216%256=sq/16777216:=aa;simp[jZ8,j41,e1,e2]
  case c3=>omega
  case c4=>
  intro v5 w5 hown hbel;change Wb.Own jZ8 _ _ _ _ _ (headL ⟨kd,sq,at_,tags,blks⟩) at hown;have hl9:(headL ⟨kd,sq,at_,tags,blks⟩).length=9:=rfl;generalize headL ⟨kd,sq,at_,tags,blks⟩=hd at*;obtain⟨bd,hbd⟩:∃l,l=jV0 ⟨kd,sq,at_,tags,blks⟩:=⟨_,rfl⟩;rw[<-hbd] at hfit;have kb:Blk w5 w.heap.size #[.int .i64 kd,.int .i64 sq,.int .i64 at_,.slice ta tags.length tcap,.slice ba blks.length bcap] 67:=((kk3 w _ _).step hb1).below hbel aa;have hnx:Below w.heap.size w w5:=aj;have hz:w.heap.size+1<=w5.heap.size:=i3 hbz hbel.size;clear hb1 hbel hbc hbf hbz hz0 kc hm2 hG;have c0:=kb.cell 0;have c2:=kb.cell 2;have c3:=kb.cell 3;have c4:=kb.cell 4;simp only[Zga,Zgb,Zgc] at c0 c2 c3 c4;have lt0:=kb.lt
  go_upto_block 0 with fail
  go_cut [5] (fun s5 wx=>Wb.Own jZ8 (w.heap.size+1) 5 1 wx s5 (hd++bd)/\Below w.heap.size w wx)
  case first=>
   rcases hk with rfl|rfl|rfl|rfl
   ·have hbody:bd=[j67 at_]:=hbd;replace hbody:=hid hbody;clear hbd
    go_wp2_with (at_builtin;(refine j70 rfl _ _ _ rfl (w.heap.size+1) _ 1 1 j19 jT9 hown rfl (j67 at_) ?b rfl ?c1 ?c2 ?c3 ?c4))
    case b=>
     have e1:at_%256=at_:=aa;simp[jZ8,j41,e1]
    case c1=>rw[hl9];decide
    case c2=>rw[hl9];decide
    case c3=>omega
    case c4=>
     intro v6 w6 hown6 hbel6 _;go_wp2;go_meet;exact⟨by rw[hbody.out];exact hown6,aj⟩
   ·have hbody:bd=[j67 tags.length]++tags.flatMap jD8:=hbd;replace hbody:=hid hbody;clear hbd
    go_wp2_with (at_builtin;(refine j70 rfl _ _ _ rfl (w.heap.size+1) _ 1 1 j19 jT9 hown rfl (j67 tags.length) ?b rfl ?c1 ?c2 ?c3 ?c4))
    case b=>
     have e1:(tags.length:Int)%256=tags.length:=aa;simp[jZ8,j41,e1]
    case c1=>rw[hl9];decide
    case c2=>rw[hl9];decide
    case c3=>omega
    case c4=>
     intro v6 w6 hown6 hbel6 _;have kb6:=kb.below hbel6 aa;have hnx6:=hnx.trans (hbel6.mono aa);have hz6:=hbel6.size;have c3:=kb6.cell 3;simp only[Zga,Zgb,Zgc] at c3;clear hown kb hbel6;go_wp2
     go_loopw [5,7,8,60] (fun s5 _ _ i wr=>∃k:Nat,k<=tags.length/\i=.int .i64 k/\Wb.Own jZ8 (w.heap.size+1) 5 1 wr s5 (hd++([j67 tags.length]++(tags.take k).flatMap jD8))/\Below w.heap.size w wr/\w.heap.size+1<=wr.heap.size) (fun _ _ _ i _=>tags.length-(intOf i).toNat)
     case atStart=>exact⟨0,iq _,rfl,by simpa using hown6,hnx6,aa⟩
     case round=>
      obtain⟨k,hk,rfl,hown,hnx,hz⟩:=hrel;by_cases hlt:k<tags.length
      ·obtain⟨b,off,rfl,d0,d1⟩:=kj3 (fun x=>.int .i64 x.block) (fun x=>.bool x.esc) (fun _=>rfl) (ht.out.below hnx) hlt;have lt1:=i0 _ _ d0;dsimp only at lt1;have hstep:tags.take (k+1)=tags.take k++ [tags[k]]:=bP
       have hln:(hd++([j67 tags.length]++(tags.take k).flatMap jD8)).length=10+k*2:=by
        rw[il,il,hl9,jI1,iA,jf hk];simp;omega
       have hjoin:∀x:Tag,tags[k]=x->(hd++([j67 tags.length]++(tags.take k).flatMap jD8))++jD8 x=hd++([j67 tags.length]++(tags.take (k+1)).flatMap jD8):=by
        exact gx
       replace hjoin:=hid (hjoin _ rfl);clear hstep;have e1:=j41 tags[k].block;generalize hd++([j67 tags.length]++(tags.take k).flatMap jD8)=ls at*;generalize tags[k]=x at*;obtain⟨xb,xe⟩:=x;dsimp only at d0 d1;have lt2:w.heap.size+1<=wr.heap.size+1:=aa;have tb:∀y:Bool,jZ8 (if y then 1 else 0)=[.int .u8 (if y then 1 else 0)]:=fun y=>by cases y<;>rfl
       cases xe
       ·replace tb:=hid (tb false)
        go_wp2_with (at_builtin;(refine jE8 rfl _ _ _ rfl (w.heap.size+1) _ 1 1 j19 jT9 (hown.alloc _) rfl (jD8 ⟨xb,false⟩) ?b rfl ?c1 ?c2 ?c3 ?c4))
        case b=>simp[jD8,jZ8,j41]
        all_goals try(case c1=>(try rw[hln]);show 10+k*2+2<=_;omega)
        all_goals try(case c2=>(try rw[hln]);show 10+k*2+2<=maxLen;unfold maxLen;omega)
        all_goals try(case c3=>simp;omega)
        case c4=>
         intro v7 w7 hown7 hbel7 _;rw[hjoin.out] at hown7;exact fi
       ·replace tb:=hid (tb true)
        go_wp2_with (at_builtin;(refine jE8 rfl _ _ _ rfl (w.heap.size+1) _ 1 1 j19 jT9 (hown.alloc _) rfl (jD8 ⟨xb,true⟩) ?tb rfl ?tc1 ?tc2 ?tc3 ?tc4))
        case tb=>simp[jD8,jZ8,j41]
        all_goals try(case tc1=>(try rw[hln]);show 10+k*2+2<=_;omega)
        all_goals try(case tc2=>(try rw[hln]);show 10+k*2+2<=maxLen;unfold maxLen;omega)
        all_goals try(case tc3=>simp;omega)
        case tc4=>
         intro v7 w7 hown7 hbel7 _;rw[hjoin.out] at hown7;exact fi
      ·obtain rfl:k=tags.length:=by omega
       exact ic
   ·have hbody:bd=[j67 blks.length]++blks.map j67:=hbd;replace hbody:=hid hbody;clear hbd
    go_wp2_with (at_builtin;(refine j70 rfl _ _ _ rfl (w.heap.size+1) _ 1 1 j19 jT9 hown rfl (j67 blks.length) ?kb rfl ?kc1 ?kc2 ?kc3 ?kc4))
    all_goals try(case kb=>
     have e1:(blks.length:Int)%256=blks.length:=aa
     simp[jZ8,j41,e1])
    all_goals try(case kc1=>rw[hl9];decide)
    all_goals try(case kc2=>rw[hl9];decide)
    all_goals try(case kc3=>omega)
    case kc4=>
     intro v6 w6 hown6 hbel6 _;have kb6:=kb.below hbel6 aa;have hnx6:=hnx.trans (hbel6.mono aa);have hz6:=hbel6.size;have c4:=kb6.cell 4;simp only[Zga,Zgb,Zgc] at c4;clear hown kb hbel6;go_wp2
     go_loopw [5,10,86] (fun s5 _ i wr=>∃k:Nat,k<=blks.length/\i=.int .i64 k/\Wb.Own jZ8 (w.heap.size+1) 5 1 wr s5 (hd++([j67 blks.length]++(blks.take k).map j67))/\Below w.heap.size w wr/\w.heap.size+1<=wr.heap.size) (fun _ _ i _=>blks.length-(intOf i).toNat)
     case atStart=>exact⟨0,iq _,rfl,by simpa using hown6,hnx6,aa⟩
     case round=>
      obtain⟨k,hk,rfl,hown,hnx,hz⟩:=hrel;by_cases hlt:k<blks.length
      ·obtain⟨b,off,rfl,d0⟩:=kl6 (fun x=>.int .i64 x) (fun _=>rfl) (hbk.out.below hnx) hlt;have lt1:=i0 _ _ d0;dsimp only at lt1;have hstep:blks.take (k+1)=blks.take k++ [blks[k]]:=bP
       have hln:(hd++([j67 blks.length]++(blks.take k).map j67)).length=10+k:=by
        exact gM
       have hjoin:∀x:Int,blks[k]=x->(hd++([j67 blks.length]++(blks.take k).map j67))++ [j67 x]=hd++([j67 blks.length]++(blks.take (k+1)).map j67):=by
        exact gY
       replace hjoin:=hid (hjoin _ rfl);clear hstep;generalize hd++([j67 blks.length]++(blks.take k).map j67)=ls at*;generalize blks[k]=x at*
       go_wp2_with (at_builtin;(refine j70 rfl _ _ _ rfl (w.heap.size+1) _ 1 1 j19 jT9 hown rfl (j67 x) ?nb rfl ?nc1 ?nc2 ?nc3 ?nc4))
       all_goals try(case nb=>simp[jZ8,j41])
       all_goals try(case nc1=>(try rw[hln]);omega)
       all_goals try(case nc2=>(try rw[hln]);unfold maxLen;omega)
       all_goals try(case nc3=>omega)
       case nc4 =>
           intro v7 w7 hown7 hbel7 _;rw[hjoin.out] at hown7;have hz7:=hbel7.size;go_wp2;go_roundw
           case rel=>exact⟨k+1,aa,an,hown7,hnx.trans (hbel7.mono aa),aa⟩
           case measure=>simp[intOf];omega
      ·obtain rfl:k=blks.length:=by omega
       exact ic
   ·have hbody:bd=[]:=hbd;replace hbody:=hid hbody;clear hbd;go_wp2;go_meet;exact⟨by rw[hbody.out,i6];exact hown,hnx⟩
  case rest=>
   obtain⟨hown5,hnx5⟩:=hcut;have hr5:=hown5.reads;have hcv:=jP0 (P:=Tryz.prog) (src:=123) (dst:=9) _ Tryz.underlying123 Tryz.underlying5 Tryz.underlying9 hr5
   have hsz:(str (hd++bd)).size<=9223372036854775807:=by
    obtain⟨_,_,_,q1,q2⟩:=hr5.form;rw[jV6];unfold maxLen at q2;omega
   replace hfit:=hid hfit;generalize str (hd++bd)=sb at*;replace hr5:=hid hr5
   go_wp2_with (go_at_call 65;refine(hFt.out _ _ hsz).mono ?_;rintro e w1 ⟨rfl,hb1⟩)
   go_ret2;exact⟨k35 hfit.out.out,hnx5.trans (hb1.mono hnx5.size)⟩
 ·have hS:markS m=str []:=by unfold markS;rw[ii hE]
  rw[hS];have hne:(markE m != 0)=true:=jd.2 hE;generalize markE m=er at*;replace hG:=hid hG;replace hm2:=hid hm2;obtain⟨kd,sq,at_,tags,blks⟩:=m;dsimp only at*;clear hS hE ht hbk;go_enter Tryz.func29,Tryz.ntmps29
  go_wp2_with (go_at_call 66;refine(hG.out _ (hm2.out.below aj)).mono ?_;rintro e w1 ⟨rfl,hb1⟩;obtain⟨hbc,hbf⟩:=j51 hb1;have hbz:=hb1.size;try simp only[iN,iJ,World.size_drew] at hbz;have hz0:=ir (n:=w.heap.size) aa hbz)
  go_ret2;exact⟨rfl,aj⟩
end Go.Proofs.YtlecmdajpfkaeaaGreatDoor
namespace Wb
open Go Go.RowKit
theorem ju_(w:World)(q p:Int):j1_ w (.agg #[.int .i64 1,.int .i64 q,.int .i64 p,.slice none 0 0,.slice none 0 0]) (j86 q p):=
 ⟨_,_,rfl,RL.nil _ _,RL.nil _ _,iq _,iq _⟩
theorem jr2{l:List Cpy}{p q:Int}(h:markE (j86 q p)≠0):checkE l p q=markE (j86 q p)/\checkL l p q=[]:=by
 have e:checkE l p q=markE (j86 q p):=by unfold checkE;rw[ij h]
 exact⟨e,by unfold checkL;rw[e,ii h]⟩
theorem jB7{l:List Cpy}{p q:Int}(h:markE (j86 q p)=0){k:Nat}(hk:k<l.length)(hc:jT7 l[k]=false):checkE l p q=1/\checkL l p q=[]:=by
 have hn:¬l.all jT7=true:=fun hh=>by
  have:=ja.1 hh _ (iM hk);rw[hc] at this;cases this
 have e:checkE l p q=1:=by unfold checkE;rw[ii (by rw[h];decide),ii hn]
 exact⟨e,by unfold checkL;rw[e,ii ae]⟩
theorem ji_{l:List Cpy}{p q:Int}(h:markE (j86 q p)=0)(hc:l.all jT7=true):checkE l p q=0/\checkL l p q=jY_ l++ [wrS 0 (markS (j86 q p)),j_2]:=by
 have e:checkE l p q=0:=by unfold checkE;rw[ii (by rw[h];decide),ij hc]
 exact⟨e,by unfold checkL;rw[ij e]⟩
theorem k75{α:Type}{p:α->Bool}{l:List α}{k:Nat}(hk:k<l.length)(h:(l.take k).all p=true)(hc:p l[k]=true):(l.take (k+1)).all p=true:=by
 rw[it hk,List.all_append,h];simp[hc]
theorem jV4{α β:Type}{f:α->β}{l:List α}{k:Nat}(hk:k<l.length):(l.take (k+1)).map f=(l.take k).map f++ [f l[k]]:=by
 rw[it hk,jC];rfl
theorem kp3{n m:Nat}(h:n=m)(hm:m<=6000000000000):(n+2+(n+2)/4+192)*32<=281474976710656/\n+2<=140737488355328:=by subst h;omega
theorem ji4(c:Cpy):jT7 c=true↔(0<=c.block/\c.block<12)/\c.text.size=32:=by
 unfold jT7 isBlk jN1;simp
end Wb
namespace Go.Proofs.YtlecmdajpfkaeaaGreatDoor
open Go.RowKit Wb
theorem fj{A:Prop}(h:A:=by
 go_wp2_with (first|(refine ZcL ?_)| (refine ZcS ?_;clear X;intro w X)| (refine ZcA ?_;clear X;intro g w X))
 go_ret2;exact⟨_,rfl,Own.nil _ _ _ _ _,X.below⟩):A:=h
theorem kY7(l : List Cpy)(p q : Int)(v : Value)(w : World)(h : RL j_3 w v l)(hl : l.length <= 5864062014805)(hF : Sl w (flR 0).v 1 (flR 0).cs) :Calls Tryz.prog 71 #[v,.int .i64 p,.int .i64 q] w fun e w'=>∃v',e=.returned (.tuple #[v',.int .i64 (checkE l p q)])/\Wb.Own jY3 w.heap.size 105 3 w' v' (checkL l p q)/\Below w.heap.size w w':=by
 obtain⟨a,cap,rfl,_⟩:=h.form;have hE:=fun w=>j32 (j86 q p) _ w (ju_ w q p);have hW:=fun x s w=>jG7 x s w;have X:St [] w w [] [flR 0]:=(kk7 [] w).addR0 hF;replace hE:=hid hE;replace hW:=hid hW;by_cases hM:markE (j86 q p)=0
 ·rw[hM] at hE;have hbad:=fun k (hk:k<l.length) (hc:jT7 l[k]=false)=>jB7 hM hk hc;have hok:=fun(hc:l.all jT7=true)=>ji_ hM hc;have hat:=fun k (hk:k<l.length) (h:(l.take k).all jT7=true) (hc:jT7 l[k]=true)=>k75 hk h hc;have hmt:=fun k (hk:k<l.length)=>jV4 (f:=goS) hk;have hfu:l.take l.length=l:=iY;have hho:jY_ l=l.map goS++(if l=[] then [] else [j_2]):=rfl;have hnil:(l=[])↔l.length=0:=i5.symm;rw[hho] at hok;generalize checkE l p q=E at*;generalize checkL l p q=C at*;generalize markS (j86 q p)=ms at*;replace h:=hid h;replace hbad:=hid hbad;replace hok:=hid hok;replace hat:=hid hat;replace hmt:=hid hmt;replace hfu:=hid hfu;replace hnil:=hid hnil;clear hho hM hF;go_enter Tryz.func71,Tryz.ntmps71
  go_wp2_with (first|(go_at_call 29;((with_reducible refine(hE.out _).mono ?_);rintro e w1 ⟨rfl,hb1⟩;replace X:=X.call hb1;clear hb1)))
  go_loopw [10,25] (fun o i wr=>∃(k:Nat) (M:List Ent),k<=l.length/\i=.int .i64 k/\Hid ((l.take k).all jT7=true)/\j4_ jY3 105 3 o ((l.take k).map goS) M/\St [] w wr (M++ []) [flR 0]) (fun _ i _=>l.length-(intOf i).toNat)
  case atStart=>exact⟨0,[],iq _,rfl,hid rfl,j4_.nil _ _ _,X⟩
  case round=>
   clear X;obtain⟨k,M,hk,rfl,hal,hO,X⟩:=hrel;have hlk:((l.take k).map goS).length=k:=aQ;obtain⟨ao,co,rfl⟩:=hO.form;rw[hlk] at hO⊢;by_cases hlt:k<l.length
   ·obtain⟨b1,o1,rfl,c0,c1⟩:=kj3 (fun x=>.int .i64 x.block) (fun x=>.string x.text) (fun _=>rfl) (h.out.below X.below) hlt;have hb:=hbad.out k hlt;have ha:=hat.out k hlt hal.out;have hm:=hmt.out k hlt;generalize l[k]=x at*;generalize (l.take k).map goS=ls at*;obtain⟨xb,xt⟩:=x;dsimp only at*;have hci:=ji4 ⟨xb,xt⟩;dsimp only at hci
    cases hc:jT7 ⟨xb,xt⟩ with
    |true=>
     obtain⟨⟨y0,y1⟩,y2⟩:=hci.1 hc
     have ha:=ha hc
     replace ha:=hid ha;replace hm:=hid hm
     have y3:((xt.size:Int) != 32)=false:=by rw[y2];rfl
     have d1:decide (xb<0)=false:=iH aa
     have d2:decide (12<=xb)=false:=iH aa
     clear hci hc hb
     have hr1:(ls.length+1+(ls.length+1)/4+192)*32<=281474976710656:=aa
     have hr2:ls.length+1<=140737488355328:=aa
     have hgo: [goS ⟨xb,xt⟩].flatMap jY3=[.int .i64 1,.int .i64 (25+xb),.string xt]:=rfl
     go_wp2_with (first|(refine ZcL ?_)| (refine ZcS ?_;clear X;intro w X)| (refine ZcA ?_;clear X;intro g w X)|(go_at_call 105;((with_reducible refine(hW.out _ _ _).mono ?_);rintro e w1 ⟨rfl,hb1⟩;replace X:=X.call hb1;clear hb1))|(refine j73 rfl ?_;(refine j79 rfl rfl Zev ay ay X ?_;intro g w2 X2;replace X:=X2;clear X2;(simp only[Act.put,zA,zB,zC,zD,zE,zF,zG,Nat.reduceAdd])))|(at_builtin;((refine jy5 (M:=M) (T:=[]) (n:=1) [_] rfl rfl [goS ⟨xb,xt⟩] j99 X hO Zev Zev hgo rfl hr1 hr2 ?_);intro a2 c2 w2 M2 hO2 X2;(simp only[Act.put,zA,zB,zC,zD,zE,zF,zG,Nat.reduceAdd]))))
     rw[hlk]
     go_roundw
     case rel=>exact⟨k+1,M2,aa,an,ha,by rw[hm.out,<-hlk];exact hO2,X2.tail⟩
     case measure=>simp[intOf];omega
    |false=>
     obtain⟨e1,e2⟩:=hb hc
     subst e1 e2
     have hn:¬((0<=xb/\xb<12)/\xt.size=32):=fun h=>by rw[hci.2 h] at hc;cases hc
     clear hci hc hb ha hm
     by_cases z1:xb<0
     ·have d1:decide (xb<0)=true:=iG z1;exact fj
     ·have d1:decide (xb<0)=false:=iH z1;by_cases z2:12<=xb
      ·have d2:decide (12<=xb)=true:=iG z2;exact fj
      ·have d2:decide (12<=xb)=false:=iH z2;have y3:((xt.size:Int) != 32)=true:=jd.2 (fun h=>hn ⟨aa,aa⟩);clear hn;exact fj
   ·have hkl:k=l.length:=by omega
    have hts:l.take k=l:=by rw[hkl,iY]
    obtain⟨e1,e2⟩:=hok.out (by rw[<-hts];exact hal.out)
    have e3:C=(l.take k).map goS++(if k=0 then [] else [j_2])++ [wrS 0 ms,j_2]:=by
     rw[e2,hts];by_cases hz:l=[]
     ·rw[ij hz,ij (by rw[hkl];exact hnil.out.1 hz)]
     ·rw[ii hz,ii (fun h=>hz (hnil.out.2 aa))]
    clear hal hbad hok hat hmt e2 hts hnil hfu;generalize (l.take k).map goS=ls at*;have hfl: [wrS 0 ms,j_2].flatMap jY3=[.int .i64 1,.int .i64 0,.string ms,.int .i64 2,.int .i64 0,.string ⟨#[]⟩]:=rfl;have hli:((k:Int)<(l.length:Int))=False:=eq_false aa;by_cases hz:k=0
    ·rw[ij hz] at e3;have hzi:decide (0<k)=false:=iH aa;have hr3:(ls.length+2+(ls.length+2)/4+192)*32<=281474976710656:=aa;have hr4:ls.length+2<=140737488355328:=aa;clear hz;replace e3:=hid e3;replace hkl:=hid hkl;go_wp2;(refine j__ 0 [] [2,4,5] [3] [0,1,3,2,4,5,6,7] X ?_;clear X;intro hQ X hL;simp only[zF,zG] at hL;simp only[zF,zG]);refine Zm ?_;refine Zm ?_;(refine kv5 rfl rfl rfl Zfl ay rfl rfl X hL hQ ?_;(simp only[Act.put,zA,zB,zC,zD,zE,zF,zG,Nat.reduceAdd]));(refine j_0 105 Tryz.func105 (hW.out _ _ _) ?_;rintro e w1 ⟨rfl,hb1⟩;replace X:=X.call hb1;clear hb1;refine Zce ?_;clear hL;intro hL);(refine k30 rfl rfl Zev Zev ay ay ay ay X hL rfl rfl ?_;intro g w X2 hL2;(try simp only[iu,iw] at X2 hL2);replace X:=X2;replace hL:=hL2;clear X2 hL2;(simp only[Act.put,zA,zB,zC,zD,zE,zF,zG,Nat.reduceAdd]));(refine kP9 (M:=M) (T:=[]) (n:=2) [] rfl rfl [wrS 0 ms,j_2] j99 X hO Zev Zev hfl rfl hr3 hr4 hL (jO _) rfl rfl ?_;intro a3 c3 w3 M3 hO3 X3 hL3;replace X:=X3;replace hL:=hL3;clear X3 hL3;(simp only[Act.put,zA,zB,zC,zD,zE,zF,zG,Nat.reduceAdd]));refine Za ?_;refine Za ?_;refine j90 ?_;go_wp2;go_ret2;subst e1;exact⟨_,rfl,by rw[e3.out,i6];exact hO3.own (L:=[]) j99 X,X.below⟩
    ·rw[ii hz] at e3;have hzi:decide (0<k)=true:=iG aa;have hr1:(ls.length+1+(ls.length+1)/4+192)*32<=281474976710656:=aa;have hr2:ls.length+1<=140737488355328:=aa;have hlf:(ls++ [j_2]).length=k+1:=by rw[il,hlk];rfl
     obtain⟨hr3,hr4⟩:=kp3 hlf aa;have hgo: [j_2].flatMap jY3=[.int .i64 2,.int .i64 0,.string ⟨#[]⟩]:=rfl;clear hz hlf;replace e3:=hid e3;replace hkl:=hid hkl
     go_wp2_with (first|(refine j66 rfl ?_;refine kx1 rfl rfl rfl X Zfl ay ?_;(simp only[Act.put,zA,zB,zC,zD,zE,zF,zG,Nat.reduceAdd]))|(refine j73 rfl ?_;(refine j79 rfl rfl Zev ay ay X ?_;intro g w2 X2;replace X:=X2;clear X2;(simp only[Act.put,zA,zB,zC,zD,zE,zF,zG,Nat.reduceAdd])))|(at_builtin;((refine jy5 (M:=M) (T:=[]) (n:=1) [] rfl rfl [j_2] j99 X hO Zev Zev hgo rfl hr1 hr2 ?_);intro a2 c2 w2 M2 hO2 X2;replace X:=X2;clear X2;(simp only[Act.put,zA,zB,zC,zD,zE,zF,zG,Nat.reduceAdd]))))
     (refine j__ 0 [] [2,4,5] [3] [0,1,3,2,4,5,6,7] X ?_;clear X;intro hQ X hL;simp only[zF,zG] at hL;simp only[zF,zG]);refine Zm ?_;refine Zm ?_;(refine kv5 rfl rfl rfl Zfl ay rfl rfl X hL hQ ?_;(simp only[Act.put,zA,zB,zC,zD,zE,zF,zG,Nat.reduceAdd]));(refine j_0 105 Tryz.func105 (hW.out _ _ _) ?_;rintro e w1 ⟨rfl,hb1⟩;replace X:=X.call hb1;clear hb1;refine Zce ?_;clear hL;intro hL);(refine k30 rfl rfl Zev Zev ay ay ay ay X hL rfl rfl ?_;intro g w X2 hL2;(try simp only[iu,iw] at X2 hL2);replace X:=X2;replace hL:=hL2;clear X2 hL2;(simp only[Act.put,zA,zB,zC,zD,zE,zF,zG,Nat.reduceAdd]));(refine kP9 (M:=M2) (T:=[]) (n:=2) [] rfl rfl [wrS 0 ms,j_2] j99 X hO2 Zev Zev hfl rfl hr3 hr4 hL (jO _) rfl rfl ?_;intro a3 c3 w3 M3 hO3 X3 hL3;replace X:=X3;replace hL:=hL3;clear X3 hL3;(simp only[Act.put,zA,zB,zC,zD,zE,zF,zG,Nat.reduceAdd]));refine Za ?_;refine Za ?_;refine j90 ?_;go_wp2;go_ret2;subst e1;exact⟨_,rfl,by rw[e3.out];exact hO3.own (L:=[]) j99 X,X.below⟩
 ·obtain⟨e1,e2⟩:=jr2 (l:=l) hM;rw[e1,e2];generalize markE (j86 q p)=E at*;have hne:(E != 0)=true:=jd.2 hM;clear hF h;go_enter Tryz.func71,Tryz.ntmps71
  go_wp2_with (first|(go_at_call 29;((with_reducible refine(hE.out _).mono ?_);rintro e w1 ⟨rfl,hb1⟩;replace X:=X.call hb1;clear hb1)))
  go_ret2;exact⟨_,rfl,Own.nil _ _ _ _ _,X.below⟩
theorem k23(s : ByteArray)(p : Int)(hp : 0 <= p /\ p < 24){S : List Nat}{w0 w : World}{A M T : List Ent}{R : List Rd}{g12 g10 ga k m c n n' cap : Nat}{cs : List Value}{v : Value}{l : List Stp}(X:St S w0 w (⟨g12,[v],54⟩::⟨g10,[.slice (some ⟨ga,k,none⟩) m c],46⟩::(A++(M++T))) R) (hO:j4_ jY3 105 3 v l M) (hR:⟨.slice (some ⟨ga,0,none⟩) n' cap,n,cs⟩∈R) (hk:cs[k]? =some (.int .i64 p)) (hm:0<m) (hmc:m<=c) (hl:l.length<=1000):Calls Tryz.prog 112 #[.string s, .pointer (some ⟨g12, 0, none⟩), .pointer (some ⟨g10, 0, none⟩)] w fun e w' => ∃ u v' at' M', e = .returned u /\ j4_ jY3 105 3 v' (l ++ [atW p s]) M' /\ (1 < m -> at' = .slice (some ⟨ga, k + 1, none⟩) (m - 1) (c - 1)) /\St S w0 w' (⟨g12,[v'],54⟩::⟨g10,[at'],46⟩::(A++(M'++T))) R:=by
 obtain⟨hp0,hp1⟩:=hp;have hW:=fun x s w=>jG7 x s w;have hgo: [atW p s].flatMap jY3=[.int .i64 1,.int .i64 (1+p),.string s]:=rfl;have h40:l.length+1<=1099511627776:=aa;obtain⟨ao,co,rfl⟩:=hO.form;have m1:1<=m:=hm;have c1:1<=c:=aa;have hwr:IntKind.i64.wrap (1+p)=1+p:=iz _ aa;replace hW:=hid hW;go_enter Tryz.func112,Tryz.ntmps112;go_wp2;(refine j__ 2 [9] [6,7,8,9] [0,1,3] [0,1,2,3,4,5,6,7,8,9] X ?_;clear X;intro hQ X hL;simp only[zF,zG] at hL;simp only[zF,zG]);refine Zl ?_;refine Zl ?_;refine Zg ?_;(refine kv0 rfl rfl Zev hR hk rfl rfl X hL hQ ?_;(simp only[Act.put,zA,zB,zC,zD,zE,zF,zG,Nat.reduceAdd]));refine Zg ?_;refine Zm ?_;(refine j_0 105 Tryz.func105 (hW.out _ _ _) ?_;rintro e w1 ⟨rfl,hb1⟩;replace X:=X.call hb1;clear hb1;refine Zce ?_;clear hL;intro hL);(refine jY7 rfl rfl Zev ay ay X hL rfl rfl ?_;intro g w X2 hL2;replace X:=X2;replace hL:=hL2;clear X2 hL2;(simp only[Act.put,zA,zB,zC,zD,zE,zF,zG,Nat.reduceAdd]));(refine kZ6 (M:=M) (T:=T) (n:=1) (_::_::A) rfl rfl [atW p s] j99 X hO Zev Zev hgo rfl h40 hL (.cons_cons _ (.cons_cons _ (jO _))) rfl rfl ?_;intro a2 c2 w2 M2 hO2 X2 hL2;replace X:=X2;replace hL:=hL2;clear X2 hL2;(simp only[Act.put,zA,zB,zC,zD,zE,zF,zG,Nat.reduceAdd]));(refine Zb ?_;clear X;intro w X);refine j90 ?_
 go_wp2_with (first|(refine ZcL ?_)| (refine ZcS ?_;clear X;intro w X)| (refine ZcA ?_;clear X;intro g w X))
 all_goals exact bodyPost_end (results_none rfl _ _ _) rfl ⟨⟨_,rfl⟩,_,_,_,hO2,fun h=>(by first|rfl| (exfalso;omega)| (rw[ii aa])),X⟩
theorem jv5(kd at_ : Int)(x0 q : Int)(vt vb : Value)(mk : Mrk)(p : Int)(hp : 0 <= p /\ p < 24){S : List Nat}{w0 w : World}{A M T : List Ent}{R : List Rd}{g12 g10 g15 g3 ga k m c n n' cap : Nat}{cs tcs : List Value}{t3 : TypeId}{v : Value}{l : List Stp}(hmk:∀w' L',St S w0 w' L' R->j1_ w' (.agg #[.int .i64 kd,.int .i64 q,.int .i64 at_,vt,vb]) mk)(X:St S w0 w (⟨g12,[v],54⟩::⟨g10,[.slice (some ⟨ga,k,none⟩) m c],46⟩::⟨g15,[.func (.func 112) #[] #[.pointer (some ⟨g12,0,none⟩),.pointer (some ⟨g10,0,none⟩)]],159⟩::⟨g3,.int .i64 q::tcs,t3⟩::(A++(M++T))) R) (hO:j4_ jY3 105 3 v l M) (hR:⟨.slice (some ⟨ga,0,none⟩) n' cap,n,cs⟩∈R) (hk:cs[k]? =some (.int .i64 p)) (hm:0<m) (hmc:m<=c) (hl:l.length<=1000):Calls Tryz.prog 113 #[.agg #[.int .i64 kd, .int .i64 x0, .int .i64 at_, vt, vb], .pointer (some ⟨g3, 0, none⟩), .pointer (some ⟨g15, 0, none⟩)] w fun e w' => ∃ u v' at' M', e = .returned u /\ j4_ jY3 105 3 v' (l ++ [atW p (markS mk)]) M' /\ (1 < m -> at' = .slice (some ⟨ga, k + 1, none⟩) (m - 1) (c - 1)) /\St S w0 w' (⟨g12,[v'],54⟩::⟨g10,[at'],46⟩::⟨g15,[.func (.func 112) #[] #[.pointer (some ⟨g12,0,none⟩),.pointer (some ⟨g10,0,none⟩)]],159⟩::⟨g3,.int .i64 q::tcs,t3⟩::(A++(M'++T))) R:=by
 have hE:=fun w' L' (X':St S w0 w' L' R)=>j32 mk _ w' (hmk w' L' X');have hL:=fun s w (X:St S w0 w (⟨g12,[v],54⟩::⟨g10,[.slice (some ⟨ga,k,none⟩) m c],46⟩::⟨g15,[.func (.func 112) #[] #[.pointer (some ⟨g12,0,none⟩),.pointer (some ⟨g10,0,none⟩)]],159⟩::⟨g3,.int .i64 q::tcs,t3⟩::(A++(M++T))) R)=>k23 s p hp (A:=⟨g15,[.func (.func 112) #[] #[.pointer (some ⟨g12,0,none⟩),.pointer (some ⟨g10,0,none⟩)]],159⟩::⟨g3,.int .i64 q::tcs,t3⟩::A) X hO hR hk hm hmc hl;generalize markS mk=ms at*;generalize markE mk=me at*;replace hE:=hid hE;replace hL:=hid hL;replace hR:=hid hR;replace hk:=hid hk;clear hmk;go_enter Tryz.func113,Tryz.ntmps113
 go_wp2_with (first|(refine ZcL ?_)| (refine ZcS ?_;clear X;intro w X)| (refine ZcA ?_;clear X;intro g w X)|(go_at_call 29;((with_reducible refine(hE.out _ _ X).mono ?_);rintro e w1 ⟨rfl,hb1⟩;replace X:=X.call hb1;clear hb1))|(go_at_call 112;((with_reducible refine(hL.out _ _ X.tail).mono ?_);rintro e w1 ⟨u,v2,at2,M2,rfl,hO2,hat,X2⟩;replace X:=X2;clear X2)))
 exact bodyPost_end (results_none rfl _ _ _) rfl ⟨_,_,_,_,rfl,hO2,hat,X⟩
end Go.Proofs.YtlecmdajpfkaeaaGreatDoor