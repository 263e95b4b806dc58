/- Parts of the proof. -/
import Derived.Test.YtlecmdajpfkaeaaGreatDoorKJournalRuns15
import Derived.Test.YtlecmdajpfkaeaaGreatDoorKJournalRuns11
set_option linter.unusedVariables false
set_option linter.unusedSimpArgs false
set_option maxRecDepth 100000
set_option maxHeartbeats 40000000
namespace Go.Proofs.YtlecmdajpfkaeaaGreatDoor
open Go.RowKit Wb
theorem kD0{tags:List Tag}{k:Nat}(hk:k<tags.length):(tags.map (·.block)).take (k+1)=(tags.map (·.block)).take k++ [tags[k].block]:=by
 rw[it dD];simp
theorem kD_{tags:List Tag}{k:Nat}(hk:k<=tags.length):((tags.map (·.block)).take k).length=k:=ah
theorem ej{A:Prop}(h:A:=by
 go_wp2_with (first| (go_at_call_of 87 (Value.slice la tags.length lcap);refine(hr1.out _ _ hrd).mono ?_;rintro e w' ⟨rfl,rfl⟩)| (go_at_call_of 87 (Value.slice ba blks.length bcap);refine(hr2.out _ _ hrb).mono ?_;rintro e w' ⟨rfl,rfl⟩));all_goals (go_ret;exact⟨rfl,hnx⟩)):A:=h
theorem jw6(m : Mrk)(v : Value)(w : World)(hm : j1_ w v m)(hA : ¬ j97 m)(hB : ¬ j78 m)(hC : ¬ j88 m) :Calls Tryz.prog 46 #[v] w fun e w'=>e=.returned (.int .i64 (markE m))/\Below w.heap.size w w':=by
  obtain⟨vt,vb,rfl,ht,hbk,n1,n2⟩:=hm;have hE1:j44 m\/j48 m->markE m=2:=fun h=>by rcases h with h|h;exact jK9 hA hB hC h;exact jH6 hA hB hC h
  have hE0:¬(j44 m\/j48 m)->markE m=0:=fun h=>jO0 hA hB hC (fun hh=>h (.inl hh)) (fun hh=>h (.inr hh));generalize markE m=er at*;obtain⟨kd,sq,at_,tags,blks⟩:=m;unfold j97 at hA;unfold j78 at hB;unfold j88 at hC;unfold j44 j48 at hE1 hE0;dsimp only at*;obtain⟨ta,tcap,rfl,tc1,tc2⟩:=ht.form;obtain⟨ba,bcap,rfl,bc1,bc2⟩:=hbk.form;unfold maxLen at tc2 bc2;have hk:kd=1\/kd=2\/kd=3\/kd=4:=aa;obtain⟨q1,q2,q3,q4⟩:1<=sq/\sq<=2147483647/\0<=at_/\at_<24:=aa;have g1:kd=1\/at_=0:=aa;have g2:kd=2\/tags.length<=0:=aa;have g3:kd=3\/blks.length<=0:=aa;have e1:kd≠2->((tags.length:Int) != 0)=false:=fun h=>bC;have e2:kd≠3->((blks.length:Int) != 0)=false:=fun h=>bC;clear hA hB hC
  have hE : ∀ (x1 x2 : Bool), rise (tags.map (·.block)) = x1 -> rise blks = x2 ->
      ((x1=false\/x2=false\/kd=2/\(tags.length<1\/10<tags.length)\/kd=3/\(blks.length<1\/20<blks.length))->er=2)/\
      (x1=true->x2=true->¬(kd=2/\(tags.length<1\/10<tags.length))->¬(kd=3/\(blks.length<1\/20<blks.length))->er=0):=by
    intro x1 x2 hx1 hx2
    rw[hx1,hx2] at hE1 hE0
    refine⟨fun hh=>hE1 ?_,fun a1 a2 a3 a4=>hE0 ?_⟩
    · rcases hh with hh|hh|hh|hh
      · exact .inr (.inl hh)
      · exact .inr (.inr hh)
      · left;omega
      · left;omega
    · rintro(hh|hh)
      · omega
      · rcases hh with hh|hh
        · rw[a1] at hh;cases hh
        · rw[a2] at hh;cases hh
  replace hE:=hid (hE _ _ rfl rfl);clear hE1 hE0;have hr1:=fun(v:Value) (w:World) (hh:RL j_9 w v (tags.map (·.block)))=>jG4 v (tags.map (·.block)) w hh;have hr2:=fun(v:Value) (w:World) (hh:RL j_9 w v blks)=>jG4 v blks w hh;generalize rise (tags.map (·.block))=x1 at*;generalize rise blks=x2 at*;replace hr1:=hid hr1;replace hr2:=hid hr2;rcases hk with rfl|rfl|rfl|rfl
  · replace e1:=e1 ae;replace e2:=e2 ae;replace g2:tags.length<=0:=aa;replace g3:blks.length<=0:=aa;clear g1;go_enter Tryz.func46,Tryz.ntmps46;have kb0:Blk (w.alloc (.cells #[.int .i64 1,.int .i64 sq,.int .i64 at_,.slice ta tags.length tcap,.slice ba blks.length bcap] 67)) w.heap.size #[.int .i64 1,.int .i64 sq,.int .i64 at_,.slice ta tags.length tcap,.slice ba blks.length bcap] 67:=kk3 w _ _;go_wp2
    go_loopw [3,5,65] (fun vl _ i wr=>∃k:Nat,k<=tags.length/\i=.int .i64 k/\Wb.Own j_9 (w.heap.size+1) 3 1 wr vl ((tags.map (·.block)).take k)/\Blk wr w.heap.size #[.int .i64 1,.int .i64 sq,.int .i64 at_,.slice ta tags.length tcap,.slice ba blks.length bcap] 67/\Below w.heap.size w wr) (fun _ _ i _=>tags.length-(intOf i).toNat)
    case atStart=>exact⟨0,iq _,rfl,df,kb0,aj⟩
    case round =>
      obtain⟨k,hk,rfl,hown,kb,hnx⟩:=hrel;have c0:=kb.cell 0;have c3:=kb.cell 3;have c4:=kb.cell 4;simp only[Zga,Zgb,Zgc] at c0 c3 c4;have lt0:=kb.lt;have lz:=hnx.size;by_cases hlt:k<tags.length
      · exfalso;omega
      · obtain rfl:k=tags.length:=by omega
        have hrd:=hown.reads;rw[iV bQ] at hrd;obtain⟨la,lcap,hu,lc1,lc2⟩:=hrd.form;rw[iZ] at hu;subst hu;have hrb:=hbk.below hnx;clear hown
        cases x1
        · obtain rfl:=hE.out.1 (.inl rfl);exact ej
        · cases x2
          · obtain rfl:=hE.out.1 (.inr (.inl rfl));exact ej
          · by_cases hz1:(1:Int)=2/\(tags.length<1\/10<tags.length)\/(1:Int)=3/\(blks.length<1\/20<blks.length)
            · first
              | (exfalso;omega)
              | (obtain rfl := hE.out.1 (by simp; omega)
                 go_wp2_with (first| (go_at_call_of 87 (Value.slice la tags.length lcap);refine(hr1.out _ _ hrd).mono ?_;rintro e w' ⟨rfl,rfl⟩)| (go_at_call_of 87 (Value.slice ba blks.length bcap);refine(hr2.out _ _ hrb).mono ?_;rintro e w' ⟨rfl,rfl⟩));all_goals (go_ret;exact⟨rfl,hnx⟩))
            · obtain rfl:=hE.out.2 rfl rfl aa aa;exact ej
  · replace e2:=e2 ae;replace g3:blks.length<=0:=aa;obtain rfl:at_=0:=aa;clear g1 g2 e1;go_enter Tryz.func46,Tryz.ntmps46;have kb0:Blk (w.alloc (.cells #[.int .i64 2,.int .i64 sq,.int .i64 0,.slice ta tags.length tcap,.slice ba blks.length bcap] 67)) w.heap.size #[.int .i64 2,.int .i64 sq,.int .i64 0,.slice ta tags.length tcap,.slice ba blks.length bcap] 67:=kk3 w _ _;go_wp2
    go_loopw [3,5,65] (fun vl _ i wr=>∃k:Nat,k<=tags.length/\i=.int .i64 k/\Wb.Own j_9 (w.heap.size+1) 3 1 wr vl ((tags.map (·.block)).take k)/\Blk wr w.heap.size #[.int .i64 2,.int .i64 sq,.int .i64 0,.slice ta tags.length tcap,.slice ba blks.length bcap] 67/\Below w.heap.size w wr) (fun _ _ i _=>tags.length-(intOf i).toNat)
    case atStart=>exact⟨0,iq _,rfl,df,kb0,aj⟩
    case round =>
      obtain⟨k,hk,rfl,hown,kb,hnx⟩:=hrel;have c0:=kb.cell 0;have c3:=kb.cell 3;have c4:=kb.cell 4;simp only[Zga,Zgb,Zgc] at c0 c3 c4;have lt0:=kb.lt;have lz:=hnx.size;by_cases hlt:k<tags.length
      · obtain⟨b,off,rfl,d0,d1⟩:=kj3 (fun x=>.int .i64 x.block) (fun x=>.bool x.esc) (fun _=>rfl) (ht.below hnx) hlt;have htk:=kD0 hlt;have htl:=kD_ hk;replace htk:=hid htk;replace htl:=hid htl;generalize tags[k]=x at*
        go_wp2_with (at_builtin;refine j70 rfl _ _ _ rfl (w.heap.size+1) _ 1 8 j9_ jz0 (hown.alloc _) rfl x.block rfl rfl ?c1 ?c2 ?c3 ?c4)
        case c1=>(try rw[htl.out]);omega
        case c2=>(try rw[htl.out]);unfold maxLen;omega
        all_goals try(case c3=>simp;omega)
        case c4 =>
          intro v' w' hown' hbel hgrow;rw[<-htk.out] at hown';have kb':=(kb.alloc (.cells #[.int .i64 x.block,.bool x.esc] 103)).below hbel aa;have hnx':=(j63 hnx (iy _) (.cells #[.int .i64 x.block,.bool x.esc] 103)).trans (hbel.mono aa);go_wp2;go_roundw
          case rel=>exact⟨k+1,aa,an,hown',kb',hnx'⟩
          case measure=>simp[intOf];omega
      · obtain rfl:k=tags.length:=by omega
        have hrd:=hown.reads;rw[iV bQ] at hrd;obtain⟨la,lcap,hu,lc1,lc2⟩:=hrd.form;rw[iZ] at hu;subst hu;have hrb:=hbk.below hnx;clear hown
        cases x1
        · obtain rfl:=hE.out.1 (.inl rfl);exact ej
        · cases x2
          · obtain rfl:=hE.out.1 (.inr (.inl rfl));exact ej
          · by_cases hz1:(2:Int)=2/\(tags.length<1\/10<tags.length)\/(2:Int)=3/\(blks.length<1\/20<blks.length)
            · first
              | (exfalso;omega)
              | (obtain rfl := hE.out.1 (.inr (.inr (hz1.imp (fun h => ⟨trivial, h.2⟩) (fun h => absurd h.1 (by decide)))))
                 go_wp2_with (first| (go_at_call_of 87 (Value.slice la tags.length lcap);refine(hr1.out _ _ hrd).mono ?_;rintro e w' ⟨rfl,rfl⟩)| (go_at_call_of 87 (Value.slice ba blks.length bcap);refine(hr2.out _ _ hrb).mono ?_;rintro e w' ⟨rfl,rfl⟩));all_goals (go_ret;exact⟨rfl,hnx⟩))
            · obtain rfl:=hE.out.2 rfl rfl aa aa;exact ej
  · replace e1:=e1 ae;replace g2:tags.length<=0:=aa;obtain rfl:at_=0:=aa;clear g1 g3 e2;go_enter Tryz.func46,Tryz.ntmps46;have kb0:Blk (w.alloc (.cells #[.int .i64 3,.int .i64 sq,.int .i64 0,.slice ta tags.length tcap,.slice ba blks.length bcap] 67)) w.heap.size #[.int .i64 3,.int .i64 sq,.int .i64 0,.slice ta tags.length tcap,.slice ba blks.length bcap] 67:=kk3 w _ _;go_wp2
    go_loopw [3,5,65] (fun vl _ i wr=>∃k:Nat,k<=tags.length/\i=.int .i64 k/\Wb.Own j_9 (w.heap.size+1) 3 1 wr vl ((tags.map (·.block)).take k)/\Blk wr w.heap.size #[.int .i64 3,.int .i64 sq,.int .i64 0,.slice ta tags.length tcap,.slice ba blks.length bcap] 67/\Below w.heap.size w wr) (fun _ _ i _=>tags.length-(intOf i).toNat)
    case atStart=>exact⟨0,iq _,rfl,df,kb0,aj⟩
    case round =>
      obtain⟨k,hk,rfl,hown,kb,hnx⟩:=hrel;have c0:=kb.cell 0;have c3:=kb.cell 3;have c4:=kb.cell 4;simp only[Zga,Zgb,Zgc] at c0 c3 c4;have lt0:=kb.lt;have lz:=hnx.size;by_cases hlt:k<tags.length
      · exfalso;omega
      · obtain rfl:k=tags.length:=by omega
        have hrd:=hown.reads;rw[iV bQ] at hrd;obtain⟨la,lcap,hu,lc1,lc2⟩:=hrd.form;rw[iZ] at hu;subst hu;have hrb:=hbk.below hnx;clear hown
        cases x1
        · obtain rfl:=hE.out.1 (.inl rfl);exact ej
        · cases x2
          · obtain rfl:=hE.out.1 (.inr (.inl rfl));exact ej
          · by_cases hz1:(3:Int)=2/\(tags.length<1\/10<tags.length)\/(3:Int)=3/\(blks.length<1\/20<blks.length)
            · first
              | (exfalso;omega)
              | (obtain rfl := hE.out.1 (.inr (.inr (hz1.imp (fun h => absurd h.1 (by decide)) (fun h => ⟨trivial, h.2⟩))))
                 go_wp2_with (first| (go_at_call_of 87 (Value.slice la tags.length lcap);refine(hr1.out _ _ hrd).mono ?_;rintro e w' ⟨rfl,rfl⟩)| (go_at_call_of 87 (Value.slice ba blks.length bcap);refine(hr2.out _ _ hrb).mono ?_;rintro e w' ⟨rfl,rfl⟩));all_goals (go_ret;exact⟨rfl,hnx⟩))
            · obtain rfl:=hE.out.2 rfl rfl aa aa;exact ej
  · replace e1:=e1 ae;replace e2:=e2 ae;replace g2:tags.length<=0:=aa;replace g3:blks.length<=0:=aa;obtain rfl:at_=0:=aa;clear g1;go_enter Tryz.func46,Tryz.ntmps46;have kb0:Blk (w.alloc (.cells #[.int .i64 4,.int .i64 sq,.int .i64 0,.slice ta tags.length tcap,.slice ba blks.length bcap] 67)) w.heap.size #[.int .i64 4,.int .i64 sq,.int .i64 0,.slice ta tags.length tcap,.slice ba blks.length bcap] 67:=kk3 w _ _;go_wp2
    go_loopw [3,5,65] (fun vl _ i wr=>∃k:Nat,k<=tags.length/\i=.int .i64 k/\Wb.Own j_9 (w.heap.size+1) 3 1 wr vl ((tags.map (·.block)).take k)/\Blk wr w.heap.size #[.int .i64 4,.int .i64 sq,.int .i64 0,.slice ta tags.length tcap,.slice ba blks.length bcap] 67/\Below w.heap.size w wr) (fun _ _ i _=>tags.length-(intOf i).toNat)
    case atStart=>exact⟨0,iq _,rfl,df,kb0,aj⟩
    case round =>
      obtain⟨k,hk,rfl,hown,kb,hnx⟩:=hrel;have c0:=kb.cell 0;have c3:=kb.cell 3;have c4:=kb.cell 4;simp only[Zga,Zgb,Zgc] at c0 c3 c4;have lt0:=kb.lt;have lz:=hnx.size;by_cases hlt:k<tags.length
      · exfalso;omega
      · obtain rfl:k=tags.length:=by omega
        have hrd:=hown.reads;rw[iV bQ] at hrd;obtain⟨la,lcap,hu,lc1,lc2⟩:=hrd.form;rw[iZ] at hu;subst hu;have hrb:=hbk.below hnx;clear hown
        cases x1
        · obtain rfl:=hE.out.1 (.inl rfl);exact ej
        · cases x2
          · obtain rfl:=hE.out.1 (.inr (.inl rfl));exact ej
          · by_cases hz1:(4:Int)=2/\(tags.length<1\/10<tags.length)\/(4:Int)=3/\(blks.length<1\/20<blks.length)
            · first
              | (exfalso;omega)
              | (obtain rfl := hE.out.1 (by simp; omega)
                 go_wp2_with (first| (go_at_call_of 87 (Value.slice la tags.length lcap);refine(hr1.out _ _ hrd).mono ?_;rintro e w' ⟨rfl,rfl⟩)| (go_at_call_of 87 (Value.slice ba blks.length bcap);refine(hr2.out _ _ hrb).mono ?_;rintro e w' ⟨rfl,rfl⟩));all_goals (go_ret;exact⟨rfl,hnx⟩))
            · obtain rfl:=hE.out.2 rfl rfl aa aa;exact ej
theorem jE0(m : Mrk)(v : Value)(w : World)(hm : j1_ w v m) :Calls Tryz.prog 46 #[v] w fun e w'=>e=.returned (.int .i64 (markE m))/\Below w.heap.size w w':=by
 by_cases hbad:j97 m\/j78 m\/j88 m
 ·exact jD4 m v w hm hbad
 ·simp only[not_or] at hbad;exact jw6 m v w hm hbad.1 hbad.2.1 hbad.2.2
theorem ku3(x y:List UInt8):str x++str y=str (x++y):=by
 apply js9;simp[str]
theorem kJ0(n:Int):j67 (n%256)=j67 n:=by unfold j67;rw[Int.emod_emod_of_dvd _ ae]
theorem kZ9(n:Int)(w:World):Calls Tryz.prog 47 #[.int .i64 n] w fun e w'=>e=.returned (.string (str [j67 n]))/\Below w.heap.size w w':=by
 have hr:RL jZ8 (w.alloc (.cells #[.int .u8 (n%256)] 5 (0,0))) (.slice (some ⟨w.heap.size,0,none⟩) 1 1) [j67 n]:=by
  have h:=kl5 (f:=jZ8) w 5 (0,0) (j67 n);simpa [jZ8,j41] using h
 have hcv:=jP0 (P:=Tryz.prog) (src:=123) (dst:=9) _ Tryz.underlying123 Tryz.underlying5 Tryz.underlying9 hr;clear hr;go_enter Tryz.func47,Tryz.ntmps47;go_wp2;go_ret;exact⟨rfl,aj⟩
theorem ig{A:Prop}(h:A:=by
 rw[iY];go_wp2;go_meet;exact⟨by rw[hbody.out],hnx⟩):A:=h
theorem j24(m : Mrk)(v : Value)(w : World)(hm : j1_ w v m) :Calls Tryz.prog 16 #[v] w fun e w'=>e=.returned (.tuple #[.string (markS m),.int .i64 (markE m)])/\Below w.heap.size w w':=by
 have hG:=fun w (hh:j1_ w v m)=>jE0 m v w hh;have hm2:=hm;obtain⟨vt,vb,rfl,ht,hbk,n1,n2⟩:=hm;by_cases hE:markE m=0
 ·have hS:markS m=str (jS2 m):=by unfold markS;rw[ij hE]
  have hfit:fit (str (headL m++jV0 m))=markS m:=by rw[hS];exact kT5 _
  rw[hE] at hG⊢;obtain⟨hA,hB,hC,hD⟩:=jU6 hE;clear hS hE;generalize markS m=ms at*;obtain⟨kd,sq,at_,tags,blks⟩:=m;unfold j97 at hA;unfold j78 at hB;unfold j88 at hC;unfold j44 at hD;dsimp only at*;obtain⟨ta,tcap,rfl,tc1,tc2⟩:=ht.form;obtain⟨ba,bcap,rfl,bc1,bc2⟩:=hbk.form;unfold maxLen at tc2 bc2;have hk:kd=1\/kd=2\/kd=3\/kd=4:=aa;obtain⟨q1,q2,q3,q4⟩:1<=sq/\sq<=2147483647/\0<=at_/\at_<24:=aa;have g4:tags.length<=10:=aa;have g5:blks.length<=20:=aa;clear hA hB hC hD;have hFt:=fun s w hs=>jL6 s w hs;have hO:=fun n w=>kZ9 n w;replace hFt:=hid hFt;replace hO:=hid hO;replace hG:=hid hG;replace hm2:=hid hm2;replace hfit:=hid hfit;replace ht:=hid ht;replace hbk:=hid hbk;clear n1 n2 tc1 tc2 bc1 bc2;have nf:0<w.heap.size+1:=aa;go_enter Tryz.func16,Tryz.ntmps16
  go_wp2_with (go_at_call 46;refine(hG.out _ (hm2.out.below aj)).mono ?_;rintro e w1 ⟨rfl,hb1⟩;obtain⟨hbc,hbf⟩:=j51 hb1;have hbz:=hb1.size;try simp only[iN,iJ,World.size_drew] at hbz;have hz0:=ir (n:=w.heap.size) aa hbz)
  have kb:Blk w1 w.heap.size #[.int .i64 kd,.int .i64 sq,.int .i64 at_,.slice ta tags.length tcap,.slice ba blks.length bcap] 67:=(kk3 w _ _).step hb1;have hnx:Below w.heap.size w w1:=aj;clear hb1 hbc hbf hm2 hG;have c0:=kb.cell 0;have c1:=kb.cell 1;have c2:=kb.cell 2;have c3:=kb.cell 3;have c4:=kb.cell 4;simp only[Zga,Zgb,Zgc] at c0 c1 c2 c3 c4;have z1:=jV6;have z2:=ku3;have z3:=kJ0;have z4:(⟨#[87,66,75,49]⟩:ByteArray)=str magic:=rfl;have z5:magic.length=4:=rfl;(refine j83 af af ?_);(repeat(go_big_quiet_step ((go_at_call 47;exact BW.call (hO.out _ _)))));refine lv ?_;intro wq hw';obtain⟨⟨_,hb1⟩,rfl⟩:=hw';have hl9:(magic++ [j67 kd,j67 (sq/16777216),j67 (sq/65536),j67 (sq/256),j67 sq]).length=9:=rfl;obtain⟨bd,hbd⟩:∃l,l=jV0 ⟨kd,sq,at_,tags,blks⟩:=⟨_,rfl⟩;rw[<-hbd] at hfit;replace hfit:Hid (fit (str ((magic++ [j67 kd,j67 (sq/16777216),j67 (sq/65536),j67 (sq/256),j67 sq])++bd))=ms):=hfit;generalize magic++ [j67 kd,j67 (sq/16777216),j67 (sq/65536),j67 (sq/256),j67 sq]=hd at*;have kb2:=kb.below hb1 aa;have hnx2:Below w.heap.size w wq:=aj;have hz2:w.heap.size+1<=wq.heap.size:=i3 hbz hb1.size;clear kb hnx hb1 c0 c1 c2 c3 c4 hbz hz0 z3 z4 z5;have c0:=kb2.cell 0;have c2:=kb2.cell 2;have c3:=kb2.cell 3;have c4:=kb2.cell 4;simp only[Zga,Zgb,Zgc] at c0 c2 c3 c4;have lt0:=kb2.lt;have z6:(⟨#[0]⟩:ByteArray)=str [0]:=rfl;have z7:(⟨#[1]⟩:ByteArray)=str [1]:=rfl
  go_upto_block 0 with fail
  go_cut [5] (fun s5 wx=>s5=.string (str (hd++bd))/\Below w.heap.size w wx)
  case first=>
   rcases hk with rfl|rfl|rfl|rfl
   ·have hbody:bd=[j67 at_]:=hbd;replace hbody:=hid hbody;clear hbd
    go_wp2_with (go_at_call 47;refine(hO.out _ _).mono ?_;rintro e w2 ⟨rfl,hb2⟩)
    go_meet;exact⟨by rw[hbody.out],hnx2.trans (hb2.mono aa)⟩
   ·have hbody:bd=[j67 tags.length]++tags.flatMap jD8:=hbd;replace hbody:=hid hbody;clear hbd
    go_wp2_with (go_at_call 47;refine(hO.out _ _).mono ?_;rintro e w2 ⟨rfl,hb2⟩;have hnx3:=hnx2.trans (hb2.mono aa);have hz3:=hb2.size;have c3:=(kb2.below hb2 aa).cell 3;simp only[Zga,Zgb,Zgc] at c3)
    go_loopw [5,7,61] (fun s5 _ i wr=>∃k:Nat,k<=tags.length/\i=.int .i64 k/\s5=.string (str (hd++([j67 tags.length]++(tags.take k).flatMap jD8)))/\Below w.heap.size w wr/\w.heap.size+1<=wr.heap.size) (fun _ _ i _=>tags.length-(intOf i).toNat)
    case atStart=>exact⟨0,iq _,rfl,ag,hnx3,aa⟩
    case round=>
     obtain⟨k,hk,rfl,rfl,hnx,hz⟩:=hrel;by_cases hlt:k<tags.length
     ·obtain⟨b,off,rfl,d0,d1⟩:=kj3 (fun x=>.int .i64 x.block) (fun x=>.bool x.esc) (fun _=>rfl) (ht.out.below hnx) hlt;have lt1:=i0 _ _ d0;dsimp only at lt1;have hstep:tags.take (k+1)=tags.take k++ [tags[k]]:=bP
      have hln:(hd++([j67 tags.length]++(tags.take k).flatMap jD8)).length=10+k*2:=by
       rw[il,il,hl9,jI1,iA,jf hk];simp;omega
      have hjoin:∀x:Tag,tags[k]=x->(hd++([j67 tags.length]++(tags.take k).flatMap jD8))++jD8 x=hd++([j67 tags.length]++(tags.take (k+1)).flatMap jD8):=by
       exact gx
      replace hjoin:=hid (hjoin _ rfl);clear hstep;generalize hd++([j67 tags.length]++(tags.take k).flatMap jD8)=ls at*;generalize tags[k]=x at*;obtain⟨xb,xe⟩:=x;dsimp only at d0 d1
      cases xe
      all_goals
       go_wp2_with (go_at_call 47;refine(hO.out _ _).mono ?_;rintro e w4 ⟨rfl,hb1⟩;obtain⟨hbc,hbf⟩:=j51 hb1;have hbz:=hb1.size;try simp only[iN,iJ,World.size_drew] at hbz;have hz0:=ir (n:=w.heap.size) aa hbz)
       go_roundw
       case rel=>exact⟨k+1,aa,an,by rw[<-hjoin.out];rfl,(j63 hnx aa _).trans (hb1.mono ah),aa⟩
       case measure=>simp[intOf];omega
     ·obtain rfl:k=tags.length:=by omega
      exact ig
   ·have hbody:bd=[j67 blks.length]++blks.map j67:=hbd;replace hbody:=hid hbody;clear hbd
    go_wp2_with (go_at_call 47;refine(hO.out _ _).mono ?_;rintro e w2 ⟨rfl,hb2⟩;have hnx3:=hnx2.trans (hb2.mono aa);have hz3:=hb2.size;have c4:=(kb2.below hb2 aa).cell 4;simp only[Zga,Zgb,Zgc] at c4)
    go_loopw [5,9,88] (fun s5 _ i wr=>∃k:Nat,k<=blks.length/\i=.int .i64 k/\s5=.string (str (hd++([j67 blks.length]++(blks.take k).map j67)))/\Below w.heap.size w wr/\w.heap.size+1<=wr.heap.size) (fun _ _ i _=>blks.length-(intOf i).toNat)
    case atStart=>exact⟨0,iq _,rfl,ag,hnx3,aa⟩
    case round=>
     obtain⟨k,hk,rfl,rfl,hnx,hz⟩:=hrel;by_cases hlt:k<blks.length
     ·obtain⟨b,off,rfl,d0⟩:=kl6 (fun x=>.int .i64 x) (fun _=>rfl) (hbk.out.below hnx) hlt;have lt1:=i0 _ _ d0;dsimp only at lt1;have hstep:blks.take (k+1)=blks.take k++ [blks[k]]:=bP
      have hln:(hd++([j67 blks.length]++(blks.take k).map j67)).length=10+k:=by
       exact gM
      have hjoin:∀x:Int,blks[k]=x->(hd++([j67 blks.length]++(blks.take k).map j67))++ [j67 x]=hd++([j67 blks.length]++(blks.take (k+1)).map j67):=by
       exact gY
      replace hjoin:=hid (hjoin _ rfl);clear hstep;generalize hd++([j67 blks.length]++(blks.take k).map j67)=ls at*;generalize blks[k]=x at*
      go_wp2_with (go_at_call 47;refine(hO.out _ _).mono ?_;rintro e w4 ⟨rfl,hb1⟩)
      go_roundw
      case rel=>exact⟨k+1,aa,an,by rw[<-hjoin.out],hnx.trans (hb1.mono aa),i3 hz hb1.size⟩
      case measure=>simp[intOf];omega
     ·obtain rfl:k=blks.length:=by omega
      exact ig
   ·have hbody:bd=[]:=hbd;replace hbody:=hid hbody;clear hbd;go_wp2;go_meet;exact⟨by rw[hbody.out,i6],hnx2⟩
  case rest=>
   obtain⟨rfl,hnx5⟩:=hcut
   have hsz:(str (hd++bd)).size<=9223372036854775807:=by
    have hb:=kV0 ⟨kd,sq,at_,tags,blks⟩ g4 g5;rw[jV6,il,hl9,hbd];omega
   replace hfit:=hid hfit;clear z1 z2;generalize str (hd++bd)=sb at*
   go_wp2_with (go_at_call 45;refine(hFt.out _ _ hsz).mono ?_;rintro e w1 ⟨rfl,hb1⟩)
   go_ret2;exact⟨k35 hfit.out.out,hnx5.trans (hb1.mono hnx5.size)⟩
 ·have hS:markS m=str []:=by unfold markS;rw[ii hE]
  rw[hS];have hne:(markE m != 0)=true:=jd.2 hE;generalize markE m=er at*;replace hG:=hid hG;replace hm2:=hid hm2;obtain⟨kd,sq,at_,tags,blks⟩:=m;dsimp only at*;clear hS hE ht hbk;go_enter Tryz.func16,Tryz.ntmps16
  go_wp2_with (go_at_call 46;refine(hG.out _ (hm2.out.below aj)).mono ?_;rintro e w1 ⟨rfl,hb1⟩;obtain⟨hbc,hbf⟩:=j51 hb1;have hbz:=hb1.size;try simp only[iN,iJ,World.size_drew] at hbz;have hz0:=ir (n:=w.heap.size) aa hbz)
  go_ret2;exact⟨rfl,aj⟩
theorem kP7(s:ByteArray):Lib.hasPrefix s.data.toList [87,66,75,49]=isEsc s:=by
 rw[<-Lib.hasPrefix_of_take,lP,iD,decide_eq_true_iff,iT];constructor
 ·intro hh;exact iG hh.2
 ·intro hh;exact⟨by rw[k76];exact jy_ hh,iF hh⟩
theorem jF3(s:ByteArray):((s.extract 0 4).toList== [87,66,75,49])=isEsc s:=by
 rw[Lib.toList_data,Lib.extract_data,lZ];unfold isEsc;rw[lP,decide_eq_true_iff,iT];rfl
theorem jC4(p:List UInt8)(s:ByteArray)(h:4<=s.size):str p++s.extract 4 s.size=str (p++s.data.toList.drop 4):=by
 apply js9;rw[ByteArray.data_append,Array.toList_append,Lib.extract_data,iV (by rw[iX,k76];omega)];simp[str]
theorem fS{A:Prop}(h:A:=by
 replace hP:=hid hP;go_enter Tryz.func116,Tryz.ntmps116
 go_wp2_with (go_at_call 132;refine(hP.out _).mono ?_;rintro e w1 ⟨rfl,rfl⟩)
 go_ret2;exact⟨rfl,aj⟩):A:=h
theorem jd7(s : ByteArray)(w : World)(hs : s.size <= 9223372036854775807) :Calls Tryz.prog 116 #[.string s] w fun e w'=>e=.returned (.tuple #[.string (escS s),.bool (isEsc s)])/\Below w.heap.size w w':=by
 have hP:=fun w=>Tryz.strings_HasPrefix s ⟨#[87,66,75,49]⟩ w;have hb:=kP7 s;dsimp only at hP;rw[hb] at hP;clear hb
 cases hc:isEsc s
 ·rw[hc] at hP;have hv:escS s=s:=by unfold escS;rw[hc];rfl
  rw[hv];exact fS
 ·rw[hc] at hP;have h4:=jy_ hc;have hv:(⟨#[0,0,0,0]⟩:ByteArray)++s.extract 4 s.size=escS s:=by unfold escS;rw[hc];exact jC4 [0,0,0,0] s h4
  have hx:(s.extract 4 s.size).size=s.size-4:=ag;exact fS
theorem gl{A:Prop}(h:A:=by
 go_enter Tryz.func130,Tryz.ntmps130;go_wp2;go_ret2;exact⟨rfl,aj⟩):A:=h
theorem jw5(s : ByteArray)(w : World)(hs : s.size <= 9223372036854775807) :Calls Tryz.prog 130 #[.string s] w fun e w'=>e=.returned (.tuple #[.string (escS s),.bool (isEsc s)])/\Below w.heap.size w w':=by
 have hb:=jF3 s;by_cases h4:4<=s.size
 ·cases hc:isEsc s
  ·rw[hc] at hb;have hv:escS s=s:=by unfold escS;rw[hc];rfl
   rw[hv];exact gl
  ·rw[hc] at hb;have hv:(⟨#[0,0,0,0]⟩:ByteArray)++s.extract 4 s.size=escS s:=by unfold escS;rw[hc];exact jC4 [0,0,0,0] s h4
   have hx:(s.extract 4 s.size).size=s.size-4:=ag;exact gl
 ·have hc:isEsc s=false:=k_0 aa;have hv:escS s=s:=by unfold escS;rw[hc];rfl
  rw[hv,hc];exact gl
theorem js3(s : ByteArray)(e : Bool)(w : World)(hs : s.size <= 9223372036854775807) :Calls Tryz.prog 139 #[.string s,.bool e] w fun r w'=>r=.returned (.string (unescS s e))/\Below w.heap.size w w':=by
 by_cases h4:4<=s.size
 ·have hx:(s.extract 4 s.size).size=s.size-4:=by simp
  have hv1:(⟨#[87,66,75,49]⟩:ByteArray)++s.extract 4 s.size=unescS s true:=dx;have hv0:unescS s false=s:=by unfold unescS;simp
  cases e
  ·rw[hv0];clear hv1;go_enter Tryz.func139,Tryz.ntmps139;go_wp2;go_ret;exact⟨rfl,aj⟩
  ·go_enter Tryz.func139,Tryz.ntmps139;go_wp2;go_ret;exact⟨rfl,aj⟩
 ·have hv:unescS s e=s:=by unfold unescS;rw[ii (fun hh=>h4 hh.2)]
  rw[hv]
  cases e
  all_goals
   go_enter Tryz.func139,Tryz.ntmps139
   go_wp2
   go_ret
   exact⟨rfl,aj⟩
theorem jG3(s : ByteArray)(e : Bool)(w : World)(hs : s.size <= 9223372036854775807) :Calls Tryz.prog 91 #[.string s,.bool e] w fun r w'=>r=.returned (.string (unescS s e))/\Below w.heap.size w w':=by
 by_cases h4:4<=s.size
 ·have hx:(s.extract 4 s.size).size=s.size-4:=by simp
  have hv1:(⟨#[87,66,75,49]⟩:ByteArray)++s.extract 4 s.size=unescS s true:=dx;have hv0:unescS s false=s:=by unfold unescS;simp
  cases e
  ·rw[hv0];clear hv1;go_enter Tryz.func91,Tryz.ntmps91;go_wp2;go_ret;exact⟨rfl,aj⟩
  ·go_enter Tryz.func91,Tryz.ntmps91;go_wp2;go_ret;exact⟨rfl,aj⟩
 ·have hv:unescS s e=s:=by unfold unescS;rw[ii (fun hh=>h4 hh.2)]
  rw[hv]
  cases e
  all_goals
   go_enter Tryz.func91,Tryz.ntmps91
   go_wp2
   go_ret
   exact⟨rfl,aj⟩
end Go.Proofs.YtlecmdajpfkaeaaGreatDoor