/- Parts of the proof. -/
import Derived.Test.YtlecmdajpfkaeaaGreatDoorKJournalRuns19
import Derived.Test.YtlecmdajpfkaeaaGreatDoorKJournalRuns16
set_option linter.unusedVariables false
set_option linter.unusedSimpArgs false
set_option maxRecDepth 100000
set_option maxHeartbeats 40000000
namespace Go.Proofs.YtlecmdajpfkaeaaGreatDoor
open Go.RowKit Wb
theorem jL4(r : Ring)(t : Txn)(v : Value)(w0 : World)(ht : j17 w0 v t)(hb : goodR r = false \/ goodT t = false \/ openB t = true) :Calls Tryz.prog 60 #[r.val,v] w0 fun e w'=>e=.returned (.tuple #[r.val,.slice none 0 0,.int .i64 2])/\Below w0.heap.size w0 w':=by
 have hG:=fun w' (hb:Below w0.heap.size w0 w')=>j3_ t _ w' (ht.below hb);have hO:=fun w' (hb:Below w0.heap.size w0 w')=>jO3 t _ w' (ht.below hb);have hRG:=fun w'=>jY8 r w';obtain⟨vm,vd,vr,rfl,hm,hd,hr,n1,n2,n3⟩:=ht;obtain⟨h0,u0⟩:=r;generalize goodT t=gt at*;generalize openB t=ot at*;generalize goodR ⟨h0,u0⟩=gr at*;unfold j84 at*;simp only[Ring.val] at*;have X:St [] w0 w0 [] []:=kk7 [] w0;replace hG:=hid hG;replace hO:=hid hO;replace hRG:=hid hRG;clear hm hd hr
 cases gr with
 |false=>
  clear hb
  go_enter Tryz.func60,Tryz.ntmps60
  go_wp2_with (first|(refine ZdL ?_)| (refine ZdS ?_;clear X;intro w X)| (refine ZdA ?_;clear X;intro g w X)|(go_at_call 92;((with_reducible refine(hRG.out _).mono ?_);rintro e w1 ⟨rfl,hb1⟩;replace X:=X.call hb1;clear hb1)))
  exact jM0 rfl (.tmp rfl rfl) (.tmp rfl rfl) (.tmp rfl rfl) X (.head _) rfl rfl ⟨rfl,X.below⟩
 |true=>
  cases gt with
  |false=>
   clear hb
   go_enter Tryz.func60,Tryz.ntmps60
   go_wp2_with (first|(refine ZdL ?_)| (refine ZdS ?_;clear X;intro w X)| (refine ZdA ?_;clear X;intro g w X)|(go_at_call 92;((with_reducible refine(hRG.out _).mono ?_);rintro e w1 ⟨rfl,hb1⟩;replace X:=X.call hb1;clear hb1))|(go_at_call 93;((with_reducible refine(hG.out _ X.below).mono ?_);rintro e w1 ⟨rfl,hb1⟩;replace X:=X.call hb1;clear hb1)))
   exact jM0 rfl (.tmp rfl rfl) (.tmp rfl rfl) (.tmp rfl rfl) X (.head _) rfl rfl ⟨rfl,X.below⟩
  |true=>
   obtain rfl:ot=true:=by rcases hb with h|h|h<;>first|exact h|cases h
   clear hb
   go_enter Tryz.func60,Tryz.ntmps60
   go_wp2_with (first|(refine ZdL ?_)| (refine ZdS ?_;clear X;intro w X)| (refine ZdA ?_;clear X;intro g w X)|(go_at_call 92;((with_reducible refine(hRG.out _).mono ?_);rintro e w1 ⟨rfl,hb1⟩;replace X:=X.call hb1;clear hb1))|(go_at_call 93;((with_reducible refine(hG.out _ X.below).mono ?_);rintro e w1 ⟨rfl,hb1⟩;replace X:=X.call hb1;clear hb1))|(go_at_call 59;((with_reducible refine(hO.out _ X.below).mono ?_);rintro e w1 ⟨rfl,hb1⟩;replace X:=X.call hb1;clear hb1)))
   exact jM0 rfl (.tmp rfl rfl) (.tmp rfl rfl) (.tmp rfl rfl) X (.head _) rfl rfl ⟨rfl,X.below⟩
theorem jN2(r : Ring)(t : Txn)(v : Value)(w0 : World)(ht : j17 w0 v t)(hb : ¬ (goodR r = false \/ goodT t = false \/ openB t = true))(hn : takeE r (comN t) ≠ 0) :Calls Tryz.prog 60 #[r.val,v] w0 fun e w'=>e=.returned (.tuple #[r.val,.slice none 0 0,.int .i64 (takeE r (comN t))])/\Below w0.heap.size w0 w':=by
 have hbb:=hb;simp only[not_or,lx,iW] at hb;obtain⟨q1,q2,q3⟩:=hb;have hB:=fun w' (hb:Below w0.heap.size w0 w')=>jE2 t q2 _ w' (ht.below hb);have hG:=fun w' (hb:Below w0.heap.size w0 w')=>j3_ t _ w' (ht.below hb);have hO:=fun w' (hb:Below w0.heap.size w0 w')=>jO3 t _ w' (ht.below hb);have hRG:=fun w'=>jY8 r w';have hTk:=fun w'=>jE1 r (comN t) w';rw[q2] at hG;rw[q3] at hO;rw[q1] at hRG;obtain⟨_,_,_,f4,f5⟩:=jC2 hbb hn;rw[f4,f5] at hTk;have hcl:=kU1 (j92.1 q2);generalize takeE r (comN t)=te at*;have hte:(te != 0)=true:=jd.2 hn;generalize logT t=LG at*;rw[<-hcl] at hTk;obtain⟨vm,vd,vr,rfl,hm,hd,hr,n1,n2,n3⟩:=ht;obtain⟨h0,u0⟩:=r;unfold j84 at*;simp only[Ring.val] at*;have X:St [] w0 w0 [] []:=kk7 [] w0;replace hG:=hid hG;replace hO:=hid hO;replace hRG:=hid hRG;replace hB:=hid hB;replace hTk:=hid hTk;replace hcl:=hid hcl;clear hm hd hr hbb hn q1 q2 q3 f4 f5;go_enter Tryz.func60,Tryz.ntmps60
 go_wp2_with (first|(refine ZdL ?_)| (refine ZdS ?_;clear X;intro w X)| (refine ZdA ?_;clear X;intro g w X)|(go_at_call 92;((with_reducible refine(hRG.out _).mono ?_);rintro e w1 ⟨rfl,hb1⟩;replace X:=X.call hb1;clear hb1))|(go_at_call 93;((with_reducible refine(hG.out _ X.below).mono ?_);rintro e w1 ⟨rfl,hb1⟩;replace X:=X.call hb1;clear hb1))|(go_at_call 59;((with_reducible refine(hO.out _ X.below).mono ?_);rintro e w1 ⟨rfl,hb1⟩;replace X:=X.call hb1;clear hb1))|(go_at_call 94;((with_reducible refine(hB.out _ X.below).mono ?_);rintro e w1 ⟨va,rfl,hoa,hb1⟩;obtain⟨la,lc,rfl,_⟩:=hoa.reads.form;replace X:=X.call hb1;clear hb1 hoa))|(go_at_call 95;((with_reducible refine(hTk.out _).mono ?_);rintro e w1 ⟨va,rfl,hoa,hb1⟩;replace X:=X.call hb1;clear hb1 hoa)))
 exact jM0 rfl (.tmp rfl rfl) (.tmp rfl rfl) (.tmp rfl rfl) X (.tail _ (.head _)) rfl rfl ⟨rfl,X.below⟩
theorem gN{A:Prop}(h:A:=by
 go_roundw
 case rel=>exact⟨k+1,M2,aa,an,by rw[hRk.out];exact hO3,X⟩
 case measure=>simp only[intOf];omega):A:=h
theorem jJ6(r : Ring)(t : Txn)(v : Value)(w0 : World)(ht : j17 w0 v t)(hb : ¬ (goodR r = false \/ goodT t = false \/ openB t = true))(hn : takeE r (comN t) = 0) :Calls Tryz.prog 60 #[r.val,v] w0 fun e w'=>∃v',e=.returned (.tuple #[(jN6 r (comN t)).val,v',.int .i64 0])/\Wb.Own jY3 w0.heap.size 105 3 w' v' (comL r t)/\Below w0.heap.size w0 w':=by
 have hbb:=hb;simp only[not_or,lx,iW] at hb;obtain⟨q1,q2,q3⟩:=hb;have hg:=j92.1 q2;obtain⟨l1,l2,l3⟩:=jg5 hg;have hB:=fun w' (hb:Below w0.heap.size w0 w')=>jE2 t q2 _ w' (ht.below hb);have hG:=fun w' (hb:Below w0.heap.size w0 w')=>j3_ t _ w' (ht.below hb);have hO:=fun w' (hb:Below w0.heap.size w0 w')=>jO3 t _ w' (ht.below hb);have hRG:=fun w'=>jY8 r w';have hTk:=fun w'=>jE1 r (comN t) w';rw[q2] at hG;rw[q3] at hO;rw[q1] at hRG;rw[hn] at hTk;have hce:=(ja0 hbb hn).1;obtain⟨_,_,_,hroom,_⟩:=j21 hce;have hcl:=kU1 hg;obtain⟨LG,DS,RS,mc,hF,hLG⟩:=km1 hce;rw[<-hLG] at hB hcl;have hu:=((j71 r).1 q1).2.2
 have hTL:jI3 r (comN t)=places r.head ((j_4 t).length+1):=by
  unfold jI3;rw[ij hn,<-jV8 hg];congr 1
 rw[hTL] at hTk;rw[<-hcl,hF.ln] at hTk;rw[<-hcl,hF.ln];generalize hnb:(j_4 t).length=nb at*;have hnb24:nb+1<=24:=aa;generalize hCL:comL r t=CL at*;obtain⟨⟨rh,ru⟩,hTR⟩:∃x:Ring,jN6 r ((nb+1:Nat):Int)=x:=⟨_,rfl⟩;rw[hTR] at hTk⊢;have hcast:((nb+1:Nat):Int)=(nb:Int)+1:=aa;rw[hcast] at hTk;clear hcast;obtain⟨vm,vd,vr,rfl,hm,hd,hr,n1,n2,n3⟩:=ht;obtain⟨am,cm,rfl,hcm,_⟩:=hm.form;obtain⟨ad,cd,rfl,_⟩:=hd.form;obtain⟨ar,cr,rfl,hcr,_⟩:=hr.form;obtain⟨h0,u0⟩:=r;obtain⟨seq,mt,dt,rev,⟨o0,x0⟩,⟨o1,x1⟩,⟨o2,x2⟩⟩:=t;obtain⟨hln,hz0,hs0,he0,hm0,hll,hdl,hc0,hg0⟩:=hF;rw[hCL] at hc0;have hmt:=fun k (hk:k<dt.length)=>jV4 (f:=goS) hk;have hfu:dt.take dt.length=dt:=iY;unfold j84 at*;dsimp only[Ring.val] at*;have X:St [] w0 w0 [] [kj2 j_3 (.slice ad dt.length cd) dt]:=(kk7 [] w0).addR0 hd;replace hG:=hid hG;replace hO:=hid hO;replace hRG:=hid hRG;replace hB:=hid hB;replace hTk:=hid hTk;replace hcl:=hid hcl;replace hln:=hid hln;replace hz0:=hid hz0;replace hs0:=hid hs0;replace he0:=hid he0;replace hm0:=hid hm0;replace hll:=hid hll;replace hdl:=hid hdl;replace hc0:=hid hc0;replace hg0:=hid hg0;replace hmt:=hid hmt;replace hfu:=hid hfu;replace hg:=hid hg;replace hd:=hid hd;replace hCL:=hid hCL;replace hTR:=hid hTR;clear hm hr hbb hn q1 q2 q3 hTL hce hLG hu hroom hnb;go_enter Tryz.func60,Tryz.ntmps60
 go_upto_block 0 with (first|(refine ZdL ?_)| (refine ZdS ?_;clear X;intro w X)| (refine ZdA ?_;clear X;intro g w X)|(go_at_call 92;((with_reducible refine(hRG.out _).mono ?_);rintro e w1 ⟨rfl,hb1⟩;replace X:=X.call hb1;clear hb1))|(go_at_call 93;((with_reducible refine(hG.out _ X.below).mono ?_);rintro e w1 ⟨rfl,hb1⟩;replace X:=X.call hb1;clear hb1))|(go_at_call 59;((with_reducible refine(hO.out _ X.below).mono ?_);rintro e w1 ⟨rfl,hb1⟩;replace X:=X.call hb1;clear hb1))|(go_at_call 94;((with_reducible refine(hB.out _ X.below).mono ?_);rintro e w1 ⟨va,rfl,hoa,hb1⟩;obtain⟨la,lc,rfl,_⟩:=hoa.reads.form;replace X:=X.addOwn hb1 hoa;clear hb1 hoa;rw[hln.out] at X;simp only[hln.out]))|(go_at_call 95;((with_reducible refine(hTk.out _).mono ?_);rintro e w1 ⟨va,rfl,hoa,hb1⟩;obtain⟨pa,pc,rfl,_⟩:=hoa.reads.form;replace X:=X.addOwn hb1 hoa;clear hb1 hoa;rw[j87] at X;simp only[j87])))
 obtain⟨g8,g4,g3,g2,rfl,rfl,rfl,rfl⟩:=X.gs4
 go_cut [11] (fun v11 wx=>∃(M:List Ent),j4_ jY3 105 3 v11 (dt.map goS) M/\St [] w0 wx (⟨g8,[.int .i64 rh,.int .i64 ru],38⟩::⟨g4,[.int .i64 0,.int .i64 0],38⟩::⟨g3,[.int .i64 seq,.slice am mt.length cm,.slice ad dt.length cd,.slice ar rev.length cr,.bool o0,.int .i64 x0,.bool o1,.int .i64 x1,.bool o2,.int .i64 x2],51⟩::⟨g2,[.int .i64 h0,.int .i64 u0],38⟩::(M++ [])) [kj2 j_9 (.slice pa (nb+1) pc) (places h0 (nb+1)),kj2 j42 (.slice la (nb+1) lc) LG,kj2 j_3 (.slice ad dt.length cd) dt])
 case first=>
  go_wp2
  go_loopw [11,46] (fun v11 i wr=>∃(k:Nat) (M:List Ent),k<=dt.length/\i=.int .i64 k/\j4_ jY3 105 3 v11 ((dt.take k).map goS) M/\St [] w0 wr (⟨g8,[.int .i64 rh,.int .i64 ru],38⟩::⟨g4,[.int .i64 0,.int .i64 0],38⟩::⟨g3,[.int .i64 seq,.slice am mt.length cm,.slice ad dt.length cd,.slice ar rev.length cr,.bool o0,.int .i64 x0,.bool o1,.int .i64 x1,.bool o2,.int .i64 x2],51⟩::⟨g2,[.int .i64 h0,.int .i64 u0],38⟩::(M++ [])) [kj2 j_9 (.slice pa (nb+1) pc) (places h0 (nb+1)),kj2 j42 (.slice la (nb+1) lc) LG,kj2 j_3 (.slice ad dt.length cd) dt]) (fun _ i _=>dt.length-(intOf i).toNat)
  case atStart=>exact⟨0,[],iq _,rfl,j4_.nil _ _ _,X⟩
  case round=>
   clear X;obtain⟨k,M,hk,rfl,hO2,X⟩:=hrel;by_cases hlt:k<dt.length
   ·obtain⟨bz,oz,rfl,c0,c1⟩:=kj3 (fun x=>.int .i64 x.block) (fun x=>.string x.text) (fun _=>rfl) (hd.out.below X.below) hlt;obtain⟨y0,y1⟩:=iF (j58 hg.out.dt hlt).1;have hmk:=hmt.out k hlt;have hlk:((dt.take k).map goS).length<=12:=aQ;(try dsimp only at c0 c1 y0 y1 hmk);generalize dt[k]=x at*;obtain⟨xb,xt⟩:=x;(try dsimp only at*);generalize (dt.take k).map goS=ls at*;obtain⟨ao,co,rfl⟩:=hO2.form;have hwr:IntKind.i64.wrap (25+xb)=25+xb:=iz _ aa;have hgo: [goS ⟨xb,xt⟩].flatMap jY3=[.int .i64 1,.int .i64 (25+xb),.string xt]:=rfl;have h40:ls.length+1<=1099511627776:=aa;replace hmk:=hid hmk
    go_wp2_with (first|(refine ZeL ?_)| (refine ZeS ?_;clear X;intro w X)| (refine ZeA ?_;clear X;intro g w X)|(refine j73 rfl ?_;(refine j79 rfl rfl Zev ay ay X ?_;intro g w2 X2;replace X:=X2;clear X2;(simp only[Act.put,zA,zB,zC,zD,zE,zF,zG,Nat.reduceAdd])))|(at_builtin;((refine jN0 (M:=M) (T:=[]) (n:=1) [_,_,_,_,_] rfl rfl [goS ⟨xb,xt⟩] j99 X hO2 Zev Zev hgo rfl h40 ?_);intro a2 c2 w2 M2 hO3 X2;replace X:=X2;clear X2;(simp only[Act.put,zA,zB,zC,zD,zE,zF,zG,Nat.reduceAdd]))))
    go_roundw
    case rel=>exact⟨k+1,M2,aa,an,by rw[hmk.out];exact hO3,X.tail⟩
    case measure=>simp only[intOf];omega
   ·obtain rfl:k=dt.length:=by omega
    rw[hfu.out] at hO2;go_wp2;go_meet;exact⟨M,hO2,X⟩
 case rest=>
  clear X;obtain⟨M,hO2,X⟩:=hcut;have hml:(dt.map goS).length=dt.length:=iZ _;have hds:=hg0.out;generalize dt.map goS=ls at*;replace hds:=hid hds
  go_upto_if 63 with (first| (refine ZcL ?_)| (refine ZcS ?_;clear X;intro w X)| (refine ZcA ?_;clear X;intro g w X))
  go_cut [11] (fun v11 wx=>∃(M:List Ent),j4_ jY3 105 3 v11 DS M/\St [] w0 wx (⟨g8,[.int .i64 rh,.int .i64 ru],38⟩::⟨g4,[.int .i64 0,.int .i64 0],38⟩::⟨g3,[.int .i64 seq,.slice am mt.length cm,.slice ad dt.length cd,.slice ar rev.length cr,.bool o0,.int .i64 x0,.bool o1,.int .i64 x1,.bool o2,.int .i64 x2],51⟩::⟨g2,[.int .i64 h0,.int .i64 u0],38⟩::(M++ [])) [kj2 j_9 (.slice pa (nb+1) pc) (places h0 (nb+1)),kj2 j42 (.slice la (nb+1) lc) LG,kj2 j_3 (.slice ad dt.length cd) dt])
  case first=>
   have hgo: [j_2].flatMap jY3=[.int .i64 2,.int .i64 0,.string ⟨#[]⟩]:=rfl;have h40:ls.length+1<=1099511627776:=aa;by_cases hz:0<dt.length
   ·rw[ij hz] at hds;have hzi:decide (0<dt.length)=true:=iG hz
    go_wp2_with (first|(refine ZcL ?_)| (refine ZcS ?_;clear X;intro w X)| (refine ZcA ?_;clear X;intro g w X)|(refine j73 rfl ?_;(refine j79 rfl rfl Zev ay ay X ?_;intro g w2 X2;replace X:=X2;clear X2;(simp only[Act.put,zA,zB,zC,zD,zE,zF,zG,Nat.reduceAdd])))|(at_builtin;((refine jN0 (M:=M) (T:=[]) (n:=1) [_,_,_,_] rfl rfl [j_2] j99 X hO2 Zev Zev hgo rfl h40 ?_);intro a2 c2 w2 M2 hO3 X2;replace X:=X2;clear X2;(simp only[Act.put,zA,zB,zC,zD,zE,zF,zG,Nat.reduceAdd]))))
    go_meet;exact⟨M2,by rw[<-hds.out];exact hO3,X⟩
   ·rw[ii hz,i6] at hds;have hzi:decide (0<dt.length)=false:=iH hz;go_wp2;go_meet;exact⟨M,by rw[<-hds.out];exact hO2,X⟩
  case rest=>
   clear X hO2;obtain⟨M,hO2,X⟩:=hcut;go_wp2
   go_loopw [11,70] (fun v11 i wr=>∃(k:Nat) (M:List Ent),k<=nb+1/\i=.int .i64 k/\j4_ jY3 105 3 v11 (DS++RS k) M/\St [] w0 wr (⟨g8,[.int .i64 rh,.int .i64 ru],38⟩::⟨g4,[.int .i64 0,.int .i64 0],38⟩::⟨g3,[.int .i64 seq,.slice am mt.length cm,.slice ad dt.length cd,.slice ar rev.length cr,.bool o0,.int .i64 x0,.bool o1,.int .i64 x1,.bool o2,.int .i64 x2],51⟩::⟨g2,[.int .i64 h0,.int .i64 u0],38⟩::(M++ [])) [kj2 j_9 (.slice pa (nb+1) pc) (places h0 (nb+1)),kj2 j42 (.slice la (nb+1) lc) LG,kj2 j_3 (.slice ad dt.length cd) dt]) (fun _ i _=>nb+1-(intOf i).toNat)
   case atStart=>exact⟨0,M,iq _,rfl,by rw[hz0.out,i6];exact hO2,X⟩
   case round=>
    clear X hO2;obtain⟨k,M,hk,rfl,hO2,X⟩:=hrel;by_cases hlt:k<nb+1
    ·have hlG:k<LG.length:=by rw[hln.out];exact hlt
     have hlP:k<(places h0 (nb+1)).length:=by rw[j87];exact hlt
     obtain⟨bp,op,rfl,p0⟩:=kl6 (fun x:Int=>.int .i64 x) (fun _=>rfl) X.r0 hlP;obtain⟨bl,ol,rfl,c0⟩:=kl6 (fun x:ByteArray=>.string x) (fun _=>rfl) X.r1 hlG
     have hpk:(places h0 (nb+1))[k]=(h0+(k:Int))%24:=by
      have:=jO2 h0 (nb+1) k hlt;rw[ix hlP,iO] at this;exact this
     rw[hpk] at p0;have hl:=hll.out k aa;have hdl2:=hdl.out;have hlR:(DS++RS k).length<=50:=by rw[il];omega
     have hm24:0<=(h0+(k:Int))%24/\(h0+(k:Int))%24<24:=⟨jZ _ ae,jT _ ae⟩;have hwr:IntKind.i64.wrap (1+(h0+(k:Int))%24)=1+(h0+(k:Int))%24:=iz _ aa;have hmem:∀s,[atW ((h0+(k:Int))%24) s].flatMap jY3=[.int .i64 1,.int .i64 (1+(h0+(k:Int))%24),.string s]:=fun s=>rfl;by_cases hkn:k<nb
     ·have hsu:=hs0.out k hkn hlG;have hgo:=hmem LG[k];have e1:¬(k:Int)=(nb:Int):=aa;have e2:¬k=nb:=aa;have e3:((k:Int)==(nb:Int))=false:=ik.2 e1;generalize LG[k]=s at*;(try dsimp only at hsu);have hRk:DS++RS (k+1)=(DS++RS k)++ [atW ((h0+(k:Int))%24) s]:=by rw[hsu,iE]
      generalize DS++RS k=ls at*;generalize (h0+(k:Int))%24=pp at*;have h40:ls.length+1<=1099511627776:=aa;replace hRk:=hid hRk;replace hsu:=hid hsu;replace hpk:=hid hpk;replace hmem:=hid hmem
      go_wp2_with (first|(refine ZeL ?_)| (refine ZeS ?_;clear X;intro w X)| (refine ZeA ?_;clear X;intro g w X)|(refine j73 rfl ?_;(refine j79 rfl rfl Zev ay ay X ?_;intro g w2 X2;replace X:=X2;clear X2;(simp only[Act.put,zA,zB,zC,zD,zE,zF,zG,Nat.reduceAdd])))|(at_builtin;((refine jN0 (M:=M) (T:=[]) (n:=1) [_,_,_,_] rfl rfl [atW pp s] j99 X hO2 Zev Zev hgo rfl h40 ?_);intro a2 c2 w2 M2 hO3 X2;replace X:=X2;clear X2;(simp only[Act.put,zA,zB,zC,zD,zE,zF,zG,Nat.reduceAdd]))))
      exact gN
     ·obtain rfl:k=nb:=by omega
      have hmc:=hm0.out hlG;rw[hmc] at c0;have hgo:=hmem mc;have hfl: [j_2].flatMap jY3=[.int .i64 2,.int .i64 0,.string ⟨#[]⟩]:=rfl;have hee:=he0.out;(try dsimp only at hee);have hRk:DS++RS (k+1)=((DS++RS k)++(if k=0 then [] else [j_2]))++ [atW ((h0+(k:Int))%24) mc]:=by rw[hee];simp only[iE]
      generalize DS++RS k=ls at*;generalize (h0+(k:Int))%24=pp at*;have h40:ls.length+1<=1099511627776:=aa;have h41:(ls++ [j_2]).length+1<=1099511627776:=by rw[il,List.length_singleton];omega
      replace hee:=hid hee;replace hpk:=hid hpk;replace hmem:=hid hmem;replace hmc:=hid hmc;by_cases hz:k=0
      ·rw[ij hz,i6] at hRk;have hzi:decide (0<k)=false:=iH aa;replace hRk:=hid hRk;replace hz:=hid hz
       go_wp2_with (first|(refine ZeL ?_)| (refine ZeS ?_;clear X;intro w X)| (refine ZeA ?_;clear X;intro g w X)|(refine j73 rfl ?_;(refine j79 rfl rfl Zev ay ay X ?_;intro g w2 X2;replace X:=X2;clear X2;(simp only[Act.put,zA,zB,zC,zD,zE,zF,zG,Nat.reduceAdd])))|(at_builtin;((refine jN0 (M:=M) (T:=[]) (n:=1) [_,_,_,_] rfl rfl [atW pp mc] j99 X hO2 Zev Zev hgo rfl h40 ?_);intro a2 c2 w2 M2 hO3 X2;replace X:=X2;clear X2;(simp only[Act.put,zA,zB,zC,zD,zE,zF,zG,Nat.reduceAdd]))))
       exact gN
      ·rw[ii hz] at hRk;have hzi:decide (0<k)=true:=iG aa;replace hRk:=hid hRk;replace hz:=hid hz
       go_upto_region 20 with (first|(refine ZeL ?_)| (refine ZeS ?_;clear X;intro w X)| (refine ZeA ?_;clear X;intro g w X)|(refine j73 rfl ?_;(refine j79 rfl rfl Zev ay ay X ?_;intro g w2 X2;replace X:=X2;clear X2;(simp only[Act.put,zA,zB,zC,zD,zE,zF,zG,Nat.reduceAdd])))|(at_builtin;(refine jN0 (M:=M) (T:=[]) (n:=1) [_,_,_,_] rfl rfl [j_2] j99 X hO2 Zev Zev hfl rfl h40 ?_;intro a2 c2 w2 M2 hO3 X2;replace X:=X2;clear X2;(simp only[Act.put,zA,zB,zC,zD,zE,zF,zG,Nat.reduceAdd]))))
       clear p0 c0;obtain⟨bq,oq,hbq,p0⟩:=kl6 (fun x:Int=>.int .i64 x) (fun _=>rfl) X.r0 hlP;rw[hpk.out] at p0
       cases hbq
       go_wp2_with (first|(refine ZeL ?_)| (refine ZeS ?_;clear X;intro w X)| (refine ZeA ?_;clear X;intro g w X)|(refine j73 rfl ?_;(refine j79 rfl rfl Zev ay ay X ?_;intro g w2 X2;replace X:=X2;clear X2;(simp only[Act.put,zA,zB,zC,zD,zE,zF,zG,Nat.reduceAdd])))|(at_builtin;(refine jN0 (M:=M2) (T:=[]) (n:=1) [_,_,_,_] rfl rfl [atW pp mc] j99 X hO3 Zev Zev hgo rfl h41 ?_;intro a4 c4 w4 M4 hO4 X2;replace X:=X2;clear X2;(simp only[Act.put,zA,zB,zC,zD,zE,zF,zG,Nat.reduceAdd]))))
       go_roundw
       case rel=>exact⟨k+1,M4,aa,an,by rw[hRk.out];exact hO4,X⟩
       case measure=>simp only[intOf];omega
    ·obtain rfl:k=nb+1:=by omega
     have hl:=hll.out (nb+1) (iy _);have hdl2:=hdl.out;have hfl: [j_2].flatMap jY3=[.int .i64 2,.int .i64 0,.string ⟨#[]⟩]:=rfl;have hcc:(DS++RS (nb+1))++ [j_2]=CL:=by rw[hc0.out];simp only[iE]
     have hlR:(DS++RS (nb+1)).length<=50:=by rw[il];omega
     generalize DS++RS (nb+1)=ls at*;have h40:ls.length+1<=1099511627776:=aa;replace hcc:=hid hcc;go_wp2;obtain⟨ao,co,rfl⟩:=hO2.form;(refine j__ 1 [] [3,4,5] [0] [0,1,2,3,4,5,6,7] X ?_;clear X;intro hQ X hL;simp only[zF,zG] at hL;simp only[zF,zG]);refine Zl ?_;refine Zm ?_;refine Zg ?_;(refine jY7 rfl rfl Zev ay ay X hL rfl rfl ?_;intro g w X2 hL2;replace X:=X2;replace hL:=hL2;clear X2 hL2;(simp only[Act.put,zA,zB,zC,zD,zE,zF,zG,Nat.reduceAdd]));(refine kZ6 (M:=M) (T:=[]) (n:=1) [_,_,_,_] rfl rfl [j_2] j99 X hO2 Zev Zev hfl rfl h40 hL Zsn rfl rfl ?_;intro a2 c2 w2 M2 hO3 X2 hL2;replace X:=X2;replace hL:=hL2;clear X2 hL2;(simp only[Act.put,zA,zB,zC,zD,zE,zF,zG,Nat.reduceAdd]));((first| (refine jN8 rfl rfl Zev Zev X rfl rfl rfl rfl hL Zpa Zsn ?_)| (refine kU2 rfl rfl Zev rfl X rfl rfl rfl rfl hL Zpa Zsn ?_));intro w X2 hL2;(try simp only[upd] at X2);(try simp only[upd] at hL2);replace X:=X2;clear X2;replace hL:=hL2;clear hL2;(simp only[Act.put,zA,zB,zC,zD,zE,zF,zG,Nat.reduceAdd]));refine Za ?_;refine Za ?_;refine j90 ?_;go_wp2;exact jM0 rfl (.tmp rfl rfl) (.tmp rfl rfl) (.tmp rfl rfl) X (.tail _ (.head _)) rfl rfl ⟨_,rfl,by rw[<-hcc.out];exact hO3.own (L:=[_,_,_,_]) j99 X,X.below⟩
theorem jw4(r : Ring)(t : Txn)(v : Value)(w0 : World)(ht : j17 w0 v t) :Calls Tryz.prog 60 #[r.val,v] w0 fun e w'=>∃v',e=.returned (.tuple #[(comR r t).val,v',.int .i64 (comE r t)])/\Wb.Own jY3 w0.heap.size 105 3 w' v' (comL r t)/\Below w0.heap.size w0 w':=by
 by_cases hb:goodR r=false\/goodT t=false\/openB t=true
 ·obtain⟨e1,e2,e3⟩:=kU0 hb;rw[e1,e2,e3];exact(jL4 r t v w0 ht hb).mono fun e w' ⟨h1,h2⟩=>⟨_,h1,Own.nil _ _ _ _ _,h2⟩
 ·by_cases hn:takeE r (comN t)=0
  ·obtain⟨e1,e2⟩:=ja0 hb hn;rw[e1,e2];exact jJ6 r t v w0 ht hb hn
  ·obtain⟨e1,e2,e3,_,_⟩:=jC2 hb hn;rw[e1,e2,e3];exact(jN2 r t v w0 ht hb hn).mono fun e w' ⟨h1,h2⟩=>⟨_,h1,Own.nil _ _ _ _ _,h2⟩
end Go.Proofs.YtlecmdajpfkaeaaGreatDoor