/- Parts of the proof. -/
import Derived.WalkSpells
import Derived.WalkLawsBesides
import Derived.Deep.Slices
import Derived.Deep.AppendSrc
import Derived.BigQuiet
import Derived.ProofKit
import Derived.OpenShut
import Derived.Deep.DeepHandedRow
import Derived.LaidLaws
import Derived.Deep.RegionLaw
set_option linter.unusedVariables false
namespace Wb
open Go Go.RowKit
variable{A:Prop}
abbrev ii:=@if_neg
abbrev ij:=@if_pos
abbrev ik:=@beq_eq_false_iff_ne
abbrev il:=@List.length_append
abbrev ip:=@List.mem_append_right
abbrev iq:=@Nat.zero_le
abbrev ir:=@Nat.lt_of_lt_of_le
abbrev it:=@List.take_succ_eq_append_getElem
theorem iu{α}{a:α}{l m:List α}:(a::l)++m=a::(l++m):=rfl
abbrev iv:=@List.mem_append_left
theorem iw{α}(l:List α):[]++l=l:=rfl
abbrev ix:=@List.getElem?_eq_getElem
abbrev iy:=@Nat.le_refl
abbrev iz:=@IntWalk.i64_in
abbrev iA:=@List.length_take
theorem iB{α}{a:α}{l:List α}:(a::l).length=l.length+1:=rfl
theorem iC{α}:([]:List α).length=0:=rfl
abbrev iD:=@Bool.and_eq_true
abbrev iE:=@List.append_assoc
abbrev iF:=@of_decide_eq_true
abbrev iG:=@decide_eq_true
abbrev iH:=@decide_eq_false
abbrev iI:=@List.mem_singleton
abbrev iJ:=@World.size_setCell
abbrev iK:=@List.mem_append
abbrev iL:=@bodyPost_ret
abbrev iM:=@List.getElem_mem
abbrev iN:=@World.size_alloc
abbrev iO:=@Option.some.injEq
abbrev iP:=@List.perm_append_comm
abbrev iQ:=@List.sublist_cons_self
abbrev iR:=@List.getD_eq_getElem?_getD
abbrev iS:=@List.mem_cons
abbrev iT:=@beq_iff_eq
abbrev iU:=@Nat.le_of_ble_eq_true
abbrev iV:=@List.take_of_length_le
abbrev iW:=@Bool.not_eq_true
abbrev iX:=@List.length_drop
abbrev iY:=@List.take_length
abbrev iZ:=@List.length_map
abbrev i0:=@World.block_lt_of_cell?
abbrev i3:=@Nat.le_trans
abbrev i4:=@List.getElem?_eq_some_iff
abbrev i5:=@List.length_eq_zero_iff
abbrev i6:=@List.append_nil
abbrev i8:=@List.getElem?_append_left
abbrev i9:=@Value.slice.injEq
abbrev i_:=@List.mem_iff_getElem
abbrev i':=@Nat.mul_le_mul_right
abbrev ja:=@List.all_eq_true
abbrev jb:=@List.getElem?_append_right
abbrev jc:=@List.mem_of_mem_take
abbrev jd:=@bne_iff_ne
abbrev jf:=@Nat.min_eq_left
abbrev jg:=@List.mem_map
abbrev jh:=@List.cons.injEq
abbrev ji:=@List.take_append_drop
abbrev jj:=@List.flatMap_cons
abbrev jk:=@List.size_toArray
abbrev jl:=@Nat.not_lt_zero
abbrev jm:=@Nat.zero_add
abbrev jo:=@Value.agg.injEq
abbrev jp:=@List.not_mem_nil
abbrev jq:=@Array.getElem?_eq_some_iff
abbrev jr:=@List.map_cons
abbrev js:=@not_not_intro
abbrev jt:=@Array.mk.injEq
abbrev ju:=@Nat.succ_mul
abbrev jv:=@List.getElem?_toArray
abbrev jw:=@Nat.add_sub_cancel_left
abbrev jx:=@List.drop_eq_getElem_cons
abbrev jy:=@and_true
abbrev jz:=@List.flatMap_append
abbrev jA:=@Nat.mul_one
abbrev jB:=@List.getElem?_take
abbrev jC:=@List.map_append
abbrev jD:=@List.sublist_append_right
abbrev jE:=@World.ownsRow.lt
abbrev jF:=@true_and
abbrev jG:=@BigFrame.wpList_want
abbrev jH:=@List.mem_cons_of_mem
abbrev jI:=@List.mem_of_mem_drop
abbrev jJ:=@Addr.mk.injEq
abbrev jL:=@Decidable.byContradiction
abbrev jM:=@World.cell?_of_block
abbrev jN:=@List.map_nil
abbrev jO:=@List.nil_sublist
abbrev jP:=@List.mem_map_of_mem
abbrev jQ:=@List.getElem?_map
abbrev jR:=@run_underlying
abbrev jS:=@Array.replicate_succ
abbrev jT:=@Int.emod_lt_of_pos
abbrev jU:=@List.take_append_of_le_length
abbrev jV:=@List.append_toArray
abbrev jW:=@Below.refl
abbrev jX:=@List.push_toArray
abbrev jY:=@decide_eq_true_eq
abbrev jZ:=@Int.emod_nonneg
abbrev j_:=@List.eq_nil_of_length_eq_zero
abbrev ka:=@List.sublist_append_left
abbrev ke:=@Bool.or_eq_false_iff
abbrev kg:=@List.drop_drop
abbrev kh:=@Bool.not_eq_true'
abbrev ki:=@Decidable.not_not
abbrev kj:=@List.foldl_append
abbrev kn:=@List.mem_filter
abbrev ko:=@List.perm_append_comm_assoc
abbrev kp:=@Nat.add_mul
abbrev kq:=@Nat.zero_mul
abbrev ks:=@Prod.mk.injEq
abbrev ku:=@List.ext_getElem
abbrev kv:=@List.getElem_map
abbrev ky:=@List.map_toArray
abbrev kA:=@Lib.run_eql_slice_nil
abbrev kB:=@List.length_replicate
abbrev kC:=@Nat.eq_zero_or_pos
abbrev kD:=@Bool.or_eq_true
abbrev kE:=@List.range_succ
abbrev kF:=@Option.some.inj
abbrev kG:=@List.any_eq_true
abbrev kH:=@List.mem_flatMap
abbrev kI:=@List.take_left
abbrev kJ:=@List.drop_of_length_le
abbrev kK:=@Addr.add_lit
abbrev kL:=@List.filter_append
abbrev kM:=@grownCap_le_maxLen
abbrev kN:=@List.getElem?_eq_none
abbrev kO:=@List.length_filter_le
abbrev kP:=@List.nodup_cons
abbrev kQ:=@List.Sublist.refl
abbrev kR:=@List.getElem_take
abbrev kS:=@List.pairwise_iff_getElem
abbrev kT:=@heap_alloc_new
abbrev kU:=@Below.heap_alloc
abbrev kV:=@List.flatMap_nil
abbrev kW:=@List.getD_cons_succ
abbrev kX:=@List.length_pos_iff
abbrev kY:=@List.getElem?_replicate
abbrev kZ:=@Nat.add_assoc
abbrev k_:=@Below.heap_setCell
abbrev lg:=@List.getElem_range
abbrev lh:=@List.pairwise_cons
abbrev lq:=@Nat.add_sub_cancel
abbrev lu:=@List.append_eq_nil_iff
abbrev lv:=@wpQuiet_nil
abbrev lx:=@Bool.not_eq_false
abbrev ly:=@List.nodup_append
abbrev lA:=@DataW.trod_int
abbrev lB:=@size_zeroCells
abbrev lC:=@List.drop_length
abbrev lD:=@List.getElem_set
abbrev lE:=@List.pairwise_append
abbrev lF:=@Region.noSelect_spec
abbrev lG:=@Array.toList_setIfInBounds
abbrev lH:=@Bool.false_or
abbrev lI:=@Nat.lt_irrefl
abbrev lJ:=@grownCap_ge
abbrev lK:=@Int.toNat_of_nonneg
abbrev lL:=@List.filter_eq_self
abbrev lM:=@List.getElem_of_mem
abbrev lN:=@List.length_zipWith
abbrev lO:=@Array.getElem?_eq_getElem
abbrev lP:=@Bool.eq_iff_iff
abbrev lQ:=@World.cell?_setCell_other
abbrev lR:=@List.Sublist.append_left
abbrev lU:=@List.getElem?_drop
abbrev lV:=@List.getElem?_take_of_lt
abbrev lW:=@List.length_filterMap_le
abbrev lX:=@List.mem_cons_self
abbrev lY:=@Nat.lt_succ_iff_lt_or_eq
abbrev lZ:=@List.drop_zero
abbrev l9:=@List.take_take
abbrev l_:=@Nat.mod_lt
abbrev mb:=@List.any_eq_false
abbrev mf:=@List.ext_getElem?
abbrev mg:=@List.take_sublist
abbrev mh:=@Option.map_eq_some_iff
abbrev mi:=@List.take_append
abbrev mj:=@Nat.zero_lt_succ
abbrev mn:=@Region.free_spec
abbrev mo:=@List.mem_iff_getElem?
abbrev mr:=@List.set_append_right
abbrev mu:=@Obj.cells.injEq
theorem aa(h:A:=by omega):A:=h
theorem ae(h:A:=by decide):A:=h
theorem af(h:A:=by kernel_rfl):A:=h
theorem ag(h:A:=by simp):A:=h
theorem ah(h:A:=by simp;omega):A:=h
theorem aj(h:A:=by exact Zlo):A:=h
theorem ak(h:A:=by first|exact ReadA.here hro|exact ReadA.there (ReadA.here hro)|exact ReadA.there (ReadA.there (ReadA.here hro))):A:=h
theorem an(h:A:=by go_num):A:=h
theorem aq(h:A:=by simp[results,Tryz.results103,go_sem,r0,r1,r2,r3,r4]):A:=h
theorem au(h:A:=by rw[<-hTO.out,<-hrole.out];unfold jZ6;rw[ii aa,ii aa,ii aa]):A:=h
theorem av(h:A:=by with_reducible(first|exact Blk.step kr hb9|exact Blk.step (Blk.alloc kr _) hb9)):A:=h
theorem ax(h:A:=by rw[hq0.out]<;>rfl):A:=h
theorem ay(h:A:=by rfl):A:=h
theorem az(h:A:=by rw[hk];rfl):A:=h
theorem aA(h:A:=by with_reducible(first|exact bgo nx hb9|exact bgo (bal (b0 w) _) hb9)):A:=h
theorem aB(h:A:=by first|exact ReadA.here hf0|exact ReadA.there (ReadA.here hf0)|exact ReadA.there (ReadA.there (ReadA.here hf0))):A:=h
theorem aC(h:A:=by simp[j68]):A:=h
theorem aD(h:A:=by simp[results,Tryz.results54,go_sem,r0,r1,r2,r3,r4]):A:=h
theorem aE(h:A:=by unfold maxLen;omega):A:=h
theorem aF(h:A:=by show wo.heap.size+1<=(wr.alloc (.cells #[.int .i64 0,.slice none 0 0,.slice none 0 0,.slice none 0 0,.bool false,.int .i64 0,.bool false,.int .i64 0,.bool false,.int .i64 0] 51)).heap.size;simp;omega):A:=h
theorem aG(h:A:=by rw[<-hE.out];unfold jN7;rw[ii aa,ii aa,ii aa,ii aa,ij hk,hrole.out]):A:=h
theorem aH(h:A:=by simp[results,Tryz.results104,go_sem,z0,z1,z2,z3,z4,z5,z6,z7,z8,z9,lt42]):A:=h
theorem aJ(h:A:=by simp[results,Tryz.results55,go_sem,z0,z1,z2,z3,z4,z5,z6,z7,z8,z9,lt42]):A:=h
theorem aK(h:A:=by obtain⟨_,_,h1,_⟩:=(X.rd _ (.tail _ (.tail _ (.head _)))).1;simp only[kj2,i9] at h1;exact h1.2.1):A:=h
theorem aL(h:A:=by rw[<-hE.out];unfold jN7;rw[ii aa,ii aa,ii aa,ij hk,hft.out,hrole.out]):A:=h
theorem aM(h:A:=by rw[dM.out];exact hP.out _):A:=h
theorem aN(h:A:=by obtain⟨_,_,h1,_⟩:=(X.rd _ (.tail _ (.head _))).1;simp only[kj2,i9] at h1;exact h1.2.1):A:=h
theorem aO(h:A:=by rw[<-hTT.out];unfold jK0;rw[ii aa,ii aa,ii aa,ii aa]):A:=h
theorem aP(h:A:=by rw[<-hTT.out];unfold jK0;rw[ii aa,ii aa,ii aa,ij hk,hft.out]):A:=h
theorem aQ(h:A:=by rw[iZ,iA];omega):A:=h
theorem aR(h:A:=by rw[hfx,show Nat.min 1 (l.length+1-i)=1 from jf aa]):A:=h
theorem aU(h:A:=by rw[<-hE.out];unfold jN7;rw[ii aa,ii aa,ij hk,hft.out,hrole.out]):A:=h
theorem aV(h:A:=by obtain⟨_,_,h1,_⟩:=(X.rd _ (.head _)).1;simp only[kj2,i9] at h1;exact h1.2.1):A:=h
theorem aW(h:A:=by simp;unfold maxLen;omega):A:=h
theorem aX(h:A:=by rw[iA];omega):A:=h
theorem aY(h:A:=by rw[<-hTT.out];unfold jK0;rw[ii aa,ii aa,ij hk,hft.out]):A:=h
theorem aZ(h:A:=by rw[hFF.out];exact⟨_,rfl,oz.mono bD⟩):A:=h
theorem a_(h:A:=by have:=hDb.out w' nx;rwa [hh2] at this):A:=h
theorem bb(h:A:=by rw[<-hTO.out];unfold jZ6;rw[ii aa,ii aa,ij hk]):A:=h
theorem bc(h:A:=by first|exact ReadA.here hr0|exact ReadA.there (ReadA.here hr0)|exact ReadA.there (ReadA.there (ReadA.here hr0))):A:=h
theorem be(h:A:=by rw[hj];exact⟨iq _,iq _,iq _⟩):A:=h
theorem bf(h:A:=by simp[results,Tryz.results20,go_sem,r0,r1,r2]):A:=h
theorem bg(h:A:=by simp only[blks,il,iZ,iA];omega):A:=h
theorem bh(h:A:=by simp[hx]):A:=h
theorem bi(h:A:=by obtain⟨_,_,h1,h2,_⟩:=(X.rd _ mst).1;simp only[kj2,i9,iB] at h1 h2;omega):A:=h
theorem bj(h:A:=by rw[hf];rfl):A:=h
theorem bn(h:A:=by unfold j36;rw[ii (by rw[hdt,hw];simp),ii (by rw[e1];decide),ii (by rw[e3];decide)]):A:=h
theorem bo(h:A:=by rw[show((p+mm:Nat):Int)=(p:Int)+mm from by omega];exact kz.out):A:=h
theorem bv(h:A:=by first|exact trivial|rfl):A:=h
theorem bw(h:A:=by first|exact trivial|exact hq.out|rfl):A:=h
theorem bA(h:A:=by rw[dE.out]):A:=h
theorem bB(h:A:=by simp[Act.eval,Act.put]):A:=h
theorem bC(h:A:=by rw[bne_eq_false_iff_eq];omega):A:=h
theorem bD(h:A:=by have:=nx.size;omega):A:=h
theorem bE(h:A:=by obtain⟨x,_,hx⟩:=kH.1 hu;exact hF.one x u hx):A:=h
theorem bF(h:A:=by rw[hkk.cell,lO (by rw[hsz];simp[Value.cells] at ht;omega)];rfl):A:=h
theorem bG(h:A:=by have hq:=X.txns hxf hxl (fun r hr=>iv _ hr);rw[hxs] at hq;exact hq):A:=h
theorem bH(h:A:=by rw[<-hTO.out];unfold jZ6;rw[ii aa,ij hk]):A:=h
theorem bI(h:A:=by rw[<-hTT.out];unfold jK0;rw[ii aa,ij hk]):A:=h
theorem bJ(h:A:=by rw[hof.2 h] at hoo;cases hoo):A:=h
theorem bK(h:A:=by simpa using hw):A:=h
theorem bL(h:A:=by rw[<-hE.out];unfold jN7;rw[ii aa,ij hk]):A:=h
theorem bM(h:A:=by rw[Hp.out j aa h2,Hq.out i aa h4];omega):A:=h
theorem bN(h:A:=by have:=hp.eval;simpa [Act.eval] using this):A:=h
theorem bO(h:A:=by obtain⟨_,_,h1,_,h3,_⟩:=(X.rd _ mst).1;simp only[kj2,i9] at h1;omega):A:=h
theorem bP(h:A:=by rw[it hlt]):A:=h
theorem bQ(h:A:=by rw[iZ];exact iy _):A:=h
theorem bR(h:A:=by simp[results,Tryz.results30,go_sem,hbc]):A:=h
theorem bS(h:A:=by simp[results,Tryz.results49,go_sem,hbc]):A:=h
theorem bT(h:A:=by have:=hMb.out w' nx;rwa [hh1] at this):A:=h
theorem bU(h:A:=by unfold putD;rw[he,ii ae]):A:=h
theorem bV(h:A:=by show 1<=maxLen;decide):A:=h
theorem bW(h:A:=by rw[hsp];rcases iK.1 hx with hx|hx<;>simp at hx⊢ <;>simp[hx]):A:=h
theorem bX(h:A:=by unfold blks;rw[it hlt,jC];rfl):A:=h
theorem bY(h:A:=by rw[<-jz,ji]):A:=h
theorem bZ(h:A:=by simp[results,Tryz.results70,go_sem,r0,r1,r2,lr]):A:=h
theorem b9(h:A:=by show w.shape? vb=_;unfold World.shape?;rw[show w.heap[vb]? =_ from hx]):A:=h
theorem b_(h:A:=by simpa using h1):A:=h
theorem cg(h:A:=by simpa using h3):A:=h
theorem ch(h:A:=by unfold j61;rw[hx];exact⟨hb'.1,hb'.2,fun h=>absurd h (lI 0)⟩):A:=h
theorem ci(h:A:=by rw[hdl];congr 1;show l.length-i=min (l.length+1-i) (l.length-i);omega):A:=h
theorem cj(h:A:=by show w.shape? g=_;unfold World.shape?;rw[show w.heap[g]? =_ from hkk]):A:=h
theorem ck(h:A:=by unfold j98;rw[ij hE1,hTT9.out,ii (fun h=>hnb h.1),ii hk4]):A:=h
theorem cp(h:A:=by have:=hg7.size;simp at this⊢;omega):A:=h
theorem cq(h:A:=by rw[hW1];exact(jW base w).drew.alloc (by simpa using hbase) _):A:=h
theorem cu(h:A:=by unfold jZ6;rw[ii aa,ii aa,ii aa]):A:=h
theorem cy(h:A:=by rw[eE];simp[hc]):A:=h
theorem cz(h:A:=by rw[hdl];congr 1;show l.length-i=min (l.length-i) (l.length-i);omega):A:=h
theorem cA(h:A:=by rw[h,hT.2.1];exact Zfl):A:=h
theorem cB(h:A:=by rw[h,hT.2.2];exact Zfl):A:=h
theorem cC(h:A:=by rw[hv.out.1,hv.out.2]<;>(try rfl)):A:=h
theorem cD(h:A:=by rw[hw,iZ,iC];omega):A:=h
theorem cF(h:A:=by assumption):A:=h
theorem cG(h:A:=by rw[iX];omega):A:=h
theorem cH(h:A:=by have he2:=he.symm;simpa [atW,wrS] using he2):A:=h
theorem cI(h:A:=by cases hx):A:=h
theorem cJ(h:A:=by have:=jW0 (hgd _ (iM hltt));rw[hte0] at this;omega):A:=h
theorem cK(h:A:=by rw[dM.out];exact hom.out _ p1 p2):A:=h
theorem cL(h:A:=by rw[show((lo:Int)+(hi:Int))/2+1=(((lo+hi)/2+1:Nat):Int) by omega]):A:=h
theorem cM(h:A:=by rw[<-hTT.out];unfold jK0;rw[ij hk];rfl):A:=h
theorem cN(h:A:=by rw[hp.out,hv.out];rfl):A:=h
theorem cO(h:A:=by dsimp only;rw[hT.2.1];exact Zfl):A:=h
theorem cP(h:A:=by dsimp only;rw[hT.2.2];exact Zfl):A:=h
theorem cQ(h:A:=by have:=hq.eval;simpa [Act.eval] using this):A:=h
theorem cR(h:A:=by rw[<-hE.out];unfold jN7;rw[ij hk];rfl):A:=h
theorem cU(h:A:=by rw[hp,Int.toNat_natCast,lC]):A:=h
theorem cV(h:A:=by have:=nx.size;simp;omega):A:=h
theorem cW(h:A:=by rw[h,hT.1];exact Zfl):A:=h
theorem cX(h:A:=by rw[h2.block k ah hne,kU w _ k hk]):A:=h
theorem cY(h:A:=by rw[hAA,hMM];exact hf):A:=h
theorem cZ(h:A:=by rw[show((lo:Int)+(hi:Int))/2=(((lo+hi)/2:Nat):Int) by omega]):A:=h
theorem c_(h:A:=by rw[hg];decide):A:=h
theorem da(h:A:=by unfold execOp;simp only[ho,hx.eval];rfl):A:=h
theorem db(h:A:=by dsimp only;rw[hT.1];exact Zfl):A:=h
theorem df(h:A:=by simpa using Own.nil _ _ _ _ _):A:=h
theorem dg(h:A:=by first|omega| (simp;done)| (simp;omega)):A:=h
theorem dh(h:A:=by rw[<-hTO.out];unfold jZ6;rw[ij hk]):A:=h
theorem di(h:A:=by rw[Blk.cell (kl0 hne _ _ _ hx.drew),<-hxc j u hj,hx.cell]):A:=h
theorem dj(h:A:=by rw[OpenClaim.pre_eq_preRow];exact kR2 os started H enc F):A:=h
theorem dm(h:A:=by rw[hse];exact⟨iq _,iq _,iq _⟩):A:=h
theorem dp(h:A:=by rw[hw,iC];omega):A:=h
theorem dq(h:A:=by have:=hbel7.size;omega):A:=h
theorem dr(h:A:=by have:=hblk h;omega):A:=h
theorem du(h:A:=by rw[Array.length_toList];rfl):A:=h
theorem dv(h:A:=by rw[hH.out];exact X):A:=h
theorem dw(h:A:=by simp only[jJ] at hh;omega):A:=h
theorem dx(h:A:=by unfold unescS;rw[ij ⟨rfl,h4⟩];exact jC4 magic s h4):A:=h
theorem dy(h:A:=by have:=hsz.out.sealed;omega):A:=h
theorem dz(h:A:=by rw[hj];exact iq _):A:=h
theorem dA(h:A:=by rw[hAA,hMM];omega):A:=h
theorem dB(h:A:=by rw[<-hm.out.dmap,iZ]):A:=h
theorem dC(h:A:=by simpa using hb):A:=h
theorem dD(h:A:=by simpa using hk):A:=h
theorem dF(h:A:=by rw[kK];exact hc j u hj):A:=h
theorem dG(h:A:=by rw[hAA];exact hb):A:=h
theorem dH(h:A:=by rw[w64];exact hw):A:=h
theorem dI(h:A:=by have:=hu.last;omega):A:=h
theorem dJ(h:A:=by have:=hsz.out.now;omega):A:=h
theorem dK(h:A:=by rw[hsp];simp):A:=h
theorem dL(h:A:=by simpa using hh):A:=h
theorem dN(h:A:=by simpa using hn):A:=h
theorem dO(h:A:=by cases h.1):A:=h
theorem dP(h:A:=by rw[jX7 hb hs];decide):A:=h
theorem dQ(h:A:=by unfold clamp24;omega):A:=h
theorem dR(h:A:=by have:=hcn.out;omega):A:=h
theorem dS(h:A:=by exact_mod_cast hkl):A:=h
theorem dU(h:A:=by have:=j59 hg;omega):A:=h
theorem dV(h:A:=by simpa using sz.out):A:=h
theorem dW(h:A:=by split<;>simp):A:=h
theorem dX(h:A:=by rw[h1];rfl):A:=h
theorem dY(h:A:=by simp[hm]):A:=h
theorem dZ(h:A:=by cases h):A:=h
end Wb
