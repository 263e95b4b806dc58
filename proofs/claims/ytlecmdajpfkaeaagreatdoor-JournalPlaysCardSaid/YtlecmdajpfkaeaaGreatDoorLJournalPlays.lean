/- From every input on 'wastebooklaw.JournalPlays' returns true and leaves its arguments as they were. Conditions: none but the form's own. -/
import Derived.Test.YtlecmdajpfkaeaaGreatDoorKJournalRuns33
set_option linter.unusedVariables false
set_option linter.unusedSimpArgs false
set_option maxRecDepth 100000
set_option maxHeartbeats 40000000
namespace Go.Proofs.YtlecmdajpfkaeaaGreatDoor.journalPlays
open Go.ChangeShapes Go.WideShapes Go.ChangeAt Go.RowKit Wb
theorem jo4(H : Type)(enc : TypeId × Value → H)(W : World)(base : Nat)(args : Array Value)(ds gs : List (DataW H))(before : List MemPlace)(hval0:∀(j:Nat) t v,Tryz.f4.params[j]? =some t→args[j]? =some v→Value.okWide Tryz.prog W .any base t v)(hW:DataW.Whole enc Tryz.prog Tryz.f4.params.toList Rows.journalPlaysSpec.vars false W args.toList ds gs before)(hz:(DataW.weightsEach Tryz.prog (Tryz.f4.params.toList++(OpenSpec.ofChange Rows.journalPlaysSpec).bare.plain.varTypes Tryz.prog) (ds++gs)).all (· ≤reachBytes)=true) (hL:laidMetH Tryz.prog Rows.journalPlaysRow.laid W):Calls Tryz.prog 4 args W fun e W'=>∃v,e=.returned v∧Rows.journalPlaysSpec.post enc Tryz.prog Tryz.f4 false true false false W args v W':=by
  have hW':=hW;obtain⟨p,q,hA0,hV,rfl,hfz,hnd⟩:=hW;have hA:DataW.TrodAll enc Tryz.prog W 0 (fun _=>true) true Tryz.f4.params.toList args.toList ds p:=hA0;have hval:=hval0;rw[Tryz.params4] at hA hval hz;obtain⟨v0,vs0,d0,ds0,p0,q0,hargs,rfl,rfl,h0,r0⟩:=trodAll_cons hA;obtain⟨rfl,rfl,rfl⟩:=trodAll_nil r0;obtain rfl:args= #[v0]:=by cases args;simp_all
  obtain⟨rfl,rfl⟩:=trodVars_none hV;clear hA0 hval0;obtain⟨al,cl,l,rfl,hl,hok,hzl⟩:=jq9 (hval 0 22 v0 rfl rfl) h0 hz rfl rfl;refine(jD0 (jK k22) (rK jL3 jc2) l hok hzl W hl (jr9 hL)).mono fun e W' ⟨he,hb⟩=>?_;subst he;exact⟨_,rfl,jf3 af rfl rfl (by rw[Tryz.params4];intro t ht;simp at ht;subst ht;exact⟨af,iF af⟩) hW' hb⟩
theorem jn8(os : Os) : laidMet Tryz.prog Rows.journalPlaysRow.laid ((jU5 os).forCall (fun _ _ => 0) ⟨#[], #[.slice none 0 0], []⟩).memory :=
  laidMet_of_run' 8 af af
theorem reads(os : Os){H : Type}(enc : TypeId × Value → H) : ∃ places, DataW.whole enc Tryz.prog ((jU5 os).forCall (fun _ _ => 0) ⟨#[], #[.slice none 0 0], []⟩).memory Tryz.f4.params.toList Rows.journalPlaysSpec.vars false #[Value.slice none 0 0].toList 8 = some ([.nil], [], places) :=
  ⟨[],af⟩
theorem kR2(os : Os)(started : os.Started)(H : Type)(enc : TypeId × Value → H)(F : Stop.Interp) :ReturnsInHanded {} Tryz.checked os 4 .any ((OpenSpec.ofChange Rows.journalPlaysSpec).preRow enc Tryz.prog Tryz.f4 Rows.journalPlaysRow.domain false Rows.journalPlaysRow.laid) (((OpenSpec.ofChange Rows.journalPlaysSpec).at F).post enc Tryz.prog Tryz.f4 false true false false):=by
  obtain⟨places,hx⟩:=reads os enc
  refine returnsInHanded_of_row (C := Tryz.checked) (s := OpenSpec.ofChange Rows.journalPlaysSpec) own started (by kernel_rfl) Tryz.func4
    (witness_row_at (enc := enc) (C := Tryz.checked) false (jU5 os) #[.slice none 0 0] rfl (by kernel_rfl) (by kernel_rfl) (by kernel_rfl)
      (OpenSpec.preRow_of_cond 8 hx af (fun k hk=>by cases hk) af (jn8 os))) ?_
  intro W base args ds gs before hval hW _ _ hz hL _ _;exact jo4 H enc W base args ds gs before hval hW hz hL
theorem kn4 : Rows.JournalPlaysSaid :=
  OpenClaim.holds_of_cond 4 Tryz.f4 rfl rfl rfl rfl rfl rfl rfl ⟨rfl, rfl, rfl, rfl, rfl⟩ rfl rfl rfl rfl rfl (by kernel_rfl) Tryz.func4 (by kernel_rfl)
    (iF af) (by unfold Func.isWrapper;first| (rw[ij (by decide+kernel)];kernel_rfl)| (rw[ii (by decide+kernel)];exact⟨rfl,rfl⟩))
    (fun os started H enc _ F=>dj)
theorem plain(f : FuncId)(fn : Func)(hf : Tryz.pinned.checked.prog.funcNamed "wastebook/wastebooklaw.JournalPlays" = some f)(hfn : Tryz.pinned.checked.prog.funcs[f]? = some fn) :false=Tryz.pinned.checked.prog.looks []∧ ∀(j:Nat) t,fn.params[j]? =some t→Tryz.pinned.checked.prog.wantsStandIn t=false:=by
  obtain rfl:f=4:=kF ((show Tryz.prog.funcNamed "wastebook/wastebooklaw.JournalPlays" =some 4 from af).symm.trans hf)|>.symm;obtain rfl:fn=Tryz.f4:=(kF (Tryz.func4.symm.trans hfn)).symm;refine⟨af,fun j t ht=>?_⟩;rw[Tryz.params4] at ht;have hm:=Array.mem_of_getElem? ht;simp at hm;subst hm;exact(show Tryz.prog.wantsStandIn 22=false from af)
theorem holds : Rows.JournalPlaysCardSaid :=
  Claim7.holds_tied_plain_at .later [] _ _ _ _ kn4 (fun _ h=>dZ) af (fun _ h=>dZ) journalPlays_row_tie rfl ⟨rfl,rfl⟩ af rfl plain af
end Go.Proofs.YtlecmdajpfkaeaaGreatDoor.journalPlays
namespace Go.Proofs.YtlecmdajpfkaeaaGreatDoor
theorem journalPlays_holds:Rows.JournalPlaysCardSaid:=journalPlays.holds
end Go.Proofs.YtlecmdajpfkaeaaGreatDoor
#print axioms Go.Proofs.YtlecmdajpfkaeaaGreatDoor.journalPlays_holds
