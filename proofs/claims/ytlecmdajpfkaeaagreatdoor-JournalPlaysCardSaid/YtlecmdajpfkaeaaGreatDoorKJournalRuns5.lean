/- Parts of the proof. -/
import Derived.Test.YtlecmdajpfkaeaaGreatDoorKJournalRuns4
import Derived.Test.YtlecmdajpfkaeaaGreatDoorCards
import Derived.Test.YtlecmdajpfkaeaaGreatDoorTie
set_option linter.unusedVariables false
set_option linter.unusedSimpArgs false
set_option maxRecDepth 100000
set_option maxHeartbeats 40000000
namespace Wb
open Go Go.RowKit
inductive ReadA:List Ent->Nat->Nat->Value->Prop where
 |here {g:Nat} {cs:List Value} {t:TypeId} {L:List Ent} {i:Nat} {v:Value} (h:nth cs i=some v):ReadA (⟨g,cs,t⟩::L) g i v
 |there {e:Ent} {L:List Ent} {g i:Nat} {v:Value} (h:ReadA L g i v):ReadA (e::L) g i v
inductive ReadB:List Ent->Nat->Nat->Nat->List Value->Prop where
 |here {g:Nat} {cs:List Value} {t:TypeId} {L:List Ent} {i n:Nat} (h:i+n<=cs.length):ReadB (⟨g,cs,t⟩::L) g i n ((cs.drop i).take n)
 |there {e:Ent} {L:List Ent} {g i n:Nat} {vs:List Value} (h:ReadB L g i n vs):ReadB (e::L) g i n vs
inductive PutA:List Ent->Nat->Nat->List Value->List Ent->List Ent->Prop where
 |here {g:Nat} {cs:List Value} {t:TypeId} {L:List Ent} {i:Nat} {vs:List Value} (h:i+vs.length<=cs.length):PutA (⟨g,cs,t⟩::L) g i vs (⟨g,upd i vs cs,t⟩::L) L
 |there {e:Ent} {L:List Ent} {g i:Nat} {vs:List Value} {L' B:List Ent} (h:PutA L g i vs L' B):PutA (e::L) g i vs (e::L') (e::B)
theorem ReadA.spec{L:List Ent}{g i:Nat}{v:Value}(h:ReadA L g i v):∃cs t,(⟨g,cs,t⟩:Ent)∈L/\nth cs i=some v:=by
 induction h with
 |here h=>exact⟨_,_,.head _,h⟩
 |there _ ih=>obtain⟨cs,t,h1,h2⟩:=ih;exact⟨cs,t,.tail _ h1,h2⟩
theorem ReadB.spec{L:List Ent}{g i n:Nat}{vs:List Value}(h:ReadB L g i n vs):∃cs t,(⟨g,cs,t⟩:Ent)∈L/\i+n<=cs.length/\vs=(cs.drop i).take n:=by
 induction h with
 |here h=>exact⟨_,_,.head _,h,rfl⟩
 |there _ ih=>obtain⟨cs,t,h1,h2⟩:=ih;exact⟨cs,t,.tail _ h1,h2⟩
theorem PutA.spec{L:List Ent}{g i:Nat}{vs:List Value}{L' D:List Ent}(h:PutA L g i vs L' D):∃A B cs t,L=A++⟨g,cs,t⟩::B/\L'=A++⟨g,upd i vs cs,t⟩::B/\D=A++B/\i+vs.length<=cs.length:=by
 induction h with
 |here h=>exact⟨[],_,_,_,rfl,rfl,rfl,h⟩
 |there _ ih=>obtain⟨A,B,cs,t,rfl,rfl,rfl,h⟩:=ih;exact⟨_::A,B,cs,t,rfl,rfl,rfl,h⟩
section
variable{P:Program}{ops:Array Oper}{rest:List Oper}{o:Oper}{a:Act}{Q:Exit->Act->World->Prop}{S:List Nat}{w0 w:World}{L:List Ent}{R:List Rd}
theorem jZ9(hw : Region.wanted o (yielded ops a.tmps) = true)(T : TypeId)(x : Operand)(ho : o.op = .load T x){g i : Nat}(hx : a.eval x = .pointer (some ⟨g, i, none⟩))[OneT P T](X : St S w0 w L R){v : Value}(he : ReadA L g i v)(h:wpList P ops Q rest (a.put o.dst v) w):wpList P ops Q (o::rest) a w:=by
 obtain⟨cs,t,h1,h2⟩:=he.spec;exact kx_ hw T x ho hx X h1 h2 h
theorem jB6(hw : Region.wanted o (yielded ops a.tmps) = true)(T : TypeId)(x : Operand)(ho : o.op = .load T x){g i : Nat}(hx : a.eval x = .pointer (some ⟨g, i, none⟩)){n : Nat}[hT : AggT P T n](X : St S w0 w L R){vs : List Value}(he : ReadB L g i n vs)(h:wpList P ops Q rest (a.put o.dst (.agg vs.toArray)) w):wpList P ops Q (o::rest) a w:=by
 obtain⟨cs,t,h1,h2,rfl⟩:=he.spec;exact kx0 hw T x ho hx X h1 h2 h
theorem j11(hw : Region.wanted o (yielded ops a.tmps) = true)(T : TypeId)(x y : Operand)(ho : o.op = .store T x y){g i : Nat}(hx : a.eval x = .pointer (some ⟨g, i, none⟩))[hT : OneT P T]{v:Value} (hy0:EvR a y v) (X:St S w0 w L R) (h1:v.oneCell'=true) (hc:v.cells= #[v]) {L' D:List Ent} (hp:PutA L g i [v] L' D)(h:∀w',St S w0 w' L' R->wpList P ops Q rest (a.put o.dst undef) w'):wpList P ops Q (o::rest) a w:=by
 obtain⟨A,B,cs,t,rfl,rfl,rfl,hi⟩:=hp.spec;exact kG_ A B hw T x y ho hx hy0 X hi h1 hc h
theorem jK2(hw : Region.wanted o (yielded ops a.tmps) = true)(T : TypeId)(x y : Operand)(ho : o.op = .store T x y){g i : Nat}(hx : a.eval x = .pointer (some ⟨g, i, none⟩)){n : Nat}[hT : AggT P T n]{vs:List Value} (hy:a.eval y=.agg vs.toArray) (X:St S w0 w L R) (hn:vs.length=n) (h1:vs.all (·.oneCell')=true) {L' D:List Ent} (hp:PutA L g i vs L' D)(h:∀w',St S w0 w' L' R->wpList P ops Q rest (a.put o.dst undef) w'):wpList P ops Q (o::rest) a w:=by
 obtain⟨A,B,cs,t,rfl,rfl,rfl,hi⟩:=hp.spec;exact kG0 A B hw T x y ho hx hy X hn hi h1 h
end
section
variable{P:Program}{ops:Array Oper}{Q:Exit->Act->World->Prop}{L0:List Ent}{R0:List Rd}{brk eff lds:List Nat}{i:Nat}{r:List Nat}{o:Oper}{a:Act}{S:List Nat}{w0 w:World}{L:List Ent}{R:List Rd}
theorem jR9{x : Operand}{T : TypeId}{g n : Nat}(hi : oAt ops i = some o)(ho : o.op = .load T x)(hx : EvR a x (.pointer (some ⟨g, n, none⟩)))[OneT P T]{v : Value}(hm : ReadA L0 g n v)(he:(!eff.contains i&&lds.contains i)=true) (hw:Region.wanted o (yielded ops a.tmps)=true) (X:St S w0 w L R) (hL:Under L0 R0 L R) (hQ:j72 Q)(h:SQ P ops Q L0 R0 brk eff lds r (a.put o.dst v) w):SQ P ops Q L0 R0 brk eff lds (i::r) a w:=by
 obtain⟨cs,t,h1,h2⟩:=hm.spec;exact kv2 hi ho hx h1 h2 he hw X hL hQ h
theorem kz4{x : Operand}{T : TypeId}{g n m : Nat}(hi : oAt ops i = some o)(ho : o.op = .load T x)(hx : EvR a x (.pointer (some ⟨g, n, none⟩)))[hT : AggT P T m]{vs : List Value}(hm : ReadB L0 g n m vs)(he:(!eff.contains i&&lds.contains i)=true) (hw:Region.wanted o (yielded ops a.tmps)=true) (X:St S w0 w L R) (hL:Under L0 R0 L R) (hQ:j72 Q)(h:SQ P ops Q L0 R0 brk eff lds r (a.put o.dst (.agg vs.toArray)) w):SQ P ops Q L0 R0 brk eff lds (i::r) a w:=by
 obtain⟨cs,t,h1,h2,rfl⟩:=hm.spec;exact kv3 hi ho hx h1 h2 he hw X hL hQ h
theorem kt7{x y : Operand}{T : TypeId}{g n : Nat}(hi : oAt ops i = some o)(ho : o.op = .store T x y)(hx : EvR a x (.pointer (some ⟨g, n, none⟩)))[OneT P T]{v : Value}(hy : EvR a y v)(X:St S w0 w L R) (h1:v.oneCell'=true) (hc:v.cells= #[v]) (he:eff.contains i=true) (hb:brk.contains i=true) (hw:Region.wanted o (yielded ops a.tmps)=true) {L' D:List Ent} (hp:PutA L g n [v] L' D)(h:∀w',St S w0 w' L' R->SQ P ops Q L0 R0 brk eff lds r (a.put o.dst undef) w'):SQ P ops Q L0 R0 brk eff lds (i::r) a w:=by
 obtain⟨A,B,cs,t,rfl,rfl,rfl,hn⟩:=hp.spec;exact k31 A B hi ho hx hy X hn h1 hc he hw fun w' X2=>⟨fun hb2 _=>(by rw[hb] at hb2;cases hb2),h w' X2⟩
theorem kt8{x y : Operand}{T : TypeId}{g n m : Nat}(hi : oAt ops i = some o)(ho : o.op = .store T x y)(hx : EvR a x (.pointer (some ⟨g, n, none⟩)))[hT : AggT P T m]{vs : List Value}(hy : a.eval y = .agg vs.toArray)(X:St S w0 w L R) (hm:vs.length=m) (h1:vs.all (·.oneCell')=true) (he:eff.contains i=true) (hb:brk.contains i=true) (hw:Region.wanted o (yielded ops a.tmps)=true) {L' D:List Ent} (hp:PutA L g n vs L' D)(h:∀w',St S w0 w' L' R->SQ P ops Q L0 R0 brk eff lds r (a.put o.dst undef) w'):SQ P ops Q L0 R0 brk eff lds (i::r) a w:=by
 obtain⟨A,B,cs,t,rfl,rfl,rfl,hn⟩:=hp.spec;exact k32 A B hi ho hx hy X hm hn h1 he hw fun w' X2=>⟨fun hb2 _=>(by rw[hb] at hb2;cases hb2),h w' X2⟩
theorem jN8{x y : Operand}{T : TypeId}{g n : Nat}(hi : oAt ops i = some o)(ho : o.op = .store T x y)(hx : EvR a x (.pointer (some ⟨g, n, none⟩)))[OneT P T]{v : Value}(hy : EvR a y v)(X:St S w0 w L R) (h1:v.oneCell'=true) (hc:v.cells= #[v]) (he:eff.contains i=true) (hw:Region.wanted o (yielded ops a.tmps)=true) (hL:Under L0 R0 L R) {L' D:List Ent} (hp:PutA L g n [v] L' D) (hA:L0.Sublist D)(h:∀w',St S w0 w' L' R->Under L0 R0 L' R->SQ P ops Q L0 R0 brk eff lds r (a.put o.dst undef) w'):SQ P ops Q L0 R0 brk eff lds (i::r) a w:=by
 obtain⟨A,B,cs,t,rfl,rfl,rfl,hn⟩:=hp.spec;exact kq1 A B hi ho hx hy X hn h1 hc he hw hL hA h
theorem kU2{x y : Operand}{T : TypeId}{g n m : Nat}(hi : oAt ops i = some o)(ho : o.op = .store T x y)(hx : EvR a x (.pointer (some ⟨g, n, none⟩)))[hT : AggT P T m]{vs : List Value}(hy : a.eval y = .agg vs.toArray)(X:St S w0 w L R) (hm:vs.length=m) (h1:vs.all (·.oneCell')=true) (he:eff.contains i=true) (hw:Region.wanted o (yielded ops a.tmps)=true) (hL:Under L0 R0 L R) {L' D:List Ent} (hp:PutA L g n vs L' D) (hA:L0.Sublist D)(h:∀w',St S w0 w' L' R->Under L0 R0 L' R->SQ P ops Q L0 R0 brk eff lds r (a.put o.dst undef) w'):SQ P ops Q L0 R0 brk eff lds (i::r) a w:=by
 obtain⟨A,B,cs,t,rfl,rfl,rfl,hn⟩:=hp.spec;exact kq2 A B hi ho hx hy X hm hn h1 he hw hL hA h
end
section
variable{P:Program}{ops:Array Oper}{rest:List Oper}{o:Oper}{a:Act}{Q:Exit->Act->World->Prop}{S:List Nat}{w0 w:World}{L:List Ent}{R:List Rd}
theorem kJ1{T : TypeId}{x : Operand}{g i : Nat}(X : St S w0 w L R){v : Value}(h : wpList P ops Q rest (a.put o.dst v) w)(hw : Region.wanted o (yielded ops a.tmps) = true := by rfl)(ho : o.op = .load T x := by rfl)(hT : OneT P T := by infer_instance)(hx : a.eval x = .pointer (some ⟨g, i, none⟩) := by rfl)(he : ReadA L g i v := by first | exact ReadA.here rfl | exact ReadA.there (ReadA.here rfl) | exact ReadA.there (ReadA.there (ReadA.here rfl)) | exact ReadA.there (ReadA.there (ReadA.there (ReadA.here rfl))) | exact ReadA.there (ReadA.there (ReadA.there (ReadA.there (ReadA.here rfl)))) | exact ReadA.there (ReadA.there (ReadA.there (ReadA.there (ReadA.there (ReadA.here rfl)))))) :wpList P ops Q (o::rest) a w:=jZ9 hw T x ho hx X he h
theorem kJ2{T : TypeId}{x : Operand}{g i n : Nat}(X : St S w0 w L R){vs : List Value}(h : wpList P ops Q rest (a.put o.dst (.agg vs.toArray)) w)(hw : Region.wanted o (yielded ops a.tmps) = true := by rfl)(ho : o.op = .load T x := by rfl)(hT : AggT P T n := by infer_instance)(hx : a.eval x = .pointer (some ⟨g, i, none⟩) := by rfl)(he : ReadB L g i n vs := by first | exact ReadB.here (iU rfl) | exact ReadB.there (ReadB.here (iU rfl)) | exact ReadB.there (ReadB.there (ReadB.here (iU rfl))) | exact ReadB.there (ReadB.there (ReadB.there (ReadB.here (iU rfl)))) | exact ReadB.there (ReadB.there (ReadB.there (ReadB.there (ReadB.here (iU rfl))))) | exact ReadB.there (ReadB.there (ReadB.there (ReadB.there (ReadB.there (ReadB.here (iU rfl))))))) :wpList P ops Q (o::rest) a w:=jB6 hw T x ho hx X he h
theorem kV1{T : TypeId}{x y : Operand}{g i : Nat}{v : Value}(X : St S w0 w L R){L' D : List Ent}(h : ∀ w', St S w0 w' L' R -> wpList P ops Q rest (a.put o.dst undef) w')(hw : Region.wanted o (yielded ops a.tmps) = true := by rfl)(ho : o.op = .store T x y := by rfl)(hT : OneT P T := by infer_instance)(hx : a.eval x = .pointer (some ⟨g, i, none⟩) := by rfl)(hy0 : EvR a y v := by first | exact EvR.const _ | exact EvR.tmp rfl rfl)(h1 : v.oneCell' = true := by rfl)(hc : v.cells = #[v] := by rfl)(hp : PutA L g i [v] L' D := by first | exact PutA.here (iU rfl) | exact PutA.there (PutA.here (iU rfl)) | exact PutA.there (PutA.there (PutA.here (iU rfl))) | exact PutA.there (PutA.there (PutA.there (PutA.here (iU rfl)))) | exact PutA.there (PutA.there (PutA.there (PutA.there (PutA.here (iU rfl))))) | exact PutA.there (PutA.there (PutA.there (PutA.there (PutA.there (PutA.here (iU rfl))))))) :wpList P ops Q (o::rest) a w:=j11 hw T x y ho hx hy0 X h1 hc hp h
theorem kV2{T : TypeId}{x y : Operand}{g i n : Nat}{vs : List Value}(X : St S w0 w L R){L' D : List Ent}(h : ∀ w', St S w0 w' L' R -> wpList P ops Q rest (a.put o.dst undef) w')(hw : Region.wanted o (yielded ops a.tmps) = true := by rfl)(ho : o.op = .store T x y := by rfl)(hT : AggT P T n := by infer_instance)(hx : a.eval x = .pointer (some ⟨g, i, none⟩) := by rfl)(hy : a.eval y = .agg vs.toArray := by rfl)(hn : vs.length = n := by rfl)(h1 : vs.all (·.oneCell') = true := by rfl)(hp : PutA L g i vs L' D := by first | exact PutA.here (iU rfl) | exact PutA.there (PutA.here (iU rfl)) | exact PutA.there (PutA.there (PutA.here (iU rfl))) | exact PutA.there (PutA.there (PutA.there (PutA.here (iU rfl)))) | exact PutA.there (PutA.there (PutA.there (PutA.there (PutA.here (iU rfl))))) | exact PutA.there (PutA.there (PutA.there (PutA.there (PutA.there (PutA.here (iU rfl))))))) :wpList P ops Q (o::rest) a w:=jK2 hw T x y ho hx hy X hn h1 hp h
end
section
variable{P:Program}{ops:Array Oper}{Q:Exit->Act->World->Prop}{L0:List Ent}{R0:List Rd}{brk eff lds:List Nat}{i:Nat}{r:List Nat}{o:Oper}{a:Act}{S:List Nat}{w0 w:World}{L:List Ent}{R:List Rd}
theorem kI_{x : Operand}{T : TypeId}{g n : Nat}{v : Value}(X : St S w0 w L R)(hL : Under L0 R0 L R)(hQ : j72 Q)(h : SQ P ops Q L0 R0 brk eff lds r (a.put o.dst v) w)(hi : oAt ops i = some o := by rfl)(ho : o.op = .load T x := by rfl)(hT : OneT P T := by infer_instance)(hx : EvR a x (.pointer (some ⟨g, n, none⟩)) := by first | exact EvR.const _ | exact EvR.tmp rfl rfl)(hm : ReadA L0 g n v := by repeat (first | exact ReadA.here rfl | apply ReadA.there))(he : (!eff.contains i && lds.contains i) = true := by rfl)(hw : Region.wanted o (yielded ops a.tmps) = true := by rfl) :SQ P ops Q L0 R0 brk eff lds (i::r) a w:=jR9 hi ho hx hm he hw X hL hQ h
theorem kI0{x : Operand}{T : TypeId}{g n m : Nat}{vs : List Value}(X : St S w0 w L R)(hL : Under L0 R0 L R)(hQ : j72 Q)(h : SQ P ops Q L0 R0 brk eff lds r (a.put o.dst (.agg vs.toArray)) w)(hi : oAt ops i = some o := by rfl)(ho : o.op = .load T x := by rfl)(hT : AggT P T m := by infer_instance)(hx : EvR a x (.pointer (some ⟨g, n, none⟩)) := by first | exact EvR.const _ | exact EvR.tmp rfl rfl)(hm : ReadB L0 g n m vs := by repeat (first | exact ReadB.here (iU rfl) | apply ReadB.there))(he : (!eff.contains i && lds.contains i) = true := by rfl)(hw : Region.wanted o (yielded ops a.tmps) = true := by rfl) :SQ P ops Q L0 R0 brk eff lds (i::r) a w:=kz4 hi ho hx hm he hw X hL hQ h
theorem kz2{x y : Operand}{T : TypeId}{g n : Nat}{v : Value}(X : St S w0 w L R){L' D : List Ent}(h : ∀ w', St S w0 w' L' R -> SQ P ops Q L0 R0 brk eff lds r (a.put o.dst undef) w')(hi : oAt ops i = some o := by rfl)(ho : o.op = .store T x y := by rfl)(hT : OneT P T := by infer_instance)(hx : EvR a x (.pointer (some ⟨g, n, none⟩)) := by first | exact EvR.const _ | exact EvR.tmp rfl rfl)(hy : EvR a y v := by first | exact EvR.const _ | exact EvR.tmp rfl rfl)(h1 : v.oneCell' = true := by rfl)(hc : v.cells = #[v] := by rfl)(he : eff.contains i = true := by rfl)(hb : brk.contains i = true := by rfl)(hw : Region.wanted o (yielded ops a.tmps) = true := by rfl)(hp : PutA L g n [v] L' D := by repeat (first | exact PutA.here (iU rfl) | apply PutA.there)) :SQ P ops Q L0 R0 brk eff lds (i::r) a w:=kt7 hi ho hx hy X h1 hc he hb hw hp h
theorem kz3{x y : Operand}{T : TypeId}{g n m : Nat}{vs : List Value}(X : St S w0 w L R){L' D : List Ent}(h : ∀ w', St S w0 w' L' R -> SQ P ops Q L0 R0 brk eff lds r (a.put o.dst undef) w')(hi : oAt ops i = some o := by rfl)(ho : o.op = .store T x y := by rfl)(hT : AggT P T m := by infer_instance)(hx : EvR a x (.pointer (some ⟨g, n, none⟩)) := by first | exact EvR.const _ | exact EvR.tmp rfl rfl)(hy : a.eval y = .agg vs.toArray := by rfl)(hm : vs.length = m := by rfl)(h1 : vs.all (·.oneCell') = true := by rfl)(he : eff.contains i = true := by rfl)(hb : brk.contains i = true := by rfl)(hw : Region.wanted o (yielded ops a.tmps) = true := by rfl)(hp : PutA L g n vs L' D := by repeat (first | exact PutA.here (iU rfl) | apply PutA.there)) :SQ P ops Q L0 R0 brk eff lds (i::r) a w:=kt8 hi ho hx hy X hm h1 he hb hw hp h
theorem kz5{x y : Operand}{T : TypeId}{g n : Nat}{v : Value}(X : St S w0 w L R)(hL : Under L0 R0 L R){L' D : List Ent}(h : ∀ w', St S w0 w' L' R -> Under L0 R0 L' R -> SQ P ops Q L0 R0 brk eff lds r (a.put o.dst undef) w')(hi : oAt ops i = some o := by rfl)(ho : o.op = .store T x y := by rfl)(hT : OneT P T := by infer_instance)(hx : EvR a x (.pointer (some ⟨g, n, none⟩)) := by first | exact EvR.const _ | exact EvR.tmp rfl rfl)(hy : EvR a y v := by first | exact EvR.const _ | exact EvR.tmp rfl rfl)(h1 : v.oneCell' = true := by rfl)(hc : v.cells = #[v] := by rfl)(he : eff.contains i = true := by rfl)(hw : Region.wanted o (yielded ops a.tmps) = true := by rfl)(hp : PutA L g n [v] L' D := by repeat (first | exact PutA.here (iU rfl) | apply PutA.there))(hA : L0.Sublist D := by repeat (first | exact List.Sublist.slnil | exact jO _ | refine List.Sublist.cons_cons _ ?_ | refine List.Sublist.cons _ ?_)) :SQ P ops Q L0 R0 brk eff lds (i::r) a w:=jN8 hi ho hx hy X h1 hc he hw hL hp hA h
theorem kz6{x y : Operand}{T : TypeId}{g n m : Nat}{vs : List Value}(X : St S w0 w L R)(hL : Under L0 R0 L R){L' D : List Ent}(h : ∀ w', St S w0 w' L' R -> Under L0 R0 L' R -> SQ P ops Q L0 R0 brk eff lds r (a.put o.dst undef) w')(hi : oAt ops i = some o := by rfl)(ho : o.op = .store T x y := by rfl)(hT : AggT P T m := by infer_instance)(hx : EvR a x (.pointer (some ⟨g, n, none⟩)) := by first | exact EvR.const _ | exact EvR.tmp rfl rfl)(hy : a.eval y = .agg vs.toArray := by rfl)(hm : vs.length = m := by rfl)(h1 : vs.all (·.oneCell') = true := by rfl)(he : eff.contains i = true := by rfl)(hw : Region.wanted o (yielded ops a.tmps) = true := by rfl)(hp : PutA L g n vs L' D := by repeat (first | exact PutA.here (iU rfl) | apply PutA.there))(hA : L0.Sublist D := by repeat (first | exact List.Sublist.slnil | exact jO _ | refine List.Sublist.cons_cons _ ?_ | refine List.Sublist.cons _ ?_)) :SQ P ops Q L0 R0 brk eff lds (i::r) a w:=kU2 hi ho hx hy X hm h1 he hw hL hp hA h
end
theorem Zra{A:Prop}(h:A:=by repeat(first|exact ReadA.here rfl|apply ReadA.there)):A:=h
theorem Zrb{A:Prop}(h:A:=by repeat(first|exact ReadB.here (iU rfl)|apply ReadB.there)):A:=h
theorem Zpa{A:Prop}(h:A:=by repeat(first|exact PutA.here (iU rfl)|apply PutA.there)):A:=h
theorem Zrc{A:Prop}(h:A:=by first|exact ReadA.here rfl|exact ReadA.there (ReadA.here rfl)):A:=h
theorem Zrd{A:Prop}(h:A:=by first|exact ReadB.here (iU rfl)|exact ReadB.there (ReadB.here (iU rfl))):A:=h
theorem Zpb{A:Prop}(h:A:=by first|exact PutA.here (iU rfl)|exact PutA.there (PutA.here (iU rfl))):A:=h
theorem Zsu{A:Prop}(h:A:=by repeat(first|exact List.Sublist.slnil|exact jO _|refine List.Sublist.cons_cons _ ?_ |refine List.Sublist.cons _ ?_)):A:=h
theorem Zsn{A:Prop}(h:A:=by repeat(first|exact jO _|refine List.Sublist.cons_cons _ ?_ |refine List.Sublist.cons _ ?_)):A:=h
theorem Zpv{A:Prop}(h:A:=by first|exact PutA.here (by(try simp only[iB,iC]);omega)|exact PutA.there (PutA.here (by(try simp only[iB,iC]);omega))|exact PutA.there (PutA.there (PutA.here (by(try simp only[iB,iC]);omega)))|exact PutA.there (PutA.there (PutA.there (PutA.here (by(try simp only[iB,iC]);omega))))):A:=h
section
variable{P:Program}{ops:Array Oper}{Q:Exit->Act->World->Prop}{L0:List Ent}{brk eff lds:List Nat}{i:Nat}{r:List Nat}{o:Oper}{a:Act}{S:List Nat}{w0 w:World}{L:List Ent}{R R0:List Rd}
theorem j__{id : Nat}(k : Nat)(brk eff lds perm : List Nat)(X : St S w0 w L R)(h:j72 Q->St S w0 w.drew L R->Under (L.take k) R L R->SQ P ops Q (L.take k) R brk eff lds perm a w.drew) (hm:P.follows .mixedOrders=true:=by kernel_rfl) (hs:(Region.noSelect ops&&(perm.length==ops.size&&k_7 .any ops brk eff lds (Array.replicate ops.size false) perm))=true:=by kernel_rfl) (hQ:j72 Q:=by exact fun _ _ _ _ _ h=>h):(Code.region id ops true).wp P Q a w:=kv8 k brk eff lds perm X hm hs hQ h
theorem jQ4{id : Nat}(k : Nat)(brk eff lds : List Nat)(t : Tr)(X : St S w0 w L R)(h:j72 Q->St S w0 w.drew L R->Under (L.take k) R L R->SQT P ops Q (L.take k) R brk eff lds t a w.drew) (hm:P.follows .mixedOrders=true:=by kernel_rfl) (hs:(Region.noSelect ops&&(t.len==ops.size&&ku4 .any ops brk eff lds false (Array.replicate ops.size false) t))=true:=by kernel_rfl) (hQ:j72 Q:=by exact fun _ _ _ _ _ h=>h):(Code.region id ops true).wp P Q a w:=kq4 k brk eff lds t X hm hs hQ h
theorem j_0(f : FuncId){xs : List Operand}{ts : Array TypeId}{args : Array Value}{fn : Func}{c : Code}(hf : P.funcs[f]? = some fn){F : Ending -> World -> Prop}(h : Calls P f args w F)(hK:∀e w',F e w'->∃v,e=.returned v/\(brk.contains i=false->Kept L0 R0 w->Kept L0 R0 w')/\SQ P ops Q L0 R0 brk eff lds r (a.put o.dst v) w')(hi:oAt ops i=some o:=by rfl) (ho:o.op=.call {callee:=.value (.func f),args:=xs.toArray,argTypes:=ts}:=by rfl) (ha:(xs.map a.eval).toArray=args:=by rfl) (hn:(fn.name== "runtime.NumGoroutine")=false:=by kernel_rfl) (hb:fn.body=some c:=by rfl) (he:eff.contains i=true:=by rfl) (hw:Region.wanted o (yielded ops a.tmps)=true:=by rfl):SQ P ops Q L0 R0 brk eff lds (i::r) a w:=
 kr9 f xs ts hi ho args ha ⟨fn,c,hf,hn,hb⟩ he hw h hK
end
theorem Zm{A B:Prop}(k:B)(h:B->A:=by intro k;(refine kv4 hQ ?_;(simp only[Act.put,zA,zB,zC,zD,zE,zF,zG,Nat.reduceAdd]));exact k):A:=h k
theorem Za{A B:Prop}(k:B)(h:B->A:=by intro k;(refine kO0 hQ ?_;(simp only[Act.put,zA,zB,zC,zD,zE,zF,zG,Nat.reduceAdd]));exact k):A:=h k
theorem Zn{A B:Prop}(k:B)(h:B->A:=by intro k;(refine kq0 hQ ?_;(simp only[Act.put,zA,zB,zC,zD,zE,zF,zG,Nat.reduceAdd]));exact k):A:=h k
theorem Zf{A B:Prop}(k:B)(h:B->A:=by intro k;(refine kF3 hQ ?_;(simp only[Act.put,zA,zB,zC,zD,zE,zF,zG,Nat.reduceAdd]));exact k):A:=h k
theorem Zx{A B:Prop}(k:B)(h:B->A:=by intro k;(refine kO1 rfl rfl Zev rfl rfl rfl hQ ?_;(simp only[Act.put,zA,zB,zC,zD,zE,zF,zG,Nat.reduceAdd]));exact k):A:=h k
theorem Zg{A B:Prop}(k:B)(h:B->A:=by intro k;(apply jp2 rfl rfl rfl hQ;(case hv=>(intro w';(try go_simp);(try exact rfl)));(simp only[Act.put,zA,zB,zC,zD,zE,zF,zG,Nat.reduceAdd]));exact k):A:=h k
theorem Zl{A B:Prop}(k:B)(h:B->A:=by intro k;((first|refine kI_ X hL hQ ?_ |refine kI0 X hL hQ ?_);(simp only[Act.put,zA,zB,zC,zD,zE,zF,zG,Nat.reduceAdd]));exact k):A:=h k
theorem Zk{A B:Prop}(k:B)(h:B->A:=by intro k;(first| (refine kq3 rfl rfl rfl hQ ?_;(simp only[Act.put,zA,zB,zC,zD,zE,zF,zG,Nat.reduceAdd]))| (refine kv6 rfl rfl rfl ?_;(simp only[Act.put,zA,zB,zC,zD,zE,zF,zG,Nat.reduceAdd]))| (refine kv7 rfl rfl rfl X hL hQ ?_;(simp only[Act.put,zA,zB,zC,zD,zE,zF,zG,Nat.reduceAdd])));exact k):A:=h k
theorem Zb{A B:Prop}(k:B)(h:B->A:=by intro k;((first|refine kz2 X ?_ |refine kz3 X ?_);intro w X2;(try simp only[upd] at X2);(simp only[Act.put,zA,zB,zC,zD,zE,zF,zG,Nat.reduceAdd]);revert X2;revert w);exact k):A:=h k
theorem Zs{A B:Prop}(k:B)(h:B->A:=by intro k;((first|refine kz5 X hL ?_ |refine kz6 X hL ?_);intro w X2 hL2;(try simp only[upd] at X2);(try simp only[upd] at hL2);(simp only[Act.put,zA,zB,zC,zD,zE,zF,zG,Nat.reduceAdd]);revert hL2;revert X2;revert w);exact k):A:=h k
theorem Zq{A B:Prop}(k:B)(h:B->A:=by intro k;(refine kv_ rfl rfl X hL rfl rfl ?_;intro g w X2 hL2;(simp only[Act.put,zA,zB,zC,zD,zE,zF,zG,Nat.reduceAdd]);revert hL2;revert X2;revert g w);exact k):A:=h k
theorem Zbx{A B:Prop}(k:B)(h:B->A:=by intro k;(refine j66 rfl ?_;refine ky9 rfl _ _ rfl Zev rfl X ?_;intro g w X2;(simp only[Act.put,zA,zB,zC,zD,zE,zF,zG,Nat.reduceAdd]);revert X2;revert g w);exact k):A:=h k
theorem Zce{A B:Prop}(k:B)(h:B->A:=by intro k;((have hL2:=X.und (by first|exact hL|exact hL.up|exact hL.up3|exact hL.up.up));refine⟨_,rfl,fun _ _=>X.keeps hL2,?_⟩;(simp only[Act.put,zA,zB,zC,zD,zE,zF,zG,Nat.reduceAdd]);revert hL2);exact k):A:=h k
theorem ZcL{A B:Prop}(k:B)(h:B->A:=by intro k;(refine j66 rfl ?_;(refine jZ7 rfl ?_;(first|refine jZ9 rfl _ _ rfl rfl X Zra ?_ |refine jB6 rfl _ _ rfl rfl X Zrb ?_));(simp only[Act.put,zA,zB,zC,zD,zE,zF,zG,Nat.reduceAdd]));exact k):A:=h k
theorem ZcS{A B:Prop}(k:B)(h:B->A:=by intro k;(refine j66 rfl ?_;(refine j10 rfl ?_;(first|refine j11 rfl _ _ _ rfl rfl Zev X rfl rfl Zpa ?_ |refine jK2 rfl _ _ _ rfl rfl rfl X rfl rfl Zpa ?_));intro w X2;(try simp only[upd] at X2);(simp only[Act.put,zA,zB,zC,zD,zE,zF,zG,Nat.reduceAdd]);revert X2;revert w);exact k):A:=h k
theorem ZcA{A B:Prop}(k:B)(h:B->A:=by intro k;(refine j66 rfl ?_;(first|refine jy4 rfl _ rfl X ?_ |refine ky9 rfl _ _ rfl Zev rfl X ?_);intro g w X2;(simp only[Act.put,zA,zB,zC,zD,zE,zF,zG,Nat.reduceAdd]);revert X2;revert g w);exact k):A:=h k
theorem ZeL{A B:Prop}(k:B)(h:B->A:=by intro k;(refine j66 rfl ?_;(refine jZ7 rfl ?_;(first|refine jZ9 rfl _ _ rfl rfl X Zrc ?_ |refine jB6 rfl _ _ rfl rfl X Zrd ?_));(simp only[Act.put,zA,zB,zC,zD,zE,zF,zG,Nat.reduceAdd]));exact k):A:=h k
theorem ZeS{A B:Prop}(k:B)(h:B->A:=by intro k;(refine j66 rfl ?_;(refine j10 rfl ?_;(first|refine j11 rfl _ _ _ rfl rfl Zev X rfl rfl Zpb ?_ |refine jK2 rfl _ _ _ rfl rfl rfl X rfl rfl Zpb ?_));intro w X2;(try simp only[upd] at X2);(simp only[Act.put,zA,zB,zC,zD,zE,zF,zG,Nat.reduceAdd]);revert X2;revert w);exact k):A:=h k
theorem ZeA{A B:Prop}(k:B)(h:B->A:=by intro k;(refine j66 rfl ?_;refine jy4 rfl _ rfl X ?_;intro g w X2;(simp only[Act.put,zA,zB,zC,zD,zE,zF,zG,Nat.reduceAdd]);revert X2;revert g w);exact k):A:=h k
theorem kC1(off:Nat):∀(vs:List Value) (k:Nat) (cs:Array Value),off+k+vs.length<=cs.size->((vs.zipIdx k).foldl (fun cs (x:Value×Nat)=>cs.setIfInBounds (off+x.2) x.1) cs).toList=cs.toList.take (off+k)++vs++cs.toList.drop (off+k+vs.length)
 | [],k,cs,h=>ag
 |v::vs,k,cs,h=>by
  simp only[iB] at h;rw[List.zipIdx_cons,List.foldl_cons,kC1 off vs (k+1) _ ah];simp only[lG,iB];have hl:cs.toList.length=cs.size:=Array.length_toList;rw[show off+(k+1)=(off+k)+1 from aa,it (i:=off+k) (by simp[hl];omega)];rw[List.take_set_of_le aa,List.getElem_set_self,List.drop_set_of_lt aa];simp only[iE,iu,iw];rw[show off+k+1+vs.length=off+k+(vs.length+1) from aa]
section
variable{P:Program}{t e:TypeId}{c bytes:Nat}{w:World}
theorem jP_(hT : Elem P t e c bytes)(hc : 0 < c)(us : List (List Value))(vs : List Value)(hv : vs.map (fun v => v.cells.toList) = us)(hs : ∀ u ∈ us, u.length = c)(hb : us.length * c <= 16777216)(hn : 0 < us.length) :(Instr.buildSlice t us.length (vs.zipIdx.map fun x=>(x.2,x.1)).toArray).run P w=.ok (.slice (some ⟨w.heap.size,0,none⟩) us.length us.length) (w.alloc (.cells us.flatten.toArray e)):=by
 obtain⟨hu,i,z,hi,hz,hsz,_,hzc⟩:=hT;have hmul:0<us.length*c:=Nat.mul_pos hn hc
 have key : ∀ (vs : List Value) (k : Nat) (cs : Array Value), (∀ v ∈ vs, v.cells.toList.length = c) -> cs.size = us.length * c -> (k + vs.length) * c <= us.length * c ->
     ∃ds,Instr.fill (fun i=>some (i*c,c)) cs ((vs.zipIdx k).map fun x=>(x.2,x.1))=some ds/\ds.toList=cs.toList.take (k*c)++(vs.map (fun v=>v.cells.toList)).flatten++cs.toList.drop ((k+vs.length)*c):=by
  intro vs
  induction vs with
  |nil=>intro k cs _ _ _;exact⟨cs,rfl,ag⟩
  |cons v vs ih=>
   intro k cs h1 h2 h3
   have hvc:v.cells.size=c:=by have:=h1 v ag;rwa [Array.length_toList] at this
   have h4:(k+1)*c<=us.length*c:=i3 (i' _ ag) h3
   have h5:k*c+c=(k+1)*c:=(ju k c).symm
   rw[List.zipIdx_cons,jr]
   unfold Instr.fill
   have hcond:(decide (v.cells.size≠c)||decide (k*c+v.cells.size>cs.size))=false:=by
    rw[hvc];simp;omega
   dsimp only
   rw[ii (by rw[hcond];decide)]
   have hf:(v.cells.zipIdx.foldl (fun cs (x:Value×Nat)=>cs.setIfInBounds (k*c+x.2) x.1) cs).toList=cs.toList.take (k*c)++v.cells.toList++cs.toList.drop ((k+1)*c):=by
    have:=kC1 (k*c) v.cells.toList 0 cs (by rw[Array.length_toList,hvc];omega);rw[Nat.add_zero,Array.length_toList,hvc,h5] at this;rw[<-this,<-Array.foldl_toList];simp
   obtain⟨ds,hd1,hd2⟩:=ih (k+1) (v.cells.zipIdx.foldl (fun cs (x:Value×Nat)=>cs.setIfInBounds (k*c+x.2) x.1) cs) (fun u hu=>h1 u (by simp[hu])) (by
    rw[<-Array.length_toList,hf];simp only[il,iA,iX,Array.length_toList,hvc];omega) (by rw[show k+1+vs.length=k+(vs.length+1) from aa];exact h3)
   refine⟨ds,hd1,?_⟩
   rw[hd2,hf]
   have hl1:(cs.toList.take (k*c)).length=k*c:=by rw[iA,Array.length_toList];omega
   have hl2:(cs.toList.take (k*c)++v.cells.toList).length=(k+1)*c:=by rw[il,hl1,Array.length_toList,hvc,h5]
   rw[List.take_left' hl2,show(k+1+vs.length)*c=(k+1)*c+vs.length*c by rw[kp],<-kg,List.drop_left' hl2,kg,jr,List.flatten_cons,iB]
   rw[show(k+(vs.length+1))*c=(k+1)*c+vs.length*c by rw[<-kp];congr 1;omega]
   simp only[iE]
 have hlen:vs.length=us.length:=by rw[<-hv,iZ]
 obtain⟨ds,hd1,hd2⟩:=key vs 0 ((Array.range (us.length*c)).map (z.cells[· %z.cells.size]!)) (fun v hv'=>hs _ (by rw[<-hv];exact jP hv')) ag (by rw[hlen];simp);rw[hlen] at hd2
 have hds:ds=us.flatten.toArray:=by
  apply Array.toList_inj.1;rw[hd2,hv];simp
 have hso:(Go.sizeOf e).run P w=.ok c w:=by simp[Go.sizeOf,typeInfo,hi,Sem.run_bind,Result.andThen_ok,Sem.run_pure,hsz]
 have hze:(zeroValue e).run P w=.ok z w:=by simp[zeroValue,typeInfo,hi,hz,Sem.run_bind,Result.andThen_ok,Sem.run_pure]
 unfold Instr.buildSlice;rw[Sem.run_bind,jR hu,Result.andThen_ok];dsimp only;rw[Sem.run_bind,hso,Result.andThen_ok];have e1:¬us.length*c>2^24:=aa;have e2:¬us.length*c=0:=aa;simp only[e1,e2,if_false,Sem.run_bind,hze,Result.andThen_ok,Sem.run_pure,List.toList_toArray];rw[hd1,hds];simp[newRow,newObj,Sem.run_bind,Result.andThen_ok,Sem.run_pure];rfl
end
class SlT (P:Program) (t:TypeId) (e:outParam TypeId) (c bytes:outParam Nat):Prop where
 elem:Elem P t e c bytes
 pos:0<c
 low:2*c<=16777216
 by_:bytes<=128
section
variable{P:Program}{ops:Array Oper}{Q:Exit->Act->World->Prop}{o:Oper}{rest:List Oper}{a:Act}{S:List Nat}{w0 w:World}{L pre T M:List Ent}{R:List Rd}
theorem jz1{t e : TypeId}{c bytes : Nat}[hT : SlT P t e c bytes]{x : Operand}(ho : o.op = .buildSlice t 1 #[(0, x)]){v : Value}(hx : EvR a x v){cs : List Value}(hc : v.cells = cs.toArray)(hl : cs.length = c) :(execOp a.eval o).run P w=.ok (.value (.slice (some ⟨w.heap.size,0,none⟩) 1 1)) (w.alloc (.cells cs.toArray e)):=by
 have hr:=jP_ (w:=w) hT.elem hT.pos [cs] [v] (by simp[hc]) (by simpa using hl) (by have:=hT.low;simp;omega) ag;simp at hr;unfold execOp;simp[ho,hx.eval,hr]
theorem jz2{t e : TypeId}{c bytes : Nat}[hT : SlT P t e c bytes]{x y : Operand}(ho : o.op = .buildSlice t 2 #[(0, x), (1, y)]){v u : Value}(hx : EvR a x v)(hy : EvR a y u){cs ds : List Value}(hc : v.cells = cs.toArray)(hd : u.cells = ds.toArray)(hl : cs.length = c)(hl2 : ds.length = c) :(execOp a.eval o).run P w=.ok (.value (.slice (some ⟨w.heap.size,0,none⟩) 2 2)) (w.alloc (.cells (cs++ds).toArray e)):=by
 have hr:=jP_ (w:=w) hT.elem hT.pos [cs,ds] [v,u] (by simp[hc,hd]) (by simp[hl,hl2]) (by have:=hT.low;simp;omega) ag;simp at hr;unfold execOp;simp[ho,hx.eval,hy.eval,hr]
def ky1:Op->Bool
 | .buildSlice _ _ _=>true
 |_=>false
theorem j73(_:ky1 o.op=true)(h:wpList P ops Q (o::rest) a w):wpList P ops Q (o::rest) a w:=h
theorem j79(hw : Region.wanted o (yielded ops a.tmps) = true){t e : TypeId}{c bytes : Nat}{x : Operand}(ho : o.op = .buildSlice t 1 #[(0, x)])[hT : SlT P t e c bytes]{v : Value}(hx : EvR a x v){cs : List Value}(hc : v.cells = cs.toArray)(hl : cs.length = c)(X : St S w0 w L R)(h:∀g w',St S w0 w' (⟨g,cs,e⟩::L) R->wpList P ops Q rest (a.put o.dst (.slice (some ⟨g,0,none⟩) 1 1)) w'):wpList P ops Q (o::rest) a w:=
 jG hw fun K hK=>by
  unfold Oper.wp;rw[jz1 ho hx hc hl];exact hK _ _ (h _ _ (X.alloc cs e))
theorem k57(hw : Region.wanted o (yielded ops a.tmps) = true){t e : TypeId}{c bytes : Nat}{x y : Operand}(ho : o.op = .buildSlice t 2 #[(0, x), (1, y)])[hT : SlT P t e c bytes]{v u : Value}(hx : EvR a x v)(hy : EvR a y u){cs ds : List Value}(hc : v.cells = cs.toArray)(hd : u.cells = ds.toArray)(hl : cs.length = c)(hl2 : ds.length = c)(X : St S w0 w L R)(h:∀g w',St S w0 w' (⟨g,cs++ds,e⟩::L) R->wpList P ops Q rest (a.put o.dst (.slice (some ⟨g,0,none⟩) 2 2)) w'):wpList P ops Q (o::rest) a w:=
 jG hw fun K hK=>by
  unfold Oper.wp;rw[jz2 ho hx hy hc hd hl hl2];exact hK _ _ (h _ _ (X.alloc (cs++ds) e))
theorem jC5{α : Type}{f : α -> List Value}{t e : TypeId}{c bytes : Nat}[hT : SlT P t e c bytes]{s x : Operand}(ho : o.op = .call { callee := .builtin .append, args := #[s, x], argTypes := #[t, t] })(hF : Flat f c)(X:St S w0 w (pre++(M++T)) R) {v vx:Value} {l:List α} (hO:j4_ f e c v l M) (hs:EvR a s v) (l2:List α) (hx:EvR a x vx) (hr:RL f w vx l2) (hroom:(l.length+l2.length+(l.length+l2.length)/4+192)*bytes<=281474976710656) (h63:l.length+l2.length<=maxLen):∃v' w' M',(execOp a.eval o).run P w=.ok (.value v') w'/\j4_ f e c v' (l++l2) M'/\St S w0 w' (pre++(M'++T)) R:=by
 obtain⟨v',w',M',h1,h2,h3⟩:=X.pushW (P:=P) t o.type bytes hF hT.elem hO l2 hr hroom h63;refine⟨v',w',M',?_,h2,h3⟩;unfold execOp;simp only[ho,resolve,invoke,builtin,Sem.run_bind,Sem.run_pure,Result.andThen_ok,ky,jr,jN,hs.eval,hx.eval,h1]
theorem St.rd0{g n cap:Nat}{cs:List Value}{t:TypeId}{α:Type}{f:α->List Value}{l2:List α}(X:St S w0 w (⟨g,cs,t⟩::L) R)(hc:l2.flatMap f=cs)(hn:l2.length=n)(h1:n<=cap)(h2:cap<=maxLen):RL f w (.slice (some ⟨g,0,none⟩) n cap) l2:=by
 subst hc;subst hn;exact⟨_,_,rfl,h1,h2,.inr ⟨g,0,rfl,fun j u hj=>by rw[jm,X.k0.cell];simpa using hj⟩⟩
theorem St.tail{x:Ent}(X:St S w0 w (x::L) R):St S w0 w L R:=X.sub (iQ _ _)
theorem jy5(pre : List Ent)(hw : Region.wanted o (yielded ops a.tmps) = true){s x : Operand}{t : TypeId}(ho : o.op = .call { callee := .builtin .append, args := #[s, x], argTypes := #[t, t] }){α : Type}{f : α -> List Value}(l2 : List α){e : TypeId}{c bytes : Nat}[hT : SlT P t e c bytes](hF : Flat f c){g n:Nat} {cs:List Value} {te:TypeId} (X:St S w0 w (⟨g,cs,te⟩::(pre++(M++T))) R) {v:Value} {l:List α} (hO:j4_ f e c v l M) (hs:EvR a s v) (hx:EvR a x (.slice (some ⟨g,0,none⟩) n n)) (hc:l2.flatMap f=cs) (hn:l2.length=n) (hroom:(l.length+n+(l.length+n)/4+192)*bytes<=281474976710656) (h63:l.length+n<=140737488355328)(h:∀a' cap' w' M',j4_ f e c (.slice a' (l.length+n) cap') (l++l2) M'->St S w0 w' (pre++(M'++T)) R->wpList P ops Q rest (a.put o.dst (.slice a' (l.length+n) cap')) w'):wpList P ops Q (o::rest) a w:=
 jG hw fun K hK=>by
  obtain⟨v',w',M',h1,h2,h3⟩:=jC5 (P:=P) ho hF X.tail hO hs l2 hx (X.rd0 hc hn (iy _) aE) (by rw[hn];exact hroom) (by rw[hn];unfold maxLen;omega);obtain⟨a',cap',rfl⟩:=h2.form;have hl:(l++l2).length=l.length+n:=by rw[il,hn]
  rw[hl] at h1 h2;unfold Oper.wp;rw[h1];exact hK _ _ (h a' cap' w' M' h2 h3)
theorem kE3{k n bytes:Nat}(h:k+n<=1099511627776)(hb:bytes<=128):(k+n+(k+n)/4+192)*bytes<=281474976710656/\k+n<=140737488355328:=
 ⟨i3 (Nat.mul_le_mul (show k+n+(k+n)/4+192<=1374389534912 from aa) hb) ae,aa⟩
theorem jN0(pre : List Ent)(hw : Region.wanted o (yielded ops a.tmps) = true){s x : Operand}{t : TypeId}(ho : o.op = .call { callee := .builtin .append, args := #[s, x], argTypes := #[t, t] }){α : Type}{f : α -> List Value}(l2 : List α){e : TypeId}{c bytes : Nat}[hT : SlT P t e c bytes](hF : Flat f c){g n:Nat} {cs:List Value} {te:TypeId} (X:St S w0 w (⟨g,cs,te⟩::(pre++(M++T))) R) {v:Value} {l:List α} (hO:j4_ f e c v l M) (hs:EvR a s v) (hx:EvR a x (.slice (some ⟨g,0,none⟩) n n)) (hc:l2.flatMap f=cs) (hn:l2.length=n) (h40:l.length+n<=1099511627776)(h:∀a' cap' w' M',j4_ f e c (.slice a' (l.length+n) cap') (l++l2) M'->St S w0 w' (pre++(M'++T)) R->wpList P ops Q rest (a.put o.dst (.slice a' (l.length+n) cap')) w'):wpList P ops Q (o::rest) a w:=
 jy5 pre hw ho l2 hF X hO hs hx hc hn (kE3 h40 hT.by_).1 (kE3 h40 hT.by_).2 h
end
section
variable{P:Program}{ops:Array Oper}{Q:Exit->Act->World->Prop}{L0:List Ent}{R0:List Rd}{brk eff lds:List Nat}{i:Nat}{r:List Nat}{o:Oper}{a:Act}{S:List Nat}{w0 w:World}{L M T:List Ent}{R:List Rd}
theorem jY7{t e : TypeId}{c bytes : Nat}{x : Operand}(hi : oAt ops i = some o)(ho : o.op = .buildSlice t 1 #[(0, x)])[hT : SlT P t e c bytes]{v : Value}(hx : EvR a x v){cs : List Value}(hc : v.cells = cs.toArray)(hl : cs.length = c)(X : St S w0 w L R)(hL : Under L0 R0 L R)(he : eff.contains i = true)(hw : Region.wanted o (yielded ops a.tmps) = true)(h:∀g w',St S w0 w' (⟨g,cs,e⟩::L) R->Under L0 R0 (⟨g,cs,e⟩::L) R->SQ P ops Q L0 R0 brk eff lds r (a.put o.dst (.slice (some ⟨g,0,none⟩) 1 1)) w'):SQ P ops Q L0 R0 brk eff lds (i::r) a w:=
 jD2 hi he hw fun K hk=>by
  have hL':Under L0 R0 ((⟨w.heap.size,cs,e⟩:Ent)::L) R:=⟨hL.l.cons _,hL.r⟩;unfold Oper.wp;rw[jz1 ho hx hc hl];exact hk _ _ (fun _ _=>(X.alloc cs e).keeps hL') (h _ _ (X.alloc cs e) hL')
theorem k30{t e : TypeId}{c bytes : Nat}{x y : Operand}(hi : oAt ops i = some o)(ho : o.op = .buildSlice t 2 #[(0, x), (1, y)])[hT : SlT P t e c bytes]{v u : Value}(hx : EvR a x v)(hy : EvR a y u){cs ds : List Value}(hc : v.cells = cs.toArray)(hd : u.cells = ds.toArray)(hl : cs.length = c)(hl2 : ds.length = c)(X : St S w0 w L R)(hL : Under L0 R0 L R)(he : eff.contains i = true)(hw : Region.wanted o (yielded ops a.tmps) = true)(h:∀g w',St S w0 w' (⟨g,cs++ds,e⟩::L) R->Under L0 R0 (⟨g,cs++ds,e⟩::L) R->SQ P ops Q L0 R0 brk eff lds r (a.put o.dst (.slice (some ⟨g,0,none⟩) 2 2)) w'):SQ P ops Q L0 R0 brk eff lds (i::r) a w:=
 jD2 hi he hw fun K hk=>by
  have hL':Under L0 R0 ((⟨w.heap.size,cs++ds,e⟩:Ent)::L) R:=⟨hL.l.cons _,hL.r⟩;unfold Oper.wp;rw[jz2 ho hx hy hc hd hl hl2];exact hk _ _ (fun _ _=>(X.alloc (cs++ds) e).keeps hL') (h _ _ (X.alloc (cs++ds) e) hL')
theorem kP9(pre : List Ent){s x : Operand}{t : TypeId}(hi : oAt ops i = some o)(ho : o.op = .call { callee := .builtin .append, args := #[s, x], argTypes := #[t, t] }){α : Type}{f : α -> List Value}(l2 : List α){e : TypeId}{c bytes : Nat}[hT : SlT P t e c bytes](hF : Flat f c){g n:Nat} {cs:List Value} {te:TypeId} (X:St S w0 w (⟨g,cs,te⟩::(pre++(M++T))) R) {v:Value} {l:List α} (hO:j4_ f e c v l M) (hs:EvR a s v) (hx:EvR a x (.slice (some ⟨g,0,none⟩) n n)) (hc:l2.flatMap f=cs) (hn:l2.length=n) (hroom:(l.length+n+(l.length+n)/4+192)*bytes<=281474976710656) (h63:l.length+n<=140737488355328)(hL:Under L0 R0 (⟨g,cs,te⟩::(pre++(M++T))) R) (hA:L0.Sublist pre) (he:eff.contains i=true) (hw:Region.wanted o (yielded ops a.tmps)=true)(h:∀a' cap' w' M',j4_ f e c (.slice a' (l.length+n) cap') (l++l2) M'->St S w0 w' (pre++(M'++T)) R->Under L0 R0 (pre++(M'++T)) R->SQ P ops Q L0 R0 brk eff lds r (a.put o.dst (.slice a' (l.length+n) cap')) w'):SQ P ops Q L0 R0 brk eff lds (i::r) a w:=
 jD2 hi he hw fun K hk=>by
  obtain⟨v',w',M',h1,h2,h3⟩:=jC5 (P:=P) ho hF X.tail hO hs l2 hx (X.rd0 hc hn (iy _) aE) (by rw[hn];exact hroom) (by rw[hn];unfold maxLen;omega);obtain⟨a',cap',rfl⟩:=h2.form;have hl:(l++l2).length=l.length+n:=by rw[il,hn]
  rw[hl] at h1 h2;have hL':Under L0 R0 (pre++(M'++T)) R:=⟨hA.trans (ka _ _),hL.r⟩;unfold Oper.wp;rw[h1];exact hk _ _ (fun _ _=>h3.keeps hL') (h a' cap' w' M' h2 h3 hL')
theorem kZ6(pre : List Ent){s x : Operand}{t : TypeId}(hi : oAt ops i = some o)(ho : o.op = .call { callee := .builtin .append, args := #[s, x], argTypes := #[t, t] }){α : Type}{f : α -> List Value}(l2 : List α){e : TypeId}{c bytes : Nat}[hT : SlT P t e c bytes](hF : Flat f c){g n:Nat} {cs:List Value} {te:TypeId} (X:St S w0 w (⟨g,cs,te⟩::(pre++(M++T))) R) {v:Value} {l:List α} (hO:j4_ f e c v l M) (hs:EvR a s v) (hx:EvR a x (.slice (some ⟨g,0,none⟩) n n)) (hc:l2.flatMap f=cs) (hn:l2.length=n) (h40:l.length+n<=1099511627776)(hL:Under L0 R0 (⟨g,cs,te⟩::(pre++(M++T))) R) (hA:L0.Sublist pre) (he:eff.contains i=true) (hw:Region.wanted o (yielded ops a.tmps)=true)(h:∀a' cap' w' M',j4_ f e c (.slice a' (l.length+n) cap') (l++l2) M'->St S w0 w' (pre++(M'++T)) R->Under L0 R0 (pre++(M'++T)) R->SQ P ops Q L0 R0 brk eff lds r (a.put o.dst (.slice a' (l.length+n) cap')) w'):SQ P ops Q L0 R0 brk eff lds (i::r) a w:=
 kP9 pre hi ho l2 hF X hO hs hx hc hn (kE3 h40 hT.by_).1 (kE3 h40 hT.by_).2 hL hA he hw h
end
abbrev flR(g:Nat):Rd:=⟨.slice (some ⟨g,0,none⟩) 1 1,1,[.int .i64 2,.int .i64 0,.string ⟨#[]⟩]⟩
section
variable{P:Program}{ops:Array Oper}{Q:Exit->Act->World->Prop}{o:Oper}{rest:List Oper}{a:Act}{S:List Nat}{w0 w:World}{L:List Ent}{R:List Rd}
theorem kN3{T:TypeId}{n:Nat}[hT:AggT P T n]{g cap k:Nat}{cs:List Value}(hs:Sl w (.slice (some ⟨g,0,none⟩) k cap) k cs)(hn:cs.length=n):(loadVar T ⟨g,0,none⟩).run P w=.ok (.agg cs.toArray) w:=by
 obtain⟨⟨d,hu,hd⟩,hz⟩:=hT;obtain⟨a,c,hv,_,_,h3⟩:=hs;refine run_loadVar_mid w g 0 T cs d (fun j v hj=>?_) hu hd (by rw[hz,hn]);rcases h3 with h3|⟨b,off,ha,hc⟩
 ·rw[h3] at hj;cases hj
 ·cases hv;cases ha
  exact hc j v hj
theorem kx1(hw : Region.wanted o (yielded ops a.tmps) = true){T : TypeId}{x : Operand}(ho : o.op = .load T x){g : Nat}(hx : a.eval x = .pointer (some ⟨g, 0, none⟩)){n : Nat}[hT : AggT P T n](X : St S w0 w L R){cap k:Nat} {cs:List Value} (hR:⟨.slice (some ⟨g,0,none⟩) k cap,k,cs⟩∈R) (hn:cs.length=n) (h:wpList P ops Q rest (a.put o.dst (.agg cs.toArray)) w):wpList P ops Q (o::rest) a w:=
 jG hw fun K hK=>by
  unfold Oper.wp execOp;simp only[ho,hx,Instr.loadAt,Instr.sureAddr,Sem.run_bind,Sem.run_pure,Result.andThen_ok,kN3 (T:=T) (X.rd _ hR).1 hn];exact hK _ _ h
end
section
variable{P:Program}{ops:Array Oper}{Q:Exit->Act->World->Prop}{L0:List Ent}{R0:List Rd}{brk eff lds:List Nat}{i:Nat}{r:List Nat}{o:Oper}{a:Act}{S:List Nat}{w0 w:World}{L M T:List Ent}{R:List Rd}
theorem kv5{x : Operand}{T : TypeId}{g n : Nat}(hi : oAt ops i = some o)(ho : o.op = .load T x)(hx : a.eval x = .pointer (some ⟨g, 0, none⟩))[hT : AggT P T n]{cap k : Nat}{cs : List Value}(hR : ⟨.slice (some ⟨g, 0, none⟩) k cap, k, cs⟩ ∈ R0)(hn : cs.length = n)(he:(!eff.contains i&&lds.contains i)=true) (hw:Region.wanted o (yielded ops a.tmps)=true) (X:St S w0 w L R) (hL:Under L0 R0 L R) (hQ:j72 Q)(h:SQ P ops Q L0 R0 brk eff lds r (a.put o.dst (.agg cs.toArray)) w):SQ P ops Q L0 R0 brk eff lds (i::r) a w:=
 jf6 hi he hw X hL hQ (fun w' hw'=>by
  unfold execOp;simp only[ho,hx,Instr.loadAt,Instr.sureAddr,Sem.run_bind,Sem.run_pure,Result.andThen_ok,kN3 (T:=T) (hw'.r _ hR) hn]) h
theorem kv0{x : Operand}{T : TypeId}{b j : Nat}(hi : oAt ops i = some o)(ho : o.op = .load T x)(hx : EvR a x (.pointer (some ⟨b, j, none⟩)))[OneT P T]{cap k k' : Nat}{cs : List Value}(hR : ⟨.slice (some ⟨b, 0, none⟩) k' cap, k, cs⟩ ∈ R0){v : Value}(hv : cs[j]? = some v)(he:(!eff.contains i&&lds.contains i)=true) (hw:Region.wanted o (yielded ops a.tmps)=true) (X:St S w0 w L R) (hL:Under L0 R0 L R) (hQ:j72 Q)(h:SQ P ops Q L0 R0 brk eff lds r (a.put o.dst v) w):SQ P ops Q L0 R0 brk eff lds (i::r) a w:=
 jf6 hi he hw X hL hQ (fun w' hw'=>by
  have hc:w'.cell? ⟨b,j,none⟩=some v:=by
   obtain⟨ad,c,hv2,_,_,h3⟩:=hw'.r _ hR;rcases h3 with h3|⟨b2,off,ha,hc⟩
   ·have h3':cs=[]:=h3;rw[h3'] at hv;cases hv
   ·simp only[i9] at hv2;obtain⟨rfl,_,_⟩:=hv2
    cases ha
    have:=hc j v hv;rwa [jm] at this
  unfold execOp;simp only[ho,hx.eval,Instr.loadAt,Instr.sureAddr,Sem.run_bind,Sem.run_pure,Result.andThen_ok,jS7 (T:=T) hc]) h
end
theorem Own.cellsOf{α:Type}{f:α->List Value}{base:Nat}{e:TypeId}{c:Nat}{w:World}{v:Value}{l:List α}(h:Own f base e c w v l){g:Nat}(hg:v.ownBlock=some g):∃cur,w.heap[g]? =some (.cells cur e (0,0)):=by
 obtain⟨_,h2⟩:=h;rcases h2 with ⟨rfl,_⟩|⟨g',cap,cur,rfl,_,hh,_⟩
 ·cases hg
 ·simp only[Value.ownBlock,iO] at hg;subst hg;exact⟨cur,hh⟩
theorem Own.apart{α β:Type}{f:α->List Value}{f2:β->List Value}{base base2:Nat}{e e2:TypeId}{c c2:Nat}{w:World}{v v2:Value}{l:List α}{l2:List β}(h:Own f base e c w v l)(h2:Own f2 base2 e2 c2 w v2 l2)(hne:e≠e2):v.ownBlock=none\/v.ownBlock≠v2.ownBlock:=by
 cases hv:v.ownBlock with
 |none=>exact .inl rfl
 |some g=>
  refine .inr fun hh=>?_
  obtain⟨c1,h1⟩:=h.cellsOf hv
  obtain⟨c2,h3⟩:=h2.cellsOf hh.symm
  rw[h1] at h3
  simp only[iO,mu] at h3
  exact hne h3.2.1
theorem Own.grownTy{α β:Type}{f:α->List Value}{f2:β->List Value}{base base2:Nat}{e e2:TypeId}{c c2:Nat}{w w':World}{v v2:Value}{l:List α}{l2:List β}(h:Own f base e c w v l)(h2:Own f2 base2 e2 c2 w v2 l2)(hne:e≠e2)(hg:w.grownBy w' v2.ownBlock):Own f base e c w' v l:=
 h.grown hg (h.apart h2 hne)
def jR0(base:Nat)(tc ti:TypeId)(w:World)(v:Value)(t:Txn):Prop:=
 ∃vm vd vr,v=j84 t vm vd vr/\Own j_3 base tc 2 w vm t.mt/\Own j_3 base tc 2 w vd t.dt/\Own j_9 base ti 1 w vr t.rev/\t.mt.length<=5864062014805/\t.dt.length<=5864062014805/\t.rev.length<=17592186044160
section
variable{base:Nat}{tc ti tt:TypeId}{w w':World}{v:Value}{t:Txn}
theorem jR0.reads(h:jR0 base tc ti w v t):j17 w v t:=by
 obtain⟨vm,vd,vr,hv,h1,h2,h3,h4⟩:=h;exact⟨vm,vd,vr,hv,h1.reads,h2.reads,h3.reads,h4⟩
theorem jR0.below(h:jR0 base tc ti w v t)(hb:Below w.heap.size w w'):jR0 base tc ti w' v t:=by
 exact gW
theorem jR0.mono(h:jR0 base tc ti w v t){b2:Nat}(hb:b2<=base):jR0 b2 tc ti w v t:=by
 obtain⟨vm,vd,vr,hv,h1,h2,h3,h4⟩:=h;exact⟨vm,vd,vr,hv,h1.mono hb,h2.mono hb,h3.mono hb,h4⟩
theorem jR0.grownTy{β:Type}{f2:β->List Value}{base2:Nat}{e2:TypeId}{c2:Nat}{v2:Value}{l2:List β}(h:jR0 base tc ti w v t)(h2:Own f2 base2 e2 c2 w v2 l2)(hc:tc≠e2)(hi:ti≠e2)(hg:w.grownBy w' v2.ownBlock):jR0 base tc ti w' v t:=by
 obtain⟨vm,vd,vr,hv,h1,h2',h3,h4⟩:=h;exact⟨vm,vd,vr,hv,h1.grownTy h2 hc hg,h2'.grownTy h2 hc hg,h3.grownTy h2 hi hg,h4⟩
theorem jR0.tv(h:jR0 base tc ti w v t):∃x:TV,x.t=t/\v=x.val/\jR0 base tc ti w x.val x.t:=by
 obtain⟨x,hx,hv,_⟩:=h.reads.tv;exact⟨x,hx,hv,by rw[hx,<-hv];exact h⟩
def j43(base:Nat)(tt tc ti:TypeId)(w:World)(v:Value)(l:List Txn):Prop:=
 ∃xs:List TV,Own tvC base tt 10 w v xs/\xs.map (·.t)=l/\ ∀x∈xs,jR0 base tc ti w x.val x.t
variable{l:List Txn}
theorem j43.nil(base:Nat)(tt tc ti:TypeId)(w:World):j43 base tt tc ti w (.slice none 0 0) []:=⟨[],Own.nil _ _ _ _ _,rfl,fun _ h=>absurd h jp⟩
theorem j43.below(h:j43 base tt tc ti w v l)(hb:Below w.heap.size w w'):j43 base tt tc ti w' v l:=by
 obtain⟨xs,h1,h2,h3⟩:=h;exact⟨xs,h1.below hb,h2,fun x hx=>(h3 x hx).below hb⟩
theorem j43.mono(h:j43 base tt tc ti w v l){b2:Nat}(hb:b2<=base):j43 b2 tt tc ti w v l:=by
 obtain⟨xs,h1,h2,h3⟩:=h;exact⟨xs,h1.mono hb,h2,fun x hx=>(h3 x hx).mono hb⟩
theorem j43.form(h:j43 base tt tc ti w v l):∃a c,v=.slice a l.length c:=by
 obtain⟨xs,h1,rfl,h3⟩:=h;obtain⟨a,c,hv⟩:=h1.form;exact⟨a,c,by rw[hv,iZ]⟩
theorem km5{xs : List TV}{v' : Value}{y : TV}(h1 : Own tvC base tt 10 w v xs)(h3 : ∀ x ∈ xs, jR0 base tc ti w x.val x.t)(hy : jR0 base tc ti w y.val y.t)(hc : tc ≠ tt)(hi : ti ≠ tt)(ho : Own tvC base tt 10 w' v' (xs ++ [y]))(hg : w.grownBy w' v.ownBlock) :j43 base tt tc ti w' v' (xs.map (·.t)++ [y.t]):=by
 refine⟨xs++ [y],ho,ag,fun x hx=>?_⟩;rcases iK.1 hx with hx|hx
 ·exact(h3 x hx).grownTy h1 hc hi hg
 ·rw[iI] at hx;subst hx;exact hy.grownTy h1 hc hi hg
end
theorem j18.at3{w : World}{a : Option Addr}{n cap : Nat}{l : List Txn}(h : j18 w (.slice a n cap) l){k : Nat}(hk : k < l.length) :∃b off am cm ad cd ar cr,a=some ⟨b,off,none⟩/\j17 w (j84 l[k] (.slice am l[k].mt.length cm) (.slice ad l[k].dt.length cd) (.slice ar l[k].rev.length cr)) l[k]/\w.cell? ⟨b,off+k*10,none⟩=some (.int .i64 l[k].seq)/\w.cell? ⟨b,off+k*10+1,none⟩=some (.slice am l[k].mt.length cm)/\w.cell? ⟨b,off+k*10+2,none⟩=some (.slice ad l[k].dt.length cd)/\w.cell? ⟨b,off+k*10+3,none⟩=some (.slice ar l[k].rev.length cr)/\w.cell? ⟨b,off+k*10+4,none⟩=some (.bool l[k].h0.on)/\w.cell? ⟨b,off+k*10+5,none⟩=some (.int .i64 l[k].h0.left)/\w.cell? ⟨b,off+k*10+6,none⟩=some (.bool l[k].h1.on)/\w.cell? ⟨b,off+k*10+7,none⟩=some (.int .i64 l[k].h1.left)/\w.cell? ⟨b,off+k*10+8,none⟩=some (.bool l[k].h2.on)/\w.cell? ⟨b,off+k*10+9,none⟩=some (.int .i64 l[k].h2.left):=by
 obtain⟨b,off,vm,vd,vr,ha,hr,c0,c1,c2,c3,c4⟩:=h.at hk;have hr':=hr;obtain⟨vm',vd',vr',hv,hm,hd,hrr,n1,n2,n3⟩:=hr;simp only[j84,jo,jt,jh,jy,jF] at hv;obtain⟨rfl,rfl,rfl⟩:=hv;obtain⟨am,cm,rfl,_⟩:=hm.form;obtain⟨ad,cd,rfl,_⟩:=hd.form;obtain⟨ar,cr,rfl,_⟩:=hrr.form;exact⟨b,off,am,cm,ad,cd,ar,cr,ha,hr',c0,c1,c2,c3,c4⟩
abbrev ji8(as_:Option Addr)(cs:Nat)(aw:Option Addr)(cw:Nat)(d:Dsk):List Rd:=[kj2 j42 (.slice as_ d.safe.length cs) d.safe,kj2 wrC (.slice aw d.writes.length cw) d.writes]
theorem j_7.form{w:World}{v:Value}{d:Dsk}(h:j_7 w v d):∃as_ cs aw cw,v=.agg #[.slice as_ d.safe.length cs,.slice aw d.writes.length cw]/\RL j42 w (.slice as_ d.safe.length cs) d.safe/\RL wrC w (.slice aw d.writes.length cw) d.writes/\d.safe.length<=8796093022208/\d.writes.length<=5864062014805:=by
 obtain⟨vs,vw,rfl,h1,h2,h3,h4⟩:=h;obtain⟨as_,cs,rfl,_⟩:=h1.form;obtain⟨aw,cw,rfl,_⟩:=h2.form;exact⟨as_,cs,aw,cw,rfl,h1,h2,h3,h4⟩
theorem St.dsk{S : List Nat}{w0 w : World}{L : List Ent}{R : List Rd}{as_ aw : Option Addr}{cs cw : Nat}{d : Dsk}(X : St S w0 w L (kj2 j42 (.slice as_ d.safe.length cs) d.safe :: kj2 wrC (.slice aw d.writes.length cw) d.writes :: R))(h3 : d.safe.length <= 8796093022208)(h4 : d.writes.length <= 5864062014805) :j_7 w (.agg #[.slice as_ d.safe.length cs,.slice aw d.writes.length cw]) d:=⟨_,_,rfl,X.r0,X.r1,h3,h4⟩
def ko4(base:Nat)(w:World)(r:Rd):Prop:=Sl w r.v r.n r.cs/\(r.cs=[]\/ ∀b,kL2 r.v=some b->base<=b)
theorem Own.rdIn{α:Type}{f:α->List Value}{base:Nat}{e:TypeId}{c:Nat}{w:World}{v:Value}{l:List α}(ho:Own f base e c w v l):ko4 base w (kj2 f v l):=by
 refine⟨ho.reads,.inr fun b hbv=>?_⟩;obtain⟨_,h2⟩:=ho;rcases h2 with ⟨rfl,_⟩|⟨g,cap,cur,rfl,hbg,_⟩
 ·cases hbv
 ·cases hbv
  exact hbg
theorem St.addRs{S:List Nat}{w0 w:World}{L:List Ent}{R:List Rd}{base:Nat}(X:St S w0 w L R)(hL:∀e∈L,e.g<base){Rs:List Rd}(h:∀r∈Rs,ko4 base w r):St S w0 w L (Rs++R):=by
 induction Rs with
 |nil=>exact X
 |cons r Rs ih=>
  obtain⟨h1,h2⟩:=h r (.head _)
  refine(ih fun x hx=>h x (.tail _ hx)).addR h1 ?_
  rcases h2 with h2|h2
  ·exact .inl h2
  ·exact .inr fun b hb e he heq => by
     have:=h2 b hb;have:=hL e he;omega
def txR(v:Value)(xs:List TV):List Rd:=kj2 tvC v xs::xs.flatMap fun x=>[kj2 j_3 x.m.val x.t.mt,kj2 j_3 x.d.val x.t.dt,kj2 j_9 x.r.val x.t.rev]
def TV.fits(x:TV):Prop:=x.t.mt.length<=5864062014805/\x.t.dt.length<=5864062014805/\x.t.rev.length<=17592186044160
theorem j43.rdIn{base:Nat}{tt tc ti:TypeId}{w:World}{v:Value}{l:List Txn}(h:j43 base tt tc ti w v l):∃xs:List TV,xs.map (·.t)=l/\(∀x∈xs,x.fits)/\ ∀r∈txR v xs,ko4 base w r:=by
 obtain⟨xs,h1,h2,h3⟩:=h;refine⟨xs,h2,fun x hx=>?_,fun r hr=>?_⟩
 ·obtain⟨_,_,_,_,_,_,_,n⟩:=h3 x hx;exact n
 ·rcases iS.1 hr with rfl|hr
  ·exact h1.rdIn
  ·obtain⟨x,hx,hr⟩:=kH.1 hr;obtain⟨vm,vd,vr,hv,o1,o2,o3,_⟩:=h3 x hx;simp only[TV.val,j84,jo,jt,jh,jy,jF] at hv;obtain⟨e1,e2,e3⟩:=hv;subst e1 e2 e3;simp only[iS,jp,or_false] at hr;rcases hr with rfl|rfl|rfl
   ·exact o1.rdIn
   ·exact o2.rdIn
   ·exact o3.rdIn
theorem gy{A:Prop}(h:A:=by
 exact⟨x.m.val,x.d.val,x.r.val,rfl,hm _ (.head _),hm _ (.tail _ (.head _)),hm _ (.tail _ (.tail _ (.head _))),hf x hx⟩):A:=h
theorem St.txns{S:List Nat}{w0 w:World}{L:List Ent}{R:List Rd}(X:St S w0 w L R){v:Value}{xs:List TV}(hf:∀x∈xs,x.fits)(hl:xs.length<=1099511627744)(h:∀r∈txR v xs,r∈R):j18 w v (xs.map (·.t)):=by
 refine⟨xs,(X.rd _ (h _ (.head _))).1,rfl,fun x hx=>?_,hl⟩;have hm:=fun r hr=>(X.rd r (h r (.tail _ (kH.2 ⟨x,hx,hr⟩)))).1;exact gy
theorem St.addOTxns{S : List Nat}{w0 w w' : World}{L : List Ent}{R : List Rd}(X : St S w0 w L R)(hb : Below w.heap.size w w'){tt tc ti : TypeId}{v : Value}{l : List Txn}(h : j43 w.heap.size tt tc ti w' v l) :∃xs:List TV,xs.map (·.t)=l/\(∀x∈xs,x.fits)/\St S w0 w' L (txR v xs++R):=by
 obtain⟨xs,h1,h2,h3⟩:=h.rdIn;exact⟨xs,h1,h2,(X.call hb).addRs (fun e he=>(X.blk e he).lt) h3⟩
theorem St.dskM{S : List Nat}{w0 w : World}{L : List Ent}{R : List Rd}{as_ aw : Option Addr}{cs cw : Nat}{d : Dsk}(X : St S w0 w L R)(h3 : d.safe.length <= 8796093022208)(h4 : d.writes.length <= 5864062014805)(h : ∀ r ∈ ji8 as_ cs aw cw d, r ∈ R) :j_7 w (.agg #[.slice as_ d.safe.length cs,.slice aw d.writes.length cw]) d:=⟨_,_,rfl,(X.rd _ (h _ (.head _))).1,(X.rd _ (h _ (.tail _ (.head _)))).1,h3,h4⟩
theorem RL.take{α:Type}{f:α->List Value}{w:World}{a:Option Addr}{n cap:Nat}{l:List α}(h:RL f w (.slice a n cap) l){k:Nat}(hk:k<=l.length):RL f w (.slice a k cap) (l.take k):=by
 obtain⟨a',cap',hv,h1,h2,h3⟩:=h;simp only[i9] at hv;obtain⟨rfl,rfl,rfl⟩:=hv;have hl:(l.take k).length=k:=aX;refine⟨a,cap,by rw[hl],aa,h2,?_⟩;have hp:l.flatMap f=(l.take k).flatMap f++(l.drop k).flatMap f:=bY;rcases h3 with h3|⟨b,off,ha,hc⟩
 ·rw[hp] at h3;exact .inl (lu.1 h3).1
 ·refine .inr ⟨b,off,ha,fun j u hj=>hc j u ?_⟩;have hlt:j<((l.take k).flatMap f).length:=(i4.1 hj).1;rw[hp,i8 hlt];exact hj
theorem Own.fresh{α:Type}{f:α->List Value}{base B:Nat}{e:TypeId}{c:Nat}{w:World}{v:Value}{l:List α}(h:Own f base e c w v l)(hB:B<=base):∀b,kL2 v=some b->B<=b:=fun b hb=>by
 obtain⟨_,h2⟩:=h;rcases h2 with ⟨rfl,_⟩|⟨g,cap,cur,rfl,hbg,_⟩
 ·cases hb
 ·cases hb;exact i3 hB hbg
def jc9{α:Type}(f:α->List Value)(B:Nat)(w':World)(v v':Value)(l l':List α):Prop:=(v'=v/\l'=l)\/(RL f w' v' l'/\ ∀b,kL2 v'=some b->B<=b)
theorem jc9.same{α:Type}(f:α->List Value)(B:Nat)(w':World)(v:Value)(l:List α):jc9 f B w' v v l l:=.inl ⟨rfl,rfl⟩
theorem jc9.read{α:Type}{f:α->List Value}{B:Nat}{w':World}{v v':Value}{l l':List α}(h:jc9 f B w' v v' l l')(hr:RL f w' v l):RL f w' v' l':=by
 rcases h with ⟨rfl,rfl⟩|⟨h,_⟩
 ·exact hr
 ·exact h
structure NewT(B:Nat)(w':World)(vm vd vr vm' vd' vr':Value)(t t':Txn):Prop where
 m:jc9 j_3 B w' vm vm' t.mt t'.mt
 d:jc9 j_3 B w' vd vd' t.dt t'.dt
 r:jc9 j_9 B w' vr vr' t.rev t'.rev
theorem NewT.same(B:Nat)(w':World)(vm vd vr:Value)(t:Txn):NewT B w' vm vd vr vm vd vr t t:=⟨.same _ _ _ _ _,.same _ _ _ _ _,.same _ _ _ _ _⟩
section
variable{S:List Nat}{w0 w w':World}{L:List Ent}{R:List Rd}
theorem St.addSlot(X:St S w0 w L R){α:Type}{f:α->List Value}{B:Nat}{v v':Value}{l l':List α}(hB:∀e∈L,e.g<B)(hs:jc9 f B w v v' l l')(hv:kj2 f v l∈R):St S w0 w L (kj2 f v' l'::R):=by
 rcases hs with ⟨rfl,rfl⟩|⟨h1,h2⟩
 ·exact X.addR (X.rd _ hv).1 (X.rd _ hv).2
 ·exact X.addR h1 (.inr fun b hb e he heq => by
    have:=h2 b hb;have:=hB e he;omega)
theorem St.lts(X:St S w0 w L R):∀e∈L,e.g<w.heap.size:=fun e he=>(X.blk e he).lt
theorem St.addT(X : St S w0 w L R)(hb : Below w.heap.size w w'){vm vd vr vm' vd' vr' : Value}{t t' : Txn}(hN : NewT w.heap.size w' vm vd vr vm' vd' vr' t t')(hm : kj2 j_3 vm t.mt ∈ R)(hd : kj2 j_3 vd t.dt ∈ R)(hr : kj2 j_9 vr t.rev ∈ R) :St S w0 w' L (kj2 j_3 vm' t'.mt::kj2 j_3 vd' t'.dt::kj2 j_9 vr' t'.rev::R):=by
 have X1:=X.call hb;have X2:=X1.addSlot X.lts hN.r hr;have X3:=X2.addSlot X.lts hN.d (jH _ hd);exact X3.addSlot X.lts hN.m (jH _ (jH _ hm))
end
def js6(B:Nat)(w':World)(v v':Value)(d d':Dsk):Prop:=
 ∃vs vw vs' vw',v=.agg #[vs,vw]/\v'=.agg #[vs',vw']/\jc9 j42 B w' vs vs' d.safe d'.safe/\jc9 wrC B w' vw vw' d.writes d'.writes
theorem Own.slot{α:Type}{f:α->List Value}{base B:Nat}{e:TypeId}{c:Nat}{w:World}{v v0:Value}{l l0:List α}(h:Own f base e c w v l)(hB:B<=base):jc9 f B w v0 v l0 l:=.inr ⟨h.reads,h.fresh hB⟩
theorem jc9.nil{α:Type}{f:α->List Value}{B:Nat}{w:World}{v0:Value}{l0:List α}:jc9 f B w v0 (.slice none 0 0) l0 []:=.inr ⟨RL.nil _ _,fun b hb=>by cases hb⟩
theorem j_7.same{w w':World}{v:Value}{d:Dsk}(h:j_7 w v d)(B:Nat):js6 B w' v v d d:=by
 obtain⟨vs,vw,hv,_⟩:=h;exact⟨vs,vw,vs,vw,hv,hv,.same _ _ _ _ _,.same _ _ _ _ _⟩
structure AC where
 a:Option Addr
 c:Nat
structure JV where
 sf:AC
 wr:AC
 nm:AC
 nd:AC
 nr:AC
 sm:AC
 sd:AC
 sr:AC
 dn:AC
 us:AC
 st:AC
 ft:AC
abbrev kD9(f:Int->Int):List Value:=[.int .i64 (f 0),.int .i64 (f 1),.int .i64 (f 2),.int .i64 (f 3),.int .i64 (f 4),.int .i64 (f 5),.int .i64 (f 6),.int .i64 (f 7),.int .i64 (f 8),.int .i64 (f 9),.int .i64 (f 10),.int .i64 (f 11)]
def j85(v:JV)(j:Jn):List Value:=
 .slice v.sf.a j.disk.safe.length v.sf.c:: .slice v.wr.a j.disk.writes.length v.wr.c:: .bool j.down:: .int .i64 j.ring.head:: .int .i64 j.ring.used:: .int .i64 j.now.seq:: .slice v.nm.a j.now.mt.length v.nm.c:: .slice v.nd.a j.now.dt.length v.nd.c:: .slice v.nr.a j.now.rev.length v.nr.c:: .bool j.now.h0.on:: .int .i64 j.now.h0.left:: .bool j.now.h1.on:: .int .i64 j.now.h1.left:: .bool j.now.h2.on:: .int .i64 j.now.h2.left:: .int .i64 j.sealed.seq:: .slice v.sm.a j.sealed.mt.length v.sm.c:: .slice v.sd.a j.sealed.dt.length v.sd.c:: .slice v.sr.a j.sealed.rev.length v.sr.c:: .bool j.sealed.h0.on:: .int .i64 j.sealed.h0.left:: .bool j.sealed.h1.on:: .int .i64 j.sealed.h1.left:: .bool j.sealed.h2.on:: .int .i64 j.sealed.h2.left:: .slice v.dn.a j.done.length v.dn.c:: .slice v.us.a j.used.length v.us.c:: .int .i64 (j.roles 0):: .int .i64 (j.roles 1):: .int .i64 (j.roles 2):: .int .i64 (j.roles 3):: .int .i64 (j.roles 4):: .int .i64 (j.roles 5):: .int .i64 (j.roles 6):: .int .i64 (j.roles 7):: .int .i64 (j.roles 8):: .int .i64 (j.roles 9):: .int .i64 (j.roles 10):: .int .i64 (j.roles 11):: .int .i64 (j.freed 0):: .int .i64 (j.freed 1):: .int .i64 (j.freed 2):: .int .i64 (j.freed 3):: .int .i64 (j.freed 4):: .int .i64 (j.freed 5):: .int .i64 (j.freed 6):: .int .i64 (j.freed 7):: .int .i64 (j.freed 8):: .int .i64 (j.freed 9):: .int .i64 (j.freed 10):: .int .i64 (j.freed 11):: .int .i64 j.work:: .slice v.st.a j.steps.length v.st.c:: .int .i64 j.after.head:: .int .i64 j.after.used:: .int .i64 j.pending:: .slice v.ft.a j.found.txns.length v.ft.c:: .int .i64 j.found.next:: .int .i64 j.found.at_:: .int .i64 j.last:: .int .i64 j.acts:: []
def inR(xs:List TV):List Rd:=xs.flatMap fun x=>[kj2 j_3 x.m.val x.t.mt,kj2 j_3 x.d.val x.t.dt,kj2 j_9 x.r.val x.t.rev]
def jRds(v:JV)(j:Jn)(ds fs:List TV):List Rd:=
 kj2 j42 (.slice v.sf.a j.disk.safe.length v.sf.c) j.disk.safe::kj2 wrC (.slice v.wr.a j.disk.writes.length v.wr.c) j.disk.writes::
 kj2 j_3 (.slice v.nm.a j.now.mt.length v.nm.c) j.now.mt::kj2 j_3 (.slice v.nd.a j.now.dt.length v.nd.c) j.now.dt::kj2 j_9 (.slice v.nr.a j.now.rev.length v.nr.c) j.now.rev::
 kj2 j_3 (.slice v.sm.a j.sealed.mt.length v.sm.c) j.sealed.mt::kj2 j_3 (.slice v.sd.a j.sealed.dt.length v.sd.c) j.sealed.dt::kj2 j_9 (.slice v.sr.a j.sealed.rev.length v.sr.c) j.sealed.rev::
 kj2 jY3 (.slice v.st.a j.steps.length v.st.c) j.steps::kj2 tvC (.slice v.ft.a j.found.txns.length v.ft.c) fs::(inR fs++inR ds)
structure JFm(Tt Ti:TypeId)(v:JV)(j:Jn)(ds fs:List TV)(MD MU:List Ent):Prop where
 dn:jj7 tvC Tt 10 (.slice v.dn.a j.done.length v.dn.c) ds MD
 us:jj7 j_9 Ti 1 (.slice v.us.a j.used.length v.us.c) j.used MU
 dmap:ds.map (·.t)=j.done
 fmap:fs.map (·.t)=j.found.txns
 dfit:∀x∈ds,x.fits
 ffit:∀x∈fs,x.fits
 inv:InvJ j
 sz:SzI j
def ku9(TJ Tt Ti:TypeId)(g:Nat)(j:Jn)(M:List Ent)(Rj:List Rd):Prop:=
 ∃v ds fs MD MU,JFm Tt Ti v j ds fs MD MU/\M=⟨g,j85 v j,TJ⟩::(MD++MU)/\Rj=jRds v j ds fs
structure JSz(j:Jn):Prop where
 dk:goodD j.disk=true
 now:j.now.mt.length<=12/\j.now.dt.length<=12/\j.now.rev.length<=12
 sealed:j.sealed.mt.length<=12/\j.sealed.dt.length<=12/\j.sealed.rev.length<=12
 steps:j.steps.length<=100
 done:j.done.length<=25
 used:j.used.length<=26
 found:j.found.txns.length<=25
theorem jW0{t:Txn}(h:goodT t=true):t.mt.length<=12/\t.dt.length<=12/\t.rev.length<=12:=by
 obtain⟨a,b,c⟩:=jg5 (j92.1 h);omega
theorem UpI.sz{j:Jn}{d:Dsk}{r:Ring}{us:List Int}(h:UpI j d r us):j.done.length<=25/\us.length<=25:=by
 have:=h.log.bounds.2.2.2;exact⟨this,by rw[h.len];exact this⟩
theorem InvJ.sz{j:Jn}(h:InvJ j)(hz:SzI j):JSz j:=by
 obtain⟨hf,hs⟩:=hz
 cases h with
 |idle hd hw hu hn hse=>
  obtain⟨s1,s2⟩:=hu.sz
  exact⟨hu.log.good,jW0 hn.good,dm,hs,s1,aa,hf⟩
 |sealing d r us k hd hw hu hn he hq hq2 hr hus hk hdk hst=>
  obtain⟨s1,s2⟩:=hu.sz
  obtain⟨ho,hlen⟩:=jA0 he
  obtain⟨_,g,_⟩:=j21 he
  refine⟨?_,jW0 hn.good,jW0 (j92.2 g),hs,s1,by rw[hus,il];simp;omega,hf⟩
  rw[hdk]
  exact(j09 _ hu.log.good (fun x hx=>ho x (jc hx)) (by rw[hu.log.clean,iC,iA];omega)).1
 |homing d k hd hw hu hn hse hp ha hk hdk hst hne=>
  obtain⟨s1,s2⟩:=hu.sz
  have hb:=hu.log.bounds
  obtain⟨ho,hlen⟩:=jR1 (j96 hu.log.goods) hb.1 hb.2.1
  refine⟨?_,jW0 hn.good,dm,hs,s1,aa,hf⟩
  rw[hdk]
  exact(j09 _ hu.log.good (fun x hx=>ho x (jc hx)) (by rw[hu.log.clean,iC,iA];omega)).1
 |off hj hu=>
  obtain⟨⟨txs,q,a,u,hL,h2⟩,h3⟩:=hu
  exact⟨hL.good,be,be,hs,dz,dz,hf⟩
 |rising d k hj hu hk hdk=>
  obtain⟨⟨txs,q,a,u,hL,h2⟩,h3⟩:=hu
  obtain⟨b1,b2⟩:=j31 hL.scan
  obtain⟨ho,hlen⟩:=jR1 (j96 hL.goods2) b1 b2
  refine⟨?_,be,be,hs,dz,dz,hf⟩
  rw[hdk]
  exact(j09 _ hL.good (fun x hx=>ho x (jc hx)) (by rw[hL.clean,iC,iA];omega)).1
section
variable{TJ Tt Ti:TypeId}{S:List Nat}{w0 w:World}{g:Nat}{v:JV}{j:Jn}{ds fs:List TV}{MD MU T A L:List Ent}{R R2:List Rd}
theorem jU4{d:Dsk}(h:goodD d=true):d.safe.length<=8796093022208/\d.writes.length<=5864062014805:=by
 obtain⟨h1,h2,_⟩:=(j81 d).1 h;omega
theorem St.jDisk(X:St S w0 w L R)(hg:goodD j.disk=true)(h:∀r∈jRds v j ds fs,r∈R):j_7 w (.agg #[.slice v.sf.a j.disk.safe.length v.sf.c,.slice v.wr.a j.disk.writes.length v.wr.c]) j.disk:=
 X.dskM (jU4 hg).1 (jU4 hg).2 (fun r hr=>h r (by
  simp only[ji8,iS,jp,or_false] at hr;rcases hr with rfl|rfl
  ·exact .head _
  ·exact .tail _ (.head _)))
theorem St.jNow(X:St S w0 w L R)(hs:JSz j)(h:∀r∈jRds v j ds fs,r∈R):j17 w (.agg #[.int .i64 j.now.seq,.slice v.nm.a j.now.mt.length v.nm.c,.slice v.nd.a j.now.dt.length v.nd.c,.slice v.nr.a j.now.rev.length v.nr.c,.bool j.now.h0.on,.int .i64 j.now.h0.left,.bool j.now.h1.on,.int .i64 j.now.h1.left,.bool j.now.h2.on,.int .i64 j.now.h2.left]) j.now:=by
 obtain⟨h1,h2,h3⟩:=hs.now;exact⟨_,_,_,rfl,(X.rd _ (h _ (.tail _ (.tail _ (.head _))))).1,(X.rd _ (h _ (.tail _ (.tail _ (.tail _ (.head _)))))).1,(X.rd _ (h _ (.tail _ (.tail _ (.tail _ (.tail _ (.head _))))))).1,aa,aa,aa⟩
theorem St.jIn{xs:List TV}(X:St S w0 w L R)(hf:∀x∈xs,x.fits)(h:∀r∈inR xs,r∈R):∀x∈xs,x.ok w:=fun x hx=>by
 have hm:=fun r hr=>(X.rd r (h r (kH.2 ⟨x,hx,hr⟩))).1;exact gy
theorem jH4:∀r∈inR fs++inR ds,r∈jRds v j ds fs:=fun r hr=>by
 unfold jRds;simp only[iS];exact .inr (.inr (.inr (.inr (.inr (.inr (.inr (.inr (.inr (.inr hr)))))))))
theorem kl7(X:St S w0 w (A++(MD++T)) R)(hm:JFm Tt Ti v j ds fs MD MU)(hs:JSz j)(h:∀r∈jRds v j ds fs,r∈R):j18 w (.slice v.dn.a j.done.length v.dn.c) j.done:=by
 refine⟨ds,X.ownORd hm.dn,hm.dmap,X.jIn hm.dfit (fun r hr=>h r (jH4 r (ip _ hr))),?_⟩;have:=congrArg List.length hm.dmap;rw[iZ] at this;have:=hs.done;omega
theorem jc9.form{α:Type}{f:α->List Value}{B:Nat}{w:World}{v v':Value}{l l':List α}(h:jc9 f B w v v' l l')(hv:RL f w v l):∃a c,v'=.slice a l'.length c:=by
 obtain⟨a,c,h1,_⟩:=(h.read hv).form;exact⟨a,c,h1⟩
theorem St.addNewD(X : St S w0 w L R){w' : World}(hb : Below w.heap.size w w'){as_ aw : Option Addr}{cs cw : Nat}{v' : Value}{d d' : Dsk}(h : js6 w.heap.size w' (.agg #[.slice as_ d.safe.length cs, .slice aw d.writes.length cw]) v' d d')(hR : ∀ r ∈ ji8 as_ cs aw cw d, r ∈ R) :∃as2 cs2 aw2 cw2,v'=.agg #[.slice as2 d'.safe.length cs2,.slice aw2 d'.writes.length cw2]/\St S w0 w' L (kj2 j42 (.slice as2 d'.safe.length cs2) d'.safe::kj2 wrC (.slice aw2 d'.writes.length cw2) d'.writes::R):=by
 obtain⟨vs,vw,vs',vw',h1,rfl,h3,h4⟩:=h;simp only[jo,jt,jh,jy] at h1;obtain⟨rfl,rfl⟩:=h1;have X1:=X.call hb;have hB:∀e∈L,e.g<w.heap.size:=fun e he=>(X.blk e he).lt;have r1:=hR _ (.head _);have r2:=hR _ (.tail _ (.head _));obtain⟨a2,c2,rfl⟩:=h3.form (X1.read r1);obtain⟨a3,c3,rfl⟩:=h4.form (X1.read r2);exact⟨a2,c2,a3,c3,rfl,(X1.addSlot hB h4 r2).addSlot hB h3 (.tail _ r1)⟩
theorem jV3:∀r∈ji8 v.sf.a v.sf.c v.wr.a v.wr.c j.disk,r∈jRds v j ds fs:=fun r hr=>by
 simp only[ji8,iS,jp,or_false] at hr;rcases hr with rfl|rfl
 ·exact .head _
 ·exact .tail _ (.head _)
def kx3:Rd:=⟨.slice none 0 0,0,[]⟩
theorem St.addNil(X:St S w0 w L R):St S w0 w L (kx3::R):=X.addR ⟨none,0,rfl,iy _,aE,.inl rfl⟩ (.inl rfl)
def j23:AC:=⟨none,0⟩
def jW9(sf wr:AC):JV:=⟨sf,wr,j23,j23,j23,j23,j23,j23,j23,j23,j23,j23⟩
theorem St.rds(X:St S w0 w L R)(h:∀r∈R2,r∈R):St S w0 w L R2:=⟨X.mv,X.nd,X.blk,X.own,fun r hr=>X.rd r (h r hr)⟩
theorem j7_{R : List Rd}(h1 : kj2 j42 (.slice v.sf.a j.disk.safe.length v.sf.c) j.disk.safe ∈ R)(h2 : kj2 wrC (.slice v.wr.a j.disk.writes.length v.wr.c) j.disk.writes ∈ R)(h3:kj2 j_3 (.slice v.nm.a j.now.mt.length v.nm.c) j.now.mt∈R) (h4:kj2 j_3 (.slice v.nd.a j.now.dt.length v.nd.c) j.now.dt∈R) (h5:kj2 j_9 (.slice v.nr.a j.now.rev.length v.nr.c) j.now.rev∈R)(h6:kj2 j_3 (.slice v.sm.a j.sealed.mt.length v.sm.c) j.sealed.mt∈R) (h7:kj2 j_3 (.slice v.sd.a j.sealed.dt.length v.sd.c) j.sealed.dt∈R) (h8:kj2 j_9 (.slice v.sr.a j.sealed.rev.length v.sr.c) j.sealed.rev∈R)(h9:kj2 jY3 (.slice v.st.a j.steps.length v.st.c) j.steps∈R) (h10:kj2 tvC (.slice v.ft.a j.found.txns.length v.ft.c) fs∈R) (h11:∀r∈inR fs,r∈R) (h12:∀r∈inR ds,r∈R) (h13:∀r∈R2,r∈R):∀r∈jRds v j ds fs++R2,r∈R:=fun r hr=>by
 rcases iK.1 hr with hr|hr
 ·unfold jRds at hr;simp only[iS,iK] at hr;rcases hr with rfl|rfl|rfl|rfl|rfl|rfl|rfl|rfl|rfl|rfl|hr|hr
  ·exact h1
  ·exact h2
  ·exact h3
  ·exact h4
  ·exact h5
  ·exact h6
  ·exact h7
  ·exact h8
  ·exact h9
  ·exact h10
  ·exact h11 r hr
  ·exact h12 r hr
 ·exact h13 r hr
theorem jR2:∀r∈inR fs,r∈jRds v j ds fs++R2:=fun r hr=>iv _ (jH4 r (iv _ hr))
theorem jQ1:∀r∈inR ds,r∈jRds v j ds fs++R2:=fun r hr=>iv _ (jH4 r (ip _ hr))
theorem St.jDone2{e0:Ent}(X:St S w0 w (e0::(MD++MU++L)) R)(hm:JFm Tt Ti v j ds fs MD MU)(hs:JSz j)(h:∀r∈jRds v j ds fs,r∈R):j18 w (.slice v.dn.a j.done.length v.dn.c) j.done:=by
 refine kl7 (A:=[e0]) (T:=MU++L) (MU:=MU) (by simpa using X) hm hs h
theorem St.jUsed{e0:Ent}(X:St S w0 w (e0::(MD++MU++L)) R)(hm:JFm Tt Ti v j ds fs MD MU):RL j_9 w (.slice v.us.a j.used.length v.us.c) j.used:=by
 refine St.ownORd (L:=e0::MD) (T:=L) (M:=MU) (by simpa using X) hm.us
theorem kL6{q q2 : Int}{a b : AC}{r : Rd}(h1 : j.now = j2_ q)(h2 : j.sealed = j2_ q2)(h3 : j.steps = [])(h4 : j.found.txns = [])(hr : r ∈ jRds (jW9 a b) j [] []) :r=kj2 j42 (.slice a.a j.disk.safe.length a.c) j.disk.safe\/r=kj2 wrC (.slice b.a j.disk.writes.length b.c) j.disk.writes\/r=kx3:=by
 unfold jRds at hr;rw[h1,h2,h3,h4] at hr;simp only[inR,kV,i6,iS,jp,or_false] at hr;rcases hr with h|h|h|h|h|h|h|h|h|h
 ·exact .inl h
 ·exact .inr (.inl h)
 all_goals exact .inr (.inr h)
theorem St.jZero{q q2 : Int}{a b : AC}(X : St S w0 w L (kj2 j42 (.slice a.a j.disk.safe.length a.c) j.disk.safe :: kj2 wrC (.slice b.a j.disk.writes.length b.c) j.disk.writes :: R))(h1 : j.now = j2_ q)(h2 : j.sealed = j2_ q2)(h3 : j.steps = [])(h4 : j.found.txns = []){L2 : List Ent}(hL : L2.Sublist L)(hR : ∀ r ∈ R2, r ∈ R) :St S w0 w L2 (jRds (jW9 a b) j [] []++R2):=by
 refine(X.addNil.sub hL).rds fun r hr=>?_;rcases iK.1 hr with hr|hr
 ·rcases kL6 h1 h2 h3 h4 hr with rfl|rfl|rfl
  ·exact .tail _ (.head _)
  ·exact .tail _ (.tail _ (.head _))
  ·exact .head _
 ·exact .tail _ (.tail _ (.tail _ (hR r hr)))
end
theorem eA{A:Prop}(h:A:=by
 have h:k=0\/k=1\/k=2\/k=3\/k=4\/k=5\/k=6\/k=7\/k=8\/k=9\/k=10\/k=11:=aa;rcases h with rfl|rfl|rfl|rfl|rfl|rfl|rfl|rfl|rfl|rfl|rfl|rfl<;>rfl):A:=h
theorem k89(f:Int->Int){k:Nat}(hk:k<12)(v:Int):upd k [.int .i64 v] (kD9 f)=kD9 (jV_ f k v):=by
 exact eA
def kr6(k:Nat):Int->Int:=fun x=>if x<(k:Int) then 1 else 0
theorem kQ2(k:Nat):jV_ (kr6 k) k 1=kr6 (k+1):=by
 funext x;unfold jV_ kr6;by_cases h:x=(k:Int)
 ·rw[ij h,ij aa]
 ·rw[ii h];by_cases h2:x<(k:Int)
  ·rw[ij h2,ij aa]
  ·rw[ii h2,ii aa]
theorem kQ1:kD9 (kr6 12)=kD9 (fun _=>1):=rfl
def rvF12(f:Int->Int)(l:List Int):Int->Int:=l.foldl (fun f b=>jV_ f b 0) f
def mtF12(f:Int->Int)(l:List Cpy):Int->Int:=l.foldl (fun f c=>jV_ f c.block 1) f
theorem kY4(f:Int->Int){l:List Int}{k:Nat}(hk:k<l.length):rvF12 f (l.take (k+1))=jV_ (rvF12 f (l.take k)) l[k] 0:=by
 unfold rvF12;rw[it hk,kj];rfl
theorem k08(f:Int->Int){l:List Cpy}{k:Nat}(hk:k<l.length):mtF12 f (l.take (k+1))=jV_ (mtF12 f (l.take k)) l[k].block 1:=by
 unfold mtF12;rw[it hk,kj];rfl
theorem kY_{l:List Txn}{k:Nat}(hk:k<l.length):riseR (l.take (k+1))=mtF12 (rvF12 (riseR (l.take k)) (l[k]).rev) (l[k]).mt:=by
 unfold riseR;rw[it hk,kj];rfl
theorem St.nm1{S:List Nat}{w0 w:World}{a:Nat}{ca:List Value}{ta:TypeId}{L:List Ent}{R:List Rd}(_:St S w0 w (⟨a,ca,ta⟩::L) R):∃x1,x1=a:=⟨_,rfl⟩
theorem St.nm2{S:List Nat}{w0 w:World}{a b:Nat}{ca cb:List Value}{ta tb:TypeId}{L:List Ent}{R:List Rd}(_:St S w0 w (⟨a,ca,ta⟩::⟨b,cb,tb⟩::L) R):∃x1 x2,x1=a/\x2=b:=⟨_,_,rfl,rfl⟩
theorem km8{w : World}{a : Option Addr}{n cap : Nat}{l : List TV}(h : RL tvC w (.slice a n cap) l){k : Nat}(hk : k < l.length) :∃b off,a=some ⟨b,off,none⟩/\w.cell? ⟨b,off+k*10,none⟩=some (.int .i64 l[k].t.seq)/\w.cell? ⟨b,off+k*10+1,none⟩=some l[k].m.val/\w.cell? ⟨b,off+k*10+2,none⟩=some l[k].d.val/\w.cell? ⟨b,off+k*10+3,none⟩=some l[k].r.val/\w.cell? ⟨b,off+k*10+4,none⟩=some (.bool l[k].t.h0.on)/\w.cell? ⟨b,off+k*10+5,none⟩=some (.int .i64 l[k].t.h0.left)/\w.cell? ⟨b,off+k*10+6,none⟩=some (.bool l[k].t.h1.on)/\w.cell? ⟨b,off+k*10+7,none⟩=some (.int .i64 l[k].t.h1.left)/\w.cell? ⟨b,off+k*10+8,none⟩=some (.bool l[k].t.h2.on)/\w.cell? ⟨b,off+k*10+9,none⟩=some (.int .i64 l[k].t.h2.left):=
 kl3 (fun x:TV=>.int .i64 x.t.seq) (fun x=>x.m.val) (fun x=>x.d.val) (fun x=>x.r.val) (fun x=>.bool x.t.h0.on) (fun x=>.int .i64 x.t.h0.left) (fun x=>.bool x.t.h1.on) (fun x=>.int .i64 x.t.h1.left) (fun x=>.bool x.t.h2.on) (fun x=>.int .i64 x.t.h2.left) (fun _=>rfl) h hk
theorem kS5{xs:List TV}{k:Nat}(hk:k<xs.length):kj2 j_3 xs[k].m.val xs[k].t.mt∈inR xs/\kj2 j_3 xs[k].d.val xs[k].t.dt∈inR xs/\kj2 j_9 xs[k].r.val xs[k].t.rev∈inR xs:=
 ⟨kH.2 ⟨xs[k],iM hk,.head _⟩,kH.2 ⟨xs[k],iM hk,.tail _ (.head _)⟩,kH.2 ⟨xs[k],iM hk,.tail _ (.tail _ (.head _))⟩⟩
theorem kT8{t:Txn}(h:goodT t=true):(∀b∈t.rev,0<=b/\b<12)/\(∀c∈t.mt,0<=c.block/\c.block<12):=by
 have g:=j92.1 h;refine⟨fun b hb=>?_,fun c hc=>(jA1 g.mt hc).1⟩;exact((jW5 t.rev).1 g.rev).2 b hb
theorem jj7.drop{α : Type}{f : α -> List Value}{e : TypeId}{c : Nat}{a : Option Addr}{n cap : Nat}{l : List α}{M : List Ent}(hF : Flat f c)(h : jj7 f e c (.slice a n cap) l M)(hn : l.length ≠ 0) :∃b off,a=some ⟨b,off,none⟩/\n=l.length/\n<=cap/\ ∀A,A=some ⟨b,off+n*c,none⟩\/(cap-n=0/\A=some ⟨b,off,none⟩)->jj7 f e c (.slice A 0 (cap-n)) ([]:List α) M:=by
 rcases h with ⟨_,h2,_⟩|⟨g,pre,cap2,rest,h1,h2,h3,h4,h5⟩
 ·rw[h2] at hn;exact absurd rfl hn
 ·simp only[i9] at h1;obtain⟨rfl,rfl,rfl⟩:=h1;have hll:=j95 hF.len l;refine⟨g,pre.length,rfl,rfl,h2,fun A hA=>?_⟩;rcases hA with rfl|⟨h0,rfl⟩
  ·rw[il,hll] at h4;refine .inr ⟨g,pre++l.flatMap f,cap-l.length,rest,?_,iq _,aa,?_,?_⟩
   ·rw[il,hll];rfl
   ·rw[kV,iw,Nat.sub_mul];omega
   ·rw[h5,kV,iw,iE]
  ·refine .inr ⟨g,pre,cap-l.length,l.flatMap f++rest,rfl,iq _,aa,?_,?_⟩
   ·rw[h0,kq];exact iq _
   ·rw[h5,kV,iw]
theorem St.addEmpty{S:List Nat}{w0 w:World}{L:List Ent}{R:List Rd}(X:St S w0 w L R)(A:Option Addr){c:Nat}(hc:c<=maxLen):St S w0 w L (⟨.slice A 0 c,0,[]⟩::R):=X.addR ⟨A,c,rfl,iq _,hc,.inl rfl⟩ (.inl rfl)
theorem St.addDrop{S : List Nat}{w0 w : World}{L : List Ent}{R : List Rd}(X : St S w0 w L R){α : Type}{f : α -> List Value}{c : Nat}(hF : ∀ x, (f x).length = c){b off n cap : Nat}{x : α}{r : List α}(h : kj2 f (.slice (some ⟨b, off, none⟩) n cap) (x :: r) ∈ R) :St S w0 w L (kj2 f (.slice (some ⟨b,off+c,none⟩) r.length (cap-1)) r::R):=by
 obtain⟨h1,h2⟩:=X.rd _ h;obtain⟨a2,cap2,hv,i1,i2,h3⟩:=h1;simp only[kj2,i9] at hv;obtain⟨rfl,_,rfl⟩:=hv;have hi1:r.length+1<=cap:=i1;refine X.addR ⟨_,_,rfl,(show r.length<=cap-1 from aa),aa,?_⟩ ?_
 ·rcases h3 with h3|⟨b3,off3,ha,hc⟩
  ·left;have h3':f x++r.flatMap f=[]:=h3;exact(lu.1 h3').2
  ·cases ha
   refine .inr ⟨b,off+c,rfl,fun j u hj=>?_⟩;have:=hc (c+j) u (show(f x++r.flatMap f)[c+j]? =some u by rw[jb (by rw[hF];omega),hF,jw];exact hj);rw[kZ];exact this
 ·rcases h2 with h2|h2
  ·left;have h2':f x++r.flatMap f=[]:=h2;exact(lu.1 h2').2
  ·exact .inr fun b' hb e he => by
     cases hb
     exact h2 b rfl e he
theorem kH_(ds:List TV)(y:TV):inR (ds++ [y])=inR ds++ [kj2 j_3 y.m.val y.t.mt,kj2 j_3 y.d.val y.t.dt,kj2 j_9 y.r.val y.t.rev]:=by unfold inR;rw[jz];simp
theorem kS6{ds:List TV}{y:TV}{R:List Rd}(h0:∀r∈inR ds,r∈R)(h1:kj2 j_3 y.m.val y.t.mt∈R)(h2:kj2 j_3 y.d.val y.t.dt∈R)(h3:kj2 j_9 y.r.val y.t.rev∈R):∀r∈inR (ds++ [y]),r∈R:=fun r hr=>by
 rw[kH_] at hr;rcases iK.1 hr with hr|hr
 ·exact h0 r hr
 ·simp only[iS,jp,or_false] at hr;rcases hr with rfl|rfl|rfl
  ·exact h1
  ·exact h2
  ·exact h3
theorem k66{ds:List TV}{y:TV}(h0:∀x∈ds,x.fits)(h:y.fits):∀x∈ds++ [y],x.fits:=fun x hx=>by
 rcases iK.1 hx with hx|hx
 ·exact h0 x hx
 ·rw[iI.1 hx];exact h
theorem RMa{α β:Type}{E:Prop}{P Q:α->β->Prop}(h:∃a b,P a b/\Q a b)(he:E):∃a b,E/\P a b/\Q a b:=
 let⟨a,b,c,d⟩:=h
 ⟨a,b,he,c,d⟩
theorem RMb{α β:Type}{E:Prop}{P Q:α->β->Prop}(h:∃a b,P a b/\Q a b)(he:E):E/\ ∃a b,P a b/\Q a b:=⟨he,h⟩
end Wb
namespace Go.Proofs.YtlecmdajpfkaeaaGreatDoor
open Go.ChangeShapes Go.WideShapes Go.ChangeAt Go.RowKit Wb
noncomputable def jU5 (os:Os):World:=
 { World.holding Tryz.prog os ⟨#[], #[], []⟩ with heap := (World.holding Tryz.prog os ⟨#[], #[], []⟩).heap.modify 0 fun
     | .cells _ t frozen=>.cells #[.int .i64 2,.int .i64 0,.string ⟨#[]⟩] t frozen
     |o=>o}
theorem jr9{W : World}(hL : laidMetH Tryz.prog [("wastebook/seal.flush", .agg [.lit (.int .i64 2), .lit (.int .i64 0), .lit (.string [])])] W) :Sl W (flR 0).v 1 (flR 0).cs:=by
 have h:laidMet Tryz.prog [("wastebook/seal.flush",.agg [.lit (.int .i64 2),.lit (.int .i64 0),.lit (.string [])])] W:=hL;obtain⟨ps,⟨g',t',cs,fuel,p,q,hg',ht',hvar,hd,_,_⟩,_⟩:=h;have hg:Tryz.prog.globalNamed "wastebook/seal.flush" =some 0:=af;have hty:(Tryz.prog.globals[0]?).map (·.type)=some 105:=af;obtain rfl:=kF (hg.symm.trans hg');obtain rfl:=kF (hty.symm.trans ht')
 have hcs:cs.toList=[.int .i64 2,.int .i64 0,.string ⟨#[]⟩]:=by
  obtain⟨xs,m,_,hx,hl,hln,hg⟩:=DataW.trod_struct Tryz.underlying105 hd;have hl3:cs.toList.length=3:=hl.trans af;generalize cs.toList=ls at*
  match ls,hl3,xs,hln with
  | [u0,u1,u2],_,[y0,y1,y2],_=>
   have h0:DataW.trod (fun _=>()) Tryz.prog W 0 (fun _=>true) false m 3 [u0]=some y0:=hg 0 _ rfl
   have h1:DataW.trod (fun _=>()) Tryz.prog W 0 (fun _=>true) false m 3 [u1]=some y1:=hg 1 _ rfl
   have h2:DataW.trod (fun _=>()) Tryz.prog W 0 (fun _=>true) false m 9 [u2]=some y2:=hg 2 _ rfl
   obtain⟨a0,e0,rfl,_⟩:=lA Tryz.underlying3 h0
   obtain⟨a1,e1,rfl,_⟩:=lA Tryz.underlying3 h1
   obtain⟨a2,e2,rfl,_⟩:=DataW.trod_string Tryz.underlying9 h2
   simp at e0 e1 e2 hx
   subst e0 e1 e2
   obtain⟨⟨rfl,rfl,h3⟩,_⟩:=hx
   have:a2=⟨#[]⟩:=by
    obtain⟨⟨l⟩⟩:=a2;simp at h3;subst h3;rfl
   rw[this]
 refine⟨some ⟨0,0,none⟩,1,rfl,iy _,ae,.inr ⟨0,0,rfl,fun j u hj=>?_⟩⟩;have:=World.var?_cell hg hvar j;rw[jm,this];have e:cs[j]? =cs.toList[j]? :=ag;rw[e,hcs];exact hj
end Go.Proofs.YtlecmdajpfkaeaaGreatDoor