/- Part of the proof: RegApp. -/
import Derived.Test.YtjhmfljlclajnacDoorUBytes
import Derived.Deep.RegionLaw
set_option linter.unusedVariables false
set_option linter.unusedSimpArgs false
namespace Wb
open Go Go.RowKit
theorem step_app {α : Type} {f : α → List Value} {P : Program} {ops : Array Oper} {o : Oper} {a : Act} {w : World} {K : Act → World → Prop} {Q : Exit → Act → World → Prop} {E : Prop}
    (hg : o.guard = none) (s x : Operand) (t : TypeId) (ho : o.op = .call { callee := .builtin .append, args := #[s, x], argTypes := #[t, t] })
    (base : Nat) (e : TypeId) (c bytes : Nat) (hF : Flat f c) (hT : Elem P t e c bytes) {v : Value} {l : List α} (hown : Own f base e c w v l) (hs : a.eval s = v)
    {vx : Value} (l2 : List α) (hsrc : RL f w vx l2) (hx : a.eval x = vx) (hroom : (l.length + l2.length) * bytes ≤ 140737488355328) (h63 : l.length + l2.length ≤ maxLen) (hbase : base ≤ w.heap.size)
    (hK : ∀ v' w', Own f base e c w' v' (l ++ l2) → Below base w w' → w.grownBy w' v.ownBlock → K (a.put o.dst v') w') :
    if Region.wanted o (yielded ops a.tmps) = true then Oper.wp P o a w K Q else E := by
 have hw : Region.wanted o (yielded ops a.tmps) = true := by simp [Region.wanted, hg]
 rw [if_pos hw]
 obtain ⟨v', w', hr, r1, r2⟩ := run_app (P := P) w base t o.type e c bytes hF hT v l hown vx l2 hsrc hroom h63 hbase
 have hlt := World.ownsRow.lt hown
 unfold Oper.wp execOp
 simp only [ho, resolve, invoke, builtin, Sem.run_bind, Sem.run_pure, Result.andThen_ok, List.map_toArray, List.map_cons, List.map_nil, hs, hx, hr]
 exact hK _ _ r1 ((Below.refl base w).grown r2 hbase (fun k hk => (hlt k hk).1)) r2
end Wb
