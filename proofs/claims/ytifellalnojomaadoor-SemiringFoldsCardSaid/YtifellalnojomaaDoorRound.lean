/- A region that draws its order, in a round of a range over a function: it goes as outside. -/
import Derived.OrdersIn
import Derived.OrdersHeld
import Derived.TacticsIn
import Derived.RangeFuncCalls
namespace Go.PL

section
variable {P : Program} {l n : Nat} {Q : Exit → Act → World → Prop}

theorem oper_round {o : Oper} {a : Act} {w : World} {K K' : Act → World → Prop} (hd : ∀ c, o.op ≠ .defer c) (h : ∀ a w, K a w → K' a w) (hh : o.wp P a w K Q) :
    o.wpIn (Fence.wide.inRound l) n P a w K' Q := by
  refine ⟨fun f _ => trivial, ?_⟩
  rw [show (Fence.wide.inRound l).round = some l from rfl, Oper.semAt_some l _ o hd]
  unfold Oper.wp at hh
  generalize (execOp a.eval o).run P w = r at *
  cases r with
  | ok x w' =>
    cases x <;> simp only [Oper.upon, Oper.uponIn] at hh ⊢
    case value => exact h _ _ hh
    case skip => exact h _ _ hh
    case defer => exact h _ _ hh
    case enter f args =>
      refine ⟨(fun hx => (by cases hx)), CallsIn.inRound l (callsIn_wide.2 (hh.mono fun e w'' he => ?_))⟩
      cases e <;> first | exact h _ _ he | exact he
    case row r args =>
      refine ⟨(fun hx => (by cases hx)), fun c cs _ => ?_⟩
      obtain ⟨v, w'', hr, hs⟩ := hh c cs
      exact ⟨v, w'', h _ _ hr, stepsIn_wide.2 hs⟩
  | halt x w' => cases x <;> simp only [Oper.upon, Oper.uponIn] at hh ⊢ <;> exact hh

theorem any_round {md : Region.Mode} {ops : Array Oper} (hd : ∀ (i : Nat) (o : Oper) c, ops[i]? = some o → o.op ≠ .defer c) (hQ : ¬ LetsOut Q) : ∀ (fuel : Nat) (listed : Array Bool) (a : Act) (w : World),
    wpAny P md ops Q fuel listed a w → wpAnyIn (Fence.wide.inRound l) n P md ops Q fuel listed a w
  | 0, _, _, _, h => h
  | fuel + 1, _, _, _, h => ⟨h.1, fun i hi => by
      have hh := h.2 i hi
      unfold wpOp at hh
      unfold wpOpIn
      split
      · rename_i ho
        simp only [ho] at hh
        exact any_round hd hQ fuel _ _ _ hh
      · rename_i o ho
        simp only [ho] at hh
        split
        · rename_i hw
          simp only [hw, if_true] at hh
          rcases hh with hh | ⟨_, hh⟩
          · exact oper_round (fun c => hd i o c ho) (fun a w => any_round hd hQ fuel _ a w) hh
          · exact absurd hh hQ
        · rename_i hw
          simp only [hw] at hh
          exact ⟨fun f _ => trivial, any_round hd hQ fuel _ _ _ hh⟩⟩

theorem region_round {id : Nat} {ops : List Oper} {a : Act} {w : World} (hm : P.follows .mixedOrders = true) (hd : ops.all (fun o => match o.op with | .defer _ => false | _ => true) = true) (hQ : ¬ LetsOut Q) {S : World → Prop}
    (h : wpAnyH P .any ops.toArray Q S ops.toArray.size (Array.replicate ops.toArray.size false) a w.drew) : (Code.region id ops.toArray true).wpIn (Fence.wide.inRound l) n P Q a w := by
  refine wpIn_region_any hm (any_round (fun i o c ho hc => ?_) hQ _ _ _ _ (wpAny_of_held _ _ _ _ h))
  have := List.all_eq_true.1 hd o (List.mem_of_getElem? (by simpa using ho))
  rw [hc] at this
  cases this
end
end Go.PL
