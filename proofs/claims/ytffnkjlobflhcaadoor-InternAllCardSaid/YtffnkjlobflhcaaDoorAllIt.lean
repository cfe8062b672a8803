/- The pool's All: the iterator. -/
import Derived.RangeFuncNested
import Derived.RangeFuncBound
import Derived.RangeFuncCalls
import Derived.RangeFuncLeaves
import Derived.RangeFuncBox
import Derived.Shelf.Abstract
import Derived.WalkKit
import Derived.OwnWalkIn
import Derived.TacticsInMore
import Derived.LoopNIn
import Derived.LoopIn
import Derived.Test.YtffnkjlobflhcaaDoorSeen
namespace Go.Proofs.YtffnkjlobflhcaaDoor
open Go.RowKit Go.PL Go.Maps Go.Shelf

attribute [local go_sem] Oper.semAt_some

theorem PoolX.same {w w' : World} {p room : Nat} {ks : List ByteArray} {S : List Nat} (h : PoolX w p room ks S) (hb : ∀ k ∈ S, w'.heap[k]? = w.heap[k]?) : PoolX w' p room ks S := by
  obtain ⟨mb, sv, h⟩ := h
  have hf := h.foot
  exact ⟨mb, sv, ⟨(hb p (by rw [hf]; simp)).trans h.blk, h.map.of_block (hb mb (by rw [hf]; simp)), ownsRow_of_block h.row (fun g hg => hb g (by rw [hf]; simp [hg])), hf, h.nodup, h.le, h.room, h.sizes⟩⟩

set_option maxHeartbeats 400000 in
theorem all_calls (p : Nat) (w : World) :
    Calls Tryd.prog 23 #[.pointer (some ⟨p, 0, none⟩)] w fun e w' => e = .returned (.func (.func 36) #[] #[.pointer (some ⟨w.heap.size, 0, none⟩)]) ∧ w' = w.alloc (.cells #[.pointer (some ⟨p, 0, none⟩)] 39) := by
  go_enter Tryd.func23, Tryd.ntmps23
  go_wp2
  go_ret
  exact ⟨rfl, rfl⟩

/-- a number of a key -/
abbrev KeyNo (us : List ByteArray) : Type := { i : Nat // i < us.length }
def encsA (us : List ByteArray) (x : KeyNo us) : Array Value := #[.int .i64 x.1, .string (us[x.1]'x.2)]
def nums {us : List ByteArray} (xs : List (KeyNo us)) : List Nat := xs.map fun x => x.1

/-- these blocks read as they did -/
def KeepsL (L : List Nat) (W W' : World) : Prop := ∀ k ∈ L, W'.heap[k]? = W.heap[k]?
theorem KeepsL.trans {L : List Nat} {A B C : World} (h : KeepsL L A B) (k : KeepsL L B C) : KeepsL L A C := fun i hi => (k i hi).trans (h i hi)

set_option maxRecDepth 100000 in
set_option maxHeartbeats 2000000 in
theorem all_in (n : Nat) (hn : 1 ≤ n) (l p room Bs : Nat) (us : List ByteArray) (S : List Nat) (J Jx : List (KeyNo us) → World → Prop)
    (hY : ∀ pre x W, J pre W → pre.length < us.length → YieldAt Fence.wide (n - 1) Tryd.prog l (encsA us x) W fun e W' =>
      (e = .returned (.bool true) ∧ J (pre ++ [x]) W' ∧ KeepsL (Bs :: S) W W') ∨ (e = .returned (.bool false) ∧ Jx (pre ++ [x]) W'))
    (W : World) (hBs : W.heap[Bs]? = some (.cells #[.pointer (some ⟨p, 0, none⟩)] 39 (0, 0))) (hp : PoolX W p room us S) (h0 : J [] W) :
    CallsIn Fence.wide n Tryd.prog 36 #[.func (.yield l) #[] #[], .pointer (some ⟨Bs, 0, none⟩)] W fun e W' => (∃ v, e = .returned v) ∧
      ((∃ ys, nums ys = List.range us.length ∧ J ys W') ∨ (∃ pre, (nums pre = List.range pre.length ∧ pre.length ≤ us.length) ∧ Jx pre W')) := by
  have hul := hp.info.2.1
  refine callsIn_of_wp Tryd.func36 rfl trivial ?_ rfl
  simp only [Tryd.ntmps36, List.size_toArray, List.length_cons, List.length_nil, Nat.reduceAdd, Nat.reduceSub, Array.replicate_succ, Array.replicate_zero, List.push_toArray, List.append_toArray, List.nil_append, List.cons_append]
  gi_wp2
  gi_loopw [3] (fun i wr => ∃ (k : Nat) (pre : List (KeyNo us)), k ≤ us.length ∧ i = .int .i64 k ∧ nums pre = List.range k ∧ J pre wr ∧ KeepsL (Bs :: S) W wr) (fun i _ => us.length - (intOf i).toNat)
  case atStart => exact ⟨0, [], by omega, rfl, rfl, h0, fun _ _ => rfl⟩
  case round =>
    obtain ⟨k, pre, hk, rfl, hpre, hJ, hB⟩ := hrel
    have hp1 := hp.same (fun j hj => hB j (List.mem_cons_of_mem _ hj))
    have b1 := (hB Bs List.mem_cons_self).trans hBs
    have c1 := cell_of b1 0
    simp at c1
    have HL := Lib.hid (callsIn_wide (n := n - 1).2 (len_calls hp1))
    by_cases hlt : k < us.length
    · have hpl : pre.length = k := by have := congrArg List.length hpre; simpa [nums] using this
      have hn1 : nums (pre ++ [⟨k, hlt⟩]) = List.range (k + 1) := by
        unfold nums at hpre ⊢
        rw [List.map_append, hpre, List.range_succ]; rfl
      obtain ⟨fn, tmps, assign, body, hy, hR⟩ := hY pre ⟨k, hlt⟩ wr hJ (by omega)
      obtain ⟨mb, sv, h⟩ := hp1
      have c2 := cell_of h.blk 2
      simp at c2
      rcases SlC.of_row h.row with ⟨h0', _⟩ | ⟨g, o, c, hsv, hc⟩
      · simp at h0'; rw [h0'] at hlt; simp at hlt
      rw [hsv] at c2
      simp only [List.length_map] at c2
      have hg := hc k (.string us[k]) (by simp [hlt])
      have d1 : decide (k < us.length) = true := by simpa using hlt
      have HN := Lib.hid hn1
      have HP := Lib.hid hpl
      unfold encsA at hy
      simp only at hy
      clear hc hsv hn1 hpl hpre hJ h
      gi_wp2_with (refine ⟨trivial, ?_⟩; gi_at_call 22; refine HL.out.mono ?_; rintro e w' ⟨rfl, rfl⟩)
      refine hR.mono ?_
      rintro e W3 (⟨rfl, hJ3, hB3⟩ | ⟨rfl, hJx3⟩)
      · gi_wp2
        go_roundw
        case rel => exact ⟨k + 1, pre ++ [⟨k, hlt⟩], by omega, by go_num, HN.out, hJ3, hB.trans hB3⟩
        case measure => simp [intOf]; omega
      · gi_wp2
        refine bodyPost_ret (results_none rfl _ _ _) rfl ?_
        have hl2 := congrArg List.length HN.out
        rw [nums, List.length_map, List.length_range] at hl2
        exact ⟨⟨_, rfl⟩, .inr ⟨pre ++ [⟨k, hlt⟩], ⟨by rw [HN.out, hl2], by rw [hl2]; omega⟩, hJx3⟩⟩
    · obtain rfl : k = us.length := by omega
      gi_wp2_with (refine ⟨trivial, ?_⟩; gi_at_call 22; refine HL.out.mono ?_; rintro e w' ⟨rfl, rfl⟩)
      go_end0
      exact ⟨⟨_, rfl⟩, .inl ⟨pre, hpre, hJ⟩⟩

theorem all_stops (n : Nat) (hn : 1 ≤ n) (p room Bs : Nat) (us : List ByteArray) (S : List Nat) (w : World) (hBs : w.heap[Bs]? = some (.cells #[.pointer (some ⟨p, 0, none⟩)] 39 (0, 0))) (hp : PoolX w p room us S) :
    SeqStopsK Fence.wide n Tryd.prog 36 #[.pointer (some ⟨Bs, 0, none⟩)] (encsA us) (KeepsL (Bs :: S)) (fun ys => nums ys = List.range us.length) (fun pre => nums pre = List.range pre.length ∧ pre.length ≤ us.length) us.length w := fun l J Jx W hW _ _ hY h0 =>
  all_in n hn l p room Bs us S J Jx hY W ((hW.block Bs (lt_of_heap hBs)).trans hBs) (hp.same (fun k hk => hW.block k (hp.lt k hk))) h0

/-- the law of a range over a function, the frame behind the assignment told by a function of the frame ahead -/
theorem wpIn_rangeFunc_at {F : Fence} {n : Nat} {P : Program} {α : Type} {g : Operand} {ps : Array Tmp} {assign body : Code} {Q : Exit → Act → World → Prop} {a : Act} {w : World}
    (hro : F.round = none) (h1 : 1 ≤ n) {gf : Nat} {lb : Array Value} (hg : a.eval g = .func (.func gf) #[] lb) (hFg : F.fn gf) (eg : ∀ args w, (callFunc gf args).run P w = .ok (.enter gf args) w)
    {encs : α → Array Value} {Kp : World → World → Prop} {S Sp : List α → Prop} {N : Nat} {w0 : World} (hseq : SeqStopsK F (n - 1) P gf lb encs Kp S Sp N w0)
    (hKt : ∀ {A B C : World}, Kp A B → Kp B C → Kp A C) (hKb : ∀ (W : World) (l : Nat) (o o' : Obj), w.heap.size ≤ l → W.heap[l]? = some o → o.isCells = false → o.isWalk = false → Kp W (W.putObj l o')) (hb0 : Below w0.heap.size w0 w) (hps : ∀ x, (encs x).size = ps.size)
    (I : List α → World → Prop) (Ix : Code → List α → World → Prop) (hI : OwnFrom w.heap.size I) (hIx : ∀ c, OwnFrom w.heap.size (Ix c)) (h0 : I [] w) (A : Act → α → Act)
    (hassign : ∀ (l : Nat) (x : α) (W : World) (K : Act → World → Prop), K (A a x) W →
      assign.wpIn (F.inRound l) (n - 1 - 1) P (Exit.then K (fun _ _ _ => False)) { tmps := (ps.zip (encs x)).foldl (fun t (p, v) => t.setIfInBounds p v) a.tmps, defers := [] } W)
    (hbody : ∀ (l : Nat) (pre : List α) (x : α) (W : World), I pre W → pre.length < N → body.wpIn (F.inRound l) (n - 1 - 1) P (ownPostK Kp I Ix (pre ++ [x]) W) (A a x) W)
    (hdone : ∀ (D : Nat) (xs : List α) (W : World), w.heap.size ≤ D → S xs → I xs W → W.heap[D]? = some (.deferred (some [])) → Q .normal { a with defers := { target := .collected D, args := #[] } :: a.defers } W)
    (hstop : ∀ (D : Nat) (c : Code) (pre : List α) (W : World), w.heap.size ≤ D → Sp pre → Ix c pre W → W.heap[D]? = some (.deferred (some [])) → c.wpIn F n P Q { a with defers := { target := .collected D, args := #[] } :: a.defers } W) :
    (Code.rangeFunc g ps assign body).wpIn F n P Q a w :=
  wpIn_rangeFunc_ownF hro h1 hg hFg eg hseq hKt hKb hb0 hps I Ix hI hIx h0 (A a) hassign hbody hdone hstop
end Go.Proofs.YtffnkjlobflhcaaDoor
