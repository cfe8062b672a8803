/- Texts merged, in build order: Seg, TokA, Tok, TokR, Lc, Eq, Fm1, Fm2, Fm3, Fm4, Fm5, Nv, Fm6, Fm7, Fm8. -/
import Derived.Test.YtkhbpebpljdifaaDoorMAsa
import Derived.Lib.Join
import Derived.Test.YtkhbpebpljdifaaDoorRows
import Derived.WalkKit
import Derived.WalkSpells
import Derived.WalkLawsBesides
import Derived.Maps.OwnSet
import Derived.Lib.Hide
import Derived.Laws.BytesArg
import Derived.Deep.QuietTactic
import Derived.BigQuiet
import Derived.Test.YtkhbpebpljdifaaDoorProg
import Derived.Shelf.Small.Strs
import Derived.Shelf.Strings.OnBuilder
import Derived.Shelf.LaysM
import Derived.Shelf.Strings.SplitShaped
import Derived.Deep.DeepCutAuto
import Derived.Deep.CutBlock
import Derived.Lib.Strings
import Derived.Lib.Walk
import Derived.Lib.ConvBytes
import Derived.Lib.ParseIntBMem
import Derived.Lib.AtoiErrMem
import Derived.Lib.BufferWrite
import Derived.Lib.UnsafeStr
import Derived.Lib.IfaceEq
import Derived.Laws.MakeOwn
import Derived.Laws.Strings3
import Derived.Laws.Closers25
import Derived.Laws.Closers25b
import Derived.RegionTactic
import Derived.Deep.RegionWith
import Derived.BigCall
import Derived.BigGuard
import Derived.Lib.AppendIntMem
import Derived.Carry
import Derived.OrdersHeld
import Derived.Deep.RegionHeld3
namespace Go.PL
open Go.RowKit

/-- what is known of the value that operation idx has left; own: the new blocks that it owns -/
structure Fact where
  idx : Nat
  own : List Nat
  holds : World → Prop

def maskStep (ms : List Nat) (o : Oper) : List Nat :=
  ms ++ [o.after.toList.foldl (fun m e => if Region.binds .any e then (m ||| (1 <<< e.on)) ||| ms.getD e.on 0 else m) 0]
/-- for each operation the set of those that it waits for, near and far -/
def masks (ops : List Oper) : List Nat := ops.foldl maskStep []
def reach (ops : Array Oper) (i j : Nat) : Bool := ((masks ops.toList).getD i 0).testBit j

theorem maskFold (ms : List Nat) (j : Nat) : ∀ (es : List Edge) (m : Nat), (es.foldl (fun m e => if Region.binds .any e then (m ||| (1 <<< e.on)) ||| ms.getD e.on 0 else m) m).testBit j = true →
    m.testBit j = true ∨ ∃ e ∈ es, Region.binds .any e = true ∧ (e.on = j ∨ (ms.getD e.on 0).testBit j = true)
  | [], m, h => Or.inl h
  | e :: es, m, h => by
    rw [List.foldl_cons] at h
    rcases maskFold ms j es _ h with h | ⟨e', he, h⟩
    · by_cases hb : Region.binds .any e = true
      · rw [if_pos hb, Nat.testBit_or, Nat.testBit_or, Bool.or_eq_true, Bool.or_eq_true] at h
        rcases h with (h | h) | h
        · exact Or.inl h
        · refine Or.inr ⟨e, by simp, hb, Or.inl ?_⟩
          rw [Nat.testBit_shiftLeft] at h
          simp only [Bool.and_eq_true, decide_eq_true_eq] at h
          have := h.2
          rw [show (1 : Nat) = 2 ^ 0 from rfl, Nat.testBit_two_pow] at this
          simp at this
          omega
        · exact Or.inr ⟨e, by simp, hb, Or.inr h⟩
      · rw [if_neg hb] at h
        exact Or.inl h
    · exact Or.inr ⟨e', by simp [he], h⟩

theorem masks_len (ops : List Oper) : (masks ops).length = ops.length := by
  unfold masks
  suffices h : ∀ (l : List Oper) (ms : List Nat), (l.foldl maskStep ms).length = ms.length + l.length by simpa using h ops []
  intro l
  induction l with
  | nil => intro ms; simp
  | cons o l ih => intro ms; rw [List.foldl_cons, ih]; simp [maskStep]; omega

theorem masks_from (l : List Oper) : ∀ (ms : List Nat) (i : Nat), i < ms.length → (l.foldl maskStep ms).getD i 0 = ms.getD i 0 := by
  induction l with
  | nil => intro ms i _; rfl
  | cons o l ih =>
    intro ms i hi
    rw [List.foldl_cons, ih _ _ (by simp [maskStep]; omega)]
    simp [maskStep, List.getD, List.getElem?_append_left hi]

theorem masks_spec (ops : List Oper) : ∀ (pre post : List Oper) (o : Oper), ops = pre ++ o :: post → ∀ j, ((masks ops).getD pre.length 0).testBit j = true →
    ∃ e ∈ o.after.toList, Region.binds .any e = true ∧ (e.on = j ∨ (e.on < pre.length ∧ ((masks ops).getD e.on 0).testBit j = true)) := by
  rintro pre post o rfl j h
  have hm : masks (pre ++ o :: post) = post.foldl maskStep (maskStep (masks pre) o) := by simp [masks, List.foldl_append]
  have hl : (maskStep (masks pre) o).length = pre.length + 1 := by simp [maskStep, masks_len]
  rw [hm, masks_from _ _ _ (by rw [hl]; omega)] at h
  have hg : (maskStep (masks pre) o).getD pre.length 0 = o.after.toList.foldl (fun m e => if Region.binds .any e then (m ||| (1 <<< e.on)) ||| (masks pre).getD e.on 0 else m) 0 := by
    unfold maskStep
    simp [List.getD, List.getElem?_append_right, masks_len]
  rw [hg] at h
  rcases maskFold _ _ _ _ h with h | ⟨e, he, hb, h⟩
  · simp at h
  · refine ⟨e, he, hb, h.imp id fun h => ?_⟩
    have hlt : e.on < pre.length := by
      rw [← masks_len]
      refine Nat.lt_of_not_le fun hle => ?_
      rw [List.getD, List.getElem?_eq_none hle] at h
      simp at h
    refine ⟨hlt, ?_⟩
    rw [hm, masks_from _ _ _ (by rw [hl]; omega)]
    simpa [maskStep, List.getD, List.getElem?_append_left (show e.on < (masks pre).length by rw [masks_len]; exact hlt)] using h

theorem reach_spec {ops : Array Oper} {i j : Nat} {o : Oper} (hi : ops[i]? = some o) (h : reach ops i j = true) :
    ∃ e ∈ o.after, Region.binds .any e = true ∧ (e.on = j ∨ (e.on < i ∧ reach ops e.on j = true)) := by
  have hi' : ops.toList[i]? = some o := by simpa using hi
  obtain ⟨hlt, hget⟩ := List.getElem?_eq_some_iff.1 hi'
  have hsplit : ops.toList = ops.toList.take i ++ o :: ops.toList.drop (i + 1) := by
    rw [← hget, ← List.drop_eq_getElem_cons hlt, List.take_append_drop]
  have hlen : (ops.toList.take i).length = i := by rw [List.length_take]; omega
  obtain ⟨e, he, hb, h⟩ := masks_spec _ _ _ _ hsplit j (by rw [hlen]; exact h)
  rw [hlen] at h
  exact ⟨e, by simpa using he, hb, h⟩

/-- what has come up waits for nothing that has not -/
def Closed (ops : Array Oper) (listed : Array Bool) : Prop := ∀ i o, ops[i]? = some o → listed.getD i false = true → ∀ e ∈ o.after, Region.binds .any e = true → listed.getD e.on false = true

theorem reach_listed {ops : Array Oper} {listed : Array Bool} (hc : Closed ops listed) {j : Nat} : ∀ (n i : Nat) (o : Oper), i < n → ops[i]? = some o → (∀ e ∈ o.after, Region.binds .any e = true → listed.getD e.on false = true) → reach ops i j = true → listed.getD j false = true := by
  intro n
  induction n with
  | zero => intro i _ h; omega
  | succ n ih =>
    intro i o hi ho hd hr
    obtain ⟨e, he, hb, h | ⟨hlt, h⟩⟩ := reach_spec ho hr
    · rw [← h]; exact hd e he hb
    · have hle := hd e he hb
      have hlt' : e.on < ops.size := Nat.lt_trans hlt (Array.getElem?_eq_some_iff.1 ho).1
      exact ih e.on _ (by omega) (Array.getElem?_eq_getElem hlt') (hc e.on _ (Array.getElem?_eq_getElem hlt') hle) h

/-- an operation that is no call of a Go function and hands on a value in the world that it got -/
def plainOp (o : Oper) : Bool :=
  match o.op with
  | .move _ | .assign _ | .pick .. | .build .. | .load .. | .binOp .. | .unOp .. | .fieldAddr .. | .field .. | .indexAddr .. | .index .. | .extract .. | .slice .. | .lookup .. | .makeInterface .. | .convert .. | .makeFunc .. | .nilCheck _ => true
  | _ => false

theorem then_ok {α : Type} {r : Result α} {k : α → World → Result Next} {n : Next} {w' : World} (h : r.andThen k = .ok n w') : ∃ v w1, k v w1 = .ok n w' := by
  cases r with
  | ok v w1 => exact ⟨v, w1, h⟩
  | halt x w1 => simp [Result.andThen] at h
theorem only_value (P : Program) (s : Sem Value) (w w' : World) (n : Next) (h : (do pure (Next.value (← s)) : Sem Next).run P w = .ok n w') : ∃ v, n = .value v := by
  rw [Sem.run_bind] at h
  obtain ⟨v, w1, h⟩ := then_ok h
  simp [Sem.run_pure] at h
  exact ⟨v, h.1.symm⟩

theorem plain_value {P : Program} {o : Oper} {ρ : Operand → Value} (hp : plainOp o = true) (w w' : World) (n : Next) (h : (execOp ρ o).run P w = .ok n w') : ∃ v, n = .value v := by
  obtain ⟨dst, op, type, pos, after, guard⟩ := o
  cases op <;> simp only [plainOp, Bool.false_eq_true] at hp <;> simp only [execOp] at h
  case move x => simp [Sem.run_pure] at h; exact ⟨_, h.1.symm⟩
  case assign x => simp [Sem.run_pure] at h; exact ⟨_, h.1.symm⟩
  case pick c a b =>
    rw [Sem.run_bind] at h
    obtain ⟨v, w1, h⟩ := then_ok h
    simp [Sem.run_pure] at h
    exact ⟨_, h.1.symm⟩
  case nilCheck x =>
    split at h
    · simp [runtimePanic] at h
    · simp [runtimePanic] at h
    · simp [runtimePanic] at h
    · split at h
      · simp [runtimePanic] at h
      · rw [Sem.run_bind] at h
        obtain ⟨_, _, h⟩ := then_ok h
        rw [Sem.run_bind] at h
        obtain ⟨_, _, h⟩ := then_ok h
        split at h
        · rw [Sem.run_bind] at h
          obtain ⟨_, _, h⟩ := then_ok h
          simp [Sem.run_pure] at h
          exact ⟨_, h.1.symm⟩
        · simp [Sem.run_pure] at h
          exact ⟨_, h.1.symm⟩
      · simp [Sem.run_pure] at h
        exact ⟨_, h.1.symm⟩
    · simp [Sem.run_pure] at h
      exact ⟨_, h.1.symm⟩
  all_goals exact only_value P _ w w' n h

/-- what a plain operation leaves -/
theorem plain_val {P : Program} {o : Oper} {a : Act} {C : World → Prop} {w : World} {v : Value} (hp : plainOp o = true) (h : o.quietAt P a C w v) :
    (execOp a.eval o).run P w = .ok (.value v) w := by
  unfold Oper.quietAt at h
  have hn := plain_value (P := P) (ρ := a.eval) hp w
  generalize (execOp a.eval o).run P w = r at *
  cases r with
  | ok n w' =>
    obtain ⟨u, rfl⟩ := hn w' n rfl
    simp only [Oper.quietUpon] at h
    obtain ⟨rfl, rfl⟩ := h
    rfl
  | halt x w' => simp only [Oper.quietUpon] at h
theorem plain_res {P : Program} {o : Oper} {a : Act} {C : World → Prop} {w : World} {v : Value} (hp : plainOp o = true) (h : o.quietAt P a C w v) :
    (execOp a.eval o).run P w = .ok (.value v) w ∨ ((execOp a.eval o).run P w = .ok .skip w ∧ v = undef) := Or.inl (plain_val hp h)

/-- what is asked once an operation that may make memory has been carried out -/
def opqUpon (P : Program) (post : Value → World → Prop) : Result Next → Prop
  | .ok (.value u) w' => post u w'
  | .ok .skip w' => post undef w'
  | .ok (.enter f args) w' => Calls P f args w' fun e w'' => ∃ u, e = .returned u ∧ post u w''
  | _ => False

theorem opqUpon_mono {P : Program} {post post' : Value → World → Prop} {r : Result Next} (h : ∀ v w, post v w → post' v w) (hh : opqUpon P post r) : opqUpon P post' r := by
  cases r with
  | ok n w' =>
    cases n <;> simp only [opqUpon] at hh ⊢
    case value u => exact h _ _ hh
    case skip => exact h _ _ hh
    case enter f args => exact hh.mono fun e w'' ⟨u, he, hp⟩ => ⟨u, he, h _ _ hp⟩
  | halt x w' => simp only [opqUpon] at hh

/-- the facts on which operation i may lean -/
def DF (ops : Array Oper) (i : Nat) : List Fact → World → Prop
  | [], _ => True
  | f :: Fs, w => (reach ops i f.idx = true → f.holds w) ∧ DF ops i Fs w
def AllHold : List Fact → World → Prop
  | [], _ => True
  | f :: Fs, w => f.holds w ∧ AllHold Fs w

theorem DF_iff {ops : Array Oper} {i : Nat} {Fs : List Fact} {w : World} : DF ops i Fs w ↔ ∀ f ∈ Fs, reach ops i f.idx = true → f.holds w := by
  induction Fs with
  | nil => simp [DF]
  | cons f Fs ih => simp [DF, ih]
theorem AllHold_iff {Fs : List Fact} {w : World} : AllHold Fs w ↔ ∀ f ∈ Fs, f.holds w := by
  induction Fs with
  | nil => simp [AllHold]
  | cons f Fs ih => simp [AllHold, ih]

def ownAll (Fs : List Fact) : List Nat := Fs.flatMap Fact.own

/-- the walk, in the order of the list: Cs the calls, As the allocations, all others plain -/
def Seg (P : Program) (ops : Array Oper) (W : World) (Cs As : List Nat) (K : List Fact → Act → Prop) : List Nat → List Fact → Act → Prop
  | [], Fs, a => K Fs a
  | i :: l, Fs, a =>
    match ops[i]? with
    | none => False
    | some o =>
      if Region.wanted o (yielded ops a.tmps) = true then
        if i ∈ As then
          ∃ obj, (∀ w, (execOp a.eval o).run P w = .ok (.value (.pointer (some ⟨w.heap.size, 0, none⟩))) (w.alloc obj)) ∧
            ∀ b, Seg P ops W Cs As K l (⟨i, [b], fun w => w.heap[b]? = some obj⟩ :: Fs) (a.put o.dst (.pointer (some ⟨b, 0, none⟩)))
        else if i ∈ Cs then
          (∃ v, (∀ w, Upto [] W w → DF ops i Fs w → opqUpon P (fun u w' => Upto [] w w' ∧ u = v) ((execOp a.eval o).run P w)) ∧ Seg P ops W Cs As K l Fs (a.put o.dst v)) ∨
          ∃ (Y : Type) (mk : Y → Value) (Φ : Y → World → Prop) (own : Y → List Nat), Nonempty Y ∧ (∀ y w w', Φ y w → Upto [] w w' → Φ y w') ∧ (∀ y, (own y).Nodup) ∧
            (∀ w, Upto [] W w → DF ops i Fs w → opqUpon P (fun v w' => Upto [] w w' ∧ ∃ y, v = mk y ∧ Φ y w' ∧ ∀ b ∈ own y, w.heap.size ≤ b ∧ b < w'.heap.size) ((execOp a.eval o).run P w)) ∧
            ∀ y, Seg P ops W Cs As K l (⟨i, own y, Φ y⟩ :: Fs) (a.put o.dst (mk y))
        else plainOp o = true ∧ ∃ C : World → Prop, (∀ w, Upto [] W w → DF ops i Fs w → C w) ∧ o.quiet P a C (Seg P ops W Cs As K l Fs)
      else Seg P ops W Cs As K l Fs (a.put o.dst undef)

section
variable {P : Program} {ops : Array Oper} {W : World} {Cs As : List Nat} {K : List Fact → Act → Prop}

theorem Seg_perm (hK : ∀ Fs Fs' a, Fs.Perm Fs' → K Fs a → K Fs' a) : ∀ (l : List Nat) (Fs Fs' : List Fact) (a : Act), Fs.Perm Fs' → Seg P ops W Cs As K l Fs a → Seg P ops W Cs As K l Fs' a
  | [], Fs, Fs', a, hp, h => hK _ _ _ hp h
  | i :: l, Fs, Fs', a, hp, h => by
    have hdf : ∀ {w}, DF ops i Fs' w → DF ops i Fs w := fun h => DF_iff.2 fun f hf => DF_iff.1 h f (hp.mem_iff.1 hf)
    unfold Seg at h ⊢
    split at h
    · exact h
    · rename_i o ho
      split at h
      · rename_i hw
        rw [if_pos hw]
        split at h
        · rename_i hA
          rw [if_pos hA]
          obtain ⟨obj, h1, h2⟩ := h
          exact ⟨obj, h1, fun b => Seg_perm hK l _ _ _ (hp.cons _) (h2 b)⟩
        · rename_i hA
          rw [if_neg hA]
          split at h
          · rename_i hC
            rw [if_pos hC]
            rcases h with ⟨v, h1, h2⟩ | ⟨Y, mk, Φ, own, hy, h1, h2, h3, h4⟩
            · exact Or.inl ⟨v, fun w hw hd => h1 w hw (hdf hd), Seg_perm hK l _ _ _ hp h2⟩
            · exact Or.inr ⟨Y, mk, Φ, own, hy, h1, h2, fun w hw hd => h3 w hw (hdf hd), fun v => Seg_perm hK l _ _ _ (hp.cons _) (h4 v)⟩
          · rename_i hC
            rw [if_neg hC]
            obtain ⟨h1, C, h2, h3⟩ := h
            exact ⟨h1, C, fun w hw hd => h2 w hw (hdf hd), Oper.quiet_mono (fun a h => Seg_perm hK l _ _ _ hp h) h3⟩
      · rename_i hw
        rw [if_neg hw]
        exact Seg_perm hK l _ _ _ hp h

/-- what a plain operation or an allocation has come to -/
def Res (P : Program) (ops : Array Oper) (o : Oper) (a : Act) (w : World) (u : Value) (w' : World) : Prop :=
  if Region.wanted o (yielded ops a.tmps) = true then (execOp a.eval o).run P w = .ok (.value u) w' ∨ ((execOp a.eval o).run P w = .ok .skip w' ∧ u = undef) else u = undef ∧ w' = w
def NF (j : Nat) (w w' : World) (nf : List Fact) : Prop :=
  (nf = [] ∧ w' = w) ∨ ∃ obj, w' = w.alloc obj ∧ nf = [⟨j, [w.heap.size], fun x => x.heap[w.heap.size]? = some obj⟩]

theorem Res.unique {o : Oper} {a : Act} {w w1 w2 : World} {u1 u2 : Value} (h1 : Res P ops o a w u1 w1) (h2 : Res P ops o a w u2 w2) : u1 = u2 ∧ w1 = w2 := by
  unfold Res at h1 h2
  by_cases hw : Region.wanted o (yielded ops a.tmps) = true
  · rw [if_pos hw] at h1 h2
    rcases h1 with h1 | ⟨h1, e1⟩ <;> rcases h2 with h2 | ⟨h2, e2⟩
    · rw [h1] at h2; cases h2; exact ⟨rfl, rfl⟩
    · rw [h1] at h2; cases h2
    · rw [h1] at h2; cases h2
    · rw [h1] at h2; cases h2; exact ⟨e1.trans e2.symm, rfl⟩
  · rw [if_neg hw] at h1 h2
    exact ⟨h1.1.trans h2.1.symm, h1.2.trans h2.2.symm⟩

theorem alloc_inj {w : World} {o1 o2 : Obj} (h : w.alloc o1 = w.alloc o2) : o1 = o2 := by
  have h1 : (w.heap.push o1)[w.heap.size]? = (w.heap.push o2)[w.heap.size]? := congrArg (fun x : World => x.heap[w.heap.size]?) h
  simpa using h1
theorem alloc_ne {w : World} {o : Obj} (h : w.alloc o = w) : False := by
  have h1 : (w.heap.push o).size = w.heap.size := congrArg (fun x : World => x.heap.size) h
  simp at h1

theorem NF.unique {j : Nat} {w w' : World} {n1 n2 : List Fact} (h1 : NF j w w' n1) (h2 : NF j w w' n2) : n1 = n2 := by
  rcases h1 with ⟨rfl, rfl⟩ | ⟨o1, rfl, rfl⟩ <;> rcases h2 with ⟨rfl, e⟩ | ⟨o2, e, rfl⟩
  · rfl
  · exact (alloc_ne e.symm).elim
  · exact (alloc_ne e).elim
  · rw [alloc_inj e]

theorem res_put (hsel : Region.noSelect ops = true) {j : Nat} {oj : Oper} (hj : ops[j]? = some oj) {a : Act} {dst : Option Tmp} {v : Value} (h : ∀ d, dst = some d → d ∉ oj.looksAt ops) {w w' : World} {u : Value} :
    Res P ops oj (a.put dst v) w u w' ↔ Res P ops oj a w u w' := by
  unfold Res
  rw [execOp_put oj (fun cs b => Region.noSelect_spec hsel j oj cs b hj) a dst v h, wanted_put oj a dst v h]

def waits (ops : Array Oper) (i j : Nat) : Bool :=
  match ops[i]? with
  | some o => o.after.any fun e => Region.binds .any e && e.on == j
  | none => false
/-- what is asked of two numbers of the walk's list, i before j -/
def before (ops : Array Oper) (Cs As : List Nat) (i j : Nat) : Bool :=
  i != j && !(waits ops i j) && (waits ops j i || (match ops[i]?, ops[j]? with | some oi, some oj => oi.apart ops oj | _, _ => false)) &&
    (!(Cs.contains j) || As.contains j || !(Cs.contains i || As.contains i) || reach ops j i)

/-- the head of the walk, with what follows as a variable -/
def Head (P : Program) (ops : Array Oper) (W : World) (Cs As : List Nat) (i : Nat) (o : Oper) (Fs : List Fact) (a : Act) (N : List Fact → Act → Prop) : Prop :=
  if Region.wanted o (yielded ops a.tmps) = true then
    if i ∈ As then
      ∃ obj, (∀ w, (execOp a.eval o).run P w = .ok (.value (.pointer (some ⟨w.heap.size, 0, none⟩))) (w.alloc obj)) ∧
        ∀ b, N (⟨i, [b], fun w => w.heap[b]? = some obj⟩ :: Fs) (a.put o.dst (.pointer (some ⟨b, 0, none⟩)))
    else if i ∈ Cs then
      (∃ v, (∀ w, Upto [] W w → DF ops i Fs w → opqUpon P (fun u w' => Upto [] w w' ∧ u = v) ((execOp a.eval o).run P w)) ∧ N Fs (a.put o.dst v)) ∨
      ∃ (Y : Type) (mk : Y → Value) (Φ : Y → World → Prop) (own : Y → List Nat), Nonempty Y ∧ (∀ y w w', Φ y w → Upto [] w w' → Φ y w') ∧ (∀ y, (own y).Nodup) ∧
        (∀ w, Upto [] W w → DF ops i Fs w → opqUpon P (fun v w' => Upto [] w w' ∧ ∃ y, v = mk y ∧ Φ y w' ∧ ∀ b ∈ own y, w.heap.size ≤ b ∧ b < w'.heap.size) ((execOp a.eval o).run P w)) ∧
        ∀ y, N (⟨i, own y, Φ y⟩ :: Fs) (a.put o.dst (mk y))
    else plainOp o = true ∧ ∃ C : World → Prop, (∀ w, Upto [] W w → DF ops i Fs w → C w) ∧ o.quiet P a C (N Fs)
  else N Fs (a.put o.dst undef)

theorem Seg_cons {i : Nat} {l : List Nat} {Fs : List Fact} {a : Act} : Seg P ops W Cs As K (i :: l) Fs a ↔ ∃ o, ops[i]? = some o ∧ Head P ops W Cs As i o Fs a (Seg P ops W Cs As K l) := by
  constructor
  · intro h
    unfold Seg at h
    split at h
    · exact h.elim
    · rename_i o ho
      exact ⟨o, ho, h⟩
  · rintro ⟨o, ho, h⟩
    unfold Seg
    rw [ho]
    exact h

/-- **a plain operation or an allocation j may come up ahead of what stands before it** -/
theorem moveN (hsel : Region.noSelect ops = true) (hK : ∀ Fs Fs' a, Fs.Perm Fs' → K Fs a → K Fs' a) {j : Nat} {oj : Oper} (hj : ops[j]? = some oj) (hjC : j ∈ Cs → j ∈ As) {w : World} (hw : Upto [] W w) {l2 : List Nat} :
    ∀ (l1 : List Nat) (Fs : List Fact) (a : Act), (∀ i ∈ l1, before ops Cs As i j = true ∧ waits ops j i = false ∧ reach ops j i = false) → DF ops j Fs w → Seg P ops W Cs As K (l1 ++ j :: l2) Fs a →
      ∃ u w' nf, Res P ops oj a w u w' ∧ NF j w w' nf ∧ Seg P ops W Cs As K (l1 ++ l2) (nf ++ Fs) (a.put oj.dst u)
  | [], Fs, a, _, hd, h => by
    obtain ⟨o, ho, h⟩ := Seg_cons.1 h
    rw [hj] at ho
    cases ho
    unfold Head at h
    split at h
    · rename_i hwt
      split at h
      · obtain ⟨obj, h1, h2⟩ := h
        exact ⟨_, _, _, by unfold Res; rw [if_pos hwt]; exact Or.inl (h1 w), Or.inr ⟨obj, rfl, rfl⟩, h2 _⟩
      · rename_i hA
        rw [if_neg (fun hc => hA (hjC hc))] at h
        obtain ⟨hp, C, hC, v, h1, h2⟩ := h
        exact ⟨v, w, [], by unfold Res; rw [if_pos hwt]; exact plain_res hp (h1 w (hC w hw hd)), Or.inl ⟨rfl, rfl⟩, h2⟩
    · rename_i hwt
      exact ⟨undef, w, [], by unfold Res; rw [if_neg hwt]; exact ⟨rfl, rfl⟩, Or.inl ⟨rfl, rfl⟩, h⟩
  | i :: l1, Fs, a, hall, hd, h => by
    obtain ⟨oi, hi, h⟩ := Seg_cons.1 h
    obtain ⟨hbf, hnw, hnr⟩ := hall i (by simp)
    have hap : oi.apart ops oj = true := by
      simp only [before, hi, hj, Bool.and_eq_true, hnw, Bool.false_or] at hbf
      exact hbf.1.2
    obtain ⟨h1, h2, h3⟩ := Oper.apart_spec hap
    have hrest : ∀ k ∈ l1, before ops Cs As k j = true ∧ waits ops j k = false ∧ reach ops j k = false := fun k hk => hall k (by simp [hk])
    have hsi := fun cs b => Region.noSelect_spec hsel i oi cs b hi
    -- what stands at i, behind j
    have hexec : ∀ u, execOp (a.put oj.dst u).eval oi = execOp a.eval oi := fun u => execOp_put oi hsi a oj.dst u h3
    have hwant : ∀ u, Region.wanted oi (yielded ops (a.put oj.dst u).tmps) = Region.wanted oi (yielded ops a.tmps) := fun u => wanted_put oi a oj.dst u h3
    have hdf : ∀ {nf : List Fact} {x}, DF ops i (nf ++ Fs) x → DF ops i Fs x := fun hx => DF_iff.2 fun f hf => DF_iff.1 hx f (by simp [hf])
    show ∃ u w' nf, Res P ops oj a w u w' ∧ NF j w w' nf ∧ Seg P ops W Cs As K (i :: (l1 ++ l2)) (nf ++ Fs) (a.put oj.dst u)
    unfold Head at h
    split at h
    · rename_i hwt
      split at h
      · rename_i hA
        obtain ⟨obj, g1, g2⟩ := h
        have ih := fun b => moveN hsel hK hj hjC hw l1 _ _ hrest (show DF ops j (⟨i, [b], fun w => w.heap[b]? = some obj⟩ :: Fs) w from ⟨(fun hr => by rw [hnr] at hr; cases hr), hd⟩) (g2 b)
        obtain ⟨u, w', nf, r1, r2, _⟩ := ih 0
        refine ⟨u, w', nf, (res_put hsel hj h1).1 r1, r2, Seg_cons.2 ⟨oi, hi, ?_⟩⟩
        unfold Head
        rw [hwant u, if_pos hwt, if_pos hA]
        refine ⟨obj, fun x => by rw [hexec u]; exact g1 x, fun b => ?_⟩
        obtain ⟨u', w'', nf', s1, s2, s3⟩ := ih b
        obtain ⟨rfl, rfl⟩ := Res.unique ((res_put hsel hj h1).1 r1) ((res_put hsel hj h1).1 s1)
        obtain rfl := NF.unique r2 s2
        rw [Act.put_comm _ _ _ h2] at s3
        exact Seg_perm hK _ _ _ _ List.perm_middle s3
      · rename_i hA
        split at h
        · rename_i hC
          rcases h with ⟨v, g1, g2⟩ | ⟨Y, mk, Φ, own, hy, g1, g2, g3, g4⟩
          · obtain ⟨u, w', nf, r1, r2, r3⟩ := moveN hsel hK hj hjC hw l1 _ _ hrest hd g2
            refine ⟨u, w', nf, (res_put hsel hj h1).1 r1, r2, Seg_cons.2 ⟨oi, hi, ?_⟩⟩
            unfold Head
            rw [hwant u, if_pos hwt, if_neg hA, if_pos hC]
            refine Or.inl ⟨v, fun x hx hdx => by rw [hexec u]; exact g1 x hx (hdf hdx), ?_⟩
            rw [Act.put_comm _ _ _ h2] at r3
            exact r3
          have ih := fun v => moveN hsel hK hj hjC hw l1 _ _ hrest (show DF ops j (⟨i, own v, Φ v⟩ :: Fs) w from ⟨(fun hr => by rw [hnr] at hr; cases hr), hd⟩) (g4 v)
          obtain ⟨y0⟩ := hy
          obtain ⟨u, w', nf, r1, r2, _⟩ := ih y0
          refine ⟨u, w', nf, (res_put hsel hj h1).1 r1, r2, Seg_cons.2 ⟨oi, hi, ?_⟩⟩
          unfold Head
          rw [hwant u, if_pos hwt, if_neg hA, if_pos hC]
          refine Or.inr ⟨Y, mk, Φ, own, ⟨y0⟩, g1, g2, fun x hx hdx => by rw [hexec u]; exact g3 x hx (hdf hdx), fun v => ?_⟩
          obtain ⟨u', w'', nf', s1, s2, s3⟩ := ih v
          obtain ⟨rfl, rfl⟩ := Res.unique ((res_put hsel hj h1).1 r1) ((res_put hsel hj h1).1 s1)
          obtain rfl := NF.unique r2 s2
          rw [Act.put_comm _ _ _ h2] at s3
          exact Seg_perm hK _ _ _ _ List.perm_middle s3
        · rename_i hC
          obtain ⟨hp, C, hC', v, g1, g2⟩ := h
          obtain ⟨u, w', nf, r1, r2, r3⟩ := moveN hsel hK hj hjC hw l1 _ _ hrest hd g2
          refine ⟨u, w', nf, (res_put hsel hj h1).1 r1, r2, Seg_cons.2 ⟨oi, hi, ?_⟩⟩
          unfold Head
          rw [hwant u, if_pos hwt, if_neg hA, if_neg hC]
          refine ⟨hp, C, fun x hx hdx => hC' x hx (hdf hdx), v, fun x hx => by unfold Oper.quietAt; rw [hexec u]; exact g1 x hx, ?_⟩
          rw [Act.put_comm _ _ _ h2] at r3
          exact r3
    · rename_i hwt
      obtain ⟨u, w', nf, r1, r2, r3⟩ := moveN hsel hK hj hjC hw l1 _ _ hrest hd h
      refine ⟨u, w', nf, (res_put hsel hj h1).1 r1, r2, Seg_cons.2 ⟨oi, hi, ?_⟩⟩
      unfold Head
      rw [hwant u, if_neg hwt]
      rw [Act.put_comm _ _ _ h2] at r3
      exact r3

def OutC (P : Program) (ops : Array Oper) (o : Oper) (a : Act) (w : World) (N : Value → World → Prop) : Prop :=
  if Region.wanted o (yielded ops a.tmps) = true then opqUpon P N ((execOp a.eval o).run P w) else N undef w
theorem OutC.mono {o : Oper} {a : Act} {w : World} {N N' : Value → World → Prop} (hh : OutC P ops o a w N) (h : ∀ u w', N u w' → N' u w') : OutC P ops o a w N' := by
  unfold OutC at *
  split
  · rename_i hw; rw [if_pos hw] at hh; exact opqUpon_mono h hh
  · rename_i hw; rw [if_neg hw] at hh; exact h _ _ hh
theorem outC_put (hsel : Region.noSelect ops = true) {j : Nat} {oj : Oper} (hj : ops[j]? = some oj) {a : Act} {dst : Option Tmp} {v : Value} (h : ∀ d, dst = some d → d ∉ oj.looksAt ops) {w : World} {N : Value → World → Prop} :
    OutC P ops oj (a.put dst v) w N ↔ OutC P ops oj a w N := by
  unfold OutC
  rw [execOp_put oj (fun cs b => Region.noSelect_spec hsel j oj cs b hj) a dst v h, wanted_put oj a dst v h]

/-- what a step has done -/
def SC (j : Nat) (w w' : World) (nf : List Fact) : Prop :=
  Upto [] w w' ∧ (nf = [] ∨ ∃ f, nf = [f] ∧ f.idx = j ∧ f.holds w' ∧ (∀ x x', f.holds x → Upto [] x x' → f.holds x') ∧ f.own.Nodup ∧ ∀ b ∈ f.own, w.heap.size ≤ b ∧ b < w'.heap.size)

theorem NF.sc {j : Nat} {w w' : World} {nf : List Fact} (h : NF j w w' nf) : SC j w w' nf := by
  rcases h with ⟨rfl, rfl⟩ | ⟨obj, rfl, rfl⟩
  · exact ⟨Upto.refl _ _, Or.inl rfl⟩
  · refine ⟨(Upto.refl _ _).alloc _, Or.inr ⟨_, rfl, rfl, ?_, ?_, ?_, ?_⟩⟩
    · show (w.heap.push obj)[w.heap.size]? = some obj
      simp
    · intro x x' hx hu
      exact (hu.block _ (Array.getElem?_eq_some_iff.1 hx).1 (by simp)).trans hx
    · simp
    · intro b hb
      simp at hb
      subst hb
      exact ⟨Nat.le_refl _, by show _ < (w.heap.push obj).size; simp⟩

/-- **a call j may come up ahead of what stands before it, if nothing that stands there is a call or an allocation** -/
theorem moveC (hsel : Region.noSelect ops = true) {j : Nat} {oj : Oper} (hj : ops[j]? = some oj) (hjC : j ∈ Cs) (hjA : j ∉ As) {w : World} (hw : Upto [] W w) {l2 : List Nat} :
    ∀ (l1 : List Nat) (Fs : List Fact) (a : Act), (∀ i ∈ l1, before ops Cs As i j = true ∧ waits ops j i = false ∧ reach ops j i = false) → DF ops j Fs w → Seg P ops W Cs As K (l1 ++ j :: l2) Fs a →
      OutC P ops oj a w fun u w' => ∃ nf, SC j w w' nf ∧ Seg P ops W Cs As K (l1 ++ l2) (nf ++ Fs) (a.put oj.dst u)
  | [], Fs, a, _, hd, h => by
    obtain ⟨o, ho, h⟩ := Seg_cons.1 h
    rw [hj] at ho
    cases ho
    unfold Head at h
    unfold OutC
    split at h
    · rename_i hwt
      rw [if_pos hwt]
      rcases h with ⟨v, h1, h2⟩ | ⟨Y, mk, Φ, own, hy, h1, h2, h3, h4⟩
      · exact opqUpon_mono (fun u x ⟨g1, g2⟩ => ⟨[], ⟨g1, Or.inl rfl⟩, by subst g2; exact h2⟩) (h1 w hw hd)
      · exact opqUpon_mono (fun v x ⟨g1, y, g0, g2, g3⟩ => ⟨[⟨j, own y, Φ y⟩], ⟨g1, Or.inr ⟨_, rfl, rfl, g2, h1 y, h2 y, g3⟩⟩, by subst g0; exact h4 y⟩) (h3 w hw hd)
    · rename_i hwt
      rw [if_neg hwt]
      exact ⟨[], ⟨Upto.refl _ _, Or.inl rfl⟩, h⟩
  | i :: l1, Fs, a, hall, hd, h => by
    obtain ⟨oi, hi, h⟩ := Seg_cons.1 h
    obtain ⟨hbf, hnw, hnr⟩ := hall i (by simp)
    have hap : oi.apart ops oj = true := by
      simp only [before, hi, hj, Bool.and_eq_true, hnw, Bool.false_or] at hbf
      exact hbf.1.2
    have hno : i ∉ Cs ∧ i ∉ As := by
      simp only [before, Bool.and_eq_true, hnr, Bool.or_false, Bool.or_eq_true, Bool.not_eq_true'] at hbf
      have := hbf.2
      have c1 : Cs.contains j = true := by simpa using hjC
      have c2 : As.contains j = false := by simpa using hjA
      rw [c1, c2] at this
      simp at this
      exact this
    obtain ⟨h1, h2, h3⟩ := Oper.apart_spec hap
    have hrest : ∀ k ∈ l1, before ops Cs As k j = true ∧ waits ops j k = false ∧ reach ops j k = false := fun k hk => hall k (by simp [hk])
    have hsi := fun cs b => Region.noSelect_spec hsel i oi cs b hi
    have hexec : ∀ u, execOp (a.put oj.dst u).eval oi = execOp a.eval oi := fun u => execOp_put oi hsi a oj.dst u h3
    have hwant : ∀ u, Region.wanted oi (yielded ops (a.put oj.dst u).tmps) = Region.wanted oi (yielded ops a.tmps) := fun u => wanted_put oi a oj.dst u h3
    have hdf : ∀ {nf : List Fact} {x}, DF ops i (nf ++ Fs) x → DF ops i Fs x := fun hx => DF_iff.2 fun f hf => DF_iff.1 hx f (by simp [hf])
    show OutC P ops oj a w fun u w' => ∃ nf, SC j w w' nf ∧ Seg P ops W Cs As K (i :: (l1 ++ l2)) (nf ++ Fs) (a.put oj.dst u)
    unfold Head at h
    split at h
    · rename_i hwt
      rw [if_neg hno.2, if_neg hno.1] at h
      obtain ⟨hp, C, hC', v, g1, g2⟩ := h
      refine ((outC_put hsel hj h1).1 (moveC hsel hj hjC hjA hw l1 _ _ hrest hd g2)).mono ?_
      rintro u w' ⟨nf, r1, r2⟩
      refine ⟨nf, r1, Seg_cons.2 ⟨oi, hi, ?_⟩⟩
      unfold Head
      rw [hwant u, if_pos hwt, if_neg hno.2, if_neg hno.1]
      refine ⟨hp, C, fun x hx hdx => hC' x hx (hdf hdx), v, fun x hx => by unfold Oper.quietAt; rw [hexec u]; exact g1 x hx, ?_⟩
      rw [Act.put_comm _ _ _ h2] at r2
      exact r2
    · rename_i hwt
      refine ((outC_put hsel hj h1).1 (moveC hsel hj hjC hjA hw l1 _ _ hrest hd h)).mono ?_
      rintro u w' ⟨nf, r1, r2⟩
      refine ⟨nf, r1, Seg_cons.2 ⟨oi, hi, ?_⟩⟩
      unfold Head
      rw [hwant u, if_neg hwt]
      rw [Act.put_comm _ _ _ h2] at r2
      exact r2

/-- what is known of the world on the way -/
structure Good (W : World) (Fs : List Fact) (w : World) : Prop where
  up : Upto [] W w
  hold : AllHold Fs w
  stab : ∀ f ∈ Fs, ∀ x x', f.holds x → Upto [] x x' → f.holds x'
  inb : ∀ f ∈ Fs, ∀ b ∈ f.own, W.heap.size ≤ b ∧ b < w.heap.size
  nodup : (ownAll Fs).Nodup

theorem Good.step {Fs nf : List Fact} {j : Nat} {w w' : World} (h : Good W Fs w) (hs : SC j w w' nf) : Good W (nf ++ Fs) w' := by
  obtain ⟨hu, hn⟩ := hs
  have hold' : AllHold Fs w' := AllHold_iff.2 fun f hf => h.stab f hf _ _ (AllHold_iff.1 h.hold f hf) hu
  have inb' : ∀ f ∈ Fs, ∀ b ∈ f.own, W.heap.size ≤ b ∧ b < w'.heap.size := fun f hf b hb => ⟨(h.inb f hf b hb).1, Nat.lt_of_lt_of_le (h.inb f hf b hb).2 hu.size⟩
  rcases hn with rfl | ⟨f, rfl, _, h2, h3, h4, h5⟩
  · exact ⟨h.up.trans_same hu, hold', h.stab, inb', h.nodup⟩
  · refine ⟨h.up.trans_same hu, ⟨h2, hold'⟩, ?_, ?_, ?_⟩
    · intro g hg
      rcases List.mem_cons.1 hg with rfl | hg
      · exact h3
      · exact h.stab g hg
    · intro g hg
      rcases List.mem_cons.1 hg with rfl | hg
      · exact fun b hb => ⟨Nat.le_trans h.up.size (h5 b hb).1, (h5 b hb).2⟩
      · exact inb' g hg
    · show (f.own ++ ownAll Fs).Nodup
      refine List.nodup_append.2 ⟨h4, h.nodup, fun b hb c hc => ?_⟩
      obtain ⟨g, hg, hgc⟩ := List.mem_flatMap.1 hc
      have h6 := (h5 b hb).1
      have h7 := (h.inb g hg c hgc).2
      omega

theorem wpOp_of_res {Q : Exit → Act → World → Prop} {j : Nat} {oj : Oper} (hj : ops[j]? = some oj) {a : Act} {w w' : World} {u : Value} {N : Act → World → Prop} (h : Res P ops oj a w u w') (hN : N (a.put oj.dst u) w') : wpOp P ops Q j N a w := by
  unfold wpOp
  rw [hj]
  unfold Res at h
  by_cases hw : Region.wanted oj (yielded ops a.tmps) = true
  · simp only [hw, if_true] at h ⊢
    refine Or.inl ?_
    unfold Oper.wp
    rcases h with h | ⟨h, rfl⟩
    · rw [h]; exact hN
    · rw [h]; exact hN
  · rw [if_neg hw] at h
    obtain ⟨rfl, rfl⟩ := h
    simp only [hw]
    exact hN
theorem wpOp_of_out {Q : Exit → Act → World → Prop} {j : Nat} {oj : Oper} (hj : ops[j]? = some oj) {a : Act} {w : World} {N : Act → World → Prop} (h : OutC P ops oj a w fun u w' => N (a.put oj.dst u) w') : wpOp P ops Q j N a w := by
  unfold wpOp
  rw [hj]
  unfold OutC at h
  by_cases hw : Region.wanted oj (yielded ops a.tmps) = true
  · simp only [hw, if_true] at h ⊢
    refine Or.inl ?_
    unfold Oper.wp
    generalize (execOp a.eval oj).run P w = r at *
    cases r with
    | ok n w' =>
      cases n <;> simp only [opqUpon] at h <;> simp only [Oper.upon]
      case value u => exact h
      case skip => exact h
      case enter f args => exact h.mono fun e w'' ⟨u, he, hp⟩ => by subst he; exact hp
    | halt x w' => simp only [opqUpon] at h
  · rw [if_neg hw] at h
    simp only [hw]
    exact h

theorem waits_true {i j : Nat} {o : Oper} (hi : ops[i]? = some o) {e : Edge} (he : e ∈ o.after) (hb : Region.binds .any e = true) (hj : e.on = j) : waits ops i j = true := by
  unfold waits
  rw [hi]
  exact Array.any_eq_true'.2 ⟨e, he, by simp [hb, hj]⟩

theorem listed_lt {listed : Array Bool} {i : Nat} (h : i < listed.size) : (listed.getD i true = false ↔ ¬ listed.getD i false = true) := by
  simp [h]

theorem foldl_move (l2 : List Nat) (j : Nat) : ∀ (l1 : List Nat) (listed : Array Bool), (∀ i ∈ l1, i ≠ j) → (l1 ++ l2).foldl (fun x i => x.setIfInBounds i true) (listed.setIfInBounds j true) = (l1 ++ j :: l2).foldl (fun x i => x.setIfInBounds i true) listed
  | [], _, _ => rfl
  | i :: l1, listed, h => by
    show (l1 ++ l2).foldl _ ((listed.setIfInBounds j true).setIfInBounds i true) = (l1 ++ j :: l2).foldl _ (listed.setIfInBounds i true)
    rw [Array.setIfInBounds_comm _ _ (Ne.symm (h i (by simp)))]
    exact foldl_move l2 j l1 _ fun k hk => h k (by simp [hk])

/-- what is asked of the walk's list -/
structure Fit (ops : Array Oper) (Cs As : List Nat) (l : List Nat) (listed : Array Bool) : Prop where
  size : listed.size = ops.size
  closed : Closed ops listed
  un : ∀ i ∈ l, i < ops.size ∧ listed.getD i false = false
  deps : ∀ i ∈ l, ∀ o, ops[i]? = some o → ∀ e ∈ o.after, Region.binds .any e = true → listed.getD e.on false = true ∨ (e.on ∈ l ∧ e.on ≠ i)
  others : ∀ k, k < ops.size → listed.getD k false = false → k ∉ l → ∀ i ∈ l, reach ops k i = true
  pairs : l.Pairwise fun i j => before ops Cs As i j = true

theorem getD_set {listed : Array Bool} {i k : Nat} (h : i < listed.size) : (listed.setIfInBounds i true).getD k false = (listed.getD k false || decide (k = i)) := by
  by_cases hk : k = i
  · subst hk; simp [h]
  · rw [getD_set_ne false (Ne.symm hk)]; simp [hk]

theorem Fit.step {l1 l2 : List Nat} {j : Nat} {oj : Oper} {listed : Array Bool} (h : Fit ops Cs As (l1 ++ j :: l2) listed) (hj : ops[j]? = some oj) (hd : ∀ e ∈ oj.after, Region.binds .any e = true → listed.getD e.on false = true) : Fit ops Cs As (l1 ++ l2) (listed.setIfInBounds j true) := by
  have hjm : j ∈ l1 ++ j :: l2 := by simp
  have hjl : j < listed.size := by rw [h.size]; exact (h.un j hjm).1
  have hsub : ∀ i ∈ l1 ++ l2, i ∈ l1 ++ j :: l2 := fun i hi => by rcases List.mem_append.1 hi with hi | hi <;> simp [hi]
  have hne : ∀ i ∈ l1 ++ l2, i ≠ j := by
    intro i hi he
    subst he
    have hp := h.pairs
    rw [List.pairwise_append] at hp
    rcases List.mem_append.1 hi with hi | hi
    · have := hp.2.2 i hi i (by simp)
      simp [before] at this
    · have := (List.pairwise_cons.1 hp.2.1).1 i hi
      simp [before] at this
  refine ⟨by simp [h.size], ?_, ?_, ?_, ?_, ?_⟩
  · intro i o ho hl e he hb
    rw [getD_set hjl] at hl ⊢
    rw [Bool.or_eq_true] at hl ⊢
    rcases hl with hl | hl
    · exact Or.inl (h.closed i o ho hl e he hb)
    · simp at hl
      subst hl
      rw [hj] at ho
      cases ho
      exact Or.inl (hd e he hb)
  · intro i hi
    refine ⟨(h.un i (hsub i hi)).1, ?_⟩
    rw [getD_set hjl, (h.un i (hsub i hi)).2]
    simp [hne i hi]
  · intro i hi o ho e he hb
    rw [getD_set hjl]
    rcases h.deps i (hsub i hi) o ho e he hb with h1 | ⟨h1, h2⟩
    · exact Or.inl (by rw [h1]; rfl)
    · by_cases hej : e.on = j
      · exact Or.inl (by simp [hej])
      · refine Or.inr ⟨?_, h2⟩
        rcases List.mem_append.1 h1 with h1 | h1
        · simp [h1]
        · rcases List.mem_cons.1 h1 with h1 | h1
          · exact absurd h1 hej
          · simp [h1]
  · intro k hk hun hkl i hi
    rw [getD_set hjl, Bool.or_eq_false_iff] at hun
    refine h.others k hk hun.1 (fun hm => ?_) i (hsub i hi)
    have hkj : k ≠ j := by simpa using hun.2
    rcases List.mem_append.1 hm with hm | hm
    · exact hkl (by simp [hm])
    · rcases List.mem_cons.1 hm with hm | hm
      · exact hkj hm
      · exact hkl (by simp [hm])
  · exact h.pairs.sublist (List.Sublist.append_left (List.sublist_cons_self _ _) _)

/-- **the walk serves every order** -/
theorem seg_any {Q : Exit → Act → World → Prop} (hsel : Region.noSelect ops = true) (hK : ∀ Fs Fs' a, Fs.Perm Fs' → K Fs a → K Fs' a) {fuelT : Nat} {listedT : Array Bool}
    (hfin : ∀ Fs a w, K Fs a → Good W Fs w → wpAny P .any ops Q fuelT listedT a w) :
    ∀ (n : Nat) (l : List Nat) (Fs : List Fact) (a : Act) (w : World) (listed : Array Bool), l.length = n → Fit ops Cs As l listed → l.foldl (fun x i => x.setIfInBounds i true) listed = listedT → Good W Fs w → Seg P ops W Cs As K l Fs a →
      wpAny P .any ops Q (n + fuelT) listed a w := by
  intro n
  induction n with
  | zero =>
    intro l Fs a w listed hl _ hT hg hs
    obtain rfl := List.length_eq_zero_iff.1 hl
    cases hT
    rw [Nat.zero_add]
    exact hfin Fs a w hs hg
  | succ n ih =>
    intro l Fs a w listed hl hF hT hg hs
    obtain ⟨i0, l', rfl⟩ : ∃ i l', l = i :: l' := by cases l with | nil => simp at hl | cons i l' => exact ⟨i, l', rfl⟩
    have h0 := hF.un i0 (by simp)
    have hr0 : i0 ∈ Region.ready .any ops listed := by
      refine mem_ready.2 ⟨(listed_lt (by rw [hF.size]; exact h0.1)).2 (by rw [h0.2]; simp), ops[i0]'h0.1, Array.getElem?_eq_getElem h0.1, fun e he hb => ?_⟩
      rcases hF.deps i0 (by simp) _ (Array.getElem?_eq_getElem h0.1) e he hb with h1 | ⟨h1, h2⟩
      · exact h1
      · have hm : e.on ∈ l' := by
          rcases List.mem_cons.1 h1 with h1 | h1
          · exact absurd h1 h2
          · exact h1
        have hp := (List.pairwise_cons.1 hF.pairs).1 _ hm
        have hwt := waits_true (Array.getElem?_eq_getElem h0.1) he hb rfl
        simp [before, hwt] at hp
    rw [Nat.succ_add]
    refine ⟨(fun hn => by rw [hn] at hr0; cases hr0), fun j hj => ?_⟩
    obtain ⟨hjun, oj, hoj, hall⟩ := mem_ready.1 hj
    have hjlt : j < ops.size := (Array.getElem?_eq_some_iff.1 hoj).1
    have hjf : listed.getD j false = false := by
      have := (listed_lt (listed := listed) (by rw [hF.size]; exact hjlt)).1 hjun
      simpa using this
    have hreach : ∀ i, reach ops j i = true → listed.getD i false = true := fun i hr => reach_listed hF.closed (j + 1) j oj (by omega) hoj hall hr
    have hjl : j ∈ i0 :: l' := by
      by_cases hm : j ∈ i0 :: l'
      · exact hm
      · have := hreach i0 (hF.others j hjlt hjf hm i0 (by simp))
        rw [h0.2] at this
        cases this
    obtain ⟨l1, l2, hsplit⟩ := List.append_of_mem hjl
    rw [hsplit] at hF hT hs hl
    have hcond : ∀ i ∈ l1, before ops Cs As i j = true ∧ waits ops j i = false ∧ reach ops j i = false := by
      intro i hi
      have hun := (hF.un i (by simp [hi])).2
      refine ⟨(List.pairwise_append.1 hF.pairs).2.2 i hi j (by simp), ?_, ?_⟩
      · cases hwt : waits ops j i with
        | false => rfl
        | true =>
          unfold waits at hwt
          rw [hoj] at hwt
          obtain ⟨e, he, hb⟩ := Array.any_eq_true'.1 hwt
          simp only [Bool.and_eq_true, beq_iff_eq] at hb
          have := hall e he hb.1
          rw [hb.2, hun] at this
          cases this
      · cases hr : reach ops j i with
        | false => rfl
        | true =>
          have := hreach i hr
          rw [hun] at this
          cases this
    have hne : ∀ i ∈ l1, i ≠ j := fun i hi he => by
      have := (hcond i hi).1
      simp [before, he] at this
    have hdf : DF ops j Fs w := DF_iff.2 fun f hf _ => AllHold_iff.1 hg.hold f hf
    have hF' := hF.step hoj hall
    have hT' : (l1 ++ l2).foldl (fun x i => x.setIfInBounds i true) (listed.setIfInBounds j true) = listedT := by rw [foldl_move l2 j l1 listed hne]; exact hT
    have hl' : (l1 ++ l2).length = n := by
      simp at hl ⊢
      omega
    by_cases hjc : j ∈ Cs ∧ j ∉ As
    · refine wpOp_of_out hoj ((moveC hsel hoj hjc.1 hjc.2 hg.up l1 Fs a hcond hdf hs).mono ?_)
      rintro u w' ⟨nf, h1, h2⟩
      exact ih _ _ _ _ _ hl' hF' hT' (hg.step h1) h2
    · obtain ⟨u, w', nf, h1, h2, h3⟩ := moveN hsel hK hoj (fun hc => by
        refine Classical.byContradiction fun hn => hjc ⟨hc, hn⟩) hg.up l1 Fs a hcond hdf hs
      exact wpOp_of_res hoj h1 (ih _ _ _ _ _ hl' hF' hT' (hg.step h2.sc) h3)

theorem Good.perm {Fs Fs' : List Fact} {w : World} (hp : Fs.Perm Fs') (h : Good W Fs' w) : Good W Fs w :=
  ⟨h.up, AllHold_iff.2 fun f hf => AllHold_iff.1 h.hold f (hp.mem_iff.1 hf), fun f hf => h.stab f (hp.mem_iff.1 hf), fun f hf => h.inb f (hp.mem_iff.1 hf), (hp.flatMap_right _).nodup_iff.2 h.nodup⟩

def tailB (ops : Array Oper) : Array Bool → List Nat → Bool
  | listed, [] => (Region.ready .any ops listed).isEmpty
  | listed, i :: l => (Region.ready .any ops listed == [i]) && tailB ops (listed.setIfInBounds i true) l
theorem wpAny_tail {Q : Exit → Act → World → Prop} : ∀ (l : List Nat) (listed : Array Bool) (a : Act) (w : World), tailB ops listed l = true → wpOps P ops Q l a w → wpAny P .any ops Q l.length listed a w
  | [], listed, a, w, hB, h => ⟨by simpa [tailB] using hB, h⟩
  | i :: l, listed, a, w, hB, h => by
    simp only [tailB, Bool.and_eq_true, beq_iff_eq] at hB
    refine ⟨(fun hn => by rw [hB.1] at hn; cases hn), fun j hj => ?_⟩
    rw [hB.1] at hj
    obtain rfl := List.mem_singleton.1 hj
    rw [wpOps_cons] at h
    exact wpOp_mono (fun a' w' h' => wpAny_tail l _ a' w' hB.2 h') h
theorem wpOps_list {Q : Exit → Act → World → Prop} : ∀ (l : List Nat) (os : List Oper), l.map (fun i => ops[i]?) = os.map some → wpOps P ops Q l = wpList P ops Q os
  | [], [], _ => by funext a w; simp [wpOps, wpList]
  | [], _ :: _, h => by simp at h
  | _ :: _, [], h => by simp at h
  | i :: l, o :: os, h => by
    simp only [List.map_cons, List.cons.injEq] at h
    funext a w
    simp only [wpOps, wpList, h.1, wpOps_list l os h.2]

def pairsB (ops : Array Oper) (Cs As : List Nat) : List Nat → Bool
  | [] => true
  | i :: l => l.all (fun j => before ops Cs As i j) && pairsB ops Cs As l
theorem pairsB_spec : ∀ (l : List Nat), pairsB ops Cs As l = true → l.Pairwise fun i j => before ops Cs As i j = true
  | [], _ => List.Pairwise.nil
  | i :: l, h => by
    simp only [pairsB, Bool.and_eq_true, List.all_eq_true] at h
    exact List.Pairwise.cons h.1 (pairsB_spec l h.2)

def segB (ops : Array Oper) (Cs As ord tail : List Nat) : Bool :=
  Region.noSelect ops && pairsB ops Cs As ord && (ord.length + tail.length == ops.size) &&
  ord.all (fun i => match ops[i]? with | some o => o.after.all fun e => !(Region.binds .any e) || (ord.contains e.on && e.on != i) | none => false) &&
  (List.range ops.size).all (fun k => ord.contains k || ord.all fun i => reach ops k i) &&
  tailB ops (ord.foldl (fun x i => x.setIfInBounds i true) (Array.replicate ops.size false)) tail

/-- **A REGION THAT DRAWS ITS ORDER**: ord: all operations but the last ones, in the order of the walk; tail: the last ones, which wait for all others and for one another. -/
theorem wp_region_seg {id : Nat} {Q : Exit → Act → World → Prop} {a : Act} {w : World} {l : List Oper} (Cs As ord tail : List Nat) (tl : List Oper) (hm : P.follows .mixedOrders = true)
    (hB : segB l.toArray Cs As ord tail = true) (ht : tail.map (fun i => l.toArray[i]?) = tl.map some)
    (h : Seg P l.toArray w Cs As (fun Fs a' => ∀ w', Good w Fs w' → wpList P l.toArray Q tl a' w') ord [] a) : (Code.region id l.toArray true).wp P Q a w := by
  simp only [segB, Bool.and_eq_true, List.all_eq_true, beq_iff_eq] at hB
  obtain ⟨⟨⟨⟨⟨h1, h2⟩, h3⟩, h4⟩, h5⟩, h6⟩ := hB
  refine wp_region_any hm ?_
  have hrep : ∀ k, (Array.replicate l.toArray.size false).getD k false = false := by
    intro k
    simp [Array.getD]
  have hs := seg_any (P := P) (ops := l.toArray) (W := w) (Cs := Cs) (As := As) (Q := Q) (K := fun Fs a' => ∀ w', Good w Fs w' → wpList P l.toArray Q tl a' w') h1 (fun Fs Fs' a hp hk w' hg => hk w' (hg.perm hp)) (fuelT := tail.length)
    (listedT := ord.foldl (fun x i => x.setIfInBounds i true) (Array.replicate l.toArray.size false))
    (fun Fs a w' hk hg => wpAny_tail tail _ a w' h6 (by rw [wpOps_list tail tl ht]; exact hk w' hg)) ord.length ord [] a { w with drawn := w.drawn + 1 } (Array.replicate l.toArray.size false) rfl ?_ rfl ⟨(Upto.refl [] w).drew, trivial, (by simp), (by simp), (by simp [ownAll])⟩ h
  · rw [h3] at hs
    exact hs
  · refine ⟨by simp, ?_, ?_, ?_, ?_, pairsB_spec _ h2⟩
    · intro i o _ hl
      rw [hrep] at hl
      cases hl
    · intro i hi
      refine ⟨?_, hrep i⟩
      have := h4 i hi
      split at this
      · rename_i o ho
        exact (Array.getElem?_eq_some_iff.1 ho).1
      · cases this
    · intro i hi o ho e he hb
      have := h4 i hi
      rw [ho] at this
      have := Array.all_eq_true_iff_forall_mem.1 this e he
      rw [hb] at this
      simp at this
      exact Or.inr this
    · intro k hk _ hn i hi
      have := h5 k (List.mem_range.2 hk)
      simp [hn] at this
      exact this i hi

/-- .. where the last ones stand at the end of the text: n operations ahead of them -/
theorem wp_region_seg_at {id : Nat} {Q : Exit → Act → World → Prop} {a : Act} {w : World} {l : List Oper} (Cs As ord tail : List Nat) (n : Nat) (hm : P.follows .mixedOrders = true)
    (hB : segB l.toArray Cs As ord tail = true) (ht : (tail == (List.range l.length).drop n) = true)
    (h : Seg P l.toArray w Cs As (fun Fs a' => ∀ w', Good w Fs w' → wpList P l.toArray Q (l.drop n) a' w') ord [] a) : (Code.region id l.toArray true).wp P Q a w :=
  wp_region_seg Cs As ord tail _ hm hB (by
    rw [beq_iff_eq] at ht
    subst ht
    apply List.ext_getElem?
    intro i
    by_cases hi : n + i < l.length
    · simp [List.getElem?_drop, List.getElem?_range, hi]
    · simp [List.getElem?_drop, hi, List.getElem?_eq_none (Nat.le_of_not_lt hi)]) h

/-- .. where there are no last ones -/
theorem wp_region_seg_all {id : Nat} {Q : Exit → Act → World → Prop} {a : Act} {w : World} {l : List Oper} (Cs As ord : List Nat) (hm : P.follows .mixedOrders = true)
    (hB : segB l.toArray Cs As ord [] = true) (h : Seg P l.toArray w Cs As (fun Fs a' => ∀ w', Good w Fs w' → Q .normal a' w') ord [] a) : (Code.region id l.toArray true).wp P Q a w :=
  wp_region_seg Cs As ord [] [] hm hB rfl h

/-- operations that yield in whatever world, taken ahead of all others -/
def wpPre (P : Program) (ops : Array Oper) (K : Act → Prop) : List Nat → Act → Prop
  | [], a => K a
  | i :: l, a => ∃ o, ops[i]? = some o ∧ Region.wanted o (yielded ops a.tmps) = true ∧ plainOp o = true ∧ o.quiet P a (fun _ => True) (wpPre P ops K l)
def preB (ops : Array Oper) : List Nat → Array Bool → Bool
  | [], _ => true
  | i :: l, listed => Region.free .any ops listed i && (Region.ready .any ops listed).contains i && preB ops l (listed.setIfInBounds i true)

theorem pre_any {Q : Exit → Act → World → Prop} (hQ : ∀ c a d v w, Q (.panic c) (Act.put a d v) w → Q (.panic c) a w) (hs : Region.noSelect ops = true) {K : Act → Prop} {w : World} {fuel : Nat} {listedT : Array Bool}
    (hK : ∀ a, K a → wpAny P .any ops Q fuel listedT a w) :
    ∀ (l : List Nat) (listed : Array Bool) (a : Act), preB ops l listed = true → l.foldl (fun x i => x.setIfInBounds i true) listed = listedT → wpPre P ops K l a → wpAny P .any ops Q (l.length + fuel) listed a w
  | [], listed, a, _, hT, h => by cases hT; simpa using hK a h
  | i :: l, listed, a, hB, hT, h => by
    obtain ⟨o, ho, hw, hp, v, h1, h2⟩ := h
    simp only [preB, Bool.and_eq_true] at hB
    rw [List.length_cons, Nat.succ_add]
    refine wpAny_take ho hs hB.1.1 hB.1.2 (fun c a w h => hQ c a _ _ w h) (Or.inl ⟨hw, fun x => ?_⟩) (pre_any hQ hs hK l _ _ hB.2 hT h2)
    exact plain_val hp (h1 x trivial)

def closedB (ops : Array Oper) (pre : List Nat) : Bool :=
  (List.range ops.size).all fun i => !(pre.contains i) || (match ops[i]? with | some o => o.after.all fun e => !(Region.binds .any e) || pre.contains e.on | none => true)
def segPB (ops : Array Oper) (Cs As pre ord tail : List Nat) : Bool :=
  Region.noSelect ops && pairsB ops Cs As ord && (pre.length + (ord.length + tail.length) == ops.size) && preB ops pre (Array.replicate ops.size false) && closedB ops pre && pre.all (fun i => decide (i < ops.size)) &&
  ord.all (fun i => !(pre.contains i) && match ops[i]? with | some o => o.after.all fun e => !(Region.binds .any e) || pre.contains e.on || (ord.contains e.on && e.on != i) | none => false) &&
  (List.range ops.size).all (fun k => pre.contains k || ord.contains k || ord.all fun i => reach ops k i) &&
  tailB ops (ord.foldl (fun x i => x.setIfInBounds i true) (pre.foldl (fun x i => x.setIfInBounds i true) (Array.replicate ops.size false))) tail

theorem foldl_getD (l : List Nat) : ∀ (listed : Array Bool) (k : Nat), (∀ i ∈ l, i < listed.size) → (l.foldl (fun x i => x.setIfInBounds i true) listed).getD k false = (listed.getD k false || l.contains k) := by
  induction l with
  | nil => intro listed k _; simp
  | cons i l ih =>
    intro listed k h
    rw [List.foldl_cons, ih _ _ (by intro j hj; rw [Array.size_setIfInBounds]; exact h j (by simp [hj])), getD_set (h i (by simp)), List.contains_cons, Bool.or_assoc]
    congr 1
theorem foldl_size (l : List Nat) : ∀ (listed : Array Bool), (l.foldl (fun x i => x.setIfInBounds i true) listed).size = listed.size := by
  induction l with
  | nil => intro listed; rfl
  | cons i l ih => intro listed; rw [List.foldl_cons, ih, Array.size_setIfInBounds]

/-- .. with operations that yield in whatever world, taken first (pre) -/
theorem wp_region_segP {id : Nat} {Q : Exit → Act → World → Prop} {a : Act} {w : World} {l : List Oper} (Cs As pre ord tail : List Nat) (tl : List Oper) (hQ : ∀ c a d v w, Q (.panic c) (Act.put a d v) w → Q (.panic c) a w) (hm : P.follows .mixedOrders = true)
    (hB : segPB l.toArray Cs As pre ord tail = true) (ht : tail.map (fun i => l.toArray[i]?) = tl.map some)
    (h : wpPre P l.toArray (Seg P l.toArray w Cs As (fun Fs a' => ∀ w', Good w Fs w' → wpList P l.toArray Q tl a' w') ord []) pre a) : (Code.region id l.toArray true).wp P Q a w := by
  simp only [segPB, Bool.and_eq_true, List.all_eq_true, beq_iff_eq] at hB
  obtain ⟨⟨⟨⟨⟨⟨⟨⟨h1, h2⟩, h3⟩, hp1⟩, hp2⟩, hp3⟩, h4⟩, h5⟩, h6⟩ := hB
  refine wp_region_any hm ?_
  have hrep : ∀ k, (Array.replicate l.toArray.size false).getD k false = false := by
    intro k
    simp [Array.getD]
  have hin : ∀ i ∈ pre, i < (Array.replicate l.toArray.size false).size := fun i hi => by
    have := hp3 i hi
    simpa using this
  have hl0 : ∀ k, (pre.foldl (fun x i => x.setIfInBounds i true) (Array.replicate l.toArray.size false)).getD k false = pre.contains k := fun k => by
    rw [foldl_getD _ _ _ hin, hrep, Bool.false_or]
  have main := pre_any (P := P) (ops := l.toArray) (Q := Q) hQ h1 (w := { w with drawn := w.drawn + 1 }) (fuel := ord.length + tail.length) (listedT := pre.foldl (fun x i => x.setIfInBounds i true) (Array.replicate l.toArray.size false))
    (K := Seg P l.toArray w Cs As (fun Fs a' => ∀ w', Good w Fs w' → wpList P l.toArray Q tl a' w') ord []) (fun a hs => ?_) pre _ a hp1 rfl h
  · rw [h3] at main
    exact main
  refine seg_any (P := P) (ops := l.toArray) (W := w) (Cs := Cs) (As := As) (Q := Q) (K := fun Fs a' => ∀ w', Good w Fs w' → wpList P l.toArray Q tl a' w') h1 (fun Fs Fs' a hp hk w' hg => hk w' (hg.perm hp)) (fuelT := tail.length)
    (listedT := ord.foldl (fun x i => x.setIfInBounds i true) (pre.foldl (fun x i => x.setIfInBounds i true) (Array.replicate l.toArray.size false)))
    (fun Fs a w' hk hg => wpAny_tail tail _ a w' h6 (by rw [wpOps_list tail tl ht]; exact hk w' hg)) ord.length ord [] a _ _ rfl ?_ rfl ⟨(Upto.refl [] w).drew, trivial, (by simp), (by simp), (by simp [ownAll])⟩ hs
  refine ⟨by rw [foldl_size]; simp, ?_, ?_, ?_, ?_, pairsB_spec _ h2⟩
  · intro i o ho hl e he hb
    rw [hl0] at hl ⊢
    have := List.all_eq_true.1 hp2 i (List.mem_range.2 (Array.getElem?_eq_some_iff.1 ho).1)
    rw [hl, ho, Bool.not_true, Bool.false_or] at this
    have := Array.all_eq_true_iff_forall_mem.1 this e he
    rw [hb] at this
    simpa using this
  · intro i hi
    have := h4 i hi
    refine ⟨?_, by rw [hl0]; simpa using this.1⟩
    have := this.2
    split at this
    · rename_i o ho
      exact (Array.getElem?_eq_some_iff.1 ho).1
    · cases this
  · intro i hi o ho e he hb
    have := (h4 i hi).2
    rw [ho] at this
    have := Array.all_eq_true_iff_forall_mem.1 this e he
    rw [hb] at this
    rw [hl0]
    simpa using this
  · intro k hk hu hn i hi
    rw [hl0] at hu
    have := h5 k (List.mem_range.2 hk)
    rw [hu] at this
    simp [hn] at this
    exact this i hi
theorem wp_region_segP_at {id : Nat} {Q : Exit → Act → World → Prop} {a : Act} {w : World} {l : List Oper} (Cs As pre ord tail : List Nat) (n : Nat) (hQ : ∀ c a d v w, Q (.panic c) (Act.put a d v) w → Q (.panic c) a w) (hm : P.follows .mixedOrders = true)
    (hB : segPB l.toArray Cs As pre ord tail = true) (ht : (tail == (List.range l.length).drop n) = true)
    (h : wpPre P l.toArray (Seg P l.toArray w Cs As (fun Fs a' => ∀ w', Good w Fs w' → wpList P l.toArray Q (l.drop n) a' w') ord []) pre a) : (Code.region id l.toArray true).wp P Q a w :=
  wp_region_segP Cs As pre ord tail _ hQ hm hB (by
    rw [beq_iff_eq] at ht
    subst ht
    apply List.ext_getElem?
    intro i
    by_cases hi : n + i < l.length
    · simp [List.getElem?_drop, List.getElem?_range, hi]
    · simp [List.getElem?_drop, hi, List.getElem?_eq_none (Nat.le_of_not_lt hi)]) h

/-! the moves -/
def opAt : List Oper → Nat → Option Oper
  | [], _ => none
  | o :: _, 0 => some o
  | _ :: l, n + 1 => opAt l n
theorem opAt_eq : ∀ (l : List Oper) (i : Nat), opAt l i = l.toArray[i]?
  | [], i => by simp [opAt]
  | o :: l, 0 => by simp [opAt]
  | o :: l, n + 1 => by simp [opAt, opAt_eq l n]

theorem pre_plain {ol : List Oper} {K : Act → Prop} {i : Nat} {l : List Nat} {a : Act} {o : Oper} (hi : opAt ol i = some o) (hp : plainOp o = true) (hw : Region.wanted o (yielded ol.toArray a.tmps) = true)
    (h : ∀ K' : Act → Prop, (∀ a, wpPre P ol.toArray K l a → K' a) → o.quiet P a (fun _ => True) K') : wpPre P ol.toArray K (i :: l) a :=
  ⟨o, (opAt_eq ol i).symm.trans hi, hw, hp, h _ fun _ h => h⟩
theorem seg_plain {ol : List Oper} {i : Nat} {l : List Nat} {Fs : List Fact} {a : Act} {o : Oper} (hi : opAt ol i = some o) (hA : As.contains i = false) (hC : Cs.contains i = false) (hp : plainOp o = true) (hw : Region.wanted o (yielded ol.toArray a.tmps) = true)
    (h : ∀ K' : Act → Prop, (∀ a, Seg P ol.toArray W Cs As K l Fs a → K' a) → o.quiet P a (fun w' => ∃ u : Ext W, w' = u.w) K') : Seg P ol.toArray W Cs As K (i :: l) Fs a :=
  Seg_cons.2 ⟨o, (opAt_eq ol i).symm.trans hi, by
    unfold Head
    rw [if_pos hw, if_neg (by simpa using hA), if_neg (by simpa using hC)]
    exact ⟨hp, _, fun w' hw' _ => ⟨Ext.mk hw', rfl⟩, h _ fun _ h => h⟩⟩
theorem seg_alloc {ol : List Oper} {i : Nat} {l : List Nat} {Fs : List Fact} {a : Act} {o : Oper} (obj : Obj) (hi : opAt ol i = some o) (hA : As.contains i = true) (hw : Region.wanted o (yielded ol.toArray a.tmps) = true)
    (hr : ∀ w, (execOp a.eval o).run P w = .ok (.value (.pointer (some ⟨w.heap.size, 0, none⟩))) (w.alloc obj))
    (h : ∀ b, Seg P ol.toArray W Cs As K l (⟨i, [b], fun w => w.heap[b]? = some obj⟩ :: Fs) (a.put o.dst (.pointer (some ⟨b, 0, none⟩)))) : Seg P ol.toArray W Cs As K (i :: l) Fs a :=
  Seg_cons.2 ⟨o, (opAt_eq ol i).symm.trans hi, by
    unfold Head
    rw [if_pos hw, if_pos (by simpa using hA)]
    exact ⟨obj, hr, h⟩⟩
theorem seg_val {ol : List Oper} {i : Nat} {l : List Nat} {Fs : List Fact} {a : Act} {o : Oper} (v : Value) (hi : opAt ol i = some o) (hA : As.contains i = false) (hC : Cs.contains i = true) (hw : Region.wanted o (yielded ol.toArray a.tmps) = true)
    (hr : ∀ w post, Upto [] W w → DF ol.toArray i Fs w → (∀ w', Upto [] w w' → post v w') → opqUpon P post ((execOp a.eval o).run P w))
    (h : Seg P ol.toArray W Cs As K l Fs (a.put o.dst v)) : Seg P ol.toArray W Cs As K (i :: l) Fs a :=
  Seg_cons.2 ⟨o, (opAt_eq ol i).symm.trans hi, by
    unfold Head
    rw [if_pos hw, if_neg (by simpa using hA), if_pos (by simpa using hC)]
    exact Or.inl ⟨v, fun w hu hd => hr w _ hu hd fun w' h' => ⟨h', rfl⟩, h⟩⟩
theorem seg_opq {ol : List Oper} {i : Nat} {l : List Nat} {Fs : List Fact} {a : Act} {o : Oper} {Y : Type} [hY : Nonempty Y] (mk : Y → Value) (Φ : Y → World → Prop) (own : Y → List Nat) (hi : opAt ol i = some o) (hA : As.contains i = false) (hC : Cs.contains i = true) (hw : Region.wanted o (yielded ol.toArray a.tmps) = true)
    (hs : ∀ y w w', Φ y w → Upto [] w w' → Φ y w') (hn : ∀ y, (own y).Nodup)
    (hr : ∀ w post, Upto [] W w → DF ol.toArray i Fs w → (∀ y w', Upto [] w w' → Φ y w' → (∀ b ∈ own y, w.heap.size ≤ b ∧ b < w'.heap.size) → post (mk y) w') → opqUpon P post ((execOp a.eval o).run P w))
    (h : ∀ y, Seg P ol.toArray W Cs As K l (⟨i, own y, Φ y⟩ :: Fs) (a.put o.dst (mk y))) : Seg P ol.toArray W Cs As K (i :: l) Fs a :=
  Seg_cons.2 ⟨o, (opAt_eq ol i).symm.trans hi, by
    unfold Head
    rw [if_pos hw, if_neg (by simpa using hA), if_pos (by simpa using hC)]
    exact Or.inr ⟨Y, mk, Φ, own, hY, hs, hn, fun w hu hd => hr w _ hu hd fun y w' h1 h2 h3 => ⟨h1, y, rfl, h2, h3⟩, h⟩⟩
/-- a call whose value is known -/
theorem seg_call {ol : List Oper} {i : Nat} {l : List Nat} {Fs : List Fact} {a : Act} {o : Oper} {v : Value} {f : FuncId} {args : Array Value} (hi : opAt ol i = some o) (hA : As.contains i = false) (hC : Cs.contains i = true) (hw : Region.wanted o (yielded ol.toArray a.tmps) = true)
    (hr : ∀ w, (execOp a.eval o).run P w = .ok (.enter f args) w) (hc : ∀ w, Upto [] W w → DF ol.toArray i Fs w → Calls P f args w fun e w' => e = .returned v ∧ Upto [] w w')
    (h : Seg P ol.toArray W Cs As K l Fs (a.put o.dst v)) : Seg P ol.toArray W Cs As K (i :: l) Fs a :=
  seg_val v hi hA hC hw (fun w post hu hd hp => by rw [hr w]; exact (hc w hu hd).mono fun e w' ⟨h1, h2⟩ => ⟨_, h1, hp _ h2⟩) h
/-- a call of whose value only a fact is known -/
theorem seg_callO {ol : List Oper} {i : Nat} {l : List Nat} {Fs : List Fact} {a : Act} {o : Oper} {f : FuncId} {args : Array Value} {Y : Type} [hY : Nonempty Y] (mk : Y → Value) (Φ : Y → World → Prop) (own : Y → List Nat) (hi : opAt ol i = some o) (hA : As.contains i = false) (hC : Cs.contains i = true) (hw : Region.wanted o (yielded ol.toArray a.tmps) = true)
    (hs : ∀ y w w', Φ y w → Upto [] w w' → Φ y w') (hn : ∀ y, (own y).Nodup)
    (hr : ∀ w, (execOp a.eval o).run P w = .ok (.enter f args) w)
    (hc : ∀ w, Upto [] W w → DF ol.toArray i Fs w → Calls P f args w fun e w' => ∃ y, e = .returned (mk y) ∧ Upto [] w w' ∧ Φ y w' ∧ ∀ b ∈ own y, w.heap.size ≤ b ∧ b < w'.heap.size)
    (h : ∀ y, Seg P ol.toArray W Cs As K l (⟨i, own y, Φ y⟩ :: Fs) (a.put o.dst (mk y))) : Seg P ol.toArray W Cs As K (i :: l) Fs a :=
  seg_opq mk Φ own hi hA hC hw hs hn (fun w post hu hd hp => by rw [hr w]; exact (hc w hu hd).mono fun e w' ⟨y, h1, h2, h3, h4⟩ => ⟨_, h1, hp _ _ h2 h3 h4⟩) h
end
end Go.PL


namespace Go.Proofs.YtkhbpebpljdifaaDoor
open Go.RowKit Go.PL Go.Maps

theorem Keys.upto {S : List Nat} {w w' : World} {v : Value} (h : Keys w v) (hu : Upto S w w') (hS : ∀ g ∈ S, ∃ cs t z, w.heap[g]? = some (.cells cs t z)) : Keys w' v := by
  obtain ⟨b, h1, h2⟩ := h
  refine ⟨b, h1, h2.upto hu (fun hm => ?_)⟩
  obtain ⟨cs, t, z, hc⟩ := hS b hm
  obtain ⟨es, c, h3, _⟩ := h2
  rw [hc] at h3
  cases h3

/-- the lexer's memory: the result's place, the position, the set of keywords, the tokens so far -/
structure TkM (w : World) (B3 B7 : Nat) (m : Value) (acc : List Tok) (l : Value) (L c : Nat) (wr : World) : Prop where
  row : wr.ownsRow 0 36 5 l acc.length (acc.flatMap tkC)
  own : ∀ g, l.ownBlock = some g → w.heap.size ≤ g
  b3 : wr.heap[B3]? = some (.cells #[.int .i64 0, .int .i64 0] 24 (0, 0))
  b7 : wr.heap[B7]? = some (.cells #[.int .i64 L, .int .i64 c] 24 (0, 0))
  up : Upto [] w wr
  keys : Keys wr m
  env : Env wr
  n3 : w.heap.size ≤ B3
  n7 : w.heap.size ≤ B7
  ne : B3 ≠ B7

section
variable {w wr wr' : World} {B3 B7 : Nat} {m : Value} {acc : List Tok} {l : Value} {L c : Nat}
theorem TkM.ext (h : TkM w B3 B7 m acc l L c wr) (hu : Upto [] wr wr') : TkM w B3 B7 m acc l L c wr' :=
  ⟨ownsRow_upto h.row hu (by simp), h.own, hu.at h.b3 (by simp), hu.at h.b7 (by simp), h.up.trans_ext hu, h.keys.ext hu, h.env.ext hu, h.n3, h.n7, h.ne⟩
theorem TkM.no7 (h : TkM w B3 B7 m acc l L c wr) : ∀ g, l.ownBlock = some g → g ≠ B7 ∧ g ≠ B3 := fun g hg =>
  ⟨fun e => row_ne h.row (g := g) (Option.mem_toList.2 hg) (cs := #[.int .i64 L, .int .i64 c]) (t := 24) (fz := (0, 0)) (by rw [e]; exact h.b7) (by decide), fun e => row_ne h.row (g := g) (Option.mem_toList.2 hg) (cs := #[.int .i64 0, .int .i64 0]) (t := 24) (fz := (0, 0)) (by rw [e]; exact h.b3) (by decide)⟩
/-- the facts of the world stay where only new blocks are written -/
theorem Env.upto {S : List Nat} {w0 w1 w2 : World} (h : Env w0) (h1 : Upto [] w0 w1) (h2 : Upto S w1 w2) (hS : ∀ k ∈ S, w0.heap.size ≤ k) : Env w2 := h.ext (h1.trans h2 (fun k hk => Or.inr (hS k hk)))
theorem TkM.set (h : TkM w B3 B7 m acc l L c wr) (h0 : Env w) {L' c' : Nat} (hu : Upto [B7] wr wr') (hb : wr'.heap[B7]? = some (.cells #[.int .i64 L', .int .i64 c'] 24 (0, 0))) : TkM w B3 B7 m acc l L' c' wr' := by
  refine ⟨ownsRow_upto h.row hu (fun g hg => by simpa using (h.no7 g hg).1), h.own, hu.at h.b3 (by simpa using h.ne), hb, h.up.trans hu (fun k hk => by simp at hk; subst hk; exact Or.inr h.n7), h.keys.upto hu (fun g hg => by simp at hg; subst hg; exact ⟨_, _, _, h.b7⟩), h0.upto h.up hu (fun k hk => by simp at hk; subst hk; exact h.n7), h.n3, h.n7, h.ne⟩
theorem TkM.at (h : TkM w B3 B7 m acc l L c wr) (h0 : Env w) (c' : Nat) : TkM w B3 B7 m acc l L c' ((wr.setCell ⟨B7, 0, none⟩ (.int .i64 L)).setCell ⟨B7, 1, none⟩ (.int .i64 c')) :=
  h.set h0 (((Upto.refl _ wr).setCell (Or.inl (by simp)) _).setCell (Or.inl (by simp)) _) (by
    have := set_same (set_same h.b7 0 (.int .i64 L)) 1 (.int .i64 c')
    simpa using this)
theorem TkM.line (h : TkM w B3 B7 m acc l L c wr) (h0 : Env w) (L' : Nat) : TkM w B3 B7 m acc l L' c (wr.setCell ⟨B7, 0, none⟩ (.int .i64 L')) :=
  h.set h0 ((Upto.refl _ wr).setCell (Or.inl (by simp)) _) (by
    have := set_same h.b7 0 (.int .i64 L')
    simpa using this)
/-- one token more -/
theorem TkM.app {t : Tok} {src : Obj} {n' : Nat} {b' : Option Addr} {c' : Nat} (h : TkM w B3 B7 m acc l L c wr) (h0 : Env w) (hn : n' = acc.length + 1)
    (ho : wr'.ownsRow 0 36 5 (.slice b' n' c') n' (acc.flatMap tkC ++ tkC t)) (hu : Upto l.ownBlock.toList (wr.alloc src) wr') (hw : ∀ g, (Value.slice b' n' c').ownBlock = some g → l.ownBlock = some g ∨ (wr.alloc src).heap.size ≤ g) :
    TkM w B3 B7 m (acc ++ [t]) (.slice b' (acc.length + 1) c') L c wr' := by
  subst hn
  have h' := h.ext ((Upto.refl [] wr).alloc src)
  have hs : w.heap.size ≤ (wr.alloc src).heap.size := h'.up.size
  have hS : ∀ k ∈ l.ownBlock.toList, w.heap.size ≤ k := fun k hk => h.own k (Option.mem_toList.1 hk)
  refine ⟨?_, fun g hg => (hw g hg).elim (h.own g) (fun h => Nat.le_trans hs h), hu.at h'.b3 (fun hm => (h'.no7 B3 (Option.mem_toList.1 hm)).2 rfl), hu.at h'.b7 (fun hm => (h'.no7 B7 (Option.mem_toList.1 hm)).1 rfl), h'.up.trans hu (fun k hk => Or.inr (hS k hk)), h'.keys.upto hu (fun g hg => ?_), h0.upto h'.up hu hS, h.n3, h.n7, h.ne⟩
  · rw [toks_snoc]
    simpa using ho
  · obtain ⟨cur, hc⟩ := ownsRow_block h'.row (Option.mem_toList.1 hg)
    exact ⟨_, _, _, hc⟩
theorem TkM.fin (h : TkM w B3 B7 m acc l L c wr) (x y : Value) : Toks ((wr.setCell ⟨B3, 0, none⟩ x).setCell ⟨B3, 1, none⟩ y) l acc ∧ Upto [] w ((wr.setCell ⟨B3, 0, none⟩ x).setCell ⟨B3, 1, none⟩ y) := by
  have hu : Upto [B3] wr ((wr.setCell ⟨B3, 0, none⟩ x).setCell ⟨B3, 1, none⟩ y) := ((Upto.refl _ wr).setCell (Or.inl (by simp)) _).setCell (Or.inl (by simp)) _
  refine ⟨(Toks.of_row h.row).upto hu (fun g o n c' e hg => ?_), h.up.trans hu (fun k hk => by simp at hk; subst hk; exact Or.inr h.n3)⟩
  rcases h.row.2 with ⟨rfl, -⟩ | ⟨g', cap, cur, rfl, -⟩
  · cases e
  · cases e
    exact (h.no7 g rfl).2 (by simpa using hg)
end

/-- the cells of a new block -/
theorem cells_at {w : World} {B : Nat} {l : List Value} {t : TypeId} {fr : Nat × Nat} (hb : w.heap[B]? = some (.cells l.toArray t fr)) : ∀ (j : Nat) (u : Value), l[j]? = some u → w.cell? ((⟨B, 0, none⟩ : Addr).add j) = some u := by
  intro j u hj
  simp only [Addr.add_lit, Nat.zero_add]
  rw [cell_of hb]
  simpa using hj
theorem tkC_one {t : Tok} : ∀ u ∈ tkC t, u.oneCell' = true := by
  intro u h
  simp only [tkC, List.mem_cons, List.not_mem_nil, or_false] at h
  rcases h with rfl | rfl | rfl | rfl | rfl <;> rfl

/-- what Tokenize comes to -/
def TokR (s : List UInt8) (e : Ending) (w' : World) : Prop :=
  (∃ ts v, lexT s = .ok ts ∧ e = .returned (.tuple #[v, .agg #[.int .i64 0, .int .i64 0], .int .i64 0]) ∧ Toks w' v ts) ∨
  ∃ l c n : Nat, lexT s = .error (l, c, n) ∧ n ≠ 0 ∧ e = .returned (.tuple #[.slice none 0 0, .agg #[.int .i64 l, .int .i64 c], .int .i64 n])

theorem ext_from {s : List UInt8} (k : Nat) : (ByteArray.mk s.toArray).extract k s.length = ⟨(s.drop k).toArray⟩ := by
  rw [ByteArray.extract_mk, List.take_of_length_le (by simp)]
theorem ext_to {s : List UInt8} (k n : Nat) : (ByteArray.mk s.toArray).extract k (k + n) = ⟨((s.drop k).take n).toArray⟩ := by
  rw [ByteArray.extract_mk, Nat.add_sub_cancel_left]
theorem drop_at {s : List UInt8} {k : Nat} {b : UInt8} (h : s[k]? = some b) : s.drop k = b :: s.drop (k + 1) := by
  obtain ⟨h1, h2⟩ := List.getElem?_eq_some_iff.1 h
  rw [List.drop_eq_getElem_cons h1, h2]
end Go.Proofs.YtkhbpebpljdifaaDoor


namespace Go.Proofs.YtkhbpebpljdifaaDoor
open Go.RowKit Go.PL Go.Maps

theorem info36 : (Tryd.prog.info? 36).map (fun i => (i.zero, i.size, i.bytes)) = some (some (.agg #[.int .i64 0, .string ⟨#[]⟩, .int .i64 0, .int .i64 0, .int .i64 0]), 5, 48) := by kernel_rfl

set_option maxRecDepth 100000 in
set_option maxHeartbeats 12800000 in
theorem tokenize_calls (s : List UInt8) (w : World) (he : Env w) (hmax : s.length ≤ 281474976710656) :
    Calls Tryd.prog 13 #[.string ⟨s.toArray⟩] w fun e w' => TokR s e w' ∧ Upto [] w w' := by
  have hsz : (ByteArray.mk s.toArray).size = s.length := rfl
  by_cases hbig : 65536 < s.length
  · have hbig' : (65536 : Int) < s.length := by omega
    clear he
    have b3 := new_at w (.cells #[.int .i64 0, .int .i64 0] 24)
    have q0 := cell_of b3 0
    have q1 := cell_of b3 1
    simp only [List.getElem?_toArray, List.getElem?_cons_zero, List.getElem?_cons_succ] at q0 q1
    go_enter Tryd.func13, Tryd.ntmps13
    go_wp2_with fail
    go_step3
    go_wp2_with fail
    rw [Exit.noGoto_ret]
    refine bodyPost_ret (v := .tuple #[.slice none 0 0, .agg #[.int .i64 0, .int .i64 0], .int .i64 2]) (by simp [results, Tryd.results13, go_sem, q0, q1]) rfl ⟨?_, (Upto.refl _ _).alloc _⟩
    exact Or.inr ⟨0, 0, 2, by rw [lexT, if_pos hbig], by decide, rfl⟩
  · have hbig' : ¬ (65536 : Int) < s.length := by omega
    have hlt : lexT s = lexS s 1 1 := by rw [lexT, if_neg hbig]
    have hlen : s.length ≤ 65536 := by omega
    have hu0 : Upto [] w (w.alloc (.cells #[.int .i64 0, .int .i64 0] 24)) := (Upto.refl [] w).alloc _
    have b3 := new_at w (.cells #[.int .i64 0, .int .i64 0] 24)
    have HK := Lib.hid (known_calls _ (he.ext hu0))
    have HLT := Lib.hid hlt
    clear hlt
    obtain ⟨i0, hi0, hz0, hz1, hz2⟩ := info_parts info36
    have HI := Lib.hid hi0
    have HZ0 := Lib.hid hz0
    have HZ1 := Lib.hid hz1
    have HZ2 := Lib.hid hz2
    clear hi0 hz0 hz1 hz2
    have HB := Lib.hid blank_calls
    have HX := Lib.hid Tryd.strings_IndexByte
    have HN := Lib.hid inner_calls
    have HC := Lib.hid (fun x h w => cut_calls 35 lxInner (run_enter Tryd.func35 (by kernel_rfl) rfl) inner_calls x h w)
    have HR := Lib.hid run_calls
    go_enter Tryd.func13, Tryd.ntmps13
    go_wp2_with fail
    go_step3
    go_wp2_with fail
    refine HK.out.mono ?_
    rintro e w1 ⟨m, rfl, hkeys, hu1⟩
    have hb3 := hu1.at b3 (by simp)
    have hs1 := hu1.size
    have hup1 := hu0.trans_ext hu1
    have hM : TkM w w.heap.size w1.heap.size m [] (.slice none 0 0) 1 1 (w1.alloc (.cells #[.int .i64 1, .int .i64 1] 24)) := by
      have hul : Upto [] w1 (w1.alloc (.cells #[.int .i64 1, .int .i64 1] 24)) := (Upto.refl [] w1).alloc _
      refine ⟨⟨rfl, Or.inl ⟨rfl, rfl⟩⟩, fun g hg => (by cases hg), hul.at hb3 (by simp), new_at _ _, hup1.trans_ext hul, hkeys.ext hul, (he.ext hup1).ext hul, Nat.le_refl _, hup1.size, ?_⟩
      simp only [World.size_alloc] at hs1
      omega
    have h0 := Lib.hid he
    clear HK b3 hb3 hkeys hu0 hu1 hup1 hs1 he hbig hbig'
    go_wp2_with fail
    go_step3
    go_wp2_with fail
    generalize w1.alloc (.cells #[.int .i64 1, .int .i64 1] 24) = W0 at *
    generalize w1.heap.size = B7 at *
    generalize hB3 : w.heap.size = B3 at *
    go_loopw [5, 8, 9] (fun l p i wr => ∃ (k ls L c : Nat) (acc : List Tok), k ≤ s.length ∧ ls ≤ k ∧ i = .int .i64 k ∧ p = .int .i64 ls ∧ TkM w B3 B7 m acc l L c wr ∧ Hid (acc.length ≤ k ∧ L ≤ k + 1) ∧ Hid (lexS s 1 1 = Go.PL.ahead acc (lexS (s.drop k) L (k - ls + 1)))) (fun _ _ i _ => s.length + 1 - (intOf i).toNat)
    case atStart => exact ⟨0, 0, 1, 1, [], by omega, by omega, rfl, rfl, hM, Lib.hid ⟨by simp, by omega⟩, Lib.hid (by rw [ahead_nil]; rfl)⟩
    case round =>
      obtain ⟨k, ls, L, c, acc, hk, hls, rfl, rfl, hM', HL, HE⟩ := hrel
      clear hM
      obtain ⟨va, vc, rfl, -⟩ := ownsRow_len hM'.row
      have hcol : (k : Int) - ls + 1 = ((k - ls + 1 : Nat) : Int) := by omega
      have hcs : Hid (∀ j, k + j - ls + 1 = (k - ls + 1) + j) := Lib.hid (by intro j; omega)
      have hccb : k - ls + 1 ≤ k + 1 := by omega
      generalize k - ls + 1 = cc at *
      have hMa := hM'.at h0.out cc
      have hb7 := hM'.b7
      have q0 := cell_of hb7 0
      have q1 := cell_of hb7 1
      have f0 := free_of hb7 0
      have f1 := free_of hb7 1
      simp only [List.getElem?_toArray, List.getElem?_cons_zero, List.getElem?_cons_succ] at q0 q1
      obtain ⟨hacc, hLk⟩ := HL.out
      have hkb : (k : Int) ≤ 65536 := by omega
      have hk0 : (0 : Int) ≤ k := by omega
      have hls0 : (0 : Int) ≤ ls := by omega
      have hlsk : (ls : Int) ≤ k := by omega
      have hL0 : (0 : Int) ≤ L := by omega
      have hLb : (L : Int) ≤ 65537 := by omega
      have HA := Lib.hid hMa
      clear hM' hMa hb7 HL
      rcases Nat.lt_or_ge k s.length with hlt | hge
      · obtain ⟨b, hb⟩ : ∃ b, s[k]? = some b := ⟨s[k], List.getElem?_eq_getElem hlt⟩
        have hat := str_at hb
        have hd := Lib.hid (drop_at hb)
        clear hb
        have hlt' : ((k : Int) == s.length) = false := by rw [beq_eq_false_iff_ne]; omega
        have hlt2 : (k : Int) < s.length := by omega
        go_wp2_with fail
        generalize (wr.setCell ⟨B7, 0, none⟩ (.int .i64 L)).setCell ⟨B7, 1, none⟩ (.int .i64 cc) = wa at *
        clear q0 q1 f0 f1
        have hA := HA.out
        have a0 := cell_of hA.b7 0
        have a1 := cell_of hA.b7 1
        have fa0 := free_of hA.b7 0
        have fa1 := free_of hA.b7 1
        simp only [List.getElem?_toArray, List.getElem?_cons_zero, List.getElem?_cons_succ] at a0 a1
        clear hA
        refine (HB.out _ _).mono ?_
        rintro e wb ⟨rfl, hwb⟩
        have hwb' := hwb.symm
        subst hwb'
        cases hbl : lxBlank b with
        | true =>
          have HBL := Lib.hid hbl
          by_cases h10 : b.toNat = 10
          · have t10 : ((b.toNat : Int) == 10) = true := by simp [h10]
            have HM2 : Hid (TkM w B3 B7 m acc (.slice va acc.length vc) (L + 1) cc (wa.setCell ⟨B7, 0, none⟩ (.int .i64 ((L : Int) + 1)))) := Lib.hid (HA.out.line h0.out (L + 1))
            have H10 := Lib.hid h10
            clear HA h10
            go_wp2_with fail
            go_roundw
            case rel => exact ⟨k + 1, k + 1, L + 1, cc, acc, by omega, by omega, by go_num, by go_num, HM2.out, Lib.hid ⟨by omega, by omega⟩, Lib.hid (by rw [HE.out, hd.out, lexS_line H10.out, Nat.sub_self])⟩
            case measure => simp [intOf]; omega
          · have t10 : ((b.toNat : Int) == 10) = false := by rw [beq_eq_false_iff_ne]; omega
            have H10 := Lib.hid h10
            clear h10
            go_wp2_with fail
            go_roundw
            case rel => exact ⟨k + 1, ls, L, cc, acc, by omega, by omega, by go_num, rfl, HA.out, Lib.hid ⟨by omega, by omega⟩, Lib.hid (by rw [HE.out, hd.out, lexS_blank HBL.out H10.out, hcs.out 1])⟩
            case measure => simp [intOf]; omega
        | false =>
          have HBL := Lib.hid hbl
          go_wp2_with fail
          refine (HX.out ⟨#[61, 40, 41, 44, 58, 59]⟩ b.toNat _).mono ?_
          rintro e wb ⟨rfl, hwb⟩
          have hwb' := hwb.symm
          subst hwb'
          rw [byte_back]
          have him := idx_mark b
          generalize Go.Lib.indexByte [61, 40, 41, 44, 58, 59] b = kk at *
          cases hmk : lxMark b with
          | true =>
            have HMK := Lib.hid hmk
            rw [hmk] at him
            have hkk : (0 : Int) ≤ kk := of_decide_eq_true him
            clear him
            go_wp2_with fail
            have hx3 : (ByteArray.mk s.toArray).extract k (k + 1) = ⟨[b].toArray⟩ := by rw [ext_to, hd.out]; rfl
            have e0 : ∀ u : Ext wa, u.w.cell? ⟨B7, 0, none⟩ = some (.int .i64 L) := fun u => u.cell a0
            have e1 : ∀ u : Ext wa, u.w.cell? ⟨B7, 1, none⟩ = some (.int .i64 cc) := fun u => u.cell a1
            refine wp_region_noPanic ?_
            refine wp_region_segP_at [] [] [0] [1, 2, 3, 4, 5, 6, 7] [8, 9, 10] 8 (fun _ _ _ _ _ h => h) (by kernel_rfl) (by kernel_rfl) (by kernel_rfl) ?_
            refine pre_plain rfl rfl rfl ?_
            intro K' hK'
            go_big_quiet_op
            go_big_quiet_on
            refine seg_plain rfl rfl rfl rfl rfl ?_
            intro K' hK'
            go_big_quiet_op
            go_big_quiet_on
            refine seg_plain rfl rfl rfl rfl rfl ?_
            intro K' hK'
            go_big_quiet_op
            go_big_quiet_on
            refine seg_plain rfl rfl rfl rfl rfl ?_
            intro K' hK'
            go_big_quiet_op
            go_big_quiet_on
            refine seg_plain rfl rfl rfl rfl rfl ?_
            intro K' hK'
            go_big_quiet_op
            go_big_quiet_on
            refine seg_plain rfl rfl rfl rfl rfl ?_
            intro K' hK'
            go_big_quiet_op
            go_big_quiet_on
            refine seg_plain rfl rfl rfl rfl rfl ?_
            intro K' hK'
            go_big_quiet_op
            go_big_quiet_on
            refine seg_plain rfl rfl rfl rfl rfl ?_
            intro K' hK'
            go_big_quiet_op
            go_big_quiet_on
            intro w9 hg
            have hv := hg.up
            clear hg e0 e1
            simp only [List.drop_succ_cons, List.drop_zero]
            have hM9 := HA.out.ext hv
            have H9 := Lib.hid hM9
            have hrow := (hM9.ext ((Upto.refl [] w9).alloc (.cells #[.int .i64 4, .string ⟨[b].toArray⟩, .int .i64 0, .int .i64 L, .int .i64 cc] 36))).row
            have hsrc := cells_at (l := tkC ⟨4, [b], 0, L, cc⟩) (new_at w9 (.cells #[.int .i64 4, .string ⟨[b].toArray⟩, .int .i64 0, .int .i64 L, .int .i64 cc] 36))
            clear hM9 hv a0 a1
            go_wp2_with (at_builtin; refine wpList_app _ rfl (.tmp 60) (.tmp 68) 22 rfl 36 i0 (.agg #[.int .i64 0, .string ⟨#[]⟩, .int .i64 0, .int .i64 0, .int .i64 0]) 5 48 Tryd.underlying22 HI.out HZ0.out HZ1.out HZ2.out rfl (by decide) (.slice va acc.length vc) acc.length _ rfl hrow ⟨w9.heap.size, 0, none⟩ 1 1 (tkC ⟨4, [b], 0, L, cc⟩) rfl rfl hsrc tkC_one (by unfold maxLen; omega) (by omega) ?_; intro vb vd w4 ho4 hu4 hw4; have hM4 := H9.out.app (t := ⟨4, [b], 0, L, cc⟩) h0.out rfl ho4 hu4 hw4; clear hrow hsrc ho4 hu4 hw4)
            refine NoPanic.normal ?_
            have HM4 := Lib.hid hM4
            clear hM4
            go_wp2_with fail
            go_roundw
            case rel => exact ⟨k + 1, ls, L, cc, acc ++ [⟨4, [b], 0, L, cc⟩], by omega, by omega, by go_num, rfl, HM4.out, Lib.hid ⟨by simp; omega, by omega⟩, Lib.hid (by rw [HE.out, hd.out, lexS_mark HBL.out HMK.out, hcs.out 1, ahead_snoc])⟩
            case measure => simp [intOf]; omega
          | false =>
            have HMK := Lib.hid hmk
            rw [hmk] at him
            have hkk : kk < 0 := by have := of_decide_eq_false him; omega
            clear him
            go_wp2_with fail
            refine (HN.out _ _).mono ?_
            rintro e wb ⟨rfl, hwb⟩
            have hwb' := hwb.symm
            subst hwb'
            cases hin : lxInner b with
            | false =>
              have HIN := Lib.hid hin
              go_wp2_with fail
              have e0 : ∀ u : Ext wa, u.w.cell? ⟨B7, 0, none⟩ = some (.int .i64 L) := fun u => u.cell a0
              have e1 : ∀ u : Ext wa, u.w.cell? ⟨B7, 1, none⟩ = some (.int .i64 cc) := fun u => u.cell a1
              refine wp_region_seg_at [] [] [0, 1] [2, 3] 2 (by kernel_rfl) (by kernel_rfl) (by kernel_rfl) ?_
              refine seg_plain rfl rfl rfl rfl rfl ?_
              intro K' hK'
              go_big_quiet_op
              go_big_quiet_on
              refine seg_plain rfl rfl rfl rfl rfl ?_
              intro K' hK'
              go_big_quiet_op
              go_big_quiet_on
              intro w9 hg
              have hv := hg.up
              clear hg e0 e1
              simp only [List.drop_succ_cons, List.drop_zero]
              have hM9 := HA.out.ext hv
              have d0 := cell_of hM9.b3 0
              have d1 := cell_of hM9.b3 1
              have g0 := free_of hM9.b3 0
              have g1 := free_of hM9.b3 1
              simp only [List.getElem?_toArray, List.getElem?_cons_zero, List.getElem?_cons_succ] at d0 d1
              obtain ⟨-, z2⟩ := hM9.fin (.int .i64 L) (.int .i64 cc)
              clear hv hM9 a0 a1
              go_wp2_with fail
              rw [Exit.noGoto_ret]
              refine bodyPost_ret (v := .tuple #[.slice none 0 0, .agg #[.int .i64 L, .int .i64 cc], .int .i64 3]) (by simp [results, Tryd.results13, go_sem, d0, d1]) rfl ⟨Or.inr ⟨L, cc, 3, ?_, by decide, rfl⟩, z2⟩
              rw [HLT.out, HE.out, hd.out, lexS_bad HBL.out HMK.out HIN.out, ahead_error]
            | true =>
              have HIN := Lib.hid hin
              have hx1 := ext_from (s := s) k
              go_wp2_with fail
              have hdl : (s.drop k).length ≤ 4611686018427387904 := by rw [List.length_drop]; omega
              with_reducible refine (HC.out (s.drop k) hdl _).mono ?_
              rintro e wb ⟨rfl, hwb⟩
              have hwb' := hwb.symm
              subst hwb'
              obtain ⟨r, q, hrq, hrn, hri, hq, -⟩ := lex_split (s.drop k) ⟨b, s.drop (k + 1), hd.out, hin⟩
              obtain ⟨hr1, hr2⟩ := run_split hri hq
              rw [← hrq] at hr1 hr2
              obtain ⟨r', hr'⟩ : ∃ r', r = b :: r' := by
                cases r with
                | nil => exact absurd rfl hrn
                | cons y r' =>
                  have := hrq.symm.trans hd.out
                  rw [List.cons_append] at this
                  injection this with h1 h2
                  rw [h1]
                  exact ⟨r', rfl⟩
              have hlr : k + r.length + q.length = s.length := by
                have := congrArg List.length hrq
                simp only [List.length_drop, List.length_append] at this
                omega
              have hqd : s.drop (k + r.length) = q := by
                rw [← List.drop_drop, hrq, List.drop_left]
              clear hx1
              have hx2 : (ByteArray.mk s.toArray).extract k (k + r.length) = ⟨r.toArray⟩ := by
                rw [ext_to, hrq, List.take_left]
              have hrl : r.length ≠ 0 := by rw [hr']; simp
              have hkr : (k : Int) + r.length ≤ s.length := by omega
              have hr0 : (0 : Int) ≤ r.length := by omega
              have hrI : (ByteArray.mk r.toArray).size = r.length := rfl
              rw [hr1]
              have HS := Lib.hid (lexS_runs hrn hri hq)
              have HRR := Lib.hid hr'
              clear hr'
              have HQ := Lib.hid hqd
              have HRQ := Lib.hid hrq
              clear hrq hqd hr1 hr2 hri hq hrn hat hdl
              go_wp2_with fail
              have HRC := HR.out b r' m wa (by rw [← HRR.out]; omega) HA.out.env HA.out.keys
              rw [← HRR.out] at HRC
              refine HRC.mono ?_
              rintro e w2 ⟨⟨kk, v, n, x, rfl, hcase⟩, hu2⟩
              clear HRC
              unfold tkV
              have hM2 := HA.out.ext hu2
              have hM3 := hM2.ext ((Upto.refl [] w2).alloc (.cells #[.int .i64 kk, .string ⟨x.toArray⟩, .int .i64 v, .int .i64 0, .int .i64 0] 36))
              rcases hcase with ⟨rfl, rfl, hc⟩ | ⟨hn, hc⟩
              · simp only [show ((0 : Nat) : Int) = 0 from rfl]
                have a0 := cell_of hM3.b7 0
                have a1 := cell_of hM3.b7 1
                have hn5 := new_at w2 (.cells #[.int .i64 kk, .string ⟨x.toArray⟩, .int .i64 v, .int .i64 0, .int .i64 0] 36)
                have g3 := free_of hn5 3
                have g4 := free_of hn5 4
                simp only [List.getElem?_toArray, List.getElem?_cons_zero, List.getElem?_cons_succ] at a0 a1
                have H2 := Lib.hid hM2
                have hMX := hM2.ext ((Upto.refl [] w2).alloc (.cells #[.int .i64 kk, .string ⟨x.toArray⟩, .int .i64 v, .int .i64 L, .int .i64 cc] 36))
                have HMX := Lib.hid hMX
                have hrow := (hMX.ext ((Upto.refl [] _).alloc (.cells #[.int .i64 kk, .string ⟨x.toArray⟩, .int .i64 v, .int .i64 L, .int .i64 cc] 36))).row
                have hsrc := cells_at (l := tkC ⟨kk, x, v, L, cc⟩) (new_at1 w2 (.cells #[.int .i64 kk, .string ⟨x.toArray⟩, .int .i64 v, .int .i64 L, .int .i64 cc] 36) (.cells #[.int .i64 kk, .string ⟨x.toArray⟩, .int .i64 v, .int .i64 L, .int .i64 cc] 36))
                clear hM3 hn5 hu2 HA fa0 fa1 hM2 hMX
                go_wp2_with (at_builtin; refine wpList_app _ rfl (.tmp 98) (.tmp 100) 22 rfl 36 i0 (.agg #[.int .i64 0, .string ⟨#[]⟩, .int .i64 0, .int .i64 0, .int .i64 0]) 5 48 Tryd.underlying22 HI.out HZ0.out HZ1.out HZ2.out rfl (by decide) (.slice va acc.length vc) acc.length _ rfl hrow ⟨w2.heap.size + 1, 0, none⟩ 1 1 (tkC ⟨kk, x, v, L, cc⟩) rfl rfl hsrc tkC_one (by unfold maxLen; omega) (by omega) ?_; intro vb vd w4 ho4 hu4 hw4; have HM4 := Lib.hid (HMX.out.app (t := ⟨kk, x, v, L, cc⟩) h0.out rfl ho4 hu4 hw4); clear hrow hsrc ho4 hu4 hw4)
                go_roundw
                case rel =>
                  refine ⟨k + x.length, ls, L, cc, acc ++ [⟨kk, x, v, L, cc⟩], by omega, by omega, by go_num, rfl, HM4.out, Lib.hid ⟨by simp; omega, by omega⟩, Lib.hid ?_⟩
                  rw [HE.out, HRQ.out, HS.out, hc, hcs.out x.length, HQ.out]
                  exact ahead_snoc _ _ _
                case measure => simp [intOf]; omega
              · have hn' : ((n : Int) == 0) = false := by rw [beq_eq_false_iff_ne]; omega
                have H3 := Lib.hid hM3
                have hb7 := hM3.b7
                clear hM2 hM3 hu2 a0 a1 fa0 fa1 HA
                go_wp2_with fail
                generalize w2.alloc (.cells #[.int .i64 kk, .string ⟨x.toArray⟩, .int .i64 v, .int .i64 0, .int .i64 0] 36) = wc at *
                have a0 := cell_of hb7 0
                have a1 := cell_of hb7 1
                simp only [List.getElem?_toArray, List.getElem?_cons_zero, List.getElem?_cons_succ] at a0 a1
                clear hb7
                have e0 : ∀ u : Ext wc, u.w.cell? ⟨B7, 0, none⟩ = some (.int .i64 L) := fun u => u.cell a0
                have e1 : ∀ u : Ext wc, u.w.cell? ⟨B7, 1, none⟩ = some (.int .i64 cc) := fun u => u.cell a1
                refine wp_region_noPanic ?_
                refine wp_region_segP_at [] [] [1] [0, 2] [3, 4] 3 (fun _ _ _ _ _ h => h) (by kernel_rfl) (by kernel_rfl) (by kernel_rfl) ?_
                refine pre_plain rfl rfl rfl ?_
                intro K' hK'
                go_big_quiet_op
                go_big_quiet_on
                refine seg_plain rfl rfl rfl rfl rfl ?_
                intro K' hK'
                go_big_quiet_op
                go_big_quiet_on
                refine seg_plain rfl rfl rfl rfl rfl ?_
                intro K' hK'
                go_big_quiet_op
                go_big_quiet_on
                intro w9 hg
                have hv := hg.up
                clear hg e0 e1
                simp only [List.drop_succ_cons, List.drop_zero]
                have hM9 := H3.out.ext hv
                have d0 := cell_of hM9.b3 0
                have d1 := cell_of hM9.b3 1
                have g0 := free_of hM9.b3 0
                have g1 := free_of hM9.b3 1
                simp only [List.getElem?_toArray, List.getElem?_cons_zero, List.getElem?_cons_succ] at d0 d1
                obtain ⟨-, z2⟩ := hM9.fin (.int .i64 L) (.int .i64 cc)
                clear hv hM9 a0 a1
                go_wp2_with fail
                refine NoPanic.normal ?_
                go_wp2_with fail
                rw [Exit.noGoto_ret]
                refine bodyPost_ret (v := .tuple #[.slice none 0 0, .agg #[.int .i64 L, .int .i64 cc], .int .i64 n]) (by simp [results, Tryd.results13, go_sem, d0, d1]) rfl ⟨Or.inr ⟨L, cc, n, ?_, hn, rfl⟩, z2⟩
                rw [HLT.out, HE.out, HRQ.out, HS.out, hc, ahead_error]
      · have hge' : ((k : Int) == s.length) = true := by rw [beq_iff_eq]; omega
        go_upto_region 9 with fail
        generalize (wr.setCell ⟨B7, 0, none⟩ (.int .i64 L)).setCell ⟨B7, 1, none⟩ (.int .i64 cc) = wa at *
        clear q0 q1 f0 f1
        have hA := HA.out
        have a0 := cell_of hA.b7 0
        have a1 := cell_of hA.b7 1
        simp only [List.getElem?_toArray, List.getElem?_cons_zero, List.getElem?_cons_succ] at a0 a1
        have hrow := (hA.ext ((Upto.refl [] wa).alloc (.cells #[.int .i64 0, .string ⟨#[]⟩, .int .i64 0, .int .i64 L, .int .i64 cc] 36))).row
        have hsrc := cells_at (l := tkC ⟨0, [], 0, L, cc⟩) (new_at wa (.cells #[.int .i64 0, .string ⟨#[]⟩, .int .i64 0, .int .i64 L, .int .i64 cc] 36))
        clear hA
        go_wp2_with (at_builtin; refine wpList_app _ rfl (.tmp 32) (.tmp 35) 22 rfl 36 i0 (.agg #[.int .i64 0, .string ⟨#[]⟩, .int .i64 0, .int .i64 0, .int .i64 0]) 5 48 Tryd.underlying22 HI.out HZ0.out HZ1.out HZ2.out rfl (by decide) (.slice va acc.length vc) acc.length _ rfl hrow ⟨wa.heap.size, 0, none⟩ 1 1 (tkC ⟨0, [], 0, L, cc⟩) rfl rfl hsrc tkC_one (by unfold maxLen; omega) (by omega) ?_; intro vb vd w4 ho4 hu4 hw4; have hM4 := HA.out.app (t := ⟨0, [], 0, L, cc⟩) h0.out rfl ho4 hu4 hw4; have d0 := cell_of hM4.b3 0; have d1 := cell_of hM4.b3 1; have g0 := free_of hM4.b3 0; have g1 := free_of hM4.b3 1; simp only [List.getElem?_toArray, List.getElem?_cons_zero, List.getElem?_cons_succ] at d0 d1; clear hrow hsrc ho4 hu4 hw4)
        rw [Exit.noGoto_ret]
        obtain ⟨z1, z2⟩ := hM4.fin (.int .i64 0) (.int .i64 0)
        have hks : k = s.length := by omega
        refine bodyPost_ret (v := .tuple #[.slice vb (acc.length + 1) vd, .agg #[.int .i64 0, .int .i64 0], .int .i64 0]) (by simp [results, Tryd.results13, go_sem, d0, d1]) rfl ⟨Or.inl ⟨acc ++ [⟨0, [], 0, L, cc⟩], _, ?_, rfl, z1⟩, z2⟩
        rw [HLT.out, HE.out, hks, List.drop_length, lexS_nil, ahead_ok]
end Go.Proofs.YtkhbpebpljdifaaDoor


namespace Go.Proofs.YtkhbpebpljdifaaDoor
open Go.RowKit Go.PL Go.Maps

/-- the tokens so far -/
structure TkR (w : World) (acc : List Tok) (l : Value) (wr : World) : Prop where
  row : wr.ownsRow 0 80 5 l acc.length (acc.flatMap tkC)
  own : ∀ g, l.ownBlock = some g → w.heap.size ≤ g
  up : Upto [] w wr
section
variable {w wr wr' : World} {acc : List Tok} {l : Value}
theorem TkR.ext (h : TkR w acc l wr) (hu : Upto [] wr wr') : TkR w acc l wr' := ⟨ownsRow_upto h.row hu (by simp), h.own, h.up.trans_ext hu⟩
theorem TkR.app {t : Tok} {src : Obj} {b' : Option Addr} {c' : Nat} (h : TkR w acc l wr) (ho : wr'.ownsRow 0 80 5 (.slice b' (acc.length + 1) c') (acc.length + 1) (acc.flatMap tkC ++ tkC t)) (hu : Upto l.ownBlock.toList (wr.alloc src) wr') (hw : ∀ g, (Value.slice b' (acc.length + 1) c').ownBlock = some g → l.ownBlock = some g ∨ (wr.alloc src).heap.size ≤ g) :
    TkR w (acc ++ [t]) (.slice b' (acc.length + 1) c') wr' := by
  have h' := h.ext ((Upto.refl [] wr).alloc src)
  refine ⟨?_, fun g hg => (hw g hg).elim (h.own g) (fun h => Nat.le_trans h'.up.size h), h'.up.trans hu (fun k hk => Or.inr (h.own k (Option.mem_toList.1 hk)))⟩
  rw [toks_snoc]
  simpa using ho
end
theorem tok_store {w : World} {B : Nat} {a b c d e : Value} {T : TypeId} (h : w.heap[B]? = some (.cells #[a, b, c, d, e] T (0, 0))) (a' b' c' d' e' : Value) :
    (((((w.setCell ⟨B, 0, none⟩ a').setCell ⟨B, 1, none⟩ b').setCell ⟨B, 2, none⟩ c').setCell ⟨B, 3, none⟩ d').setCell ⟨B, 4, none⟩ e').heap[B]? = some (.cells #[a', b', c', d', e'] T (0, 0)) := by
  have := set_same (set_same (set_same (set_same (set_same h 0 a') 1 b') 2 c') 3 d') 4 e'
  simpa using this
theorem tok_up {v w : World} {B : Nat} (h : Upto [] v w) (hB : v.heap.size ≤ B) (a' b' c' d' e' : Value) :
    Upto [] v (((((w.setCell ⟨B, 0, none⟩ a').setCell ⟨B, 1, none⟩ b').setCell ⟨B, 2, none⟩ c').setCell ⟨B, 3, none⟩ d').setCell ⟨B, 4, none⟩ e') :=
  ((((h.setCell (Or.inr hB) _).setCell (Or.inr hB) _).setCell (Or.inr hB) _).setCell (Or.inr hB) _).setCell (Or.inr hB) _

/-- what the reference comes to -/
def TokRR (s : List UInt8) (e : Ending) (w' : World) : Prop :=
  (∃ ts v, lexT s = .ok ts ∧ e = .returned (.tuple #[v, .int .i64 0, .int .i64 0, .int .i64 0]) ∧ Toks w' v ts) ∨
  ∃ l c n : Nat, lexT s = .error (l, c, n) ∧ n ≠ 0 ∧ e = .returned (.tuple #[.slice none 0 0, .int .i64 l, .int .i64 c, .int .i64 n])
end Go.Proofs.YtkhbpebpljdifaaDoor


namespace Go.Proofs.YtkhbpebpljdifaaDoor
open Go.RowKit Go.PL Go.Maps

/-- tokens, place and number of an answer -/
def outT : Except (Nat × Nat × Nat) (List Tok) → List Tok × Nat × Nat × Nat
  | .ok ts => (ts, 0, 0, 0)
  | .error (l, c, n) => ([], l, c, n)
theorem toks_nil (w : World) : Toks w (.slice none 0 0) [] := ⟨rfl, Or.inl ⟨rfl, none, 0, rfl⟩⟩
theorem TokR.out {s : List UInt8} {e : Ending} {w : World} (h : TokR s e w) : ∃ v, e = .returned (.tuple #[v, .agg #[.int .i64 (outT (lexT s)).2.1, .int .i64 (outT (lexT s)).2.2.1], .int .i64 (outT (lexT s)).2.2.2]) ∧ Toks w v (outT (lexT s)).1 := by
  rcases h with ⟨ts, v, hl, rfl, hT⟩ | ⟨l, c, n, hl, _, rfl⟩
  · rw [hl]; exact ⟨v, rfl, hT⟩
  · rw [hl]; exact ⟨_, rfl, toks_nil w⟩
theorem TokRR.out {s : List UInt8} {e : Ending} {w : World} (h : TokRR s e w) : ∃ v, e = .returned (.tuple #[v, .int .i64 (outT (lexT s)).2.1, .int .i64 (outT (lexT s)).2.2.1, .int .i64 (outT (lexT s)).2.2.2]) ∧ Toks w v (outT (lexT s)).1 := by
  rcases h with ⟨ts, v, hl, rfl, hT⟩ | ⟨l, c, n, hl, _, rfl⟩
  · rw [hl]; exact ⟨v, rfl, hT⟩
  · rw [hl]; exact ⟨_, rfl, toks_nil w⟩
end Go.Proofs.YtkhbpebpljdifaaDoor


namespace Go.Proofs.YtkhbpebpljdifaaDoor
open Go.RowKit Go.PL Go.Maps

def tkA (t : Tok) : Value := .agg #[.int .i64 t.kind, .string ⟨t.text.toArray⟩, .int .i64 t.val, .int .i64 t.line, .int .i64 t.col]
end Go.Proofs.YtkhbpebpljdifaaDoor


namespace Go.Proofs.YtkhbpebpljdifaaDoor
open Go.RowKit Go.PL Go.Maps

/-- the reader's cells -/
def rdC (v : Value) (s : PS) : Array Value := #[v, .int .i64 s.nx, .int .i64 s.er, .int .i64 s.dp]
structure RdAt (w : World) (p : Nat) (l : List Tok) (s : PS) : Prop where
  cells : ∃ v, w.heap[p]? = some (.cells (rdC v s) 118 (0, 0)) ∧ Toks w v l ∧ ∀ g o n c, v = .slice (some ⟨g, o, none⟩) n c → g < p
  inb : s.nx < l.length
  fin : ∀ i t, l[i]? = some t → t.kind ≠ 0 → i + 1 < l.length
theorem tkAt_some {l : List Tok} {s : PS} (h : s.nx < l.length) : l[s.nx]? = some (tkAt l s) := by
  unfold tkAt
  rw [List.getD_eq_getElem?_getD, List.getElem?_eq_getElem h]
  rfl

set_option maxRecDepth 100000 in
set_option maxHeartbeats 6400000 in
theorem next_calls (w : World) (p : Nat) (l : List Tok) (s : PS) (h : RdAt w p l s) : Calls Tryd.prog 72 #[.pointer (some ⟨p, 0, none⟩)] w fun e w' => e = .returned (tkA (tkAt l s)) ∧ Upto [] w w' := by
  obtain ⟨⟨v, hb, hT, -⟩, hin, -⟩ := h
  have ht := tkAt_some hin
  have b0 := cell_of hb 0
  have b1 := cell_of hb 1
  unfold rdC at b0 b1
  simp only [List.getElem?_toArray, List.getElem?_cons_zero, List.getElem?_cons_succ] at b0 b1
  rcases hT.at with ⟨h0, _⟩ | ⟨g, o, c, rfl, hat⟩
  · rw [h0] at hin; simp at hin
  obtain ⟨c0, c1, c2, c3, c4⟩ := hat _ _ ht
  simp only [bs] at c1
  have hi1 : (s.nx : Int) < l.length := by omega
  have hi0 : (0 : Int) ≤ s.nx := by omega
  generalize tkAt l s = t at *
  unfold tkA
  clear hat ht hT hb
  go_enter Tryd.func72, Tryd.ntmps72
  go_wp2_with fail
  have hua := (Upto.refl [] w).alloc (.cells #[.int .i64 0, .string ⟨#[]⟩, .int .i64 0, .int .i64 0, .int .i64 0] 36)
  have hnew := new_at w (.cells #[.int .i64 0, .string ⟨#[]⟩, .int .i64 0, .int .i64 0, .int .i64 0] 36)
  have up : ∀ {a : Addr} {u : Value}, w.cell? a = some u → (w.alloc (.cells #[.int .i64 0, .string ⟨#[]⟩, .int .i64 0, .int .i64 0, .int .i64 0] 36)).cell? a = some u := fun h => (hua.cell (World.block_lt_of_cell? w _ h) (by simp)).trans h
  replace b0 := up b0
  replace b1 := up b1
  replace c0 := up c0
  replace c1 := up c1
  replace c2 := up c2
  replace c3 := up c3
  replace c4 := up c4
  clear up
  generalize w.alloc (.cells #[.int .i64 0, .string ⟨#[]⟩, .int .i64 0, .int .i64 0, .int .i64 0] 36) = W1 at *
  obtain ⟨B, hB, hBB⟩ : ∃ B, w.heap.size ≤ B ∧ B = w.heap.size := ⟨_, Nat.le_refl _, rfl⟩
  rw [← hBB] at hnew ⊢
  clear hBB
  have e0 : ∀ u : Ext W1, u.w.cell? ⟨p, 0, none⟩ = some (.slice (some ⟨g, o, none⟩) l.length c) := fun u => u.cell b0
  have e1 : ∀ u : Ext W1, u.w.cell? ⟨p, 1, none⟩ = some (.int .i64 s.nx) := fun u => u.cell b1
  have f0 : ∀ u : Ext W1, u.w.cell? ⟨g, o + s.nx * 5, none⟩ = some (.int .i64 t.kind) := fun u => u.cell c0
  have f1 : ∀ u : Ext W1, u.w.cell? ⟨g, o + s.nx * 5 + 1, none⟩ = some (.string ⟨t.text.toArray⟩) := fun u => u.cell c1
  have f2 : ∀ u : Ext W1, u.w.cell? ⟨g, o + s.nx * 5 + 2, none⟩ = some (.int .i64 t.val) := fun u => u.cell c2
  have f3 : ∀ u : Ext W1, u.w.cell? ⟨g, o + s.nx * 5 + 3, none⟩ = some (.int .i64 t.line) := fun u => u.cell c3
  have f4 : ∀ u : Ext W1, u.w.cell? ⟨g, o + s.nx * 5 + 4, none⟩ = some (.int .i64 t.col) := fun u => u.cell c4
  clear b0 b1 c0 c1 c2 c3 c4
  refine wp_region_seg_at [] [] (List.range 10) [10] 10 (by kernel_rfl) (by kernel_rfl) (by kernel_rfl) ?_
  refine seg_plain rfl rfl rfl rfl rfl ?_
  intro K' hK'
  go_big_quiet_op
  go_big_quiet_on
  refine seg_plain rfl rfl rfl rfl rfl ?_
  intro K' hK'
  go_big_quiet_op
  go_big_quiet_on
  refine seg_plain rfl rfl rfl rfl rfl ?_
  intro K' hK'
  go_big_quiet_op
  go_big_quiet_on
  refine seg_plain rfl rfl rfl rfl rfl ?_
  intro K' hK'
  go_big_quiet_op
  go_big_quiet_on
  refine seg_plain rfl rfl rfl rfl rfl ?_
  intro K' hK'
  go_big_quiet_op
  go_big_quiet_on
  refine seg_plain rfl rfl rfl rfl rfl ?_
  intro K' hK'
  go_big_quiet_op
  go_big_quiet_on
  refine seg_plain rfl rfl rfl rfl rfl ?_
  intro K' hK'
  go_big_quiet_op
  go_big_quiet_on
  refine seg_plain rfl rfl rfl rfl rfl ?_
  intro K' hK'
  go_big_quiet_op
  go_big_quiet_on
  refine seg_plain rfl rfl rfl rfl rfl ?_
  intro K' hK'
  go_big_quiet_op
  go_big_quiet_on
  refine seg_plain rfl rfl rfl rfl rfl ?_
  intro K' hK'
  go_big_quiet_op
  go_big_quiet_on
  intro w9 hg
  have hv := hua.trans_ext hg.up
  have hb9 := hg.up.at hnew (by simp)
  clear hg e0 e1 f0 f1 f2 f3 f4 hnew hua
  have z0 := cell_of hb9 0
  have z1 := cell_of hb9 1
  have z2 := cell_of hb9 2
  have z3 := cell_of hb9 3
  have z4 := cell_of hb9 4
  have y0 := free_of hb9 0
  have y1 := free_of hb9 1
  have y2 := free_of hb9 2
  have y3 := free_of hb9 3
  have y4 := free_of hb9 4
  simp only [List.getElem?_toArray, List.getElem?_cons_zero, List.getElem?_cons_succ] at z0 z1 z2 z3 z4
  simp only [List.drop_succ_cons, List.drop_zero]
  have hst := tok_store hb9 (.int .i64 t.kind) (.string ⟨t.text.toArray⟩) (.int .i64 t.val) (.int .i64 t.line) (.int .i64 t.col)
  have huz := tok_up hv hB (.int .i64 t.kind) (.string ⟨t.text.toArray⟩) (.int .i64 t.val) (.int .i64 t.line) (.int .i64 t.col)
  clear hb9 hv hB
  go_wp2_with fail
  have q0 := cell_of hst 0
  have q1 := cell_of hst 1
  have q2 := cell_of hst 2
  have q3 := cell_of hst 3
  have q4 := cell_of hst 4
  simp only [List.getElem?_toArray, List.getElem?_cons_zero, List.getElem?_cons_succ] at q0 q1 q2 q3 q4
  exact bodyPost_ret (v := .agg #[.int .i64 t.kind, .string ⟨t.text.toArray⟩, .int .i64 t.val, .int .i64 t.line, .int .i64 t.col]) (by simp [results, Tryd.results72, go_sem, q0, q1, q2, q3, q4]) rfl ⟨rfl, huz⟩

theorem RdAt.ext {w w' : World} {p : Nat} {l : List Tok} {s : PS} (h : RdAt w p l s) (hu : Upto [] w w') : RdAt w' p l s := by
  obtain ⟨⟨v, hb, hT, hg⟩, hin, hf⟩ := h
  exact ⟨⟨v, hu.at hb (by simp), hT.ext hu, hg⟩, hin, hf⟩
/-- the reader goes on by one token -/
theorem RdAt.step {w : World} {p : Nat} {l : List Tok} {s : PS} (h : RdAt w p l s) (hk : (tkAt l s).kind ≠ 0) : RdAt (w.setCell ⟨p, 1, none⟩ (.int .i64 ((s.nx : Int) + 1))) p l (stepF s) ∧ Upto [p] w (w.setCell ⟨p, 1, none⟩ (.int .i64 ((s.nx : Int) + 1))) := by
  obtain ⟨⟨v, hb, hT, hg⟩, hin, hf⟩ := h
  have hu := (Upto.refl [p] w).setCell (p := ⟨p, 1, none⟩) (Or.inl (by simp)) (.int .i64 ((s.nx : Int) + 1))
  refine ⟨⟨⟨v, ?_, hT.upto hu (fun g o n c e hm => by simp at hm; have := hg g o n c e; omega), hg⟩, hf _ _ (tkAt_some hin) hk, hf⟩, hu⟩
  rw [set_same hb 1]
  rfl

set_option maxRecDepth 100000 in
set_option maxHeartbeats 6400000 in
theorem wrong_calls (w : World) (p k : Nat) (l : List Tok) (s : PS) (h : RdAt w p l s) : Calls Tryd.prog 73 #[.pointer (some ⟨p, 0, none⟩), .int .i64 k] w fun e w' => e = .returned (.tuple #[]) ∧ RdAt w' p l (wrongF k s) ∧ Upto [p] w w' := by
  have HR := Lib.hid h
  obtain ⟨⟨v, hb, hT, hg⟩, hin, hf⟩ := h
  have b2 := cell_of hb 2
  have f2 := free_of hb 2
  unfold rdC at b2
  simp only [List.getElem?_toArray, List.getElem?_cons_zero, List.getElem?_cons_succ] at b2
  by_cases h0 : s.er = 0
  · have h1 : ((s.er : Int) == 0) = true := by simp [h0]
    have hu := (Upto.refl [p] w).setCell (p := ⟨p, 2, none⟩) (Or.inl (by simp)) (.int .i64 k)
    have HN : Hid (RdAt (w.setCell ⟨p, 2, none⟩ (.int .i64 k)) p l (wrongF k s)) := Lib.hid (by
      refine ⟨⟨v, ?_, ?_, hg⟩, by unfold wrongF; rw [if_pos h0]; exact hin, hf⟩
      · have := set_same hb 2 (.int .i64 k)
        rw [this]
        unfold wrongF rdC
        rw [if_pos h0]
        rfl
      · exact hT.upto hu (fun g o n c e hm => by simp at hm; have := hg g o n c e; omega))
    clear hb hT hg h0
    go_enter Tryd.func73, Tryd.ntmps73
    go_wp2_with fail
    exact bodyPost_end (v := .tuple #[]) (by simp [results, Tryd.results73, go_sem]) rfl ⟨rfl, HN.out, hu⟩
  · have h1 : ((s.er : Int) == 0) = false := by rw [beq_eq_false_iff_ne]; omega
    have HN : Hid (RdAt w p l (wrongF k s)) := Lib.hid (by unfold wrongF; rw [if_neg h0]; exact HR.out)
    clear hb hT hg h0
    go_enter Tryd.func73, Tryd.ntmps73
    go_wp2_with fail
    exact bodyPost_end (v := .tuple #[]) (by simp [results, Tryd.results73, go_sem]) rfl ⟨rfl, HN.out, Upto.refl _ _⟩
end Go.Proofs.YtkhbpebpljdifaaDoor


namespace Go.Proofs.YtkhbpebpljdifaaDoor
open Go.RowKit Go.PL Go.Maps

set_option maxRecDepth 100000 in
set_option maxHeartbeats 6400000 in
theorem is_calls (w : World) (p : Nat) (l : List Tok) (s : PS) (x : List UInt8) (h : RdAt w p l s) : Calls Tryd.prog 94 #[.pointer (some ⟨p, 0, none⟩), .string ⟨x.toArray⟩] w fun e w' => e = .returned (.bool (isF l x s)) ∧ Upto [] w w' := by
  have HN := Lib.hid (next_calls w p l s h)
  obtain ⟨⟨v, hb, -, -⟩, -, -⟩ := h
  generalize ht : tkAt l s = t at HN
  obtain ⟨tk, tt, tv, tl, tc⟩ := t
  by_cases g0 : s.er = 0
  · have k0 : ((s.er : Int) == 0) = true := by simp [g0]
    by_cases g3 : tk = 3
    · have k3 : ((tk : Int) == 3) = true := by simp [g3]
      have g4 : ¬ tk = 4 := by omega
      by_cases gx : tt = x
      · have kx : (tt == x) = true := by simp [gx]
        have HV : Hid (isF l x s = true) := Lib.hid (by unfold isF; rw [ht]; simp [*])
        clear ht g0 g3 g4 gx
        go_enter Tryd.func94, Tryd.ntmps94
        go_wp2_with fail
        refine HN.out.mono ?_
        rintro e w1 ⟨rfl, hu1⟩
        unfold tkA
        have d2 := (((hu1.alloc (.cells #[.int .i64 tk, .string ⟨tt.toArray⟩, .int .i64 tv, .int .i64 tl, .int .i64 tc] 36)).at hb (by simp)))
        have b2 := cell_of d2 2
        unfold rdC at b2
        simp only [List.getElem?_toArray, List.getElem?_cons_zero, List.getElem?_cons_succ] at b2
        have hu2 := hu1.alloc (.cells #[.int .i64 tk, .string ⟨tt.toArray⟩, .int .i64 tv, .int .i64 tl, .int .i64 tc] 36)
        clear d2 hu1
        go_wp2_with fail
        go_ret
        exact ⟨by rw [HV.out]; rfl, hu2⟩
      · have kx : (tt == x) = false := by simp [gx]
        have HV : Hid (isF l x s = false) := Lib.hid (by unfold isF; rw [ht]; simp [*])
        clear ht g0 g3 g4 gx
        go_enter Tryd.func94, Tryd.ntmps94
        go_wp2_with fail
        refine HN.out.mono ?_
        rintro e w1 ⟨rfl, hu1⟩
        unfold tkA
        have d2 := (((hu1.alloc (.cells #[.int .i64 tk, .string ⟨tt.toArray⟩, .int .i64 tv, .int .i64 tl, .int .i64 tc] 36)).at hb (by simp)))
        have b2 := cell_of d2 2
        unfold rdC at b2
        simp only [List.getElem?_toArray, List.getElem?_cons_zero, List.getElem?_cons_succ] at b2
        have hu2 := hu1.alloc (.cells #[.int .i64 tk, .string ⟨tt.toArray⟩, .int .i64 tv, .int .i64 tl, .int .i64 tc] 36)
        clear d2 hu1
        go_wp2_with fail
        go_ret
        exact ⟨by rw [HV.out]; rfl, hu2⟩
    · have k3 : ((tk : Int) == 3) = false := by rw [beq_eq_false_iff_ne]; omega
      by_cases g4 : tk = 4
      · have k4 : ((tk : Int) == 4) = true := by simp [g4]
        by_cases gx : tt = x
        · have kx : (tt == x) = true := by simp [gx]
          have HV : Hid (isF l x s = true) := Lib.hid (by unfold isF; rw [ht]; simp [*])
          clear ht g0 g3 g4 gx
          go_enter Tryd.func94, Tryd.ntmps94
          go_wp2_with fail
          refine HN.out.mono ?_
          rintro e w1 ⟨rfl, hu1⟩
          unfold tkA
          have d2 := (((hu1.alloc (.cells #[.int .i64 tk, .string ⟨tt.toArray⟩, .int .i64 tv, .int .i64 tl, .int .i64 tc] 36)).at hb (by simp)))
          have b2 := cell_of d2 2
          unfold rdC at b2
          simp only [List.getElem?_toArray, List.getElem?_cons_zero, List.getElem?_cons_succ] at b2
          have hu2 := hu1.alloc (.cells #[.int .i64 tk, .string ⟨tt.toArray⟩, .int .i64 tv, .int .i64 tl, .int .i64 tc] 36)
          clear d2 hu1
          go_wp2_with fail
          go_ret
          exact ⟨by rw [HV.out]; rfl, hu2⟩
        · have kx : (tt == x) = false := by simp [gx]
          have HV : Hid (isF l x s = false) := Lib.hid (by unfold isF; rw [ht]; simp [*])
          clear ht g0 g3 g4 gx
          go_enter Tryd.func94, Tryd.ntmps94
          go_wp2_with fail
          refine HN.out.mono ?_
          rintro e w1 ⟨rfl, hu1⟩
          unfold tkA
          have d2 := (((hu1.alloc (.cells #[.int .i64 tk, .string ⟨tt.toArray⟩, .int .i64 tv, .int .i64 tl, .int .i64 tc] 36)).at hb (by simp)))
          have b2 := cell_of d2 2
          unfold rdC at b2
          simp only [List.getElem?_toArray, List.getElem?_cons_zero, List.getElem?_cons_succ] at b2
          have hu2 := hu1.alloc (.cells #[.int .i64 tk, .string ⟨tt.toArray⟩, .int .i64 tv, .int .i64 tl, .int .i64 tc] 36)
          clear d2 hu1
          go_wp2_with fail
          go_ret
          exact ⟨by rw [HV.out]; rfl, hu2⟩
      · have k4 : ((tk : Int) == 4) = false := by rw [beq_eq_false_iff_ne]; omega
        have gx : True := trivial
        have HV : Hid (isF l x s = false) := Lib.hid (by unfold isF; rw [ht]; simp [*])
        clear ht g0 g3 g4 gx
        go_enter Tryd.func94, Tryd.ntmps94
        go_wp2_with fail
        refine HN.out.mono ?_
        rintro e w1 ⟨rfl, hu1⟩
        unfold tkA
        have d2 := (((hu1.alloc (.cells #[.int .i64 tk, .string ⟨tt.toArray⟩, .int .i64 tv, .int .i64 tl, .int .i64 tc] 36)).at hb (by simp)))
        have b2 := cell_of d2 2
        unfold rdC at b2
        simp only [List.getElem?_toArray, List.getElem?_cons_zero, List.getElem?_cons_succ] at b2
        have hu2 := hu1.alloc (.cells #[.int .i64 tk, .string ⟨tt.toArray⟩, .int .i64 tv, .int .i64 tl, .int .i64 tc] 36)
        clear d2 hu1
        go_wp2_with fail
        go_ret
        exact ⟨by rw [HV.out]; rfl, hu2⟩
  · have k0 : ((s.er : Int) == 0) = false := by rw [beq_eq_false_iff_ne]; omega
    have g3 : True := trivial
    have g4 : True := trivial
    have gx : True := trivial
    have HV : Hid (isF l x s = false) := Lib.hid (by unfold isF; rw [ht]; simp [*])
    clear ht g0 g3 g4 gx
    go_enter Tryd.func94, Tryd.ntmps94
    go_wp2_with fail
    refine HN.out.mono ?_
    rintro e w1 ⟨rfl, hu1⟩
    unfold tkA
    have d2 := (((hu1.alloc (.cells #[.int .i64 tk, .string ⟨tt.toArray⟩, .int .i64 tv, .int .i64 tl, .int .i64 tc] 36)).at hb (by simp)))
    have b2 := cell_of d2 2
    unfold rdC at b2
    simp only [List.getElem?_toArray, List.getElem?_cons_zero, List.getElem?_cons_succ] at b2
    have hu2 := hu1.alloc (.cells #[.int .i64 tk, .string ⟨tt.toArray⟩, .int .i64 tv, .int .i64 tl, .int .i64 tc] 36)
    clear d2 hu1
    go_wp2_with fail
    go_ret
    exact ⟨by rw [HV.out]; rfl, hu2⟩

theorem isF_kind {l : List Tok} {x : List UInt8} {s : PS} (h : isF l x s = true) : (tkAt l s).kind ≠ 0 := by
  unfold isF at h
  simp only [Bool.and_eq_true, Bool.or_eq_true, decide_eq_true_eq] at h
  omega
set_option maxRecDepth 100000 in
set_option maxHeartbeats 6400000 in
theorem takes_calls (w : World) (p : Nat) (l : List Tok) (s : PS) (x : List UInt8) (h : RdAt w p l s) (hl : l.length ≤ 1000000) : Calls Tryd.prog 77 #[.pointer (some ⟨p, 0, none⟩), .string ⟨x.toArray⟩] w fun e w' => e = .returned (.bool (isF l x s)) ∧ RdAt w' p l (takesF l x s).2 ∧ Upto [p] w w' := by
  have HC := Lib.hid (is_calls w p l s x h)
  have hin := h.inb
  have HR := Lib.hid h
  cases hv : isF l x s with
  | true =>
    rw [hv] at HC
    have HT : Hid ((takesF l x s).2 = stepF s) := Lib.hid (by unfold takesF; rw [if_pos hv])
    have HK := Lib.hid (isF_kind hv)
    clear h hv
    have hn0 : (0 : Int) ≤ s.nx := by omega
    have hn1 : (s.nx : Int) ≤ 1000000 := by omega
    go_enter Tryd.func77, Tryd.ntmps77
    go_wp2_with fail
    refine HC.out.mono ?_
    rintro e w1 ⟨rfl, hu1⟩
    have hR1 := HR.out.ext hu1
    have HS := Lib.hid (hR1.step HK.out)
    obtain ⟨⟨v, hb, -, -⟩, -, -⟩ := hR1
    have b1 := cell_of hb 1
    have f1 := free_of hb 1
    unfold rdC at b1
    simp only [List.getElem?_toArray, List.getElem?_cons_zero, List.getElem?_cons_succ] at b1
    have HU := Lib.hid hu1
    clear hb hu1
    go_wp2_with fail
    go_ret
    exact ⟨rfl, by rw [HT.out]; exact HS.out.1, (HU.out.mono (by simp)).trans_same HS.out.2⟩
  | false =>
    rw [hv] at HC
    have HT : Hid ((takesF l x s).2 = s) := Lib.hid (by unfold takesF; rw [hv]; rfl)
    clear h hv
    go_enter Tryd.func77, Tryd.ntmps77
    go_wp2_with fail
    refine HC.out.mono ?_
    rintro e w1 ⟨rfl, hu1⟩
    have HU := Lib.hid hu1
    clear hu1
    go_wp2_with fail
    go_ret
    exact ⟨rfl, by rw [HT.out]; exact HR.out.ext HU.out, HU.out.mono (by simp)⟩
end Go.Proofs.YtkhbpebpljdifaaDoor


namespace Go.Proofs.YtkhbpebpljdifaaDoor
open Go.RowKit Go.PL Go.Maps

set_option maxRecDepth 100000 in
set_option maxHeartbeats 6400000 in
theorem need_calls (w : World) (p : Nat) (l : List Tok) (s : PS) (x : List UInt8) (h : RdAt w p l s) (hl : l.length ≤ 1000000) : Calls Tryd.prog 82 #[.pointer (some ⟨p, 0, none⟩), .string ⟨x.toArray⟩] w fun e w' => e = .returned (.tuple #[]) ∧ RdAt w' p l (needF l x s) ∧ Upto [p] w w' := by
  have HC := Lib.hid (takes_calls w p l s x h hl)
  cases hv : isF l x s with
  | true =>
    rw [hv] at HC
    have HT : Hid ((takesF l x s).2 = needF l x s) := Lib.hid (by unfold takesF needF; rw [if_pos hv, if_pos hv])
    clear h hv
    go_enter Tryd.func82, Tryd.ntmps82
    go_wp2_with fail
    refine HC.out.mono ?_
    rintro e w1 ⟨rfl, hR1, hu1⟩
    rw [HT.out] at hR1
    have HU := Lib.hid hu1
    have HR := Lib.hid hR1
    clear hu1 hR1
    go_wp2_with fail
    exact bodyPost_end (v := .tuple #[]) (by simp [results, Tryd.results82, go_sem]) rfl ⟨rfl, HR.out, HU.out⟩
  | false =>
    rw [hv] at HC
    have HT : Hid ((takesF l x s).2 = s ∧ needF l x s = wrongF 3 s) := Lib.hid (by unfold takesF needF; rw [hv]; exact ⟨rfl, rfl⟩)
    have HW := Lib.hid (fun w h => wrong_calls w p 3 l s h)
    clear h hv
    go_enter Tryd.func82, Tryd.ntmps82
    go_wp2_with fail
    refine HC.out.mono ?_
    rintro e w1 ⟨rfl, hR1, hu1⟩
    rw [HT.out.1] at hR1
    have HU := Lib.hid hu1
    have HR := Lib.hid hR1
    clear hu1 hR1
    go_wp2_with fail
    refine (HW.out w1 HR.out).mono ?_
    rintro e w2 ⟨rfl, hR2, hu2⟩
    have HR2 := Lib.hid hR2
    have HU2 := Lib.hid (HU.out.trans_same hu2)
    clear hR2 hu2
    go_wp2_with fail
    exact bodyPost_end (v := .tuple #[]) (by simp [results, Tryd.results82, go_sem]) rfl ⟨rfl, by rw [HT.out.2]; exact HR2.out, HU2.out⟩
end Go.Proofs.YtkhbpebpljdifaaDoor


namespace Go.Proofs.YtkhbpebpljdifaaDoor
open Go.RowKit Go.PL Go.Maps

theorem wrongF_er (k : Nat) (hk : k ≠ 0) (s : PS) : (wrongF k s).er ≠ 0 := by
  unfold wrongF
  split
  · exact hk
  · assumption
set_option maxRecDepth 100000 in
set_option maxHeartbeats 6400000 in
theorem name_calls (w : World) (p : Nat) (l : List Tok) (s : PS) (h : RdAt w p l s) (hl : l.length ≤ 1000000) : Calls Tryd.prog 81 #[.pointer (some ⟨p, 0, none⟩)] w fun e w' => e = .returned (.string ⟨(identR l s).1.toArray⟩) ∧ RdAt w' p l (identR l s).2 ∧ Upto [p] w w' := by
  have HN := Lib.hid (next_calls w p l s h)
  have hin := h.inb
  have HR := Lib.hid h
  clear h
  generalize ht : tkAt l s = t at HN
  obtain ⟨tk, tt, tv, tl, tc⟩ := t
  have hn0 : (0 : Int) ≤ s.nx := by omega
  have hn1 : (s.nx : Int) ≤ 1000000 := by omega
  by_cases g1 : tk = 1
  · have k1 : ((tk : Int) == 1) = true := by simp [g1]
    have k2 : ((tk : Int) != 1) = false := by rw [bne, k1]; rfl
    by_cases g0 : s.er = 0
    · have k0 : ((s.er : Int) == 0) = true := by simp [g0]
      have k3 : ((s.er : Int) != 0) = false := by rw [bne, k0]; rfl
      have HV : Hid (identR l s = (tt, stepF s)) := Lib.hid (by unfold identR; rw [ht]; simp [g1, g0])
      have HK : Hid ((tkAt l s).kind ≠ 0) := Lib.hid (by rw [ht]; simp [g1])
      clear ht g1 g0
      go_enter Tryd.func81, Tryd.ntmps81
      go_wp2_with fail
      refine HN.out.mono ?_
      rintro e w1 ⟨rfl, hu1⟩
      unfold tkA
      go_upto_region 2 with fail
      have hR2 := HR.out.ext (hu1.alloc (.cells #[.int .i64 tk, .string ⟨tt.toArray⟩, .int .i64 tv, .int .i64 tl, .int .i64 tc] 36))
      have hu2 := hu1.alloc (.cells #[.int .i64 tk, .string ⟨tt.toArray⟩, .int .i64 tv, .int .i64 tl, .int .i64 tc] 36)
      have hx2 := new_at w1 (.cells #[.int .i64 tk, .string ⟨tt.toArray⟩, .int .i64 tv, .int .i64 tl, .int .i64 tc] 36)
      clear hu1
      generalize w1.alloc (.cells #[.int .i64 tk, .string ⟨tt.toArray⟩, .int .i64 tv, .int .i64 tl, .int .i64 tc] 36) = W2 at *
      generalize w1.heap.size = B at *
      obtain ⟨⟨v, hb, -, -⟩, -, -⟩ := id hR2
      have b1 := cell_of hb 1
      have b2 := cell_of hb 2
      have f1 := free_of hb 1
      have x0 := cell_of hx2 0
      have x1 := cell_of hx2 1
      unfold rdC at b1 b2
      simp only [List.getElem?_toArray, List.getElem?_cons_zero, List.getElem?_cons_succ] at b1 b2 x0 x1
      have HS := Lib.hid (hR2.step HK.out)
      have HU := Lib.hid hu2
      have hBp : B ≠ p := fun h => by subst h; rw [hx2] at hb; simp [rdC] at hb
      have x1' := ((hR2.step HK.out).2.cell (p := ⟨B, 1, none⟩) (World.block_lt_of_cell? W2 _ x1) (by simpa using hBp)).trans x1
      clear hR2 hu2 hb hx2
      go_wp2_with fail
      go_ret
      exact ⟨by rw [HV.out]; rfl, by rw [HV.out]; exact HS.out.1, (HU.out.mono (by simp)).trans_same HS.out.2⟩
    · have k0 : ((s.er : Int) == 0) = false := by rw [beq_eq_false_iff_ne]; omega
      have k3 : ((s.er : Int) != 0) = true := by rw [bne, k0]; rfl
      have HV : Hid (identR l s = ([], s)) := Lib.hid (by unfold identR; rw [ht]; simp [g1, g0])
      clear ht g1 g0
      go_enter Tryd.func81, Tryd.ntmps81
      go_wp2_with fail
      refine HN.out.mono ?_
      rintro e w1 ⟨rfl, hu1⟩
      unfold tkA
      go_upto_region 2 with fail
      have hR2 := HR.out.ext (hu1.alloc (.cells #[.int .i64 tk, .string ⟨tt.toArray⟩, .int .i64 tv, .int .i64 tl, .int .i64 tc] 36))
      have hu2 := hu1.alloc (.cells #[.int .i64 tk, .string ⟨tt.toArray⟩, .int .i64 tv, .int .i64 tl, .int .i64 tc] 36)
      have hx2 := new_at w1 (.cells #[.int .i64 tk, .string ⟨tt.toArray⟩, .int .i64 tv, .int .i64 tl, .int .i64 tc] 36)
      clear hu1
      generalize w1.alloc (.cells #[.int .i64 tk, .string ⟨tt.toArray⟩, .int .i64 tv, .int .i64 tl, .int .i64 tc] 36) = W2 at *
      generalize w1.heap.size = B at *
      obtain ⟨⟨v, hb, -, -⟩, -, -⟩ := id hR2
      have b1 := cell_of hb 1
      have b2 := cell_of hb 2
      have f1 := free_of hb 1
      have x0 := cell_of hx2 0
      have x1 := cell_of hx2 1
      unfold rdC at b1 b2
      simp only [List.getElem?_toArray, List.getElem?_cons_zero, List.getElem?_cons_succ] at b1 b2 x0 x1
      have HU := Lib.hid hu2
      have HR2 := Lib.hid hR2
      clear hR2 hu2 hb hx2
      go_wp2_with fail
      go_ret
      exact ⟨by rw [HV.out]; rfl, by rw [HV.out]; exact HR2.out, HU.out.mono (by simp)⟩
  · have k1 : ((tk : Int) == 1) = false := by rw [beq_eq_false_iff_ne]; omega
    have k2 : ((tk : Int) != 1) = true := by rw [bne, k1]; rfl
    have hw0 := wrongF_er 3 (by decide) s
    have k0 : (((wrongF 3 s).er : Int) == 0) = false := by rw [beq_eq_false_iff_ne]; omega
    have k3 : (((wrongF 3 s).er : Int) != 0) = true := by rw [bne, k0]; rfl
    have HV : Hid (identR l s = ([], wrongF 3 s)) := Lib.hid (by unfold identR; rw [ht]; simp [g1, hw0])
    clear ht g1 hw0
    go_enter Tryd.func81, Tryd.ntmps81
    go_wp2_with fail
    refine HN.out.mono ?_
    rintro e w1 ⟨rfl, hu1⟩
    unfold tkA
    go_upto_region 2 with fail
    have hR2 := HR.out.ext (hu1.alloc (.cells #[.int .i64 tk, .string ⟨tt.toArray⟩, .int .i64 tv, .int .i64 tl, .int .i64 tc] 36))
    have hu2 := hu1.alloc (.cells #[.int .i64 tk, .string ⟨tt.toArray⟩, .int .i64 tv, .int .i64 tl, .int .i64 tc] 36)
    have hx2 := new_at w1 (.cells #[.int .i64 tk, .string ⟨tt.toArray⟩, .int .i64 tv, .int .i64 tl, .int .i64 tc] 36)
    clear hu1
    generalize w1.alloc (.cells #[.int .i64 tk, .string ⟨tt.toArray⟩, .int .i64 tv, .int .i64 tl, .int .i64 tc] 36) = W2 at *
    generalize w1.heap.size = B at *
    obtain ⟨⟨v, hb, -, -⟩, -, -⟩ := id hR2
    have b1 := cell_of hb 1
    have b2 := cell_of hb 2
    have f1 := free_of hb 1
    have x0 := cell_of hx2 0
    have x1 := cell_of hx2 1
    unfold rdC at b1 b2
    simp only [List.getElem?_toArray, List.getElem?_cons_zero, List.getElem?_cons_succ] at b1 b2 x0 x1
    have HU := Lib.hid hu2
    have HR2 := Lib.hid hR2
    clear hR2 hu2 hb hx2 b1 b2 f1
    go_wp2_with fail
    refine (wrong_calls W2 p 3 l s HR2.out).mono ?_
    rintro e w3 ⟨rfl, hR3, hu3⟩
    obtain ⟨⟨v3, hb3, -, -⟩, -, -⟩ := id hR3
    have b3 := cell_of hb3 2
    unfold rdC at b3
    simp only [List.getElem?_toArray, List.getElem?_cons_zero, List.getElem?_cons_succ] at b3
    have HR3 := Lib.hid hR3
    have HU3 := Lib.hid ((HU.out.mono (by simp)).trans_same hu3)
    clear hR3 hu3 hb3 x0 x1
    go_wp2_with fail
    go_ret
    exact ⟨by rw [HV.out]; rfl, by rw [HV.out]; exact HR3.out, HU3.out⟩
end Go.Proofs.YtkhbpebpljdifaaDoor


namespace Go.Proofs.YtkhbpebpljdifaaDoor
open Go.RowKit Go.PL Go.Maps

set_option maxRecDepth 100000 in
set_option maxHeartbeats 6400000 in
theorem number_callsP (w : World) (p : Nat) (a z : Int) (l : List Tok) (s : PS) (h : RdAt w p l s) (hl : l.length ≤ 1000000) : Calls Tryd.prog 119 #[.pointer (some ⟨p, 0, none⟩), .int .i64 a, .int .i64 z] w fun e w' => e = .returned (.int .i64 (numberP l a z s).1) ∧ RdAt w' p l (numberP l a z s).2 ∧ Upto [p] w w' := by
  have HN := Lib.hid (next_calls w p l s h)
  have hin := h.inb
  have HR := Lib.hid h
  clear h
  generalize ht : tkAt l s = t at HN
  obtain ⟨tk, tt, tv, tl, tc⟩ := t
  have hn0 : (0 : Int) ≤ s.nx := by omega
  have hn1 : (s.nx : Int) ≤ 1000000 := by omega
  by_cases g1 : tk = 2
  · have k1 : ((tk : Int) == 2) = true := by simp [g1]
    have k2 : ((tk : Int) != 2) = false := by rw [bne, k1]; rfl
    by_cases ga : (tv : Int) < a
    · have hw0 := wrongF_er 2 (by decide) s
      have k0 : (((wrongF 2 s).er : Int) == 0) = false := by rw [beq_eq_false_iff_ne]; omega
      have k3 : (((wrongF 2 s).er : Int) != 0) = true := by rw [bne, k0]; rfl
      have HV : Hid (numberP l a z s = (0, wrongF 2 s)) := Lib.hid (by unfold numberP; rw [ht]; simp [g1, hw0, ga])
      clear ht g1 hw0
      go_enter Tryd.func119, Tryd.ntmps119
      go_wp2_with fail
      refine HN.out.mono ?_
      rintro e w1 ⟨rfl, hu1⟩
      unfold tkA
      go_upto_region 2 with fail
      have hR2 := HR.out.ext (hu1.alloc (.cells #[.int .i64 tk, .string ⟨tt.toArray⟩, .int .i64 tv, .int .i64 tl, .int .i64 tc] 36))
      have hu2 := hu1.alloc (.cells #[.int .i64 tk, .string ⟨tt.toArray⟩, .int .i64 tv, .int .i64 tl, .int .i64 tc] 36)
      have hx2 := new_at w1 (.cells #[.int .i64 tk, .string ⟨tt.toArray⟩, .int .i64 tv, .int .i64 tl, .int .i64 tc] 36)
      clear hu1
      generalize w1.alloc (.cells #[.int .i64 tk, .string ⟨tt.toArray⟩, .int .i64 tv, .int .i64 tl, .int .i64 tc] 36) = W2 at *
      generalize w1.heap.size = B at *
      obtain ⟨⟨v, hb, -, -⟩, -, -⟩ := id hR2
      have b1 := cell_of hb 1
      have b2 := cell_of hb 2
      have f1 := free_of hb 1
      have x0 := cell_of hx2 0
      have x1 := cell_of hx2 2
      unfold rdC at b1 b2
      simp only [List.getElem?_toArray, List.getElem?_cons_zero, List.getElem?_cons_succ] at b1 b2 x0 x1
      have HU := Lib.hid hu2
      have HR2 := Lib.hid hR2
      clear hR2 hu2 hb hx2 b1 b2 f1
      go_wp2_with fail
      refine (wrong_calls W2 p 2 l s HR2.out).mono ?_
      rintro e w3 ⟨rfl, hR3, hu3⟩
      obtain ⟨⟨v3, hb3, -, -⟩, -, -⟩ := id hR3
      have b3 := cell_of hb3 2
      unfold rdC at b3
      simp only [List.getElem?_toArray, List.getElem?_cons_zero, List.getElem?_cons_succ] at b3
      have HR3 := Lib.hid hR3
      have HU3 := Lib.hid ((HU.out.mono (by simp)).trans_same hu3)
      clear hR3 hu3 hb3 x0 x1
      go_wp2_with fail
      go_ret
      exact ⟨by rw [HV.out]; rfl, by rw [HV.out]; exact HR3.out, HU3.out⟩
    · by_cases gz : z < (tv : Int)
      · have hw0 := wrongF_er 2 (by decide) s
        have k0 : (((wrongF 2 s).er : Int) == 0) = false := by rw [beq_eq_false_iff_ne]; omega
        have k3 : (((wrongF 2 s).er : Int) != 0) = true := by rw [bne, k0]; rfl
        have HV : Hid (numberP l a z s = (0, wrongF 2 s)) := Lib.hid (by unfold numberP; rw [ht]; simp [g1, hw0, gz])
        clear ht g1 hw0
        go_enter Tryd.func119, Tryd.ntmps119
        go_wp2_with fail
        refine HN.out.mono ?_
        rintro e w1 ⟨rfl, hu1⟩
        unfold tkA
        go_upto_region 2 with fail
        have hR2 := HR.out.ext (hu1.alloc (.cells #[.int .i64 tk, .string ⟨tt.toArray⟩, .int .i64 tv, .int .i64 tl, .int .i64 tc] 36))
        have hu2 := hu1.alloc (.cells #[.int .i64 tk, .string ⟨tt.toArray⟩, .int .i64 tv, .int .i64 tl, .int .i64 tc] 36)
        have hx2 := new_at w1 (.cells #[.int .i64 tk, .string ⟨tt.toArray⟩, .int .i64 tv, .int .i64 tl, .int .i64 tc] 36)
        clear hu1
        generalize w1.alloc (.cells #[.int .i64 tk, .string ⟨tt.toArray⟩, .int .i64 tv, .int .i64 tl, .int .i64 tc] 36) = W2 at *
        generalize w1.heap.size = B at *
        obtain ⟨⟨v, hb, -, -⟩, -, -⟩ := id hR2
        have b1 := cell_of hb 1
        have b2 := cell_of hb 2
        have f1 := free_of hb 1
        have x0 := cell_of hx2 0
        have x1 := cell_of hx2 2
        unfold rdC at b1 b2
        simp only [List.getElem?_toArray, List.getElem?_cons_zero, List.getElem?_cons_succ] at b1 b2 x0 x1
        have HU := Lib.hid hu2
        have HR2 := Lib.hid hR2
        clear hR2 hu2 hb hx2 b1 b2 f1
        go_wp2_with fail
        refine (wrong_calls W2 p 2 l s HR2.out).mono ?_
        rintro e w3 ⟨rfl, hR3, hu3⟩
        obtain ⟨⟨v3, hb3, -, -⟩, -, -⟩ := id hR3
        have b3 := cell_of hb3 2
        unfold rdC at b3
        simp only [List.getElem?_toArray, List.getElem?_cons_zero, List.getElem?_cons_succ] at b3
        have HR3 := Lib.hid hR3
        have HU3 := Lib.hid ((HU.out.mono (by simp)).trans_same hu3)
        clear hR3 hu3 hb3 x0 x1
        go_wp2_with fail
        go_ret
        exact ⟨by rw [HV.out]; rfl, by rw [HV.out]; exact HR3.out, HU3.out⟩
      · by_cases g0 : s.er = 0
        · have k0 : ((s.er : Int) == 0) = true := by simp [g0]
          have k3 : ((s.er : Int) != 0) = false := by rw [bne, k0]; rfl
          have HV : Hid (numberP l a z s = ((tv : Int), stepF s)) := Lib.hid (by unfold numberP; rw [ht]; simp [g1, g0, ga, gz])
          have HK : Hid ((tkAt l s).kind ≠ 0) := Lib.hid (by rw [ht]; simp [g1])
          clear ht g1 g0
          go_enter Tryd.func119, Tryd.ntmps119
          go_wp2_with fail
          refine HN.out.mono ?_
          rintro e w1 ⟨rfl, hu1⟩
          unfold tkA
          go_upto_region 2 with fail
          have hR2 := HR.out.ext (hu1.alloc (.cells #[.int .i64 tk, .string ⟨tt.toArray⟩, .int .i64 tv, .int .i64 tl, .int .i64 tc] 36))
          have hu2 := hu1.alloc (.cells #[.int .i64 tk, .string ⟨tt.toArray⟩, .int .i64 tv, .int .i64 tl, .int .i64 tc] 36)
          have hx2 := new_at w1 (.cells #[.int .i64 tk, .string ⟨tt.toArray⟩, .int .i64 tv, .int .i64 tl, .int .i64 tc] 36)
          clear hu1
          generalize w1.alloc (.cells #[.int .i64 tk, .string ⟨tt.toArray⟩, .int .i64 tv, .int .i64 tl, .int .i64 tc] 36) = W2 at *
          generalize w1.heap.size = B at *
          obtain ⟨⟨v, hb, -, -⟩, -, -⟩ := id hR2
          have b1 := cell_of hb 1
          have b2 := cell_of hb 2
          have f1 := free_of hb 1
          have x0 := cell_of hx2 0
          have x1 := cell_of hx2 2
          unfold rdC at b1 b2
          simp only [List.getElem?_toArray, List.getElem?_cons_zero, List.getElem?_cons_succ] at b1 b2 x0 x1
          have HS := Lib.hid (hR2.step HK.out)
          have HU := Lib.hid hu2
          have hBp : B ≠ p := fun h => by subst h; rw [hx2] at hb; simp [rdC] at hb
          have x1' := ((hR2.step HK.out).2.cell (p := ⟨B, 2, none⟩) (World.block_lt_of_cell? W2 _ x1) (by simpa using hBp)).trans x1
          clear hR2 hu2 hb hx2
          go_wp2_with fail
          go_ret
          exact ⟨by rw [HV.out]; rfl, by rw [HV.out]; exact HS.out.1, (HU.out.mono (by simp)).trans_same HS.out.2⟩
        · have k0 : ((s.er : Int) == 0) = false := by rw [beq_eq_false_iff_ne]; omega
          have k3 : ((s.er : Int) != 0) = true := by rw [bne, k0]; rfl
          have HV : Hid (numberP l a z s = (0, s)) := Lib.hid (by unfold numberP; rw [ht]; simp [g1, g0, ga, gz])
          clear ht g1 g0
          go_enter Tryd.func119, Tryd.ntmps119
          go_wp2_with fail
          refine HN.out.mono ?_
          rintro e w1 ⟨rfl, hu1⟩
          unfold tkA
          go_upto_region 2 with fail
          have hR2 := HR.out.ext (hu1.alloc (.cells #[.int .i64 tk, .string ⟨tt.toArray⟩, .int .i64 tv, .int .i64 tl, .int .i64 tc] 36))
          have hu2 := hu1.alloc (.cells #[.int .i64 tk, .string ⟨tt.toArray⟩, .int .i64 tv, .int .i64 tl, .int .i64 tc] 36)
          have hx2 := new_at w1 (.cells #[.int .i64 tk, .string ⟨tt.toArray⟩, .int .i64 tv, .int .i64 tl, .int .i64 tc] 36)
          clear hu1
          generalize w1.alloc (.cells #[.int .i64 tk, .string ⟨tt.toArray⟩, .int .i64 tv, .int .i64 tl, .int .i64 tc] 36) = W2 at *
          generalize w1.heap.size = B at *
          obtain ⟨⟨v, hb, -, -⟩, -, -⟩ := id hR2
          have b1 := cell_of hb 1
          have b2 := cell_of hb 2
          have f1 := free_of hb 1
          have x0 := cell_of hx2 0
          have x1 := cell_of hx2 2
          unfold rdC at b1 b2
          simp only [List.getElem?_toArray, List.getElem?_cons_zero, List.getElem?_cons_succ] at b1 b2 x0 x1
          have HU := Lib.hid hu2
          have HR2 := Lib.hid hR2
          clear hR2 hu2 hb hx2
          go_wp2_with fail
          go_ret
          exact ⟨by rw [HV.out]; rfl, by rw [HV.out]; exact HR2.out, HU.out.mono (by simp)⟩
  · have k1 : ((tk : Int) == 2) = false := by rw [beq_eq_false_iff_ne]; omega
    have k2 : ((tk : Int) != 2) = true := by rw [bne, k1]; rfl
    have hw0 := wrongF_er 3 (by decide) s
    have k0 : (((wrongF 3 s).er : Int) == 0) = false := by rw [beq_eq_false_iff_ne]; omega
    have k3 : (((wrongF 3 s).er : Int) != 0) = true := by rw [bne, k0]; rfl
    have HV : Hid (numberP l a z s = (0, wrongF 3 s)) := Lib.hid (by unfold numberP; rw [ht]; simp [g1, hw0])
    clear ht g1 hw0
    go_enter Tryd.func119, Tryd.ntmps119
    go_wp2_with fail
    refine HN.out.mono ?_
    rintro e w1 ⟨rfl, hu1⟩
    unfold tkA
    go_upto_region 2 with fail
    have hR2 := HR.out.ext (hu1.alloc (.cells #[.int .i64 tk, .string ⟨tt.toArray⟩, .int .i64 tv, .int .i64 tl, .int .i64 tc] 36))
    have hu2 := hu1.alloc (.cells #[.int .i64 tk, .string ⟨tt.toArray⟩, .int .i64 tv, .int .i64 tl, .int .i64 tc] 36)
    have hx2 := new_at w1 (.cells #[.int .i64 tk, .string ⟨tt.toArray⟩, .int .i64 tv, .int .i64 tl, .int .i64 tc] 36)
    clear hu1
    generalize w1.alloc (.cells #[.int .i64 tk, .string ⟨tt.toArray⟩, .int .i64 tv, .int .i64 tl, .int .i64 tc] 36) = W2 at *
    generalize w1.heap.size = B at *
    obtain ⟨⟨v, hb, -, -⟩, -, -⟩ := id hR2
    have b1 := cell_of hb 1
    have b2 := cell_of hb 2
    have f1 := free_of hb 1
    have x0 := cell_of hx2 0
    have x1 := cell_of hx2 2
    unfold rdC at b1 b2
    simp only [List.getElem?_toArray, List.getElem?_cons_zero, List.getElem?_cons_succ] at b1 b2 x0 x1
    have HU := Lib.hid hu2
    have HR2 := Lib.hid hR2
    clear hR2 hu2 hb hx2 b1 b2 f1
    go_wp2_with fail
    refine (wrong_calls W2 p 3 l s HR2.out).mono ?_
    rintro e w3 ⟨rfl, hR3, hu3⟩
    obtain ⟨⟨v3, hb3, -, -⟩, -, -⟩ := id hR3
    have b3 := cell_of hb3 2
    unfold rdC at b3
    simp only [List.getElem?_toArray, List.getElem?_cons_zero, List.getElem?_cons_succ] at b3
    have HR3 := Lib.hid hR3
    have HU3 := Lib.hid ((HU.out.mono (by simp)).trans_same hu3)
    clear hR3 hu3 hb3 x0 x1
    go_wp2_with fail
    go_ret
    exact ⟨by rw [HV.out]; rfl, by rw [HV.out]; exact HR3.out, HU3.out⟩
end Go.Proofs.YtkhbpebpljdifaaDoor


namespace Go.Proofs.YtkhbpebpljdifaaDoor
open Go.RowKit Go.PL

/-- block b holds cells -/
def IsC (w : World) (b : Nat) : Prop := ∃ cs t z, w.heap[b]? = some (.cells cs t z)
theorem IsC.lt {w : World} {b : Nat} (h : IsC w b) : b < w.heap.size := by
  obtain ⟨cs, t, z, h⟩ := h
  exact lt_of_heap h
theorem IsC.stay {w w' : World} {b : Nat} (h : IsC w b) (he : w'.heap[b]? = w.heap[b]?) : IsC w' b := by
  obtain ⟨cs, t, z, h⟩ := h
  exact ⟨cs, t, z, he.trans h⟩
def sV (x : List UInt8) : Value := .string ⟨x.toArray⟩
/-- n elements whose cells read xs, in a block of P -/
def SlP (w : World) (P : Nat → Prop) (v : Value) (n : Nat) (xs : List Value) : Prop :=
  (n = 0 ∧ xs = [] ∧ ∃ a c, v = .slice a 0 c) ∨ ∃ g o c, v = .slice (some ⟨g, o, none⟩) n c ∧ (P g ∧ IsC w g) ∧ ∀ j u, xs[j]? = some u → w.cell? ⟨g, o + j, none⟩ = some u
theorem SlP.len {w : World} {P : Nat → Prop} {v : Value} {n : Nat} {xs : List Value} (h : SlP w P v n xs) : ∃ a c, v = .slice a n c := by
  rcases h with ⟨rfl, -, a, c, rfl⟩ | ⟨g, o, c, rfl, -⟩
  · exact ⟨a, c, rfl⟩
  · exact ⟨_, c, rfl⟩
/-- the blocks of P read in w' as in w, and are of Q -/
structure Keep (w w' : World) (P Q : Nat → Prop) : Prop where
  size : w.heap.size ≤ w'.heap.size
  of : ∀ b, P b → IsC w b → Q b ∧ w'.heap[b]? = w.heap[b]?
theorem Keep.upto {S : List Nat} {w w' : World} {P : Nat → Prop} (hu : Upto S w w') (hs : ∀ b, P b → IsC w b → b ∉ S) : Keep w w' P P := ⟨hu.size, fun b hb hl => ⟨hb, hu.block b hl.lt (hs b hb hl)⟩⟩
theorem Keep.mono {w : World} {P Q : Nat → Prop} (h : ∀ b, P b → IsC w b → Q b) : Keep w w P Q := ⟨Nat.le_refl _, fun b hb hl => ⟨h b hb hl, rfl⟩⟩
theorem SlP.keep {w w' : World} {P Q : Nat → Prop} (hk : Keep w w' P Q) {v : Value} {n : Nat} {xs : List Value} (h : SlP w P v n xs) : SlP w' Q v n xs := by
  rcases h with h | ⟨g, o, c, rfl, ⟨hg, hl⟩, hc⟩
  · exact Or.inl h
  · obtain ⟨h1, h2⟩ := hk.of g hg hl
    refine Or.inr ⟨g, o, c, rfl, ⟨h1, hl.stay h2⟩, fun j u hj => ?_⟩
    rw [World.cell?_of_block (w := w) h2]
    exact hc j u hj

mutual
/-- v is the formula nd -/
def NdV (w : World) (P : Nat → Prop) : Nd → Value → Prop
  | .mk op names sort n m l, v => ∃ vn vl, v = .agg #[.int .i64 op, vn, .int .i64 sort, .int .i64 n, .int .i64 m, vl] ∧ SlP w P vn names.length (names.map sV) ∧
      ((l = [] ∧ ∃ a c, vl = .slice a 0 c) ∨ ∃ g o c, vl = .slice (some ⟨g, o, none⟩) l.length c ∧ (P g ∧ IsC w g) ∧ NdsV w P g o l)
/-- from o on block g holds these formulas -/
def NdsV (w : World) (P : Nat → Prop) (g : Nat) : Nat → List Nd → Prop
  | _, [] => True
  | o, x :: xs => (∃ v0 v1 v2 v3 v4 v5, w.cell? ⟨g, o, none⟩ = some v0 ∧ w.cell? ⟨g, o + 1, none⟩ = some v1 ∧ w.cell? ⟨g, o + 2, none⟩ = some v2 ∧ w.cell? ⟨g, o + 3, none⟩ = some v3 ∧ w.cell? ⟨g, o + 4, none⟩ = some v4 ∧ w.cell? ⟨g, o + 5, none⟩ = some v5 ∧
      NdV w P x (.agg #[v0, v1, v2, v3, v4, v5])) ∧ NdsV w P g (o + 6) xs
end

mutual
theorem NdV.keep {w w' : World} {P Q : Nat → Prop} (hk : Keep w w' P Q) : ∀ (nd : Nd) (v : Value), NdV w P nd v → NdV w' Q nd v
  | .mk op names sort n m l, v, h => by
    unfold NdV at h ⊢
    obtain ⟨vn, vl, e, h1, h2⟩ := h
    refine ⟨vn, vl, e, h1.keep hk, ?_⟩
    rcases h2 with h2 | ⟨g, o, c, e2, ⟨hg, hl⟩, h3⟩
    · exact Or.inl h2
    · obtain ⟨k1, k2⟩ := hk.of g hg hl
      exact Or.inr ⟨g, o, c, e2, ⟨k1, hl.stay k2⟩, NdsV.keep hk g k2 l o h3⟩
theorem NdsV.keep {w w' : World} {P Q : Nat → Prop} (hk : Keep w w' P Q) (g : Nat) (hg : w'.heap[g]? = w.heap[g]?) : ∀ (l : List Nd) (o : Nat), NdsV w P g o l → NdsV w' Q g o l
  | [], _, _ => by unfold NdsV; trivial
  | x :: xs, o, h => by
    unfold NdsV at h ⊢
    obtain ⟨⟨v0, v1, v2, v3, v4, v5, c0, c1, c2, c3, c4, c5, h1⟩, h2⟩ := h
    have up : ∀ {i : Nat} {u : Value}, w.cell? ⟨g, i, none⟩ = some u → w'.cell? ⟨g, i, none⟩ = some u := fun h => (World.cell?_of_block (w := w) hg).trans h
    exact ⟨⟨v0, v1, v2, v3, v4, v5, up c0, up c1, up c2, up c3, up c4, up c5, NdV.keep hk x _ h1⟩, NdsV.keep hk g hg xs (o + 6) h2⟩
end
theorem NdV.upto {S : List Nat} {w w' : World} {P : Nat → Prop} {nd : Nd} {v : Value} (h : NdV w P nd v) (hu : Upto S w w') (hs : ∀ b, P b → IsC w b → b ∉ S) : NdV w' P nd v := NdV.keep (Keep.upto hu hs) nd v h
theorem NdV.ext {w w' : World} {P : Nat → Prop} {nd : Nd} {v : Value} (h : NdV w P nd v) (hu : Upto [] w w') : NdV w' P nd v := h.upto hu (by simp)
theorem NdV.mono {w : World} {P Q : Nat → Prop} {nd : Nd} {v : Value} (h : NdV w P nd v) (hpq : ∀ b, P b → IsC w b → Q b) : NdV w Q nd v := NdV.keep (Keep.mono hpq) nd v h
theorem SlP.upto {S : List Nat} {w w' : World} {P : Nat → Prop} {v : Value} {n : Nat} {xs : List Value} (h : SlP w P v n xs) (hu : Upto S w w') (hs : ∀ b, P b → IsC w b → b ∉ S) : SlP w' P v n xs := h.keep (Keep.upto hu hs)
theorem SlP.ext {w w' : World} {P : Nat → Prop} {v : Value} {n : Nat} {xs : List Value} (h : SlP w P v n xs) (hu : Upto [] w w') : SlP w' P v n xs := h.upto hu (by simp)
theorem SlP.mono {w : World} {P Q : Nat → Prop} {v : Value} {n : Nat} {xs : List Value} (h : SlP w P v n xs) (hpq : ∀ b, P b → IsC w b → Q b) : SlP w Q v n xs := h.keep (Keep.mono hpq)

/-- a formula's six cells -/
theorem NdV.six {w : World} {P : Nat → Prop} {nd : Nd} {v : Value} (h : NdV w P nd v) : ∃ (op : Int) (a1 : Option Addr) (n1 c1 : Nat) (so n m : Int) (a2 : Option Addr) (n2 c2 : Nat), v = .agg #[.int .i64 op, .slice a1 n1 c1, .int .i64 so, .int .i64 n, .int .i64 m, .slice a2 n2 c2] := by
  cases nd
  unfold NdV at h
  obtain ⟨vn, vl, e, h1, h2⟩ := h
  obtain ⟨a1, c1, rfl⟩ := h1.len
  rcases h2 with ⟨-, a2, c2, rfl⟩ | ⟨g, o, c, rfl, -⟩
  · exact ⟨_, a1, _, c1, _, _, _, a2, 0, c2, e⟩
  · exact ⟨_, a1, _, c1, _, _, _, _, _, c, e⟩
def zeroV : Value := .agg #[.int .i64 0, .slice none 0 0, .int .i64 0, .int .i64 0, .int .i64 0, .slice none 0 0]
theorem NdV.zero (w : World) (P : Nat → Prop) : NdV w P .zero zeroV := by
  unfold Nd.zero NdV
  exact ⟨_, _, rfl, Or.inl ⟨rfl, rfl, none, 0, rfl⟩, Or.inl ⟨rfl, none, 0, rfl⟩⟩
/-- an atom over names in a block of their own -/
theorem NdV.atom {w : World} {P : Nat → Prop} {op so n m : Int} {names : List (List UInt8)} {vn : Value} (h : SlP w P vn names.length (names.map sV)) : NdV w P (.mk op names so n m []) (.agg #[.int .i64 op, vn, .int .i64 so, .int .i64 n, .int .i64 m, .slice none 0 0]) := by
  unfold NdV
  exact ⟨_, _, rfl, h, Or.inl ⟨rfl, none, 0, rfl⟩⟩
/-- a node over a block that holds one formula, or two -/
theorem NdV.one {w : World} {P : Nat → Prop} {op so : Int} {names : List (List UInt8)} {vn : Value} {x : Nd} {a0 a1 a2 a3 a4 a5 : Value} {g : Nat} {t : TypeId} {z : Nat × Nat} (h : SlP w P vn names.length (names.map sV)) (hx : NdV w P x (.agg #[a0, a1, a2, a3, a4, a5])) (hg : P g)
    (hb : w.heap[g]? = some (.cells #[a0, a1, a2, a3, a4, a5] t z)) : NdV w P (.mk op names so 0 0 [x]) (.agg #[.int .i64 op, vn, .int .i64 so, .int .i64 0, .int .i64 0, .slice (some ⟨g, 0, none⟩) 1 1]) := by
  unfold NdV
  refine ⟨_, _, rfl, h, Or.inr ⟨g, 0, 1, rfl, ⟨hg, _, _, _, hb⟩, ?_⟩⟩
  unfold NdsV NdsV
  exact ⟨⟨a0, a1, a2, a3, a4, a5, by rw [cell_of hb]; rfl, by rw [cell_of hb]; rfl, by rw [cell_of hb]; rfl, by rw [cell_of hb]; rfl, by rw [cell_of hb]; rfl, by rw [cell_of hb]; rfl, hx⟩, trivial⟩
theorem NdV.two {w : World} {P : Nat → Prop} {op so : Int} {names : List (List UInt8)} {vn : Value} {x y : Nd} {a0 a1 a2 a3 a4 a5 b0 b1 b2 b3 b4 b5 : Value} {g : Nat} {t : TypeId} {z : Nat × Nat} (h : SlP w P vn names.length (names.map sV)) (hx : NdV w P x (.agg #[a0, a1, a2, a3, a4, a5])) (hy : NdV w P y (.agg #[b0, b1, b2, b3, b4, b5])) (hg : P g)
    (hb : w.heap[g]? = some (.cells #[a0, a1, a2, a3, a4, a5, b0, b1, b2, b3, b4, b5] t z)) : NdV w P (.mk op names so 0 0 [x, y]) (.agg #[.int .i64 op, vn, .int .i64 so, .int .i64 0, .int .i64 0, .slice (some ⟨g, 0, none⟩) 2 2]) := by
  unfold NdV
  refine ⟨_, _, rfl, h, Or.inr ⟨g, 0, 2, rfl, ⟨hg, _, _, _, hb⟩, ?_⟩⟩
  unfold NdsV NdsV NdsV
  exact ⟨⟨a0, a1, a2, a3, a4, a5, by rw [cell_of hb]; rfl, by rw [cell_of hb]; rfl, by rw [cell_of hb]; rfl, by rw [cell_of hb]; rfl, by rw [cell_of hb]; rfl, by rw [cell_of hb]; rfl, hx⟩,
    ⟨b0, b1, b2, b3, b4, b5, by rw [cell_of hb]; rfl, by rw [cell_of hb]; rfl, by rw [cell_of hb]; rfl, by rw [cell_of hb]; rfl, by rw [cell_of hb]; rfl, by rw [cell_of hb]; rfl, hy⟩, trivial⟩
theorem SlP.nil {w : World} {P : Nat → Prop} : SlP w P (.slice none 0 0) 0 [] := Or.inl ⟨rfl, rfl, none, 0, rfl⟩
theorem SlP.block {w : World} {P : Nat → Prop} {g : Nat} {cs : Array Value} {t : TypeId} {z : Nat × Nat} (hg : P g) (hb : w.heap[g]? = some (.cells cs t z)) (n c : Nat) (xs : List Value) (hx : ∀ (j : Nat) u, xs[j]? = some u → cs[j]? = some u) : SlP w P (.slice (some ⟨g, 0, none⟩) n c) n xs :=
  Or.inr ⟨g, 0, c, rfl, ⟨hg, _, _, _, hb⟩, fun j u hj => by rw [Nat.zero_add, cell_of hb]; exact hx j u hj⟩
/-- new since w -/
def New (w : World) (b : Nat) : Prop := w.heap.size ≤ b
theorem New.mono {w w' : World} {S : List Nat} (h : Upto S w w') (b : Nat) (hb : New w' b) : New w b := Nat.le_trans h.size hb
theorem NdsV.get {w : World} {P : Nat → Prop} {g : Nat} : ∀ (l : List Nd) (o i : Nat) (x : Nd), NdsV w P g o l → l[i]? = some x → ∃ v0 v1 v2 v3 v4 v5, w.cell? ⟨g, o + i * 6, none⟩ = some v0 ∧ w.cell? ⟨g, o + i * 6 + 1, none⟩ = some v1 ∧ w.cell? ⟨g, o + i * 6 + 2, none⟩ = some v2 ∧ w.cell? ⟨g, o + i * 6 + 3, none⟩ = some v3 ∧ w.cell? ⟨g, o + i * 6 + 4, none⟩ = some v4 ∧ w.cell? ⟨g, o + i * 6 + 5, none⟩ = some v5 ∧ NdV w P x (.agg #[v0, v1, v2, v3, v4, v5])
  | [], o, i, x, _, h => by simp at h
  | y :: ys, o, 0, x, h, hi => by
    simp at hi
    subst hi
    unfold NdsV at h
    simpa using h.1
  | y :: ys, o, i + 1, x, h, hi => by
    unfold NdsV at h
    have := NdsV.get ys (o + 6) i x h.2 (by simpa using hi)
    rwa [show o + 6 + i * 6 = o + (i + 1) * 6 by omega] at this
theorem sizeF_pos (n : Nd) : 1 ≤ sizeF n := by
  cases n
  simp only [sizeF]
  omega
theorem sizesF_take (l : List Nd) (i : Nat) (x : Nd) (h : l[i]? = some x) : sizesF (l.take (i + 1)) = sizesF (l.take i) + sizeF x ∧ sizesF (l.take i) + sizeF x ≤ sizesF l := by
  obtain ⟨hi, rfl⟩ := List.getElem?_eq_some_iff.1 h
  have e : l.take (i + 1) = l.take i ++ [l[i]] := List.take_succ_eq_append_getElem hi
  have h1 : sizesF (l.take (i + 1)) = sizesF (l.take i) + sizeF l[i] := by rw [e, sizesF_append]; simp [sizesF]
  refine ⟨h1, ?_⟩
  have h2 : sizesF l = sizesF (l.take (i + 1)) + sizesF (l.drop (i + 1)) := by rw [← sizesF_append, List.take_append_drop]
  omega
theorem depthsF_append (a b : List Nd) : depthsF (a ++ b) = max (depthsF a) (depthsF b) := by
  induction a with
  | nil => simp [depthsF]
  | cons x xs ih => simp only [List.cons_append, depthsF, ih]; omega
theorem depthsF_take (l : List Nd) (i : Nat) (x : Nd) (h : l[i]? = some x) : depthsF (l.take (i + 1)) = max (depthsF (l.take i)) (depthF x) := by
  obtain ⟨hi, rfl⟩ := List.getElem?_eq_some_iff.1 h
  have e : l.take (i + 1) = l.take i ++ [l[i]] := List.take_succ_eq_append_getElem hi
  rw [e, depthsF_append]
  simp [depthsF]
end Go.Proofs.YtkhbpebpljdifaaDoor


namespace Go.Proofs.YtkhbpebpljdifaaDoor
open Go.RowKit Go.PL Go.Maps

/-- the table of the sorts -/
structure SEnv (w : World) : Prop where
  c0 : w.cell? ⟨2, 0, none⟩ = some (.string ⟨[118, 101, 114, 116, 101, 120].toArray⟩)
  c1 : w.cell? ⟨2, 1, none⟩ = some (.string ⟨[101, 100, 103, 101].toArray⟩)
  c2 : w.cell? ⟨2, 2, none⟩ = some (.string ⟨[115, 101, 116].toArray⟩)
  c3 : w.cell? ⟨2, 3, none⟩ = some (.string ⟨[101, 100, 103, 101, 115].toArray⟩)
theorem SEnv.upto {S : List Nat} {w w' : World} (h : SEnv w) (hu : Upto S w w') (h2 : 2 ∉ S) : SEnv w' :=
  ⟨(hu.cell (World.block_lt_of_cell? w _ h.c0) h2).trans h.c0, (hu.cell (World.block_lt_of_cell? w _ h.c1) h2).trans h.c1, (hu.cell (World.block_lt_of_cell? w _ h.c2) h2).trans h.c2, (hu.cell (World.block_lt_of_cell? w _ h.c3) h2).trans h.c3⟩
/-- what stays while the reader at p reads l -/
structure Cx (w : World) (p : Nat) (l : List Tok) : Prop where
  srt : SEnv w
  p2 : p ≠ 2
  len : l.length ≤ 1000000
theorem Cx.upto {w w' : World} {p : Nat} {l : List Tok} (h : Cx w p l) (hu : Upto [p] w w') : Cx w' p l := ⟨h.srt.upto hu (by have := h.p2; simp; omega), h.p2, h.len⟩
theorem Cx.ext {w w' : World} {p : Nat} {l : List Tok} (h : Cx w p l) (hu : Upto [] w w') : Cx w' p l := h.upto (hu.mono (by simp))
theorem RdAt.lt {w : World} {p : Nat} {l : List Tok} {s : PS} (h : RdAt w p l s) : p < w.heap.size := by
  obtain ⟨⟨v, hb, -, -⟩, -, -⟩ := h
  exact lt_of_heap hb

/-- a block of six cells, stored whole -/
theorem nd_store {w : World} {B : Nat} {a b c d e f : Value} {T : TypeId} (h : w.heap[B]? = some (.cells #[a, b, c, d, e, f] T (0, 0))) (a' b' c' d' e' f' : Value) :
    ((((((w.setCell ⟨B, 0, none⟩ a').setCell ⟨B, 1, none⟩ b').setCell ⟨B, 2, none⟩ c').setCell ⟨B, 3, none⟩ d').setCell ⟨B, 4, none⟩ e').setCell ⟨B, 5, none⟩ f').heap[B]? = some (.cells #[a', b', c', d', e', f'] T (0, 0)) := by
  have := set_same (set_same (set_same (set_same (set_same (set_same h 0 a') 1 b') 2 c') 3 d') 4 e') 5 f'
  simpa using this
theorem nd_up {S : List Nat} {v w : World} {B : Nat} (h : Upto S v w) (hB : B ∈ S ∨ v.heap.size ≤ B) (a' b' c' d' e' f' : Value) :
    Upto S v ((((((w.setCell ⟨B, 0, none⟩ a').setCell ⟨B, 1, none⟩ b').setCell ⟨B, 2, none⟩ c').setCell ⟨B, 3, none⟩ d').setCell ⟨B, 4, none⟩ e').setCell ⟨B, 5, none⟩ f') :=
  (((((h.setCell hB _).setCell hB _).setCell hB _).setCell hB _).setCell hB _).setCell hB _
theorem nd_self (w : World) (B : Nat) (a' b' c' d' e' f' : Value) :
    Upto [B] w ((((((w.setCell ⟨B, 0, none⟩ a').setCell ⟨B, 1, none⟩ b').setCell ⟨B, 2, none⟩ c').setCell ⟨B, 3, none⟩ d').setCell ⟨B, 4, none⟩ e').setCell ⟨B, 5, none⟩ f') := nd_up (Upto.refl _ _) (Or.inl (by simp)) ..
set_option maxRecDepth 100000 in
set_option maxHeartbeats 6400000 in
theorem sort_calls (w : World) (p : Nat) (l : List Tok) (s : PS) (hx : Cx w p l) (h : RdAt w p l s) : Calls Tryd.prog 78 #[.pointer (some ⟨p, 0, none⟩)] w fun e w' => e = .returned (.int .i64 (sortP l s).1) ∧ RdAt w' p l (sortP l s).2 ∧ Upto [p] w w' := by
  have HT := Lib.hid (fun w1 x (h1 : RdAt w1 p l s) => takes_calls w1 p l s x h1 hx.len)
  obtain ⟨⟨g0, g1, g2, g3⟩, -, -⟩ := hx
  have HR := Lib.hid h
  clear h
  go_enter Tryd.func78, Tryd.ntmps78
  go_wp2_with fail
  go_loopw [6] (fun i wr => ∃ k : Nat, k ≤ 4 ∧ i = .int .i64 k ∧ Hid (RdAt wr p l s ∧ Upto [p] w wr ∧ ∀ j, j < k → isF l (sortWords.getD j []) s = false)) (fun i _ => 4 - (intOf i).toNat)
  case atStart => exact ⟨0, by omega, rfl, Lib.hid ⟨HR.out, Upto.refl _ _, fun j h => by omega⟩⟩
  case round =>
    obtain ⟨k, hk, rfl, HI⟩ := hrel
    have hc : k = 0 ∨ k = 1 ∨ k = 2 ∨ k = 3 ∨ k = 4 := by omega
    clear g0 g1 g2 g3
    rcases hc with rfl | rfl | rfl | rfl | rfl
    · have ix : ∀ w, (Instr.index 143 (.agg #[.string ⟨#[118, 101, 114, 116, 101, 120]⟩, .string ⟨#[101, 100, 103, 101]⟩, .string ⟨#[115, 101, 116]⟩, .string ⟨#[101, 100, 103, 101, 115]⟩]) (.int .i64 0)).run Tryd.prog w = .ok (.string ⟨#[118, 101, 114, 116, 101, 120]⟩) w := fun _ => by kernel_rfl
      have HC := Lib.hid (HT.out wr [118, 101, 114, 116, 101, 120] HI.out.1)
      cases hv : isF l [118, 101, 114, 116, 101, 120] s with
      | true =>
        rw [hv] at HC
        have HV : Hid (sortP l s = (0, stepF s) ∧ (takesF l [118, 101, 114, 116, 101, 120] s).2 = stepF s) := Lib.hid (by
          refine ⟨?_, by unfold takesF; rw [if_pos hv]⟩
          unfold sortP sortWords
          simp [firstF, hv])
        clear hv
        go_wp2_with fail
        refine HC.out.mono ?_
        rintro e w1 ⟨rfl, hR1, hu1⟩
        have HS := Lib.hid hR1
        have HU := Lib.hid (HI.out.2.1.trans_same hu1)
        clear hR1 hu1
        go_wp2_with fail
        go_ret
        exact ⟨by rw [HV.out.1]; rfl, by rw [HV.out.1]; have := HS.out; rw [HV.out.2] at this; exact this, HU.out⟩
      | false =>
        rw [hv] at HC
        have HV : Hid ((takesF l [118, 101, 114, 116, 101, 120] s).2 = s ∧ isF l [118, 101, 114, 116, 101, 120] s = false) := Lib.hid ⟨by unfold takesF; rw [hv]; rfl, hv⟩
        clear hv
        go_wp2_with fail
        refine HC.out.mono ?_
        rintro e w1 ⟨rfl, hR1, hu1⟩
        have HS := Lib.hid hR1
        have HU := Lib.hid (HI.out.2.1.trans_same hu1)
        clear hR1 hu1
        go_wp2_with fail
        go_roundw
        case rel => exact ⟨1, by omega, by go_num, Lib.hid ⟨by have := HS.out; rw [HV.out.1] at this; exact this, HU.out, fun j hj => by
          by_cases hjk : j < 0
          · exact HI.out.2.2 j hjk
          · obtain rfl : j = 0 := by omega
            exact HV.out.2⟩⟩
        case measure => simp [intOf]
    · have ix : ∀ w, (Instr.index 143 (.agg #[.string ⟨#[118, 101, 114, 116, 101, 120]⟩, .string ⟨#[101, 100, 103, 101]⟩, .string ⟨#[115, 101, 116]⟩, .string ⟨#[101, 100, 103, 101, 115]⟩]) (.int .i64 1)).run Tryd.prog w = .ok (.string ⟨#[101, 100, 103, 101]⟩) w := fun _ => by kernel_rfl
      have HC := Lib.hid (HT.out wr [101, 100, 103, 101] HI.out.1)
      cases hv : isF l [101, 100, 103, 101] s with
      | true =>
        rw [hv] at HC
        have HV : Hid (sortP l s = (1, stepF s) ∧ (takesF l [101, 100, 103, 101] s).2 = stepF s) := Lib.hid (by
          have f0 : isF l [118, 101, 114, 116, 101, 120] s = false := HI.out.2.2 0 (by omega)
          refine ⟨?_, by unfold takesF; rw [if_pos hv]⟩
          unfold sortP sortWords
          simp [firstF, f0, hv])
        clear hv
        go_wp2_with fail
        refine HC.out.mono ?_
        rintro e w1 ⟨rfl, hR1, hu1⟩
        have HS := Lib.hid hR1
        have HU := Lib.hid (HI.out.2.1.trans_same hu1)
        clear hR1 hu1
        go_wp2_with fail
        go_ret
        exact ⟨by rw [HV.out.1]; rfl, by rw [HV.out.1]; have := HS.out; rw [HV.out.2] at this; exact this, HU.out⟩
      | false =>
        rw [hv] at HC
        have HV : Hid ((takesF l [101, 100, 103, 101] s).2 = s ∧ isF l [101, 100, 103, 101] s = false) := Lib.hid ⟨by unfold takesF; rw [hv]; rfl, hv⟩
        clear hv
        go_wp2_with fail
        refine HC.out.mono ?_
        rintro e w1 ⟨rfl, hR1, hu1⟩
        have HS := Lib.hid hR1
        have HU := Lib.hid (HI.out.2.1.trans_same hu1)
        clear hR1 hu1
        go_wp2_with fail
        go_roundw
        case rel => exact ⟨2, by omega, by go_num, Lib.hid ⟨by have := HS.out; rw [HV.out.1] at this; exact this, HU.out, fun j hj => by
          by_cases hjk : j < 1
          · exact HI.out.2.2 j hjk
          · obtain rfl : j = 1 := by omega
            exact HV.out.2⟩⟩
        case measure => simp [intOf]
    · have ix : ∀ w, (Instr.index 143 (.agg #[.string ⟨#[118, 101, 114, 116, 101, 120]⟩, .string ⟨#[101, 100, 103, 101]⟩, .string ⟨#[115, 101, 116]⟩, .string ⟨#[101, 100, 103, 101, 115]⟩]) (.int .i64 2)).run Tryd.prog w = .ok (.string ⟨#[115, 101, 116]⟩) w := fun _ => by kernel_rfl
      have HC := Lib.hid (HT.out wr [115, 101, 116] HI.out.1)
      cases hv : isF l [115, 101, 116] s with
      | true =>
        rw [hv] at HC
        have HV : Hid (sortP l s = (2, stepF s) ∧ (takesF l [115, 101, 116] s).2 = stepF s) := Lib.hid (by
          have f0 : isF l [118, 101, 114, 116, 101, 120] s = false := HI.out.2.2 0 (by omega)
          have f1 : isF l [101, 100, 103, 101] s = false := HI.out.2.2 1 (by omega)
          refine ⟨?_, by unfold takesF; rw [if_pos hv]⟩
          unfold sortP sortWords
          simp [firstF, f0, f1, hv])
        clear hv
        go_wp2_with fail
        refine HC.out.mono ?_
        rintro e w1 ⟨rfl, hR1, hu1⟩
        have HS := Lib.hid hR1
        have HU := Lib.hid (HI.out.2.1.trans_same hu1)
        clear hR1 hu1
        go_wp2_with fail
        go_ret
        exact ⟨by rw [HV.out.1]; rfl, by rw [HV.out.1]; have := HS.out; rw [HV.out.2] at this; exact this, HU.out⟩
      | false =>
        rw [hv] at HC
        have HV : Hid ((takesF l [115, 101, 116] s).2 = s ∧ isF l [115, 101, 116] s = false) := Lib.hid ⟨by unfold takesF; rw [hv]; rfl, hv⟩
        clear hv
        go_wp2_with fail
        refine HC.out.mono ?_
        rintro e w1 ⟨rfl, hR1, hu1⟩
        have HS := Lib.hid hR1
        have HU := Lib.hid (HI.out.2.1.trans_same hu1)
        clear hR1 hu1
        go_wp2_with fail
        go_roundw
        case rel => exact ⟨3, by omega, by go_num, Lib.hid ⟨by have := HS.out; rw [HV.out.1] at this; exact this, HU.out, fun j hj => by
          by_cases hjk : j < 2
          · exact HI.out.2.2 j hjk
          · obtain rfl : j = 2 := by omega
            exact HV.out.2⟩⟩
        case measure => simp [intOf]
    · have ix : ∀ w, (Instr.index 143 (.agg #[.string ⟨#[118, 101, 114, 116, 101, 120]⟩, .string ⟨#[101, 100, 103, 101]⟩, .string ⟨#[115, 101, 116]⟩, .string ⟨#[101, 100, 103, 101, 115]⟩]) (.int .i64 3)).run Tryd.prog w = .ok (.string ⟨#[101, 100, 103, 101, 115]⟩) w := fun _ => by kernel_rfl
      have HC := Lib.hid (HT.out wr [101, 100, 103, 101, 115] HI.out.1)
      cases hv : isF l [101, 100, 103, 101, 115] s with
      | true =>
        rw [hv] at HC
        have HV : Hid (sortP l s = (3, stepF s) ∧ (takesF l [101, 100, 103, 101, 115] s).2 = stepF s) := Lib.hid (by
          have f0 : isF l [118, 101, 114, 116, 101, 120] s = false := HI.out.2.2 0 (by omega)
          have f1 : isF l [101, 100, 103, 101] s = false := HI.out.2.2 1 (by omega)
          have f2 : isF l [115, 101, 116] s = false := HI.out.2.2 2 (by omega)
          refine ⟨?_, by unfold takesF; rw [if_pos hv]⟩
          unfold sortP sortWords
          simp [firstF, f0, f1, f2, hv])
        clear hv
        go_wp2_with fail
        refine HC.out.mono ?_
        rintro e w1 ⟨rfl, hR1, hu1⟩
        have HS := Lib.hid hR1
        have HU := Lib.hid (HI.out.2.1.trans_same hu1)
        clear hR1 hu1
        go_wp2_with fail
        go_ret
        exact ⟨by rw [HV.out.1]; rfl, by rw [HV.out.1]; have := HS.out; rw [HV.out.2] at this; exact this, HU.out⟩
      | false =>
        rw [hv] at HC
        have HV : Hid ((takesF l [101, 100, 103, 101, 115] s).2 = s ∧ isF l [101, 100, 103, 101, 115] s = false) := Lib.hid ⟨by unfold takesF; rw [hv]; rfl, hv⟩
        clear hv
        go_wp2_with fail
        refine HC.out.mono ?_
        rintro e w1 ⟨rfl, hR1, hu1⟩
        have HS := Lib.hid hR1
        have HU := Lib.hid (HI.out.2.1.trans_same hu1)
        clear hR1 hu1
        go_wp2_with fail
        go_roundw
        case rel => exact ⟨4, by omega, by go_num, Lib.hid ⟨by have := HS.out; rw [HV.out.1] at this; exact this, HU.out, fun j hj => by
          by_cases hjk : j < 3
          · exact HI.out.2.2 j hjk
          · obtain rfl : j = 3 := by omega
            exact HV.out.2⟩⟩
        case measure => simp [intOf]
    · have HV : Hid (sortP l s = (0, wrongF 3 s)) := Lib.hid (by
        have f0 : isF l [118, 101, 114, 116, 101, 120] s = false := HI.out.2.2 0 (by omega)
        have f1 : isF l [101, 100, 103, 101] s = false := HI.out.2.2 1 (by omega)
        have f2 : isF l [115, 101, 116] s = false := HI.out.2.2 2 (by omega)
        have f3 : isF l [101, 100, 103, 101, 115] s = false := HI.out.2.2 3 (by omega)
        unfold sortP sortWords
        simp [firstF, f0, f1, f2, f3])
      have HW := Lib.hid (wrong_calls wr p 3 l s HI.out.1)
      go_wp2_with fail
      refine HW.out.mono ?_
      rintro e w1 ⟨rfl, hR1, hu1⟩
      have HS := Lib.hid hR1
      have HU := Lib.hid (HI.out.2.1.trans_same hu1)
      clear hR1 hu1
      go_wp2_with fail
      go_ret
      exact ⟨by rw [HV.out]; rfl, by rw [HV.out]; exact HS.out, HU.out⟩
end Go.Proofs.YtkhbpebpljdifaaDoor


namespace Go.Proofs.YtkhbpebpljdifaaDoor
open Go.RowKit Go.PL Go.Maps

/-- what reading a formula comes to -/
def RdPost (w : World) (p : Nat) (l : List Tok) (s : PS) (n : Nd) (s' : PS) (e : Ending) (w' : World) : Prop :=
  ∃ v, e = .returned v ∧ NdV w' (New w) n v ∧ RdAt w' p l s' ∧ Upto [p] w w' ∧ Adv l s s'
/-- function k, called with these arguments, reads as of does -/
def Rdr (w0 : World) (p : Nat) (l : List Tok) (k : FuncId) (args : Array Value) (of : Rd) : Prop :=
  ∀ w s n s', Upto [p] w0 w → RdAt w p l s → s.dp ≤ 256 → of s = some (n, s') → Calls Tryd.prog k args w (RdPost w p l s n s')
theorem Rdr.upto {w0 w1 : World} {p : Nat} {l : List Tok} {k : FuncId} {args : Array Value} {of : Rd} (h : Rdr w0 p l k args of) (hu : Upto [p] w0 w1) : Rdr w1 p l k args of :=
  fun w s n s' h1 h2 h3 h4 => h w s n s' (hu.trans_same h1) h2 h3 h4

/-- the reader at another depth -/
theorem RdAt.depth {w : World} {p : Nat} {l : List Tok} {s : PS} (h : RdAt w p l s) (d : Nat) : RdAt (w.setCell ⟨p, 3, none⟩ (.int .i64 d)) p l ⟨s.nx, s.er, d⟩ ∧ Upto [p] w (w.setCell ⟨p, 3, none⟩ (.int .i64 d)) := by
  obtain ⟨⟨v, hb, hT, hg⟩, hin, hf⟩ := h
  have hu := (Upto.refl [p] w).setCell (p := ⟨p, 3, none⟩) (Or.inl (by simp)) (.int .i64 d)
  refine ⟨⟨⟨v, ?_, hT.upto hu (fun g o n c e hm => by simp at hm; have := hg g o n c e; omega), hg⟩, hin, hf⟩, hu⟩
  rw [set_same hb 3]
  rfl
/-- a block that holds no tokens is written: the reader stays -/
theorem RdAt.other {w w' : World} {p B : Nat} {l : List Tok} {s : PS} {cs : Array Value} {T : TypeId} {z : Nat × Nat} (h : RdAt w p l s) (hb : w.heap[B]? = some (.cells cs T z)) (hc : ∀ (o : Nat) x, cs[o + 1]? = some (.string x) → cs[o + 4]? = none) (hu : Upto [B] w w') (hBp : B ≠ p) : RdAt w' p l s := by
  obtain ⟨⟨v, hp, hT, hg⟩, hin, hf⟩ := h
  refine ⟨⟨v, hu.at hp (by simp; omega), hT.upto hu ?_, hg⟩, hin, hf⟩
  intro g o n c e hm
  simp at hm
  subst hm
  rcases hT.at with ⟨h0, _⟩ | ⟨g', o', c', rfl, hat⟩
  · rw [h0] at hin; simp at hin
  · simp at e
    obtain ⟨⟨rfl, rfl⟩, -, -⟩ := e
    obtain ⟨t, ht⟩ : ∃ t, l[0]? = some t := ⟨_, List.getElem?_eq_getElem (by omega)⟩
    obtain ⟨c0, c1, c2, c3, c4⟩ := hat _ _ ht
    rw [cell_of hb] at c1 c4
    simp at c1 c4
    rw [hc _ _ c1] at c4
    cases c4
/-- blocks above the reader's are written: the reader stays -/
theorem RdAt.above {w w' : World} {p : Nat} {l : List Tok} {s : PS} {S : List Nat} (h : RdAt w p l s) (hu : Upto S w w') (hS : ∀ k ∈ S, p < k) : RdAt w' p l s := by
  obtain ⟨⟨v, hp, hT, hg⟩, hin, hf⟩ := h
  refine ⟨⟨v, hu.at hp (fun hm => Nat.lt_irrefl _ (hS _ hm)), hT.upto hu ?_, hg⟩, hin, hf⟩
  intro g o n c e hm
  have h1 := hg g o n c e
  have h2 := hS g hm
  omega
theorem nd_no_string {a c d e : Int} {b f : Value} (hb : ∀ x, b ≠ .string x) (hf : ∀ x, f ≠ .string x) : ∀ (o : Nat) x, (#[.int .i64 a, b, .int .i64 c, .int .i64 d, .int .i64 e, f] : Array Value)[o + 1]? = some (.string x) → (#[.int .i64 a, b, .int .i64 c, .int .i64 d, .int .i64 e, f] : Array Value)[o + 4]? = none := by
  intro o x h
  match o, h with
  | 0, h => simp at h; exact absurd h (hb x)
  | 1, h => simp at h
  | 2, h => simp
  | 3, h => simp
  | 4, h => simp
  | o + 5, h => simp
/-- the result stored: all that is asked -/
theorem rdpost_fin {w w1 w2 : World} {p B : Nat} {l : List Tok} {s s' : PS} {n : Nd} (hB : w.heap.size = B) (hp : p < B) (hu0 : Upto [p] w w1) (hs : B < w1.heap.size) (hu1 : Upto [p] w1 w2) (hR : RdAt w2 p l s') {T : TypeId}
    (hz : w2.heap[B]? = some (.cells #[.int .i64 0, .slice none 0 0, .int .i64 0, .int .i64 0, .int .i64 0, .slice none 0 0] T (0, 0))) (ha : Adv l s s') {a b c d e f : Value} (hn : NdV w2 (New w1) n (.agg #[a, b, c, d, e, f])) :
    RdPost w p l s n s' (.returned (.agg #[a, b, c, d, e, f])) ((((((w2.setCell ⟨B, 0, none⟩ a).setCell ⟨B, 1, none⟩ b).setCell ⟨B, 2, none⟩ c).setCell ⟨B, 3, none⟩ d).setCell ⟨B, 4, none⟩ e).setCell ⟨B, 5, none⟩ f) := by
  have hst := nd_self w2 B a b c d e f
  have h1 := hu0.size
  refine ⟨_, rfl, ?_, hR.other hz (nd_no_string (by simp) (by simp)) hst (by omega), nd_up (hu0.trans_same hu1) (Or.inr (by omega)) .., ha⟩
  exact (hn.upto hst (fun b hb _ => by unfold New at hb; simp; omega)).mono fun b hb _ => New.mono hu0 b hb
theorem zero_same : True := trivial
theorem rdpost_zero {w W0 w2 : World} {p B : Nat} {l : List Tok} {s s' : PS} (hB : w.heap.size = B) (hp : p < B) (hu0 : Upto [p] w W0) (hu1 : Upto [p] W0 w2) (hR : RdAt w2 p l s') {T : TypeId}
    (hz : w2.heap[B]? = some (.cells #[.int .i64 0, .slice none 0 0, .int .i64 0, .int .i64 0, .int .i64 0, .slice none 0 0] T (0, 0))) (ha : Adv l s s') (_ : True) :
    RdPost w p l s .zero s' (.returned (.agg #[.int .i64 0, .slice none 0 0, .int .i64 0, .int .i64 0, .int .i64 0, .slice none 0 0])) ((((((w2.setCell ⟨B, 0, none⟩ (.int .i64 0)).setCell ⟨B, 1, none⟩ (.slice none 0 0)).setCell ⟨B, 2, none⟩ (.int .i64 0)).setCell ⟨B, 3, none⟩ (.int .i64 0)).setCell ⟨B, 4, none⟩ (.int .i64 0)).setCell ⟨B, 5, none⟩ (.slice none 0 0)) := by
  have hst := nd_self w2 B (.int .i64 0) (.slice none 0 0) (.int .i64 0) (.int .i64 0) (.int .i64 0) (.slice none 0 0)
  exact ⟨_, rfl, NdV.zero _ _, hR.other hz (nd_no_string (by simp) (by simp)) hst (by omega), nd_up (hu0.trans_same hu1) (Or.inr (by omega)) .., ha⟩

set_option maxRecDepth 100000 in
set_option maxHeartbeats 6400000 in
theorem level_calls (w : World) (p : Nat) (l : List Tok) (s s' : PS) (n : Nd) (k : FuncId) (cap : Array Value) (of : Rd) (hx : Cx w p l) (h : RdAt w p l s) (hd : s.dp ≤ 256) (hk0 : (tkAt l s).kind ≠ 0)
    (hk : ∀ args w, (callFunc k args).run Tryd.prog w = .ok (.enter k args) w) (hr : Rdr w p l k cap of) (he : levelP of s = some (n, s')) :
    Calls Tryd.prog 122 #[.pointer (some ⟨p, 0, none⟩), .func (.func k) #[] cap] w (RdPost w p l s n s') := by
  have hin := h.inb
  have hlen := hx.len
  have HF : Hid (Fin l) := Lib.hid h.fin
  have HR := Lib.hid h
  have HX := Lib.hid hx
  clear hx h
  by_cases h6 : s.dp = 256
  · have k6 : ((s.dp : Int) == 256) = true := by simp [h6]
    have hw0 := wrongF_er 16 (by decide) s
    have k3 : (((wrongF 16 s).er : Int) != 0) = true := by rw [bne, show (((wrongF 16 s).er : Int) == 0) = false by rw [beq_eq_false_iff_ne]; omega]; rfl
    have HV : Hid (n = .zero ∧ s' = wrongF 16 s) := Lib.hid (by
      unfold levelP at he
      simp only [if_pos h6, if_neg hw0] at he
      cases he
      exact ⟨rfl, rfl⟩)
    have HC := Lib.hid hr
    clear h6 hw0 he hr hk
    have hu0 : Upto [] w (w.alloc (.cells #[.int .i64 0, .slice none 0 0, .int .i64 0, .int .i64 0, .int .i64 0, .slice none 0 0] 59)) := (Upto.refl [] w).alloc _
    have h0 := HR.out.ext hu0
    have HNew := Lib.hid (new_at w (.cells #[.int .i64 0, .slice none 0 0, .int .i64 0, .int .i64 0, .int .i64 0, .slice none 0 0] 59))
    have HX0 := Lib.hid (HX.out.ext hu0)
    have HRd := Lib.hid (HC.out.upto (hu0.mono (by simp)))
    have HpB : Hid (p < w.heap.size) := Lib.hid HR.out.lt
    obtain ⟨⟨v, hb, -, -⟩, -, -⟩ := id h0
    have b1 := cell_of hb 1
    have b2 := cell_of hb 2
    have b3 := cell_of hb 3
    have f1 := free_of hb 1
    have f3 := free_of hb 3
    unfold rdC at b1 b2 b3
    simp only [List.getElem?_toArray, List.getElem?_cons_zero, List.getElem?_cons_succ] at b1 b2 b3
    have HR0 := Lib.hid h0
    have HU0 := Lib.hid hu0
    clear h0 hb hu0
    clear b1 b2 f1 f3
    go_enter Tryd.func122, Tryd.ntmps122
    go_wp2_with fail
    generalize w.alloc (.cells #[.int .i64 0, .slice none 0 0, .int .i64 0, .int .i64 0, .int .i64 0, .slice none 0 0] 59) = W0 at *
    generalize hB : w.heap.size = B at *
    have HB := Lib.hid hB
    clear hB
    refine (wrong_calls W0 p 16 l s HR0.out).mono ?_
    rintro e w1 ⟨rfl, hR1, hu1⟩
    have hz := hu1.at HNew.out (by have := HpB.out; simp; omega)
    have z0 := cell_of hz 0
    have z1 := cell_of hz 1
    have z2 := cell_of hz 2
    have z3 := cell_of hz 3
    have z4 := cell_of hz 4
    have z5 := cell_of hz 5
    have y0 := free_of hz 0
    have y1 := free_of hz 1
    have y2 := free_of hz 2
    have y3 := free_of hz 3
    have y4 := free_of hz 4
    have y5 := free_of hz 5
    simp only [List.getElem?_toArray, List.getElem?_cons_zero, List.getElem?_cons_succ] at z0 z1 z2 z3 z4 z5
    obtain ⟨⟨v1, hb1, -, -⟩, -, -⟩ := id hR1
    have b2 := cell_of hb1 2
    unfold rdC at b2
    simp only [List.getElem?_toArray, List.getElem?_cons_zero, List.getElem?_cons_succ] at b2
    have HR1 := Lib.hid hR1
    have HU1 := Lib.hid hu1
    have HZ := Lib.hid hz
    clear hR1 hu1 hb1 hz b3
    go_wp2_with fail
    obtain ⟨rfl, rfl⟩ := HV.out
    have hst := nd_store HZ.out (.int .i64 0) (.slice none 0 0) (.int .i64 0) (.int .i64 0) (.int .i64 0) (.slice none 0 0)
    have q0 := cell_of hst 0
    have q1 := cell_of hst 1
    have q2 := cell_of hst 2
    have q3 := cell_of hst 3
    have q4 := cell_of hst 4
    have q5 := cell_of hst 5
    simp only [List.getElem?_toArray, List.getElem?_cons_zero, List.getElem?_cons_succ] at q0 q1 q2 q3 q4 q5
    exact bodyPost_ret (v := .agg #[.int .i64 0, .slice none 0 0, .int .i64 0, .int .i64 0, .int .i64 0, .slice none 0 0]) (by simp [results, Tryd.results122, go_sem, q0, q1, q2, q3, q4, q5]) rfl (rdpost_zero HB.out HpB.out (HU0.out.mono (by simp)) HU1.out HR1.out HZ.out (Adv.wrong hin 16) zero_same)
  · have k6 : ((s.dp : Int) == 256) = false := by rw [beq_eq_false_iff_ne]; omega
    by_cases h0 : s.er = 0
    · have k3 : ((s.er : Int) != 0) = false := by rw [bne, show ((s.er : Int) == 0) = true by simp [h0]]; rfl
      have HV : Hid (∃ s2, of ⟨s.nx + 1, s.er, s.dp + 1⟩ = some (n, s2) ∧ s' = ⟨s2.nx, s2.er, s2.dp - 1⟩) := Lib.hid (by
        unfold levelP at he
        simp only [if_neg h6, if_pos h0] at he
        cases hq : of ⟨s.nx + 1, s.er, s.dp + 1⟩ with
        | none => rw [hq] at he; cases he
        | some r =>
          obtain ⟨n2, s2⟩ := r
          rw [hq] at he
          simp at he
          obtain ⟨rfl, rfl⟩ := he
          exact ⟨s2, rfl, rfl⟩)
      have hn0 : (0 : Int) ≤ s.nx := by omega
      have hn1 : (s.nx : Int) ≤ 1000000 := by omega
      have hd0 : (0 : Int) ≤ s.dp := by omega
      have hd1 : (s.dp : Int) ≤ 256 := by omega
      have HK := Lib.hid hk0
      have HD : Hid (s.dp ≤ 255) := Lib.hid (by omega)
      have HC := Lib.hid hr
      clear h6 h0 he hr hk0
      have hu0 : Upto [] w (w.alloc (.cells #[.int .i64 0, .slice none 0 0, .int .i64 0, .int .i64 0, .int .i64 0, .slice none 0 0] 59)) := (Upto.refl [] w).alloc _
      have h0 := HR.out.ext hu0
      have HNew := Lib.hid (new_at w (.cells #[.int .i64 0, .slice none 0 0, .int .i64 0, .int .i64 0, .int .i64 0, .slice none 0 0] 59))
      have HX0 := Lib.hid (HX.out.ext hu0)
      have HRd := Lib.hid (HC.out.upto (hu0.mono (by simp)))
      have HpB : Hid (p < w.heap.size) := Lib.hid HR.out.lt
      obtain ⟨⟨v, hb, -, -⟩, -, -⟩ := id h0
      have b1 := cell_of hb 1
      have b2 := cell_of hb 2
      have b3 := cell_of hb 3
      have f1 := free_of hb 1
      have f3 := free_of hb 3
      unfold rdC at b1 b2 b3
      simp only [List.getElem?_toArray, List.getElem?_cons_zero, List.getElem?_cons_succ] at b1 b2 b3
      have HR0 := Lib.hid h0
      have HU0 := Lib.hid hu0
      clear h0 hb hu0
      go_enter Tryd.func122, Tryd.ntmps122
      go_wp2_with fail
      obtain ⟨s2, he2, hs'⟩ := HV.out
      have h1 := HR0.out.step HK.out
      have h2 := h1.1.depth (s.dp + 1)
      have hc1 : (((s.dp + 1 : Nat)) : Int) = (s.dp : Int) + 1 := by omega
      have hsd : (stepF s).dp = s.dp := rfl
      rw [hc1] at h2
      have hu1 := h1.2.trans_same h2.2
      have HU1 := Lib.hid hu1
      refine (HRd.out _ ⟨s.nx + 1, s.er, s.dp + 1⟩ n s2 hu1 h2.1 (by have := HD.out; simp; omega) he2).mono ?_
      clear h1 h2 hu1 b1 b2 b3 f1 f3
      rintro e w2 ⟨vv, rfl, hn, hR2, hu2, ha⟩
      obtain ⟨op, n1, n2, n3, so, nn, mm, l1, l2, l3, rfl⟩ := hn.six
      have had := ha.dp
      simp only at had
      have hu3 : Upto [] w2 (w2.alloc (.cells #[.int .i64 op, .slice n1 n2 n3, .int .i64 so, .int .i64 nn, .int .i64 mm, .slice l1 l2 l3] 59)) := (Upto.refl [] w2).alloc _
      have hR3 := hR2.ext hu3
      obtain ⟨⟨v3, hb3, -, -⟩, -, -⟩ := id hR3
      have b3 := cell_of hb3 3
      have f3 := free_of hb3 3
      unfold rdC at b3
      simp only [List.getElem?_toArray, List.getElem?_cons_zero, List.getElem?_cons_succ] at b3
      have hD := hR3.depth (s2.dp - 1)
      have hc2 : (((s2.dp - 1 : Nat)) : Int) = (s2.dp : Int) - 1 := by omega
      rw [hc2] at hD
      have hsz : w.heap.size < w2.heap.size := Nat.lt_of_lt_of_le (lt_of_heap HNew.out) (HU1.out.trans_same hu2).size
      have hz := (hD.2.at (hu3.at ((HU1.out.trans_same hu2).at HNew.out (by have := HpB.out; simp; omega)) (by simp)) (by have := HpB.out; simp; omega))
      have hq := hD.2.at (new_at w2 (.cells #[.int .i64 op, .slice n1 n2 n3, .int .i64 so, .int .i64 nn, .int .i64 mm, .slice l1 l2 l3] 59)) (by have := HpB.out; simp; omega)
      have z0 := cell_of hz 0
      have z1 := cell_of hz 1
      have z2 := cell_of hz 2
      have z3 := cell_of hz 3
      have z4 := cell_of hz 4
      have z5 := cell_of hz 5
      have y0 := free_of hz 0
      have y1 := free_of hz 1
      have y2 := free_of hz 2
      have y3 := free_of hz 3
      have y4 := free_of hz 4
      have y5 := free_of hz 5
      simp only [List.getElem?_toArray, List.getElem?_cons_zero, List.getElem?_cons_succ] at z0 z1 z2 z3 z4 z5
      have x0 := cell_of hq 0
      have x1 := cell_of hq 1
      have x2 := cell_of hq 2
      have x3 := cell_of hq 3
      have x4 := cell_of hq 4
      have x5 := cell_of hq 5
      have u0 := free_of hq 0
      have u1 := free_of hq 1
      have u2 := free_of hq 2
      have u3 := free_of hq 3
      have u4 := free_of hq 4
      have u5 := free_of hq 5
      simp only [List.getElem?_toArray, List.getElem?_cons_zero, List.getElem?_cons_succ] at x0 x1 x2 x3 x4 x5
      have hd2 : (0 : Int) ≤ s2.dp := by omega
      have hd3 : (s2.dp : Int) ≤ 256 := by have := HD.out; omega
      have HZ := Lib.hid hz
      have HD2 := Lib.hid hD
      have HN := Lib.hid hn
      have HA := Lib.hid ha
      have HU2 := Lib.hid (hu2.trans_ext hu3)
      have HDP := Lib.hid had
      clear hz hq hD hb3 hR3 hu3 hn ha hu2 hR2 had hc1 hc2 hsd hsz
      go_wp2_with fail
      have hst := nd_store HZ.out (.int .i64 op) (.slice n1 n2 n3) (.int .i64 so) (.int .i64 nn) (.int .i64 mm) (.slice l1 l2 l3)
      have q0 := cell_of hst 0
      have q1 := cell_of hst 1
      have q2 := cell_of hst 2
      have q3 := cell_of hst 3
      have q4 := cell_of hst 4
      have q5 := cell_of hst 5
      simp only [List.getElem?_toArray, List.getElem?_cons_zero, List.getElem?_cons_succ] at q0 q1 q2 q3 q4 q5
      exact bodyPost_ret (v := .agg #[.int .i64 op, .slice n1 n2 n3, .int .i64 so, .int .i64 nn, .int .i64 mm, .slice l1 l2 l3]) (by simp [results, Tryd.results122, go_sem, q0, q1, q2, q3, q4, q5]) rfl (rdpost_fin rfl HpB.out ((HU0.out.mono (by simp)).trans_same HU1.out) (Nat.lt_of_lt_of_le (lt_of_heap HNew.out) HU1.out.size) (HU2.out.trans_same HD2.out.2) (by rw [hs']; exact HD2.out.1) HZ.out (by
        have h1 := HA.out.le
        have h2 := HA.out.lt
        have h3 := HDP.out
        rw [hs']
        exact ⟨by simp at h1 ⊢; omega, h2, by simp; omega⟩) ((HN.out.ext ((Upto.refl [] w2).alloc _)).upto HD2.out.2 (fun b hb _ => by have h1 := HU1.out.size; have h2 := lt_of_heap HNew.out; have h3 := HpB.out; unfold New at hb; simp; omega)))
    · have k3 : ((s.er : Int) != 0) = true := by rw [bne, show ((s.er : Int) == 0) = false by rw [beq_eq_false_iff_ne]; omega]; rfl
      have HV : Hid (n = .zero ∧ s' = s) := Lib.hid (by
        unfold levelP at he
        simp only [if_neg h6, if_neg h0] at he
        cases he
        exact ⟨rfl, rfl⟩)
      have HC := Lib.hid hr
      clear h6 h0 he hr hk
      have hu0 : Upto [] w (w.alloc (.cells #[.int .i64 0, .slice none 0 0, .int .i64 0, .int .i64 0, .int .i64 0, .slice none 0 0] 59)) := (Upto.refl [] w).alloc _
      have h0 := HR.out.ext hu0
      have HNew := Lib.hid (new_at w (.cells #[.int .i64 0, .slice none 0 0, .int .i64 0, .int .i64 0, .int .i64 0, .slice none 0 0] 59))
      have HX0 := Lib.hid (HX.out.ext hu0)
      have HRd := Lib.hid (HC.out.upto (hu0.mono (by simp)))
      have HpB : Hid (p < w.heap.size) := Lib.hid HR.out.lt
      obtain ⟨⟨v, hb, -, -⟩, -, -⟩ := id h0
      have b1 := cell_of hb 1
      have b2 := cell_of hb 2
      have b3 := cell_of hb 3
      have f1 := free_of hb 1
      have f3 := free_of hb 3
      unfold rdC at b1 b2 b3
      simp only [List.getElem?_toArray, List.getElem?_cons_zero, List.getElem?_cons_succ] at b1 b2 b3
      have HR0 := Lib.hid h0
      have HU0 := Lib.hid hu0
      clear h0 hb hu0
      have hz := HNew.out
      have z0 := cell_of hz 0
      have z1 := cell_of hz 1
      have z2 := cell_of hz 2
      have z3 := cell_of hz 3
      have z4 := cell_of hz 4
      have z5 := cell_of hz 5
      have y0 := free_of hz 0
      have y1 := free_of hz 1
      have y2 := free_of hz 2
      have y3 := free_of hz 3
      have y4 := free_of hz 4
      have y5 := free_of hz 5
      simp only [List.getElem?_toArray, List.getElem?_cons_zero, List.getElem?_cons_succ] at z0 z1 z2 z3 z4 z5
      clear hz
      go_enter Tryd.func122, Tryd.ntmps122
      go_wp2_with fail
      generalize w.alloc (.cells #[.int .i64 0, .slice none 0 0, .int .i64 0, .int .i64 0, .int .i64 0, .slice none 0 0] 59) = W0 at *
      generalize hB : w.heap.size = B at *
      have HB := Lib.hid hB
      clear hB
      obtain ⟨rfl, rfl⟩ := HV.out
      exact bodyPost_ret (v := .agg #[.int .i64 0, .slice none 0 0, .int .i64 0, .int .i64 0, .int .i64 0, .slice none 0 0]) (by simp [results, Tryd.results122, go_sem, z0, z1, z2, z3, z4, z5]) rfl ⟨_, rfl, NdV.zero _ _, HR0.out, HU0.out.mono (by simp), Adv.refl hin⟩
end Go.Proofs.YtkhbpebpljdifaaDoor


namespace Go.Proofs.YtkhbpebpljdifaaDoor
open Go.RowKit Go.PL Go.Maps

/-- the number of the next token, as the reader at p holds it -/
def nxOf (w : World) (p : Nat) : Nat := match w.cell? ⟨p, 1, none⟩ with
  | some (.int _ x) => x.toNat
  | _ => 0
theorem RdAt.nx {w : World} {p : Nat} {l : List Tok} {s : PS} (h : RdAt w p l s) : nxOf w p = s.nx := by
  obtain ⟨⟨v, hb, -, -⟩, -, -⟩ := h
  unfold nxOf
  rw [cell_of hb 1]
  simp [rdC]
/-- blocks new since w, but for the result's and the variable's -/
def Lo (w : World) (B Bn : Nat) (b : Nat) : Prop := New w b ∧ b ≠ B ∧ b ≠ Bn
/-- what stands between two rounds -/
def LeftI (w : World) (p B Bn : Nat) (l : List Tok) (x : List UInt8) (op : Int) (of : Rd) (n : Nd) (s s' : PS) (wr : World) : Prop :=
  ∃ k m t, leftLoop l x op of k m t = some (n, s') ∧ RdAt wr p l t ∧ Upto [p] w wr ∧ Adv l s t ∧ wr.heap[B]? = some (.cells #[.int .i64 0, .slice none 0 0, .int .i64 0, .int .i64 0, .int .i64 0, .slice none 0 0] 59 (0, 0)) ∧
    ∃ (oa : Int) (na1 : Option Addr) (na2 na3 : Nat) (sa ma qa : Int) (la1 : Option Addr) (la2 la3 : Nat), wr.heap[Bn]? = some (.cells #[.int .i64 oa, .slice na1 na2 na3, .int .i64 sa, .int .i64 ma, .int .i64 qa, .slice la1 la2 la3] 59 (0, 0)) ∧ NdV wr (Lo w B Bn) m (.agg #[.int .i64 oa, .slice na1 na2 na3, .int .i64 sa, .int .i64 ma, .int .i64 qa, .slice la1 la2 la3])
theorem LeftI.next {w w4 : World} {p B Bn : Nat} {l : List Tok} {x : List UInt8} {op : Int} {of : Rd} {n m m2 : Nd} {s s' t2 : PS} {k : Nat} {a0 a1 a2 a3 a4 a5 b0 b1 b2 b3 b4 b5 : Value}
    (hB : w.heap.size = B) (hp : p < B) (hBn : B < Bn) (hu : Upto [p] w w4) (hR : RdAt w4 p l t2) (hz : w4.heap[B]? = some (.cells #[.int .i64 0, .slice none 0 0, .int .i64 0, .int .i64 0, .int .i64 0, .slice none 0 0] 59 (0, 0))) {T : TypeId} {x0 x2 x3 x4 : Int} {x1 x5 : Value} (h1 : ∀ x, x1 ≠ .string x) (h5 : ∀ x, x5 ≠ .string x)
    (hn : w4.heap[Bn]? = some (.cells #[.int .i64 x0, x1, .int .i64 x2, .int .i64 x3, .int .i64 x4, x5] 59 (0, 0)))
    (hm : NdV w4 (Lo w B Bn) m (.agg #[a0, a1, a2, a3, a4, a5])) (hm2 : NdV w4 (Lo w B Bn) m2 (.agg #[b0, b1, b2, b3, b4, b5])) (hl : leftLoop l x op of k (.mk op [] 0 0 0 [m, m2]) t2 = some (n, s')) (ha : Adv l s t2) :
    LeftI w p B Bn l x op of n s s' ((((((((w4.alloc (.cells #[a0, a1, a2, a3, a4, a5, b0, b1, b2, b3, b4, b5] T)).setCell ⟨Bn, 0, none⟩ (.int .i64 op)).setCell ⟨Bn, 1, none⟩ (.slice none 0 0)).setCell ⟨Bn, 2, none⟩ (.int .i64 0)).setCell ⟨Bn, 3, none⟩ (.int .i64 0)).setCell ⟨Bn, 4, none⟩ (.int .i64 0)).setCell ⟨Bn, 5, none⟩ (.slice (some ⟨w4.heap.size, 0, none⟩) 2 2))) ∧ nxOf ((((((((w4.alloc (.cells #[a0, a1, a2, a3, a4, a5, b0, b1, b2, b3, b4, b5] T)).setCell ⟨Bn, 0, none⟩ (.int .i64 op)).setCell ⟨Bn, 1, none⟩ (.slice none 0 0)).setCell ⟨Bn, 2, none⟩ (.int .i64 0)).setCell ⟨Bn, 3, none⟩ (.int .i64 0)).setCell ⟨Bn, 4, none⟩ (.int .i64 0)).setCell ⟨Bn, 5, none⟩ (.slice (some ⟨w4.heap.size, 0, none⟩) 2 2))) p = t2.nx := by
  have hua : Upto [] w4 (w4.alloc (.cells #[a0, a1, a2, a3, a4, a5, b0, b1, b2, b3, b4, b5] T)) := (Upto.refl [] w4).alloc _
  have hlt := lt_of_heap hn
  have hnew := new_at w4 (.cells #[a0, a1, a2, a3, a4, a5, b0, b1, b2, b3, b4, b5] T)
  have hg : Lo w B Bn w4.heap.size := ⟨hu.size, by omega, by omega⟩
  have htwo := NdV.two (w := w4.alloc (.cells #[a0, a1, a2, a3, a4, a5, b0, b1, b2, b3, b4, b5] T)) (P := Lo w B Bn) (op := op) (so := 0) (names := []) SlP.nil (hm.ext hua) (hm2.ext hua) hg hnew
  have hnA := hua.at hn (by simp)
  have hst := nd_self (w4.alloc (.cells #[a0, a1, a2, a3, a4, a5, b0, b1, b2, b3, b4, b5] T)) Bn (.int .i64 op) (.slice none 0 0) (.int .i64 0) (.int .i64 0) (.int .i64 0) (.slice (some ⟨w4.heap.size, 0, none⟩) 2 2)
  have hbn := nd_store hnA (.int .i64 op) (.slice none 0 0) (.int .i64 0) (.int .i64 0) (.int .i64 0) (.slice (some ⟨w4.heap.size, 0, none⟩) 2 2)
  have hRF := (hR.ext hua).other hnA (nd_no_string h1 h5) hst (by omega)
  refine ⟨⟨k, _, t2, hl, hRF, nd_up (hu.trans_ext hua) (Or.inr (by omega)) .., ha, hst.at (hua.at hz (by simp)) (by simp; omega), op, none, 0, 0, 0, 0, 0, _, 2, 2, hbn, ?_⟩, hRF.nx⟩
  exact htwo.upto hst (fun b hb _ => by simp; exact hb.2.2)

/-- the result stored, its blocks known to be new and not the result's own -/
theorem rdpost_lo {w w2 : World} {p B : Nat} {l : List Tok} {s s' : PS} {n : Nd} {P : Nat → Prop} (hB : w.heap.size = B) (hp : p < B) (hu : Upto [p] w w2) (hR : RdAt w2 p l s') {T : TypeId}
    (hz : w2.heap[B]? = some (.cells #[.int .i64 0, .slice none 0 0, .int .i64 0, .int .i64 0, .int .i64 0, .slice none 0 0] T (0, 0))) (ha : Adv l s s') {a b c d e f : Value} (hn : NdV w2 P n (.agg #[a, b, c, d, e, f])) (hP : ∀ b, P b → IsC w2 b → New w b ∧ b ≠ B) :
    RdPost w p l s n s' (.returned (.agg #[a, b, c, d, e, f])) ((((((w2.setCell ⟨B, 0, none⟩ a).setCell ⟨B, 1, none⟩ b).setCell ⟨B, 2, none⟩ c).setCell ⟨B, 3, none⟩ d).setCell ⟨B, 4, none⟩ e).setCell ⟨B, 5, none⟩ f) := by
  have hst := nd_self w2 B a b c d e f
  exact ⟨_, rfl, (hn.mono hP).upto hst (fun b hb _ => by simpa using hb.2) |>.mono fun b hb _ => hb.1, hR.other hz (nd_no_string (by simp) (by simp)) hst (by omega), nd_up hu (Or.inr (by omega)) .., ha⟩

set_option maxRecDepth 100000 in
set_option maxHeartbeats 6400000 in
theorem leftC_calls (w : World) (p : Nat) (l : List Tok) (s s' : PS) (n : Nd) (x : List UInt8) (op : Int) (k : FuncId) (a : Value) (of : Rd) (hx : Cx w p l) (h : RdAt w p l s) (hd : s.dp ≤ 256)
    (hk : ∀ args w, (callFunc k args).run Tryd.prog w = .ok (.enter k args) w) (hr : Rdr w p l k #[a] of) (he : leftP l x op of s = some (n, s')) :
    Calls Tryd.prog 75 #[.pointer (some ⟨p, 0, none⟩), .string ⟨x.toArray⟩, .int .i64 op, .func (.func k) #[] #[a]] w (RdPost w p l s n s') := by
  have HF : Hid (Fin l) := Lib.hid h.fin
  have HX := Lib.hid hx
  have HpB : Hid (p < w.heap.size) := Lib.hid h.lt
  have HV : Hid (∃ m t, of s = some (m, t) ∧ leftLoop l x op of (l.length + 1) m t = some (n, s')) := Lib.hid (by
    unfold leftP at he
    cases hq : of s with
    | none => rw [hq] at he; cases he
    | some r => obtain ⟨m, t⟩ := r; rw [hq] at he; exact ⟨m, t, rfl, he⟩)
  have hu0 : Upto [] w (w.alloc (.cells #[.int .i64 0, .slice none 0 0, .int .i64 0, .int .i64 0, .int .i64 0, .slice none 0 0] 59)) := (Upto.refl [] w).alloc _
  have HU0 := Lib.hid hu0
  have HR0 := Lib.hid (h.ext hu0)
  have HNew := Lib.hid (new_at w (.cells #[.int .i64 0, .slice none 0 0, .int .i64 0, .int .i64 0, .int .i64 0, .slice none 0 0] 59))
  have HRd := Lib.hid hr
  clear hx h he hu0 hr
  go_enter Tryd.func75, Tryd.ntmps75
  go_wp2_with fail
  obtain ⟨m, t, he1, he2⟩ := HV.out
  refine (HRd.out _ s m t (HU0.out.mono (by simp)) HR0.out hd he1).mono ?_
  rintro e w2 ⟨vv, rfl, hn, hR2, hu2, ha⟩
  obtain ⟨oa, na1, na2, na3, sa, ma, qa, la1, la2, la3, rfl⟩ := hn.six
  have HN := Lib.hid hn
  have HR2 := Lib.hid hR2
  have HU2 := Lib.hid hu2
  have HA := Lib.hid ha
  clear hn hR2 hu2 ha
  go_wp2_with fail
  have hsz : w.heap.size < w2.heap.size := Nat.lt_of_lt_of_le (lt_of_heap HNew.out) HU2.out.size
  have HI0 : Hid (LeftI w p w.heap.size w2.heap.size l x op of n s s' (w2.alloc (.cells #[.int .i64 oa, .slice na1 na2 na3, .int .i64 sa, .int .i64 ma, .int .i64 qa, .slice la1 la2 la3] 59))) := Lib.hid (by
    have hua : Upto [] w2 (w2.alloc (.cells #[.int .i64 oa, .slice na1 na2 na3, .int .i64 sa, .int .i64 ma, .int .i64 qa, .slice la1 la2 la3] 59)) := (Upto.refl [] w2).alloc _
    refine ⟨_, m, t, he2, HR2.out.ext hua, ((HU0.out.mono (by simp)).trans_same HU2.out).trans_ext hua, HA.out, hua.at (HU2.out.at HNew.out (by have := HpB.out; simp; omega)) (by simp), oa, na1, na2, na3, sa, ma, qa, la1, la2, la3, new_at _ _, ?_⟩
    refine (HN.out.mono fun b hb hl => ?_).ext hua
    have h1 : w.heap.size < b := Nat.lt_of_lt_of_le (lt_of_heap HNew.out) hb
    have h2 := hl.lt
    exact ⟨Nat.le_of_lt h1, by omega, by omega⟩)
  generalize hBn : w2.heap.size = Bn at *
  generalize hB : w.heap.size = B at *
  have HBn := Lib.hid hsz
  have HB := Lib.hid hB
  clear hsz hB hBn he1 he2
  go_loopw [] (fun wr => Hid (LeftI w p B Bn l x op of n s s' wr)) (fun wr => l.length - nxOf wr p)
  case atStart => exact HI0
  case round =>
    obtain ⟨j, m3, t3, hl3, hR3, hu3, ha3, hz3, oa, na1, na2, na3, sa, ma, qa, la1, la2, la3, hn3, hm3⟩ := hrel.out
    have HI := Lib.hid (And.intro hR3 (And.intro hu3 (And.intro ha3 (And.intro hz3 (And.intro hn3 hm3)))))
    have HC := Lib.hid (takes_calls wr p l t3 x hR3 HX.out.len)
    have HNX := Lib.hid hR3.nx
    have HNXI := Lib.hid hR3.inb
    clear hrel HI0
    cases j with
    | zero => unfold leftLoop at hl3; cases hl3
    | succ j =>
    unfold leftLoop at hl3
    cases hv : isF l x t3 with
    | true =>
      rw [hv] at HC hl3
      have HT : Hid ((takesF l x t3).2 = stepF t3) := Lib.hid (by unfold takesF; rw [if_pos hv])
      have HV2 : Hid (∃ m4 t4, of (stepF t3) = some (m4, t4) ∧ leftLoop l x op of j (.mk op [] 0 0 0 [m3, m4]) t4 = some (n, s')) := Lib.hid (by
        simp only [if_true] at hl3
        cases hq : of (stepF t3) with
        | none => rw [hq] at hl3; cases hl3
        | some r => obtain ⟨m4, t4⟩ := r; rw [hq] at hl3; exact ⟨m4, t4, rfl, hl3⟩)
      have HK := Lib.hid (isF_kind hv)
      clear hR3 hu3 ha3 hz3 hn3 hm3 hl3 hv
      go_wp2_with fail
      refine HC.out.mono ?_
      rintro e w3 ⟨rfl, hR3, hu3⟩
      rw [HT.out] at hR3
      have hd3 : Upto [] w3 w3.drew := (Upto.refl [] w3).drew
      have hn3 := hd3.at (hu3.at HI.out.2.2.2.2.1 (by have := HBn.out; have := HpB.out; have := HB.out; simp; omega)) (by simp)
      have x0 := cell_of hn3 0
      have x1 := cell_of hn3 1
      have x2 := cell_of hn3 2
      have x3 := cell_of hn3 3
      have x4 := cell_of hn3 4
      have x5 := cell_of hn3 5
      have y0 := free_of hn3 0
      have y1 := free_of hn3 1
      have y2 := free_of hn3 2
      have y3 := free_of hn3 3
      have y4 := free_of hn3 4
      have y5 := free_of hn3 5
      simp only [List.getElem?_toArray, List.getElem?_cons_zero, List.getElem?_cons_succ] at x0 x1 x2 x3 x4 x5
      have HR3 := Lib.hid (hR3.ext hd3)
      have HU3 := Lib.hid (hu3.trans_ext hd3)
      have HN3 := Lib.hid hn3
      have hp2 : Bn ≠ p := by have := HBn.out; have := HpB.out; omega
      have HP2 := Lib.hid hp2
      clear hR3 hd3 hu3 hn3 hp2
      go_wp2_with fail
      go_region_with (
        obtain ⟨m4, t4, he4, hl4⟩ := HV2.out
        refine (HRd.out _ (stepF t3) m4 t4 (HI.out.2.1.trans_same HU3.out) HR3.out (by have h1 := HI.out.2.2.1.dp; show t3.dp ≤ 256; omega) he4).mono ?_
        rintro e w4 ⟨v4, rfl, hn4, hR4, hu4, ha4⟩
        obtain ⟨ob, nb1, nb2, nb3, sb, mb, qb, lb1, lb2, lb3, rfl⟩ := hn4.six
        have hb4 := hu4.at HN3.out (by simpa using HP2.out)
        have hb5 := ((Upto.refl [] w4).alloc (.cells #[.int .i64 oa, .slice na1 na2 na3, .int .i64 sa, .int .i64 ma, .int .i64 qa, .slice la1 la2 la3, .int .i64 ob, .slice nb1 nb2 nb3, .int .i64 sb, .int .i64 mb, .int .i64 qb, .slice lb1 lb2 lb3] 59)).at hb4 (by simp)
        have g0 := cell_of hb4 0
        have g1 := cell_of hb4 1
        have g2 := cell_of hb4 2
        have g3 := cell_of hb4 3
        have g4 := cell_of hb4 4
        have g5 := cell_of hb4 5
        have h0 := free_of hb4 0
        have h1 := free_of hb4 1
        have h2 := free_of hb4 2
        have h3 := free_of hb4 3
        have h4 := free_of hb4 4
        have h5 := free_of hb4 5
        simp only [List.getElem?_toArray, List.getElem?_cons_zero, List.getElem?_cons_succ] at g0 g1 g2 g3 g4 g5
        have z0 := cell_of hb5 0
        have z1 := cell_of hb5 1
        have z2 := cell_of hb5 2
        have z3 := cell_of hb5 3
        have z4 := cell_of hb5 4
        have z5 := cell_of hb5 5
        have u0 := free_of hb5 0
        have u1 := free_of hb5 1
        have u2 := free_of hb5 2
        have u3 := free_of hb5 3
        have u4 := free_of hb5 4
        have u5 := free_of hb5 5
        simp only [List.getElem?_toArray, List.getElem?_cons_zero, List.getElem?_cons_succ] at z0 z1 z2 z3 z4 z5
        have HN4 := Lib.hid hn4
        have HR4 := Lib.hid hR4
        have HU4 := Lib.hid hu4
        have HA4 := Lib.hid ha4
        have HB4 := Lib.hid hb4
        have HL4 := Lib.hid hl4
        clear hn4 hR4 hu4 ha4 hb4 hb5 hl4 he4)
      all_goals (
        have q1 := HI.out
        have q2 := HU3.out
        have q3 := HU4.out
        have q4 := HB.out
        have q5 := HpB.out
        have q6 := HBn.out
        have q7 := HN3.out
        have q8 := q2.size
        have q9 := q1.2.1.size
        have hBlt := lt_of_heap q1.2.2.2.1
        have hBnlt := lt_of_heap q7
        have HQ := (LeftI.next (T := 59) q4 (by omega) q6 ((q1.2.1.trans_same q2).trans_same q3) HR4.out (q3.at (q2.at q1.2.2.2.1 (by simp; omega)) (by simp; omega)) (by simp) (by simp) HB4.out
            ((q1.2.2.2.2.2.upto q2 (fun b hb _ => by have h1 := hb.1; unfold New at h1; simp; omega)).upto q3 (fun b hb _ => by have h1 := hb.1; unfold New at h1; simp; omega))
            (HN4.out.mono (fun b hb _ => ⟨by unfold New at hb ⊢; omega, by unfold New at hb; omega, by unfold New at hb; omega⟩)) HL4.out (q1.2.2.1.trans ((Adv.step HF.out HNXI.out HK.out).trans HA4.out)))
        have e1 := HNX.out
        have e2 := HA4.out.le
        have e3 := HA4.out.lt
        have e4 : (stepF t3).nx = t3.nx + 1 := rfl
        exact ⟨⟨_, _, _, _, _, _, _, _, _, Lib.hid HQ.1, rfl⟩, by rw [HQ.2, e1]; omega⟩)
    | false =>
      rw [hv] at HC hl3
      have HT : Hid ((takesF l x t3).2 = t3) := Lib.hid (by unfold takesF; rw [hv]; rfl)
      simp at hl3
      obtain ⟨rfl, rfl⟩ := hl3
      clear hR3 hu3 ha3 hz3 hn3 hm3 hv
      go_wp2_with fail
      refine HC.out.mono ?_
      rintro e w3 ⟨rfl, hR3, hu3⟩
      rw [HT.out] at hR3
      have hn3 := hu3.at HI.out.2.2.2.2.1 (by have := HBn.out; have := HpB.out; have := HB.out; simp; omega)
      have hz3 := hu3.at HI.out.2.2.2.1 (by have := HBn.out; have := HpB.out; have := HB.out; simp; omega)
      have x0 := cell_of hn3 0
      have x1 := cell_of hn3 1
      have x2 := cell_of hn3 2
      have x3 := cell_of hn3 3
      have x4 := cell_of hn3 4
      have x5 := cell_of hn3 5
      have y0 := free_of hn3 0
      have y1 := free_of hn3 1
      have y2 := free_of hn3 2
      have y3 := free_of hn3 3
      have y4 := free_of hn3 4
      have y5 := free_of hn3 5
      simp only [List.getElem?_toArray, List.getElem?_cons_zero, List.getElem?_cons_succ] at x0 x1 x2 x3 x4 x5
      have z0 := cell_of hz3 0
      have z1 := cell_of hz3 1
      have z2 := cell_of hz3 2
      have z3 := cell_of hz3 3
      have z4 := cell_of hz3 4
      have z5 := cell_of hz3 5
      have u0 := free_of hz3 0
      have u1 := free_of hz3 1
      have u2 := free_of hz3 2
      have u3 := free_of hz3 3
      have u4 := free_of hz3 4
      have u5 := free_of hz3 5
      simp only [List.getElem?_toArray, List.getElem?_cons_zero, List.getElem?_cons_succ] at z0 z1 z2 z3 z4 z5
      have HZ3 := Lib.hid hz3
      have HR3 := Lib.hid hR3
      have HU3 := Lib.hid hu3
      clear hR3 hu3 hn3 hz3
      go_wp2_with fail
      have hst := nd_store HZ3.out (.int .i64 oa) (.slice na1 na2 na3) (.int .i64 sa) (.int .i64 ma) (.int .i64 qa) (.slice la1 la2 la3)
      have q0 := cell_of hst 0
      have q1 := cell_of hst 1
      have q2 := cell_of hst 2
      have q3 := cell_of hst 3
      have q4 := cell_of hst 4
      have q5 := cell_of hst 5
      simp only [List.getElem?_toArray, List.getElem?_cons_zero, List.getElem?_cons_succ] at q0 q1 q2 q3 q4 q5
      exact bodyPost_ret (v := .agg #[.int .i64 oa, .slice na1 na2 na3, .int .i64 sa, .int .i64 ma, .int .i64 qa, .slice la1 la2 la3]) (by simp [results, Tryd.results75, go_sem, q0, q1, q2, q3, q4, q5]) rfl (rdpost_lo HB.out (by have := HB.out; have := HpB.out; omega) (HI.out.2.1.trans_same HU3.out) HR3.out HZ3.out HI.out.2.2.1 (HI.out.2.2.2.2.2.upto HU3.out (fun b hb _ => by have h1 := hb.1; unfold New at h1; have := HpB.out; have := HB.out; simp; omega)) (fun b hb _ => ⟨hb.1, hb.2.1⟩))

set_option maxRecDepth 100000 in
set_option maxHeartbeats 6400000 in
theorem leftB_calls (w : World) (p : Nat) (l : List Tok) (s s' : PS) (n : Nd) (x : List UInt8) (op : Int) (k : FuncId) (a : Value) (of : Rd) (hx : Cx w p l) (h : RdAt w p l s) (hd : s.dp ≤ 256)
    (hk : ∀ args w, (callFunc k args).run Tryd.prog w = .ok (.enter k args) w) (hr : Rdr w p l k #[a] of) (he : leftP l x op of s = some (n, s')) :
    Calls Tryd.prog 75 #[.pointer (some ⟨p, 0, none⟩), .string ⟨x.toArray⟩, .int .i64 op, .func (.func k) #[a] #[]] w (RdPost w p l s n s') := by
  have HF : Hid (Fin l) := Lib.hid h.fin
  have HX := Lib.hid hx
  have HpB : Hid (p < w.heap.size) := Lib.hid h.lt
  have HV : Hid (∃ m t, of s = some (m, t) ∧ leftLoop l x op of (l.length + 1) m t = some (n, s')) := Lib.hid (by
    unfold leftP at he
    cases hq : of s with
    | none => rw [hq] at he; cases he
    | some r => obtain ⟨m, t⟩ := r; rw [hq] at he; exact ⟨m, t, rfl, he⟩)
  have hu0 : Upto [] w (w.alloc (.cells #[.int .i64 0, .slice none 0 0, .int .i64 0, .int .i64 0, .int .i64 0, .slice none 0 0] 59)) := (Upto.refl [] w).alloc _
  have HU0 := Lib.hid hu0
  have HR0 := Lib.hid (h.ext hu0)
  have HNew := Lib.hid (new_at w (.cells #[.int .i64 0, .slice none 0 0, .int .i64 0, .int .i64 0, .int .i64 0, .slice none 0 0] 59))
  have HRd := Lib.hid hr
  clear hx h he hu0 hr
  go_enter Tryd.func75, Tryd.ntmps75
  go_wp2_with fail
  obtain ⟨m, t, he1, he2⟩ := HV.out
  refine (HRd.out _ s m t (HU0.out.mono (by simp)) HR0.out hd he1).mono ?_
  rintro e w2 ⟨vv, rfl, hn, hR2, hu2, ha⟩
  obtain ⟨oa, na1, na2, na3, sa, ma, qa, la1, la2, la3, rfl⟩ := hn.six
  have HN := Lib.hid hn
  have HR2 := Lib.hid hR2
  have HU2 := Lib.hid hu2
  have HA := Lib.hid ha
  clear hn hR2 hu2 ha
  go_wp2_with fail
  have hsz : w.heap.size < w2.heap.size := Nat.lt_of_lt_of_le (lt_of_heap HNew.out) HU2.out.size
  have HI0 : Hid (LeftI w p w.heap.size w2.heap.size l x op of n s s' (w2.alloc (.cells #[.int .i64 oa, .slice na1 na2 na3, .int .i64 sa, .int .i64 ma, .int .i64 qa, .slice la1 la2 la3] 59))) := Lib.hid (by
    have hua : Upto [] w2 (w2.alloc (.cells #[.int .i64 oa, .slice na1 na2 na3, .int .i64 sa, .int .i64 ma, .int .i64 qa, .slice la1 la2 la3] 59)) := (Upto.refl [] w2).alloc _
    refine ⟨_, m, t, he2, HR2.out.ext hua, ((HU0.out.mono (by simp)).trans_same HU2.out).trans_ext hua, HA.out, hua.at (HU2.out.at HNew.out (by have := HpB.out; simp; omega)) (by simp), oa, na1, na2, na3, sa, ma, qa, la1, la2, la3, new_at _ _, ?_⟩
    refine (HN.out.mono fun b hb hl => ?_).ext hua
    have h1 : w.heap.size < b := Nat.lt_of_lt_of_le (lt_of_heap HNew.out) hb
    have h2 := hl.lt
    exact ⟨Nat.le_of_lt h1, by omega, by omega⟩)
  generalize hBn : w2.heap.size = Bn at *
  generalize hB : w.heap.size = B at *
  have HBn := Lib.hid hsz
  have HB := Lib.hid hB
  clear hsz hB hBn he1 he2
  go_loopw [] (fun wr => Hid (LeftI w p B Bn l x op of n s s' wr)) (fun wr => l.length - nxOf wr p)
  case atStart => exact HI0
  case round =>
    obtain ⟨j, m3, t3, hl3, hR3, hu3, ha3, hz3, oa, na1, na2, na3, sa, ma, qa, la1, la2, la3, hn3, hm3⟩ := hrel.out
    have HI := Lib.hid (And.intro hR3 (And.intro hu3 (And.intro ha3 (And.intro hz3 (And.intro hn3 hm3)))))
    have HC := Lib.hid (takes_calls wr p l t3 x hR3 HX.out.len)
    have HNX := Lib.hid hR3.nx
    have HNXI := Lib.hid hR3.inb
    clear hrel HI0
    cases j with
    | zero => unfold leftLoop at hl3; cases hl3
    | succ j =>
    unfold leftLoop at hl3
    cases hv : isF l x t3 with
    | true =>
      rw [hv] at HC hl3
      have HT : Hid ((takesF l x t3).2 = stepF t3) := Lib.hid (by unfold takesF; rw [if_pos hv])
      have HV2 : Hid (∃ m4 t4, of (stepF t3) = some (m4, t4) ∧ leftLoop l x op of j (.mk op [] 0 0 0 [m3, m4]) t4 = some (n, s')) := Lib.hid (by
        simp only [if_true] at hl3
        cases hq : of (stepF t3) with
        | none => rw [hq] at hl3; cases hl3
        | some r => obtain ⟨m4, t4⟩ := r; rw [hq] at hl3; exact ⟨m4, t4, rfl, hl3⟩)
      have HK := Lib.hid (isF_kind hv)
      clear hR3 hu3 ha3 hz3 hn3 hm3 hl3 hv
      go_wp2_with fail
      refine HC.out.mono ?_
      rintro e w3 ⟨rfl, hR3, hu3⟩
      rw [HT.out] at hR3
      have hd3 : Upto [] w3 w3.drew := (Upto.refl [] w3).drew
      have hn3 := hd3.at (hu3.at HI.out.2.2.2.2.1 (by have := HBn.out; have := HpB.out; have := HB.out; simp; omega)) (by simp)
      have x0 := cell_of hn3 0
      have x1 := cell_of hn3 1
      have x2 := cell_of hn3 2
      have x3 := cell_of hn3 3
      have x4 := cell_of hn3 4
      have x5 := cell_of hn3 5
      have y0 := free_of hn3 0
      have y1 := free_of hn3 1
      have y2 := free_of hn3 2
      have y3 := free_of hn3 3
      have y4 := free_of hn3 4
      have y5 := free_of hn3 5
      simp only [List.getElem?_toArray, List.getElem?_cons_zero, List.getElem?_cons_succ] at x0 x1 x2 x3 x4 x5
      have HR3 := Lib.hid (hR3.ext hd3)
      have HU3 := Lib.hid (hu3.trans_ext hd3)
      have HN3 := Lib.hid hn3
      have hp2 : Bn ≠ p := by have := HBn.out; have := HpB.out; omega
      have HP2 := Lib.hid hp2
      clear hR3 hd3 hu3 hn3 hp2
      go_wp2_with fail
      go_region_with (
        obtain ⟨m4, t4, he4, hl4⟩ := HV2.out
        refine (HRd.out _ (stepF t3) m4 t4 (HI.out.2.1.trans_same HU3.out) HR3.out (by have h1 := HI.out.2.2.1.dp; show t3.dp ≤ 256; omega) he4).mono ?_
        rintro e w4 ⟨v4, rfl, hn4, hR4, hu4, ha4⟩
        obtain ⟨ob, nb1, nb2, nb3, sb, mb, qb, lb1, lb2, lb3, rfl⟩ := hn4.six
        have hb4 := hu4.at HN3.out (by simpa using HP2.out)
        have hb5 := ((Upto.refl [] w4).alloc (.cells #[.int .i64 oa, .slice na1 na2 na3, .int .i64 sa, .int .i64 ma, .int .i64 qa, .slice la1 la2 la3, .int .i64 ob, .slice nb1 nb2 nb3, .int .i64 sb, .int .i64 mb, .int .i64 qb, .slice lb1 lb2 lb3] 59)).at hb4 (by simp)
        have g0 := cell_of hb4 0
        have g1 := cell_of hb4 1
        have g2 := cell_of hb4 2
        have g3 := cell_of hb4 3
        have g4 := cell_of hb4 4
        have g5 := cell_of hb4 5
        have h0 := free_of hb4 0
        have h1 := free_of hb4 1
        have h2 := free_of hb4 2
        have h3 := free_of hb4 3
        have h4 := free_of hb4 4
        have h5 := free_of hb4 5
        simp only [List.getElem?_toArray, List.getElem?_cons_zero, List.getElem?_cons_succ] at g0 g1 g2 g3 g4 g5
        have z0 := cell_of hb5 0
        have z1 := cell_of hb5 1
        have z2 := cell_of hb5 2
        have z3 := cell_of hb5 3
        have z4 := cell_of hb5 4
        have z5 := cell_of hb5 5
        have u0 := free_of hb5 0
        have u1 := free_of hb5 1
        have u2 := free_of hb5 2
        have u3 := free_of hb5 3
        have u4 := free_of hb5 4
        have u5 := free_of hb5 5
        simp only [List.getElem?_toArray, List.getElem?_cons_zero, List.getElem?_cons_succ] at z0 z1 z2 z3 z4 z5
        have HN4 := Lib.hid hn4
        have HR4 := Lib.hid hR4
        have HU4 := Lib.hid hu4
        have HA4 := Lib.hid ha4
        have HB4 := Lib.hid hb4
        have HL4 := Lib.hid hl4
        clear hn4 hR4 hu4 ha4 hb4 hb5 hl4 he4)
      all_goals (
        have q1 := HI.out
        have q2 := HU3.out
        have q3 := HU4.out
        have q4 := HB.out
        have q5 := HpB.out
        have q6 := HBn.out
        have q7 := HN3.out
        have q8 := q2.size
        have q9 := q1.2.1.size
        have hBlt := lt_of_heap q1.2.2.2.1
        have hBnlt := lt_of_heap q7
        have HQ := (LeftI.next (T := 59) q4 (by omega) q6 ((q1.2.1.trans_same q2).trans_same q3) HR4.out (q3.at (q2.at q1.2.2.2.1 (by simp; omega)) (by simp; omega)) (by simp) (by simp) HB4.out
            ((q1.2.2.2.2.2.upto q2 (fun b hb _ => by have h1 := hb.1; unfold New at h1; simp; omega)).upto q3 (fun b hb _ => by have h1 := hb.1; unfold New at h1; simp; omega))
            (HN4.out.mono (fun b hb _ => ⟨by unfold New at hb ⊢; omega, by unfold New at hb; omega, by unfold New at hb; omega⟩)) HL4.out (q1.2.2.1.trans ((Adv.step HF.out HNXI.out HK.out).trans HA4.out)))
        have e1 := HNX.out
        have e2 := HA4.out.le
        have e3 := HA4.out.lt
        have e4 : (stepF t3).nx = t3.nx + 1 := rfl
        exact ⟨⟨_, _, _, _, _, _, _, _, _, Lib.hid HQ.1, rfl⟩, by rw [HQ.2, e1]; omega⟩)
    | false =>
      rw [hv] at HC hl3
      have HT : Hid ((takesF l x t3).2 = t3) := Lib.hid (by unfold takesF; rw [hv]; rfl)
      simp at hl3
      obtain ⟨rfl, rfl⟩ := hl3
      clear hR3 hu3 ha3 hz3 hn3 hm3 hv
      go_wp2_with fail
      refine HC.out.mono ?_
      rintro e w3 ⟨rfl, hR3, hu3⟩
      rw [HT.out] at hR3
      have hn3 := hu3.at HI.out.2.2.2.2.1 (by have := HBn.out; have := HpB.out; have := HB.out; simp; omega)
      have hz3 := hu3.at HI.out.2.2.2.1 (by have := HBn.out; have := HpB.out; have := HB.out; simp; omega)
      have x0 := cell_of hn3 0
      have x1 := cell_of hn3 1
      have x2 := cell_of hn3 2
      have x3 := cell_of hn3 3
      have x4 := cell_of hn3 4
      have x5 := cell_of hn3 5
      have y0 := free_of hn3 0
      have y1 := free_of hn3 1
      have y2 := free_of hn3 2
      have y3 := free_of hn3 3
      have y4 := free_of hn3 4
      have y5 := free_of hn3 5
      simp only [List.getElem?_toArray, List.getElem?_cons_zero, List.getElem?_cons_succ] at x0 x1 x2 x3 x4 x5
      have z0 := cell_of hz3 0
      have z1 := cell_of hz3 1
      have z2 := cell_of hz3 2
      have z3 := cell_of hz3 3
      have z4 := cell_of hz3 4
      have z5 := cell_of hz3 5
      have u0 := free_of hz3 0
      have u1 := free_of hz3 1
      have u2 := free_of hz3 2
      have u3 := free_of hz3 3
      have u4 := free_of hz3 4
      have u5 := free_of hz3 5
      simp only [List.getElem?_toArray, List.getElem?_cons_zero, List.getElem?_cons_succ] at z0 z1 z2 z3 z4 z5
      have HZ3 := Lib.hid hz3
      have HR3 := Lib.hid hR3
      have HU3 := Lib.hid hu3
      clear hR3 hu3 hn3 hz3
      go_wp2_with fail
      have hst := nd_store HZ3.out (.int .i64 oa) (.slice na1 na2 na3) (.int .i64 sa) (.int .i64 ma) (.int .i64 qa) (.slice la1 la2 la3)
      have q0 := cell_of hst 0
      have q1 := cell_of hst 1
      have q2 := cell_of hst 2
      have q3 := cell_of hst 3
      have q4 := cell_of hst 4
      have q5 := cell_of hst 5
      simp only [List.getElem?_toArray, List.getElem?_cons_zero, List.getElem?_cons_succ] at q0 q1 q2 q3 q4 q5
      exact bodyPost_ret (v := .agg #[.int .i64 oa, .slice na1 na2 na3, .int .i64 sa, .int .i64 ma, .int .i64 qa, .slice la1 la2 la3]) (by simp [results, Tryd.results75, go_sem, q0, q1, q2, q3, q4, q5]) rfl (rdpost_lo HB.out (by have := HB.out; have := HpB.out; omega) (HI.out.2.1.trans_same HU3.out) HR3.out HZ3.out HI.out.2.2.1 (HI.out.2.2.2.2.2.upto HU3.out (fun b hb _ => by have h1 := hb.1; unfold New at h1; have := HpB.out; have := HB.out; simp; omega)) (fun b hb _ => ⟨hb.1, hb.2.1⟩))
end Go.Proofs.YtkhbpebpljdifaaDoor

