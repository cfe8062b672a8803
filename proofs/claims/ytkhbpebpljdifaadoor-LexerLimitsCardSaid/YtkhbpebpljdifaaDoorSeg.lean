/- Regions that draw their order: one walk in an order of one's own choosing, where the operations only read, make new memory, or call what only makes new memory; what a call hands back may be any value of which a lasting fact is known. -/
import Derived.Test.YtkhbpebpljdifaaDoorExt
import Derived.OrdersHeld
import Derived.BigQuiet
namespace Go.PL
open Go.RowKit

/-- what is known of the value that operation idx has left; own: the new blocks that it owns -/
structure Fact where
  idx : Nat
  own : List Nat
  holds : World → Prop

def maskStep (ms : List Nat) (o : Oper) : List Nat :=
  ms ++ [o.after.toList.foldl (fun m e => if Region.binds .any e then (m ||| (1 <<< e.on)) ||| ms.getD e.on 0 else m) 0]
/-- for each operation the set of those that it waits for, near and far -/
def masks (ops : List Oper) : List Nat := ops.foldl maskStep []
def reach (ops : Array Oper) (i j : Nat) : Bool := ((masks ops.toList).getD i 0).testBit j

theorem maskFold (ms : List Nat) (j : Nat) : ∀ (es : List Edge) (m : Nat), (es.foldl (fun m e => if Region.binds .any e then (m ||| (1 <<< e.on)) ||| ms.getD e.on 0 else m) m).testBit j = true →
    m.testBit j = true ∨ ∃ e ∈ es, Region.binds .any e = true ∧ (e.on = j ∨ (ms.getD e.on 0).testBit j = true)
  | [], m, h => Or.inl h
  | e :: es, m, h => by
    rw [List.foldl_cons] at h
    rcases maskFold ms j es _ h with h | ⟨e', he, h⟩
    · by_cases hb : Region.binds .any e = true
      · rw [if_pos hb, Nat.testBit_or, Nat.testBit_or, Bool.or_eq_true, Bool.or_eq_true] at h
        rcases h with (h | h) | h
        · exact Or.inl h
        · refine Or.inr ⟨e, by simp, hb, Or.inl ?_⟩
          rw [Nat.testBit_shiftLeft] at h
          simp only [Bool.and_eq_true, decide_eq_true_eq] at h
          have := h.2
          rw [show (1 : Nat) = 2 ^ 0 from rfl, Nat.testBit_two_pow] at this
          simp at this
          omega
        · exact Or.inr ⟨e, by simp, hb, Or.inr h⟩
      · rw [if_neg hb] at h
        exact Or.inl h
    · exact Or.inr ⟨e', by simp [he], h⟩

theorem masks_len (ops : List Oper) : (masks ops).length = ops.length := by
  unfold masks
  suffices h : ∀ (l : List Oper) (ms : List Nat), (l.foldl maskStep ms).length = ms.length + l.length by simpa using h ops []
  intro l
  induction l with
  | nil => intro ms; simp
  | cons o l ih => intro ms; rw [List.foldl_cons, ih]; simp [maskStep]; omega

theorem masks_from (l : List Oper) : ∀ (ms : List Nat) (i : Nat), i < ms.length → (l.foldl maskStep ms).getD i 0 = ms.getD i 0 := by
  induction l with
  | nil => intro ms i _; rfl
  | cons o l ih =>
    intro ms i hi
    rw [List.foldl_cons, ih _ _ (by simp [maskStep]; omega)]
    simp [maskStep, List.getD, List.getElem?_append_left hi]

theorem masks_spec (ops : List Oper) : ∀ (pre post : List Oper) (o : Oper), ops = pre ++ o :: post → ∀ j, ((masks ops).getD pre.length 0).testBit j = true →
    ∃ e ∈ o.after.toList, Region.binds .any e = true ∧ (e.on = j ∨ (e.on < pre.length ∧ ((masks ops).getD e.on 0).testBit j = true)) := by
  rintro pre post o rfl j h
  have hm : masks (pre ++ o :: post) = post.foldl maskStep (maskStep (masks pre) o) := by simp [masks, List.foldl_append]
  have hl : (maskStep (masks pre) o).length = pre.length + 1 := by simp [maskStep, masks_len]
  rw [hm, masks_from _ _ _ (by rw [hl]; omega)] at h
  have hg : (maskStep (masks pre) o).getD pre.length 0 = o.after.toList.foldl (fun m e => if Region.binds .any e then (m ||| (1 <<< e.on)) ||| (masks pre).getD e.on 0 else m) 0 := by
    unfold maskStep
    simp [List.getD, List.getElem?_append_right, masks_len]
  rw [hg] at h
  rcases maskFold _ _ _ _ h with h | ⟨e, he, hb, h⟩
  · simp at h
  · refine ⟨e, he, hb, h.imp id fun h => ?_⟩
    have hlt : e.on < pre.length := by
      rw [← masks_len]
      refine Nat.lt_of_not_le fun hle => ?_
      rw [List.getD, List.getElem?_eq_none hle] at h
      simp at h
    refine ⟨hlt, ?_⟩
    rw [hm, masks_from _ _ _ (by rw [hl]; omega)]
    simpa [maskStep, List.getD, List.getElem?_append_left (show e.on < (masks pre).length by rw [masks_len]; exact hlt)] using h

theorem reach_spec {ops : Array Oper} {i j : Nat} {o : Oper} (hi : ops[i]? = some o) (h : reach ops i j = true) :
    ∃ e ∈ o.after, Region.binds .any e = true ∧ (e.on = j ∨ (e.on < i ∧ reach ops e.on j = true)) := by
  have hi' : ops.toList[i]? = some o := by simpa using hi
  obtain ⟨hlt, hget⟩ := List.getElem?_eq_some_iff.1 hi'
  have hsplit : ops.toList = ops.toList.take i ++ o :: ops.toList.drop (i + 1) := by
    rw [← hget, ← List.drop_eq_getElem_cons hlt, List.take_append_drop]
  have hlen : (ops.toList.take i).length = i := by rw [List.length_take]; omega
  obtain ⟨e, he, hb, h⟩ := masks_spec _ _ _ _ hsplit j (by rw [hlen]; exact h)
  rw [hlen] at h
  exact ⟨e, by simpa using he, hb, h⟩

/-- what has come up waits for nothing that has not -/
def Closed (ops : Array Oper) (listed : Array Bool) : Prop := ∀ i o, ops[i]? = some o → listed.getD i false = true → ∀ e ∈ o.after, Region.binds .any e = true → listed.getD e.on false = true

theorem reach_listed {ops : Array Oper} {listed : Array Bool} (hc : Closed ops listed) {j : Nat} : ∀ (n i : Nat) (o : Oper), i < n → ops[i]? = some o → (∀ e ∈ o.after, Region.binds .any e = true → listed.getD e.on false = true) → reach ops i j = true → listed.getD j false = true := by
  intro n
  induction n with
  | zero => intro i _ h; omega
  | succ n ih =>
    intro i o hi ho hd hr
    obtain ⟨e, he, hb, h | ⟨hlt, h⟩⟩ := reach_spec ho hr
    · rw [← h]; exact hd e he hb
    · have hle := hd e he hb
      have hlt' : e.on < ops.size := Nat.lt_trans hlt (Array.getElem?_eq_some_iff.1 ho).1
      exact ih e.on _ (by omega) (Array.getElem?_eq_getElem hlt') (hc e.on _ (Array.getElem?_eq_getElem hlt') hle) h

/-- an operation that is no call of a Go function and hands on a value in the world that it got -/
def plainOp (o : Oper) : Bool :=
  match o.op with
  | .move _ | .assign _ | .pick .. | .build .. | .load .. | .binOp .. | .unOp .. | .fieldAddr .. | .field .. | .indexAddr .. | .index .. | .extract .. | .slice .. | .lookup .. | .makeInterface .. | .convert .. | .makeFunc .. | .nilCheck _ => true
  | _ => false

theorem then_ok {α : Type} {r : Result α} {k : α → World → Result Next} {n : Next} {w' : World} (h : r.andThen k = .ok n w') : ∃ v w1, k v w1 = .ok n w' := by
  cases r with
  | ok v w1 => exact ⟨v, w1, h⟩
  | halt x w1 => simp [Result.andThen] at h
theorem only_value (P : Program) (s : Sem Value) (w w' : World) (n : Next) (h : (do pure (Next.value (← s)) : Sem Next).run P w = .ok n w') : ∃ v, n = .value v := by
  rw [Sem.run_bind] at h
  obtain ⟨v, w1, h⟩ := then_ok h
  simp [Sem.run_pure] at h
  exact ⟨v, h.1.symm⟩

theorem plain_value {P : Program} {o : Oper} {ρ : Operand → Value} (hp : plainOp o = true) (w w' : World) (n : Next) (h : (execOp ρ o).run P w = .ok n w') : ∃ v, n = .value v := by
  obtain ⟨dst, op, type, pos, after, guard⟩ := o
  cases op <;> simp only [plainOp, Bool.false_eq_true] at hp <;> simp only [execOp] at h
  case move x => simp [Sem.run_pure] at h; exact ⟨_, h.1.symm⟩
  case assign x => simp [Sem.run_pure] at h; exact ⟨_, h.1.symm⟩
  case pick c a b =>
    rw [Sem.run_bind] at h
    obtain ⟨v, w1, h⟩ := then_ok h
    simp [Sem.run_pure] at h
    exact ⟨_, h.1.symm⟩
  case nilCheck x =>
    split at h
    · simp [runtimePanic] at h
    · simp [runtimePanic] at h
    · simp [runtimePanic] at h
    · split at h
      · simp [runtimePanic] at h
      · rw [Sem.run_bind] at h
        obtain ⟨_, _, h⟩ := then_ok h
        rw [Sem.run_bind] at h
        obtain ⟨_, _, h⟩ := then_ok h
        split at h
        · rw [Sem.run_bind] at h
          obtain ⟨_, _, h⟩ := then_ok h
          simp [Sem.run_pure] at h
          exact ⟨_, h.1.symm⟩
        · simp [Sem.run_pure] at h
          exact ⟨_, h.1.symm⟩
      · simp [Sem.run_pure] at h
        exact ⟨_, h.1.symm⟩
    · simp [Sem.run_pure] at h
      exact ⟨_, h.1.symm⟩
  all_goals exact only_value P _ w w' n h

/-- what a plain operation leaves -/
theorem plain_val {P : Program} {o : Oper} {a : Act} {C : World → Prop} {w : World} {v : Value} (hp : plainOp o = true) (h : o.quietAt P a C w v) :
    (execOp a.eval o).run P w = .ok (.value v) w := by
  unfold Oper.quietAt at h
  have hn := plain_value (P := P) (ρ := a.eval) hp w
  generalize (execOp a.eval o).run P w = r at *
  cases r with
  | ok n w' =>
    obtain ⟨u, rfl⟩ := hn w' n rfl
    simp only [Oper.quietUpon] at h
    obtain ⟨rfl, rfl⟩ := h
    rfl
  | halt x w' => simp only [Oper.quietUpon] at h
theorem plain_res {P : Program} {o : Oper} {a : Act} {C : World → Prop} {w : World} {v : Value} (hp : plainOp o = true) (h : o.quietAt P a C w v) :
    (execOp a.eval o).run P w = .ok (.value v) w ∨ ((execOp a.eval o).run P w = .ok .skip w ∧ v = undef) := Or.inl (plain_val hp h)

/-- what is asked once an operation that may make memory has been carried out -/
def opqUpon (P : Program) (post : Value → World → Prop) : Result Next → Prop
  | .ok (.value u) w' => post u w'
  | .ok .skip w' => post undef w'
  | .ok (.enter f args) w' => Calls P f args w' fun e w'' => ∃ u, e = .returned u ∧ post u w''
  | _ => False

theorem opqUpon_mono {P : Program} {post post' : Value → World → Prop} {r : Result Next} (h : ∀ v w, post v w → post' v w) (hh : opqUpon P post r) : opqUpon P post' r := by
  cases r with
  | ok n w' =>
    cases n <;> simp only [opqUpon] at hh ⊢
    case value u => exact h _ _ hh
    case skip => exact h _ _ hh
    case enter f args => exact hh.mono fun e w'' ⟨u, he, hp⟩ => ⟨u, he, h _ _ hp⟩
  | halt x w' => simp only [opqUpon] at hh

/-- the facts on which operation i may lean -/
def DF (ops : Array Oper) (i : Nat) : List Fact → World → Prop
  | [], _ => True
  | f :: Fs, w => (reach ops i f.idx = true → f.holds w) ∧ DF ops i Fs w
def AllHold : List Fact → World → Prop
  | [], _ => True
  | f :: Fs, w => f.holds w ∧ AllHold Fs w

theorem DF_iff {ops : Array Oper} {i : Nat} {Fs : List Fact} {w : World} : DF ops i Fs w ↔ ∀ f ∈ Fs, reach ops i f.idx = true → f.holds w := by
  induction Fs with
  | nil => simp [DF]
  | cons f Fs ih => simp [DF, ih]
theorem AllHold_iff {Fs : List Fact} {w : World} : AllHold Fs w ↔ ∀ f ∈ Fs, f.holds w := by
  induction Fs with
  | nil => simp [AllHold]
  | cons f Fs ih => simp [AllHold, ih]

def ownAll (Fs : List Fact) : List Nat := Fs.flatMap Fact.own

/-- the walk, in the order of the list: Cs the calls, As the allocations, all others plain -/
def Seg (P : Program) (ops : Array Oper) (W : World) (Cs As : List Nat) (K : List Fact → Act → Prop) : List Nat → List Fact → Act → Prop
  | [], Fs, a => K Fs a
  | i :: l, Fs, a =>
    match ops[i]? with
    | none => False
    | some o =>
      if Region.wanted o (yielded ops a.tmps) = true then
        if i ∈ As then
          ∃ obj, (∀ w, (execOp a.eval o).run P w = .ok (.value (.pointer (some ⟨w.heap.size, 0, none⟩))) (w.alloc obj)) ∧
            ∀ b, Seg P ops W Cs As K l (⟨i, [b], fun w => w.heap[b]? = some obj⟩ :: Fs) (a.put o.dst (.pointer (some ⟨b, 0, none⟩)))
        else if i ∈ Cs then
          (∃ v, (∀ w, Upto [] W w → DF ops i Fs w → opqUpon P (fun u w' => Upto [] w w' ∧ u = v) ((execOp a.eval o).run P w)) ∧ Seg P ops W Cs As K l Fs (a.put o.dst v)) ∨
          ∃ (Y : Type) (mk : Y → Value) (Φ : Y → World → Prop) (own : Y → List Nat), Nonempty Y ∧ (∀ y w w', Φ y w → Upto [] w w' → Φ y w') ∧ (∀ y, (own y).Nodup) ∧
            (∀ w, Upto [] W w → DF ops i Fs w → opqUpon P (fun v w' => Upto [] w w' ∧ ∃ y, v = mk y ∧ Φ y w' ∧ ∀ b ∈ own y, w.heap.size ≤ b ∧ b < w'.heap.size) ((execOp a.eval o).run P w)) ∧
            ∀ y, Seg P ops W Cs As K l (⟨i, own y, Φ y⟩ :: Fs) (a.put o.dst (mk y))
        else plainOp o = true ∧ ∃ C : World → Prop, (∀ w, Upto [] W w → DF ops i Fs w → C w) ∧ o.quiet P a C (Seg P ops W Cs As K l Fs)
      else Seg P ops W Cs As K l Fs (a.put o.dst undef)

section
variable {P : Program} {ops : Array Oper} {W : World} {Cs As : List Nat} {K : List Fact → Act → Prop}

theorem Seg_perm (hK : ∀ Fs Fs' a, Fs.Perm Fs' → K Fs a → K Fs' a) : ∀ (l : List Nat) (Fs Fs' : List Fact) (a : Act), Fs.Perm Fs' → Seg P ops W Cs As K l Fs a → Seg P ops W Cs As K l Fs' a
  | [], Fs, Fs', a, hp, h => hK _ _ _ hp h
  | i :: l, Fs, Fs', a, hp, h => by
    have hdf : ∀ {w}, DF ops i Fs' w → DF ops i Fs w := fun h => DF_iff.2 fun f hf => DF_iff.1 h f (hp.mem_iff.1 hf)
    unfold Seg at h ⊢
    split at h
    · exact h
    · rename_i o ho
      split at h
      · rename_i hw
        rw [if_pos hw]
        split at h
        · rename_i hA
          rw [if_pos hA]
          obtain ⟨obj, h1, h2⟩ := h
          exact ⟨obj, h1, fun b => Seg_perm hK l _ _ _ (hp.cons _) (h2 b)⟩
        · rename_i hA
          rw [if_neg hA]
          split at h
          · rename_i hC
            rw [if_pos hC]
            rcases h with ⟨v, h1, h2⟩ | ⟨Y, mk, Φ, own, hy, h1, h2, h3, h4⟩
            · exact Or.inl ⟨v, fun w hw hd => h1 w hw (hdf hd), Seg_perm hK l _ _ _ hp h2⟩
            · exact Or.inr ⟨Y, mk, Φ, own, hy, h1, h2, fun w hw hd => h3 w hw (hdf hd), fun v => Seg_perm hK l _ _ _ (hp.cons _) (h4 v)⟩
          · rename_i hC
            rw [if_neg hC]
            obtain ⟨h1, C, h2, h3⟩ := h
            exact ⟨h1, C, fun w hw hd => h2 w hw (hdf hd), Oper.quiet_mono (fun a h => Seg_perm hK l _ _ _ hp h) h3⟩
      · rename_i hw
        rw [if_neg hw]
        exact Seg_perm hK l _ _ _ hp h

/-- what a plain operation or an allocation has come to -/
def Res (P : Program) (ops : Array Oper) (o : Oper) (a : Act) (w : World) (u : Value) (w' : World) : Prop :=
  if Region.wanted o (yielded ops a.tmps) = true then (execOp a.eval o).run P w = .ok (.value u) w' ∨ ((execOp a.eval o).run P w = .ok .skip w' ∧ u = undef) else u = undef ∧ w' = w
def NF (j : Nat) (w w' : World) (nf : List Fact) : Prop :=
  (nf = [] ∧ w' = w) ∨ ∃ obj, w' = w.alloc obj ∧ nf = [⟨j, [w.heap.size], fun x => x.heap[w.heap.size]? = some obj⟩]

theorem Res.unique {o : Oper} {a : Act} {w w1 w2 : World} {u1 u2 : Value} (h1 : Res P ops o a w u1 w1) (h2 : Res P ops o a w u2 w2) : u1 = u2 ∧ w1 = w2 := by
  unfold Res at h1 h2
  by_cases hw : Region.wanted o (yielded ops a.tmps) = true
  · rw [if_pos hw] at h1 h2
    rcases h1 with h1 | ⟨h1, e1⟩ <;> rcases h2 with h2 | ⟨h2, e2⟩
    · rw [h1] at h2; cases h2; exact ⟨rfl, rfl⟩
    · rw [h1] at h2; cases h2
    · rw [h1] at h2; cases h2
    · rw [h1] at h2; cases h2; exact ⟨e1.trans e2.symm, rfl⟩
  · rw [if_neg hw] at h1 h2
    exact ⟨h1.1.trans h2.1.symm, h1.2.trans h2.2.symm⟩

theorem alloc_inj {w : World} {o1 o2 : Obj} (h : w.alloc o1 = w.alloc o2) : o1 = o2 := by
  have h1 : (w.heap.push o1)[w.heap.size]? = (w.heap.push o2)[w.heap.size]? := congrArg (fun x : World => x.heap[w.heap.size]?) h
  simpa using h1
theorem alloc_ne {w : World} {o : Obj} (h : w.alloc o = w) : False := by
  have h1 : (w.heap.push o).size = w.heap.size := congrArg (fun x : World => x.heap.size) h
  simp at h1

theorem NF.unique {j : Nat} {w w' : World} {n1 n2 : List Fact} (h1 : NF j w w' n1) (h2 : NF j w w' n2) : n1 = n2 := by
  rcases h1 with ⟨rfl, rfl⟩ | ⟨o1, rfl, rfl⟩ <;> rcases h2 with ⟨rfl, e⟩ | ⟨o2, e, rfl⟩
  · rfl
  · exact (alloc_ne e.symm).elim
  · exact (alloc_ne e).elim
  · rw [alloc_inj e]

theorem res_put (hsel : Region.noSelect ops = true) {j : Nat} {oj : Oper} (hj : ops[j]? = some oj) {a : Act} {dst : Option Tmp} {v : Value} (h : ∀ d, dst = some d → d ∉ oj.looksAt ops) {w w' : World} {u : Value} :
    Res P ops oj (a.put dst v) w u w' ↔ Res P ops oj a w u w' := by
  unfold Res
  rw [execOp_put oj (fun cs b => Region.noSelect_spec hsel j oj cs b hj) a dst v h, wanted_put oj a dst v h]

def waits (ops : Array Oper) (i j : Nat) : Bool :=
  match ops[i]? with
  | some o => o.after.any fun e => Region.binds .any e && e.on == j
  | none => false
/-- what is asked of two numbers of the walk's list, i before j -/
def before (ops : Array Oper) (Cs As : List Nat) (i j : Nat) : Bool :=
  i != j && !(waits ops i j) && (waits ops j i || (match ops[i]?, ops[j]? with | some oi, some oj => oi.apart ops oj | _, _ => false)) &&
    (!(Cs.contains j) || As.contains j || !(Cs.contains i || As.contains i) || reach ops j i)

/-- the head of the walk, with what follows as a variable -/
def Head (P : Program) (ops : Array Oper) (W : World) (Cs As : List Nat) (i : Nat) (o : Oper) (Fs : List Fact) (a : Act) (N : List Fact → Act → Prop) : Prop :=
  if Region.wanted o (yielded ops a.tmps) = true then
    if i ∈ As then
      ∃ obj, (∀ w, (execOp a.eval o).run P w = .ok (.value (.pointer (some ⟨w.heap.size, 0, none⟩))) (w.alloc obj)) ∧
        ∀ b, N (⟨i, [b], fun w => w.heap[b]? = some obj⟩ :: Fs) (a.put o.dst (.pointer (some ⟨b, 0, none⟩)))
    else if i ∈ Cs then
      (∃ v, (∀ w, Upto [] W w → DF ops i Fs w → opqUpon P (fun u w' => Upto [] w w' ∧ u = v) ((execOp a.eval o).run P w)) ∧ N Fs (a.put o.dst v)) ∨
      ∃ (Y : Type) (mk : Y → Value) (Φ : Y → World → Prop) (own : Y → List Nat), Nonempty Y ∧ (∀ y w w', Φ y w → Upto [] w w' → Φ y w') ∧ (∀ y, (own y).Nodup) ∧
        (∀ w, Upto [] W w → DF ops i Fs w → opqUpon P (fun v w' => Upto [] w w' ∧ ∃ y, v = mk y ∧ Φ y w' ∧ ∀ b ∈ own y, w.heap.size ≤ b ∧ b < w'.heap.size) ((execOp a.eval o).run P w)) ∧
        ∀ y, N (⟨i, own y, Φ y⟩ :: Fs) (a.put o.dst (mk y))
    else plainOp o = true ∧ ∃ C : World → Prop, (∀ w, Upto [] W w → DF ops i Fs w → C w) ∧ o.quiet P a C (N Fs)
  else N Fs (a.put o.dst undef)

theorem Seg_cons {i : Nat} {l : List Nat} {Fs : List Fact} {a : Act} : Seg P ops W Cs As K (i :: l) Fs a ↔ ∃ o, ops[i]? = some o ∧ Head P ops W Cs As i o Fs a (Seg P ops W Cs As K l) := by
  constructor
  · intro h
    unfold Seg at h
    split at h
    · exact h.elim
    · rename_i o ho
      exact ⟨o, ho, h⟩
  · rintro ⟨o, ho, h⟩
    unfold Seg
    rw [ho]
    exact h

/-- **a plain operation or an allocation j may come up ahead of what stands before it** -/
theorem moveN (hsel : Region.noSelect ops = true) (hK : ∀ Fs Fs' a, Fs.Perm Fs' → K Fs a → K Fs' a) {j : Nat} {oj : Oper} (hj : ops[j]? = some oj) (hjC : j ∈ Cs → j ∈ As) {w : World} (hw : Upto [] W w) {l2 : List Nat} :
    ∀ (l1 : List Nat) (Fs : List Fact) (a : Act), (∀ i ∈ l1, before ops Cs As i j = true ∧ waits ops j i = false ∧ reach ops j i = false) → DF ops j Fs w → Seg P ops W Cs As K (l1 ++ j :: l2) Fs a →
      ∃ u w' nf, Res P ops oj a w u w' ∧ NF j w w' nf ∧ Seg P ops W Cs As K (l1 ++ l2) (nf ++ Fs) (a.put oj.dst u)
  | [], Fs, a, _, hd, h => by
    obtain ⟨o, ho, h⟩ := Seg_cons.1 h
    rw [hj] at ho
    cases ho
    unfold Head at h
    split at h
    · rename_i hwt
      split at h
      · obtain ⟨obj, h1, h2⟩ := h
        exact ⟨_, _, _, by unfold Res; rw [if_pos hwt]; exact Or.inl (h1 w), Or.inr ⟨obj, rfl, rfl⟩, h2 _⟩
      · rename_i hA
        rw [if_neg (fun hc => hA (hjC hc))] at h
        obtain ⟨hp, C, hC, v, h1, h2⟩ := h
        exact ⟨v, w, [], by unfold Res; rw [if_pos hwt]; exact plain_res hp (h1 w (hC w hw hd)), Or.inl ⟨rfl, rfl⟩, h2⟩
    · rename_i hwt
      exact ⟨undef, w, [], by unfold Res; rw [if_neg hwt]; exact ⟨rfl, rfl⟩, Or.inl ⟨rfl, rfl⟩, h⟩
  | i :: l1, Fs, a, hall, hd, h => by
    obtain ⟨oi, hi, h⟩ := Seg_cons.1 h
    obtain ⟨hbf, hnw, hnr⟩ := hall i (by simp)
    have hap : oi.apart ops oj = true := by
      simp only [before, hi, hj, Bool.and_eq_true, hnw, Bool.false_or] at hbf
      exact hbf.1.2
    obtain ⟨h1, h2, h3⟩ := Oper.apart_spec hap
    have hrest : ∀ k ∈ l1, before ops Cs As k j = true ∧ waits ops j k = false ∧ reach ops j k = false := fun k hk => hall k (by simp [hk])
    have hsi := fun cs b => Region.noSelect_spec hsel i oi cs b hi
    -- what stands at i, behind j
    have hexec : ∀ u, execOp (a.put oj.dst u).eval oi = execOp a.eval oi := fun u => execOp_put oi hsi a oj.dst u h3
    have hwant : ∀ u, Region.wanted oi (yielded ops (a.put oj.dst u).tmps) = Region.wanted oi (yielded ops a.tmps) := fun u => wanted_put oi a oj.dst u h3
    have hdf : ∀ {nf : List Fact} {x}, DF ops i (nf ++ Fs) x → DF ops i Fs x := fun hx => DF_iff.2 fun f hf => DF_iff.1 hx f (by simp [hf])
    show ∃ u w' nf, Res P ops oj a w u w' ∧ NF j w w' nf ∧ Seg P ops W Cs As K (i :: (l1 ++ l2)) (nf ++ Fs) (a.put oj.dst u)
    unfold Head at h
    split at h
    · rename_i hwt
      split at h
      · rename_i hA
        obtain ⟨obj, g1, g2⟩ := h
        have ih := fun b => moveN hsel hK hj hjC hw l1 _ _ hrest (show DF ops j (⟨i, [b], fun w => w.heap[b]? = some obj⟩ :: Fs) w from ⟨(fun hr => by rw [hnr] at hr; cases hr), hd⟩) (g2 b)
        obtain ⟨u, w', nf, r1, r2, _⟩ := ih 0
        refine ⟨u, w', nf, (res_put hsel hj h1).1 r1, r2, Seg_cons.2 ⟨oi, hi, ?_⟩⟩
        unfold Head
        rw [hwant u, if_pos hwt, if_pos hA]
        refine ⟨obj, fun x => by rw [hexec u]; exact g1 x, fun b => ?_⟩
        obtain ⟨u', w'', nf', s1, s2, s3⟩ := ih b
        obtain ⟨rfl, rfl⟩ := Res.unique ((res_put hsel hj h1).1 r1) ((res_put hsel hj h1).1 s1)
        obtain rfl := NF.unique r2 s2
        rw [Act.put_comm _ _ _ h2] at s3
        exact Seg_perm hK _ _ _ _ List.perm_middle s3
      · rename_i hA
        split at h
        · rename_i hC
          rcases h with ⟨v, g1, g2⟩ | ⟨Y, mk, Φ, own, hy, g1, g2, g3, g4⟩
          · obtain ⟨u, w', nf, r1, r2, r3⟩ := moveN hsel hK hj hjC hw l1 _ _ hrest hd g2
            refine ⟨u, w', nf, (res_put hsel hj h1).1 r1, r2, Seg_cons.2 ⟨oi, hi, ?_⟩⟩
            unfold Head
            rw [hwant u, if_pos hwt, if_neg hA, if_pos hC]
            refine Or.inl ⟨v, fun x hx hdx => by rw [hexec u]; exact g1 x hx (hdf hdx), ?_⟩
            rw [Act.put_comm _ _ _ h2] at r3
            exact r3
          have ih := fun v => moveN hsel hK hj hjC hw l1 _ _ hrest (show DF ops j (⟨i, own v, Φ v⟩ :: Fs) w from ⟨(fun hr => by rw [hnr] at hr; cases hr), hd⟩) (g4 v)
          obtain ⟨y0⟩ := hy
          obtain ⟨u, w', nf, r1, r2, _⟩ := ih y0
          refine ⟨u, w', nf, (res_put hsel hj h1).1 r1, r2, Seg_cons.2 ⟨oi, hi, ?_⟩⟩
          unfold Head
          rw [hwant u, if_pos hwt, if_neg hA, if_pos hC]
          refine Or.inr ⟨Y, mk, Φ, own, ⟨y0⟩, g1, g2, fun x hx hdx => by rw [hexec u]; exact g3 x hx (hdf hdx), fun v => ?_⟩
          obtain ⟨u', w'', nf', s1, s2, s3⟩ := ih v
          obtain ⟨rfl, rfl⟩ := Res.unique ((res_put hsel hj h1).1 r1) ((res_put hsel hj h1).1 s1)
          obtain rfl := NF.unique r2 s2
          rw [Act.put_comm _ _ _ h2] at s3
          exact Seg_perm hK _ _ _ _ List.perm_middle s3
        · rename_i hC
          obtain ⟨hp, C, hC', v, g1, g2⟩ := h
          obtain ⟨u, w', nf, r1, r2, r3⟩ := moveN hsel hK hj hjC hw l1 _ _ hrest hd g2
          refine ⟨u, w', nf, (res_put hsel hj h1).1 r1, r2, Seg_cons.2 ⟨oi, hi, ?_⟩⟩
          unfold Head
          rw [hwant u, if_pos hwt, if_neg hA, if_neg hC]
          refine ⟨hp, C, fun x hx hdx => hC' x hx (hdf hdx), v, fun x hx => by unfold Oper.quietAt; rw [hexec u]; exact g1 x hx, ?_⟩
          rw [Act.put_comm _ _ _ h2] at r3
          exact r3
    · rename_i hwt
      obtain ⟨u, w', nf, r1, r2, r3⟩ := moveN hsel hK hj hjC hw l1 _ _ hrest hd h
      refine ⟨u, w', nf, (res_put hsel hj h1).1 r1, r2, Seg_cons.2 ⟨oi, hi, ?_⟩⟩
      unfold Head
      rw [hwant u, if_neg hwt]
      rw [Act.put_comm _ _ _ h2] at r3
      exact r3

def OutC (P : Program) (ops : Array Oper) (o : Oper) (a : Act) (w : World) (N : Value → World → Prop) : Prop :=
  if Region.wanted o (yielded ops a.tmps) = true then opqUpon P N ((execOp a.eval o).run P w) else N undef w
theorem OutC.mono {o : Oper} {a : Act} {w : World} {N N' : Value → World → Prop} (hh : OutC P ops o a w N) (h : ∀ u w', N u w' → N' u w') : OutC P ops o a w N' := by
  unfold OutC at *
  split
  · rename_i hw; rw [if_pos hw] at hh; exact opqUpon_mono h hh
  · rename_i hw; rw [if_neg hw] at hh; exact h _ _ hh
theorem outC_put (hsel : Region.noSelect ops = true) {j : Nat} {oj : Oper} (hj : ops[j]? = some oj) {a : Act} {dst : Option Tmp} {v : Value} (h : ∀ d, dst = some d → d ∉ oj.looksAt ops) {w : World} {N : Value → World → Prop} :
    OutC P ops oj (a.put dst v) w N ↔ OutC P ops oj a w N := by
  unfold OutC
  rw [execOp_put oj (fun cs b => Region.noSelect_spec hsel j oj cs b hj) a dst v h, wanted_put oj a dst v h]

/-- what a step has done -/
def SC (j : Nat) (w w' : World) (nf : List Fact) : Prop :=
  Upto [] w w' ∧ (nf = [] ∨ ∃ f, nf = [f] ∧ f.idx = j ∧ f.holds w' ∧ (∀ x x', f.holds x → Upto [] x x' → f.holds x') ∧ f.own.Nodup ∧ ∀ b ∈ f.own, w.heap.size ≤ b ∧ b < w'.heap.size)

theorem NF.sc {j : Nat} {w w' : World} {nf : List Fact} (h : NF j w w' nf) : SC j w w' nf := by
  rcases h with ⟨rfl, rfl⟩ | ⟨obj, rfl, rfl⟩
  · exact ⟨Upto.refl _ _, Or.inl rfl⟩
  · refine ⟨(Upto.refl _ _).alloc _, Or.inr ⟨_, rfl, rfl, ?_, ?_, ?_, ?_⟩⟩
    · show (w.heap.push obj)[w.heap.size]? = some obj
      simp
    · intro x x' hx hu
      exact (hu.block _ (Array.getElem?_eq_some_iff.1 hx).1 (by simp)).trans hx
    · simp
    · intro b hb
      simp at hb
      subst hb
      exact ⟨Nat.le_refl _, by show _ < (w.heap.push obj).size; simp⟩

/-- **a call j may come up ahead of what stands before it, if nothing that stands there is a call or an allocation** -/
theorem moveC (hsel : Region.noSelect ops = true) {j : Nat} {oj : Oper} (hj : ops[j]? = some oj) (hjC : j ∈ Cs) (hjA : j ∉ As) {w : World} (hw : Upto [] W w) {l2 : List Nat} :
    ∀ (l1 : List Nat) (Fs : List Fact) (a : Act), (∀ i ∈ l1, before ops Cs As i j = true ∧ waits ops j i = false ∧ reach ops j i = false) → DF ops j Fs w → Seg P ops W Cs As K (l1 ++ j :: l2) Fs a →
      OutC P ops oj a w fun u w' => ∃ nf, SC j w w' nf ∧ Seg P ops W Cs As K (l1 ++ l2) (nf ++ Fs) (a.put oj.dst u)
  | [], Fs, a, _, hd, h => by
    obtain ⟨o, ho, h⟩ := Seg_cons.1 h
    rw [hj] at ho
    cases ho
    unfold Head at h
    unfold OutC
    split at h
    · rename_i hwt
      rw [if_pos hwt]
      rcases h with ⟨v, h1, h2⟩ | ⟨Y, mk, Φ, own, hy, h1, h2, h3, h4⟩
      · exact opqUpon_mono (fun u x ⟨g1, g2⟩ => ⟨[], ⟨g1, Or.inl rfl⟩, by subst g2; exact h2⟩) (h1 w hw hd)
      · exact opqUpon_mono (fun v x ⟨g1, y, g0, g2, g3⟩ => ⟨[⟨j, own y, Φ y⟩], ⟨g1, Or.inr ⟨_, rfl, rfl, g2, h1 y, h2 y, g3⟩⟩, by subst g0; exact h4 y⟩) (h3 w hw hd)
    · rename_i hwt
      rw [if_neg hwt]
      exact ⟨[], ⟨Upto.refl _ _, Or.inl rfl⟩, h⟩
  | i :: l1, Fs, a, hall, hd, h => by
    obtain ⟨oi, hi, h⟩ := Seg_cons.1 h
    obtain ⟨hbf, hnw, hnr⟩ := hall i (by simp)
    have hap : oi.apart ops oj = true := by
      simp only [before, hi, hj, Bool.and_eq_true, hnw, Bool.false_or] at hbf
      exact hbf.1.2
    have hno : i ∉ Cs ∧ i ∉ As := by
      simp only [before, Bool.and_eq_true, hnr, Bool.or_false, Bool.or_eq_true, Bool.not_eq_true'] at hbf
      have := hbf.2
      have c1 : Cs.contains j = true := by simpa using hjC
      have c2 : As.contains j = false := by simpa using hjA
      rw [c1, c2] at this
      simp at this
      exact this
    obtain ⟨h1, h2, h3⟩ := Oper.apart_spec hap
    have hrest : ∀ k ∈ l1, before ops Cs As k j = true ∧ waits ops j k = false ∧ reach ops j k = false := fun k hk => hall k (by simp [hk])
    have hsi := fun cs b => Region.noSelect_spec hsel i oi cs b hi
    have hexec : ∀ u, execOp (a.put oj.dst u).eval oi = execOp a.eval oi := fun u => execOp_put oi hsi a oj.dst u h3
    have hwant : ∀ u, Region.wanted oi (yielded ops (a.put oj.dst u).tmps) = Region.wanted oi (yielded ops a.tmps) := fun u => wanted_put oi a oj.dst u h3
    have hdf : ∀ {nf : List Fact} {x}, DF ops i (nf ++ Fs) x → DF ops i Fs x := fun hx => DF_iff.2 fun f hf => DF_iff.1 hx f (by simp [hf])
    show OutC P ops oj a w fun u w' => ∃ nf, SC j w w' nf ∧ Seg P ops W Cs As K (i :: (l1 ++ l2)) (nf ++ Fs) (a.put oj.dst u)
    unfold Head at h
    split at h
    · rename_i hwt
      rw [if_neg hno.2, if_neg hno.1] at h
      obtain ⟨hp, C, hC', v, g1, g2⟩ := h
      refine ((outC_put hsel hj h1).1 (moveC hsel hj hjC hjA hw l1 _ _ hrest hd g2)).mono ?_
      rintro u w' ⟨nf, r1, r2⟩
      refine ⟨nf, r1, Seg_cons.2 ⟨oi, hi, ?_⟩⟩
      unfold Head
      rw [hwant u, if_pos hwt, if_neg hno.2, if_neg hno.1]
      refine ⟨hp, C, fun x hx hdx => hC' x hx (hdf hdx), v, fun x hx => by unfold Oper.quietAt; rw [hexec u]; exact g1 x hx, ?_⟩
      rw [Act.put_comm _ _ _ h2] at r2
      exact r2
    · rename_i hwt
      refine ((outC_put hsel hj h1).1 (moveC hsel hj hjC hjA hw l1 _ _ hrest hd h)).mono ?_
      rintro u w' ⟨nf, r1, r2⟩
      refine ⟨nf, r1, Seg_cons.2 ⟨oi, hi, ?_⟩⟩
      unfold Head
      rw [hwant u, if_neg hwt]
      rw [Act.put_comm _ _ _ h2] at r2
      exact r2

/-- what is known of the world on the way -/
structure Good (W : World) (Fs : List Fact) (w : World) : Prop where
  up : Upto [] W w
  hold : AllHold Fs w
  stab : ∀ f ∈ Fs, ∀ x x', f.holds x → Upto [] x x' → f.holds x'
  inb : ∀ f ∈ Fs, ∀ b ∈ f.own, W.heap.size ≤ b ∧ b < w.heap.size
  nodup : (ownAll Fs).Nodup

theorem Good.step {Fs nf : List Fact} {j : Nat} {w w' : World} (h : Good W Fs w) (hs : SC j w w' nf) : Good W (nf ++ Fs) w' := by
  obtain ⟨hu, hn⟩ := hs
  have hold' : AllHold Fs w' := AllHold_iff.2 fun f hf => h.stab f hf _ _ (AllHold_iff.1 h.hold f hf) hu
  have inb' : ∀ f ∈ Fs, ∀ b ∈ f.own, W.heap.size ≤ b ∧ b < w'.heap.size := fun f hf b hb => ⟨(h.inb f hf b hb).1, Nat.lt_of_lt_of_le (h.inb f hf b hb).2 hu.size⟩
  rcases hn with rfl | ⟨f, rfl, _, h2, h3, h4, h5⟩
  · exact ⟨h.up.trans_same hu, hold', h.stab, inb', h.nodup⟩
  · refine ⟨h.up.trans_same hu, ⟨h2, hold'⟩, ?_, ?_, ?_⟩
    · intro g hg
      rcases List.mem_cons.1 hg with rfl | hg
      · exact h3
      · exact h.stab g hg
    · intro g hg
      rcases List.mem_cons.1 hg with rfl | hg
      · exact fun b hb => ⟨Nat.le_trans h.up.size (h5 b hb).1, (h5 b hb).2⟩
      · exact inb' g hg
    · show (f.own ++ ownAll Fs).Nodup
      refine List.nodup_append.2 ⟨h4, h.nodup, fun b hb c hc => ?_⟩
      obtain ⟨g, hg, hgc⟩ := List.mem_flatMap.1 hc
      have h6 := (h5 b hb).1
      have h7 := (h.inb g hg c hgc).2
      omega

theorem wpOp_of_res {Q : Exit → Act → World → Prop} {j : Nat} {oj : Oper} (hj : ops[j]? = some oj) {a : Act} {w w' : World} {u : Value} {N : Act → World → Prop} (h : Res P ops oj a w u w') (hN : N (a.put oj.dst u) w') : wpOp P ops Q j N a w := by
  unfold wpOp
  rw [hj]
  unfold Res at h
  by_cases hw : Region.wanted oj (yielded ops a.tmps) = true
  · simp only [hw, if_true] at h ⊢
    refine Or.inl ?_
    unfold Oper.wp
    rcases h with h | ⟨h, rfl⟩
    · rw [h]; exact hN
    · rw [h]; exact hN
  · rw [if_neg hw] at h
    obtain ⟨rfl, rfl⟩ := h
    simp only [hw]
    exact hN
theorem wpOp_of_out {Q : Exit → Act → World → Prop} {j : Nat} {oj : Oper} (hj : ops[j]? = some oj) {a : Act} {w : World} {N : Act → World → Prop} (h : OutC P ops oj a w fun u w' => N (a.put oj.dst u) w') : wpOp P ops Q j N a w := by
  unfold wpOp
  rw [hj]
  unfold OutC at h
  by_cases hw : Region.wanted oj (yielded ops a.tmps) = true
  · simp only [hw, if_true] at h ⊢
    refine Or.inl ?_
    unfold Oper.wp
    generalize (execOp a.eval oj).run P w = r at *
    cases r with
    | ok n w' =>
      cases n <;> simp only [opqUpon] at h <;> simp only [Oper.upon]
      case value u => exact h
      case skip => exact h
      case enter f args => exact h.mono fun e w'' ⟨u, he, hp⟩ => by subst he; exact hp
    | halt x w' => simp only [opqUpon] at h
  · rw [if_neg hw] at h
    simp only [hw]
    exact h

theorem waits_true {i j : Nat} {o : Oper} (hi : ops[i]? = some o) {e : Edge} (he : e ∈ o.after) (hb : Region.binds .any e = true) (hj : e.on = j) : waits ops i j = true := by
  unfold waits
  rw [hi]
  exact Array.any_eq_true'.2 ⟨e, he, by simp [hb, hj]⟩

theorem listed_lt {listed : Array Bool} {i : Nat} (h : i < listed.size) : (listed.getD i true = false ↔ ¬ listed.getD i false = true) := by
  simp [h]

theorem foldl_move (l2 : List Nat) (j : Nat) : ∀ (l1 : List Nat) (listed : Array Bool), (∀ i ∈ l1, i ≠ j) → (l1 ++ l2).foldl (fun x i => x.setIfInBounds i true) (listed.setIfInBounds j true) = (l1 ++ j :: l2).foldl (fun x i => x.setIfInBounds i true) listed
  | [], _, _ => rfl
  | i :: l1, listed, h => by
    show (l1 ++ l2).foldl _ ((listed.setIfInBounds j true).setIfInBounds i true) = (l1 ++ j :: l2).foldl _ (listed.setIfInBounds i true)
    rw [Array.setIfInBounds_comm _ _ (Ne.symm (h i (by simp)))]
    exact foldl_move l2 j l1 _ fun k hk => h k (by simp [hk])

/-- what is asked of the walk's list -/
structure Fit (ops : Array Oper) (Cs As : List Nat) (l : List Nat) (listed : Array Bool) : Prop where
  size : listed.size = ops.size
  closed : Closed ops listed
  un : ∀ i ∈ l, i < ops.size ∧ listed.getD i false = false
  deps : ∀ i ∈ l, ∀ o, ops[i]? = some o → ∀ e ∈ o.after, Region.binds .any e = true → listed.getD e.on false = true ∨ (e.on ∈ l ∧ e.on ≠ i)
  others : ∀ k, k < ops.size → listed.getD k false = false → k ∉ l → ∀ i ∈ l, reach ops k i = true
  pairs : l.Pairwise fun i j => before ops Cs As i j = true

theorem getD_set {listed : Array Bool} {i k : Nat} (h : i < listed.size) : (listed.setIfInBounds i true).getD k false = (listed.getD k false || decide (k = i)) := by
  by_cases hk : k = i
  · subst hk; simp [h]
  · rw [getD_set_ne false (Ne.symm hk)]; simp [hk]

theorem Fit.step {l1 l2 : List Nat} {j : Nat} {oj : Oper} {listed : Array Bool} (h : Fit ops Cs As (l1 ++ j :: l2) listed) (hj : ops[j]? = some oj) (hd : ∀ e ∈ oj.after, Region.binds .any e = true → listed.getD e.on false = true) : Fit ops Cs As (l1 ++ l2) (listed.setIfInBounds j true) := by
  have hjm : j ∈ l1 ++ j :: l2 := by simp
  have hjl : j < listed.size := by rw [h.size]; exact (h.un j hjm).1
  have hsub : ∀ i ∈ l1 ++ l2, i ∈ l1 ++ j :: l2 := fun i hi => by rcases List.mem_append.1 hi with hi | hi <;> simp [hi]
  have hne : ∀ i ∈ l1 ++ l2, i ≠ j := by
    intro i hi he
    subst he
    have hp := h.pairs
    rw [List.pairwise_append] at hp
    rcases List.mem_append.1 hi with hi | hi
    · have := hp.2.2 i hi i (by simp)
      simp [before] at this
    · have := (List.pairwise_cons.1 hp.2.1).1 i hi
      simp [before] at this
  refine ⟨by simp [h.size], ?_, ?_, ?_, ?_, ?_⟩
  · intro i o ho hl e he hb
    rw [getD_set hjl] at hl ⊢
    rw [Bool.or_eq_true] at hl ⊢
    rcases hl with hl | hl
    · exact Or.inl (h.closed i o ho hl e he hb)
    · simp at hl
      subst hl
      rw [hj] at ho
      cases ho
      exact Or.inl (hd e he hb)
  · intro i hi
    refine ⟨(h.un i (hsub i hi)).1, ?_⟩
    rw [getD_set hjl, (h.un i (hsub i hi)).2]
    simp [hne i hi]
  · intro i hi o ho e he hb
    rw [getD_set hjl]
    rcases h.deps i (hsub i hi) o ho e he hb with h1 | ⟨h1, h2⟩
    · exact Or.inl (by rw [h1]; rfl)
    · by_cases hej : e.on = j
      · exact Or.inl (by simp [hej])
      · refine Or.inr ⟨?_, h2⟩
        rcases List.mem_append.1 h1 with h1 | h1
        · simp [h1]
        · rcases List.mem_cons.1 h1 with h1 | h1
          · exact absurd h1 hej
          · simp [h1]
  · intro k hk hun hkl i hi
    rw [getD_set hjl, Bool.or_eq_false_iff] at hun
    refine h.others k hk hun.1 (fun hm => ?_) i (hsub i hi)
    have hkj : k ≠ j := by simpa using hun.2
    rcases List.mem_append.1 hm with hm | hm
    · exact hkl (by simp [hm])
    · rcases List.mem_cons.1 hm with hm | hm
      · exact hkj hm
      · exact hkl (by simp [hm])
  · exact h.pairs.sublist (List.Sublist.append_left (List.sublist_cons_self _ _) _)

/-- **the walk serves every order** -/
theorem seg_any {Q : Exit → Act → World → Prop} (hsel : Region.noSelect ops = true) (hK : ∀ Fs Fs' a, Fs.Perm Fs' → K Fs a → K Fs' a) {fuelT : Nat} {listedT : Array Bool}
    (hfin : ∀ Fs a w, K Fs a → Good W Fs w → wpAny P .any ops Q fuelT listedT a w) :
    ∀ (n : Nat) (l : List Nat) (Fs : List Fact) (a : Act) (w : World) (listed : Array Bool), l.length = n → Fit ops Cs As l listed → l.foldl (fun x i => x.setIfInBounds i true) listed = listedT → Good W Fs w → Seg P ops W Cs As K l Fs a →
      wpAny P .any ops Q (n + fuelT) listed a w := by
  intro n
  induction n with
  | zero =>
    intro l Fs a w listed hl _ hT hg hs
    obtain rfl := List.length_eq_zero_iff.1 hl
    cases hT
    rw [Nat.zero_add]
    exact hfin Fs a w hs hg
  | succ n ih =>
    intro l Fs a w listed hl hF hT hg hs
    obtain ⟨i0, l', rfl⟩ : ∃ i l', l = i :: l' := by cases l with | nil => simp at hl | cons i l' => exact ⟨i, l', rfl⟩
    have h0 := hF.un i0 (by simp)
    have hr0 : i0 ∈ Region.ready .any ops listed := by
      refine mem_ready.2 ⟨(listed_lt (by rw [hF.size]; exact h0.1)).2 (by rw [h0.2]; simp), ops[i0]'h0.1, Array.getElem?_eq_getElem h0.1, fun e he hb => ?_⟩
      rcases hF.deps i0 (by simp) _ (Array.getElem?_eq_getElem h0.1) e he hb with h1 | ⟨h1, h2⟩
      · exact h1
      · have hm : e.on ∈ l' := by
          rcases List.mem_cons.1 h1 with h1 | h1
          · exact absurd h1 h2
          · exact h1
        have hp := (List.pairwise_cons.1 hF.pairs).1 _ hm
        have hwt := waits_true (Array.getElem?_eq_getElem h0.1) he hb rfl
        simp [before, hwt] at hp
    rw [Nat.succ_add]
    refine ⟨(fun hn => by rw [hn] at hr0; cases hr0), fun j hj => ?_⟩
    obtain ⟨hjun, oj, hoj, hall⟩ := mem_ready.1 hj
    have hjlt : j < ops.size := (Array.getElem?_eq_some_iff.1 hoj).1
    have hjf : listed.getD j false = false := by
      have := (listed_lt (listed := listed) (by rw [hF.size]; exact hjlt)).1 hjun
      simpa using this
    have hreach : ∀ i, reach ops j i = true → listed.getD i false = true := fun i hr => reach_listed hF.closed (j + 1) j oj (by omega) hoj hall hr
    have hjl : j ∈ i0 :: l' := by
      by_cases hm : j ∈ i0 :: l'
      · exact hm
      · have := hreach i0 (hF.others j hjlt hjf hm i0 (by simp))
        rw [h0.2] at this
        cases this
    obtain ⟨l1, l2, hsplit⟩ := List.append_of_mem hjl
    rw [hsplit] at hF hT hs hl
    have hcond : ∀ i ∈ l1, before ops Cs As i j = true ∧ waits ops j i = false ∧ reach ops j i = false := by
      intro i hi
      have hun := (hF.un i (by simp [hi])).2
      refine ⟨(List.pairwise_append.1 hF.pairs).2.2 i hi j (by simp), ?_, ?_⟩
      · cases hwt : waits ops j i with
        | false => rfl
        | true =>
          unfold waits at hwt
          rw [hoj] at hwt
          obtain ⟨e, he, hb⟩ := Array.any_eq_true'.1 hwt
          simp only [Bool.and_eq_true, beq_iff_eq] at hb
          have := hall e he hb.1
          rw [hb.2, hun] at this
          cases this
      · cases hr : reach ops j i with
        | false => rfl
        | true =>
          have := hreach i hr
          rw [hun] at this
          cases this
    have hne : ∀ i ∈ l1, i ≠ j := fun i hi he => by
      have := (hcond i hi).1
      simp [before, he] at this
    have hdf : DF ops j Fs w := DF_iff.2 fun f hf _ => AllHold_iff.1 hg.hold f hf
    have hF' := hF.step hoj hall
    have hT' : (l1 ++ l2).foldl (fun x i => x.setIfInBounds i true) (listed.setIfInBounds j true) = listedT := by rw [foldl_move l2 j l1 listed hne]; exact hT
    have hl' : (l1 ++ l2).length = n := by
      simp at hl ⊢
      omega
    by_cases hjc : j ∈ Cs ∧ j ∉ As
    · refine wpOp_of_out hoj ((moveC hsel hoj hjc.1 hjc.2 hg.up l1 Fs a hcond hdf hs).mono ?_)
      rintro u w' ⟨nf, h1, h2⟩
      exact ih _ _ _ _ _ hl' hF' hT' (hg.step h1) h2
    · obtain ⟨u, w', nf, h1, h2, h3⟩ := moveN hsel hK hoj (fun hc => by
        refine Classical.byContradiction fun hn => hjc ⟨hc, hn⟩) hg.up l1 Fs a hcond hdf hs
      exact wpOp_of_res hoj h1 (ih _ _ _ _ _ hl' hF' hT' (hg.step h2.sc) h3)

theorem Good.perm {Fs Fs' : List Fact} {w : World} (hp : Fs.Perm Fs') (h : Good W Fs' w) : Good W Fs w :=
  ⟨h.up, AllHold_iff.2 fun f hf => AllHold_iff.1 h.hold f (hp.mem_iff.1 hf), fun f hf => h.stab f (hp.mem_iff.1 hf), fun f hf => h.inb f (hp.mem_iff.1 hf), (hp.flatMap_right _).nodup_iff.2 h.nodup⟩

def tailB (ops : Array Oper) : Array Bool → List Nat → Bool
  | listed, [] => (Region.ready .any ops listed).isEmpty
  | listed, i :: l => (Region.ready .any ops listed == [i]) && tailB ops (listed.setIfInBounds i true) l
theorem wpAny_tail {Q : Exit → Act → World → Prop} : ∀ (l : List Nat) (listed : Array Bool) (a : Act) (w : World), tailB ops listed l = true → wpOps P ops Q l a w → wpAny P .any ops Q l.length listed a w
  | [], listed, a, w, hB, h => ⟨by simpa [tailB] using hB, h⟩
  | i :: l, listed, a, w, hB, h => by
    simp only [tailB, Bool.and_eq_true, beq_iff_eq] at hB
    refine ⟨(fun hn => by rw [hB.1] at hn; cases hn), fun j hj => ?_⟩
    rw [hB.1] at hj
    obtain rfl := List.mem_singleton.1 hj
    rw [wpOps_cons] at h
    exact wpOp_mono (fun a' w' h' => wpAny_tail l _ a' w' hB.2 h') h
theorem wpOps_list {Q : Exit → Act → World → Prop} : ∀ (l : List Nat) (os : List Oper), l.map (fun i => ops[i]?) = os.map some → wpOps P ops Q l = wpList P ops Q os
  | [], [], _ => by funext a w; simp [wpOps, wpList]
  | [], _ :: _, h => by simp at h
  | _ :: _, [], h => by simp at h
  | i :: l, o :: os, h => by
    simp only [List.map_cons, List.cons.injEq] at h
    funext a w
    simp only [wpOps, wpList, h.1, wpOps_list l os h.2]

def pairsB (ops : Array Oper) (Cs As : List Nat) : List Nat → Bool
  | [] => true
  | i :: l => l.all (fun j => before ops Cs As i j) && pairsB ops Cs As l
theorem pairsB_spec : ∀ (l : List Nat), pairsB ops Cs As l = true → l.Pairwise fun i j => before ops Cs As i j = true
  | [], _ => List.Pairwise.nil
  | i :: l, h => by
    simp only [pairsB, Bool.and_eq_true, List.all_eq_true] at h
    exact List.Pairwise.cons h.1 (pairsB_spec l h.2)

def segB (ops : Array Oper) (Cs As ord tail : List Nat) : Bool :=
  Region.noSelect ops && pairsB ops Cs As ord && (ord.length + tail.length == ops.size) &&
  ord.all (fun i => match ops[i]? with | some o => o.after.all fun e => !(Region.binds .any e) || (ord.contains e.on && e.on != i) | none => false) &&
  (List.range ops.size).all (fun k => ord.contains k || ord.all fun i => reach ops k i) &&
  tailB ops (ord.foldl (fun x i => x.setIfInBounds i true) (Array.replicate ops.size false)) tail

/-- **A REGION THAT DRAWS ITS ORDER**: ord: all operations but the last ones, in the order of the walk; tail: the last ones, which wait for all others and for one another. -/
theorem wp_region_seg {id : Nat} {Q : Exit → Act → World → Prop} {a : Act} {w : World} {l : List Oper} (Cs As ord tail : List Nat) (tl : List Oper) (hm : P.follows .mixedOrders = true)
    (hB : segB l.toArray Cs As ord tail = true) (ht : tail.map (fun i => l.toArray[i]?) = tl.map some)
    (h : Seg P l.toArray w Cs As (fun Fs a' => ∀ w', Good w Fs w' → wpList P l.toArray Q tl a' w') ord [] a) : (Code.region id l.toArray true).wp P Q a w := by
  simp only [segB, Bool.and_eq_true, List.all_eq_true, beq_iff_eq] at hB
  obtain ⟨⟨⟨⟨⟨h1, h2⟩, h3⟩, h4⟩, h5⟩, h6⟩ := hB
  refine wp_region_any hm ?_
  have hrep : ∀ k, (Array.replicate l.toArray.size false).getD k false = false := by
    intro k
    simp [Array.getD]
  have hs := seg_any (P := P) (ops := l.toArray) (W := w) (Cs := Cs) (As := As) (Q := Q) (K := fun Fs a' => ∀ w', Good w Fs w' → wpList P l.toArray Q tl a' w') h1 (fun Fs Fs' a hp hk w' hg => hk w' (hg.perm hp)) (fuelT := tail.length)
    (listedT := ord.foldl (fun x i => x.setIfInBounds i true) (Array.replicate l.toArray.size false))
    (fun Fs a w' hk hg => wpAny_tail tail _ a w' h6 (by rw [wpOps_list tail tl ht]; exact hk w' hg)) ord.length ord [] a { w with drawn := w.drawn + 1 } (Array.replicate l.toArray.size false) rfl ?_ rfl ⟨(Upto.refl [] w).drew, trivial, (by simp), (by simp), (by simp [ownAll])⟩ h
  · rw [h3] at hs
    exact hs
  · refine ⟨by simp, ?_, ?_, ?_, ?_, pairsB_spec _ h2⟩
    · intro i o _ hl
      rw [hrep] at hl
      cases hl
    · intro i hi
      refine ⟨?_, hrep i⟩
      have := h4 i hi
      split at this
      · rename_i o ho
        exact (Array.getElem?_eq_some_iff.1 ho).1
      · cases this
    · intro i hi o ho e he hb
      have := h4 i hi
      rw [ho] at this
      have := Array.all_eq_true_iff_forall_mem.1 this e he
      rw [hb] at this
      simp at this
      exact Or.inr this
    · intro k hk _ hn i hi
      have := h5 k (List.mem_range.2 hk)
      simp [hn] at this
      exact this i hi

/-- .. where the last ones stand at the end of the text: n operations ahead of them -/
theorem wp_region_seg_at {id : Nat} {Q : Exit → Act → World → Prop} {a : Act} {w : World} {l : List Oper} (Cs As ord tail : List Nat) (n : Nat) (hm : P.follows .mixedOrders = true)
    (hB : segB l.toArray Cs As ord tail = true) (ht : (tail == (List.range l.length).drop n) = true)
    (h : Seg P l.toArray w Cs As (fun Fs a' => ∀ w', Good w Fs w' → wpList P l.toArray Q (l.drop n) a' w') ord [] a) : (Code.region id l.toArray true).wp P Q a w :=
  wp_region_seg Cs As ord tail _ hm hB (by
    rw [beq_iff_eq] at ht
    subst ht
    apply List.ext_getElem?
    intro i
    by_cases hi : n + i < l.length
    · simp [List.getElem?_drop, List.getElem?_range, hi]
    · simp [List.getElem?_drop, hi, List.getElem?_eq_none (Nat.le_of_not_lt hi)]) h

/-- .. where there are no last ones -/
theorem wp_region_seg_all {id : Nat} {Q : Exit → Act → World → Prop} {a : Act} {w : World} {l : List Oper} (Cs As ord : List Nat) (hm : P.follows .mixedOrders = true)
    (hB : segB l.toArray Cs As ord [] = true) (h : Seg P l.toArray w Cs As (fun Fs a' => ∀ w', Good w Fs w' → Q .normal a' w') ord [] a) : (Code.region id l.toArray true).wp P Q a w :=
  wp_region_seg Cs As ord [] [] hm hB rfl h

/-- operations that yield in whatever world, taken ahead of all others -/
def wpPre (P : Program) (ops : Array Oper) (K : Act → Prop) : List Nat → Act → Prop
  | [], a => K a
  | i :: l, a => ∃ o, ops[i]? = some o ∧ Region.wanted o (yielded ops a.tmps) = true ∧ plainOp o = true ∧ o.quiet P a (fun _ => True) (wpPre P ops K l)
def preB (ops : Array Oper) : List Nat → Array Bool → Bool
  | [], _ => true
  | i :: l, listed => Region.free .any ops listed i && (Region.ready .any ops listed).contains i && preB ops l (listed.setIfInBounds i true)

theorem pre_any {Q : Exit → Act → World → Prop} (hQ : ∀ c a d v w, Q (.panic c) (Act.put a d v) w → Q (.panic c) a w) (hs : Region.noSelect ops = true) {K : Act → Prop} {w : World} {fuel : Nat} {listedT : Array Bool}
    (hK : ∀ a, K a → wpAny P .any ops Q fuel listedT a w) :
    ∀ (l : List Nat) (listed : Array Bool) (a : Act), preB ops l listed = true → l.foldl (fun x i => x.setIfInBounds i true) listed = listedT → wpPre P ops K l a → wpAny P .any ops Q (l.length + fuel) listed a w
  | [], listed, a, _, hT, h => by cases hT; simpa using hK a h
  | i :: l, listed, a, hB, hT, h => by
    obtain ⟨o, ho, hw, hp, v, h1, h2⟩ := h
    simp only [preB, Bool.and_eq_true] at hB
    rw [List.length_cons, Nat.succ_add]
    refine wpAny_take ho hs hB.1.1 hB.1.2 (fun c a w h => hQ c a _ _ w h) (Or.inl ⟨hw, fun x => ?_⟩) (pre_any hQ hs hK l _ _ hB.2 hT h2)
    exact plain_val hp (h1 x trivial)

def closedB (ops : Array Oper) (pre : List Nat) : Bool :=
  (List.range ops.size).all fun i => !(pre.contains i) || (match ops[i]? with | some o => o.after.all fun e => !(Region.binds .any e) || pre.contains e.on | none => true)
def segPB (ops : Array Oper) (Cs As pre ord tail : List Nat) : Bool :=
  Region.noSelect ops && pairsB ops Cs As ord && (pre.length + (ord.length + tail.length) == ops.size) && preB ops pre (Array.replicate ops.size false) && closedB ops pre && pre.all (fun i => decide (i < ops.size)) &&
  ord.all (fun i => !(pre.contains i) && match ops[i]? with | some o => o.after.all fun e => !(Region.binds .any e) || pre.contains e.on || (ord.contains e.on && e.on != i) | none => false) &&
  (List.range ops.size).all (fun k => pre.contains k || ord.contains k || ord.all fun i => reach ops k i) &&
  tailB ops (ord.foldl (fun x i => x.setIfInBounds i true) (pre.foldl (fun x i => x.setIfInBounds i true) (Array.replicate ops.size false))) tail

theorem foldl_getD (l : List Nat) : ∀ (listed : Array Bool) (k : Nat), (∀ i ∈ l, i < listed.size) → (l.foldl (fun x i => x.setIfInBounds i true) listed).getD k false = (listed.getD k false || l.contains k) := by
  induction l with
  | nil => intro listed k _; simp
  | cons i l ih =>
    intro listed k h
    rw [List.foldl_cons, ih _ _ (by intro j hj; rw [Array.size_setIfInBounds]; exact h j (by simp [hj])), getD_set (h i (by simp)), List.contains_cons, Bool.or_assoc]
    congr 1
theorem foldl_size (l : List Nat) : ∀ (listed : Array Bool), (l.foldl (fun x i => x.setIfInBounds i true) listed).size = listed.size := by
  induction l with
  | nil => intro listed; rfl
  | cons i l ih => intro listed; rw [List.foldl_cons, ih, Array.size_setIfInBounds]

/-- .. with operations that yield in whatever world, taken first (pre) -/
theorem wp_region_segP {id : Nat} {Q : Exit → Act → World → Prop} {a : Act} {w : World} {l : List Oper} (Cs As pre ord tail : List Nat) (tl : List Oper) (hQ : ∀ c a d v w, Q (.panic c) (Act.put a d v) w → Q (.panic c) a w) (hm : P.follows .mixedOrders = true)
    (hB : segPB l.toArray Cs As pre ord tail = true) (ht : tail.map (fun i => l.toArray[i]?) = tl.map some)
    (h : wpPre P l.toArray (Seg P l.toArray w Cs As (fun Fs a' => ∀ w', Good w Fs w' → wpList P l.toArray Q tl a' w') ord []) pre a) : (Code.region id l.toArray true).wp P Q a w := by
  simp only [segPB, Bool.and_eq_true, List.all_eq_true, beq_iff_eq] at hB
  obtain ⟨⟨⟨⟨⟨⟨⟨⟨h1, h2⟩, h3⟩, hp1⟩, hp2⟩, hp3⟩, h4⟩, h5⟩, h6⟩ := hB
  refine wp_region_any hm ?_
  have hrep : ∀ k, (Array.replicate l.toArray.size false).getD k false = false := by
    intro k
    simp [Array.getD]
  have hin : ∀ i ∈ pre, i < (Array.replicate l.toArray.size false).size := fun i hi => by
    have := hp3 i hi
    simpa using this
  have hl0 : ∀ k, (pre.foldl (fun x i => x.setIfInBounds i true) (Array.replicate l.toArray.size false)).getD k false = pre.contains k := fun k => by
    rw [foldl_getD _ _ _ hin, hrep, Bool.false_or]
  have main := pre_any (P := P) (ops := l.toArray) (Q := Q) hQ h1 (w := { w with drawn := w.drawn + 1 }) (fuel := ord.length + tail.length) (listedT := pre.foldl (fun x i => x.setIfInBounds i true) (Array.replicate l.toArray.size false))
    (K := Seg P l.toArray w Cs As (fun Fs a' => ∀ w', Good w Fs w' → wpList P l.toArray Q tl a' w') ord []) (fun a hs => ?_) pre _ a hp1 rfl h
  · rw [h3] at main
    exact main
  refine seg_any (P := P) (ops := l.toArray) (W := w) (Cs := Cs) (As := As) (Q := Q) (K := fun Fs a' => ∀ w', Good w Fs w' → wpList P l.toArray Q tl a' w') h1 (fun Fs Fs' a hp hk w' hg => hk w' (hg.perm hp)) (fuelT := tail.length)
    (listedT := ord.foldl (fun x i => x.setIfInBounds i true) (pre.foldl (fun x i => x.setIfInBounds i true) (Array.replicate l.toArray.size false)))
    (fun Fs a w' hk hg => wpAny_tail tail _ a w' h6 (by rw [wpOps_list tail tl ht]; exact hk w' hg)) ord.length ord [] a _ _ rfl ?_ rfl ⟨(Upto.refl [] w).drew, trivial, (by simp), (by simp), (by simp [ownAll])⟩ hs
  refine ⟨by rw [foldl_size]; simp, ?_, ?_, ?_, ?_, pairsB_spec _ h2⟩
  · intro i o ho hl e he hb
    rw [hl0] at hl ⊢
    have := List.all_eq_true.1 hp2 i (List.mem_range.2 (Array.getElem?_eq_some_iff.1 ho).1)
    rw [hl, ho, Bool.not_true, Bool.false_or] at this
    have := Array.all_eq_true_iff_forall_mem.1 this e he
    rw [hb] at this
    simpa using this
  · intro i hi
    have := h4 i hi
    refine ⟨?_, by rw [hl0]; simpa using this.1⟩
    have := this.2
    split at this
    · rename_i o ho
      exact (Array.getElem?_eq_some_iff.1 ho).1
    · cases this
  · intro i hi o ho e he hb
    have := (h4 i hi).2
    rw [ho] at this
    have := Array.all_eq_true_iff_forall_mem.1 this e he
    rw [hb] at this
    rw [hl0]
    simpa using this
  · intro k hk hu hn i hi
    rw [hl0] at hu
    have := h5 k (List.mem_range.2 hk)
    rw [hu] at this
    simp [hn] at this
    exact this i hi
theorem wp_region_segP_at {id : Nat} {Q : Exit → Act → World → Prop} {a : Act} {w : World} {l : List Oper} (Cs As pre ord tail : List Nat) (n : Nat) (hQ : ∀ c a d v w, Q (.panic c) (Act.put a d v) w → Q (.panic c) a w) (hm : P.follows .mixedOrders = true)
    (hB : segPB l.toArray Cs As pre ord tail = true) (ht : (tail == (List.range l.length).drop n) = true)
    (h : wpPre P l.toArray (Seg P l.toArray w Cs As (fun Fs a' => ∀ w', Good w Fs w' → wpList P l.toArray Q (l.drop n) a' w') ord []) pre a) : (Code.region id l.toArray true).wp P Q a w :=
  wp_region_segP Cs As pre ord tail _ hQ hm hB (by
    rw [beq_iff_eq] at ht
    subst ht
    apply List.ext_getElem?
    intro i
    by_cases hi : n + i < l.length
    · simp [List.getElem?_drop, List.getElem?_range, hi]
    · simp [List.getElem?_drop, hi, List.getElem?_eq_none (Nat.le_of_not_lt hi)]) h

/-! the moves -/
def opAt : List Oper → Nat → Option Oper
  | [], _ => none
  | o :: _, 0 => some o
  | _ :: l, n + 1 => opAt l n
theorem opAt_eq : ∀ (l : List Oper) (i : Nat), opAt l i = l.toArray[i]?
  | [], i => by simp [opAt]
  | o :: l, 0 => by simp [opAt]
  | o :: l, n + 1 => by simp [opAt, opAt_eq l n]

theorem pre_plain {ol : List Oper} {K : Act → Prop} {i : Nat} {l : List Nat} {a : Act} {o : Oper} (hi : opAt ol i = some o) (hp : plainOp o = true) (hw : Region.wanted o (yielded ol.toArray a.tmps) = true)
    (h : ∀ K' : Act → Prop, (∀ a, wpPre P ol.toArray K l a → K' a) → o.quiet P a (fun _ => True) K') : wpPre P ol.toArray K (i :: l) a :=
  ⟨o, (opAt_eq ol i).symm.trans hi, hw, hp, h _ fun _ h => h⟩
theorem seg_skip {ol : List Oper} {i : Nat} {l : List Nat} {Fs : List Fact} {a : Act} {o : Oper} (hi : opAt ol i = some o) (hw : Region.wanted o (yielded ol.toArray a.tmps) = false) (h : Seg P ol.toArray W Cs As K l Fs (a.put o.dst undef)) : Seg P ol.toArray W Cs As K (i :: l) Fs a :=
  Seg_cons.2 ⟨o, (opAt_eq ol i).symm.trans hi, by unfold Head; rw [hw]; exact h⟩
theorem seg_plain {ol : List Oper} {i : Nat} {l : List Nat} {Fs : List Fact} {a : Act} {o : Oper} (hi : opAt ol i = some o) (hA : As.contains i = false) (hC : Cs.contains i = false) (hp : plainOp o = true) (hw : Region.wanted o (yielded ol.toArray a.tmps) = true)
    (h : ∀ K' : Act → Prop, (∀ a, Seg P ol.toArray W Cs As K l Fs a → K' a) → o.quiet P a (fun w' => ∃ u : Ext W, w' = u.w) K') : Seg P ol.toArray W Cs As K (i :: l) Fs a :=
  Seg_cons.2 ⟨o, (opAt_eq ol i).symm.trans hi, by
    unfold Head
    rw [if_pos hw, if_neg (by simpa using hA), if_neg (by simpa using hC)]
    exact ⟨hp, _, fun w' hw' _ => ⟨Ext.mk hw', rfl⟩, h _ fun _ h => h⟩⟩
/-- a plain operation that leans on what is known of others -/
theorem seg_plain_at {ol : List Oper} {i : Nat} {l : List Nat} {Fs : List Fact} {a : Act} {o : Oper} (hi : opAt ol i = some o) (hA : As.contains i = false) (hC : Cs.contains i = false) (hp : plainOp o = true) (hw : Region.wanted o (yielded ol.toArray a.tmps) = true) (v : Value)
    (h1 : ∀ w, Upto [] W w → DF ol.toArray i Fs w → (execOp a.eval o).run P w = .ok (.value v) w) (h : Seg P ol.toArray W Cs As K l Fs (a.put o.dst v)) : Seg P ol.toArray W Cs As K (i :: l) Fs a :=
  Seg_cons.2 ⟨o, (opAt_eq ol i).symm.trans hi, by
    unfold Head
    rw [if_pos hw, if_neg (by simpa using hA), if_neg (by simpa using hC)]
    refine ⟨hp, fun w => Upto [] W w ∧ DF ol.toArray i Fs w, fun w' hw' hd => ⟨hw', hd⟩, v, fun w' hw' => ?_, h⟩
    unfold Oper.quietAt
    rw [h1 w' hw'.1 hw'.2]
    exact ⟨rfl, rfl⟩⟩
theorem seg_alloc {ol : List Oper} {i : Nat} {l : List Nat} {Fs : List Fact} {a : Act} {o : Oper} (obj : Obj) (hi : opAt ol i = some o) (hA : As.contains i = true) (hw : Region.wanted o (yielded ol.toArray a.tmps) = true)
    (hr : ∀ w, (execOp a.eval o).run P w = .ok (.value (.pointer (some ⟨w.heap.size, 0, none⟩))) (w.alloc obj))
    (h : ∀ b, Seg P ol.toArray W Cs As K l (⟨i, [b], fun w => w.heap[b]? = some obj⟩ :: Fs) (a.put o.dst (.pointer (some ⟨b, 0, none⟩)))) : Seg P ol.toArray W Cs As K (i :: l) Fs a :=
  Seg_cons.2 ⟨o, (opAt_eq ol i).symm.trans hi, by
    unfold Head
    rw [if_pos hw, if_pos (by simpa using hA)]
    exact ⟨obj, hr, h⟩⟩
theorem seg_val {ol : List Oper} {i : Nat} {l : List Nat} {Fs : List Fact} {a : Act} {o : Oper} (v : Value) (hi : opAt ol i = some o) (hA : As.contains i = false) (hC : Cs.contains i = true) (hw : Region.wanted o (yielded ol.toArray a.tmps) = true)
    (hr : ∀ w post, Upto [] W w → DF ol.toArray i Fs w → (∀ w', Upto [] w w' → post v w') → opqUpon P post ((execOp a.eval o).run P w))
    (h : Seg P ol.toArray W Cs As K l Fs (a.put o.dst v)) : Seg P ol.toArray W Cs As K (i :: l) Fs a :=
  Seg_cons.2 ⟨o, (opAt_eq ol i).symm.trans hi, by
    unfold Head
    rw [if_pos hw, if_neg (by simpa using hA), if_pos (by simpa using hC)]
    exact Or.inl ⟨v, fun w hu hd => hr w _ hu hd fun w' h' => ⟨h', rfl⟩, h⟩⟩
theorem seg_opq {ol : List Oper} {i : Nat} {l : List Nat} {Fs : List Fact} {a : Act} {o : Oper} {Y : Type} [hY : Nonempty Y] (mk : Y → Value) (Φ : Y → World → Prop) (own : Y → List Nat) (hi : opAt ol i = some o) (hA : As.contains i = false) (hC : Cs.contains i = true) (hw : Region.wanted o (yielded ol.toArray a.tmps) = true)
    (hs : ∀ y w w', Φ y w → Upto [] w w' → Φ y w') (hn : ∀ y, (own y).Nodup)
    (hr : ∀ w post, Upto [] W w → DF ol.toArray i Fs w → (∀ y w', Upto [] w w' → Φ y w' → (∀ b ∈ own y, w.heap.size ≤ b ∧ b < w'.heap.size) → post (mk y) w') → opqUpon P post ((execOp a.eval o).run P w))
    (h : ∀ y, Seg P ol.toArray W Cs As K l (⟨i, own y, Φ y⟩ :: Fs) (a.put o.dst (mk y))) : Seg P ol.toArray W Cs As K (i :: l) Fs a :=
  Seg_cons.2 ⟨o, (opAt_eq ol i).symm.trans hi, by
    unfold Head
    rw [if_pos hw, if_neg (by simpa using hA), if_pos (by simpa using hC)]
    exact Or.inr ⟨Y, mk, Φ, own, hY, hs, hn, fun w hu hd => hr w _ hu hd fun y w' h1 h2 h3 => ⟨h1, y, rfl, h2, h3⟩, h⟩⟩
/-- a call whose value is known -/
theorem seg_call {ol : List Oper} {i : Nat} {l : List Nat} {Fs : List Fact} {a : Act} {o : Oper} {v : Value} {f : FuncId} {args : Array Value} (hi : opAt ol i = some o) (hA : As.contains i = false) (hC : Cs.contains i = true) (hw : Region.wanted o (yielded ol.toArray a.tmps) = true)
    (hr : ∀ w, (execOp a.eval o).run P w = .ok (.enter f args) w) (hc : ∀ w, Upto [] W w → DF ol.toArray i Fs w → Calls P f args w fun e w' => e = .returned v ∧ Upto [] w w')
    (h : Seg P ol.toArray W Cs As K l Fs (a.put o.dst v)) : Seg P ol.toArray W Cs As K (i :: l) Fs a :=
  seg_val v hi hA hC hw (fun w post hu hd hp => by rw [hr w]; exact (hc w hu hd).mono fun e w' ⟨h1, h2⟩ => ⟨_, h1, hp _ h2⟩) h
/-- a call of whose value only a fact is known -/
theorem seg_callO {ol : List Oper} {i : Nat} {l : List Nat} {Fs : List Fact} {a : Act} {o : Oper} {f : FuncId} {args : Array Value} {Y : Type} [hY : Nonempty Y] (mk : Y → Value) (Φ : Y → World → Prop) (own : Y → List Nat) (hi : opAt ol i = some o) (hA : As.contains i = false) (hC : Cs.contains i = true) (hw : Region.wanted o (yielded ol.toArray a.tmps) = true)
    (hs : ∀ y w w', Φ y w → Upto [] w w' → Φ y w') (hn : ∀ y, (own y).Nodup)
    (hr : ∀ w, (execOp a.eval o).run P w = .ok (.enter f args) w)
    (hc : ∀ w, Upto [] W w → DF ol.toArray i Fs w → Calls P f args w fun e w' => ∃ y, e = .returned (mk y) ∧ Upto [] w w' ∧ Φ y w' ∧ ∀ b ∈ own y, w.heap.size ≤ b ∧ b < w'.heap.size)
    (h : ∀ y, Seg P ol.toArray W Cs As K l (⟨i, own y, Φ y⟩ :: Fs) (a.put o.dst (mk y))) : Seg P ol.toArray W Cs As K (i :: l) Fs a :=
  seg_opq mk Φ own hi hA hC hw hs hn (fun w post hu hd hp => by rw [hr w]; exact (hc w hu hd).mono fun e w' ⟨y, h1, h2, h3, h4⟩ => ⟨_, h1, hp _ _ h2 h3 h4⟩) h
end
end Go.PL
