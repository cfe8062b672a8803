/- Texts merged, in build order: Wk, Wn, Wo, Wp, Wl, Wm, Wq, Wr, Zr, Za. -/
import Derived.Test.YtbnebkkpmcjmbaaGreatDoorMSug
import Derived.Test.YtbnebkkpmcjmbaaGreatDoorRows
import Derived.WalkKit
import Derived.WalkSpells
import Derived.WalkLawsBesides
import Derived.Maps.OwnSet
import Derived.Lib.Hide
import Derived.Laws.BytesArg
import Derived.Deep.QuietTactic
import Derived.BigQuiet
import Derived.Test.YtbnebkkpmcjmbaaGreatDoorProg
import Derived.Shelf.Small.Strs
import Derived.Shelf.LaysM
import Derived.Shelf.Strings.SplitShaped
import Derived.Deep.DeepCutAuto
import Derived.Deep.CutBlock
import Derived.Lib.Strings
import Derived.Lib.Walk
import Derived.Lib.ConvBytes
import Derived.Lib.ParseIntBMem
import Derived.Lib.AtoiErrMem
import Derived.Lib.BufferWrite
import Derived.Lib.UnsafeStr
import Derived.Lib.IfaceEq
import Derived.Laws.MakeOwn
import Derived.Laws.Strings3
import Derived.Laws.Closers25
import Derived.Laws.Closers25b
import Derived.RegionTactic
import Derived.Deep.RegionWith
import Derived.BigCall
import Derived.BigGuard
import Derived.Lib.AppendIntMem
import Derived.Carry
import Derived.OrdersHeld
import Derived.Deep.RegionHeld3
import Derived.Shelf.Strconv.Itoa3
import Derived.Shelf.Slices.Turned
import Derived.Shelf.Slices.Clone
import Derived.Deep.RegionLaw
import Derived.Lib.ItoaNum
import Derived.RangeFuncNested
import Derived.RangeFuncBound
import Derived.RangeFuncCalls
import Derived.RangeFuncLeaves
import Derived.RangeFuncBox
import Derived.Shelf.Abstract
import Derived.OwnWalkIn
import Derived.TacticsInMore
import Derived.LoopNIn
import Derived.LoopIn
import Derived.Laws.EntriesVeiled
import Derived.Laws.AppendOwn
import Derived.Test.YtbnebkkpmcjmbaaGreatDoorCards
import Derived.Test.YtbnebkkpmcjmbaaGreatDoorTie
import Derived.ProofKit
import Derived.OpenShut
import Derived.Deep.DeepHandedRow
import Derived.Deep.Slices
import Derived.Lay
import Derived.ChangeCalls
import Derived.LaidSub
import Derived.MakeChecks
import Derived.LaidLaws
import Derived.Lib.LaidTab
import Derived.Shelf.SlMaps.Clone
namespace Go.Proofs.YtbnebkkpmcjmbaaGreatDoor
open Go.RowKit Go.PL Go.Maps
abbrev EnvL := List (List UInt8 × List UInt8)
theorem apL_snoc : ∀ (l : List Nd) (x : Nd) (e : EnvL) (tk : List (List UInt8)), apL (l ++ [x]) e tk = ((apL l e tk).1 ++ [(apN x e (apL l e tk).2).1], (apN x e (apL l e tk).2).2)
  | [], x, e, tk => by
    rw [List.nil_append]
    unfold apL
    unfold apL
    rfl
  | y :: ys, x, e, tk => by
    rw [List.cons_append]
    conv => lhs; unfold apL
    conv => rhs; unfold apL
    rw [apL_snoc ys x e _]
    rfl
theorem apL_len : ∀ (l : List Nd) (e : EnvL) (tk : List (List UInt8)), (apL l e tk).1.length = l.length
  | [], e, tk => by unfold apL; rfl
  | y :: ys, e, tk => by
    unfold apL
    rw [List.length_cons, List.length_cons, apL_len ys]
theorem apL_take {l : List Nd} {i : Nat} {x : Nd} (h : l[i]? = some x) (e : EnvL) (tk : List (List UInt8)) : apL (l.take (i + 1)) e tk = ((apL (l.take i) e tk).1 ++ [(apN x e (apL (l.take i) e tk).2).1], (apN x e (apL (l.take i) e tk).2).2) := by
  obtain ⟨hi, rfl⟩ := List.getElem?_eq_some_iff.1 h
  rw [List.take_succ_eq_append_getElem hi, apL_snoc]
theorem findF_local {a b : List (List UInt8)} (y : List UInt8) : ∀ i, (∀ j, j < i → a[j]? = b[j]?) → findF a y i = findF b y i
  | 0, _ => rfl
  | i + 1, h => by
    unfold findF
    rw [h i (by omega), findF_local y i (fun j hj => h j (by omega))]
/-- the last entry of a name is the one that counts -/
theorem find_look : ∀ (e : EnvL) (y : List UInt8), (findF (e.reverse.map Prod.fst) y e.length = -1 ∧ lookE e y = y) ∨ ∃ k : Nat, k < e.length ∧ findF (e.reverse.map Prod.fst) y e.length = (k : Int) ∧ (e.reverse.map Prod.snd)[k]? = some (lookE e y)
  | [], y => Or.inl ⟨rfl, rfl⟩
  | p :: r, y => by
    have hg : ∀ {β : Type} (f : List UInt8 × List UInt8 → β), (((p :: r).reverse.map f)[r.length]?) = some (f p) := fun f => by
      rw [List.reverse_cons, List.map_append, List.getElem?_append_right (by simp)]
      simp
    have hl : ∀ {β : Type} (f : List UInt8 × List UInt8 → β) (j : Nat), j < r.length → ((p :: r).reverse.map f)[j]? = (r.reverse.map f)[j]? := fun f j hj => by
      rw [List.reverse_cons, List.map_append, List.getElem?_append_left (by simpa using hj)]
    rw [List.length_cons]
    unfold findF
    rw [hg]
    by_cases hp : p.1 = y
    · refine Or.inr ⟨r.length, by omega, by rw [if_pos (by rw [hp])], ?_⟩
      rw [hg]
      unfold lookE
      rw [List.find?_cons_of_pos (by simp [hp])]
    · have h2 : lookE (p :: r) y = lookE r y := by
        unfold lookE
        rw [List.find?_cons_of_neg (by simpa using hp)]
      rw [if_neg (fun h => hp (Option.some.inj h)), h2, findF_local y r.length (fun j hj => hl Prod.fst j hj)]
      rcases find_look r y with h | ⟨k, h3, h4, h5⟩
      · exact Or.inl h
      · exact Or.inr ⟨k, by omega, h4, by rw [hl Prod.snd k h3]; exact h5⟩
/-- the names as the reference rewrites them; i: the first one's place -/
def uAt (op : Int) (f : List UInt8 → List UInt8) : Nat → List (List UInt8) → List (List UInt8)
  | _, [] => []
  | i, x :: r => (if op ≠ 10 ∨ 0 < i then f x else x) :: uAt op f (i + 1) r
theorem uAt_get (op : Int) (f : List UInt8 → List UInt8) : ∀ (l : List (List UInt8)) (i j : Nat) (x : List UInt8), l[j]? = some x → (uAt op f i l)[j]? = some (if op ≠ 10 ∨ 0 < i + j then f x else x)
  | [], i, j, x, h => by simp at h
  | y :: r, i, 0, x, h => by
    simp at h
    subst h
    rfl
  | y :: r, i, j + 1, x, h => by
    unfold uAt
    rw [List.getElem?_cons_succ, uAt_get op f r (i + 1) j x (by simpa using h), show i + 1 + j = i + (j + 1) by omega]
theorem uAt_map (op : Int) (f : List UInt8 → List UInt8) : ∀ (l : List (List UInt8)) (i : Nat), (op ≠ 10 ∨ 0 < i) → uAt op f i l = l.map f
  | [], i, _ => rfl
  | x :: r, i, h => by
    unfold uAt
    rw [uAt_map op f r (i + 1) (Or.inr (by omega)), List.map_cons, if_pos h]
/-- at a checked node that binds nothing, that is what the program does -/
theorem uAt_uses {op so nn mm : Int} {nms : List (List UInt8)} {l : List Nd} {f : List UInt8 → List UInt8} (hf : formF nameF (.mk op nms so nn mm l) = 0) (hb : bindsF op nms.length = false) : uAt op f 0 nms = rnUses op f nms := by
  obtain ⟨k1, k2, -⟩ := form_iff.1 hf
  unfold rnUses
  by_cases h10 : op = 10
  · rw [if_pos h10]
    cases nms with
    | nil => rfl
    | cons x r =>
      unfold uAt
      rw [uAt_map op f r 1 (Or.inr (by omega)), if_neg (fun h => by rcases h with h | h; exact h h10; omega)]
      rfl
  · rw [if_neg h10, uAt_map op f nms 0 (Or.inl h10)]
    by_cases h2 : 2 ≤ op ∧ op < 10
    · rw [if_pos h2]
    · rw [if_neg h2]
      by_cases h16 : op = 16 ∨ op = 17
      · have h0 : ¬ 0 < nms.length := fun h => by
          unfold bindsF at hb
          rcases h16 with rfl | rfl <;> simp [h] at hb
        have hn0 : nms = [] := List.eq_nil_of_length_eq_zero (by omega)
        rw [hn0]
        rfl
      · have hn0 : nms = [] := List.eq_nil_of_length_eq_zero (shape_none k2 h10 h2 h16 k1)
        rw [hn0]
        rfl
/-- the reference's environment in memory: the newest entry stands last -/
structure EnvR (w : World) (Q : Nat → Prop) (e : EnvL) (a1 : Option Addr) (c1 : Nat) (a2 : Option Addr) (c2 : Nat) (a3 : Option Addr) (c3 n : Nat) : Prop where
  len : e.length = n
  from_ : SlP w Q (.slice a1 n c1) n ((e.reverse.map Prod.fst).map sV)
  to_ : SlP w Q (.slice a2 n c2) n ((e.reverse.map Prod.snd).map sV)
  so_ : ∃ ss, ss.length = n ∧ (∀ u ∈ ss, u.oneCell' = true) ∧ SlP w Q (.slice a3 n c3) n ss
theorem EnvR.upto {S : List Nat} {w w' : World} {Q : Nat → Prop} {e : EnvL} {a1 a2 a3 : Option Addr} {c1 c2 c3 n : Nat} (h : EnvR w Q e a1 c1 a2 c2 a3 c3 n) (hu : Upto S w w') (hs : ∀ b, Q b → IsC w b → b ∉ S) : EnvR w' Q e a1 c1 a2 c2 a3 c3 n := by
  obtain ⟨ss, h1, h2, h3⟩ := h.so_
  exact ⟨h.len, h.from_.upto hu hs, h.to_.upto hu hs, ss, h1, h2, h3.upto hu hs⟩
theorem EnvR.ext {w w' : World} {Q : Nat → Prop} {e : EnvL} {a1 a2 a3 : Option Addr} {c1 c2 c3 n : Nat} (h : EnvR w Q e a1 c1 a2 c2 a3 c3 n) (hu : Upto [] w w') : EnvR w' Q e a1 c1 a2 c2 a3 c3 n := h.upto hu (by simp)
theorem EnvR.mono {w : World} {Q R : Nat → Prop} {e : EnvL} {a1 a2 a3 : Option Addr} {c1 c2 c3 n : Nat} (h : EnvR w Q e a1 c1 a2 c2 a3 c3 n) (hq : ∀ b, Q b → IsC w b → R b) : EnvR w R e a1 c1 a2 c2 a3 c3 n := by
  obtain ⟨ss, h1, h2, h3⟩ := h.so_
  exact ⟨h.len, h.from_.mono hq, h.to_.mono hq, ss, h1, h2, h3.mono hq⟩
theorem sV_one (ls : List (List UInt8)) : ∀ u ∈ ls.map sV, u.oneCell' = true := fun u hu => by
  obtain ⟨x, -, rfl⟩ := List.mem_map.1 hu
  rfl
/-- one more entry -/
theorem bindE_calls {w : World} {Q : Nat → Prop} {e : EnvL} {a1 a2 a3 : Option Addr} {c1 c2 c3 n : Nat} (h : EnvR w Q e a1 c1 a2 c2 a3 c3 n) (hn : n ≤ 8000) (x y : List UInt8) (z : Int) :
    Calls Tryz.prog 87 #[.agg #[.slice a1 n c1, .slice a2 n c2, .slice a3 n c3], .string ⟨x.toArray⟩, .string ⟨y.toArray⟩, .int .i64 z] w fun r w' => ∃ b1 d1 b2 d2 b3 d3, r = .returned (.agg #[.slice b1 (n + 1) d1, .slice b2 (n + 1) d2, .slice b3 (n + 1) d3]) ∧ EnvR w' (New w) ((x, y) :: e) b1 d1 b2 d2 b3 d3 (n + 1) ∧ Upto [] w w' := by
  obtain ⟨ss, h1, h2, h3⟩ := h.so_
  refine (bind_calls _ _ ss x y z a1 a2 a3 c1 c2 c3 n w _ hn (by rw [List.length_map, List.length_map, List.length_reverse, h.len]) (by rw [List.length_map, List.length_map, List.length_reverse, h.len]) h1 (sV_one _) (sV_one _) h2 h.from_ h.to_ h3).mono ?_
  rintro r w' ⟨b1, d1, b2, d2, b3, d3, e1, k1, k2, k3, k4⟩
  refine ⟨b1, d1, b2, d2, b3, d3, e1, ⟨by rw [List.length_cons, h.len], ?_, ?_, ss ++ [.int .i64 z], by simp [h1], ?_, k3⟩, k4⟩
  · simpa [List.map_append] using k1
  · simpa [List.map_append] using k2
  · intro u hu
    rcases List.mem_append.1 hu with hu | hu
    · exact h2 u hu
    · rw [List.mem_singleton.1 hu]; rfl
theorem sizes_take : ∀ {l : List Nd} {i : Nat} {x : Nd}, l[i]? = some x → sizesF (l.take i) + sizeF x ≤ sizesF l
  | [], i, x, h => by simp at h
  | y :: ys, 0, x, h => by
    simp at h
    subst h
    simp [sizesF]
  | y :: ys, i + 1, x, h => by
    have := sizes_take (l := ys) (i := i) (x := x) (by simpa using h)
    rw [List.take_succ_cons]
    simp only [sizesF]
    omega
theorem forms_take {l : List Nd} (h : formsF nameF l = 0) (i : Nat) : formsF nameF (l.take i) = 0 := forms_iff.2 (fun x hx => forms_iff.1 h x (List.mem_of_mem_take hx))
theorem apL_room {l : List Nd} {i : Nat} {x : Nd} (hx : l[i]? = some x) {e : EnvL} {tk : List (List UInt8)} (hf : formsF nameF l = 0) (he : ∀ p ∈ e, nameF p.2 = true) (hr : tk.length + sizesF l ≤ 8000) : (apL (l.take i) e tk).2.length + sizeF x ≤ 8000 := by
  have h1 := sizes_take hx
  obtain ⟨-, -, -, -, -, h2⟩ := apL_shape (l.take i) e tk (forms_take hf i) he (by omega)
  omega
/-- a list of texts stays, where another row grows in its own block -/
theorem tk_keep {w w' : World} {Q R : Nat → Prop} {v res : Value} {t : Value} {n : Nat} {xs : List Value} {o : Obj} (h : SlP w Q t n xs) (hu : Upto v.ownBlock.toList (w.alloc o) w') (hw : ∀ g, res.ownBlock = some g → v.ownBlock = some g ∨ (w.alloc o).heap.size ≤ g) (h1 : ∀ b, Q b → v.ownBlock ≠ some b) (h2 : ∀ b, Q b → R b) : SlP w' (fun b => R b ∧ res.ownBlock ≠ some b) t n xs :=
  ((h.mono (Q := fun b => Q b ∧ b < w.heap.size) (fun b hb hl => ⟨hb, hl.lt⟩)).ext ((Upto.refl [] w).alloc o)).upto hu (fun b hb _ hm => h1 b hb.1 (Option.mem_toList.1 hm)) |>.mono (fun b hb _ => ⟨h2 b hb.1, fun e => by
    rcases hw b e with h3 | h3
    · exact h1 b hb.1 h3
    · have : (w.alloc o).heap.size = w.heap.size + 1 := by show (w.heap.push o).size = _; simp
      omega⟩)
/-- what a call of apart hands back: the node's six cells, the taken names' slice, the new blocks -/
structure ApY where
  o : Int
  a1 : Option Addr
  n1 : Nat
  c1 : Nat
  s : Int
  n : Int
  m : Int
  a2 : Option Addr
  n2 : Nat
  c2 : Nat
  ta : Option Addr
  tc : Nat
  lo : Nat
  k : Nat
instance : Nonempty ApY := ⟨⟨0, none, 0, 0, 0, 0, 0, none, 0, 0, none, 0, 0, 0⟩⟩
theorem slp_one1 {w : World} {P : Nat → Prop} {B : Nat} {s : List UInt8} {ls : List (List UInt8)} (h : w.heap[B]? = some (.cells #[.string ⟨s.toArray⟩] 9 (0, 0))) (hP : P B) (hl : ls = [s]) : SlP w P (.slice (some ⟨B, 0, none⟩) 1 1) 1 (ls.map sV) := by
  subst hl
  refine Or.inr ⟨B, 0, 1, rfl, ⟨hP, ⟨_, _, _, h⟩, Nat.le_refl _⟩, fun j u hj => ?_⟩
  rw [cell_of h, Nat.zero_add]
  cases j with
  | zero => simpa [sV] using hj
  | succ j => simp at hj
/-- what apart is asked -/
structure ApIn (w : World) (d : Nat) (P : Nat → Prop) (x : Nd) (v : Value) (e : EnvL) (tk : List (List UInt8)) : Prop where
  nd : NdV w P x v
  deep : depthF x ≤ d
  form : formF nameF x = 0
  few : nmsF x + sizeF x + 2 ≤ 8000
  room : tk.length + sizeF x ≤ 8000
  narrow : e.length + d ≤ 8000
  names : ∀ p ∈ e, nameF p.2 = true
/-- what a call of apart is to show: the induction's hypothesis -/
def ApH (d : Nat) (ApP : (Nat → Prop) → (Nat → Prop) → World → Nd × List (List UInt8) → Ending → World → Prop) : Prop := ∀ (x : Nd) (v : Value) (P Pt Qe : Nat → Prop) (e : EnvL) (tk : List (List UInt8)) (a1 a2 a3 ta : Option Addr) (c1 c2 c3 n tn tc : Nat) (u : World),
  ApIn u d P x v e tk → EnvR u Qe e a1 c1 a2 c2 a3 c3 n → tk.length = tn → SlP u Pt (.slice ta tn tc) tn (tk.map sV) → Calls Tryz.prog 65 #[v, .agg #[.slice a1 n c1, .slice a2 n c2, .slice a3 n c3], .slice ta tn tc] u (ApP P Pt u (apN x e tk))
/-- what apart answers -/
def ApPost (P Pt : Nat → Prop) (w : World) (r : Nd × List (List UInt8)) (e : Ending) (w' : World) : Prop :=
  ∃ o s n m a1 n1 c1 a2 n2 c2 ta tc, e = .returned (.tuple #[.agg #[.int .i64 o, .slice a1 n1 c1, .int .i64 s, .int .i64 n, .int .i64 m, .slice a2 n2 c2], .slice ta r.2.length tc]) ∧
    NdV w' (fun b => P b ∨ New w b) r.1 (.agg #[.int .i64 o, .slice a1 n1 c1, .int .i64 s, .int .i64 n, .int .i64 m, .slice a2 n2 c2]) ∧ SlP w' (fun b => Pt b ∨ New w b) (.slice ta r.2.length tc) r.2.length (r.2.map sV) ∧ Upto [] w w'
end Go.Proofs.YtbnebkkpmcjmbaaGreatDoor


namespace Go.Proofs.YtbnebkkpmcjmbaaGreatDoor
open Go.RowKit Go.PL Go.Maps
theorem alloc_size1 (w : World) (o : Obj) : (w.alloc o).heap.size = w.heap.size + 1 := by
  show (w.heap.push o).size = _
  simp
/-- a box that holds a list of texts in a block of its own -/
structure TkB (w : World) (B : Nat) (a : Option Addr) (n c : Nat) (tk : List (List UInt8)) : Prop where
  box : w.heap[B]? = some (.cells #[.slice a n c] 22 (0, 0))
  row : w.ownsRow 0 9 1 (.slice a n c) n (tk.map sV)
  len : tk.length = n
theorem TkB.upto {S : List Nat} {w w' : World} {B : Nat} {a : Option Addr} {n c : Nat} {tk : List (List UInt8)} (h : TkB w B a n c tk) (hu : Upto S w w') (h1 : B ∉ S) (h2 : ∀ q, (Value.slice a n c).ownBlock = some q → q ∉ S) : TkB w' B a n c tk := ⟨hu.at h.box h1, ownsRow_upto h.row hu h2, h.len⟩
theorem TkB.ext {w w' : World} {B : Nat} {a : Option Addr} {n c : Nat} {tk : List (List UInt8)} (h : TkB w B a n c tk) (hu : Upto [] w w') : TkB w' B a n c tk := h.upto hu (by simp) (by simp)
theorem TkB.lt {w : World} {B : Nat} {a : Option Addr} {n c : Nat} {tk : List (List UInt8)} (h : TkB w B a n c tk) : B < w.heap.size ∧ ∀ q, (Value.slice a n c).ownBlock = some q → q < w.heap.size ∧ q ≠ B := ⟨lt_of_heap h.box, fun q hq => by
  obtain ⟨cur, hh⟩ := ownsRow_block h.row hq
  refine ⟨lt_of_heap hh, fun e => ?_⟩
  rw [e, h.box] at hh
  injection hh with hh
  injection hh with _ h2
  cases h2⟩
/-- what renaming all binders may write: the tree, the box, the row in it -/
def Sq (lo hi B : Nat) (sv : Value) : List Nat := Rg lo hi ++ B :: sv.ownBlock.toList
theorem mem_sq {lo hi B b : Nat} {sv : Value} : b ∈ Sq lo hi B sv ↔ (lo ≤ b ∧ b < hi) ∨ b = B ∨ sv.ownBlock = some b := by
  unfold Sq
  rw [List.mem_append, mem_rg, List.mem_cons, Option.mem_toList]
theorem TkB.off {w : World} {lo hi B : Nat} {a : Option Addr} {n c : Nat} {tk : List (List UInt8)} (h : TkB w B a n c tk) {b : Nat} {cs : Array Value} {z : Nat × Nat} (hb : w.heap[b]? = some (.cells cs 30 z)) (ho : b < lo ∨ hi ≤ b) : b ∉ Sq lo hi B (.slice a n c) := fun hm => by
  rw [mem_sq] at hm
  rcases hm with hm | hm | hm
  · omega
  · rw [hm, h.box] at hb
    injection hb with hb
    injection hb with _ h2
    cases h2
  · obtain ⟨cur, hh⟩ := ownsRow_block h.row hm
    rw [hh] at hb
    injection hb with hb
    injection hb with _ h2
    cases h2
/-- where things lie -/
structure AqAt (w0 w : World) (lo hi : Nat) (e : EnvL) (mb : Nat) (tk : List (List UInt8)) (B : Nat) (a : Option Addr) (n c : Nat) : Prop where
  hiw : hi ≤ w.heap.size
  low : w0.heap.size ≤ lo
  up : Upto [] w0 w
  env : EnvM w mb e
  mo : mb < lo ∨ hi ≤ mb
  tk : TkB w B a n c tk
  bo : (B < lo ∨ hi ≤ B) ∧ w0.heap.size ≤ B
  so : ∀ q, (Value.slice a n c).ownBlock = some q → (q < lo ∨ hi ≤ q) ∧ w0.heap.size ≤ q
theorem AqAt.ext {w0 w w' : World} {lo hi : Nat} {e : EnvL} {mb : Nat} {tk : List (List UInt8)} {B : Nat} {a : Option Addr} {n c : Nat} (h : AqAt w0 w lo hi e mb tk B a n c) (hu : Upto [] w w') : AqAt w0 w' lo hi e mb tk B a n c :=
  ⟨Nat.le_trans h.hiw hu.size, h.low, h.up.trans_ext hu, h.env.upto hu (by simp), h.mo, h.tk.ext hu, h.bo, h.so⟩
/-- what is said of the formula -/
structure AqOk (d : Nat) (x : Nd) (e : EnvL) (tk : List (List UInt8)) : Prop where
  deep : depthF x ≤ d
  form : formF nameF x = 0
  few : nmsF x + sizeF x + 2 ≤ 8000
  room : tk.length + sizeF x ≤ 8000
  names : ∀ p ∈ e, nameF p.2 = true
def AqPost (lo hi : Nat) (v : Value) (r : Nd × List (List UInt8)) (B : Nat) (sv : Value) (w : World) (e : Ending) (w' : World) : Prop :=
  e = .returned v ∧ OwT w' r.1 v lo hi ∧ (∃ a n c, TkB w' B a n c r.2 ∧ ∀ q, (Value.slice a n c).ownBlock = some q → sv.ownBlock = some q ∨ w.heap.size ≤ q) ∧ Upto (Sq lo hi B sv) w w'
/-- the induction's hypothesis -/
def AqH (w0 : World) (d : Nat) : Prop := ∀ (x : Nd) (v : Value) (lo hi : Nat) (e : EnvL) (mb : Nat) (tk : List (List UInt8)) (B : Nat) (a : Option Addr) (n c : Nat) (u : World), OwT u x v lo hi → AqOk d x e tk → AqAt w0 u lo hi e mb tk B a n c →
  Calls Tryz.prog 64 #[v, .map (some mb), .pointer (some ⟨B, 0, none⟩)] u (AqPost lo hi v (apN x e tk) B (.slice a n c) u)
/-- between the operands, i of them renamed; w5: the world ahead of the loop -/
structure KA (w5 : World) (l : List Nd) (E : EnvL) (T : List (List UInt8)) (a2 : Option Addr) (cs : Array Value) (o g m hi B : Nat) (sv5 : Value) (i : Nat) (wr : World) : Prop where
  kd : l = [] ∨ (a2 = some ⟨g, o, none⟩ ∧ m ≤ g ∧ g < hi ∧ OwTs wr ((apL (l.take i) E T).1 ++ l.drop i) cs o g m hi ∧ ∃ t, wr.heap[g]? = some (.cells cs t (0, 0)))
  up : Upto (Sq m hi B sv5) w5 wr
  tk : ∃ a n c, TkB wr B a n c (apL (l.take i) E T).2 ∧ ∀ q, (Value.slice a n c).ownBlock = some q → sv5.ownBlock = some q ∨ w5.heap.size ≤ q
theorem KA.start {w5 : World} {l : List Nd} {E : EnvL} {T : List (List UInt8)} {a2 : Option Addr} {cs : Array Value} {o g m hi B : Nat} {a : Option Addr} {n c : Nat} (hK : KdsT w5 l a2 cs o g m hi) (ht : TkB w5 B a n c T) : KA w5 l E T a2 cs o g m hi B (.slice a n c) 0 w5 := by
  refine ⟨?_, Upto.refl _ _, ?_⟩
  · rcases hK with h | ⟨h1, h2, h3, h4, h5⟩
    · exact Or.inl h
    · refine Or.inr ⟨h1, h3, h4, ?_, h2⟩
      rw [List.take_zero]
      unfold apL
      simpa using h5
  · rw [List.take_zero]
    unfold apL
    exact ⟨a, n, c, ht, fun q hq => Or.inl hq⟩
theorem KA.step {w0 w5 wr : World} {d : Nat} {l : List Nd} {E : EnvL} {T : List (List UInt8)} {a2 : Option Addr} {cs : Array Value} {o g m hi B mb i : Nat} {a : Option Addr} {n c : Nat} {x : Nd} (h : KA w5 l E T a2 cs o g m hi B (.slice a n c) i wr) (hx : l[i]? = some x)
    (hA : AqAt w0 w5 m hi E mb T B a n c) (hd : depthF x ≤ d) (h1 : formF nameF x = 0) (h3 : nmsF x + sizeF x + 2 ≤ 8000) (hf : formsF nameF l = 0) (hr : T.length + sizesF l ≤ 8000) (hn : ∀ p ∈ E, nameF p.2 = true) :
    ∃ v0 v1 v2 v3 v4 v5 k q a' n' c', a2 = some ⟨g, o, none⟩ ∧ m ≤ g ∧ g < hi ∧ (∃ t, wr.heap[g]? = some (.cells cs t (0, 0))) ∧ Six cs (o + i * 6) v0 v1 v2 v3 v4 v5 ∧ m ≤ k ∧ q ≤ hi ∧ (g < k ∨ q ≤ g) ∧ OwT wr x (.agg #[v0, v1, v2, v3, v4, v5]) k q ∧ AqOk d x E (apL (l.take i) E T).2 ∧ AqAt w0 wr k q E mb (apL (l.take i) E T).2 B a' n' c' ∧
      ∀ u w', Upto [] wr u → AqPost k q (.agg #[v0, v1, v2, v3, v4, v5]) (apN x E (apL (l.take i) E T).2) B (.slice a' n' c') u (.returned (.agg #[v0, v1, v2, v3, v4, v5])) w' → KA w5 l E T a2 cs o g m hi B (.slice a n c) (i + 1) w' ∧ ∃ t, w'.heap[g]? = some (.cells cs t (0, 0)) := by
  have hil := (List.getElem?_eq_some_iff.1 hx).1
  rcases h.kd with h0 | ⟨k1, k2, k3, k4, t, k5⟩
  · rw [h0] at hil
    simp at hil
  have hdr : l.drop i = x :: l.drop (i + 1) := by
    obtain ⟨hi2, rfl⟩ := List.getElem?_eq_some_iff.1 hx
    exact List.drop_eq_getElem_cons hi2
  have hln : (apL (l.take i) E T).1.length = i := by rw [apL_len, List.length_take]; omega
  have hxi : ((apL (l.take i) E T).1 ++ l.drop i)[i]? = some x := by
    rw [List.getElem?_append_right (by omega), hln, hdr, Nat.sub_self]
    rfl
  obtain ⟨v0, v1, v2, v3, v4, v5, k, q, c0, c1, c2, c3, c4, c5, i1, i2, i3, i4, i5, i6⟩ := OwTs.at _ cs o g m hi i x k4 hxi
  obtain ⟨a', n', c', t1, t2⟩ := h.tk
  have hsz := h.up.size
  have hwr : hi ≤ wr.heap.size := Nat.le_trans hA.hiw hsz
  have hso : ∀ b, (Value.slice a' n' c').ownBlock = some b → (b < m ∨ hi ≤ b) ∧ w0.heap.size ≤ b := fun b hb => by
    rcases t2 b hb with h2 | h2
    · exact hA.so b h2
    · have := hA.hiw; have := hA.up.size; exact ⟨Or.inr (by omega), by omega⟩
  have hmb : mb ∉ Sq m hi B (.slice a n c) := fun hm => by
    rw [mem_sq] at hm
    rcases hm with hm | hm | hm
    · have := hA.mo; omega
    · exact hA.env.ne hA.tk.box hm
    · obtain ⟨cur, hh⟩ := ownsRow_block hA.tk.row hm
      exact hA.env.ne hh rfl
  refine ⟨v0, v1, v2, v3, v4, v5, k, q, a', n', c', k1, k2, k3, ⟨t, k5⟩, (by rw [Nat.mul_comm]; exact ⟨c0, c1, c2, c3, c4, c5⟩), i1, i3, i4, i5, ⟨hd, h1, h3, apL_room hx hf hn hr, hn⟩,
    ⟨by omega, by have := hA.low; omega, hA.up.trans h.up (fun b hb => Or.inr ?_), hA.env.upto h.up hmb, by have := hA.mo; omega, t1, ⟨by have := hA.bo.1; omega, hA.bo.2⟩, fun b hb => ⟨by have := (hso b hb).1; omega, (hso b hb).2⟩⟩, fun u w' hu hp => ?_⟩
  · rw [mem_sq] at hb
    rcases hb with hb | hb | hb
    · have := hA.low; omega
    · rw [hb]; exact hA.bo.2
    · exact (hA.so b hb).2
  · obtain ⟨-, p1, ⟨a'', n'', c'', p2, p3⟩, p4⟩ := hp
    have hus := hu.size
    have hsame : Upto (Sq k q B (.slice a' n' c')) wr w' := (hu.mono (S := []) (by simp)).trans_same p4
    have hsub : ∀ b ∈ Sq k q B (.slice a' n' c'), b ∈ Sq m hi B (.slice a n c) ∨ w5.heap.size ≤ b := fun b hb => by
      rw [mem_sq] at hb ⊢
      rcases hb with hb | hb | hb
      · exact Or.inl (Or.inl (by omega))
      · exact Or.inl (Or.inr (Or.inl hb))
      · rcases t2 b hb with h2 | h2
        · exact Or.inl (Or.inr (Or.inr h2))
        · exact Or.inr h2
    have hoff : ∀ b, m ≤ b → b < hi → (b < k ∨ q ≤ b) → b ∉ Sq k q B (.slice a' n' c') := fun b hb1 hb2 hb3 hm => by
      rw [mem_sq] at hm
      rcases hm with hm | hm | hm
      · omega
      · have := hA.bo.1; omega
      · have := (hso b hm).1; omega
    have hat : ∃ t, w'.heap[g]? = some (.cells cs t (0, 0)) := ⟨t, hsame.at k5 (hoff g k2 k3 i4)⟩
    have hup : Upto (Sq m hi B (.slice a n c)) w5 w' := h.up.trans hsame hsub
    refine ⟨⟨Or.inr ⟨k1, k2, k3, ?_, hat⟩, hup, ?_⟩, hat⟩
    · rw [apL_take hx, List.append_assoc, List.singleton_append]
      have hset : ((apL (l.take i) E T).1 ++ l.drop i).set i (apN x E (apL (l.take i) E T).2).1 = (apL (l.take i) E T).1 ++ (apN x E (apL (l.take i) E T).2).1 :: l.drop (i + 1) := by
        rw [List.set_append_right _ _ (by omega), hln, hdr, Nat.sub_self]
        rfl
      rw [← hset]
      exact i6 w' _ p1 (fun b hb hb2 hb3 => hsame.block b (by omega) (hoff b hb hb2 hb3))
    · rw [apL_take hx]
      refine ⟨a'', n'', c'', p2, fun b hb => ?_⟩
      rcases p3 b hb with h2 | h2
      · exact t2 b h2
      · exact Or.inr (by omega)
end Go.Proofs.YtbnebkkpmcjmbaaGreatDoor


namespace Go.Proofs.YtbnebkkpmcjmbaaGreatDoor
open Go.RowKit Go.PL Go.Maps
set_option maxRecDepth 100000 in
set_option maxHeartbeats 25600000 in
theorem aq_plain_calls (w0 : World) (d : Nat) (IH : AqH w0 d) (op so nn mm : Int) (nms : List (List UInt8)) (l : List Nd) (v : Value) (lo hi : Nat) (e : EnvL) (mb : Nat) (tk : List (List UInt8)) (B : Nat) (ta : Option Addr) (tn tc : Nat) (w : World)
    (hb : bindsF op nms.length = false) (hown : OwT w (.mk op nms so nn mm l) v lo hi) (hok : AqOk (d + 1) (.mk op nms so nn mm l) e tk) (hat : AqAt w0 w lo hi e mb tk B ta tn tc) :
    Calls Tryz.prog 64 #[v, .map (some mb), .pointer (some ⟨B, 0, none⟩)] w (AqPost lo hi v (apN (.mk op nms so nn mm l) e tk) B (.slice ta tn tc) w) := by
  have HGO : Hid (apN (.mk op nms so nn mm l) e tk = (.mk op (rnUses op (lookE e) nms) so nn mm (apL l e tk).1, (apL l e tk).2)) := Lib.hid (by
    unfold apN
    rw [if_neg (by rw [hb]; simp)])
  have HKD : Hid (∀ x ∈ l, depthF x ≤ d ∧ formF nameF x = 0 ∧ nmsF x + sizeF x + 2 ≤ 8000) := Lib.hid (fun x hx => ⟨by
    have h1 := depths_mem hx
    have h2 := hok.deep
    simp only [depthF] at h2
    omega, forms_iff.1 (form_iff.1 hok.form).2.2.2.2.2 x hx, by
    have h1 := nmss_mem hx
    have h2 := sizesF_mem hx
    have h3 := hok.few
    simp only [nmsF, sizeF] at h3
    omega⟩)
  have HFS : Hid (formsF nameF l = 0) := Lib.hid (form_iff.1 hok.form).2.2.2.2.2
  have HRM : Hid (tk.length + (sizesF l + 1) ≤ 8000 ∧ ∀ p ∈ e, nameF p.2 = true) := Lib.hid ⟨by have h3 := hok.room; simp only [sizeF] at h3; omega, hok.names⟩
  have HNL : Hid (∀ x ∈ nms, x.length ≤ maxLen) := Lib.hid (fun x hx => by
    have h1 := List.all_eq_true.1 (form_iff.1 hok.form).2.2.1 x hx
    have := name_len h1
    unfold maxLen
    omega)
  obtain ⟨a1, c1, a2, c2, m, cs, o, g, rfl, hm1, hm2, hN, hK⟩ := hown.parts
  have hsl : ∀ u, NmT u nms (.slice a1 nms.length c1) lo m → SlP u (fun _ => True) (.slice a1 nms.length c1) nms.length (nms.map sV) := fun u hu => by simpa using NmT.slp hu
  have hln : nms.length ≤ 8000 := by have h3 := hok.few; simp only [nmsF] at h3; omega
  have hll : l.length ≤ 8000 := by have h1 := sizes_len l; have h3 := hok.few; simp only [sizeF] at h3; omega
  have hgd := (good_of _ hok.form).1
  unfold goodN at hgd
  have HUS : Hid (∀ u, NmT u nms (.slice a1 nms.length c1) lo m → Calls Tryz.prog 74 #[.agg #[.int .i64 op, .slice a1 nms.length c1, .int .i64 so, .int .i64 nn, .int .i64 mm, .slice a2 l.length c2]] u (UsA op nms a1 u)) := Lib.hid (fun u hu => usesA_calls (fun _ => True) op nms a1 c1 so nn mm a2 l.length c2 u (fun h10 => hgd.1 (Or.inl h10)) (hsl u hu) (by omega))
  have HBI : Hid (∀ u, Calls Tryz.prog 57 #[.agg #[.int .i64 op, .slice a1 nms.length c1, .int .i64 so, .int .i64 nn, .int .i64 mm, .slice a2 l.length c2]] u fun e w' => e = .returned (.bool false) ∧ Upto [] u w') := Lib.hid (fun u => by
    have := binds_calls op a1 nms.length c1 so nn mm a2 l.length c2 u
    rw [hb] at this
    exact this)
  have HUL : Hid ((usesF op nms).length ≤ 8000) := Lib.hid (by
    have h1 : (usesF op nms).length ≤ nms.length := by
      unfold usesF
      split
      · simp
      · split <;> simp
    omega)
  have HLT : Hid (hi ≤ w.heap.size ∧ lo ≤ m ∧ m ≤ hi) := Lib.hid ⟨hat.hiw, hm1, hm2⟩
  have IHH := Lib.hid IH
  have HAT := Lib.hid hat
  obtain ⟨n1, hn1⟩ : ∃ n1, n1 = nms.length := ⟨_, rfl⟩
  obtain ⟨n2, hn2⟩ : ∃ n2, n2 = l.length := ⟨_, rfl⟩
  have HL1 : Hid (nms.length = n1) := Lib.hid hn1.symm
  have HL2 : Hid (l.length = n2 ∧ n2 ≤ 8000) := Lib.hid ⟨hn2.symm, by omega⟩
  rw [← hn1] at HUS HBI hN hsl ⊢
  rw [← hn2] at HUS HBI ⊢
  clear hsl hln hll hb hok hat hown hm1 hm2 hgd hn1 hn2 IH
  obtain ⟨W, hW⟩ : ∃ W, W = (w.alloc (.cells #[.int .i64 op, .slice a1 n1 c1, .int .i64 so, .int .i64 nn, .int .i64 mm, .slice a2 n2 c2] 30)).alloc (.cells #[.int .i64 0, .slice none 0 0, .int .i64 0, .int .i64 0, .int .i64 0, .slice none 0 0] 30) := ⟨_, rfl⟩
  have HU : Hid (Upto [] w W) := Lib.hid (by rw [hW]; exact ((Upto.refl [] w).alloc _).alloc _)
  have HB1 : Hid (W.heap[w.heap.size]? = some (.cells #[.int .i64 op, .slice a1 n1 c1, .int .i64 so, .int .i64 nn, .int .i64 mm, .slice a2 n2 c2] 30 (0, 0))) := Lib.hid (by rw [hW]; exact alloc_old (new_at w _) _)
  have HB2 : Hid (W.heap[w.heap.size + 1]? = some (.cells #[.int .i64 0, .slice none 0 0, .int .i64 0, .int .i64 0, .int .i64 0, .slice none 0 0] 30 (0, 0))) := Lib.hid (by rw [hW]; exact new_at1 w _ _)
  have HN0 := Lib.hid (hN.same (SameIn.upto HU.out (by have := HLT.out; omega) (by simp)))
  have HK0 := Lib.hid (hK.same (SameIn.upto HU.out (by have := HLT.out; omega) (by simp)))
  have HA0 := Lib.hid (HAT.out.ext HU.out)
  clear hN hK
  obtain ⟨x0, x1, x2, x3, x4, x5⟩ := cells6 HB1.out
  go_enter Tryz.func64, Tryz.ntmps64
  go_wp2_with fail
  simp only [← hW]
  clear hW
  try go_wp2_with fail
  refine (HUS.out _ HN0.out).mono ?_
  rintro r w3 ⟨vu, rfl, hu3, hv3⟩
  have HC3 := Lib.hid (hu3.at HB1.out (by simp))
  have HZ3 := Lib.hid (hu3.at HB2.out (by simp))
  have HU3 := Lib.hid (HU.out.trans_ext hu3)
  have HN3 := Lib.hid (HN0.out.same (SameIn.upto hu3 (by have := HLT.out; have := HU.out.size; omega) (by simp)))
  have HK3 := Lib.hid (HK0.out.same (SameIn.upto hu3 (by have := HLT.out; have := HU.out.size; omega) (by simp)))
  have HA3 := Lib.hid (HA0.out.ext hu3)
  obtain ⟨ua, N, uc, HV, rfl⟩ : ∃ (ua : Option Addr) (N uc : Nat), Hid (N = (usesF op nms).length ∧ (N = 0 ∨ ∃ g o, ua = some ⟨g, o + (if op = 10 then 1 else 0), none⟩ ∧ a1 = some ⟨g, o, none⟩ ∧ N + (if op = 10 then 1 else 0) = n1 ∧ N ≤ uc)) ∧ vu = .slice ua N uc := by
    rcases hv3 with ⟨h1, a, c, rfl⟩ | ⟨g, o, c, k, rfl, h2, rfl, h3, h4⟩
    · exact ⟨a, 0, c, Lib.hid ⟨by rw [h1]; rfl, Or.inl rfl⟩, rfl⟩
    · exact ⟨_, _, c, Lib.hid ⟨rfl, Or.inr ⟨g, o, rfl, h2, by rw [h3]; exact HL1.out, h4⟩⟩, rfl⟩
  have HNB : Hid (N ≤ 8000) := Lib.hid (by
    have h1 := HV.out.1
    have h2 := HUL.out
    omega)
  have HMB : Hid (mb ∉ Rg lo m) := Lib.hid (fun hm => by rw [mem_rg] at hm; have := HAT.out.mo; have := HLT.out; omega)
  clear hu3 hv3 x0 x1 x2 x3 x4 x5 HN0 HK0 HA0
  have hNB := HNB.out
  have hNI : (N : Int) ≤ 8000 := by omega
  obtain ⟨x0, x1, x2, x3, x4, x5⟩ := cells6 HC3.out
  go_wp2_with fail
  go_loopw [19] (fun v wr => ∃ j : Nat, j ≤ N ∧ v = .int .i64 j ∧ Hid (NI w3 (lookE e) (if op = 10 then 1 else 0) nms a1 c1 lo m j wr)) (fun v _ => N - (intOf v).toNat)
  case atStart => exact ⟨0, by omega, rfl, Lib.hid (NI.start (by rw [HL1.out]; exact HN3.out))⟩
  case round =>
    obtain ⟨j, hj, rfl, HI⟩ := hrel
    have hj0 : (0 : Int) ≤ j := by omega
    rcases Nat.lt_or_ge j N with hlt | hge
    · have hjl : (j : Int) < N := by omega
      obtain ⟨g9, o9, hua, ha1, hNl, huc⟩ : ∃ g o, ua = some ⟨g, o + (if op = 10 then 1 else 0), none⟩ ∧ a1 = some ⟨g, o, none⟩ ∧ N + (if op = 10 then 1 else 0) = n1 ∧ N ≤ uc := HV.out.2.resolve_left (by omega)
      obtain ⟨x, hx⟩ : ∃ x, nms[(if op = 10 then 1 else 0) + j]? = some x := ⟨nms[(if op = 10 then 1 else 0) + j]'(by rw [HL1.out]; omega), List.getElem?_eq_getElem _⟩
      have hlk := (HA3.out.env.upto HI.out.up HMB.out).look x (HNL.out x (List.mem_of_getElem? hx))
      subst hua
      have HA1 := Lib.hid ha1
      replace HI : Hid (NI w3 (lookE e) (if op = 10 then 1 else 0) nms (some ⟨g9, o9, none⟩) c1 lo m j wr) := Lib.hid (by rw [← ha1]; exact HI.out)
      have HX := Lib.hid hx
      obtain ⟨q0, q1⟩ := HI.out.at hx
      clear ha1 hx
      generalize hgk : (if op = 10 then 1 else 0) = k9 at *
      clear hgk x0 x1 x2 x3 x4 x5
      unfold sV at q0
      rcases hlk with ⟨hl1, hl2⟩ | hl1
      · have HI2 := Lib.hid (HI.out.stay HX.out hl2)
        clear hl2
        go_wp2_with fail
        exact ⟨⟨j + 1, by omega, by simp, Lib.hid (by rw [HA1.out]; exact HI2.out)⟩, by simp [intOf]; omega⟩
      · have HI2 := Lib.hid (HI.out.put (y := lookE e x) HX.out rfl)
        generalize lookE e x = y at *
        go_wp2_with fail
        exact ⟨⟨j + 1, by omega, by simp, Lib.hid (by rw [HA1.out]; exact HI2.out)⟩, by simp [intOf]; omega⟩
    · obtain rfl : j = N := by omega
      have HJN0 : Hid (NmT wr (rnUses op (lookE e) nms) (.slice a1 n1 c1) lo m) := Lib.hid (by
        have h1 := HI.out.nm
        have h2 := HV.out.1
        rw [HL1.out] at h1
        rcases Nat.eq_zero_or_pos j with h0 | h0
        · rw [h0, mapAt_zero] at h1
          rw [rnUses_none (List.eq_nil_of_length_eq_zero (by omega))]
          exact h1
        · rw [h2, mapAt_uses rfl (by omega)] at h1
          exact h1)
      have hsub : ∀ b ∈ Rg lo m, b ∈ Sq lo hi B (.slice ta tn tc) := fun b hb => by rw [mem_rg] at hb; rw [mem_sq]; have := HLT.out; exact Or.inl (by omega)
      have HUP : Hid (Upto (Rg lo m) w3 wr) := Lib.hid HI.out.up
      have HOF : Hid (∀ b, (b < lo ∨ hi ≤ b) → b ∉ Rg lo m) := Lib.hid (fun b hb hm => by rw [mem_rg] at hm; have := HLT.out; omega)
      have HUW0 : Hid (Upto (Sq lo hi B (.slice ta tn tc)) w wr) := Lib.hid ((HU3.out.mono (S := []) (by simp)).trans_same (HUP.out.mono hsub))
      have HCR := Lib.hid (HUP.out.at HC3.out (HOF.out _ (Or.inr (by have := HLT.out; omega))))
      have HZR := Lib.hid (HUP.out.at HZ3.out (HOF.out _ (Or.inr (by have := HLT.out; omega))))
      have HKR := Lib.hid (HK3.out.same (SameIn.upto HUP.out (by have := HLT.out; have := HU3.out.size; omega) (fun b hb => by rw [mem_rg] at hb; exact Or.inl hb.2)))
      have HAR : Hid (AqAt w0 wr m hi e mb tk B ta tn tc) := Lib.hid ⟨by have := HLT.out; have := HU3.out.size; have := HUP.out.size; omega, by have := HA3.out.low; have := HLT.out; omega, HA3.out.up.trans HUP.out (fun b hb => Or.inr (by rw [mem_rg] at hb; have := HA3.out.low; omega)), HA3.out.env.upto HUP.out HMB.out, by have := HA3.out.mo; have := HLT.out; omega, HA3.out.tk.upto HUP.out (HOF.out _ HA3.out.bo.1) (fun q hq => HOF.out _ (HA3.out.so q hq).1), ⟨by have := HA3.out.bo.1; have := HLT.out; omega, HA3.out.bo.2⟩, fun q hq => ⟨by have := (HA3.out.so q hq).1; have := HLT.out; omega, (HA3.out.so q hq).2⟩⟩
      clear hsub x0 x1 x2 x3 x4 x5
      obtain ⟨x0, x1, x2, x3, x4, x5⟩ := cells6 HCR.out
      go_wp2_with fail
      refine (HBI.out _).mono ?_
      rintro r w5 ⟨rfl, hu5⟩
      have HC4 := Lib.hid (hu5.at HCR.out (by simp))
      have HZ4 := Lib.hid (hu5.at HZR.out (by simp))
      have HUW := Lib.hid (HUW0.out.trans_ext hu5)
      have HJN := Lib.hid (HJN0.out.same (SameIn.upto hu5 (by have := HLT.out; have := HUW0.out.size; omega) (by simp)))
      have HK4 := Lib.hid (HKR.out.same (SameIn.upto hu5 (by have := HLT.out; have := HUW0.out.size; omega) (by simp)))
      have HA4 := Lib.hid (HAR.out.ext hu5)
      have HOW : Hid (∀ q, (Value.slice ta tn tc).ownBlock = some q → (Value.slice ta tn tc).ownBlock = some q ∨ w.heap.size ≤ q) := Lib.hid (fun q hq => Or.inl hq)
      have HNL2 : Hid ((rnUses op (lookE e) nms).length = n1) := Lib.hid (by rw [rnUses_len]; exact HL1.out)
      have HRQ : Hid (tk.length + sizesF l ≤ 8000 ∧ ∀ p ∈ e, nameF p.2 = true) := Lib.hid ⟨by have := HRM.out.1; omega, HRM.out.2⟩
      clear hu5 x0 x1 x2 x3 x4 x5
      obtain ⟨x0, x1, x2, x3, x4, x5⟩ := cells6 HC4.out
      try go_wp2_with fail
      have hn2 := HL2.out.2
      have hn2I : (n2 : Int) ≤ 8000 := by omega
      go_loopw [69] (fun v wr => ∃ i : Nat, i ≤ n2 ∧ v = .int .i64 i ∧ Hid (KA w5 l e tk a2 cs o g m hi B (.slice ta tn tc) i wr)) (fun v _ => n2 - (intOf v).toNat)
      case atStart => exact ⟨0, by omega, rfl, Lib.hid (KA.start HK4.out HA4.out.tk)⟩
      case round =>
        obtain ⟨i, hi9, rfl, HKI⟩ := hrel
        have hi0 : (0 : Int) ≤ i := by omega
        have HOC : Hid (w.heap.size ∉ Sq m hi B (.slice ta tn tc) ∧ w.heap.size + 1 ∉ Sq m hi B (.slice ta tn tc)) := Lib.hid ⟨HA4.out.tk.off HC4.out (Or.inr (by have := HLT.out; omega)), HA4.out.tk.off HZ4.out (Or.inr (by have := HLT.out; omega))⟩
        have HC5 := Lib.hid (HKI.out.up.at HC4.out HOC.out.1)
        have HZ5 := Lib.hid (HKI.out.up.at HZ4.out HOC.out.2)
        clear x0 x1 x2 x3 x4 x5
        obtain ⟨x0, x1, x2, x3, x4, x5⟩ := cells6 HC5.out
        rcases Nat.lt_or_ge i n2 with hil | hig
        · have hilI : (i : Int) < n2 := by omega
          obtain ⟨x, hx⟩ : ∃ x, l[i]? = some x := ⟨l[i]'(by rw [HL2.out.1]; omega), List.getElem?_eq_getElem _⟩
          have hxm := HKD.out x (List.mem_of_getElem? hx)
          obtain ⟨v0, v1, v2, v3, v4, v5, k, q, ta6, tn6, tc6, ha2, hmg, hgh, ⟨t9, ht9⟩, hsix, hk1, hk2, hk3, hox, hokx, hatx, hout⟩ := HKI.out.step (d := d) hx HA4.out hxm.1 hxm.2.1 hxm.2.2 HFS.out HRQ.out.1 HRQ.out.2
          have HIN := Lib.hid (And.intro hox (And.intro hokx hatx))
          have HOUT := Lib.hid hout
          have HMG := Lib.hid (And.intro hmg hgh)
          obtain ⟨qo, b1, q1, e1, qs, qn, qm, b2, q2, e2, heq⟩ := (hox.ndv _ _ _ _).six
          obtain ⟨rfl, rfl, rfl, rfl, rfl, rfl⟩ : v0 = .int .i64 qo ∧ v1 = .slice b1 q1 e1 ∧ v2 = .int .i64 qs ∧ v3 = .int .i64 qn ∧ v4 = .int .i64 qm ∧ v5 = .slice b2 q2 e2 := by simpa using heq
          have HSX := Lib.hid hsix
          obtain ⟨l0, l1, l2, l3, l4, l5⟩ := hsix.cells ht9
          clear heq hx hxm hout hsix ht9 hox hokx hatx hmg hgh
          subst ha2
          go_wp2_with fail
          obtain ⟨W18, hW18⟩ : ∃ W18, W18 = wr.alloc (.cells #[.int .i64 qo, .slice b1 q1 e1, .int .i64 qs, .int .i64 qn, .int .i64 qm, .slice b2 q2 e2] 30) := ⟨_, rfl⟩
          have HA18 : Hid (Upto [] wr W18) := Lib.hid (by rw [hW18]; exact (Upto.refl [] wr).alloc _)
          have HL18 : Hid (W18.heap[wr.heap.size]? = some (.cells #[.int .i64 qo, .slice b1 q1 e1, .int .i64 qs, .int .i64 qn, .int .i64 qm, .slice b2 q2 e2] 30 (0, 0))) := Lib.hid (by rw [hW18]; exact new_at wr _)
          simp only [← hW18]
          have HP2 : Hid (Upto [] wr W18.drew) := Lib.hid HA18.out.drew
          have HC18 := Lib.hid (HA18.out.at HC5.out (by simp))
          clear hW18 x0 x1 x2 x3 x4 x5 l0 l1 l2 l3 l4 l5
          have x5 := cell_of HC18.out 5
          simp only [List.getElem?_toArray, List.getElem?_cons_zero, List.getElem?_cons_succ] at x5
          obtain ⟨y0, y1, y2, y3, y4, y5⟩ := cells6 HL18.out
          have HRM9 := Lib.hid (IHH.out x _ k q e mb _ B ta6 tn6 tc6 W18.drew (OwT.same _ _ _ _ HIN.out.1 (SameIn.upto HP2.out (by have := HIN.out.2.2.hiw; omega) (by simp))) HIN.out.2.1 (HIN.out.2.2.ext HP2.out))
          go_region_with (refine HRM9.out.mono ?_
                          rintro r w20 hp20
                          obtain ⟨rfl, -⟩ := id hp20
                          have HJ20 := Lib.hid (HOUT.out _ _ HP2.out hp20)
                          have HC20 := Lib.hid (HJ20.out.1.up.at HC4.out HOC.out.1)
                          have z5 := cell_of HC20.out 5
                          simp only [List.getElem?_toArray, List.getElem?_cons_zero, List.getElem?_cons_succ] at z5
                          obtain ⟨t21, ht21⟩ := HJ20.out.2
                          have HT21 := Lib.hid ht21
                          clear ht21 hp20
                          obtain ⟨m0, m1, m2, m3, m4, m5⟩ := HSX.out.cells HT21.out
                          have f0 := free_of HT21.out (o + i * 6)
                          have f1 := free_of HT21.out (o + i * 6 + 1)
                          have f2 := free_of HT21.out (o + i * 6 + 2)
                          have f3 := free_of HT21.out (o + i * 6 + 3)
                          have f4 := free_of HT21.out (o + i * 6 + 4)
                          have f5 := free_of HT21.out (o + i * 6 + 5))
          all_goals
            simp only [HSX.out.same HT21.out]
            clear x5 y0 y1 y2 y3 y4 y5 z5 m0 m1 m2 m3 m4 m5 f0 f1 f2 f3 f4 f5
            go_wp2_with fail
            exact ⟨⟨i + 1, by omega, by simp, Lib.hid HJ20.out.1⟩, by simp [intOf]; omega⟩
        · obtain rfl : i = n2 := by omega
          obtain ⟨y0, y1, y2, y3, y4, y5⟩ := cells6 HZ5.out
          obtain ⟨f0, f1, f2, f3, f4, f5⟩ := frees6 HZ5.out
          go_wp2_with fail
          clear x0 x1 x2 x3 x4 x5 y0 y1 y2 y3 y4 y5 f0 f1 f2 f3 f4 f5
          have HTL : Hid (l.take i = l ∧ l.drop i = []) := Lib.hid ⟨by rw [← HL2.out.1, List.take_length], by rw [← HL2.out.1, List.drop_length]⟩
          have hst := nd_store HZ5.out (.int .i64 op) (.slice a1 n1 c1) (.int .i64 so) (.int .i64 nn) (.int .i64 mm) (.slice a2 i c2)
          have hself := nd_self wr (w.heap.size + 1) (.int .i64 op) (.slice a1 n1 c1) (.int .i64 so) (.int .i64 nn) (.int .i64 mm) (.slice a2 i c2)
          have hsq : ∀ b ∈ Sq m hi B (.slice ta tn tc), b ∈ Sq lo hi B (.slice ta tn tc) ∨ w.heap.size ≤ b := fun b hb => by
            rw [mem_sq] at hb ⊢
            rcases hb with hb | hb | hb
            · exact Or.inl (Or.inl (by have := HLT.out; omega))
            · exact Or.inl (Or.inr (Or.inl hb))
            · exact (HOW.out b hb).imp (fun h2 => Or.inr (Or.inr h2)) id
          have hup0 : Upto (Sq lo hi B (.slice ta tn tc)) w wr := HUW.out.trans HKI.out.up hsq
          have hup := nd_up hup0 (B := w.heap.size + 1) (Or.inr (by omega)) (.int .i64 op) (.slice a1 n1 c1) (.int .i64 so) (.int .i64 nn) (.int .i64 mm) (.slice a2 i c2)
          have hsame : SameIn w5 wr lo m := SameIn.upto HKI.out.up (by have := HLT.out; have := HUW.out.size; omega) (fun b hb => by
            rw [mem_sq] at hb
            rcases hb with hb | hb | hb
            · exact Or.inr hb.1
            · have := HAT.out.bo.1; have := HLT.out; omega
            · rcases HOW.out b hb with h2 | h2
              · have := (HAT.out.so b h2).1; have := HLT.out; omega
              · have := HLT.out; omega)
          have hown : OwT wr (.mk op (rnUses op (lookE e) nms) so nn mm (apL l e tk).1) (.agg #[.int .i64 op, .slice a1 n1 c1, .int .i64 so, .int .i64 nn, .int .i64 mm, .slice a2 i c2]) lo hi := by
            refine OwT.join (cs := cs) (o := o) (g := g) (m := m) HNL2.out (by rw [apL_len]; exact HL2.out.1) HLT.out.2.1 HLT.out.2.2 (HJN.out.same hsame) ?_
            rcases HKI.out.kd with h1 | ⟨h1, h2, h3, h4, h5⟩
            · refine Or.inl ?_
              rw [h1]
              unfold apL
              rfl
            · rw [HTL.out.1, HTL.out.2, List.append_nil] at h4
              exact Or.inr ⟨h1, h5, h2, h3, h4⟩
          have hown2 := hown.same _ _ _ _ (SameIn.upto hself (by have := HLT.out; have := hup0.size; omega) (fun b hb => by have := HLT.out; simp at hb; omega))
          have htk : ∃ a n c, TkB ((((((wr.setCell ⟨w.heap.size + 1, 0, none⟩ (.int .i64 op)).setCell ⟨w.heap.size + 1, 1, none⟩ (.slice a1 n1 c1)).setCell ⟨w.heap.size + 1, 2, none⟩ (.int .i64 so)).setCell ⟨w.heap.size + 1, 3, none⟩ (.int .i64 nn)).setCell ⟨w.heap.size + 1, 4, none⟩ (.int .i64 mm)).setCell ⟨w.heap.size + 1, 5, none⟩ (.slice a2 i c2)) B a n c (apL l e tk).2 ∧ ∀ q, (Value.slice a n c).ownBlock = some q → (Value.slice ta tn tc).ownBlock = some q ∨ w.heap.size ≤ q := by
            obtain ⟨a, n, c, h1, h2⟩ := HKI.out.tk
            rw [HTL.out.1] at h1
            refine ⟨a, n, c, h1.upto hself ?_ ?_, fun q hq => ?_⟩
            · have := (HAT.out.tk.lt).1
              simp
              omega
            · intro q hq hm
              obtain ⟨cur, hh⟩ := ownsRow_block h1.row hq
              simp at hm
              rw [hm, HZ5.out] at hh
              injection hh with hh
              injection hh with _ h3
              cases h3
            · rcases h2 q hq with h3 | h3
              · exact HOW.out q h3
              · exact Or.inr (by have := HUW.out.size; omega)
          obtain ⟨q0, q1, q2, q3, q4, q5⟩ := cells6 hst
          refine bodyPost_ret (v := .agg #[.int .i64 op, .slice a1 n1 c1, .int .i64 so, .int .i64 nn, .int .i64 mm, .slice a2 i c2]) (by simp [results, Tryz.results64, go_sem, q0, q1, q2, q3, q4, q5]) rfl ?_
          rw [HGO.out]
          exact ⟨rfl, hown2, htk, hup⟩
end Go.Proofs.YtbnebkkpmcjmbaaGreatDoor


namespace Go.Proofs.YtbnebkkpmcjmbaaGreatDoor
open Go.RowKit Go.PL Go.Maps
set_option maxRecDepth 100000 in
set_option maxHeartbeats 25600000 in
theorem aq_bind_calls (w0 : World) (hE0 : Env w0) (hP0 : PowT w0) (d : Nat) (IH : AqH w0 d) (op so nn mm : Int) (nms : List (List UInt8)) (l : List Nd) (b : List UInt8) (hnm : nms = [b]) (v : Value) (lo hi : Nat) (e : EnvL) (mb : Nat) (tk : List (List UInt8)) (B : Nat) (ta : Option Addr) (tn tc : Nat) (w : World)
    (hb : bindsF op nms.length = true) (hown : OwT w (.mk op nms so nn mm l) v lo hi) (hok : AqOk (d + 1) (.mk op nms so nn mm l) e tk) (hat : AqAt w0 w lo hi e mb tk B ta tn tc) :
    Calls Tryz.prog 64 #[v, .map (some mb), .pointer (some ⟨B, 0, none⟩)] w (AqPost lo hi v (apN (.mk op nms so nn mm l) e tk) B (.slice ta tn tc) w) := by
  obtain ⟨s9, hs9⟩ : ∃ s9, s9 = freshG b tk := ⟨_, rfl⟩
  have HGO : Hid (apN (.mk op nms so nn mm l) e tk = (.mk op [s9] so nn mm (apL l ((b, s9) :: e) (tk ++ [s9])).1, (apL l ((b, s9) :: e) (tk ++ [s9])).2)) := Lib.hid (by
    unfold apN
    rw [if_pos hb, hnm, hs9]
    rfl)
  have hbn : nameF b = true := by
    have := (form_iff.1 hok.form).2.2.1
    rw [hnm] at this
    simpa using this
  have hfr := freshG_not (s := b) (tk := tk) hbn (by have := hok.room; omega)
  rw [← hs9] at hfr
  have HS9 := Lib.hid hfr
  have HBL : Hid (b.length ≤ maxLen) := Lib.hid (by have := name_len hbn; unfold maxLen; omega)
  have HFR : Hid (∀ (u : World) (P : Nat → Prop), Upto [] w0 u → SlP u P (.slice ta tn tc) tn (tk.map sV) → Calls Tryz.prog 18 #[.string ⟨b.toArray⟩, .slice ta tn tc] u fun r w' => r = .returned (.string ⟨s9.toArray⟩) ∧ Upto [] u w') := Lib.hid (fun u P hu hs => by
    have := freshPG_calls b tk (.slice ta tn tc) u P (by rw [hat.tk.len]; exact hs) (by have := hok.room; omega) (by have := name_len hbn; omega) (hE0.ext hu) (hP0.ext hu)
    rwa [← hs9] at this)
  clear hfr hs9 hbn
  have HKD : Hid (∀ x ∈ l, depthF x ≤ d ∧ formF nameF x = 0 ∧ nmsF x + sizeF x + 2 ≤ 8000) := Lib.hid (fun x hx => ⟨by
    have h1 := depths_mem hx
    have h2 := hok.deep
    simp only [depthF] at h2
    omega, forms_iff.1 (form_iff.1 hok.form).2.2.2.2.2 x hx, by
    have h1 := nmss_mem hx
    have h2 := sizesF_mem hx
    have h3 := hok.few
    simp only [nmsF, sizeF] at h3
    omega⟩)
  have HFS : Hid (formsF nameF l = 0) := Lib.hid (form_iff.1 hok.form).2.2.2.2.2
  have HRM : Hid (tk.length + (sizesF l + 1) ≤ 8000 ∧ ∀ p ∈ e, nameF p.2 = true) := Lib.hid ⟨by have h3 := hok.room; simp only [sizeF] at h3; omega, hok.names⟩
  have HNL : Hid (∀ x ∈ nms, x.length ≤ maxLen) := Lib.hid (fun x hx => by
    have h1 := List.all_eq_true.1 (form_iff.1 hok.form).2.2.1 x hx
    have := name_len h1
    unfold maxLen
    omega)
  obtain ⟨a1, c1, a2, c2, m, cs, o, g, rfl, hm1, hm2, hN, hK⟩ := hown.parts
  have hsl : ∀ u, NmT u nms (.slice a1 nms.length c1) lo m → SlP u (fun _ => True) (.slice a1 nms.length c1) nms.length (nms.map sV) := fun u hu => by simpa using NmT.slp hu
  have hln : nms.length ≤ 8000 := by have h3 := hok.few; simp only [nmsF] at h3; omega
  have hll : l.length ≤ 8000 := by have h1 := sizes_len l; have h3 := hok.few; simp only [sizeF] at h3; omega
  have hgd := (good_of _ hok.form).1
  unfold goodN at hgd
  have HUS : Hid (∀ u, NmT u nms (.slice a1 nms.length c1) lo m → Calls Tryz.prog 74 #[.agg #[.int .i64 op, .slice a1 nms.length c1, .int .i64 so, .int .i64 nn, .int .i64 mm, .slice a2 l.length c2]] u (UsA op nms a1 u)) := Lib.hid (fun u hu => usesA_calls (fun _ => True) op nms a1 c1 so nn mm a2 l.length c2 u (fun h10 => hgd.1 (Or.inl h10)) (hsl u hu) (by omega))
  have HBI : Hid (∀ u, Calls Tryz.prog 57 #[.agg #[.int .i64 op, .slice a1 nms.length c1, .int .i64 so, .int .i64 nn, .int .i64 mm, .slice a2 l.length c2]] u fun e w' => e = .returned (.bool true) ∧ Upto [] u w') := Lib.hid (fun u => by
    have := binds_calls op a1 nms.length c1 so nn mm a2 l.length c2 u
    rw [hb] at this
    exact this)
  have HUL : Hid ((usesF op nms).length ≤ 8000) := Lib.hid (by
    have h1 : (usesF op nms).length ≤ nms.length := by
      unfold usesF
      split
      · simp
      · split <;> simp
    omega)
  have HLT : Hid (hi ≤ w.heap.size ∧ lo ≤ m ∧ m ≤ hi) := Lib.hid ⟨hat.hiw, hm1, hm2⟩
  have IHH := Lib.hid IH
  have HAT := Lib.hid hat
  have HUB : Hid (usesF op nms = []) := Lib.hid (uses_binds hb)
  have HL1 : Hid (nms.length = 1) := Lib.hid (by rw [hnm]; rfl)
  have HNM := Lib.hid hnm
  obtain ⟨g1, o1, rfl⟩ : ∃ g1 o1, a1 = some ⟨g1, o1, none⟩ := by
    rcases hN with ⟨h0, -⟩ | ⟨g1, o1, c, cs, t, e, -⟩
    · rw [hnm] at h0; cases h0
    · simp only [Value.slice.injEq] at e
      exact ⟨g1, o1, e.1⟩
  obtain ⟨n2, hn2⟩ : ∃ n2, n2 = l.length := ⟨_, rfl⟩
  have HL2 : Hid (l.length = n2 ∧ n2 ≤ 8000) := Lib.hid ⟨hn2.symm, by omega⟩
  rw [HL1.out] at HUS HBI hN hsl ⊢
  rw [← hn2] at HUS HBI ⊢
  clear hsl hln hll hb hok hat hown hm1 hm2 hgd hn2 IH hnm
  obtain ⟨W, hW⟩ : ∃ W, W = (w.alloc (.cells #[.int .i64 op, .slice (some (⟨g1, o1, none⟩ : Addr)) 1 c1, .int .i64 so, .int .i64 nn, .int .i64 mm, .slice a2 n2 c2] 30)).alloc (.cells #[.int .i64 0, .slice none 0 0, .int .i64 0, .int .i64 0, .int .i64 0, .slice none 0 0] 30) := ⟨_, rfl⟩
  have HU : Hid (Upto [] w W) := Lib.hid (by rw [hW]; exact ((Upto.refl [] w).alloc _).alloc _)
  have HB1 : Hid (W.heap[w.heap.size]? = some (.cells #[.int .i64 op, .slice (some (⟨g1, o1, none⟩ : Addr)) 1 c1, .int .i64 so, .int .i64 nn, .int .i64 mm, .slice a2 n2 c2] 30 (0, 0))) := Lib.hid (by rw [hW]; exact alloc_old (new_at w _) _)
  have HB2 : Hid (W.heap[w.heap.size + 1]? = some (.cells #[.int .i64 0, .slice none 0 0, .int .i64 0, .int .i64 0, .int .i64 0, .slice none 0 0] 30 (0, 0))) := Lib.hid (by rw [hW]; exact new_at1 w _ _)
  have HN0 := Lib.hid (hN.same (SameIn.upto HU.out (by have := HLT.out; omega) (by simp)))
  have HK0 := Lib.hid (hK.same (SameIn.upto HU.out (by have := HLT.out; omega) (by simp)))
  have HA0 := Lib.hid (HAT.out.ext HU.out)
  clear hN hK
  obtain ⟨x0, x1, x2, x3, x4, x5⟩ := cells6 HB1.out
  go_enter Tryz.func64, Tryz.ntmps64
  go_wp2_with fail
  simp only [← hW]
  clear hW
  try go_wp2_with fail
  refine (HUS.out _ HN0.out).mono ?_
  rintro r w3 ⟨vu, rfl, hu3, hv3⟩
  have HC3 := Lib.hid (hu3.at HB1.out (by simp))
  have HZ3 := Lib.hid (hu3.at HB2.out (by simp))
  have HU3 := Lib.hid (HU.out.trans_ext hu3)
  have HN3 := Lib.hid (HN0.out.same (SameIn.upto hu3 (by have := HLT.out; have := HU.out.size; omega) (by simp)))
  have HK3 := Lib.hid (HK0.out.same (SameIn.upto hu3 (by have := HLT.out; have := HU.out.size; omega) (by simp)))
  have HA3 := Lib.hid (HA0.out.ext hu3)
  obtain ⟨ua, uc, rfl⟩ : ∃ (ua : Option Addr) (uc : Nat), vu = .slice ua 0 uc := by
    rcases hv3 with ⟨h1, a, c, rfl⟩ | ⟨g, o, c, k, rfl, -⟩
    · exact ⟨a, c, rfl⟩
    · rw [HUB.out]
      exact ⟨_, c, rfl⟩
  clear hu3 hv3 x0 x1 x2 x3 x4 x5 HN0 HK0 HA0
  obtain ⟨x0, x1, x2, x3, x4, x5⟩ := cells6 HC3.out
  go_wp2_with fail
  go_loopw [19] (fun v wr => v = .int .i64 0 ∧ Hid (wr = w3)) (fun _ _ => 0)
  case atStart => exact ⟨rfl, Lib.hid rfl⟩
  case round =>
    obtain ⟨rfl, HW3⟩ := hrel
    obtain rfl := HW3.out
    go_wp2_with fail
    refine (HBI.out _).mono ?_
    rintro r w4 ⟨rfl, hu4⟩
    have HC4 := Lib.hid (hu4.at HC3.out (by simp))
    have HZ4 := Lib.hid (hu4.at HZ3.out (by simp))
    have HU4 := Lib.hid (HU3.out.trans_ext hu4)
    have HN4 := Lib.hid (HN3.out.same (SameIn.upto hu4 (by have := HLT.out; have := HU3.out.size; omega) (by simp)))
    have HK4 := Lib.hid (HK3.out.same (SameIn.upto hu4 (by have := HLT.out; have := HU3.out.size; omega) (by simp)))
    have HA4 := Lib.hid (HA3.out.ext hu4)
    clear hu4 x0 x1 x2 x3 x4 x5
    obtain ⟨x0, x1, x2, x3, x4, x5⟩ := cells6 HC4.out
    go_wp2_with fail
    have hn0 := (HN4.out.cell (j := 0) (x := b) (by rw [HNM.out]; rfl)).1
    rw [Nat.add_zero] at hn0
    unfold sV at hn0
    have hbx := cell_of HA4.out.tk.box 0
    simp only [List.getElem?_toArray, List.getElem?_cons_zero] at hbx
    have ex1 : ∀ u : Ext w4, u.w.cell? ⟨w.heap.size, 1, none⟩ = some (.slice (some ⟨g1, o1, none⟩) 1 c1) := fun u => u.cell x1
    have ec0 : ∀ u : Ext w4, u.w.cell? ⟨g1, o1, none⟩ = some (.string ⟨b.toArray⟩) := fun u => u.cell hn0
    have eb0 : ∀ u : Ext w4, u.w.cell? ⟨B, 0, none⟩ = some (.slice ta tn tc) := fun u => u.cell hbx
    have HFQ := Lib.hid (fun u (hu : Upto [] w4 u) => HFR.out u (fun _ => True) (HA4.out.up.trans_ext hu) ((SlP.of_row HA4.out.tk.row (fun _ _ => trivial)).ext hu))
    clear hn0 hbx x0 x1 x2 x3 x4 x5
    refine wp_region_seg_at [7] [] [0, 1, 2, 3, 4, 5, 6, 7] [8] 8 (by kernel_rfl) (by kernel_rfl) (by kernel_rfl) ?_
    iterate 7 (refine seg_plain rfl rfl rfl rfl rfl ?_; intro K' hK'; go_big_quiet_op; go_big_quiet_on)
    refine seg_call rfl rfl rfl rfl (fun w => by go_simp) (fun w hu hd => HFQ.out w hu) ?_
    simp only [Act.put, List.setIfInBounds_toArray, List.set_cons_zero, List.set_cons_succ]
    intro wa hg
    have HV5 := Lib.hid hg.up
    clear hg ex1 ec0 eb0
    have HC5 := Lib.hid (HV5.out.at HC4.out (by simp))
    have HZ5 := Lib.hid (HV5.out.at HZ4.out (by simp))
    have HU5 := Lib.hid (HU4.out.trans_ext HV5.out)
    have HN5 := Lib.hid (HN4.out.same (SameIn.upto HV5.out (by have := HLT.out; have := HU4.out.size; omega) (by simp)))
    have HK5 := Lib.hid (HK4.out.same (SameIn.upto HV5.out (by have := HLT.out; have := HU4.out.size; omega) (by simp)))
    have HA5 := Lib.hid (HA4.out.ext HV5.out)
    have HWA : Hid (w.heap.size + 1 < wa.heap.size) := Lib.hid (lt_of_heap HZ5.out)
    clear HC4 HZ4 HU4 HN4 HK4 HA4 HC3 HZ3 HU3 HN3 HK3 HA3
    simp only [List.drop_succ_cons, List.drop_zero]
    obtain ⟨i0, hi0, hz0, hz1, hz2⟩ := info9'
    have HB5 := Lib.hid (HA5.out.tk.ext ((Upto.refl [] wa).alloc (.cells #[.string ⟨s9.toArray⟩] 9)))
    have hbx : (wa.alloc (.cells #[.string ⟨s9.toArray⟩] 9)).cell? ⟨B, 0, none⟩ = some (.slice ta tn tc) := by have := cell_of HB5.out.box 0; simpa using this
    have hbx0 : wa.cell? ⟨B, 0, none⟩ = some (.slice ta tn tc) := by have := cell_of HA5.out.tk.box 0; simpa using this
    have hrow := HB5.out.row
    have hsrc := cells_at (l := [sV s9]) (new_at wa (.cells #[.string ⟨s9.toArray⟩] 9))
    have HTN : Hid (tn ≤ 8000 ∧ tk.length = tn) := Lib.hid ⟨by have h1 := HRM.out.1; have h2 := HAT.out.tk.len; omega, HAT.out.tk.len⟩
    have hT1 := HTN.out.1
    go_wp2_with (at_builtin; refine wpList_app _ rfl (.tmp 49) (.tmp 51) 22 rfl 9 i0 (.string ⟨#[]⟩) 1 16 Tryz.underlying22 hi0 hz0 hz1 hz2 rfl (by decide) (.slice ta tn tc) tn _ rfl hrow ⟨wa.heap.size, 0, none⟩ 1 1 [sV s9] rfl rfl hsrc (by simp [Value.oneCell', sV]) (by unfold maxLen; omega) (by omega) ?_; intro vb vd wb ho hu hw; have HAP := Lib.hid (And.intro ho (And.intro hu hw)); have HBB : Hid (wb.heap[B]? = some (.cells #[.slice ta tn tc] 22 (0, 0))) := Lib.hid (hu.at HB5.out.box (fun hm => (HB5.out.lt.2 B (Option.mem_toList.1 hm)).2 rfl)); have hcb := cell_of HBB.out 0; simp only [List.getElem?_toArray, List.getElem?_cons_zero] at hcb; have hfb := free_of HBB.out 0; clear ho hu hw hbx hbx0 hrow hsrc)
    obtain ⟨wc, hwc⟩ : ∃ wc, wc = wb.setCell ⟨B, 0, none⟩ (.slice vb (tn + 1) vd) := ⟨_, rfl⟩
    simp only [← hwc]
    clear hcb hfb
    have HSC : Hid (Upto [B] wb wc) := Lib.hid (by rw [hwc]; exact (Upto.refl [B] wb).setCell (p := ⟨B, 0, none⟩) (Or.inl (by simp)) _)
    have HZC : Hid (wc.heap.size = wb.heap.size) := Lib.hid (by rw [hwc]; simp [World.setCell])
    have HOB : Hid (∀ q, (Value.slice vb (tn + 1) vd).ownBlock = some q → (Value.slice ta tn tc).ownBlock = some q ∨ wa.heap.size ≤ q) := Lib.hid (fun q hq => (HAP.out.2.2 q hq).imp id (fun h2 => by have h3 := alloc_size1 wa (.cells #[.string ⟨s9.toArray⟩] 9); omega))
    have HTC : Hid (TkB wc B vb (tn + 1) vd (tk ++ [s9])) := Lib.hid ⟨by rw [hwc]; have := set_same HBB.out 0 (.slice vb (tn + 1) vd); simpa using this, by
      have h1 := ownsRow_upto HAP.out.1 HSC.out (fun q hq hm => by
        simp at hm
        rcases HOB.out q hq with h2 | h2
        · exact (HA5.out.tk.lt.2 q h2).2 hm
        · have := HA5.out.tk.lt.1; omega)
      rwa [List.map_append], by rw [List.length_append, List.length_singleton, HTN.out.2]⟩
    have HUC : Hid (Upto (B :: (Value.slice ta tn tc).ownBlock.toList) wa wc) := Lib.hid ((((Upto.refl [] wa).alloc (.cells #[.string ⟨s9.toArray⟩] 9)).mono (S' := B :: (Value.slice ta tn tc).ownBlock.toList) (by simp)).trans HAP.out.2.1 (fun b hb => Or.inl (List.mem_cons_of_mem _ hb)) |>.trans HSC.out (fun b hb => Or.inl (by simp at hb; simp [hb])))
    have HMX : Hid (mb ∉ B :: (Value.slice ta tn tc).ownBlock.toList) := Lib.hid (fun hm => by
      rcases List.mem_cons.1 hm with hm | hm
      · exact HA5.out.env.ne HA5.out.tk.box hm
      · obtain ⟨cur, hh⟩ := ownsRow_block HA5.out.tk.row (Option.mem_toList.1 hm)
        exact HA5.out.env.ne hh rfl)
    obtain ⟨es, clock, hmo, hmn⟩ := (HA5.out.env.upto HUC.out HMX.out).obj
    have HMN := Lib.hid hmn
    clear hwc hmn
    refine (mcloneT_calls mb es clock wc hmo).mono ?_
    rintro r wd ⟨rfl, hwd⟩
    have HUD : Hid (Upto [] wc wd) := Lib.hid (by rw [hwd]; exact (Upto.refl [] wc).alloc _)
    have HED : Hid (EnvM wd wc.heap.size e) := Lib.hid (HMN.out wd _ (by rw [hwd]; exact new_at wc _))
    have HMD : Hid (wc.heap.size < wd.heap.size) := Lib.hid (by rw [hwd]; show _ < (wc.heap.push _).size; simp)
    have HOC0 : Hid (∀ b cs z, wa.heap[b]? = some (.cells cs 30 z) → hi ≤ b → b ∉ B :: (Value.slice ta tn tc).ownBlock.toList) := Lib.hid (fun b cs z hb ho hm => HA5.out.tk.off (lo := lo) (hi := hi) hb (Or.inr ho) (by rw [mem_sq]; rcases List.mem_cons.1 hm with hm | hm; exact Or.inr (Or.inl hm); exact Or.inr (Or.inr (Option.mem_toList.1 hm))))
    have HSO : Hid (∀ b ∈ B :: (Value.slice ta tn tc).ownBlock.toList, b < lo ∨ hi ≤ b) := Lib.hid (fun b hm => by
      rcases List.mem_cons.1 hm with hm | hm
      · rw [hm]; exact HA5.out.bo.1
      · exact (HA5.out.so b (Option.mem_toList.1 hm)).1)
    have HUAD := Lib.hid (HUC.out.trans_ext HUD.out)
    have HCD := Lib.hid (HUAD.out.at HC5.out (HOC0.out _ _ _ HC5.out (by have := HLT.out; omega)))
    have HND := Lib.hid (HN5.out.same (SameIn.upto HUAD.out (by have := HLT.out; have := HU5.out.size; omega) (fun b hb => by have := HSO.out b hb; have := HLT.out; omega)))
    have hn0 := (HND.out.cell (j := 0) (x := b) (by rw [HNM.out]; rfl)).1
    rw [Nat.add_zero] at hn0
    unfold sV at hn0
    have x1 := cell_of HCD.out 1
    simp only [List.getElem?_toArray, List.getElem?_cons_zero, List.getElem?_cons_succ] at x1
    have hED := HED.out
    have hBL := HBL.out
    clear hwd hmo
    go_wp2_with (refine wpList_env _ rfl _ _ _ rfl wc.heap.size e rfl hED b s9 rfl rfl hBL ?_; intro we he9 hg9; have HEE := Lib.hid he9; have HGE := Lib.hid ((Upto.refl [wc.heap.size] wd).grown hg9 (fun k hk => by cases hk; simp)); have HCE := Lib.hid (HGE.out.at HCD.out (by have := HWA.out; have := HUC.out.size; simp; omega)); have HNE := Lib.hid (HND.out.same (SameIn.upto HGE.out (by have := HLT.out; have := HU5.out.size; have := HUAD.out.size; omega) (fun b hb => by have := HLT.out; have := HU5.out.size; have := HUC.out.size; simp at hb; omega))); clear x1 hn0 hED; have hn1 := HNE.out.cell (j := 0) (x := b) (by rw [HNM.out]; rfl); rw [Nat.add_zero] at hn1; have hn0 := hn1.1; have hnf := hn1.2.1; have HG1 := Lib.hid hn1.2.2; unfold sV at hn0; have x1 := cell_of HCE.out 1; have x5 := cell_of HCE.out 5; simp only [List.getElem?_toArray, List.getElem?_cons_zero, List.getElem?_cons_succ] at x1 x5; have hg1 : g1 ≠ w.heap.size := (by have := HG1.out; have := HLT.out; omega); have hg2 : w.heap.size ≠ g1 := Ne.symm hg1; clear hn1 he9 hg9)
    obtain ⟨w5, hw5⟩ : ∃ w5, w5 = we.setCell ⟨g1, o1, none⟩ (.string ⟨s9.toArray⟩) := ⟨_, rfl⟩
    try simp only [← hw5]
    clear x1 x5 hn0 hnf hg1 hg2
    have HS5 : Hid (Upto [g1] we w5) := Lib.hid (by rw [hw5]; exact (Upto.refl [g1] we).setCell (p := ⟨g1, o1, none⟩) (Or.inl (by simp)) _)
    have HJN : Hid (NmT w5 [s9] (.slice (some ⟨g1, o1, none⟩) 1 c1) lo m) := Lib.hid (by
      have h1 := NmT.set (x := s9) (j := 0) (by rw [HL1.out]; exact HNE.out) (by rw [HL1.out]; omega)
      rw [HL1.out, Nat.add_zero] at h1
      rw [hw5]
      have h2 : nms.set 0 s9 = [s9] := by rw [HNM.out]; rfl
      rw [h2] at h1
      exact h1)
    clear hw5
    have HGB : Hid (lo ≤ g1 ∧ g1 < m) := HG1
    have HUAE : Hid (Upto (B :: (Value.slice ta tn tc).ownBlock.toList) wa we) := Lib.hid (HUAD.out.trans HGE.out (fun b hb => Or.inr (by have := HUC.out.size; simp at hb; omega)))
    have HC4 := Lib.hid (HS5.out.at HCE.out (by have := HGB.out; have := HLT.out; simp; omega))
    have HZ4 := Lib.hid (HS5.out.at (HUAE.out.at HZ5.out (HOC0.out _ _ _ HZ5.out (by have := HLT.out; omega))) (by have := HGB.out; have := HLT.out; simp; omega))
    have HK4 := Lib.hid ((HK5.out.same (SameIn.upto HUAE.out (by have := HLT.out; have := HU5.out.size; omega) (fun b hb => by have := HSO.out b hb; have := HLT.out; omega))).same (SameIn.upto HS5.out (by have := HLT.out; have := HU5.out.size; have := HUAE.out.size; omega) (fun b hb => by have := HGB.out; simp at hb; omega)))
    have HUW : Hid (Upto (Sq lo hi B (.slice ta tn tc)) w w5) := Lib.hid ((((HU5.out.mono (S := []) (S' := Sq lo hi B (.slice ta tn tc)) (by simp)).trans HUAE.out (fun b hb => Or.inl (by rw [mem_sq]; rcases List.mem_cons.1 hb with hb | hb; exact Or.inr (Or.inl hb); exact Or.inr (Or.inr (Option.mem_toList.1 hb))))).trans HS5.out (fun b hb => Or.inl (by rw [mem_sq]; have := HGB.out; have := HLT.out; simp at hb; exact Or.inl (by omega)))))
    have HSZ5 : Hid (wa.heap.size ≤ wc.heap.size ∧ wc.heap.size < we.heap.size ∧ we.heap.size ≤ w5.heap.size) := Lib.hid ⟨HUC.out.size, by have := HMD.out; have := HGE.out.size; omega, HS5.out.size⟩
    have HOW : Hid (∀ q, (Value.slice vb (tn + 1) vd).ownBlock = some q → (Value.slice ta tn tc).ownBlock = some q ∨ w.heap.size ≤ q) := Lib.hid (fun q hq => (HOB.out q hq).imp id (fun h2 => by have := HU5.out.size; omega))
    have HOL : Hid (∀ q, (Value.slice vb (tn + 1) vd).ownBlock = some q → q < wc.heap.size ∧ (q < lo ∨ hi ≤ q) ∧ w0.heap.size ≤ q) := Lib.hid (fun q hq => ⟨(HTC.out.lt.2 q hq).1, by
      rcases HOB.out q hq with h2 | h2
      · exact HAT.out.so q h2
      · have := HLT.out; have := HU5.out.size; have := HAT.out.up.size; exact ⟨Or.inr (by omega), by omega⟩⟩)
    have HA4 : Hid (AqAt w0 w5 m hi ((b, s9) :: e) wc.heap.size (tk ++ [s9]) B vb (tn + 1) vd) := Lib.hid ⟨by have := HLT.out; have := HUW.out.size; omega, by have := HAT.out.low; have := HLT.out; omega, HAT.out.up.trans HUW.out (fun b hb => Or.inr (by
        rw [mem_sq] at hb
        rcases hb with hb | hb | hb
        · have := HAT.out.low; omega
        · rw [hb]; exact HAT.out.bo.2
        · exact (HAT.out.so b hb).2)), HEE.out.upto HS5.out (by have := HGB.out; have := HLT.out; have := HU5.out.size; have := HSZ5.out; simp; omega), Or.inr (by have := HLT.out; have := HU5.out.size; have := HSZ5.out; omega),
        (((HTC.out.ext HUD.out).upto HGE.out (by have := HTC.out.lt.1; simp; omega) (fun q hq hm => by have := (HOL.out q hq).1; simp at hm; omega)).upto HS5.out (by have := HAT.out.bo.1; have := HGB.out; have := HLT.out; simp; omega) (fun q hq hm => by have := (HOL.out q hq).2.1; have := HGB.out; have := HLT.out; simp at hm; omega)),
        ⟨by have := HAT.out.bo.1; have := HLT.out; omega, HAT.out.bo.2⟩, fun q hq => ⟨by have := (HOL.out q hq).2.1; have := HLT.out; omega, (HOL.out q hq).2.2⟩⟩
    have HNL2 : Hid (([s9] : List (List UInt8)).length = 1) := Lib.hid rfl
    have HRQ : Hid ((tk ++ [s9]).length + sizesF l ≤ 8000 ∧ ∀ p ∈ ((b, s9) :: e), nameF p.2 = true) := Lib.hid ⟨by rw [List.length_append, List.length_singleton]; have := HRM.out.1; omega, fun p hp => by
      rcases List.mem_cons.1 hp with rfl | hp
      · exact HS9.out.2
      · exact HRM.out.2 p hp⟩
    obtain ⟨x0, x1, x2, x3, x4, x5⟩ := cells6 HC4.out
    try go_wp2_with fail
    have hn2 := HL2.out.2
    have hn2I : (n2 : Int) ≤ 8000 := by omega
    go_loopw [69] (fun v wr => ∃ i : Nat, i ≤ n2 ∧ v = .int .i64 i ∧ Hid (KA w5 l ((b, s9) :: e) (tk ++ [s9]) a2 cs o g m hi B (.slice vb (tn + 1) vd) i wr)) (fun v _ => n2 - (intOf v).toNat)
    case atStart => exact ⟨0, by omega, rfl, Lib.hid (KA.start HK4.out HA4.out.tk)⟩
    case round =>
      obtain ⟨i, hi9, rfl, HKI⟩ := hrel
      have hi0 : (0 : Int) ≤ i := by omega
      have HOC : Hid (w.heap.size ∉ Sq m hi B (.slice vb (tn + 1) vd) ∧ w.heap.size + 1 ∉ Sq m hi B (.slice vb (tn + 1) vd)) := Lib.hid ⟨HA4.out.tk.off HC4.out (Or.inr (by have := HLT.out; omega)), HA4.out.tk.off HZ4.out (Or.inr (by have := HLT.out; omega))⟩
      have HC5 := Lib.hid (HKI.out.up.at HC4.out HOC.out.1)
      have HZ5 := Lib.hid (HKI.out.up.at HZ4.out HOC.out.2)
      clear x0 x1 x2 x3 x4 x5
      obtain ⟨x0, x1, x2, x3, x4, x5⟩ := cells6 HC5.out
      rcases Nat.lt_or_ge i n2 with hil | hig
      · have hilI : (i : Int) < n2 := by omega
        obtain ⟨x, hx⟩ : ∃ x, l[i]? = some x := ⟨l[i]'(by rw [HL2.out.1]; omega), List.getElem?_eq_getElem _⟩
        have hxm := HKD.out x (List.mem_of_getElem? hx)
        obtain ⟨v0, v1, v2, v3, v4, v5, k, q, ta6, tn6, tc6, ha2, hmg, hgh, ⟨t9, ht9⟩, hsix, hk1, hk2, hk3, hox, hokx, hatx, hout⟩ := HKI.out.step (d := d) hx HA4.out hxm.1 hxm.2.1 hxm.2.2 HFS.out HRQ.out.1 HRQ.out.2
        have HIN := Lib.hid (And.intro hox (And.intro hokx hatx))
        have HOUT := Lib.hid hout
        have HMG := Lib.hid (And.intro hmg hgh)
        obtain ⟨qo, b1, q1, e1, qs, qn, qm, b2, q2, e2, heq⟩ := (hox.ndv _ _ _ _).six
        obtain ⟨rfl, rfl, rfl, rfl, rfl, rfl⟩ : v0 = .int .i64 qo ∧ v1 = .slice b1 q1 e1 ∧ v2 = .int .i64 qs ∧ v3 = .int .i64 qn ∧ v4 = .int .i64 qm ∧ v5 = .slice b2 q2 e2 := by simpa using heq
        have HSX := Lib.hid hsix
        obtain ⟨l0, l1, l2, l3, l4, l5⟩ := hsix.cells ht9
        clear heq hx hxm hout hsix ht9 hox hokx hatx hmg hgh
        subst ha2
        go_wp2_with fail
        obtain ⟨W18, hW18⟩ : ∃ W18, W18 = wr.alloc (.cells #[.int .i64 qo, .slice b1 q1 e1, .int .i64 qs, .int .i64 qn, .int .i64 qm, .slice b2 q2 e2] 30) := ⟨_, rfl⟩
        have HA18 : Hid (Upto [] wr W18) := Lib.hid (by rw [hW18]; exact (Upto.refl [] wr).alloc _)
        have HL18 : Hid (W18.heap[wr.heap.size]? = some (.cells #[.int .i64 qo, .slice b1 q1 e1, .int .i64 qs, .int .i64 qn, .int .i64 qm, .slice b2 q2 e2] 30 (0, 0))) := Lib.hid (by rw [hW18]; exact new_at wr _)
        simp only [← hW18]
        have HP2 : Hid (Upto [] wr W18.drew) := Lib.hid HA18.out.drew
        have HC18 := Lib.hid (HA18.out.at HC5.out (by simp))
        clear hW18 x0 x1 x2 x3 x4 x5 l0 l1 l2 l3 l4 l5
        have x5 := cell_of HC18.out 5
        simp only [List.getElem?_toArray, List.getElem?_cons_zero, List.getElem?_cons_succ] at x5
        obtain ⟨y0, y1, y2, y3, y4, y5⟩ := cells6 HL18.out
        have HRM9 := Lib.hid (IHH.out x _ k q ((b, s9) :: e) wc.heap.size _ B ta6 tn6 tc6 W18.drew (OwT.same _ _ _ _ HIN.out.1 (SameIn.upto HP2.out (by have := HIN.out.2.2.hiw; omega) (by simp))) HIN.out.2.1 (HIN.out.2.2.ext HP2.out))
        go_region_with (refine HRM9.out.mono ?_
                        rintro r w20 hp20
                        obtain ⟨rfl, -⟩ := id hp20
                        have HJ20 := Lib.hid (HOUT.out _ _ HP2.out hp20)
                        have HC20 := Lib.hid (HJ20.out.1.up.at HC4.out HOC.out.1)
                        have z5 := cell_of HC20.out 5
                        simp only [List.getElem?_toArray, List.getElem?_cons_zero, List.getElem?_cons_succ] at z5
                        obtain ⟨t21, ht21⟩ := HJ20.out.2
                        have HT21 := Lib.hid ht21
                        clear ht21 hp20
                        obtain ⟨m0, m1, m2, m3, m4, m5⟩ := HSX.out.cells HT21.out
                        have f0 := free_of HT21.out (o + i * 6)
                        have f1 := free_of HT21.out (o + i * 6 + 1)
                        have f2 := free_of HT21.out (o + i * 6 + 2)
                        have f3 := free_of HT21.out (o + i * 6 + 3)
                        have f4 := free_of HT21.out (o + i * 6 + 4)
                        have f5 := free_of HT21.out (o + i * 6 + 5))
        all_goals
          simp only [HSX.out.same HT21.out]
          clear x5 y0 y1 y2 y3 y4 y5 z5 m0 m1 m2 m3 m4 m5 f0 f1 f2 f3 f4 f5
          go_wp2_with fail
          exact ⟨⟨i + 1, by omega, by simp, Lib.hid HJ20.out.1⟩, by simp [intOf]; omega⟩
      · obtain rfl : i = n2 := by omega
        obtain ⟨y0, y1, y2, y3, y4, y5⟩ := cells6 HZ5.out
        obtain ⟨f0, f1, f2, f3, f4, f5⟩ := frees6 HZ5.out
        go_wp2_with fail
        clear x0 x1 x2 x3 x4 x5 y0 y1 y2 y3 y4 y5 f0 f1 f2 f3 f4 f5
        have HTL : Hid (l.take i = l ∧ l.drop i = []) := Lib.hid ⟨by rw [← HL2.out.1, List.take_length], by rw [← HL2.out.1, List.drop_length]⟩
        have hst := nd_store HZ5.out (.int .i64 op) (.slice (some (⟨g1, o1, none⟩ : Addr)) 1 c1) (.int .i64 so) (.int .i64 nn) (.int .i64 mm) (.slice a2 i c2)
        have hself := nd_self wr (w.heap.size + 1) (.int .i64 op) (.slice (some (⟨g1, o1, none⟩ : Addr)) 1 c1) (.int .i64 so) (.int .i64 nn) (.int .i64 mm) (.slice a2 i c2)
        have hsq : ∀ b ∈ Sq m hi B (.slice vb (tn + 1) vd), b ∈ Sq lo hi B (.slice ta tn tc) ∨ w.heap.size ≤ b := fun b hb => by
          rw [mem_sq] at hb ⊢
          rcases hb with hb | hb | hb
          · exact Or.inl (Or.inl (by have := HLT.out; omega))
          · exact Or.inl (Or.inr (Or.inl hb))
          · exact (HOW.out b hb).imp (fun h2 => Or.inr (Or.inr h2)) id
        have hup0 : Upto (Sq lo hi B (.slice ta tn tc)) w wr := HUW.out.trans HKI.out.up hsq
        have hup := nd_up hup0 (B := w.heap.size + 1) (Or.inr (by omega)) (.int .i64 op) (.slice (some (⟨g1, o1, none⟩ : Addr)) 1 c1) (.int .i64 so) (.int .i64 nn) (.int .i64 mm) (.slice a2 i c2)
        have hsame : SameIn w5 wr lo m := SameIn.upto HKI.out.up (by have := HLT.out; have := HUW.out.size; omega) (fun b hb => by
          rw [mem_sq] at hb
          rcases hb with hb | hb | hb
          · exact Or.inr hb.1
          · have := HAT.out.bo.1; have := HLT.out; omega
          · rcases HOW.out b hb with h2 | h2
            · have := (HAT.out.so b h2).1; have := HLT.out; omega
            · have := HLT.out; omega)
        have hown : OwT wr (.mk op [s9] so nn mm (apL l ((b, s9) :: e) (tk ++ [s9])).1) (.agg #[.int .i64 op, .slice (some (⟨g1, o1, none⟩ : Addr)) 1 c1, .int .i64 so, .int .i64 nn, .int .i64 mm, .slice a2 i c2]) lo hi := by
          refine OwT.join (cs := cs) (o := o) (g := g) (m := m) HNL2.out (by rw [apL_len]; exact HL2.out.1) HLT.out.2.1 HLT.out.2.2 (HJN.out.same hsame) ?_
          rcases HKI.out.kd with h1 | ⟨h1, h2, h3, h4, h5⟩
          · refine Or.inl ?_
            rw [h1]
            unfold apL
            rfl
          · rw [HTL.out.1, HTL.out.2, List.append_nil] at h4
            exact Or.inr ⟨h1, h5, h2, h3, h4⟩
        have hown2 := hown.same _ _ _ _ (SameIn.upto hself (by have := HLT.out; have := hup0.size; omega) (fun b hb => by have := HLT.out; simp at hb; omega))
        have htk : ∃ a n c, TkB ((((((wr.setCell ⟨w.heap.size + 1, 0, none⟩ (.int .i64 op)).setCell ⟨w.heap.size + 1, 1, none⟩ (.slice (some (⟨g1, o1, none⟩ : Addr)) 1 c1)).setCell ⟨w.heap.size + 1, 2, none⟩ (.int .i64 so)).setCell ⟨w.heap.size + 1, 3, none⟩ (.int .i64 nn)).setCell ⟨w.heap.size + 1, 4, none⟩ (.int .i64 mm)).setCell ⟨w.heap.size + 1, 5, none⟩ (.slice a2 i c2)) B a n c (apL l ((b, s9) :: e) (tk ++ [s9])).2 ∧ ∀ q, (Value.slice a n c).ownBlock = some q → (Value.slice ta tn tc).ownBlock = some q ∨ w.heap.size ≤ q := by
          obtain ⟨a, n, c, h1, h2⟩ := HKI.out.tk
          rw [HTL.out.1] at h1
          refine ⟨a, n, c, h1.upto hself ?_ ?_, fun q hq => ?_⟩
          · have := (HAT.out.tk.lt).1
            simp
            omega
          · intro q hq hm
            obtain ⟨cur, hh⟩ := ownsRow_block h1.row hq
            simp at hm
            rw [hm, HZ5.out] at hh
            injection hh with hh
            injection hh with _ h3
            cases h3
          · rcases h2 q hq with h3 | h3
            · exact HOW.out q h3
            · exact Or.inr (by have := HUW.out.size; omega)
        obtain ⟨q0, q1, q2, q3, q4, q5⟩ := cells6 hst
        refine bodyPost_ret (v := .agg #[.int .i64 op, .slice (some (⟨g1, o1, none⟩ : Addr)) 1 c1, .int .i64 so, .int .i64 nn, .int .i64 mm, .slice a2 i c2]) (by simp [results, Tryz.results64, go_sem, q0, q1, q2, q3, q4, q5]) rfl ?_
        rw [HGO.out]
        exact ⟨rfl, hown2, htk, hup⟩
end Go.Proofs.YtbnebkkpmcjmbaaGreatDoor


namespace Go.Proofs.YtbnebkkpmcjmbaaGreatDoor
open Go.RowKit Go.PL Go.Maps
set_option maxRecDepth 100000 in
set_option maxHeartbeats 25600000 in
theorem ap_plain_calls (d : Nat) (IH : ApH d ApPost) (op so nn mm : Int) (nms : List (List UInt8)) (l : List Nd) (v : Value) (P Pt Qe : Nat → Prop) (e : EnvL) (tk : List (List UInt8)) (e1 e2 e3 ta : Option Addr) (f1 f2 f3 N tn tc : Nat) (w : World)
    (hb : bindsF op nms.length = false) (h : ApIn w (d + 1) P (.mk op nms so nn mm l) v e tk) (hE : EnvR w Qe e e1 f1 e2 f2 e3 f3 N) (htn : tk.length = tn) (hT : SlP w Pt (.slice ta tn tc) tn (tk.map sV)) :
    Calls Tryz.prog 65 #[v, .agg #[.slice e1 N f1, .slice e2 N f2, .slice e3 N f3], .slice ta tn tc] w (ApPost P Pt w (apN (.mk op nms so nn mm l) e tk)) := by
  obtain ⟨L9, hL9⟩ : ∃ L9, L9 = uAt op (lookE e) 0 nms := ⟨_, rfl⟩
  have HGO : Hid (apN (.mk op nms so nn mm l) e tk = (.mk op L9 so nn mm (apL l e tk).1, (apL l e tk).2)) := Lib.hid (by
    unfold apN
    rw [if_neg (by rw [hb]; simp), hL9, uAt_uses h.form hb])
  have HL9 : Hid (L9.length = nms.length ∧ ∀ j x, nms[j]? = some x → L9[j]? = some (if op ≠ 10 ∨ 0 < j then lookE e x else x)) := Lib.hid ⟨by rw [hL9, uAt_uses h.form hb, rnUses_len], fun j x hx => by
    rw [hL9]
    have := uAt_get op (lookE e) nms 0 j x hx
    rwa [Nat.zero_add] at this⟩
  clear hL9
  have HKD : Hid (∀ x ∈ l, depthF x ≤ d ∧ formF nameF x = 0 ∧ nmsF x + sizeF x + 2 ≤ 8000) := Lib.hid (fun x hx => ⟨by
    have h1 := depths_mem hx
    have h2 := h.deep
    simp only [depthF] at h2
    omega, forms_iff.1 (form_iff.1 h.form).2.2.2.2.2 x hx, by
    have h1 := nmss_mem hx
    have h2 := sizesF_mem hx
    have h3 := h.few
    simp only [nmsF, sizeF] at h3
    omega⟩)
  have HFS : Hid (formsF nameF l = 0) := Lib.hid (form_iff.1 h.form).2.2.2.2.2
  obtain ⟨a1, c1, a2, c2, rfl, hs, hls⟩ := (h.nd.mono (Q := fun b => P b ∧ b < w.heap.size) (fun b hb hl => ⟨hb, hl.lt⟩)).open
  have HS := Lib.hid hs
  have HLS := Lib.hid hls
  have HRM : Hid (tk.length + (sizesF l + 1) ≤ 8000 ∧ e.length + (d + 1) ≤ 8000 ∧ ∀ p ∈ e, nameF p.2 = true) := Lib.hid ⟨by have h3 := h.room; simp only [sizeF] at h3; omega, h.narrow, h.names⟩
  have hln : nms.length ≤ 8000 := by have h3 := h.few; simp only [nmsF] at h3; omega
  have hll : l.length ≤ 8000 := by have h1 := sizes_len l; have h3 := h.few; simp only [sizeF] at h3; omega
  have HLE : Hid (nms.length ≤ 8000 ∧ l.length ≤ 8000) := Lib.hid ⟨hln, hll⟩
  have HBI : Hid (∀ u, Calls Tryz.prog 48 #[.agg #[.int .i64 op, .slice a1 nms.length c1, .int .i64 so, .int .i64 nn, .int .i64 mm, .slice a2 l.length c2]] u fun e w' => e = .returned (.bool false) ∧ Upto [] u w') := Lib.hid (fun u => by
    have hg := (good_of _ h.form).1
    unfold goodN at hg
    have := bindsR_calls op a1 nms.length c1 so nn mm a2 l.length c2 u (fun h2 => hg.1 (Or.inr h2))
    rw [hb] at this
    exact this)
  have IHH := Lib.hid IH
  have HE0 := Lib.hid hE
  have HT0 := Lib.hid (hT.mono (Q := fun b => Pt b ∧ b < w.heap.size) (fun b hb hl => ⟨hb, hl.lt⟩))
  obtain ⟨n1, hn1⟩ : ∃ n1, n1 = nms.length := ⟨_, rfl⟩
  obtain ⟨n2, hn2⟩ : ∃ n2, n2 = l.length := ⟨_, rfl⟩
  have HN1 : Hid (nms.length = n1) := Lib.hid hn1.symm
  have HN2 : Hid (l.length = n2) := Lib.hid hn2.symm
  have HNN : Hid (e.length = N ∧ tk.length = tn) := Lib.hid ⟨hE.len, htn⟩
  have HFI : Hid (∀ (y : List UInt8) (u : World), Upto [] w u → Calls Tryz.prog 88 #[.agg #[.slice e1 N f1, .slice e2 N f2, .slice e3 N f3], .string ⟨y.toArray⟩] u fun r w' => r = .returned (.int .i64 (findF (e.reverse.map Prod.fst) y N)) ∧ Upto [] u w') := Lib.hid (fun y u hu => by
    have h1 := hE.from_.ext hu
    have hl : (e.reverse.map Prod.fst).length = N := by rw [List.length_map, List.length_reverse, hE.len]
    have h2 := find_calls (e.reverse.map Prod.fst) y e1 e2 e3 f1 N f2 N f3 u _ (by rw [hl]; exact h1) (by have := h.narrow; have := hE.len; omega)
    rwa [hl] at h2)
  rw [← hn1, ← hn2] at HBI HLE
  rw [← hn1] at HL9
  rw [← hn1] at HS
  rw [← hn1, ← hn2]
  have hI1 : (n1 : Int) ≤ 8000 := by have := HLE.out; omega
  have hI2 : (n2 : Int) ≤ 8000 := by have := HLE.out; omega
  have hI10 : (0 : Int) ≤ n1 := by omega
  have hI20 : (0 : Int) ≤ n2 := by omega
  clear hs hls h IH hln hll hn1 hn2 hb hE htn hT
  obtain ⟨i0, hi0, hz0, hz1, hz2⟩ := info9'
  have HI0 := Lib.hid hi0
  have HZ0 := Lib.hid hz0
  have HZ1' := Lib.hid hz1
  have HZ2' := Lib.hid hz2
  obtain ⟨i1, hi1, hy0, hy1, hy2⟩ := info54'
  have HI1 := Lib.hid hi1
  have HY0 := Lib.hid hy0
  have HY1' := Lib.hid hy1
  have HY2' := Lib.hid hy2
  clear hi0 hz0 hz1 hz2 hi1 hy0 hy1 hy2
  obtain ⟨W, hW⟩ : ∃ W, W = ((w.alloc (.cells #[.int .i64 op, .slice a1 n1 c1, .int .i64 so, .int .i64 nn, .int .i64 mm, .slice a2 n2 c2] 25)).alloc (.cells #[.slice e1 N f1, .slice e2 N f2, .slice e3 N f3] 95)).alloc (.cells #[.int .i64 0, .slice none 0 0, .int .i64 0, .int .i64 0, .int .i64 0, .slice none 0 0] 25) := ⟨_, rfl⟩
  have HU : Hid (Upto [] w W) := Lib.hid (by rw [hW]; exact (((Upto.refl [] w).alloc _).alloc _).alloc _)
  have HB1 : Hid (W.heap[w.heap.size]? = some (.cells #[.int .i64 op, .slice a1 n1 c1, .int .i64 so, .int .i64 nn, .int .i64 mm, .slice a2 n2 c2] 25 (0, 0))) := Lib.hid (by rw [hW]; exact alloc_old (alloc_old (new_at w _) _) _)
  have HBE : Hid (W.heap[w.heap.size + 1]? = some (.cells #[.slice e1 N f1, .slice e2 N f2, .slice e3 N f3] 95 (0, 0))) := Lib.hid (by rw [hW]; exact alloc_old (new_at1 w _ _) _)
  have HB2 : Hid (W.heap[w.heap.size + 1 + 1]? = some (.cells #[.int .i64 0, .slice none 0 0, .int .i64 0, .int .i64 0, .int .i64 0, .slice none 0 0] 25 (0, 0))) := Lib.hid (by rw [hW]; exact new_at2 w _ _ _)
  have HWZ : Hid (W.heap.size = w.heap.size + 3) := Lib.hid (by rw [hW]; show (((w.heap.push _).push _).push _).size = _; simp)
  obtain ⟨x0, x1, x2, x3, x4, x5⟩ := cells6 HB1.out
  go_enter Tryz.func65, Tryz.ntmps65
  go_wp2_with fail
  simp only [← hW]
  clear hW
  try go_wp2_with fail
  refine (HBI.out _).mono ?_
  rintro r w2 ⟨rfl, hu2⟩
  have HU2 := Lib.hid (HU.out.trans_ext hu2)
  have HC1 := Lib.hid (hu2.at HB1.out (by simp))
  have HCE := Lib.hid (hu2.at HBE.out (by simp))
  have HC2 := Lib.hid (hu2.at HB2.out (by simp))
  have HSZ2 : Hid (W.heap.size ≤ w2.heap.size) := Lib.hid hu2.size
  clear hu2 x0 x1 x2 x3 x4 x5
  obtain ⟨x0, x1, x2, x3, x4, x5⟩ := cells6 HC1.out
  go_wp2_with fail
  go_loopw [8, 10] (fun s i wr => ∃ (j : Nat) (va : Option Addr) (vc : Nat), j ≤ n1 ∧ i = .int .i64 j ∧ s = .slice va j vc ∧ Hid (TxI w2 (L9.take j) (.slice va j vc) wr)) (fun _ i _ => n1 - (intOf i).toNat)
  case atStart => exact ⟨0, none, 0, by omega, rfl, rfl, Lib.hid (by simpa using TxI.nil w2 w2 (Upto.refl _ _))⟩
  case round =>
    obtain ⟨j, va, vc, hj, rfl, rfl, HT⟩ := hrel
    have hj0 : (0 : Int) ≤ j := by omega
    have HBR := Lib.hid (HT.out.up.at HC1.out (by simp))
    have HER := Lib.hid (HT.out.up.at HCE.out (by simp))
    clear x0 x1 x2 x3 x4 x5
    obtain ⟨x0, x1, x2, x3, x4, x5⟩ := cells6 HBR.out
    obtain ⟨z0, z1, z2⟩ := cells3 HER.out
    rcases Nat.lt_or_ge j n1 with hlt | hge
    · have hjl : (j : Int) < n1 := by omega
      obtain ⟨x, hx⟩ : ∃ x, nms[j]? = some x := ⟨nms[j]'(by rw [HN1.out]; omega), List.getElem?_eq_getElem _⟩
      obtain ⟨g9, o9, hva1, hcell⟩ := slp_cell HS.out HN1.out j x hx
      have hc0 := hcell wr (HU2.out.trans_ext HT.out.up)
      have HQ9 := Lib.hid (HL9.out.2 j x hx)
      have HLJ : Hid ((L9.take j).length = j) := Lib.hid (by rw [List.length_take, HL9.out.1]; omega)
      clear hx hcell
      subst hva1
      go_wp2_with fail
      refine (HFI.out x _ (HU2.out.trans_ext HT.out.up)).mono ?_
      rintro r w5 ⟨rfl, hu5⟩
      have HTX := Lib.hid (HT.out.ext hu5)
      have HBQ := Lib.hid (hu5.at HBR.out (by simp))
      have HEQ := Lib.hid (hu5.at HER.out (by simp))
      clear hu5 x0 x1 x2 x3 x4 x5 z0 z1 z2 hc0
      obtain ⟨x0, x1, x2, x3, x4, x5⟩ := cells6 HBQ.out
      obtain ⟨z0, z1, z2⟩ := cells3 HEQ.out
      have hfl := find_look e x
      rw [HNN.out.1] at hfl
      rcases hfl with ⟨hk1, hk2⟩ | ⟨k, hk0, hk1, hk2⟩
      · rw [hk1]
        have HY9 : Hid (L9[j]? = some x) := Lib.hid (by rw [HQ9.out, hk2, ite_self])
        clear hk1 hk2
        have hrow2 := (HTX.out.ext ((Upto.refl [] _).alloc (.cells #[.string ⟨x.toArray⟩] 9))).row
        rw [HLJ.out] at hrow2
        have hsrc2 := cells_at (l := [sV x]) (new_at w5 (.cells #[.string ⟨x.toArray⟩] 9))
        go_wp2_with (at_builtin; refine wpList_app _ rfl (.tmp 70) (.tmp 72) 22 rfl 9 i0 (.string ⟨#[]⟩) 1 16 Tryz.underlying22 HI0.out HZ0.out HZ1'.out HZ2'.out rfl (by decide) (.slice va j vc) j _ rfl hrow2 ⟨w5.heap.size, 0, none⟩ 1 1 [sV x] rfl rfl hsrc2 (by simp [Value.oneCell', sV]) (by unfold maxLen; omega) (by omega) ?_; intro vb vd w12 ho hu hw; have HA := Lib.hid ((HTX.out.ext ((Upto.refl [] _).alloc (.cells #[.string ⟨x.toArray⟩] 9))).app HLJ.out ho hu hw); clear hrow2 hsrc2 ho hu hw)
        exact ⟨⟨j + 1, vb, vd, by omega, by simp, rfl, Lib.hid (by rw [take_app1 L9 j _ HY9.out]; exact HA.out)⟩, by simp [intOf]; omega⟩
      · rw [hk1]
        have hkI0 : (0 : Int) ≤ (k : Int) := by omega
        have hkN : (k : Int) < N := by omega
        obtain ⟨g7, o7, hva7, hcell7⟩ := slp_cell HE0.out.to_ (by rw [List.length_map, List.length_reverse, HNN.out.1]) k _ hk2
        have hc7 := hcell7 w5 (HU2.out.trans_ext HTX.out.up)
        clear hk1 hk2 hcell7
        subst hva7
        generalize hyy : lookE e x = y at *
        by_cases h10 : op = 10
        · have h10b : (op != 10) = false := by rw [h10]; rfl
          have H10 := Lib.hid h10
          clear h10
          rcases Nat.eq_zero_or_pos j with hj1 | hj1
          · have hjn : ¬ (0 : Int) < j := by omega
            have HY9 : Hid (L9[j]? = some x) := Lib.hid (by rw [HQ9.out, if_neg (by rintro (h | h); exact h H10.out; omega)])
            clear hj1
            have hrow2 := (HTX.out.ext ((Upto.refl [] _).alloc (.cells #[.string ⟨x.toArray⟩] 9))).row
            rw [HLJ.out] at hrow2
            have hsrc2 := cells_at (l := [sV x]) (new_at w5 (.cells #[.string ⟨x.toArray⟩] 9))
            go_wp2_with (at_builtin; refine wpList_app _ rfl (.tmp 70) (.tmp 72) 22 rfl 9 i0 (.string ⟨#[]⟩) 1 16 Tryz.underlying22 HI0.out HZ0.out HZ1'.out HZ2'.out rfl (by decide) (.slice va j vc) j _ rfl hrow2 ⟨w5.heap.size, 0, none⟩ 1 1 [sV x] rfl rfl hsrc2 (by simp [Value.oneCell', sV]) (by unfold maxLen; omega) (by omega) ?_; intro vb vd w12 ho hu hw; have HA := Lib.hid ((HTX.out.ext ((Upto.refl [] _).alloc (.cells #[.string ⟨x.toArray⟩] 9))).app HLJ.out ho hu hw); clear hrow2 hsrc2 ho hu hw)
            exact ⟨⟨j + 1, vb, vd, by omega, by simp, rfl, Lib.hid (by rw [take_app1 L9 j _ HY9.out]; exact HA.out)⟩, by simp [intOf]; omega⟩
          · have hjp : (0 : Int) < j := by omega
            have HY9 : Hid (L9[j]? = some y) := Lib.hid (by rw [HQ9.out, if_pos (Or.inr hj1)])
            have hrow2 := (HTX.out.ext ((Upto.refl [] _).alloc (.cells #[.string ⟨y.toArray⟩] 9))).row
            rw [HLJ.out] at hrow2
            have hsrc2 := cells_at (l := [sV y]) (new_at w5 (.cells #[.string ⟨y.toArray⟩] 9))
            go_wp2_with (at_builtin; refine wpList_app _ rfl (.tmp 70) (.tmp 72) 22 rfl 9 i0 (.string ⟨#[]⟩) 1 16 Tryz.underlying22 HI0.out HZ0.out HZ1'.out HZ2'.out rfl (by decide) (.slice va j vc) j _ rfl hrow2 ⟨w5.heap.size, 0, none⟩ 1 1 [sV y] rfl rfl hsrc2 (by simp [Value.oneCell', sV]) (by unfold maxLen; omega) (by omega) ?_; intro vb vd w12 ho hu hw; have HA := Lib.hid ((HTX.out.ext ((Upto.refl [] _).alloc (.cells #[.string ⟨y.toArray⟩] 9))).app HLJ.out ho hu hw); clear hrow2 hsrc2 ho hu hw)
            exact ⟨⟨j + 1, vb, vd, by omega, by simp, rfl, Lib.hid (by rw [take_app1 L9 j _ HY9.out]; exact HA.out)⟩, by simp [intOf]; omega⟩
        · have h10b : (op != 10) = true := by simpa using h10
          have HY9 : Hid (L9[j]? = some y) := Lib.hid (by rw [HQ9.out, if_pos (Or.inl h10)])
          clear h10
          have hrow2 := (HTX.out.ext ((Upto.refl [] _).alloc (.cells #[.string ⟨y.toArray⟩] 9))).row
          rw [HLJ.out] at hrow2
          have hsrc2 := cells_at (l := [sV y]) (new_at w5 (.cells #[.string ⟨y.toArray⟩] 9))
          go_wp2_with (at_builtin; refine wpList_app _ rfl (.tmp 70) (.tmp 72) 22 rfl 9 i0 (.string ⟨#[]⟩) 1 16 Tryz.underlying22 HI0.out HZ0.out HZ1'.out HZ2'.out rfl (by decide) (.slice va j vc) j _ rfl hrow2 ⟨w5.heap.size, 0, none⟩ 1 1 [sV y] rfl rfl hsrc2 (by simp [Value.oneCell', sV]) (by unfold maxLen; omega) (by omega) ?_; intro vb vd w12 ho hu hw; have HA := Lib.hid ((HTX.out.ext ((Upto.refl [] _).alloc (.cells #[.string ⟨y.toArray⟩] 9))).app HLJ.out ho hu hw); clear hrow2 hsrc2 ho hu hw)
          exact ⟨⟨j + 1, vb, vd, by omega, by simp, rfl, Lib.hid (by rw [take_app1 L9 j _ HY9.out]; exact HA.out)⟩, by simp [intOf]; omega⟩
    · obtain rfl : j = n1 := by omega
      have HTL : Hid (L9.take j = L9) := Lib.hid (by rw [← HL9.out.1, List.take_length])
      rw [HTL.out] at HT
      obtain ⟨w4, hw4⟩ : ∃ w4, w4 = wr := ⟨_, rfl⟩
      subst hw4
      have HNM4 : Hid (SlP w4 (fun b => (P b ∧ b < w.heap.size) ∨ W.heap.size ≤ b) (.slice va j vc) j (L9.map sV)) := Lib.hid (by
        have := SlP.of_row (P := fun b => (P b ∧ b < w.heap.size) ∨ W.heap.size ≤ b) HT.out.row (fun g hg => Or.inr (Nat.le_trans HSZ2.out (HT.out.own g hg)))
        rwa [HL9.out.1] at this)
      have HB4 := HBR
      have HB4E := HER
      have HZ4 := Lib.hid (HT.out.up.at HC2.out (by simp))
      have HU4 := Lib.hid (HU2.out.trans_ext HT.out.up)
      have HW4 : Hid (W.heap.size ≤ w4.heap.size) := Lib.hid (Nat.le_trans HSZ2.out HT.out.up.size)
      have HEV := Lib.hid (HE0.out.ext HU4.out)
      have HLN : Hid (L9.length = j) := Lib.hid HL9.out.1
      have HMI2 : Hid ((apL l e tk).1.length = n2) := Lib.hid (by rw [apL_len, HN2.out])
      have HRQ : Hid (tk.length + sizesF l ≤ 8000 ∧ e.length + d ≤ 8000 ∧ ∀ p ∈ e, nameF p.2 = true) := Lib.hid ⟨by have := HRM.out.1; omega, by have := HRM.out.2.1; omega, HRM.out.2.2⟩
      have HTK : Hid (tk.length = tn ∧ SlP w4 (fun b => (Pt b ∧ b < w.heap.size) ∨ W.heap.size ≤ b) (.slice ta tn tc) tn (tk.map sV)) := Lib.hid ⟨HNN.out.2, (HT0.out.ext HU4.out).mono (fun b hb _ => Or.inl hb)⟩
      go_wp2_with fail
      go_loopw [2, 13, 14] (fun tv s k wr => ∃ (i : Nat) (va2 : Option Addr) (vc2 : Nat) (c : Nat → Nat → Value) (ta9 : Option Addr) (tn9 tc9 : Nat), i ≤ n2 ∧ k = .int .i64 i ∧ s = .slice va2 i vc2 ∧ tv = .slice ta9 tn9 tc9 ∧ Hid ((apL (l.take i) e tk).2.length = tn9) ∧ Hid (SlP wr (fun b => ((Pt b ∧ b < w.heap.size) ∨ W.heap.size ≤ b) ∧ (Value.slice va2 i vc2).ownBlock ≠ some b) (.slice ta9 tn9 tc9) tn9 ((apL (l.take i) e tk).2.map sV)) ∧ Hid (Upto [] w4 wr) ∧ Hid (AnRow (fun b => (P b ∧ b < w.heap.size) ∨ W.heap.size ≤ b) w4 wr c (.slice va2 i vc2) (apL (l.take i) e tk).1)) (fun _ _ k _ => n2 - (intOf k).toNat)
      case atStart => exact ⟨0, none, 0, fun _ _ => .bool false, ta, tn, tc, by omega, rfl, rfl, rfl, Lib.hid (by rw [List.take_zero]; unfold apL; exact HTK.out.1), Lib.hid (by rw [List.take_zero]; unfold apL; exact HTK.out.2.mono (fun b hb _ => ⟨hb, by simp [Value.ownBlock]⟩)), Lib.hid (Upto.refl _ _), Lib.hid (by rw [List.take_zero]; unfold apL; exact AnRow.nil _ _ _ _)⟩
      case round =>
        obtain ⟨i, va2, vc2, c, ta9, tn9, tc9, hi, rfl, rfl, rfl, HTN, HTS, HUW, HRW⟩ := hrel
        have hi0 : (0 : Int) ≤ i := by omega
        have HBW := Lib.hid (HUW.out.at HB4.out (by simp))
        have HEW := Lib.hid (HUW.out.at HB4E.out (by simp))
        have HMI : Hid ((apL (l.take i) e tk).1.length = i) := Lib.hid (by rw [apL_len, List.length_take, HN2.out]; omega)
        clear x0 x1 x2 x3 x4 x5 z0 z1 z2
        rcases Nat.lt_or_ge i n2 with hlt2 | hge2
        · have hil : (i : Int) < n2 := by omega
          have x5 := cell_of HBW.out 5
          simp only [List.getElem?_toArray, List.getElem?_cons_zero, List.getElem?_cons_succ] at x5
          obtain ⟨x, hx⟩ : ∃ x, l[i]? = some x := ⟨l[i]'(by rw [HN2.out]; omega), List.getElem?_eq_getElem _⟩
          obtain ⟨g, o, xo, xa1, xn1, xc1, xs, xn, xm, xa2, xn2, xc2, hva2, d0, d1, d2, d3, d4, d5, hnx⟩ := HLS.out i x hx
          have hw := HU4.out.trans_ext HUW.out
          replace d0 := up_cell hw d0
          replace d1 := up_cell hw d1
          replace d2 := up_cell hw d2
          replace d3 := up_cell hw d3
          replace d4 := up_cell hw d4
          replace d5 := up_cell hw d5
          have HXD := Lib.hid (HKD.out x (List.mem_of_getElem? hx))
          have HTM := Lib.hid (apL_take hx e tk)
          have HRX := Lib.hid (apL_room hx HFS.out HRQ.out.2.2 HRQ.out.1)
          have HC := Lib.hid (fun u (hu : Upto [] wr u) => (IHH.out x (.agg #[.int .i64 xo, .slice xa1 xn1 xc1, .int .i64 xs, .int .i64 xn, .int .i64 xm, .slice xa2 xn2 xc2]) (fun b => P b ∧ b < w.heap.size) (fun b => (((Pt b ∧ b < w.heap.size) ∨ W.heap.size ≤ b) ∧ (Value.slice va2 i vc2).ownBlock ≠ some b) ∧ b < wr.heap.size) _ e (apL (l.take i) e tk).2 e1 e2 e3 ta9 f1 f2 f3 N tn9 tc9 u ⟨(hnx.ext hw).ext hu, HXD.out.1, HXD.out.2.1, HXD.out.2.2, HRX.out, HRQ.out.2.1, HRQ.out.2.2⟩ ((HEV.out.ext HUW.out).ext hu) HTN.out ((HTS.out.mono (fun b hb hl => ⟨hb, hl.lt⟩)).ext hu)))
          clear hnx hw hx
          subst hva2
          obtain ⟨z0, z1, z2⟩ := cells3 HEW.out
          go_wp2_with fail
          have ex : ∀ u : Ext wr, u.w.cell? ⟨w.heap.size, 5, none⟩ = some (.slice (some ⟨g, o, none⟩) n2 c2) := fun u => u.cell x5
          have k0 : ∀ u : Ext wr, u.w.cell? ⟨g, o + i * 6, none⟩ = some _ := fun u => u.cell d0
          have k1 : ∀ u : Ext wr, u.w.cell? ⟨g, o + i * 6 + 1, none⟩ = some _ := fun u => u.cell d1
          have k2 : ∀ u : Ext wr, u.w.cell? ⟨g, o + i * 6 + 2, none⟩ = some _ := fun u => u.cell d2
          have k3 : ∀ u : Ext wr, u.w.cell? ⟨g, o + i * 6 + 3, none⟩ = some _ := fun u => u.cell d3
          have k4 : ∀ u : Ext wr, u.w.cell? ⟨g, o + i * 6 + 4, none⟩ = some _ := fun u => u.cell d4
          have k5 : ∀ u : Ext wr, u.w.cell? ⟨g, o + i * 6 + 5, none⟩ = some _ := fun u => u.cell d5
          have m0 : ∀ u : Ext wr, u.w.cell? ⟨w.heap.size + 1, 0, none⟩ = some _ := fun u => u.cell z0
          have m1 : ∀ u : Ext wr, u.w.cell? ⟨w.heap.size + 1, 1, none⟩ = some _ := fun u => u.cell z1
          have m2 : ∀ u : Ext wr, u.w.cell? ⟨w.heap.size + 1, 2, none⟩ = some _ := fun u => u.cell z2
          clear x5 d0 d1 d2 d3 d4 d5 z0 z1 z2
          refine wp_region_noPanic ?_
          refine wp_region_seg4_at [7] [11] [10] [0, 1, 2, 3, 4, 5, 6, 7, 8, 9, 10, 11] [12, 13] 12 (fun _ _ _ _ _ h => h) (by kernel_rfl) (by kernel_rfl) (by kernel_rfl) ?_
          iterate 7 (refine seg_plain rfl rfl rfl rfl rfl ?_; intro K' hK'; go_big_quiet_op; go_big_quiet_on)
          refine seg_callO (Y := ApY) (fun y => .tuple #[.agg #[.int .i64 y.o, .slice y.a1 y.n1 y.c1, .int .i64 y.s, .int .i64 y.n, .int .i64 y.m, .slice y.a2 y.n2 y.c2], .slice y.ta (apN x e (apL (l.take i) e tk).2).2.length y.tc]) (fun y u => NdV u (fun b => (P b ∧ b < w.heap.size) ∨ (y.lo ≤ b ∧ b < y.lo + y.k)) (apN x e (apL (l.take i) e tk).2).1 (.agg #[.int .i64 y.o, .slice y.a1 y.n1 y.c1, .int .i64 y.s, .int .i64 y.n, .int .i64 y.m, .slice y.a2 y.n2 y.c2]) ∧ SlP u (fun b => ((((Pt b ∧ b < w.heap.size) ∨ W.heap.size ≤ b) ∧ (Value.slice va2 i vc2).ownBlock ≠ some b) ∧ b < wr.heap.size) ∨ (y.lo ≤ b ∧ b < y.lo + y.k)) (.slice y.ta (apN x e (apL (l.take i) e tk).2).2.length y.tc) (apN x e (apL (l.take i) e tk).2).2.length ((apN x e (apL (l.take i) e tk).2).2.map sV)) (fun y => List.range' y.lo y.k) rfl rfl rfl rfl (fun _ _ _ h hu => ⟨h.1.ext hu, h.2.ext hu⟩) (fun _ => List.nodup_range') (fun w => by go_simp) (fun w' hu hd => (HC.out w' hu).mono fun r w2 ⟨o, s, n, m, a1, n1, c1, a2, n2, c2, ta, tc, h1, h2, h3, h4⟩ => ⟨⟨o, a1, n1, c1, s, n, m, a2, n2, c2, ta, tc, w'.heap.size, w2.heap.size - w'.heap.size⟩, h1, h4, ⟨h2.mono (fun b hb hl => hb.imp id (fun hn => ⟨hn, by have := hl.lt; have := h4.size; have hn2 : w'.heap.size ≤ b := hn; show b < w'.heap.size + (w2.heap.size - w'.heap.size); omega⟩)), h3.mono (fun b hb hl => hb.imp id (fun hn => ⟨hn, by have := hl.lt; have := h4.size; have hn2 : w'.heap.size ≤ b := hn; show b < w'.heap.size + (w2.heap.size - w'.heap.size); omega⟩))⟩, fun b hb => by have hb2 : w'.heap.size ≤ b ∧ b < w'.heap.size + (w2.heap.size - w'.heap.size) := List.mem_range'_1.1 hb; have := h4.size; omega⟩) ?_
          rintro ⟨ro, ra1, rn1, rc1, rs, rn, rm, ra2, rn2, rc2, rt, rtc, lo, kk⟩
          simp only [Act.put, List.setIfInBounds_toArray, List.set_cons_zero, List.set_cons_succ]
          iterate 3 (refine seg_plain rfl rfl rfl rfl rfl ?_; intro K' hK'; go_big_quiet_op; go_big_quiet_on)
          refine seg_alloc (.cells #[.int .i64 0, .slice none 0 0, .int .i64 0, .int .i64 0, .int .i64 0, .slice none 0 0] 25) rfl rfl rfl (fun w => by go_simp) ?_
          intro b9
          simp only [Act.put, List.setIfInBounds_toArray, List.set_cons_zero, List.set_cons_succ]
          intro w9 hg
          have HQ9 : Hid (w9.heap[b9]? = some (.cells #[.int .i64 0, .slice none 0 0, .int .i64 0, .int .i64 0, .int .i64 0, .slice none 0 0] 25 (0, 0))) := Lib.hid hg.hold.1
          have HFA := Lib.hid hg.hold.2.1
          have HU9 := Lib.hid hg.up
          have HNB : Hid (b9 ∉ List.range' lo kk) := Lib.hid (by
            have h1 := (List.nodup_cons.1 (show (b9 :: (List.range' lo kk ++ [])).Nodup from hg.nodup)).1
            rwa [List.append_nil] at h1)
          have HIB : Hid (wr.heap.size ≤ b9 ∧ b9 < w9.heap.size ∧ ∀ b ∈ List.range' lo kk, wr.heap.size ≤ b ∧ b < w9.heap.size) := Lib.hid ⟨(hg.inb _ List.mem_cons_self b9 List.mem_cons_self).1, (hg.inb _ List.mem_cons_self b9 List.mem_cons_self).2, fun b hb => hg.inb _ (List.mem_cons_of_mem _ List.mem_cons_self) b hb⟩
          clear hg ex k0 k1 k2 k3 k4 k5 m0 m1 m2
          simp only [List.drop_succ_cons, List.drop_zero]
          obtain ⟨y0, y1, y2, y3, y4, y5⟩ := cells6 HQ9.out
          obtain ⟨f0, f1, f2, f3, f4, f5⟩ := frees6 HQ9.out
          go_wp2_with fail
          refine NoPanic.normal ?_
          clear y0 y1 y2 y3 y4 y5 f0 f1 f2 f3 f4 f5
          have HST := Lib.hid (nd_store HQ9.out (.int .i64 ro) (.slice ra1 rn1 rc1) (.int .i64 rs) (.int .i64 rn) (.int .i64 rm) (.slice ra2 rn2 rc2))
          obtain ⟨q0, q1, q2, q3, q4, q5⟩ := cells6 HST.out
          have HSF := Lib.hid (nd_self w9 b9 (.int .i64 ro) (.slice ra1 rn1 rc1) (.int .i64 rs) (.int .i64 rn) (.int .i64 rm) (.slice ra2 rn2 rc2))
          have HUC : Hid (Upto [] wr ((((((w9.setCell ⟨b9, 0, none⟩ (.int .i64 ro)).setCell ⟨b9, 1, none⟩ (.slice ra1 rn1 rc1)).setCell ⟨b9, 2, none⟩ (.int .i64 rs)).setCell ⟨b9, 3, none⟩ (.int .i64 rn)).setCell ⟨b9, 4, none⟩ (.int .i64 rm)).setCell ⟨b9, 5, none⟩ (.slice ra2 rn2 rc2))) := Lib.hid (HU9.out.trans HSF.out (fun k hk => Or.inr (by have := HIB.out.1; simp at hk; omega)))
          have HNX : Hid (NdV ((((((w9.setCell ⟨b9, 0, none⟩ (.int .i64 ro)).setCell ⟨b9, 1, none⟩ (.slice ra1 rn1 rc1)).setCell ⟨b9, 2, none⟩ (.int .i64 rs)).setCell ⟨b9, 3, none⟩ (.int .i64 rn)).setCell ⟨b9, 4, none⟩ (.int .i64 rm)).setCell ⟨b9, 5, none⟩ (.slice ra2 rn2 rc2)) (fun b => ((P b ∧ b < w.heap.size) ∨ W.heap.size ≤ b) ∧ (Value.slice va2 i vc2).ownBlock ≠ some b) (apN x e (apL (l.take i) e tk).2).1 (.agg #[.int .i64 ro, .slice ra1 rn1 rc1, .int .i64 rs, .int .i64 rn, .int .i64 rm, .slice ra2 rn2 rc2])) := Lib.hid ((HFA.out.1.upto HSF.out (fun b hb _ hm => by
            have h1 := HIB.out.1
            have h2 := HNB.out
            have h3 := HU4.out.size
            have h4 := HUW.out.size
            simp at hm
            subst hm
            rcases hb with hb | hb
            · omega
            · exact h2 (List.mem_range'_1.2 hb))).mono (fun b hb _ => ⟨hb.imp id (fun h2 => by have h1 := (HIB.out.2.2 b (List.mem_range'_1.2 h2)).1; have h3 := HW4.out; have h4 := HUW.out.size; omega), fun e => by
            have h1 := HRW.out.own b e
            have h2 := own_ne HRW.out.row b e
            have h3 := HU4.out.size
            rcases hb with hb | hb
            · omega
            · have h5 := (HIB.out.2.2 b (List.mem_range'_1.2 hb)).1; omega⟩))
          have HTX9 : Hid (SlP ((((((w9.setCell ⟨b9, 0, none⟩ (.int .i64 ro)).setCell ⟨b9, 1, none⟩ (.slice ra1 rn1 rc1)).setCell ⟨b9, 2, none⟩ (.int .i64 rs)).setCell ⟨b9, 3, none⟩ (.int .i64 rn)).setCell ⟨b9, 4, none⟩ (.int .i64 rm)).setCell ⟨b9, 5, none⟩ (.slice ra2 rn2 rc2)) (fun b => ((((Pt b ∧ b < w.heap.size) ∨ W.heap.size ≤ b) ∧ (Value.slice va2 i vc2).ownBlock ≠ some b) ∧ b < wr.heap.size) ∨ (lo ≤ b ∧ b < lo + kk)) (.slice rt (apN x e (apL (l.take i) e tk).2).2.length rtc) (apN x e (apL (l.take i) e tk).2).2.length ((apN x e (apL (l.take i) e tk).2).2.map sV)) := Lib.hid (HFA.out.2.upto HSF.out (fun b hb _ hm => by
            have h1 := HIB.out.1
            have h2 := HNB.out
            simp at hm
            subst hm
            rcases hb with hb | hb
            · omega
            · exact h2 (List.mem_range'_1.2 hb)))
          have HR20 := Lib.hid (HRW.out.ext (HUC.out.trans_ext ((Upto.refl [] _).alloc (.cells #[.int .i64 ro, .slice ra1 rn1 rc1, .int .i64 rs, .int .i64 rn, .int .i64 rm, .slice ra2 rn2 rc2] 25))))
          have hrow2 := HR20.out.row
          rw [HMI.out] at hrow2
          have hsrc2 : ∀ (j : Nat) (u : Value), ([.int .i64 ro, .slice ra1 rn1 rc1, .int .i64 rs, .int .i64 rn, .int .i64 rm, .slice ra2 rn2 rc2] : List Value)[j]? = some u → (((((((w9.setCell ⟨b9, 0, none⟩ (.int .i64 ro)).setCell ⟨b9, 1, none⟩ (.slice ra1 rn1 rc1)).setCell ⟨b9, 2, none⟩ (.int .i64 rs)).setCell ⟨b9, 3, none⟩ (.int .i64 rn)).setCell ⟨b9, 4, none⟩ (.int .i64 rm)).setCell ⟨b9, 5, none⟩ (.slice ra2 rn2 rc2)).alloc (.cells #[.int .i64 ro, .slice ra1 rn1 rc1, .int .i64 rs, .int .i64 rn, .int .i64 rm, .slice ra2 rn2 rc2] 25)).cell? ((⟨w9.heap.size, 0, none⟩ : Addr).add j) = some u := by
            have h1 := cells_at (l := [.int .i64 ro, .slice ra1 rn1 rc1, .int .i64 rs, .int .i64 rn, .int .i64 rm, .slice ra2 rn2 rc2]) (new_at ((((((w9.setCell ⟨b9, 0, none⟩ (.int .i64 ro)).setCell ⟨b9, 1, none⟩ (.slice ra1 rn1 rc1)).setCell ⟨b9, 2, none⟩ (.int .i64 rs)).setCell ⟨b9, 3, none⟩ (.int .i64 rn)).setCell ⟨b9, 4, none⟩ (.int .i64 rm)).setCell ⟨b9, 5, none⟩ (.slice ra2 rn2 rc2)) (.cells #[.int .i64 ro, .slice ra1 rn1 rc1, .int .i64 rs, .int .i64 rn, .int .i64 rm, .slice ra2 rn2 rc2] 25))
            rwa [show ((((((w9.setCell ⟨b9, 0, none⟩ (.int .i64 ro)).setCell ⟨b9, 1, none⟩ (.slice ra1 rn1 rc1)).setCell ⟨b9, 2, none⟩ (.int .i64 rs)).setCell ⟨b9, 3, none⟩ (.int .i64 rn)).setCell ⟨b9, 4, none⟩ (.int .i64 rm)).setCell ⟨b9, 5, none⟩ (.slice ra2 rn2 rc2)).heap.size = w9.heap.size by simp [World.setCell]] at h1
          clear HSF HST
          go_wp2_with (at_builtin; refine wpList_app _ rfl (.tmp 92) (.tmp 94) 23 rfl 25 i1 (.agg #[.int .i64 0, .slice none 0 0, .int .i64 0, .int .i64 0, .int .i64 0, .slice none 0 0]) 6 80 Tryz.underlying23 HI1.out HY0.out HY1'.out HY2'.out rfl (by decide) (.slice va2 i vc2) i (cellsN c i) rfl hrow2 ⟨w9.heap.size, 0, none⟩ 1 1 [.int .i64 ro, .slice ra1 rn1 rc1, .int .i64 rs, .int .i64 rn, .int .i64 rm, .slice ra2 rn2 rc2] rfl rfl hsrc2 (by simp [Value.oneCell']) (by unfold maxLen; omega) (by omega) ?_; intro vb vd w21 ho hu hw; have HA := Lib.hid (AnRow.app HR20.out HMI.out (Nat.le_trans HUW.out.size (HUC.out.trans_ext ((Upto.refl [] _).alloc (.cells #[.int .i64 ro, .slice ra1 rn1 rc1, .int .i64 rs, .int .i64 rn, .int .i64 rm, .slice ra2 rn2 rc2] 25))).size) (HNX.out.ext ((Upto.refl [] _).alloc (.cells #[.int .i64 ro, .slice ra1 rn1 rc1, .int .i64 rs, .int .i64 rn, .int .i64 rm, .slice ra2 rn2 rc2] 25))) ho hu hw); have HU21 : Hid (Upto [] w4 w21) := Lib.hid ((HUW.out.trans_ext (HUC.out.trans_ext ((Upto.refl [] _).alloc (.cells #[.int .i64 ro, .slice ra1 rn1 rc1, .int .i64 rs, .int .i64 rn, .int .i64 rm, .slice ra2 rn2 rc2] 25)))).trans hu (fun k hk => Or.inr (HR20.out.own k (Option.mem_toList.1 hk)))); have HTT : Hid (SlP w21 (fun b => ((Pt b ∧ b < w.heap.size) ∨ W.heap.size ≤ b) ∧ (Value.slice vb (i + 1) vd).ownBlock ≠ some b) (.slice rt (apN x e (apL (l.take i) e tk).2).2.length rtc) (apN x e (apL (l.take i) e tk).2).2.length ((apN x e (apL (l.take i) e tk).2).2.map sV)) := Lib.hid (tk_keep HTX9.out hu hw (fun b hb => by rcases hb with hb | hb; exact hb.1.2; exact fun e => by have h2 := own_ne HRW.out.row b e; have h5 := (HIB.out.2.2 b (List.mem_range'_1.2 hb)).1; omega) (fun b hb => by rcases hb with hb | hb; exact hb.1.1; exact Or.inr (by have h5 := (HIB.out.2.2 b (List.mem_range'_1.2 hb)).1; have h3 := HW4.out; have h4 := HUW.out.size; omega))); clear hrow2 hsrc2 ho hu hw)
          exact ⟨⟨i + 1, vb, vd, _, rt, _, rtc, by omega, by simp, rfl, rfl, Lib.hid (by rw [HTM.out]), Lib.hid (by rw [HTM.out]; exact HTT.out), HU21, Lib.hid (by rw [HTM.out]; exact HA.out)⟩, by simp [intOf]; omega⟩
        · obtain rfl : i = n2 := by omega
          have HTT : Hid (l.take i = l) := Lib.hid (by rw [← HN2.out, List.take_length])
          rw [HTT.out] at HRW HTS HTN
          obtain ⟨x0, x1, x2, x3, x4, x5⟩ := cells6 HBW.out
          go_wp2_with fail
          refine (with51_calls op so nn mm _ _ _ _ _ _ _ _ _ _ _ _ wr).mono ?_
          rintro r w22 ⟨rfl, hu22⟩
          have HZ22 := Lib.hid ((HUW.out.trans_ext hu22).at HZ4.out (by simp))
          have HU22 := Lib.hid (HU4.out.trans_ext (HUW.out.trans_ext hu22))
          have HNM22 := Lib.hid (HNM4.out.ext (HUW.out.trans_ext hu22))
          have HR22 := Lib.hid (HRW.out.ext hu22)
          have HTS22 := Lib.hid (HTS.out.ext hu22)
          clear hu22 x0 x1 x2 x3 x4 x5
          obtain ⟨y0, y1, y2, y3, y4, y5⟩ := cells6 HZ22.out
          obtain ⟨f0, f1, f2, f3, f4, f5⟩ := frees6 HZ22.out
          go_wp2_with fail
          clear y0 y1 y2 y3 y4 y5 f0 f1 f2 f3 f4 f5
          have hst := nd_store HZ22.out (.int .i64 op) (.slice va j vc) (.int .i64 so) (.int .i64 nn) (.int .i64 mm) (.slice va2 i vc2)
          have hself := nd_self w22 (w.heap.size + 1 + 1) (.int .i64 op) (.slice va j vc) (.int .i64 so) (.int .i64 nn) (.int .i64 mm) (.slice va2 i vc2)
          have hup := nd_up HU22.out (B := w.heap.size + 1 + 1) (Or.inr (by omega)) (.int .i64 op) (.slice va j vc) (.int .i64 so) (.int .i64 nn) (.int .i64 mm) (.slice va2 i vc2)
          have hnd : NdV w22 (fun b => (P b ∧ b < w.heap.size) ∨ W.heap.size ≤ b) (.mk op L9 so nn mm (apL l e tk).1) (.agg #[.int .i64 op, .slice va j vc, .int .i64 so, .int .i64 nn, .int .i64 mm, .slice va2 i vc2]) := by
            unfold NdV
            refine ⟨_, _, rfl, by have := HNM22.out; rwa [HLN.out], ?_⟩
            have := HR22.out.list (Q := fun b => (P b ∧ b < w.heap.size) ∨ W.heap.size ≤ b) (fun b hb => hb) (fun g hg => Or.inr (Nat.le_trans HW4.out hg))
            rwa [HMI2.out] at this ⊢
          have hnd2 := (hnd.upto hself (fun b hb _ hm => by have h1 := HWZ.out; simp at hm; omega)).mono (Q := fun b => P b ∨ New w b) (fun b hb _ => hb.imp (fun h2 => h2.1) (fun h2 => by have h1 := HWZ.out; unfold New; omega))
          have htk2 := (HTS22.out.upto hself (fun b hb _ hm => by have h1 := HWZ.out; have h2 := hb.1; simp at hm; omega)).mono (Q := fun b => Pt b ∨ New w b) (fun b hb _ => hb.1.imp (fun h2 => h2.1) (fun h2 => by have h1 := HWZ.out; unfold New; omega))
          obtain ⟨q0, q1, q2, q3, q4, q5⟩ := cells6 hst
          refine bodyPost_ret (v := .tuple #[.agg #[.int .i64 op, .slice va j vc, .int .i64 so, .int .i64 nn, .int .i64 mm, .slice va2 i vc2], .slice ta9 tn9 tc9]) (by simp [results, Tryz.results65, go_sem, q0, q1, q2, q3, q4, q5]) rfl ?_
          rw [HGO.out]
          refine ⟨op, so, nn, mm, va, j, vc, va2, i, vc2, ta9, tc9, ?_, hnd2, ?_, hup⟩
          · show _ = Ending.returned (.tuple #[_, .slice ta9 (apL l e tk).2.length tc9])
            rw [HTN.out]
          · show SlP _ _ (.slice ta9 (apL l e tk).2.length tc9) (apL l e tk).2.length _
            rw [HTN.out]
            exact htk2
end Go.Proofs.YtbnebkkpmcjmbaaGreatDoor


namespace Go.Proofs.YtbnebkkpmcjmbaaGreatDoor
open Go.RowKit Go.PL Go.Maps
set_option maxRecDepth 100000 in
set_option maxHeartbeats 25600000 in
theorem ap_bind_calls (d : Nat) (IH : ApH d ApPost) (op so nn mm : Int) (nms : List (List UInt8)) (l : List Nd) (b : List UInt8) (hnm : nms = [b]) (v : Value) (P Pt Qe : Nat → Prop) (e : EnvL) (tk : List (List UInt8)) (e1 e2 e3 ta : Option Addr) (f1 f2 f3 N tn tc : Nat) (w : World)
    (hb : bindsF op nms.length = true) (h : ApIn w (d + 1) P (.mk op nms so nn mm l) v e tk) (hE : EnvR w Qe e e1 f1 e2 f2 e3 f3 N) (htn : tk.length = tn) (hT : SlP w Pt (.slice ta tn tc) tn (tk.map sV)) :
    Calls Tryz.prog 65 #[v, .agg #[.slice e1 N f1, .slice e2 N f2, .slice e3 N f3], .slice ta tn tc] w (ApPost P Pt w (apN (.mk op nms so nn mm l) e tk)) := by
  obtain ⟨s9, hs9⟩ : ∃ s9, s9 = freshG b tk := ⟨_, rfl⟩
  obtain ⟨L9, hL9⟩ : ∃ L9, L9 = [s9] := ⟨_, rfl⟩
  have HGO : Hid (apN (.mk op nms so nn mm l) e tk = (.mk op L9 so nn mm (apL l ((b, s9) :: e) (tk ++ [s9])).1, (apL l ((b, s9) :: e) (tk ++ [s9])).2)) := Lib.hid (by
    unfold apN
    rw [if_pos hb, hnm, hL9, hs9]
    rfl)
  have hbn : nameF b = true := by
    have := (form_iff.1 h.form).2.2.1
    rw [hnm] at this
    simpa using this
  have hfr := freshG_not (s := b) (tk := tk) hbn (by have := h.room; omega)
  rw [← hs9] at hfr
  have HS9 := Lib.hid hfr
  have HLN : Hid (L9.length = 1) := Lib.hid (by rw [hL9]; rfl)
  have HL9 := Lib.hid hL9
  have HPF : Hid (plusF tk s9 = tk ++ [s9]) := Lib.hid (plus_out (fun hm => by have := hfr.1; rw [List.contains_iff_mem.2 hm] at this; cases this))
  have HFR : Hid (∀ u, Upto [] w u → Calls Tryz.prog 50 #[.string ⟨b.toArray⟩, .slice ta tn tc] u fun r w' => r = .returned (.string ⟨s9.toArray⟩) ∧ Upto [] u w') := Lib.hid (fun u hu => by
    have := freshRG_calls b tk (.slice ta tn tc) u Pt (by rw [htn]; exact hT.ext hu) (by have := h.room; omega) (by have := name_len hbn; omega)
    rwa [← hs9] at this)
  have HPL : Hid (∀ u, Upto [] w u → Calls Tryz.prog 59 #[.slice ta tn tc, .string ⟨s9.toArray⟩] u fun r w' => ∃ v', r = .returned v' ∧ SlP w' (fun b => (Pt b ∧ b < w.heap.size) ∨ New u b) v' (tn + 1) ((tk ++ [s9]).map sV) ∧ Upto [] u w') := Lib.hid (fun u hu => by
    refine (plus_calls tk s9 (.slice ta tn tc) u (fun b => Pt b ∧ b < w.heap.size) (by rw [htn]; exact (hT.mono (fun b hb hl => ⟨hb, hl.lt⟩)).ext hu) (by have := h.room; omega)).mono ?_
    rintro r w' ⟨v', h1, h2, h3⟩
    rw [HPF.out, List.length_append, List.length_singleton, htn] at h2
    exact ⟨v', h1, h2, h3⟩)
  clear hfr hs9 hL9 hbn
  have HKD : Hid (∀ x ∈ l, depthF x ≤ d ∧ formF nameF x = 0 ∧ nmsF x + sizeF x + 2 ≤ 8000) := Lib.hid (fun x hx => ⟨by
    have h1 := depths_mem hx
    have h2 := h.deep
    simp only [depthF] at h2
    omega, forms_iff.1 (form_iff.1 h.form).2.2.2.2.2 x hx, by
    have h1 := nmss_mem hx
    have h2 := sizesF_mem hx
    have h3 := h.few
    simp only [nmsF, sizeF] at h3
    omega⟩)
  have HFS : Hid (formsF nameF l = 0) := Lib.hid (form_iff.1 h.form).2.2.2.2.2
  obtain ⟨a1, c1, a2, c2, rfl, hs, hls⟩ := (h.nd.mono (Q := fun b => P b ∧ b < w.heap.size) (fun b hb hl => ⟨hb, hl.lt⟩)).open
  have HS := Lib.hid hs
  have HLS := Lib.hid hls
  have HRM : Hid (tk.length + (sizesF l + 1) ≤ 8000 ∧ e.length + (d + 1) ≤ 8000 ∧ ∀ p ∈ e, nameF p.2 = true) := Lib.hid ⟨by have h3 := h.room; simp only [sizeF] at h3; omega, h.narrow, h.names⟩
  have hln : nms.length ≤ 8000 := by have h3 := h.few; simp only [nmsF] at h3; omega
  have hll : l.length ≤ 8000 := by have h1 := sizes_len l; have h3 := h.few; simp only [sizeF] at h3; omega
  have HLE : Hid (nms.length ≤ 8000 ∧ l.length ≤ 8000) := Lib.hid ⟨hln, hll⟩
  have HBI : Hid (∀ u, Calls Tryz.prog 48 #[.agg #[.int .i64 op, .slice a1 nms.length c1, .int .i64 so, .int .i64 nn, .int .i64 mm, .slice a2 l.length c2]] u fun e w' => e = .returned (.bool true) ∧ Upto [] u w') := Lib.hid (fun u => by
    have hg := (good_of _ h.form).1
    unfold goodN at hg
    have := bindsR_calls op a1 nms.length c1 so nn mm a2 l.length c2 u (fun h2 => hg.1 (Or.inr h2))
    rw [hb] at this
    exact this)
  have IHH := Lib.hid IH
  have HE0 := Lib.hid hE
  have HT0 := Lib.hid (hT.mono (Q := fun b => Pt b ∧ b < w.heap.size) (fun b hb hl => ⟨hb, hl.lt⟩))
  obtain ⟨n1, hn1⟩ : ∃ n1, n1 = nms.length := ⟨_, rfl⟩
  obtain ⟨n2, hn2⟩ : ∃ n2, n2 = l.length := ⟨_, rfl⟩
  have HN1 : Hid (nms.length = n1) := Lib.hid hn1.symm
  have HN2 : Hid (l.length = n2) := Lib.hid hn2.symm
  have HNN : Hid (e.length = N ∧ tk.length = tn) := Lib.hid ⟨hE.len, htn⟩
  rw [← hn1, ← hn2] at HBI HLE
  rw [← hn1] at HS
  rw [← hn1, ← hn2]
  have hI1 : (n1 : Int) ≤ 8000 := by have := HLE.out; omega
  have hI2 : (n2 : Int) ≤ 8000 := by have := HLE.out; omega
  have hn11 : n1 = 1 := by rw [hn1, hnm]; rfl
  obtain ⟨g9, o9, hva1, hcell⟩ := slp_cell HS.out HN1.out 0 b (by rw [hnm]; rfl)
  rw [Nat.add_zero] at hcell
  have HCB := Lib.hid hcell
  subst hn11
  subst hva1
  have hI20 : (0 : Int) ≤ n2 := by omega
  clear hs hls h IH hln hll hn1 hn2 hb hE htn hT hnm hcell
  obtain ⟨i0, hi0, hz0, hz1, hz2⟩ := info9'
  have HI0 := Lib.hid hi0
  have HZ0 := Lib.hid hz0
  have HZ1' := Lib.hid hz1
  have HZ2' := Lib.hid hz2
  obtain ⟨i1, hi1, hy0, hy1, hy2⟩ := info54'
  have HI1 := Lib.hid hi1
  have HY0 := Lib.hid hy0
  have HY1' := Lib.hid hy1
  have HY2' := Lib.hid hy2
  clear hi0 hz0 hz1 hz2 hi1 hy0 hy1 hy2
  obtain ⟨W, hW⟩ : ∃ W, W = ((w.alloc (.cells #[.int .i64 op, .slice (some ⟨g9, o9, none⟩) 1 c1, .int .i64 so, .int .i64 nn, .int .i64 mm, .slice a2 n2 c2] 25)).alloc (.cells #[.slice e1 N f1, .slice e2 N f2, .slice e3 N f3] 95)).alloc (.cells #[.int .i64 0, .slice none 0 0, .int .i64 0, .int .i64 0, .int .i64 0, .slice none 0 0] 25) := ⟨_, rfl⟩
  have HU : Hid (Upto [] w W) := Lib.hid (by rw [hW]; exact (((Upto.refl [] w).alloc _).alloc _).alloc _)
  have HB1 : Hid (W.heap[w.heap.size]? = some (.cells #[.int .i64 op, .slice (some ⟨g9, o9, none⟩) 1 c1, .int .i64 so, .int .i64 nn, .int .i64 mm, .slice a2 n2 c2] 25 (0, 0))) := Lib.hid (by rw [hW]; exact alloc_old (alloc_old (new_at w _) _) _)
  have HBE : Hid (W.heap[w.heap.size + 1]? = some (.cells #[.slice e1 N f1, .slice e2 N f2, .slice e3 N f3] 95 (0, 0))) := Lib.hid (by rw [hW]; exact alloc_old (new_at1 w _ _) _)
  have HB2 : Hid (W.heap[w.heap.size + 1 + 1]? = some (.cells #[.int .i64 0, .slice none 0 0, .int .i64 0, .int .i64 0, .int .i64 0, .slice none 0 0] 25 (0, 0))) := Lib.hid (by rw [hW]; exact new_at2 w _ _ _)
  have HWZ : Hid (W.heap.size = w.heap.size + 3) := Lib.hid (by rw [hW]; show (((w.heap.push _).push _).push _).size = _; simp)
  obtain ⟨x0, x1, x2, x3, x4, x5⟩ := cells6 HB1.out
  go_enter Tryz.func65, Tryz.ntmps65
  go_wp2_with fail
  simp only [← hW]
  clear hW
  try go_wp2_with fail
  refine (HBI.out _).mono ?_
  rintro r w2 ⟨rfl, hu2⟩
  have HU2 := Lib.hid (HU.out.trans_ext hu2)
  have HC1 := Lib.hid (hu2.at HB1.out (by simp))
  have HCE := Lib.hid (hu2.at HBE.out (by simp))
  have HC2 := Lib.hid (hu2.at HB2.out (by simp))
  have HSZ2 : Hid (W.heap.size ≤ w2.heap.size) := Lib.hid hu2.size
  clear hu2 x0 x1 x2 x3 x4 x5
  obtain ⟨x0, x1, x2, x3, x4, x5⟩ := cells6 HC1.out
  have c0 := HCB.out _ HU2.out
  go_wp2_with fail
  refine (HFR.out _ HU2.out).mono ?_
  rintro r w3 ⟨rfl, hu3⟩
  have HU3 := Lib.hid (HU2.out.trans_ext hu3)
  have HD1 := Lib.hid (hu3.at HC1.out (by simp))
  have HDE := Lib.hid (hu3.at HCE.out (by simp))
  have HD2 := Lib.hid (hu3.at HC2.out (by simp))
  have HSZ3 : Hid (W.heap.size ≤ w3.heap.size) := Lib.hid (Nat.le_trans HSZ2.out hu3.size)
  clear hu3 x0 x1 x2 x3 x4 x5 c0
  go_wp2_with fail
  refine (HPL.out _ HU3.out).mono ?_
  rintro r w5 ⟨vt, rfl, ht5, hu5⟩
  obtain ⟨ta5, tc5, rfl⟩ := ht5.len
  have HU5 := Lib.hid (HU3.out.trans_ext hu5)
  have HF1 := Lib.hid (hu5.at HD1.out (by simp))
  have HFE := Lib.hid (hu5.at HDE.out (by simp))
  have HF2 := Lib.hid (hu5.at HD2.out (by simp))
  have HSZ5 : Hid (W.heap.size ≤ w5.heap.size) := Lib.hid (Nat.le_trans HSZ3.out hu5.size)
  have HT5 : Hid (SlP w5 (fun b => (Pt b ∧ b < w.heap.size) ∨ W.heap.size ≤ b) (.slice ta5 (tn + 1) tc5) (tn + 1) ((tk ++ [s9]).map sV)) := Lib.hid (ht5.mono (fun b hb _ => hb.imp id (fun h2 => by have := HSZ3.out; unfold New at h2; omega)))
  clear hu5 ht5
  obtain ⟨x0, x1, x2, x3, x4, x5⟩ := cells6 HF1.out
  obtain ⟨z0, z1, z2⟩ := cells3 HFE.out
  go_wp2_with fail
  have ex1 : ∀ u : Ext w5, u.w.cell? ⟨w.heap.size, 1, none⟩ = some (.slice (some ⟨g9, o9, none⟩) 1 c1) := fun u => u.cell x1
  have ex2 : ∀ u : Ext w5, u.w.cell? ⟨w.heap.size, 2, none⟩ = some (.int .i64 so) := fun u => u.cell x2
  have c0 := HCB.out _ HU5.out
  have ec0 : ∀ u : Ext w5, u.w.cell? ⟨g9, o9, none⟩ = some (.string ⟨b.toArray⟩) := fun u => u.cell c0
  have m0 : ∀ u : Ext w5, u.w.cell? ⟨w.heap.size + 1, 0, none⟩ = some _ := fun u => u.cell z0
  have m1 : ∀ u : Ext w5, u.w.cell? ⟨w.heap.size + 1, 1, none⟩ = some _ := fun u => u.cell z1
  have m2 : ∀ u : Ext w5, u.w.cell? ⟨w.heap.size + 1, 2, none⟩ = some _ := fun u => u.cell z2
  have HBD := Lib.hid (fun u (hu : Upto [] w5 u) => bindE_calls ((HE0.out.ext HU5.out).ext hu) (by have := HRM.out.2.1; have := HNN.out.1; omega) b s9 so)
  clear x0 x1 x2 x3 x4 x5 z0 z1 z2 c0
  refine wp_region_seg_at [8] [] [0, 1, 2, 3, 4, 5, 6, 7, 8] [9] 9 (by kernel_rfl) (by kernel_rfl) (by kernel_rfl) ?_
  iterate 8 (refine seg_plain rfl rfl rfl rfl rfl ?_; intro K' hK'; go_big_quiet_op; go_big_quiet_on)
  refine seg_callO (Y := (Option Addr × Nat) × (Option Addr × Nat) × (Option Addr × Nat)) (fun y => .agg #[.slice y.1.1 (N + 1) y.1.2, .slice y.2.1.1 (N + 1) y.2.1.2, .slice y.2.2.1 (N + 1) y.2.2.2]) (fun y u => EnvR u (fun b => w5.heap.size ≤ b) ((b, s9) :: e) y.1.1 y.1.2 y.2.1.1 y.2.1.2 y.2.2.1 y.2.2.2 (N + 1)) (fun _ => []) rfl rfl rfl rfl (fun _ _ _ h hu => h.ext hu) (fun _ => List.nodup_nil) (fun w => by go_simp) (fun w' hu hd => (HBD.out w' hu).mono fun r w2 ⟨p1, u1, p2, u2, p3, u3, h1, h2, h3⟩ => ⟨((p1, u1), (p2, u2), (p3, u3)), h1, h3, h2.mono (fun b hb _ => Nat.le_trans hu.size hb), fun b hb => by cases hb⟩) ?_
  rintro ⟨⟨p1, u1⟩, ⟨p2, u2⟩, ⟨p3, u3⟩⟩
  simp only [Act.put, List.setIfInBounds_toArray, List.set_cons_zero, List.set_cons_succ]
  intro w6 hg
  have HU6 := Lib.hid hg.up
  have HEN : Hid (EnvR w6 (fun b => w5.heap.size ≤ b) ((b, s9) :: e) p1 u1 p2 u2 p3 u3 (N + 1)) := Lib.hid hg.hold.1
  have HG1 := Lib.hid (HU6.out.at HF1.out (by simp))
  have HGE := Lib.hid (HU6.out.at HFE.out (by simp))
  have HG2 := Lib.hid (HU6.out.at HF2.out (by simp))
  clear hg ex1 ex2 ec0 m0 m1 m2
  simp only [List.drop_succ_cons, List.drop_zero]
  obtain ⟨z0, z1, z2⟩ := cells3 HGE.out
  obtain ⟨f0, f1, f2⟩ := frees3 HGE.out
  obtain ⟨w7, hw7⟩ : ∃ w7, w7 = (((w6.setCell ⟨w.heap.size + 1, 0, none⟩ (.slice p1 (N + 1) u1)).setCell ⟨w.heap.size + 1, 1, none⟩ (.slice p2 (N + 1) u2)).setCell ⟨w.heap.size + 1, 2, none⟩ (.slice p3 (N + 1) u3)) := ⟨_, rfl⟩
  have HE7 : Hid (w7.heap[w.heap.size + 1]? = some (.cells #[.slice p1 (N + 1) u1, .slice p2 (N + 1) u2, .slice p3 (N + 1) u3] 95 (0, 0))) := Lib.hid (by rw [hw7]; exact set_same (set_same (set_same HGE.out 0 _) 1 _) 2 _)
  have HS7 : Hid (Upto [w.heap.size + 1] w6 w7) := Lib.hid (by rw [hw7]; exact (((Upto.refl _ w6).setCell (p := ⟨w.heap.size + 1, 0, none⟩) (Or.inl (by simp)) _).setCell (p := ⟨w.heap.size + 1, 1, none⟩) (Or.inl (by simp)) _).setCell (p := ⟨w.heap.size + 1, 2, none⟩) (Or.inl (by simp)) _)
  have HZ7 : Hid (w7.heap.size = w6.heap.size) := Lib.hid (by rw [hw7]; simp [World.setCell])
  have HU7 : Hid (Upto [] w w7) := Lib.hid ((HU5.out.trans_ext HU6.out).trans HS7.out (fun k hk => Or.inr (by simp at hk; omega)))
  have HEV7 : Hid (EnvR w7 (fun b => w5.heap.size ≤ b) ((b, s9) :: e) p1 u1 p2 u2 p3 u3 (N + 1)) := Lib.hid (HEN.out.upto HS7.out (fun b hb _ hm => by have := HSZ5.out; have := HWZ.out; simp at hm; omega))
  obtain ⟨w4, hw4⟩ : ∃ w4, w4 = w7.alloc (.cells #[.string ⟨s9.toArray⟩] 9) := ⟨_, rfl⟩
  have HA4 : Hid (Upto [] w7 w4) := Lib.hid (by rw [hw4]; exact (Upto.refl [] w7).alloc _)
  have HN4 : Hid (w4.heap[w6.heap.size]? = some (.cells #[.string ⟨s9.toArray⟩] 9 (0, 0))) := Lib.hid (by rw [hw4, ← HZ7.out]; exact new_at w7 _)
  have HB4 := Lib.hid (HA4.out.at (HS7.out.at HG1.out (by simp)) (by simp))
  have HB4E := Lib.hid (HA4.out.at HE7.out (by simp))
  have HZ4 := Lib.hid (HA4.out.at (HS7.out.at HG2.out (by simp)) (by simp))
  have HU4 : Hid (Upto [] w w4) := Lib.hid (HU7.out.trans_ext HA4.out)
  have HW4 : Hid (W.heap.size ≤ w4.heap.size) := Lib.hid (by have h1 := HSZ5.out; have h2 := HU6.out.size; have h3 := HZ7.out; have h4 := HA4.out.size; omega)
  have HEV := Lib.hid (HEV7.out.ext HA4.out)
  have HNM4 : Hid (SlP w4 (fun b => (P b ∧ b < w.heap.size) ∨ W.heap.size ≤ b) (.slice (some ⟨w6.heap.size, 0, none⟩) 1 1) 1 (L9.map sV)) := Lib.hid (slp_one1 HN4.out (Or.inr (Nat.le_trans HSZ5.out HU6.out.size)) HL9.out)
  have HMI2 : Hid ((apL l ((b, s9) :: e) (tk ++ [s9])).1.length = n2) := Lib.hid (by rw [apL_len, HN2.out])
  have HRQ : Hid ((tk ++ [s9]).length + sizesF l ≤ 8000 ∧ ((b, s9) :: e).length + d ≤ 8000 ∧ ∀ p ∈ ((b, s9) :: e), nameF p.2 = true) := Lib.hid ⟨by rw [List.length_append, List.length_singleton]; have := HRM.out.1; omega, by rw [List.length_cons]; have := HRM.out.2.1; omega, fun p hp => by
    rcases List.mem_cons.1 hp with rfl | hp
    · exact HS9.out.2
    · exact HRM.out.2.2 p hp⟩
  have HTK : Hid ((tk ++ [s9]).length = tn + 1 ∧ SlP w4 (fun b => (Pt b ∧ b < w.heap.size) ∨ W.heap.size ≤ b) (.slice ta5 (tn + 1) tc5) (tn + 1) ((tk ++ [s9]).map sV)) := Lib.hid ⟨by rw [List.length_append, List.length_singleton, HNN.out.2], ((HT5.out.ext HU6.out).upto HS7.out (fun b hb _ hm => by have := HWZ.out; simp at hm; omega)).ext HA4.out⟩
  go_wp2_with fail
  simp only [← hw7]
  simp only [← hw4]
  clear hw7 hw4 z0 z1 z2 f0 f1 f2
  obtain ⟨x0, x1, x2, x3, x4, x5⟩ := cells6 HB4.out
  obtain ⟨z0, z1, z2⟩ := cells3 HB4E.out
  go_loopw [2, 13, 14] (fun tv s k wr => ∃ (i : Nat) (va2 : Option Addr) (vc2 : Nat) (c : Nat → Nat → Value) (ta9 : Option Addr) (tn9 tc9 : Nat), i ≤ n2 ∧ k = .int .i64 i ∧ s = .slice va2 i vc2 ∧ tv = .slice ta9 tn9 tc9 ∧ Hid ((apL (l.take i) ((b, s9) :: e) (tk ++ [s9])).2.length = tn9) ∧ Hid (SlP wr (fun b => ((Pt b ∧ b < w.heap.size) ∨ W.heap.size ≤ b) ∧ (Value.slice va2 i vc2).ownBlock ≠ some b) (.slice ta9 tn9 tc9) tn9 ((apL (l.take i) ((b, s9) :: e) (tk ++ [s9])).2.map sV)) ∧ Hid (Upto [] w4 wr) ∧ Hid (AnRow (fun b => (P b ∧ b < w.heap.size) ∨ W.heap.size ≤ b) w4 wr c (.slice va2 i vc2) (apL (l.take i) ((b, s9) :: e) (tk ++ [s9])).1)) (fun _ _ k _ => n2 - (intOf k).toNat)
  case atStart => exact ⟨0, none, 0, fun _ _ => .bool false, ta5, (tn + 1), tc5, by omega, rfl, rfl, rfl, Lib.hid (by rw [List.take_zero]; unfold apL; exact HTK.out.1), Lib.hid (by rw [List.take_zero]; unfold apL; exact HTK.out.2.mono (fun b hb _ => ⟨hb, by simp [Value.ownBlock]⟩)), Lib.hid (Upto.refl _ _), Lib.hid (by rw [List.take_zero]; unfold apL; exact AnRow.nil _ _ _ _)⟩
  case round =>
    obtain ⟨i, va2, vc2, c, ta9, tn9, tc9, hi, rfl, rfl, rfl, HTN, HTS, HUW, HRW⟩ := hrel
    have hi0 : (0 : Int) ≤ i := by omega
    have HBW := Lib.hid (HUW.out.at HB4.out (by simp))
    have HEW := Lib.hid (HUW.out.at HB4E.out (by simp))
    have HMI : Hid ((apL (l.take i) ((b, s9) :: e) (tk ++ [s9])).1.length = i) := Lib.hid (by rw [apL_len, List.length_take, HN2.out]; omega)
    clear x0 x1 x2 x3 x4 x5 z0 z1 z2
    rcases Nat.lt_or_ge i n2 with hlt2 | hge2
    · have hil : (i : Int) < n2 := by omega
      have x5 := cell_of HBW.out 5
      simp only [List.getElem?_toArray, List.getElem?_cons_zero, List.getElem?_cons_succ] at x5
      obtain ⟨x, hx⟩ : ∃ x, l[i]? = some x := ⟨l[i]'(by rw [HN2.out]; omega), List.getElem?_eq_getElem _⟩
      obtain ⟨g, o, xo, xa1, xn1, xc1, xs, xn, xm, xa2, xn2, xc2, hva2, d0, d1, d2, d3, d4, d5, hnx⟩ := HLS.out i x hx
      have hw := HU4.out.trans_ext HUW.out
      replace d0 := up_cell hw d0
      replace d1 := up_cell hw d1
      replace d2 := up_cell hw d2
      replace d3 := up_cell hw d3
      replace d4 := up_cell hw d4
      replace d5 := up_cell hw d5
      have HXD := Lib.hid (HKD.out x (List.mem_of_getElem? hx))
      have HTM := Lib.hid (apL_take hx ((b, s9) :: e) (tk ++ [s9]))
      have HRX := Lib.hid (apL_room hx HFS.out HRQ.out.2.2 HRQ.out.1)
      have HC := Lib.hid (fun u (hu : Upto [] wr u) => (IHH.out x (.agg #[.int .i64 xo, .slice xa1 xn1 xc1, .int .i64 xs, .int .i64 xn, .int .i64 xm, .slice xa2 xn2 xc2]) (fun b => P b ∧ b < w.heap.size) (fun b => (((Pt b ∧ b < w.heap.size) ∨ W.heap.size ≤ b) ∧ (Value.slice va2 i vc2).ownBlock ≠ some b) ∧ b < wr.heap.size) _ ((b, s9) :: e) (apL (l.take i) ((b, s9) :: e) (tk ++ [s9])).2 p1 p2 p3 ta9 u1 u2 u3 (N + 1) tn9 tc9 u ⟨(hnx.ext hw).ext hu, HXD.out.1, HXD.out.2.1, HXD.out.2.2, HRX.out, HRQ.out.2.1, HRQ.out.2.2⟩ ((HEV.out.ext HUW.out).ext hu) HTN.out ((HTS.out.mono (fun b hb hl => ⟨hb, hl.lt⟩)).ext hu)))
      clear hnx hw hx
      subst hva2
      obtain ⟨z0, z1, z2⟩ := cells3 HEW.out
      go_wp2_with fail
      have ex : ∀ u : Ext wr, u.w.cell? ⟨w.heap.size, 5, none⟩ = some (.slice (some ⟨g, o, none⟩) n2 c2) := fun u => u.cell x5
      have k0 : ∀ u : Ext wr, u.w.cell? ⟨g, o + i * 6, none⟩ = some _ := fun u => u.cell d0
      have k1 : ∀ u : Ext wr, u.w.cell? ⟨g, o + i * 6 + 1, none⟩ = some _ := fun u => u.cell d1
      have k2 : ∀ u : Ext wr, u.w.cell? ⟨g, o + i * 6 + 2, none⟩ = some _ := fun u => u.cell d2
      have k3 : ∀ u : Ext wr, u.w.cell? ⟨g, o + i * 6 + 3, none⟩ = some _ := fun u => u.cell d3
      have k4 : ∀ u : Ext wr, u.w.cell? ⟨g, o + i * 6 + 4, none⟩ = some _ := fun u => u.cell d4
      have k5 : ∀ u : Ext wr, u.w.cell? ⟨g, o + i * 6 + 5, none⟩ = some _ := fun u => u.cell d5
      have m0 : ∀ u : Ext wr, u.w.cell? ⟨w.heap.size + 1, 0, none⟩ = some _ := fun u => u.cell z0
      have m1 : ∀ u : Ext wr, u.w.cell? ⟨w.heap.size + 1, 1, none⟩ = some _ := fun u => u.cell z1
      have m2 : ∀ u : Ext wr, u.w.cell? ⟨w.heap.size + 1, 2, none⟩ = some _ := fun u => u.cell z2
      clear x5 d0 d1 d2 d3 d4 d5 z0 z1 z2
      refine wp_region_noPanic ?_
      refine wp_region_seg4_at [7] [11] [10] [0, 1, 2, 3, 4, 5, 6, 7, 8, 9, 10, 11] [12, 13] 12 (fun _ _ _ _ _ h => h) (by kernel_rfl) (by kernel_rfl) (by kernel_rfl) ?_
      iterate 7 (refine seg_plain rfl rfl rfl rfl rfl ?_; intro K' hK'; go_big_quiet_op; go_big_quiet_on)
      refine seg_callO (Y := ApY) (fun y => .tuple #[.agg #[.int .i64 y.o, .slice y.a1 y.n1 y.c1, .int .i64 y.s, .int .i64 y.n, .int .i64 y.m, .slice y.a2 y.n2 y.c2], .slice y.ta (apN x ((b, s9) :: e) (apL (l.take i) ((b, s9) :: e) (tk ++ [s9])).2).2.length y.tc]) (fun y u => NdV u (fun b => (P b ∧ b < w.heap.size) ∨ (y.lo ≤ b ∧ b < y.lo + y.k)) (apN x ((b, s9) :: e) (apL (l.take i) ((b, s9) :: e) (tk ++ [s9])).2).1 (.agg #[.int .i64 y.o, .slice y.a1 y.n1 y.c1, .int .i64 y.s, .int .i64 y.n, .int .i64 y.m, .slice y.a2 y.n2 y.c2]) ∧ SlP u (fun b => ((((Pt b ∧ b < w.heap.size) ∨ W.heap.size ≤ b) ∧ (Value.slice va2 i vc2).ownBlock ≠ some b) ∧ b < wr.heap.size) ∨ (y.lo ≤ b ∧ b < y.lo + y.k)) (.slice y.ta (apN x ((b, s9) :: e) (apL (l.take i) ((b, s9) :: e) (tk ++ [s9])).2).2.length y.tc) (apN x ((b, s9) :: e) (apL (l.take i) ((b, s9) :: e) (tk ++ [s9])).2).2.length ((apN x ((b, s9) :: e) (apL (l.take i) ((b, s9) :: e) (tk ++ [s9])).2).2.map sV)) (fun y => List.range' y.lo y.k) rfl rfl rfl rfl (fun _ _ _ h hu => ⟨h.1.ext hu, h.2.ext hu⟩) (fun _ => List.nodup_range') (fun w => by go_simp) (fun w' hu hd => (HC.out w' hu).mono fun r w2 ⟨o, s, n, m, a1, n1, c1, a2, n2, c2, ta, tc, h1, h2, h3, h4⟩ => ⟨⟨o, a1, n1, c1, s, n, m, a2, n2, c2, ta, tc, w'.heap.size, w2.heap.size - w'.heap.size⟩, h1, h4, ⟨h2.mono (fun b hb hl => hb.imp id (fun hn => ⟨hn, by have := hl.lt; have := h4.size; have hn2 : w'.heap.size ≤ b := hn; show b < w'.heap.size + (w2.heap.size - w'.heap.size); omega⟩)), h3.mono (fun b hb hl => hb.imp id (fun hn => ⟨hn, by have := hl.lt; have := h4.size; have hn2 : w'.heap.size ≤ b := hn; show b < w'.heap.size + (w2.heap.size - w'.heap.size); omega⟩))⟩, fun b hb => by have hb2 : w'.heap.size ≤ b ∧ b < w'.heap.size + (w2.heap.size - w'.heap.size) := List.mem_range'_1.1 hb; have := h4.size; omega⟩) ?_
      rintro ⟨ro, ra1, rn1, rc1, rs, rn, rm, ra2, rn2, rc2, rt, rtc, lo, kk⟩
      simp only [Act.put, List.setIfInBounds_toArray, List.set_cons_zero, List.set_cons_succ]
      iterate 3 (refine seg_plain rfl rfl rfl rfl rfl ?_; intro K' hK'; go_big_quiet_op; go_big_quiet_on)
      refine seg_alloc (.cells #[.int .i64 0, .slice none 0 0, .int .i64 0, .int .i64 0, .int .i64 0, .slice none 0 0] 25) rfl rfl rfl (fun w => by go_simp) ?_
      intro b9
      simp only [Act.put, List.setIfInBounds_toArray, List.set_cons_zero, List.set_cons_succ]
      intro w9 hg
      have HQ9 : Hid (w9.heap[b9]? = some (.cells #[.int .i64 0, .slice none 0 0, .int .i64 0, .int .i64 0, .int .i64 0, .slice none 0 0] 25 (0, 0))) := Lib.hid hg.hold.1
      have HFA := Lib.hid hg.hold.2.1
      have HU9 := Lib.hid hg.up
      have HNB : Hid (b9 ∉ List.range' lo kk) := Lib.hid (by
        have h1 := (List.nodup_cons.1 (show (b9 :: (List.range' lo kk ++ [])).Nodup from hg.nodup)).1
        rwa [List.append_nil] at h1)
      have HIB : Hid (wr.heap.size ≤ b9 ∧ b9 < w9.heap.size ∧ ∀ b ∈ List.range' lo kk, wr.heap.size ≤ b ∧ b < w9.heap.size) := Lib.hid ⟨(hg.inb _ List.mem_cons_self b9 List.mem_cons_self).1, (hg.inb _ List.mem_cons_self b9 List.mem_cons_self).2, fun b hb => hg.inb _ (List.mem_cons_of_mem _ List.mem_cons_self) b hb⟩
      clear hg ex k0 k1 k2 k3 k4 k5 m0 m1 m2
      simp only [List.drop_succ_cons, List.drop_zero]
      obtain ⟨y0, y1, y2, y3, y4, y5⟩ := cells6 HQ9.out
      obtain ⟨f0, f1, f2, f3, f4, f5⟩ := frees6 HQ9.out
      go_wp2_with fail
      refine NoPanic.normal ?_
      clear y0 y1 y2 y3 y4 y5 f0 f1 f2 f3 f4 f5
      have HST := Lib.hid (nd_store HQ9.out (.int .i64 ro) (.slice ra1 rn1 rc1) (.int .i64 rs) (.int .i64 rn) (.int .i64 rm) (.slice ra2 rn2 rc2))
      obtain ⟨q0, q1, q2, q3, q4, q5⟩ := cells6 HST.out
      have HSF := Lib.hid (nd_self w9 b9 (.int .i64 ro) (.slice ra1 rn1 rc1) (.int .i64 rs) (.int .i64 rn) (.int .i64 rm) (.slice ra2 rn2 rc2))
      have HUC : Hid (Upto [] wr ((((((w9.setCell ⟨b9, 0, none⟩ (.int .i64 ro)).setCell ⟨b9, 1, none⟩ (.slice ra1 rn1 rc1)).setCell ⟨b9, 2, none⟩ (.int .i64 rs)).setCell ⟨b9, 3, none⟩ (.int .i64 rn)).setCell ⟨b9, 4, none⟩ (.int .i64 rm)).setCell ⟨b9, 5, none⟩ (.slice ra2 rn2 rc2))) := Lib.hid (HU9.out.trans HSF.out (fun k hk => Or.inr (by have := HIB.out.1; simp at hk; omega)))
      have HNX : Hid (NdV ((((((w9.setCell ⟨b9, 0, none⟩ (.int .i64 ro)).setCell ⟨b9, 1, none⟩ (.slice ra1 rn1 rc1)).setCell ⟨b9, 2, none⟩ (.int .i64 rs)).setCell ⟨b9, 3, none⟩ (.int .i64 rn)).setCell ⟨b9, 4, none⟩ (.int .i64 rm)).setCell ⟨b9, 5, none⟩ (.slice ra2 rn2 rc2)) (fun b => ((P b ∧ b < w.heap.size) ∨ W.heap.size ≤ b) ∧ (Value.slice va2 i vc2).ownBlock ≠ some b) (apN x ((b, s9) :: e) (apL (l.take i) ((b, s9) :: e) (tk ++ [s9])).2).1 (.agg #[.int .i64 ro, .slice ra1 rn1 rc1, .int .i64 rs, .int .i64 rn, .int .i64 rm, .slice ra2 rn2 rc2])) := Lib.hid ((HFA.out.1.upto HSF.out (fun b hb _ hm => by
        have h1 := HIB.out.1
        have h2 := HNB.out
        have h3 := HU4.out.size
        have h4 := HUW.out.size
        simp at hm
        subst hm
        rcases hb with hb | hb
        · omega
        · exact h2 (List.mem_range'_1.2 hb))).mono (fun b hb _ => ⟨hb.imp id (fun h2 => by have h1 := (HIB.out.2.2 b (List.mem_range'_1.2 h2)).1; have h3 := HW4.out; have h4 := HUW.out.size; omega), fun e => by
        have h1 := HRW.out.own b e
        have h2 := own_ne HRW.out.row b e
        have h3 := HU4.out.size
        rcases hb with hb | hb
        · omega
        · have h5 := (HIB.out.2.2 b (List.mem_range'_1.2 hb)).1; omega⟩))
      have HTX9 : Hid (SlP ((((((w9.setCell ⟨b9, 0, none⟩ (.int .i64 ro)).setCell ⟨b9, 1, none⟩ (.slice ra1 rn1 rc1)).setCell ⟨b9, 2, none⟩ (.int .i64 rs)).setCell ⟨b9, 3, none⟩ (.int .i64 rn)).setCell ⟨b9, 4, none⟩ (.int .i64 rm)).setCell ⟨b9, 5, none⟩ (.slice ra2 rn2 rc2)) (fun b => ((((Pt b ∧ b < w.heap.size) ∨ W.heap.size ≤ b) ∧ (Value.slice va2 i vc2).ownBlock ≠ some b) ∧ b < wr.heap.size) ∨ (lo ≤ b ∧ b < lo + kk)) (.slice rt (apN x ((b, s9) :: e) (apL (l.take i) ((b, s9) :: e) (tk ++ [s9])).2).2.length rtc) (apN x ((b, s9) :: e) (apL (l.take i) ((b, s9) :: e) (tk ++ [s9])).2).2.length ((apN x ((b, s9) :: e) (apL (l.take i) ((b, s9) :: e) (tk ++ [s9])).2).2.map sV)) := Lib.hid (HFA.out.2.upto HSF.out (fun b hb _ hm => by
        have h1 := HIB.out.1
        have h2 := HNB.out
        simp at hm
        subst hm
        rcases hb with hb | hb
        · omega
        · exact h2 (List.mem_range'_1.2 hb)))
      have HR20 := Lib.hid (HRW.out.ext (HUC.out.trans_ext ((Upto.refl [] _).alloc (.cells #[.int .i64 ro, .slice ra1 rn1 rc1, .int .i64 rs, .int .i64 rn, .int .i64 rm, .slice ra2 rn2 rc2] 25))))
      have hrow2 := HR20.out.row
      rw [HMI.out] at hrow2
      have hsrc2 : ∀ (j : Nat) (u : Value), ([.int .i64 ro, .slice ra1 rn1 rc1, .int .i64 rs, .int .i64 rn, .int .i64 rm, .slice ra2 rn2 rc2] : List Value)[j]? = some u → (((((((w9.setCell ⟨b9, 0, none⟩ (.int .i64 ro)).setCell ⟨b9, 1, none⟩ (.slice ra1 rn1 rc1)).setCell ⟨b9, 2, none⟩ (.int .i64 rs)).setCell ⟨b9, 3, none⟩ (.int .i64 rn)).setCell ⟨b9, 4, none⟩ (.int .i64 rm)).setCell ⟨b9, 5, none⟩ (.slice ra2 rn2 rc2)).alloc (.cells #[.int .i64 ro, .slice ra1 rn1 rc1, .int .i64 rs, .int .i64 rn, .int .i64 rm, .slice ra2 rn2 rc2] 25)).cell? ((⟨w9.heap.size, 0, none⟩ : Addr).add j) = some u := by
        have h1 := cells_at (l := [.int .i64 ro, .slice ra1 rn1 rc1, .int .i64 rs, .int .i64 rn, .int .i64 rm, .slice ra2 rn2 rc2]) (new_at ((((((w9.setCell ⟨b9, 0, none⟩ (.int .i64 ro)).setCell ⟨b9, 1, none⟩ (.slice ra1 rn1 rc1)).setCell ⟨b9, 2, none⟩ (.int .i64 rs)).setCell ⟨b9, 3, none⟩ (.int .i64 rn)).setCell ⟨b9, 4, none⟩ (.int .i64 rm)).setCell ⟨b9, 5, none⟩ (.slice ra2 rn2 rc2)) (.cells #[.int .i64 ro, .slice ra1 rn1 rc1, .int .i64 rs, .int .i64 rn, .int .i64 rm, .slice ra2 rn2 rc2] 25))
        rwa [show ((((((w9.setCell ⟨b9, 0, none⟩ (.int .i64 ro)).setCell ⟨b9, 1, none⟩ (.slice ra1 rn1 rc1)).setCell ⟨b9, 2, none⟩ (.int .i64 rs)).setCell ⟨b9, 3, none⟩ (.int .i64 rn)).setCell ⟨b9, 4, none⟩ (.int .i64 rm)).setCell ⟨b9, 5, none⟩ (.slice ra2 rn2 rc2)).heap.size = w9.heap.size by simp [World.setCell]] at h1
      clear HSF HST
      go_wp2_with (at_builtin; refine wpList_app _ rfl (.tmp 92) (.tmp 94) 23 rfl 25 i1 (.agg #[.int .i64 0, .slice none 0 0, .int .i64 0, .int .i64 0, .int .i64 0, .slice none 0 0]) 6 80 Tryz.underlying23 HI1.out HY0.out HY1'.out HY2'.out rfl (by decide) (.slice va2 i vc2) i (cellsN c i) rfl hrow2 ⟨w9.heap.size, 0, none⟩ 1 1 [.int .i64 ro, .slice ra1 rn1 rc1, .int .i64 rs, .int .i64 rn, .int .i64 rm, .slice ra2 rn2 rc2] rfl rfl hsrc2 (by simp [Value.oneCell']) (by unfold maxLen; omega) (by omega) ?_; intro vb vd w21 ho hu hw; have HA := Lib.hid (AnRow.app HR20.out HMI.out (Nat.le_trans HUW.out.size (HUC.out.trans_ext ((Upto.refl [] _).alloc (.cells #[.int .i64 ro, .slice ra1 rn1 rc1, .int .i64 rs, .int .i64 rn, .int .i64 rm, .slice ra2 rn2 rc2] 25))).size) (HNX.out.ext ((Upto.refl [] _).alloc (.cells #[.int .i64 ro, .slice ra1 rn1 rc1, .int .i64 rs, .int .i64 rn, .int .i64 rm, .slice ra2 rn2 rc2] 25))) ho hu hw); have HU21 : Hid (Upto [] w4 w21) := Lib.hid ((HUW.out.trans_ext (HUC.out.trans_ext ((Upto.refl [] _).alloc (.cells #[.int .i64 ro, .slice ra1 rn1 rc1, .int .i64 rs, .int .i64 rn, .int .i64 rm, .slice ra2 rn2 rc2] 25)))).trans hu (fun k hk => Or.inr (HR20.out.own k (Option.mem_toList.1 hk)))); have HTT : Hid (SlP w21 (fun b => ((Pt b ∧ b < w.heap.size) ∨ W.heap.size ≤ b) ∧ (Value.slice vb (i + 1) vd).ownBlock ≠ some b) (.slice rt (apN x ((b, s9) :: e) (apL (l.take i) ((b, s9) :: e) (tk ++ [s9])).2).2.length rtc) (apN x ((b, s9) :: e) (apL (l.take i) ((b, s9) :: e) (tk ++ [s9])).2).2.length ((apN x ((b, s9) :: e) (apL (l.take i) ((b, s9) :: e) (tk ++ [s9])).2).2.map sV)) := Lib.hid (tk_keep HTX9.out hu hw (fun b hb => by rcases hb with hb | hb; exact hb.1.2; exact fun e => by have h2 := own_ne HRW.out.row b e; have h5 := (HIB.out.2.2 b (List.mem_range'_1.2 hb)).1; omega) (fun b hb => by rcases hb with hb | hb; exact hb.1.1; exact Or.inr (by have h5 := (HIB.out.2.2 b (List.mem_range'_1.2 hb)).1; have h3 := HW4.out; have h4 := HUW.out.size; omega))); clear hrow2 hsrc2 ho hu hw)
      exact ⟨⟨i + 1, vb, vd, _, rt, _, rtc, by omega, by simp, rfl, rfl, Lib.hid (by rw [HTM.out]), Lib.hid (by rw [HTM.out]; exact HTT.out), HU21, Lib.hid (by rw [HTM.out]; exact HA.out)⟩, by simp [intOf]; omega⟩
    · obtain rfl : i = n2 := by omega
      have HTT : Hid (l.take i = l) := Lib.hid (by rw [← HN2.out, List.take_length])
      rw [HTT.out] at HRW HTS HTN
      obtain ⟨x0, x1, x2, x3, x4, x5⟩ := cells6 HBW.out
      go_wp2_with fail
      refine (with51_calls op so nn mm _ _ _ _ _ _ _ _ _ _ _ _ wr).mono ?_
      rintro r w22 ⟨rfl, hu22⟩
      have HZ22 := Lib.hid ((HUW.out.trans_ext hu22).at HZ4.out (by simp))
      have HU22 := Lib.hid (HU4.out.trans_ext (HUW.out.trans_ext hu22))
      have HNM22 := Lib.hid (HNM4.out.ext (HUW.out.trans_ext hu22))
      have HR22 := Lib.hid (HRW.out.ext hu22)
      have HTS22 := Lib.hid (HTS.out.ext hu22)
      clear hu22 x0 x1 x2 x3 x4 x5
      obtain ⟨y0, y1, y2, y3, y4, y5⟩ := cells6 HZ22.out
      obtain ⟨f0, f1, f2, f3, f4, f5⟩ := frees6 HZ22.out
      go_wp2_with fail
      clear y0 y1 y2 y3 y4 y5 f0 f1 f2 f3 f4 f5
      have hst := nd_store HZ22.out (.int .i64 op) (.slice (some ⟨w6.heap.size, 0, none⟩) 1 1) (.int .i64 so) (.int .i64 nn) (.int .i64 mm) (.slice va2 i vc2)
      have hself := nd_self w22 (w.heap.size + 1 + 1) (.int .i64 op) (.slice (some ⟨w6.heap.size, 0, none⟩) 1 1) (.int .i64 so) (.int .i64 nn) (.int .i64 mm) (.slice va2 i vc2)
      have hup := nd_up HU22.out (B := w.heap.size + 1 + 1) (Or.inr (by omega)) (.int .i64 op) (.slice (some ⟨w6.heap.size, 0, none⟩) 1 1) (.int .i64 so) (.int .i64 nn) (.int .i64 mm) (.slice va2 i vc2)
      have hnd : NdV w22 (fun b => (P b ∧ b < w.heap.size) ∨ W.heap.size ≤ b) (.mk op L9 so nn mm (apL l ((b, s9) :: e) (tk ++ [s9])).1) (.agg #[.int .i64 op, .slice (some ⟨w6.heap.size, 0, none⟩) 1 1, .int .i64 so, .int .i64 nn, .int .i64 mm, .slice va2 i vc2]) := by
        unfold NdV
        refine ⟨_, _, rfl, by have := HNM22.out; rwa [HLN.out], ?_⟩
        have := HR22.out.list (Q := fun b => (P b ∧ b < w.heap.size) ∨ W.heap.size ≤ b) (fun b hb => hb) (fun g hg => Or.inr (Nat.le_trans HW4.out hg))
        rwa [HMI2.out] at this ⊢
      have hnd2 := (hnd.upto hself (fun b hb _ hm => by have h1 := HWZ.out; simp at hm; omega)).mono (Q := fun b => P b ∨ New w b) (fun b hb _ => hb.imp (fun h2 => h2.1) (fun h2 => by have h1 := HWZ.out; unfold New; omega))
      have htk2 := (HTS22.out.upto hself (fun b hb _ hm => by have h1 := HWZ.out; have h2 := hb.1; simp at hm; omega)).mono (Q := fun b => Pt b ∨ New w b) (fun b hb _ => hb.1.imp (fun h2 => h2.1) (fun h2 => by have h1 := HWZ.out; unfold New; omega))
      obtain ⟨q0, q1, q2, q3, q4, q5⟩ := cells6 hst
      refine bodyPost_ret (v := .tuple #[.agg #[.int .i64 op, .slice (some ⟨w6.heap.size, 0, none⟩) 1 1, .int .i64 so, .int .i64 nn, .int .i64 mm, .slice va2 i vc2], .slice ta9 tn9 tc9]) (by simp [results, Tryz.results65, go_sem, q0, q1, q2, q3, q4, q5]) rfl ?_
      rw [HGO.out]
      refine ⟨op, so, nn, mm, (some ⟨w6.heap.size, 0, none⟩), 1, 1, va2, i, vc2, ta9, tc9, ?_, hnd2, ?_, hup⟩
      · show _ = Ending.returned (.tuple #[_, .slice ta9 (apL l ((b, s9) :: e) (tk ++ [s9])).2.length tc9])
        rw [HTN.out]
      · show SlP _ _ (.slice ta9 (apL l ((b, s9) :: e) (tk ++ [s9])).2.length tc9) (apL l ((b, s9) :: e) (tk ++ [s9])).2.length _
        rw [HTN.out]
        exact htk2
end Go.Proofs.YtbnebkkpmcjmbaaGreatDoor


namespace Go.Proofs.YtbnebkkpmcjmbaaGreatDoor
open Go.RowKit Go.PL Go.Maps
theorem apR_calls : ∀ (d : Nat), ApH d ApPost
  | 0 => fun x v P Pt Qe e tk a1 a2 a3 ta c1 c2 c3 n tn tc u h hE htn hT => by
    cases x
    have := h.deep
    simp only [depthF] at this
    omega
  | d + 1 => fun x v P Pt Qe e tk a1 a2 a3 ta c1 c2 c3 n tn tc u h hE htn hT => by
    obtain ⟨op, nms, so, nn, mm, l⟩ := x
    cases hb : bindsF op nms.length with
    | false => exact ap_plain_calls d (apR_calls d) op so nn mm nms l v P Pt Qe e tk a1 a2 a3 ta c1 c2 c3 n tn tc u hb h hE htn hT
    | true =>
      have hone := one_of _ h.form
      unfold oneN at hone
      obtain ⟨h1, -⟩ := hone.1 hb
      obtain ⟨b, hnm⟩ := List.length_eq_one_iff.1 h1
      exact ap_bind_calls d (apR_calls d) op so nn mm nms l b hnm v P Pt Qe e tk a1 a2 a3 ta c1 c2 c3 n tn tc u hb h hE htn hT
theorem six1_store {w : World} {B : Nat} {z a b c d e f : Value} {T : TypeId} (h : w.heap[B]? = some (.cells #[z, a, b, c, d, e, f] T (0, 0))) (a' b' c' d' e' f' : Value) :
    ((((((w.setCell ⟨B, 1, none⟩ a').setCell ⟨B, 2, none⟩ b').setCell ⟨B, 3, none⟩ c').setCell ⟨B, 4, none⟩ d').setCell ⟨B, 5, none⟩ e').setCell ⟨B, 6, none⟩ f').heap[B]? = some (.cells #[z, a', b', c', d', e', f'] T (0, 0)) := by
  have := set_same (set_same (set_same (set_same (set_same (set_same h 1 a') 2 b') 3 c') 4 d') 5 e') 6 f'
  simpa using this
theorem six1_self (w : World) (B : Nat) (a' b' c' d' e' f' : Value) :
    Upto [B] w ((((((w.setCell ⟨B, 1, none⟩ a').setCell ⟨B, 2, none⟩ b').setCell ⟨B, 3, none⟩ c').setCell ⟨B, 4, none⟩ d').setCell ⟨B, 5, none⟩ e').setCell ⟨B, 6, none⟩ f') :=
  have hB : ∀ {p : Addr}, p.block = B → p.block ∈ [B] ∨ w.heap.size ≤ p.block := fun h => Or.inl (by simp [h])
  ((((((Upto.refl _ w).setCell (hB rfl) _).setCell (hB rfl) _).setCell (hB rfl) _).setCell (hB rfl) _).setCell (hB rfl) _).setCell (hB rfl) _
def takF (q : Qn) (j : Nat) : List (List UInt8) := ((q.free.take j).map Prod.fst).foldl plusF (freeR q.body)
/-- the names that Apart begins with -/
def takenR (q : Qn) : List (List UInt8) := (q.free.map Prod.fst).foldl plusF (freeR q.body)
/-- the question that Apart answers -/
def apartQ (q : Qn) : Qn := ⟨q.free, (apN q.body [] (takenR q)).1⟩
set_option maxRecDepth 100000 in
set_option maxHeartbeats 25600000 in
theorem apartQ_calls (q : Qn) (v : Value) (w : World) (P : Nat → Prop) (h : QnV w P q v) (hf : formF nameF q.body = 0) (hl : q.free.length ≤ 100) (hn : nmsF q.body + sizeF q.body + 2 ≤ 3000) : Calls Tryz.prog 34 #[v] w fun r w' => ∃ v', r = .returned v' ∧ QnV w' (fun _ => True) (apartQ q) v' ∧ Upto [] w w' := by
  obtain ⟨f1, f3, o1, a1, a2, a3, s1, n1, m1, l1, l2, l3, rfl, hv, hnd⟩ := h.open
  have HV := Lib.hid hv
  have HG := Lib.hid (vars_slice hv)
  have HND := Lib.hid (hnd.mono (Q := fun b => P b ∧ b < w.heap.size) (fun b hb hl => ⟨hb, hl.lt⟩))
  have HFO := Lib.hid hf
  have HSZ := Lib.hid hn
  have hgd := (good_of _ hf).1
  have HFR := Lib.hid (fun u (hu : Upto [] w u) => freeRef_calls (sizeF q.body) q.body (Nat.le_refl _) (by omega) hgd (by omega) _ u P (hnd.ext hu))
  have HTL : Hid (∀ j, (takF q j).length ≤ 3100) := Lib.hid (fun j => by
    unfold takF
    have h1 := fold_len ((q.free.take j).map Prod.fst) (freeR q.body)
    have h2 := freeR_len q.body
    rw [List.length_map, List.length_take] at h1
    omega)
  have hL0 : (0 : Int) ≤ q.free.length := by omega
  have hL1 : (q.free.length : Int) ≤ 100 := by omega
  clear h hv hnd hf hn hgd
  obtain ⟨W, hW⟩ : ∃ W, W = (w.alloc (.cells #[.slice f1 q.free.length f3, .int .i64 o1, .slice a1 a2 a3, .int .i64 s1, .int .i64 n1, .int .i64 m1, .slice l1 l2 l3] 50)).alloc (.cells #[.slice none 0 0, .int .i64 0, .slice none 0 0, .int .i64 0, .int .i64 0, .int .i64 0, .slice none 0 0] 50) := ⟨_, rfl⟩
  have HU : Hid (Upto [] w W) := Lib.hid (by rw [hW]; exact ((Upto.refl [] w).alloc _).alloc _)
  have HB1 : Hid (W.heap[w.heap.size]? = some (.cells #[.slice f1 q.free.length f3, .int .i64 o1, .slice a1 a2 a3, .int .i64 s1, .int .i64 n1, .int .i64 m1, .slice l1 l2 l3] 50 (0, 0))) := Lib.hid (by rw [hW]; exact alloc_old (new_at w _) _)
  have HB2 : Hid (W.heap[w.heap.size + 1]? = some (.cells #[.slice none 0 0, .int .i64 0, .slice none 0 0, .int .i64 0, .int .i64 0, .int .i64 0, .slice none 0 0] 50 (0, 0))) := Lib.hid (by rw [hW]; exact new_at1 w _ _)
  obtain ⟨y0, y1, y2, y3, y4, y5, y6⟩ := cells7 HB1.out
  go_enter Tryz.func34, Tryz.ntmps34
  go_wp2_with fail
  simp only [← hW]
  clear hW
  try go_wp2_with fail
  refine (HFR.out _ HU.out).mono ?_
  rintro r w2 ⟨vt, rfl, hr2⟩
  obtain ⟨ta2, tc2, rfl⟩ := hr2.slp.len
  have HR2 := Lib.hid hr2
  have HU2 := Lib.hid (HU.out.trans_ext hr2.up)
  have HC1 := Lib.hid (hr2.up.at HB1.out (by simp))
  have HC2 := Lib.hid (hr2.up.at HB2.out (by simp))
  clear hr2 y0 y1 y2 y3 y4 y5 y6
  obtain ⟨y0, y1, y2, y3, y4, y5, y6⟩ := cells7 HC1.out
  go_wp2_with fail
  go_loopw [3, 4] (fun tv i wr => ∃ (j : Nat) (ta : Option Addr) (tn tc : Nat), j ≤ q.free.length ∧ i = .int .i64 j ∧ tv = .slice ta tn tc ∧ Hid ((takF q j).length = tn) ∧ Hid (SlP wr (fun _ => True) (.slice ta tn tc) tn ((takF q j).map sV)) ∧ Hid (Upto [] w2 wr)) (fun _ i _ => q.free.length - (intOf i).toNat)
  case atStart => exact ⟨0, ta2, _, tc2, by omega, rfl, rfl, Lib.hid rfl, Lib.hid (HR2.out.slp.mono (fun _ _ _ => trivial)), Lib.hid (Upto.refl _ _)⟩
  case round =>
    obtain ⟨j, ta, tn, tc, hj, rfl, rfl, HN, HT, HW⟩ := hrel
    have hj0 : (0 : Int) ≤ j := by omega
    have HD1 := Lib.hid (HW.out.at HC1.out (by simp))
    clear y0 y1 y2 y3 y4 y5 y6
    obtain ⟨y0, y1, y2, y3, y4, y5, y6⟩ := cells7 HD1.out
    rcases Nat.lt_or_ge j q.free.length with hlt | hge
    · have hltI : (j : Int) < q.free.length := by omega
      obtain ⟨x, hx⟩ : ∃ x, q.free[j]? = some x := ⟨_, List.getElem?_eq_getElem hlt⟩
      have HTK : Hid (takF q (j + 1) = plusF (takF q j) x.1) := Lib.hid (by
        unfold takF
        rw [List.take_add_one, hx]
        simp)
      obtain ⟨g, o, rfl, c0, -⟩ := HG.out j x hx
      have HGx := HG
      have hw := HU2.out.trans_ext HW.out
      replace c0 := up_cell hw c0
      obtain ⟨x1, x2⟩ := x
      simp only at c0 HTK
      have HPL := Lib.hid (plus_calls (takF q j) x1 (.slice ta tn tc) wr (fun _ => True) (by rw [HN.out]; exact HT.out) (by have := HTL.out j; omega))
      clear hx hw
      go_wp2_with fail
      refine HPL.out.mono ?_
      rintro r w5 ⟨vt, rfl, ht5, hu5⟩
      obtain ⟨ta5, tc5, rfl⟩ := ht5.len
      have HT5 := Lib.hid (ht5.mono (Q := fun _ => True) (fun _ _ _ => trivial))
      have HV5 := Lib.hid (HW.out.trans_ext hu5)
      clear hu5 ht5 HPL c0 y0 y1 y2 y3 y4 y5 y6
      go_wp2_with fail
      exact ⟨⟨j + 1, ta5, _, tc5, by omega, by simp, rfl, Lib.hid (by rw [HTK.out]), Lib.hid (by rw [HTK.out]; exact HT5.out), HV5⟩, by simp [intOf]; omega⟩
    · obtain rfl : j = q.free.length := by omega
      have HTT : Hid (takF q q.free.length = takenR q) := Lib.hid (by unfold takF; rw [List.take_length]; rfl)
      have hTL := HTL.out q.free.length
      rw [HTT.out] at HN HT hTL
      have HW9 := Lib.hid (HU2.out.trans_ext HW.out)
      have HAP := Lib.hid (apR_calls (depthF q.body) q.body (.agg #[.int .i64 o1, .slice a1 a2 a3, .int .i64 s1, .int .i64 n1, .int .i64 m1, .slice l1 l2 l3]) (fun b => P b ∧ b < w.heap.size) (fun _ => True) (fun _ => True) [] (takenR q) none none none ta 0 0 0 0 tn tc wr ⟨HND.out.ext HW9.out, Nat.le_refl _, HFO.out, by have := HSZ.out; omega, by have := HSZ.out; omega, by have := HSZ.out; have := depth_le_size q.body; simp; omega, by simp⟩ ⟨rfl, SlP.nil, SlP.nil, [], rfl, by simp, SlP.nil⟩ HN.out HT.out)
      clear hTL
      go_wp2_with fail
      refine HAP.out.mono ?_
      rintro r w6 ⟨po, ps, pn, pm, pa1, pn1, pc1, pa2, pn2, pc2, pta, ptc, rfl, hn6, -, hu6⟩
      have HN6 := Lib.hid hn6
      have HU6 := Lib.hid (HW9.out.trans_ext hu6)
      have HE1 := Lib.hid (hu6.at HD1.out (by simp))
      have HE2 := Lib.hid (hu6.at (HW.out.at HC2.out (by simp)) (by simp))
      have HSW : Hid (w.heap.size + 1 < wr.heap.size) := Lib.hid (lt_of_heap (HW.out.at HC2.out (by simp)))
      clear hn6 hu6 HAP y0 y1 y2 y3 y4 y5 y6
      obtain ⟨y0, y1, y2, y3, y4, y5, y6⟩ := cells7 HE1.out
      obtain ⟨f0, f1, f2, f3, f4, f5, f6⟩ := frees7 HE1.out
      obtain ⟨z0, z1, z2, z3, z4, z5, z6⟩ := cells7 HE2.out
      obtain ⟨g0, g1, g2, g3, g4, g5, g6⟩ := frees7 HE2.out
      have HST := Lib.hid (six1_store HE1.out (.int .i64 po) (.slice pa1 pn1 pc1) (.int .i64 ps) (.int .i64 pn) (.int .i64 pm) (.slice pa2 pn2 pc2))
      obtain ⟨k0, k1, k2, k3, k4, k5, k6⟩ := cells7 HST.out
      go_wp2_with fail
      clear y0 y1 y2 y3 y4 y5 y6 f0 f1 f2 f3 f4 f5 f6 z0 z1 z2 z3 z4 z5 z6 g0 g1 g2 g3 g4 g5 g6 k0 k1 k2 k3 k4 k5 k6
      have hE2 : (((((((w6.setCell ⟨w.heap.size, 1, none⟩ (.int .i64 po)).setCell ⟨w.heap.size, 2, none⟩ (.slice pa1 pn1 pc1)).setCell ⟨w.heap.size, 3, none⟩ (.int .i64 ps)).setCell ⟨w.heap.size, 4, none⟩ (.int .i64 pn)).setCell ⟨w.heap.size, 5, none⟩ (.int .i64 pm)).setCell ⟨w.heap.size, 6, none⟩ (.slice pa2 pn2 pc2))).heap[w.heap.size + 1]? = some (.cells #[.slice none 0 0, .int .i64 0, .slice none 0 0, .int .i64 0, .int .i64 0, .int .i64 0, .slice none 0 0] 50 (0, 0)) := (six1_self w6 w.heap.size (.int .i64 po) (.slice pa1 pn1 pc1) (.int .i64 ps) (.int .i64 pn) (.int .i64 pm) (.slice pa2 pn2 pc2)).at HE2.out (by simp)
      have hst := set7_at hE2 (.slice f1 q.free.length f3) (.int .i64 po) (.slice pa1 pn1 pc1) (.int .i64 ps) (.int .i64 pn) (.int .i64 pm) (.slice pa2 pn2 pc2)
      have h1 := six1_self w6 w.heap.size (.int .i64 po) (.slice pa1 pn1 pc1) (.int .i64 ps) (.int .i64 pn) (.int .i64 pm) (.slice pa2 pn2 pc2)
      have h2 := set7_up (Upto.refl [w.heap.size + 1] (((((((w6.setCell ⟨w.heap.size, 1, none⟩ (.int .i64 po)).setCell ⟨w.heap.size, 2, none⟩ (.slice pa1 pn1 pc1)).setCell ⟨w.heap.size, 3, none⟩ (.int .i64 ps)).setCell ⟨w.heap.size, 4, none⟩ (.int .i64 pn)).setCell ⟨w.heap.size, 5, none⟩ (.int .i64 pm)).setCell ⟨w.heap.size, 6, none⟩ (.slice pa2 pn2 pc2)))) (R := w.heap.size + 1) (Or.inl (by simp)) (.slice f1 q.free.length f3) (.int .i64 po) (.slice pa1 pn1 pc1) (.int .i64 ps) (.int .i64 pn) (.int .i64 pm) (.slice pa2 pn2 pc2)
      have hup := set7_up (HU6.out.trans h1 (fun b hb => Or.inr (by simp at hb; omega))) (R := w.heap.size + 1) (Or.inr (by omega)) (.slice f1 q.free.length f3) (.int .i64 po) (.slice pa1 pn1 pc1) (.int .i64 ps) (.int .i64 pn) (.int .i64 pm) (.slice pa2 pn2 pc2)
      have hnd := ((HN6.out.upto h1 (fun b hb _ hm => by have := HSW.out; simp at hm; unfold New at hb; omega)).upto h2 (fun b hb _ hm => by have := HSW.out; simp at hm; unfold New at hb; omega)).mono (Q := fun _ => True) (fun _ _ _ => trivial)
      have hvs := (((HV.out.mono (Q := fun b => P b ∧ b < w.heap.size) (fun b hb hl => ⟨hb, hl.lt⟩)).ext HU6.out).upto h1 (fun b hb _ hm => by simp at hm; omega)).upto h2 (fun b hb _ hm => by simp at hm; omega)
      obtain ⟨q0, q1, q2, q3, q4, q5, q6⟩ := cells7 hst
      exact bodyPost_ret (v := .agg #[.slice f1 q.free.length f3, .int .i64 po, .slice pa1 pn1 pc1, .int .i64 ps, .int .i64 pn, .int .i64 pm, .slice pa2 pn2 pc2]) (by simp [results, Tryz.results34, go_sem, q0, q1, q2, q3, q4, q5, q6]) rfl ⟨_, rfl, ⟨_, _, _, _, _, _, _, rfl, SlP.mono hvs (fun _ _ _ => trivial), hnd⟩, hup⟩
end Go.Proofs.YtbnebkkpmcjmbaaGreatDoor


namespace Go.Proofs.YtbnebkkpmcjmbaaGreatDoor
open Go.RowKit Go.PL Go.Maps
theorem apP_calls (w0 : World) (hE0 : Env w0) (hP0 : PowT w0) : ∀ (d : Nat), AqH w0 d
  | 0 => fun x v lo hi e mb tk B a n c u hown hok hat => by
    cases x
    have := hok.deep
    simp only [depthF] at this
    omega
  | d + 1 => fun x v lo hi e mb tk B a n c u hown hok hat => by
    obtain ⟨op, nms, so, nn, mm, l⟩ := x
    cases hb : bindsF op nms.length with
    | false => exact aq_plain_calls w0 d (apP_calls w0 hE0 hP0 d) op so nn mm nms l v lo hi e mb tk B a n c u hb hown hok hat
    | true =>
      have hone := one_of _ hok.form
      unfold oneN at hone
      obtain ⟨h1, -⟩ := hone.1 hb
      obtain ⟨b, hnm⟩ := List.length_eq_one_iff.1 h1
      exact aq_bind_calls w0 hE0 hP0 d (apP_calls w0 hE0 hP0 d) op so nn mm nms l b hnm v lo hi e mb tk B a n c u hb hown hok hat
/-- the box is given a new list -/
theorem TkB.put {w w1 w2 : World} {B : Nat} {a vb : Option Addr} {n c k vd : Nat} {tk tk2 : List (List UInt8)} (h : TkB w B a n c tk) (he : Upto [] w w1) (ho : w2.ownsRow 0 9 1 (.slice vb k vd) k (tk2.map sV)) (hk : tk2.length = k) (hu : Upto (Value.slice a n c).ownBlock.toList w1 w2)
    (hw : ∀ g, (Value.slice vb k vd).ownBlock = some g → (Value.slice a n c).ownBlock = some g ∨ w1.heap.size ≤ g) : TkB (w2.setCell ⟨B, 0, none⟩ (.slice vb k vd)) B vb k vd tk2 ∧ Upto (B :: (Value.slice a n c).ownBlock.toList) w1 (w2.setCell ⟨B, 0, none⟩ (.slice vb k vd)) ∧ w2.heap[B]? = some (.cells #[.slice a n c] 22 (0, 0)) := by
  have h1 := h.ext he
  have hbox : w2.heap[B]? = some (.cells #[.slice a n c] 22 (0, 0)) := hu.at h1.box (fun hm => (h1.lt.2 B (Option.mem_toList.1 hm)).2 rfl)
  have hs : Upto [B] w2 (w2.setCell ⟨B, 0, none⟩ (.slice vb k vd)) := (Upto.refl [B] w2).setCell (p := ⟨B, 0, none⟩) (Or.inl (by simp)) _
  refine ⟨⟨by have := set_same hbox 0 (.slice vb k vd); simpa using this, ownsRow_upto ho hs (fun q hq hm => ?_), hk⟩, (hu.mono (fun b hb => List.mem_cons_of_mem _ hb)).trans hs (fun b hb => Or.inl (by simp at hb; simp [hb])), hbox⟩
  simp at hm
  rcases hw q hq with h2 | h2
  · exact (h1.lt.2 q h2).2 hm
  · have := h1.lt.1; omega
theorem TkB.offT {w : World} {lo hi B : Nat} {a : Option Addr} {n c : Nat} {tk : List (List UInt8)} (h : TkB w B a n c tk) {b : Nat} {cs : Array Value} {z : Nat × Nat} (hb : w.heap[b]? = some (.cells cs 53 z)) (ho : b < lo ∨ hi ≤ b) : b ∉ Sq lo hi B (.slice a n c) := fun hm => by
  rw [mem_sq] at hm
  rcases hm with hm | hm | hm
  · omega
  · rw [hm, h.box] at hb
    injection hb with hb
    injection hb with _ h2
    cases h2
  · obtain ⟨cur, hh⟩ := ownsRow_block h.row hm
    rw [hh] at hb
    injection hb with hb
    injection hb with _ h2
    cases h2
/-- the names that UniqueBinders begins with -/
def takenP (q : Qn) : List (List UInt8) := q.free.map Prod.fst ++ freeP q.body [] []
/-- the question that UniqueBinders answers -/
def uniqQ (q : Qn) : Qn := ⟨q.free, (apN q.body [] (takenP q)).1⟩
set_option maxRecDepth 100000 in
set_option maxHeartbeats 6400000 in
theorem uniq_err (q : Qn) (v : Value) (w : World) (P : Nat → Prop) (h : QnV w P q v) (hk : sizeF q.body ≤ 10000000) (hin : inN 10000000 q.body) (hfn : ∀ y ∈ q.free, y.1.length ≤ 10000000) (hE : Env w ∧ SEnv w ∧ FEnv w) (hr : rightF nameF q ≠ 0) : Calls Tryz.prog 29 #[v] w fun r w' => r = .returned (.tuple #[zeroQ, .int .i64 (rightF nameF q : Nat)]) ∧ Upto [] w w' := by
  have HCQ := Lib.hid (fun u (hu : Upto [] w u) => checkq_calls q v u P (h.keep (Keep.upto hu (by simp))) hk hin hfn ⟨hE.1.ext hu, hE.2.1.upto hu (by simp), hE.2.2.ext hu⟩)
  obtain ⟨R, hR⟩ : ∃ R, R = rightF nameF q := ⟨_, rfl⟩
  rw [← hR] at HCQ hr ⊢
  have hr1 : ((R : Int) == 0) = false := by rw [beq_eq_false_iff_ne]; omega
  have hr2 : ((R : Int) != 0) = true := by rw [bne_iff_ne]; omega
  have hr3 : ¬ (R : Int) = 0 := by omega
  obtain ⟨f1, f3, o1, a1, a2, a3, s1, n1, m1, l1, l2, l3, rfl, hv, hnd⟩ := h.open
  clear h hk hin hfn hE hv hnd hR hr
  obtain ⟨W, hW⟩ : ∃ W, W = (w.alloc (.cells #[.slice f1 q.free.length f3, .int .i64 o1, .slice a1 a2 a3, .int .i64 s1, .int .i64 n1, .int .i64 m1, .slice l1 l2 l3] 53)).alloc (.cells #[.slice none 0 0, .int .i64 0, .slice none 0 0, .int .i64 0, .int .i64 0, .int .i64 0, .slice none 0 0] 53) := ⟨_, rfl⟩
  have HU : Hid (Upto [] w W) := Lib.hid (by rw [hW]; exact ((Upto.refl [] w).alloc _).alloc _)
  have HB1 : Hid (W.heap[w.heap.size]? = some (.cells #[.slice f1 q.free.length f3, .int .i64 o1, .slice a1 a2 a3, .int .i64 s1, .int .i64 n1, .int .i64 m1, .slice l1 l2 l3] 53 (0, 0))) := Lib.hid (by rw [hW]; exact alloc_old (new_at w _) _)
  have HB2 : Hid (W.heap[w.heap.size + 1]? = some (.cells #[.slice none 0 0, .int .i64 0, .slice none 0 0, .int .i64 0, .int .i64 0, .int .i64 0, .slice none 0 0] 53 (0, 0))) := Lib.hid (by rw [hW]; exact new_at1 w _ _)
  obtain ⟨y0, y1, y2, y3, y4, y5, y6⟩ := cells7 HB1.out
  go_enter Tryz.func29, Tryz.ntmps29
  go_wp2_with fail
  simp only [← hW]
  clear hW
  try go_wp2_with fail
  refine (HCQ.out _ HU.out).mono ?_
  rintro r w2 ⟨rfl, hu2⟩
  have HU2 := Lib.hid (HU.out.trans_ext hu2)
  have HC2 := Lib.hid (hu2.at HB2.out (by simp))
  clear hu2 y0 y1 y2 y3 y4 y5 y6
  obtain ⟨z0, z1, z2, z3, z4, z5, z6⟩ := cells7 HC2.out
  obtain ⟨g0, g1, g2, g3, g4, g5, g6⟩ := frees7 HC2.out
  go_wp2_with fail
  clear z0 z1 z2 z3 z4 z5 z6 g0 g1 g2 g3 g4 g5 g6
  have hst := set7_at HC2.out (.slice none 0 0) (.int .i64 0) (.slice none 0 0) (.int .i64 0) (.int .i64 0) (.int .i64 0) (.slice none 0 0)
  have hup := set7_up HU2.out (R := w.heap.size + 1) (Or.inr (by omega)) (.slice none 0 0) (.int .i64 0) (.slice none 0 0) (.int .i64 0) (.int .i64 0) (.int .i64 0) (.slice none 0 0)
  obtain ⟨q0, q1, q2, q3, q4, q5, q6⟩ := cells7 hst
  exact bodyPost_ret (v := .tuple #[zeroQ, .int .i64 R]) (by simp [results, Tryz.results29, go_sem, q0, q1, q2, q3, q4, q5, q6, zeroQ]) rfl ⟨rfl, hup⟩
set_option maxRecDepth 100000 in
set_option maxHeartbeats 25600000 in
theorem uniq_ok (q : Qn) (v : Value) (w : World) (P : Nat → Prop) (h : QnV w P q v) (hk : sizeF q.body ≤ 1000) (hin : inN 10000000 q.body) (hfn : ∀ y ∈ q.free, y.1.length ≤ 10000000) (hE : Env w ∧ SEnv w ∧ FEnv w) (hpw : PowT w) (hr : rightF nameF q = 0) (hf : formF nameF q.body = 0) (hl : q.free.length ≤ 100) (hn : nmsF q.body + sizeF q.body + 2 ≤ 3000) :
    Calls Tryz.prog 29 #[v] w fun r w' => ∃ v', r = .returned (.tuple #[v', .int .i64 0]) ∧ QnV w' (fun _ => True) (uniqQ q) v' ∧ Upto [] w w' := by
  have HCQ : Hid (∀ u, Upto [] w u → Calls Tryz.prog 62 #[v] u fun e w' => e = .returned (.int .i64 0) ∧ Upto [] u w') := Lib.hid (fun u (hu : Upto [] w u) => by
    have := checkq_calls q v u P (h.keep (Keep.upto hu (by simp))) (by omega) hin hfn ⟨hE.1.ext hu, hE.2.1.upto hu (by simp), hE.2.2.ext hu⟩
    rwa [hr] at this)
  obtain ⟨f1, f3, o1, a1, a2, a3, s1, n1, m1, l1, l2, l3, rfl, hv, hnd⟩ := h.open
  have HG := Lib.hid (vars_slice hv)
  have HVC := Lib.hid (fun u (hu : Upto [] w u) => vclone_calls q.free _ u P (by omega) (SlP.ext hv hu))
  have hgd := (good_of _ hf).1
  have HFR := Lib.hid (fun u (hu : Upto [] w u) => FreeT_calls q.body _ u P (hnd.ext hu) (by omega) hgd (by omega))
  have HCL := Lib.hid (fun u (hu : Upto [] w u) => tclone_calls 1000 q.body hk (by omega) (inN.big (M := 10000000) (by omega) q.body hin) P _ u (hnd.ext hu))
  have HAP := Lib.hid (apP_calls w hE.1 hpw (depthF q.body))
  have hLF : (freeP q.body [] []).length ≤ 3000 := by
    have := freeP_len q.body [] []
    simp at this
    omega
  have HLF := Lib.hid hLF
  have HOK : Hid (AqOk (depthF q.body) q.body [] (takenP q)) := Lib.hid ⟨Nat.le_refl _, hf, by omega, by unfold takenP; rw [List.length_append, List.length_map]; omega, by simp⟩
  have hL0 : (0 : Int) ≤ q.free.length := by omega
  have hL1 : (q.free.length : Int) ≤ 100 := by omega
  clear h hk hin hfn hE hv hnd hr hf hn hgd hpw
  obtain ⟨W, hW⟩ : ∃ W, W = (w.alloc (.cells #[.slice f1 q.free.length f3, .int .i64 o1, .slice a1 a2 a3, .int .i64 s1, .int .i64 n1, .int .i64 m1, .slice l1 l2 l3] 53)).alloc (.cells #[.slice none 0 0, .int .i64 0, .slice none 0 0, .int .i64 0, .int .i64 0, .int .i64 0, .slice none 0 0] 53) := ⟨_, rfl⟩
  have HU : Hid (Upto [] w W) := Lib.hid (by rw [hW]; exact ((Upto.refl [] w).alloc _).alloc _)
  have HB1 : Hid (W.heap[w.heap.size]? = some (.cells #[.slice f1 q.free.length f3, .int .i64 o1, .slice a1 a2 a3, .int .i64 s1, .int .i64 n1, .int .i64 m1, .slice l1 l2 l3] 53 (0, 0))) := Lib.hid (by rw [hW]; exact alloc_old (new_at w _) _)
  have HB2 : Hid (W.heap[w.heap.size + 1]? = some (.cells #[.slice none 0 0, .int .i64 0, .slice none 0 0, .int .i64 0, .int .i64 0, .int .i64 0, .slice none 0 0] 53 (0, 0))) := Lib.hid (by rw [hW]; exact new_at1 w _ _)
  obtain ⟨y0, y1, y2, y3, y4, y5, y6⟩ := cells7 HB1.out
  go_enter Tryz.func29, Tryz.ntmps29
  go_wp2_with fail
  simp only [← hW]
  clear hW
  try go_wp2_with fail
  refine (HCQ.out _ HU.out).mono ?_
  rintro r w2 ⟨rfl, hu2⟩
  have HU2 := Lib.hid (HU.out.trans_ext hu2)
  have HC1 := Lib.hid (hu2.at HB1.out (by simp))
  have HC2 := Lib.hid (hu2.at HB2.out (by simp))
  clear hu2 y0 y1 y2 y3 y4 y5 y6
  obtain ⟨y0, y1, y2, y3, y4, y5, y6⟩ := cells7 HC1.out
  go_wp2_with fail
  refine (HVC.out _ HU2.out).mono ?_
  rintro r w3 ⟨vf, rfl, hvf, hu3⟩
  obtain ⟨b1, b3, rfl⟩ := SlP.len hvf
  have HVF := Lib.hid (SlP.mono hvf (Q := fun b => w2.heap.size ≤ b ∧ b < w3.heap.size) (fun b hb hl => ⟨hb.1, hl.lt⟩))
  have HU3 := Lib.hid (HU2.out.trans_ext hu3)
  have HD1 := Lib.hid (hu3.at HC1.out (by simp))
  have HD2 := Lib.hid (hu3.at HC2.out (by simp))
  have HW3 : Hid (w.heap.size + 1 < w2.heap.size ∧ w2.heap.size ≤ w3.heap.size) := Lib.hid ⟨lt_of_heap HC2.out, hu3.size⟩
  clear hvf hu3 y0 y1 y2 y3 y4 y5 y6
  obtain ⟨W5, hW5⟩ : ∃ W5, W5 = (w3.alloc (.cells #[.slice b1 q.free.length b3, .int .i64 0, .slice none 0 0, .int .i64 0, .int .i64 0, .int .i64 0, .slice none 0 0] 53)).alloc (.cells #[.slice none 0 0] 22) := ⟨_, rfl⟩
  have HV5 : Hid (Upto [] w3 W5) := Lib.hid (by rw [hW5]; exact ((Upto.refl [] w3).alloc _).alloc _)
  have HE5 : Hid (W5.heap[w3.heap.size]? = some (.cells #[.slice b1 q.free.length b3, .int .i64 0, .slice none 0 0, .int .i64 0, .int .i64 0, .int .i64 0, .slice none 0 0] 53 (0, 0))) := Lib.hid (by rw [hW5]; exact alloc_old (new_at w3 _) _)
  have HX5 : Hid (W5.heap[w3.heap.size + 1]? = some (.cells #[.slice none 0 0] 22 (0, 0))) := Lib.hid (by rw [hW5]; exact new_at1 w3 _ _)
  have HZ5 : Hid (W5.heap.size = w3.heap.size + 2) := Lib.hid (by rw [hW5]; show ((w3.heap.push _).push _).size = _; simp)
  have hF1 : ((w3.alloc (.cells #[.slice b1 q.free.length b3, .int .i64 0, .slice none 0 0, .int .i64 0, .int .i64 0, .int .i64 0, .slice none 0 0] 53)).alloc (.cells #[.slice none 0 0] 22)).heap[w.heap.size]? = _ := alloc_old (alloc_old HD1.out _) _
  have HF1 := Lib.hid hF1
  clear hF1
  obtain ⟨y0, y1, y2, y3, y4, y5, y6⟩ := cells7 HD1.out
  obtain ⟨x0, x1, x2, x3, x4, x5, x6⟩ := cells7 HF1.out
  go_wp2_with fail
  try simp only [← hW5]
  have HG1 : Hid (W5.heap[w.heap.size]? = some (.cells #[.slice f1 q.free.length f3, .int .i64 o1, .slice a1 a2 a3, .int .i64 s1, .int .i64 n1, .int .i64 m1, .slice l1 l2 l3] 53 (0, 0))) := Lib.hid (by rw [hW5]; exact HF1.out)
  have HG2 := Lib.hid (HV5.out.at HD2.out (by simp))
  have HU5 := Lib.hid (HU3.out.trans_ext HV5.out)
  clear hW5 HF1 y0 y1 y2 y3 y4 y5 y6 x0 x1 x2 x3 x4 x5 x6
  obtain ⟨i0, hi0, hz0, hz1, hz2⟩ := info9'
  have HI0 := Lib.hid hi0
  have HZ0 := Lib.hid hz0
  have HZ1' := Lib.hid hz1
  have HZ2' := Lib.hid hz2
  clear hi0 hz0 hz1 hz2
  go_loopw [22] (fun i wr => ∃ (j : Nat) (ta : Option Addr) (tc : Nat), j ≤ q.free.length ∧ i = .int .i64 j ∧ Hid (TkB wr (w3.heap.size + 1) ta j tc ((q.free.take j).map Prod.fst)) ∧ Hid (∀ g, (Value.slice ta j tc).ownBlock = some g → W5.heap.size ≤ g) ∧ Hid (Upto [w3.heap.size + 1] W5 wr)) (fun i _ => q.free.length - (intOf i).toNat)
  case atStart => exact ⟨0, none, 0, by omega, rfl, Lib.hid ⟨HX5.out, by simpa using World.ownsRow_nil W5 0 9 1, rfl⟩, Lib.hid (fun g hg => by simp [Value.ownBlock] at hg), Lib.hid (Upto.refl _ _)⟩
  case round =>
    obtain ⟨j, ta, tc, hj, rfl, HT, HO, HW⟩ := hrel
    have hj0 : (0 : Int) ≤ j := by omega
    rcases Nat.lt_or_ge j q.free.length with hlt | hge
    · have hltI : (j : Int) < q.free.length := by omega
      obtain ⟨x, hx⟩ : ∃ x, q.free[j]? = some x := ⟨_, List.getElem?_eq_getElem hlt⟩
      have HTK : Hid ((q.free.take (j + 1)).map Prod.fst = (q.free.take j).map Prod.fst ++ [x.1]) := Lib.hid (by
        rw [List.take_add_one, hx]
        simp)
      obtain ⟨g, o, rfl, c0, c1⟩ := HG.out j x hx
      have HGx := HG
      have hw : Upto [] w wr := HU5.out.trans HW.out (fun b hb => Or.inr (by have := HW3.out; simp at hb; omega))
      replace c0 := up_cell hw c0
      replace c1 := up_cell hw c1
      obtain ⟨x1, x2⟩ := x
      simp only at c0 c1 HTK
      have ha1 : Upto [] wr (wr.alloc (.cells #[.string ⟨x1.toArray⟩, .int .i64 x2] 86)) := (Upto.refl [] wr).alloc _
      have ha2 := ha1.alloc (.cells #[.string ⟨x1.toArray⟩] 9)
      have HA2 := Lib.hid ha2
      have hbx := cell_of (HT.out.ext ha1).box 0
      have hbx2 := cell_of (HT.out.ext ha2).box 0
      have hn := new_at wr (.cells #[.string ⟨x1.toArray⟩, .int .i64 x2] 86)
      have n0 := cell_of hn 0
      simp only [List.getElem?_toArray, List.getElem?_cons_zero] at hbx hbx2 n0
      have hrow := (HT.out.ext ha2).row
      have hsrc : ∀ (i : Nat) (u : Value), [sV x1][i]? = some u → ((wr.alloc (.cells #[.string ⟨x1.toArray⟩, .int .i64 x2] 86)).alloc (.cells #[.string ⟨x1.toArray⟩] 9)).cell? ((⟨wr.heap.size + 1, 0, none⟩ : Addr).add i) = some u := cells_at (l := [sV x1]) (new_at1 wr (.cells #[.string ⟨x1.toArray⟩, .int .i64 x2] 86) (.cells #[.string ⟨x1.toArray⟩] 9))
      clear hx hw ha1 ha2 hn
      go_wp2_with (at_builtin; refine wpList_app _ rfl (.tmp 26) (.tmp 29) 22 rfl 9 i0 (.string ⟨#[]⟩) 1 16 Tryz.underlying22 HI0.out HZ0.out HZ1'.out HZ2'.out rfl (by decide) (.slice ta j tc) j _ rfl hrow ⟨wr.heap.size + 1, 0, none⟩ 1 1 [sV x1] rfl rfl hsrc (by simp [Value.oneCell', sV]) (by unfold maxLen; omega) (by omega) ?_; intro vb vd wb ho hu hw; have HAP2 := Lib.hid (HT.out.put (tk2 := (q.free.take (j + 1)).map Prod.fst) HA2.out (by rw [HTK.out, List.map_append]; exact ho) (by rw [HTK.out, List.length_append, HT.out.len]; rfl) hu hw); have HWO := Lib.hid hw; have hfb := free_of HAP2.out.2.2 0; have hcb := cell_of HAP2.out.2.2 0; simp only [List.getElem?_toArray, List.getElem?_cons_zero] at hcb; clear ho hu hw hrow hsrc hbx hbx2 n0 c0 c1)
      exact ⟨⟨j + 1, vb, vd, by omega, by simp, Lib.hid HAP2.out.1, Lib.hid (fun g hg => (HWO.out g hg).elim (HO.out g) (fun h2 => by have := HA2.out.size; have := HW.out.size; omega)), Lib.hid ((HW.out.trans_ext HA2.out).trans HAP2.out.2.1 (fun b hb => by
        rcases List.mem_cons.1 hb with hb | hb
        · exact Or.inl (by simp [hb])
        · exact Or.inr (HO.out b (Option.mem_toList.1 hb))))⟩, by simp [intOf]; omega⟩
    · obtain rfl : j = q.free.length := by omega
      have HTT : Hid (((q.free.take q.free.length).map Prod.fst) = q.free.map Prod.fst) := Lib.hid (by rw [List.take_length])
      rw [HTT.out] at HT
      have HH1 := Lib.hid (HW.out.at HG1.out (by have := HW3.out; simp; omega))
      have HH2 := Lib.hid (HW.out.at HG2.out (by have := HW3.out; simp; omega))
      have HHE := Lib.hid (HW.out.at HE5.out (by simp))
      have HUr : Hid (Upto [] w wr) := Lib.hid (HU5.out.trans HW.out (fun b hb => Or.inr (by have := HW3.out; simp at hb; omega)))
      obtain ⟨LF, hLFe⟩ : ∃ LF, LF = freeP q.body [] [] := ⟨_, rfl⟩
      have HLE := Lib.hid hLFe
      rw [← hLFe] at HFR hLF
      have HHF := Lib.hid (fun u (hu : Upto [] wr u) => HFR.out u (HUr.out.trans_ext hu))
      clear hLFe
      obtain ⟨y0, y1, y2, y3, y4, y5, y6⟩ := cells7 HH1.out
      have hbx := cell_of HT.out.box 0
      simp only [List.getElem?_toArray, List.getElem?_cons_zero] at hbx
      go_wp2_with fail
      have eb : ∀ u : Ext wr, u.w.cell? ⟨w3.heap.size + 1, 0, none⟩ = some (.slice ta q.free.length tc) := fun u => u.cell hbx
      have e1 : ∀ u : Ext wr, u.w.cell? ⟨w.heap.size, 1, none⟩ = some _ := fun u => u.cell y1
      have e2 : ∀ u : Ext wr, u.w.cell? ⟨w.heap.size, 2, none⟩ = some _ := fun u => u.cell y2
      have e3 : ∀ u : Ext wr, u.w.cell? ⟨w.heap.size, 3, none⟩ = some _ := fun u => u.cell y3
      have e4 : ∀ u : Ext wr, u.w.cell? ⟨w.heap.size, 4, none⟩ = some _ := fun u => u.cell y4
      have e5 : ∀ u : Ext wr, u.w.cell? ⟨w.heap.size, 5, none⟩ = some _ := fun u => u.cell y5
      have e6 : ∀ u : Ext wr, u.w.cell? ⟨w.heap.size, 6, none⟩ = some _ := fun u => u.cell y6
      clear hbx y0 y1 y2 y3 y4 y5 y6
      refine wp_region_seg_at [3] [] [0, 1, 2, 3] [4, 5] 4 (by kernel_rfl) (by kernel_rfl) (by kernel_rfl) ?_
      iterate 3 (refine seg_plain rfl rfl rfl rfl rfl ?_; intro K' hK'; go_big_quiet_op; go_big_quiet_on)
      refine seg_callO (Y := Option Addr × Nat) (fun tt => .slice tt.1 LF.length tt.2) (fun tt u => TxI wr LF (.slice tt.1 LF.length tt.2) u) (fun _ => []) rfl rfl rfl rfl (fun _ _ _ h hu => h.ext hu) (fun _ => List.nodup_nil) (fun w => by go_simp) (fun w' hu hd => (HHF.out w' hu).mono fun r w2 ⟨vo, h1, h2⟩ => by
        obtain ⟨va, vc, rfl, -⟩ := ownsRow_len h2.row
        exact ⟨(va, vc), h1, h2.up, ⟨h2.row, fun g hg => Nat.le_trans hu.size (h2.own g hg), hu.trans_ext h2.up⟩, fun b hb => by cases hb⟩) ?_
      rintro ⟨fa, fc⟩
      simp only [Act.put, List.setIfInBounds_toArray, List.set_cons_zero, List.set_cons_succ]
      intro w9 hg
      have HTF : Hid (TxI wr LF (.slice fa LF.length fc) w9) := Lib.hid hg.hold.1
      have HU9 := Lib.hid hg.up
      clear hg eb e1 e2 e3 e4 e5 e6
      simp only [List.drop_succ_cons, List.drop_zero]
      have HT9 := Lib.hid (HT.out.ext HU9.out)
      have hrow := HT9.out.row
      have hone : ∀ u ∈ LF.map sV, u.oneCell' = true := sV_one LF
      have HSR : Hid (SlC w9 (.slice fa LF.length fc) (LF.map sV)) := Lib.hid (HTF.out.slp.slc' (by rw [List.length_map]))
      have HML : Hid ((LF.map sV).length = LF.length) := Lib.hid (by rw [List.length_map])
      have HTQ : Hid (takenP q = q.free.map Prod.fst ++ LF) := Lib.hid (by rw [HLE.out]; rfl)
      have hne1 : w3.heap.size + 1 ≠ w.heap.size := by have := HW3.out; omega
      have hne2 : w.heap.size ≠ w3.heap.size + 1 := Ne.symm hne1
      have hml : (LF.map sV).length = LF.length := HML.out
      refine wpList_apps _ rfl (.tmp 32) (.tmp 35) 22 rfl 9 i0 (.string ⟨#[]⟩) 16 Tryz.underlying22 HI0.out HZ0.out HZ1'.out HZ2'.out rfl (.slice ta q.free.length tc) q.free.length _ rfl hrow (.slice fa LF.length fc) (LF.map sV) rfl HSR.out hone (by rw [HML.out]; unfold maxLen; omega) (by rw [HML.out]; omega) ?_
      intro vb vd wb ho hu hw
      rw [HML.out] at ho hw
      have HPT := Lib.hid (HT9.out.put (tk2 := takenP q) (Upto.refl [] w9) (by rw [HTQ.out, List.map_append]; exact ho) (by rw [HTQ.out, List.length_append, List.length_map]) hu hw)
      have HWO := Lib.hid hw
      have hfb := free_of HPT.out.2.2 0
      have hcb := cell_of HPT.out.2.2 0
      simp only [List.getElem?_toArray, List.getElem?_cons_zero] at hcb
      have HQ1 := Lib.hid (hu.at (HU9.out.at HH1.out (by simp)) (fun hm => row_ne hrow hm (HU9.out.at HH1.out (by simp)) (by decide)))
      have y0 := cell_of HQ1.out 0; have y1 := cell_of HQ1.out 1; have y2 := cell_of HQ1.out 2; have y3 := cell_of HQ1.out 3; have y4 := cell_of HQ1.out 4; have y5 := cell_of HQ1.out 5; have y6 := cell_of HQ1.out 6; simp only [List.getElem?_toArray, List.getElem?_cons_zero, List.getElem?_cons_succ] at y0 y1 y2 y3 y4 y5 y6; rw [HML.out]
      clear ho hu hw hrow
      go_wp2_with fail
      clear hfb hcb y0 y1 y2 y3 y4 y5 y6
      obtain ⟨wc, hwc⟩ : ∃ wc, wc = wb.setCell ⟨w3.heap.size + 1, 0, none⟩ (.slice vb (q.free.length + LF.length) vd) := ⟨_, rfl⟩
      simp only [← hwc]
      have HTC : Hid (TkB wc (w3.heap.size + 1) vb (q.free.length + LF.length) vd (takenP q)) := Lib.hid (by rw [hwc]; exact HPT.out.1)
      have HU9c : Hid (Upto ((w3.heap.size + 1) :: (Value.slice ta q.free.length tc).ownBlock.toList) w9 wc) := Lib.hid (by rw [hwc]; exact HPT.out.2.1)
      have HOV : Hid (∀ g, (Value.slice vb (q.free.length + LF.length) vd).ownBlock = some g → W5.heap.size ≤ g) := Lib.hid (fun g hg => (HWO.out g hg).elim (HO.out g) (fun h2 => by have := HU9.out.size; have := HW.out.size; omega))
      have HU3c : Hid (Upto [] w3 wc) := Lib.hid (((HV5.out.trans HW.out (fun b hb => Or.inr (by simp at hb; omega))).trans_ext HU9.out).trans HU9c.out (fun b hb => Or.inr (by
        rcases List.mem_cons.1 hb with hb | hb
        · omega
        · have := HO.out b (Option.mem_toList.1 hb); have := HZ5.out; omega)))
      have HUc := Lib.hid (HU3.out.trans_ext HU3c.out)
      have HC1c := Lib.hid (HU3c.out.at HD1.out (by simp))
      have HEc := Lib.hid (HU9c.out.at (HU9.out.at HHE.out (by simp)) (fun hm => by
        rcases List.mem_cons.1 hm with hm | hm
        · omega
        · exact row_ne HT9.out.row hm (HU9.out.at HHE.out (by simp)) (by decide)))
      have HXc : Hid (w3.heap.size + 1 < wc.heap.size) := Lib.hid HTC.out.lt.1
      clear hwc
      refine (HCL.out _ HUc.out).mono ?_
      rintro r wd ⟨vt, rfl, ho4, hu4⟩
      obtain ⟨po, pa1, pn1, pc1, ps, pn, pm, pa2, pn2, pc2, rfl⟩ := (ho4.ndv _ _ _ _).six
      have HO4 := Lib.hid ho4
      have HU4 := Lib.hid hu4
      have HEd := Lib.hid (hu4.at HEc.out (by simp))
      clear ho4 hu4
      have hmm := @run_makeMap Tryz.prog
      go_wp2_with fail
      clear hmm
      obtain ⟨we, hwe⟩ : ∃ we, we = wd.alloc (.map #[] 0) := ⟨_, rfl⟩
      simp only [← hwe]
      have HUe : Hid (Upto [] wd we) := Lib.hid (by rw [hwe]; exact (Upto.refl [] wd).alloc _)
      have HEM : Hid (EnvM we wd.heap.size []) := Lib.hid (by rw [hwe]; exact EnvM.nil wd)
      have HEe := Lib.hid (HUe.out.at HEd.out (by simp))
      clear hwe
      have HTe := Lib.hid ((HTC.out.ext HU4.out).ext HUe.out)
      have HAT : Hid (AqAt w we wc.heap.size wd.heap.size [] wd.heap.size (takenP q) (w3.heap.size + 1) vb (q.free.length + LF.length) vd) := Lib.hid ⟨HUe.out.size, HUc.out.size, (HUc.out.trans_ext HU4.out).trans_ext HUe.out, HEM.out, Or.inr (Nat.le_refl _), HTe.out, ⟨Or.inl HXc.out, by have := HU3.out.size; omega⟩, fun q hq => ⟨Or.inl (HTC.out.lt.2 q hq).1, by have := HOV.out q hq; have := HU5.out.size; omega⟩⟩
      refine (HAP.out q.body _ wc.heap.size wd.heap.size [] wd.heap.size (takenP q) (w3.heap.size + 1) vb _ vd we (OwT.same _ _ _ _ HO4.out (SameIn.upto HUe.out (Nat.le_refl _) (by simp))) HOK.out HAT.out).mono ?_
      rintro r wf ⟨rfl, ho6, -, hu6⟩
      have HN6 := Lib.hid (ho6.ndv _ _ _ _)
      have HU3f : Hid (Upto [] w3 wf) := Lib.hid (((HU3c.out.trans_ext HU4.out).trans_ext HUe.out).trans hu6 (fun b hb => Or.inr (by
        rw [mem_sq] at hb
        have h1 := HU3c.out.size
        rcases hb with hb | hb | hb
        · omega
        · omega
        · have := HOV.out b hb; have := HZ5.out; omega)))
      have HE1 := Lib.hid (hu6.at HEe.out (HTe.out.offT HEe.out (Or.inl (by have := HXc.out; omega))))
      have HE2 := Lib.hid (HU3f.out.at HD2.out (by simp))
      have HU6 := Lib.hid (HU3.out.trans_ext HU3f.out)
      clear ho6 hu6
      obtain ⟨y0, y1, y2, y3, y4, y5, y6⟩ := cells7 HE1.out
      obtain ⟨f0, f1, f2, f3, f4, f5, f6⟩ := frees7 HE1.out
      obtain ⟨z0, z1, z2, z3, z4, z5, z6⟩ := cells7 HE2.out
      obtain ⟨g0, g1, g2, g3, g4, g5, g6⟩ := frees7 HE2.out
      have HST := Lib.hid (six1_store HE1.out (.int .i64 po) (.slice pa1 pn1 pc1) (.int .i64 ps) (.int .i64 pn) (.int .i64 pm) (.slice pa2 pn2 pc2))
      obtain ⟨k0, k1, k2, k3, k4, k5, k6⟩ := cells7 HST.out
      have hne3 : w3.heap.size ≠ w.heap.size + 1 := by have := HW3.out; omega
      have hne4 : w.heap.size + 1 ≠ w3.heap.size := Ne.symm hne3
      go_wp2_with fail
      clear y0 y1 y2 y3 y4 y5 y6 f0 f1 f2 f3 f4 f5 f6 z0 z1 z2 z3 z4 z5 z6 g0 g1 g2 g3 g4 g5 g6 k0 k1 k2 k3 k4 k5 k6
      have hE2 : (((((((wf.setCell ⟨w3.heap.size, 1, none⟩ (.int .i64 po)).setCell ⟨w3.heap.size, 2, none⟩ (.slice pa1 pn1 pc1)).setCell ⟨w3.heap.size, 3, none⟩ (.int .i64 ps)).setCell ⟨w3.heap.size, 4, none⟩ (.int .i64 pn)).setCell ⟨w3.heap.size, 5, none⟩ (.int .i64 pm)).setCell ⟨w3.heap.size, 6, none⟩ (.slice pa2 pn2 pc2))).heap[w.heap.size + 1]? = some (.cells #[.slice none 0 0, .int .i64 0, .slice none 0 0, .int .i64 0, .int .i64 0, .int .i64 0, .slice none 0 0] 53 (0, 0)) := (six1_self wf w3.heap.size (.int .i64 po) (.slice pa1 pn1 pc1) (.int .i64 ps) (.int .i64 pn) (.int .i64 pm) (.slice pa2 pn2 pc2)).at HE2.out (by simp; omega)
      have hst := set7_at hE2 (.slice b1 q.free.length b3) (.int .i64 po) (.slice pa1 pn1 pc1) (.int .i64 ps) (.int .i64 pn) (.int .i64 pm) (.slice pa2 pn2 pc2)
      have h1 := six1_self wf w3.heap.size (.int .i64 po) (.slice pa1 pn1 pc1) (.int .i64 ps) (.int .i64 pn) (.int .i64 pm) (.slice pa2 pn2 pc2)
      have h2 := set7_up (Upto.refl [w.heap.size + 1] (((((((wf.setCell ⟨w3.heap.size, 1, none⟩ (.int .i64 po)).setCell ⟨w3.heap.size, 2, none⟩ (.slice pa1 pn1 pc1)).setCell ⟨w3.heap.size, 3, none⟩ (.int .i64 ps)).setCell ⟨w3.heap.size, 4, none⟩ (.int .i64 pn)).setCell ⟨w3.heap.size, 5, none⟩ (.int .i64 pm)).setCell ⟨w3.heap.size, 6, none⟩ (.slice pa2 pn2 pc2)))) (R := w.heap.size + 1) (Or.inl (by simp)) (.slice b1 q.free.length b3) (.int .i64 po) (.slice pa1 pn1 pc1) (.int .i64 ps) (.int .i64 pn) (.int .i64 pm) (.slice pa2 pn2 pc2)
      have hup := set7_up (HU6.out.trans h1 (fun b hb => Or.inr (by have := HW3.out; simp at hb; omega))) (R := w.heap.size + 1) (Or.inr (by omega)) (.slice b1 q.free.length b3) (.int .i64 po) (.slice pa1 pn1 pc1) (.int .i64 ps) (.int .i64 pn) (.int .i64 pm) (.slice pa2 pn2 pc2)
      have hnd := ((HN6.out.upto h1 (fun b hb _ hm => by have := HXc.out; simp at hm; omega)).upto h2 (fun b hb _ hm => by have := HXc.out; have := HW3.out; simp at hm; omega)).mono (Q := fun _ => True) (fun _ _ _ => trivial)
      have hvs := ((SlP.ext HVF.out HU3f.out).upto h1 (fun b hb _ hm => by simp at hm; omega)).upto h2 (fun b hb _ hm => by have := HW3.out; simp at hm; omega)
      obtain ⟨q0, q1, q2, q3, q4, q5, q6⟩ := cells7 hst
      exact bodyPost_ret (v := .tuple #[.agg #[.slice b1 q.free.length b3, .int .i64 po, .slice pa1 pn1 pc1, .int .i64 ps, .int .i64 pn, .int .i64 pm, .slice pa2 pn2 pc2], .int .i64 0]) (by simp [results, Tryz.results29, go_sem, q0, q1, q2, q3, q4, q5, q6]) rfl ⟨_, rfl, ⟨_, _, _, _, _, _, _, rfl, SlP.mono hvs (fun _ _ _ => trivial), hnd⟩, hup⟩
end Go.Proofs.YtbnebkkpmcjmbaaGreatDoor


namespace Go.Proofs.YtbnebkkpmcjmbaaGreatDoor
open Go.RowKit Go.PL Go.Maps
set_option maxRecDepth 100000 in
set_option maxHeartbeats 6400000 in
theorem right_calls (q : Qn) (v : Value) (w : World) (P : Nat → Prop) (h : QnV w P q v) (hk : sizeF q.body ≤ 10000000) (hin : inN 10000000 q.body) (hfn : ∀ y ∈ q.free, y.1.length ≤ 10000000) : Calls Tryz.prog 31 #[v] w fun e w' => e = .returned (.int .i64 (rightF nameF q : Nat)) ∧ Upto [] w w' := by
  obtain ⟨f1, f3, o1, a1, a2, a3, s1, n1, m1, l1, l2, l3, rfl, hv, hn⟩ := h.open
  have hu1 : Upto [] w (w.alloc (.cells #[.slice f1 q.free.length f3, .int .i64 o1, .slice a1 a2 a3, .int .i64 s1, .int .i64 n1, .int .i64 m1, .slice l1 l2 l3] 50)) := (Upto.refl [] w).alloc _
  have HU1 := Lib.hid hu1
  have HB1 := Lib.hid (new_at w (.cells #[.slice f1 q.free.length f3, .int .i64 o1, .slice a1 a2 a3, .int .i64 s1, .int .i64 n1, .int .i64 m1, .slice l1 l2 l3] 50))
  by_cases h8 : 8 < q.free.length
  · have h8I : (8 : Int) < q.free.length := by omega
    have HF : Hid (rightF nameF q = 8) := Lib.hid (by unfold rightF; rw [if_pos h8])
    rw [HF.out]
    clear h hv hn hk hin hfn hu1
    go_enter Tryz.func31, Tryz.ntmps31
    go_wp2_with fail
    go_ret
    exact ⟨rfl, HU1.out⟩
  have h8I : ¬ (8 : Int) < q.free.length := by omega
  have H8 := Lib.hid h8
  have HG := Lib.hid (vars_slice hv)
  have HFN := Lib.hid hfn
  have HCK := Lib.hid (fun u (hu : Upto [] w u) => checkR_calls q.body _ u P (hn.ext hu) hk hin)
  have hL0 : (0 : Int) ≤ q.free.length := by omega
  have hL1 : (q.free.length : Int) ≤ 8 := by omega
  clear h hv hn hk hin hfn hu1 h8
  go_enter Tryz.func31, Tryz.ntmps31
  go_wp2_with fail
  go_loopw [3] (fun i wr => ∃ j : Nat, j ≤ q.free.length ∧ i = .int .i64 j ∧ Hid (varsE nameF (q.free.drop j) ((q.free.take j).map Prod.fst) = varsE nameF q.free []) ∧ Hid (Upto [] (w.alloc (.cells #[.slice f1 q.free.length f3, .int .i64 o1, .slice a1 a2 a3, .int .i64 s1, .int .i64 n1, .int .i64 m1, .slice l1 l2 l3] 50)) wr)) (fun i _ => q.free.length - (intOf i).toNat)
  case atStart => exact ⟨0, by omega, rfl, Lib.hid (by simp), Lib.hid (Upto.refl _ _)⟩
  case round =>
    obtain ⟨j, hj, rfl, HE, HU⟩ := hrel
    have hj0 : (0 : Int) ≤ j := by omega
    have hb := HU.out.at HB1.out (by simp)
    obtain ⟨y0, y1, y2, y3, y4, y5, y6⟩ := cells7 hb
    have HW := Lib.hid (HU1.out.trans_ext HU.out)
    rcases Nat.lt_or_ge j q.free.length with hlt | hge
    · have hltI : (j : Int) < q.free.length := by omega
      obtain ⟨x, hx⟩ : ∃ x, q.free[j]? = some x := ⟨_, List.getElem?_eq_getElem hlt⟩
      have HDR : Hid (q.free.drop j = x :: q.free.drop (j + 1)) := Lib.hid (by
        obtain ⟨hi, h3⟩ := List.getElem?_eq_some_iff.1 hx
        rw [List.drop_eq_getElem_cons hi, h3])
      have HTK : Hid ((q.free.take (j + 1)).map Prod.fst = (q.free.take j).map Prod.fst ++ [x.1]) := Lib.hid (by
        rw [List.take_add_one, hx]
        simp)
      have hnl := HFN.out x (List.mem_of_getElem? hx)
      obtain ⟨g, o, rfl, c0, c1⟩ := HG.out j x hx
      have HGx := HG
      replace c0 := up_cell HW.out c0
      replace c1 := up_cell HW.out c1
      obtain ⟨x1, x2⟩ := x
      simp only at c0 c1 hnl HTK
      have hxa : Upto [] wr (wr.alloc (.cells #[.string ⟨x1.toArray⟩, .int .i64 x2] 90)) := (Upto.refl [] wr).alloc _
      have HXV := Lib.hid (HU.out.trans_ext hxa)
      have HXA := Lib.hid (HW.out.trans_ext hxa)
      have hn := new_at wr (.cells #[.string ⟨x1.toArray⟩, .int .i64 x2] 90)
      have HN := Lib.hid hn
      have HBx := Lib.hid (hxa.at hb (by simp))
      obtain ⟨n0, n1⟩ := cells2 hn
      have HC := Lib.hid (isName_calls x1 (wr.alloc (.cells #[.string ⟨x1.toArray⟩, .int .i64 x2] 90)) (by omega))
      have hbb : nameF x1 = true ∨ nameF x1 = false := by cases nameF x1 <;> simp
      rcases hbb with hb2 | hb2
      case inr =>
        have HF : Hid (rightF nameF q = 3) := Lib.hid (right_vars H8.out (by decide) (by rw [← HE.out, HDR.out]; unfold varsE; rw [if_pos hb2]))
        rw [hb2] at HC
        clear hx hb hb2 hxa hn hnl
        go_wp2_with fail
        refine HC.out.mono ?_
        rintro e w5 ⟨rfl, hu5⟩
        have HU5 := Lib.hid (HXA.out.trans_ext hu5)
        clear hu5
        go_wp2_with fail
        go_ret
        rw [HF.out]
        exact ⟨rfl, HU5.out⟩
      case inl =>
        by_cases hs : (decide (x2 < 0) || decide (3 < x2)) = true
        · have HF : Hid (rightF nameF q = 2) := Lib.hid (right_vars H8.out (by decide) (by rw [← HE.out, HDR.out]; unfold varsE; rw [if_neg (by rw [hb2]; decide), if_pos hs]))
          rw [hb2] at HC
          have hs2 : x2 < 0 ∨ (¬ x2 < 0 ∧ 3 < x2) := by simp at hs; omega
          clear hx hb hb2 hxa hn hnl hs
          rcases hs2 with hs2 | ⟨hs2, hs3⟩
          · go_wp2_with fail
            refine HC.out.mono ?_
            rintro e w5 ⟨rfl, hu5⟩
            have HU5 := Lib.hid (HXA.out.trans_ext hu5)
            have hb5 := hu5.at HN.out (by simp)
            obtain ⟨z0, z1⟩ := cells2 hb5
            clear hu5 hb5 z0
            go_wp2_with fail
            go_ret
            rw [HF.out]
            exact ⟨rfl, HU5.out⟩
          · go_wp2_with fail
            refine HC.out.mono ?_
            rintro e w5 ⟨rfl, hu5⟩
            have HU5 := Lib.hid (HXA.out.trans_ext hu5)
            have hb5 := hu5.at HN.out (by simp)
            obtain ⟨z0, z1⟩ := cells2 hb5
            clear hu5 hb5 z0
            go_wp2_with fail
            go_ret
            rw [HF.out]
            exact ⟨rfl, HU5.out⟩
        have HS := Lib.hid hs
        have hs2 : ¬ x2 < 0 := by simp at hs; omega
        have hs3 : ¬ 3 < x2 := by simp at hs; omega
        have HNM := Lib.hid hb2
        have HXX := Lib.hid hx
        rw [hb2] at HC
        clear hx hb hb2 hxa hn hnl hs
        go_wp2_with fail
        refine HC.out.mono ?_
        rintro e w5 ⟨rfl, hu5⟩
        have HU5 := Lib.hid (HXA.out.trans_ext hu5)
        have HV5 := Lib.hid (HXV.out.trans_ext hu5)
        have HN5 := Lib.hid (hu5.at HN.out (by simp))
        have HB5 := Lib.hid (hu5.at HBx.out (by simp))
        have hb5 := HN5.out
        have hq5 := HB5.out
        obtain ⟨z0, z1⟩ := cells2 hb5
        clear hu5 hb5 hq5 y0 y1 y2 y3 y4 y5 y6 n0 n1
        go_wp2_with fail
        clear z0 z1
        go_loopw [5] (fun i wx => ∃ m : Nat, m ≤ j ∧ i = .int .i64 m ∧ Hid (∀ p y, p < m → q.free[p]? = some y → y.1 ≠ x1) ∧ Hid (Upto [] w5 wx)) (fun i _ => j - (intOf i).toNat)
        case atStart => exact ⟨0, by omega, rfl, Lib.hid (fun p y hp => by omega), Lib.hid (Upto.refl _ _)⟩
        case round =>
          obtain ⟨m, hm, rfl, HB9, HV⟩ := hrel
          have hm0 : (0 : Int) ≤ m := by omega
          have HW9 := Lib.hid (HU5.out.trans_ext HV.out)
          rcases Nat.lt_or_ge m j with hlt2 | hge2
          · have hltJ : (m : Int) < j := by omega
            have hltK : (m : Int) < q.free.length := by omega
            obtain ⟨y, hy⟩ : ∃ y, q.free[m]? = some y := ⟨_, List.getElem?_eq_getElem (by omega)⟩
            obtain ⟨g', o', eg, p0, -⟩ := HGx.out m y hy
            simp at eg
            obtain ⟨rfl, rfl⟩ := eg
            replace p0 := up_cell HW9.out p0
            have hq9 := HV.out.at HB5.out (by simp)
            have hx9 := HV.out.at HN5.out (by simp)
            have hd := (Upto.refl [] wr).drew
            have hq8 := hd.at hq9 (by simp)
            have hx8 := hd.at hx9 (by simp)
            have p1 := (hd.cell (p := ⟨g, o + m * 2, none⟩) (World.block_lt_of_cell? wr _ p0) (by simp)).trans p0
            have u0 := cell_of hq9 0
            have u1 := cell_of hq8 0
            have t0 := cell_of hx9 0
            have t1 := cell_of hx8 0
            simp only [List.getElem?_toArray, List.getElem?_cons_zero] at u0 u1 t0 t1
            have HD := Lib.hid (HV.out.trans_ext hd)
            have HDW := Lib.hid (HW9.out.trans_ext hd)
            obtain ⟨y1, y2⟩ := y
            simp only at p0 p1
            by_cases hxy : y1 = x1
            · have HF : Hid (rightF nameF q = 7) := Lib.hid (right_vars H8.out (by decide) (by
                rw [← HE.out, HDR.out]; unfold varsE
                rw [if_neg (by rw [HNM.out]; decide), if_neg HS.out, if_pos]
                rw [List.contains_iff_mem]
                exact List.mem_map.2 ⟨(y1, y2), List.mem_of_getElem? (i := m) (by rw [List.getElem?_take_of_lt hlt2]; exact hy), hxy⟩))
              subst hxy
              clear hy hq9 hx9 hq8 hx8 hd
              go_wp2_with fail
              go_region
              all_goals (
                go_wp2_with fail
                go_ret
                rw [HF.out]
                exact ⟨rfl, HDW.out⟩)
            · have HA2 : Hid (∀ p y, p < m + 1 → q.free[p]? = some y → y.1 ≠ x1) := Lib.hid (fun p y hp hyy => by
                by_cases hpm : p = m
                · subst hpm
                  rw [hy] at hyy
                  cases hyy
                  exact hxy
                · exact HB9.out p y (by omega) hyy)
              have q1 : (y1 == x1) = false := by simpa using hxy
              have q2 : (y1 != x1) = true := by rw [bne, q1]; rfl
              clear hy hq9 hx9 hq8 hx8 hd hxy
              go_wp2_with fail
              go_region
              all_goals (
                go_wp2_with fail
                go_roundw
                case rel => exact ⟨m + 1, by omega, by go_num, HA2, HD⟩
                case measure => simp [intOf]; omega)
          · have hgeJ : ¬ (m : Int) < j := by omega
            have HE2 : Hid (varsE nameF (q.free.drop (j + 1)) ((q.free.take (j + 1)).map Prod.fst) = varsE nameF q.free []) := Lib.hid (by
              rw [HTK.out, ← HE.out, HDR.out]
              conv => rhs; unfold varsE
              rw [if_neg (by rw [HNM.out]; decide), if_neg HS.out, if_neg]
              rw [List.contains_iff_mem]
              intro hmm
              obtain ⟨y, hy, e⟩ := List.mem_map.1 hmm
              obtain ⟨i, hi⟩ := List.mem_iff_getElem?.1 hy
              by_cases hij : i < j
              · rw [List.getElem?_take_of_lt hij] at hi
                exact HB9.out i y (by omega) hi e
              · rw [List.getElem?_take_eq_none (by omega)] at hi
                cases hi)
            have HV9 := Lib.hid (HV5.out.trans_ext HV.out)
            go_wp2_with fail
            go_roundw
            case rel => exact ⟨j + 1, by omega, by go_num, HE2, HV9⟩
            case measure => simp [intOf]; omega
    · have hgeI : ¬ (j : Int) < q.free.length := by omega
      have HF : Hid (rightF nameF q = checkF nameF q.body) := Lib.hid (right_body H8.out (by
        rw [← HE.out, List.drop_of_length_le (by omega)]
        rfl))
      have HC := Lib.hid (HCK.out wr HW.out)
      clear hb
      go_wp2_with fail
      refine HC.out.mono ?_
      rintro e w5 ⟨rfl, hu5⟩
      have HU5 := Lib.hid (HW.out.trans_ext hu5)
      clear hu5
      go_wp2_with fail
      go_ret
      rw [HF.out]
      exact ⟨rfl, HU5.out⟩
end Go.Proofs.YtbnebkkpmcjmbaaGreatDoor


namespace Go.Proofs.YtbnebkkpmcjmbaaGreatDoor
open Go.RowKit Go.PL Go.Maps
def alikeF (q q' : Qn) : Bool := decide (q.free = q'.free) && sameF q.body q'.body
theorem alikeF_eq (q q' : Qn) : alikeF q q' = true ↔ q = q' := by
  unfold alikeF
  rw [Bool.and_eq_true, decide_eq_true_eq, sameF_eq]
  cases q; cases q'
  simp
set_option maxRecDepth 100000 in
set_option maxHeartbeats 6400000 in
theorem alike_calls (q q' : Qn) (P P' : Nat → Prop) (v v' : Value) (w : World) (hf : q.free.length ≤ 10000000) (hb : hugeN q.body) (_hf' : q'.free.length ≤ 10000000) (h : QnV w P q v) (h' : QnV w P' q' v') :
    Calls Tryz.prog 32 #[v, v'] w fun e w' => e = .returned (.bool (alikeF q q')) ∧ Upto [] w w' := by
  obtain ⟨f1, f3, o1, a1, a2, a3, s1, n1, m1, l1, l2, l3, rfl, hv, hn⟩ := h.open
  obtain ⟨g1, g3, o2, b1, b2, b3, s2, n2, m2, k1, k2, k3, rfl, hv', hn'⟩ := h'.open
  have hu2 : Upto [] w ((w.alloc (.cells #[.slice f1 q.free.length f3, .int .i64 o1, .slice a1 a2 a3, .int .i64 s1, .int .i64 n1, .int .i64 m1, .slice l1 l2 l3] 50)).alloc (.cells #[.slice g1 q'.free.length g3, .int .i64 o2, .slice b1 b2 b3, .int .i64 s2, .int .i64 n2, .int .i64 m2, .slice k1 k2 k3] 50)) := ((Upto.refl [] w).alloc _).alloc _
  have HU2 := Lib.hid hu2
  have hb1 := alloc_old (new_at w (.cells #[.slice f1 q.free.length f3, .int .i64 o1, .slice a1 a2 a3, .int .i64 s1, .int .i64 n1, .int .i64 m1, .slice l1 l2 l3] 50)) (.cells #[.slice g1 q'.free.length g3, .int .i64 o2, .slice b1 b2 b3, .int .i64 s2, .int .i64 n2, .int .i64 m2, .slice k1 k2 k3] 50)
  have hb2 := new_at1 w (.cells #[.slice f1 q.free.length f3, .int .i64 o1, .slice a1 a2 a3, .int .i64 s1, .int .i64 n1, .int .i64 m1, .slice l1 l2 l3] 50) (.cells #[.slice g1 q'.free.length g3, .int .i64 o2, .slice b1 b2 b3, .int .i64 s2, .int .i64 n2, .int .i64 m2, .slice k1 k2 k3] 50)
  have HB1 := Lib.hid hb1
  have HB2 := Lib.hid hb2
  have HG := Lib.hid (vars_slice hv)
  have HG' := Lib.hid (vars_slice hv')
  have HSM := Lib.hid (fun u (hu : Upto [] w u) => sameN_calls _ q.body (Nat.le_refl _) hb q'.body P P' _ _ u (hn.ext hu) (hn'.ext hu))
  obtain ⟨xa0, xa1, xa2, xa3, xa4, xa5, xa6⟩ := cells7 hb1
  obtain ⟨xb0, xb1, xb2, xb3, xb4, xb5, xb6⟩ := cells7 hb2
  clear h h' hv hv' hn hn' hb hu2 hb1 hb2
  by_cases hne : q.free.length ≠ q'.free.length
  · have HF : Hid (alikeF q q' = false) := Lib.hid (by unfold alikeF; rw [decide_eq_false (fun e => hne (by rw [e]))]; rfl)
    rw [HF.out]
    generalize hA : q.free.length = A at *
    generalize hB : q'.free.length = B at *
    have q1 : ((A : Int) == (B : Int)) = false := by rw [beq_eq_false_iff_ne]; omega
    have q2 : ((A : Int) != (B : Int)) = true := by rw [bne, q1]; rfl
    clear hne HF hA hB
    go_enter Tryz.func32, Tryz.ntmps32
    go_wp2_with fail
    go_ret
    exact ⟨rfl, HU2.out⟩
  have hne := Decidable.not_not.1 hne
  have HNE := Lib.hid hne
  have q2 : ((q.free.length : Int) != (q'.free.length : Int)) = false := by rw [hne]; simp
  have hL0 : (0 : Int) ≤ q.free.length := by omega
  have hL1 : (q.free.length : Int) ≤ 10000000 := by omega
  clear hne hf _hf'
  go_enter Tryz.func32, Tryz.ntmps32
  go_wp2_with fail
  generalize hW2 : ((w.alloc (.cells #[.slice f1 q.free.length f3, .int .i64 o1, .slice a1 a2 a3, .int .i64 s1, .int .i64 n1, .int .i64 m1, .slice l1 l2 l3] 50)).alloc (.cells #[.slice g1 q'.free.length g3, .int .i64 o2, .slice b1 b2 b3, .int .i64 s2, .int .i64 n2, .int .i64 m2, .slice k1 k2 k3] 50)) = W2 at *
  clear hW2
  go_loopw [5] (fun i wr => ∃ j : Nat, j ≤ q.free.length ∧ i = .int .i64 j ∧ Hid (∀ p, p < j → q.free[p]? = q'.free[p]?) ∧ Hid (Upto [] W2 wr)) (fun i _ => q.free.length - (intOf i).toNat)
  case atStart => exact ⟨0, by omega, rfl, Lib.hid (fun p hp => by omega), Lib.hid (Upto.refl _ _)⟩
  case round =>
    obtain ⟨j, hj, rfl, HE, HU⟩ := hrel
    have hj0 : (0 : Int) ≤ j := by omega
    have h1 := HU.out.at HB1.out (by simp)
    have h2 := HU.out.at HB2.out (by simp)
    have hd := (Upto.refl [] wr).drew
    have h3 := hd.at h1 (by simp)
    have h4 := hd.at h2 (by simp)
    obtain ⟨pa0, pa1, pa2, pa3, pa4, pa5, pa6⟩ := cells7 h1
    obtain ⟨pb0, pb1, pb2, pb3, pb4, pb5, pb6⟩ := cells7 h2
    have s0 := cell_of h3 0
    have t0 := cell_of h4 0
    simp only [List.getElem?_toArray, List.getElem?_cons_zero] at s0 t0
    have HW := Lib.hid (HU2.out.trans_ext HU.out)
    rcases Nat.lt_or_ge j q.free.length with hlt | hge
    · have hltI : (j : Int) < q.free.length := by omega
      have hltJ : (j : Int) < q'.free.length := by have := HNE.out; omega
      obtain ⟨x, hx⟩ : ∃ x, q.free[j]? = some x := ⟨_, List.getElem?_eq_getElem hlt⟩
      obtain ⟨y, hy⟩ : ∃ y, q'.free[j]? = some y := ⟨_, List.getElem?_eq_getElem (by have := HNE.out; omega)⟩
      obtain ⟨g, o, rfl, c0, c1⟩ := HG.out j x hx
      obtain ⟨g', o', rfl, c2, c3⟩ := HG'.out j y hy
      replace c0 := up_cell HW.out c0
      replace c1 := up_cell HW.out c1
      replace c2 := up_cell HW.out c2
      replace c3 := up_cell HW.out c3
      have d0 := (hd.cell (p := ⟨g, o + j * 2, none⟩) (World.block_lt_of_cell? wr _ c0) (by simp)).trans c0
      have d1 := (hd.cell (p := ⟨g, o + j * 2 + 1, none⟩) (World.block_lt_of_cell? wr _ c1) (by simp)).trans c1
      have d2 := (hd.cell (p := ⟨g', o' + j * 2, none⟩) (World.block_lt_of_cell? wr _ c2) (by simp)).trans c2
      have d3 := (hd.cell (p := ⟨g', o' + j * 2 + 1, none⟩) (World.block_lt_of_cell? wr _ c3) (by simp)).trans c3
      have HD := Lib.hid (HU.out.trans_ext hd)
      have HDW := Lib.hid (HW.out.trans_ext hd)
      obtain ⟨x1, x2⟩ := x
      obtain ⟨y1, y2⟩ := y
      simp only at c0 c1 c2 c3 d0 d1 d2 d3
      have HNF : (¬ (x1 = y1 ∧ x2 = y2)) → alikeF q q' = false := fun hn => by
        unfold alikeF
        rw [decide_eq_false]
        · rfl
        · intro e
          rw [e, hy] at hx
          have := Option.some.inj hx
          simp at this
          exact hn ⟨this.1.symm, this.2.symm⟩
      by_cases hxy : x1 = y1
      · by_cases hxy2 : x2 = y2
        · subst hxy hxy2
          have HE2 : Hid (∀ p, p < j + 1 → q.free[p]? = q'.free[p]?) := Lib.hid (fun p hp => by
            by_cases hqj : p = j
            · subst hqj; rw [hx, hy]
            · exact HE.out p (by omega))
          clear hx hy hd HE h1 h2 h3 h4 HNF
          go_wp2_with fail
          go_region
          all_goals (
            go_wp2_with fail
            go_roundw
            case rel => exact ⟨j + 1, by omega, by go_num, HE2, HD⟩
            case measure => simp [intOf]; omega)
        · have HF := Lib.hid (HNF (fun e => hxy2 e.2))
          subst hxy
          have q1 : (x2 == y2) = false := by rw [beq_eq_false_iff_ne]; exact hxy2
          have q3 : (x2 != y2) = true := by rw [bne, q1]; rfl
          clear hx hy hd HE h1 h2 h3 h4 HNF
          go_wp2_with fail
          go_region
          all_goals (
            go_wp2_with fail
            go_ret
            rw [HF.out]
            exact ⟨rfl, HDW.out⟩)
      · have HF := Lib.hid (HNF (fun e => hxy e.1))
        have q1 : (x1 == y1) = false := by simpa using hxy
        have q3 : (x1 != y1) = true := by rw [bne, q1]; rfl
        clear hx hy hd HE h1 h2 h3 h4 HNF
        go_wp2_with fail
        go_region
        all_goals (
          go_wp2_with fail
          go_ret
          rw [HF.out]
          exact ⟨rfl, HDW.out⟩)
    · have hgeI : ¬ (j : Int) < q.free.length := by omega
      have HF : Hid (alikeF q q' = sameF q.body q'.body) := Lib.hid (by
        unfold alikeF
        rw [decide_eq_true]
        · rfl
        · apply List.ext_getElem?
          intro i
          by_cases hi : i < j
          · exact HE.out i hi
          · rw [List.getElem?_eq_none (by omega), List.getElem?_eq_none (by have := HNE.out; omega)])
      have HC := Lib.hid (HSM.out wr HW.out)
      clear hd h1 h2 h3 h4 s0 t0
      go_wp2_with fail
      refine HC.out.mono ?_
      rintro e w5 ⟨rfl, hu5⟩
      have HU5 := Lib.hid (HW.out.trans_ext hu5)
      clear hu5
      go_wp2_with fail
      go_ret
      rw [HF.out]
      exact ⟨rfl, HU5.out⟩
end Go.Proofs.YtbnebkkpmcjmbaaGreatDoor

