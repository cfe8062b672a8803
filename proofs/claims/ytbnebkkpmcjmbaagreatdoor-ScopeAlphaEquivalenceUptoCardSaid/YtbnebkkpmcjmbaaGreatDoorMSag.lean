/- Texts merged, in build order: Xb, Xc, Xh, Xi, Xk, Xj, Xd, Xe, Xf, Xl, Xm, Wn, Wo. -/
import Derived.Test.YtbnebkkpmcjmbaaGreatDoorMSaf
import Derived.Test.YtbnebkkpmcjmbaaGreatDoorRows
import Derived.WalkKit
import Derived.WalkSpells
import Derived.WalkLawsBesides
import Derived.Maps.OwnSet
import Derived.Lib.Hide
import Derived.Laws.BytesArg
import Derived.Deep.QuietTactic
import Derived.BigQuiet
import Derived.Test.YtbnebkkpmcjmbaaGreatDoorProg
import Derived.Shelf.Small.Strs
import Derived.Shelf.LaysM
import Derived.Shelf.Strings.SplitShaped
import Derived.Deep.DeepCutAuto
import Derived.Deep.CutBlock
import Derived.Lib.Strings
import Derived.Lib.Walk
import Derived.Lib.ConvBytes
import Derived.Lib.ParseIntBMem
import Derived.Lib.AtoiErrMem
import Derived.Lib.BufferWrite
import Derived.Lib.UnsafeStr
import Derived.Lib.IfaceEq
import Derived.Laws.MakeOwn
import Derived.Laws.Strings3
import Derived.Laws.Closers25
import Derived.Laws.Closers25b
import Derived.RegionTactic
import Derived.Deep.RegionWith
import Derived.BigCall
import Derived.BigGuard
import Derived.Lib.AppendIntMem
import Derived.Carry
import Derived.OrdersHeld
import Derived.Deep.RegionHeld3
import Derived.Shelf.Strconv.Itoa3
import Derived.Shelf.Slices.Turned
import Derived.Shelf.Slices.Clone
import Derived.Deep.RegionLaw
import Derived.Lib.ItoaNum
import Derived.RangeFuncNested
import Derived.RangeFuncBound
import Derived.RangeFuncCalls
import Derived.RangeFuncLeaves
import Derived.RangeFuncBox
import Derived.Shelf.Abstract
import Derived.OwnWalkIn
import Derived.TacticsInMore
import Derived.LoopNIn
import Derived.LoopIn
import Derived.Laws.EntriesVeiled
import Derived.Laws.AppendOwn
import Derived.Test.YtbnebkkpmcjmbaaGreatDoorCards
import Derived.Test.YtbnebkkpmcjmbaaGreatDoorTie
import Derived.ProofKit
import Derived.OpenShut
import Derived.Deep.DeepHandedRow
import Derived.Deep.Slices
import Derived.Lay
import Derived.ChangeCalls
import Derived.LaidSub
import Derived.MakeChecks
import Derived.LaidLaws
import Derived.Lib.LaidTab
import Derived.Shelf.SlMaps.Clone
import Derived.Laws.IdiomRangeMap
import Derived.Maps.RangeRun
import Derived.Laws.StructEq
namespace Go.Proofs.YtbnebkkpmcjmbaaGreatDoor
open Go.RowKit Go.PL Go.Maps
/-- what an entry is -/
def EntI (xs : List (List UInt8)) (e : MapEntry) : Prop := ∃ y : List UInt8, e.key = sV y ∧ e.val = .int .i64 (findF xs y xs.length + 1) ∧ 0 ≤ findF xs y xs.length ∧ y.length ≤ maxLen
structure MapE (es : Array MapEntry) (clock : Nat) (xs : List (List UInt8)) : Prop where
  stamp : MapKept.Stamped es clock
  ent : ∀ e ∈ es.toList, EntI xs e
  all : ∀ y, 0 ≤ findF xs y xs.length → ∃ e ∈ es.toList, e.key = sV y
  few : es.size ≤ xs.length
def MapI (w : World) (b : Nat) (xs : List (List UInt8)) : Prop := ∃ es clock, w.heap[b]? = some (.map es clock) ∧ MapE es clock xs
theorem MapI.upto {S : List Nat} {w w' : World} {b : Nat} {xs : List (List UInt8)} (h : MapI w b xs) (hu : Upto S w w') (hn : b ∉ S) : MapI w' b xs := by
  obtain ⟨es, c, h1, h2⟩ := h
  exact ⟨es, c, hu.at h1 hn, h2⟩
theorem MapI.nil (w : World) : MapI (w.alloc (.map #[] 0)) w.heap.size [] := ⟨#[], 0, new_at w _, ⟨by simp [MapKept.Stamped], by simp, fun y h => by simp [findF] at h, Nat.le_refl _⟩⟩
theorem MapI.obj {w : World} {b : Nat} {xs : List (List UInt8)} (h : MapI w b xs) : ∃ es clock, w.heap[b]? = some (.map es clock) ∧ MapE es clock xs := h
theorem EntI.key {xs : List (List UInt8)} {e : MapEntry} (h : EntI xs e) : ∃ l, keyOf Tryz.prog 9 e.key = some l := by
  obtain ⟨y, h1, -, -, h2⟩ := h
  rw [h1]
  exact ⟨_, keyS Tryz.underlying9 (by simpa [ByteArray.size] using h2)⟩
theorem zero3 (w : World) : (zeroValue 3).run Tryz.prog w = .ok (.int .i64 0) w := by kernel_rfl
theorem MapI.look {w : World} {b : Nat} {xs : List (List UInt8)} (h : MapI w b xs) (x : List UInt8) (hx : x.length ≤ maxLen) :
    (Instr.lookup 99 (.map (some b)) (.string ⟨x.toArray⟩) false).run Tryz.prog w = .ok (.int .i64 (findF xs x xs.length + 1)) w := by
  obtain ⟨es, c, hb, hE⟩ := h
  have hm : MapL Tryz.prog 9 w b (es.toList.map (fun e => (e.key, e.val))) := ⟨es, c, hb, rfl, fun e he => (hE.ent e he).key⟩
  rcases hm.look lawS Tryz.underlying99 (zero3 w) (x := .string ⟨x.toArray⟩) (keyS Tryz.underlying9 (by simpa [ByteArray.size] using hx)) false with ⟨k1, k2⟩ | ⟨v, k1, k2⟩
  · have hf : findF xs x xs.length = -1 := by
      have h1 := findF_ge xs x xs.length
      by_cases h2 : 0 ≤ findF xs x xs.length
      · obtain ⟨e, he, hk⟩ := hE.all x h2
        exact absurd hk (k2 (e.key, e.val) (List.mem_map.2 ⟨e, he, rfl⟩))
      · omega
    rw [k1, hf]
    rfl
  · obtain ⟨e, he, hev⟩ := List.mem_map.1 k1
    obtain ⟨y, h1, h2, -, -⟩ := hE.ent e he
    have h3 := Prod.mk.inj hev
    have h4 : y = x := sV_inj (h1.symm.trans h3.1)
    rw [k2, ← h3.2, h2, h4]
    rfl
theorem findF_snoc (xs : List (List UInt8)) (x y : List UInt8) : findF (xs ++ [x]) y (xs ++ [x]).length = if x = y then (xs.length : Int) else findF xs y xs.length := by
  rw [List.length_append, List.length_singleton]
  conv => lhs; unfold findF
  rw [List.getElem?_append_right (Nat.le_refl _), Nat.sub_self]
  simp only [List.getElem?_cons_zero, Option.some.injEq]
  rw [findF_local y xs.length (fun j hj => List.getElem?_append_left hj)]
/-- an entry is there for x, with the stamp s; its value is to be stored yet -/
structure MapX (es : Array MapEntry) (clock : Nat) (xs : List (List UInt8)) (x : List UInt8) (s : Nat) : Prop where
  stamp : MapKept.Stamped es clock
  at_ : ∃ (i : Nat) (e : MapEntry), es[i]? = some e ∧ e.born = s ∧ e.key = sV x
  ent : ∀ e ∈ es.toList, e.key ≠ sV x → EntI xs e
  all : ∀ y, 0 ≤ findF xs y xs.length → ∃ e ∈ es.toList, e.key = sV y
  few : es.size ≤ xs.length + 1
theorem nodup_at {α : Type} : ∀ {l : List α}, l.Nodup → ∀ {i j : Nat} {a : α}, l[i]? = some a → l[j]? = some a → i = j
  | [], _, i, j, a, hi, _ => by simp at hi
  | x :: r, h, 0, 0, a, _, _ => rfl
  | x :: r, h, 0, j + 1, a, hi, hj => by
    simp at hi hj
    subst hi
    exact absurd (List.mem_of_getElem? hj) (List.nodup_cons.1 h).1
  | x :: r, h, i + 1, 0, a, hi, hj => by
    simp at hi hj
    subst hj
    exact absurd (List.mem_of_getElem? hi) (List.nodup_cons.1 h).1
  | x :: r, h, i + 1, j + 1, a, hi, hj => by
    simp at hi hj
    rw [nodup_at (List.nodup_cons.1 h).2 hi hj]
theorem nodup_key {es : List MapEntry} (h : (es.map (·.key)).Nodup) {i j : Nat} {a b : MapEntry} (hi : es[i]? = some a) (hj : es[j]? = some b) (hk : a.key = b.key) : i = j := by
  have h1 : (es.map (·.key))[i]? = some a.key := by rw [List.getElem?_map, hi]; rfl
  have h2 : (es.map (·.key))[j]? = some b.key := by rw [List.getElem?_map, hj]; rfl
  rw [hk] at h1
  exact nodup_at h h1 h2
theorem nodup_born {es : List MapEntry} (h : (es.map (·.born)).Nodup) {i j : Nat} {a b : MapEntry} (hi : es[i]? = some a) (hj : es[j]? = some b) (hk : a.born = b.born) : i = j := by
  have h1 : (es.map (·.born))[i]? = some a.born := by rw [List.getElem?_map, hi]; rfl
  have h2 : (es.map (·.born))[j]? = some b.born := by rw [List.getElem?_map, hj]; rfl
  rw [hk] at h1
  exact nodup_at h h1 h2
theorem MapI.entry {w : World} {b : Nat} {xs : List (List UInt8)} (h : MapI w b xs) (x : List UInt8) (hx : x.length ≤ maxLen) :
    ∃ w1 z s es c, (Instr.mapEntry 99 (.map (some b)) (.string ⟨x.toArray⟩)).run Tryz.prog w = .ok (.tuple #[.int .i64 z, .int .i64 (s : Nat)]) w1 ∧ w1.heap[b]? = some (.map es c) ∧ MapX es c xs x s ∧ w.grownBy w1 (some b) := by
  obtain ⟨es, c, hb, hE⟩ := h
  have K := lawS
  have hkx := keyS (P := Tryz.prog) (k := 9) Tryz.underlying9 (s := ⟨x.toArray⟩) (by simpa [ByteArray.size] using hx)
  rcases K.find w hkx es.toList (fun e he => (hE.ent e he).key) with ⟨h1, h2⟩ | ⟨j, e0, h1, h2, h3⟩
  · refine ⟨ChangeMaps.setBlock w b (.map (es.push ⟨sV x, .int .i64 0, c⟩) (c + 1)), 0, c, es.push ⟨sV x, .int .i64 0, c⟩, c + 1, ?_, ChangeMaps.heap_setBlock_same hb _, ⟨?_, ?_, ?_, ?_, ?_⟩, ?_⟩
    · simp [Instr.mapEntry, run_underlying Tryz.underlying99, MapKept.run_getObj_map hb, K.check w false hkx, h1, MapKept.run_setObj_map _ hb, Result.andThen, ChangeMaps.setBlock, goInt, sV]
    · obtain ⟨s1, s2, s3⟩ := hE.stamp
      refine ⟨fun e he => ?_, ?_, ?_⟩
      · rw [Array.toList_push, List.mem_append, List.mem_singleton] at he
        rcases he with he | rfl
        · have := s1 e he; omega
        · show c < c + 1; omega
      · rw [Array.toList_push, List.map_append]
        refine List.nodup_append.2 ⟨s2, by simp, fun u hu v hv => ?_⟩
        obtain ⟨e, he, rfl⟩ := List.mem_map.1 hu
        have := s1 e he
        simp at hv
        omega
      · rw [Array.toList_push, List.map_append]
        refine List.nodup_append.2 ⟨s3, by simp, fun u hu v hv => ?_⟩
        obtain ⟨e, he, rfl⟩ := List.mem_map.1 hu
        simp at hv
        rw [hv]
        exact h2 e he
    · exact ⟨es.size, ⟨sV x, .int .i64 0, c⟩, by simp, rfl, rfl⟩
    · intro e he hk
      rw [Array.toList_push, List.mem_append, List.mem_singleton] at he
      rcases he with he | rfl
      · exact hE.ent e he
      · exact absurd rfl hk
    · intro y hy
      obtain ⟨e, he, hk⟩ := hE.all y hy
      exact ⟨e, by rw [Array.toList_push]; exact List.mem_append_left _ he, hk⟩
    · have := hE.few
      simp
      omega
    · exact ⟨rfl, rfl, rfl, by simp [ChangeMaps.setBlock], fun i _ hi => ChangeMaps.heap_setBlock_other hb _ (fun e => hi (by rw [e]))⟩
  · have hj : es[j]? = some e0 := by simpa using h2
    obtain ⟨y, g1, g2, g3, g4⟩ := hE.ent e0 (List.mem_of_getElem? h2)
    have h3' : e0.key = sV x := h3
    have hsame : (es.modify j (fun e' => { e' with key := sV x })) = es := by
      apply Array.ext_getElem?
      intro i
      rw [Array.getElem?_modify]
      split
      · rename_i hij
        subst hij
        rw [hj, Option.map_some, ← h3']
      · rfl
    refine ⟨ChangeMaps.setBlock w b (.map es c), findF xs y xs.length + 1, e0.born, es, c, ?_, ChangeMaps.heap_setBlock_same hb _, ⟨hE.stamp, ⟨j, e0, hj, rfl, h3'⟩, fun e he _ => hE.ent e he, hE.all, by have := hE.few; omega⟩, ?_⟩
    · have hs := K.stays w hkx
      have h3v : e0.key = .string ⟨x.toArray⟩ := h3
      have hsame2 : (es.modify j (fun e' => { e' with key := .string ⟨x.toArray⟩ })) = es := hsame
      simp [Instr.mapEntry, run_underlying Tryz.underlying99, MapKept.run_getObj_map hb, K.check w false hkx, h1, hj, h3v, hs, hsame2, MapKept.run_setObj_map _ hb, Result.andThen, ChangeMaps.setBlock, goInt, g2]
    · exact ⟨rfl, rfl, rfl, by simp [ChangeMaps.setBlock], fun i _ hi => ChangeMaps.heap_setBlock_other hb _ (fun e => hi (by rw [e]))⟩
theorem MapX.store {w : World} {b : Nat} {es : Array MapEntry} {c : Nat} {xs : List (List UInt8)} {x : List UInt8} {s : Nat} (h : MapX es c xs x s) (hb : w.heap[b]? = some (.map es c)) (hx : x.length ≤ maxLen) :
    ∃ w1, (Instr.entryStore 99 (.map (some b)) (.int .i64 (s : Nat)) (.int .i64 ((xs.length : Int) + 1))).run Tryz.prog w = .ok () w1 ∧ MapI w1 b (xs ++ [x]) ∧ w.grownBy w1 (some b) := by
  obtain ⟨i, e, hi, hs, hk⟩ := h.at_
  obtain ⟨s1, s2, s3⟩ := h.stamp
  have hil : es.toList[i]? = some e := by simpa using hi
  have hfi : es.findIdx? (fun e => (e.born : Int) == (s : Int)) = some i := by
    rw [Array.findIdx?_eq_some_iff_getElem]
    obtain ⟨hlt, hge⟩ := Array.getElem?_eq_some_iff.1 hi
    refine ⟨hlt, by rw [hge, hs]; simp, fun j hj => ?_⟩
    have hjl : j < es.size := by omega
    have hne : es[j].born ≠ s := fun h2 => by
      have := nodup_born s2 (i := j) (a := es[j]) (by rw [Array.getElem?_toList]; exact Array.getElem?_eq_getElem hjl) hil (by rw [h2, hs])
      omega
    simp
    exact fun h2 => hne (by omega)
  have hget : ∀ (k : Nat) (a : MapEntry), (es.modify i (fun e => { e with val := .int .i64 ((xs.length : Int) + 1) })).toList[k]? = some a → ∃ a0, es.toList[k]? = some a0 ∧ a.key = a0.key ∧ a.born = a0.born ∧ ((k = i ∧ a.val = .int .i64 ((xs.length : Int) + 1)) ∨ (k ≠ i ∧ a = a0)) := fun k a ha => by
    have ha2 : (es.modify i (fun e => { e with val := .int .i64 ((xs.length : Int) + 1) }))[k]? = some a := by rw [Array.getElem?_toList] at ha; exact ha
    rw [Array.getElem?_modify] at ha2
    split at ha2
    · rename_i hik
      subst hik
      rw [hi, Option.map_some] at ha2
      cases ha2
      exact ⟨e, hil, rfl, rfl, Or.inl ⟨rfl, rfl⟩⟩
    · rename_i hik
      exact ⟨a, by simpa using ha2, rfl, rfl, Or.inr ⟨fun h2 => hik h2.symm, rfl⟩⟩
  have hmap : ∀ {β : Type} (f : MapEntry → β), (∀ a : MapEntry, f { a with val := .int .i64 ((xs.length : Int) + 1) } = f a) → (es.modify i (fun e => { e with val := .int .i64 ((xs.length : Int) + 1) })).toList.map f = es.toList.map f := fun f hf => by
    apply List.ext_getElem?
    intro k
    rw [List.getElem?_map, List.getElem?_map]
    rw [Array.getElem?_toList, Array.getElem?_toList, Array.getElem?_modify]
    split
    · cases es[k]? with
      | none => rfl
      | some a => simp [hf]
    · rfl
  refine ⟨ChangeMaps.setBlock w b (.map (es.modify i (fun e => { e with val := .int .i64 ((xs.length : Int) + 1) })) c), ?_, ⟨_, _, ChangeMaps.heap_setBlock_same hb _, ⟨⟨?_, ?_, ?_⟩, ?_, ?_, ?_⟩⟩, ?_⟩
  · simp [Instr.entryStore, MapKept.run_getObj_map hb, hfi, MapKept.run_setObj_map _ hb, Result.andThen, ChangeMaps.setBlock, asInt, asIntOf]
  · intro a ha
    obtain ⟨k, hk2⟩ := List.mem_iff_getElem?.1 ha
    obtain ⟨a0, g1, -, g3, -⟩ := hget k a hk2
    rw [g3]
    exact s1 a0 (List.mem_of_getElem? g1)
  · rw [hmap (·.born) (fun _ => rfl)]; exact s2
  · rw [hmap (·.key) (fun _ => rfl)]; exact s3
  · intro a ha
    obtain ⟨k, hk2⟩ := List.mem_iff_getElem?.1 ha
    obtain ⟨a0, g1, g2, -, g4⟩ := hget k a hk2
    rcases g4 with ⟨hki, hv⟩ | ⟨hki, rfl⟩
    · subst hki
      rw [hil] at g1
      cases g1
      refine ⟨x, by rw [g2, hk], ?_, ?_, hx⟩
      · rw [findF_snoc, if_pos rfl]; exact hv
      · rw [findF_snoc, if_pos rfl]; omega
    · have hne : a.key ≠ sV x := fun h2 => hki (nodup_key s3 g1 hil (by rw [h2, hk]))
      obtain ⟨y, e1, e2, e3, e4⟩ := h.ent a (List.mem_of_getElem? g1) hne
      have hxy : x ≠ y := fun h2 => hne (by rw [e1, h2])
      exact ⟨y, e1, by rw [findF_snoc, if_neg hxy]; exact e2, by rw [findF_snoc, if_neg hxy]; exact e3, e4⟩
  · intro y hy
    have hex : ∃ a0 ∈ es.toList, a0.key = sV y := by
      rw [findF_snoc] at hy
      split at hy
      · rename_i hxy
        exact ⟨e, List.mem_of_getElem? hil, by rw [hk, hxy]⟩
      · exact h.all y hy
    obtain ⟨a0, ha0, hk0⟩ := hex
    have : sV y ∈ (es.modify i (fun e => { e with val := .int .i64 ((xs.length : Int) + 1) })).toList.map (·.key) := by
      rw [hmap (·.key) (fun _ => rfl)]
      exact List.mem_map.2 ⟨a0, ha0, hk0⟩
    obtain ⟨a, ha, hka⟩ := List.mem_map.1 this
    exact ⟨a, ha, hka⟩
  · have := h.few
    rw [List.length_append, List.length_singleton]
    simpa using this
  · exact ⟨rfl, rfl, rfl, by simp [ChangeMaps.setBlock], fun i _ hi => ChangeMaps.heap_setBlock_other hb _ (fun e => hi (by rw [e]))⟩
section
variable (w : World) {ops : Array Oper} {rest : List Oper} {o : Oper} {a : Act} {Q : Exit → Act → World → Prop}
theorem wpList_mentry (hg : o.guard = none) (m x : Operand) (hop : o.op = Op.mapEntry 99 m x) (b : Nat) (xs : List (List UInt8)) (hm : a.eval m = .map (some b)) (h : MapI w b xs) (X : List UInt8) (hx : a.eval x = .string ⟨X.toArray⟩) (hl : X.length ≤ maxLen)
    (hK : ∀ w' z s es c, w'.heap[b]? = some (.map es c) → MapX es c xs X s → w.grownBy w' (some b) → wpList Tryz.prog ops Q rest (a.put o.dst (.tuple #[.int .i64 z, .int .i64 (s : Nat)])) w') : wpList Tryz.prog ops Q (o :: rest) a w := by
  refine wpList_plain hg fun K' hK' => ?_
  obtain ⟨w', z, s, es, c, hrun, r1, r2, r3⟩ := h.entry X hl
  unfold Oper.wp
  simp [execOp, hop, hm, hx, hrun, Result.andThen]
  exact hK' _ _ (hK w' z s es c r1 r2 r3)
theorem wpList_estore (hg : o.guard = none) (m s v : Operand) (hop : o.op = Op.entryStore 99 m s v) (b : Nat) (es : Array MapEntry) (c : Nat) (xs : List (List UInt8)) (X : List UInt8) (S : Nat) (hm : a.eval m = .map (some b)) (hb : w.heap[b]? = some (.map es c)) (h : MapX es c xs X S) (hs : a.eval s = .int .i64 (S : Nat)) (hv : a.eval v = .int .i64 ((xs.length : Int) + 1)) (hl : X.length ≤ maxLen)
    (hK : ∀ w', MapI w' b (xs ++ [X]) → w.grownBy w' (some b) → wpList Tryz.prog ops Q rest (a.put o.dst undef) w') : wpList Tryz.prog ops Q (o :: rest) a w := by
  refine wpList_plain hg fun K' hK' => ?_
  obtain ⟨w', hrun, r1, r2⟩ := h.store hb hl
  unfold Oper.wp
  simp [execOp, hop, hm, hs, hv, hrun, Result.andThen]
  exact hK' _ _ (hK w' r1 r2)
end
end Go.Proofs.YtbnebkkpmcjmbaaGreatDoor


namespace Go.Proofs.YtbnebkkpmcjmbaaGreatDoor
open Go.RowKit Go.PL Go.Maps
/-- an environment that only counts places -/
def envOf (x : List (List UInt8)) : EnvL := x.reverse.map fun n => (n, [])
theorem envOf_snoc (x : List (List UInt8)) (b : List UInt8) : (b, []) :: envOf x = envOf (x ++ [b]) := by
  unfold envOf
  simp
theorem envOf_fst (x : List (List UInt8)) : (envOf x).reverse.map Prod.fst = x := by
  unfold envOf
  rw [← List.map_reverse, List.reverse_reverse, List.map_map]
  exact List.map_id'' (fun _ => rfl) x
theorem envOf_len (x : List (List UInt8)) : (envOf x).length = x.length := by
  unfold envOf
  simp
/-- what like is asked -/
structure LkIn (w : World) (d : Nat) (Pa : Nat → Prop) (a : Nd) (va : Value) : Prop where
  nd : NdV w Pa a va
  deep : depthF a ≤ d
  form : formF nameF a = 0
  few : nmsF a + sizeF a + 2 ≤ 8000
/-- the induction's hypothesis -/
def LkH (d : Nat) : Prop := ∀ (a b : Nd) (va vb : Value) (Pa Pb Qx Qy : Nat → Prop) (x y : List (List UInt8)) (e1 e2 e3 g1 g2 g3 : Option Addr) (f1 f2 f3 N h1 h2 h3 M : Nat) (u : World),
  LkIn u d Pa a va → LkIn u d Pb b vb → EnvR u Qx (envOf x) e1 f1 e2 f2 e3 f3 N → EnvR u Qy (envOf y) g1 h1 g2 h2 g3 h3 M → N + d ≤ 8000 → M + d ≤ 8000 →
  Calls Tryz.prog 66 #[va, vb, .agg #[.slice e1 N f1, .slice e2 N f2, .slice e3 N f3], .agg #[.slice g1 M h1, .slice g2 M h2, .slice g3 M h3]] u fun r w' => r = .returned (.bool (likeF a b x y)) ∧ Upto [] u w'
set_option maxRecDepth 100000 in
set_option maxHeartbeats 25600000 in
theorem lk_diff (d : Nat) (_IH : LkH d) (op so nn mm : Int) (nms : List (List UInt8)) (l : List Nd) (op' so' nn' mm' : Int) (nms' : List (List UInt8)) (l' : List Nd) (va vb : Value) (Pa Pb Qx Qy : Nat → Prop) (x y : List (List UInt8)) (e1 e2 e3 g1 g2 g3 : Option Addr) (f1 f2 f3 N h1 h2 h3 M : Nat) (w : World)
    (hd : ¬ (op = op' ∧ so = so' ∧ nn = nn' ∧ mm = mm' ∧ nms.length = nms'.length ∧ l.length = l'.length)) (ha : LkIn w (d + 1) Pa (.mk op nms so nn mm l) va) (hb : LkIn w (d + 1) Pb (.mk op' nms' so' nn' mm' l') vb) (_hX : EnvR w Qx (envOf x) e1 f1 e2 f2 e3 f3 N) (_hY : EnvR w Qy (envOf y) g1 h1 g2 h2 g3 h3 M) (_hN : N + (d + 1) ≤ 8000) (_hM : M + (d + 1) ≤ 8000) :
    Calls Tryz.prog 66 #[va, vb, .agg #[.slice e1 N f1, .slice e2 N f2, .slice e3 N f3], .agg #[.slice g1 M h1, .slice g2 M h2, .slice g3 M h3]] w fun r w' => r = .returned (.bool (likeF (.mk op nms so nn mm l) (.mk op' nms' so' nn' mm' l') x y)) ∧ Upto [] w w' := by
  have HF : Hid (likeF (.mk op nms so nn mm l) (.mk op' nms' so' nn' mm' l') x y = false) := Lib.hid (by unfold likeF; rw [if_neg hd])
  rw [HF.out]
  obtain ⟨a1, c1, a2, c2, rfl, -, -⟩ := ha.nd.open
  obtain ⟨b1, d1, b2, d2, rfl, -, -⟩ := hb.nd.open
  clear ha hb _hX _hY _hN _hM _IH HF
  obtain ⟨n1, hn1⟩ : ∃ n1, n1 = nms.length := ⟨_, rfl⟩
  obtain ⟨n2, hn2⟩ : ∃ n2, n2 = l.length := ⟨_, rfl⟩
  obtain ⟨k1, hk1⟩ : ∃ k1, k1 = nms'.length := ⟨_, rfl⟩
  obtain ⟨k2, hk2⟩ : ∃ k2, k2 = l'.length := ⟨_, rfl⟩
  rw [← hn1, ← hn2, ← hk1, ← hk2] at hd ⊢
  clear hn1 hn2 hk1 hk2
  obtain ⟨W, hW⟩ : ∃ W, W = (((w.alloc (.cells #[.int .i64 op, .slice a1 n1 c1, .int .i64 so, .int .i64 nn, .int .i64 mm, .slice a2 n2 c2] 25)).alloc (.cells #[.int .i64 op', .slice b1 k1 d1, .int .i64 so', .int .i64 nn', .int .i64 mm', .slice b2 k2 d2] 25)).alloc (.cells #[.slice e1 N f1, .slice e2 N f2, .slice e3 N f3] 95)).alloc (.cells #[.slice g1 M h1, .slice g2 M h2, .slice g3 M h3] 95) := ⟨_, rfl⟩
  have HU : Hid (Upto [] w W) := Lib.hid (by rw [hW]; exact ((((Upto.refl [] w).alloc _).alloc _).alloc _).alloc _)
  have HB1 : Hid (W.heap[w.heap.size]? = some (.cells #[.int .i64 op, .slice a1 n1 c1, .int .i64 so, .int .i64 nn, .int .i64 mm, .slice a2 n2 c2] 25 (0, 0))) := Lib.hid (by rw [hW]; exact alloc_old (alloc_old (alloc_old (new_at w _) _) _) _)
  have HB2 : Hid (W.heap[w.heap.size + 1]? = some (.cells #[.int .i64 op', .slice b1 k1 d1, .int .i64 so', .int .i64 nn', .int .i64 mm', .slice b2 k2 d2] 25 (0, 0))) := Lib.hid (by rw [hW]; exact alloc_old (alloc_old (new_at1 w _ _) _) _)
  have HB3 : Hid (W.heap[w.heap.size + 1 + 1]? = some (.cells #[.slice e1 N f1, .slice e2 N f2, .slice e3 N f3] 95 (0, 0))) := Lib.hid (by rw [hW]; exact alloc_old (new_at2 w _ _ _) _)
  have HB4 : Hid (W.heap[w.heap.size + 1 + 1 + 1]? = some (.cells #[.slice g1 M h1, .slice g2 M h2, .slice g3 M h3] 95 (0, 0))) := Lib.hid (by rw [hW]; have h9 := new_at2 (w.alloc (.cells #[.int .i64 op, .slice a1 n1 c1, .int .i64 so, .int .i64 nn, .int .i64 mm, .slice a2 n2 c2] 25)) (.cells #[.int .i64 op', .slice b1 k1 d1, .int .i64 so', .int .i64 nn', .int .i64 mm', .slice b2 k2 d2] 25) (.cells #[.slice e1 N f1, .slice e2 N f2, .slice e3 N f3] 95) (.cells #[.slice g1 M h1, .slice g2 M h2, .slice g3 M h3] 95); rwa [show (w.alloc (.cells #[.int .i64 op, .slice a1 n1 c1, .int .i64 so, .int .i64 nn, .int .i64 mm, .slice a2 n2 c2] 25)).heap.size = w.heap.size + 1 by show (w.heap.push _).size = _; simp] at h9)
  obtain ⟨u0, u1, u2, u3, u4, u5⟩ := cells6 HB1.out
  obtain ⟨v0, v1, v2, v3, v4, v5⟩ := cells6 HB2.out
  go_enter Tryz.func66, Tryz.ntmps66
  go_wp2_with fail
  all_goals go_ret
  all_goals exact ⟨rfl, ((((Upto.refl [] w).alloc _).alloc _).alloc _).alloc _⟩
end Go.Proofs.YtbnebkkpmcjmbaaGreatDoor


namespace Go.Proofs.YtbnebkkpmcjmbaaGreatDoor
open Go.RowKit Go.PL Go.Maps
/-- the induction's hypothesis -/
def LpH (d : Nat) : Prop := ∀ (a b : Nd) (va vb : Value) (Pa Pb : Nat → Prop) (x y : List (List UInt8)) (mx my : Nat) (u : World),
  LkIn u d Pa a va → LkIn u d Pb b vb → MapI u mx x → MapI u my y → x.length = y.length → x.length + d ≤ 8000 →
  Calls Tryz.prog 68 #[va, vb, .map (some mx), .map (some my)] u fun r w' => r = .returned (.bool (likeF a b x y)) ∧ Upto [] u w'
set_option maxRecDepth 100000 in
set_option maxHeartbeats 25600000 in
theorem lp_diff (d : Nat) (_IH : LpH d) (op so nn mm : Int) (nms : List (List UInt8)) (l : List Nd) (op' so' nn' mm' : Int) (nms' : List (List UInt8)) (l' : List Nd) (va vb : Value) (Pa Pb : Nat → Prop) (x y : List (List UInt8)) (mx my : Nat) (w : World)
    (hd : ¬ (op = op' ∧ so = so' ∧ nn = nn' ∧ mm = mm' ∧ nms.length = nms'.length ∧ l.length = l'.length)) (ha : LkIn w (d + 1) Pa (.mk op nms so nn mm l) va) (hb : LkIn w (d + 1) Pb (.mk op' nms' so' nn' mm' l') vb) (_hX : MapI w mx x) (_hY : MapI w my y) (_hxy : x.length = y.length) (_hN : x.length + (d + 1) ≤ 8000) :
    Calls Tryz.prog 68 #[va, vb, .map (some mx), .map (some my)] w fun r w' => r = .returned (.bool (likeF (.mk op nms so nn mm l) (.mk op' nms' so' nn' mm' l') x y)) ∧ Upto [] w w' := by
  have HF : Hid (likeF (.mk op nms so nn mm l) (.mk op' nms' so' nn' mm' l') x y = false) := Lib.hid (by unfold likeF; rw [if_neg hd])
  rw [HF.out]
  obtain ⟨a1, c1, a2, c2, rfl, -, -⟩ := ha.nd.open
  obtain ⟨b1, d1, b2, d2, rfl, -, -⟩ := hb.nd.open
  clear ha hb _hX _hY _hN _hxy _IH HF
  obtain ⟨n1, hn1⟩ : ∃ n1, n1 = nms.length := ⟨_, rfl⟩
  obtain ⟨n2, hn2⟩ : ∃ n2, n2 = l.length := ⟨_, rfl⟩
  obtain ⟨k1, hk1⟩ : ∃ k1, k1 = nms'.length := ⟨_, rfl⟩
  obtain ⟨k2, hk2⟩ : ∃ k2, k2 = l'.length := ⟨_, rfl⟩
  rw [← hn1, ← hn2, ← hk1, ← hk2] at hd ⊢
  clear hn1 hn2 hk1 hk2
  obtain ⟨W, hW⟩ : ∃ W, W = (w.alloc (.cells #[.int .i64 op, .slice a1 n1 c1, .int .i64 so, .int .i64 nn, .int .i64 mm, .slice a2 n2 c2] 30)).alloc (.cells #[.int .i64 op', .slice b1 k1 d1, .int .i64 so', .int .i64 nn', .int .i64 mm', .slice b2 k2 d2] 30) := ⟨_, rfl⟩
  have HU : Hid (Upto [] w W) := Lib.hid (by rw [hW]; exact ((Upto.refl [] w).alloc _).alloc _)
  have HB1 : Hid (W.heap[w.heap.size]? = some (.cells #[.int .i64 op, .slice a1 n1 c1, .int .i64 so, .int .i64 nn, .int .i64 mm, .slice a2 n2 c2] 30 (0, 0))) := Lib.hid (by rw [hW]; exact alloc_old (new_at w _) _)
  have HB2 : Hid (W.heap[w.heap.size + 1]? = some (.cells #[.int .i64 op', .slice b1 k1 d1, .int .i64 so', .int .i64 nn', .int .i64 mm', .slice b2 k2 d2] 30 (0, 0))) := Lib.hid (by rw [hW]; exact new_at1 w _ _)
  obtain ⟨u0, u1, u2, u3, u4, u5⟩ := cells6 HB1.out
  obtain ⟨v0, v1, v2, v3, v4, v5⟩ := cells6 HB2.out
  go_enter Tryz.func68, Tryz.ntmps68
  go_wp2_with fail
  all_goals go_ret
  all_goals exact ⟨rfl, ((Upto.refl [] w).alloc _).alloc _⟩
end Go.Proofs.YtbnebkkpmcjmbaaGreatDoor


namespace Go.Proofs.YtbnebkkpmcjmbaaGreatDoor
open Go.RowKit Go.PL Go.Maps
set_option maxRecDepth 100000 in
set_option maxHeartbeats 25600000 in
theorem lp_plain (d : Nat) (IH : LpH d) (op so nn mm : Int) (nms : List (List UInt8)) (l : List Nd) (op' so' nn' mm' : Int) (nms' : List (List UInt8)) (l' : List Nd) (va vb : Value) (Pa Pb : Nat → Prop) (x y : List (List UInt8)) (mx my : Nat) (w : World)
    (hs : op = op' ∧ so = so' ∧ nn = nn' ∧ mm = mm' ∧ nms.length = nms'.length ∧ l.length = l'.length) (hbd : bindsF op nms.length = false) (ha : LkIn w (d + 1) Pa (.mk op nms so nn mm l) va) (hb : LkIn w (d + 1) Pb (.mk op' nms' so' nn' mm' l') vb) (hX : MapI w mx x) (hY : MapI w my y) (hxy : x.length = y.length) (hN : x.length + (d + 1) ≤ 8000) :
    Calls Tryz.prog 68 #[va, vb, .map (some mx), .map (some my)] w fun r w' => r = .returned (.bool (likeF (.mk op nms so nn mm l) (.mk op' nms' so' nn' mm' l') x y)) ∧ Upto [] w w' := by
  obtain ⟨R9, hR9⟩ : ∃ R9, R9 = likesF l l' x y := ⟨_, rfl⟩
  have HR9 : Hid (likesF l l' x y = R9) := Lib.hid hR9.symm
  obtain ⟨NL, hNL⟩ : ∃ NL, NL = nmsLike op x y 0 nms nms' := ⟨_, rfl⟩
  have HNL : Hid (nmsLike op x y 0 nms nms' = NL) := Lib.hid hNL.symm
  have HGO0 : Hid (likeF (.mk op nms so nn mm l) (.mk op' nms' so' nn' mm' l') x y = (NL && R9)) := Lib.hid (by unfold likeF; rw [if_pos hs, if_neg (by rw [hbd]; simp), hNL, hR9])
  clear hR9 hNL
  have HLA9 : Hid (∀ z ∈ nms, z.length ≤ maxLen) := Lib.hid (fun z hz => by
    have h1 := List.all_eq_true.1 (form_iff.1 ha.form).2.2.1 z hz
    have := name_len h1
    unfold maxLen
    omega)
  have HLB9 : Hid (∀ z ∈ nms', z.length ≤ maxLen) := Lib.hid (fun z hz => by
    have h1 := List.all_eq_true.1 (form_iff.1 hb.form).2.2.1 z hz
    have := name_len h1
    unfold maxLen
    omega)
  obtain ⟨rfl, rfl, rfl, rfl, hnl, hll⟩ := hs
  have HKA : Hid (∀ z ∈ l, depthF z ≤ d ∧ formF nameF z = 0 ∧ nmsF z + sizeF z + 2 ≤ 8000) := Lib.hid (fun z hz => ⟨by
    have h1 := depths_mem hz
    have h2 := ha.deep
    simp only [depthF] at h2
    omega, forms_iff.1 (form_iff.1 ha.form).2.2.2.2.2 z hz, by
    have h1 := nmss_mem hz
    have h2 := sizesF_mem hz
    have h3 := ha.few
    simp only [nmsF, sizeF] at h3
    omega⟩)
  have HKB : Hid (∀ z ∈ l', depthF z ≤ d ∧ formF nameF z = 0 ∧ nmsF z + sizeF z + 2 ≤ 8000) := Lib.hid (fun z hz => ⟨by
    have h1 := depths_mem hz
    have h2 := hb.deep
    simp only [depthF] at h2
    omega, forms_iff.1 (form_iff.1 hb.form).2.2.2.2.2 z hz, by
    have h1 := nmss_mem hz
    have h2 := sizesF_mem hz
    have h3 := hb.few
    simp only [nmsF, sizeF] at h3
    omega⟩)
  obtain ⟨a1, c1, a2, c2, rfl, hsa, hla⟩ := ha.nd.open
  obtain ⟨b1, d1, b2, d2, rfl, hsb, hlb⟩ := hb.nd.open
  have hln : nms.length ≤ 8000 := by have h3 := ha.few; simp only [nmsF] at h3; omega
  have hlm : l.length ≤ 8000 := by have h1 := sizes_len l; have h3 := ha.few; simp only [sizeF] at h3; omega
  have HBI : Hid (∀ u, Calls Tryz.prog 57 #[.agg #[.int .i64 op, .slice a1 nms.length c1, .int .i64 so, .int .i64 nn, .int .i64 mm, .slice a2 l.length c2]] u fun e w' => e = .returned (.bool false) ∧ Upto [] u w') := Lib.hid (fun u => by
    have := binds_calls op a1 nms.length c1 so nn mm a2 l.length c2 u
    rw [hbd] at this
    exact this)
  have IHH := Lib.hid IH
  have HX0 := Lib.hid hX
  have HY0 := Lib.hid hY
  have HSA := Lib.hid hsa
  have HLA := Lib.hid hla
  rw [← hnl] at hsb
  have HSB := Lib.hid hsb
  have HLB := Lib.hid hlb
  rw [← hnl, ← hll]
  obtain ⟨n1, hn1⟩ : ∃ n1, n1 = nms.length := ⟨_, rfl⟩
  obtain ⟨n2, hn2⟩ : ∃ n2, n2 = l.length := ⟨_, rfl⟩
  have HN1 : Hid (nms.length = n1 ∧ nms'.length = n1) := Lib.hid ⟨hn1.symm, by rw [← hnl, hn1]⟩
  have HN2 : Hid (l.length = n2 ∧ l'.length = n2) := Lib.hid ⟨hn2.symm, by rw [← hll, hn2]⟩
  have HNM : Hid (x.length = y.length ∧ x.length + (d + 1) ≤ 8000) := Lib.hid ⟨hxy, hN⟩
  rw [← hn1, ← hn2] at HBI
  rw [← hn1] at HSA HSB hln
  rw [← hn2] at hlm
  rw [← hn1, ← hn2]
  have hI1 : (n1 : Int) ≤ 8000 := by omega
  have hI2 : (n2 : Int) ≤ 8000 := by omega
  have hI10 : (0 : Int) ≤ n1 := by omega
  have hI20 : (0 : Int) ≤ n2 := by omega
  clear ha hb hX hY hN hxy IH hsa hla hsb hlb hln hlm hnl hll hn1 hn2 hbd
  obtain ⟨W, hW⟩ : ∃ W, W = (w.alloc (.cells #[.int .i64 op, .slice a1 n1 c1, .int .i64 so, .int .i64 nn, .int .i64 mm, .slice a2 n2 c2] 30)).alloc (.cells #[.int .i64 op, .slice b1 n1 d1, .int .i64 so, .int .i64 nn, .int .i64 mm, .slice b2 n2 d2] 30) := ⟨_, rfl⟩
  have HU : Hid (Upto [] w W) := Lib.hid (by rw [hW]; exact ((Upto.refl [] w).alloc _).alloc _)
  have HB1 : Hid (W.heap[w.heap.size]? = some (.cells #[.int .i64 op, .slice a1 n1 c1, .int .i64 so, .int .i64 nn, .int .i64 mm, .slice a2 n2 c2] 30 (0, 0))) := Lib.hid (by rw [hW]; exact alloc_old (new_at w _) _)
  have HB2 : Hid (W.heap[w.heap.size + 1]? = some (.cells #[.int .i64 op, .slice b1 n1 d1, .int .i64 so, .int .i64 nn, .int .i64 mm, .slice b2 n2 d2] 30 (0, 0))) := Lib.hid (by rw [hW]; exact new_at1 w _ _)
  obtain ⟨u0, u1, u2, u3, u4, u5⟩ := cells6 HB1.out
  obtain ⟨v0, v1, v2, v3, v4, v5⟩ := cells6 HB2.out
  go_enter Tryz.func68, Tryz.ntmps68
  go_wp2_with fail
  simp only [← hW]
  clear hW
  try go_wp2_with fail
  refine (HBI.out _).mono ?_
  rintro r w2 ⟨rfl, hu2⟩
  have HU2 := Lib.hid (HU.out.trans_ext hu2)
  have HD1 := Lib.hid (hu2.at HB1.out (by simp))
  have HD2 := Lib.hid (hu2.at HB2.out (by simp))
  clear hu2 u0 u1 u2 u3 u4 u5 v0 v1 v2 v3 v4 v5
  obtain ⟨u0, u1, u2, u3, u4, u5⟩ := cells6 HD1.out
  obtain ⟨v0, v1, v2, v3, v4, v5⟩ := cells6 HD2.out
  go_wp2_with fail
  go_loopw [102] (fun i wr => ∃ j : Nat, j ≤ n1 ∧ i = .int .i64 j ∧ Hid (nmsLike op x y j (nms.drop j) (nms'.drop j) = NL) ∧ Hid (Upto [] w2 wr)) (fun i _ => n1 - (intOf i).toNat)
  case atStart => exact ⟨0, by omega, rfl, Lib.hid (by rw [List.drop_zero, List.drop_zero]; exact HNL.out), Lib.hid (Upto.refl _ _)⟩
  case round =>
    obtain ⟨j, hj, rfl, HL, HUW⟩ := hrel
    have hj0 : (0 : Int) ≤ j := by omega
    have HE1 := Lib.hid (HUW.out.at HD1.out (by simp))
    have HE2 := Lib.hid (HUW.out.at HD2.out (by simp))
    have HUR := Lib.hid (HU2.out.trans_ext HUW.out)
    clear u0 u1 u2 u3 u4 u5 v0 v1 v2 v3 v4 v5
    obtain ⟨u0, u1, u2, u3, u4, u5⟩ := cells6 HE1.out
    obtain ⟨v0, v1, v2, v3, v4, v5⟩ := cells6 HE2.out
    rcases Nat.lt_or_ge j n1 with hlt | hge
    · have hjl : (j : Int) < n1 := by omega
      obtain ⟨p, hp⟩ : ∃ p, nms[j]? = some p := ⟨nms[j]'(by rw [HN1.out.1]; omega), List.getElem?_eq_getElem _⟩
      obtain ⟨q, hq⟩ : ∃ q, nms'[j]? = some q := ⟨nms'[j]'(by rw [HN1.out.2]; omega), List.getElem?_eq_getElem _⟩
      obtain ⟨ga9, oa9, hva9, hca⟩ := slp_cell HSA.out HN1.out.1 j p hp
      obtain ⟨gb9, ob9, hvb9, hcb⟩ := slp_cell HSB.out HN1.out.2 j q hq
      have HST : Hid (nmsLike op x y j (nms.drop j) (nms'.drop j) = ((if op = 10 ∧ j = 0 then p == q else nmLike x y p q) && nmsLike op x y (j + 1) (nms.drop (j + 1)) (nms'.drop (j + 1)))) := Lib.hid (by
        obtain ⟨hi1, rfl⟩ := List.getElem?_eq_some_iff.1 hp
        obtain ⟨hi2, rfl⟩ := List.getElem?_eq_some_iff.1 hq
        rw [List.drop_eq_getElem_cons hi1, List.drop_eq_getElem_cons hi2]
        rw [nmsLike])
      obtain ⟨z1, hz1⟩ : ∃ z1, z1 = findF x p x.length + 1 := ⟨_, rfl⟩
      obtain ⟨z2, hz2⟩ : ∃ z2, z2 = findF y q y.length + 1 := ⟨_, rfl⟩
      have hk1 : ∀ n, (Instr.lookup 99 (.map (some mx)) (.string ⟨p.toArray⟩) false).run Tryz.prog (wr.drewN n) = .ok (.int .i64 z1) (wr.drewN n) := fun n => by
        rw [hz1]
        exact (HX0.out.upto (HUR.out.drewN n) (by simp)).look p (HLA9.out p (List.mem_of_getElem? hp))
      have hk2 : ∀ n, (Instr.lookup 99 (.map (some my)) (.string ⟨q.toArray⟩) false).run Tryz.prog (wr.drewN n) = .ok (.int .i64 z2) (wr.drewN n) := fun n => by
        rw [hz2]
        exact (HY0.out.upto (HUR.out.drewN n) (by simp)).look q (HLB9.out q (List.mem_of_getElem? hq))
      have HNK : Hid (nmLike x y p q = (z1 == z2 && (!(z1 == 0) || p == q))) := Lib.hid (by
        have g1 := findF_ge x p x.length
        have g2 : (findF x p x.length + 1 == findF y q y.length + 1) = (findF x p x.length == findF y q y.length) := by
          rw [Bool.eq_iff_iff, beq_iff_eq, beq_iff_eq]
          omega
        have g3 : (findF x p x.length + 1 == 0) = decide (findF x p x.length < 0) := by
          rw [Bool.eq_iff_iff, beq_iff_eq, decide_eq_true_iff]
          omega
        unfold nmLike
        rw [hz1, hz2, g2, g3])
      have HCA := Lib.hid hca
      have HCB := Lib.hid hcb
      clear hp hq hca hcb hz1 hz2
      subst hva9
      subst hvb9
      have c0 := HCA.out _ HUR.out
      have c9 := HCB.out _ HUR.out
      by_cases h10 : op = 10
      · have h10b : (op == 10) = true := by rw [h10]; rfl
        rcases Nat.eq_zero_or_pos j with hj1 | hj1
        · have hj1b : ((j : Int) == 0) = true := by rw [hj1]; rfl
          have hjz : (j : Int) = 0 := by omega
          have hjx : (j : Int) = 0 := by omega
          have hn0 : (0 : Int) < n1 := by omega
          rw [hj1, Nat.add_zero] at c0 c9
          have HIF : Hid ((if op = 10 ∧ j = 0 then p == q else nmLike x y p q) = (p == q)) := Lib.hid (if_pos ⟨h10, hj1⟩)
          clear hj1 h10
          cases hpq : (p == q) with
          | false =>
            have hpn : (p != q) = true := by rw [bne, hpq]; rfl
            have HNF : Hid (NL = false) := Lib.hid (by have h9 := HL.out; rw [HST.out, HIF.out, hpq, Bool.false_and] at h9; exact h9.symm)
            clear HST HL
            try go_wp2_with fail
            go_quiet (fail)
            try go_wp2_with fail
            go_quiet (fail)
            try go_wp2_with fail
            go_ret
            rw [HGO0.out, HNF.out, Bool.false_and]
            exact ⟨rfl, (HUR.out.drewN _).drewN _⟩
          | true =>
            have hpn : (p != q) = false := by rw [bne, hpq]; rfl
            have HNT : Hid (nmsLike op x y (j + 1) (nms.drop (j + 1)) (nms'.drop (j + 1)) = NL) := Lib.hid (by have h9 := HL.out; rw [HST.out, HIF.out, hpq, Bool.true_and] at h9; exact h9)
            clear HST HL
            try go_wp2_with fail
            go_quiet (fail)
            try go_wp2_with fail
            go_quiet (fail)
            try go_wp2_with fail
            exact ⟨⟨j + 1, by omega, by simp [hjx], HNT, Lib.hid (HUW.out.drewN _)⟩, by simp [intOf, hjx]; omega⟩
        · have hj1b : ((j : Int) == 0) = false := by rw [beq_eq_false_iff_ne]; omega
          have hjz : ¬ (j : Int) = 0 := by omega
          have hno : ¬ (op = 10 ∧ j = 0) := fun h => by omega
          have hjx : (0 : Int) = 0 := rfl
          clear hj1 h10
          have HIF : Hid ((if op = 10 ∧ j = 0 then p == q else nmLike x y p q) = (z1 == z2 && (!(z1 == 0) || p == q))) := Lib.hid (by rw [if_neg hno, HNK.out])
          clear hno
          by_cases h12 : z1 = z2
          · have h12b : (z1 == z2) = true := by rw [h12]; exact beq_self_eq_true _
            have h12c : (z1 != z2) = false := by rw [bne, h12b]; rfl
            by_cases hi0 : z1 = 0
            · have hdi : (z1 == 0) = true := by rw [hi0]; rfl
              clear h12 hi0
              cases hpq : (p == q) with
              | false =>
                have hpn : (p != q) = true := by rw [bne, hpq]; rfl
                have HNF : Hid (NL = false) := Lib.hid (by have h9 := HL.out; rw [HST.out, HIF.out, h12b, hdi, Bool.true_and, Bool.not_true, Bool.false_or, hpq, Bool.false_and] at h9; exact h9.symm)
                clear HST HL
                try go_wp2_with fail
                go_quiet (fail)
                try go_wp2_with fail
                go_quiet (fail)
                try go_wp2_with fail
                go_ret
                rw [HGO0.out, HNF.out, Bool.false_and]
                exact ⟨rfl, (HUR.out.drewN _).drewN _⟩
              | true =>
                have hpn : (p != q) = false := by rw [bne, hpq]; rfl
                have HNT : Hid (nmsLike op x y (j + 1) (nms.drop (j + 1)) (nms'.drop (j + 1)) = NL) := Lib.hid (by have h9 := HL.out; rw [HST.out, HIF.out, h12b, hdi, Bool.true_and, Bool.not_true, Bool.false_or, hpq, Bool.true_and] at h9; exact h9)
                clear HST HL
                try go_wp2_with fail
                go_quiet (fail)
                try go_wp2_with fail
                go_quiet (fail)
                try go_wp2_with fail
                exact ⟨⟨j + 1, by omega, by simp, HNT, Lib.hid (HUW.out.drewN _)⟩, by simp [intOf]; omega⟩
            · have hdi : (z1 == 0) = false := by rw [beq_eq_false_iff_ne]; exact hi0
              clear h12
              have HNT : Hid (nmsLike op x y (j + 1) (nms.drop (j + 1)) (nms'.drop (j + 1)) = NL) := Lib.hid (by have h9 := HL.out; rw [HST.out, HIF.out, h12b, hdi, Bool.true_and, Bool.not_false, Bool.true_or, Bool.true_and] at h9; exact h9)
              clear HST HL
              try go_wp2_with fail
              go_quiet (fail)
              try go_wp2_with fail
              go_quiet (fail)
              try go_wp2_with fail
              exact ⟨⟨j + 1, by omega, by simp, HNT, Lib.hid (HUW.out.drewN _)⟩, by simp [intOf]; omega⟩
          · have h12b : (z1 == z2) = false := by rw [beq_eq_false_iff_ne]; exact h12
            have h12c : (z1 != z2) = true := by rw [bne, h12b]; rfl
            have HNF : Hid (NL = false) := Lib.hid (by have h9 := HL.out; rw [HST.out, HIF.out, h12b, Bool.false_and, Bool.false_and] at h9; exact h9.symm)
            clear HST HL
            try go_wp2_with fail
            go_quiet (fail)
            try go_wp2_with fail
            go_quiet (fail)
            try go_wp2_with fail
            go_ret
            rw [HGO0.out, HNF.out, Bool.false_and]
            exact ⟨rfl, (HUR.out.drewN _).drewN _⟩
      · have h10b : (op == 10) = false := by rw [beq_eq_false_iff_ne]; exact h10
        have hno : ¬ (op = 10 ∧ j = 0) := fun h => h10 h.1
        have hjx : (0 : Int) = 0 := rfl
        have HIF : Hid ((if op = 10 ∧ j = 0 then p == q else nmLike x y p q) = (z1 == z2 && (!(z1 == 0) || p == q))) := Lib.hid (by rw [if_neg hno, HNK.out])
        clear hno
        by_cases h12 : z1 = z2
        · have h12b : (z1 == z2) = true := by rw [h12]; exact beq_self_eq_true _
          have h12c : (z1 != z2) = false := by rw [bne, h12b]; rfl
          by_cases hi0 : z1 = 0
          · have hdi : (z1 == 0) = true := by rw [hi0]; rfl
            clear h12 hi0
            cases hpq : (p == q) with
            | false =>
              have hpn : (p != q) = true := by rw [bne, hpq]; rfl
              have HNF : Hid (NL = false) := Lib.hid (by have h9 := HL.out; rw [HST.out, HIF.out, h12b, hdi, Bool.true_and, Bool.not_true, Bool.false_or, hpq, Bool.false_and] at h9; exact h9.symm)
              clear HST HL
              try go_wp2_with fail
              go_quiet (fail)
              try go_wp2_with fail
              go_quiet (fail)
              try go_wp2_with fail
              go_ret
              rw [HGO0.out, HNF.out, Bool.false_and]
              exact ⟨rfl, (HUR.out.drewN _).drewN _⟩
            | true =>
              have hpn : (p != q) = false := by rw [bne, hpq]; rfl
              have HNT : Hid (nmsLike op x y (j + 1) (nms.drop (j + 1)) (nms'.drop (j + 1)) = NL) := Lib.hid (by have h9 := HL.out; rw [HST.out, HIF.out, h12b, hdi, Bool.true_and, Bool.not_true, Bool.false_or, hpq, Bool.true_and] at h9; exact h9)
              clear HST HL
              try go_wp2_with fail
              go_quiet (fail)
              try go_wp2_with fail
              go_quiet (fail)
              try go_wp2_with fail
              exact ⟨⟨j + 1, by omega, by simp, HNT, Lib.hid (HUW.out.drewN _)⟩, by simp [intOf]; omega⟩
          · have hdi : (z1 == 0) = false := by rw [beq_eq_false_iff_ne]; exact hi0
            clear h12
            have HNT : Hid (nmsLike op x y (j + 1) (nms.drop (j + 1)) (nms'.drop (j + 1)) = NL) := Lib.hid (by have h9 := HL.out; rw [HST.out, HIF.out, h12b, hdi, Bool.true_and, Bool.not_false, Bool.true_or, Bool.true_and] at h9; exact h9)
            clear HST HL
            try go_wp2_with fail
            go_quiet (fail)
            try go_wp2_with fail
            go_quiet (fail)
            try go_wp2_with fail
            exact ⟨⟨j + 1, by omega, by simp, HNT, Lib.hid (HUW.out.drewN _)⟩, by simp [intOf]; omega⟩
        · have h12b : (z1 == z2) = false := by rw [beq_eq_false_iff_ne]; exact h12
          have h12c : (z1 != z2) = true := by rw [bne, h12b]; rfl
          have HNF : Hid (NL = false) := Lib.hid (by have h9 := HL.out; rw [HST.out, HIF.out, h12b, Bool.false_and, Bool.false_and] at h9; exact h9.symm)
          clear HST HL
          try go_wp2_with fail
          go_quiet (fail)
          try go_wp2_with fail
          go_quiet (fail)
          try go_wp2_with fail
          go_ret
          rw [HGO0.out, HNF.out, Bool.false_and]
          exact ⟨rfl, (HUR.out.drewN _).drewN _⟩
    · obtain rfl : j = n1 := by omega
      have HNT : Hid (NL = true) := Lib.hid (by
        have h9 := HL.out
        rw [List.drop_of_length_le (by rw [HN1.out.1]; exact Nat.le_refl _)] at h9
        rw [← h9]
        rw [nmsLike]
        intro a r b r' h1
        cases h1)
      have HGO : Hid (likeF (.mk op nms so nn mm l) (.mk op nms' so nn mm l') x y = R9) := Lib.hid (by rw [HGO0.out, HNT.out, Bool.true_and])
      obtain ⟨w8, hw8⟩ : ∃ w8, w8 = wr := ⟨_, rfl⟩
      subst hw8
      have HC1 := HE1
      have HC2 := HE2
      have HUC := HUR
      have HEX8 := Lib.hid (HX0.out.upto HUR.out (by simp))
      have HEY8 := Lib.hid (HY0.out.upto HUR.out (by simp))
      go_wp2_with fail
      go_loopw [157] (fun k wr => ∃ i : Nat, i ≤ n2 ∧ k = .int .i64 i ∧ Hid (likesF (l.drop i) (l'.drop i) x y = R9) ∧ Hid (Upto [] w8 wr)) (fun k _ => n2 - (intOf k).toNat)
      case atStart => exact ⟨0, by omega, rfl, Lib.hid (by rw [List.drop_zero, List.drop_zero]; exact HR9.out), Lib.hid (Upto.refl _ _)⟩
      case round =>
        obtain ⟨i, hi, rfl, HR, HUW⟩ := hrel
        have hi0 : (0 : Int) ≤ i := by omega
        have HW1 := Lib.hid (HUW.out.at HC1.out (by simp))
        have HW2 := Lib.hid (HUW.out.at HC2.out (by simp))
        have HUR := Lib.hid (HUC.out.trans_ext HUW.out)
        clear u0 u1 u2 u3 u4 u5 v0 v1 v2 v3 v4 v5
        obtain ⟨u0, u1, u2, u3, u4, u5⟩ := cells6 HW1.out
        obtain ⟨v0, v1, v2, v3, v4, v5⟩ := cells6 HW2.out
        rcases Nat.lt_or_ge i n2 with hlt | hge
        · have hil : (i : Int) < n2 := by omega
          obtain ⟨za, hp⟩ : ∃ za, l[i]? = some za := ⟨l[i]'(by rw [HN2.out.1]; omega), List.getElem?_eq_getElem _⟩
          obtain ⟨zb, hp'⟩ : ∃ zb, l'[i]? = some zb := ⟨l'[i]'(by rw [HN2.out.2]; omega), List.getElem?_eq_getElem _⟩
          obtain ⟨ga, oa, xo, xa1, xn1, xc1, xs, xn, xm, xa2, xn2, xc2, hva, ra0, ra1, ra2, ra3, ra4, ra5, hnx⟩ := HLA.out i za hp
          obtain ⟨gb, ob, yo, ya1, yn1, yc1, ys, yn, ym, ya2, yn2, yc2, hvb, rb0, rb1, rb2, rb3, rb4, rb5, hny⟩ := HLB.out i zb hp'
          have HDR : Hid (likesF (l.drop i) (l'.drop i) x y = (likeF za zb x y && likesF (l.drop (i + 1)) (l'.drop (i + 1)) x y)) := Lib.hid (by
            obtain ⟨hi1, rfl⟩ := List.getElem?_eq_some_iff.1 hp
            obtain ⟨hi2, rfl⟩ := List.getElem?_eq_some_iff.1 hp'
            rw [List.drop_eq_getElem_cons hi1, List.drop_eq_getElem_cons hi2]
            rw [likesF])
          replace ra0 := up_cell HUR.out ra0
          replace ra1 := up_cell HUR.out ra1
          replace ra2 := up_cell HUR.out ra2
          replace ra3 := up_cell HUR.out ra3
          replace ra4 := up_cell HUR.out ra4
          replace ra5 := up_cell HUR.out ra5
          replace rb0 := up_cell HUR.out rb0
          replace rb1 := up_cell HUR.out rb1
          replace rb2 := up_cell HUR.out rb2
          replace rb3 := up_cell HUR.out rb3
          replace rb4 := up_cell HUR.out rb4
          replace rb5 := up_cell HUR.out rb5
          have hka := HKA.out za (List.mem_of_getElem? hp)
          have hkb := HKB.out zb (List.mem_of_getElem? hp')
          have HC := Lib.hid (fun u (hu : Upto [] wr u) => IHH.out za zb (.agg #[.int .i64 xo, .slice xa1 xn1 xc1, .int .i64 xs, .int .i64 xn, .int .i64 xm, .slice xa2 xn2 xc2]) (.agg #[.int .i64 yo, .slice ya1 yn1 yc1, .int .i64 ys, .int .i64 yn, .int .i64 ym, .slice ya2 yn2 yc2]) Pa Pb x y mx my u ⟨hnx.ext (HUR.out.trans_ext hu), hka.1, hka.2.1, hka.2.2⟩ ⟨hny.ext (HUR.out.trans_ext hu), hkb.1, hkb.2.1, hkb.2.2⟩ (HEX8.out.upto (HUW.out.trans_ext hu) (by simp)) (HEY8.out.upto (HUW.out.trans_ext hu) (by simp)) (by have := HNM.out.1; first | exact this | (simp; omega)) (by have := HNM.out; first | omega | (simp; omega)))
          clear hp hp' hnx hny hka hkb
          subst hva hvb
          go_wp2_with fail
          have j5 : ∀ u : Ext wr, u.w.cell? ⟨w.heap.size, 5, none⟩ = some (.slice (some ⟨ga, oa, none⟩) n2 c2) := fun u => u.cell u5
          have k5 : ∀ u : Ext wr, u.w.cell? ⟨w.heap.size + 1, 5, none⟩ = some (.slice (some ⟨gb, ob, none⟩) n2 d2) := fun u => u.cell v5
          have er0 : ∀ u : Ext wr, u.w.cell? ⟨ga, oa + i * 6, none⟩ = some _ := fun u => u.cell ra0
          have er1 : ∀ u : Ext wr, u.w.cell? ⟨ga, oa + i * 6 + 1, none⟩ = some _ := fun u => u.cell ra1
          have er2 : ∀ u : Ext wr, u.w.cell? ⟨ga, oa + i * 6 + 2, none⟩ = some _ := fun u => u.cell ra2
          have er3 : ∀ u : Ext wr, u.w.cell? ⟨ga, oa + i * 6 + 3, none⟩ = some _ := fun u => u.cell ra3
          have er4 : ∀ u : Ext wr, u.w.cell? ⟨ga, oa + i * 6 + 4, none⟩ = some _ := fun u => u.cell ra4
          have er5 : ∀ u : Ext wr, u.w.cell? ⟨ga, oa + i * 6 + 5, none⟩ = some _ := fun u => u.cell ra5
          have es0 : ∀ u : Ext wr, u.w.cell? ⟨gb, ob + i * 6, none⟩ = some _ := fun u => u.cell rb0
          have es1 : ∀ u : Ext wr, u.w.cell? ⟨gb, ob + i * 6 + 1, none⟩ = some _ := fun u => u.cell rb1
          have es2 : ∀ u : Ext wr, u.w.cell? ⟨gb, ob + i * 6 + 2, none⟩ = some _ := fun u => u.cell rb2
          have es3 : ∀ u : Ext wr, u.w.cell? ⟨gb, ob + i * 6 + 3, none⟩ = some _ := fun u => u.cell rb3
          have es4 : ∀ u : Ext wr, u.w.cell? ⟨gb, ob + i * 6 + 4, none⟩ = some _ := fun u => u.cell rb4
          have es5 : ∀ u : Ext wr, u.w.cell? ⟨gb, ob + i * 6 + 5, none⟩ = some _ := fun u => u.cell rb5
          clear u0 u1 u2 u3 u4 u5 v0 v1 v2 v3 v4 v5 ra0 ra1 ra2 ra3 ra4 ra5 rb0 rb1 rb2 rb3 rb4 rb5
          have HRB := HR.out
          rw [HDR.out] at HRB
          have HRB2 := Lib.hid HRB
          clear HRB
          generalize hL9 : likeF za zb x y = L9 at *
          clear hL9
          refine wp_region_seg_all [12] [] [0, 1, 2, 3, 4, 5, 6, 7, 8, 9, 10, 11, 12, 13] (by kernel_rfl) (by kernel_rfl) ?_
          iterate 12 (refine seg_plain rfl rfl rfl rfl rfl ?_; intro K' hK'; go_big_quiet_op; go_big_quiet_on)
          refine seg_call (v := .bool L9) rfl rfl rfl rfl (fun w => by go_simp) (fun w' hu hd => HC.out w' hu) ?_
          simp only [Act.put, List.setIfInBounds_toArray, List.set_cons_zero, List.set_cons_succ]
          (refine seg_plain rfl rfl rfl rfl rfl ?_; intro K' hK'; go_big_quiet_op; go_big_quiet_on)
          intro w9 hg
          have HU9 := Lib.hid hg.up
          clear hg j5 k5 er0 er1 er2 er3 er4 er5 es0 es1 es2 es3 es4 es5
          cases L9 with
          | false =>
            have HRF : Hid (R9 = false) := Lib.hid (by have h9 := HRB2.out; rw [Bool.false_and] at h9; exact h9.symm)
            try go_wp2_with fail
            go_ret
            rw [HGO.out, HRF.out]
            exact ⟨rfl, HUR.out.trans_ext HU9.out⟩
          | true =>
            try go_wp2_with fail
            exact ⟨⟨i + 1, by omega, by simp, Lib.hid (by have h9 := HRB2.out; rw [Bool.true_and] at h9; exact h9), Lib.hid (HUW.out.trans_ext HU9.out)⟩, by simp [intOf]; omega⟩
        · obtain rfl : i = n2 := by omega
          have HRT : Hid (R9 = true) := Lib.hid (by
            have h9 := HR.out
            rw [List.drop_of_length_le (by rw [HN2.out.1]; exact Nat.le_refl _)] at h9
            rw [← h9]
            rw [likesF]
            intro a r b r' h1
            cases h1)
          go_wp2_with fail
          go_ret
          rw [HGO.out, HRT.out]
          exact ⟨rfl, HUR.out⟩
end Go.Proofs.YtbnebkkpmcjmbaaGreatDoor


namespace Go.Proofs.YtbnebkkpmcjmbaaGreatDoor
open Go.RowKit Go.PL Go.Maps
theorem findF_lt (x : List (List UInt8)) (a : List UInt8) : ∀ i, findF x a i < i
  | 0 => by unfold findF; omega
  | i + 1 => by
    unfold findF
    split
    · omega
    · have := findF_lt x a i; omega
theorem EntI.num {xs : List (List UInt8)} {e : MapEntry} (h : EntI xs e) : ∃ (y : List UInt8) (z : Int), e.key = .string ⟨y.toArray⟩ ∧ e.val = .int .i64 z ∧ 1 ≤ z ∧ z ≤ xs.length := by
  obtain ⟨y, h1, h2, h3, -⟩ := h
  have := findF_lt xs y xs.length
  exact ⟨y, _, h1, h2, by omega, by omega⟩
theorem MapE.top {es : Array MapEntry} {c : Nat} {xs : List (List UInt8)} (h : MapE es c xs) (hN : 0 < xs.length) : ∃ e ∈ es.toList, e.val = .int .i64 (xs.length : Int) := by
  obtain ⟨ys, b, rfl⟩ : ∃ ys b, xs = ys ++ [b] := by
    rcases List.eq_nil_or_concat xs with h0 | ⟨ys, b, h0⟩
    · rw [h0] at hN; simp at hN
    · exact ⟨ys, b, by rw [h0, List.concat_eq_append]⟩
  have hf : findF (ys ++ [b]) b (ys ++ [b]).length = (ys.length : Int) := by rw [findF_snoc, if_pos rfl]
  obtain ⟨e, he, hk⟩ := h.all b (by rw [hf]; omega)
  obtain ⟨y, g1, g2, -, -⟩ := h.ent e he
  have hy : y = b := sV_inj (g1.symm.trans hk)
  refine ⟨e, he, ?_⟩
  rw [g2, hy, hf, List.length_append, List.length_singleton]
  rfl
theorem upto_setBlock {S : List Nat} {w w' : World} {r : Nat} {o' : Obj} (h : Upto S w w') (hS : r ∈ S ∨ w.heap.size ≤ r) : Upto S w (ChangeMaps.setBlock w' r o') :=
  ⟨h.os, h.tape, h.output, by show _ ≤ (w'.heap.setIfInBounds r o').size; rw [Array.size_setIfInBounds]; exact h.size, fun k hk hn => by
    have hne : r ≠ k := fun e => by
      rcases hS with hS | hS
      · exact hn (e ▸ hS)
      · omega
    show (w'.heap.setIfInBounds r o')[k]? = _
    rw [Array.getElem?_setIfInBounds_ne hne]
    exact h.block k hk hn⟩
/-- behind a round of the range: the largest number so far -/
structure RgAt (w0 : World) (r mX : Nat) (es : Array MapEntry) (c : Nat) (N : Nat) (kk : Int) (w : World) : Prop where
  ex : ∃ (seen : Array Nat) (cc : Nat), w.heap[r]? = some (.mapIter (some mX) c seen cc) ∧ c ≤ cc ∧ ∀ e ∈ es.toList, seen.contains e.born = true → ∀ z, e.val = .int .i64 z → z + 1 ≤ kk
  up : Upto [] w0 w
  le : kk ≤ N + 1
  ge : 1 ≤ kk
theorem RgAt.start {w0 : World} {mX : Nat} {es : Array MapEntry} {c N : Nat} {kk : Int} (h1 : 1 ≤ kk) (h2 : kk ≤ N + 1) : RgAt w0 w0.heap.size mX es c N kk (w0.alloc (.mapIter (some mX) c #[] c)) :=
  ⟨⟨#[], c, new_at w0 _, Nat.le_refl _, fun e _ h => by simp at h⟩, (Upto.refl [] w0).alloc _, h2, h1⟩
theorem RgAt.round {w0 w : World} {r mX : Nat} {es : Array MapEntry} {c : Nat} {xs : List (List UInt8)} {kk : Int} (h : RgAt w0 r mX es c xs.length kk w) (hE : MapE es c xs) (hb : w0.heap[mX]? = some (.map es c)) (hr : w0.heap.size ≤ r) :
    ((∀ ty, (Instr.next (.pointer (some ⟨r, 0, none⟩)) false ty).run Tryz.prog w = .ok (.tuple #[.bool false]) w) ∧ kk = xs.length + 1) ∨
    ∃ (y : List UInt8) (z : Int) (w' : World), (∀ ty, (Instr.next (.pointer (some ⟨r, 0, none⟩)) false ty).run Tryz.prog w = .ok (.tuple #[.bool true, .string ⟨y.toArray⟩, .int .i64 z]) w') ∧ (Instr.entry (.pointer (some ⟨r, 0, none⟩))).run Tryz.prog w' = .ok (.tuple #[.string ⟨y.toArray⟩, .int .i64 z]) w' ∧ 1 ≤ z ∧ z ≤ xs.length ∧ RgAt w0 r mX es c xs.length (if kk < z + 1 then z + 1 else kk) w' ∧ (leftOf es (w'.iterSeen r)).size < (leftOf es (w.iterSeen r)).size := by
  obtain ⟨⟨seen, cc, hi, hcc, hs⟩, hu, hle, hge⟩ := h
  have hbw := hu.at hb (by simp)
  have hsn : w.iterSeen r = seen := by unfold World.iterSeen; rw [hi]
  by_cases h0 : (leftOf es seen).size = 0
  · refine Or.inl ⟨fun ty => ?_, ?_⟩
    · rcases run_next_at (P := Tryz.prog) w ty r mX c cc seen es c hi hbw hE.stamp.1 hcc with ⟨-, h1⟩ | ⟨e, he, -⟩
      · exact h1
      · have := Array.eq_empty_of_size_eq_zero h0
        rw [this] at he
        simp at he
    · rcases Nat.eq_zero_or_pos xs.length with hN | hN
      · omega
      · obtain ⟨e, he, hv⟩ := hE.top hN
        have hse : seen.contains e.born = true := by
          cases hc : seen.contains e.born with
          | true => rfl
          | false =>
            have hm : e ∈ (leftOf es seen).toList := by
              unfold leftOf
              exact Array.mem_toList_iff.2 (Array.mem_filter.2 ⟨Array.mem_toList_iff.1 he, by rw [hc]; rfl⟩)
            have := Array.eq_empty_of_size_eq_zero h0
            rw [this] at hm
            simp at hm
        have := hs e he hse _ hv
        omega
  · have hx : ∃ e ∈ (leftOf es seen).toList, ∃ w1 : World, (w1 = w ∨ w1 = w.drew) ∧ ∀ ty, (Instr.next (.pointer (some ⟨r, 0, none⟩)) false ty).run Tryz.prog w = .ok (.tuple #[.bool true, e.key, e.val]) (ChangeMaps.setBlock w1 r (.mapIter (some mX) c (seen.push e.born) c)) := by
      rcases run_next_at (P := Tryz.prog) w 0 r mX c cc seen es c hi hbw hE.stamp.1 hcc with ⟨h1, -⟩ | ⟨e, he, w1, hw1, hrun⟩
      · exact absurd h1 h0
      · exact ⟨e, he, w1, hw1, fun ty => hrun⟩
    obtain ⟨e, he, w1, hw1, hrun⟩ := hx
    obtain ⟨y, z, hk, hv, hz1, hz2⟩ := (hE.ent e (mem_left he).1).num
    have hu1 : Upto [] w0 w1 := by
      rcases hw1 with rfl | rfl
      · exact hu
      · exact ⟨hu.os, hu.tape, hu.output, hu.size, hu.block⟩
    have hi1 : w1.heap[r]? = some (.mapIter (some mX) c seen cc) := by rcases hw1 with rfl | rfl <;> exact hi
    have hu2 : Upto [] w0 (ChangeMaps.setBlock w1 r (.mapIter (some mX) c (seen.push e.born) c)) := upto_setBlock hu1 (Or.inr hr)
    have hrl : r < w1.heap.size := lt_of_heap hi1
    have hi2 : (ChangeMaps.setBlock w1 r (.mapIter (some mX) c (seen.push e.born) c)).heap[r]? = some (.mapIter (some mX) c (seen.push e.born) c) := by
      show (w1.heap.setIfInBounds r _)[r]? = _
      rw [Array.getElem?_setIfInBounds_self_of_lt hrl]
    have hsn2 : (ChangeMaps.setBlock w1 r (.mapIter (some mX) c (seen.push e.born) c)).iterSeen r = seen.push e.born := by unfold World.iterSeen; rw [hi2]
    refine Or.inr ⟨y, z, _, fun ty => by rw [← hk, ← hv]; exact hrun ty, by rw [← hk, ← hv]; exact run_entry_at _ r mX c seen es c e hi2 (hu2.at hb (by simp)) (mem_left he).1 hE.stamp.2.1, hz1, hz2, ⟨⟨seen.push e.born, c, hi2, Nat.le_refl _, fun e' he' hc' z' hz' => ?_⟩, hu2, by split <;> omega, by split <;> omega⟩, by rw [hsn2, hsn]; exact left_shrinks es seen e he⟩
    rw [contains_push, Bool.or_eq_true] at hc'
    rcases hc' with hc' | hc'
    · have := hs e' he' hc' z' hz'
      split <;> omega
    · have hbe : e'.born = e.born := beq_iff_eq.1 hc'
      obtain ⟨i, hi5⟩ := List.mem_iff_getElem?.1 he'
      obtain ⟨j, hj5⟩ := List.mem_iff_getElem?.1 (mem_left he).1
      have hij := nodup_born hE.stamp.2.1 hi5 hj5 hbe
      subst hij
      rw [hi5] at hj5
      cases hj5
      rw [hv] at hz'
      cases hz'
      split <;> omega
end Go.Proofs.YtbnebkkpmcjmbaaGreatDoor


namespace Go.Proofs.YtbnebkkpmcjmbaaGreatDoor
open Go.RowKit Go.PL Go.Maps
set_option maxRecDepth 100000 in
set_option maxHeartbeats 25600000 in
theorem lp_bind (d : Nat) (IH : LpH d) (op so nn mm : Int) (nms : List (List UInt8)) (l : List Nd) (op' so' nn' mm' : Int) (nms' : List (List UInt8)) (l' : List Nd) (va vb : Value) (Pa Pb : Nat → Prop) (x y : List (List UInt8)) (mx my : Nat) (w : World)
    (hs : op = op' ∧ so = so' ∧ nn = nn' ∧ mm = mm' ∧ nms.length = nms'.length ∧ l.length = l'.length) (hbd : bindsF op nms.length = true) (p q : List UInt8) (hp : nms = [p]) (hq : nms' = [q]) (ha : LkIn w (d + 1) Pa (.mk op nms so nn mm l) va) (hb : LkIn w (d + 1) Pb (.mk op' nms' so' nn' mm' l') vb) (hX : MapI w mx x) (hY : MapI w my y) (hxy : x.length = y.length) (hN : x.length + (d + 1) ≤ 8000) :
    Calls Tryz.prog 68 #[va, vb, .map (some mx), .map (some my)] w fun r w' => r = .returned (.bool (likeF (.mk op nms so nn mm l) (.mk op' nms' so' nn' mm' l') x y)) ∧ Upto [] w w' := by
  obtain ⟨R9, hR9⟩ : ∃ R9, R9 = likesF l l' (x ++ [p]) (y ++ [q]) := ⟨_, rfl⟩
  have HR9 : Hid (likesF l l' (x ++ [p]) (y ++ [q]) = R9) := Lib.hid hR9.symm
  have HGO : Hid (likeF (.mk op nms so nn mm l) (.mk op' nms' so' nn' mm' l') x y = R9) := Lib.hid (by unfold likeF; rw [if_pos hs, if_pos hbd, hp, hq, hR9]; rfl)
  clear hR9
  have HLP : Hid (p.length ≤ maxLen ∧ q.length ≤ maxLen) := Lib.hid (by
    have h1 := (form_iff.1 ha.form).2.2.1
    have h2 := (form_iff.1 hb.form).2.2.1
    rw [hp] at h1
    rw [hq] at h2
    have h3 := name_len (List.all_eq_true.1 h1 p (by simp))
    have h4 := name_len (List.all_eq_true.1 h2 q (by simp))
    unfold maxLen
    exact ⟨by omega, by omega⟩)
  obtain ⟨rfl, rfl, rfl, rfl, hnl, hll⟩ := hs
  have HKA : Hid (∀ z ∈ l, depthF z ≤ d ∧ formF nameF z = 0 ∧ nmsF z + sizeF z + 2 ≤ 8000) := Lib.hid (fun z hz => ⟨by
    have h1 := depths_mem hz
    have h2 := ha.deep
    simp only [depthF] at h2
    omega, forms_iff.1 (form_iff.1 ha.form).2.2.2.2.2 z hz, by
    have h1 := nmss_mem hz
    have h2 := sizesF_mem hz
    have h3 := ha.few
    simp only [nmsF, sizeF] at h3
    omega⟩)
  have HKB : Hid (∀ z ∈ l', depthF z ≤ d ∧ formF nameF z = 0 ∧ nmsF z + sizeF z + 2 ≤ 8000) := Lib.hid (fun z hz => ⟨by
    have h1 := depths_mem hz
    have h2 := hb.deep
    simp only [depthF] at h2
    omega, forms_iff.1 (form_iff.1 hb.form).2.2.2.2.2 z hz, by
    have h1 := nmss_mem hz
    have h2 := sizesF_mem hz
    have h3 := hb.few
    simp only [nmsF, sizeF] at h3
    omega⟩)
  obtain ⟨a1, c1, a2, c2, rfl, hsa, hla⟩ := ha.nd.open
  obtain ⟨b1, d1, b2, d2, rfl, hsb, hlb⟩ := hb.nd.open
  have hln : nms.length ≤ 8000 := by have h3 := ha.few; simp only [nmsF] at h3; omega
  have hlm : l.length ≤ 8000 := by have h1 := sizes_len l; have h3 := ha.few; simp only [sizeF] at h3; omega
  have HBI : Hid (∀ u, Calls Tryz.prog 57 #[.agg #[.int .i64 op, .slice a1 nms.length c1, .int .i64 so, .int .i64 nn, .int .i64 mm, .slice a2 l.length c2]] u fun e w' => e = .returned (.bool true) ∧ Upto [] u w') := Lib.hid (fun u => by
    have := binds_calls op a1 nms.length c1 so nn mm a2 l.length c2 u
    rw [hbd] at this
    exact this)
  have IHH := Lib.hid IH
  have HX0 := Lib.hid hX
  have HY0 := Lib.hid hY
  have HSA := Lib.hid hsa
  have HLA := Lib.hid hla
  rw [← hnl] at hsb
  have HSB := Lib.hid hsb
  have HLB := Lib.hid hlb
  rw [← hnl, ← hll]
  obtain ⟨n1, hn1⟩ : ∃ n1, n1 = nms.length := ⟨_, rfl⟩
  obtain ⟨n2, hn2⟩ : ∃ n2, n2 = l.length := ⟨_, rfl⟩
  have HN1 : Hid (nms.length = n1 ∧ nms'.length = n1) := Lib.hid ⟨hn1.symm, by rw [← hnl, hn1]⟩
  have HN2 : Hid (l.length = n2 ∧ l'.length = n2) := Lib.hid ⟨hn2.symm, by rw [← hll, hn2]⟩
  have HNM : Hid (x.length = y.length ∧ x.length + (d + 1) ≤ 8000) := Lib.hid ⟨hxy, hN⟩
  rw [← hn1, ← hn2] at HBI
  rw [← hn1] at HSA HSB hln
  rw [← hn2] at hlm
  rw [← hn1, ← hn2]
  have hI1 : (n1 : Int) ≤ 8000 := by omega
  have hI2 : (n2 : Int) ≤ 8000 := by omega
  have hI10 : (0 : Int) ≤ n1 := by omega
  have hI20 : (0 : Int) ≤ n2 := by omega
  have hn11 : n1 = 1 := by rw [hn1, hp]; rfl
  obtain ⟨ga9, oa9, hva9, hca⟩ := slp_cell HSA.out HN1.out.1 0 p (by rw [hp]; rfl)
  obtain ⟨gb9, ob9, hvb9, hcb⟩ := slp_cell HSB.out HN1.out.2 0 q (by rw [hq]; rfl)
  rw [Nat.add_zero] at hca hcb
  have HCA := Lib.hid hca
  have HCB := Lib.hid hcb
  subst hn11
  subst hva9
  subst hvb9
  clear ha hb hX hY hN hxy IH hsa hla hsb hlb hln hlm hnl hll hn1 hn2 hca hcb hbd hp hq
  obtain ⟨W, hW⟩ : ∃ W, W = (w.alloc (.cells #[.int .i64 op, .slice (some ⟨ga9, oa9, none⟩) 1 c1, .int .i64 so, .int .i64 nn, .int .i64 mm, .slice a2 n2 c2] 30)).alloc (.cells #[.int .i64 op, .slice (some ⟨gb9, ob9, none⟩) 1 d1, .int .i64 so, .int .i64 nn, .int .i64 mm, .slice b2 n2 d2] 30) := ⟨_, rfl⟩
  have HU : Hid (Upto [] w W) := Lib.hid (by rw [hW]; exact ((Upto.refl [] w).alloc _).alloc _)
  have HB1 : Hid (W.heap[w.heap.size]? = some (.cells #[.int .i64 op, .slice (some ⟨ga9, oa9, none⟩) 1 c1, .int .i64 so, .int .i64 nn, .int .i64 mm, .slice a2 n2 c2] 30 (0, 0))) := Lib.hid (by rw [hW]; exact alloc_old (new_at w _) _)
  have HB2 : Hid (W.heap[w.heap.size + 1]? = some (.cells #[.int .i64 op, .slice (some ⟨gb9, ob9, none⟩) 1 d1, .int .i64 so, .int .i64 nn, .int .i64 mm, .slice b2 n2 d2] 30 (0, 0))) := Lib.hid (by rw [hW]; exact new_at1 w _ _)
  obtain ⟨u0, u1, u2, u3, u4, u5⟩ := cells6 HB1.out
  obtain ⟨v0, v1, v2, v3, v4, v5⟩ := cells6 HB2.out
  go_enter Tryz.func68, Tryz.ntmps68
  go_wp2_with fail
  simp only [← hW]
  clear hW
  try go_wp2_with fail
  refine (HBI.out _).mono ?_
  rintro r w2 ⟨rfl, hu2⟩
  have HU2 := Lib.hid (HU.out.trans_ext hu2)
  have HD1 := Lib.hid (hu2.at HB1.out (by simp))
  have HD2 := Lib.hid (hu2.at HB2.out (by simp))
  have HWS : Hid (w.heap.size + 1 < w2.heap.size) := Lib.hid (lt_of_heap HD2.out)
  clear hu2 u0 u1 u2 u3 u4 u5 v0 v1 v2 v3 v4 v5
  obtain ⟨u0, u1, u2, u3, u4, u5⟩ := cells6 HD1.out
  obtain ⟨v0, v1, v2, v3, v4, v5⟩ := cells6 HD2.out
  go_wp2_with fail
  obtain ⟨es, ck, hmx, hEx⟩ := (HX0.out.upto HU2.out (by simp)).obj
  obtain ⟨es', ck', hmy, hEy⟩ := (HY0.out.upto HU2.out (by simp)).obj
  have HEX := Lib.hid hEx
  have HEY := Lib.hid hEy
  refine (mclone_calls mx es ck w2 hmx).mono ?_
  rintro r w3 ⟨rfl, hw3⟩
  have hu3 : Upto [] w2 w3 := by rw [hw3]; exact (Upto.refl [] w2).alloc _
  have hbx3 : w3.heap[w2.heap.size]? = some (.map es ck) := by rw [hw3]; exact new_at w2 _
  have HLT3 : Hid (w2.heap.size < w3.heap.size) := Lib.hid (lt_of_heap hbx3)
  have hby3 := hu3.at hmy (by simp)
  obtain ⟨mX, hmX⟩ : ∃ mX, mX = w2.heap.size := ⟨_, rfl⟩
  rw [← hmX] at hbx3
  try rw [← hmX]
  have HMX : Hid (mX = w2.heap.size) := Lib.hid hmX
  clear hw3 hmX hmx hmy hEx hEy
  have HD31 := Lib.hid (hu3.at HD1.out (by simp))
  have HD32 := Lib.hid (hu3.at HD2.out (by simp))
  clear u0 u1 u2 u3 u4 u5 v0 v1 v2 v3 v4 v5
  obtain ⟨u0, u1, u2, u3, u4, u5⟩ := cells6 HD31.out
  obtain ⟨v0, v1, v2, v3, v4, v5⟩ := cells6 HD32.out
  go_wp2_with fail
  refine (mclone_calls my es' ck' w3 hby3).mono ?_
  rintro r w4 ⟨rfl, hw4⟩
  have hu4 : Upto [] w3 w4 := by rw [hw4]; exact (Upto.refl [] w3).alloc _
  have hby4 : w4.heap[w3.heap.size]? = some (.map es' ck') := by rw [hw4]; exact new_at w3 _
  have hbx4 := hu4.at hbx3 (by simp)
  obtain ⟨mY, hmY⟩ : ∃ mY, mY = w3.heap.size := ⟨_, rfl⟩
  rw [← hmY] at hby4
  try rw [← hmY]
  have HMY : Hid (mY = w3.heap.size) := Lib.hid hmY
  clear hw4 hmY
  have HU34 := Lib.hid (And.intro hu3 hu4)
  have HU4 := Lib.hid ((HU2.out.trans_ext hu3).trans_ext hu4)
  have HF1 := Lib.hid (hu4.at HD31.out (by simp))
  have HF2 := Lib.hid (hu4.at HD32.out (by simp))
  have HBX4 := Lib.hid hbx4
  have HBY4 := Lib.hid hby4
  clear hu3 hu4 hbx3 hby3 u0 u1 u2 u3 u4 u5 v0 v1 v2 v3 v4 v5
  obtain ⟨u0, u1, u2, u3, u4, u5⟩ := cells6 HF1.out
  obtain ⟨v0, v1, v2, v3, v4, v5⟩ := cells6 HF2.out
  have hlx : ∀ ty, (Builtin.len_ #[99] ty #[.map (some mX)]).run Tryz.prog w4 = .ok (.int .i64 es.size) w4 := fun ty => run_len_map w4 99 ty mX es ck (by kernel_rfl) hbx4
  have hly : ∀ ty, (Builtin.len_ #[99] ty #[.map (some mY)]).run Tryz.prog w4 = .ok (.int .i64 es'.size) w4 := fun ty => run_len_map w4 99 ty mY es' ck' (by kernel_rfl) hby4
  have hrg := run_range_map (P := Tryz.prog) w4 99 9 3 mX es ck Tryz.underlying99 hbx4
  obtain ⟨m1, hm1⟩ : ∃ m1, m1 = es.size := ⟨_, rfl⟩
  obtain ⟨m2, hm2⟩ : ∃ m2, m2 = es'.size := ⟨_, rfl⟩
  have hb1 : m1 ≤ x.length := by rw [hm1]; exact HEX.out.few
  have hb2 : m2 ≤ x.length := by rw [hm2, HNM.out.1]; exact HEY.out.few
  rw [← hm1] at hlx
  rw [← hm2] at hly
  have hi1 : (0 : Int) ≤ m1 := by omega
  have hi2 : (0 : Int) ≤ m2 := by omega
  have hi3 : (m1 : Int) ≤ 8000 := by have := HNM.out.2; omega
  have hi4 : (m2 : Int) ≤ 8000 := by have := HNM.out.2; omega
  have HKM : Hid (1 ≤ 1 + max (m1 : Int) m2 ∧ 1 + max (m1 : Int) m2 ≤ x.length + 1) := Lib.hid ⟨by omega, by omega⟩
  have hi5 : (x.length : Int) + 1 ≤ 8001 := by have := HNM.out.2; omega
  clear hm1 hm2 hb1 hb2
  go_wp2_with fail
  obtain ⟨r9, hr9⟩ : ∃ r9, r9 = w4.heap.size := ⟨_, rfl⟩
  have HR9E : Hid (r9 = w4.heap.size) := Lib.hid hr9
  go_loopw [9] (fun k wr => ∃ kk : Int, k = .int .i64 kk ∧ Hid (RgAt w4 r9 mX es ck x.length kk wr)) (fun _ wr => (leftOf es (wr.iterSeen r9)).size)
  case atStart =>
    refine ⟨_, rfl, Lib.hid ?_⟩
    rw [hr9]
    exact RgAt.start HKM.out.1 HKM.out.2
  case round =>
    obtain ⟨kk, rfl, HRG⟩ := hrel
    have hg1 := HRG.out.ge
    have hg2 := HRG.out.le
    rw [← hr9]
    clear hr9
    rcases HRG.out.round HEX.out HBX4.out (by rw [HR9E.out]; exact Nat.le_refl _) with ⟨hnx, hkn⟩ | ⟨yy, zz, w5, hnx, hen, hz1, hz2, hrg5, hms⟩
    · have HUR := Lib.hid (HU4.out.trans_ext HRG.out.up)
      have HU4R := Lib.hid HRG.out.up
      have HKN := Lib.hid hkn
      clear hlx hly hrg
      have HG1 := Lib.hid (HU4R.out.at HF1.out (by simp))
      have HG2 := Lib.hid (HU4R.out.at HF2.out (by simp))
      have hxl : (x.length : Int) + 1 ≤ 8001 := hi5
      subst hkn
      clear HRG u0 u1 u2 u3 u4 u5 v0 v1 v2 v3 v4 v5
      obtain ⟨u0, u1, u2, u3, u4, u5⟩ := cells6 HG1.out
      obtain ⟨v0, v1, v2, v3, v4, v5⟩ := cells6 HG2.out
      have c0 := HCA.out _ HUR.out
      have c9 := HCB.out _ HUR.out
      go_wp2_with fail
      have j1 : ∀ u : Ext wr, u.w.cell? ⟨w.heap.size, 1, none⟩ = some (.slice (some ⟨ga9, oa9, none⟩) 1 c1) := fun u => u.cell u1
      have k1 : ∀ u : Ext wr, u.w.cell? ⟨w.heap.size + 1, 1, none⟩ = some (.slice (some ⟨gb9, ob9, none⟩) 1 d1) := fun u => u.cell v1
      have ec0 : ∀ u : Ext wr, u.w.cell? ⟨ga9, oa9, none⟩ = some (.string ⟨p.toArray⟩) := fun u => u.cell c0
      have ec9 : ∀ u : Ext wr, u.w.cell? ⟨gb9, ob9, none⟩ = some (.string ⟨q.toArray⟩) := fun u => u.cell c9
      clear hnx u0 u1 u2 u3 u4 u5 v0 v1 v2 v3 v4 v5 c0 c9
      refine wp_region_noPanic ?_
      refine wp_region_seg4_at [] [] [5, 10, 11] [0, 1, 2, 3, 4, 5, 6, 7, 8, 9, 10, 11] [12, 13, 14, 15, 16, 17] 12 (fun _ _ _ _ _ h => h) (by kernel_rfl) (by kernel_rfl) (by kernel_rfl) ?_
      iterate 12 (refine seg_plain rfl rfl rfl rfl rfl ?_; intro K' hK'; go_big_quiet_op; go_big_quiet_on)
      intro w6 hg
      have HU6 := Lib.hid hg.up
      clear hg j1 k1 ec0 ec9
      have HM6 : Hid (MapI w6 mX x) := Lib.hid ⟨es, ck, HU6.out.at (HU4R.out.at HBX4.out (by simp)) (by simp), HEX.out⟩
      have HN6 : Hid (MapI w6 mY y) := Lib.hid ⟨es', ck', HU6.out.at (HU4R.out.at HBY4.out (by simp)) (by simp), HEY.out⟩
      have HNE : Hid (mX ≠ mY ∧ w2.heap.size ≤ mX ∧ w2.heap.size ≤ mY) := Lib.hid (by
        have h1 := HU34.out.1.size
        have h2 := lt_of_heap HBX4.out
        have h3 : mX < w3.heap.size := by rw [HMX.out]; exact HLT3.out
        rw [HMY.out]
        refine ⟨by omega, by rw [HMX.out]; exact Nat.le_refl _, h1⟩)
      simp only [List.drop_succ_cons, List.drop_zero]
      go_wp2_with (first
        | (refine wpList_mentry _ rfl (.tmp 83) (.tmp 87) rfl mX x rfl HM6.out p rfl HLP.out.1 ?_; intro w7 y1 s1 e7 k7 hb7 hx7 hg7)
        | (refine wpList_estore _ rfl (.tmp 83) (.tmp 96) (.tmp 93) rfl mX e7 k7 x p s1 rfl hb7 hx7 rfl rfl HLP.out.1 ?_; intro w8 hm8 hg8; have HN8 : Hid (MapI w8 mY y) := Lib.hid ((HN6.out.upto ((Upto.refl [mX] w6).grown hg7 (fun k hk => by cases hk; simp)) (by have := HNE.out.1; simp; omega)).upto ((Upto.refl [mX] w7).grown hg8 (fun k hk => by cases hk; simp)) (by have := HNE.out.1; simp; omega)))
        | (refine wpList_mentry _ rfl (.tmp 88) (.tmp 92) rfl mY y rfl HN8.out q rfl HLP.out.2 ?_; intro w9 y2 s2 e9 k9 hb9 hx9 hg9)
        | (refine wpList_estore _ rfl (.tmp 88) (.tmp 98) (.tmp 94) rfl mY e9 k9 y q s2 rfl hb9 hx9 rfl (by show Value.int .i64 _ = Value.int .i64 _; rw [HNM.out.1]) HLP.out.2 ?_; intro w10 hm10 hg10; have HUX : Hid (Upto [mX] w6 w8) := Lib.hid (((Upto.refl [mX] w6).grown hg7 (fun k hk => by cases hk; simp)).grown hg8 (fun k hk => by cases hk; simp)); have HUY : Hid (Upto [mY] w8 w10) := Lib.hid (((Upto.refl [mY] w8).grown hg9 (fun k hk => by cases hk; simp)).grown hg10 (fun k hk => by cases hk; simp)); have HC1 := Lib.hid (HUY.out.at (HUX.out.at (HU6.out.at HG1.out (by simp)) (by have := HNE.out; have := HWS.out; simp; omega)) (by have := HNE.out; have := HWS.out; simp; omega)); have u5 := cell_of HC1.out 5; simp only [List.getElem?_toArray, List.getElem?_cons_zero, List.getElem?_cons_succ] at u5))
      refine NoPanic.normal ?_
      go_wp2_with fail
      have HC2 := Lib.hid (HUY.out.at (HUX.out.at (HU6.out.at HG2.out (by simp)) (by have := HNE.out; have := HWS.out; simp; omega)) (by have := HNE.out; have := HWS.out; simp; omega))
      have HUC : Hid (Upto [] w w10) := Lib.hid (((HUR.out.trans_ext HU6.out).trans HUX.out (fun b hb => Or.inr (by have := HNE.out; have := HU2.out.size; simp at hb; omega))).trans HUY.out (fun b hb => Or.inr (by have := HNE.out; have := HU2.out.size; simp at hb; omega)))
      have HEX8 : Hid (MapI w10 mX (x ++ [p])) := Lib.hid (hm8.upto HUY.out (by have := HNE.out.1; simp; omega))
      have HEY8 : Hid (MapI w10 mY (y ++ [q])) := Lib.hid hm10
      clear u5 hb7 hx7 hg7 hm8 hg8 hb9 hx9 hg9 hm10 hg10
      obtain ⟨u0, u1, u2, u3, u4, u5⟩ := cells6 HC1.out
      obtain ⟨v0, v1, v2, v3, v4, v5⟩ := cells6 HC2.out
      go_loopw [157] (fun k wr => ∃ i : Nat, i ≤ n2 ∧ k = .int .i64 i ∧ Hid (likesF (l.drop i) (l'.drop i) (x ++ [p]) (y ++ [q]) = R9) ∧ Hid (Upto [] w10 wr)) (fun k _ => n2 - (intOf k).toNat)
      case atStart => exact ⟨0, by omega, rfl, Lib.hid (by rw [List.drop_zero, List.drop_zero]; exact HR9.out), Lib.hid (Upto.refl _ _)⟩
      case round =>
        obtain ⟨i, hi, rfl, HR, HUW⟩ := hrel
        have hi0 : (0 : Int) ≤ i := by omega
        have HW1 := Lib.hid (HUW.out.at HC1.out (by simp))
        have HW2 := Lib.hid (HUW.out.at HC2.out (by simp))
        have HUR := Lib.hid (HUC.out.trans_ext HUW.out)
        clear u0 u1 u2 u3 u4 u5 v0 v1 v2 v3 v4 v5
        obtain ⟨u0, u1, u2, u3, u4, u5⟩ := cells6 HW1.out
        obtain ⟨v0, v1, v2, v3, v4, v5⟩ := cells6 HW2.out
        rcases Nat.lt_or_ge i n2 with hlt | hge
        · have hil : (i : Int) < n2 := by omega
          obtain ⟨za, hp⟩ : ∃ za, l[i]? = some za := ⟨l[i]'(by rw [HN2.out.1]; omega), List.getElem?_eq_getElem _⟩
          obtain ⟨zb, hp'⟩ : ∃ zb, l'[i]? = some zb := ⟨l'[i]'(by rw [HN2.out.2]; omega), List.getElem?_eq_getElem _⟩
          obtain ⟨ga, oa, xo, xa1, xn1, xc1, xs, xn, xm, xa2, xn2, xc2, hva, ra0, ra1, ra2, ra3, ra4, ra5, hnx⟩ := HLA.out i za hp
          obtain ⟨gb, ob, yo, ya1, yn1, yc1, ys, yn, ym, ya2, yn2, yc2, hvb, rb0, rb1, rb2, rb3, rb4, rb5, hny⟩ := HLB.out i zb hp'
          have HDR : Hid (likesF (l.drop i) (l'.drop i) (x ++ [p]) (y ++ [q]) = (likeF za zb (x ++ [p]) (y ++ [q]) && likesF (l.drop (i + 1)) (l'.drop (i + 1)) (x ++ [p]) (y ++ [q]))) := Lib.hid (by
            obtain ⟨hi1, rfl⟩ := List.getElem?_eq_some_iff.1 hp
            obtain ⟨hi2, rfl⟩ := List.getElem?_eq_some_iff.1 hp'
            rw [List.drop_eq_getElem_cons hi1, List.drop_eq_getElem_cons hi2]
            rw [likesF])
          replace ra0 := up_cell HUR.out ra0
          replace ra1 := up_cell HUR.out ra1
          replace ra2 := up_cell HUR.out ra2
          replace ra3 := up_cell HUR.out ra3
          replace ra4 := up_cell HUR.out ra4
          replace ra5 := up_cell HUR.out ra5
          replace rb0 := up_cell HUR.out rb0
          replace rb1 := up_cell HUR.out rb1
          replace rb2 := up_cell HUR.out rb2
          replace rb3 := up_cell HUR.out rb3
          replace rb4 := up_cell HUR.out rb4
          replace rb5 := up_cell HUR.out rb5
          have hka := HKA.out za (List.mem_of_getElem? hp)
          have hkb := HKB.out zb (List.mem_of_getElem? hp')
          have HC := Lib.hid (fun u (hu : Upto [] wr u) => IHH.out za zb (.agg #[.int .i64 xo, .slice xa1 xn1 xc1, .int .i64 xs, .int .i64 xn, .int .i64 xm, .slice xa2 xn2 xc2]) (.agg #[.int .i64 yo, .slice ya1 yn1 yc1, .int .i64 ys, .int .i64 yn, .int .i64 ym, .slice ya2 yn2 yc2]) Pa Pb (x ++ [p]) (y ++ [q]) mX mY u ⟨hnx.ext (HUR.out.trans_ext hu), hka.1, hka.2.1, hka.2.2⟩ ⟨hny.ext (HUR.out.trans_ext hu), hkb.1, hkb.2.1, hkb.2.2⟩ (HEX8.out.upto (HUW.out.trans_ext hu) (by simp)) (HEY8.out.upto (HUW.out.trans_ext hu) (by simp)) (by have := HNM.out.1; first | exact this | (simp; omega)) (by have := HNM.out; first | omega | (simp; omega)))
          clear hp hp' hnx hny hka hkb
          subst hva hvb
          go_wp2_with fail
          have j5 : ∀ u : Ext wr, u.w.cell? ⟨w.heap.size, 5, none⟩ = some (.slice (some ⟨ga, oa, none⟩) n2 c2) := fun u => u.cell u5
          have k5 : ∀ u : Ext wr, u.w.cell? ⟨w.heap.size + 1, 5, none⟩ = some (.slice (some ⟨gb, ob, none⟩) n2 d2) := fun u => u.cell v5
          have er0 : ∀ u : Ext wr, u.w.cell? ⟨ga, oa + i * 6, none⟩ = some _ := fun u => u.cell ra0
          have er1 : ∀ u : Ext wr, u.w.cell? ⟨ga, oa + i * 6 + 1, none⟩ = some _ := fun u => u.cell ra1
          have er2 : ∀ u : Ext wr, u.w.cell? ⟨ga, oa + i * 6 + 2, none⟩ = some _ := fun u => u.cell ra2
          have er3 : ∀ u : Ext wr, u.w.cell? ⟨ga, oa + i * 6 + 3, none⟩ = some _ := fun u => u.cell ra3
          have er4 : ∀ u : Ext wr, u.w.cell? ⟨ga, oa + i * 6 + 4, none⟩ = some _ := fun u => u.cell ra4
          have er5 : ∀ u : Ext wr, u.w.cell? ⟨ga, oa + i * 6 + 5, none⟩ = some _ := fun u => u.cell ra5
          have es0 : ∀ u : Ext wr, u.w.cell? ⟨gb, ob + i * 6, none⟩ = some _ := fun u => u.cell rb0
          have es1 : ∀ u : Ext wr, u.w.cell? ⟨gb, ob + i * 6 + 1, none⟩ = some _ := fun u => u.cell rb1
          have es2 : ∀ u : Ext wr, u.w.cell? ⟨gb, ob + i * 6 + 2, none⟩ = some _ := fun u => u.cell rb2
          have es3 : ∀ u : Ext wr, u.w.cell? ⟨gb, ob + i * 6 + 3, none⟩ = some _ := fun u => u.cell rb3
          have es4 : ∀ u : Ext wr, u.w.cell? ⟨gb, ob + i * 6 + 4, none⟩ = some _ := fun u => u.cell rb4
          have es5 : ∀ u : Ext wr, u.w.cell? ⟨gb, ob + i * 6 + 5, none⟩ = some _ := fun u => u.cell rb5
          clear u0 u1 u2 u3 u4 u5 v0 v1 v2 v3 v4 v5 ra0 ra1 ra2 ra3 ra4 ra5 rb0 rb1 rb2 rb3 rb4 rb5
          have HRB := HR.out
          rw [HDR.out] at HRB
          have HRB2 := Lib.hid HRB
          clear HRB
          generalize hL9 : likeF za zb (x ++ [p]) (y ++ [q]) = L9 at *
          clear hL9
          refine wp_region_seg_all [12] [] [0, 1, 2, 3, 4, 5, 6, 7, 8, 9, 10, 11, 12, 13] (by kernel_rfl) (by kernel_rfl) ?_
          iterate 12 (refine seg_plain rfl rfl rfl rfl rfl ?_; intro K' hK'; go_big_quiet_op; go_big_quiet_on)
          refine seg_call (v := .bool L9) rfl rfl rfl rfl (fun w => by go_simp) (fun w' hu hd => HC.out w' hu) ?_
          simp only [Act.put, List.setIfInBounds_toArray, List.set_cons_zero, List.set_cons_succ]
          (refine seg_plain rfl rfl rfl rfl rfl ?_; intro K' hK'; go_big_quiet_op; go_big_quiet_on)
          intro w9 hg
          have HU9 := Lib.hid hg.up
          clear hg j5 k5 er0 er1 er2 er3 er4 er5 es0 es1 es2 es3 es4 es5
          cases L9 with
          | false =>
            have HRF : Hid (R9 = false) := Lib.hid (by have h9 := HRB2.out; rw [Bool.false_and] at h9; exact h9.symm)
            try go_wp2_with fail
            go_ret
            rw [HGO.out, HRF.out]
            exact ⟨rfl, HUR.out.trans_ext HU9.out⟩
          | true =>
            try go_wp2_with fail
            exact ⟨⟨i + 1, by omega, by simp, Lib.hid (by have h9 := HRB2.out; rw [Bool.true_and] at h9; exact h9), Lib.hid (HUW.out.trans_ext HU9.out)⟩, by simp [intOf]; omega⟩
        · obtain rfl : i = n2 := by omega
          have HRT : Hid (R9 = true) := Lib.hid (by
            have h9 := HR.out
            rw [List.drop_of_length_le (by rw [HN2.out.1]; exact Nat.le_refl _)] at h9
            rw [← h9]
            rw [likesF]
            intro a r b r' h1
            cases h1)
          go_wp2_with fail
          go_ret
          rw [HGO.out, HRT.out]
          exact ⟨rfl, HUR.out⟩
    · have HR5 := Lib.hid hrg5
      have HMS := Lib.hid hms
      clear hrg5 hms hlx hly hrg
      have HMX2 : Hid ((if kk < zz + 1 then zz + 1 else kk) = max kk (zz + 1)) := Lib.hid (by split <;> omega)
      go_wp2_with fail
      go_roundw
      case rel => exact ⟨_, rfl, Lib.hid (by have h9 := HR5.out; rw [HMX2.out] at h9; exact h9)⟩
      case measure => exact HMS.out
end Go.Proofs.YtbnebkkpmcjmbaaGreatDoor


namespace Go.Proofs.YtbnebkkpmcjmbaaGreatDoor
open Go.RowKit Go.PL Go.Maps
set_option maxRecDepth 100000 in
set_option maxHeartbeats 25600000 in
theorem lk_bind (d : Nat) (IH : LkH d) (op so nn mm : Int) (nms : List (List UInt8)) (l : List Nd) (op' so' nn' mm' : Int) (nms' : List (List UInt8)) (l' : List Nd) (va vb : Value) (Pa Pb Qx Qy : Nat → Prop) (x y : List (List UInt8)) (e1 e2 e3 g1 g2 g3 : Option Addr) (f1 f2 f3 N h1 h2 h3 M : Nat) (w : World)
    (hs : op = op' ∧ so = so' ∧ nn = nn' ∧ mm = mm' ∧ nms.length = nms'.length ∧ l.length = l'.length) (hbd : bindsF op nms.length = true) (p q : List UInt8) (hp : nms = [p]) (hq : nms' = [q]) (ha : LkIn w (d + 1) Pa (.mk op nms so nn mm l) va) (hb : LkIn w (d + 1) Pb (.mk op' nms' so' nn' mm' l') vb) (hX : EnvR w Qx (envOf x) e1 f1 e2 f2 e3 f3 N) (hY : EnvR w Qy (envOf y) g1 h1 g2 h2 g3 h3 M) (hN : N + (d + 1) ≤ 8000) (hM : M + (d + 1) ≤ 8000) :
    Calls Tryz.prog 66 #[va, vb, .agg #[.slice e1 N f1, .slice e2 N f2, .slice e3 N f3], .agg #[.slice g1 M h1, .slice g2 M h2, .slice g3 M h3]] w fun r w' => r = .returned (.bool (likeF (.mk op nms so nn mm l) (.mk op' nms' so' nn' mm' l') x y)) ∧ Upto [] w w' := by
  obtain ⟨R9, hR9⟩ : ∃ R9, R9 = likesF l l' (x ++ [p]) (y ++ [q]) := ⟨_, rfl⟩
  have HR9 : Hid (likesF l l' (x ++ [p]) (y ++ [q]) = R9) := Lib.hid hR9.symm
  have HGO : Hid (likeF (.mk op nms so nn mm l) (.mk op' nms' so' nn' mm' l') x y = R9) := Lib.hid (by unfold likeF; rw [if_pos hs, if_pos hbd, hp, hq, hR9]; rfl)
  clear hR9
  obtain ⟨rfl, rfl, rfl, rfl, hnl, hll⟩ := hs
  have HKA : Hid (∀ z ∈ l, depthF z ≤ d ∧ formF nameF z = 0 ∧ nmsF z + sizeF z + 2 ≤ 8000) := Lib.hid (fun z hz => ⟨by
    have h1 := depths_mem hz
    have h2 := ha.deep
    simp only [depthF] at h2
    omega, forms_iff.1 (form_iff.1 ha.form).2.2.2.2.2 z hz, by
    have h1 := nmss_mem hz
    have h2 := sizesF_mem hz
    have h3 := ha.few
    simp only [nmsF, sizeF] at h3
    omega⟩)
  have HKB : Hid (∀ z ∈ l', depthF z ≤ d ∧ formF nameF z = 0 ∧ nmsF z + sizeF z + 2 ≤ 8000) := Lib.hid (fun z hz => ⟨by
    have h1 := depths_mem hz
    have h2 := hb.deep
    simp only [depthF] at h2
    omega, forms_iff.1 (form_iff.1 hb.form).2.2.2.2.2 z hz, by
    have h1 := nmss_mem hz
    have h2 := sizesF_mem hz
    have h3 := hb.few
    simp only [nmsF, sizeF] at h3
    omega⟩)
  obtain ⟨a1, c1, a2, c2, rfl, hsa, hla⟩ := ha.nd.open
  obtain ⟨b1, d1, b2, d2, rfl, hsb, hlb⟩ := hb.nd.open
  have hln : nms.length ≤ 8000 := by have h3 := ha.few; simp only [nmsF] at h3; omega
  have hlm : l.length ≤ 8000 := by have h1 := sizes_len l; have h3 := ha.few; simp only [sizeF] at h3; omega
  have HBI : Hid (∀ u, Calls Tryz.prog 48 #[.agg #[.int .i64 op, .slice a1 nms.length c1, .int .i64 so, .int .i64 nn, .int .i64 mm, .slice a2 l.length c2]] u fun e w' => e = .returned (.bool true) ∧ Upto [] u w') := Lib.hid (fun u => by
    have hg := (good_of _ ha.form).1
    unfold goodN at hg
    have := bindsR_calls op a1 nms.length c1 so nn mm a2 l.length c2 u (fun h2 => hg.1 (Or.inr h2))
    rw [hbd] at this
    exact this)
  have IHH := Lib.hid IH
  have HX0 := Lib.hid hX
  have HY0 := Lib.hid hY
  have HSA := Lib.hid hsa
  have HLA := Lib.hid hla
  rw [← hnl] at hsb
  have HSB := Lib.hid hsb
  have HLB := Lib.hid hlb
  rw [← hnl, ← hll]
  obtain ⟨n1, hn1⟩ : ∃ n1, n1 = nms.length := ⟨_, rfl⟩
  obtain ⟨n2, hn2⟩ : ∃ n2, n2 = l.length := ⟨_, rfl⟩
  have HN1 : Hid (nms.length = n1 ∧ nms'.length = n1) := Lib.hid ⟨hn1.symm, by rw [← hnl, hn1]⟩
  have HN2 : Hid (l.length = n2 ∧ l'.length = n2) := Lib.hid ⟨hn2.symm, by rw [← hll, hn2]⟩
  have HNM : Hid (N + (d + 1) ≤ 8000 ∧ M + (d + 1) ≤ 8000) := Lib.hid ⟨hN, hM⟩
  rw [← hn1, ← hn2] at HBI
  rw [← hn1] at HSA HSB hln
  rw [← hn2] at hlm
  rw [← hn1, ← hn2]
  have hI1 : (n1 : Int) ≤ 8000 := by omega
  have hI2 : (n2 : Int) ≤ 8000 := by omega
  have hI10 : (0 : Int) ≤ n1 := by omega
  have hI20 : (0 : Int) ≤ n2 := by omega
  have hn11 : n1 = 1 := by rw [hn1, hp]; rfl
  obtain ⟨ga9, oa9, hva9, hca⟩ := slp_cell HSA.out HN1.out.1 0 p (by rw [hp]; rfl)
  obtain ⟨gb9, ob9, hvb9, hcb⟩ := slp_cell HSB.out HN1.out.2 0 q (by rw [hq]; rfl)
  rw [Nat.add_zero] at hca hcb
  have HCA := Lib.hid hca
  have HCB := Lib.hid hcb
  subst hn11
  subst hva9
  subst hvb9
  have HBX := Lib.hid (fun u (hu : Upto [] w u) => bindE_calls (hX.ext hu) (by omega) p [] 0)
  have HBY := Lib.hid (fun u (hu : Upto [] w u) => bindE_calls (hY.ext hu) (by omega) q [] 0)
  clear ha hb hX hY hN hM IH hsa hla hsb hlb hln hlm hnl hll hn1 hn2 hca hcb hbd hp hq
  obtain ⟨W, hW⟩ : ∃ W, W = (((w.alloc (.cells #[.int .i64 op, .slice (some ⟨ga9, oa9, none⟩) 1 c1, .int .i64 so, .int .i64 nn, .int .i64 mm, .slice a2 n2 c2] 25)).alloc (.cells #[.int .i64 op, .slice (some ⟨gb9, ob9, none⟩) 1 d1, .int .i64 so, .int .i64 nn, .int .i64 mm, .slice b2 n2 d2] 25)).alloc (.cells #[.slice e1 N f1, .slice e2 N f2, .slice e3 N f3] 95)).alloc (.cells #[.slice g1 M h1, .slice g2 M h2, .slice g3 M h3] 95) := ⟨_, rfl⟩
  have HU : Hid (Upto [] w W) := Lib.hid (by rw [hW]; exact ((((Upto.refl [] w).alloc _).alloc _).alloc _).alloc _)
  have HB1 : Hid (W.heap[w.heap.size]? = some (.cells #[.int .i64 op, .slice (some ⟨ga9, oa9, none⟩) 1 c1, .int .i64 so, .int .i64 nn, .int .i64 mm, .slice a2 n2 c2] 25 (0, 0))) := Lib.hid (by rw [hW]; exact alloc_old (alloc_old (alloc_old (new_at w _) _) _) _)
  have HB2 : Hid (W.heap[w.heap.size + 1]? = some (.cells #[.int .i64 op, .slice (some ⟨gb9, ob9, none⟩) 1 d1, .int .i64 so, .int .i64 nn, .int .i64 mm, .slice b2 n2 d2] 25 (0, 0))) := Lib.hid (by rw [hW]; exact alloc_old (alloc_old (new_at1 w _ _) _) _)
  have HB3 : Hid (W.heap[w.heap.size + 1 + 1]? = some (.cells #[.slice e1 N f1, .slice e2 N f2, .slice e3 N f3] 95 (0, 0))) := Lib.hid (by rw [hW]; exact alloc_old (new_at2 w _ _ _) _)
  have HB4 : Hid (W.heap[w.heap.size + 1 + 1 + 1]? = some (.cells #[.slice g1 M h1, .slice g2 M h2, .slice g3 M h3] 95 (0, 0))) := Lib.hid (by rw [hW]; have h9 := new_at2 (w.alloc (.cells #[.int .i64 op, .slice (some ⟨ga9, oa9, none⟩) 1 c1, .int .i64 so, .int .i64 nn, .int .i64 mm, .slice a2 n2 c2] 25)) (.cells #[.int .i64 op, .slice (some ⟨gb9, ob9, none⟩) 1 d1, .int .i64 so, .int .i64 nn, .int .i64 mm, .slice b2 n2 d2] 25) (.cells #[.slice e1 N f1, .slice e2 N f2, .slice e3 N f3] 95) (.cells #[.slice g1 M h1, .slice g2 M h2, .slice g3 M h3] 95); rwa [show (w.alloc (.cells #[.int .i64 op, .slice (some ⟨ga9, oa9, none⟩) 1 c1, .int .i64 so, .int .i64 nn, .int .i64 mm, .slice a2 n2 c2] 25)).heap.size = w.heap.size + 1 by show (w.heap.push _).size = _; simp] at h9)
  obtain ⟨u0, u1, u2, u3, u4, u5⟩ := cells6 HB1.out
  obtain ⟨v0, v1, v2, v3, v4, v5⟩ := cells6 HB2.out
  go_enter Tryz.func66, Tryz.ntmps66
  go_wp2_with fail
  simp only [← hW]
  clear hW
  try go_wp2_with fail
  refine (HBI.out _).mono ?_
  rintro r w2 ⟨rfl, hu2⟩
  have HU2 := Lib.hid (HU.out.trans_ext hu2)
  have HD1 := Lib.hid (hu2.at HB1.out (by simp))
  have HD2 := Lib.hid (hu2.at HB2.out (by simp))
  have HD3 := Lib.hid (hu2.at HB3.out (by simp))
  have HD4 := Lib.hid (hu2.at HB4.out (by simp))
  have HWS : Hid (w.heap.size + 1 + 1 + 1 < w2.heap.size) := Lib.hid (lt_of_heap HD4.out)
  clear hu2 u0 u1 u2 u3 u4 u5 v0 v1 v2 v3 v4 v5
  obtain ⟨u0, u1, u2, u3, u4, u5⟩ := cells6 HD1.out
  obtain ⟨v0, v1, v2, v3, v4, v5⟩ := cells6 HD2.out
  obtain ⟨m0, m1, m2⟩ := cells3 HD3.out
  obtain ⟨z0, z1, z2⟩ := cells3 HD4.out
  have c0 := HCA.out _ HU2.out
  have c9 := HCB.out _ HU2.out
  go_wp2_with fail
  have j1 : ∀ u : Ext w2, u.w.cell? ⟨w.heap.size, 1, none⟩ = some (.slice (some ⟨ga9, oa9, none⟩) 1 c1) := fun u => u.cell u1
  have k1 : ∀ u : Ext w2, u.w.cell? ⟨w.heap.size + 1, 1, none⟩ = some (.slice (some ⟨gb9, ob9, none⟩) 1 d1) := fun u => u.cell v1
  have ec0 : ∀ u : Ext w2, u.w.cell? ⟨ga9, oa9, none⟩ = some (.string ⟨p.toArray⟩) := fun u => u.cell c0
  have ec9 : ∀ u : Ext w2, u.w.cell? ⟨gb9, ob9, none⟩ = some (.string ⟨q.toArray⟩) := fun u => u.cell c9
  have em0 : ∀ u : Ext w2, u.w.cell? ⟨w.heap.size + 1 + 1, 0, none⟩ = some _ := fun u => u.cell m0
  have em1 : ∀ u : Ext w2, u.w.cell? ⟨w.heap.size + 1 + 1, 1, none⟩ = some _ := fun u => u.cell m1
  have em2 : ∀ u : Ext w2, u.w.cell? ⟨w.heap.size + 1 + 1, 2, none⟩ = some _ := fun u => u.cell m2
  have ez0 : ∀ u : Ext w2, u.w.cell? ⟨w.heap.size + 1 + 1 + 1, 0, none⟩ = some _ := fun u => u.cell z0
  have ez1 : ∀ u : Ext w2, u.w.cell? ⟨w.heap.size + 1 + 1 + 1, 1, none⟩ = some _ := fun u => u.cell z1
  have ez2 : ∀ u : Ext w2, u.w.cell? ⟨w.heap.size + 1 + 1 + 1, 2, none⟩ = some _ := fun u => u.cell z2
  clear u0 u1 u2 u3 u4 u5 v0 v1 v2 v3 v4 v5 m0 m1 m2 z0 z1 z2 c0 c9
  refine wp_region_seg_at [5, 11] [] [0, 1, 2, 3, 4, 5, 6, 7, 8, 9, 10, 11] [12, 13] 12 (by kernel_rfl) (by kernel_rfl) (by kernel_rfl) ?_
  iterate 5 (refine seg_plain rfl rfl rfl rfl rfl ?_; intro K' hK'; go_big_quiet_op; go_big_quiet_on)
  refine seg_callO (Y := (Option Addr × Nat) × (Option Addr × Nat) × (Option Addr × Nat)) (fun yy => .agg #[.slice yy.1.1 (N + 1) yy.1.2, .slice yy.2.1.1 (N + 1) yy.2.1.2, .slice yy.2.2.1 (N + 1) yy.2.2.2]) (fun yy u => EnvR u (fun b => w2.heap.size ≤ b) ((p, []) :: envOf x) yy.1.1 yy.1.2 yy.2.1.1 yy.2.1.2 yy.2.2.1 yy.2.2.2 (N + 1)) (fun _ => []) rfl rfl rfl rfl (fun _ _ _ h hu => h.ext hu) (fun _ => List.nodup_nil) (fun w => by go_simp) (fun w' hu hd => (HBX.out w' (HU2.out.trans_ext hu)).mono fun r w2' ⟨p1, u1, p2, u2, p3, u3, h1, h2, h3⟩ => ⟨((p1, u1), (p2, u2), (p3, u3)), h1, h3, h2.mono (fun b hb _ => Nat.le_trans hu.size hb), fun b hb => by cases hb⟩) ?_
  rintro ⟨⟨p1, t1⟩, ⟨p2, t2⟩, ⟨p3, t3⟩⟩
  simp only [Act.put, List.setIfInBounds_toArray, List.set_cons_zero, List.set_cons_succ]
  iterate 5 (refine seg_plain rfl rfl rfl rfl rfl ?_; intro K' hK'; go_big_quiet_op; go_big_quiet_on)
  refine seg_callO (Y := (Option Addr × Nat) × (Option Addr × Nat) × (Option Addr × Nat)) (fun yy => .agg #[.slice yy.1.1 (M + 1) yy.1.2, .slice yy.2.1.1 (M + 1) yy.2.1.2, .slice yy.2.2.1 (M + 1) yy.2.2.2]) (fun yy u => EnvR u (fun b => w2.heap.size ≤ b) ((q, []) :: envOf y) yy.1.1 yy.1.2 yy.2.1.1 yy.2.1.2 yy.2.2.1 yy.2.2.2 (M + 1)) (fun _ => []) rfl rfl rfl rfl (fun _ _ _ h hu => h.ext hu) (fun _ => List.nodup_nil) (fun w => by go_simp) (fun w' hu hd => (HBY.out w' (HU2.out.trans_ext hu)).mono fun r w2' ⟨p1, u1, p2, u2, p3, u3, h1, h2, h3⟩ => ⟨((p1, u1), (p2, u2), (p3, u3)), h1, h3, h2.mono (fun b hb _ => Nat.le_trans hu.size hb), fun b hb => by cases hb⟩) ?_
  rintro ⟨⟨q1, s1⟩, ⟨q2, s2⟩, ⟨q3, s3⟩⟩
  simp only [Act.put, List.setIfInBounds_toArray, List.set_cons_zero, List.set_cons_succ]
  intro w6 hg
  have HU6 := Lib.hid hg.up
  have HEY : Hid (EnvR w6 (fun b => w2.heap.size ≤ b) (envOf (y ++ [q])) q1 s1 q2 s2 q3 s3 (M + 1)) := Lib.hid (by rw [← envOf_snoc]; exact hg.hold.1)
  have HEX : Hid (EnvR w6 (fun b => w2.heap.size ≤ b) (envOf (x ++ [p])) p1 t1 p2 t2 p3 t3 (N + 1)) := Lib.hid (by rw [← envOf_snoc]; exact hg.hold.2.1)
  have HG1 := Lib.hid (HU6.out.at HD1.out (by simp))
  have HG2 := Lib.hid (HU6.out.at HD2.out (by simp))
  have HG3 := Lib.hid (HU6.out.at HD3.out (by simp))
  have HG4 := Lib.hid (HU6.out.at HD4.out (by simp))
  clear hg j1 k1 ec0 ec9 em0 em1 em2 ez0 ez1 ez2
  simp only [List.drop_succ_cons, List.drop_zero]
  obtain ⟨m0, m1, m2⟩ := cells3 HG3.out
  obtain ⟨f0, f1, f2⟩ := frees3 HG3.out
  obtain ⟨z0, z1, z2⟩ := cells3 HG4.out
  obtain ⟨y0, y1, y2⟩ := frees3 HG4.out
  obtain ⟨w7, hw7⟩ : ∃ w7, w7 = (((w6.setCell ⟨w.heap.size + 1 + 1, 0, none⟩ (.slice p1 (N + 1) t1)).setCell ⟨w.heap.size + 1 + 1, 1, none⟩ (.slice p2 (N + 1) t2)).setCell ⟨w.heap.size + 1 + 1, 2, none⟩ (.slice p3 (N + 1) t3)) := ⟨_, rfl⟩
  have HE7 : Hid (w7.heap[w.heap.size + 1 + 1]? = some (.cells #[.slice p1 (N + 1) t1, .slice p2 (N + 1) t2, .slice p3 (N + 1) t3] 95 (0, 0))) := Lib.hid (by rw [hw7]; exact set_same (set_same (set_same HG3.out 0 _) 1 _) 2 _)
  have HS7 : Hid (Upto [w.heap.size + 1 + 1] w6 w7) := Lib.hid (by rw [hw7]; exact (((Upto.refl _ w6).setCell (p := ⟨w.heap.size + 1 + 1, 0, none⟩) (Or.inl (by simp)) _).setCell (p := ⟨w.heap.size + 1 + 1, 1, none⟩) (Or.inl (by simp)) _).setCell (p := ⟨w.heap.size + 1 + 1, 2, none⟩) (Or.inl (by simp)) _)
  have HF7 : Hid (w7.heap[w.heap.size + 1 + 1 + 1]? = some (.cells #[.slice g1 M h1, .slice g2 M h2, .slice g3 M h3] 95 (0, 0))) := Lib.hid (HS7.out.at HG4.out (by simp))
  obtain ⟨w8, hw8⟩ : ∃ w8, w8 = (((w7.setCell ⟨w.heap.size + 1 + 1 + 1, 0, none⟩ (.slice q1 (M + 1) s1)).setCell ⟨w.heap.size + 1 + 1 + 1, 1, none⟩ (.slice q2 (M + 1) s2)).setCell ⟨w.heap.size + 1 + 1 + 1, 2, none⟩ (.slice q3 (M + 1) s3)) := ⟨_, rfl⟩
  have HE8 : Hid (w8.heap[w.heap.size + 1 + 1 + 1]? = some (.cells #[.slice q1 (M + 1) s1, .slice q2 (M + 1) s2, .slice q3 (M + 1) s3] 95 (0, 0))) := Lib.hid (by rw [hw8]; exact set_same (set_same (set_same HF7.out 0 _) 1 _) 2 _)
  have HS8 : Hid (Upto [w.heap.size + 1 + 1 + 1] w7 w8) := Lib.hid (by rw [hw8]; exact (((Upto.refl _ w7).setCell (p := ⟨w.heap.size + 1 + 1 + 1, 0, none⟩) (Or.inl (by simp)) _).setCell (p := ⟨w.heap.size + 1 + 1 + 1, 1, none⟩) (Or.inl (by simp)) _).setCell (p := ⟨w.heap.size + 1 + 1 + 1, 2, none⟩) (Or.inl (by simp)) _)
  have HC1 := Lib.hid (HS8.out.at (HS7.out.at HG1.out (by simp; omega)) (by simp; omega))
  have HC2 := Lib.hid (HS8.out.at (HS7.out.at HG2.out (by simp)) (by simp))
  have HC3 := Lib.hid (HS8.out.at HE7.out (by simp))
  have HC4 := HE8
  have HUC : Hid (Upto [] w w8) := Lib.hid (((HU2.out.trans_ext HU6.out).trans HS7.out (fun b hb => Or.inr (by simp at hb; omega))).trans HS8.out (fun b hb => Or.inr (by simp at hb; omega)))
  have HEX8 : Hid (EnvR w8 (fun b => w2.heap.size ≤ b) (envOf (x ++ [p])) p1 t1 p2 t2 p3 t3 (N + 1)) := Lib.hid ((HEX.out.upto HS7.out (fun b hb _ hm => by have := HWS.out; simp at hm; omega)).upto HS8.out (fun b hb _ hm => by have := HWS.out; simp at hm; omega))
  have HEY8 : Hid (EnvR w8 (fun b => w2.heap.size ≤ b) (envOf (y ++ [q])) q1 s1 q2 s2 q3 s3 (M + 1)) := Lib.hid ((HEY.out.upto HS7.out (fun b hb _ hm => by have := HWS.out; simp at hm; omega)).upto HS8.out (fun b hb _ hm => by have := HWS.out; simp at hm; omega))
  have u5 := cell_of HG1.out 5
  simp only [List.getElem?_toArray, List.getElem?_cons_zero, List.getElem?_cons_succ] at u5
  go_wp2_with fail
  simp only [← hw7]
  simp only [← hw8]
  clear hw7 hw8 m0 m1 m2 f0 f1 f2 z0 z1 z2 y0 y1 y2 u5
  obtain ⟨u0, u1, u2, u3, u4, u5⟩ := cells6 HC1.out
  obtain ⟨v0, v1, v2, v3, v4, v5⟩ := cells6 HC2.out
  go_loopw [12] (fun k wr => ∃ i : Nat, i ≤ n2 ∧ k = .int .i64 i ∧ Hid (likesF (l.drop i) (l'.drop i) (x ++ [p]) (y ++ [q]) = R9) ∧ Hid (Upto [] w8 wr)) (fun k _ => n2 - (intOf k).toNat)
  case atStart => exact ⟨0, by omega, rfl, Lib.hid (by rw [List.drop_zero, List.drop_zero]; exact HR9.out), Lib.hid (Upto.refl _ _)⟩
  case round =>
    obtain ⟨i, hi, rfl, HR, HUW⟩ := hrel
    have hi0 : (0 : Int) ≤ i := by omega
    have HW1 := Lib.hid (HUW.out.at HC1.out (by simp))
    have HW2 := Lib.hid (HUW.out.at HC2.out (by simp))
    have HW3 := Lib.hid (HUW.out.at HC3.out (by simp))
    have HW4 := Lib.hid (HUW.out.at HC4.out (by simp))
    have HUR := Lib.hid (HUC.out.trans_ext HUW.out)
    clear u0 u1 u2 u3 u4 u5 v0 v1 v2 v3 v4 v5
    obtain ⟨u0, u1, u2, u3, u4, u5⟩ := cells6 HW1.out
    obtain ⟨v0, v1, v2, v3, v4, v5⟩ := cells6 HW2.out
    rcases Nat.lt_or_ge i n2 with hlt | hge
    · have hil : (i : Int) < n2 := by omega
      obtain ⟨za, hp⟩ : ∃ za, l[i]? = some za := ⟨l[i]'(by rw [HN2.out.1]; omega), List.getElem?_eq_getElem _⟩
      obtain ⟨zb, hp'⟩ : ∃ zb, l'[i]? = some zb := ⟨l'[i]'(by rw [HN2.out.2]; omega), List.getElem?_eq_getElem _⟩
      obtain ⟨ga, oa, xo, xa1, xn1, xc1, xs, xn, xm, xa2, xn2, xc2, hva, ra0, ra1, ra2, ra3, ra4, ra5, hnx⟩ := HLA.out i za hp
      obtain ⟨gb, ob, yo, ya1, yn1, yc1, ys, yn, ym, ya2, yn2, yc2, hvb, rb0, rb1, rb2, rb3, rb4, rb5, hny⟩ := HLB.out i zb hp'
      have HDR : Hid (likesF (l.drop i) (l'.drop i) (x ++ [p]) (y ++ [q]) = (likeF za zb (x ++ [p]) (y ++ [q]) && likesF (l.drop (i + 1)) (l'.drop (i + 1)) (x ++ [p]) (y ++ [q]))) := Lib.hid (by
        obtain ⟨hi1, rfl⟩ := List.getElem?_eq_some_iff.1 hp
        obtain ⟨hi2, rfl⟩ := List.getElem?_eq_some_iff.1 hp'
        rw [List.drop_eq_getElem_cons hi1, List.drop_eq_getElem_cons hi2]
        rw [likesF])
      replace ra0 := up_cell HUR.out ra0
      replace ra1 := up_cell HUR.out ra1
      replace ra2 := up_cell HUR.out ra2
      replace ra3 := up_cell HUR.out ra3
      replace ra4 := up_cell HUR.out ra4
      replace ra5 := up_cell HUR.out ra5
      replace rb0 := up_cell HUR.out rb0
      replace rb1 := up_cell HUR.out rb1
      replace rb2 := up_cell HUR.out rb2
      replace rb3 := up_cell HUR.out rb3
      replace rb4 := up_cell HUR.out rb4
      replace rb5 := up_cell HUR.out rb5
      have hka := HKA.out za (List.mem_of_getElem? hp)
      have hkb := HKB.out zb (List.mem_of_getElem? hp')
      have HC := Lib.hid (fun u (hu : Upto [] wr u) => IHH.out za zb (.agg #[.int .i64 xo, .slice xa1 xn1 xc1, .int .i64 xs, .int .i64 xn, .int .i64 xm, .slice xa2 xn2 xc2]) (.agg #[.int .i64 yo, .slice ya1 yn1 yc1, .int .i64 ys, .int .i64 yn, .int .i64 ym, .slice ya2 yn2 yc2]) Pa Pb _ _ (x ++ [p]) (y ++ [q]) p1 p2 p3 q1 q2 q3 t1 t2 t3 (N + 1) s1 s2 s3 (M + 1) u ⟨hnx.ext (HUR.out.trans_ext hu), hka.1, hka.2.1, hka.2.2⟩ ⟨hny.ext (HUR.out.trans_ext hu), hkb.1, hkb.2.1, hkb.2.2⟩ (HEX8.out.ext (HUW.out.trans_ext hu)) (HEY8.out.ext (HUW.out.trans_ext hu)) (by have := HNM.out; omega) (by have := HNM.out; omega))
      clear hp hp' hnx hny hka hkb
      subst hva hvb
      obtain ⟨m0, m1, m2⟩ := cells3 HW3.out
      obtain ⟨z0, z1, z2⟩ := cells3 HW4.out
      go_wp2_with fail
      have j5 : ∀ u : Ext wr, u.w.cell? ⟨w.heap.size, 5, none⟩ = some (.slice (some ⟨ga, oa, none⟩) n2 c2) := fun u => u.cell u5
      have k5 : ∀ u : Ext wr, u.w.cell? ⟨w.heap.size + 1, 5, none⟩ = some (.slice (some ⟨gb, ob, none⟩) n2 d2) := fun u => u.cell v5
      have er0 : ∀ u : Ext wr, u.w.cell? ⟨ga, oa + i * 6, none⟩ = some _ := fun u => u.cell ra0
      have er1 : ∀ u : Ext wr, u.w.cell? ⟨ga, oa + i * 6 + 1, none⟩ = some _ := fun u => u.cell ra1
      have er2 : ∀ u : Ext wr, u.w.cell? ⟨ga, oa + i * 6 + 2, none⟩ = some _ := fun u => u.cell ra2
      have er3 : ∀ u : Ext wr, u.w.cell? ⟨ga, oa + i * 6 + 3, none⟩ = some _ := fun u => u.cell ra3
      have er4 : ∀ u : Ext wr, u.w.cell? ⟨ga, oa + i * 6 + 4, none⟩ = some _ := fun u => u.cell ra4
      have er5 : ∀ u : Ext wr, u.w.cell? ⟨ga, oa + i * 6 + 5, none⟩ = some _ := fun u => u.cell ra5
      have es0 : ∀ u : Ext wr, u.w.cell? ⟨gb, ob + i * 6, none⟩ = some _ := fun u => u.cell rb0
      have es1 : ∀ u : Ext wr, u.w.cell? ⟨gb, ob + i * 6 + 1, none⟩ = some _ := fun u => u.cell rb1
      have es2 : ∀ u : Ext wr, u.w.cell? ⟨gb, ob + i * 6 + 2, none⟩ = some _ := fun u => u.cell rb2
      have es3 : ∀ u : Ext wr, u.w.cell? ⟨gb, ob + i * 6 + 3, none⟩ = some _ := fun u => u.cell rb3
      have es4 : ∀ u : Ext wr, u.w.cell? ⟨gb, ob + i * 6 + 4, none⟩ = some _ := fun u => u.cell rb4
      have es5 : ∀ u : Ext wr, u.w.cell? ⟨gb, ob + i * 6 + 5, none⟩ = some _ := fun u => u.cell rb5
      have em0 : ∀ u : Ext wr, u.w.cell? ⟨w.heap.size + 1 + 1, 0, none⟩ = some _ := fun u => u.cell m0
      have em1 : ∀ u : Ext wr, u.w.cell? ⟨w.heap.size + 1 + 1, 1, none⟩ = some _ := fun u => u.cell m1
      have em2 : ∀ u : Ext wr, u.w.cell? ⟨w.heap.size + 1 + 1, 2, none⟩ = some _ := fun u => u.cell m2
      have ez0 : ∀ u : Ext wr, u.w.cell? ⟨w.heap.size + 1 + 1 + 1, 0, none⟩ = some _ := fun u => u.cell z0
      have ez1 : ∀ u : Ext wr, u.w.cell? ⟨w.heap.size + 1 + 1 + 1, 1, none⟩ = some _ := fun u => u.cell z1
      have ez2 : ∀ u : Ext wr, u.w.cell? ⟨w.heap.size + 1 + 1 + 1, 2, none⟩ = some _ := fun u => u.cell z2
      clear u0 u1 u2 u3 u4 u5 v0 v1 v2 v3 v4 v5 ra0 ra1 ra2 ra3 ra4 ra5 rb0 rb1 rb2 rb3 rb4 rb5 m0 m1 m2 z0 z1 z2
      have HRB := HR.out
      rw [HDR.out] at HRB
      have HRB2 := Lib.hid HRB
      clear HRB
      generalize hL9 : likeF za zb (x ++ [p]) (y ++ [q]) = L9 at *
      clear hL9
      refine wp_region_seg_all [12] [] [0, 1, 2, 3, 4, 5, 6, 7, 8, 9, 10, 11, 12, 13] (by kernel_rfl) (by kernel_rfl) ?_
      iterate 12 (refine seg_plain rfl rfl rfl rfl rfl ?_; intro K' hK'; go_big_quiet_op; go_big_quiet_on)
      refine seg_call (v := .bool L9) rfl rfl rfl rfl (fun w => by go_simp) (fun w' hu hd => HC.out w' hu) ?_
      simp only [Act.put, List.setIfInBounds_toArray, List.set_cons_zero, List.set_cons_succ]
      (refine seg_plain rfl rfl rfl rfl rfl ?_; intro K' hK'; go_big_quiet_op; go_big_quiet_on)
      intro w9 hg
      have HU9 := Lib.hid hg.up
      clear hg j5 k5 er0 er1 er2 er3 er4 er5 es0 es1 es2 es3 es4 es5 em0 em1 em2 ez0 ez1 ez2
      cases L9 with
      | false =>
        have HRF : Hid (R9 = false) := Lib.hid (by have h9 := HRB2.out; rw [Bool.false_and] at h9; exact h9.symm)
        try go_wp2_with fail
        go_ret
        rw [HGO.out, HRF.out]
        exact ⟨rfl, HUR.out.trans_ext HU9.out⟩
      | true =>
        try go_wp2_with fail
        exact ⟨⟨i + 1, by omega, by simp, Lib.hid (by have h9 := HRB2.out; rw [Bool.true_and] at h9; exact h9), Lib.hid (HUW.out.trans_ext HU9.out)⟩, by simp [intOf]; omega⟩
    · obtain rfl : i = n2 := by omega
      have HRT : Hid (R9 = true) := Lib.hid (by
        have h9 := HR.out
        rw [List.drop_of_length_le (by rw [HN2.out.1]; exact Nat.le_refl _)] at h9
        rw [← h9]
        rw [likesF]
        intro a r b r' h1
        cases h1)
      go_wp2_with fail
      go_ret
      rw [HGO.out, HRT.out]
      exact ⟨rfl, HUR.out⟩
end Go.Proofs.YtbnebkkpmcjmbaaGreatDoor


namespace Go.Proofs.YtbnebkkpmcjmbaaGreatDoor
open Go.RowKit Go.PL Go.Maps
set_option maxRecDepth 100000 in
set_option maxHeartbeats 25600000 in
theorem lk_plain (d : Nat) (IH : LkH d) (op so nn mm : Int) (nms : List (List UInt8)) (l : List Nd) (op' so' nn' mm' : Int) (nms' : List (List UInt8)) (l' : List Nd) (va vb : Value) (Pa Pb Qx Qy : Nat → Prop) (x y : List (List UInt8)) (e1 e2 e3 g1 g2 g3 : Option Addr) (f1 f2 f3 N h1 h2 h3 M : Nat) (w : World)
    (hs : op = op' ∧ so = so' ∧ nn = nn' ∧ mm = mm' ∧ nms.length = nms'.length ∧ l.length = l'.length) (hbd : bindsF op nms.length = false) (ha : LkIn w (d + 1) Pa (.mk op nms so nn mm l) va) (hb : LkIn w (d + 1) Pb (.mk op' nms' so' nn' mm' l') vb) (hX : EnvR w Qx (envOf x) e1 f1 e2 f2 e3 f3 N) (hY : EnvR w Qy (envOf y) g1 h1 g2 h2 g3 h3 M) (hN : N + (d + 1) ≤ 8000) (hM : M + (d + 1) ≤ 8000) :
    Calls Tryz.prog 66 #[va, vb, .agg #[.slice e1 N f1, .slice e2 N f2, .slice e3 N f3], .agg #[.slice g1 M h1, .slice g2 M h2, .slice g3 M h3]] w fun r w' => r = .returned (.bool (likeF (.mk op nms so nn mm l) (.mk op' nms' so' nn' mm' l') x y)) ∧ Upto [] w w' := by
  obtain ⟨R9, hR9⟩ : ∃ R9, R9 = likesF l l' x y := ⟨_, rfl⟩
  have HR9 : Hid (likesF l l' x y = R9) := Lib.hid hR9.symm
  obtain ⟨NL, hNL⟩ : ∃ NL, NL = nmsLike op x y 0 nms nms' := ⟨_, rfl⟩
  have HNL : Hid (nmsLike op x y 0 nms nms' = NL) := Lib.hid hNL.symm
  have HGO0 : Hid (likeF (.mk op nms so nn mm l) (.mk op' nms' so' nn' mm' l') x y = (NL && R9)) := Lib.hid (by unfold likeF; rw [if_pos hs, if_neg (by rw [hbd]; simp), hNL, hR9])
  clear hR9 hNL
  obtain ⟨rfl, rfl, rfl, rfl, hnl, hll⟩ := hs
  have HKA : Hid (∀ z ∈ l, depthF z ≤ d ∧ formF nameF z = 0 ∧ nmsF z + sizeF z + 2 ≤ 8000) := Lib.hid (fun z hz => ⟨by
    have h1 := depths_mem hz
    have h2 := ha.deep
    simp only [depthF] at h2
    omega, forms_iff.1 (form_iff.1 ha.form).2.2.2.2.2 z hz, by
    have h1 := nmss_mem hz
    have h2 := sizesF_mem hz
    have h3 := ha.few
    simp only [nmsF, sizeF] at h3
    omega⟩)
  have HKB : Hid (∀ z ∈ l', depthF z ≤ d ∧ formF nameF z = 0 ∧ nmsF z + sizeF z + 2 ≤ 8000) := Lib.hid (fun z hz => ⟨by
    have h1 := depths_mem hz
    have h2 := hb.deep
    simp only [depthF] at h2
    omega, forms_iff.1 (form_iff.1 hb.form).2.2.2.2.2 z hz, by
    have h1 := nmss_mem hz
    have h2 := sizesF_mem hz
    have h3 := hb.few
    simp only [nmsF, sizeF] at h3
    omega⟩)
  obtain ⟨a1, c1, a2, c2, rfl, hsa, hla⟩ := ha.nd.open
  obtain ⟨b1, d1, b2, d2, rfl, hsb, hlb⟩ := hb.nd.open
  have hln : nms.length ≤ 8000 := by have h3 := ha.few; simp only [nmsF] at h3; omega
  have hlm : l.length ≤ 8000 := by have h1 := sizes_len l; have h3 := ha.few; simp only [sizeF] at h3; omega
  have HBI : Hid (∀ u, Calls Tryz.prog 48 #[.agg #[.int .i64 op, .slice a1 nms.length c1, .int .i64 so, .int .i64 nn, .int .i64 mm, .slice a2 l.length c2]] u fun e w' => e = .returned (.bool false) ∧ Upto [] u w') := Lib.hid (fun u => by
    have hg := (good_of _ ha.form).1
    unfold goodN at hg
    have := bindsR_calls op a1 nms.length c1 so nn mm a2 l.length c2 u (fun h2 => hg.1 (Or.inr h2))
    rw [hbd] at this
    exact this)
  have IHH := Lib.hid IH
  have HX0 := Lib.hid hX
  have HY0 := Lib.hid hY
  have HSA := Lib.hid hsa
  have HLA := Lib.hid hla
  rw [← hnl] at hsb
  have HSB := Lib.hid hsb
  have HLB := Lib.hid hlb
  rw [← hnl, ← hll]
  obtain ⟨n1, hn1⟩ : ∃ n1, n1 = nms.length := ⟨_, rfl⟩
  obtain ⟨n2, hn2⟩ : ∃ n2, n2 = l.length := ⟨_, rfl⟩
  have HN1 : Hid (nms.length = n1 ∧ nms'.length = n1) := Lib.hid ⟨hn1.symm, by rw [← hnl, hn1]⟩
  have HN2 : Hid (l.length = n2 ∧ l'.length = n2) := Lib.hid ⟨hn2.symm, by rw [← hll, hn2]⟩
  have HNM : Hid (N + (d + 1) ≤ 8000 ∧ M + (d + 1) ≤ 8000) := Lib.hid ⟨hN, hM⟩
  rw [← hn1, ← hn2] at HBI
  rw [← hn1] at HSA HSB hln
  rw [← hn2] at hlm
  rw [← hn1, ← hn2]
  have hI1 : (n1 : Int) ≤ 8000 := by omega
  have hI2 : (n2 : Int) ≤ 8000 := by omega
  have hI10 : (0 : Int) ≤ n1 := by omega
  have hI20 : (0 : Int) ≤ n2 := by omega
  have HFX : Hid (∀ (z : List UInt8) (u : World), Upto [] w u → Calls Tryz.prog 88 #[.agg #[.slice e1 N f1, .slice e2 N f2, .slice e3 N f3], .string ⟨z.toArray⟩] u fun r w' => r = .returned (.int .i64 (findF x z x.length)) ∧ Upto [] u w') := Lib.hid (fun z u hu => by
    have h9 := hX.from_.ext hu
    have h8 := hX.len
    rw [envOf_fst] at h9
    rw [envOf_len] at h8
    have h7 := find_calls x z e1 e2 e3 f1 N f2 N f3 u _ (by rw [h8]; exact h9) (by omega)
    rwa [h8] at h7 ⊢)
  have HFY : Hid (∀ (z : List UInt8) (u : World), Upto [] w u → Calls Tryz.prog 88 #[.agg #[.slice g1 M h1, .slice g2 M h2, .slice g3 M h3], .string ⟨z.toArray⟩] u fun r w' => r = .returned (.int .i64 (findF y z y.length)) ∧ Upto [] u w') := Lib.hid (fun z u hu => by
    have h9 := hY.from_.ext hu
    have h8 := hY.len
    rw [envOf_fst] at h9
    rw [envOf_len] at h8
    have h7 := find_calls y z g1 g2 g3 h1 M h2 M h3 u _ (by rw [h8]; exact h9) (by omega)
    rwa [h8] at h7 ⊢)
  clear ha hb hX hY hN hM IH hsa hla hsb hlb hln hlm hnl hll hn1 hn2 hbd
  obtain ⟨W, hW⟩ : ∃ W, W = (((w.alloc (.cells #[.int .i64 op, .slice a1 n1 c1, .int .i64 so, .int .i64 nn, .int .i64 mm, .slice a2 n2 c2] 25)).alloc (.cells #[.int .i64 op, .slice b1 n1 d1, .int .i64 so, .int .i64 nn, .int .i64 mm, .slice b2 n2 d2] 25)).alloc (.cells #[.slice e1 N f1, .slice e2 N f2, .slice e3 N f3] 95)).alloc (.cells #[.slice g1 M h1, .slice g2 M h2, .slice g3 M h3] 95) := ⟨_, rfl⟩
  have HU : Hid (Upto [] w W) := Lib.hid (by rw [hW]; exact ((((Upto.refl [] w).alloc _).alloc _).alloc _).alloc _)
  have HB1 : Hid (W.heap[w.heap.size]? = some (.cells #[.int .i64 op, .slice a1 n1 c1, .int .i64 so, .int .i64 nn, .int .i64 mm, .slice a2 n2 c2] 25 (0, 0))) := Lib.hid (by rw [hW]; exact alloc_old (alloc_old (alloc_old (new_at w _) _) _) _)
  have HB2 : Hid (W.heap[w.heap.size + 1]? = some (.cells #[.int .i64 op, .slice b1 n1 d1, .int .i64 so, .int .i64 nn, .int .i64 mm, .slice b2 n2 d2] 25 (0, 0))) := Lib.hid (by rw [hW]; exact alloc_old (alloc_old (new_at1 w _ _) _) _)
  have HB3 : Hid (W.heap[w.heap.size + 1 + 1]? = some (.cells #[.slice e1 N f1, .slice e2 N f2, .slice e3 N f3] 95 (0, 0))) := Lib.hid (by rw [hW]; exact alloc_old (new_at2 w _ _ _) _)
  have HB4 : Hid (W.heap[w.heap.size + 1 + 1 + 1]? = some (.cells #[.slice g1 M h1, .slice g2 M h2, .slice g3 M h3] 95 (0, 0))) := Lib.hid (by rw [hW]; have h9 := new_at2 (w.alloc (.cells #[.int .i64 op, .slice a1 n1 c1, .int .i64 so, .int .i64 nn, .int .i64 mm, .slice a2 n2 c2] 25)) (.cells #[.int .i64 op, .slice b1 n1 d1, .int .i64 so, .int .i64 nn, .int .i64 mm, .slice b2 n2 d2] 25) (.cells #[.slice e1 N f1, .slice e2 N f2, .slice e3 N f3] 95) (.cells #[.slice g1 M h1, .slice g2 M h2, .slice g3 M h3] 95); rwa [show (w.alloc (.cells #[.int .i64 op, .slice a1 n1 c1, .int .i64 so, .int .i64 nn, .int .i64 mm, .slice a2 n2 c2] 25)).heap.size = w.heap.size + 1 by show (w.heap.push _).size = _; simp] at h9)
  obtain ⟨u0, u1, u2, u3, u4, u5⟩ := cells6 HB1.out
  obtain ⟨v0, v1, v2, v3, v4, v5⟩ := cells6 HB2.out
  go_enter Tryz.func66, Tryz.ntmps66
  go_wp2_with fail
  simp only [← hW]
  clear hW
  try go_wp2_with fail
  refine (HBI.out _).mono ?_
  rintro r w2 ⟨rfl, hu2⟩
  have HU2 := Lib.hid (HU.out.trans_ext hu2)
  have HD1 := Lib.hid (hu2.at HB1.out (by simp))
  have HD2 := Lib.hid (hu2.at HB2.out (by simp))
  have HD3 := Lib.hid (hu2.at HB3.out (by simp))
  have HD4 := Lib.hid (hu2.at HB4.out (by simp))
  clear hu2 u0 u1 u2 u3 u4 u5 v0 v1 v2 v3 v4 v5
  obtain ⟨u0, u1, u2, u3, u4, u5⟩ := cells6 HD1.out
  obtain ⟨v0, v1, v2, v3, v4, v5⟩ := cells6 HD2.out
  go_wp2_with fail
  go_loopw [9] (fun i wr => ∃ j : Nat, j ≤ n1 ∧ i = .int .i64 j ∧ Hid (nmsLike op x y j (nms.drop j) (nms'.drop j) = NL) ∧ Hid (Upto [] w2 wr)) (fun i _ => n1 - (intOf i).toNat)
  case atStart => exact ⟨0, by omega, rfl, Lib.hid (by rw [List.drop_zero, List.drop_zero]; exact HNL.out), Lib.hid (Upto.refl _ _)⟩
  case round =>
    obtain ⟨j, hj, rfl, HL, HUW⟩ := hrel
    have hj0 : (0 : Int) ≤ j := by omega
    have HE1 := Lib.hid (HUW.out.at HD1.out (by simp))
    have HE2 := Lib.hid (HUW.out.at HD2.out (by simp))
    have HE3 := Lib.hid (HUW.out.at HD3.out (by simp))
    have HE4 := Lib.hid (HUW.out.at HD4.out (by simp))
    have HUR := Lib.hid (HU2.out.trans_ext HUW.out)
    clear u0 u1 u2 u3 u4 u5 v0 v1 v2 v3 v4 v5
    obtain ⟨u0, u1, u2, u3, u4, u5⟩ := cells6 HE1.out
    obtain ⟨v0, v1, v2, v3, v4, v5⟩ := cells6 HE2.out
    rcases Nat.lt_or_ge j n1 with hlt | hge
    · have hjl : (j : Int) < n1 := by omega
      obtain ⟨p, hp⟩ : ∃ p, nms[j]? = some p := ⟨nms[j]'(by rw [HN1.out.1]; omega), List.getElem?_eq_getElem _⟩
      obtain ⟨q, hq⟩ : ∃ q, nms'[j]? = some q := ⟨nms'[j]'(by rw [HN1.out.2]; omega), List.getElem?_eq_getElem _⟩
      obtain ⟨ga9, oa9, hva9, hca⟩ := slp_cell HSA.out HN1.out.1 j p hp
      obtain ⟨gb9, ob9, hvb9, hcb⟩ := slp_cell HSB.out HN1.out.2 j q hq
      have HST : Hid (nmsLike op x y j (nms.drop j) (nms'.drop j) = ((if op = 10 ∧ j = 0 then p == q else nmLike x y p q) && nmsLike op x y (j + 1) (nms.drop (j + 1)) (nms'.drop (j + 1)))) := Lib.hid (by
        obtain ⟨hi1, rfl⟩ := List.getElem?_eq_some_iff.1 hp
        obtain ⟨hi2, rfl⟩ := List.getElem?_eq_some_iff.1 hq
        rw [List.drop_eq_getElem_cons hi1, List.drop_eq_getElem_cons hi2]
        rw [nmsLike])
      have HCA := Lib.hid hca
      have HCB := Lib.hid hcb
      clear hp hq hca hcb
      subst hva9
      subst hvb9
      obtain ⟨m0, m1, m2⟩ := cells3 HE3.out
      obtain ⟨z0, z1, z2⟩ := cells3 HE4.out
      have c0 := HCA.out _ HUR.out
      have c9 := HCB.out _ HUR.out
      go_wp2_with fail
      have j1 : ∀ u : Ext wr, u.w.cell? ⟨w.heap.size, 1, none⟩ = some (.slice (some ⟨ga9, oa9, none⟩) n1 c1) := fun u => u.cell u1
      have k1 : ∀ u : Ext wr, u.w.cell? ⟨w.heap.size + 1, 1, none⟩ = some (.slice (some ⟨gb9, ob9, none⟩) n1 d1) := fun u => u.cell v1
      have ec0 : ∀ u : Ext wr, u.w.cell? ⟨ga9, oa9 + j, none⟩ = some (.string ⟨p.toArray⟩) := fun u => u.cell c0
      have ec9 : ∀ u : Ext wr, u.w.cell? ⟨gb9, ob9 + j, none⟩ = some (.string ⟨q.toArray⟩) := fun u => u.cell c9
      have em0 : ∀ u : Ext wr, u.w.cell? ⟨w.heap.size + 1 + 1, 0, none⟩ = some _ := fun u => u.cell m0
      have em1 : ∀ u : Ext wr, u.w.cell? ⟨w.heap.size + 1 + 1, 1, none⟩ = some _ := fun u => u.cell m1
      have em2 : ∀ u : Ext wr, u.w.cell? ⟨w.heap.size + 1 + 1, 2, none⟩ = some _ := fun u => u.cell m2
      have ez0 : ∀ u : Ext wr, u.w.cell? ⟨w.heap.size + 1 + 1 + 1, 0, none⟩ = some _ := fun u => u.cell z0
      have ez1 : ∀ u : Ext wr, u.w.cell? ⟨w.heap.size + 1 + 1 + 1, 1, none⟩ = some _ := fun u => u.cell z1
      have ez2 : ∀ u : Ext wr, u.w.cell? ⟨w.heap.size + 1 + 1 + 1, 2, none⟩ = some _ := fun u => u.cell z2
      obtain ⟨i1, hi1⟩ : ∃ i1, i1 = findF x p x.length := ⟨_, rfl⟩
      obtain ⟨i2, hi2⟩ : ∃ i2, i2 = findF y q y.length := ⟨_, rfl⟩
      have HF1 := Lib.hid (fun u (hu : Upto [] wr u) => HFX.out p u (HUR.out.trans_ext hu))
      have HF2 := Lib.hid (fun u (hu : Upto [] wr u) => HFY.out q u (HUR.out.trans_ext hu))
      rw [← hi1] at HF1
      rw [← hi2] at HF2
      have HNK : Hid (nmLike x y p q = (i1 == i2 && (!(decide (i1 < 0)) || p == q))) := Lib.hid (by unfold nmLike; rw [← hi1, ← hi2])
      have HGE : Hid (-1 ≤ i1) := Lib.hid (by rw [hi1]; exact findF_ge _ _ _)
      clear hi1 hi2 u0 u1 u2 u3 u4 u5 v0 v1 v2 v3 v4 v5 m0 m1 m2 z0 z1 z2 c0 c9
      refine wp_region_seg_all [6, 13] [] [0, 1, 2, 3, 4, 5, 6, 7, 8, 9, 10, 11, 12, 13, 14, 15] (by kernel_rfl) (by kernel_rfl) ?_
      iterate 6 (refine seg_plain rfl rfl rfl rfl rfl ?_; intro K' hK'; go_big_quiet_op; go_big_quiet_on)
      refine seg_call (v := .int .i64 i1) rfl rfl rfl rfl (fun w => by go_simp) (fun w' hu hd => HF1.out w' hu) ?_
      simp only [Act.put, List.setIfInBounds_toArray, List.set_cons_zero, List.set_cons_succ]
      iterate 6 (refine seg_plain rfl rfl rfl rfl rfl ?_; intro K' hK'; go_big_quiet_op; go_big_quiet_on)
      refine seg_call (v := .int .i64 i2) rfl rfl rfl rfl (fun w => by go_simp) (fun w' hu hd => HF2.out w' hu) ?_
      simp only [Act.put, List.setIfInBounds_toArray, List.set_cons_zero, List.set_cons_succ]
      iterate 2 (refine seg_plain rfl rfl rfl rfl rfl ?_; intro K' hK'; go_big_quiet_op; go_big_quiet_on)
      intro w9 hg
      have HU9 := Lib.hid hg.up
      clear hg j1 k1 ec0 ec9 em0 em1 em2 ez0 ez1 ez2
      have HK1 := Lib.hid (HU9.out.at HE1.out (by simp))
      have HK2 := Lib.hid (HU9.out.at HE2.out (by simp))
      have HURK := Lib.hid (HUR.out.trans_ext HU9.out)
      have HUWK := Lib.hid (HUW.out.trans_ext HU9.out)
      obtain ⟨u0, u1, u2, u3, u4, u5⟩ := cells6 HK1.out
      obtain ⟨v0, v1, v2, v3, v4, v5⟩ := cells6 HK2.out
      have c0 := HCA.out _ HURK.out
      have c9 := HCB.out _ HURK.out
      by_cases h10 : op = 10
      · have h10b : (op == 10) = true := by rw [h10]; rfl
        rcases Nat.eq_zero_or_pos j with hj1 | hj1
        · have hj1b : ((j : Int) == 0) = true := by rw [hj1]; rfl
          have hjz : (j : Int) = 0 := by omega
          have hjx : (j : Int) = 0 := by omega
          have hn0 : (0 : Int) < n1 := by omega
          rw [hj1, Nat.add_zero] at c0 c9
          have HIF : Hid ((if op = 10 ∧ j = 0 then p == q else nmLike x y p q) = (p == q)) := Lib.hid (if_pos ⟨h10, hj1⟩)
          clear hj1 h10
          cases hpq : (p == q) with
          | false =>
            have hpn : (p != q) = true := by rw [bne, hpq]; rfl
            have HNF : Hid (NL = false) := Lib.hid (by have h9 := HL.out; rw [HST.out, HIF.out, hpq, Bool.false_and] at h9; exact h9.symm)
            clear HST HL
            try go_wp2_with fail
            go_quiet (fail)
            try go_wp2_with fail
            go_ret
            rw [HGO0.out, HNF.out, Bool.false_and]
            exact ⟨rfl, HURK.out.drewN nq⟩
          | true =>
            have hpn : (p != q) = false := by rw [bne, hpq]; rfl
            have HNT : Hid (nmsLike op x y (j + 1) (nms.drop (j + 1)) (nms'.drop (j + 1)) = NL) := Lib.hid (by have h9 := HL.out; rw [HST.out, HIF.out, hpq, Bool.true_and] at h9; exact h9)
            clear HST HL
            try go_wp2_with fail
            go_quiet (fail)
            try go_wp2_with fail
            exact ⟨⟨j + 1, by omega, by simp [hjx], HNT, Lib.hid (HUWK.out.drewN nq)⟩, by simp [intOf, hjx]; omega⟩
        · have hj1b : ((j : Int) == 0) = false := by rw [beq_eq_false_iff_ne]; omega
          have hjz : ¬ (j : Int) = 0 := by omega
          have hno : ¬ (op = 10 ∧ j = 0) := fun h => by omega
          have hjx : (0 : Int) = 0 := rfl
          clear hj1 h10
          have HIF : Hid ((if op = 10 ∧ j = 0 then p == q else nmLike x y p q) = (i1 == i2 && (!(decide (i1 < 0)) || p == q))) := Lib.hid (by rw [if_neg hno, HNK.out])
          clear hno
          by_cases h12 : i1 = i2
          · have h12b : (i1 == i2) = true := by rw [h12]; exact beq_self_eq_true _
            have h12c : (i1 != i2) = false := by rw [bne, h12b]; rfl
            by_cases hi0 : i1 < 0
            · have hdi : decide (i1 < 0) = true := by simpa using hi0
              clear h12
              cases hpq : (p == q) with
              | false =>
                have hpn : (p != q) = true := by rw [bne, hpq]; rfl
                have HNF : Hid (NL = false) := Lib.hid (by have h9 := HL.out; rw [HST.out, HIF.out, h12b, hdi, Bool.true_and, Bool.not_true, Bool.false_or, hpq, Bool.false_and] at h9; exact h9.symm)
                clear HST HL
                try go_wp2_with fail
                go_quiet (fail)
                try go_wp2_with fail
                go_ret
                rw [HGO0.out, HNF.out, Bool.false_and]
                exact ⟨rfl, HURK.out.drewN nq⟩
              | true =>
                have hpn : (p != q) = false := by rw [bne, hpq]; rfl
                have HNT : Hid (nmsLike op x y (j + 1) (nms.drop (j + 1)) (nms'.drop (j + 1)) = NL) := Lib.hid (by have h9 := HL.out; rw [HST.out, HIF.out, h12b, hdi, Bool.true_and, Bool.not_true, Bool.false_or, hpq, Bool.true_and] at h9; exact h9)
                clear HST HL
                try go_wp2_with fail
                go_quiet (fail)
                try go_wp2_with fail
                exact ⟨⟨j + 1, by omega, by simp, HNT, Lib.hid (HUWK.out.drewN nq)⟩, by simp [intOf]; omega⟩
            · have hdi : decide (i1 < 0) = false := by simpa using hi0
              clear h12
              have HNT : Hid (nmsLike op x y (j + 1) (nms.drop (j + 1)) (nms'.drop (j + 1)) = NL) := Lib.hid (by have h9 := HL.out; rw [HST.out, HIF.out, h12b, hdi, Bool.true_and, Bool.not_false, Bool.true_or, Bool.true_and] at h9; exact h9)
              clear HST HL
              try go_wp2_with fail
              go_quiet (fail)
              try go_wp2_with fail
              exact ⟨⟨j + 1, by omega, by simp, HNT, Lib.hid (HUWK.out.drewN nq)⟩, by simp [intOf]; omega⟩
          · have h12b : (i1 == i2) = false := by rw [beq_eq_false_iff_ne]; exact h12
            have h12c : (i1 != i2) = true := by rw [bne, h12b]; rfl
            have HNF : Hid (NL = false) := Lib.hid (by have h9 := HL.out; rw [HST.out, HIF.out, h12b, Bool.false_and, Bool.false_and] at h9; exact h9.symm)
            clear HST HL h12
            try go_wp2_with fail
            go_quiet (fail)
            try go_wp2_with fail
            go_ret
            rw [HGO0.out, HNF.out, Bool.false_and]
            exact ⟨rfl, HURK.out.drewN nq⟩
      · have h10b : (op == 10) = false := by rw [beq_eq_false_iff_ne]; exact h10
        have hno : ¬ (op = 10 ∧ j = 0) := fun h => h10 h.1
        have hjx : (0 : Int) = 0 := rfl
        have HIF : Hid ((if op = 10 ∧ j = 0 then p == q else nmLike x y p q) = (i1 == i2 && (!(decide (i1 < 0)) || p == q))) := Lib.hid (by rw [if_neg hno, HNK.out])
        clear hno
        by_cases h12 : i1 = i2
        · have h12b : (i1 == i2) = true := by rw [h12]; exact beq_self_eq_true _
          have h12c : (i1 != i2) = false := by rw [bne, h12b]; rfl
          by_cases hi0 : i1 < 0
          · have hdi : decide (i1 < 0) = true := by simpa using hi0
            clear h12
            cases hpq : (p == q) with
            | false =>
              have hpn : (p != q) = true := by rw [bne, hpq]; rfl
              have HNF : Hid (NL = false) := Lib.hid (by have h9 := HL.out; rw [HST.out, HIF.out, h12b, hdi, Bool.true_and, Bool.not_true, Bool.false_or, hpq, Bool.false_and] at h9; exact h9.symm)
              clear HST HL
              try go_wp2_with fail
              go_quiet (fail)
              try go_wp2_with fail
              go_ret
              rw [HGO0.out, HNF.out, Bool.false_and]
              exact ⟨rfl, HURK.out.drewN nq⟩
            | true =>
              have hpn : (p != q) = false := by rw [bne, hpq]; rfl
              have HNT : Hid (nmsLike op x y (j + 1) (nms.drop (j + 1)) (nms'.drop (j + 1)) = NL) := Lib.hid (by have h9 := HL.out; rw [HST.out, HIF.out, h12b, hdi, Bool.true_and, Bool.not_true, Bool.false_or, hpq, Bool.true_and] at h9; exact h9)
              clear HST HL
              try go_wp2_with fail
              go_quiet (fail)
              try go_wp2_with fail
              exact ⟨⟨j + 1, by omega, by simp, HNT, Lib.hid (HUWK.out.drewN nq)⟩, by simp [intOf]; omega⟩
          · have hdi : decide (i1 < 0) = false := by simpa using hi0
            clear h12
            have HNT : Hid (nmsLike op x y (j + 1) (nms.drop (j + 1)) (nms'.drop (j + 1)) = NL) := Lib.hid (by have h9 := HL.out; rw [HST.out, HIF.out, h12b, hdi, Bool.true_and, Bool.not_false, Bool.true_or, Bool.true_and] at h9; exact h9)
            clear HST HL
            try go_wp2_with fail
            go_quiet (fail)
            try go_wp2_with fail
            exact ⟨⟨j + 1, by omega, by simp, HNT, Lib.hid (HUWK.out.drewN nq)⟩, by simp [intOf]; omega⟩
        · have h12b : (i1 == i2) = false := by rw [beq_eq_false_iff_ne]; exact h12
          have h12c : (i1 != i2) = true := by rw [bne, h12b]; rfl
          have HNF : Hid (NL = false) := Lib.hid (by have h9 := HL.out; rw [HST.out, HIF.out, h12b, Bool.false_and, Bool.false_and] at h9; exact h9.symm)
          clear HST HL h12
          try go_wp2_with fail
          go_quiet (fail)
          try go_wp2_with fail
          go_ret
          rw [HGO0.out, HNF.out, Bool.false_and]
          exact ⟨rfl, HURK.out.drewN nq⟩
    · obtain rfl : j = n1 := by omega
      have HNT : Hid (NL = true) := Lib.hid (by
        have h9 := HL.out
        rw [List.drop_of_length_le (by rw [HN1.out.1]; exact Nat.le_refl _)] at h9
        rw [← h9]
        rw [nmsLike]
        intro a r b r' h1
        cases h1)
      have HGO : Hid (likeF (.mk op nms so nn mm l) (.mk op nms' so nn mm l') x y = R9) := Lib.hid (by rw [HGO0.out, HNT.out, Bool.true_and])
      obtain ⟨w8, hw8⟩ : ∃ w8, w8 = wr := ⟨_, rfl⟩
      subst hw8
      have HC1 := HE1
      have HC2 := HE2
      have HC3 := HE3
      have HC4 := HE4
      have HUC := HUR
      have HEX8 := Lib.hid (HX0.out.ext HUR.out)
      have HEY8 := Lib.hid (HY0.out.ext HUR.out)
      go_wp2_with fail
      go_loopw [12] (fun k wr => ∃ i : Nat, i ≤ n2 ∧ k = .int .i64 i ∧ Hid (likesF (l.drop i) (l'.drop i) x y = R9) ∧ Hid (Upto [] w8 wr)) (fun k _ => n2 - (intOf k).toNat)
      case atStart => exact ⟨0, by omega, rfl, Lib.hid (by rw [List.drop_zero, List.drop_zero]; exact HR9.out), Lib.hid (Upto.refl _ _)⟩
      case round =>
        obtain ⟨i, hi, rfl, HR, HUW⟩ := hrel
        have hi0 : (0 : Int) ≤ i := by omega
        have HW1 := Lib.hid (HUW.out.at HC1.out (by simp))
        have HW2 := Lib.hid (HUW.out.at HC2.out (by simp))
        have HW3 := Lib.hid (HUW.out.at HC3.out (by simp))
        have HW4 := Lib.hid (HUW.out.at HC4.out (by simp))
        have HUR := Lib.hid (HUC.out.trans_ext HUW.out)
        clear u0 u1 u2 u3 u4 u5 v0 v1 v2 v3 v4 v5
        obtain ⟨u0, u1, u2, u3, u4, u5⟩ := cells6 HW1.out
        obtain ⟨v0, v1, v2, v3, v4, v5⟩ := cells6 HW2.out
        rcases Nat.lt_or_ge i n2 with hlt | hge
        · have hil : (i : Int) < n2 := by omega
          obtain ⟨za, hp⟩ : ∃ za, l[i]? = some za := ⟨l[i]'(by rw [HN2.out.1]; omega), List.getElem?_eq_getElem _⟩
          obtain ⟨zb, hp'⟩ : ∃ zb, l'[i]? = some zb := ⟨l'[i]'(by rw [HN2.out.2]; omega), List.getElem?_eq_getElem _⟩
          obtain ⟨ga, oa, xo, xa1, xn1, xc1, xs, xn, xm, xa2, xn2, xc2, hva, ra0, ra1, ra2, ra3, ra4, ra5, hnx⟩ := HLA.out i za hp
          obtain ⟨gb, ob, yo, ya1, yn1, yc1, ys, yn, ym, ya2, yn2, yc2, hvb, rb0, rb1, rb2, rb3, rb4, rb5, hny⟩ := HLB.out i zb hp'
          have HDR : Hid (likesF (l.drop i) (l'.drop i) x y = (likeF za zb x y && likesF (l.drop (i + 1)) (l'.drop (i + 1)) x y)) := Lib.hid (by
            obtain ⟨hi1, rfl⟩ := List.getElem?_eq_some_iff.1 hp
            obtain ⟨hi2, rfl⟩ := List.getElem?_eq_some_iff.1 hp'
            rw [List.drop_eq_getElem_cons hi1, List.drop_eq_getElem_cons hi2]
            rw [likesF])
          replace ra0 := up_cell HUR.out ra0
          replace ra1 := up_cell HUR.out ra1
          replace ra2 := up_cell HUR.out ra2
          replace ra3 := up_cell HUR.out ra3
          replace ra4 := up_cell HUR.out ra4
          replace ra5 := up_cell HUR.out ra5
          replace rb0 := up_cell HUR.out rb0
          replace rb1 := up_cell HUR.out rb1
          replace rb2 := up_cell HUR.out rb2
          replace rb3 := up_cell HUR.out rb3
          replace rb4 := up_cell HUR.out rb4
          replace rb5 := up_cell HUR.out rb5
          have hka := HKA.out za (List.mem_of_getElem? hp)
          have hkb := HKB.out zb (List.mem_of_getElem? hp')
          have HC := Lib.hid (fun u (hu : Upto [] wr u) => IHH.out za zb (.agg #[.int .i64 xo, .slice xa1 xn1 xc1, .int .i64 xs, .int .i64 xn, .int .i64 xm, .slice xa2 xn2 xc2]) (.agg #[.int .i64 yo, .slice ya1 yn1 yc1, .int .i64 ys, .int .i64 yn, .int .i64 ym, .slice ya2 yn2 yc2]) Pa Pb _ _ x y e1 e2 e3 g1 g2 g3 f1 f2 f3 N h1 h2 h3 M u ⟨hnx.ext (HUR.out.trans_ext hu), hka.1, hka.2.1, hka.2.2⟩ ⟨hny.ext (HUR.out.trans_ext hu), hkb.1, hkb.2.1, hkb.2.2⟩ (HEX8.out.ext (HUW.out.trans_ext hu)) (HEY8.out.ext (HUW.out.trans_ext hu)) (by have := HNM.out; omega) (by have := HNM.out; omega))
          clear hp hp' hnx hny hka hkb
          subst hva hvb
          obtain ⟨m0, m1, m2⟩ := cells3 HW3.out
          obtain ⟨z0, z1, z2⟩ := cells3 HW4.out
          go_wp2_with fail
          have j5 : ∀ u : Ext wr, u.w.cell? ⟨w.heap.size, 5, none⟩ = some (.slice (some ⟨ga, oa, none⟩) n2 c2) := fun u => u.cell u5
          have k5 : ∀ u : Ext wr, u.w.cell? ⟨w.heap.size + 1, 5, none⟩ = some (.slice (some ⟨gb, ob, none⟩) n2 d2) := fun u => u.cell v5
          have er0 : ∀ u : Ext wr, u.w.cell? ⟨ga, oa + i * 6, none⟩ = some _ := fun u => u.cell ra0
          have er1 : ∀ u : Ext wr, u.w.cell? ⟨ga, oa + i * 6 + 1, none⟩ = some _ := fun u => u.cell ra1
          have er2 : ∀ u : Ext wr, u.w.cell? ⟨ga, oa + i * 6 + 2, none⟩ = some _ := fun u => u.cell ra2
          have er3 : ∀ u : Ext wr, u.w.cell? ⟨ga, oa + i * 6 + 3, none⟩ = some _ := fun u => u.cell ra3
          have er4 : ∀ u : Ext wr, u.w.cell? ⟨ga, oa + i * 6 + 4, none⟩ = some _ := fun u => u.cell ra4
          have er5 : ∀ u : Ext wr, u.w.cell? ⟨ga, oa + i * 6 + 5, none⟩ = some _ := fun u => u.cell ra5
          have es0 : ∀ u : Ext wr, u.w.cell? ⟨gb, ob + i * 6, none⟩ = some _ := fun u => u.cell rb0
          have es1 : ∀ u : Ext wr, u.w.cell? ⟨gb, ob + i * 6 + 1, none⟩ = some _ := fun u => u.cell rb1
          have es2 : ∀ u : Ext wr, u.w.cell? ⟨gb, ob + i * 6 + 2, none⟩ = some _ := fun u => u.cell rb2
          have es3 : ∀ u : Ext wr, u.w.cell? ⟨gb, ob + i * 6 + 3, none⟩ = some _ := fun u => u.cell rb3
          have es4 : ∀ u : Ext wr, u.w.cell? ⟨gb, ob + i * 6 + 4, none⟩ = some _ := fun u => u.cell rb4
          have es5 : ∀ u : Ext wr, u.w.cell? ⟨gb, ob + i * 6 + 5, none⟩ = some _ := fun u => u.cell rb5
          have em0 : ∀ u : Ext wr, u.w.cell? ⟨w.heap.size + 1 + 1, 0, none⟩ = some _ := fun u => u.cell m0
          have em1 : ∀ u : Ext wr, u.w.cell? ⟨w.heap.size + 1 + 1, 1, none⟩ = some _ := fun u => u.cell m1
          have em2 : ∀ u : Ext wr, u.w.cell? ⟨w.heap.size + 1 + 1, 2, none⟩ = some _ := fun u => u.cell m2
          have ez0 : ∀ u : Ext wr, u.w.cell? ⟨w.heap.size + 1 + 1 + 1, 0, none⟩ = some _ := fun u => u.cell z0
          have ez1 : ∀ u : Ext wr, u.w.cell? ⟨w.heap.size + 1 + 1 + 1, 1, none⟩ = some _ := fun u => u.cell z1
          have ez2 : ∀ u : Ext wr, u.w.cell? ⟨w.heap.size + 1 + 1 + 1, 2, none⟩ = some _ := fun u => u.cell z2
          clear u0 u1 u2 u3 u4 u5 v0 v1 v2 v3 v4 v5 ra0 ra1 ra2 ra3 ra4 ra5 rb0 rb1 rb2 rb3 rb4 rb5 m0 m1 m2 z0 z1 z2
          have HRB := HR.out
          rw [HDR.out] at HRB
          have HRB2 := Lib.hid HRB
          clear HRB
          generalize hL9 : likeF za zb x y = L9 at *
          clear hL9
          refine wp_region_seg_all [12] [] [0, 1, 2, 3, 4, 5, 6, 7, 8, 9, 10, 11, 12, 13] (by kernel_rfl) (by kernel_rfl) ?_
          iterate 12 (refine seg_plain rfl rfl rfl rfl rfl ?_; intro K' hK'; go_big_quiet_op; go_big_quiet_on)
          refine seg_call (v := .bool L9) rfl rfl rfl rfl (fun w => by go_simp) (fun w' hu hd => HC.out w' hu) ?_
          simp only [Act.put, List.setIfInBounds_toArray, List.set_cons_zero, List.set_cons_succ]
          (refine seg_plain rfl rfl rfl rfl rfl ?_; intro K' hK'; go_big_quiet_op; go_big_quiet_on)
          intro w9 hg
          have HU9 := Lib.hid hg.up
          clear hg j5 k5 er0 er1 er2 er3 er4 er5 es0 es1 es2 es3 es4 es5 em0 em1 em2 ez0 ez1 ez2
          cases L9 with
          | false =>
            have HRF : Hid (R9 = false) := Lib.hid (by have h9 := HRB2.out; rw [Bool.false_and] at h9; exact h9.symm)
            try go_wp2_with fail
            go_ret
            rw [HGO.out, HRF.out]
            exact ⟨rfl, HUR.out.trans_ext HU9.out⟩
          | true =>
            try go_wp2_with fail
            exact ⟨⟨i + 1, by omega, by simp, Lib.hid (by have h9 := HRB2.out; rw [Bool.true_and] at h9; exact h9), Lib.hid (HUW.out.trans_ext HU9.out)⟩, by simp [intOf]; omega⟩
        · obtain rfl : i = n2 := by omega
          have HRT : Hid (R9 = true) := Lib.hid (by
            have h9 := HR.out
            rw [List.drop_of_length_le (by rw [HN2.out.1]; exact Nat.le_refl _)] at h9
            rw [← h9]
            rw [likesF]
            intro a r b r' h1
            cases h1)
          go_wp2_with fail
          go_ret
          rw [HGO.out, HRT.out]
          exact ⟨rfl, HUR.out⟩
end Go.Proofs.YtbnebkkpmcjmbaaGreatDoor


namespace Go.Proofs.YtbnebkkpmcjmbaaGreatDoor
open Go.RowKit Go.PL Go.Maps
theorem likeR_calls : ∀ (d : Nat), LkH d
  | 0 => fun a b va vb Pa Pb Qx Qy x y e1 e2 e3 g1 g2 g3 f1 f2 f3 N h1 h2 h3 M u ha hb hX hY hN hM => by
    cases a
    have := ha.deep
    simp only [depthF] at this
    omega
  | d + 1 => fun a b va vb Pa Pb Qx Qy x y e1 e2 e3 g1 g2 g3 f1 f2 f3 N h1 h2 h3 M u ha hb hX hY hN hM => by
    obtain ⟨op, nms, so, nn, mm, l⟩ := a
    obtain ⟨op', nms', so', nn', mm', l'⟩ := b
    by_cases hs : op = op' ∧ so = so' ∧ nn = nn' ∧ mm = mm' ∧ nms.length = nms'.length ∧ l.length = l'.length
    · cases hbd : bindsF op nms.length with
      | false => exact lk_plain d (likeR_calls d) op so nn mm nms l op' so' nn' mm' nms' l' va vb Pa Pb Qx Qy x y e1 e2 e3 g1 g2 g3 f1 f2 f3 N h1 h2 h3 M u hs hbd ha hb hX hY hN hM
      | true =>
        have hone := one_of _ ha.form
        unfold oneN at hone
        obtain ⟨k1, -⟩ := hone.1 hbd
        obtain ⟨p, hp⟩ := List.length_eq_one_iff.1 k1
        obtain ⟨q, hq⟩ := List.length_eq_one_iff.1 (hs.2.2.2.2.1 ▸ k1)
        exact lk_bind d (likeR_calls d) op so nn mm nms l op' so' nn' mm' nms' l' va vb Pa Pb Qx Qy x y e1 e2 e3 g1 g2 g3 f1 f2 f3 N h1 h2 h3 M u hs hbd p q hp hq ha hb hX hY hN hM
    · exact lk_diff d (likeR_calls d) op so nn mm nms l op' so' nn' mm' nms' l' va vb Pa Pb Qx Qy x y e1 e2 e3 g1 g2 g3 f1 f2 f3 N h1 h2 h3 M u hs ha hb hX hY hN hM
/-- what Like answers -/
def likeQ (q q' : Qn) : Bool := decide (q.free = q'.free) && likeF q.body q'.body [] []
set_option maxRecDepth 100000 in
set_option maxHeartbeats 25600000 in
theorem likeQ_calls (q q' : Qn) (v v' : Value) (w : World) (P P' : Nat → Prop) (h : QnV w P q v) (h' : QnV w P' q' v') (hf : formF nameF q.body = 0) (hf' : formF nameF q'.body = 0) (hl : q.free.length ≤ 1048576) (hl' : q'.free.length ≤ 1048576) (hn : nmsF q.body + sizeF q.body + 2 ≤ 3000) (hn' : nmsF q'.body + sizeF q'.body + 2 ≤ 3000) : Calls Tryz.prog 35 #[v, v'] w fun r w' => r = .returned (.bool (likeQ q q')) ∧ Upto [] w w' := by
  obtain ⟨f1, f3, o1, a1, a2, a3, s1, n1, m1, l1, l2, l3, rfl, hv, hnd⟩ := h.open
  obtain ⟨f1', f3', o1', a1', a2', a3', s1', n1', m1', l1', l2', l3', rfl, hv', hnd'⟩ := h'.open
  have HG := Lib.hid (vars_slice hv)
  have HG' := Lib.hid (vars_slice hv')
  have HLK := Lib.hid (fun u (hu : Upto [] w u) => likeR_calls (max (depthF q.body) (depthF q'.body)) q.body q'.body _ _ P P' (fun _ => True) (fun _ => True) [] [] none none none none none none 0 0 0 0 0 0 0 0 u ⟨hnd.ext hu, by omega, hf, by omega⟩ ⟨hnd'.ext hu, by omega, hf', by omega⟩ ⟨rfl, SlP.nil, SlP.nil, [], rfl, by simp, SlP.nil⟩ ⟨rfl, SlP.nil, SlP.nil, [], rfl, by simp, SlP.nil⟩ (by have := depth_le_size q.body; have := depth_le_size q'.body; omega) (by have := depth_le_size q.body; have := depth_le_size q'.body; omega))
  have hL0 : (0 : Int) ≤ q.free.length := by omega
  have hL1 : (q.free.length : Int) ≤ 1048576 := by omega
  have hM0 : (0 : Int) ≤ q'.free.length := by omega
  have hM1 : (q'.free.length : Int) ≤ 1048576 := by omega
  clear h h' hv hv' hnd hnd' hf hf' hn hn'
  by_cases hll : q.free.length = q'.free.length
  case neg =>
    have HF : Hid (likeQ q q' = false) := Lib.hid (by unfold likeQ; rw [decide_eq_false (fun h => hll (by rw [h])), Bool.false_and])
    have hlli : ¬ (q.free.length : Int) = q'.free.length := by omega
    have hllb : ((q.free.length : Int) == (q'.free.length : Int)) = false := by rw [beq_eq_false_iff_ne]; exact hlli
    have hllc : ((q.free.length : Int) != (q'.free.length : Int)) = true := by rw [bne, hllb]; rfl
    go_enter Tryz.func35, Tryz.ntmps35
    go_wp2_with fail
    go_ret
    rw [HF.out]
    exact ⟨rfl, ((Upto.refl [] w).alloc _).alloc _⟩
  case pos =>
  rw [← hll]
  obtain ⟨nf, hnf⟩ : ∃ nf, nf = q.free.length := ⟨_, rfl⟩
  have HNF : Hid (q.free.length = nf ∧ q'.free.length = nf) := Lib.hid ⟨hnf.symm, by rw [hnf, hll]⟩
  rw [← hnf] at hL0 hL1 ⊢
  clear hnf hll hM0 hM1 hl hl'
  obtain ⟨W, hW⟩ : ∃ W, W = (w.alloc (.cells #[.slice f1 nf f3, .int .i64 o1, .slice a1 a2 a3, .int .i64 s1, .int .i64 n1, .int .i64 m1, .slice l1 l2 l3] 50)).alloc (.cells #[.slice f1' nf f3', .int .i64 o1', .slice a1' a2' a3', .int .i64 s1', .int .i64 n1', .int .i64 m1', .slice l1' l2' l3'] 50) := ⟨_, rfl⟩
  have HU : Hid (Upto [] w W) := Lib.hid (by rw [hW]; exact ((Upto.refl [] w).alloc _).alloc _)
  have HB1 : Hid (W.heap[w.heap.size]? = some (.cells #[.slice f1 nf f3, .int .i64 o1, .slice a1 a2 a3, .int .i64 s1, .int .i64 n1, .int .i64 m1, .slice l1 l2 l3] 50 (0, 0))) := Lib.hid (by rw [hW]; exact alloc_old (new_at w _) _)
  have HB2 : Hid (W.heap[w.heap.size + 1]? = some (.cells #[.slice f1' nf f3', .int .i64 o1', .slice a1' a2' a3', .int .i64 s1', .int .i64 n1', .int .i64 m1', .slice l1' l2' l3'] 50 (0, 0))) := Lib.hid (by rw [hW]; exact new_at1 w _ _)
  obtain ⟨y0, y1, y2, y3, y4, y5, y6⟩ := cells7 HB1.out
  obtain ⟨z0, z1, z2, z3, z4, z5, z6⟩ := cells7 HB2.out
  go_enter Tryz.func35, Tryz.ntmps35
  go_wp2_with fail
  simp only [← hW]
  clear hW
  go_loopw [5] (fun k wr => ∃ i : Nat, i ≤ nf ∧ k = .int .i64 i ∧ Hid (q.free.take i = q'.free.take i) ∧ Hid (Upto [] W wr)) (fun k _ => nf - (intOf k).toNat)
  case atStart => exact ⟨0, by omega, rfl, Lib.hid rfl, Lib.hid (Upto.refl _ _)⟩
  case round =>
    obtain ⟨i, hi, rfl, HE, HUW⟩ := hrel
    have hi0 : (0 : Int) ≤ i := by omega
    have HW1 := Lib.hid (HUW.out.at HB1.out (by simp))
    have HW2 := Lib.hid (HUW.out.at HB2.out (by simp))
    have HUR := Lib.hid (HU.out.trans_ext HUW.out)
    clear y0 y1 y2 y3 y4 y5 y6 z0 z1 z2 z3 z4 z5 z6
    obtain ⟨y0, y1, y2, y3, y4, y5, y6⟩ := cells7 HW1.out
    obtain ⟨z0, z1, z2, z3, z4, z5, z6⟩ := cells7 HW2.out
    rcases Nat.lt_or_ge i nf with hlt | hge
    · have hil : (i : Int) < nf := by omega
      obtain ⟨x, hx⟩ : ∃ x, q.free[i]? = some x := ⟨_, List.getElem?_eq_getElem (by rw [HNF.out.1]; exact hlt)⟩
      obtain ⟨x', hx'⟩ : ∃ x', q'.free[i]? = some x' := ⟨_, List.getElem?_eq_getElem (by rw [HNF.out.2]; exact hlt)⟩
      obtain ⟨g, o, rfl, c0, c1⟩ := HG.out i x hx
      obtain ⟨g', o', rfl, d0, d1⟩ := HG'.out i x' hx'
      replace c0 := up_cell HUR.out c0
      replace c1 := up_cell HUR.out c1
      replace d0 := up_cell HUR.out d0
      replace d1 := up_cell HUR.out d1
      obtain ⟨xn, xs⟩ := x
      obtain ⟨yn, ys⟩ := x'
      simp only at c0 c1 d0 d1
      have HX := Lib.hid hx
      have HX' := Lib.hid hx'
      clear hx hx'
      go_wp2_with fail
      have hm9 : Tryz.prog.eqGuardType Tryz.prog.depth 90 = false := by kernel_rfl
      have hv9 := eq_var90
      by_cases hxn : xn = yn
      · subst hxn
        by_cases hxs : xs = ys
        · subst hxs
          go_quiet (fail)
          try go_wp2_with fail
          exact ⟨⟨i + 1, by omega, by simp, Lib.hid (by rw [List.take_add_one, List.take_add_one, HX.out, HX'.out, HE.out]), Lib.hid (HUW.out.drewN nq)⟩, by simp [intOf]; omega⟩
        · have HF : Hid (likeQ q q' = false) := Lib.hid (by
            unfold likeQ
            rw [decide_eq_false (fun h => by
              have h9 := HX.out
              rw [h, HX'.out, Option.some.injEq, Prod.mk.injEq] at h9
              exact hxs h9.2.symm), Bool.false_and])
          go_quiet (fail)
          try go_wp2_with fail
          go_ret
          rw [HF.out]
          exact ⟨rfl, HUR.out.drewN nq⟩
      · have HF : Hid (likeQ q q' = false) := Lib.hid (by
          unfold likeQ
          rw [decide_eq_false (fun h => by
            have h9 := HX.out
            rw [h, HX'.out, Option.some.injEq, Prod.mk.injEq] at h9
            exact hxn h9.1.symm), Bool.false_and])
        go_quiet (fail)
        try go_wp2_with fail
        go_ret
        rw [HF.out]
        exact ⟨rfl, HUR.out.drewN nq⟩
    · obtain rfl : i = nf := by omega
      have HT : Hid (likeQ q q' = likeF q.body q'.body [] []) := Lib.hid (by
        have h9 := HE.out
        rw [List.take_of_length_le (by rw [HNF.out.1]; exact Nat.le_refl _), List.take_of_length_le (by rw [HNF.out.2]; exact Nat.le_refl _)] at h9
        unfold likeQ
        rw [decide_eq_true h9, Bool.true_and])
      have HLC := Lib.hid (HLK.out wr HUR.out)
      go_wp2_with fail
      refine HLC.out.mono ?_
      rintro r w6 ⟨rfl, hu6⟩
      go_wp2_with fail
      go_ret
      rw [HT.out]
      exact ⟨rfl, HUR.out.trans_ext hu6⟩
end Go.Proofs.YtbnebkkpmcjmbaaGreatDoor


namespace Go.Proofs.YtbnebkkpmcjmbaaGreatDoor
open Go.RowKit Go.PL Go.Maps
theorem likeP_calls : ∀ (d : Nat), LpH d
  | 0 => fun a b va vb Pa Pb x y mx my u ha hb hX hY hxy hN => by
    cases a
    have := ha.deep
    simp only [depthF] at this
    omega
  | d + 1 => fun a b va vb Pa Pb x y mx my u ha hb hX hY hxy hN => by
    obtain ⟨op, nms, so, nn, mm, l⟩ := a
    obtain ⟨op', nms', so', nn', mm', l'⟩ := b
    by_cases hs : op = op' ∧ so = so' ∧ nn = nn' ∧ mm = mm' ∧ nms.length = nms'.length ∧ l.length = l'.length
    · cases hbd : bindsF op nms.length with
      | false => exact lp_plain d (likeP_calls d) op so nn mm nms l op' so' nn' mm' nms' l' va vb Pa Pb x y mx my u hs hbd ha hb hX hY hxy hN
      | true =>
        have hone := one_of _ ha.form
        unfold oneN at hone
        obtain ⟨k1, -⟩ := hone.1 hbd
        obtain ⟨p, hp⟩ := List.length_eq_one_iff.1 k1
        obtain ⟨q, hq⟩ := List.length_eq_one_iff.1 (hs.2.2.2.2.1 ▸ k1)
        exact lp_bind d (likeP_calls d) op so nn mm nms l op' so' nn' mm' nms' l' va vb Pa Pb x y mx my u hs hbd p q hp hq ha hb hX hY hxy hN
    · exact lp_diff d (likeP_calls d) op so nn mm nms l op' so' nn' mm' nms' l' va vb Pa Pb x y mx my u hs ha hb hX hY hxy hN
set_option maxRecDepth 100000 in
set_option maxHeartbeats 12800000 in
theorem eqv_calls (f g : List (List UInt8 × Int)) (a b : Option Addr) (n m c e : Nat) (w : World) (P P' : Nat → Prop) (h : VarsV w P (.slice a n c) f) (h' : VarsV w P' (.slice b m e) g) (hn : n = f.length) (hm : m = g.length) (hl : f.length ≤ 1048576) (hl' : g.length ≤ 1048576) : Calls Tryz.prog 67 #[.slice a n c, .slice b m e] w fun r w' => r = .returned (.bool (decide (f = g))) ∧ Upto [] w w' := by
  have HG := Lib.hid (vars_slice h)
  have HG' := Lib.hid (vars_slice h')
  by_cases hll : n = m
  case neg =>
    have HF : Hid (decide (f = g) = false) := Lib.hid (decide_eq_false (fun h => hll (by rw [hn, hm, h])))
    have hlli : ¬ (n : Int) = m := by omega
    have hllb : ((n : Int) == (m : Int)) = false := by rw [beq_eq_false_iff_ne]; exact hlli
    have hllc : ((n : Int) != (m : Int)) = true := by rw [bne, hllb]; rfl
    have hL0 : (0 : Int) ≤ n := by omega
    have hL1 : (n : Int) ≤ 1048576 := by omega
    have hM0 : (0 : Int) ≤ m := by omega
    have hM1 : (m : Int) ≤ 1048576 := by omega
    clear h h' hn hm hl hl'
    go_enter Tryz.func67, Tryz.ntmps67
    go_wp2_with fail
    go_ret
    rw [HF.out]
    exact ⟨rfl, Upto.refl [] w⟩
  case pos =>
  subst hll
  have HNF : Hid (f.length = n ∧ g.length = n) := Lib.hid ⟨hn.symm, hm.symm⟩
  have hL0 : (0 : Int) ≤ n := by omega
  have hL1 : (n : Int) ≤ 1048576 := by omega
  clear h h' hn hm hl hl'
  go_enter Tryz.func67, Tryz.ntmps67
  have hm9 : Tryz.prog.eqGuardType Tryz.prog.depth 86 = false := by kernel_rfl
  have hv9 := eq_var86
  go_wp2_with fail
  go_loopw [13] (fun k wr => ∃ i : Nat, i ≤ n ∧ k = .int .i64 i ∧ Hid (f.take i = g.take i) ∧ Hid (Upto [] w wr)) (fun k _ => n - (intOf k).toNat)
  case atStart => exact ⟨0, by omega, rfl, Lib.hid rfl, Lib.hid (Upto.refl _ _)⟩
  case round =>
    obtain ⟨i, hi, rfl, HE, HUR⟩ := hrel
    have hi0 : (0 : Int) ≤ i := by omega
    rcases Nat.lt_or_ge i n with hlt | hge
    · have hil : (i : Int) < n := by omega
      obtain ⟨x, hx⟩ : ∃ x, f[i]? = some x := ⟨_, List.getElem?_eq_getElem (by rw [HNF.out.1]; exact hlt)⟩
      obtain ⟨x', hx'⟩ : ∃ x', g[i]? = some x' := ⟨_, List.getElem?_eq_getElem (by rw [HNF.out.2]; exact hlt)⟩
      obtain ⟨ga, o, rfl, c0, c1⟩ := HG.out i x hx
      obtain ⟨gb, o', rfl, d0, d1⟩ := HG'.out i x' hx'
      replace c0 := up_cell HUR.out c0
      replace c1 := up_cell HUR.out c1
      replace d0 := up_cell HUR.out d0
      replace d1 := up_cell HUR.out d1
      obtain ⟨xn, xs⟩ := x
      obtain ⟨yn, ys⟩ := x'
      simp only at c0 c1 d0 d1
      have HX := Lib.hid hx
      have HX' := Lib.hid hx'
      clear hx hx'
      go_wp2_with fail
      by_cases hxn : xn = yn
      · subst hxn
        by_cases hxs : xs = ys
        · subst hxs
          go_quiet (fail)
          try go_wp2_with fail
          exact ⟨⟨i + 1, by omega, by simp, Lib.hid (by rw [List.take_add_one, List.take_add_one, HX.out, HX'.out, HE.out]), Lib.hid (HUR.out.drewN nq)⟩, by simp [intOf]; omega⟩
        · have HF : Hid (decide (f = g) = false) := Lib.hid (decide_eq_false (fun h => by
            have h9 := HX.out
            rw [h, HX'.out, Option.some.injEq, Prod.mk.injEq] at h9
            exact hxs h9.2.symm))
          go_quiet (fail)
          try go_wp2_with fail
          go_ret
          rw [HF.out]
          exact ⟨rfl, HUR.out.drewN nq⟩
      · have HF : Hid (decide (f = g) = false) := Lib.hid (decide_eq_false (fun h => by
          have h9 := HX.out
          rw [h, HX'.out, Option.some.injEq, Prod.mk.injEq] at h9
          exact hxn h9.1.symm))
        go_quiet (fail)
        try go_wp2_with fail
        go_ret
        rw [HF.out]
        exact ⟨rfl, HUR.out.drewN nq⟩
    · obtain rfl : i = n := by omega
      have HT : Hid (decide (f = g) = true) := Lib.hid (by
        have h9 := HE.out
        rw [List.take_of_length_le (by rw [HNF.out.1]; exact Nat.le_refl _), List.take_of_length_le (by rw [HNF.out.2]; exact Nat.le_refl _)] at h9
        exact decide_eq_true h9)
      go_wp2_with fail
      go_ret
      rw [HT.out]
      exact ⟨rfl, HUR.out⟩
end Go.Proofs.YtbnebkkpmcjmbaaGreatDoor


namespace Go.Proofs.YtbnebkkpmcjmbaaGreatDoor
open Go.RowKit Go.PL Go.Maps
set_option maxRecDepth 100000 in
set_option maxHeartbeats 25600000 in
theorem alpha_calls (q q' : Qn) (v v' : Value) (w : World) (P P' : Nat → Prop) (h : QnV w P q v) (h' : QnV w P' q' v') (hf : formF nameF q.body = 0) (hf' : formF nameF q'.body = 0) (hl : q.free.length ≤ 1048576) (hl' : q'.free.length ≤ 1048576) (hn : nmsF q.body + sizeF q.body + 2 ≤ 3000) (hn' : nmsF q'.body + sizeF q'.body + 2 ≤ 3000) : Calls Tryz.prog 36 #[v, v'] w fun r w' => r = .returned (.bool (likeQ q q')) ∧ Upto [] w w' := by
  obtain ⟨f1, f3, o1, a1, a2, a3, s1, m1, k1, l1, l2, l3, rfl, hv, hnd⟩ := h.open
  obtain ⟨f1', f3', o1', a1', a2', a3', s1', m1', k1', l1', l2', l3', rfl, hv', hnd'⟩ := h'.open
  have HEQ := Lib.hid (fun u (hu : Upto [] w u) => eqv_calls q.free q'.free f1 f1' _ _ f3 f3' u _ _ (hv.keep (Keep.upto hu (by simp))) (hv'.keep (Keep.upto hu (by simp))) rfl rfl hl hl')
  have HLK := Lib.hid (fun u (hu : Upto [] w u) (mx my : Nat) (hx : MapI u mx []) (hy : MapI u my []) => likeP_calls (max (depthF q.body) (depthF q'.body)) q.body q'.body _ _ P P' [] [] mx my u ⟨hnd.ext hu, by omega, hf, by omega⟩ ⟨hnd'.ext hu, by omega, hf', by omega⟩ hx hy rfl (by have := depth_le_size q.body; have := depth_le_size q'.body; simp; omega))
  obtain ⟨n1, hn1⟩ : ∃ n1, n1 = q.free.length := ⟨_, rfl⟩
  obtain ⟨n1', hn1'⟩ : ∃ n1', n1' = q'.free.length := ⟨_, rfl⟩
  rw [← hn1, ← hn1'] at HEQ ⊢
  have hmm := @run_makeMap Tryz.prog
  clear h h' hv hv' hnd hnd' hf hf' hn hn' hl hl' hn1 hn1'
  obtain ⟨W, hW⟩ : ∃ W, W = (w.alloc (.cells #[.slice f1 n1 f3, .int .i64 o1, .slice a1 a2 a3, .int .i64 s1, .int .i64 m1, .int .i64 k1, .slice l1 l2 l3] 53)).alloc (.cells #[.slice f1' n1' f3', .int .i64 o1', .slice a1' a2' a3', .int .i64 s1', .int .i64 m1', .int .i64 k1', .slice l1' l2' l3'] 53) := ⟨_, rfl⟩
  have HU : Hid (Upto [] w W) := Lib.hid (by rw [hW]; exact ((Upto.refl [] w).alloc _).alloc _)
  have HB1 : Hid (W.heap[w.heap.size]? = some (.cells #[.slice f1 n1 f3, .int .i64 o1, .slice a1 a2 a3, .int .i64 s1, .int .i64 m1, .int .i64 k1, .slice l1 l2 l3] 53 (0, 0))) := Lib.hid (by rw [hW]; exact alloc_old (new_at w _) _)
  have HB2 : Hid (W.heap[w.heap.size + 1]? = some (.cells #[.slice f1' n1' f3', .int .i64 o1', .slice a1' a2' a3', .int .i64 s1', .int .i64 m1', .int .i64 k1', .slice l1' l2' l3'] 53 (0, 0))) := Lib.hid (by rw [hW]; exact new_at1 w _ _)
  obtain ⟨y0, y1, y2, y3, y4, y5, y6⟩ := cells7 HB1.out
  obtain ⟨z0, z1, z2, z3, z4, z5, z6⟩ := cells7 HB2.out
  go_enter Tryz.func36, Tryz.ntmps36
  go_wp2_with fail
  simp only [← hW]
  clear hW
  refine (HEQ.out _ HU.out).mono ?_
  rintro r w2 ⟨rfl, hu2⟩
  have HU2 := Lib.hid (HU.out.trans_ext hu2)
  have HC1 := Lib.hid (hu2.at HB1.out (by simp))
  have HC2 := Lib.hid (hu2.at HB2.out (by simp))
  clear hu2 y0 y1 y2 y3 y4 y5 y6 z0 z1 z2 z3 z4 z5 z6
  obtain ⟨y0, y1, y2, y3, y4, y5, y6⟩ := cells7 HC1.out
  obtain ⟨z0, z1, z2, z3, z4, z5, z6⟩ := cells7 HC2.out
  by_cases hfe : q.free = q'.free
  case neg =>
    have HF : Hid (likeQ q q' = false) := Lib.hid (by unfold likeQ; rw [decide_eq_false hfe, Bool.false_and])
    simp only [decide_eq_false hfe]
    clear hfe
    go_wp2_with fail
    go_ret
    rw [HF.out]
    exact ⟨rfl, HU2.out⟩
  case pos =>
  have HT : Hid (likeQ q q' = likeF q.body q'.body [] []) := Lib.hid (by unfold likeQ; rw [decide_eq_true hfe, Bool.true_and])
  simp only [decide_eq_true hfe]
  clear hfe
  go_wp2_with fail
  have HU3 : Hid (Upto [] w ((w2.alloc (.map #[] 0)).alloc (.map #[] 0))) := Lib.hid ((HU2.out.alloc _).alloc _)
  refine (HLK.out _ HU3.out w2.heap.size (w2.heap.size + 1) ((MapI.nil w2).upto ((Upto.refl [] _).alloc _) (by simp)) ⟨#[], 0, new_at1 w2 _ _, ⟨by simp [MapKept.Stamped], by simp, fun y h => by simp [findF] at h, Nat.le_refl _⟩⟩).mono ?_
  rintro r w6 ⟨rfl, hu6⟩
  go_wp2_with fail
  go_ret
  rw [HT.out]
  exact ⟨rfl, HU3.out.trans_ext hu6⟩
end Go.Proofs.YtbnebkkpmcjmbaaGreatDoor


namespace Go.Proofs.YtbnebkkpmcjmbaaGreatDoor
open Go.RowKit Go.PL Go.Maps
theorem alloc_size1 (w : World) (o : Obj) : (w.alloc o).heap.size = w.heap.size + 1 := by
  show (w.heap.push o).size = _
  simp
/-- a box that holds a list of texts in a block of its own -/
structure TkB (w : World) (B : Nat) (a : Option Addr) (n c : Nat) (tk : List (List UInt8)) : Prop where
  box : w.heap[B]? = some (.cells #[.slice a n c] 22 (0, 0))
  row : w.ownsRow 0 9 1 (.slice a n c) n (tk.map sV)
  len : tk.length = n
theorem TkB.upto {S : List Nat} {w w' : World} {B : Nat} {a : Option Addr} {n c : Nat} {tk : List (List UInt8)} (h : TkB w B a n c tk) (hu : Upto S w w') (h1 : B ∉ S) (h2 : ∀ q, (Value.slice a n c).ownBlock = some q → q ∉ S) : TkB w' B a n c tk := ⟨hu.at h.box h1, ownsRow_upto h.row hu h2, h.len⟩
theorem TkB.ext {w w' : World} {B : Nat} {a : Option Addr} {n c : Nat} {tk : List (List UInt8)} (h : TkB w B a n c tk) (hu : Upto [] w w') : TkB w' B a n c tk := h.upto hu (by simp) (by simp)
theorem TkB.lt {w : World} {B : Nat} {a : Option Addr} {n c : Nat} {tk : List (List UInt8)} (h : TkB w B a n c tk) : B < w.heap.size ∧ ∀ q, (Value.slice a n c).ownBlock = some q → q < w.heap.size ∧ q ≠ B := ⟨lt_of_heap h.box, fun q hq => by
  obtain ⟨cur, hh⟩ := ownsRow_block h.row hq
  refine ⟨lt_of_heap hh, fun e => ?_⟩
  rw [e, h.box] at hh
  injection hh with hh
  injection hh with _ h2
  cases h2⟩
/-- what renaming all binders may write: the tree, the box, the row in it -/
def Sq (lo hi B : Nat) (sv : Value) : List Nat := Rg lo hi ++ B :: sv.ownBlock.toList
theorem mem_sq {lo hi B b : Nat} {sv : Value} : b ∈ Sq lo hi B sv ↔ (lo ≤ b ∧ b < hi) ∨ b = B ∨ sv.ownBlock = some b := by
  unfold Sq
  rw [List.mem_append, mem_rg, List.mem_cons, Option.mem_toList]
theorem TkB.off {w : World} {lo hi B : Nat} {a : Option Addr} {n c : Nat} {tk : List (List UInt8)} (h : TkB w B a n c tk) {b : Nat} {cs : Array Value} {z : Nat × Nat} (hb : w.heap[b]? = some (.cells cs 30 z)) (ho : b < lo ∨ hi ≤ b) : b ∉ Sq lo hi B (.slice a n c) := fun hm => by
  rw [mem_sq] at hm
  rcases hm with hm | hm | hm
  · omega
  · rw [hm, h.box] at hb
    injection hb with hb
    injection hb with _ h2
    cases h2
  · obtain ⟨cur, hh⟩ := ownsRow_block h.row hm
    rw [hh] at hb
    injection hb with hb
    injection hb with _ h2
    cases h2
/-- where things lie -/
structure AqAt (w0 w : World) (lo hi : Nat) (e : EnvL) (mb : Nat) (tk : List (List UInt8)) (B : Nat) (a : Option Addr) (n c : Nat) : Prop where
  hiw : hi ≤ w.heap.size
  low : w0.heap.size ≤ lo
  up : Upto [] w0 w
  env : EnvM w mb e
  mo : mb < lo ∨ hi ≤ mb
  tk : TkB w B a n c tk
  bo : (B < lo ∨ hi ≤ B) ∧ w0.heap.size ≤ B
  so : ∀ q, (Value.slice a n c).ownBlock = some q → (q < lo ∨ hi ≤ q) ∧ w0.heap.size ≤ q
theorem AqAt.ext {w0 w w' : World} {lo hi : Nat} {e : EnvL} {mb : Nat} {tk : List (List UInt8)} {B : Nat} {a : Option Addr} {n c : Nat} (h : AqAt w0 w lo hi e mb tk B a n c) (hu : Upto [] w w') : AqAt w0 w' lo hi e mb tk B a n c :=
  ⟨Nat.le_trans h.hiw hu.size, h.low, h.up.trans_ext hu, h.env.upto hu (by simp), h.mo, h.tk.ext hu, h.bo, h.so⟩
/-- what is said of the formula -/
structure AqOk (d : Nat) (x : Nd) (e : EnvL) (tk : List (List UInt8)) : Prop where
  deep : depthF x ≤ d
  form : formF nameF x = 0
  few : nmsF x + sizeF x + 2 ≤ 8000
  room : tk.length + sizeF x ≤ 8000
  names : ∀ p ∈ e, nameF p.2 = true
def AqPost (lo hi : Nat) (v : Value) (r : Nd × List (List UInt8)) (B : Nat) (sv : Value) (w : World) (e : Ending) (w' : World) : Prop :=
  e = .returned v ∧ OwT w' r.1 v lo hi ∧ (∃ a n c, TkB w' B a n c r.2 ∧ ∀ q, (Value.slice a n c).ownBlock = some q → sv.ownBlock = some q ∨ w.heap.size ≤ q) ∧ Upto (Sq lo hi B sv) w w'
/-- the induction's hypothesis -/
def AqH (w0 : World) (d : Nat) : Prop := ∀ (x : Nd) (v : Value) (lo hi : Nat) (e : EnvL) (mb : Nat) (tk : List (List UInt8)) (B : Nat) (a : Option Addr) (n c : Nat) (u : World), OwT u x v lo hi → AqOk d x e tk → AqAt w0 u lo hi e mb tk B a n c →
  Calls Tryz.prog 64 #[v, .map (some mb), .pointer (some ⟨B, 0, none⟩)] u (AqPost lo hi v (apN x e tk) B (.slice a n c) u)
/-- between the operands, i of them renamed; w5: the world ahead of the loop -/
structure KA (w5 : World) (l : List Nd) (E : EnvL) (T : List (List UInt8)) (a2 : Option Addr) (cs : Array Value) (o g m hi B : Nat) (sv5 : Value) (i : Nat) (wr : World) : Prop where
  kd : l = [] ∨ (a2 = some ⟨g, o, none⟩ ∧ m ≤ g ∧ g < hi ∧ OwTs wr ((apL (l.take i) E T).1 ++ l.drop i) cs o g m hi ∧ ∃ t, wr.heap[g]? = some (.cells cs t (0, 0)))
  up : Upto (Sq m hi B sv5) w5 wr
  tk : ∃ a n c, TkB wr B a n c (apL (l.take i) E T).2 ∧ ∀ q, (Value.slice a n c).ownBlock = some q → sv5.ownBlock = some q ∨ w5.heap.size ≤ q
theorem KA.start {w5 : World} {l : List Nd} {E : EnvL} {T : List (List UInt8)} {a2 : Option Addr} {cs : Array Value} {o g m hi B : Nat} {a : Option Addr} {n c : Nat} (hK : KdsT w5 l a2 cs o g m hi) (ht : TkB w5 B a n c T) : KA w5 l E T a2 cs o g m hi B (.slice a n c) 0 w5 := by
  refine ⟨?_, Upto.refl _ _, ?_⟩
  · rcases hK with h | ⟨h1, h2, h3, h4, h5⟩
    · exact Or.inl h
    · refine Or.inr ⟨h1, h3, h4, ?_, h2⟩
      rw [List.take_zero]
      unfold apL
      simpa using h5
  · rw [List.take_zero]
    unfold apL
    exact ⟨a, n, c, ht, fun q hq => Or.inl hq⟩
theorem KA.step {w0 w5 wr : World} {d : Nat} {l : List Nd} {E : EnvL} {T : List (List UInt8)} {a2 : Option Addr} {cs : Array Value} {o g m hi B mb i : Nat} {a : Option Addr} {n c : Nat} {x : Nd} (h : KA w5 l E T a2 cs o g m hi B (.slice a n c) i wr) (hx : l[i]? = some x)
    (hA : AqAt w0 w5 m hi E mb T B a n c) (hd : depthF x ≤ d) (h1 : formF nameF x = 0) (h3 : nmsF x + sizeF x + 2 ≤ 8000) (hf : formsF nameF l = 0) (hr : T.length + sizesF l ≤ 8000) (hn : ∀ p ∈ E, nameF p.2 = true) :
    ∃ v0 v1 v2 v3 v4 v5 k q a' n' c', a2 = some ⟨g, o, none⟩ ∧ m ≤ g ∧ g < hi ∧ (∃ t, wr.heap[g]? = some (.cells cs t (0, 0))) ∧ Six cs (o + i * 6) v0 v1 v2 v3 v4 v5 ∧ m ≤ k ∧ q ≤ hi ∧ (g < k ∨ q ≤ g) ∧ OwT wr x (.agg #[v0, v1, v2, v3, v4, v5]) k q ∧ AqOk d x E (apL (l.take i) E T).2 ∧ AqAt w0 wr k q E mb (apL (l.take i) E T).2 B a' n' c' ∧
      ∀ u w', Upto [] wr u → AqPost k q (.agg #[v0, v1, v2, v3, v4, v5]) (apN x E (apL (l.take i) E T).2) B (.slice a' n' c') u (.returned (.agg #[v0, v1, v2, v3, v4, v5])) w' → KA w5 l E T a2 cs o g m hi B (.slice a n c) (i + 1) w' ∧ ∃ t, w'.heap[g]? = some (.cells cs t (0, 0)) := by
  have hil := (List.getElem?_eq_some_iff.1 hx).1
  rcases h.kd with h0 | ⟨k1, k2, k3, k4, t, k5⟩
  · rw [h0] at hil
    simp at hil
  have hdr : l.drop i = x :: l.drop (i + 1) := by
    obtain ⟨hi2, rfl⟩ := List.getElem?_eq_some_iff.1 hx
    exact List.drop_eq_getElem_cons hi2
  have hln : (apL (l.take i) E T).1.length = i := by rw [apL_len, List.length_take]; omega
  have hxi : ((apL (l.take i) E T).1 ++ l.drop i)[i]? = some x := by
    rw [List.getElem?_append_right (by omega), hln, hdr, Nat.sub_self]
    rfl
  obtain ⟨v0, v1, v2, v3, v4, v5, k, q, c0, c1, c2, c3, c4, c5, i1, i2, i3, i4, i5, i6⟩ := OwTs.at _ cs o g m hi i x k4 hxi
  obtain ⟨a', n', c', t1, t2⟩ := h.tk
  have hsz := h.up.size
  have hwr : hi ≤ wr.heap.size := Nat.le_trans hA.hiw hsz
  have hso : ∀ b, (Value.slice a' n' c').ownBlock = some b → (b < m ∨ hi ≤ b) ∧ w0.heap.size ≤ b := fun b hb => by
    rcases t2 b hb with h2 | h2
    · exact hA.so b h2
    · have := hA.hiw; have := hA.up.size; exact ⟨Or.inr (by omega), by omega⟩
  have hmb : mb ∉ Sq m hi B (.slice a n c) := fun hm => by
    rw [mem_sq] at hm
    rcases hm with hm | hm | hm
    · have := hA.mo; omega
    · exact hA.env.ne hA.tk.box hm
    · obtain ⟨cur, hh⟩ := ownsRow_block hA.tk.row hm
      exact hA.env.ne hh rfl
  refine ⟨v0, v1, v2, v3, v4, v5, k, q, a', n', c', k1, k2, k3, ⟨t, k5⟩, (by rw [Nat.mul_comm]; exact ⟨c0, c1, c2, c3, c4, c5⟩), i1, i3, i4, i5, ⟨hd, h1, h3, apL_room hx hf hn hr, hn⟩,
    ⟨by omega, by have := hA.low; omega, hA.up.trans h.up (fun b hb => Or.inr ?_), hA.env.upto h.up hmb, by have := hA.mo; omega, t1, ⟨by have := hA.bo.1; omega, hA.bo.2⟩, fun b hb => ⟨by have := (hso b hb).1; omega, (hso b hb).2⟩⟩, fun u w' hu hp => ?_⟩
  · rw [mem_sq] at hb
    rcases hb with hb | hb | hb
    · have := hA.low; omega
    · rw [hb]; exact hA.bo.2
    · exact (hA.so b hb).2
  · obtain ⟨-, p1, ⟨a'', n'', c'', p2, p3⟩, p4⟩ := hp
    have hus := hu.size
    have hsame : Upto (Sq k q B (.slice a' n' c')) wr w' := (hu.mono (S := []) (by simp)).trans_same p4
    have hsub : ∀ b ∈ Sq k q B (.slice a' n' c'), b ∈ Sq m hi B (.slice a n c) ∨ w5.heap.size ≤ b := fun b hb => by
      rw [mem_sq] at hb ⊢
      rcases hb with hb | hb | hb
      · exact Or.inl (Or.inl (by omega))
      · exact Or.inl (Or.inr (Or.inl hb))
      · rcases t2 b hb with h2 | h2
        · exact Or.inl (Or.inr (Or.inr h2))
        · exact Or.inr h2
    have hoff : ∀ b, m ≤ b → b < hi → (b < k ∨ q ≤ b) → b ∉ Sq k q B (.slice a' n' c') := fun b hb1 hb2 hb3 hm => by
      rw [mem_sq] at hm
      rcases hm with hm | hm | hm
      · omega
      · have := hA.bo.1; omega
      · have := (hso b hm).1; omega
    have hat : ∃ t, w'.heap[g]? = some (.cells cs t (0, 0)) := ⟨t, hsame.at k5 (hoff g k2 k3 i4)⟩
    have hup : Upto (Sq m hi B (.slice a n c)) w5 w' := h.up.trans hsame hsub
    refine ⟨⟨Or.inr ⟨k1, k2, k3, ?_, hat⟩, hup, ?_⟩, hat⟩
    · rw [apL_take hx, List.append_assoc, List.singleton_append]
      have hset : ((apL (l.take i) E T).1 ++ l.drop i).set i (apN x E (apL (l.take i) E T).2).1 = (apL (l.take i) E T).1 ++ (apN x E (apL (l.take i) E T).2).1 :: l.drop (i + 1) := by
        rw [List.set_append_right _ _ (by omega), hln, hdr, Nat.sub_self]
        rfl
      rw [← hset]
      exact i6 w' _ p1 (fun b hb hb2 hb3 => hsame.block b (by omega) (hoff b hb hb2 hb3))
    · rw [apL_take hx]
      refine ⟨a'', n'', c'', p2, fun b hb => ?_⟩
      rcases p3 b hb with h2 | h2
      · exact t2 b h2
      · exact Or.inr (by omega)
end Go.Proofs.YtbnebkkpmcjmbaaGreatDoor


namespace Go.Proofs.YtbnebkkpmcjmbaaGreatDoor
open Go.RowKit Go.PL Go.Maps
set_option maxRecDepth 100000 in
set_option maxHeartbeats 25600000 in
theorem aq_plain_calls (w0 : World) (d : Nat) (IH : AqH w0 d) (op so nn mm : Int) (nms : List (List UInt8)) (l : List Nd) (v : Value) (lo hi : Nat) (e : EnvL) (mb : Nat) (tk : List (List UInt8)) (B : Nat) (ta : Option Addr) (tn tc : Nat) (w : World)
    (hb : bindsF op nms.length = false) (hown : OwT w (.mk op nms so nn mm l) v lo hi) (hok : AqOk (d + 1) (.mk op nms so nn mm l) e tk) (hat : AqAt w0 w lo hi e mb tk B ta tn tc) :
    Calls Tryz.prog 64 #[v, .map (some mb), .pointer (some ⟨B, 0, none⟩)] w (AqPost lo hi v (apN (.mk op nms so nn mm l) e tk) B (.slice ta tn tc) w) := by
  have HGO : Hid (apN (.mk op nms so nn mm l) e tk = (.mk op (rnUses op (lookE e) nms) so nn mm (apL l e tk).1, (apL l e tk).2)) := Lib.hid (by
    unfold apN
    rw [if_neg (by rw [hb]; simp)])
  have HKD : Hid (∀ x ∈ l, depthF x ≤ d ∧ formF nameF x = 0 ∧ nmsF x + sizeF x + 2 ≤ 8000) := Lib.hid (fun x hx => ⟨by
    have h1 := depths_mem hx
    have h2 := hok.deep
    simp only [depthF] at h2
    omega, forms_iff.1 (form_iff.1 hok.form).2.2.2.2.2 x hx, by
    have h1 := nmss_mem hx
    have h2 := sizesF_mem hx
    have h3 := hok.few
    simp only [nmsF, sizeF] at h3
    omega⟩)
  have HFS : Hid (formsF nameF l = 0) := Lib.hid (form_iff.1 hok.form).2.2.2.2.2
  have HRM : Hid (tk.length + (sizesF l + 1) ≤ 8000 ∧ ∀ p ∈ e, nameF p.2 = true) := Lib.hid ⟨by have h3 := hok.room; simp only [sizeF] at h3; omega, hok.names⟩
  have HNL : Hid (∀ x ∈ nms, x.length ≤ maxLen) := Lib.hid (fun x hx => by
    have h1 := List.all_eq_true.1 (form_iff.1 hok.form).2.2.1 x hx
    have := name_len h1
    unfold maxLen
    omega)
  obtain ⟨a1, c1, a2, c2, m, cs, o, g, rfl, hm1, hm2, hN, hK⟩ := hown.parts
  have hsl : ∀ u, NmT u nms (.slice a1 nms.length c1) lo m → SlP u (fun _ => True) (.slice a1 nms.length c1) nms.length (nms.map sV) := fun u hu => by simpa using NmT.slp hu
  have hln : nms.length ≤ 8000 := by have h3 := hok.few; simp only [nmsF] at h3; omega
  have hll : l.length ≤ 8000 := by have h1 := sizes_len l; have h3 := hok.few; simp only [sizeF] at h3; omega
  have hgd := (good_of _ hok.form).1
  unfold goodN at hgd
  have HUS : Hid (∀ u, NmT u nms (.slice a1 nms.length c1) lo m → Calls Tryz.prog 74 #[.agg #[.int .i64 op, .slice a1 nms.length c1, .int .i64 so, .int .i64 nn, .int .i64 mm, .slice a2 l.length c2]] u (UsA op nms a1 u)) := Lib.hid (fun u hu => usesA_calls (fun _ => True) op nms a1 c1 so nn mm a2 l.length c2 u (fun h10 => hgd.1 (Or.inl h10)) (hsl u hu) (by omega))
  have HBI : Hid (∀ u, Calls Tryz.prog 57 #[.agg #[.int .i64 op, .slice a1 nms.length c1, .int .i64 so, .int .i64 nn, .int .i64 mm, .slice a2 l.length c2]] u fun e w' => e = .returned (.bool false) ∧ Upto [] u w') := Lib.hid (fun u => by
    have := binds_calls op a1 nms.length c1 so nn mm a2 l.length c2 u
    rw [hb] at this
    exact this)
  have HUL : Hid ((usesF op nms).length ≤ 8000) := Lib.hid (by
    have h1 : (usesF op nms).length ≤ nms.length := by
      unfold usesF
      split
      · simp
      · split <;> simp
    omega)
  have HLT : Hid (hi ≤ w.heap.size ∧ lo ≤ m ∧ m ≤ hi) := Lib.hid ⟨hat.hiw, hm1, hm2⟩
  have IHH := Lib.hid IH
  have HAT := Lib.hid hat
  obtain ⟨n1, hn1⟩ : ∃ n1, n1 = nms.length := ⟨_, rfl⟩
  obtain ⟨n2, hn2⟩ : ∃ n2, n2 = l.length := ⟨_, rfl⟩
  have HL1 : Hid (nms.length = n1) := Lib.hid hn1.symm
  have HL2 : Hid (l.length = n2 ∧ n2 ≤ 8000) := Lib.hid ⟨hn2.symm, by omega⟩
  rw [← hn1] at HUS HBI hN hsl ⊢
  rw [← hn2] at HUS HBI ⊢
  clear hsl hln hll hb hok hat hown hm1 hm2 hgd hn1 hn2 IH
  obtain ⟨W, hW⟩ : ∃ W, W = (w.alloc (.cells #[.int .i64 op, .slice a1 n1 c1, .int .i64 so, .int .i64 nn, .int .i64 mm, .slice a2 n2 c2] 30)).alloc (.cells #[.int .i64 0, .slice none 0 0, .int .i64 0, .int .i64 0, .int .i64 0, .slice none 0 0] 30) := ⟨_, rfl⟩
  have HU : Hid (Upto [] w W) := Lib.hid (by rw [hW]; exact ((Upto.refl [] w).alloc _).alloc _)
  have HB1 : Hid (W.heap[w.heap.size]? = some (.cells #[.int .i64 op, .slice a1 n1 c1, .int .i64 so, .int .i64 nn, .int .i64 mm, .slice a2 n2 c2] 30 (0, 0))) := Lib.hid (by rw [hW]; exact alloc_old (new_at w _) _)
  have HB2 : Hid (W.heap[w.heap.size + 1]? = some (.cells #[.int .i64 0, .slice none 0 0, .int .i64 0, .int .i64 0, .int .i64 0, .slice none 0 0] 30 (0, 0))) := Lib.hid (by rw [hW]; exact new_at1 w _ _)
  have HN0 := Lib.hid (hN.same (SameIn.upto HU.out (by have := HLT.out; omega) (by simp)))
  have HK0 := Lib.hid (hK.same (SameIn.upto HU.out (by have := HLT.out; omega) (by simp)))
  have HA0 := Lib.hid (HAT.out.ext HU.out)
  clear hN hK
  obtain ⟨x0, x1, x2, x3, x4, x5⟩ := cells6 HB1.out
  go_enter Tryz.func64, Tryz.ntmps64
  go_wp2_with fail
  simp only [← hW]
  clear hW
  try go_wp2_with fail
  refine (HUS.out _ HN0.out).mono ?_
  rintro r w3 ⟨vu, rfl, hu3, hv3⟩
  have HC3 := Lib.hid (hu3.at HB1.out (by simp))
  have HZ3 := Lib.hid (hu3.at HB2.out (by simp))
  have HU3 := Lib.hid (HU.out.trans_ext hu3)
  have HN3 := Lib.hid (HN0.out.same (SameIn.upto hu3 (by have := HLT.out; have := HU.out.size; omega) (by simp)))
  have HK3 := Lib.hid (HK0.out.same (SameIn.upto hu3 (by have := HLT.out; have := HU.out.size; omega) (by simp)))
  have HA3 := Lib.hid (HA0.out.ext hu3)
  obtain ⟨ua, N, uc, HV, rfl⟩ : ∃ (ua : Option Addr) (N uc : Nat), Hid (N = (usesF op nms).length ∧ (N = 0 ∨ ∃ g o, ua = some ⟨g, o + (if op = 10 then 1 else 0), none⟩ ∧ a1 = some ⟨g, o, none⟩ ∧ N + (if op = 10 then 1 else 0) = n1 ∧ N ≤ uc)) ∧ vu = .slice ua N uc := by
    rcases hv3 with ⟨h1, a, c, rfl⟩ | ⟨g, o, c, k, rfl, h2, rfl, h3, h4⟩
    · exact ⟨a, 0, c, Lib.hid ⟨by rw [h1]; rfl, Or.inl rfl⟩, rfl⟩
    · exact ⟨_, _, c, Lib.hid ⟨rfl, Or.inr ⟨g, o, rfl, h2, by rw [h3]; exact HL1.out, h4⟩⟩, rfl⟩
  have HNB : Hid (N ≤ 8000) := Lib.hid (by
    have h1 := HV.out.1
    have h2 := HUL.out
    omega)
  have HMB : Hid (mb ∉ Rg lo m) := Lib.hid (fun hm => by rw [mem_rg] at hm; have := HAT.out.mo; have := HLT.out; omega)
  clear hu3 hv3 x0 x1 x2 x3 x4 x5 HN0 HK0 HA0
  have hNB := HNB.out
  have hNI : (N : Int) ≤ 8000 := by omega
  obtain ⟨x0, x1, x2, x3, x4, x5⟩ := cells6 HC3.out
  go_wp2_with fail
  go_loopw [19] (fun v wr => ∃ j : Nat, j ≤ N ∧ v = .int .i64 j ∧ Hid (NI w3 (lookE e) (if op = 10 then 1 else 0) nms a1 c1 lo m j wr)) (fun v _ => N - (intOf v).toNat)
  case atStart => exact ⟨0, by omega, rfl, Lib.hid (NI.start (by rw [HL1.out]; exact HN3.out))⟩
  case round =>
    obtain ⟨j, hj, rfl, HI⟩ := hrel
    have hj0 : (0 : Int) ≤ j := by omega
    rcases Nat.lt_or_ge j N with hlt | hge
    · have hjl : (j : Int) < N := by omega
      obtain ⟨g9, o9, hua, ha1, hNl, huc⟩ : ∃ g o, ua = some ⟨g, o + (if op = 10 then 1 else 0), none⟩ ∧ a1 = some ⟨g, o, none⟩ ∧ N + (if op = 10 then 1 else 0) = n1 ∧ N ≤ uc := HV.out.2.resolve_left (by omega)
      obtain ⟨x, hx⟩ : ∃ x, nms[(if op = 10 then 1 else 0) + j]? = some x := ⟨nms[(if op = 10 then 1 else 0) + j]'(by rw [HL1.out]; omega), List.getElem?_eq_getElem _⟩
      have hlk := (HA3.out.env.upto HI.out.up HMB.out).look x (HNL.out x (List.mem_of_getElem? hx))
      subst hua
      have HA1 := Lib.hid ha1
      replace HI : Hid (NI w3 (lookE e) (if op = 10 then 1 else 0) nms (some ⟨g9, o9, none⟩) c1 lo m j wr) := Lib.hid (by rw [← ha1]; exact HI.out)
      have HX := Lib.hid hx
      obtain ⟨q0, q1⟩ := HI.out.at hx
      clear ha1 hx
      generalize hgk : (if op = 10 then 1 else 0) = k9 at *
      clear hgk x0 x1 x2 x3 x4 x5
      unfold sV at q0
      rcases hlk with ⟨hl1, hl2⟩ | hl1
      · have HI2 := Lib.hid (HI.out.stay HX.out hl2)
        clear hl2
        go_wp2_with fail
        exact ⟨⟨j + 1, by omega, by simp, Lib.hid (by rw [HA1.out]; exact HI2.out)⟩, by simp [intOf]; omega⟩
      · have HI2 := Lib.hid (HI.out.put (y := lookE e x) HX.out rfl)
        generalize lookE e x = y at *
        go_wp2_with fail
        exact ⟨⟨j + 1, by omega, by simp, Lib.hid (by rw [HA1.out]; exact HI2.out)⟩, by simp [intOf]; omega⟩
    · obtain rfl : j = N := by omega
      have HJN0 : Hid (NmT wr (rnUses op (lookE e) nms) (.slice a1 n1 c1) lo m) := Lib.hid (by
        have h1 := HI.out.nm
        have h2 := HV.out.1
        rw [HL1.out] at h1
        rcases Nat.eq_zero_or_pos j with h0 | h0
        · rw [h0, mapAt_zero] at h1
          rw [rnUses_none (List.eq_nil_of_length_eq_zero (by omega))]
          exact h1
        · rw [h2, mapAt_uses rfl (by omega)] at h1
          exact h1)
      have hsub : ∀ b ∈ Rg lo m, b ∈ Sq lo hi B (.slice ta tn tc) := fun b hb => by rw [mem_rg] at hb; rw [mem_sq]; have := HLT.out; exact Or.inl (by omega)
      have HUP : Hid (Upto (Rg lo m) w3 wr) := Lib.hid HI.out.up
      have HOF : Hid (∀ b, (b < lo ∨ hi ≤ b) → b ∉ Rg lo m) := Lib.hid (fun b hb hm => by rw [mem_rg] at hm; have := HLT.out; omega)
      have HUW0 : Hid (Upto (Sq lo hi B (.slice ta tn tc)) w wr) := Lib.hid ((HU3.out.mono (S := []) (by simp)).trans_same (HUP.out.mono hsub))
      have HCR := Lib.hid (HUP.out.at HC3.out (HOF.out _ (Or.inr (by have := HLT.out; omega))))
      have HZR := Lib.hid (HUP.out.at HZ3.out (HOF.out _ (Or.inr (by have := HLT.out; omega))))
      have HKR := Lib.hid (HK3.out.same (SameIn.upto HUP.out (by have := HLT.out; have := HU3.out.size; omega) (fun b hb => by rw [mem_rg] at hb; exact Or.inl hb.2)))
      have HAR : Hid (AqAt w0 wr m hi e mb tk B ta tn tc) := Lib.hid ⟨by have := HLT.out; have := HU3.out.size; have := HUP.out.size; omega, by have := HA3.out.low; have := HLT.out; omega, HA3.out.up.trans HUP.out (fun b hb => Or.inr (by rw [mem_rg] at hb; have := HA3.out.low; omega)), HA3.out.env.upto HUP.out HMB.out, by have := HA3.out.mo; have := HLT.out; omega, HA3.out.tk.upto HUP.out (HOF.out _ HA3.out.bo.1) (fun q hq => HOF.out _ (HA3.out.so q hq).1), ⟨by have := HA3.out.bo.1; have := HLT.out; omega, HA3.out.bo.2⟩, fun q hq => ⟨by have := (HA3.out.so q hq).1; have := HLT.out; omega, (HA3.out.so q hq).2⟩⟩
      clear hsub x0 x1 x2 x3 x4 x5
      obtain ⟨x0, x1, x2, x3, x4, x5⟩ := cells6 HCR.out
      go_wp2_with fail
      refine (HBI.out _).mono ?_
      rintro r w5 ⟨rfl, hu5⟩
      have HC4 := Lib.hid (hu5.at HCR.out (by simp))
      have HZ4 := Lib.hid (hu5.at HZR.out (by simp))
      have HUW := Lib.hid (HUW0.out.trans_ext hu5)
      have HJN := Lib.hid (HJN0.out.same (SameIn.upto hu5 (by have := HLT.out; have := HUW0.out.size; omega) (by simp)))
      have HK4 := Lib.hid (HKR.out.same (SameIn.upto hu5 (by have := HLT.out; have := HUW0.out.size; omega) (by simp)))
      have HA4 := Lib.hid (HAR.out.ext hu5)
      have HOW : Hid (∀ q, (Value.slice ta tn tc).ownBlock = some q → (Value.slice ta tn tc).ownBlock = some q ∨ w.heap.size ≤ q) := Lib.hid (fun q hq => Or.inl hq)
      have HNL2 : Hid ((rnUses op (lookE e) nms).length = n1) := Lib.hid (by rw [rnUses_len]; exact HL1.out)
      have HRQ : Hid (tk.length + sizesF l ≤ 8000 ∧ ∀ p ∈ e, nameF p.2 = true) := Lib.hid ⟨by have := HRM.out.1; omega, HRM.out.2⟩
      clear hu5 x0 x1 x2 x3 x4 x5
      obtain ⟨x0, x1, x2, x3, x4, x5⟩ := cells6 HC4.out
      try go_wp2_with fail
      have hn2 := HL2.out.2
      have hn2I : (n2 : Int) ≤ 8000 := by omega
      go_loopw [69] (fun v wr => ∃ i : Nat, i ≤ n2 ∧ v = .int .i64 i ∧ Hid (KA w5 l e tk a2 cs o g m hi B (.slice ta tn tc) i wr)) (fun v _ => n2 - (intOf v).toNat)
      case atStart => exact ⟨0, by omega, rfl, Lib.hid (KA.start HK4.out HA4.out.tk)⟩
      case round =>
        obtain ⟨i, hi9, rfl, HKI⟩ := hrel
        have hi0 : (0 : Int) ≤ i := by omega
        have HOC : Hid (w.heap.size ∉ Sq m hi B (.slice ta tn tc) ∧ w.heap.size + 1 ∉ Sq m hi B (.slice ta tn tc)) := Lib.hid ⟨HA4.out.tk.off HC4.out (Or.inr (by have := HLT.out; omega)), HA4.out.tk.off HZ4.out (Or.inr (by have := HLT.out; omega))⟩
        have HC5 := Lib.hid (HKI.out.up.at HC4.out HOC.out.1)
        have HZ5 := Lib.hid (HKI.out.up.at HZ4.out HOC.out.2)
        clear x0 x1 x2 x3 x4 x5
        obtain ⟨x0, x1, x2, x3, x4, x5⟩ := cells6 HC5.out
        rcases Nat.lt_or_ge i n2 with hil | hig
        · have hilI : (i : Int) < n2 := by omega
          obtain ⟨x, hx⟩ : ∃ x, l[i]? = some x := ⟨l[i]'(by rw [HL2.out.1]; omega), List.getElem?_eq_getElem _⟩
          have hxm := HKD.out x (List.mem_of_getElem? hx)
          obtain ⟨v0, v1, v2, v3, v4, v5, k, q, ta6, tn6, tc6, ha2, hmg, hgh, ⟨t9, ht9⟩, hsix, hk1, hk2, hk3, hox, hokx, hatx, hout⟩ := HKI.out.step (d := d) hx HA4.out hxm.1 hxm.2.1 hxm.2.2 HFS.out HRQ.out.1 HRQ.out.2
          have HIN := Lib.hid (And.intro hox (And.intro hokx hatx))
          have HOUT := Lib.hid hout
          have HMG := Lib.hid (And.intro hmg hgh)
          obtain ⟨qo, b1, q1, e1, qs, qn, qm, b2, q2, e2, heq⟩ := (hox.ndv _ _ _ _).six
          obtain ⟨rfl, rfl, rfl, rfl, rfl, rfl⟩ : v0 = .int .i64 qo ∧ v1 = .slice b1 q1 e1 ∧ v2 = .int .i64 qs ∧ v3 = .int .i64 qn ∧ v4 = .int .i64 qm ∧ v5 = .slice b2 q2 e2 := by simpa using heq
          have HSX := Lib.hid hsix
          obtain ⟨l0, l1, l2, l3, l4, l5⟩ := hsix.cells ht9
          clear heq hx hxm hout hsix ht9 hox hokx hatx hmg hgh
          subst ha2
          go_wp2_with fail
          obtain ⟨W18, hW18⟩ : ∃ W18, W18 = wr.alloc (.cells #[.int .i64 qo, .slice b1 q1 e1, .int .i64 qs, .int .i64 qn, .int .i64 qm, .slice b2 q2 e2] 30) := ⟨_, rfl⟩
          have HA18 : Hid (Upto [] wr W18) := Lib.hid (by rw [hW18]; exact (Upto.refl [] wr).alloc _)
          have HL18 : Hid (W18.heap[wr.heap.size]? = some (.cells #[.int .i64 qo, .slice b1 q1 e1, .int .i64 qs, .int .i64 qn, .int .i64 qm, .slice b2 q2 e2] 30 (0, 0))) := Lib.hid (by rw [hW18]; exact new_at wr _)
          simp only [← hW18]
          have HP2 : Hid (Upto [] wr W18.drew) := Lib.hid HA18.out.drew
          have HC18 := Lib.hid (HA18.out.at HC5.out (by simp))
          clear hW18 x0 x1 x2 x3 x4 x5 l0 l1 l2 l3 l4 l5
          have x5 := cell_of HC18.out 5
          simp only [List.getElem?_toArray, List.getElem?_cons_zero, List.getElem?_cons_succ] at x5
          obtain ⟨y0, y1, y2, y3, y4, y5⟩ := cells6 HL18.out
          have HRM9 := Lib.hid (IHH.out x _ k q e mb _ B ta6 tn6 tc6 W18.drew (OwT.same _ _ _ _ HIN.out.1 (SameIn.upto HP2.out (by have := HIN.out.2.2.hiw; omega) (by simp))) HIN.out.2.1 (HIN.out.2.2.ext HP2.out))
          go_region_with (refine HRM9.out.mono ?_
                          rintro r w20 hp20
                          obtain ⟨rfl, -⟩ := id hp20
                          have HJ20 := Lib.hid (HOUT.out _ _ HP2.out hp20)
                          have HC20 := Lib.hid (HJ20.out.1.up.at HC4.out HOC.out.1)
                          have z5 := cell_of HC20.out 5
                          simp only [List.getElem?_toArray, List.getElem?_cons_zero, List.getElem?_cons_succ] at z5
                          obtain ⟨t21, ht21⟩ := HJ20.out.2
                          have HT21 := Lib.hid ht21
                          clear ht21 hp20
                          obtain ⟨m0, m1, m2, m3, m4, m5⟩ := HSX.out.cells HT21.out
                          have f0 := free_of HT21.out (o + i * 6)
                          have f1 := free_of HT21.out (o + i * 6 + 1)
                          have f2 := free_of HT21.out (o + i * 6 + 2)
                          have f3 := free_of HT21.out (o + i * 6 + 3)
                          have f4 := free_of HT21.out (o + i * 6 + 4)
                          have f5 := free_of HT21.out (o + i * 6 + 5))
          all_goals
            simp only [HSX.out.same HT21.out]
            clear x5 y0 y1 y2 y3 y4 y5 z5 m0 m1 m2 m3 m4 m5 f0 f1 f2 f3 f4 f5
            go_wp2_with fail
            exact ⟨⟨i + 1, by omega, by simp, Lib.hid HJ20.out.1⟩, by simp [intOf]; omega⟩
        · obtain rfl : i = n2 := by omega
          obtain ⟨y0, y1, y2, y3, y4, y5⟩ := cells6 HZ5.out
          obtain ⟨f0, f1, f2, f3, f4, f5⟩ := frees6 HZ5.out
          go_wp2_with fail
          clear x0 x1 x2 x3 x4 x5 y0 y1 y2 y3 y4 y5 f0 f1 f2 f3 f4 f5
          have HTL : Hid (l.take i = l ∧ l.drop i = []) := Lib.hid ⟨by rw [← HL2.out.1, List.take_length], by rw [← HL2.out.1, List.drop_length]⟩
          have hst := nd_store HZ5.out (.int .i64 op) (.slice a1 n1 c1) (.int .i64 so) (.int .i64 nn) (.int .i64 mm) (.slice a2 i c2)
          have hself := nd_self wr (w.heap.size + 1) (.int .i64 op) (.slice a1 n1 c1) (.int .i64 so) (.int .i64 nn) (.int .i64 mm) (.slice a2 i c2)
          have hsq : ∀ b ∈ Sq m hi B (.slice ta tn tc), b ∈ Sq lo hi B (.slice ta tn tc) ∨ w.heap.size ≤ b := fun b hb => by
            rw [mem_sq] at hb ⊢
            rcases hb with hb | hb | hb
            · exact Or.inl (Or.inl (by have := HLT.out; omega))
            · exact Or.inl (Or.inr (Or.inl hb))
            · exact (HOW.out b hb).imp (fun h2 => Or.inr (Or.inr h2)) id
          have hup0 : Upto (Sq lo hi B (.slice ta tn tc)) w wr := HUW.out.trans HKI.out.up hsq
          have hup := nd_up hup0 (B := w.heap.size + 1) (Or.inr (by omega)) (.int .i64 op) (.slice a1 n1 c1) (.int .i64 so) (.int .i64 nn) (.int .i64 mm) (.slice a2 i c2)
          have hsame : SameIn w5 wr lo m := SameIn.upto HKI.out.up (by have := HLT.out; have := HUW.out.size; omega) (fun b hb => by
            rw [mem_sq] at hb
            rcases hb with hb | hb | hb
            · exact Or.inr hb.1
            · have := HAT.out.bo.1; have := HLT.out; omega
            · rcases HOW.out b hb with h2 | h2
              · have := (HAT.out.so b h2).1; have := HLT.out; omega
              · have := HLT.out; omega)
          have hown : OwT wr (.mk op (rnUses op (lookE e) nms) so nn mm (apL l e tk).1) (.agg #[.int .i64 op, .slice a1 n1 c1, .int .i64 so, .int .i64 nn, .int .i64 mm, .slice a2 i c2]) lo hi := by
            refine OwT.join (cs := cs) (o := o) (g := g) (m := m) HNL2.out (by rw [apL_len]; exact HL2.out.1) HLT.out.2.1 HLT.out.2.2 (HJN.out.same hsame) ?_
            rcases HKI.out.kd with h1 | ⟨h1, h2, h3, h4, h5⟩
            · refine Or.inl ?_
              rw [h1]
              unfold apL
              rfl
            · rw [HTL.out.1, HTL.out.2, List.append_nil] at h4
              exact Or.inr ⟨h1, h5, h2, h3, h4⟩
          have hown2 := hown.same _ _ _ _ (SameIn.upto hself (by have := HLT.out; have := hup0.size; omega) (fun b hb => by have := HLT.out; simp at hb; omega))
          have htk : ∃ a n c, TkB ((((((wr.setCell ⟨w.heap.size + 1, 0, none⟩ (.int .i64 op)).setCell ⟨w.heap.size + 1, 1, none⟩ (.slice a1 n1 c1)).setCell ⟨w.heap.size + 1, 2, none⟩ (.int .i64 so)).setCell ⟨w.heap.size + 1, 3, none⟩ (.int .i64 nn)).setCell ⟨w.heap.size + 1, 4, none⟩ (.int .i64 mm)).setCell ⟨w.heap.size + 1, 5, none⟩ (.slice a2 i c2)) B a n c (apL l e tk).2 ∧ ∀ q, (Value.slice a n c).ownBlock = some q → (Value.slice ta tn tc).ownBlock = some q ∨ w.heap.size ≤ q := by
            obtain ⟨a, n, c, h1, h2⟩ := HKI.out.tk
            rw [HTL.out.1] at h1
            refine ⟨a, n, c, h1.upto hself ?_ ?_, fun q hq => ?_⟩
            · have := (HAT.out.tk.lt).1
              simp
              omega
            · intro q hq hm
              obtain ⟨cur, hh⟩ := ownsRow_block h1.row hq
              simp at hm
              rw [hm, HZ5.out] at hh
              injection hh with hh
              injection hh with _ h3
              cases h3
            · rcases h2 q hq with h3 | h3
              · exact HOW.out q h3
              · exact Or.inr (by have := HUW.out.size; omega)
          obtain ⟨q0, q1, q2, q3, q4, q5⟩ := cells6 hst
          refine bodyPost_ret (v := .agg #[.int .i64 op, .slice a1 n1 c1, .int .i64 so, .int .i64 nn, .int .i64 mm, .slice a2 i c2]) (by simp [results, Tryz.results64, go_sem, q0, q1, q2, q3, q4, q5]) rfl ?_
          rw [HGO.out]
          exact ⟨rfl, hown2, htk, hup⟩
end Go.Proofs.YtbnebkkpmcjmbaaGreatDoor

