/- Texts merged, in build order: Lib, Cz, LexF, LexP, LexQ, Tk, Ext, Shelf, Cls, Num, Num2, Kw, Run, Seg, TokA. -/
import Derived.Test.YtbnebkkpmcjmbaaGreatDoorRows
import Derived.WalkKit
import Derived.WalkSpells
import Derived.WalkLawsBesides
import Derived.Maps.OwnSet
import Derived.Lib.Hide
import Derived.Laws.BytesArg
import Derived.Deep.QuietTactic
import Derived.BigQuiet
import Derived.Test.YtbnebkkpmcjmbaaGreatDoorProg
import Derived.Shelf.Small.Strs
import Derived.Shelf.LaysM
import Derived.Shelf.Strings.SplitShaped
import Derived.Deep.DeepCutAuto
import Derived.Deep.CutBlock
import Derived.Lib.Strings
import Derived.Lib.Walk
import Derived.Lib.ConvBytes
import Derived.Lib.ParseIntBMem
import Derived.Lib.AtoiErrMem
import Derived.Lib.BufferWrite
import Derived.Lib.UnsafeStr
import Derived.Lib.IfaceEq
import Derived.Laws.MakeOwn
import Derived.Laws.Strings3
import Derived.Laws.Closers25
import Derived.Laws.Closers25b
import Derived.RegionTactic
import Derived.Deep.RegionWith
import Derived.BigCall
import Derived.BigGuard
import Derived.Lib.AppendIntMem
import Derived.Carry
import Derived.OrdersHeld
namespace Go.PL
open Go.RowKit Go.MapKept
open Go.Maps (Keyed)

/-- Blocks of w outside S read in w' as in w; the streams are as they were. -/
structure Upto (S : List Nat) (w w' : World) : Prop where
  os : w'.os = w.os
  tape : w'.tape = w.tape
  output : w'.output = w.output
  size : w.heap.size ≤ w'.heap.size
  block : ∀ k, k < w.heap.size → k ∉ S → w'.heap[k]? = w.heap[k]?

theorem Upto.refl (S : List Nat) (w : World) : Upto S w w := ⟨rfl, rfl, rfl, Nat.le_refl _, fun _ _ _ => rfl⟩

/-- Every block of S' is in S or new since w. -/
def Within (w : World) (S S' : List Nat) : Prop := ∀ k ∈ S', k ∈ S ∨ w.heap.size ≤ k

theorem Within.refl (w : World) (S : List Nat) : Within w S S := fun _ h => Or.inl h
theorem Within.nil (w : World) (S : List Nat) : Within w S [] := fun _ h => by cases h

theorem Upto.trans {S S' : List Nat} {a b c : World} (h : Upto S a b) (k : Upto S' b c) (hs : Within a S S') : Upto S a c :=
  ⟨k.os.trans h.os, k.tape.trans h.tape, k.output.trans h.output, Nat.le_trans h.size k.size, fun i hi hn => by
    refine (k.block i (Nat.lt_of_lt_of_le hi h.size) (fun hm => ?_)).trans (h.block i hi hn)
    rcases hs i hm with h1 | h1
    · exact hn h1
    · omega⟩

theorem Upto.trans_same {S : List Nat} {a b c : World} (h : Upto S a b) (k : Upto S b c) : Upto S a c := h.trans k (Within.refl _ _)
theorem Upto.trans_ext {S : List Nat} {a b c : World} (h : Upto S a b) (k : Upto [] b c) : Upto S a c := h.trans k (Within.nil _ _)

theorem Upto.mono {S S' : List Nat} {w w' : World} (h : Upto S w w') (hs : ∀ k ∈ S, k ∈ S') : Upto S' w w' :=
  ⟨h.os, h.tape, h.output, h.size, fun k hk hn => h.block k hk (fun hm => hn (hs k hm))⟩

theorem Upto.drew {S : List Nat} {a w : World} (h : Upto S a w) : Upto S a w.drew := ⟨h.os, h.tape, h.output, h.size, h.block⟩
theorem Upto.drewN {S : List Nat} {a w : World} (h : Upto S a w) (n : Nat) : Upto S a (w.drewN n) := ⟨h.os, h.tape, h.output, h.size, h.block⟩

theorem Upto.alloc {S : List Nat} {a w : World} (h : Upto S a w) (o : Obj) : Upto S a (w.alloc o) :=
  h.trans_ext ⟨rfl, rfl, rfl, by simp, fun k hk _ => Below.heap_alloc _ _ _ hk⟩

theorem Upto.setCell {S : List Nat} {a w : World} (h : Upto S a w) {p : Addr} (hp : p.block ∈ S ∨ a.heap.size ≤ p.block) (u : Value) : Upto S a (w.setCell p u) :=
  h.trans (S' := [p.block]) ⟨rfl, rfl, rfl, by simp [World.setCell], fun k _ hn => Below.heap_setCell _ _ _ _ (by simpa using hn)⟩ (fun k hk => by simp at hk; subst hk; exact hp)

theorem Upto.grown {S : List Nat} {a w w' : World} {row : Option Nat} (h : Upto S a w) (hg : w.grownBy w' row) (hr : ∀ k, row = some k → k ∈ S ∨ a.heap.size ≤ k) : Upto S a w' :=
  h.trans (S' := row.toList) ⟨hg.os, hg.tape, hg.output, hg.size, fun k hk hn => hg.block k hk (fun e => hn (by rw [← e]; simp))⟩ (fun k hk => hr k (by simpa using hk))

theorem Upto.cell {S : List Nat} {w w' : World} (h : Upto S w w') {p : Addr} (hp : p.block < w.heap.size) (hn : p.block ∉ S) : w'.cell? p = w.cell? p := World.cell?_of_block (w := w) (h.block p.block hp hn)
theorem Upto.frozen {S : List Nat} {w w' : World} (h : Upto S w w') {p : Addr} (hp : p.block < w.heap.size) (hn : p.block ∉ S) : w'.frozen? p = w.frozen? p := World.frozen?_of_block (w := w) (h.block p.block hp hn)

theorem Upto.below {S : List Nat} {w w' : World} (h : Upto S w w') (B : Nat) (hB : B ≤ w.heap.size) (hs : ∀ k ∈ S, B ≤ k) : Below B w w' :=
  ⟨h.os, h.tape, h.output, h.size, fun k hk => h.block k (by omega) (fun hm => by have := hs k hm; omega)⟩
theorem Upto.ext {w w' : World} (h : Upto [] w w') : Below w.heap.size w w' := h.below _ (Nat.le_refl _) (by simp)
theorem Upto.of_below {w w' : World} (h : Below w.heap.size w w') : Upto [] w w' := ⟨h.os, h.tape, h.output, h.size, fun k hk _ => h.block k hk⟩

/-- Block b is a map with these entries, in the order of their insertion. -/
def MapL (P : Program) (k : TypeId) (w : World) (b : Nat) (L : List (Value × Value)) : Prop :=
  ∃ es clock, w.heap[b]? = some (.map es clock) ∧ es.toList.map (fun e => (e.key, e.val)) = L ∧ ∀ e ∈ es.toList, ∃ l, keyOf P k e.key = some l

section
variable {P : Program} {k : TypeId} {w w' : World} {b : Nat} {L : List (Value × Value)}

theorem MapL.of_block (h : MapL P k w b L) (hb : w'.heap[b]? = w.heap[b]?) : MapL P k w' b L := by
  obtain ⟨es, c, h1, h2, h3⟩ := h
  exact ⟨es, c, hb.trans h1, h2, h3⟩
theorem MapL.lt (h : MapL P k w b L) : b < w.heap.size := by
  obtain ⟨es, c, h1, _⟩ := h
  exact (Array.getElem?_eq_some_iff.1 h1).1
theorem MapL.upto {S : List Nat} (h : MapL P k w b L) (hu : Upto S w w') (hn : b ∉ S) : MapL P k w' b L := h.of_block (hu.block b h.lt hn)
theorem MapL.made (P : Program) (k : TypeId) (w : World) : MapL P k (w.alloc (.map #[] 0)) w.heap.size [] :=
  ⟨#[], 0, (MapKept.heap_alloc w _).1, rfl, by simp⟩

theorem MapL.look {t e : TypeId} (h : MapL P k w b L) (K : Keyed P k) (ht : P.underlying t = some (.map k e)) {z : Value} (hz : (zeroValue e).run P w = .ok z w) {x : Value} {l : Lit} (hx : keyOf P k x = some l) (c : Bool) :
    ((Instr.lookup t (.map (some b)) x c).run P w = .ok (if c then .tuple #[z, .bool false] else z) w ∧ ∀ p ∈ L, p.1 ≠ x) ∨
    ∃ v, (x, v) ∈ L ∧ (Instr.lookup t (.map (some b)) x c).run P w = .ok (if c then .tuple #[v, .bool true] else v) w := by
  obtain ⟨es, clock, hb, rfl, hk⟩ := h
  rcases K.find w hx es.toList hk with ⟨h1, h2⟩ | ⟨j, e0, h1, h2, h3⟩
  · refine Or.inl ⟨by simp [Instr.lookup, run_underlying ht, MapKept.run_getObj_map hb, K.check w _ hx, h1, hz, Result.andThen], ?_⟩
    intro p hp
    obtain ⟨e, he, rfl⟩ := List.mem_map.1 hp
    exact h2 e he
  · refine Or.inr ⟨e0.val, List.mem_map.2 ⟨e0, List.mem_of_getElem? h2, by rw [h3]⟩, by simp [Instr.lookup, run_underlying ht, MapKept.run_getObj_map hb, K.check w _ hx, h1, Result.andThen]⟩

theorem MapL.insert {t e : TypeId} (h : MapL P k w b L) (K : Keyed P k) (ht : P.underlying t = some (.map k e)) {x v : Value} {l : Lit} (hx : keyOf P k x = some l) (hnew : ∀ p ∈ L, p.1 ≠ x) :
    ∃ w', (Instr.mapUpdate t (.map (some b)) x v).run P w = .ok () w' ∧ MapL P k w' b (L ++ [(x, v)]) ∧ w.grownBy w' (some b) := by
  obtain ⟨es, clock, hb, rfl, hk⟩ := h
  rcases K.find w hx es.toList hk with ⟨h1, h2⟩ | ⟨j, e0, h1, h2, h3⟩
  · refine ⟨ChangeMaps.setBlock w b (.map (es.push ⟨x, v, clock⟩) (clock + 1)), by simp [Instr.mapUpdate, run_underlying ht, MapKept.run_getObj_map hb, K.check w false hx, h1, MapKept.run_setObj_map _ hb, Result.andThen, ChangeMaps.setBlock], ?_, ?_⟩
    · refine ⟨es.push ⟨x, v, clock⟩, clock + 1, ChangeMaps.heap_setBlock_same hb _, by simp, ?_⟩
      intro e he
      simp only [Array.toList_push, List.mem_append, List.mem_singleton] at he
      rcases he with he | rfl
      · exact hk e he
      · exact ⟨l, hx⟩
    · exact ⟨rfl, rfl, rfl, by simp [ChangeMaps.setBlock], fun i _ hi => ChangeMaps.heap_setBlock_other hb _ (fun e => hi (by rw [e]))⟩
  · exact absurd h3 (hnew _ (List.mem_map.2 ⟨e0, List.mem_of_getElem? h2, rfl⟩))
end

section
variable {P : Program} (w : World) {ops : Array Oper} {rest : List Oper} {o : Oper} {a : Act} {Q : Exit → Act → World → Prop}

theorem wpList_insert (hg : o.guard = none) (m x v : Operand) (t : TypeId) (hop : o.op = Op.mapUpdate t m x v)
    (k e : TypeId) (K : Keyed P k) (ht : P.underlying t = some (.map k e)) (b : Nat) (L : List (Value × Value))
    (hm : a.eval m = .map (some b)) (h : MapL P k w b L) (key val : Value) (l : Lit) (hx : a.eval x = key) (hv : a.eval v = val) (hkey : keyOf P k key = some l) (hnew : ∀ p ∈ L, p.1 ≠ key)
    (hK : ∀ w', MapL P k w' b (L ++ [(key, val)]) → w.grownBy w' (some b) → wpList P ops Q rest (a.put o.dst undef) w') :
    wpList P ops Q (o :: rest) a w := by
  refine wpList_plain hg fun K' hK' => ?_
  obtain ⟨w', hrun, r1, r2⟩ := h.insert K ht hkey (v := val) hnew
  unfold Oper.wp
  simp [execOp, hop, hm, hx, hv, hrun, Result.andThen]
  exact hK' _ _ (hK w' r1 r2)
end

theorem keyS {P : Program} {k : TypeId} (hk : P.underlying k = some .string) {s : ByteArray} (hs : s.size ≤ maxLen) : keyOf P k (.string s) = some (.string s.data.toList) := by
  simp [keyOf, hk, mapKey, hs]

theorem cell_of {w : World} {p : Nat} {cs : Array Value} {t : TypeId} {z : Nat × Nat} (h : w.heap[p]? = some (.cells cs t z)) (i : Nat) : w.cell? ⟨p, i, none⟩ = cs[i]? := by
  simp [World.cell?, h]
theorem free_of {w : World} {p : Nat} {cs : Array Value} {t : TypeId} (h : w.heap[p]? = some (.cells cs t (0, 0))) (i : Nat) : w.frozen? ⟨p, i, none⟩ = false := by
  simp [World.frozen?, h]
theorem set_same {w : World} {p : Nat} {cs : Array Value} {t : TypeId} {z : Nat × Nat} (h : w.heap[p]? = some (.cells cs t z)) (i : Nat) (v : Value) : (w.setCell ⟨p, i, none⟩ v).heap[p]? = some (.cells (cs.setIfInBounds i v) t z) := by
  simp [World.setCell, Array.getElem?_modify, h]
theorem lt_of_heap {w : World} {p : Nat} {o : Obj} (h : w.heap[p]? = some o) : p < w.heap.size := (Array.getElem?_eq_some_iff.1 h).1
theorem alloc_old {w : World} {p : Nat} {o : Obj} (h : w.heap[p]? = some o) (o' : Obj) : (w.alloc o').heap[p]? = some o := by
  rw [Below.heap_alloc _ _ _ (lt_of_heap h)]; exact h

theorem ownsRow_len {w : World} {B : Nat} {e : TypeId} {z : Nat} {v : Value} {n : Nat} {xs : List Value} (h : w.ownsRow B e z v n xs) : ∃ a c, v = .slice a n c ∧ (a = none → n = 0) := by
  rcases h.2 with ⟨rfl, rfl⟩ | ⟨g, cap, cur, rfl, _⟩
  · exact ⟨none, 0, rfl, fun _ => rfl⟩
  · exact ⟨_, cap, rfl, fun h => by cases h⟩
theorem ownsRow_block {w : World} {B : Nat} {e : TypeId} {z : Nat} {v : Value} {n : Nat} {xs : List Value} (h : w.ownsRow B e z v n xs) {g : Nat} (hg : v.ownBlock = some g) : ∃ cur, w.heap[g]? = some (.cells cur e (0, 0)) := by
  rcases h.2 with ⟨rfl, rfl⟩ | ⟨g', cap, cur, rfl, _, hh, _⟩
  · cases hg
  · cases hg
    exact ⟨cur, hh⟩
/-- a block of cells of another type is not the row -/
theorem row_ne {w : World} {B : Nat} {e : TypeId} {z : Nat} {v : Value} {n : Nat} {xs : List Value} (h : w.ownsRow B e z v n xs) {g : Nat} (hg : g ∈ v.ownBlock.toList) {cs : Array Value} {t : TypeId} {fz : Nat × Nat} (hb : w.heap[g]? = some (.cells cs t fz)) (hne : t ≠ e) : False := by
  obtain ⟨cur, hh⟩ := ownsRow_block h (Option.mem_toList.1 hg)
  rw [hb] at hh
  injection hh with hh
  injection hh with _ h2
  exact hne h2
theorem ownsRow_of_block {w w' : World} {B : Nat} {e : TypeId} {z : Nat} {v : Value} {n : Nat} {xs : List Value} (h : w.ownsRow B e z v n xs) (hb : ∀ g, v.ownBlock = some g → w'.heap[g]? = w.heap[g]?) : w'.ownsRow B e z v n xs := by
  refine ⟨h.1, ?_⟩
  rcases h.2 with hn | ⟨g', cap, cur, rfl, h1, hh, r⟩
  · exact Or.inl hn
  · exact Or.inr ⟨g', cap, cur, rfl, h1, (hb g' rfl).trans hh, r⟩
theorem ownsRow_upto {S : List Nat} {w w' : World} {B : Nat} {e : TypeId} {z : Nat} {v : Value} {n : Nat} {xs : List Value} (h : w.ownsRow B e z v n xs) (hu : Upto S w w') (hs : ∀ g, v.ownBlock = some g → g ∉ S) : w'.ownsRow B e z v n xs :=
  ownsRow_of_block h (fun g hg => by
    obtain ⟨cur, hh⟩ := ownsRow_block h hg
    exact hu.block g (lt_of_heap hh) (hs g hg))
section
variable {P : Program} (w : World)

/-- where an append leaves its result: in the old block, or in a new one -/
theorem append_where (t ty e : TypeId) (i : TypeInfo) (z : Value) (size bytes : Nat) (ht : P.underlying t = some (.slice e)) (hi : P.info? e = some i) (hz : i.zero = some z)
    (hsize : i.size = size) (hby : i.bytes = bytes) (v : Value) (n : Nat) (xs : List Value) (hown : w.ownsRow 0 e size v n xs)
    (a : Addr) (m c : Nat) (news : List Value) (hl : news.length = m * size) (hnews : ∀ j u, news[j]? = some u → w.cell? (a.add j) = some u) (h1 : ∀ u ∈ news, u.oneCell' = true)
    (h63 : n + m ≤ maxLen) (hbytes : (n + m) * bytes ≤ 140737488355328) {v' : Value} {w' : World} (hr : (Builtin.append_ #[t, t] ty #[v, .slice (some a) m c]).run P w = .ok v' w') :
    ∀ g, v'.ownBlock = some g → v.ownBlock = some g ∨ w.heap.size ≤ g := by
  subst hsize
  subst hby
  have h63' : n + m ≤ 9223372036854775807 := by simp only [maxLen] at h63; omega
  rcases hown.2 with ⟨rfl, rfl⟩ | ⟨g, cap, cur, rfl, _, hg, hnc, hcm, hcs, htake⟩
  · by_cases hm : m = 0
    · subst hm
      have hs : (Builtin.append_ #[t, t] ty #[.slice none 0 0, .slice (some a) 0 c]).run P w = .ok (.slice none 0 0) w := by
        simp [Builtin.append_, run_underlying ht, sizeOf, typeInfo, hi, Builtin.lenOf, Builtin.firstCells, loadCells, loadCellsFrom]
      rw [hs] at hr
      cases hr
      intro g hg
      cases hg
    · have hs := run_append_nil (P := P) w t ty e i z ht hi hz a m c news hl hnews (by omega) (by omega) (by rw [Nat.zero_add] at hbytes; omega)
      rw [hs] at hr
      cases hr
      intro g hg
      cases hg
      exact Or.inr (Nat.le_refl _)
  · by_cases hroom : n + m ≤ cap
    · have hs := run_append_room (P := P) w t ty e i ht hi g n cap cur hg a m c news hl hnews h1 hroom (by rw [hl, hcs, ← Nat.add_mul]; exact Nat.mul_le_mul_right _ hroom)
      rw [hs] at hr
      cases hr
      intro g' hg'
      exact Or.inl hg'
    · have hs := run_append_grow (P := P) w t ty e i z ht hi hz ⟨g, 0, none⟩ n cap xs hown.1 (hown.cells (g := g) rfl) a m c news hl hnews (by omega) (by omega) (growslice_fits (by omega) hbytes)
      rw [hs] at hr
      cases hr
      intro g' hg'
      cases hg'
      exact Or.inr (Nat.le_refl _)

theorem wpList_app {ops : Array Oper} {rest : List Oper} {o : Oper} {ac : Act} {Q : Exit → Act → World → Prop} (hgd : o.guard = none) (s x : Operand) (t : TypeId)
    (ho : o.op = .call { callee := .builtin .append, args := #[s, x], argTypes := #[t, t] })
    (e : TypeId) (i : TypeInfo) (z : Value) (size bytes : Nat) (ht : P.underlying t = some (.slice e)) (hi : P.info? e = some i) (hz : i.zero = some z)
    (hsize : i.size = size) (hby : i.bytes = bytes) (hzs : z.cells.size = size) (hsz : 0 < size)
    (v : Value) (n : Nat) (xs : List Value) (hs : ac.eval s = v) (hown : w.ownsRow 0 e size v n xs)
    (a : Addr) (m c : Nat) (news : List Value) (hx : ac.eval x = .slice (some a) m c) (hl : news.length = m * size) (hnews : ∀ j u, news[j]? = some u → w.cell? (a.add j) = some u) (h1 : ∀ u ∈ news, u.oneCell' = true)
    (h63 : n + m ≤ maxLen) (hbytes : (n + m) * bytes ≤ 140737488355328)
    (h : ∀ b' c' w', w'.ownsRow 0 e size (.slice b' (n + m) c') (n + m) (xs ++ news) → Upto v.ownBlock.toList w w' → (∀ g, (Value.slice b' (n + m) c').ownBlock = some g → v.ownBlock = some g ∨ w.heap.size ≤ g) → wpList P ops Q rest (ac.put o.dst (.slice b' (n + m) c')) w') : wpList P ops Q (o :: rest) ac w := by
  refine wpList_plain hgd fun K hK => ?_
  obtain ⟨v', w', hr, h2, h3, _⟩ := run_append_own (P := P) w 0 t o.type e i z size bytes ht hi hz hsize hby hzs hsz v n xs hown a m c news hl hnews h1 h63 hbytes (Nat.zero_le _)
  have h4 := append_where w t o.type e i z size bytes ht hi hz hsize hby v n xs hown a m c news hl hnews h1 h63 hbytes hr
  unfold Oper.wp execOp
  simp only [ho, resolve, invoke, builtin, Sem.run_bind, Sem.run_pure, Result.andThen_ok, List.map_toArray, List.map_cons, List.map_nil, hs, hx, hr]
  obtain ⟨b', c', rfl, _⟩ := ownsRow_len h2
  exact hK _ _ (h b' c' w' h2 ⟨h3.os, h3.tape, h3.output, h3.size, fun k hk hn => h3.block k hk (fun e => hn (by rw [← e]; simp))⟩ h4)
end

theorem Upto.at {S : List Nat} {w w' : World} (h : Upto S w w') {g : Nat} {o : Obj} (hb : w.heap[g]? = some o) (hn : g ∉ S) : w'.heap[g]? = some o := (h.block g (lt_of_heap hb) hn).trans hb
theorem new_at (w : World) (o : Obj) : (w.alloc o).heap[w.heap.size]? = some o := heap_alloc_new w o
theorem new_at1 (w : World) (o o' : Obj) : ((w.alloc o).alloc o').heap[w.heap.size + 1]? = some o' := by
  have := heap_alloc_new (w.alloc o) o'
  simpa using this
theorem new_at2 (w : World) (o o' o'' : Obj) : (((w.alloc o).alloc o').alloc o'').heap[w.heap.size + 1 + 1]? = some o'' := by
  have := heap_alloc_new ((w.alloc o).alloc o') o''
  simpa using this
theorem ret_int {k : IntKind} {a b : Int} (h : a = b) : Ending.returned (.int k a) = .returned (.int k b) := by rw [h]
theorem ret_bool {a b : Bool} (h : a = b) : Ending.returned (.bool a) = .returned (.bool b) := by rw [h]

/-- a slice whose elements are read only: no elements, or the cells of a row -/
def SlC (w : World) (v : Value) (xs : List Value) : Prop :=
  (xs = [] ∧ ∃ a c, v = .slice a 0 c) ∨ ∃ g o c, v = .slice (some ⟨g, o, none⟩) xs.length c ∧ ∀ j u, xs[j]? = some u → w.cell? ⟨g, o + j, none⟩ = some u

theorem SlC.len {w : World} {v : Value} {xs : List Value} (h : SlC w v xs) : ∃ a c, v = .slice a xs.length c := by
  rcases h with ⟨rfl, a, c, rfl⟩ | ⟨g, o, c, rfl, _⟩
  · exact ⟨a, c, rfl⟩
  · exact ⟨_, c, rfl⟩
theorem SlC.of_row {w : World} {B : Nat} {e : TypeId} {v : Value} {n : Nat} {xs : List Value} (h : w.ownsRow B e 1 v n xs) : SlC w v xs := by
  rcases h.2 with ⟨rfl, rfl⟩ | ⟨g, cap, cur, rfl, _, hh, _, _, _, ht⟩
  · exact Or.inl ⟨List.eq_nil_of_length_eq_zero (by simpa using h.1), none, 0, rfl⟩
  · refine Or.inr ⟨g, 0, cap, by rw [h.1]; simp, ?_⟩
    intro j u hj
    rw [cell_of hh, Nat.zero_add]
    rw [← ht, List.getElem?_take] at hj
    split at hj
    · simpa using hj
    · cases hj
/-- what a slice reads as stays while its block is not written -/
theorem SlC.upto {S : List Nat} {w w' : World} {v : Value} {xs : List Value} (h : SlC w v xs) (hu : Upto S w w') (hs : ∀ g o n c, v = .slice (some ⟨g, o, none⟩) n c → xs ≠ [] → g ∉ S) : SlC w' v xs := by
  rcases h with h | ⟨g, o, c, rfl, hc⟩
  · exact Or.inl h
  · refine Or.inr ⟨g, o, c, rfl, fun j u hj => ?_⟩
    have h1 := hc j u hj
    rw [← h1]
    refine hu.cell ?_ (hs g o _ c rfl (by rintro rfl; cases hj))
    exact World.block_lt_of_cell? w _ h1
theorem SlC.ext {w w' : World} {v : Value} {xs : List Value} (h : SlC w v xs) (hu : Upto [] w w') : SlC w' v xs := h.upto hu (by simp)


section
variable {P : Program} (w : World)

theorem run_append_zero (t ty e : TypeId) (i : TypeInfo) (size : Nat) (ht : P.underlying t = some (.slice e)) (hi : P.info? e = some i)
    (v : Value) (n : Nat) (xs : List Value) (hown : w.ownsRow 0 e size v n xs) (a : Option Addr) (c : Nat) :
    (Builtin.append_ #[t, t] ty #[v, .slice a 0 c]).run P w = .ok v w := by
  rcases hown.2 with ⟨rfl, rfl⟩ | ⟨g, cap, cur, rfl, _, hg, hnc, _⟩
  · cases a <;> simp [Builtin.append_, run_underlying ht, sizeOf, typeInfo, hi, Builtin.lenOf, Builtin.firstCells, loadCells, loadCellsFrom]
  · cases a <;> simp [Builtin.append_, run_underlying ht, sizeOf, typeInfo, hi, Builtin.lenOf, Builtin.firstCells, loadCells, loadCellsFrom, hnc, storeCells]

/-- append of the elements of a slice that reads as news (one cell each) -/
theorem wpList_apps {ops : Array Oper} {rest : List Oper} {o : Oper} {ac : Act} {Q : Exit → Act → World → Prop} (hgd : o.guard = none) (s x : Operand) (t : TypeId)
    (ho : o.op = .call { callee := .builtin .append, args := #[s, x], argTypes := #[t, t] })
    (e : TypeId) (i : TypeInfo) (z : Value) (bytes : Nat) (ht : P.underlying t = some (.slice e)) (hi : P.info? e = some i) (hz : i.zero = some z)
    (hsize : i.size = 1) (hby : i.bytes = bytes) (hzs : z.cells.size = 1)
    (v : Value) (n : Nat) (xs : List Value) (hs : ac.eval s = v) (hown : w.ownsRow 0 e 1 v n xs)
    (y : Value) (news : List Value) (hx : ac.eval x = y) (hnews : SlC w y news) (h1 : ∀ u ∈ news, u.oneCell' = true)
    (h63 : n + news.length ≤ maxLen) (hbytes : (n + news.length) * bytes ≤ 140737488355328)
    (h : ∀ b' c' w', w'.ownsRow 0 e 1 (.slice b' (n + news.length) c') (n + news.length) (xs ++ news) → Upto v.ownBlock.toList w w' → (∀ g, (Value.slice b' (n + news.length) c').ownBlock = some g → v.ownBlock = some g ∨ w.heap.size ≤ g) → wpList P ops Q rest (ac.put o.dst (.slice b' (n + news.length) c')) w') : wpList P ops Q (o :: rest) ac w := by
  rcases hnews with ⟨rfl, a, c, rfl⟩ | ⟨g, off, c, rfl, hc⟩
  · refine wpList_plain hgd fun K hK => ?_
    have hr := run_append_zero (P := P) w t o.type e i 1 ht hi v n xs hown a c
    unfold Oper.wp execOp
    simp only [ho, resolve, invoke, builtin, Sem.run_bind, Sem.run_pure, Result.andThen_ok, List.map_toArray, List.map_cons, List.map_nil, hs, hx, hr]
    obtain ⟨b', c', rfl, _⟩ := ownsRow_len hown
    exact hK _ _ (h b' c' w (by simpa using hown) (Upto.refl _ _) (fun g hg => Or.inl hg))
  · refine wpList_app w hgd s x t ho e i z 1 bytes ht hi hz hsize hby hzs (by decide) v n xs hs hown ⟨g, off, none⟩ news.length c news hx (by simp) ?_ h1 h63 hbytes h
    intro j u hj
    have := hc j u hj
    simpa [Addr.add_lit] using this
end

/-- dst was appended to: res has n elements, the cells xs; only dst's block was written, res lies in it or in a new one -/
structure Grew (w w' : World) (e : TypeId) (size : Nat) (dst res : Value) (n : Nat) (xs : List Value) : Prop where
  row : w'.ownsRow 0 e size res n xs
  up : Upto dst.ownBlock.toList w w'
  own : ∀ g, res.ownBlock = some g → dst.ownBlock = some g ∨ w.heap.size ≤ g

theorem Grew.same {w : World} {e : TypeId} {size : Nat} {v : Value} {n : Nat} {xs : List Value} (h : w.ownsRow 0 e size v n xs) : Grew w w e size v v n xs := ⟨h, Upto.refl _ _, fun _ h => Or.inl h⟩
theorem Grew.trans {w w1 w2 : World} {e : TypeId} {size : Nat} {a b c : Value} {n m : Nat} {xs ys : List Value} (h : Grew w w1 e size a b n xs) (k : Grew w1 w2 e size b c m ys) : Grew w w2 e size a c m ys := by
  have hs := h.up.size
  refine ⟨k.row, h.up.trans k.up ?_, fun g hg => ?_⟩
  · intro g hg
    rcases h.own g (Option.mem_toList.1 hg) with h1 | h1
    · exact Or.inl (Option.mem_toList.2 h1)
    · exact Or.inr h1
  · rcases k.own g hg with h1 | h1
    · exact h.own g h1
    · exact Or.inr (by omega)
theorem Grew.before {w w1 w2 : World} {e : TypeId} {size : Nat} {a b : Value} {n : Nat} {xs : List Value} (h : Upto [] w w1) (k : Grew w1 w2 e size a b n xs) : Grew w w2 e size a b n xs := by
  have hs := h.size
  refine ⟨k.row, (h.mono (by simp)).trans_same k.up, fun g hg => ?_⟩
  rcases k.own g hg with h1 | h1
  · exact Or.inl h1
  · exact Or.inr (by omega)
def sv (s : ByteArray) : Value := .string s
section
variable {P : Program} (w : World) {o : Oper} {ac : Act} {Q : Exit → Act → World → Prop}

end

theorem one_at {w : World} {B : Nat} {x : Value} {t : TypeId} {fr : Nat × Nat} (hb : w.heap[B]? = some (.cells #[x] t fr)) : ∀ (j : Nat) (u : Value), [x][j]? = some u → w.cell? ((⟨B, 0, none⟩ : Addr).add j) = some u := by
  intro j u hj
  match j, hj with
  | 0, hj => simp at hj; subst hj; simp [Addr.add, cell_of hb]
end Go.PL


namespace Go.Proofs.YtbnebkkpmcjmbaaGreatDoor
open Go.RowKit Go.PL Go.Maps

theorem cells2 {w : World} {p : Nat} {a b : Value} {r : List Value} {t : TypeId} {z : Nat × Nat} (h : w.heap[p]? = some (.cells (a :: b :: r).toArray t z)) : w.cell? ⟨p, 0, none⟩ = some a ∧ w.cell? ⟨p, 1, none⟩ = some b :=
  ⟨by simpa using cell_of h 0, by simpa using cell_of h 1⟩
theorem frees2 {w : World} {p : Nat} {cs : Array Value} {t : TypeId} (h : w.heap[p]? = some (.cells cs t (0, 0))) : w.frozen? ⟨p, 0, none⟩ = false ∧ w.frozen? ⟨p, 1, none⟩ = false :=
  ⟨free_of h 0, free_of h 1⟩
theorem cells3 {w : World} {p : Nat} {a b c : Value} {r : List Value} {t : TypeId} {z : Nat × Nat} (h : w.heap[p]? = some (.cells (a :: b :: c :: r).toArray t z)) : w.cell? ⟨p, 0, none⟩ = some a ∧ w.cell? ⟨p, 1, none⟩ = some b ∧ w.cell? ⟨p, 2, none⟩ = some c :=
  ⟨by simpa using cell_of h 0, by simpa using cell_of h 1, by simpa using cell_of h 2⟩
theorem frees3 {w : World} {p : Nat} {cs : Array Value} {t : TypeId} (h : w.heap[p]? = some (.cells cs t (0, 0))) : w.frozen? ⟨p, 0, none⟩ = false ∧ w.frozen? ⟨p, 1, none⟩ = false ∧ w.frozen? ⟨p, 2, none⟩ = false :=
  ⟨free_of h 0, free_of h 1, free_of h 2⟩
theorem cells5 {w : World} {p : Nat} {a b c d e : Value} {r : List Value} {t : TypeId} {z : Nat × Nat} (h : w.heap[p]? = some (.cells (a :: b :: c :: d :: e :: r).toArray t z)) : w.cell? ⟨p, 0, none⟩ = some a ∧ w.cell? ⟨p, 1, none⟩ = some b ∧ w.cell? ⟨p, 2, none⟩ = some c ∧ w.cell? ⟨p, 3, none⟩ = some d ∧ w.cell? ⟨p, 4, none⟩ = some e :=
  ⟨by simpa using cell_of h 0, by simpa using cell_of h 1, by simpa using cell_of h 2, by simpa using cell_of h 3, by simpa using cell_of h 4⟩
theorem frees5 {w : World} {p : Nat} {cs : Array Value} {t : TypeId} (h : w.heap[p]? = some (.cells cs t (0, 0))) : w.frozen? ⟨p, 0, none⟩ = false ∧ w.frozen? ⟨p, 1, none⟩ = false ∧ w.frozen? ⟨p, 2, none⟩ = false ∧ w.frozen? ⟨p, 3, none⟩ = false ∧ w.frozen? ⟨p, 4, none⟩ = false :=
  ⟨free_of h 0, free_of h 1, free_of h 2, free_of h 3, free_of h 4⟩
theorem cells6 {w : World} {p : Nat} {a b c d e f : Value} {r : List Value} {t : TypeId} {z : Nat × Nat} (h : w.heap[p]? = some (.cells (a :: b :: c :: d :: e :: f :: r).toArray t z)) : w.cell? ⟨p, 0, none⟩ = some a ∧ w.cell? ⟨p, 1, none⟩ = some b ∧ w.cell? ⟨p, 2, none⟩ = some c ∧ w.cell? ⟨p, 3, none⟩ = some d ∧ w.cell? ⟨p, 4, none⟩ = some e ∧ w.cell? ⟨p, 5, none⟩ = some f :=
  ⟨by simpa using cell_of h 0, by simpa using cell_of h 1, by simpa using cell_of h 2, by simpa using cell_of h 3, by simpa using cell_of h 4, by simpa using cell_of h 5⟩
theorem frees6 {w : World} {p : Nat} {cs : Array Value} {t : TypeId} (h : w.heap[p]? = some (.cells cs t (0, 0))) : w.frozen? ⟨p, 0, none⟩ = false ∧ w.frozen? ⟨p, 1, none⟩ = false ∧ w.frozen? ⟨p, 2, none⟩ = false ∧ w.frozen? ⟨p, 3, none⟩ = false ∧ w.frozen? ⟨p, 4, none⟩ = false ∧ w.frozen? ⟨p, 5, none⟩ = false :=
  ⟨free_of h 0, free_of h 1, free_of h 2, free_of h 3, free_of h 4, free_of h 5⟩
theorem cells7 {w : World} {p : Nat} {a b c d e f g : Value} {r : List Value} {t : TypeId} {z : Nat × Nat} (h : w.heap[p]? = some (.cells (a :: b :: c :: d :: e :: f :: g :: r).toArray t z)) : w.cell? ⟨p, 0, none⟩ = some a ∧ w.cell? ⟨p, 1, none⟩ = some b ∧ w.cell? ⟨p, 2, none⟩ = some c ∧ w.cell? ⟨p, 3, none⟩ = some d ∧ w.cell? ⟨p, 4, none⟩ = some e ∧ w.cell? ⟨p, 5, none⟩ = some f ∧ w.cell? ⟨p, 6, none⟩ = some g :=
  ⟨by simpa using cell_of h 0, by simpa using cell_of h 1, by simpa using cell_of h 2, by simpa using cell_of h 3, by simpa using cell_of h 4, by simpa using cell_of h 5, by simpa using cell_of h 6⟩
theorem frees7 {w : World} {p : Nat} {cs : Array Value} {t : TypeId} (h : w.heap[p]? = some (.cells cs t (0, 0))) : w.frozen? ⟨p, 0, none⟩ = false ∧ w.frozen? ⟨p, 1, none⟩ = false ∧ w.frozen? ⟨p, 2, none⟩ = false ∧ w.frozen? ⟨p, 3, none⟩ = false ∧ w.frozen? ⟨p, 4, none⟩ = false ∧ w.frozen? ⟨p, 5, none⟩ = false ∧ w.frozen? ⟨p, 6, none⟩ = false :=
  ⟨free_of h 0, free_of h 1, free_of h 2, free_of h 3, free_of h 4, free_of h 5, free_of h 6⟩
theorem up_cell {w w' : World} {p : Addr} {v : Value} (h : Upto [] w w') (hc : w.cell? p = some v) : w'.cell? p = some v := (h.cell (World.block_lt_of_cell? w _ hc) (by simp)).trans hc
end Go.Proofs.YtbnebkkpmcjmbaaGreatDoor


namespace Go.PL

/-- a token: its kind, its bytes, its number, its place -/
structure Tok where
  kind : Nat
  text : List UInt8
  val : Nat
  line : Nat
  col : Nat

def lxLetter (b : UInt8) : Bool := (decide (97 ≤ b.toNat) && decide (b.toNat ≤ 122)) || (decide (65 ≤ b.toNat) && decide (b.toNat ≤ 90))
def lxDigit (b : UInt8) : Bool := decide (48 ≤ b.toNat) && decide (b.toNat ≤ 57)
def lxInner (b : UInt8) : Bool := lxLetter b || lxDigit b || decide (b.toNat = 39)
def lxBlank (b : UInt8) : Bool := decide (b.toNat = 9) || decide (b.toNat = 10) || decide (b.toNat = 13) || decide (b.toNat = 32)
def lxMark (b : UInt8) : Bool := decide (b.toNat = 61) || decide (b.toNat = 40) || decide (b.toNat = 41) || decide (b.toNat = 44) || decide (b.toNat = 58) || decide (b.toNat = 59)

/-- the keywords -/
def lxWords : List (List UInt8) := [[102, 105, 110, 100], [115, 111, 109, 101], [101, 118, 101, 114, 121], [118, 101, 114, 116, 101, 120], [101, 100, 103, 101], [115, 101, 116], [101, 100, 103, 101, 115], [116, 114, 117, 101], [102, 97, 108, 115, 101], [110, 111, 116], [97, 110, 100], [111, 114], [105, 109, 112, 108, 105, 101, 115], [105, 102, 102], [105, 110], [115, 117, 98], [97, 100, 106], [111, 110], [105, 115], [111, 110, 101], [115, 105, 122, 101], [109, 111, 100], [108, 101, 97, 115, 116], [103, 114, 101, 97, 116, 101, 115, 116], [97, 115, 107], [108, 101, 116]]

/-- the number that a run of digits spells -/
def lxNum (r : List UInt8) : Nat := r.foldl (fun n b => 10 * n + (b.toNat - 48)) 0

/-- kind and number of a run, or its error -/
def classify : List UInt8 → Except Nat (Nat × Nat)
  | [] => .error 3
  | b :: t =>
    if lxDigit b then
      if !((b :: t).all lxDigit) || (decide (t ≠ []) && decide (b.toNat = 48)) then .error 3
      else if 2147483647 < lxNum (b :: t) then .error 2 else .ok (2, lxNum (b :: t))
    else if !lxLetter b then .error 3
    else if lxWords.contains (b :: t) then .ok (3, 0)
    else if 16 < (b :: t).length then .error 2
    else .ok (1, 0)

def lexN : Nat → List UInt8 → Nat → Nat → Except (Nat × Nat × Nat) (List Tok)
  | _, [], l, c => .ok [⟨0, [], 0, l, c⟩]
  | 0, _ :: _, l, c => .error (l, c, 3)
  | n + 1, b :: s, l, c =>
    if lxBlank b then (if b.toNat = 10 then lexN n s (l + 1) 1 else lexN n s l (c + 1))
    else if lxMark b then (lexN n s l (c + 1)).map fun ts => ⟨4, [b], 0, l, c⟩ :: ts
    else if lxInner b then
      match classify ((b :: s).takeWhile lxInner) with
      | .error e => .error (l, c, e)
      | .ok (k, v) => (lexN n ((b :: s).dropWhile lxInner) l (c + ((b :: s).takeWhile lxInner).length)).map fun ts => ⟨k, (b :: s).takeWhile lxInner, v, l, c⟩ :: ts
    else .error (l, c, 3)

theorem dropWhile_le {α : Type} (p : α → Bool) (s : List α) : (s.dropWhile p).length ≤ s.length := by
  induction s with
  | nil => simp
  | cons b s ih =>
    simp only [List.dropWhile_cons]
    split
    · simp; omega
    · simp
theorem lexN_more : ∀ (n m : Nat) (s : List UInt8) (l c : Nat), s.length ≤ n → s.length ≤ m → lexN n s l c = lexN m s l c
  | n, m, [], l, c, _, _ => by cases n <;> cases m <;> rfl
  | 0, m, b :: s, l, c, h, _ => by simp at h
  | n + 1, 0, b :: s, l, c, _, h => by simp at h
  | n + 1, m + 1, b :: s, l, c, h, h' => by
    have h1 : s.length ≤ n := by simpa using h
    have h2 : s.length ≤ m := by simpa using h'
    simp only [lexN]
    rw [lexN_more n m s (l + 1) 1 h1 h2, lexN_more n m s l (c + 1) h1 h2]
    split
    · rfl
    · split
      · rfl
      · split
        · rename_i hi
          have h3 : ((b :: s).dropWhile lxInner) = s.dropWhile lxInner := by simp [hi]
          have h4 := dropWhile_le lxInner s
          rw [h3, lexN_more n m (s.dropWhile lxInner) l _ (by omega) (by omega)]
        · rfl

/-- the tokens of s, its first byte in line l and column c -/
def lexS (s : List UInt8) (l c : Nat) : Except (Nat × Nat × Nat) (List Tok) := lexN s.length s l c
/-- what Tokenize answers -/
def lexT (s : List UInt8) : Except (Nat × Nat × Nat) (List Tok) := if 65536 < s.length then .error (0, 0, 2) else lexS s 1 1

theorem lexN_eq {n : Nat} {s : List UInt8} (h : s.length ≤ n) (l c : Nat) : lexN n s l c = lexS s l c := lexN_more n s.length s l c h (Nat.le_refl _)

theorem lexS_nil (l c : Nat) : lexS [] l c = .ok [⟨0, [], 0, l, c⟩] := rfl
theorem lexS_line {b : UInt8} (h : b.toNat = 10) (s : List UInt8) (l c : Nat) : lexS (b :: s) l c = lexS s (l + 1) 1 := by
  have hb : lxBlank b = true := by simp [lxBlank, h]
  show lexN (s.length + 1) (b :: s) l c = _
  simp only [lexN, hb, h, if_true]
  rfl
theorem lexS_blank {b : UInt8} (hb : lxBlank b = true) (h : b.toNat ≠ 10) (s : List UInt8) (l c : Nat) : lexS (b :: s) l c = lexS s l (c + 1) := by
  show lexN (s.length + 1) (b :: s) l c = _
  simp only [lexN, hb, h, if_true, if_false]
  rfl
theorem lexS_mark {b : UInt8} (hb : lxBlank b = false) (h : lxMark b = true) (s : List UInt8) (l c : Nat) : lexS (b :: s) l c = (lexS s l (c + 1)).map fun ts => ⟨4, [b], 0, l, c⟩ :: ts := by
  show lexN (s.length + 1) (b :: s) l c = _
  simp only [lexN, hb, h, if_true, Bool.false_eq_true, if_false]
  rfl
theorem lexS_run {b : UInt8} (hb : lxBlank b = false) (hm : lxMark b = false) (h : lxInner b = true) (s : List UInt8) (l c : Nat) : lexS (b :: s) l c =
    match classify ((b :: s).takeWhile lxInner) with
    | .error e => .error (l, c, e)
    | .ok (k, v) => (lexS ((b :: s).dropWhile lxInner) l (c + ((b :: s).takeWhile lxInner).length)).map fun ts => ⟨k, (b :: s).takeWhile lxInner, v, l, c⟩ :: ts := by
  show lexN (s.length + 1) (b :: s) l c = _
  have h3 : ((b :: s).dropWhile lxInner) = s.dropWhile lxInner := by simp [h]
  have h4 := dropWhile_le lxInner s
  simp only [lexN, hb, hm, h, if_true, Bool.false_eq_true, if_false]
  rw [h3, lexN_eq h4]
theorem lexS_bad {b : UInt8} (hb : lxBlank b = false) (hm : lxMark b = false) (h : lxInner b = false) (s : List UInt8) (l c : Nat) : lexS (b :: s) l c = .error (l, c, 3) := by
  show lexN (s.length + 1) (b :: s) l c = _
  simp only [lexN, hb, hm, h, Bool.false_eq_true, if_false]

theorem inner_not {b : UInt8} (h : lxInner b = true) : lxBlank b = false ∧ lxMark b = false := by
  simp only [lxInner, lxLetter, lxDigit, lxBlank, lxMark, Bool.or_eq_true, Bool.and_eq_true, decide_eq_true_eq] at *
  constructor <;> simp <;> omega
theorem mark_not {b : UInt8} (h : lxMark b = true) : lxInner b = false ∧ lxBlank b = false := by
  simp only [lxInner, lxLetter, lxDigit, lxBlank, lxMark, Bool.or_eq_true, decide_eq_true_eq] at *
  constructor <;> simp <;> omega

/-- the tokens that came ahead, put ahead -/
def ahead (acc : List Tok) (r : Except (Nat × Nat × Nat) (List Tok)) : Except (Nat × Nat × Nat) (List Tok) := r.map fun ts => acc ++ ts
theorem ahead_nil (r : Except (Nat × Nat × Nat) (List Tok)) : ahead [] r = r := by cases r <;> rfl
theorem ahead_snoc (acc : List Tok) (t : Tok) (r : Except (Nat × Nat × Nat) (List Tok)) : ahead acc (r.map fun ts => t :: ts) = ahead (acc ++ [t]) r := by
  cases r with
  | error e => rfl
  | ok ts => simp [ahead, Except.map]
theorem ahead_ok (acc ts : List Tok) : ahead acc (.ok ts) = .ok (acc ++ ts) := rfl
theorem ahead_error (acc : List Tok) (e : Nat × Nat × Nat) : ahead acc (.error e) = .error e := rfl
end Go.PL


namespace Go.PL

/-- no run goes on at the head of s -/
def Starts (s : List UInt8) : Prop := ∀ x t, s = x :: t → lxInner x = false
theorem Starts.nil : Starts [] := fun x t h => by cases h
theorem Starts.cons {b : UInt8} (h : lxInner b = false) (s : List UInt8) : Starts (b :: s) := fun x t e => by cases e; exact h

theorem run_split {r s : List UInt8} (hr : ∀ x ∈ r, lxInner x = true) (hs : Starts s) : (r ++ s).takeWhile lxInner = r ∧ (r ++ s).dropWhile lxInner = s := by
  induction r with
  | nil =>
    cases s with
    | nil => exact ⟨rfl, rfl⟩
    | cons x t => simp [hs x t rfl]
  | cons b r ih =>
    have h1 := hr b (by simp)
    have h2 := ih (fun x hx => hr x (by simp [hx]))
    simp [h1, h2]

theorem lexS_runs {r s : List UInt8} (hn : r ≠ []) (hr : ∀ x ∈ r, lxInner x = true) (hs : Starts s) (l c : Nat) : lexS (r ++ s) l c =
    match classify r with
    | .error e => .error (l, c, e)
    | .ok (k, v) => (lexS s l (c + r.length)).map fun ts => ⟨k, r, v, l, c⟩ :: ts := by
  cases r with
  | nil => exact absurd rfl hn
  | cons b r =>
    have h1 := hr b (by simp)
    obtain ⟨h2, h3⟩ := run_split hr hs
    have h4 := inner_not h1
    have h5 := lexS_run h4.1 h4.2 h1 (r ++ s) l c
    rw [← List.cons_append, h2, h3] at h5
    exact h5

theorem lex_split (s : List UInt8) (h : ∃ b t, s = b :: t ∧ lxInner b = true) : ∃ r q, s = r ++ q ∧ r ≠ [] ∧ (∀ x ∈ r, lxInner x = true) ∧ Starts q ∧ q.length < s.length := by
  obtain ⟨b, t, rfl, hb⟩ := h
  refine ⟨(b :: t).takeWhile lxInner, (b :: t).dropWhile lxInner, (List.takeWhile_append_dropWhile).symm, by simp [hb], fun x hx => ?_, ?_, ?_⟩
  · have := List.all_takeWhile (p := lxInner) (l := b :: t)
    exact List.all_eq_true.1 this x hx
  · intro x q hq
    have h1 := List.head?_dropWhile_not (p := lxInner) (b :: t)
    rw [hq] at h1
    simpa using h1
  · have := dropWhile_le lxInner t
    simp [hb]
    omega

theorem lex_ind {M : List UInt8 → Nat → Nat → Except (Nat × Nat × Nat) (List Tok) → Prop}
    (nil : ∀ l c, M [] l c (.ok [⟨0, [], 0, l, c⟩]))
    (line : ∀ b s l c, b.toNat = 10 → lxBlank b = true → M s (l + 1) 1 (lexS s (l + 1) 1) → M (b :: s) l c (lexS s (l + 1) 1))
    (blank : ∀ b s l c, lxBlank b = true → b.toNat ≠ 10 → M s l (c + 1) (lexS s l (c + 1)) → M (b :: s) l c (lexS s l (c + 1)))
    (mark : ∀ b s l c, lxMark b = true → M s l (c + 1) (lexS s l (c + 1)) → M (b :: s) l c ((lexS s l (c + 1)).map fun ts => ⟨4, [b], 0, l, c⟩ :: ts))
    (run : ∀ r s l c k v, r ≠ [] → (∀ x ∈ r, lxInner x = true) → Starts s → classify r = .ok (k, v) → M s l (c + r.length) (lexS s l (c + r.length)) → M (r ++ s) l c ((lexS s l (c + r.length)).map fun ts => ⟨k, r, v, l, c⟩ :: ts))
    (badrun : ∀ r s l c e, r ≠ [] → (∀ x ∈ r, lxInner x = true) → Starts s → classify r = .error e → M (r ++ s) l c (.error (l, c, e)))
    (bad : ∀ b s l c, lxBlank b = false → lxMark b = false → lxInner b = false → M (b :: s) l c (.error (l, c, 3))) :
    ∀ (n : Nat) (s : List UInt8), s.length ≤ n → ∀ l c, M s l c (lexS s l c)
  | _, [], _, l, c => nil l c
  | 0, b :: s, h, l, c => by simp at h
  | n + 1, b :: s, h, l, c => by
    have hl : s.length ≤ n := by simpa using h
    have ih := lex_ind nil line blank mark run badrun bad n
    cases hb : lxBlank b with
    | true =>
      by_cases h10 : b.toNat = 10
      · rw [lexS_line h10]
        exact line b s l c h10 hb (ih s hl _ _)
      · rw [lexS_blank hb h10]
        exact blank b s l c hb h10 (ih s hl _ _)
    | false =>
      cases hm : lxMark b with
      | true =>
        rw [lexS_mark hb hm]
        exact mark b s l c hm (ih s hl _ _)
      | false =>
        cases hi : lxInner b with
        | false =>
          rw [lexS_bad hb hm hi]
          exact bad b s l c hb hm hi
        | true =>
          obtain ⟨r, q, e, hn, hr, hq, hlt⟩ := lex_split (b :: s) ⟨b, s, rfl, hi⟩
          rw [e, lexS_runs hn hr hq]
          cases hc : classify r with
          | error x => exact badrun r q l c x hn hr hq hc
          | ok kv =>
            obtain ⟨k, v⟩ := kv
            exact run r q l c k v hn hr hq hc (ih q (by simp at hlt h; omega) _ _)

/-- a token that is no end of text: what it must be -/
def Real (k : Nat) (r : List UInt8) (v : Nat) : Prop := (∃ b, r = [b] ∧ lxMark b = true ∧ k = 4 ∧ v = 0) ∨ (r ≠ [] ∧ (∀ x ∈ r, lxInner x = true) ∧ classify r = .ok (k, v))
theorem Real.ne {k v : Nat} {r : List UInt8} (h : Real k r v) : r ≠ [] := by
  rcases h with ⟨b, rfl, _⟩ | ⟨h, _⟩
  · simp
  · exact h
theorem classify_kind {r : List UInt8} {k v : Nat} (h : classify r = .ok (k, v)) : k = 1 ∨ k = 2 ∨ k = 3 := by
  cases r with
  | nil => cases h
  | cons b t =>
    simp only [classify] at h
    split at h
    · split at h
      · cases h
      · split at h
        · cases h
        · cases h; simp
    · split at h
      · cases h
      · split at h
        · cases h; simp
        · split at h
          · cases h
          · cases h; simp
theorem Real.kind {k v : Nat} {r : List UInt8} (h : Real k r v) : k = 1 ∨ k = 2 ∨ k = 3 ∨ k = 4 := by
  rcases h with ⟨b, _, _, rfl, _⟩ | ⟨_, _, h⟩
  · simp
  · rcases classify_kind h with h | h | h <;> simp [h]

theorem lexS_tok {k v : Nat} {r s : List UInt8} (h : Real k r v) (hs : Starts s) (l c : Nat) : lexS (r ++ s) l c = (lexS s l (c + r.length)).map fun ts => ⟨k, r, v, l, c⟩ :: ts := by
  rcases h with ⟨b, rfl, hm, rfl, rfl⟩ | ⟨hn, hr, hc⟩
  · exact lexS_mark (mark_not hm).2 hm s l c
  · rw [lexS_runs hn hr hs, hc]

/-- the tokens of a text: what they are, and the last -/
theorem lexS_real (s : List UInt8) (l c : Nat) (ts : List Tok) (h : lexS s l c = .ok ts) : ∃ ts' l' c', ts = ts' ++ [⟨0, [], 0, l', c'⟩] ∧ (∀ t ∈ ts', Real t.kind t.text t.val) ∧ (ts'.map fun t => t.text.length).sum ≤ s.length ∧ ts'.length ≤ s.length := by
  refine lex_ind (M := fun s l c R => ∀ ts, R = .ok ts → ∃ ts' l' c', ts = ts' ++ [⟨0, [], 0, l', c'⟩] ∧ (∀ t ∈ ts', Real t.kind t.text t.val) ∧ (ts'.map fun t => t.text.length).sum ≤ s.length ∧ ts'.length ≤ s.length) ?_ ?_ ?_ ?_ ?_ ?_ ?_ s.length s (Nat.le_refl _) l c ts h
  · intro l c ts h
    cases h
    exact ⟨[], l, c, rfl, by simp, by simp, by simp⟩
  · intro x s l c h hb ih ts he
    obtain ⟨ts', l', c', h1, h2, h3, h4⟩ := ih ts he
    exact ⟨ts', l', c', h1, h2, by simp; omega, by simp; omega⟩
  · intro x s l c hb h ih ts he
    obtain ⟨ts', l', c', h1, h2, h3, h4⟩ := ih ts he
    exact ⟨ts', l', c', h1, h2, by simp; omega, by simp; omega⟩
  · intro x s l c hm ih ts he
    generalize lexS s l (c + 1) = R at ih he
    cases R with
    | error e => cases he
    | ok us =>
      cases he
      obtain ⟨ts', l', c', rfl, h2, h3, h4⟩ := ih _ rfl
      refine ⟨⟨4, [x], 0, l, c⟩ :: ts', l', c', rfl, ?_, ?_, ?_⟩
      · intro t ht
        rcases List.mem_cons.1 ht with rfl | ht
        · exact Or.inl ⟨x, rfl, hm, rfl, rfl⟩
        · exact h2 t ht
      · simp; omega
      · simp; omega
  · intro r s l c k v hn hr hs hc ih ts he
    generalize lexS s l (c + r.length) = R at ih he
    cases R with
    | error e => cases he
    | ok us =>
      cases he
      obtain ⟨ts', l', c', rfl, h2, h3, h4⟩ := ih _ rfl
      have hl : 0 < r.length := List.length_pos_iff.2 hn
      refine ⟨⟨k, r, v, l, c⟩ :: ts', l', c', rfl, ?_, ?_, ?_⟩
      · intro t ht
        rcases List.mem_cons.1 ht with rfl | ht
        · exact Or.inr ⟨hn, hr, hc⟩
        · exact h2 t ht
      · simp; omega
      · simp; omega
  · intro r s l c e hn hr hs hc ts he
    cases he
  · intro x s l c hb hm hi ts he
    cases he

/-- what a token is, its place apart -/
def Tok.key (t : Tok) : Nat × List UInt8 × Nat := (t.kind, t.text, t.val)

/-- the only token of a text that is this text itself -/
def oneF (s : List UInt8) : Option (Nat × Nat) :=
  match lexT s with
  | .ok [t, _] => if t.text = s then some (t.kind, t.val) else none
  | _ => none
theorem oneF_real {s : List UInt8} {k v : Nat} : oneF s = some (k, v) ↔ s.length ≤ 65536 ∧ Real k s v := by
  constructor
  · intro h
    unfold oneF lexT at h
    by_cases hl : 65536 < s.length
    · rw [if_pos hl] at h; cases h
    · rw [if_neg hl] at h
      refine ⟨by omega, ?_⟩
      split at h
      · rename_i t t2 he
        obtain ⟨ts', l', c', h1, h2, h3, h4⟩ := lexS_real s 1 1 _ he
        split at h
        · rename_i hts
          cases h
          have h5 : ts' = [t] := by
            cases ts' with
            | nil => simp at h1
            | cons a ts' =>
              simp at h1
              obtain ⟨rfl, h1⟩ := h1
              cases ts' with
              | nil => rfl
              | cons b ts' => simp at h1
          subst h5
          have := h2 t (by simp)
          rwa [hts] at this
        · cases h
      · cases h
  · rintro ⟨hl, hr⟩
    unfold oneF lexT
    rw [if_neg (by omega)]
    have h1 := lexS_tok hr Starts.nil 1 1
    rw [List.append_nil, lexS_nil] at h1
    rw [h1]
    simp [Except.map]
end Go.PL


namespace Go.PL

theorem lxNum_fold (s : List UInt8) : ∀ n : Nat, s.foldl (fun n b => 10 * n + (b.toNat - 48)) n = n * 10 ^ s.length + lxNum s := by
  induction s with
  | nil => intro n; simp [lxNum]
  | cons b s ih =>
    intro n
    have h1 := ih (10 * n + (b.toNat - 48))
    have h2 := ih (10 * 0 + (b.toNat - 48))
    rw [List.foldl_cons, h1]
    show _ = n * 10 ^ (s.length + 1) + s.foldl (fun n b => 10 * n + (b.toNat - 48)) (10 * 0 + (b.toNat - 48))
    rw [h2, Nat.pow_succ, Nat.add_mul, Nat.mul_zero, Nat.zero_add, Nat.add_assoc]
    congr 1
    rw [Nat.mul_comm 10 n, Nat.mul_assoc, Nat.mul_comm 10]
theorem lxNum_cons (b : UInt8) (s : List UInt8) : lxNum (b :: s) = (b.toNat - 48) * 10 ^ s.length + lxNum s := by
  show s.foldl (fun n b => 10 * n + (b.toNat - 48)) (10 * 0 + (b.toNat - 48)) = _
  rw [lxNum_fold]
  simp

/-- s holds the last digits of k, m the number that the others spell -/
structure NumI (k : Nat) (s : List UInt8) (m : Nat) : Prop where
  dig : ∀ x ∈ s, lxDigit x = true
  val : lxNum s + m * 10 ^ s.length = k
  lead : m = 0 → s ≠ [] → s.length = 1 ∨ ∃ x t, s = x :: t ∧ x.toNat ≠ 48
  few : s.length ≤ 1 ∨ 10 ^ (s.length - 1) ≤ k
theorem digit_nat (m : Nat) : (UInt8.ofNat (48 + m % 10)).toNat = 48 + m % 10 := by
  rw [UInt8.toNat_ofNat']
  omega
theorem NumI.step {k m : Nat} {s : List UInt8} (h : NumI k s m) (hs : s = [] ∨ 0 < m) : NumI k (UInt8.ofNat (48 + m % 10) :: s) (m / 10) := by
  have hd := digit_nat m
  generalize UInt8.ofNat (48 + m % 10) = d at *
  have hv := h.val
  refine ⟨?_, ?_, ?_, ?_⟩
  · intro x hx
    rcases List.mem_cons.1 hx with rfl | hx
    · simp [lxDigit, hd]; omega
    · exact h.dig x hx
  · rw [lxNum_cons, hd, List.length_cons, Nat.pow_succ, ← hv]
    have h1 : m = 10 * (m / 10) + m % 10 := (Nat.div_add_mod m 10).symm
    generalize m / 10 = q at *
    generalize m % 10 = r at *
    subst h1
    rw [show 48 + r - 48 = r by omega, Nat.add_mul, show q * (10 ^ s.length * 10) = 10 * q * 10 ^ s.length by rw [Nat.mul_comm (10 ^ s.length) 10, ← Nat.mul_assoc, Nat.mul_comm q 10]]
    omega
  · intro h0 _
    rcases hs with rfl | hm
    · exact Or.inl rfl
    · refine Or.inr ⟨d, s, rfl, ?_⟩
      rw [hd]
      omega
  · rcases hs with rfl | hm
    · exact Or.inl (by simp)
    · refine Or.inr ?_
      rw [List.length_cons, Nat.add_sub_cancel, ← hv]
      have : 1 * 10 ^ s.length ≤ m * 10 ^ s.length := Nat.mul_le_mul_right _ hm
      omega
end Go.PL


namespace Go.PL
open Go.RowKit

/-- a string of these bytes -/
def bs (l : List UInt8) : ByteArray := ⟨l.toArray⟩
/-- the cells of a token -/
def tkC (t : Tok) : List Value := [.int .i64 t.kind, .string (bs t.text), .int .i64 t.val, .int .i64 t.line, .int .i64 t.col]

/-- a slice of n elements, z cells each, that is only read -/
def SlN (w : World) (z : Nat) (v : Value) (n : Nat) (xs : List Value) : Prop :=
  xs.length = n * z ∧ ((n = 0 ∧ ∃ a c, v = .slice a 0 c) ∨ ∃ g o c, v = .slice (some ⟨g, o, none⟩) n c ∧ ∀ j u, xs[j]? = some u → w.cell? ⟨g, o + j, none⟩ = some u)

theorem SlN.len {w : World} {z : Nat} {v : Value} {n : Nat} {xs : List Value} (h : SlN w z v n xs) : ∃ a c, v = .slice a n c := by
  rcases h.2 with ⟨rfl, a, c, rfl⟩ | ⟨g, o, c, rfl, _⟩
  · exact ⟨a, c, rfl⟩
  · exact ⟨_, c, rfl⟩
theorem SlN.of_row {w : World} {B : Nat} {e : TypeId} {z : Nat} {v : Value} {n : Nat} {xs : List Value} (h : w.ownsRow B e z v n xs) : SlN w z v n xs := by
  refine ⟨h.1, ?_⟩
  rcases h.2 with ⟨rfl, rfl⟩ | ⟨g, cap, cur, rfl, _, hh, _, _, _, ht⟩
  · exact Or.inl ⟨rfl, none, 0, rfl⟩
  · refine Or.inr ⟨g, 0, cap, rfl, fun j u hj => ?_⟩
    rw [cell_of hh, Nat.zero_add]
    rw [← ht, List.getElem?_take] at hj
    split at hj
    · simpa using hj
    · cases hj
theorem SlN.upto {S : List Nat} {w w' : World} {z : Nat} {v : Value} {n : Nat} {xs : List Value} (h : SlN w z v n xs) (hu : Upto S w w') (hs : ∀ g o n c, v = .slice (some ⟨g, o, none⟩) n c → g ∉ S) : SlN w' z v n xs := by
  refine ⟨h.1, ?_⟩
  rcases h.2 with h | ⟨g, o, c, rfl, hc⟩
  · exact Or.inl h
  · refine Or.inr ⟨g, o, c, rfl, fun j u hj => ?_⟩
    have h1 := hc j u hj
    rw [← h1]
    exact hu.cell (World.block_lt_of_cell? w _ h1) (hs g o _ c rfl)
theorem SlN.ext {w w' : World} {z : Nat} {v : Value} {n : Nat} {xs : List Value} (h : SlN w z v n xs) (hu : Upto [] w w') : SlN w' z v n xs := h.upto hu (by simp)

theorem flatMap_at {α : Type} (f : α → List Value) (z : Nat) (hz : ∀ a, (f a).length = z) : ∀ (l : List α) (i j : Nat) (a : α), l[i]? = some a → j < z → (l.flatMap f)[i * z + j]? = (f a)[j]?
  | [], i, j, a, h, _ => by simp at h
  | b :: l, 0, j, a, h, hj => by
    simp at h
    subst h
    rw [List.flatMap_cons, Nat.zero_mul, Nat.zero_add, List.getElem?_append_left (by rw [hz]; exact hj)]
  | b :: l, i + 1, j, a, h, hj => by
    have := flatMap_at f z hz l i j a (by simpa using h) hj
    rw [List.flatMap_cons, List.getElem?_append_right (by rw [hz, Nat.add_mul]; omega), hz, ← this]
    congr 1
    rw [Nat.add_mul]
    omega
/-- a slice of tokens -/
def Toks (w : World) (v : Value) (ts : List Tok) : Prop := SlN w 5 v ts.length (ts.flatMap tkC)
theorem Toks.len {w : World} {v : Value} {ts : List Tok} (h : Toks w v ts) : ∃ a c, v = .slice a ts.length c := SlN.len h
theorem Toks.ext {w w' : World} {v : Value} {ts : List Tok} (h : Toks w v ts) (hu : Upto [] w w') : Toks w' v ts := SlN.ext h hu
theorem Toks.upto {S : List Nat} {w w' : World} {v : Value} {ts : List Tok} (h : Toks w v ts) (hu : Upto S w w') (hs : ∀ g o n c, v = .slice (some ⟨g, o, none⟩) n c → g ∉ S) : Toks w' v ts := SlN.upto h hu hs
/-- where a slice of tokens lies -/
def TokAt (w : World) (g o : Nat) (ts : List Tok) : Prop := ∀ i t, ts[i]? = some t → w.cell? ⟨g, o + i * 5, none⟩ = some (.int .i64 t.kind) ∧ w.cell? ⟨g, o + i * 5 + 1, none⟩ = some (.string (bs t.text)) ∧ w.cell? ⟨g, o + i * 5 + 2, none⟩ = some (.int .i64 t.val) ∧ w.cell? ⟨g, o + i * 5 + 3, none⟩ = some (.int .i64 t.line) ∧ w.cell? ⟨g, o + i * 5 + 4, none⟩ = some (.int .i64 t.col)
theorem Toks.at {w : World} {v : Value} {ts : List Tok} (h : Toks w v ts) : (ts = [] ∧ ∃ a c, v = .slice a 0 c) ∨ ∃ g o c, v = .slice (some ⟨g, o, none⟩) ts.length c ∧ TokAt w g o ts := by
  rcases h.2 with ⟨h0, h1⟩ | ⟨g, o, c, h1, hc⟩
  · exact Or.inl ⟨List.eq_nil_of_length_eq_zero h0, h1⟩
  · refine Or.inr ⟨g, o, c, h1, fun i t ht => ?_⟩
    have key : ∀ j u, j < 5 → (tkC t)[j]? = some u → w.cell? ⟨g, o + (i * 5 + j), none⟩ = some u := fun j u hj hu => hc _ _ ((flatMap_at tkC 5 (fun _ => rfl) ts i j t ht hj).trans hu)
    exact ⟨key 0 _ (by decide) rfl, key 1 _ (by decide) rfl, key 2 _ (by decide) rfl, key 3 _ (by decide) rfl, key 4 _ (by decide) rfl⟩
theorem Toks.of_row {w : World} {B : Nat} {e : TypeId} {v : Value} {ts : List Tok} (h : w.ownsRow B e 5 v ts.length (ts.flatMap tkC)) : Toks w v ts := SlN.of_row h
theorem TokAt.ext {w w' : World} {g o : Nat} {ts : List Tok} (h : TokAt w g o ts) (hu : Upto [] w w') : TokAt w' g o ts := by
  intro i t ht
  obtain ⟨h0, h1, h2, h3, h4⟩ := h i t ht
  have k : ∀ {p : Addr} {u : Value}, w.cell? p = some u → w'.cell? p = some u := fun hp => (hu.cell (World.block_lt_of_cell? w _ hp) (by simp)).trans hp
  exact ⟨k h0, k h1, k h2, k h3, k h4⟩
theorem toks_snoc (ts : List Tok) (t : Tok) : (ts ++ [t]).flatMap tkC = ts.flatMap tkC ++ tkC t := by simp

end Go.PL


namespace Go.PL
open Go.RowKit

/-- the worlds in which all blocks of w read as in w -/
def Ext (w : World) : Type := { u : World // Upto [] w u }
instance (w : World) : Nonempty (Ext w) := ⟨⟨w, Upto.refl _ _⟩⟩
def Ext.w {v : World} (u : Ext v) : World := u.1
theorem Ext.up {v : World} (u : Ext v) : Upto [] v u.w := u.2
def Ext.mk {v u : World} (h : Upto [] v u) : Ext v := ⟨u, h⟩
theorem Ext.cell {w : World} (u : Ext w) {p : Addr} {x : Value} (h : w.cell? p = some x) : u.w.cell? p = some x := (u.up.cell (World.block_lt_of_cell? w p h) (by simp)).trans h

end Go.PL


namespace Go.Proofs
open Go.Shelf

def Tryz.lays137_ren : Go.Shelf.Ren := ⟨fun | 137 => 103 | 217 => 113 | 266 => 123 | n => n, fun | 9 => 9 | 5 => 5 | 3 => 3 | n => n, fun | n => n⟩

theorem Tryz.lays137 : Go.Proofs.Lays.n137 Tryz.prog Tryz.lays137_ren := {
  mixed := by kernel_rfl
  f137 := Tryz.func103.trans (congrArg some (by kernel_rfl))
  f217 := Tryz.func113.trans (congrArg some (by kernel_rfl))
  f266 := Tryz.func123.trans (congrArg some (by kernel_rfl))
  t3 := Tryz.underlying3
  a3 := Tryz.isAgg3
  z3 := Tryz.sizeOf3
  v3 := Tryz.zeroValue3
  t5 := Tryz.underlying5
  a5 := Tryz.isAgg5
  z5 := Tryz.sizeOf5
  v5 := Tryz.zeroValue5
  t9 := Tryz.underlying9
  a9 := Tryz.isAgg9
  z9 := Tryz.sizeOf9
  v9 := Tryz.zeroValue9 }

open Go.RowKit in
theorem Tryz.strings_IndexByte (s : ByteArray) (c : Int) (w : World) :
    Calls Tryz.prog 103 #[.string s, .int .u8 c] w fun e w' => e = .returned (.int .i64 (Lib.indexByte s.data.toList c.toNat.toUInt8)) ∧ w' = w := Any.strings_IndexByte Tryz.lays137 s c w

def Tryz.laysM157_ren : Go.Shelf.Ren := ⟨fun | 157 => 122 | 229 => 127 | 199 => 128 | 261 => 131 | 311 => 138 | 312 => 139 | n => n, fun | 9 => 9 | 31 => 22 | 3 => 3 | 5 => 5 | 4 => 4 | 119 => 166 | 0 => 0 | 40 => 168 | 152 => 172 | 21 => 21 | 154 => 174 | 51 => 156 | 141 => 176 | 196 => 185 | 193 => 182 | 198 => 188 | 49 => 186 | 194 => 183 | 201 => 191 | 226 => 197 | 46 => 158 | 227 => 198 | n => n, fun | 0 => 4 | 6 => 8 | n => n⟩

theorem Tryz.laysM157 : Go.Proofs.LaysM.n157 Tryz.prog Tryz.laysM157_ren := {
  mixed := by kernel_rfl
  f157 := Tryz.func122.trans (congrArg some (by kernel_rfl))
  f199 := Tryz.func128.trans (congrArg some (by kernel_rfl))
  f229 := Tryz.func127.trans (congrArg some (by kernel_rfl))
  f261 := Tryz.func131.trans (congrArg some (by kernel_rfl))
  f311 := Tryz.func138.trans (congrArg some (by kernel_rfl))
  f312 := Tryz.func139.trans (congrArg some (by kernel_rfl))
  t0 := Tryz.underlying0
  a0 := Tryz.isAgg0
  z0 := Tryz.sizeOf0
  v0 := Tryz.zeroValue0
  t3 := Tryz.underlying3
  a3 := Tryz.isAgg3
  z3 := Tryz.sizeOf3
  v3 := Tryz.zeroValue3
  t4 := Tryz.underlying4
  a4 := Tryz.isAgg4
  z4 := Tryz.sizeOf4
  v4 := Tryz.zeroValue4
  t5 := Tryz.underlying5
  a5 := Tryz.isAgg5
  z5 := Tryz.sizeOf5
  v5 := Tryz.zeroValue5
  t9 := Tryz.underlying9
  a9 := Tryz.isAgg9
  z9 := Tryz.sizeOf9
  v9 := Tryz.zeroValue9
  t21 := Tryz.underlying21
  a21 := Tryz.isAgg21
  z21 := Tryz.sizeOf21
  v21 := Tryz.zeroValue21
  t31 := Tryz.underlying22
  a31 := Tryz.isAgg22
  z31 := Tryz.sizeOf22
  v31 := Tryz.zeroValue22
  t40 := Tryz.underlying168
  a40 := Tryz.isAgg168
  z40 := Tryz.sizeOf168
  v40 := Tryz.zeroValue168
  t46 := Tryz.underlying158
  a46 := Tryz.isAgg158
  z46 := Tryz.sizeOf158
  v46 := Tryz.zeroValue158
  t49 := Tryz.underlying186
  a49 := Tryz.isAgg186
  z49 := Tryz.sizeOf186
  v49 := Tryz.zeroValue186
  t51 := Tryz.underlying156
  a51 := Tryz.isAgg156
  z51 := Tryz.sizeOf156
  v51 := Tryz.zeroValue156
  t119 := Tryz.underlying166
  a119 := Tryz.isAgg166
  z119 := Tryz.sizeOf166
  t141 := Tryz.underlying176
  a141 := Tryz.isAgg176
  z141 := Tryz.sizeOf176
  v141 := Tryz.zeroValue176
  t152 := Tryz.underlying172
  a152 := Tryz.isAgg172
  z152 := Tryz.sizeOf172
  v152 := Tryz.zeroValue172
  t154 := Tryz.underlying174
  a154 := Tryz.isAgg174
  z154 := Tryz.sizeOf174
  v154 := Tryz.zeroValue174
  t193 := Tryz.underlying182
  a193 := Tryz.isAgg182
  z193 := Tryz.sizeOf182
  v193 := Tryz.zeroValue182
  t194 := Tryz.underlying183
  a194 := Tryz.isAgg183
  z194 := Tryz.sizeOf183
  v194 := Tryz.zeroValue183
  t196 := Tryz.underlying185
  a196 := Tryz.isAgg185
  z196 := Tryz.sizeOf185
  v196 := Tryz.zeroValue185
  t198 := Tryz.underlying188
  a198 := Tryz.isAgg188
  z198 := Tryz.sizeOf188
  v198 := Tryz.zeroValue188
  t201 := Tryz.underlying191
  a201 := Tryz.isAgg191
  z201 := Tryz.sizeOf191
  v201 := Tryz.zeroValue191
  t226 := Tryz.underlying197
  a226 := Tryz.isAgg197
  z226 := Tryz.sizeOf197
  v226 := Tryz.zeroValue197
  t227 := Tryz.underlying198
  a227 := Tryz.isAgg198
  z227 := Tryz.sizeOf198
  v227 := Tryz.zeroValue198
  g0 := by kernel_rfl
  g6 := by kernel_rfl
  i0 := by kernel_rfl
  i3 := by kernel_rfl
  i4 := by kernel_rfl
  i5 := by kernel_rfl
  i9 := by kernel_rfl
  i21 := by kernel_rfl
  i31 := by kernel_rfl
  i40 := by kernel_rfl
  i46 := by kernel_rfl
  i49 := by kernel_rfl
  i51 := by kernel_rfl
  i141 := by kernel_rfl
  i152 := by kernel_rfl
  i154 := by kernel_rfl
  i193 := by kernel_rfl
  i194 := by kernel_rfl
  i196 := by kernel_rfl
  i198 := by kernel_rfl
  i201 := by kernel_rfl
  i226 := by kernel_rfl
  i227 := by kernel_rfl
  m0 := by kernel_rfl
  m6 := by kernel_rfl }

open Go.RowKit Go.Lib in
theorem Tryz.strings_Fields_laid (s : ByteArray) (w : World) (hs : s.size < 4294967281) (hascii : ∀ (j : Nat) b, s.data.toList[j]? = some b → b.toNat < 128) (htab : Lib.TabIs Tryz.prog w "strings.asciiSpace" .u8 Lib.asciiSpaceTab) :
    Calls Tryz.prog 122 #[.string s] w fun e w' =>
      e = .returned (.slice (some ⟨w.heap.size, 0, none⟩) (Lib.fields s.data.toList).length (Lib.fields s.data.toList).length) ∧ w' = w.alloc (.cells ((Lib.fields s.data.toList).map fun l => Value.string ⟨l.toArray⟩).toArray 9) := Any.strings_Fields_laid Tryz.laysM157 s w hs hascii htab
end Go.Proofs


namespace Go.Proofs.YtbnebkkpmcjmbaaGreatDoor
open Go.RowKit Go.PL Go.Maps

set_option maxRecDepth 100000 in
set_option maxHeartbeats 800000 in
theorem digit_calls (b : UInt8) (w : World) : Calls Tryz.prog 115 #[.int .u8 b.toNat] w fun e w' => e = .returned (.bool (lxDigit b)) ∧ w' = w := by
  have h := Lib.hid (show lxDigit b = (decide (48 ≤ b.toNat) && decide (b.toNat ≤ 57)) from rfl)
  generalize lxDigit b = r at *
  generalize b.toNat = n at *
  go_enter Tryz.func115, Tryz.ntmps115
  go_wp2
  all_goals
    go_ret
    refine ⟨ret_bool ?_, rfl⟩
    rw [h.out, Bool.eq_iff_iff]
    simp only [Bool.and_eq_true, decide_eq_true_eq, Bool.false_eq_true, false_iff, not_and]
    omega

set_option maxRecDepth 100000 in
set_option maxHeartbeats 800000 in
theorem letter_calls (b : UInt8) (w : World) : Calls Tryz.prog 114 #[.int .u8 b.toNat] w fun e w' => e = .returned (.bool (lxLetter b)) ∧ w' = w := by
  have h := Lib.hid (show lxLetter b = ((decide (97 ≤ b.toNat) && decide (b.toNat ≤ 122)) || (decide (65 ≤ b.toNat) && decide (b.toNat ≤ 90))) from rfl)
  generalize lxLetter b = r at *
  generalize b.toNat = n at *
  go_enter Tryz.func114, Tryz.ntmps114
  go_wp2
  all_goals
    go_ret
    refine ⟨ret_bool ?_, rfl⟩
    rw [h.out, Bool.eq_iff_iff]
    simp only [Bool.and_eq_true, Bool.or_eq_true, decide_eq_true_eq, Bool.false_eq_true, true_iff, false_iff, not_and, not_or]
    omega

set_option maxRecDepth 100000 in
set_option maxHeartbeats 800000 in
theorem digitR_calls (b : UInt8) (w : World) : Calls Tryz.prog 77 #[.int .u8 b.toNat] w fun e w' => e = .returned (.bool (lxDigit b)) ∧ w' = w := by
  have h := Lib.hid (show lxDigit b = (decide (48 ≤ b.toNat) && decide (b.toNat ≤ 57)) from rfl)
  generalize lxDigit b = r at *
  generalize b.toNat = n at *
  go_enter Tryz.func77, Tryz.ntmps77
  go_wp2
  all_goals
    go_ret
    refine ⟨ret_bool ?_, rfl⟩
    rw [h.out, Bool.eq_iff_iff]
    simp only [Bool.and_eq_true, decide_eq_true_eq, Bool.false_eq_true, false_iff, not_and]
    omega

set_option maxRecDepth 100000 in
set_option maxHeartbeats 800000 in
theorem letterR_calls (b : UInt8) (w : World) : Calls Tryz.prog 79 #[.int .u8 b.toNat] w fun e w' => e = .returned (.bool (lxLetter b)) ∧ w' = w := by
  have h := Lib.hid (show lxLetter b = ((decide (97 ≤ b.toNat) && decide (b.toNat ≤ 122)) || (decide (65 ≤ b.toNat) && decide (b.toNat ≤ 90))) from rfl)
  generalize lxLetter b = r at *
  generalize b.toNat = n at *
  go_enter Tryz.func79, Tryz.ntmps79
  go_wp2
  all_goals
    go_ret
    refine ⟨ret_bool ?_, rfl⟩
    rw [h.out, Bool.eq_iff_iff]
    simp only [Bool.and_eq_true, Bool.or_eq_true, decide_eq_true_eq, Bool.false_eq_true, true_iff, false_iff, not_and, not_or]
    omega

set_option maxRecDepth 100000 in
set_option maxHeartbeats 800000 in
theorem inner_calls (b : UInt8) (w : World) : Calls Tryz.prog 104 #[.int .u8 b.toNat] w fun e w' => e = .returned (.bool (lxInner b)) ∧ w' = w := by
  have HL := Lib.hid letter_calls
  have HD := Lib.hid digit_calls
  have h := Lib.hid (show lxInner b = (lxLetter b || lxDigit b || decide (b.toNat = 39)) from rfl)
  go_enter Tryz.func104, Tryz.ntmps104
  go_wp2_with fail
  refine (HL.out _ _).mono ?_
  rintro e w1 ⟨rfl, rfl⟩
  cases hl : lxLetter b with
  | true =>
    go_wp2_with fail
    go_ret
    refine ⟨ret_bool ?_, rfl⟩
    rw [h.out, hl]
    rfl
  | false =>
    go_wp2_with fail
    refine (HD.out _ _).mono ?_
    rintro e w1 ⟨rfl, rfl⟩
    cases hd : lxDigit b with
    | true =>
      go_wp2_with fail
      go_ret
      refine ⟨ret_bool ?_, rfl⟩
      rw [h.out, hl, hd]
      rfl
    | false =>
      go_wp2_with fail
      go_ret
      refine ⟨ret_bool ?_, rfl⟩
      rw [h.out, hl, hd, Bool.eq_iff_iff]
      simp only [Bool.false_or, decide_eq_true_eq, beq_iff_eq]
      omega

set_option maxRecDepth 100000 in
set_option maxHeartbeats 800000 in
theorem innerR_calls (b : UInt8) (w : World) : Calls Tryz.prog 76 #[.int .u8 b.toNat] w fun e w' => e = .returned (.bool (lxInner b)) ∧ w' = w := by
  have HL := Lib.hid letterR_calls
  have HD := Lib.hid digitR_calls
  have h := Lib.hid (show lxInner b = (lxLetter b || lxDigit b || decide (b.toNat = 39)) from rfl)
  go_enter Tryz.func76, Tryz.ntmps76
  go_wp2_with fail
  refine (HL.out _ _).mono ?_
  rintro e w1 ⟨rfl, rfl⟩
  cases hl : lxLetter b with
  | true =>
    go_wp2_with fail
    go_ret
    refine ⟨ret_bool ?_, rfl⟩
    rw [h.out, hl]
    rfl
  | false =>
    go_wp2_with fail
    refine (HD.out _ _).mono ?_
    rintro e w1 ⟨rfl, rfl⟩
    cases hd : lxDigit b with
    | true =>
      go_wp2_with fail
      go_ret
      refine ⟨ret_bool ?_, rfl⟩
      rw [h.out, hl, hd]
      rfl
    | false =>
      go_wp2_with fail
      go_ret
      refine ⟨ret_bool ?_, rfl⟩
      rw [h.out, hl, hd, Bool.eq_iff_iff]
      simp only [Bool.false_or, decide_eq_true_eq, beq_iff_eq]
      omega

theorem byte_back (b : UInt8) : (b.toNat : Int).toNat.toUInt8 = b := by simp
theorem contains_idx (l : List UInt8) (b : UInt8) : decide (0 ≤ Go.Lib.indexByte l b) = l.contains b := by
  induction l with
  | nil => rfl
  | cons c l ih =>
    have hge := Go.Lib.indexByte_ge l b
    rw [List.contains_cons, ← ih, Go.Lib.indexByte]
    by_cases h : c = b
    · subst h; simp
    · have h2 : (b == c) = false := by simp; exact fun e => h e.symm
      have h1 : (c == b) = false := by simp [h]
      rw [h1, h2, Bool.false_or, if_neg (by simp)]
      by_cases h3 : Go.Lib.indexByte l b = -1
      · rw [h3]; rfl
      · rw [if_neg (by simpa using h3), Bool.eq_iff_iff, decide_eq_true_eq, decide_eq_true_eq]
        omega
theorem idx_blank (b : UInt8) : decide (0 ≤ Go.Lib.indexByte [9, 10, 13, 32] b) = lxBlank b := by
  rw [contains_idx, Bool.eq_iff_iff]
  simp only [lxBlank, List.contains_iff_mem, List.mem_cons, List.not_mem_nil, or_false, Bool.or_eq_true, decide_eq_true_eq, ← UInt8.toNat_inj]
  simp
  omega
theorem idx_mark (b : UInt8) : decide (0 ≤ Go.Lib.indexByte [61, 40, 41, 44, 58, 59] b) = lxMark b := by
  rw [contains_idx, Bool.eq_iff_iff]
  simp only [lxMark, List.contains_iff_mem, List.mem_cons, List.not_mem_nil, or_false, Bool.or_eq_true, decide_eq_true_eq, ← UInt8.toNat_inj]
  simp
  omega

set_option maxRecDepth 100000 in
set_option maxHeartbeats 800000 in
theorem blank_calls (b : UInt8) (w : World) : Calls Tryz.prog 102 #[.int .u8 b.toNat] w fun e w' => e = .returned (.bool (lxBlank b)) ∧ w' = w := by
  have HI := Lib.hid (Tryz.strings_IndexByte ⟨#[9, 10, 13, 32]⟩ b.toNat)
  have h := Lib.hid (idx_blank b)
  have hb := Lib.hid (byte_back b)
  go_enter Tryz.func102, Tryz.ntmps102
  go_wp2_with fail
  refine (HI.out _).mono ?_
  rintro e w1 ⟨rfl, rfl⟩
  rw [hb.out]
  generalize Go.Lib.indexByte [9, 10, 13, 32] b = k at *
  go_wp2
  go_ret
  exact ⟨ret_bool h.out, rfl⟩

theorem run_enter {P : Program} {f : FuncId} {fn : Func} {c : Code} (hf : P.funcs[f]? = some fn) (hname : (fn.name == "runtime.NumGoroutine") = false) (hb : fn.body = some c) (args : Array Value) (w : World) : (callFunc f args).run P w = .ok (.enter f args) w := by
  have h1 : fn.name ≠ "runtime.NumGoroutine" := by simpa using hname
  simp [callFunc, hf, h1, hb]

/-- the byte of a string at a place below its length -/
theorem str_at {s : List UInt8} {k : Nat} {b : UInt8} (h : s[k]? = some b) : ∀ (hk : k < (ByteArray.mk s.toArray).size), (ByteArray.mk s.toArray)[k]'hk = b := by
  intro hk
  obtain ⟨h1, h2⟩ := List.getElem?_eq_some_iff.1 h
  rw [← h2]
  rfl

theorem take_step {p : UInt8 → Bool} {s : List UInt8} {k : Nat} {b : UInt8} (h : s[k]? = some b) (hp : p b = true) : ((s.drop k).takeWhile p).length = 1 + ((s.drop (k + 1)).takeWhile p).length := by
  obtain ⟨h1, h2⟩ := List.getElem?_eq_some_iff.1 h
  rw [List.drop_eq_getElem_cons h1, h2, List.takeWhile_cons, if_pos hp, List.length_cons]
  omega
theorem take_stop {p : UInt8 → Bool} {s : List UInt8} {k : Nat} {b : UInt8} (h : s[k]? = some b) (hp : p b = false) : ((s.drop k).takeWhile p).length = 0 := by
  obtain ⟨h1, h2⟩ := List.getElem?_eq_some_iff.1 h
  rw [List.drop_eq_getElem_cons h1, h2, List.takeWhile_cons, if_neg (by simp [hp])]
  rfl

set_option maxRecDepth 100000 in
set_option maxHeartbeats 800000 in
theorem cut_calls (N : FuncId) (p : UInt8 → Bool) (hc : ∀ args w, (callFunc N args).run Tryz.prog w = .ok (.enter N args) w) (hN : ∀ (b : UInt8) (w : World), Calls Tryz.prog N #[.int .u8 b.toNat] w fun e w' => e = .returned (.bool (p b)) ∧ w' = w) (s : List UInt8) (hl : s.length ≤ 4611686018427387904) (w : World) :
    Calls Tryz.prog 105 #[.string ⟨s.toArray⟩, .func (.func N) #[] #[]] w fun e w' => e = .returned (.int .i64 (s.takeWhile p).length) ∧ w' = w := by
  have HN := Lib.hid hN
  have hsz : (ByteArray.mk s.toArray).size = s.length := rfl
  clear hN
  go_enter Tryz.func105, Tryz.ntmps105
  go_wp2_with fail
  go_loopw [5] (fun i wr => ∃ k : Nat, k ≤ s.length ∧ i = .int .i64 k ∧ (s.takeWhile p).length = k + ((s.drop k).takeWhile p).length ∧ wr = w) (fun i _ => s.length - (intOf i).toNat)
  case atStart => exact ⟨0, Nat.zero_le _, rfl, by simp, rfl⟩
  case round =>
    obtain ⟨k, hk, rfl, he, rfl⟩ := hrel
    have HE := Lib.hid he
    clear he
    rcases Nat.lt_or_ge k s.length with hlt | hge
    · obtain ⟨b, hb⟩ : ∃ b, s[k]? = some b := ⟨s[k], List.getElem?_eq_getElem hlt⟩
      have hat := str_at hb
      have HB := Lib.hid hb
      clear hb
      have hlt' : (k : Int) < s.length := by omega
      go_wp2_with fail
      refine (HN.out _ _).mono ?_
      rintro e w1 ⟨rfl, rfl⟩
      cases hp : p b with
      | true =>
        go_wp2_with fail
        go_roundw
        case rel => exact ⟨k + 1, by omega, by go_num, by rw [HE.out, take_step HB.out hp]; omega, trivial⟩
        case measure => simp [intOf]; omega
      | false =>
        go_wp2_with fail
        go_ret
        refine ⟨ret_int ?_, rfl⟩
        rw [HE.out, take_stop HB.out hp]
        omega
    · have hge' : ¬ (k : Int) < s.length := by omega
      go_wp2_with fail
      go_ret
      refine ⟨ret_int ?_, rfl⟩
      rw [HE.out, List.drop_eq_nil_of_le hge]
      simp
end Go.Proofs.YtbnebkkpmcjmbaaGreatDoor


namespace Go.Proofs.YtbnebkkpmcjmbaaGreatDoor
open Go.RowKit Go.PL Go.Maps Go.Shelf

theorem ext_of {w w' : World} (h : Below w.heap.size w w') : Upto [] w w' := Upto.of_below h

/-- the number of a run of digits, as ParseUint reckons it -/
theorem parse_digits : ∀ (l : List UInt8) (acc : Nat), (∀ x ∈ l, lxDigit x = true) → acc ≤ 2147483647 →
    Go.Lib.parseUintM 2147483647 acc l = if acc * 10 ^ l.length + lxNum l ≤ 2147483647 then .ok (acc * 10 ^ l.length + lxNum l) else .range
  | [], acc, _, h => by simp [Go.Lib.parseUintM, lxNum, h]
  | c :: l, acc, hd, h => by
    have hc := hd c (by simp)
    simp only [lxDigit, Bool.and_eq_true, decide_eq_true_eq] at hc
    have h1 : ¬ 1844674407370955162 ≤ acc := by omega
    have e : acc * 10 ^ (l.length + 1) + lxNum (c :: l) = (acc * 10 + (c.toNat - 48)) * 10 ^ l.length + lxNum l := by
      rw [lxNum_cons, Nat.pow_succ, Nat.add_mul, Nat.mul_comm (10 ^ l.length) 10, Nat.mul_assoc]
      omega
    rw [Go.Lib.parseUintM, if_pos hc, if_neg h1, List.length_cons, e]
    by_cases hov : 2147483647 < acc * 10 + (c.toNat - 48)
    · rw [if_pos hov, if_neg]
      have hp : 1 ≤ 10 ^ l.length := Nat.pos_of_ne_zero (by simp)
      have : (acc * 10 + (c.toNat - 48)) * 1 ≤ (acc * 10 + (c.toNat - 48)) * 10 ^ l.length := Nat.mul_le_mul_left _ hp
      omega
    · rw [if_neg hov, parse_digits l _ (fun x hx => hd x (by simp [hx])) (by omega)]

set_option maxRecDepth 100000 in
set_option maxHeartbeats 8000000 in
theorem parse96 (t : ByteArray) (hne : t.size ≠ 0) (hmax : t.size ≤ 9223372036854775806) (hdg : ∀ x ∈ t.data.toList, lxDigit x = true) (w : World) :
    Calls Tryz.prog 129 #[.string t, .int .i64 10, .int .i64 31] w fun e w' => e = .returned (Lib.uintTupleM 177 2147483647 (Lib.parseUintM 2147483647 0 t.data.toList)) ∧ w' = Lib.bytesWorld w 5 t := by
  have hemp : t.toList.isEmpty = false := by
    rw [← decide_eq_emptyBytes]
    exact decide_eq_false (fun h => hne (by rw [h]; rfl))
  have hcv := Lib.run_convert_string_bytes (P := Tryz.prog) w 9 124 5 t (u := .string) Tryz.underlying9 Tryz.underlying124 Tryz.underlying5
  have hB : ∀ j, j < t.size → (Lib.bytesWorld w 5 t).cell? ⟨w.heap.size, j, none⟩ = some (.int .u8 (t.data.toList.getD j 0).toNat) := fun j hj => Lib.bytesWorld_cell w 5 t j hj
  obtain ⟨W1, hW1⟩ : ∃ W1, W1 = Lib.bytesWorld w 5 t := ⟨_, rfl⟩
  rw [← hW1] at hcv hB ⊢
  clear hW1
  obtain ⟨bs, hL⟩ : ∃ bs, bs = t.data.toList := ⟨_, rfl⟩
  have hLn : bs.length = t.size := by rw [hL, Lib.size_eq]
  rw [← hL] at hB hdg ⊢
  clear hL
  have hmv : IntKind.u64.wrap (IntKind.u64.wrap 2147483648 - 1) = 2147483647 := by
    rw [IntKind.wrap_u64, IntKind.wrap_u64]
    decide
  have HDG := Lib.hid hdg
  clear hdg
  go_enter Tryz.func129, Tryz.ntmps129
  go_wp2
  go_loop [12, 13, 101] (fun vu vn vi => ∃ (k acc : Nat) (a : Int), vu = .bool false ∧ vn = .int .u64 a ∧ vi = .int .i64 k ∧ k ≤ t.size ∧ Hid (a = (acc : Int) ∧ acc ≤ 2147483647 ∧ Lib.parseUintM 2147483647 0 bs = Lib.parseUintM 2147483647 acc (bs.drop k)))
    (fun _ _ vi => t.size - (intOf vi).toNat)
  case atStart => exact ⟨0, 0, 0, rfl, rfl, rfl, by omega, Lib.hid ⟨rfl, by omega, rfl⟩⟩
  case round =>
    obtain ⟨k, acc, a, rfl, rfl, rfl, hk, hh⟩ := hrel
    obtain ⟨ha, hacc, hdec⟩ := hh.out
    clear hh
    have a0 : 0 ≤ a := by omega
    have a1 : a ≤ 2147483647 := by omega
    by_cases hkn : k < t.size
    · have hc := hB k hkn
      have hdrop : bs.drop k = bs[k]'(by omega) :: bs.drop (k + 1) := List.drop_eq_getElem_cons (by omega)
      have hget : bs.getD k 0 = bs[k]'(by omega) := by simp [List.getD, List.getElem?_eq_getElem (show k < bs.length by omega)]
      have hdig := HDG.out _ (List.getElem_mem (show k < bs.length by omega))
      rw [hdrop] at hdec
      rw [hget] at hc
      generalize bs[k]'(by omega) = c at hc hdec hdig
      simp only [lxDigit, Bool.and_eq_true, decide_eq_true_eq] at hdig
      have hc256 : c.toNat < 256 := c.toNat_lt
      clear hB hdrop hget
      obtain ⟨hd0, hd1⟩ := hdig
      have hcut : ¬ 1844674407370955162 ≤ acc := by omega
      by_cases hov : 2147483647 < acc * 10 + (c.toNat - 48)
      · have hF : Lib.parseUintM 2147483647 acc (c :: bs.drop (k + 1)) = .range := by simp [Lib.parseUintM, hd0, hd1, hcut, hov]
        rw [hF] at hdec
        have iov : 2147483647 < a * 10 + ((c.toNat : Int) - 48) := by omega
        clear hcut hacc hF hov ha
        go_wp2
        go_ret2
        exact ⟨rfl, rfl⟩
      · have hF : Lib.parseUintM 2147483647 acc (c :: bs.drop (k + 1)) = Lib.parseUintM 2147483647 (acc * 10 + (c.toNat - 48)) (bs.drop (k + 1)) := by simp [Lib.parseUintM, hd0, hd1, hcut, hov]
        have HN : Hid (a * 10 + ((c.toNat : Int) - 48) = ((acc * 10 + (c.toNat - 48) : Nat) : Int) ∧ acc * 10 + (c.toNat - 48) ≤ 2147483647 ∧ Lib.parseUintM 2147483647 0 bs = Lib.parseUintM 2147483647 (acc * 10 + (c.toNat - 48)) (bs.drop (k + 1))) := Lib.hid ⟨by omega, by omega, hdec.trans hF⟩
        have iov : a * 10 + ((c.toNat : Int) - 48) ≤ 2147483647 := by omega
        clear hcut hacc hF hov hdec ha
        go_wp2
        refine ⟨⟨k + 1, acc * 10 + (c.toNat - 48), a * 10 + ((c.toNat : Int) - 48), rfl, (by first | rfl | (congr 1; omega)), (by first | rfl | (congr 1; omega)), by omega, HN⟩, by simp [intOf]; omega⟩
    · have hkk : k = t.size := by omega
      subst hkk
      have hF : Lib.parseUintM 2147483647 acc (bs.drop t.size) = .ok acc := by rw [List.drop_eq_nil_of_le (by omega)]; rfl
      rw [hF] at hdec
      subst ha
      clear hacc hF a0 a1
      go_wp2
      go_ret2
      exact ⟨rfl, rfl⟩

set_option maxHeartbeats 4000000 in
set_option maxRecDepth 100000 in
theorem clone_calls (s : ByteArray) (w : World) (h0 : s.size ≠ 0) (hlim : s.size ≤ 281474976710656) :
    Calls Tryz.prog 140 #[.string s] w fun e w' => e = .returned (.string s) ∧ Below w.heap.size w w' := by
  obtain ⟨i0, hi, hz0, hz1, hz2⟩ := info_parts (show (Tryz.prog.info? 5).map (fun i => (i.zero, i.size, i.bytes)) = some (some (.int .u8 0), 1, 1) by kernel_rfl)
  have hinfo : (Tryz.prog.info? 5).map (·.size) = some 1 := by rw [hi]; simp [hz1]
  have hco : Tryz.prog.cellsOf 5 = 1 := by simp [Program.cellsOf, hi, hz1]
  obtain ⟨M, hM⟩ : ∃ M, M = madeCells (Value.int .u8 0).cells (((s.size : Nat) : Int).toNat * i0.size) := ⟨_, rfl⟩
  have hMs : M.size = s.size := by rw [hM, size_madeCells, hz1]; simp
  have hmk : ∀ W : World, (Instr.makeSlice 124 (.int .i64 (s.size : Int)) (.int .i64 (s.size : Int))).run Tryz.prog W = .ok (.slice (some ⟨W.heap.size, 0, none⟩) s.size s.size) (W.alloc (.cells M 5)) := fun W => by
    have h := run_make (P := Tryz.prog) W 124 5 i0 (.int .u8 0) Tryz.underlying124 hi hz0 .i64 .i64 (s.size : Int) (s.size : Int) (by omega) (by omega) (by rw [hz2]; omega) (by omega)
    rw [← hM] at h
    simpa using h
  clear hM
  have hcp := Lib.run_copy_row_string (P := Tryz.prog) (w.alloc (.cells M 5)) 124 9 3 5 w.heap.size 0 s.size s.size s M 5 Tryz.underlying124 hinfo (heap_alloc_new w _) (Nat.le_refl _) (by omega)
  obtain ⟨Y, hY⟩ : ∃ Y, Y = (M.toList.take 0 ++ Lib.byteCells s.data.toList ++ M.toList.drop (0 + s.size)).toArray := ⟨_, rfl⟩
  rw [← hY] at hcp
  have hYl : Y.toList = Lib.byteCells s.data.toList := by
    rw [hY, List.toList_toArray, List.take_zero, List.nil_append, List.drop_of_length_le (by rw [Array.length_toList]; omega), List.append_nil]
  have hYs : Y.size = s.size := by rw [← Array.length_toList, hYl, Lib.byteCells_length, ← Lib.size_eq]
  have hgY : ((w.alloc (.cells M 5)).setRow w.heap.size Y).heap[w.heap.size]? = some (.cells Y 5 (0, 0)) := setRow_heap _ _ M _ 5 (0, 0) (heap_alloc_new w _)
  have hne : s.data.toList ≠ [] := fun e => h0 (by rw [Lib.size_eq, e]; rfl)
  have hUS := Lib.run_unsafeString_row (P := Tryz.prog) ((w.alloc (.cells M 5)).setRow w.heap.size Y) 199 3 9 5 Tryz.underlying199 hco w.heap.size Y.size (by unfold World.shape?; rw [hgY]) s.data.toList hne (by rw [← Lib.size_eq]; omega) (by rw [← Lib.size_eq]; omega)
    (fun j x hx => Lib.cells_of_row hgY Y.size j _ (by rw [List.take_of_length_le (by rw [Array.length_toList]; exact Nat.le_refl _), hYl]; simp [Lib.byteCells, hx]))
  rw [← Lib.size_eq] at hUS
  clear hY
  go_enter Tryz.func140, Tryz.ntmps140
  go_wp2
  go_ret
  have hb1 : Below w.heap.size w (w.alloc (.cells M 5)) := (Below.refl _ w).alloc (Nat.le_refl _) _
  have hb2 : Below w.heap.size (w.alloc (.cells M 5)) ((w.alloc (.cells M 5)).setRow w.heap.size Y) := ⟨rfl, rfl, rfl, by simp, fun k hk => setRow_other _ _ _ _ (by omega)⟩
  exact ⟨rfl, Lib.below_freeze (hb1.trans hb2) (p := ⟨w.heap.size, 0, none⟩) (Nat.le_refl _) _⟩

set_option maxHeartbeats 6400000 in
set_option maxRecDepth 100000 in
theorem range_calls (fn s : ByteArray) (te : TypeId) (pe : Value) (w : World) (h0 : s.size ≠ 0) (hlim : s.size ≤ 281474976710656) (hv : w.cell? ⟨10, 0, none⟩ = some (.iface te pe)) :
    Calls Tryz.prog 135 #[.string fn, .string s] w fun e w' => ∃ N, e = .returned (.pointer (some ⟨N, 0, none⟩)) ∧ Below w.heap.size w w' := by
  have hG : 10 < w.heap.size := Lib.lt_of_cell hv
  have hvd : w.drew.cell? ⟨10, 0, none⟩ = some (.iface te pe) := hv
  go_enter Tryz.func135, Tryz.ntmps135
  go_wp2
  go_region_with (
      go_at_call 140
      refine (clone_calls s _ h0 hlim).mono ?_
      rintro e w2 ⟨rfl, hbel⟩
      have hv2 : w2.cell? ⟨10, 0, none⟩ = some (.iface te pe) := (hbel.cell (show (⟨10, 0, none⟩ : Addr).block < w.drew.heap.size from hG)).trans hvd)
  all_goals (
    go_wp2
    go_ret
    have hs2 : w.heap.size ≤ w2.heap.size := hbel.size
    exact ⟨_, rfl, ((Below.drew (Below.refl _ w)).trans hbel).alloc hs2 _⟩)

set_option maxHeartbeats 4000000 in
set_option maxRecDepth 100000 in
theorem toErr_calls (fn s : ByteArray) (base bits : Int) (te : TypeId) (pe : Value) (w : World) (h0 : s.size ≠ 0) (hlim : s.size ≤ 281474976710656) (hv : w.cell? ⟨10, 0, none⟩ = some (.iface te pe)) :
    Calls Tryz.prog 130 #[.string fn, .string s, .int .i64 base, .int .i64 bits, .iface 177 (.int .i64 1)] w fun e w' => ∃ N, e = .returned (.iface 179 (.pointer (some ⟨N, 0, none⟩))) ∧ Below w.heap.size w w' := by
  have hq12 : ∀ W, (binOp .eql 162 (.iface 177 (.int .i64 1)) (.iface 177 (.int .i64 2))).run Tryz.prog W = .ok (.bool false) W := fun W => Lib.run_eql_iface_int W 1 2 Tryz.underlying162 (by kernel_rfl) Tryz.underlying177
  have hq11 : ∀ W, (binOp .eql 162 (.iface 177 (.int .i64 1)) (.iface 177 (.int .i64 1))).run Tryz.prog W = .ok (.bool true) W := fun W => Lib.run_eql_iface_int W 1 1 Tryz.underlying162 (by kernel_rfl) Tryz.underlying177
  have HR := Lib.hid (range_calls fn s te pe w h0 hlim hv)
  clear hv
  go_enter Tryz.func130, Tryz.ntmps130
  go_wp2_with fail
  refine HR.out.mono ?_
  rintro e w2 ⟨N, rfl, h3⟩
  clear hq12 hq11
  go_wp2
  go_ret
  exact ⟨N, rfl, h3⟩

set_option maxHeartbeats 4000000 in
set_option maxRecDepth 100000 in
/-- strconv.ParseUint of digits, 31 bits -/
theorem parse86 (s : List UInt8) (hs : s ≠ []) (hl : s.length ≤ 281474976710656) (hdg : ∀ x ∈ s, lxDigit x = true) (te : TypeId) (pe : Value) (w : World) (hv : w.cell? ⟨10, 0, none⟩ = some (.iface te pe)) :
    Calls Tryz.prog 124 #[.string ⟨s.toArray⟩, .int .i64 10, .int .i64 31] w fun e w' => Upto [] w w' ∧ ((lxNum s ≤ 2147483647 ∧ e = .returned (.tuple #[.int .u64 (lxNum s : Nat), .nilIface])) ∨ (2147483647 < lxNum s ∧ ∃ N, e = .returned (.tuple #[.int .u64 2147483647, .iface 179 (.pointer (some ⟨N, 0, none⟩))]))) := by
  have hsz : (ByteArray.mk s.toArray).size = s.length := rfl
  have hl0 : s.length ≠ 0 := fun h => hs (List.eq_nil_of_length_eq_zero h)
  have H := parse96 ⟨s.toArray⟩ hl0 (by rw [hsz]; omega) hdg w
  have hb := ext_of (Lib.bytesWorld_below w 5 ⟨s.toArray⟩)
  rw [parse_digits _ 0 hdg (by omega), Nat.zero_mul, Nat.zero_add] at H
  generalize Lib.bytesWorld w 5 ⟨s.toArray⟩ = W1 at *
  have hv1 : W1.cell? ⟨10, 0, none⟩ = some (.iface te pe) := (hb.cell (World.block_lt_of_cell? w _ hv) (by simp)).trans hv
  clear hdg hsz
  by_cases hn : lxNum s ≤ 2147483647
  · rw [if_pos hn] at H
    simp only [Lib.uintTupleM] at H
    have HH := Lib.hid H
    clear H hv hv1
    go_enter Tryz.func124, Tryz.ntmps124
    go_wp2_with fail
    refine HH.out.mono ?_
    rintro e w1 ⟨rfl, rfl⟩
    go_wp2
    go_ret2
    exact ⟨hb, Or.inl ⟨hn, rfl⟩⟩
  · rw [if_neg hn] at H
    simp only [Lib.uintTupleM] at H
    have HH := Lib.hid H
    have HT := Lib.hid (toErr_calls ⟨#[80, 97, 114, 115, 101, 85, 105, 110, 116]⟩ ⟨s.toArray⟩ 10 31 te pe W1 hl0 (show s.length ≤ _ from hl) hv1)
    clear H hv hv1
    go_enter Tryz.func124, Tryz.ntmps124
    go_wp2_with fail
    refine HH.out.mono ?_
    rintro e w1 ⟨rfl, rfl⟩
    go_wp2_with fail
    refine HT.out.mono ?_
    rintro e w2 ⟨N, rfl, h3⟩
    go_wp2
    go_ret2
    exact ⟨hb.trans_ext (ext_of h3), Or.inr ⟨by omega, N, rfl⟩⟩
end Go.Proofs.YtbnebkkpmcjmbaaGreatDoor


namespace Go.Proofs.YtbnebkkpmcjmbaaGreatDoor
open Go.RowKit Go.PL Go.Maps

/-- value and error of a run as a number -/
def numF (s : List UInt8) : Nat × Nat :=
  if !(s.all lxDigit) || (decide (1 < s.length) && decide ((s.headD 0).toNat = 48)) then (0, 3)
  else if 2147483647 < lxNum s then (0, 2) else (lxNum s, 0)

theorem take_all {p : UInt8 → Bool} {s : List UInt8} (h : s.all p = true) : s.takeWhile p = s := by
  induction s with
  | nil => rfl
  | cons b s ih =>
    simp only [List.all_cons, Bool.and_eq_true] at h
    rw [List.takeWhile_cons, if_pos h.1, ih h.2]
theorem take_not {p : UInt8 → Bool} {s : List UInt8} (h : s.all p = false) : (s.takeWhile p).length < s.length := by
  induction s with
  | nil => simp at h
  | cons b s ih =>
    rw [List.takeWhile_cons]
    cases hb : p b with
    | true =>
      rw [List.all_cons, hb, Bool.true_and] at h
      have := ih h
      simp
      omega
    | false => simp
theorem lxNum_append (a b : List UInt8) : lxNum (a ++ b) = lxNum a * 10 ^ b.length + lxNum b := by
  show (a ++ b).foldl _ 0 = _
  rw [List.foldl_append, lxNum_fold]
  rfl
theorem lxNum_take_le (s : List UInt8) (k : Nat) : lxNum (s.take k) ≤ lxNum s := by
  have h := lxNum_append (s.take k) (s.drop k)
  rw [List.take_append_drop] at h
  rw [h]
  have hp : 1 ≤ 10 ^ (s.drop k).length := Nat.pos_of_ne_zero (by simp)
  have : lxNum (s.take k) * 1 ≤ lxNum (s.take k) * 10 ^ (s.drop k).length := Nat.mul_le_mul_left _ hp
  omega
theorem lxNum_snoc {s : List UInt8} {k : Nat} {x : UInt8} (h : s[k]? = some x) : lxNum (s.take (k + 1)) = 10 * lxNum (s.take k) + (x.toNat - 48) := by
  obtain ⟨h1, h2⟩ := List.getElem?_eq_some_iff.1 h
  rw [List.take_succ_eq_append_getElem h1, h2, lxNum_append]
  simp [lxNum]
  omega
theorem take_snoc' {s : List UInt8} {k : Nat} {x : UInt8} (h : s[k]? = some x) : s.take (k + 1) = s.take k ++ [x] := by
  obtain ⟨h1, h2⟩ := List.getElem?_eq_some_iff.1 h
  rw [List.take_succ_eq_append_getElem h1, h2]
theorem digit_bounds {x : UInt8} (h : lxDigit x = true) : 48 ≤ x.toNat ∧ x.toNat ≤ 57 := by simpa [lxDigit] using h
theorem all_at {p : UInt8 → Bool} {s : List UInt8} (h : s.all p = true) {k : Nat} {x : UInt8} (hx : s[k]? = some x) : p x = true := List.all_eq_true.1 h x (List.mem_of_getElem? hx)

/-- the world's facts that the lexer leans on -/
structure Env (w : World) : Prop where
  tab : Lib.TabIs Tryz.prog w "strings.asciiSpace" .u8 Lib.asciiSpaceTab
  rng : ∃ te pe, w.cell? ⟨10, 0, none⟩ = some (.iface te pe)

theorem Env.ext {w w' : World} (h : Env w) (hu : Upto [] w w') : Env w' := by
  obtain ⟨te, pe, hr⟩ := h.rng
  refine ⟨?_, ⟨te, pe, (hu.cell (World.block_lt_of_cell? w _ hr) (by simp)).trans hr⟩⟩
  exact Lib.tabBelow_of_tabIs h.tab w' hu.ext

set_option maxRecDepth 100000 in
set_option maxHeartbeats 1600000 in
theorem number_calls (b : UInt8) (t : List UInt8) (w : World) (hl : (b :: t).length ≤ 281474976710656) (he : Env w) :
    Calls Tryz.prog 116 #[.string ⟨(b :: t).toArray⟩] w fun e w' => e = .returned (.tuple #[.int .i64 (numF (b :: t)).1, .int .i64 (numF (b :: t)).2]) ∧ Upto [] w w' := by
  have HC := Lib.hid (cut_calls 115 lxDigit (run_enter Tryz.func115 (by kernel_rfl) rfl) digit_calls (b :: t) (by omega))
  obtain ⟨te, pe, hr⟩ := he.rng
  have hsz : (ByteArray.mk (b :: t).toArray).size = (b :: t).length := rfl
  have hF := Lib.hid (show numF (b :: t) = if !((b :: t).all lxDigit) || (decide (1 < (b :: t).length) && decide (b.toNat = 48)) then (0, 3) else if 2147483647 < lxNum (b :: t) then (0, 2) else (lxNum (b :: t), 0) from rfl)
  have hat := str_at (s := b :: t) (k := 0) (b := b) rfl
  have hpos : 0 < (b :: t).length := by simp
  cases ha : (b :: t).all lxDigit with
  | false =>
    have hlt := take_not ha
    rw [ha] at hF
    simp only [Bool.not_false, Bool.true_or, if_true] at hF
    have HA : Hid (∀ w, Calls Tryz.prog 105 #[.string ⟨(b :: t).toArray⟩, .func (.func 115) #[] #[]] w fun e w' => e = .returned (.int .i64 ((b :: t).takeWhile lxDigit).length) ∧ w' = w) := HC
    generalize ((b :: t).takeWhile lxDigit).length = n at *
    generalize b :: t = s at *
    have hlt' : (n : Int) < s.length := by omega
    clear HC ha
    go_enter Tryz.func116, Tryz.ntmps116
    go_wp2_with fail
    refine (HA.out _).mono ?_
    rintro e w1 ⟨rfl, rfl⟩
    go_wp2_with fail
    go_ret2
    rw [hF.out]
    exact ⟨rfl, Upto.refl _ _⟩
  | true =>
    rw [ha] at hF
    have hd0 := all_at ha (k := 0) rfl
    simp only [take_all ha] at HC
    have HP := Lib.hid (parse86 (b :: t) (by simp) hl (fun x hx => List.all_eq_true.1 ha x hx) te pe)
    have HN := Lib.hid (show numF (b :: t) = _ from rfl)
    by_cases h48 : 1 < (b :: t).length ∧ b.toNat = 48
    · obtain ⟨h1, h2⟩ := h48
      simp only [h1, h2, decide_true, Bool.and_self, Bool.or_true, if_true] at hF
      generalize b :: t = s at *
      have h1' : (1 : Int) < s.length := by omega
      have h2' : ((b.toNat : Int) == 48) = true := by simp [h2]
      clear HP HN h2 ha
      go_enter Tryz.func116, Tryz.ntmps116
      go_wp2_with fail
      refine (HC.out _).mono ?_
      rintro e w1 ⟨rfl, rfl⟩
      go_wp2_with fail
      go_ret2
      rw [hF.out]
      exact ⟨rfl, Upto.refl _ _⟩
    · have hz : (decide (1 < (b :: t).length) && decide (b.toNat = 48)) = false := by
        rw [Bool.and_eq_false_iff]
        by_cases h1 : 1 < (b :: t).length
        · exact Or.inr (decide_eq_false fun h => h48 ⟨h1, h⟩)
        · exact Or.inl (decide_eq_false h1)
      simp only [hz, Bool.not_true, Bool.or_self, Bool.false_eq_true, if_false] at hF
      have hor : ¬ (1 : Int) < (b :: t).length ∨ (1 : Int) < (b :: t).length ∧ ((b.toNat : Int) == 48) = false := by
        by_cases h1 : 1 < (b :: t).length
        · refine Or.inr ⟨by omega, ?_⟩
          rw [beq_eq_false_iff_ne]
          exact fun h => h48 ⟨h1, by omega⟩
        · exact Or.inl (by omega)
      generalize b :: t = s at *
      clear HN hz h48 ha
      rcases hor with hor | ⟨hor, hb48⟩
      all_goals
        go_enter Tryz.func116, Tryz.ntmps116
        go_wp2_with fail
        refine (HC.out _).mono ?_
        rintro e w1 ⟨rfl, rfl⟩
        go_wp2_with fail
        refine (HP.out _ hr).mono ?_
        rintro e w2 ⟨hu, ⟨hn, rfl⟩ | ⟨hn, N, rfl⟩⟩
        · rw [if_neg (by omega)] at hF
          go_wp2_with fail
          go_ret2
          rw [hF.out]
          exact ⟨rfl, hu⟩
        · rw [if_pos hn] at hF
          go_wp2_with fail
          go_ret2
          rw [hF.out]
          exact ⟨rfl, hu⟩

set_option maxRecDepth 100000 in
set_option maxHeartbeats 1600000 in
theorem numberR_calls (b : UInt8) (t : List UInt8) (w : World) (hl : (b :: t).length ≤ 281474976710656) :
    Calls Tryz.prog 78 #[.string ⟨(b :: t).toArray⟩] w fun e w' => e = .returned (.tuple #[.int .i64 (numF (b :: t)).1, .int .i64 (numF (b :: t)).2]) ∧ w' = w := by
  have HD := Lib.hid digitR_calls
  have hsz : (ByteArray.mk (b :: t).toArray).size = (b :: t).length := rfl
  have hF := Lib.hid (show numF (b :: t) = if !((b :: t).all lxDigit) || (decide (1 < (b :: t).length) && decide (b.toNat = 48)) then (0, 3) else if 2147483647 < lxNum (b :: t) then (0, 2) else (lxNum (b :: t), 0) from rfl)
  have hat0 := str_at (s := b :: t) (k := 0) (b := b) rfl
  have hpos : 0 < (b :: t).length := by simp
  generalize b :: t = s at *
  obtain ⟨W0, hW0⟩ : ∃ W0, W0 = w := ⟨_, rfl⟩
  rw [← hW0]
  clear hW0
  go_enter Tryz.func78, Tryz.ntmps78
  go_wp2_with fail
  go_loopw [4] (fun i wr => ∃ k : Nat, k ≤ s.length ∧ i = .int .i64 k ∧ Hid (∀ x ∈ s.take k, lxDigit x = true) ∧ wr = W0) (fun i _ => s.length - (intOf i).toNat)
  case atStart => exact ⟨0, Nat.zero_le _, rfl, Lib.hid (by simp), rfl⟩
  case round =>
    obtain ⟨k, hk, rfl, HT, hw0⟩ := hrel
    have hw1 := hw0.symm
    subst hw1
    rcases Nat.lt_or_ge k s.length with hlt | hge
    · obtain ⟨x, hx⟩ : ∃ x, s[k]? = some x := ⟨s[k], List.getElem?_eq_getElem hlt⟩
      have hat := str_at hx
      have hlt' : (k : Int) < s.length := by omega
      have HX := Lib.hid hx
      clear hx
      go_wp2_with fail
      refine (HD.out _ _).mono ?_
      rintro e w1 ⟨rfl, rfl⟩
      cases hd : lxDigit x with
      | true =>
        go_wp2_with fail
        go_roundw
        case rel =>
          refine ⟨k + 1, by omega, by go_num, Lib.hid ?_, trivial⟩
          rw [take_snoc' HX.out]
          intro y hy
          rcases List.mem_append.1 hy with hy | hy
          · exact HT.out y hy
          · rw [List.mem_singleton.1 hy]; exact hd
        case measure => simp [intOf]; omega
      | false =>
        go_wp2_with fail
        go_ret2
        have ha : s.all lxDigit = false := by
          cases h : s.all lxDigit with
          | false => rfl
          | true => rw [all_at h HX.out] at hd; cases hd
        rw [hF.out, ha]
        exact ⟨rfl, rfl⟩
    · have hge' : ¬ (k : Int) < s.length := by omega
      have hks : k = s.length := by omega
      have ha : s.all lxDigit = true := List.all_eq_true.2 (by have := HT.out; rwa [List.take_of_length_le hge] at this)
      have hF2 := hF.out
      rw [ha] at hF2
      have H0 := Lib.hid hat0
      clear HT hat0
      by_cases h48 : 1 < s.length ∧ b.toNat = 48
      · obtain ⟨h1, h2⟩ := h48
        have h1' : (1 : Int) < s.length := by omega
        have h2' : ((b.toNat : Int) == 48) = true := by simp [h2]
        simp only [h1, h2, decide_true, Bool.and_self, Bool.or_true, if_true] at hF2
        have HF := Lib.hid hF2
        clear hF2 hF h2 ha
        have hat0 := H0.out
        go_wp2_with fail
        go_ret2
        rw [HF.out]
        exact ⟨rfl, rfl⟩
      · have hz : (decide (1 < s.length) && decide (b.toNat = 48)) = false := by
          rw [Bool.and_eq_false_iff]
          by_cases h1 : 1 < s.length
          · exact Or.inr (decide_eq_false fun h => h48 ⟨h1, h⟩)
          · exact Or.inl (decide_eq_false h1)
        simp only [hz, Bool.not_true, Bool.or_self, Bool.false_eq_true, if_false] at hF2
        have hor : ¬ (1 : Int) < s.length ∨ (1 : Int) < s.length ∧ ((b.toNat : Int) == 48) = false := by
          by_cases h1 : 1 < s.length
          · refine Or.inr ⟨by omega, ?_⟩
            rw [beq_eq_false_iff_ne]
            exact fun h => h48 ⟨h1, by omega⟩
          · exact Or.inl (by omega)
        have HF := Lib.hid hF2
        have HA := Lib.hid ha
        clear hF2 hF hz h48 ha
        have hat0 := H0.out
        rcases hor with hor | ⟨hor, hb48⟩
        all_goals
          go_wp2_with fail
          clear hat0 hor hge' hks hk hge
          go_loopw [5, 6] (fun n i wr => ∃ k : Nat, k ≤ s.length ∧ i = .int .i64 k ∧ n = .int .i64 (lxNum (s.take k) : Nat) ∧ lxNum (s.take k) ≤ 2147483647 ∧ wr = W0) (fun _ i _ => s.length - (intOf i).toNat)
          case atStart => exact ⟨0, Nat.zero_le _, rfl, by simp [lxNum], by simp [lxNum], rfl⟩
          case round =>
            obtain ⟨k, hk, rfl, rfl, hm, hw0⟩ := hrel
            have hw1 := hw0.symm
            subst hw1
            rcases Nat.lt_or_ge k s.length with hlt | hge
            · obtain ⟨x, hx⟩ : ∃ x, s[k]? = some x := ⟨s[k], List.getElem?_eq_getElem hlt⟩
              have hat := str_at hx
              have hlt' : (k : Int) < s.length := by omega
              have hd := digit_bounds (all_at HA.out hx)
              have hs := Lib.hid (lxNum_snoc hx)
              have hle := Lib.hid (lxNum_take_le s (k + 1))
              clear hx
              generalize lxNum (s.take k) = m at *
              have d1 : (48 : Int) ≤ x.toNat := by omega
              have d2 : (x.toNat : Int) ≤ 57 := by omega
              have d3 : (m : Int) ≤ 2147483647 := by omega
              have d4 : (0 : Int) ≤ m := by omega
              by_cases hov : 2147483647 < 10 * m + (x.toNat - 48)
              · have hov' : (2147483647 : Int) < 10 * m + x.toNat - 48 := by omega
                go_wp2_with fail
                go_ret2
                rw [HF.out, if_pos (by have := hs.out; have := hle.out; omega)]
                exact ⟨rfl, rfl⟩
              · have hov' : ¬ (2147483647 : Int) < 10 * m + x.toNat - 48 := by omega
                go_wp2_with fail
                go_roundw
                case rel => exact ⟨k + 1, by omega, by go_num, by rw [hs.out]; go_num, by rw [hs.out]; omega, trivial⟩
                case measure => simp [intOf]; omega
            · have hge' : ¬ (k : Int) < s.length := by omega
              have hts : s.take k = s := List.take_of_length_le hge
              rw [hts] at hm ⊢
              go_wp2_with fail
              go_ret2
              rw [HF.out, if_neg (by omega)]
              exact ⟨rfl, rfl⟩
end Go.Proofs.YtbnebkkpmcjmbaaGreatDoor


namespace Go.Proofs.YtbnebkkpmcjmbaaGreatDoor
open Go.RowKit Go.PL Go.Maps

/-- a string of these bytes, as a value -/
def sb (l : List UInt8) : Value := .string ⟨l.toArray⟩
def kwText : List UInt8 := [102, 105, 110, 100, 32, 115, 111, 109, 101, 32, 101, 118, 101, 114, 121, 32, 118, 101, 114, 116, 101, 120, 32, 101, 100, 103, 101, 32, 115, 101, 116, 32, 101, 100, 103, 101, 115, 32, 116, 114, 117, 101, 32, 102, 97, 108, 115, 101, 32, 110, 111, 116, 32, 97, 110, 100, 32, 111, 114, 32, 105, 109].append [112, 108, 105, 101, 115, 32, 105, 102, 102, 32, 105, 110, 32, 115, 117, 98, 32, 97, 100, 106, 32, 111, 110, 32, 105, 115, 32, 111, 110, 101, 32, 115, 105, 122, 101, 32, 109, 111, 100, 32, 108, 101, 97, 115, 116, 32, 103, 114, 101, 97, 116, 101, 115, 116, 32, 97, 115, 107, 32, 108, 101, 116]

set_option maxRecDepth 100000 in
theorem fields_words : Lib.fields kwText = lxWords := by kernel_rfl
set_option maxRecDepth 100000 in
theorem words_len : lxWords.length = 26 := by kernel_rfl
set_option maxRecDepth 100000 in
theorem words_low : ∀ (j : Nat) b, kwText[j]? = some b → b.toNat < 128 := by
  intro j b h
  have h2 : kwText.all (fun b => decide (b.toNat < 128)) = true := by kernel_rfl
  simpa using List.all_eq_true.1 h2 b (List.mem_of_getElem? h)

set_option maxRecDepth 100000 in
set_option maxHeartbeats 800000 in
/-- Keywords -/
theorem keywords_calls (w : World) (he : Env w) : Calls Tryz.prog 112 #[] w fun e w' => e = .returned (.slice (some ⟨w.heap.size, 0, none⟩) 26 26) ∧ w' = w.alloc (.cells (lxWords.map sb).toArray 9) := by
  have H := Tryz.strings_Fields_laid ⟨kwText.toArray⟩ w (show kwText.length < _ by have : kwText.length = 124 := by kernel_rfl
                                                                                   omega) (by rw [List.toList_toArray]; exact words_low) he.tab
  simp only [fields_words, words_len] at H
  have HH := Lib.hid H
  clear H
  go_enter Tryz.func112, Tryz.ntmps112
  go_wp2_with fail
  refine HH.out.mono ?_
  rintro e w1 ⟨rfl, rfl⟩
  go_wp2
  go_ret
  exact ⟨rfl, rfl⟩

set_option maxRecDepth 100000 in
set_option maxHeartbeats 800000 in
/-- the reference's list -/
theorem wordsR_calls (w : World) : Calls Tryz.prog 96 #[] w fun e w' => e = .returned (.slice (some ⟨w.heap.size, 0, none⟩) 26 26) ∧ w' = w.alloc (.cells (lxWords.map sb).toArray 9) := by
  go_enter Tryz.func96, Tryz.ntmps96
  go_wp2
  go_ret
  exact ⟨rfl, rfl⟩

def kwE (x : List UInt8) : Value × Value := (sb x, .bool true)
/-- the set of the keywords -/
def Keys (w : World) (v : Value) : Prop := ∃ b, v = .map (some b) ∧ MapL Tryz.prog 9 w b (lxWords.map kwE)
theorem Keys.ext {w w' : World} {v : Value} (h : Keys w v) (hu : Upto [] w w') : Keys w' v := by
  obtain ⟨b, h1, h2⟩ := h
  exact ⟨b, h1, h2.upto hu (by simp)⟩
theorem lawS : Keyed Tryz.prog 9 := string_keyed Tryz.underlying9
theorem zeroB (w : World) : (zeroValue 4).run Tryz.prog w = .ok (.bool false) w := Tryz.zeroValue4 w
theorem sb_inj {a b : List UInt8} (h : sb a = sb b) : a = b := by
  unfold sb at h
  injection h with h
  injection h with h
  simpa using congrArg Array.toList h
set_option maxRecDepth 100000 in
theorem words_apart : lxWords.Nodup := by decide
theorem words_short {x : List UInt8} (h : x ∈ lxWords) : x.length ≤ 16 := by
  have h2 : lxWords.all (fun x => decide (x.length ≤ 16)) = true := by kernel_rfl
  simpa using List.all_eq_true.1 h2 x h
theorem sb_key {x : List UInt8} (h : x.length ≤ 9223372036854775807) : keyOf Tryz.prog 9 (sb x) = some (.string x) := by
  have := keyS (P := Tryz.prog) Tryz.underlying9 (s := ⟨x.toArray⟩) (by unfold maxLen; exact h)
  simpa [sb] using this
theorem kw_new {i : Nat} {x : List UInt8} (h : lxWords[i]? = some x) : ∀ p ∈ (lxWords.take i).map kwE, p.1 ≠ sb x := by
  intro p hp e
  obtain ⟨y, hy, rfl⟩ := List.mem_map.1 hp
  have hyx : y = x := sb_inj e
  subst hyx
  obtain ⟨j, hj⟩ := List.mem_iff_getElem?.1 hy
  rw [List.getElem?_take] at hj
  split at hj
  · rename_i hlt
    have := (List.getElem?_inj (by have := (List.getElem?_eq_some_iff.1 h).1; omega) words_apart).1 (hj.trans h.symm)
    omega
  · cases hj

set_option maxRecDepth 100000 in
set_option maxHeartbeats 800000 in
theorem known_calls (w : World) (he : Env w) : Calls Tryz.prog 101 #[] w fun e w' => ∃ v, e = .returned v ∧ Keys w' v ∧ Upto [] w w' := by
  have h0 := MapL.made Tryz.prog 9 w
  have hu0 : Upto [] w (w.alloc (.map #[] 0)) := (Upto.refl [] w).alloc _
  have HK := Lib.hid (keywords_calls _ (he.ext hu0))
  have hu1 := hu0.alloc (.cells (lxWords.map sb).toArray 9)
  have hm1 : MapL Tryz.prog 9 ((w.alloc (.map #[] 0)).alloc (.cells (lxWords.map sb).toArray 9)) w.heap.size [] := h0.upto ((Upto.refl [] _).alloc _) (by simp)
  have hb1 := new_at (w.alloc (.map #[] 0)) (.cells (lxWords.map sb).toArray 9)
  have hsz : (w.alloc (.map #[] 0)).heap.size = w.heap.size + 1 := by simp
  rw [hsz] at HK hb1
  generalize hW1 : (w.alloc (.map #[] 0)).alloc (.cells (lxWords.map sb).toArray 9) = W1 at *
  clear h0 hsz hu0 he
  have hmm := @run_makeMap Tryz.prog
  go_enter Tryz.func101, Tryz.ntmps101
  go_wp2_with fail
  refine HK.out.mono ?_
  rintro e w1 ⟨rfl, h1⟩
  have h2 := h1.symm
  subst h2
  clear HK
  go_wp2_with fail
  go_loopw [7] (fun j wr => ∃ i : Nat, i ≤ 26 ∧ j = .int .i64 i ∧ MapL Tryz.prog 9 wr w.heap.size ((lxWords.take i).map kwE) ∧ Upto [w.heap.size] W1 wr) (fun j _ => 26 - (intOf j).toNat)
  case atStart => exact ⟨0, by omega, rfl, hm1, Upto.refl _ _⟩
  case round =>
    obtain ⟨i, hi, rfl, hm, hup⟩ := hrel
    rcases Nat.lt_or_ge i 26 with hlt | hge
    · obtain ⟨x, hx⟩ : ∃ x, lxWords[i]? = some x := ⟨_, List.getElem?_eq_getElem (by rw [words_len]; exact hlt)⟩
      have hc : wr.cell? ⟨w.heap.size + 1, i, none⟩ = some (sb x) := by
        rw [hup.cell (p := ⟨w.heap.size + 1, i, none⟩) (lt_of_heap hb1) (by simp), cell_of hb1]
        simp [hx]
      have hlt' : (i : Int) < 26 := by omega
      have HN := Lib.hid (kw_new hx)
      have HKx := Lib.hid (sb_key (x := x) (by have := words_short (List.mem_of_getElem? hx); omega))
      have HT : Hid ((lxWords.take (i + 1)).map kwE = (lxWords.take i).map kwE ++ [(sb x, .bool true)]) := Lib.hid (by
        obtain ⟨h1, h2⟩ := List.getElem?_eq_some_iff.1 hx
        rw [List.take_succ_eq_append_getElem h1, h2, List.map_append]; rfl)
      clear hx hm1 hb1 hu1
      generalize sb x = vx at *
      generalize (lxWords.take i).map kwE = L at *
      go_wp2_with (refine wpList_insert _ rfl _ _ _ 114 rfl 9 4 lawS Tryz.underlying114 w.heap.size L rfl hm vx (.bool true) _ rfl rfl HKx.out HN.out ?_; intro w3 hm3 hg3)
      go_roundw
      case rel =>
        exact ⟨i + 1, by omega, by go_num, by rw [HT.out]; exact hm3, hup.grown hg3 (fun k hk => by cases hk; simp)⟩
      case measure => simp [intOf]; omega
    · have hge' : ¬ (i : Int) < 26 := by omega
      have hL : lxWords.take i = lxWords := List.take_of_length_le (by rw [words_len]; omega)
      rw [hL] at hm
      have hup2 := hu1.trans hup (S' := [w.heap.size]) (fun k hk => by simp at hk; subst hk; right; exact Nat.le_refl _)
      clear hm1 hb1 hu1 hup
      go_wp2
      go_ret
      exact ⟨_, rfl, ⟨_, rfl, hm⟩, hup2⟩

/-- a look-up in the set -/
theorem Keys.look {w : World} {v : Value} (h : Keys w v) (x : List UInt8) (hl : x.length ≤ 9223372036854775807) : (Instr.lookup 114 v (.string ⟨x.toArray⟩) false).run Tryz.prog w = .ok (.bool (lxWords.contains x)) w := by
  obtain ⟨b, rfl, hm⟩ := h
  rcases hm.look lawS Tryz.underlying114 (zeroB w) (sb_key hl) false with ⟨h1, h2⟩ | ⟨u, h1, h2⟩
  · have : lxWords.contains x = false := by
      cases hc : lxWords.contains x with
      | false => rfl
      | true => exact absurd rfl (h2 (kwE x) (List.mem_map.2 ⟨x, by simpa using hc, rfl⟩))
    rw [this]
    exact h1
  · obtain ⟨y, hy, hq⟩ := List.mem_map.1 h1
    have hq1 : sb y = sb x := congrArg Prod.fst hq
    have hq2 : Value.bool true = u := congrArg Prod.snd hq
    have hyx := sb_inj hq1
    subst hyx
    have : lxWords.contains y = true := by simpa using hy
    rw [this, hq2]
    exact h2

set_option maxRecDepth 100000 in
set_option maxHeartbeats 800000 in
/-- the reference's search -/
theorem isWord_calls (x : List UInt8) (w : World) : Calls Tryz.prog 80 #[.string ⟨x.toArray⟩] w fun e w' => e = .returned (.bool (lxWords.contains x)) ∧ Upto [] w w' := by
  have HW := Lib.hid (wordsR_calls w)
  have hu : Upto [] w (w.alloc (.cells (lxWords.map sb).toArray 9)) := (Upto.refl [] w).alloc _
  have hb := new_at w (.cells (lxWords.map sb).toArray 9)
  generalize w.alloc (.cells (lxWords.map sb).toArray 9) = W1 at *
  go_enter Tryz.func80, Tryz.ntmps80
  go_wp2_with fail
  refine HW.out.mono ?_
  rintro e w1 ⟨rfl, h1⟩
  have h2 := h1.symm
  subst h2
  clear HW
  go_wp2_with fail
  go_loopw [4] (fun j wr => ∃ i : Nat, i ≤ 26 ∧ j = .int .i64 i ∧ Hid (x ∉ lxWords.take i) ∧ wr = W1) (fun j _ => 26 - (intOf j).toNat)
  case atStart => exact ⟨0, by omega, rfl, Lib.hid (by simp), rfl⟩
  case round =>
    obtain ⟨i, hi, rfl, hx, hw0⟩ := hrel
    have hw1 := hw0.symm
    subst hw1
    rcases Nat.lt_or_ge i 26 with hlt | hge
    · obtain ⟨y, hy⟩ : ∃ y, lxWords[i]? = some y := ⟨_, List.getElem?_eq_getElem (by rw [words_len]; exact hlt)⟩
      have hc : W1.cell? ⟨w.heap.size, i, none⟩ = some (.string ⟨y.toArray⟩) := by
        rw [cell_of hb]
        simp [hy, sb]
      have hlt' : (i : Int) < 26 := by omega
      have HY := Lib.hid hy
      clear hy hb
      by_cases hyx : y = x
      · have HE2 : (y == x) = true := by simpa using hyx
        go_wp2_with fail
        go_ret
        refine ⟨ret_bool ?_, hu⟩
        subst hyx
        have := List.mem_of_getElem? HY.out
        simp [this]
      · have HE2 : (y == x) = false := by simpa using hyx
        go_wp2_with fail
        go_roundw
        case rel =>
          refine ⟨i + 1, by omega, by go_num, Lib.hid ?_, trivial⟩
          obtain ⟨h1, h2⟩ := List.getElem?_eq_some_iff.1 HY.out
          rw [List.take_succ_eq_append_getElem h1, h2]
          intro hm
          rcases List.mem_append.1 hm with hm | hm
          · exact hx.out hm
          · exact hyx (List.mem_singleton.1 hm).symm
        case measure => simp [intOf]; omega
    · have hge' : ¬ (i : Int) < 26 := by omega
      clear hb
      have hi26 := Lib.hid (show i = 26 by omega)
      go_wp2_with fail
      go_ret
      refine ⟨ret_bool ?_, hu⟩
      have := hx.out
      rw [hi26.out, List.take_of_length_le (by rw [words_len]; exact Nat.le_refl _)] at this
      simp [this]
end Go.Proofs.YtbnebkkpmcjmbaaGreatDoor


namespace Go.Proofs.YtbnebkkpmcjmbaaGreatDoor
open Go.RowKit Go.PL Go.Maps

theorem classify_digit {b : UInt8} {t : List UInt8} (hb : lxDigit b = true) : classify (b :: t) = if (numF (b :: t)).2 = 0 then .ok (2, (numF (b :: t)).1) else .error (numF (b :: t)).2 := by
  have h1 : decide (1 < (b :: t).length) = decide (t ≠ []) := by
    cases t <;> simp
  have h2 : numF (b :: t) = if !((b :: t).all lxDigit) || (decide (1 < (b :: t).length) && decide (b.toNat = 48)) then (0, 3) else if 2147483647 < lxNum (b :: t) then (0, 2) else (lxNum (b :: t), 0) := rfl
  rw [h1] at h2
  simp only [classify, hb, if_true]
  rw [h2]
  split
  · rfl
  · split
    · rfl
    · rfl

/-- a token's value, its place not yet known -/
def tkV (k : Nat) (s : List UInt8) (v : Nat) : Value := .agg #[.int .i64 k, .string ⟨s.toArray⟩, .int .i64 v, .int .i64 0, .int .i64 0]

/-- what a run comes to -/
def RunR (s : List UInt8) (e : Ending) : Prop := ∃ k v n : Nat, ∃ x : List UInt8, e = .returned (.tuple #[tkV k x v, .int .i64 n]) ∧
  ((n = 0 ∧ x = s ∧ classify s = .ok (k, v)) ∨ (n ≠ 0 ∧ classify s = .error n))
theorem RunR.ok {s : List UInt8} {k v : Nat} (h : classify s = .ok (k, v)) : RunR s (.returned (.tuple #[.agg #[.int .i64 k, .string ⟨s.toArray⟩, .int .i64 v, .int .i64 0, .int .i64 0], .int .i64 0])) := ⟨k, v, 0, s, rfl, Or.inl ⟨rfl, rfl, h⟩⟩
theorem RunR.bad {s : List UInt8} {n : Nat} (hn : n ≠ 0) (h : classify s = .error n) : RunR s (.returned (.tuple #[.agg #[.int .i64 0, .string ⟨#[]⟩, .int .i64 0, .int .i64 0, .int .i64 0], .int .i64 n])) := ⟨0, 0, n, [], rfl, Or.inr ⟨hn, h⟩⟩
theorem RunR.num {b : UInt8} {t : List UInt8} (hb : lxDigit b = true) : RunR (b :: t) (.returned (.tuple #[.agg #[.int .i64 2, .string ⟨(b :: t).toArray⟩, .int .i64 (numF (b :: t)).1, .int .i64 0, .int .i64 0], .int .i64 (numF (b :: t)).2])) := by
  refine ⟨2, (numF (b :: t)).1, (numF (b :: t)).2, b :: t, rfl, ?_⟩
  rw [classify_digit hb]
  by_cases h : (numF (b :: t)).2 = 0
  · exact Or.inl ⟨h, rfl, by rw [if_pos h]⟩
  · exact Or.inr ⟨h, by rw [if_neg h]⟩

/-- the cells of a new token -/
theorem tok_cells (w : World) (a b c d e : Value) (T : TypeId) : (w.alloc (.cells #[a, b, c, d, e] T)).cell? ⟨w.heap.size, 0, none⟩ = some a ∧ (w.alloc (.cells #[a, b, c, d, e] T)).cell? ⟨w.heap.size, 1, none⟩ = some b ∧ (w.alloc (.cells #[a, b, c, d, e] T)).cell? ⟨w.heap.size, 2, none⟩ = some c ∧ (w.alloc (.cells #[a, b, c, d, e] T)).cell? ⟨w.heap.size, 3, none⟩ = some d ∧ (w.alloc (.cells #[a, b, c, d, e] T)).cell? ⟨w.heap.size, 4, none⟩ = some e := by
  have h := new_at w (.cells #[a, b, c, d, e] T)
  exact ⟨by rw [cell_of h]; rfl, by rw [cell_of h]; rfl, by rw [cell_of h]; rfl, by rw [cell_of h]; rfl, by rw [cell_of h]; rfl⟩

set_option maxRecDepth 100000 in
set_option maxHeartbeats 3200000 in
theorem run_calls (b : UInt8) (t : List UInt8) (m : Value) (w : World) (hl : (b :: t).length ≤ 281474976710656) (he : Env w) (hk : Keys w m) :
    Calls Tryz.prog 106 #[.string ⟨(b :: t).toArray⟩, m] w fun e w' => RunR (b :: t) e ∧ Upto [] w w' := by
  have hu0 : Upto [] w (w.alloc (.cells #[.int .i64 0, .string ⟨#[]⟩, .int .i64 0, .int .i64 0, .int .i64 0] 104)) := (Upto.refl [] w).alloc _
  have HL := (hk.ext hu0).look (b :: t) (by omega)
  have HN := Lib.hid (number_calls b t _ hl (he.ext hu0))
  obtain ⟨bm, rfl, -⟩ := hk
  have HD := Lib.hid digit_calls
  have HT := Lib.hid letter_calls
  have hsz : (ByteArray.mk (b :: t).toArray).size = (b :: t).length := rfl
  have hat := str_at (s := b :: t) (k := 0) (b := b) rfl
  have hpos : (0 : Int) < (b :: t).length := by simp only [List.length_cons]; omega
  cases hw : lxWords.contains (b :: t) with
  | true =>
    have hc : classify (b :: t) = .ok (3, 0) := by
      have hm : (b :: t) ∈ lxWords := by simpa using hw
      have h2 : lxWords.all (fun x => match x with | [] => false | b :: _ => lxLetter b && !lxDigit b) = true := by kernel_rfl
      have h3 := List.all_eq_true.1 h2 _ hm
      simp only [Bool.and_eq_true, Bool.not_eq_true'] at h3
      simp only [classify, h3.1, h3.2, hw, Bool.false_eq_true, if_false, if_true, Bool.not_true]
    rw [hw] at HL
    have HC := Lib.hid hc
    generalize b :: t = s at *
    clear hc hw hat he HN
    go_enter Tryz.func106, Tryz.ntmps106
    go_wp2_with fail
    obtain ⟨q0, q1, q2, q3, q4⟩ := tok_cells w (.int .i64 3) (.string ⟨s.toArray⟩) (.int .i64 0) (.int .i64 0) (.int .i64 0) 36
    refine bodyPost_ret (v := .tuple #[.agg #[.int .i64 3, .string ⟨s.toArray⟩, .int .i64 0, .int .i64 0, .int .i64 0], .int .i64 0]) (by simp [results, Tryz.results106, go_sem]) rfl ⟨?_, (Upto.refl _ _).alloc _⟩
    exact RunR.ok HC.out
  | false =>
    rw [hw] at HL
    cases hd : lxDigit b with
    | true =>
      have HH := Lib.hid hd
      have HF := Lib.hid (RunR.num (t := t) hd)
      generalize (numF (b :: t)).1 = nv at *
      generalize (numF (b :: t)).2 = ne at *
      generalize b :: t = s at *
      clear he hw
      go_enter Tryz.func106, Tryz.ntmps106
      go_wp2_with fail
      refine (HD.out _ _).mono ?_
      rintro e w1 ⟨rfl, rfl⟩
      rw [HH.out]
      go_wp2_with fail
      refine HN.out.mono ?_
      rintro e w2 ⟨rfl, hu2⟩
      have hb2 := hu2.at (new_at w (.cells #[.int .i64 0, .string ⟨#[]⟩, .int .i64 0, .int .i64 0, .int .i64 0] 104)) (by simp)
      have huw := hu0.trans_ext hu2
      clear hu0 hu2
      generalize hB : w.heap.size = B at *
      obtain ⟨q0, q1, q2, q3, q4⟩ := cells5 hb2
      obtain ⟨f0, f1, f2, f3, f4⟩ := frees5 hb2
      clear HD HT HN HL
      go_wp2_with fail
      refine bodyPost_ret (v := .tuple #[.agg #[.int .i64 2, .string ⟨s.toArray⟩, .int .i64 nv, .int .i64 0, .int .i64 0], .int .i64 ne]) (by simp [results, Tryz.results106, go_sem, q0, q1, q2, q3, q4]) rfl ⟨HF.out, ?_⟩
      have hin : w.heap.size ≤ B := by omega
      exact ((((huw.setCell (Or.inr hin) _).setCell (Or.inr hin) _).setCell (Or.inr hin) _).setCell (Or.inr hin) _).setCell (Or.inr hin) _
    | false =>
      have HH := Lib.hid hd
      cases hlt : lxLetter b with
      | false =>
        have HJ := Lib.hid hlt
        have hc : classify (b :: t) = .error 3 := by simp only [classify, hd, hlt, Bool.false_eq_true, if_false, if_true, Bool.not_false]
        have HC := Lib.hid hc
        generalize b :: t = s at *
        clear hc hw he HN
        go_enter Tryz.func106, Tryz.ntmps106
        go_wp2_with fail
        refine (HD.out _ _).mono ?_
        rintro e w1 ⟨rfl, rfl⟩
        rw [HH.out]
        go_wp2_with fail
        refine (HT.out _ _).mono ?_
        rintro e w1 ⟨rfl, rfl⟩
        rw [HJ.out]
        go_wp2_with fail
        obtain ⟨q0, q1, q2, q3, q4⟩ := tok_cells w (.int .i64 0) (.string ⟨#[]⟩) (.int .i64 0) (.int .i64 0) (.int .i64 0) 36
        refine bodyPost_ret (v := .tuple #[.agg #[.int .i64 0, .string ⟨#[]⟩, .int .i64 0, .int .i64 0, .int .i64 0], .int .i64 3]) (by simp [results, Tryz.results106, go_sem]) rfl ⟨?_, (Upto.refl _ _).alloc _⟩
        exact RunR.bad (by decide) HC.out
      | true =>
        have HJ := Lib.hid hlt
        by_cases h16 : 16 < (b :: t).length
        · have hc : classify (b :: t) = .error 2 := by simp only [classify, hd, hlt, hw, h16, Bool.false_eq_true, if_false, if_true, Bool.not_true]
          have HC := Lib.hid hc
          have h16' : (16 : Int) < (b :: t).length := by omega
          generalize b :: t = s at *
          clear hc hw he HN
          go_enter Tryz.func106, Tryz.ntmps106
          go_wp2_with fail
          refine (HD.out _ _).mono ?_
          rintro e w1 ⟨rfl, rfl⟩
          rw [HH.out]
          go_wp2_with fail
          refine (HT.out _ _).mono ?_
          rintro e w1 ⟨rfl, rfl⟩
          rw [HJ.out]
          go_wp2_with fail
          obtain ⟨q0, q1, q2, q3, q4⟩ := tok_cells w (.int .i64 0) (.string ⟨#[]⟩) (.int .i64 0) (.int .i64 0) (.int .i64 0) 36
          refine bodyPost_ret (v := .tuple #[.agg #[.int .i64 0, .string ⟨#[]⟩, .int .i64 0, .int .i64 0, .int .i64 0], .int .i64 2]) (by simp [results, Tryz.results106, go_sem]) rfl ⟨?_, (Upto.refl _ _).alloc _⟩
          exact RunR.bad (by decide) HC.out
        · have hc : classify (b :: t) = .ok (1, 0) := by simp only [classify, hd, hlt, hw, h16, Bool.false_eq_true, if_false, Bool.not_true]
          have HC := Lib.hid hc
          have h16' : ¬ (16 : Int) < (b :: t).length := by omega
          generalize b :: t = s at *
          clear hc hw he HN
          go_enter Tryz.func106, Tryz.ntmps106
          go_wp2_with fail
          refine (HD.out _ _).mono ?_
          rintro e w1 ⟨rfl, rfl⟩
          rw [HH.out]
          go_wp2_with fail
          refine (HT.out _ _).mono ?_
          rintro e w1 ⟨rfl, rfl⟩
          rw [HJ.out]
          go_wp2_with fail
          obtain ⟨q0, q1, q2, q3, q4⟩ := tok_cells w (.int .i64 1) (.string ⟨s.toArray⟩) (.int .i64 0) (.int .i64 0) (.int .i64 0) 36
          refine bodyPost_ret (v := .tuple #[.agg #[.int .i64 1, .string ⟨s.toArray⟩, .int .i64 0, .int .i64 0, .int .i64 0], .int .i64 0]) (by simp [results, Tryz.results106, go_sem]) rfl ⟨?_, (Upto.refl _ _).alloc _⟩
          exact RunR.ok HC.out

set_option maxRecDepth 100000 in
set_option maxHeartbeats 3200000 in
theorem tokenR_calls (b : UInt8) (t : List UInt8) (w : World) (hl : (b :: t).length ≤ 281474976710656) :
    Calls Tryz.prog 47 #[.string ⟨(b :: t).toArray⟩] w fun e w' => RunR (b :: t) e ∧ Upto [] w w' := by
  have hu0 : Upto [] w (w.alloc (.cells #[.int .i64 0, .string ⟨#[]⟩, .int .i64 0, .int .i64 0, .int .i64 0] 71)) := (Upto.refl [] w).alloc _
  have HW := Lib.hid (isWord_calls (b :: t) (w.alloc (.cells #[.int .i64 0, .string ⟨#[]⟩, .int .i64 0, .int .i64 0, .int .i64 0] 71)))
  have HN := Lib.hid (numberR_calls b t (w.alloc (.cells #[.int .i64 0, .string ⟨#[]⟩, .int .i64 0, .int .i64 0, .int .i64 0] 71)) hl)
  have HD := Lib.hid digitR_calls
  have HT := Lib.hid letterR_calls
  have hsz : (ByteArray.mk (b :: t).toArray).size = (b :: t).length := rfl
  have hat := str_at (s := b :: t) (k := 0) (b := b) rfl
  have hpos : (0 : Int) < (b :: t).length := by simp only [List.length_cons]; omega
  cases hd : lxDigit b with
  | true =>
    have HH := Lib.hid hd
    have HF := Lib.hid (RunR.num (t := t) hd)
    generalize (numF (b :: t)).1 = nv at *
    generalize (numF (b :: t)).2 = ne at *
    generalize b :: t = s at *
    clear HW HT
    go_enter Tryz.func47, Tryz.ntmps47
    go_wp2_with fail
    refine (HD.out _ _).mono ?_
    rintro e w1 ⟨rfl, rfl⟩
    rw [HH.out]
    go_wp2_with fail
    refine HN.out.mono ?_
    rintro e w2 ⟨rfl, rfl⟩
    go_wp2_with fail
    obtain ⟨q0, q1, q2, q3, q4⟩ := tok_cells w (.int .i64 2) (.string ⟨s.toArray⟩) (.int .i64 nv) (.int .i64 0) (.int .i64 0) 80
    refine bodyPost_ret (v := .tuple #[.agg #[.int .i64 2, .string ⟨s.toArray⟩, .int .i64 nv, .int .i64 0, .int .i64 0], .int .i64 ne]) (by simp [results, Tryz.results47, go_sem]) rfl ⟨?_, (Upto.refl _ _).alloc _⟩
    exact HF.out
  | false =>
    have HH := Lib.hid hd
    cases hlt : lxLetter b with
    | false =>
      have HJ := Lib.hid hlt
      have hc : classify (b :: t) = .error 3 := by simp only [classify, hd, hlt, Bool.false_eq_true, if_false, if_true, Bool.not_false]
      have HC := Lib.hid hc
      generalize b :: t = s at *
      clear hc HW HN
      go_enter Tryz.func47, Tryz.ntmps47
      go_wp2_with fail
      refine (HD.out _ _).mono ?_
      rintro e w1 ⟨rfl, rfl⟩
      rw [HH.out]
      go_wp2_with fail
      refine (HT.out _ _).mono ?_
      rintro e w1 ⟨rfl, rfl⟩
      rw [HJ.out]
      go_wp2_with fail
      obtain ⟨q0, q1, q2, q3, q4⟩ := tok_cells w (.int .i64 0) (.string ⟨#[]⟩) (.int .i64 0) (.int .i64 0) (.int .i64 0) 80
      refine bodyPost_ret (v := .tuple #[.agg #[.int .i64 0, .string ⟨#[]⟩, .int .i64 0, .int .i64 0, .int .i64 0], .int .i64 3]) (by simp [results, Tryz.results47, go_sem]) rfl ⟨?_, (Upto.refl _ _).alloc _⟩
      exact RunR.bad (by decide) HC.out
    | true =>
      have HJ := Lib.hid hlt
      have hcl : classify (b :: t) = if lxWords.contains (b :: t) then .ok (3, 0) else if 16 < (b :: t).length then .error 2 else .ok (1, 0) := by simp only [classify, hd, hlt, Bool.false_eq_true, if_false, Bool.not_true]
      have HC := Lib.hid hcl
      cases hw : lxWords.contains (b :: t) with
      | true =>
        have HQ := Lib.hid hw
        generalize b :: t = s at *
        clear hcl hw HN
        go_enter Tryz.func47, Tryz.ntmps47
        go_wp2_with fail
        refine (HD.out _ _).mono ?_
        rintro e w1 ⟨rfl, rfl⟩
        rw [HH.out]
        go_wp2_with fail
        refine (HT.out _ _).mono ?_
        rintro e w1 ⟨rfl, rfl⟩
        rw [HJ.out]
        go_wp2_with fail
        refine HW.out.mono ?_
        rintro e w2 ⟨rfl, hu2⟩
        rw [HQ.out]
        have hb2 := hu2.at (new_at w (.cells #[.int .i64 0, .string ⟨#[]⟩, .int .i64 0, .int .i64 0, .int .i64 0] 71)) (by simp)
        have huw := hu0.trans_ext hu2
        clear hu0 hu2
        generalize hB : w.heap.size = B at *
        obtain ⟨q0, q1, q2, q3, q4⟩ := cells5 hb2
        obtain ⟨f0, f1, f2, f3, f4⟩ := frees5 hb2
        clear HD HT HW
        go_wp2_with fail
        refine bodyPost_ret (v := .tuple #[.agg #[.int .i64 3, .string ⟨s.toArray⟩, .int .i64 0, .int .i64 0, .int .i64 0], .int .i64 0]) (by simp [results, Tryz.results47, go_sem, q0, q1, q2, q3, q4]) rfl ⟨RunR.ok (by rw [HC.out, HQ.out]; rfl), ?_⟩
        have hin : w.heap.size ≤ B := by omega
        exact ((((huw.setCell (Or.inr hin) _).setCell (Or.inr hin) _).setCell (Or.inr hin) _).setCell (Or.inr hin) _).setCell (Or.inr hin) _
      | false =>
        have HQ := Lib.hid hw
        by_cases h16 : 16 < (b :: t).length
        · have h16' : (16 : Int) < (b :: t).length := by omega
          generalize b :: t = s at *
          clear hcl hw HN
          go_enter Tryz.func47, Tryz.ntmps47
          go_wp2_with fail
          refine (HD.out _ _).mono ?_
          rintro e w1 ⟨rfl, rfl⟩
          rw [HH.out]
          go_wp2_with fail
          refine (HT.out _ _).mono ?_
          rintro e w1 ⟨rfl, rfl⟩
          rw [HJ.out]
          go_wp2_with fail
          refine HW.out.mono ?_
          rintro e w2 ⟨rfl, hu2⟩
          rw [HQ.out]
          have hb2 := hu2.at (new_at w (.cells #[.int .i64 0, .string ⟨#[]⟩, .int .i64 0, .int .i64 0, .int .i64 0] 71)) (by simp)
          have huw := hu0.trans_ext hu2
          clear hu0 hu2
          generalize hB : w.heap.size = B at *
          obtain ⟨q0, q1, q2, q3, q4⟩ := cells5 hb2
          obtain ⟨f0, f1, f2, f3, f4⟩ := frees5 hb2
          clear HD HT HW
          go_wp2_with fail
          refine bodyPost_ret (v := .tuple #[.agg #[.int .i64 0, .string ⟨#[]⟩, .int .i64 0, .int .i64 0, .int .i64 0], .int .i64 2]) (by simp [results, Tryz.results47, go_sem, q0, q1, q2, q3, q4]) rfl ⟨RunR.bad (n := 2) (by decide) (by rw [HC.out, HQ.out, if_neg (by simp), if_pos h16]), ?_⟩
          have hin : w.heap.size ≤ B := by omega
          exact ((((huw.setCell (Or.inr hin) _).setCell (Or.inr hin) _).setCell (Or.inr hin) _).setCell (Or.inr hin) _).setCell (Or.inr hin) _
        · have h16' : ¬ (16 : Int) < (b :: t).length := by omega
          generalize b :: t = s at *
          clear hcl hw HN
          go_enter Tryz.func47, Tryz.ntmps47
          go_wp2_with fail
          refine (HD.out _ _).mono ?_
          rintro e w1 ⟨rfl, rfl⟩
          rw [HH.out]
          go_wp2_with fail
          refine (HT.out _ _).mono ?_
          rintro e w1 ⟨rfl, rfl⟩
          rw [HJ.out]
          go_wp2_with fail
          refine HW.out.mono ?_
          rintro e w2 ⟨rfl, hu2⟩
          rw [HQ.out]
          have hb2 := hu2.at (new_at w (.cells #[.int .i64 0, .string ⟨#[]⟩, .int .i64 0, .int .i64 0, .int .i64 0] 71)) (by simp)
          have huw := hu0.trans_ext hu2
          clear hu0 hu2
          generalize hB : w.heap.size = B at *
          obtain ⟨q0, q1, q2, q3, q4⟩ := cells5 hb2
          obtain ⟨f0, f1, f2, f3, f4⟩ := frees5 hb2
          clear HD HT HW
          go_wp2_with fail
          refine bodyPost_ret (v := .tuple #[.agg #[.int .i64 1, .string ⟨s.toArray⟩, .int .i64 0, .int .i64 0, .int .i64 0], .int .i64 0]) (by simp [results, Tryz.results47, go_sem, q0, q1, q2, q3, q4]) rfl ⟨RunR.ok (k := 1) (v := 0) (by rw [HC.out, HQ.out, if_neg (by simp), if_neg h16]), ?_⟩
          have hin : w.heap.size ≤ B := by omega
          exact ((((huw.setCell (Or.inr hin) _).setCell (Or.inr hin) _).setCell (Or.inr hin) _).setCell (Or.inr hin) _).setCell (Or.inr hin) _

set_option maxRecDepth 100000 in
set_option maxHeartbeats 1600000 in
/-- the reference's run -/
theorem runR_calls (s : List UInt8) (i : Nat) (hi : i ≤ s.length) (hl : s.length ≤ 4611686018427387904) (w : World) :
    Calls Tryz.prog 46 #[.string ⟨s.toArray⟩, .int .i64 i] w fun e w' => e = .returned (.int .i64 ((s.drop i).takeWhile lxInner).length) ∧ w' = w := by
  have HI := Lib.hid innerR_calls
  have hsz : (ByteArray.mk s.toArray).size = s.length := rfl
  obtain ⟨W0, hW0⟩ : ∃ W0, W0 = w := ⟨_, rfl⟩
  rw [← hW0]
  clear hW0
  go_enter Tryz.func46, Tryz.ntmps46
  go_wp2_with fail
  go_loopw [5] (fun j wr => ∃ k : Nat, i + k ≤ s.length ∧ j = .int .i64 k ∧ ((s.drop i).takeWhile lxInner).length = k + ((s.drop (i + k)).takeWhile lxInner).length ∧ wr = W0) (fun j _ => s.length - (intOf j).toNat)
  case atStart => exact ⟨0, by omega, rfl, by simp, rfl⟩
  case round =>
    obtain ⟨k, hk, rfl, he, hw0⟩ := hrel
    have hw1 := hw0.symm
    subst hw1
    have HE := Lib.hid he
    clear he
    rcases Nat.lt_or_ge (i + k) s.length with hlt | hge
    · obtain ⟨b, hb⟩ : ∃ b, s[i + k]? = some b := ⟨s[i + k], List.getElem?_eq_getElem hlt⟩
      have hat := str_at hb
      have HB := Lib.hid hb
      clear hb
      have hlt' : (i : Int) + k < s.length := by omega
      have hnn : (0 : Int) ≤ (i : Int) + k := by omega
      have htn : ((i : Int) + k).toNat = i + k := by omega
      go_wp2_with fail
      refine (HI.out _ _).mono ?_
      rintro e w1 ⟨rfl, rfl⟩
      cases hp : lxInner b with
      | true =>
        go_wp2_with fail
        go_roundw
        case rel => exact ⟨k + 1, by omega, by go_num, by rw [HE.out, take_step HB.out hp, Nat.add_assoc i k 1]; omega, trivial⟩
        case measure => simp [intOf]; omega
      | false =>
        go_wp2_with fail
        go_ret
        refine ⟨ret_int ?_, rfl⟩
        rw [HE.out, take_stop HB.out hp]
        omega
    · have hge' : ¬ (i : Int) + k < s.length := by omega
      go_wp2_with fail
      go_ret
      refine ⟨ret_int ?_, rfl⟩
      rw [HE.out, List.drop_eq_nil_of_le hge]
      simp
end Go.Proofs.YtbnebkkpmcjmbaaGreatDoor


namespace Go.PL
open Go.RowKit

/-- what is known of the value that operation idx has left; own: the new blocks that it owns -/
structure Fact where
  idx : Nat
  own : List Nat
  holds : World → Prop

def maskStep (ms : List Nat) (o : Oper) : List Nat :=
  ms ++ [o.after.toList.foldl (fun m e => if Region.binds .any e then (m ||| (1 <<< e.on)) ||| ms.getD e.on 0 else m) 0]
/-- for each operation the set of those that it waits for, near and far -/
def masks (ops : List Oper) : List Nat := ops.foldl maskStep []
def reach (ops : Array Oper) (i j : Nat) : Bool := ((masks ops.toList).getD i 0).testBit j

theorem maskFold (ms : List Nat) (j : Nat) : ∀ (es : List Edge) (m : Nat), (es.foldl (fun m e => if Region.binds .any e then (m ||| (1 <<< e.on)) ||| ms.getD e.on 0 else m) m).testBit j = true →
    m.testBit j = true ∨ ∃ e ∈ es, Region.binds .any e = true ∧ (e.on = j ∨ (ms.getD e.on 0).testBit j = true)
  | [], m, h => Or.inl h
  | e :: es, m, h => by
    rw [List.foldl_cons] at h
    rcases maskFold ms j es _ h with h | ⟨e', he, h⟩
    · by_cases hb : Region.binds .any e = true
      · rw [if_pos hb, Nat.testBit_or, Nat.testBit_or, Bool.or_eq_true, Bool.or_eq_true] at h
        rcases h with (h | h) | h
        · exact Or.inl h
        · refine Or.inr ⟨e, by simp, hb, Or.inl ?_⟩
          rw [Nat.testBit_shiftLeft] at h
          simp only [Bool.and_eq_true, decide_eq_true_eq] at h
          have := h.2
          rw [show (1 : Nat) = 2 ^ 0 from rfl, Nat.testBit_two_pow] at this
          simp at this
          omega
        · exact Or.inr ⟨e, by simp, hb, Or.inr h⟩
      · rw [if_neg hb] at h
        exact Or.inl h
    · exact Or.inr ⟨e', by simp [he], h⟩

theorem masks_len (ops : List Oper) : (masks ops).length = ops.length := by
  unfold masks
  suffices h : ∀ (l : List Oper) (ms : List Nat), (l.foldl maskStep ms).length = ms.length + l.length by simpa using h ops []
  intro l
  induction l with
  | nil => intro ms; simp
  | cons o l ih => intro ms; rw [List.foldl_cons, ih]; simp [maskStep]; omega

theorem masks_from (l : List Oper) : ∀ (ms : List Nat) (i : Nat), i < ms.length → (l.foldl maskStep ms).getD i 0 = ms.getD i 0 := by
  induction l with
  | nil => intro ms i _; rfl
  | cons o l ih =>
    intro ms i hi
    rw [List.foldl_cons, ih _ _ (by simp [maskStep]; omega)]
    simp [maskStep, List.getD, List.getElem?_append_left hi]

theorem masks_spec (ops : List Oper) : ∀ (pre post : List Oper) (o : Oper), ops = pre ++ o :: post → ∀ j, ((masks ops).getD pre.length 0).testBit j = true →
    ∃ e ∈ o.after.toList, Region.binds .any e = true ∧ (e.on = j ∨ (e.on < pre.length ∧ ((masks ops).getD e.on 0).testBit j = true)) := by
  rintro pre post o rfl j h
  have hm : masks (pre ++ o :: post) = post.foldl maskStep (maskStep (masks pre) o) := by simp [masks, List.foldl_append]
  have hl : (maskStep (masks pre) o).length = pre.length + 1 := by simp [maskStep, masks_len]
  rw [hm, masks_from _ _ _ (by rw [hl]; omega)] at h
  have hg : (maskStep (masks pre) o).getD pre.length 0 = o.after.toList.foldl (fun m e => if Region.binds .any e then (m ||| (1 <<< e.on)) ||| (masks pre).getD e.on 0 else m) 0 := by
    unfold maskStep
    simp [List.getD, masks_len]
  rw [hg] at h
  rcases maskFold _ _ _ _ h with h | ⟨e, he, hb, h⟩
  · simp at h
  · refine ⟨e, he, hb, h.imp id fun h => ?_⟩
    have hlt : e.on < pre.length := by
      rw [← masks_len]
      refine Nat.lt_of_not_le fun hle => ?_
      rw [List.getD, List.getElem?_eq_none hle] at h
      simp at h
    refine ⟨hlt, ?_⟩
    rw [hm, masks_from _ _ _ (by rw [hl]; omega)]
    simpa [maskStep, List.getD, List.getElem?_append_left (show e.on < (masks pre).length by rw [masks_len]; exact hlt)] using h

theorem reach_spec {ops : Array Oper} {i j : Nat} {o : Oper} (hi : ops[i]? = some o) (h : reach ops i j = true) :
    ∃ e ∈ o.after, Region.binds .any e = true ∧ (e.on = j ∨ (e.on < i ∧ reach ops e.on j = true)) := by
  have hi' : ops.toList[i]? = some o := by simpa using hi
  obtain ⟨hlt, hget⟩ := List.getElem?_eq_some_iff.1 hi'
  have hsplit : ops.toList = ops.toList.take i ++ o :: ops.toList.drop (i + 1) := by
    rw [← hget, ← List.drop_eq_getElem_cons hlt, List.take_append_drop]
  have hlen : (ops.toList.take i).length = i := by rw [List.length_take]; omega
  obtain ⟨e, he, hb, h⟩ := masks_spec _ _ _ _ hsplit j (by rw [hlen]; exact h)
  rw [hlen] at h
  exact ⟨e, by simpa using he, hb, h⟩

/-- what has come up waits for nothing that has not -/
def Closed (ops : Array Oper) (listed : Array Bool) : Prop := ∀ i o, ops[i]? = some o → listed.getD i false = true → ∀ e ∈ o.after, Region.binds .any e = true → listed.getD e.on false = true

theorem reach_listed {ops : Array Oper} {listed : Array Bool} (hc : Closed ops listed) {j : Nat} : ∀ (n i : Nat) (o : Oper), i < n → ops[i]? = some o → (∀ e ∈ o.after, Region.binds .any e = true → listed.getD e.on false = true) → reach ops i j = true → listed.getD j false = true := by
  intro n
  induction n with
  | zero => intro i _ h; omega
  | succ n ih =>
    intro i o hi ho hd hr
    obtain ⟨e, he, hb, h | ⟨hlt, h⟩⟩ := reach_spec ho hr
    · rw [← h]; exact hd e he hb
    · have hle := hd e he hb
      have hlt' : e.on < ops.size := Nat.lt_trans hlt (Array.getElem?_eq_some_iff.1 ho).1
      exact ih e.on _ (by omega) (Array.getElem?_eq_getElem hlt') (hc e.on _ (Array.getElem?_eq_getElem hlt') hle) h

/-- an operation that is no call of a Go function and hands on a value in the world that it got -/
def plainOp (o : Oper) : Bool :=
  match o.op with
  | .move _ | .assign _ | .pick .. | .build .. | .load .. | .binOp .. | .unOp .. | .fieldAddr .. | .field .. | .indexAddr .. | .index .. | .extract .. | .slice .. | .lookup .. | .makeInterface .. | .convert .. | .makeFunc .. | .nilCheck _ => true
  | _ => false

theorem then_ok {α : Type} {r : Result α} {k : α → World → Result Next} {n : Next} {w' : World} (h : r.andThen k = .ok n w') : ∃ v w1, k v w1 = .ok n w' := by
  cases r with
  | ok v w1 => exact ⟨v, w1, h⟩
  | halt x w1 => simp [Result.andThen] at h
theorem only_value (P : Program) (s : Sem Value) (w w' : World) (n : Next) (h : (do pure (Next.value (← s)) : Sem Next).run P w = .ok n w') : ∃ v, n = .value v := by
  rw [Sem.run_bind] at h
  obtain ⟨v, w1, h⟩ := then_ok h
  simp [Sem.run_pure] at h
  exact ⟨v, h.1.symm⟩

theorem plain_value {P : Program} {o : Oper} {ρ : Operand → Value} (hp : plainOp o = true) (w w' : World) (n : Next) (h : (execOp ρ o).run P w = .ok n w') : ∃ v, n = .value v := by
  obtain ⟨dst, op, type, pos, after, guard⟩ := o
  cases op <;> simp only [plainOp, Bool.false_eq_true] at hp <;> simp only [execOp] at h
  case move x => simp [Sem.run_pure] at h; exact ⟨_, h.1.symm⟩
  case assign x => simp [Sem.run_pure] at h; exact ⟨_, h.1.symm⟩
  case pick c a b =>
    rw [Sem.run_bind] at h
    obtain ⟨v, w1, h⟩ := then_ok h
    simp [Sem.run_pure] at h
    exact ⟨_, h.1.symm⟩
  case nilCheck x =>
    split at h
    · simp [runtimePanic] at h
    · simp [runtimePanic] at h
    · simp [runtimePanic] at h
    · split at h
      · simp [runtimePanic] at h
      · rw [Sem.run_bind] at h
        obtain ⟨_, _, h⟩ := then_ok h
        rw [Sem.run_bind] at h
        obtain ⟨_, _, h⟩ := then_ok h
        split at h
        · rw [Sem.run_bind] at h
          obtain ⟨_, _, h⟩ := then_ok h
          simp [Sem.run_pure] at h
          exact ⟨_, h.1.symm⟩
        · simp [Sem.run_pure] at h
          exact ⟨_, h.1.symm⟩
      · simp [Sem.run_pure] at h
        exact ⟨_, h.1.symm⟩
    · simp [Sem.run_pure] at h
      exact ⟨_, h.1.symm⟩
  all_goals exact only_value P _ w w' n h

/-- what a plain operation leaves -/
theorem plain_val {P : Program} {o : Oper} {a : Act} {C : World → Prop} {w : World} {v : Value} (hp : plainOp o = true) (h : o.quietAt P a C w v) :
    (execOp a.eval o).run P w = .ok (.value v) w := by
  unfold Oper.quietAt at h
  have hn := plain_value (P := P) (ρ := a.eval) hp w
  generalize (execOp a.eval o).run P w = r at *
  cases r with
  | ok n w' =>
    obtain ⟨u, rfl⟩ := hn w' n rfl
    simp only [Oper.quietUpon] at h
    obtain ⟨rfl, rfl⟩ := h
    rfl
  | halt x w' => simp only [Oper.quietUpon] at h
theorem plain_res {P : Program} {o : Oper} {a : Act} {C : World → Prop} {w : World} {v : Value} (hp : plainOp o = true) (h : o.quietAt P a C w v) :
    (execOp a.eval o).run P w = .ok (.value v) w ∨ ((execOp a.eval o).run P w = .ok .skip w ∧ v = undef) := Or.inl (plain_val hp h)

/-- what is asked once an operation that may make memory has been carried out -/
def opqUpon (P : Program) (post : Value → World → Prop) : Result Next → Prop
  | .ok (.value u) w' => post u w'
  | .ok .skip w' => post undef w'
  | .ok (.enter f args) w' => Calls P f args w' fun e w'' => ∃ u, e = .returned u ∧ post u w''
  | _ => False

theorem opqUpon_mono {P : Program} {post post' : Value → World → Prop} {r : Result Next} (h : ∀ v w, post v w → post' v w) (hh : opqUpon P post r) : opqUpon P post' r := by
  cases r with
  | ok n w' =>
    cases n <;> simp only [opqUpon] at hh ⊢
    case value u => exact h _ _ hh
    case skip => exact h _ _ hh
    case enter f args => exact hh.mono fun e w'' ⟨u, he, hp⟩ => ⟨u, he, h _ _ hp⟩
  | halt x w' => simp only [opqUpon] at hh

/-- the facts on which operation i may lean -/
def DF (ops : Array Oper) (i : Nat) : List Fact → World → Prop
  | [], _ => True
  | f :: Fs, w => (reach ops i f.idx = true → f.holds w) ∧ DF ops i Fs w
def AllHold : List Fact → World → Prop
  | [], _ => True
  | f :: Fs, w => f.holds w ∧ AllHold Fs w

theorem DF_iff {ops : Array Oper} {i : Nat} {Fs : List Fact} {w : World} : DF ops i Fs w ↔ ∀ f ∈ Fs, reach ops i f.idx = true → f.holds w := by
  induction Fs with
  | nil => simp [DF]
  | cons f Fs ih => simp [DF, ih]
theorem AllHold_iff {Fs : List Fact} {w : World} : AllHold Fs w ↔ ∀ f ∈ Fs, f.holds w := by
  induction Fs with
  | nil => simp [AllHold]
  | cons f Fs ih => simp [AllHold, ih]

def ownAll (Fs : List Fact) : List Nat := Fs.flatMap Fact.own

/-- the walk, in the order of the list: Cs the calls, As the allocations, all others plain -/
def Seg (P : Program) (ops : Array Oper) (W : World) (Cs As : List Nat) (K : List Fact → Act → Prop) : List Nat → List Fact → Act → Prop
  | [], Fs, a => K Fs a
  | i :: l, Fs, a =>
    match ops[i]? with
    | none => False
    | some o =>
      if Region.wanted o (yielded ops a.tmps) = true then
        if i ∈ As then
          ∃ (obj : Obj) (mk : Nat → Value), (∀ w, (execOp a.eval o).run P w = .ok (.value (mk w.heap.size)) (w.alloc obj)) ∧
            ∀ b, Seg P ops W Cs As K l (⟨i, [b], fun w => w.heap[b]? = some obj⟩ :: Fs) (a.put o.dst (mk b))
        else if i ∈ Cs then
          (∃ v, (∀ w, Upto [] W w → DF ops i Fs w → opqUpon P (fun u w' => Upto [] w w' ∧ u = v) ((execOp a.eval o).run P w)) ∧ Seg P ops W Cs As K l Fs (a.put o.dst v)) ∨
          ∃ (Y : Type) (mk : Y → Value) (Φ : Y → World → Prop) (own : Y → List Nat), Nonempty Y ∧ (∀ y w w', Φ y w → Upto [] w w' → Φ y w') ∧ (∀ y, (own y).Nodup) ∧
            (∀ w, Upto [] W w → DF ops i Fs w → opqUpon P (fun v w' => Upto [] w w' ∧ ∃ y, v = mk y ∧ Φ y w' ∧ ∀ b ∈ own y, w.heap.size ≤ b ∧ b < w'.heap.size) ((execOp a.eval o).run P w)) ∧
            ∀ y, Seg P ops W Cs As K l (⟨i, own y, Φ y⟩ :: Fs) (a.put o.dst (mk y))
        else plainOp o = true ∧ ∃ C : World → Prop, (∀ w, Upto [] W w → DF ops i Fs w → C w) ∧ o.quiet P a C (Seg P ops W Cs As K l Fs)
      else Seg P ops W Cs As K l Fs (a.put o.dst undef)

section
variable {P : Program} {ops : Array Oper} {W : World} {Cs As : List Nat} {K : List Fact → Act → Prop}

theorem Seg_perm (hK : ∀ Fs Fs' a, Fs.Perm Fs' → K Fs a → K Fs' a) : ∀ (l : List Nat) (Fs Fs' : List Fact) (a : Act), Fs.Perm Fs' → Seg P ops W Cs As K l Fs a → Seg P ops W Cs As K l Fs' a
  | [], Fs, Fs', a, hp, h => hK _ _ _ hp h
  | i :: l, Fs, Fs', a, hp, h => by
    have hdf : ∀ {w}, DF ops i Fs' w → DF ops i Fs w := fun h => DF_iff.2 fun f hf => DF_iff.1 h f (hp.mem_iff.1 hf)
    unfold Seg at h ⊢
    split at h
    · exact h
    · rename_i o ho
      split at h
      · rename_i hw
        rw [if_pos hw]
        split at h
        · rename_i hA
          rw [if_pos hA]
          obtain ⟨obj, mk, h1, h2⟩ := h
          exact ⟨obj, mk, h1, fun b => Seg_perm hK l _ _ _ (hp.cons _) (h2 b)⟩
        · rename_i hA
          rw [if_neg hA]
          split at h
          · rename_i hC
            rw [if_pos hC]
            rcases h with ⟨v, h1, h2⟩ | ⟨Y, mk, Φ, own, hy, h1, h2, h3, h4⟩
            · exact Or.inl ⟨v, fun w hw hd => h1 w hw (hdf hd), Seg_perm hK l _ _ _ hp h2⟩
            · exact Or.inr ⟨Y, mk, Φ, own, hy, h1, h2, fun w hw hd => h3 w hw (hdf hd), fun v => Seg_perm hK l _ _ _ (hp.cons _) (h4 v)⟩
          · rename_i hC
            rw [if_neg hC]
            obtain ⟨h1, C, h2, h3⟩ := h
            exact ⟨h1, C, fun w hw hd => h2 w hw (hdf hd), Oper.quiet_mono (fun a h => Seg_perm hK l _ _ _ hp h) h3⟩
      · rename_i hw
        rw [if_neg hw]
        exact Seg_perm hK l _ _ _ hp h

/-- what a plain operation or an allocation has come to -/
def Res (P : Program) (ops : Array Oper) (o : Oper) (a : Act) (w : World) (u : Value) (w' : World) : Prop :=
  if Region.wanted o (yielded ops a.tmps) = true then (execOp a.eval o).run P w = .ok (.value u) w' ∨ ((execOp a.eval o).run P w = .ok .skip w' ∧ u = undef) else u = undef ∧ w' = w
def NF (j : Nat) (w w' : World) (nf : List Fact) : Prop :=
  (nf = [] ∧ w' = w) ∨ ∃ obj, w' = w.alloc obj ∧ nf = [⟨j, [w.heap.size], fun x => x.heap[w.heap.size]? = some obj⟩]

theorem Res.unique {o : Oper} {a : Act} {w w1 w2 : World} {u1 u2 : Value} (h1 : Res P ops o a w u1 w1) (h2 : Res P ops o a w u2 w2) : u1 = u2 ∧ w1 = w2 := by
  unfold Res at h1 h2
  by_cases hw : Region.wanted o (yielded ops a.tmps) = true
  · rw [if_pos hw] at h1 h2
    rcases h1 with h1 | ⟨h1, e1⟩ <;> rcases h2 with h2 | ⟨h2, e2⟩
    · rw [h1] at h2; cases h2; exact ⟨rfl, rfl⟩
    · rw [h1] at h2; cases h2
    · rw [h1] at h2; cases h2
    · rw [h1] at h2; cases h2; exact ⟨e1.trans e2.symm, rfl⟩
  · rw [if_neg hw] at h1 h2
    exact ⟨h1.1.trans h2.1.symm, h1.2.trans h2.2.symm⟩

theorem alloc_inj {w : World} {o1 o2 : Obj} (h : w.alloc o1 = w.alloc o2) : o1 = o2 := by
  have h1 : (w.heap.push o1)[w.heap.size]? = (w.heap.push o2)[w.heap.size]? := congrArg (fun x : World => x.heap[w.heap.size]?) h
  simpa using h1
theorem alloc_ne {w : World} {o : Obj} (h : w.alloc o = w) : False := by
  have h1 : (w.heap.push o).size = w.heap.size := congrArg (fun x : World => x.heap.size) h
  simp at h1

theorem NF.unique {j : Nat} {w w' : World} {n1 n2 : List Fact} (h1 : NF j w w' n1) (h2 : NF j w w' n2) : n1 = n2 := by
  rcases h1 with ⟨rfl, rfl⟩ | ⟨o1, rfl, rfl⟩ <;> rcases h2 with ⟨rfl, e⟩ | ⟨o2, e, rfl⟩
  · rfl
  · exact (alloc_ne e.symm).elim
  · exact (alloc_ne e).elim
  · rw [alloc_inj e]

theorem res_put (hsel : Region.noSelect ops = true) {j : Nat} {oj : Oper} (hj : ops[j]? = some oj) {a : Act} {dst : Option Tmp} {v : Value} (h : ∀ d, dst = some d → d ∉ oj.looksAt ops) {w w' : World} {u : Value} :
    Res P ops oj (a.put dst v) w u w' ↔ Res P ops oj a w u w' := by
  unfold Res
  rw [execOp_put oj (fun cs b => Region.noSelect_spec hsel j oj cs b hj) a dst v h, wanted_put oj a dst v h]

def waits (ops : Array Oper) (i j : Nat) : Bool :=
  match ops[i]? with
  | some o => o.after.any fun e => Region.binds .any e && e.on == j
  | none => false
/-- what is asked of two numbers of the walk's list, i before j -/
def before (ops : Array Oper) (Cs As : List Nat) (i j : Nat) : Bool :=
  i != j && !(waits ops i j) && (waits ops j i || (match ops[i]?, ops[j]? with | some oi, some oj => oi.apart ops oj | _, _ => false)) &&
    (!(Cs.contains j) || As.contains j || !(Cs.contains i || As.contains i) || reach ops j i)

/-- the head of the walk, with what follows as a variable -/
def Head (P : Program) (ops : Array Oper) (W : World) (Cs As : List Nat) (i : Nat) (o : Oper) (Fs : List Fact) (a : Act) (N : List Fact → Act → Prop) : Prop :=
  if Region.wanted o (yielded ops a.tmps) = true then
    if i ∈ As then
      ∃ (obj : Obj) (mk : Nat → Value), (∀ w, (execOp a.eval o).run P w = .ok (.value (mk w.heap.size)) (w.alloc obj)) ∧
        ∀ b, N (⟨i, [b], fun w => w.heap[b]? = some obj⟩ :: Fs) (a.put o.dst (mk b))
    else if i ∈ Cs then
      (∃ v, (∀ w, Upto [] W w → DF ops i Fs w → opqUpon P (fun u w' => Upto [] w w' ∧ u = v) ((execOp a.eval o).run P w)) ∧ N Fs (a.put o.dst v)) ∨
      ∃ (Y : Type) (mk : Y → Value) (Φ : Y → World → Prop) (own : Y → List Nat), Nonempty Y ∧ (∀ y w w', Φ y w → Upto [] w w' → Φ y w') ∧ (∀ y, (own y).Nodup) ∧
        (∀ w, Upto [] W w → DF ops i Fs w → opqUpon P (fun v w' => Upto [] w w' ∧ ∃ y, v = mk y ∧ Φ y w' ∧ ∀ b ∈ own y, w.heap.size ≤ b ∧ b < w'.heap.size) ((execOp a.eval o).run P w)) ∧
        ∀ y, N (⟨i, own y, Φ y⟩ :: Fs) (a.put o.dst (mk y))
    else plainOp o = true ∧ ∃ C : World → Prop, (∀ w, Upto [] W w → DF ops i Fs w → C w) ∧ o.quiet P a C (N Fs)
  else N Fs (a.put o.dst undef)

theorem Seg_cons {i : Nat} {l : List Nat} {Fs : List Fact} {a : Act} : Seg P ops W Cs As K (i :: l) Fs a ↔ ∃ o, ops[i]? = some o ∧ Head P ops W Cs As i o Fs a (Seg P ops W Cs As K l) := by
  constructor
  · intro h
    unfold Seg at h
    split at h
    · exact h.elim
    · rename_i o ho
      exact ⟨o, ho, h⟩
  · rintro ⟨o, ho, h⟩
    unfold Seg
    rw [ho]
    exact h

/-- **a plain operation or an allocation j may come up ahead of what stands before it** -/
theorem moveN (hsel : Region.noSelect ops = true) (hK : ∀ Fs Fs' a, Fs.Perm Fs' → K Fs a → K Fs' a) {j : Nat} {oj : Oper} (hj : ops[j]? = some oj) (hjC : j ∈ Cs → j ∈ As) {w : World} (hw : Upto [] W w) {l2 : List Nat} :
    ∀ (l1 : List Nat) (Fs : List Fact) (a : Act), (∀ i ∈ l1, before ops Cs As i j = true ∧ waits ops j i = false ∧ reach ops j i = false) → DF ops j Fs w → Seg P ops W Cs As K (l1 ++ j :: l2) Fs a →
      ∃ u w' nf, Res P ops oj a w u w' ∧ NF j w w' nf ∧ Seg P ops W Cs As K (l1 ++ l2) (nf ++ Fs) (a.put oj.dst u)
  | [], Fs, a, _, hd, h => by
    obtain ⟨o, ho, h⟩ := Seg_cons.1 h
    rw [hj] at ho
    cases ho
    unfold Head at h
    split at h
    · rename_i hwt
      split at h
      · obtain ⟨obj, mk, h1, h2⟩ := h
        exact ⟨_, _, _, by unfold Res; rw [if_pos hwt]; exact Or.inl (h1 w), Or.inr ⟨obj, rfl, rfl⟩, h2 _⟩
      · rename_i hA
        rw [if_neg (fun hc => hA (hjC hc))] at h
        obtain ⟨hp, C, hC, v, h1, h2⟩ := h
        exact ⟨v, w, [], by unfold Res; rw [if_pos hwt]; exact plain_res hp (h1 w (hC w hw hd)), Or.inl ⟨rfl, rfl⟩, h2⟩
    · rename_i hwt
      exact ⟨undef, w, [], by unfold Res; rw [if_neg hwt]; exact ⟨rfl, rfl⟩, Or.inl ⟨rfl, rfl⟩, h⟩
  | i :: l1, Fs, a, hall, hd, h => by
    obtain ⟨oi, hi, h⟩ := Seg_cons.1 h
    obtain ⟨hbf, hnw, hnr⟩ := hall i (by simp)
    have hap : oi.apart ops oj = true := by
      simp only [before, hi, hj, Bool.and_eq_true, hnw, Bool.false_or] at hbf
      exact hbf.1.2
    obtain ⟨h1, h2, h3⟩ := Oper.apart_spec hap
    have hrest : ∀ k ∈ l1, before ops Cs As k j = true ∧ waits ops j k = false ∧ reach ops j k = false := fun k hk => hall k (by simp [hk])
    have hsi := fun cs b => Region.noSelect_spec hsel i oi cs b hi
    -- what stands at i, behind j
    have hexec : ∀ u, execOp (a.put oj.dst u).eval oi = execOp a.eval oi := fun u => execOp_put oi hsi a oj.dst u h3
    have hwant : ∀ u, Region.wanted oi (yielded ops (a.put oj.dst u).tmps) = Region.wanted oi (yielded ops a.tmps) := fun u => wanted_put oi a oj.dst u h3
    have hdf : ∀ {nf : List Fact} {x}, DF ops i (nf ++ Fs) x → DF ops i Fs x := fun hx => DF_iff.2 fun f hf => DF_iff.1 hx f (by simp [hf])
    show ∃ u w' nf, Res P ops oj a w u w' ∧ NF j w w' nf ∧ Seg P ops W Cs As K (i :: (l1 ++ l2)) (nf ++ Fs) (a.put oj.dst u)
    unfold Head at h
    split at h
    · rename_i hwt
      split at h
      · rename_i hA
        obtain ⟨obj, mk, g1, g2⟩ := h
        have ih := fun b => moveN hsel hK hj hjC hw l1 _ _ hrest (show DF ops j (⟨i, [b], fun w => w.heap[b]? = some obj⟩ :: Fs) w from ⟨(fun hr => by rw [hnr] at hr; cases hr), hd⟩) (g2 b)
        obtain ⟨u, w', nf, r1, r2, _⟩ := ih 0
        refine ⟨u, w', nf, (res_put hsel hj h1).1 r1, r2, Seg_cons.2 ⟨oi, hi, ?_⟩⟩
        unfold Head
        rw [hwant u, if_pos hwt, if_pos hA]
        refine ⟨obj, mk, fun x => by rw [hexec u]; exact g1 x, fun b => ?_⟩
        obtain ⟨u', w'', nf', s1, s2, s3⟩ := ih b
        obtain ⟨rfl, rfl⟩ := Res.unique ((res_put hsel hj h1).1 r1) ((res_put hsel hj h1).1 s1)
        obtain rfl := NF.unique r2 s2
        rw [Act.put_comm _ _ _ h2] at s3
        exact Seg_perm hK _ _ _ _ List.perm_middle s3
      · rename_i hA
        split at h
        · rename_i hC
          rcases h with ⟨v, g1, g2⟩ | ⟨Y, mk, Φ, own, hy, g1, g2, g3, g4⟩
          · obtain ⟨u, w', nf, r1, r2, r3⟩ := moveN hsel hK hj hjC hw l1 _ _ hrest hd g2
            refine ⟨u, w', nf, (res_put hsel hj h1).1 r1, r2, Seg_cons.2 ⟨oi, hi, ?_⟩⟩
            unfold Head
            rw [hwant u, if_pos hwt, if_neg hA, if_pos hC]
            refine Or.inl ⟨v, fun x hx hdx => by rw [hexec u]; exact g1 x hx (hdf hdx), ?_⟩
            rw [Act.put_comm _ _ _ h2] at r3
            exact r3
          have ih := fun v => moveN hsel hK hj hjC hw l1 _ _ hrest (show DF ops j (⟨i, own v, Φ v⟩ :: Fs) w from ⟨(fun hr => by rw [hnr] at hr; cases hr), hd⟩) (g4 v)
          obtain ⟨y0⟩ := hy
          obtain ⟨u, w', nf, r1, r2, _⟩ := ih y0
          refine ⟨u, w', nf, (res_put hsel hj h1).1 r1, r2, Seg_cons.2 ⟨oi, hi, ?_⟩⟩
          unfold Head
          rw [hwant u, if_pos hwt, if_neg hA, if_pos hC]
          refine Or.inr ⟨Y, mk, Φ, own, ⟨y0⟩, g1, g2, fun x hx hdx => by rw [hexec u]; exact g3 x hx (hdf hdx), fun v => ?_⟩
          obtain ⟨u', w'', nf', s1, s2, s3⟩ := ih v
          obtain ⟨rfl, rfl⟩ := Res.unique ((res_put hsel hj h1).1 r1) ((res_put hsel hj h1).1 s1)
          obtain rfl := NF.unique r2 s2
          rw [Act.put_comm _ _ _ h2] at s3
          exact Seg_perm hK _ _ _ _ List.perm_middle s3
        · rename_i hC
          obtain ⟨hp, C, hC', v, g1, g2⟩ := h
          obtain ⟨u, w', nf, r1, r2, r3⟩ := moveN hsel hK hj hjC hw l1 _ _ hrest hd g2
          refine ⟨u, w', nf, (res_put hsel hj h1).1 r1, r2, Seg_cons.2 ⟨oi, hi, ?_⟩⟩
          unfold Head
          rw [hwant u, if_pos hwt, if_neg hA, if_neg hC]
          refine ⟨hp, C, fun x hx hdx => hC' x hx (hdf hdx), v, fun x hx => by unfold Oper.quietAt; rw [hexec u]; exact g1 x hx, ?_⟩
          rw [Act.put_comm _ _ _ h2] at r3
          exact r3
    · rename_i hwt
      obtain ⟨u, w', nf, r1, r2, r3⟩ := moveN hsel hK hj hjC hw l1 _ _ hrest hd h
      refine ⟨u, w', nf, (res_put hsel hj h1).1 r1, r2, Seg_cons.2 ⟨oi, hi, ?_⟩⟩
      unfold Head
      rw [hwant u, if_neg hwt]
      rw [Act.put_comm _ _ _ h2] at r3
      exact r3

def OutC (P : Program) (ops : Array Oper) (o : Oper) (a : Act) (w : World) (N : Value → World → Prop) : Prop :=
  if Region.wanted o (yielded ops a.tmps) = true then opqUpon P N ((execOp a.eval o).run P w) else N undef w
theorem OutC.mono {o : Oper} {a : Act} {w : World} {N N' : Value → World → Prop} (hh : OutC P ops o a w N) (h : ∀ u w', N u w' → N' u w') : OutC P ops o a w N' := by
  unfold OutC at *
  split
  · rename_i hw; rw [if_pos hw] at hh; exact opqUpon_mono h hh
  · rename_i hw; rw [if_neg hw] at hh; exact h _ _ hh
theorem outC_put (hsel : Region.noSelect ops = true) {j : Nat} {oj : Oper} (hj : ops[j]? = some oj) {a : Act} {dst : Option Tmp} {v : Value} (h : ∀ d, dst = some d → d ∉ oj.looksAt ops) {w : World} {N : Value → World → Prop} :
    OutC P ops oj (a.put dst v) w N ↔ OutC P ops oj a w N := by
  unfold OutC
  rw [execOp_put oj (fun cs b => Region.noSelect_spec hsel j oj cs b hj) a dst v h, wanted_put oj a dst v h]

/-- what a step has done -/
def SC (j : Nat) (w w' : World) (nf : List Fact) : Prop :=
  Upto [] w w' ∧ (nf = [] ∨ ∃ f, nf = [f] ∧ f.idx = j ∧ f.holds w' ∧ (∀ x x', f.holds x → Upto [] x x' → f.holds x') ∧ f.own.Nodup ∧ ∀ b ∈ f.own, w.heap.size ≤ b ∧ b < w'.heap.size)

theorem NF.sc {j : Nat} {w w' : World} {nf : List Fact} (h : NF j w w' nf) : SC j w w' nf := by
  rcases h with ⟨rfl, rfl⟩ | ⟨obj, rfl, rfl⟩
  · exact ⟨Upto.refl _ _, Or.inl rfl⟩
  · refine ⟨(Upto.refl _ _).alloc _, Or.inr ⟨_, rfl, rfl, ?_, ?_, ?_, ?_⟩⟩
    · show (w.heap.push obj)[w.heap.size]? = some obj
      simp
    · intro x x' hx hu
      exact (hu.block _ (Array.getElem?_eq_some_iff.1 hx).1 (by simp)).trans hx
    · simp
    · intro b hb
      simp at hb
      subst hb
      exact ⟨Nat.le_refl _, by show _ < (w.heap.push obj).size; simp⟩

/-- **a call j may come up ahead of what stands before it, if nothing that stands there is a call or an allocation** -/
theorem moveC (hsel : Region.noSelect ops = true) {j : Nat} {oj : Oper} (hj : ops[j]? = some oj) (hjC : j ∈ Cs) (hjA : j ∉ As) {w : World} (hw : Upto [] W w) {l2 : List Nat} :
    ∀ (l1 : List Nat) (Fs : List Fact) (a : Act), (∀ i ∈ l1, before ops Cs As i j = true ∧ waits ops j i = false ∧ reach ops j i = false) → DF ops j Fs w → Seg P ops W Cs As K (l1 ++ j :: l2) Fs a →
      OutC P ops oj a w fun u w' => ∃ nf, SC j w w' nf ∧ Seg P ops W Cs As K (l1 ++ l2) (nf ++ Fs) (a.put oj.dst u)
  | [], Fs, a, _, hd, h => by
    obtain ⟨o, ho, h⟩ := Seg_cons.1 h
    rw [hj] at ho
    cases ho
    unfold Head at h
    unfold OutC
    split at h
    · rename_i hwt
      rw [if_pos hwt]
      rcases h with ⟨v, h1, h2⟩ | ⟨Y, mk, Φ, own, hy, h1, h2, h3, h4⟩
      · exact opqUpon_mono (fun u x ⟨g1, g2⟩ => ⟨[], ⟨g1, Or.inl rfl⟩, by subst g2; exact h2⟩) (h1 w hw hd)
      · exact opqUpon_mono (fun v x ⟨g1, y, g0, g2, g3⟩ => ⟨[⟨j, own y, Φ y⟩], ⟨g1, Or.inr ⟨_, rfl, rfl, g2, h1 y, h2 y, g3⟩⟩, by subst g0; exact h4 y⟩) (h3 w hw hd)
    · rename_i hwt
      rw [if_neg hwt]
      exact ⟨[], ⟨Upto.refl _ _, Or.inl rfl⟩, h⟩
  | i :: l1, Fs, a, hall, hd, h => by
    obtain ⟨oi, hi, h⟩ := Seg_cons.1 h
    obtain ⟨hbf, hnw, hnr⟩ := hall i (by simp)
    have hap : oi.apart ops oj = true := by
      simp only [before, hi, hj, Bool.and_eq_true, hnw, Bool.false_or] at hbf
      exact hbf.1.2
    have hno : i ∉ Cs ∧ i ∉ As := by
      simp only [before, Bool.and_eq_true, hnr, Bool.or_false, Bool.or_eq_true, Bool.not_eq_true'] at hbf
      have := hbf.2
      have c1 : Cs.contains j = true := by simpa using hjC
      have c2 : As.contains j = false := by simpa using hjA
      rw [c1, c2] at this
      simp at this
      exact this
    obtain ⟨h1, h2, h3⟩ := Oper.apart_spec hap
    have hrest : ∀ k ∈ l1, before ops Cs As k j = true ∧ waits ops j k = false ∧ reach ops j k = false := fun k hk => hall k (by simp [hk])
    have hsi := fun cs b => Region.noSelect_spec hsel i oi cs b hi
    have hexec : ∀ u, execOp (a.put oj.dst u).eval oi = execOp a.eval oi := fun u => execOp_put oi hsi a oj.dst u h3
    have hwant : ∀ u, Region.wanted oi (yielded ops (a.put oj.dst u).tmps) = Region.wanted oi (yielded ops a.tmps) := fun u => wanted_put oi a oj.dst u h3
    have hdf : ∀ {nf : List Fact} {x}, DF ops i (nf ++ Fs) x → DF ops i Fs x := fun hx => DF_iff.2 fun f hf => DF_iff.1 hx f (by simp [hf])
    show OutC P ops oj a w fun u w' => ∃ nf, SC j w w' nf ∧ Seg P ops W Cs As K (i :: (l1 ++ l2)) (nf ++ Fs) (a.put oj.dst u)
    unfold Head at h
    split at h
    · rename_i hwt
      rw [if_neg hno.2, if_neg hno.1] at h
      obtain ⟨hp, C, hC', v, g1, g2⟩ := h
      refine ((outC_put hsel hj h1).1 (moveC hsel hj hjC hjA hw l1 _ _ hrest hd g2)).mono ?_
      rintro u w' ⟨nf, r1, r2⟩
      refine ⟨nf, r1, Seg_cons.2 ⟨oi, hi, ?_⟩⟩
      unfold Head
      rw [hwant u, if_pos hwt, if_neg hno.2, if_neg hno.1]
      refine ⟨hp, C, fun x hx hdx => hC' x hx (hdf hdx), v, fun x hx => by unfold Oper.quietAt; rw [hexec u]; exact g1 x hx, ?_⟩
      rw [Act.put_comm _ _ _ h2] at r2
      exact r2
    · rename_i hwt
      refine ((outC_put hsel hj h1).1 (moveC hsel hj hjC hjA hw l1 _ _ hrest hd h)).mono ?_
      rintro u w' ⟨nf, r1, r2⟩
      refine ⟨nf, r1, Seg_cons.2 ⟨oi, hi, ?_⟩⟩
      unfold Head
      rw [hwant u, if_neg hwt]
      rw [Act.put_comm _ _ _ h2] at r2
      exact r2

/-- what is known of the world on the way -/
structure Good (W : World) (Fs : List Fact) (w : World) : Prop where
  up : Upto [] W w
  hold : AllHold Fs w
  stab : ∀ f ∈ Fs, ∀ x x', f.holds x → Upto [] x x' → f.holds x'
  inb : ∀ f ∈ Fs, ∀ b ∈ f.own, W.heap.size ≤ b ∧ b < w.heap.size
  nodup : (ownAll Fs).Nodup

theorem Good.step {Fs nf : List Fact} {j : Nat} {w w' : World} (h : Good W Fs w) (hs : SC j w w' nf) : Good W (nf ++ Fs) w' := by
  obtain ⟨hu, hn⟩ := hs
  have hold' : AllHold Fs w' := AllHold_iff.2 fun f hf => h.stab f hf _ _ (AllHold_iff.1 h.hold f hf) hu
  have inb' : ∀ f ∈ Fs, ∀ b ∈ f.own, W.heap.size ≤ b ∧ b < w'.heap.size := fun f hf b hb => ⟨(h.inb f hf b hb).1, Nat.lt_of_lt_of_le (h.inb f hf b hb).2 hu.size⟩
  rcases hn with rfl | ⟨f, rfl, _, h2, h3, h4, h5⟩
  · exact ⟨h.up.trans_same hu, hold', h.stab, inb', h.nodup⟩
  · refine ⟨h.up.trans_same hu, ⟨h2, hold'⟩, ?_, ?_, ?_⟩
    · intro g hg
      rcases List.mem_cons.1 hg with rfl | hg
      · exact h3
      · exact h.stab g hg
    · intro g hg
      rcases List.mem_cons.1 hg with rfl | hg
      · exact fun b hb => ⟨Nat.le_trans h.up.size (h5 b hb).1, (h5 b hb).2⟩
      · exact inb' g hg
    · show (f.own ++ ownAll Fs).Nodup
      refine List.nodup_append.2 ⟨h4, h.nodup, fun b hb c hc => ?_⟩
      obtain ⟨g, hg, hgc⟩ := List.mem_flatMap.1 hc
      have h6 := (h5 b hb).1
      have h7 := (h.inb g hg c hgc).2
      omega

theorem wpOp_of_res {Q : Exit → Act → World → Prop} {j : Nat} {oj : Oper} (hj : ops[j]? = some oj) {a : Act} {w w' : World} {u : Value} {N : Act → World → Prop} (h : Res P ops oj a w u w') (hN : N (a.put oj.dst u) w') : wpOp P ops Q j N a w := by
  unfold wpOp
  rw [hj]
  unfold Res at h
  by_cases hw : Region.wanted oj (yielded ops a.tmps) = true
  · simp only [hw, if_true] at h ⊢
    refine Or.inl ?_
    unfold Oper.wp
    rcases h with h | ⟨h, rfl⟩
    · rw [h]; exact hN
    · rw [h]; exact hN
  · rw [if_neg hw] at h
    obtain ⟨rfl, rfl⟩ := h
    simp only [hw]
    exact hN
theorem wpOp_of_out {Q : Exit → Act → World → Prop} {j : Nat} {oj : Oper} (hj : ops[j]? = some oj) {a : Act} {w : World} {N : Act → World → Prop} (h : OutC P ops oj a w fun u w' => N (a.put oj.dst u) w') : wpOp P ops Q j N a w := by
  unfold wpOp
  rw [hj]
  unfold OutC at h
  by_cases hw : Region.wanted oj (yielded ops a.tmps) = true
  · simp only [hw, if_true] at h ⊢
    refine Or.inl ?_
    unfold Oper.wp
    generalize (execOp a.eval oj).run P w = r at *
    cases r with
    | ok n w' =>
      cases n <;> simp only [opqUpon] at h <;> simp only [Oper.upon]
      case value u => exact h
      case skip => exact h
      case enter f args => exact h.mono fun e w'' ⟨u, he, hp⟩ => by subst he; exact hp
    | halt x w' => simp only [opqUpon] at h
  · rw [if_neg hw] at h
    simp only [hw]
    exact h

theorem waits_true {i j : Nat} {o : Oper} (hi : ops[i]? = some o) {e : Edge} (he : e ∈ o.after) (hb : Region.binds .any e = true) (hj : e.on = j) : waits ops i j = true := by
  unfold waits
  rw [hi]
  exact Array.any_eq_true'.2 ⟨e, he, by simp [hb, hj]⟩

theorem listed_lt {listed : Array Bool} {i : Nat} (h : i < listed.size) : (listed.getD i true = false ↔ ¬ listed.getD i false = true) := by
  simp [h]

theorem foldl_move (l2 : List Nat) (j : Nat) : ∀ (l1 : List Nat) (listed : Array Bool), (∀ i ∈ l1, i ≠ j) → (l1 ++ l2).foldl (fun x i => x.setIfInBounds i true) (listed.setIfInBounds j true) = (l1 ++ j :: l2).foldl (fun x i => x.setIfInBounds i true) listed
  | [], _, _ => rfl
  | i :: l1, listed, h => by
    show (l1 ++ l2).foldl _ ((listed.setIfInBounds j true).setIfInBounds i true) = (l1 ++ j :: l2).foldl _ (listed.setIfInBounds i true)
    rw [Array.setIfInBounds_comm _ _ (Ne.symm (h i (by simp)))]
    exact foldl_move l2 j l1 _ fun k hk => h k (by simp [hk])

/-- what is asked of the walk's list -/
structure Fit (ops : Array Oper) (Cs As : List Nat) (l : List Nat) (listed : Array Bool) : Prop where
  size : listed.size = ops.size
  closed : Closed ops listed
  un : ∀ i ∈ l, i < ops.size ∧ listed.getD i false = false
  deps : ∀ i ∈ l, ∀ o, ops[i]? = some o → ∀ e ∈ o.after, Region.binds .any e = true → listed.getD e.on false = true ∨ (e.on ∈ l ∧ e.on ≠ i)
  others : ∀ k, k < ops.size → listed.getD k false = false → k ∉ l → ∀ i ∈ l, reach ops k i = true
  pairs : l.Pairwise fun i j => before ops Cs As i j = true

theorem getD_set {listed : Array Bool} {i k : Nat} (h : i < listed.size) : (listed.setIfInBounds i true).getD k false = (listed.getD k false || decide (k = i)) := by
  by_cases hk : k = i
  · subst hk; simp [h]
  · rw [getD_set_ne false (Ne.symm hk)]; simp [hk]

theorem Fit.step {l1 l2 : List Nat} {j : Nat} {oj : Oper} {listed : Array Bool} (h : Fit ops Cs As (l1 ++ j :: l2) listed) (hj : ops[j]? = some oj) (hd : ∀ e ∈ oj.after, Region.binds .any e = true → listed.getD e.on false = true) : Fit ops Cs As (l1 ++ l2) (listed.setIfInBounds j true) := by
  have hjm : j ∈ l1 ++ j :: l2 := by simp
  have hjl : j < listed.size := by rw [h.size]; exact (h.un j hjm).1
  have hsub : ∀ i ∈ l1 ++ l2, i ∈ l1 ++ j :: l2 := fun i hi => by rcases List.mem_append.1 hi with hi | hi <;> simp [hi]
  have hne : ∀ i ∈ l1 ++ l2, i ≠ j := by
    intro i hi he
    subst he
    have hp := h.pairs
    rw [List.pairwise_append] at hp
    rcases List.mem_append.1 hi with hi | hi
    · have := hp.2.2 i hi i (by simp)
      simp [before] at this
    · have := (List.pairwise_cons.1 hp.2.1).1 i hi
      simp [before] at this
  refine ⟨by simp [h.size], ?_, ?_, ?_, ?_, ?_⟩
  · intro i o ho hl e he hb
    rw [getD_set hjl] at hl ⊢
    rw [Bool.or_eq_true] at hl ⊢
    rcases hl with hl | hl
    · exact Or.inl (h.closed i o ho hl e he hb)
    · simp at hl
      subst hl
      rw [hj] at ho
      cases ho
      exact Or.inl (hd e he hb)
  · intro i hi
    refine ⟨(h.un i (hsub i hi)).1, ?_⟩
    rw [getD_set hjl, (h.un i (hsub i hi)).2]
    simp [hne i hi]
  · intro i hi o ho e he hb
    rw [getD_set hjl]
    rcases h.deps i (hsub i hi) o ho e he hb with h1 | ⟨h1, h2⟩
    · exact Or.inl (by rw [h1]; rfl)
    · by_cases hej : e.on = j
      · exact Or.inl (by simp [hej])
      · refine Or.inr ⟨?_, h2⟩
        rcases List.mem_append.1 h1 with h1 | h1
        · simp [h1]
        · rcases List.mem_cons.1 h1 with h1 | h1
          · exact absurd h1 hej
          · simp [h1]
  · intro k hk hun hkl i hi
    rw [getD_set hjl, Bool.or_eq_false_iff] at hun
    refine h.others k hk hun.1 (fun hm => ?_) i (hsub i hi)
    have hkj : k ≠ j := by simpa using hun.2
    rcases List.mem_append.1 hm with hm | hm
    · exact hkl (by simp [hm])
    · rcases List.mem_cons.1 hm with hm | hm
      · exact hkj hm
      · exact hkl (by simp [hm])
  · exact h.pairs.sublist (List.Sublist.append_left (List.sublist_cons_self _ _) _)

/-- **the walk serves every order** -/
theorem seg_any {Q : Exit → Act → World → Prop} (hsel : Region.noSelect ops = true) (hK : ∀ Fs Fs' a, Fs.Perm Fs' → K Fs a → K Fs' a) {fuelT : Nat} {listedT : Array Bool}
    (hfin : ∀ Fs a w, K Fs a → Good W Fs w → wpAny P .any ops Q fuelT listedT a w) :
    ∀ (n : Nat) (l : List Nat) (Fs : List Fact) (a : Act) (w : World) (listed : Array Bool), l.length = n → Fit ops Cs As l listed → l.foldl (fun x i => x.setIfInBounds i true) listed = listedT → Good W Fs w → Seg P ops W Cs As K l Fs a →
      wpAny P .any ops Q (n + fuelT) listed a w := by
  intro n
  induction n with
  | zero =>
    intro l Fs a w listed hl _ hT hg hs
    obtain rfl := List.length_eq_zero_iff.1 hl
    cases hT
    rw [Nat.zero_add]
    exact hfin Fs a w hs hg
  | succ n ih =>
    intro l Fs a w listed hl hF hT hg hs
    obtain ⟨i0, l', rfl⟩ : ∃ i l', l = i :: l' := by cases l with | nil => simp at hl | cons i l' => exact ⟨i, l', rfl⟩
    have h0 := hF.un i0 (by simp)
    have hr0 : i0 ∈ Region.ready .any ops listed := by
      refine mem_ready.2 ⟨(listed_lt (by rw [hF.size]; exact h0.1)).2 (by rw [h0.2]; simp), ops[i0]'h0.1, Array.getElem?_eq_getElem h0.1, fun e he hb => ?_⟩
      rcases hF.deps i0 (by simp) _ (Array.getElem?_eq_getElem h0.1) e he hb with h1 | ⟨h1, h2⟩
      · exact h1
      · have hm : e.on ∈ l' := by
          rcases List.mem_cons.1 h1 with h1 | h1
          · exact absurd h1 h2
          · exact h1
        have hp := (List.pairwise_cons.1 hF.pairs).1 _ hm
        have hwt := waits_true (Array.getElem?_eq_getElem h0.1) he hb rfl
        simp [before, hwt] at hp
    rw [Nat.succ_add]
    refine ⟨(fun hn => by rw [hn] at hr0; cases hr0), fun j hj => ?_⟩
    obtain ⟨hjun, oj, hoj, hall⟩ := mem_ready.1 hj
    have hjlt : j < ops.size := (Array.getElem?_eq_some_iff.1 hoj).1
    have hjf : listed.getD j false = false := by
      have := (listed_lt (listed := listed) (by rw [hF.size]; exact hjlt)).1 hjun
      simpa using this
    have hreach : ∀ i, reach ops j i = true → listed.getD i false = true := fun i hr => reach_listed hF.closed (j + 1) j oj (by omega) hoj hall hr
    have hjl : j ∈ i0 :: l' := by
      by_cases hm : j ∈ i0 :: l'
      · exact hm
      · have := hreach i0 (hF.others j hjlt hjf hm i0 (by simp))
        rw [h0.2] at this
        cases this
    obtain ⟨l1, l2, hsplit⟩ := List.append_of_mem hjl
    rw [hsplit] at hF hT hs hl
    have hcond : ∀ i ∈ l1, before ops Cs As i j = true ∧ waits ops j i = false ∧ reach ops j i = false := by
      intro i hi
      have hun := (hF.un i (by simp [hi])).2
      refine ⟨(List.pairwise_append.1 hF.pairs).2.2 i hi j (by simp), ?_, ?_⟩
      · cases hwt : waits ops j i with
        | false => rfl
        | true =>
          unfold waits at hwt
          rw [hoj] at hwt
          obtain ⟨e, he, hb⟩ := Array.any_eq_true'.1 hwt
          simp only [Bool.and_eq_true, beq_iff_eq] at hb
          have := hall e he hb.1
          rw [hb.2, hun] at this
          cases this
      · cases hr : reach ops j i with
        | false => rfl
        | true =>
          have := hreach i hr
          rw [hun] at this
          cases this
    have hne : ∀ i ∈ l1, i ≠ j := fun i hi he => by
      have := (hcond i hi).1
      simp [before, he] at this
    have hdf : DF ops j Fs w := DF_iff.2 fun f hf _ => AllHold_iff.1 hg.hold f hf
    have hF' := hF.step hoj hall
    have hT' : (l1 ++ l2).foldl (fun x i => x.setIfInBounds i true) (listed.setIfInBounds j true) = listedT := by rw [foldl_move l2 j l1 listed hne]; exact hT
    have hl' : (l1 ++ l2).length = n := by
      simp at hl ⊢
      omega
    by_cases hjc : j ∈ Cs ∧ j ∉ As
    · refine wpOp_of_out hoj ((moveC hsel hoj hjc.1 hjc.2 hg.up l1 Fs a hcond hdf hs).mono ?_)
      rintro u w' ⟨nf, h1, h2⟩
      exact ih _ _ _ _ _ hl' hF' hT' (hg.step h1) h2
    · obtain ⟨u, w', nf, h1, h2, h3⟩ := moveN hsel hK hoj (fun hc => by
        refine Classical.byContradiction fun hn => hjc ⟨hc, hn⟩) hg.up l1 Fs a hcond hdf hs
      exact wpOp_of_res hoj h1 (ih _ _ _ _ _ hl' hF' hT' (hg.step h2.sc) h3)

theorem Good.perm {Fs Fs' : List Fact} {w : World} (hp : Fs.Perm Fs') (h : Good W Fs' w) : Good W Fs w :=
  ⟨h.up, AllHold_iff.2 fun f hf => AllHold_iff.1 h.hold f (hp.mem_iff.1 hf), fun f hf => h.stab f (hp.mem_iff.1 hf), fun f hf => h.inb f (hp.mem_iff.1 hf), (hp.flatMap_right _).nodup_iff.2 h.nodup⟩

def tailB (ops : Array Oper) : Array Bool → List Nat → Bool
  | listed, [] => (Region.ready .any ops listed).isEmpty
  | listed, i :: l => (Region.ready .any ops listed == [i]) && tailB ops (listed.setIfInBounds i true) l
theorem wpAny_tail {Q : Exit → Act → World → Prop} : ∀ (l : List Nat) (listed : Array Bool) (a : Act) (w : World), tailB ops listed l = true → wpOps P ops Q l a w → wpAny P .any ops Q l.length listed a w
  | [], listed, a, w, hB, h => ⟨by simpa [tailB] using hB, h⟩
  | i :: l, listed, a, w, hB, h => by
    simp only [tailB, Bool.and_eq_true, beq_iff_eq] at hB
    refine ⟨(fun hn => by rw [hB.1] at hn; cases hn), fun j hj => ?_⟩
    rw [hB.1] at hj
    obtain rfl := List.mem_singleton.1 hj
    rw [wpOps_cons] at h
    exact wpOp_mono (fun a' w' h' => wpAny_tail l _ a' w' hB.2 h') h
theorem wpOps_list {Q : Exit → Act → World → Prop} : ∀ (l : List Nat) (os : List Oper), l.map (fun i => ops[i]?) = os.map some → wpOps P ops Q l = wpList P ops Q os
  | [], [], _ => by funext a w; simp [wpOps, wpList]
  | [], _ :: _, h => by simp at h
  | _ :: _, [], h => by simp at h
  | i :: l, o :: os, h => by
    simp only [List.map_cons, List.cons.injEq] at h
    funext a w
    simp only [wpOps, wpList, h.1, wpOps_list l os h.2]

def pairsB (ops : Array Oper) (Cs As : List Nat) : List Nat → Bool
  | [] => true
  | i :: l => l.all (fun j => before ops Cs As i j) && pairsB ops Cs As l
theorem pairsB_spec : ∀ (l : List Nat), pairsB ops Cs As l = true → l.Pairwise fun i j => before ops Cs As i j = true
  | [], _ => List.Pairwise.nil
  | i :: l, h => by
    simp only [pairsB, Bool.and_eq_true, List.all_eq_true] at h
    exact List.Pairwise.cons h.1 (pairsB_spec l h.2)

def segB (ops : Array Oper) (Cs As ord tail : List Nat) : Bool :=
  Region.noSelect ops && pairsB ops Cs As ord && (ord.length + tail.length == ops.size) &&
  ord.all (fun i => match ops[i]? with | some o => o.after.all fun e => !(Region.binds .any e) || (ord.contains e.on && e.on != i) | none => false) &&
  (List.range ops.size).all (fun k => ord.contains k || ord.all fun i => reach ops k i) &&
  tailB ops (ord.foldl (fun x i => x.setIfInBounds i true) (Array.replicate ops.size false)) tail

/-- **A REGION THAT DRAWS ITS ORDER**: ord: all operations but the last ones, in the order of the walk; tail: the last ones, which wait for all others and for one another. -/
theorem wp_region_seg {id : Nat} {Q : Exit → Act → World → Prop} {a : Act} {w : World} {l : List Oper} (Cs As ord tail : List Nat) (tl : List Oper) (hm : P.follows .mixedOrders = true)
    (hB : segB l.toArray Cs As ord tail = true) (ht : tail.map (fun i => l.toArray[i]?) = tl.map some)
    (h : Seg P l.toArray w Cs As (fun Fs a' => ∀ w', Good w Fs w' → wpList P l.toArray Q tl a' w') ord [] a) : (Code.region id l.toArray true).wp P Q a w := by
  simp only [segB, Bool.and_eq_true, List.all_eq_true, beq_iff_eq] at hB
  obtain ⟨⟨⟨⟨⟨h1, h2⟩, h3⟩, h4⟩, h5⟩, h6⟩ := hB
  refine wp_region_any hm ?_
  have hrep : ∀ k, (Array.replicate l.toArray.size false).getD k false = false := by
    intro k
    simp [Array.getD]
  have hs := seg_any (P := P) (ops := l.toArray) (W := w) (Cs := Cs) (As := As) (Q := Q) (K := fun Fs a' => ∀ w', Good w Fs w' → wpList P l.toArray Q tl a' w') h1 (fun Fs Fs' a hp hk w' hg => hk w' (hg.perm hp)) (fuelT := tail.length)
    (listedT := ord.foldl (fun x i => x.setIfInBounds i true) (Array.replicate l.toArray.size false))
    (fun Fs a w' hk hg => wpAny_tail tail _ a w' h6 (by rw [wpOps_list tail tl ht]; exact hk w' hg)) ord.length ord [] a { w with drawn := w.drawn + 1 } (Array.replicate l.toArray.size false) rfl ?_ rfl ⟨(Upto.refl [] w).drew, trivial, (by simp), (by simp), (by simp [ownAll])⟩ h
  · rw [h3] at hs
    exact hs
  · refine ⟨by simp, ?_, ?_, ?_, ?_, pairsB_spec _ h2⟩
    · intro i o _ hl
      rw [hrep] at hl
      cases hl
    · intro i hi
      refine ⟨?_, hrep i⟩
      have := h4 i hi
      split at this
      · rename_i o ho
        exact (Array.getElem?_eq_some_iff.1 ho).1
      · cases this
    · intro i hi o ho e he hb
      have := h4 i hi
      rw [ho] at this
      have := Array.all_eq_true_iff_forall_mem.1 this e he
      rw [hb] at this
      simp at this
      exact Or.inr this
    · intro k hk _ hn i hi
      have := h5 k (List.mem_range.2 hk)
      simp [hn] at this
      exact this i hi

/-- .. where the last ones stand at the end of the text: n operations ahead of them -/
theorem wp_region_seg_at {id : Nat} {Q : Exit → Act → World → Prop} {a : Act} {w : World} {l : List Oper} (Cs As ord tail : List Nat) (n : Nat) (hm : P.follows .mixedOrders = true)
    (hB : segB l.toArray Cs As ord tail = true) (ht : (tail == (List.range l.length).drop n) = true)
    (h : Seg P l.toArray w Cs As (fun Fs a' => ∀ w', Good w Fs w' → wpList P l.toArray Q (l.drop n) a' w') ord [] a) : (Code.region id l.toArray true).wp P Q a w :=
  wp_region_seg Cs As ord tail _ hm hB (by
    rw [beq_iff_eq] at ht
    subst ht
    apply List.ext_getElem?
    intro i
    by_cases hi : n + i < l.length
    · simp [List.getElem?_drop, hi]
    · simp [List.getElem?_drop, hi]) h

/-- .. where there are no last ones -/
theorem wp_region_seg_all {id : Nat} {Q : Exit → Act → World → Prop} {a : Act} {w : World} {l : List Oper} (Cs As ord : List Nat) (hm : P.follows .mixedOrders = true)
    (hB : segB l.toArray Cs As ord [] = true) (h : Seg P l.toArray w Cs As (fun Fs a' => ∀ w', Good w Fs w' → Q .normal a' w') ord [] a) : (Code.region id l.toArray true).wp P Q a w :=
  wp_region_seg Cs As ord [] [] hm hB rfl h

/-- operations that yield in whatever world, taken ahead of all others -/
def wpPre (P : Program) (ops : Array Oper) (K : Act → Prop) : List Nat → Act → Prop
  | [], a => K a
  | i :: l, a => ∃ o, ops[i]? = some o ∧ Region.wanted o (yielded ops a.tmps) = true ∧ plainOp o = true ∧ o.quiet P a (fun _ => True) (wpPre P ops K l)
def preB (ops : Array Oper) : List Nat → Array Bool → Bool
  | [], _ => true
  | i :: l, listed => Region.free .any ops listed i && (Region.ready .any ops listed).contains i && preB ops l (listed.setIfInBounds i true)

theorem pre_any {Q : Exit → Act → World → Prop} (hQ : ∀ c a d v w, Q (.panic c) (Act.put a d v) w → Q (.panic c) a w) (hs : Region.noSelect ops = true) {K : Act → Prop} {w : World} {fuel : Nat} {listedT : Array Bool}
    (hK : ∀ a, K a → wpAny P .any ops Q fuel listedT a w) :
    ∀ (l : List Nat) (listed : Array Bool) (a : Act), preB ops l listed = true → l.foldl (fun x i => x.setIfInBounds i true) listed = listedT → wpPre P ops K l a → wpAny P .any ops Q (l.length + fuel) listed a w
  | [], listed, a, _, hT, h => by cases hT; simpa using hK a h
  | i :: l, listed, a, hB, hT, h => by
    obtain ⟨o, ho, hw, hp, v, h1, h2⟩ := h
    simp only [preB, Bool.and_eq_true] at hB
    rw [List.length_cons, Nat.succ_add]
    refine wpAny_take ho hs hB.1.1 hB.1.2 (fun c a w h => hQ c a _ _ w h) (Or.inl ⟨hw, fun x => ?_⟩) (pre_any hQ hs hK l _ _ hB.2 hT h2)
    exact plain_val hp (h1 x trivial)

def closedB (ops : Array Oper) (pre : List Nat) : Bool :=
  (List.range ops.size).all fun i => !(pre.contains i) || (match ops[i]? with | some o => o.after.all fun e => !(Region.binds .any e) || pre.contains e.on | none => true)
def segPB (ops : Array Oper) (Cs As pre ord tail : List Nat) : Bool :=
  Region.noSelect ops && pairsB ops Cs As ord && (pre.length + (ord.length + tail.length) == ops.size) && preB ops pre (Array.replicate ops.size false) && closedB ops pre && pre.all (fun i => decide (i < ops.size)) &&
  ord.all (fun i => !(pre.contains i) && match ops[i]? with | some o => o.after.all fun e => !(Region.binds .any e) || pre.contains e.on || (ord.contains e.on && e.on != i) | none => false) &&
  (List.range ops.size).all (fun k => pre.contains k || ord.contains k || ord.all fun i => reach ops k i) &&
  tailB ops (ord.foldl (fun x i => x.setIfInBounds i true) (pre.foldl (fun x i => x.setIfInBounds i true) (Array.replicate ops.size false))) tail

theorem foldl_getD (l : List Nat) : ∀ (listed : Array Bool) (k : Nat), (∀ i ∈ l, i < listed.size) → (l.foldl (fun x i => x.setIfInBounds i true) listed).getD k false = (listed.getD k false || l.contains k) := by
  induction l with
  | nil => intro listed k _; simp
  | cons i l ih =>
    intro listed k h
    rw [List.foldl_cons, ih _ _ (by intro j hj; rw [Array.size_setIfInBounds]; exact h j (by simp [hj])), getD_set (h i (by simp)), List.contains_cons, Bool.or_assoc]
    congr 1
theorem foldl_size (l : List Nat) : ∀ (listed : Array Bool), (l.foldl (fun x i => x.setIfInBounds i true) listed).size = listed.size := by
  induction l with
  | nil => intro listed; rfl
  | cons i l ih => intro listed; rw [List.foldl_cons, ih, Array.size_setIfInBounds]

/-- .. with operations that yield in whatever world, taken first (pre) -/
theorem wp_region_segP {id : Nat} {Q : Exit → Act → World → Prop} {a : Act} {w : World} {l : List Oper} (Cs As pre ord tail : List Nat) (tl : List Oper) (hQ : ∀ c a d v w, Q (.panic c) (Act.put a d v) w → Q (.panic c) a w) (hm : P.follows .mixedOrders = true)
    (hB : segPB l.toArray Cs As pre ord tail = true) (ht : tail.map (fun i => l.toArray[i]?) = tl.map some)
    (h : wpPre P l.toArray (Seg P l.toArray w Cs As (fun Fs a' => ∀ w', Good w Fs w' → wpList P l.toArray Q tl a' w') ord []) pre a) : (Code.region id l.toArray true).wp P Q a w := by
  simp only [segPB, Bool.and_eq_true, List.all_eq_true, beq_iff_eq] at hB
  obtain ⟨⟨⟨⟨⟨⟨⟨⟨h1, h2⟩, h3⟩, hp1⟩, hp2⟩, hp3⟩, h4⟩, h5⟩, h6⟩ := hB
  refine wp_region_any hm ?_
  have hrep : ∀ k, (Array.replicate l.toArray.size false).getD k false = false := by
    intro k
    simp [Array.getD]
  have hin : ∀ i ∈ pre, i < (Array.replicate l.toArray.size false).size := fun i hi => by
    have := hp3 i hi
    simpa using this
  have hl0 : ∀ k, (pre.foldl (fun x i => x.setIfInBounds i true) (Array.replicate l.toArray.size false)).getD k false = pre.contains k := fun k => by
    rw [foldl_getD _ _ _ hin, hrep, Bool.false_or]
  have main := pre_any (P := P) (ops := l.toArray) (Q := Q) hQ h1 (w := { w with drawn := w.drawn + 1 }) (fuel := ord.length + tail.length) (listedT := pre.foldl (fun x i => x.setIfInBounds i true) (Array.replicate l.toArray.size false))
    (K := Seg P l.toArray w Cs As (fun Fs a' => ∀ w', Good w Fs w' → wpList P l.toArray Q tl a' w') ord []) (fun a hs => ?_) pre _ a hp1 rfl h
  · rw [h3] at main
    exact main
  refine seg_any (P := P) (ops := l.toArray) (W := w) (Cs := Cs) (As := As) (Q := Q) (K := fun Fs a' => ∀ w', Good w Fs w' → wpList P l.toArray Q tl a' w') h1 (fun Fs Fs' a hp hk w' hg => hk w' (hg.perm hp)) (fuelT := tail.length)
    (listedT := ord.foldl (fun x i => x.setIfInBounds i true) (pre.foldl (fun x i => x.setIfInBounds i true) (Array.replicate l.toArray.size false)))
    (fun Fs a w' hk hg => wpAny_tail tail _ a w' h6 (by rw [wpOps_list tail tl ht]; exact hk w' hg)) ord.length ord [] a _ _ rfl ?_ rfl ⟨(Upto.refl [] w).drew, trivial, (by simp), (by simp), (by simp [ownAll])⟩ hs
  refine ⟨by rw [foldl_size]; simp, ?_, ?_, ?_, ?_, pairsB_spec _ h2⟩
  · intro i o ho hl e he hb
    rw [hl0] at hl ⊢
    have := List.all_eq_true.1 hp2 i (List.mem_range.2 (Array.getElem?_eq_some_iff.1 ho).1)
    rw [hl, ho, Bool.not_true, Bool.false_or] at this
    have := Array.all_eq_true_iff_forall_mem.1 this e he
    rw [hb] at this
    simpa using this
  · intro i hi
    have := h4 i hi
    refine ⟨?_, by rw [hl0]; simpa using this.1⟩
    have := this.2
    split at this
    · rename_i o ho
      exact (Array.getElem?_eq_some_iff.1 ho).1
    · cases this
  · intro i hi o ho e he hb
    have := (h4 i hi).2
    rw [ho] at this
    have := Array.all_eq_true_iff_forall_mem.1 this e he
    rw [hb] at this
    rw [hl0]
    simpa using this
  · intro k hk hu hn i hi
    rw [hl0] at hu
    have := h5 k (List.mem_range.2 hk)
    rw [hu] at this
    simp [hn] at this
    exact this i hi
theorem wp_region_segP_at {id : Nat} {Q : Exit → Act → World → Prop} {a : Act} {w : World} {l : List Oper} (Cs As pre ord tail : List Nat) (n : Nat) (hQ : ∀ c a d v w, Q (.panic c) (Act.put a d v) w → Q (.panic c) a w) (hm : P.follows .mixedOrders = true)
    (hB : segPB l.toArray Cs As pre ord tail = true) (ht : (tail == (List.range l.length).drop n) = true)
    (h : wpPre P l.toArray (Seg P l.toArray w Cs As (fun Fs a' => ∀ w', Good w Fs w' → wpList P l.toArray Q (l.drop n) a' w') ord []) pre a) : (Code.region id l.toArray true).wp P Q a w :=
  wp_region_segP Cs As pre ord tail _ hQ hm hB (by
    rw [beq_iff_eq] at ht
    subst ht
    apply List.ext_getElem?
    intro i
    by_cases hi : n + i < l.length
    · simp [List.getElem?_drop, hi]
    · simp [List.getElem?_drop, hi]) h

/-! the moves -/
def opAt : List Oper → Nat → Option Oper
  | [], _ => none
  | o :: _, 0 => some o
  | _ :: l, n + 1 => opAt l n
theorem opAt_eq : ∀ (l : List Oper) (i : Nat), opAt l i = l.toArray[i]?
  | [], i => by simp [opAt]
  | o :: l, 0 => by simp [opAt]
  | o :: l, n + 1 => by simp [opAt, opAt_eq l n]

theorem pre_plain {ol : List Oper} {K : Act → Prop} {i : Nat} {l : List Nat} {a : Act} {o : Oper} (hi : opAt ol i = some o) (hp : plainOp o = true) (hw : Region.wanted o (yielded ol.toArray a.tmps) = true)
    (h : ∀ K' : Act → Prop, (∀ a, wpPre P ol.toArray K l a → K' a) → o.quiet P a (fun _ => True) K') : wpPre P ol.toArray K (i :: l) a :=
  ⟨o, (opAt_eq ol i).symm.trans hi, hw, hp, h _ fun _ h => h⟩
theorem seg_skip {ol : List Oper} {i : Nat} {l : List Nat} {Fs : List Fact} {a : Act} {o : Oper} (hi : opAt ol i = some o) (hw : Region.wanted o (yielded ol.toArray a.tmps) = false) (h : Seg P ol.toArray W Cs As K l Fs (a.put o.dst undef)) : Seg P ol.toArray W Cs As K (i :: l) Fs a :=
  Seg_cons.2 ⟨o, (opAt_eq ol i).symm.trans hi, by unfold Head; rw [hw]; exact h⟩
theorem seg_plain {ol : List Oper} {i : Nat} {l : List Nat} {Fs : List Fact} {a : Act} {o : Oper} (hi : opAt ol i = some o) (hA : As.contains i = false) (hC : Cs.contains i = false) (hp : plainOp o = true) (hw : Region.wanted o (yielded ol.toArray a.tmps) = true)
    (h : ∀ K' : Act → Prop, (∀ a, Seg P ol.toArray W Cs As K l Fs a → K' a) → o.quiet P a (fun w' => ∃ u : Ext W, w' = u.w) K') : Seg P ol.toArray W Cs As K (i :: l) Fs a :=
  Seg_cons.2 ⟨o, (opAt_eq ol i).symm.trans hi, by
    unfold Head
    rw [if_pos hw, if_neg (by simpa using hA), if_neg (by simpa using hC)]
    exact ⟨hp, _, fun w' hw' _ => ⟨Ext.mk hw', rfl⟩, h _ fun _ h => h⟩⟩
theorem seg_alloc {ol : List Oper} {i : Nat} {l : List Nat} {Fs : List Fact} {a : Act} {o : Oper} (obj : Obj) (hi : opAt ol i = some o) (hA : As.contains i = true) (hw : Region.wanted o (yielded ol.toArray a.tmps) = true)
    (hr : ∀ w, (execOp a.eval o).run P w = .ok (.value (.pointer (some ⟨w.heap.size, 0, none⟩))) (w.alloc obj))
    (h : ∀ b, Seg P ol.toArray W Cs As K l (⟨i, [b], fun w => w.heap[b]? = some obj⟩ :: Fs) (a.put o.dst (.pointer (some ⟨b, 0, none⟩)))) : Seg P ol.toArray W Cs As K (i :: l) Fs a :=
  Seg_cons.2 ⟨o, (opAt_eq ol i).symm.trans hi, by
    unfold Head
    rw [if_pos hw, if_pos (by simpa using hA)]
    exact ⟨obj, fun b => .pointer (some ⟨b, 0, none⟩), hr, h⟩⟩
/-- a slice that is built, among the allocs -/
theorem seg_made {ol : List Oper} {i : Nat} {l : List Nat} {Fs : List Fact} {a : Act} {o : Oper} (obj : Obj) (mk : Nat → Value) (hi : opAt ol i = some o) (hA : As.contains i = true) (hw : Region.wanted o (yielded ol.toArray a.tmps) = true)
    (hr : ∀ w, (execOp a.eval o).run P w = .ok (.value (mk w.heap.size)) (w.alloc obj))
    (h : ∀ b, Seg P ol.toArray W Cs As K l (⟨i, [b], fun w => w.heap[b]? = some obj⟩ :: Fs) (a.put o.dst (mk b))) : Seg P ol.toArray W Cs As K (i :: l) Fs a :=
  Seg_cons.2 ⟨o, (opAt_eq ol i).symm.trans hi, by
    unfold Head
    rw [if_pos hw, if_pos (by simpa using hA)]
    exact ⟨obj, mk, hr, h⟩⟩
theorem seg_val {ol : List Oper} {i : Nat} {l : List Nat} {Fs : List Fact} {a : Act} {o : Oper} (v : Value) (hi : opAt ol i = some o) (hA : As.contains i = false) (hC : Cs.contains i = true) (hw : Region.wanted o (yielded ol.toArray a.tmps) = true)
    (hr : ∀ w post, Upto [] W w → DF ol.toArray i Fs w → (∀ w', Upto [] w w' → post v w') → opqUpon P post ((execOp a.eval o).run P w))
    (h : Seg P ol.toArray W Cs As K l Fs (a.put o.dst v)) : Seg P ol.toArray W Cs As K (i :: l) Fs a :=
  Seg_cons.2 ⟨o, (opAt_eq ol i).symm.trans hi, by
    unfold Head
    rw [if_pos hw, if_neg (by simpa using hA), if_pos (by simpa using hC)]
    exact Or.inl ⟨v, fun w hu hd => hr w _ hu hd fun w' h' => ⟨h', rfl⟩, h⟩⟩
theorem seg_opq {ol : List Oper} {i : Nat} {l : List Nat} {Fs : List Fact} {a : Act} {o : Oper} {Y : Type} [hY : Nonempty Y] (mk : Y → Value) (Φ : Y → World → Prop) (own : Y → List Nat) (hi : opAt ol i = some o) (hA : As.contains i = false) (hC : Cs.contains i = true) (hw : Region.wanted o (yielded ol.toArray a.tmps) = true)
    (hs : ∀ y w w', Φ y w → Upto [] w w' → Φ y w') (hn : ∀ y, (own y).Nodup)
    (hr : ∀ w post, Upto [] W w → DF ol.toArray i Fs w → (∀ y w', Upto [] w w' → Φ y w' → (∀ b ∈ own y, w.heap.size ≤ b ∧ b < w'.heap.size) → post (mk y) w') → opqUpon P post ((execOp a.eval o).run P w))
    (h : ∀ y, Seg P ol.toArray W Cs As K l (⟨i, own y, Φ y⟩ :: Fs) (a.put o.dst (mk y))) : Seg P ol.toArray W Cs As K (i :: l) Fs a :=
  Seg_cons.2 ⟨o, (opAt_eq ol i).symm.trans hi, by
    unfold Head
    rw [if_pos hw, if_neg (by simpa using hA), if_pos (by simpa using hC)]
    exact Or.inr ⟨Y, mk, Φ, own, hY, hs, hn, fun w hu hd => hr w _ hu hd fun y w' h1 h2 h3 => ⟨h1, y, rfl, h2, h3⟩, h⟩⟩
/-- a call whose value is known -/
theorem seg_call {ol : List Oper} {i : Nat} {l : List Nat} {Fs : List Fact} {a : Act} {o : Oper} {v : Value} {f : FuncId} {args : Array Value} (hi : opAt ol i = some o) (hA : As.contains i = false) (hC : Cs.contains i = true) (hw : Region.wanted o (yielded ol.toArray a.tmps) = true)
    (hr : ∀ w, (execOp a.eval o).run P w = .ok (.enter f args) w) (hc : ∀ w, Upto [] W w → DF ol.toArray i Fs w → Calls P f args w fun e w' => e = .returned v ∧ Upto [] w w')
    (h : Seg P ol.toArray W Cs As K l Fs (a.put o.dst v)) : Seg P ol.toArray W Cs As K (i :: l) Fs a :=
  seg_val v hi hA hC hw (fun w post hu hd hp => by rw [hr w]; exact (hc w hu hd).mono fun e w' ⟨h1, h2⟩ => ⟨_, h1, hp _ h2⟩) h
/-- a call of whose value only a fact is known -/
theorem seg_callO {ol : List Oper} {i : Nat} {l : List Nat} {Fs : List Fact} {a : Act} {o : Oper} {f : FuncId} {args : Array Value} {Y : Type} [hY : Nonempty Y] (mk : Y → Value) (Φ : Y → World → Prop) (own : Y → List Nat) (hi : opAt ol i = some o) (hA : As.contains i = false) (hC : Cs.contains i = true) (hw : Region.wanted o (yielded ol.toArray a.tmps) = true)
    (hs : ∀ y w w', Φ y w → Upto [] w w' → Φ y w') (hn : ∀ y, (own y).Nodup)
    (hr : ∀ w, (execOp a.eval o).run P w = .ok (.enter f args) w)
    (hc : ∀ w, Upto [] W w → DF ol.toArray i Fs w → Calls P f args w fun e w' => ∃ y, e = .returned (mk y) ∧ Upto [] w w' ∧ Φ y w' ∧ ∀ b ∈ own y, w.heap.size ≤ b ∧ b < w'.heap.size)
    (h : ∀ y, Seg P ol.toArray W Cs As K l (⟨i, own y, Φ y⟩ :: Fs) (a.put o.dst (mk y))) : Seg P ol.toArray W Cs As K (i :: l) Fs a :=
  seg_opq mk Φ own hi hA hC hw hs hn (fun w post hu hd hp => by rw [hr w]; exact (hc w hu hd).mono fun e w' ⟨y, h1, h2, h3, h4⟩ => ⟨_, h1, hp _ _ h2 h3 h4⟩) h
end
end Go.PL


namespace Go.Proofs.YtbnebkkpmcjmbaaGreatDoor
open Go.RowKit Go.PL Go.Maps

theorem Keys.upto {S : List Nat} {w w' : World} {v : Value} (h : Keys w v) (hu : Upto S w w') (hS : ∀ g ∈ S, ∃ cs t z, w.heap[g]? = some (.cells cs t z)) : Keys w' v := by
  obtain ⟨b, h1, h2⟩ := h
  refine ⟨b, h1, h2.upto hu (fun hm => ?_)⟩
  obtain ⟨cs, t, z, hc⟩ := hS b hm
  obtain ⟨es, c, h3, _⟩ := h2
  rw [hc] at h3
  cases h3

/-- the lexer's memory: the result's place, the position, the set of keywords, the tokens so far -/
structure TkM (w : World) (B3 B7 : Nat) (m : Value) (acc : List Tok) (l : Value) (L c : Nat) (wr : World) : Prop where
  row : wr.ownsRow 0 104 5 l acc.length (acc.flatMap tkC)
  own : ∀ g, l.ownBlock = some g → w.heap.size ≤ g
  b3 : wr.heap[B3]? = some (.cells #[.int .i64 0, .int .i64 0] 102 (0, 0))
  b7 : wr.heap[B7]? = some (.cells #[.int .i64 L, .int .i64 c] 102 (0, 0))
  up : Upto [] w wr
  keys : Keys wr m
  env : Env wr
  n3 : w.heap.size ≤ B3
  n7 : w.heap.size ≤ B7
  ne : B3 ≠ B7

section
variable {w wr wr' : World} {B3 B7 : Nat} {m : Value} {acc : List Tok} {l : Value} {L c : Nat}
theorem TkM.ext (h : TkM w B3 B7 m acc l L c wr) (hu : Upto [] wr wr') : TkM w B3 B7 m acc l L c wr' :=
  ⟨ownsRow_upto h.row hu (by simp), h.own, hu.at h.b3 (by simp), hu.at h.b7 (by simp), h.up.trans_ext hu, h.keys.ext hu, h.env.ext hu, h.n3, h.n7, h.ne⟩
theorem TkM.no7 (h : TkM w B3 B7 m acc l L c wr) : ∀ g, l.ownBlock = some g → g ≠ B7 ∧ g ≠ B3 := fun g hg =>
  ⟨fun e => row_ne h.row (g := g) (Option.mem_toList.2 hg) (cs := #[.int .i64 L, .int .i64 c]) (t := 102) (fz := (0, 0)) (by rw [e]; exact h.b7) (by decide), fun e => row_ne h.row (g := g) (Option.mem_toList.2 hg) (cs := #[.int .i64 0, .int .i64 0]) (t := 102) (fz := (0, 0)) (by rw [e]; exact h.b3) (by decide)⟩
/-- the facts of the world stay where only new blocks are written -/
theorem Env.upto {S : List Nat} {w0 w1 w2 : World} (h : Env w0) (h1 : Upto [] w0 w1) (h2 : Upto S w1 w2) (hS : ∀ k ∈ S, w0.heap.size ≤ k) : Env w2 := h.ext (h1.trans h2 (fun k hk => Or.inr (hS k hk)))
theorem TkM.set (h : TkM w B3 B7 m acc l L c wr) (h0 : Env w) {L' c' : Nat} (hu : Upto [B7] wr wr') (hb : wr'.heap[B7]? = some (.cells #[.int .i64 L', .int .i64 c'] 102 (0, 0))) : TkM w B3 B7 m acc l L' c' wr' := by
  refine ⟨ownsRow_upto h.row hu (fun g hg => by simpa using (h.no7 g hg).1), h.own, hu.at h.b3 (by simpa using h.ne), hb, h.up.trans hu (fun k hk => by simp at hk; subst hk; exact Or.inr h.n7), h.keys.upto hu (fun g hg => by simp at hg; subst hg; exact ⟨_, _, _, h.b7⟩), h0.upto h.up hu (fun k hk => by simp at hk; subst hk; exact h.n7), h.n3, h.n7, h.ne⟩
theorem TkM.at (h : TkM w B3 B7 m acc l L c wr) (h0 : Env w) (c' : Nat) : TkM w B3 B7 m acc l L c' ((wr.setCell ⟨B7, 0, none⟩ (.int .i64 L)).setCell ⟨B7, 1, none⟩ (.int .i64 c')) :=
  h.set h0 (((Upto.refl _ wr).setCell (Or.inl (by simp)) _).setCell (Or.inl (by simp)) _) (by
    have := set_same (set_same h.b7 0 (.int .i64 L)) 1 (.int .i64 c')
    simpa using this)
theorem TkM.line (h : TkM w B3 B7 m acc l L c wr) (h0 : Env w) (L' : Nat) : TkM w B3 B7 m acc l L' c (wr.setCell ⟨B7, 0, none⟩ (.int .i64 L')) :=
  h.set h0 ((Upto.refl _ wr).setCell (Or.inl (by simp)) _) (by
    have := set_same h.b7 0 (.int .i64 L')
    simpa using this)
/-- one token more -/
theorem TkM.app {t : Tok} {src : Obj} {n' : Nat} {b' : Option Addr} {c' : Nat} (h : TkM w B3 B7 m acc l L c wr) (h0 : Env w) (hn : n' = acc.length + 1)
    (ho : wr'.ownsRow 0 104 5 (.slice b' n' c') n' (acc.flatMap tkC ++ tkC t)) (hu : Upto l.ownBlock.toList (wr.alloc src) wr') (hw : ∀ g, (Value.slice b' n' c').ownBlock = some g → l.ownBlock = some g ∨ (wr.alloc src).heap.size ≤ g) :
    TkM w B3 B7 m (acc ++ [t]) (.slice b' (acc.length + 1) c') L c wr' := by
  subst hn
  have h' := h.ext ((Upto.refl [] wr).alloc src)
  have hs : w.heap.size ≤ (wr.alloc src).heap.size := h'.up.size
  have hS : ∀ k ∈ l.ownBlock.toList, w.heap.size ≤ k := fun k hk => h.own k (Option.mem_toList.1 hk)
  refine ⟨?_, fun g hg => (hw g hg).elim (h.own g) (fun h => Nat.le_trans hs h), hu.at h'.b3 (fun hm => (h'.no7 B3 (Option.mem_toList.1 hm)).2 rfl), hu.at h'.b7 (fun hm => (h'.no7 B7 (Option.mem_toList.1 hm)).1 rfl), h'.up.trans hu (fun k hk => Or.inr (hS k hk)), h'.keys.upto hu (fun g hg => ?_), h0.upto h'.up hu hS, h.n3, h.n7, h.ne⟩
  · rw [toks_snoc]
    simpa using ho
  · obtain ⟨cur, hc⟩ := ownsRow_block h'.row (Option.mem_toList.1 hg)
    exact ⟨_, _, _, hc⟩
theorem TkM.fin (h : TkM w B3 B7 m acc l L c wr) (x y : Value) : Toks ((wr.setCell ⟨B3, 0, none⟩ x).setCell ⟨B3, 1, none⟩ y) l acc ∧ Upto [] w ((wr.setCell ⟨B3, 0, none⟩ x).setCell ⟨B3, 1, none⟩ y) := by
  have hu : Upto [B3] wr ((wr.setCell ⟨B3, 0, none⟩ x).setCell ⟨B3, 1, none⟩ y) := ((Upto.refl _ wr).setCell (Or.inl (by simp)) _).setCell (Or.inl (by simp)) _
  refine ⟨(Toks.of_row h.row).upto hu (fun g o n c' e hg => ?_), h.up.trans hu (fun k hk => by simp at hk; subst hk; exact Or.inr h.n3)⟩
  rcases h.row.2 with ⟨rfl, -⟩ | ⟨g', cap, cur, rfl, -⟩
  · cases e
  · cases e
    exact (h.no7 g rfl).2 (by simpa using hg)
end

/-- the cells of a new block -/
theorem cells_at {w : World} {B : Nat} {l : List Value} {t : TypeId} {fr : Nat × Nat} (hb : w.heap[B]? = some (.cells l.toArray t fr)) : ∀ (j : Nat) (u : Value), l[j]? = some u → w.cell? ((⟨B, 0, none⟩ : Addr).add j) = some u := by
  intro j u hj
  simp only [Addr.add_lit, Nat.zero_add]
  rw [cell_of hb]
  simpa using hj
theorem tkC_one {t : Tok} : ∀ u ∈ tkC t, u.oneCell' = true := by
  intro u h
  simp only [tkC, List.mem_cons, List.not_mem_nil, or_false] at h
  rcases h with rfl | rfl | rfl | rfl | rfl <;> rfl

/-- what Tokenize comes to -/
def TokR (s : List UInt8) (e : Ending) (w' : World) : Prop :=
  (∃ ts v, lexT s = .ok ts ∧ e = .returned (.tuple #[v, .agg #[.int .i64 0, .int .i64 0], .int .i64 0]) ∧ Toks w' v ts) ∨
  ∃ l c n : Nat, lexT s = .error (l, c, n) ∧ n ≠ 0 ∧ e = .returned (.tuple #[.slice none 0 0, .agg #[.int .i64 l, .int .i64 c], .int .i64 n])

theorem ext_from {s : List UInt8} (k : Nat) : (ByteArray.mk s.toArray).extract k s.length = ⟨(s.drop k).toArray⟩ := by
  rw [ByteArray.extract_mk, List.take_of_length_le (by simp)]
theorem ext_to {s : List UInt8} (k n : Nat) : (ByteArray.mk s.toArray).extract k (k + n) = ⟨((s.drop k).take n).toArray⟩ := by
  rw [ByteArray.extract_mk, Nat.add_sub_cancel_left]
theorem drop_at {s : List UInt8} {k : Nat} {b : UInt8} (h : s[k]? = some b) : s.drop k = b :: s.drop (k + 1) := by
  obtain ⟨h1, h2⟩ := List.getElem?_eq_some_iff.1 h
  rw [List.drop_eq_getElem_cons h1, h2]
end Go.Proofs.YtbnebkkpmcjmbaaGreatDoor

