/- A small library of lemmas: what a world keeps (Upto), maps as lists of entries (MapL). No program is named. -/
import Derived.Test.YtkhbpebpljdifaaDoorRows
import Derived.WalkKit
import Derived.WalkSpells
import Derived.WalkLawsBesides
import Derived.Maps.OwnSet
import Derived.Lib.Hide
import Derived.Laws.BytesArg
namespace Go.PL
open Go.RowKit Go.MapKept
open Go.Maps (Keyed)

/-- Blocks of w outside S read in w' as in w; the streams are as they were. -/
structure Upto (S : List Nat) (w w' : World) : Prop where
  os : w'.os = w.os
  tape : w'.tape = w.tape
  output : w'.output = w.output
  size : w.heap.size ≤ w'.heap.size
  block : ∀ k, k < w.heap.size → k ∉ S → w'.heap[k]? = w.heap[k]?

theorem Upto.refl (S : List Nat) (w : World) : Upto S w w := ⟨rfl, rfl, rfl, Nat.le_refl _, fun _ _ _ => rfl⟩

/-- Every block of S' is in S or new since w. -/
def Within (w : World) (S S' : List Nat) : Prop := ∀ k ∈ S', k ∈ S ∨ w.heap.size ≤ k

theorem Within.refl (w : World) (S : List Nat) : Within w S S := fun _ h => Or.inl h
theorem Within.nil (w : World) (S : List Nat) : Within w S [] := fun _ h => by cases h

theorem Upto.trans {S S' : List Nat} {a b c : World} (h : Upto S a b) (k : Upto S' b c) (hs : Within a S S') : Upto S a c :=
  ⟨k.os.trans h.os, k.tape.trans h.tape, k.output.trans h.output, Nat.le_trans h.size k.size, fun i hi hn => by
    refine (k.block i (Nat.lt_of_lt_of_le hi h.size) (fun hm => ?_)).trans (h.block i hi hn)
    rcases hs i hm with h1 | h1
    · exact hn h1
    · omega⟩

theorem Upto.trans_same {S : List Nat} {a b c : World} (h : Upto S a b) (k : Upto S b c) : Upto S a c := h.trans k (Within.refl _ _)
theorem Upto.trans_ext {S : List Nat} {a b c : World} (h : Upto S a b) (k : Upto [] b c) : Upto S a c := h.trans k (Within.nil _ _)

theorem Upto.mono {S S' : List Nat} {w w' : World} (h : Upto S w w') (hs : ∀ k ∈ S, k ∈ S') : Upto S' w w' :=
  ⟨h.os, h.tape, h.output, h.size, fun k hk hn => h.block k hk (fun hm => hn (hs k hm))⟩

theorem Upto.drew {S : List Nat} {a w : World} (h : Upto S a w) : Upto S a w.drew := ⟨h.os, h.tape, h.output, h.size, h.block⟩
theorem Upto.drewN {S : List Nat} {a w : World} (h : Upto S a w) (n : Nat) : Upto S a (w.drewN n) := ⟨h.os, h.tape, h.output, h.size, h.block⟩

theorem Upto.alloc {S : List Nat} {a w : World} (h : Upto S a w) (o : Obj) : Upto S a (w.alloc o) :=
  h.trans_ext ⟨rfl, rfl, rfl, by simp, fun k hk _ => Below.heap_alloc _ _ _ hk⟩

theorem Upto.setCell {S : List Nat} {a w : World} (h : Upto S a w) {p : Addr} (hp : p.block ∈ S ∨ a.heap.size ≤ p.block) (u : Value) : Upto S a (w.setCell p u) :=
  h.trans (S' := [p.block]) ⟨rfl, rfl, rfl, by simp [World.setCell], fun k _ hn => Below.heap_setCell _ _ _ _ (by simpa using hn)⟩ (fun k hk => by simp at hk; subst hk; exact hp)

theorem Upto.grown {S : List Nat} {a w w' : World} {row : Option Nat} (h : Upto S a w) (hg : w.grownBy w' row) (hr : ∀ k, row = some k → k ∈ S ∨ a.heap.size ≤ k) : Upto S a w' :=
  h.trans (S' := row.toList) ⟨hg.os, hg.tape, hg.output, hg.size, fun k hk hn => hg.block k hk (fun e => hn (by rw [← e]; simp))⟩ (fun k hk => hr k (by simpa using hk))

theorem Upto.cell {S : List Nat} {w w' : World} (h : Upto S w w') {p : Addr} (hp : p.block < w.heap.size) (hn : p.block ∉ S) : w'.cell? p = w.cell? p := World.cell?_of_block (w := w) (h.block p.block hp hn)
theorem Upto.frozen {S : List Nat} {w w' : World} (h : Upto S w w') {p : Addr} (hp : p.block < w.heap.size) (hn : p.block ∉ S) : w'.frozen? p = w.frozen? p := World.frozen?_of_block (w := w) (h.block p.block hp hn)

theorem Upto.below {S : List Nat} {w w' : World} (h : Upto S w w') (B : Nat) (hB : B ≤ w.heap.size) (hs : ∀ k ∈ S, B ≤ k) : Below B w w' :=
  ⟨h.os, h.tape, h.output, h.size, fun k hk => h.block k (by omega) (fun hm => by have := hs k hm; omega)⟩
theorem Upto.ext {w w' : World} (h : Upto [] w w') : Below w.heap.size w w' := h.below _ (Nat.le_refl _) (by simp)
theorem Upto.of_below {w w' : World} (h : Below w.heap.size w w') : Upto [] w w' := ⟨h.os, h.tape, h.output, h.size, fun k hk _ => h.block k hk⟩

/-- Block b is a map with these entries, in the order of their insertion. -/
def MapL (P : Program) (k : TypeId) (w : World) (b : Nat) (L : List (Value × Value)) : Prop :=
  ∃ es clock, w.heap[b]? = some (.map es clock) ∧ es.toList.map (fun e => (e.key, e.val)) = L ∧ ∀ e ∈ es.toList, ∃ l, keyOf P k e.key = some l

section
variable {P : Program} {k : TypeId} {w w' : World} {b : Nat} {L : List (Value × Value)}

theorem MapL.of_block (h : MapL P k w b L) (hb : w'.heap[b]? = w.heap[b]?) : MapL P k w' b L := by
  obtain ⟨es, c, h1, h2, h3⟩ := h
  exact ⟨es, c, hb.trans h1, h2, h3⟩
theorem MapL.lt (h : MapL P k w b L) : b < w.heap.size := by
  obtain ⟨es, c, h1, _⟩ := h
  exact (Array.getElem?_eq_some_iff.1 h1).1
theorem MapL.upto {S : List Nat} (h : MapL P k w b L) (hu : Upto S w w') (hn : b ∉ S) : MapL P k w' b L := h.of_block (hu.block b h.lt hn)
theorem MapL.made (P : Program) (k : TypeId) (w : World) : MapL P k (w.alloc (.map #[] 0)) w.heap.size [] :=
  ⟨#[], 0, (MapKept.heap_alloc w _).1, rfl, by simp⟩

theorem MapL.look {t e : TypeId} (h : MapL P k w b L) (K : Keyed P k) (ht : P.underlying t = some (.map k e)) {z : Value} (hz : (zeroValue e).run P w = .ok z w) {x : Value} {l : Lit} (hx : keyOf P k x = some l) (c : Bool) :
    ((Instr.lookup t (.map (some b)) x c).run P w = .ok (if c then .tuple #[z, .bool false] else z) w ∧ ∀ p ∈ L, p.1 ≠ x) ∨
    ∃ v, (x, v) ∈ L ∧ (Instr.lookup t (.map (some b)) x c).run P w = .ok (if c then .tuple #[v, .bool true] else v) w := by
  obtain ⟨es, clock, hb, rfl, hk⟩ := h
  rcases K.find w hx es.toList hk with ⟨h1, h2⟩ | ⟨j, e0, h1, h2, h3⟩
  · refine Or.inl ⟨by simp [Instr.lookup, run_underlying ht, MapKept.run_getObj_map hb, K.check w _ hx, h1, hz, Result.andThen], ?_⟩
    intro p hp
    obtain ⟨e, he, rfl⟩ := List.mem_map.1 hp
    exact h2 e he
  · refine Or.inr ⟨e0.val, List.mem_map.2 ⟨e0, List.mem_of_getElem? h2, by rw [h3]⟩, by simp [Instr.lookup, run_underlying ht, MapKept.run_getObj_map hb, K.check w _ hx, h1, Result.andThen]⟩

theorem MapL.insert {t e : TypeId} (h : MapL P k w b L) (K : Keyed P k) (ht : P.underlying t = some (.map k e)) {x v : Value} {l : Lit} (hx : keyOf P k x = some l) (hnew : ∀ p ∈ L, p.1 ≠ x) :
    ∃ w', (Instr.mapUpdate t (.map (some b)) x v).run P w = .ok () w' ∧ MapL P k w' b (L ++ [(x, v)]) ∧ w.grownBy w' (some b) := by
  obtain ⟨es, clock, hb, rfl, hk⟩ := h
  rcases K.find w hx es.toList hk with ⟨h1, h2⟩ | ⟨j, e0, h1, h2, h3⟩
  · refine ⟨ChangeMaps.setBlock w b (.map (es.push ⟨x, v, clock⟩) (clock + 1)), by simp [Instr.mapUpdate, run_underlying ht, MapKept.run_getObj_map hb, K.check w false hx, h1, MapKept.run_setObj_map _ hb, Result.andThen, ChangeMaps.setBlock], ?_, ?_⟩
    · refine ⟨es.push ⟨x, v, clock⟩, clock + 1, ChangeMaps.heap_setBlock_same hb _, by simp, ?_⟩
      intro e he
      simp only [Array.toList_push, List.mem_append, List.mem_singleton] at he
      rcases he with he | rfl
      · exact hk e he
      · exact ⟨l, hx⟩
    · exact ⟨rfl, rfl, rfl, by simp [ChangeMaps.setBlock], fun i _ hi => ChangeMaps.heap_setBlock_other hb _ (fun e => hi (by rw [e]))⟩
  · exact absurd h3 (hnew _ (List.mem_map.2 ⟨e0, List.mem_of_getElem? h2, rfl⟩))
end

section
variable {P : Program} (w : World) {ops : Array Oper} {rest : List Oper} {o : Oper} {a : Act} {Q : Exit → Act → World → Prop}

theorem wpList_insert (hg : o.guard = none) (m x v : Operand) (t : TypeId) (hop : o.op = Op.mapUpdate t m x v)
    (k e : TypeId) (K : Keyed P k) (ht : P.underlying t = some (.map k e)) (b : Nat) (L : List (Value × Value))
    (hm : a.eval m = .map (some b)) (h : MapL P k w b L) (key val : Value) (l : Lit) (hx : a.eval x = key) (hv : a.eval v = val) (hkey : keyOf P k key = some l) (hnew : ∀ p ∈ L, p.1 ≠ key)
    (hK : ∀ w', MapL P k w' b (L ++ [(key, val)]) → w.grownBy w' (some b) → wpList P ops Q rest (a.put o.dst undef) w') :
    wpList P ops Q (o :: rest) a w := by
  refine wpList_plain hg fun K' hK' => ?_
  obtain ⟨w', hrun, r1, r2⟩ := h.insert K ht hkey (v := val) hnew
  unfold Oper.wp
  simp [execOp, hop, hm, hx, hv, hrun, Result.andThen]
  exact hK' _ _ (hK w' r1 r2)
end

theorem keyS {P : Program} {k : TypeId} (hk : P.underlying k = some .string) {s : ByteArray} (hs : s.size ≤ maxLen) : keyOf P k (.string s) = some (.string s.data.toList) := by
  simp [keyOf, hk, mapKey, hs]

theorem cell_of {w : World} {p : Nat} {cs : Array Value} {t : TypeId} {z : Nat × Nat} (h : w.heap[p]? = some (.cells cs t z)) (i : Nat) : w.cell? ⟨p, i, none⟩ = cs[i]? := by
  simp [World.cell?, h]
theorem free_of {w : World} {p : Nat} {cs : Array Value} {t : TypeId} (h : w.heap[p]? = some (.cells cs t (0, 0))) (i : Nat) : w.frozen? ⟨p, i, none⟩ = false := by
  simp [World.frozen?, h]
theorem set_same {w : World} {p : Nat} {cs : Array Value} {t : TypeId} {z : Nat × Nat} (h : w.heap[p]? = some (.cells cs t z)) (i : Nat) (v : Value) : (w.setCell ⟨p, i, none⟩ v).heap[p]? = some (.cells (cs.setIfInBounds i v) t z) := by
  simp [World.setCell, Array.getElem?_modify, h]
theorem set_other {w : World} {p q : Nat} {o : Option Obj} (h : w.heap[q]? = o) (hn : q ≠ p) (i : Nat) (v : Value) : (w.setCell ⟨p, i, none⟩ v).heap[q]? = o := by
  rw [Below.heap_setCell _ _ _ _ hn]; exact h
theorem lt_of_heap {w : World} {p : Nat} {o : Obj} (h : w.heap[p]? = some o) : p < w.heap.size := (Array.getElem?_eq_some_iff.1 h).1
theorem alloc_old {w : World} {p : Nat} {o : Obj} (h : w.heap[p]? = some o) (o' : Obj) : (w.alloc o').heap[p]? = some o := by
  rw [Below.heap_alloc _ _ _ (lt_of_heap h)]; exact h

theorem ownsRow_len {w : World} {B : Nat} {e : TypeId} {z : Nat} {v : Value} {n : Nat} {xs : List Value} (h : w.ownsRow B e z v n xs) : ∃ a c, v = .slice a n c ∧ (a = none → n = 0) := by
  rcases h.2 with ⟨rfl, rfl⟩ | ⟨g, cap, cur, rfl, _⟩
  · exact ⟨none, 0, rfl, fun _ => rfl⟩
  · exact ⟨_, cap, rfl, fun h => by cases h⟩
theorem ownsRow_block {w : World} {B : Nat} {e : TypeId} {z : Nat} {v : Value} {n : Nat} {xs : List Value} (h : w.ownsRow B e z v n xs) {g : Nat} (hg : v.ownBlock = some g) : ∃ cur, w.heap[g]? = some (.cells cur e (0, 0)) := by
  rcases h.2 with ⟨rfl, rfl⟩ | ⟨g', cap, cur, rfl, _, hh, _⟩
  · cases hg
  · cases hg
    exact ⟨cur, hh⟩
/-- a block of cells of another type is not the row -/
theorem row_ne {w : World} {B : Nat} {e : TypeId} {z : Nat} {v : Value} {n : Nat} {xs : List Value} (h : w.ownsRow B e z v n xs) {g : Nat} (hg : g ∈ v.ownBlock.toList) {cs : Array Value} {t : TypeId} {fz : Nat × Nat} (hb : w.heap[g]? = some (.cells cs t fz)) (hne : t ≠ e) : False := by
  obtain ⟨cur, hh⟩ := ownsRow_block h (Option.mem_toList.1 hg)
  rw [hb] at hh
  injection hh with hh
  injection hh with _ h2
  exact hne h2
theorem ownsRow_of_block {w w' : World} {B : Nat} {e : TypeId} {z : Nat} {v : Value} {n : Nat} {xs : List Value} (h : w.ownsRow B e z v n xs) (hb : ∀ g, v.ownBlock = some g → w'.heap[g]? = w.heap[g]?) : w'.ownsRow B e z v n xs := by
  refine ⟨h.1, ?_⟩
  rcases h.2 with hn | ⟨g', cap, cur, rfl, h1, hh, r⟩
  · exact Or.inl hn
  · exact Or.inr ⟨g', cap, cur, rfl, h1, (hb g' rfl).trans hh, r⟩
theorem ownsRow_upto {S : List Nat} {w w' : World} {B : Nat} {e : TypeId} {z : Nat} {v : Value} {n : Nat} {xs : List Value} (h : w.ownsRow B e z v n xs) (hu : Upto S w w') (hs : ∀ g, v.ownBlock = some g → g ∉ S) : w'.ownsRow B e z v n xs :=
  ownsRow_of_block h (fun g hg => by
    obtain ⟨cur, hh⟩ := ownsRow_block h hg
    exact hu.block g (lt_of_heap hh) (hs g hg))
theorem one_cell {w : World} {x : Value} {t : TypeId} : ∀ (j : Nat) (u : Value), [x][j]? = some u → (w.alloc (.cells #[x] t)).cell? ((⟨w.heap.size, 0, none⟩ : Addr).add j) = some u := by
  intro j u hj
  match j, hj with
  | 0, hj => simp at hj; subst hj; simp [Addr.add]

section
variable {P : Program} (w : World)

/-- where an append leaves its result: in the old block, or in a new one -/
theorem append_where (t ty e : TypeId) (i : TypeInfo) (z : Value) (size bytes : Nat) (ht : P.underlying t = some (.slice e)) (hi : P.info? e = some i) (hz : i.zero = some z)
    (hsize : i.size = size) (hby : i.bytes = bytes) (v : Value) (n : Nat) (xs : List Value) (hown : w.ownsRow 0 e size v n xs)
    (a : Addr) (m c : Nat) (news : List Value) (hl : news.length = m * size) (hnews : ∀ j u, news[j]? = some u → w.cell? (a.add j) = some u) (h1 : ∀ u ∈ news, u.oneCell' = true)
    (h63 : n + m ≤ maxLen) (hbytes : (n + m) * bytes ≤ 140737488355328) {v' : Value} {w' : World} (hr : (Builtin.append_ #[t, t] ty #[v, .slice (some a) m c]).run P w = .ok v' w') :
    ∀ g, v'.ownBlock = some g → v.ownBlock = some g ∨ w.heap.size ≤ g := by
  subst hsize
  subst hby
  have h63' : n + m ≤ 9223372036854775807 := by simp only [maxLen] at h63; omega
  rcases hown.2 with ⟨rfl, rfl⟩ | ⟨g, cap, cur, rfl, _, hg, hnc, hcm, hcs, htake⟩
  · by_cases hm : m = 0
    · subst hm
      have hs : (Builtin.append_ #[t, t] ty #[.slice none 0 0, .slice (some a) 0 c]).run P w = .ok (.slice none 0 0) w := by
        simp [Builtin.append_, run_underlying ht, sizeOf, typeInfo, hi, Builtin.lenOf, Builtin.firstCells, loadCells, loadCellsFrom]
      rw [hs] at hr
      cases hr
      intro g hg
      cases hg
    · have hs := run_append_nil (P := P) w t ty e i z ht hi hz a m c news hl hnews (by omega) (by omega) (by rw [Nat.zero_add] at hbytes; omega)
      rw [hs] at hr
      cases hr
      intro g hg
      cases hg
      exact Or.inr (Nat.le_refl _)
  · by_cases hroom : n + m ≤ cap
    · have hs := run_append_room (P := P) w t ty e i ht hi g n cap cur hg a m c news hl hnews h1 hroom (by rw [hl, hcs, ← Nat.add_mul]; exact Nat.mul_le_mul_right _ hroom)
      rw [hs] at hr
      cases hr
      intro g' hg'
      exact Or.inl hg'
    · have hs := run_append_grow (P := P) w t ty e i z ht hi hz ⟨g, 0, none⟩ n cap xs hown.1 (hown.cells (g := g) rfl) a m c news hl hnews (by omega) (by omega) (growslice_fits (by omega) hbytes)
      rw [hs] at hr
      cases hr
      intro g' hg'
      cases hg'
      exact Or.inr (Nat.le_refl _)

theorem wpList_app {ops : Array Oper} {rest : List Oper} {o : Oper} {ac : Act} {Q : Exit → Act → World → Prop} (hgd : o.guard = none) (s x : Operand) (t : TypeId)
    (ho : o.op = .call { callee := .builtin .append, args := #[s, x], argTypes := #[t, t] })
    (e : TypeId) (i : TypeInfo) (z : Value) (size bytes : Nat) (ht : P.underlying t = some (.slice e)) (hi : P.info? e = some i) (hz : i.zero = some z)
    (hsize : i.size = size) (hby : i.bytes = bytes) (hzs : z.cells.size = size) (hsz : 0 < size)
    (v : Value) (n : Nat) (xs : List Value) (hs : ac.eval s = v) (hown : w.ownsRow 0 e size v n xs)
    (a : Addr) (m c : Nat) (news : List Value) (hx : ac.eval x = .slice (some a) m c) (hl : news.length = m * size) (hnews : ∀ j u, news[j]? = some u → w.cell? (a.add j) = some u) (h1 : ∀ u ∈ news, u.oneCell' = true)
    (h63 : n + m ≤ maxLen) (hbytes : (n + m) * bytes ≤ 140737488355328)
    (h : ∀ b' c' w', w'.ownsRow 0 e size (.slice b' (n + m) c') (n + m) (xs ++ news) → Upto v.ownBlock.toList w w' → (∀ g, (Value.slice b' (n + m) c').ownBlock = some g → v.ownBlock = some g ∨ w.heap.size ≤ g) → wpList P ops Q rest (ac.put o.dst (.slice b' (n + m) c')) w') : wpList P ops Q (o :: rest) ac w := by
  refine wpList_plain hgd fun K hK => ?_
  obtain ⟨v', w', hr, h2, h3, _⟩ := run_append_own (P := P) w 0 t o.type e i z size bytes ht hi hz hsize hby hzs hsz v n xs hown a m c news hl hnews h1 h63 hbytes (Nat.zero_le _)
  have h4 := append_where w t o.type e i z size bytes ht hi hz hsize hby v n xs hown a m c news hl hnews h1 h63 hbytes hr
  unfold Oper.wp execOp
  simp only [ho, resolve, invoke, builtin, Sem.run_bind, Sem.run_pure, Result.andThen_ok, List.map_toArray, List.map_cons, List.map_nil, hs, hx, hr]
  obtain ⟨b', c', rfl, _⟩ := ownsRow_len h2
  exact hK _ _ (h b' c' w' h2 ⟨h3.os, h3.tape, h3.output, h3.size, fun k hk hn => h3.block k hk (fun e => hn (by rw [← e]; simp))⟩ h4)
end

theorem Upto.at {S : List Nat} {w w' : World} (h : Upto S w w') {g : Nat} {o : Obj} (hb : w.heap[g]? = some o) (hn : g ∉ S) : w'.heap[g]? = some o := (h.block g (lt_of_heap hb) hn).trans hb
theorem new_at (w : World) (o : Obj) : (w.alloc o).heap[w.heap.size]? = some o := heap_alloc_new w o
theorem new_at1 (w : World) (o o' : Obj) : ((w.alloc o).alloc o').heap[w.heap.size + 1]? = some o' := by
  have := heap_alloc_new (w.alloc o) o'
  simpa using this
theorem new_at2 (w : World) (o o' o'' : Obj) : (((w.alloc o).alloc o').alloc o'').heap[w.heap.size + 1 + 1]? = some o'' := by
  have := heap_alloc_new ((w.alloc o).alloc o') o''
  simpa using this
theorem ret_int {k : IntKind} {a b : Int} (h : a = b) : Ending.returned (.int k a) = .returned (.int k b) := by rw [h]
theorem ret_str {a b : ByteArray} (h : a = b) : Ending.returned (.string a) = .returned (.string b) := by rw [h]
theorem ret_bool {a b : Bool} (h : a = b) : Ending.returned (.bool a) = .returned (.bool b) := by rw [h]

/-- a slice whose elements are read only: no elements, or the cells of a row -/
def SlC (w : World) (v : Value) (xs : List Value) : Prop :=
  (xs = [] ∧ ∃ a c, v = .slice a 0 c) ∨ ∃ g o c, v = .slice (some ⟨g, o, none⟩) xs.length c ∧ ∀ j u, xs[j]? = some u → w.cell? ⟨g, o + j, none⟩ = some u

theorem SlC.len {w : World} {v : Value} {xs : List Value} (h : SlC w v xs) : ∃ a c, v = .slice a xs.length c := by
  rcases h with ⟨rfl, a, c, rfl⟩ | ⟨g, o, c, rfl, _⟩
  · exact ⟨a, c, rfl⟩
  · exact ⟨_, c, rfl⟩
theorem SlC.of_row {w : World} {B : Nat} {e : TypeId} {v : Value} {n : Nat} {xs : List Value} (h : w.ownsRow B e 1 v n xs) : SlC w v xs := by
  rcases h.2 with ⟨rfl, rfl⟩ | ⟨g, cap, cur, rfl, _, hh, _, _, _, ht⟩
  · exact Or.inl ⟨List.eq_nil_of_length_eq_zero (by simpa using h.1), none, 0, rfl⟩
  · refine Or.inr ⟨g, 0, cap, by rw [h.1]; simp, ?_⟩
    intro j u hj
    rw [cell_of hh, Nat.zero_add]
    rw [← ht, List.getElem?_take] at hj
    split at hj
    · simpa using hj
    · cases hj
/-- what a slice reads as stays while its block is not written -/
theorem SlC.upto {S : List Nat} {w w' : World} {v : Value} {xs : List Value} (h : SlC w v xs) (hu : Upto S w w') (hs : ∀ g o n c, v = .slice (some ⟨g, o, none⟩) n c → xs ≠ [] → g ∉ S) : SlC w' v xs := by
  rcases h with h | ⟨g, o, c, rfl, hc⟩
  · exact Or.inl h
  · refine Or.inr ⟨g, o, c, rfl, fun j u hj => ?_⟩
    have h1 := hc j u hj
    rw [← h1]
    refine hu.cell ?_ (hs g o _ c rfl (by rintro rfl; cases hj))
    exact World.block_lt_of_cell? w _ h1
theorem SlC.ext {w w' : World} {v : Value} {xs : List Value} (h : SlC w v xs) (hu : Upto [] w w') : SlC w' v xs := h.upto hu (by simp)


section
variable {P : Program} (w : World)

theorem run_append_zero (t ty e : TypeId) (i : TypeInfo) (size : Nat) (ht : P.underlying t = some (.slice e)) (hi : P.info? e = some i)
    (v : Value) (n : Nat) (xs : List Value) (hown : w.ownsRow 0 e size v n xs) (a : Option Addr) (c : Nat) :
    (Builtin.append_ #[t, t] ty #[v, .slice a 0 c]).run P w = .ok v w := by
  rcases hown.2 with ⟨rfl, rfl⟩ | ⟨g, cap, cur, rfl, _, hg, hnc, _⟩
  · cases a <;> simp [Builtin.append_, run_underlying ht, sizeOf, typeInfo, hi, Builtin.lenOf, Builtin.firstCells, loadCells, loadCellsFrom]
  · cases a <;> simp [Builtin.append_, run_underlying ht, sizeOf, typeInfo, hi, Builtin.lenOf, Builtin.firstCells, loadCells, loadCellsFrom, hnc, storeCells]

/-- append of the elements of a slice that reads as news (one cell each) -/
theorem wpList_apps {ops : Array Oper} {rest : List Oper} {o : Oper} {ac : Act} {Q : Exit → Act → World → Prop} (hgd : o.guard = none) (s x : Operand) (t : TypeId)
    (ho : o.op = .call { callee := .builtin .append, args := #[s, x], argTypes := #[t, t] })
    (e : TypeId) (i : TypeInfo) (z : Value) (bytes : Nat) (ht : P.underlying t = some (.slice e)) (hi : P.info? e = some i) (hz : i.zero = some z)
    (hsize : i.size = 1) (hby : i.bytes = bytes) (hzs : z.cells.size = 1)
    (v : Value) (n : Nat) (xs : List Value) (hs : ac.eval s = v) (hown : w.ownsRow 0 e 1 v n xs)
    (y : Value) (news : List Value) (hx : ac.eval x = y) (hnews : SlC w y news) (h1 : ∀ u ∈ news, u.oneCell' = true)
    (h63 : n + news.length ≤ maxLen) (hbytes : (n + news.length) * bytes ≤ 140737488355328)
    (h : ∀ b' c' w', w'.ownsRow 0 e 1 (.slice b' (n + news.length) c') (n + news.length) (xs ++ news) → Upto v.ownBlock.toList w w' → (∀ g, (Value.slice b' (n + news.length) c').ownBlock = some g → v.ownBlock = some g ∨ w.heap.size ≤ g) → wpList P ops Q rest (ac.put o.dst (.slice b' (n + news.length) c')) w') : wpList P ops Q (o :: rest) ac w := by
  rcases hnews with ⟨rfl, a, c, rfl⟩ | ⟨g, off, c, rfl, hc⟩
  · refine wpList_plain hgd fun K hK => ?_
    have hr := run_append_zero (P := P) w t o.type e i 1 ht hi v n xs hown a c
    unfold Oper.wp execOp
    simp only [ho, resolve, invoke, builtin, Sem.run_bind, Sem.run_pure, Result.andThen_ok, List.map_toArray, List.map_cons, List.map_nil, hs, hx, hr]
    obtain ⟨b', c', rfl, _⟩ := ownsRow_len hown
    exact hK _ _ (h b' c' w (by simpa using hown) (Upto.refl _ _) (fun g hg => Or.inl hg))
  · refine wpList_app w hgd s x t ho e i z 1 bytes ht hi hz hsize hby hzs (by decide) v n xs hs hown ⟨g, off, none⟩ news.length c news hx (by simp) ?_ h1 h63 hbytes h
    intro j u hj
    have := hc j u hj
    simpa [Addr.add_lit] using this
end

/-- dst was appended to: res has n elements, the cells xs; only dst's block was written, res lies in it or in a new one -/
structure Grew (w w' : World) (e : TypeId) (size : Nat) (dst res : Value) (n : Nat) (xs : List Value) : Prop where
  row : w'.ownsRow 0 e size res n xs
  up : Upto dst.ownBlock.toList w w'
  own : ∀ g, res.ownBlock = some g → dst.ownBlock = some g ∨ w.heap.size ≤ g

theorem Grew.same {w : World} {e : TypeId} {size : Nat} {v : Value} {n : Nat} {xs : List Value} (h : w.ownsRow 0 e size v n xs) : Grew w w e size v v n xs := ⟨h, Upto.refl _ _, fun _ h => Or.inl h⟩
theorem Grew.trans {w w1 w2 : World} {e : TypeId} {size : Nat} {a b c : Value} {n m : Nat} {xs ys : List Value} (h : Grew w w1 e size a b n xs) (k : Grew w1 w2 e size b c m ys) : Grew w w2 e size a c m ys := by
  have hs := h.up.size
  refine ⟨k.row, h.up.trans k.up ?_, fun g hg => ?_⟩
  · intro g hg
    rcases h.own g (Option.mem_toList.1 hg) with h1 | h1
    · exact Or.inl (Option.mem_toList.2 h1)
    · exact Or.inr h1
  · rcases k.own g hg with h1 | h1
    · exact h.own g h1
    · exact Or.inr (by omega)
theorem Grew.before {w w1 w2 : World} {e : TypeId} {size : Nat} {a b : Value} {n : Nat} {xs : List Value} (h : Upto [] w w1) (k : Grew w1 w2 e size a b n xs) : Grew w w2 e size a b n xs := by
  have hs := h.size
  refine ⟨k.row, (h.mono (by simp)).trans_same k.up, fun g hg => ?_⟩
  rcases k.own g hg with h1 | h1
  · exact Or.inl h1
  · exact Or.inr (by omega)
theorem Grew.ofNil {w w' : World} {e : TypeId} {size : Nat} {b : Value} {n : Nat} {xs : List Value} (h : Grew w w' e size (.slice none 0 0) b n xs) : Upto [] w w' := h.up

/-- a byte, an int, a string as a cell -/
def bv (b : UInt8) : Value := .int .u8 b.toNat
def iv (n : Int) : Value := .int .i64 n
def sv (s : ByteArray) : Value := .string s
def I64 (n : Int) : Prop := -9223372036854775808 ≤ n ∧ n ≤ 9223372036854775807

theorem conv_str {P : Program} {w : World} {src e dst : TypeId} (hs : P.underlying src = some (.slice e)) (he : P.underlying e = some (.int .u8)) (hd : P.underlying dst = some .string) {v : Value} {bs : List UInt8}
    (h : SlC w v (bs.map bv)) : (convert src dst v).run P w = .ok (.string ⟨bs.toArray⟩) w := by
  rcases h with ⟨h0, a, c, rfl⟩ | ⟨g, o, c, rfl, hc⟩
  · have hb : bs = [] := by simpa using h0
    subst hb
    cases a with
    | none => exact run_convert_bytes_nil w src e hs he 0 c dst hd
    | some a =>
      have hl : (loadCells a 0).run P w = .ok #[] w := by simp [loadCells, loadCellsFrom]
      rw [run_convert_bytes_string w src dst e _ 0 c hs he hd, run_bytesToString w a 0 c [] (by simpa using hl)]
      rfl
  · have := run_convert_bytes_arg (P := P) w src e hs he g o (bs.map bv).length c (bs.map fun b => (b.toNat : Int)) (by simp) (fun i hi => by
      simp at hi
      have := hc i (bv bs[i]) (by simp [hi])
      rw [this]
      simp [bv, hi]) dst hd
    rw [this]
    congr 2
    simp only [strOfNums, List.map_map, Function.comp_def, Int.toNat_natCast, UInt8.ofNat_toNat, List.map_id']

section
variable {P : Program} (w : World) {o : Oper} {ac : Act} {Q : Exit → Act → World → Prop}

theorem wp_app {K : Act → World → Prop} (s x : Operand) (t : TypeId) (ho : o.op = .call { callee := .builtin .append, args := #[s, x], argTypes := #[t, t] })
    (e : TypeId) (i : TypeInfo) (z : Value) (size bytes : Nat) (ht : P.underlying t = some (.slice e)) (hi : P.info? e = some i) (hz : i.zero = some z)
    (hsize : i.size = size) (hby : i.bytes = bytes) (hzs : z.cells.size = size) (hsz : 0 < size)
    (v : Value) (n : Nat) (xs : List Value) (hs : ac.eval s = v) (hown : w.ownsRow 0 e size v n xs)
    (a : Addr) (m c : Nat) (news : List Value) (hx : ac.eval x = .slice (some a) m c) (hl : news.length = m * size) (hnews : ∀ j u, news[j]? = some u → w.cell? (a.add j) = some u) (h1 : ∀ u ∈ news, u.oneCell' = true)
    (h63 : n + m ≤ maxLen) (hbytes : (n + m) * bytes ≤ 140737488355328)
    (h : ∀ b' c' w', Grew w w' e size v (.slice b' (n + m) c') (n + m) (xs ++ news) → K (ac.put o.dst (.slice b' (n + m) c')) w') : o.wp P ac w K Q := by
  obtain ⟨v', w', hr, h2, h3, _⟩ := run_append_own (P := P) w 0 t o.type e i z size bytes ht hi hz hsize hby hzs hsz v n xs hown a m c news hl hnews h1 h63 hbytes (Nat.zero_le _)
  have h4 := append_where w t o.type e i z size bytes ht hi hz hsize hby v n xs hown a m c news hl hnews h1 h63 hbytes hr
  unfold Oper.wp execOp
  simp only [ho, resolve, invoke, builtin, Sem.run_bind, Sem.run_pure, Result.andThen_ok, List.map_toArray, List.map_cons, List.map_nil, hs, hx, hr]
  obtain ⟨b', c', rfl, _⟩ := ownsRow_len h2
  exact h b' c' w' ⟨h2, ⟨h3.os, h3.tape, h3.output, h3.size, fun k hk hn => h3.block k hk (fun e => hn (by rw [← e]; simp))⟩, h4⟩

/-- append of new elements, at a step of a region that draws -/
theorem step_app {ops : Array Oper} {K : Act → World → Prop} {E : Prop} (hgd : o.guard = none) (s x : Operand) (t : TypeId) (ho : o.op = .call { callee := .builtin .append, args := #[s, x], argTypes := #[t, t] })
    (e : TypeId) (i : TypeInfo) (z : Value) (size bytes : Nat) (ht : P.underlying t = some (.slice e)) (hi : P.info? e = some i) (hz : i.zero = some z)
    (hsize : i.size = size) (hby : i.bytes = bytes) (hzs : z.cells.size = size) (hsz : 0 < size)
    (v : Value) (n : Nat) (xs : List Value) (hs : ac.eval s = v) (hown : w.ownsRow 0 e size v n xs)
    (a : Addr) (m c : Nat) (news : List Value) (hx : ac.eval x = .slice (some a) m c) (hl : news.length = m * size) (hnews : ∀ j u, news[j]? = some u → w.cell? (a.add j) = some u) (h1 : ∀ u ∈ news, u.oneCell' = true)
    (h63 : n + m ≤ maxLen) (hbytes : (n + m) * bytes ≤ 140737488355328)
    (h : ∀ b' c' w', Grew w w' e size v (.slice b' (n + m) c') (n + m) (xs ++ news) → K (ac.put o.dst (.slice b' (n + m) c')) w') :
    if Region.wanted o (yielded ops ac.tmps) = true then Oper.wp P o ac w K Q else E := by
  have hw : Region.wanted o (yielded ops ac.tmps) = true := by simp [Region.wanted, hgd]
  rw [if_pos hw]
  exact wp_app w s x t ho e i z size bytes ht hi hz hsize hby hzs hsz v n xs hs hown a m c news hx hl hnews h1 h63 hbytes h
end

theorem one_at {w : World} {B : Nat} {x : Value} {t : TypeId} {fr : Nat × Nat} (hb : w.heap[B]? = some (.cells #[x] t fr)) : ∀ (j : Nat) (u : Value), [x][j]? = some u → w.cell? ((⟨B, 0, none⟩ : Addr).add j) = some u := by
  intro j u hj
  match j, hj with
  | 0, hj => simp at hj; subst hj; simp [Addr.add, cell_of hb]
end Go.PL
