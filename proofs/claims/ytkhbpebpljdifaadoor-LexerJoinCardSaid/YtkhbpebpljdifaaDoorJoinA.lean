/- Join: tokens as they come, what it answers. -/
import Derived.Test.YtkhbpebpljdifaaDoorOne
import Derived.Test.YtkhbpebpljdifaaDoorSeg
namespace Go.Proofs.YtkhbpebpljdifaaDoor
open Go.RowKit Go.PL Go.Maps

/-- a token of whatever numbers -/
structure ITok where
  kind : Int
  text : List UInt8
  val : Int
  line : Int
  col : Int
def itC (t : ITok) : List Value := [.int .i64 t.kind, .string ⟨t.text.toArray⟩, .int .i64 t.val, .int .i64 t.line, .int .i64 t.col]
def ofTok (t : Tok) : ITok := ⟨t.kind, t.text, t.val, t.line, t.col⟩
/-- a slice of such tokens -/
def IToks (w : World) (v : Value) (ts : List ITok) : Prop := SlN w 5 v ts.length (ts.flatMap itC)
theorem IToks.len {w : World} {v : Value} {ts : List ITok} (h : IToks w v ts) : ∃ a c, v = .slice a ts.length c := SlN.len h
theorem IToks.ext {w w' : World} {v : Value} {ts : List ITok} (h : IToks w v ts) (hu : Upto [] w w') : IToks w' v ts := SlN.ext h hu
theorem Toks.I {w : World} {v : Value} {ts : List Tok} (h : Toks w v ts) : IToks w v (ts.map ofTok) := by
  unfold IToks
  rw [List.length_map, List.flatMap_map]
  exact h
def ITokAt (w : World) (g o : Nat) (ts : List ITok) : Prop := ∀ (i : Nat) t, ts[i]? = some t → w.cell? ⟨g, o + i * 5, none⟩ = some (.int .i64 t.kind) ∧ w.cell? ⟨g, o + i * 5 + 1, none⟩ = some (.string ⟨t.text.toArray⟩) ∧ w.cell? ⟨g, o + i * 5 + 2, none⟩ = some (.int .i64 t.val) ∧ w.cell? ⟨g, o + i * 5 + 3, none⟩ = some (.int .i64 t.line) ∧ w.cell? ⟨g, o + i * 5 + 4, none⟩ = some (.int .i64 t.col)
theorem IToks.at {w : World} {v : Value} {ts : List ITok} (h : IToks w v ts) : (ts = [] ∧ ∃ a c, v = .slice a 0 c) ∨ ∃ g o c, v = .slice (some ⟨g, o, none⟩) ts.length c ∧ ITokAt w g o ts := by
  rcases h.2 with ⟨h0, h1⟩ | ⟨g, o, c, h1, hc⟩
  · exact Or.inl ⟨List.eq_nil_of_length_eq_zero h0, h1⟩
  · refine Or.inr ⟨g, o, c, h1, fun i t ht => ?_⟩
    have key : ∀ j u, j < 5 → (itC t)[j]? = some u → w.cell? ⟨g, o + (i * 5 + j), none⟩ = some u := fun j u hj hu => hc _ _ ((flatMap_at itC 5 (fun _ => rfl) ts i j t ht hj).trans hu)
    exact ⟨key 0 _ (by decide) rfl, key 1 _ (by decide) rfl, key 2 _ (by decide) rfl, key 3 _ (by decide) rfl, key 4 _ (by decide) rfl⟩
theorem ITokAt.ext {w w' : World} {g o : Nat} {ts : List ITok} (h : ITokAt w g o ts) (hu : Upto [] w w') : ITokAt w' g o ts := by
  intro i t ht
  obtain ⟨h0, h1, h2, h3, h4⟩ := h i t ht
  have k : ∀ {p : Addr} {u : Value}, w.cell? p = some u → w'.cell? p = some u := fun hp => (hu.cell (World.block_lt_of_cell? w _ hp) (by simp)).trans hp
  exact ⟨k h0, k h1, k h2, k h3, k h4⟩

/-- an end of text -/
def eofI (t : ITok) : Prop := t.kind = 0 ∧ t.text = [] ∧ t.val = 0
instance (t : ITok) : Decidable (eofI t) := inferInstanceAs (Decidable (_ ∧ _ ∧ _))
/-- its text is this token and no other -/
def goodI (t : ITok) : Prop := ∃ k v : Nat, oneF t.text = some (k, v) ∧ t.kind = k ∧ t.val = v
instance (t : ITok) : Decidable (goodI t) :=
  match h : oneF t.text with
  | none => isFalse (by rintro ⟨k, v, h1, _⟩; rw [h] at h1; cases h1)
  | some (k, v) => if h2 : t.kind = k ∧ t.val = v then isTrue ⟨k, v, h, h2⟩ else isFalse (by rintro ⟨k', v', h1, h3⟩; rw [h] at h1; cases h1; exact h2 h3)
/-- the texts that Join puts together -/
def joinF : List ITok → Option (List (List UInt8))
  | [] => some []
  | t :: ts => if ts = [] ∧ eofI t then some [] else if goodI t then (joinF ts).map fun l => t.text :: l else none
theorem joinF_eof {t : ITok} (h : eofI t) : joinF [t] = some [] := by simp [joinF, h]
theorem joinF_good {t : ITok} {ts : List ITok} (h1 : ¬ (ts = [] ∧ eofI t)) (h : goodI t) : joinF (t :: ts) = (joinF ts).map fun l => t.text :: l := by rw [joinF, if_neg h1, if_pos h]
theorem joinF_bad {t : ITok} {ts : List ITok} (h1 : ¬ (ts = [] ∧ eofI t)) (h : ¬ goodI t) : joinF (t :: ts) = none := by rw [joinF, if_neg h1, if_neg h]

/-- what Join answers -/
def JoinR (ts : List ITok) (e : Ending) : Prop := (∃ l, joinF ts = some l ∧ e = .returned (.tuple #[.string ⟨(Lib.join l [32]).toArray⟩, .int .i64 0])) ∨ (joinF ts = none ∧ e = .returned (.tuple #[.string ⟨#[]⟩, .int .i64 3]))

theorem info9 : (Tryd.prog.info? 9).map (fun i => (i.zero, i.size, i.bytes)) = some (some (.string ⟨#[]⟩), 1, 16) := by kernel_rfl
/-- the texts so far -/
structure JnI (w : World) (ls : List (List UInt8)) (l : Value) (wr : World) : Prop where
  row : wr.ownsRow 0 9 1 l ls.length (ls.map sb)
  own : ∀ g, l.ownBlock = some g → w.heap.size ≤ g
  up : Upto [] w wr
theorem JnI.ext {w wr wr' : World} {ls : List (List UInt8)} {l : Value} (h : JnI w ls l wr) (hu : Upto [] wr wr') : JnI w ls l wr' := ⟨ownsRow_upto h.row hu (by simp), h.own, h.up.trans_ext hu⟩
theorem JnI.app {w wr wr' : World} {ls : List (List UInt8)} {l : Value} {x : List UInt8} {src : Obj} {n : Nat} {b' : Option Addr} {c' : Nat} (h : JnI w ls l wr) (hn : ls.length = n) (ho : wr'.ownsRow 0 9 1 (.slice b' (n + 1) c') (n + 1) (ls.map sb ++ [sb x])) (hu : Upto l.ownBlock.toList (wr.alloc src) wr') (hw : ∀ g, (Value.slice b' (n + 1) c').ownBlock = some g → l.ownBlock = some g ∨ (wr.alloc src).heap.size ≤ g) :
    JnI w (ls ++ [x]) (.slice b' (n + 1) c') wr' := by
  subst hn
  have h' := h.ext ((Upto.refl [] wr).alloc src)
  refine ⟨?_, fun g hg => (hw g hg).elim (h.own g) (fun h => Nat.le_trans h'.up.size h), h'.up.trans hu (fun k hk => Or.inr (h.own k (Option.mem_toList.1 hk)))⟩
  rw [List.map_append]
  simpa using ho
theorem JnI.app' {w wr wr' : World} {ls : List (List UInt8)} {l : Value} {x : List UInt8} {src : Obj} {n : Nat} {b' : Option Addr} {c' : Nat} (h : JnI w ls l wr) (hn : ls.length = n) (ho : wr'.ownsRow 0 9 1 (.slice b' (n + 1) c') (n + 1) (ls.map sb ++ [sb x])) (hu : Upto l.ownBlock.toList (wr.alloc src) wr') (hw : ∀ g, (Value.slice b' (n + 1) c').ownBlock = some g → l.ownBlock = some g ∨ (wr.alloc src).heap.size ≤ g) :
    JnI w (ls ++ [x]) (.slice b' (n + 1) c') wr' := h.app hn ho hu hw
theorem joinTail_len (l : List (List UInt8)) (m : Nat) (h : ∀ x ∈ l, x.length ≤ m) : (Lib.joinTail [32] l).length ≤ l.length * (m + 1) := by
  induction l with
  | nil => simp [Lib.joinTail]
  | cons a l ih =>
    have h1 := h a (by simp)
    have h2 := ih (fun x hx => h x (by simp [hx]))
    have e : Lib.joinTail [32] (a :: l) = 32 :: (a ++ Lib.joinTail [32] l) := by simp [Lib.joinTail]
    rw [e, List.length_cons, List.length_append, List.length_cons, Nat.add_mul]
    omega
theorem join_len (l : List (List UInt8)) (m : Nat) (h : ∀ x ∈ l, x.length ≤ m) : (Lib.join l [32]).length ≤ l.length * (m + 1) := by
  cases l with
  | nil => simp [Lib.join_nil]
  | cons a l =>
    have h1 := h a (by simp)
    have h2 := joinTail_len l m (fun x hx => h x (by simp [hx]))
    rw [Lib.join_cons, List.length_append, List.length_cons, Nat.add_mul]
    omega
set_option maxRecDepth 100000 in
set_option maxHeartbeats 1600000 in
/-- strings.Join of the texts so far -/
theorem joined_calls {w wr : World} {ls : List (List UInt8)} {l : Value} (h : JnI w ls l wr) (hm : ∀ x ∈ ls, x.length ≤ 100000) (hn : ls.length ≤ 100000) : Calls Tryd.prog 45 #[l, .string ⟨#[32]⟩] wr fun e w' => e = .returned (.string ⟨(Lib.join ls [32]).toArray⟩) ∧ Upto [] wr w' := by
  have hj := join_len ls 100000 hm
  have hj2 : (Lib.join ls [32]).length ≤ 140737488355328 := by
    have : ls.length * (100000 + 1) ≤ 100000 * 100001 := Nat.mul_le_mul_right _ hn
    omega
  obtain ⟨xs, hxs⟩ : ∃ xs : List ByteArray, xs = ls.map fun l => (⟨l.toArray⟩ : ByteArray) := ⟨_, rfl⟩
  have hxl : xs.length = ls.length := by rw [hxs, List.length_map]
  have hxj : xs.map (fun x => x.data.toList) = ls := by rw [hxs, List.map_map]; simp [Function.comp_def]
  have hxc : ∀ (j : Nat) x, xs[j]? = some x → (ls.map sb)[j]? = some (.string x) := by
    intro j x hj
    rw [hxs, List.getElem?_map] at hj
    obtain ⟨y, hy, rfl⟩ := Option.map_eq_some_iff.1 hj
    rw [List.getElem?_map, hy]
    rfl
  rcases h.row.2 with ⟨h1, h2⟩ | ⟨g, cap, cur, he, _, hh, hcap, _, hcs, ht⟩
  · have h0 : ls = [] := by simpa using h2
    subst h0
    rw [h1]
    exact (Tryd.strings_Join_none none 0 ⟨#[32]⟩ wr).mono fun e w' ⟨h3, h4⟩ => ⟨h3, by rw [h4]; exact Upto.refl _ _⟩
  · rw [he, ← hxl]
    by_cases h0 : xs.length = 0
    · have h00 : ls = [] := List.eq_nil_of_length_eq_zero (by omega)
      rw [h0, h00]
      exact (Tryd.strings_Join_none _ _ ⟨#[32]⟩ wr).mono fun e w' ⟨h3, h4⟩ => ⟨h3, by rw [h4]; exact Upto.refl _ _⟩
    · have key := Tryd.strings_Join g 0 cap xs ⟨#[32]⟩ wr (fun j x hj => by
        rw [Nat.zero_add, cell_of hh]
        have h5 := hxc j x hj
        rw [← ht, List.getElem?_take] at h5
        split at h5
        · simpa using h5
        · cases h5) (lt_of_heap hh) (by omega) (by omega) (by rw [hxj]; exact hj2)
      rw [hxj] at key
      exact key.mono fun e w' ⟨h3, h4⟩ => ⟨h3, ext_of h4⟩
end Go.Proofs.YtkhbpebpljdifaaDoor
