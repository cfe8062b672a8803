/- InternSlices: what stands between two rounds. -/
import Derived.Test.YtffnkjlobflhcaaDoorSlices2
import Derived.Test.YtffnkjlobflhcaaDoorWordW
import Derived.Test.YtffnkjlobflhcaaDoorSt
import Derived.Test.YtffnkjlobflhcaaDoorFew
import Derived.Deep.RegionHeld3
import Derived.Deep.RegionLaw
import Derived.Deep.LoopGhost
namespace Go.Proofs.YtffnkjlobflhcaaDoor
open Go.RowKit Go.PL Go.Maps

/-- a pool of slices and a reference, apart -/
structure SId (w : World) (room l mb : Nat) (xs : List (List Int)) (S E F : List Nat) (wr : World) : Prop where
  pool : SlX wr l room xs S E
  ref : RefX wr mb room (xs.map wordB) F
  sf : Apart S F
  ef : Apart E F
  newS : Within w [] S
  newE : Within w [] E
  newF : Within w [] F
  up : Upto [] w wr
def SIdX (w : World) (room l mb : Nat) (xs : List (List Int)) (wr : World) : Prop := ∃ S E F, SId w room l mb xs S E F wr

section
variable {w wr w' : World} {room l mb : Nat} {xs xs' : List (List Int)} {S E F : List Nat}
theorem SId.ext (h : SId w room l mb xs S E F wr) (hu : Upto [] wr w') : SId w room l mb xs S E F w' :=
  ⟨h.pool.upto hu (by simp) (by simp), h.ref.upto hu (by simp [Apart]), h.sf, h.ef, h.newS, h.newE, h.newF, h.up.trans_ext hu⟩
/-- both are written -/
theorem SId.both {S' E' F' : List Nat} {w1 w2 : World} (h : SId w room l mb xs S E F wr) (hr : RefX w1 mb room (xs'.map wordB) F') (hw : Within wr F F') (hu : Upto [mb] wr w1)
    (hp : SlX w2 l room xs' S' E') (hs : Within w1 S S') (he : Within w1 E E') (hu2 : Upto S w1 w2) : SId w room l mb xs' S' E' F' w2 := by
  have hlS := h.pool.lt.1
  have hlE := h.pool.lt.2
  have a1 : Apart F' S := h.sf.symm.step hw hlS
  have a2 : Apart F' E := h.ef.symm.step hw hlE
  have hlF := hr.lt
  have hz := h.up.size
  have hz1 := hu.size
  refine ⟨hp, hr.upto hu2 a1, a1.symm.step hs hlF, a2.symm.step he hlF, Within.next h.newS hs (by omega), Within.next h.newE he (by omega), Within.next h.newF hw hz, ?_⟩
  exact (h.up.trans hu (fun k hk => by simp at hk; subst hk; exact h.newF _ h.ref.mem)).trans hu2 h.newS
theorem SId.poolAfter {w1 : World} (h : SId w room l mb xs S E F wr) (hu : Upto [mb] wr w1) : SlX w1 l room xs S E :=
  h.pool.upto hu (fun k hk hm => by simp at hm; subst hm; exact h.sf _ hk h.ref.mem) (fun k hk hm => by simp at hm; subst hm; exact h.ef _ hk h.ref.mem)
end

/-- the reference's next value in a block of its own, wherever it was laid -/
structure RefNx (wr : World) (own : Option Nat) (room nb : Nat) (rs' : List ByteArray) (va' : Option Addr) (vc' : Nat) (w4 : World) : Prop where
  blk : w4.heap[nb]? = some (.cells #[.int .i64 room, .slice va' rs'.length vc'] 38 (0, 0))
  up : Upto [] wr w4
  sl : SlC w4 (.slice va' rs'.length vc') (rs'.map .string)
  fr : ∀ g, (Value.slice va' rs'.length vc').ownBlock = some g → own = some g ∨ wr.heap.size ≤ g ∧ g < w4.heap.size
theorem refNxA {wr w3 : World} {own : Option Nat} {room : Nat} {rs' : List ByteArray} {va' : Option Addr} {vc' m : Nat} (hw3 : Upto [] wr w3) (hv3 : SlC w3 (.slice va' rs'.length vc') (rs'.map .string))
    (hf3 : ∀ g, (Value.slice va' rs'.length vc').ownBlock = some g → own = some g ∨ m ≤ g ∧ g < w3.heap.size) (hm : wr.heap.size ≤ m) :
    RefNx wr own room w3.heap.size rs' va' vc' (w3.alloc (.cells #[.int .i64 room, .slice va' rs'.length vc'] 38)) :=
  ⟨new_at _ _, hw3.alloc _, hv3.ext ((Upto.refl _ _).alloc _), fun g hg => (hf3 g hg).imp id (fun h => ⟨by omega, by simp; omega⟩)⟩
theorem refNxB {wr w3 : World} {own : Option Nat} {room nb : Nat} {rs' : List ByteArray} {va' : Option Addr} {vc' m : Nat} {x y : Value} (n0 : w3.heap[nb]? = some (.cells #[x, y] 38 (0, 0))) (hnb : wr.heap.size ≤ nb) (hw3 : Upto [] wr w3) (hv3 : SlC w3 (.slice va' rs'.length vc') (rs'.map .string))
    (hf3 : ∀ g, (Value.slice va' rs'.length vc').ownBlock = some g → own = some g ∨ m ≤ g ∧ g < w3.heap.size) (hm : nb < m) (ho : ∀ g, own = some g → g < wr.heap.size) :
    RefNx wr own room nb rs' va' vc' ((w3.setCell ⟨nb, 0, none⟩ (.int .i64 room)).setCell ⟨nb, 1, none⟩ (.slice va' rs'.length vc')) := by
  have x1 := set_same (set_same n0 0 (.int .i64 room)) 1 (.slice va' rs'.length vc')
  simp at x1
  refine ⟨x1, (hw3.setCell (Or.inr hnb) _).setCell (Or.inr hnb) _, hv3.upto (((Upto.refl [nb] w3).setCell (Or.inl (by simp)) _).setCell (Or.inl (by simp)) _) (fun g o n c hs _ => ?_), fun g hg => (hf3 g hg).imp id (fun h => ⟨by omega, by simpa using h.2⟩)⟩
  simp only [Value.slice.injEq] at hs
  obtain ⟨rfl, -, rfl⟩ := hs
  simp
  rcases hf3 g (by simp [Value.ownBlock]) with h1 | h1
  · have := ho g h1; omega
  · omega

/-- an argument's element cut to twenty -/
theorem slc_take {w : World} {a : Option Addr} {c : Nat} {ns : List Int} (h : SlC w (.slice a ns.length c) (ns.map iv)) (k : Nat) (hk : k ≤ ns.length) : SlC w (.slice a (ns.take k).length c) ((ns.take k).map iv) := by
  rcases h with ⟨h0, a', c', hs⟩ | ⟨g, o, c', hs, hc⟩
  · simp only [List.map_eq_nil_iff] at h0
    subst h0
    exact Or.inl ⟨by simp, a, c, by simp⟩
  · simp only [Value.slice.injEq] at hs
    obtain ⟨rfl, -, rfl⟩ := hs
    refine Or.inr ⟨g, o, c, by simp, fun j u hj => ?_⟩
    apply hc
    simp only [List.map_take, List.getElem?_take] at hj
    split at hj
    · exact hj
    · cases hj
theorem slc_lt {w : World} {a : Option Addr} {n c : Nat} {xs : List Value} (h : SlC w (.slice a n c) xs) (hn : xs ≠ []) : ∀ ad, a = some ad → ad.block < w.heap.size := by
  rintro ad rfl
  rcases h with ⟨h0, _⟩ | ⟨g, o, c', hs, hc⟩
  · exact absurd h0 hn
  · simp only [Value.slice.injEq, Option.some.injEq] at hs
    obtain ⟨rfl, -, -⟩ := hs
    cases xs with
    | nil => exact absurd rfl hn
    | cons x xs => exact World.block_lt_of_cell? w _ (hc 0 x (by simp))

theorem word_apart {xs : List (List Int)} {x : List Int} (hxs : ∀ y ∈ xs, ∀ n ∈ y, I64 n) (hx : ∀ n ∈ x, I64 n) : ∀ y ∈ xs, wordB y = wordB x → y = x := fun y hy h =>
  wordL_inj (hxs y hy) hx (by
    have := congrArg (fun s : ByteArray => s.data.toList) h
    simpa [wordB] using this)
theorem SlX.nums {w : World} {l room : Nat} {xs : List (List Int)} {S E : List Nat} (h : SlX w l room xs S E) : (∀ x ∈ xs, (∀ n ∈ x, I64 n) ∧ x.length ≤ 1048576) ∧ xs.length ≤ room := by
  obtain ⟨p, lv, SP, ls, h⟩ := h
  refine ⟨h.nums, ?_⟩
  obtain ⟨_, _, hp⟩ := h.pool
  have := hp.le
  simpa using this
theorem sinternF_len {xs : List (List Int)} {x : List Int} {room : Nat} : (sinternF room xs x).1.length ≤ xs.length + 1 := by
  unfold sinternF
  split
  · simp
  · split <;> simp
end Go.Proofs.YtffnkjlobflhcaaDoor
