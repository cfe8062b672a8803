/- Several pools and references in one memory. -/
import Derived.Test.YtffnkjlobflhcaaDoorKnown
import Derived.Test.YtffnkjlobflhcaaDoorSeen
namespace Go.Proofs.YtffnkjlobflhcaaDoor
open Go.RowKit Go.PL Go.Maps

/-- a reference in a block of its own -/
def RefX (w : World) (m room : Nat) (rs : List ByteArray) (F : List Nat) : Prop :=
  ∃ va vc, F = m :: (Value.slice va rs.length vc).ownBlock.toList ∧ m ∉ (Value.slice va rs.length vc).ownBlock.toList ∧
    w.heap[m]? = some (.cells #[.int .i64 room, .slice va rs.length vc] 38 (0, 0)) ∧ SlC w (.slice va rs.length vc) (rs.map .string) ∧ ∀ g ∈ F, g < w.heap.size

theorem RefX.upto {w w' : World} {m room : Nat} {rs : List ByteArray} {F T : List Nat} (h : RefX w m room rs F) (hu : Upto T w w') (hd : Apart F T) : RefX w' m room rs F := by
  obtain ⟨va, vc, hF, hm, hb, hs, hl⟩ := h
  refine ⟨va, vc, hF, hm, hu.at hb (hd m (by rw [hF]; simp)), hs.upto hu (fun g o n c he _ => ?_), fun g hg => Nat.lt_of_lt_of_le (hl g hg) hu.size⟩
  simp only [Value.slice.injEq] at he
  obtain ⟨rfl, -, -⟩ := he
  exact hd g (by rw [hF]; simp [Value.ownBlock])
theorem RefX.mem {w : World} {m room : Nat} {rs : List ByteArray} {F : List Nat} (h : RefX w m room rs F) : m ∈ F := by
  obtain ⟨va, vc, hF, _⟩ := h
  rw [hF]; simp
theorem RefX.lt {w : World} {m room : Nat} {rs : List ByteArray} {F : List Nat} (h : RefX w m room rs F) : ∀ g ∈ F, g < w.heap.size := by
  obtain ⟨va, vc, _, _, _, _, hl⟩ := h
  exact hl

/-- the reference's block is written -/
theorem RefX.put {wr w' : World} {m room : Nat} {rs rs' : List ByteArray} {va va' : Option Addr} {vc vc' : Nat}
    (hn : m ∉ (Value.slice va rs.length vc).ownBlock.toList) (hb : wr.heap[m]? = some (.cells #[.int .i64 room, .slice va rs.length vc] 38 (0, 0))) (hl : ∀ g ∈ (Value.slice va rs.length vc).ownBlock.toList, g < wr.heap.size)
    (hu : Upto [] wr w') (hv : SlC w' (.slice va' rs'.length vc') (rs'.map .string))
    (hf : ∀ g, (Value.slice va' rs'.length vc').ownBlock = some g → (Value.slice va rs.length vc).ownBlock = some g ∨ wr.heap.size ≤ g ∧ g < w'.heap.size) :
    RefX ((w'.setCell ⟨m, 0, none⟩ (.int .i64 room)).setCell ⟨m, 1, none⟩ (.slice va' rs'.length vc')) m room rs' (m :: (Value.slice va' rs'.length vc').ownBlock.toList) ∧
      Within wr (m :: (Value.slice va rs.length vc).ownBlock.toList) (m :: (Value.slice va' rs'.length vc').ownBlock.toList) ∧
      Upto [m] wr ((w'.setCell ⟨m, 0, none⟩ (.int .i64 room)).setCell ⟨m, 1, none⟩ (.slice va' rs'.length vc')) := by
  have hm := lt_of_heap hb
  have hb' := hu.at hb (by simp)
  have hg : ∀ g, (Value.slice va' rs'.length vc').ownBlock = some g → g ≠ m ∧ g < w'.heap.size := by
    intro g hg
    rcases hf g hg with h1 | h1
    · exact ⟨fun e => hn (by rw [← e]; simp [h1]), Nat.lt_of_lt_of_le (hl g (by simp [h1])) hu.size⟩
    · exact ⟨by omega, h1.2⟩
  have hset : Upto [m] w' ((w'.setCell ⟨m, 0, none⟩ (.int .i64 room)).setCell ⟨m, 1, none⟩ (.slice va' rs'.length vc')) :=
    ((Upto.refl _ _).setCell (Or.inl (by simp)) _).setCell (Or.inl (by simp)) _
  refine ⟨⟨va', vc', rfl, fun h => (hg m (Option.mem_toList.1 h)).1 rfl, ?_, hv.upto hset (fun g o n c hs _ => ?_), fun g h => ?_⟩, fun k hk => ?_, (hu.mono (by simp)).trans_same hset⟩
  · have x1 := set_same (set_same hb' 0 (.int .i64 room)) 1 (.slice va' rs'.length vc')
    simpa using x1
  · simp only [Value.slice.injEq] at hs
    obtain ⟨rfl, -, -⟩ := hs
    have := (hg g (by simp [Value.ownBlock])).1
    simpa using this
  · simp only [List.mem_cons, Option.mem_toList] at h
    have := hu.size
    rcases h with rfl | h
    · simp; omega
    · have := (hg g h).2; simpa using this
  · simp only [List.mem_cons, Option.mem_toList] at hk ⊢
    rcases hk with rfl | hk
    · left; left; rfl
    · rcases hf k hk with h1 | h1
      · left; right; exact h1
      · right; exact h1.1

structure Own1 where
  p : Nat
  room : Nat
  ks : List ByteArray
  S : List Nat

/-- pools ps and references rs, each apart from the others -/
structure St (w wr : World) (ps rs : List Own1) : Prop where
  pool : ∀ a ∈ ps, PoolX wr a.p a.room a.ks a.S
  ref : ∀ b ∈ rs, RefX wr b.p b.room b.ks b.S
  pp : ps.Pairwise (fun a b => Apart a.S b.S)
  pr : ∀ a ∈ ps, ∀ b ∈ rs, Apart a.S b.S
  rr : rs.Pairwise (fun a b => a.p ∉ b.S ∧ b.p ∉ a.S)
  newp : ∀ a ∈ ps, Within w [] a.S
  newr : ∀ a ∈ rs, Within w [] a.S
  up : Upto [] w wr

section
variable {w wr w' : World} {ps rs : List Own1} {a b : Own1}
theorem St.ext (h : St w wr ps rs) (hu : Upto [] wr w') : St w w' ps rs :=
  ⟨fun a ha => (h.pool a ha).upto hu (by simp), fun b hb => (h.ref b hb).upto hu (by simp [Apart]), h.pp, h.pr, h.rr, h.newp, h.newr, h.up.trans_ext hu⟩
theorem St.perm {ps' rs' : List Own1} (h : St w wr ps rs) (hp : ps.Perm ps') (hr : rs.Perm rs') : St w wr ps' rs' :=
  ⟨fun a ha => h.pool a (hp.mem_iff.2 ha), fun a ha => h.ref a (hr.mem_iff.2 ha), h.pp.perm hp (fun h => h.symm), fun a ha b hb => h.pr a (hp.mem_iff.2 ha) b (hr.mem_iff.2 hb), h.rr.perm hr (fun h => h.symm),
    fun a ha => h.newp a (hp.mem_iff.2 ha), fun a ha => h.newr a (hr.mem_iff.2 ha), h.up⟩
theorem St.lt (h : St w wr ps rs) : (∀ a ∈ ps, ∀ k ∈ a.S, k < wr.heap.size) ∧ ∀ a ∈ rs, ∀ k ∈ a.S, k < wr.heap.size :=
  ⟨fun a ha => (h.pool a ha).lt, fun a ha => (h.ref a ha).lt⟩
/-- the first pool is written -/
theorem St.intern {us' : List ByteArray} {S' : List Nat} (h : St w wr (a :: ps) rs) (hp : PoolX w' a.p a.room us' S') (hw : Within wr a.S S') (hu : Upto a.S wr w') : St w w' (⟨a.p, a.room, us', S'⟩ :: ps) rs := by
  obtain ⟨hlp, hlr⟩ := h.lt
  have hpp := List.pairwise_cons.1 h.pp
  refine ⟨fun b hb => ?_, fun b hb => (h.ref b hb).upto hu (h.pr a (by simp) b hb).symm, List.pairwise_cons.2 ⟨fun b hb => (hpp.1 b hb).step hw (hlp b (by simp [hb])), hpp.2⟩, fun b hb c hc => ?_, h.rr, fun b hb => ?_, h.newr, h.up.trans hu (h.newp a (by simp))⟩
  · rcases List.mem_cons.1 hb with rfl | hb
    · exact hp
    · exact (h.pool b (by simp [hb])).upto hu (hpp.1 b hb).symm
  · rcases List.mem_cons.1 hb with rfl | hb
    · exact (h.pr a (by simp) c hc).step hw (hlr c hc)
    · exact h.pr b (by simp [hb]) c hc
  · rcases List.mem_cons.1 hb with rfl | hb
    · exact Within.next (h.newp a (by simp)) hw h.up.size
    · exact h.newp b (by simp [hb])
/-- the first reference is written -/
theorem St.put {us' : List ByteArray} {F' : List Nat} (h : St w wr ps (b :: rs)) (hp : RefX w' b.p b.room us' F') (hw : Within wr b.S F') (hu : Upto [b.p] wr w') : St w w' ps (⟨b.p, b.room, us', F'⟩ :: rs) := by
  obtain ⟨hlp, hlr⟩ := h.lt
  have hrr := List.pairwise_cons.1 h.rr
  have hmem := (h.ref b (by simp)).mem
  refine ⟨fun a ha => (h.pool a ha).upto hu (fun k hk hm => ?_), fun c hc => ?_, h.pp, fun a ha c hc => ?_, List.pairwise_cons.2 ⟨fun c hc => ⟨(hrr.1 c hc).1, fun hm => ?_⟩, hrr.2⟩, h.newp, fun c hc => ?_, h.up.trans hu (fun k hk => ?_)⟩
  · simp at hm; subst hm; exact h.pr a ha b (by simp) _ hk hmem
  · rcases List.mem_cons.1 hc with rfl | hc
    · exact hp
    · exact (h.ref c (by simp [hc])).upto hu (fun k hk hm => by simp at hm; subst hm; exact (hrr.1 c hc).1 hk)
  · rcases List.mem_cons.1 hc with rfl | hc
    · exact ((h.pr a ha b (by simp)).symm.step hw (hlp a ha)).symm
    · exact h.pr a ha c (by simp [hc])
  · rcases hw _ hm with h1 | h1
    · exact (hrr.1 c hc).2 h1
    · have := hlr c (by simp [hc]) c.p (h.ref c (by simp [hc])).mem
      omega
  · rcases List.mem_cons.1 hc with rfl | hc
    · exact Within.next (h.newr b (by simp)) hw h.up.size
    · exact h.newr c (by simp [hc])
  · simp at hk; subst hk; exact h.newr b (by simp) _ hmem
/-- a new pool -/
theorem St.addPool {p room : Nat} {us : List ByteArray} {S : List Nat} (h : St w wr ps rs) (hp : PoolX w' p room us S) (hw : Within wr [] S) (hu : Upto [] wr w') : St w w' (⟨p, room, us, S⟩ :: ps) rs := by
  obtain ⟨hlp, hlr⟩ := h.lt
  have hS : ∀ k ∈ S, wr.heap.size ≤ k := fun k hk => by simpa using hw k hk
  have k := h.ext hu
  have hz := h.up.size
  refine ⟨fun a ha => ?_, k.ref, List.pairwise_cons.2 ⟨fun a ha x hx hx' => ?_, h.pp⟩, fun a ha c hc => ?_, h.rr, fun a ha => ?_, h.newr, k.up⟩
  · rcases List.mem_cons.1 ha with rfl | ha
    · exact hp
    · exact k.pool a ha
  · have := hlp a ha x hx'; have := hS x hx; omega
  · rcases List.mem_cons.1 ha with rfl | ha
    · exact fun x hx hx' => by have := hlr c hc x hx'; have := hS x hx; omega
    · exact h.pr a ha c hc
  · rcases List.mem_cons.1 ha with rfl | ha
    · exact fun x hx => Or.inr (by have := hS x hx; omega)
    · exact h.newp a ha
/-- a new reference; its slice may lie where another's lies -/
theorem St.addRef {p room : Nat} {us : List ByteArray} {F : List Nat} (h : St w wr ps rs) (hp : RefX w' p room us F) (hu : Upto [] wr w') (hn : wr.heap.size ≤ p) (hF : ∀ k ∈ F, wr.heap.size ≤ k ∨ (∀ b ∈ rs, b.p ≠ k) ∧ ∃ b ∈ rs, k ∈ b.S) :
    St w w' ps (⟨p, room, us, F⟩ :: rs) := by
  obtain ⟨hlp, hlr⟩ := h.lt
  have k := h.ext hu
  have hz := h.up.size
  refine ⟨k.pool, fun c hc => ?_, h.pp, fun a ha c hc => ?_, List.pairwise_cons.2 ⟨fun c hc => ⟨fun hm => ?_, fun hm => ?_⟩, h.rr⟩, h.newp, fun c hc => ?_, k.up⟩
  · rcases List.mem_cons.1 hc with rfl | hc
    · exact hp
    · exact k.ref c hc
  · rcases List.mem_cons.1 hc with rfl | hc
    · intro x hx hx'
      rcases hF x hx' with h1 | ⟨-, b, hb, h2⟩
      · have := hlp a ha x hx; omega
      · exact h.pr a ha b hb x hx h2
    · exact h.pr a ha c hc
  · have := hlr c hc p hm; omega
  · rcases hF _ hm with h1 | ⟨h1, -⟩
    · have := hlr c hc c.p (h.ref c hc).mem; omega
    · exact h1 c hc rfl
  · rcases List.mem_cons.1 hc with rfl | hc
    · intro x hx
      right
      rcases hF x hx with h1 | ⟨-, b, hb, h2⟩
      · omega
      · simpa using h.newr b hb x h2
    · exact h.newr c hc
theorem St.nil (w : World) : St w w [] [] := ⟨by simp, by simp, by simp, by simp, by simp, by simp, by simp, Upto.refl _ _⟩
end
end Go.Proofs.YtffnkjlobflhcaaDoor
