/- Texts merged, in build order: Ck, Zs, Zo, Zq, Fm40, Ze, Za, Zf, Fl. -/
import Derived.Test.YtkhbpebpljdifaaGreatDoorMFog
namespace Go.Proofs.YtkhbpebpljdifaaGreatDoor
open Go.PL
def varsE (nm : List UInt8 → Bool) : List (List UInt8 × Int) → List (List UInt8) → Nat
  | [], _ => 0
  | v :: r, seen => if nm v.1 = false then 3 else if (decide (v.2 < 0) || decide (3 < v.2)) = true then 2 else if seen.contains v.1 = true then 7 else varsE nm r (seen ++ [v.1])
def rightF (nm : List UInt8 → Bool) (q : Qn) : Nat :=
  if 8 < q.free.length then 8 else if varsE nm q.free [] ≠ 0 then varsE nm q.free [] else checkF nm q.body
theorem varsE_ok {nm : List UInt8 → Bool} (hnm : ∀ x, nm x = true → Real 1 x 0) : ∀ (f : List (List UInt8 × Int)) (seen : List (List UInt8)), varsE nm f seen = 0 → (∀ v ∈ f, Real 1 v.1 0 ∧ 0 ≤ v.2 ∧ v.2 < 4) ∧ (∀ v ∈ f, v.1 ∉ seen) ∧ f.Pairwise fun a b => a.1 ≠ b.1
  | [], seen, _ => ⟨by simp, by simp, List.Pairwise.nil⟩
  | v :: r, seen, h => by
    unfold varsE at h
    by_cases h1 : nm v.1 = false
    · rw [if_pos h1] at h; cases h
    rw [if_neg h1] at h
    by_cases h2 : (decide (v.2 < 0) || decide (3 < v.2)) = true
    · rw [if_pos h2] at h; cases h
    rw [if_neg h2] at h
    by_cases h3 : seen.contains v.1 = true
    · rw [if_pos h3] at h; cases h
    rw [if_neg h3] at h
    obtain ⟨k1, k2, k3⟩ := varsE_ok hnm r _ h
    simp only [Bool.or_eq_true, decide_eq_true_eq, not_or] at h2
    have hs : v.1 ∉ seen := by simpa using h3
    refine ⟨?_, ?_, List.Pairwise.cons (fun b hb he => ?_) k3⟩
    · intro u hu
      rcases List.mem_cons.1 hu with rfl | hu
      · exact ⟨hnm _ (by simpa using h1), by omega, by omega⟩
      · exact k1 u hu
    · intro u hu
      rcases List.mem_cons.1 hu with rfl | hu
      · exact hs
      · exact fun hm => k2 u hu (by simp [hm])
    · exact k2 b hb (by simp [he])
theorem right_ok {nm : List UInt8 → Bool} (hnm : ∀ x, nm x = true → Real 1 x 0) {q : Qn} (h : rightF nm q = 0) : okV q.free ∧ okF q.body ∧ greatF q.body = 0 := by
  unfold rightF at h
  by_cases h1 : 8 < q.free.length
  · rw [if_pos h1] at h; cases h
  rw [if_neg h1] at h
  by_cases h2 : varsE nm q.free [] ≠ 0
  · rw [if_pos h2] at h; exact absurd h h2
  rw [if_neg h2] at h
  unfold checkF at h
  by_cases h3 : formF nm q.body ≠ 0
  · rw [if_pos h3] at h; exact absurd h h3
  rw [if_neg h3] at h
  obtain ⟨k1, -, k3⟩ := varsE_ok hnm _ _ (Decidable.not_not.1 h2)
  exact ⟨⟨by omega, k1, k3⟩, form_ok hnm _ _ (Nat.le_refl _) (Decidable.not_not.1 h3), h⟩
end Go.Proofs.YtkhbpebpljdifaaGreatDoor
namespace Go.Proofs.YtkhbpebpljdifaaGreatDoor
open Go.RowKit Go.PL Go.Maps
set_option maxRecDepth 100000 in
set_option maxHeartbeats 1600000 in
theorem sname_calls (s : Int) (w : World) (hs : SEnv w) : Calls Tryz.prog 37 #[.int .i64 s] w fun e w' => e = .returned (.string ⟨(sortW s).toArray⟩) ∧ Upto [] w w' := by
  have HU := Lib.hid (Upto.refl [] w)
  by_cases h0 : s < 0
  · have e : sortW s = [] := by unfold sortW; rw [if_neg (by omega), if_neg (by omega), if_neg (by omega), if_neg (by omega)]
    rw [e]
    clear e hs
    go_enter Tryz.func37, Tryz.ntmps37
    go_wp2_with fail
    go_ret
    exact ⟨rfl, HU.out⟩
  by_cases h1 : (4 : Int) ≤ s
  · have e : sortW s = [] := by unfold sortW; rw [if_neg (by omega), if_neg (by omega), if_neg (by omega), if_neg (by omega)]
    rw [e]
    clear e hs
    go_enter Tryz.func37, Tryz.ntmps37
    go_wp2_with fail
    go_ret
    exact ⟨rfl, HU.out⟩
  have hc : s = 0 ∨ s = 1 ∨ s = 2 ∨ s = 3 := by omega
  have c0 := hs.c0
  have c1 := hs.c1
  have c2 := hs.c2
  have c3 := hs.c3
  clear hs h0 h1
  rcases hc with rfl | rfl | rfl | rfl
  · go_enter Tryz.func37, Tryz.ntmps37
    go_wp2_with fail
    go_ret
    exact ⟨rfl, HU.out⟩
  · go_enter Tryz.func37, Tryz.ntmps37
    go_wp2_with fail
    go_ret
    exact ⟨rfl, HU.out⟩
  · go_enter Tryz.func37, Tryz.ntmps37
    go_wp2_with fail
    go_ret
    exact ⟨rfl, HU.out⟩
  · go_enter Tryz.func37, Tryz.ntmps37
    go_wp2_with fail
    go_ret
    exact ⟨rfl, HU.out⟩
theorem vars_get {w : World} {P : Nat → Prop} {v : Value} {f : List (List UInt8 × Int)} (h : VarsV w P v f) : ∃ a c, v = .slice a f.length c ∧ ∀ i x, f[i]? = some x → ∃ g o, a = some ⟨g, o, none⟩ ∧ w.cell? ⟨g, o + i * 2, none⟩ = some (.string ⟨x.1.toArray⟩) ∧ w.cell? ⟨g, o + i * 2 + 1, none⟩ = some (.int .i64 x.2) := by
  obtain ⟨a, c, rfl, hg⟩ := SlP.get h
  refine ⟨a, c, rfl, fun i x hi => ?_⟩
  obtain ⟨g, o, rfl, h1⟩ := hg _ _ (vars_at hi).1
  obtain ⟨g2, o2, e, h2⟩ := hg _ _ (vars_at hi).2
  simp at e
  obtain ⟨rfl, rfl⟩ := e
  exact ⟨g, o, rfl, h1, h2⟩
theorem vars_slice {w : World} {P : Nat → Prop} {a : Option Addr} {n c : Nat} {f : List (List UInt8 × Int)} (h : VarsV w P (.slice a n c) f) : ∀ i x, f[i]? = some x → ∃ g o, a = some ⟨g, o, none⟩ ∧ w.cell? ⟨g, o + i * 2, none⟩ = some (.string ⟨x.1.toArray⟩) ∧ w.cell? ⟨g, o + i * 2 + 1, none⟩ = some (.int .i64 x.2) := by
  obtain ⟨a', c', e, hg⟩ := vars_get h
  cases e
  exact hg
theorem right_vars {nm : List UInt8 → Bool} {q : Qn} {k : Nat} (h8 : ¬ 8 < q.free.length) (h0 : k ≠ 0) (h : varsE nm q.free [] = k) : rightF nm q = k := by
  unfold rightF
  rw [if_neg h8, h, if_pos h0]
theorem right_body {nm : List UInt8 → Bool} {q : Qn} (h8 : ¬ 8 < q.free.length) (h : varsE nm q.free [] = 0) : rightF nm q = checkF nm q.body := by
  unfold rightF
  rw [if_neg h8, h]
  rfl
structure OfRow (w0 w : World) (B : Nat) (c : Nat → Nat → Value) (v : Value) (ms : List Nd) : Prop where
  row : w.ownsRow 0 34 6 v ms.length (cellsN c ms.length)
  nd : ∀ i m, ms[i]? = some m → NdV w (Lr w0 B v) m (.agg #[c i 0, c i 1, c i 2, c i 3, c i 4, c i 5])
  own : ∀ g, v.ownBlock = some g → w0.heap.size ≤ g ∧ g ≠ B
theorem OfRow.upto {w0 w w' : World} {S : List Nat} {B : Nat} {c : Nat → Nat → Value} {v : Value} {ms : List Nd} (h : OfRow w0 w B c v ms) (hu : Upto S w w') (hS : ∀ k ∈ S, k < w0.heap.size ∨ k = B) : OfRow w0 w' B c v ms :=
  ⟨ownsRow_upto h.row hu (fun g hg hm => by have h1 := h.own g hg; rcases hS g hm with h2 | h2 <;> omega),
   fun i m hi => (h.nd i m hi).upto hu (fun b hb _ hm => by have h1 := hb.1; unfold New at h1; rcases hS b hm with h2 | h2; omega; exact hb.2.1 h2), h.own⟩
theorem OfRow.app {w0 w w5 : World} {B : Nat} {c : Nat → Nat → Value} {v : Value} {ms : List Nd} {m : Nd} {v0 v1 v2 v3 v4 v5 : Value} {b' : Option Addr} {c' : Nat} (h : OfRow w0 w B c v ms) (hsz : w0.heap.size ≤ w.heap.size) (hBw : B < w.heap.size)
    (hm : NdV w (Lr w0 B v) m (.agg #[v0, v1, v2, v3, v4, v5])) (ho : w5.ownsRow 0 34 6 (.slice b' (ms.length + 1) c') (ms.length + 1) (cellsN c ms.length ++ [v0, v1, v2, v3, v4, v5])) (hu : Upto v.ownBlock.toList w w5)
    (hw : ∀ g, (Value.slice b' (ms.length + 1) c').ownBlock = some g → v.ownBlock = some g ∨ w.heap.size ≤ g) : OfRow w0 w5 B (addC c ms.length v0 v1 v2 v3 v4 v5) (.slice b' (ms.length + 1) c') (ms ++ [m]) := by
  have key : ∀ x u, NdV w (Lr w0 B v) x u → NdV w5 (Lr w0 B (.slice b' (ms.length + 1) c')) x u := fun x u hx =>
    NdV.keep ⟨hu.size, fun b hb hl => ⟨⟨hb.1, hb.2.1, fun e => by
      rcases hw b e with h1 | h1
      · exact hb.2.2 h1
      · have := hl.lt; omega⟩, hu.block b hl.lt (fun hmm => hb.2.2 (Option.mem_toList.1 hmm))⟩⟩ x u hx
  refine ⟨?_, ?_, ?_⟩
  · rw [List.length_append, List.length_singleton, cellsN_add]
    exact ho
  · intro i x hi
    by_cases hlt : i < ms.length
    · rw [List.getElem?_append_left hlt] at hi
      have := key _ _ (h.nd i x hi)
      simpa [addC, Nat.ne_of_lt hlt] using this
    · rw [List.getElem?_append_right (by omega)] at hi
      cases hd : i - ms.length with
      | zero =>
        rw [hd] at hi
        simp at hi
        subst hi
        have : i = ms.length := by omega
        subst this
        simpa [addC] using key _ _ hm
      | succ z => rw [hd] at hi; simp at hi
  · intro g hg
    rcases hw g hg with h1 | h1
    · exact h.own g h1
    · exact ⟨by omega, by omega⟩
theorem OfRow.list {w0 w : World} {B : Nat} {c : Nat → Nat → Value} {v : Value} {ms : List Nd} {Q : Nat → Prop} (h : OfRow w0 w B c v ms) (h1 : ∀ b, Lr w0 B v b → Q b) (h2 : ∀ g, v.ownBlock = some g → Q g) : (ms = [] ∧ ∃ a c, v = .slice a 0 c) ∨ ∃ g o c, v = .slice (some ⟨g, o, none⟩) ms.length c ∧ (Q g ∧ IsC w g) ∧ NdsV w Q g o ms := by
  rcases h.row.2 with ⟨e, h0⟩ | ⟨g, cap, cur, e, _, hh, _, _, _, ht⟩
  · exact Or.inl ⟨List.eq_nil_of_length_eq_zero h0, none, 0, e⟩
  · refine Or.inr ⟨g, 0, cap, e, ⟨h2 g (by rw [e]; rfl), _, _, _, hh⟩, nds_of ms 0 fun i x hi => ?_⟩
    have hil : i < ms.length := (List.getElem?_eq_some_iff.1 hi).1
    have cl : ∀ j, j < 6 → w.cell? ⟨g, 0 + i * 6 + j, none⟩ = some (c i j) := fun j hj => by
      rw [cell_of hh]
      have := cellsN_at c hil hj
      rw [← ht, List.getElem?_take] at this
      split at this
      · simpa using this
      · cases this
    exact ⟨_, _, _, _, _, _, cl 0 (by omega), cl 1 (by omega), cl 2 (by omega), cl 3 (by omega), cl 4 (by omega), cl 5 (by omega), (h.nd i x hi).mono fun b hb _ => h1 b hb⟩
theorem infoV (T : TypeId) (h : (Tryz.prog.info? T).map (fun i => (i.zero, i.size, i.bytes)) = some (some (.agg #[.string ⟨#[]⟩, .int .i64 0]), 2, 24)) : ∃ i, Tryz.prog.info? T = some i ∧ i.zero = some (.agg #[.string ⟨#[]⟩, .int .i64 0]) ∧ i.size = 2 ∧ i.bytes = 24 := by
  cases hi : Tryz.prog.info? T with
  | none => rw [hi] at h; cases h
  | some i =>
    rw [hi] at h
    simp only [Option.map_some, Option.some.injEq, Prod.mk.injEq] at h
    exact ⟨i, rfl, h.1, h.2.1, h.2.2⟩
theorem infoV91 : ∃ i, Tryz.prog.info? 91 = some i ∧ i.zero = some (.agg #[.string ⟨#[]⟩, .int .i64 0]) ∧ i.size = 2 ∧ i.bytes = 24 := infoV 91 (by kernel_rfl)
def QuPost (w : World) (q : Qn) (e : Ending) (w' : World) : Prop := ∃ v, e = .returned v ∧ QnV w' (New w) q v ∧ Upto [] w w'
structure QbI (w4 : World) (bn : Nat) (x1 x2 x3 x4 x5 x6 : Value) (T EL : TypeId) (f : List (List UInt8 × Int)) (j : Nat) (wr : World) : Prop where
  up : Upto [bn] w4 wr
  st : ∃ (va : Option Addr) (vn vc : Nat), wr.heap[bn]? = some (.cells #[.slice va vn vc, x1, x2, x3, x4, x5, x6] T (0, 0)) ∧ wr.ownsRow 0 EL 2 (.slice va vn vc) j ((f.take j).flatMap varC) ∧ ∀ g, (Value.slice va vn vc).ownBlock = some g → w4.heap.size ≤ g
theorem qb_step {w4 wr w10 w5 : World} {bn : Nat} {x1 x2 x3 x4 x5 x6 : Value} {T EL : TypeId} {f : List (List UInt8 × Int)} {j : Nat} {va : Option Addr} {vn vc : Nat} {x : List UInt8 × Int} {b5 : Option Addr} {c5 : Nat}
    (HU : Upto [bn] w4 wr) (hlt : bn < w4.heap.size) (hbk : wr.heap[bn]? = some (.cells #[.slice va vn vc, x1, x2, x3, x4, x5, x6] T (0, 0))) (hown : ∀ g, (Value.slice va vn vc).ownBlock = some g → w4.heap.size ≤ g)
    (hu : Upto [] wr w10) (htk : f.take (j + 1) = f.take j ++ [x]) (ho5 : w5.ownsRow 0 EL 2 (.slice b5 (j + 1) c5) (j + 1) ((f.take j).flatMap varC ++ [.string ⟨x.1.toArray⟩, .int .i64 x.2])) (hu5 : Upto (Value.slice va vn vc).ownBlock.toList w10 w5)
    (hw5 : ∀ g, (Value.slice b5 (j + 1) c5).ownBlock = some g → (Value.slice va vn vc).ownBlock = some g ∨ w10.heap.size ≤ g) :
    w5.heap[bn]? = some (.cells #[.slice va vn vc, x1, x2, x3, x4, x5, x6] T (0, 0)) ∧ QbI w4 bn x1 x2 x3 x4 x5 x6 T EL f (j + 1) (w5.setCell ⟨bn, 0, none⟩ (.slice b5 (j + 1) c5)) := by
  have hb5 := hu5.at (hu.at hbk (by simp)) (fun hm => by have := hown _ (Option.mem_toList.1 hm); omega)
  have hst : Upto [bn] w5 (w5.setCell ⟨bn, 0, none⟩ (.slice b5 (j + 1) c5)) := (Upto.refl [bn] w5).setCell (p := ⟨bn, 0, none⟩) (Or.inl (by simp)) _
  have h1 := HU.size
  have h2 := hu.size
  have hnew : ∀ g, (Value.slice b5 (j + 1) c5).ownBlock = some g → w4.heap.size ≤ g := fun g hg => by
    rcases hw5 g hg with h | h
    · exact hown g h
    · omega
  refine ⟨hb5, ?_, b5, j + 1, c5, ?_, ?_, hnew⟩
  · exact ((HU.trans_ext hu).trans hu5 (fun k hk => Or.inr (hown k (Option.mem_toList.1 hk)))).setCell (p := ⟨bn, 0, none⟩) (Or.inl (by simp)) _
  · simpa using set_same hb5 0 (.slice b5 (j + 1) c5)
  · rw [htk, List.flatMap_append]
    exact ownsRow_upto ho5 hst (fun g hg => by have := hnew g hg; simp; omega)
theorem set7_up {S : List Nat} {a w : World} {R : Nat} (h : Upto S a w) (hR : R ∈ S ∨ a.heap.size ≤ R) (v0 v1 v2 v3 v4 v5 v6 : Value) : Upto S a (((((((w.setCell ⟨R, 0, none⟩ v0).setCell ⟨R, 1, none⟩ v1).setCell ⟨R, 2, none⟩ v2).setCell ⟨R, 3, none⟩ v3).setCell ⟨R, 4, none⟩ v4).setCell ⟨R, 5, none⟩ v5).setCell ⟨R, 6, none⟩ v6) :=
  ((((((h.setCell (p := ⟨R, 0, none⟩) hR v0).setCell (p := ⟨R, 1, none⟩) hR v1).setCell (p := ⟨R, 2, none⟩) hR v2).setCell (p := ⟨R, 3, none⟩) hR v3).setCell (p := ⟨R, 4, none⟩) hR v4).setCell (p := ⟨R, 5, none⟩) hR v5).setCell (p := ⟨R, 6, none⟩) hR v6
theorem set7_at {w : World} {R : Nat} {a0 a1 a2 a3 a4 a5 a6 : Value} {T : TypeId} {z : Nat × Nat} (h : w.heap[R]? = some (.cells #[a0, a1, a2, a3, a4, a5, a6] T z)) (v0 v1 v2 v3 v4 v5 v6 : Value) : (((((((w.setCell ⟨R, 0, none⟩ v0).setCell ⟨R, 1, none⟩ v1).setCell ⟨R, 2, none⟩ v2).setCell ⟨R, 3, none⟩ v3).setCell ⟨R, 4, none⟩ v4).setCell ⟨R, 5, none⟩ v5).setCell ⟨R, 6, none⟩ v6).heap[R]? = some (.cells #[v0, v1, v2, v3, v4, v5, v6] T z) := by
  have := set_same (set_same (set_same (set_same (set_same (set_same (set_same h 0 v0) 1 v1) 2 v2) 3 v3) 4 v4) 5 v5) 6 v6
  simpa using this
theorem qb_end {w W2 w3 w4 wr : World} {bn R : Nat} {x1 x2 x3 x4 x5 x6 : Value} {EL : TypeId} {q : Qn} {va : Option Addr} {vn vc : Nat} (hW : Upto [] w W2) (hR : w.heap.size ≤ R ∧ R < W2.heap.size) (h3 : Upto [] W2 w3) (hb : bn = w3.heap.size) (h4 : Upto [] w3 w4) (HU : Upto [bn] w4 wr) (hlt : bn < w4.heap.size)
    (hn : NdV w3 (New W2) q.body (.agg #[x1, x2, x3, x4, x5, x6])) (hrow : wr.ownsRow 0 EL 2 (.slice va vn vc) q.free.length (q.free.flatMap varC)) (hown : ∀ g, (Value.slice va vn vc).ownBlock = some g → w4.heap.size ≤ g) :
    QuPost w q (.returned (.agg #[.slice va vn vc, x1, x2, x3, x4, x5, x6])) (((((((wr.setCell ⟨R, 0, none⟩ (.slice va vn vc)).setCell ⟨R, 1, none⟩ x1).setCell ⟨R, 2, none⟩ x2).setCell ⟨R, 3, none⟩ x3).setCell ⟨R, 4, none⟩ x4).setCell ⟨R, 5, none⟩ x5).setCell ⟨R, 6, none⟩ x6) := by
  have hst := set7_up (R := R) (Upto.refl [R] wr) (Or.inl (by simp)) (.slice va vn vc) x1 x2 x3 x4 x5 x6
  have s1 := hW.size
  have s2 := h3.size
  have s3 := h4.size
  have hold : Upto [] w wr := ((hW.trans_ext h3).trans_ext h4).trans HU (fun k hk => by simp at hk; subst hk; right; omega)
  refine ⟨_, rfl, ⟨_, _, _, _, _, _, _, rfl, ?_, ?_⟩, set7_up hold (Or.inr hR.1) ..⟩
  · exact SlP.upto (slP_rowN (P := fun g => w4.heap.size ≤ g) hrow hown) hst (fun b hb2 _ => by simp; omega) |>.mono (fun b hb2 _ => by unfold New; omega)
  · have k1 := hn.mono (Q := fun b => W2.heap.size ≤ b ∧ b < bn) (fun b hb2 hi => ⟨hb2, by have := hi.lt; omega⟩)
    have k2 := (k1.ext h4).upto HU (fun b hb2 _ => by have := hb2.2; simp; omega)
    exact (k2.upto hst (fun b hb2 _ => by have := hb2.1; simp; omega)).mono (fun b hb2 _ => by have := hb2.1; unfold New; omega)
set_option maxRecDepth 100000 in
set_option maxHeartbeats 6400000 in
theorem backq_calls (q : Qn) (v : Value) (w : World) (P : Nat → Prop) (h : QnV w P q v) (hk : sizeF q.body ≤ 10000000) (hb : bigN q.body) (hl : q.free.length ≤ 10000000) : Calls Tryz.prog 40 #[v] w (QuPost w q) := by
  obtain ⟨f1, f3, o1, a1, a2, a3, s1, n1, m1, l1, l2, l3, rfl, hv, hn⟩ := h.open
  have hu2 : Upto [] w ((w.alloc (.cells #[.slice f1 q.free.length f3, .int .i64 o1, .slice a1 a2 a3, .int .i64 s1, .int .i64 n1, .int .i64 m1, .slice l1 l2 l3] 48)).alloc (.cells #[.slice none 0 0, .int .i64 0, .slice none 0 0, .int .i64 0, .int .i64 0, .int .i64 0, .slice none 0 0] 45)) := ((Upto.refl [] w).alloc _).alloc _
  have HU2 := Lib.hid hu2
  have hb1 := alloc_old (new_at w (.cells #[.slice f1 q.free.length f3, .int .i64 o1, .slice a1 a2 a3, .int .i64 s1, .int .i64 n1, .int .i64 m1, .slice l1 l2 l3] 48)) (.cells #[.slice none 0 0, .int .i64 0, .slice none 0 0, .int .i64 0, .int .i64 0, .int .i64 0, .slice none 0 0] 45)
  have hb2 := new_at1 w (.cells #[.slice f1 q.free.length f3, .int .i64 o1, .slice a1 a2 a3, .int .i64 s1, .int .i64 n1, .int .i64 m1, .slice l1 l2 l3] 48) (.cells #[.slice none 0 0, .int .i64 0, .slice none 0 0, .int .i64 0, .int .i64 0, .int .i64 0, .slice none 0 0] 45)
  have HB1 := Lib.hid hb1
  have HB2 := Lib.hid hb2
  have HG := Lib.hid (vars_slice hv)
  have HC := Lib.hid (back_calls _ q.body (Nat.le_refl _) hk hb P _ _ (hn.ext hu2))
  obtain ⟨xa0, xa1, xa2, xa3, xa4, xa5, xa6⟩ := cells7 hb1
  obtain ⟨ya0, ya1, ya2, ya3, ya4, ya5, ya6⟩ := frees7 hb2
  have hL0 : (0 : Int) ≤ q.free.length := by omega
  have hL1 : (q.free.length : Int) ≤ 10000000 := by omega
  clear h hv hn hb hu2 hb1 hb2 hk
  go_enter Tryz.func40, Tryz.ntmps40
  go_wp2_with fail
  refine HC.out.mono ?_
  rintro e w3 ⟨v3, rfl, hn3, hu3⟩
  obtain ⟨ro, rn1, rn2, rn3, rs, rm, rq, rl1, rl2, rl3, rfl⟩ := hn3.six
  have HN3 := Lib.hid hn3
  have HU3 := Lib.hid hu3
  have hua : Upto [] w3 (w3.alloc (.cells #[.slice none 0 0, .int .i64 ro, .slice rn1 rn2 rn3, .int .i64 rs, .int .i64 rm, .int .i64 rq, .slice rl1 rl2 rl3] 45)) := (Upto.refl [] w3).alloc _
  have HUA := Lib.hid hua
  have hbn := new_at w3 (.cells #[.slice none 0 0, .int .i64 ro, .slice rn1 rn2 rn3, .int .i64 rs, .int .i64 rm, .int .i64 rq, .slice rl1 rl2 rl3] 45)
  have HI0 : Hid (QbI (w3.alloc (.cells #[.slice none 0 0, .int .i64 ro, .slice rn1 rn2 rn3, .int .i64 rs, .int .i64 rm, .int .i64 rq, .slice rl1 rl2 rl3] 45)) w3.heap.size (.int .i64 ro) (.slice rn1 rn2 rn3) (.int .i64 rs) (.int .i64 rm) (.int .i64 rq) (.slice rl1 rl2 rl3) 45 91 q.free 0 (w3.alloc (.cells #[.slice none 0 0, .int .i64 ro, .slice rn1 rn2 rn3, .int .i64 rs, .int .i64 rm, .int .i64 rq, .slice rl1 rl2 rl3] 45))) := Lib.hid ⟨Upto.refl _ _, none, 0, 0, hbn, by simpa using World.ownsRow_nil _ 0 91 2, by intro g hg; cases hg⟩
  have HLT : Hid (w3.heap.size < (w3.alloc (.cells #[.slice none 0 0, .int .i64 ro, .slice rn1 rn2 rn3, .int .i64 rs, .int .i64 rm, .int .i64 rq, .slice rl1 rl2 rl3] 45)).heap.size) := Lib.hid (by simp)
  have HQ4 := Lib.hid (hua.at (hu3.at HB1.out (by simp)) (by simp))
  have HR4 := Lib.hid (hua.at (hu3.at HB2.out (by simp)) (by simp))
  have HWS : Hid (w.heap.size + 1 < w3.heap.size) := Lib.hid (lt_of_heap (hu3.at HB2.out (by simp)))
  have HW4 := Lib.hid ((HU2.out.trans_ext hu3).trans_ext hua)
  clear hn3 hu3 hua hbn
  go_wp2_with fail
  generalize hw4 : w3.alloc (.cells #[.slice none 0 0, .int .i64 ro, .slice rn1 rn2 rn3, .int .i64 rs, .int .i64 rm, .int .i64 rq, .slice rl1 rl2 rl3] 45) = w4 at *
  obtain ⟨bn, hbn, HBN⟩ : ∃ bn, bn = w3.heap.size ∧ Hid (bn = w3.heap.size) := ⟨_, rfl, Lib.hid rfl⟩
  rw [← hbn] at HI0 HLT ⊢
  clear hw4 hbn
  go_loopw [4] (fun v wr => ∃ j : Nat, j ≤ q.free.length ∧ v = .int .i64 j ∧ Hid (QbI w4 bn (.int .i64 ro) (.slice rn1 rn2 rn3) (.int .i64 rs) (.int .i64 rm) (.int .i64 rq) (.slice rl1 rl2 rl3) 45 91 q.free j wr)) (fun v _ => q.free.length - (intOf v).toNat)
  case atStart => exact ⟨0, by omega, rfl, HI0⟩
  case round =>
    obtain ⟨j, hj, rfl, HI⟩ := hrel
    have hj0 : (0 : Int) ≤ j := by omega
    obtain ⟨va, vn, vc, hbk, hrow, hown⟩ := HI.out.st
    obtain ⟨va', vc', hve, -⟩ := ownsRow_len hrow
    simp only [Value.slice.injEq] at hve
    obtain rfl : vn = j := hve.2.1
    clear hve
    have hq := HI.out.up.at HQ4.out (by have h1 := HBN.out; have h2 := HWS.out; simp; omega)
    have HWR : Hid (Upto [] w wr) := Lib.hid (HW4.out.trans HI.out.up (fun k hk => by have h1 := HBN.out; have h2 := HWS.out; simp at hk; subst hk; right; omega))
    have z0 := cell_of hq 0
    have y0 := cell_of hbk 0
    have g0 := free_of hbk 0
    simp only [List.getElem?_toArray, List.getElem?_cons_zero] at z0 y0
    rcases Nat.lt_or_ge vn q.free.length with hlt | hge
    · have hltI : (vn : Int) < q.free.length := by omega
      obtain ⟨x, hx⟩ : ∃ x, q.free[vn]? = some x := ⟨_, List.getElem?_eq_getElem hlt⟩
      have HTK : Hid (q.free.take (vn + 1) = q.free.take vn ++ [x]) := Lib.hid (by rw [List.take_add_one, hx]; rfl)
      obtain ⟨g, o, rfl, c0, c1⟩ := HG.out vn x hx
      obtain ⟨x1, x2⟩ := x
      simp only at c0 c1
      replace c0 := up_cell HWR.out c0
      replace c1 := up_cell HWR.out c1
      have HROW := Lib.hid hrow
      have HBK := Lib.hid hbk
      have HOWN := Lib.hid hown
      clear hrow hbk hown hq hx
      go_wp2_with fail
      have e0 : ∀ u : Ext wr, u.w.cell? ⟨bn, 0, none⟩ = some (.slice va vn vc) := fun u => u.cell y0
      have e1 : ∀ u : Ext wr, u.w.cell? ⟨w.heap.size, 0, none⟩ = some _ := fun u => u.cell z0
      have k0 : ∀ u : Ext wr, u.w.cell? ⟨g, o + vn * 2, none⟩ = some _ := fun u => u.cell c0
      have k1 : ∀ u : Ext wr, u.w.cell? ⟨g, o + vn * 2 + 1, none⟩ = some _ := fun u => u.cell c1
      clear z0 y0 g0 c0 c1
      refine wp_region_seg_at [15] [] [0, 1, 2, 3, 4, 5, 6, 7, 8, 9, 10, 11, 12, 13, 14, 15] [16, 17, 18] 16 (by kernel_rfl) (by kernel_rfl) (by kernel_rfl) ?_
      iterate 15 (refine seg_plain rfl rfl rfl rfl rfl ?_; intro K' hK'; go_big_quiet_op; go_big_quiet_on)
      refine seg_opq (Y := Nat) (fun b => .slice (some ⟨b, 0, none⟩) 1 1) (fun b u => u.heap[b]? = some (.cells #[.string ⟨x1.toArray⟩, .int .i64 x2] 91 (0, 0))) (fun _ => []) rfl rfl rfl rfl (fun _ _ _ h hu => hu.at h (by simp)) (fun _ => List.nodup_nil) (fun w' post hu hd hp => (congrArg (opqUpon Tryz.prog post) (show _ = Result.ok (Next.value (.slice (some ⟨w'.heap.size, 0, none⟩) 1 1)) (w'.alloc (.cells #[.string ⟨x1.toArray⟩, .int .i64 x2] 91)) from by go_simp)).mpr (hp w'.heap.size _ ((Upto.refl [] w').alloc _) (new_at _ _) (fun b hb => by cases hb))) ?_
      intro b8
      simp only [Act.put, List.setIfInBounds_toArray, List.set_cons_zero, List.set_cons_succ]
      intro w10 hg
      have HU10 := Lib.hid hg.up
      have HB8 : Hid (w10.heap[b8]? = some (.cells #[.string ⟨x1.toArray⟩, .int .i64 x2] 91 (0, 0))) := Lib.hid hg.hold.1
      simp only [List.drop_succ_cons, List.drop_zero]
      clear hg e0 e1 k0 k1
      have HRR := Lib.hid (ownsRow_upto HROW.out HU10.out (by simp))
      obtain ⟨i1, hi1, hy0, hy1, hy2⟩ := infoV91
      have HA := Lib.hid (fun b5 c5 w5 (ho5 : w5.ownsRow 0 91 2 (.slice b5 (vn + 1) c5) (vn + 1) ((q.free.take vn).flatMap varC ++ [.string ⟨x1.toArray⟩, .int .i64 x2])) (hu5 : Upto (Value.slice va vn vc).ownBlock.toList w10 w5) (hw5 : ∀ g, (Value.slice b5 (vn + 1) c5).ownBlock = some g → (Value.slice va vn vc).ownBlock = some g ∨ w10.heap.size ≤ g) => qb_step (x := (x1, x2)) HI.out.up HLT.out HBK.out HOWN.out HU10.out HTK.out ho5 hu5 hw5)
      go_wp2_with (at_builtin
                   refine wpList_app _ rfl (.tmp 17) (.tmp 31) 43 rfl 91 i1 (.agg #[.string ⟨#[]⟩, .int .i64 0]) 2 24 Tryz.underlying43 hi1 hy0 hy1 hy2 rfl (by decide) (.slice va vn vc) vn ((q.free.take vn).flatMap varC) rfl HRR.out ⟨b8, 0, none⟩ 1 1 [.string ⟨x1.toArray⟩, .int .i64 x2] rfl rfl (two_at HB8.out) (by simp [Value.oneCell']) (by unfold maxLen; omega) (by omega) ?_
                   intro b5 c5 w5 ho5 hu5 hw5
                   obtain ⟨hbk5, hI5⟩ := HA.out b5 c5 w5 ho5 hu5 hw5
                   have y5 := cell_of hbk5 0
                   have g5 := free_of hbk5 0
                   simp only [List.getElem?_toArray, List.getElem?_cons_zero] at y5
                   have HI5 := Lib.hid hI5
                   clear ho5 hu5 hw5 hbk5 hI5)
      go_roundw
      case rel => exact ⟨vn + 1, by omega, by go_num, HI5⟩
      case measure => simp [intOf]; omega
    · have hgeI : ¬ (vn : Int) < q.free.length := by omega
      have HROW := Lib.hid hrow
      have HOWN := Lib.hid hown
      have hr := HI.out.up.at HR4.out (by have h1 := HBN.out; have h2 := HWS.out; simp; omega)
      obtain ⟨pa0, pa1, pa2, pa3, pa4, pa5, pa6⟩ := cells7 hbk
      obtain ⟨pf0, pf1, pf2, pf3, pf4, pf5, pf6⟩ := frees7 hbk
      obtain ⟨ra0, ra1, ra2, ra3, ra4, ra5, ra6⟩ := cells7 hr
      obtain ⟨rf0, rf1, rf2, rf3, rf4, rf5, rf6⟩ := frees7 hr
      have HEND := Lib.hid (qb_end (q := q) (R := w.heap.size + 1) HU2.out ⟨by omega, by simp⟩ HU3.out HBN.out HUA.out HI.out.up HLT.out HN3.out (by have := HROW.out; rw [List.take_of_length_le (by omega)] at this; rwa [show vn = q.free.length by omega] at this ⊢) HOWN.out)
      have HR := Lib.hid hr
      clear hrow hown hbk hq hr
      go_wp2_with fail
      have hst := set7_at HR.out (.slice va vn vc) (.int .i64 ro) (.slice rn1 rn2 rn3) (.int .i64 rs) (.int .i64 rm) (.int .i64 rq) (.slice rl1 rl2 rl3)
      obtain ⟨q0, q1, q2, q3, q4, q5, q6⟩ := cells7 hst
      exact bodyPost_ret (v := .agg #[.slice va vn vc, .int .i64 ro, .slice rn1 rn2 rn3, .int .i64 rs, .int .i64 rm, .int .i64 rq, .slice rl1 rl2 rl3]) (by simp [results, Tryz.results40, go_sem, q0, q1, q2, q3, q4, q5, q6]) rfl HEND.out
mutual
def sameF : Nd → Nd → Bool
  | .mk op xs so n m l, .mk op' xs' so' n' m' l' => decide (op = op') && decide (so = so') && decide (n = n') && decide (m = m') && decide (xs = xs') && samesF l l'
def samesF : List Nd → List Nd → Bool
  | [], [] => true
  | x :: r, y :: t => sameF x y && samesF r t
  | [], _ :: _ => false
  | _ :: _, [] => false
end
mutual
theorem sameF_eq : ∀ (a b : Nd), sameF a b = true ↔ a = b
  | .mk op xs so n m l, .mk op' xs' so' n' m' l' => by
    unfold sameF
    simp only [Bool.and_eq_true, decide_eq_true_eq, samesF_eq l l', Nd.mk.injEq]
    constructor
    · rintro ⟨⟨⟨⟨⟨h1, h2⟩, h3⟩, h4⟩, h5⟩, h6⟩; exact ⟨h1, h5, h2, h3, h4, h6⟩
    · rintro ⟨h1, h5, h2, h3, h4, h6⟩; exact ⟨⟨⟨⟨⟨h1, h2⟩, h3⟩, h4⟩, h5⟩, h6⟩
theorem samesF_eq : ∀ (a b : List Nd), samesF a b = true ↔ a = b
  | [], [] => by simp [samesF]
  | x :: r, y :: t => by
    unfold samesF
    simp only [Bool.and_eq_true, sameF_eq x y, samesF_eq r t, List.cons.injEq]
  | [], _ :: _ => by simp [samesF]
  | _ :: _, [] => by simp [samesF]
end
mutual
def hugeN : Nd → Prop
  | .mk _ names _ _ _ l => names.length ≤ 281474976710656 ∧ l.length ≤ 281474976710656 ∧ hugesN l
def hugesN : List Nd → Prop
  | [] => True
  | x :: xs => hugeN x ∧ hugesN xs
end
theorem huges_mem : ∀ {l : List Nd} {x : Nd}, hugesN l → x ∈ l → hugeN x
  | a :: l, x, h, hx => by
    unfold hugesN at h
    rcases List.mem_cons.1 hx with rfl | hx
    · exact h.1
    · exact huges_mem h.2 hx
theorem len_size : ∀ (l : List Nd), l.length ≤ sizesF l
  | [] => by simp
  | x :: l => by have := len_size l; have := sizeF_pos x; simp only [sizesF, List.length_cons]; omega
mutual
theorem huge_of : ∀ (n : Nd), sizeF n ≤ 10000000 → bigN n → hugeN n
  | .mk _ names _ _ _ l, hs, hb => by
    unfold bigN at hb
    unfold hugeN
    simp only [sizeF] at hs
    have := len_size l
    exact ⟨by omega, by omega, huges_of l (by omega) hb.2⟩
theorem huges_of : ∀ (l : List Nd), sizesF l ≤ 10000000 → bigsN l → hugesN l
  | [], _, _ => by unfold hugesN; trivial
  | x :: l, hs, hb => by
    unfold bigsN at hb
    unfold hugesN
    simp only [sizesF] at hs
    exact ⟨huge_of x (by omega) hb.1, huges_of l (by omega) hb.2⟩
end
theorem nd_open {w : World} {P : Nat → Prop} {op so n m : Int} {xs : List (List UInt8)} {ls : List Nd} {v : Value} (h : NdV w P (.mk op xs so n m ls) v) : ∃ na nc la lc, v = .agg #[.int .i64 op, .slice na xs.length nc, .int .i64 so, .int .i64 n, .int .i64 m, .slice la ls.length lc] ∧
    (∀ i x, xs[i]? = some x → ∃ g o, na = some ⟨g, o, none⟩ ∧ w.cell? ⟨g, o + i, none⟩ = some (.string ⟨x.toArray⟩)) ∧
    (∀ i x, ls[i]? = some x → ∃ g o v0 v1 v2 v3 v4 v5, la = some ⟨g, o, none⟩ ∧ w.cell? ⟨g, o + i * 6, none⟩ = some v0 ∧ w.cell? ⟨g, o + i * 6 + 1, none⟩ = some v1 ∧ w.cell? ⟨g, o + i * 6 + 2, none⟩ = some v2 ∧ w.cell? ⟨g, o + i * 6 + 3, none⟩ = some v3 ∧ w.cell? ⟨g, o + i * 6 + 4, none⟩ = some v4 ∧ w.cell? ⟨g, o + i * 6 + 5, none⟩ = some v5 ∧ NdV w P x (.agg #[v0, v1, v2, v3, v4, v5])) := by
  unfold NdV at h
  obtain ⟨vn, vl, rfl, hs, hl⟩ := h
  obtain ⟨na, nc, rfl, hg⟩ := hs.get
  have hg' : ∀ i x, xs[i]? = some x → ∃ g o, na = some ⟨g, o, none⟩ ∧ w.cell? ⟨g, o + i, none⟩ = some (.string ⟨x.toArray⟩) := fun i x hi => hg i _ (by rw [List.getElem?_map, hi]; rfl)
  rcases hl with ⟨rfl, a, c, rfl⟩ | ⟨g, o, c, rfl, -, hd⟩
  · exact ⟨na, nc, a, c, rfl, hg', fun i x hi => by simp at hi⟩
  · refine ⟨na, nc, _, c, rfl, hg', fun i x hi => ?_⟩
    obtain ⟨v0, v1, v2, v3, v4, v5, c0, c1, c2, c3, c4, c5, hn⟩ := NdsV.get ls o i x hd hi
    exact ⟨g, o, v0, v1, v2, v3, v4, v5, rfl, c0, c1, c2, c3, c4, c5, hn⟩
theorem sizes_memb {x : Nd} : ∀ {l : List Nd}, x ∈ l → sizeF x ≤ sizesF l
  | a :: l, h => by
    simp only [sizesF]
    rcases List.mem_cons.1 h with rfl | h
    · omega
    · have := sizes_memb h; omega
theorem six_form {w : World} {P : Nat → Prop} {x : Nd} {v0 v1 v2 v3 v4 v5 : Value} (h : NdV w P x (.agg #[v0, v1, v2, v3, v4, v5])) : ∃ (op : Int) (a1 : Option Addr) (n1 c1 : Nat) (so n m : Int) (a2 : Option Addr) (n2 c2 : Nat), v0 = .int .i64 op ∧ v1 = .slice a1 n1 c1 ∧ v2 = .int .i64 so ∧ v3 = .int .i64 n ∧ v4 = .int .i64 m ∧ v5 = .slice a2 n2 c2 := by
  obtain ⟨op, a1, n1, c1, so, n, m, a2, n2, c2, e⟩ := h.six
  simp only [Value.agg.injEq, Array.mk.injEq, List.cons.injEq, and_true] at e
  exact ⟨op, a1, n1, c1, so, n, m, a2, n2, c2, e.1, e.2.1, e.2.2.1, e.2.2.2.1, e.2.2.2.2.1, e.2.2.2.2.2⟩
set_option maxRecDepth 100000 in
set_option maxHeartbeats 12800000 in
theorem same_calls : ∀ (k : Nat) (a : Nd), sizeF a ≤ k → hugeN a → ∀ (b : Nd) (P P' : Nat → Prop) (v v' : Value) (w : World), NdV w P a v → NdV w P' b v' → Calls Tryz.prog 23 #[v, v'] w fun e w' => e = .returned (.bool (sameF a b)) ∧ Upto [] w w'
  | 0, a, hn, _ => by have := sizeF_pos a; omega
  | k + 1, .mk op xs so n m ls, hn, hh => by
    intro b P P' v v' w h h'
    obtain ⟨op', xs', so', n', m', ls'⟩ := b
    obtain ⟨na, nc, la, lc, rfl, hgn, hgl⟩ := nd_open h
    obtain ⟨na', nc', la', lc', rfl, hgn', hgl'⟩ := nd_open h'
    clear h h'
    unfold hugeN at hh
    obtain ⟨hx48, hl48, hhs⟩ := hh
    simp only [sizeF] at hn
    have HIH : Hid (∀ (x : Nd), x ∈ ls → ∀ (b : Nd) (P P' : Nat → Prop) (v v' : Value) (w : World), NdV w P x v → NdV w P' b v' → Calls Tryz.prog 23 #[v, v'] w fun e w' => e = .returned (.bool (sameF x b)) ∧ Upto [] w w') := Lib.hid (fun x hx => same_calls k x (by have := sizes_memb hx; omega) (huges_mem hhs hx))
    clear hn hhs
    have hu2 : Upto [] w ((w.alloc (.cells #[.int .i64 op, .slice na xs.length nc, .int .i64 so, .int .i64 n, .int .i64 m, .slice la ls.length lc] 25)).alloc (.cells #[.int .i64 op', .slice na' xs'.length nc', .int .i64 so', .int .i64 n', .int .i64 m', .slice la' ls'.length lc'] 25)) := ((Upto.refl [] w).alloc _).alloc _
    have hb1 := alloc_old (new_at w (.cells #[.int .i64 op, .slice na xs.length nc, .int .i64 so, .int .i64 n, .int .i64 m, .slice la ls.length lc] 25)) (.cells #[.int .i64 op', .slice na' xs'.length nc', .int .i64 so', .int .i64 n', .int .i64 m', .slice la' ls'.length lc'] 25)
    have hb2 := new_at1 w (.cells #[.int .i64 op, .slice na xs.length nc, .int .i64 so, .int .i64 n, .int .i64 m, .slice la ls.length lc] 25) (.cells #[.int .i64 op', .slice na' xs'.length nc', .int .i64 so', .int .i64 n', .int .i64 m', .slice la' ls'.length lc'] 25)
    have HU2 := Lib.hid hu2
    have HB1 := Lib.hid hb1
    have HB2 := Lib.hid hb2
    have HN := Lib.hid hgn
    have HN' := Lib.hid hgn'
    have HL := Lib.hid hgl
    have HL' := Lib.hid hgl'
    obtain ⟨xa0, xa1, xa2, xa3, xa4, xa5⟩ := cells6 hb1
    obtain ⟨xb0, xb1, xb2, xb3, xb4, xb5⟩ := cells6 hb2
    have n0 : (0 : Int) ≤ xs.length := by omega
    have n1 : (xs.length : Int) ≤ 281474976710656 := by omega
    have l0 : (0 : Int) ≤ ls.length := by omega
    have l1 : (ls.length : Int) ≤ 281474976710656 := by omega
    clear hu2 hb1 hb2 hgn hgn' hgl hgl'
    by_cases e0 : ¬ (op = op')
    · have HF : Hid (sameF (.mk op xs so n m ls) (.mk op' xs' so' n' m' ls') = false) := Lib.hid (by unfold sameF; simp [e0])
      have q1 : (op == op') = false := by rw [beq_eq_false_iff_ne]; exact e0
      have q2 : (op != op') = true := by rw [bne, q1]; rfl
      clear e0
      go_enter Tryz.func23, Tryz.ntmps23
      go_wp2_with fail
      go_ret
      rw [HF.out]
      exact ⟨rfl, HU2.out⟩
    have e0 := Decidable.not_not.1 e0
    subst e0
    by_cases e1 : ¬ (so = so')
    · have HF : Hid (sameF (.mk op xs so n m ls) (.mk op xs' so' n' m' ls') = false) := Lib.hid (by unfold sameF; simp [e1])
      have q1 : (so == so') = false := by rw [beq_eq_false_iff_ne]; exact e1
      have q2 : (so != so') = true := by rw [bne, q1]; rfl
      clear e1
      go_enter Tryz.func23, Tryz.ntmps23
      go_wp2_with fail
      go_ret
      rw [HF.out]
      exact ⟨rfl, HU2.out⟩
    have e1 := Decidable.not_not.1 e1
    subst e1
    by_cases e2 : ¬ (n = n')
    · have HF : Hid (sameF (.mk op xs so n m ls) (.mk op xs' so n' m' ls') = false) := Lib.hid (by unfold sameF; simp [e2])
      have q1 : (n == n') = false := by rw [beq_eq_false_iff_ne]; exact e2
      have q2 : (n != n') = true := by rw [bne, q1]; rfl
      clear e2
      go_enter Tryz.func23, Tryz.ntmps23
      go_wp2_with fail
      go_ret
      rw [HF.out]
      exact ⟨rfl, HU2.out⟩
    have e2 := Decidable.not_not.1 e2
    subst e2
    by_cases e3 : ¬ (m = m')
    · have HF : Hid (sameF (.mk op xs so n m ls) (.mk op xs' so n m' ls') = false) := Lib.hid (by unfold sameF; simp [e3])
      have q1 : (m == m') = false := by rw [beq_eq_false_iff_ne]; exact e3
      have q2 : (m != m') = true := by rw [bne, q1]; rfl
      clear e3
      go_enter Tryz.func23, Tryz.ntmps23
      go_wp2_with fail
      go_ret
      rw [HF.out]
      exact ⟨rfl, HU2.out⟩
    have e3 := Decidable.not_not.1 e3
    subst e3
    by_cases e4 : ¬ (xs.length = xs'.length)
    · have HF : Hid (sameF (.mk op xs so n m ls) (.mk op xs' so n m ls') = false) := Lib.hid (by
        unfold sameF
        have : xs ≠ xs' := fun h => e4 (by rw [h])
        simp [this])
      have q1 : ((xs.length : Int) == (xs'.length : Int)) = false := by rw [beq_eq_false_iff_ne]; omega
      have q2 : ((xs.length : Int) != (xs'.length : Int)) = true := by rw [bne, q1]; rfl
      clear e4
      go_enter Tryz.func23, Tryz.ntmps23
      go_wp2_with fail
      go_ret
      rw [HF.out]
      exact ⟨rfl, HU2.out⟩
    have e4 := Decidable.not_not.1 e4
    by_cases e5 : ¬ (ls.length = ls'.length)
    · have HF : Hid (sameF (.mk op xs so n m ls) (.mk op xs' so n m ls') = false) := Lib.hid (by
        unfold sameF
        have : samesF ls ls' = false := by
          rw [Bool.eq_false_iff]
          intro h
          rw [samesF_eq] at h
          exact e5 (by rw [h])
        simp [this])
      have q0 : ((xs.length : Int) != (xs'.length : Int)) = false := by rw [e4]; simp
      have q1 : ((ls.length : Int) == (ls'.length : Int)) = false := by rw [beq_eq_false_iff_ne]; omega
      have q2 : ((ls.length : Int) != (ls'.length : Int)) = true := by rw [bne, q1]; rfl
      clear e4 e5
      go_enter Tryz.func23, Tryz.ntmps23
      go_wp2_with fail
      go_ret
      rw [HF.out]
      exact ⟨rfl, HU2.out⟩
    have e5 := Decidable.not_not.1 e5
    have q0 : ((xs.length : Int) != (xs'.length : Int)) = false := by rw [e4]; simp
    have q00 : ((ls.length : Int) != (ls'.length : Int)) = false := by rw [e5]; simp
    have E4 := Lib.hid e4
    have E5 := Lib.hid e5
    clear e4 e5
    go_enter Tryz.func23, Tryz.ntmps23
    go_wp2_with fail
    generalize hW2 : (w.alloc (.cells #[.int .i64 op, .slice na xs.length nc, .int .i64 so, .int .i64 n, .int .i64 m, .slice la ls.length lc] 25)).alloc (.cells #[.int .i64 op, .slice na' xs'.length nc', .int .i64 so, .int .i64 n, .int .i64 m, .slice la' ls'.length lc'] 25) = W2 at *
    clear hW2
    go_loopw [5] (fun t5 wr => ∃ j : Nat, j ≤ xs.length ∧ t5 = .int .i64 j ∧ Hid (∀ i, i < j → xs[i]? = xs'[i]?) ∧ Hid (Upto [] W2 wr)) (fun t5 _ => xs.length - (intOf t5).toNat)
    case atStart => exact ⟨0, by omega, rfl, Lib.hid (fun i hi => by omega), Lib.hid (Upto.refl _ _)⟩
    case round =>
      obtain ⟨j, hj, rfl, HE, HU⟩ := hrel
      have hj0 : (0 : Int) ≤ j := by omega
      have h1 := HU.out.at HB1.out (by simp)
      have h2 := HU.out.at HB2.out (by simp)
      have hd := (Upto.refl [] wr).drew
      have h3 := hd.at h1 (by simp)
      have h4 := hd.at h2 (by simp)
      have y1 := cell_of h1 1
      have y2 := cell_of h2 1
      have y3 := cell_of h3 1
      have y4 := cell_of h4 1
      have z1 := cell_of h1 5
      have z2 := cell_of h2 5
      simp only [List.getElem?_toArray, List.getElem?_cons_zero, List.getElem?_cons_succ] at y1 y2 y3 y4 z1 z2
      rcases Nat.lt_or_ge j xs.length with hlt | hge
      · have hltI : (j : Int) < xs.length := by omega
        have hltJ : (j : Int) < xs'.length := by have := E4.out; omega
        obtain ⟨x, hx⟩ : ∃ x, xs[j]? = some x := ⟨_, List.getElem?_eq_getElem hlt⟩
        obtain ⟨y, hy⟩ : ∃ y, xs'[j]? = some y := ⟨_, List.getElem?_eq_getElem (by have := E4.out; omega)⟩
        obtain ⟨g, og, rfl, c0⟩ := HN.out j x hx
        obtain ⟨g', og', rfl, c1⟩ := HN'.out j y hy
        have hw := HU2.out.trans_ext HU.out
        replace c0 := up_cell hw c0
        replace c1 := up_cell hw c1
        have d0 := (hd.cell (p := ⟨g, og + j, none⟩) (World.block_lt_of_cell? wr _ c0) (by simp)).trans c0
        have d1 := (hd.cell (p := ⟨g', og' + j, none⟩) (World.block_lt_of_cell? wr _ c1) (by simp)).trans c1
        have HD := Lib.hid (HU.out.trans_ext hd)
        by_cases hxy : x = y
        · subst hxy
          have HE2 : Hid (∀ i, i < j + 1 → xs[i]? = xs'[i]?) := Lib.hid (fun i hi => by
            by_cases hij : i = j
            · subst hij; rw [hx, hy]
            · exact HE.out i (by omega))
          clear hx hy hd h1 h2 h3 h4 HE hw
          go_wp2_with fail
          go_region
          all_goals (
            go_wp2_with fail
            go_roundw
            case rel => exact ⟨j + 1, by omega, by go_num, HE2, HD⟩
            case measure => simp [intOf]; omega)
        · have HF : Hid (sameF (.mk op xs so n m ls) (.mk op xs' so n m ls') = false) := Lib.hid (by
            unfold sameF
            have : xs ≠ xs' := fun h => by
              rw [h, hy] at hx
              exact hxy (Option.some.inj hx).symm
            simp [this])
          have q1 : (x == y) = false := by simpa using hxy
          have q2 : (x != y) = true := by rw [bne, q1]; rfl
          have HW := Lib.hid (HU2.out.trans_ext HD.out)
          clear hx hy hd h1 h2 h3 h4 HE hw hxy
          go_wp2_with fail
          go_region
          all_goals (
            go_wp2_with fail
            go_ret
            rw [HF.out]
            exact ⟨rfl, HW.out⟩)
      · have hgeI : ¬ (j : Int) < xs.length := by omega
        obtain rfl : xs = xs' := by
          apply List.ext_getElem?
          intro i
          by_cases hi : i < j
          · exact HE.out i hi
          · rw [List.getElem?_eq_none (by omega), List.getElem?_eq_none (by have := E4.out; omega)]
        have HUA := Lib.hid (HU2.out.trans_ext HU.out)
        have HA1 := Lib.hid h1
        have HA2 := Lib.hid h2
        clear hd h1 h2 h3 h4 y3 y4 HE HU HB1 HB2
        go_wp2_with fail
        go_loopw [6] (fun t6 wx => ∃ i : Nat, i ≤ ls.length ∧ t6 = .int .i64 i ∧ Hid (∀ q x y, q < i → ls[q]? = some x → ls'[q]? = some y → x = y) ∧ Hid (Upto [] wr wx)) (fun t6 _ => ls.length - (intOf t6).toNat)
        case atStart => exact ⟨0, by omega, rfl, Lib.hid (fun q x y hq => by omega), Lib.hid (Upto.refl _ _)⟩
        case round =>
          clear y1 y2 z1 z2
          obtain ⟨i, hi, rfl, HE, HU⟩ := hrel
          have hi0 : (0 : Int) ≤ i := by omega
          have h1 := HU.out.at HA1.out (by simp)
          have h2 := HU.out.at HA2.out (by simp)
          have z1 := cell_of h1 5
          have z2 := cell_of h2 5
          simp only [List.getElem?_toArray, List.getElem?_cons_zero, List.getElem?_cons_succ] at z1 z2
          have HW := Lib.hid (HUA.out.trans_ext HU.out)
          rcases Nat.lt_or_ge i ls.length with hlt | hge
          · have hltI : (i : Int) < ls.length := by omega
            have hltJ : (i : Int) < ls'.length := by have := E5.out; omega
            obtain ⟨x, hx⟩ : ∃ x, ls[i]? = some x := ⟨_, List.getElem?_eq_getElem hlt⟩
            obtain ⟨y, hy⟩ : ∃ y, ls'[i]? = some y := ⟨_, List.getElem?_eq_getElem (by have := E5.out; omega)⟩
            obtain ⟨g, og, v0, v1, v2, v3, v4, v5, rfl, c0, c1, c2, c3, c4, c5, hnx⟩ := HL.out i x hx
            obtain ⟨g', og', u0, u1, u2, u3, u4, u5, rfl, d0, d1, d2, d3, d4, d5, hny⟩ := HL'.out i y hy
            obtain ⟨r1, r2, r3, r4, r5, r6, r7, r8, r9, r10, rfl, rfl, rfl, rfl, rfl, rfl⟩ := six_form hnx
            obtain ⟨s1, s2, s3, s4, s5, s6, s7, s8, s9, s10, rfl, rfl, rfl, rfl, rfl, rfl⟩ := six_form hny
            have hC : ∀ u, Upto [] wr u → Calls Tryz.prog 23 #[.agg #[.int .i64 r1, .slice r2 r3 r4, .int .i64 r5, .int .i64 r6, .int .i64 r7, .slice r8 r9 r10], .agg #[.int .i64 s1, .slice s2 s3 s4, .int .i64 s5, .int .i64 s6, .int .i64 s7, .slice s8 s9 s10]] u fun e w' => e = .returned (.bool (sameF x y)) ∧ Upto [] u w' := fun u hu => HIH.out x (List.mem_of_getElem? hx) y _ _ _ _ u (hnx.ext (HW.out.trans_ext hu)) (hny.ext (HW.out.trans_ext hu))
            replace c0 := up_cell HW.out c0
            replace c1 := up_cell HW.out c1
            replace c2 := up_cell HW.out c2
            replace c3 := up_cell HW.out c3
            replace c4 := up_cell HW.out c4
            replace c5 := up_cell HW.out c5
            replace d0 := up_cell HW.out d0
            replace d1 := up_cell HW.out d1
            replace d2 := up_cell HW.out d2
            replace d3 := up_cell HW.out d3
            replace d4 := up_cell HW.out d4
            replace d5 := up_cell HW.out d5
            have ec0 := fun u : Ext wr => u.cell c0
            have ec1 := fun u : Ext wr => u.cell c1
            have ec2 := fun u : Ext wr => u.cell c2
            have ec3 := fun u : Ext wr => u.cell c3
            have ec4 := fun u : Ext wr => u.cell c4
            have ec5 := fun u : Ext wr => u.cell c5
            have ed0 := fun u : Ext wr => u.cell d0
            have ed1 := fun u : Ext wr => u.cell d1
            have ed2 := fun u : Ext wr => u.cell d2
            have ed3 := fun u : Ext wr => u.cell d3
            have ed4 := fun u : Ext wr => u.cell d4
            have ed5 := fun u : Ext wr => u.cell d5
            have ez1 := fun u : Ext wr => u.cell z1
            have ez2 := fun u : Ext wr => u.cell z2
            have HC := Lib.hid hC
            have hbb : sameF x y = true ∨ sameF x y = false := by cases sameF x y <;> simp
            rcases hbb with hb | hb
            · have HE2 : Hid (∀ q x y, q < i + 1 → ls[q]? = some x → ls'[q]? = some y → x = y) := Lib.hid (fun q x' y' hq hx' hy' => by
                by_cases hqi : q = i
                · subst hqi
                  rw [hx] at hx'
                  rw [hy] at hy'
                  cases hx'
                  cases hy'
                  exact (sameF_eq x y).1 hb
                · exact HE.out q x' y' (by omega) hx' hy')
              rw [hb] at HC
              clear hx hy hnx hny h1 h2 HE hC hb
              go_wp2_with fail
              refine wp_region_seg_all [10] [] [0, 1, 2, 3, 4, 5, 6, 7, 8, 9, 10, 11] (by kernel_rfl) (by kernel_rfl) ?_
              iterate 10 (refine seg_plain rfl rfl rfl rfl rfl ?_; intro K' hK'; go_big_quiet_op; go_big_quiet_on)
              refine seg_call rfl rfl rfl rfl (fun w => by go_simp) (fun w hu hd => HC.out w hu) ?_
              simp only [Act.put, List.setIfInBounds_toArray, List.set_cons_zero, List.set_cons_succ]
              (refine seg_plain rfl rfl rfl rfl rfl ?_; intro K' hK'; go_big_quiet_op; go_big_quiet_on)
              intro w9 hg
              have HW9 := Lib.hid (HU.out.trans_ext hg.up)
              clear hg
              go_wp2_with fail
              go_roundw
              case rel => exact ⟨i + 1, by omega, by go_num, HE2, HW9⟩
              case measure => simp [intOf]; omega
            · have HF : Hid (sameF (.mk op xs so n m ls) (.mk op xs so n m ls') = false) := Lib.hid (by
                rw [Bool.eq_false_iff]
                intro h
                rw [sameF_eq] at h
                injection h with _ _ _ _ _ h6
                rw [h6, hy] at hx
                have := Option.some.inj hx
                subst this
                rw [(sameF_eq y y).2 rfl] at hb
                cases hb)
              rw [hb] at HC
              clear hx hy hnx hny h1 h2 HE hC hb
              go_wp2_with fail
              refine wp_region_seg_all [10] [] [0, 1, 2, 3, 4, 5, 6, 7, 8, 9, 10, 11] (by kernel_rfl) (by kernel_rfl) ?_
              iterate 10 (refine seg_plain rfl rfl rfl rfl rfl ?_; intro K' hK'; go_big_quiet_op; go_big_quiet_on)
              refine seg_call rfl rfl rfl rfl (fun w => by go_simp) (fun w hu hd => HC.out w hu) ?_
              simp only [Act.put, List.setIfInBounds_toArray, List.set_cons_zero, List.set_cons_succ]
              (refine seg_plain rfl rfl rfl rfl rfl ?_; intro K' hK'; go_big_quiet_op; go_big_quiet_on)
              intro w9 hg
              have HW9 := Lib.hid (HW.out.trans_ext hg.up)
              clear hg
              go_wp2_with fail
              go_ret
              rw [HF.out]
              exact ⟨rfl, HW9.out⟩
          · have hgeI : ¬ (i : Int) < ls.length := by omega
            obtain rfl : ls = ls' := by
              apply List.ext_getElem?
              intro q
              by_cases hq : q < ls.length
              · rw [List.getElem?_eq_getElem hq, List.getElem?_eq_getElem (by have := E5.out; omega)]
                congr 1
                exact HE.out q _ _ (by omega) (List.getElem?_eq_getElem hq) (List.getElem?_eq_getElem _)
              · rw [List.getElem?_eq_none (by omega), List.getElem?_eq_none (by have := E5.out; omega)]
            clear h1 h2 HE
            go_wp2_with fail
            go_ret
            rw [(sameF_eq _ _).2 rfl]
            exact ⟨rfl, HW.out⟩
def alikeF (q q' : Qn) : Bool := decide (q.free = q'.free) && sameF q.body q'.body
theorem alikeF_eq (q q' : Qn) : alikeF q q' = true ↔ q = q' := by
  unfold alikeF
  rw [Bool.and_eq_true, decide_eq_true_eq, sameF_eq]
  cases q; cases q'
  simp
set_option maxRecDepth 100000 in
set_option maxHeartbeats 6400000 in
theorem alike_calls (q q' : Qn) (P P' : Nat → Prop) (v v' : Value) (w : World) (hf : q.free.length ≤ 10000000) (hb : hugeN q.body) (_hf' : q'.free.length ≤ 10000000) (h : QnV w P q v) (h' : QnV w P' q' v') :
    Calls Tryz.prog 27 #[v, v'] w fun e w' => e = .returned (.bool (alikeF q q')) ∧ Upto [] w w' := by
  obtain ⟨f1, f3, o1, a1, a2, a3, s1, n1, m1, l1, l2, l3, rfl, hv, hn⟩ := h.open
  obtain ⟨g1, g3, o2, b1, b2, b3, s2, n2, m2, k1, k2, k3, rfl, hv', hn'⟩ := h'.open
  have hu2 : Upto [] w ((w.alloc (.cells #[.slice f1 q.free.length f3, .int .i64 o1, .slice a1 a2 a3, .int .i64 s1, .int .i64 n1, .int .i64 m1, .slice l1 l2 l3] 45)).alloc (.cells #[.slice g1 q'.free.length g3, .int .i64 o2, .slice b1 b2 b3, .int .i64 s2, .int .i64 n2, .int .i64 m2, .slice k1 k2 k3] 45)) := ((Upto.refl [] w).alloc _).alloc _
  have HU2 := Lib.hid hu2
  have hb1 := alloc_old (new_at w (.cells #[.slice f1 q.free.length f3, .int .i64 o1, .slice a1 a2 a3, .int .i64 s1, .int .i64 n1, .int .i64 m1, .slice l1 l2 l3] 45)) (.cells #[.slice g1 q'.free.length g3, .int .i64 o2, .slice b1 b2 b3, .int .i64 s2, .int .i64 n2, .int .i64 m2, .slice k1 k2 k3] 45)
  have hb2 := new_at1 w (.cells #[.slice f1 q.free.length f3, .int .i64 o1, .slice a1 a2 a3, .int .i64 s1, .int .i64 n1, .int .i64 m1, .slice l1 l2 l3] 45) (.cells #[.slice g1 q'.free.length g3, .int .i64 o2, .slice b1 b2 b3, .int .i64 s2, .int .i64 n2, .int .i64 m2, .slice k1 k2 k3] 45)
  have HB1 := Lib.hid hb1
  have HB2 := Lib.hid hb2
  have HG := Lib.hid (vars_slice hv)
  have HG' := Lib.hid (vars_slice hv')
  have HSM := Lib.hid (fun u (hu : Upto [] w u) => same_calls _ q.body (Nat.le_refl _) hb q'.body P P' _ _ u (hn.ext hu) (hn'.ext hu))
  obtain ⟨xa0, xa1, xa2, xa3, xa4, xa5, xa6⟩ := cells7 hb1
  obtain ⟨xb0, xb1, xb2, xb3, xb4, xb5, xb6⟩ := cells7 hb2
  clear h h' hv hv' hn hn' hb hu2 hb1 hb2
  by_cases hne : q.free.length ≠ q'.free.length
  · have HF : Hid (alikeF q q' = false) := Lib.hid (by unfold alikeF; rw [decide_eq_false (fun e => hne (by rw [e]))]; rfl)
    rw [HF.out]
    generalize hA : q.free.length = A at *
    generalize hB : q'.free.length = B at *
    have q1 : ((A : Int) == (B : Int)) = false := by rw [beq_eq_false_iff_ne]; omega
    have q2 : ((A : Int) != (B : Int)) = true := by rw [bne, q1]; rfl
    clear hne HF hA hB
    go_enter Tryz.func27, Tryz.ntmps27
    go_wp2_with fail
    go_ret
    exact ⟨rfl, HU2.out⟩
  have hne := Decidable.not_not.1 hne
  have HNE := Lib.hid hne
  have q2 : ((q.free.length : Int) != (q'.free.length : Int)) = false := by rw [hne]; simp
  have hL0 : (0 : Int) ≤ q.free.length := by omega
  have hL1 : (q.free.length : Int) ≤ 10000000 := by omega
  clear hne hf _hf'
  go_enter Tryz.func27, Tryz.ntmps27
  go_wp2_with fail
  generalize hW2 : ((w.alloc (.cells #[.slice f1 q.free.length f3, .int .i64 o1, .slice a1 a2 a3, .int .i64 s1, .int .i64 n1, .int .i64 m1, .slice l1 l2 l3] 45)).alloc (.cells #[.slice g1 q'.free.length g3, .int .i64 o2, .slice b1 b2 b3, .int .i64 s2, .int .i64 n2, .int .i64 m2, .slice k1 k2 k3] 45)) = W2 at *
  clear hW2
  go_loopw [5] (fun i wr => ∃ j : Nat, j ≤ q.free.length ∧ i = .int .i64 j ∧ Hid (∀ p, p < j → q.free[p]? = q'.free[p]?) ∧ Hid (Upto [] W2 wr)) (fun i _ => q.free.length - (intOf i).toNat)
  case atStart => exact ⟨0, by omega, rfl, Lib.hid (fun p hp => by omega), Lib.hid (Upto.refl _ _)⟩
  case round =>
    obtain ⟨j, hj, rfl, HE, HU⟩ := hrel
    have hj0 : (0 : Int) ≤ j := by omega
    have h1 := HU.out.at HB1.out (by simp)
    have h2 := HU.out.at HB2.out (by simp)
    have hd := (Upto.refl [] wr).drew
    have h3 := hd.at h1 (by simp)
    have h4 := hd.at h2 (by simp)
    obtain ⟨pa0, pa1, pa2, pa3, pa4, pa5, pa6⟩ := cells7 h1
    obtain ⟨pb0, pb1, pb2, pb3, pb4, pb5, pb6⟩ := cells7 h2
    have s0 := cell_of h3 0
    have t0 := cell_of h4 0
    simp only [List.getElem?_toArray, List.getElem?_cons_zero] at s0 t0
    have HW := Lib.hid (HU2.out.trans_ext HU.out)
    rcases Nat.lt_or_ge j q.free.length with hlt | hge
    · have hltI : (j : Int) < q.free.length := by omega
      have hltJ : (j : Int) < q'.free.length := by have := HNE.out; omega
      obtain ⟨x, hx⟩ : ∃ x, q.free[j]? = some x := ⟨_, List.getElem?_eq_getElem hlt⟩
      obtain ⟨y, hy⟩ : ∃ y, q'.free[j]? = some y := ⟨_, List.getElem?_eq_getElem (by have := HNE.out; omega)⟩
      obtain ⟨g, o, rfl, c0, c1⟩ := HG.out j x hx
      obtain ⟨g', o', rfl, c2, c3⟩ := HG'.out j y hy
      replace c0 := up_cell HW.out c0
      replace c1 := up_cell HW.out c1
      replace c2 := up_cell HW.out c2
      replace c3 := up_cell HW.out c3
      have d0 := (hd.cell (p := ⟨g, o + j * 2, none⟩) (World.block_lt_of_cell? wr _ c0) (by simp)).trans c0
      have d1 := (hd.cell (p := ⟨g, o + j * 2 + 1, none⟩) (World.block_lt_of_cell? wr _ c1) (by simp)).trans c1
      have d2 := (hd.cell (p := ⟨g', o' + j * 2, none⟩) (World.block_lt_of_cell? wr _ c2) (by simp)).trans c2
      have d3 := (hd.cell (p := ⟨g', o' + j * 2 + 1, none⟩) (World.block_lt_of_cell? wr _ c3) (by simp)).trans c3
      have HD := Lib.hid (HU.out.trans_ext hd)
      have HDW := Lib.hid (HW.out.trans_ext hd)
      obtain ⟨x1, x2⟩ := x
      obtain ⟨y1, y2⟩ := y
      simp only at c0 c1 c2 c3 d0 d1 d2 d3
      have HNF : (¬ (x1 = y1 ∧ x2 = y2)) → alikeF q q' = false := fun hn => by
        unfold alikeF
        rw [decide_eq_false]
        · rfl
        · intro e
          rw [e, hy] at hx
          have := Option.some.inj hx
          simp at this
          exact hn ⟨this.1.symm, this.2.symm⟩
      by_cases hxy : x1 = y1
      · by_cases hxy2 : x2 = y2
        · subst hxy hxy2
          have HE2 : Hid (∀ p, p < j + 1 → q.free[p]? = q'.free[p]?) := Lib.hid (fun p hp => by
            by_cases hqj : p = j
            · subst hqj; rw [hx, hy]
            · exact HE.out p (by omega))
          clear hx hy hd HE h1 h2 h3 h4 HNF
          go_wp2_with fail
          go_region
          all_goals (
            go_wp2_with fail
            go_roundw
            case rel => exact ⟨j + 1, by omega, by go_num, HE2, HD⟩
            case measure => simp [intOf]; omega)
        · have HF := Lib.hid (HNF (fun e => hxy2 e.2))
          subst hxy
          have q1 : (x2 == y2) = false := by rw [beq_eq_false_iff_ne]; exact hxy2
          have q3 : (x2 != y2) = true := by rw [bne, q1]; rfl
          clear hx hy hd HE h1 h2 h3 h4 HNF
          go_wp2_with fail
          go_region
          all_goals (
            go_wp2_with fail
            go_ret
            rw [HF.out]
            exact ⟨rfl, HDW.out⟩)
      · have HF := Lib.hid (HNF (fun e => hxy e.1))
        have q1 : (x1 == y1) = false := by simpa using hxy
        have q3 : (x1 != y1) = true := by rw [bne, q1]; rfl
        clear hx hy hd HE h1 h2 h3 h4 HNF
        go_wp2_with fail
        go_region
        all_goals (
          go_wp2_with fail
          go_ret
          rw [HF.out]
          exact ⟨rfl, HDW.out⟩)
    · have hgeI : ¬ (j : Int) < q.free.length := by omega
      have HF : Hid (alikeF q q' = sameF q.body q'.body) := Lib.hid (by
        unfold alikeF
        rw [decide_eq_true]
        · rfl
        · apply List.ext_getElem?
          intro i
          by_cases hi : i < j
          · exact HE.out i hi
          · rw [List.getElem?_eq_none (by omega), List.getElem?_eq_none (by have := HNE.out; omega)])
      have HC := Lib.hid (HSM.out wr HW.out)
      clear hd h1 h2 h3 h4 s0 t0
      go_wp2_with fail
      refine HC.out.mono ?_
      rintro e w5 ⟨rfl, hu5⟩
      have HU5 := Lib.hid (HW.out.trans_ext hu5)
      clear hu5
      go_wp2_with fail
      go_ret
      rw [HF.out]
      exact ⟨rfl, HU5.out⟩
def vtx (v : List UInt8 × Int) : List UInt8 := sortW v.2 ++ [32] ++ v.1
def frP : List (List UInt8 × Int) → List UInt8
  | [] => []
  | v :: r => vtx v ++ r.flatMap fun u => [44, 32] ++ vtx u
def freeS (f : List (List UInt8 × Int)) : List UInt8 := if f = [] then [] else [102, 105, 110, 100, 32] ++ frP f ++ [58, 32]
theorem frP_snoc (l : List (List UInt8 × Int)) (v : List UInt8 × Int) : frP (l ++ [v]) = if l = [] then vtx v else frP l ++ [44, 32] ++ vtx v := by
  cases l with
  | nil => simp [frP]
  | cons u r => simp [frP]
theorem sortW_le (s : Int) : (sortW s).length ≤ 6 := by unfold sortW; split; simp; split; simp; split; simp; split <;> simp
theorem frP_len {M : Nat} : ∀ (f : List (List UInt8 × Int)), (∀ y ∈ f, y.1.length ≤ M) → (frP f).length ≤ f.length * (M + 20)
  | [], _ => by simp [frP]
  | v :: r, h => by
    have h1 := h v (by simp)
    have h2 := sortW_le v.2
    have key : ∀ (r : List (List UInt8 × Int)), (∀ y ∈ r, y.1.length ≤ M) → (r.flatMap fun u => [44, 32] ++ vtx u).length ≤ r.length * (M + 20) := by
      intro r
      induction r with
      | nil => simp
      | cons u r ih =>
        intro hr
        have a := hr u (by simp)
        have b := sortW_le u.2
        have c := ih (fun y hy => hr y (by simp [hy]))
        simp only [List.flatMap_cons, List.length_append, vtx, List.length_cons, List.length_nil, Nat.succ_mul] at c ⊢
        omega
    have h3 := key r (fun y hy => h y (by simp [hy]))
    simp only [frP, List.length_append, vtx, List.length_cons, List.length_nil, Nat.succ_mul] at h3 ⊢
    omega
theorem sortw_word {s : Int} (h0 : 0 ≤ s) (h1 : s < 4) : sortWords.getD s.toNat [] = sortW s := by
  have : s = 0 ∨ s = 1 ∨ s = 2 ∨ s = 3 := by omega
  rcases this with rfl | rfl | rfl | rfl <;> rfl
theorem varB_text : ∀ (f : List (List UInt8 × Int)), (∀ v ∈ f, 0 ≤ v.2 ∧ v.2 < 4) → f ≠ [] → spB (varB f) = 32 :: frP f
  | [], _, h => absurd rfl h
  | [v], h, _ => by
    have := h v (by simp)
    have e := sortw_word this.1 this.2
    rw [List.getD_eq_getElem?_getD] at e
    simp [varB, spB, frP, vtx, kyT, idT, e]
  | v :: u :: r, h, _ => by
    have h1 := h v (by simp)
    have ih := varB_text (u :: r) (fun y hy => h y (List.mem_cons_of_mem _ hy)) (by simp)
    rw [varB, spB_cons, spB_cons, spB_cons, ih]
    have e := sortw_word h1.1 h1.2
    rw [List.getD_eq_getElem?_getD] at e
    simp [frP, vtx, kyT, idT, puT, e]
theorem freeS_text (f : List (List UInt8 × Int)) (h : ∀ v ∈ f, 0 ≤ v.2 ∧ v.2 < 4) : freeS f = spB (freeB f) ++ (if f.isEmpty then [] else [32]) := by
  cases f with
  | nil => rfl
  | cons v r =>
    unfold freeS freeB
    rw [if_neg (by simp), spB_cons, spB_append, varB_text _ h (by simp)]
    simp [spB, kyT, puT]
theorem quest_text {q : Qn} (h : ∀ v ∈ q.free, 0 ≤ v.2 ∧ v.2 < 4) : freeS q.free ++ fullG q.body = spB (questB q) := by
  rw [freeS_text _ h]
  unfold questB
  rw [spB_append]
  cases hq : q.free.isEmpty with
  | true => simp [fullG]
  | false => simp [fullB_true]
set_option maxRecDepth 100000 in
set_option maxHeartbeats 6400000 in
theorem free_text_calls (f : List (List UInt8 × Int)) (v : Value) (w : World) (P : Nat → Prop) (h : VarsV w P v f) (hl : f.length ≤ 100) (hn : ∀ y ∈ f, y.1.length ≤ 10000000) : Calls Tryz.prog 38 #[v] w fun e w' => e = .returned (.string ⟨(freeS f).toArray⟩) ∧ Upto [] w w' := by
  obtain ⟨a, c, rfl, hg⟩ := vars_get h
  have HG := Lib.hid hg
  have HU0 := Lib.hid (Upto.refl [] w)
  have HFN := Lib.hid hn
  have HLEN : Hid (∀ j, ([102, 105, 110, 100, 32] ++ frP (f.take j)).length ≤ 2000000000) := Lib.hid (fun j => by
    have h1 := frP_len (M := 10000000) (f.take j) (fun y hy => hn y (List.mem_of_mem_take hy))
    have h2 : (f.take j).length ≤ 100 := by rw [List.length_take]; omega
    have h3 : (f.take j).length * (10000000 + 20) ≤ 100 * (10000000 + 20) := Nat.mul_le_mul_right _ h2
    simp only [List.length_append, List.length_cons, List.length_nil]
    omega)
  have hL0 : (0 : Int) ≤ f.length := by omega
  have hL1 : (f.length : Int) ≤ 100 := by omega
  clear h hg hn
  by_cases h0 : f = []
  · have HF : Hid (freeS f = []) := Lib.hid (by unfold freeS; rw [if_pos h0])
    rw [HF.out]
    have b0 : ((f.length : Int) == 0) = true := by simp [h0]
    clear h0
    go_enter Tryz.func38, Tryz.ntmps38
    go_wp2_with fail
    go_ret
    exact ⟨rfl, HU0.out⟩
  have HF : Hid (freeS f = [102, 105, 110, 100, 32] ++ frP f ++ [58, 32]) := Lib.hid (by unfold freeS; rw [if_neg h0])
  have b0 : ((f.length : Int) == 0) = false := by
    rw [beq_eq_false_iff_ne]
    intro e
    exact h0 (List.eq_nil_of_length_eq_zero (by omega))
  rw [HF.out]
  clear h0 HF
  go_enter Tryz.func38, Tryz.ntmps38
  go_wp2_with fail
  go_loopw [3, 4] (fun t3 t4 wr => ∃ (j : Nat) (S : List UInt8), j ≤ f.length ∧ t3 = .string ⟨S.toArray⟩ ∧ t4 = .int .i64 j ∧ Hid (S = [102, 105, 110, 100, 32] ++ frP (f.take j)) ∧ Hid (Upto [] w wr)) (fun _ t4 _ => f.length - (intOf t4).toNat)
  case atStart => exact ⟨0, [102, 105, 110, 100, 32], by omega, rfl, rfl, Lib.hid rfl, HU0⟩
  case round =>
    obtain ⟨j, S, hj, rfl, rfl, HS, HU⟩ := hrel
    have hj0 : (0 : Int) ≤ j := by omega
    have hS : S.length ≤ 2000000000 := by rw [HS.out]; exact HLEN.out j
    rcases Nat.lt_or_ge j f.length with hlt | hge
    · have hltI : (j : Int) < f.length := by omega
      obtain ⟨x, hx⟩ : ∃ x, f[j]? = some x := ⟨_, List.getElem?_eq_getElem hlt⟩
      have HTK : Hid (f.take (j + 1) = f.take j ++ [x]) := Lib.hid (by rw [List.take_add_one, hx]; rfl)
      have hxl := HFN.out x (List.mem_of_getElem? hx)
      obtain ⟨g, o, rfl, c0, c1⟩ := HG.out j x hx
      obtain ⟨x1, x2⟩ := x
      simp only at c0 c1 hxl
      replace c0 := up_cell HU.out c0
      replace c1 := up_cell HU.out c1
      have ec0 := fun u : Ext wr => u.cell c0
      have ec1 := fun u : Ext wr => u.cell c1
      have hs6 := sortW_le x2
      have hFN := HFN
      by_cases hz : j = 0
      · have hzI : ¬ (0 : Int) < j := by omega
        have HS2 : Hid (S ++ sortW x2 ++ [32] ++ x1 = [102, 105, 110, 100, 32] ++ frP (f.take (j + 1))) := Lib.hid (by
          rw [HTK.out, frP_snoc, HS.out, hz]
          simp [frP, vtx])
        have sm1 : S.length + (sortW x2).length ≤ 9223372036854775807 := by omega
        have sm2 : S.length + (sortW x2).length + 1 ≤ 9223372036854775807 := by omega
        have sm3 : S.length + (sortW x2).length + 1 + x1.length ≤ 9223372036854775807 := by omega
        clear hx hz c0 c1
        go_wp2_with fail
        refine wp_region_seg_all [6] [] [0, 1, 2, 3, 4, 5, 6, 7, 8, 9, 10, 11, 12, 13, 14, 15] (by kernel_rfl) (by kernel_rfl) ?_
        iterate 6 (refine seg_plain rfl rfl rfl rfl rfl ?_; intro K' hK'; go_big_quiet_op; go_big_quiet_on)
        refine seg_call rfl rfl rfl rfl (fun w => by go_simp) (fun w hu hd => sorted_calls x2 w) ?_
        simp only [Act.put, List.setIfInBounds_toArray, List.set_cons_zero, List.set_cons_succ]
        iterate 9 (refine seg_plain rfl rfl rfl rfl rfl ?_; intro K' hK'; go_big_quiet_op; go_big_quiet_on)
        intro w9 hg
        have HW9 := Lib.hid (HU.out.trans_ext hg.up)
        clear hg
        go_wp2_with fail
        go_roundw
        case rel => exact ⟨j + 1, S ++ sortW x2 ++ [32] ++ x1, by omega, congrArg Value.string (by simp only [ByteArray.mk_append_mk]), by go_num, HS2, HW9⟩
        case measure => simp [intOf]; omega
      · have hzI : (0 : Int) < j := by omega
        have HS2 : Hid (S ++ [44, 32] ++ sortW x2 ++ [32] ++ x1 = [102, 105, 110, 100, 32] ++ frP (f.take (j + 1))) := Lib.hid (by
          rw [HTK.out, frP_snoc, HS.out, if_neg (by intro e; have := congrArg List.length e; rw [List.length_take] at this; simp only [List.length_nil] at this; omega)]
          simp [vtx])
        have sm0 : S.length + 2 ≤ 9223372036854775807 := by omega
        have sm1 : S.length + 2 + (sortW x2).length ≤ 9223372036854775807 := by omega
        have sm2 : S.length + 2 + (sortW x2).length + 1 ≤ 9223372036854775807 := by omega
        have sm3 : S.length + 2 + (sortW x2).length + 1 + x1.length ≤ 9223372036854775807 := by omega
        clear hx hz c0 c1
        go_wp2_with fail
        refine wp_region_seg_all [6] [] [0, 1, 2, 3, 4, 5, 6, 7, 8, 9, 10, 11, 12, 13, 14, 15] (by kernel_rfl) (by kernel_rfl) ?_
        iterate 6 (refine seg_plain rfl rfl rfl rfl rfl ?_; intro K' hK'; go_big_quiet_op; go_big_quiet_on)
        refine seg_call rfl rfl rfl rfl (fun w => by go_simp) (fun w hu hd => sorted_calls x2 w) ?_
        simp only [Act.put, List.setIfInBounds_toArray, List.set_cons_zero, List.set_cons_succ]
        iterate 9 (refine seg_plain rfl rfl rfl rfl rfl ?_; intro K' hK'; go_big_quiet_op; go_big_quiet_on)
        intro w9 hg
        have HW9 := Lib.hid (HU.out.trans_ext hg.up)
        clear hg
        go_wp2_with fail
        go_roundw
        case rel => exact ⟨j + 1, S ++ [44, 32] ++ sortW x2 ++ [32] ++ x1, by omega, congrArg Value.string (by simp only [ByteArray.mk_append_mk]), by go_num, HS2, HW9⟩
        case measure => simp [intOf]; omega
    · have hgeI : ¬ (j : Int) < f.length := by omega
      have HE : Hid (S = [102, 105, 110, 100, 32] ++ frP f) := Lib.hid (by rw [HS.out, List.take_of_length_le (by omega)])
      have sm0 : S.length + 2 ≤ 9223372036854775807 := by omega
      go_wp2_with fail
      go_ret
      exact ⟨by rw [ByteArray.mk_append_mk, HE.out]; rfl, HU.out⟩
theorem comF_len16 : ∀ (ys : List (List UInt8)), (∀ x ∈ ys, x.length ≤ 16) → (comF ys).length ≤ 18 * ys.length
  | [], _ => by simp [comF]
  | [x], h => by have := h x (by simp); simp only [comF, List.length_cons, List.length_nil]; omega
  | x :: y :: r, h => by
    have h1 := h x (by simp)
    have h2 := comF_len16 (y :: r) (fun z hz => h z (List.mem_cons_of_mem _ hz))
    simp only [comF, List.length_append, List.length_cons, List.length_nil] at h2 ⊢
    omega
theorem wordsF_len : ∀ k : Nat, (wordsF.getD k []).length ≤ 10 := by
  intro k
  by_cases h : k < 18
  · have key : ∀ m : _root_.Fin 18, (wordsF.getD m.val []).length ≤ 10 := by decide
    exact key ⟨k, h⟩
  · rw [List.getD_eq_getElem?_getD, List.getElem?_eq_none (by show wordsF.length ≤ k; simp [wordsF]; omega)]
    simp
theorem sortW_len : ∀ k : Nat, (sortWords.getD k []).length ≤ 10 := by
  intro k
  by_cases h : k < 4
  · have key : ∀ m : _root_.Fin 4, (sortWords.getD m.val []).length ≤ 10 := by decide
    exact key ⟨k, h⟩
  · rw [List.getD_eq_getElem?_getD, List.getElem?_eq_none (by show sortWords.length ≤ k; simp [sortWords]; omega)]
    simp
set_option maxRecDepth 10000 in
theorem full_len : ∀ (k : Nat) (nd : Nd), sizeF nd ≤ k → okF nd → (fullG nd).length ≤ 500 * sizeF nd
  | 0, nd, hn, _ => by have := sizeF_pos nd; omega
  | n + 1, .mk op names so nn mm l, hn, hok => by
    simp only [sizeF] at hn ⊢
    unfold okF at hok
    obtain ⟨hnm, hc, hos⟩ := hok
    have hx16 : ∀ x ∈ names, x.length ≤ 16 := fun x hx => real_len (hnm x hx)
    unfold fullG
    rcases hc with ⟨h1 | h1, rfl, rfl, rfl, rfl, rfl⟩ | ⟨h1, h2, h3, rfl, rfl, rfl, rfl⟩ | ⟨rfl, h3, rfl, rfl, h4, h5, rfl⟩ | ⟨rfl, h3, rfl, rfl, h4, h5, h6⟩ | ⟨rfl, h3, rfl, rfl, rfl, rfl⟩ | ⟨rfl, h3, h4, rfl, rfl, rfl, rfl⟩ | ⟨rfl, rfl, h3, rfl, rfl, rfl⟩ | ⟨h1, h2, rfl, h3, rfl, rfl, rfl⟩ | ⟨h1, h2, h3, h4, h5, h6, rfl, rfl⟩
    · subst h1
      unfold fullB
      rw [if_pos rfl]
      simp [spB, kyT, sizesF]
    · subst h1
      unfold fullB
      rw [if_neg (by decide), if_pos rfl]
      simp [spB, kyT, sizesF]
    · obtain ⟨k, rfl⟩ := Int.eq_ofNat_of_zero_le (show 0 ≤ op by omega)
      match names, h3 with
      | [x, y], _ =>
        unfold fullB
        rw [if_neg (by omega), if_neg (by omega), if_pos h2]
        simp only [spB_cons, rel_word (show 2 ≤ k ∧ k < 7 by omega)]
        have a := hx16 x (by simp)
        have b := hx16 y (by simp)
        have c := wordsF_len k
        simp only [spB, idT, List.getD_cons_zero, List.getD_cons_succ, List.length_append, List.length_cons, List.length_nil, List.flatMap_nil, if_true, if_false, Bool.false_eq_true]
        omega
    · match names, h3 with
      | [x], _ =>
        obtain ⟨q, rfl⟩ := Int.eq_ofNat_of_zero_le h4
        unfold fullB
        rw [if_neg (by decide), if_neg (by decide), if_neg (by decide), if_pos rfl]
        simp only [spB_cons, nm_text]
        have a := hx16 x (by simp)
        have b := dig_len q (by omega)
        simp only [spB, idT, kyT, Int.toNat_natCast, List.getD_cons_zero, List.length_append, List.length_cons, List.length_nil, List.flatMap_nil, if_true, if_false, Bool.false_eq_true]
        omega
    · match names, h3 with
      | [x], _ =>
        obtain ⟨q, rfl⟩ := Int.eq_ofNat_of_zero_le h4
        obtain ⟨p, rfl⟩ := Int.eq_ofNat_of_zero_le (show 0 ≤ mm by omega)
        unfold fullB
        rw [if_neg (by decide), if_neg (by decide), if_neg (by decide), if_neg (by decide), if_pos rfl]
        simp only [spB_cons, nm_text]
        have a := hx16 x (by simp)
        have b := dig_len q (by omega)
        have c := dig_len p (by omega)
        simp only [spB, idT, kyT, Int.toNat_natCast, List.getD_cons_zero, List.length_append, List.length_cons, List.length_nil, List.flatMap_nil, if_true, if_false, Bool.false_eq_true]
        omega
    · match names, h3 with
      | [x], _ =>
        unfold fullB
        rw [if_neg (by decide), if_neg (by decide), if_neg (by decide), if_neg (by decide), if_neg (by decide), if_pos rfl]
        simp only [spB_cons]
        have a := hx16 x (by simp)
        simp only [spB, idT, kyT, List.getD_cons_zero, List.length_append, List.length_cons, List.length_nil, List.flatMap_nil, if_true, if_false, Bool.false_eq_true]
        omega
    · match names, h3, h4, hx16 with
      | f :: ys, _, h4, hx16 =>
        unfold fullB
        rw [if_neg (by decide), if_neg (by decide), if_neg (by decide), if_neg (by decide), if_neg (by decide), if_neg (by decide), if_pos rfl]
        simp only [spB_cons, List.tail_cons, List.getD_cons_zero, spB_append, (arg_com ys).1]
        have a := hx16 f (by simp)
        have b := comF_len16 ys (fun x hx => hx16 x (List.mem_cons_of_mem _ hx))
        simp only [List.length_cons] at h4
        simp only [spB, idT, puT, List.length_append, List.length_cons, List.length_nil, List.flatMap_nil, if_false, Bool.false_eq_true]
        omega
    · match l, h3 with
      | [a], _ =>
        unfold fullB
        rw [if_neg (by decide), if_neg (by decide), if_neg (by decide), if_neg (by decide), if_neg (by decide), if_neg (by decide), if_neg (by decide), if_pos rfl]
        simp only [spB_cons, spB_append, fullsB, List.getD_cons_zero]
        simp only [sizesF] at hn ⊢
        unfold oksF at hos
        have h := full_len n a (by omega) hos.1
        unfold fullG at h
        simp only [spB, kyT, puT, List.length_append, List.length_cons, List.length_nil, List.flatMap_nil, if_true, if_false, Bool.false_eq_true] at h ⊢
        omega
    · obtain ⟨k, rfl⟩ := Int.eq_ofNat_of_zero_le (show 0 ≤ op by omega)
      match l, h3 with
      | [a, c], _ =>
        unfold fullB
        rw [if_neg (by omega), if_neg (by omega), if_neg (by omega), if_neg (by omega), if_neg (by omega), if_neg (by omega), if_neg (by omega), if_neg (by omega), if_pos h2]
        simp only [spB_cons, spB_append, fullsB, List.getD_cons_zero, List.getD_cons_succ, conW_word (show 12 ≤ k ∧ k < 16 by omega)]
        simp only [sizesF] at hn ⊢
        unfold oksF oksF at hos
        have h := full_len n a (by omega) hos.1
        have h' := full_len n c (by omega) hos.2.1
        have hw := wordsF_len k
        unfold fullG at h h'
        simp only [spB, kyT, puT, List.length_append, List.length_cons, List.length_nil, List.flatMap_nil, if_true, if_false, Bool.false_eq_true] at h h' ⊢
        omega
    · match l, h4, names, h3 with
      | [a], _, [x], _ =>
        obtain ⟨k, rfl⟩ := Int.eq_ofNat_of_zero_le (show 0 ≤ op by omega)
        unfold fullB
        rw [if_neg (by omega), if_neg (by omega), if_neg (by omega), if_neg (by omega), if_neg (by omega), if_neg (by omega), if_neg (by omega), if_neg (by omega), if_neg (by omega)]
        simp only [spB_cons, fullsB, List.getD_cons_zero, quW_word (show 16 ≤ k ∧ k < 18 by omega), fullB_true]
        simp only [sizesF] at hn ⊢
        unfold oksF at hos
        have h := full_len n a (by omega) hos.1
        have hw := wordsF_len k
        have hq := sortW_len so.toNat
        have hx := hx16 x (by simp)
        simp only [kyT, puT, idT, List.length_append, List.length_cons, List.length_nil, if_true, if_false, Bool.false_eq_true] at h ⊢
        omega
end Go.Proofs.YtkhbpebpljdifaaGreatDoor
