/- Texts merged, in build order: Gk, FmP6, Ck, Zo, Ke, Kh, Ki, Kj, Kk, Z6, Fm31, Zs, Fm30, Uc, Ud, To, Seg2, Seg3. -/
import Derived.Test.YtbnebkkpmcjmbaaGreatDoorMRnd
import Derived.Shelf.SlMaps.Clone
namespace Go.Proofs.YtbnebkkpmcjmbaaGreatDoor
open Go.RowKit Go.PL Go.Maps
set_option maxRecDepth 100000 in
set_option maxHeartbeats 6400000 in
theorem walkC_calls {α : Type} (p p2 : Value) (G : Nd → Prop) (hG : ∀ op nms so nn mm l, G (.mk op nms so nn mm l) → ∀ x ∈ l, G x) (f : α → Nd → α) (w0 : World) (S : List Nat) (P : Nat → Prop) (J : α → Nat → List Nat → World → Prop)
    (hPS : ∀ b, P b → b < w0.heap.size ∧ b ∉ S) (hS : ∀ g ∈ S, g < w0.heap.size)
    (hJ1 : ∀ s r O u, J s r O u → w0.heap.size ≤ u.heap.size ∧ ∀ g ∈ O, g < u.heap.size ∧ w0.heap.size ≤ g) (hJe : ∀ s r O u u', J s r O u → Upto [] u u' → J s r O u')
    (hf : ∀ s r O u x v, J s (r + sizeF x) O u → G x → NdV u P x v → Calls Tryz.prog 84 #[v, p, p2] u fun e w' => e = .returned (.tuple #[]) ∧ ∃ O', Upto (S ++ O) u w' ∧ (∀ g ∈ O', g ∈ O ∨ u.heap.size ≤ g) ∧ ∀ r', r' + 1 ≤ r + sizeF x → J (f s x) r' O' w') :
    ∀ (k : Nat) (nd : Nd), sizeF nd ≤ k → k ≤ 100000 → G nd → ∀ (v : Value) (s : α) (r : Nat) (O : List Nat) (w : World), J s (r + sizeF nd) O w → NdV w P nd v → Calls Tryz.prog 55 #[v, .func (.func 84) #[] #[p, p2]] w fun e w' => e = .returned (.tuple #[]) ∧ ∃ O', J (walkF f nd s) r O' w' ∧ Upto (S ++ O) w w' ∧ ∀ g ∈ O', g ∈ O ∨ w.heap.size ≤ g
  | 0, nd, hk, _, _, _, _, _, _, _, _, _ => by have := sizeF_pos nd; omega
  | k + 1, .mk op nms so nn mm l, hk, hk7, hgd, v, s, r, O, w, hJ, h => by
    obtain ⟨a1, c1, a2, c2, rfl, hs, hg⟩ := h.open
    have HGD0 := Lib.hid hgd
    have HGD := Lib.hid (hG _ _ _ _ _ _ hgd)
    have hsz : sizesF l ≤ k := by simp only [sizeF] at hk; omega
    have HSZ := Lib.hid hsz
    have HSE : Hid (sizeF (.mk op nms so nn mm l) = 1 + sizesF l) := Lib.hid (by simp only [sizeF])
    have HE : Hid (walkF f (.mk op nms so nn mm l) s = walksF f l (f s (.mk op nms so nn mm l))) := Lib.hid (by simp only [walkF])
    have HLEN : Hid (l.length ≤ 100000) := Lib.hid (by have := sizes_len l; omega)
    have hlen := HLEN.out
    have HIH := Lib.hid (fun (x : Nd) (hx : x ∈ l) (hs : sizeF x ≤ k) => walkC_calls p p2 G hG f w0 S P J hPS hS hJ1 hJe hf k x hs (by omega) (HGD.out x hx))
    have HO1 := Lib.hid (hJ1 _ _ _ _ hJ)
    have HPN : Hid (∀ u, Upto (S ++ O) w u → LsAt u P a2 l) := Lib.hid (fun u hu => ls_later h hu (fun b hb _ hm => by
      rcases List.mem_append.1 hm with h1 | h1
      · exact (hPS b hb).2 h1
      · have := (HO1.out.2 b h1).2; have := (hPS b hb).1; omega))
    obtain ⟨W, hW⟩ : ∃ W, W = w.alloc (.cells #[.int .i64 op, .slice a1 nms.length c1, .int .i64 so, .int .i64 nn, .int .i64 mm, .slice a2 l.length c2] 30) := ⟨_, rfl⟩
    have HU1 : Hid (Upto [] w W) := Lib.hid (by rw [hW]; exact (Upto.refl [] w).alloc _)
    have HB1 : Hid (W.heap[w.heap.size]? = some (.cells #[.int .i64 op, .slice a1 nms.length c1, .int .i64 so, .int .i64 nn, .int .i64 mm, .slice a2 l.length c2] 30 (0, 0))) := Lib.hid (by rw [hW]; exact new_at w _)
    have HNS : Hid (w.heap.size ∉ S ++ O) := Lib.hid (fun hm => by
      rcases List.mem_append.1 hm with h1 | h1
      · have h3 := hS _ h1; have h2 := HO1.out.1; omega
      · have := (HO1.out.2 _ h1).1; omega)
    have HF := Lib.hid (hf s r O W _ _ (hJe _ _ _ _ _ hJ HU1.out) HGD0.out (h.ext HU1.out))
    have HJE := Lib.hid hJe
    generalize hs1 : f s (.mk op nms so nn mm l) = s1 at *
    obtain ⟨x0, x1, x2, x3, x4, x5⟩ := cells6 HB1.out
    generalize hll : l.length = ll at *
    have HLL := Lib.hid hll
    have hL0 : (0 : Int) ≤ ll := by omega
    have hL1 : (ll : Int) ≤ 100000 := by omega
    clear h hg hs hsz hll hlen hk hgd hJ hs1 hJe hJ1 hf hPS hS
    go_enter Tryz.func55, Tryz.ntmps55
    go_wp2_with fail
    simp only [← hW]
    clear hW
    go_wp2_with fail
    refine HF.out.mono ?_
    rintro e w2 ⟨rfl, O2, hu2, ho2, hj2⟩
    have HU2 := Lib.hid ((HU1.out.mono (by simp)).trans_same hu2)
    have HO2 : Hid (∀ g ∈ O2, g ∈ O ∨ w.heap.size ≤ g) := Lib.hid (fun g hg => (ho2 g hg).imp id (fun h => Nat.le_trans HU1.out.size h))
    have HJ2 := Lib.hid hj2
    have HB2 := Lib.hid (hu2.at HB1.out HNS.out)
    clear hu2 hj2 ho2 x0 x1 x2 x3 x4 x5
    have x5 := cell_of HB2.out 5
    simp only [List.getElem?_toArray, List.getElem?_cons_zero, List.getElem?_cons_succ] at x5
    go_wp2_with fail
    clear x5
    go_loopw [12] (fun i wr => ∃ (q : Nat) (Oq : List Nat), q ≤ ll ∧ i = .int .i64 q ∧ Hid (J (walksF f (l.take q) s1) (r + sizesF (l.drop q)) Oq wr ∧ Upto (S ++ O) w wr ∧ ∀ g ∈ Oq, g ∈ O ∨ w.heap.size ≤ g)) (fun i _ => ll - (intOf i).toNat)
    case atStart => exact ⟨0, O2, by omega, rfl, Lib.hid ⟨by simpa [walksF] using HJ2.out _ (by rw [HSE.out]; omega), HU2.out, HO2.out⟩⟩
    case round =>
      obtain ⟨q, Oq, hq, rfl, HR⟩ := hrel
      have hq0 : (0 : Int) ≤ q := by omega
      rcases Nat.lt_or_ge q ll with hlt | hge
      · obtain ⟨x, hx⟩ : ∃ x, l[q]? = some x := ⟨_, List.getElem?_eq_getElem (by have := HLL.out; omega)⟩
        obtain ⟨g, o, xo, xn1, xn2, xn3, xs, xm, xq, xl1, xl2, xl3, rfl, d0, d1, d2, d3, d4, d5, hnx⟩ := HPN.out wr HR.out.2.1 q x hx
        have hua : Upto [] wr (wr.alloc (.cells #[.int .i64 xo, .slice xn1 xn2 xn3, .int .i64 xs, .int .i64 xm, .int .i64 xq, .slice xl1 xl2 xl3] 30)) := (Upto.refl [] wr).alloc _
        have HSX := Lib.hid (sizesF_take l q x hx)
        have HDX : Hid (sizesF (l.drop q) = sizeF x + sizesF (l.drop (q + 1))) := Lib.hid (by
          obtain ⟨hi, rfl⟩ := List.getElem?_eq_some_iff.1 hx
          rw [List.drop_eq_getElem_cons hi]
          simp only [sizesF])
        have HC := Lib.hid (HIH.out x (List.mem_of_getElem? hx) (by have := HSZ.out; have := HSX.out; omega) _ (walksF f (l.take q) s1) (r + sizesF (l.drop (q + 1))) Oq _ (by have h1 := HJE.out _ _ _ _ _ HR.out.1 hua; rw [HDX.out] at h1; rw [show r + sizesF (l.drop (q + 1)) + sizeF x = r + (sizeF x + sizesF (l.drop (q + 1))) by omega]; exact h1) (hnx.ext hua))
        have hltI : (q : Int) < ll := by omega
        have HNX : Hid (walksF f (l.take (q + 1)) s1 = walkF f x (walksF f (l.take q) s1)) := Lib.hid (by rw [take_app1 l q x hx]; exact walksF_app f x _ _)
        have HUA := Lib.hid hua
        clear hua hnx hx
        go_wp2_with fail
        refine HC.out.mono ?_
        rintro e w7 ⟨rfl, O7, hj7, hu7, ho7⟩
        have HJ7 := Lib.hid hj7
        have HU7 := Lib.hid ((HR.out.2.1.trans_ext HUA.out).trans hu7 (fun k hk => by
          rcases List.mem_append.1 hk with h1 | h1
          · exact Or.inl (List.mem_append_left _ h1)
          · exact (HR.out.2.2 k h1).imp (fun h2 => List.mem_append_right _ h2) id))
        have HO7 : Hid (∀ g ∈ O7, g ∈ O ∨ w.heap.size ≤ g) := Lib.hid (fun g hg => by
          rcases ho7 g hg with h1 | h1
          · exact HR.out.2.2 g h1
          · exact Or.inr (Nat.le_trans (HR.out.2.1.trans_ext HUA.out).size h1))
        clear hj7 hu7 ho7
        go_wp2_with fail
        go_roundw
        case rel => exact ⟨q + 1, O7, by omega, by go_num, Lib.hid ⟨by rw [HNX.out]; exact HJ7.out, HU7.out, HO7.out⟩⟩
        case measure => simp [intOf]; omega
      · obtain rfl : q = ll := by omega
        have hgeI : ¬ (q : Int) < q := by omega
        have HTT : Hid (l.take q = l) := Lib.hid (by rw [← HLL.out, List.take_length])
        have HDD : Hid (l.drop q = []) := Lib.hid (by rw [← HLL.out, List.drop_length])
        rw [HTT.out, HDD.out] at HR
        go_wp2_with fail
        exact bodyPost_end (v := .tuple #[]) (by simp [results, Tryz.results55, go_sem]) rfl ⟨rfl, Oq, by rw [HE.out]; simpa [sizesF] using HR.out.1, HR.out.2.1, HR.out.2.2⟩
mutual
def sortN : Nd → Prop
  | .mk op _ so _ _ l => (op = 16 ∨ op = 17 → 0 ≤ so ∧ so ≤ 3) ∧ sortsN l
def sortsN : List Nd → Prop
  | [] => True
  | x :: xs => sortN x ∧ sortsN xs
end
theorem sortsN_mem : ∀ {l : List Nd}, sortsN l → ∀ x ∈ l, sortN x
  | [], _, x, hx => by cases hx
  | y :: ys, h, x, hx => by
    unfold sortsN at h
    rcases List.mem_cons.1 hx with rfl | hx
    · exact h.1
    · exact sortsN_mem h.2 x hx
theorem sortN_kids : ∀ op nms so nn mm l, sortN (.mk op nms so nn mm l) → ∀ x ∈ l, sortN x := fun op nms so nn mm l h => by
  unfold sortN at h
  exact sortsN_mem h.2
def cStep (sets : Bool) (s : Nat) : Nd → Nat
  | .mk op nms so _ _ _ => s + if cntB sets op nms.length so = true then 1 else 0
mutual
theorem cnt_walk (sets : Bool) : ∀ (n : Nd) (s : Nat), walkF (cStep sets) n s = s + cntF sets n
  | .mk op nms so nn mm l, s => by
    unfold walkF cntF
    rw [cnts_walk sets l]
    simp only [cStep]
    omega
theorem cnts_walk (sets : Bool) : ∀ (l : List Nd) (s : Nat), walksF (cStep sets) l s = s + cntsF sets l
  | [], s => by simp [walksF, cntsF]
  | x :: xs, s => by
    unfold walksF cntsF
    rw [cnt_walk sets x, cnts_walk sets xs]
    omega
end
def CoJ (w0 : World) (B B2 F : Nat) (c : Nat) (r : Nat) (O : List Nat) (u : World) : Prop := u.heap[B]? = some (.cells #[.int .i64 (c : Int)] 3 (0, 0)) ∧ u.heap[B2]? = some (.cells #[.func (.func F) #[] #[]] 79 (0, 0)) ∧ O = [] ∧ w0.heap.size ≤ u.heap.size ∧ c + r ≤ 200000
theorem CoJ.ext {w0 : World} {B B2 F c r : Nat} {O : List Nat} {u u' : World} (h : CoJ w0 B B2 F c r O u) (hu : Upto [] u u') : CoJ w0 B B2 F c r O u' := ⟨hu.at h.1 (by simp), hu.at h.2.1 (by simp), h.2.2.1, Nat.le_trans h.2.2.2.1 hu.size, h.2.2.2.2⟩
def CoPost (w0 : World) (B B2 F : Nat) (O : List Nat) (s' : Nat) (r : Nat) (u : World) (e : Ending) (w' : World) : Prop := e = .returned (.tuple #[]) ∧ ∃ O', Upto ([B] ++ O) u w' ∧ (∀ g ∈ O', g ∈ O ∨ u.heap.size ≤ g) ∧ ∀ r', r' + 1 ≤ r → CoJ w0 B B2 F s' r' O' w'
set_option maxRecDepth 100000 in
set_option maxHeartbeats 3200000 in
theorem cclosQ_calls (w0 : World) (B B2 : Nat) (_hB : B < w0.heap.size) (hne : B2 ≠ B) (s : Nat) (r : Nat) (O : List Nat) (w : World) (P : Nat → Prop) (nd : Nd) (v : Value) (hr : 1 ≤ r) (hso : sortN nd) (hJ : CoJ w0 B B2 57 s r O w) (h : NdV w P nd v) : Calls Tryz.prog 84 #[v, .pointer (some ⟨B2, 0, none⟩), .pointer (some ⟨B, 0, none⟩)] w (CoPost w0 B B2 57 O (cStep false s nd) r w) := by
  obtain ⟨op, nms, so, nn, mm, l⟩ := nd
  obtain ⟨a1, c1, a2, c2, rfl, -, -⟩ := h.open
  unfold sortN at hso
  obtain ⟨W, hW⟩ : ∃ W, W = w.alloc (.cells #[.int .i64 op, .slice a1 nms.length c1, .int .i64 so, .int .i64 nn, .int .i64 mm, .slice a2 l.length c2] 30) := ⟨_, rfl⟩
  have HU1 : Hid (Upto [] w W) := Lib.hid (by rw [hW]; exact (Upto.refl [] w).alloc _)
  have HB1 : Hid (W.heap[w.heap.size]? = some (.cells #[.int .i64 op, .slice a1 nms.length c1, .int .i64 so, .int .i64 nn, .int .i64 mm, .slice a2 l.length c2] 30 (0, 0))) := Lib.hid (by rw [hW]; exact new_at w _)
  have HCL := Lib.hid (fun u => binds_calls op a1 nms.length c1 so nn mm a2 l.length c2 u)
  have HE : Hid (cStep false s (.mk op nms so nn mm l) = s + if cntB false op nms.length so = true then 1 else 0) := Lib.hid rfl
  generalize cStep false s (.mk op nms so nn mm l) = s' at *
  have HJ := Lib.hid hJ
  have HJ1 := Lib.hid (hJ.ext HU1.out)
  have hs1 : (s : Int) ≤ 200000 := by have := hJ.2.2.2.2; omega
  have hs0 : (0 : Int) ≤ s := by omega
  have z0 := cell_of HJ1.out.2.1 0
  rw [show cntB false op nms.length so = bindsF op nms.length by simp [cntB]] at HE
  generalize bindsF op nms.length = bb at *
  generalize hll : l.length = ll at *
  generalize hnl : nms.length = nl at *
  obtain ⟨x0, x1, x2, x3, x4, x5⟩ := cells6 HB1.out
  simp only [List.getElem?_toArray, List.getElem?_cons_zero] at z0
  rw [hW] at z0
  clear h hll hnl hJ hso
  go_enter Tryz.func84, Tryz.ntmps84
  go_wp2_with fail
  simp only [← hW] at z0 ⊢
  clear hW
  try go_wp2_with fail
  refine (HCL.out _).mono ?_
  rintro e w2 ⟨rfl, hu2⟩
  have HU2 := Lib.hid (HU1.out.trans_ext hu2)
  have HJ2 := Lib.hid (HJ1.out.ext hu2)
  have HO : Hid (O = []) := Lib.hid HJ.out.2.2.1
  clear hu2 x0 x1 x2 x3 x4 x5 z0
  cases bb with
  | false =>
    have HS' : Hid (s' = s) := Lib.hid (by rw [HE.out]; simp)
    go_wp2_with fail
    refine bodyPost_end (v := .tuple #[]) (by simp [results, Tryz.results84, go_sem]) rfl ⟨rfl, O, HU2.out.mono (by simp), fun g hg => Or.inl hg, fun r' hr' => ?_⟩
    rw [HS'.out]
    exact ⟨HJ2.out.1, HJ2.out.2.1, HJ2.out.2.2.1, HJ2.out.2.2.2.1, by have := HJ2.out.2.2.2.2; omega⟩
  | true =>
    have HS' : Hid (s' = s + 1) := Lib.hid (by rw [HE.out]; simp)
    have y0 := cell_of HJ2.out.1 0
    have f0 := free_of HJ2.out.1 0
    simp only [List.getElem?_toArray, List.getElem?_cons_zero] at y0
    go_wp2_with fail
    clear y0 f0
    have hst := set_same HJ2.out.1 0 (.int .i64 ((s : Int) + 1))
    simp only [List.setIfInBounds_toArray, List.set_cons_zero] at hst
    have hself : Upto [B] w2 (w2.setCell ⟨B, 0, none⟩ (.int .i64 ((s : Int) + 1))) := (Upto.refl [B] w2).setCell (Or.inl (by simp)) _
    refine bodyPost_end (v := .tuple #[]) (by simp [results, Tryz.results84, go_sem]) rfl ⟨rfl, O, ?_, fun g hg => Or.inl hg, fun r' hr' => ?_⟩
    · exact (HU2.out.mono (by simp)).trans hself (fun k hk => Or.inl (by simp at hk; simp [hk]))
    · rw [HS'.out]
      exact ⟨hst, hself.at HJ2.out.2.1 (by simp; exact hne), HO.out, Nat.le_trans HJ2.out.2.2.2.1 hself.size, by have := HJ2.out.2.2.2.2; omega⟩
set_option maxRecDepth 100000 in
set_option maxHeartbeats 3200000 in
theorem countQ_calls (nd : Nd) (v : Value) (w : World) (P : Nat → Prop) (h : NdV w P nd v) (hk : sizeF nd ≤ 100000) (hg : sortN nd) : Calls Tryz.prog 60 #[v, .func (.func 57) #[] #[]] w fun e w' => e = .returned (.int .i64 (cntF false nd)) ∧ Upto [] w w' := by
  obtain ⟨op, a1, n1, c1, so, nn, mm, a2, n2, c2, rfl⟩ := h.six
  obtain ⟨W, hW⟩ : ∃ W, W = ((w.alloc (.cells #[.int .i64 op, .slice a1 n1 c1, .int .i64 so, .int .i64 nn, .int .i64 mm, .slice a2 n2 c2] 30)).alloc (.cells #[.func (.func 57) #[] #[]] 79)).alloc (.cells #[.int .i64 0] 3) := ⟨_, rfl⟩
  have HU1 : Hid (Upto [] w W) := Lib.hid (by rw [hW]; exact (((Upto.refl [] w).alloc _).alloc _).alloc _)
  have HB1 : Hid (W.heap[w.heap.size]? = some (.cells #[.int .i64 op, .slice a1 n1 c1, .int .i64 so, .int .i64 nn, .int .i64 mm, .slice a2 n2 c2] 30 (0, 0))) := Lib.hid (by rw [hW]; exact alloc_old (alloc_old (new_at w _) _) _)
  have HB2 : Hid (W.heap[w.heap.size + 1]? = some (.cells #[.func (.func 57) #[] #[]] 79 (0, 0))) := Lib.hid (by rw [hW]; exact alloc_old (new_at1 w _ _) _)
  have HB3 : Hid (W.heap[w.heap.size + 1 + 1]? = some (.cells #[.int .i64 0] 3 (0, 0))) := Lib.hid (by rw [hW]; exact new_at2 w _ _ _)
  have HLT := Lib.hid (lt_of_heap HB3.out)
  have HW := Lib.hid (walkC_calls (.pointer (some ⟨w.heap.size + 1, 0, none⟩)) (.pointer (some ⟨w.heap.size + 1 + 1, 0, none⟩)) sortN sortN_kids (cStep false) W [w.heap.size + 1 + 1] (fun b => b < w.heap.size) (CoJ W (w.heap.size + 1 + 1) (w.heap.size + 1) 57) (fun b hb => ⟨Nat.lt_of_lt_of_le hb HU1.out.size, by simp; omega⟩) (fun g hg => by simp at hg; subst hg; exact HLT.out)
    (fun _ _ _ _ hJ => ⟨hJ.2.2.2.1, fun g hg => by rw [hJ.2.2.1] at hg; cases hg⟩) (fun _ _ _ _ _ hJ hu => hJ.ext hu) (fun s r O u x v hJ hs hv => cclosQ_calls W (w.heap.size + 1 + 1) (w.heap.size + 1) HLT.out (by omega) s (r + sizeF x) O u _ x v (by have := sizeF_pos x; omega) hs hJ hv)
    100000 nd hk (by omega) hg _ 0 0 [] W ⟨HB3.out, HB2.out, rfl, Nat.le_refl _, by omega⟩ (h.here.ext HU1.out))
  obtain ⟨x0, x1, x2, x3, x4, x5⟩ := cells6 HB1.out
  clear h
  go_enter Tryz.func60, Tryz.ntmps60
  go_wp2_with fail
  simp only [← hW]
  clear hW
  try go_wp2_with fail
  refine HW.out.mono ?_
  rintro e w2 ⟨rfl, O', hj, hu, -⟩
  rw [cnt_walk, Nat.zero_add] at hj
  have HU2 : Hid (Upto [] w w2) := Lib.hid (HU1.out.trans hu (fun k hk => Or.inr (by simp at hk; omega)))
  have z0 := cell_of hj.1 0
  simp only [List.getElem?_toArray, List.getElem?_cons_zero] at z0
  clear hj hu x0 x1 x2 x3 x4 x5
  go_wp2_with fail
  go_ret
  exact ⟨rfl, HU2.out⟩
set_option maxRecDepth 100000 in
set_option maxHeartbeats 1600000 in
theorem Quantifiers_calls (nd : Nd) (v : Value) (w : World) (P : Nat → Prop) (h : NdV w P nd v) (hk : sizeF nd ≤ 100000) (hg : sortN nd) : Calls Tryz.prog 23 #[v] w fun e w' => e = .returned (.int .i64 (cntF false nd)) ∧ Upto [] w w' := by
  obtain ⟨op, a1, n1, c1, so, nn, mm, a2, n2, c2, rfl⟩ := h.six
  have HU1 := Lib.hid ((Upto.refl [] w).alloc (.cells #[.int .i64 op, .slice a1 n1 c1, .int .i64 so, .int .i64 nn, .int .i64 mm, .slice a2 n2 c2] 30))
  have HC := Lib.hid (countQ_calls nd _ _ P (h.ext HU1.out) hk hg)
  clear h
  go_enter Tryz.func23, Tryz.ntmps23
  go_wp2_with fail
  refine HC.out.mono ?_
  rintro e w2 ⟨rfl, hu⟩
  have HU2 := Lib.hid (HU1.out.trans_ext hu)
  clear hu
  go_wp2_with fail
  go_ret
  exact ⟨rfl, HU2.out⟩
end Go.Proofs.YtbnebkkpmcjmbaaGreatDoor
namespace Go.Proofs.YtbnebkkpmcjmbaaGreatDoor
open Go.PL
def headOk (b : Bool) (L : List (Bool × Tok)) : Prop := ∃ t r, L = (b, t) :: r ∧ (t.text ≠ [102, 105, 110, 100] ∨ t.kind = 1)
theorem headOk.mk {b : Bool} {t : Tok} {r : List (Bool × Tok)} (h : t.text ≠ [102, 105, 110, 100] ∨ t.kind = 1) : headOk b ((b, t) :: r) := ⟨t, r, rfl, h⟩
def varsE (nm : List UInt8 → Bool) : List (List UInt8 × Int) → List (List UInt8) → Nat
  | [], _ => 0
  | v :: r, seen => if nm v.1 = false then 3 else if (decide (v.2 < 0) || decide (3 < v.2)) = true then 2 else if seen.contains v.1 = true then 7 else varsE nm r (seen ++ [v.1])
def rightF (nm : List UInt8 → Bool) (q : Qn) : Nat :=
  if 8 < q.free.length then 8 else if varsE nm q.free [] ≠ 0 then varsE nm q.free [] else checkF nm q.body
end Go.Proofs.YtbnebkkpmcjmbaaGreatDoor
namespace Go.Proofs.YtbnebkkpmcjmbaaGreatDoor
open Go.RowKit Go.PL Go.Maps
structure OfRow (w0 w : World) (B : Nat) (c : Nat → Nat → Value) (v : Value) (ms : List Nd) : Prop where
  row : w.ownsRow 0 30 6 v ms.length (cellsN c ms.length)
  nd : ∀ i m, ms[i]? = some m → NdV w (Lr w0 B v) m (.agg #[c i 0, c i 1, c i 2, c i 3, c i 4, c i 5])
  own : ∀ g, v.ownBlock = some g → w0.heap.size ≤ g ∧ g ≠ B
theorem OfRow.upto {w0 w w' : World} {S : List Nat} {B : Nat} {c : Nat → Nat → Value} {v : Value} {ms : List Nd} (h : OfRow w0 w B c v ms) (hu : Upto S w w') (hS : ∀ k ∈ S, k < w0.heap.size ∨ k = B) : OfRow w0 w' B c v ms :=
  ⟨ownsRow_upto h.row hu (fun g hg hm => by have h1 := h.own g hg; rcases hS g hm with h2 | h2 <;> omega),
   fun i m hi => (h.nd i m hi).upto hu (fun b hb _ hm => by have h1 := hb.1; unfold New at h1; rcases hS b hm with h2 | h2; omega; exact hb.2.1 h2), h.own⟩
theorem OfRow.app {w0 w w5 : World} {B : Nat} {c : Nat → Nat → Value} {v : Value} {ms : List Nd} {m : Nd} {v0 v1 v2 v3 v4 v5 : Value} {b' : Option Addr} {c' : Nat} (h : OfRow w0 w B c v ms) (hsz : w0.heap.size ≤ w.heap.size) (hBw : B < w.heap.size)
    (hm : NdV w (Lr w0 B v) m (.agg #[v0, v1, v2, v3, v4, v5])) (ho : w5.ownsRow 0 30 6 (.slice b' (ms.length + 1) c') (ms.length + 1) (cellsN c ms.length ++ [v0, v1, v2, v3, v4, v5])) (hu : Upto v.ownBlock.toList w w5)
    (hw : ∀ g, (Value.slice b' (ms.length + 1) c').ownBlock = some g → v.ownBlock = some g ∨ w.heap.size ≤ g) : OfRow w0 w5 B (addC c ms.length v0 v1 v2 v3 v4 v5) (.slice b' (ms.length + 1) c') (ms ++ [m]) := by
  have key : ∀ x u, NdV w (Lr w0 B v) x u → NdV w5 (Lr w0 B (.slice b' (ms.length + 1) c')) x u := fun x u hx =>
    NdV.keep ⟨hu.size, fun b hb hl => ⟨⟨hb.1, hb.2.1, fun e => by
      rcases hw b e with h1 | h1
      · exact hb.2.2 h1
      · have := hl.lt; omega⟩, hu.block b hl.lt (fun hmm => hb.2.2 (Option.mem_toList.1 hmm))⟩⟩ x u hx
  refine ⟨?_, ?_, ?_⟩
  · rw [List.length_append, List.length_singleton, cellsN_add]
    exact ho
  · intro i x hi
    by_cases hlt : i < ms.length
    · rw [List.getElem?_append_left hlt] at hi
      have := key _ _ (h.nd i x hi)
      simpa [addC, Nat.ne_of_lt hlt] using this
    · rw [List.getElem?_append_right (by omega)] at hi
      cases hd : i - ms.length with
      | zero =>
        rw [hd] at hi
        simp at hi
        subst hi
        have : i = ms.length := by omega
        subst this
        simpa [addC] using key _ _ hm
      | succ z => rw [hd] at hi; simp at hi
  · intro g hg
    rcases hw g hg with h1 | h1
    · exact h.own g h1
    · exact ⟨by omega, by omega⟩
theorem OfRow.list {w0 w : World} {B : Nat} {c : Nat → Nat → Value} {v : Value} {ms : List Nd} {Q : Nat → Prop} (h : OfRow w0 w B c v ms) (h1 : ∀ b, Lr w0 B v b → Q b) (h2 : ∀ g, v.ownBlock = some g → Q g) : (ms = [] ∧ ∃ a c, v = .slice a 0 c) ∨ ∃ g o c, v = .slice (some ⟨g, o, none⟩) ms.length c ∧ (Q g ∧ IsC w g) ∧ NdsV w Q g o ms := by
  rcases h.row.2 with ⟨e, h0⟩ | ⟨g, cap, cur, e, _, hh, _, _, _, ht⟩
  · exact Or.inl ⟨List.eq_nil_of_length_eq_zero h0, none, 0, e⟩
  · refine Or.inr ⟨g, 0, cap, e, ⟨h2 g (by rw [e]; rfl), _, _, _, hh⟩, nds_of ms 0 fun i x hi => ?_⟩
    have hil : i < ms.length := (List.getElem?_eq_some_iff.1 hi).1
    have cl : ∀ j, j < 6 → w.cell? ⟨g, 0 + i * 6 + j, none⟩ = some (c i j) := fun j hj => by
      rw [cell_of hh]
      have := cellsN_at c hil hj
      rw [← ht, List.getElem?_take] at this
      split at this
      · simpa using this
      · cases this
    exact ⟨_, _, _, _, _, _, cl 0 (by omega), cl 1 (by omega), cl 2 (by omega), cl 3 (by omega), cl 4 (by omega), cl 5 (by omega), (h.nd i x hi).mono fun b hb _ => h1 b hb⟩
theorem infoO4 : (Tryz.prog.info? 30).map (fun i => (i.zero, i.size, i.bytes)) = some (some (.agg #[.int .i64 0, .slice none 0 0, .int .i64 0, .int .i64 0, .int .i64 0, .slice none 0 0]), 6, 80) := by kernel_rfl
theorem infoO4' : ∃ i, Tryz.prog.info? 30 = some i ∧ i.zero = some (.agg #[.int .i64 0, .slice none 0 0, .int .i64 0, .int .i64 0, .int .i64 0, .slice none 0 0]) ∧ i.size = 6 ∧ i.bytes = 80 := by
  have h := infoO4
  cases hi : Tryz.prog.info? 30 with
  | none => rw [hi] at h; cases h
  | some i =>
    rw [hi] at h
    simp only [Option.map_some, Option.some.injEq, Prod.mk.injEq] at h
    exact ⟨i, rfl, h.1, h.2.1, h.2.2⟩
structure OfI (w w9 : World) (bn : Nat) (op so nn mm : Int) (na : Option Addr) (nl nc : Nat) (ns : List Value) (l : List Nd) (j : Nat) (wr : World) : Prop where
  up : Upto [bn] w9 wr
  old : Upto [] w wr
  st : ∃ (va : Option Addr) (vn vc : Nat) (c : Nat → Nat → Value), wr.heap[bn]? = some (.cells #[.int .i64 op, .slice na nl nc, .int .i64 so, .int .i64 nn, .int .i64 mm, .slice va vn vc] 30 (0, 0)) ∧ OfRow w9 wr bn c (.slice va vn vc) (l.take j)
theorem of_step {w w9 wr w10 w5 W : World} {bn : Nat} {op so nn mm : Int} {na : Option Addr} {nl nc : Nat} {ns : List Value} {l : List Nd} {vn : Nat} {va : Option Addr} {vc : Nat} {c : Nat → Nat → Value} {x : Nd} {v0 v1 v2 v3 v4 v5 : Value} {b5 : Option Addr} {c5 : Nat}
    (HI : OfI w w9 bn op so nn mm na nl nc ns l vn wr) (HLT : W.heap.size ≤ bn ∧ bn < w9.heap.size) (HWL : w.heap.size < W.heap.size) (HUP : Upto [] W w9)
    (hbk : wr.heap[bn]? = some (.cells #[.int .i64 op, .slice na nl nc, .int .i64 so, .int .i64 nn, .int .i64 mm, .slice va vn vc] 30 (0, 0))) (hrow : OfRow w9 wr bn c (.slice va vn vc) (l.take vn))
    (hu : Upto [] wr w10) (hn : NdV w10 (New wr) x (.agg #[v0, v1, v2, v3, v4, v5])) (hjl : (l.take vn).length = vn) (htk : l.take (vn + 1) = l.take vn ++ [x])
    (ho5 : w5.ownsRow 0 30 6 (.slice b5 (vn + 1) c5) (vn + 1) (cellsN c vn ++ [v0, v1, v2, v3, v4, v5])) (hu5 : Upto (Value.slice va vn vc).ownBlock.toList w10 w5) (hw5 : ∀ g, (Value.slice b5 (vn + 1) c5).ownBlock = some g → (Value.slice va vn vc).ownBlock = some g ∨ w10.heap.size ≤ g) :
    w5.heap[bn]? = some (.cells #[.int .i64 op, .slice na nl nc, .int .i64 so, .int .i64 nn, .int .i64 mm, .slice va vn vc] 30 (0, 0)) ∧ OfI w w9 bn op so nn mm na nl nc ns l (vn + 1) (w5.setCell ⟨bn, 5, none⟩ (.slice b5 (vn + 1) c5)) := by
  have hown : ∀ g, g ∈ (Value.slice va vn vc).ownBlock.toList → w9.heap.size ≤ g ∧ g ≠ bn := fun g hg => hrow.own g (Option.mem_toList.1 hg)
  have hold : ∀ g, (Value.slice va vn vc).ownBlock = some g → g < wr.heap.size := fun g hg => by
    obtain ⟨cur, hh⟩ := ownsRow_block hrow.row hg
    exact lt_of_heap hh
  have hb5 := hu5.at (hu.at hbk (by simp)) (fun hm => (hown _ hm).2 rfl)
  have hst : Upto [bn] w5 (w5.setCell ⟨bn, 5, none⟩ (.slice b5 (vn + 1) c5)) := (Upto.refl [bn] w5).setCell (p := ⟨bn, 5, none⟩) (Or.inl (by simp)) _
  have hs9 := HI.up.size
  have hs10 := hu.size
  have hW := HUP.size
  have hbw := lt_of_heap hbk
  refine ⟨hb5, ⟨?_, ?_, b5, vn + 1, c5, addC c vn v0 v1 v2 v3 v4 v5, ?_, ?_⟩⟩
  · exact ((HI.up.trans_ext hu).trans hu5 (fun k hk => Or.inr (hown k hk).1)).setCell (p := ⟨bn, 5, none⟩) (Or.inl (by simp)) _
  · exact ((HI.old.trans_ext hu).trans hu5 (fun k hk => Or.inr (by have := (hown k hk).1; omega))).setCell (p := ⟨bn, 5, none⟩) (Or.inr (by simp; omega)) _
  · have := set_same hb5 5 (.slice b5 (vn + 1) c5)
    simpa using this
  · have happ := OfRow.app (m := x) (v0 := v0) (v1 := v1) (v2 := v2) (v3 := v3) (v4 := v4) (v5 := v5) (b' := b5) (c' := c5) (w5 := w5) (hrow.upto hu (by simp)) (by omega) (by omega)
      (hn.mono (fun b hb _ => ⟨by unfold New at hb ⊢; omega, by unfold New at hb; omega, fun e => by have := hold b e; unfold New at hb; omega⟩)) (by rw [hjl]; exact ho5) hu5 (by rw [hjl]; exact hw5)
    rw [hjl] at happ
    rw [htk]
    exact happ.upto hst (fun k hk => Or.inr (by simpa using hk))
theorem of_end {w w9 wr W : World} {bn : Nat} {op so nn mm : Int} {na : Option Addr} {nc : Nat} {ns : List Value} {names : List (List UInt8)} {l : List Nd} {vn : Nat} {va : Option Addr} {vc : Nat} {c : Nat → Nat → Value} {_P : Nat → Prop}
    (HI : OfI w w9 bn op so nn mm na names.length nc ns l vn wr) (HLT : W.heap.size ≤ bn ∧ bn < w9.heap.size) (_HWL : w.heap.size < W.heap.size) (HW2 : w.heap.size + 1 < W.heap.size) (HUP : Upto [] W w9)
    (hbn : w9.heap[bn]? = some (.cells #[.int .i64 0, .slice none 0 0, .int .i64 0, .int .i64 0, .int .i64 0, .slice none 0 0] 30 (0, 0)))
    (hsl : SlP w9 (New W) (.slice na names.length nc) names.length (names.map sV))
    (_hz2 : wr.heap[w.heap.size + 1]? = some (.cells #[.int .i64 0, .slice none 0 0, .int .i64 0, .int .i64 0, .int .i64 0, .slice none 0 0] 30 (0, 0)))
    (hrow : OfRow w9 wr bn c (.slice va vn vc) (l.take vn)) (htk : l.take vn = l) (_hll : l.length = vn) :
    BkPost w (.mk op names so nn mm l) (.returned (.agg #[.int .i64 op, .slice na names.length nc, .int .i64 so, .int .i64 nn, .int .i64 mm, .slice va vn vc])) ((((((wr.setCell ⟨w.heap.size + 1, 0, none⟩ (.int .i64 op)).setCell ⟨w.heap.size + 1, 1, none⟩ (.slice na names.length nc)).setCell ⟨w.heap.size + 1, 2, none⟩ (.int .i64 so)).setCell ⟨w.heap.size + 1, 3, none⟩ (.int .i64 nn)).setCell ⟨w.heap.size + 1, 4, none⟩ (.int .i64 mm)).setCell ⟨w.heap.size + 1, 5, none⟩ (.slice va vn vc)) := by
  have hst := nd_self wr (w.heap.size + 1) (.int .i64 op) (.slice na names.length nc) (.int .i64 so) (.int .i64 nn) (.int .i64 mm) (.slice va vn vc)
  have hW := HUP.size
  have hrow2 := hrow.upto hst (fun k hk => Or.inl (by simp at hk; omega))
  rw [htk] at hrow2
  have hs2 := ((names_ne hsl rfl hbn).upto HI.up (fun b hb _ => by simpa using hb.2)).upto hst (fun b hb _ => by have := hb.1; unfold New at this; simp; omega)
  refine ⟨_, rfl, ?_, nd_up HI.old (Or.inr (by omega)) ..⟩
  unfold NdV
  refine ⟨_, _, rfl, hs2.mono (fun b hb _ => by have := hb.1; unfold New at this ⊢; omega), ?_⟩
  have := hrow2.list (Q := New w) (fun b hb => by have := hb.1; unfold New at this ⊢; omega) (fun g hg => by have := (hrow.own g hg).1; unfold New; omega)
  exact this
set_option maxRecDepth 100000 in
set_option maxHeartbeats 6400000 in
theorem of_calls : ∀ (k : Nat) (nd : Nd), sizeF nd ≤ k → k ≤ 10000000 → bigN nd → ∀ (P : Nat → Prop) (v : Value) (w : World), NdV w P nd v → Calls Tryz.prog 12 #[v] w (BkPost w nd)
  | 0, nd, hk, _, _, _, _, _, _ => by have := sizeF_pos nd; omega
  | k + 1, .mk op names so nn mm l, hk, hk7, hbg, P, v, w, h => by
    obtain ⟨a1, c1, a2, c2, rfl, hs, hls⟩ := h.open
    unfold bigN at hbg
    have hsz : sizesF l ≤ k := by simp only [sizeF] at hk; omega
    have hln := sizes_len l
    have hu2 : Upto [] w ((w.alloc (.cells #[.int .i64 op, .slice a1 names.length c1, .int .i64 so, .int .i64 nn, .int .i64 mm, .slice a2 l.length c2] 25)).alloc (.cells #[.int .i64 0, .slice none 0 0, .int .i64 0, .int .i64 0, .int .i64 0, .slice none 0 0] 30)) := ((Upto.refl [] w).alloc _).alloc _
    have hb1 := alloc_old (new_at w (.cells #[.int .i64 op, .slice a1 names.length c1, .int .i64 so, .int .i64 nn, .int .i64 mm, .slice a2 l.length c2] 25)) (.cells #[.int .i64 0, .slice none 0 0, .int .i64 0, .int .i64 0, .int .i64 0, .slice none 0 0] 30)
    have hb2 := new_at1 w (.cells #[.int .i64 op, .slice a1 names.length c1, .int .i64 so, .int .i64 nn, .int .i64 mm, .slice a2 l.length c2] 25) (.cells #[.int .i64 0, .slice none 0 0, .int .i64 0, .int .i64 0, .int .i64 0, .slice none 0 0] 30)
    obtain ⟨W, hW⟩ : ∃ W, W = ((w.alloc (.cells #[.int .i64 op, .slice a1 names.length c1, .int .i64 so, .int .i64 nn, .int .i64 mm, .slice a2 l.length c2] 25)).alloc (.cells #[.int .i64 0, .slice none 0 0, .int .i64 0, .int .i64 0, .int .i64 0, .slice none 0 0] 30)) := ⟨_, rfl⟩
    rw [← hW] at hu2 hb1 hb2
    have HU2 := Lib.hid hu2
    have HB1 := Lib.hid hb1
    have HB2 := Lib.hid hb2
    have hns : SlP W P (.slice a1 names.length c1) (names.map sV).length (names.map sV) := by rw [List.length_map]; exact hs.ext hu2
    have HNS := Lib.hid hns.slc
    have HNL := Lib.hid hbg.1
    obtain ⟨i0, hi0, hz0, hz1, hz2⟩ := info9'
    obtain ⟨x0, x1, x2, x3, x4, x5⟩ := cells6 hb1
    have hwl : w.heap.size < W.heap.size := lt_of_heap hb1
    have hwr := Upto.refl [] W
    clear hs h hu2 hb1 hb2 hns
    go_enter Tryz.func12, Tryz.ntmps12
    go_wp2_with fail
    simp only [← hW]
    clear hW
    have e0 : ∀ u : Ext W, u.w.cell? ⟨w.heap.size, 0, none⟩ = some _ := fun u => u.cell x0
    have e1 : ∀ u : Ext W, u.w.cell? ⟨w.heap.size, 1, none⟩ = some _ := fun u => u.cell x1
    have e2 : ∀ u : Ext W, u.w.cell? ⟨w.heap.size, 2, none⟩ = some _ := fun u => u.cell x2
    have e3 : ∀ u : Ext W, u.w.cell? ⟨w.heap.size, 3, none⟩ = some _ := fun u => u.cell x3
    have e4 : ∀ u : Ext W, u.w.cell? ⟨w.heap.size, 4, none⟩ = some _ := fun u => u.cell x4
    refine wp_region_seg_at [2, 5] [13] [0, 1, 2, 3, 4, 5, 6, 7, 8, 9, 10, 11, 12, 13] [14] 14 (by kernel_rfl) (by kernel_rfl) (by kernel_rfl) ?_
    iterate 2 (refine seg_plain rfl rfl rfl rfl rfl ?_; intro K' hK'; go_big_quiet_op; go_big_quiet_on)
    refine seg_opq (Y := Nat) (fun b => .slice (some ⟨b, 0, none⟩) 0 0) (fun _ _ => True) (fun _ => []) rfl rfl rfl rfl (fun _ _ _ h _ => h) (fun _ => List.nodup_nil) (fun w' post hu hd hp => (congrArg (opqUpon Tryz.prog post) (show _ = Result.ok (Next.value (.slice (some ⟨w'.heap.size, 0, none⟩) 0 0)) (w'.alloc (.cells #[] 9)) from by go_simp)).mpr (hp w'.heap.size _ ((Upto.refl [] w').alloc _) trivial (fun b hb => by cases hb))) ?_
    intro be
    simp only [Act.put, List.setIfInBounds_toArray, List.set_cons_zero, List.set_cons_succ]
    iterate 2 (refine seg_plain rfl rfl rfl rfl rfl ?_; intro K' hK'; go_big_quiet_op; go_big_quiet_on)
    refine seg_opq (Y := Option Addr × Nat) (fun y => .slice y.1 names.length y.2) (fun y u => SlP u (New W) (.slice y.1 names.length y.2) names.length (names.map sV)) (fun _ => []) rfl rfl rfl rfl (fun _ _ _ h hu => h.ext hu) (fun _ => List.nodup_nil) (fun w' post hu hd hp => opq_apps w' (.tmp 7) (.tmp 9) 22 rfl 9 i0 (.string ⟨#[]⟩) 16 Tryz.underlying22 hi0 hz0 hz1 hz2 rfl be rfl (.slice a1 names.length c1) (names.map sV) names.length (by simp) rfl (HNS.out.ext hu) (by have := HNL.out; unfold maxLen; omega) (by have := HNL.out; omega) (fun b' c' w2 hu2 hsl => hp (b', c') w2 hu2 (hsl.mono (fun b hb _ => New.mono hu b hb)) (fun b hb => by cases hb))) ?_
    rintro ⟨na, nc⟩
    simp only [Act.put, List.setIfInBounds_toArray, List.set_cons_zero, List.set_cons_succ]
    iterate 7 (refine seg_plain rfl rfl rfl rfl rfl ?_; intro K' hK'; go_big_quiet_op; go_big_quiet_on)
    refine seg_alloc (.cells #[.int .i64 0, .slice none 0 0, .int .i64 0, .int .i64 0, .int .i64 0, .slice none 0 0] 30) rfl rfl rfl (fun w => by go_simp) ?_
    intro bn
    simp only [Act.put, List.setIfInBounds_toArray, List.set_cons_zero, List.set_cons_succ]
    intro w9 hg
    have hup := hg.up
    have hnb := hg.hold.1
    have hsl := hg.hold.2.1
    have hin := hg.inb
    simp only [List.drop_succ_cons, List.drop_zero]
    have hbn : W.heap.size ≤ bn ∧ bn < w9.heap.size := hin _ (List.Mem.head _) bn (List.Mem.head _)
    have HSL := Lib.hid hsl
    have HUP := Lib.hid hup
    have HBN := Lib.hid hnb
    have HLT := Lib.hid hbn
    have HWL := Lib.hid hwl
    have hw2 : w.heap.size + 1 < W.heap.size := lt_of_heap HB2.out
    have HW2 := Lib.hid hw2
    obtain ⟨n0, n1, n2, n3, n4, n5⟩ := cells6 hnb
    obtain ⟨f0, f1, f2, f3, f4, f5⟩ := frees6 hnb
    have hset := set_same (set_same (set_same (set_same (set_same (set_same hnb 0 (.int .i64 op)) 1 (.slice na names.length nc)) 2 (.int .i64 so)) 3 (.int .i64 nn)) 4 (.int .i64 mm)) 5 (.slice none 0 0)
    simp only [List.setIfInBounds_toArray, List.set_cons_zero, List.set_cons_succ] at hset
    have hsu : Upto [bn] w9 ((((((w9.setCell ⟨bn, 0, none⟩ (.int .i64 op)).setCell ⟨bn, 1, none⟩ (.slice na names.length nc)).setCell ⟨bn, 2, none⟩ (.int .i64 so)).setCell ⟨bn, 3, none⟩ (.int .i64 nn)).setCell ⟨bn, 4, none⟩ (.int .i64 mm)).setCell ⟨bn, 5, none⟩ (.slice none 0 0)) := nd_self ..
    have HI0 : Hid (OfI w w9 bn op so nn mm na names.length nc (names.map sV) l 0 ((((((w9.setCell ⟨bn, 0, none⟩ (.int .i64 op)).setCell ⟨bn, 1, none⟩ (.slice na names.length nc)).setCell ⟨bn, 2, none⟩ (.int .i64 so)).setCell ⟨bn, 3, none⟩ (.int .i64 nn)).setCell ⟨bn, 4, none⟩ (.int .i64 mm)).setCell ⟨bn, 5, none⟩ (.slice none 0 0))) := Lib.hid
      ⟨hsu, (HU2.out.trans_ext hup).trans hsu (fun k hk => Or.inr (by simp at hk; omega)), none, 0, 0, fun _ _ => undef, hset, ⟨by simpa [cellsN] using World.ownsRow_nil _ 0 30 6, by simp, by intro g hg; cases hg⟩⟩
    clear hg hup hnb hsl hin hset hsu e0 e1 e2 e3 e4
    go_wp2_with fail
    have HLS := Lib.hid hls
    have HLN : Hid (l.length ≤ 10000000) := Lib.hid (by omega)
    generalize hll : l.length = ll at *
    have HLL := Lib.hid hll
    have hL0 : (0 : Int) ≤ ll := by omega
    have hL1 : (ll : Int) ≤ 10000000 := by have := HLN.out; omega
    clear hls hll
    go_loopw [4] (fun v wr => ∃ j : Nat, j ≤ ll ∧ v = .int .i64 j ∧ Hid (OfI w w9 bn op so nn mm na names.length nc (names.map sV) l j wr)) (fun v _ => ll - (intOf v).toNat)
    case atStart => exact ⟨0, by omega, rfl, HI0⟩
    case round =>
      obtain ⟨j, hj, rfl, HI⟩ := hrel
      obtain ⟨va, vn, vc, c, hbk, hrow⟩ := HI.out.st
      have hbox := HI.out.up.at (HUP.out.at HB1.out (by simp)) (by have := HLT.out; have := HWL.out; simp; omega)
      have z5 := cell_of hbox 5
      have y5 := cell_of hbk 5
      have g5 := free_of hbk 5
      simp only [List.getElem?_toArray, List.getElem?_cons_zero, List.getElem?_cons_succ] at z5 y5
      obtain ⟨va', vc', hve, -⟩ := ownsRow_len hrow.row
      simp only [Value.slice.injEq] at hve
      have hvn : vn = j := by have := HLL.out; rw [hve.2.1, List.length_take]; omega
      clear hve
      subst hvn
      rcases Nat.lt_or_ge vn ll with hlt | hge
      · obtain ⟨x, hx⟩ : ∃ x, l[vn]? = some x := ⟨_, List.getElem?_eq_getElem (by have := HLL.out; omega)⟩
        obtain ⟨g, o, xo, xn1, xn2, xn3, xs, xm, xq, xl1, xl2, xl3, rfl, c0, c1', c2', c3, c4, c5, hn⟩ := (HLS.out.ext HI.out.old) vn x hx
        have hjl : (l.take vn).length = vn := by have := HLL.out; rw [List.length_take]; omega
        have HJL := Lib.hid hjl
        have HTK : Hid (l.take (vn + 1) = l.take vn ++ [x]) := Lib.hid (by
          obtain ⟨hi, rfl⟩ := List.getElem?_eq_some_iff.1 hx
          exact List.take_succ_eq_append_getElem hi)
        have HROW := Lib.hid hrow
        have HBK := Lib.hid hbk
        have hxs := sizesF_mem (List.mem_of_getElem? hx)
        have HC := Lib.hid (fun w1 (hu : Upto [] wr w1) => of_calls k x (by omega) (by omega) (bigs_mem hbg.2 (List.mem_of_getElem? hx)) P _ w1 (hn.ext hu))
        have hltI : (vn : Int) < ll := by omega
        have hj0 : (0 : Int) ≤ vn := by omega
        clear hrow hbk hbox hn hx
        go_wp2_with fail
        have e0 : ∀ u : Ext wr, u.w.cell? ⟨bn, 5, none⟩ = some (.slice va vn vc) := fun u => u.cell y5
        have e1 : ∀ u : Ext wr, u.w.cell? ⟨w.heap.size, 5, none⟩ = some _ := fun u => u.cell z5
        have k0 : ∀ u : Ext wr, u.w.cell? ⟨g, o + vn * 6, none⟩ = some _ := fun u => u.cell c0
        have k1 : ∀ u : Ext wr, u.w.cell? ⟨g, o + vn * 6 + 1, none⟩ = some _ := fun u => u.cell c1'
        have k2 : ∀ u : Ext wr, u.w.cell? ⟨g, o + vn * 6 + 2, none⟩ = some _ := fun u => u.cell c2'
        have k3 : ∀ u : Ext wr, u.w.cell? ⟨g, o + vn * 6 + 3, none⟩ = some _ := fun u => u.cell c3
        have k4 : ∀ u : Ext wr, u.w.cell? ⟨g, o + vn * 6 + 4, none⟩ = some _ := fun u => u.cell c4
        have k5 : ∀ u : Ext wr, u.w.cell? ⟨g, o + vn * 6 + 5, none⟩ = some _ := fun u => u.cell c5
        clear y5 z5 g5 c0 c1' c2' c3 c4 c5
        refine wp_region_seg_at [7, 8] [] [0, 1, 2, 3, 4, 5, 6, 7, 8] [9, 10, 11] 9 (by kernel_rfl) (by kernel_rfl) (by kernel_rfl) ?_
        iterate 7 (refine seg_plain rfl rfl rfl rfl rfl ?_; intro K' hK'; go_big_quiet_op; go_big_quiet_on)
        refine seg_callO (Y := (Int × Option Addr × Nat × Nat) × Int × Int × Int × Option Addr × Nat × Nat) (fun y => .agg #[.int .i64 y.1.1, .slice y.1.2.1 y.1.2.2.1 y.1.2.2.2, .int .i64 y.2.1, .int .i64 y.2.2.1, .int .i64 y.2.2.2.1, .slice y.2.2.2.2.1 y.2.2.2.2.2.1 y.2.2.2.2.2.2]) (fun y u => NdV u (New wr) x (.agg #[.int .i64 y.1.1, .slice y.1.2.1 y.1.2.2.1 y.1.2.2.2, .int .i64 y.2.1, .int .i64 y.2.2.1, .int .i64 y.2.2.2.1, .slice y.2.2.2.2.1 y.2.2.2.2.2.1 y.2.2.2.2.2.2])) (fun _ => []) rfl rfl rfl rfl (fun _ _ _ h hu => h.ext hu) (fun _ => List.nodup_nil) (fun w => by go_simp) (fun w' hu hd => (HC.out w' hu).mono fun e w2 ⟨v, h1, h2, h3⟩ => by
          obtain ⟨ro, rn1, rn2, rn3, rs, rm, rq, rl1, rl2, rl3, rfl⟩ := h2.six
          exact ⟨((ro, rn1, rn2, rn3), rs, rm, rq, rl1, rl2, rl3), h1, h3, h2.mono (fun b hb _ => New.mono hu b hb), fun b hb => by cases hb⟩) ?_
        rintro ⟨⟨ro, rn1, rn2, rn3⟩, rs, rm, rq, rl1, rl2, rl3⟩
        simp only [Act.put, List.setIfInBounds_toArray, List.set_cons_zero, List.set_cons_succ]
        refine seg_opq (Y := Nat) (fun b => .slice (some ⟨b, 0, none⟩) 1 1) (fun b u => u.heap[b]? = some (.cells #[.int .i64 ro, .slice rn1 rn2 rn3, .int .i64 rs, .int .i64 rm, .int .i64 rq, .slice rl1 rl2 rl3] 30 (0, 0))) (fun _ => []) rfl rfl rfl rfl (fun _ _ _ h hu => hu.at h (by simp)) (fun _ => List.nodup_nil) (fun w' post hu hd hp => (congrArg (opqUpon Tryz.prog post) (show _ = Result.ok (Next.value (.slice (some ⟨w'.heap.size, 0, none⟩) 1 1)) (w'.alloc (.cells #[.int .i64 ro, .slice rn1 rn2 rn3, .int .i64 rs, .int .i64 rm, .int .i64 rq, .slice rl1 rl2 rl3] 30)) from by go_simp)).mpr (hp w'.heap.size _ ((Upto.refl [] w').alloc _) (new_at _ _) (fun b hb => by cases hb))) ?_
        intro b8
        simp only [Act.put, List.setIfInBounds_toArray, List.set_cons_zero, List.set_cons_succ]
        intro w10 hg
        have HU10 := Lib.hid hg.up
        have HB8 : Hid (w10.heap[b8]? = some (.cells #[.int .i64 ro, .slice rn1 rn2 rn3, .int .i64 rs, .int .i64 rm, .int .i64 rq, .slice rl1 rl2 rl3] 30 (0, 0))) := Lib.hid hg.hold.1
        have HND : Hid (NdV w10 (New wr) x (.agg #[.int .i64 ro, .slice rn1 rn2 rn3, .int .i64 rs, .int .i64 rm, .int .i64 rq, .slice rl1 rl2 rl3])) := Lib.hid hg.hold.2.1
        simp only [List.drop_succ_cons, List.drop_zero]
        clear hg e0 e1 k0 k1 k2 k3 k4 k5
        have HR10 := Lib.hid (HROW.out.upto HU10.out (by simp))
        have hr10 := HR10.out.row
        rw [hjl] at hr10
        have HRR := Lib.hid hr10
        obtain ⟨i1, hi1, hy0, hy1, hy2⟩ := infoO4'
        have hL7 := HLN.out
        have HA := Lib.hid (fun b5 c5 w5 (ho5 : w5.ownsRow 0 30 6 (.slice b5 (vn + 1) c5) (vn + 1) (cellsN c vn ++ [.int .i64 ro, .slice rn1 rn2 rn3, .int .i64 rs, .int .i64 rm, .int .i64 rq, .slice rl1 rl2 rl3])) (hu5 : Upto (Value.slice va vn vc).ownBlock.toList w10 w5) (hw5 : ∀ g, (Value.slice b5 (vn + 1) c5).ownBlock = some g → (Value.slice va vn vc).ownBlock = some g ∨ w10.heap.size ≤ g) => of_step HI.out HLT.out HWL.out HUP.out HBK.out HROW.out HU10.out HND.out HJL.out HTK.out ho5 hu5 hw5)
        clear hr10 hjl
        go_wp2_with (at_builtin
                     refine wpList_app _ rfl (.tmp 26) (.tmp 33) 28 rfl 30 i1 (.agg #[.int .i64 0, .slice none 0 0, .int .i64 0, .int .i64 0, .int .i64 0, .slice none 0 0]) 6 80 Tryz.underlying28 hi1 hy0 hy1 hy2 rfl (by decide) (.slice va vn vc) vn (cellsN c vn) rfl HRR.out ⟨b8, 0, none⟩ 1 1 [.int .i64 ro, .slice rn1 rn2 rn3, .int .i64 rs, .int .i64 rm, .int .i64 rq, .slice rl1 rl2 rl3] rfl rfl (six_at HB8.out) (by simp [Value.oneCell']) (by unfold maxLen; omega) (by omega) ?_
                     intro b5 c5 w5 ho5 hu5 hw5
                     obtain ⟨hbk5, hI5⟩ := HA.out b5 c5 w5 ho5 hu5 hw5
                     have y5 := cell_of hbk5 5
                     have g5 := free_of hbk5 5
                     simp only [List.getElem?_toArray, List.getElem?_cons_zero, List.getElem?_cons_succ] at y5
                     have HI5 := Lib.hid hI5
                     clear ho5 hu5 hw5 hbk5 hI5)
        go_roundw
        case rel => exact ⟨vn + 1, by omega, by go_num, HI5⟩
        case measure => simp [intOf]; omega
      · obtain rfl : vn = ll := by omega
        have hgeI : ¬ ((vn : Int) < vn) := by omega
        have HROW := Lib.hid hrow
        have HBK := Lib.hid hbk
        have hz2 := HI.out.up.at (HUP.out.at HB2.out (by simp)) (by have h1 := HLT.out; have h2 := HW2.out; simp; omega)
        have HZ2 := Lib.hid hz2
        obtain ⟨p0, p1, p2, p3, p4, p5⟩ := cells6 hbk
        obtain ⟨r0, r1, r2, r3, r4, r5⟩ := cells6 hz2
        obtain ⟨t0, t1, t2, t3, t4, t5⟩ := frees6 hz2
        have hF := of_end (names := names) (_P := P) HI.out HLT.out HWL.out HW2.out HUP.out HBN.out HSL.out HZ2.out HROW.out (List.take_of_length_le (by have := HLL.out; omega)) HLL.out
        have HF := Lib.hid hF
        clear hrow hbk hz2 hbox hF
        go_wp2_with fail
        have hst := nd_store HZ2.out (.int .i64 op) (.slice na names.length nc) (.int .i64 so) (.int .i64 nn) (.int .i64 mm) (.slice va vn vc)
        obtain ⟨q0, q1, q2, q3, q4, q5⟩ := cells6 hst
        exact bodyPost_ret (v := .agg #[.int .i64 op, .slice na names.length nc, .int .i64 so, .int .i64 nn, .int .i64 mm, .slice va vn vc]) (by simp [results, go_sem, q0, q1, q2, q3, q4, q5]) rfl HF.out
set_option maxRecDepth 100000 in
set_option maxHeartbeats 1600000 in
theorem rank5_calls (a1 : Option Addr) (n1 c1 : Nat) (so nn mm : Int) (a2 : Option Addr) (c2 : Nat) (w : World) : Calls Tryz.prog 26 #[.agg #[.int .i64 5, .slice a1 n1 c1, .int .i64 so, .int .i64 nn, .int .i64 mm, .slice a2 0 c2]] w fun e w' => e = .returned (.int .i64 0) ∧ Upto [] w w' := by
  have HU := Lib.hid ((Upto.refl [] w).alloc (.cells #[.int .i64 5, .slice a1 n1 c1, .int .i64 so, .int .i64 nn, .int .i64 mm, .slice a2 0 c2] 30))
  have HB := Lib.hid (new_at w (.cells #[.int .i64 5, .slice a1 n1 c1, .int .i64 so, .int .i64 nn, .int .i64 mm, .slice a2 0 c2] 30))
  have HBI := Lib.hid (fun u => binds5_calls a1 n1 c1 so nn mm a2 0 c2 u)
  obtain ⟨W, hW⟩ : ∃ W, W = w.alloc (.cells #[.int .i64 5, .slice a1 n1 c1, .int .i64 so, .int .i64 nn, .int .i64 mm, .slice a2 0 c2] 30) := ⟨_, rfl⟩
  rw [← hW] at HU HB
  go_enter Tryz.func26, Tryz.ntmps26
  go_wp2_with fail
  simp only [← hW]
  clear hW
  go_loopw [3, 9] (fun vo vi wr => vo = .int .i64 0 ∧ vi = .int .i64 0 ∧ wr = W) (fun _ _ _ => 0)
  case atStart => exact ⟨rfl, rfl, rfl⟩
  case round =>
    obtain ⟨rfl, rfl, rfl⟩ := hrel
    obtain ⟨x0, x1, x2, x3, x4, x5⟩ := cells6 HB.out
    go_wp2_with fail
    refine (HBI.out _).mono ?_
    rintro e w1 ⟨rfl, hu1⟩
    have HU1 := Lib.hid (HU.out.trans_ext hu1)
    clear hu1
    go_wp2_with fail
    go_ret
    exact ⟨rfl, HU1.out⟩
def LfB (w : World) (gl ol : Nat) (a2 : Option Addr) (n2 c2 : Nat) (so nn mm : Int) (a3 : Option Addr) (c3 : Nat) : Prop := w.cell? ⟨gl, ol, none⟩ = some (.int .i64 5) ∧ w.cell? ⟨gl, ol + 1, none⟩ = some (.slice a2 n2 c2) ∧ w.cell? ⟨gl, ol + 2, none⟩ = some (.int .i64 so) ∧ w.cell? ⟨gl, ol + 3, none⟩ = some (.int .i64 nn) ∧ w.cell? ⟨gl, ol + 4, none⟩ = some (.int .i64 mm) ∧ w.cell? ⟨gl, ol + 5, none⟩ = some (.slice a3 0 c3)
theorem LfB.ext {w w' : World} {gl ol : Nat} {a2 : Option Addr} {n2 c2 : Nat} {so nn mm : Int} {a3 : Option Addr} {c3 : Nat} (h : LfB w gl ol a2 n2 c2 so nn mm a3 c3) (hu : Upto [] w w') : LfB w' gl ol a2 n2 c2 so nn mm a3 c3 := by
  have up : ∀ {p : Addr} {u : Value}, w.cell? p = some u → w'.cell? p = some u := fun hp => (hu.cell (World.block_lt_of_cell? w _ hp) (by simp)).trans hp
  obtain ⟨h0, h1, h2, h3, h4, h5⟩ := h
  exact ⟨up h0, up h1, up h2, up h3, up h4, up h5⟩
set_option maxRecDepth 100000 in
set_option maxHeartbeats 1600000 in
theorem rank16_calls (g1 o1 c1 gl ol cl : Nat) (a2 : Option Addr) (n2 c2 : Nat) (so nn mm : Int) (a3 : Option Addr) (c3 : Nat) (w : World) (h : LfB w gl ol a2 n2 c2 so nn mm a3 c3) : Calls Tryz.prog 26 #[.agg #[.int .i64 16, .slice (some ⟨g1, o1, none⟩) 1 c1, .int .i64 0, .int .i64 0, .int .i64 0, .slice (some ⟨gl, ol, none⟩) 1 cl]] w fun e w' => e = .returned (.int .i64 1) ∧ Upto [] w w' := by
  have HBI := Lib.hid (fun u => binds16_calls (some ⟨g1, o1, none⟩) 1 c1 0 0 0 (some ⟨gl, ol, none⟩) 1 cl (by omega) u)
  have HRK := Lib.hid (fun u => rank5_calls a2 n2 c2 so nn mm a3 c3 u)
  obtain ⟨W, hW⟩ : ∃ W, W = w.alloc (.cells #[.int .i64 16, .slice (some ⟨g1, o1, none⟩) 1 c1, .int .i64 0, .int .i64 0, .int .i64 0, .slice (some ⟨gl, ol, none⟩) 1 cl] 30) := ⟨_, rfl⟩
  have HU : Hid (Upto [] w W) := Lib.hid (by rw [hW]; exact (Upto.refl [] w).alloc _)
  have HB : Hid (W.heap[w.heap.size]? = some (.cells #[.int .i64 16, .slice (some ⟨g1, o1, none⟩) 1 c1, .int .i64 0, .int .i64 0, .int .i64 0, .slice (some ⟨gl, ol, none⟩) 1 cl] 30 (0, 0))) := Lib.hid (by rw [hW]; exact new_at w _)
  have HL := Lib.hid (h.ext HU.out)
  clear h
  go_enter Tryz.func26, Tryz.ntmps26
  go_wp2_with fail
  simp only [← hW]
  clear hW
  go_loopw [3, 9] (fun vo vi wr => ∃ j : Nat, j ≤ 1 ∧ vo = .int .i64 0 ∧ vi = .int .i64 j ∧ Hid (Upto [] W wr)) (fun _ vi _ => 1 - (intOf vi).toNat)
  case atStart => exact ⟨0, by omega, rfl, rfl, Lib.hid (Upto.refl _ _)⟩
  case round =>
    obtain ⟨j, hj, rfl, rfl, HI⟩ := hrel
    obtain rfl | rfl : j = 0 ∨ j = 1 := by omega
    · obtain ⟨l0, l1, l2, l3, l4, l5⟩ := HL.out.ext HI.out
      have HA := Lib.hid (HI.out.alloc (.cells #[.int .i64 5, .slice a2 n2 c2, .int .i64 so, .int .i64 nn, .int .i64 mm, .slice a3 0 c3] 30))
      go_wp2_with fail
      refine (HRK.out _).mono ?_
      rintro e w1 ⟨rfl, hu1⟩
      have HU1 := Lib.hid (HA.out.trans_ext hu1)
      clear hu1 l0 l1 l2 l3 l4 l5
      go_wp2_with fail
      exact ⟨⟨1, by omega, rfl, rfl, HU1⟩, by simp [intOf]⟩
    · have HB1 := Lib.hid (HI.out.at HB.out (by simp))
      obtain ⟨x0, x1, x2, x3, x4, x5⟩ := cells6 HB1.out
      go_wp2_with fail
      refine (HBI.out _).mono ?_
      rintro e w1 ⟨rfl, hu1⟩
      have HU1 := Lib.hid ((HU.out.trans_ext HI.out).trans_ext hu1)
      clear hu1
      go_wp2_with fail
      go_ret
      exact ⟨rfl, HU1.out⟩
end Go.Proofs.YtbnebkkpmcjmbaaGreatDoor
namespace Go.Proofs.YtbnebkkpmcjmbaaGreatDoor
open Go.RowKit Go.PL Go.Maps Go.Shelf
set_option maxRecDepth 100000 in
set_option maxHeartbeats 2000000 in
theorem mclone_calls (b : Nat) (es : Array MapEntry) (clock : Nat) (w : World) (hb : w.heap[b]? = some (.map es clock)) :
    Calls Tryz.prog 89 #[.map (some b)] w fun e w' => e = .returned (.map (some w.heap.size)) ∧ w' = w.alloc (.map es clock) := by
  have hq := fun w => run_eql_map_nil_sl (P := Tryz.prog) w 99 _ _ (some b) Tryz.underlying99
  go_enter Tryz.func89, Tryz.ntmps89
  go_wp2
  rw [run_callFunc_extern Tryz.func98 (by kernel_rfl) (by kernel_rfl) (by kernel_rfl) (e := Extern.MapsClone.clone) (by kernel_rfl), run_maps_clone_sl w 99 hb]
  simp only [Result.andThen]
  rw [Oper.upon_value]
  go_wp2
  rw [run_typeAssert_map_sl _ 99 20 _ _ _ Tryz.underlying99]
  simp only [Result.andThen]
  rw [Oper.upon_value]
  go_wp2
  go_ret
  exact ⟨rfl, rfl⟩
end Go.Proofs.YtbnebkkpmcjmbaaGreatDoor
namespace Go.Proofs.YtbnebkkpmcjmbaaGreatDoor
open Go.RowKit Go.PL Go.Maps
set_option maxRecDepth 100000 in
set_option maxHeartbeats 2000000 in
theorem atom_calls (g o c2 : Nat) (so nn mm : Int) (a3 : Option Addr) (n3 c3 : Nat) (b : Nat) (w : World) (h0 : w.cell? ⟨g, o, none⟩ = some (sV [120])) (hlk : ∀ u, Upto [] w u → (Instr.lookup 99 (.map (some b)) (.string ⟨#[120]⟩) true).run Tryz.prog u = .ok (.tuple #[.int .i64 0, .bool false]) u) : Calls Tryz.prog 90 #[.agg #[.int .i64 5, .slice (some ⟨g, o, none⟩) 2 c2, .int .i64 so, .int .i64 nn, .int .i64 mm, .slice a3 n3 c3], .map (some b)] w fun e w' => e = .returned (.agg #[.int .i64 21, .string ⟨#[120]⟩]) ∧ Upto [] w w' := by
  obtain ⟨W, hW⟩ : ∃ W, W = (w.alloc (.cells #[.int .i64 5, .slice (some ⟨g, o, none⟩) 2 c2, .int .i64 so, .int .i64 nn, .int .i64 mm, .slice a3 n3 c3] 30)).alloc (.cells #[.int .i64 0, .string ⟨#[]⟩] 64) := ⟨_, rfl⟩
  have HU : Hid (Upto [] w W) := Lib.hid (by rw [hW]; exact ((Upto.refl [] w).alloc _).alloc _)
  have HB1 : Hid (W.heap[w.heap.size]? = some (.cells #[.int .i64 5, .slice (some ⟨g, o, none⟩) 2 c2, .int .i64 so, .int .i64 nn, .int .i64 mm, .slice a3 n3 c3] 30 (0, 0))) := Lib.hid (by rw [hW]; exact alloc_old (new_at w _) _)
  obtain ⟨x0, x1⟩ := cells2 HB1.out
  have n0 := (HU.out.cell (World.block_lt_of_cell? w _ h0) (by simp)).trans h0
  unfold sV at n0
  have HB2 : Hid (W.heap[w.heap.size + 1]? = some (.cells #[.int .i64 0, .string ⟨#[]⟩] 64 (0, 0))) := Lib.hid (by rw [hW]; exact new_at1 w _ _)
  obtain ⟨y0, y1⟩ := cells2 HB2.out
  obtain ⟨f0, f1⟩ := frees2 HB2.out
  have hl := hlk W HU.out
  clear hlk h0
  go_enter Tryz.func90, Tryz.ntmps90
  go_wp2_with fail
  simp only [← hW]
  clear hW
  go_loopw [23] (fun vi wr => vi = .int .i64 0 ∧ wr = W) (fun _ _ => 0)
  case atStart => exact ⟨rfl, rfl⟩
  case round =>
    obtain ⟨rfl, rfl⟩ := hrel
    go_wp2_with fail
    clear x0 x1 y0 y1 f0 f1 n0 hl
    have hst := set_same (set_same HB2.out 0 (.int .i64 21)) 1 (.string ⟨#[120]⟩)
    simp only [List.setIfInBounds_toArray, List.set_cons_zero, List.set_cons_succ] at hst
    have hup := (HU.out.setCell (p := ⟨w.heap.size + 1, 0, none⟩) (Or.inr (by simp)) (.int .i64 21)).setCell (p := ⟨w.heap.size + 1, 1, none⟩) (Or.inr (by simp)) (.string ⟨#[120]⟩)
    obtain ⟨q0, q1⟩ := cells2 hst
    exact bodyPost_ret (v := .agg #[.int .i64 21, .string ⟨#[120]⟩]) (by simp [results, Tryz.results90, go_sem, q0, q1]) rfl ⟨rfl, hup⟩
set_option maxRecDepth 100000 in
set_option maxHeartbeats 2000000 in
theorem check5_calls (g o c2 : Nat) (so nn mm : Int) (a3 : Option Addr) (n3 c3 : Nat) (b : Nat) (w : World) (h0 : w.cell? ⟨g, o, none⟩ = some (sV [120])) (hlk : ∀ u, Upto [] w u → (Instr.lookup 99 (.map (some b)) (.string ⟨#[120]⟩) true).run Tryz.prog u = .ok (.tuple #[.int .i64 0, .bool false]) u) : Calls Tryz.prog 69 #[.agg #[.int .i64 5, .slice (some ⟨g, o, none⟩) 2 c2, .int .i64 so, .int .i64 nn, .int .i64 mm, .slice a3 n3 c3], .map (some b)] w fun e w' => e = .returned (.agg #[.int .i64 21, .string ⟨#[120]⟩]) ∧ Upto [] w w' := by
  obtain ⟨W, hW⟩ : ∃ W, W = (w.alloc (.cells #[.int .i64 5, .slice (some ⟨g, o, none⟩) 2 c2, .int .i64 so, .int .i64 nn, .int .i64 mm, .slice a3 n3 c3] 30)).alloc (.cells #[.int .i64 0, .string ⟨#[]⟩] 64) := ⟨_, rfl⟩
  have HU : Hid (Upto [] w W) := Lib.hid (by rw [hW]; exact ((Upto.refl [] w).alloc _).alloc _)
  have HB1 : Hid (W.heap[w.heap.size]? = some (.cells #[.int .i64 5, .slice (some ⟨g, o, none⟩) 2 c2, .int .i64 so, .int .i64 nn, .int .i64 mm, .slice a3 n3 c3] 30 (0, 0))) := Lib.hid (by rw [hW]; exact alloc_old (new_at w _) _)
  have HB2 : Hid (W.heap[w.heap.size + 1]? = some (.cells #[.int .i64 0, .string ⟨#[]⟩] 64 (0, 0))) := Lib.hid (by rw [hW]; exact new_at1 w _ _)
  have HAT := Lib.hid (fun u (hu : Upto [] w u) => atom_calls g o c2 so nn mm a3 n3 c3 b u ((hu.cell (World.block_lt_of_cell? w _ h0) (by simp)).trans h0) (fun v hv => hlk v (hu.trans_ext hv)))
  obtain ⟨x0, x1, x2, x3, x4, x5⟩ := cells6 HB1.out
  clear h0 hlk
  go_enter Tryz.func69, Tryz.ntmps69
  go_wp2_with fail
  simp only [← hW]
  clear hW
  refine (HAT.out _ HU.out).mono ?_
  rintro e w1 ⟨rfl, hu1⟩
  have HB3 := Lib.hid (hu1.at HB2.out (by simp))
  have HU1 := Lib.hid (HU.out.trans_ext hu1)
  clear hu1 x0 x1 x2 x3 x4 x5
  obtain ⟨y0, y1⟩ := cells2 HB3.out
  obtain ⟨f0, f1⟩ := frees2 HB3.out
  go_wp2_with fail
  clear y0 y1 f0 f1
  have hst := set_same (set_same HB3.out 0 (.int .i64 21)) 1 (.string ⟨#[120]⟩)
  simp only [List.setIfInBounds_toArray, List.set_cons_zero, List.set_cons_succ] at hst
  have hup := (HU1.out.setCell (p := ⟨w.heap.size + 1, 0, none⟩) (Or.inr (by simp)) (.int .i64 21)).setCell (p := ⟨w.heap.size + 1, 1, none⟩) (Or.inr (by simp)) (.string ⟨#[120]⟩)
  obtain ⟨q0, q1⟩ := cells2 hst
  exact bodyPost_ret (v := .agg #[.int .i64 21, .string ⟨#[120]⟩]) (by simp [results, Tryz.results69, go_sem, q0, q1]) rfl ⟨rfl, hup⟩
set_option maxRecDepth 100000 in
set_option maxHeartbeats 2000000 in
theorem check16_calls (g1 o1 c1 gl ol cl g o c2 : Nat) (so nn mm : Int) (a3 : Option Addr) (c3 : Nat) (b : Nat) (w : World) (hb : w.heap[b]? = some (.map #[] 0)) (hn : w.cell? ⟨g1, o1, none⟩ = some (sV [121])) (h0 : w.cell? ⟨g, o, none⟩ = some (sV [120])) (hl : LfB w gl ol (some ⟨g, o, none⟩) 2 c2 so nn mm a3 c3) : Calls Tryz.prog 69 #[.agg #[.int .i64 16, .slice (some ⟨g1, o1, none⟩) 1 c1, .int .i64 0, .int .i64 0, .int .i64 0, .slice (some ⟨gl, ol, none⟩) 1 cl], .map (some b)] w fun e w' => e = .returned (.agg #[.int .i64 21, .string ⟨#[120]⟩]) ∧ Upto [] w w' := by
  obtain ⟨W, hW⟩ : ∃ W, W = (w.alloc (.cells #[.int .i64 16, .slice (some ⟨g1, o1, none⟩) 1 c1, .int .i64 0, .int .i64 0, .int .i64 0, .slice (some ⟨gl, ol, none⟩) 1 cl] 30)).alloc (.cells #[.int .i64 0, .string ⟨#[]⟩] 64) := ⟨_, rfl⟩
  have HU : Hid (Upto [] w W) := Lib.hid (by rw [hW]; exact ((Upto.refl [] w).alloc _).alloc _)
  have HB1 : Hid (W.heap[w.heap.size]? = some (.cells #[.int .i64 16, .slice (some ⟨g1, o1, none⟩) 1 c1, .int .i64 0, .int .i64 0, .int .i64 0, .slice (some ⟨gl, ol, none⟩) 1 cl] 30 (0, 0))) := Lib.hid (by rw [hW]; exact alloc_old (new_at w _) _)
  have HB2 : Hid (W.heap[w.heap.size + 1]? = some (.cells #[.int .i64 0, .string ⟨#[]⟩] 64 (0, 0))) := Lib.hid (by rw [hW]; exact new_at1 w _ _)
  have HBI := Lib.hid (fun u => binds16_calls (some ⟨g1, o1, none⟩) 1 c1 0 0 0 (some ⟨gl, ol, none⟩) 1 cl (by omega) u)
  have HMB := Lib.hid (HU.out.at hb (by simp))
  have HLB := Lib.hid (fun u (hu : Upto [] w u) => hl.ext hu)
  have HN0 := Lib.hid (fun u (hu : Upto [] w u) => (hu.cell (World.block_lt_of_cell? w _ h0) (by simp)).trans h0)
  obtain ⟨x0, x1, x2, x3, x4, x5⟩ := cells6 HB1.out
  go_enter Tryz.func69, Tryz.ntmps69
  go_wp2_with fail
  simp only [← hW]
  clear hW
  refine (HBI.out _).mono ?_
  rintro e w1 ⟨rfl, hu1⟩
  have HB3 := Lib.hid (hu1.at HB1.out (by simp))
  have HR3 := Lib.hid (hu1.at HB2.out (by simp))
  have HM1 := Lib.hid (hu1.at HMB.out (by simp))
  have HU1 := Lib.hid (HU.out.trans_ext hu1)
  clear hu1 x0 x1 x2 x3 x4 x5
  go_wp2_with fail
  refine (mclone_calls b #[] 0 w1 HM1.out).mono ?_
  rintro e w2 ⟨rfl, rfl⟩
  go_wp2_with fail
  have hm4 := MapL.made Tryz.prog 9 w1
  obtain ⟨W4, hW4⟩ : ∃ W4, W4 = w1.alloc (.map #[] 0) := ⟨_, rfl⟩
  have HWL := Lib.hid HU1.out.size
  have HWB := Lib.hid (lt_of_heap HB3.out)
  have HU4 : Hid (Upto [] w W4) := Lib.hid (by rw [hW4]; exact HU1.out.alloc _)
  have HB4 : Hid (W4.heap[w.heap.size]? = some (.cells #[.int .i64 16, .slice (some ⟨g1, o1, none⟩) 1 c1, .int .i64 0, .int .i64 0, .int .i64 0, .slice (some ⟨gl, ol, none⟩) 1 cl] 30 (0, 0))) := Lib.hid (by rw [hW4]; exact alloc_old HB3.out _)
  have HR4 : Hid (W4.heap[w.heap.size + 1]? = some (.cells #[.int .i64 0, .string ⟨#[]⟩] 64 (0, 0))) := Lib.hid (by rw [hW4]; exact alloc_old HR3.out _)
  have HRB := Lib.hid (lt_of_heap HR3.out)
  rw [← hW4] at hm4
  have HM4 := Lib.hid hm4
  simp only [← hW4]
  clear hW4 hm4
  have hn4 := (HU4.out.cell (World.block_lt_of_cell? w _ hn) (by simp)).trans hn
  unfold sV at hn4
  have e1 : ∀ u : Ext W4, u.w.cell? ⟨w.heap.size, 1, none⟩ = some (.slice (some ⟨g1, o1, none⟩) 1 c1) := fun u => u.cell (cell_of HB4.out 1)
  have e2 : ∀ u : Ext W4, u.w.cell? ⟨w.heap.size, 2, none⟩ = some (.int .i64 0) := fun u => u.cell (cell_of HB4.out 2)
  have en : ∀ u : Ext W4, u.w.cell? ⟨g1, o1, none⟩ = some (.string ⟨#[121]⟩) := fun u => u.cell hn4
  clear hn4
  refine wp_region_seg_at [] [] [0, 1, 2, 3, 4, 5, 6] [7] 7 (by kernel_rfl) (by kernel_rfl) (by kernel_rfl) ?_
  iterate 7 (refine seg_plain rfl rfl rfl rfl rfl ?_; intro K' hK'; go_big_quiet_op; go_big_quiet_on)
  intro w5 hg
  have HU5 := Lib.hid (HU4.out.trans_ext hg.up)
  have hm5 := HM4.out.upto hg.up (by simp)
  have HB5 := Lib.hid (hg.up.at HB4.out (by simp))
  have HR5 := Lib.hid (hg.up.at HR4.out (by simp))
  simp only [List.drop_succ_cons, List.drop_zero]
  clear hg e1 e2 en
  go_wp2_with (refine wpList_insert _ rfl _ _ _ 99 rfl 9 3 lawS Tryz.underlying99 w1.heap.size [] rfl hm5 (.string ⟨#[121]⟩) (.int .i64 0) _ rfl rfl (keyS Tryz.underlying9 (by decide)) (by simp) ?_; intro w6 hm6 hg6; have HU6 := Lib.hid (HU5.out.grown hg6 (fun k hk => by cases hk; exact Or.inr HWL.out)); have HB6 := Lib.hid (((Upto.refl [w1.heap.size] w5).grown hg6 (fun k hk => by cases hk; simp)).at HB5.out (by have := HWB.out; simp; omega)); have HR6 := Lib.hid (((Upto.refl [w1.heap.size] w5).grown hg6 (fun k hk => by cases hk; simp)).at HR5.out (by have := HRB.out; simp; omega)); have HM6 := Lib.hid hm6; clear hm6 hg6; have z5 := cell_of HB6.out 5; simp only [List.getElem?_toArray, List.getElem?_cons_zero, List.getElem?_cons_succ] at z5)
  have HLK : Hid (∀ u, Upto [] w6 u → (Instr.lookup 99 (.map (some w1.heap.size)) (.string ⟨#[120]⟩) true).run Tryz.prog u = .ok (.tuple #[.int .i64 0, .bool false]) u) := Lib.hid (fun u hu => by
    rcases (HM6.out.upto hu (by simp)).look lawS Tryz.underlying99 (z := .int .i64 0) rfl (x := .string ⟨#[120]⟩) (keyS Tryz.underlying9 (by decide)) true with ⟨h1, -⟩ | ⟨v, h1, -⟩
    · exact h1
    · simp at h1)
  have HC5 := Lib.hid (fun u (hu : Upto [] w6 u) => check5_calls g o c2 so nn mm a3 0 c3 w1.heap.size u (HN0.out u (HU6.out.trans_ext hu)) (fun v hv => HLK.out v (hu.trans_ext hv)))
  obtain ⟨l0, l1, l2, l3, l4, l5⟩ := HLB.out _ HU6.out
  clear hl h0 hn hb
  go_loopw [33] (fun vi wr => vi = .int .i64 0 ∧ wr = w6) (fun _ _ => 0)
  case atStart => exact ⟨rfl, rfl⟩
  case round =>
    obtain ⟨rfl, rfl⟩ := hrel
    go_wp2_with fail
    refine (HC5.out _ ((Upto.refl [] _).alloc _)).mono ?_
    rintro e w7 ⟨rfl, hu7⟩
    have HU7 := Lib.hid (((Upto.refl [] _).alloc (.cells #[.int .i64 5, .slice (some ⟨g, o, none⟩) 2 c2, .int .i64 so, .int .i64 nn, .int .i64 mm, .slice a3 0 c3] 30)).trans_ext hu7)
    have HR7 := Lib.hid (HU7.out.at HR6.out (by simp))
    clear hu7 z5 l0 l1 l2 l3 l4 l5
    have HR8 := Lib.hid (alloc_old HR7.out (.cells #[.int .i64 21, .string ⟨#[120]⟩] 64))
    obtain ⟨y0, y1⟩ := cells2 HR8.out
    obtain ⟨f0, f1⟩ := frees2 HR8.out
    go_wp2_with fail
    clear y0 y1 f0 f1
    have hst := set_same (set_same HR8.out 0 (.int .i64 21)) 1 (.string ⟨#[120]⟩)
    simp only [List.setIfInBounds_toArray, List.set_cons_zero, List.set_cons_succ] at hst
    have hup := (((HU6.out.trans_ext HU7.out).alloc (.cells #[.int .i64 21, .string ⟨#[120]⟩] 64)).setCell (p := ⟨w.heap.size + 1, 0, none⟩) (Or.inr (by simp)) (.int .i64 21)).setCell (p := ⟨w.heap.size + 1, 1, none⟩) (Or.inr (by simp)) (.string ⟨#[120]⟩)
    obtain ⟨q0, q1⟩ := cells2 hst
    exact bodyPost_ret (v := .agg #[.int .i64 21, .string ⟨#[120]⟩]) (by simp [results, Tryz.results69, go_sem, q0, q1]) rfl ⟨rfl, hup⟩
set_option maxRecDepth 100000 in
set_option maxHeartbeats 1600000 in
theorem hasc_calls (s : List UInt8) (w : World) (he : Env w) (hmax : s.length ≤ 281474976710656) : Calls Tryz.prog 100 #[.string ⟨s.toArray⟩] w fun e w' => e = .returned (.bool (!identF s)) ∧ Upto [] w w' := by
  have H := Lib.hid (isIdent_calls s w he hmax)
  generalize identF s = b at *
  go_enter Tryz.func100, Tryz.ntmps100
  go_wp2_with fail
  refine H.out.mono ?_
  rintro e w1 ⟨rfl, hu1⟩
  have HU1 := Lib.hid hu1
  clear hu1
  cases b
  · go_wp2_with fail
    go_ret
    exact ⟨rfl, HU1.out⟩
  · go_wp2_with fail
    go_ret
    exact ⟨rfl, HU1.out⟩
set_option maxRecDepth 100000 in
set_option maxHeartbeats 3200000 in
theorem indexf_calls (xs : List (List UInt8)) (a : Option Addr) (c : Nat) (w : World) (he : Env w) (hl : xs.length ≤ 10000000) (hx : ∀ x ∈ xs, x.length ≤ 10000000) (hc : ∀ i x, xs[i]? = some x → ∃ g o, a = some ⟨g, o, none⟩ ∧ w.cell? ⟨g, o + i, none⟩ = some (.string ⟨x.toArray⟩)) :
    Calls Tryz.prog 111 #[.slice a xs.length c, .func (.func 100) #[] #[]] w fun e w' => (∃ k : Int, e = .returned (.int .i64 k) ∧ (0 ≤ k ↔ xs.all identF = false)) ∧ Upto [] w w' := by
  have HE : Hid (∀ u, Upto [] w u → Env u) := Lib.hid (fun u hu => he.ext hu)
  have HC := Lib.hid hc
  have HX := Lib.hid hx
  generalize hB : xs.all identF = B at *
  have HB := Lib.hid hB
  clear hB
  generalize hL : xs.length = L at *
  have HL := Lib.hid hL
  have hL0 : (0 : Int) ≤ L := by omega
  have hL1 : (L : Int) ≤ 10000000 := by omega
  clear he hc hx hL
  go_enter Tryz.func111, Tryz.ntmps111
  go_wp2_with fail
  go_loopw [8] (fun i wr => ∃ j : Nat, j ≤ L ∧ i = .int .i64 j ∧ Hid (∀ q x, q < j → xs[q]? = some x → identF x = true) ∧ Hid (Upto [] w wr)) (fun i _ => L - (intOf i).toNat)
  case atStart => exact ⟨0, by omega, rfl, Lib.hid (fun q x hq => by omega), Lib.hid (Upto.refl _ _)⟩
  case round =>
    obtain ⟨j, hj, rfl, HA, HU⟩ := hrel
    have hj0 : (0 : Int) ≤ j := by omega
    rcases Nat.lt_or_ge j L with hlt | hge
    · have hltI : (j : Int) < L := by omega
      obtain ⟨x, hx⟩ : ∃ x, xs[j]? = some x := ⟨_, List.getElem?_eq_getElem (by have := HL.out; omega)⟩
      have hmem := List.mem_of_getElem? hx
      obtain ⟨g, o, rfl, c0⟩ := HC.out j x hx
      replace c0 := up_cell HU.out c0
      have HK := Lib.hid (hasc_calls x wr (HE.out wr HU.out) (by have := HX.out x hmem; omega))
      have hbb : identF x = true ∨ identF x = false := by cases identF x <;> simp
      rcases hbb with hb | hb
      · rw [hb] at HK
        have HA2 : Hid (∀ q x, q < j + 1 → xs[q]? = some x → identF x = true) := Lib.hid (fun q y hq hy => by
          by_cases hqj : q = j
          · subst hqj
            rw [hx] at hy
            cases hy
            exact hb
          · exact HA.out q y (by omega) hy)
        clear hx hmem hb
        go_wp2_with fail
        refine HK.out.mono ?_
        rintro e w5 ⟨rfl, hu5⟩
        have HU5 := Lib.hid (HU.out.trans_ext hu5)
        clear hu5
        go_wp2_with fail
        go_roundw
        case rel => exact ⟨j + 1, by omega, by go_num, HA2, HU5⟩
        case measure => simp [intOf]; omega
      · rw [hb] at HK
        have HF : Hid (B = false) := Lib.hid (by
          rw [← HB.out, Bool.eq_false_iff]
          intro h
          have := List.all_eq_true.1 h x hmem
          rw [hb] at this
          cases this)
        clear hx hmem hb
        go_wp2_with fail
        refine HK.out.mono ?_
        rintro e w5 ⟨rfl, hu5⟩
        have HU5 := Lib.hid (HU.out.trans_ext hu5)
        clear hu5
        go_wp2_with fail
        go_ret
        exact ⟨⟨(j : Int), rfl, fun _ => HF.out, fun _ => hj0⟩, HU5.out⟩
    · have hgeI : ¬ (j : Int) < L := by omega
      have HF : Hid (B = true) := Lib.hid (by
        rw [← HB.out, List.all_eq_true]
        intro x hx
        obtain ⟨q, hq, rfl⟩ := List.mem_iff_getElem.1 hx
        exact HA.out q _ (by have := HL.out; omega) (List.getElem?_eq_getElem hq))
      go_wp2_with fail
      go_ret
      exact ⟨⟨-1, rfl, fun h => absurd h (by decide), fun h => by rw [HF.out] at h; cases h⟩, HU.out⟩
set_option maxRecDepth 100000 in
set_option maxHeartbeats 1600000 in
theorem containsf_calls (xs : List (List UInt8)) (a : Option Addr) (c : Nat) (w : World) (he : Env w) (hl : xs.length ≤ 10000000) (hx : ∀ x ∈ xs, x.length ≤ 10000000) (hc : ∀ i x, xs[i]? = some x → ∃ g o, a = some ⟨g, o, none⟩ ∧ w.cell? ⟨g, o + i, none⟩ = some (.string ⟨x.toArray⟩)) :
    Calls Tryz.prog 99 #[.slice a xs.length c, .func (.func 100) #[] #[]] w fun e w' => e = .returned (.bool (!xs.all identF)) ∧ Upto [] w w' := by
  have H := Lib.hid (indexf_calls xs a c w he hl hx hc)
  clear hc hx hl he
  generalize hL : xs.length = L at *
  generalize xs.all identF = b at *
  clear hL
  go_enter Tryz.func99, Tryz.ntmps99
  go_wp2_with fail
  refine H.out.mono ?_
  rintro e w1 ⟨⟨k, rfl, hk⟩, hu1⟩
  have HU1 := Lib.hid hu1
  clear hu1
  cases b
  · have h0 : (0 : Int) ≤ k := hk.2 rfl
    clear hk
    go_wp2_with fail
    go_ret
    exact ⟨rfl, HU1.out⟩
  · have h0 : ¬ (0 : Int) ≤ k := fun h => by have := hk.1 h; cases this
    clear hk
    go_wp2_with fail
    go_ret
    refine ⟨?_, HU1.out⟩
    show Ending.returned (.bool (decide (0 ≤ k))) = _
    rw [decide_eq_false (by omega)]
    rfl
def sortW (s : Int) : List UInt8 := if s = 0 then [118, 101, 114, 116, 101, 120] else if s = 1 then [101, 100, 103, 101] else if s = 2 then [115, 101, 116] else if s = 3 then [101, 100, 103, 101, 115] else []
set_option maxRecDepth 100000 in
set_option maxHeartbeats 1600000 in
theorem sname_calls (s : Int) (w : World) (hs : SEnv w) : Calls Tryz.prog 85 #[.int .i64 s] w fun e w' => e = .returned (.string ⟨(sortW s).toArray⟩) ∧ Upto [] w w' := by
  have HU := Lib.hid (Upto.refl [] w)
  by_cases h0 : s < 0
  · have e : sortW s = [] := by unfold sortW; rw [if_neg (by omega), if_neg (by omega), if_neg (by omega), if_neg (by omega)]
    rw [e]
    clear e hs
    go_enter Tryz.func85, Tryz.ntmps85
    go_wp2_with fail
    go_ret
    exact ⟨rfl, HU.out⟩
  by_cases h1 : (4 : Int) ≤ s
  · have e : sortW s = [] := by unfold sortW; rw [if_neg (by omega), if_neg (by omega), if_neg (by omega), if_neg (by omega)]
    rw [e]
    clear e hs
    go_enter Tryz.func85, Tryz.ntmps85
    go_wp2_with fail
    go_ret
    exact ⟨rfl, HU.out⟩
  have hc : s = 0 ∨ s = 1 ∨ s = 2 ∨ s = 3 := by omega
  have c0 := hs.c0
  have c1 := hs.c1
  have c2 := hs.c2
  have c3 := hs.c3
  clear hs h0 h1
  rcases hc with rfl | rfl | rfl | rfl
  · go_enter Tryz.func85, Tryz.ntmps85
    go_wp2_with fail
    go_ret
    exact ⟨rfl, HU.out⟩
  · go_enter Tryz.func85, Tryz.ntmps85
    go_wp2_with fail
    go_ret
    exact ⟨rfl, HU.out⟩
  · go_enter Tryz.func85, Tryz.ntmps85
    go_wp2_with fail
    go_ret
    exact ⟨rfl, HU.out⟩
  · go_enter Tryz.func85, Tryz.ntmps85
    go_wp2_with fail
    go_ret
    exact ⟨rfl, HU.out⟩
theorem vars_get {w : World} {P : Nat → Prop} {v : Value} {f : List (List UInt8 × Int)} (h : VarsV w P v f) : ∃ a c, v = .slice a f.length c ∧ ∀ i x, f[i]? = some x → ∃ g o, a = some ⟨g, o, none⟩ ∧ w.cell? ⟨g, o + i * 2, none⟩ = some (.string ⟨x.1.toArray⟩) ∧ w.cell? ⟨g, o + i * 2 + 1, none⟩ = some (.int .i64 x.2) := by
  obtain ⟨a, c, rfl, hg⟩ := SlP.get h
  refine ⟨a, c, rfl, fun i x hi => ?_⟩
  obtain ⟨g, o, rfl, h1⟩ := hg _ _ (vars_at hi).1
  obtain ⟨g2, o2, e, h2⟩ := hg _ _ (vars_at hi).2
  simp at e
  obtain ⟨rfl, rfl⟩ := e
  exact ⟨g, o, rfl, h1, h2⟩
theorem vars_slice {w : World} {P : Nat → Prop} {a : Option Addr} {n c : Nat} {f : List (List UInt8 × Int)} (h : VarsV w P (.slice a n c) f) : ∀ i x, f[i]? = some x → ∃ g o, a = some ⟨g, o, none⟩ ∧ w.cell? ⟨g, o + i * 2, none⟩ = some (.string ⟨x.1.toArray⟩) ∧ w.cell? ⟨g, o + i * 2 + 1, none⟩ = some (.int .i64 x.2) := by
  obtain ⟨a', c', e, hg⟩ := vars_get h
  cases e
  exact hg
theorem right_vars {nm : List UInt8 → Bool} {q : Qn} {k : Nat} (h8 : ¬ 8 < q.free.length) (h0 : k ≠ 0) (h : varsE nm q.free [] = k) : rightF nm q = k := by
  unfold rightF
  rw [if_neg h8, h, if_pos h0]
theorem right_body {nm : List UInt8 → Bool} {q : Qn} (h8 : ¬ 8 < q.free.length) (h : varsE nm q.free [] = 0) : rightF nm q = checkF nm q.body := by
  unfold rightF
  rw [if_neg h8, h]
  rfl
theorem QnV.open {w : World} {P : Nat → Prop} {q : Qn} {v : Value} (h : QnV w P q v) : ∃ (f1 : Option Addr) (f3 : Nat) (op : Int) (a1 : Option Addr) (n1 c1 : Nat) (so n m : Int) (a2 : Option Addr) (n2 c2 : Nat), v = .agg #[.slice f1 q.free.length f3, .int .i64 op, .slice a1 n1 c1, .int .i64 so, .int .i64 n, .int .i64 m, .slice a2 n2 c2] ∧ VarsV w P (.slice f1 q.free.length f3) q.free ∧ NdV w P q.body (.agg #[.int .i64 op, .slice a1 n1 c1, .int .i64 so, .int .i64 n, .int .i64 m, .slice a2 n2 c2]) := by
  obtain ⟨vf, a0, a1, a2, a3, a4, a5, rfl, h1, h2⟩ := h
  obtain ⟨fa, fc, rfl⟩ := h1.len
  obtain ⟨op, x1, x2, x3, so, n, m, y1, y2, y3, hs⟩ := h2.six
  simp only [Value.agg.injEq, Array.mk.injEq, List.cons.injEq, and_true] at hs
  obtain ⟨rfl, rfl, rfl, rfl, rfl, rfl⟩ := hs
  exact ⟨fa, fc, op, x1, x2, x3, so, n, m, y1, y2, y3, rfl, h1, h2⟩
def PluP (P : Nat → Prop) (ls : List (List UInt8)) (w : World) (e : Ending) (w' : World) : Prop := ∃ v, e = .returned v ∧ SlP w' (fun b => P b ∨ Nu w w' b) v ls.length (ls.map sV) ∧ Upto [] w w'
set_option maxRecDepth 100000 in
set_option maxHeartbeats 3200000 in
theorem plusU_calls (ls : List (List UInt8)) (x : List UInt8) (v : Value) (w : World) (P : Nat → Prop) (h : SlP w P v ls.length (ls.map sV)) (hl : ls.length ≤ 1000000) : Calls Tryz.prog 59 #[v, .string ⟨x.toArray⟩] w (PluP P (plusF ls x) w) := by
  obtain ⟨a, c, rfl⟩ := h.len
  have HH := Lib.hid (hasR_calls ls x _ w P h hl)
  have HS := Lib.hid h
  obtain ⟨i0, hi0, hz0, hz1, hz2⟩ := info9'
  have HI0 := Lib.hid hi0
  have HZ0 := Lib.hid hz0
  have HZ1 := Lib.hid hz1
  have HZ2 := Lib.hid hz2
  have HP : Hid (ls.contains x = true → plusF ls x = ls) := Lib.hid (fun hc => plus_in (by simpa using hc))
  have HQ : Hid (ls.contains x = false → plusF ls x = ls ++ [x]) := Lib.hid (fun hc => plus_out (by simpa using hc))
  generalize plusF ls x = R at *
  have HN : Hid (ls.length = ls.length) := Lib.hid rfl
  generalize hn : ls.length = n at *
  have hn0 : (0 : Int) ≤ n := by omega
  have hn1 : (n : Int) ≤ 1000000 := by omega
  have HLN := Lib.hid hn
  have HT0 : Hid (TxI w [] (.slice (some ⟨w.heap.size, 0, none⟩) 0 0) (w.alloc (.cells #[] 9))) := Lib.hid ⟨ownsRow_none w 9, fun g hg => by simp [Value.ownBlock] at hg; omega, (Upto.refl [] w).alloc _⟩
  have hrow := HT0.out.row
  have hslc : SlC (w.alloc (.cells #[] 9)) (.slice a n c) (ls.map sV) := by
    have := HS.out.ext ((Upto.refl [] w).alloc (.cells #[] 9))
    rw [show n = (ls.map sV).length by rw [List.length_map, hn]] at this ⊢
    exact this.slc
  have HML : Hid ((ls.map sV).length = n) := Lib.hid (by rw [List.length_map, hn])
  clear h hi0 hz0 hz1 hz2 hn HN
  go_enter Tryz.func59, Tryz.ntmps59
  go_wp2_with fail
  refine HH.out.mono ?_
  rintro e w1 ⟨rfl, rfl⟩
  cases hc : ls.contains x with
  | true =>
    have HR := Lib.hid (HP.out hc)
    clear hrow hslc hc
    go_wp2_with fail
    go_ret
    unfold PluP
    rw [HR.out, HLN.out]
    exact ⟨_, rfl, HS.out.mono (fun b hb _ => Or.inl hb), Upto.refl _ _⟩
  | false =>
    have HR := Lib.hid (HQ.out hc)
    clear hc
    go_wp2_with (at_builtin; first
      | (refine wpList_apps _ rfl (.tmp 9) (.tmp 10) 22 rfl 9 i0 (.string ⟨#[]⟩) 16 Tryz.underlying22 HI0.out HZ0.out HZ1.out HZ2.out rfl (.slice (some ⟨w1.heap.size, 0, none⟩) 0 0) 0 _ rfl hrow (.slice a n c) (ls.map sV) rfl hslc (by simp [Value.oneCell', sV]) (by rw [HML.out]; unfold maxLen; omega) (by rw [HML.out]; omega) ?_; intro vb vd w3 ho hu hw; rw [HML.out] at ho hw; have HM := Lib.hid (HT0.out.apps (ys := ls) rfl HLN.out ho hu hw); rw [HML.out]; clear hrow ho hu hw hslc; have HT4 : Hid (TxI w1 ls (.slice vb (0 + n) vd) (w3.alloc (.cells #[.string ⟨x.toArray⟩] 9))) := Lib.hid (HM.out.ext ((Upto.refl [] _).alloc _)); have hrow2 := HT4.out.row; have hsrc2 := cells_at (l := [sV x]) (new_at w3 (.cells #[.string ⟨x.toArray⟩] 9)))
      | (rw [Nat.zero_add] at *; rw [HLN.out] at hrow2; refine wpList_app _ rfl (.tmp 11) (.tmp 13) 22 rfl 9 i0 (.string ⟨#[]⟩) 1 16 Tryz.underlying22 HI0.out HZ0.out HZ1.out HZ2.out rfl (by decide) (.slice vb n vd) n _ rfl hrow2 ⟨w3.heap.size, 0, none⟩ 1 1 [sV x] rfl rfl hsrc2 (by simp [Value.oneCell', sV]) (by unfold maxLen; omega) (by omega) ?_; intro vb2 vd2 w5 ho hu hw; have HM5 := Lib.hid (HT4.out.app HLN.out ho hu hw); clear hrow2 hsrc2 ho hu hw))
    go_ret
    unfold PluP
    rw [HR.out]
    refine ⟨_, rfl, ?_, HM5.out.up⟩
    exact SlP.of_row (P := fun b => P b ∨ Nu w1 w5 b) HM5.out.row (fun g hg => Or.inr ⟨HM5.out.own g hg, by
      rcases HM5.out.row.2 with ⟨e, -⟩ | ⟨g', cap, cur, e, -, hh, -⟩
      · rw [e] at hg; cases hg
      · rw [e] at hg
        simp [Value.ownBlock] at hg
        subst hg
        exact ⟨_, _, hh⟩⟩)
structure RowU (w0 : World) (ls : List (List UInt8)) (v : Value) (wr : World) : Prop where
  slp : SlP wr (Nu w0 wr) v ls.length (ls.map sV)
  up : Upto [] w0 wr
theorem Nu.lt {w0 w : World} {b : Nat} (h : Nu w0 w b) : b < w.heap.size := by
  obtain ⟨cs, t, h⟩ := h.2
  exact lt_of_heap h
theorem Nu.ext {w0 w w' : World} {b : Nat} (h : Nu w0 w b) (hu : Upto [] w w') : Nu w0 w' b := ⟨h.1, h.2.stay (hu.block b h.lt (by simp))⟩
theorem RowU.ext {w0 wr wr' : World} {ls : List (List UInt8)} {v : Value} (h : RowU w0 ls v wr) (hu : Upto [] wr wr') : RowU w0 ls v wr' := ⟨(h.slp.ext hu).mono (fun _b hb _ => hb.ext hu), h.up.trans_ext hu⟩
theorem RowU.nil (w0 wr : World) (hu : Upto [] w0 wr) : RowU w0 [] (.slice none 0 0) wr := ⟨SlP.nil, hu⟩
theorem RowU.of {w0 wr w' : World} {ls ls' : List (List UInt8)} {v v' : Value} (h : RowU w0 ls v wr) (h2 : SlP w' (fun b => Nu w0 wr b ∨ Nu wr w' b) v' ls'.length (ls'.map sV)) (hu : Upto [] wr w') : RowU w0 ls' v' w' :=
  ⟨h2.mono (fun _b hb _ => hb.elim (fun h3 => h3.ext hu) (fun h3 => ⟨Nat.le_trans h.up.size h3.1, h3.2⟩)), h.up.trans_ext hu⟩
def FuPost (w : World) (ls : List (List UInt8)) (e : Ending) (w' : World) : Prop := ∃ v, e = .returned v ∧ RowU w ls v w'
set_option maxRecDepth 100000 in
set_option maxHeartbeats 4000000 in
theorem freeRefU_calls : ∀ (k : Nat) (nd : Nd), sizeF nd ≤ k → k ≤ 10000000 → goodN nd → nmsF nd ≤ 100000 → ∀ (v : Value) (w : World) (P : Nat → Prop), NdV w P nd v → Calls Tryz.prog 21 #[v] w (FuPost w (freeR nd))
  | 0, nd, hk, _, _, _, _, _, _, _ => by have := sizeF_pos nd; omega
  | k + 1, .mk op nms so nn mm l, hk, hk7, hgd, hnm, v, w, P, h => by
    obtain ⟨a1, c1, a2, c2, rfl, hs, hg⟩ := h.open
    unfold goodN at hgd
    have HGD := Lib.hid hgd
    have HG := Lib.hid hg
    have hsz : sizesF l ≤ k := by simp only [sizeF] at hk; omega
    have HSZ := Lib.hid hsz
    unfold nmsF at hnm
    have HNM := Lib.hid hnm
    have HE : Hid (freeR (.mk op nms so nn mm l) = freesR l (bindsF op nms.length) (nms.headD []) ((usesF op nms).foldl plusF [])) := Lib.hid (by simp only [freeR])
    have HLEN : Hid (l.length ≤ 10000000) := Lib.hid (by have := sizes_len l; omega)
    have hlen := HLEN.out
    have HBI := Lib.hid (fun u => bindsR_calls op a1 nms.length c1 so nn mm a2 l.length c2 u (fun h => hgd.1 (by omega)))
    have HUS := Lib.hid (fun u (hu : Upto [] w u) => used_calls P op nms a1 c1 so nn mm a2 l.length c2 u (fun h => hgd.1 (Or.inl h)) (hs.ext hu) (by omega))
    have HIH := Lib.hid (fun (x : Nd) (hx : x ∈ l) (hs : sizeF x ≤ k) (hn : nmsF x ≤ 100000) => freeRefU_calls k x hs (by omega) (goodsN_mem HGD.out.2 x hx) hn)
    obtain ⟨W, hW⟩ : ∃ W, W = w.alloc (.cells #[.int .i64 op, .slice a1 nms.length c1, .int .i64 so, .int .i64 nn, .int .i64 mm, .slice a2 l.length c2] 25) := ⟨_, rfl⟩
    have HU1 : Hid (Upto [] w W) := Lib.hid (by rw [hW]; exact (Upto.refl [] w).alloc _)
    have HB1 : Hid (W.heap[w.heap.size]? = some (.cells #[.int .i64 op, .slice a1 nms.length c1, .int .i64 so, .int .i64 nn, .int .i64 mm, .slice a2 l.length c2] 25 (0, 0))) := Lib.hid (by rw [hW]; exact new_at w _)
    have HUL : Hid ((usesF op nms).length ≤ nms.length) := Lib.hid (uses_len op nms)
    have HN0 : Hid (bindsF op nms.length = true → ∃ g o, a1 = some ⟨g, o, none⟩ ∧ ∀ u, Upto [] w u → u.cell? ⟨g, o, none⟩ = some (.string ⟨(nms.headD []).toArray⟩)) := Lib.hid (fun hb => by
      cases nms with
      | nil => unfold bindsF at hb; simp at hb
      | cons x r => exact slp_cell hs rfl 0 x rfl)
    have HNL : Hid (bindsF op nms.length = true → 0 < nms.length) := Lib.hid (fun hb => by unfold bindsF at hb; simp at hb; omega)
    generalize hbb : bindsF op nms.length = bb at *
    generalize hnm0 : nms.headD [] = nm at *
    generalize hlu : usesF op nms = lu at *
    have HPL := Lib.hid (fun (ls : List (List UInt8)) (x : List UInt8) (v : Value) (u : World) (h : RowU W ls v u) (hl : ls.length ≤ 1000000) => plusU_calls ls x v u (Nu W u) h.slp hl)
    obtain ⟨x0, x1, x2, x3, x4, x5⟩ := cells6 HB1.out
    generalize hnl : nms.length = nl at *
    generalize hll : l.length = ll at *
    have HLL := Lib.hid hll
    have HLU := Lib.hid hlu
    have hL0 : (0 : Int) ≤ ll := by omega
    have hL1 : (ll : Int) ≤ 10000000 := by omega
    clear h hg hs hsz hll hlen hk hgd hbb hnm0 hlu hnl hnm
    go_enter Tryz.func21, Tryz.ntmps21
    go_wp2_with fail
    simp only [← hW]
    clear hW
    go_wp2_with fail
    refine (HUS.out _ HU1.out).mono ?_
    rintro e w2 ⟨vu, rfl, hsu, hu2⟩
    rw [HLU.out] at hsu
    obtain ⟨au, cu, rfl⟩ := hsu.len
    have HSU := Lib.hid hsu
    have HU2 := Lib.hid hu2
    have HB2 := Lib.hid (hu2.at HB1.out (by simp))
    generalize hln : lu.length = n at *
    have HLN := Lib.hid hln
    have hn0 : (0 : Int) ≤ n := by omega
    have hn1 : (n : Int) ≤ 1000000 := by have := HUL.out; have := HNM.out; omega
    clear hu2 hsu x0 x1 x2 x3 x4 x5 hln
    go_wp2_with fail
    go_loopw [3, 5] (fun s i wr => ∃ (j m : Nat) (va : Option Addr) (vc : Nat), j ≤ n ∧ i = .int .i64 j ∧ s = .slice va m vc ∧ Hid (RowU W ((lu.take j).foldl plusF []) (.slice va m vc) wr ∧ m = ((lu.take j).foldl plusF []).length) ∧ Hid (Upto [] w2 wr)) (fun _ i _ => n - (intOf i).toNat)
    case atStart => exact ⟨0, 0, none, 0, by omega, rfl, rfl, Lib.hid ⟨by simpa using RowU.nil W w2 HU2.out, by simp⟩, Lib.hid (Upto.refl _ _)⟩
    case round =>
      obtain ⟨j, m, va, vc, hj, rfl, rfl, HR, HU⟩ := hrel
      have hj0 : (0 : Int) ≤ j := by omega
      rcases Nat.lt_or_ge j n with hlt | hge
      · obtain ⟨y, hy⟩ : ∃ y, lu[j]? = some y := ⟨_, List.getElem?_eq_getElem (by have := HLN.out; omega)⟩
        obtain ⟨g, o, rfl, hcell⟩ := slp_cell HSU.out HLN.out j y hy
        have hc := hcell wr HU.out
        have hltI : (j : Int) < n := by omega
        have HNX : Hid ((lu.take (j + 1)).foldl plusF [] = plusF ((lu.take j).foldl plusF []) y) := Lib.hid (by rw [take_app1 lu j y hy, List.foldl_append]; rfl)
        have HCL := Lib.hid (HPL.out _ y _ wr HR.out.1 (by have h1 := fold_len (lu.take j) []; have h2 := HLN.out; simp at h1; omega))
        clear hcell hy
        go_wp2_with fail
        refine HCL.out.mono ?_
        rintro e w5 ⟨v5, rfl, hs5, hu5⟩
        have HR5 := Lib.hid (HR.out.1.of hs5 hu5)
        obtain ⟨a5, c5, rfl⟩ := hs5.len
        have HU5 := Lib.hid (HU.out.trans_ext hu5)
        clear hu5 hs5
        go_wp2_with fail
        go_roundw
        case rel => exact ⟨j + 1, _, a5, c5, by omega, by go_num, rfl, Lib.hid (by rw [HNX.out]; exact ⟨HR5.out, rfl⟩), HU5⟩
        case measure => simp [intOf]; omega
      · obtain rfl : j = n := by omega
        have hgeI : ¬ (j : Int) < j := by omega
        have HT : Hid (lu.take j = lu) := Lib.hid (by rw [← HLN.out, List.take_length])
        rw [HT.out] at HR
        have HO1 : Hid ((lu.foldl plusF []).length ≤ nl) := Lib.hid (by have := fold_len lu []; have := HLN.out; have := HUL.out; simp at *; omega)
        generalize lu.foldl plusF [] = out1 at *
        have HU3 := Lib.hid ((HU1.out.trans_ext HU2.out).trans_ext HU.out)
        have HB3 := Lib.hid (HU.out.at HB2.out (by simp))
        have HR3 := Lib.hid HR.out.1
        have hm := HR.out.2
        subst hm
        clear HR HU HSU HT
        go_wp2_with fail
        go_loopw [3, 6] (fun s i wq => ∃ (q m : Nat) (va : Option Addr) (vc : Nat), q ≤ ll ∧ i = .int .i64 q ∧ s = .slice va m vc ∧ Hid (RowU W (freesR (l.take q) bb nm out1) (.slice va m vc) wq ∧ m = (freesR (l.take q) bb nm out1).length) ∧ Hid (Upto [] wr wq)) (fun _ i _ => ll - (intOf i).toNat)
        case atStart => exact ⟨0, _, va, vc, by omega, rfl, rfl, Lib.hid ⟨by simpa [freesR] using HR3.out, by simp [freesR]⟩, Lib.hid (Upto.refl _ _)⟩
        case round =>
          obtain ⟨q, m, vb, vd, hq, rfl, rfl, HR, HV⟩ := hrel
          have hq0 : (0 : Int) ≤ q := by omega
          have HBB := Lib.hid (HV.out.at HB3.out (by simp))
          have x5 := cell_of HBB.out 5
          simp only [List.getElem?_toArray, List.getElem?_cons_zero, List.getElem?_cons_succ] at x5
          rcases Nat.lt_or_ge q ll with hlt | hge
          · obtain ⟨x, hx⟩ : ∃ x, l[q]? = some x := ⟨_, List.getElem?_eq_getElem (by have := HLL.out; omega)⟩
            obtain ⟨g, o, xo, xn1, xn2, xn3, xs, xm, xq, xl1, xl2, xl3, rfl, d0, d1, d2, d3, d4, d5, hnx⟩ := HG.out q x hx
            have hw := HU3.out.trans_ext HV.out
            replace d0 := up_cell hw d0
            replace d1 := up_cell hw d1
            replace d2 := up_cell hw d2
            replace d3 := up_cell hw d3
            replace d4 := up_cell hw d4
            replace d5 := up_cell hw d5
            have HST := Lib.hid (sizesF_take l q x hx)
            have HNT := Lib.hid (nmss_take l q x hx)
            have HC := Lib.hid (HIH.out x (List.mem_of_getElem? hx) (by have := HSZ.out; have := HST.out; omega) (by have := HNM.out; have := HNT.out; omega) _ wr P (hnx.ext hw))
            have hltI : (q : Int) < ll := by omega
            have HNX : Hid (freesR (l.take (q + 1)) bb nm out1 = takeR bb nm (freeR x) (freesR (l.take q) bb nm out1)) := Lib.hid (by rw [take_app1 l q x hx]; exact freesR_app bb nm x _ _)
            have HFL := Lib.hid (freeR_len x)
            have HOL : Hid ((freesR (l.take q) bb nm out1).length + (freeR x).length ≤ 100000) := Lib.hid (by have h1 := freesR_len (l.take q) bb nm out1; have h2 := HNT.out; have h3 := HFL.out; have h4 := HO1.out; have h5 := HNM.out; omega)
            clear hnx hx hw
            go_wp2_with fail
            refine HC.out.mono ?_
            rintro e w5 ⟨v7, rfl, hr7⟩
            obtain ⟨a7, c7, rfl⟩ := hr7.slp.len
            have HS7 := Lib.hid hr7.slp
            have HU5 := Lib.hid (HV.out.trans_ext hr7.up)
            have HR5 := Lib.hid (HR.out.1.ext hr7.up)
            have hmm := HR.out.2
            generalize hlc : freeR x = lc at *
            generalize hfq : freesR (l.take q) bb nm out1 = fq at *
            subst hmm
            clear hr7 hlc hfq HR
            generalize hln7 : lc.length = n7 at *
            have HL7 := Lib.hid hln7
            have hn70 : (0 : Int) ≤ n7 := by omega
            have hn71 : (n7 : Int) ≤ 1000000 := by have := HOL.out; omega
            have HB5 := Lib.hid (HU5.out.at HB3.out (by simp))
            clear hln7 d0 d1 d2 d3 d4 d5 x5
            go_wp2_with fail
            go_loopw [3, 8] (fun s i wz => ∃ (z m : Nat) (va : Option Addr) (vc : Nat), z ≤ n7 ∧ i = .int .i64 z ∧ s = .slice va m vc ∧ Hid (RowU W (takeR bb nm (lc.take z) fq) (.slice va m vc) wz ∧ m = (takeR bb nm (lc.take z) fq).length) ∧ Hid (Upto [] w5 wz)) (fun _ i _ => n7 - (intOf i).toNat)
            case atStart => exact ⟨0, _, vb, vd, by omega, rfl, rfl, Lib.hid ⟨by simpa [takeR] using HR5.out, by simp [takeR]⟩, Lib.hid (Upto.refl _ _)⟩
            case round =>
              obtain ⟨z, m, vb2, vd2, hz, rfl, rfl, HR6, HZ⟩ := hrel
              have hz0 : (0 : Int) ≤ z := by omega
              rcases Nat.lt_or_ge z n7 with hlt | hge
              · obtain ⟨y, hy⟩ : ∃ y, lc[z]? = some y := ⟨_, List.getElem?_eq_getElem (by have := HL7.out; omega)⟩
                obtain ⟨g7, o7, rfl, hcell⟩ := slp_cell HS7.out HL7.out z y hy
                have hltI : (z : Int) < n7 := by omega
                have HNZ : Hid (takeR bb nm (lc.take (z + 1)) fq = if bb = false ∨ y ≠ nm then plusF (takeR bb nm (lc.take z) fq) y else takeR bb nm (lc.take z) fq) := Lib.hid (by rw [take_app1 lc z y hy]; exact takeR_app bb nm y _ _)
                have HLZ : Hid ((takeR bb nm (lc.take z) fq).length ≤ 1000000) := Lib.hid (by have h1 := takeR_len bb nm (lc.take z) fq; have h2 := HOL.out; have h3 := HL7.out; have h4 := List.length_take_le z lc; omega)
                have HB6 := Lib.hid (HZ.out.at HB5.out (by simp))
                have HCL := Lib.hid (fun u (hu : Upto [] wr u) => HPL.out _ y _ u (HR6.out.1.ext hu) HLZ.out)
                have e0 : ∀ u : Ext wr, u.w.cell? ⟨w.heap.size, 0, none⟩ = some (.int .i64 op) := fun u => u.cell (cell_of HB6.out 0)
                have e1 : ∀ u : Ext wr, u.w.cell? ⟨w.heap.size, 1, none⟩ = some (.slice a1 nl c1) := fun u => u.cell (cell_of HB6.out 1)
                have e2 : ∀ u : Ext wr, u.w.cell? ⟨w.heap.size, 2, none⟩ = some (.int .i64 so) := fun u => u.cell (cell_of HB6.out 2)
                have e3 : ∀ u : Ext wr, u.w.cell? ⟨w.heap.size, 3, none⟩ = some (.int .i64 nn) := fun u => u.cell (cell_of HB6.out 3)
                have e4 : ∀ u : Ext wr, u.w.cell? ⟨w.heap.size, 4, none⟩ = some (.int .i64 mm) := fun u => u.cell (cell_of HB6.out 4)
                have e5 : ∀ u : Ext wr, u.w.cell? ⟨w.heap.size, 5, none⟩ = some (.slice (some ⟨g, o, none⟩) ll c2) := fun u => u.cell (cell_of HB6.out 5)
                have e7 : ∀ u : Ext wr, u.w.cell? ⟨g7, o7 + z, none⟩ = some (.string ⟨y.toArray⟩) := fun u => hcell u.w (HZ.out.trans_ext u.up)
                have hcell7 : ∀ u, Upto [] wr u → u.cell? ⟨g7, o7 + z, none⟩ = some (.string ⟨y.toArray⟩) := fun u hu => hcell u (HZ.out.trans_ext hu)
                clear hcell hy
                cases bb with
                | false =>
                  go_wp2_with fail
                  refine wp_region_seg_all [1] [] [0, 1, 2, 3, 4, 5, 6, 7, 8, 9, 10, 11, 12, 13] (by kernel_rfl) (by kernel_rfl) ?_
                  with_reducible refine seg_plain (o := ?o1) ?hi1 ?hA1 ?hC1 ?hp1 ?hw1 ?h1
                  case hi1 => rfl
                  case hA1 => rfl
                  case hC1 => rfl
                  case hp1 => rfl
                  case hw1 => kernel_rfl
                  intro K' hK'
                  go_big_quiet_op
                  go_big_quiet_on
                  refine seg_call (f := 48) (args := #[.agg #[.int .i64 op, .slice a1 nl c1, .int .i64 so, .int .i64 nn, .int .i64 mm, .slice (some ⟨g, o, none⟩) ll c2]]) (v := .bool false) rfl rfl rfl rfl (fun w => by go_simp) (fun w hu hd => HBI.out w) ?_
                  simp only [Act.put, List.setIfInBounds_toArray, List.set_cons_zero, List.set_cons_succ]
                  with_reducible refine seg_plain (o := ?o2) ?hi2 ?hA2 ?hC2 ?hp2 ?hw2 ?h2
                  case hi2 => rfl
                  case hA2 => rfl
                  case hC2 => rfl
                  case hp2 => rfl
                  case hw2 => kernel_rfl
                  intro K' hK'
                  go_big_quiet_op
                  go_big_quiet_on
                  with_reducible refine seg_plain (o := ?o3) ?hi3 ?hA3 ?hC3 ?hp3 ?hw3 ?h3
                  case hi3 => rfl
                  case hA3 => rfl
                  case hC3 => rfl
                  case hp3 => rfl
                  case hw3 => kernel_rfl
                  intro K' hK'
                  go_big_quiet_op
                  go_big_quiet_on
                  with_reducible refine seg_skip (o := ?o4) ?hi4 ?hw4 ?h4
                  case hi4 => rfl
                  case hw4 => kernel_rfl
                  simp only [Act.put, List.setIfInBounds_toArray, List.set_cons_zero, List.set_cons_succ]
                  with_reducible refine seg_skip (o := ?o5) ?hi5 ?hw5 ?h5
                  case hi5 => rfl
                  case hw5 => kernel_rfl
                  simp only [Act.put, List.setIfInBounds_toArray, List.set_cons_zero, List.set_cons_succ]
                  with_reducible refine seg_skip (o := ?o6) ?hi6 ?hw6 ?h6
                  case hi6 => rfl
                  case hw6 => kernel_rfl
                  simp only [Act.put, List.setIfInBounds_toArray, List.set_cons_zero, List.set_cons_succ]
                  with_reducible refine seg_skip (o := ?o7) ?hi7 ?hw7 ?h7
                  case hi7 => rfl
                  case hw7 => kernel_rfl
                  simp only [Act.put, List.setIfInBounds_toArray, List.set_cons_zero, List.set_cons_succ]
                  with_reducible refine seg_skip (o := ?o8) ?hi8 ?hw8 ?h8
                  case hi8 => rfl
                  case hw8 => kernel_rfl
                  simp only [Act.put, List.setIfInBounds_toArray, List.set_cons_zero, List.set_cons_succ]
                  with_reducible refine seg_skip (o := ?o9) ?hi9 ?hw9 ?h9
                  case hi9 => rfl
                  case hw9 => kernel_rfl
                  simp only [Act.put, List.setIfInBounds_toArray, List.set_cons_zero, List.set_cons_succ]
                  with_reducible refine seg_skip (o := ?o10) ?hi10 ?hw10 ?h10
                  case hi10 => rfl
                  case hw10 => kernel_rfl
                  simp only [Act.put, List.setIfInBounds_toArray, List.set_cons_zero, List.set_cons_succ]
                  with_reducible refine seg_skip (o := ?o11) ?hi11 ?hw11 ?h11
                  case hi11 => rfl
                  case hw11 => kernel_rfl
                  simp only [Act.put, List.setIfInBounds_toArray, List.set_cons_zero, List.set_cons_succ]
                  with_reducible refine seg_skip (o := ?o12) ?hi12 ?hw12 ?h12
                  case hi12 => rfl
                  case hw12 => kernel_rfl
                  simp only [Act.put, List.setIfInBounds_toArray, List.set_cons_zero, List.set_cons_succ]
                  with_reducible refine seg_plain (o := ?o13) ?hi13 ?hA13 ?hC13 ?hp13 ?hw13 ?h13
                  case hi13 => rfl
                  case hA13 => rfl
                  case hC13 => rfl
                  case hp13 => rfl
                  case hw13 => kernel_rfl
                  intro K' hK'
                  go_big_quiet_op
                  go_big_quiet_on
                  have HCO : Hid (false = false ∨ y ≠ nm) := Lib.hid (Or.inl rfl)
                  intro w9 hg
                  have HU9 := Lib.hid hg.up
                  have hc7 := hcell7 w9 HU9.out
                  clear hg e0 e1 e2 e3 e4 e5 e7
                  go_wp2_with fail
                  refine (HCL.out w9 HU9.out).mono ?_
                  rintro e wa ⟨va, rfl, hsa, hua⟩
                  have HRA := Lib.hid ((HR6.out.1.ext HU9.out).of hsa hua)
                  obtain ⟨aa, ca, rfl⟩ := hsa.len
                  have HUA := Lib.hid ((HZ.out.trans_ext HU9.out).trans_ext hua)
                  clear hua hsa
                  go_wp2_with fail
                  go_roundw
                  case rel => exact ⟨z + 1, _, aa, ca, by omega, by go_num, rfl, Lib.hid (by rw [HNZ.out, if_pos HCO.out]; exact ⟨HRA.out, rfl⟩), HUA⟩
                  case measure => simp [intOf]; omega
                | true =>
                  obtain ⟨gn, on, rfl, hcn⟩ := HN0.out rfl
                  have en : ∀ u : Ext wr, u.w.cell? ⟨gn, on, none⟩ = some (.string ⟨nm.toArray⟩) := fun u => hcn u.w (((HU3.out.trans_ext HU5.out).trans_ext HZ.out).trans_ext u.up)
                  have hnl0 := HNL.out rfl
                  have hnl1 : (0 : Int) < nl := by omega
                  clear hcn
                  by_cases hyn : y = nm
                  · have HCO : Hid (¬ (true = false ∨ y ≠ nm)) := Lib.hid (by simp [hyn])
                    subst hyn
                    go_wp2_with fail
                    refine wp_region_seg_all [1] [] [0, 1, 2, 3, 4, 5, 6, 7, 8, 9, 10, 11, 12, 13] (by kernel_rfl) (by kernel_rfl) ?_
                    with_reducible refine seg_plain (o := ?o14) ?hi14 ?hA14 ?hC14 ?hp14 ?hw14 ?h14
                    case hi14 => rfl
                    case hA14 => rfl
                    case hC14 => rfl
                    case hp14 => rfl
                    case hw14 => kernel_rfl
                    intro K' hK'
                    go_big_quiet_op
                    go_big_quiet_on
                    refine seg_call (f := 48) (args := #[.agg #[.int .i64 op, .slice (some ⟨gn, on, none⟩) nl c1, .int .i64 so, .int .i64 nn, .int .i64 mm, .slice (some ⟨g, o, none⟩) ll c2]]) (v := .bool true) rfl rfl rfl rfl (fun w => by go_simp) (fun w hu hd => HBI.out w) ?_
                    simp only [Act.put, List.setIfInBounds_toArray, List.set_cons_zero, List.set_cons_succ]
                    with_reducible refine seg_plain (o := ?o15) ?hi15 ?hA15 ?hC15 ?hp15 ?hw15 ?h15
                    case hi15 => rfl
                    case hA15 => rfl
                    case hC15 => rfl
                    case hp15 => rfl
                    case hw15 => kernel_rfl
                    intro K' hK'
                    go_big_quiet_op
                    go_big_quiet_on
                    with_reducible refine seg_plain (o := ?o16) ?hi16 ?hA16 ?hC16 ?hp16 ?hw16 ?h16
                    case hi16 => rfl
                    case hA16 => rfl
                    case hC16 => rfl
                    case hp16 => rfl
                    case hw16 => kernel_rfl
                    intro K' hK'
                    go_big_quiet_op
                    go_big_quiet_on
                    with_reducible refine seg_plain (o := ?o17) ?hi17 ?hA17 ?hC17 ?hp17 ?hw17 ?h17
                    case hi17 => rfl
                    case hA17 => rfl
                    case hC17 => rfl
                    case hp17 => rfl
                    case hw17 => kernel_rfl
                    intro K' hK'
                    go_big_quiet_op
                    go_big_quiet_on
                    with_reducible refine seg_plain (o := ?o18) ?hi18 ?hA18 ?hC18 ?hp18 ?hw18 ?h18
                    case hi18 => rfl
                    case hA18 => rfl
                    case hC18 => rfl
                    case hp18 => rfl
                    case hw18 => kernel_rfl
                    intro K' hK'
                    go_big_quiet_op
                    go_big_quiet_on
                    with_reducible refine seg_plain (o := ?o19) ?hi19 ?hA19 ?hC19 ?hp19 ?hw19 ?h19
                    case hi19 => rfl
                    case hA19 => rfl
                    case hC19 => rfl
                    case hp19 => rfl
                    case hw19 => kernel_rfl
                    intro K' hK'
                    go_big_quiet_op
                    go_big_quiet_on
                    with_reducible refine seg_plain (o := ?o20) ?hi20 ?hA20 ?hC20 ?hp20 ?hw20 ?h20
                    case hi20 => rfl
                    case hA20 => rfl
                    case hC20 => rfl
                    case hp20 => rfl
                    case hw20 => kernel_rfl
                    intro K' hK'
                    go_big_quiet_op
                    go_big_quiet_on
                    with_reducible refine seg_plain (o := ?o21) ?hi21 ?hA21 ?hC21 ?hp21 ?hw21 ?h21
                    case hi21 => rfl
                    case hA21 => rfl
                    case hC21 => rfl
                    case hp21 => rfl
                    case hw21 => kernel_rfl
                    intro K' hK'
                    go_big_quiet_op
                    go_big_quiet_on
                    with_reducible refine seg_plain (o := ?o22) ?hi22 ?hA22 ?hC22 ?hp22 ?hw22 ?h22
                    case hi22 => rfl
                    case hA22 => rfl
                    case hC22 => rfl
                    case hp22 => rfl
                    case hw22 => kernel_rfl
                    intro K' hK'
                    go_big_quiet_op
                    go_big_quiet_on
                    with_reducible refine seg_plain (o := ?o23) ?hi23 ?hA23 ?hC23 ?hp23 ?hw23 ?h23
                    case hi23 => rfl
                    case hA23 => rfl
                    case hC23 => rfl
                    case hp23 => rfl
                    case hw23 => kernel_rfl
                    intro K' hK'
                    go_big_quiet_op
                    go_big_quiet_on
                    with_reducible refine seg_plain (o := ?o24) ?hi24 ?hA24 ?hC24 ?hp24 ?hw24 ?h24
                    case hi24 => rfl
                    case hA24 => rfl
                    case hC24 => rfl
                    case hp24 => rfl
                    case hw24 => kernel_rfl
                    intro K' hK'
                    go_big_quiet_op
                    go_big_quiet_on
                    with_reducible refine seg_plain (o := ?o25) ?hi25 ?hA25 ?hC25 ?hp25 ?hw25 ?h25
                    case hi25 => rfl
                    case hA25 => rfl
                    case hC25 => rfl
                    case hp25 => rfl
                    case hw25 => kernel_rfl
                    intro K' hK'
                    go_big_quiet_op
                    go_big_quiet_on
                    with_reducible refine seg_plain (o := ?o26) ?hi26 ?hA26 ?hC26 ?hp26 ?hw26 ?h26
                    case hi26 => rfl
                    case hA26 => rfl
                    case hC26 => rfl
                    case hp26 => rfl
                    case hw26 => kernel_rfl
                    intro K' hK'
                    go_big_quiet_op
                    go_big_quiet_on
                    intro w9 hg
                    have HU9 := Lib.hid hg.up
                    have hc7 := hcell7 w9 HU9.out
                    clear hg e0 e1 e2 e3 e4 e5 e7 en
                    have HRA := Lib.hid (HR6.out.1.ext HU9.out)
                    have HUA := Lib.hid (HZ.out.trans_ext HU9.out)
                    go_wp2_with fail
                    go_roundw
                    case rel => exact ⟨z + 1, m, vb2, vd2, by omega, by go_num, rfl, Lib.hid (by rw [HNZ.out, if_neg HCO.out]; exact ⟨HRA.out, HR6.out.2⟩), HUA⟩
                    case measure => simp [intOf]; omega
                  · have HCO : Hid (true = false ∨ y ≠ nm) := Lib.hid (Or.inr hyn)
                    have hb1 : (y == nm) = false := by rw [beq_eq_false_iff_ne]; exact hyn
                    have hb2 : (y != nm) = true := by rw [bne_iff_ne]; exact hyn
                    go_wp2_with fail
                    refine wp_region_seg_all [1] [] [0, 1, 2, 3, 4, 5, 6, 7, 8, 9, 10, 11, 12, 13] (by kernel_rfl) (by kernel_rfl) ?_
                    with_reducible refine seg_plain (o := ?o27) ?hi27 ?hA27 ?hC27 ?hp27 ?hw27 ?h27
                    case hi27 => rfl
                    case hA27 => rfl
                    case hC27 => rfl
                    case hp27 => rfl
                    case hw27 => kernel_rfl
                    intro K' hK'
                    go_big_quiet_op
                    go_big_quiet_on
                    refine seg_call (f := 48) (args := #[.agg #[.int .i64 op, .slice (some ⟨gn, on, none⟩) nl c1, .int .i64 so, .int .i64 nn, .int .i64 mm, .slice (some ⟨g, o, none⟩) ll c2]]) (v := .bool true) rfl rfl rfl rfl (fun w => by go_simp) (fun w hu hd => HBI.out w) ?_
                    simp only [Act.put, List.setIfInBounds_toArray, List.set_cons_zero, List.set_cons_succ]
                    with_reducible refine seg_plain (o := ?o28) ?hi28 ?hA28 ?hC28 ?hp28 ?hw28 ?h28
                    case hi28 => rfl
                    case hA28 => rfl
                    case hC28 => rfl
                    case hp28 => rfl
                    case hw28 => kernel_rfl
                    intro K' hK'
                    go_big_quiet_op
                    go_big_quiet_on
                    with_reducible refine seg_plain (o := ?o29) ?hi29 ?hA29 ?hC29 ?hp29 ?hw29 ?h29
                    case hi29 => rfl
                    case hA29 => rfl
                    case hC29 => rfl
                    case hp29 => rfl
                    case hw29 => kernel_rfl
                    intro K' hK'
                    go_big_quiet_op
                    go_big_quiet_on
                    with_reducible refine seg_plain (o := ?o30) ?hi30 ?hA30 ?hC30 ?hp30 ?hw30 ?h30
                    case hi30 => rfl
                    case hA30 => rfl
                    case hC30 => rfl
                    case hp30 => rfl
                    case hw30 => kernel_rfl
                    intro K' hK'
                    go_big_quiet_op
                    go_big_quiet_on
                    with_reducible refine seg_plain (o := ?o31) ?hi31 ?hA31 ?hC31 ?hp31 ?hw31 ?h31
                    case hi31 => rfl
                    case hA31 => rfl
                    case hC31 => rfl
                    case hp31 => rfl
                    case hw31 => kernel_rfl
                    intro K' hK'
                    go_big_quiet_op
                    go_big_quiet_on
                    with_reducible refine seg_plain (o := ?o32) ?hi32 ?hA32 ?hC32 ?hp32 ?hw32 ?h32
                    case hi32 => rfl
                    case hA32 => rfl
                    case hC32 => rfl
                    case hp32 => rfl
                    case hw32 => kernel_rfl
                    intro K' hK'
                    go_big_quiet_op
                    go_big_quiet_on
                    with_reducible refine seg_plain (o := ?o33) ?hi33 ?hA33 ?hC33 ?hp33 ?hw33 ?h33
                    case hi33 => rfl
                    case hA33 => rfl
                    case hC33 => rfl
                    case hp33 => rfl
                    case hw33 => kernel_rfl
                    intro K' hK'
                    go_big_quiet_op
                    go_big_quiet_on
                    with_reducible refine seg_plain (o := ?o34) ?hi34 ?hA34 ?hC34 ?hp34 ?hw34 ?h34
                    case hi34 => rfl
                    case hA34 => rfl
                    case hC34 => rfl
                    case hp34 => rfl
                    case hw34 => kernel_rfl
                    intro K' hK'
                    go_big_quiet_op
                    go_big_quiet_on
                    with_reducible refine seg_plain (o := ?o35) ?hi35 ?hA35 ?hC35 ?hp35 ?hw35 ?h35
                    case hi35 => rfl
                    case hA35 => rfl
                    case hC35 => rfl
                    case hp35 => rfl
                    case hw35 => kernel_rfl
                    intro K' hK'
                    go_big_quiet_op
                    go_big_quiet_on
                    with_reducible refine seg_plain (o := ?o36) ?hi36 ?hA36 ?hC36 ?hp36 ?hw36 ?h36
                    case hi36 => rfl
                    case hA36 => rfl
                    case hC36 => rfl
                    case hp36 => rfl
                    case hw36 => kernel_rfl
                    intro K' hK'
                    go_big_quiet_op
                    go_big_quiet_on
                    with_reducible refine seg_plain (o := ?o37) ?hi37 ?hA37 ?hC37 ?hp37 ?hw37 ?h37
                    case hi37 => rfl
                    case hA37 => rfl
                    case hC37 => rfl
                    case hp37 => rfl
                    case hw37 => kernel_rfl
                    intro K' hK'
                    go_big_quiet_op
                    go_big_quiet_on
                    with_reducible refine seg_plain (o := ?o38) ?hi38 ?hA38 ?hC38 ?hp38 ?hw38 ?h38
                    case hi38 => rfl
                    case hA38 => rfl
                    case hC38 => rfl
                    case hp38 => rfl
                    case hw38 => kernel_rfl
                    intro K' hK'
                    go_big_quiet_op
                    go_big_quiet_on
                    with_reducible refine seg_plain (o := ?o39) ?hi39 ?hA39 ?hC39 ?hp39 ?hw39 ?h39
                    case hi39 => rfl
                    case hA39 => rfl
                    case hC39 => rfl
                    case hp39 => rfl
                    case hw39 => kernel_rfl
                    intro K' hK'
                    go_big_quiet_op
                    go_big_quiet_on
                    intro w9 hg
                    have HU9 := Lib.hid hg.up
                    have hc7 := hcell7 w9 HU9.out
                    clear hg e0 e1 e2 e3 e4 e5 e7 en
                    go_wp2_with fail
                    refine (HCL.out w9 HU9.out).mono ?_
                    rintro e wa ⟨va, rfl, hsa, hua⟩
                    have HRA := Lib.hid ((HR6.out.1.ext HU9.out).of hsa hua)
                    obtain ⟨aa, ca, rfl⟩ := hsa.len
                    have HUA := Lib.hid ((HZ.out.trans_ext HU9.out).trans_ext hua)
                    clear hua hsa
                    go_wp2_with fail
                    go_roundw
                    case rel => exact ⟨z + 1, _, aa, ca, by omega, by go_num, rfl, Lib.hid (by rw [HNZ.out, if_pos HCO.out]; exact ⟨HRA.out, rfl⟩), HUA⟩
                    case measure => simp [intOf]; omega
              · obtain rfl : z = n7 := by omega
                have hgeI : ¬ (z : Int) < z := by omega
                have HT7 : Hid (lc.take z = lc) := Lib.hid (by rw [← HL7.out, List.take_length])
                rw [HT7.out] at HR6
                have HUZ := Lib.hid (HU5.out.trans_ext HZ.out)
                go_wp2_with fail
                go_roundw
                case rel => exact ⟨q + 1, m, vb2, vd2, by omega, by go_num, rfl, Lib.hid (by rw [HNX.out]; exact HR6.out), HUZ⟩
                case measure => simp [intOf]; omega
          · obtain rfl : q = ll := by omega
            have hgeI : ¬ (q : Int) < q := by omega
            have HT : Hid (l.take q = l) := Lib.hid (by rw [← HLL.out, List.take_length])
            rw [HT.out] at HR
            go_wp2_with fail
            go_ret
            unfold FuPost
            rw [HE.out]
            exact ⟨_, rfl, ⟨HR.out.1.slp.mono (fun b hb _ => ⟨Nat.le_trans HU1.out.size hb.1, hb.2⟩), HU1.out.trans_ext HR.out.1.up⟩⟩
theorem binds_ne10 {op : Int} {n : Nat} (h : bindsF op n = true) : op ≠ 10 := by
  unfold bindsF at h
  have ho : op = 16 ∨ op = 17 := by
    simp only [Bool.and_eq_true, Bool.or_eq_true, decide_eq_true_eq] at h
    exact h.1
  omega
theorem shareW {F G : World → Prop} {A : Prop} (use : (∀ w, F w → G w) → A) (tail : ∀ w, F w → G w) : A := use tail
set_option maxRecDepth 100000 in
set_option maxHeartbeats 30000000 in
theorem ren_take_calls (w0 : World) (d : Nat) (fr ta : List UInt8)
    (IH : ∀ (fr ta : List UInt8), ta.length ≤ 281474976710656 → ∀ (x : Nd) (v : Value) (lo hi : Nat) (u : World), RIn w0 u d lo hi x v → Calls Tryz.prog 43 #[v, .string ⟨fr.toArray⟩, .string ⟨ta.toArray⟩] u (RPost lo hi v (renF d fr ta x) u))
    (op so nn mm : Int) (nms : List (List UInt8)) (l : List Nd) (b : List UInt8) (x : Nd) (hnm : nms = [b]) (hlx : l = [x]) (v : Value) (lo hi : Nat) (w : World) (hb : bindsF op nms.length = true) (hbf : ¬ b = fr) (hbt : b = ta) (hcp : (freeR x).contains fr = true) (he : Env w0) (hpw : PowT w0) (hta : ta.length ≤ 281474976710656) (h : RIn w0 w (d + 1) lo hi (.mk op nms so nn mm l) v) :
    Calls Tryz.prog 43 #[v, .string ⟨fr.toArray⟩, .string ⟨ta.toArray⟩] w (RPost lo hi v (renF (d + 1) fr ta (.mk op nms so nn mm l)) w) := by
  obtain ⟨NM2, hNM2⟩ : ∃ N2, N2 = [capName fr ta x] := ⟨_, rfl⟩
  obtain ⟨LL2, hLL2⟩ : ∃ L2, L2 = [renF d ta (capName fr ta x) x] := ⟨_, rfl⟩
  have HUE : Hid (usesF op NM2 = []) := Lib.hid (uses_binds (by
    subst hnm
    rw [hNM2]
    exact hb))
  have HB10 := Lib.hid (binds_ne10 hb)
  have HGO : Hid (renF (d + 1) fr ta (.mk op nms so nn mm l) = .mk op (rnUses op (rnName fr ta) NM2) so nn mm (LL2.map (renF d fr ta))) := Lib.hid (by
    rw [rnUses_none HUE.out, hNM2, hLL2]
    subst hnm hlx
    rw [renF_one _ _ _ _ _ _ _ _ _ hb, if_neg hbf, if_pos ⟨hbt, hcp⟩]
    rfl)
  rw [HGO.out]
  have HND := Lib.hid (And.intro hNM2 hLL2)
  clear hNM2 hLL2
  have HBT := Lib.hid hbt
  have HCP := Lib.hid hcp
  clear hbt hcp
  have HEP := Lib.hid (And.intro he (And.intro hpw hta))
  clear he hpw hta
  obtain ⟨i0, hi0, hz0, hz1, hz2⟩ := info9'
  have HI0 := Lib.hid hi0
  have HZ0 := Lib.hid hz0
  have HZ1' := Lib.hid hz1
  have HZ2' := Lib.hid hz2
  clear hi0 hz0 hz1 hz2
  have hone := h.one
  have hgood := h.good
  have hdeep := h.deep
  have hfew := h.few
  unfold oneN at hone
  unfold goodN at hgood
  have HR0 := Lib.hid (And.intro h.up h.lo)
  have HKD : Hid (∀ x ∈ l, depthF x ≤ d ∧ oneN x ∧ goodN x ∧ nmsF x + sizeF x + 2 ≤ 8000) := Lib.hid (fun x hx => ⟨by
    have := depths_mem hx
    simp only [depthF] at hdeep
    omega, onesN_mem hone.2 x hx, goodsN_mem hgood.2 x hx, by
    have h1 := nmss_mem hx
    have h2 := sizesF_mem hx
    simp only [nmsF, sizeF] at hfew
    omega⟩)
  have hs := (h.own.ndv _ _ _ _).open
  obtain ⟨a1, c1, a2, c2, m, cs, o, g, rfl, hm1, hm2, hN, hK⟩ := h.own.parts
  have hsl : ∀ u, NmT u nms (.slice a1 nms.length c1) lo m → SlP u (fun _ => True) (.slice a1 nms.length c1) nms.length (nms.map sV) := fun u hu => by simpa using NmT.slp hu
  have hln : nms.length ≤ 8000 := by
    simp only [nmsF] at hfew
    omega
  have hll : l.length ≤ 8000 := by
    have := sizes_len l
    simp only [sizeF] at hfew
    omega
  have HUS : Hid (∀ u, NmT u nms (.slice a1 nms.length c1) lo m → Calls Tryz.prog 74 #[.agg #[.int .i64 op, .slice a1 nms.length c1, .int .i64 so, .int .i64 nn, .int .i64 mm, .slice a2 l.length c2]] u (UsA op nms a1 u)) := Lib.hid (fun u hu => usesA_calls (fun _ => True) op nms a1 c1 so nn mm a2 l.length c2 u (fun h10 => hgood.1 (Or.inl h10)) (hsl u hu) (by omega))
  have HBI : Hid (∀ u, Calls Tryz.prog 57 #[.agg #[.int .i64 op, .slice a1 nms.length c1, .int .i64 so, .int .i64 nn, .int .i64 mm, .slice a2 l.length c2]] u fun e w' => e = .returned (.bool true) ∧ Upto [] u w') := Lib.hid (fun u => by
    have := binds_calls op a1 nms.length c1 so nn mm a2 l.length c2 u
    rw [hb] at this
    exact this)
  have HUL : Hid ((usesF op nms).length ≤ 8000) := Lib.hid (by
    have h1 : (usesF op nms).length ≤ nms.length := by
      unfold usesF
      split
      · simp
      · split <;> simp
    omega)
  have HLT : Hid (hi ≤ w.heap.size ∧ lo ≤ m ∧ m ≤ hi) := Lib.hid ⟨h.hi, hm1, hm2⟩
  have IHH := Lib.hid IH
  clear IH
  have HL1 : Hid (nms.length = 1) := Lib.hid (by rw [hnm]; rfl)
  have HL2 : Hid (l.length = 1 ∧ 1 ≤ 8000) := Lib.hid ⟨by rw [hlx]; rfl, by omega⟩
  have HNM := Lib.hid (And.intro hnm hlx)
  have HKX := Lib.hid (HKD.out x (by rw [hlx]; simp))
  obtain ⟨g1, o1, rfl⟩ : ∃ g1 o1, a1 = some ⟨g1, o1, none⟩ := by
    rcases hN with ⟨h0, -⟩ | ⟨g1, o1, c, cs, t, e, -⟩
    · rw [hnm] at h0; cases h0
    · simp only [Value.slice.injEq] at e
      exact ⟨g1, o1, e.1⟩
  obtain rfl : a2 = some ⟨g, o, none⟩ := hK.elim (fun h0 => by rw [hlx] at h0; cases h0) (fun h1 => h1.1)
  rw [HL1.out] at HUS HBI hN hsl ⊢
  rw [HL2.out.1] at HUS HBI ⊢
  clear hs hsl hln hll hnm hlx hone hgood hdeep hfew hb h hm1 hm2
  obtain ⟨W, hW⟩ : ∃ W, W = (w.alloc (.cells #[.int .i64 op, .slice (some (⟨g1, o1, none⟩ : Addr)) 1 c1, .int .i64 so, .int .i64 nn, .int .i64 mm, .slice (some (⟨g, o, none⟩ : Addr)) 1 c2] 30)).alloc (.cells #[.int .i64 0, .slice none 0 0, .int .i64 0, .int .i64 0, .int .i64 0, .slice none 0 0] 30) := ⟨_, rfl⟩
  have HU : Hid (Upto [] w W) := Lib.hid (by rw [hW]; exact ((Upto.refl [] w).alloc _).alloc _)
  have HB1 : Hid (W.heap[w.heap.size]? = some (.cells #[.int .i64 op, .slice (some (⟨g1, o1, none⟩ : Addr)) 1 c1, .int .i64 so, .int .i64 nn, .int .i64 mm, .slice (some (⟨g, o, none⟩ : Addr)) 1 c2] 30 (0, 0))) := Lib.hid (by rw [hW]; exact alloc_old (new_at w _) _)
  have HB2 : Hid (W.heap[w.heap.size + 1]? = some (.cells #[.int .i64 0, .slice none 0 0, .int .i64 0, .int .i64 0, .int .i64 0, .slice none 0 0] 30 (0, 0))) := Lib.hid (by rw [hW]; exact new_at1 w _ _)
  have HN0 := Lib.hid hN
  have HK0 := Lib.hid hK
  clear hN hK
  obtain ⟨x0, x1, x2, x3, x4, x5⟩ := cells6 HB1.out
  go_enter Tryz.func43, Tryz.ntmps43
  go_wp2_with fail
  simp only [← hW]
  clear hW
  go_wp2_with fail
  refine (HBI.out _).mono ?_
  rintro e w1 ⟨rfl, hu1⟩
  have HU1 := Lib.hid hu1
  have HC1 := Lib.hid (hu1.at HB1.out (by simp))
  have HZ1 := Lib.hid (hu1.at HB2.out (by simp))
  have HN1 := Lib.hid (HN0.out.same (SameIn.upto (HU.out.trans_ext hu1) (by have := HLT.out; omega) (by simp)))
  have hn0 := HN1.out.cell (j := 0) (x := b) (by rw [HNM.out.1]; rfl)
  have n0 := hn0.1
  rw [Nat.add_zero] at n0
  unfold sV at n0
  clear hu1 hn0 x0 x1 x2 x3 x4 x5
  obtain ⟨x0, x1, x2, x3, x4, x5⟩ := cells6 HC1.out
  have hzz : (b == fr) = false := by rw [beq_eq_false_iff_ne]; exact hbf
  clear hbf
  go_wp2_with fail
  refine (HBI.out _).mono ?_
  rintro e w2 ⟨rfl, hu2⟩
  have HU2 := Lib.hid (HU1.out.trans_ext hu2)
  have HC2 := Lib.hid (HU2.out.at HB1.out (by simp))
  have HZ2 := Lib.hid (HU2.out.at HB2.out (by simp))
  have HN2 := Lib.hid (HN0.out.same (SameIn.upto (HU.out.trans_ext HU2.out) (by have := HLT.out; omega) (by simp)))
  have HK2 := Lib.hid (HK0.out.same (SameIn.upto (HU.out.trans_ext HU2.out) (by have := HLT.out; omega) (by simp)))
  clear hu2 n0 x0 x1 x2 x3 x4 x5 HN0 HK0
  have hn0 := HN2.out.cell (j := 0) (x := b) (by rw [HNM.out.1]; rfl)
  have n0 := hn0.1
  rw [Nat.add_zero] at n0
  unfold sV at n0
  clear hn0
  obtain ⟨x0, x1, x2, x3, x4, x5⟩ := cells6 HC2.out
  have hz2 : (b == ta) = true := by rw [HBT.out]; exact beq_self_eq_true ta
  obtain ⟨qo, b1, q1, e1, qs, qn, qm, b2, q2, e2, k, q, hsix, t9, ht9, hnd⟩ := HK2.out.first HNM.out.2
  have HSX := Lib.hid hsix
  have HT9 := Lib.hid ht9
  have HFR : Hid (∀ u, Upto [] w2 u → Calls Tryz.prog 19 #[.agg #[.int .i64 qo, .slice b1 q1 e1, .int .i64 qs, .int .i64 qn, .int .i64 qm, .slice b2 q2 e2]] u fun e w' => ∃ v, e = .returned v ∧ TxI u (freeP x [] []) v w') := Lib.hid (fun u hu => FreeT_calls x _ _ _ (hnd.ext hu) (by have := HKX.out.2.2.2; omega) HKX.out.2.2.1 (by have := HKX.out.2.2.2; omega))
  have HBO : Hid (∀ u, Upto [] w2 u → Calls Tryz.prog 20 #[.agg #[.int .i64 qo, .slice b1 q1 e1, .int .i64 qs, .int .i64 qn, .int .i64 qm, .slice b2 q2 e2]] u (FqPost u (boundP x []))) := Lib.hid (fun u hu => Bound_calls x _ _ _ (hnd.ext hu) (by have := HKX.out.2.2.2; omega) HKX.out.2.2.1)
  obtain ⟨l0, l1, l2, l3, l4, l5⟩ := hsix.cells ht9
  clear hsix ht9 hnd
  go_wp2_with fail
  refine (HFR.out _ (Upto.refl _ _)).mono ?_
  rintro e w3 ⟨vo, rfl, ht⟩
  have HTU := Lib.hid ht.up
  have HCO := Lib.hid (containsS_calls (freeP x [] []) fr vo w3 _ ht.slp (by rw [free_same]; have := freeR_len x; have := HKX.out.2.2.2; omega))
  obtain ⟨va, vc, rfl, -⟩ := ownsRow_len ht.row
  clear ht l0 l1 l2 l3 l4 l5 x0 x1 x2 x3 x4 x5 n0
  go_wp2_with fail
  refine HCO.out.mono ?_
  rintro e w4 ⟨rfl, rfl⟩
  rw [free_same, HCP.out]
  go_wp2_with fail
  have e5 : ∀ u : Ext w4, u.w.cell? ⟨w.heap.size, 5, none⟩ = some (.slice (some ⟨g, o, none⟩) 1 c2) := fun u => u.cell (cell_of (HTU.out.at HC2.out (by simp)) 5)
  obtain ⟨l0, l1, l2, l3, l4, l5⟩ := HSX.out.cells (HTU.out.at HT9.out (by simp))
  have k0 : ∀ u : Ext w4, u.w.cell? ⟨g, o, none⟩ = some (.int .i64 qo) := fun u => u.cell l0
  have k1 : ∀ u : Ext w4, u.w.cell? ⟨g, o + 1, none⟩ = some (.slice b1 q1 e1) := fun u => u.cell l1
  have k2 : ∀ u : Ext w4, u.w.cell? ⟨g, o + 2, none⟩ = some (.int .i64 qs) := fun u => u.cell l2
  have k3 : ∀ u : Ext w4, u.w.cell? ⟨g, o + 3, none⟩ = some (.int .i64 qn) := fun u => u.cell l3
  have k4 : ∀ u : Ext w4, u.w.cell? ⟨g, o + 4, none⟩ = some (.int .i64 qm) := fun u => u.cell l4
  have k5 : ∀ u : Ext w4, u.w.cell? ⟨g, o + 5, none⟩ = some (.slice b2 q2 e2) := fun u => u.cell l5
  clear l0 l1 l2 l3 l4 l5
  refine wp_region_seg_at [4, 9] [] [0, 1, 2, 3, 4, 5, 6, 7, 8, 9] [10, 11] 10 (by kernel_rfl) (by kernel_rfl) (by kernel_rfl) ?_
  iterate 4 (refine seg_plain rfl rfl rfl rfl rfl ?_; intro K' hK'; go_big_quiet_op; go_big_quiet_on)
  refine seg_callO (Y := Option Addr × Nat) (fun tt => .slice tt.1 (freeP x [] []).length tt.2) (fun tt u => TxI w4 (freeP x [] []) (.slice tt.1 (freeP x [] []).length tt.2) u) (fun _ => []) rfl rfl rfl rfl (fun _ _ _ h hu => h.ext hu) (fun _ => List.nodup_nil) (fun w => by go_simp) (fun w hu hd => (HFR.out w (HTU.out.trans_ext hu)).mono fun e w' ⟨vo, h1, h2⟩ => by
    obtain ⟨va, vc, rfl, -⟩ := ownsRow_len h2.row
    exact ⟨(va, vc), h1, h2.up, ⟨h2.row, fun g hg => Nat.le_trans hu.size (h2.own g hg), hu.trans_ext h2.up⟩, fun b hb => by cases hb⟩) ?_
  rintro ⟨fa, fc⟩
  simp only [Act.put, List.setIfInBounds_toArray, List.set_cons_zero, List.set_cons_succ]
  iterate 4 (refine seg_plain rfl rfl rfl rfl rfl ?_; intro K' hK'; go_big_quiet_op; go_big_quiet_on)
  refine seg_callO (Y := Option Addr × Nat) (fun tt => .slice tt.1 (boundP x []).length tt.2) (fun tt u => SlP u (fun _ => True) (.slice tt.1 (boundP x []).length tt.2) (boundP x []).length ((boundP x []).map sV)) (fun _ => []) rfl rfl rfl rfl (fun _ _ _ h hu => h.ext hu) (fun _ => List.nodup_nil) (fun w => by go_simp) (fun w hu hd => (HBO.out w (HTU.out.trans_ext hu)).mono fun e w' ⟨vo, h1, h2⟩ => by
    obtain ⟨va, vc, rfl⟩ := h2.slp.len
    exact ⟨(va, vc), h1, h2.up, h2.slp.mono (fun _ _ _ => trivial), fun b hb => by cases hb⟩) ?_
  rintro ⟨ba, bc⟩
  simp only [Act.put, List.setIfInBounds_toArray, List.set_cons_zero, List.set_cons_succ]
  intro w10 hg
  have HT10 : Hid (TxI w4 (freeP x [] []) (.slice fa (freeP x [] []).length fc) w10) := Lib.hid hg.hold.2.1
  have HBD : Hid (SlC w10 (.slice ba (boundP x []).length bc) ((boundP x []).map sV)) := Lib.hid (SlP.slc (P := fun _ => True) (by rw [List.length_map]; exact hg.hold.1))
  simp only [List.drop_succ_cons, List.drop_zero]
  have hlen1 : (freeP x [] []).length ≤ 8000 := by rw [free_same]; have := freeR_len x; have := HKX.out.2.2.2; omega
  have hlen2 : ((boundP x []).map sV).length ≤ 8000 := by rw [List.length_map, bound_same]; have := boundR_len x; have := HKX.out.2.2.2; omega
  have hlen3 : (boundP x []).length ≤ 8000 := by simpa using hlen2
  have hone : ∀ u ∈ (boundP x []).map sV, u.oneCell' = true := fun u hu => by
    obtain ⟨y, -, rfl⟩ := List.mem_map.1 hu
    rfl
  have hrow := HT10.out.row
  clear hg e5 k0 k1 k2 k3 k4 k5
  go_wp2_with (at_builtin; first
    | (refine wpList_apps _ rfl (.tmp 48) (.tmp 53) 22 rfl 9 i0 (.string ⟨#[]⟩) 16 Tryz.underlying22 HI0.out HZ0.out HZ1'.out HZ2'.out rfl (.slice fa (freeP x [] []).length fc) (freeP x [] []).length _ rfl hrow (.slice ba (boundP x []).length bc) ((boundP x []).map sV) rfl HBD.out hone (by simp only [maxLen]; omega) (by omega) ?_; intro vb vd w11 ho hu hw; simp only [List.length_map] at ho hw ⊢; have HM := Lib.hid (HT10.out.apps (ys := boundP x []) rfl rfl ho hu hw); clear hrow ho hu hw; have HT11 : Hid (TxI w4 (freeP x [] [] ++ boundP x []) (.slice vb ((freeP x [] []).length + (boundP x []).length) vd) (w11.alloc (.cells #[.string ⟨fr.toArray⟩, .string ⟨ta.toArray⟩] 9))) := Lib.hid (HM.out.ext ((Upto.refl [] _).alloc _)); have hrow2 := HT11.out.row; rw [show (freeP x [] [] ++ boundP x []).length = (freeP x [] []).length + (boundP x []).length from List.length_append] at hrow2; have hsrc2 := cells_at (l := [sV fr, sV ta]) (new_at w11 (.cells #[.string ⟨fr.toArray⟩, .string ⟨ta.toArray⟩] 9)))
    | (refine wpList_app _ rfl (.tmp 56) (.tmp 59) 22 rfl 9 i0 (.string ⟨#[]⟩) 1 16 Tryz.underlying22 HI0.out HZ0.out HZ1'.out HZ2'.out rfl (by decide) (.slice vb ((freeP x [] []).length + (boundP x []).length) vd) ((freeP x [] []).length + (boundP x []).length) _ rfl hrow2 ⟨w11.heap.size, 0, none⟩ 2 2 [sV fr, sV ta] rfl rfl hsrc2 (by simp [Value.oneCell', sV]) (by simp only [maxLen]; omega) (by omega) ?_; intro vb2 vd2 w12 ho hu hw; have HN := Lib.hid (HT11.out.apps (ys := [fr, ta]) (by simp) rfl ho hu hw); clear hrow2 hsrc2 ho hu hw))
  have HFP := Lib.hid (freshPG_calls ta (freeP x [] [] ++ boundP x [] ++ [fr, ta]) (.slice vb2 ((freeP x [] []).length + (boundP x []).length + 2) vd2) w12 _ (by have := HN.out.slp; simpa using this) (cap_list_len fr ta x HKX.out.2.2.2) HEP.out.2.2 (HEP.out.1.ext (HR0.out.1.trans_ext (HU.out.trans_ext (HU2.out.trans_ext (HTU.out.trans_ext HN.out.up))))) (HEP.out.2.1.ext (HR0.out.1.trans_ext (HU.out.trans_ext (HU2.out.trans_ext (HTU.out.trans_ext HN.out.up))))))
  refine HFP.out.mono ?_
  rintro e w13 ⟨rfl, hu13⟩
  rw [cap_prog]
  have HU4 := Lib.hid (HTU.out.trans_ext (HN.out.up.trans_ext hu13))
  have HC13 := Lib.hid (HU4.out.at HC2.out (by simp))
  have HZ13 := Lib.hid (HU4.out.at HZ2.out (by simp))
  have HS13 : Hid (w.heap.size ≤ w2.heap.size) := Lib.hid (HU.out.trans_ext HU2.out).size
  have HN13 := Lib.hid (HN2.out.same (SameIn.upto HU4.out (by have := HLT.out; have := HS13.out; omega) (by simp)))
  have HK13 := Lib.hid (HK2.out.same (SameIn.upto HU4.out (by have := HLT.out; have := HS13.out; omega) (by simp)))
  have HU13 := Lib.hid ((HU.out.trans_ext HU2.out).trans_ext HU4.out)
  have hn0 := HN13.out.cell (j := 0) (x := b) (by rw [HNM.out.1]; rfl)
  obtain ⟨n0, nf, hg1, hg2⟩ := hn0
  rw [Nat.add_zero] at n0 nf
  unfold sV at n0
  have HG1 := Lib.hid (And.intro hg1 hg2)
  clear hu13 HFP HM HT11 HN HT10 HCO hlen1 hlen2 hlen3 hone hg1 hg2
  obtain ⟨x0, x1, x2, x3, x4, x5⟩ := cells6 HC13.out
  go_wp2_with fail
  obtain ⟨W14, hW14⟩ : ∃ W14, W14 = w13.setCell ⟨g1, o1, none⟩ (.string ⟨(capName fr ta x).toArray⟩) := ⟨_, rfl⟩
  simp only [← hW14]
  have HS14 : Hid (Upto (Rg lo m) w13 W14) := Lib.hid (by rw [hW14]; exact (Upto.refl _ w13).setCell (p := ⟨g1, o1, none⟩) (Or.inl (mem_rg.2 HG1.out)) _)
  have HN14 : Hid (NmT W14 [capName fr ta x] (.slice (some ⟨g1, o1, none⟩) 1 c1) lo m) := Lib.hid (by
    have h1 := HN13.out
    rw [HNM.out.1] at h1
    have h2 := NmT.set (nms := [b]) (j := 0) (x := capName fr ta x) h1 (by simp)
    rw [Nat.add_zero] at h2
    rw [hW14]
    exact h2)
  have HU14 : Hid (Upto (Rg lo hi) w W14) := Lib.hid ((HU13.out.mono (by simp)).trans_same (Upto.rg HS14.out (Nat.le_refl _) HLT.out.2.2))
  have HC14 := Lib.hid (HS14.out.at HC13.out (by rw [mem_rg]; have := HLT.out; omega))
  have HZ14 := Lib.hid (HS14.out.at HZ13.out (by rw [mem_rg]; have := HLT.out; omega))
  have HK14 := Lib.hid (HK13.out.same (SameIn.upto HS14.out (by have := HLT.out; have := HU13.out.size; omega) (fun b hb => by rw [mem_rg] at hb; exact Or.inl hb.2)))
  have HF14 : Hid (Upto [] w0 W14) := Lib.hid (Upto.far HR0.out.1 HU14.out HR0.out.2)
  have HGB : Hid (m ≤ g ∧ g < hi) := Lib.hid (HK14.out.elim (fun h0 => by have := HL2.out.1; rw [h0] at this; simp at this) (fun h1 => ⟨h1.2.2.1, h1.2.2.2.1⟩))
  have HKI0 : Hid (KI w0 W14 (renF d ta (capName fr ta x)) [x] cs o g m hi 0 W14) := Lib.hid (KI.first HK14.out HNM.out.2)
  clear hW14 x0 x1 x2 x3 x4 x5 n0 nf HSX
  obtain ⟨v0, v1, v2, v3, v4, v5, k, q, hsix, hk1, hk2, hk3, hin, hout⟩ := HKI0.out.step (d := d) (i := 0) (x := x) rfl (by have := HLT.out; have := HU14.out.size; omega) HF14.out (by have := HLT.out; have := HR0.out.2; omega) HKX.out.1 HKX.out.2.1 HKX.out.2.2.1 HKX.out.2.2.2
  obtain ⟨qo, b1, q1, e1, qs, qn, qm, b2, q2, e2, heq⟩ := ((hin W14 (Upto.refl _ _)).own.ndv _ _ _ _).six
  obtain ⟨rfl, rfl, rfl, rfl, rfl, rfl⟩ : v0 = .int .i64 qo ∧ v1 = .slice b1 q1 e1 ∧ v2 = .int .i64 qs ∧ v3 = .int .i64 qn ∧ v4 = .int .i64 qm ∧ v5 = .slice b2 q2 e2 := by simpa using heq
  clear heq
  simp only [Nat.zero_mul, Nat.add_zero] at hsix
  have HSX := Lib.hid hsix
  have HIN := Lib.hid hin
  have HOUT := Lib.hid hout
  have HP2 : Hid (Upto [] W14 W14.drew) := Lib.hid (Upto.refl [] W14).drew
  clear hsix hin hout
  apply shareW (F := fun u => Hid (KI w0 W14 (renF d ta (capName fr ta x)) [x] cs o g m hi (0 + 1) u) ∧ Hid (Upto (Rg k q) W14 u))
  case use =>
    intro hshare
    have HSH := Lib.hid hshare
    clear hshare
    obtain ⟨t9, ht9⟩ := HKI0.out.at_
    obtain ⟨l0, l1, l2, l3, l4, l5⟩ := HSX.out.cells ht9
    have x5 := cell_of HC14.out 5
    simp only [List.getElem?_toArray, List.getElem?_cons_zero, List.getElem?_cons_succ] at x5
    have HRM := Lib.hid (IHH.out ta (capName fr ta x) (by have := cap_short fr ta x HKX.out.2.2.2; omega) _ _ _ _ _ (HIN.out _ HP2.out))
    clear ht9
    go_region_with (refine HRM.out.mono ?_
                    rintro e w20 ⟨rfl, hw20⟩
                    have HJ20 := Lib.hid (HOUT.out _ _ HP2.out ⟨rfl, hw20⟩)
                    have HS20 := Lib.hid ((HP2.out.mono (S := []) (S' := Rg k q) (by simp)).trans_same hw20.2)
                    have HC20 := Lib.hid (HS20.out.at HC14.out (by rw [mem_rg]; have := HLT.out; omega))
                    have z5 := cell_of HC20.out 5
                    simp only [List.getElem?_toArray, List.getElem?_cons_zero, List.getElem?_cons_succ] at z5
                    obtain ⟨t21, ht21⟩ := HJ20.out.at_
                    have HT21 := Lib.hid ht21
                    clear hw20 ht21
                    obtain ⟨m0, m1, m2, m3, m4, m5⟩ := HSX.out.cells HT21.out
                    have f0 := free_of HT21.out o
                    have f1 := free_of HT21.out (o + 1)
                    have f2 := free_of HT21.out (o + 2)
                    have f3 := free_of HT21.out (o + 3)
                    have f4 := free_of HT21.out (o + 4)
                    have f5 := free_of HT21.out (o + 5))
    all_goals
      simp only [HSX.out.same HT21.out]
      clear x5 l0 l1 l2 l3 l4 l5 z5 m0 m1 m2 m3 m4 m5 f0 f1 f2 f3 f4 f5
      exact HSH.out _ ⟨HJ20, HS20⟩
  case tail =>
    rintro w20 ⟨HJ20, HS20⟩
    have hm1 : m ≤ k := hk1
    have hq1 : q ≤ hi := hk2
    have HUS2 : Hid (∀ u, NmT u NM2 (.slice (some ⟨g1, o1, none⟩) 1 c1) lo m → Calls Tryz.prog 74 #[.agg #[.int .i64 op, .slice (some ⟨g1, o1, none⟩) 1 c1, .int .i64 so, .int .i64 nn, .int .i64 mm, .slice (some ⟨g, o, none⟩) 1 c2]] u (UsA op NM2 (some ⟨g1, o1, none⟩) u)) := Lib.hid (fun u hu => by
      have h1 : NM2.length = 1 := by rw [HND.out.1]; rfl
      have h3 := NmT.slp hu
      have h2 := usesA_calls (fun _ => True) op NM2 (some ⟨g1, o1, none⟩) c1 so nn mm (some ⟨g, o, none⟩) 1 c2 u (fun h10 => absurd h10 HB10.out) (by rw [h1] at h3 ⊢; exact h3) (by omega)
      rw [h1] at h2
      exact h2)
    have HUL2 : Hid ((usesF op NM2).length ≤ 8000) := Lib.hid (by rw [HUE.out]; simp)
    have HM1 : Hid (NM2.length = 1) := Lib.hid (by rw [HND.out.1]; rfl)
    have HM2 : Hid (LL2.length = 1 ∧ 1 ≤ 8000) := Lib.hid ⟨by rw [HND.out.2]; rfl, by omega⟩
    have HKE : Hid (∀ x ∈ LL2, depthF x ≤ d ∧ oneN x ∧ goodN x ∧ nmsF x + sizeF x + 2 ≤ 8000) := Lib.hid (fun y hy => by
      rw [HND.out.2] at hy
      obtain rfl := List.mem_singleton.1 hy
      exact ren_kept d d ta (capName fr ta x) x HKX.out.1 HKX.out.2.1 HKX.out.2.2.1 HKX.out.2.2.2)
    have HSM := Lib.hid (Upto.rg HS20.out hm1 hq1)
    have HC := Lib.hid (HSM.out.at HC14.out (by rw [mem_rg]; have := HLT.out; omega))
    have HZ := Lib.hid (HSM.out.at HZ14.out (by rw [mem_rg]; have := HLT.out; omega))
    have HU9 : Hid (Upto (Rg lo hi) w w20) := Lib.hid (HU14.out.trans_same (Upto.rg HSM.out HLT.out.2.1 (Nat.le_refl _)))
    have HN : Hid (NmT w20 NM2 (.slice (some ⟨g1, o1, none⟩) 1 c1) lo m) := Lib.hid (by
      rw [HND.out.1]
      exact HN14.out.same (SameIn.upto HSM.out (by have := HLT.out; have := HU14.out.size; omega) (fun b hb => by rw [mem_rg] at hb; exact Or.inr hb.1)))
    have HK : Hid (KdsT w20 LL2 (some ⟨g, o, none⟩) cs o g m hi) := Lib.hid (by
      rw [HND.out.2]
      exact KI.one HJ20.out rfl HGB.out.1 HGB.out.2)
    clear HSX HIN HOUT HJ20 HS20 HKI0 HF14 HK14 HU14 HN14 HC14 HZ14 HS14 hk1 hk2 hk3 hm1 hq1 HSM HP2
    obtain ⟨x0, x1, x2, x3, x4, x5⟩ := cells6 HC.out
    go_wp2_with fail
    refine (HUS2.out _ HN.out).mono ?_
    rintro e w3 ⟨vu, rfl, hu3, hv3⟩
    have HC3 := Lib.hid (hu3.at HC.out (by simp))
    have HZ3 := Lib.hid (hu3.at HZ.out (by simp))
    have HU3 := Lib.hid (HU9.out.trans_ext hu3)
    have HN3 := Lib.hid (HN.out.same (SameIn.upto hu3 (by have := HLT.out; have := HU9.out.size; omega) (by simp)))
    have HK3 := Lib.hid (HK.out.same (SameIn.upto hu3 (by have := HLT.out; have := HU9.out.size; omega) (by simp)))
    obtain ⟨ua, N, uc, HV, rfl⟩ : ∃ (ua : Option Addr) (N uc : Nat), Hid (N = (usesF op NM2).length ∧ (N = 0 ∨ ∃ g o, ua = some ⟨g, o + (if op = 10 then 1 else 0), none⟩ ∧ (some (⟨g1, o1, none⟩ : Addr)) = some ⟨g, o, none⟩ ∧ N + (if op = 10 then 1 else 0) = 1 ∧ N ≤ uc)) ∧ vu = .slice ua N uc := by
      rcases hv3 with ⟨h1, a, c, rfl⟩ | ⟨g, o, c, k, rfl, h2, rfl, h3, h4⟩
      · exact ⟨a, 0, c, Lib.hid ⟨by rw [h1]; rfl, Or.inl rfl⟩, rfl⟩
      · exact ⟨_, _, c, Lib.hid ⟨rfl, Or.inr ⟨g, o, rfl, h2, by rw [h3]; exact HM1.out, h4⟩⟩, rfl⟩
    have HNB : Hid (N ≤ 8000) := Lib.hid (by
      have h1 := HV.out.1
      have h2 := HUL2.out
      omega)
    clear hu3 hv3 x0 x1 x2 x3 x4 x5
    have hNB := HNB.out
    have hNI : (N : Int) ≤ 8000 := by omega
    go_wp2_with fail
    go_loopw [80] (fun v wr => ∃ j : Nat, j ≤ N ∧ v = .int .i64 j ∧ Hid (NI w3 (rnName fr ta) (if op = 10 then 1 else 0) NM2 (some (⟨g1, o1, none⟩ : Addr)) c1 lo m j wr)) (fun v _ => N - (intOf v).toNat)
    case atStart => exact ⟨0, by omega, rfl, Lib.hid (NI.start (by rw [HM1.out]; exact HN3.out))⟩
    case round =>
      obtain ⟨j, hj, rfl, HI⟩ := hrel
      have hj0 : (0 : Int) ≤ j := by omega
      rcases Nat.lt_or_ge j N with hlt | hge
      · have hjl : (j : Int) < N := by omega
        obtain ⟨g9, o9, hua, ha1, hNl, huc⟩ : ∃ g o, ua = some ⟨g, o + (if op = 10 then 1 else 0), none⟩ ∧ (some (⟨g1, o1, none⟩ : Addr)) = some ⟨g, o, none⟩ ∧ N + (if op = 10 then 1 else 0) = 1 ∧ N ≤ uc := HV.out.2.resolve_left (by omega)
        obtain ⟨x, hx⟩ : ∃ x, NM2[(if op = 10 then 1 else 0) + j]? = some x := ⟨NM2[(if op = 10 then 1 else 0) + j]'(by rw [HM1.out]; omega), List.getElem?_eq_getElem _⟩
        subst hua
        have HA1 := Lib.hid ha1
        replace HI : Hid (NI w3 (rnName fr ta) (if op = 10 then 1 else 0) NM2 (some ⟨g9, o9, none⟩) c1 lo m j wr) := Lib.hid (by rw [← ha1]; exact HI.out)
        have HX := Lib.hid hx
        obtain ⟨q0, q1⟩ := HI.out.at hx
        clear ha1 hx
        generalize hgk : (if op = 10 then 1 else 0) = k9 at *
        clear hgk
        unfold sV at q0
        by_cases hz : x = fr
        · have hzz : (x == fr) = true := by rw [hz]; exact beq_self_eq_true fr
          have HI2 := Lib.hid (HI.out.put (y := ta) HX.out (by unfold rnName; rw [if_pos hz]))
          clear hz
          go_wp2_with fail
          exact ⟨⟨j + 1, by omega, by simp, Lib.hid (by rw [HA1.out]; exact HI2.out)⟩, by simp [intOf]; omega⟩
        · have hzz : (x == fr) = false := by rw [beq_eq_false_iff_ne]; exact hz
          have HI2 := Lib.hid (HI.out.stay HX.out (by unfold rnName; rw [if_neg hz]))
          clear hz
          go_wp2_with fail
          exact ⟨⟨j + 1, by omega, by simp, Lib.hid (by rw [HA1.out]; exact HI2.out)⟩, by simp [intOf]; omega⟩
      · obtain rfl : j = N := by omega
        obtain ⟨w5, hw5⟩ : ∃ w5, w5 = wr := ⟨_, rfl⟩
        subst hw5
        have HJN : Hid (NmT w5 (rnUses op (rnName fr ta) NM2) (.slice (some (⟨g1, o1, none⟩ : Addr)) 1 c1) lo m) := Lib.hid (by
          have h1 := HI.out.nm
          have h2 := HV.out.1
          rw [HM1.out] at h1
          rcases Nat.eq_zero_or_pos j with h0 | h0
          · rw [h0, mapAt_zero] at h1
            rw [rnUses_none (List.eq_nil_of_length_eq_zero (by omega))]
            exact h1
          · rw [h2, mapAt_uses rfl (by omega)] at h1
            exact h1)
        have HUW := Lib.hid (HU3.out.trans_same (Upto.rg HI.out.up (Nat.le_refl _) HLT.out.2.2))
        have HC4 := Lib.hid (HI.out.up.at HC3.out (by rw [mem_rg]; have := HLT.out; omega))
        have HZ4 := Lib.hid (HI.out.up.at HZ3.out (by rw [mem_rg]; have := HLT.out; omega))
        have HK4 := Lib.hid (HK3.out.same (SameIn.upto HI.out.up (by have := HLT.out; have := HU3.out.size; omega) (fun b hb => by rw [mem_rg] at hb; exact Or.inl hb.2)))
        obtain ⟨x0, x1, x2, x3, x4, x5⟩ := cells6 HC4.out
        go_wp2_with fail
        have hn2 := HM2.out.2
        have hn2I : (1 : Int) ≤ 8000 := by omega
        go_loopw [96] (fun v wr => ∃ i : Nat, i ≤ 1 ∧ v = .int .i64 i ∧ Hid (Upto (Rg m hi) w5 wr ∧ (1 = 0 ∨ ((some (⟨g, o, none⟩ : Addr)) = some ⟨g, o, none⟩ ∧ m ≤ g ∧ g < hi ∧ KI w0 w5 (renF d fr ta) LL2 cs o g m hi i wr)))) (fun v _ => 1 - (intOf v).toNat)
        case atStart =>
          refine ⟨0, by omega, rfl, Lib.hid ⟨Upto.refl _ _, ?_⟩⟩
          rcases HK4.out with h1 | ⟨h1, h2, h3, h4, h5⟩
          · exact Or.inl (by have := HM2.out.1; rw [h1] at this; simpa using this.symm)
          · exact Or.inr ⟨h1, h3, h4, ⟨by rw [mapAt_zero]; exact h5, Upto.refl _ _, h2⟩⟩
        case round =>
          obtain ⟨i, hi9, rfl, HI2⟩ := hrel
          have hi0 : (0 : Int) ≤ i := by omega
          have HC5 := Lib.hid (HI2.out.1.at HC4.out (by rw [mem_rg]; have := HLT.out; omega))
          have HZ5 := Lib.hid (HI2.out.1.at HZ4.out (by rw [mem_rg]; have := HLT.out; omega))
          clear x0 x1 x2 x3 x4 x5
          obtain ⟨x0, x1, x2, x3, x4, x5⟩ := cells6 HC5.out
          rcases Nat.lt_or_ge i 1 with hil | hig
          · have hilI : (i : Int) < 1 := by omega
            obtain ⟨-, hmg, hgh, HKI⟩ : (some (⟨g, o, none⟩ : Addr)) = some ⟨g, o, none⟩ ∧ m ≤ g ∧ g < hi ∧ Hid (KI w0 w5 (renF d fr ta) LL2 cs o g m hi i wr) := (HI2.out.2.resolve_left (by omega)).imp id (fun h => h.imp id (fun h2 => h2.imp id Lib.hid))
            obtain ⟨x, hx⟩ : ∃ x, LL2[i]? = some x := ⟨LL2[i]'(by rw [HM2.out.1]; omega), List.getElem?_eq_getElem _⟩
            have hxm := HKE.out x (List.mem_of_getElem? hx)
            obtain ⟨v0, v1, v2, v3, v4, v5, k, q, hsix, hk1, hk2, hk3, hin, hout⟩ := HKI.out.step (d := d) hx (by have := HLT.out; have := HUW.out.size; omega) (Upto.far HR0.out.1 HUW.out HR0.out.2) (by have := HLT.out; have := HR0.out.2; omega) hxm.1 hxm.2.1 hxm.2.2.1 hxm.2.2.2
            have HIN := Lib.hid hin
            have HOUT := Lib.hid hout
            obtain ⟨qo, b1, q1, e1, qs, qn, qm, b2, q2, e2, heq⟩ := ((hin wr (Upto.refl _ _)).own.ndv _ _ _ _).six
            obtain ⟨rfl, rfl, rfl, rfl, rfl, rfl⟩ : v0 = .int .i64 qo ∧ v1 = .slice b1 q1 e1 ∧ v2 = .int .i64 qs ∧ v3 = .int .i64 qn ∧ v4 = .int .i64 qm ∧ v5 = .slice b2 q2 e2 := by simpa using heq
            clear heq
            have HSX := Lib.hid hsix
            obtain ⟨t9, ht9⟩ := HKI.out.at_
            obtain ⟨l0, l1, l2, l3, l4, l5⟩ := hsix.cells ht9
            clear hx hxm hin hout hsix ht9
            go_wp2_with fail
            obtain ⟨W18, hW18⟩ : ∃ W18, W18 = wr.alloc (.cells #[.int .i64 qo, .slice b1 q1 e1, .int .i64 qs, .int .i64 qn, .int .i64 qm, .slice b2 q2 e2] 30) := ⟨_, rfl⟩
            have HA18 : Hid (Upto [] wr W18) := Lib.hid (by rw [hW18]; exact (Upto.refl [] wr).alloc _)
            have HL18 : Hid (W18.heap[wr.heap.size]? = some (.cells #[.int .i64 qo, .slice b1 q1 e1, .int .i64 qs, .int .i64 qn, .int .i64 qm, .slice b2 q2 e2] 30 (0, 0))) := Lib.hid (by rw [hW18]; exact new_at wr _)
            simp only [← hW18]
            have HP2 : Hid (Upto [] wr W18.drew) := Lib.hid HA18.out.drew
            have HC18 := Lib.hid (HA18.out.at HC5.out (by simp))
            clear hW18 x0 x1 x2 x3 x4 x5 l0 l1 l2 l3 l4 l5
            have x5 := cell_of HC18.out 5
            simp only [List.getElem?_toArray, List.getElem?_cons_zero, List.getElem?_cons_succ] at x5
            obtain ⟨y0, y1, y2, y3, y4, y5⟩ := cells6 HL18.out
            have HRM := Lib.hid (IHH.out fr ta HEP.out.2.2 _ _ _ _ _ (HIN.out _ HP2.out))
            go_region_with (refine HRM.out.mono ?_
                            rintro e w20 ⟨rfl, hw20⟩
                            have HU20 := Lib.hid (HP2.out.mono (S := []) (S' := Rg k q) (by simp))
                            have HJ20 := Lib.hid (HOUT.out _ _ HP2.out ⟨rfl, hw20⟩)
                            have HS20 := Lib.hid (HU20.out.trans_same hw20.2)
                            have HC20 := Lib.hid (HS20.out.at HC5.out (by rw [mem_rg]; have := HLT.out; omega))
                            have z5 := cell_of HC20.out 5
                            simp only [List.getElem?_toArray, List.getElem?_cons_zero, List.getElem?_cons_succ] at z5
                            obtain ⟨t21, ht21⟩ := HJ20.out.at_
                            have HT21 := Lib.hid ht21
                            clear hw20 ht21
                            obtain ⟨m0, m1, m2, m3, m4, m5⟩ := HSX.out.cells HT21.out
                            have f0 := free_of HT21.out (o + i * 6)
                            have f1 := free_of HT21.out (o + i * 6 + 1)
                            have f2 := free_of HT21.out (o + i * 6 + 2)
                            have f3 := free_of HT21.out (o + i * 6 + 3)
                            have f4 := free_of HT21.out (o + i * 6 + 4)
                            have f5 := free_of HT21.out (o + i * 6 + 5))
            all_goals
              simp only [HSX.out.same HT21.out]
              clear x5 y0 y1 y2 y3 y4 y5 z5 m0 m1 m2 m3 m4 m5 f0 f1 f2 f3 f4 f5
              go_wp2_with fail
              exact ⟨⟨i + 1, by omega, by simp, Lib.hid ⟨HI2.out.1.trans_same (Upto.rg HS20.out hk1 hk2), Or.inr ⟨(by trivial), hmg, hgh, HJ20.out⟩⟩⟩, by simp [intOf]; omega⟩
          · obtain rfl : i = 1 := by omega
            obtain ⟨y0, y1, y2, y3, y4, y5⟩ := cells6 HZ5.out
            obtain ⟨f0, f1, f2, f3, f4, f5⟩ := frees6 HZ5.out
            go_wp2_with fail
            clear x0 x1 x2 x3 x4 x5 y0 y1 y2 y3 y4 y5 f0 f1 f2 f3 f4 f5
            have hst := nd_store HZ5.out (.int .i64 op) (.slice (some (⟨g1, o1, none⟩ : Addr)) 1 c1) (.int .i64 so) (.int .i64 nn) (.int .i64 mm) (.slice (some (⟨g, o, none⟩ : Addr)) 1 c2)
            have hself := nd_self wr (w.heap.size + 1) (.int .i64 op) (.slice (some (⟨g1, o1, none⟩ : Addr)) 1 c1) (.int .i64 so) (.int .i64 nn) (.int .i64 mm) (.slice (some (⟨g, o, none⟩ : Addr)) 1 c2)
            have hup0 := HUW.out.trans_same (Upto.rg HI2.out.1 HLT.out.2.1 (Nat.le_refl _))
            have hup := nd_up hup0 (B := w.heap.size + 1) (Or.inr (by omega)) (.int .i64 op) (.slice (some (⟨g1, o1, none⟩ : Addr)) 1 c1) (.int .i64 so) (.int .i64 nn) (.int .i64 mm) (.slice (some (⟨g, o, none⟩ : Addr)) 1 c2)
            have hown : OwT wr (.mk op (rnUses op (rnName fr ta) NM2) so nn mm (LL2.map (renF d fr ta))) (.agg #[.int .i64 op, .slice (some (⟨g1, o1, none⟩ : Addr)) 1 c1, .int .i64 so, .int .i64 nn, .int .i64 mm, .slice (some (⟨g, o, none⟩ : Addr)) 1 c2]) lo hi := by
              refine OwT.join (cs := cs) (o := o) (g := g) (m := m) (by rw [rnUses_len]; exact HM1.out) (by rw [List.length_map]; exact HM2.out.1) HLT.out.2.1 HLT.out.2.2 (HJN.out.same (SameIn.upto HI2.out.1 (by have := HLT.out; have := HUW.out.size; omega) (fun b hb => by rw [mem_rg] at hb; exact Or.inr hb.1))) ?_
              rcases HI2.out.2 with h1 | ⟨h1, h2, h3, h4⟩
              · exact Or.inl (by rw [List.map_eq_nil_iff]; exact List.eq_nil_of_length_eq_zero (by rw [HM2.out.1]; exact h1))
              · have h5 := h4.ow
                rw [← HM2.out.1, mapAt_all] at h5
                exact Or.inr ⟨(by trivial), h4.at_, h2, h3, h5⟩
            have hown2 := hown.same _ _ _ _ (SameIn.upto hself (by have := HLT.out; have := hup0.size; omega) (fun b hb => by have := HLT.out; simp at hb; omega))
            obtain ⟨q0, q1, q2, q3, q4, q5⟩ := cells6 hst
            exact bodyPost_ret (v := .agg #[.int .i64 op, .slice (some (⟨g1, o1, none⟩ : Addr)) 1 c1, .int .i64 so, .int .i64 nn, .int .i64 mm, .slice (some (⟨g, o, none⟩ : Addr)) 1 c2]) (by simp [results, Tryz.results43, go_sem, q0, q1, q2, q3, q4, q5]) rfl ⟨rfl, hown2, hup⟩
end Go.Proofs.YtbnebkkpmcjmbaaGreatDoor
namespace Go.PL
open Go.RowKit
section
variable {P : Program} {ops : Array Oper} {W : World} {Cs As : List Nat} {K : List Fact → Act → Prop}
theorem Seg_then {K2 : List Fact → Act → Prop} {m : List Nat} (hK : ∀ Fs a, K2 Fs a → Seg P ops W Cs As K m Fs a) : ∀ (l : List Nat) (Fs : List Fact) (a : Act), Seg P ops W Cs As K2 l Fs a → Seg P ops W Cs As K (l ++ m) Fs a
  | [], Fs, a, h => hK _ _ h
  | i :: l, Fs, a, h => by
    rw [List.cons_append]
    obtain ⟨o, ho, h⟩ := Seg_cons.1 h
    refine Seg_cons.2 ⟨o, ho, ?_⟩
    unfold Head at h ⊢
    by_cases hw : Region.wanted o (yielded ops a.tmps) = true
    · rw [if_pos hw] at h ⊢
      by_cases hA : i ∈ As
      · rw [if_pos hA] at h ⊢
        obtain ⟨obj, mk, h1, h2⟩ := h
        exact ⟨obj, mk, h1, fun b => Seg_then hK l _ _ (h2 b)⟩
      · rw [if_neg hA] at h ⊢
        by_cases hC : i ∈ Cs
        · rw [if_pos hC] at h ⊢
          rcases h with ⟨v, h1, h2⟩ | ⟨Y, mk, Φ, own, hy, h1, h2, h3, h4⟩
          · exact Or.inl ⟨v, h1, Seg_then hK l _ _ h2⟩
          · exact Or.inr ⟨Y, mk, Φ, own, hy, h1, h2, h3, fun y => Seg_then hK l _ _ (h4 y)⟩
        · rw [if_neg hC] at h ⊢
          obtain ⟨hp, C, hC', h3⟩ := h
          exact ⟨hp, C, hC', Oper.quiet_mono (fun a h => Seg_then hK l _ _ h) h3⟩
    · rw [if_neg hw] at h ⊢
      exact Seg_then hK l _ _ h
structure Fit2 (ops : Array Oper) (Cs As : List Nat) (x : Nat) (l : List Nat) (listed : Array Bool) : Prop where
  size : listed.size = ops.size
  closed : Closed ops listed
  un : ∀ i ∈ l ++ [x], i < ops.size ∧ listed.getD i false = false
  deps : ∀ i ∈ l ++ [x], ∀ o, ops[i]? = some o → ∀ e ∈ o.after, Region.binds .any e = true → listed.getD e.on false = true ∨ (e.on ∈ l ++ [x] ∧ e.on ≠ i)
  others : ∀ k, k < ops.size → listed.getD k false = false → k ∉ l ++ [x] → ∀ i ∈ l, reach ops k i = true
  pairs : (l ++ [x]).Pairwise fun i j => before ops Cs As i j = true
theorem Fit2.ne {x : Nat} {l1 l2 : List Nat} {j : Nat} {listed : Array Bool} (h : Fit2 ops Cs As x (l1 ++ j :: l2) listed) : ∀ i ∈ l1 ++ (l2 ++ [x]), i ≠ j := by
  intro i hi he
  subst he
  have hp := h.pairs
  rw [List.append_assoc, List.cons_append, List.pairwise_append] at hp
  rcases List.mem_append.1 hi with hi | hi
  · have := hp.2.2 i hi i (by simp)
    simp [before] at this
  · have := (List.pairwise_cons.1 hp.2.1).1 i hi
    simp [before] at this
theorem Fit2.step {x : Nat} {l1 l2 : List Nat} {j : Nat} {oj : Oper} {listed : Array Bool} (h : Fit2 ops Cs As x (l1 ++ j :: l2) listed) (hj : ops[j]? = some oj) (hd : ∀ e ∈ oj.after, Region.binds .any e = true → listed.getD e.on false = true) : Fit2 ops Cs As x (l1 ++ l2) (listed.setIfInBounds j true) := by
  have hjm : j ∈ (l1 ++ j :: l2) ++ [x] := by simp
  have hjl : j < listed.size := by rw [h.size]; exact (h.un j hjm).1
  have hne := h.ne
  have hmem : ∀ i, i ∈ (l1 ++ j :: l2) ++ [x] ↔ i = j ∨ i ∈ (l1 ++ l2) ++ [x] := fun i => by
    simp only [List.mem_append, List.mem_cons, List.not_mem_nil, or_false]
    constructor
    · rintro ((h1 | h1 | h1) | h1) <;> simp [h1]
    · rintro (h1 | (h1 | h1) | h1) <;> simp [h1]
  have hsub : ∀ i ∈ (l1 ++ l2) ++ [x], i ∈ (l1 ++ j :: l2) ++ [x] := fun i hi => (hmem i).2 (Or.inr hi)
  have hne2 : ∀ i ∈ (l1 ++ l2) ++ [x], i ≠ j := fun i hi => hne i (by simpa using hi)
  refine ⟨by simp [h.size], ?_, ?_, ?_, ?_, ?_⟩
  · intro i o ho hl e he hb
    rw [getD_set hjl] at hl ⊢
    rw [Bool.or_eq_true] at hl ⊢
    rcases hl with hl | hl
    · exact Or.inl (h.closed i o ho hl e he hb)
    · simp at hl
      subst hl
      rw [hj] at ho
      cases ho
      exact Or.inl (hd e he hb)
  · intro i hi
    refine ⟨(h.un i (hsub i hi)).1, ?_⟩
    rw [getD_set hjl, (h.un i (hsub i hi)).2]
    simp [hne2 i hi]
  · intro i hi o ho e he hb
    rw [getD_set hjl]
    rcases h.deps i (hsub i hi) o ho e he hb with h1 | ⟨h1, h2⟩
    · exact Or.inl (by rw [h1]; rfl)
    · by_cases hej : e.on = j
      · exact Or.inl (by simp [hej])
      · exact Or.inr ⟨((hmem _).1 h1).resolve_left hej, h2⟩
  · intro k hk hun hkl i hi
    rw [getD_set hjl, Bool.or_eq_false_iff] at hun
    have hkj : k ≠ j := by simpa using hun.2
    refine h.others k hk hun.1 (fun hm => hkl (((hmem k).1 hm).resolve_left hkj)) i ?_
    rcases List.mem_append.1 hi with hi | hi <;> simp [hi]
  · have hp := h.pairs
    refine hp.sublist ?_
    exact List.Sublist.append_right (List.Sublist.append_left (List.sublist_cons_self _ _) _) _
theorem Fit2.fit {x : Nat} {l : List Nat} {ox : Oper} {listed : Array Bool} (h : Fit2 ops Cs As x l listed) (hx : ops[x]? = some ox) (hd : ∀ e ∈ ox.after, Region.binds .any e = true → listed.getD e.on false = true) : Fit ops Cs As l (listed.setIfInBounds x true) := by
  have hxl : x < listed.size := by rw [h.size]; exact (h.un x (by simp)).1
  have hne : ∀ i ∈ l, i ≠ x := by
    intro i hi he
    subst he
    have := (List.pairwise_append.1 h.pairs).2.2 i hi i (by simp)
    simp [before] at this
  refine ⟨by simp [h.size], ?_, ?_, ?_, ?_, (List.pairwise_append.1 h.pairs).1⟩
  · intro i o ho hl e he hb
    rw [getD_set hxl] at hl ⊢
    rw [Bool.or_eq_true] at hl ⊢
    rcases hl with hl | hl
    · exact Or.inl (h.closed i o ho hl e he hb)
    · simp at hl
      subst hl
      rw [hx] at ho
      cases ho
      exact Or.inl (hd e he hb)
  · intro i hi
    have := h.un i (by simp [hi])
    refine ⟨this.1, ?_⟩
    rw [getD_set hxl, this.2]
    simp [hne i hi]
  · intro i hi o ho e he hb
    rw [getD_set hxl]
    rcases h.deps i (by simp [hi]) o ho e he hb with h1 | ⟨h1, h2⟩
    · exact Or.inl (by rw [h1]; rfl)
    · by_cases hej : e.on = x
      · exact Or.inl (by simp [hej])
      · refine Or.inr ⟨?_, h2⟩
        rcases List.mem_append.1 h1 with h1 | h1
        · exact h1
        · simp at h1; exact absurd h1 hej
  · intro k hk hun hkl i hi
    rw [getD_set hxl, Bool.or_eq_false_iff] at hun
    have hkx : k ≠ x := by simpa using hun.2
    exact h.others k hk hun.1 (by simp [hkl, hkx]) i hi
theorem seg_any2 {Q : Exit → Act → World → Prop} {K2 : List Fact → Act → Prop} (hsel : Region.noSelect ops = true) (hK : ∀ Fs Fs' a, Fs.Perm Fs' → K Fs a → K Fs' a) (hK2 : ∀ Fs Fs' a, Fs.Perm Fs' → K2 Fs a → K2 Fs' a)
    {x : Nat} {ox : Oper} (hx : ops[x]? = some ox) (hxA : x ∈ As) (hKX : ∀ Fs a, K2 Fs a → Seg P ops W Cs As K [x] Fs a) {fuelT : Nat} {listedT listed0 : Array Bool}
    (hfin : ∀ Fs a w, K Fs a → Good W Fs w → wpAny P .any ops Q fuelT listedT a w) (hfin2 : ∀ Fs a w, K2 Fs a → Good W Fs w → wpAny P .any ops Q (1 + fuelT) listed0 a w) (hLT : listed0.setIfInBounds x true = listedT) :
    ∀ (n : Nat) (l : List Nat) (Fs : List Fact) (a : Act) (w : World) (listed : Array Bool), l.length = n → Fit2 ops Cs As x l listed → l.foldl (fun x i => x.setIfInBounds i true) listed = listed0 → Good W Fs w → Seg P ops W Cs As K2 l Fs a →
      wpAny P .any ops Q (n + (1 + fuelT)) listed a w := by
  intro n
  induction n with
  | zero =>
    intro l Fs a w listed hl _ hT hg hs
    obtain rfl := List.length_eq_zero_iff.1 hl
    cases hT
    rw [Nat.zero_add]
    exact hfin2 Fs a w hs hg
  | succ n ih =>
    intro l Fs a w listed hl hF hT hg hs
    obtain ⟨i0, l', rfl⟩ : ∃ i l', l = i :: l' := by cases l with | nil => simp at hl | cons i l' => exact ⟨i, l', rfl⟩
    have h0 := hF.un i0 (by simp)
    have hr0 : i0 ∈ Region.ready .any ops listed := by
      refine mem_ready.2 ⟨(listed_lt (by rw [hF.size]; exact h0.1)).2 (by rw [h0.2]; simp), ops[i0]'h0.1, Array.getElem?_eq_getElem h0.1, fun e he hb => ?_⟩
      rcases hF.deps i0 (by simp) _ (Array.getElem?_eq_getElem h0.1) e he hb with h1 | ⟨h1, h2⟩
      · exact h1
      · have hm : e.on ∈ l' ++ [x] := by
          rw [List.cons_append] at h1
          rcases List.mem_cons.1 h1 with h1 | h1
          · exact absurd h1 h2
          · exact h1
        have hp := (List.pairwise_cons.1 hF.pairs).1 _ hm
        have hwt := waits_true (Array.getElem?_eq_getElem h0.1) he hb rfl
        simp [before, hwt] at hp
    rw [Nat.succ_add]
    refine ⟨(fun hn => by rw [hn] at hr0; cases hr0), fun j hj => ?_⟩
    obtain ⟨hjun, oj, hoj, hall⟩ := mem_ready.1 hj
    have hjlt : j < ops.size := (Array.getElem?_eq_some_iff.1 hoj).1
    have hjf : listed.getD j false = false := by
      have := (listed_lt (listed := listed) (by rw [hF.size]; exact hjlt)).1 hjun
      simpa using this
    have hreach : ∀ i, reach ops j i = true → listed.getD i false = true := fun i hr => reach_listed hF.closed (j + 1) j oj (by omega) hoj hall hr
    have hjl : j ∈ (i0 :: l') ++ [x] := by
      by_cases hm : j ∈ (i0 :: l') ++ [x]
      · exact hm
      · have := hreach i0 (hF.others j hjlt hjf hm i0 (by simp))
        rw [h0.2] at this
        cases this
    have hwr : ∀ i, listed.getD i false = false → waits ops j i = false ∧ reach ops j i = false := by
      intro i hun
      refine ⟨?_, ?_⟩
      · cases hwt : waits ops j i with
        | false => rfl
        | true =>
          unfold waits at hwt
          rw [hoj] at hwt
          obtain ⟨e, he, hb⟩ := Array.any_eq_true'.1 hwt
          simp only [Bool.and_eq_true, beq_iff_eq] at hb
          have := hall e he hb.1
          rw [hb.2, hun] at this
          cases this
      · cases hr : reach ops j i with
        | false => rfl
        | true =>
          have := hreach i hr
          rw [hun] at this
          cases this
    have hdf : DF ops j Fs w := DF_iff.2 fun f hf _ => AllHold_iff.1 hg.hold f hf
    rcases List.mem_append.1 hjl with hjl | hjx
    · obtain ⟨l1, l2, hsplit⟩ := List.append_of_mem hjl
      rw [hsplit] at hF hT hs hl
      have hne := hF.ne
      have hcond : ∀ i ∈ l1, before ops Cs As i j = true ∧ waits ops j i = false ∧ reach ops j i = false := by
        intro i hi
        have hun := (hF.un i (by simp [hi])).2
        have hp := hF.pairs
        rw [List.append_assoc, List.cons_append] at hp
        exact ⟨(List.pairwise_append.1 hp).2.2 i hi j (by simp), hwr i hun⟩
      have hne1 : ∀ i ∈ l1, i ≠ j := fun i hi => hne i (by simp [hi])
      have hF' := hF.step hoj hall
      have hT' : (l1 ++ l2).foldl (fun x i => x.setIfInBounds i true) (listed.setIfInBounds j true) = listed0 := by rw [foldl_move l2 j l1 listed hne1]; exact hT
      have hl' : (l1 ++ l2).length = n := by
        simp at hl ⊢
        omega
      by_cases hjc : j ∈ Cs ∧ j ∉ As
      · refine wpOp_of_out hoj ((moveC hsel hoj hjc.1 hjc.2 hg.up l1 Fs a hcond hdf hs).mono ?_)
        rintro u w' ⟨nf, h1, h2⟩
        exact ih _ _ _ _ _ hl' hF' hT' (hg.step h1) h2
      · obtain ⟨u, w', nf, h1, h2, h3⟩ := moveN hsel hK2 hoj (fun hc => by
          refine Classical.byContradiction fun hn => hjc ⟨hc, hn⟩) hg.up l1 Fs a hcond hdf hs
        exact wpOp_of_res hoj h1 (ih _ _ _ _ _ hl' hF' hT' (hg.step h2.sc) h3)
    · obtain rfl : j = x := by simpa using hjx
      have hcond : ∀ i ∈ i0 :: l', before ops Cs As i j = true ∧ waits ops j i = false ∧ reach ops j i = false := by
        intro i hi
        have hun := (hF.un i (List.mem_append_left _ hi)).2
        exact ⟨(List.pairwise_append.1 hF.pairs).2.2 i hi j (by simp), hwr i hun⟩
      have hne1 : ∀ i ∈ i0 :: l', i ≠ j := by
        intro i hi he
        have := (hcond i hi).1
        simp [before, he] at this
      obtain ⟨u, w', nf, h1, h2, h3⟩ := moveN (l2 := []) hsel hK hoj (fun _ => hxA) hg.up (i0 :: l') Fs a hcond hdf (Seg_then hKX _ _ _ hs)
      rw [List.append_nil] at h3
      have hT' : (i0 :: l').foldl (fun x i => x.setIfInBounds i true) (listed.setIfInBounds j true) = listedT := by
        have := foldl_move [] j (i0 :: l') listed hne1
        rw [List.append_nil] at this
        rw [this, List.foldl_append, hT]
        exact hLT
      have hfu : n + (1 + fuelT) = (n + 1) + fuelT := by omega
      rw [hfu]
      exact wpOp_of_res hoj h1 (seg_any hsel hK hfin (n + 1) _ _ _ _ _ hl (hF.fit hoj hall) hT' (hg.step h2.sc) h3)
def seg2B (ops : Array Oper) (Cs As pre ord : List Nat) (x kk : Nat) (tail : List Nat) : Bool :=
  Region.noSelect ops && pairsB ops Cs As (ord ++ [x]) && (pre.length + (ord.length + (1 + (kk :: tail).length)) == ops.size) && As.contains x &&
  preB ops pre (Array.replicate ops.size false) && closedB ops pre && pre.all (fun i => decide (i < ops.size)) &&
  (ord ++ [x]).all (fun i => !(pre.contains i) && match ops[i]? with | some o => o.after.all fun e => !(Region.binds .any e) || pre.contains e.on || ((ord ++ [x]).contains e.on && e.on != i) | none => false) &&
  (List.range ops.size).all (fun k => pre.contains k || (ord ++ [x]).contains k || ord.all fun i => reach ops k i) &&
  (Region.ready .any ops (ord.foldl (fun x i => x.setIfInBounds i true) (pre.foldl (fun x i => x.setIfInBounds i true) (Array.replicate ops.size false))) == [kk, x]) &&
  tailB ops ((ord.foldl (fun x i => x.setIfInBounds i true) (pre.foldl (fun x i => x.setIfInBounds i true) (Array.replicate ops.size false))).setIfInBounds x true) (kk :: tail) &&
  tailB ops ((ord.foldl (fun x i => x.setIfInBounds i true) (pre.foldl (fun x i => x.setIfInBounds i true) (Array.replicate ops.size false))).setIfInBounds kk true) (x :: tail)
theorem seg2_last {Q : Exit → Act → World → Prop} {x kk : Nat} {tail : List Nat} {ox ok : Oper} {tl : List Oper} {L0 : Array Bool} {K : List Fact → Act → Prop} (h1 : Region.noSelect ops = true) (hmx : ops[x]? = some ox) (hxA : x ∈ As)
    (hK : ∀ Fs Fs' a, Fs.Perm Fs' → K Fs a → K Fs' a) (hKl : ∀ Fs a, K Fs a → ∀ w', Good W Fs w' → wpList P ops Q (ok :: tl) a w')
    (hops1 : wpOps P ops Q (kk :: tail) = wpList P ops Q (ok :: tl)) (hops2 : wpOps P ops Q (kk :: x :: tail) = wpList P ops Q (ok :: ox :: tl))
    (h6 : Region.ready .any ops L0 = [kk, x]) (h7 : tailB ops (L0.setIfInBounds x true) (kk :: tail) = true) (h8 : tailB ops (L0.setIfInBounds kk true) (x :: tail) = true)
    {Fs : List Fact} {a : Act} {w' : World} (hk1 : ∀ w', Good W Fs w' → wpList P ops Q (ok :: ox :: tl) a w') (hk2 : Seg P ops W Cs As K [x] Fs a) (hg : Good W Fs w') : wpAny P .any ops Q (1 + (kk :: tail).length) L0 a w' := by
  rw [Nat.add_comm 1]
  refine ⟨(fun hn => by rw [h6] at hn; cases hn), fun j hj => ?_⟩
  rw [h6] at hj
  rcases List.mem_cons.1 hj with rfl | hj
  · have h9 := hk1 w' hg
    rw [← hops2, wpOps_cons] at h9
    exact wpOp_mono (fun a' w' h' => wpAny_tail (x :: tail) _ a' w' h8 h') h9
  · obtain rfl : j = x := by simpa using hj
    obtain ⟨u, w2, nf, g1, g2, g3⟩ := moveN (l2 := []) h1 hK hmx (fun _ => hxA) hg.up [] Fs a (by simp) (DF_iff.2 fun f hf _ => AllHold_iff.1 hg.hold f hf) hk2
    exact wpOp_of_res hmx g1 (wpAny_tail (kk :: tail) _ _ _ h7 (by rw [hops1]; exact hKl _ _ g3 _ (hg.step g2.sc)))
theorem wp_region_seg2 {id : Nat} {Q : Exit → Act → World → Prop} {a : Act} {w : World} {l : List Oper} (Cs As pre ord : List Nat) (x kk : Nat) (tail : List Nat) (ox ok : Oper) (tl : List Oper) (hQ : ∀ c a d v w, Q (.panic c) (Act.put a d v) w → Q (.panic c) a w) (hm : P.follows .mixedOrders = true)
    (hB : seg2B l.toArray Cs As pre ord x kk tail = true) (hmx : l.toArray[x]? = some ox) (hmk : l.toArray[kk]? = some ok) (hmt : tail.map (fun i => l.toArray[i]?) = tl.map some)
    (K K2 : List Fact → Act → Prop) (hKe : K = fun Fs a' => ∀ w', Good w Fs w' → wpList P l.toArray Q (ok :: tl) a' w') (hK2e : K2 = fun Fs a' => (∀ w', Good w Fs w' → wpList P l.toArray Q (ok :: ox :: tl) a' w') ∧ Seg P l.toArray w Cs As K [x] Fs a')
    (h : wpPre P l.toArray (Seg P l.toArray w Cs As K2 ord []) pre a) : (Code.region id l.toArray true).wp P Q a w := by
  simp only [seg2B, Bool.and_eq_true, List.all_eq_true, beq_iff_eq] at hB
  obtain ⟨⟨⟨⟨⟨⟨⟨⟨⟨⟨⟨h1, h2⟩, h3⟩, hA⟩, hp1⟩, hp2⟩, hp3⟩, h4⟩, h5⟩, h6⟩, h7⟩, h8⟩ := hB
  have hxA : x ∈ As := by simpa using hA
  refine wp_region_any hm ?_
  have hrep : ∀ k, (Array.replicate l.toArray.size false).getD k false = false := by
    intro k
    simp [Array.getD]
  have hin : ∀ i ∈ pre, i < (Array.replicate l.toArray.size false).size := fun i hi => by
    have := hp3 i hi
    simpa using this
  have hl0 : ∀ k, (pre.foldl (fun x i => x.setIfInBounds i true) (Array.replicate l.toArray.size false)).getD k false = pre.contains k := fun k => by
    rw [foldl_getD _ _ _ hin, hrep, Bool.false_or]
  have hops1 : wpOps P l.toArray Q (kk :: tail) = wpList P l.toArray Q (ok :: tl) := wpOps_list _ _ (by simp only [List.map_cons, hmk, hmt])
  have hops2 : wpOps P l.toArray Q (kk :: x :: tail) = wpList P l.toArray Q (ok :: ox :: tl) := wpOps_list _ _ (by simp only [List.map_cons, hmk, hmx, hmt])
  have hKl : ∀ Fs a, K Fs a → ∀ w', Good w Fs w' → wpList P l.toArray Q (ok :: tl) a w' := fun Fs a hk => by rw [hKe] at hk; exact hk
  have hpK : ∀ (Fs Fs' : List Fact) (a' : Act), Fs.Perm Fs' → K Fs a' → K Fs' a' := fun Fs Fs' a' hp hk => by
    rw [hKe] at hk ⊢
    exact fun w' hg => hk w' (hg.perm hp)
  have hK2s : ∀ Fs a, K2 Fs a → (∀ w', Good w Fs w' → wpList P l.toArray Q (ok :: ox :: tl) a w') ∧ Seg P l.toArray w Cs As K [x] Fs a := fun Fs a hk => by rw [hK2e] at hk; exact hk
  have hpK2 : ∀ (Fs Fs' : List Fact) (a' : Act), Fs.Perm Fs' → K2 Fs a' → K2 Fs' a' := fun Fs Fs' a' hp hk => by
    have := hK2s _ _ hk
    rw [hK2e]
    exact ⟨fun w' hg => this.1 w' (hg.perm hp), Seg_perm hpK _ _ _ _ hp this.2⟩
  clear hKe hK2e
  have main := pre_any (P := P) (ops := l.toArray) (Q := Q) hQ h1 (w := { w with drawn := w.drawn + 1 }) (fuel := ord.length + (1 + (kk :: tail).length)) (listedT := pre.foldl (fun x i => x.setIfInBounds i true) (Array.replicate l.toArray.size false))
    (K := Seg P l.toArray w Cs As K2 ord []) (fun a hs => ?_) pre _ a hp1 rfl h
  · rw [h3] at main
    exact main
  clear h
  generalize hL : ord.foldl (fun x i => x.setIfInBounds i true) (pre.foldl (fun x i => x.setIfInBounds i true) (Array.replicate l.toArray.size false)) = L0 at h6 h7 h8
  refine seg_any2 (W := w) (Cs := Cs) (As := As) (K := K) (K2 := K2) h1 hpK hpK2 hmx hxA (fun Fs a hk => (hK2s _ _ hk).2) (fuelT := (kk :: tail).length)
    (listed0 := L0) (listedT := L0.setIfInBounds x true)
    (fun Fs a w' hk hg => wpAny_tail (kk :: tail) _ a w' h7 (by rw [hops1]; exact hKl _ _ hk w' hg))
    (fun Fs a w' hk hg => seg2_last h1 hmx hxA hpK hKl hops1 hops2 h6 h7 h8 (hK2s _ _ hk).1 (hK2s _ _ hk).2 hg) rfl ord.length ord [] a _ _ rfl ?_ hL ⟨(Upto.refl [] w).drew, trivial, (by simp), (by simp), (by simp [ownAll])⟩ hs
  refine ⟨by rw [foldl_size]; simp, ?_, ?_, ?_, ?_, pairsB_spec _ h2⟩
  · intro i o ho hl e he hb
    rw [hl0] at hl ⊢
    have := List.all_eq_true.1 hp2 i (List.mem_range.2 (Array.getElem?_eq_some_iff.1 ho).1)
    rw [hl, ho, Bool.not_true, Bool.false_or] at this
    have := Array.all_eq_true_iff_forall_mem.1 this e he
    rw [hb] at this
    simpa using this
  · intro i hi
    have := h4 i hi
    refine ⟨?_, by rw [hl0]; simpa using this.1⟩
    have := this.2
    split at this
    · rename_i o ho
      exact (Array.getElem?_eq_some_iff.1 ho).1
    · cases this
  · intro i hi o ho e he hb
    have := (h4 i hi).2
    rw [ho] at this
    have := Array.all_eq_true_iff_forall_mem.1 this e he
    rw [hb] at this
    simp only [Bool.not_true, Bool.false_or, Bool.or_eq_true, Bool.and_eq_true, bne_iff_ne, ne_eq] at this
    rw [hl0]
    exact this.imp (fun h => h) (fun h => ⟨List.contains_iff_mem.1 h.1, h.2⟩)
  · intro k hk hu hn i hi
    rw [hl0] at hu
    have := h5 k (List.mem_range.2 hk)
    rw [hu, Bool.false_or, Bool.or_eq_true] at this
    rcases this with h9 | h9
    · exact absurd (List.contains_iff_mem.1 h9) hn
    · exact List.all_eq_true.1 h9 i hi
end
end Go.PL
namespace Go.PL
open Go.RowKit
theorem wp_region_seg2_at {P : Program} {id : Nat} {Q : Exit → Act → World → Prop} {a : Act} {w : World} {l : List Oper} (Cs As pre ord : List Nat) (x kk : Nat) (tail : List Nat) (n : Nat) (ox ok : Oper) (hQ : ∀ c a d v w, Q (.panic c) (Act.put a d v) w → Q (.panic c) a w) (hm : P.follows .mixedOrders = true)
    (hB : seg2B l.toArray Cs As pre ord x kk tail = true) (hn : (tail == (List.range l.length).drop n) = true) (hox : opAt l x = some ox) (hok : opAt l kk = some ok)
    (h : wpPre P l.toArray (Seg P l.toArray w Cs As (fun Fs a' => (∀ w', Good w Fs w' → wpList P l.toArray Q (ok :: ox :: l.drop n) a' w') ∧ Seg P l.toArray w Cs As (fun Fs a' => ∀ w', Good w Fs w' → wpList P l.toArray Q (ok :: l.drop n) a' w') [x] Fs a') ord []) pre a) : (Code.region id l.toArray true).wp P Q a w :=
  wp_region_seg2 Cs As pre ord x kk tail ox ok (l.drop n) hQ hm hB ((opAt_eq l x).symm.trans hox) ((opAt_eq l kk).symm.trans hok) (by
    rw [beq_iff_eq] at hn
    subst hn
    apply List.ext_getElem?
    intro i
    rw [List.getElem?_map, List.getElem?_map]
    by_cases hi : n + i < l.length
    · simp [List.getElem?_drop, hi]
    · simp [List.getElem?_drop, hi]) _ _ rfl rfl h
theorem shareQ {P : Program} {k : Code} {a : Act} {w : World} {Q : Exit → Act → World → Prop} {F : World → Prop} {mk : Value → Value → Value → Value → Value → Act} (use : ∀ Q' : Exit → Act → World → Prop, (∀ a b c d e u, F u → Q' .normal (mk a b c d e) u) → k.wp P Q' a w) (tail : ∀ a b c d e u, F u → Q .normal (mk a b c d e) u) : k.wp P Q a w := use Q tail
end Go.PL
