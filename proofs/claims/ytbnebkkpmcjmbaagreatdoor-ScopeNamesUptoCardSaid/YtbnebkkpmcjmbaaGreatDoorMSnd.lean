/- Texts merged, in build order: Gk, FmP6, Ck, Zo, Ke, Kh, Ki, Kj, Kk, Z6, Fm31, Zs, Fm30. -/
import Derived.Test.YtbnebkkpmcjmbaaGreatDoorMSnc
import Derived.Test.YtbnebkkpmcjmbaaGreatDoorRows
import Derived.WalkKit
import Derived.WalkSpells
import Derived.WalkLawsBesides
import Derived.Maps.OwnSet
import Derived.Lib.Hide
import Derived.Laws.BytesArg
import Derived.Deep.QuietTactic
import Derived.BigQuiet
import Derived.Test.YtbnebkkpmcjmbaaGreatDoorProg
import Derived.Shelf.Small.Strs
import Derived.Shelf.LaysM
import Derived.Shelf.Strings.SplitShaped
import Derived.Deep.DeepCutAuto
import Derived.Deep.CutBlock
import Derived.Lib.Strings
import Derived.Lib.Walk
import Derived.Lib.ConvBytes
import Derived.Lib.ParseIntBMem
import Derived.Lib.AtoiErrMem
import Derived.Lib.BufferWrite
import Derived.Lib.UnsafeStr
import Derived.Lib.IfaceEq
import Derived.Laws.MakeOwn
import Derived.Laws.Strings3
import Derived.Laws.Closers25
import Derived.Laws.Closers25b
import Derived.RegionTactic
import Derived.Deep.RegionWith
import Derived.BigCall
import Derived.BigGuard
import Derived.Lib.AppendIntMem
import Derived.Carry
import Derived.OrdersHeld
import Derived.Deep.RegionHeld3
import Derived.Shelf.Strconv.Itoa3
import Derived.Shelf.Slices.Turned
import Derived.Shelf.Slices.Clone
import Derived.Deep.RegionLaw
import Derived.RangeFuncNested
import Derived.RangeFuncBound
import Derived.RangeFuncCalls
import Derived.RangeFuncLeaves
import Derived.RangeFuncBox
import Derived.Shelf.Abstract
import Derived.OwnWalkIn
import Derived.TacticsInMore
import Derived.LoopNIn
import Derived.LoopIn
import Derived.Laws.EntriesVeiled
import Derived.Laws.AppendOwn
import Derived.Shelf.SlMaps.Clone
namespace Go.Proofs.YtbnebkkpmcjmbaaGreatDoor
open Go.RowKit Go.PL Go.Maps
set_option maxRecDepth 100000 in
set_option maxHeartbeats 6400000 in
/-- walk, with a function value f (captures ps) that takes a state on: J says what the state is in memory; outside of S nothing changes, and what is new -/
theorem walkC_calls {α : Type} (p p2 : Value) (G : Nd → Prop) (hG : ∀ op nms so nn mm l, G (.mk op nms so nn mm l) → ∀ x ∈ l, G x) (f : α → Nd → α) (w0 : World) (S : List Nat) (P : Nat → Prop) (J : α → Nat → List Nat → World → Prop)
    (hPS : ∀ b, P b → b < w0.heap.size ∧ b ∉ S) (hS : ∀ g ∈ S, g < w0.heap.size)
    (hJ1 : ∀ s r O u, J s r O u → w0.heap.size ≤ u.heap.size ∧ ∀ g ∈ O, g < u.heap.size ∧ w0.heap.size ≤ g) (hJe : ∀ s r O u u', J s r O u → Upto [] u u' → J s r O u')
    (hf : ∀ s r O u x v, J s (r + sizeF x) O u → G x → NdV u P x v → Calls Tryz.prog 84 #[v, p, p2] u fun e w' => e = .returned (.tuple #[]) ∧ ∃ O', Upto (S ++ O) u w' ∧ (∀ g ∈ O', g ∈ O ∨ u.heap.size ≤ g) ∧ ∀ r', r' + 1 ≤ r + sizeF x → J (f s x) r' O' w') :
    ∀ (k : Nat) (nd : Nd), sizeF nd ≤ k → k ≤ 100000 → G nd → ∀ (v : Value) (s : α) (r : Nat) (O : List Nat) (w : World), J s (r + sizeF nd) O w → NdV w P nd v → Calls Tryz.prog 55 #[v, .func (.func 84) #[] #[p, p2]] w fun e w' => e = .returned (.tuple #[]) ∧ ∃ O', J (walkF f nd s) r O' w' ∧ Upto (S ++ O) w w' ∧ ∀ g ∈ O', g ∈ O ∨ w.heap.size ≤ g
  | 0, nd, hk, _, _, _, _, _, _, _, _, _ => by have := sizeF_pos nd; omega
  | k + 1, .mk op nms so nn mm l, hk, hk7, hgd, v, s, r, O, w, hJ, h => by
    obtain ⟨a1, c1, a2, c2, rfl, hs, hg⟩ := h.open
    have HGD0 := Lib.hid hgd
    have HGD := Lib.hid (hG _ _ _ _ _ _ hgd)
    have hsz : sizesF l ≤ k := by simp only [sizeF] at hk; omega
    have HSZ := Lib.hid hsz
    have HSE : Hid (sizeF (.mk op nms so nn mm l) = 1 + sizesF l) := Lib.hid (by simp only [sizeF])
    have HE : Hid (walkF f (.mk op nms so nn mm l) s = walksF f l (f s (.mk op nms so nn mm l))) := Lib.hid (by simp only [walkF])
    have HLEN : Hid (l.length ≤ 100000) := Lib.hid (by have := sizes_len l; omega)
    have hlen := HLEN.out
    have HIH := Lib.hid (fun (x : Nd) (hx : x ∈ l) (hs : sizeF x ≤ k) => walkC_calls p p2 G hG f w0 S P J hPS hS hJ1 hJe hf k x hs (by omega) (HGD.out x hx))
    have HO1 := Lib.hid (hJ1 _ _ _ _ hJ)
    have HPN : Hid (∀ u, Upto (S ++ O) w u → LsAt u P a2 l) := Lib.hid (fun u hu => ls_later h hu (fun b hb _ hm => by
      rcases List.mem_append.1 hm with h1 | h1
      · exact (hPS b hb).2 h1
      · have := (HO1.out.2 b h1).2; have := (hPS b hb).1; omega))
    obtain ⟨W, hW⟩ : ∃ W, W = w.alloc (.cells #[.int .i64 op, .slice a1 nms.length c1, .int .i64 so, .int .i64 nn, .int .i64 mm, .slice a2 l.length c2] 30) := ⟨_, rfl⟩
    have HU1 : Hid (Upto [] w W) := Lib.hid (by rw [hW]; exact (Upto.refl [] w).alloc _)
    have HB1 : Hid (W.heap[w.heap.size]? = some (.cells #[.int .i64 op, .slice a1 nms.length c1, .int .i64 so, .int .i64 nn, .int .i64 mm, .slice a2 l.length c2] 30 (0, 0))) := Lib.hid (by rw [hW]; exact new_at w _)
    have HNS : Hid (w.heap.size ∉ S ++ O) := Lib.hid (fun hm => by
      rcases List.mem_append.1 hm with h1 | h1
      · have h3 := hS _ h1; have h2 := HO1.out.1; omega
      · have := (HO1.out.2 _ h1).1; omega)
    have HF := Lib.hid (hf s r O W _ _ (hJe _ _ _ _ _ hJ HU1.out) HGD0.out (h.ext HU1.out))
    have HJE := Lib.hid hJe
    generalize hs1 : f s (.mk op nms so nn mm l) = s1 at *
    obtain ⟨x0, x1, x2, x3, x4, x5⟩ := cells6 HB1.out
    generalize hll : l.length = ll at *
    have HLL := Lib.hid hll
    have hL0 : (0 : Int) ≤ ll := by omega
    have hL1 : (ll : Int) ≤ 100000 := by omega
    clear h hg hs hsz hll hlen hk hgd hJ hs1 hJe hJ1 hf hPS hS
    go_enter Tryz.func55, Tryz.ntmps55
    go_wp2_with fail
    simp only [← hW]
    clear hW
    go_wp2_with fail
    refine HF.out.mono ?_
    rintro e w2 ⟨rfl, O2, hu2, ho2, hj2⟩
    have HU2 := Lib.hid ((HU1.out.mono (by simp)).trans_same hu2)
    have HO2 : Hid (∀ g ∈ O2, g ∈ O ∨ w.heap.size ≤ g) := Lib.hid (fun g hg => (ho2 g hg).imp id (fun h => Nat.le_trans HU1.out.size h))
    have HJ2 := Lib.hid hj2
    have HB2 := Lib.hid (hu2.at HB1.out HNS.out)
    clear hu2 hj2 ho2 x0 x1 x2 x3 x4 x5
    have x5 := cell_of HB2.out 5
    simp only [List.getElem?_toArray, List.getElem?_cons_zero, List.getElem?_cons_succ] at x5
    go_wp2_with fail
    clear x5
    go_loopw [12] (fun i wr => ∃ (q : Nat) (Oq : List Nat), q ≤ ll ∧ i = .int .i64 q ∧ Hid (J (walksF f (l.take q) s1) (r + sizesF (l.drop q)) Oq wr ∧ Upto (S ++ O) w wr ∧ ∀ g ∈ Oq, g ∈ O ∨ w.heap.size ≤ g)) (fun i _ => ll - (intOf i).toNat)
    case atStart => exact ⟨0, O2, by omega, rfl, Lib.hid ⟨by simpa [walksF] using HJ2.out _ (by rw [HSE.out]; omega), HU2.out, HO2.out⟩⟩
    case round =>
      obtain ⟨q, Oq, hq, rfl, HR⟩ := hrel
      have hq0 : (0 : Int) ≤ q := by omega
      rcases Nat.lt_or_ge q ll with hlt | hge
      · obtain ⟨x, hx⟩ : ∃ x, l[q]? = some x := ⟨_, List.getElem?_eq_getElem (by have := HLL.out; omega)⟩
        obtain ⟨g, o, xo, xn1, xn2, xn3, xs, xm, xq, xl1, xl2, xl3, rfl, d0, d1, d2, d3, d4, d5, hnx⟩ := HPN.out wr HR.out.2.1 q x hx
        have hua : Upto [] wr (wr.alloc (.cells #[.int .i64 xo, .slice xn1 xn2 xn3, .int .i64 xs, .int .i64 xm, .int .i64 xq, .slice xl1 xl2 xl3] 30)) := (Upto.refl [] wr).alloc _
        have HSX := Lib.hid (sizesF_take l q x hx)
        have HDX : Hid (sizesF (l.drop q) = sizeF x + sizesF (l.drop (q + 1))) := Lib.hid (by
          obtain ⟨hi, rfl⟩ := List.getElem?_eq_some_iff.1 hx
          rw [List.drop_eq_getElem_cons hi]
          simp only [sizesF])
        have HC := Lib.hid (HIH.out x (List.mem_of_getElem? hx) (by have := HSZ.out; have := HSX.out; omega) _ (walksF f (l.take q) s1) (r + sizesF (l.drop (q + 1))) Oq _ (by have h1 := HJE.out _ _ _ _ _ HR.out.1 hua; rw [HDX.out] at h1; rw [show r + sizesF (l.drop (q + 1)) + sizeF x = r + (sizeF x + sizesF (l.drop (q + 1))) by omega]; exact h1) (hnx.ext hua))
        have hltI : (q : Int) < ll := by omega
        have HNX : Hid (walksF f (l.take (q + 1)) s1 = walkF f x (walksF f (l.take q) s1)) := Lib.hid (by rw [take_app1 l q x hx]; exact walksF_app f x _ _)
        have HUA := Lib.hid hua
        clear hua hnx hx
        go_wp2_with fail
        refine HC.out.mono ?_
        rintro e w7 ⟨rfl, O7, hj7, hu7, ho7⟩
        have HJ7 := Lib.hid hj7
        have HU7 := Lib.hid ((HR.out.2.1.trans_ext HUA.out).trans hu7 (fun k hk => by
          rcases List.mem_append.1 hk with h1 | h1
          · exact Or.inl (List.mem_append_left _ h1)
          · exact (HR.out.2.2 k h1).imp (fun h2 => List.mem_append_right _ h2) id))
        have HO7 : Hid (∀ g ∈ O7, g ∈ O ∨ w.heap.size ≤ g) := Lib.hid (fun g hg => by
          rcases ho7 g hg with h1 | h1
          · exact HR.out.2.2 g h1
          · exact Or.inr (Nat.le_trans (HR.out.2.1.trans_ext HUA.out).size h1))
        clear hj7 hu7 ho7
        go_wp2_with fail
        go_roundw
        case rel => exact ⟨q + 1, O7, by omega, by go_num, Lib.hid ⟨by rw [HNX.out]; exact HJ7.out, HU7.out, HO7.out⟩⟩
        case measure => simp [intOf]; omega
      · obtain rfl : q = ll := by omega
        have hgeI : ¬ (q : Int) < q := by omega
        have HTT : Hid (l.take q = l) := Lib.hid (by rw [← HLL.out, List.take_length])
        have HDD : Hid (l.drop q = []) := Lib.hid (by rw [← HLL.out, List.drop_length])
        rw [HTT.out, HDD.out] at HR
        go_wp2_with fail
        exact bodyPost_end (v := .tuple #[]) (by simp [results, Tryz.results55, go_sem]) rfl ⟨rfl, Oq, by rw [HE.out]; simpa [sizesF] using HR.out.1, HR.out.2.1, HR.out.2.2⟩
mutual
/-- a quantifier has a name and one of the four sorts -/
def sortN : Nd → Prop
  | .mk op _ so _ _ l => (op = 16 ∨ op = 17 → 0 ≤ so ∧ so ≤ 3) ∧ sortsN l
def sortsN : List Nd → Prop
  | [] => True
  | x :: xs => sortN x ∧ sortsN xs
end
theorem sortsN_mem : ∀ {l : List Nd}, sortsN l → ∀ x ∈ l, sortN x
  | [], _, x, hx => by cases hx
  | y :: ys, h, x, hx => by
    unfold sortsN at h
    rcases List.mem_cons.1 hx with rfl | hx
    · exact h.1
    · exact sortsN_mem h.2 x hx
theorem sortN_kids : ∀ op nms so nn mm l, sortN (.mk op nms so nn mm l) → ∀ x ∈ l, sortN x := fun op nms so nn mm l h => by
  unfold sortN at h
  exact sortsN_mem h.2
def cStep (sets : Bool) (s : Nat) : Nd → Nat
  | .mk op nms so _ _ _ => s + if cntB sets op nms.length so = true then 1 else 0
mutual
theorem cnt_walk (sets : Bool) : ∀ (n : Nd) (s : Nat), walkF (cStep sets) n s = s + cntF sets n
  | .mk op nms so nn mm l, s => by
    unfold walkF cntF
    rw [cnts_walk sets l]
    simp only [cStep]
    omega
theorem cnts_walk (sets : Bool) : ∀ (l : List Nd) (s : Nat), walksF (cStep sets) l s = s + cntsF sets l
  | [], s => by simp [walksF, cntsF]
  | x :: xs, s => by
    unfold walksF cntsF
    rw [cnt_walk sets x, cnts_walk sets xs]
    omega
end
set_option maxRecDepth 100000 in
set_option maxHeartbeats 3200000 in
theorem setq_calls (op : Int) (a1 : Option Addr) (n1 c1 : Nat) (so nn mm : Int) (a2 : Option Addr) (n2 c2 : Nat) (w : World) (hso : op = 16 ∨ op = 17 → 0 ≤ so ∧ so ≤ 3) : Calls Tryz.prog 61 #[.agg #[.int .i64 op, .slice a1 n1 c1, .int .i64 so, .int .i64 nn, .int .i64 mm, .slice a2 n2 c2]] w fun e w' => e = .returned (.bool (cntB true op n1 so)) ∧ Upto [] w w' := by
  obtain ⟨W, hW⟩ : ∃ W, W = w.alloc (.cells #[.int .i64 op, .slice a1 n1 c1, .int .i64 so, .int .i64 nn, .int .i64 mm, .slice a2 n2 c2] 30) := ⟨_, rfl⟩
  have HU1 : Hid (Upto [] w W) := Lib.hid (by rw [hW]; exact (Upto.refl [] w).alloc _)
  have HB1 : Hid (W.heap[w.heap.size]? = some (.cells #[.int .i64 op, .slice a1 n1 c1, .int .i64 so, .int .i64 nn, .int .i64 mm, .slice a2 n2 c2] 30 (0, 0))) := Lib.hid (by rw [hW]; exact new_at w _)
  have HBI := Lib.hid (fun u => binds_calls op a1 n1 c1 so nn mm a2 n2 c2 u)
  have HR : Hid (cntB true op n1 so = (bindsF op n1 && decide (2 ≤ so))) := Lib.hid (by simp [cntB])
  have HSO : Hid (bindsF op n1 = true → 0 ≤ so ∧ so ≤ 3) := Lib.hid (fun hb => hso (by unfold bindsF at hb; simp at hb; exact hb.1))
  generalize cntB true op n1 so = R at *
  generalize hbb : bindsF op n1 = bb at *
  obtain ⟨x0, x1, x2, x3, x4, x5⟩ := cells6 HB1.out
  clear hbb hso
  go_enter Tryz.func61, Tryz.ntmps61
  go_wp2_with fail
  simp only [← hW]
  clear hW
  try go_wp2_with fail
  refine (HBI.out _).mono ?_
  rintro e w2 ⟨rfl, hu2⟩
  have HU2 := Lib.hid (HU1.out.trans_ext hu2)
  have HB2 := Lib.hid (hu2.at HB1.out (by simp))
  clear hu2 x0 x1 x2 x3 x4 x5
  have x2 := cell_of HB2.out 2
  simp only [List.getElem?_toArray, List.getElem?_cons_zero, List.getElem?_cons_succ] at x2
  cases bb with
  | false =>
    go_wp2_with fail
    go_ret
    exact ⟨by rw [HR.out]; rfl, HU2.out⟩
  | true =>
    by_cases h2 : so = 2
    · subst h2
      go_wp2_with fail
      go_ret
      exact ⟨by rw [HR.out]; rfl, HU2.out⟩
    · by_cases h3 : so = 3
      · subst h3
        go_wp2_with fail
        go_ret
        exact ⟨by rw [HR.out]; rfl, HU2.out⟩
      · have hs2 : (so == 2) = false := by simpa using h2
        have hs3 : (so == 3) = false := by simpa using h3
        have HD : Hid (decide (2 ≤ so) = false) := Lib.hid (by have := HSO.out rfl; simp; omega)
        go_wp2_with fail
        go_ret
        exact ⟨by rw [HR.out, HD.out]; rfl, HU2.out⟩
/-- the number that count raises, in the cell of block B; the test, in block B2 -/
def CoJ (w0 : World) (B B2 F : Nat) (c : Nat) (r : Nat) (O : List Nat) (u : World) : Prop := u.heap[B]? = some (.cells #[.int .i64 (c : Int)] 3 (0, 0)) ∧ u.heap[B2]? = some (.cells #[.func (.func F) #[] #[]] 79 (0, 0)) ∧ O = [] ∧ w0.heap.size ≤ u.heap.size ∧ c + r ≤ 200000
theorem CoJ.ext {w0 : World} {B B2 F c r : Nat} {O : List Nat} {u u' : World} (h : CoJ w0 B B2 F c r O u) (hu : Upto [] u u') : CoJ w0 B B2 F c r O u' := ⟨hu.at h.1 (by simp), hu.at h.2.1 (by simp), h.2.2.1, Nat.le_trans h.2.2.2.1 hu.size, h.2.2.2.2⟩
def CoPost (w0 : World) (B B2 F : Nat) (O : List Nat) (s' : Nat) (r : Nat) (u : World) (e : Ending) (w' : World) : Prop := e = .returned (.tuple #[]) ∧ ∃ O', Upto ([B] ++ O) u w' ∧ (∀ g ∈ O', g ∈ O ∨ u.heap.size ≤ g) ∧ ∀ r', r' + 1 ≤ r → CoJ w0 B B2 F s' r' O' w'
set_option maxRecDepth 100000 in
set_option maxHeartbeats 3200000 in
theorem cclosS_calls (w0 : World) (B B2 : Nat) (hB : B < w0.heap.size) (hne : B2 ≠ B) (s : Nat) (r : Nat) (O : List Nat) (w : World) (P : Nat → Prop) (nd : Nd) (v : Value) (hr : 1 ≤ r) (hso : sortN nd) (hJ : CoJ w0 B B2 61 s r O w) (h : NdV w P nd v) : Calls Tryz.prog 84 #[v, .pointer (some ⟨B2, 0, none⟩), .pointer (some ⟨B, 0, none⟩)] w (CoPost w0 B B2 61 O (cStep true s nd) r w) := by
  obtain ⟨op, nms, so, nn, mm, l⟩ := nd
  obtain ⟨a1, c1, a2, c2, rfl, -, -⟩ := h.open
  unfold sortN at hso
  obtain ⟨W, hW⟩ : ∃ W, W = w.alloc (.cells #[.int .i64 op, .slice a1 nms.length c1, .int .i64 so, .int .i64 nn, .int .i64 mm, .slice a2 l.length c2] 30) := ⟨_, rfl⟩
  have HU1 : Hid (Upto [] w W) := Lib.hid (by rw [hW]; exact (Upto.refl [] w).alloc _)
  have HB1 : Hid (W.heap[w.heap.size]? = some (.cells #[.int .i64 op, .slice a1 nms.length c1, .int .i64 so, .int .i64 nn, .int .i64 mm, .slice a2 l.length c2] 30 (0, 0))) := Lib.hid (by rw [hW]; exact new_at w _)
  have HCL := Lib.hid (fun u => setq_calls op a1 nms.length c1 so nn mm a2 l.length c2 u hso.1)
  have HE : Hid (cStep true s (.mk op nms so nn mm l) = s + if cntB true op nms.length so = true then 1 else 0) := Lib.hid rfl
  generalize cStep true s (.mk op nms so nn mm l) = s' at *
  have HJ := Lib.hid hJ
  have HJ1 := Lib.hid (hJ.ext HU1.out)
  have hs1 : (s : Int) ≤ 200000 := by have := hJ.2.2.2.2; omega
  have hs0 : (0 : Int) ≤ s := by omega
  have z0 := cell_of HJ1.out.2.1 0
  generalize cntB true op nms.length so = bb at *
  generalize hll : l.length = ll at *
  generalize hnl : nms.length = nl at *
  obtain ⟨x0, x1, x2, x3, x4, x5⟩ := cells6 HB1.out
  simp only [List.getElem?_toArray, List.getElem?_cons_zero, List.getElem?_cons_succ] at z0
  rw [hW] at z0
  clear h hll hnl hJ hso
  go_enter Tryz.func84, Tryz.ntmps84
  go_wp2_with fail
  simp only [← hW] at z0 ⊢
  clear hW
  try go_wp2_with fail
  refine (HCL.out _).mono ?_
  rintro e w2 ⟨rfl, hu2⟩
  have HU2 := Lib.hid (HU1.out.trans_ext hu2)
  have HJ2 := Lib.hid (HJ1.out.ext hu2)
  have HO : Hid (O = []) := Lib.hid HJ.out.2.2.1
  clear hu2 x0 x1 x2 x3 x4 x5 z0
  cases bb with
  | false =>
    have HS' : Hid (s' = s) := Lib.hid (by rw [HE.out]; simp)
    go_wp2_with fail
    refine bodyPost_end (v := .tuple #[]) (by simp [results, Tryz.results84, go_sem]) rfl ⟨rfl, O, HU2.out.mono (by simp), fun g hg => Or.inl hg, fun r' hr' => ?_⟩
    rw [HS'.out]
    exact ⟨HJ2.out.1, HJ2.out.2.1, HJ2.out.2.2.1, HJ2.out.2.2.2.1, by have := HJ2.out.2.2.2.2; omega⟩
  | true =>
    have HS' : Hid (s' = s + 1) := Lib.hid (by rw [HE.out]; simp)
    have y0 := cell_of HJ2.out.1 0
    have f0 := free_of HJ2.out.1 0
    simp only [List.getElem?_toArray, List.getElem?_cons_zero] at y0
    go_wp2_with fail
    clear y0 f0
    have hst := set_same HJ2.out.1 0 (.int .i64 ((s : Int) + 1))
    simp only [List.setIfInBounds_toArray, List.set_cons_zero] at hst
    have hself : Upto [B] w2 (w2.setCell ⟨B, 0, none⟩ (.int .i64 ((s : Int) + 1))) := (Upto.refl [B] w2).setCell (Or.inl (by simp)) _
    refine bodyPost_end (v := .tuple #[]) (by simp [results, Tryz.results84, go_sem]) rfl ⟨rfl, O, ?_, fun g hg => Or.inl hg, fun r' hr' => ?_⟩
    · exact (HU2.out.mono (by simp)).trans hself (fun k hk => Or.inl (by simp at hk; simp [hk]))
    · rw [HS'.out]
      exact ⟨hst, hself.at HJ2.out.2.1 (by simp; exact hne), HO.out, Nat.le_trans HJ2.out.2.2.2.1 hself.size, by have := HJ2.out.2.2.2.2; omega⟩
set_option maxRecDepth 100000 in
set_option maxHeartbeats 3200000 in
theorem cclosQ_calls (w0 : World) (B B2 : Nat) (hB : B < w0.heap.size) (hne : B2 ≠ B) (s : Nat) (r : Nat) (O : List Nat) (w : World) (P : Nat → Prop) (nd : Nd) (v : Value) (hr : 1 ≤ r) (hso : sortN nd) (hJ : CoJ w0 B B2 57 s r O w) (h : NdV w P nd v) : Calls Tryz.prog 84 #[v, .pointer (some ⟨B2, 0, none⟩), .pointer (some ⟨B, 0, none⟩)] w (CoPost w0 B B2 57 O (cStep false s nd) r w) := by
  obtain ⟨op, nms, so, nn, mm, l⟩ := nd
  obtain ⟨a1, c1, a2, c2, rfl, -, -⟩ := h.open
  unfold sortN at hso
  obtain ⟨W, hW⟩ : ∃ W, W = w.alloc (.cells #[.int .i64 op, .slice a1 nms.length c1, .int .i64 so, .int .i64 nn, .int .i64 mm, .slice a2 l.length c2] 30) := ⟨_, rfl⟩
  have HU1 : Hid (Upto [] w W) := Lib.hid (by rw [hW]; exact (Upto.refl [] w).alloc _)
  have HB1 : Hid (W.heap[w.heap.size]? = some (.cells #[.int .i64 op, .slice a1 nms.length c1, .int .i64 so, .int .i64 nn, .int .i64 mm, .slice a2 l.length c2] 30 (0, 0))) := Lib.hid (by rw [hW]; exact new_at w _)
  have HCL := Lib.hid (fun u => binds_calls op a1 nms.length c1 so nn mm a2 l.length c2 u)
  have HE : Hid (cStep false s (.mk op nms so nn mm l) = s + if cntB false op nms.length so = true then 1 else 0) := Lib.hid rfl
  generalize cStep false s (.mk op nms so nn mm l) = s' at *
  have HJ := Lib.hid hJ
  have HJ1 := Lib.hid (hJ.ext HU1.out)
  have hs1 : (s : Int) ≤ 200000 := by have := hJ.2.2.2.2; omega
  have hs0 : (0 : Int) ≤ s := by omega
  have z0 := cell_of HJ1.out.2.1 0
  rw [show cntB false op nms.length so = bindsF op nms.length by simp [cntB]] at HE
  generalize bindsF op nms.length = bb at *
  generalize hll : l.length = ll at *
  generalize hnl : nms.length = nl at *
  obtain ⟨x0, x1, x2, x3, x4, x5⟩ := cells6 HB1.out
  simp only [List.getElem?_toArray, List.getElem?_cons_zero, List.getElem?_cons_succ] at z0
  rw [hW] at z0
  clear h hll hnl hJ hso
  go_enter Tryz.func84, Tryz.ntmps84
  go_wp2_with fail
  simp only [← hW] at z0 ⊢
  clear hW
  try go_wp2_with fail
  refine (HCL.out _).mono ?_
  rintro e w2 ⟨rfl, hu2⟩
  have HU2 := Lib.hid (HU1.out.trans_ext hu2)
  have HJ2 := Lib.hid (HJ1.out.ext hu2)
  have HO : Hid (O = []) := Lib.hid HJ.out.2.2.1
  clear hu2 x0 x1 x2 x3 x4 x5 z0
  cases bb with
  | false =>
    have HS' : Hid (s' = s) := Lib.hid (by rw [HE.out]; simp)
    go_wp2_with fail
    refine bodyPost_end (v := .tuple #[]) (by simp [results, Tryz.results84, go_sem]) rfl ⟨rfl, O, HU2.out.mono (by simp), fun g hg => Or.inl hg, fun r' hr' => ?_⟩
    rw [HS'.out]
    exact ⟨HJ2.out.1, HJ2.out.2.1, HJ2.out.2.2.1, HJ2.out.2.2.2.1, by have := HJ2.out.2.2.2.2; omega⟩
  | true =>
    have HS' : Hid (s' = s + 1) := Lib.hid (by rw [HE.out]; simp)
    have y0 := cell_of HJ2.out.1 0
    have f0 := free_of HJ2.out.1 0
    simp only [List.getElem?_toArray, List.getElem?_cons_zero] at y0
    go_wp2_with fail
    clear y0 f0
    have hst := set_same HJ2.out.1 0 (.int .i64 ((s : Int) + 1))
    simp only [List.setIfInBounds_toArray, List.set_cons_zero] at hst
    have hself : Upto [B] w2 (w2.setCell ⟨B, 0, none⟩ (.int .i64 ((s : Int) + 1))) := (Upto.refl [B] w2).setCell (Or.inl (by simp)) _
    refine bodyPost_end (v := .tuple #[]) (by simp [results, Tryz.results84, go_sem]) rfl ⟨rfl, O, ?_, fun g hg => Or.inl hg, fun r' hr' => ?_⟩
    · exact (HU2.out.mono (by simp)).trans hself (fun k hk => Or.inl (by simp at hk; simp [hk]))
    · rw [HS'.out]
      exact ⟨hst, hself.at HJ2.out.2.1 (by simp; exact hne), HO.out, Nat.le_trans HJ2.out.2.2.2.1 hself.size, by have := HJ2.out.2.2.2.2; omega⟩
set_option maxRecDepth 100000 in
set_option maxHeartbeats 3200000 in
theorem countS_calls (nd : Nd) (v : Value) (w : World) (P : Nat → Prop) (h : NdV w P nd v) (hk : sizeF nd ≤ 100000) (hg : sortN nd) : Calls Tryz.prog 60 #[v, .func (.func 61) #[] #[]] w fun e w' => e = .returned (.int .i64 (cntF true nd)) ∧ Upto [] w w' := by
  obtain ⟨op, a1, n1, c1, so, nn, mm, a2, n2, c2, rfl⟩ := h.six
  obtain ⟨W, hW⟩ : ∃ W, W = ((w.alloc (.cells #[.int .i64 op, .slice a1 n1 c1, .int .i64 so, .int .i64 nn, .int .i64 mm, .slice a2 n2 c2] 30)).alloc (.cells #[.func (.func 61) #[] #[]] 79)).alloc (.cells #[.int .i64 0] 3) := ⟨_, rfl⟩
  have HU1 : Hid (Upto [] w W) := Lib.hid (by rw [hW]; exact (((Upto.refl [] w).alloc _).alloc _).alloc _)
  have HB1 : Hid (W.heap[w.heap.size]? = some (.cells #[.int .i64 op, .slice a1 n1 c1, .int .i64 so, .int .i64 nn, .int .i64 mm, .slice a2 n2 c2] 30 (0, 0))) := Lib.hid (by rw [hW]; exact alloc_old (alloc_old (new_at w _) _) _)
  have HB2 : Hid (W.heap[w.heap.size + 1]? = some (.cells #[.func (.func 61) #[] #[]] 79 (0, 0))) := Lib.hid (by rw [hW]; exact alloc_old (new_at1 w _ _) _)
  have HB3 : Hid (W.heap[w.heap.size + 1 + 1]? = some (.cells #[.int .i64 0] 3 (0, 0))) := Lib.hid (by rw [hW]; exact new_at2 w _ _ _)
  have HLT := Lib.hid (lt_of_heap HB3.out)
  have HW := Lib.hid (walkC_calls (.pointer (some ⟨w.heap.size + 1, 0, none⟩)) (.pointer (some ⟨w.heap.size + 1 + 1, 0, none⟩)) sortN sortN_kids (cStep true) W [w.heap.size + 1 + 1] (fun b => b < w.heap.size) (CoJ W (w.heap.size + 1 + 1) (w.heap.size + 1) 61) (fun b hb => ⟨Nat.lt_of_lt_of_le hb HU1.out.size, by simp; omega⟩) (fun g hg => by simp at hg; subst hg; exact HLT.out)
    (fun _ _ _ _ hJ => ⟨hJ.2.2.2.1, fun g hg => by rw [hJ.2.2.1] at hg; cases hg⟩) (fun _ _ _ _ _ hJ hu => hJ.ext hu) (fun s r O u x v hJ hs hv => cclosS_calls W (w.heap.size + 1 + 1) (w.heap.size + 1) HLT.out (by omega) s (r + sizeF x) O u _ x v (by have := sizeF_pos x; omega) hs hJ hv)
    100000 nd hk (by omega) hg _ 0 0 [] W ⟨HB3.out, HB2.out, rfl, Nat.le_refl _, by omega⟩ (h.here.ext HU1.out))
  obtain ⟨x0, x1, x2, x3, x4, x5⟩ := cells6 HB1.out
  clear h
  go_enter Tryz.func60, Tryz.ntmps60
  go_wp2_with fail
  simp only [← hW]
  clear hW
  try go_wp2_with fail
  refine HW.out.mono ?_
  rintro e w2 ⟨rfl, O', hj, hu, -⟩
  rw [cnt_walk, Nat.zero_add] at hj
  have HU2 : Hid (Upto [] w w2) := Lib.hid (HU1.out.trans hu (fun k hk => Or.inr (by simp at hk; omega)))
  have z0 := cell_of hj.1 0
  simp only [List.getElem?_toArray, List.getElem?_cons_zero] at z0
  clear hj hu x0 x1 x2 x3 x4 x5
  go_wp2_with fail
  go_ret
  exact ⟨rfl, HU2.out⟩
set_option maxRecDepth 100000 in
set_option maxHeartbeats 3200000 in
theorem countQ_calls (nd : Nd) (v : Value) (w : World) (P : Nat → Prop) (h : NdV w P nd v) (hk : sizeF nd ≤ 100000) (hg : sortN nd) : Calls Tryz.prog 60 #[v, .func (.func 57) #[] #[]] w fun e w' => e = .returned (.int .i64 (cntF false nd)) ∧ Upto [] w w' := by
  obtain ⟨op, a1, n1, c1, so, nn, mm, a2, n2, c2, rfl⟩ := h.six
  obtain ⟨W, hW⟩ : ∃ W, W = ((w.alloc (.cells #[.int .i64 op, .slice a1 n1 c1, .int .i64 so, .int .i64 nn, .int .i64 mm, .slice a2 n2 c2] 30)).alloc (.cells #[.func (.func 57) #[] #[]] 79)).alloc (.cells #[.int .i64 0] 3) := ⟨_, rfl⟩
  have HU1 : Hid (Upto [] w W) := Lib.hid (by rw [hW]; exact (((Upto.refl [] w).alloc _).alloc _).alloc _)
  have HB1 : Hid (W.heap[w.heap.size]? = some (.cells #[.int .i64 op, .slice a1 n1 c1, .int .i64 so, .int .i64 nn, .int .i64 mm, .slice a2 n2 c2] 30 (0, 0))) := Lib.hid (by rw [hW]; exact alloc_old (alloc_old (new_at w _) _) _)
  have HB2 : Hid (W.heap[w.heap.size + 1]? = some (.cells #[.func (.func 57) #[] #[]] 79 (0, 0))) := Lib.hid (by rw [hW]; exact alloc_old (new_at1 w _ _) _)
  have HB3 : Hid (W.heap[w.heap.size + 1 + 1]? = some (.cells #[.int .i64 0] 3 (0, 0))) := Lib.hid (by rw [hW]; exact new_at2 w _ _ _)
  have HLT := Lib.hid (lt_of_heap HB3.out)
  have HW := Lib.hid (walkC_calls (.pointer (some ⟨w.heap.size + 1, 0, none⟩)) (.pointer (some ⟨w.heap.size + 1 + 1, 0, none⟩)) sortN sortN_kids (cStep false) W [w.heap.size + 1 + 1] (fun b => b < w.heap.size) (CoJ W (w.heap.size + 1 + 1) (w.heap.size + 1) 57) (fun b hb => ⟨Nat.lt_of_lt_of_le hb HU1.out.size, by simp; omega⟩) (fun g hg => by simp at hg; subst hg; exact HLT.out)
    (fun _ _ _ _ hJ => ⟨hJ.2.2.2.1, fun g hg => by rw [hJ.2.2.1] at hg; cases hg⟩) (fun _ _ _ _ _ hJ hu => hJ.ext hu) (fun s r O u x v hJ hs hv => cclosQ_calls W (w.heap.size + 1 + 1) (w.heap.size + 1) HLT.out (by omega) s (r + sizeF x) O u _ x v (by have := sizeF_pos x; omega) hs hJ hv)
    100000 nd hk (by omega) hg _ 0 0 [] W ⟨HB3.out, HB2.out, rfl, Nat.le_refl _, by omega⟩ (h.here.ext HU1.out))
  obtain ⟨x0, x1, x2, x3, x4, x5⟩ := cells6 HB1.out
  clear h
  go_enter Tryz.func60, Tryz.ntmps60
  go_wp2_with fail
  simp only [← hW]
  clear hW
  try go_wp2_with fail
  refine HW.out.mono ?_
  rintro e w2 ⟨rfl, O', hj, hu, -⟩
  rw [cnt_walk, Nat.zero_add] at hj
  have HU2 : Hid (Upto [] w w2) := Lib.hid (HU1.out.trans hu (fun k hk => Or.inr (by simp at hk; omega)))
  have z0 := cell_of hj.1 0
  simp only [List.getElem?_toArray, List.getElem?_cons_zero] at z0
  clear hj hu x0 x1 x2 x3 x4 x5
  go_wp2_with fail
  go_ret
  exact ⟨rfl, HU2.out⟩
set_option maxRecDepth 100000 in
set_option maxHeartbeats 1600000 in
theorem SetQuantifiers_calls (nd : Nd) (v : Value) (w : World) (P : Nat → Prop) (h : NdV w P nd v) (hk : sizeF nd ≤ 100000) (hg : sortN nd) : Calls Tryz.prog 28 #[v] w fun e w' => e = .returned (.int .i64 (cntF true nd)) ∧ Upto [] w w' := by
  obtain ⟨op, a1, n1, c1, so, nn, mm, a2, n2, c2, rfl⟩ := h.six
  have HU1 := Lib.hid ((Upto.refl [] w).alloc (.cells #[.int .i64 op, .slice a1 n1 c1, .int .i64 so, .int .i64 nn, .int .i64 mm, .slice a2 n2 c2] 30))
  have HC := Lib.hid (countS_calls nd _ _ P (h.ext HU1.out) hk hg)
  clear h
  go_enter Tryz.func28, Tryz.ntmps28
  go_wp2_with fail
  refine HC.out.mono ?_
  rintro e w2 ⟨rfl, hu⟩
  have HU2 := Lib.hid (HU1.out.trans_ext hu)
  clear hu
  go_wp2_with fail
  go_ret
  exact ⟨rfl, HU2.out⟩
set_option maxRecDepth 100000 in
set_option maxHeartbeats 1600000 in
theorem Quantifiers_calls (nd : Nd) (v : Value) (w : World) (P : Nat → Prop) (h : NdV w P nd v) (hk : sizeF nd ≤ 100000) (hg : sortN nd) : Calls Tryz.prog 23 #[v] w fun e w' => e = .returned (.int .i64 (cntF false nd)) ∧ Upto [] w w' := by
  obtain ⟨op, a1, n1, c1, so, nn, mm, a2, n2, c2, rfl⟩ := h.six
  have HU1 := Lib.hid ((Upto.refl [] w).alloc (.cells #[.int .i64 op, .slice a1 n1 c1, .int .i64 so, .int .i64 nn, .int .i64 mm, .slice a2 n2 c2] 30))
  have HC := Lib.hid (countQ_calls nd _ _ P (h.ext HU1.out) hk hg)
  clear h
  go_enter Tryz.func23, Tryz.ntmps23
  go_wp2_with fail
  refine HC.out.mono ?_
  rintro e w2 ⟨rfl, hu⟩
  have HU2 := Lib.hid (HU1.out.trans_ext hu)
  clear hu
  go_wp2_with fail
  go_ret
  exact ⟨rfl, HU2.out⟩
end Go.Proofs.YtbnebkkpmcjmbaaGreatDoor


namespace Go.Proofs.YtbnebkkpmcjmbaaGreatDoor
open Go.PL

/-- the first token of a formula's full text is not the word that begins a declaration -/
def headOk (b : Bool) (L : List (Bool × Tok)) : Prop := ∃ t r, L = (b, t) :: r ∧ (t.text ≠ [102, 105, 110, 100] ∨ t.kind = 1)
theorem headOk.mk {b : Bool} {t : Tok} {r : List (Bool × Tok)} (h : t.text ≠ [102, 105, 110, 100] ∨ t.kind = 1) : headOk b ((b, t) :: r) := ⟨t, r, rfl, h⟩
end Go.Proofs.YtbnebkkpmcjmbaaGreatDoor


namespace Go.Proofs.YtbnebkkpmcjmbaaGreatDoor
open Go.PL

/-- the first error of the free variables; seen: the names ahead -/
def varsE (nm : List UInt8 → Bool) : List (List UInt8 × Int) → List (List UInt8) → Nat
  | [], _ => 0
  | v :: r, seen => if nm v.1 = false then 3 else if (decide (v.2 < 0) || decide (3 < v.2)) = true then 2 else if seen.contains v.1 = true then 7 else varsE nm r (seen ++ [v.1])
/-- the first error of a question -/
def rightF (nm : List UInt8 → Bool) (q : Qn) : Nat :=
  if 8 < q.free.length then 8 else if varsE nm q.free [] ≠ 0 then varsE nm q.free [] else checkF nm q.body

end Go.Proofs.YtbnebkkpmcjmbaaGreatDoor


namespace Go.Proofs.YtbnebkkpmcjmbaaGreatDoor
open Go.RowKit Go.PL Go.Maps
structure OfRow (w0 w : World) (B : Nat) (c : Nat → Nat → Value) (v : Value) (ms : List Nd) : Prop where
  row : w.ownsRow 0 30 6 v ms.length (cellsN c ms.length)
  nd : ∀ i m, ms[i]? = some m → NdV w (Lr w0 B v) m (.agg #[c i 0, c i 1, c i 2, c i 3, c i 4, c i 5])
  own : ∀ g, v.ownBlock = some g → w0.heap.size ≤ g ∧ g ≠ B
theorem OfRow.upto {w0 w w' : World} {S : List Nat} {B : Nat} {c : Nat → Nat → Value} {v : Value} {ms : List Nd} (h : OfRow w0 w B c v ms) (hu : Upto S w w') (hS : ∀ k ∈ S, k < w0.heap.size ∨ k = B) : OfRow w0 w' B c v ms :=
  ⟨ownsRow_upto h.row hu (fun g hg hm => by have h1 := h.own g hg; rcases hS g hm with h2 | h2 <;> omega),
   fun i m hi => (h.nd i m hi).upto hu (fun b hb _ hm => by have h1 := hb.1; unfold New at h1; rcases hS b hm with h2 | h2; omega; exact hb.2.1 h2), h.own⟩
theorem OfRow.app {w0 w w5 : World} {B : Nat} {c : Nat → Nat → Value} {v : Value} {ms : List Nd} {m : Nd} {v0 v1 v2 v3 v4 v5 : Value} {b' : Option Addr} {c' : Nat} (h : OfRow w0 w B c v ms) (hsz : w0.heap.size ≤ w.heap.size) (hBw : B < w.heap.size)
    (hm : NdV w (Lr w0 B v) m (.agg #[v0, v1, v2, v3, v4, v5])) (ho : w5.ownsRow 0 30 6 (.slice b' (ms.length + 1) c') (ms.length + 1) (cellsN c ms.length ++ [v0, v1, v2, v3, v4, v5])) (hu : Upto v.ownBlock.toList w w5)
    (hw : ∀ g, (Value.slice b' (ms.length + 1) c').ownBlock = some g → v.ownBlock = some g ∨ w.heap.size ≤ g) : OfRow w0 w5 B (addC c ms.length v0 v1 v2 v3 v4 v5) (.slice b' (ms.length + 1) c') (ms ++ [m]) := by
  have key : ∀ x u, NdV w (Lr w0 B v) x u → NdV w5 (Lr w0 B (.slice b' (ms.length + 1) c')) x u := fun x u hx =>
    NdV.keep ⟨hu.size, fun b hb hl => ⟨⟨hb.1, hb.2.1, fun e => by
      rcases hw b e with h1 | h1
      · exact hb.2.2 h1
      · have := hl.lt; omega⟩, hu.block b hl.lt (fun hmm => hb.2.2 (Option.mem_toList.1 hmm))⟩⟩ x u hx
  refine ⟨?_, ?_, ?_⟩
  · rw [List.length_append, List.length_singleton, cellsN_add]
    exact ho
  · intro i x hi
    by_cases hlt : i < ms.length
    · rw [List.getElem?_append_left hlt] at hi
      have := key _ _ (h.nd i x hi)
      simpa [addC, Nat.ne_of_lt hlt] using this
    · rw [List.getElem?_append_right (by omega)] at hi
      cases hd : i - ms.length with
      | zero =>
        rw [hd] at hi
        simp at hi
        subst hi
        have : i = ms.length := by omega
        subst this
        simpa [addC] using key _ _ hm
      | succ z => rw [hd] at hi; simp at hi
  · intro g hg
    rcases hw g hg with h1 | h1
    · exact h.own g h1
    · exact ⟨by omega, by omega⟩
theorem OfRow.list {w0 w : World} {B : Nat} {c : Nat → Nat → Value} {v : Value} {ms : List Nd} {Q : Nat → Prop} (h : OfRow w0 w B c v ms) (h1 : ∀ b, Lr w0 B v b → Q b) (h2 : ∀ g, v.ownBlock = some g → Q g) : (ms = [] ∧ ∃ a c, v = .slice a 0 c) ∨ ∃ g o c, v = .slice (some ⟨g, o, none⟩) ms.length c ∧ (Q g ∧ IsC w g) ∧ NdsV w Q g o ms := by
  rcases h.row.2 with ⟨e, h0⟩ | ⟨g, cap, cur, e, _, hh, _, _, _, ht⟩
  · exact Or.inl ⟨List.eq_nil_of_length_eq_zero h0, none, 0, e⟩
  · refine Or.inr ⟨g, 0, cap, e, ⟨h2 g (by rw [e]; rfl), _, _, _, hh⟩, nds_of ms 0 fun i x hi => ?_⟩
    have hil : i < ms.length := (List.getElem?_eq_some_iff.1 hi).1
    have cl : ∀ j, j < 6 → w.cell? ⟨g, 0 + i * 6 + j, none⟩ = some (c i j) := fun j hj => by
      rw [cell_of hh]
      have := cellsN_at c hil hj
      rw [← ht, List.getElem?_take] at this
      split at this
      · simpa using this
      · cases this
    exact ⟨_, _, _, _, _, _, cl 0 (by omega), cl 1 (by omega), cl 2 (by omega), cl 3 (by omega), cl 4 (by omega), cl 5 (by omega), (h.nd i x hi).mono fun b hb _ => h1 b hb⟩
theorem infoO4 : (Tryz.prog.info? 30).map (fun i => (i.zero, i.size, i.bytes)) = some (some (.agg #[.int .i64 0, .slice none 0 0, .int .i64 0, .int .i64 0, .int .i64 0, .slice none 0 0]), 6, 80) := by kernel_rfl
theorem infoO4' : ∃ i, Tryz.prog.info? 30 = some i ∧ i.zero = some (.agg #[.int .i64 0, .slice none 0 0, .int .i64 0, .int .i64 0, .int .i64 0, .slice none 0 0]) ∧ i.size = 6 ∧ i.bytes = 80 := by
  have h := infoO4
  cases hi : Tryz.prog.info? 30 with
  | none => rw [hi] at h; cases h
  | some i =>
    rw [hi] at h
    simp only [Option.map_some, Option.some.injEq, Prod.mk.injEq] at h
    exact ⟨i, rfl, h.1, h.2.1, h.2.2⟩
/-- what stands between two rounds -/
structure OfI (w w9 : World) (bn : Nat) (op so nn mm : Int) (na : Option Addr) (nl nc : Nat) (ns : List Value) (l : List Nd) (j : Nat) (wr : World) : Prop where
  up : Upto [bn] w9 wr
  old : Upto [] w wr
  st : ∃ (va : Option Addr) (vn vc : Nat) (c : Nat → Nat → Value), wr.heap[bn]? = some (.cells #[.int .i64 op, .slice na nl nc, .int .i64 so, .int .i64 nn, .int .i64 mm, .slice va vn vc] 30 (0, 0)) ∧ OfRow w9 wr bn c (.slice va vn vc) (l.take j)
theorem of_step {w w9 wr w10 w5 W : World} {bn : Nat} {op so nn mm : Int} {na : Option Addr} {nl nc : Nat} {ns : List Value} {l : List Nd} {vn : Nat} {va : Option Addr} {vc : Nat} {c : Nat → Nat → Value} {x : Nd} {v0 v1 v2 v3 v4 v5 : Value} {b5 : Option Addr} {c5 : Nat}
    (HI : OfI w w9 bn op so nn mm na nl nc ns l vn wr) (HLT : W.heap.size ≤ bn ∧ bn < w9.heap.size) (HWL : w.heap.size < W.heap.size) (HUP : Upto [] W w9)
    (hbk : wr.heap[bn]? = some (.cells #[.int .i64 op, .slice na nl nc, .int .i64 so, .int .i64 nn, .int .i64 mm, .slice va vn vc] 30 (0, 0))) (hrow : OfRow w9 wr bn c (.slice va vn vc) (l.take vn))
    (hu : Upto [] wr w10) (hn : NdV w10 (New wr) x (.agg #[v0, v1, v2, v3, v4, v5])) (hjl : (l.take vn).length = vn) (htk : l.take (vn + 1) = l.take vn ++ [x])
    (ho5 : w5.ownsRow 0 30 6 (.slice b5 (vn + 1) c5) (vn + 1) (cellsN c vn ++ [v0, v1, v2, v3, v4, v5])) (hu5 : Upto (Value.slice va vn vc).ownBlock.toList w10 w5) (hw5 : ∀ g, (Value.slice b5 (vn + 1) c5).ownBlock = some g → (Value.slice va vn vc).ownBlock = some g ∨ w10.heap.size ≤ g) :
    w5.heap[bn]? = some (.cells #[.int .i64 op, .slice na nl nc, .int .i64 so, .int .i64 nn, .int .i64 mm, .slice va vn vc] 30 (0, 0)) ∧ OfI w w9 bn op so nn mm na nl nc ns l (vn + 1) (w5.setCell ⟨bn, 5, none⟩ (.slice b5 (vn + 1) c5)) := by
  have hown : ∀ g, g ∈ (Value.slice va vn vc).ownBlock.toList → w9.heap.size ≤ g ∧ g ≠ bn := fun g hg => hrow.own g (Option.mem_toList.1 hg)
  have hold : ∀ g, (Value.slice va vn vc).ownBlock = some g → g < wr.heap.size := fun g hg => by
    obtain ⟨cur, hh⟩ := ownsRow_block hrow.row hg
    exact lt_of_heap hh
  have hb5 := hu5.at (hu.at hbk (by simp)) (fun hm => (hown _ hm).2 rfl)
  have hst : Upto [bn] w5 (w5.setCell ⟨bn, 5, none⟩ (.slice b5 (vn + 1) c5)) := (Upto.refl [bn] w5).setCell (p := ⟨bn, 5, none⟩) (Or.inl (by simp)) _
  have hs9 := HI.up.size
  have hs10 := hu.size
  have hW := HUP.size
  have hbw := lt_of_heap hbk
  refine ⟨hb5, ⟨?_, ?_, b5, vn + 1, c5, addC c vn v0 v1 v2 v3 v4 v5, ?_, ?_⟩⟩
  · exact ((HI.up.trans_ext hu).trans hu5 (fun k hk => Or.inr (hown k hk).1)).setCell (p := ⟨bn, 5, none⟩) (Or.inl (by simp)) _
  · exact ((HI.old.trans_ext hu).trans hu5 (fun k hk => Or.inr (by have := (hown k hk).1; omega))).setCell (p := ⟨bn, 5, none⟩) (Or.inr (by simp; omega)) _
  · have := set_same hb5 5 (.slice b5 (vn + 1) c5)
    simpa using this
  · have happ := OfRow.app (m := x) (v0 := v0) (v1 := v1) (v2 := v2) (v3 := v3) (v4 := v4) (v5 := v5) (b' := b5) (c' := c5) (w5 := w5) (hrow.upto hu (by simp)) (by omega) (by omega)
      (hn.mono (fun b hb _ => ⟨by unfold New at hb ⊢; omega, by unfold New at hb; omega, fun e => by have := hold b e; unfold New at hb; omega⟩)) (by rw [hjl]; exact ho5) hu5 (by rw [hjl]; exact hw5)
    rw [hjl] at happ
    rw [htk]
    exact happ.upto hst (fun k hk => Or.inr (by simpa using hk))
theorem of_end {w w9 wr W : World} {bn : Nat} {op so nn mm : Int} {na : Option Addr} {nc : Nat} {ns : List Value} {names : List (List UInt8)} {l : List Nd} {vn : Nat} {va : Option Addr} {vc : Nat} {c : Nat → Nat → Value} {P : Nat → Prop}
    (HI : OfI w w9 bn op so nn mm na names.length nc ns l vn wr) (HLT : W.heap.size ≤ bn ∧ bn < w9.heap.size) (HWL : w.heap.size < W.heap.size) (HW2 : w.heap.size + 1 < W.heap.size) (HUP : Upto [] W w9)
    (hbn : w9.heap[bn]? = some (.cells #[.int .i64 0, .slice none 0 0, .int .i64 0, .int .i64 0, .int .i64 0, .slice none 0 0] 30 (0, 0)))
    (hsl : SlP w9 (New W) (.slice na names.length nc) names.length (names.map sV))
    (hz2 : wr.heap[w.heap.size + 1]? = some (.cells #[.int .i64 0, .slice none 0 0, .int .i64 0, .int .i64 0, .int .i64 0, .slice none 0 0] 30 (0, 0)))
    (hrow : OfRow w9 wr bn c (.slice va vn vc) (l.take vn)) (htk : l.take vn = l) (hll : l.length = vn) :
    BkPost w (.mk op names so nn mm l) (.returned (.agg #[.int .i64 op, .slice na names.length nc, .int .i64 so, .int .i64 nn, .int .i64 mm, .slice va vn vc])) ((((((wr.setCell ⟨w.heap.size + 1, 0, none⟩ (.int .i64 op)).setCell ⟨w.heap.size + 1, 1, none⟩ (.slice na names.length nc)).setCell ⟨w.heap.size + 1, 2, none⟩ (.int .i64 so)).setCell ⟨w.heap.size + 1, 3, none⟩ (.int .i64 nn)).setCell ⟨w.heap.size + 1, 4, none⟩ (.int .i64 mm)).setCell ⟨w.heap.size + 1, 5, none⟩ (.slice va vn vc)) := by
  have hst := nd_self wr (w.heap.size + 1) (.int .i64 op) (.slice na names.length nc) (.int .i64 so) (.int .i64 nn) (.int .i64 mm) (.slice va vn vc)
  have hW := HUP.size
  have hrow2 := hrow.upto hst (fun k hk => Or.inl (by simp at hk; omega))
  rw [htk] at hrow2
  have hs2 := ((names_ne hsl rfl hbn).upto HI.up (fun b hb _ => by simpa using hb.2)).upto hst (fun b hb _ => by have := hb.1; unfold New at this; simp; omega)
  refine ⟨_, rfl, ?_, nd_up HI.old (Or.inr (by omega)) ..⟩
  unfold NdV
  refine ⟨_, _, rfl, hs2.mono (fun b hb _ => by have := hb.1; unfold New at this ⊢; omega), ?_⟩
  have := hrow2.list (Q := New w) (fun b hb => by have := hb.1; unfold New at this ⊢; omega) (fun g hg => by have := (hrow.own g hg).1; unfold New; omega)
  exact this

set_option maxRecDepth 100000 in
set_option maxHeartbeats 6400000 in
theorem of_calls : ∀ (k : Nat) (nd : Nd), sizeF nd ≤ k → k ≤ 10000000 → bigN nd → ∀ (P : Nat → Prop) (v : Value) (w : World), NdV w P nd v → Calls Tryz.prog 12 #[v] w (BkPost w nd)
  | 0, nd, hk, _, _, _, _, _, _ => by have := sizeF_pos nd; omega
  | k + 1, .mk op names so nn mm l, hk, hk7, hbg, P, v, w, h => by
    obtain ⟨a1, c1, a2, c2, rfl, hs, hls⟩ := h.open
    unfold bigN at hbg
    have hsz : sizesF l ≤ k := by simp only [sizeF] at hk; omega
    have hln := sizes_len l
    have hu2 : Upto [] w ((w.alloc (.cells #[.int .i64 op, .slice a1 names.length c1, .int .i64 so, .int .i64 nn, .int .i64 mm, .slice a2 l.length c2] 25)).alloc (.cells #[.int .i64 0, .slice none 0 0, .int .i64 0, .int .i64 0, .int .i64 0, .slice none 0 0] 30)) := ((Upto.refl [] w).alloc _).alloc _
    have hb1 := alloc_old (new_at w (.cells #[.int .i64 op, .slice a1 names.length c1, .int .i64 so, .int .i64 nn, .int .i64 mm, .slice a2 l.length c2] 25)) (.cells #[.int .i64 0, .slice none 0 0, .int .i64 0, .int .i64 0, .int .i64 0, .slice none 0 0] 30)
    have hb2 := new_at1 w (.cells #[.int .i64 op, .slice a1 names.length c1, .int .i64 so, .int .i64 nn, .int .i64 mm, .slice a2 l.length c2] 25) (.cells #[.int .i64 0, .slice none 0 0, .int .i64 0, .int .i64 0, .int .i64 0, .slice none 0 0] 30)
    obtain ⟨W, hW⟩ : ∃ W, W = ((w.alloc (.cells #[.int .i64 op, .slice a1 names.length c1, .int .i64 so, .int .i64 nn, .int .i64 mm, .slice a2 l.length c2] 25)).alloc (.cells #[.int .i64 0, .slice none 0 0, .int .i64 0, .int .i64 0, .int .i64 0, .slice none 0 0] 30)) := ⟨_, rfl⟩
    rw [← hW] at hu2 hb1 hb2
    have HU2 := Lib.hid hu2
    have HB1 := Lib.hid hb1
    have HB2 := Lib.hid hb2
    have hns : SlP W P (.slice a1 names.length c1) (names.map sV).length (names.map sV) := by rw [List.length_map]; exact hs.ext hu2
    have HNS := Lib.hid hns.slc
    have HNL := Lib.hid hbg.1
    obtain ⟨i0, hi0, hz0, hz1, hz2⟩ := info9'
    obtain ⟨x0, x1, x2, x3, x4, x5⟩ := cells6 hb1
    have hwl : w.heap.size < W.heap.size := lt_of_heap hb1
    have hwr := Upto.refl [] W
    clear hs h hu2 hb1 hb2 hns
    go_enter Tryz.func12, Tryz.ntmps12
    go_wp2_with fail
    simp only [← hW]
    clear hW
    have e0 : ∀ u : Ext W, u.w.cell? ⟨w.heap.size, 0, none⟩ = some _ := fun u => u.cell x0
    have e1 : ∀ u : Ext W, u.w.cell? ⟨w.heap.size, 1, none⟩ = some _ := fun u => u.cell x1
    have e2 : ∀ u : Ext W, u.w.cell? ⟨w.heap.size, 2, none⟩ = some _ := fun u => u.cell x2
    have e3 : ∀ u : Ext W, u.w.cell? ⟨w.heap.size, 3, none⟩ = some _ := fun u => u.cell x3
    have e4 : ∀ u : Ext W, u.w.cell? ⟨w.heap.size, 4, none⟩ = some _ := fun u => u.cell x4
    refine wp_region_seg_at [2, 5] [13] [0, 1, 2, 3, 4, 5, 6, 7, 8, 9, 10, 11, 12, 13] [14] 14 (by kernel_rfl) (by kernel_rfl) (by kernel_rfl) ?_
    iterate 2 (refine seg_plain rfl rfl rfl rfl rfl ?_; intro K' hK'; go_big_quiet_op; go_big_quiet_on)
    refine seg_opq (Y := Nat) (fun b => .slice (some ⟨b, 0, none⟩) 0 0) (fun _ _ => True) (fun _ => []) rfl rfl rfl rfl (fun _ _ _ h _ => h) (fun _ => List.nodup_nil) (fun w' post hu hd hp => (congrArg (opqUpon Tryz.prog post) (show _ = Result.ok (Next.value (.slice (some ⟨w'.heap.size, 0, none⟩) 0 0)) (w'.alloc (.cells #[] 9)) from by go_simp)).mpr (hp w'.heap.size _ ((Upto.refl [] w').alloc _) trivial (fun b hb => by cases hb))) ?_
    intro be
    simp only [Act.put, List.setIfInBounds_toArray, List.set_cons_zero, List.set_cons_succ]
    iterate 2 (refine seg_plain rfl rfl rfl rfl rfl ?_; intro K' hK'; go_big_quiet_op; go_big_quiet_on)
    refine seg_opq (Y := Option Addr × Nat) (fun y => .slice y.1 names.length y.2) (fun y u => SlP u (New W) (.slice y.1 names.length y.2) names.length (names.map sV)) (fun _ => []) rfl rfl rfl rfl (fun _ _ _ h hu => h.ext hu) (fun _ => List.nodup_nil) (fun w' post hu hd hp => opq_apps w' (.tmp 7) (.tmp 9) 22 rfl 9 i0 (.string ⟨#[]⟩) 16 Tryz.underlying22 hi0 hz0 hz1 hz2 rfl be rfl (.slice a1 names.length c1) (names.map sV) names.length (by simp) rfl (HNS.out.ext hu) (by have := HNL.out; unfold maxLen; omega) (by have := HNL.out; omega) (fun b' c' w2 hu2 hsl => hp (b', c') w2 hu2 (hsl.mono (fun b hb _ => New.mono hu b hb)) (fun b hb => by cases hb))) ?_
    rintro ⟨na, nc⟩
    simp only [Act.put, List.setIfInBounds_toArray, List.set_cons_zero, List.set_cons_succ]
    iterate 7 (refine seg_plain rfl rfl rfl rfl rfl ?_; intro K' hK'; go_big_quiet_op; go_big_quiet_on)
    refine seg_alloc (.cells #[.int .i64 0, .slice none 0 0, .int .i64 0, .int .i64 0, .int .i64 0, .slice none 0 0] 30) rfl rfl rfl (fun w => by go_simp) ?_
    intro bn
    simp only [Act.put, List.setIfInBounds_toArray, List.set_cons_zero, List.set_cons_succ]
    intro w9 hg
    have hup := hg.up
    have hnb := hg.hold.1
    have hsl := hg.hold.2.1
    have hin := hg.inb
    simp only [List.drop_succ_cons, List.drop_zero]
    have hbn : W.heap.size ≤ bn ∧ bn < w9.heap.size := hin _ (List.Mem.head _) bn (List.Mem.head _)
    have HSL := Lib.hid hsl
    have HUP := Lib.hid hup
    have HBN := Lib.hid hnb
    have HLT := Lib.hid hbn
    have HWL := Lib.hid hwl
    have hw2 : w.heap.size + 1 < W.heap.size := lt_of_heap HB2.out
    have HW2 := Lib.hid hw2
    obtain ⟨n0, n1, n2, n3, n4, n5⟩ := cells6 hnb
    obtain ⟨f0, f1, f2, f3, f4, f5⟩ := frees6 hnb
    have hset := set_same (set_same (set_same (set_same (set_same (set_same hnb 0 (.int .i64 op)) 1 (.slice na names.length nc)) 2 (.int .i64 so)) 3 (.int .i64 nn)) 4 (.int .i64 mm)) 5 (.slice none 0 0)
    simp only [List.setIfInBounds_toArray, List.set_cons_zero, List.set_cons_succ] at hset
    have hsu : Upto [bn] w9 ((((((w9.setCell ⟨bn, 0, none⟩ (.int .i64 op)).setCell ⟨bn, 1, none⟩ (.slice na names.length nc)).setCell ⟨bn, 2, none⟩ (.int .i64 so)).setCell ⟨bn, 3, none⟩ (.int .i64 nn)).setCell ⟨bn, 4, none⟩ (.int .i64 mm)).setCell ⟨bn, 5, none⟩ (.slice none 0 0)) := nd_self ..
    have HI0 : Hid (OfI w w9 bn op so nn mm na names.length nc (names.map sV) l 0 ((((((w9.setCell ⟨bn, 0, none⟩ (.int .i64 op)).setCell ⟨bn, 1, none⟩ (.slice na names.length nc)).setCell ⟨bn, 2, none⟩ (.int .i64 so)).setCell ⟨bn, 3, none⟩ (.int .i64 nn)).setCell ⟨bn, 4, none⟩ (.int .i64 mm)).setCell ⟨bn, 5, none⟩ (.slice none 0 0))) := Lib.hid
      ⟨hsu, (HU2.out.trans_ext hup).trans hsu (fun k hk => Or.inr (by simp at hk; omega)), none, 0, 0, fun _ _ => undef, hset, ⟨by simpa [cellsN] using World.ownsRow_nil _ 0 30 6, by simp, by intro g hg; cases hg⟩⟩
    clear hg hup hnb hsl hin hset hsu e0 e1 e2 e3 e4
    go_wp2_with fail
    have HLS := Lib.hid hls
    have HLN : Hid (l.length ≤ 10000000) := Lib.hid (by omega)
    generalize hll : l.length = ll at *
    have HLL := Lib.hid hll
    have hL0 : (0 : Int) ≤ ll := by omega
    have hL1 : (ll : Int) ≤ 10000000 := by have := HLN.out; omega
    clear hls hll
    go_loopw [4] (fun v wr => ∃ j : Nat, j ≤ ll ∧ v = .int .i64 j ∧ Hid (OfI w w9 bn op so nn mm na names.length nc (names.map sV) l j wr)) (fun v _ => ll - (intOf v).toNat)
    case atStart => exact ⟨0, by omega, rfl, HI0⟩
    case round =>
      obtain ⟨j, hj, rfl, HI⟩ := hrel
      obtain ⟨va, vn, vc, c, hbk, hrow⟩ := HI.out.st
      have hbox := HI.out.up.at (HUP.out.at HB1.out (by simp)) (by have := HLT.out; have := HWL.out; simp; omega)
      have z5 := cell_of hbox 5
      have y5 := cell_of hbk 5
      have g5 := free_of hbk 5
      simp only [List.getElem?_toArray, List.getElem?_cons_zero, List.getElem?_cons_succ] at z5 y5
      obtain ⟨va', vc', hve, -⟩ := ownsRow_len hrow.row
      simp only [Value.slice.injEq] at hve
      have hvn : vn = j := by have := HLL.out; rw [hve.2.1, List.length_take]; omega
      clear hve
      subst hvn
      rcases Nat.lt_or_ge vn ll with hlt | hge
      · obtain ⟨x, hx⟩ : ∃ x, l[vn]? = some x := ⟨_, List.getElem?_eq_getElem (by have := HLL.out; omega)⟩
        obtain ⟨g, o, xo, xn1, xn2, xn3, xs, xm, xq, xl1, xl2, xl3, rfl, c0, c1', c2', c3, c4, c5, hn⟩ := (HLS.out.ext HI.out.old) vn x hx
        have hjl : (l.take vn).length = vn := by have := HLL.out; rw [List.length_take]; omega
        have HJL := Lib.hid hjl
        have HTK : Hid (l.take (vn + 1) = l.take vn ++ [x]) := Lib.hid (by
          obtain ⟨hi, rfl⟩ := List.getElem?_eq_some_iff.1 hx
          exact List.take_succ_eq_append_getElem hi)
        have HROW := Lib.hid hrow
        have HBK := Lib.hid hbk
        have hxs := sizesF_mem (List.mem_of_getElem? hx)
        have HC := Lib.hid (fun w1 (hu : Upto [] wr w1) => of_calls k x (by omega) (by omega) (bigs_mem hbg.2 (List.mem_of_getElem? hx)) P _ w1 (hn.ext hu))
        have hltI : (vn : Int) < ll := by omega
        have hj0 : (0 : Int) ≤ vn := by omega
        clear hrow hbk hbox hn hx
        go_wp2_with fail
        have e0 : ∀ u : Ext wr, u.w.cell? ⟨bn, 5, none⟩ = some (.slice va vn vc) := fun u => u.cell y5
        have e1 : ∀ u : Ext wr, u.w.cell? ⟨w.heap.size, 5, none⟩ = some _ := fun u => u.cell z5
        have k0 : ∀ u : Ext wr, u.w.cell? ⟨g, o + vn * 6, none⟩ = some _ := fun u => u.cell c0
        have k1 : ∀ u : Ext wr, u.w.cell? ⟨g, o + vn * 6 + 1, none⟩ = some _ := fun u => u.cell c1'
        have k2 : ∀ u : Ext wr, u.w.cell? ⟨g, o + vn * 6 + 2, none⟩ = some _ := fun u => u.cell c2'
        have k3 : ∀ u : Ext wr, u.w.cell? ⟨g, o + vn * 6 + 3, none⟩ = some _ := fun u => u.cell c3
        have k4 : ∀ u : Ext wr, u.w.cell? ⟨g, o + vn * 6 + 4, none⟩ = some _ := fun u => u.cell c4
        have k5 : ∀ u : Ext wr, u.w.cell? ⟨g, o + vn * 6 + 5, none⟩ = some _ := fun u => u.cell c5
        clear y5 z5 g5 c0 c1' c2' c3 c4 c5
        refine wp_region_seg_at [7, 8] [] [0, 1, 2, 3, 4, 5, 6, 7, 8] [9, 10, 11] 9 (by kernel_rfl) (by kernel_rfl) (by kernel_rfl) ?_
        iterate 7 (refine seg_plain rfl rfl rfl rfl rfl ?_; intro K' hK'; go_big_quiet_op; go_big_quiet_on)
        refine seg_callO (Y := (Int × Option Addr × Nat × Nat) × Int × Int × Int × Option Addr × Nat × Nat) (fun y => .agg #[.int .i64 y.1.1, .slice y.1.2.1 y.1.2.2.1 y.1.2.2.2, .int .i64 y.2.1, .int .i64 y.2.2.1, .int .i64 y.2.2.2.1, .slice y.2.2.2.2.1 y.2.2.2.2.2.1 y.2.2.2.2.2.2]) (fun y u => NdV u (New wr) x (.agg #[.int .i64 y.1.1, .slice y.1.2.1 y.1.2.2.1 y.1.2.2.2, .int .i64 y.2.1, .int .i64 y.2.2.1, .int .i64 y.2.2.2.1, .slice y.2.2.2.2.1 y.2.2.2.2.2.1 y.2.2.2.2.2.2])) (fun _ => []) rfl rfl rfl rfl (fun _ _ _ h hu => h.ext hu) (fun _ => List.nodup_nil) (fun w => by go_simp) (fun w' hu hd => (HC.out w' hu).mono fun e w2 ⟨v, h1, h2, h3⟩ => by
          obtain ⟨ro, rn1, rn2, rn3, rs, rm, rq, rl1, rl2, rl3, rfl⟩ := h2.six
          exact ⟨((ro, rn1, rn2, rn3), rs, rm, rq, rl1, rl2, rl3), h1, h3, h2.mono (fun b hb _ => New.mono hu b hb), fun b hb => by cases hb⟩) ?_
        rintro ⟨⟨ro, rn1, rn2, rn3⟩, rs, rm, rq, rl1, rl2, rl3⟩
        simp only [Act.put, List.setIfInBounds_toArray, List.set_cons_zero, List.set_cons_succ]
        refine seg_opq (Y := Nat) (fun b => .slice (some ⟨b, 0, none⟩) 1 1) (fun b u => u.heap[b]? = some (.cells #[.int .i64 ro, .slice rn1 rn2 rn3, .int .i64 rs, .int .i64 rm, .int .i64 rq, .slice rl1 rl2 rl3] 30 (0, 0))) (fun _ => []) rfl rfl rfl rfl (fun _ _ _ h hu => hu.at h (by simp)) (fun _ => List.nodup_nil) (fun w' post hu hd hp => (congrArg (opqUpon Tryz.prog post) (show _ = Result.ok (Next.value (.slice (some ⟨w'.heap.size, 0, none⟩) 1 1)) (w'.alloc (.cells #[.int .i64 ro, .slice rn1 rn2 rn3, .int .i64 rs, .int .i64 rm, .int .i64 rq, .slice rl1 rl2 rl3] 30)) from by go_simp)).mpr (hp w'.heap.size _ ((Upto.refl [] w').alloc _) (new_at _ _) (fun b hb => by cases hb))) ?_
        intro b8
        simp only [Act.put, List.setIfInBounds_toArray, List.set_cons_zero, List.set_cons_succ]
        intro w10 hg
        have HU10 := Lib.hid hg.up
        have HB8 : Hid (w10.heap[b8]? = some (.cells #[.int .i64 ro, .slice rn1 rn2 rn3, .int .i64 rs, .int .i64 rm, .int .i64 rq, .slice rl1 rl2 rl3] 30 (0, 0))) := Lib.hid hg.hold.1
        have HND : Hid (NdV w10 (New wr) x (.agg #[.int .i64 ro, .slice rn1 rn2 rn3, .int .i64 rs, .int .i64 rm, .int .i64 rq, .slice rl1 rl2 rl3])) := Lib.hid hg.hold.2.1
        simp only [List.drop_succ_cons, List.drop_zero]
        clear hg e0 e1 k0 k1 k2 k3 k4 k5
        have HR10 := Lib.hid (HROW.out.upto HU10.out (by simp))
        have hr10 := HR10.out.row
        rw [hjl] at hr10
        have HRR := Lib.hid hr10
        obtain ⟨i1, hi1, hy0, hy1, hy2⟩ := infoO4'
        have hL7 := HLN.out
        have HA := Lib.hid (fun b5 c5 w5 (ho5 : w5.ownsRow 0 30 6 (.slice b5 (vn + 1) c5) (vn + 1) (cellsN c vn ++ [.int .i64 ro, .slice rn1 rn2 rn3, .int .i64 rs, .int .i64 rm, .int .i64 rq, .slice rl1 rl2 rl3])) (hu5 : Upto (Value.slice va vn vc).ownBlock.toList w10 w5) (hw5 : ∀ g, (Value.slice b5 (vn + 1) c5).ownBlock = some g → (Value.slice va vn vc).ownBlock = some g ∨ w10.heap.size ≤ g) => of_step HI.out HLT.out HWL.out HUP.out HBK.out HROW.out HU10.out HND.out HJL.out HTK.out ho5 hu5 hw5)
        clear hr10 hjl
        go_wp2_with (at_builtin
                     refine wpList_app _ rfl (.tmp 26) (.tmp 33) 28 rfl 30 i1 (.agg #[.int .i64 0, .slice none 0 0, .int .i64 0, .int .i64 0, .int .i64 0, .slice none 0 0]) 6 80 Tryz.underlying28 hi1 hy0 hy1 hy2 rfl (by decide) (.slice va vn vc) vn (cellsN c vn) rfl HRR.out ⟨b8, 0, none⟩ 1 1 [.int .i64 ro, .slice rn1 rn2 rn3, .int .i64 rs, .int .i64 rm, .int .i64 rq, .slice rl1 rl2 rl3] rfl rfl (six_at HB8.out) (by simp [Value.oneCell']) (by unfold maxLen; omega) (by omega) ?_
                     intro b5 c5 w5 ho5 hu5 hw5
                     obtain ⟨hbk5, hI5⟩ := HA.out b5 c5 w5 ho5 hu5 hw5
                     have y5 := cell_of hbk5 5
                     have g5 := free_of hbk5 5
                     simp only [List.getElem?_toArray, List.getElem?_cons_zero, List.getElem?_cons_succ] at y5
                     have HI5 := Lib.hid hI5
                     clear ho5 hu5 hw5 hbk5 hI5)
        go_roundw
        case rel => exact ⟨vn + 1, by omega, by go_num, HI5⟩
        case measure => simp [intOf]; omega
      · obtain rfl : vn = ll := by omega
        have hgeI : ¬ ((vn : Int) < vn) := by omega
        have HROW := Lib.hid hrow
        have HBK := Lib.hid hbk
        have hz2 := HI.out.up.at (HUP.out.at HB2.out (by simp)) (by have h1 := HLT.out; have h2 := HW2.out; simp; omega)
        have HZ2 := Lib.hid hz2
        obtain ⟨p0, p1, p2, p3, p4, p5⟩ := cells6 hbk
        obtain ⟨r0, r1, r2, r3, r4, r5⟩ := cells6 hz2
        obtain ⟨t0, t1, t2, t3, t4, t5⟩ := frees6 hz2
        have hF := of_end (names := names) (P := P) HI.out HLT.out HWL.out HW2.out HUP.out HBN.out HSL.out HZ2.out HROW.out (List.take_of_length_le (by have := HLL.out; omega)) HLL.out
        have HF := Lib.hid hF
        clear hrow hbk hz2 hbox hF
        go_wp2_with fail
        have hst := nd_store HZ2.out (.int .i64 op) (.slice na names.length nc) (.int .i64 so) (.int .i64 nn) (.int .i64 mm) (.slice va vn vc)
        obtain ⟨q0, q1, q2, q3, q4, q5⟩ := cells6 hst
        exact bodyPost_ret (v := .agg #[.int .i64 op, .slice na names.length nc, .int .i64 so, .int .i64 nn, .int .i64 mm, .slice va vn vc]) (by simp [results, Tryz.results16, go_sem, q0, q1, q2, q3, q4, q5]) rfl HF.out

end Go.Proofs.YtbnebkkpmcjmbaaGreatDoor


namespace Go.Proofs.YtbnebkkpmcjmbaaGreatDoor
open Go.RowKit Go.PL Go.Maps
set_option maxRecDepth 100000 in
set_option maxHeartbeats 1600000 in
theorem rank5_calls (a1 : Option Addr) (n1 c1 : Nat) (so nn mm : Int) (a2 : Option Addr) (c2 : Nat) (w : World) : Calls Tryz.prog 26 #[.agg #[.int .i64 5, .slice a1 n1 c1, .int .i64 so, .int .i64 nn, .int .i64 mm, .slice a2 0 c2]] w fun e w' => e = .returned (.int .i64 0) ∧ Upto [] w w' := by
  have HU := Lib.hid ((Upto.refl [] w).alloc (.cells #[.int .i64 5, .slice a1 n1 c1, .int .i64 so, .int .i64 nn, .int .i64 mm, .slice a2 0 c2] 30))
  have HB := Lib.hid (new_at w (.cells #[.int .i64 5, .slice a1 n1 c1, .int .i64 so, .int .i64 nn, .int .i64 mm, .slice a2 0 c2] 30))
  have HBI := Lib.hid (fun u => binds5_calls a1 n1 c1 so nn mm a2 0 c2 u)
  obtain ⟨W, hW⟩ : ∃ W, W = w.alloc (.cells #[.int .i64 5, .slice a1 n1 c1, .int .i64 so, .int .i64 nn, .int .i64 mm, .slice a2 0 c2] 30) := ⟨_, rfl⟩
  rw [← hW] at HU HB
  go_enter Tryz.func26, Tryz.ntmps26
  go_wp2_with fail
  simp only [← hW]
  clear hW
  go_loopw [3, 9] (fun vo vi wr => vo = .int .i64 0 ∧ vi = .int .i64 0 ∧ wr = W) (fun _ _ _ => 0)
  case atStart => exact ⟨rfl, rfl, rfl⟩
  case round =>
    obtain ⟨rfl, rfl, rfl⟩ := hrel
    obtain ⟨x0, x1, x2, x3, x4, x5⟩ := cells6 HB.out
    go_wp2_with fail
    refine (HBI.out _).mono ?_
    rintro e w1 ⟨rfl, hu1⟩
    have HU1 := Lib.hid (HU.out.trans_ext hu1)
    clear hu1
    go_wp2_with fail
    go_ret
    exact ⟨rfl, HU1.out⟩
/-- the operand's six cells, now and later -/
def LfB (w : World) (gl ol : Nat) (a2 : Option Addr) (n2 c2 : Nat) (so nn mm : Int) (a3 : Option Addr) (c3 : Nat) : Prop := w.cell? ⟨gl, ol, none⟩ = some (.int .i64 5) ∧ w.cell? ⟨gl, ol + 1, none⟩ = some (.slice a2 n2 c2) ∧ w.cell? ⟨gl, ol + 2, none⟩ = some (.int .i64 so) ∧ w.cell? ⟨gl, ol + 3, none⟩ = some (.int .i64 nn) ∧ w.cell? ⟨gl, ol + 4, none⟩ = some (.int .i64 mm) ∧ w.cell? ⟨gl, ol + 5, none⟩ = some (.slice a3 0 c3)
theorem LfB.ext {w w' : World} {gl ol : Nat} {a2 : Option Addr} {n2 c2 : Nat} {so nn mm : Int} {a3 : Option Addr} {c3 : Nat} (h : LfB w gl ol a2 n2 c2 so nn mm a3 c3) (hu : Upto [] w w') : LfB w' gl ol a2 n2 c2 so nn mm a3 c3 := by
  have up : ∀ {p : Addr} {u : Value}, w.cell? p = some u → w'.cell? p = some u := fun hp => (hu.cell (World.block_lt_of_cell? w _ hp) (by simp)).trans hp
  obtain ⟨h0, h1, h2, h3, h4, h5⟩ := h
  exact ⟨up h0, up h1, up h2, up h3, up h4, up h5⟩
set_option maxRecDepth 100000 in
set_option maxHeartbeats 1600000 in
theorem rank16_calls (g1 o1 c1 gl ol cl : Nat) (a2 : Option Addr) (n2 c2 : Nat) (so nn mm : Int) (a3 : Option Addr) (c3 : Nat) (w : World) (h : LfB w gl ol a2 n2 c2 so nn mm a3 c3) : Calls Tryz.prog 26 #[.agg #[.int .i64 16, .slice (some ⟨g1, o1, none⟩) 1 c1, .int .i64 0, .int .i64 0, .int .i64 0, .slice (some ⟨gl, ol, none⟩) 1 cl]] w fun e w' => e = .returned (.int .i64 1) ∧ Upto [] w w' := by
  have HBI := Lib.hid (fun u => binds16_calls (some ⟨g1, o1, none⟩) 1 c1 0 0 0 (some ⟨gl, ol, none⟩) 1 cl (by omega) u)
  have HRK := Lib.hid (fun u => rank5_calls a2 n2 c2 so nn mm a3 c3 u)
  obtain ⟨W, hW⟩ : ∃ W, W = w.alloc (.cells #[.int .i64 16, .slice (some ⟨g1, o1, none⟩) 1 c1, .int .i64 0, .int .i64 0, .int .i64 0, .slice (some ⟨gl, ol, none⟩) 1 cl] 30) := ⟨_, rfl⟩
  have HU : Hid (Upto [] w W) := Lib.hid (by rw [hW]; exact (Upto.refl [] w).alloc _)
  have HB : Hid (W.heap[w.heap.size]? = some (.cells #[.int .i64 16, .slice (some ⟨g1, o1, none⟩) 1 c1, .int .i64 0, .int .i64 0, .int .i64 0, .slice (some ⟨gl, ol, none⟩) 1 cl] 30 (0, 0))) := Lib.hid (by rw [hW]; exact new_at w _)
  have HL := Lib.hid (h.ext HU.out)
  clear h
  go_enter Tryz.func26, Tryz.ntmps26
  go_wp2_with fail
  simp only [← hW]
  clear hW
  go_loopw [3, 9] (fun vo vi wr => ∃ j : Nat, j ≤ 1 ∧ vo = .int .i64 0 ∧ vi = .int .i64 j ∧ Hid (Upto [] W wr)) (fun _ vi _ => 1 - (intOf vi).toNat)
  case atStart => exact ⟨0, by omega, rfl, rfl, Lib.hid (Upto.refl _ _)⟩
  case round =>
    obtain ⟨j, hj, rfl, rfl, HI⟩ := hrel
    obtain rfl | rfl : j = 0 ∨ j = 1 := by omega
    · obtain ⟨l0, l1, l2, l3, l4, l5⟩ := HL.out.ext HI.out
      have HA := Lib.hid (HI.out.alloc (.cells #[.int .i64 5, .slice a2 n2 c2, .int .i64 so, .int .i64 nn, .int .i64 mm, .slice a3 0 c3] 30))
      go_wp2_with fail
      refine (HRK.out _).mono ?_
      rintro e w1 ⟨rfl, hu1⟩
      have HU1 := Lib.hid (HA.out.trans_ext hu1)
      clear hu1 l0 l1 l2 l3 l4 l5
      go_wp2_with fail
      exact ⟨⟨1, by omega, rfl, rfl, HU1⟩, by simp [intOf]⟩
    · have HB1 := Lib.hid (HI.out.at HB.out (by simp))
      obtain ⟨x0, x1, x2, x3, x4, x5⟩ := cells6 HB1.out
      go_wp2_with fail
      refine (HBI.out _).mono ?_
      rintro e w1 ⟨rfl, hu1⟩
      have HU1 := Lib.hid ((HU.out.trans_ext HI.out).trans_ext hu1)
      clear hu1
      go_wp2_with fail
      go_ret
      exact ⟨rfl, HU1.out⟩
end Go.Proofs.YtbnebkkpmcjmbaaGreatDoor


namespace Go.Proofs.YtbnebkkpmcjmbaaGreatDoor
open Go.RowKit Go.PL Go.Maps Go.Shelf
set_option maxRecDepth 100000 in
set_option maxHeartbeats 2000000 in
theorem mclone_calls (b : Nat) (es : Array MapEntry) (clock : Nat) (w : World) (hb : w.heap[b]? = some (.map es clock)) :
    Calls Tryz.prog 89 #[.map (some b)] w fun e w' => e = .returned (.map (some w.heap.size)) ∧ w' = w.alloc (.map es clock) := by
  have hq := fun w => run_eql_map_nil_sl (P := Tryz.prog) w 99 _ _ (some b) Tryz.underlying99
  go_enter Tryz.func89, Tryz.ntmps89
  go_wp2
  rw [run_callFunc_extern Tryz.func98 (by kernel_rfl) (by kernel_rfl) (by kernel_rfl) (e := Extern.MapsClone.clone) (by kernel_rfl), run_maps_clone_sl w 99 hb]
  simp only [Result.andThen]
  rw [Oper.upon_value]
  go_wp2
  rw [run_typeAssert_map_sl _ 99 20 _ _ _ Tryz.underlying99]
  simp only [Result.andThen]
  rw [Oper.upon_value]
  go_wp2
  go_ret
  exact ⟨rfl, rfl⟩
end Go.Proofs.YtbnebkkpmcjmbaaGreatDoor


namespace Go.Proofs.YtbnebkkpmcjmbaaGreatDoor
open Go.RowKit Go.PL Go.Maps
set_option maxRecDepth 100000 in
set_option maxHeartbeats 2000000 in
theorem atom_calls (g o c2 : Nat) (so nn mm : Int) (a3 : Option Addr) (n3 c3 : Nat) (b : Nat) (w : World) (h0 : w.cell? ⟨g, o, none⟩ = some (sV [120])) (hlk : ∀ u, Upto [] w u → (Instr.lookup 99 (.map (some b)) (.string ⟨#[120]⟩) true).run Tryz.prog u = .ok (.tuple #[.int .i64 0, .bool false]) u) : Calls Tryz.prog 90 #[.agg #[.int .i64 5, .slice (some ⟨g, o, none⟩) 2 c2, .int .i64 so, .int .i64 nn, .int .i64 mm, .slice a3 n3 c3], .map (some b)] w fun e w' => e = .returned (.agg #[.int .i64 21, .string ⟨#[120]⟩]) ∧ Upto [] w w' := by
  obtain ⟨W, hW⟩ : ∃ W, W = (w.alloc (.cells #[.int .i64 5, .slice (some ⟨g, o, none⟩) 2 c2, .int .i64 so, .int .i64 nn, .int .i64 mm, .slice a3 n3 c3] 30)).alloc (.cells #[.int .i64 0, .string ⟨#[]⟩] 64) := ⟨_, rfl⟩
  have HU : Hid (Upto [] w W) := Lib.hid (by rw [hW]; exact ((Upto.refl [] w).alloc _).alloc _)
  have HB1 : Hid (W.heap[w.heap.size]? = some (.cells #[.int .i64 5, .slice (some ⟨g, o, none⟩) 2 c2, .int .i64 so, .int .i64 nn, .int .i64 mm, .slice a3 n3 c3] 30 (0, 0))) := Lib.hid (by rw [hW]; exact alloc_old (new_at w _) _)
  obtain ⟨x0, x1⟩ := cells2 HB1.out
  have n0 := (HU.out.cell (World.block_lt_of_cell? w _ h0) (by simp)).trans h0
  unfold sV at n0
  have HB2 : Hid (W.heap[w.heap.size + 1]? = some (.cells #[.int .i64 0, .string ⟨#[]⟩] 64 (0, 0))) := Lib.hid (by rw [hW]; exact new_at1 w _ _)
  obtain ⟨y0, y1⟩ := cells2 HB2.out
  obtain ⟨f0, f1⟩ := frees2 HB2.out
  have hl := hlk W HU.out
  clear hlk h0
  go_enter Tryz.func90, Tryz.ntmps90
  go_wp2_with fail
  simp only [← hW]
  clear hW
  go_loopw [23] (fun vi wr => vi = .int .i64 0 ∧ wr = W) (fun _ _ => 0)
  case atStart => exact ⟨rfl, rfl⟩
  case round =>
    obtain ⟨rfl, rfl⟩ := hrel
    go_wp2_with fail
    clear x0 x1 y0 y1 f0 f1 n0 hl
    have hst := set_same (set_same HB2.out 0 (.int .i64 21)) 1 (.string ⟨#[120]⟩)
    simp only [List.setIfInBounds_toArray, List.set_cons_zero, List.set_cons_succ] at hst
    have hup := (HU.out.setCell (p := ⟨w.heap.size + 1, 0, none⟩) (Or.inr (by simp)) (.int .i64 21)).setCell (p := ⟨w.heap.size + 1, 1, none⟩) (Or.inr (by simp)) (.string ⟨#[120]⟩)
    obtain ⟨q0, q1⟩ := cells2 hst
    exact bodyPost_ret (v := .agg #[.int .i64 21, .string ⟨#[120]⟩]) (by simp [results, Tryz.results90, go_sem, q0, q1]) rfl ⟨rfl, hup⟩
end Go.Proofs.YtbnebkkpmcjmbaaGreatDoor


namespace Go.Proofs.YtbnebkkpmcjmbaaGreatDoor
open Go.RowKit Go.PL Go.Maps
set_option maxRecDepth 100000 in
set_option maxHeartbeats 2000000 in
theorem check5_calls (g o c2 : Nat) (so nn mm : Int) (a3 : Option Addr) (n3 c3 : Nat) (b : Nat) (w : World) (h0 : w.cell? ⟨g, o, none⟩ = some (sV [120])) (hlk : ∀ u, Upto [] w u → (Instr.lookup 99 (.map (some b)) (.string ⟨#[120]⟩) true).run Tryz.prog u = .ok (.tuple #[.int .i64 0, .bool false]) u) : Calls Tryz.prog 69 #[.agg #[.int .i64 5, .slice (some ⟨g, o, none⟩) 2 c2, .int .i64 so, .int .i64 nn, .int .i64 mm, .slice a3 n3 c3], .map (some b)] w fun e w' => e = .returned (.agg #[.int .i64 21, .string ⟨#[120]⟩]) ∧ Upto [] w w' := by
  obtain ⟨W, hW⟩ : ∃ W, W = (w.alloc (.cells #[.int .i64 5, .slice (some ⟨g, o, none⟩) 2 c2, .int .i64 so, .int .i64 nn, .int .i64 mm, .slice a3 n3 c3] 30)).alloc (.cells #[.int .i64 0, .string ⟨#[]⟩] 64) := ⟨_, rfl⟩
  have HU : Hid (Upto [] w W) := Lib.hid (by rw [hW]; exact ((Upto.refl [] w).alloc _).alloc _)
  have HB1 : Hid (W.heap[w.heap.size]? = some (.cells #[.int .i64 5, .slice (some ⟨g, o, none⟩) 2 c2, .int .i64 so, .int .i64 nn, .int .i64 mm, .slice a3 n3 c3] 30 (0, 0))) := Lib.hid (by rw [hW]; exact alloc_old (new_at w _) _)
  have HB2 : Hid (W.heap[w.heap.size + 1]? = some (.cells #[.int .i64 0, .string ⟨#[]⟩] 64 (0, 0))) := Lib.hid (by rw [hW]; exact new_at1 w _ _)
  have HAT := Lib.hid (fun u (hu : Upto [] w u) => atom_calls g o c2 so nn mm a3 n3 c3 b u ((hu.cell (World.block_lt_of_cell? w _ h0) (by simp)).trans h0) (fun v hv => hlk v (hu.trans_ext hv)))
  obtain ⟨x0, x1, x2, x3, x4, x5⟩ := cells6 HB1.out
  clear h0 hlk
  go_enter Tryz.func69, Tryz.ntmps69
  go_wp2_with fail
  simp only [← hW]
  clear hW
  refine (HAT.out _ HU.out).mono ?_
  rintro e w1 ⟨rfl, hu1⟩
  have HB3 := Lib.hid (hu1.at HB2.out (by simp))
  have HU1 := Lib.hid (HU.out.trans_ext hu1)
  clear hu1 x0 x1 x2 x3 x4 x5
  obtain ⟨y0, y1⟩ := cells2 HB3.out
  obtain ⟨f0, f1⟩ := frees2 HB3.out
  go_wp2_with fail
  clear y0 y1 f0 f1
  have hst := set_same (set_same HB3.out 0 (.int .i64 21)) 1 (.string ⟨#[120]⟩)
  simp only [List.setIfInBounds_toArray, List.set_cons_zero, List.set_cons_succ] at hst
  have hup := (HU1.out.setCell (p := ⟨w.heap.size + 1, 0, none⟩) (Or.inr (by simp)) (.int .i64 21)).setCell (p := ⟨w.heap.size + 1, 1, none⟩) (Or.inr (by simp)) (.string ⟨#[120]⟩)
  obtain ⟨q0, q1⟩ := cells2 hst
  exact bodyPost_ret (v := .agg #[.int .i64 21, .string ⟨#[120]⟩]) (by simp [results, Tryz.results69, go_sem, q0, q1]) rfl ⟨rfl, hup⟩
end Go.Proofs.YtbnebkkpmcjmbaaGreatDoor


namespace Go.Proofs.YtbnebkkpmcjmbaaGreatDoor
open Go.RowKit Go.PL Go.Maps
set_option maxRecDepth 100000 in
set_option maxHeartbeats 2000000 in
theorem check16_calls (g1 o1 c1 gl ol cl g o c2 : Nat) (so nn mm : Int) (a3 : Option Addr) (c3 : Nat) (b : Nat) (w : World) (hb : w.heap[b]? = some (.map #[] 0)) (hn : w.cell? ⟨g1, o1, none⟩ = some (sV [121])) (h0 : w.cell? ⟨g, o, none⟩ = some (sV [120])) (hl : LfB w gl ol (some ⟨g, o, none⟩) 2 c2 so nn mm a3 c3) : Calls Tryz.prog 69 #[.agg #[.int .i64 16, .slice (some ⟨g1, o1, none⟩) 1 c1, .int .i64 0, .int .i64 0, .int .i64 0, .slice (some ⟨gl, ol, none⟩) 1 cl], .map (some b)] w fun e w' => e = .returned (.agg #[.int .i64 21, .string ⟨#[120]⟩]) ∧ Upto [] w w' := by
  obtain ⟨W, hW⟩ : ∃ W, W = (w.alloc (.cells #[.int .i64 16, .slice (some ⟨g1, o1, none⟩) 1 c1, .int .i64 0, .int .i64 0, .int .i64 0, .slice (some ⟨gl, ol, none⟩) 1 cl] 30)).alloc (.cells #[.int .i64 0, .string ⟨#[]⟩] 64) := ⟨_, rfl⟩
  have HU : Hid (Upto [] w W) := Lib.hid (by rw [hW]; exact ((Upto.refl [] w).alloc _).alloc _)
  have HB1 : Hid (W.heap[w.heap.size]? = some (.cells #[.int .i64 16, .slice (some ⟨g1, o1, none⟩) 1 c1, .int .i64 0, .int .i64 0, .int .i64 0, .slice (some ⟨gl, ol, none⟩) 1 cl] 30 (0, 0))) := Lib.hid (by rw [hW]; exact alloc_old (new_at w _) _)
  have HB2 : Hid (W.heap[w.heap.size + 1]? = some (.cells #[.int .i64 0, .string ⟨#[]⟩] 64 (0, 0))) := Lib.hid (by rw [hW]; exact new_at1 w _ _)
  have HBI := Lib.hid (fun u => binds16_calls (some ⟨g1, o1, none⟩) 1 c1 0 0 0 (some ⟨gl, ol, none⟩) 1 cl (by omega) u)
  have HMB := Lib.hid (HU.out.at hb (by simp))
  have HLB := Lib.hid (fun u (hu : Upto [] w u) => hl.ext hu)
  have HN0 := Lib.hid (fun u (hu : Upto [] w u) => (hu.cell (World.block_lt_of_cell? w _ h0) (by simp)).trans h0)
  obtain ⟨x0, x1, x2, x3, x4, x5⟩ := cells6 HB1.out
  go_enter Tryz.func69, Tryz.ntmps69
  go_wp2_with fail
  simp only [← hW]
  clear hW
  refine (HBI.out _).mono ?_
  rintro e w1 ⟨rfl, hu1⟩
  have HB3 := Lib.hid (hu1.at HB1.out (by simp))
  have HR3 := Lib.hid (hu1.at HB2.out (by simp))
  have HM1 := Lib.hid (hu1.at HMB.out (by simp))
  have HU1 := Lib.hid (HU.out.trans_ext hu1)
  clear hu1 x0 x1 x2 x3 x4 x5
  go_wp2_with fail
  refine (mclone_calls b #[] 0 w1 HM1.out).mono ?_
  rintro e w2 ⟨rfl, rfl⟩
  go_wp2_with fail
  have hm4 := MapL.made Tryz.prog 9 w1
  obtain ⟨W4, hW4⟩ : ∃ W4, W4 = w1.alloc (.map #[] 0) := ⟨_, rfl⟩
  have HWL := Lib.hid HU1.out.size
  have HWB := Lib.hid (lt_of_heap HB3.out)
  have HU4 : Hid (Upto [] w W4) := Lib.hid (by rw [hW4]; exact HU1.out.alloc _)
  have HB4 : Hid (W4.heap[w.heap.size]? = some (.cells #[.int .i64 16, .slice (some ⟨g1, o1, none⟩) 1 c1, .int .i64 0, .int .i64 0, .int .i64 0, .slice (some ⟨gl, ol, none⟩) 1 cl] 30 (0, 0))) := Lib.hid (by rw [hW4]; exact alloc_old HB3.out _)
  have HR4 : Hid (W4.heap[w.heap.size + 1]? = some (.cells #[.int .i64 0, .string ⟨#[]⟩] 64 (0, 0))) := Lib.hid (by rw [hW4]; exact alloc_old HR3.out _)
  have HRB := Lib.hid (lt_of_heap HR3.out)
  rw [← hW4] at hm4
  have HM4 := Lib.hid hm4
  simp only [← hW4]
  clear hW4 hm4
  have hn4 := (HU4.out.cell (World.block_lt_of_cell? w _ hn) (by simp)).trans hn
  unfold sV at hn4
  have e1 : ∀ u : Ext W4, u.w.cell? ⟨w.heap.size, 1, none⟩ = some (.slice (some ⟨g1, o1, none⟩) 1 c1) := fun u => u.cell (cell_of HB4.out 1)
  have e2 : ∀ u : Ext W4, u.w.cell? ⟨w.heap.size, 2, none⟩ = some (.int .i64 0) := fun u => u.cell (cell_of HB4.out 2)
  have en : ∀ u : Ext W4, u.w.cell? ⟨g1, o1, none⟩ = some (.string ⟨#[121]⟩) := fun u => u.cell hn4
  clear hn4
  refine wp_region_seg_at [] [] [0, 1, 2, 3, 4, 5, 6] [7] 7 (by kernel_rfl) (by kernel_rfl) (by kernel_rfl) ?_
  iterate 7 (refine seg_plain rfl rfl rfl rfl rfl ?_; intro K' hK'; go_big_quiet_op; go_big_quiet_on)
  intro w5 hg
  have HU5 := Lib.hid (HU4.out.trans_ext hg.up)
  have hm5 := HM4.out.upto hg.up (by simp)
  have HB5 := Lib.hid (hg.up.at HB4.out (by simp))
  have HR5 := Lib.hid (hg.up.at HR4.out (by simp))
  simp only [List.drop_succ_cons, List.drop_zero]
  clear hg e1 e2 en
  go_wp2_with (refine wpList_insert _ rfl _ _ _ 99 rfl 9 3 lawS Tryz.underlying99 w1.heap.size [] rfl hm5 (.string ⟨#[121]⟩) (.int .i64 0) _ rfl rfl (keyS Tryz.underlying9 (by decide)) (by simp) ?_; intro w6 hm6 hg6; have HU6 := Lib.hid (HU5.out.grown hg6 (fun k hk => by cases hk; exact Or.inr HWL.out)); have HB6 := Lib.hid (((Upto.refl [w1.heap.size] w5).grown hg6 (fun k hk => by cases hk; simp)).at HB5.out (by have := HWB.out; simp; omega)); have HR6 := Lib.hid (((Upto.refl [w1.heap.size] w5).grown hg6 (fun k hk => by cases hk; simp)).at HR5.out (by have := HRB.out; simp; omega)); have HM6 := Lib.hid hm6; clear hm6 hg6; have z5 := cell_of HB6.out 5; simp only [List.getElem?_toArray, List.getElem?_cons_zero, List.getElem?_cons_succ] at z5)
  have HLK : Hid (∀ u, Upto [] w6 u → (Instr.lookup 99 (.map (some w1.heap.size)) (.string ⟨#[120]⟩) true).run Tryz.prog u = .ok (.tuple #[.int .i64 0, .bool false]) u) := Lib.hid (fun u hu => by
    rcases (HM6.out.upto hu (by simp)).look lawS Tryz.underlying99 (z := .int .i64 0) rfl (x := .string ⟨#[120]⟩) (keyS Tryz.underlying9 (by decide)) true with ⟨h1, -⟩ | ⟨v, h1, -⟩
    · exact h1
    · simp at h1)
  have HC5 := Lib.hid (fun u (hu : Upto [] w6 u) => check5_calls g o c2 so nn mm a3 0 c3 w1.heap.size u (HN0.out u (HU6.out.trans_ext hu)) (fun v hv => HLK.out v (hu.trans_ext hv)))
  obtain ⟨l0, l1, l2, l3, l4, l5⟩ := HLB.out _ HU6.out
  clear hl h0 hn hb
  go_loopw [33] (fun vi wr => vi = .int .i64 0 ∧ wr = w6) (fun _ _ => 0)
  case atStart => exact ⟨rfl, rfl⟩
  case round =>
    obtain ⟨rfl, rfl⟩ := hrel
    go_wp2_with fail
    refine (HC5.out _ ((Upto.refl [] _).alloc _)).mono ?_
    rintro e w7 ⟨rfl, hu7⟩
    have HU7 := Lib.hid (((Upto.refl [] _).alloc (.cells #[.int .i64 5, .slice (some ⟨g, o, none⟩) 2 c2, .int .i64 so, .int .i64 nn, .int .i64 mm, .slice a3 0 c3] 30)).trans_ext hu7)
    have HR7 := Lib.hid (HU7.out.at HR6.out (by simp))
    clear hu7 z5 l0 l1 l2 l3 l4 l5
    have HR8 := Lib.hid (alloc_old HR7.out (.cells #[.int .i64 21, .string ⟨#[120]⟩] 64))
    obtain ⟨y0, y1⟩ := cells2 HR8.out
    obtain ⟨f0, f1⟩ := frees2 HR8.out
    go_wp2_with fail
    clear y0 y1 f0 f1
    have hst := set_same (set_same HR8.out 0 (.int .i64 21)) 1 (.string ⟨#[120]⟩)
    simp only [List.setIfInBounds_toArray, List.set_cons_zero, List.set_cons_succ] at hst
    have hup := (((HU6.out.trans_ext HU7.out).alloc (.cells #[.int .i64 21, .string ⟨#[120]⟩] 64)).setCell (p := ⟨w.heap.size + 1, 0, none⟩) (Or.inr (by simp)) (.int .i64 21)).setCell (p := ⟨w.heap.size + 1, 1, none⟩) (Or.inr (by simp)) (.string ⟨#[120]⟩)
    obtain ⟨q0, q1⟩ := cells2 hst
    exact bodyPost_ret (v := .agg #[.int .i64 21, .string ⟨#[120]⟩]) (by simp [results, Tryz.results69, go_sem, q0, q1]) rfl ⟨rfl, hup⟩
end Go.Proofs.YtbnebkkpmcjmbaaGreatDoor


namespace Go.Proofs.YtbnebkkpmcjmbaaGreatDoor
open Go.RowKit Go.PL Go.Maps
set_option maxRecDepth 100000 in
set_option maxHeartbeats 1600000 in
theorem hasc_calls (s : List UInt8) (w : World) (he : Env w) (hmax : s.length ≤ 281474976710656) : Calls Tryz.prog 100 #[.string ⟨s.toArray⟩] w fun e w' => e = .returned (.bool (!identF s)) ∧ Upto [] w w' := by
  have H := Lib.hid (isIdent_calls s w he hmax)
  generalize identF s = b at *
  go_enter Tryz.func100, Tryz.ntmps100
  go_wp2_with fail
  refine H.out.mono ?_
  rintro e w1 ⟨rfl, hu1⟩
  have HU1 := Lib.hid hu1
  clear hu1
  cases b
  · go_wp2_with fail
    go_ret
    exact ⟨rfl, HU1.out⟩
  · go_wp2_with fail
    go_ret
    exact ⟨rfl, HU1.out⟩
set_option maxRecDepth 100000 in
set_option maxHeartbeats 3200000 in
theorem indexf_calls (xs : List (List UInt8)) (a : Option Addr) (c : Nat) (w : World) (he : Env w) (hl : xs.length ≤ 10000000) (hx : ∀ x ∈ xs, x.length ≤ 10000000) (hc : ∀ i x, xs[i]? = some x → ∃ g o, a = some ⟨g, o, none⟩ ∧ w.cell? ⟨g, o + i, none⟩ = some (.string ⟨x.toArray⟩)) :
    Calls Tryz.prog 111 #[.slice a xs.length c, .func (.func 100) #[] #[]] w fun e w' => (∃ k : Int, e = .returned (.int .i64 k) ∧ (0 ≤ k ↔ xs.all identF = false)) ∧ Upto [] w w' := by
  have HE : Hid (∀ u, Upto [] w u → Env u) := Lib.hid (fun u hu => he.ext hu)
  have HC := Lib.hid hc
  have HX := Lib.hid hx
  generalize hB : xs.all identF = B at *
  have HB := Lib.hid hB
  clear hB
  generalize hL : xs.length = L at *
  have HL := Lib.hid hL
  have hL0 : (0 : Int) ≤ L := by omega
  have hL1 : (L : Int) ≤ 10000000 := by omega
  clear he hc hx hL
  go_enter Tryz.func111, Tryz.ntmps111
  go_wp2_with fail
  go_loopw [8] (fun i wr => ∃ j : Nat, j ≤ L ∧ i = .int .i64 j ∧ Hid (∀ q x, q < j → xs[q]? = some x → identF x = true) ∧ Hid (Upto [] w wr)) (fun i _ => L - (intOf i).toNat)
  case atStart => exact ⟨0, by omega, rfl, Lib.hid (fun q x hq => by omega), Lib.hid (Upto.refl _ _)⟩
  case round =>
    obtain ⟨j, hj, rfl, HA, HU⟩ := hrel
    have hj0 : (0 : Int) ≤ j := by omega
    rcases Nat.lt_or_ge j L with hlt | hge
    · have hltI : (j : Int) < L := by omega
      obtain ⟨x, hx⟩ : ∃ x, xs[j]? = some x := ⟨_, List.getElem?_eq_getElem (by have := HL.out; omega)⟩
      have hmem := List.mem_of_getElem? hx
      obtain ⟨g, o, rfl, c0⟩ := HC.out j x hx
      replace c0 := up_cell HU.out c0
      have HK := Lib.hid (hasc_calls x wr (HE.out wr HU.out) (by have := HX.out x hmem; omega))
      have hbb : identF x = true ∨ identF x = false := by cases identF x <;> simp
      rcases hbb with hb | hb
      · rw [hb] at HK
        have HA2 : Hid (∀ q x, q < j + 1 → xs[q]? = some x → identF x = true) := Lib.hid (fun q y hq hy => by
          by_cases hqj : q = j
          · subst hqj
            rw [hx] at hy
            cases hy
            exact hb
          · exact HA.out q y (by omega) hy)
        clear hx hmem hb
        go_wp2_with fail
        refine HK.out.mono ?_
        rintro e w5 ⟨rfl, hu5⟩
        have HU5 := Lib.hid (HU.out.trans_ext hu5)
        clear hu5
        go_wp2_with fail
        go_roundw
        case rel => exact ⟨j + 1, by omega, by go_num, HA2, HU5⟩
        case measure => simp [intOf]; omega
      · rw [hb] at HK
        have HF : Hid (B = false) := Lib.hid (by
          rw [← HB.out, Bool.eq_false_iff]
          intro h
          have := List.all_eq_true.1 h x hmem
          rw [hb] at this
          cases this)
        clear hx hmem hb
        go_wp2_with fail
        refine HK.out.mono ?_
        rintro e w5 ⟨rfl, hu5⟩
        have HU5 := Lib.hid (HU.out.trans_ext hu5)
        clear hu5
        go_wp2_with fail
        go_ret
        exact ⟨⟨(j : Int), rfl, fun _ => HF.out, fun _ => hj0⟩, HU5.out⟩
    · have hgeI : ¬ (j : Int) < L := by omega
      have HF : Hid (B = true) := Lib.hid (by
        rw [← HB.out, List.all_eq_true]
        intro x hx
        obtain ⟨q, hq, rfl⟩ := List.mem_iff_getElem.1 hx
        exact HA.out q _ (by have := HL.out; omega) (List.getElem?_eq_getElem hq))
      go_wp2_with fail
      go_ret
      exact ⟨⟨-1, rfl, fun h => absurd h (by decide), fun h => by rw [HF.out] at h; cases h⟩, HU.out⟩
set_option maxRecDepth 100000 in
set_option maxHeartbeats 1600000 in
theorem containsf_calls (xs : List (List UInt8)) (a : Option Addr) (c : Nat) (w : World) (he : Env w) (hl : xs.length ≤ 10000000) (hx : ∀ x ∈ xs, x.length ≤ 10000000) (hc : ∀ i x, xs[i]? = some x → ∃ g o, a = some ⟨g, o, none⟩ ∧ w.cell? ⟨g, o + i, none⟩ = some (.string ⟨x.toArray⟩)) :
    Calls Tryz.prog 99 #[.slice a xs.length c, .func (.func 100) #[] #[]] w fun e w' => e = .returned (.bool (!xs.all identF)) ∧ Upto [] w w' := by
  have H := Lib.hid (indexf_calls xs a c w he hl hx hc)
  clear hc hx hl he
  generalize hL : xs.length = L at *
  generalize xs.all identF = b at *
  clear hL
  go_enter Tryz.func99, Tryz.ntmps99
  go_wp2_with fail
  refine H.out.mono ?_
  rintro e w1 ⟨⟨k, rfl, hk⟩, hu1⟩
  have HU1 := Lib.hid hu1
  clear hu1
  cases b
  · have h0 : (0 : Int) ≤ k := hk.2 rfl
    clear hk
    go_wp2_with fail
    go_ret
    exact ⟨rfl, HU1.out⟩
  · have h0 : ¬ (0 : Int) ≤ k := fun h => by have := hk.1 h; cases this
    clear hk
    go_wp2_with fail
    go_ret
    refine ⟨?_, HU1.out⟩
    show Ending.returned (.bool (decide (0 ≤ k))) = _
    rw [decide_eq_false (by omega)]
    rfl
end Go.Proofs.YtbnebkkpmcjmbaaGreatDoor


namespace Go.Proofs.YtbnebkkpmcjmbaaGreatDoor
open Go.RowKit Go.PL Go.Maps

def sortW (s : Int) : List UInt8 := if s = 0 then [118, 101, 114, 116, 101, 120] else if s = 1 then [101, 100, 103, 101] else if s = 2 then [115, 101, 116] else if s = 3 then [101, 100, 103, 101, 115] else []
end Go.Proofs.YtbnebkkpmcjmbaaGreatDoor


namespace Go.Proofs.YtbnebkkpmcjmbaaGreatDoor
open Go.RowKit Go.PL Go.Maps
set_option maxRecDepth 100000 in
set_option maxHeartbeats 1600000 in
theorem sname_calls (s : Int) (w : World) (hs : SEnv w) : Calls Tryz.prog 85 #[.int .i64 s] w fun e w' => e = .returned (.string ⟨(sortW s).toArray⟩) ∧ Upto [] w w' := by
  have HU := Lib.hid (Upto.refl [] w)
  by_cases h0 : s < 0
  · have e : sortW s = [] := by unfold sortW; rw [if_neg (by omega), if_neg (by omega), if_neg (by omega), if_neg (by omega)]
    rw [e]
    clear e hs
    go_enter Tryz.func85, Tryz.ntmps85
    go_wp2_with fail
    go_ret
    exact ⟨rfl, HU.out⟩
  by_cases h1 : (4 : Int) ≤ s
  · have e : sortW s = [] := by unfold sortW; rw [if_neg (by omega), if_neg (by omega), if_neg (by omega), if_neg (by omega)]
    rw [e]
    clear e hs
    go_enter Tryz.func85, Tryz.ntmps85
    go_wp2_with fail
    go_ret
    exact ⟨rfl, HU.out⟩
  have hc : s = 0 ∨ s = 1 ∨ s = 2 ∨ s = 3 := by omega
  have c0 := hs.c0
  have c1 := hs.c1
  have c2 := hs.c2
  have c3 := hs.c3
  clear hs h0 h1
  rcases hc with rfl | rfl | rfl | rfl
  · go_enter Tryz.func85, Tryz.ntmps85
    go_wp2_with fail
    go_ret
    exact ⟨rfl, HU.out⟩
  · go_enter Tryz.func85, Tryz.ntmps85
    go_wp2_with fail
    go_ret
    exact ⟨rfl, HU.out⟩
  · go_enter Tryz.func85, Tryz.ntmps85
    go_wp2_with fail
    go_ret
    exact ⟨rfl, HU.out⟩
  · go_enter Tryz.func85, Tryz.ntmps85
    go_wp2_with fail
    go_ret
    exact ⟨rfl, HU.out⟩
/-- a list of variables, element by element -/
theorem vars_get {w : World} {P : Nat → Prop} {v : Value} {f : List (List UInt8 × Int)} (h : VarsV w P v f) : ∃ a c, v = .slice a f.length c ∧ ∀ i x, f[i]? = some x → ∃ g o, a = some ⟨g, o, none⟩ ∧ w.cell? ⟨g, o + i * 2, none⟩ = some (.string ⟨x.1.toArray⟩) ∧ w.cell? ⟨g, o + i * 2 + 1, none⟩ = some (.int .i64 x.2) := by
  obtain ⟨a, c, rfl, hg⟩ := SlP.get h
  refine ⟨a, c, rfl, fun i x hi => ?_⟩
  obtain ⟨g, o, rfl, h1⟩ := hg _ _ (vars_at hi).1
  obtain ⟨g2, o2, e, h2⟩ := hg _ _ (vars_at hi).2
  simp at e
  obtain ⟨rfl, rfl⟩ := e
  exact ⟨g, o, rfl, h1, h2⟩
theorem vars_slice {w : World} {P : Nat → Prop} {a : Option Addr} {n c : Nat} {f : List (List UInt8 × Int)} (h : VarsV w P (.slice a n c) f) : ∀ i x, f[i]? = some x → ∃ g o, a = some ⟨g, o, none⟩ ∧ w.cell? ⟨g, o + i * 2, none⟩ = some (.string ⟨x.1.toArray⟩) ∧ w.cell? ⟨g, o + i * 2 + 1, none⟩ = some (.int .i64 x.2) := by
  obtain ⟨a', c', e, hg⟩ := vars_get h
  cases e
  exact hg
theorem right_vars {nm : List UInt8 → Bool} {q : Qn} {k : Nat} (h8 : ¬ 8 < q.free.length) (h0 : k ≠ 0) (h : varsE nm q.free [] = k) : rightF nm q = k := by
  unfold rightF
  rw [if_neg h8, h, if_pos h0]
theorem right_body {nm : List UInt8 → Bool} {q : Qn} (h8 : ¬ 8 < q.free.length) (h : varsE nm q.free [] = 0) : rightF nm q = checkF nm q.body := by
  unfold rightF
  rw [if_neg h8, h]
  rfl
end Go.Proofs.YtbnebkkpmcjmbaaGreatDoor


namespace Go.Proofs.YtbnebkkpmcjmbaaGreatDoor
open Go.RowKit Go.PL Go.Maps

theorem QnV.open {w : World} {P : Nat → Prop} {q : Qn} {v : Value} (h : QnV w P q v) : ∃ (f1 : Option Addr) (f3 : Nat) (op : Int) (a1 : Option Addr) (n1 c1 : Nat) (so n m : Int) (a2 : Option Addr) (n2 c2 : Nat), v = .agg #[.slice f1 q.free.length f3, .int .i64 op, .slice a1 n1 c1, .int .i64 so, .int .i64 n, .int .i64 m, .slice a2 n2 c2] ∧ VarsV w P (.slice f1 q.free.length f3) q.free ∧ NdV w P q.body (.agg #[.int .i64 op, .slice a1 n1 c1, .int .i64 so, .int .i64 n, .int .i64 m, .slice a2 n2 c2]) := by
  obtain ⟨vf, a0, a1, a2, a3, a4, a5, rfl, h1, h2⟩ := h
  obtain ⟨fa, fc, rfl⟩ := h1.len
  obtain ⟨op, x1, x2, x3, so, n, m, y1, y2, y3, hs⟩ := h2.six
  simp only [Value.agg.injEq, Array.mk.injEq, List.cons.injEq, and_true] at hs
  obtain ⟨rfl, rfl, rfl, rfl, rfl, rfl⟩ := hs
  exact ⟨fa, fc, op, x1, x2, x3, so, n, m, y1, y2, y3, rfl, h1, h2⟩

end Go.Proofs.YtbnebkkpmcjmbaaGreatDoor

