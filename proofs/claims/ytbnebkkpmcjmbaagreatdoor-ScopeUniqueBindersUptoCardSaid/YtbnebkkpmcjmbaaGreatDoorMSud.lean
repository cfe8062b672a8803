/- Texts merged, in build order: Gg, Tb, Tc, Td, Te, Tf, Gh, Gi, Hb, Tg, Th, Ti, Tm, Tn, Gk, FmP6, Ck, Zo, Ke, Kh, Ki, Kj, Kk, Z6, Fm31, Zs, Fm30, Ud, Wh, Wi. -/
import Derived.Test.YtbnebkkpmcjmbaaGreatDoorMSuc
import Derived.Test.YtbnebkkpmcjmbaaGreatDoorRows
import Derived.WalkKit
import Derived.WalkSpells
import Derived.WalkLawsBesides
import Derived.Maps.OwnSet
import Derived.Lib.Hide
import Derived.Laws.BytesArg
import Derived.Deep.QuietTactic
import Derived.BigQuiet
import Derived.Test.YtbnebkkpmcjmbaaGreatDoorProg
import Derived.Shelf.Small.Strs
import Derived.Shelf.LaysM
import Derived.Shelf.Strings.SplitShaped
import Derived.Deep.DeepCutAuto
import Derived.Deep.CutBlock
import Derived.Lib.Strings
import Derived.Lib.Walk
import Derived.Lib.ConvBytes
import Derived.Lib.ParseIntBMem
import Derived.Lib.AtoiErrMem
import Derived.Lib.BufferWrite
import Derived.Lib.UnsafeStr
import Derived.Lib.IfaceEq
import Derived.Laws.MakeOwn
import Derived.Laws.Strings3
import Derived.Laws.Closers25
import Derived.Laws.Closers25b
import Derived.RegionTactic
import Derived.Deep.RegionWith
import Derived.BigCall
import Derived.BigGuard
import Derived.Lib.AppendIntMem
import Derived.Carry
import Derived.OrdersHeld
import Derived.Deep.RegionHeld3
import Derived.Shelf.Strconv.Itoa3
import Derived.Shelf.Slices.Turned
import Derived.Shelf.Slices.Clone
import Derived.Deep.RegionLaw
import Derived.Lib.ItoaNum
import Derived.RangeFuncNested
import Derived.RangeFuncBound
import Derived.RangeFuncCalls
import Derived.RangeFuncLeaves
import Derived.RangeFuncBox
import Derived.Shelf.Abstract
import Derived.OwnWalkIn
import Derived.TacticsInMore
import Derived.LoopNIn
import Derived.LoopIn
import Derived.Laws.EntriesVeiled
import Derived.Laws.AppendOwn
import Derived.Shelf.SlMaps.Clone
namespace Go.Proofs.YtbnebkkpmcjmbaaGreatDoor
open Go.RowKit Go.PL Go.Maps
set_option maxRecDepth 100000 in
set_option maxHeartbeats 3200000 in
theorem sclone2_calls (xs : List Value) (a : Option Addr) (n c : Nat) (w : World) (P : Nat → Prop) (hn : xs.length = n) (hN : n ≤ 10000000) (hx : ∀ u ∈ xs, u.oneCell' = true) (h : SlP w P (.slice a n c) n xs) : Calls Tryz.prog 73 #[.slice a n c] w fun e w' => ∃ a' c', e = .returned (.slice a' n c') ∧ w'.ownsRow 0 9 1 (.slice a' n c') n xs ∧ (∀ g, (Value.slice a' n c').ownBlock = some g → w.heap.size ≤ g) ∧ Upto [] w w' := by
  have q22 : ∀ (w : World) (a : Option Addr) (n c n' c' : Nat), (binOp .eql 22 (.slice a n c) (.slice none n' c')).run Tryz.prog w = .ok (.bool a.isNone) w := fun w a n c n' c' => Lib.run_eql_slice_nil w _ _ a n c n' c' Tryz.underlying22
  cases a with
  | none =>
    have hn0 : n = 0 := by
      rcases h with ⟨h0, -⟩ | ⟨g, o, c, h0, -⟩
      · exact h0
      · cases h0
    subst hn0
    have hx0 : xs = [] := List.eq_nil_of_length_eq_zero hn
    subst hx0
    clear h hx
    go_enter Tryz.func73, Tryz.ntmps73
    go_wp2
    go_ret
    exact ⟨none, 0, rfl, World.ownsRow_nil _ 0 9 1, fun g hg => by simp [Value.ownBlock] at hg, Upto.refl _ _⟩
  | some ad =>
    obtain ⟨i0, hi, hz0, hz1, hz2⟩ := info9'
    have A : Aside (∀ j u, xs[j]? = some u → w.cell? (ad.add j) = some u) := by
      intro j u hj
      rcases h with ⟨-, h0, -⟩ | ⟨g, o, c, h0, -, hc⟩
      · subst h0; cases hj
      · simp only [Value.slice.injEq, Option.some.injEq] at h0
        obtain ⟨h0, -, -⟩ := h0
        subst h0
        rw [Addr.add_lit]
        exact hc j u hj
    have HX := Lib.hid hx
    have HN := Lib.hid hn
    clear h hx hn
    go_enter Tryz.func73, Tryz.ntmps73
    go_wp2_with (at_builtin; refine wpList_append_own _ rfl _ _ 22 rfl w.heap.size 9 i0 (.string { data := #[] }) 1 16 Tryz.underlying22 hi hz0 hz1 hz2 rfl (by decide) _ _ _ rfl (World.ownsRow_made w #[] 0 (Nat.le_refl _) (Nat.zero_le _) rfl) ad n c xs rfl ?qc1 ?qc2 ?qc3 ?qc4 ?qc5 ?qc6 ?_)
    case qc1 => have := HN.out; omega
    case qc2 =>
      intro j u hj
      exact Lib.cell?_alloc_some _ (A.out j u hj)
    case qc3 => exact HX.out
    case qc4 => unfold maxLen; omega
    case qc5 => omega
    case qc6 => simp
    intro v' w1 hown hgrow _
    obtain ⟨a', c', rfl, -⟩ := ownsRow_len hown
    have hup : Upto [] w w1 := ((Upto.refl [] w).alloc _).grown hgrow (by intro k hk; simp [Value.ownBlock] at hk; omega)
    have hown2 : w1.ownsRow w.heap.size 9 1 (.slice a' n c') n xs := by simpa using hown
    have hnu : ∀ g, (Value.slice a' n c').ownBlock = some g → w.heap.size ≤ g := fun g hg => by
      rcases hown2.2 with ⟨e, -⟩ | ⟨g', cap, cur, e, hge, hh, -⟩
      · rw [e] at hg; cases hg
      · rw [e] at hg
        simp [Value.ownBlock] at hg
        subst hg
        exact hge
    have hsl : w1.ownsRow 0 9 1 (.slice a' n c') n xs ∧ (∀ g, (Value.slice a' n c').ownBlock = some g → w.heap.size ≤ g) := ⟨⟨hown2.1, hown2.2.imp id (fun ⟨g, cap, cur, h1, h2, h3⟩ => ⟨g, cap, cur, h1, Nat.zero_le _, h3⟩)⟩, hnu⟩
    clear hown hgrow
    have HF := Lib.hid (And.intro hsl hup)
    clear hsl hup
    go_wp2
    go_ret
    exact ⟨a', c', by simp, HF.out.1.1, HF.out.1.2, HF.out.2⟩
theorem usesP_app (bs : List (List UInt8)) (x : List UInt8) : ∀ (l out : List (List UInt8)), usesP bs (l ++ [x]) out = if bs.contains x = false ∧ (usesP bs l out).contains x = false then usesP bs l out ++ [x] else usesP bs l out
  | [], out => by simp [usesP]
  | y :: ys, out => by
    rw [List.cons_append]
    show usesP bs (ys ++ [x]) _ = _
    rw [usesP_app bs x ys]
    rfl
theorem usesP_len (bs l out : List (List UInt8)) : (usesP bs l out).length ≤ out.length + l.length := by
  rw [usesP_eq]
  have := fold_len (l.filter (fun y => !bs.contains y)) out
  have h2 := List.length_filter_le (fun y => !bs.contains y) l
  omega
mutual
theorem freeP_len : ∀ (n : Nd) (bs out : List (List UInt8)), (freeP n bs out).length ≤ out.length + nmsF n
  | .mk op nms _ _ _ l, bs, out => by
    unfold freeP nmsF
    have h1 := freesP_len l (if bindsF op nms.length = true then bs ++ [nms.headD []] else bs) (usesP bs (usesF op nms) out)
    have h2 := usesP_len bs (usesF op nms) out
    have h3 := uses_len op nms
    omega
theorem freesP_len : ∀ (l : List Nd) (bs out : List (List UInt8)), (freesP l bs out).length ≤ out.length + nmssF l
  | [], bs, out => by unfold freesP; omega
  | x :: xs, bs, out => by
    unfold freesP nmssF
    have h1 := freesP_len xs bs (freeP x bs out)
    have h2 := freeP_len x bs out
    omega
end
theorem freesP_app (x : Nd) : ∀ (l : List Nd) (bs out : List (List UInt8)), freesP (l ++ [x]) bs out = freeP x bs (freesP l bs out)
  | [], bs, out => by simp [freesP]
  | y :: ys, bs, out => by
    rw [List.cons_append]
    unfold freesP
    exact freesP_app x ys bs _
/-- a list that grows in a block of its own, or in new ones -/
structure OwR (w0 : World) (vo : Value) (ls : List (List UInt8)) (v : Value) (wr : World) : Prop where
  row : wr.ownsRow 0 9 1 v ls.length (ls.map sV)
  up : Upto vo.ownBlock.toList w0 wr
  wh : ∀ g, v.ownBlock = some g → vo.ownBlock = some g ∨ w0.heap.size ≤ g
theorem OwR.start {w0 wr : World} {vo : Value} {ls : List (List UInt8)} (h : w0.ownsRow 0 9 1 vo ls.length (ls.map sV)) (hu : Upto [] w0 wr) : OwR w0 vo ls vo wr := ⟨ownsRow_upto h hu (by simp), hu.mono (by simp), fun _ hg => Or.inl hg⟩
theorem OwR.ext {w0 wr wr' : World} {vo v : Value} {ls : List (List UInt8)} (h : OwR w0 vo ls v wr) (hu : Upto [] wr wr') : OwR w0 vo ls v wr' := ⟨ownsRow_upto h.row hu (by simp), h.up.trans_ext hu, h.wh⟩
theorem OwR.slp {w0 wr : World} {vo v : Value} {ls : List (List UInt8)} (h : OwR w0 vo ls v wr) : SlP wr (fun _ => True) v ls.length (ls.map sV) := SlP.of_row h.row (fun _ _ => trivial)
theorem OwR.on {w0 wr wr' : World} {vo v v' : Value} {ls ls' : List (List UInt8)} (h : OwR w0 vo ls v wr) (hr : wr'.ownsRow 0 9 1 v' ls'.length (ls'.map sV)) (hu : Upto v.ownBlock.toList wr wr') (hw : ∀ g, v'.ownBlock = some g → v.ownBlock = some g ∨ wr.heap.size ≤ g) : OwR w0 vo ls' v' wr' :=
  ⟨hr, h.up.trans hu (fun k hk => (h.wh k (Option.mem_toList.1 hk)).imp (fun h2 => Option.mem_toList.2 h2) id), fun g hg => (hw g hg).elim (h.wh g) (fun h2 => Or.inr (Nat.le_trans h.up.size h2))⟩
theorem OwR.app {w0 wr wr' : World} {vo v : Value} {ls : List (List UInt8)} {x : List UInt8} {n : Nat} {b' : Option Addr} {c' : Nat} (h : OwR w0 vo ls v wr) (hn : ls.length = n) (ho : wr'.ownsRow 0 9 1 (.slice b' (n + 1) c') (n + 1) (ls.map sV ++ [sV x])) (hu : Upto v.ownBlock.toList wr wr') (hw : ∀ g, (Value.slice b' (n + 1) c').ownBlock = some g → v.ownBlock = some g ∨ wr.heap.size ≤ g) : OwR w0 vo (ls ++ [x]) (.slice b' (n + 1) c') wr' := by
  subst hn
  refine h.on ?_ hu hw
  rw [List.map_append]
  simpa using ho
theorem OwR.rebase {w0 w2 wr : World} {vo v : Value} {ls : List (List UInt8)} (h : OwR w2 vo ls v wr) (hu : Upto [] w0 w2) : OwR w0 vo ls v wr := ⟨h.row, (hu.mono (by simp)).trans_same h.up, fun g hg => (h.wh g hg).imp id (fun h2 => Nat.le_trans hu.size h2)⟩
/-- behind a call of free -/
def FoPost (vo : Value) (ls : List (List UInt8)) (w : World) (e : Ending) (w' : World) : Prop := ∃ v, e = .returned v ∧ OwR w vo ls v w'
theorem own_lt {w : World} {vo : Value} {n : Nat} {xs : List Value} (h : w.ownsRow 0 9 1 vo n xs) : ∀ g ∈ vo.ownBlock.toList, g < w.heap.size := fun g hg => by
  obtain ⟨cur, hh⟩ := ownsRow_block h (Option.mem_toList.1 hg)
  exact lt_of_heap hh
/-- the operands of a node, later -/
theorem ls_later {S : List Nat} {w u : World} {P : Nat → Prop} {op so nn mm : Int} {nms : List (List UInt8)} {l : List Nd} {a1 a2 : Option Addr} {c1 c2 : Nat} (h : NdV w P (.mk op nms so nn mm l) (.agg #[.int .i64 op, .slice a1 nms.length c1, .int .i64 so, .int .i64 nn, .int .i64 mm, .slice a2 l.length c2])) (hu : Upto S w u) (hp : ∀ b, P b → IsC w b → b ∉ S) : LsAt u P a2 l := by
  obtain ⟨a3, c3, a4, c4, e, -, hg⟩ := (h.upto hu hp).open
  simp only [Value.agg.injEq, Array.mk.injEq, List.cons.injEq, Value.slice.injEq, and_true, true_and] at e
  obtain ⟨-, rfl, -⟩ := e
  exact hg
set_option maxRecDepth 100000 in
set_option maxHeartbeats 12800000 in
theorem free_calls : ∀ (k : Nat) (nd : Nd), sizeF nd ≤ k → k ≤ 100000 → goodN nd → ∀ (v : Value) (w : World) (P : Nat → Prop), NdV w P nd v → ∀ (Q : Nat → Prop) (bs : List (List UInt8)) (vb : Value), SlP w Q vb bs.length (bs.map sV) → ∀ (ls : List (List UInt8)) (vo : Value), w.ownsRow 0 9 1 vo ls.length (ls.map sV) → (∀ b, P b → b < w.heap.size ∧ b ∉ vo.ownBlock.toList) → (∀ b, Q b → b < w.heap.size ∧ b ∉ vo.ownBlock.toList) → bs.length + sizeF nd ≤ 200000 → ls.length + nmsF nd ≤ 200000 → Calls Tryz.prog 54 #[v, vb, vo] w (FoPost vo (freeP nd bs ls) w)
  | 0, nd, hk, _, _, _, _, _, _, _, _, _, _, _, _, _, _, _, _, _ => by have := sizeF_pos nd; omega
  | k + 1, .mk op nms so nn mm l, hk, hk7, hgd, v, w, P, h, Q, bs, vb, hb, ls, vo, ho, hP, hQ, hbl, hnm => by
    obtain ⟨a1, c1, a2, c2, rfl, hs, hg⟩ := h.open
    obtain ⟨ba, bc, rfl⟩ := hb.len
    obtain ⟨oa, oc, rfl, -⟩ := ownsRow_len ho
    unfold goodN at hgd
    have HGD := Lib.hid hgd
    have hsz : sizesF l ≤ k := by simp only [sizeF] at hk; omega
    have HSZ := Lib.hid hsz
    unfold nmsF at hnm
    have HNM := Lib.hid hnm
    have HBL : Hid (bs.length + 1 + sizesF l ≤ 200000) := Lib.hid (by simp only [sizeF] at hbl; omega)
    have HE : Hid (freeP (.mk op nms so nn mm l) bs ls = freesP l (if bindsF op nms.length = true then bs ++ [nms.headD []] else bs) (usesP bs (usesF op nms) ls)) := Lib.hid (by simp only [freeP])
    have HLEN : Hid (l.length ≤ 100000) := Lib.hid (by have := sizes_len l; omega)
    have hlen := HLEN.out
    have HBI := Lib.hid (fun u => binds_calls op a1 nms.length c1 so nn mm a2 l.length c2 u)
    have HUS := Lib.hid (fun u (hu : Upto [] w u) => uses_calls P op nms a1 c1 so nn mm a2 l.length c2 u (fun h => hgd.1 (Or.inl h)) (hs.ext hu) (by omega))
    have HIH := Lib.hid (fun (x : Nd) (hx : x ∈ l) (hs : sizeF x ≤ k) => free_calls k x hs (by omega) (goodsN_mem HGD.out.2 x hx))
    generalize hobE : (Value.slice oa ls.length oc).ownBlock.toList = ob at *
    have HOB := Lib.hid hobE
    have HLT : Hid (∀ g ∈ ob, g < w.heap.size) := Lib.hid (by rw [← hobE]; exact own_lt ho)
    obtain ⟨W, hW⟩ : ∃ W, W = w.alloc (.cells #[.int .i64 op, .slice a1 nms.length c1, .int .i64 so, .int .i64 nn, .int .i64 mm, .slice a2 l.length c2] 30) := ⟨_, rfl⟩
    have HU1 : Hid (Upto [] w W) := Lib.hid (by rw [hW]; exact (Upto.refl [] w).alloc _)
    have HB1 : Hid (W.heap[w.heap.size]? = some (.cells #[.int .i64 op, .slice a1 nms.length c1, .int .i64 so, .int .i64 nn, .int .i64 mm, .slice a2 l.length c2] 30 (0, 0))) := Lib.hid (by rw [hW]; exact new_at w _)
    have HPN : Hid (∀ u, Upto ob w u → LsAt u P a2 l) := Lib.hid (fun u hu => ls_later h hu (fun b hb _ => (hP b hb).2))
    have HPU : Hid (∀ u, Upto ob w u → ∀ (x : Nd) (y : Value), NdV w P x y → NdV u P x y) := Lib.hid (fun u hu x y hx => hx.upto hu (fun b hb _ => (hP b hb).2))
    have HSN : Hid (∀ u, Upto ob w u → SlP u P (.slice a1 nms.length c1) nms.length (nms.map sV)) := Lib.hid (fun u hu => hs.upto hu (fun b hb _ => (hP b hb).2))
    have HSB : Hid (∀ u, Upto ob w u → SlP u Q (.slice ba bs.length bc) bs.length (bs.map sV)) := Lib.hid (fun u hu => hb.upto hu (fun b hb _ => (hQ b hb).2))
    have HP2 := Lib.hid hP
    have HQ2 := Lib.hid hQ
    have HO := Lib.hid ho
    have HUL : Hid ((usesF op nms).length ≤ nms.length) := Lib.hid (uses_len op nms)
    have HNL : Hid (bindsF op nms.length = true → 0 < nms.length) := Lib.hid (fun hb => by unfold bindsF at hb; simp at hb; omega)
    have HND : Hid (0 < nms.length → nms[0]? = some (nms.headD [])) := Lib.hid (fun h0 => by cases nms with
      | nil => simp at h0
      | cons x r => rfl)
    generalize hbb : bindsF op nms.length = bb at *
    generalize hnm0 : nms.headD [] = nm at *
    generalize hlu : usesF op nms = lu at *
    have HLU := Lib.hid hlu
    obtain ⟨x0, x1, x2, x3, x4, x5⟩ := cells6 HB1.out
    obtain ⟨i0, hi0, hz0, hz1, hz2⟩ := info9'
    have HI0 := Lib.hid hi0
    have HZ0 := Lib.hid hz0
    have HZ1 := Lib.hid hz1
    have HZ2 := Lib.hid hz2
    generalize hnl : nms.length = nl at *
    have HNN := Lib.hid hnl
    generalize hll : l.length = ll at *
    have HLL := Lib.hid hll
    generalize hbn : bs.length = bn at *
    have HBN := Lib.hid hbn
    have hL0 : (0 : Int) ≤ ll := by omega
    have hL1 : (ll : Int) ≤ 100000 := by omega
    have hbn0 : (0 : Int) ≤ bn := by omega
    have hbn1 : (bn : Int) ≤ 200000 := by have := HBL.out; omega
    clear h hg hs hsz hll hlen hk hgd hbb hnm0 hlu hnl hnm hb ho hP hQ hbl hobE hbn hi0 hz0 hz1 hz2
    go_enter Tryz.func54, Tryz.ntmps54
    go_wp2_with fail
    simp only [← hW]
    clear hW
    go_wp2_with fail
    refine (HUS.out _ HU1.out).mono ?_
    rintro e w2 ⟨vu, rfl, hsu, hu2⟩
    rw [HLU.out] at hsu
    obtain ⟨au, cu, rfl⟩ := hsu.len
    have HU2 := Lib.hid (HU1.out.trans_ext hu2)
    have HB2 := Lib.hid (hu2.at HB1.out (by simp))
    have HSU : Hid (∀ u, Upto ob w2 u → SlP u P (.slice au lu.length cu) lu.length (lu.map sV)) := Lib.hid (fun u hu => hsu.upto hu (fun b hb _ => (HP2.out b hb).2))
    have HST := Lib.hid (OwR.start (ownsRow_upto HO.out HU2.out (by simp)) (Upto.refl [] w2))
    generalize hln : lu.length = n at *
    have HLN := Lib.hid hln
    have hn0 : (0 : Int) ≤ n := by omega
    have hn1 : (n : Int) ≤ 1000000 := by have := HUL.out; have := HNM.out; omega
    clear hu2 hsu x0 x1 x2 x3 x4 x5 hln
    go_wp2_with fail
    go_loopw [2, 14] (fun s i wr => ∃ (j m : Nat) (va : Option Addr) (vc : Nat), j ≤ n ∧ i = .int .i64 j ∧ s = .slice va m vc ∧ Hid (OwR w2 (.slice oa ls.length oc) (usesP bs (lu.take j) ls) (.slice va m vc) wr ∧ m = (usesP bs (lu.take j) ls).length)) (fun _ i _ => n - (intOf i).toNat)
    case atStart => exact ⟨0, _, oa, oc, by omega, rfl, rfl, Lib.hid ⟨by simpa [usesP] using HST.out, by simp [usesP]⟩⟩
    case round =>
      obtain ⟨j, m, va, vc, hj, rfl, rfl, HR⟩ := hrel
      have HU : Hid (Upto ob w2 wr) := Lib.hid (by rw [← HOB.out]; exact HR.out.1.up)
      have hj0 : (0 : Int) ≤ j := by omega
      have HUW : Hid (Upto ob w wr) := Lib.hid ((HU2.out.mono (by simp)).trans_same HU.out)
      rcases Nat.lt_or_ge j n with hlt | hge
      · obtain ⟨y, hy⟩ : ∃ y, lu[j]? = some y := ⟨_, List.getElem?_eq_getElem (by have := HLN.out; omega)⟩
        obtain ⟨g, o, rfl, hcell⟩ := slp_cell (HSU.out wr HU.out) HLN.out j y hy
        have hc := hcell wr (Upto.refl _ _)
        have hltI : (j : Int) < n := by omega
        have HNX : Hid (usesP bs (lu.take (j + 1)) ls = if bs.contains y = false ∧ (usesP bs (lu.take j) ls).contains y = false then usesP bs (lu.take j) ls ++ [y] else usesP bs (lu.take j) ls) := Lib.hid (by rw [take_app1 lu j y hy]; exact usesP_app bs y _ _)
        have HLL2 : Hid ((usesP bs (lu.take j) ls).length ≤ 200000) := Lib.hid (by have h1 := usesP_len bs (lu.take j) ls; have h2 := HLN.out; have h3 := List.length_take_le j lu; have h4 := HNM.out; have h5 := HUL.out; omega)
        have HCB := Lib.hid (containsS_calls bs y (.slice ba bn bc) wr Q (by have := HSB.out wr HUW.out; rw [HBN.out]; exact this) (by have := HBN.out; omega))
        have HCO := Lib.hid (containsS_calls (usesP bs (lu.take j) ls) y (.slice va m vc) wr _ HR.out.1.slp (by have := HLL2.out; omega))
        generalize hq : usesP bs (lu.take j) ls = lq at *
        have HMM := Lib.hid HR.out.2
        have hm1 : (m : Int) ≤ 200000 := by have := HLL2.out; have := HMM.out; omega
        have hm0 : (0 : Int) ≤ m := by omega
        clear hcell hy hq
        go_wp2_with fail
        refine HCB.out.mono ?_
        rintro e w3 ⟨rfl, rfl⟩
        cases hcb : bs.contains y with
        | true =>
          have HNY : Hid (usesP bs (lu.take (j + 1)) ls = lq) := Lib.hid (by rw [HNX.out, hcb]; simp)
          clear hcb
          go_wp2_with fail
          go_roundw
          case rel => exact ⟨j + 1, m, va, vc, by omega, by go_num, rfl, Lib.hid (by rw [HNY.out]; exact HR.out)⟩
          case measure => simp [intOf]; omega
        | false =>
          go_wp2_with fail
          refine HCO.out.mono ?_
          rintro e w4 ⟨rfl, rfl⟩
          cases hco : lq.contains y with
          | true =>
            have HNY : Hid (usesP bs (lu.take (j + 1)) ls = lq) := Lib.hid (by rw [HNX.out, hco]; simp)
            clear hcb hco
            go_wp2_with fail
            go_roundw
            case rel => exact ⟨j + 1, m, va, vc, by omega, by go_num, rfl, Lib.hid (by rw [HNY.out]; exact HR.out)⟩
            case measure => simp [intOf]; omega
          | false =>
            have HNY : Hid (usesP bs (lu.take (j + 1)) ls = lq ++ [y]) := Lib.hid (by rw [HNX.out, hcb, hco]; simp)
            have HT := Lib.hid (HR.out.1.ext ((Upto.refl [] _).alloc (.cells #[.string ⟨y.toArray⟩] 9)))
            have hrow := HT.out.row
            rw [← HMM.out] at hrow
            have hsrc := cells_at (l := [sV y]) (new_at w4 (.cells #[.string ⟨y.toArray⟩] 9))
            clear hcb hco
            go_wp2_with (at_builtin; refine wpList_app _ rfl (.tmp 28) (.tmp 30) 22 rfl 9 i0 (.string ⟨#[]⟩) 1 16 Tryz.underlying22 HI0.out HZ0.out HZ1.out HZ2.out rfl (by decide) (.slice va m vc) m _ rfl hrow ⟨w4.heap.size, 0, none⟩ 1 1 [sV y] rfl rfl hsrc (by simp [Value.oneCell', sV]) (by unfold maxLen; omega) (by omega) ?_; intro vb vd w5 ho5 hu5 hw5; have HM5 := Lib.hid (HT.out.app HMM.out.symm ho5 hu5 hw5); clear hrow hsrc ho5 hu5 hw5)
            rw [show (j : Int) + 1 = ((j + 1 : Nat) : Int) from rfl]
            exact ⟨⟨j + 1, m + 1, vb, vd, by omega, rfl, rfl, Lib.hid ⟨by rw [HNY.out]; exact HM5.out, by rw [HNY.out, List.length_append, HMM.out]; rfl⟩⟩, meas_up (by omega) rfl⟩
      · obtain rfl : j = n := by omega
        have hgeI : ¬ (j : Int) < j := by omega
        have HT : Hid (lu.take j = lu) := Lib.hid (by rw [← HLN.out, List.take_length])
        rw [HT.out] at HR
        have HB3 := Lib.hid (HU.out.at HB2.out (by intro hm; have := HLT.out _ hm; omega))
        have HO3 := Lib.hid (HR.out.1.rebase HU2.out)
        have HMM := Lib.hid HR.out.2
        have HL1 : Hid ((usesP bs lu ls).length ≤ ls.length + nl) := Lib.hid (by have h1 := usesP_len bs lu ls; have h2 := HUL.out; have h3 := HLN.out; omega)
        generalize hls1 : usesP bs lu ls = ls1 at *
        clear hls1 HR
        obtain ⟨x0, x1, x2, x3, x4, x5⟩ := cells6 HB3.out
        go_wp2_with fail
        refine (HBI.out _).mono ?_
        rintro e w5 ⟨rfl, hu5⟩
        have HB5 := Lib.hid (hu5.at HB3.out (by simp))
        have HO5 := Lib.hid (HO3.out.ext hu5)
        have HU5 := Lib.hid (HUW.out.trans_ext hu5)
        have HV5 := Lib.hid hu5
        clear hu5 x0 x1 x2 x3 x4 x5
        cases bb with
        | false =>
          have HE2 : Hid ((if false = true then bs ++ [nm] else bs) = bs) := Lib.hid rfl
          rw [HE2.out] at HE
          obtain ⟨w6, hw6⟩ : ∃ w6, w6 = w5 := ⟨_, rfl⟩
          have HB6 : Hid _ := HB5
          have HO6 := HO5
          have HSB6 : Hid (SlP w5 Q (.slice ba bn bc) bs.length (bs.map sV)) := Lib.hid (by rw [HBN.out]; exact HSB.out w5 HU5.out)
          have HQ6 : Hid (∀ b, Q b → b < w5.heap.size ∧ b ∉ (Value.slice va m vc).ownBlock.toList) := Lib.hid (fun b hb => ⟨Nat.lt_of_lt_of_le (HQ2.out b hb).1 HU5.out.size, fun hm => by
            rcases HO5.out.wh b (Option.mem_toList.1 hm) with h1 | h1
            · exact (HQ2.out b hb).2 (by rw [← HOB.out]; exact Option.mem_toList.2 h1)
            · have := (HQ2.out b hb).1; omega⟩)
          have HBS : Hid (bs.length + sizesF l ≤ 200000) := Lib.hid (by have := HBL.out; have := HBN.out; omega)
          rw [← hw6] at HB6 HO6 HSB6 HQ6
          simp only [← hw6]
          clear hw6
          have x5 := cell_of HB6.out 5
          simp only [List.getElem?_toArray, List.getElem?_cons_zero, List.getElem?_cons_succ] at x5
          go_wp2_with fail
          clear x5
          go_loopw [2, 46] (fun s i wr => ∃ (q m2 : Nat) (vb : Option Addr) (vd : Nat), q ≤ ll ∧ i = .int .i64 q ∧ s = .slice vb m2 vd ∧ Hid (OwR w6 (.slice va m vc) (freesP (l.take q) bs ls1) (.slice vb m2 vd) wr ∧ m2 = (freesP (l.take q) bs ls1).length)) (fun _ i _ => ll - (intOf i).toNat)
          case atStart => exact ⟨0, _, va, vc, by omega, rfl, rfl, Lib.hid ⟨by simpa [freesP] using OwR.start HO6.out.row (Upto.refl [] w6), by simpa [freesP] using HMM.out⟩⟩
          case round =>
            obtain ⟨q, m2, vb, vd, hq, rfl, rfl, HR⟩ := hrel
            have hq0 : (0 : Int) ≤ q := by omega
            have HON := Lib.hid (HO6.out.on HR.out.1.row HR.out.1.up HR.out.1.wh)
            have HUX : Hid (Upto ob w wr) := Lib.hid (by rw [← HOB.out]; exact HON.out.up)
            rcases Nat.lt_or_ge q ll with hlt | hge
            · obtain ⟨x, hx⟩ : ∃ x, l[q]? = some x := ⟨_, List.getElem?_eq_getElem (by have := HLL.out; omega)⟩
              obtain ⟨g, o, xo, xn1, xn2, xn3, xs, xm, xq, xl1, xl2, xl3, rfl, d0, d1, d2, d3, d4, d5, hnx⟩ := HPN.out wr HUX.out q x hx
              have hua : Upto [] wr (wr.alloc (.cells #[.int .i64 xo, .slice xn1 xn2 xn3, .int .i64 xs, .int .i64 xm, .int .i64 xq, .slice xl1 xl2 xl3] 30)) := (Upto.refl [] wr).alloc _
              have HSZX := Lib.hid (sizesF_take l q x hx)
              have HNMX := Lib.hid (nmss_take l q x hx)
              have HFL := Lib.hid (freesP_len (l.take q) bs ls1)
              have HC := Lib.hid (HIH.out x (List.mem_of_getElem? hx) (by have := HSZ.out; have := HSZX.out; omega) _ _ P (hnx.ext hua) Q bs (.slice ba bn bc) ((HSB6.out.upto HR.out.1.up (fun b hb _ => (HQ6.out b hb).2)).ext hua) (freesP (l.take q) bs ls1) (.slice vb m2 vd) (ownsRow_upto HR.out.1.row hua (by simp))
                (fun b hb => ⟨by have h1 := (HP2.out b hb).1; have h2 := HUX.out.size; have h3 := hua.size; omega, fun hm => by
                  rcases HON.out.wh b (Option.mem_toList.1 hm) with h1 | h1
                  · exact (HP2.out b hb).2 (by rw [← HOB.out]; exact Option.mem_toList.2 h1)
                  · have := (HP2.out b hb).1; omega⟩)
                (fun b hb => ⟨by have h1 := (HQ6.out b hb).1; have h2 := HR.out.1.up.size; have h3 := hua.size; omega, fun hm => by
                  rcases HR.out.1.wh b (Option.mem_toList.1 hm) with h1 | h1
                  · exact (HQ6.out b hb).2 (Option.mem_toList.2 h1)
                  · have := (HQ6.out b hb).1; omega⟩)
                (by have h1 := HBS.out; have h2 := HSZX.out; omega) (by have h1 := HFL.out; have h2 := HNMX.out; have h3 := HNM.out; have h4 := HL1.out; have h5 := nmss_take_le l q; omega))
              have HRA := Lib.hid (HR.out.1.ext hua)
              have hltI : (q : Int) < ll := by omega
              have HNX : Hid (freesP (l.take (q + 1)) bs ls1 = freeP x bs (freesP (l.take q) bs ls1)) := Lib.hid (by rw [take_app1 l q x hx]; exact freesP_app x _ _ _)
              clear hua hnx hx
              go_wp2_with fail
              refine HC.out.mono ?_
              rintro e w7 ⟨v7, rfl, ho7⟩
              have HR7 := Lib.hid (HRA.out.on ho7.row ho7.up ho7.wh)
              obtain ⟨a7, c7, rfl, -⟩ := ownsRow_len ho7.row
              clear ho7
              go_wp2_with fail
              go_roundw
              case rel => exact ⟨q + 1, _, a7, c7, by omega, by go_num, rfl, Lib.hid (by rw [HNX.out]; exact ⟨HR7.out, rfl⟩)⟩
              case measure => simp [intOf]; omega
            · obtain rfl : q = ll := by omega
              have hgeI : ¬ (q : Int) < q := by omega
              have HTT : Hid (l.take q = l) := Lib.hid (by rw [← HLL.out, List.take_length])
              rw [HTT.out] at HON
              go_wp2_with fail
              go_ret
              unfold FoPost
              rw [HE.out]
              exact ⟨_, rfl, HON.out⟩
        | true =>
          have HE2 : Hid ((if true = true then bs ++ [nm] else bs) = bs ++ [nm]) := Lib.hid rfl
          rw [HE2.out] at HE
          have hnl0 := HNL.out rfl
          have hnl1 : (0 : Int) < nl := by omega
          obtain ⟨gn, on, rfl, hcn⟩ := slp_cell (HSN.out w5 HU5.out) HNN.out 0 nm (HND.out hnl0)
          have e1 : ∀ u : Ext w5, u.w.cell? ⟨w.heap.size, 1, none⟩ = some (.slice (some ⟨gn, on, none⟩) nl c1) := fun u => u.cell (cell_of HB5.out 1)
          have en : ∀ u : Ext w5, u.w.cell? ⟨gn, on, none⟩ = some (.string ⟨nm.toArray⟩) := fun u => hcn u.w u.up
          have HCL := Lib.hid (fun u (hu : Upto [] w5 u) => sclone2_calls (bs.map sV) ba bn bc u Q (by rw [List.length_map, HBN.out]) (by omega) (by simp [Value.oneCell', sV]) (by have := (HSB.out w5 HU5.out).ext hu; exact this))
          clear hcn
          go_wp2_with fail
          refine wp_region_seg_at [1] [6] [0, 1, 2, 3, 4, 5, 6] [7, 8] 7 (by kernel_rfl) (by kernel_rfl) (by kernel_rfl) ?_
          with_reducible refine seg_plain (o := ?o1) ?hi1 ?hA1 ?hC1 ?hp1 ?hw1 ?h1
          case hi1 => rfl
          case hA1 => rfl
          case hC1 => rfl
          case hp1 => rfl
          case hw1 => kernel_rfl
          intro K' hK'
          go_big_quiet_op
          go_big_quiet_on
          refine seg_callO (Y := Option Addr × Nat) (fun y => .slice y.1 bn y.2) (fun y u => u.ownsRow 0 9 1 (.slice y.1 bn y.2) bn (bs.map sV) ∧ ∀ g, (Value.slice y.1 bn y.2).ownBlock = some g → w5.heap.size ≤ g) (fun _ => []) rfl rfl rfl rfl (fun _ _ _ h hu => ⟨ownsRow_upto h.1 hu (by simp), h.2⟩) (fun _ => List.nodup_nil) (fun w => by go_simp) (fun w' hu hd => (HCL.out w' hu).mono fun e w2 ⟨a', c', h1, h2, h3, h4⟩ => ⟨(a', c'), h1, h4, ⟨h2, fun g hg => Nat.le_trans hu.size (h3 g hg)⟩, fun b hb => by cases hb⟩) ?_
          rintro ⟨za, zc⟩
          simp only [Act.put, List.setIfInBounds_toArray, List.set_cons_zero, List.set_cons_succ]
          with_reducible refine seg_plain (o := ?o2) ?hi2 ?hA2 ?hC2 ?hp2 ?hw2 ?h2
          case hi2 => rfl
          case hA2 => rfl
          case hC2 => rfl
          case hp2 => rfl
          case hw2 => kernel_rfl
          intro K' hK'
          go_big_quiet_op
          go_big_quiet_on
          with_reducible refine seg_plain (o := ?o3) ?hi3 ?hA3 ?hC3 ?hp3 ?hw3 ?h3
          case hi3 => rfl
          case hA3 => rfl
          case hC3 => rfl
          case hp3 => rfl
          case hw3 => kernel_rfl
          intro K' hK'
          go_big_quiet_op
          go_big_quiet_on
          with_reducible refine seg_plain (o := ?o4) ?hi4 ?hA4 ?hC4 ?hp4 ?hw4 ?h4
          case hi4 => rfl
          case hA4 => rfl
          case hC4 => rfl
          case hp4 => rfl
          case hw4 => kernel_rfl
          intro K' hK'
          go_big_quiet_op
          go_big_quiet_on
          with_reducible refine seg_plain (o := ?o5) ?hi5 ?hA5 ?hC5 ?hp5 ?hw5 ?h5
          case hi5 => rfl
          case hA5 => rfl
          case hC5 => rfl
          case hp5 => rfl
          case hw5 => kernel_rfl
          intro K' hK'
          go_big_quiet_op
          go_big_quiet_on
          refine seg_made (.cells #[.string ⟨nm.toArray⟩] 9) (fun b => .slice (some ⟨b, 0, none⟩) 1 1) rfl rfl rfl (fun w => by go_simp) ?_
          intro b8
          simp only [Act.put, List.setIfInBounds_toArray, List.set_cons_zero, List.set_cons_succ]
          intro w9 hg
          have HU9 := Lib.hid hg.up
          have HB8 : Hid (w9.heap[b8]? = some (.cells #[.string ⟨nm.toArray⟩] 9 (0, 0))) := Lib.hid hg.hold.1
          have HZR : Hid (w9.ownsRow 0 9 1 (.slice za bn zc) bn (bs.map sV) ∧ ∀ g, (Value.slice za bn zc).ownBlock = some g → w5.heap.size ≤ g) := Lib.hid hg.hold.2.1
          simp only [List.drop_succ_cons, List.drop_zero]
          have hrow := HZR.out.1
          have hsrc := cells_at (l := [sV nm]) HB8.out
          clear hg e1 en
          go_wp2_with (at_builtin; refine wpList_app _ rfl (.tmp 36) (.tmp 41) 22 rfl 9 i0 (.string ⟨#[]⟩) 1 16 Tryz.underlying22 HI0.out HZ0.out HZ1.out HZ2.out rfl (by decide) (.slice za bn zc) bn _ rfl hrow ⟨b8, 0, none⟩ 1 1 [sV nm] rfl rfl hsrc (by simp [Value.oneCell', sV]) (by unfold maxLen; omega) (by omega) ?_; intro vb vd w6 ho6 hu6 hw6; have HRO := Lib.hid (And.intro ho6 (And.intro hu6 hw6)); have HUP6 : Hid (Upto [] w5 w6) := Lib.hid (HU9.out.trans hu6 (fun k hk => Or.inr (HZR.out.2 k (Option.mem_toList.1 hk)))); have HB6 := Lib.hid (HUP6.out.at HB5.out (by simp)); have x5 := cell_of HB6.out 5; simp only [List.getElem?_toArray, List.getElem?_cons_zero, List.getElem?_cons_succ] at x5; clear hrow hsrc ho6 hu6 hw6)
          have HO6 := Lib.hid (HO5.out.ext HUP6.out)
          have HSB6 : Hid (SlP w6 (fun b => w5.heap.size ≤ b ∧ b < w6.heap.size) (.slice vb (bn + 1) vd) (bs ++ [nm]).length ((bs ++ [nm]).map sV)) := Lib.hid (by
            have h1 : w6.ownsRow 0 9 1 (.slice vb (bn + 1) vd) (bs ++ [nm]).length ((bs ++ [nm]).map sV) := by
              rw [List.length_append, List.map_append, HBN.out]
              exact HRO.out.1
            exact SlP.of_row h1 (fun g hg => ⟨by
              rcases HRO.out.2.2 g hg with h2 | h2
              · exact HZR.out.2 g h2
              · exact Nat.le_trans HU9.out.size h2, own_lt h1 g (Option.mem_toList.2 hg)⟩))
          have HQ6 : Hid (∀ b, (w5.heap.size ≤ b ∧ b < w6.heap.size) → b < w6.heap.size ∧ b ∉ (Value.slice va m vc).ownBlock.toList) := Lib.hid (fun b hb => ⟨hb.2, fun hm => by
            have := own_lt HO5.out.row b hm
            omega⟩)
          have HBS : Hid ((bs ++ [nm]).length + sizesF l ≤ 200000) := Lib.hid (by have := HBL.out; have := HBN.out; rw [List.length_append]; simp; omega)
          clear x5
          go_loopw [2, 46] (fun s i wr => ∃ (q m2 : Nat) (vb : Option Addr) (vd : Nat), q ≤ ll ∧ i = .int .i64 q ∧ s = .slice vb m2 vd ∧ Hid (OwR w6 (.slice va m vc) (freesP (l.take q) (bs ++ [nm]) ls1) (.slice vb m2 vd) wr ∧ m2 = (freesP (l.take q) (bs ++ [nm]) ls1).length)) (fun _ i _ => ll - (intOf i).toNat)
          case atStart => exact ⟨0, _, va, vc, by omega, rfl, rfl, Lib.hid ⟨by simpa [freesP] using OwR.start HO6.out.row (Upto.refl [] w6), by simpa [freesP] using HMM.out⟩⟩
          case round =>
            obtain ⟨q, m2, vb, vd, hq, rfl, rfl, HR⟩ := hrel
            have hq0 : (0 : Int) ≤ q := by omega
            have HON := Lib.hid (HO6.out.on HR.out.1.row HR.out.1.up HR.out.1.wh)
            have HUX : Hid (Upto ob w wr) := Lib.hid (by rw [← HOB.out]; exact HON.out.up)
            rcases Nat.lt_or_ge q ll with hlt | hge
            · obtain ⟨x, hx⟩ : ∃ x, l[q]? = some x := ⟨_, List.getElem?_eq_getElem (by have := HLL.out; omega)⟩
              obtain ⟨g, o, xo, xn1, xn2, xn3, xs, xm, xq, xl1, xl2, xl3, rfl, d0, d1, d2, d3, d4, d5, hnx⟩ := HPN.out wr HUX.out q x hx
              have hua : Upto [] wr (wr.alloc (.cells #[.int .i64 xo, .slice xn1 xn2 xn3, .int .i64 xs, .int .i64 xm, .int .i64 xq, .slice xl1 xl2 xl3] 30)) := (Upto.refl [] wr).alloc _
              have HSZX := Lib.hid (sizesF_take l q x hx)
              have HNMX := Lib.hid (nmss_take l q x hx)
              have HFL := Lib.hid (freesP_len (l.take q) (bs ++ [nm]) ls1)
              have HC := Lib.hid (HIH.out x (List.mem_of_getElem? hx) (by have := HSZ.out; have := HSZX.out; omega) _ _ P (hnx.ext hua) (fun b => w5.heap.size ≤ b ∧ b < w6.heap.size) (bs ++ [nm]) _ ((HSB6.out.upto HR.out.1.up (fun b hb _ => (HQ6.out b hb).2)).ext hua) (freesP (l.take q) (bs ++ [nm]) ls1) (.slice vb m2 vd) (ownsRow_upto HR.out.1.row hua (by simp))
                (fun b hb => ⟨by have h1 := (HP2.out b hb).1; have h2 := HUX.out.size; have h3 := hua.size; omega, fun hm => by
                  rcases HON.out.wh b (Option.mem_toList.1 hm) with h1 | h1
                  · exact (HP2.out b hb).2 (by rw [← HOB.out]; exact Option.mem_toList.2 h1)
                  · have := (HP2.out b hb).1; omega⟩)
                (fun b hb => ⟨by have h1 := (HQ6.out b hb).1; have h2 := HR.out.1.up.size; have h3 := hua.size; omega, fun hm => by
                  rcases HR.out.1.wh b (Option.mem_toList.1 hm) with h1 | h1
                  · exact (HQ6.out b hb).2 (Option.mem_toList.2 h1)
                  · have := (HQ6.out b hb).1; omega⟩)
                (by have h1 := HBS.out; have h2 := HSZX.out; omega) (by have h1 := HFL.out; have h2 := HNMX.out; have h3 := HNM.out; have h4 := HL1.out; have h5 := nmss_take_le l q; omega))
              have HRA := Lib.hid (HR.out.1.ext hua)
              have hltI : (q : Int) < ll := by omega
              have HNX : Hid (freesP (l.take (q + 1)) (bs ++ [nm]) ls1 = freeP x (bs ++ [nm]) (freesP (l.take q) (bs ++ [nm]) ls1)) := Lib.hid (by rw [take_app1 l q x hx]; exact freesP_app x _ _ _)
              clear hua hnx hx
              go_wp2_with fail
              refine HC.out.mono ?_
              rintro e w7 ⟨v7, rfl, ho7⟩
              have HR7 := Lib.hid (HRA.out.on ho7.row ho7.up ho7.wh)
              obtain ⟨a7, c7, rfl, -⟩ := ownsRow_len ho7.row
              clear ho7
              go_wp2_with fail
              go_roundw
              case rel => exact ⟨q + 1, _, a7, c7, by omega, by go_num, rfl, Lib.hid (by rw [HNX.out]; exact ⟨HR7.out, rfl⟩)⟩
              case measure => simp [intOf]; omega
            · obtain rfl : q = ll := by omega
              have hgeI : ¬ (q : Int) < q := by omega
              have HTT : Hid (l.take q = l) := Lib.hid (by rw [← HLL.out, List.take_length])
              rw [HTT.out] at HON
              go_wp2_with fail
              go_ret
              unfold FoPost
              rw [HE.out]
              exact ⟨_, rfl, HON.out⟩
end Go.Proofs.YtbnebkkpmcjmbaaGreatDoor


namespace Go.Proofs.YtbnebkkpmcjmbaaGreatDoor
open Go.RowKit Go.PL Go.Maps
theorem NmT.of_row {w : World} {nms : List (List UInt8)} {a : Option Addr} {c n lo : Nat} (h : w.ownsRow 0 9 1 (.slice a n c) n (nms.map sV)) (hn : nms.length = n) (hlo : ∀ g, (Value.slice a n c).ownBlock = some g → lo ≤ g) : NmT w nms (.slice a n c) lo w.heap.size := by
  subst hn
  rcases h.2 with ⟨e, h0⟩ | ⟨g, cap, cur, e, _, hh, hnc, _, _, ht⟩
  · simp only [Value.slice.injEq] at e
    exact Or.inl ⟨List.eq_nil_of_length_eq_zero e.2.1, a, c, by rw [e.2.1]⟩
  · simp only [Value.slice.injEq] at e
    obtain ⟨rfl, -, rfl⟩ := e
    refine Or.inr ⟨g, 0, c, cur, 9, rfl, by simpa using hnc, hlo g rfl, lt_of_heap hh, hh, fun j x hj => ?_⟩
    have h1 : (nms.map sV)[j]? = some (sV x) := by rw [List.getElem?_map, hj]; rfl
    rw [← ht, List.getElem?_take] at h1
    rw [Nat.zero_add]
    split at h1
    · simpa using h1
    · cases h1
/-- the operands so far, in a row of one's own; f: each operand's blocks -/
structure TRow (w0 w : World) (B : Nat) (c : Nat → Nat → Value) (v : Value) (ms : List Nd) : Prop where
  row : w.ownsRow 0 30 6 v ms.length (cellsN c ms.length)
  own : ∀ g, v.ownBlock = some g → w0.heap.size ≤ g ∧ g ≠ B
  kd : ∃ f : Nat → Nat × Nat, (∀ i x, ms[i]? = some x → OwT w x (.agg #[c i 0, c i 1, c i 2, c i 3, c i 4, c i 5]) (f i).1 (f i).2 ∧ w0.heap.size ≤ (f i).1 ∧ (f i).1 ≤ (f i).2 ∧ (f i).2 ≤ w.heap.size ∧ ∀ g, v.ownBlock = some g → g < (f i).1 ∨ (f i).2 ≤ g) ∧ ∀ i j, i < j → j < ms.length → (f i).2 ≤ (f j).1
theorem TRow.upto {w0 w w' : World} {S : List Nat} {B : Nat} {c : Nat → Nat → Value} {v : Value} {ms : List Nd} (h : TRow w0 w B c v ms) (hu : Upto S w w') (hS : ∀ k ∈ S, k < w0.heap.size) : TRow w0 w' B c v ms := by
  obtain ⟨f, h1, h2⟩ := h.kd
  refine ⟨ownsRow_upto h.row hu (fun g hg hm => by have := (h.own g hg).1; have := hS g hm; omega), h.own, f, fun i x hx => ?_, h2⟩
  obtain ⟨k1, k2, k3, k4, k5⟩ := h1 i x hx
  exact ⟨k1.same _ _ _ _ (SameIn.upto hu k4 (fun b hb => Or.inl (by have := hS b hb; omega))), k2, k3, Nat.le_trans k4 hu.size, k5⟩
theorem TRow.app {w0 w w3 w5 : World} {B : Nat} {c : Nat → Nat → Value} {v : Value} {ms : List Nd} {m : Nd} {v0 v1 v2 v3 v4 v5 : Value} {b' : Option Addr} {c' k : Nat} (h : TRow w0 w B c v ms) (hk : w.heap.size ≤ k) (_hk3 : k ≤ w3.heap.size) (h03 : w0.heap.size ≤ w.heap.size) (hB : B < w0.heap.size) (h3 : Upto [] w w3)
    (hm : ∃ q, k ≤ q ∧ q ≤ w3.heap.size ∧ OwT w3 m (.agg #[v0, v1, v2, v3, v4, v5]) k q) (ho : w5.ownsRow 0 30 6 (.slice b' (ms.length + 1) c') (ms.length + 1) (cellsN c ms.length ++ [v0, v1, v2, v3, v4, v5])) (hu : Upto v.ownBlock.toList w3 w5)
    (hw : ∀ g, (Value.slice b' (ms.length + 1) c').ownBlock = some g → v.ownBlock = some g ∨ w3.heap.size ≤ g) : TRow w0 w5 B (addC c ms.length v0 v1 v2 v3 v4 v5) (.slice b' (ms.length + 1) c') (ms ++ [m]) := by
  obtain ⟨f, h1, h2⟩ := h.kd
  obtain ⟨q, hkq, hq3, hmt⟩ := hm
  have hold : ∀ g, v.ownBlock = some g → g < w.heap.size := fun g hg => by
    obtain ⟨cur, hh⟩ := ownsRow_block h.row hg
    exact lt_of_heap hh
  refine ⟨?_, ?_, fun i => if i < ms.length then f i else (k, q), ?_, ?_⟩
  · rw [List.length_append, List.length_singleton, cellsN_add]
    exact ho
  · intro g hg
    rcases hw g hg with h4 | h4
    · exact h.own g h4
    · have := h3.size
      exact ⟨by omega, by omega⟩
  · intro i x hi
    by_cases hlt : i < ms.length
    · rw [List.getElem?_append_left hlt] at hi
      obtain ⟨k1, k2, k3, k4, k5⟩ := h1 i x hi
      simp only [if_pos hlt]
      have hs1 : SameIn w w3 (f i).1 (f i).2 := SameIn.upto h3 k4 (by simp)
      have hs2 : SameIn w3 w5 (f i).1 (f i).2 := SameIn.upto hu (Nat.le_trans k4 h3.size) (fun b hb => (k5 b (Option.mem_toList.1 hb)))
      have hx := ((k1.same _ _ _ _ hs1).same _ _ _ _ hs2)
      refine ⟨by simpa [addC, Nat.ne_of_lt hlt] using hx, k2, k3, Nat.le_trans k4 (Nat.le_trans h3.size hu.size), fun g hg => ?_⟩
      rcases hw g hg with h4 | h4
      · exact k5 g h4
      · have := h3.size
        exact Or.inr (by omega)
    · rw [List.getElem?_append_right (by omega)] at hi
      cases hd : i - ms.length with
      | zero =>
        rw [hd] at hi
        simp at hi
        subst hi
        have hie : i = ms.length := by omega
        subst hie
        simp only [Nat.lt_irrefl, if_false]
        have hs2 : SameIn w3 w5 k q := SameIn.upto hu hq3 (fun b hb => Or.inl (by have := hold b (Option.mem_toList.1 hb); omega))
        have hx := hmt.same _ _ _ _ hs2
        refine ⟨by simpa [addC] using hx, by omega, hkq, Nat.le_trans hq3 hu.size, fun g hg => ?_⟩
        rcases hw g hg with h4 | h4
        · exact Or.inl (by have := hold g h4; omega)
        · exact Or.inr (by omega)
      | succ z => rw [hd] at hi; simp at hi
  · intro i j hij hj
    rw [List.length_append, List.length_singleton] at hj
    by_cases hjl : j < ms.length
    · simp only [if_pos hjl, if_pos (show i < ms.length by omega)]
      exact h2 i j hij hjl
    · have hil : i < ms.length := by omega
      simp only [if_neg hjl, if_pos hil]
      obtain ⟨x, hx⟩ : ∃ x, ms[i]? = some x := ⟨_, List.getElem?_eq_getElem hil⟩
      have := (h1 i x hx).2.2.2.1
      omega
/-- the row, as a formula's list -/
theorem TRow.list {w0 w : World} {B : Nat} {c : Nat → Nat → Value} {v : Value} {ms : List Nd} (h : TRow w0 w B c v ms) : (ms = [] ∧ ∃ a c, v = .slice a 0 c) ∨ ∃ g o c cs t, v = .slice (some ⟨g, o, none⟩) ms.length c ∧ w.heap[g]? = some (.cells cs t (0, 0)) ∧ w0.heap.size ≤ g ∧ g < w.heap.size ∧ OwTs w ms cs o g w0.heap.size w.heap.size := by
  rcases h.row.2 with ⟨e, h0⟩ | ⟨g, cap, cur, e, _, hh, _, _, _, ht⟩
  · exact Or.inl ⟨List.eq_nil_of_length_eq_zero h0, none, 0, e⟩
  · obtain ⟨f, h1, h2⟩ := h.kd
    refine Or.inr ⟨g, 0, cap, cur, 30, e, hh, (h.own g (by rw [e]; rfl)).1, lt_of_heap hh, ?_⟩
    have cl : ∀ i, i < ms.length → ∀ j, j < 6 → cur[0 + i * 6 + j]? = some (c i j) := fun i hil j hj => by
      have := cellsN_at c hil hj
      rw [← ht, List.getElem?_take] at this
      split at this
      · simpa using this
      · cases this
    have key : ∀ (n i lo : Nat), i + n = ms.length → (∀ j, i ≤ j → j < ms.length → lo ≤ (f j).1) → OwTs w (ms.drop i) cur (0 + i * 6) g lo w.heap.size := by
      intro n
      induction n with
      | zero =>
        intro i lo hin _
        rw [List.drop_of_length_le (by omega)]
        unfold OwTs
        trivial
      | succ n ih =>
        intro i lo hin hlo
        have hil : i < ms.length := by omega
        rw [List.drop_eq_getElem_cons hil]
        obtain ⟨k1, k2, k3, k4, k5⟩ := h1 i ms[i] (List.getElem?_eq_getElem hil)
        unfold OwTs
        refine ⟨_, _, _, _, _, _, (f i).1, (f i).2, cl i hil 0 (by omega), cl i hil 1 (by omega), cl i hil 2 (by omega), cl i hil 3 (by omega), cl i hil 4 (by omega), cl i hil 5 (by omega), hlo i (Nat.le_refl _) hil, k3, k4, k5 g (by rw [e]; rfl), k1, ?_⟩
        have := ih (i + 1) (f i).2 (by omega) (fun j hj hjl => h2 i j (by omega) hjl)
        rwa [show 0 + (i + 1) * 6 = 0 + i * 6 + 6 by omega] at this
    have := key ms.length 0 w0.heap.size (by omega) (fun j _ hjl => (h1 j _ (List.getElem?_eq_getElem hjl)).2.1)
    simpa using this
end Go.Proofs.YtbnebkkpmcjmbaaGreatDoor


namespace Go.Proofs.YtbnebkkpmcjmbaaGreatDoor
open Go.RowKit Go.PL Go.Maps
def TPost (w : World) (nd : Nd) (e : Ending) (w' : World) : Prop := ∃ v, e = .returned v ∧ OwT w' nd v w.heap.size w'.heap.size ∧ Upto [] w w'
/-- what stands between two rounds -/
structure TI (w w9 : World) (bn : Nat) (op so nn mm : Int) (na : Option Addr) (nl nc : Nat) (l : List Nd) (j : Nat) (wr : World) : Prop where
  up : Upto [bn] w9 wr
  old : Upto [] w wr
  st : ∃ (va : Option Addr) (vn vc : Nat) (c : Nat → Nat → Value), wr.heap[bn]? = some (.cells #[.int .i64 op, .slice na nl nc, .int .i64 so, .int .i64 nn, .int .i64 mm, .slice va vn vc] 30 (0, 0)) ∧ TRow w9 wr bn c (.slice va vn vc) (l.take j)
theorem TI.ext {w w9 wr w2 : World} {bn : Nat} {op so nn mm : Int} {na : Option Addr} {nl nc : Nat} {l : List Nd} {j : Nat} (h : TI w w9 bn op so nn mm na nl nc l j wr) (hu : Upto [] wr w2) : TI w w9 bn op so nn mm na nl nc l j w2 := by
  obtain ⟨va, vn, vc, c, h1, h2⟩ := h.st
  exact ⟨h.up.trans_ext hu, h.old.trans_ext hu, va, vn, vc, c, hu.at h1 (by simp), h2.upto hu (by simp)⟩
/-- an operand's copy: its blocks -/
def KdP (W : World) (x : Nd) (v : Value) (u : World) : Prop := ∃ k q, W.heap.size ≤ k ∧ k ≤ q ∧ q ≤ u.heap.size ∧ OwT u x v k q
theorem KdP.ext {W u u' : World} {x : Nd} {v : Value} (h : KdP W x v u) (hu : Upto [] u u') : KdP W x v u' := by
  obtain ⟨k, q, h1, h2, h3, h4⟩ := h
  exact ⟨k, q, h1, h2, Nat.le_trans h3 hu.size, h4.same _ _ _ _ (SameIn.upto hu h3 (by simp))⟩
theorem tcl_step {w w9 wr w10 w5 : World} {bn : Nat} {op so nn mm : Int} {na : Option Addr} {nl nc : Nat} {l : List Nd} {vn : Nat} {va : Option Addr} {vc : Nat} {c : Nat → Nat → Value} {x : Nd} {v0 v1 v2 v3 v4 v5 : Value} {b5 : Option Addr} {c5 : Nat}
    (HI : TI w w9 bn op so nn mm na nl nc l vn wr) (HLT : w.heap.size ≤ bn ∧ bn < w9.heap.size)
    (hbk : wr.heap[bn]? = some (.cells #[.int .i64 op, .slice na nl nc, .int .i64 so, .int .i64 nn, .int .i64 mm, .slice va vn vc] 30 (0, 0))) (hrow : TRow w9 wr bn c (.slice va vn vc) (l.take vn))
    (hu : Upto [] wr w10) (hn : KdP wr x (.agg #[v0, v1, v2, v3, v4, v5]) w10) (hjl : (l.take vn).length = vn) (htk : l.take (vn + 1) = l.take vn ++ [x])
    (ho5 : w5.ownsRow 0 30 6 (.slice b5 (vn + 1) c5) (vn + 1) (cellsN c vn ++ [v0, v1, v2, v3, v4, v5])) (hu5 : Upto (Value.slice va vn vc).ownBlock.toList w10 w5) (hw5 : ∀ g, (Value.slice b5 (vn + 1) c5).ownBlock = some g → (Value.slice va vn vc).ownBlock = some g ∨ w10.heap.size ≤ g) :
    w5.heap[bn]? = some (.cells #[.int .i64 op, .slice na nl nc, .int .i64 so, .int .i64 nn, .int .i64 mm, .slice va vn vc] 30 (0, 0)) ∧ TI w w9 bn op so nn mm na nl nc l (vn + 1) (w5.setCell ⟨bn, 5, none⟩ (.slice b5 (vn + 1) c5)) := by
  have hown : ∀ g, g ∈ (Value.slice va vn vc).ownBlock.toList → w9.heap.size ≤ g ∧ g ≠ bn := fun g hg => hrow.own g (Option.mem_toList.1 hg)
  have hold : ∀ g, (Value.slice va vn vc).ownBlock = some g → g < wr.heap.size := fun g hg => by
    obtain ⟨cur, hh⟩ := ownsRow_block hrow.row hg
    exact lt_of_heap hh
  have hb5 := hu5.at (hu.at hbk (by simp)) (fun hm => (hown _ hm).2 rfl)
  have hst : Upto [bn] w5 (w5.setCell ⟨bn, 5, none⟩ (.slice b5 (vn + 1) c5)) := (Upto.refl [bn] w5).setCell (p := ⟨bn, 5, none⟩) (Or.inl (by simp)) _
  have hs9 := HI.up.size
  have hs10 := hu.size
  have hbw := lt_of_heap hbk
  refine ⟨hb5, ⟨?_, ?_, b5, vn + 1, c5, addC c vn v0 v1 v2 v3 v4 v5, ?_, ?_⟩⟩
  · exact ((HI.up.trans_ext hu).trans hu5 (fun k hk => Or.inr (hown k hk).1)).setCell (p := ⟨bn, 5, none⟩) (Or.inl (by simp)) _
  · exact ((HI.old.trans_ext hu).trans hu5 (fun k hk => Or.inr (by have := (hown k hk).1; omega))).setCell (p := ⟨bn, 5, none⟩) (Or.inr (by simp; omega)) _
  · have := set_same hb5 5 (.slice b5 (vn + 1) c5)
    simpa using this
  · obtain ⟨k, q, n1, n2, n3, n4⟩ := hn
    have happ := TRow.app (m := x) (v0 := v0) (v1 := v1) (v2 := v2) (v3 := v3) (v4 := v4) (v5 := v5) (b' := b5) (c' := c5) (w5 := w5) (k := k) hrow n1 (by omega) hs9 HLT.2 hu ⟨q, n2, n3, n4⟩ (by rw [hjl]; exact ho5) hu5 (by rw [hjl]; exact hw5)
    rw [hjl] at happ
    rw [htk]
    exact happ.upto hst (fun k hk => by simp at hk; subst hk; exact HLT.2)
theorem tcl_end {w w9 wr : World} {bn : Nat} {op so nn mm : Int} {na : Option Addr} {nc : Nat} {names : List (List UInt8)} {l : List Nd} {vn : Nat} {va : Option Addr} {vc : Nat} {c : Nat → Nat → Value}
    (HI : TI w w9 bn op so nn mm na names.length nc l vn wr) (HLT : w.heap.size = bn ∧ bn + 1 < w9.heap.size)
    (hsl : NmT w9 names (.slice na names.length nc) (w.heap.size + 2) w9.heap.size)
    (hrow : TRow w9 wr bn c (.slice va vn vc) (l.take vn)) (htk : l.take vn = l) (hll : l.length = vn) :
    TPost w (.mk op names so nn mm l) (.returned (.agg #[.int .i64 op, .slice na names.length nc, .int .i64 so, .int .i64 nn, .int .i64 mm, .slice va vn vc])) ((((((wr.setCell ⟨w.heap.size + 1, 0, none⟩ (.int .i64 op)).setCell ⟨w.heap.size + 1, 1, none⟩ (.slice na names.length nc)).setCell ⟨w.heap.size + 1, 2, none⟩ (.int .i64 so)).setCell ⟨w.heap.size + 1, 3, none⟩ (.int .i64 nn)).setCell ⟨w.heap.size + 1, 4, none⟩ (.int .i64 mm)).setCell ⟨w.heap.size + 1, 5, none⟩ (.slice va vn vc)) := by
  have hst := nd_self wr (w.heap.size + 1) (.int .i64 op) (.slice na names.length nc) (.int .i64 so) (.int .i64 nn) (.int .i64 mm) (.slice va vn vc)
  have hrow2 := hrow.upto hst (fun k hk => by simp at hk; omega)
  rw [htk] at hrow2
  obtain ⟨wE, hE⟩ : ∃ wE, wE = ((((((wr.setCell ⟨w.heap.size + 1, 0, none⟩ (.int .i64 op)).setCell ⟨w.heap.size + 1, 1, none⟩ (.slice na names.length nc)).setCell ⟨w.heap.size + 1, 2, none⟩ (.int .i64 so)).setCell ⟨w.heap.size + 1, 3, none⟩ (.int .i64 nn)).setCell ⟨w.heap.size + 1, 4, none⟩ (.int .i64 mm)).setCell ⟨w.heap.size + 1, 5, none⟩ (.slice va vn vc)) := ⟨_, rfl⟩
  have hup : Upto [] w wE := by rw [hE]; exact nd_up HI.old (Or.inr (by omega)) ..
  rw [← hE] at hst hrow2 ⊢
  have hu9 : Upto [bn, bn + 1] w9 wE := (HI.up.mono (by simp)).trans (hst.mono (by simp; omega)) (fun k hk => Or.inl hk)
  have hs2 : NmT wE names (.slice na names.length nc) (w.heap.size + 2) w9.heap.size := hsl.same (SameIn.upto hu9 (Nat.le_refl _) (fun b hb => Or.inl (by simp at hb; omega)))
  refine ⟨_, rfl, ?_, hup⟩
  unfold OwT
  refine ⟨_, _, w9.heap.size, rfl, by omega, hu9.size, ?_, ?_⟩
  · rcases hs2 with h1 | ⟨g, o, c, cs, t, e3, k1, k2, k3, k4, k5⟩
    · exact Or.inl h1
    · exact Or.inr ⟨g, o, c, cs, t, e3, k1, by omega, k3, k4, k5⟩
  · have := hrow2.list
    rw [hll] at this ⊢
    exact this
set_option maxRecDepth 100000 in
set_option maxHeartbeats 6400000 in
theorem tclone_calls : ∀ (k : Nat) (nd : Nd), sizeF nd ≤ k → k ≤ 10000000 → bigN nd → ∀ (P : Nat → Prop) (v : Value) (w : World), NdV w P nd v → Calls Tryz.prog 42 #[v] w (TPost w nd)
  | 0, nd, hk, _, _, _, _, _, _ => by have := sizeF_pos nd; omega
  | k + 1, .mk op names so nn mm l, hk, hk7, hbg, P, v, w, h => by
    obtain ⟨a1, c1, a2, c2, rfl, hs, hls⟩ := h.open
    unfold bigN at hbg
    have hsz : sizesF l ≤ k := by simp only [sizeF] at hk; omega
    have hln := sizes_len l
    have hu2 : Upto [] w ((w.alloc (.cells #[.int .i64 op, .slice a1 names.length c1, .int .i64 so, .int .i64 nn, .int .i64 mm, .slice a2 l.length c2] 30)).alloc (.cells #[.int .i64 0, .slice none 0 0, .int .i64 0, .int .i64 0, .int .i64 0, .slice none 0 0] 30)) := ((Upto.refl [] w).alloc _).alloc _
    have hb1 := alloc_old (new_at w (.cells #[.int .i64 op, .slice a1 names.length c1, .int .i64 so, .int .i64 nn, .int .i64 mm, .slice a2 l.length c2] 30)) (.cells #[.int .i64 0, .slice none 0 0, .int .i64 0, .int .i64 0, .int .i64 0, .slice none 0 0] 30)
    have hb2 := new_at1 w (.cells #[.int .i64 op, .slice a1 names.length c1, .int .i64 so, .int .i64 nn, .int .i64 mm, .slice a2 l.length c2] 30) (.cells #[.int .i64 0, .slice none 0 0, .int .i64 0, .int .i64 0, .int .i64 0, .slice none 0 0] 30)
    obtain ⟨W, hW⟩ : ∃ W, W = ((w.alloc (.cells #[.int .i64 op, .slice a1 names.length c1, .int .i64 so, .int .i64 nn, .int .i64 mm, .slice a2 l.length c2] 30)).alloc (.cells #[.int .i64 0, .slice none 0 0, .int .i64 0, .int .i64 0, .int .i64 0, .slice none 0 0] 30)) := ⟨_, rfl⟩
    rw [← hW] at hu2 hb1 hb2
    have HU2 := Lib.hid hu2
    have HB1 := Lib.hid hb1
    have HB2 := Lib.hid hb2
    have HCL := Lib.hid (fun W2 (hu : Upto [] W W2) => sclone2_calls (names.map sV) a1 names.length c1 W2 P (by simp) hbg.1 (by intro u hu; obtain ⟨x, _, rfl⟩ := List.mem_map.1 hu; rfl) ((hs.ext hu2).ext hu))
    obtain ⟨x0, x1, x2, x3, x4, x5⟩ := cells6 hb1
    have hwl : w.heap.size + 1 < W.heap.size := lt_of_heap hb2
    have HWL := Lib.hid hwl
    clear hs h hu2 hb1 hb2
    go_enter Tryz.func42, Tryz.ntmps42
    go_wp2_with fail
    simp only [← hW]
    clear hW x0 x1 x2 x3 x4 x5
    refine (HCL.out W (Upto.refl [] W)).mono ?_
    rintro e w9 ⟨na, nc, rfl, hsr, hsg, hu9⟩
    have hc1 := hu9.at HB1.out (by simp)
    have hc2 := hu9.at HB2.out (by simp)
    have HUP := Lib.hid hu9
    have HC2 := Lib.hid hc2
    have HSL : Hid (NmT w9 names (.slice na names.length nc) (w.heap.size + 2) w9.heap.size) := Lib.hid (NmT.of_row hsr rfl (fun g hg => by have := hsg g hg; have := HWL.out; omega))
    have HLT : Hid (w.heap.size = w.heap.size ∧ w.heap.size + 1 < w9.heap.size) := Lib.hid ⟨rfl, lt_of_heap hc2⟩
    obtain ⟨n0, n1, n2, n3, n4, n5⟩ := cells6 hc1
    obtain ⟨f0, f1, f2, f3, f4, f5⟩ := frees6 hc1
    have hset := set_same (set_same hc1 1 (.slice na names.length nc)) 5 (.slice none 0 0)
    simp only [List.setIfInBounds_toArray, List.set_cons_zero, List.set_cons_succ] at hset
    have HI0 : Hid (TI w w9 w.heap.size op so nn mm na names.length nc l 0 ((w9.setCell ⟨w.heap.size, 1, none⟩ (.slice na names.length nc)).setCell ⟨w.heap.size, 5, none⟩ (.slice none 0 0))) := Lib.hid
      ⟨((Upto.refl [w.heap.size] w9).setCell (p := ⟨w.heap.size, 1, none⟩) (Or.inl (by simp)) _).setCell (p := ⟨w.heap.size, 5, none⟩) (Or.inl (by simp)) _,
       (((HU2.out.trans_ext hu9).setCell (p := ⟨w.heap.size, 1, none⟩) (Or.inr (by simp)) _).setCell (p := ⟨w.heap.size, 5, none⟩) (Or.inr (by simp)) _), none, 0, 0, fun _ _ => undef, hset, ⟨by simpa [cellsN] using World.ownsRow_nil _ 0 30 6, (by intro g hg; cases hg), ⟨fun _ => (0, 0), (by simp), (by intro i j _ h; simp at h)⟩⟩⟩
    clear hsr hsg hu9 hc1 hc2 hset
    have HLS := Lib.hid hls
    have HLN : Hid (l.length ≤ 10000000) := Lib.hid (by omega)
    clear hls
    go_wp2_with fail
    generalize hll : l.length = ll at *
    have HLL := Lib.hid hll
    have hL0 : (0 : Int) ≤ ll := by omega
    have hL1 : (ll : Int) ≤ 10000000 := by have := HLN.out; omega
    clear hll n0 n1 n2 n3 n4 n5 f0 f1 f2 f3 f4 f5
    go_loopw [15] (fun v wr => ∃ j : Nat, j ≤ ll ∧ v = .int .i64 j ∧ Hid (TI w w9 w.heap.size op so nn mm na names.length nc l j wr)) (fun v _ => ll - (intOf v).toNat)
    case atStart => exact ⟨0, by omega, rfl, HI0⟩
    case round =>
      obtain ⟨j, hj, rfl, HI⟩ := hrel
      obtain ⟨va, vn, vc, c, hbk, hrow⟩ := HI.out.st
      obtain ⟨va', vc', hve, -⟩ := ownsRow_len hrow.row
      simp only [Value.slice.injEq] at hve
      have hvn : vn = j := by have := HLL.out; rw [hve.2.1, List.length_take]; omega
      clear hve
      subst hvn
      rcases Nat.lt_or_ge vn ll with hlt | hge
      · obtain ⟨x, hx⟩ : ∃ x, l[vn]? = some x := ⟨_, List.getElem?_eq_getElem (by have := HLL.out; omega)⟩
        obtain ⟨g, o, xo, xn1, xn2, xn3, xs, xm, xq, xl1, xl2, xl3, rfl, c0, c1', c2', c3, c4, c5, hn⟩ := (HLS.out.ext HI.out.old) vn x hx
        have hjl : (l.take vn).length = vn := by have := HLL.out; rw [List.length_take]; omega
        have HJL := Lib.hid hjl
        have HTK : Hid (l.take (vn + 1) = l.take vn ++ [x]) := Lib.hid (by
          obtain ⟨hi, rfl⟩ := List.getElem?_eq_some_iff.1 hx
          exact List.take_succ_eq_append_getElem hi)
        have hxs := sizesF_mem (List.mem_of_getElem? hx)
        have hu7 : Upto [] wr (wr.alloc (.cells #[.int .i64 xo, .slice xn1 xn2 xn3, .int .i64 xs, .int .i64 xm, .int .i64 xq, .slice xl1 xl2 xl3] 30)) := (Upto.refl [] wr).alloc _
        have hb7 := new_at wr (.cells #[.int .i64 xo, .slice xn1 xn2 xn3, .int .i64 xs, .int .i64 xm, .int .i64 xq, .slice xl1 xl2 xl3] 30)
        obtain ⟨W7, hW7⟩ : ∃ W7, W7 = wr.alloc (.cells #[.int .i64 xo, .slice xn1 xn2 xn3, .int .i64 xs, .int .i64 xm, .int .i64 xq, .slice xl1 xl2 xl3] 30) := ⟨_, rfl⟩
        rw [← hW7] at hu7 hb7
        have HI7 := Lib.hid (HI.out.ext hu7)
        have hbk7 := hu7.at hbk (by simp)
        have HBK := Lib.hid hbk7
        have HROW := Lib.hid (hrow.upto hu7 (by simp))
        have HC := Lib.hid (fun w1 (hu : Upto [] W7 w1) => tclone_calls k x (by omega) (by omega) (bigs_mem hbg.2 (List.mem_of_getElem? hx)) P _ w1 ((hn.ext hu7).ext hu))
        have HB7 := Lib.hid hb7
        have hltI : (vn : Int) < ll := by omega
        have hj0 : (0 : Int) ≤ vn := by omega
        clear hrow hbk hn hx hu7 hb7 hbk7
        go_wp2_with fail
        simp only [← hW7]
        clear hW7
        have y5 := cell_of HBK.out 5
        simp only [List.getElem?_toArray, List.getElem?_cons_zero, List.getElem?_cons_succ] at y5
        obtain ⟨z0, z1, z2, z3, z4, z5⟩ := cells6 HB7.out
        have e0 : ∀ u : Ext W7, u.w.cell? ⟨w.heap.size, 5, none⟩ = some (.slice va vn vc) := fun u => u.cell y5
        have k0 : ∀ u : Ext W7, u.w.cell? ⟨wr.heap.size, 0, none⟩ = some _ := fun u => u.cell z0
        have k1 : ∀ u : Ext W7, u.w.cell? ⟨wr.heap.size, 1, none⟩ = some _ := fun u => u.cell z1
        have k2 : ∀ u : Ext W7, u.w.cell? ⟨wr.heap.size, 2, none⟩ = some _ := fun u => u.cell z2
        have k3 : ∀ u : Ext W7, u.w.cell? ⟨wr.heap.size, 3, none⟩ = some _ := fun u => u.cell z3
        have k4 : ∀ u : Ext W7, u.w.cell? ⟨wr.heap.size, 4, none⟩ = some _ := fun u => u.cell z4
        have k5 : ∀ u : Ext W7, u.w.cell? ⟨wr.heap.size, 5, none⟩ = some _ := fun u => u.cell z5
        clear y5 z0 z1 z2 z3 z4 z5 c0 c1' c2' c3 c4 c5
        refine wp_region_seg_at [3, 4] [] [0, 1, 2, 3, 4] [5, 6, 7] 5 (by kernel_rfl) (by kernel_rfl) (by kernel_rfl) ?_
        iterate 3 (refine seg_plain rfl rfl rfl rfl rfl ?_; intro K' hK'; go_big_quiet_op; go_big_quiet_on)
        refine seg_callO (Y := (Int × Option Addr × Nat × Nat) × Int × Int × Int × Option Addr × Nat × Nat) (fun y => .agg #[.int .i64 y.1.1, .slice y.1.2.1 y.1.2.2.1 y.1.2.2.2, .int .i64 y.2.1, .int .i64 y.2.2.1, .int .i64 y.2.2.2.1, .slice y.2.2.2.2.1 y.2.2.2.2.2.1 y.2.2.2.2.2.2]) (fun y u => KdP W7 x (.agg #[.int .i64 y.1.1, .slice y.1.2.1 y.1.2.2.1 y.1.2.2.2, .int .i64 y.2.1, .int .i64 y.2.2.1, .int .i64 y.2.2.2.1, .slice y.2.2.2.2.1 y.2.2.2.2.2.1 y.2.2.2.2.2.2]) u) (fun _ => []) rfl rfl rfl rfl (fun _ _ _ h hu => h.ext hu) (fun _ => List.nodup_nil) (fun w => by go_simp) (fun w' hu hd => (HC.out w' hu).mono fun e w2 ⟨v, h1, h2, h3⟩ => by
          obtain ⟨ro, rn1, rn2, rn3, rs, rm, rq, rl1, rl2, rl3, rfl⟩ := (h2.ndv _ _ _ _).six
          exact ⟨((ro, rn1, rn2, rn3), rs, rm, rq, rl1, rl2, rl3), h1, h3, ⟨w'.heap.size, w2.heap.size, hu.size, h3.size, Nat.le_refl _, h2⟩, fun b hb => by cases hb⟩) ?_
        rintro ⟨⟨ro, rn1, rn2, rn3⟩, rs, rm, rq, rl1, rl2, rl3⟩
        simp only [Act.put, List.setIfInBounds_toArray, List.set_cons_zero, List.set_cons_succ]
        refine seg_opq (Y := Nat) (fun b => .slice (some ⟨b, 0, none⟩) 1 1) (fun b u => u.heap[b]? = some (.cells #[.int .i64 ro, .slice rn1 rn2 rn3, .int .i64 rs, .int .i64 rm, .int .i64 rq, .slice rl1 rl2 rl3] 30 (0, 0))) (fun _ => []) rfl rfl rfl rfl (fun _ _ _ h hu => hu.at h (by simp)) (fun _ => List.nodup_nil) (fun w' post hu hd hp => (congrArg (opqUpon Tryz.prog post) (show _ = Result.ok (Next.value (.slice (some ⟨w'.heap.size, 0, none⟩) 1 1)) (w'.alloc (.cells #[.int .i64 ro, .slice rn1 rn2 rn3, .int .i64 rs, .int .i64 rm, .int .i64 rq, .slice rl1 rl2 rl3] 30)) from by go_simp)).mpr (hp w'.heap.size _ ((Upto.refl [] w').alloc _) (new_at _ _) (fun b hb => by cases hb))) ?_
        intro b8
        simp only [Act.put, List.setIfInBounds_toArray, List.set_cons_zero, List.set_cons_succ]
        intro w10 hg
        have HU10 := Lib.hid hg.up
        have HB8 : Hid (w10.heap[b8]? = some (.cells #[.int .i64 ro, .slice rn1 rn2 rn3, .int .i64 rs, .int .i64 rm, .int .i64 rq, .slice rl1 rl2 rl3] 30 (0, 0))) := Lib.hid hg.hold.1
        have HND : Hid (KdP W7 x (.agg #[.int .i64 ro, .slice rn1 rn2 rn3, .int .i64 rs, .int .i64 rm, .int .i64 rq, .slice rl1 rl2 rl3]) w10) := Lib.hid hg.hold.2.1
        simp only [List.drop_succ_cons, List.drop_zero]
        clear hg e0 k0 k1 k2 k3 k4 k5
        have HR10 := Lib.hid (HROW.out.upto HU10.out (by simp))
        have hr10 := HR10.out.row
        rw [hjl] at hr10
        have HRR := Lib.hid hr10
        obtain ⟨i1, hi1, hy0, hy1, hy2⟩ := info59'
        have hL7 := HLN.out
        have HA := Lib.hid (fun b5 c5 w5 (ho5 : w5.ownsRow 0 30 6 (.slice b5 (vn + 1) c5) (vn + 1) (cellsN c vn ++ [.int .i64 ro, .slice rn1 rn2 rn3, .int .i64 rs, .int .i64 rm, .int .i64 rq, .slice rl1 rl2 rl3])) (hu5 : Upto (Value.slice va vn vc).ownBlock.toList w10 w5) (hw5 : ∀ g, (Value.slice b5 (vn + 1) c5).ownBlock = some g → (Value.slice va vn vc).ownBlock = some g ∨ w10.heap.size ≤ g) => tcl_step HI7.out ⟨Nat.le_refl _, by have := HLT.out.2; omega⟩ HBK.out HROW.out HU10.out HND.out HJL.out HTK.out ho5 hu5 hw5)
        clear hr10 hjl
        go_wp2_with (at_builtin
                     refine wpList_app _ rfl (.tmp 20) (.tmp 23) 28 rfl 30 i1 (.agg #[.int .i64 0, .slice none 0 0, .int .i64 0, .int .i64 0, .int .i64 0, .slice none 0 0]) 6 80 Tryz.underlying28 hi1 hy0 hy1 hy2 rfl (by decide) (.slice va vn vc) vn (cellsN c vn) rfl HRR.out ⟨b8, 0, none⟩ 1 1 [.int .i64 ro, .slice rn1 rn2 rn3, .int .i64 rs, .int .i64 rm, .int .i64 rq, .slice rl1 rl2 rl3] rfl rfl (six_at HB8.out) (by simp [Value.oneCell']) (by unfold maxLen; omega) (by omega) ?_
                     intro b5 c5 w5 ho5 hu5 hw5
                     obtain ⟨hbk5, hI5⟩ := HA.out b5 c5 w5 ho5 hu5 hw5
                     have y5 := cell_of hbk5 5
                     have g5 := free_of hbk5 5
                     simp only [List.getElem?_toArray, List.getElem?_cons_zero, List.getElem?_cons_succ] at y5
                     have HI5 := Lib.hid hI5
                     clear ho5 hu5 hw5 hbk5 hI5)
        go_roundw
        case rel => exact ⟨vn + 1, by omega, by go_num, HI5⟩
        case measure => simp [intOf]; omega
      · obtain rfl : vn = ll := by omega
        have hgeI : ¬ ((vn : Int) < vn) := by omega
        have HROW := Lib.hid hrow
        have hz2 := HI.out.up.at HC2.out (by simp)
        have HZ2 := Lib.hid hz2
        obtain ⟨p0, p1, p2, p3, p4, p5⟩ := cells6 hbk
        obtain ⟨r0, r1, r2, r3, r4, r5⟩ := cells6 hz2
        obtain ⟨t0, t1, t2, t3, t4, t5⟩ := frees6 hz2
        have hF := tcl_end (names := names) HI.out ⟨rfl, HLT.out.2⟩ HSL.out HROW.out (List.take_of_length_le (by have := HLL.out; omega)) HLL.out
        have HF := Lib.hid hF
        clear hrow hbk hz2 hF
        go_wp2_with fail
        have hst := nd_store HZ2.out (.int .i64 op) (.slice na names.length nc) (.int .i64 so) (.int .i64 nn) (.int .i64 mm) (.slice va vn vc)
        obtain ⟨q0, q1, q2, q3, q4, q5⟩ := cells6 hst
        exact bodyPost_ret (v := .agg #[.int .i64 op, .slice na names.length nc, .int .i64 so, .int .i64 nn, .int .i64 mm, .slice va vn vc]) (by simp [results, Tryz.results42, go_sem, q0, q1, q2, q3, q4, q5]) rfl HF.out
end Go.Proofs.YtbnebkkpmcjmbaaGreatDoor


namespace Go.Proofs.YtbnebkkpmcjmbaaGreatDoor
open Go.RowKit Go.PL Go.Maps
/-- operand j in its own blocks [k, m), and what holds once it has changed there and nothing else has -/
theorem OwTs.at {w : World} : ∀ (l : List Nd) (cs : Array Value) (o g lo hi j : Nat) (x : Nd), OwTs w l cs o g lo hi → l[j]? = some x →
    ∃ v0 v1 v2 v3 v4 v5 k m, cs[o + 6 * j]? = some v0 ∧ cs[o + 6 * j + 1]? = some v1 ∧ cs[o + 6 * j + 2]? = some v2 ∧ cs[o + 6 * j + 3]? = some v3 ∧ cs[o + 6 * j + 4]? = some v4 ∧ cs[o + 6 * j + 5]? = some v5 ∧ lo ≤ k ∧ k ≤ m ∧ m ≤ hi ∧ (g < k ∨ m ≤ g) ∧ OwT w x (.agg #[v0, v1, v2, v3, v4, v5]) k m ∧
      ∀ (w' : World) (x' : Nd), OwT w' x' (.agg #[v0, v1, v2, v3, v4, v5]) k m → (∀ b, lo ≤ b → b < hi → (b < k ∨ m ≤ b) → w'.heap[b]? = w.heap[b]?) → OwTs w' (l.set j x') cs o g lo hi
  | [], _, _, _, _, _, _, _, _, hj => by simp at hj
  | y :: ys, cs, o, g, lo, hi, 0, x, h, hj => by
    unfold OwTs at h
    obtain ⟨v0, v1, v2, v3, v4, v5, k, m, c0, c1, c2, c3, c4, c5, h1, h2, h3, h4, h5, h6⟩ := h
    cases hj
    refine ⟨v0, v1, v2, v3, v4, v5, k, m, c0, c1, c2, c3, c4, c5, h1, h2, h3, h4, h5, fun w' x' hx hs => ?_⟩
    rw [List.set_cons_zero]
    unfold OwTs
    exact ⟨v0, v1, v2, v3, v4, v5, k, m, c0, c1, c2, c3, c4, c5, h1, h2, h3, h4, hx, OwTs.same ys cs (o + 6) g m hi h6 (fun b hb hb2 => hs b (by omega) hb2 (Or.inr hb))⟩
  | y :: ys, cs, o, g, lo, hi, j + 1, x, h, hj => by
    unfold OwTs at h
    obtain ⟨u0, u1, u2, u3, u4, u5, k, m, c0, c1, c2, c3, c4, c5, h1, h2, h3, h4, h5, h6⟩ := h
    obtain ⟨v0, v1, v2, v3, v4, v5, k', m', d0, d1, d2, d3, d4, d5, i1, i2, i3, i4, i5, i6⟩ := OwTs.at ys cs (o + 6) g m hi j x h6 (by simpa using hj)
    have ho : o + 6 * (j + 1) = o + 6 + 6 * j := by omega
    rw [ho]
    refine ⟨v0, v1, v2, v3, v4, v5, k', m', d0, d1, d2, d3, d4, d5, by omega, i2, i3, i4, i5, fun w' x' hx hs => ?_⟩
    rw [List.set_cons_succ]
    unfold OwTs
    exact ⟨u0, u1, u2, u3, u4, u5, k, m, c0, c1, c2, c3, c4, c5, h1, h2, h3, h4, OwT.same y _ k m h5 (fun b hb hb2 => hs b (by omega) (by omega) (Or.inl (by omega))), i6 w' x' hx (fun b hb hb2 hb3 => hs b (by omega) hb2 hb3)⟩
/-- the j-th name is written anew -/
theorem NmT.set {w : World} {nms : List (List UInt8)} {g o c lo m : Nat} {j : Nat} {x : List UInt8} (h : NmT w nms (.slice (some ⟨g, o, none⟩) nms.length c) lo m) (hj : j < nms.length) :
    NmT (w.setCell ⟨g, o + j, none⟩ (sV x)) (nms.set j x) (.slice (some ⟨g, o, none⟩) nms.length c) lo m := by
  rcases h with ⟨rfl, -⟩ | ⟨g', o', c', cs, t, e, h1, h2, h3, h4, h5⟩
  · simp at hj
  · simp only [Value.slice.injEq, Option.some.injEq, Addr.mk.injEq] at e
    obtain ⟨⟨rfl, rfl, -⟩, -, rfl⟩ := e
    refine Or.inr ⟨g, o, c, cs.setIfInBounds (o + j) (sV x), t, by rw [List.length_set], by rw [List.length_set]; exact h1, h2, h3, ?_, fun i y hi => ?_⟩
    · simp only [World.setCell]
      rw [Array.getElem?_modify, if_pos rfl, h4]
      rfl
    · rw [Array.getElem?_setIfInBounds]
      rw [List.getElem?_set] at hi
      by_cases hij : j = i
      · subst hij
        rw [if_pos rfl, if_pos hj] at hi
        cases hi
        have hb : (cs[o + j]?) = some (sV nms[j]) := h5 j _ (List.getElem?_eq_getElem hj)
        rw [if_pos rfl, if_pos (Array.getElem?_eq_some_iff.1 hb).1]
      · rw [if_neg hij] at hi
        rw [if_neg (by omega)]
        exact h5 i y hi
end Go.Proofs.YtbnebkkpmcjmbaaGreatDoor


namespace Go.Proofs.YtbnebkkpmcjmbaaGreatDoor
open Go.RowKit Go.PL Go.Maps
def UsA (op : Int) (nms : List (List UInt8)) (a1 : Option Addr) (w : World) (e : Ending) (w' : World) : Prop := ∃ v, e = .returned v ∧ Upto [] w w' ∧
  ((usesF op nms = [] ∧ ∃ a c, v = .slice a 0 c) ∨ ∃ g o c k, v = .slice (some ⟨g, o + k, none⟩) (usesF op nms).length c ∧ a1 = some ⟨g, o, none⟩ ∧ k = (if op = 10 then 1 else 0) ∧ (usesF op nms).length + k = nms.length ∧ (usesF op nms).length ≤ c)
set_option maxRecDepth 100000 in
set_option maxHeartbeats 1600000 in
theorem usesA_calls (P : Nat → Prop) (op : Int) (nms : List (List UInt8)) (a1 : Option Addr) (c1 : Nat) (so nn mm : Int) (a2 : Option Addr) (n2 c2 : Nat) (w : World) (hg : op = 10 → 0 < nms.length) (hs : SlP w P (.slice a1 nms.length c1) nms.length (nms.map sV)) (hl : nms.length ≤ 10000000) : Calls Tryz.prog 74 #[.agg #[.int .i64 op, .slice a1 nms.length c1, .int .i64 so, .int .i64 nn, .int .i64 mm, .slice a2 n2 c2]] w (UsA op nms a1 w) := by
  have HU := Lib.hid ((Upto.refl [] w).alloc (.cells #[.int .i64 op, .slice a1 nms.length c1, .int .i64 so, .int .i64 nn, .int .i64 mm, .slice a2 n2 c2] 30))
  by_cases h10 : op = 10
  · subst h10
    have h0 := hg rfl
    cases nms with
    | nil => simp at h0
    | cons x r =>
      rcases hs with ⟨hz, -⟩ | ⟨g, o, c', e, ⟨hp, hi, hnc⟩, hc⟩
      · simp at hz
      have hs : SlP w P (.slice (some ⟨g, o, none⟩) (x :: r).length c') (x :: r).length ((x :: r).map sV) := Or.inr ⟨g, o, c', rfl, ⟨hp, hi, hnc⟩, hc⟩
      simp only [Value.slice.injEq] at e
      obtain ⟨rfl, -, rfl⟩ := e
      simp only [List.length_cons] at hnc hl
      rw [List.length_cons] at HU ⊢
      generalize hn : r.length = n at *
      have hn1 : (n : Int) + 1 ≤ 10000000 := by omega
      have hn0 : (0 : Int) ≤ n := by omega
      have hmin : min ((n : Int) + 1) 1 = 1 := by omega
      have HS := Lib.hid hs
      have HN := Lib.hid hn
      clear hc hs hi hp hg h0 hn
      by_cases h1 : c1 = 1
      · subst h1
        have h00 : n = 0 := by omega
        subst h00
        go_enter Tryz.func74, Tryz.ntmps74
        go_wp2_with fail
        go_ret
        have hr : r = [] := List.eq_nil_of_length_eq_zero HN.out
        subst hr
        exact ⟨_, rfl, HU.out, Or.inl ⟨by simp [usesF], _, _, rfl⟩⟩
      · obtain ⟨cc, rfl⟩ : ∃ cc, c1 = cc + 2 := ⟨c1 - 2, by omega⟩
        go_enter Tryz.func74, Tryz.ntmps74
        go_wp2_with fail
        go_ret
        have e := HN.out
        subst e
        have HE : usesF 10 (x :: r) = r := by simp [usesF]
        unfold UsA
        rw [HE]
        exact ⟨_, rfl, HU.out, Or.inr ⟨g, o, _, 1, rfl, rfl, by simp, by simp, by omega⟩⟩
  · have e10 : (op == 10) = false := by simpa using h10
    by_cases h2 : op < 2
    · have e2 : ¬ 2 ≤ op := by omega
      have HE : Hid (usesF op nms = []) := Lib.hid (by unfold usesF; rw [if_neg h10, if_neg (by omega)])
      clear hs hg
      go_enter Tryz.func74, Tryz.ntmps74
      go_wp2_with fail
      go_ret
      unfold UsA
      rw [HE.out]
      exact ⟨_, rfl, HU.out, Or.inl ⟨rfl, _, _, rfl⟩⟩
    · by_cases h3 : op < 10
      · have e2 : 2 ≤ op := by omega
        have HE : Hid (usesF op nms = nms) := Lib.hid (by unfold usesF; rw [if_neg h10, if_pos (by omega)])
        have HS := Lib.hid (hs.ext HU.out)
        clear hs hg
        go_enter Tryz.func74, Tryz.ntmps74
        go_wp2_with fail
        go_ret
        unfold UsA
        rw [HE.out]
        rcases HS.out with ⟨h0, h1, a, c, e⟩ | ⟨g, o, c, e, ⟨-, -, hc⟩, -⟩
        · exact ⟨_, rfl, HU.out, Or.inl ⟨List.eq_nil_of_length_eq_zero (by simpa using h0), _, _, e⟩⟩
        · simp only [Value.slice.injEq] at e
          obtain ⟨rfl, -, rfl⟩ := e
          exact ⟨_, rfl, HU.out, Or.inr ⟨g, o, _, 0, rfl, rfl, by rw [if_neg h10], by simp, hc⟩⟩
      · have e2 : 2 ≤ op := by omega
        have HE : Hid (usesF op nms = []) := Lib.hid (by unfold usesF; rw [if_neg h10, if_neg (by omega)])
        clear hs hg
        go_enter Tryz.func74, Tryz.ntmps74
        go_wp2_with fail
        go_ret
        unfold UsA
        rw [HE.out]
        exact ⟨_, rfl, HU.out, Or.inl ⟨rfl, _, _, rfl⟩⟩
end Go.Proofs.YtbnebkkpmcjmbaaGreatDoor


namespace Go.Proofs.YtbnebkkpmcjmbaaGreatDoor
open Go.PL
def mapAt {α : Type} (f : α → α) (k i : Nat) (l : List α) : List α := l.mapIdx fun j x => if k ≤ j ∧ j < k + i then f x else x
theorem mapAt_len {α : Type} (f : α → α) (k i : Nat) (l : List α) : (mapAt f k i l).length = l.length := by simp [mapAt]
theorem mapAt_zero {α : Type} (f : α → α) (k : Nat) (l : List α) : mapAt f k 0 l = l := by
  apply List.ext_getElem?
  intro j
  simp only [mapAt, List.getElem?_mapIdx]
  cases l[j]? with
  | none => rfl
  | some x =>
    simp only [Option.map_some]
    rw [if_neg (by omega)]
theorem mapAt_get {α : Type} (f : α → α) (k i : Nat) (l : List α) : (mapAt f k i l)[k + i]? = l[k + i]? := by
  simp only [mapAt, List.getElem?_mapIdx]
  cases l[k + i]? with
  | none => rfl
  | some x =>
    simp only [Option.map_some]
    rw [if_neg (by omega)]
theorem mapAt_next {α : Type} {f : α → α} {k i : Nat} {l : List α} {x : α} (h : l[k + i]? = some x) : mapAt f k (i + 1) l = (mapAt f k i l).set (k + i) (f x) := by
  apply List.ext_getElem?
  intro j
  rw [List.getElem?_set]
  have hlt : k + i < l.length := (List.getElem?_eq_some_iff.1 h).1
  by_cases hj : k + i = j
  · subst hj
    rw [if_pos rfl, mapAt_len, if_pos hlt]
    simp only [mapAt, List.getElem?_mapIdx, h, Option.map_some]
    rw [if_pos (by omega)]
  · rw [if_neg hj]
    simp only [mapAt, List.getElem?_mapIdx]
    cases l[j]? with
    | none => rfl
    | some y =>
      simp only [Option.map_some]
      by_cases hc : k ≤ j ∧ j < k + i
      · rw [if_pos hc, if_pos (by omega)]
      · rw [if_neg hc, if_neg (by omega)]
/-- an item that stays is no change -/
theorem mapAt_stay {α : Type} {f : α → α} {k i : Nat} {l : List α} {x : α} (h : l[k + i]? = some x) (hf : f x = x) : mapAt f k (i + 1) l = mapAt f k i l := by
  rw [mapAt_next h, hf]
  apply List.ext_getElem?
  intro j
  rw [List.getElem?_set]
  by_cases hj : k + i = j
  · subst hj
    rw [if_pos rfl, mapAt_len, if_pos (List.getElem?_eq_some_iff.1 h).1, mapAt_get, h]
  · rw [if_neg hj]
theorem mapAt_all {α : Type} (f : α → α) (l : List α) : mapAt f 0 l.length l = l.map f := by
  apply List.ext_getElem?
  intro j
  simp only [mapAt, List.getElem?_mapIdx, List.getElem?_map]
  cases hx : l[j]? with
  | none => rfl
  | some x =>
    have := (List.getElem?_eq_some_iff.1 hx).1
    simp only [Option.map_some]
    rw [if_pos (by omega)]
theorem mapAt_uses {op : Int} {f : List UInt8 → List UInt8} {nms : List (List UInt8)} {k : Nat} (hk : k = (if op = 10 then 1 else 0)) (h0 : 0 < (usesF op nms).length) : mapAt f k (usesF op nms).length nms = rnUses op f nms := by
  by_cases h10 : op = 10
  · subst h10
    rw [if_pos rfl] at hk
    subst hk
    cases nms with
    | nil => simp [usesF] at h0
    | cons x r =>
      simp only [usesF, rnUses, if_true, List.drop_succ_cons, List.drop_zero, List.take_succ_cons, List.take_zero, List.cons_append, List.nil_append]
      apply List.ext_getElem?
      intro j
      cases j with
      | zero => simp [mapAt]
      | succ j =>
        simp only [mapAt, List.getElem?_mapIdx, List.getElem?_cons_succ, List.getElem?_map]
        cases hx : r[j]? with
        | none => rfl
        | some y =>
          have := (List.getElem?_eq_some_iff.1 hx).1
          simp only [Option.map_some]
          rw [if_pos (by omega)]
  · rw [if_neg h10] at hk
    subst hk
    unfold usesF at h0 ⊢
    unfold rnUses
    rw [if_neg h10] at h0 ⊢
    rw [if_neg h10]
    by_cases h2 : 2 ≤ op ∧ op < 10
    · rw [if_pos h2] at h0 ⊢
      rw [if_pos h2]
      exact mapAt_all f nms
    · rw [if_neg h2] at h0
      simp at h0
theorem rnUses_none {op : Int} {f : List UInt8 → List UInt8} {nms : List (List UInt8)} (h0 : usesF op nms = []) : rnUses op f nms = nms := by
  unfold usesF at h0
  unfold rnUses
  by_cases h10 : op = 10
  · rw [if_pos h10] at h0 ⊢
    rw [h0]
    have := List.take_append_drop 1 nms
    rw [h0] at this
    simpa using this
  · rw [if_neg h10] at h0 ⊢
    by_cases h2 : 2 ≤ op ∧ op < 10
    · rw [if_pos h2] at h0 ⊢
      rw [h0]
      rfl
    · rw [if_neg h2]
end Go.Proofs.YtbnebkkpmcjmbaaGreatDoor


namespace Go.Proofs.YtbnebkkpmcjmbaaGreatDoor
open Go.RowKit Go.PL Go.Maps
/-- in memory that is there -/
theorem NdV.here {w : World} {P : Nat → Prop} {nd : Nd} {v : Value} (h : NdV w P nd v) : NdV w (fun b => b < w.heap.size) nd v := h.mono (fun _ _ hc => hc.lt)
end Go.Proofs.YtbnebkkpmcjmbaaGreatDoor


namespace Go.Proofs.YtbnebkkpmcjmbaaGreatDoor
open Go.RowKit Go.PL Go.Maps
/-- the list that Bound grows, in the cell of block B -/
def BoJ (w0 : World) (B : Nat) (ls : List (List UInt8)) (r : Nat) (O : List Nat) (u : World) : Prop := ∃ (va : Option Addr) (m vc : Nat), u.heap[B]? = some (.cells #[.slice va m vc] 22 (0, 0)) ∧ u.ownsRow 0 9 1 (.slice va m vc) ls.length (ls.map sV) ∧ m = ls.length ∧ O = (Value.slice va m vc).ownBlock.toList ∧ w0.heap.size ≤ u.heap.size ∧ (∀ g ∈ O, w0.heap.size ≤ g) ∧ ls.length + r ≤ 200000
theorem BoJ.one {w0 : World} {B : Nat} {s : List (List UInt8)} {r : Nat} {O : List Nat} {u : World} (h : BoJ w0 B s r O u) : w0.heap.size ≤ u.heap.size ∧ ∀ g ∈ O, g < u.heap.size ∧ w0.heap.size ≤ g := by
  obtain ⟨va, m, vc, h1, h2, h3, rfl, h5, h6, h7⟩ := h
  exact ⟨h5, fun g hg => ⟨own_lt h2 g hg, h6 g hg⟩⟩
theorem BoJ.ext {w0 : World} {B : Nat} {s : List (List UInt8)} {r : Nat} {O : List Nat} {u u' : World} (h : BoJ w0 B s r O u) (hu : Upto [] u u') : BoJ w0 B s r O u' := by
  obtain ⟨va, m, vc, h1, h2, h3, h4, h5, h6, h7⟩ := h
  exact ⟨va, m, vc, hu.at h1 (by simp), ownsRow_upto h2 hu (by simp), h3, h4, Nat.le_trans h5 hu.size, h6, h7⟩
end Go.Proofs.YtbnebkkpmcjmbaaGreatDoor


namespace Go.Proofs.YtbnebkkpmcjmbaaGreatDoor
open Go.RowKit Go.PL Go.Maps
open Go.Lib (decDigits decDigits_one)
/-- the table of the powers of ten -/
def PowT (w : World) : Prop := Lib.TabIs Tryz.prog w "internal/strconv.uint64pow10" .u64 Lib.pow10Tab
theorem PowT.ext {w w' : World} (h : PowT w) (hu : Upto [] w w') : PowT w' := Lib.tabBelow_of_tabIs h w' hu.ext
theorem itoaG_calls (n : Nat) (h : n < 10000) (w : World) (ht : PowT w) : Calls Tryz.prog 53 #[.int .i64 n] w fun e w' => e = .returned (.string ⟨(decDigits n).toArray⟩) ∧ Upto [] w w' :=
  (Tryz.strconv_Itoa n (by omega) (by omega) w ht).mono fun e w' ⟨h1, k, os, h2⟩ => ⟨by rw [h1, Lib.itoa_nonneg], by rw [h2]; exact Upto.of_below (Lib.below_grow _ _ (Nat.le_refl _) _ _)⟩
theorem decDigits_len (j : Nat) (h : j < 10000) : 1 ≤ (decDigits j).length ∧ (decDigits j).length ≤ 4 := by
  obtain ⟨b, t, e, ht, -⟩ := decDigits_dig 3 j (by omega)
  rw [e]
  simp
  omega
theorem candG_get (s : List UInt8) (j d : Nat) (hd : (decDigits j).length = d) (_hs : s.length ≤ 16) : candG s j = s.take (min s.length (16 - d)) ++ decDigits j := by
  unfold candG
  rw [hd]
  congr 1
  rcases Nat.le_total s.length (16 - d) with h | h
  · rw [Nat.min_eq_left h, List.take_of_length_le h, List.take_of_length_le (Nat.le_refl _)]
  · rw [Nat.min_eq_right h]
theorem freshG_end {s o : List UInt8} {tk : List (List UInt8)} {K j : Nat} (hK : K = freeFromG s tk 9998 2) (hn : nameF s = true) (hc : tk.contains o = false) (hsp : ∀ k, 2 ≤ k → k < K → tk.contains (candG s k) = true)
    (h : (j = 2 ∧ o = s) ∨ (2 < j ∧ o = candG s (j - 1) ∧ tk.contains s = true ∧ j - 1 ≤ K)) : freshG s tk = o := by
  have e1 : ¬ nameF s = false := by rw [hn]; simp
  unfold freshG
  rw [if_neg e1, ← hK]
  rcases h with ⟨h1, h2⟩ | ⟨h1, h2, h3, h4⟩
  · rw [h2] at hc
    rw [if_pos hc, h2]
  · have e2 : ¬ tk.contains s = false := by rw [h3]; simp
    rw [if_neg e2, h2]
    rcases Nat.eq_or_lt_of_le h4 with h5 | h5
    · rw [h5]
    · have := hsp (j - 1) (by omega) h5
      rw [← h2, hc] at this
      cases this
set_option maxRecDepth 100000 in
set_option maxHeartbeats 3200000 in
theorem freshPG_calls (s : List UInt8) (tk : List (List UInt8)) (v : Value) (w : World) (P : Nat → Prop) (h : SlP w P v tk.length (tk.map sV)) (hl : tk.length ≤ 8000) (hs : s.length ≤ 281474976710656) (he : Env w) (ht : PowT w) : Calls Tryz.prog 18 #[.string ⟨s.toArray⟩, v] w fun e w' => e = .returned (.string ⟨(freshG s tk).toArray⟩) ∧ Upto [] w w' := by
  have HID := Lib.hid (fun (x : List UInt8) (u : World) (hu : Upto [] w u) (hx : x.length ≤ 281474976710656) => isIdent_calls x u (he.ext hu) hx)
  have HCO := Lib.hid (fun (x : List UInt8) (u : World) (hu : Upto [] w u) => containsS_calls tk x v u P (h.ext hu) (by omega))
  have HPT := Lib.hid ht
  have HF0 := freeFromG_spec s tk 9998 2
  have HK0 := freeG_lt s tk hl
  have HI0 := freeG_is s tk hl
  have HFE0 := fun (o : List UInt8) (j : Nat) (hn : nameF s = true) (hc : tk.contains o = false) => freshG_end (o := o) (j := j) rfl hn hc HF0.2.2.1
  generalize freeFromG s tk 9998 2 = K at *
  have HF := Lib.hid (And.intro HF0.1 HF0.2.2.1)
  have HK := Lib.hid HK0
  have HI := Lib.hid HI0
  have HFE := Lib.hid HFE0
  have HFN := Lib.hid (fun hn : nameF s = false => freshG_no (tk := tk) hn)
  generalize freshG s tk = R at *
  clear HF0 HK0 HI0 HFE0
  obtain ⟨a, c, rfl⟩ := h.len
  cases hn : nameF s with
  | false =>
    have HE : Hid (R = []) := Lib.hid (HFN.out hn)
    have HN : Hid (identF s = false) := Lib.hid (by rw [ident_is]; exact hn)
    clear h
    go_enter Tryz.func18, Tryz.ntmps18
    go_wp2_with fail
    refine (HID.out s _ (Upto.refl _ _) hs).mono ?_
    rintro e w1 ⟨rfl, hu1⟩
    rw [HN.out]
    have HU := Lib.hid hu1
    clear hu1
    go_wp2_with fail
    go_ret
    exact ⟨by rw [HE.out]; rfl, HU.out⟩
  | true =>
    have HN : Hid (identF s = true) := Lib.hid (by rw [ident_is]; exact hn)
    have HNN := Lib.hid hn
    obtain ⟨b, t, -, -, -, hl16⟩ := name_parts hn
    clear h b t hn
    generalize hS : s = s0 at *
    go_enter Tryz.func18, Tryz.ntmps18
    go_wp2_with fail
    refine (HID.out s0 _ (Upto.refl _ _) hs).mono ?_
    rintro e w1 ⟨rfl, hu1⟩
    rw [HN.out]
    have HU := Lib.hid hu1
    clear hu1
    go_wp2_with fail
    obtain ⟨M, hM⟩ : ∃ M : Nat, M = 20000 := ⟨_, rfl⟩
    have HM := Lib.hid hM
    clear hM
    go_loopw [5, 6] (fun vo vi wr => ∃ (j : Nat) (o : List UInt8), vo = .string ⟨o.toArray⟩ ∧ vi = .int .i64 j ∧ Hid (2 ≤ j ∧ ((j = 2 ∧ o = s0) ∨ (2 < j ∧ o = candG s0 (j - 1) ∧ tk.contains s0 = true ∧ j - 1 ≤ K)) ∧ Upto [] w wr)) (fun _ vi _ => M - (intOf vi).toNat)
    case atStart => exact ⟨2, s0, rfl, rfl, Lib.hid ⟨Nat.le_refl _, Or.inl ⟨rfl, rfl⟩, HU.out⟩⟩
    case round =>
      obtain ⟨j, o, rfl, rfl, HJ⟩ := hrel
      have HOL : Hid (o.length ≤ 16 ∧ nameF o = true ∧ j < 10001) := Lib.hid (by
        rcases HJ.out.2.1 with ⟨h1, rfl⟩ | ⟨h1, rfl, -, h2⟩
        · exact ⟨hl16, HNN.out, by omega⟩
        · have hc := candG_name s0 HNN.out (j - 1) (by have := HK.out; omega)
          obtain ⟨b, t, -, -, -, h3⟩ := name_parts hc
          exact ⟨h3, hc, by have := HK.out; omega⟩)
      go_wp2_with fail
      refine (HCO.out o _ HJ.out.2.2).mono ?_
      rintro e w2 ⟨rfl, rfl⟩
      cases hc : tk.contains o with
      | true =>
        have hjK : Hid (j ≤ K ∧ j < 10000 ∧ tk.contains s0 = true) := Lib.hid (by
          rcases HJ.out.2.1 with ⟨h1, h2⟩ | ⟨h1, h2, h3, h4⟩
          · rw [h2] at hc
            exact ⟨by have := HF.out.1; omega, by omega, hc⟩
          · rcases Nat.eq_or_lt_of_le h4 with h5 | h5
            · rw [h2, h5, HI.out] at hc
              cases hc
            · exact ⟨by omega, by have := HK.out; omega, h3⟩)
        have hd := decDigits_len j hjK.out.2.1
        have HIT := Lib.hid (fun u (hu : Upto [] w u) => itoaG_calls j hjK.out.2.1 u (HPT.out.ext hu))
        have HCG := Lib.hid (candG_get s0 j _ rfl hl16)
        have HJ2 := HJ.out.1
        clear hc
        go_wp2_with fail
        refine (HIT.out _ HJ.out.2.2).mono ?_
        rintro e w3 ⟨rfl, hu3⟩
        have HU3 := Lib.hid hu3
        clear hu3
        generalize hD : decDigits j = D at *
        have hDl0 : (D.length : Int) ≤ 4 := by omega
        have hDl1 : (1 : Int) ≤ D.length := by omega
        have hsl : (s0.length : Int) ≤ 16 := by omega
        go_wp2_with fail
        have hj100 := hjK.out.2.1
        have hw : wrap64 ((j : Int) + 1) = ((j + 1 : Nat) : Int) := by unfold wrap64; omega
        refine ⟨⟨j + 1, candG s0 j, ?_, by rw [hw], Lib.hid ⟨by omega, Or.inr ⟨by omega, by rw [Nat.add_sub_cancel], hjK.out.2.2, by rw [Nat.add_sub_cancel]; exact hjK.out.1⟩, HJ.out.2.2.trans_ext HU3.out⟩⟩, ?_⟩
        · have he := ext_to (s := s0) 0 (min s0.length (16 - D.length))
          rw [Nat.zero_add, List.drop_zero] at he
          rw [show (min (↑s0.length) (16 - (D.length : Int))).toNat = min s0.length (16 - D.length) by omega, he, ← byte_app, ← HCG.out]
        · exact meas_up (by have := HM.out; omega) hw
      | false =>
        have HE : Hid (R = o) := Lib.hid (HFE.out o j HNN.out hc HJ.out.2.1)
        have HNO : Hid (identF o = true) := Lib.hid (by rw [ident_is]; exact HOL.out.2.1)
        have HOI := Lib.hid (HID.out o w2 HJ.out.2.2 (by have := HOL.out.1; omega))
        clear hc
        go_wp2_with fail
        refine HOI.out.mono ?_
        rintro e w3 ⟨rfl, hu3⟩
        rw [HNO.out]
        have HU3 := Lib.hid hu3
        clear hu3
        go_wp2_with fail
        go_ret
        exact ⟨by rw [HE.out]; rfl, HJ.out.2.2.trans_ext HU3.out⟩
theorem dgF_isG : ∀ (k n : Nat) (s : List UInt8), 0 < n → n < 10 ^ k → dgF (k + 1) n s = decDigits n ++ s
  | 0, n, s, h0, h => by simp at h; omega
  | k + 1, n, s, h0, h => by
    rw [dgF, if_pos (Or.inr h0)]
    rcases Nat.lt_or_ge n 10 with h1 | h1
    · rw [decDigits_one h1, Nat.div_eq_of_lt h1, Nat.mod_eq_of_lt h1, dgF, if_neg (by simp)]
      rfl
    · rw [dgF_isG k (n / 10) _ (by omega) (by
        rw [Nat.div_lt_iff_lt_mul (by omega)]
        rw [Nat.pow_succ] at h
        exact h), decDigits_more (by omega : ¬ n < 10)]
      simp
theorem dg_measG {b : UInt8} {s : List UInt8} (h : s.length ≤ 5) : (match Value.string ⟨(b :: s).toArray⟩ with | .string b => 20 - b.size | _ => 0) < (match Value.string ⟨s.toArray⟩ with | .string b => 20 - b.size | _ => 0) := by
  have h1 : (ByteArray.mk (b :: s).toArray).size = s.length + 1 := by show (b :: s).toArray.size = _; simp
  have h2 : (ByteArray.mk s.toArray).size = s.length := by show s.toArray.size = _; simp
  simp only [h1, h2]
  omega
set_option maxRecDepth 100000 in
set_option maxHeartbeats 3200000 in
theorem digRG_calls (N : Nat) (h0 : 0 < N) (hN : N < 10000) (w : World) : Calls Tryz.prog 81 #[.int .i64 (N : Int)] w fun e w' => e = .returned (.string ⟨(decDigits N).toArray⟩) ∧ Upto [] w w' := by
  have HR := Lib.hid (show dgF 5 N [] = decDigits N by rw [dgF_isG 4 N [] h0 (by omega)]; simp)
  generalize decDigits N = R at *
  have HN := Lib.hid (And.intro h0 hN)
  have HM : Hid (∃ M : Nat, M = 100) := Lib.hid ⟨_, rfl⟩
  go_enter Tryz.func81, Tryz.ntmps81
  go_wp2_with fail
  go_loopw [0, 3] (fun vn vs wr => ∃ (f n : Nat) (s : List UInt8), vn = .int .i64 (n : Int) ∧ vs = .string ⟨s.toArray⟩ ∧ Hid (dgF f n s = R ∧ (f + s.length = 5 ∧ n < 10 ^ (f - 1) ∧ (s = [] → 0 < n)) ∧ Upto [] w wr)) (fun vn vs _ => match vs with | .string b => 20 - b.size | _ => 0)
  case atStart => exact ⟨5, N, [], rfl, rfl, Lib.hid ⟨HR.out, ⟨rfl, HN.out.2, fun _ => HN.out.1⟩, Upto.refl _ _⟩⟩
  case round =>
    obtain ⟨f, n, s, rfl, rfl, HI⟩ := hrel
    by_cases hc : s = [] ∨ 0 < n
    · have hn0 : (0 : Int) ≤ n := by omega
      have HNP : Hid (0 < n) := Lib.hid (by
        rcases hc with hc | hc
        · exact HI.out.2.1.2.2 hc
        · exact hc)
      have HD : Hid (∃ f', dgF f' (n / 10) (UInt8.ofNat (48 + n % 10) :: s) = R ∧ (f' + (UInt8.ofNat (48 + n % 10) :: s).length = 5 ∧ n / 10 < 10 ^ (f' - 1) ∧ (UInt8.ofNat (48 + n % 10) :: s = [] → 0 < n / 10))) := Lib.hid (by
        obtain ⟨h1, ⟨h2, h3, h4⟩, -⟩ := HI.out
        match f, h1, h2, h3 with
        | 0, h1, h2, h3 => simp at h3; have := HNP.out; omega
        | 1, h1, h2, h3 => simp at h3; have := HNP.out; omega
        | f + 2, h1, h2, h3 =>
          rw [dgF, if_pos hc] at h1
          refine ⟨f + 1, h1, by simp only [List.length_cons]; omega, ?_, by simp⟩
          have h5 : n < 10 ^ (f + 1) := h3
          rw [Nat.pow_succ] at h5
          show n / 10 < 10 ^ f
          rw [Nat.div_lt_iff_lt_mul (by omega)]
          exact h5)
      have HU := Lib.hid HI.out.2.2
      have hsl : s.length ≤ 5 := by have := HI.out.2.1.1; omega
      have hn9 : (n : Int) ≤ 10000 := by
        have h1 := HI.out.2.1.2.1
        have h2 := HI.out.2.1.1
        have : 10 ^ (f - 1) ≤ 10 ^ 4 := Nat.pow_le_pow_right (by omega) (by omega)
        omega
      have hcv := conv_digit wr n
      have HUA := Lib.hid (HU.out.alloc (.cells #[.int .u8 (48 + (n : Int) % 10)] 5))
      clear HI
      by_cases hs : s = []
      · have HS := Lib.hid hs
        subst hs
        clear hc
        go_wp2_with fail
        obtain ⟨f', h1, h2⟩ := HD.out
        rw [show (⟨#[]⟩ : ByteArray) = ⟨([] : List UInt8).toArray⟩ from rfl, dg_str]
        exact ⟨⟨f', n / 10, _, by simp, rfl, Lib.hid ⟨h1, h2, HUA.out⟩⟩, dg_measG (by simp)⟩
      · have hb : (s == []) = false := by rw [beq_eq_false_iff_ne]; exact hs
        have hnp : (0 : Int) < n := by
          rcases hc with h | h
          · exact absurd h hs
          · omega
        clear hc hs
        go_wp2_with fail
        obtain ⟨f', h1, h2⟩ := HD.out
        rw [dg_str]
        exact ⟨⟨f', n / 10, _, by simp, rfl, Lib.hid ⟨h1, h2, HUA.out⟩⟩, dg_measG hsl⟩
    · have hs : s ≠ [] := fun h => hc (Or.inl h)
      have hn : n = 0 := by
        rcases Nat.eq_zero_or_pos n with h | h
        · exact h
        · exact absurd (Or.inr h) hc
      subst hn
      have hb : (s == []) = false := by rw [beq_eq_false_iff_ne]; exact hs
      have HE : Hid (s = R) := Lib.hid (by
        have := HI.out.1
        cases f with
        | zero => exact this
        | succ f => rw [dgF, if_neg hc] at this; exact this)
      clear hc hs
      go_wp2_with fail
      go_ret
      exact ⟨by rw [HE.out]; rfl, HI.out.2.2⟩
set_option maxRecDepth 100000 in
set_option maxHeartbeats 3200000 in
theorem freshRG_calls (s : List UInt8) (tk : List (List UInt8)) (v : Value) (w : World) (P : Nat → Prop) (h : SlP w P v tk.length (tk.map sV)) (hl : tk.length ≤ 8000) (hs : s.length ≤ 281474976710656) : Calls Tryz.prog 50 #[.string ⟨s.toArray⟩, v] w fun e w' => e = .returned (.string ⟨(freshG s tk).toArray⟩) ∧ Upto [] w w' := by
  have HID := Lib.hid (fun (x : List UInt8) (u : World) (hx : x.length ≤ 281474976710656) => isName_calls x u hx)
  have HCO := Lib.hid (fun (x : List UInt8) (u : World) (hu : Upto [] w u) => hasR_calls tk x v u P (h.ext hu) (by omega))
  have HF0 := freeFromG_spec s tk 9998 2
  have HK0 := freeG_lt s tk hl
  have HI0 := freeG_is s tk hl
  have HFC := Lib.hid (fun (hn : nameF s = true) (hc : tk.contains s = true) => freshG_cand hn hc)
  generalize freeFromG s tk 9998 2 = K at *
  have HF := Lib.hid (And.intro HF0.1 HF0.2.2.1)
  have HK := Lib.hid HK0
  have HI := Lib.hid HI0
  have HFN := Lib.hid (fun hn : nameF s = false => freshG_no (tk := tk) hn)
  have HFS := Lib.hid (fun (hn : nameF s = true) (hc : tk.contains s = false) => freshG_self hn hc)
  generalize freshG s tk = R at *
  clear HF0 HK0 HI0
  obtain ⟨a, c, rfl⟩ := h.len
  clear h
  cases hn : nameF s with
  | false =>
    have HE : Hid (R = []) := Lib.hid (HFN.out hn)
    go_enter Tryz.func50, Tryz.ntmps50
    go_wp2_with fail
    refine (HID.out s _ hs).mono ?_
    rintro e w1 ⟨rfl, hu1⟩
    rw [hn]
    have HU := Lib.hid hu1
    clear hu1
    go_wp2_with fail
    go_ret
    exact ⟨by rw [HE.out]; rfl, HU.out⟩
  | true =>
    obtain ⟨b, t, -, -, -, hl16⟩ := name_parts hn
    clear b t
    cases hc : tk.contains s with
    | false =>
      have HE : Hid (R = s) := Lib.hid (HFS.out hn hc)
      go_enter Tryz.func50, Tryz.ntmps50
      go_wp2_with fail
      refine (HID.out s _ hs).mono ?_
      rintro e w1 ⟨rfl, hu1⟩
      rw [hn]
      have HU := Lib.hid hu1
      clear hu1
      go_wp2_with fail
      refine (HCO.out s _ HU.out).mono ?_
      rintro e w2 ⟨rfl, rfl⟩
      rw [hc]
      go_wp2_with fail
      go_ret
      exact ⟨by rw [HE.out]; rfl, HU.out⟩
    | true =>
      have HE : Hid (R = candG s K) := Lib.hid (HFC.out hn hc)
      have HNN := Lib.hid hn
      obtain ⟨M, hM⟩ : ∃ M : Nat, M = 20000 := ⟨_, rfl⟩
      have HM := Lib.hid hM
      clear hM
      go_enter Tryz.func50, Tryz.ntmps50
      go_wp2_with fail
      refine (HID.out s _ hs).mono ?_
      rintro e w1 ⟨rfl, hu1⟩
      rw [hn]
      have HU := Lib.hid hu1
      clear hu1
      go_wp2_with fail
      refine (HCO.out s _ HU.out).mono ?_
      rintro e w2 ⟨rfl, rfl⟩
      rw [hc]
      clear hc hn
      have HS := Lib.hid hs
      clear hs
      go_wp2_with fail
      go_loopw [5] (fun vi wr => ∃ j : Nat, vi = .int .i64 j ∧ Hid (2 ≤ j ∧ j ≤ K ∧ Upto [] w wr)) (fun vi _ => M - (intOf vi).toNat)
      case atStart => exact ⟨2, rfl, Lib.hid ⟨Nat.le_refl _, HF.out.1, HU.out⟩⟩
      case round =>
        obtain ⟨j, rfl, HJ⟩ := hrel
        have hj100 : j < 10000 := by have := HK.out; have := HJ.out.2.1; omega
        have hj0 : (0 : Int) ≤ j := by omega
        have hd := decDigits_len j hj100
        have HIT := Lib.hid (digRG_calls j (by have := HJ.out.1; omega) hj100)
        have HCG := Lib.hid (candG_get s j _ rfl hl16)
        have HCN := Lib.hid (candG_name s HNN.out j hj100)
        have HU1 := Lib.hid HJ.out.2.2
        go_wp2_with fail
        refine (HIT.out _).mono ?_
        rintro e w3 ⟨rfl, hu3⟩
        have HU3 := Lib.hid (HU1.out.trans_ext hu3)
        clear hu3
        generalize hD : decDigits j = D at *
        have hDl0 : (D.length : Int) ≤ 4 := by omega
        have hDl1 : (1 : Int) ≤ D.length := by omega
        have hsl : (s.length : Int) ≤ 16 := by omega
        clear hD
        go_wp2_with fail
        have hcs : (({ data := s.toArray } : ByteArray).extract 0 (min (s.length : Int) (16 - D.length)).toNat ++ { data := D.toArray }) = ⟨(candG s j).toArray⟩ := by
          have he := ext_to (s := s) 0 (min s.length (16 - D.length))
          rw [Nat.zero_add, List.drop_zero] at he
          rw [show (min (↑s.length) (16 - (D.length : Int))).toNat = min s.length (16 - D.length) by omega, he, ← byte_app, ← HCG.out]
        simp only [hcs]
        clear hcs
        have hcl : (candG s j).length ≤ 281474976710656 := by
          obtain ⟨b, t, -, -, -, h3⟩ := name_parts HCN.out
          omega
        have HIO := Lib.hid (HID.out (candG s j) w3 hcl)
        clear hcl
        refine HIO.out.mono ?_
        rintro e w4 ⟨rfl, hu4⟩
        rw [HCN.out]
        have HU4 := Lib.hid (HU3.out.trans_ext hu4)
        clear hu4 HIO
        go_wp2_with fail
        refine (HCO.out (candG s j) _ HU4.out).mono ?_
        rintro e w5 ⟨rfl, rfl⟩
        cases hc : tk.contains (candG s j) with
        | true =>
          have HJK : Hid (j + 1 ≤ K) := Lib.hid (by
            rcases Nat.eq_or_lt_of_le HJ.out.2.1 with h5 | h5
            · rw [h5, HI.out] at hc
              cases hc
            · omega)
          have HJ2 := HJ.out.1
          clear hc
          go_wp2_with fail
          rw [show (j : Int) + 1 = ((j + 1 : Nat) : Int) from rfl]
          exact ⟨⟨j + 1, rfl, Lib.hid ⟨by omega, HJK.out, HU4.out⟩⟩, meas_up (by have := HM.out; omega) rfl⟩
        | false =>
          have HJK : Hid (R = candG s j) := Lib.hid (by
            rcases Nat.eq_or_lt_of_le HJ.out.2.1 with h5 | h5
            · rw [HE.out, h5]
            · have := HF.out.2 j HJ.out.1 h5
              rw [hc] at this
              cases this)
          clear hc
          go_wp2_with fail
          go_ret
          exact ⟨by rw [HJK.out]; rfl, HU4.out⟩
end Go.Proofs.YtbnebkkpmcjmbaaGreatDoor


namespace Go.Proofs.YtbnebkkpmcjmbaaGreatDoor
open Go.RowKit Go.PL Go.Maps
set_option maxRecDepth 100000 in
set_option maxHeartbeats 3200000 in
theorem FreeT_calls (nd : Nd) (v : Value) (w : World) (P : Nat → Prop) (h : NdV w P nd v) (hk : sizeF nd ≤ 100000) (hg : goodN nd) (hn : nmsF nd ≤ 200000) : Calls Tryz.prog 19 #[v] w (fun e w' => ∃ v, e = .returned v ∧ TxI w (freeP nd [] []) v w') := by
  obtain ⟨op, a1, n1, c1, so, nn, mm, a2, n2, c2, rfl⟩ := h.six
  obtain ⟨W, hW⟩ : ∃ W, W = w.alloc (.cells #[.int .i64 op, .slice a1 n1 c1, .int .i64 so, .int .i64 nn, .int .i64 mm, .slice a2 n2 c2] 30) := ⟨_, rfl⟩
  have HU1 : Hid (Upto [] w W) := Lib.hid (by rw [hW]; exact (Upto.refl [] w).alloc _)
  have HB1 : Hid (W.heap[w.heap.size]? = some (.cells #[.int .i64 op, .slice a1 n1 c1, .int .i64 so, .int .i64 nn, .int .i64 mm, .slice a2 n2 c2] 30 (0, 0))) := Lib.hid (by rw [hW]; exact new_at w _)
  have HF := Lib.hid (free_calls 100000 nd hk (by omega) hg _ W _ (h.ext HU1.out).here (fun _ => False) [] (.slice none 0 0) SlP.nil [] (.slice none 0 0) (by simpa using World.ownsRow_nil W 0 9 1) (fun b hb => ⟨hb, by simp [Value.ownBlock]⟩) (fun b hb => hb.elim) (by simp; omega) (by simp; omega))
  obtain ⟨x0, x1, x2, x3, x4, x5⟩ := cells6 HB1.out
  clear h
  go_enter Tryz.func19, Tryz.ntmps19
  go_wp2_with fail
  simp only [← hW]
  clear hW
  go_wp2_with fail
  refine HF.out.mono ?_
  rintro e w2 ⟨v2, rfl, ho⟩
  have HU2 : Hid (Upto [] W w2) := Lib.hid (by simpa [Value.ownBlock] using ho.up)
  have HS : Hid (TxI w (freeP nd [] []) v2 w2) := Lib.hid ⟨ho.row, (fun g hg => by
    rcases ho.wh g hg with h1 | h1
    · simp [Value.ownBlock] at h1
    · exact Nat.le_trans HU1.out.size h1), HU1.out.trans_ext HU2.out⟩
  obtain ⟨a9, c9, rfl, -⟩ := ownsRow_len ho.row
  clear ho x0 x1 x2 x3 x4 x5
  go_wp2_with fail
  go_ret
  exact ⟨_, rfl, HS.out⟩
end Go.Proofs.YtbnebkkpmcjmbaaGreatDoor


namespace Go.Proofs.YtbnebkkpmcjmbaaGreatDoor
open Go.RowKit Go.PL Go.Maps
/-- the blocks from lo on, below hi -/
def Rg (lo hi : Nat) : List Nat := List.range' lo (hi - lo)
theorem mem_rg {lo hi b : Nat} : b ∈ Rg lo hi ↔ lo ≤ b ∧ b < hi := by
  unfold Rg
  rw [List.mem_range'_1]
  omega
theorem Upto.rg {lo hi lo' hi' : Nat} {w w' : World} (h : Upto (Rg lo hi) w w') (h1 : lo' ≤ lo) (h2 : hi ≤ hi') : Upto (Rg lo' hi') w w' := h.mono (fun b hb => by
  rw [mem_rg] at hb ⊢
  omega)
/-- older blocks are not touched: what stood ahead of lo stands on -/
theorem Upto.far {lo hi : Nat} {w0 w w' : World} (h0 : Upto [] w0 w) (h : Upto (Rg lo hi) w w') (hl : w0.heap.size ≤ lo) : Upto [] w0 w' := h0.trans h (fun k hk => Or.inr (by rw [mem_rg] at hk; omega))
/-- what renaming answers: the value as it was, its blocks changed -/
def RPost (lo hi : Nat) (v : Value) (n' : Nd) (w : World) (e : Ending) (w' : World) : Prop := e = .returned v ∧ OwT w' n' v lo hi ∧ Upto (Rg lo hi) w w'
/-- what a rename of depth d is called on -/
structure RIn (w0 w : World) (d lo hi : Nat) (n : Nd) (v : Value) : Prop where
  own : OwT w n v lo hi
  hi : hi ≤ w.heap.size
  lo : w0.heap.size ≤ lo
  up : Upto [] w0 w
  deep : depthF n ≤ d
  one : oneN n
  good : goodN n
  few : nmsF n + sizeF n + 2 ≤ 8000
/-- the operands, i of them renamed -/
structure KI (w0 w : World) (f : Nd → Nd) (l : List Nd) (cs : Array Value) (o g m hi i : Nat) (wr : World) : Prop where
  ow : OwTs wr (mapAt f 0 i l) cs o g m hi
  up : Upto (Rg m hi) w wr
  at_ : ∃ t, wr.heap[g]? = some (.cells cs t (0, 0))
theorem KI.ext {w0 w wr w2 : World} {f : Nd → Nd} {l : List Nd} {cs : Array Value} {o g m hi i : Nat} (h : KI w0 w f l cs o g m hi i wr) (hh : hi ≤ w.heap.size) (hu : Upto [] wr w2) : KI w0 w f l cs o g m hi i w2 := by
  obtain ⟨t, ht⟩ := h.at_
  exact ⟨OwTs.same _ _ _ _ _ _ h.ow (SameIn.upto hu (Nat.le_trans hh h.up.size) (by simp)), h.up.trans_ext hu, t, hu.at ht (by simp)⟩
/-- an operand's six cells -/
def Six (cs : Array Value) (p : Nat) (v0 v1 v2 v3 v4 v5 : Value) : Prop := cs[p]? = some v0 ∧ cs[p + 1]? = some v1 ∧ cs[p + 2]? = some v2 ∧ cs[p + 3]? = some v3 ∧ cs[p + 4]? = some v4 ∧ cs[p + 5]? = some v5
theorem Six.cells {w : World} {g p : Nat} {t : TypeId} {cs : Array Value} {v0 v1 v2 v3 v4 v5 : Value} (h : Six cs p v0 v1 v2 v3 v4 v5) (hg : w.heap[g]? = some (.cells cs t (0, 0))) : w.cell? ⟨g, p, none⟩ = some v0 ∧ w.cell? ⟨g, p + 1, none⟩ = some v1 ∧ w.cell? ⟨g, p + 2, none⟩ = some v2 ∧ w.cell? ⟨g, p + 3, none⟩ = some v3 ∧ w.cell? ⟨g, p + 4, none⟩ = some v4 ∧ w.cell? ⟨g, p + 5, none⟩ = some v5 := by
  obtain ⟨k0, k1, k2, k3, k4, k5⟩ := h
  exact ⟨by rw [cell_of hg]; exact k0, by rw [cell_of hg]; exact k1, by rw [cell_of hg]; exact k2, by rw [cell_of hg]; exact k3, by rw [cell_of hg]; exact k4, by rw [cell_of hg]; exact k5⟩
theorem Six.same {w : World} {g p : Nat} {t : TypeId} {cs : Array Value} {v0 v1 v2 v3 v4 v5 : Value} (h : Six cs p v0 v1 v2 v3 v4 v5) (hg : w.heap[g]? = some (.cells cs t (0, 0))) : (((((w.setCell ⟨g, p, none⟩ v0).setCell ⟨g, p + 1, none⟩ v1).setCell ⟨g, p + 2, none⟩ v2).setCell ⟨g, p + 3, none⟩ v3).setCell ⟨g, p + 4, none⟩ v4).setCell ⟨g, p + 5, none⟩ v5 = w := by
  obtain ⟨k0, k1, k2, k3, k4, k5⟩ := h
  rw [set_zero hg _ _ k0, set_zero hg _ _ k1, set_zero hg _ _ k2, set_zero hg _ _ k3, set_zero hg _ _ k4, set_zero hg _ _ k5]
/-- one operand: where it lies, and the state once it is renamed -/
theorem KI.step {w0 w wr : World} {d : Nat} {f : Nd → Nd} {l : List Nd} {cs : Array Value} {o g m hi i : Nat} {x : Nd} (h : KI w0 w f l cs o g m hi i wr) (hx : l[i]? = some x) (hh : hi ≤ w.heap.size) (h0 : Upto [] w0 w) (hl : w0.heap.size ≤ m)
    (hd : depthF x ≤ d) (h1 : oneN x) (h2 : goodN x) (h3 : nmsF x + sizeF x + 2 ≤ 8000) :
    ∃ v0 v1 v2 v3 v4 v5 k q, Six cs (o + i * 6) v0 v1 v2 v3 v4 v5 ∧ m ≤ k ∧ q ≤ hi ∧ (g < k ∨ q ≤ g) ∧ (∀ u, Upto [] wr u → RIn w0 u d k q x (.agg #[v0, v1, v2, v3, v4, v5])) ∧
      ∀ u w', Upto [] wr u → RPost k q (.agg #[v0, v1, v2, v3, v4, v5]) (f x) u (.returned (.agg #[v0, v1, v2, v3, v4, v5])) w' → KI w0 w f l cs o g m hi (i + 1) w' := by
  have hxi : (mapAt f 0 i l)[i]? = some x := by
    have := mapAt_get f 0 i l
    rw [Nat.zero_add] at this
    rw [this, hx]
  obtain ⟨t, ht⟩ := h.at_
  obtain ⟨v0, v1, v2, v3, v4, v5, k, q, c0, c1, c2, c3, c4, c5, i1, i2, i3, i4, i5, i6⟩ := OwTs.at _ cs o g m hi i x h.ow hxi
  refine ⟨v0, v1, v2, v3, v4, v5, k, q, (by rw [Nat.mul_comm]; exact ⟨c0, c1, c2, c3, c4, c5⟩), i1, i3, i4, fun u hu => ?_, fun u w' hu hp => ?_⟩
  · have hwr := h.up.size
    exact ⟨OwT.same _ _ _ _ i5 (SameIn.upto hu (by omega) (by simp)), by have := hu.size; omega, by omega, (Upto.far h0 h.up hl).trans_ext hu, hd, h1, h2, h3⟩
  · obtain ⟨-, hp1, hp2⟩ := hp
    have hwr := h.up.size
    have hset : mapAt f 0 (i + 1) l = (mapAt f 0 i l).set i (f x) := by
      have := mapAt_next (f := f) (k := 0) (i := i) (l := l) (x := x) (by rw [Nat.zero_add]; exact hx)
      rw [Nat.zero_add] at this
      exact this
    have hsame : Upto (Rg k q) wr w' := (hu.mono (by simp)).trans_same hp2
    refine ⟨?_, h.up.trans_same (Upto.rg hsame i1 i3), t, hsame.at ht (fun hm => by rw [mem_rg] at hm; omega)⟩
    rw [hset]
    exact i6 w' (f x) hp1 (fun b hb hb2 hb3 => hsame.block b (by omega) (fun hm => by rw [mem_rg] at hm; omega))
end Go.Proofs.YtbnebkkpmcjmbaaGreatDoor


namespace Go.Proofs.YtbnebkkpmcjmbaaGreatDoor
open Go.RowKit Go.PL Go.Maps
theorem NmT.val {w : World} {nms : List (List UInt8)} {vn : Value} {lo m : Nat} (h : NmT w nms vn lo m) : ∃ a c, vn = .slice a nms.length c := by
  rcases h with ⟨rfl, a, c, rfl⟩ | ⟨g, o, c, cs, t, rfl, -⟩
  · exact ⟨_, _, rfl⟩
  · exact ⟨_, _, rfl⟩
theorem NmT.cell {w : World} {nms : List (List UInt8)} {g o c lo m n : Nat} (h : NmT w nms (.slice (some ⟨g, o, none⟩) n c) lo m) {j : Nat} {x : List UInt8} (hx : nms[j]? = some x) : w.cell? ⟨g, o + j, none⟩ = some (sV x) ∧ w.frozen? ⟨g, o + j, none⟩ = false ∧ lo ≤ g ∧ g < m := by
  rcases h with ⟨rfl, -⟩ | ⟨g', o', c', cs, t, e, h1, h2, h3, h4, h5⟩
  · simp at hx
  · simp only [Value.slice.injEq, Option.some.injEq, Addr.mk.injEq] at e
    obtain ⟨⟨rfl, rfl, -⟩, -, rfl⟩ := e
    exact ⟨by rw [cell_of h4]; exact h5 j x hx, free_of h4 _, h2, h3⟩
/-- the operands' place -/
def KdsT (w : World) (l : List Nd) (a2 : Option Addr) (cs : Array Value) (o g m hi : Nat) : Prop := l = [] ∨ (a2 = some ⟨g, o, none⟩ ∧ (∃ t, w.heap[g]? = some (.cells cs t (0, 0))) ∧ m ≤ g ∧ g < hi ∧ OwTs w l cs o g m hi)
theorem KdsT.same {w w' : World} {l : List Nd} {a2 : Option Addr} {cs : Array Value} {o g m hi : Nat} (h : KdsT w l a2 cs o g m hi) (hs : SameIn w w' m hi) : KdsT w' l a2 cs o g m hi := by
  rcases h with h | ⟨h1, ⟨t, h2⟩, h3, h4, h5⟩
  · exact Or.inl h
  · exact Or.inr ⟨h1, ⟨t, (hs g h3 h4).trans h2⟩, h3, h4, OwTs.same _ _ _ _ _ _ h5 hs⟩
theorem OwT.parts {w : World} {op so nn mm : Int} {nms : List (List UInt8)} {l : List Nd} {v : Value} {lo hi : Nat} (h : OwT w (.mk op nms so nn mm l) v lo hi) : ∃ a1 c1 a2 c2 m cs o g, v = .agg #[.int .i64 op, .slice a1 nms.length c1, .int .i64 so, .int .i64 nn, .int .i64 mm, .slice a2 l.length c2] ∧ lo ≤ m ∧ m ≤ hi ∧ NmT w nms (.slice a1 nms.length c1) lo m ∧ KdsT w l a2 cs o g m hi := by
  unfold OwT at h
  obtain ⟨vn, vl, m, e, h1, h2, h3, h4⟩ := h
  obtain ⟨a1, c1, rfl⟩ := h3.val
  rcases h4 with ⟨rfl, a, c, rfl⟩ | ⟨g, o, c, cs, t, rfl, h5, h6, h7, h8⟩
  · exact ⟨a1, c1, a, c, m, #[], 0, 0, e, h1, h2, h3, Or.inl rfl⟩
  · exact ⟨a1, c1, _, c, m, cs, o, g, e, h1, h2, h3, Or.inr ⟨rfl, ⟨t, h5⟩, h6, h7, h8⟩⟩
theorem OwT.join {w : World} {op so nn mm : Int} {nms : List (List UInt8)} {l : List Nd} {a1 a2 : Option Addr} {c1 c2 n1 n2 m o g lo hi : Nat} {cs : Array Value} (h1 : nms.length = n1) (h2 : l.length = n2) (h3 : lo ≤ m) (h4 : m ≤ hi) (hN : NmT w nms (.slice a1 n1 c1) lo m) (hK : KdsT w l a2 cs o g m hi) : OwT w (.mk op nms so nn mm l) (.agg #[.int .i64 op, .slice a1 n1 c1, .int .i64 so, .int .i64 nn, .int .i64 mm, .slice a2 n2 c2]) lo hi := by
  subst h1 h2
  unfold OwT
  refine ⟨_, _, m, rfl, h3, h4, hN, ?_⟩
  rcases hK with rfl | ⟨rfl, ⟨t, k1⟩, k2, k3, k4⟩
  · exact Or.inl ⟨rfl, _, _, rfl⟩
  · exact Or.inr ⟨g, o, c2, cs, t, rfl, k1, k2, k3, k4⟩
/-- between the rounds over the names: w3 is the world ahead of the loop -/
structure NI (w3 : World) (f : List UInt8 → List UInt8) (k : Nat) (nms : List (List UInt8)) (a1 : Option Addr) (c1 lo m i : Nat) (wr : World) : Prop where
  nm : NmT wr (mapAt f k i nms) (.slice a1 nms.length c1) lo m
  up : Upto (Rg lo m) w3 wr
theorem NI.start {w3 : World} {f : List UInt8 → List UInt8} {k : Nat} {nms : List (List UInt8)} {a1 : Option Addr} {c1 lo m : Nat} (h : NmT w3 nms (.slice a1 nms.length c1) lo m) : NI w3 f k nms a1 c1 lo m 0 w3 := ⟨by rw [mapAt_zero]; exact h, Upto.refl _ _⟩
theorem NI.at {w3 wr : World} {f : List UInt8 → List UInt8} {k : Nat} {nms : List (List UInt8)} {g o c1 lo m i : Nat} {x : List UInt8} (h : NI w3 f k nms (some ⟨g, o, none⟩) c1 lo m i wr) (hx : nms[k + i]? = some x) : wr.cell? ⟨g, o + k + i, none⟩ = some (sV x) ∧ wr.frozen? ⟨g, o + k + i, none⟩ = false := by
  have := h.nm.cell (j := k + i) (x := x) (by rw [mapAt_get, hx])
  rw [← Nat.add_assoc] at this
  exact ⟨this.1, this.2.1⟩
theorem NI.stay {w3 wr : World} {f : List UInt8 → List UInt8} {k : Nat} {nms : List (List UInt8)} {a1 : Option Addr} {c1 lo m i : Nat} {x : List UInt8} (h : NI w3 f k nms a1 c1 lo m i wr) (hx : nms[k + i]? = some x) (hf : f x = x) : NI w3 f k nms a1 c1 lo m (i + 1) wr := ⟨by rw [mapAt_stay hx hf]; exact h.nm, h.up⟩
theorem NI.put {w3 wr : World} {f : List UInt8 → List UInt8} {k : Nat} {nms : List (List UInt8)} {g o c1 lo m i : Nat} {x y : List UInt8} (h : NI w3 f k nms (some ⟨g, o, none⟩) c1 lo m i wr) (hx : nms[k + i]? = some x) (hf : f x = y) : NI w3 f k nms (some ⟨g, o, none⟩) c1 lo m (i + 1) (wr.setCell ⟨g, o + k + i, none⟩ (sV y)) := by
  have hlt : k + i < nms.length := (List.getElem?_eq_some_iff.1 hx).1
  have hl := mapAt_len f k i nms
  have hc := h.nm.cell (j := k + i) (x := x) (by rw [mapAt_get, hx])
  refine ⟨?_, h.up.trans_same ((Upto.refl _ wr).setCell (p := ⟨g, o + k + i, none⟩) (Or.inl (mem_rg.2 ⟨hc.2.2.1, hc.2.2.2⟩)) _)⟩
  rw [mapAt_next hx, hf, Nat.add_assoc, ← hl]
  exact NmT.set (by rw [hl]; exact h.nm) (by rw [hl]; exact hlt)
theorem nmss_mem : ∀ {l : List Nd} {x : Nd}, x ∈ l → nmsF x ≤ nmssF l
  | [], _, h => by cases h
  | y :: ys, x, h => by
    unfold nmssF
    rcases List.mem_cons.1 h with rfl | h
    · omega
    · have := nmss_mem h
      omega
theorem NmT.slp {w : World} {nms : List (List UInt8)} {vn : Value} {lo m : Nat} (h : NmT w nms vn lo m) : SlP w (fun _ => True) vn nms.length (nms.map sV) := by
  rcases h with ⟨rfl, a, c, rfl⟩ | ⟨g, o, c, cs, t, rfl, k1, k2, k3, k4, k5⟩
  · exact Or.inl ⟨rfl, rfl, a, c, rfl⟩
  · refine Or.inr ⟨g, o, c, rfl, ⟨trivial, ⟨_, _, _, k4⟩, k1⟩, fun j u hj => ?_⟩
    rw [cell_of k4]
    rw [List.getElem?_map] at hj
    cases hx : nms[j]? with
    | none => rw [hx] at hj; cases hj
    | some x =>
      rw [hx] at hj
      cases hj
      exact k5 j x hx
end Go.Proofs.YtbnebkkpmcjmbaaGreatDoor


namespace Go.Proofs.YtbnebkkpmcjmbaaGreatDoor
open Go.RowKit Go.PL Go.Maps
theorem uses_binds {op : Int} {nms : List (List UInt8)} (h : bindsF op nms.length = true) : usesF op nms = [] := by
  unfold bindsF at h
  have ho : op = 16 ∨ op = 17 := by
    simp only [Bool.and_eq_true, Bool.or_eq_true, decide_eq_true_eq] at h
    exact h.1
  unfold usesF
  rw [if_neg (by omega), if_neg (by omega)]
theorem KdsT.first {w : World} {l : List Nd} {a2 : Option Addr} {cs : Array Value} {o g m hi : Nat} {x : Nd} (h : KdsT w l a2 cs o g m hi) (hl : l = [x]) : ∃ qo b1 q1 e1 qs qn qm b2 q2 e2 k q, Six cs o (.int .i64 qo) (.slice b1 q1 e1) (.int .i64 qs) (.int .i64 qn) (.int .i64 qm) (.slice b2 q2 e2) ∧ ∃ t, w.heap[g]? = some (.cells cs t (0, 0)) ∧ NdV w (fun b => k ≤ b ∧ b < q) x (.agg #[.int .i64 qo, .slice b1 q1 e1, .int .i64 qs, .int .i64 qn, .int .i64 qm, .slice b2 q2 e2]) := by
  subst hl
  rcases h with h | ⟨-, ⟨t, ht⟩, -, -, h⟩
  · cases h
  · obtain ⟨v0, v1, v2, v3, v4, v5, k, q, c0, c1, c2, c3, c4, c5, -, -, -, -, h5, -⟩ := OwTs.at _ _ _ _ _ _ 0 x h rfl
    have hnd := h5.ndv _ _ _ _
    obtain ⟨qo, b1, q1, e1, qs, qn, qm, b2, q2, e2, heq⟩ := hnd.six
    obtain ⟨rfl, rfl, rfl, rfl, rfl, rfl⟩ : v0 = .int .i64 qo ∧ v1 = .slice b1 q1 e1 ∧ v2 = .int .i64 qs ∧ v3 = .int .i64 qn ∧ v4 = .int .i64 qm ∧ v5 = .slice b2 q2 e2 := by simpa using heq
    exact ⟨qo, b1, q1, e1, qs, qn, qm, b2, q2, e2, k, q, ⟨c0, c1, c2, c3, c4, c5⟩, t, ht, hnd⟩
end Go.Proofs.YtbnebkkpmcjmbaaGreatDoor


namespace Go.Proofs.YtbnebkkpmcjmbaaGreatDoor
open Go.RowKit Go.PL Go.Maps
/-- an operand that is renamed alone: the list of one -/
theorem mapAt_one {α : Type} (f : α → α) (x : α) : mapAt f 0 1 [x] = [f x] := mapAt_all f [x]
theorem KI.one {w0 w wr : World} {f : Nd → Nd} {x : Nd} {a2 : Option Addr} {cs : Array Value} {o g m hi : Nat} (h : KI w0 w f [x] cs o g m hi 1 wr) (ha : a2 = some ⟨g, o, none⟩) (h1 : m ≤ g) (h2 : g < hi) : KdsT wr [f x] a2 cs o g m hi := by
  have h3 := h.ow
  rw [mapAt_one] at h3
  exact Or.inr ⟨ha, h.at_, h1, h2, h3⟩
/-- the state ahead of the only operand -/
theorem KI.first {w0 w : World} {f : Nd → Nd} {l : List Nd} {a2 : Option Addr} {cs : Array Value} {o g m hi : Nat} {x : Nd} (h : KdsT w l a2 cs o g m hi) (hl : l = [x]) : KI w0 w f [x] cs o g m hi 0 w := by
  subst hl
  rcases h with h | ⟨-, h2, -, -, h5⟩
  · cases h
  · exact ⟨by rw [mapAt_zero]; exact h5, Upto.refl _ _, h2⟩
end Go.Proofs.YtbnebkkpmcjmbaaGreatDoor


namespace Go.Proofs.YtbnebkkpmcjmbaaGreatDoor
open Go.RowKit Go.PL Go.Maps
mutual
/-- a quantifier has a name and one of the four sorts -/
def sortN : Nd → Prop
  | .mk op _ so _ _ l => (op = 16 ∨ op = 17 → 0 ≤ so ∧ so ≤ 3) ∧ sortsN l
def sortsN : List Nd → Prop
  | [] => True
  | x :: xs => sortN x ∧ sortsN xs
end
/-- the number that count raises, in the cell of block B; the test, in block B2 -/
def CoJ (w0 : World) (B B2 F : Nat) (c : Nat) (r : Nat) (O : List Nat) (u : World) : Prop := u.heap[B]? = some (.cells #[.int .i64 (c : Int)] 3 (0, 0)) ∧ u.heap[B2]? = some (.cells #[.func (.func F) #[] #[]] 79 (0, 0)) ∧ O = [] ∧ w0.heap.size ≤ u.heap.size ∧ c + r ≤ 200000
theorem CoJ.ext {w0 : World} {B B2 F c r : Nat} {O : List Nat} {u u' : World} (h : CoJ w0 B B2 F c r O u) (hu : Upto [] u u') : CoJ w0 B B2 F c r O u' := ⟨hu.at h.1 (by simp), hu.at h.2.1 (by simp), h.2.2.1, Nat.le_trans h.2.2.2.1 hu.size, h.2.2.2.2⟩
end Go.Proofs.YtbnebkkpmcjmbaaGreatDoor


namespace Go.Proofs.YtbnebkkpmcjmbaaGreatDoor
open Go.PL

/-- the first token of a formula's full text is not the word that begins a declaration -/
def headOk (b : Bool) (L : List (Bool × Tok)) : Prop := ∃ t r, L = (b, t) :: r ∧ (t.text ≠ [102, 105, 110, 100] ∨ t.kind = 1)
theorem headOk.mk {b : Bool} {t : Tok} {r : List (Bool × Tok)} (h : t.text ≠ [102, 105, 110, 100] ∨ t.kind = 1) : headOk b ((b, t) :: r) := ⟨t, r, rfl, h⟩
end Go.Proofs.YtbnebkkpmcjmbaaGreatDoor


namespace Go.Proofs.YtbnebkkpmcjmbaaGreatDoor
open Go.PL

/-- the first error of the free variables; seen: the names ahead -/
def varsE (nm : List UInt8 → Bool) : List (List UInt8 × Int) → List (List UInt8) → Nat
  | [], _ => 0
  | v :: r, seen => if nm v.1 = false then 3 else if (decide (v.2 < 0) || decide (3 < v.2)) = true then 2 else if seen.contains v.1 = true then 7 else varsE nm r (seen ++ [v.1])
/-- the first error of a question -/
def rightF (nm : List UInt8 → Bool) (q : Qn) : Nat :=
  if 8 < q.free.length then 8 else if varsE nm q.free [] ≠ 0 then varsE nm q.free [] else checkF nm q.body

end Go.Proofs.YtbnebkkpmcjmbaaGreatDoor


namespace Go.Proofs.YtbnebkkpmcjmbaaGreatDoor
open Go.RowKit Go.PL Go.Maps
structure OfRow (w0 w : World) (B : Nat) (c : Nat → Nat → Value) (v : Value) (ms : List Nd) : Prop where
  row : w.ownsRow 0 30 6 v ms.length (cellsN c ms.length)
  nd : ∀ i m, ms[i]? = some m → NdV w (Lr w0 B v) m (.agg #[c i 0, c i 1, c i 2, c i 3, c i 4, c i 5])
  own : ∀ g, v.ownBlock = some g → w0.heap.size ≤ g ∧ g ≠ B
theorem OfRow.upto {w0 w w' : World} {S : List Nat} {B : Nat} {c : Nat → Nat → Value} {v : Value} {ms : List Nd} (h : OfRow w0 w B c v ms) (hu : Upto S w w') (hS : ∀ k ∈ S, k < w0.heap.size ∨ k = B) : OfRow w0 w' B c v ms :=
  ⟨ownsRow_upto h.row hu (fun g hg hm => by have h1 := h.own g hg; rcases hS g hm with h2 | h2 <;> omega),
   fun i m hi => (h.nd i m hi).upto hu (fun b hb _ hm => by have h1 := hb.1; unfold New at h1; rcases hS b hm with h2 | h2; omega; exact hb.2.1 h2), h.own⟩
theorem OfRow.app {w0 w w5 : World} {B : Nat} {c : Nat → Nat → Value} {v : Value} {ms : List Nd} {m : Nd} {v0 v1 v2 v3 v4 v5 : Value} {b' : Option Addr} {c' : Nat} (h : OfRow w0 w B c v ms) (hsz : w0.heap.size ≤ w.heap.size) (hBw : B < w.heap.size)
    (hm : NdV w (Lr w0 B v) m (.agg #[v0, v1, v2, v3, v4, v5])) (ho : w5.ownsRow 0 30 6 (.slice b' (ms.length + 1) c') (ms.length + 1) (cellsN c ms.length ++ [v0, v1, v2, v3, v4, v5])) (hu : Upto v.ownBlock.toList w w5)
    (hw : ∀ g, (Value.slice b' (ms.length + 1) c').ownBlock = some g → v.ownBlock = some g ∨ w.heap.size ≤ g) : OfRow w0 w5 B (addC c ms.length v0 v1 v2 v3 v4 v5) (.slice b' (ms.length + 1) c') (ms ++ [m]) := by
  have key : ∀ x u, NdV w (Lr w0 B v) x u → NdV w5 (Lr w0 B (.slice b' (ms.length + 1) c')) x u := fun x u hx =>
    NdV.keep ⟨hu.size, fun b hb hl => ⟨⟨hb.1, hb.2.1, fun e => by
      rcases hw b e with h1 | h1
      · exact hb.2.2 h1
      · have := hl.lt; omega⟩, hu.block b hl.lt (fun hmm => hb.2.2 (Option.mem_toList.1 hmm))⟩⟩ x u hx
  refine ⟨?_, ?_, ?_⟩
  · rw [List.length_append, List.length_singleton, cellsN_add]
    exact ho
  · intro i x hi
    by_cases hlt : i < ms.length
    · rw [List.getElem?_append_left hlt] at hi
      have := key _ _ (h.nd i x hi)
      simpa [addC, Nat.ne_of_lt hlt] using this
    · rw [List.getElem?_append_right (by omega)] at hi
      cases hd : i - ms.length with
      | zero =>
        rw [hd] at hi
        simp at hi
        subst hi
        have : i = ms.length := by omega
        subst this
        simpa [addC] using key _ _ hm
      | succ z => rw [hd] at hi; simp at hi
  · intro g hg
    rcases hw g hg with h1 | h1
    · exact h.own g h1
    · exact ⟨by omega, by omega⟩
theorem OfRow.list {w0 w : World} {B : Nat} {c : Nat → Nat → Value} {v : Value} {ms : List Nd} {Q : Nat → Prop} (h : OfRow w0 w B c v ms) (h1 : ∀ b, Lr w0 B v b → Q b) (h2 : ∀ g, v.ownBlock = some g → Q g) : (ms = [] ∧ ∃ a c, v = .slice a 0 c) ∨ ∃ g o c, v = .slice (some ⟨g, o, none⟩) ms.length c ∧ (Q g ∧ IsC w g) ∧ NdsV w Q g o ms := by
  rcases h.row.2 with ⟨e, h0⟩ | ⟨g, cap, cur, e, _, hh, _, _, _, ht⟩
  · exact Or.inl ⟨List.eq_nil_of_length_eq_zero h0, none, 0, e⟩
  · refine Or.inr ⟨g, 0, cap, e, ⟨h2 g (by rw [e]; rfl), _, _, _, hh⟩, nds_of ms 0 fun i x hi => ?_⟩
    have hil : i < ms.length := (List.getElem?_eq_some_iff.1 hi).1
    have cl : ∀ j, j < 6 → w.cell? ⟨g, 0 + i * 6 + j, none⟩ = some (c i j) := fun j hj => by
      rw [cell_of hh]
      have := cellsN_at c hil hj
      rw [← ht, List.getElem?_take] at this
      split at this
      · simpa using this
      · cases this
    exact ⟨_, _, _, _, _, _, cl 0 (by omega), cl 1 (by omega), cl 2 (by omega), cl 3 (by omega), cl 4 (by omega), cl 5 (by omega), (h.nd i x hi).mono fun b hb _ => h1 b hb⟩
theorem infoO4 : (Tryz.prog.info? 30).map (fun i => (i.zero, i.size, i.bytes)) = some (some (.agg #[.int .i64 0, .slice none 0 0, .int .i64 0, .int .i64 0, .int .i64 0, .slice none 0 0]), 6, 80) := by kernel_rfl
theorem infoO4' : ∃ i, Tryz.prog.info? 30 = some i ∧ i.zero = some (.agg #[.int .i64 0, .slice none 0 0, .int .i64 0, .int .i64 0, .int .i64 0, .slice none 0 0]) ∧ i.size = 6 ∧ i.bytes = 80 := by
  have h := infoO4
  cases hi : Tryz.prog.info? 30 with
  | none => rw [hi] at h; cases h
  | some i =>
    rw [hi] at h
    simp only [Option.map_some, Option.some.injEq, Prod.mk.injEq] at h
    exact ⟨i, rfl, h.1, h.2.1, h.2.2⟩
/-- what stands between two rounds -/
structure OfI (w w9 : World) (bn : Nat) (op so nn mm : Int) (na : Option Addr) (nl nc : Nat) (ns : List Value) (l : List Nd) (j : Nat) (wr : World) : Prop where
  up : Upto [bn] w9 wr
  old : Upto [] w wr
  st : ∃ (va : Option Addr) (vn vc : Nat) (c : Nat → Nat → Value), wr.heap[bn]? = some (.cells #[.int .i64 op, .slice na nl nc, .int .i64 so, .int .i64 nn, .int .i64 mm, .slice va vn vc] 30 (0, 0)) ∧ OfRow w9 wr bn c (.slice va vn vc) (l.take j)
theorem of_step {w w9 wr w10 w5 W : World} {bn : Nat} {op so nn mm : Int} {na : Option Addr} {nl nc : Nat} {ns : List Value} {l : List Nd} {vn : Nat} {va : Option Addr} {vc : Nat} {c : Nat → Nat → Value} {x : Nd} {v0 v1 v2 v3 v4 v5 : Value} {b5 : Option Addr} {c5 : Nat}
    (HI : OfI w w9 bn op so nn mm na nl nc ns l vn wr) (HLT : W.heap.size ≤ bn ∧ bn < w9.heap.size) (HWL : w.heap.size < W.heap.size) (HUP : Upto [] W w9)
    (hbk : wr.heap[bn]? = some (.cells #[.int .i64 op, .slice na nl nc, .int .i64 so, .int .i64 nn, .int .i64 mm, .slice va vn vc] 30 (0, 0))) (hrow : OfRow w9 wr bn c (.slice va vn vc) (l.take vn))
    (hu : Upto [] wr w10) (hn : NdV w10 (New wr) x (.agg #[v0, v1, v2, v3, v4, v5])) (hjl : (l.take vn).length = vn) (htk : l.take (vn + 1) = l.take vn ++ [x])
    (ho5 : w5.ownsRow 0 30 6 (.slice b5 (vn + 1) c5) (vn + 1) (cellsN c vn ++ [v0, v1, v2, v3, v4, v5])) (hu5 : Upto (Value.slice va vn vc).ownBlock.toList w10 w5) (hw5 : ∀ g, (Value.slice b5 (vn + 1) c5).ownBlock = some g → (Value.slice va vn vc).ownBlock = some g ∨ w10.heap.size ≤ g) :
    w5.heap[bn]? = some (.cells #[.int .i64 op, .slice na nl nc, .int .i64 so, .int .i64 nn, .int .i64 mm, .slice va vn vc] 30 (0, 0)) ∧ OfI w w9 bn op so nn mm na nl nc ns l (vn + 1) (w5.setCell ⟨bn, 5, none⟩ (.slice b5 (vn + 1) c5)) := by
  have hown : ∀ g, g ∈ (Value.slice va vn vc).ownBlock.toList → w9.heap.size ≤ g ∧ g ≠ bn := fun g hg => hrow.own g (Option.mem_toList.1 hg)
  have hold : ∀ g, (Value.slice va vn vc).ownBlock = some g → g < wr.heap.size := fun g hg => by
    obtain ⟨cur, hh⟩ := ownsRow_block hrow.row hg
    exact lt_of_heap hh
  have hb5 := hu5.at (hu.at hbk (by simp)) (fun hm => (hown _ hm).2 rfl)
  have hst : Upto [bn] w5 (w5.setCell ⟨bn, 5, none⟩ (.slice b5 (vn + 1) c5)) := (Upto.refl [bn] w5).setCell (p := ⟨bn, 5, none⟩) (Or.inl (by simp)) _
  have hs9 := HI.up.size
  have hs10 := hu.size
  have hW := HUP.size
  have hbw := lt_of_heap hbk
  refine ⟨hb5, ⟨?_, ?_, b5, vn + 1, c5, addC c vn v0 v1 v2 v3 v4 v5, ?_, ?_⟩⟩
  · exact ((HI.up.trans_ext hu).trans hu5 (fun k hk => Or.inr (hown k hk).1)).setCell (p := ⟨bn, 5, none⟩) (Or.inl (by simp)) _
  · exact ((HI.old.trans_ext hu).trans hu5 (fun k hk => Or.inr (by have := (hown k hk).1; omega))).setCell (p := ⟨bn, 5, none⟩) (Or.inr (by simp; omega)) _
  · have := set_same hb5 5 (.slice b5 (vn + 1) c5)
    simpa using this
  · have happ := OfRow.app (m := x) (v0 := v0) (v1 := v1) (v2 := v2) (v3 := v3) (v4 := v4) (v5 := v5) (b' := b5) (c' := c5) (w5 := w5) (hrow.upto hu (by simp)) (by omega) (by omega)
      (hn.mono (fun b hb _ => ⟨by unfold New at hb ⊢; omega, by unfold New at hb; omega, fun e => by have := hold b e; unfold New at hb; omega⟩)) (by rw [hjl]; exact ho5) hu5 (by rw [hjl]; exact hw5)
    rw [hjl] at happ
    rw [htk]
    exact happ.upto hst (fun k hk => Or.inr (by simpa using hk))
theorem of_end {w w9 wr W : World} {bn : Nat} {op so nn mm : Int} {na : Option Addr} {nc : Nat} {ns : List Value} {names : List (List UInt8)} {l : List Nd} {vn : Nat} {va : Option Addr} {vc : Nat} {c : Nat → Nat → Value} {_P : Nat → Prop}
    (HI : OfI w w9 bn op so nn mm na names.length nc ns l vn wr) (HLT : W.heap.size ≤ bn ∧ bn < w9.heap.size) (_HWL : w.heap.size < W.heap.size) (HW2 : w.heap.size + 1 < W.heap.size) (HUP : Upto [] W w9)
    (hbn : w9.heap[bn]? = some (.cells #[.int .i64 0, .slice none 0 0, .int .i64 0, .int .i64 0, .int .i64 0, .slice none 0 0] 30 (0, 0)))
    (hsl : SlP w9 (New W) (.slice na names.length nc) names.length (names.map sV))
    (_hz2 : wr.heap[w.heap.size + 1]? = some (.cells #[.int .i64 0, .slice none 0 0, .int .i64 0, .int .i64 0, .int .i64 0, .slice none 0 0] 30 (0, 0)))
    (hrow : OfRow w9 wr bn c (.slice va vn vc) (l.take vn)) (htk : l.take vn = l) (_hll : l.length = vn) :
    BkPost w (.mk op names so nn mm l) (.returned (.agg #[.int .i64 op, .slice na names.length nc, .int .i64 so, .int .i64 nn, .int .i64 mm, .slice va vn vc])) ((((((wr.setCell ⟨w.heap.size + 1, 0, none⟩ (.int .i64 op)).setCell ⟨w.heap.size + 1, 1, none⟩ (.slice na names.length nc)).setCell ⟨w.heap.size + 1, 2, none⟩ (.int .i64 so)).setCell ⟨w.heap.size + 1, 3, none⟩ (.int .i64 nn)).setCell ⟨w.heap.size + 1, 4, none⟩ (.int .i64 mm)).setCell ⟨w.heap.size + 1, 5, none⟩ (.slice va vn vc)) := by
  have hst := nd_self wr (w.heap.size + 1) (.int .i64 op) (.slice na names.length nc) (.int .i64 so) (.int .i64 nn) (.int .i64 mm) (.slice va vn vc)
  have hW := HUP.size
  have hrow2 := hrow.upto hst (fun k hk => Or.inl (by simp at hk; omega))
  rw [htk] at hrow2
  have hs2 := ((names_ne hsl rfl hbn).upto HI.up (fun b hb _ => by simpa using hb.2)).upto hst (fun b hb _ => by have := hb.1; unfold New at this; simp; omega)
  refine ⟨_, rfl, ?_, nd_up HI.old (Or.inr (by omega)) ..⟩
  unfold NdV
  refine ⟨_, _, rfl, hs2.mono (fun b hb _ => by have := hb.1; unfold New at this ⊢; omega), ?_⟩
  have := hrow2.list (Q := New w) (fun b hb => by have := hb.1; unfold New at this ⊢; omega) (fun g hg => by have := (hrow.own g hg).1; unfold New; omega)
  exact this

set_option maxRecDepth 100000 in
set_option maxHeartbeats 6400000 in
theorem of_calls : ∀ (k : Nat) (nd : Nd), sizeF nd ≤ k → k ≤ 10000000 → bigN nd → ∀ (P : Nat → Prop) (v : Value) (w : World), NdV w P nd v → Calls Tryz.prog 12 #[v] w (BkPost w nd)
  | 0, nd, hk, _, _, _, _, _, _ => by have := sizeF_pos nd; omega
  | k + 1, .mk op names so nn mm l, hk, hk7, hbg, P, v, w, h => by
    obtain ⟨a1, c1, a2, c2, rfl, hs, hls⟩ := h.open
    unfold bigN at hbg
    have hsz : sizesF l ≤ k := by simp only [sizeF] at hk; omega
    have hln := sizes_len l
    have hu2 : Upto [] w ((w.alloc (.cells #[.int .i64 op, .slice a1 names.length c1, .int .i64 so, .int .i64 nn, .int .i64 mm, .slice a2 l.length c2] 25)).alloc (.cells #[.int .i64 0, .slice none 0 0, .int .i64 0, .int .i64 0, .int .i64 0, .slice none 0 0] 30)) := ((Upto.refl [] w).alloc _).alloc _
    have hb1 := alloc_old (new_at w (.cells #[.int .i64 op, .slice a1 names.length c1, .int .i64 so, .int .i64 nn, .int .i64 mm, .slice a2 l.length c2] 25)) (.cells #[.int .i64 0, .slice none 0 0, .int .i64 0, .int .i64 0, .int .i64 0, .slice none 0 0] 30)
    have hb2 := new_at1 w (.cells #[.int .i64 op, .slice a1 names.length c1, .int .i64 so, .int .i64 nn, .int .i64 mm, .slice a2 l.length c2] 25) (.cells #[.int .i64 0, .slice none 0 0, .int .i64 0, .int .i64 0, .int .i64 0, .slice none 0 0] 30)
    obtain ⟨W, hW⟩ : ∃ W, W = ((w.alloc (.cells #[.int .i64 op, .slice a1 names.length c1, .int .i64 so, .int .i64 nn, .int .i64 mm, .slice a2 l.length c2] 25)).alloc (.cells #[.int .i64 0, .slice none 0 0, .int .i64 0, .int .i64 0, .int .i64 0, .slice none 0 0] 30)) := ⟨_, rfl⟩
    rw [← hW] at hu2 hb1 hb2
    have HU2 := Lib.hid hu2
    have HB1 := Lib.hid hb1
    have HB2 := Lib.hid hb2
    have hns : SlP W P (.slice a1 names.length c1) (names.map sV).length (names.map sV) := by rw [List.length_map]; exact hs.ext hu2
    have HNS := Lib.hid hns.slc
    have HNL := Lib.hid hbg.1
    obtain ⟨i0, hi0, hz0, hz1, hz2⟩ := info9'
    obtain ⟨x0, x1, x2, x3, x4, x5⟩ := cells6 hb1
    have hwl : w.heap.size < W.heap.size := lt_of_heap hb1
    have hwr := Upto.refl [] W
    clear hs h hu2 hb1 hb2 hns
    go_enter Tryz.func12, Tryz.ntmps12
    go_wp2_with fail
    simp only [← hW]
    clear hW
    have e0 : ∀ u : Ext W, u.w.cell? ⟨w.heap.size, 0, none⟩ = some _ := fun u => u.cell x0
    have e1 : ∀ u : Ext W, u.w.cell? ⟨w.heap.size, 1, none⟩ = some _ := fun u => u.cell x1
    have e2 : ∀ u : Ext W, u.w.cell? ⟨w.heap.size, 2, none⟩ = some _ := fun u => u.cell x2
    have e3 : ∀ u : Ext W, u.w.cell? ⟨w.heap.size, 3, none⟩ = some _ := fun u => u.cell x3
    have e4 : ∀ u : Ext W, u.w.cell? ⟨w.heap.size, 4, none⟩ = some _ := fun u => u.cell x4
    refine wp_region_seg_at [2, 5] [13] [0, 1, 2, 3, 4, 5, 6, 7, 8, 9, 10, 11, 12, 13] [14] 14 (by kernel_rfl) (by kernel_rfl) (by kernel_rfl) ?_
    iterate 2 (refine seg_plain rfl rfl rfl rfl rfl ?_; intro K' hK'; go_big_quiet_op; go_big_quiet_on)
    refine seg_opq (Y := Nat) (fun b => .slice (some ⟨b, 0, none⟩) 0 0) (fun _ _ => True) (fun _ => []) rfl rfl rfl rfl (fun _ _ _ h _ => h) (fun _ => List.nodup_nil) (fun w' post hu hd hp => (congrArg (opqUpon Tryz.prog post) (show _ = Result.ok (Next.value (.slice (some ⟨w'.heap.size, 0, none⟩) 0 0)) (w'.alloc (.cells #[] 9)) from by go_simp)).mpr (hp w'.heap.size _ ((Upto.refl [] w').alloc _) trivial (fun b hb => by cases hb))) ?_
    intro be
    simp only [Act.put, List.setIfInBounds_toArray, List.set_cons_zero, List.set_cons_succ]
    iterate 2 (refine seg_plain rfl rfl rfl rfl rfl ?_; intro K' hK'; go_big_quiet_op; go_big_quiet_on)
    refine seg_opq (Y := Option Addr × Nat) (fun y => .slice y.1 names.length y.2) (fun y u => SlP u (New W) (.slice y.1 names.length y.2) names.length (names.map sV)) (fun _ => []) rfl rfl rfl rfl (fun _ _ _ h hu => h.ext hu) (fun _ => List.nodup_nil) (fun w' post hu hd hp => opq_apps w' (.tmp 7) (.tmp 9) 22 rfl 9 i0 (.string ⟨#[]⟩) 16 Tryz.underlying22 hi0 hz0 hz1 hz2 rfl be rfl (.slice a1 names.length c1) (names.map sV) names.length (by simp) rfl (HNS.out.ext hu) (by have := HNL.out; unfold maxLen; omega) (by have := HNL.out; omega) (fun b' c' w2 hu2 hsl => hp (b', c') w2 hu2 (hsl.mono (fun b hb _ => New.mono hu b hb)) (fun b hb => by cases hb))) ?_
    rintro ⟨na, nc⟩
    simp only [Act.put, List.setIfInBounds_toArray, List.set_cons_zero, List.set_cons_succ]
    iterate 7 (refine seg_plain rfl rfl rfl rfl rfl ?_; intro K' hK'; go_big_quiet_op; go_big_quiet_on)
    refine seg_alloc (.cells #[.int .i64 0, .slice none 0 0, .int .i64 0, .int .i64 0, .int .i64 0, .slice none 0 0] 30) rfl rfl rfl (fun w => by go_simp) ?_
    intro bn
    simp only [Act.put, List.setIfInBounds_toArray, List.set_cons_zero, List.set_cons_succ]
    intro w9 hg
    have hup := hg.up
    have hnb := hg.hold.1
    have hsl := hg.hold.2.1
    have hin := hg.inb
    simp only [List.drop_succ_cons, List.drop_zero]
    have hbn : W.heap.size ≤ bn ∧ bn < w9.heap.size := hin _ (List.Mem.head _) bn (List.Mem.head _)
    have HSL := Lib.hid hsl
    have HUP := Lib.hid hup
    have HBN := Lib.hid hnb
    have HLT := Lib.hid hbn
    have HWL := Lib.hid hwl
    have hw2 : w.heap.size + 1 < W.heap.size := lt_of_heap HB2.out
    have HW2 := Lib.hid hw2
    obtain ⟨n0, n1, n2, n3, n4, n5⟩ := cells6 hnb
    obtain ⟨f0, f1, f2, f3, f4, f5⟩ := frees6 hnb
    have hset := set_same (set_same (set_same (set_same (set_same (set_same hnb 0 (.int .i64 op)) 1 (.slice na names.length nc)) 2 (.int .i64 so)) 3 (.int .i64 nn)) 4 (.int .i64 mm)) 5 (.slice none 0 0)
    simp only [List.setIfInBounds_toArray, List.set_cons_zero, List.set_cons_succ] at hset
    have hsu : Upto [bn] w9 ((((((w9.setCell ⟨bn, 0, none⟩ (.int .i64 op)).setCell ⟨bn, 1, none⟩ (.slice na names.length nc)).setCell ⟨bn, 2, none⟩ (.int .i64 so)).setCell ⟨bn, 3, none⟩ (.int .i64 nn)).setCell ⟨bn, 4, none⟩ (.int .i64 mm)).setCell ⟨bn, 5, none⟩ (.slice none 0 0)) := nd_self ..
    have HI0 : Hid (OfI w w9 bn op so nn mm na names.length nc (names.map sV) l 0 ((((((w9.setCell ⟨bn, 0, none⟩ (.int .i64 op)).setCell ⟨bn, 1, none⟩ (.slice na names.length nc)).setCell ⟨bn, 2, none⟩ (.int .i64 so)).setCell ⟨bn, 3, none⟩ (.int .i64 nn)).setCell ⟨bn, 4, none⟩ (.int .i64 mm)).setCell ⟨bn, 5, none⟩ (.slice none 0 0))) := Lib.hid
      ⟨hsu, (HU2.out.trans_ext hup).trans hsu (fun k hk => Or.inr (by simp at hk; omega)), none, 0, 0, fun _ _ => undef, hset, ⟨by simpa [cellsN] using World.ownsRow_nil _ 0 30 6, by simp, by intro g hg; cases hg⟩⟩
    clear hg hup hnb hsl hin hset hsu e0 e1 e2 e3 e4
    go_wp2_with fail
    have HLS := Lib.hid hls
    have HLN : Hid (l.length ≤ 10000000) := Lib.hid (by omega)
    generalize hll : l.length = ll at *
    have HLL := Lib.hid hll
    have hL0 : (0 : Int) ≤ ll := by omega
    have hL1 : (ll : Int) ≤ 10000000 := by have := HLN.out; omega
    clear hls hll
    go_loopw [4] (fun v wr => ∃ j : Nat, j ≤ ll ∧ v = .int .i64 j ∧ Hid (OfI w w9 bn op so nn mm na names.length nc (names.map sV) l j wr)) (fun v _ => ll - (intOf v).toNat)
    case atStart => exact ⟨0, by omega, rfl, HI0⟩
    case round =>
      obtain ⟨j, hj, rfl, HI⟩ := hrel
      obtain ⟨va, vn, vc, c, hbk, hrow⟩ := HI.out.st
      have hbox := HI.out.up.at (HUP.out.at HB1.out (by simp)) (by have := HLT.out; have := HWL.out; simp; omega)
      have z5 := cell_of hbox 5
      have y5 := cell_of hbk 5
      have g5 := free_of hbk 5
      simp only [List.getElem?_toArray, List.getElem?_cons_zero, List.getElem?_cons_succ] at z5 y5
      obtain ⟨va', vc', hve, -⟩ := ownsRow_len hrow.row
      simp only [Value.slice.injEq] at hve
      have hvn : vn = j := by have := HLL.out; rw [hve.2.1, List.length_take]; omega
      clear hve
      subst hvn
      rcases Nat.lt_or_ge vn ll with hlt | hge
      · obtain ⟨x, hx⟩ : ∃ x, l[vn]? = some x := ⟨_, List.getElem?_eq_getElem (by have := HLL.out; omega)⟩
        obtain ⟨g, o, xo, xn1, xn2, xn3, xs, xm, xq, xl1, xl2, xl3, rfl, c0, c1', c2', c3, c4, c5, hn⟩ := (HLS.out.ext HI.out.old) vn x hx
        have hjl : (l.take vn).length = vn := by have := HLL.out; rw [List.length_take]; omega
        have HJL := Lib.hid hjl
        have HTK : Hid (l.take (vn + 1) = l.take vn ++ [x]) := Lib.hid (by
          obtain ⟨hi, rfl⟩ := List.getElem?_eq_some_iff.1 hx
          exact List.take_succ_eq_append_getElem hi)
        have HROW := Lib.hid hrow
        have HBK := Lib.hid hbk
        have hxs := sizesF_mem (List.mem_of_getElem? hx)
        have HC := Lib.hid (fun w1 (hu : Upto [] wr w1) => of_calls k x (by omega) (by omega) (bigs_mem hbg.2 (List.mem_of_getElem? hx)) P _ w1 (hn.ext hu))
        have hltI : (vn : Int) < ll := by omega
        have hj0 : (0 : Int) ≤ vn := by omega
        clear hrow hbk hbox hn hx
        go_wp2_with fail
        have e0 : ∀ u : Ext wr, u.w.cell? ⟨bn, 5, none⟩ = some (.slice va vn vc) := fun u => u.cell y5
        have e1 : ∀ u : Ext wr, u.w.cell? ⟨w.heap.size, 5, none⟩ = some _ := fun u => u.cell z5
        have k0 : ∀ u : Ext wr, u.w.cell? ⟨g, o + vn * 6, none⟩ = some _ := fun u => u.cell c0
        have k1 : ∀ u : Ext wr, u.w.cell? ⟨g, o + vn * 6 + 1, none⟩ = some _ := fun u => u.cell c1'
        have k2 : ∀ u : Ext wr, u.w.cell? ⟨g, o + vn * 6 + 2, none⟩ = some _ := fun u => u.cell c2'
        have k3 : ∀ u : Ext wr, u.w.cell? ⟨g, o + vn * 6 + 3, none⟩ = some _ := fun u => u.cell c3
        have k4 : ∀ u : Ext wr, u.w.cell? ⟨g, o + vn * 6 + 4, none⟩ = some _ := fun u => u.cell c4
        have k5 : ∀ u : Ext wr, u.w.cell? ⟨g, o + vn * 6 + 5, none⟩ = some _ := fun u => u.cell c5
        clear y5 z5 g5 c0 c1' c2' c3 c4 c5
        refine wp_region_seg_at [7, 8] [] [0, 1, 2, 3, 4, 5, 6, 7, 8] [9, 10, 11] 9 (by kernel_rfl) (by kernel_rfl) (by kernel_rfl) ?_
        iterate 7 (refine seg_plain rfl rfl rfl rfl rfl ?_; intro K' hK'; go_big_quiet_op; go_big_quiet_on)
        refine seg_callO (Y := (Int × Option Addr × Nat × Nat) × Int × Int × Int × Option Addr × Nat × Nat) (fun y => .agg #[.int .i64 y.1.1, .slice y.1.2.1 y.1.2.2.1 y.1.2.2.2, .int .i64 y.2.1, .int .i64 y.2.2.1, .int .i64 y.2.2.2.1, .slice y.2.2.2.2.1 y.2.2.2.2.2.1 y.2.2.2.2.2.2]) (fun y u => NdV u (New wr) x (.agg #[.int .i64 y.1.1, .slice y.1.2.1 y.1.2.2.1 y.1.2.2.2, .int .i64 y.2.1, .int .i64 y.2.2.1, .int .i64 y.2.2.2.1, .slice y.2.2.2.2.1 y.2.2.2.2.2.1 y.2.2.2.2.2.2])) (fun _ => []) rfl rfl rfl rfl (fun _ _ _ h hu => h.ext hu) (fun _ => List.nodup_nil) (fun w => by go_simp) (fun w' hu hd => (HC.out w' hu).mono fun e w2 ⟨v, h1, h2, h3⟩ => by
          obtain ⟨ro, rn1, rn2, rn3, rs, rm, rq, rl1, rl2, rl3, rfl⟩ := h2.six
          exact ⟨((ro, rn1, rn2, rn3), rs, rm, rq, rl1, rl2, rl3), h1, h3, h2.mono (fun b hb _ => New.mono hu b hb), fun b hb => by cases hb⟩) ?_
        rintro ⟨⟨ro, rn1, rn2, rn3⟩, rs, rm, rq, rl1, rl2, rl3⟩
        simp only [Act.put, List.setIfInBounds_toArray, List.set_cons_zero, List.set_cons_succ]
        refine seg_opq (Y := Nat) (fun b => .slice (some ⟨b, 0, none⟩) 1 1) (fun b u => u.heap[b]? = some (.cells #[.int .i64 ro, .slice rn1 rn2 rn3, .int .i64 rs, .int .i64 rm, .int .i64 rq, .slice rl1 rl2 rl3] 30 (0, 0))) (fun _ => []) rfl rfl rfl rfl (fun _ _ _ h hu => hu.at h (by simp)) (fun _ => List.nodup_nil) (fun w' post hu hd hp => (congrArg (opqUpon Tryz.prog post) (show _ = Result.ok (Next.value (.slice (some ⟨w'.heap.size, 0, none⟩) 1 1)) (w'.alloc (.cells #[.int .i64 ro, .slice rn1 rn2 rn3, .int .i64 rs, .int .i64 rm, .int .i64 rq, .slice rl1 rl2 rl3] 30)) from by go_simp)).mpr (hp w'.heap.size _ ((Upto.refl [] w').alloc _) (new_at _ _) (fun b hb => by cases hb))) ?_
        intro b8
        simp only [Act.put, List.setIfInBounds_toArray, List.set_cons_zero, List.set_cons_succ]
        intro w10 hg
        have HU10 := Lib.hid hg.up
        have HB8 : Hid (w10.heap[b8]? = some (.cells #[.int .i64 ro, .slice rn1 rn2 rn3, .int .i64 rs, .int .i64 rm, .int .i64 rq, .slice rl1 rl2 rl3] 30 (0, 0))) := Lib.hid hg.hold.1
        have HND : Hid (NdV w10 (New wr) x (.agg #[.int .i64 ro, .slice rn1 rn2 rn3, .int .i64 rs, .int .i64 rm, .int .i64 rq, .slice rl1 rl2 rl3])) := Lib.hid hg.hold.2.1
        simp only [List.drop_succ_cons, List.drop_zero]
        clear hg e0 e1 k0 k1 k2 k3 k4 k5
        have HR10 := Lib.hid (HROW.out.upto HU10.out (by simp))
        have hr10 := HR10.out.row
        rw [hjl] at hr10
        have HRR := Lib.hid hr10
        obtain ⟨i1, hi1, hy0, hy1, hy2⟩ := infoO4'
        have hL7 := HLN.out
        have HA := Lib.hid (fun b5 c5 w5 (ho5 : w5.ownsRow 0 30 6 (.slice b5 (vn + 1) c5) (vn + 1) (cellsN c vn ++ [.int .i64 ro, .slice rn1 rn2 rn3, .int .i64 rs, .int .i64 rm, .int .i64 rq, .slice rl1 rl2 rl3])) (hu5 : Upto (Value.slice va vn vc).ownBlock.toList w10 w5) (hw5 : ∀ g, (Value.slice b5 (vn + 1) c5).ownBlock = some g → (Value.slice va vn vc).ownBlock = some g ∨ w10.heap.size ≤ g) => of_step HI.out HLT.out HWL.out HUP.out HBK.out HROW.out HU10.out HND.out HJL.out HTK.out ho5 hu5 hw5)
        clear hr10 hjl
        go_wp2_with (at_builtin
                     refine wpList_app _ rfl (.tmp 26) (.tmp 33) 28 rfl 30 i1 (.agg #[.int .i64 0, .slice none 0 0, .int .i64 0, .int .i64 0, .int .i64 0, .slice none 0 0]) 6 80 Tryz.underlying28 hi1 hy0 hy1 hy2 rfl (by decide) (.slice va vn vc) vn (cellsN c vn) rfl HRR.out ⟨b8, 0, none⟩ 1 1 [.int .i64 ro, .slice rn1 rn2 rn3, .int .i64 rs, .int .i64 rm, .int .i64 rq, .slice rl1 rl2 rl3] rfl rfl (six_at HB8.out) (by simp [Value.oneCell']) (by unfold maxLen; omega) (by omega) ?_
                     intro b5 c5 w5 ho5 hu5 hw5
                     obtain ⟨hbk5, hI5⟩ := HA.out b5 c5 w5 ho5 hu5 hw5
                     have y5 := cell_of hbk5 5
                     have g5 := free_of hbk5 5
                     simp only [List.getElem?_toArray, List.getElem?_cons_zero, List.getElem?_cons_succ] at y5
                     have HI5 := Lib.hid hI5
                     clear ho5 hu5 hw5 hbk5 hI5)
        go_roundw
        case rel => exact ⟨vn + 1, by omega, by go_num, HI5⟩
        case measure => simp [intOf]; omega
      · obtain rfl : vn = ll := by omega
        have hgeI : ¬ ((vn : Int) < vn) := by omega
        have HROW := Lib.hid hrow
        have HBK := Lib.hid hbk
        have hz2 := HI.out.up.at (HUP.out.at HB2.out (by simp)) (by have h1 := HLT.out; have h2 := HW2.out; simp; omega)
        have HZ2 := Lib.hid hz2
        obtain ⟨p0, p1, p2, p3, p4, p5⟩ := cells6 hbk
        obtain ⟨r0, r1, r2, r3, r4, r5⟩ := cells6 hz2
        obtain ⟨t0, t1, t2, t3, t4, t5⟩ := frees6 hz2
        have hF := of_end (names := names) (_P := P) HI.out HLT.out HWL.out HW2.out HUP.out HBN.out HSL.out HZ2.out HROW.out (List.take_of_length_le (by have := HLL.out; omega)) HLL.out
        have HF := Lib.hid hF
        clear hrow hbk hz2 hbox hF
        go_wp2_with fail
        have hst := nd_store HZ2.out (.int .i64 op) (.slice na names.length nc) (.int .i64 so) (.int .i64 nn) (.int .i64 mm) (.slice va vn vc)
        obtain ⟨q0, q1, q2, q3, q4, q5⟩ := cells6 hst
        exact bodyPost_ret (v := .agg #[.int .i64 op, .slice na names.length nc, .int .i64 so, .int .i64 nn, .int .i64 mm, .slice va vn vc]) (by simp [results, go_sem, q0, q1, q2, q3, q4, q5]) rfl HF.out

end Go.Proofs.YtbnebkkpmcjmbaaGreatDoor


namespace Go.Proofs.YtbnebkkpmcjmbaaGreatDoor
open Go.RowKit Go.PL Go.Maps
set_option maxRecDepth 100000 in
set_option maxHeartbeats 1600000 in
theorem rank5_calls (a1 : Option Addr) (n1 c1 : Nat) (so nn mm : Int) (a2 : Option Addr) (c2 : Nat) (w : World) : Calls Tryz.prog 26 #[.agg #[.int .i64 5, .slice a1 n1 c1, .int .i64 so, .int .i64 nn, .int .i64 mm, .slice a2 0 c2]] w fun e w' => e = .returned (.int .i64 0) ∧ Upto [] w w' := by
  have HU := Lib.hid ((Upto.refl [] w).alloc (.cells #[.int .i64 5, .slice a1 n1 c1, .int .i64 so, .int .i64 nn, .int .i64 mm, .slice a2 0 c2] 30))
  have HB := Lib.hid (new_at w (.cells #[.int .i64 5, .slice a1 n1 c1, .int .i64 so, .int .i64 nn, .int .i64 mm, .slice a2 0 c2] 30))
  have HBI := Lib.hid (fun u => binds5_calls a1 n1 c1 so nn mm a2 0 c2 u)
  obtain ⟨W, hW⟩ : ∃ W, W = w.alloc (.cells #[.int .i64 5, .slice a1 n1 c1, .int .i64 so, .int .i64 nn, .int .i64 mm, .slice a2 0 c2] 30) := ⟨_, rfl⟩
  rw [← hW] at HU HB
  go_enter Tryz.func26, Tryz.ntmps26
  go_wp2_with fail
  simp only [← hW]
  clear hW
  go_loopw [3, 9] (fun vo vi wr => vo = .int .i64 0 ∧ vi = .int .i64 0 ∧ wr = W) (fun _ _ _ => 0)
  case atStart => exact ⟨rfl, rfl, rfl⟩
  case round =>
    obtain ⟨rfl, rfl, rfl⟩ := hrel
    obtain ⟨x0, x1, x2, x3, x4, x5⟩ := cells6 HB.out
    go_wp2_with fail
    refine (HBI.out _).mono ?_
    rintro e w1 ⟨rfl, hu1⟩
    have HU1 := Lib.hid (HU.out.trans_ext hu1)
    clear hu1
    go_wp2_with fail
    go_ret
    exact ⟨rfl, HU1.out⟩
/-- the operand's six cells, now and later -/
def LfB (w : World) (gl ol : Nat) (a2 : Option Addr) (n2 c2 : Nat) (so nn mm : Int) (a3 : Option Addr) (c3 : Nat) : Prop := w.cell? ⟨gl, ol, none⟩ = some (.int .i64 5) ∧ w.cell? ⟨gl, ol + 1, none⟩ = some (.slice a2 n2 c2) ∧ w.cell? ⟨gl, ol + 2, none⟩ = some (.int .i64 so) ∧ w.cell? ⟨gl, ol + 3, none⟩ = some (.int .i64 nn) ∧ w.cell? ⟨gl, ol + 4, none⟩ = some (.int .i64 mm) ∧ w.cell? ⟨gl, ol + 5, none⟩ = some (.slice a3 0 c3)
theorem LfB.ext {w w' : World} {gl ol : Nat} {a2 : Option Addr} {n2 c2 : Nat} {so nn mm : Int} {a3 : Option Addr} {c3 : Nat} (h : LfB w gl ol a2 n2 c2 so nn mm a3 c3) (hu : Upto [] w w') : LfB w' gl ol a2 n2 c2 so nn mm a3 c3 := by
  have up : ∀ {p : Addr} {u : Value}, w.cell? p = some u → w'.cell? p = some u := fun hp => (hu.cell (World.block_lt_of_cell? w _ hp) (by simp)).trans hp
  obtain ⟨h0, h1, h2, h3, h4, h5⟩ := h
  exact ⟨up h0, up h1, up h2, up h3, up h4, up h5⟩
set_option maxRecDepth 100000 in
set_option maxHeartbeats 1600000 in
theorem rank16_calls (g1 o1 c1 gl ol cl : Nat) (a2 : Option Addr) (n2 c2 : Nat) (so nn mm : Int) (a3 : Option Addr) (c3 : Nat) (w : World) (h : LfB w gl ol a2 n2 c2 so nn mm a3 c3) : Calls Tryz.prog 26 #[.agg #[.int .i64 16, .slice (some ⟨g1, o1, none⟩) 1 c1, .int .i64 0, .int .i64 0, .int .i64 0, .slice (some ⟨gl, ol, none⟩) 1 cl]] w fun e w' => e = .returned (.int .i64 1) ∧ Upto [] w w' := by
  have HBI := Lib.hid (fun u => binds16_calls (some ⟨g1, o1, none⟩) 1 c1 0 0 0 (some ⟨gl, ol, none⟩) 1 cl (by omega) u)
  have HRK := Lib.hid (fun u => rank5_calls a2 n2 c2 so nn mm a3 c3 u)
  obtain ⟨W, hW⟩ : ∃ W, W = w.alloc (.cells #[.int .i64 16, .slice (some ⟨g1, o1, none⟩) 1 c1, .int .i64 0, .int .i64 0, .int .i64 0, .slice (some ⟨gl, ol, none⟩) 1 cl] 30) := ⟨_, rfl⟩
  have HU : Hid (Upto [] w W) := Lib.hid (by rw [hW]; exact (Upto.refl [] w).alloc _)
  have HB : Hid (W.heap[w.heap.size]? = some (.cells #[.int .i64 16, .slice (some ⟨g1, o1, none⟩) 1 c1, .int .i64 0, .int .i64 0, .int .i64 0, .slice (some ⟨gl, ol, none⟩) 1 cl] 30 (0, 0))) := Lib.hid (by rw [hW]; exact new_at w _)
  have HL := Lib.hid (h.ext HU.out)
  clear h
  go_enter Tryz.func26, Tryz.ntmps26
  go_wp2_with fail
  simp only [← hW]
  clear hW
  go_loopw [3, 9] (fun vo vi wr => ∃ j : Nat, j ≤ 1 ∧ vo = .int .i64 0 ∧ vi = .int .i64 j ∧ Hid (Upto [] W wr)) (fun _ vi _ => 1 - (intOf vi).toNat)
  case atStart => exact ⟨0, by omega, rfl, rfl, Lib.hid (Upto.refl _ _)⟩
  case round =>
    obtain ⟨j, hj, rfl, rfl, HI⟩ := hrel
    obtain rfl | rfl : j = 0 ∨ j = 1 := by omega
    · obtain ⟨l0, l1, l2, l3, l4, l5⟩ := HL.out.ext HI.out
      have HA := Lib.hid (HI.out.alloc (.cells #[.int .i64 5, .slice a2 n2 c2, .int .i64 so, .int .i64 nn, .int .i64 mm, .slice a3 0 c3] 30))
      go_wp2_with fail
      refine (HRK.out _).mono ?_
      rintro e w1 ⟨rfl, hu1⟩
      have HU1 := Lib.hid (HA.out.trans_ext hu1)
      clear hu1 l0 l1 l2 l3 l4 l5
      go_wp2_with fail
      exact ⟨⟨1, by omega, rfl, rfl, HU1⟩, by simp [intOf]⟩
    · have HB1 := Lib.hid (HI.out.at HB.out (by simp))
      obtain ⟨x0, x1, x2, x3, x4, x5⟩ := cells6 HB1.out
      go_wp2_with fail
      refine (HBI.out _).mono ?_
      rintro e w1 ⟨rfl, hu1⟩
      have HU1 := Lib.hid ((HU.out.trans_ext HI.out).trans_ext hu1)
      clear hu1
      go_wp2_with fail
      go_ret
      exact ⟨rfl, HU1.out⟩
end Go.Proofs.YtbnebkkpmcjmbaaGreatDoor


namespace Go.Proofs.YtbnebkkpmcjmbaaGreatDoor
open Go.RowKit Go.PL Go.Maps Go.Shelf
set_option maxRecDepth 100000 in
set_option maxHeartbeats 2000000 in
theorem mclone_calls (b : Nat) (es : Array MapEntry) (clock : Nat) (w : World) (hb : w.heap[b]? = some (.map es clock)) :
    Calls Tryz.prog 89 #[.map (some b)] w fun e w' => e = .returned (.map (some w.heap.size)) ∧ w' = w.alloc (.map es clock) := by
  have hq := fun w => run_eql_map_nil_sl (P := Tryz.prog) w 99 _ _ (some b) Tryz.underlying99
  go_enter Tryz.func89, Tryz.ntmps89
  go_wp2
  rw [run_callFunc_extern Tryz.func98 (by kernel_rfl) (by kernel_rfl) (by kernel_rfl) (e := Extern.MapsClone.clone) (by kernel_rfl), run_maps_clone_sl w 99 hb]
  simp only [Result.andThen]
  rw [Oper.upon_value]
  go_wp2
  rw [run_typeAssert_map_sl _ 99 20 _ _ _ Tryz.underlying99]
  simp only [Result.andThen]
  rw [Oper.upon_value]
  go_wp2
  go_ret
  exact ⟨rfl, rfl⟩
end Go.Proofs.YtbnebkkpmcjmbaaGreatDoor


namespace Go.Proofs.YtbnebkkpmcjmbaaGreatDoor
open Go.RowKit Go.PL Go.Maps
set_option maxRecDepth 100000 in
set_option maxHeartbeats 2000000 in
theorem atom_calls (g o c2 : Nat) (so nn mm : Int) (a3 : Option Addr) (n3 c3 : Nat) (b : Nat) (w : World) (h0 : w.cell? ⟨g, o, none⟩ = some (sV [120])) (hlk : ∀ u, Upto [] w u → (Instr.lookup 99 (.map (some b)) (.string ⟨#[120]⟩) true).run Tryz.prog u = .ok (.tuple #[.int .i64 0, .bool false]) u) : Calls Tryz.prog 90 #[.agg #[.int .i64 5, .slice (some ⟨g, o, none⟩) 2 c2, .int .i64 so, .int .i64 nn, .int .i64 mm, .slice a3 n3 c3], .map (some b)] w fun e w' => e = .returned (.agg #[.int .i64 21, .string ⟨#[120]⟩]) ∧ Upto [] w w' := by
  obtain ⟨W, hW⟩ : ∃ W, W = (w.alloc (.cells #[.int .i64 5, .slice (some ⟨g, o, none⟩) 2 c2, .int .i64 so, .int .i64 nn, .int .i64 mm, .slice a3 n3 c3] 30)).alloc (.cells #[.int .i64 0, .string ⟨#[]⟩] 64) := ⟨_, rfl⟩
  have HU : Hid (Upto [] w W) := Lib.hid (by rw [hW]; exact ((Upto.refl [] w).alloc _).alloc _)
  have HB1 : Hid (W.heap[w.heap.size]? = some (.cells #[.int .i64 5, .slice (some ⟨g, o, none⟩) 2 c2, .int .i64 so, .int .i64 nn, .int .i64 mm, .slice a3 n3 c3] 30 (0, 0))) := Lib.hid (by rw [hW]; exact alloc_old (new_at w _) _)
  obtain ⟨x0, x1⟩ := cells2 HB1.out
  have n0 := (HU.out.cell (World.block_lt_of_cell? w _ h0) (by simp)).trans h0
  unfold sV at n0
  have HB2 : Hid (W.heap[w.heap.size + 1]? = some (.cells #[.int .i64 0, .string ⟨#[]⟩] 64 (0, 0))) := Lib.hid (by rw [hW]; exact new_at1 w _ _)
  obtain ⟨y0, y1⟩ := cells2 HB2.out
  obtain ⟨f0, f1⟩ := frees2 HB2.out
  have hl := hlk W HU.out
  clear hlk h0
  go_enter Tryz.func90, Tryz.ntmps90
  go_wp2_with fail
  simp only [← hW]
  clear hW
  go_loopw [23] (fun vi wr => vi = .int .i64 0 ∧ wr = W) (fun _ _ => 0)
  case atStart => exact ⟨rfl, rfl⟩
  case round =>
    obtain ⟨rfl, rfl⟩ := hrel
    go_wp2_with fail
    clear x0 x1 y0 y1 f0 f1 n0 hl
    have hst := set_same (set_same HB2.out 0 (.int .i64 21)) 1 (.string ⟨#[120]⟩)
    simp only [List.setIfInBounds_toArray, List.set_cons_zero, List.set_cons_succ] at hst
    have hup := (HU.out.setCell (p := ⟨w.heap.size + 1, 0, none⟩) (Or.inr (by simp)) (.int .i64 21)).setCell (p := ⟨w.heap.size + 1, 1, none⟩) (Or.inr (by simp)) (.string ⟨#[120]⟩)
    obtain ⟨q0, q1⟩ := cells2 hst
    exact bodyPost_ret (v := .agg #[.int .i64 21, .string ⟨#[120]⟩]) (by simp [results, Tryz.results90, go_sem, q0, q1]) rfl ⟨rfl, hup⟩
end Go.Proofs.YtbnebkkpmcjmbaaGreatDoor


namespace Go.Proofs.YtbnebkkpmcjmbaaGreatDoor
open Go.RowKit Go.PL Go.Maps
set_option maxRecDepth 100000 in
set_option maxHeartbeats 2000000 in
theorem check5_calls (g o c2 : Nat) (so nn mm : Int) (a3 : Option Addr) (n3 c3 : Nat) (b : Nat) (w : World) (h0 : w.cell? ⟨g, o, none⟩ = some (sV [120])) (hlk : ∀ u, Upto [] w u → (Instr.lookup 99 (.map (some b)) (.string ⟨#[120]⟩) true).run Tryz.prog u = .ok (.tuple #[.int .i64 0, .bool false]) u) : Calls Tryz.prog 69 #[.agg #[.int .i64 5, .slice (some ⟨g, o, none⟩) 2 c2, .int .i64 so, .int .i64 nn, .int .i64 mm, .slice a3 n3 c3], .map (some b)] w fun e w' => e = .returned (.agg #[.int .i64 21, .string ⟨#[120]⟩]) ∧ Upto [] w w' := by
  obtain ⟨W, hW⟩ : ∃ W, W = (w.alloc (.cells #[.int .i64 5, .slice (some ⟨g, o, none⟩) 2 c2, .int .i64 so, .int .i64 nn, .int .i64 mm, .slice a3 n3 c3] 30)).alloc (.cells #[.int .i64 0, .string ⟨#[]⟩] 64) := ⟨_, rfl⟩
  have HU : Hid (Upto [] w W) := Lib.hid (by rw [hW]; exact ((Upto.refl [] w).alloc _).alloc _)
  have HB1 : Hid (W.heap[w.heap.size]? = some (.cells #[.int .i64 5, .slice (some ⟨g, o, none⟩) 2 c2, .int .i64 so, .int .i64 nn, .int .i64 mm, .slice a3 n3 c3] 30 (0, 0))) := Lib.hid (by rw [hW]; exact alloc_old (new_at w _) _)
  have HB2 : Hid (W.heap[w.heap.size + 1]? = some (.cells #[.int .i64 0, .string ⟨#[]⟩] 64 (0, 0))) := Lib.hid (by rw [hW]; exact new_at1 w _ _)
  have HAT := Lib.hid (fun u (hu : Upto [] w u) => atom_calls g o c2 so nn mm a3 n3 c3 b u ((hu.cell (World.block_lt_of_cell? w _ h0) (by simp)).trans h0) (fun v hv => hlk v (hu.trans_ext hv)))
  obtain ⟨x0, x1, x2, x3, x4, x5⟩ := cells6 HB1.out
  clear h0 hlk
  go_enter Tryz.func69, Tryz.ntmps69
  go_wp2_with fail
  simp only [← hW]
  clear hW
  refine (HAT.out _ HU.out).mono ?_
  rintro e w1 ⟨rfl, hu1⟩
  have HB3 := Lib.hid (hu1.at HB2.out (by simp))
  have HU1 := Lib.hid (HU.out.trans_ext hu1)
  clear hu1 x0 x1 x2 x3 x4 x5
  obtain ⟨y0, y1⟩ := cells2 HB3.out
  obtain ⟨f0, f1⟩ := frees2 HB3.out
  go_wp2_with fail
  clear y0 y1 f0 f1
  have hst := set_same (set_same HB3.out 0 (.int .i64 21)) 1 (.string ⟨#[120]⟩)
  simp only [List.setIfInBounds_toArray, List.set_cons_zero, List.set_cons_succ] at hst
  have hup := (HU1.out.setCell (p := ⟨w.heap.size + 1, 0, none⟩) (Or.inr (by simp)) (.int .i64 21)).setCell (p := ⟨w.heap.size + 1, 1, none⟩) (Or.inr (by simp)) (.string ⟨#[120]⟩)
  obtain ⟨q0, q1⟩ := cells2 hst
  exact bodyPost_ret (v := .agg #[.int .i64 21, .string ⟨#[120]⟩]) (by simp [results, Tryz.results69, go_sem, q0, q1]) rfl ⟨rfl, hup⟩
end Go.Proofs.YtbnebkkpmcjmbaaGreatDoor


namespace Go.Proofs.YtbnebkkpmcjmbaaGreatDoor
open Go.RowKit Go.PL Go.Maps
set_option maxRecDepth 100000 in
set_option maxHeartbeats 2000000 in
theorem check16_calls (g1 o1 c1 gl ol cl g o c2 : Nat) (so nn mm : Int) (a3 : Option Addr) (c3 : Nat) (b : Nat) (w : World) (hb : w.heap[b]? = some (.map #[] 0)) (hn : w.cell? ⟨g1, o1, none⟩ = some (sV [121])) (h0 : w.cell? ⟨g, o, none⟩ = some (sV [120])) (hl : LfB w gl ol (some ⟨g, o, none⟩) 2 c2 so nn mm a3 c3) : Calls Tryz.prog 69 #[.agg #[.int .i64 16, .slice (some ⟨g1, o1, none⟩) 1 c1, .int .i64 0, .int .i64 0, .int .i64 0, .slice (some ⟨gl, ol, none⟩) 1 cl], .map (some b)] w fun e w' => e = .returned (.agg #[.int .i64 21, .string ⟨#[120]⟩]) ∧ Upto [] w w' := by
  obtain ⟨W, hW⟩ : ∃ W, W = (w.alloc (.cells #[.int .i64 16, .slice (some ⟨g1, o1, none⟩) 1 c1, .int .i64 0, .int .i64 0, .int .i64 0, .slice (some ⟨gl, ol, none⟩) 1 cl] 30)).alloc (.cells #[.int .i64 0, .string ⟨#[]⟩] 64) := ⟨_, rfl⟩
  have HU : Hid (Upto [] w W) := Lib.hid (by rw [hW]; exact ((Upto.refl [] w).alloc _).alloc _)
  have HB1 : Hid (W.heap[w.heap.size]? = some (.cells #[.int .i64 16, .slice (some ⟨g1, o1, none⟩) 1 c1, .int .i64 0, .int .i64 0, .int .i64 0, .slice (some ⟨gl, ol, none⟩) 1 cl] 30 (0, 0))) := Lib.hid (by rw [hW]; exact alloc_old (new_at w _) _)
  have HB2 : Hid (W.heap[w.heap.size + 1]? = some (.cells #[.int .i64 0, .string ⟨#[]⟩] 64 (0, 0))) := Lib.hid (by rw [hW]; exact new_at1 w _ _)
  have HBI := Lib.hid (fun u => binds16_calls (some ⟨g1, o1, none⟩) 1 c1 0 0 0 (some ⟨gl, ol, none⟩) 1 cl (by omega) u)
  have HMB := Lib.hid (HU.out.at hb (by simp))
  have HLB := Lib.hid (fun u (hu : Upto [] w u) => hl.ext hu)
  have HN0 := Lib.hid (fun u (hu : Upto [] w u) => (hu.cell (World.block_lt_of_cell? w _ h0) (by simp)).trans h0)
  obtain ⟨x0, x1, x2, x3, x4, x5⟩ := cells6 HB1.out
  go_enter Tryz.func69, Tryz.ntmps69
  go_wp2_with fail
  simp only [← hW]
  clear hW
  refine (HBI.out _).mono ?_
  rintro e w1 ⟨rfl, hu1⟩
  have HB3 := Lib.hid (hu1.at HB1.out (by simp))
  have HR3 := Lib.hid (hu1.at HB2.out (by simp))
  have HM1 := Lib.hid (hu1.at HMB.out (by simp))
  have HU1 := Lib.hid (HU.out.trans_ext hu1)
  clear hu1 x0 x1 x2 x3 x4 x5
  go_wp2_with fail
  refine (mclone_calls b #[] 0 w1 HM1.out).mono ?_
  rintro e w2 ⟨rfl, rfl⟩
  go_wp2_with fail
  have hm4 := MapL.made Tryz.prog 9 w1
  obtain ⟨W4, hW4⟩ : ∃ W4, W4 = w1.alloc (.map #[] 0) := ⟨_, rfl⟩
  have HWL := Lib.hid HU1.out.size
  have HWB := Lib.hid (lt_of_heap HB3.out)
  have HU4 : Hid (Upto [] w W4) := Lib.hid (by rw [hW4]; exact HU1.out.alloc _)
  have HB4 : Hid (W4.heap[w.heap.size]? = some (.cells #[.int .i64 16, .slice (some ⟨g1, o1, none⟩) 1 c1, .int .i64 0, .int .i64 0, .int .i64 0, .slice (some ⟨gl, ol, none⟩) 1 cl] 30 (0, 0))) := Lib.hid (by rw [hW4]; exact alloc_old HB3.out _)
  have HR4 : Hid (W4.heap[w.heap.size + 1]? = some (.cells #[.int .i64 0, .string ⟨#[]⟩] 64 (0, 0))) := Lib.hid (by rw [hW4]; exact alloc_old HR3.out _)
  have HRB := Lib.hid (lt_of_heap HR3.out)
  rw [← hW4] at hm4
  have HM4 := Lib.hid hm4
  simp only [← hW4]
  clear hW4 hm4
  have hn4 := (HU4.out.cell (World.block_lt_of_cell? w _ hn) (by simp)).trans hn
  unfold sV at hn4
  have e1 : ∀ u : Ext W4, u.w.cell? ⟨w.heap.size, 1, none⟩ = some (.slice (some ⟨g1, o1, none⟩) 1 c1) := fun u => u.cell (cell_of HB4.out 1)
  have e2 : ∀ u : Ext W4, u.w.cell? ⟨w.heap.size, 2, none⟩ = some (.int .i64 0) := fun u => u.cell (cell_of HB4.out 2)
  have en : ∀ u : Ext W4, u.w.cell? ⟨g1, o1, none⟩ = some (.string ⟨#[121]⟩) := fun u => u.cell hn4
  clear hn4
  refine wp_region_seg_at [] [] [0, 1, 2, 3, 4, 5, 6] [7] 7 (by kernel_rfl) (by kernel_rfl) (by kernel_rfl) ?_
  iterate 7 (refine seg_plain rfl rfl rfl rfl rfl ?_; intro K' hK'; go_big_quiet_op; go_big_quiet_on)
  intro w5 hg
  have HU5 := Lib.hid (HU4.out.trans_ext hg.up)
  have hm5 := HM4.out.upto hg.up (by simp)
  have HB5 := Lib.hid (hg.up.at HB4.out (by simp))
  have HR5 := Lib.hid (hg.up.at HR4.out (by simp))
  simp only [List.drop_succ_cons, List.drop_zero]
  clear hg e1 e2 en
  go_wp2_with (refine wpList_insert _ rfl _ _ _ 99 rfl 9 3 lawS Tryz.underlying99 w1.heap.size [] rfl hm5 (.string ⟨#[121]⟩) (.int .i64 0) _ rfl rfl (keyS Tryz.underlying9 (by decide)) (by simp) ?_; intro w6 hm6 hg6; have HU6 := Lib.hid (HU5.out.grown hg6 (fun k hk => by cases hk; exact Or.inr HWL.out)); have HB6 := Lib.hid (((Upto.refl [w1.heap.size] w5).grown hg6 (fun k hk => by cases hk; simp)).at HB5.out (by have := HWB.out; simp; omega)); have HR6 := Lib.hid (((Upto.refl [w1.heap.size] w5).grown hg6 (fun k hk => by cases hk; simp)).at HR5.out (by have := HRB.out; simp; omega)); have HM6 := Lib.hid hm6; clear hm6 hg6; have z5 := cell_of HB6.out 5; simp only [List.getElem?_toArray, List.getElem?_cons_zero, List.getElem?_cons_succ] at z5)
  have HLK : Hid (∀ u, Upto [] w6 u → (Instr.lookup 99 (.map (some w1.heap.size)) (.string ⟨#[120]⟩) true).run Tryz.prog u = .ok (.tuple #[.int .i64 0, .bool false]) u) := Lib.hid (fun u hu => by
    rcases (HM6.out.upto hu (by simp)).look lawS Tryz.underlying99 (z := .int .i64 0) rfl (x := .string ⟨#[120]⟩) (keyS Tryz.underlying9 (by decide)) true with ⟨h1, -⟩ | ⟨v, h1, -⟩
    · exact h1
    · simp at h1)
  have HC5 := Lib.hid (fun u (hu : Upto [] w6 u) => check5_calls g o c2 so nn mm a3 0 c3 w1.heap.size u (HN0.out u (HU6.out.trans_ext hu)) (fun v hv => HLK.out v (hu.trans_ext hv)))
  obtain ⟨l0, l1, l2, l3, l4, l5⟩ := HLB.out _ HU6.out
  clear hl h0 hn hb
  go_loopw [33] (fun vi wr => vi = .int .i64 0 ∧ wr = w6) (fun _ _ => 0)
  case atStart => exact ⟨rfl, rfl⟩
  case round =>
    obtain ⟨rfl, rfl⟩ := hrel
    go_wp2_with fail
    refine (HC5.out _ ((Upto.refl [] _).alloc _)).mono ?_
    rintro e w7 ⟨rfl, hu7⟩
    have HU7 := Lib.hid (((Upto.refl [] _).alloc (.cells #[.int .i64 5, .slice (some ⟨g, o, none⟩) 2 c2, .int .i64 so, .int .i64 nn, .int .i64 mm, .slice a3 0 c3] 30)).trans_ext hu7)
    have HR7 := Lib.hid (HU7.out.at HR6.out (by simp))
    clear hu7 z5 l0 l1 l2 l3 l4 l5
    have HR8 := Lib.hid (alloc_old HR7.out (.cells #[.int .i64 21, .string ⟨#[120]⟩] 64))
    obtain ⟨y0, y1⟩ := cells2 HR8.out
    obtain ⟨f0, f1⟩ := frees2 HR8.out
    go_wp2_with fail
    clear y0 y1 f0 f1
    have hst := set_same (set_same HR8.out 0 (.int .i64 21)) 1 (.string ⟨#[120]⟩)
    simp only [List.setIfInBounds_toArray, List.set_cons_zero, List.set_cons_succ] at hst
    have hup := (((HU6.out.trans_ext HU7.out).alloc (.cells #[.int .i64 21, .string ⟨#[120]⟩] 64)).setCell (p := ⟨w.heap.size + 1, 0, none⟩) (Or.inr (by simp)) (.int .i64 21)).setCell (p := ⟨w.heap.size + 1, 1, none⟩) (Or.inr (by simp)) (.string ⟨#[120]⟩)
    obtain ⟨q0, q1⟩ := cells2 hst
    exact bodyPost_ret (v := .agg #[.int .i64 21, .string ⟨#[120]⟩]) (by simp [results, Tryz.results69, go_sem, q0, q1]) rfl ⟨rfl, hup⟩
end Go.Proofs.YtbnebkkpmcjmbaaGreatDoor


namespace Go.Proofs.YtbnebkkpmcjmbaaGreatDoor
open Go.RowKit Go.PL Go.Maps
set_option maxRecDepth 100000 in
set_option maxHeartbeats 1600000 in
theorem hasc_calls (s : List UInt8) (w : World) (he : Env w) (hmax : s.length ≤ 281474976710656) : Calls Tryz.prog 100 #[.string ⟨s.toArray⟩] w fun e w' => e = .returned (.bool (!identF s)) ∧ Upto [] w w' := by
  have H := Lib.hid (isIdent_calls s w he hmax)
  generalize identF s = b at *
  go_enter Tryz.func100, Tryz.ntmps100
  go_wp2_with fail
  refine H.out.mono ?_
  rintro e w1 ⟨rfl, hu1⟩
  have HU1 := Lib.hid hu1
  clear hu1
  cases b
  · go_wp2_with fail
    go_ret
    exact ⟨rfl, HU1.out⟩
  · go_wp2_with fail
    go_ret
    exact ⟨rfl, HU1.out⟩
set_option maxRecDepth 100000 in
set_option maxHeartbeats 3200000 in
theorem indexf_calls (xs : List (List UInt8)) (a : Option Addr) (c : Nat) (w : World) (he : Env w) (hl : xs.length ≤ 10000000) (hx : ∀ x ∈ xs, x.length ≤ 10000000) (hc : ∀ i x, xs[i]? = some x → ∃ g o, a = some ⟨g, o, none⟩ ∧ w.cell? ⟨g, o + i, none⟩ = some (.string ⟨x.toArray⟩)) :
    Calls Tryz.prog 111 #[.slice a xs.length c, .func (.func 100) #[] #[]] w fun e w' => (∃ k : Int, e = .returned (.int .i64 k) ∧ (0 ≤ k ↔ xs.all identF = false)) ∧ Upto [] w w' := by
  have HE : Hid (∀ u, Upto [] w u → Env u) := Lib.hid (fun u hu => he.ext hu)
  have HC := Lib.hid hc
  have HX := Lib.hid hx
  generalize hB : xs.all identF = B at *
  have HB := Lib.hid hB
  clear hB
  generalize hL : xs.length = L at *
  have HL := Lib.hid hL
  have hL0 : (0 : Int) ≤ L := by omega
  have hL1 : (L : Int) ≤ 10000000 := by omega
  clear he hc hx hL
  go_enter Tryz.func111, Tryz.ntmps111
  go_wp2_with fail
  go_loopw [8] (fun i wr => ∃ j : Nat, j ≤ L ∧ i = .int .i64 j ∧ Hid (∀ q x, q < j → xs[q]? = some x → identF x = true) ∧ Hid (Upto [] w wr)) (fun i _ => L - (intOf i).toNat)
  case atStart => exact ⟨0, by omega, rfl, Lib.hid (fun q x hq => by omega), Lib.hid (Upto.refl _ _)⟩
  case round =>
    obtain ⟨j, hj, rfl, HA, HU⟩ := hrel
    have hj0 : (0 : Int) ≤ j := by omega
    rcases Nat.lt_or_ge j L with hlt | hge
    · have hltI : (j : Int) < L := by omega
      obtain ⟨x, hx⟩ : ∃ x, xs[j]? = some x := ⟨_, List.getElem?_eq_getElem (by have := HL.out; omega)⟩
      have hmem := List.mem_of_getElem? hx
      obtain ⟨g, o, rfl, c0⟩ := HC.out j x hx
      replace c0 := up_cell HU.out c0
      have HK := Lib.hid (hasc_calls x wr (HE.out wr HU.out) (by have := HX.out x hmem; omega))
      have hbb : identF x = true ∨ identF x = false := by cases identF x <;> simp
      rcases hbb with hb | hb
      · rw [hb] at HK
        have HA2 : Hid (∀ q x, q < j + 1 → xs[q]? = some x → identF x = true) := Lib.hid (fun q y hq hy => by
          by_cases hqj : q = j
          · subst hqj
            rw [hx] at hy
            cases hy
            exact hb
          · exact HA.out q y (by omega) hy)
        clear hx hmem hb
        go_wp2_with fail
        refine HK.out.mono ?_
        rintro e w5 ⟨rfl, hu5⟩
        have HU5 := Lib.hid (HU.out.trans_ext hu5)
        clear hu5
        go_wp2_with fail
        go_roundw
        case rel => exact ⟨j + 1, by omega, by go_num, HA2, HU5⟩
        case measure => simp [intOf]; omega
      · rw [hb] at HK
        have HF : Hid (B = false) := Lib.hid (by
          rw [← HB.out, Bool.eq_false_iff]
          intro h
          have := List.all_eq_true.1 h x hmem
          rw [hb] at this
          cases this)
        clear hx hmem hb
        go_wp2_with fail
        refine HK.out.mono ?_
        rintro e w5 ⟨rfl, hu5⟩
        have HU5 := Lib.hid (HU.out.trans_ext hu5)
        clear hu5
        go_wp2_with fail
        go_ret
        exact ⟨⟨(j : Int), rfl, fun _ => HF.out, fun _ => hj0⟩, HU5.out⟩
    · have hgeI : ¬ (j : Int) < L := by omega
      have HF : Hid (B = true) := Lib.hid (by
        rw [← HB.out, List.all_eq_true]
        intro x hx
        obtain ⟨q, hq, rfl⟩ := List.mem_iff_getElem.1 hx
        exact HA.out q _ (by have := HL.out; omega) (List.getElem?_eq_getElem hq))
      go_wp2_with fail
      go_ret
      exact ⟨⟨-1, rfl, fun h => absurd h (by decide), fun h => by rw [HF.out] at h; cases h⟩, HU.out⟩
set_option maxRecDepth 100000 in
set_option maxHeartbeats 1600000 in
theorem containsf_calls (xs : List (List UInt8)) (a : Option Addr) (c : Nat) (w : World) (he : Env w) (hl : xs.length ≤ 10000000) (hx : ∀ x ∈ xs, x.length ≤ 10000000) (hc : ∀ i x, xs[i]? = some x → ∃ g o, a = some ⟨g, o, none⟩ ∧ w.cell? ⟨g, o + i, none⟩ = some (.string ⟨x.toArray⟩)) :
    Calls Tryz.prog 99 #[.slice a xs.length c, .func (.func 100) #[] #[]] w fun e w' => e = .returned (.bool (!xs.all identF)) ∧ Upto [] w w' := by
  have H := Lib.hid (indexf_calls xs a c w he hl hx hc)
  clear hc hx hl he
  generalize hL : xs.length = L at *
  generalize xs.all identF = b at *
  clear hL
  go_enter Tryz.func99, Tryz.ntmps99
  go_wp2_with fail
  refine H.out.mono ?_
  rintro e w1 ⟨⟨k, rfl, hk⟩, hu1⟩
  have HU1 := Lib.hid hu1
  clear hu1
  cases b
  · have h0 : (0 : Int) ≤ k := hk.2 rfl
    clear hk
    go_wp2_with fail
    go_ret
    exact ⟨rfl, HU1.out⟩
  · have h0 : ¬ (0 : Int) ≤ k := fun h => by have := hk.1 h; cases this
    clear hk
    go_wp2_with fail
    go_ret
    refine ⟨?_, HU1.out⟩
    show Ending.returned (.bool (decide (0 ≤ k))) = _
    rw [decide_eq_false (by omega)]
    rfl
end Go.Proofs.YtbnebkkpmcjmbaaGreatDoor


namespace Go.Proofs.YtbnebkkpmcjmbaaGreatDoor
open Go.RowKit Go.PL Go.Maps

def sortW (s : Int) : List UInt8 := if s = 0 then [118, 101, 114, 116, 101, 120] else if s = 1 then [101, 100, 103, 101] else if s = 2 then [115, 101, 116] else if s = 3 then [101, 100, 103, 101, 115] else []
end Go.Proofs.YtbnebkkpmcjmbaaGreatDoor


namespace Go.Proofs.YtbnebkkpmcjmbaaGreatDoor
open Go.RowKit Go.PL Go.Maps
set_option maxRecDepth 100000 in
set_option maxHeartbeats 1600000 in
theorem sname_calls (s : Int) (w : World) (hs : SEnv w) : Calls Tryz.prog 85 #[.int .i64 s] w fun e w' => e = .returned (.string ⟨(sortW s).toArray⟩) ∧ Upto [] w w' := by
  have HU := Lib.hid (Upto.refl [] w)
  by_cases h0 : s < 0
  · have e : sortW s = [] := by unfold sortW; rw [if_neg (by omega), if_neg (by omega), if_neg (by omega), if_neg (by omega)]
    rw [e]
    clear e hs
    go_enter Tryz.func85, Tryz.ntmps85
    go_wp2_with fail
    go_ret
    exact ⟨rfl, HU.out⟩
  by_cases h1 : (4 : Int) ≤ s
  · have e : sortW s = [] := by unfold sortW; rw [if_neg (by omega), if_neg (by omega), if_neg (by omega), if_neg (by omega)]
    rw [e]
    clear e hs
    go_enter Tryz.func85, Tryz.ntmps85
    go_wp2_with fail
    go_ret
    exact ⟨rfl, HU.out⟩
  have hc : s = 0 ∨ s = 1 ∨ s = 2 ∨ s = 3 := by omega
  have c0 := hs.c0
  have c1 := hs.c1
  have c2 := hs.c2
  have c3 := hs.c3
  clear hs h0 h1
  rcases hc with rfl | rfl | rfl | rfl
  · go_enter Tryz.func85, Tryz.ntmps85
    go_wp2_with fail
    go_ret
    exact ⟨rfl, HU.out⟩
  · go_enter Tryz.func85, Tryz.ntmps85
    go_wp2_with fail
    go_ret
    exact ⟨rfl, HU.out⟩
  · go_enter Tryz.func85, Tryz.ntmps85
    go_wp2_with fail
    go_ret
    exact ⟨rfl, HU.out⟩
  · go_enter Tryz.func85, Tryz.ntmps85
    go_wp2_with fail
    go_ret
    exact ⟨rfl, HU.out⟩
/-- a list of variables, element by element -/
theorem vars_get {w : World} {P : Nat → Prop} {v : Value} {f : List (List UInt8 × Int)} (h : VarsV w P v f) : ∃ a c, v = .slice a f.length c ∧ ∀ i x, f[i]? = some x → ∃ g o, a = some ⟨g, o, none⟩ ∧ w.cell? ⟨g, o + i * 2, none⟩ = some (.string ⟨x.1.toArray⟩) ∧ w.cell? ⟨g, o + i * 2 + 1, none⟩ = some (.int .i64 x.2) := by
  obtain ⟨a, c, rfl, hg⟩ := SlP.get h
  refine ⟨a, c, rfl, fun i x hi => ?_⟩
  obtain ⟨g, o, rfl, h1⟩ := hg _ _ (vars_at hi).1
  obtain ⟨g2, o2, e, h2⟩ := hg _ _ (vars_at hi).2
  simp at e
  obtain ⟨rfl, rfl⟩ := e
  exact ⟨g, o, rfl, h1, h2⟩
theorem vars_slice {w : World} {P : Nat → Prop} {a : Option Addr} {n c : Nat} {f : List (List UInt8 × Int)} (h : VarsV w P (.slice a n c) f) : ∀ i x, f[i]? = some x → ∃ g o, a = some ⟨g, o, none⟩ ∧ w.cell? ⟨g, o + i * 2, none⟩ = some (.string ⟨x.1.toArray⟩) ∧ w.cell? ⟨g, o + i * 2 + 1, none⟩ = some (.int .i64 x.2) := by
  obtain ⟨a', c', e, hg⟩ := vars_get h
  cases e
  exact hg
theorem right_vars {nm : List UInt8 → Bool} {q : Qn} {k : Nat} (h8 : ¬ 8 < q.free.length) (h0 : k ≠ 0) (h : varsE nm q.free [] = k) : rightF nm q = k := by
  unfold rightF
  rw [if_neg h8, h, if_pos h0]
theorem right_body {nm : List UInt8 → Bool} {q : Qn} (h8 : ¬ 8 < q.free.length) (h : varsE nm q.free [] = 0) : rightF nm q = checkF nm q.body := by
  unfold rightF
  rw [if_neg h8, h]
  rfl
end Go.Proofs.YtbnebkkpmcjmbaaGreatDoor


namespace Go.Proofs.YtbnebkkpmcjmbaaGreatDoor
open Go.RowKit Go.PL Go.Maps

theorem QnV.open {w : World} {P : Nat → Prop} {q : Qn} {v : Value} (h : QnV w P q v) : ∃ (f1 : Option Addr) (f3 : Nat) (op : Int) (a1 : Option Addr) (n1 c1 : Nat) (so n m : Int) (a2 : Option Addr) (n2 c2 : Nat), v = .agg #[.slice f1 q.free.length f3, .int .i64 op, .slice a1 n1 c1, .int .i64 so, .int .i64 n, .int .i64 m, .slice a2 n2 c2] ∧ VarsV w P (.slice f1 q.free.length f3) q.free ∧ NdV w P q.body (.agg #[.int .i64 op, .slice a1 n1 c1, .int .i64 so, .int .i64 n, .int .i64 m, .slice a2 n2 c2]) := by
  obtain ⟨vf, a0, a1, a2, a3, a4, a5, rfl, h1, h2⟩ := h
  obtain ⟨fa, fc, rfl⟩ := h1.len
  obtain ⟨op, x1, x2, x3, so, n, m, y1, y2, y3, hs⟩ := h2.six
  simp only [Value.agg.injEq, Array.mk.injEq, List.cons.injEq, and_true] at hs
  obtain ⟨rfl, rfl, rfl, rfl, rfl, rfl⟩ := hs
  exact ⟨fa, fc, op, x1, x2, x3, so, n, m, y1, y2, y3, rfl, h1, h2⟩

end Go.Proofs.YtbnebkkpmcjmbaaGreatDoor


namespace Go.Proofs.YtbnebkkpmcjmbaaGreatDoor
open Go.RowKit Go.PL Go.Maps
/-- a list that is under way: new since w0, and not frozen -/
structure RowU (w0 : World) (ls : List (List UInt8)) (v : Value) (wr : World) : Prop where
  slp : SlP wr (Nu w0 wr) v ls.length (ls.map sV)
  up : Upto [] w0 wr
theorem Nu.lt {w0 w : World} {b : Nat} (h : Nu w0 w b) : b < w.heap.size := by
  obtain ⟨cs, t, h⟩ := h.2
  exact lt_of_heap h
theorem Nu.ext {w0 w w' : World} {b : Nat} (h : Nu w0 w b) (hu : Upto [] w w') : Nu w0 w' b := ⟨h.1, h.2.stay (hu.block b h.lt (by simp))⟩
theorem RowU.ext {w0 wr wr' : World} {ls : List (List UInt8)} {v : Value} (h : RowU w0 ls v wr) (hu : Upto [] wr wr') : RowU w0 ls v wr' := ⟨(h.slp.ext hu).mono (fun _b hb _ => hb.ext hu), h.up.trans_ext hu⟩
theorem RowU.nil (w0 wr : World) (hu : Upto [] w0 wr) : RowU w0 [] (.slice none 0 0) wr := ⟨SlP.nil, hu⟩
theorem RowU.of {w0 wr w' : World} {ls ls' : List (List UInt8)} {v v' : Value} (h : RowU w0 ls v wr) (h2 : SlP w' (fun b => Nu w0 wr b ∨ Nu wr w' b) v' ls'.length (ls'.map sV)) (hu : Upto [] wr w') : RowU w0 ls' v' w' :=
  ⟨h2.mono (fun _b hb _ => hb.elim (fun h3 => h3.ext hu) (fun h3 => ⟨Nat.le_trans h.up.size h3.1, h3.2⟩)), h.up.trans_ext hu⟩
end Go.Proofs.YtbnebkkpmcjmbaaGreatDoor


namespace Go.PL
open Go.RowKit
section
variable {P : Program} {ops : Array Oper}
/-- where operation i leaves its value -/
def dstAt (ops : Array Oper) (i : Nat) : Option Tmp := (ops[i]?).bind (·.dst)
def putL (ops : Array Oper) (vals : Nat → Value) (l : List Nat) (a : Act) : Act := l.foldl (fun a i => a.put (dstAt ops i) (vals i)) a
/-- own: the blocks of what an operation has left; holds: what is known of it; co: (j, c): j takes over what c has left -/
structure Plan where
  own : Nat → Value → List Nat
  holds : Nat → Value → World → Prop
  co : List (Nat × Nat)
def Plan.takes (pl : Plan) (j : Nat) : Option Nat := pl.co.lookup j
def Plan.gone (pl : Plan) (j : Nat) (vals : Nat → Value) : List Nat := match pl.takes j with | some c => pl.own c (vals c) | none => []
def hopB (ops : Array Oper) (co : List (Nat × Nat)) (sz : Nat) : Bool :=
  (List.range ops.size).all (fun i => match ops[i]? with
    | some o => o.guard.isNone && o.after.all (fun e => !(Region.binds .any e) || decide (e.on < i)) && (match o.dst with | some d => decide (d < sz) | none => true) && (match co.lookup i with | some c => reach ops i c && (List.range ops.size).all (fun k => k == i || co.lookup k != some c) | none => true)
    | none => true) &&
  (List.range ops.size).all (fun i => (List.range ops.size).all fun j => i == j || (match dstAt ops i with | some d => dstAt ops j != some d | none => true))
/-- operation j, in whatever order it comes up -/
def Hop (P : Program) (ops : Array Oper) (W : World) (a0 : Act) (pl : Plan) (j : Nat) : Prop :=
  ∀ oj, ops[j]? = some oj → ∀ (a : Act) (w : World) (vals : Nat → Value),
    (∀ i d, reach ops j i = true → dstAt ops i = some d → a.eval (.tmp d) = vals i) → (∀ t, (∀ i, i < ops.size → dstAt ops i ≠ some t) → a.eval (.tmp t) = a0.eval (.tmp t)) → Upto [] W w →
    (∀ i, reach ops j i = true → (∀ k, k < ops.size → pl.takes k = some i → k = j) → pl.holds i (vals i) w ∧ ∀ b ∈ pl.own i (vals i), W.heap.size ≤ b ∧ b < w.heap.size) →
    opqUpon P (fun v w' => Upto (pl.gone j vals) w w' ∧ pl.holds j v w' ∧ ∀ b ∈ pl.own j v, (b ∈ pl.gone j vals ∨ w.heap.size ≤ b) ∧ b < w'.heap.size) ((execOp a.eval oj).run P w)
structure Inv (ops : Array Oper) (W : World) (a0 : Act) (pl : Plan) (vals : Nat → Value) (l : List Nat) (listed : Array Bool) (a : Act) (w : World) : Prop where
  up : Upto [] W w
  act : a = putL ops vals l a0
  nodup : l.Nodup
  size : listed.size = ops.size
  closed : Closed ops listed
  mem : ∀ i, i ∈ l ↔ (i < ops.size ∧ listed.getD i false = true)
  live : ∀ i ∈ l, (∀ k ∈ l, pl.takes k ≠ some i) → pl.holds i (vals i) w ∧ ∀ b ∈ pl.own i (vals i), W.heap.size ≤ b ∧ b < w.heap.size
  apart : ∀ i ∈ l, ∀ k ∈ l, i ≠ k → (∀ m ∈ l, pl.takes m ≠ some i) → (∀ m ∈ l, pl.takes m ≠ some k) → ∀ b ∈ pl.own i (vals i), b ∉ pl.own k (vals k)
theorem putL_vals {vals vals' : Nat → Value} : ∀ (l : List Nat) (a : Act), (∀ i ∈ l, vals i = vals' i) → putL ops vals l a = putL ops vals' l a
  | [], _, _ => rfl
  | i :: l, a, h => by
    unfold putL
    rw [List.foldl_cons, List.foldl_cons, h i (by simp)]
    exact putL_vals l _ (fun k hk => h k (by simp [hk]))
theorem putL_snoc (vals : Nat → Value) (l : List Nat) (j : Nat) (a : Act) : putL ops vals (l ++ [j]) a = (putL ops vals l a).put (dstAt ops j) (vals j) := by
  unfold putL
  rw [List.foldl_append]
  rfl
theorem put_size (a : Act) (d : Option Tmp) (v : Value) : (a.put d v).tmps.size = a.tmps.size := by
  cases d <;> simp [Act.put]
theorem eval_put_self {a : Act} {d : Tmp} {v : Value} (h : d < a.tmps.size) : (a.put (some d) v).eval (.tmp d) = v := by
  simp [Act.eval, Act.put, h]
theorem putL_other (vals : Nat → Value) (t : Tmp) : ∀ (l : List Nat) (a : Act), (∀ i ∈ l, dstAt ops i ≠ some t) → (putL ops vals l a).eval (.tmp t) = a.eval (.tmp t)
  | [], _, _ => rfl
  | i :: l, a, h => by
    show (putL ops vals l (a.put _ _)).eval _ = _
    rw [putL_other vals t l _ (fun k hk => h k (by simp [hk]))]
    exact Act.eval_put (fun d hd e => h i (by simp) (by rw [hd]; cases e; rfl))
theorem putL_at (vals : Nat → Value) {sz : Nat} (hd : ∀ i j, i < ops.size → j < ops.size → i ≠ j → ∀ d, dstAt ops i = some d → dstAt ops j ≠ some d) {i : Nat} {d : Tmp} (hid : dstAt ops i = some d) (hs : d < sz) :
    ∀ (l : List Nat) (a : Act), a.tmps.size = sz → (∀ k ∈ l, k < ops.size) → l.Nodup → i ∈ l → (putL ops vals l a).eval (.tmp d) = vals i
  | [], _, _, _, _, h => by cases h
  | k :: l, a, hz, hk, hn, h => by
    show (putL ops vals l (a.put _ _)).eval _ = _
    by_cases hki : k = i
    · subst hki
      rw [putL_other vals d l _ (fun m hm => hd k m (hk k (by simp)) (hk m (by simp [hm])) (fun e => (List.nodup_cons.1 hn).1 (e ▸ hm)) d hid), hid]
      exact eval_put_self (by rw [hz]; exact hs)
    · exact putL_at vals hd hid hs l _ (by rw [put_size, hz]) (fun m hm => hk m (by simp [hm])) (List.nodup_cons.1 hn).2 ((List.mem_cons.1 h).resolve_left (Ne.symm hki))
theorem putL_perm (vals : Nat → Value) (hd : ∀ i j, i < ops.size → j < ops.size → i ≠ j → ∀ d, dstAt ops i = some d → dstAt ops j ≠ some d) {l l' : List Nat} (hp : l.Perm l') (hk : ∀ k ∈ l, k < ops.size) (a : Act) : putL ops vals l a = putL ops vals l' a := by
  unfold putL
  refine List.Perm.foldl_eq' hp (fun x hx y hy z => ?_) a
  by_cases hxy : x = y
  · rw [hxy]
  · exact (Act.put_comm z _ _ (fun d h1 => hd x y (hk x hx) (hk y hy) hxy d h1))

theorem Inv.step {W w w' : World} {a0 a : Act} {pl : Plan} {vals : Nat → Value} {l : List Nat} {listed : Array Bool} {j : Nat} {oj : Oper} {v : Value} (h : Inv ops W a0 pl vals l listed a w) (hj : ops[j]? = some oj) (hun : listed.getD j false = false) (hall : ∀ e ∈ oj.after, Region.binds .any e = true → listed.getD e.on false = true)
    (hst : ∀ i v x x' S, pl.holds i v x → Upto S x x' → (∀ b ∈ pl.own i v, b ∉ S) → pl.holds i v x') (htk : ∀ c, pl.takes j = some c → c ∈ l ∧ ∀ k, k < ops.size → pl.takes k = some c → k = j)
    (h1 : Upto (pl.gone j vals) w w') (h2 : pl.holds j v w') (h3 : ∀ b ∈ pl.own j v, (b ∈ pl.gone j vals ∨ w.heap.size ≤ b) ∧ b < w'.heap.size) :
    Inv ops W a0 pl (fun i => if i = j then v else vals i) (l ++ [j]) (listed.setIfInBounds j true) (a.put oj.dst v) w' := by
  have hjlt : j < ops.size := (Array.getElem?_eq_some_iff.1 hj).1
  have hjl : j ∉ l := fun hm => by
    have := ((h.mem j).1 hm).2
    rw [hun] at this
    cases this
  have hjs : j < listed.size := by rw [h.size]; exact hjlt
  have hne : ∀ i ∈ l, i ≠ j := fun i hi e => hjl (e ▸ hi)
  have hv : ∀ i ∈ l, (if i = j then v else vals i) = vals i := fun i hi => if_neg (hne i hi)
  have hdst : dstAt ops j = oj.dst := by unfold dstAt; rw [hj]; rfl
  -- what j takes over: its blocks
  have hgone : ∀ b ∈ pl.gone j vals, ∃ c, pl.takes j = some c ∧ b ∈ pl.own c (vals c) ∧ c ∈ l ∧ (∀ k ∈ l, pl.takes k ≠ some c) := fun b hb => by
    unfold Plan.gone at hb
    split at hb
    · rename_i c hc
      obtain ⟨k1, k2⟩ := htk c hc
      exact ⟨c, hc, hb, k1, fun k hk he => hjl (by rw [← k2 k ((h.mem k).1 hk).1 he]; exact hk)⟩
    · cases hb
  have hgW : ∀ b ∈ pl.gone j vals, W.heap.size ≤ b ∧ b < w.heap.size := fun b hb => by
    obtain ⟨c, -, k1, k2, k3⟩ := hgone b hb
    exact (h.live c k2 k3).2 b k1
  have hold : ∀ i ∈ l, (∀ k ∈ l ++ [j], pl.takes k ≠ some i) → pl.holds i (vals i) w ∧ (∀ b ∈ pl.own i (vals i), W.heap.size ≤ b ∧ b < w.heap.size) ∧ ∀ b ∈ pl.own i (vals i), b ∉ pl.gone j vals := fun i hi hk => by
    have h4 := h.live i hi (fun k hk' => hk k (by simp [hk']))
    refine ⟨h4.1, h4.2, fun b hb hg => ?_⟩
    obtain ⟨c, k0, k1, k2, k3⟩ := hgone b hg
    have hic : i ≠ c := fun e => hk j (by simp) (by rw [e]; exact k0)
    exact h.apart i hi c k2 hic (fun m hm => hk m (by simp [hm])) k3 b hb k1
  refine ⟨h.up.trans h1 (fun b hb => Or.inr (hgW b hb).1), ?_, ?_, by rw [Array.size_setIfInBounds]; exact h.size, ?_, ?_, ?_, ?_⟩
  · rw [putL_snoc, putL_vals l a0 hv, ← h.act, hdst]
    simp
  · exact List.nodup_append.2 ⟨h.nodup, by simp, fun x hx y hy => by simp at hy; rw [hy]; exact hne x hx⟩
  · intro i o ho hl e he hb
    rw [getD_set hjs] at hl ⊢
    rw [Bool.or_eq_true] at hl ⊢
    rcases hl with hl | hl
    · exact Or.inl (h.closed i o ho hl e he hb)
    · simp at hl
      subst hl
      rw [hj] at ho
      cases ho
      exact Or.inl (hall e he hb)
  · intro i
    rw [List.mem_append, h.mem, getD_set hjs, Bool.or_eq_true, List.mem_singleton, decide_eq_true_eq]
    constructor
    · rintro (⟨k1, k2⟩ | rfl)
      · exact ⟨k1, Or.inl k2⟩
      · exact ⟨hjlt, Or.inr rfl⟩
    · rintro ⟨k1, k2 | k2⟩
      · exact Or.inl ⟨k1, k2⟩
      · exact Or.inr k2
  · intro i hi hk
    rcases List.mem_append.1 hi with hi | hi
    · show pl.holds i (if i = j then v else vals i) w' ∧ ∀ b ∈ pl.own i (if i = j then v else vals i), _
      rw [hv i hi]
      obtain ⟨k1, k2, k3⟩ := hold i hi hk
      exact ⟨hst _ _ _ _ _ k1 h1 k3, fun b hb => ⟨(k2 b hb).1, Nat.lt_of_lt_of_le (k2 b hb).2 h1.size⟩⟩
    · obtain rfl : i = j := by simpa using hi
      show pl.holds i (if i = i then v else vals i) w' ∧ ∀ b ∈ pl.own i (if i = i then v else vals i), _
      rw [if_pos rfl]
      refine ⟨h2, fun b hb => ⟨?_, (h3 b hb).2⟩⟩
      rcases (h3 b hb).1 with h4 | h4
      · exact (hgW b h4).1
      · exact Nat.le_trans h.up.size h4
  · have key : ∀ k ∈ l, (∀ m ∈ l ++ [j], pl.takes m ≠ some k) → ∀ b ∈ pl.own j v, b ∉ pl.own k (vals k) := fun k hk hm b hb hbk => by
      obtain ⟨k1, k2, k3⟩ := hold k hk hm
      rcases (h3 b hb).1 with h4 | h4
      · exact k3 b hbk h4
      · have := (k2 b hbk).2
        omega
    intro i hi k hk hik hmi hmk b hb
    show b ∉ pl.own k (if k = j then v else vals k)
    rcases List.mem_append.1 hi with hi | hi <;> rcases List.mem_append.1 hk with hk | hk
    · have hb : b ∈ pl.own i (if i = j then v else vals i) := hb
      rw [hv k hk]
      rw [hv i hi] at hb
      exact h.apart i hi k hk hik (fun m hm => hmi m (by simp [hm])) (fun m hm => hmk m (by simp [hm])) b hb
    · have hkj : k = j := by simpa using hk
      have hb : b ∈ pl.own i (if i = j then v else vals i) := hb
      rw [hv i hi] at hb
      rw [if_pos hkj, hkj]
      exact fun hbk => key i hi hmi b hbk hb
    · have hij : i = j := by simpa using hi
      have hb : b ∈ pl.own i (if i = j then v else vals i) := hb
      rw [if_pos hij, hij] at hb
      rw [hv k hk]
      exact key k hk hmk b hb
    · obtain rfl : i = j := by simpa using hi
      obtain rfl : k = i := by simpa using hk
      exact absurd rfl hik

theorem sub_len : ∀ (a b : List Nat), a.Nodup → (∀ x ∈ a, x ∈ b) → a.length ≤ b.length
  | [], _, _, _ => Nat.zero_le _
  | x :: a, b, hn, hs => by
    have hx := hs x (by simp)
    have := sub_len a (b.erase x) (List.nodup_cons.1 hn).2 (fun y hy => (List.mem_erase_of_ne (fun e : y = x => (List.nodup_cons.1 hn).1 (by rw [← e]; exact hy))).2 (hs y (by simp [hy])))
    rw [List.length_erase_of_mem hx] at this
    have := List.length_pos_of_mem hx
    rw [List.length_cons]
    omega
theorem inv_any {Q : Exit → Act → World → Prop} {W : World} {a0 : Act} {pl : Plan} {m fuelT : Nat} (hB : hopB ops pl.co a0.tmps.size = true) (hm : m ≤ ops.size) (hlast : ∀ k, m ≤ k → k < ops.size → ∀ i, i < m → reach ops k i = true)
    (hst : ∀ i v x x' S, pl.holds i v x → Upto S x x' → (∀ b ∈ pl.own i v, b ∉ S) → pl.holds i v x') (hop : ∀ j, j < m → Hop P ops W a0 pl j)
    (hend : ∀ vals w, Upto [] W w → (∀ i, i < m → (∀ k, k < m → pl.takes k ≠ some i) → pl.holds i (vals i) w ∧ ∀ b ∈ pl.own i (vals i), W.heap.size ≤ b ∧ b < w.heap.size) → wpAny P .any ops Q fuelT ((List.range m).foldl (fun x i => x.setIfInBounds i true) (Array.replicate ops.size false)) (putL ops vals (List.range m) a0) w) :
    ∀ (n : Nat) (vals : Nat → Value) (l : List Nat) (listed : Array Bool) (a : Act) (w : World), l.length + n = m → (∀ i ∈ l, i < m) → Inv ops W a0 pl vals l listed a w → wpAny P .any ops Q (n + fuelT) listed a w := by
  simp only [hopB, Bool.and_eq_true, List.all_eq_true, List.mem_range] at hB
  obtain ⟨hB1, hB2⟩ := hB
  have hd : ∀ i j, i < ops.size → j < ops.size → i ≠ j → ∀ d, dstAt ops i = some d → dstAt ops j ≠ some d := fun i j hi hj hij d h1 => by
    have := hB2 i hi j hj
    rw [h1] at this
    simpa [hij] using this
  have hO : ∀ (i : Nat) (o : Oper), ops[i]? = some o → o.guard = none ∧ (∀ e ∈ o.after, Region.binds .any e = true → e.on < i) ∧ (∀ d, o.dst = some d → d < a0.tmps.size) ∧ ∀ c, pl.takes i = some c → reach ops i c = true ∧ ∀ k, k < ops.size → pl.takes k = some c → k = i := fun i o ho => by
    have h1 := hB1 i (Array.getElem?_eq_some_iff.1 ho).1
    rw [ho] at h1
    simp only [Bool.and_eq_true] at h1
    obtain ⟨⟨⟨h2, h3⟩, h4⟩, h5⟩ := h1
    refine ⟨by simpa using h2, fun e he hb => ?_, fun d hdd => ?_, fun c hc => ?_⟩
    · have := Array.all_eq_true_iff_forall_mem.1 h3 e he
      rw [hb] at this
      simpa using this
    · rw [hdd] at h4
      simpa using h4
    · unfold Plan.takes at hc
      rw [hc] at h5
      simp only [Bool.and_eq_true, List.all_eq_true, List.mem_range] at h5
      refine ⟨h5.1, fun k hk he => ?_⟩
      have := h5.2 k hk
      unfold Plan.takes at he
      rw [he] at this
      simpa using this
  intro n
  induction n with
  | zero =>
    intro vals l listed a w hn hlm h
    have hp : l.Perm (List.range m) := (List.perm_ext_iff_of_nodup h.nodup List.nodup_range).2 (fun i => by
      rw [List.mem_range]
      refine ⟨hlm i, fun hi => Classical.byContradiction fun hn2 => ?_⟩
      have := sub_len (i :: l) (List.range m) (List.nodup_cons.2 ⟨hn2, h.nodup⟩) (fun x hx => by
        rw [List.mem_range]
        rcases List.mem_cons.1 hx with rfl | hx
        · exact hi
        · exact hlm x hx)
      rw [List.length_range, List.length_cons] at this
      omega)
    have hL : listed = (List.range m).foldl (fun x i => x.setIfInBounds i true) (Array.replicate ops.size false) := by
      have hsz : ((List.range m).foldl (fun x i => x.setIfInBounds i true) (Array.replicate ops.size false)).size = ops.size := by rw [foldl_size]; simp
      refine Array.ext (by rw [hsz, h.size]) (fun i hi1 hi2 => ?_)
      have h1 := foldl_getD (List.range m) (Array.replicate ops.size false) i (fun k hk => by have := List.mem_range.1 hk; simp; omega)
      have h2 := h.mem i
      rw [hp.mem_iff, List.mem_range] at h2
      rw [h.size] at hi1
      have e1 : listed[i] = listed.getD i false := by simp [Array.getD, h.size, hi1]
      have e2 : ((List.range m).foldl (fun x i => x.setIfInBounds i true) (Array.replicate ops.size false))[i] = ((List.range m).foldl (fun x i => x.setIfInBounds i true) (Array.replicate ops.size false)).getD i false := by simp [Array.getD, hsz, hi1]
      rw [e1, e2, h1]
      have e3 : (Array.replicate ops.size false).getD i false = false := by simp [Array.getD]
      rw [e3, Bool.false_or, Bool.eq_iff_iff, List.contains_iff_mem, List.mem_range]
      exact ⟨fun k => h2.2 ⟨hi1, k⟩, fun k => (h2.1 k).2⟩
    rw [Nat.zero_add, h.act, putL_perm vals hd hp (fun k hk => Nat.lt_of_lt_of_le (hlm k hk) hm), hL]
    exact hend vals w h.up (fun i hi hk => (h.live i (hp.mem_iff.2 (List.mem_range.2 hi)) (fun k hkl => hk k (hlm k hkl))))
  | succ n ih =>
    intro vals l listed a w hn hlm h
    rw [Nat.succ_add]
    have hlt : ∀ k ∈ l, k < ops.size := fun k hk => ((h.mem k).1 hk).1
    -- one of the first m has not come up; the least such is ready
    have hsome : ∃ i, i < m ∧ i ∉ l := by
      refine Classical.byContradiction fun hno => ?_
      have hsub : List.range m ⊆ l := fun k hk => Classical.byContradiction fun hkl => hno ⟨k, List.mem_range.1 hk, hkl⟩
      have := sub_len _ _ List.nodup_range hsub
      rw [List.length_range] at this
      omega
    have hready : ∀ i, i < m → i ∉ l → Region.ready .any ops listed ≠ [] := fun i => by
      induction i using Nat.strongRecOn with
      | _ i ihi =>
        intro hi hn hr
        have hio : i < ops.size := by omega
        have hun : listed.getD i false = false := by
          cases hx : listed.getD i false with
          | false => rfl
          | true => exact absurd ((h.mem i).2 ⟨hio, hx⟩) hn
        have : i ∈ Region.ready .any ops listed := by
          refine mem_ready.2 ⟨(listed_lt (by rw [h.size]; exact hio)).2 (by rw [hun]; simp), ops[i], Array.getElem?_eq_getElem hio, fun e he hb => ?_⟩
          have hlt := (hO i _ (Array.getElem?_eq_getElem hio)).2.1 e he hb
          refine Classical.byContradiction fun hne => ?_
          exact ihi e.on hlt (by omega) (fun hm => hne ((h.mem e.on).1 hm).2) hr
        rw [hr] at this
        cases this
    refine ⟨fun hr => by obtain ⟨i, hi, hil⟩ := hsome; exact absurd hr (hready i hi hil), fun j hj => ?_⟩
    obtain ⟨hjun, oj, hoj, hall⟩ := mem_ready.1 hj
    have hjlt : j < ops.size := (Array.getElem?_eq_some_iff.1 hoj).1
    have hjf : listed.getD j false = false := by
      have := (listed_lt (listed := listed) (by rw [h.size]; exact hjlt)).1 hjun
      simpa using this
    obtain ⟨hg, hb, hdz, htk⟩ := hO j oj hoj
    have hreach : ∀ i, reach ops j i = true → i ∈ l := fun i hr => by
      have h1 := reach_listed h.closed (j + 1) j oj (by omega) hoj hall hr
      refine (h.mem i).2 ⟨?_, h1⟩
      refine Nat.lt_of_not_le fun hle => ?_
      rw [← h.size] at hle
      simp [Array.getD, Nat.not_lt.2 hle] at h1
    have hjm : j < m := Nat.lt_of_not_le fun hle => by
      obtain ⟨i, hi, hil⟩ := hsome
      exact hil (hreach i (hlast j hle hjlt i hi))
    have hjl : j ∉ l := fun hm => by
      have := ((h.mem j).1 hm).2
      rw [hjf] at this
      cases this
    have hh := hop j hjm oj hoj a w vals (fun i d hr hdd => by
        rw [h.act]
        have hil := hreach i hr
        have hds : d < a0.tmps.size := by
          have hi := Array.getElem?_eq_getElem (hlt i hil)
          refine (hO i _ hi).2.2.1 d ?_
          unfold dstAt at hdd
          rw [hi] at hdd
          exact hdd
        exact putL_at vals hd hdd hds l a0 rfl hlt h.nodup hil) (fun t ht => by
        rw [h.act]
        exact putL_other vals t l a0 (fun i hi => ht i (hlt i hi))) h.up (fun i hr hk => h.live i (hreach i hr) (fun k hkl he => hjl (by rw [← hk k (hlt k hkl) he]; exact hkl)))
    refine wpOp_of_out hoj ?_
    have hw : Region.wanted oj (yielded ops a.tmps) = true := by unfold Region.wanted; rw [hg]
    unfold OutC
    rw [if_pos hw]
    refine opqUpon_mono (fun v w' hv => ?_) hh
    exact ih _ _ _ _ _ (by rw [List.length_append, List.length_singleton]; omega) (fun i hi => by rcases List.mem_append.1 hi with hi | hi; exact hlm i hi; simp at hi; omega) (h.step hoj hjf hall hst (fun c hc => ⟨hreach c (htk c hc).1, (htk c hc).2⟩) hv.1 hv.2.1 hv.2.2)

def hopsB (ops : Array Oper) (co : List (Nat × Nat)) (sz m : Nat) : Bool :=
  hopB ops co sz && decide (m ≤ ops.size) && ((List.range ops.size).drop m).all (fun k => (List.range m).all fun i => reach ops k i) &&
  tailB ops ((List.range m).foldl (fun x i => x.setIfInBounds i true) (Array.replicate ops.size false)) ((List.range ops.size).drop m)
/-- **A REGION THAT DRAWS ITS ORDER**, by what each operation leaves; the operations from m on stand behind all others -/
theorem wp_region_hop {id : Nat} {Q : Exit → Act → World → Prop} {a0 : Act} {w : World} {l : List Oper} (pl : Plan) (m : Nat) (aF : (Nat → Value) → Act) (hm : P.follows .mixedOrders = true) (hB : hopsB l.toArray pl.co a0.tmps.size m = true) (hF : ∀ vals, putL l.toArray vals (List.range m) a0 = aF vals)
    (hst : ∀ i v x x' S, pl.holds i v x → Upto S x x' → (∀ b ∈ pl.own i v, b ∉ S) → pl.holds i v x') (hop : ∀ j, j < m → Hop P l.toArray w a0 pl j)
    (hend : ∀ vals w', Upto [] w w' → (∀ i, i < m → (∀ k, k < m → pl.takes k ≠ some i) → pl.holds i (vals i) w' ∧ ∀ b ∈ pl.own i (vals i), w.heap.size ≤ b ∧ b < w'.heap.size) → wpList P l.toArray Q (l.drop m) (aF vals) w') : (Code.region id l.toArray true).wp P Q a0 w := by
  simp only [hopsB, Bool.and_eq_true, decide_eq_true_eq] at hB
  obtain ⟨⟨⟨h1, h2⟩, h3⟩, h4⟩ := hB
  refine wp_region_any hm ?_
  have hlast : ∀ k, m ≤ k → k < l.toArray.size → ∀ i, i < m → reach l.toArray k i = true := fun k hk hks i hi => by
    rw [List.all_eq_true] at h3
    have := h3 k (List.mem_drop_iff_getElem.2 ⟨k - m, by simp at hks ⊢; omega, by simp; omega⟩)
    rw [List.all_eq_true] at this
    exact this i (List.mem_range.2 hi)
  have hmap : ((List.range l.toArray.size).drop m).map (fun i => l.toArray[i]?) = (l.drop m).map some := by
    apply List.ext_getElem?
    intro i
    by_cases hi : m + i < l.length
    · simp [List.getElem?_drop, hi]
    · simp [List.getElem?_drop, hi]
  have main := inv_any (W := w) (a0 := a0) (pl := pl) (Q := Q) (fuelT := ((List.range l.toArray.size).drop m).length) h1 h2 hlast hst hop (fun vals w' hu hf => wpAny_tail _ _ _ _ h4 (by rw [wpOps_list _ _ hmap]; rw [hF]; exact hend vals w' hu hf)) m (fun _ => undef) [] (Array.replicate l.toArray.size false) a0 { w with drawn := w.drawn + 1 } (by simp) (by simp) ⟨(Upto.refl [] w).drew, rfl, by simp, by simp, ?_, ?_, by simp, by simp⟩
  · have he : m + ((List.range l.toArray.size).drop m).length = l.toArray.size := by
      rw [List.length_drop, List.length_range]
      omega
    rw [he] at main
    exact main
  · intro i o _ hl
    simp [Array.getD] at hl
  · intro i
    simp [Array.getD]
end
end Go.PL


namespace Go.PL
open Go.RowKit
theorem all_lt_succ {p : Nat → Prop} {m : Nat} (h : ∀ j, j < m → p j) (h2 : p m) : ∀ j, j < m + 1 → p j := fun j hj => by
  rcases Nat.lt_or_ge j m with h3 | h3
  · exact h j h3
  · have : j = m := by omega
    rw [this]; exact h2
/-- fix: a value known ahead; one: a built slice of one element; row: a row of one's own -/
inductive Knd where
  | fix (u : Value)
  | one (e : TypeId) (x : Value)
  | row (e : TypeId) (n : Nat) (xs : List Value)
def Knd.holds : Knd → Value → World → Prop
  | .fix u, v, _ => v = u
  | .one e x, v, w => ∃ b, v = .slice (some ⟨b, 0, none⟩) 1 1 ∧ w.heap[b]? = some (.cells #[x] e (0, 0))
  | .row e n xs, v, w => w.ownsRow 0 e 1 v n xs
def Knd.own : Knd → Value → List Nat
  | .fix _, _ => []
  | .one _ _, v => v.ownBlock.toList
  | .row _ _ _, v => v.ownBlock.toList
def plan (ks : List Knd) (co : List (Nat × Nat)) : Plan where
  own := fun i v => match ks[i]? with | some k => k.own v | none => []
  holds := fun i v w => match ks[i]? with | some k => k.holds v w | none => True
  co := co
theorem Knd.stay {k : Knd} {v : Value} {w w' : World} {S : List Nat} (h : k.holds v w) (hu : Upto S w w') (hn : ∀ b ∈ k.own v, b ∉ S) : k.holds v w' := by
  cases k with
  | fix u => exact h
  | one e x =>
    obtain ⟨b, rfl, hb⟩ := h
    exact ⟨b, rfl, hu.at hb (hn b (by simp [Knd.own, Value.ownBlock]))⟩
  | row e n xs => exact ownsRow_upto h hu (fun g hg => hn g (by simp [Knd.own, hg]))
theorem plan_stay (ks : List Knd) (co : List (Nat × Nat)) : ∀ i v x x' S, (plan ks co).holds i v x → Upto S x x' → (∀ b ∈ (plan ks co).own i v, b ∉ S) → (plan ks co).holds i v x' := by
  intro i v x x' S h hu hn
  simp only [plan] at h hn ⊢
  cases hk : ks[i]? with
  | none => simp only
  | some k =>
    simp only [hk] at h hn ⊢
    exact Knd.stay h hu hn
theorem Knd.old {k : Knd} {v : Value} {w : World} (h : k.holds v w) : ∀ b ∈ k.own v, b < w.heap.size := by
  cases k with
  | fix u => intro b hb; cases hb
  | one e x =>
    obtain ⟨b, rfl, hb⟩ := h
    intro c hc
    simp [Knd.own, Value.ownBlock] at hc
    subst hc
    exact lt_of_heap hb
  | row e n xs =>
    intro b hb
    obtain ⟨cur, hh⟩ := ownsRow_block h (Option.mem_toList.1 hb)
    exact lt_of_heap hh
section
variable {P : Program} {ol : List Oper} {W : World} {a0 : Act} {ks : List Knd} {co : List (Nat × Nat)} {j : Nat} {o : Oper}
/-- what an operation may lean on: earlier values -/
structure Lds (ops : Array Oper) (W : World) (a0 : Act) (ks : List Knd) (co : List (Nat × Nat)) (j : Nat) (a : Act) (w : World) (vals : Nat → Value) : Prop where
  ev : ∀ i d, reach ops j i = true → dstAt ops i = some d → a.eval (.tmp d) = vals i
  ev0 : ∀ t, (∀ i, i < ops.size → dstAt ops i ≠ some t) → a.eval (.tmp t) = a0.eval (.tmp t)
  up : Upto [] W w
  old : ∀ i, reach ops j i = true → (∀ k, k < ops.size → co.lookup k = some i → k = j) → (plan ks co).holds i (vals i) w ∧ ∀ b ∈ (plan ks co).own i (vals i), W.heap.size ≤ b ∧ b < w.heap.size
/-- an operation whose value is known ahead -/
theorem hop_fix (u : Value) (hk : ks[j]? = some (.fix u)) (hc : co.lookup j = none) (hi : opAt ol j = some o) (h : ∀ a w vals, Lds ol.toArray W a0 ks co j a w vals → (execOp a.eval o).run P w = .ok (.value u) w) : Hop P ol.toArray W a0 (plan ks co) j := by
  intro oj hoj a w vals h1 h2 h3 h4
  rw [opAt_eq] at hi
  obtain rfl := Option.some.inj (hi.symm.trans hoj)
  rw [h a w vals ⟨h1, h2, h3, h4⟩]
  have hg : (plan ks co).gone j vals = [] := by unfold Plan.gone Plan.takes; simp only [plan, hc]
  rw [hg]
  refine ⟨Upto.refl _ _, ?_, ?_⟩
  · simp only [plan, hk]; rfl
  · simp only [plan, hk]; intro b hb; cases hb
/-- a slice that is built, of one element or none -/
theorem hop_new (k : Knd) (hk : ks[j]? = some k) (hc : co.lookup j = none) (obj : Obj) (mk : Nat → Value) (hi : opAt ol j = some o) (h : ∀ a w vals, Lds ol.toArray W a0 ks co j a w vals → (execOp a.eval o).run P w = .ok (.value (mk w.heap.size)) (w.alloc obj))
    (hh : ∀ w : World, k.holds (mk w.heap.size) (w.alloc obj)) (ho : ∀ b, k.own (mk b) = [b]) : Hop P ol.toArray W a0 (plan ks co) j := by
  intro oj hoj a w vals h1 h2 h3 h4
  rw [opAt_eq] at hi
  obtain rfl := Option.some.inj (hi.symm.trans hoj)
  rw [h a w vals ⟨h1, h2, h3, h4⟩]
  have hg : (plan ks co).gone j vals = [] := by unfold Plan.gone Plan.takes; simp only [plan, hc]
  rw [hg]
  refine ⟨(Upto.refl _ _).alloc _, ?_, ?_⟩
  · simp only [plan, hk]; exact hh w
  · simp only [plan, hk, ho]
    intro b hb
    simp at hb
    subst hb
    exact ⟨Or.inr (Nat.le_refl _), by show _ < (w.heap.push obj).size; simp⟩
/-- append onto a row that an earlier operation has left -/
theorem hop_app (c : Nat) (e : TypeId) (n m N : Nat) (xs news : List Value) (hk : ks[j]? = some (.row e N (xs ++ news))) (hkc : ks[c]? = some (.row e n xs)) (hc : co.lookup j = some c) (hr : reach ol.toArray j c = true) (hcu : (List.range ol.length).all (fun k => k == j || co.lookup k != some c) = true) (hN : N = n + m) (hm : news.length = m)
    (s x : Operand) (t : TypeId) (i : TypeInfo) (z : Value) (bytes : Nat) (ht : P.underlying t = some (.slice e)) (hi : P.info? e = some i) (hz : i.zero = some z) (hsize : i.size = 1) (hby : i.bytes = bytes) (hzs : z.cells.size = 1)
    (d : Tmp) (hd : dstAt ol.toArray c = some d) (hs : s = .tmp d) (h1 : ∀ u ∈ news, u.oneCell' = true) (h63 : n + m ≤ maxLen) (hbytes : (n + m) * bytes ≤ 140737488355328)
    (hj : opAt ol j = some o) (ho : o.op = .call { callee := .builtin .append, args := #[s, x], argTypes := #[t, t] })
    (hx : ∀ a w vals, Lds ol.toArray W a0 ks co j a w vals → SlC w (a.eval x) news) : Hop P ol.toArray W a0 (plan ks co) j := by
  intro oj hoj a w vals k1 k2 k3 k4
  have hL : Lds ol.toArray W a0 ks co j a w vals := ⟨k1, k2, k3, k4⟩
  have hxx := hx a w vals hL
  have hg : (plan ks co).gone j vals = (vals c).ownBlock.toList := by unfold Plan.gone Plan.takes; simp only [plan, hc, hkc]; rfl
  have hrow := (k4 c hr (fun k hk he => by
    rw [List.all_eq_true] at hcu
    have := hcu k (List.mem_range.2 (by simpa using hk))
    simp only [plan, Plan.takes] at he
    rw [he] at this
    simpa using this)).1
  simp only [plan, hkc, Knd.holds] at hrow
  have hsv : a.eval s = vals c := by rw [hs]; exact k1 c d hr hd
  rw [opAt_eq] at hj
  obtain rfl := Option.some.inj (hj.symm.trans hoj)
  have hoo := ho
  subst hN hm
  rw [hg]
  have fin : ∀ (v : Value) (w' : World), w'.ownsRow 0 e 1 v (n + news.length) (xs ++ news) → Upto (vals c).ownBlock.toList w w' → (∀ g, v.ownBlock = some g → (vals c).ownBlock = some g ∨ w.heap.size ≤ g) → Upto (vals c).ownBlock.toList w w' ∧ (plan ks co).holds j v w' ∧ ∀ b ∈ (plan ks co).own j v, (b ∈ (vals c).ownBlock.toList ∨ w.heap.size ≤ b) ∧ b < w'.heap.size := fun v w' q1 q2 q3 => by
    refine ⟨q2, by simp only [plan, hk]; exact q1, ?_⟩
    simp only [plan, hk]
    intro b hb
    refine ⟨(q3 b (Option.mem_toList.1 hb)).imp (fun e => Option.mem_toList.2 e) id, ?_⟩
    exact Knd.old (k := .row e (n + news.length) (xs ++ news)) q1 b hb
  rcases hxx with ⟨hn0, ad, cc, hxe⟩ | ⟨g, off, cc, hxe, hcell⟩
  · subst hn0
    have hr := run_append_zero (P := P) w t o.type e i 1 ht hi (vals c) n xs hrow ad cc
    simp only [execOp, hoo, resolve, invoke, builtin, Sem.run_bind, Sem.run_pure, Result.andThen_ok, List.map_toArray, List.map_cons, List.map_nil, hsv, hxe, hr]
    exact fin _ w (by simpa using hrow) (Upto.refl _ _) (fun g hg => Or.inl hg)
  · have hnews : ∀ j u, news[j]? = some u → w.cell? ((⟨g, off, none⟩ : Addr).add j) = some u := fun j u hj => by simpa [Addr.add_lit] using hcell j u hj
    obtain ⟨v', w', hr, h2, h3, _⟩ := run_append_own (P := P) w 0 t o.type e i z 1 bytes ht hi hz hsize hby hzs (by decide) (vals c) n xs hrow ⟨g, off, none⟩ news.length cc news (by simp) hnews h1 h63 hbytes (Nat.zero_le _)
    have h4 := append_where w t o.type e i z 1 bytes ht hi hz hsize hby (vals c) n xs hrow ⟨g, off, none⟩ news.length cc news (by simp) hnews h1 h63 hbytes hr
    simp only [execOp, hoo, resolve, invoke, builtin, Sem.run_bind, Sem.run_pure, Result.andThen_ok, List.map_toArray, List.map_cons, List.map_nil, hsv, hxe, hr]
    exact fin v' w' h2 ⟨h3.os, h3.tape, h3.output, h3.size, fun k hk hn => h3.block k hk (fun e => hn (by rw [← e]; simp))⟩ h4
end
end Go.PL

