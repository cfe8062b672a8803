/- Texts merged, in build order: Gg, Tb, Tc, Td, Te, Tf, Gh, Gi, Gj, Hb, Tg, Th, Ti, Tj, Tm, Tl, Tn. -/
import Derived.Test.YtbnebkkpmcjmbaaGreatDoorMRnc
namespace Go.Proofs.YtbnebkkpmcjmbaaGreatDoor
open Go.RowKit Go.PL Go.Maps
set_option maxRecDepth 100000 in
set_option maxHeartbeats 3200000 in
theorem sclone2_calls (xs : List Value) (a : Option Addr) (n c : Nat) (w : World) (P : Nat → Prop) (hn : xs.length = n) (hN : n ≤ 10000000) (hx : ∀ u ∈ xs, u.oneCell' = true) (h : SlP w P (.slice a n c) n xs) : Calls Tryz.prog 73 #[.slice a n c] w fun e w' => ∃ a' c', e = .returned (.slice a' n c') ∧ w'.ownsRow 0 9 1 (.slice a' n c') n xs ∧ (∀ g, (Value.slice a' n c').ownBlock = some g → w.heap.size ≤ g) ∧ Upto [] w w' := by
  have q22 : ∀ (w : World) (a : Option Addr) (n c n' c' : Nat), (binOp .eql 22 (.slice a n c) (.slice none n' c')).run Tryz.prog w = .ok (.bool a.isNone) w := fun w a n c n' c' => Lib.run_eql_slice_nil w _ _ a n c n' c' Tryz.underlying22
  cases a with
  | none =>
    have hn0 : n = 0 := by
      rcases h with ⟨h0, -⟩ | ⟨g, o, c, h0, -⟩
      · exact h0
      · cases h0
    subst hn0
    have hx0 : xs = [] := List.eq_nil_of_length_eq_zero hn
    subst hx0
    clear h hx
    go_enter Tryz.func73, Tryz.ntmps73
    go_wp2
    go_ret
    exact ⟨none, 0, rfl, World.ownsRow_nil _ 0 9 1, fun g hg => by simp [Value.ownBlock] at hg, Upto.refl _ _⟩
  | some ad =>
    obtain ⟨i0, hi, hz0, hz1, hz2⟩ := info9'
    have A : Aside (∀ j u, xs[j]? = some u → w.cell? (ad.add j) = some u) := by
      intro j u hj
      rcases h with ⟨-, h0, -⟩ | ⟨g, o, c, h0, -, hc⟩
      · subst h0; cases hj
      · simp only [Value.slice.injEq, Option.some.injEq] at h0
        obtain ⟨h0, -, -⟩ := h0
        subst h0
        rw [Addr.add_lit]
        exact hc j u hj
    have HX := Lib.hid hx
    have HN := Lib.hid hn
    clear h hx hn
    go_enter Tryz.func73, Tryz.ntmps73
    go_wp2_with (at_builtin; refine wpList_append_own _ rfl _ _ 22 rfl w.heap.size 9 i0 (.string { data := #[] }) 1 16 Tryz.underlying22 hi hz0 hz1 hz2 rfl (by decide) _ _ _ rfl (World.ownsRow_made w #[] 0 (Nat.le_refl _) (Nat.zero_le _) rfl) ad n c xs rfl ?qc1 ?qc2 ?qc3 ?qc4 ?qc5 ?qc6 ?_)
    case qc1 => have := HN.out; omega
    case qc2 =>
      intro j u hj
      exact Lib.cell?_alloc_some _ (A.out j u hj)
    case qc3 => exact HX.out
    case qc4 => unfold maxLen; omega
    case qc5 => omega
    case qc6 => simp
    intro v' w1 hown hgrow _
    obtain ⟨a', c', rfl, -⟩ := ownsRow_len hown
    have hup : Upto [] w w1 := ((Upto.refl [] w).alloc _).grown hgrow (by intro k hk; simp [Value.ownBlock] at hk; omega)
    have hown2 : w1.ownsRow w.heap.size 9 1 (.slice a' n c') n xs := by simpa using hown
    have hnu : ∀ g, (Value.slice a' n c').ownBlock = some g → w.heap.size ≤ g := fun g hg => by
      rcases hown2.2 with ⟨e, -⟩ | ⟨g', cap, cur, e, hge, hh, -⟩
      · rw [e] at hg; cases hg
      · rw [e] at hg
        simp [Value.ownBlock] at hg
        subst hg
        exact hge
    have hsl : w1.ownsRow 0 9 1 (.slice a' n c') n xs ∧ (∀ g, (Value.slice a' n c').ownBlock = some g → w.heap.size ≤ g) := ⟨⟨hown2.1, hown2.2.imp id (fun ⟨g, cap, cur, h1, h2, h3⟩ => ⟨g, cap, cur, h1, Nat.zero_le _, h3⟩)⟩, hnu⟩
    clear hown hgrow
    have HF := Lib.hid (And.intro hsl hup)
    clear hsl hup
    go_wp2
    go_ret
    exact ⟨a', c', by simp, HF.out.1.1, HF.out.1.2, HF.out.2⟩
theorem usesP_app (bs : List (List UInt8)) (x : List UInt8) : ∀ (l out : List (List UInt8)), usesP bs (l ++ [x]) out = if bs.contains x = false ∧ (usesP bs l out).contains x = false then usesP bs l out ++ [x] else usesP bs l out
  | [], out => by simp [usesP]
  | y :: ys, out => by
    rw [List.cons_append]
    show usesP bs (ys ++ [x]) _ = _
    rw [usesP_app bs x ys]
    rfl
theorem usesP_len (bs l out : List (List UInt8)) : (usesP bs l out).length ≤ out.length + l.length := by
  rw [usesP_eq]
  have := fold_len (l.filter (fun y => !bs.contains y)) out
  have h2 := List.length_filter_le (fun y => !bs.contains y) l
  omega
mutual
theorem freeP_len : ∀ (n : Nd) (bs out : List (List UInt8)), (freeP n bs out).length ≤ out.length + nmsF n
  | .mk op nms _ _ _ l, bs, out => by
    unfold freeP nmsF
    have h1 := freesP_len l (if bindsF op nms.length = true then bs ++ [nms.headD []] else bs) (usesP bs (usesF op nms) out)
    have h2 := usesP_len bs (usesF op nms) out
    have h3 := uses_len op nms
    omega
theorem freesP_len : ∀ (l : List Nd) (bs out : List (List UInt8)), (freesP l bs out).length ≤ out.length + nmssF l
  | [], bs, out => by unfold freesP; omega
  | x :: xs, bs, out => by
    unfold freesP nmssF
    have h1 := freesP_len xs bs (freeP x bs out)
    have h2 := freeP_len x bs out
    omega
end
theorem freesP_app (x : Nd) : ∀ (l : List Nd) (bs out : List (List UInt8)), freesP (l ++ [x]) bs out = freeP x bs (freesP l bs out)
  | [], bs, out => by simp [freesP]
  | y :: ys, bs, out => by
    rw [List.cons_append]
    unfold freesP
    exact freesP_app x ys bs _
structure OwR (w0 : World) (vo : Value) (ls : List (List UInt8)) (v : Value) (wr : World) : Prop where
  row : wr.ownsRow 0 9 1 v ls.length (ls.map sV)
  up : Upto vo.ownBlock.toList w0 wr
  wh : ∀ g, v.ownBlock = some g → vo.ownBlock = some g ∨ w0.heap.size ≤ g
theorem OwR.start {w0 wr : World} {vo : Value} {ls : List (List UInt8)} (h : w0.ownsRow 0 9 1 vo ls.length (ls.map sV)) (hu : Upto [] w0 wr) : OwR w0 vo ls vo wr := ⟨ownsRow_upto h hu (by simp), hu.mono (by simp), fun _ hg => Or.inl hg⟩
theorem OwR.ext {w0 wr wr' : World} {vo v : Value} {ls : List (List UInt8)} (h : OwR w0 vo ls v wr) (hu : Upto [] wr wr') : OwR w0 vo ls v wr' := ⟨ownsRow_upto h.row hu (by simp), h.up.trans_ext hu, h.wh⟩
theorem OwR.slp {w0 wr : World} {vo v : Value} {ls : List (List UInt8)} (h : OwR w0 vo ls v wr) : SlP wr (fun _ => True) v ls.length (ls.map sV) := SlP.of_row h.row (fun _ _ => trivial)
theorem OwR.on {w0 wr wr' : World} {vo v v' : Value} {ls ls' : List (List UInt8)} (h : OwR w0 vo ls v wr) (hr : wr'.ownsRow 0 9 1 v' ls'.length (ls'.map sV)) (hu : Upto v.ownBlock.toList wr wr') (hw : ∀ g, v'.ownBlock = some g → v.ownBlock = some g ∨ wr.heap.size ≤ g) : OwR w0 vo ls' v' wr' :=
  ⟨hr, h.up.trans hu (fun k hk => (h.wh k (Option.mem_toList.1 hk)).imp (fun h2 => Option.mem_toList.2 h2) id), fun g hg => (hw g hg).elim (h.wh g) (fun h2 => Or.inr (Nat.le_trans h.up.size h2))⟩
theorem OwR.app {w0 wr wr' : World} {vo v : Value} {ls : List (List UInt8)} {x : List UInt8} {n : Nat} {b' : Option Addr} {c' : Nat} (h : OwR w0 vo ls v wr) (hn : ls.length = n) (ho : wr'.ownsRow 0 9 1 (.slice b' (n + 1) c') (n + 1) (ls.map sV ++ [sV x])) (hu : Upto v.ownBlock.toList wr wr') (hw : ∀ g, (Value.slice b' (n + 1) c').ownBlock = some g → v.ownBlock = some g ∨ wr.heap.size ≤ g) : OwR w0 vo (ls ++ [x]) (.slice b' (n + 1) c') wr' := by
  subst hn
  refine h.on ?_ hu hw
  rw [List.map_append]
  simpa using ho
theorem OwR.rebase {w0 w2 wr : World} {vo v : Value} {ls : List (List UInt8)} (h : OwR w2 vo ls v wr) (hu : Upto [] w0 w2) : OwR w0 vo ls v wr := ⟨h.row, (hu.mono (by simp)).trans_same h.up, fun g hg => (h.wh g hg).imp id (fun h2 => Nat.le_trans hu.size h2)⟩
def FoPost (vo : Value) (ls : List (List UInt8)) (w : World) (e : Ending) (w' : World) : Prop := ∃ v, e = .returned v ∧ OwR w vo ls v w'
theorem own_lt {w : World} {vo : Value} {n : Nat} {xs : List Value} (h : w.ownsRow 0 9 1 vo n xs) : ∀ g ∈ vo.ownBlock.toList, g < w.heap.size := fun g hg => by
  obtain ⟨cur, hh⟩ := ownsRow_block h (Option.mem_toList.1 hg)
  exact lt_of_heap hh
theorem ls_later {S : List Nat} {w u : World} {P : Nat → Prop} {op so nn mm : Int} {nms : List (List UInt8)} {l : List Nd} {a1 a2 : Option Addr} {c1 c2 : Nat} (h : NdV w P (.mk op nms so nn mm l) (.agg #[.int .i64 op, .slice a1 nms.length c1, .int .i64 so, .int .i64 nn, .int .i64 mm, .slice a2 l.length c2])) (hu : Upto S w u) (hp : ∀ b, P b → IsC w b → b ∉ S) : LsAt u P a2 l := by
  obtain ⟨a3, c3, a4, c4, e, -, hg⟩ := (h.upto hu hp).open
  simp only [Value.agg.injEq, Array.mk.injEq, List.cons.injEq, Value.slice.injEq, and_true, true_and] at e
  obtain ⟨-, rfl, -⟩ := e
  exact hg
set_option maxRecDepth 100000 in
set_option maxHeartbeats 12800000 in
theorem free_calls : ∀ (k : Nat) (nd : Nd), sizeF nd ≤ k → k ≤ 100000 → goodN nd → ∀ (v : Value) (w : World) (P : Nat → Prop), NdV w P nd v → ∀ (Q : Nat → Prop) (bs : List (List UInt8)) (vb : Value), SlP w Q vb bs.length (bs.map sV) → ∀ (ls : List (List UInt8)) (vo : Value), w.ownsRow 0 9 1 vo ls.length (ls.map sV) → (∀ b, P b → b < w.heap.size ∧ b ∉ vo.ownBlock.toList) → (∀ b, Q b → b < w.heap.size ∧ b ∉ vo.ownBlock.toList) → bs.length + sizeF nd ≤ 200000 → ls.length + nmsF nd ≤ 200000 → Calls Tryz.prog 54 #[v, vb, vo] w (FoPost vo (freeP nd bs ls) w)
  | 0, nd, hk, _, _, _, _, _, _, _, _, _, _, _, _, _, _, _, _, _ => by have := sizeF_pos nd; omega
  | k + 1, .mk op nms so nn mm l, hk, hk7, hgd, v, w, P, h, Q, bs, vb, hb, ls, vo, ho, hP, hQ, hbl, hnm => by
    obtain ⟨a1, c1, a2, c2, rfl, hs, hg⟩ := h.open
    obtain ⟨ba, bc, rfl⟩ := hb.len
    obtain ⟨oa, oc, rfl, -⟩ := ownsRow_len ho
    unfold goodN at hgd
    have HGD := Lib.hid hgd
    have hsz : sizesF l ≤ k := by simp only [sizeF] at hk; omega
    have HSZ := Lib.hid hsz
    unfold nmsF at hnm
    have HNM := Lib.hid hnm
    have HBL : Hid (bs.length + 1 + sizesF l ≤ 200000) := Lib.hid (by simp only [sizeF] at hbl; omega)
    have HE : Hid (freeP (.mk op nms so nn mm l) bs ls = freesP l (if bindsF op nms.length = true then bs ++ [nms.headD []] else bs) (usesP bs (usesF op nms) ls)) := Lib.hid (by simp only [freeP])
    have HLEN : Hid (l.length ≤ 100000) := Lib.hid (by have := sizes_len l; omega)
    have hlen := HLEN.out
    have HBI := Lib.hid (fun u => binds_calls op a1 nms.length c1 so nn mm a2 l.length c2 u)
    have HUS := Lib.hid (fun u (hu : Upto [] w u) => uses_calls P op nms a1 c1 so nn mm a2 l.length c2 u (fun h => hgd.1 (Or.inl h)) (hs.ext hu) (by omega))
    have HIH := Lib.hid (fun (x : Nd) (hx : x ∈ l) (hs : sizeF x ≤ k) => free_calls k x hs (by omega) (goodsN_mem HGD.out.2 x hx))
    generalize hobE : (Value.slice oa ls.length oc).ownBlock.toList = ob at *
    have HOB := Lib.hid hobE
    have HLT : Hid (∀ g ∈ ob, g < w.heap.size) := Lib.hid (by rw [← hobE]; exact own_lt ho)
    obtain ⟨W, hW⟩ : ∃ W, W = w.alloc (.cells #[.int .i64 op, .slice a1 nms.length c1, .int .i64 so, .int .i64 nn, .int .i64 mm, .slice a2 l.length c2] 30) := ⟨_, rfl⟩
    have HU1 : Hid (Upto [] w W) := Lib.hid (by rw [hW]; exact (Upto.refl [] w).alloc _)
    have HB1 : Hid (W.heap[w.heap.size]? = some (.cells #[.int .i64 op, .slice a1 nms.length c1, .int .i64 so, .int .i64 nn, .int .i64 mm, .slice a2 l.length c2] 30 (0, 0))) := Lib.hid (by rw [hW]; exact new_at w _)
    have HPN : Hid (∀ u, Upto ob w u → LsAt u P a2 l) := Lib.hid (fun u hu => ls_later h hu (fun b hb _ => (hP b hb).2))
    have HPU : Hid (∀ u, Upto ob w u → ∀ (x : Nd) (y : Value), NdV w P x y → NdV u P x y) := Lib.hid (fun u hu x y hx => hx.upto hu (fun b hb _ => (hP b hb).2))
    have HSN : Hid (∀ u, Upto ob w u → SlP u P (.slice a1 nms.length c1) nms.length (nms.map sV)) := Lib.hid (fun u hu => hs.upto hu (fun b hb _ => (hP b hb).2))
    have HSB : Hid (∀ u, Upto ob w u → SlP u Q (.slice ba bs.length bc) bs.length (bs.map sV)) := Lib.hid (fun u hu => hb.upto hu (fun b hb _ => (hQ b hb).2))
    have HP2 := Lib.hid hP
    have HQ2 := Lib.hid hQ
    have HO := Lib.hid ho
    have HUL : Hid ((usesF op nms).length ≤ nms.length) := Lib.hid (uses_len op nms)
    have HNL : Hid (bindsF op nms.length = true → 0 < nms.length) := Lib.hid (fun hb => by unfold bindsF at hb; simp at hb; omega)
    have HND : Hid (0 < nms.length → nms[0]? = some (nms.headD [])) := Lib.hid (fun h0 => by cases nms with
      | nil => simp at h0
      | cons x r => rfl)
    generalize hbb : bindsF op nms.length = bb at *
    generalize hnm0 : nms.headD [] = nm at *
    generalize hlu : usesF op nms = lu at *
    have HLU := Lib.hid hlu
    obtain ⟨x0, x1, x2, x3, x4, x5⟩ := cells6 HB1.out
    obtain ⟨i0, hi0, hz0, hz1, hz2⟩ := info9'
    have HI0 := Lib.hid hi0
    have HZ0 := Lib.hid hz0
    have HZ1 := Lib.hid hz1
    have HZ2 := Lib.hid hz2
    generalize hnl : nms.length = nl at *
    have HNN := Lib.hid hnl
    generalize hll : l.length = ll at *
    have HLL := Lib.hid hll
    generalize hbn : bs.length = bn at *
    have HBN := Lib.hid hbn
    have hL0 : (0 : Int) ≤ ll := by omega
    have hL1 : (ll : Int) ≤ 100000 := by omega
    have hbn0 : (0 : Int) ≤ bn := by omega
    have hbn1 : (bn : Int) ≤ 200000 := by have := HBL.out; omega
    clear h hg hs hsz hll hlen hk hgd hbb hnm0 hlu hnl hnm hb ho hP hQ hbl hobE hbn hi0 hz0 hz1 hz2
    go_enter Tryz.func54, Tryz.ntmps54
    go_wp2_with fail
    simp only [← hW]
    clear hW
    go_wp2_with fail
    refine (HUS.out _ HU1.out).mono ?_
    rintro e w2 ⟨vu, rfl, hsu, hu2⟩
    rw [HLU.out] at hsu
    obtain ⟨au, cu, rfl⟩ := hsu.len
    have HU2 := Lib.hid (HU1.out.trans_ext hu2)
    have HB2 := Lib.hid (hu2.at HB1.out (by simp))
    have HSU : Hid (∀ u, Upto ob w2 u → SlP u P (.slice au lu.length cu) lu.length (lu.map sV)) := Lib.hid (fun u hu => hsu.upto hu (fun b hb _ => (HP2.out b hb).2))
    have HST := Lib.hid (OwR.start (ownsRow_upto HO.out HU2.out (by simp)) (Upto.refl [] w2))
    generalize hln : lu.length = n at *
    have HLN := Lib.hid hln
    have hn0 : (0 : Int) ≤ n := by omega
    have hn1 : (n : Int) ≤ 1000000 := by have := HUL.out; have := HNM.out; omega
    clear hu2 hsu x0 x1 x2 x3 x4 x5 hln
    go_wp2_with fail
    go_loopw [2, 14] (fun s i wr => ∃ (j m : Nat) (va : Option Addr) (vc : Nat), j ≤ n ∧ i = .int .i64 j ∧ s = .slice va m vc ∧ Hid (OwR w2 (.slice oa ls.length oc) (usesP bs (lu.take j) ls) (.slice va m vc) wr ∧ m = (usesP bs (lu.take j) ls).length)) (fun _ i _ => n - (intOf i).toNat)
    case atStart => exact ⟨0, _, oa, oc, by omega, rfl, rfl, Lib.hid ⟨by simpa [usesP] using HST.out, by simp [usesP]⟩⟩
    case round =>
      obtain ⟨j, m, va, vc, hj, rfl, rfl, HR⟩ := hrel
      have HU : Hid (Upto ob w2 wr) := Lib.hid (by rw [← HOB.out]; exact HR.out.1.up)
      have hj0 : (0 : Int) ≤ j := by omega
      have HUW : Hid (Upto ob w wr) := Lib.hid ((HU2.out.mono (by simp)).trans_same HU.out)
      rcases Nat.lt_or_ge j n with hlt | hge
      · obtain ⟨y, hy⟩ : ∃ y, lu[j]? = some y := ⟨_, List.getElem?_eq_getElem (by have := HLN.out; omega)⟩
        obtain ⟨g, o, rfl, hcell⟩ := slp_cell (HSU.out wr HU.out) HLN.out j y hy
        have hc := hcell wr (Upto.refl _ _)
        have hltI : (j : Int) < n := by omega
        have HNX : Hid (usesP bs (lu.take (j + 1)) ls = if bs.contains y = false ∧ (usesP bs (lu.take j) ls).contains y = false then usesP bs (lu.take j) ls ++ [y] else usesP bs (lu.take j) ls) := Lib.hid (by rw [take_app1 lu j y hy]; exact usesP_app bs y _ _)
        have HLL2 : Hid ((usesP bs (lu.take j) ls).length ≤ 200000) := Lib.hid (by have h1 := usesP_len bs (lu.take j) ls; have h2 := HLN.out; have h3 := List.length_take_le j lu; have h4 := HNM.out; have h5 := HUL.out; omega)
        have HCB := Lib.hid (containsS_calls bs y (.slice ba bn bc) wr Q (by have := HSB.out wr HUW.out; rw [HBN.out]; exact this) (by have := HBN.out; omega))
        have HCO := Lib.hid (containsS_calls (usesP bs (lu.take j) ls) y (.slice va m vc) wr _ HR.out.1.slp (by have := HLL2.out; omega))
        generalize hq : usesP bs (lu.take j) ls = lq at *
        have HMM := Lib.hid HR.out.2
        have hm1 : (m : Int) ≤ 200000 := by have := HLL2.out; have := HMM.out; omega
        have hm0 : (0 : Int) ≤ m := by omega
        clear hcell hy hq
        go_wp2_with fail
        refine HCB.out.mono ?_
        rintro e w3 ⟨rfl, rfl⟩
        cases hcb : bs.contains y with
        | true =>
          have HNY : Hid (usesP bs (lu.take (j + 1)) ls = lq) := Lib.hid (by rw [HNX.out, hcb]; simp)
          clear hcb
          go_wp2_with fail
          go_roundw
          case rel => exact ⟨j + 1, m, va, vc, by omega, by go_num, rfl, Lib.hid (by rw [HNY.out]; exact HR.out)⟩
          case measure => simp [intOf]; omega
        | false =>
          go_wp2_with fail
          refine HCO.out.mono ?_
          rintro e w4 ⟨rfl, rfl⟩
          cases hco : lq.contains y with
          | true =>
            have HNY : Hid (usesP bs (lu.take (j + 1)) ls = lq) := Lib.hid (by rw [HNX.out, hco]; simp)
            clear hcb hco
            go_wp2_with fail
            go_roundw
            case rel => exact ⟨j + 1, m, va, vc, by omega, by go_num, rfl, Lib.hid (by rw [HNY.out]; exact HR.out)⟩
            case measure => simp [intOf]; omega
          | false =>
            have HNY : Hid (usesP bs (lu.take (j + 1)) ls = lq ++ [y]) := Lib.hid (by rw [HNX.out, hcb, hco]; simp)
            have HT := Lib.hid (HR.out.1.ext ((Upto.refl [] _).alloc (.cells #[.string ⟨y.toArray⟩] 9)))
            have hrow := HT.out.row
            rw [← HMM.out] at hrow
            have hsrc := cells_at (l := [sV y]) (new_at w4 (.cells #[.string ⟨y.toArray⟩] 9))
            clear hcb hco
            go_wp2_with (at_builtin; refine wpList_app _ rfl (.tmp 28) (.tmp 30) 22 rfl 9 i0 (.string ⟨#[]⟩) 1 16 Tryz.underlying22 HI0.out HZ0.out HZ1.out HZ2.out rfl (by decide) (.slice va m vc) m _ rfl hrow ⟨w4.heap.size, 0, none⟩ 1 1 [sV y] rfl rfl hsrc (by simp [Value.oneCell', sV]) (by unfold maxLen; omega) (by omega) ?_; intro vb vd w5 ho5 hu5 hw5; have HM5 := Lib.hid (HT.out.app HMM.out.symm ho5 hu5 hw5); clear hrow hsrc ho5 hu5 hw5)
            rw [show (j : Int) + 1 = ((j + 1 : Nat) : Int) from rfl]
            exact ⟨⟨j + 1, m + 1, vb, vd, by omega, rfl, rfl, Lib.hid ⟨by rw [HNY.out]; exact HM5.out, by rw [HNY.out, List.length_append, HMM.out]; rfl⟩⟩, meas_up (by omega) rfl⟩
      · obtain rfl : j = n := by omega
        have hgeI : ¬ (j : Int) < j := by omega
        have HT : Hid (lu.take j = lu) := Lib.hid (by rw [← HLN.out, List.take_length])
        rw [HT.out] at HR
        have HB3 := Lib.hid (HU.out.at HB2.out (by intro hm; have := HLT.out _ hm; omega))
        have HO3 := Lib.hid (HR.out.1.rebase HU2.out)
        have HMM := Lib.hid HR.out.2
        have HL1 : Hid ((usesP bs lu ls).length ≤ ls.length + nl) := Lib.hid (by have h1 := usesP_len bs lu ls; have h2 := HUL.out; have h3 := HLN.out; omega)
        generalize hls1 : usesP bs lu ls = ls1 at *
        clear hls1 HR
        obtain ⟨x0, x1, x2, x3, x4, x5⟩ := cells6 HB3.out
        go_wp2_with fail
        refine (HBI.out _).mono ?_
        rintro e w5 ⟨rfl, hu5⟩
        have HB5 := Lib.hid (hu5.at HB3.out (by simp))
        have HO5 := Lib.hid (HO3.out.ext hu5)
        have HU5 := Lib.hid (HUW.out.trans_ext hu5)
        have HV5 := Lib.hid hu5
        clear hu5 x0 x1 x2 x3 x4 x5
        cases bb with
        | false =>
          have HE2 : Hid ((if false = true then bs ++ [nm] else bs) = bs) := Lib.hid rfl
          rw [HE2.out] at HE
          obtain ⟨w6, hw6⟩ : ∃ w6, w6 = w5 := ⟨_, rfl⟩
          have HB6 : Hid _ := HB5
          have HO6 := HO5
          have HSB6 : Hid (SlP w5 Q (.slice ba bn bc) bs.length (bs.map sV)) := Lib.hid (by rw [HBN.out]; exact HSB.out w5 HU5.out)
          have HQ6 : Hid (∀ b, Q b → b < w5.heap.size ∧ b ∉ (Value.slice va m vc).ownBlock.toList) := Lib.hid (fun b hb => ⟨Nat.lt_of_lt_of_le (HQ2.out b hb).1 HU5.out.size, fun hm => by
            rcases HO5.out.wh b (Option.mem_toList.1 hm) with h1 | h1
            · exact (HQ2.out b hb).2 (by rw [← HOB.out]; exact Option.mem_toList.2 h1)
            · have := (HQ2.out b hb).1; omega⟩)
          have HBS : Hid (bs.length + sizesF l ≤ 200000) := Lib.hid (by have := HBL.out; have := HBN.out; omega)
          rw [← hw6] at HB6 HO6 HSB6 HQ6
          simp only [← hw6]
          clear hw6
          have x5 := cell_of HB6.out 5
          simp only [List.getElem?_toArray, List.getElem?_cons_zero, List.getElem?_cons_succ] at x5
          go_wp2_with fail
          clear x5
          go_loopw [2, 46] (fun s i wr => ∃ (q m2 : Nat) (vb : Option Addr) (vd : Nat), q ≤ ll ∧ i = .int .i64 q ∧ s = .slice vb m2 vd ∧ Hid (OwR w6 (.slice va m vc) (freesP (l.take q) bs ls1) (.slice vb m2 vd) wr ∧ m2 = (freesP (l.take q) bs ls1).length)) (fun _ i _ => ll - (intOf i).toNat)
          case atStart => exact ⟨0, _, va, vc, by omega, rfl, rfl, Lib.hid ⟨by simpa [freesP] using OwR.start HO6.out.row (Upto.refl [] w6), by simpa [freesP] using HMM.out⟩⟩
          case round =>
            obtain ⟨q, m2, vb, vd, hq, rfl, rfl, HR⟩ := hrel
            have hq0 : (0 : Int) ≤ q := by omega
            have HON := Lib.hid (HO6.out.on HR.out.1.row HR.out.1.up HR.out.1.wh)
            have HUX : Hid (Upto ob w wr) := Lib.hid (by rw [← HOB.out]; exact HON.out.up)
            rcases Nat.lt_or_ge q ll with hlt | hge
            · obtain ⟨x, hx⟩ : ∃ x, l[q]? = some x := ⟨_, List.getElem?_eq_getElem (by have := HLL.out; omega)⟩
              obtain ⟨g, o, xo, xn1, xn2, xn3, xs, xm, xq, xl1, xl2, xl3, rfl, d0, d1, d2, d3, d4, d5, hnx⟩ := HPN.out wr HUX.out q x hx
              have hua : Upto [] wr (wr.alloc (.cells #[.int .i64 xo, .slice xn1 xn2 xn3, .int .i64 xs, .int .i64 xm, .int .i64 xq, .slice xl1 xl2 xl3] 30)) := (Upto.refl [] wr).alloc _
              have HSZX := Lib.hid (sizesF_take l q x hx)
              have HNMX := Lib.hid (nmss_take l q x hx)
              have HFL := Lib.hid (freesP_len (l.take q) bs ls1)
              have HC := Lib.hid (HIH.out x (List.mem_of_getElem? hx) (by have := HSZ.out; have := HSZX.out; omega) _ _ P (hnx.ext hua) Q bs (.slice ba bn bc) ((HSB6.out.upto HR.out.1.up (fun b hb _ => (HQ6.out b hb).2)).ext hua) (freesP (l.take q) bs ls1) (.slice vb m2 vd) (ownsRow_upto HR.out.1.row hua (by simp))
                (fun b hb => ⟨by have h1 := (HP2.out b hb).1; have h2 := HUX.out.size; have h3 := hua.size; omega, fun hm => by
                  rcases HON.out.wh b (Option.mem_toList.1 hm) with h1 | h1
                  · exact (HP2.out b hb).2 (by rw [← HOB.out]; exact Option.mem_toList.2 h1)
                  · have := (HP2.out b hb).1; omega⟩)
                (fun b hb => ⟨by have h1 := (HQ6.out b hb).1; have h2 := HR.out.1.up.size; have h3 := hua.size; omega, fun hm => by
                  rcases HR.out.1.wh b (Option.mem_toList.1 hm) with h1 | h1
                  · exact (HQ6.out b hb).2 (Option.mem_toList.2 h1)
                  · have := (HQ6.out b hb).1; omega⟩)
                (by have h1 := HBS.out; have h2 := HSZX.out; omega) (by have h1 := HFL.out; have h2 := HNMX.out; have h3 := HNM.out; have h4 := HL1.out; have h5 := nmss_take_le l q; omega))
              have HRA := Lib.hid (HR.out.1.ext hua)
              have hltI : (q : Int) < ll := by omega
              have HNX : Hid (freesP (l.take (q + 1)) bs ls1 = freeP x bs (freesP (l.take q) bs ls1)) := Lib.hid (by rw [take_app1 l q x hx]; exact freesP_app x _ _ _)
              clear hua hnx hx
              go_wp2_with fail
              refine HC.out.mono ?_
              rintro e w7 ⟨v7, rfl, ho7⟩
              have HR7 := Lib.hid (HRA.out.on ho7.row ho7.up ho7.wh)
              obtain ⟨a7, c7, rfl, -⟩ := ownsRow_len ho7.row
              clear ho7
              go_wp2_with fail
              go_roundw
              case rel => exact ⟨q + 1, _, a7, c7, by omega, by go_num, rfl, Lib.hid (by rw [HNX.out]; exact ⟨HR7.out, rfl⟩)⟩
              case measure => simp [intOf]; omega
            · obtain rfl : q = ll := by omega
              have hgeI : ¬ (q : Int) < q := by omega
              have HTT : Hid (l.take q = l) := Lib.hid (by rw [← HLL.out, List.take_length])
              rw [HTT.out] at HON
              go_wp2_with fail
              go_ret
              unfold FoPost
              rw [HE.out]
              exact ⟨_, rfl, HON.out⟩
        | true =>
          have HE2 : Hid ((if true = true then bs ++ [nm] else bs) = bs ++ [nm]) := Lib.hid rfl
          rw [HE2.out] at HE
          have hnl0 := HNL.out rfl
          have hnl1 : (0 : Int) < nl := by omega
          obtain ⟨gn, on, rfl, hcn⟩ := slp_cell (HSN.out w5 HU5.out) HNN.out 0 nm (HND.out hnl0)
          have e1 : ∀ u : Ext w5, u.w.cell? ⟨w.heap.size, 1, none⟩ = some (.slice (some ⟨gn, on, none⟩) nl c1) := fun u => u.cell (cell_of HB5.out 1)
          have en : ∀ u : Ext w5, u.w.cell? ⟨gn, on, none⟩ = some (.string ⟨nm.toArray⟩) := fun u => hcn u.w u.up
          have HCL := Lib.hid (fun u (hu : Upto [] w5 u) => sclone2_calls (bs.map sV) ba bn bc u Q (by rw [List.length_map, HBN.out]) (by omega) (by simp [Value.oneCell', sV]) (by have := (HSB.out w5 HU5.out).ext hu; exact this))
          clear hcn
          go_wp2_with fail
          refine wp_region_seg_at [1] [6] [0, 1, 2, 3, 4, 5, 6] [7, 8] 7 (by kernel_rfl) (by kernel_rfl) (by kernel_rfl) ?_
          with_reducible refine seg_plain (o := ?o1) ?hi1 ?hA1 ?hC1 ?hp1 ?hw1 ?h1
          case hi1 => rfl
          case hA1 => rfl
          case hC1 => rfl
          case hp1 => rfl
          case hw1 => kernel_rfl
          intro K' hK'
          go_big_quiet_op
          go_big_quiet_on
          refine seg_callO (Y := Option Addr × Nat) (fun y => .slice y.1 bn y.2) (fun y u => u.ownsRow 0 9 1 (.slice y.1 bn y.2) bn (bs.map sV) ∧ ∀ g, (Value.slice y.1 bn y.2).ownBlock = some g → w5.heap.size ≤ g) (fun _ => []) rfl rfl rfl rfl (fun _ _ _ h hu => ⟨ownsRow_upto h.1 hu (by simp), h.2⟩) (fun _ => List.nodup_nil) (fun w => by go_simp) (fun w' hu hd => (HCL.out w' hu).mono fun e w2 ⟨a', c', h1, h2, h3, h4⟩ => ⟨(a', c'), h1, h4, ⟨h2, fun g hg => Nat.le_trans hu.size (h3 g hg)⟩, fun b hb => by cases hb⟩) ?_
          rintro ⟨za, zc⟩
          simp only [Act.put, List.setIfInBounds_toArray, List.set_cons_zero, List.set_cons_succ]
          with_reducible refine seg_plain (o := ?o2) ?hi2 ?hA2 ?hC2 ?hp2 ?hw2 ?h2
          case hi2 => rfl
          case hA2 => rfl
          case hC2 => rfl
          case hp2 => rfl
          case hw2 => kernel_rfl
          intro K' hK'
          go_big_quiet_op
          go_big_quiet_on
          with_reducible refine seg_plain (o := ?o3) ?hi3 ?hA3 ?hC3 ?hp3 ?hw3 ?h3
          case hi3 => rfl
          case hA3 => rfl
          case hC3 => rfl
          case hp3 => rfl
          case hw3 => kernel_rfl
          intro K' hK'
          go_big_quiet_op
          go_big_quiet_on
          with_reducible refine seg_plain (o := ?o4) ?hi4 ?hA4 ?hC4 ?hp4 ?hw4 ?h4
          case hi4 => rfl
          case hA4 => rfl
          case hC4 => rfl
          case hp4 => rfl
          case hw4 => kernel_rfl
          intro K' hK'
          go_big_quiet_op
          go_big_quiet_on
          with_reducible refine seg_plain (o := ?o5) ?hi5 ?hA5 ?hC5 ?hp5 ?hw5 ?h5
          case hi5 => rfl
          case hA5 => rfl
          case hC5 => rfl
          case hp5 => rfl
          case hw5 => kernel_rfl
          intro K' hK'
          go_big_quiet_op
          go_big_quiet_on
          refine seg_made (.cells #[.string ⟨nm.toArray⟩] 9) (fun b => .slice (some ⟨b, 0, none⟩) 1 1) rfl rfl rfl (fun w => by go_simp) ?_
          intro b8
          simp only [Act.put, List.setIfInBounds_toArray, List.set_cons_zero, List.set_cons_succ]
          intro w9 hg
          have HU9 := Lib.hid hg.up
          have HB8 : Hid (w9.heap[b8]? = some (.cells #[.string ⟨nm.toArray⟩] 9 (0, 0))) := Lib.hid hg.hold.1
          have HZR : Hid (w9.ownsRow 0 9 1 (.slice za bn zc) bn (bs.map sV) ∧ ∀ g, (Value.slice za bn zc).ownBlock = some g → w5.heap.size ≤ g) := Lib.hid hg.hold.2.1
          simp only [List.drop_succ_cons, List.drop_zero]
          have hrow := HZR.out.1
          have hsrc := cells_at (l := [sV nm]) HB8.out
          clear hg e1 en
          go_wp2_with (at_builtin; refine wpList_app _ rfl (.tmp 36) (.tmp 41) 22 rfl 9 i0 (.string ⟨#[]⟩) 1 16 Tryz.underlying22 HI0.out HZ0.out HZ1.out HZ2.out rfl (by decide) (.slice za bn zc) bn _ rfl hrow ⟨b8, 0, none⟩ 1 1 [sV nm] rfl rfl hsrc (by simp [Value.oneCell', sV]) (by unfold maxLen; omega) (by omega) ?_; intro vb vd w6 ho6 hu6 hw6; have HRO := Lib.hid (And.intro ho6 (And.intro hu6 hw6)); have HUP6 : Hid (Upto [] w5 w6) := Lib.hid (HU9.out.trans hu6 (fun k hk => Or.inr (HZR.out.2 k (Option.mem_toList.1 hk)))); have HB6 := Lib.hid (HUP6.out.at HB5.out (by simp)); have x5 := cell_of HB6.out 5; simp only [List.getElem?_toArray, List.getElem?_cons_zero, List.getElem?_cons_succ] at x5; clear hrow hsrc ho6 hu6 hw6)
          have HO6 := Lib.hid (HO5.out.ext HUP6.out)
          have HSB6 : Hid (SlP w6 (fun b => w5.heap.size ≤ b ∧ b < w6.heap.size) (.slice vb (bn + 1) vd) (bs ++ [nm]).length ((bs ++ [nm]).map sV)) := Lib.hid (by
            have h1 : w6.ownsRow 0 9 1 (.slice vb (bn + 1) vd) (bs ++ [nm]).length ((bs ++ [nm]).map sV) := by
              rw [List.length_append, List.map_append, HBN.out]
              exact HRO.out.1
            exact SlP.of_row h1 (fun g hg => ⟨by
              rcases HRO.out.2.2 g hg with h2 | h2
              · exact HZR.out.2 g h2
              · exact Nat.le_trans HU9.out.size h2, own_lt h1 g (Option.mem_toList.2 hg)⟩))
          have HQ6 : Hid (∀ b, (w5.heap.size ≤ b ∧ b < w6.heap.size) → b < w6.heap.size ∧ b ∉ (Value.slice va m vc).ownBlock.toList) := Lib.hid (fun b hb => ⟨hb.2, fun hm => by
            have := own_lt HO5.out.row b hm
            omega⟩)
          have HBS : Hid ((bs ++ [nm]).length + sizesF l ≤ 200000) := Lib.hid (by have := HBL.out; have := HBN.out; rw [List.length_append]; simp; omega)
          clear x5
          go_loopw [2, 46] (fun s i wr => ∃ (q m2 : Nat) (vb : Option Addr) (vd : Nat), q ≤ ll ∧ i = .int .i64 q ∧ s = .slice vb m2 vd ∧ Hid (OwR w6 (.slice va m vc) (freesP (l.take q) (bs ++ [nm]) ls1) (.slice vb m2 vd) wr ∧ m2 = (freesP (l.take q) (bs ++ [nm]) ls1).length)) (fun _ i _ => ll - (intOf i).toNat)
          case atStart => exact ⟨0, _, va, vc, by omega, rfl, rfl, Lib.hid ⟨by simpa [freesP] using OwR.start HO6.out.row (Upto.refl [] w6), by simpa [freesP] using HMM.out⟩⟩
          case round =>
            obtain ⟨q, m2, vb, vd, hq, rfl, rfl, HR⟩ := hrel
            have hq0 : (0 : Int) ≤ q := by omega
            have HON := Lib.hid (HO6.out.on HR.out.1.row HR.out.1.up HR.out.1.wh)
            have HUX : Hid (Upto ob w wr) := Lib.hid (by rw [← HOB.out]; exact HON.out.up)
            rcases Nat.lt_or_ge q ll with hlt | hge
            · obtain ⟨x, hx⟩ : ∃ x, l[q]? = some x := ⟨_, List.getElem?_eq_getElem (by have := HLL.out; omega)⟩
              obtain ⟨g, o, xo, xn1, xn2, xn3, xs, xm, xq, xl1, xl2, xl3, rfl, d0, d1, d2, d3, d4, d5, hnx⟩ := HPN.out wr HUX.out q x hx
              have hua : Upto [] wr (wr.alloc (.cells #[.int .i64 xo, .slice xn1 xn2 xn3, .int .i64 xs, .int .i64 xm, .int .i64 xq, .slice xl1 xl2 xl3] 30)) := (Upto.refl [] wr).alloc _
              have HSZX := Lib.hid (sizesF_take l q x hx)
              have HNMX := Lib.hid (nmss_take l q x hx)
              have HFL := Lib.hid (freesP_len (l.take q) (bs ++ [nm]) ls1)
              have HC := Lib.hid (HIH.out x (List.mem_of_getElem? hx) (by have := HSZ.out; have := HSZX.out; omega) _ _ P (hnx.ext hua) (fun b => w5.heap.size ≤ b ∧ b < w6.heap.size) (bs ++ [nm]) _ ((HSB6.out.upto HR.out.1.up (fun b hb _ => (HQ6.out b hb).2)).ext hua) (freesP (l.take q) (bs ++ [nm]) ls1) (.slice vb m2 vd) (ownsRow_upto HR.out.1.row hua (by simp))
                (fun b hb => ⟨by have h1 := (HP2.out b hb).1; have h2 := HUX.out.size; have h3 := hua.size; omega, fun hm => by
                  rcases HON.out.wh b (Option.mem_toList.1 hm) with h1 | h1
                  · exact (HP2.out b hb).2 (by rw [← HOB.out]; exact Option.mem_toList.2 h1)
                  · have := (HP2.out b hb).1; omega⟩)
                (fun b hb => ⟨by have h1 := (HQ6.out b hb).1; have h2 := HR.out.1.up.size; have h3 := hua.size; omega, fun hm => by
                  rcases HR.out.1.wh b (Option.mem_toList.1 hm) with h1 | h1
                  · exact (HQ6.out b hb).2 (Option.mem_toList.2 h1)
                  · have := (HQ6.out b hb).1; omega⟩)
                (by have h1 := HBS.out; have h2 := HSZX.out; omega) (by have h1 := HFL.out; have h2 := HNMX.out; have h3 := HNM.out; have h4 := HL1.out; have h5 := nmss_take_le l q; omega))
              have HRA := Lib.hid (HR.out.1.ext hua)
              have hltI : (q : Int) < ll := by omega
              have HNX : Hid (freesP (l.take (q + 1)) (bs ++ [nm]) ls1 = freeP x (bs ++ [nm]) (freesP (l.take q) (bs ++ [nm]) ls1)) := Lib.hid (by rw [take_app1 l q x hx]; exact freesP_app x _ _ _)
              clear hua hnx hx
              go_wp2_with fail
              refine HC.out.mono ?_
              rintro e w7 ⟨v7, rfl, ho7⟩
              have HR7 := Lib.hid (HRA.out.on ho7.row ho7.up ho7.wh)
              obtain ⟨a7, c7, rfl, -⟩ := ownsRow_len ho7.row
              clear ho7
              go_wp2_with fail
              go_roundw
              case rel => exact ⟨q + 1, _, a7, c7, by omega, by go_num, rfl, Lib.hid (by rw [HNX.out]; exact ⟨HR7.out, rfl⟩)⟩
              case measure => simp [intOf]; omega
            · obtain rfl : q = ll := by omega
              have hgeI : ¬ (q : Int) < q := by omega
              have HTT : Hid (l.take q = l) := Lib.hid (by rw [← HLL.out, List.take_length])
              rw [HTT.out] at HON
              go_wp2_with fail
              go_ret
              unfold FoPost
              rw [HE.out]
              exact ⟨_, rfl, HON.out⟩
theorem NmT.of_row {w : World} {nms : List (List UInt8)} {a : Option Addr} {c n lo : Nat} (h : w.ownsRow 0 9 1 (.slice a n c) n (nms.map sV)) (hn : nms.length = n) (hlo : ∀ g, (Value.slice a n c).ownBlock = some g → lo ≤ g) : NmT w nms (.slice a n c) lo w.heap.size := by
  subst hn
  rcases h.2 with ⟨e, h0⟩ | ⟨g, cap, cur, e, _, hh, hnc, _, _, ht⟩
  · simp only [Value.slice.injEq] at e
    exact Or.inl ⟨List.eq_nil_of_length_eq_zero e.2.1, a, c, by rw [e.2.1]⟩
  · simp only [Value.slice.injEq] at e
    obtain ⟨rfl, -, rfl⟩ := e
    refine Or.inr ⟨g, 0, c, cur, 9, rfl, by simpa using hnc, hlo g rfl, lt_of_heap hh, hh, fun j x hj => ?_⟩
    have h1 : (nms.map sV)[j]? = some (sV x) := by rw [List.getElem?_map, hj]; rfl
    rw [← ht, List.getElem?_take] at h1
    rw [Nat.zero_add]
    split at h1
    · simpa using h1
    · cases h1
structure TRow (w0 w : World) (B : Nat) (c : Nat → Nat → Value) (v : Value) (ms : List Nd) : Prop where
  row : w.ownsRow 0 30 6 v ms.length (cellsN c ms.length)
  own : ∀ g, v.ownBlock = some g → w0.heap.size ≤ g ∧ g ≠ B
  kd : ∃ f : Nat → Nat × Nat, (∀ i x, ms[i]? = some x → OwT w x (.agg #[c i 0, c i 1, c i 2, c i 3, c i 4, c i 5]) (f i).1 (f i).2 ∧ w0.heap.size ≤ (f i).1 ∧ (f i).1 ≤ (f i).2 ∧ (f i).2 ≤ w.heap.size ∧ ∀ g, v.ownBlock = some g → g < (f i).1 ∨ (f i).2 ≤ g) ∧ ∀ i j, i < j → j < ms.length → (f i).2 ≤ (f j).1
theorem TRow.upto {w0 w w' : World} {S : List Nat} {B : Nat} {c : Nat → Nat → Value} {v : Value} {ms : List Nd} (h : TRow w0 w B c v ms) (hu : Upto S w w') (hS : ∀ k ∈ S, k < w0.heap.size) : TRow w0 w' B c v ms := by
  obtain ⟨f, h1, h2⟩ := h.kd
  refine ⟨ownsRow_upto h.row hu (fun g hg hm => by have := (h.own g hg).1; have := hS g hm; omega), h.own, f, fun i x hx => ?_, h2⟩
  obtain ⟨k1, k2, k3, k4, k5⟩ := h1 i x hx
  exact ⟨k1.same _ _ _ _ (SameIn.upto hu k4 (fun b hb => Or.inl (by have := hS b hb; omega))), k2, k3, Nat.le_trans k4 hu.size, k5⟩
theorem TRow.app {w0 w w3 w5 : World} {B : Nat} {c : Nat → Nat → Value} {v : Value} {ms : List Nd} {m : Nd} {v0 v1 v2 v3 v4 v5 : Value} {b' : Option Addr} {c' k : Nat} (h : TRow w0 w B c v ms) (hk : w.heap.size ≤ k) (_hk3 : k ≤ w3.heap.size) (h03 : w0.heap.size ≤ w.heap.size) (hB : B < w0.heap.size) (h3 : Upto [] w w3)
    (hm : ∃ q, k ≤ q ∧ q ≤ w3.heap.size ∧ OwT w3 m (.agg #[v0, v1, v2, v3, v4, v5]) k q) (ho : w5.ownsRow 0 30 6 (.slice b' (ms.length + 1) c') (ms.length + 1) (cellsN c ms.length ++ [v0, v1, v2, v3, v4, v5])) (hu : Upto v.ownBlock.toList w3 w5)
    (hw : ∀ g, (Value.slice b' (ms.length + 1) c').ownBlock = some g → v.ownBlock = some g ∨ w3.heap.size ≤ g) : TRow w0 w5 B (addC c ms.length v0 v1 v2 v3 v4 v5) (.slice b' (ms.length + 1) c') (ms ++ [m]) := by
  obtain ⟨f, h1, h2⟩ := h.kd
  obtain ⟨q, hkq, hq3, hmt⟩ := hm
  have hold : ∀ g, v.ownBlock = some g → g < w.heap.size := fun g hg => by
    obtain ⟨cur, hh⟩ := ownsRow_block h.row hg
    exact lt_of_heap hh
  refine ⟨?_, ?_, fun i => if i < ms.length then f i else (k, q), ?_, ?_⟩
  · rw [List.length_append, List.length_singleton, cellsN_add]
    exact ho
  · intro g hg
    rcases hw g hg with h4 | h4
    · exact h.own g h4
    · have := h3.size
      exact ⟨by omega, by omega⟩
  · intro i x hi
    by_cases hlt : i < ms.length
    · rw [List.getElem?_append_left hlt] at hi
      obtain ⟨k1, k2, k3, k4, k5⟩ := h1 i x hi
      simp only [if_pos hlt]
      have hs1 : SameIn w w3 (f i).1 (f i).2 := SameIn.upto h3 k4 (by simp)
      have hs2 : SameIn w3 w5 (f i).1 (f i).2 := SameIn.upto hu (Nat.le_trans k4 h3.size) (fun b hb => (k5 b (Option.mem_toList.1 hb)))
      have hx := ((k1.same _ _ _ _ hs1).same _ _ _ _ hs2)
      refine ⟨by simpa [addC, Nat.ne_of_lt hlt] using hx, k2, k3, Nat.le_trans k4 (Nat.le_trans h3.size hu.size), fun g hg => ?_⟩
      rcases hw g hg with h4 | h4
      · exact k5 g h4
      · have := h3.size
        exact Or.inr (by omega)
    · rw [List.getElem?_append_right (by omega)] at hi
      cases hd : i - ms.length with
      | zero =>
        rw [hd] at hi
        simp at hi
        subst hi
        have hie : i = ms.length := by omega
        subst hie
        simp only [Nat.lt_irrefl, if_false]
        have hs2 : SameIn w3 w5 k q := SameIn.upto hu hq3 (fun b hb => Or.inl (by have := hold b (Option.mem_toList.1 hb); omega))
        have hx := hmt.same _ _ _ _ hs2
        refine ⟨by simpa [addC] using hx, by omega, hkq, Nat.le_trans hq3 hu.size, fun g hg => ?_⟩
        rcases hw g hg with h4 | h4
        · exact Or.inl (by have := hold g h4; omega)
        · exact Or.inr (by omega)
      | succ z => rw [hd] at hi; simp at hi
  · intro i j hij hj
    rw [List.length_append, List.length_singleton] at hj
    by_cases hjl : j < ms.length
    · simp only [if_pos hjl, if_pos (show i < ms.length by omega)]
      exact h2 i j hij hjl
    · have hil : i < ms.length := by omega
      simp only [if_neg hjl, if_pos hil]
      obtain ⟨x, hx⟩ : ∃ x, ms[i]? = some x := ⟨_, List.getElem?_eq_getElem hil⟩
      have := (h1 i x hx).2.2.2.1
      omega
theorem TRow.list {w0 w : World} {B : Nat} {c : Nat → Nat → Value} {v : Value} {ms : List Nd} (h : TRow w0 w B c v ms) : (ms = [] ∧ ∃ a c, v = .slice a 0 c) ∨ ∃ g o c cs t, v = .slice (some ⟨g, o, none⟩) ms.length c ∧ w.heap[g]? = some (.cells cs t (0, 0)) ∧ w0.heap.size ≤ g ∧ g < w.heap.size ∧ OwTs w ms cs o g w0.heap.size w.heap.size := by
  rcases h.row.2 with ⟨e, h0⟩ | ⟨g, cap, cur, e, _, hh, _, _, _, ht⟩
  · exact Or.inl ⟨List.eq_nil_of_length_eq_zero h0, none, 0, e⟩
  · obtain ⟨f, h1, h2⟩ := h.kd
    refine Or.inr ⟨g, 0, cap, cur, 30, e, hh, (h.own g (by rw [e]; rfl)).1, lt_of_heap hh, ?_⟩
    have cl : ∀ i, i < ms.length → ∀ j, j < 6 → cur[0 + i * 6 + j]? = some (c i j) := fun i hil j hj => by
      have := cellsN_at c hil hj
      rw [← ht, List.getElem?_take] at this
      split at this
      · simpa using this
      · cases this
    have key : ∀ (n i lo : Nat), i + n = ms.length → (∀ j, i ≤ j → j < ms.length → lo ≤ (f j).1) → OwTs w (ms.drop i) cur (0 + i * 6) g lo w.heap.size := by
      intro n
      induction n with
      | zero =>
        intro i lo hin _
        rw [List.drop_of_length_le (by omega)]
        unfold OwTs
        trivial
      | succ n ih =>
        intro i lo hin hlo
        have hil : i < ms.length := by omega
        rw [List.drop_eq_getElem_cons hil]
        obtain ⟨k1, k2, k3, k4, k5⟩ := h1 i ms[i] (List.getElem?_eq_getElem hil)
        unfold OwTs
        refine ⟨_, _, _, _, _, _, (f i).1, (f i).2, cl i hil 0 (by omega), cl i hil 1 (by omega), cl i hil 2 (by omega), cl i hil 3 (by omega), cl i hil 4 (by omega), cl i hil 5 (by omega), hlo i (Nat.le_refl _) hil, k3, k4, k5 g (by rw [e]; rfl), k1, ?_⟩
        have := ih (i + 1) (f i).2 (by omega) (fun j hj hjl => h2 i j (by omega) hjl)
        rwa [show 0 + (i + 1) * 6 = 0 + i * 6 + 6 by omega] at this
    have := key ms.length 0 w0.heap.size (by omega) (fun j _ hjl => (h1 j _ (List.getElem?_eq_getElem hjl)).2.1)
    simpa using this
def TPost (w : World) (nd : Nd) (e : Ending) (w' : World) : Prop := ∃ v, e = .returned v ∧ OwT w' nd v w.heap.size w'.heap.size ∧ Upto [] w w'
structure TI (w w9 : World) (bn : Nat) (op so nn mm : Int) (na : Option Addr) (nl nc : Nat) (l : List Nd) (j : Nat) (wr : World) : Prop where
  up : Upto [bn] w9 wr
  old : Upto [] w wr
  st : ∃ (va : Option Addr) (vn vc : Nat) (c : Nat → Nat → Value), wr.heap[bn]? = some (.cells #[.int .i64 op, .slice na nl nc, .int .i64 so, .int .i64 nn, .int .i64 mm, .slice va vn vc] 30 (0, 0)) ∧ TRow w9 wr bn c (.slice va vn vc) (l.take j)
theorem TI.ext {w w9 wr w2 : World} {bn : Nat} {op so nn mm : Int} {na : Option Addr} {nl nc : Nat} {l : List Nd} {j : Nat} (h : TI w w9 bn op so nn mm na nl nc l j wr) (hu : Upto [] wr w2) : TI w w9 bn op so nn mm na nl nc l j w2 := by
  obtain ⟨va, vn, vc, c, h1, h2⟩ := h.st
  exact ⟨h.up.trans_ext hu, h.old.trans_ext hu, va, vn, vc, c, hu.at h1 (by simp), h2.upto hu (by simp)⟩
def KdP (W : World) (x : Nd) (v : Value) (u : World) : Prop := ∃ k q, W.heap.size ≤ k ∧ k ≤ q ∧ q ≤ u.heap.size ∧ OwT u x v k q
theorem KdP.ext {W u u' : World} {x : Nd} {v : Value} (h : KdP W x v u) (hu : Upto [] u u') : KdP W x v u' := by
  obtain ⟨k, q, h1, h2, h3, h4⟩ := h
  exact ⟨k, q, h1, h2, Nat.le_trans h3 hu.size, h4.same _ _ _ _ (SameIn.upto hu h3 (by simp))⟩
theorem tcl_step {w w9 wr w10 w5 : World} {bn : Nat} {op so nn mm : Int} {na : Option Addr} {nl nc : Nat} {l : List Nd} {vn : Nat} {va : Option Addr} {vc : Nat} {c : Nat → Nat → Value} {x : Nd} {v0 v1 v2 v3 v4 v5 : Value} {b5 : Option Addr} {c5 : Nat}
    (HI : TI w w9 bn op so nn mm na nl nc l vn wr) (HLT : w.heap.size ≤ bn ∧ bn < w9.heap.size)
    (hbk : wr.heap[bn]? = some (.cells #[.int .i64 op, .slice na nl nc, .int .i64 so, .int .i64 nn, .int .i64 mm, .slice va vn vc] 30 (0, 0))) (hrow : TRow w9 wr bn c (.slice va vn vc) (l.take vn))
    (hu : Upto [] wr w10) (hn : KdP wr x (.agg #[v0, v1, v2, v3, v4, v5]) w10) (hjl : (l.take vn).length = vn) (htk : l.take (vn + 1) = l.take vn ++ [x])
    (ho5 : w5.ownsRow 0 30 6 (.slice b5 (vn + 1) c5) (vn + 1) (cellsN c vn ++ [v0, v1, v2, v3, v4, v5])) (hu5 : Upto (Value.slice va vn vc).ownBlock.toList w10 w5) (hw5 : ∀ g, (Value.slice b5 (vn + 1) c5).ownBlock = some g → (Value.slice va vn vc).ownBlock = some g ∨ w10.heap.size ≤ g) :
    w5.heap[bn]? = some (.cells #[.int .i64 op, .slice na nl nc, .int .i64 so, .int .i64 nn, .int .i64 mm, .slice va vn vc] 30 (0, 0)) ∧ TI w w9 bn op so nn mm na nl nc l (vn + 1) (w5.setCell ⟨bn, 5, none⟩ (.slice b5 (vn + 1) c5)) := by
  have hown : ∀ g, g ∈ (Value.slice va vn vc).ownBlock.toList → w9.heap.size ≤ g ∧ g ≠ bn := fun g hg => hrow.own g (Option.mem_toList.1 hg)
  have hold : ∀ g, (Value.slice va vn vc).ownBlock = some g → g < wr.heap.size := fun g hg => by
    obtain ⟨cur, hh⟩ := ownsRow_block hrow.row hg
    exact lt_of_heap hh
  have hb5 := hu5.at (hu.at hbk (by simp)) (fun hm => (hown _ hm).2 rfl)
  have hst : Upto [bn] w5 (w5.setCell ⟨bn, 5, none⟩ (.slice b5 (vn + 1) c5)) := (Upto.refl [bn] w5).setCell (p := ⟨bn, 5, none⟩) (Or.inl (by simp)) _
  have hs9 := HI.up.size
  have hs10 := hu.size
  have hbw := lt_of_heap hbk
  refine ⟨hb5, ⟨?_, ?_, b5, vn + 1, c5, addC c vn v0 v1 v2 v3 v4 v5, ?_, ?_⟩⟩
  · exact ((HI.up.trans_ext hu).trans hu5 (fun k hk => Or.inr (hown k hk).1)).setCell (p := ⟨bn, 5, none⟩) (Or.inl (by simp)) _
  · exact ((HI.old.trans_ext hu).trans hu5 (fun k hk => Or.inr (by have := (hown k hk).1; omega))).setCell (p := ⟨bn, 5, none⟩) (Or.inr (by simp; omega)) _
  · have := set_same hb5 5 (.slice b5 (vn + 1) c5)
    simpa using this
  · obtain ⟨k, q, n1, n2, n3, n4⟩ := hn
    have happ := TRow.app (m := x) (v0 := v0) (v1 := v1) (v2 := v2) (v3 := v3) (v4 := v4) (v5 := v5) (b' := b5) (c' := c5) (w5 := w5) (k := k) hrow n1 (by omega) hs9 HLT.2 hu ⟨q, n2, n3, n4⟩ (by rw [hjl]; exact ho5) hu5 (by rw [hjl]; exact hw5)
    rw [hjl] at happ
    rw [htk]
    exact happ.upto hst (fun k hk => by simp at hk; subst hk; exact HLT.2)
theorem tcl_end {w w9 wr : World} {bn : Nat} {op so nn mm : Int} {na : Option Addr} {nc : Nat} {names : List (List UInt8)} {l : List Nd} {vn : Nat} {va : Option Addr} {vc : Nat} {c : Nat → Nat → Value}
    (HI : TI w w9 bn op so nn mm na names.length nc l vn wr) (HLT : w.heap.size = bn ∧ bn + 1 < w9.heap.size)
    (hsl : NmT w9 names (.slice na names.length nc) (w.heap.size + 2) w9.heap.size)
    (hrow : TRow w9 wr bn c (.slice va vn vc) (l.take vn)) (htk : l.take vn = l) (hll : l.length = vn) :
    TPost w (.mk op names so nn mm l) (.returned (.agg #[.int .i64 op, .slice na names.length nc, .int .i64 so, .int .i64 nn, .int .i64 mm, .slice va vn vc])) ((((((wr.setCell ⟨w.heap.size + 1, 0, none⟩ (.int .i64 op)).setCell ⟨w.heap.size + 1, 1, none⟩ (.slice na names.length nc)).setCell ⟨w.heap.size + 1, 2, none⟩ (.int .i64 so)).setCell ⟨w.heap.size + 1, 3, none⟩ (.int .i64 nn)).setCell ⟨w.heap.size + 1, 4, none⟩ (.int .i64 mm)).setCell ⟨w.heap.size + 1, 5, none⟩ (.slice va vn vc)) := by
  have hst := nd_self wr (w.heap.size + 1) (.int .i64 op) (.slice na names.length nc) (.int .i64 so) (.int .i64 nn) (.int .i64 mm) (.slice va vn vc)
  have hrow2 := hrow.upto hst (fun k hk => by simp at hk; omega)
  rw [htk] at hrow2
  obtain ⟨wE, hE⟩ : ∃ wE, wE = ((((((wr.setCell ⟨w.heap.size + 1, 0, none⟩ (.int .i64 op)).setCell ⟨w.heap.size + 1, 1, none⟩ (.slice na names.length nc)).setCell ⟨w.heap.size + 1, 2, none⟩ (.int .i64 so)).setCell ⟨w.heap.size + 1, 3, none⟩ (.int .i64 nn)).setCell ⟨w.heap.size + 1, 4, none⟩ (.int .i64 mm)).setCell ⟨w.heap.size + 1, 5, none⟩ (.slice va vn vc)) := ⟨_, rfl⟩
  have hup : Upto [] w wE := by rw [hE]; exact nd_up HI.old (Or.inr (by omega)) ..
  rw [← hE] at hst hrow2 ⊢
  have hu9 : Upto [bn, bn + 1] w9 wE := (HI.up.mono (by simp)).trans (hst.mono (by simp; omega)) (fun k hk => Or.inl hk)
  have hs2 : NmT wE names (.slice na names.length nc) (w.heap.size + 2) w9.heap.size := hsl.same (SameIn.upto hu9 (Nat.le_refl _) (fun b hb => Or.inl (by simp at hb; omega)))
  refine ⟨_, rfl, ?_, hup⟩
  unfold OwT
  refine ⟨_, _, w9.heap.size, rfl, by omega, hu9.size, ?_, ?_⟩
  · rcases hs2 with h1 | ⟨g, o, c, cs, t, e3, k1, k2, k3, k4, k5⟩
    · exact Or.inl h1
    · exact Or.inr ⟨g, o, c, cs, t, e3, k1, by omega, k3, k4, k5⟩
  · have := hrow2.list
    rw [hll] at this ⊢
    exact this
set_option maxRecDepth 100000 in
set_option maxHeartbeats 6400000 in
theorem tclone_calls : ∀ (k : Nat) (nd : Nd), sizeF nd ≤ k → k ≤ 10000000 → bigN nd → ∀ (P : Nat → Prop) (v : Value) (w : World), NdV w P nd v → Calls Tryz.prog 42 #[v] w (TPost w nd)
  | 0, nd, hk, _, _, _, _, _, _ => by have := sizeF_pos nd; omega
  | k + 1, .mk op names so nn mm l, hk, hk7, hbg, P, v, w, h => by
    obtain ⟨a1, c1, a2, c2, rfl, hs, hls⟩ := h.open
    unfold bigN at hbg
    have hsz : sizesF l ≤ k := by simp only [sizeF] at hk; omega
    have hln := sizes_len l
    have hu2 : Upto [] w ((w.alloc (.cells #[.int .i64 op, .slice a1 names.length c1, .int .i64 so, .int .i64 nn, .int .i64 mm, .slice a2 l.length c2] 30)).alloc (.cells #[.int .i64 0, .slice none 0 0, .int .i64 0, .int .i64 0, .int .i64 0, .slice none 0 0] 30)) := ((Upto.refl [] w).alloc _).alloc _
    have hb1 := alloc_old (new_at w (.cells #[.int .i64 op, .slice a1 names.length c1, .int .i64 so, .int .i64 nn, .int .i64 mm, .slice a2 l.length c2] 30)) (.cells #[.int .i64 0, .slice none 0 0, .int .i64 0, .int .i64 0, .int .i64 0, .slice none 0 0] 30)
    have hb2 := new_at1 w (.cells #[.int .i64 op, .slice a1 names.length c1, .int .i64 so, .int .i64 nn, .int .i64 mm, .slice a2 l.length c2] 30) (.cells #[.int .i64 0, .slice none 0 0, .int .i64 0, .int .i64 0, .int .i64 0, .slice none 0 0] 30)
    obtain ⟨W, hW⟩ : ∃ W, W = ((w.alloc (.cells #[.int .i64 op, .slice a1 names.length c1, .int .i64 so, .int .i64 nn, .int .i64 mm, .slice a2 l.length c2] 30)).alloc (.cells #[.int .i64 0, .slice none 0 0, .int .i64 0, .int .i64 0, .int .i64 0, .slice none 0 0] 30)) := ⟨_, rfl⟩
    rw [← hW] at hu2 hb1 hb2
    have HU2 := Lib.hid hu2
    have HB1 := Lib.hid hb1
    have HB2 := Lib.hid hb2
    have HCL := Lib.hid (fun W2 (hu : Upto [] W W2) => sclone2_calls (names.map sV) a1 names.length c1 W2 P (by simp) hbg.1 (by intro u hu; obtain ⟨x, _, rfl⟩ := List.mem_map.1 hu; rfl) ((hs.ext hu2).ext hu))
    obtain ⟨x0, x1, x2, x3, x4, x5⟩ := cells6 hb1
    have hwl : w.heap.size + 1 < W.heap.size := lt_of_heap hb2
    have HWL := Lib.hid hwl
    clear hs h hu2 hb1 hb2
    go_enter Tryz.func42, Tryz.ntmps42
    go_wp2_with fail
    simp only [← hW]
    clear hW x0 x1 x2 x3 x4 x5
    refine (HCL.out W (Upto.refl [] W)).mono ?_
    rintro e w9 ⟨na, nc, rfl, hsr, hsg, hu9⟩
    have hc1 := hu9.at HB1.out (by simp)
    have hc2 := hu9.at HB2.out (by simp)
    have HUP := Lib.hid hu9
    have HC2 := Lib.hid hc2
    have HSL : Hid (NmT w9 names (.slice na names.length nc) (w.heap.size + 2) w9.heap.size) := Lib.hid (NmT.of_row hsr rfl (fun g hg => by have := hsg g hg; have := HWL.out; omega))
    have HLT : Hid (w.heap.size = w.heap.size ∧ w.heap.size + 1 < w9.heap.size) := Lib.hid ⟨rfl, lt_of_heap hc2⟩
    obtain ⟨n0, n1, n2, n3, n4, n5⟩ := cells6 hc1
    obtain ⟨f0, f1, f2, f3, f4, f5⟩ := frees6 hc1
    have hset := set_same (set_same hc1 1 (.slice na names.length nc)) 5 (.slice none 0 0)
    simp only [List.setIfInBounds_toArray, List.set_cons_zero, List.set_cons_succ] at hset
    have HI0 : Hid (TI w w9 w.heap.size op so nn mm na names.length nc l 0 ((w9.setCell ⟨w.heap.size, 1, none⟩ (.slice na names.length nc)).setCell ⟨w.heap.size, 5, none⟩ (.slice none 0 0))) := Lib.hid
      ⟨((Upto.refl [w.heap.size] w9).setCell (p := ⟨w.heap.size, 1, none⟩) (Or.inl (by simp)) _).setCell (p := ⟨w.heap.size, 5, none⟩) (Or.inl (by simp)) _,
       (((HU2.out.trans_ext hu9).setCell (p := ⟨w.heap.size, 1, none⟩) (Or.inr (by simp)) _).setCell (p := ⟨w.heap.size, 5, none⟩) (Or.inr (by simp)) _), none, 0, 0, fun _ _ => undef, hset, ⟨by simpa [cellsN] using World.ownsRow_nil _ 0 30 6, (by intro g hg; cases hg), ⟨fun _ => (0, 0), (by simp), (by intro i j _ h; simp at h)⟩⟩⟩
    clear hsr hsg hu9 hc1 hc2 hset
    have HLS := Lib.hid hls
    have HLN : Hid (l.length ≤ 10000000) := Lib.hid (by omega)
    clear hls
    go_wp2_with fail
    generalize hll : l.length = ll at *
    have HLL := Lib.hid hll
    have hL0 : (0 : Int) ≤ ll := by omega
    have hL1 : (ll : Int) ≤ 10000000 := by have := HLN.out; omega
    clear hll n0 n1 n2 n3 n4 n5 f0 f1 f2 f3 f4 f5
    go_loopw [15] (fun v wr => ∃ j : Nat, j ≤ ll ∧ v = .int .i64 j ∧ Hid (TI w w9 w.heap.size op so nn mm na names.length nc l j wr)) (fun v _ => ll - (intOf v).toNat)
    case atStart => exact ⟨0, by omega, rfl, HI0⟩
    case round =>
      obtain ⟨j, hj, rfl, HI⟩ := hrel
      obtain ⟨va, vn, vc, c, hbk, hrow⟩ := HI.out.st
      obtain ⟨va', vc', hve, -⟩ := ownsRow_len hrow.row
      simp only [Value.slice.injEq] at hve
      have hvn : vn = j := by have := HLL.out; rw [hve.2.1, List.length_take]; omega
      clear hve
      subst hvn
      rcases Nat.lt_or_ge vn ll with hlt | hge
      · obtain ⟨x, hx⟩ : ∃ x, l[vn]? = some x := ⟨_, List.getElem?_eq_getElem (by have := HLL.out; omega)⟩
        obtain ⟨g, o, xo, xn1, xn2, xn3, xs, xm, xq, xl1, xl2, xl3, rfl, c0, c1', c2', c3, c4, c5, hn⟩ := (HLS.out.ext HI.out.old) vn x hx
        have hjl : (l.take vn).length = vn := by have := HLL.out; rw [List.length_take]; omega
        have HJL := Lib.hid hjl
        have HTK : Hid (l.take (vn + 1) = l.take vn ++ [x]) := Lib.hid (by
          obtain ⟨hi, rfl⟩ := List.getElem?_eq_some_iff.1 hx
          exact List.take_succ_eq_append_getElem hi)
        have hxs := sizesF_mem (List.mem_of_getElem? hx)
        have hu7 : Upto [] wr (wr.alloc (.cells #[.int .i64 xo, .slice xn1 xn2 xn3, .int .i64 xs, .int .i64 xm, .int .i64 xq, .slice xl1 xl2 xl3] 30)) := (Upto.refl [] wr).alloc _
        have hb7 := new_at wr (.cells #[.int .i64 xo, .slice xn1 xn2 xn3, .int .i64 xs, .int .i64 xm, .int .i64 xq, .slice xl1 xl2 xl3] 30)
        obtain ⟨W7, hW7⟩ : ∃ W7, W7 = wr.alloc (.cells #[.int .i64 xo, .slice xn1 xn2 xn3, .int .i64 xs, .int .i64 xm, .int .i64 xq, .slice xl1 xl2 xl3] 30) := ⟨_, rfl⟩
        rw [← hW7] at hu7 hb7
        have HI7 := Lib.hid (HI.out.ext hu7)
        have hbk7 := hu7.at hbk (by simp)
        have HBK := Lib.hid hbk7
        have HROW := Lib.hid (hrow.upto hu7 (by simp))
        have HC := Lib.hid (fun w1 (hu : Upto [] W7 w1) => tclone_calls k x (by omega) (by omega) (bigs_mem hbg.2 (List.mem_of_getElem? hx)) P _ w1 ((hn.ext hu7).ext hu))
        have HB7 := Lib.hid hb7
        have hltI : (vn : Int) < ll := by omega
        have hj0 : (0 : Int) ≤ vn := by omega
        clear hrow hbk hn hx hu7 hb7 hbk7
        go_wp2_with fail
        simp only [← hW7]
        clear hW7
        have y5 := cell_of HBK.out 5
        simp only [List.getElem?_toArray, List.getElem?_cons_zero, List.getElem?_cons_succ] at y5
        obtain ⟨z0, z1, z2, z3, z4, z5⟩ := cells6 HB7.out
        have e0 : ∀ u : Ext W7, u.w.cell? ⟨w.heap.size, 5, none⟩ = some (.slice va vn vc) := fun u => u.cell y5
        have k0 : ∀ u : Ext W7, u.w.cell? ⟨wr.heap.size, 0, none⟩ = some _ := fun u => u.cell z0
        have k1 : ∀ u : Ext W7, u.w.cell? ⟨wr.heap.size, 1, none⟩ = some _ := fun u => u.cell z1
        have k2 : ∀ u : Ext W7, u.w.cell? ⟨wr.heap.size, 2, none⟩ = some _ := fun u => u.cell z2
        have k3 : ∀ u : Ext W7, u.w.cell? ⟨wr.heap.size, 3, none⟩ = some _ := fun u => u.cell z3
        have k4 : ∀ u : Ext W7, u.w.cell? ⟨wr.heap.size, 4, none⟩ = some _ := fun u => u.cell z4
        have k5 : ∀ u : Ext W7, u.w.cell? ⟨wr.heap.size, 5, none⟩ = some _ := fun u => u.cell z5
        clear y5 z0 z1 z2 z3 z4 z5 c0 c1' c2' c3 c4 c5
        refine wp_region_seg_at [3, 4] [] [0, 1, 2, 3, 4] [5, 6, 7] 5 (by kernel_rfl) (by kernel_rfl) (by kernel_rfl) ?_
        iterate 3 (refine seg_plain rfl rfl rfl rfl rfl ?_; intro K' hK'; go_big_quiet_op; go_big_quiet_on)
        refine seg_callO (Y := (Int × Option Addr × Nat × Nat) × Int × Int × Int × Option Addr × Nat × Nat) (fun y => .agg #[.int .i64 y.1.1, .slice y.1.2.1 y.1.2.2.1 y.1.2.2.2, .int .i64 y.2.1, .int .i64 y.2.2.1, .int .i64 y.2.2.2.1, .slice y.2.2.2.2.1 y.2.2.2.2.2.1 y.2.2.2.2.2.2]) (fun y u => KdP W7 x (.agg #[.int .i64 y.1.1, .slice y.1.2.1 y.1.2.2.1 y.1.2.2.2, .int .i64 y.2.1, .int .i64 y.2.2.1, .int .i64 y.2.2.2.1, .slice y.2.2.2.2.1 y.2.2.2.2.2.1 y.2.2.2.2.2.2]) u) (fun _ => []) rfl rfl rfl rfl (fun _ _ _ h hu => h.ext hu) (fun _ => List.nodup_nil) (fun w => by go_simp) (fun w' hu hd => (HC.out w' hu).mono fun e w2 ⟨v, h1, h2, h3⟩ => by
          obtain ⟨ro, rn1, rn2, rn3, rs, rm, rq, rl1, rl2, rl3, rfl⟩ := (h2.ndv _ _ _ _).six
          exact ⟨((ro, rn1, rn2, rn3), rs, rm, rq, rl1, rl2, rl3), h1, h3, ⟨w'.heap.size, w2.heap.size, hu.size, h3.size, Nat.le_refl _, h2⟩, fun b hb => by cases hb⟩) ?_
        rintro ⟨⟨ro, rn1, rn2, rn3⟩, rs, rm, rq, rl1, rl2, rl3⟩
        simp only [Act.put, List.setIfInBounds_toArray, List.set_cons_zero, List.set_cons_succ]
        refine seg_opq (Y := Nat) (fun b => .slice (some ⟨b, 0, none⟩) 1 1) (fun b u => u.heap[b]? = some (.cells #[.int .i64 ro, .slice rn1 rn2 rn3, .int .i64 rs, .int .i64 rm, .int .i64 rq, .slice rl1 rl2 rl3] 30 (0, 0))) (fun _ => []) rfl rfl rfl rfl (fun _ _ _ h hu => hu.at h (by simp)) (fun _ => List.nodup_nil) (fun w' post hu hd hp => (congrArg (opqUpon Tryz.prog post) (show _ = Result.ok (Next.value (.slice (some ⟨w'.heap.size, 0, none⟩) 1 1)) (w'.alloc (.cells #[.int .i64 ro, .slice rn1 rn2 rn3, .int .i64 rs, .int .i64 rm, .int .i64 rq, .slice rl1 rl2 rl3] 30)) from by go_simp)).mpr (hp w'.heap.size _ ((Upto.refl [] w').alloc _) (new_at _ _) (fun b hb => by cases hb))) ?_
        intro b8
        simp only [Act.put, List.setIfInBounds_toArray, List.set_cons_zero, List.set_cons_succ]
        intro w10 hg
        have HU10 := Lib.hid hg.up
        have HB8 : Hid (w10.heap[b8]? = some (.cells #[.int .i64 ro, .slice rn1 rn2 rn3, .int .i64 rs, .int .i64 rm, .int .i64 rq, .slice rl1 rl2 rl3] 30 (0, 0))) := Lib.hid hg.hold.1
        have HND : Hid (KdP W7 x (.agg #[.int .i64 ro, .slice rn1 rn2 rn3, .int .i64 rs, .int .i64 rm, .int .i64 rq, .slice rl1 rl2 rl3]) w10) := Lib.hid hg.hold.2.1
        simp only [List.drop_succ_cons, List.drop_zero]
        clear hg e0 k0 k1 k2 k3 k4 k5
        have HR10 := Lib.hid (HROW.out.upto HU10.out (by simp))
        have hr10 := HR10.out.row
        rw [hjl] at hr10
        have HRR := Lib.hid hr10
        obtain ⟨i1, hi1, hy0, hy1, hy2⟩ := info59'
        have hL7 := HLN.out
        have HA := Lib.hid (fun b5 c5 w5 (ho5 : w5.ownsRow 0 30 6 (.slice b5 (vn + 1) c5) (vn + 1) (cellsN c vn ++ [.int .i64 ro, .slice rn1 rn2 rn3, .int .i64 rs, .int .i64 rm, .int .i64 rq, .slice rl1 rl2 rl3])) (hu5 : Upto (Value.slice va vn vc).ownBlock.toList w10 w5) (hw5 : ∀ g, (Value.slice b5 (vn + 1) c5).ownBlock = some g → (Value.slice va vn vc).ownBlock = some g ∨ w10.heap.size ≤ g) => tcl_step HI7.out ⟨Nat.le_refl _, by have := HLT.out.2; omega⟩ HBK.out HROW.out HU10.out HND.out HJL.out HTK.out ho5 hu5 hw5)
        clear hr10 hjl
        go_wp2_with (at_builtin
                     refine wpList_app _ rfl (.tmp 20) (.tmp 23) 28 rfl 30 i1 (.agg #[.int .i64 0, .slice none 0 0, .int .i64 0, .int .i64 0, .int .i64 0, .slice none 0 0]) 6 80 Tryz.underlying28 hi1 hy0 hy1 hy2 rfl (by decide) (.slice va vn vc) vn (cellsN c vn) rfl HRR.out ⟨b8, 0, none⟩ 1 1 [.int .i64 ro, .slice rn1 rn2 rn3, .int .i64 rs, .int .i64 rm, .int .i64 rq, .slice rl1 rl2 rl3] rfl rfl (six_at HB8.out) (by simp [Value.oneCell']) (by unfold maxLen; omega) (by omega) ?_
                     intro b5 c5 w5 ho5 hu5 hw5
                     obtain ⟨hbk5, hI5⟩ := HA.out b5 c5 w5 ho5 hu5 hw5
                     have y5 := cell_of hbk5 5
                     have g5 := free_of hbk5 5
                     simp only [List.getElem?_toArray, List.getElem?_cons_zero, List.getElem?_cons_succ] at y5
                     have HI5 := Lib.hid hI5
                     clear ho5 hu5 hw5 hbk5 hI5)
        go_roundw
        case rel => exact ⟨vn + 1, by omega, by go_num, HI5⟩
        case measure => simp [intOf]; omega
      · obtain rfl : vn = ll := by omega
        have hgeI : ¬ ((vn : Int) < vn) := by omega
        have HROW := Lib.hid hrow
        have hz2 := HI.out.up.at HC2.out (by simp)
        have HZ2 := Lib.hid hz2
        obtain ⟨p0, p1, p2, p3, p4, p5⟩ := cells6 hbk
        obtain ⟨r0, r1, r2, r3, r4, r5⟩ := cells6 hz2
        obtain ⟨t0, t1, t2, t3, t4, t5⟩ := frees6 hz2
        have hF := tcl_end (names := names) HI.out ⟨rfl, HLT.out.2⟩ HSL.out HROW.out (List.take_of_length_le (by have := HLL.out; omega)) HLL.out
        have HF := Lib.hid hF
        clear hrow hbk hz2 hF
        go_wp2_with fail
        have hst := nd_store HZ2.out (.int .i64 op) (.slice na names.length nc) (.int .i64 so) (.int .i64 nn) (.int .i64 mm) (.slice va vn vc)
        obtain ⟨q0, q1, q2, q3, q4, q5⟩ := cells6 hst
        exact bodyPost_ret (v := .agg #[.int .i64 op, .slice na names.length nc, .int .i64 so, .int .i64 nn, .int .i64 mm, .slice va vn vc]) (by simp [results, Tryz.results42, go_sem, q0, q1, q2, q3, q4, q5]) rfl HF.out
theorem OwTs.at {w : World} : ∀ (l : List Nd) (cs : Array Value) (o g lo hi j : Nat) (x : Nd), OwTs w l cs o g lo hi → l[j]? = some x →
    ∃ v0 v1 v2 v3 v4 v5 k m, cs[o + 6 * j]? = some v0 ∧ cs[o + 6 * j + 1]? = some v1 ∧ cs[o + 6 * j + 2]? = some v2 ∧ cs[o + 6 * j + 3]? = some v3 ∧ cs[o + 6 * j + 4]? = some v4 ∧ cs[o + 6 * j + 5]? = some v5 ∧ lo ≤ k ∧ k ≤ m ∧ m ≤ hi ∧ (g < k ∨ m ≤ g) ∧ OwT w x (.agg #[v0, v1, v2, v3, v4, v5]) k m ∧
      ∀ (w' : World) (x' : Nd), OwT w' x' (.agg #[v0, v1, v2, v3, v4, v5]) k m → (∀ b, lo ≤ b → b < hi → (b < k ∨ m ≤ b) → w'.heap[b]? = w.heap[b]?) → OwTs w' (l.set j x') cs o g lo hi
  | [], _, _, _, _, _, _, _, _, hj => by simp at hj
  | y :: ys, cs, o, g, lo, hi, 0, x, h, hj => by
    unfold OwTs at h
    obtain ⟨v0, v1, v2, v3, v4, v5, k, m, c0, c1, c2, c3, c4, c5, h1, h2, h3, h4, h5, h6⟩ := h
    cases hj
    refine ⟨v0, v1, v2, v3, v4, v5, k, m, c0, c1, c2, c3, c4, c5, h1, h2, h3, h4, h5, fun w' x' hx hs => ?_⟩
    rw [List.set_cons_zero]
    unfold OwTs
    exact ⟨v0, v1, v2, v3, v4, v5, k, m, c0, c1, c2, c3, c4, c5, h1, h2, h3, h4, hx, OwTs.same ys cs (o + 6) g m hi h6 (fun b hb hb2 => hs b (by omega) hb2 (Or.inr hb))⟩
  | y :: ys, cs, o, g, lo, hi, j + 1, x, h, hj => by
    unfold OwTs at h
    obtain ⟨u0, u1, u2, u3, u4, u5, k, m, c0, c1, c2, c3, c4, c5, h1, h2, h3, h4, h5, h6⟩ := h
    obtain ⟨v0, v1, v2, v3, v4, v5, k', m', d0, d1, d2, d3, d4, d5, i1, i2, i3, i4, i5, i6⟩ := OwTs.at ys cs (o + 6) g m hi j x h6 (by simpa using hj)
    have ho : o + 6 * (j + 1) = o + 6 + 6 * j := by omega
    rw [ho]
    refine ⟨v0, v1, v2, v3, v4, v5, k', m', d0, d1, d2, d3, d4, d5, by omega, i2, i3, i4, i5, fun w' x' hx hs => ?_⟩
    rw [List.set_cons_succ]
    unfold OwTs
    exact ⟨u0, u1, u2, u3, u4, u5, k, m, c0, c1, c2, c3, c4, c5, h1, h2, h3, h4, OwT.same y _ k m h5 (fun b hb hb2 => hs b (by omega) (by omega) (Or.inl (by omega))), i6 w' x' hx (fun b hb hb2 hb3 => hs b (by omega) hb2 hb3)⟩
theorem NmT.set {w : World} {nms : List (List UInt8)} {g o c lo m : Nat} {j : Nat} {x : List UInt8} (h : NmT w nms (.slice (some ⟨g, o, none⟩) nms.length c) lo m) (hj : j < nms.length) :
    NmT (w.setCell ⟨g, o + j, none⟩ (sV x)) (nms.set j x) (.slice (some ⟨g, o, none⟩) nms.length c) lo m := by
  rcases h with ⟨rfl, -⟩ | ⟨g', o', c', cs, t, e, h1, h2, h3, h4, h5⟩
  · simp at hj
  · simp only [Value.slice.injEq, Option.some.injEq, Addr.mk.injEq] at e
    obtain ⟨⟨rfl, rfl, -⟩, -, rfl⟩ := e
    refine Or.inr ⟨g, o, c, cs.setIfInBounds (o + j) (sV x), t, by rw [List.length_set], by rw [List.length_set]; exact h1, h2, h3, ?_, fun i y hi => ?_⟩
    · simp only [World.setCell]
      rw [Array.getElem?_modify, if_pos rfl, h4]
      rfl
    · rw [Array.getElem?_setIfInBounds]
      rw [List.getElem?_set] at hi
      by_cases hij : j = i
      · subst hij
        rw [if_pos rfl, if_pos hj] at hi
        cases hi
        have hb : (cs[o + j]?) = some (sV nms[j]) := h5 j _ (List.getElem?_eq_getElem hj)
        rw [if_pos rfl, if_pos (Array.getElem?_eq_some_iff.1 hb).1]
      · rw [if_neg hij] at hi
        rw [if_neg (by omega)]
        exact h5 i y hi
def UsA (op : Int) (nms : List (List UInt8)) (a1 : Option Addr) (w : World) (e : Ending) (w' : World) : Prop := ∃ v, e = .returned v ∧ Upto [] w w' ∧
  ((usesF op nms = [] ∧ ∃ a c, v = .slice a 0 c) ∨ ∃ g o c k, v = .slice (some ⟨g, o + k, none⟩) (usesF op nms).length c ∧ a1 = some ⟨g, o, none⟩ ∧ k = (if op = 10 then 1 else 0) ∧ (usesF op nms).length + k = nms.length ∧ (usesF op nms).length ≤ c)
set_option maxRecDepth 100000 in
set_option maxHeartbeats 1600000 in
theorem usesA_calls (P : Nat → Prop) (op : Int) (nms : List (List UInt8)) (a1 : Option Addr) (c1 : Nat) (so nn mm : Int) (a2 : Option Addr) (n2 c2 : Nat) (w : World) (hg : op = 10 → 0 < nms.length) (hs : SlP w P (.slice a1 nms.length c1) nms.length (nms.map sV)) (hl : nms.length ≤ 10000000) : Calls Tryz.prog 74 #[.agg #[.int .i64 op, .slice a1 nms.length c1, .int .i64 so, .int .i64 nn, .int .i64 mm, .slice a2 n2 c2]] w (UsA op nms a1 w) := by
  have HU := Lib.hid ((Upto.refl [] w).alloc (.cells #[.int .i64 op, .slice a1 nms.length c1, .int .i64 so, .int .i64 nn, .int .i64 mm, .slice a2 n2 c2] 30))
  by_cases h10 : op = 10
  · subst h10
    have h0 := hg rfl
    cases nms with
    | nil => simp at h0
    | cons x r =>
      rcases hs with ⟨hz, -⟩ | ⟨g, o, c', e, ⟨hp, hi, hnc⟩, hc⟩
      · simp at hz
      have hs : SlP w P (.slice (some ⟨g, o, none⟩) (x :: r).length c') (x :: r).length ((x :: r).map sV) := Or.inr ⟨g, o, c', rfl, ⟨hp, hi, hnc⟩, hc⟩
      simp only [Value.slice.injEq] at e
      obtain ⟨rfl, -, rfl⟩ := e
      simp only [List.length_cons] at hnc hl
      rw [List.length_cons] at HU ⊢
      generalize hn : r.length = n at *
      have hn1 : (n : Int) + 1 ≤ 10000000 := by omega
      have hn0 : (0 : Int) ≤ n := by omega
      have hmin : min ((n : Int) + 1) 1 = 1 := by omega
      have HS := Lib.hid hs
      have HN := Lib.hid hn
      clear hc hs hi hp hg h0 hn
      by_cases h1 : c1 = 1
      · subst h1
        have h00 : n = 0 := by omega
        subst h00
        go_enter Tryz.func74, Tryz.ntmps74
        go_wp2_with fail
        go_ret
        have hr : r = [] := List.eq_nil_of_length_eq_zero HN.out
        subst hr
        exact ⟨_, rfl, HU.out, Or.inl ⟨by simp [usesF], _, _, rfl⟩⟩
      · obtain ⟨cc, rfl⟩ : ∃ cc, c1 = cc + 2 := ⟨c1 - 2, by omega⟩
        go_enter Tryz.func74, Tryz.ntmps74
        go_wp2_with fail
        go_ret
        have e := HN.out
        subst e
        have HE : usesF 10 (x :: r) = r := by simp [usesF]
        unfold UsA
        rw [HE]
        exact ⟨_, rfl, HU.out, Or.inr ⟨g, o, _, 1, rfl, rfl, by simp, by simp, by omega⟩⟩
  · have e10 : (op == 10) = false := by simpa using h10
    by_cases h2 : op < 2
    · have e2 : ¬ 2 ≤ op := by omega
      have HE : Hid (usesF op nms = []) := Lib.hid (by unfold usesF; rw [if_neg h10, if_neg (by omega)])
      clear hs hg
      go_enter Tryz.func74, Tryz.ntmps74
      go_wp2_with fail
      go_ret
      unfold UsA
      rw [HE.out]
      exact ⟨_, rfl, HU.out, Or.inl ⟨rfl, _, _, rfl⟩⟩
    · by_cases h3 : op < 10
      · have e2 : 2 ≤ op := by omega
        have HE : Hid (usesF op nms = nms) := Lib.hid (by unfold usesF; rw [if_neg h10, if_pos (by omega)])
        have HS := Lib.hid (hs.ext HU.out)
        clear hs hg
        go_enter Tryz.func74, Tryz.ntmps74
        go_wp2_with fail
        go_ret
        unfold UsA
        rw [HE.out]
        rcases HS.out with ⟨h0, h1, a, c, e⟩ | ⟨g, o, c, e, ⟨-, -, hc⟩, -⟩
        · exact ⟨_, rfl, HU.out, Or.inl ⟨List.eq_nil_of_length_eq_zero (by simpa using h0), _, _, e⟩⟩
        · simp only [Value.slice.injEq] at e
          obtain ⟨rfl, -, rfl⟩ := e
          exact ⟨_, rfl, HU.out, Or.inr ⟨g, o, _, 0, rfl, rfl, by rw [if_neg h10], by simp, hc⟩⟩
      · have e2 : 2 ≤ op := by omega
        have HE : Hid (usesF op nms = []) := Lib.hid (by unfold usesF; rw [if_neg h10, if_neg (by omega)])
        clear hs hg
        go_enter Tryz.func74, Tryz.ntmps74
        go_wp2_with fail
        go_ret
        unfold UsA
        rw [HE.out]
        exact ⟨_, rfl, HU.out, Or.inl ⟨rfl, _, _, rfl⟩⟩
end Go.Proofs.YtbnebkkpmcjmbaaGreatDoor
namespace Go.Proofs.YtbnebkkpmcjmbaaGreatDoor
open Go.PL
def mapAt {α : Type} (f : α → α) (k i : Nat) (l : List α) : List α := l.mapIdx fun j x => if k ≤ j ∧ j < k + i then f x else x
theorem mapAt_len {α : Type} (f : α → α) (k i : Nat) (l : List α) : (mapAt f k i l).length = l.length := by simp [mapAt]
theorem mapAt_zero {α : Type} (f : α → α) (k : Nat) (l : List α) : mapAt f k 0 l = l := by
  apply List.ext_getElem?
  intro j
  simp only [mapAt, List.getElem?_mapIdx]
  cases l[j]? with
  | none => rfl
  | some x =>
    simp only [Option.map_some]
    rw [if_neg (by omega)]
theorem mapAt_get {α : Type} (f : α → α) (k i : Nat) (l : List α) : (mapAt f k i l)[k + i]? = l[k + i]? := by
  simp only [mapAt, List.getElem?_mapIdx]
  cases l[k + i]? with
  | none => rfl
  | some x =>
    simp only [Option.map_some]
    rw [if_neg (by omega)]
theorem mapAt_next {α : Type} {f : α → α} {k i : Nat} {l : List α} {x : α} (h : l[k + i]? = some x) : mapAt f k (i + 1) l = (mapAt f k i l).set (k + i) (f x) := by
  apply List.ext_getElem?
  intro j
  rw [List.getElem?_set]
  have hlt : k + i < l.length := (List.getElem?_eq_some_iff.1 h).1
  by_cases hj : k + i = j
  · subst hj
    rw [if_pos rfl, mapAt_len, if_pos hlt]
    simp only [mapAt, List.getElem?_mapIdx, h, Option.map_some]
    rw [if_pos (by omega)]
  · rw [if_neg hj]
    simp only [mapAt, List.getElem?_mapIdx]
    cases l[j]? with
    | none => rfl
    | some y =>
      simp only [Option.map_some]
      by_cases hc : k ≤ j ∧ j < k + i
      · rw [if_pos hc, if_pos (by omega)]
      · rw [if_neg hc, if_neg (by omega)]
theorem mapAt_stay {α : Type} {f : α → α} {k i : Nat} {l : List α} {x : α} (h : l[k + i]? = some x) (hf : f x = x) : mapAt f k (i + 1) l = mapAt f k i l := by
  rw [mapAt_next h, hf]
  apply List.ext_getElem?
  intro j
  rw [List.getElem?_set]
  by_cases hj : k + i = j
  · subst hj
    rw [if_pos rfl, mapAt_len, if_pos (List.getElem?_eq_some_iff.1 h).1, mapAt_get, h]
  · rw [if_neg hj]
theorem mapAt_all {α : Type} (f : α → α) (l : List α) : mapAt f 0 l.length l = l.map f := by
  apply List.ext_getElem?
  intro j
  simp only [mapAt, List.getElem?_mapIdx, List.getElem?_map]
  cases hx : l[j]? with
  | none => rfl
  | some x =>
    have := (List.getElem?_eq_some_iff.1 hx).1
    simp only [Option.map_some]
    rw [if_pos (by omega)]
theorem mapAt_uses {op : Int} {f : List UInt8 → List UInt8} {nms : List (List UInt8)} {k : Nat} (hk : k = (if op = 10 then 1 else 0)) (h0 : 0 < (usesF op nms).length) : mapAt f k (usesF op nms).length nms = rnUses op f nms := by
  by_cases h10 : op = 10
  · subst h10
    rw [if_pos rfl] at hk
    subst hk
    cases nms with
    | nil => simp [usesF] at h0
    | cons x r =>
      simp only [usesF, rnUses, if_true, List.drop_succ_cons, List.drop_zero, List.take_succ_cons, List.take_zero, List.cons_append, List.nil_append]
      apply List.ext_getElem?
      intro j
      cases j with
      | zero => simp [mapAt]
      | succ j =>
        simp only [mapAt, List.getElem?_mapIdx, List.getElem?_cons_succ, List.getElem?_map]
        cases hx : r[j]? with
        | none => rfl
        | some y =>
          have := (List.getElem?_eq_some_iff.1 hx).1
          simp only [Option.map_some]
          rw [if_pos (by omega)]
  · rw [if_neg h10] at hk
    subst hk
    unfold usesF at h0 ⊢
    unfold rnUses
    rw [if_neg h10] at h0 ⊢
    rw [if_neg h10]
    by_cases h2 : 2 ≤ op ∧ op < 10
    · rw [if_pos h2] at h0 ⊢
      rw [if_pos h2]
      exact mapAt_all f nms
    · rw [if_neg h2] at h0
      simp at h0
theorem rnUses_none {op : Int} {f : List UInt8 → List UInt8} {nms : List (List UInt8)} (h0 : usesF op nms = []) : rnUses op f nms = nms := by
  unfold usesF at h0
  unfold rnUses
  by_cases h10 : op = 10
  · rw [if_pos h10] at h0 ⊢
    rw [h0]
    have := List.take_append_drop 1 nms
    rw [h0] at this
    simpa using this
  · rw [if_neg h10] at h0 ⊢
    by_cases h2 : 2 ≤ op ∧ op < 10
    · rw [if_pos h2] at h0 ⊢
      rw [h0]
      rfl
    · rw [if_neg h2]
end Go.Proofs.YtbnebkkpmcjmbaaGreatDoor
namespace Go.Proofs.YtbnebkkpmcjmbaaGreatDoor
open Go.RowKit Go.PL Go.Maps
theorem NdV.here {w : World} {P : Nat → Prop} {nd : Nd} {v : Value} (h : NdV w P nd v) : NdV w (fun b => b < w.heap.size) nd v := h.mono (fun _ _ hc => hc.lt)
set_option maxRecDepth 100000 in
set_option maxHeartbeats 3200000 in
theorem Free_calls (nd : Nd) (v : Value) (w : World) (P : Nat → Prop) (h : NdV w P nd v) (hk : sizeF nd ≤ 100000) (hg : goodN nd) (hn : nmsF nd ≤ 200000) : Calls Tryz.prog 19 #[v] w (FqPost w (freeP nd [] [])) := by
  obtain ⟨op, a1, n1, c1, so, nn, mm, a2, n2, c2, rfl⟩ := h.six
  obtain ⟨W, hW⟩ : ∃ W, W = w.alloc (.cells #[.int .i64 op, .slice a1 n1 c1, .int .i64 so, .int .i64 nn, .int .i64 mm, .slice a2 n2 c2] 30) := ⟨_, rfl⟩
  have HU1 : Hid (Upto [] w W) := Lib.hid (by rw [hW]; exact (Upto.refl [] w).alloc _)
  have HB1 : Hid (W.heap[w.heap.size]? = some (.cells #[.int .i64 op, .slice a1 n1 c1, .int .i64 so, .int .i64 nn, .int .i64 mm, .slice a2 n2 c2] 30 (0, 0))) := Lib.hid (by rw [hW]; exact new_at w _)
  have HF := Lib.hid (free_calls 100000 nd hk (by omega) hg _ W _ (h.ext HU1.out).here (fun _ => False) [] (.slice none 0 0) SlP.nil [] (.slice none 0 0) (by simpa using World.ownsRow_nil W 0 9 1) (fun b hb => ⟨hb, by simp [Value.ownBlock]⟩) (fun b hb => hb.elim) (by simp; omega) (by simp; omega))
  obtain ⟨x0, x1, x2, x3, x4, x5⟩ := cells6 HB1.out
  clear h
  go_enter Tryz.func19, Tryz.ntmps19
  go_wp2_with fail
  simp only [← hW]
  clear hW
  go_wp2_with fail
  refine HF.out.mono ?_
  rintro e w2 ⟨v2, rfl, ho⟩
  have HU2 : Hid (Upto [] W w2) := Lib.hid (by simpa [Value.ownBlock] using ho.up)
  have HS : Hid (RowW w (freeP nd [] []) v2 w2) := Lib.hid ⟨SlP.of_row ho.row (fun g hg => by
    rcases ho.wh g hg with h1 | h1
    · simp [Value.ownBlock] at h1
    · exact Nat.le_trans HU1.out.size h1), HU1.out.trans_ext HU2.out⟩
  obtain ⟨a9, c9, rfl, -⟩ := ownsRow_len ho.row
  clear ho x0 x1 x2 x3 x4 x5
  go_wp2_with fail
  go_ret
  exact ⟨_, rfl, HS.out⟩
mutual
def walkF {α : Type} (f : α → Nd → α) : Nd → α → α
  | .mk op nms so nn mm l, s => walksF f l (f s (.mk op nms so nn mm l))
def walksF {α : Type} (f : α → Nd → α) : List Nd → α → α
  | [], s => s
  | x :: xs, s => walksF f xs (walkF f x s)
end
theorem walksF_app {α : Type} (f : α → Nd → α) (x : Nd) : ∀ (l : List Nd) (s : α), walksF f (l ++ [x]) s = walkF f x (walksF f l s)
  | [], s => by simp [walksF]
  | y :: ys, s => by
    rw [List.cons_append]
    unfold walksF
    exact walksF_app f x ys _
set_option maxRecDepth 100000 in
set_option maxHeartbeats 6400000 in
theorem walkB_calls {α : Type} (p : Value) (f : α → Nd → α) (w0 : World) (S : List Nat) (P : Nat → Prop) (J : α → Nat → List Nat → World → Prop)
    (hPS : ∀ b, P b → b < w0.heap.size ∧ b ∉ S) (hS : ∀ g ∈ S, g < w0.heap.size)
    (hJ1 : ∀ s r O u, J s r O u → w0.heap.size ≤ u.heap.size ∧ ∀ g ∈ O, g < u.heap.size ∧ w0.heap.size ≤ g) (hJe : ∀ s r O u u', J s r O u → Upto [] u u' → J s r O u')
    (hf : ∀ s r O u x v, J s (r + sizeF x) O u → goodN x → NdV u P x v → Calls Tryz.prog 56 #[v, p] u fun e w' => e = .returned (.tuple #[]) ∧ ∃ O', Upto (S ++ O) u w' ∧ (∀ g ∈ O', g ∈ O ∨ u.heap.size ≤ g) ∧ ∀ r', r' + 1 ≤ r + sizeF x → J (f s x) r' O' w') :
    ∀ (k : Nat) (nd : Nd), sizeF nd ≤ k → k ≤ 100000 → goodN nd → ∀ (v : Value) (s : α) (r : Nat) (O : List Nat) (w : World), J s (r + sizeF nd) O w → NdV w P nd v → Calls Tryz.prog 55 #[v, .func (.func 56) #[] #[p]] w fun e w' => e = .returned (.tuple #[]) ∧ ∃ O', J (walkF f nd s) r O' w' ∧ Upto (S ++ O) w w' ∧ ∀ g ∈ O', g ∈ O ∨ w.heap.size ≤ g
  | 0, nd, hk, _, _, _, _, _, _, _, _, _ => by have := sizeF_pos nd; omega
  | k + 1, .mk op nms so nn mm l, hk, hk7, hgd, v, s, r, O, w, hJ, h => by
    obtain ⟨a1, c1, a2, c2, rfl, hs, hg⟩ := h.open
    have HGD0 := Lib.hid hgd
    unfold goodN at hgd
    have HGD := Lib.hid hgd
    have hsz : sizesF l ≤ k := by simp only [sizeF] at hk; omega
    have HSZ := Lib.hid hsz
    have HSE : Hid (sizeF (.mk op nms so nn mm l) = 1 + sizesF l) := Lib.hid (by simp only [sizeF])
    have HE : Hid (walkF f (.mk op nms so nn mm l) s = walksF f l (f s (.mk op nms so nn mm l))) := Lib.hid (by simp only [walkF])
    have HLEN : Hid (l.length ≤ 100000) := Lib.hid (by have := sizes_len l; omega)
    have hlen := HLEN.out
    have HIH := Lib.hid (fun (x : Nd) (hx : x ∈ l) (hs : sizeF x ≤ k) => walkB_calls p f w0 S P J hPS hS hJ1 hJe hf k x hs (by omega) (goodsN_mem HGD.out.2 x hx))
    have HO1 := Lib.hid (hJ1 _ _ _ _ hJ)
    have HPN : Hid (∀ u, Upto (S ++ O) w u → LsAt u P a2 l) := Lib.hid (fun u hu => ls_later h hu (fun b hb _ hm => by
      rcases List.mem_append.1 hm with h1 | h1
      · exact (hPS b hb).2 h1
      · have := (HO1.out.2 b h1).2; have := (hPS b hb).1; omega))
    obtain ⟨W, hW⟩ : ∃ W, W = w.alloc (.cells #[.int .i64 op, .slice a1 nms.length c1, .int .i64 so, .int .i64 nn, .int .i64 mm, .slice a2 l.length c2] 30) := ⟨_, rfl⟩
    have HU1 : Hid (Upto [] w W) := Lib.hid (by rw [hW]; exact (Upto.refl [] w).alloc _)
    have HB1 : Hid (W.heap[w.heap.size]? = some (.cells #[.int .i64 op, .slice a1 nms.length c1, .int .i64 so, .int .i64 nn, .int .i64 mm, .slice a2 l.length c2] 30 (0, 0))) := Lib.hid (by rw [hW]; exact new_at w _)
    have HNS : Hid (w.heap.size ∉ S ++ O) := Lib.hid (fun hm => by
      rcases List.mem_append.1 hm with h1 | h1
      · have h3 := hS _ h1; have h2 := HO1.out.1; omega
      · have := (HO1.out.2 _ h1).1; omega)
    have HF := Lib.hid (hf s r O W _ _ (hJe _ _ _ _ _ hJ HU1.out) HGD0.out (h.ext HU1.out))
    have HJE := Lib.hid hJe
    generalize hs1 : f s (.mk op nms so nn mm l) = s1 at *
    obtain ⟨x0, x1, x2, x3, x4, x5⟩ := cells6 HB1.out
    generalize hll : l.length = ll at *
    have HLL := Lib.hid hll
    have hL0 : (0 : Int) ≤ ll := by omega
    have hL1 : (ll : Int) ≤ 100000 := by omega
    clear h hg hs hsz hll hlen hk hgd hJ hs1 hJe hJ1 hf hPS hS
    go_enter Tryz.func55, Tryz.ntmps55
    go_wp2_with fail
    simp only [← hW]
    clear hW
    go_wp2_with fail
    refine HF.out.mono ?_
    rintro e w2 ⟨rfl, O2, hu2, ho2, hj2⟩
    have HU2 := Lib.hid ((HU1.out.mono (by simp)).trans_same hu2)
    have HO2 : Hid (∀ g ∈ O2, g ∈ O ∨ w.heap.size ≤ g) := Lib.hid (fun g hg => (ho2 g hg).imp id (fun h => Nat.le_trans HU1.out.size h))
    have HJ2 := Lib.hid hj2
    have HB2 := Lib.hid (hu2.at HB1.out HNS.out)
    clear hu2 hj2 ho2 x0 x1 x2 x3 x4 x5
    have x5 := cell_of HB2.out 5
    simp only [List.getElem?_toArray, List.getElem?_cons_zero, List.getElem?_cons_succ] at x5
    go_wp2_with fail
    clear x5
    go_loopw [12] (fun i wr => ∃ (q : Nat) (Oq : List Nat), q ≤ ll ∧ i = .int .i64 q ∧ Hid (J (walksF f (l.take q) s1) (r + sizesF (l.drop q)) Oq wr ∧ Upto (S ++ O) w wr ∧ ∀ g ∈ Oq, g ∈ O ∨ w.heap.size ≤ g)) (fun i _ => ll - (intOf i).toNat)
    case atStart => exact ⟨0, O2, by omega, rfl, Lib.hid ⟨by simpa [walksF] using HJ2.out _ (by rw [HSE.out]; omega), HU2.out, HO2.out⟩⟩
    case round =>
      obtain ⟨q, Oq, hq, rfl, HR⟩ := hrel
      have hq0 : (0 : Int) ≤ q := by omega
      rcases Nat.lt_or_ge q ll with hlt | hge
      · obtain ⟨x, hx⟩ : ∃ x, l[q]? = some x := ⟨_, List.getElem?_eq_getElem (by have := HLL.out; omega)⟩
        obtain ⟨g, o, xo, xn1, xn2, xn3, xs, xm, xq, xl1, xl2, xl3, rfl, d0, d1, d2, d3, d4, d5, hnx⟩ := HPN.out wr HR.out.2.1 q x hx
        have hua : Upto [] wr (wr.alloc (.cells #[.int .i64 xo, .slice xn1 xn2 xn3, .int .i64 xs, .int .i64 xm, .int .i64 xq, .slice xl1 xl2 xl3] 30)) := (Upto.refl [] wr).alloc _
        have HSX := Lib.hid (sizesF_take l q x hx)
        have HDX : Hid (sizesF (l.drop q) = sizeF x + sizesF (l.drop (q + 1))) := Lib.hid (by
          obtain ⟨hi, rfl⟩ := List.getElem?_eq_some_iff.1 hx
          rw [List.drop_eq_getElem_cons hi]
          simp only [sizesF])
        have HC := Lib.hid (HIH.out x (List.mem_of_getElem? hx) (by have := HSZ.out; have := HSX.out; omega) _ (walksF f (l.take q) s1) (r + sizesF (l.drop (q + 1))) Oq _ (by have h1 := HJE.out _ _ _ _ _ HR.out.1 hua; rw [HDX.out] at h1; rw [show r + sizesF (l.drop (q + 1)) + sizeF x = r + (sizeF x + sizesF (l.drop (q + 1))) by omega]; exact h1) (hnx.ext hua))
        have hltI : (q : Int) < ll := by omega
        have HNX : Hid (walksF f (l.take (q + 1)) s1 = walkF f x (walksF f (l.take q) s1)) := Lib.hid (by rw [take_app1 l q x hx]; exact walksF_app f x _ _)
        have HUA := Lib.hid hua
        clear hua hnx hx
        go_wp2_with fail
        refine HC.out.mono ?_
        rintro e w7 ⟨rfl, O7, hj7, hu7, ho7⟩
        have HJ7 := Lib.hid hj7
        have HU7 := Lib.hid ((HR.out.2.1.trans_ext HUA.out).trans hu7 (fun k hk => by
          rcases List.mem_append.1 hk with h1 | h1
          · exact Or.inl (List.mem_append_left _ h1)
          · exact (HR.out.2.2 k h1).imp (fun h2 => List.mem_append_right _ h2) id))
        have HO7 : Hid (∀ g ∈ O7, g ∈ O ∨ w.heap.size ≤ g) := Lib.hid (fun g hg => by
          rcases ho7 g hg with h1 | h1
          · exact HR.out.2.2 g h1
          · exact Or.inr (Nat.le_trans (HR.out.2.1.trans_ext HUA.out).size h1))
        clear hj7 hu7 ho7
        go_wp2_with fail
        go_roundw
        case rel => exact ⟨q + 1, O7, by omega, by go_num, Lib.hid ⟨by rw [HNX.out]; exact HJ7.out, HU7.out, HO7.out⟩⟩
        case measure => simp [intOf]; omega
      · obtain rfl : q = ll := by omega
        have hgeI : ¬ (q : Int) < q := by omega
        have HTT : Hid (l.take q = l) := Lib.hid (by rw [← HLL.out, List.take_length])
        have HDD : Hid (l.drop q = []) := Lib.hid (by rw [← HLL.out, List.drop_length])
        rw [HTT.out, HDD.out] at HR
        go_wp2_with fail
        exact bodyPost_end (v := .tuple #[]) (by simp [results, Tryz.results55, go_sem]) rfl ⟨rfl, Oq, by rw [HE.out]; simpa [sizesF] using HR.out.1, HR.out.2.1, HR.out.2.2⟩
def bStep (s : List (List UInt8)) : Nd → List (List UInt8)
  | .mk op nms _ _ _ _ => if bindsF op nms.length = true ∧ s.contains (nms.headD []) = false then s ++ [nms.headD []] else s
mutual
theorem boundP_walk : ∀ (n : Nd) (s : List (List UInt8)), walkF bStep n s = boundP n s
  | .mk op nms so nn mm l, s => by
    unfold walkF boundP
    rw [boundsP_walk l]
    rfl
theorem boundsP_walk : ∀ (l : List Nd) (s : List (List UInt8)), walksF bStep l s = boundsP l s
  | [], s => by simp [walksF, boundsP]
  | x :: xs, s => by
    unfold walksF boundsP
    rw [boundP_walk x, boundsP_walk xs]
end
def BoJ (w0 : World) (B : Nat) (ls : List (List UInt8)) (r : Nat) (O : List Nat) (u : World) : Prop := ∃ (va : Option Addr) (m vc : Nat), u.heap[B]? = some (.cells #[.slice va m vc] 22 (0, 0)) ∧ u.ownsRow 0 9 1 (.slice va m vc) ls.length (ls.map sV) ∧ m = ls.length ∧ O = (Value.slice va m vc).ownBlock.toList ∧ w0.heap.size ≤ u.heap.size ∧ (∀ g ∈ O, w0.heap.size ≤ g) ∧ ls.length + r ≤ 200000
theorem BoJ.one {w0 : World} {B : Nat} {s : List (List UInt8)} {r : Nat} {O : List Nat} {u : World} (h : BoJ w0 B s r O u) : w0.heap.size ≤ u.heap.size ∧ ∀ g ∈ O, g < u.heap.size ∧ w0.heap.size ≤ g := by
  obtain ⟨va, m, vc, h1, h2, h3, rfl, h5, h6, h7⟩ := h
  exact ⟨h5, fun g hg => ⟨own_lt h2 g hg, h6 g hg⟩⟩
theorem BoJ.ext {w0 : World} {B : Nat} {s : List (List UInt8)} {r : Nat} {O : List Nat} {u u' : World} (h : BoJ w0 B s r O u) (hu : Upto [] u u') : BoJ w0 B s r O u' := by
  obtain ⟨va, m, vc, h1, h2, h3, h4, h5, h6, h7⟩ := h
  exact ⟨va, m, vc, hu.at h1 (by simp), ownsRow_upto h2 hu (by simp), h3, h4, Nat.le_trans h5 hu.size, h6, h7⟩
theorem BoJ.less {w0 : World} {B : Nat} {s : List (List UInt8)} {r r' : Nat} {O : List Nat} {u : World} (h : BoJ w0 B s r O u) (hr : r' ≤ r) : BoJ w0 B s r' O u := by
  obtain ⟨va, m, vc, h1, h2, h3, h4, h5, h6, h7⟩ := h
  exact ⟨va, m, vc, h1, h2, h3, h4, h5, h6, by omega⟩
def BoPost (w0 : World) (B : Nat) (O : List Nat) (s' : List (List UInt8)) (r : Nat) (u : World) (e : Ending) (w' : World) : Prop := e = .returned (.tuple #[]) ∧ ∃ O', Upto ([B] ++ O) u w' ∧ (∀ g ∈ O', g ∈ O ∨ u.heap.size ≤ g) ∧ ∀ r', r' + 1 ≤ r → BoJ w0 B s' r' O' w'
set_option maxRecDepth 100000 in
set_option maxHeartbeats 6400000 in
theorem bclos_calls (w0 : World) (B : Nat) (hB : B < w0.heap.size) (s : List (List UInt8)) (r : Nat) (O : List Nat) (w : World) (P : Nat → Prop) (nd : Nd) (v : Value) (hr : 1 ≤ r) (hJ : BoJ w0 B s r O w) (h : NdV w P nd v) : Calls Tryz.prog 56 #[v, .pointer (some ⟨B, 0, none⟩)] w (BoPost w0 B O (bStep s nd) r w) := by
  obtain ⟨op, nms, so, nn, mm, l⟩ := nd
  obtain ⟨a1, c1, a2, c2, rfl, hs, -⟩ := h.open
  obtain ⟨W, hW⟩ : ∃ W, W = w.alloc (.cells #[.int .i64 op, .slice a1 nms.length c1, .int .i64 so, .int .i64 nn, .int .i64 mm, .slice a2 l.length c2] 30) := ⟨_, rfl⟩
  have HU1 : Hid (Upto [] w W) := Lib.hid (by rw [hW]; exact (Upto.refl [] w).alloc _)
  have HB1 : Hid (W.heap[w.heap.size]? = some (.cells #[.int .i64 op, .slice a1 nms.length c1, .int .i64 so, .int .i64 nn, .int .i64 mm, .slice a2 l.length c2] 30 (0, 0))) := Lib.hid (by rw [hW]; exact new_at w _)
  have HSN := Lib.hid (fun u (hu : Upto [] w u) => hs.ext hu)
  have HBI := Lib.hid (fun u => binds_calls op a1 nms.length c1 so nn mm a2 l.length c2 u)
  have HNL : Hid (bindsF op nms.length = true → 0 < nms.length) := Lib.hid (fun hb => by unfold bindsF at hb; simp at hb; omega)
  have HND : Hid (0 < nms.length → nms[0]? = some (nms.headD [])) := Lib.hid (fun h0 => by cases nms with
    | nil => simp at h0
    | cons x r => rfl)
  have HE : Hid (bStep s (.mk op nms so nn mm l) = if bindsF op nms.length = true ∧ s.contains (nms.headD []) = false then s ++ [nms.headD []] else s) := Lib.hid rfl
  generalize bStep s (.mk op nms so nn mm l) = s' at *
  have HJ := Lib.hid hJ
  obtain ⟨va, m, vc, j1, j2, j3, j4, j5, j6, j7⟩ := hJ
  have HJB := Lib.hid (HU1.out.at j1 (by simp))
  have HJR := Lib.hid (ownsRow_upto j2 HU1.out (by simp))
  have HJM := Lib.hid j3
  have HJO := Lib.hid j4
  have HJL := Lib.hid j7
  have HJS := Lib.hid (And.intro hB (And.intro j5 j6))
  have HCO := Lib.hid (fun u (hu : Upto [] W u) (x : List UInt8) => containsS_calls s x (.slice va m vc) u (fun _ => True) (SlP.of_row (ownsRow_upto HJR.out hu (by simp)) (fun _ _ => trivial)) (by omega))
  generalize hbb : bindsF op nms.length = bb at *
  generalize hnm0 : nms.headD [] = nm at *
  obtain ⟨i0, hi0, hz0, hz1, hz2⟩ := info9'
  have HI0 := Lib.hid hi0
  have HZ0 := Lib.hid hz0
  have HZ1 := Lib.hid hz1
  have HZ2 := Lib.hid hz2
  generalize hnl : nms.length = nl at *
  have HNN := Lib.hid hnl
  generalize hll : l.length = ll at *
  have hm0 : (0 : Int) ≤ m := by omega
  have hm1 : (m : Int) ≤ 200000 := by omega
  have e0 : ∀ u : Ext W, u.w.cell? ⟨w.heap.size, 0, none⟩ = some (.int .i64 op) := fun u => u.cell (cell_of HB1.out 0)
  have e1 : ∀ u : Ext W, u.w.cell? ⟨w.heap.size, 1, none⟩ = some (.slice a1 nl c1) := fun u => u.cell (cell_of HB1.out 1)
  have e2 : ∀ u : Ext W, u.w.cell? ⟨w.heap.size, 2, none⟩ = some (.int .i64 so) := fun u => u.cell (cell_of HB1.out 2)
  have e3 : ∀ u : Ext W, u.w.cell? ⟨w.heap.size, 3, none⟩ = some (.int .i64 nn) := fun u => u.cell (cell_of HB1.out 3)
  have e4 : ∀ u : Ext W, u.w.cell? ⟨w.heap.size, 4, none⟩ = some (.int .i64 mm) := fun u => u.cell (cell_of HB1.out 4)
  have e5 : ∀ u : Ext W, u.w.cell? ⟨w.heap.size, 5, none⟩ = some (.slice a2 ll c2) := fun u => u.cell (cell_of HB1.out 5)
  have e6 : ∀ u : Ext W, u.w.cell? ⟨B, 0, none⟩ = some (.slice va m vc) := fun u => u.cell (cell_of HJB.out 0)
  clear h hs hbb hnm0 hnl hll j1 j2 j3 j4 j5 j6 j7 hB hi0 hz0 hz1 hz2
  go_enter Tryz.func56, Tryz.ntmps56
  go_wp2_with fail
  simp only [← hW]
  clear hW
  cases bb with
  | false =>
    have HS' : Hid (s' = s) := Lib.hid (by rw [HE.out]; simp)
    refine wp_region_seg_all [1, 8] [] [0, 1, 2, 3, 4, 5, 6, 7, 8, 9, 10] (by kernel_rfl) (by kernel_rfl) ?_
    with_reducible refine seg_plain (o := ?o1) ?hi1 ?hA1 ?hC1 ?hp1 ?hw1 ?h1
    case hi1 => rfl
    case hA1 => rfl
    case hC1 => rfl
    case hp1 => rfl
    case hw1 => kernel_rfl
    intro K' hK'
    go_big_quiet_op
    go_big_quiet_on
    refine seg_call (f := 57) (args := #[.agg #[.int .i64 op, .slice a1 nl c1, .int .i64 so, .int .i64 nn, .int .i64 mm, .slice a2 ll c2]]) (v := .bool false) rfl rfl rfl rfl (fun w => by go_simp) (fun w hu hd => HBI.out w) ?_
    simp only [Act.put, List.setIfInBounds_toArray, List.set_cons_zero, List.set_cons_succ]
    with_reducible refine seg_plain (o := ?o2) ?hi2 ?hA2 ?hC2 ?hp2 ?hw2 ?h2
    case hi2 => rfl
    case hA2 => rfl
    case hC2 => rfl
    case hp2 => rfl
    case hw2 => kernel_rfl
    intro K' hK'
    go_big_quiet_op
    go_big_quiet_on
    with_reducible refine seg_skip (o := ?o3) ?hi3 ?hw3 ?h3
    case hi3 => rfl
    case hw3 => kernel_rfl
    simp only [Act.put, List.setIfInBounds_toArray, List.set_cons_zero, List.set_cons_succ]
    with_reducible refine seg_skip (o := ?o4) ?hi4 ?hw4 ?h4
    case hi4 => rfl
    case hw4 => kernel_rfl
    simp only [Act.put, List.setIfInBounds_toArray, List.set_cons_zero, List.set_cons_succ]
    with_reducible refine seg_skip (o := ?o5) ?hi5 ?hw5 ?h5
    case hi5 => rfl
    case hw5 => kernel_rfl
    simp only [Act.put, List.setIfInBounds_toArray, List.set_cons_zero, List.set_cons_succ]
    with_reducible refine seg_skip (o := ?o6) ?hi6 ?hw6 ?h6
    case hi6 => rfl
    case hw6 => kernel_rfl
    simp only [Act.put, List.setIfInBounds_toArray, List.set_cons_zero, List.set_cons_succ]
    with_reducible refine seg_skip (o := ?o7) ?hi7 ?hw7 ?h7
    case hi7 => rfl
    case hw7 => kernel_rfl
    simp only [Act.put, List.setIfInBounds_toArray, List.set_cons_zero, List.set_cons_succ]
    with_reducible refine seg_skip (o := ?o8) ?hi8 ?hw8 ?h8
    case hi8 => rfl
    case hw8 => kernel_rfl
    simp only [Act.put, List.setIfInBounds_toArray, List.set_cons_zero, List.set_cons_succ]
    with_reducible refine seg_skip (o := ?o9) ?hi9 ?hw9 ?h9
    case hi9 => rfl
    case hw9 => kernel_rfl
    simp only [Act.put, List.setIfInBounds_toArray, List.set_cons_zero, List.set_cons_succ]
    with_reducible refine seg_plain (o := ?o10) ?hi10 ?hA10 ?hC10 ?hp10 ?hw10 ?h10
    case hi10 => rfl
    case hA10 => rfl
    case hC10 => rfl
    case hp10 => rfl
    case hw10 => kernel_rfl
    intro K' hK'
    go_big_quiet_op
    go_big_quiet_on
    intro w9 hg
    have HU9 := Lib.hid (HU1.out.trans_ext hg.up)
    clear hg e0 e1 e2 e3 e4 e5 e6
    go_wp2_with fail
    refine bodyPost_end (v := .tuple #[]) (by simp [results, Tryz.results56, go_sem]) rfl ⟨rfl, O, HU9.out.mono (by simp), fun g hg => Or.inl hg, fun r' hr' => ?_⟩
    rw [HS'.out]
    exact (HJ.out.ext HU9.out).less (by omega)
  | true =>
    have hnl0 := HNL.out rfl
    have hnl1 : (0 : Int) < nl := by omega
    obtain ⟨gn, on, rfl, hcn⟩ := slp_cell (HSN.out W HU1.out) HNN.out 0 nm (HND.out hnl0)
    have e7 : ∀ u : Ext W, u.w.cell? ⟨gn, on, none⟩ = some (.string ⟨nm.toArray⟩) := fun u => hcn u.w u.up
    cases hcn0 : s.contains nm with
    | true =>
      have HS' : Hid (s' = s) := Lib.hid (by rw [HE.out, hcn0]; simp)
      refine wp_region_seg_all [1, 8] [] [0, 1, 2, 3, 4, 5, 6, 7, 8, 9, 10] (by kernel_rfl) (by kernel_rfl) ?_
      with_reducible refine seg_plain (o := ?o11) ?hi11 ?hA11 ?hC11 ?hp11 ?hw11 ?h11
      case hi11 => rfl
      case hA11 => rfl
      case hC11 => rfl
      case hp11 => rfl
      case hw11 => kernel_rfl
      intro K' hK'
      go_big_quiet_op
      go_big_quiet_on
      refine seg_call (f := 57) (args := #[.agg #[.int .i64 op, .slice (some ⟨gn, on, none⟩) nl c1, .int .i64 so, .int .i64 nn, .int .i64 mm, .slice a2 ll c2]]) (v := .bool true) rfl rfl rfl rfl (fun w => by go_simp) (fun w hu hd => HBI.out w) ?_
      simp only [Act.put, List.setIfInBounds_toArray, List.set_cons_zero, List.set_cons_succ]
      with_reducible refine seg_plain (o := ?o12) ?hi12 ?hA12 ?hC12 ?hp12 ?hw12 ?h12
      case hi12 => rfl
      case hA12 => rfl
      case hC12 => rfl
      case hp12 => rfl
      case hw12 => kernel_rfl
      intro K' hK'
      go_big_quiet_op
      go_big_quiet_on
      with_reducible refine seg_plain (o := ?o13) ?hi13 ?hA13 ?hC13 ?hp13 ?hw13 ?h13
      case hi13 => rfl
      case hA13 => rfl
      case hC13 => rfl
      case hp13 => rfl
      case hw13 => kernel_rfl
      intro K' hK'
      go_big_quiet_op
      go_big_quiet_on
      with_reducible refine seg_plain (o := ?o14) ?hi14 ?hA14 ?hC14 ?hp14 ?hw14 ?h14
      case hi14 => rfl
      case hA14 => rfl
      case hC14 => rfl
      case hp14 => rfl
      case hw14 => kernel_rfl
      intro K' hK'
      go_big_quiet_op
      go_big_quiet_on
      with_reducible refine seg_plain (o := ?o15) ?hi15 ?hA15 ?hC15 ?hp15 ?hw15 ?h15
      case hi15 => rfl
      case hA15 => rfl
      case hC15 => rfl
      case hp15 => rfl
      case hw15 => kernel_rfl
      intro K' hK'
      go_big_quiet_op
      go_big_quiet_on
      with_reducible refine seg_plain (o := ?o16) ?hi16 ?hA16 ?hC16 ?hp16 ?hw16 ?h16
      case hi16 => rfl
      case hA16 => rfl
      case hC16 => rfl
      case hp16 => rfl
      case hw16 => kernel_rfl
      intro K' hK'
      go_big_quiet_op
      go_big_quiet_on
      with_reducible refine seg_plain (o := ?o17) ?hi17 ?hA17 ?hC17 ?hp17 ?hw17 ?h17
      case hi17 => rfl
      case hA17 => rfl
      case hC17 => rfl
      case hp17 => rfl
      case hw17 => kernel_rfl
      intro K' hK'
      go_big_quiet_op
      go_big_quiet_on
      with_reducible refine seg_call (o := ?o18) (f := 52) (args := #[.slice va m vc, .string ⟨nm.toArray⟩]) (v := .bool true) ?hi18 ?hA18 ?hC18 ?hw18 ?hr18 (fun w hu hd => (HCO.out w hu nm).mono fun e w' hh => ⟨by rw [hh.1, hcn0], hh.2 ▸ Upto.refl _ _⟩) ?h18
      case hi18 => rfl
      case hA18 => rfl
      case hC18 => rfl
      case hw18 => kernel_rfl
      case hr18 => exact fun w => by go_simp
      simp only [Act.put, List.setIfInBounds_toArray, List.set_cons_zero, List.set_cons_succ]
      with_reducible refine seg_plain (o := ?o19) ?hi19 ?hA19 ?hC19 ?hp19 ?hw19 ?h19
      case hi19 => rfl
      case hA19 => rfl
      case hC19 => rfl
      case hp19 => rfl
      case hw19 => kernel_rfl
      intro K' hK'
      go_big_quiet_op
      go_big_quiet_on
      with_reducible refine seg_plain (o := ?o20) ?hi20 ?hA20 ?hC20 ?hp20 ?hw20 ?h20
      case hi20 => rfl
      case hA20 => rfl
      case hC20 => rfl
      case hp20 => rfl
      case hw20 => kernel_rfl
      intro K' hK'
      go_big_quiet_op
      go_big_quiet_on
      intro w9 hg
      have HU9 := Lib.hid (HU1.out.trans_ext hg.up)
      clear hg e0 e1 e2 e3 e4 e5 e6 e7 hcn hcn0
      go_wp2_with fail
      refine bodyPost_end (v := .tuple #[]) (by simp [results, Tryz.results56, go_sem]) rfl ⟨rfl, O, HU9.out.mono (by simp), fun g hg => Or.inl hg, fun r' hr' => ?_⟩
      rw [HS'.out]
      exact (HJ.out.ext HU9.out).less (by omega)
    | false =>
      have HS' : Hid (s' = s ++ [nm]) := Lib.hid (by rw [HE.out, hcn0]; simp)
      refine wp_region_seg_all [1, 8] [] [0, 1, 2, 3, 4, 5, 6, 7, 8, 9, 10] (by kernel_rfl) (by kernel_rfl) ?_
      with_reducible refine seg_plain (o := ?o21) ?hi21 ?hA21 ?hC21 ?hp21 ?hw21 ?h21
      case hi21 => rfl
      case hA21 => rfl
      case hC21 => rfl
      case hp21 => rfl
      case hw21 => kernel_rfl
      intro K' hK'
      go_big_quiet_op
      go_big_quiet_on
      refine seg_call (f := 57) (args := #[.agg #[.int .i64 op, .slice (some ⟨gn, on, none⟩) nl c1, .int .i64 so, .int .i64 nn, .int .i64 mm, .slice a2 ll c2]]) (v := .bool true) rfl rfl rfl rfl (fun w => by go_simp) (fun w hu hd => HBI.out w) ?_
      simp only [Act.put, List.setIfInBounds_toArray, List.set_cons_zero, List.set_cons_succ]
      with_reducible refine seg_plain (o := ?o22) ?hi22 ?hA22 ?hC22 ?hp22 ?hw22 ?h22
      case hi22 => rfl
      case hA22 => rfl
      case hC22 => rfl
      case hp22 => rfl
      case hw22 => kernel_rfl
      intro K' hK'
      go_big_quiet_op
      go_big_quiet_on
      with_reducible refine seg_plain (o := ?o23) ?hi23 ?hA23 ?hC23 ?hp23 ?hw23 ?h23
      case hi23 => rfl
      case hA23 => rfl
      case hC23 => rfl
      case hp23 => rfl
      case hw23 => kernel_rfl
      intro K' hK'
      go_big_quiet_op
      go_big_quiet_on
      with_reducible refine seg_plain (o := ?o24) ?hi24 ?hA24 ?hC24 ?hp24 ?hw24 ?h24
      case hi24 => rfl
      case hA24 => rfl
      case hC24 => rfl
      case hp24 => rfl
      case hw24 => kernel_rfl
      intro K' hK'
      go_big_quiet_op
      go_big_quiet_on
      with_reducible refine seg_plain (o := ?o25) ?hi25 ?hA25 ?hC25 ?hp25 ?hw25 ?h25
      case hi25 => rfl
      case hA25 => rfl
      case hC25 => rfl
      case hp25 => rfl
      case hw25 => kernel_rfl
      intro K' hK'
      go_big_quiet_op
      go_big_quiet_on
      with_reducible refine seg_plain (o := ?o26) ?hi26 ?hA26 ?hC26 ?hp26 ?hw26 ?h26
      case hi26 => rfl
      case hA26 => rfl
      case hC26 => rfl
      case hp26 => rfl
      case hw26 => kernel_rfl
      intro K' hK'
      go_big_quiet_op
      go_big_quiet_on
      with_reducible refine seg_plain (o := ?o27) ?hi27 ?hA27 ?hC27 ?hp27 ?hw27 ?h27
      case hi27 => rfl
      case hA27 => rfl
      case hC27 => rfl
      case hp27 => rfl
      case hw27 => kernel_rfl
      intro K' hK'
      go_big_quiet_op
      go_big_quiet_on
      with_reducible refine seg_call (o := ?o28) (f := 52) (args := #[.slice va m vc, .string ⟨nm.toArray⟩]) (v := .bool false) ?hi28 ?hA28 ?hC28 ?hw28 ?hr28 (fun w hu hd => (HCO.out w hu nm).mono fun e w' hh => ⟨by rw [hh.1, hcn0], hh.2 ▸ Upto.refl _ _⟩) ?h28
      case hi28 => rfl
      case hA28 => rfl
      case hC28 => rfl
      case hw28 => kernel_rfl
      case hr28 => exact fun w => by go_simp
      simp only [Act.put, List.setIfInBounds_toArray, List.set_cons_zero, List.set_cons_succ]
      with_reducible refine seg_plain (o := ?o29) ?hi29 ?hA29 ?hC29 ?hp29 ?hw29 ?h29
      case hi29 => rfl
      case hA29 => rfl
      case hC29 => rfl
      case hp29 => rfl
      case hw29 => kernel_rfl
      intro K' hK'
      go_big_quiet_op
      go_big_quiet_on
      with_reducible refine seg_plain (o := ?o30) ?hi30 ?hA30 ?hC30 ?hp30 ?hw30 ?h30
      case hi30 => rfl
      case hA30 => rfl
      case hC30 => rfl
      case hp30 => rfl
      case hw30 => kernel_rfl
      intro K' hK'
      go_big_quiet_op
      go_big_quiet_on
      intro w9 hg
      have HU9 := Lib.hid hg.up
      have HBX := Lib.hid (hg.up.at HB1.out (by simp))
      have HBY := Lib.hid (hg.up.at HJB.out (by simp))
      have e7 : ∀ u : Ext w9, u.w.cell? ⟨gn, on, none⟩ = some (.string ⟨nm.toArray⟩) := fun u => hcn u.w (HU9.out.trans_ext u.up)
      clear hg e0 e1 e2 e3 e4 e5 e6 hcn hcn0
      have e1 : ∀ u : Ext w9, u.w.cell? ⟨w.heap.size, 1, none⟩ = some (.slice (some ⟨gn, on, none⟩) nl c1) := fun u => u.cell (cell_of HBX.out 1)
      have e6 : ∀ u : Ext w9, u.w.cell? ⟨B, 0, none⟩ = some (.slice va m vc) := fun u => u.cell (cell_of HBY.out 0)
      go_wp2_with fail
      refine wp_region_seg_at [] [5] [0, 1, 2, 3, 4, 5] [6, 7] 6 (by kernel_rfl) (by kernel_rfl) (by kernel_rfl) ?_
      with_reducible refine seg_plain (o := ?o31) ?hi31 ?hA31 ?hC31 ?hp31 ?hw31 ?h31
      case hi31 => rfl
      case hA31 => rfl
      case hC31 => rfl
      case hp31 => rfl
      case hw31 => kernel_rfl
      intro K' hK'
      go_big_quiet_op
      go_big_quiet_on
      with_reducible refine seg_plain (o := ?o32) ?hi32 ?hA32 ?hC32 ?hp32 ?hw32 ?h32
      case hi32 => rfl
      case hA32 => rfl
      case hC32 => rfl
      case hp32 => rfl
      case hw32 => kernel_rfl
      intro K' hK'
      go_big_quiet_op
      go_big_quiet_on
      with_reducible refine seg_plain (o := ?o33) ?hi33 ?hA33 ?hC33 ?hp33 ?hw33 ?h33
      case hi33 => rfl
      case hA33 => rfl
      case hC33 => rfl
      case hp33 => rfl
      case hw33 => kernel_rfl
      intro K' hK'
      go_big_quiet_op
      go_big_quiet_on
      with_reducible refine seg_plain (o := ?o34) ?hi34 ?hA34 ?hC34 ?hp34 ?hw34 ?h34
      case hi34 => rfl
      case hA34 => rfl
      case hC34 => rfl
      case hp34 => rfl
      case hw34 => kernel_rfl
      intro K' hK'
      go_big_quiet_op
      go_big_quiet_on
      with_reducible refine seg_plain (o := ?o35) ?hi35 ?hA35 ?hC35 ?hp35 ?hw35 ?h35
      case hi35 => rfl
      case hA35 => rfl
      case hC35 => rfl
      case hp35 => rfl
      case hw35 => kernel_rfl
      intro K' hK'
      go_big_quiet_op
      go_big_quiet_on
      refine seg_made (.cells #[.string ⟨nm.toArray⟩] 9) (fun b => .slice (some ⟨b, 0, none⟩) 1 1) rfl rfl rfl (fun w => by go_simp) ?_
      intro b8
      simp only [Act.put, List.setIfInBounds_toArray, List.set_cons_zero, List.set_cons_succ]
      intro wA hg
      have HUA := Lib.hid hg.up
      have HB8 : Hid (wA.heap[b8]? = some (.cells #[.string ⟨nm.toArray⟩] 9 (0, 0))) := Lib.hid hg.hold.1
      have HRA := Lib.hid (ownsRow_upto HJR.out (HU9.out.trans_ext HUA.out) (by simp))
      simp only [List.drop_succ_cons, List.drop_zero]
      have hrow := HRA.out
      rw [← HJM.out] at hrow
      have hsrc := cells_at (l := [sV nm]) HB8.out
      clear hg e1 e6 e7
      go_wp2_with (at_builtin; refine wpList_app _ rfl (.tmp 14) (.tmp 19) 22 rfl 9 i0 (.string ⟨#[]⟩) 1 16 Tryz.underlying22 HI0.out HZ0.out HZ1.out HZ2.out rfl (by decide) (.slice va m vc) m _ rfl hrow ⟨b8, 0, none⟩ 1 1 [sV nm] rfl rfl hsrc (by simp [Value.oneCell', sV]) (by unfold maxLen; omega) (by omega) ?_; intro vb vd w5 ho5 hu5 hw5; have HO5 := Lib.hid (And.intro ho5 (And.intro hu5 hw5)); have HBN : Hid (B ∉ (Value.slice va m vc).ownBlock.toList) := Lib.hid (fun hm => by have h1 := HJS.out.2.2 B (by rw [HJO.out]; exact hm); have h2 := HJS.out.1; omega); have HB5 := Lib.hid (hu5.at (HUA.out.at HBY.out (by simp)) HBN.out); have y0 := cell_of HB5.out 0; have f0 := free_of HB5.out 0; simp only [List.getElem?_toArray, List.getElem?_cons_zero] at y0; clear hrow hsrc ho5 hu5 hw5)
      have hst := set_same HB5.out 0 (.slice vb (m + 1) vd)
      simp only [List.setIfInBounds_toArray, List.set_cons_zero] at hst
      have hself : Upto [B] w5 (w5.setCell ⟨B, 0, none⟩ (.slice vb (m + 1) vd)) := (Upto.refl [B] w5).setCell (Or.inl (by simp)) _
      have hA : Upto O w w5 := ((HU1.out.trans_ext (HU9.out.trans_ext HUA.out)).mono (by simp)).trans HO5.out.2.1 (fun k hk => Or.inl (by rw [HJO.out]; exact hk))
      have hwh : ∀ g, (Value.slice vb (m + 1) vd).ownBlock = some g → g ∈ O ∨ w.heap.size ≤ g := fun g hg => (HO5.out.2.2 g hg).imp (fun h1 => by rw [HJO.out]; exact Option.mem_toList.2 h1) (fun h1 => Nat.le_trans (HU1.out.trans_ext (HU9.out.trans_ext HUA.out)).size h1)
      have hBne : ∀ g, (Value.slice vb (m + 1) vd).ownBlock = some g → g ∉ [B] := fun g hg hm => by
        have hB2 := HJS.out.1
        have hB3 := HJS.out.2.1
        simp at hm
        rcases hwh g hg with h1 | h1
        · have := HJS.out.2.2 g h1; omega
        · omega
      refine bodyPost_end (v := .tuple #[]) (by simp [results, Tryz.results56, go_sem]) rfl ⟨rfl, (Value.slice vb (m + 1) vd).ownBlock.toList, ?_, fun g hg => hwh g (Option.mem_toList.1 hg), fun r' hr' => ?_⟩
      · exact (hA.mono (fun k hk => by simp [hk])).trans hself (fun k hk => Or.inl (by simp at hk; simp [hk]))
      · rw [HS'.out]
        refine ⟨vb, m + 1, vd, hst, ?_, by rw [List.length_append, HJM.out]; rfl, rfl, ?_, fun g hg => ?_, ?_⟩
        · have h1 := ownsRow_upto HO5.out.1 hself hBne
          rw [List.length_append, List.map_append, ← HJM.out]
          exact h1
        · exact Nat.le_trans HJS.out.2.1 (Nat.le_trans hA.size hself.size)
        · rcases hwh g (Option.mem_toList.1 hg) with h1 | h1
          · exact HJS.out.2.2 g h1
          · exact Nat.le_trans HJS.out.2.1 h1
        · have := HJL.out
          rw [List.length_append]
          simp
          omega
set_option maxRecDepth 100000 in
set_option maxHeartbeats 3200000 in
theorem Bound_calls (nd : Nd) (v : Value) (w : World) (P : Nat → Prop) (h : NdV w P nd v) (hk : sizeF nd ≤ 100000) (hg : goodN nd) : Calls Tryz.prog 20 #[v] w (FqPost w (boundP nd [])) := by
  obtain ⟨op, a1, n1, c1, so, nn, mm, a2, n2, c2, rfl⟩ := h.six
  obtain ⟨W, hW⟩ : ∃ W, W = (w.alloc (.cells #[.int .i64 op, .slice a1 n1 c1, .int .i64 so, .int .i64 nn, .int .i64 mm, .slice a2 n2 c2] 30)).alloc (.cells #[.slice none 0 0] 22) := ⟨_, rfl⟩
  have HU1 : Hid (Upto [] w W) := Lib.hid (by rw [hW]; exact ((Upto.refl [] w).alloc _).alloc _)
  have HB1 : Hid (W.heap[w.heap.size]? = some (.cells #[.int .i64 op, .slice a1 n1 c1, .int .i64 so, .int .i64 nn, .int .i64 mm, .slice a2 n2 c2] 30 (0, 0))) := Lib.hid (by rw [hW]; exact alloc_old (new_at w _) _)
  have HB2 : Hid (W.heap[w.heap.size + 1]? = some (.cells #[.slice none 0 0] 22 (0, 0))) := Lib.hid (by rw [hW]; exact new_at1 w _ _)
  have HLT := Lib.hid (lt_of_heap HB2.out)
  have HW := Lib.hid (walkB_calls (.pointer (some ⟨w.heap.size + 1, 0, none⟩)) bStep W [w.heap.size + 1] (fun b => b < w.heap.size) (BoJ W (w.heap.size + 1)) (fun b hb => ⟨Nat.lt_of_lt_of_le hb HU1.out.size, by simp; omega⟩) (fun g hg => by simp at hg; subst hg; exact HLT.out)
    (fun _ _ _ _ hJ => hJ.one) (fun _ _ _ _ _ hJ hu => hJ.ext hu) (fun s r O u x v hJ _ hv => bclos_calls W (w.heap.size + 1) HLT.out s (r + sizeF x) O u _ x v (by have := sizeF_pos x; omega) hJ hv)
    100000 nd hk (by omega) hg _ [] 0 [] W ⟨none, 0, 0, HB2.out, by simpa using World.ownsRow_nil W 0 9 1, rfl, rfl, Nat.le_refl _, by simp, by simp; omega⟩ (h.here.ext HU1.out))
  obtain ⟨x0, x1, x2, x3, x4, x5⟩ := cells6 HB1.out
  clear h
  go_enter Tryz.func20, Tryz.ntmps20
  go_wp2_with fail
  simp only [← hW]
  clear hW
  try go_wp2_with fail
  refine HW.out.mono ?_
  rintro e w2 ⟨rfl, O', hj, hu, -⟩
  rw [boundP_walk] at hj
  obtain ⟨va, m, vc, j1, j2, j3, j4, j5, j6, j7⟩ := hj
  have HU2 : Hid (Upto [] w w2) := Lib.hid (HU1.out.trans hu (fun k hk => Or.inr (by simp at hk; omega)))
  have HS : Hid (RowW w (boundP nd []) (.slice va m vc) w2) := Lib.hid ⟨SlP.of_row j2 (fun g hg => Nat.le_trans HU1.out.size (j6 g (by rw [j4]; exact Option.mem_toList.2 hg))), HU2.out⟩
  have z0 := cell_of j1 0
  simp only [List.getElem?_toArray, List.getElem?_cons_zero] at z0
  clear j1 j2 j3 j4 j5 j6 j7 hu x0 x1 x2 x3 x4 x5
  go_wp2_with fail
  go_ret
  exact ⟨_, rfl, HS.out⟩
end Go.Proofs.YtbnebkkpmcjmbaaGreatDoor
namespace Go.Proofs.YtbnebkkpmcjmbaaGreatDoor
open Go.RowKit Go.PL Go.Maps
open Go.Lib (decDigits decDigits_one)
def PowT (w : World) : Prop := Lib.TabIs Tryz.prog w "internal/strconv.uint64pow10" .u64 Lib.pow10Tab
theorem PowT.ext {w w' : World} (h : PowT w) (hu : Upto [] w w') : PowT w' := Lib.tabBelow_of_tabIs h w' hu.ext
theorem itoaG_calls (n : Nat) (h : n < 10000) (w : World) (ht : PowT w) : Calls Tryz.prog 53 #[.int .i64 n] w fun e w' => e = .returned (.string ⟨(decDigits n).toArray⟩) ∧ Upto [] w w' :=
  (Tryz.strconv_Itoa n (by omega) (by omega) w ht).mono fun e w' ⟨h1, k, os, h2⟩ => ⟨by rw [h1, Lib.itoa_nonneg], by rw [h2]; exact Upto.of_below (Lib.below_grow _ _ (Nat.le_refl _) _ _)⟩
theorem decDigits_len (j : Nat) (h : j < 10000) : 1 ≤ (decDigits j).length ∧ (decDigits j).length ≤ 4 := by
  obtain ⟨b, t, e, ht, -⟩ := decDigits_dig 3 j (by omega)
  rw [e]
  simp
  omega
theorem candG_get (s : List UInt8) (j d : Nat) (hd : (decDigits j).length = d) (_hs : s.length ≤ 16) : candG s j = s.take (min s.length (16 - d)) ++ decDigits j := by
  unfold candG
  rw [hd]
  congr 1
  rcases Nat.le_total s.length (16 - d) with h | h
  · rw [Nat.min_eq_left h, List.take_of_length_le h, List.take_of_length_le (Nat.le_refl _)]
  · rw [Nat.min_eq_right h]
theorem freshG_end {s o : List UInt8} {tk : List (List UInt8)} {K j : Nat} (hK : K = freeFromG s tk 9998 2) (hn : nameF s = true) (hc : tk.contains o = false) (hsp : ∀ k, 2 ≤ k → k < K → tk.contains (candG s k) = true)
    (h : (j = 2 ∧ o = s) ∨ (2 < j ∧ o = candG s (j - 1) ∧ tk.contains s = true ∧ j - 1 ≤ K)) : freshG s tk = o := by
  have e1 : ¬ nameF s = false := by rw [hn]; simp
  unfold freshG
  rw [if_neg e1, ← hK]
  rcases h with ⟨h1, h2⟩ | ⟨h1, h2, h3, h4⟩
  · rw [h2] at hc
    rw [if_pos hc, h2]
  · have e2 : ¬ tk.contains s = false := by rw [h3]; simp
    rw [if_neg e2, h2]
    rcases Nat.eq_or_lt_of_le h4 with h5 | h5
    · rw [h5]
    · have := hsp (j - 1) (by omega) h5
      rw [← h2, hc] at this
      cases this
set_option maxRecDepth 100000 in
set_option maxHeartbeats 3200000 in
theorem freshPG_calls (s : List UInt8) (tk : List (List UInt8)) (v : Value) (w : World) (P : Nat → Prop) (h : SlP w P v tk.length (tk.map sV)) (hl : tk.length ≤ 8000) (hs : s.length ≤ 281474976710656) (he : Env w) (ht : PowT w) : Calls Tryz.prog 18 #[.string ⟨s.toArray⟩, v] w fun e w' => e = .returned (.string ⟨(freshG s tk).toArray⟩) ∧ Upto [] w w' := by
  have HID := Lib.hid (fun (x : List UInt8) (u : World) (hu : Upto [] w u) (hx : x.length ≤ 281474976710656) => isIdent_calls x u (he.ext hu) hx)
  have HCO := Lib.hid (fun (x : List UInt8) (u : World) (hu : Upto [] w u) => containsS_calls tk x v u P (h.ext hu) (by omega))
  have HPT := Lib.hid ht
  have HF0 := freeFromG_spec s tk 9998 2
  have HK0 := freeG_lt s tk hl
  have HI0 := freeG_is s tk hl
  have HFE0 := fun (o : List UInt8) (j : Nat) (hn : nameF s = true) (hc : tk.contains o = false) => freshG_end (o := o) (j := j) rfl hn hc HF0.2.2.1
  generalize freeFromG s tk 9998 2 = K at *
  have HF := Lib.hid (And.intro HF0.1 HF0.2.2.1)
  have HK := Lib.hid HK0
  have HI := Lib.hid HI0
  have HFE := Lib.hid HFE0
  have HFN := Lib.hid (fun hn : nameF s = false => freshG_no (tk := tk) hn)
  generalize freshG s tk = R at *
  clear HF0 HK0 HI0 HFE0
  obtain ⟨a, c, rfl⟩ := h.len
  cases hn : nameF s with
  | false =>
    have HE : Hid (R = []) := Lib.hid (HFN.out hn)
    have HN : Hid (identF s = false) := Lib.hid (by rw [ident_is]; exact hn)
    clear h
    go_enter Tryz.func18, Tryz.ntmps18
    go_wp2_with fail
    refine (HID.out s _ (Upto.refl _ _) hs).mono ?_
    rintro e w1 ⟨rfl, hu1⟩
    rw [HN.out]
    have HU := Lib.hid hu1
    clear hu1
    go_wp2_with fail
    go_ret
    exact ⟨by rw [HE.out]; rfl, HU.out⟩
  | true =>
    have HN : Hid (identF s = true) := Lib.hid (by rw [ident_is]; exact hn)
    have HNN := Lib.hid hn
    obtain ⟨b, t, -, -, -, hl16⟩ := name_parts hn
    clear h b t hn
    generalize hS : s = s0 at *
    go_enter Tryz.func18, Tryz.ntmps18
    go_wp2_with fail
    refine (HID.out s0 _ (Upto.refl _ _) hs).mono ?_
    rintro e w1 ⟨rfl, hu1⟩
    rw [HN.out]
    have HU := Lib.hid hu1
    clear hu1
    go_wp2_with fail
    obtain ⟨M, hM⟩ : ∃ M : Nat, M = 20000 := ⟨_, rfl⟩
    have HM := Lib.hid hM
    clear hM
    go_loopw [5, 6] (fun vo vi wr => ∃ (j : Nat) (o : List UInt8), vo = .string ⟨o.toArray⟩ ∧ vi = .int .i64 j ∧ Hid (2 ≤ j ∧ ((j = 2 ∧ o = s0) ∨ (2 < j ∧ o = candG s0 (j - 1) ∧ tk.contains s0 = true ∧ j - 1 ≤ K)) ∧ Upto [] w wr)) (fun _ vi _ => M - (intOf vi).toNat)
    case atStart => exact ⟨2, s0, rfl, rfl, Lib.hid ⟨Nat.le_refl _, Or.inl ⟨rfl, rfl⟩, HU.out⟩⟩
    case round =>
      obtain ⟨j, o, rfl, rfl, HJ⟩ := hrel
      have HOL : Hid (o.length ≤ 16 ∧ nameF o = true ∧ j < 10001) := Lib.hid (by
        rcases HJ.out.2.1 with ⟨h1, rfl⟩ | ⟨h1, rfl, -, h2⟩
        · exact ⟨hl16, HNN.out, by omega⟩
        · have hc := candG_name s0 HNN.out (j - 1) (by have := HK.out; omega)
          obtain ⟨b, t, -, -, -, h3⟩ := name_parts hc
          exact ⟨h3, hc, by have := HK.out; omega⟩)
      go_wp2_with fail
      refine (HCO.out o _ HJ.out.2.2).mono ?_
      rintro e w2 ⟨rfl, rfl⟩
      cases hc : tk.contains o with
      | true =>
        have hjK : Hid (j ≤ K ∧ j < 10000 ∧ tk.contains s0 = true) := Lib.hid (by
          rcases HJ.out.2.1 with ⟨h1, h2⟩ | ⟨h1, h2, h3, h4⟩
          · rw [h2] at hc
            exact ⟨by have := HF.out.1; omega, by omega, hc⟩
          · rcases Nat.eq_or_lt_of_le h4 with h5 | h5
            · rw [h2, h5, HI.out] at hc
              cases hc
            · exact ⟨by omega, by have := HK.out; omega, h3⟩)
        have hd := decDigits_len j hjK.out.2.1
        have HIT := Lib.hid (fun u (hu : Upto [] w u) => itoaG_calls j hjK.out.2.1 u (HPT.out.ext hu))
        have HCG := Lib.hid (candG_get s0 j _ rfl hl16)
        have HJ2 := HJ.out.1
        clear hc
        go_wp2_with fail
        refine (HIT.out _ HJ.out.2.2).mono ?_
        rintro e w3 ⟨rfl, hu3⟩
        have HU3 := Lib.hid hu3
        clear hu3
        generalize hD : decDigits j = D at *
        have hDl0 : (D.length : Int) ≤ 4 := by omega
        have hDl1 : (1 : Int) ≤ D.length := by omega
        have hsl : (s0.length : Int) ≤ 16 := by omega
        go_wp2_with fail
        have hj100 := hjK.out.2.1
        have hw : wrap64 ((j : Int) + 1) = ((j + 1 : Nat) : Int) := by unfold wrap64; omega
        refine ⟨⟨j + 1, candG s0 j, ?_, by rw [hw], Lib.hid ⟨by omega, Or.inr ⟨by omega, by rw [Nat.add_sub_cancel], hjK.out.2.2, by rw [Nat.add_sub_cancel]; exact hjK.out.1⟩, HJ.out.2.2.trans_ext HU3.out⟩⟩, ?_⟩
        · have he := ext_to (s := s0) 0 (min s0.length (16 - D.length))
          rw [Nat.zero_add, List.drop_zero] at he
          rw [show (min (↑s0.length) (16 - (D.length : Int))).toNat = min s0.length (16 - D.length) by omega, he, ← byte_app, ← HCG.out]
        · exact meas_up (by have := HM.out; omega) hw
      | false =>
        have HE : Hid (R = o) := Lib.hid (HFE.out o j HNN.out hc HJ.out.2.1)
        have HNO : Hid (identF o = true) := Lib.hid (by rw [ident_is]; exact HOL.out.2.1)
        have HOI := Lib.hid (HID.out o w2 HJ.out.2.2 (by have := HOL.out.1; omega))
        clear hc
        go_wp2_with fail
        refine HOI.out.mono ?_
        rintro e w3 ⟨rfl, hu3⟩
        rw [HNO.out]
        have HU3 := Lib.hid hu3
        clear hu3
        go_wp2_with fail
        go_ret
        exact ⟨by rw [HE.out]; rfl, HJ.out.2.2.trans_ext HU3.out⟩
end Go.Proofs.YtbnebkkpmcjmbaaGreatDoor
namespace Go.Proofs.YtbnebkkpmcjmbaaGreatDoor
open Go.RowKit Go.PL Go.Maps
set_option maxRecDepth 100000 in
set_option maxHeartbeats 3200000 in
theorem FreeT_calls (nd : Nd) (v : Value) (w : World) (P : Nat → Prop) (h : NdV w P nd v) (hk : sizeF nd ≤ 100000) (hg : goodN nd) (hn : nmsF nd ≤ 200000) : Calls Tryz.prog 19 #[v] w (fun e w' => ∃ v, e = .returned v ∧ TxI w (freeP nd [] []) v w') := by
  obtain ⟨op, a1, n1, c1, so, nn, mm, a2, n2, c2, rfl⟩ := h.six
  obtain ⟨W, hW⟩ : ∃ W, W = w.alloc (.cells #[.int .i64 op, .slice a1 n1 c1, .int .i64 so, .int .i64 nn, .int .i64 mm, .slice a2 n2 c2] 30) := ⟨_, rfl⟩
  have HU1 : Hid (Upto [] w W) := Lib.hid (by rw [hW]; exact (Upto.refl [] w).alloc _)
  have HB1 : Hid (W.heap[w.heap.size]? = some (.cells #[.int .i64 op, .slice a1 n1 c1, .int .i64 so, .int .i64 nn, .int .i64 mm, .slice a2 n2 c2] 30 (0, 0))) := Lib.hid (by rw [hW]; exact new_at w _)
  have HF := Lib.hid (free_calls 100000 nd hk (by omega) hg _ W _ (h.ext HU1.out).here (fun _ => False) [] (.slice none 0 0) SlP.nil [] (.slice none 0 0) (by simpa using World.ownsRow_nil W 0 9 1) (fun b hb => ⟨hb, by simp [Value.ownBlock]⟩) (fun b hb => hb.elim) (by simp; omega) (by simp; omega))
  obtain ⟨x0, x1, x2, x3, x4, x5⟩ := cells6 HB1.out
  clear h
  go_enter Tryz.func19, Tryz.ntmps19
  go_wp2_with fail
  simp only [← hW]
  clear hW
  go_wp2_with fail
  refine HF.out.mono ?_
  rintro e w2 ⟨v2, rfl, ho⟩
  have HU2 : Hid (Upto [] W w2) := Lib.hid (by simpa [Value.ownBlock] using ho.up)
  have HS : Hid (TxI w (freeP nd [] []) v2 w2) := Lib.hid ⟨ho.row, (fun g hg => by
    rcases ho.wh g hg with h1 | h1
    · simp [Value.ownBlock] at h1
    · exact Nat.le_trans HU1.out.size h1), HU1.out.trans_ext HU2.out⟩
  obtain ⟨a9, c9, rfl, -⟩ := ownsRow_len ho.row
  clear ho x0 x1 x2 x3 x4 x5
  go_wp2_with fail
  go_ret
  exact ⟨_, rfl, HS.out⟩
theorem goods_map (f : Nd → Nd) : ∀ (l : List Nd), (∀ x ∈ l, goodN (f x)) → goodsN (l.map f)
  | [], _ => by unfold goodsN; trivial
  | x :: xs, h => by
    rw [List.map_cons]
    unfold goodsN
    exact ⟨h x (by simp), goods_map f xs (fun y hy => h y (by simp [hy]))⟩
theorem good_ren : ∀ (d : Nat) (fr ta : List UInt8) (n : Nd), oneN n → goodN n → goodN (renF d fr ta n)
  | 0, fr, ta, n, h, hg => by unfold renF; exact hg
  | d + 1, fr, ta, .mk op nms so nn mm l, h, hg => by
    unfold oneN at h
    unfold goodN at hg
    cases hb : bindsF op nms.length with
    | true =>
      obtain ⟨h1, h2⟩ := h.1 hb
      match nms, h1, l, h2, hb, h, hg with
      | [b], _, [x], _, hb, h, hg =>
        have hx : oneN x := onesN_mem h.2 x (by simp)
        have hgx : goodN x := goodsN_mem hg.2 x (by simp)
        rw [renF_one _ _ _ _ _ _ _ _ _ hb]
        split
        · unfold goodN; exact ⟨fun _ => by simp, hg.2⟩
        · split
          · have i3 := (ren_shape d ta (capName fr ta x) x hx).2.2.1
            unfold goodN
            refine ⟨fun _ => by simp, ?_⟩
            unfold goodsN
            exact ⟨good_ren d fr ta _ i3 (good_ren d ta _ x hx hgx), by unfold goodsN; trivial⟩
          · unfold goodN
            refine ⟨fun _ => by simp, ?_⟩
            unfold goodsN
            exact ⟨good_ren d fr ta x hx hgx, by unfold goodsN; trivial⟩
    | false =>
      have hnb : ¬ bindsF op nms.length = true := by rw [hb]; simp
      rw [renF_no _ _ _ _ _ _ _ _ _ hnb]
      unfold goodN
      refine ⟨fun ho => by rw [rnUses_len]; exact hg.1 ho, ?_⟩
      exact goods_map _ l (fun x hx => good_ren d fr ta x (onesN_mem h.2 x hx) (goodsN_mem hg.2 x hx))
def Rg (lo hi : Nat) : List Nat := List.range' lo (hi - lo)
theorem mem_rg {lo hi b : Nat} : b ∈ Rg lo hi ↔ lo ≤ b ∧ b < hi := by
  unfold Rg
  rw [List.mem_range'_1]
  omega
theorem Upto.rg {lo hi lo' hi' : Nat} {w w' : World} (h : Upto (Rg lo hi) w w') (h1 : lo' ≤ lo) (h2 : hi ≤ hi') : Upto (Rg lo' hi') w w' := h.mono (fun b hb => by
  rw [mem_rg] at hb ⊢
  omega)
theorem Upto.far {lo hi : Nat} {w0 w w' : World} (h0 : Upto [] w0 w) (h : Upto (Rg lo hi) w w') (hl : w0.heap.size ≤ lo) : Upto [] w0 w' := h0.trans h (fun k hk => Or.inr (by rw [mem_rg] at hk; omega))
def RPost (lo hi : Nat) (v : Value) (n' : Nd) (w : World) (e : Ending) (w' : World) : Prop := e = .returned v ∧ OwT w' n' v lo hi ∧ Upto (Rg lo hi) w w'
structure RIn (w0 w : World) (d lo hi : Nat) (n : Nd) (v : Value) : Prop where
  own : OwT w n v lo hi
  hi : hi ≤ w.heap.size
  lo : w0.heap.size ≤ lo
  up : Upto [] w0 w
  deep : depthF n ≤ d
  one : oneN n
  good : goodN n
  few : nmsF n + sizeF n + 2 ≤ 8000
structure KI (w0 w : World) (f : Nd → Nd) (l : List Nd) (cs : Array Value) (o g m hi i : Nat) (wr : World) : Prop where
  ow : OwTs wr (mapAt f 0 i l) cs o g m hi
  up : Upto (Rg m hi) w wr
  at_ : ∃ t, wr.heap[g]? = some (.cells cs t (0, 0))
theorem KI.ext {w0 w wr w2 : World} {f : Nd → Nd} {l : List Nd} {cs : Array Value} {o g m hi i : Nat} (h : KI w0 w f l cs o g m hi i wr) (hh : hi ≤ w.heap.size) (hu : Upto [] wr w2) : KI w0 w f l cs o g m hi i w2 := by
  obtain ⟨t, ht⟩ := h.at_
  exact ⟨OwTs.same _ _ _ _ _ _ h.ow (SameIn.upto hu (Nat.le_trans hh h.up.size) (by simp)), h.up.trans_ext hu, t, hu.at ht (by simp)⟩
def Six (cs : Array Value) (p : Nat) (v0 v1 v2 v3 v4 v5 : Value) : Prop := cs[p]? = some v0 ∧ cs[p + 1]? = some v1 ∧ cs[p + 2]? = some v2 ∧ cs[p + 3]? = some v3 ∧ cs[p + 4]? = some v4 ∧ cs[p + 5]? = some v5
theorem Six.cells {w : World} {g p : Nat} {t : TypeId} {cs : Array Value} {v0 v1 v2 v3 v4 v5 : Value} (h : Six cs p v0 v1 v2 v3 v4 v5) (hg : w.heap[g]? = some (.cells cs t (0, 0))) : w.cell? ⟨g, p, none⟩ = some v0 ∧ w.cell? ⟨g, p + 1, none⟩ = some v1 ∧ w.cell? ⟨g, p + 2, none⟩ = some v2 ∧ w.cell? ⟨g, p + 3, none⟩ = some v3 ∧ w.cell? ⟨g, p + 4, none⟩ = some v4 ∧ w.cell? ⟨g, p + 5, none⟩ = some v5 := by
  obtain ⟨k0, k1, k2, k3, k4, k5⟩ := h
  exact ⟨by rw [cell_of hg]; exact k0, by rw [cell_of hg]; exact k1, by rw [cell_of hg]; exact k2, by rw [cell_of hg]; exact k3, by rw [cell_of hg]; exact k4, by rw [cell_of hg]; exact k5⟩
theorem Six.same {w : World} {g p : Nat} {t : TypeId} {cs : Array Value} {v0 v1 v2 v3 v4 v5 : Value} (h : Six cs p v0 v1 v2 v3 v4 v5) (hg : w.heap[g]? = some (.cells cs t (0, 0))) : (((((w.setCell ⟨g, p, none⟩ v0).setCell ⟨g, p + 1, none⟩ v1).setCell ⟨g, p + 2, none⟩ v2).setCell ⟨g, p + 3, none⟩ v3).setCell ⟨g, p + 4, none⟩ v4).setCell ⟨g, p + 5, none⟩ v5 = w := by
  obtain ⟨k0, k1, k2, k3, k4, k5⟩ := h
  rw [set_zero hg _ _ k0, set_zero hg _ _ k1, set_zero hg _ _ k2, set_zero hg _ _ k3, set_zero hg _ _ k4, set_zero hg _ _ k5]
theorem KI.step {w0 w wr : World} {d : Nat} {f : Nd → Nd} {l : List Nd} {cs : Array Value} {o g m hi i : Nat} {x : Nd} (h : KI w0 w f l cs o g m hi i wr) (hx : l[i]? = some x) (hh : hi ≤ w.heap.size) (h0 : Upto [] w0 w) (hl : w0.heap.size ≤ m)
    (hd : depthF x ≤ d) (h1 : oneN x) (h2 : goodN x) (h3 : nmsF x + sizeF x + 2 ≤ 8000) :
    ∃ v0 v1 v2 v3 v4 v5 k q, Six cs (o + i * 6) v0 v1 v2 v3 v4 v5 ∧ m ≤ k ∧ q ≤ hi ∧ (g < k ∨ q ≤ g) ∧ (∀ u, Upto [] wr u → RIn w0 u d k q x (.agg #[v0, v1, v2, v3, v4, v5])) ∧
      ∀ u w', Upto [] wr u → RPost k q (.agg #[v0, v1, v2, v3, v4, v5]) (f x) u (.returned (.agg #[v0, v1, v2, v3, v4, v5])) w' → KI w0 w f l cs o g m hi (i + 1) w' := by
  have hxi : (mapAt f 0 i l)[i]? = some x := by
    have := mapAt_get f 0 i l
    rw [Nat.zero_add] at this
    rw [this, hx]
  obtain ⟨t, ht⟩ := h.at_
  obtain ⟨v0, v1, v2, v3, v4, v5, k, q, c0, c1, c2, c3, c4, c5, i1, i2, i3, i4, i5, i6⟩ := OwTs.at _ cs o g m hi i x h.ow hxi
  refine ⟨v0, v1, v2, v3, v4, v5, k, q, (by rw [Nat.mul_comm]; exact ⟨c0, c1, c2, c3, c4, c5⟩), i1, i3, i4, fun u hu => ?_, fun u w' hu hp => ?_⟩
  · have hwr := h.up.size
    exact ⟨OwT.same _ _ _ _ i5 (SameIn.upto hu (by omega) (by simp)), by have := hu.size; omega, by omega, (Upto.far h0 h.up hl).trans_ext hu, hd, h1, h2, h3⟩
  · obtain ⟨-, hp1, hp2⟩ := hp
    have hwr := h.up.size
    have hset : mapAt f 0 (i + 1) l = (mapAt f 0 i l).set i (f x) := by
      have := mapAt_next (f := f) (k := 0) (i := i) (l := l) (x := x) (by rw [Nat.zero_add]; exact hx)
      rw [Nat.zero_add] at this
      exact this
    have hsame : Upto (Rg k q) wr w' := (hu.mono (by simp)).trans_same hp2
    refine ⟨?_, h.up.trans_same (Upto.rg hsame i1 i3), t, hsame.at ht (fun hm => by rw [mem_rg] at hm; omega)⟩
    rw [hset]
    exact i6 w' (f x) hp1 (fun b hb hb2 hb3 => hsame.block b (by omega) (fun hm => by rw [mem_rg] at hm; omega))
theorem NmT.val {w : World} {nms : List (List UInt8)} {vn : Value} {lo m : Nat} (h : NmT w nms vn lo m) : ∃ a c, vn = .slice a nms.length c := by
  rcases h with ⟨rfl, a, c, rfl⟩ | ⟨g, o, c, cs, t, rfl, -⟩
  · exact ⟨_, _, rfl⟩
  · exact ⟨_, _, rfl⟩
theorem NmT.cell {w : World} {nms : List (List UInt8)} {g o c lo m n : Nat} (h : NmT w nms (.slice (some ⟨g, o, none⟩) n c) lo m) {j : Nat} {x : List UInt8} (hx : nms[j]? = some x) : w.cell? ⟨g, o + j, none⟩ = some (sV x) ∧ w.frozen? ⟨g, o + j, none⟩ = false ∧ lo ≤ g ∧ g < m := by
  rcases h with ⟨rfl, -⟩ | ⟨g', o', c', cs, t, e, h1, h2, h3, h4, h5⟩
  · simp at hx
  · simp only [Value.slice.injEq, Option.some.injEq, Addr.mk.injEq] at e
    obtain ⟨⟨rfl, rfl, -⟩, -, rfl⟩ := e
    exact ⟨by rw [cell_of h4]; exact h5 j x hx, free_of h4 _, h2, h3⟩
def KdsT (w : World) (l : List Nd) (a2 : Option Addr) (cs : Array Value) (o g m hi : Nat) : Prop := l = [] ∨ (a2 = some ⟨g, o, none⟩ ∧ (∃ t, w.heap[g]? = some (.cells cs t (0, 0))) ∧ m ≤ g ∧ g < hi ∧ OwTs w l cs o g m hi)
theorem KdsT.same {w w' : World} {l : List Nd} {a2 : Option Addr} {cs : Array Value} {o g m hi : Nat} (h : KdsT w l a2 cs o g m hi) (hs : SameIn w w' m hi) : KdsT w' l a2 cs o g m hi := by
  rcases h with h | ⟨h1, ⟨t, h2⟩, h3, h4, h5⟩
  · exact Or.inl h
  · exact Or.inr ⟨h1, ⟨t, (hs g h3 h4).trans h2⟩, h3, h4, OwTs.same _ _ _ _ _ _ h5 hs⟩
theorem OwT.parts {w : World} {op so nn mm : Int} {nms : List (List UInt8)} {l : List Nd} {v : Value} {lo hi : Nat} (h : OwT w (.mk op nms so nn mm l) v lo hi) : ∃ a1 c1 a2 c2 m cs o g, v = .agg #[.int .i64 op, .slice a1 nms.length c1, .int .i64 so, .int .i64 nn, .int .i64 mm, .slice a2 l.length c2] ∧ lo ≤ m ∧ m ≤ hi ∧ NmT w nms (.slice a1 nms.length c1) lo m ∧ KdsT w l a2 cs o g m hi := by
  unfold OwT at h
  obtain ⟨vn, vl, m, e, h1, h2, h3, h4⟩ := h
  obtain ⟨a1, c1, rfl⟩ := h3.val
  rcases h4 with ⟨rfl, a, c, rfl⟩ | ⟨g, o, c, cs, t, rfl, h5, h6, h7, h8⟩
  · exact ⟨a1, c1, a, c, m, #[], 0, 0, e, h1, h2, h3, Or.inl rfl⟩
  · exact ⟨a1, c1, _, c, m, cs, o, g, e, h1, h2, h3, Or.inr ⟨rfl, ⟨t, h5⟩, h6, h7, h8⟩⟩
theorem OwT.join {w : World} {op so nn mm : Int} {nms : List (List UInt8)} {l : List Nd} {a1 a2 : Option Addr} {c1 c2 n1 n2 m o g lo hi : Nat} {cs : Array Value} (h1 : nms.length = n1) (h2 : l.length = n2) (h3 : lo ≤ m) (h4 : m ≤ hi) (hN : NmT w nms (.slice a1 n1 c1) lo m) (hK : KdsT w l a2 cs o g m hi) : OwT w (.mk op nms so nn mm l) (.agg #[.int .i64 op, .slice a1 n1 c1, .int .i64 so, .int .i64 nn, .int .i64 mm, .slice a2 n2 c2]) lo hi := by
  subst h1 h2
  unfold OwT
  refine ⟨_, _, m, rfl, h3, h4, hN, ?_⟩
  rcases hK with rfl | ⟨rfl, ⟨t, k1⟩, k2, k3, k4⟩
  · exact Or.inl ⟨rfl, _, _, rfl⟩
  · exact Or.inr ⟨g, o, c2, cs, t, rfl, k1, k2, k3, k4⟩
structure NI (w3 : World) (f : List UInt8 → List UInt8) (k : Nat) (nms : List (List UInt8)) (a1 : Option Addr) (c1 lo m i : Nat) (wr : World) : Prop where
  nm : NmT wr (mapAt f k i nms) (.slice a1 nms.length c1) lo m
  up : Upto (Rg lo m) w3 wr
theorem NI.start {w3 : World} {f : List UInt8 → List UInt8} {k : Nat} {nms : List (List UInt8)} {a1 : Option Addr} {c1 lo m : Nat} (h : NmT w3 nms (.slice a1 nms.length c1) lo m) : NI w3 f k nms a1 c1 lo m 0 w3 := ⟨by rw [mapAt_zero]; exact h, Upto.refl _ _⟩
theorem NI.at {w3 wr : World} {f : List UInt8 → List UInt8} {k : Nat} {nms : List (List UInt8)} {g o c1 lo m i : Nat} {x : List UInt8} (h : NI w3 f k nms (some ⟨g, o, none⟩) c1 lo m i wr) (hx : nms[k + i]? = some x) : wr.cell? ⟨g, o + k + i, none⟩ = some (sV x) ∧ wr.frozen? ⟨g, o + k + i, none⟩ = false := by
  have := h.nm.cell (j := k + i) (x := x) (by rw [mapAt_get, hx])
  rw [← Nat.add_assoc] at this
  exact ⟨this.1, this.2.1⟩
theorem NI.stay {w3 wr : World} {f : List UInt8 → List UInt8} {k : Nat} {nms : List (List UInt8)} {a1 : Option Addr} {c1 lo m i : Nat} {x : List UInt8} (h : NI w3 f k nms a1 c1 lo m i wr) (hx : nms[k + i]? = some x) (hf : f x = x) : NI w3 f k nms a1 c1 lo m (i + 1) wr := ⟨by rw [mapAt_stay hx hf]; exact h.nm, h.up⟩
theorem NI.put {w3 wr : World} {f : List UInt8 → List UInt8} {k : Nat} {nms : List (List UInt8)} {g o c1 lo m i : Nat} {x y : List UInt8} (h : NI w3 f k nms (some ⟨g, o, none⟩) c1 lo m i wr) (hx : nms[k + i]? = some x) (hf : f x = y) : NI w3 f k nms (some ⟨g, o, none⟩) c1 lo m (i + 1) (wr.setCell ⟨g, o + k + i, none⟩ (sV y)) := by
  have hlt : k + i < nms.length := (List.getElem?_eq_some_iff.1 hx).1
  have hl := mapAt_len f k i nms
  have hc := h.nm.cell (j := k + i) (x := x) (by rw [mapAt_get, hx])
  refine ⟨?_, h.up.trans_same ((Upto.refl _ wr).setCell (p := ⟨g, o + k + i, none⟩) (Or.inl (mem_rg.2 ⟨hc.2.2.1, hc.2.2.2⟩)) _)⟩
  rw [mapAt_next hx, hf, Nat.add_assoc, ← hl]
  exact NmT.set (by rw [hl]; exact h.nm) (by rw [hl]; exact hlt)
theorem nmss_mem : ∀ {l : List Nd} {x : Nd}, x ∈ l → nmsF x ≤ nmssF l
  | [], _, h => by cases h
  | y :: ys, x, h => by
    unfold nmssF
    rcases List.mem_cons.1 h with rfl | h
    · omega
    · have := nmss_mem h
      omega
theorem NmT.slp {w : World} {nms : List (List UInt8)} {vn : Value} {lo m : Nat} (h : NmT w nms vn lo m) : SlP w (fun _ => True) vn nms.length (nms.map sV) := by
  rcases h with ⟨rfl, a, c, rfl⟩ | ⟨g, o, c, cs, t, rfl, k1, k2, k3, k4, k5⟩
  · exact Or.inl ⟨rfl, rfl, a, c, rfl⟩
  · refine Or.inr ⟨g, o, c, rfl, ⟨trivial, ⟨_, _, _, k4⟩, k1⟩, fun j u hj => ?_⟩
    rw [cell_of k4]
    rw [List.getElem?_map] at hj
    cases hx : nms[j]? with
    | none => rw [hx] at hj; cases hj
    | some x =>
      rw [hx] at hj
      cases hj
      exact k5 j x hx
set_option maxRecDepth 100000 in
set_option maxHeartbeats 6400000 in
theorem ren_plain_calls (w0 : World) (d : Nat) (fr ta : List UInt8)
    (IH : ∀ (x : Nd) (v : Value) (lo hi : Nat) (u : World), RIn w0 u d lo hi x v → Calls Tryz.prog 43 #[v, .string ⟨fr.toArray⟩, .string ⟨ta.toArray⟩] u (RPost lo hi v (renF d fr ta x) u))
    (op so nn mm : Int) (nms : List (List UInt8)) (l : List Nd) (v : Value) (lo hi : Nat) (w : World) (hb : bindsF op nms.length = false) (h : RIn w0 w (d + 1) lo hi (.mk op nms so nn mm l) v) :
    Calls Tryz.prog 43 #[v, .string ⟨fr.toArray⟩, .string ⟨ta.toArray⟩] w (RPost lo hi v (renF (d + 1) fr ta (.mk op nms so nn mm l)) w) := by
  rw [renF_no _ _ _ _ _ _ _ _ _ (by rw [hb]; simp)]
  have hone := h.one
  have hgood := h.good
  have hdeep := h.deep
  have hfew := h.few
  unfold oneN at hone
  unfold goodN at hgood
  have HR0 := Lib.hid (And.intro h.up h.lo)
  have HKD : Hid (∀ x ∈ l, depthF x ≤ d ∧ oneN x ∧ goodN x ∧ nmsF x + sizeF x + 2 ≤ 8000) := Lib.hid (fun x hx => ⟨by
    have := depths_mem hx
    simp only [depthF] at hdeep
    omega, onesN_mem hone.2 x hx, goodsN_mem hgood.2 x hx, by
    have h1 := nmss_mem hx
    have h2 := sizesF_mem hx
    simp only [nmsF, sizeF] at hfew
    omega⟩)
  have hs := (h.own.ndv _ _ _ _).open
  obtain ⟨a1, c1, a2, c2, m, cs, o, g, rfl, hm1, hm2, hN, hK⟩ := h.own.parts
  have hsl : ∀ u, NmT u nms (.slice a1 nms.length c1) lo m → SlP u (fun _ => True) (.slice a1 nms.length c1) nms.length (nms.map sV) := fun u hu => by simpa using NmT.slp hu
  have hln : nms.length ≤ 8000 := by
    simp only [nmsF] at hfew
    omega
  have hll : l.length ≤ 8000 := by
    have := sizes_len l
    simp only [sizeF] at hfew
    omega
  have HUS : Hid (∀ u, NmT u nms (.slice a1 nms.length c1) lo m → Calls Tryz.prog 74 #[.agg #[.int .i64 op, .slice a1 nms.length c1, .int .i64 so, .int .i64 nn, .int .i64 mm, .slice a2 l.length c2]] u (UsA op nms a1 u)) := Lib.hid (fun u hu => usesA_calls (fun _ => True) op nms a1 c1 so nn mm a2 l.length c2 u (fun h10 => hgood.1 (Or.inl h10)) (hsl u hu) (by omega))
  have HBI : Hid (∀ u, Calls Tryz.prog 57 #[.agg #[.int .i64 op, .slice a1 nms.length c1, .int .i64 so, .int .i64 nn, .int .i64 mm, .slice a2 l.length c2]] u fun e w' => e = .returned (.bool false) ∧ Upto [] u w') := Lib.hid (fun u => by
    have := binds_calls op a1 nms.length c1 so nn mm a2 l.length c2 u
    rw [hb] at this
    exact this)
  have HUL : Hid ((usesF op nms).length ≤ 8000) := Lib.hid (by
    have h1 : (usesF op nms).length ≤ nms.length := by
      unfold usesF
      split
      · simp
      · split <;> simp
    omega)
  have HLT : Hid (hi ≤ w.heap.size ∧ lo ≤ m ∧ m ≤ hi) := Lib.hid ⟨h.hi, hm1, hm2⟩
  have IHH := Lib.hid IH
  clear IH
  obtain ⟨n1, hn1⟩ : ∃ n1, n1 = nms.length := ⟨_, rfl⟩
  obtain ⟨n2, hn2⟩ : ∃ n2, n2 = l.length := ⟨_, rfl⟩
  have HL1 : Hid (nms.length = n1) := Lib.hid hn1.symm
  have HL2 : Hid (l.length = n2 ∧ n2 ≤ 8000) := Lib.hid ⟨hn2.symm, by omega⟩
  rw [← hn1] at HUS HBI hN hsl ⊢
  rw [← hn2] at HUS HBI ⊢
  clear hs hsl hln hll hn1 hn2 hone hgood hdeep hfew hb h hm1 hm2
  obtain ⟨W, hW⟩ : ∃ W, W = (w.alloc (.cells #[.int .i64 op, .slice a1 n1 c1, .int .i64 so, .int .i64 nn, .int .i64 mm, .slice a2 n2 c2] 30)).alloc (.cells #[.int .i64 0, .slice none 0 0, .int .i64 0, .int .i64 0, .int .i64 0, .slice none 0 0] 30) := ⟨_, rfl⟩
  have HU : Hid (Upto [] w W) := Lib.hid (by rw [hW]; exact ((Upto.refl [] w).alloc _).alloc _)
  have HB1 : Hid (W.heap[w.heap.size]? = some (.cells #[.int .i64 op, .slice a1 n1 c1, .int .i64 so, .int .i64 nn, .int .i64 mm, .slice a2 n2 c2] 30 (0, 0))) := Lib.hid (by rw [hW]; exact alloc_old (new_at w _) _)
  have HB2 : Hid (W.heap[w.heap.size + 1]? = some (.cells #[.int .i64 0, .slice none 0 0, .int .i64 0, .int .i64 0, .int .i64 0, .slice none 0 0] 30 (0, 0))) := Lib.hid (by rw [hW]; exact new_at1 w _ _)
  have HN0 := Lib.hid hN
  have HK0 := Lib.hid hK
  clear hN hK
  obtain ⟨x0, x1, x2, x3, x4, x5⟩ := cells6 HB1.out
  go_enter Tryz.func43, Tryz.ntmps43
  go_wp2_with fail
  simp only [← hW]
  clear hW
  go_wp2_with fail
  refine (HBI.out _).mono ?_
  rintro e w1 ⟨rfl, hu1⟩
  have HU1 := Lib.hid hu1
  have HC1 := Lib.hid (hu1.at HB1.out (by simp))
  clear hu1 x0 x1 x2 x3 x4 x5
  obtain ⟨x0, x1, x2, x3, x4, x5⟩ := cells6 HC1.out
  go_wp2_with fail
  refine (HBI.out _).mono ?_
  rintro e w2 ⟨rfl, hu2⟩
  have HU2 := Lib.hid (HU1.out.trans_ext hu2)
  have HC := Lib.hid (HU2.out.at HB1.out (by simp))
  have HZ := Lib.hid (HU2.out.at HB2.out (by simp))
  have HU9 : Hid (Upto (Rg lo hi) w w2) := Lib.hid ((HU.out.trans_ext HU2.out).mono (by simp))
  have HN := Lib.hid (HN0.out.same (SameIn.upto (HU.out.trans_ext HU2.out) (by have := HLT.out; omega) (by simp)))
  have HK := Lib.hid (HK0.out.same (SameIn.upto (HU.out.trans_ext HU2.out) (by have := HLT.out; omega) (by simp)))
  clear hu2 x0 x1 x2 x3 x4 x5 HN0 HK0
  obtain ⟨x0, x1, x2, x3, x4, x5⟩ := cells6 HC.out
  go_wp2_with fail
  refine (HUS.out _ HN.out).mono ?_
  rintro e w3 ⟨vu, rfl, hu3, hv3⟩
  have HC3 := Lib.hid (hu3.at HC.out (by simp))
  have HZ3 := Lib.hid (hu3.at HZ.out (by simp))
  have HU3 := Lib.hid (HU9.out.trans_ext hu3)
  have HN3 := Lib.hid (HN.out.same (SameIn.upto hu3 (by have := HLT.out; have := HU9.out.size; omega) (by simp)))
  have HK3 := Lib.hid (HK.out.same (SameIn.upto hu3 (by have := HLT.out; have := HU9.out.size; omega) (by simp)))
  obtain ⟨ua, N, uc, HV, rfl⟩ : ∃ (ua : Option Addr) (N uc : Nat), Hid (N = (usesF op nms).length ∧ (N = 0 ∨ ∃ g o, ua = some ⟨g, o + (if op = 10 then 1 else 0), none⟩ ∧ a1 = some ⟨g, o, none⟩ ∧ N + (if op = 10 then 1 else 0) = n1 ∧ N ≤ uc)) ∧ vu = .slice ua N uc := by
    rcases hv3 with ⟨h1, a, c, rfl⟩ | ⟨g, o, c, k, rfl, h2, rfl, h3, h4⟩
    · exact ⟨a, 0, c, Lib.hid ⟨by rw [h1]; rfl, Or.inl rfl⟩, rfl⟩
    · exact ⟨_, _, c, Lib.hid ⟨rfl, Or.inr ⟨g, o, rfl, h2, by rw [h3]; exact HL1.out, h4⟩⟩, rfl⟩
  have HNB : Hid (N ≤ 8000) := Lib.hid (by
    have h1 := HV.out.1
    have h2 := HUL.out
    omega)
  clear hu3 hv3 x0 x1 x2 x3 x4 x5
  have hNB := HNB.out
  have hNI : (N : Int) ≤ 8000 := by omega
  go_wp2_with fail
  go_loopw [80] (fun v wr => ∃ j : Nat, j ≤ N ∧ v = .int .i64 j ∧ Hid (NI w3 (rnName fr ta) (if op = 10 then 1 else 0) nms a1 c1 lo m j wr)) (fun v _ => N - (intOf v).toNat)
  case atStart => exact ⟨0, by omega, rfl, Lib.hid (NI.start (by rw [HL1.out]; exact HN3.out))⟩
  case round =>
    obtain ⟨j, hj, rfl, HI⟩ := hrel
    have hj0 : (0 : Int) ≤ j := by omega
    rcases Nat.lt_or_ge j N with hlt | hge
    · have hjl : (j : Int) < N := by omega
      obtain ⟨g9, o9, hua, ha1, hNl, huc⟩ : ∃ g o, ua = some ⟨g, o + (if op = 10 then 1 else 0), none⟩ ∧ a1 = some ⟨g, o, none⟩ ∧ N + (if op = 10 then 1 else 0) = n1 ∧ N ≤ uc := HV.out.2.resolve_left (by omega)
      obtain ⟨x, hx⟩ : ∃ x, nms[(if op = 10 then 1 else 0) + j]? = some x := ⟨nms[(if op = 10 then 1 else 0) + j]'(by rw [HL1.out]; omega), List.getElem?_eq_getElem _⟩
      subst hua
      have HA1 := Lib.hid ha1
      replace HI : Hid (NI w3 (rnName fr ta) (if op = 10 then 1 else 0) nms (some ⟨g9, o9, none⟩) c1 lo m j wr) := Lib.hid (by rw [← ha1]; exact HI.out)
      have HX := Lib.hid hx
      obtain ⟨q0, q1⟩ := HI.out.at hx
      clear ha1 hx
      generalize hgk : (if op = 10 then 1 else 0) = k9 at *
      clear hgk
      unfold sV at q0
      by_cases hz : x = fr
      · have hzz : (x == fr) = true := by rw [hz]; exact beq_self_eq_true fr
        have HI2 := Lib.hid (HI.out.put (y := ta) HX.out (by unfold rnName; rw [if_pos hz]))
        clear hz
        go_wp2_with fail
        exact ⟨⟨j + 1, by omega, by simp, Lib.hid (by rw [HA1.out]; exact HI2.out)⟩, by simp [intOf]; omega⟩
      · have hzz : (x == fr) = false := by rw [beq_eq_false_iff_ne]; exact hz
        have HI2 := Lib.hid (HI.out.stay HX.out (by unfold rnName; rw [if_neg hz]))
        clear hz
        go_wp2_with fail
        exact ⟨⟨j + 1, by omega, by simp, Lib.hid (by rw [HA1.out]; exact HI2.out)⟩, by simp [intOf]; omega⟩
    · obtain rfl : j = N := by omega
      obtain ⟨w5, hw5⟩ : ∃ w5, w5 = wr := ⟨_, rfl⟩
      subst hw5
      have HJN : Hid (NmT w5 (rnUses op (rnName fr ta) nms) (.slice a1 n1 c1) lo m) := Lib.hid (by
        have h1 := HI.out.nm
        have h2 := HV.out.1
        rw [HL1.out] at h1
        rcases Nat.eq_zero_or_pos j with h0 | h0
        · rw [h0, mapAt_zero] at h1
          rw [rnUses_none (List.eq_nil_of_length_eq_zero (by omega))]
          exact h1
        · rw [h2, mapAt_uses rfl (by omega)] at h1
          exact h1)
      have HUW := Lib.hid (HU3.out.trans_same (Upto.rg HI.out.up (Nat.le_refl _) HLT.out.2.2))
      have HC4 := Lib.hid (HI.out.up.at HC3.out (by rw [mem_rg]; have := HLT.out; omega))
      have HZ4 := Lib.hid (HI.out.up.at HZ3.out (by rw [mem_rg]; have := HLT.out; omega))
      have HK4 := Lib.hid (HK3.out.same (SameIn.upto HI.out.up (by have := HLT.out; have := HU3.out.size; omega) (fun b hb => by rw [mem_rg] at hb; exact Or.inl hb.2)))
      obtain ⟨x0, x1, x2, x3, x4, x5⟩ := cells6 HC4.out
      go_wp2_with fail
      have hn2 := HL2.out.2
      have hn2I : (n2 : Int) ≤ 8000 := by omega
      go_loopw [96] (fun v wr => ∃ i : Nat, i ≤ n2 ∧ v = .int .i64 i ∧ Hid (Upto (Rg m hi) w5 wr ∧ (n2 = 0 ∨ (a2 = some ⟨g, o, none⟩ ∧ m ≤ g ∧ g < hi ∧ KI w0 w5 (renF d fr ta) l cs o g m hi i wr)))) (fun v _ => n2 - (intOf v).toNat)
      case atStart =>
        refine ⟨0, by omega, rfl, Lib.hid ⟨Upto.refl _ _, ?_⟩⟩
        rcases HK4.out with h1 | ⟨h1, h2, h3, h4, h5⟩
        · exact Or.inl (by have := HL2.out.1; rw [h1] at this; simpa using this.symm)
        · exact Or.inr ⟨h1, h3, h4, ⟨by rw [mapAt_zero]; exact h5, Upto.refl _ _, h2⟩⟩
      case round =>
        obtain ⟨i, hi9, rfl, HI2⟩ := hrel
        have hi0 : (0 : Int) ≤ i := by omega
        have HC5 := Lib.hid (HI2.out.1.at HC4.out (by rw [mem_rg]; have := HLT.out; omega))
        have HZ5 := Lib.hid (HI2.out.1.at HZ4.out (by rw [mem_rg]; have := HLT.out; omega))
        clear x0 x1 x2 x3 x4 x5
        obtain ⟨x0, x1, x2, x3, x4, x5⟩ := cells6 HC5.out
        rcases Nat.lt_or_ge i n2 with hil | hig
        · have hilI : (i : Int) < n2 := by omega
          obtain ⟨rfl, hmg, hgh, HKI⟩ : a2 = some ⟨g, o, none⟩ ∧ m ≤ g ∧ g < hi ∧ Hid (KI w0 w5 (renF d fr ta) l cs o g m hi i wr) := (HI2.out.2.resolve_left (by omega)).imp id (fun h => h.imp id (fun h2 => h2.imp id Lib.hid))
          obtain ⟨x, hx⟩ : ∃ x, l[i]? = some x := ⟨l[i]'(by rw [HL2.out.1]; omega), List.getElem?_eq_getElem _⟩
          have hxm := HKD.out x (List.mem_of_getElem? hx)
          obtain ⟨v0, v1, v2, v3, v4, v5, k, q, hsix, hk1, hk2, hk3, hin, hout⟩ := HKI.out.step (d := d) hx (by have := HLT.out; have := HUW.out.size; omega) (Upto.far HR0.out.1 HUW.out HR0.out.2) (by have := HLT.out; have := HR0.out.2; omega) hxm.1 hxm.2.1 hxm.2.2.1 hxm.2.2.2
          have HIN := Lib.hid hin
          have HOUT := Lib.hid hout
          obtain ⟨qo, b1, q1, e1, qs, qn, qm, b2, q2, e2, heq⟩ := ((hin wr (Upto.refl _ _)).own.ndv _ _ _ _).six
          obtain ⟨rfl, rfl, rfl, rfl, rfl, rfl⟩ : v0 = .int .i64 qo ∧ v1 = .slice b1 q1 e1 ∧ v2 = .int .i64 qs ∧ v3 = .int .i64 qn ∧ v4 = .int .i64 qm ∧ v5 = .slice b2 q2 e2 := by simpa using heq
          clear heq
          have HSX := Lib.hid hsix
          obtain ⟨t9, ht9⟩ := HKI.out.at_
          obtain ⟨l0, l1, l2, l3, l4, l5⟩ := hsix.cells ht9
          clear hx hxm hin hout hsix ht9
          go_wp2_with fail
          obtain ⟨W18, hW18⟩ : ∃ W18, W18 = wr.alloc (.cells #[.int .i64 qo, .slice b1 q1 e1, .int .i64 qs, .int .i64 qn, .int .i64 qm, .slice b2 q2 e2] 30) := ⟨_, rfl⟩
          have HA18 : Hid (Upto [] wr W18) := Lib.hid (by rw [hW18]; exact (Upto.refl [] wr).alloc _)
          have HL18 : Hid (W18.heap[wr.heap.size]? = some (.cells #[.int .i64 qo, .slice b1 q1 e1, .int .i64 qs, .int .i64 qn, .int .i64 qm, .slice b2 q2 e2] 30 (0, 0))) := Lib.hid (by rw [hW18]; exact new_at wr _)
          simp only [← hW18]
          have HP2 : Hid (Upto [] wr W18.drew) := Lib.hid HA18.out.drew
          have HC18 := Lib.hid (HA18.out.at HC5.out (by simp))
          clear hW18 x0 x1 x2 x3 x4 x5 l0 l1 l2 l3 l4 l5
          have x5 := cell_of HC18.out 5
          simp only [List.getElem?_toArray, List.getElem?_cons_zero, List.getElem?_cons_succ] at x5
          obtain ⟨y0, y1, y2, y3, y4, y5⟩ := cells6 HL18.out
          have HRM := Lib.hid (IHH.out _ _ _ _ _ (HIN.out _ HP2.out))
          go_region_with (refine HRM.out.mono ?_
                          rintro e w20 ⟨rfl, hw20⟩
                          have HU20 := Lib.hid (HP2.out.mono (S := []) (S' := Rg k q) (by simp))
                          have HJ20 := Lib.hid (HOUT.out _ _ HP2.out ⟨rfl, hw20⟩)
                          have HS20 := Lib.hid (HU20.out.trans_same hw20.2)
                          have HC20 := Lib.hid (HS20.out.at HC5.out (by rw [mem_rg]; have := HLT.out; omega))
                          have z5 := cell_of HC20.out 5
                          simp only [List.getElem?_toArray, List.getElem?_cons_zero, List.getElem?_cons_succ] at z5
                          obtain ⟨t21, ht21⟩ := HJ20.out.at_
                          have HT21 := Lib.hid ht21
                          clear hw20 ht21
                          obtain ⟨m0, m1, m2, m3, m4, m5⟩ := HSX.out.cells HT21.out
                          have f0 := free_of HT21.out (o + i * 6)
                          have f1 := free_of HT21.out (o + i * 6 + 1)
                          have f2 := free_of HT21.out (o + i * 6 + 2)
                          have f3 := free_of HT21.out (o + i * 6 + 3)
                          have f4 := free_of HT21.out (o + i * 6 + 4)
                          have f5 := free_of HT21.out (o + i * 6 + 5))
          all_goals
            simp only [HSX.out.same HT21.out]
            clear x5 y0 y1 y2 y3 y4 y5 z5 m0 m1 m2 m3 m4 m5 f0 f1 f2 f3 f4 f5
            go_wp2_with fail
            exact ⟨⟨i + 1, by omega, by simp, Lib.hid ⟨HI2.out.1.trans_same (Upto.rg HS20.out hk1 hk2), Or.inr ⟨trivial, hmg, hgh, HJ20.out⟩⟩⟩, by simp [intOf]; omega⟩
        · obtain rfl : i = n2 := by omega
          obtain ⟨y0, y1, y2, y3, y4, y5⟩ := cells6 HZ5.out
          obtain ⟨f0, f1, f2, f3, f4, f5⟩ := frees6 HZ5.out
          go_wp2_with fail
          clear x0 x1 x2 x3 x4 x5 y0 y1 y2 y3 y4 y5 f0 f1 f2 f3 f4 f5
          have hst := nd_store HZ5.out (.int .i64 op) (.slice a1 n1 c1) (.int .i64 so) (.int .i64 nn) (.int .i64 mm) (.slice a2 i c2)
          have hself := nd_self wr (w.heap.size + 1) (.int .i64 op) (.slice a1 n1 c1) (.int .i64 so) (.int .i64 nn) (.int .i64 mm) (.slice a2 i c2)
          have hup0 := HUW.out.trans_same (Upto.rg HI2.out.1 HLT.out.2.1 (Nat.le_refl _))
          have hup := nd_up hup0 (B := w.heap.size + 1) (Or.inr (by omega)) (.int .i64 op) (.slice a1 n1 c1) (.int .i64 so) (.int .i64 nn) (.int .i64 mm) (.slice a2 i c2)
          have hown : OwT wr (.mk op (rnUses op (rnName fr ta) nms) so nn mm (l.map (renF d fr ta))) (.agg #[.int .i64 op, .slice a1 n1 c1, .int .i64 so, .int .i64 nn, .int .i64 mm, .slice a2 i c2]) lo hi := by
            refine OwT.join (cs := cs) (o := o) (g := g) (m := m) (by rw [rnUses_len]; exact HL1.out) (by rw [List.length_map]; exact HL2.out.1) HLT.out.2.1 HLT.out.2.2 (HJN.out.same (SameIn.upto HI2.out.1 (by have := HLT.out; have := HUW.out.size; omega) (fun b hb => by rw [mem_rg] at hb; exact Or.inr hb.1))) ?_
            rcases HI2.out.2 with h1 | ⟨h1, h2, h3, h4⟩
            · exact Or.inl (by rw [List.map_eq_nil_iff]; exact List.eq_nil_of_length_eq_zero (by rw [HL2.out.1]; exact h1))
            · have h5 := h4.ow
              rw [← HL2.out.1, mapAt_all] at h5
              exact Or.inr ⟨h1, h4.at_, h2, h3, h5⟩
          have hown2 := hown.same _ _ _ _ (SameIn.upto hself (by have := HLT.out; have := hup0.size; omega) (fun b hb => by have := HLT.out; simp at hb; omega))
          obtain ⟨q0, q1, q2, q3, q4, q5⟩ := cells6 hst
          exact bodyPost_ret (v := .agg #[.int .i64 op, .slice a1 n1 c1, .int .i64 so, .int .i64 nn, .int .i64 mm, .slice a2 i c2]) (by simp [results, Tryz.results43, go_sem, q0, q1, q2, q3, q4, q5]) rfl ⟨rfl, hown2, hup⟩
theorem uses_binds {op : Int} {nms : List (List UInt8)} (h : bindsF op nms.length = true) : usesF op nms = [] := by
  unfold bindsF at h
  have ho : op = 16 ∨ op = 17 := by
    simp only [Bool.and_eq_true, Bool.or_eq_true, decide_eq_true_eq] at h
    exact h.1
  unfold usesF
  rw [if_neg (by omega), if_neg (by omega)]
theorem KdsT.first {w : World} {l : List Nd} {a2 : Option Addr} {cs : Array Value} {o g m hi : Nat} {x : Nd} (h : KdsT w l a2 cs o g m hi) (hl : l = [x]) : ∃ qo b1 q1 e1 qs qn qm b2 q2 e2 k q, Six cs o (.int .i64 qo) (.slice b1 q1 e1) (.int .i64 qs) (.int .i64 qn) (.int .i64 qm) (.slice b2 q2 e2) ∧ ∃ t, w.heap[g]? = some (.cells cs t (0, 0)) ∧ NdV w (fun b => k ≤ b ∧ b < q) x (.agg #[.int .i64 qo, .slice b1 q1 e1, .int .i64 qs, .int .i64 qn, .int .i64 qm, .slice b2 q2 e2]) := by
  subst hl
  rcases h with h | ⟨-, ⟨t, ht⟩, -, -, h⟩
  · cases h
  · obtain ⟨v0, v1, v2, v3, v4, v5, k, q, c0, c1, c2, c3, c4, c5, -, -, -, -, h5, -⟩ := OwTs.at _ _ _ _ _ _ 0 x h rfl
    have hnd := h5.ndv _ _ _ _
    obtain ⟨qo, b1, q1, e1, qs, qn, qm, b2, q2, e2, heq⟩ := hnd.six
    obtain ⟨rfl, rfl, rfl, rfl, rfl, rfl⟩ : v0 = .int .i64 qo ∧ v1 = .slice b1 q1 e1 ∧ v2 = .int .i64 qs ∧ v3 = .int .i64 qn ∧ v4 = .int .i64 qm ∧ v5 = .slice b2 q2 e2 := by simpa using heq
    exact ⟨qo, b1, q1, e1, qs, qn, qm, b2, q2, e2, k, q, ⟨c0, c1, c2, c3, c4, c5⟩, t, ht, hnd⟩
set_option maxRecDepth 100000 in
set_option maxHeartbeats 6400000 in
theorem ren_pass_calls (w0 : World) (d : Nat) (fr ta : List UInt8)
    (IH : ∀ (x : Nd) (v : Value) (lo hi : Nat) (u : World), RIn w0 u d lo hi x v → Calls Tryz.prog 43 #[v, .string ⟨fr.toArray⟩, .string ⟨ta.toArray⟩] u (RPost lo hi v (renF d fr ta x) u))
    (op so nn mm : Int) (nms : List (List UInt8)) (l : List Nd) (b : List UInt8) (x : Nd) (hnm : nms = [b]) (hlx : l = [x]) (v : Value) (lo hi : Nat) (w : World) (hb : bindsF op nms.length = true) (hbf : ¬ b = fr) (hcp : ¬ (b = ta ∧ (freeR x).contains fr = true)) (h : RIn w0 w (d + 1) lo hi (.mk op nms so nn mm l) v) :
    Calls Tryz.prog 43 #[v, .string ⟨fr.toArray⟩, .string ⟨ta.toArray⟩] w (RPost lo hi v (renF (d + 1) fr ta (.mk op nms so nn mm l)) w) := by
  have HGO : Hid (renF (d + 1) fr ta (.mk op nms so nn mm l) = .mk op (rnUses op (rnName fr ta) nms) so nn mm (l.map (renF d fr ta))) := Lib.hid (by
    have hu : usesF op nms = [] := uses_binds hb
    rw [rnUses_none hu]
    subst hnm hlx
    rw [renF_one _ _ _ _ _ _ _ _ _ hb, if_neg hbf, if_neg hcp]
    rfl)
  rw [HGO.out]
  have hone := h.one
  have hgood := h.good
  have hdeep := h.deep
  have hfew := h.few
  unfold oneN at hone
  unfold goodN at hgood
  have HR0 := Lib.hid (And.intro h.up h.lo)
  have HKD : Hid (∀ x ∈ l, depthF x ≤ d ∧ oneN x ∧ goodN x ∧ nmsF x + sizeF x + 2 ≤ 8000) := Lib.hid (fun x hx => ⟨by
    have := depths_mem hx
    simp only [depthF] at hdeep
    omega, onesN_mem hone.2 x hx, goodsN_mem hgood.2 x hx, by
    have h1 := nmss_mem hx
    have h2 := sizesF_mem hx
    simp only [nmsF, sizeF] at hfew
    omega⟩)
  have hs := (h.own.ndv _ _ _ _).open
  obtain ⟨a1, c1, a2, c2, m, cs, o, g, rfl, hm1, hm2, hN, hK⟩ := h.own.parts
  have hsl : ∀ u, NmT u nms (.slice a1 nms.length c1) lo m → SlP u (fun _ => True) (.slice a1 nms.length c1) nms.length (nms.map sV) := fun u hu => by simpa using NmT.slp hu
  have hln : nms.length ≤ 8000 := by
    simp only [nmsF] at hfew
    omega
  have hll : l.length ≤ 8000 := by
    have := sizes_len l
    simp only [sizeF] at hfew
    omega
  have HUS : Hid (∀ u, NmT u nms (.slice a1 nms.length c1) lo m → Calls Tryz.prog 74 #[.agg #[.int .i64 op, .slice a1 nms.length c1, .int .i64 so, .int .i64 nn, .int .i64 mm, .slice a2 l.length c2]] u (UsA op nms a1 u)) := Lib.hid (fun u hu => usesA_calls (fun _ => True) op nms a1 c1 so nn mm a2 l.length c2 u (fun h10 => hgood.1 (Or.inl h10)) (hsl u hu) (by omega))
  have HBI : Hid (∀ u, Calls Tryz.prog 57 #[.agg #[.int .i64 op, .slice a1 nms.length c1, .int .i64 so, .int .i64 nn, .int .i64 mm, .slice a2 l.length c2]] u fun e w' => e = .returned (.bool true) ∧ Upto [] u w') := Lib.hid (fun u => by
    have := binds_calls op a1 nms.length c1 so nn mm a2 l.length c2 u
    rw [hb] at this
    exact this)
  have HUL : Hid ((usesF op nms).length ≤ 8000) := Lib.hid (by
    have h1 : (usesF op nms).length ≤ nms.length := by
      unfold usesF
      split
      · simp
      · split <;> simp
    omega)
  have HLT : Hid (hi ≤ w.heap.size ∧ lo ≤ m ∧ m ≤ hi) := Lib.hid ⟨h.hi, hm1, hm2⟩
  have IHH := Lib.hid IH
  clear IH
  have HL1 : Hid (nms.length = 1) := Lib.hid (by rw [hnm]; rfl)
  have HL2 : Hid (l.length = 1 ∧ 1 ≤ 8000) := Lib.hid ⟨by rw [hlx]; rfl, by omega⟩
  have HNM := Lib.hid (And.intro hnm hlx)
  have HKX := Lib.hid (HKD.out x (by rw [hlx]; simp))
  obtain ⟨g1, o1, rfl⟩ : ∃ g1 o1, a1 = some ⟨g1, o1, none⟩ := by
    rcases hN with ⟨h0, -⟩ | ⟨g1, o1, c, cs, t, e, -⟩
    · rw [hnm] at h0; cases h0
    · simp only [Value.slice.injEq] at e
      exact ⟨g1, o1, e.1⟩
  obtain rfl : a2 = some ⟨g, o, none⟩ := hK.elim (fun h0 => by rw [hlx] at h0; cases h0) (fun h1 => h1.1)
  rw [HL1.out] at HUS HBI hN hsl ⊢
  rw [HL2.out.1] at HUS HBI ⊢
  clear hs hsl hln hll hnm hlx hone hgood hdeep hfew hb h hm1 hm2
  obtain ⟨W, hW⟩ : ∃ W, W = (w.alloc (.cells #[.int .i64 op, .slice (some (⟨g1, o1, none⟩ : Addr)) 1 c1, .int .i64 so, .int .i64 nn, .int .i64 mm, .slice (some (⟨g, o, none⟩ : Addr)) 1 c2] 30)).alloc (.cells #[.int .i64 0, .slice none 0 0, .int .i64 0, .int .i64 0, .int .i64 0, .slice none 0 0] 30) := ⟨_, rfl⟩
  have HU : Hid (Upto [] w W) := Lib.hid (by rw [hW]; exact ((Upto.refl [] w).alloc _).alloc _)
  have HB1 : Hid (W.heap[w.heap.size]? = some (.cells #[.int .i64 op, .slice (some (⟨g1, o1, none⟩ : Addr)) 1 c1, .int .i64 so, .int .i64 nn, .int .i64 mm, .slice (some (⟨g, o, none⟩ : Addr)) 1 c2] 30 (0, 0))) := Lib.hid (by rw [hW]; exact alloc_old (new_at w _) _)
  have HB2 : Hid (W.heap[w.heap.size + 1]? = some (.cells #[.int .i64 0, .slice none 0 0, .int .i64 0, .int .i64 0, .int .i64 0, .slice none 0 0] 30 (0, 0))) := Lib.hid (by rw [hW]; exact new_at1 w _ _)
  have HN0 := Lib.hid hN
  have HK0 := Lib.hid hK
  clear hN hK
  obtain ⟨x0, x1, x2, x3, x4, x5⟩ := cells6 HB1.out
  go_enter Tryz.func43, Tryz.ntmps43
  go_wp2_with fail
  simp only [← hW]
  clear hW
  go_wp2_with fail
  refine (HBI.out _).mono ?_
  rintro e w1 ⟨rfl, hu1⟩
  have HU1 := Lib.hid hu1
  have HC1 := Lib.hid (hu1.at HB1.out (by simp))
  have HZ1 := Lib.hid (hu1.at HB2.out (by simp))
  have HN1 := Lib.hid (HN0.out.same (SameIn.upto (HU.out.trans_ext hu1) (by have := HLT.out; omega) (by simp)))
  have hn0 := HN1.out.cell (j := 0) (x := b) (by rw [HNM.out.1]; rfl)
  have n0 := hn0.1
  rw [Nat.add_zero] at n0
  unfold sV at n0
  clear hu1 hn0 x0 x1 x2 x3 x4 x5
  obtain ⟨x0, x1, x2, x3, x4, x5⟩ := cells6 HC1.out
  have hzz : (b == fr) = false := by rw [beq_eq_false_iff_ne]; exact hbf
  clear hbf
  go_wp2_with fail
  refine (HBI.out _).mono ?_
  rintro e w2 ⟨rfl, hu2⟩
  have HU2 := Lib.hid (HU1.out.trans_ext hu2)
  have HC2 := Lib.hid (HU2.out.at HB1.out (by simp))
  have HZ2 := Lib.hid (HU2.out.at HB2.out (by simp))
  have HN2 := Lib.hid (HN0.out.same (SameIn.upto (HU.out.trans_ext HU2.out) (by have := HLT.out; omega) (by simp)))
  have HK2 := Lib.hid (HK0.out.same (SameIn.upto (HU.out.trans_ext HU2.out) (by have := HLT.out; omega) (by simp)))
  clear hu2 n0 x0 x1 x2 x3 x4 x5 HN0 HK0
  have hn0 := HN2.out.cell (j := 0) (x := b) (by rw [HNM.out.1]; rfl)
  have n0 := hn0.1
  rw [Nat.add_zero] at n0
  unfold sV at n0
  clear hn0
  obtain ⟨x0, x1, x2, x3, x4, x5⟩ := cells6 HC2.out
  by_cases hbt : b = ta
  · have hz2 : (b == ta) = true := by rw [hbt]; exact beq_self_eq_true ta
    have HCP : Hid ((freeR x).contains fr = false) := Lib.hid (by
      cases hc : (freeR x).contains fr with
      | false => rfl
      | true => exact absurd ⟨hbt, hc⟩ hcp)
    clear hbt hcp
    obtain ⟨qo, b1, q1, e1, qs, qn, qm, b2, q2, e2, k, q, hsix, t9, ht9, hnd⟩ := HK2.out.first HNM.out.2
    obtain ⟨l0, l1, l2, l3, l4, l5⟩ := hsix.cells ht9
    have HFR := Lib.hid (FreeT_calls x _ _ _ hnd (by have := HKX.out.2.2.2; omega) HKX.out.2.2.1 (by have := HKX.out.2.2.2; omega))
    clear hsix ht9 hnd
    go_wp2_with fail
    refine HFR.out.mono ?_
    rintro e w3 ⟨vo, rfl, ht⟩
    rw [free_same] at ht
    have HTU := Lib.hid ht.up
    have HCO := Lib.hid (containsS_calls (freeR x) fr vo w3 _ ht.slp (by have := freeR_len x; have := HKX.out.2.2.2; omega))
    obtain ⟨va, vc, rfl, -⟩ := ownsRow_len ht.row
    clear ht l0 l1 l2 l3 l4 l5 x0 x1 x2 x3 x4 x5 n0
    go_wp2_with fail
    refine HCO.out.mono ?_
    rintro e w4 ⟨rfl, rfl⟩
    rw [HCP.out]
    have HC := Lib.hid (HTU.out.at HC2.out (by simp))
    have HZ := Lib.hid (HTU.out.at HZ2.out (by simp))
    have HU9 : Hid (Upto (Rg lo hi) w w4) := Lib.hid ((HU.out.trans_ext (HU2.out.trans_ext HTU.out)).mono (by simp))
    have HN := Lib.hid (HN2.out.same (SameIn.upto HTU.out (by have := HLT.out; have := (HU.out.trans_ext HU2.out).size; omega) (by simp)))
    have HK := Lib.hid (HK2.out.same (SameIn.upto HTU.out (by have := HLT.out; have := (HU.out.trans_ext HU2.out).size; omega) (by simp)))
    obtain ⟨x0, x1, x2, x3, x4, x5⟩ := cells6 HC.out
    go_wp2_with fail
    refine (HUS.out _ HN.out).mono ?_
    rintro e w3 ⟨vu, rfl, hu3, hv3⟩
    have HC3 := Lib.hid (hu3.at HC.out (by simp))
    have HZ3 := Lib.hid (hu3.at HZ.out (by simp))
    have HU3 := Lib.hid (HU9.out.trans_ext hu3)
    have HN3 := Lib.hid (HN.out.same (SameIn.upto hu3 (by have := HLT.out; have := HU9.out.size; omega) (by simp)))
    have HK3 := Lib.hid (HK.out.same (SameIn.upto hu3 (by have := HLT.out; have := HU9.out.size; omega) (by simp)))
    obtain ⟨ua, N, uc, HV, rfl⟩ : ∃ (ua : Option Addr) (N uc : Nat), Hid (N = (usesF op nms).length ∧ (N = 0 ∨ ∃ g o, ua = some ⟨g, o + (if op = 10 then 1 else 0), none⟩ ∧ (some (⟨g1, o1, none⟩ : Addr)) = some ⟨g, o, none⟩ ∧ N + (if op = 10 then 1 else 0) = 1 ∧ N ≤ uc)) ∧ vu = .slice ua N uc := by
      rcases hv3 with ⟨h1, a, c, rfl⟩ | ⟨g, o, c, k, rfl, h2, rfl, h3, h4⟩
      · exact ⟨a, 0, c, Lib.hid ⟨by rw [h1]; rfl, Or.inl rfl⟩, rfl⟩
      · exact ⟨_, _, c, Lib.hid ⟨rfl, Or.inr ⟨g, o, rfl, h2, by rw [h3]; exact HL1.out, h4⟩⟩, rfl⟩
    have HNB : Hid (N ≤ 8000) := Lib.hid (by
      have h1 := HV.out.1
      have h2 := HUL.out
      omega)
    clear hu3 hv3 x0 x1 x2 x3 x4 x5
    have hNB := HNB.out
    have hNI : (N : Int) ≤ 8000 := by omega
    go_wp2_with fail
    go_loopw [80] (fun v wr => ∃ j : Nat, j ≤ N ∧ v = .int .i64 j ∧ Hid (NI w3 (rnName fr ta) (if op = 10 then 1 else 0) nms (some (⟨g1, o1, none⟩ : Addr)) c1 lo m j wr)) (fun v _ => N - (intOf v).toNat)
    case atStart => exact ⟨0, by omega, rfl, Lib.hid (NI.start (by rw [HL1.out]; exact HN3.out))⟩
    case round =>
      obtain ⟨j, hj, rfl, HI⟩ := hrel
      have hj0 : (0 : Int) ≤ j := by omega
      rcases Nat.lt_or_ge j N with hlt | hge
      · have hjl : (j : Int) < N := by omega
        obtain ⟨g9, o9, hua, ha1, hNl, huc⟩ : ∃ g o, ua = some ⟨g, o + (if op = 10 then 1 else 0), none⟩ ∧ (some (⟨g1, o1, none⟩ : Addr)) = some ⟨g, o, none⟩ ∧ N + (if op = 10 then 1 else 0) = 1 ∧ N ≤ uc := HV.out.2.resolve_left (by omega)
        obtain ⟨x, hx⟩ : ∃ x, nms[(if op = 10 then 1 else 0) + j]? = some x := ⟨nms[(if op = 10 then 1 else 0) + j]'(by rw [HL1.out]; omega), List.getElem?_eq_getElem _⟩
        subst hua
        have HA1 := Lib.hid ha1
        replace HI : Hid (NI w3 (rnName fr ta) (if op = 10 then 1 else 0) nms (some ⟨g9, o9, none⟩) c1 lo m j wr) := Lib.hid (by rw [← ha1]; exact HI.out)
        have HX := Lib.hid hx
        obtain ⟨q0, q1⟩ := HI.out.at hx
        clear ha1 hx
        generalize hgk : (if op = 10 then 1 else 0) = k9 at *
        clear hgk
        unfold sV at q0
        by_cases hz : x = fr
        · have hzz : (x == fr) = true := by rw [hz]; exact beq_self_eq_true fr
          have HI2 := Lib.hid (HI.out.put (y := ta) HX.out (by unfold rnName; rw [if_pos hz]))
          clear hz
          go_wp2_with fail
          exact ⟨⟨j + 1, by omega, by simp, Lib.hid (by rw [HA1.out]; exact HI2.out)⟩, by simp [intOf]; omega⟩
        · have hzz : (x == fr) = false := by rw [beq_eq_false_iff_ne]; exact hz
          have HI2 := Lib.hid (HI.out.stay HX.out (by unfold rnName; rw [if_neg hz]))
          clear hz
          go_wp2_with fail
          exact ⟨⟨j + 1, by omega, by simp, Lib.hid (by rw [HA1.out]; exact HI2.out)⟩, by simp [intOf]; omega⟩
      · obtain rfl : j = N := by omega
        obtain ⟨w5, hw5⟩ : ∃ w5, w5 = wr := ⟨_, rfl⟩
        subst hw5
        have HJN : Hid (NmT w5 (rnUses op (rnName fr ta) nms) (.slice (some (⟨g1, o1, none⟩ : Addr)) 1 c1) lo m) := Lib.hid (by
          have h1 := HI.out.nm
          have h2 := HV.out.1
          rw [HL1.out] at h1
          rcases Nat.eq_zero_or_pos j with h0 | h0
          · rw [h0, mapAt_zero] at h1
            rw [rnUses_none (List.eq_nil_of_length_eq_zero (by omega))]
            exact h1
          · rw [h2, mapAt_uses rfl (by omega)] at h1
            exact h1)
        have HUW := Lib.hid (HU3.out.trans_same (Upto.rg HI.out.up (Nat.le_refl _) HLT.out.2.2))
        have HC4 := Lib.hid (HI.out.up.at HC3.out (by rw [mem_rg]; have := HLT.out; omega))
        have HZ4 := Lib.hid (HI.out.up.at HZ3.out (by rw [mem_rg]; have := HLT.out; omega))
        have HK4 := Lib.hid (HK3.out.same (SameIn.upto HI.out.up (by have := HLT.out; have := HU3.out.size; omega) (fun b hb => by rw [mem_rg] at hb; exact Or.inl hb.2)))
        obtain ⟨x0, x1, x2, x3, x4, x5⟩ := cells6 HC4.out
        go_wp2_with fail
        have hn2 := HL2.out.2
        have hn2I : (1 : Int) ≤ 8000 := by omega
        go_loopw [96] (fun v wr => ∃ i : Nat, i ≤ 1 ∧ v = .int .i64 i ∧ Hid (Upto (Rg m hi) w5 wr ∧ (1 = 0 ∨ ((some (⟨g, o, none⟩ : Addr)) = some ⟨g, o, none⟩ ∧ m ≤ g ∧ g < hi ∧ KI w0 w5 (renF d fr ta) l cs o g m hi i wr)))) (fun v _ => 1 - (intOf v).toNat)
        case atStart =>
          refine ⟨0, by omega, rfl, Lib.hid ⟨Upto.refl _ _, ?_⟩⟩
          rcases HK4.out with h1 | ⟨h1, h2, h3, h4, h5⟩
          · exact Or.inl (by have := HL2.out.1; rw [h1] at this; simpa using this.symm)
          · exact Or.inr ⟨h1, h3, h4, ⟨by rw [mapAt_zero]; exact h5, Upto.refl _ _, h2⟩⟩
        case round =>
          obtain ⟨i, hi9, rfl, HI2⟩ := hrel
          have hi0 : (0 : Int) ≤ i := by omega
          have HC5 := Lib.hid (HI2.out.1.at HC4.out (by rw [mem_rg]; have := HLT.out; omega))
          have HZ5 := Lib.hid (HI2.out.1.at HZ4.out (by rw [mem_rg]; have := HLT.out; omega))
          clear x0 x1 x2 x3 x4 x5
          obtain ⟨x0, x1, x2, x3, x4, x5⟩ := cells6 HC5.out
          rcases Nat.lt_or_ge i 1 with hil | hig
          · have hilI : (i : Int) < 1 := by omega
            obtain ⟨-, hmg, hgh, HKI⟩ : (some (⟨g, o, none⟩ : Addr)) = some ⟨g, o, none⟩ ∧ m ≤ g ∧ g < hi ∧ Hid (KI w0 w5 (renF d fr ta) l cs o g m hi i wr) := (HI2.out.2.resolve_left (by omega)).imp id (fun h => h.imp id (fun h2 => h2.imp id Lib.hid))
            obtain ⟨x, hx⟩ : ∃ x, l[i]? = some x := ⟨l[i]'(by rw [HL2.out.1]; omega), List.getElem?_eq_getElem _⟩
            have hxm := HKD.out x (List.mem_of_getElem? hx)
            obtain ⟨v0, v1, v2, v3, v4, v5, k, q, hsix, hk1, hk2, hk3, hin, hout⟩ := HKI.out.step (d := d) hx (by have := HLT.out; have := HUW.out.size; omega) (Upto.far HR0.out.1 HUW.out HR0.out.2) (by have := HLT.out; have := HR0.out.2; omega) hxm.1 hxm.2.1 hxm.2.2.1 hxm.2.2.2
            have HIN := Lib.hid hin
            have HOUT := Lib.hid hout
            obtain ⟨qo, b1, q1, e1, qs, qn, qm, b2, q2, e2, heq⟩ := ((hin wr (Upto.refl _ _)).own.ndv _ _ _ _).six
            obtain ⟨rfl, rfl, rfl, rfl, rfl, rfl⟩ : v0 = .int .i64 qo ∧ v1 = .slice b1 q1 e1 ∧ v2 = .int .i64 qs ∧ v3 = .int .i64 qn ∧ v4 = .int .i64 qm ∧ v5 = .slice b2 q2 e2 := by simpa using heq
            clear heq
            have HSX := Lib.hid hsix
            obtain ⟨t9, ht9⟩ := HKI.out.at_
            obtain ⟨l0, l1, l2, l3, l4, l5⟩ := hsix.cells ht9
            clear hx hxm hin hout hsix ht9
            go_wp2_with fail
            obtain ⟨W18, hW18⟩ : ∃ W18, W18 = wr.alloc (.cells #[.int .i64 qo, .slice b1 q1 e1, .int .i64 qs, .int .i64 qn, .int .i64 qm, .slice b2 q2 e2] 30) := ⟨_, rfl⟩
            have HA18 : Hid (Upto [] wr W18) := Lib.hid (by rw [hW18]; exact (Upto.refl [] wr).alloc _)
            have HL18 : Hid (W18.heap[wr.heap.size]? = some (.cells #[.int .i64 qo, .slice b1 q1 e1, .int .i64 qs, .int .i64 qn, .int .i64 qm, .slice b2 q2 e2] 30 (0, 0))) := Lib.hid (by rw [hW18]; exact new_at wr _)
            simp only [← hW18]
            have HP2 : Hid (Upto [] wr W18.drew) := Lib.hid HA18.out.drew
            have HC18 := Lib.hid (HA18.out.at HC5.out (by simp))
            clear hW18 x0 x1 x2 x3 x4 x5 l0 l1 l2 l3 l4 l5
            have x5 := cell_of HC18.out 5
            simp only [List.getElem?_toArray, List.getElem?_cons_zero, List.getElem?_cons_succ] at x5
            obtain ⟨y0, y1, y2, y3, y4, y5⟩ := cells6 HL18.out
            have HRM := Lib.hid (IHH.out _ _ _ _ _ (HIN.out _ HP2.out))
            go_region_with (refine HRM.out.mono ?_
                            rintro e w20 ⟨rfl, hw20⟩
                            have HU20 := Lib.hid (HP2.out.mono (S := []) (S' := Rg k q) (by simp))
                            have HJ20 := Lib.hid (HOUT.out _ _ HP2.out ⟨rfl, hw20⟩)
                            have HS20 := Lib.hid (HU20.out.trans_same hw20.2)
                            have HC20 := Lib.hid (HS20.out.at HC5.out (by rw [mem_rg]; have := HLT.out; omega))
                            have z5 := cell_of HC20.out 5
                            simp only [List.getElem?_toArray, List.getElem?_cons_zero, List.getElem?_cons_succ] at z5
                            obtain ⟨t21, ht21⟩ := HJ20.out.at_
                            have HT21 := Lib.hid ht21
                            clear hw20 ht21
                            obtain ⟨m0, m1, m2, m3, m4, m5⟩ := HSX.out.cells HT21.out
                            have f0 := free_of HT21.out (o + i * 6)
                            have f1 := free_of HT21.out (o + i * 6 + 1)
                            have f2 := free_of HT21.out (o + i * 6 + 2)
                            have f3 := free_of HT21.out (o + i * 6 + 3)
                            have f4 := free_of HT21.out (o + i * 6 + 4)
                            have f5 := free_of HT21.out (o + i * 6 + 5))
            all_goals
              simp only [HSX.out.same HT21.out]
              clear x5 y0 y1 y2 y3 y4 y5 z5 m0 m1 m2 m3 m4 m5 f0 f1 f2 f3 f4 f5
              go_wp2_with fail
              exact ⟨⟨i + 1, by omega, by simp, Lib.hid ⟨HI2.out.1.trans_same (Upto.rg HS20.out hk1 hk2), Or.inr ⟨(by trivial), hmg, hgh, HJ20.out⟩⟩⟩, by simp [intOf]; omega⟩
          · obtain rfl : i = 1 := by omega
            obtain ⟨y0, y1, y2, y3, y4, y5⟩ := cells6 HZ5.out
            obtain ⟨f0, f1, f2, f3, f4, f5⟩ := frees6 HZ5.out
            go_wp2_with fail
            clear x0 x1 x2 x3 x4 x5 y0 y1 y2 y3 y4 y5 f0 f1 f2 f3 f4 f5
            have hst := nd_store HZ5.out (.int .i64 op) (.slice (some (⟨g1, o1, none⟩ : Addr)) 1 c1) (.int .i64 so) (.int .i64 nn) (.int .i64 mm) (.slice (some (⟨g, o, none⟩ : Addr)) 1 c2)
            have hself := nd_self wr (w.heap.size + 1) (.int .i64 op) (.slice (some (⟨g1, o1, none⟩ : Addr)) 1 c1) (.int .i64 so) (.int .i64 nn) (.int .i64 mm) (.slice (some (⟨g, o, none⟩ : Addr)) 1 c2)
            have hup0 := HUW.out.trans_same (Upto.rg HI2.out.1 HLT.out.2.1 (Nat.le_refl _))
            have hup := nd_up hup0 (B := w.heap.size + 1) (Or.inr (by omega)) (.int .i64 op) (.slice (some (⟨g1, o1, none⟩ : Addr)) 1 c1) (.int .i64 so) (.int .i64 nn) (.int .i64 mm) (.slice (some (⟨g, o, none⟩ : Addr)) 1 c2)
            have hown : OwT wr (.mk op (rnUses op (rnName fr ta) nms) so nn mm (l.map (renF d fr ta))) (.agg #[.int .i64 op, .slice (some (⟨g1, o1, none⟩ : Addr)) 1 c1, .int .i64 so, .int .i64 nn, .int .i64 mm, .slice (some (⟨g, o, none⟩ : Addr)) 1 c2]) lo hi := by
              refine OwT.join (cs := cs) (o := o) (g := g) (m := m) (by rw [rnUses_len]; exact HL1.out) (by rw [List.length_map]; exact HL2.out.1) HLT.out.2.1 HLT.out.2.2 (HJN.out.same (SameIn.upto HI2.out.1 (by have := HLT.out; have := HUW.out.size; omega) (fun b hb => by rw [mem_rg] at hb; exact Or.inr hb.1))) ?_
              rcases HI2.out.2 with h1 | ⟨h1, h2, h3, h4⟩
              · exact Or.inl (by rw [List.map_eq_nil_iff]; exact List.eq_nil_of_length_eq_zero (by rw [HL2.out.1]; exact h1))
              · have h5 := h4.ow
                rw [← HL2.out.1, mapAt_all] at h5
                exact Or.inr ⟨(by trivial), h4.at_, h2, h3, h5⟩
            have hown2 := hown.same _ _ _ _ (SameIn.upto hself (by have := HLT.out; have := hup0.size; omega) (fun b hb => by have := HLT.out; simp at hb; omega))
            obtain ⟨q0, q1, q2, q3, q4, q5⟩ := cells6 hst
            exact bodyPost_ret (v := .agg #[.int .i64 op, .slice (some (⟨g1, o1, none⟩ : Addr)) 1 c1, .int .i64 so, .int .i64 nn, .int .i64 mm, .slice (some (⟨g, o, none⟩ : Addr)) 1 c2]) (by simp [results, Tryz.results43, go_sem, q0, q1, q2, q3, q4, q5]) rfl ⟨rfl, hown2, hup⟩
  · have hz2 : (b == ta) = false := by rw [beq_eq_false_iff_ne]; exact hbt
    clear hbt hcp
    have HC := HC2
    have HZ := HZ2
    have HU9 : Hid (Upto (Rg lo hi) w w2) := Lib.hid ((HU.out.trans_ext HU2.out).mono (by simp))
    have HN := HN2
    have HK := HK2
    clear x0 x1 x2 x3 x4 x5
    obtain ⟨x0, x1, x2, x3, x4, x5⟩ := cells6 HC.out
    go_wp2_with fail
    refine (HUS.out _ HN.out).mono ?_
    rintro e w3 ⟨vu, rfl, hu3, hv3⟩
    have HC3 := Lib.hid (hu3.at HC.out (by simp))
    have HZ3 := Lib.hid (hu3.at HZ.out (by simp))
    have HU3 := Lib.hid (HU9.out.trans_ext hu3)
    have HN3 := Lib.hid (HN.out.same (SameIn.upto hu3 (by have := HLT.out; have := HU9.out.size; omega) (by simp)))
    have HK3 := Lib.hid (HK.out.same (SameIn.upto hu3 (by have := HLT.out; have := HU9.out.size; omega) (by simp)))
    obtain ⟨ua, N, uc, HV, rfl⟩ : ∃ (ua : Option Addr) (N uc : Nat), Hid (N = (usesF op nms).length ∧ (N = 0 ∨ ∃ g o, ua = some ⟨g, o + (if op = 10 then 1 else 0), none⟩ ∧ (some (⟨g1, o1, none⟩ : Addr)) = some ⟨g, o, none⟩ ∧ N + (if op = 10 then 1 else 0) = 1 ∧ N ≤ uc)) ∧ vu = .slice ua N uc := by
      rcases hv3 with ⟨h1, a, c, rfl⟩ | ⟨g, o, c, k, rfl, h2, rfl, h3, h4⟩
      · exact ⟨a, 0, c, Lib.hid ⟨by rw [h1]; rfl, Or.inl rfl⟩, rfl⟩
      · exact ⟨_, _, c, Lib.hid ⟨rfl, Or.inr ⟨g, o, rfl, h2, by rw [h3]; exact HL1.out, h4⟩⟩, rfl⟩
    have HNB : Hid (N ≤ 8000) := Lib.hid (by
      have h1 := HV.out.1
      have h2 := HUL.out
      omega)
    clear hu3 hv3 x0 x1 x2 x3 x4 x5
    have hNB := HNB.out
    have hNI : (N : Int) ≤ 8000 := by omega
    go_wp2_with fail
    go_loopw [80] (fun v wr => ∃ j : Nat, j ≤ N ∧ v = .int .i64 j ∧ Hid (NI w3 (rnName fr ta) (if op = 10 then 1 else 0) nms (some (⟨g1, o1, none⟩ : Addr)) c1 lo m j wr)) (fun v _ => N - (intOf v).toNat)
    case atStart => exact ⟨0, by omega, rfl, Lib.hid (NI.start (by rw [HL1.out]; exact HN3.out))⟩
    case round =>
      obtain ⟨j, hj, rfl, HI⟩ := hrel
      have hj0 : (0 : Int) ≤ j := by omega
      rcases Nat.lt_or_ge j N with hlt | hge
      · have hjl : (j : Int) < N := by omega
        obtain ⟨g9, o9, hua, ha1, hNl, huc⟩ : ∃ g o, ua = some ⟨g, o + (if op = 10 then 1 else 0), none⟩ ∧ (some (⟨g1, o1, none⟩ : Addr)) = some ⟨g, o, none⟩ ∧ N + (if op = 10 then 1 else 0) = 1 ∧ N ≤ uc := HV.out.2.resolve_left (by omega)
        obtain ⟨x, hx⟩ : ∃ x, nms[(if op = 10 then 1 else 0) + j]? = some x := ⟨nms[(if op = 10 then 1 else 0) + j]'(by rw [HL1.out]; omega), List.getElem?_eq_getElem _⟩
        subst hua
        have HA1 := Lib.hid ha1
        replace HI : Hid (NI w3 (rnName fr ta) (if op = 10 then 1 else 0) nms (some ⟨g9, o9, none⟩) c1 lo m j wr) := Lib.hid (by rw [← ha1]; exact HI.out)
        have HX := Lib.hid hx
        obtain ⟨q0, q1⟩ := HI.out.at hx
        clear ha1 hx
        generalize hgk : (if op = 10 then 1 else 0) = k9 at *
        clear hgk
        unfold sV at q0
        by_cases hz : x = fr
        · have hzz : (x == fr) = true := by rw [hz]; exact beq_self_eq_true fr
          have HI2 := Lib.hid (HI.out.put (y := ta) HX.out (by unfold rnName; rw [if_pos hz]))
          clear hz
          go_wp2_with fail
          exact ⟨⟨j + 1, by omega, by simp, Lib.hid (by rw [HA1.out]; exact HI2.out)⟩, by simp [intOf]; omega⟩
        · have hzz : (x == fr) = false := by rw [beq_eq_false_iff_ne]; exact hz
          have HI2 := Lib.hid (HI.out.stay HX.out (by unfold rnName; rw [if_neg hz]))
          clear hz
          go_wp2_with fail
          exact ⟨⟨j + 1, by omega, by simp, Lib.hid (by rw [HA1.out]; exact HI2.out)⟩, by simp [intOf]; omega⟩
      · obtain rfl : j = N := by omega
        obtain ⟨w5, hw5⟩ : ∃ w5, w5 = wr := ⟨_, rfl⟩
        subst hw5
        have HJN : Hid (NmT w5 (rnUses op (rnName fr ta) nms) (.slice (some (⟨g1, o1, none⟩ : Addr)) 1 c1) lo m) := Lib.hid (by
          have h1 := HI.out.nm
          have h2 := HV.out.1
          rw [HL1.out] at h1
          rcases Nat.eq_zero_or_pos j with h0 | h0
          · rw [h0, mapAt_zero] at h1
            rw [rnUses_none (List.eq_nil_of_length_eq_zero (by omega))]
            exact h1
          · rw [h2, mapAt_uses rfl (by omega)] at h1
            exact h1)
        have HUW := Lib.hid (HU3.out.trans_same (Upto.rg HI.out.up (Nat.le_refl _) HLT.out.2.2))
        have HC4 := Lib.hid (HI.out.up.at HC3.out (by rw [mem_rg]; have := HLT.out; omega))
        have HZ4 := Lib.hid (HI.out.up.at HZ3.out (by rw [mem_rg]; have := HLT.out; omega))
        have HK4 := Lib.hid (HK3.out.same (SameIn.upto HI.out.up (by have := HLT.out; have := HU3.out.size; omega) (fun b hb => by rw [mem_rg] at hb; exact Or.inl hb.2)))
        obtain ⟨x0, x1, x2, x3, x4, x5⟩ := cells6 HC4.out
        go_wp2_with fail
        have hn2 := HL2.out.2
        have hn2I : (1 : Int) ≤ 8000 := by omega
        go_loopw [96] (fun v wr => ∃ i : Nat, i ≤ 1 ∧ v = .int .i64 i ∧ Hid (Upto (Rg m hi) w5 wr ∧ (1 = 0 ∨ ((some (⟨g, o, none⟩ : Addr)) = some ⟨g, o, none⟩ ∧ m ≤ g ∧ g < hi ∧ KI w0 w5 (renF d fr ta) l cs o g m hi i wr)))) (fun v _ => 1 - (intOf v).toNat)
        case atStart =>
          refine ⟨0, by omega, rfl, Lib.hid ⟨Upto.refl _ _, ?_⟩⟩
          rcases HK4.out with h1 | ⟨h1, h2, h3, h4, h5⟩
          · exact Or.inl (by have := HL2.out.1; rw [h1] at this; simpa using this.symm)
          · exact Or.inr ⟨h1, h3, h4, ⟨by rw [mapAt_zero]; exact h5, Upto.refl _ _, h2⟩⟩
        case round =>
          obtain ⟨i, hi9, rfl, HI2⟩ := hrel
          have hi0 : (0 : Int) ≤ i := by omega
          have HC5 := Lib.hid (HI2.out.1.at HC4.out (by rw [mem_rg]; have := HLT.out; omega))
          have HZ5 := Lib.hid (HI2.out.1.at HZ4.out (by rw [mem_rg]; have := HLT.out; omega))
          clear x0 x1 x2 x3 x4 x5
          obtain ⟨x0, x1, x2, x3, x4, x5⟩ := cells6 HC5.out
          rcases Nat.lt_or_ge i 1 with hil | hig
          · have hilI : (i : Int) < 1 := by omega
            obtain ⟨-, hmg, hgh, HKI⟩ : (some (⟨g, o, none⟩ : Addr)) = some ⟨g, o, none⟩ ∧ m ≤ g ∧ g < hi ∧ Hid (KI w0 w5 (renF d fr ta) l cs o g m hi i wr) := (HI2.out.2.resolve_left (by omega)).imp id (fun h => h.imp id (fun h2 => h2.imp id Lib.hid))
            obtain ⟨x, hx⟩ : ∃ x, l[i]? = some x := ⟨l[i]'(by rw [HL2.out.1]; omega), List.getElem?_eq_getElem _⟩
            have hxm := HKD.out x (List.mem_of_getElem? hx)
            obtain ⟨v0, v1, v2, v3, v4, v5, k, q, hsix, hk1, hk2, hk3, hin, hout⟩ := HKI.out.step (d := d) hx (by have := HLT.out; have := HUW.out.size; omega) (Upto.far HR0.out.1 HUW.out HR0.out.2) (by have := HLT.out; have := HR0.out.2; omega) hxm.1 hxm.2.1 hxm.2.2.1 hxm.2.2.2
            have HIN := Lib.hid hin
            have HOUT := Lib.hid hout
            obtain ⟨qo, b1, q1, e1, qs, qn, qm, b2, q2, e2, heq⟩ := ((hin wr (Upto.refl _ _)).own.ndv _ _ _ _).six
            obtain ⟨rfl, rfl, rfl, rfl, rfl, rfl⟩ : v0 = .int .i64 qo ∧ v1 = .slice b1 q1 e1 ∧ v2 = .int .i64 qs ∧ v3 = .int .i64 qn ∧ v4 = .int .i64 qm ∧ v5 = .slice b2 q2 e2 := by simpa using heq
            clear heq
            have HSX := Lib.hid hsix
            obtain ⟨t9, ht9⟩ := HKI.out.at_
            obtain ⟨l0, l1, l2, l3, l4, l5⟩ := hsix.cells ht9
            clear hx hxm hin hout hsix ht9
            go_wp2_with fail
            obtain ⟨W18, hW18⟩ : ∃ W18, W18 = wr.alloc (.cells #[.int .i64 qo, .slice b1 q1 e1, .int .i64 qs, .int .i64 qn, .int .i64 qm, .slice b2 q2 e2] 30) := ⟨_, rfl⟩
            have HA18 : Hid (Upto [] wr W18) := Lib.hid (by rw [hW18]; exact (Upto.refl [] wr).alloc _)
            have HL18 : Hid (W18.heap[wr.heap.size]? = some (.cells #[.int .i64 qo, .slice b1 q1 e1, .int .i64 qs, .int .i64 qn, .int .i64 qm, .slice b2 q2 e2] 30 (0, 0))) := Lib.hid (by rw [hW18]; exact new_at wr _)
            simp only [← hW18]
            have HP2 : Hid (Upto [] wr W18.drew) := Lib.hid HA18.out.drew
            have HC18 := Lib.hid (HA18.out.at HC5.out (by simp))
            clear hW18 x0 x1 x2 x3 x4 x5 l0 l1 l2 l3 l4 l5
            have x5 := cell_of HC18.out 5
            simp only [List.getElem?_toArray, List.getElem?_cons_zero, List.getElem?_cons_succ] at x5
            obtain ⟨y0, y1, y2, y3, y4, y5⟩ := cells6 HL18.out
            have HRM := Lib.hid (IHH.out _ _ _ _ _ (HIN.out _ HP2.out))
            go_region_with (refine HRM.out.mono ?_
                            rintro e w20 ⟨rfl, hw20⟩
                            have HU20 := Lib.hid (HP2.out.mono (S := []) (S' := Rg k q) (by simp))
                            have HJ20 := Lib.hid (HOUT.out _ _ HP2.out ⟨rfl, hw20⟩)
                            have HS20 := Lib.hid (HU20.out.trans_same hw20.2)
                            have HC20 := Lib.hid (HS20.out.at HC5.out (by rw [mem_rg]; have := HLT.out; omega))
                            have z5 := cell_of HC20.out 5
                            simp only [List.getElem?_toArray, List.getElem?_cons_zero, List.getElem?_cons_succ] at z5
                            obtain ⟨t21, ht21⟩ := HJ20.out.at_
                            have HT21 := Lib.hid ht21
                            clear hw20 ht21
                            obtain ⟨m0, m1, m2, m3, m4, m5⟩ := HSX.out.cells HT21.out
                            have f0 := free_of HT21.out (o + i * 6)
                            have f1 := free_of HT21.out (o + i * 6 + 1)
                            have f2 := free_of HT21.out (o + i * 6 + 2)
                            have f3 := free_of HT21.out (o + i * 6 + 3)
                            have f4 := free_of HT21.out (o + i * 6 + 4)
                            have f5 := free_of HT21.out (o + i * 6 + 5))
            all_goals
              simp only [HSX.out.same HT21.out]
              clear x5 y0 y1 y2 y3 y4 y5 z5 m0 m1 m2 m3 m4 m5 f0 f1 f2 f3 f4 f5
              go_wp2_with fail
              exact ⟨⟨i + 1, by omega, by simp, Lib.hid ⟨HI2.out.1.trans_same (Upto.rg HS20.out hk1 hk2), Or.inr ⟨(by trivial), hmg, hgh, HJ20.out⟩⟩⟩, by simp [intOf]; omega⟩
          · obtain rfl : i = 1 := by omega
            obtain ⟨y0, y1, y2, y3, y4, y5⟩ := cells6 HZ5.out
            obtain ⟨f0, f1, f2, f3, f4, f5⟩ := frees6 HZ5.out
            go_wp2_with fail
            clear x0 x1 x2 x3 x4 x5 y0 y1 y2 y3 y4 y5 f0 f1 f2 f3 f4 f5
            have hst := nd_store HZ5.out (.int .i64 op) (.slice (some (⟨g1, o1, none⟩ : Addr)) 1 c1) (.int .i64 so) (.int .i64 nn) (.int .i64 mm) (.slice (some (⟨g, o, none⟩ : Addr)) 1 c2)
            have hself := nd_self wr (w.heap.size + 1) (.int .i64 op) (.slice (some (⟨g1, o1, none⟩ : Addr)) 1 c1) (.int .i64 so) (.int .i64 nn) (.int .i64 mm) (.slice (some (⟨g, o, none⟩ : Addr)) 1 c2)
            have hup0 := HUW.out.trans_same (Upto.rg HI2.out.1 HLT.out.2.1 (Nat.le_refl _))
            have hup := nd_up hup0 (B := w.heap.size + 1) (Or.inr (by omega)) (.int .i64 op) (.slice (some (⟨g1, o1, none⟩ : Addr)) 1 c1) (.int .i64 so) (.int .i64 nn) (.int .i64 mm) (.slice (some (⟨g, o, none⟩ : Addr)) 1 c2)
            have hown : OwT wr (.mk op (rnUses op (rnName fr ta) nms) so nn mm (l.map (renF d fr ta))) (.agg #[.int .i64 op, .slice (some (⟨g1, o1, none⟩ : Addr)) 1 c1, .int .i64 so, .int .i64 nn, .int .i64 mm, .slice (some (⟨g, o, none⟩ : Addr)) 1 c2]) lo hi := by
              refine OwT.join (cs := cs) (o := o) (g := g) (m := m) (by rw [rnUses_len]; exact HL1.out) (by rw [List.length_map]; exact HL2.out.1) HLT.out.2.1 HLT.out.2.2 (HJN.out.same (SameIn.upto HI2.out.1 (by have := HLT.out; have := HUW.out.size; omega) (fun b hb => by rw [mem_rg] at hb; exact Or.inr hb.1))) ?_
              rcases HI2.out.2 with h1 | ⟨h1, h2, h3, h4⟩
              · exact Or.inl (by rw [List.map_eq_nil_iff]; exact List.eq_nil_of_length_eq_zero (by rw [HL2.out.1]; exact h1))
              · have h5 := h4.ow
                rw [← HL2.out.1, mapAt_all] at h5
                exact Or.inr ⟨(by trivial), h4.at_, h2, h3, h5⟩
            have hown2 := hown.same _ _ _ _ (SameIn.upto hself (by have := HLT.out; have := hup0.size; omega) (fun b hb => by have := HLT.out; simp at hb; omega))
            obtain ⟨q0, q1, q2, q3, q4, q5⟩ := cells6 hst
            exact bodyPost_ret (v := .agg #[.int .i64 op, .slice (some (⟨g1, o1, none⟩ : Addr)) 1 c1, .int .i64 so, .int .i64 nn, .int .i64 mm, .slice (some (⟨g, o, none⟩ : Addr)) 1 c2]) (by simp [results, Tryz.results43, go_sem, q0, q1, q2, q3, q4, q5]) rfl ⟨rfl, hown2, hup⟩
set_option maxRecDepth 100000 in
set_option maxHeartbeats 6400000 in
theorem ren_shut_calls (w0 : World) (d : Nat) (fr ta : List UInt8)
    (IH : ∀ (x : Nd) (v : Value) (lo hi : Nat) (u : World), RIn w0 u d lo hi x v → Calls Tryz.prog 43 #[v, .string ⟨fr.toArray⟩, .string ⟨ta.toArray⟩] u (RPost lo hi v (renF d fr ta x) u))
    (op so nn mm : Int) (nms : List (List UInt8)) (l : List Nd) (b : List UInt8) (x : Nd) (hnm : nms = [b]) (hlx : l = [x]) (v : Value) (lo hi : Nat) (w : World) (hb : bindsF op nms.length = true) (hbf : b = fr) (h : RIn w0 w (d + 1) lo hi (.mk op nms so nn mm l) v) :
    Calls Tryz.prog 43 #[v, .string ⟨fr.toArray⟩, .string ⟨ta.toArray⟩] w (RPost lo hi v (renF (d + 1) fr ta (.mk op nms so nn mm l)) w) := by
  have HGO : Hid (renF (d + 1) fr ta (.mk op nms so nn mm l) = .mk op nms so nn mm l) := Lib.hid (by
    subst hnm hlx
    rw [renF_one _ _ _ _ _ _ _ _ _ hb, if_pos hbf])
  rw [HGO.out]
  have hone := h.one
  have hgood := h.good
  have hdeep := h.deep
  have hfew := h.few
  unfold oneN at hone
  unfold goodN at hgood
  have HR0 := Lib.hid (And.intro h.up h.lo)
  have HKD : Hid (∀ x ∈ l, depthF x ≤ d ∧ oneN x ∧ goodN x ∧ nmsF x + sizeF x + 2 ≤ 8000) := Lib.hid (fun x hx => ⟨by
    have := depths_mem hx
    simp only [depthF] at hdeep
    omega, onesN_mem hone.2 x hx, goodsN_mem hgood.2 x hx, by
    have h1 := nmss_mem hx
    have h2 := sizesF_mem hx
    simp only [nmsF, sizeF] at hfew
    omega⟩)
  have hs := (h.own.ndv _ _ _ _).open
  obtain ⟨a1, c1, a2, c2, m, cs, o, g, rfl, hm1, hm2, hN, hK⟩ := h.own.parts
  have hsl : ∀ u, NmT u nms (.slice a1 nms.length c1) lo m → SlP u (fun _ => True) (.slice a1 nms.length c1) nms.length (nms.map sV) := fun u hu => by simpa using NmT.slp hu
  have hln : nms.length ≤ 8000 := by
    simp only [nmsF] at hfew
    omega
  have hll : l.length ≤ 8000 := by
    have := sizes_len l
    simp only [sizeF] at hfew
    omega
  have HUS : Hid (∀ u, NmT u nms (.slice a1 nms.length c1) lo m → Calls Tryz.prog 74 #[.agg #[.int .i64 op, .slice a1 nms.length c1, .int .i64 so, .int .i64 nn, .int .i64 mm, .slice a2 l.length c2]] u (UsA op nms a1 u)) := Lib.hid (fun u hu => usesA_calls (fun _ => True) op nms a1 c1 so nn mm a2 l.length c2 u (fun h10 => hgood.1 (Or.inl h10)) (hsl u hu) (by omega))
  have HBI : Hid (∀ u, Calls Tryz.prog 57 #[.agg #[.int .i64 op, .slice a1 nms.length c1, .int .i64 so, .int .i64 nn, .int .i64 mm, .slice a2 l.length c2]] u fun e w' => e = .returned (.bool true) ∧ Upto [] u w') := Lib.hid (fun u => by
    have := binds_calls op a1 nms.length c1 so nn mm a2 l.length c2 u
    rw [hb] at this
    exact this)
  have HUL : Hid ((usesF op nms).length ≤ 8000) := Lib.hid (by
    have h1 : (usesF op nms).length ≤ nms.length := by
      unfold usesF
      split
      · simp
      · split <;> simp
    omega)
  have HLT : Hid (hi ≤ w.heap.size ∧ lo ≤ m ∧ m ≤ hi) := Lib.hid ⟨h.hi, hm1, hm2⟩
  have IHH := Lib.hid IH
  clear IH
  have HL1 : Hid (nms.length = 1) := Lib.hid (by rw [hnm]; rfl)
  have HL2 : Hid (l.length = 1 ∧ 1 ≤ 8000) := Lib.hid ⟨by rw [hlx]; rfl, by omega⟩
  have HNM := Lib.hid (And.intro hnm hlx)
  have HKX := Lib.hid (HKD.out x (by rw [hlx]; simp))
  obtain ⟨g1, o1, rfl⟩ : ∃ g1 o1, a1 = some ⟨g1, o1, none⟩ := by
    rcases hN with ⟨h0, -⟩ | ⟨g1, o1, c, cs, t, e, -⟩
    · rw [hnm] at h0; cases h0
    · simp only [Value.slice.injEq] at e
      exact ⟨g1, o1, e.1⟩
  obtain rfl : a2 = some ⟨g, o, none⟩ := hK.elim (fun h0 => by rw [hlx] at h0; cases h0) (fun h1 => h1.1)
  rw [HL1.out] at HUS HBI hN hsl ⊢
  rw [HL2.out.1] at HUS HBI ⊢
  clear hs hsl hln hll hnm hlx hone hgood hdeep hfew hb h hm1 hm2
  obtain ⟨W, hW⟩ : ∃ W, W = (w.alloc (.cells #[.int .i64 op, .slice (some (⟨g1, o1, none⟩ : Addr)) 1 c1, .int .i64 so, .int .i64 nn, .int .i64 mm, .slice (some (⟨g, o, none⟩ : Addr)) 1 c2] 30)).alloc (.cells #[.int .i64 0, .slice none 0 0, .int .i64 0, .int .i64 0, .int .i64 0, .slice none 0 0] 30) := ⟨_, rfl⟩
  have HU : Hid (Upto [] w W) := Lib.hid (by rw [hW]; exact ((Upto.refl [] w).alloc _).alloc _)
  have HB1 : Hid (W.heap[w.heap.size]? = some (.cells #[.int .i64 op, .slice (some (⟨g1, o1, none⟩ : Addr)) 1 c1, .int .i64 so, .int .i64 nn, .int .i64 mm, .slice (some (⟨g, o, none⟩ : Addr)) 1 c2] 30 (0, 0))) := Lib.hid (by rw [hW]; exact alloc_old (new_at w _) _)
  have HB2 : Hid (W.heap[w.heap.size + 1]? = some (.cells #[.int .i64 0, .slice none 0 0, .int .i64 0, .int .i64 0, .int .i64 0, .slice none 0 0] 30 (0, 0))) := Lib.hid (by rw [hW]; exact new_at1 w _ _)
  have HN0 := Lib.hid hN
  have HK0 := Lib.hid hK
  clear hN hK
  obtain ⟨x0, x1, x2, x3, x4, x5⟩ := cells6 HB1.out
  go_enter Tryz.func43, Tryz.ntmps43
  go_wp2_with fail
  simp only [← hW]
  clear hW
  go_wp2_with fail
  refine (HBI.out _).mono ?_
  rintro e w1 ⟨rfl, hu1⟩
  have HU1 := Lib.hid hu1
  have HC1 := Lib.hid (hu1.at HB1.out (by simp))
  have HZ1 := Lib.hid (hu1.at HB2.out (by simp))
  have HN1 := Lib.hid (HN0.out.same (SameIn.upto (HU.out.trans_ext hu1) (by have := HLT.out; omega) (by simp)))
  have hn0 := HN1.out.cell (j := 0) (x := b) (by rw [HNM.out.1]; rfl)
  have n0 := hn0.1
  rw [Nat.add_zero] at n0
  unfold sV at n0
  clear hu1 hn0 x0 x1 x2 x3 x4 x5
  obtain ⟨x0, x1, x2, x3, x4, x5⟩ := cells6 HC1.out
  have hzz : (b == fr) = true := by rw [hbf]; exact beq_self_eq_true fr
  obtain ⟨y0, y1, y2, y3, y4, y5⟩ := cells6 HZ1.out
  obtain ⟨f0, f1, f2, f3, f4, f5⟩ := frees6 HZ1.out
  clear hbf
  go_wp2_with fail
  have hst := nd_store HZ1.out (.int .i64 op) (.slice (some ⟨g1, o1, none⟩) 1 c1) (.int .i64 so) (.int .i64 nn) (.int .i64 mm) (.slice (some ⟨g, o, none⟩) 1 c2)
  have hself := nd_self w1 (w.heap.size + 1) (.int .i64 op) (.slice (some ⟨g1, o1, none⟩) 1 c1) (.int .i64 so) (.int .i64 nn) (.int .i64 mm) (.slice (some ⟨g, o, none⟩) 1 c2)
  have hup0 : Upto (Rg lo hi) w w1 := (HU.out.trans_ext HU1.out).mono (by simp)
  have hup := nd_up hup0 (B := w.heap.size + 1) (Or.inr (by omega)) (.int .i64 op) (.slice (some ⟨g1, o1, none⟩) 1 c1) (.int .i64 so) (.int .i64 nn) (.int .i64 mm) (.slice (some ⟨g, o, none⟩) 1 c2)
  have hown : OwT w1 (.mk op nms so nn mm l) (.agg #[.int .i64 op, .slice (some ⟨g1, o1, none⟩) 1 c1, .int .i64 so, .int .i64 nn, .int .i64 mm, .slice (some ⟨g, o, none⟩) 1 c2]) lo hi := OwT.join (cs := cs) (o := o) (g := g) (m := m) HL1.out HL2.out.1 HLT.out.2.1 HLT.out.2.2 HN1.out (HK0.out.same (SameIn.upto (HU.out.trans_ext HU1.out) (by have := HLT.out; omega) (by simp)))
  have hown2 := hown.same _ _ _ _ (SameIn.upto hself (by have := HLT.out; have := hup0.size; omega) (fun b hb => by have := HLT.out; simp at hb; omega))
  obtain ⟨q0, q1, q2, q3, q4, q5⟩ := cells6 hst
  clear x0 x1 x2 x3 x4 x5 y0 y1 y2 y3 y4 y5 f0 f1 f2 f3 f4 f5 n0
  exact bodyPost_ret (v := .agg #[.int .i64 op, .slice (some ⟨g1, o1, none⟩) 1 c1, .int .i64 so, .int .i64 nn, .int .i64 mm, .slice (some ⟨g, o, none⟩) 1 c2]) (by simp [results, Tryz.results43, go_sem, q0, q1, q2, q3, q4, q5]) rfl ⟨rfl, hown2, hup⟩
theorem ren_kept (d e : Nat) (fr ta : List UInt8) (x : Nd) (h0 : depthF x ≤ e) (h1 : oneN x) (h2 : goodN x) (h3 : nmsF x + sizeF x + 2 ≤ 8000) : depthF (renF d fr ta x) ≤ e ∧ oneN (renF d fr ta x) ∧ goodN (renF d fr ta x) ∧ nmsF (renF d fr ta x) + sizeF (renF d fr ta x) + 2 ≤ 8000 := by
  obtain ⟨i1, i2, i3, i4⟩ := ren_shape d fr ta x h1
  exact ⟨by omega, i3, good_ren d fr ta x h1 h2, by omega⟩
theorem cap_list_len (fr ta : List UInt8) (x : Nd) (h : nmsF x + sizeF x + 2 ≤ 8000) : (freeP x [] [] ++ boundP x [] ++ [fr, ta]).length ≤ 8000 := by
  rw [free_same, bound_same]
  have h1 := freeR_len x
  have h2 := boundR_len x
  simp only [List.length_append, List.length_cons, List.length_nil]
  omega
theorem cap_prog (fr ta : List UInt8) (x : Nd) : freshG ta (freeP x [] [] ++ boundP x [] ++ [fr, ta]) = capName fr ta x := by
  rw [free_same, bound_same]
  rfl
theorem cap_short (fr ta : List UInt8) (x : Nd) (h : nmsF x + sizeF x + 2 ≤ 8000) : (capName fr ta x).length ≤ 16 := by
  rw [← cap_prog]
  exact freshG_short (cap_list_len fr ta x h)
theorem mapAt_one {α : Type} (f : α → α) (x : α) : mapAt f 0 1 [x] = [f x] := mapAt_all f [x]
theorem KI.one {w0 w wr : World} {f : Nd → Nd} {x : Nd} {a2 : Option Addr} {cs : Array Value} {o g m hi : Nat} (h : KI w0 w f [x] cs o g m hi 1 wr) (ha : a2 = some ⟨g, o, none⟩) (h1 : m ≤ g) (h2 : g < hi) : KdsT wr [f x] a2 cs o g m hi := by
  have h3 := h.ow
  rw [mapAt_one] at h3
  exact Or.inr ⟨ha, h.at_, h1, h2, h3⟩
theorem KI.first {w0 w : World} {f : Nd → Nd} {l : List Nd} {a2 : Option Addr} {cs : Array Value} {o g m hi : Nat} {x : Nd} (h : KdsT w l a2 cs o g m hi) (hl : l = [x]) : KI w0 w f [x] cs o g m hi 0 w := by
  subst hl
  rcases h with h | ⟨-, h2, -, -, h5⟩
  · cases h
  · exact ⟨by rw [mapAt_zero]; exact h5, Upto.refl _ _, h2⟩
end Go.Proofs.YtbnebkkpmcjmbaaGreatDoor
