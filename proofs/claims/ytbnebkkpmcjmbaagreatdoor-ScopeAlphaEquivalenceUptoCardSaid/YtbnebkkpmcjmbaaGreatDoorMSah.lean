/- Texts merged, in build order: Wp, Wq, Wr, Xn, Zr, Xo, Ui. -/
import Derived.Test.YtbnebkkpmcjmbaaGreatDoorMSag
import Derived.Test.YtbnebkkpmcjmbaaGreatDoorRows
import Derived.WalkKit
import Derived.WalkSpells
import Derived.WalkLawsBesides
import Derived.Maps.OwnSet
import Derived.Lib.Hide
import Derived.Laws.BytesArg
import Derived.Deep.QuietTactic
import Derived.BigQuiet
import Derived.Test.YtbnebkkpmcjmbaaGreatDoorProg
import Derived.Shelf.Small.Strs
import Derived.Shelf.LaysM
import Derived.Shelf.Strings.SplitShaped
import Derived.Deep.DeepCutAuto
import Derived.Deep.CutBlock
import Derived.Lib.Strings
import Derived.Lib.Walk
import Derived.Lib.ConvBytes
import Derived.Lib.ParseIntBMem
import Derived.Lib.AtoiErrMem
import Derived.Lib.BufferWrite
import Derived.Lib.UnsafeStr
import Derived.Lib.IfaceEq
import Derived.Laws.MakeOwn
import Derived.Laws.Strings3
import Derived.Laws.Closers25
import Derived.Laws.Closers25b
import Derived.RegionTactic
import Derived.Deep.RegionWith
import Derived.BigCall
import Derived.BigGuard
import Derived.Lib.AppendIntMem
import Derived.Carry
import Derived.OrdersHeld
import Derived.Deep.RegionHeld3
import Derived.Shelf.Strconv.Itoa3
import Derived.Shelf.Slices.Turned
import Derived.Shelf.Slices.Clone
import Derived.Deep.RegionLaw
import Derived.Lib.ItoaNum
import Derived.RangeFuncNested
import Derived.RangeFuncBound
import Derived.RangeFuncCalls
import Derived.RangeFuncLeaves
import Derived.RangeFuncBox
import Derived.Shelf.Abstract
import Derived.OwnWalkIn
import Derived.TacticsInMore
import Derived.LoopNIn
import Derived.LoopIn
import Derived.Laws.EntriesVeiled
import Derived.Laws.AppendOwn
import Derived.Test.YtbnebkkpmcjmbaaGreatDoorCards
import Derived.Test.YtbnebkkpmcjmbaaGreatDoorTie
import Derived.ProofKit
import Derived.OpenShut
import Derived.Deep.DeepHandedRow
import Derived.Deep.Slices
import Derived.Lay
import Derived.ChangeCalls
import Derived.LaidSub
import Derived.MakeChecks
import Derived.LaidLaws
import Derived.Lib.LaidTab
import Derived.Shelf.SlMaps.Clone
import Derived.Laws.IdiomRangeMap
import Derived.Maps.RangeRun
import Derived.Laws.StructEq
namespace Go.Proofs.YtbnebkkpmcjmbaaGreatDoor
open Go.RowKit Go.PL Go.Maps
set_option maxRecDepth 100000 in
set_option maxHeartbeats 25600000 in
theorem aq_bind_calls (w0 : World) (hE0 : Env w0) (hP0 : PowT w0) (d : Nat) (IH : AqH w0 d) (op so nn mm : Int) (nms : List (List UInt8)) (l : List Nd) (b : List UInt8) (hnm : nms = [b]) (v : Value) (lo hi : Nat) (e : EnvL) (mb : Nat) (tk : List (List UInt8)) (B : Nat) (ta : Option Addr) (tn tc : Nat) (w : World)
    (hb : bindsF op nms.length = true) (hown : OwT w (.mk op nms so nn mm l) v lo hi) (hok : AqOk (d + 1) (.mk op nms so nn mm l) e tk) (hat : AqAt w0 w lo hi e mb tk B ta tn tc) :
    Calls Tryz.prog 64 #[v, .map (some mb), .pointer (some ⟨B, 0, none⟩)] w (AqPost lo hi v (apN (.mk op nms so nn mm l) e tk) B (.slice ta tn tc) w) := by
  obtain ⟨s9, hs9⟩ : ∃ s9, s9 = freshG b tk := ⟨_, rfl⟩
  have HGO : Hid (apN (.mk op nms so nn mm l) e tk = (.mk op [s9] so nn mm (apL l ((b, s9) :: e) (tk ++ [s9])).1, (apL l ((b, s9) :: e) (tk ++ [s9])).2)) := Lib.hid (by
    unfold apN
    rw [if_pos hb, hnm, hs9]
    rfl)
  have hbn : nameF b = true := by
    have := (form_iff.1 hok.form).2.2.1
    rw [hnm] at this
    simpa using this
  have hfr := freshG_not (s := b) (tk := tk) hbn (by have := hok.room; omega)
  rw [← hs9] at hfr
  have HS9 := Lib.hid hfr
  have HBL : Hid (b.length ≤ maxLen) := Lib.hid (by have := name_len hbn; unfold maxLen; omega)
  have HFR : Hid (∀ (u : World) (P : Nat → Prop), Upto [] w0 u → SlP u P (.slice ta tn tc) tn (tk.map sV) → Calls Tryz.prog 18 #[.string ⟨b.toArray⟩, .slice ta tn tc] u fun r w' => r = .returned (.string ⟨s9.toArray⟩) ∧ Upto [] u w') := Lib.hid (fun u P hu hs => by
    have := freshPG_calls b tk (.slice ta tn tc) u P (by rw [hat.tk.len]; exact hs) (by have := hok.room; omega) (by have := name_len hbn; omega) (hE0.ext hu) (hP0.ext hu)
    rwa [← hs9] at this)
  clear hfr hs9 hbn
  have HKD : Hid (∀ x ∈ l, depthF x ≤ d ∧ formF nameF x = 0 ∧ nmsF x + sizeF x + 2 ≤ 8000) := Lib.hid (fun x hx => ⟨by
    have h1 := depths_mem hx
    have h2 := hok.deep
    simp only [depthF] at h2
    omega, forms_iff.1 (form_iff.1 hok.form).2.2.2.2.2 x hx, by
    have h1 := nmss_mem hx
    have h2 := sizesF_mem hx
    have h3 := hok.few
    simp only [nmsF, sizeF] at h3
    omega⟩)
  have HFS : Hid (formsF nameF l = 0) := Lib.hid (form_iff.1 hok.form).2.2.2.2.2
  have HRM : Hid (tk.length + (sizesF l + 1) ≤ 8000 ∧ ∀ p ∈ e, nameF p.2 = true) := Lib.hid ⟨by have h3 := hok.room; simp only [sizeF] at h3; omega, hok.names⟩
  have HNL : Hid (∀ x ∈ nms, x.length ≤ maxLen) := Lib.hid (fun x hx => by
    have h1 := List.all_eq_true.1 (form_iff.1 hok.form).2.2.1 x hx
    have := name_len h1
    unfold maxLen
    omega)
  obtain ⟨a1, c1, a2, c2, m, cs, o, g, rfl, hm1, hm2, hN, hK⟩ := hown.parts
  have hsl : ∀ u, NmT u nms (.slice a1 nms.length c1) lo m → SlP u (fun _ => True) (.slice a1 nms.length c1) nms.length (nms.map sV) := fun u hu => by simpa using NmT.slp hu
  have hln : nms.length ≤ 8000 := by have h3 := hok.few; simp only [nmsF] at h3; omega
  have hll : l.length ≤ 8000 := by have h1 := sizes_len l; have h3 := hok.few; simp only [sizeF] at h3; omega
  have hgd := (good_of _ hok.form).1
  unfold goodN at hgd
  have HUS : Hid (∀ u, NmT u nms (.slice a1 nms.length c1) lo m → Calls Tryz.prog 74 #[.agg #[.int .i64 op, .slice a1 nms.length c1, .int .i64 so, .int .i64 nn, .int .i64 mm, .slice a2 l.length c2]] u (UsA op nms a1 u)) := Lib.hid (fun u hu => usesA_calls (fun _ => True) op nms a1 c1 so nn mm a2 l.length c2 u (fun h10 => hgd.1 (Or.inl h10)) (hsl u hu) (by omega))
  have HBI : Hid (∀ u, Calls Tryz.prog 57 #[.agg #[.int .i64 op, .slice a1 nms.length c1, .int .i64 so, .int .i64 nn, .int .i64 mm, .slice a2 l.length c2]] u fun e w' => e = .returned (.bool true) ∧ Upto [] u w') := Lib.hid (fun u => by
    have := binds_calls op a1 nms.length c1 so nn mm a2 l.length c2 u
    rw [hb] at this
    exact this)
  have HUL : Hid ((usesF op nms).length ≤ 8000) := Lib.hid (by
    have h1 : (usesF op nms).length ≤ nms.length := by
      unfold usesF
      split
      · simp
      · split <;> simp
    omega)
  have HLT : Hid (hi ≤ w.heap.size ∧ lo ≤ m ∧ m ≤ hi) := Lib.hid ⟨hat.hiw, hm1, hm2⟩
  have IHH := Lib.hid IH
  have HAT := Lib.hid hat
  have HUB : Hid (usesF op nms = []) := Lib.hid (uses_binds hb)
  have HL1 : Hid (nms.length = 1) := Lib.hid (by rw [hnm]; rfl)
  have HNM := Lib.hid hnm
  obtain ⟨g1, o1, rfl⟩ : ∃ g1 o1, a1 = some ⟨g1, o1, none⟩ := by
    rcases hN with ⟨h0, -⟩ | ⟨g1, o1, c, cs, t, e, -⟩
    · rw [hnm] at h0; cases h0
    · simp only [Value.slice.injEq] at e
      exact ⟨g1, o1, e.1⟩
  obtain ⟨n2, hn2⟩ : ∃ n2, n2 = l.length := ⟨_, rfl⟩
  have HL2 : Hid (l.length = n2 ∧ n2 ≤ 8000) := Lib.hid ⟨hn2.symm, by omega⟩
  rw [HL1.out] at HUS HBI hN hsl ⊢
  rw [← hn2] at HUS HBI ⊢
  clear hsl hln hll hb hok hat hown hm1 hm2 hgd hn2 IH hnm
  obtain ⟨W, hW⟩ : ∃ W, W = (w.alloc (.cells #[.int .i64 op, .slice (some (⟨g1, o1, none⟩ : Addr)) 1 c1, .int .i64 so, .int .i64 nn, .int .i64 mm, .slice a2 n2 c2] 30)).alloc (.cells #[.int .i64 0, .slice none 0 0, .int .i64 0, .int .i64 0, .int .i64 0, .slice none 0 0] 30) := ⟨_, rfl⟩
  have HU : Hid (Upto [] w W) := Lib.hid (by rw [hW]; exact ((Upto.refl [] w).alloc _).alloc _)
  have HB1 : Hid (W.heap[w.heap.size]? = some (.cells #[.int .i64 op, .slice (some (⟨g1, o1, none⟩ : Addr)) 1 c1, .int .i64 so, .int .i64 nn, .int .i64 mm, .slice a2 n2 c2] 30 (0, 0))) := Lib.hid (by rw [hW]; exact alloc_old (new_at w _) _)
  have HB2 : Hid (W.heap[w.heap.size + 1]? = some (.cells #[.int .i64 0, .slice none 0 0, .int .i64 0, .int .i64 0, .int .i64 0, .slice none 0 0] 30 (0, 0))) := Lib.hid (by rw [hW]; exact new_at1 w _ _)
  have HN0 := Lib.hid (hN.same (SameIn.upto HU.out (by have := HLT.out; omega) (by simp)))
  have HK0 := Lib.hid (hK.same (SameIn.upto HU.out (by have := HLT.out; omega) (by simp)))
  have HA0 := Lib.hid (HAT.out.ext HU.out)
  clear hN hK
  obtain ⟨x0, x1, x2, x3, x4, x5⟩ := cells6 HB1.out
  go_enter Tryz.func64, Tryz.ntmps64
  go_wp2_with fail
  simp only [← hW]
  clear hW
  try go_wp2_with fail
  refine (HUS.out _ HN0.out).mono ?_
  rintro r w3 ⟨vu, rfl, hu3, hv3⟩
  have HC3 := Lib.hid (hu3.at HB1.out (by simp))
  have HZ3 := Lib.hid (hu3.at HB2.out (by simp))
  have HU3 := Lib.hid (HU.out.trans_ext hu3)
  have HN3 := Lib.hid (HN0.out.same (SameIn.upto hu3 (by have := HLT.out; have := HU.out.size; omega) (by simp)))
  have HK3 := Lib.hid (HK0.out.same (SameIn.upto hu3 (by have := HLT.out; have := HU.out.size; omega) (by simp)))
  have HA3 := Lib.hid (HA0.out.ext hu3)
  obtain ⟨ua, uc, rfl⟩ : ∃ (ua : Option Addr) (uc : Nat), vu = .slice ua 0 uc := by
    rcases hv3 with ⟨h1, a, c, rfl⟩ | ⟨g, o, c, k, rfl, -⟩
    · exact ⟨a, c, rfl⟩
    · rw [HUB.out]
      exact ⟨_, c, rfl⟩
  clear hu3 hv3 x0 x1 x2 x3 x4 x5 HN0 HK0 HA0
  obtain ⟨x0, x1, x2, x3, x4, x5⟩ := cells6 HC3.out
  go_wp2_with fail
  go_loopw [19] (fun v wr => v = .int .i64 0 ∧ Hid (wr = w3)) (fun _ _ => 0)
  case atStart => exact ⟨rfl, Lib.hid rfl⟩
  case round =>
    obtain ⟨rfl, HW3⟩ := hrel
    obtain rfl := HW3.out
    go_wp2_with fail
    refine (HBI.out _).mono ?_
    rintro r w4 ⟨rfl, hu4⟩
    have HC4 := Lib.hid (hu4.at HC3.out (by simp))
    have HZ4 := Lib.hid (hu4.at HZ3.out (by simp))
    have HU4 := Lib.hid (HU3.out.trans_ext hu4)
    have HN4 := Lib.hid (HN3.out.same (SameIn.upto hu4 (by have := HLT.out; have := HU3.out.size; omega) (by simp)))
    have HK4 := Lib.hid (HK3.out.same (SameIn.upto hu4 (by have := HLT.out; have := HU3.out.size; omega) (by simp)))
    have HA4 := Lib.hid (HA3.out.ext hu4)
    clear hu4 x0 x1 x2 x3 x4 x5
    obtain ⟨x0, x1, x2, x3, x4, x5⟩ := cells6 HC4.out
    go_wp2_with fail
    have hn0 := (HN4.out.cell (j := 0) (x := b) (by rw [HNM.out]; rfl)).1
    rw [Nat.add_zero] at hn0
    unfold sV at hn0
    have hbx := cell_of HA4.out.tk.box 0
    simp only [List.getElem?_toArray, List.getElem?_cons_zero] at hbx
    have ex1 : ∀ u : Ext w4, u.w.cell? ⟨w.heap.size, 1, none⟩ = some (.slice (some ⟨g1, o1, none⟩) 1 c1) := fun u => u.cell x1
    have ec0 : ∀ u : Ext w4, u.w.cell? ⟨g1, o1, none⟩ = some (.string ⟨b.toArray⟩) := fun u => u.cell hn0
    have eb0 : ∀ u : Ext w4, u.w.cell? ⟨B, 0, none⟩ = some (.slice ta tn tc) := fun u => u.cell hbx
    have HFQ := Lib.hid (fun u (hu : Upto [] w4 u) => HFR.out u (fun _ => True) (HA4.out.up.trans_ext hu) ((SlP.of_row HA4.out.tk.row (fun _ _ => trivial)).ext hu))
    clear hn0 hbx x0 x1 x2 x3 x4 x5
    refine wp_region_seg_at [7] [] [0, 1, 2, 3, 4, 5, 6, 7] [8] 8 (by kernel_rfl) (by kernel_rfl) (by kernel_rfl) ?_
    iterate 7 (refine seg_plain rfl rfl rfl rfl rfl ?_; intro K' hK'; go_big_quiet_op; go_big_quiet_on)
    refine seg_call rfl rfl rfl rfl (fun w => by go_simp) (fun w hu hd => HFQ.out w hu) ?_
    simp only [Act.put, List.setIfInBounds_toArray, List.set_cons_zero, List.set_cons_succ]
    intro wa hg
    have HV5 := Lib.hid hg.up
    clear hg ex1 ec0 eb0
    have HC5 := Lib.hid (HV5.out.at HC4.out (by simp))
    have HZ5 := Lib.hid (HV5.out.at HZ4.out (by simp))
    have HU5 := Lib.hid (HU4.out.trans_ext HV5.out)
    have HN5 := Lib.hid (HN4.out.same (SameIn.upto HV5.out (by have := HLT.out; have := HU4.out.size; omega) (by simp)))
    have HK5 := Lib.hid (HK4.out.same (SameIn.upto HV5.out (by have := HLT.out; have := HU4.out.size; omega) (by simp)))
    have HA5 := Lib.hid (HA4.out.ext HV5.out)
    have HWA : Hid (w.heap.size + 1 < wa.heap.size) := Lib.hid (lt_of_heap HZ5.out)
    clear HC4 HZ4 HU4 HN4 HK4 HA4 HC3 HZ3 HU3 HN3 HK3 HA3
    simp only [List.drop_succ_cons, List.drop_zero]
    obtain ⟨i0, hi0, hz0, hz1, hz2⟩ := info9'
    have HB5 := Lib.hid (HA5.out.tk.ext ((Upto.refl [] wa).alloc (.cells #[.string ⟨s9.toArray⟩] 9)))
    have hbx : (wa.alloc (.cells #[.string ⟨s9.toArray⟩] 9)).cell? ⟨B, 0, none⟩ = some (.slice ta tn tc) := by have := cell_of HB5.out.box 0; simpa using this
    have hbx0 : wa.cell? ⟨B, 0, none⟩ = some (.slice ta tn tc) := by have := cell_of HA5.out.tk.box 0; simpa using this
    have hrow := HB5.out.row
    have hsrc := cells_at (l := [sV s9]) (new_at wa (.cells #[.string ⟨s9.toArray⟩] 9))
    have HTN : Hid (tn ≤ 8000 ∧ tk.length = tn) := Lib.hid ⟨by have h1 := HRM.out.1; have h2 := HAT.out.tk.len; omega, HAT.out.tk.len⟩
    have hT1 := HTN.out.1
    go_wp2_with (at_builtin; refine wpList_app _ rfl (.tmp 49) (.tmp 51) 22 rfl 9 i0 (.string ⟨#[]⟩) 1 16 Tryz.underlying22 hi0 hz0 hz1 hz2 rfl (by decide) (.slice ta tn tc) tn _ rfl hrow ⟨wa.heap.size, 0, none⟩ 1 1 [sV s9] rfl rfl hsrc (by simp [Value.oneCell', sV]) (by unfold maxLen; omega) (by omega) ?_; intro vb vd wb ho hu hw; have HAP := Lib.hid (And.intro ho (And.intro hu hw)); have HBB : Hid (wb.heap[B]? = some (.cells #[.slice ta tn tc] 22 (0, 0))) := Lib.hid (hu.at HB5.out.box (fun hm => (HB5.out.lt.2 B (Option.mem_toList.1 hm)).2 rfl)); have hcb := cell_of HBB.out 0; simp only [List.getElem?_toArray, List.getElem?_cons_zero] at hcb; have hfb := free_of HBB.out 0; clear ho hu hw hbx hbx0 hrow hsrc)
    obtain ⟨wc, hwc⟩ : ∃ wc, wc = wb.setCell ⟨B, 0, none⟩ (.slice vb (tn + 1) vd) := ⟨_, rfl⟩
    simp only [← hwc]
    clear hcb hfb
    have HSC : Hid (Upto [B] wb wc) := Lib.hid (by rw [hwc]; exact (Upto.refl [B] wb).setCell (p := ⟨B, 0, none⟩) (Or.inl (by simp)) _)
    have HZC : Hid (wc.heap.size = wb.heap.size) := Lib.hid (by rw [hwc]; simp [World.setCell])
    have HOB : Hid (∀ q, (Value.slice vb (tn + 1) vd).ownBlock = some q → (Value.slice ta tn tc).ownBlock = some q ∨ wa.heap.size ≤ q) := Lib.hid (fun q hq => (HAP.out.2.2 q hq).imp id (fun h2 => by have h3 := alloc_size1 wa (.cells #[.string ⟨s9.toArray⟩] 9); omega))
    have HTC : Hid (TkB wc B vb (tn + 1) vd (tk ++ [s9])) := Lib.hid ⟨by rw [hwc]; have := set_same HBB.out 0 (.slice vb (tn + 1) vd); simpa using this, by
      have h1 := ownsRow_upto HAP.out.1 HSC.out (fun q hq hm => by
        simp at hm
        rcases HOB.out q hq with h2 | h2
        · exact (HA5.out.tk.lt.2 q h2).2 hm
        · have := HA5.out.tk.lt.1; omega)
      rwa [List.map_append], by rw [List.length_append, List.length_singleton, HTN.out.2]⟩
    have HUC : Hid (Upto (B :: (Value.slice ta tn tc).ownBlock.toList) wa wc) := Lib.hid ((((Upto.refl [] wa).alloc (.cells #[.string ⟨s9.toArray⟩] 9)).mono (S' := B :: (Value.slice ta tn tc).ownBlock.toList) (by simp)).trans HAP.out.2.1 (fun b hb => Or.inl (List.mem_cons_of_mem _ hb)) |>.trans HSC.out (fun b hb => Or.inl (by simp at hb; simp [hb])))
    have HMX : Hid (mb ∉ B :: (Value.slice ta tn tc).ownBlock.toList) := Lib.hid (fun hm => by
      rcases List.mem_cons.1 hm with hm | hm
      · exact HA5.out.env.ne HA5.out.tk.box hm
      · obtain ⟨cur, hh⟩ := ownsRow_block HA5.out.tk.row (Option.mem_toList.1 hm)
        exact HA5.out.env.ne hh rfl)
    obtain ⟨es, clock, hmo, hmn⟩ := (HA5.out.env.upto HUC.out HMX.out).obj
    have HMN := Lib.hid hmn
    clear hwc hmn
    refine (mcloneT_calls mb es clock wc hmo).mono ?_
    rintro r wd ⟨rfl, hwd⟩
    have HUD : Hid (Upto [] wc wd) := Lib.hid (by rw [hwd]; exact (Upto.refl [] wc).alloc _)
    have HED : Hid (EnvM wd wc.heap.size e) := Lib.hid (HMN.out wd _ (by rw [hwd]; exact new_at wc _))
    have HMD : Hid (wc.heap.size < wd.heap.size) := Lib.hid (by rw [hwd]; show _ < (wc.heap.push _).size; simp)
    have HOC0 : Hid (∀ b cs z, wa.heap[b]? = some (.cells cs 30 z) → hi ≤ b → b ∉ B :: (Value.slice ta tn tc).ownBlock.toList) := Lib.hid (fun b cs z hb ho hm => HA5.out.tk.off (lo := lo) (hi := hi) hb (Or.inr ho) (by rw [mem_sq]; rcases List.mem_cons.1 hm with hm | hm; exact Or.inr (Or.inl hm); exact Or.inr (Or.inr (Option.mem_toList.1 hm))))
    have HSO : Hid (∀ b ∈ B :: (Value.slice ta tn tc).ownBlock.toList, b < lo ∨ hi ≤ b) := Lib.hid (fun b hm => by
      rcases List.mem_cons.1 hm with hm | hm
      · rw [hm]; exact HA5.out.bo.1
      · exact (HA5.out.so b (Option.mem_toList.1 hm)).1)
    have HUAD := Lib.hid (HUC.out.trans_ext HUD.out)
    have HCD := Lib.hid (HUAD.out.at HC5.out (HOC0.out _ _ _ HC5.out (by have := HLT.out; omega)))
    have HND := Lib.hid (HN5.out.same (SameIn.upto HUAD.out (by have := HLT.out; have := HU5.out.size; omega) (fun b hb => by have := HSO.out b hb; have := HLT.out; omega)))
    have hn0 := (HND.out.cell (j := 0) (x := b) (by rw [HNM.out]; rfl)).1
    rw [Nat.add_zero] at hn0
    unfold sV at hn0
    have x1 := cell_of HCD.out 1
    simp only [List.getElem?_toArray, List.getElem?_cons_zero, List.getElem?_cons_succ] at x1
    have hED := HED.out
    have hBL := HBL.out
    clear hwd hmo
    go_wp2_with (refine wpList_env _ rfl _ _ _ rfl wc.heap.size e rfl hED b s9 rfl rfl hBL ?_; intro we he9 hg9; have HEE := Lib.hid he9; have HGE := Lib.hid ((Upto.refl [wc.heap.size] wd).grown hg9 (fun k hk => by cases hk; simp)); have HCE := Lib.hid (HGE.out.at HCD.out (by have := HWA.out; have := HUC.out.size; simp; omega)); have HNE := Lib.hid (HND.out.same (SameIn.upto HGE.out (by have := HLT.out; have := HU5.out.size; have := HUAD.out.size; omega) (fun b hb => by have := HLT.out; have := HU5.out.size; have := HUC.out.size; simp at hb; omega))); clear x1 hn0 hED; have hn1 := HNE.out.cell (j := 0) (x := b) (by rw [HNM.out]; rfl); rw [Nat.add_zero] at hn1; have hn0 := hn1.1; have hnf := hn1.2.1; have HG1 := Lib.hid hn1.2.2; unfold sV at hn0; have x1 := cell_of HCE.out 1; have x5 := cell_of HCE.out 5; simp only [List.getElem?_toArray, List.getElem?_cons_zero, List.getElem?_cons_succ] at x1 x5; have hg1 : g1 ≠ w.heap.size := (by have := HG1.out; have := HLT.out; omega); have hg2 : w.heap.size ≠ g1 := Ne.symm hg1; clear hn1 he9 hg9)
    obtain ⟨w5, hw5⟩ : ∃ w5, w5 = we.setCell ⟨g1, o1, none⟩ (.string ⟨s9.toArray⟩) := ⟨_, rfl⟩
    try simp only [← hw5]
    clear x1 x5 hn0 hnf hg1 hg2
    have HS5 : Hid (Upto [g1] we w5) := Lib.hid (by rw [hw5]; exact (Upto.refl [g1] we).setCell (p := ⟨g1, o1, none⟩) (Or.inl (by simp)) _)
    have HJN : Hid (NmT w5 [s9] (.slice (some ⟨g1, o1, none⟩) 1 c1) lo m) := Lib.hid (by
      have h1 := NmT.set (x := s9) (j := 0) (by rw [HL1.out]; exact HNE.out) (by rw [HL1.out]; omega)
      rw [HL1.out, Nat.add_zero] at h1
      rw [hw5]
      have h2 : nms.set 0 s9 = [s9] := by rw [HNM.out]; rfl
      rw [h2] at h1
      exact h1)
    clear hw5
    have HGB : Hid (lo ≤ g1 ∧ g1 < m) := HG1
    have HUAE : Hid (Upto (B :: (Value.slice ta tn tc).ownBlock.toList) wa we) := Lib.hid (HUAD.out.trans HGE.out (fun b hb => Or.inr (by have := HUC.out.size; simp at hb; omega)))
    have HC4 := Lib.hid (HS5.out.at HCE.out (by have := HGB.out; have := HLT.out; simp; omega))
    have HZ4 := Lib.hid (HS5.out.at (HUAE.out.at HZ5.out (HOC0.out _ _ _ HZ5.out (by have := HLT.out; omega))) (by have := HGB.out; have := HLT.out; simp; omega))
    have HK4 := Lib.hid ((HK5.out.same (SameIn.upto HUAE.out (by have := HLT.out; have := HU5.out.size; omega) (fun b hb => by have := HSO.out b hb; have := HLT.out; omega))).same (SameIn.upto HS5.out (by have := HLT.out; have := HU5.out.size; have := HUAE.out.size; omega) (fun b hb => by have := HGB.out; simp at hb; omega)))
    have HUW : Hid (Upto (Sq lo hi B (.slice ta tn tc)) w w5) := Lib.hid ((((HU5.out.mono (S := []) (S' := Sq lo hi B (.slice ta tn tc)) (by simp)).trans HUAE.out (fun b hb => Or.inl (by rw [mem_sq]; rcases List.mem_cons.1 hb with hb | hb; exact Or.inr (Or.inl hb); exact Or.inr (Or.inr (Option.mem_toList.1 hb))))).trans HS5.out (fun b hb => Or.inl (by rw [mem_sq]; have := HGB.out; have := HLT.out; simp at hb; exact Or.inl (by omega)))))
    have HSZ5 : Hid (wa.heap.size ≤ wc.heap.size ∧ wc.heap.size < we.heap.size ∧ we.heap.size ≤ w5.heap.size) := Lib.hid ⟨HUC.out.size, by have := HMD.out; have := HGE.out.size; omega, HS5.out.size⟩
    have HOW : Hid (∀ q, (Value.slice vb (tn + 1) vd).ownBlock = some q → (Value.slice ta tn tc).ownBlock = some q ∨ w.heap.size ≤ q) := Lib.hid (fun q hq => (HOB.out q hq).imp id (fun h2 => by have := HU5.out.size; omega))
    have HOL : Hid (∀ q, (Value.slice vb (tn + 1) vd).ownBlock = some q → q < wc.heap.size ∧ (q < lo ∨ hi ≤ q) ∧ w0.heap.size ≤ q) := Lib.hid (fun q hq => ⟨(HTC.out.lt.2 q hq).1, by
      rcases HOB.out q hq with h2 | h2
      · exact HAT.out.so q h2
      · have := HLT.out; have := HU5.out.size; have := HAT.out.up.size; exact ⟨Or.inr (by omega), by omega⟩⟩)
    have HA4 : Hid (AqAt w0 w5 m hi ((b, s9) :: e) wc.heap.size (tk ++ [s9]) B vb (tn + 1) vd) := Lib.hid ⟨by have := HLT.out; have := HUW.out.size; omega, by have := HAT.out.low; have := HLT.out; omega, HAT.out.up.trans HUW.out (fun b hb => Or.inr (by
        rw [mem_sq] at hb
        rcases hb with hb | hb | hb
        · have := HAT.out.low; omega
        · rw [hb]; exact HAT.out.bo.2
        · exact (HAT.out.so b hb).2)), HEE.out.upto HS5.out (by have := HGB.out; have := HLT.out; have := HU5.out.size; have := HSZ5.out; simp; omega), Or.inr (by have := HLT.out; have := HU5.out.size; have := HSZ5.out; omega),
        (((HTC.out.ext HUD.out).upto HGE.out (by have := HTC.out.lt.1; simp; omega) (fun q hq hm => by have := (HOL.out q hq).1; simp at hm; omega)).upto HS5.out (by have := HAT.out.bo.1; have := HGB.out; have := HLT.out; simp; omega) (fun q hq hm => by have := (HOL.out q hq).2.1; have := HGB.out; have := HLT.out; simp at hm; omega)),
        ⟨by have := HAT.out.bo.1; have := HLT.out; omega, HAT.out.bo.2⟩, fun q hq => ⟨by have := (HOL.out q hq).2.1; have := HLT.out; omega, (HOL.out q hq).2.2⟩⟩
    have HNL2 : Hid (([s9] : List (List UInt8)).length = 1) := Lib.hid rfl
    have HRQ : Hid ((tk ++ [s9]).length + sizesF l ≤ 8000 ∧ ∀ p ∈ ((b, s9) :: e), nameF p.2 = true) := Lib.hid ⟨by rw [List.length_append, List.length_singleton]; have := HRM.out.1; omega, fun p hp => by
      rcases List.mem_cons.1 hp with rfl | hp
      · exact HS9.out.2
      · exact HRM.out.2 p hp⟩
    obtain ⟨x0, x1, x2, x3, x4, x5⟩ := cells6 HC4.out
    try go_wp2_with fail
    have hn2 := HL2.out.2
    have hn2I : (n2 : Int) ≤ 8000 := by omega
    go_loopw [69] (fun v wr => ∃ i : Nat, i ≤ n2 ∧ v = .int .i64 i ∧ Hid (KA w5 l ((b, s9) :: e) (tk ++ [s9]) a2 cs o g m hi B (.slice vb (tn + 1) vd) i wr)) (fun v _ => n2 - (intOf v).toNat)
    case atStart => exact ⟨0, by omega, rfl, Lib.hid (KA.start HK4.out HA4.out.tk)⟩
    case round =>
      obtain ⟨i, hi9, rfl, HKI⟩ := hrel
      have hi0 : (0 : Int) ≤ i := by omega
      have HOC : Hid (w.heap.size ∉ Sq m hi B (.slice vb (tn + 1) vd) ∧ w.heap.size + 1 ∉ Sq m hi B (.slice vb (tn + 1) vd)) := Lib.hid ⟨HA4.out.tk.off HC4.out (Or.inr (by have := HLT.out; omega)), HA4.out.tk.off HZ4.out (Or.inr (by have := HLT.out; omega))⟩
      have HC5 := Lib.hid (HKI.out.up.at HC4.out HOC.out.1)
      have HZ5 := Lib.hid (HKI.out.up.at HZ4.out HOC.out.2)
      clear x0 x1 x2 x3 x4 x5
      obtain ⟨x0, x1, x2, x3, x4, x5⟩ := cells6 HC5.out
      rcases Nat.lt_or_ge i n2 with hil | hig
      · have hilI : (i : Int) < n2 := by omega
        obtain ⟨x, hx⟩ : ∃ x, l[i]? = some x := ⟨l[i]'(by rw [HL2.out.1]; omega), List.getElem?_eq_getElem _⟩
        have hxm := HKD.out x (List.mem_of_getElem? hx)
        obtain ⟨v0, v1, v2, v3, v4, v5, k, q, ta6, tn6, tc6, ha2, hmg, hgh, ⟨t9, ht9⟩, hsix, hk1, hk2, hk3, hox, hokx, hatx, hout⟩ := HKI.out.step (d := d) hx HA4.out hxm.1 hxm.2.1 hxm.2.2 HFS.out HRQ.out.1 HRQ.out.2
        have HIN := Lib.hid (And.intro hox (And.intro hokx hatx))
        have HOUT := Lib.hid hout
        have HMG := Lib.hid (And.intro hmg hgh)
        obtain ⟨qo, b1, q1, e1, qs, qn, qm, b2, q2, e2, heq⟩ := (hox.ndv _ _ _ _).six
        obtain ⟨rfl, rfl, rfl, rfl, rfl, rfl⟩ : v0 = .int .i64 qo ∧ v1 = .slice b1 q1 e1 ∧ v2 = .int .i64 qs ∧ v3 = .int .i64 qn ∧ v4 = .int .i64 qm ∧ v5 = .slice b2 q2 e2 := by simpa using heq
        have HSX := Lib.hid hsix
        obtain ⟨l0, l1, l2, l3, l4, l5⟩ := hsix.cells ht9
        clear heq hx hxm hout hsix ht9 hox hokx hatx hmg hgh
        subst ha2
        go_wp2_with fail
        obtain ⟨W18, hW18⟩ : ∃ W18, W18 = wr.alloc (.cells #[.int .i64 qo, .slice b1 q1 e1, .int .i64 qs, .int .i64 qn, .int .i64 qm, .slice b2 q2 e2] 30) := ⟨_, rfl⟩
        have HA18 : Hid (Upto [] wr W18) := Lib.hid (by rw [hW18]; exact (Upto.refl [] wr).alloc _)
        have HL18 : Hid (W18.heap[wr.heap.size]? = some (.cells #[.int .i64 qo, .slice b1 q1 e1, .int .i64 qs, .int .i64 qn, .int .i64 qm, .slice b2 q2 e2] 30 (0, 0))) := Lib.hid (by rw [hW18]; exact new_at wr _)
        simp only [← hW18]
        have HP2 : Hid (Upto [] wr W18.drew) := Lib.hid HA18.out.drew
        have HC18 := Lib.hid (HA18.out.at HC5.out (by simp))
        clear hW18 x0 x1 x2 x3 x4 x5 l0 l1 l2 l3 l4 l5
        have x5 := cell_of HC18.out 5
        simp only [List.getElem?_toArray, List.getElem?_cons_zero, List.getElem?_cons_succ] at x5
        obtain ⟨y0, y1, y2, y3, y4, y5⟩ := cells6 HL18.out
        have HRM9 := Lib.hid (IHH.out x _ k q ((b, s9) :: e) wc.heap.size _ B ta6 tn6 tc6 W18.drew (OwT.same _ _ _ _ HIN.out.1 (SameIn.upto HP2.out (by have := HIN.out.2.2.hiw; omega) (by simp))) HIN.out.2.1 (HIN.out.2.2.ext HP2.out))
        go_region_with (refine HRM9.out.mono ?_
                        rintro r w20 hp20
                        obtain ⟨rfl, -⟩ := id hp20
                        have HJ20 := Lib.hid (HOUT.out _ _ HP2.out hp20)
                        have HC20 := Lib.hid (HJ20.out.1.up.at HC4.out HOC.out.1)
                        have z5 := cell_of HC20.out 5
                        simp only [List.getElem?_toArray, List.getElem?_cons_zero, List.getElem?_cons_succ] at z5
                        obtain ⟨t21, ht21⟩ := HJ20.out.2
                        have HT21 := Lib.hid ht21
                        clear ht21 hp20
                        obtain ⟨m0, m1, m2, m3, m4, m5⟩ := HSX.out.cells HT21.out
                        have f0 := free_of HT21.out (o + i * 6)
                        have f1 := free_of HT21.out (o + i * 6 + 1)
                        have f2 := free_of HT21.out (o + i * 6 + 2)
                        have f3 := free_of HT21.out (o + i * 6 + 3)
                        have f4 := free_of HT21.out (o + i * 6 + 4)
                        have f5 := free_of HT21.out (o + i * 6 + 5))
        all_goals
          simp only [HSX.out.same HT21.out]
          clear x5 y0 y1 y2 y3 y4 y5 z5 m0 m1 m2 m3 m4 m5 f0 f1 f2 f3 f4 f5
          go_wp2_with fail
          exact ⟨⟨i + 1, by omega, by simp, Lib.hid HJ20.out.1⟩, by simp [intOf]; omega⟩
      · obtain rfl : i = n2 := by omega
        obtain ⟨y0, y1, y2, y3, y4, y5⟩ := cells6 HZ5.out
        obtain ⟨f0, f1, f2, f3, f4, f5⟩ := frees6 HZ5.out
        go_wp2_with fail
        clear x0 x1 x2 x3 x4 x5 y0 y1 y2 y3 y4 y5 f0 f1 f2 f3 f4 f5
        have HTL : Hid (l.take i = l ∧ l.drop i = []) := Lib.hid ⟨by rw [← HL2.out.1, List.take_length], by rw [← HL2.out.1, List.drop_length]⟩
        have hst := nd_store HZ5.out (.int .i64 op) (.slice (some (⟨g1, o1, none⟩ : Addr)) 1 c1) (.int .i64 so) (.int .i64 nn) (.int .i64 mm) (.slice a2 i c2)
        have hself := nd_self wr (w.heap.size + 1) (.int .i64 op) (.slice (some (⟨g1, o1, none⟩ : Addr)) 1 c1) (.int .i64 so) (.int .i64 nn) (.int .i64 mm) (.slice a2 i c2)
        have hsq : ∀ b ∈ Sq m hi B (.slice vb (tn + 1) vd), b ∈ Sq lo hi B (.slice ta tn tc) ∨ w.heap.size ≤ b := fun b hb => by
          rw [mem_sq] at hb ⊢
          rcases hb with hb | hb | hb
          · exact Or.inl (Or.inl (by have := HLT.out; omega))
          · exact Or.inl (Or.inr (Or.inl hb))
          · exact (HOW.out b hb).imp (fun h2 => Or.inr (Or.inr h2)) id
        have hup0 : Upto (Sq lo hi B (.slice ta tn tc)) w wr := HUW.out.trans HKI.out.up hsq
        have hup := nd_up hup0 (B := w.heap.size + 1) (Or.inr (by omega)) (.int .i64 op) (.slice (some (⟨g1, o1, none⟩ : Addr)) 1 c1) (.int .i64 so) (.int .i64 nn) (.int .i64 mm) (.slice a2 i c2)
        have hsame : SameIn w5 wr lo m := SameIn.upto HKI.out.up (by have := HLT.out; have := HUW.out.size; omega) (fun b hb => by
          rw [mem_sq] at hb
          rcases hb with hb | hb | hb
          · exact Or.inr hb.1
          · have := HAT.out.bo.1; have := HLT.out; omega
          · rcases HOW.out b hb with h2 | h2
            · have := (HAT.out.so b h2).1; have := HLT.out; omega
            · have := HLT.out; omega)
        have hown : OwT wr (.mk op [s9] so nn mm (apL l ((b, s9) :: e) (tk ++ [s9])).1) (.agg #[.int .i64 op, .slice (some (⟨g1, o1, none⟩ : Addr)) 1 c1, .int .i64 so, .int .i64 nn, .int .i64 mm, .slice a2 i c2]) lo hi := by
          refine OwT.join (cs := cs) (o := o) (g := g) (m := m) HNL2.out (by rw [apL_len]; exact HL2.out.1) HLT.out.2.1 HLT.out.2.2 (HJN.out.same hsame) ?_
          rcases HKI.out.kd with h1 | ⟨h1, h2, h3, h4, h5⟩
          · refine Or.inl ?_
            rw [h1]
            unfold apL
            rfl
          · rw [HTL.out.1, HTL.out.2, List.append_nil] at h4
            exact Or.inr ⟨h1, h5, h2, h3, h4⟩
        have hown2 := hown.same _ _ _ _ (SameIn.upto hself (by have := HLT.out; have := hup0.size; omega) (fun b hb => by have := HLT.out; simp at hb; omega))
        have htk : ∃ a n c, TkB ((((((wr.setCell ⟨w.heap.size + 1, 0, none⟩ (.int .i64 op)).setCell ⟨w.heap.size + 1, 1, none⟩ (.slice (some (⟨g1, o1, none⟩ : Addr)) 1 c1)).setCell ⟨w.heap.size + 1, 2, none⟩ (.int .i64 so)).setCell ⟨w.heap.size + 1, 3, none⟩ (.int .i64 nn)).setCell ⟨w.heap.size + 1, 4, none⟩ (.int .i64 mm)).setCell ⟨w.heap.size + 1, 5, none⟩ (.slice a2 i c2)) B a n c (apL l ((b, s9) :: e) (tk ++ [s9])).2 ∧ ∀ q, (Value.slice a n c).ownBlock = some q → (Value.slice ta tn tc).ownBlock = some q ∨ w.heap.size ≤ q := by
          obtain ⟨a, n, c, h1, h2⟩ := HKI.out.tk
          rw [HTL.out.1] at h1
          refine ⟨a, n, c, h1.upto hself ?_ ?_, fun q hq => ?_⟩
          · have := (HAT.out.tk.lt).1
            simp
            omega
          · intro q hq hm
            obtain ⟨cur, hh⟩ := ownsRow_block h1.row hq
            simp at hm
            rw [hm, HZ5.out] at hh
            injection hh with hh
            injection hh with _ h3
            cases h3
          · rcases h2 q hq with h3 | h3
            · exact HOW.out q h3
            · exact Or.inr (by have := HUW.out.size; omega)
        obtain ⟨q0, q1, q2, q3, q4, q5⟩ := cells6 hst
        refine bodyPost_ret (v := .agg #[.int .i64 op, .slice (some (⟨g1, o1, none⟩ : Addr)) 1 c1, .int .i64 so, .int .i64 nn, .int .i64 mm, .slice a2 i c2]) (by simp [results, Tryz.results64, go_sem, q0, q1, q2, q3, q4, q5]) rfl ?_
        rw [HGO.out]
        exact ⟨rfl, hown2, htk, hup⟩
end Go.Proofs.YtbnebkkpmcjmbaaGreatDoor


namespace Go.Proofs.YtbnebkkpmcjmbaaGreatDoor
open Go.RowKit Go.PL Go.Maps
theorem six1_store {w : World} {B : Nat} {z a b c d e f : Value} {T : TypeId} (h : w.heap[B]? = some (.cells #[z, a, b, c, d, e, f] T (0, 0))) (a' b' c' d' e' f' : Value) :
    ((((((w.setCell ⟨B, 1, none⟩ a').setCell ⟨B, 2, none⟩ b').setCell ⟨B, 3, none⟩ c').setCell ⟨B, 4, none⟩ d').setCell ⟨B, 5, none⟩ e').setCell ⟨B, 6, none⟩ f').heap[B]? = some (.cells #[z, a', b', c', d', e', f'] T (0, 0)) := by
  have := set_same (set_same (set_same (set_same (set_same (set_same h 1 a') 2 b') 3 c') 4 d') 5 e') 6 f'
  simpa using this
theorem six1_self (w : World) (B : Nat) (a' b' c' d' e' f' : Value) :
    Upto [B] w ((((((w.setCell ⟨B, 1, none⟩ a').setCell ⟨B, 2, none⟩ b').setCell ⟨B, 3, none⟩ c').setCell ⟨B, 4, none⟩ d').setCell ⟨B, 5, none⟩ e').setCell ⟨B, 6, none⟩ f') :=
  have hB : ∀ {p : Addr}, p.block = B → p.block ∈ [B] ∨ w.heap.size ≤ p.block := fun h => Or.inl (by simp [h])
  ((((((Upto.refl _ w).setCell (hB rfl) _).setCell (hB rfl) _).setCell (hB rfl) _).setCell (hB rfl) _).setCell (hB rfl) _).setCell (hB rfl) _
end Go.Proofs.YtbnebkkpmcjmbaaGreatDoor


namespace Go.Proofs.YtbnebkkpmcjmbaaGreatDoor
open Go.RowKit Go.PL Go.Maps
theorem apP_calls (w0 : World) (hE0 : Env w0) (hP0 : PowT w0) : ∀ (d : Nat), AqH w0 d
  | 0 => fun x v lo hi e mb tk B a n c u hown hok hat => by
    cases x
    have := hok.deep
    simp only [depthF] at this
    omega
  | d + 1 => fun x v lo hi e mb tk B a n c u hown hok hat => by
    obtain ⟨op, nms, so, nn, mm, l⟩ := x
    cases hb : bindsF op nms.length with
    | false => exact aq_plain_calls w0 d (apP_calls w0 hE0 hP0 d) op so nn mm nms l v lo hi e mb tk B a n c u hb hown hok hat
    | true =>
      have hone := one_of _ hok.form
      unfold oneN at hone
      obtain ⟨h1, -⟩ := hone.1 hb
      obtain ⟨b, hnm⟩ := List.length_eq_one_iff.1 h1
      exact aq_bind_calls w0 hE0 hP0 d (apP_calls w0 hE0 hP0 d) op so nn mm nms l b hnm v lo hi e mb tk B a n c u hb hown hok hat
/-- the box is given a new list -/
theorem TkB.put {w w1 w2 : World} {B : Nat} {a vb : Option Addr} {n c k vd : Nat} {tk tk2 : List (List UInt8)} (h : TkB w B a n c tk) (he : Upto [] w w1) (ho : w2.ownsRow 0 9 1 (.slice vb k vd) k (tk2.map sV)) (hk : tk2.length = k) (hu : Upto (Value.slice a n c).ownBlock.toList w1 w2)
    (hw : ∀ g, (Value.slice vb k vd).ownBlock = some g → (Value.slice a n c).ownBlock = some g ∨ w1.heap.size ≤ g) : TkB (w2.setCell ⟨B, 0, none⟩ (.slice vb k vd)) B vb k vd tk2 ∧ Upto (B :: (Value.slice a n c).ownBlock.toList) w1 (w2.setCell ⟨B, 0, none⟩ (.slice vb k vd)) ∧ w2.heap[B]? = some (.cells #[.slice a n c] 22 (0, 0)) := by
  have h1 := h.ext he
  have hbox : w2.heap[B]? = some (.cells #[.slice a n c] 22 (0, 0)) := hu.at h1.box (fun hm => (h1.lt.2 B (Option.mem_toList.1 hm)).2 rfl)
  have hs : Upto [B] w2 (w2.setCell ⟨B, 0, none⟩ (.slice vb k vd)) := (Upto.refl [B] w2).setCell (p := ⟨B, 0, none⟩) (Or.inl (by simp)) _
  refine ⟨⟨by have := set_same hbox 0 (.slice vb k vd); simpa using this, ownsRow_upto ho hs (fun q hq hm => ?_), hk⟩, (hu.mono (fun b hb => List.mem_cons_of_mem _ hb)).trans hs (fun b hb => Or.inl (by simp at hb; simp [hb])), hbox⟩
  simp at hm
  rcases hw q hq with h2 | h2
  · exact (h1.lt.2 q h2).2 hm
  · have := h1.lt.1; omega
theorem TkB.offT {w : World} {lo hi B : Nat} {a : Option Addr} {n c : Nat} {tk : List (List UInt8)} (h : TkB w B a n c tk) {b : Nat} {cs : Array Value} {z : Nat × Nat} (hb : w.heap[b]? = some (.cells cs 53 z)) (ho : b < lo ∨ hi ≤ b) : b ∉ Sq lo hi B (.slice a n c) := fun hm => by
  rw [mem_sq] at hm
  rcases hm with hm | hm | hm
  · omega
  · rw [hm, h.box] at hb
    injection hb with hb
    injection hb with _ h2
    cases h2
  · obtain ⟨cur, hh⟩ := ownsRow_block h.row hm
    rw [hh] at hb
    injection hb with hb
    injection hb with _ h2
    cases h2
/-- the names that UniqueBinders begins with -/
def takenP (q : Qn) : List (List UInt8) := q.free.map Prod.fst ++ freeP q.body [] []
/-- the question that UniqueBinders answers -/
def uniqQ (q : Qn) : Qn := ⟨q.free, (apN q.body [] (takenP q)).1⟩
set_option maxRecDepth 100000 in
set_option maxHeartbeats 25600000 in
theorem uniq_ok (q : Qn) (v : Value) (w : World) (P : Nat → Prop) (h : QnV w P q v) (hk : sizeF q.body ≤ 1000) (hin : inN 10000000 q.body) (hfn : ∀ y ∈ q.free, y.1.length ≤ 10000000) (hE : Env w ∧ SEnv w ∧ FEnv w) (hpw : PowT w) (hr : rightF nameF q = 0) (hf : formF nameF q.body = 0) (hl : q.free.length ≤ 100) (hn : nmsF q.body + sizeF q.body + 2 ≤ 3000) :
    Calls Tryz.prog 29 #[v] w fun r w' => ∃ v', r = .returned (.tuple #[v', .int .i64 0]) ∧ QnV w' (fun _ => True) (uniqQ q) v' ∧ Upto [] w w' := by
  have HCQ : Hid (∀ u, Upto [] w u → Calls Tryz.prog 62 #[v] u fun e w' => e = .returned (.int .i64 0) ∧ Upto [] u w') := Lib.hid (fun u (hu : Upto [] w u) => by
    have := checkq_calls q v u P (h.keep (Keep.upto hu (by simp))) (by omega) hin hfn ⟨hE.1.ext hu, hE.2.1.upto hu (by simp), hE.2.2.ext hu⟩
    rwa [hr] at this)
  obtain ⟨f1, f3, o1, a1, a2, a3, s1, n1, m1, l1, l2, l3, rfl, hv, hnd⟩ := h.open
  have HG := Lib.hid (vars_slice hv)
  have HVC := Lib.hid (fun u (hu : Upto [] w u) => vclone_calls q.free _ u P (by omega) (SlP.ext hv hu))
  have hgd := (good_of _ hf).1
  have HFR := Lib.hid (fun u (hu : Upto [] w u) => FreeT_calls q.body _ u P (hnd.ext hu) (by omega) hgd (by omega))
  have HCL := Lib.hid (fun u (hu : Upto [] w u) => tclone_calls 1000 q.body hk (by omega) (inN.big (M := 10000000) (by omega) q.body hin) P _ u (hnd.ext hu))
  have HAP := Lib.hid (apP_calls w hE.1 hpw (depthF q.body))
  have hLF : (freeP q.body [] []).length ≤ 3000 := by
    have := freeP_len q.body [] []
    simp at this
    omega
  have HLF := Lib.hid hLF
  have HOK : Hid (AqOk (depthF q.body) q.body [] (takenP q)) := Lib.hid ⟨Nat.le_refl _, hf, by omega, by unfold takenP; rw [List.length_append, List.length_map]; omega, by simp⟩
  have hL0 : (0 : Int) ≤ q.free.length := by omega
  have hL1 : (q.free.length : Int) ≤ 100 := by omega
  clear h hk hin hfn hE hv hnd hr hf hn hgd hpw
  obtain ⟨W, hW⟩ : ∃ W, W = (w.alloc (.cells #[.slice f1 q.free.length f3, .int .i64 o1, .slice a1 a2 a3, .int .i64 s1, .int .i64 n1, .int .i64 m1, .slice l1 l2 l3] 53)).alloc (.cells #[.slice none 0 0, .int .i64 0, .slice none 0 0, .int .i64 0, .int .i64 0, .int .i64 0, .slice none 0 0] 53) := ⟨_, rfl⟩
  have HU : Hid (Upto [] w W) := Lib.hid (by rw [hW]; exact ((Upto.refl [] w).alloc _).alloc _)
  have HB1 : Hid (W.heap[w.heap.size]? = some (.cells #[.slice f1 q.free.length f3, .int .i64 o1, .slice a1 a2 a3, .int .i64 s1, .int .i64 n1, .int .i64 m1, .slice l1 l2 l3] 53 (0, 0))) := Lib.hid (by rw [hW]; exact alloc_old (new_at w _) _)
  have HB2 : Hid (W.heap[w.heap.size + 1]? = some (.cells #[.slice none 0 0, .int .i64 0, .slice none 0 0, .int .i64 0, .int .i64 0, .int .i64 0, .slice none 0 0] 53 (0, 0))) := Lib.hid (by rw [hW]; exact new_at1 w _ _)
  obtain ⟨y0, y1, y2, y3, y4, y5, y6⟩ := cells7 HB1.out
  go_enter Tryz.func29, Tryz.ntmps29
  go_wp2_with fail
  simp only [← hW]
  clear hW
  try go_wp2_with fail
  refine (HCQ.out _ HU.out).mono ?_
  rintro r w2 ⟨rfl, hu2⟩
  have HU2 := Lib.hid (HU.out.trans_ext hu2)
  have HC1 := Lib.hid (hu2.at HB1.out (by simp))
  have HC2 := Lib.hid (hu2.at HB2.out (by simp))
  clear hu2 y0 y1 y2 y3 y4 y5 y6
  obtain ⟨y0, y1, y2, y3, y4, y5, y6⟩ := cells7 HC1.out
  go_wp2_with fail
  refine (HVC.out _ HU2.out).mono ?_
  rintro r w3 ⟨vf, rfl, hvf, hu3⟩
  obtain ⟨b1, b3, rfl⟩ := SlP.len hvf
  have HVF := Lib.hid (SlP.mono hvf (Q := fun b => w2.heap.size ≤ b ∧ b < w3.heap.size) (fun b hb hl => ⟨hb.1, hl.lt⟩))
  have HU3 := Lib.hid (HU2.out.trans_ext hu3)
  have HD1 := Lib.hid (hu3.at HC1.out (by simp))
  have HD2 := Lib.hid (hu3.at HC2.out (by simp))
  have HW3 : Hid (w.heap.size + 1 < w2.heap.size ∧ w2.heap.size ≤ w3.heap.size) := Lib.hid ⟨lt_of_heap HC2.out, hu3.size⟩
  clear hvf hu3 y0 y1 y2 y3 y4 y5 y6
  obtain ⟨W5, hW5⟩ : ∃ W5, W5 = (w3.alloc (.cells #[.slice b1 q.free.length b3, .int .i64 0, .slice none 0 0, .int .i64 0, .int .i64 0, .int .i64 0, .slice none 0 0] 53)).alloc (.cells #[.slice none 0 0] 22) := ⟨_, rfl⟩
  have HV5 : Hid (Upto [] w3 W5) := Lib.hid (by rw [hW5]; exact ((Upto.refl [] w3).alloc _).alloc _)
  have HE5 : Hid (W5.heap[w3.heap.size]? = some (.cells #[.slice b1 q.free.length b3, .int .i64 0, .slice none 0 0, .int .i64 0, .int .i64 0, .int .i64 0, .slice none 0 0] 53 (0, 0))) := Lib.hid (by rw [hW5]; exact alloc_old (new_at w3 _) _)
  have HX5 : Hid (W5.heap[w3.heap.size + 1]? = some (.cells #[.slice none 0 0] 22 (0, 0))) := Lib.hid (by rw [hW5]; exact new_at1 w3 _ _)
  have HZ5 : Hid (W5.heap.size = w3.heap.size + 2) := Lib.hid (by rw [hW5]; show ((w3.heap.push _).push _).size = _; simp)
  have hF1 : ((w3.alloc (.cells #[.slice b1 q.free.length b3, .int .i64 0, .slice none 0 0, .int .i64 0, .int .i64 0, .int .i64 0, .slice none 0 0] 53)).alloc (.cells #[.slice none 0 0] 22)).heap[w.heap.size]? = _ := alloc_old (alloc_old HD1.out _) _
  have HF1 := Lib.hid hF1
  clear hF1
  obtain ⟨y0, y1, y2, y3, y4, y5, y6⟩ := cells7 HD1.out
  obtain ⟨x0, x1, x2, x3, x4, x5, x6⟩ := cells7 HF1.out
  go_wp2_with fail
  try simp only [← hW5]
  have HG1 : Hid (W5.heap[w.heap.size]? = some (.cells #[.slice f1 q.free.length f3, .int .i64 o1, .slice a1 a2 a3, .int .i64 s1, .int .i64 n1, .int .i64 m1, .slice l1 l2 l3] 53 (0, 0))) := Lib.hid (by rw [hW5]; exact HF1.out)
  have HG2 := Lib.hid (HV5.out.at HD2.out (by simp))
  have HU5 := Lib.hid (HU3.out.trans_ext HV5.out)
  clear hW5 HF1 y0 y1 y2 y3 y4 y5 y6 x0 x1 x2 x3 x4 x5 x6
  obtain ⟨i0, hi0, hz0, hz1, hz2⟩ := info9'
  have HI0 := Lib.hid hi0
  have HZ0 := Lib.hid hz0
  have HZ1' := Lib.hid hz1
  have HZ2' := Lib.hid hz2
  clear hi0 hz0 hz1 hz2
  go_loopw [22] (fun i wr => ∃ (j : Nat) (ta : Option Addr) (tc : Nat), j ≤ q.free.length ∧ i = .int .i64 j ∧ Hid (TkB wr (w3.heap.size + 1) ta j tc ((q.free.take j).map Prod.fst)) ∧ Hid (∀ g, (Value.slice ta j tc).ownBlock = some g → W5.heap.size ≤ g) ∧ Hid (Upto [w3.heap.size + 1] W5 wr)) (fun i _ => q.free.length - (intOf i).toNat)
  case atStart => exact ⟨0, none, 0, by omega, rfl, Lib.hid ⟨HX5.out, by simpa using World.ownsRow_nil W5 0 9 1, rfl⟩, Lib.hid (fun g hg => by simp [Value.ownBlock] at hg), Lib.hid (Upto.refl _ _)⟩
  case round =>
    obtain ⟨j, ta, tc, hj, rfl, HT, HO, HW⟩ := hrel
    have hj0 : (0 : Int) ≤ j := by omega
    rcases Nat.lt_or_ge j q.free.length with hlt | hge
    · have hltI : (j : Int) < q.free.length := by omega
      obtain ⟨x, hx⟩ : ∃ x, q.free[j]? = some x := ⟨_, List.getElem?_eq_getElem hlt⟩
      have HTK : Hid ((q.free.take (j + 1)).map Prod.fst = (q.free.take j).map Prod.fst ++ [x.1]) := Lib.hid (by
        rw [List.take_add_one, hx]
        simp)
      obtain ⟨g, o, rfl, c0, c1⟩ := HG.out j x hx
      have HGx := HG
      have hw : Upto [] w wr := HU5.out.trans HW.out (fun b hb => Or.inr (by have := HW3.out; simp at hb; omega))
      replace c0 := up_cell hw c0
      replace c1 := up_cell hw c1
      obtain ⟨x1, x2⟩ := x
      simp only at c0 c1 HTK
      have ha1 : Upto [] wr (wr.alloc (.cells #[.string ⟨x1.toArray⟩, .int .i64 x2] 86)) := (Upto.refl [] wr).alloc _
      have ha2 := ha1.alloc (.cells #[.string ⟨x1.toArray⟩] 9)
      have HA2 := Lib.hid ha2
      have hbx := cell_of (HT.out.ext ha1).box 0
      have hbx2 := cell_of (HT.out.ext ha2).box 0
      have hn := new_at wr (.cells #[.string ⟨x1.toArray⟩, .int .i64 x2] 86)
      have n0 := cell_of hn 0
      simp only [List.getElem?_toArray, List.getElem?_cons_zero] at hbx hbx2 n0
      have hrow := (HT.out.ext ha2).row
      have hsrc : ∀ (i : Nat) (u : Value), [sV x1][i]? = some u → ((wr.alloc (.cells #[.string ⟨x1.toArray⟩, .int .i64 x2] 86)).alloc (.cells #[.string ⟨x1.toArray⟩] 9)).cell? ((⟨wr.heap.size + 1, 0, none⟩ : Addr).add i) = some u := cells_at (l := [sV x1]) (new_at1 wr (.cells #[.string ⟨x1.toArray⟩, .int .i64 x2] 86) (.cells #[.string ⟨x1.toArray⟩] 9))
      clear hx hw ha1 ha2 hn
      go_wp2_with (at_builtin; refine wpList_app _ rfl (.tmp 26) (.tmp 29) 22 rfl 9 i0 (.string ⟨#[]⟩) 1 16 Tryz.underlying22 HI0.out HZ0.out HZ1'.out HZ2'.out rfl (by decide) (.slice ta j tc) j _ rfl hrow ⟨wr.heap.size + 1, 0, none⟩ 1 1 [sV x1] rfl rfl hsrc (by simp [Value.oneCell', sV]) (by unfold maxLen; omega) (by omega) ?_; intro vb vd wb ho hu hw; have HAP2 := Lib.hid (HT.out.put (tk2 := (q.free.take (j + 1)).map Prod.fst) HA2.out (by rw [HTK.out, List.map_append]; exact ho) (by rw [HTK.out, List.length_append, HT.out.len]; rfl) hu hw); have HWO := Lib.hid hw; have hfb := free_of HAP2.out.2.2 0; have hcb := cell_of HAP2.out.2.2 0; simp only [List.getElem?_toArray, List.getElem?_cons_zero] at hcb; clear ho hu hw hrow hsrc hbx hbx2 n0 c0 c1)
      exact ⟨⟨j + 1, vb, vd, by omega, by simp, Lib.hid HAP2.out.1, Lib.hid (fun g hg => (HWO.out g hg).elim (HO.out g) (fun h2 => by have := HA2.out.size; have := HW.out.size; omega)), Lib.hid ((HW.out.trans_ext HA2.out).trans HAP2.out.2.1 (fun b hb => by
        rcases List.mem_cons.1 hb with hb | hb
        · exact Or.inl (by simp [hb])
        · exact Or.inr (HO.out b (Option.mem_toList.1 hb))))⟩, by simp [intOf]; omega⟩
    · obtain rfl : j = q.free.length := by omega
      have HTT : Hid (((q.free.take q.free.length).map Prod.fst) = q.free.map Prod.fst) := Lib.hid (by rw [List.take_length])
      rw [HTT.out] at HT
      have HH1 := Lib.hid (HW.out.at HG1.out (by have := HW3.out; simp; omega))
      have HH2 := Lib.hid (HW.out.at HG2.out (by have := HW3.out; simp; omega))
      have HHE := Lib.hid (HW.out.at HE5.out (by simp))
      have HUr : Hid (Upto [] w wr) := Lib.hid (HU5.out.trans HW.out (fun b hb => Or.inr (by have := HW3.out; simp at hb; omega)))
      obtain ⟨LF, hLFe⟩ : ∃ LF, LF = freeP q.body [] [] := ⟨_, rfl⟩
      have HLE := Lib.hid hLFe
      rw [← hLFe] at HFR hLF
      have HHF := Lib.hid (fun u (hu : Upto [] wr u) => HFR.out u (HUr.out.trans_ext hu))
      clear hLFe
      obtain ⟨y0, y1, y2, y3, y4, y5, y6⟩ := cells7 HH1.out
      have hbx := cell_of HT.out.box 0
      simp only [List.getElem?_toArray, List.getElem?_cons_zero] at hbx
      go_wp2_with fail
      have eb : ∀ u : Ext wr, u.w.cell? ⟨w3.heap.size + 1, 0, none⟩ = some (.slice ta q.free.length tc) := fun u => u.cell hbx
      have e1 : ∀ u : Ext wr, u.w.cell? ⟨w.heap.size, 1, none⟩ = some _ := fun u => u.cell y1
      have e2 : ∀ u : Ext wr, u.w.cell? ⟨w.heap.size, 2, none⟩ = some _ := fun u => u.cell y2
      have e3 : ∀ u : Ext wr, u.w.cell? ⟨w.heap.size, 3, none⟩ = some _ := fun u => u.cell y3
      have e4 : ∀ u : Ext wr, u.w.cell? ⟨w.heap.size, 4, none⟩ = some _ := fun u => u.cell y4
      have e5 : ∀ u : Ext wr, u.w.cell? ⟨w.heap.size, 5, none⟩ = some _ := fun u => u.cell y5
      have e6 : ∀ u : Ext wr, u.w.cell? ⟨w.heap.size, 6, none⟩ = some _ := fun u => u.cell y6
      clear hbx y0 y1 y2 y3 y4 y5 y6
      refine wp_region_seg_at [3] [] [0, 1, 2, 3] [4, 5] 4 (by kernel_rfl) (by kernel_rfl) (by kernel_rfl) ?_
      iterate 3 (refine seg_plain rfl rfl rfl rfl rfl ?_; intro K' hK'; go_big_quiet_op; go_big_quiet_on)
      refine seg_callO (Y := Option Addr × Nat) (fun tt => .slice tt.1 LF.length tt.2) (fun tt u => TxI wr LF (.slice tt.1 LF.length tt.2) u) (fun _ => []) rfl rfl rfl rfl (fun _ _ _ h hu => h.ext hu) (fun _ => List.nodup_nil) (fun w => by go_simp) (fun w' hu hd => (HHF.out w' hu).mono fun r w2 ⟨vo, h1, h2⟩ => by
        obtain ⟨va, vc, rfl, -⟩ := ownsRow_len h2.row
        exact ⟨(va, vc), h1, h2.up, ⟨h2.row, fun g hg => Nat.le_trans hu.size (h2.own g hg), hu.trans_ext h2.up⟩, fun b hb => by cases hb⟩) ?_
      rintro ⟨fa, fc⟩
      simp only [Act.put, List.setIfInBounds_toArray, List.set_cons_zero, List.set_cons_succ]
      intro w9 hg
      have HTF : Hid (TxI wr LF (.slice fa LF.length fc) w9) := Lib.hid hg.hold.1
      have HU9 := Lib.hid hg.up
      clear hg eb e1 e2 e3 e4 e5 e6
      simp only [List.drop_succ_cons, List.drop_zero]
      have HT9 := Lib.hid (HT.out.ext HU9.out)
      have hrow := HT9.out.row
      have hone : ∀ u ∈ LF.map sV, u.oneCell' = true := sV_one LF
      have HSR : Hid (SlC w9 (.slice fa LF.length fc) (LF.map sV)) := Lib.hid (HTF.out.slp.slc' (by rw [List.length_map]))
      have HML : Hid ((LF.map sV).length = LF.length) := Lib.hid (by rw [List.length_map])
      have HTQ : Hid (takenP q = q.free.map Prod.fst ++ LF) := Lib.hid (by rw [HLE.out]; rfl)
      have hne1 : w3.heap.size + 1 ≠ w.heap.size := by have := HW3.out; omega
      have hne2 : w.heap.size ≠ w3.heap.size + 1 := Ne.symm hne1
      have hml : (LF.map sV).length = LF.length := HML.out
      refine wpList_apps _ rfl (.tmp 32) (.tmp 35) 22 rfl 9 i0 (.string ⟨#[]⟩) 16 Tryz.underlying22 HI0.out HZ0.out HZ1'.out HZ2'.out rfl (.slice ta q.free.length tc) q.free.length _ rfl hrow (.slice fa LF.length fc) (LF.map sV) rfl HSR.out hone (by rw [HML.out]; unfold maxLen; omega) (by rw [HML.out]; omega) ?_
      intro vb vd wb ho hu hw
      rw [HML.out] at ho hw
      have HPT := Lib.hid (HT9.out.put (tk2 := takenP q) (Upto.refl [] w9) (by rw [HTQ.out, List.map_append]; exact ho) (by rw [HTQ.out, List.length_append, List.length_map]) hu hw)
      have HWO := Lib.hid hw
      have hfb := free_of HPT.out.2.2 0
      have hcb := cell_of HPT.out.2.2 0
      simp only [List.getElem?_toArray, List.getElem?_cons_zero] at hcb
      have HQ1 := Lib.hid (hu.at (HU9.out.at HH1.out (by simp)) (fun hm => row_ne hrow hm (HU9.out.at HH1.out (by simp)) (by decide)))
      have y0 := cell_of HQ1.out 0; have y1 := cell_of HQ1.out 1; have y2 := cell_of HQ1.out 2; have y3 := cell_of HQ1.out 3; have y4 := cell_of HQ1.out 4; have y5 := cell_of HQ1.out 5; have y6 := cell_of HQ1.out 6; simp only [List.getElem?_toArray, List.getElem?_cons_zero, List.getElem?_cons_succ] at y0 y1 y2 y3 y4 y5 y6; rw [HML.out]
      clear ho hu hw hrow
      go_wp2_with fail
      clear hfb hcb y0 y1 y2 y3 y4 y5 y6
      obtain ⟨wc, hwc⟩ : ∃ wc, wc = wb.setCell ⟨w3.heap.size + 1, 0, none⟩ (.slice vb (q.free.length + LF.length) vd) := ⟨_, rfl⟩
      simp only [← hwc]
      have HTC : Hid (TkB wc (w3.heap.size + 1) vb (q.free.length + LF.length) vd (takenP q)) := Lib.hid (by rw [hwc]; exact HPT.out.1)
      have HU9c : Hid (Upto ((w3.heap.size + 1) :: (Value.slice ta q.free.length tc).ownBlock.toList) w9 wc) := Lib.hid (by rw [hwc]; exact HPT.out.2.1)
      have HOV : Hid (∀ g, (Value.slice vb (q.free.length + LF.length) vd).ownBlock = some g → W5.heap.size ≤ g) := Lib.hid (fun g hg => (HWO.out g hg).elim (HO.out g) (fun h2 => by have := HU9.out.size; have := HW.out.size; omega))
      have HU3c : Hid (Upto [] w3 wc) := Lib.hid (((HV5.out.trans HW.out (fun b hb => Or.inr (by simp at hb; omega))).trans_ext HU9.out).trans HU9c.out (fun b hb => Or.inr (by
        rcases List.mem_cons.1 hb with hb | hb
        · omega
        · have := HO.out b (Option.mem_toList.1 hb); have := HZ5.out; omega)))
      have HUc := Lib.hid (HU3.out.trans_ext HU3c.out)
      have HC1c := Lib.hid (HU3c.out.at HD1.out (by simp))
      have HEc := Lib.hid (HU9c.out.at (HU9.out.at HHE.out (by simp)) (fun hm => by
        rcases List.mem_cons.1 hm with hm | hm
        · omega
        · exact row_ne HT9.out.row hm (HU9.out.at HHE.out (by simp)) (by decide)))
      have HXc : Hid (w3.heap.size + 1 < wc.heap.size) := Lib.hid HTC.out.lt.1
      clear hwc
      refine (HCL.out _ HUc.out).mono ?_
      rintro r wd ⟨vt, rfl, ho4, hu4⟩
      obtain ⟨po, pa1, pn1, pc1, ps, pn, pm, pa2, pn2, pc2, rfl⟩ := (ho4.ndv _ _ _ _).six
      have HO4 := Lib.hid ho4
      have HU4 := Lib.hid hu4
      have HEd := Lib.hid (hu4.at HEc.out (by simp))
      clear ho4 hu4
      have hmm := @run_makeMap Tryz.prog
      go_wp2_with fail
      clear hmm
      obtain ⟨we, hwe⟩ : ∃ we, we = wd.alloc (.map #[] 0) := ⟨_, rfl⟩
      simp only [← hwe]
      have HUe : Hid (Upto [] wd we) := Lib.hid (by rw [hwe]; exact (Upto.refl [] wd).alloc _)
      have HEM : Hid (EnvM we wd.heap.size []) := Lib.hid (by rw [hwe]; exact EnvM.nil wd)
      have HEe := Lib.hid (HUe.out.at HEd.out (by simp))
      clear hwe
      have HTe := Lib.hid ((HTC.out.ext HU4.out).ext HUe.out)
      have HAT : Hid (AqAt w we wc.heap.size wd.heap.size [] wd.heap.size (takenP q) (w3.heap.size + 1) vb (q.free.length + LF.length) vd) := Lib.hid ⟨HUe.out.size, HUc.out.size, (HUc.out.trans_ext HU4.out).trans_ext HUe.out, HEM.out, Or.inr (Nat.le_refl _), HTe.out, ⟨Or.inl HXc.out, by have := HU3.out.size; omega⟩, fun q hq => ⟨Or.inl (HTC.out.lt.2 q hq).1, by have := HOV.out q hq; have := HU5.out.size; omega⟩⟩
      refine (HAP.out q.body _ wc.heap.size wd.heap.size [] wd.heap.size (takenP q) (w3.heap.size + 1) vb _ vd we (OwT.same _ _ _ _ HO4.out (SameIn.upto HUe.out (Nat.le_refl _) (by simp))) HOK.out HAT.out).mono ?_
      rintro r wf ⟨rfl, ho6, -, hu6⟩
      have HN6 := Lib.hid (ho6.ndv _ _ _ _)
      have HU3f : Hid (Upto [] w3 wf) := Lib.hid (((HU3c.out.trans_ext HU4.out).trans_ext HUe.out).trans hu6 (fun b hb => Or.inr (by
        rw [mem_sq] at hb
        have h1 := HU3c.out.size
        rcases hb with hb | hb | hb
        · omega
        · omega
        · have := HOV.out b hb; have := HZ5.out; omega)))
      have HE1 := Lib.hid (hu6.at HEe.out (HTe.out.offT HEe.out (Or.inl (by have := HXc.out; omega))))
      have HE2 := Lib.hid (HU3f.out.at HD2.out (by simp))
      have HU6 := Lib.hid (HU3.out.trans_ext HU3f.out)
      clear ho6 hu6
      obtain ⟨y0, y1, y2, y3, y4, y5, y6⟩ := cells7 HE1.out
      obtain ⟨f0, f1, f2, f3, f4, f5, f6⟩ := frees7 HE1.out
      obtain ⟨z0, z1, z2, z3, z4, z5, z6⟩ := cells7 HE2.out
      obtain ⟨g0, g1, g2, g3, g4, g5, g6⟩ := frees7 HE2.out
      have HST := Lib.hid (six1_store HE1.out (.int .i64 po) (.slice pa1 pn1 pc1) (.int .i64 ps) (.int .i64 pn) (.int .i64 pm) (.slice pa2 pn2 pc2))
      obtain ⟨k0, k1, k2, k3, k4, k5, k6⟩ := cells7 HST.out
      have hne3 : w3.heap.size ≠ w.heap.size + 1 := by have := HW3.out; omega
      have hne4 : w.heap.size + 1 ≠ w3.heap.size := Ne.symm hne3
      go_wp2_with fail
      clear y0 y1 y2 y3 y4 y5 y6 f0 f1 f2 f3 f4 f5 f6 z0 z1 z2 z3 z4 z5 z6 g0 g1 g2 g3 g4 g5 g6 k0 k1 k2 k3 k4 k5 k6
      have hE2 : (((((((wf.setCell ⟨w3.heap.size, 1, none⟩ (.int .i64 po)).setCell ⟨w3.heap.size, 2, none⟩ (.slice pa1 pn1 pc1)).setCell ⟨w3.heap.size, 3, none⟩ (.int .i64 ps)).setCell ⟨w3.heap.size, 4, none⟩ (.int .i64 pn)).setCell ⟨w3.heap.size, 5, none⟩ (.int .i64 pm)).setCell ⟨w3.heap.size, 6, none⟩ (.slice pa2 pn2 pc2))).heap[w.heap.size + 1]? = some (.cells #[.slice none 0 0, .int .i64 0, .slice none 0 0, .int .i64 0, .int .i64 0, .int .i64 0, .slice none 0 0] 53 (0, 0)) := (six1_self wf w3.heap.size (.int .i64 po) (.slice pa1 pn1 pc1) (.int .i64 ps) (.int .i64 pn) (.int .i64 pm) (.slice pa2 pn2 pc2)).at HE2.out (by simp; omega)
      have hst := set7_at hE2 (.slice b1 q.free.length b3) (.int .i64 po) (.slice pa1 pn1 pc1) (.int .i64 ps) (.int .i64 pn) (.int .i64 pm) (.slice pa2 pn2 pc2)
      have h1 := six1_self wf w3.heap.size (.int .i64 po) (.slice pa1 pn1 pc1) (.int .i64 ps) (.int .i64 pn) (.int .i64 pm) (.slice pa2 pn2 pc2)
      have h2 := set7_up (Upto.refl [w.heap.size + 1] (((((((wf.setCell ⟨w3.heap.size, 1, none⟩ (.int .i64 po)).setCell ⟨w3.heap.size, 2, none⟩ (.slice pa1 pn1 pc1)).setCell ⟨w3.heap.size, 3, none⟩ (.int .i64 ps)).setCell ⟨w3.heap.size, 4, none⟩ (.int .i64 pn)).setCell ⟨w3.heap.size, 5, none⟩ (.int .i64 pm)).setCell ⟨w3.heap.size, 6, none⟩ (.slice pa2 pn2 pc2)))) (R := w.heap.size + 1) (Or.inl (by simp)) (.slice b1 q.free.length b3) (.int .i64 po) (.slice pa1 pn1 pc1) (.int .i64 ps) (.int .i64 pn) (.int .i64 pm) (.slice pa2 pn2 pc2)
      have hup := set7_up (HU6.out.trans h1 (fun b hb => Or.inr (by have := HW3.out; simp at hb; omega))) (R := w.heap.size + 1) (Or.inr (by omega)) (.slice b1 q.free.length b3) (.int .i64 po) (.slice pa1 pn1 pc1) (.int .i64 ps) (.int .i64 pn) (.int .i64 pm) (.slice pa2 pn2 pc2)
      have hnd := ((HN6.out.upto h1 (fun b hb _ hm => by have := HXc.out; simp at hm; omega)).upto h2 (fun b hb _ hm => by have := HXc.out; have := HW3.out; simp at hm; omega)).mono (Q := fun _ => True) (fun _ _ _ => trivial)
      have hvs := ((SlP.ext HVF.out HU3f.out).upto h1 (fun b hb _ hm => by simp at hm; omega)).upto h2 (fun b hb _ hm => by have := HW3.out; simp at hm; omega)
      obtain ⟨q0, q1, q2, q3, q4, q5, q6⟩ := cells7 hst
      exact bodyPost_ret (v := .tuple #[.agg #[.slice b1 q.free.length b3, .int .i64 po, .slice pa1 pn1 pc1, .int .i64 ps, .int .i64 pn, .int .i64 pm, .slice pa2 pn2 pc2], .int .i64 0]) (by simp [results, Tryz.results29, go_sem, q0, q1, q2, q3, q4, q5, q6]) rfl ⟨_, rfl, ⟨_, _, _, _, _, _, _, rfl, SlP.mono hvs (fun _ _ _ => trivial), hnd⟩, hup⟩
end Go.Proofs.YtbnebkkpmcjmbaaGreatDoor


namespace Go.Proofs.YtbnebkkpmcjmbaaGreatDoor
open Go.RowKit Go.PL Go.Maps
theorem uniq_db (q : Qn) (h : formF nameF q.body = 0) (hs : (takenP q).length + sizeF q.body ≤ 8000) : dbN (uniqQ q).body [] = dbN q.body [] := by
  have h1 := db_ap q.body [] (takenP q) h hs (by simp) ⟨by simp, by simp⟩ (fun y hy _ => ⟨by
    unfold takenP
    rw [List.mem_append, free_same]
    exact Or.inr ((mem_free q.body y).2 hy), by simp⟩)
  simpa [uniqQ] using h1
theorem uniq_like (q q' : Qn) (h : formF nameF q.body = 0) (h' : formF nameF q'.body = 0) (hs : (takenP q).length + sizeF q.body ≤ 8000) (hs' : (takenP q').length + sizeF q'.body ≤ 8000) : likeQ (uniqQ q) (uniqQ q') = likeQ q q' := by
  have h1 : likeF (uniqQ q).body (uniqQ q').body [] [] = likeF q.body q'.body [] [] := by
    rw [Bool.eq_iff_iff, like_db, like_db, uniq_db q h hs, uniq_db q' h' hs']
  unfold likeQ
  rw [h1]
  rfl
theorem likeQ_symm (q q' : Qn) : likeQ q q' = likeQ q' q := by
  unfold likeQ
  rw [like_symm q.body q'.body]
  congr 1
  rw [decide_eq_decide]
  exact eq_comm
theorem likeQ_refl (q : Qn) : likeQ q q = true := by
  unfold likeQ
  rw [like_refl, decide_eq_true rfl]
  rfl
/-- what is left of a question's size and names -/
theorem uniq_shape {q : Qn} (h : formF nameF q.body = 0) (hs : (takenP q).length + sizeF q.body ≤ 8000) : sizeF (uniqQ q).body = sizeF q.body ∧ nmsF (uniqQ q).body = nmsF q.body ∧ formF nameF (uniqQ q).body = 0 := by
  obtain ⟨-, h2, h3, h4, -⟩ := apN_shape q.body [] (takenP q) h (by simp) hs
  exact ⟨h2, h3, h4⟩
theorem takenP_len (q : Qn) : (takenP q).length ≤ q.free.length + nmsF q.body := by
  unfold takenP
  rw [List.length_append, List.length_map]
  have := freeP_len q.body [] []
  simp at this
  omega
end Go.Proofs.YtbnebkkpmcjmbaaGreatDoor


namespace Go.Proofs.YtbnebkkpmcjmbaaGreatDoor
open Go.RowKit Go.PL Go.Maps
set_option maxRecDepth 100000 in
set_option maxHeartbeats 6400000 in
theorem right_calls (q : Qn) (v : Value) (w : World) (P : Nat → Prop) (h : QnV w P q v) (hk : sizeF q.body ≤ 10000000) (hin : inN 10000000 q.body) (hfn : ∀ y ∈ q.free, y.1.length ≤ 10000000) : Calls Tryz.prog 31 #[v] w fun e w' => e = .returned (.int .i64 (rightF nameF q : Nat)) ∧ Upto [] w w' := by
  obtain ⟨f1, f3, o1, a1, a2, a3, s1, n1, m1, l1, l2, l3, rfl, hv, hn⟩ := h.open
  have hu1 : Upto [] w (w.alloc (.cells #[.slice f1 q.free.length f3, .int .i64 o1, .slice a1 a2 a3, .int .i64 s1, .int .i64 n1, .int .i64 m1, .slice l1 l2 l3] 50)) := (Upto.refl [] w).alloc _
  have HU1 := Lib.hid hu1
  have HB1 := Lib.hid (new_at w (.cells #[.slice f1 q.free.length f3, .int .i64 o1, .slice a1 a2 a3, .int .i64 s1, .int .i64 n1, .int .i64 m1, .slice l1 l2 l3] 50))
  by_cases h8 : 8 < q.free.length
  · have h8I : (8 : Int) < q.free.length := by omega
    have HF : Hid (rightF nameF q = 8) := Lib.hid (by unfold rightF; rw [if_pos h8])
    rw [HF.out]
    clear h hv hn hk hin hfn hu1
    go_enter Tryz.func31, Tryz.ntmps31
    go_wp2_with fail
    go_ret
    exact ⟨rfl, HU1.out⟩
  have h8I : ¬ (8 : Int) < q.free.length := by omega
  have H8 := Lib.hid h8
  have HG := Lib.hid (vars_slice hv)
  have HFN := Lib.hid hfn
  have HCK := Lib.hid (fun u (hu : Upto [] w u) => checkR_calls q.body _ u P (hn.ext hu) hk hin)
  have hL0 : (0 : Int) ≤ q.free.length := by omega
  have hL1 : (q.free.length : Int) ≤ 8 := by omega
  clear h hv hn hk hin hfn hu1 h8
  go_enter Tryz.func31, Tryz.ntmps31
  go_wp2_with fail
  go_loopw [3] (fun i wr => ∃ j : Nat, j ≤ q.free.length ∧ i = .int .i64 j ∧ Hid (varsE nameF (q.free.drop j) ((q.free.take j).map Prod.fst) = varsE nameF q.free []) ∧ Hid (Upto [] (w.alloc (.cells #[.slice f1 q.free.length f3, .int .i64 o1, .slice a1 a2 a3, .int .i64 s1, .int .i64 n1, .int .i64 m1, .slice l1 l2 l3] 50)) wr)) (fun i _ => q.free.length - (intOf i).toNat)
  case atStart => exact ⟨0, by omega, rfl, Lib.hid (by simp), Lib.hid (Upto.refl _ _)⟩
  case round =>
    obtain ⟨j, hj, rfl, HE, HU⟩ := hrel
    have hj0 : (0 : Int) ≤ j := by omega
    have hb := HU.out.at HB1.out (by simp)
    obtain ⟨y0, y1, y2, y3, y4, y5, y6⟩ := cells7 hb
    have HW := Lib.hid (HU1.out.trans_ext HU.out)
    rcases Nat.lt_or_ge j q.free.length with hlt | hge
    · have hltI : (j : Int) < q.free.length := by omega
      obtain ⟨x, hx⟩ : ∃ x, q.free[j]? = some x := ⟨_, List.getElem?_eq_getElem hlt⟩
      have HDR : Hid (q.free.drop j = x :: q.free.drop (j + 1)) := Lib.hid (by
        obtain ⟨hi, h3⟩ := List.getElem?_eq_some_iff.1 hx
        rw [List.drop_eq_getElem_cons hi, h3])
      have HTK : Hid ((q.free.take (j + 1)).map Prod.fst = (q.free.take j).map Prod.fst ++ [x.1]) := Lib.hid (by
        rw [List.take_add_one, hx]
        simp)
      have hnl := HFN.out x (List.mem_of_getElem? hx)
      obtain ⟨g, o, rfl, c0, c1⟩ := HG.out j x hx
      have HGx := HG
      replace c0 := up_cell HW.out c0
      replace c1 := up_cell HW.out c1
      obtain ⟨x1, x2⟩ := x
      simp only at c0 c1 hnl HTK
      have hxa : Upto [] wr (wr.alloc (.cells #[.string ⟨x1.toArray⟩, .int .i64 x2] 90)) := (Upto.refl [] wr).alloc _
      have HXV := Lib.hid (HU.out.trans_ext hxa)
      have HXA := Lib.hid (HW.out.trans_ext hxa)
      have hn := new_at wr (.cells #[.string ⟨x1.toArray⟩, .int .i64 x2] 90)
      have HN := Lib.hid hn
      have HBx := Lib.hid (hxa.at hb (by simp))
      obtain ⟨n0, n1⟩ := cells2 hn
      have HC := Lib.hid (isName_calls x1 (wr.alloc (.cells #[.string ⟨x1.toArray⟩, .int .i64 x2] 90)) (by omega))
      have hbb : nameF x1 = true ∨ nameF x1 = false := by cases nameF x1 <;> simp
      rcases hbb with hb2 | hb2
      case inr =>
        have HF : Hid (rightF nameF q = 3) := Lib.hid (right_vars H8.out (by decide) (by rw [← HE.out, HDR.out]; unfold varsE; rw [if_pos hb2]))
        rw [hb2] at HC
        clear hx hb hb2 hxa hn hnl
        go_wp2_with fail
        refine HC.out.mono ?_
        rintro e w5 ⟨rfl, hu5⟩
        have HU5 := Lib.hid (HXA.out.trans_ext hu5)
        clear hu5
        go_wp2_with fail
        go_ret
        rw [HF.out]
        exact ⟨rfl, HU5.out⟩
      case inl =>
        by_cases hs : (decide (x2 < 0) || decide (3 < x2)) = true
        · have HF : Hid (rightF nameF q = 2) := Lib.hid (right_vars H8.out (by decide) (by rw [← HE.out, HDR.out]; unfold varsE; rw [if_neg (by rw [hb2]; decide), if_pos hs]))
          rw [hb2] at HC
          have hs2 : x2 < 0 ∨ (¬ x2 < 0 ∧ 3 < x2) := by simp at hs; omega
          clear hx hb hb2 hxa hn hnl hs
          rcases hs2 with hs2 | ⟨hs2, hs3⟩
          · go_wp2_with fail
            refine HC.out.mono ?_
            rintro e w5 ⟨rfl, hu5⟩
            have HU5 := Lib.hid (HXA.out.trans_ext hu5)
            have hb5 := hu5.at HN.out (by simp)
            obtain ⟨z0, z1⟩ := cells2 hb5
            clear hu5 hb5 z0
            go_wp2_with fail
            go_ret
            rw [HF.out]
            exact ⟨rfl, HU5.out⟩
          · go_wp2_with fail
            refine HC.out.mono ?_
            rintro e w5 ⟨rfl, hu5⟩
            have HU5 := Lib.hid (HXA.out.trans_ext hu5)
            have hb5 := hu5.at HN.out (by simp)
            obtain ⟨z0, z1⟩ := cells2 hb5
            clear hu5 hb5 z0
            go_wp2_with fail
            go_ret
            rw [HF.out]
            exact ⟨rfl, HU5.out⟩
        have HS := Lib.hid hs
        have hs2 : ¬ x2 < 0 := by simp at hs; omega
        have hs3 : ¬ 3 < x2 := by simp at hs; omega
        have HNM := Lib.hid hb2
        have HXX := Lib.hid hx
        rw [hb2] at HC
        clear hx hb hb2 hxa hn hnl hs
        go_wp2_with fail
        refine HC.out.mono ?_
        rintro e w5 ⟨rfl, hu5⟩
        have HU5 := Lib.hid (HXA.out.trans_ext hu5)
        have HV5 := Lib.hid (HXV.out.trans_ext hu5)
        have HN5 := Lib.hid (hu5.at HN.out (by simp))
        have HB5 := Lib.hid (hu5.at HBx.out (by simp))
        have hb5 := HN5.out
        have hq5 := HB5.out
        obtain ⟨z0, z1⟩ := cells2 hb5
        clear hu5 hb5 hq5 y0 y1 y2 y3 y4 y5 y6 n0 n1
        go_wp2_with fail
        clear z0 z1
        go_loopw [5] (fun i wx => ∃ m : Nat, m ≤ j ∧ i = .int .i64 m ∧ Hid (∀ p y, p < m → q.free[p]? = some y → y.1 ≠ x1) ∧ Hid (Upto [] w5 wx)) (fun i _ => j - (intOf i).toNat)
        case atStart => exact ⟨0, by omega, rfl, Lib.hid (fun p y hp => by omega), Lib.hid (Upto.refl _ _)⟩
        case round =>
          obtain ⟨m, hm, rfl, HB9, HV⟩ := hrel
          have hm0 : (0 : Int) ≤ m := by omega
          have HW9 := Lib.hid (HU5.out.trans_ext HV.out)
          rcases Nat.lt_or_ge m j with hlt2 | hge2
          · have hltJ : (m : Int) < j := by omega
            have hltK : (m : Int) < q.free.length := by omega
            obtain ⟨y, hy⟩ : ∃ y, q.free[m]? = some y := ⟨_, List.getElem?_eq_getElem (by omega)⟩
            obtain ⟨g', o', eg, p0, -⟩ := HGx.out m y hy
            simp at eg
            obtain ⟨rfl, rfl⟩ := eg
            replace p0 := up_cell HW9.out p0
            have hq9 := HV.out.at HB5.out (by simp)
            have hx9 := HV.out.at HN5.out (by simp)
            have hd := (Upto.refl [] wr).drew
            have hq8 := hd.at hq9 (by simp)
            have hx8 := hd.at hx9 (by simp)
            have p1 := (hd.cell (p := ⟨g, o + m * 2, none⟩) (World.block_lt_of_cell? wr _ p0) (by simp)).trans p0
            have u0 := cell_of hq9 0
            have u1 := cell_of hq8 0
            have t0 := cell_of hx9 0
            have t1 := cell_of hx8 0
            simp only [List.getElem?_toArray, List.getElem?_cons_zero] at u0 u1 t0 t1
            have HD := Lib.hid (HV.out.trans_ext hd)
            have HDW := Lib.hid (HW9.out.trans_ext hd)
            obtain ⟨y1, y2⟩ := y
            simp only at p0 p1
            by_cases hxy : y1 = x1
            · have HF : Hid (rightF nameF q = 7) := Lib.hid (right_vars H8.out (by decide) (by
                rw [← HE.out, HDR.out]; unfold varsE
                rw [if_neg (by rw [HNM.out]; decide), if_neg HS.out, if_pos]
                rw [List.contains_iff_mem]
                exact List.mem_map.2 ⟨(y1, y2), List.mem_of_getElem? (i := m) (by rw [List.getElem?_take_of_lt hlt2]; exact hy), hxy⟩))
              subst hxy
              clear hy hq9 hx9 hq8 hx8 hd
              go_wp2_with fail
              go_region
              all_goals (
                go_wp2_with fail
                go_ret
                rw [HF.out]
                exact ⟨rfl, HDW.out⟩)
            · have HA2 : Hid (∀ p y, p < m + 1 → q.free[p]? = some y → y.1 ≠ x1) := Lib.hid (fun p y hp hyy => by
                by_cases hpm : p = m
                · subst hpm
                  rw [hy] at hyy
                  cases hyy
                  exact hxy
                · exact HB9.out p y (by omega) hyy)
              have q1 : (y1 == x1) = false := by simpa using hxy
              have q2 : (y1 != x1) = true := by rw [bne, q1]; rfl
              clear hy hq9 hx9 hq8 hx8 hd hxy
              go_wp2_with fail
              go_region
              all_goals (
                go_wp2_with fail
                go_roundw
                case rel => exact ⟨m + 1, by omega, by go_num, HA2, HD⟩
                case measure => simp [intOf]; omega)
          · have hgeJ : ¬ (m : Int) < j := by omega
            have HE2 : Hid (varsE nameF (q.free.drop (j + 1)) ((q.free.take (j + 1)).map Prod.fst) = varsE nameF q.free []) := Lib.hid (by
              rw [HTK.out, ← HE.out, HDR.out]
              conv => rhs; unfold varsE
              rw [if_neg (by rw [HNM.out]; decide), if_neg HS.out, if_neg]
              rw [List.contains_iff_mem]
              intro hmm
              obtain ⟨y, hy, e⟩ := List.mem_map.1 hmm
              obtain ⟨i, hi⟩ := List.mem_iff_getElem?.1 hy
              by_cases hij : i < j
              · rw [List.getElem?_take_of_lt hij] at hi
                exact HB9.out i y (by omega) hi e
              · rw [List.getElem?_take_eq_none (by omega)] at hi
                cases hi)
            have HV9 := Lib.hid (HV5.out.trans_ext HV.out)
            go_wp2_with fail
            go_roundw
            case rel => exact ⟨j + 1, by omega, by go_num, HE2, HV9⟩
            case measure => simp [intOf]; omega
    · have hgeI : ¬ (j : Int) < q.free.length := by omega
      have HF : Hid (rightF nameF q = checkF nameF q.body) := Lib.hid (right_body H8.out (by
        rw [← HE.out, List.drop_of_length_le (by omega)]
        rfl))
      have HC := Lib.hid (HCK.out wr HW.out)
      clear hb
      go_wp2_with fail
      refine HC.out.mono ?_
      rintro e w5 ⟨rfl, hu5⟩
      have HU5 := Lib.hid (HW.out.trans_ext hu5)
      clear hu5
      go_wp2_with fail
      go_ret
      rw [HF.out]
      exact ⟨rfl, HU5.out⟩
end Go.Proofs.YtbnebkkpmcjmbaaGreatDoor


namespace Go.Proofs.YtbnebkkpmcjmbaaGreatDoor
open Go.RowKit Go.PL Go.Maps
/-- a question's seven cells and its new blocks -/
structure QZ where
  fa : Option Addr
  fc : Nat
  o : Int
  a1 : Option Addr
  a2 : Nat
  a3 : Nat
  s : Int
  n : Int
  m : Int
  l1 : Option Addr
  l2 : Nat
  l3 : Nat
  lo : Nat
  kk : Nat
instance : Nonempty QZ := ⟨⟨none, 0, 0, none, 0, 0, 0, 0, 0, none, 0, 0, 0, 0⟩⟩
theorem qz_of {w' w2 : World} {x : Qn} {r : Ending} (h : QuPost w' x r w2) : ∃ y : QZ, r = .returned (.agg #[.slice y.fa x.free.length y.fc, .int .i64 y.o, .slice y.a1 y.a2 y.a3, .int .i64 y.s, .int .i64 y.n, .int .i64 y.m, .slice y.l1 y.l2 y.l3]) ∧ Upto [] w' w2 ∧ QnV w2 (fun b => y.lo ≤ b ∧ b < y.lo + y.kk) x (.agg #[.slice y.fa x.free.length y.fc, .int .i64 y.o, .slice y.a1 y.a2 y.a3, .int .i64 y.s, .int .i64 y.n, .int .i64 y.m, .slice y.l1 y.l2 y.l3]) ∧ ∀ b ∈ List.range' y.lo y.kk, w'.heap.size ≤ b ∧ b < w2.heap.size := by
  obtain ⟨v, rfl, h2, h3⟩ := h
  obtain ⟨f1, f3, o1, a1, a2, a3, s1, n1, m1, l1, l2, l3, rfl, -, -⟩ := h2.open
  refine ⟨⟨f1, f3, o1, a1, a2, a3, s1, n1, m1, l1, l2, l3, w'.heap.size, w2.heap.size - w'.heap.size⟩, rfl, h3, h2.keep (Keep.mono (fun b hb hl => ⟨hb, by
    have h4 := hl.lt
    have h5 := h3.size
    have h6 : w'.heap.size ≤ b := hb
    show b < w'.heap.size + (w2.heap.size - w'.heap.size)
    omega⟩)), fun b hb => ?_⟩
  have h4 := List.mem_range'_1.1 hb
  have h5 := h3.size
  simp only at h4
  omega
/-- a right question is small -/
theorem right_small {q : Qn} (h : rightF nameF q = 0) (hs : sizeF q.body ≤ 60) : formF nameF q.body = 0 ∧ nmsF q.body ≤ 1020 ∧ q.free.length ≤ 8 := by
  have hfl : q.free.length ≤ 8 := by
    unfold rightF at h
    split at h
    · cases h
    · omega
  have hck : checkF nameF q.body = 0 := by
    unfold rightF at h
    split at h
    · cases h
    · split at h
      · rename_i h5; exact absurd h h5
      · exact h
  exact ⟨form_of_check hck, (small_of hs hck).2.2, hfl⟩
set_option maxRecDepth 100000 in
set_option maxHeartbeats 25600000 in
theorem scopeAlphaEquivalence_walk (q : Qn) (v : Value) (q' : Qn) (v' : Value) (w : World) (hq : ArgQ w q v) (hq' : ArgQ w q' v') (hE : Env w ∧ SEnv w ∧ FEnv w) (hpw : PowT w) : Calls Tryz.prog 8 #[v, v'] w fun e w' => e = .returned (.bool true) ∧ Upto [] w w' := by
  obtain ⟨f1, f3, o1, a1, a2, a3, s1, n1, m1, l1, l2, l3, rfl, hv, hnd⟩ := hq.val.open
  obtain ⟨f1', f3', o1', a1', a2', a3', s1', n1', m1', l1', l2', l3', rfl, hv', hnd'⟩ := hq'.val.open
  have HV := Lib.hid hq.val
  have HV' := Lib.hid hq'.val
  have HEN := Lib.hid (And.intro hE hpw)
  have HKN := Lib.hid (fun u (hu : Upto [] w u) => known12_calls u ⟨hE.1.ext hu, hE.2.1.upto hu (by simp), hE.2.2.ext hu⟩)
  have HSHA := Lib.hid (fun u (hu : Upto [] w u) => short_calls q.body _ u _ (hnd.ext hu) (by have := hq.sz; omega))
  have HBGA : Hid (bigN q.body ∧ inN 10000000 q.body ∧ (∀ y ∈ q.free, y.1.length ≤ 10000000) ∧ q.free.length ≤ 1048576) := Lib.hid ⟨inN.big (M := 1048576) (by omega) _ hq.ins, inN.mono (by omega) _ hq.ins, fun y hy => by have := hq.nm y hy; omega, hq.fr⟩
  have HOQA := Lib.hid (fun u (hu : Upto [] w u) => ofq_calls q _ u _ (hq.val.keep (Keep.upto hu (by simp))) (by have := hq.sz; omega) HBGA.out.1 (by have := hq.fr; omega))
  have HRTA := Lib.hid (fun u (hu : Upto [] w u) => right_calls q _ u _ (hq.val.keep (Keep.upto hu (by simp))) (by have := hq.sz; omega) HBGA.out.2.1 HBGA.out.2.2.1)
  have HSSA : Hid ((decide (sizeF q.body ≤ 60) && decide (depthF q.body ≤ 20)) = true → sizeF q.body ≤ 60) := Lib.hid (fun hb => by simp at hb; exact hb.1)
  have HSHB := Lib.hid (fun u (hu : Upto [] w u) => short_calls q'.body _ u _ (hnd'.ext hu) (by have := hq'.sz; omega))
  have HBGB : Hid (bigN q'.body ∧ inN 10000000 q'.body ∧ (∀ y ∈ q'.free, y.1.length ≤ 10000000) ∧ q'.free.length ≤ 1048576) := Lib.hid ⟨inN.big (M := 1048576) (by omega) _ hq'.ins, inN.mono (by omega) _ hq'.ins, fun y hy => by have := hq'.nm y hy; omega, hq'.fr⟩
  have HOQB := Lib.hid (fun u (hu : Upto [] w u) => ofq_calls q' _ u _ (hq'.val.keep (Keep.upto hu (by simp))) (by have := hq'.sz; omega) HBGB.out.1 (by have := hq'.fr; omega))
  have HRTB := Lib.hid (fun u (hu : Upto [] w u) => right_calls q' _ u _ (hq'.val.keep (Keep.upto hu (by simp))) (by have := hq'.sz; omega) HBGB.out.2.1 HBGB.out.2.2.1)
  have HSSB : Hid ((decide (sizeF q'.body ≤ 60) && decide (depthF q'.body ≤ 20)) = true → sizeF q'.body ≤ 60) := Lib.hid (fun hb => by simp at hb; exact hb.1)
  generalize hS : (decide (sizeF q.body ≤ 60) && decide (depthF q.body ≤ 20)) = S at *
  generalize hS' : (decide (sizeF q'.body ≤ 60) && decide (depthF q'.body ≤ 20)) = S' at *
  have hL0 : (0 : Int) ≤ q.free.length := by omega
  have hL1 : (q.free.length : Int) ≤ 1048576 := by have := hq.fr; omega
  have hM0 : (0 : Int) ≤ q'.free.length := by omega
  have hM1 : (q'.free.length : Int) ≤ 1048576 := by have := hq'.fr; omega
  clear hq hq' hE hpw hv hv' hnd hnd' hS hS'
  obtain ⟨N, hN⟩ : ∃ N, N = q.free.length := ⟨_, rfl⟩
  obtain ⟨N', hN'⟩ : ∃ N', N' = q'.free.length := ⟨_, rfl⟩
  have HNN := Lib.hid (And.intro hN hN')
  rw [← hN] at HV HOQA HRTA hL0 hL1
  rw [← hN'] at HV' HOQB HRTB hM0 hM1
  rw [← hN, ← hN']
  clear hN hN'
  obtain ⟨W, hW⟩ : ∃ W, W = (w.alloc (.cells #[.slice f1 N f3, .int .i64 o1, .slice a1 a2 a3, .int .i64 s1, .int .i64 n1, .int .i64 m1, .slice l1 l2 l3] 50)).alloc (.cells #[.slice f1' N' f3', .int .i64 o1', .slice a1' a2' a3', .int .i64 s1', .int .i64 n1', .int .i64 m1', .slice l1' l2' l3'] 50) := ⟨_, rfl⟩
  have HU1 : Hid (Upto [] w W) := Lib.hid (by rw [hW]; exact ((Upto.refl [] w).alloc _).alloc _)
  have HA1 : Hid (W.heap[w.heap.size]? = some (.cells #[.slice f1 N f3, .int .i64 o1, .slice a1 a2 a3, .int .i64 s1, .int .i64 n1, .int .i64 m1, .slice l1 l2 l3] 50 (0, 0))) := Lib.hid (by rw [hW]; exact alloc_old (new_at w _) _)
  have HB1 : Hid (W.heap[w.heap.size + 1]? = some (.cells #[.slice f1' N' f3', .int .i64 o1', .slice a1' a2' a3', .int .i64 s1', .int .i64 n1', .int .i64 m1', .slice l1' l2' l3'] 50 (0, 0))) := Lib.hid (by rw [hW]; exact new_at1 w _ _)
  obtain ⟨y0, y1, y2, y3, y4, y5, y6⟩ := cells7 HA1.out
  obtain ⟨z0, z1, z2, z3, z4, z5, z6⟩ := cells7 HB1.out
  go_enter Tryz.func8, Tryz.ntmps8
  go_wp2_with fail
  simp only [← hW]
  clear hW
  try go_wp2_with fail
  refine (HKN.out _ HU1.out).mono ?_
  rintro r w2 ⟨rfl, hu2⟩
  have HU2 := Lib.hid (HU1.out.trans_ext hu2)
  have HA2 := Lib.hid (hu2.at HA1.out (by simp))
  have HB2 := Lib.hid (hu2.at HB1.out (by simp))
  clear hu2 y0 y1 y2 y3 y4 y5 y6 z0 z1 z2 z3 z4 z5 z6
  obtain ⟨y0, y1, y2, y3, y4, y5, y6⟩ := cells7 HA2.out
  obtain ⟨z0, z1, z2, z3, z4, z5, z6⟩ := cells7 HB2.out
  go_wp2_with fail
  refine (HSHA.out _ HU2.out).mono ?_
  rintro r w3 ⟨rfl, hu3⟩
  have HU3 := Lib.hid (HU2.out.trans_ext hu3)
  have HA3 := Lib.hid (hu3.at HA2.out (by simp))
  have HB3 := Lib.hid (hu3.at HB2.out (by simp))
  clear hu3 y0 y1 y2 y3 y4 y5 y6 z0 z1 z2 z3 z4 z5 z6
  obtain ⟨y0, y1, y2, y3, y4, y5, y6⟩ := cells7 HA3.out
  obtain ⟨z0, z1, z2, z3, z4, z5, z6⟩ := cells7 HB3.out
  cases S with
  | false =>
    go_wp2_with fail
    go_ret
    exact ⟨rfl, HU3.out⟩
  | true =>
  go_wp2_with fail
  refine (HSHB.out _ HU3.out).mono ?_
  rintro r w4 ⟨rfl, hu4⟩
  have HU4 := Lib.hid (HU3.out.trans_ext hu4)
  have HA4 := Lib.hid (hu4.at HA3.out (by simp))
  have HB4 := Lib.hid (hu4.at HB3.out (by simp))
  clear hu4 y0 y1 y2 y3 y4 y5 y6 z0 z1 z2 z3 z4 z5 z6
  obtain ⟨y0, y1, y2, y3, y4, y5, y6⟩ := cells7 HA4.out
  obtain ⟨z0, z1, z2, z3, z4, z5, z6⟩ := cells7 HB4.out
  cases S' with
  | false =>
    go_wp2_with fail
    go_ret
    exact ⟨rfl, HU4.out⟩
  | true =>
  have HS60 := Lib.hid (And.intro (HSSA.out (by simp)) (HSSB.out (by simp)))
  go_wp2_with fail
  refine (HRTA.out _ HU4.out).mono ?_
  rintro r w5 ⟨rfl, hu5⟩
  have HU5 := Lib.hid (HU4.out.trans_ext hu5)
  have HA5 := Lib.hid (hu5.at HA4.out (by simp))
  have HB5 := Lib.hid (hu5.at HB4.out (by simp))
  clear hu5 y0 y1 y2 y3 y4 y5 y6 z0 z1 z2 z3 z4 z5 z6
  obtain ⟨y0, y1, y2, y3, y4, y5, y6⟩ := cells7 HA5.out
  obtain ⟨z0, z1, z2, z3, z4, z5, z6⟩ := cells7 HB5.out
  by_cases hR0 : rightF nameF q = 0
  case neg =>
    obtain ⟨R, hR⟩ : ∃ R, R = rightF nameF q := ⟨_, rfl⟩
    rw [← hR] at hR0 ⊢
    have hci : ¬ (R : Int) = 0 := by omega
    have hc1 : ((R : Int) == 0) = false := by rw [beq_eq_false_iff_ne]; exact hci
    have hc2 : ((R : Int) != 0) = true := by rw [bne, hc1]; rfl
    clear hR0 hR
    go_wp2_with fail
    go_ret
    exact ⟨rfl, HU5.out⟩
  case pos =>
  obtain ⟨hfa, hna, hla⟩ := right_small hR0 HS60.out.1
  have HFA := Lib.hid (And.intro hR0 (And.intro hfa (And.intro hna hla)))
  rw [hR0]
  clear hR0 hfa hna hla
  go_wp2_with fail
  refine (HRTB.out _ HU5.out).mono ?_
  rintro r w6 ⟨rfl, hu6⟩
  have HU6 := Lib.hid (HU5.out.trans_ext hu6)
  have HA6 := Lib.hid (hu6.at HA5.out (by simp))
  have HB6 := Lib.hid (hu6.at HB5.out (by simp))
  clear hu6 y0 y1 y2 y3 y4 y5 y6 z0 z1 z2 z3 z4 z5 z6
  obtain ⟨y0, y1, y2, y3, y4, y5, y6⟩ := cells7 HA6.out
  obtain ⟨z0, z1, z2, z3, z4, z5, z6⟩ := cells7 HB6.out
  by_cases hR0 : rightF nameF q' = 0
  case neg =>
    obtain ⟨R, hR⟩ : ∃ R, R = rightF nameF q' := ⟨_, rfl⟩
    rw [← hR] at hR0 ⊢
    have hci : ¬ (R : Int) = 0 := by omega
    have hc1 : ((R : Int) == 0) = false := by rw [beq_eq_false_iff_ne]; exact hci
    have hc2 : ((R : Int) != 0) = true := by rw [bne, hc1]; rfl
    clear hR0 hR
    go_wp2_with fail
    go_ret
    exact ⟨rfl, HU6.out⟩
  case pos =>
  obtain ⟨hfb, hnb, hlb⟩ := right_small hR0 HS60.out.2
  have HFB := Lib.hid (And.intro hR0 (And.intro hfb (And.intro hnb hlb)))
  rw [hR0]
  clear hR0 hfb hnb hlb
  go_wp2_with fail
  have k0 : ∀ u : Ext w6, u.w.cell? ⟨w.heap.size, 0, none⟩ = some (.slice f1 N f3) := fun u => u.cell y0
  have k1 : ∀ u : Ext w6, u.w.cell? ⟨w.heap.size, 1, none⟩ = some (.int .i64 o1) := fun u => u.cell y1
  have k2 : ∀ u : Ext w6, u.w.cell? ⟨w.heap.size, 2, none⟩ = some (.slice a1 a2 a3) := fun u => u.cell y2
  have k3 : ∀ u : Ext w6, u.w.cell? ⟨w.heap.size, 3, none⟩ = some (.int .i64 s1) := fun u => u.cell y3
  have k4 : ∀ u : Ext w6, u.w.cell? ⟨w.heap.size, 4, none⟩ = some (.int .i64 n1) := fun u => u.cell y4
  have k5 : ∀ u : Ext w6, u.w.cell? ⟨w.heap.size, 5, none⟩ = some (.int .i64 m1) := fun u => u.cell y5
  have k6 : ∀ u : Ext w6, u.w.cell? ⟨w.heap.size, 6, none⟩ = some (.slice l1 l2 l3) := fun u => u.cell y6
  have j0 : ∀ u : Ext w6, u.w.cell? ⟨w.heap.size + 1, 0, none⟩ = some (.slice f1' N' f3') := fun u => u.cell z0
  have j1 : ∀ u : Ext w6, u.w.cell? ⟨w.heap.size + 1, 1, none⟩ = some (.int .i64 o1') := fun u => u.cell z1
  have j2 : ∀ u : Ext w6, u.w.cell? ⟨w.heap.size + 1, 2, none⟩ = some (.slice a1' a2' a3') := fun u => u.cell z2
  have j3 : ∀ u : Ext w6, u.w.cell? ⟨w.heap.size + 1, 3, none⟩ = some (.int .i64 s1') := fun u => u.cell z3
  have j4 : ∀ u : Ext w6, u.w.cell? ⟨w.heap.size + 1, 4, none⟩ = some (.int .i64 n1') := fun u => u.cell z4
  have j5 : ∀ u : Ext w6, u.w.cell? ⟨w.heap.size + 1, 5, none⟩ = some (.int .i64 m1') := fun u => u.cell z5
  have j6 : ∀ u : Ext w6, u.w.cell? ⟨w.heap.size + 1, 6, none⟩ = some (.slice l1' l2' l3') := fun u => u.cell z6
  clear y0 y1 y2 y3 y4 y5 y6 z0 z1 z2 z3 z4 z5 z6
  have HQA := Lib.hid (fun u (hu : Upto [] w6 u) => (HOQA.out u (HU6.out.trans_ext hu)).mono (R' := fun r w2 => ∃ y : QZ, r = .returned (.agg #[.slice y.fa N y.fc, .int .i64 y.o, .slice y.a1 y.a2 y.a3, .int .i64 y.s, .int .i64 y.n, .int .i64 y.m, .slice y.l1 y.l2 y.l3]) ∧ Upto [] u w2 ∧ QnV w2 (fun b => y.lo ≤ b ∧ b < y.lo + y.kk) q (.agg #[.slice y.fa N y.fc, .int .i64 y.o, .slice y.a1 y.a2 y.a3, .int .i64 y.s, .int .i64 y.n, .int .i64 y.m, .slice y.l1 y.l2 y.l3]) ∧ ∀ b ∈ List.range' y.lo y.kk, u.heap.size ≤ b ∧ b < w2.heap.size) fun r w2 h => by
    rw [HNN.out.1]
    exact qz_of h)
  have HQB := Lib.hid (fun u (hu : Upto [] w6 u) => (HOQB.out u (HU6.out.trans_ext hu)).mono (R' := fun r w2 => ∃ y : QZ, r = .returned (.agg #[.slice y.fa N' y.fc, .int .i64 y.o, .slice y.a1 y.a2 y.a3, .int .i64 y.s, .int .i64 y.n, .int .i64 y.m, .slice y.l1 y.l2 y.l3]) ∧ Upto [] u w2 ∧ QnV w2 (fun b => y.lo ≤ b ∧ b < y.lo + y.kk) q' (.agg #[.slice y.fa N' y.fc, .int .i64 y.o, .slice y.a1 y.a2 y.a3, .int .i64 y.s, .int .i64 y.n, .int .i64 y.m, .slice y.l1 y.l2 y.l3]) ∧ ∀ b ∈ List.range' y.lo y.kk, u.heap.size ≤ b ∧ b < w2.heap.size) fun r w2 h => by
    rw [HNN.out.2]
    exact qz_of h)
  refine wp_region_noPanic ?_
  refine wp_region_seg_at [1, 3] [4, 5] [0, 1, 2, 3, 4, 5] [6, 7] 6 (by kernel_rfl) (by kernel_rfl) (by kernel_rfl) ?_
  with_reducible refine seg_plain (o := ?o11) ?hi11 ?hA11 ?hC11 ?hp11 ?hw11 ?h11
  case hi11 => rfl
  case hA11 => rfl
  case hC11 => rfl
  case hp11 => rfl
  case hw11 => kernel_rfl
  intro K' hK'
  go_big_quiet_op
  go_big_quiet_on
  with_reducible refine seg_callO (o := ?o12) (f := 30) (args := #[.agg #[.slice f1 N f3, .int .i64 o1, .slice a1 a2 a3, .int .i64 s1, .int .i64 n1, .int .i64 m1, .slice l1 l2 l3]]) (Y := QZ) (fun y => .agg #[.slice y.fa N y.fc, .int .i64 y.o, .slice y.a1 y.a2 y.a3, .int .i64 y.s, .int .i64 y.n, .int .i64 y.m, .slice y.l1 y.l2 y.l3]) (fun y u => QnV u (fun b => y.lo ≤ b ∧ b < y.lo + y.kk) q (.agg #[.slice y.fa N y.fc, .int .i64 y.o, .slice y.a1 y.a2 y.a3, .int .i64 y.s, .int .i64 y.n, .int .i64 y.m, .slice y.l1 y.l2 y.l3])) (fun y => List.range' y.lo y.kk) ?hi12 ?hA12 ?hC12 ?hw12 ?hs12 ?hn12 ?hr12 ?hc12 ?h12
  case hi12 => rfl
  case hA12 => rfl
  case hC12 => rfl
  case hw12 => kernel_rfl
  case hs12 => exact fun _ _ _ h hu => h.keep (Keep.upto hu (by simp))
  case hn12 => exact fun _ => List.nodup_range'
  case hr12 => exact fun w => by go_simp
  case hc12 => exact fun w' hu hd => HQA.out w' hu
  rintro ⟨ra, rb, r1, r2, r3, r4, r5, r6, r7, r8, r9, r10, la, ka⟩
  simp only [Act.put, List.setIfInBounds_toArray, List.set_cons_zero, List.set_cons_succ]
  with_reducible refine seg_plain (o := ?o13) ?hi13 ?hA13 ?hC13 ?hp13 ?hw13 ?h13
  case hi13 => rfl
  case hA13 => rfl
  case hC13 => rfl
  case hp13 => rfl
  case hw13 => kernel_rfl
  intro K' hK'
  go_big_quiet_op
  go_big_quiet_on
  with_reducible refine seg_callO (o := ?o14) (f := 30) (args := #[.agg #[.slice f1' N' f3', .int .i64 o1', .slice a1' a2' a3', .int .i64 s1', .int .i64 n1', .int .i64 m1', .slice l1' l2' l3']]) (Y := QZ) (fun y => .agg #[.slice y.fa N' y.fc, .int .i64 y.o, .slice y.a1 y.a2 y.a3, .int .i64 y.s, .int .i64 y.n, .int .i64 y.m, .slice y.l1 y.l2 y.l3]) (fun y u => QnV u (fun b => y.lo ≤ b ∧ b < y.lo + y.kk) q' (.agg #[.slice y.fa N' y.fc, .int .i64 y.o, .slice y.a1 y.a2 y.a3, .int .i64 y.s, .int .i64 y.n, .int .i64 y.m, .slice y.l1 y.l2 y.l3])) (fun y => List.range' y.lo y.kk) ?hi14 ?hA14 ?hC14 ?hw14 ?hs14 ?hn14 ?hr14 ?hc14 ?h14
  case hi14 => rfl
  case hA14 => rfl
  case hC14 => rfl
  case hw14 => kernel_rfl
  case hs14 => exact fun _ _ _ h hu => h.keep (Keep.upto hu (by simp))
  case hn14 => exact fun _ => List.nodup_range'
  case hr14 => exact fun w => by go_simp
  case hc14 => exact fun w' hu hd => HQB.out w' hu
  rintro ⟨ta, tb, t1, t2, t3, t4, t5, t6, t7, t8, t9, t10, lb, kb⟩
  simp only [Act.put, List.setIfInBounds_toArray, List.set_cons_zero, List.set_cons_succ]
  refine seg_alloc (.cells #[.slice none 0 0, .int .i64 0, .slice none 0 0, .int .i64 0, .int .i64 0, .int .i64 0, .slice none 0 0] 53) rfl rfl rfl (fun w => by go_simp) ?_
  intro b5
  simp only [Act.put, List.setIfInBounds_toArray, List.set_cons_zero, List.set_cons_succ]
  refine seg_alloc (.cells #[.slice none 0 0, .int .i64 0, .slice none 0 0, .int .i64 0, .int .i64 0, .int .i64 0, .slice none 0 0] 53) rfl rfl rfl (fun w => by go_simp) ?_
  intro b6
  simp only [Act.put, List.setIfInBounds_toArray, List.set_cons_zero, List.set_cons_succ]
  intro w7 hg
  have HU7 := Lib.hid (HU6.out.trans_ext hg.up)
  have HA7 := Lib.hid (hg.up.at HA6.out (by simp))
  have HB7 := Lib.hid (hg.up.at HB6.out (by simp))
  have HY7 : Hid (w7.heap[b6]? = some (.cells #[.slice none 0 0, .int .i64 0, .slice none 0 0, .int .i64 0, .int .i64 0, .int .i64 0, .slice none 0 0] 53 (0, 0))) := Lib.hid hg.hold.1
  have HX7 : Hid (w7.heap[b5]? = some (.cells #[.slice none 0 0, .int .i64 0, .slice none 0 0, .int .i64 0, .int .i64 0, .int .i64 0, .slice none 0 0] 53 (0, 0))) := Lib.hid hg.hold.2.1
  have HQY := Lib.hid hg.hold.2.2.1
  have HQX := Lib.hid hg.hold.2.2.2.1
  have HND : Hid ((b6 :: b5 :: (List.range' lb kb ++ (List.range' la ka ++ []))).Nodup) := Lib.hid hg.nodup
  have HI6 : Hid (w6.heap.size ≤ b6) := Lib.hid (hg.inb _ List.mem_cons_self b6 List.mem_cons_self).1
  have HI5 : Hid (w6.heap.size ≤ b5) := Lib.hid (hg.inb _ (List.mem_cons_of_mem _ List.mem_cons_self) b5 List.mem_cons_self).1
  have HNE : Hid (b5 ≠ b6 ∧ (¬ (la ≤ b5 ∧ b5 < la + ka)) ∧ (¬ (la ≤ b6 ∧ b6 < la + ka)) ∧ (¬ (lb ≤ b5 ∧ b5 < lb + kb)) ∧ (¬ (lb ≤ b6 ∧ b6 < lb + kb))) := Lib.hid (by
    have h1 := List.nodup_cons.1 HND.out
    have h2 := List.nodup_cons.1 h1.2
    simp only [List.mem_cons, List.mem_append, List.mem_range'_1, List.append_nil, not_or] at h1 h2
    exact ⟨fun h => h1.1.1 h.symm, h2.1.2, h1.1.2.2, h2.1.1, h1.1.2.1⟩)
  have HWL : Hid (w.heap.size + 1 < w6.heap.size) := Lib.hid (lt_of_heap HB6.out)
  have hb1 : b5 ≠ b6 := HNE.out.1
  have hb2 : b6 ≠ b5 := fun h => hb1 h.symm
  clear hg k0 k1 k2 k3 k4 k5 k6 j0 j1 j2 j3 j4 j5 j6
  simp only [List.drop_succ_cons, List.drop_zero]
  obtain ⟨m0, m1, m2, m3, m4, m5, m6⟩ := cells7 HX7.out
  obtain ⟨f0, f1, f2, f3, f4, f5, f6⟩ := frees7 HX7.out
  obtain ⟨p0, p1, p2, p3, p4, p5, p6⟩ := cells7 HY7.out
  obtain ⟨g0, g1, g2, g3, g4, g5, g6⟩ := frees7 HY7.out
  obtain ⟨w8, hw8⟩ : ∃ w8, w8 = (((((((w7.setCell ⟨b5, 0, none⟩ (.slice ra N rb)).setCell ⟨b5, 1, none⟩ (.int .i64 r1)).setCell ⟨b5, 2, none⟩ (.slice r2 r3 r4)).setCell ⟨b5, 3, none⟩ (.int .i64 r5)).setCell ⟨b5, 4, none⟩ (.int .i64 r6)).setCell ⟨b5, 5, none⟩ (.int .i64 r7)).setCell ⟨b5, 6, none⟩ (.slice r8 r9 r10)) := ⟨_, rfl⟩
  obtain ⟨w9, hw9⟩ : ∃ w9, w9 = (((((((w8.setCell ⟨b6, 0, none⟩ (.slice ta N' tb)).setCell ⟨b6, 1, none⟩ (.int .i64 t1)).setCell ⟨b6, 2, none⟩ (.slice t2 t3 t4)).setCell ⟨b6, 3, none⟩ (.int .i64 t5)).setCell ⟨b6, 4, none⟩ (.int .i64 t6)).setCell ⟨b6, 5, none⟩ (.int .i64 t7)).setCell ⟨b6, 6, none⟩ (.slice t8 t9 t10)) := ⟨_, rfl⟩
  have HX8 : Hid (w8.heap[b5]? = some (.cells #[.slice ra N rb, .int .i64 r1, .slice r2 r3 r4, .int .i64 r5, .int .i64 r6, .int .i64 r7, .slice r8 r9 r10] 53 (0, 0))) := Lib.hid (by rw [hw8]; exact set7_at HX7.out _ _ _ _ _ _ _)
  have HS8 : Hid (Upto [b5] w7 w8) := Lib.hid (by rw [hw8]; exact set7_up (Upto.refl _ w7) (Or.inl (by simp)) _ _ _ _ _ _ _)
  have HY8 := Lib.hid (HS8.out.at HY7.out (by simp; exact hb2))
  have HY9 : Hid (w9.heap[b6]? = some (.cells #[.slice ta N' tb, .int .i64 t1, .slice t2 t3 t4, .int .i64 t5, .int .i64 t6, .int .i64 t7, .slice t8 t9 t10] 53 (0, 0))) := Lib.hid (by rw [hw9]; exact set7_at HY8.out _ _ _ _ _ _ _)
  have HS9 : Hid (Upto [b6] w8 w9) := Lib.hid (by rw [hw9]; exact set7_up (Upto.refl _ w8) (Or.inl (by simp)) _ _ _ _ _ _ _)
  have HX9 := Lib.hid (HS9.out.at HX8.out (by simp; exact hb1))
  have HU9 : Hid (Upto [] w w9) := Lib.hid ((HU7.out.trans HS8.out (fun b hb => Or.inr (by have := HI5.out; have := HU6.out.size; simp at hb; omega))).trans HS9.out (fun b hb => Or.inr (by have := HI6.out; have := HU6.out.size; simp at hb; omega)))
  have HA9 := Lib.hid (HS9.out.at (HS8.out.at HA7.out (by have := HI5.out; have := HWL.out; simp; omega)) (by have := HI6.out; have := HWL.out; simp; omega))
  have HB9 := Lib.hid (HS9.out.at (HS8.out.at HB7.out (by have := HI5.out; have := HWL.out; simp; omega)) (by have := HI6.out; have := HWL.out; simp; omega))
  have HQX9 := Lib.hid ((HQX.out.keep (Keep.upto HS8.out (fun b hb _ => by have := HNE.out; simp; rintro rfl; exact this.2.1 hb))).keep (Keep.upto HS9.out (fun b hb _ => by have := HNE.out; simp; rintro rfl; exact this.2.2.1 hb)))
  have HQY9 := Lib.hid ((HQY.out.keep (Keep.upto HS8.out (fun b hb _ => by have := HNE.out; simp; rintro rfl; exact this.2.2.2.1 hb))).keep (Keep.upto HS9.out (fun b hb _ => by have := HNE.out; simp; rintro rfl; exact this.2.2.2.2 hb)))
  go_wp2_with fail
  simp only [← hw8]
  simp only [← hw9]
  clear hw8 hw9 m0 m1 m2 m3 m4 m5 m6 f0 f1 f2 f3 f4 f5 f6 p0 p1 p2 p3 p4 p5 p6 g0 g1 g2 g3 g4 g5 g6
  refine NoPanic.normal ?_
  obtain ⟨y0, y1, y2, y3, y4, y5, y6⟩ := cells7 HA9.out
  obtain ⟨z0, z1, z2, z3, z4, z5, z6⟩ := cells7 HB9.out
  go_wp2_with fail
  obtain ⟨R, hR⟩ : ∃ R, R = likeQ q q' := ⟨_, rfl⟩
  have HR := Lib.hid hR
  have hb3 : (R != R) = false := by cases R <;> rfl
  have hb4 : (R == R) = true := by cases R <;> rfl
  have HBD : Hid (nmsF q.body + sizeF q.body + 2 ≤ 3000 ∧ nmsF q'.body + sizeF q'.body + 2 ≤ 3000) := Lib.hid ⟨by have := HFA.out.2.2.1; have := HS60.out.1; omega, by have := HFB.out.2.2.1; have := HS60.out.2; omega⟩
  have HLR := Lib.hid (likeQ_calls q q' _ _ w9 _ _ (HV.out.keep (Keep.upto HU9.out (by simp))) (HV'.out.keep (Keep.upto HU9.out (by simp))) HFA.out.2.1 HFB.out.2.1 HBGA.out.2.2.2 HBGB.out.2.2.2 HBD.out.1 HBD.out.2)
  rw [← hR] at HLR
  clear hR
  refine HLR.out.mono ?_
  rintro r w10 ⟨rfl, hu10⟩
  have HU10 := Lib.hid (HU9.out.trans_ext hu10)
  have HX10 := Lib.hid (hu10.at HX9.out (by simp))
  have HY10 := Lib.hid (hu10.at HY9.out (by simp))
  have HQX10 := Lib.hid (HQX9.out.keep (Keep.upto hu10 (by simp)))
  have HQY10 := Lib.hid (HQY9.out.keep (Keep.upto hu10 (by simp)))
  clear hu10 y0 y1 y2 y3 y4 y5 y6 z0 z1 z2 z3 z4 z5 z6
  obtain ⟨y0, y1, y2, y3, y4, y5, y6⟩ := cells7 HX10.out
  obtain ⟨z0, z1, z2, z3, z4, z5, z6⟩ := cells7 HY10.out
  have HL11 := Lib.hid (alpha_calls q q' _ _ w10 _ _ HQX10.out HQY10.out HFA.out.2.1 HFB.out.2.1 HBGA.out.2.2.2 HBGB.out.2.2.2 HBD.out.1 HBD.out.2)
  rw [← HR.out] at HL11
  go_wp2_with fail
  refine (HL11.out).mono ?_
  rintro r w11 ⟨rfl, hu11⟩
  have HU11 := Lib.hid (HU10.out.trans_ext hu11)
  have HX11 := Lib.hid (hu11.at HX10.out (by simp))
  have HY11 := Lib.hid (hu11.at HY10.out (by simp))
  have HQX11 := Lib.hid (HQX10.out.keep (Keep.upto hu11 (by simp)))
  have HQY11 := Lib.hid (HQY10.out.keep (Keep.upto hu11 (by simp)))
  clear hu11 y0 y1 y2 y3 y4 y5 y6 z0 z1 z2 z3 z4 z5 z6
  obtain ⟨y0, y1, y2, y3, y4, y5, y6⟩ := cells7 HX11.out
  obtain ⟨z0, z1, z2, z3, z4, z5, z6⟩ := cells7 HY11.out
  have HL12 := Lib.hid (alpha_calls q' q _ _ w11 _ _ HQY11.out HQX11.out HFB.out.2.1 HFA.out.2.1 HBGB.out.2.2.2 HBGA.out.2.2.2 HBD.out.2 HBD.out.1)
  rw [likeQ_symm, ← HR.out] at HL12
  go_wp2_with fail
  refine (HL12.out).mono ?_
  rintro r w12 ⟨rfl, hu12⟩
  have HU12 := Lib.hid (HU11.out.trans_ext hu12)
  have HX12 := Lib.hid (hu12.at HX11.out (by simp))
  have HY12 := Lib.hid (hu12.at HY11.out (by simp))
  have HQX12 := Lib.hid (HQX11.out.keep (Keep.upto hu12 (by simp)))
  have HQY12 := Lib.hid (HQY11.out.keep (Keep.upto hu12 (by simp)))
  clear hu12 y0 y1 y2 y3 y4 y5 y6 z0 z1 z2 z3 z4 z5 z6
  obtain ⟨y0, y1, y2, y3, y4, y5, y6⟩ := cells7 HX12.out
  obtain ⟨z0, z1, z2, z3, z4, z5, z6⟩ := cells7 HY12.out
  have HL13 := Lib.hid (alpha_calls q q _ _ w12 _ _ HQX12.out HQX12.out HFA.out.2.1 HFA.out.2.1 HBGA.out.2.2.2 HBGA.out.2.2.2 HBD.out.1 HBD.out.1)
  rw [likeQ_refl] at HL13
  go_wp2_with fail
  refine (HL13.out).mono ?_
  rintro r w13 ⟨rfl, hu13⟩
  have HU13 := Lib.hid (HU12.out.trans_ext hu13)
  have HX13 := Lib.hid (hu13.at HX12.out (by simp))
  have HY13 := Lib.hid (hu13.at HY12.out (by simp))
  have HQX13 := Lib.hid (HQX12.out.keep (Keep.upto hu13 (by simp)))
  have HQY13 := Lib.hid (HQY12.out.keep (Keep.upto hu13 (by simp)))
  clear hu13 y0 y1 y2 y3 y4 y5 y6 z0 z1 z2 z3 z4 z5 z6
  obtain ⟨y0, y1, y2, y3, y4, y5, y6⟩ := cells7 HX13.out
  obtain ⟨z0, z1, z2, z3, z4, z5, z6⟩ := cells7 HY13.out
  have HL14 := Lib.hid (uniq_ok q _ w13 _ HQX13.out (by have := HS60.out; omega) HBGA.out.2.1 HBGA.out.2.2.1 ⟨HEN.out.1.1.ext HU13.out, HEN.out.1.2.1.upto HU13.out (by simp), HEN.out.1.2.2.ext HU13.out⟩ (HEN.out.2.ext HU13.out) HFA.out.1 HFA.out.2.1 (by have := HFA.out; omega) HBD.out.1)
  go_wp2_with fail
  refine HL14.out.mono ?_
  rintro r w14 ⟨v9, rfl, hq14, hu14⟩
  have HQ14 := Lib.hid hq14
  obtain ⟨g1, g3, p1, c1, c2, c3, p2, p3, p4, e1, e2, e3, rfl, -, -⟩ := hq14.open
  obtain ⟨LN, hLN⟩ : ∃ LN, LN = (uniqQ q).free.length := ⟨_, rfl⟩
  rw [← hLN] at HQ14 ⊢
  clear hLN hq14
  obtain ⟨w15, hw15⟩ : ∃ w15, w15 = w14.alloc (.cells #[.slice g1 LN g3, .int .i64 p1, .slice c1 c2 c3, .int .i64 p2, .int .i64 p3, .int .i64 p4, .slice e1 e2 e3] 53) := ⟨_, rfl⟩
  have HV15 : Hid (Upto [] w14 w15) := Lib.hid (by rw [hw15]; exact (Upto.refl [] w14).alloc _)
  have HU15 := Lib.hid ((HU13.out.trans_ext hu14).trans_ext HV15.out)
  have HY14 := Lib.hid (hu14.at HY13.out (by simp))
  have HQY15 := Lib.hid (HQY13.out.keep (Keep.upto (hu14.trans_ext HV15.out) (by simp)))
  have HQ15 := Lib.hid (HQ14.out.keep (Keep.upto HV15.out (by simp)))
  have HK15 : Hid (w15.heap[w14.heap.size]? = some (.cells #[.slice g1 LN g3, .int .i64 p1, .slice c1 c2 c3, .int .i64 p2, .int .i64 p3, .int .i64 p4, .slice e1 e2 e3] 53 (0, 0))) := Lib.hid (by rw [hw15]; exact new_at w14 _)
  have hbx : (w14.alloc (.cells #[.slice g1 LN g3, .int .i64 p1, .slice c1 c2 c3, .int .i64 p2, .int .i64 p3, .int .i64 p4, .slice e1 e2 e3] 53)).heap[b6]? = _ := alloc_old HY14.out _
  have HBX := Lib.hid hbx
  clear hu14 hbx y0 y1 y2 y3 y4 y5 y6 z0 z1 z2 z3 z4 z5 z6
  obtain ⟨z0, z1, z2, z3, z4, z5, z6⟩ := cells7 HBX.out
  have HL16 := Lib.hid (uniq_ok q' _ w15 _ HQY15.out (by have := HS60.out; omega) HBGB.out.2.1 HBGB.out.2.2.1 ⟨HEN.out.1.1.ext HU15.out, HEN.out.1.2.1.upto HU15.out (by simp), HEN.out.1.2.2.ext HU15.out⟩ (HEN.out.2.ext HU15.out) HFB.out.1 HFB.out.2.1 (by have := HFB.out; omega) HBD.out.2)
  go_wp2_with fail
  simp only [← hw15]
  clear hw15 HBX z0 z1 z2 z3 z4 z5 z6
  refine HL16.out.mono ?_
  rintro r w16 ⟨v9, rfl, hq16, hu16⟩
  have HQ16 := Lib.hid hq16
  obtain ⟨i1, i3, x1, d1, d2, d3, x2, x3, x4, t1', t2', t3', rfl, -, -⟩ := hq16.open
  obtain ⟨LM, hLM⟩ : ∃ LM, LM = (uniqQ q').free.length := ⟨_, rfl⟩
  rw [← hLM] at HQ16 ⊢
  clear hLM hq16
  obtain ⟨w17, hw17⟩ : ∃ w17, w17 = w16.alloc (.cells #[.slice i1 LM i3, .int .i64 x1, .slice d1 d2 d3, .int .i64 x2, .int .i64 x3, .int .i64 x4, .slice t1' t2' t3'] 53) := ⟨_, rfl⟩
  have HV17 : Hid (Upto [] w16 w17) := Lib.hid (by rw [hw17]; exact (Upto.refl [] w16).alloc _)
  have HU17 := Lib.hid ((HU15.out.trans_ext hu16).trans_ext HV17.out)
  have HK16 := Lib.hid (hu16.at HK15.out (by simp))
  have HQ17 := Lib.hid (HQ15.out.keep (Keep.upto (hu16.trans_ext HV17.out) (by simp)))
  have HR17 := Lib.hid (HQ16.out.keep (Keep.upto HV17.out (by simp)))
  have hbx : (w16.alloc (.cells #[.slice i1 LM i3, .int .i64 x1, .slice d1 d2 d3, .int .i64 x2, .int .i64 x3, .int .i64 x4, .slice t1' t2' t3'] 53)).heap[w14.heap.size]? = _ := alloc_old HK16.out _
  have HBX := Lib.hid hbx
  have hby : (w16.alloc (.cells #[.slice i1 LM i3, .int .i64 x1, .slice d1 d2 d3, .int .i64 x2, .int .i64 x3, .int .i64 x4, .slice t1' t2' t3'] 53)).heap[w16.heap.size]? = _ := new_at w16 _
  have HBY := Lib.hid hby
  clear hu16 hbx hby
  obtain ⟨y0, y1, y2, y3, y4, y5, y6⟩ := cells7 HBX.out
  obtain ⟨z0, z1, z2, z3, z4, z5, z6⟩ := cells7 HBY.out
  have HTA : Hid ((takenP q).length + sizeF q.body ≤ 8000 ∧ (takenP q').length + sizeF q'.body ≤ 8000) := Lib.hid (by
    have h1 := takenP_len q
    have h2 := takenP_len q'
    have h3 := HFA.out
    have h4 := HFB.out
    have h5 := HS60.out
    omega)
  have HSA := Lib.hid (uniq_shape HFA.out.2.1 HTA.out.1)
  have HSB := Lib.hid (uniq_shape HFB.out.2.1 HTA.out.2)
  have HL18 := Lib.hid (alpha_calls (uniqQ q) (uniqQ q') _ _ w17 _ _ HQ17.out HR17.out HSA.out.2.2 HSB.out.2.2 HBGA.out.2.2.2 HBGB.out.2.2.2 (by rw [HSA.out.1, HSA.out.2.1]; exact HBD.out.1) (by rw [HSB.out.1, HSB.out.2.1]; exact HBD.out.2))
  rw [uniq_like q q' HFA.out.2.1 HFB.out.2.1 HTA.out.1 HTA.out.2, ← HR.out] at HL18
  go_wp2_with fail
  simp only [← hw17]
  clear hw17 HBX HBY y0 y1 y2 y3 y4 y5 y6 z0 z1 z2 z3 z4 z5 z6
  refine HL18.out.mono ?_
  rintro r w18 ⟨rfl, hu18⟩
  have HU18 := Lib.hid (HU17.out.trans_ext hu18)
  clear hu18
  go_wp2_with fail
  go_ret
  exact ⟨rfl, HU18.out⟩
end Go.Proofs.YtbnebkkpmcjmbaaGreatDoor


namespace Go.Proofs.YtbnebkkpmcjmbaaGreatDoor
open Go.RowKit Go.PL Go.Maps
open Go.ChangeShapes Go.WideShapes Go.ChangeAt Go.Deep
set_option maxRecDepth 100000 in
theorem pow_of {W : World} {L : List (String × DataW Unit)} (h : laidMet Tryz.prog L W) (hf : L.filter (fun x => x.1 == "internal/strconv.uint64pow10") = [("internal/strconv.uint64pow10", Lib.tabData .u64 Lib.pow10Tab)]) : PowT W := by
  have h1 := h.filter (fun x => x.1 == "internal/strconv.uint64pow10")
  rw [hf] at h1
  exact Lib.tabIs_of_head (g := 3) (by kernel_rfl) (by kernel_rfl) (t := 155) Tryz.underlying155 Tryz.underlying145 (by kernel_rfl) (by kernel_rfl) h1
end Go.Proofs.YtbnebkkpmcjmbaaGreatDoor

