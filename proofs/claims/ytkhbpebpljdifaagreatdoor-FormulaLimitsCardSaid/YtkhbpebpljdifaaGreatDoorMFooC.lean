/- Texts merged, in build order: Zl, Zm. -/
import Derived.Test.YtkhbpebpljdifaaGreatDoorMFonC
namespace Go.Proofs.YtkhbpebpljdifaaGreatDoor
open Go.RowKit Go.PL Go.Maps
def notN : Nat → Nd
  | 0 => .mk 0 [] 0 0 0 []
  | j + 1 => .mk 11 [] 0 0 0 [notN j]
def orN : Nat → Nd
  | 0 => .mk 1 [] 0 0 0 []
  | j + 1 => .mk 13 [] 0 0 0 [orN j, orN j]
theorem notN_size : ∀ j, sizeF (notN j) = j + 1
  | 0 => by simp [notN, sizeF, sizesF]
  | j + 1 => by simp only [notN, sizeF, sizesF, notN_size j]; omega
theorem notN_depth : ∀ j, depthF (notN j) = j + 1
  | 0 => by simp [notN, depthF, depthsF]
  | j + 1 => by simp only [notN, depthF, depthsF, notN_depth j]; omega
theorem orN_size : ∀ j, sizeF (orN j) + 1 = 2 ^ (j + 1)
  | 0 => by simp [orN, sizeF, sizesF]
  | j + 1 => by
    have := orN_size j
    simp only [orN, sizeF, sizesF]
    rw [Nat.pow_succ]
    omega
theorem orN_depth : ∀ j, depthF (orN j) = j + 1
  | 0 => by simp [orN, depthF, depthsF]
  | j + 1 => by simp only [orN, depthF, depthsF, orN_depth j]; omega
theorem form_not {n : Nd} (h : formF nameF n = 0) : formF nameF (.mk 11 [] 0 0 0 [n]) = 0 := by
  unfold formF
  rw [if_neg (by decide), if_neg (by simp [shapeBad, hasF]), if_neg (by decide), if_neg (by decide), if_neg (by decide)]
  unfold formsF
  rw [if_neg (by rw [h]; decide)]
  rfl
theorem form_or {n : Nd} (h : formF nameF n = 0) : formF nameF (.mk 13 [] 0 0 0 [n, n]) = 0 := by
  unfold formF
  rw [if_neg (by decide), if_neg (by simp [shapeBad, hasF]), if_neg (by decide), if_neg (by decide), if_neg (by decide)]
  unfold formsF
  rw [if_neg (by rw [h]; decide)]
  unfold formsF
  rw [if_neg (by rw [h]; decide)]
  rfl
theorem notN_form : ∀ j, formF nameF (notN j) = 0
  | 0 => rfl
  | j + 1 => form_not (notN_form j)
theorem orN_form : ∀ j, formF nameF (orN j) = 0
  | 0 => rfl
  | j + 1 => form_or (orN_form j)
theorem check_great {n : Nd} (h : formF nameF n = 0) : checkF nameF n = greatF n := by
  unfold checkF
  rw [h]
  rfl
theorem notN_check (j : Nat) (h : j ≤ 300) : checkF nameF (notN j) = if 256 < j + 1 then 16 else 0 := by
  rw [check_great (notN_form j)]
  unfold greatF
  rw [notN_size, notN_depth, if_neg (by omega)]
def NbI (w1 : World) (B : Nat) (wr : World) (nd : Nd) : Prop := ∃ (xo : Int) (xn1 : Option Addr) (xn2 xn3 : Nat) (xs xm xq : Int) (xl1 : Option Addr) (xl2 xl3 : Nat), wr.heap[B]? = some (.cells #[.int .i64 xo, .slice xn1 xn2 xn3, .int .i64 xs, .int .i64 xm, .int .i64 xq, .slice xl1 xl2 xl3] 34 (0, 0)) ∧ NdV wr (New w1) nd (.agg #[.int .i64 xo, .slice xn1 xn2 xn3, .int .i64 xs, .int .i64 xm, .int .i64 xq, .slice xl1 xl2 xl3])
theorem NbI.ext {w1 : World} {B : Nat} {wr w' : World} {nd : Nd} (h : NbI w1 B wr nd) (hu : Upto [] wr w') : NbI w1 B w' nd := by
  obtain ⟨xo, xn1, xn2, xn3, xs, xm, xq, xl1, xl2, xl3, h1, h2⟩ := h
  exact ⟨xo, xn1, xn2, xn3, xs, xm, xq, xl1, xl2, xl3, hu.at h1 (by simp), h2.ext hu⟩
theorem NbI.neg {w0 w1 wr : World} {B : Nat} {nd : Nd} {xo : Int} {xn1 : Option Addr} {xn2 xn3 : Nat} {xs xm xq : Int} {xl1 : Option Addr} {xl2 xl3 : Nat} (h1 : wr.heap[B]? = some (.cells #[.int .i64 xo, .slice xn1 xn2 xn3, .int .i64 xs, .int .i64 xm, .int .i64 xq, .slice xl1 xl2 xl3] 34 (0, 0))) (h2 : NdV wr (New w1) nd (.agg #[.int .i64 xo, .slice xn1 xn2 xn3, .int .i64 xs, .int .i64 xm, .int .i64 xq, .slice xl1 xl2 xl3])) (hB : B < w1.heap.size) (hu1 : w1.heap.size ≤ wr.heap.size) (hu : Upto [] w0 wr) (h0 : w0.heap.size ≤ B) :
    NbI w1 B ((((((((wr.alloc (.cells #[.int .i64 xo, .slice xn1 xn2 xn3, .int .i64 xs, .int .i64 xm, .int .i64 xq, .slice xl1 xl2 xl3] 34)).setCell ⟨B, 0, none⟩ (.int .i64 11)).setCell ⟨B, 1, none⟩ (.slice none 0 0)).setCell ⟨B, 2, none⟩ (.int .i64 0)).setCell ⟨B, 3, none⟩ (.int .i64 0)).setCell ⟨B, 4, none⟩ (.int .i64 0)).setCell ⟨B, 5, none⟩ (.slice (some ⟨wr.heap.size, 0, none⟩) 1 1))) (.mk 11 [] 0 0 0 [nd]) ∧
    Upto [] w0 ((((((((wr.alloc (.cells #[.int .i64 xo, .slice xn1 xn2 xn3, .int .i64 xs, .int .i64 xm, .int .i64 xq, .slice xl1 xl2 xl3] 34)).setCell ⟨B, 0, none⟩ (.int .i64 11)).setCell ⟨B, 1, none⟩ (.slice none 0 0)).setCell ⟨B, 2, none⟩ (.int .i64 0)).setCell ⟨B, 3, none⟩ (.int .i64 0)).setCell ⟨B, 4, none⟩ (.int .i64 0)).setCell ⟨B, 5, none⟩ (.slice (some ⟨wr.heap.size, 0, none⟩) 1 1))) := by
  have hal : Upto [] wr (wr.alloc (.cells #[.int .i64 xo, .slice xn1 xn2 xn3, .int .i64 xs, .int .i64 xm, .int .i64 xq, .slice xl1 xl2 xl3] 34)) := (Upto.refl [] wr).alloc _
  have hst := nd_self (wr.alloc (.cells #[.int .i64 xo, .slice xn1 xn2 xn3, .int .i64 xs, .int .i64 xm, .int .i64 xq, .slice xl1 xl2 xl3] 34)) B (.int .i64 11) (.slice none 0 0) (.int .i64 0) (.int .i64 0) (.int .i64 0) (.slice (some ⟨wr.heap.size, 0, none⟩) 1 1)
  have hk := hst.at (new_at wr (.cells #[.int .i64 xo, .slice xn1 xn2 xn3, .int .i64 xs, .int .i64 xm, .int .i64 xq, .slice xl1 xl2 xl3] 34)) (by simp; omega)
  refine ⟨⟨_, _, _, _, _, _, _, _, _, _, nd_store (hal.at h1 (by simp)) .., ?_⟩, nd_up (hu.trans_ext hal) (Or.inr h0) ..⟩
  exact NdV.one SlP.nil ((h2.ext hal).upto hst (fun b hb _ hm => by simp at hm; unfold New at hb; omega)) (show w1.heap.size ≤ wr.heap.size from hu1) hk
theorem lim_ok (k : Nat) (hk : k ≤ 256) : readF bareP (parS k) = ⟨⟨[], trueN⟩, 0, 0, 0⟩ := by
  unfold readF
  rw [lex_pars k (by omega)]
  simp only
  rw [(par_ok k hk).1]
  simp only
  exact (par_ok k hk).2
theorem lim_bad (k : Nat) (h1 : 256 < k) (h2 : k ≤ 300) : readF bareP (parS k) = ⟨.zero, 1, 257, 16⟩ := by
  unfold readF
  rw [lex_pars k h2]
  simp only
  obtain ⟨q, s, e1, e2⟩ := par_bad k h1
  rw [e1]
  exact e2
theorem lim_text (k : Nat) : (ByteArray.mk (Array.replicate k 40) ++ ByteArray.mk #[116, 114, 117, 101] ++ ByteArray.mk (Array.replicate k 41)) = ⟨(parS k).toArray⟩ := by
  rw [← List.toArray_replicate, ← List.toArray_replicate]
  show ByteArray.mk (List.replicate k 40).toArray ++ ByteArray.mk [116, 114, 117, 101].toArray ++ ByteArray.mk (List.replicate k 41).toArray = _
  rw [ByteArray.mk_append_mk, ByteArray.mk_append_mk]
  unfold parS
  rw [List.append_assoc]
theorem great_full : greatF (orN 11) = 0 := by
  have h1 : sizeF (orN 11) = 4095 := by have := orN_size 11; omega
  have h2 : depthF (orN 11) = 12 := orN_depth 11
  unfold greatF
  rw [h1, h2]
  rfl
theorem great_one : greatF (.mk 11 [] 0 0 0 [orN 11]) = 0 := by
  have h1 : sizeF (.mk 11 [] 0 0 0 [orN 11]) = 4096 := by have := orN_size 11; simp only [sizeF, sizesF]; omega
  have h2 : depthF (.mk 11 [] 0 0 0 [orN 11]) = 13 := by simp only [depthF, depthsF, orN_depth]; omega
  unfold greatF
  rw [h1, h2]
  rfl
theorem size_two : sizeF (.mk 11 [] 0 0 0 [.mk 11 [] 0 0 0 [orN 11]]) = 4097 := by have := orN_size 11; simp only [sizeF, sizesF]; omega
theorem great_two : greatF (.mk 11 [] 0 0 0 [.mk 11 [] 0 0 0 [orN 11]]) = 8 := by
  unfold greatF
  rw [size_two]
  rfl
theorem inN_notN : ∀ j, inN 10000000 (notN j)
  | 0 => by simp [notN, inN, insN]
  | j + 1 => by simp [notN, inN, insN, inN_notN j]
theorem inN_orN : ∀ j, inN 10000000 (orN j)
  | 0 => by simp [orN, inN, insN]
  | j + 1 => by simp [orN, inN, insN, inN_orN j]
theorem NbI.or {w1 wr : World} {B : Nat} {nd : Nd} {xo : Int} {xn1 : Option Addr} {xn2 xn3 : Nat} {xs xm xq : Int} {xl1 : Option Addr} {xl2 xl3 : Nat} (h1 : wr.heap[B]? = some (.cells #[.int .i64 xo, .slice xn1 xn2 xn3, .int .i64 xs, .int .i64 xm, .int .i64 xq, .slice xl1 xl2 xl3] 34 (0, 0))) (h2 : NdV wr (New w1) nd (.agg #[.int .i64 xo, .slice xn1 xn2 xn3, .int .i64 xs, .int .i64 xm, .int .i64 xq, .slice xl1 xl2 xl3])) (hB : B < w1.heap.size) (hu1 : w1.heap.size ≤ wr.heap.size) :
    NbI w1 B ((((((((wr.alloc (.cells #[.int .i64 xo, .slice xn1 xn2 xn3, .int .i64 xs, .int .i64 xm, .int .i64 xq, .slice xl1 xl2 xl3, .int .i64 xo, .slice xn1 xn2 xn3, .int .i64 xs, .int .i64 xm, .int .i64 xq, .slice xl1 xl2 xl3] 34)).setCell ⟨B, 0, none⟩ (.int .i64 13)).setCell ⟨B, 1, none⟩ (.slice none 0 0)).setCell ⟨B, 2, none⟩ (.int .i64 0)).setCell ⟨B, 3, none⟩ (.int .i64 0)).setCell ⟨B, 4, none⟩ (.int .i64 0)).setCell ⟨B, 5, none⟩ (.slice (some ⟨wr.heap.size, 0, none⟩) 2 2))) (.mk 13 [] 0 0 0 [nd, nd]) ∧
    Upto [B] wr ((((((((wr.alloc (.cells #[.int .i64 xo, .slice xn1 xn2 xn3, .int .i64 xs, .int .i64 xm, .int .i64 xq, .slice xl1 xl2 xl3, .int .i64 xo, .slice xn1 xn2 xn3, .int .i64 xs, .int .i64 xm, .int .i64 xq, .slice xl1 xl2 xl3] 34)).setCell ⟨B, 0, none⟩ (.int .i64 13)).setCell ⟨B, 1, none⟩ (.slice none 0 0)).setCell ⟨B, 2, none⟩ (.int .i64 0)).setCell ⟨B, 3, none⟩ (.int .i64 0)).setCell ⟨B, 4, none⟩ (.int .i64 0)).setCell ⟨B, 5, none⟩ (.slice (some ⟨wr.heap.size, 0, none⟩) 2 2))) := by
  have hal : Upto [] wr (wr.alloc (.cells #[.int .i64 xo, .slice xn1 xn2 xn3, .int .i64 xs, .int .i64 xm, .int .i64 xq, .slice xl1 xl2 xl3, .int .i64 xo, .slice xn1 xn2 xn3, .int .i64 xs, .int .i64 xm, .int .i64 xq, .slice xl1 xl2 xl3] 34)) := (Upto.refl [] wr).alloc _
  have hst := nd_self (wr.alloc (.cells #[.int .i64 xo, .slice xn1 xn2 xn3, .int .i64 xs, .int .i64 xm, .int .i64 xq, .slice xl1 xl2 xl3, .int .i64 xo, .slice xn1 xn2 xn3, .int .i64 xs, .int .i64 xm, .int .i64 xq, .slice xl1 xl2 xl3] 34)) B (.int .i64 13) (.slice none 0 0) (.int .i64 0) (.int .i64 0) (.int .i64 0) (.slice (some ⟨wr.heap.size, 0, none⟩) 2 2)
  have hk := hst.at (new_at wr (.cells #[.int .i64 xo, .slice xn1 xn2 xn3, .int .i64 xs, .int .i64 xm, .int .i64 xq, .slice xl1 xl2 xl3, .int .i64 xo, .slice xn1 xn2 xn3, .int .i64 xs, .int .i64 xm, .int .i64 xq, .slice xl1 xl2 xl3] 34)) (by simp; omega)
  have hn := (h2.ext hal).upto hst (fun b hb _ hm => by simp at hm; unfold New at hb; omega)
  exact ⟨⟨_, _, _, _, _, _, _, _, _, _, nd_store (hal.at h1 (by simp)) .., NdV.two SlP.nil hn hn (show w1.heap.size ≤ wr.heap.size from hu1) hk⟩, (hal.mono (by simp)).trans_same hst⟩
set_option maxRecDepth 100000 in
set_option maxHeartbeats 12800000 in
theorem formulaLimits_walk (z : Int) (w : World) (hz : 0 ≤ z ∧ z ≤ 255) (hE : Env w ∧ SEnv w ∧ FEnv w) : Calls Tryz.prog 5 #[.int .u8 z] w fun e w' => e = .returned (.bool true) ∧ Upto [] w w' := by
  obtain ⟨he, hse, hfe⟩ := hE
  have HK : Hid (∀ u, Upto [] w u → Calls Tryz.prog 16 #[] u fun e w' => e = .returned (.bool true) ∧ Upto [] u w') := Lib.hid (fun u hu => fknown_calls u (he.ext hu) (hse.upto hu (by simp)))
  have HPF : Hid (∀ u x, Upto [] w u → x.length ≤ 100000 → Calls Tryz.prog 22 #[.string ⟨x.toArray⟩] u (FmPost u (readF bareP x))) := Lib.hid (fun u x hu hx => parseFormula_calls x (by omega) u (he.ext hu) (hse.upto hu (by simp)))
  have HCK : Hid (∀ (u : World) nd v (P : Nat → Prop), Upto [] w u → NdV u P nd v → sizeF nd ≤ 10000000 → inN 10000000 nd → Calls Tryz.prog 31 #[v] u fun e w' => e = .returned (.int .i64 (checkF nameF nd : Nat)) ∧ Upto [] u w') := Lib.hid (fun u nd v P hu hn hs hi => checkf_calls nd v u P hn hs hi (he.ext hu) (hfe.ext hu))
  clear he hse hfe
  obtain ⟨m, hm, hm10⟩ : ∃ m : Nat, z % 10 = (m : Int) ∧ m < 10 := ⟨(z % 10).toNat, by omega, by omega⟩
  have jm0 : (0 : Int) ≤ m := by omega
  have jm1 : (m : Int) < 10 := by omega
  have hb1 := new_at w (.cells #[.int .i64 0, .slice none 0 0, .int .i64 0, .int .i64 0, .int .i64 0, .slice none 0 0] 34)
  have hu1 : Upto [] w (w.alloc (.cells #[.int .i64 0, .slice none 0 0, .int .i64 0, .int .i64 0, .int .i64 0, .slice none 0 0] 34)) := (Upto.refl [] w).alloc _
  have HSZ : Hid (∀ (u : World) nd v (P : Nat → Prop), NdV u P nd v → sizeF nd ≤ 10000000 → Calls Tryz.prog 32 #[v] u fun e w' => e = .returned (.int .i64 (sizeF nd : Nat)) ∧ Upto [] u w') := Lib.hid (fun u nd v P hn hs => sizeN_calls _ nd hs (Nat.le_refl _) v u P hn)
  have HDP : Hid (∀ (u : World) nd v (P : Nat → Prop), NdV u P nd v → sizeF nd ≤ 10000000 → Calls Tryz.prog 33 #[v] u fun e w' => e = .returned (.int .i64 (depthF nd : Nat)) ∧ Upto [] u w') := Lib.hid (fun u nd v P hn hs => depthN_calls _ nd hs (Nat.le_refl _) v u P hn)
  have HN0 : Hid (NbI (w.alloc (.cells #[.int .i64 0, .slice none 0 0, .int .i64 0, .int .i64 0, .int .i64 0, .slice none 0 0] 34)) w.heap.size (w.alloc (.cells #[.int .i64 0, .slice none 0 0, .int .i64 0, .int .i64 0, .int .i64 0, .slice none 0 0] 34)) (notN 0)) := Lib.hid ⟨_, _, _, _, _, _, _, _, _, _, hb1, NdV.atom SlP.nil⟩
  have HBL : Hid (w.heap.size < (w.alloc (.cells #[.int .i64 0, .slice none 0 0, .int .i64 0, .int .i64 0, .int .i64 0, .slice none 0 0] 34)).heap.size) := Lib.hid (by simp)
  have HU1 := Lib.hid hu1
  clear hb1 hu1
  go_enter Tryz.func5, Tryz.ntmps5
  go_wp2_with fail
  generalize hW1 : w.alloc (.cells #[.int .i64 0, .slice none 0 0, .int .i64 0, .int .i64 0, .int .i64 0, .slice none 0 0] 34) = W1 at *
  obtain ⟨B, hB, HB⟩ : ∃ B, B = w.heap.size ∧ Hid (B = w.heap.size) := ⟨_, rfl, Lib.hid rfl⟩
  rw [← hB] at HN0 HBL ⊢
  clear hW1 hB hm
  go_loopw [5, 6, 7] (fun t5 t6 t7 wr => ∃ j : Nat, j + 1 ≤ 250 + m ∧ t7 = .int .i64 ((j : Int) + 1) ∧ t5 = .string ⟨(List.replicate j (40 : UInt8)).toArray⟩ ∧ t6 = .string ⟨(List.replicate j (41 : UInt8)).toArray⟩ ∧ Hid (NbI W1 B wr (notN j)) ∧ Hid (W1.heap.size ≤ wr.heap.size) ∧ Hid (Upto [] w wr)) (fun _ _ t7 _ => 260 - (intOf t7).toNat)
  case atStart => exact ⟨0, by omega, rfl, rfl, rfl, HN0, Lib.hid (Nat.le_refl _), HU1⟩
  case round =>
    obtain ⟨j, hj, rfl, rfl, rfl, HN, HV, HU⟩ := hrel
    have hj0 : (0 : Int) ≤ j := by omega
    rcases Nat.lt_or_ge (j + 1) (250 + m) with hlt | hge
    · have hltI : (j : Int) + 1 < 250 + m := by omega
      have HNN := HN.out
      obtain ⟨xo, xn1, xn2, xn3, xs, xm, xq, xl1, xl2, xl3, h1, h2⟩ := HNN
      have HNG := Lib.hid (NbI.neg h1 h2 HBL.out HV.out HU.out (by have := HB.out; omega))
      have hal : Upto [] wr (wr.alloc (.cells #[.int .i64 xo, .slice xn1 xn2 xn3, .int .i64 xs, .int .i64 xm, .int .i64 xq, .slice xl1 xl2 xl3] 34)) := (Upto.refl [] wr).alloc _
      have hb2 := hal.at h1 (by simp)
      obtain ⟨x0, x1, x2, x3, x4, x5⟩ := cells6 h1
      obtain ⟨y0, y1, y2, y3, y4, y5⟩ := cells6 hb2
      obtain ⟨yf0, yf1, yf2, yf3, yf4, yf5⟩ := frees6 hb2
      have HSZ : Hid (W1.heap.size ≤ (wr.alloc (.cells #[.int .i64 xo, .slice xn1 xn2 xn3, .int .i64 xs, .int .i64 xm, .int .i64 xq, .slice xl1 xl2 xl3] 34)).heap.size) := Lib.hid (by have h1 := HV.out; have h2 := hal.size; omega)
      have ssA : (ByteArray.mk (List.replicate j (40 : UInt8)).toArray).size = j := by simp [ByteArray.size]
      have ssB : (ByteArray.mk (List.replicate j (41 : UInt8)).toArray).size = j := by simp [ByteArray.size]
      have sm : j + 1 ≤ 9223372036854775807 := by omega
      clear h1 h2 hal hb2
      go_wp2_with fail
      go_roundw
      case rel => exact ⟨j + 1, by omega, by go_num, congrArg Value.string (show ByteArray.mk (List.replicate j (40 : UInt8)).toArray ++ ByteArray.mk [40].toArray = _ by rw [ByteArray.mk_append_mk, List.replicate_succ']), congrArg Value.string (show ByteArray.mk (List.replicate j (41 : UInt8)).toArray ++ ByteArray.mk [41].toArray = _ by rw [ByteArray.mk_append_mk, List.replicate_succ']), Lib.hid HNG.out.1, Lib.hid (by simpa using HSZ.out), Lib.hid HNG.out.2⟩
      case measure => simp [intOf]; omega
    · have hgeI : ¬ (j : Int) + 1 < 250 + m := by omega
      obtain rfl : j = 249 + m := by omega
      have HNE := HN.out
      obtain ⟨yo, yn1, yn2, yn3, ys, ym, yq, yl1, yl2, yl3, h1, h2⟩ := HNE
      have HND := Lib.hid h2
      have HBB := Lib.hid h1
      have ssA : (ByteArray.mk (List.replicate (249 + m) (40 : UInt8)).toArray).size = 249 + m := by simp [ByteArray.size]
      have ssB : (ByteArray.mk (List.replicate (249 + m) (41 : UInt8)).toArray).size = 249 + m := by simp [ByteArray.size]
      have sm1 : 249 + m + 4 ≤ 9223372036854775807 := by omega
      have sm2 : 249 + m + 4 + (249 + m) ≤ 9223372036854775807 := by omega
      have HCN : Hid (∀ (n : Nat), checkF nameF (notN (249 + m)) = n → ∀ (u : World) v (P : Nat → Prop), Upto [] w u → NdV u P (notN (249 + m)) v → Calls Tryz.prog 31 #[v] u fun e w' => e = .returned (.int .i64 (n : Nat)) ∧ Upto [] u w') := Lib.hid (fun n hn u v P hu hv => by
        have h := HCK.out u _ v P hu hv (by rw [notN_size]; omega) (inN_notN _)
        rwa [hn] at h)
      have HDN : Hid (∀ (u : World) v (P : Nat → Prop), NdV u P (notN (249 + m)) v → Calls Tryz.prog 33 #[v] u fun e w' => e = .returned (.int .i64 (250 + (m : Int))) ∧ Upto [] u w') := Lib.hid (fun u v P hv => by
        have h := HDP.out u _ v P hv (by rw [notN_size]; omega)
        rw [notN_depth, show ((249 + m + 1 : Nat) : Int) = 250 + (m : Int) by omega] at h
        exact h)
      have hsz11 := orN_size 11
      have HCF : Hid (∀ (u : World) v (P : Nat → Prop), Upto [] w u → NdV u P (orN 11) v → Calls Tryz.prog 31 #[v] u fun e w' => e = .returned (.int .i64 0) ∧ Upto [] u w') := Lib.hid (fun u v P hu hv => by
        have h := HCK.out u _ v P hu hv (by omega) (inN_orN _)
        rw [check_great (orN_form 11), great_full] at h
        exact h)
      have HCO : Hid (∀ (u : World) v (P : Nat → Prop), Upto [] w u → NdV u P (.mk 11 [] 0 0 0 [orN 11]) v → Calls Tryz.prog 31 #[v] u fun e w' => e = .returned (.int .i64 0) ∧ Upto [] u w') := Lib.hid (fun u v P hu hv => by
        have h := HCK.out u _ v P hu hv (by simp only [sizeF, sizesF]; omega) (by simp [inN, insN, inN_orN 11])
        rw [check_great (form_not (orN_form 11)), great_one] at h
        exact h)
      have HCT : Hid (∀ (u : World) v (P : Nat → Prop), Upto [] w u → NdV u P (.mk 11 [] 0 0 0 [.mk 11 [] 0 0 0 [orN 11]]) v → Calls Tryz.prog 31 #[v] u fun e w' => e = .returned (.int .i64 8) ∧ Upto [] u w') := Lib.hid (fun u v P hu hv => by
        have h := HCK.out u _ v P hu hv (by simp only [sizeF, sizesF]; omega) (by simp [inN, insN, inN_orN 11])
        rw [check_great (form_not (form_not (orN_form 11))), great_two] at h
        exact h)
      have HST : Hid (∀ (u : World) v (P : Nat → Prop), NdV u P (.mk 11 [] 0 0 0 [.mk 11 [] 0 0 0 [orN 11]]) v → Calls Tryz.prog 32 #[v] u fun e w' => e = .returned (.int .i64 4097) ∧ Upto [] u w') := Lib.hid (fun u v P hv => by
        have h := HSZ.out u _ v P hv (by rw [size_two]; omega)
        rw [size_two] at h
        exact h)
      clear h1 h2 hgeI hsz11
      have h3 : m < 7 ∨ m = 7 ∨ 8 ≤ m := by omega
      rcases h3 with h3 | h3 | h3
      · have c1 : ¬ (256 : Int) < 250 + m := by omega
        have c2 : ¬ (256 : Int) < 250 + m - 1 := by omega
        have HRD : Hid (readF bareP (parS (249 + m)) = ⟨⟨[], trueN⟩, 0, 0, 0⟩) := Lib.hid (lim_ok _ (by omega))
        have HWN : Hid (checkF nameF (notN (249 + m)) = 0) := Lib.hid (by rw [notN_check _ (by omega)]; split <;> omega)
        have HPA : Hid (∀ u, Upto [] w u → Calls Tryz.prog 22 #[.string (ByteArray.mk (Array.replicate (249 + m) 40) ++ ByteArray.mk #[116, 114, 117, 101] ++ ByteArray.mk (Array.replicate (249 + m) 41))] u fun e w' => ∃ v, e = .returned (.tuple #[v, .agg #[.int .i64 0, .int .i64 0], .int .i64 0]) ∧ NdV w' (New u) trueN v ∧ Upto [] u w') := Lib.hid (fun u hu => by
          have h := HPF.out u (parS (249 + m)) hu (by unfold parS; simp; omega)
          rw [HRD.out] at h
          rw [lim_text]
          exact h)
        clear h3
        go_wp2_with fail
        refine (HPA.out _ HU.out).mono ?_
        rintro e w5 ⟨v5, rfl, hv5, hu5⟩
        obtain ⟨po, pn1, pn2, pn3, ps, pm, pq, pl1, pl2, pl3, rfl⟩ := hv5.six
        have HU5 := Lib.hid (HU.out.trans_ext hu5)
        have HB5 := Lib.hid (hu5.at HBB.out (by simp))
        have HN5 := Lib.hid (HND.out.ext hu5)
        have hup : Upto [] w5 ((w5.alloc (.cells #[.int .i64 po, .slice pn1 pn2 pn3, .int .i64 ps, .int .i64 pm, .int .i64 pq, .slice pl1 pl2 pl3] 34)).alloc (.cells #[.int .i64 0, .int .i64 0] 36)) := ((Upto.refl [] w5).alloc _).alloc _
        have huf : Upto [] w5 (((w5.alloc (.cells #[.int .i64 po, .slice pn1 pn2 pn3, .int .i64 ps, .int .i64 pm, .int .i64 pq, .slice pl1 pl2 pl3] 34)).alloc (.cells #[.int .i64 0, .int .i64 0] 36)).alloc (.cells #[.int .i64 1, .slice none 0 0, .int .i64 0, .int .i64 0, .int .i64 0, .slice none 0 0] 34)) := hup.alloc _
        have HUF := Lib.hid ((HU.out.trans_ext hu5).trans_ext huf)
        have HBF := Lib.hid (huf.at HB5.out (by simp))
        have HNF := Lib.hid (((HN5.out.mono (Q := fun b => New W1 b ∧ b < w5.heap.size + 1 + 1) (fun b hb hi => ⟨hb, by have := hi.lt; omega⟩)).ext huf))
        have HF0 : Hid (NbI (((w5.alloc (.cells #[.int .i64 po, .slice pn1 pn2 pn3, .int .i64 ps, .int .i64 pm, .int .i64 pq, .slice pl1 pl2 pl3] 34)).alloc (.cells #[.int .i64 0, .int .i64 0] 36)).alloc (.cells #[.int .i64 1, .slice none 0 0, .int .i64 0, .int .i64 0, .int .i64 0, .slice none 0 0] 34)) (w5.heap.size + 1 + 1) (((w5.alloc (.cells #[.int .i64 po, .slice pn1 pn2 pn3, .int .i64 ps, .int .i64 pm, .int .i64 pq, .slice pl1 pl2 pl3] 34)).alloc (.cells #[.int .i64 0, .int .i64 0] 36)).alloc (.cells #[.int .i64 1, .slice none 0 0, .int .i64 0, .int .i64 0, .int .i64 0, .slice none 0 0] 34)) (orN 0)) := Lib.hid ⟨_, _, _, _, _, _, _, _, _, _, by have := new_at ((w5.alloc (.cells #[.int .i64 po, .slice pn1 pn2 pn3, .int .i64 ps, .int .i64 pm, .int .i64 pq, .slice pl1 pl2 pl3] 34)).alloc (.cells #[.int .i64 0, .int .i64 0] 36)) (.cells #[.int .i64 1, .slice none 0 0, .int .i64 0, .int .i64 0, .int .i64 0, .slice none 0 0] 34); simpa using this, NdV.atom SlP.nil⟩
        have HFL : Hid (w5.heap.size + 1 + 1 < ((((w5.alloc (.cells #[.int .i64 po, .slice pn1 pn2 pn3, .int .i64 ps, .int .i64 pm, .int .i64 pq, .slice pl1 pl2 pl3] 34)).alloc (.cells #[.int .i64 0, .int .i64 0] 36)).alloc (.cells #[.int .i64 1, .slice none 0 0, .int .i64 0, .int .i64 0, .int .i64 0, .slice none 0 0] 34))).heap.size) := Lib.hid (by simp)
        have HBL5 : Hid (B < w5.heap.size) := Lib.hid (lt_of_heap HB5.out)
        clear hv5 hu5 HPA HPF HRD hup huf
        go_wp2_with fail
        generalize hwf : (((w5.alloc (.cells #[.int .i64 po, .slice pn1 pn2 pn3, .int .i64 ps, .int .i64 pm, .int .i64 pq, .slice pl1 pl2 pl3] 34)).alloc (.cells #[.int .i64 0, .int .i64 0] 36)).alloc (.cells #[.int .i64 1, .slice none 0 0, .int .i64 0, .int .i64 0, .int .i64 0, .slice none 0 0] 34)) = W2 at *
        obtain ⟨F, hF, HFE⟩ : ∃ F, F = w5.heap.size + 1 + 1 ∧ Hid (F = w5.heap.size + 1 + 1) := ⟨_, rfl, Lib.hid rfl⟩
        rw [← hF] at HF0 HFL HNF ⊢
        clear hwf hF
        go_loopw [13] (fun t13 wr => ∃ i : Nat, i ≤ 11 ∧ t13 = .int .i64 i ∧ Hid (NbI W2 F wr (orN i)) ∧ Hid (W2.heap.size ≤ wr.heap.size) ∧ Hid (Upto [F] W2 wr)) (fun t13 _ => 11 - (intOf t13).toNat)
        case atStart => exact ⟨0, by omega, rfl, HF0, Lib.hid (Nat.le_refl _), Lib.hid (Upto.refl _ _)⟩
        case round =>
          obtain ⟨i, hi, rfl, HN2, HV2, HX2⟩ := hrel
          have hi0 : (0 : Int) ≤ i := by omega
          have HNN := HN2.out
          obtain ⟨xo, xn1, xn2, xn3, xs, xm, xq, xl1, xl2, xl3, h1, h2⟩ := HNN
          rcases Nat.lt_or_ge i 11 with hlt | hge
          · have hltI : (i : Int) < 11 := by omega
            have HNG := Lib.hid (NbI.or h1 h2 HFL.out HV2.out)
            have hal : Upto [] wr (wr.alloc (.cells #[.int .i64 xo, .slice xn1 xn2 xn3, .int .i64 xs, .int .i64 xm, .int .i64 xq, .slice xl1 xl2 xl3, .int .i64 xo, .slice xn1 xn2 xn3, .int .i64 xs, .int .i64 xm, .int .i64 xq, .slice xl1 xl2 xl3] 34)) := (Upto.refl [] wr).alloc _
            have hb2 := hal.at h1 (by simp)
            obtain ⟨x0, x1, x2, x3, x4, x5⟩ := cells6 h1
            obtain ⟨y0, y1, y2, y3, y4, y5⟩ := cells6 hb2
            obtain ⟨yf0, yf1, yf2, yf3, yf4, yf5⟩ := frees6 hb2
            have HSZ2 : Hid (W2.heap.size ≤ (wr.alloc (.cells #[.int .i64 xo, .slice xn1 xn2 xn3, .int .i64 xs, .int .i64 xm, .int .i64 xq, .slice xl1 xl2 xl3, .int .i64 xo, .slice xn1 xn2 xn3, .int .i64 xs, .int .i64 xm, .int .i64 xq, .slice xl1 xl2 xl3] 34)).heap.size) := Lib.hid (by have h1 := HV2.out; have h2 := hal.size; omega)
            clear h1 h2 hal hb2
            go_wp2_with fail
            go_roundw
            case rel => exact ⟨i + 1, by omega, by go_num, Lib.hid HNG.out.1, Lib.hid (by simpa using HSZ2.out), Lib.hid (HX2.out.trans_same HNG.out.2)⟩
            case measure => simp [intOf]; omega
          · have hgeJ : ¬ (i : Int) < 11 := by omega
            obtain rfl : i = 11 := by omega
            obtain ⟨x0, x1, x2, x3, x4, x5⟩ := cells6 h1
            have hw4 : Upto [] wr ((((wr.alloc (.cells #[.int .i64 xo, .slice xn1 xn2 xn3, .int .i64 xs, .int .i64 xm, .int .i64 xq, .slice xl1 xl2 xl3] 34)).alloc (.cells #[.int .i64 11, .slice none 0 0, .int .i64 0, .int .i64 0, .int .i64 0, .slice (some ⟨wr.heap.size, 0, none⟩) 1 1] 34)).alloc (.cells #[.int .i64 11, .slice none 0 0, .int .i64 0, .int .i64 0, .int .i64 0, .slice (some ⟨wr.heap.size, 0, none⟩) 1 1] 34)).alloc (.cells #[.int .i64 11, .slice none 0 0, .int .i64 0, .int .i64 0, .int .i64 0, .slice (some ⟨wr.heap.size + 1 + 1, 0, none⟩) 1 1] 34)) := ((((Upto.refl [] wr).alloc _).alloc _).alloc _).alloc _
            have HU4 : Hid (Upto [] w ((((wr.alloc (.cells #[.int .i64 xo, .slice xn1 xn2 xn3, .int .i64 xs, .int .i64 xm, .int .i64 xq, .slice xl1 xl2 xl3] 34)).alloc (.cells #[.int .i64 11, .slice none 0 0, .int .i64 0, .int .i64 0, .int .i64 0, .slice (some ⟨wr.heap.size, 0, none⟩) 1 1] 34)).alloc (.cells #[.int .i64 11, .slice none 0 0, .int .i64 0, .int .i64 0, .int .i64 0, .slice (some ⟨wr.heap.size, 0, none⟩) 1 1] 34)).alloc (.cells #[.int .i64 11, .slice none 0 0, .int .i64 0, .int .i64 0, .int .i64 0, .slice (some ⟨wr.heap.size + 1 + 1, 0, none⟩) 1 1] 34))) := Lib.hid ((HUF.out.trans HX2.out (fun k hk => by have h1 := HFE.out; have h2 := HU5.out.size; simp at hk; subst hk; right; omega)).trans_ext hw4)
            have HbB := Lib.hid (hw4.at (HX2.out.at HBF.out (by have h1 := HFE.out; have h2 := HBL5.out; simp; omega)) (by simp))
            have HbF := Lib.hid (hw4.at h1 (by simp))
            have HnB := Lib.hid ((HNF.out.upto HX2.out (fun b hb _ => by have := hb.2; simp; omega)).ext hw4)
            have HnF := Lib.hid ((h2.ext hw4).mono (Q := fun _ => True) (fun _ _ _ => trivial))
            have k0 : ((((wr.alloc (.cells #[.int .i64 xo, .slice xn1 xn2 xn3, .int .i64 xs, .int .i64 xm, .int .i64 xq, .slice xl1 xl2 xl3] 34)).alloc (.cells #[.int .i64 11, .slice none 0 0, .int .i64 0, .int .i64 0, .int .i64 0, .slice (some ⟨wr.heap.size, 0, none⟩) 1 1] 34)).alloc (.cells #[.int .i64 11, .slice none 0 0, .int .i64 0, .int .i64 0, .int .i64 0, .slice (some ⟨wr.heap.size, 0, none⟩) 1 1] 34)).alloc (.cells #[.int .i64 11, .slice none 0 0, .int .i64 0, .int .i64 0, .int .i64 0, .slice (some ⟨wr.heap.size + 1 + 1, 0, none⟩) 1 1] 34)).heap[wr.heap.size]? = some (.cells #[.int .i64 xo, .slice xn1 xn2 xn3, .int .i64 xs, .int .i64 xm, .int .i64 xq, .slice xl1 xl2 xl3] 34 (0, 0)) := alloc_old (alloc_old (alloc_old (new_at wr _) _) _) _
            have HbO : Hid (((((wr.alloc (.cells #[.int .i64 xo, .slice xn1 xn2 xn3, .int .i64 xs, .int .i64 xm, .int .i64 xq, .slice xl1 xl2 xl3] 34)).alloc (.cells #[.int .i64 11, .slice none 0 0, .int .i64 0, .int .i64 0, .int .i64 0, .slice (some ⟨wr.heap.size, 0, none⟩) 1 1] 34)).alloc (.cells #[.int .i64 11, .slice none 0 0, .int .i64 0, .int .i64 0, .int .i64 0, .slice (some ⟨wr.heap.size, 0, none⟩) 1 1] 34)).alloc (.cells #[.int .i64 11, .slice none 0 0, .int .i64 0, .int .i64 0, .int .i64 0, .slice (some ⟨wr.heap.size + 1 + 1, 0, none⟩) 1 1] 34)).heap[wr.heap.size + 1]? = some (.cells #[.int .i64 11, .slice none 0 0, .int .i64 0, .int .i64 0, .int .i64 0, .slice (some ⟨wr.heap.size, 0, none⟩) 1 1] 34 (0, 0))) := Lib.hid (alloc_old (alloc_old (new_at1 wr _ _) _) _)
            have k2 : ((((wr.alloc (.cells #[.int .i64 xo, .slice xn1 xn2 xn3, .int .i64 xs, .int .i64 xm, .int .i64 xq, .slice xl1 xl2 xl3] 34)).alloc (.cells #[.int .i64 11, .slice none 0 0, .int .i64 0, .int .i64 0, .int .i64 0, .slice (some ⟨wr.heap.size, 0, none⟩) 1 1] 34)).alloc (.cells #[.int .i64 11, .slice none 0 0, .int .i64 0, .int .i64 0, .int .i64 0, .slice (some ⟨wr.heap.size, 0, none⟩) 1 1] 34)).alloc (.cells #[.int .i64 11, .slice none 0 0, .int .i64 0, .int .i64 0, .int .i64 0, .slice (some ⟨wr.heap.size + 1 + 1, 0, none⟩) 1 1] 34)).heap[wr.heap.size + 1 + 1]? = some (.cells #[.int .i64 11, .slice none 0 0, .int .i64 0, .int .i64 0, .int .i64 0, .slice (some ⟨wr.heap.size, 0, none⟩) 1 1] 34 (0, 0)) := alloc_old (new_at2 wr _ _ _) _
            have HbT : Hid (((((wr.alloc (.cells #[.int .i64 xo, .slice xn1 xn2 xn3, .int .i64 xs, .int .i64 xm, .int .i64 xq, .slice xl1 xl2 xl3] 34)).alloc (.cells #[.int .i64 11, .slice none 0 0, .int .i64 0, .int .i64 0, .int .i64 0, .slice (some ⟨wr.heap.size, 0, none⟩) 1 1] 34)).alloc (.cells #[.int .i64 11, .slice none 0 0, .int .i64 0, .int .i64 0, .int .i64 0, .slice (some ⟨wr.heap.size, 0, none⟩) 1 1] 34)).alloc (.cells #[.int .i64 11, .slice none 0 0, .int .i64 0, .int .i64 0, .int .i64 0, .slice (some ⟨wr.heap.size + 1 + 1, 0, none⟩) 1 1] 34)).heap[wr.heap.size + 1 + 1 + 1]? = some (.cells #[.int .i64 11, .slice none 0 0, .int .i64 0, .int .i64 0, .int .i64 0, .slice (some ⟨wr.heap.size + 1 + 1, 0, none⟩) 1 1] 34 (0, 0))) := Lib.hid (by have := new_at (((wr.alloc (.cells #[.int .i64 xo, .slice xn1 xn2 xn3, .int .i64 xs, .int .i64 xm, .int .i64 xq, .slice xl1 xl2 xl3] 34)).alloc (.cells #[.int .i64 11, .slice none 0 0, .int .i64 0, .int .i64 0, .int .i64 0, .slice (some ⟨wr.heap.size, 0, none⟩) 1 1] 34)).alloc (.cells #[.int .i64 11, .slice none 0 0, .int .i64 0, .int .i64 0, .int .i64 0, .slice (some ⟨wr.heap.size, 0, none⟩) 1 1] 34)) (.cells #[.int .i64 11, .slice none 0 0, .int .i64 0, .int .i64 0, .int .i64 0, .slice (some ⟨wr.heap.size + 1 + 1, 0, none⟩) 1 1] 34); simpa using this)
            have HnO := Lib.hid (NdV.one (op := 11) (so := 0) (names := []) SlP.nil HnF.out trivial k0)
            have HnT := Lib.hid (NdV.one (op := 11) (so := 0) (names := []) SlP.nil HnO.out trivial k2)
            clear h1 h2 hw4 k0 k2
            go_wp2_with fail
            generalize hw4 : ((((wr.alloc (.cells #[.int .i64 xo, .slice xn1 xn2 xn3, .int .i64 xs, .int .i64 xm, .int .i64 xq, .slice xl1 xl2 xl3] 34)).alloc (.cells #[.int .i64 11, .slice none 0 0, .int .i64 0, .int .i64 0, .int .i64 0, .slice (some ⟨wr.heap.size, 0, none⟩) 1 1] 34)).alloc (.cells #[.int .i64 11, .slice none 0 0, .int .i64 0, .int .i64 0, .int .i64 0, .slice (some ⟨wr.heap.size, 0, none⟩) 1 1] 34)).alloc (.cells #[.int .i64 11, .slice none 0 0, .int .i64 0, .int .i64 0, .int .i64 0, .slice (some ⟨wr.heap.size + 1 + 1, 0, none⟩) 1 1] 34)) = WX at *
            generalize wr.heap.size = D at *
            clear hw4
            refine (HK.out _ HU4.out).mono ?_
            rintro e w8 ⟨rfl, hu⟩
            have HU8 := Lib.hid (HU4.out.trans_ext hu)
            have HbB8 := Lib.hid (hu.at HbB.out (by simp))
            have HnB8 := Lib.hid (HnB.out.ext hu)
            have HbF8 := Lib.hid (hu.at HbF.out (by simp))
            have HnF8 := Lib.hid (HnF.out.ext hu)
            have HbO8 := Lib.hid (hu.at HbO.out (by simp))
            have HnO8 := Lib.hid (HnO.out.ext hu)
            have HbT8 := Lib.hid (hu.at HbT.out (by simp))
            have HnT8 := Lib.hid (HnT.out.ext hu)
            have hc := HbB8.out
            obtain ⟨q00, q01, q02, q03, q04, q05⟩ := cells6 hc
            clear hu hc
            go_wp2_with fail
            refine (HCN.out 0 HWN.out _ _ _ HU8.out HnB8.out).mono ?_
            rintro e w9 ⟨rfl, hu⟩
            have HU9 := Lib.hid (HU8.out.trans_ext hu)
            have HbB9 := Lib.hid (hu.at HbB8.out (by simp))
            have HnB9 := Lib.hid (HnB8.out.ext hu)
            have HbF9 := Lib.hid (hu.at HbF8.out (by simp))
            have HnF9 := Lib.hid (HnF8.out.ext hu)
            have HbO9 := Lib.hid (hu.at HbO8.out (by simp))
            have HnO9 := Lib.hid (HnO8.out.ext hu)
            have HbT9 := Lib.hid (hu.at HbT8.out (by simp))
            have HnT9 := Lib.hid (HnT8.out.ext hu)
            have hc := HbF9.out
            obtain ⟨q10, q11, q12, q13, q14, q15⟩ := cells6 hc
            clear hu hc
            go_wp2_with fail
            refine (HCF.out _ _ _ HU9.out HnF9.out).mono ?_
            rintro e w10 ⟨rfl, hu⟩
            have HU10 := Lib.hid (HU9.out.trans_ext hu)
            have HbB10 := Lib.hid (hu.at HbB9.out (by simp))
            have HnB10 := Lib.hid (HnB9.out.ext hu)
            have HbO10 := Lib.hid (hu.at HbO9.out (by simp))
            have HnO10 := Lib.hid (HnO9.out.ext hu)
            have HbT10 := Lib.hid (hu.at HbT9.out (by simp))
            have HnT10 := Lib.hid (HnT9.out.ext hu)
            have hc := HbO10.out
            obtain ⟨q20, q21, q22, q23, q24, q25⟩ := cells6 hc
            clear hu hc
            go_wp2_with fail
            refine (HCO.out _ _ _ HU10.out HnO10.out).mono ?_
            rintro e w11 ⟨rfl, hu⟩
            have HU11 := Lib.hid (HU10.out.trans_ext hu)
            have HbB11 := Lib.hid (hu.at HbB10.out (by simp))
            have HnB11 := Lib.hid (HnB10.out.ext hu)
            have HbT11 := Lib.hid (hu.at HbT10.out (by simp))
            have HnT11 := Lib.hid (HnT10.out.ext hu)
            have hc := HbT11.out
            obtain ⟨q30, q31, q32, q33, q34, q35⟩ := cells6 hc
            clear hu hc
            go_wp2_with fail
            refine (HCT.out _ _ _ HU11.out HnT11.out).mono ?_
            rintro e w12 ⟨rfl, hu⟩
            have HU12 := Lib.hid (HU11.out.trans_ext hu)
            have HbB12 := Lib.hid (hu.at HbB11.out (by simp))
            have HnB12 := Lib.hid (HnB11.out.ext hu)
            have HbT12 := Lib.hid (hu.at HbT11.out (by simp))
            have HnT12 := Lib.hid (HnT11.out.ext hu)
            have hc := HbT12.out
            obtain ⟨q40, q41, q42, q43, q44, q45⟩ := cells6 hc
            clear hu hc
            go_wp2_with fail
            refine (HST.out _ _ _ HnT12.out).mono ?_
            rintro e w13 ⟨rfl, hu⟩
            have HU13 := Lib.hid (HU12.out.trans_ext hu)
            have HbB13 := Lib.hid (hu.at HbB12.out (by simp))
            have HnB13 := Lib.hid (HnB12.out.ext hu)
            have hc := HbB13.out
            obtain ⟨q50, q51, q52, q53, q54, q55⟩ := cells6 hc
            clear hu hc
            go_wp2_with fail
            refine (HDN.out _ _ _ HnB13.out).mono ?_
            rintro e w14 ⟨rfl, hu⟩
            have HU14 := Lib.hid (HU13.out.trans_ext hu)
            clear hu
            go_wp2_with fail
            go_ret
            exact ⟨rfl, HU14.out⟩
      · have c1 :  (256 : Int) < 250 + m := by omega
        have c2 : ¬ (256 : Int) < 250 + m - 1 := by omega
        have HRD : Hid (readF bareP (parS (249 + m)) = ⟨⟨[], trueN⟩, 0, 0, 0⟩) := Lib.hid (lim_ok _ (by omega))
        have HWN : Hid (checkF nameF (notN (249 + m)) = 16) := Lib.hid (by rw [notN_check _ (by omega)]; split <;> omega)
        have HPA : Hid (∀ u, Upto [] w u → Calls Tryz.prog 22 #[.string (ByteArray.mk (Array.replicate (249 + m) 40) ++ ByteArray.mk #[116, 114, 117, 101] ++ ByteArray.mk (Array.replicate (249 + m) 41))] u fun e w' => ∃ v, e = .returned (.tuple #[v, .agg #[.int .i64 0, .int .i64 0], .int .i64 0]) ∧ NdV w' (New u) trueN v ∧ Upto [] u w') := Lib.hid (fun u hu => by
          have h := HPF.out u (parS (249 + m)) hu (by unfold parS; simp; omega)
          rw [HRD.out] at h
          rw [lim_text]
          exact h)
        clear h3
        go_wp2_with fail
        refine (HPA.out _ HU.out).mono ?_
        rintro e w5 ⟨v5, rfl, hv5, hu5⟩
        obtain ⟨po, pn1, pn2, pn3, ps, pm, pq, pl1, pl2, pl3, rfl⟩ := hv5.six
        have HU5 := Lib.hid (HU.out.trans_ext hu5)
        have HB5 := Lib.hid (hu5.at HBB.out (by simp))
        have HN5 := Lib.hid (HND.out.ext hu5)
        have hup : Upto [] w5 ((w5.alloc (.cells #[.int .i64 po, .slice pn1 pn2 pn3, .int .i64 ps, .int .i64 pm, .int .i64 pq, .slice pl1 pl2 pl3] 34)).alloc (.cells #[.int .i64 0, .int .i64 0] 36)) := ((Upto.refl [] w5).alloc _).alloc _
        have huf : Upto [] w5 (((w5.alloc (.cells #[.int .i64 po, .slice pn1 pn2 pn3, .int .i64 ps, .int .i64 pm, .int .i64 pq, .slice pl1 pl2 pl3] 34)).alloc (.cells #[.int .i64 0, .int .i64 0] 36)).alloc (.cells #[.int .i64 1, .slice none 0 0, .int .i64 0, .int .i64 0, .int .i64 0, .slice none 0 0] 34)) := hup.alloc _
        have HUF := Lib.hid ((HU.out.trans_ext hu5).trans_ext huf)
        have HBF := Lib.hid (huf.at HB5.out (by simp))
        have HNF := Lib.hid (((HN5.out.mono (Q := fun b => New W1 b ∧ b < w5.heap.size + 1 + 1) (fun b hb hi => ⟨hb, by have := hi.lt; omega⟩)).ext huf))
        have HF0 : Hid (NbI (((w5.alloc (.cells #[.int .i64 po, .slice pn1 pn2 pn3, .int .i64 ps, .int .i64 pm, .int .i64 pq, .slice pl1 pl2 pl3] 34)).alloc (.cells #[.int .i64 0, .int .i64 0] 36)).alloc (.cells #[.int .i64 1, .slice none 0 0, .int .i64 0, .int .i64 0, .int .i64 0, .slice none 0 0] 34)) (w5.heap.size + 1 + 1) (((w5.alloc (.cells #[.int .i64 po, .slice pn1 pn2 pn3, .int .i64 ps, .int .i64 pm, .int .i64 pq, .slice pl1 pl2 pl3] 34)).alloc (.cells #[.int .i64 0, .int .i64 0] 36)).alloc (.cells #[.int .i64 1, .slice none 0 0, .int .i64 0, .int .i64 0, .int .i64 0, .slice none 0 0] 34)) (orN 0)) := Lib.hid ⟨_, _, _, _, _, _, _, _, _, _, by have := new_at ((w5.alloc (.cells #[.int .i64 po, .slice pn1 pn2 pn3, .int .i64 ps, .int .i64 pm, .int .i64 pq, .slice pl1 pl2 pl3] 34)).alloc (.cells #[.int .i64 0, .int .i64 0] 36)) (.cells #[.int .i64 1, .slice none 0 0, .int .i64 0, .int .i64 0, .int .i64 0, .slice none 0 0] 34); simpa using this, NdV.atom SlP.nil⟩
        have HFL : Hid (w5.heap.size + 1 + 1 < ((((w5.alloc (.cells #[.int .i64 po, .slice pn1 pn2 pn3, .int .i64 ps, .int .i64 pm, .int .i64 pq, .slice pl1 pl2 pl3] 34)).alloc (.cells #[.int .i64 0, .int .i64 0] 36)).alloc (.cells #[.int .i64 1, .slice none 0 0, .int .i64 0, .int .i64 0, .int .i64 0, .slice none 0 0] 34))).heap.size) := Lib.hid (by simp)
        have HBL5 : Hid (B < w5.heap.size) := Lib.hid (lt_of_heap HB5.out)
        clear hv5 hu5 HPA HPF HRD hup huf
        go_wp2_with fail
        generalize hwf : (((w5.alloc (.cells #[.int .i64 po, .slice pn1 pn2 pn3, .int .i64 ps, .int .i64 pm, .int .i64 pq, .slice pl1 pl2 pl3] 34)).alloc (.cells #[.int .i64 0, .int .i64 0] 36)).alloc (.cells #[.int .i64 1, .slice none 0 0, .int .i64 0, .int .i64 0, .int .i64 0, .slice none 0 0] 34)) = W2 at *
        obtain ⟨F, hF, HFE⟩ : ∃ F, F = w5.heap.size + 1 + 1 ∧ Hid (F = w5.heap.size + 1 + 1) := ⟨_, rfl, Lib.hid rfl⟩
        rw [← hF] at HF0 HFL HNF ⊢
        clear hwf hF
        go_loopw [13] (fun t13 wr => ∃ i : Nat, i ≤ 11 ∧ t13 = .int .i64 i ∧ Hid (NbI W2 F wr (orN i)) ∧ Hid (W2.heap.size ≤ wr.heap.size) ∧ Hid (Upto [F] W2 wr)) (fun t13 _ => 11 - (intOf t13).toNat)
        case atStart => exact ⟨0, by omega, rfl, HF0, Lib.hid (Nat.le_refl _), Lib.hid (Upto.refl _ _)⟩
        case round =>
          obtain ⟨i, hi, rfl, HN2, HV2, HX2⟩ := hrel
          have hi0 : (0 : Int) ≤ i := by omega
          have HNN := HN2.out
          obtain ⟨xo, xn1, xn2, xn3, xs, xm, xq, xl1, xl2, xl3, h1, h2⟩ := HNN
          rcases Nat.lt_or_ge i 11 with hlt | hge
          · have hltI : (i : Int) < 11 := by omega
            have HNG := Lib.hid (NbI.or h1 h2 HFL.out HV2.out)
            have hal : Upto [] wr (wr.alloc (.cells #[.int .i64 xo, .slice xn1 xn2 xn3, .int .i64 xs, .int .i64 xm, .int .i64 xq, .slice xl1 xl2 xl3, .int .i64 xo, .slice xn1 xn2 xn3, .int .i64 xs, .int .i64 xm, .int .i64 xq, .slice xl1 xl2 xl3] 34)) := (Upto.refl [] wr).alloc _
            have hb2 := hal.at h1 (by simp)
            obtain ⟨x0, x1, x2, x3, x4, x5⟩ := cells6 h1
            obtain ⟨y0, y1, y2, y3, y4, y5⟩ := cells6 hb2
            obtain ⟨yf0, yf1, yf2, yf3, yf4, yf5⟩ := frees6 hb2
            have HSZ2 : Hid (W2.heap.size ≤ (wr.alloc (.cells #[.int .i64 xo, .slice xn1 xn2 xn3, .int .i64 xs, .int .i64 xm, .int .i64 xq, .slice xl1 xl2 xl3, .int .i64 xo, .slice xn1 xn2 xn3, .int .i64 xs, .int .i64 xm, .int .i64 xq, .slice xl1 xl2 xl3] 34)).heap.size) := Lib.hid (by have h1 := HV2.out; have h2 := hal.size; omega)
            clear h1 h2 hal hb2
            go_wp2_with fail
            go_roundw
            case rel => exact ⟨i + 1, by omega, by go_num, Lib.hid HNG.out.1, Lib.hid (by simpa using HSZ2.out), Lib.hid (HX2.out.trans_same HNG.out.2)⟩
            case measure => simp [intOf]; omega
          · have hgeJ : ¬ (i : Int) < 11 := by omega
            obtain rfl : i = 11 := by omega
            obtain ⟨x0, x1, x2, x3, x4, x5⟩ := cells6 h1
            have hw4 : Upto [] wr ((((wr.alloc (.cells #[.int .i64 xo, .slice xn1 xn2 xn3, .int .i64 xs, .int .i64 xm, .int .i64 xq, .slice xl1 xl2 xl3] 34)).alloc (.cells #[.int .i64 11, .slice none 0 0, .int .i64 0, .int .i64 0, .int .i64 0, .slice (some ⟨wr.heap.size, 0, none⟩) 1 1] 34)).alloc (.cells #[.int .i64 11, .slice none 0 0, .int .i64 0, .int .i64 0, .int .i64 0, .slice (some ⟨wr.heap.size, 0, none⟩) 1 1] 34)).alloc (.cells #[.int .i64 11, .slice none 0 0, .int .i64 0, .int .i64 0, .int .i64 0, .slice (some ⟨wr.heap.size + 1 + 1, 0, none⟩) 1 1] 34)) := ((((Upto.refl [] wr).alloc _).alloc _).alloc _).alloc _
            have HU4 : Hid (Upto [] w ((((wr.alloc (.cells #[.int .i64 xo, .slice xn1 xn2 xn3, .int .i64 xs, .int .i64 xm, .int .i64 xq, .slice xl1 xl2 xl3] 34)).alloc (.cells #[.int .i64 11, .slice none 0 0, .int .i64 0, .int .i64 0, .int .i64 0, .slice (some ⟨wr.heap.size, 0, none⟩) 1 1] 34)).alloc (.cells #[.int .i64 11, .slice none 0 0, .int .i64 0, .int .i64 0, .int .i64 0, .slice (some ⟨wr.heap.size, 0, none⟩) 1 1] 34)).alloc (.cells #[.int .i64 11, .slice none 0 0, .int .i64 0, .int .i64 0, .int .i64 0, .slice (some ⟨wr.heap.size + 1 + 1, 0, none⟩) 1 1] 34))) := Lib.hid ((HUF.out.trans HX2.out (fun k hk => by have h1 := HFE.out; have h2 := HU5.out.size; simp at hk; subst hk; right; omega)).trans_ext hw4)
            have HbB := Lib.hid (hw4.at (HX2.out.at HBF.out (by have h1 := HFE.out; have h2 := HBL5.out; simp; omega)) (by simp))
            have HbF := Lib.hid (hw4.at h1 (by simp))
            have HnB := Lib.hid ((HNF.out.upto HX2.out (fun b hb _ => by have := hb.2; simp; omega)).ext hw4)
            have HnF := Lib.hid ((h2.ext hw4).mono (Q := fun _ => True) (fun _ _ _ => trivial))
            have k0 : ((((wr.alloc (.cells #[.int .i64 xo, .slice xn1 xn2 xn3, .int .i64 xs, .int .i64 xm, .int .i64 xq, .slice xl1 xl2 xl3] 34)).alloc (.cells #[.int .i64 11, .slice none 0 0, .int .i64 0, .int .i64 0, .int .i64 0, .slice (some ⟨wr.heap.size, 0, none⟩) 1 1] 34)).alloc (.cells #[.int .i64 11, .slice none 0 0, .int .i64 0, .int .i64 0, .int .i64 0, .slice (some ⟨wr.heap.size, 0, none⟩) 1 1] 34)).alloc (.cells #[.int .i64 11, .slice none 0 0, .int .i64 0, .int .i64 0, .int .i64 0, .slice (some ⟨wr.heap.size + 1 + 1, 0, none⟩) 1 1] 34)).heap[wr.heap.size]? = some (.cells #[.int .i64 xo, .slice xn1 xn2 xn3, .int .i64 xs, .int .i64 xm, .int .i64 xq, .slice xl1 xl2 xl3] 34 (0, 0)) := alloc_old (alloc_old (alloc_old (new_at wr _) _) _) _
            have HbO : Hid (((((wr.alloc (.cells #[.int .i64 xo, .slice xn1 xn2 xn3, .int .i64 xs, .int .i64 xm, .int .i64 xq, .slice xl1 xl2 xl3] 34)).alloc (.cells #[.int .i64 11, .slice none 0 0, .int .i64 0, .int .i64 0, .int .i64 0, .slice (some ⟨wr.heap.size, 0, none⟩) 1 1] 34)).alloc (.cells #[.int .i64 11, .slice none 0 0, .int .i64 0, .int .i64 0, .int .i64 0, .slice (some ⟨wr.heap.size, 0, none⟩) 1 1] 34)).alloc (.cells #[.int .i64 11, .slice none 0 0, .int .i64 0, .int .i64 0, .int .i64 0, .slice (some ⟨wr.heap.size + 1 + 1, 0, none⟩) 1 1] 34)).heap[wr.heap.size + 1]? = some (.cells #[.int .i64 11, .slice none 0 0, .int .i64 0, .int .i64 0, .int .i64 0, .slice (some ⟨wr.heap.size, 0, none⟩) 1 1] 34 (0, 0))) := Lib.hid (alloc_old (alloc_old (new_at1 wr _ _) _) _)
            have k2 : ((((wr.alloc (.cells #[.int .i64 xo, .slice xn1 xn2 xn3, .int .i64 xs, .int .i64 xm, .int .i64 xq, .slice xl1 xl2 xl3] 34)).alloc (.cells #[.int .i64 11, .slice none 0 0, .int .i64 0, .int .i64 0, .int .i64 0, .slice (some ⟨wr.heap.size, 0, none⟩) 1 1] 34)).alloc (.cells #[.int .i64 11, .slice none 0 0, .int .i64 0, .int .i64 0, .int .i64 0, .slice (some ⟨wr.heap.size, 0, none⟩) 1 1] 34)).alloc (.cells #[.int .i64 11, .slice none 0 0, .int .i64 0, .int .i64 0, .int .i64 0, .slice (some ⟨wr.heap.size + 1 + 1, 0, none⟩) 1 1] 34)).heap[wr.heap.size + 1 + 1]? = some (.cells #[.int .i64 11, .slice none 0 0, .int .i64 0, .int .i64 0, .int .i64 0, .slice (some ⟨wr.heap.size, 0, none⟩) 1 1] 34 (0, 0)) := alloc_old (new_at2 wr _ _ _) _
            have HbT : Hid (((((wr.alloc (.cells #[.int .i64 xo, .slice xn1 xn2 xn3, .int .i64 xs, .int .i64 xm, .int .i64 xq, .slice xl1 xl2 xl3] 34)).alloc (.cells #[.int .i64 11, .slice none 0 0, .int .i64 0, .int .i64 0, .int .i64 0, .slice (some ⟨wr.heap.size, 0, none⟩) 1 1] 34)).alloc (.cells #[.int .i64 11, .slice none 0 0, .int .i64 0, .int .i64 0, .int .i64 0, .slice (some ⟨wr.heap.size, 0, none⟩) 1 1] 34)).alloc (.cells #[.int .i64 11, .slice none 0 0, .int .i64 0, .int .i64 0, .int .i64 0, .slice (some ⟨wr.heap.size + 1 + 1, 0, none⟩) 1 1] 34)).heap[wr.heap.size + 1 + 1 + 1]? = some (.cells #[.int .i64 11, .slice none 0 0, .int .i64 0, .int .i64 0, .int .i64 0, .slice (some ⟨wr.heap.size + 1 + 1, 0, none⟩) 1 1] 34 (0, 0))) := Lib.hid (by have := new_at (((wr.alloc (.cells #[.int .i64 xo, .slice xn1 xn2 xn3, .int .i64 xs, .int .i64 xm, .int .i64 xq, .slice xl1 xl2 xl3] 34)).alloc (.cells #[.int .i64 11, .slice none 0 0, .int .i64 0, .int .i64 0, .int .i64 0, .slice (some ⟨wr.heap.size, 0, none⟩) 1 1] 34)).alloc (.cells #[.int .i64 11, .slice none 0 0, .int .i64 0, .int .i64 0, .int .i64 0, .slice (some ⟨wr.heap.size, 0, none⟩) 1 1] 34)) (.cells #[.int .i64 11, .slice none 0 0, .int .i64 0, .int .i64 0, .int .i64 0, .slice (some ⟨wr.heap.size + 1 + 1, 0, none⟩) 1 1] 34); simpa using this)
            have HnO := Lib.hid (NdV.one (op := 11) (so := 0) (names := []) SlP.nil HnF.out trivial k0)
            have HnT := Lib.hid (NdV.one (op := 11) (so := 0) (names := []) SlP.nil HnO.out trivial k2)
            clear h1 h2 hw4 k0 k2
            go_wp2_with fail
            generalize hw4 : ((((wr.alloc (.cells #[.int .i64 xo, .slice xn1 xn2 xn3, .int .i64 xs, .int .i64 xm, .int .i64 xq, .slice xl1 xl2 xl3] 34)).alloc (.cells #[.int .i64 11, .slice none 0 0, .int .i64 0, .int .i64 0, .int .i64 0, .slice (some ⟨wr.heap.size, 0, none⟩) 1 1] 34)).alloc (.cells #[.int .i64 11, .slice none 0 0, .int .i64 0, .int .i64 0, .int .i64 0, .slice (some ⟨wr.heap.size, 0, none⟩) 1 1] 34)).alloc (.cells #[.int .i64 11, .slice none 0 0, .int .i64 0, .int .i64 0, .int .i64 0, .slice (some ⟨wr.heap.size + 1 + 1, 0, none⟩) 1 1] 34)) = WX at *
            generalize wr.heap.size = D at *
            clear hw4
            refine (HK.out _ HU4.out).mono ?_
            rintro e w8 ⟨rfl, hu⟩
            have HU8 := Lib.hid (HU4.out.trans_ext hu)
            have HbB8 := Lib.hid (hu.at HbB.out (by simp))
            have HnB8 := Lib.hid (HnB.out.ext hu)
            have HbF8 := Lib.hid (hu.at HbF.out (by simp))
            have HnF8 := Lib.hid (HnF.out.ext hu)
            have HbO8 := Lib.hid (hu.at HbO.out (by simp))
            have HnO8 := Lib.hid (HnO.out.ext hu)
            have HbT8 := Lib.hid (hu.at HbT.out (by simp))
            have HnT8 := Lib.hid (HnT.out.ext hu)
            have hc := HbB8.out
            obtain ⟨q00, q01, q02, q03, q04, q05⟩ := cells6 hc
            clear hu hc
            go_wp2_with fail
            refine (HCN.out 16 HWN.out _ _ _ HU8.out HnB8.out).mono ?_
            rintro e w9 ⟨rfl, hu⟩
            have HU9 := Lib.hid (HU8.out.trans_ext hu)
            have HbB9 := Lib.hid (hu.at HbB8.out (by simp))
            have HnB9 := Lib.hid (HnB8.out.ext hu)
            have HbF9 := Lib.hid (hu.at HbF8.out (by simp))
            have HnF9 := Lib.hid (HnF8.out.ext hu)
            have HbO9 := Lib.hid (hu.at HbO8.out (by simp))
            have HnO9 := Lib.hid (HnO8.out.ext hu)
            have HbT9 := Lib.hid (hu.at HbT8.out (by simp))
            have HnT9 := Lib.hid (HnT8.out.ext hu)
            have hc := HbF9.out
            obtain ⟨q10, q11, q12, q13, q14, q15⟩ := cells6 hc
            clear hu hc
            go_wp2_with fail
            refine (HCF.out _ _ _ HU9.out HnF9.out).mono ?_
            rintro e w10 ⟨rfl, hu⟩
            have HU10 := Lib.hid (HU9.out.trans_ext hu)
            have HbB10 := Lib.hid (hu.at HbB9.out (by simp))
            have HnB10 := Lib.hid (HnB9.out.ext hu)
            have HbO10 := Lib.hid (hu.at HbO9.out (by simp))
            have HnO10 := Lib.hid (HnO9.out.ext hu)
            have HbT10 := Lib.hid (hu.at HbT9.out (by simp))
            have HnT10 := Lib.hid (HnT9.out.ext hu)
            have hc := HbO10.out
            obtain ⟨q20, q21, q22, q23, q24, q25⟩ := cells6 hc
            clear hu hc
            go_wp2_with fail
            refine (HCO.out _ _ _ HU10.out HnO10.out).mono ?_
            rintro e w11 ⟨rfl, hu⟩
            have HU11 := Lib.hid (HU10.out.trans_ext hu)
            have HbB11 := Lib.hid (hu.at HbB10.out (by simp))
            have HnB11 := Lib.hid (HnB10.out.ext hu)
            have HbT11 := Lib.hid (hu.at HbT10.out (by simp))
            have HnT11 := Lib.hid (HnT10.out.ext hu)
            have hc := HbT11.out
            obtain ⟨q30, q31, q32, q33, q34, q35⟩ := cells6 hc
            clear hu hc
            go_wp2_with fail
            refine (HCT.out _ _ _ HU11.out HnT11.out).mono ?_
            rintro e w12 ⟨rfl, hu⟩
            have HU12 := Lib.hid (HU11.out.trans_ext hu)
            have HbB12 := Lib.hid (hu.at HbB11.out (by simp))
            have HnB12 := Lib.hid (HnB11.out.ext hu)
            have HbT12 := Lib.hid (hu.at HbT11.out (by simp))
            have HnT12 := Lib.hid (HnT11.out.ext hu)
            have hc := HbT12.out
            obtain ⟨q40, q41, q42, q43, q44, q45⟩ := cells6 hc
            clear hu hc
            go_wp2_with fail
            refine (HST.out _ _ _ HnT12.out).mono ?_
            rintro e w13 ⟨rfl, hu⟩
            have HU13 := Lib.hid (HU12.out.trans_ext hu)
            have HbB13 := Lib.hid (hu.at HbB12.out (by simp))
            have HnB13 := Lib.hid (HnB12.out.ext hu)
            have hc := HbB13.out
            obtain ⟨q50, q51, q52, q53, q54, q55⟩ := cells6 hc
            clear hu hc
            go_wp2_with fail
            refine (HDN.out _ _ _ HnB13.out).mono ?_
            rintro e w14 ⟨rfl, hu⟩
            have HU14 := Lib.hid (HU13.out.trans_ext hu)
            clear hu
            go_wp2_with fail
            go_ret
            exact ⟨rfl, HU14.out⟩
      · have c1 :  (256 : Int) < 250 + m := by omega
        have c2 :  (256 : Int) < 250 + m - 1 := by omega
        have HRD : Hid (readF bareP (parS (249 + m)) = ⟨.zero, 1, 257, 16⟩) := Lib.hid (lim_bad _ (by omega) (by omega))
        have HWN : Hid (checkF nameF (notN (249 + m)) = 16) := Lib.hid (by rw [notN_check _ (by omega)]; split <;> omega)
        have HPA : Hid (∀ u, Upto [] w u → Calls Tryz.prog 22 #[.string (ByteArray.mk (Array.replicate (249 + m) 40) ++ ByteArray.mk #[116, 114, 117, 101] ++ ByteArray.mk (Array.replicate (249 + m) 41))] u fun e w' => ∃ v, e = .returned (.tuple #[v, .agg #[.int .i64 1, .int .i64 257], .int .i64 16]) ∧ NdV w' (New u) .zero v ∧ Upto [] u w') := Lib.hid (fun u hu => by
          have h := HPF.out u (parS (249 + m)) hu (by unfold parS; simp; omega)
          rw [HRD.out] at h
          rw [lim_text]
          exact h)
        clear h3
        go_wp2_with fail
        refine (HPA.out _ HU.out).mono ?_
        rintro e w5 ⟨v5, rfl, hv5, hu5⟩
        obtain ⟨po, pn1, pn2, pn3, ps, pm, pq, pl1, pl2, pl3, rfl⟩ := hv5.six
        have HU5 := Lib.hid (HU.out.trans_ext hu5)
        have HB5 := Lib.hid (hu5.at HBB.out (by simp))
        have HN5 := Lib.hid (HND.out.ext hu5)
        have hup : Upto [] w5 ((w5.alloc (.cells #[.int .i64 po, .slice pn1 pn2 pn3, .int .i64 ps, .int .i64 pm, .int .i64 pq, .slice pl1 pl2 pl3] 34)).alloc (.cells #[.int .i64 1, .int .i64 257] 36)) := ((Upto.refl [] w5).alloc _).alloc _
        have huf : Upto [] w5 (((w5.alloc (.cells #[.int .i64 po, .slice pn1 pn2 pn3, .int .i64 ps, .int .i64 pm, .int .i64 pq, .slice pl1 pl2 pl3] 34)).alloc (.cells #[.int .i64 1, .int .i64 257] 36)).alloc (.cells #[.int .i64 1, .slice none 0 0, .int .i64 0, .int .i64 0, .int .i64 0, .slice none 0 0] 34)) := hup.alloc _
        have HUF := Lib.hid ((HU.out.trans_ext hu5).trans_ext huf)
        have HBF := Lib.hid (huf.at HB5.out (by simp))
        have HNF := Lib.hid (((HN5.out.mono (Q := fun b => New W1 b ∧ b < w5.heap.size + 1 + 1) (fun b hb hi => ⟨hb, by have := hi.lt; omega⟩)).ext huf))
        have HF0 : Hid (NbI (((w5.alloc (.cells #[.int .i64 po, .slice pn1 pn2 pn3, .int .i64 ps, .int .i64 pm, .int .i64 pq, .slice pl1 pl2 pl3] 34)).alloc (.cells #[.int .i64 1, .int .i64 257] 36)).alloc (.cells #[.int .i64 1, .slice none 0 0, .int .i64 0, .int .i64 0, .int .i64 0, .slice none 0 0] 34)) (w5.heap.size + 1 + 1) (((w5.alloc (.cells #[.int .i64 po, .slice pn1 pn2 pn3, .int .i64 ps, .int .i64 pm, .int .i64 pq, .slice pl1 pl2 pl3] 34)).alloc (.cells #[.int .i64 1, .int .i64 257] 36)).alloc (.cells #[.int .i64 1, .slice none 0 0, .int .i64 0, .int .i64 0, .int .i64 0, .slice none 0 0] 34)) (orN 0)) := Lib.hid ⟨_, _, _, _, _, _, _, _, _, _, by have := new_at ((w5.alloc (.cells #[.int .i64 po, .slice pn1 pn2 pn3, .int .i64 ps, .int .i64 pm, .int .i64 pq, .slice pl1 pl2 pl3] 34)).alloc (.cells #[.int .i64 1, .int .i64 257] 36)) (.cells #[.int .i64 1, .slice none 0 0, .int .i64 0, .int .i64 0, .int .i64 0, .slice none 0 0] 34); simpa using this, NdV.atom SlP.nil⟩
        have HFL : Hid (w5.heap.size + 1 + 1 < ((((w5.alloc (.cells #[.int .i64 po, .slice pn1 pn2 pn3, .int .i64 ps, .int .i64 pm, .int .i64 pq, .slice pl1 pl2 pl3] 34)).alloc (.cells #[.int .i64 1, .int .i64 257] 36)).alloc (.cells #[.int .i64 1, .slice none 0 0, .int .i64 0, .int .i64 0, .int .i64 0, .slice none 0 0] 34))).heap.size) := Lib.hid (by simp)
        have HBL5 : Hid (B < w5.heap.size) := Lib.hid (lt_of_heap HB5.out)
        clear hv5 hu5 HPA HPF HRD hup huf
        go_wp2_with fail
        generalize hwf : (((w5.alloc (.cells #[.int .i64 po, .slice pn1 pn2 pn3, .int .i64 ps, .int .i64 pm, .int .i64 pq, .slice pl1 pl2 pl3] 34)).alloc (.cells #[.int .i64 1, .int .i64 257] 36)).alloc (.cells #[.int .i64 1, .slice none 0 0, .int .i64 0, .int .i64 0, .int .i64 0, .slice none 0 0] 34)) = W2 at *
        obtain ⟨F, hF, HFE⟩ : ∃ F, F = w5.heap.size + 1 + 1 ∧ Hid (F = w5.heap.size + 1 + 1) := ⟨_, rfl, Lib.hid rfl⟩
        rw [← hF] at HF0 HFL HNF ⊢
        clear hwf hF
        go_loopw [13] (fun t13 wr => ∃ i : Nat, i ≤ 11 ∧ t13 = .int .i64 i ∧ Hid (NbI W2 F wr (orN i)) ∧ Hid (W2.heap.size ≤ wr.heap.size) ∧ Hid (Upto [F] W2 wr)) (fun t13 _ => 11 - (intOf t13).toNat)
        case atStart => exact ⟨0, by omega, rfl, HF0, Lib.hid (Nat.le_refl _), Lib.hid (Upto.refl _ _)⟩
        case round =>
          obtain ⟨i, hi, rfl, HN2, HV2, HX2⟩ := hrel
          have hi0 : (0 : Int) ≤ i := by omega
          have HNN := HN2.out
          obtain ⟨xo, xn1, xn2, xn3, xs, xm, xq, xl1, xl2, xl3, h1, h2⟩ := HNN
          rcases Nat.lt_or_ge i 11 with hlt | hge
          · have hltI : (i : Int) < 11 := by omega
            have HNG := Lib.hid (NbI.or h1 h2 HFL.out HV2.out)
            have hal : Upto [] wr (wr.alloc (.cells #[.int .i64 xo, .slice xn1 xn2 xn3, .int .i64 xs, .int .i64 xm, .int .i64 xq, .slice xl1 xl2 xl3, .int .i64 xo, .slice xn1 xn2 xn3, .int .i64 xs, .int .i64 xm, .int .i64 xq, .slice xl1 xl2 xl3] 34)) := (Upto.refl [] wr).alloc _
            have hb2 := hal.at h1 (by simp)
            obtain ⟨x0, x1, x2, x3, x4, x5⟩ := cells6 h1
            obtain ⟨y0, y1, y2, y3, y4, y5⟩ := cells6 hb2
            obtain ⟨yf0, yf1, yf2, yf3, yf4, yf5⟩ := frees6 hb2
            have HSZ2 : Hid (W2.heap.size ≤ (wr.alloc (.cells #[.int .i64 xo, .slice xn1 xn2 xn3, .int .i64 xs, .int .i64 xm, .int .i64 xq, .slice xl1 xl2 xl3, .int .i64 xo, .slice xn1 xn2 xn3, .int .i64 xs, .int .i64 xm, .int .i64 xq, .slice xl1 xl2 xl3] 34)).heap.size) := Lib.hid (by have h1 := HV2.out; have h2 := hal.size; omega)
            clear h1 h2 hal hb2
            go_wp2_with fail
            go_roundw
            case rel => exact ⟨i + 1, by omega, by go_num, Lib.hid HNG.out.1, Lib.hid (by simpa using HSZ2.out), Lib.hid (HX2.out.trans_same HNG.out.2)⟩
            case measure => simp [intOf]; omega
          · have hgeJ : ¬ (i : Int) < 11 := by omega
            obtain rfl : i = 11 := by omega
            obtain ⟨x0, x1, x2, x3, x4, x5⟩ := cells6 h1
            have hw4 : Upto [] wr ((((wr.alloc (.cells #[.int .i64 xo, .slice xn1 xn2 xn3, .int .i64 xs, .int .i64 xm, .int .i64 xq, .slice xl1 xl2 xl3] 34)).alloc (.cells #[.int .i64 11, .slice none 0 0, .int .i64 0, .int .i64 0, .int .i64 0, .slice (some ⟨wr.heap.size, 0, none⟩) 1 1] 34)).alloc (.cells #[.int .i64 11, .slice none 0 0, .int .i64 0, .int .i64 0, .int .i64 0, .slice (some ⟨wr.heap.size, 0, none⟩) 1 1] 34)).alloc (.cells #[.int .i64 11, .slice none 0 0, .int .i64 0, .int .i64 0, .int .i64 0, .slice (some ⟨wr.heap.size + 1 + 1, 0, none⟩) 1 1] 34)) := ((((Upto.refl [] wr).alloc _).alloc _).alloc _).alloc _
            have HU4 : Hid (Upto [] w ((((wr.alloc (.cells #[.int .i64 xo, .slice xn1 xn2 xn3, .int .i64 xs, .int .i64 xm, .int .i64 xq, .slice xl1 xl2 xl3] 34)).alloc (.cells #[.int .i64 11, .slice none 0 0, .int .i64 0, .int .i64 0, .int .i64 0, .slice (some ⟨wr.heap.size, 0, none⟩) 1 1] 34)).alloc (.cells #[.int .i64 11, .slice none 0 0, .int .i64 0, .int .i64 0, .int .i64 0, .slice (some ⟨wr.heap.size, 0, none⟩) 1 1] 34)).alloc (.cells #[.int .i64 11, .slice none 0 0, .int .i64 0, .int .i64 0, .int .i64 0, .slice (some ⟨wr.heap.size + 1 + 1, 0, none⟩) 1 1] 34))) := Lib.hid ((HUF.out.trans HX2.out (fun k hk => by have h1 := HFE.out; have h2 := HU5.out.size; simp at hk; subst hk; right; omega)).trans_ext hw4)
            have HbB := Lib.hid (hw4.at (HX2.out.at HBF.out (by have h1 := HFE.out; have h2 := HBL5.out; simp; omega)) (by simp))
            have HbF := Lib.hid (hw4.at h1 (by simp))
            have HnB := Lib.hid ((HNF.out.upto HX2.out (fun b hb _ => by have := hb.2; simp; omega)).ext hw4)
            have HnF := Lib.hid ((h2.ext hw4).mono (Q := fun _ => True) (fun _ _ _ => trivial))
            have k0 : ((((wr.alloc (.cells #[.int .i64 xo, .slice xn1 xn2 xn3, .int .i64 xs, .int .i64 xm, .int .i64 xq, .slice xl1 xl2 xl3] 34)).alloc (.cells #[.int .i64 11, .slice none 0 0, .int .i64 0, .int .i64 0, .int .i64 0, .slice (some ⟨wr.heap.size, 0, none⟩) 1 1] 34)).alloc (.cells #[.int .i64 11, .slice none 0 0, .int .i64 0, .int .i64 0, .int .i64 0, .slice (some ⟨wr.heap.size, 0, none⟩) 1 1] 34)).alloc (.cells #[.int .i64 11, .slice none 0 0, .int .i64 0, .int .i64 0, .int .i64 0, .slice (some ⟨wr.heap.size + 1 + 1, 0, none⟩) 1 1] 34)).heap[wr.heap.size]? = some (.cells #[.int .i64 xo, .slice xn1 xn2 xn3, .int .i64 xs, .int .i64 xm, .int .i64 xq, .slice xl1 xl2 xl3] 34 (0, 0)) := alloc_old (alloc_old (alloc_old (new_at wr _) _) _) _
            have HbO : Hid (((((wr.alloc (.cells #[.int .i64 xo, .slice xn1 xn2 xn3, .int .i64 xs, .int .i64 xm, .int .i64 xq, .slice xl1 xl2 xl3] 34)).alloc (.cells #[.int .i64 11, .slice none 0 0, .int .i64 0, .int .i64 0, .int .i64 0, .slice (some ⟨wr.heap.size, 0, none⟩) 1 1] 34)).alloc (.cells #[.int .i64 11, .slice none 0 0, .int .i64 0, .int .i64 0, .int .i64 0, .slice (some ⟨wr.heap.size, 0, none⟩) 1 1] 34)).alloc (.cells #[.int .i64 11, .slice none 0 0, .int .i64 0, .int .i64 0, .int .i64 0, .slice (some ⟨wr.heap.size + 1 + 1, 0, none⟩) 1 1] 34)).heap[wr.heap.size + 1]? = some (.cells #[.int .i64 11, .slice none 0 0, .int .i64 0, .int .i64 0, .int .i64 0, .slice (some ⟨wr.heap.size, 0, none⟩) 1 1] 34 (0, 0))) := Lib.hid (alloc_old (alloc_old (new_at1 wr _ _) _) _)
            have k2 : ((((wr.alloc (.cells #[.int .i64 xo, .slice xn1 xn2 xn3, .int .i64 xs, .int .i64 xm, .int .i64 xq, .slice xl1 xl2 xl3] 34)).alloc (.cells #[.int .i64 11, .slice none 0 0, .int .i64 0, .int .i64 0, .int .i64 0, .slice (some ⟨wr.heap.size, 0, none⟩) 1 1] 34)).alloc (.cells #[.int .i64 11, .slice none 0 0, .int .i64 0, .int .i64 0, .int .i64 0, .slice (some ⟨wr.heap.size, 0, none⟩) 1 1] 34)).alloc (.cells #[.int .i64 11, .slice none 0 0, .int .i64 0, .int .i64 0, .int .i64 0, .slice (some ⟨wr.heap.size + 1 + 1, 0, none⟩) 1 1] 34)).heap[wr.heap.size + 1 + 1]? = some (.cells #[.int .i64 11, .slice none 0 0, .int .i64 0, .int .i64 0, .int .i64 0, .slice (some ⟨wr.heap.size, 0, none⟩) 1 1] 34 (0, 0)) := alloc_old (new_at2 wr _ _ _) _
            have HbT : Hid (((((wr.alloc (.cells #[.int .i64 xo, .slice xn1 xn2 xn3, .int .i64 xs, .int .i64 xm, .int .i64 xq, .slice xl1 xl2 xl3] 34)).alloc (.cells #[.int .i64 11, .slice none 0 0, .int .i64 0, .int .i64 0, .int .i64 0, .slice (some ⟨wr.heap.size, 0, none⟩) 1 1] 34)).alloc (.cells #[.int .i64 11, .slice none 0 0, .int .i64 0, .int .i64 0, .int .i64 0, .slice (some ⟨wr.heap.size, 0, none⟩) 1 1] 34)).alloc (.cells #[.int .i64 11, .slice none 0 0, .int .i64 0, .int .i64 0, .int .i64 0, .slice (some ⟨wr.heap.size + 1 + 1, 0, none⟩) 1 1] 34)).heap[wr.heap.size + 1 + 1 + 1]? = some (.cells #[.int .i64 11, .slice none 0 0, .int .i64 0, .int .i64 0, .int .i64 0, .slice (some ⟨wr.heap.size + 1 + 1, 0, none⟩) 1 1] 34 (0, 0))) := Lib.hid (by have := new_at (((wr.alloc (.cells #[.int .i64 xo, .slice xn1 xn2 xn3, .int .i64 xs, .int .i64 xm, .int .i64 xq, .slice xl1 xl2 xl3] 34)).alloc (.cells #[.int .i64 11, .slice none 0 0, .int .i64 0, .int .i64 0, .int .i64 0, .slice (some ⟨wr.heap.size, 0, none⟩) 1 1] 34)).alloc (.cells #[.int .i64 11, .slice none 0 0, .int .i64 0, .int .i64 0, .int .i64 0, .slice (some ⟨wr.heap.size, 0, none⟩) 1 1] 34)) (.cells #[.int .i64 11, .slice none 0 0, .int .i64 0, .int .i64 0, .int .i64 0, .slice (some ⟨wr.heap.size + 1 + 1, 0, none⟩) 1 1] 34); simpa using this)
            have HnO := Lib.hid (NdV.one (op := 11) (so := 0) (names := []) SlP.nil HnF.out trivial k0)
            have HnT := Lib.hid (NdV.one (op := 11) (so := 0) (names := []) SlP.nil HnO.out trivial k2)
            clear h1 h2 hw4 k0 k2
            go_wp2_with fail
            generalize hw4 : ((((wr.alloc (.cells #[.int .i64 xo, .slice xn1 xn2 xn3, .int .i64 xs, .int .i64 xm, .int .i64 xq, .slice xl1 xl2 xl3] 34)).alloc (.cells #[.int .i64 11, .slice none 0 0, .int .i64 0, .int .i64 0, .int .i64 0, .slice (some ⟨wr.heap.size, 0, none⟩) 1 1] 34)).alloc (.cells #[.int .i64 11, .slice none 0 0, .int .i64 0, .int .i64 0, .int .i64 0, .slice (some ⟨wr.heap.size, 0, none⟩) 1 1] 34)).alloc (.cells #[.int .i64 11, .slice none 0 0, .int .i64 0, .int .i64 0, .int .i64 0, .slice (some ⟨wr.heap.size + 1 + 1, 0, none⟩) 1 1] 34)) = WX at *
            generalize wr.heap.size = D at *
            clear hw4
            refine (HK.out _ HU4.out).mono ?_
            rintro e w8 ⟨rfl, hu⟩
            have HU8 := Lib.hid (HU4.out.trans_ext hu)
            have HbB8 := Lib.hid (hu.at HbB.out (by simp))
            have HnB8 := Lib.hid (HnB.out.ext hu)
            have HbF8 := Lib.hid (hu.at HbF.out (by simp))
            have HnF8 := Lib.hid (HnF.out.ext hu)
            have HbO8 := Lib.hid (hu.at HbO.out (by simp))
            have HnO8 := Lib.hid (HnO.out.ext hu)
            have HbT8 := Lib.hid (hu.at HbT.out (by simp))
            have HnT8 := Lib.hid (HnT.out.ext hu)
            have hc := HbB8.out
            obtain ⟨q00, q01, q02, q03, q04, q05⟩ := cells6 hc
            clear hu hc
            go_wp2_with fail
            refine (HCN.out 16 HWN.out _ _ _ HU8.out HnB8.out).mono ?_
            rintro e w9 ⟨rfl, hu⟩
            have HU9 := Lib.hid (HU8.out.trans_ext hu)
            have HbB9 := Lib.hid (hu.at HbB8.out (by simp))
            have HnB9 := Lib.hid (HnB8.out.ext hu)
            have HbF9 := Lib.hid (hu.at HbF8.out (by simp))
            have HnF9 := Lib.hid (HnF8.out.ext hu)
            have HbO9 := Lib.hid (hu.at HbO8.out (by simp))
            have HnO9 := Lib.hid (HnO8.out.ext hu)
            have HbT9 := Lib.hid (hu.at HbT8.out (by simp))
            have HnT9 := Lib.hid (HnT8.out.ext hu)
            have hc := HbF9.out
            obtain ⟨q10, q11, q12, q13, q14, q15⟩ := cells6 hc
            clear hu hc
            go_wp2_with fail
            refine (HCF.out _ _ _ HU9.out HnF9.out).mono ?_
            rintro e w10 ⟨rfl, hu⟩
            have HU10 := Lib.hid (HU9.out.trans_ext hu)
            have HbB10 := Lib.hid (hu.at HbB9.out (by simp))
            have HnB10 := Lib.hid (HnB9.out.ext hu)
            have HbO10 := Lib.hid (hu.at HbO9.out (by simp))
            have HnO10 := Lib.hid (HnO9.out.ext hu)
            have HbT10 := Lib.hid (hu.at HbT9.out (by simp))
            have HnT10 := Lib.hid (HnT9.out.ext hu)
            have hc := HbO10.out
            obtain ⟨q20, q21, q22, q23, q24, q25⟩ := cells6 hc
            clear hu hc
            go_wp2_with fail
            refine (HCO.out _ _ _ HU10.out HnO10.out).mono ?_
            rintro e w11 ⟨rfl, hu⟩
            have HU11 := Lib.hid (HU10.out.trans_ext hu)
            have HbB11 := Lib.hid (hu.at HbB10.out (by simp))
            have HnB11 := Lib.hid (HnB10.out.ext hu)
            have HbT11 := Lib.hid (hu.at HbT10.out (by simp))
            have HnT11 := Lib.hid (HnT10.out.ext hu)
            have hc := HbT11.out
            obtain ⟨q30, q31, q32, q33, q34, q35⟩ := cells6 hc
            clear hu hc
            go_wp2_with fail
            refine (HCT.out _ _ _ HU11.out HnT11.out).mono ?_
            rintro e w12 ⟨rfl, hu⟩
            have HU12 := Lib.hid (HU11.out.trans_ext hu)
            have HbB12 := Lib.hid (hu.at HbB11.out (by simp))
            have HnB12 := Lib.hid (HnB11.out.ext hu)
            have HbT12 := Lib.hid (hu.at HbT11.out (by simp))
            have HnT12 := Lib.hid (HnT11.out.ext hu)
            have hc := HbT12.out
            obtain ⟨q40, q41, q42, q43, q44, q45⟩ := cells6 hc
            clear hu hc
            go_wp2_with fail
            refine (HST.out _ _ _ HnT12.out).mono ?_
            rintro e w13 ⟨rfl, hu⟩
            have HU13 := Lib.hid (HU12.out.trans_ext hu)
            have HbB13 := Lib.hid (hu.at HbB12.out (by simp))
            have HnB13 := Lib.hid (HnB12.out.ext hu)
            have hc := HbB13.out
            obtain ⟨q50, q51, q52, q53, q54, q55⟩ := cells6 hc
            clear hu hc
            go_wp2_with fail
            refine (HDN.out _ _ _ HnB13.out).mono ?_
            rintro e w14 ⟨rfl, hu⟩
            have HU14 := Lib.hid (HU13.out.trans_ext hu)
            clear hu
            go_wp2_with fail
            go_ret
            exact ⟨rfl, HU14.out⟩
end Go.Proofs.YtkhbpebpljdifaaGreatDoor
