/- Texts merged, in build order: Ec1, Ec. -/
import Derived.Test.YtkhbpebpljdifaaGreatDoorMFonE
namespace Go.Proofs.YtkhbpebpljdifaaGreatDoor
open Go.RowKit Go.PL Go.Maps
set_option maxRecDepth 100000 in
set_option maxHeartbeats 3200000 in
theorem ec_1 (q r : Qn) (va vb : Value) (s : List UInt8) (w : World) (hqa : ArgQ w q va) (hqb : ArgQ w r vb) (hE : Env w ∧ SEnv w) (hsa : smallF q.body = false) : Calls Tryz.prog 4 #[va, vb, .string ⟨s.toArray⟩] w fun e w' => e = .returned (.bool true) ∧ Upto [] w w' := by
  obtain ⟨he, hse⟩ := hE
  obtain ⟨hval, hsz, hbg⟩ : QnV w AnyB q va ∧ sizeF q.body ≤ 10000000 ∧ bigN q.body := ⟨hqa.val, by have := hqa.sz; omega, inN.big (by decide) _ hqa.ins⟩
  have hfr : q.free.length ≤ 10000000 := by have := hqa.fr; omega
  obtain ⟨hval', hsz', hbg'⟩ : QnV w AnyB r vb ∧ sizeF r.body ≤ 10000000 ∧ bigN r.body := ⟨hqb.val, by have := hqb.sz; omega, inN.big (by decide) _ hqb.ins⟩
  have hfr' : r.free.length ≤ 10000000 := by have := hqb.fr; omega
  have HVA := Lib.hid hval
  have HVB := Lib.hid hval'
  obtain ⟨f1, f3, o1, a1, a2, a3, s1, n1, m1, l1, l2, l3, rfl, hv, hn⟩ := hval.open
  obtain ⟨g1, g3, o2, b1, b2, b3, s2, n2, m2, k1, k2, k3, rfl, hv', hn'⟩ := hval'.open
  have HNA := Lib.hid hn
  have HNB := Lib.hid hn'
  have HSZ := Lib.hid (And.intro hsz (And.intro hbg (And.intro hfr (And.intro hsz' (And.intro hbg' hfr')))))
  have HK : Hid (∀ u, Upto [] w u → Calls Tryz.prog 16 #[] u fun e w' => e = .returned (.bool true) ∧ Upto [] u w') := Lib.hid (fun u hu => fknown_calls u (he.ext hu) (hse.upto hu (by simp)))
  have HSA := Lib.hid (fun u (hu : Upto [] w u) => by have h := small_calls q.body _ u AnyB (hn.ext hu) hsz hbg; rwa [hsa] at h)
  have HSB := Lib.hid (fun u (hu : Upto [] w u) => by have h := small_calls r.body _ u AnyB (hn'.ext hu) hsz' hbg'; exact h)
  have hu1 : Upto [] w ((w.alloc (.cells #[.slice f1 q.free.length f3, .int .i64 o1, .slice a1 a2 a3, .int .i64 s1, .int .i64 n1, .int .i64 m1, .slice l1 l2 l3] 45)).alloc (.cells #[.slice g1 r.free.length g3, .int .i64 o2, .slice b1 b2 b3, .int .i64 s2, .int .i64 n2, .int .i64 m2, .slice k1 k2 k3] 45)) := ((Upto.refl [] w).alloc _).alloc _
  have HU1 := Lib.hid hu1
  have hba := alloc_old (new_at w (.cells #[.slice f1 q.free.length f3, .int .i64 o1, .slice a1 a2 a3, .int .i64 s1, .int .i64 n1, .int .i64 m1, .slice l1 l2 l3] 45)) (.cells #[.slice g1 r.free.length g3, .int .i64 o2, .slice b1 b2 b3, .int .i64 s2, .int .i64 n2, .int .i64 m2, .slice k1 k2 k3] 45)
  have hbb := new_at1 w (.cells #[.slice f1 q.free.length f3, .int .i64 o1, .slice a1 a2 a3, .int .i64 s1, .int .i64 n1, .int .i64 m1, .slice l1 l2 l3] 45) (.cells #[.slice g1 r.free.length g3, .int .i64 o2, .slice b1 b2 b3, .int .i64 s2, .int .i64 n2, .int .i64 m2, .slice k1 k2 k3] 45)
  have HBA1 := Lib.hid hba
  have HBB1 := Lib.hid hbb
  have hL0 : (0 : Int) ≤ q.free.length := by omega
  have hL1 : (q.free.length : Int) ≤ 10000000 := by omega
  have hM0 : (0 : Int) ≤ r.free.length := by omega
  have hM1 : (r.free.length : Int) ≤ 10000000 := by omega
  clear hqa hqb hval hval' hsz hsz' hbg hbg' hfr hfr' hv hv' hn hn' he hse hu1 hba hbb hsa
  go_enter Tryz.func4, Tryz.ntmps4
  go_wp2_with fail
  refine (HK.out _ HU1.out).mono ?_
  rintro e w2 ⟨rfl, hu2⟩
  have HU2 := Lib.hid (HU1.out.trans_ext hu2)
  have hba := hu2.at HBA1.out (by simp)
  have hbb := hu2.at HBB1.out (by simp)
  have HBA2 := Lib.hid hba
  have HBB2 := Lib.hid hbb
  obtain ⟨x0, x1, x2, x3, x4, x5, x6⟩ := cells7 hba
  obtain ⟨y0, y1, y2, y3, y4, y5, y6⟩ := cells7 hbb
  clear hu2 hba hbb
  go_wp2_with fail
  refine (HSA.out _ HU2.out).mono ?_
  rintro e w3 ⟨rfl, hu3⟩
  have HU3 := Lib.hid (HU2.out.trans_ext hu3)
  clear hu3
  go_wp2_with fail
  refine (HK.out _ HU3.out).mono ?_
  rintro e w4 ⟨rfl, hu4⟩
  have HU4 := Lib.hid (HU3.out.trans_ext hu4)
  clear hu4
  go_wp2_with fail
  go_ret
  exact ⟨rfl, HU4.out⟩
set_option maxRecDepth 100000 in
set_option maxHeartbeats 3200000 in
theorem ec_2 (q r : Qn) (va vb : Value) (s : List UInt8) (w : World) (hqa : ArgQ w q va) (hqb : ArgQ w r vb) (hE : Env w ∧ SEnv w) (hsa : smallF q.body = true) (hsb : smallF r.body = false) : Calls Tryz.prog 4 #[va, vb, .string ⟨s.toArray⟩] w fun e w' => e = .returned (.bool true) ∧ Upto [] w w' := by
  obtain ⟨he, hse⟩ := hE
  obtain ⟨hval, hsz, hbg⟩ : QnV w AnyB q va ∧ sizeF q.body ≤ 10000000 ∧ bigN q.body := ⟨hqa.val, by have := hqa.sz; omega, inN.big (by decide) _ hqa.ins⟩
  have hfr : q.free.length ≤ 10000000 := by have := hqa.fr; omega
  obtain ⟨hval', hsz', hbg'⟩ : QnV w AnyB r vb ∧ sizeF r.body ≤ 10000000 ∧ bigN r.body := ⟨hqb.val, by have := hqb.sz; omega, inN.big (by decide) _ hqb.ins⟩
  have hfr' : r.free.length ≤ 10000000 := by have := hqb.fr; omega
  have HVA := Lib.hid hval
  have HVB := Lib.hid hval'
  obtain ⟨f1, f3, o1, a1, a2, a3, s1, n1, m1, l1, l2, l3, rfl, hv, hn⟩ := hval.open
  obtain ⟨g1, g3, o2, b1, b2, b3, s2, n2, m2, k1, k2, k3, rfl, hv', hn'⟩ := hval'.open
  have HNA := Lib.hid hn
  have HNB := Lib.hid hn'
  have HSZ := Lib.hid (And.intro hsz (And.intro hbg (And.intro hfr (And.intro hsz' (And.intro hbg' hfr')))))
  have HK : Hid (∀ u, Upto [] w u → Calls Tryz.prog 16 #[] u fun e w' => e = .returned (.bool true) ∧ Upto [] u w') := Lib.hid (fun u hu => fknown_calls u (he.ext hu) (hse.upto hu (by simp)))
  have HSA := Lib.hid (fun u (hu : Upto [] w u) => by have h := small_calls q.body _ u AnyB (hn.ext hu) hsz hbg; rwa [hsa] at h)
  have HSB := Lib.hid (fun u (hu : Upto [] w u) => by have h := small_calls r.body _ u AnyB (hn'.ext hu) hsz' hbg'; rwa [hsb] at h)
  have hu1 : Upto [] w ((w.alloc (.cells #[.slice f1 q.free.length f3, .int .i64 o1, .slice a1 a2 a3, .int .i64 s1, .int .i64 n1, .int .i64 m1, .slice l1 l2 l3] 45)).alloc (.cells #[.slice g1 r.free.length g3, .int .i64 o2, .slice b1 b2 b3, .int .i64 s2, .int .i64 n2, .int .i64 m2, .slice k1 k2 k3] 45)) := ((Upto.refl [] w).alloc _).alloc _
  have HU1 := Lib.hid hu1
  have hba := alloc_old (new_at w (.cells #[.slice f1 q.free.length f3, .int .i64 o1, .slice a1 a2 a3, .int .i64 s1, .int .i64 n1, .int .i64 m1, .slice l1 l2 l3] 45)) (.cells #[.slice g1 r.free.length g3, .int .i64 o2, .slice b1 b2 b3, .int .i64 s2, .int .i64 n2, .int .i64 m2, .slice k1 k2 k3] 45)
  have hbb := new_at1 w (.cells #[.slice f1 q.free.length f3, .int .i64 o1, .slice a1 a2 a3, .int .i64 s1, .int .i64 n1, .int .i64 m1, .slice l1 l2 l3] 45) (.cells #[.slice g1 r.free.length g3, .int .i64 o2, .slice b1 b2 b3, .int .i64 s2, .int .i64 n2, .int .i64 m2, .slice k1 k2 k3] 45)
  have HBA1 := Lib.hid hba
  have HBB1 := Lib.hid hbb
  have hL0 : (0 : Int) ≤ q.free.length := by omega
  have hL1 : (q.free.length : Int) ≤ 10000000 := by omega
  have hM0 : (0 : Int) ≤ r.free.length := by omega
  have hM1 : (r.free.length : Int) ≤ 10000000 := by omega
  clear hqa hqb hval hval' hsz hsz' hbg hbg' hfr hfr' hv hv' hn hn' he hse hu1 hba hbb hsa hsb
  go_enter Tryz.func4, Tryz.ntmps4
  go_wp2_with fail
  refine (HK.out _ HU1.out).mono ?_
  rintro e w2 ⟨rfl, hu2⟩
  have HU2 := Lib.hid (HU1.out.trans_ext hu2)
  have hba := hu2.at HBA1.out (by simp)
  have hbb := hu2.at HBB1.out (by simp)
  have HBA2 := Lib.hid hba
  have HBB2 := Lib.hid hbb
  obtain ⟨x0, x1, x2, x3, x4, x5, x6⟩ := cells7 hba
  obtain ⟨y0, y1, y2, y3, y4, y5, y6⟩ := cells7 hbb
  clear hu2 hba hbb
  go_wp2_with fail
  refine (HSA.out _ HU2.out).mono ?_
  rintro e w3 ⟨rfl, hu3⟩
  have HU3 := Lib.hid (HU2.out.trans_ext hu3)
  have hba := hu3.at HBA2.out (by simp)
  have hbb := hu3.at HBB2.out (by simp)
  have HBA3 := Lib.hid hba
  have HBB3 := Lib.hid hbb
  clear x0 x1 x2 x3 x4 x5 x6 y0 y1 y2 y3 y4 y5 y6
  obtain ⟨x0, x1, x2, x3, x4, x5, x6⟩ := cells7 hba
  obtain ⟨y0, y1, y2, y3, y4, y5, y6⟩ := cells7 hbb
  clear hu3 hba hbb
  go_wp2_with fail
  refine (HSB.out _ HU3.out).mono ?_
  rintro e w4 ⟨rfl, hu4⟩
  have HU4 := Lib.hid (HU3.out.trans_ext hu4)
  clear hu4
  go_wp2_with fail
  refine (HK.out _ HU4.out).mono ?_
  rintro e w5 ⟨rfl, hu5⟩
  have HU5 := Lib.hid (HU4.out.trans_ext hu5)
  clear hu5
  go_wp2_with fail
  go_ret
  exact ⟨rfl, HU5.out⟩
set_option maxRecDepth 100000 in
set_option maxHeartbeats 3200000 in
theorem ec_3 (q r : Qn) (va vb : Value) (s : List UInt8) (w : World) (hqa : ArgQ w q va) (hqb : ArgQ w r vb) (hE : Env w ∧ SEnv w) (hsa : smallF q.body = true) (hsb : smallF r.body = true) (h12 : 12 < q.free.length) : Calls Tryz.prog 4 #[va, vb, .string ⟨s.toArray⟩] w fun e w' => e = .returned (.bool true) ∧ Upto [] w w' := by
  obtain ⟨he, hse⟩ := hE
  obtain ⟨hval, hsz, hbg⟩ : QnV w AnyB q va ∧ sizeF q.body ≤ 10000000 ∧ bigN q.body := ⟨hqa.val, by have := hqa.sz; omega, inN.big (by decide) _ hqa.ins⟩
  have hfr : q.free.length ≤ 10000000 := by have := hqa.fr; omega
  obtain ⟨hval', hsz', hbg'⟩ : QnV w AnyB r vb ∧ sizeF r.body ≤ 10000000 ∧ bigN r.body := ⟨hqb.val, by have := hqb.sz; omega, inN.big (by decide) _ hqb.ins⟩
  have hfr' : r.free.length ≤ 10000000 := by have := hqb.fr; omega
  have HVA := Lib.hid hval
  have HVB := Lib.hid hval'
  obtain ⟨f1, f3, o1, a1, a2, a3, s1, n1, m1, l1, l2, l3, rfl, hv, hn⟩ := hval.open
  obtain ⟨g1, g3, o2, b1, b2, b3, s2, n2, m2, k1, k2, k3, rfl, hv', hn'⟩ := hval'.open
  have HNA := Lib.hid hn
  have HNB := Lib.hid hn'
  have HSZ := Lib.hid (And.intro hsz (And.intro hbg (And.intro hfr (And.intro hsz' (And.intro hbg' hfr')))))
  have HK : Hid (∀ u, Upto [] w u → Calls Tryz.prog 16 #[] u fun e w' => e = .returned (.bool true) ∧ Upto [] u w') := Lib.hid (fun u hu => fknown_calls u (he.ext hu) (hse.upto hu (by simp)))
  have HSA := Lib.hid (fun u (hu : Upto [] w u) => by have h := small_calls q.body _ u AnyB (hn.ext hu) hsz hbg; rwa [hsa] at h)
  have HSB := Lib.hid (fun u (hu : Upto [] w u) => by have h := small_calls r.body _ u AnyB (hn'.ext hu) hsz' hbg'; rwa [hsb] at h)
  have hu1 : Upto [] w ((w.alloc (.cells #[.slice f1 q.free.length f3, .int .i64 o1, .slice a1 a2 a3, .int .i64 s1, .int .i64 n1, .int .i64 m1, .slice l1 l2 l3] 45)).alloc (.cells #[.slice g1 r.free.length g3, .int .i64 o2, .slice b1 b2 b3, .int .i64 s2, .int .i64 n2, .int .i64 m2, .slice k1 k2 k3] 45)) := ((Upto.refl [] w).alloc _).alloc _
  have HU1 := Lib.hid hu1
  have hba := alloc_old (new_at w (.cells #[.slice f1 q.free.length f3, .int .i64 o1, .slice a1 a2 a3, .int .i64 s1, .int .i64 n1, .int .i64 m1, .slice l1 l2 l3] 45)) (.cells #[.slice g1 r.free.length g3, .int .i64 o2, .slice b1 b2 b3, .int .i64 s2, .int .i64 n2, .int .i64 m2, .slice k1 k2 k3] 45)
  have hbb := new_at1 w (.cells #[.slice f1 q.free.length f3, .int .i64 o1, .slice a1 a2 a3, .int .i64 s1, .int .i64 n1, .int .i64 m1, .slice l1 l2 l3] 45) (.cells #[.slice g1 r.free.length g3, .int .i64 o2, .slice b1 b2 b3, .int .i64 s2, .int .i64 n2, .int .i64 m2, .slice k1 k2 k3] 45)
  have HBA1 := Lib.hid hba
  have HBB1 := Lib.hid hbb
  have hL0 : (0 : Int) ≤ q.free.length := by omega
  have hL1 : (q.free.length : Int) ≤ 10000000 := by omega
  have hM0 : (0 : Int) ≤ r.free.length := by omega
  have hM1 : (r.free.length : Int) ≤ 10000000 := by omega
  clear hqa hqb hval hval' hsz hsz' hbg hbg' hfr hfr' hv hv' hn hn' he hse hu1 hba hbb hsa hsb
  have h12I : (12 : Int) < q.free.length := by omega
  clear h12
  go_enter Tryz.func4, Tryz.ntmps4
  go_wp2_with fail
  refine (HK.out _ HU1.out).mono ?_
  rintro e w2 ⟨rfl, hu2⟩
  have HU2 := Lib.hid (HU1.out.trans_ext hu2)
  have hba := hu2.at HBA1.out (by simp)
  have hbb := hu2.at HBB1.out (by simp)
  have HBA2 := Lib.hid hba
  have HBB2 := Lib.hid hbb
  obtain ⟨x0, x1, x2, x3, x4, x5, x6⟩ := cells7 hba
  obtain ⟨y0, y1, y2, y3, y4, y5, y6⟩ := cells7 hbb
  clear hu2 hba hbb
  go_wp2_with fail
  refine (HSA.out _ HU2.out).mono ?_
  rintro e w3 ⟨rfl, hu3⟩
  have HU3 := Lib.hid (HU2.out.trans_ext hu3)
  have hba := hu3.at HBA2.out (by simp)
  have hbb := hu3.at HBB2.out (by simp)
  have HBA3 := Lib.hid hba
  have HBB3 := Lib.hid hbb
  clear x0 x1 x2 x3 x4 x5 x6 y0 y1 y2 y3 y4 y5 y6
  obtain ⟨x0, x1, x2, x3, x4, x5, x6⟩ := cells7 hba
  obtain ⟨y0, y1, y2, y3, y4, y5, y6⟩ := cells7 hbb
  clear hu3 hba hbb
  go_wp2_with fail
  refine (HSB.out _ HU3.out).mono ?_
  rintro e w4 ⟨rfl, hu4⟩
  have HU4 := Lib.hid (HU3.out.trans_ext hu4)
  have hba := hu4.at HBA3.out (by simp)
  have hbb := hu4.at HBB3.out (by simp)
  have HBA4 := Lib.hid hba
  have HBB4 := Lib.hid hbb
  clear x0 x1 x2 x3 x4 x5 x6 y0 y1 y2 y3 y4 y5 y6
  obtain ⟨x0, x1, x2, x3, x4, x5, x6⟩ := cells7 hba
  obtain ⟨y0, y1, y2, y3, y4, y5, y6⟩ := cells7 hbb
  clear hu4 hba hbb
  go_wp2_with fail
  refine (HK.out _ HU4.out).mono ?_
  rintro e w5 ⟨rfl, hu5⟩
  have HU5 := Lib.hid (HU4.out.trans_ext hu5)
  clear hu5
  go_wp2_with fail
  go_ret
  exact ⟨rfl, HU5.out⟩
set_option maxRecDepth 100000 in
set_option maxHeartbeats 3200000 in
theorem ec_4 (q r : Qn) (va vb : Value) (s : List UInt8) (w : World) (hqa : ArgQ w q va) (hqb : ArgQ w r vb) (hE : Env w ∧ SEnv w) (hsa : smallF q.body = true) (hsb : smallF r.body = true) (h12 : ¬ 12 < q.free.length) (h13 : 12 < r.free.length) : Calls Tryz.prog 4 #[va, vb, .string ⟨s.toArray⟩] w fun e w' => e = .returned (.bool true) ∧ Upto [] w w' := by
  obtain ⟨he, hse⟩ := hE
  obtain ⟨hval, hsz, hbg⟩ : QnV w AnyB q va ∧ sizeF q.body ≤ 10000000 ∧ bigN q.body := ⟨hqa.val, by have := hqa.sz; omega, inN.big (by decide) _ hqa.ins⟩
  have hfr : q.free.length ≤ 10000000 := by have := hqa.fr; omega
  obtain ⟨hval', hsz', hbg'⟩ : QnV w AnyB r vb ∧ sizeF r.body ≤ 10000000 ∧ bigN r.body := ⟨hqb.val, by have := hqb.sz; omega, inN.big (by decide) _ hqb.ins⟩
  have hfr' : r.free.length ≤ 10000000 := by have := hqb.fr; omega
  have HVA := Lib.hid hval
  have HVB := Lib.hid hval'
  obtain ⟨f1, f3, o1, a1, a2, a3, s1, n1, m1, l1, l2, l3, rfl, hv, hn⟩ := hval.open
  obtain ⟨g1, g3, o2, b1, b2, b3, s2, n2, m2, k1, k2, k3, rfl, hv', hn'⟩ := hval'.open
  have HNA := Lib.hid hn
  have HNB := Lib.hid hn'
  have HSZ := Lib.hid (And.intro hsz (And.intro hbg (And.intro hfr (And.intro hsz' (And.intro hbg' hfr')))))
  have HK : Hid (∀ u, Upto [] w u → Calls Tryz.prog 16 #[] u fun e w' => e = .returned (.bool true) ∧ Upto [] u w') := Lib.hid (fun u hu => fknown_calls u (he.ext hu) (hse.upto hu (by simp)))
  have HSA := Lib.hid (fun u (hu : Upto [] w u) => by have h := small_calls q.body _ u AnyB (hn.ext hu) hsz hbg; rwa [hsa] at h)
  have HSB := Lib.hid (fun u (hu : Upto [] w u) => by have h := small_calls r.body _ u AnyB (hn'.ext hu) hsz' hbg'; rwa [hsb] at h)
  have hu1 : Upto [] w ((w.alloc (.cells #[.slice f1 q.free.length f3, .int .i64 o1, .slice a1 a2 a3, .int .i64 s1, .int .i64 n1, .int .i64 m1, .slice l1 l2 l3] 45)).alloc (.cells #[.slice g1 r.free.length g3, .int .i64 o2, .slice b1 b2 b3, .int .i64 s2, .int .i64 n2, .int .i64 m2, .slice k1 k2 k3] 45)) := ((Upto.refl [] w).alloc _).alloc _
  have HU1 := Lib.hid hu1
  have hba := alloc_old (new_at w (.cells #[.slice f1 q.free.length f3, .int .i64 o1, .slice a1 a2 a3, .int .i64 s1, .int .i64 n1, .int .i64 m1, .slice l1 l2 l3] 45)) (.cells #[.slice g1 r.free.length g3, .int .i64 o2, .slice b1 b2 b3, .int .i64 s2, .int .i64 n2, .int .i64 m2, .slice k1 k2 k3] 45)
  have hbb := new_at1 w (.cells #[.slice f1 q.free.length f3, .int .i64 o1, .slice a1 a2 a3, .int .i64 s1, .int .i64 n1, .int .i64 m1, .slice l1 l2 l3] 45) (.cells #[.slice g1 r.free.length g3, .int .i64 o2, .slice b1 b2 b3, .int .i64 s2, .int .i64 n2, .int .i64 m2, .slice k1 k2 k3] 45)
  have HBA1 := Lib.hid hba
  have HBB1 := Lib.hid hbb
  have hL0 : (0 : Int) ≤ q.free.length := by omega
  have hL1 : (q.free.length : Int) ≤ 10000000 := by omega
  have hM0 : (0 : Int) ≤ r.free.length := by omega
  have hM1 : (r.free.length : Int) ≤ 10000000 := by omega
  clear hqa hqb hval hval' hsz hsz' hbg hbg' hfr hfr' hv hv' hn hn' he hse hu1 hba hbb hsa hsb
  have h12I : ¬ (12 : Int) < q.free.length := by omega
  have h13I : (12 : Int) < r.free.length := by omega
  clear h12 h13
  go_enter Tryz.func4, Tryz.ntmps4
  go_wp2_with fail
  refine (HK.out _ HU1.out).mono ?_
  rintro e w2 ⟨rfl, hu2⟩
  have HU2 := Lib.hid (HU1.out.trans_ext hu2)
  have hba := hu2.at HBA1.out (by simp)
  have hbb := hu2.at HBB1.out (by simp)
  have HBA2 := Lib.hid hba
  have HBB2 := Lib.hid hbb
  obtain ⟨x0, x1, x2, x3, x4, x5, x6⟩ := cells7 hba
  obtain ⟨y0, y1, y2, y3, y4, y5, y6⟩ := cells7 hbb
  clear hu2 hba hbb
  go_wp2_with fail
  refine (HSA.out _ HU2.out).mono ?_
  rintro e w3 ⟨rfl, hu3⟩
  have HU3 := Lib.hid (HU2.out.trans_ext hu3)
  have hba := hu3.at HBA2.out (by simp)
  have hbb := hu3.at HBB2.out (by simp)
  have HBA3 := Lib.hid hba
  have HBB3 := Lib.hid hbb
  clear x0 x1 x2 x3 x4 x5 x6 y0 y1 y2 y3 y4 y5 y6
  obtain ⟨x0, x1, x2, x3, x4, x5, x6⟩ := cells7 hba
  obtain ⟨y0, y1, y2, y3, y4, y5, y6⟩ := cells7 hbb
  clear hu3 hba hbb
  go_wp2_with fail
  refine (HSB.out _ HU3.out).mono ?_
  rintro e w4 ⟨rfl, hu4⟩
  have HU4 := Lib.hid (HU3.out.trans_ext hu4)
  have hba := hu4.at HBA3.out (by simp)
  have hbb := hu4.at HBB3.out (by simp)
  have HBA4 := Lib.hid hba
  have HBB4 := Lib.hid hbb
  clear x0 x1 x2 x3 x4 x5 x6 y0 y1 y2 y3 y4 y5 y6
  obtain ⟨x0, x1, x2, x3, x4, x5, x6⟩ := cells7 hba
  obtain ⟨y0, y1, y2, y3, y4, y5, y6⟩ := cells7 hbb
  clear hu4 hba hbb
  go_wp2_with fail
  refine (HK.out _ HU4.out).mono ?_
  rintro e w5 ⟨rfl, hu5⟩
  have HU5 := Lib.hid (HU4.out.trans_ext hu5)
  clear hu5
  go_wp2_with fail
  go_ret
  exact ⟨rfl, HU5.out⟩
theorem set7 {w : World} {b : Nat} {t : TypeId} {y0 y1 y2 y3 y4 y5 y6 x0 x1 x2 x3 x4 x5 x6 : Value} (h : w.heap[b]? = some (.cells #[y0, y1, y2, y3, y4, y5, y6] t (0, 0))) : (((((((w.setCell ⟨b, 0, none⟩ x0).setCell ⟨b, 1, none⟩ x1).setCell ⟨b, 2, none⟩ x2).setCell ⟨b, 3, none⟩ x3).setCell ⟨b, 4, none⟩ x4).setCell ⟨b, 5, none⟩ x5).setCell ⟨b, 6, none⟩ x6).heap[b]? = some (.cells #[x0, x1, x2, x3, x4, x5, x6] t (0, 0)) ∧ Upto [b] w (((((((w.setCell ⟨b, 0, none⟩ x0).setCell ⟨b, 1, none⟩ x1).setCell ⟨b, 2, none⟩ x2).setCell ⟨b, 3, none⟩ x3).setCell ⟨b, 4, none⟩ x4).setCell ⟨b, 5, none⟩ x5).setCell ⟨b, 6, none⟩ x6) := by
  refine ⟨?_, ?_⟩
  · have h1 := set_same (set_same (set_same (set_same (set_same (set_same (set_same h 0 x0) 1 x1) 2 x2) 3 x3) 4 x4) 5 x5) 6 x6
    simpa only [List.setIfInBounds_toArray, List.set_cons_zero, List.set_cons_succ] using h1
  · exact (((((((Upto.refl [b] w).setCell (p := ⟨b, 0, none⟩) (Or.inl (by simp)) _).setCell (p := ⟨b, 1, none⟩) (Or.inl (by simp)) _).setCell (p := ⟨b, 2, none⟩) (Or.inl (by simp)) _).setCell (p := ⟨b, 3, none⟩) (Or.inl (by simp)) _).setCell (p := ⟨b, 4, none⟩) (Or.inl (by simp)) _).setCell (p := ⟨b, 5, none⟩) (Or.inl (by simp)) _).setCell (p := ⟨b, 6, none⟩) (Or.inl (by simp)) _
theorem nd4 {b8 b7 : Nat} {l1 l2 : List Nat} (h : (b8 :: b7 :: (l2 ++ l1)).Nodup) : b7 ≠ b8 ∧ (∀ b ∈ l1, b ≠ b7 ∧ b ≠ b8) ∧ (∀ b ∈ l2, b ≠ b7 ∧ b ≠ b8) := by
  simp only [List.nodup_cons, List.mem_cons, List.mem_append, not_or] at h
  obtain ⟨⟨h1, h2, h3⟩, ⟨h4, h5⟩, -⟩ := h
  exact ⟨fun e => h1 e.symm, fun b hb => ⟨fun e => h5 (e ▸ hb), fun e => h3 (e ▸ hb)⟩, fun b hb => ⟨fun e => h4 (e ▸ hb), fun e => h2 (e ▸ hb)⟩⟩
set_option maxRecDepth 100000 in
set_option maxHeartbeats 12800000 in
theorem ec_5 (q r : Qn) (va vb : Value) (s : List UInt8) (w : World) (hqa : ArgQ w q va) (hqb : ArgQ w r vb) (hE : Env w ∧ SEnv w) (hsa : smallF q.body = true) (hsb : smallF r.body = true) (h12 : ¬ 12 < q.free.length) (h13 : ¬ 12 < r.free.length) : Calls Tryz.prog 4 #[va, vb, .string ⟨s.toArray⟩] w fun e w' => e = .returned (.bool true) ∧ Upto [] w w' := by
  obtain ⟨he, hse⟩ := hE
  obtain ⟨hval, hsz, hbg⟩ : QnV w AnyB q va ∧ sizeF q.body ≤ 10000000 ∧ bigN q.body := ⟨hqa.val, by have := hqa.sz; omega, inN.big (by decide) _ hqa.ins⟩
  have hfr : q.free.length ≤ 10000000 := by have := hqa.fr; omega
  obtain ⟨hval', hsz', hbg'⟩ : QnV w AnyB r vb ∧ sizeF r.body ≤ 10000000 ∧ bigN r.body := ⟨hqb.val, by have := hqb.sz; omega, inN.big (by decide) _ hqb.ins⟩
  have hfr' : r.free.length ≤ 10000000 := by have := hqb.fr; omega
  have HVA := Lib.hid hval
  have HVB := Lib.hid hval'
  obtain ⟨f1, f3, o1, a1, a2, a3, s1, n1, m1, l1, l2, l3, rfl, hv, hn⟩ := hval.open
  obtain ⟨g1, g3, o2, b1, b2, b3, s2, n2, m2, k1, k2, k3, rfl, hv', hn'⟩ := hval'.open
  have HNA := Lib.hid hn
  have HNB := Lib.hid hn'
  have HSZ := Lib.hid (And.intro hsz (And.intro hbg (And.intro hfr (And.intro hsz' (And.intro hbg' hfr')))))
  have HK : Hid (∀ u, Upto [] w u → Calls Tryz.prog 16 #[] u fun e w' => e = .returned (.bool true) ∧ Upto [] u w') := Lib.hid (fun u hu => fknown_calls u (he.ext hu) (hse.upto hu (by simp)))
  have HSA := Lib.hid (fun u (hu : Upto [] w u) => by have h := small_calls q.body _ u AnyB (hn.ext hu) hsz hbg; rwa [hsa] at h)
  have HSB := Lib.hid (fun u (hu : Upto [] w u) => by have h := small_calls r.body _ u AnyB (hn'.ext hu) hsz' hbg'; rwa [hsb] at h)
  have hu1 : Upto [] w ((w.alloc (.cells #[.slice f1 q.free.length f3, .int .i64 o1, .slice a1 a2 a3, .int .i64 s1, .int .i64 n1, .int .i64 m1, .slice l1 l2 l3] 45)).alloc (.cells #[.slice g1 r.free.length g3, .int .i64 o2, .slice b1 b2 b3, .int .i64 s2, .int .i64 n2, .int .i64 m2, .slice k1 k2 k3] 45)) := ((Upto.refl [] w).alloc _).alloc _
  have HU1 := Lib.hid hu1
  have hba := alloc_old (new_at w (.cells #[.slice f1 q.free.length f3, .int .i64 o1, .slice a1 a2 a3, .int .i64 s1, .int .i64 n1, .int .i64 m1, .slice l1 l2 l3] 45)) (.cells #[.slice g1 r.free.length g3, .int .i64 o2, .slice b1 b2 b3, .int .i64 s2, .int .i64 n2, .int .i64 m2, .slice k1 k2 k3] 45)
  have hbb := new_at1 w (.cells #[.slice f1 q.free.length f3, .int .i64 o1, .slice a1 a2 a3, .int .i64 s1, .int .i64 n1, .int .i64 m1, .slice l1 l2 l3] 45) (.cells #[.slice g1 r.free.length g3, .int .i64 o2, .slice b1 b2 b3, .int .i64 s2, .int .i64 n2, .int .i64 m2, .slice k1 k2 k3] 45)
  have HBA1 := Lib.hid hba
  have HBB1 := Lib.hid hbb
  have hL0 : (0 : Int) ≤ q.free.length := by omega
  have hL1 : (q.free.length : Int) ≤ 10000000 := by omega
  have hM0 : (0 : Int) ≤ r.free.length := by omega
  have hM1 : (r.free.length : Int) ≤ 10000000 := by omega
  clear hqa hqb hval hval' hsz hsz' hbg hbg' hfr hfr' hv hv' hn hn' he hse hu1 hba hbb hsa hsb
  have h12I : ¬ (12 : Int) < q.free.length := by omega
  have h13I : ¬ (12 : Int) < r.free.length := by omega
  have HOA := Lib.hid (fun u (hu : Upto [] w u) => ofq_calls q _ u AnyB (QnV.keep (Keep.upto hu (by simp)) HVA.out) HSZ.out.1 HSZ.out.2.1 HSZ.out.2.2.1)
  have HOB := Lib.hid (fun u (hu : Upto [] w u) => ofq_calls r _ u AnyB (QnV.keep (Keep.upto hu (by simp)) HVB.out) HSZ.out.2.2.2.1 HSZ.out.2.2.2.2.1 HSZ.out.2.2.2.2.2)
  clear h12 h13
  go_enter Tryz.func4, Tryz.ntmps4
  go_wp2_with fail
  refine (HK.out _ HU1.out).mono ?_
  rintro e w2 ⟨rfl, hu2⟩
  have HU2 := Lib.hid (HU1.out.trans_ext hu2)
  have hba := hu2.at HBA1.out (by simp)
  have hbb := hu2.at HBB1.out (by simp)
  have HBA2 := Lib.hid hba
  have HBB2 := Lib.hid hbb
  obtain ⟨x0, x1, x2, x3, x4, x5, x6⟩ := cells7 hba
  obtain ⟨y0, y1, y2, y3, y4, y5, y6⟩ := cells7 hbb
  clear hu2 hba hbb
  go_wp2_with fail
  refine (HSA.out _ HU2.out).mono ?_
  rintro e w3 ⟨rfl, hu3⟩
  have HU3 := Lib.hid (HU2.out.trans_ext hu3)
  have hba := hu3.at HBA2.out (by simp)
  have hbb := hu3.at HBB2.out (by simp)
  have HBA3 := Lib.hid hba
  have HBB3 := Lib.hid hbb
  clear x0 x1 x2 x3 x4 x5 x6 y0 y1 y2 y3 y4 y5 y6
  obtain ⟨x0, x1, x2, x3, x4, x5, x6⟩ := cells7 hba
  obtain ⟨y0, y1, y2, y3, y4, y5, y6⟩ := cells7 hbb
  clear hu3 hba hbb
  go_wp2_with fail
  refine (HSB.out _ HU3.out).mono ?_
  rintro e w4 ⟨rfl, hu4⟩
  have HU4 := Lib.hid (HU3.out.trans_ext hu4)
  have hba := hu4.at HBA3.out (by simp)
  have hbb := hu4.at HBB3.out (by simp)
  have HBA4 := Lib.hid hba
  have HBB4 := Lib.hid hbb
  clear x0 x1 x2 x3 x4 x5 x6 y0 y1 y2 y3 y4 y5 y6
  obtain ⟨x0, x1, x2, x3, x4, x5, x6⟩ := cells7 hba
  obtain ⟨y0, y1, y2, y3, y4, y5, y6⟩ := cells7 hbb
  clear hu4 hba hbb
  go_wp2_with fail
  clear x0 x1 x2 x3 x4 x5 x6 y0 y1 y2 y3 y4 y5 y6
  have ea0 : ∀ u : Ext w4, u.w.cell? ⟨w.heap.size, 0, none⟩ = some (.slice f1 q.free.length f3) := fun u => u.cell (cell_of HBA4.out 0)
  have ea1 : ∀ u : Ext w4, u.w.cell? ⟨w.heap.size, 1, none⟩ = some (.int .i64 o1) := fun u => u.cell (cell_of HBA4.out 1)
  have ea2 : ∀ u : Ext w4, u.w.cell? ⟨w.heap.size, 2, none⟩ = some (.slice a1 a2 a3) := fun u => u.cell (cell_of HBA4.out 2)
  have ea3 : ∀ u : Ext w4, u.w.cell? ⟨w.heap.size, 3, none⟩ = some (.int .i64 s1) := fun u => u.cell (cell_of HBA4.out 3)
  have ea4 : ∀ u : Ext w4, u.w.cell? ⟨w.heap.size, 4, none⟩ = some (.int .i64 n1) := fun u => u.cell (cell_of HBA4.out 4)
  have ea5 : ∀ u : Ext w4, u.w.cell? ⟨w.heap.size, 5, none⟩ = some (.int .i64 m1) := fun u => u.cell (cell_of HBA4.out 5)
  have ea6 : ∀ u : Ext w4, u.w.cell? ⟨w.heap.size, 6, none⟩ = some (.slice l1 l2 l3) := fun u => u.cell (cell_of HBA4.out 6)
  have eb0 : ∀ u : Ext w4, u.w.cell? ⟨w.heap.size + 1, 0, none⟩ = some (.slice g1 r.free.length g3) := fun u => u.cell (cell_of HBB4.out 0)
  have eb1 : ∀ u : Ext w4, u.w.cell? ⟨w.heap.size + 1, 1, none⟩ = some (.int .i64 o2) := fun u => u.cell (cell_of HBB4.out 1)
  have eb2 : ∀ u : Ext w4, u.w.cell? ⟨w.heap.size + 1, 2, none⟩ = some (.slice b1 b2 b3) := fun u => u.cell (cell_of HBB4.out 2)
  have eb3 : ∀ u : Ext w4, u.w.cell? ⟨w.heap.size + 1, 3, none⟩ = some (.int .i64 s2) := fun u => u.cell (cell_of HBB4.out 3)
  have eb4 : ∀ u : Ext w4, u.w.cell? ⟨w.heap.size + 1, 4, none⟩ = some (.int .i64 n2) := fun u => u.cell (cell_of HBB4.out 4)
  have eb5 : ∀ u : Ext w4, u.w.cell? ⟨w.heap.size + 1, 5, none⟩ = some (.int .i64 m2) := fun u => u.cell (cell_of HBB4.out 5)
  have eb6 : ∀ u : Ext w4, u.w.cell? ⟨w.heap.size + 1, 6, none⟩ = some (.slice k1 k2 k3) := fun u => u.cell (cell_of HBB4.out 6)
  refine wp_region_seg_at [1, 3] [4, 5] [0, 1, 2, 3, 4, 5] [6, 7] 6 (by kernel_rfl) (by kernel_rfl) (by kernel_rfl) ?_
  (refine seg_plain rfl rfl rfl rfl rfl ?_; intro K' hK'; go_big_quiet_op; go_big_quiet_on)
  refine seg_callO (Y := (Nat × Nat) × (Option Addr × Nat × Nat) × (Int × Option Addr × Nat × Nat) × Int × Int × Int × Option Addr × Nat × Nat) (fun y => .agg #[.slice y.2.1.1 y.2.1.2.1 y.2.1.2.2, .int .i64 y.2.2.1.1, .slice y.2.2.1.2.1 y.2.2.1.2.2.1 y.2.2.1.2.2.2, .int .i64 y.2.2.2.1, .int .i64 y.2.2.2.2.1, .int .i64 y.2.2.2.2.2.1, .slice y.2.2.2.2.2.2.1 y.2.2.2.2.2.2.2.1 y.2.2.2.2.2.2.2.2]) (fun y u => QnV u (fun b => b ∈ List.range' y.1.1 y.1.2) q (.agg #[.slice y.2.1.1 y.2.1.2.1 y.2.1.2.2, .int .i64 y.2.2.1.1, .slice y.2.2.1.2.1 y.2.2.1.2.2.1 y.2.2.1.2.2.2, .int .i64 y.2.2.2.1, .int .i64 y.2.2.2.2.1, .int .i64 y.2.2.2.2.2.1, .slice y.2.2.2.2.2.2.1 y.2.2.2.2.2.2.2.1 y.2.2.2.2.2.2.2.2])) (fun y => List.range' y.1.1 y.1.2) rfl rfl rfl rfl (fun _ _ _ h hu => QnV.keep (Keep.upto hu (by simp)) h) (fun _ => List.nodup_range') (fun w => by go_simp) (fun w' hu hd => (HOA.out w' (HU4.out.trans_ext hu)).mono fun e w2 ⟨v, h1, h2, h3⟩ => by
      obtain ⟨r1, r2, r3, ro, ra1, ra2, ra3, rs, rn, rm, rl1, rl2, rl3, rfl⟩ := h2.seven
      have hs3 := h3.size
      refine ⟨((w'.heap.size, w2.heap.size - w'.heap.size), (r1, r2, r3), (ro, ra1, ra2, ra3), rs, rn, rm, rl1, rl2, rl3), h1, h3, QnV.keep (Keep.mono (fun b hb hl => List.mem_range'_1.2 ⟨hb, by have hl2 := hl.lt; have hb3 : w'.heap.size ≤ b := hb; dsimp only; omega⟩)) h2, fun b hb => ?_⟩
      have hb2 := List.mem_range'_1.1 hb
      dsimp only at hb2
      omega) ?_
  rintro ⟨⟨ulo, uln⟩, ⟨u1, u2, u3⟩, ⟨uo, ua1, ua2, ua3⟩, us, un, um, ul1, ul2, ul3⟩
  simp only [Act.put, List.setIfInBounds_toArray, List.set_cons_zero, List.set_cons_succ]
  (refine seg_plain rfl rfl rfl rfl rfl ?_; intro K' hK'; go_big_quiet_op; go_big_quiet_on)
  refine seg_callO (Y := (Nat × Nat) × (Option Addr × Nat × Nat) × (Int × Option Addr × Nat × Nat) × Int × Int × Int × Option Addr × Nat × Nat) (fun y => .agg #[.slice y.2.1.1 y.2.1.2.1 y.2.1.2.2, .int .i64 y.2.2.1.1, .slice y.2.2.1.2.1 y.2.2.1.2.2.1 y.2.2.1.2.2.2, .int .i64 y.2.2.2.1, .int .i64 y.2.2.2.2.1, .int .i64 y.2.2.2.2.2.1, .slice y.2.2.2.2.2.2.1 y.2.2.2.2.2.2.2.1 y.2.2.2.2.2.2.2.2]) (fun y u => QnV u (fun b => b ∈ List.range' y.1.1 y.1.2) r (.agg #[.slice y.2.1.1 y.2.1.2.1 y.2.1.2.2, .int .i64 y.2.2.1.1, .slice y.2.2.1.2.1 y.2.2.1.2.2.1 y.2.2.1.2.2.2, .int .i64 y.2.2.2.1, .int .i64 y.2.2.2.2.1, .int .i64 y.2.2.2.2.2.1, .slice y.2.2.2.2.2.2.1 y.2.2.2.2.2.2.2.1 y.2.2.2.2.2.2.2.2])) (fun y => List.range' y.1.1 y.1.2) rfl rfl rfl rfl (fun _ _ _ h hu => QnV.keep (Keep.upto hu (by simp)) h) (fun _ => List.nodup_range') (fun w => by go_simp) (fun w' hu hd => (HOB.out w' (HU4.out.trans_ext hu)).mono fun e w2 ⟨v, h1, h2, h3⟩ => by
      obtain ⟨r1, r2, r3, ro, ra1, ra2, ra3, rs, rn, rm, rl1, rl2, rl3, rfl⟩ := h2.seven
      have hs3 := h3.size
      refine ⟨((w'.heap.size, w2.heap.size - w'.heap.size), (r1, r2, r3), (ro, ra1, ra2, ra3), rs, rn, rm, rl1, rl2, rl3), h1, h3, QnV.keep (Keep.mono (fun b hb hl => List.mem_range'_1.2 ⟨hb, by have hl2 := hl.lt; have hb3 : w'.heap.size ≤ b := hb; dsimp only; omega⟩)) h2, fun b hb => ?_⟩
      have hb2 := List.mem_range'_1.1 hb
      dsimp only at hb2
      omega) ?_
  rintro ⟨⟨vlo, vln⟩, ⟨v1, v2, v3⟩, ⟨vo, va1, va2, va3⟩, vs, vn, vm, vl1, vl2, vl3⟩
  simp only [Act.put, List.setIfInBounds_toArray, List.set_cons_zero, List.set_cons_succ]
  refine seg_alloc (.cells #[.slice none 0 0, .int .i64 0, .slice none 0 0, .int .i64 0, .int .i64 0, .int .i64 0, .slice none 0 0] 48) rfl rfl rfl (fun w => by go_simp) ?_
  intro b7
  simp only [Act.put, List.setIfInBounds_toArray, List.set_cons_zero, List.set_cons_succ]
  refine seg_alloc (.cells #[.slice none 0 0, .int .i64 0, .slice none 0 0, .int .i64 0, .int .i64 0, .int .i64 0, .slice none 0 0] 48) rfl rfl rfl (fun w => by go_simp) ?_
  intro b8
  simp only [Act.put, List.setIfInBounds_toArray, List.set_cons_zero, List.set_cons_succ]
  intro w9 hg
  have HUP := Lib.hid hg.up
  have HB8 : Hid (w9.heap[b8]? = some (.cells #[.slice none 0 0, .int .i64 0, .slice none 0 0, .int .i64 0, .int .i64 0, .int .i64 0, .slice none 0 0] 48 (0, 0))) := Lib.hid hg.hold.1
  have HB7 : Hid (w9.heap[b7]? = some (.cells #[.slice none 0 0, .int .i64 0, .slice none 0 0, .int .i64 0, .int .i64 0, .int .i64 0, .slice none 0 0] 48 (0, 0))) := Lib.hid hg.hold.2.1
  have HXB : Hid (QnV w9 (fun b => b ∈ List.range' vlo vln) r (.agg #[.slice v1 v2 v3, .int .i64 vo, .slice va1 va2 va3, .int .i64 vs, .int .i64 vn, .int .i64 vm, .slice vl1 vl2 vl3])) := Lib.hid hg.hold.2.2.1
  have HXA : Hid (QnV w9 (fun b => b ∈ List.range' ulo uln) q (.agg #[.slice u1 u2 u3, .int .i64 uo, .slice ua1 ua2 ua3, .int .i64 us, .int .i64 un, .int .i64 um, .slice ul1 ul2 ul3])) := Lib.hid hg.hold.2.2.2.1
  have hin8 : w4.heap.size ≤ b8 ∧ b8 < w9.heap.size := hg.inb _ (List.Mem.head _) b8 (List.Mem.head _)
  have hin7 : w4.heap.size ≤ b7 ∧ b7 < w9.heap.size := hg.inb _ (List.Mem.tail _ (List.Mem.head _)) b7 (List.Mem.head _)
  have hnd : b7 ≠ b8 ∧ (∀ b ∈ List.range' ulo uln, b ≠ b7 ∧ b ≠ b8) ∧ (∀ b ∈ List.range' vlo vln, b ≠ b7 ∧ b ≠ b8) := nd4 (by
    have h := hg.nodup
    simp only [ownAll, List.flatMap_cons, List.flatMap_nil, List.append_nil] at h
    exact h)
  have HIN := Lib.hid (And.intro hin7 hin8)
  have HND := Lib.hid hnd
  have hne := hnd.1
  have hne2 := hnd.1.symm
  simp only [List.drop_succ_cons, List.drop_zero]
  obtain ⟨n0, n1, n2, n3, n4, n5, n6⟩ := cells7 HB7.out
  obtain ⟨fa0, fa1, fa2, fa3, fa4, fa5, fa6⟩ := frees7 HB7.out
  obtain ⟨m0, m1, m2, m3, m4, m5, m6⟩ := cells7 HB8.out
  obtain ⟨fb0, fb1, fb2, fb3, fb4, fb5, fb6⟩ := frees7 HB8.out
  obtain ⟨WX, hWX⟩ : ∃ WX, WX = ((((((((((((((w9.setCell ⟨b7, 0, none⟩ (.slice u1 u2 u3)).setCell ⟨b7, 1, none⟩ (.int .i64 uo)).setCell ⟨b7, 2, none⟩ (.slice ua1 ua2 ua3)).setCell ⟨b7, 3, none⟩ (.int .i64 us)).setCell ⟨b7, 4, none⟩ (.int .i64 un)).setCell ⟨b7, 5, none⟩ (.int .i64 um)).setCell ⟨b7, 6, none⟩ (.slice ul1 ul2 ul3)).setCell ⟨b8, 0, none⟩ (.slice v1 v2 v3)).setCell ⟨b8, 1, none⟩ (.int .i64 vo)).setCell ⟨b8, 2, none⟩ (.slice va1 va2 va3)).setCell ⟨b8, 3, none⟩ (.int .i64 vs)).setCell ⟨b8, 4, none⟩ (.int .i64 vn)).setCell ⟨b8, 5, none⟩ (.int .i64 vm)).setCell ⟨b8, 6, none⟩ (.slice vl1 vl2 vl3)) := ⟨_, rfl⟩
  have hA := set7 (w := w9) (b := b7) (t := 48) (x0 := .slice u1 u2 u3) (x1 := .int .i64 uo) (x2 := .slice ua1 ua2 ua3) (x3 := .int .i64 us) (x4 := .int .i64 un) (x5 := .int .i64 um) (x6 := .slice ul1 ul2 ul3) HB7.out
  have hA8 := hA.2.at HB8.out (by simpa using hne2)
  have hB := set7 (b := b8) (t := 48) (x0 := .slice v1 v2 v3) (x1 := .int .i64 vo) (x2 := .slice va1 va2 va3) (x3 := .int .i64 vs) (x4 := .int .i64 vn) (x5 := .int .i64 vm) (x6 := .slice vl1 vl2 vl3) hA8
  have hA7 := hB.2.at hA.1 (by simpa using hne)
  have hUX := (hA.2.mono (S' := [b7, b8]) (by simp)).trans (hB.2.mono (S' := [b7, b8]) (by simp)) (fun k hk => Or.inl hk)
  rw [← hWX] at hB hA7 hUX
  have HX7 := Lib.hid hA7
  have HX8 := Lib.hid hB.1
  have HUX := Lib.hid hUX
  have HUW : Hid (Upto [] w WX) := Lib.hid ((HU4.out.trans_ext HUP.out).trans hUX (fun k hk => Or.inr (by have := HU4.out.size; simp at hk; omega)))
  have HQA : Hid (QnV WX AnyB q (.agg #[.slice u1 u2 u3, .int .i64 uo, .slice ua1 ua2 ua3, .int .i64 us, .int .i64 un, .int .i64 um, .slice ul1 ul2 ul3])) := Lib.hid (QnV.keep (Keep.mono (fun _ _ _ => trivial)) (QnV.keep (Keep.upto hUX (fun b hb _ hm => by have := HND.out.2.1 b hb; simp at hm; omega)) HXA.out))
  have HQB : Hid (QnV WX AnyB r (.agg #[.slice v1 v2 v3, .int .i64 vo, .slice va1 va2 va3, .int .i64 vs, .int .i64 vn, .int .i64 vm, .slice vl1 vl2 vl3])) := Lib.hid (QnV.keep (Keep.mono (fun _ _ _ => trivial)) (QnV.keep (Keep.upto hUX (fun b hb _ hm => by have := HND.out.2.2 b hb; simp at hm; omega)) HXB.out))
  have HBAX := Lib.hid (hUX.at (HUP.out.at HBA4.out (by simp)) (by have := lt_of_heap HBA4.out; simp; omega))
  have HBBX := Lib.hid (hUX.at (HUP.out.at HBB4.out (by simp)) (by have := lt_of_heap HBB4.out; simp; omega))
  clear hg hnd hin7 hin8 hA hA8 hB hA7 hUX ea0 ea1 ea2 ea3 ea4 ea5 ea6 eb0 eb1 eb2 eb3 eb4 eb5 eb6
  go_wp2_with fail
  simp only [← hWX]
  clear hWX n0 n1 n2 n3 n4 n5 n6 m0 m1 m2 m3 m4 m5 m6 fa0 fa1 fa2 fa3 fa4 fa5 fa6 fb0 fb1 fb2 fb3 fb4 fb5 fb6
  obtain ⟨AK, hAK⟩ : ∃ AK, AK = alikeF q r := ⟨_, rfl⟩
  obtain ⟨SF, hSF⟩ : ∃ SF, SF = sameF q.body r.body := ⟨_, rfl⟩
  have hakk : (AK != AK) = false := by cases AK <;> rfl
  have hsff : (SF != SF) = false := by cases SF <;> rfl
  have HQ1 := Lib.hid (fun u (hu : Upto [] WX u) => by
    have h := equalq_calls q r AnyB AnyB _ _ u HSZ.out.2.2.1 HSZ.out.1 HSZ.out.2.1 HSZ.out.2.2.2.2.2 HSZ.out.2.2.2.1 HSZ.out.2.2.2.2.1 (QnV.keep (Keep.upto hu (by simp)) HQA.out) (QnV.keep (Keep.upto hu (by simp)) HQB.out)
    rwa [← hAK] at h)
  have HQ2 := Lib.hid (fun u (hu : Upto [] WX u) => by
    have h := alike_calls q r AnyB AnyB _ _ u HSZ.out.2.2.1 (huge_of _ HSZ.out.1 HSZ.out.2.1) HSZ.out.2.2.2.2.2 (QnV.keep (Keep.upto (HUW.out.trans_ext hu) (by simp)) HVA.out) (QnV.keep (Keep.upto (HUW.out.trans_ext hu) (by simp)) HVB.out)
    rwa [← hAK] at h)
  have HBX := Lib.hid (show NdV WX AnyB q.body (.agg #[.int .i64 uo, .slice ua1 ua2 ua3, .int .i64 us, .int .i64 un, .int .i64 um, .slice ul1 ul2 ul3]) by
    obtain ⟨_, _, _, _, _, _, _, _, _, _, _, _, hvv, _, hnn⟩ := HQA.out.open
    simp only [Value.agg.injEq, Array.mk.injEq, List.cons.injEq, and_true] at hvv
    obtain ⟨-, e1, e2, e3, e4, e5, e6⟩ := hvv
    rw [e1, e2, e3, e4, e5, e6]
    exact hnn)
  have HBY := Lib.hid (show NdV WX AnyB r.body (.agg #[.int .i64 vo, .slice va1 va2 va3, .int .i64 vs, .int .i64 vn, .int .i64 vm, .slice vl1 vl2 vl3]) by
    obtain ⟨_, _, _, _, _, _, _, _, _, _, _, _, hvv, _, hnn⟩ := HQB.out.open
    simp only [Value.agg.injEq, Array.mk.injEq, List.cons.injEq, and_true] at hvv
    obtain ⟨-, e1, e2, e3, e4, e5, e6⟩ := hvv
    rw [e1, e2, e3, e4, e5, e6]
    exact hnn)
  have HQ3 := Lib.hid (fun u (hu : Upto [] WX u) => by
    have h := equal_calls _ q.body (Nat.le_refl _) HSZ.out.1 HSZ.out.2.1 r.body HSZ.out.2.2.2.1 HSZ.out.2.2.2.2.1 AnyB AnyB _ _ u (HBX.out.ext hu) (HBY.out.ext hu)
    rwa [← hSF] at h)
  have HQ4 := Lib.hid (fun u (hu : Upto [] WX u) => by
    have h := same_calls _ q.body (Nat.le_refl _) (huge_of _ HSZ.out.1 HSZ.out.2.1) r.body AnyB AnyB _ _ u (HNA.out.ext (HUW.out.trans_ext hu)) (HNB.out.ext (HUW.out.trans_ext hu))
    rwa [← hSF] at h)
  have HQ5 := Lib.hid (fun u (hu : Upto [] WX u) => by
    have h := equalq_calls q q AnyB AnyB _ _ u HSZ.out.2.2.1 HSZ.out.1 HSZ.out.2.1 HSZ.out.2.2.1 HSZ.out.1 HSZ.out.2.1 (QnV.keep (Keep.upto hu (by simp)) HQA.out) (QnV.keep (Keep.upto hu (by simp)) HQA.out)
    rwa [(alikeF_eq q q).2 rfl] at h)
  clear hAK hSF
  have ex0 : ∀ u : Ext WX, u.w.cell? ⟨b7, 0, none⟩ = some (.slice u1 u2 u3) := fun u => u.cell (cell_of HX7.out 0)
  have ex1 : ∀ u : Ext WX, u.w.cell? ⟨b7, 1, none⟩ = some (.int .i64 uo) := fun u => u.cell (cell_of HX7.out 1)
  have ex2 : ∀ u : Ext WX, u.w.cell? ⟨b7, 2, none⟩ = some (.slice ua1 ua2 ua3) := fun u => u.cell (cell_of HX7.out 2)
  have ex3 : ∀ u : Ext WX, u.w.cell? ⟨b7, 3, none⟩ = some (.int .i64 us) := fun u => u.cell (cell_of HX7.out 3)
  have ex4 : ∀ u : Ext WX, u.w.cell? ⟨b7, 4, none⟩ = some (.int .i64 un) := fun u => u.cell (cell_of HX7.out 4)
  have ex5 : ∀ u : Ext WX, u.w.cell? ⟨b7, 5, none⟩ = some (.int .i64 um) := fun u => u.cell (cell_of HX7.out 5)
  have ex6 : ∀ u : Ext WX, u.w.cell? ⟨b7, 6, none⟩ = some (.slice ul1 ul2 ul3) := fun u => u.cell (cell_of HX7.out 6)
  have ey0 : ∀ u : Ext WX, u.w.cell? ⟨b8, 0, none⟩ = some (.slice v1 v2 v3) := fun u => u.cell (cell_of HX8.out 0)
  have ey1 : ∀ u : Ext WX, u.w.cell? ⟨b8, 1, none⟩ = some (.int .i64 vo) := fun u => u.cell (cell_of HX8.out 1)
  have ey2 : ∀ u : Ext WX, u.w.cell? ⟨b8, 2, none⟩ = some (.slice va1 va2 va3) := fun u => u.cell (cell_of HX8.out 2)
  have ey3 : ∀ u : Ext WX, u.w.cell? ⟨b8, 3, none⟩ = some (.int .i64 vs) := fun u => u.cell (cell_of HX8.out 3)
  have ey4 : ∀ u : Ext WX, u.w.cell? ⟨b8, 4, none⟩ = some (.int .i64 vn) := fun u => u.cell (cell_of HX8.out 4)
  have ey5 : ∀ u : Ext WX, u.w.cell? ⟨b8, 5, none⟩ = some (.int .i64 vm) := fun u => u.cell (cell_of HX8.out 5)
  have ey6 : ∀ u : Ext WX, u.w.cell? ⟨b8, 6, none⟩ = some (.slice vl1 vl2 vl3) := fun u => u.cell (cell_of HX8.out 6)
  have ea0 : ∀ u : Ext WX, u.w.cell? ⟨w.heap.size, 0, none⟩ = some (.slice f1 q.free.length f3) := fun u => u.cell (cell_of HBAX.out 0)
  have ea1 : ∀ u : Ext WX, u.w.cell? ⟨w.heap.size, 1, none⟩ = some (.int .i64 o1) := fun u => u.cell (cell_of HBAX.out 1)
  have ea2 : ∀ u : Ext WX, u.w.cell? ⟨w.heap.size, 2, none⟩ = some (.slice a1 a2 a3) := fun u => u.cell (cell_of HBAX.out 2)
  have ea3 : ∀ u : Ext WX, u.w.cell? ⟨w.heap.size, 3, none⟩ = some (.int .i64 s1) := fun u => u.cell (cell_of HBAX.out 3)
  have ea4 : ∀ u : Ext WX, u.w.cell? ⟨w.heap.size, 4, none⟩ = some (.int .i64 n1) := fun u => u.cell (cell_of HBAX.out 4)
  have ea5 : ∀ u : Ext WX, u.w.cell? ⟨w.heap.size, 5, none⟩ = some (.int .i64 m1) := fun u => u.cell (cell_of HBAX.out 5)
  have ea6 : ∀ u : Ext WX, u.w.cell? ⟨w.heap.size, 6, none⟩ = some (.slice l1 l2 l3) := fun u => u.cell (cell_of HBAX.out 6)
  have eb0 : ∀ u : Ext WX, u.w.cell? ⟨w.heap.size + 1, 0, none⟩ = some (.slice g1 r.free.length g3) := fun u => u.cell (cell_of HBBX.out 0)
  have eb1 : ∀ u : Ext WX, u.w.cell? ⟨w.heap.size + 1, 1, none⟩ = some (.int .i64 o2) := fun u => u.cell (cell_of HBBX.out 1)
  have eb2 : ∀ u : Ext WX, u.w.cell? ⟨w.heap.size + 1, 2, none⟩ = some (.slice b1 b2 b3) := fun u => u.cell (cell_of HBBX.out 2)
  have eb3 : ∀ u : Ext WX, u.w.cell? ⟨w.heap.size + 1, 3, none⟩ = some (.int .i64 s2) := fun u => u.cell (cell_of HBBX.out 3)
  have eb4 : ∀ u : Ext WX, u.w.cell? ⟨w.heap.size + 1, 4, none⟩ = some (.int .i64 n2) := fun u => u.cell (cell_of HBBX.out 4)
  have eb5 : ∀ u : Ext WX, u.w.cell? ⟨w.heap.size + 1, 5, none⟩ = some (.int .i64 m2) := fun u => u.cell (cell_of HBBX.out 5)
  have eb6 : ∀ u : Ext WX, u.w.cell? ⟨w.heap.size + 1, 6, none⟩ = some (.slice k1 k2 k3) := fun u => u.cell (cell_of HBBX.out 6)
  refine wp_region_seg_all [2, 5, 12, 17, 23] [] [0, 1, 2, 3, 4, 5, 6, 7, 8, 9, 10, 11, 12, 13, 14, 15, 16, 17, 18, 19, 20, 21, 22, 23, 24, 25] (by kernel_rfl) (by kernel_rfl) ?_
  iterate 2 (refine seg_plain rfl rfl rfl rfl rfl ?_; intro K' hK'; go_big_quiet_op; go_big_quiet_on)
  refine seg_call rfl rfl rfl rfl (fun w => by go_simp) (fun w' hu hd => HQ1.out w' hu) ?_
  simp only [Act.put, List.setIfInBounds_toArray, List.set_cons_zero, List.set_cons_succ]
  iterate 2 (refine seg_plain rfl rfl rfl rfl rfl ?_; intro K' hK'; go_big_quiet_op; go_big_quiet_on)
  refine seg_call rfl rfl rfl rfl (fun w => by go_simp) (fun w' hu hd => HQ2.out w' hu) ?_
  simp only [Act.put, List.setIfInBounds_toArray, List.set_cons_zero, List.set_cons_succ]
  iterate 6 (refine seg_plain rfl rfl rfl rfl rfl ?_; intro K' hK'; go_big_quiet_op; go_big_quiet_on)
  refine seg_call rfl rfl rfl rfl (fun w => by go_simp) (fun w' hu hd => HQ3.out w' hu) ?_
  simp only [Act.put, List.setIfInBounds_toArray, List.set_cons_zero, List.set_cons_succ]
  iterate 4 (refine seg_plain rfl rfl rfl rfl rfl ?_; intro K' hK'; go_big_quiet_op; go_big_quiet_on)
  refine seg_call rfl rfl rfl rfl (fun w => by go_simp) (fun w' hu hd => HQ4.out w' hu) ?_
  simp only [Act.put, List.setIfInBounds_toArray, List.set_cons_zero, List.set_cons_succ]
  iterate 5 (refine seg_plain rfl rfl rfl rfl rfl ?_; intro K' hK'; go_big_quiet_op; go_big_quiet_on)
  refine seg_call rfl rfl rfl rfl (fun w => by go_simp) (fun w' hu hd => HQ5.out w' hu) ?_
  simp only [Act.put, List.setIfInBounds_toArray, List.set_cons_zero, List.set_cons_succ]
  iterate 2 (refine seg_plain rfl rfl rfl rfl rfl ?_; intro K' hK'; go_big_quiet_op; go_big_quiet_on)
  intro w10 hg
  have HU10 := Lib.hid hg.up
  have HX10 := Lib.hid (hg.up.at HX7.out (by simp))
  have HA10 := Lib.hid (hg.up.at HBAX.out (by simp))
  have HN10 : Hid (NdV w10 (fun b => b < w10.heap.size) q.body (.agg #[.int .i64 uo, .slice ua1 ua2 ua3, .int .i64 us, .int .i64 un, .int .i64 um, .slice ul1 ul2 ul3])) := Lib.hid ((HBX.out.ext hg.up).mono (fun _ _ hl => hl.lt))
  have HM10 : Hid (NdV w10 (fun b => b < w10.heap.size) q.body (.agg #[.int .i64 o1, .slice a1 a2 a3, .int .i64 s1, .int .i64 n1, .int .i64 m1, .slice l1 l2 l3])) := Lib.hid ((HNA.out.ext (HUW.out.trans_ext hg.up)).mono (fun _ _ hl => hl.lt))
  clear hg ex0 ex1 ex2 ex3 ex4 ex5 ex6 ey0 ey1 ey2 ey3 ey4 ey5 ey6 ea0 ea1 ea2 ea3 ea4 ea5 ea6 eb0 eb1 eb2 eb3 eb4 eb5 eb6
  obtain ⟨p0, p1, p2, p3, p4, p5, p6⟩ := cells7 HX10.out
  go_wp2_with fail
  refine (fclone_calls _ q.body (Nat.le_refl _) HSZ.out.1 HSZ.out.2.1 (fun b => b < w10.heap.size) _ w10 HN10.out).mono ?_
  rintro e w11 ⟨v, rfl, hv11, hu11⟩
  obtain ⟨co, cn1, cn2, cn3, cs, cm, cq, cl1, cl2, cl3, rfl⟩ := hv11.six
  have hu12 : Upto [] w11 (w11.alloc (.cells #[.int .i64 co, .slice cn1 cn2 cn3, .int .i64 cs, .int .i64 cm, .int .i64 cq, .slice cl1 cl2 cl3] 34)) := (Upto.refl [] w11).alloc _
  have hb12 := new_at w11 (.cells #[.int .i64 co, .slice cn1 cn2 cn3, .int .i64 cs, .int .i64 cm, .int .i64 cq, .slice cl1 cl2 cl3] 34)
  have HU11 := Lib.hid hu11
  have HC11 := Lib.hid hv11
  have hx12 := hu12.at (hu11.at HX10.out (by simp)) (by simp)
  clear p0 p1 p2 p3 p4 p5 p6 hv11 hu11
  have HU12a := Lib.hid hu12
  have HB12a := Lib.hid hb12
  have HX12a := Lib.hid hx12
  obtain ⟨t0, t1, t2, t3, t4, t5⟩ := cells6 hb12
  obtain ⟨z0, z1, z2, z3, z4, z5, z6⟩ := cells7 hx12
  clear hb12 hx12 hu12
  go_wp2_with fail
  clear t0 t1 t2 t3 t4 t5 z0 z1 z2 z3 z4 z5 z6
  obtain ⟨W12, hW12⟩ : ∃ W12, W12 = w11.alloc (.cells #[.int .i64 co, .slice cn1 cn2 cn3, .int .i64 cs, .int .i64 cm, .int .i64 cq, .slice cl1 cl2 cl3] 34) := ⟨_, rfl⟩
  simp only [← hW12]
  have HU12 : Hid (Upto [] w11 W12) := Lib.hid (by rw [hW12]; exact HU12a.out)
  have HB12 : Hid (W12.heap[w11.heap.size]? = some (.cells #[.int .i64 co, .slice cn1 cn2 cn3, .int .i64 cs, .int .i64 cm, .int .i64 cq, .slice cl1 cl2 cl3] 34 (0, 0))) := Lib.hid (by rw [hW12]; exact HB12a.out)
  clear HU12a HB12a HX12a hW12
  refine (equal_calls _ q.body (Nat.le_refl _) HSZ.out.1 HSZ.out.2.1 q.body HSZ.out.1 HSZ.out.2.1 (Nu w10 w11) (fun b => b < w10.heap.size) _ _ W12 (HC11.out.ext HU12.out) (HN10.out.ext (HU11.out.trans_ext HU12.out))).mono ?_
  rintro e w13 ⟨rfl, hu13⟩
  rw [(sameF_eq q.body q.body).2 rfl]
  have HU13 := Lib.hid hu13
  have hb13 := hu13.at HB12.out (by simp)
  clear hu13
  obtain ⟨c0, c1, c2, c3, c4, c5⟩ := cells6 hb13
  clear hb13
  go_wp2_with fail
  obtain ⟨SS, hSS⟩ : ∃ SS, SS = List.range' w10.heap.size (w11.heap.size - w10.heap.size) := ⟨_, rfl⟩
  have hmem : ∀ b, b ∈ SS ↔ w10.heap.size ≤ b ∧ b < w10.heap.size + (w11.heap.size - w10.heap.size) := fun b => by rw [hSS]; exact List.mem_range'_1
  have HMEM := Lib.hid hmem
  have hs11 := HU11.out.size
  have hs12 := HU12.out.size
  have hs13 := HU13.out.size
  have HSS := Lib.hid (And.intro hs11 (And.intro hs12 hs13))
  have hn13 : NdV w13 (fun b => b ∈ SS ∧ Unf w13 b) q.body (.agg #[.int .i64 co, .slice cn1 cn2 cn3, .int .i64 cs, .int .i64 cm, .int .i64 cq, .slice cl1 cl2 cl3]) := NdV.keep ⟨by omega, fun b hb hl => by
    have he := (HU12.out.trans_ext HU13.out).block b hl.lt (by simp)
    exact ⟨⟨(hmem b).2 ⟨hb.1, by have := hl.lt; omega⟩, hb.2.stay he⟩, he⟩⟩ _ _ HC11.out
  refine (spoil_calls SS w13 ⟨s.toArray⟩ (fun b hb => by have := (hmem b).1 hb; omega) _ q.body (Nat.le_refl _) HSZ.out.1 HSZ.out.2.1 _ _ _ _ _ _ _ _ _ _ _ _ _ _ w13 hn13 (Mk.refl _ _)).mono ?_
  rintro e w14 ⟨rfl, hm14, -⟩
  have HU14 := Lib.hid hm14.up
  have hlow : ∀ b, b < w10.heap.size → b ∉ SS := fun b hb hm => by have := (HMEM.out b).1 hm; omega
  have HLOW := Lib.hid hlow
  have HU134 := Lib.hid ((HU11.out.trans_ext HU12.out).trans_ext HU13.out)
  have HX14 := Lib.hid (HU14.out.at (HU134.out.at HX10.out (by simp)) (hlow _ (lt_of_heap HX10.out)))
  have HA14 := Lib.hid (HU14.out.at (HU134.out.at HA10.out (by simp)) (hlow _ (lt_of_heap HA10.out)))
  have HN14 := Lib.hid ((HN10.out.ext HU134.out).upto HU14.out (fun b hb _ => hlow b hb))
  have HM14 := Lib.hid ((HM10.out.ext HU134.out).upto HU14.out (fun b hb _ => hlow b hb))
  have HW14 : Hid (Upto [] w w14) := Lib.hid (((HUW.out.trans_ext HU10.out).trans_ext HU134.out).trans HU14.out (fun k hk => Or.inr (by have := (HMEM.out k).1 hk; have := HUW.out.size; have := HU10.out.size; omega)))
  clear hSS hmem hs11 hs12 hs13 hn13 hm14 hlow c0 c1 c2 c3 c4 c5
  go_wp2_with fail
  have HBK := Lib.hid (fun u (hu : Upto [] w14 u) => back_calls _ q.body (Nat.le_refl _) HSZ.out.1 HSZ.out.2.1 _ _ u (HN14.out.ext hu))
  have HSM := Lib.hid (fun u v (hu : Upto [] w14 u) (hv : NdV u AnyB q.body v) => by
    have h := same_calls _ q.body (Nat.le_refl _) (huge_of _ HSZ.out.1 HSZ.out.2.1) q.body AnyB _ v _ u hv (HM14.out.ext hu)
    rwa [(sameF_eq q.body q.body).2 rfl] at h)
  have ex0 : ∀ u : Ext w14, u.w.cell? ⟨b7, 0, none⟩ = some (.slice u1 u2 u3) := fun u => u.cell (cell_of HX14.out 0)
  have ex1 : ∀ u : Ext w14, u.w.cell? ⟨b7, 1, none⟩ = some (.int .i64 uo) := fun u => u.cell (cell_of HX14.out 1)
  have ex2 : ∀ u : Ext w14, u.w.cell? ⟨b7, 2, none⟩ = some (.slice ua1 ua2 ua3) := fun u => u.cell (cell_of HX14.out 2)
  have ex3 : ∀ u : Ext w14, u.w.cell? ⟨b7, 3, none⟩ = some (.int .i64 us) := fun u => u.cell (cell_of HX14.out 3)
  have ex4 : ∀ u : Ext w14, u.w.cell? ⟨b7, 4, none⟩ = some (.int .i64 un) := fun u => u.cell (cell_of HX14.out 4)
  have ex5 : ∀ u : Ext w14, u.w.cell? ⟨b7, 5, none⟩ = some (.int .i64 um) := fun u => u.cell (cell_of HX14.out 5)
  have ex6 : ∀ u : Ext w14, u.w.cell? ⟨b7, 6, none⟩ = some (.slice ul1 ul2 ul3) := fun u => u.cell (cell_of HX14.out 6)
  have ea0 : ∀ u : Ext w14, u.w.cell? ⟨w.heap.size, 0, none⟩ = some (.slice f1 q.free.length f3) := fun u => u.cell (cell_of HA14.out 0)
  have ea1 : ∀ u : Ext w14, u.w.cell? ⟨w.heap.size, 1, none⟩ = some (.int .i64 o1) := fun u => u.cell (cell_of HA14.out 1)
  have ea2 : ∀ u : Ext w14, u.w.cell? ⟨w.heap.size, 2, none⟩ = some (.slice a1 a2 a3) := fun u => u.cell (cell_of HA14.out 2)
  have ea3 : ∀ u : Ext w14, u.w.cell? ⟨w.heap.size, 3, none⟩ = some (.int .i64 s1) := fun u => u.cell (cell_of HA14.out 3)
  have ea4 : ∀ u : Ext w14, u.w.cell? ⟨w.heap.size, 4, none⟩ = some (.int .i64 n1) := fun u => u.cell (cell_of HA14.out 4)
  have ea5 : ∀ u : Ext w14, u.w.cell? ⟨w.heap.size, 5, none⟩ = some (.int .i64 m1) := fun u => u.cell (cell_of HA14.out 5)
  have ea6 : ∀ u : Ext w14, u.w.cell? ⟨w.heap.size, 6, none⟩ = some (.slice l1 l2 l3) := fun u => u.cell (cell_of HA14.out 6)
  refine wp_region_seg_all [2, 5] [] [0, 1, 2, 3, 4, 5, 6] (by kernel_rfl) (by kernel_rfl) ?_
  iterate 2 (refine seg_plain rfl rfl rfl rfl rfl ?_; intro K' hK'; go_big_quiet_op; go_big_quiet_on)
  refine seg_callO (Y := (Int × Option Addr × Nat × Nat) × Int × Int × Int × Option Addr × Nat × Nat) (fun y => .agg #[.int .i64 y.1.1, .slice y.1.2.1 y.1.2.2.1 y.1.2.2.2, .int .i64 y.2.1, .int .i64 y.2.2.1, .int .i64 y.2.2.2.1, .slice y.2.2.2.2.1 y.2.2.2.2.2.1 y.2.2.2.2.2.2]) (fun y u => NdV u AnyB q.body (.agg #[.int .i64 y.1.1, .slice y.1.2.1 y.1.2.2.1 y.1.2.2.2, .int .i64 y.2.1, .int .i64 y.2.2.1, .int .i64 y.2.2.2.1, .slice y.2.2.2.2.1 y.2.2.2.2.2.1 y.2.2.2.2.2.2])) (fun _ => []) rfl rfl rfl rfl (fun _ _ _ h hu => h.ext hu) (fun _ => List.nodup_nil) (fun w => by go_simp) (fun w' hu hd => (HBK.out w' hu).mono fun e w2 ⟨v, h1, h2, h3⟩ => by
      obtain ⟨ro, rn1, rn2, rn3, rs, rm, rq, rl1, rl2, rl3, rfl⟩ := h2.six
      exact ⟨((ro, rn1, rn2, rn3), rs, rm, rq, rl1, rl2, rl3), h1, h3, h2.mono (fun _ _ _ => trivial), fun b hb => by cases hb⟩) ?_
  rintro ⟨⟨ro, rn1, rn2, rn3⟩, rs, rm, rq, rl1, rl2, rl3⟩
  simp only [Act.put, List.setIfInBounds_toArray, List.set_cons_zero, List.set_cons_succ]
  iterate 2 (refine seg_plain rfl rfl rfl rfl rfl ?_; intro K' hK'; go_big_quiet_op; go_big_quiet_on)
  refine seg_call rfl rfl rfl rfl (fun w => by go_simp) (fun w' hu hd => HSM.out w' _ hu (hd.1 (by kernel_rfl))) ?_
  simp only [Act.put, List.setIfInBounds_toArray, List.set_cons_zero, List.set_cons_succ]
  (refine seg_plain rfl rfl rfl rfl rfl ?_; intro K' hK'; go_big_quiet_op; go_big_quiet_on)
  intro w15 hg
  have HW15 := Lib.hid (HW14.out.trans_ext hg.up)
  clear hg
  go_wp2_with fail
  go_ret
  exact ⟨rfl, HW15.out⟩
theorem formulaEqualClone_walk (q : Qn) (va : Value) (r : Qn) (vb : Value) (s : List UInt8) (w : World) (hqa : ArgQ w q va) (hqb : ArgQ w r vb) (_ : s.length ≤ 9223372036854775807) (hE : Env w ∧ SEnv w) : Calls Tryz.prog 4 #[va, vb, .string ⟨s.toArray⟩] w fun e w' => e = .returned (.bool true) ∧ Upto [] w w' := by
  cases hsa : smallF q.body with
  | false => exact ec_1 q r va vb s w hqa hqb hE hsa
  | true =>
    cases hsb : smallF r.body with
    | false => exact ec_2 q r va vb s w hqa hqb hE hsa hsb
    | true =>
      by_cases h12 : 12 < q.free.length
      · exact ec_3 q r va vb s w hqa hqb hE hsa hsb h12
      · by_cases h13 : 12 < r.free.length
        · exact ec_4 q r va vb s w hqa hqb hE hsa hsb h12 h13
        · exact ec_5 q r va vb s w hqa hqb hE hsa hsb h12 h13
end Go.Proofs.YtkhbpebpljdifaaGreatDoor
