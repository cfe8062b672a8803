/- Sums and products of the law's lists. -/
import Derived.Test.YtifellalnojomaaDoorFoldsA
namespace Go.Proofs.YtifellalnojomaaDoor
open Go.RowKit Go.PL Go.Maps

theorem elem_rep {w : World} {g : Option Addr} {n c k : Nat} (h : Elem w (.slice g n c) k) (hk : k < 65536) : RepN 1 w (.agg #[.slice g n c]) k := by
  obtain ⟨g', c', he, h2⟩ := h
  cases he
  exact ⟨_, _, rfl, h2, by omega⟩
theorem repC_right' {w : World} {k : Bool} {m : Int} (h : rightF (k, m) = true) : RepC 1 w (.agg #[.bool k, .int .i64 m]) (costO (k, m)) := by
  refine ⟨(k, m), rfl, rfl, fun hk => ?_⟩
  simp only at hk
  subst hk
  simp [rightF] at h
  simp
  omega

set_option maxRecDepth 100000 in
set_option maxHeartbeats 1600000 in
theorem nsum_list (sa : Option Addr) (sc n : Nat) (L : List Value) (qs : List Nat) (w : World) (hn : n ≤ 12) (hs : SlC w (.slice sa n sc) L) (hL : Elems w L qs) (hl : qs.length = n) (hq : ∀ x ∈ qs, x < 65536) :
    Calls Tryd.prog 50 #[.iface 42 (.agg #[]), .slice sa n sc] w fun e w' => ∃ g n' c, e = .returned (.agg #[.slice g n' c]) ∧ Upto [] w w' ∧ RepN (n + 1) w' (.agg #[.slice g n' c]) (qs.sum) := by
  obtain ⟨gl, ol, hsa, hel⟩ : ∃ gl ol, (0 < n → sa = some ⟨gl, ol, none⟩) ∧ ∀ k, k < n → ∃ g n' c, w.cell? ⟨gl, ol + k, none⟩ = some (.slice g n' c) ∧ ∃ q, qs[k]? = some q ∧ RepN 1 w (.agg #[.slice g n' c]) q := by
    rcases hs with ⟨rfl, a, c, he⟩ | ⟨g, o, c, he, hc⟩
    · cases hL
      simp at hl
      subst hl
      exact ⟨0, 0, by omega, fun k hk => by omega⟩
    · simp at he
      refine ⟨g, o, fun _ => he.1, fun k hk => ?_⟩
      have hkq : k < qs.length := by omega
      obtain ⟨v, hv, hev⟩ := hL.get k _ (List.getElem?_eq_getElem hkq)
      obtain ⟨g', c', rfl, hnum⟩ := hev
      exact ⟨_, _, _, hc k _ hv, _, List.getElem?_eq_getElem hkq, elem_rep ⟨g', c', rfl, hnum⟩ (hq _ (List.getElem_mem hkq))⟩
  have h := N_sum_calls (ln := n) (J := fun k u g n c => RepN (k + 1) u (.agg #[.slice g n c]) ((qs.take k).sum)) (E := fun k g n c => ∃ q, qs[k]? = some q ∧ RepN 1 w (.agg #[.slice g n c]) q) sa gl ol sc w
    (fun k u u' g' n' c' h hu => ringN.stable _ _ _ _ _ h hu) (fun k u u' b g' n' c' h hu hq => ringN.stab2 _ _ _ _ _ _ h hu hq)
    (fun u hu => (ringN.hz u).mono fun e w' ⟨v, h1, h2, h3⟩ => by
      obtain ⟨g', n', c', rfl⟩ := repN_shape _ _ _ _ h3
      exact ⟨g', n', c', h1, h2, h3⟩)
    (fun k u g' n' c' ge ne ce hk hu hj he => by
      obtain ⟨q, hq1, hq2⟩ := he
      refine (ringN.ha (k + 1) 1 u _ _ _ _ (by omega) hj (ringN.stable _ _ _ _ _ hq2 hu)).mono fun e w' ⟨v, h1, h2, h3⟩ => ?_
      obtain ⟨g2, n2, c2, rfl⟩ := repN_shape _ _ _ _ h3
      refine ⟨g2, n2, c2, h1, h2, ?_⟩
      have hkl : k < qs.length := by omega
      have e1 : qs[k] = q := by rw [List.getElem?_eq_getElem hkl] at hq1; exact Option.some.inj hq1
      have hx : (qs.take (k + 1)).sum = (qs.take k).sum + q := by rw [← e1]; exact (by rw [take_snoc qs k hkl, List.sum_append, List.sum_singleton])
      rw [hx]
      exact h3)
    (by omega) hsa hel
  have hT : qs.take n = qs := by rw [← hl, List.take_length]
  simp only [hT] at h
  exact h

set_option maxRecDepth 100000 in
set_option maxHeartbeats 1600000 in
theorem nprod_list (sa : Option Addr) (sc n : Nat) (L : List Value) (qs : List Nat) (w : World) (hn : n ≤ 12) (hs : SlC w (.slice sa n sc) L) (hL : Elems w L qs) (hl : qs.length = n) (hq : ∀ x ∈ qs, x < 65536) :
    Calls Tryd.prog 51 #[.iface 42 (.agg #[]), .slice sa n sc] w fun e w' => ∃ g n' c, e = .returned (.agg #[.slice g n' c]) ∧ Upto [] w w' ∧ RepN (n + 1) w' (.agg #[.slice g n' c]) (prodN qs) := by
  obtain ⟨gl, ol, hsa, hel⟩ : ∃ gl ol, (0 < n → sa = some ⟨gl, ol, none⟩) ∧ ∀ k, k < n → ∃ g n' c, w.cell? ⟨gl, ol + k, none⟩ = some (.slice g n' c) ∧ ∃ q, qs[k]? = some q ∧ RepN 1 w (.agg #[.slice g n' c]) q := by
    rcases hs with ⟨rfl, a, c, he⟩ | ⟨g, o, c, he, hc⟩
    · cases hL
      simp at hl
      subst hl
      exact ⟨0, 0, by omega, fun k hk => by omega⟩
    · simp at he
      refine ⟨g, o, fun _ => he.1, fun k hk => ?_⟩
      have hkq : k < qs.length := by omega
      obtain ⟨v, hv, hev⟩ := hL.get k _ (List.getElem?_eq_getElem hkq)
      obtain ⟨g', c', rfl, hnum⟩ := hev
      exact ⟨_, _, _, hc k _ hv, _, List.getElem?_eq_getElem hkq, elem_rep ⟨g', c', rfl, hnum⟩ (hq _ (List.getElem_mem hkq))⟩
  have h := N_prod_calls (ln := n) (J := fun k u g n c => RepN (k + 1) u (.agg #[.slice g n c]) (prodN (qs.take k))) (E := fun k g n c => ∃ q, qs[k]? = some q ∧ RepN 1 w (.agg #[.slice g n c]) q) sa gl ol sc w
    (fun k u u' g' n' c' h hu => ringN.stable _ _ _ _ _ h hu) (fun k u u' b g' n' c' h hu hq => ringN.stab2 _ _ _ _ _ _ h hu hq)
    (fun u hu => (ringN.ho u).mono fun e w' ⟨v, h1, h2, h3⟩ => by
      obtain ⟨g', n', c', rfl⟩ := repN_shape _ _ _ _ h3
      exact ⟨g', n', c', h1, h2, h3⟩)
    (fun k u g' n' c' ge ne ce hk hu hj he => by
      obtain ⟨q, hq1, hq2⟩ := he
      refine (ringN.hm (k + 1) 1 u _ _ _ _ (by omega) hj (ringN.stable _ _ _ _ _ hq2 hu)).mono fun e w' ⟨v, h1, h2, h3⟩ => ?_
      obtain ⟨g2, n2, c2, rfl⟩ := repN_shape _ _ _ _ h3
      refine ⟨g2, n2, c2, h1, h2, ?_⟩
      have hkl : k < qs.length := by omega
      have e1 : qs[k] = q := by rw [List.getElem?_eq_getElem hkl] at hq1; exact Option.some.inj hq1
      have hx : prodN (qs.take (k + 1)) = prodN (qs.take k) * q := by rw [← e1]; exact (by rw [take_snoc qs k hkl, prodN_append]; simp [prodN])
      rw [hx]
      exact h3)
    (by omega) hsa hel
  have hT : qs.take n = qs := by rw [← hl, List.take_length]
  simp only [hT] at h
  exact h

theorem nsum_list2 (sa : Option Addr) (sc n : Nat) (L : List Value) (qs : List Nat) (w : World) (hn : n ≤ 12) (hs : SlC w (.slice sa n sc) L) (hL : Elems w L qs) (hl : qs.length = n) (hq : ∀ x ∈ qs, x < 65536) :
    Calls Tryd.prog 50 #[.iface 42 (.agg #[]), .slice sa n sc] w fun e w' => ∃ g c, e = .returned (.agg #[.slice g (W32 (qs.sum)).length c]) ∧ Upto [] w w' ∧ NumS w' g c (qs.sum) :=
  (nsum_list sa sc n L qs w hn hs hL hl hq).mono fun e w' ⟨g, n', c, h1, h2, h3⟩ => by
    obtain ⟨_, _, he, h4, _⟩ := h3
    simp at he
    obtain ⟨rfl, rfl, rfl⟩ := he
    exact ⟨g, c, h1, h2, h4⟩

theorem nprod_list2 (sa : Option Addr) (sc n : Nat) (L : List Value) (qs : List Nat) (w : World) (hn : n ≤ 12) (hs : SlC w (.slice sa n sc) L) (hL : Elems w L qs) (hl : qs.length = n) (hq : ∀ x ∈ qs, x < 65536) :
    Calls Tryd.prog 51 #[.iface 42 (.agg #[]), .slice sa n sc] w fun e w' => ∃ g c, e = .returned (.agg #[.slice g (W32 (prodN qs)).length c]) ∧ Upto [] w w' ∧ NumS w' g c (prodN qs) :=
  (nprod_list sa sc n L qs w hn hs hL hl hq).mono fun e w' ⟨g, n', c, h1, h2, h3⟩ => by
    obtain ⟨_, _, he, h4, _⟩ := h3
    simp at he
    obtain ⟨rfl, rfl, rfl⟩ := he
    exact ⟨g, c, h1, h2, h4⟩

def msumF (l : List (Bool × Int)) : Option Int := l.foldl (fun a b => minO a (costO b)) none
theorem msumF_snoc (l : List (Bool × Int)) (x : Bool × Int) : msumF (l ++ [x]) = minO (msumF l) (costO x) := by simp [msumF, List.foldl_append]
set_option maxRecDepth 100000 in
set_option maxHeartbeats 1600000 in
theorem msum_list (sa : Option Addr) (sc n : Nat) (qs : List (Bool × Int)) (w : World) (hn : n ≤ 12) (hl : qs.length = n) (hq : ∀ x ∈ qs, rightF x = true)
    (hs : n = 0 ∨ ∃ g o, sa = some ⟨g, o, none⟩ ∧ ∀ k x, qs[k]? = some x → w.cell? ⟨g, o + k * 2, none⟩ = some (.bool x.1) ∧ w.cell? ⟨g, o + k * 2 + 1, none⟩ = some (.int .i64 x.2)) :
    Calls Tryd.prog 52 #[.iface 29 (.agg #[]), .slice sa n sc] w fun e w' => ∃ l m, e = .returned (.agg #[.bool l, .int .i64 m]) ∧ Upto [] w w' ∧ RepC (n + 1) w' (.agg #[.bool l, .int .i64 m]) (msumF qs) := by
  obtain ⟨gl, ol, hsa, hel⟩ : ∃ gl ol, (0 < n → sa = some ⟨gl, ol, none⟩) ∧ ∀ k, k < n → ∃ l m, (w.cell? ⟨gl, ol + k * 2, none⟩ = some (.bool l) ∧ w.cell? ⟨gl, ol + k * 2 + 1, none⟩ = some (.int .i64 m)) ∧ qs[k]? = some (l, m) := by
    rcases hs with h | ⟨g, o, h1, h2⟩
    · exact ⟨0, 0, by omega, fun k hk => by omega⟩
    · refine ⟨g, o, fun _ => h1, fun k hk => ?_⟩
      have hkq : k < qs.length := by omega
      exact ⟨_, _, h2 k _ (List.getElem?_eq_getElem hkq), List.getElem?_eq_getElem hkq⟩
  have h := M_sum_calls (ln := n) (J := fun k u l m => RepC (k + 1) u (.agg #[.bool l, .int .i64 m]) (msumF (qs.take k))) (E := fun k l m => qs[k]? = some (l, m)) sa gl ol sc w
    (fun k u u' l m h hu => ringMi.stable _ _ _ _ _ h hu) (fun k u u' b l m h hu hq => ringMi.stab2 _ _ _ _ _ _ h hu hq)
    (fun u hu => (ringMi.hz u).mono fun e w' ⟨v, h1, h2, h3⟩ => by
      obtain ⟨l, m, rfl⟩ := repC_shape _ _ _ _ h3
      exact ⟨l, m, h1, h2, h3⟩)
    (fun k u l m le me hk hu hj he => by
      have hr : rightF (le, me) = true := hq _ (List.mem_of_getElem? he)
      refine (ringMi.ha (k + 1) 1 u _ _ _ _ (by omega) hj (repC_right' hr)).mono fun e w' ⟨v, h1, h2, h3⟩ => ?_
      obtain ⟨l2, m2, rfl⟩ := repC_shape _ _ _ _ h3
      refine ⟨l2, m2, h1, h2, ?_⟩
      have hkl : k < qs.length := by omega
      have e1 : qs[k] = (le, me) := by rw [List.getElem?_eq_getElem hkl] at he; exact Option.some.inj he
      rw [show qs.take (k + 1) = qs.take k ++ [qs[k]] from List.take_succ_eq_append_getElem hkl, msumF_snoc, e1]
      exact h3)
    (by omega) hsa hel
  have hT : qs.take n = qs := by rw [← hl, List.take_length]
  simp only [hT] at h
  exact h

def mprodF (l : List (Bool × Int)) : Option Int := l.foldl (fun a b => mulO a (costO b)) (some 0)
theorem mprodF_snoc (l : List (Bool × Int)) (x : Bool × Int) : mprodF (l ++ [x]) = mulO (mprodF l) (costO x) := by simp [mprodF, List.foldl_append]
set_option maxRecDepth 100000 in
set_option maxHeartbeats 1600000 in
theorem mprod_list (sa : Option Addr) (sc n : Nat) (qs : List (Bool × Int)) (w : World) (hn : n ≤ 12) (hl : qs.length = n) (hq : ∀ x ∈ qs, rightF x = true)
    (hs : n = 0 ∨ ∃ g o, sa = some ⟨g, o, none⟩ ∧ ∀ k x, qs[k]? = some x → w.cell? ⟨g, o + k * 2, none⟩ = some (.bool x.1) ∧ w.cell? ⟨g, o + k * 2 + 1, none⟩ = some (.int .i64 x.2)) :
    Calls Tryd.prog 53 #[.iface 29 (.agg #[]), .slice sa n sc] w fun e w' => ∃ l m, e = .returned (.agg #[.bool l, .int .i64 m]) ∧ Upto [] w w' ∧ RepC (n + 1) w' (.agg #[.bool l, .int .i64 m]) (mprodF qs) := by
  obtain ⟨gl, ol, hsa, hel⟩ : ∃ gl ol, (0 < n → sa = some ⟨gl, ol, none⟩) ∧ ∀ k, k < n → ∃ l m, (w.cell? ⟨gl, ol + k * 2, none⟩ = some (.bool l) ∧ w.cell? ⟨gl, ol + k * 2 + 1, none⟩ = some (.int .i64 m)) ∧ qs[k]? = some (l, m) := by
    rcases hs with h | ⟨g, o, h1, h2⟩
    · exact ⟨0, 0, by omega, fun k hk => by omega⟩
    · refine ⟨g, o, fun _ => h1, fun k hk => ?_⟩
      have hkq : k < qs.length := by omega
      exact ⟨_, _, h2 k _ (List.getElem?_eq_getElem hkq), List.getElem?_eq_getElem hkq⟩
  have h := M_prod_calls (ln := n) (J := fun k u l m => RepC (k + 1) u (.agg #[.bool l, .int .i64 m]) (mprodF (qs.take k))) (E := fun k l m => qs[k]? = some (l, m)) sa gl ol sc w
    (fun k u u' l m h hu => ringMi.stable _ _ _ _ _ h hu) (fun k u u' b l m h hu hq => ringMi.stab2 _ _ _ _ _ _ h hu hq)
    (fun u hu => (ringMi.ho u).mono fun e w' ⟨v, h1, h2, h3⟩ => by
      obtain ⟨l, m, rfl⟩ := repC_shape _ _ _ _ h3
      exact ⟨l, m, h1, h2, h3⟩)
    (fun k u l m le me hk hu hj he => by
      have hr : rightF (le, me) = true := hq _ (List.mem_of_getElem? he)
      refine (ringMi.hm (k + 1) 1 u _ _ _ _ (by omega) hj (repC_right' hr)).mono fun e w' ⟨v, h1, h2, h3⟩ => ?_
      obtain ⟨l2, m2, rfl⟩ := repC_shape _ _ _ _ h3
      refine ⟨l2, m2, h1, h2, ?_⟩
      have hkl : k < qs.length := by omega
      have e1 : qs[k] = (le, me) := by rw [List.getElem?_eq_getElem hkl] at he; exact Option.some.inj he
      rw [show qs.take (k + 1) = qs.take k ++ [qs[k]] from List.take_succ_eq_append_getElem hkl, mprodF_snoc, e1]
      exact h3)
    (by omega) hsa hel
  have hT : qs.take n = qs := by rw [← hl, List.take_length]
  simp only [hT] at h
  exact h

end Go.Proofs.YtifellalnojomaaDoor
