/- trim, FromUint64, IsZero. -/
import Derived.Test.YtifellalnojomaaDoorLib
import Derived.Test.YtifellalnojomaaDoorProg
import Derived.BigQuiet
namespace Go.Proofs.YtifellalnojomaaDoor
open Go.RowKit Go.PL

/-- how many words are left when the leading zero words are struck -/
def trimN (zs : List Int) : Nat := (zs.reverse.dropWhile (fun z => z == 0)).length
theorem trimN_snoc0 (zs : List Int) : trimN (zs ++ [0]) = trimN zs := by simp [trimN]
theorem trimN_snoc {zs : List Int} {z : Int} (h : z ≠ 0) : trimN (zs ++ [z]) = zs.length + 1 := by simp [trimN, h]
theorem trimN_le (zs : List Int) : trimN zs ≤ zs.length := by
  have := (List.dropWhile_sublist (p := fun z : Int => z == 0) (l := zs.reverse)).length_le
  simpa [trimN] using this

set_option maxRecDepth 100000 in
set_option maxHeartbeats 1000000 in
theorem trim_calls (b o c : Nat) (zs : List Int) (w : World) (hz : ∀ j z, zs[j]? = some z → w.cell? ⟨b, o + j, none⟩ = some (.int .u32 z)) (hl : zs.length ≤ c) (hc : c ≤ 9223372036854775807) :
    Calls Tryd.prog 68 #[.slice (some ⟨b, o, none⟩) zs.length c] w fun e w' => e = .returned (.agg #[.slice (some ⟨b, o, none⟩) (trimN zs) c]) ∧ Upto [] w w' := by
  have hu : Upto [] w (w.alloc (.cells #[.slice none 0 0] 45)) := (Upto.refl [] w).alloc _
  have b0 := new_at w (.cells #[.slice none 0 0] 45)
  go_enter Tryd.func68, Tryd.ntmps68
  go_wp2_with fail
  have hz1 : ∀ j z, zs[j]? = some z → (w.alloc (.cells #[.slice none 0 0] 45)).cell? ⟨b, o + j, none⟩ = some (.int .u32 z) := fun j z h =>
    (hu.cell (p := ⟨b, o + j, none⟩) (World.block_lt_of_cell? w _ (hz j z h)) (by simp)).trans (hz j z h)
  obtain ⟨w1, hw1⟩ : ∃ w1, w1 = w.alloc (.cells #[.slice none 0 0] 45) := ⟨_, rfl⟩
  rw [← hw1] at hu b0 hz1 ⊢
  have f0 := free_of b0 0
  have q0 := cell_of b0 0
  simp at q0
  clear hw1
  go_loopw [0] (fun sv wr => ∃ m : Nat, m ≤ zs.length ∧ sv = .slice (some ⟨b, o, none⟩) m c ∧ trimN (zs.take m) = trimN zs ∧ wr = w1) (fun sv _ => match sv with | .slice _ m _ => m | _ => 0)
  case atStart => exact ⟨zs.length, Nat.le_refl _, rfl, by simp, rfl⟩
  case round =>
    obtain ⟨m, hm, rfl, ht, rfl⟩ := hrel
    cases m with
    | zero =>
      go_wp2
      refine bodyPost_ret (v := .agg #[.slice (some ⟨b, o, none⟩) (trimN zs) c]) ?_ rfl ⟨rfl, hu.setCell (Or.inr (by simp)) _⟩
      rw [← ht]
      simp [trimN, results, Tryd.results68, go_sem, q0]
    | succ m =>
      have hg : zs[m]? = some zs[m] := List.getElem?_eq_getElem (by omega)
      have hcell := hz1 m _ hg
      have htk : zs.take (m + 1) = zs.take m ++ [zs[m]] := by rw [List.take_add_one, hg]; rfl
      rw [htk] at ht
      generalize zs[m] = z at *
      by_cases h0 : z = 0
      · subst h0
        rw [trimN_snoc0] at ht
        go_wp2
        go_roundw
        case rel => exact ⟨m, by omega, by simp, ht, by first | rfl | trivial⟩
        case measure => simp
      · rw [trimN_snoc h0] at ht
        have htl : (zs.take m).length = m := by simp; omega
        rw [htl] at ht
        have HT := Lib.hid ht
        clear ht htk htl hg
        go_wp2
        all_goals
          refine bodyPost_ret (v := .agg #[.slice (some ⟨b, o, none⟩) (m + 1) c]) ?_ rfl ⟨by rw [HT.out], hu.setCell (Or.inr (by simp)) _⟩
          simp [results, Tryd.results68, go_sem, q0]

/-- FromUint64: the words' block is new -/
theorem from_calls (n : Nat) (hn : n < 18446744073709551616) (w : World) :
    Calls Tryd.prog 33 #[.int .u64 n] w fun e w' => ∃ b, e = .returned (.agg #[.slice (some ⟨b, 0, none⟩) (trimN [(n : Int) % 4294967296, (n : Int) / 4294967296]) 2]) ∧ w.heap.size ≤ b ∧
      w'.heap[b]? = some (.cells #[.int .u32 ((n : Int) % 4294967296), .int .u32 ((n : Int) / 4294967296)] 49 (0, 0)) ∧ Upto [] w w' := by
  have hu : Upto [] w ((w.alloc (.cells #[.slice none 0 0] 45)).alloc (.cells #[.int .u32 ((n : Int) % 4294967296), .int .u32 ((n : Int) / 4294967296)] 49)) := ((Upto.refl [] w).alloc _).alloc _
  have b1 := new_at1 w (.cells #[.slice none 0 0] 45) (.cells #[.int .u32 ((n : Int) % 4294967296), .int .u32 ((n : Int) / 4294967296)] 49)
  have b0 := alloc_old (new_at w (.cells #[.slice none 0 0] 45)) (.cells #[.int .u32 ((n : Int) % 4294967296), .int .u32 ((n : Int) / 4294967296)] 49)
  have ht := trim_calls (w.heap.size + 1) 0 2 [(n : Int) % 4294967296, (n : Int) / 4294967296] _ (fun j z h => by
    match j with
    | 0 => simp at h; rw [← h, cell_of b1]; rfl
    | 1 => simp at h; rw [← h, cell_of b1]; rfl
    | j + 2 => simp at h) (by simp) (by omega)
  simp only [List.length_cons, List.length_nil, Nat.zero_add, Nat.reduceAdd] at ht
  have HT := Lib.hid ht
  clear ht
  go_enter Tryd.func33, Tryd.ntmps33
  go_wp2_with fail
  refine HT.out.mono ?_
  rintro e w2 ⟨rfl, hu2⟩
  have c0 := hu2.at b0 (by simp)
  have c1 := hu2.at b1 (by simp)
  have f0 := free_of c0 0
  have q0 := cell_of c0 0
  simp at q0
  have hu3 := hu.trans_ext hu2
  clear b0 b1 HT
  go_wp2
  refine bodyPost_ret (v := .agg #[.slice (some ⟨w.heap.size + 1, 0, none⟩) (trimN [(n : Int) % 4294967296, (n : Int) / 4294967296]) 2]) (by simp [results, Tryd.results33, go_sem, q0]) rfl ⟨w.heap.size + 1, rfl, by omega, ?_, hu3.setCell (Or.inr (by simp)) _⟩
  exact set_other c1 (by omega) 0 _

/-- IsZero -/
theorem isZero_calls (a : Option Addr) (n c : Nat) (w : World) :
    Calls Tryd.prog 35 #[.agg #[.slice a n c]] w fun e w' => e = .returned (.bool (decide (n = 0))) ∧ Upto [] w w' := by
  go_enter Tryd.func35, Tryd.ntmps35
  go_wp2
  go_ret
  refine ⟨ret_bool ?_, (Upto.refl [] w).alloc _⟩
  cases n <;> simp
  omega
end Go.Proofs.YtifellalnojomaaDoor
