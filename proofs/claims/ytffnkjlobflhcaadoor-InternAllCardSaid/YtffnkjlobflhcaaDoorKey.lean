/- key: the text of a slice of numbers -/
import Derived.Test.YtffnkjlobflhcaaDoorFmt
namespace Go.Proofs.YtffnkjlobflhcaaDoor
open Go.RowKit Go.PL Go.Maps

/-- the buffer behind k rounds -/
def KeyR (xs : List Int) (w : World) (bv' kv : Value) (wr : World) : Prop :=
  ∃ k : Nat, k ≤ xs.length ∧ kv = .int .i64 k ∧ ∃ va vc, bv' = .slice va (keyL (xs.take k)).length vc ∧ Grew w wr 5 1 (.slice none 0 0) bv' (keyL (xs.take k)).length ((keyL (xs.take k)).map bv)

set_option maxRecDepth 100000 in
set_option maxHeartbeats 800000 in
theorem key_calls (xs : List Int) (hx : ∀ n ∈ xs, I64 n) (va : Option Addr) (vc : Nat) (w : World) (hv : SlC w (.slice va xs.length vc) (xs.map iv)) (hl : xs.length ≤ 1048576) :
    Calls Tryd.prog 37 #[.slice va xs.length vc] w fun e w' => e = .returned (.string ⟨(keyL xs).toArray⟩) ∧ Upto [] w w' := by
  go_enter Tryd.func37, Tryd.ntmps37
  go_wp2
  go_loopw [3, 8] (fun b k wr => KeyR xs w b k wr) (fun _ k _ => xs.length - (intOf k).toNat)
  case atStart => exact ⟨0, by omega, rfl, none, 0, rfl, by simpa [keyL] using Grew.same (World.ownsRow_nil w 0 5 1)⟩
  case round =>
    obtain ⟨k, hk, rfl, ba, bc, rfl, hg⟩ := hrel
    have hkl := keyL_len (xs.take k) (fun n hn => hx n (List.mem_of_mem_take hn))
    have hkm : (xs.take k).length ≤ k := List.length_take_le _ _
    by_cases hlt : k < xs.length
    · have hm := hx xs[k] (List.getElem_mem hlt)
      have hup := hg.up
      have hv1 := hv.ext (by exact hup)
      rcases hv1 with ⟨h0, _⟩ | ⟨g, o, c, hs, hc⟩
      · simp at h0; rw [h0] at hlt; simp at hlt
      · simp only [Value.slice.injEq] at hs
        obtain ⟨rfl, -, rfl⟩ := hs
        have hcell := hc k (iv xs[k]) (by simp [hlt])
        have htk : xs.take (k + 1) = xs.take k ++ [xs[k]] := by rw [List.take_add_one, List.getElem?_eq_getElem hlt]; rfl
        have hkey : keyL (xs.take (k + 1)) = keyL (xs.take k) ++ (encI xs[k] ++ [44]) := by rw [htk, keyL_app]
        have he := encI_len hm.1 hm.2
        have HF := Lib.hid (append_int _ _ _ wr xs[k] hm.1 hm.2 hg.row (by omega))
        have HK := Lib.hid hkey
        unfold iv at hcell
        obtain ⟨i0, hi0, hz0, hz1, hz2⟩ := info_parts infoB
        clear hkey htk hc hm
        go_wp2_with (first
          | (go_at_call 41; refine HF.out.mono ?_; rintro e w1 ⟨ra, rc, rfl, hg1⟩)
          | (at_builtin; refine wpList_app _ rfl (.tmp 14) (.tmp 15) 84 rfl 5 i0 (.int .u8 0) 1 1 Tryd.underlying84 hi0 hz0 hz1 hz2 rfl (by decide) _ _ _ rfl (hg1.row.alloc _) ⟨w1.heap.size, 0, none⟩ 1 1 [.int .u8 44] rfl rfl one_cell (by simp [Value.oneCell']) (by unfold maxLen; omega) (by omega) ?_; intro qa qc w2 ho2 hu2 hw2))
        have hg2 := (hg.trans hg1).trans (Grew.before ((Upto.refl [] w1).alloc _) ⟨ho2, hu2, hw2⟩)
        go_roundw
        case rel =>
          have e1 : (keyL (xs.take k)).length + (encI xs[k]).length + 1 = (keyL (xs.take (k + 1))).length := by rw [HK.out]; simp; omega
          have e2 : (keyL (xs.take k)).map bv ++ (encI xs[k]).map bv ++ [.int .u8 44] = (keyL (xs.take (k + 1))).map bv := by rw [HK.out]; simp; rfl
          rw [e1, e2] at hg2
          exact ⟨k + 1, by omega, by go_num, qa, qc, by rw [e1], by rw [← e1]; rw [← e1] at hg2; exact hg2⟩
        case measure => simp [intOf]; omega
    · obtain rfl : k = xs.length := by omega
      rw [List.take_length] at hg ⊢
      have hcv : (convert 84 9 (.slice ba (keyL xs).length bc)).run Tryd.prog wr = .ok (.string ⟨(keyL xs).toArray⟩) wr := conv_str Tryd.underlying84 Tryd.underlying5 Tryd.underlying9 (SlC.of_row hg.row)
      go_wp2
      go_ret
      exact ⟨rfl, hg.up⟩
end Go.Proofs.YtffnkjlobflhcaaDoor
