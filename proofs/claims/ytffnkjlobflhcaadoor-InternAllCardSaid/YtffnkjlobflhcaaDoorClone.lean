/- slices.Clone of []int and []string -/
import Derived.Test.YtffnkjlobflhcaaDoorLib
namespace Go.Proofs.YtffnkjlobflhcaaDoor
open Go.RowKit Go.PL Go.Maps

theorem infoI : (Tryd.prog.info? 3).map (fun i => (i.zero, i.size, i.bytes)) = some (some (.int .i64 0), 1, 8) := by kernel_rfl

set_option maxRecDepth 100000 in
set_option maxHeartbeats 400000 in
theorem cloneI (va : Option Addr) (vc : Nat) (xs : List Value) (w : World) (hv : SlC w (.slice va xs.length vc) xs) (h1 : ∀ u ∈ xs, u.oneCell' = true) (hl : xs.length ≤ 1099511627776) :
    Calls Tryd.prog 38 #[.slice va xs.length vc] w fun e w' => ∃ ra rc, e = .returned (.slice ra xs.length rc) ∧ Grew w w' 3 1 (.slice none 0 0) (.slice ra xs.length rc) xs.length xs := by
  cases va with
  | none =>
    have h0 : xs = [] := by
      rcases hv with ⟨h, _⟩ | ⟨g, o, c, hs, _⟩
      · exact h
      · cases hs
    subst h0
    have he : (binOp .eql 30 (.slice none 0 vc) (.slice none 0 0)).run Tryd.prog w = .ok (.bool true) w := Lib.run_eql_slice_nil w 30 3 none 0 vc 0 0 Tryd.underlying30
    go_enter Tryd.func38, Tryd.ntmps38
    go_wp2
    go_ret
    exact ⟨none, 0, rfl, Grew.same (World.ownsRow_nil _ _ _ _)⟩
  | some a =>
    obtain ⟨i0, hi0, hz0, hz1, hz2⟩ := info_parts infoI
    have hv1 := hv.ext ((Upto.refl [] w).alloc (.cells #[] 3))
    have ho0 : (w.alloc (.cells #[] 3)).ownsRow 0 3 1 (.slice (some ⟨w.heap.size, 0, none⟩) 0 0) 0 [] := World.ownsRow_made w #[] 0 (Nat.zero_le _) (by decide) rfl
    have H1 := Lib.hid h1
    have he : (binOp .eql 30 (.slice (some a) xs.length vc) (.slice none 0 0)).run Tryd.prog w = .ok (.bool false) w := Lib.run_eql_slice_nil w 30 3 (some a) _ vc 0 0 Tryd.underlying30
    clear h1
    go_enter Tryd.func38, Tryd.ntmps38
    go_wp2_with (at_builtin; refine wpList_apps _ rfl (.tmp 5) (.tmp 6) 30 rfl 3 i0 (.int .i64 0) 8 Tryd.underlying30 hi0 hz0 hz1 hz2 rfl (.slice (some ⟨w.heap.size, 0, none⟩) 0 0) 0 [] rfl ho0 _ _ rfl hv1 H1.out (by unfold maxLen; omega) (by omega) ?_; intro b2 n2 w2 ho2 hg2 hw2)
    simp only [Nat.zero_add, List.nil_append] at ho2 hw2
    go_ret
    refine ⟨b2, n2, by simp, ho2, ?_, ?_⟩
    · have := ((Upto.refl [] w).alloc (.cells #[] 3)).trans hg2 (fun g hg => by simp [Value.ownBlock] at hg; right; omega)
      exact this
    · intro g hg
      rcases hw2 g hg with h | h
      · simp [Value.ownBlock] at h; right; omega
      · simp at h; right; omega
end Go.Proofs.YtffnkjlobflhcaaDoor
