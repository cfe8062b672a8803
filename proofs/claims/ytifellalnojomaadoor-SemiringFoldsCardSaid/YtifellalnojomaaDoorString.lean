/- String of the number one. -/
import Derived.Test.YtifellalnojomaaDoorStr
namespace Go.Proofs.YtifellalnojomaaDoor
open Go.RowKit Go.PL Go.Maps

theorem infoS : (Tryd.prog.info? 9).map (fun i => (i.zero, i.size, i.bytes)) = some (some (.string ⟨#[]⟩), 1, 16) := by kernel_rfl

/-- what stands at the head of a round -/
structure StrI (b c : Nat) (w : World) (n parts : Value) (wr : World) : Prop where
  up : Upto [] w wr
  at1 : wr.heap[w.heap.size]? = some (.cells #[n] 45 (0, 0))
  case : (n = .slice (some ⟨b, 0, none⟩) 1 c ∧ parts = .slice none 0 0) ∨ (∃ s k g o m, n = .slice s 0 k ∧ parts = .slice (some ⟨g, o, none⟩) 1 m ∧ wr.cell? ⟨g, o, none⟩ = some (.string ⟨#[49]⟩))

set_option maxRecDepth 100000 in
set_option maxHeartbeats 1000000 in
theorem string_one (b c : Nat) (w : World) (hz : w.cell? ⟨b, 0, none⟩ = some (.int .u32 1)) :
    Calls Tryd.prog 64 #[.agg #[.slice (some ⟨b, 0, none⟩) 1 c]] w fun e w' => e = .returned (.string ⟨#[49]⟩) ∧ Upto [] w w' := by
  have hb := World.block_lt_of_cell? w _ hz
  simp only at hb
  have HZ := Lib.hid isZero_calls
  have HF := Lib.hid formatU_one
  have HR := Lib.hid reverse_one
  have HJ := Lib.hid join_one
  have hu0 : Upto [] w (w.alloc (.cells #[.slice (some ⟨b, 0, none⟩) 1 c] 45)) := (Upto.refl [] w).alloc _
  have b0 := new_at w (.cells #[.slice (some ⟨b, 0, none⟩) 1 c] 45)
  go_enter Tryd.func64, Tryd.ntmps64
  go_wp2_with fail
  refine (HZ.out _ _ _ _).mono ?_
  rintro e w1 ⟨rfl, hu1⟩
  have b1 := hu1.at b0 (by simp)
  have hu := hu0.trans_ext hu1
  clear b0 hu0 hu1
  simp only [show decide ((1 : Nat) = 0) = false from rfl]
  go_wp2_with fail
  go_loopw [3] (fun p wr => ∃ n, StrI b c w n p wr) (fun p _ => match p with | .slice _ 0 _ => 1 | _ => 0)
  case atStart => exact ⟨_, hu, b1, Or.inl ⟨rfl, rfl⟩⟩
  case round =>
    obtain ⟨n, hup, hat, ⟨rfl, rfl⟩ | ⟨s, k, g, o, m, rfl, rfl, hg⟩⟩ := hrel
    · have q1 := cell_of hat 0
      simp at q1
      have hz1 : wr.cell? ⟨b, 0, none⟩ = some (.int .u32 1) := (hup.cell (p := ⟨b, 0, none⟩) hb (by simp)).trans hz
      go_wp2_with fail
      refine (HZ.out _ _ _ _).mono ?_
      rintro e w2 ⟨rfl, hu2⟩
      have at2 := hu2.at hat (by simp)
      have q2 := cell_of at2 0
      have hz2 := (hu2.cell (p := ⟨b, 0, none⟩) (World.block_lt_of_cell? _ _ hz1) (by simp)).trans hz1
      simp at q2
      have hup2 := hup.trans_ext hu2
      simp only [show decide ((1 : Nat) = 0) = false from rfl]
      go_wp2_with fail
      refine (short_one b 0 c _ hz2).mono ?_
      rintro e w3 ⟨⟨s, k, rfl⟩, hbl⟩
      have hu3 := Upto.of_below hbl
      have at3 := hu3.at at2 (by simp)
      have hup3 := hup2.trans_ext hu3
      have hup3' := hup3.size
      have hn := new_at w3 (.cells #[.slice s 0 k] 45)
      have at4 := alloc_old at3 (.cells #[.slice s 0 k] 45)
      have hup4 := hup3.alloc (.cells #[.slice s 0 k] 45)
      clear hu2 hu3 hbl at2 at3 hup2 hup3 hup hat
      go_wp2_with fail
      refine (HF.out _).mono ?_
      rintro e w5 ⟨rfl, rfl⟩
      go_wp2_with fail
      refine (HZ.out _ _ _ _).mono ?_
      rintro e w6 ⟨rfl, hu6⟩
      have atn := hu6.at hn (by simp)
      have at6 := hu6.at at4 (by simp)
      have hup6 := hup4.trans_ext hu6
      have hs3 := hup3'
      have hs6 := hu6.size
      simp only [World.size_alloc] at hs6
      clear hu6 hn at4 hup4 HZ HF HR HJ
      generalize hq : w3.heap.size = q3 at *
      obtain ⟨i0, hi0, hz0, hz1', hz2'⟩ := info_parts infoS
      have hw6 := (Upto.refl [] w6).alloc (.cells #[.string ⟨#[49]⟩] 9)
      have h1 := hw6.at atn (by simp)
      have h2 := hw6.at at6 (by simp)
      have hup7 := hup6.trans_ext hw6
      have ho0 : (w6.alloc (.cells #[.string ⟨#[49]⟩] 9)).ownsRow 0 9 1 (.slice none 0 0) 0 [] := World.ownsRow_nil _ _ _ _
      have hone := one_at (new_at w6 (.cells #[.string ⟨#[49]⟩] 9))
      clear atn at6 hup6
      go_wp2_with (at_builtin; refine wpList_app _ rfl (.tmp 28) (.tmp 30) 131 rfl 9 i0 (.string ⟨#[]⟩) 1 16 Tryd.underlying131 hi0 hz0 hz1' hz2' rfl (by decide) (.slice none 0 0) 0 [] rfl ho0 ⟨w6.heap.size, 0, none⟩ 1 1 [.string ⟨#[49]⟩] rfl rfl hone (by simp [Value.oneCell']) (by unfold maxLen; omega) (by omega) ?_; intro va vc w7 ho7 hu7 hw7; have k1 := hu7.at h1 (by simp [Value.ownBlock]); have k2 := hu7.at h2 (by simp [Value.ownBlock]); have r1 := cell_of k1 0; have r2 := cell_of k2 0; have f2 := free_of k2 0; simp at r1 r2)
      have hup8 := hup7.trans_ext hu7
      go_roundw
      case rel =>
        simp only [Nat.zero_add, List.nil_append] at ho7
        obtain ⟨gg, cc, hv, -, hgc⟩ : ∃ gg cc, va = some ⟨gg, 0, none⟩ ∧ vc = cc ∧ w7.cell? ⟨gg, 0, none⟩ = some (.string ⟨#[49]⟩) := by
          rcases ho7.2 with ⟨h, h'⟩ | ⟨g, cap, cur, h, _, hh, _, _, _, ht⟩
          · cases h'
          · cases h
            refine ⟨g, _, rfl, rfl, ?_⟩
            rw [cell_of hh]
            have := congrArg (fun l => l[0]?) ht
            simpa using this
        obtain rfl := hv
        have hgs := World.block_lt_of_cell? w7 _ hgc
        simp only at hgs
        have hne : gg ≠ w.heap.size := by
          rintro rfl
          rw [cell_of k2] at hgc
          simp at hgc
        refine ⟨.slice s 0 k, hup8.setCell (Or.inr (by simp)) _, ?_, Or.inr ⟨s, k, gg, 0, vc, rfl, by simp, ?_⟩⟩
        · have := set_same k2 0 (.slice s 0 k)
          simpa using this
        · exact cell_setOther hgc hne _
      case measure => simp
    · have q1 := cell_of hat 0
      simp at q1
      go_wp2_with fail
      refine (HZ.out _ _ _ _).mono ?_
      rintro e w2 ⟨rfl, hu2⟩
      have hg2 := (hu2.cell (p := ⟨g, o, none⟩) (World.block_lt_of_cell? _ _ hg) (by simp)).trans hg
      have hup2 := hup.trans_ext hu2
      go_wp2_with fail
      refine (HR.out _ _ _).mono ?_
      rintro e w3 ⟨⟨v, rfl⟩, rfl⟩
      go_wp2_with fail
      refine (HJ.out _ _ _ _ _ _ hg2).mono ?_
      rintro e w4 ⟨rfl, rfl⟩
      go_wp2
      go_ret
      exact ⟨rfl, hup2⟩
end Go.Proofs.YtifellalnojomaaDoor
