/- The laws' own helpers: known, To, alike; the walk of LexerTokenize. -/
import Derived.Test.YtkhbpebpljdifaaDoorTok
import Derived.Test.YtkhbpebpljdifaaDoorTokR
namespace Go.Proofs.YtkhbpebpljdifaaDoor
open Go.RowKit Go.PL Go.Maps

/-- the law's text -/
def knownText : List UInt8 := [115, 111, 109, 101, 32, 118, 101, 114, 116, 101, 120, 32, 120, 39, 58, 32, 120, 39, 32, 105, 115, 32, 55]
def knownToks : List Tok := [⟨3, [115, 111, 109, 101], 0, 1, 1⟩, ⟨3, [118, 101, 114, 116, 101, 120], 0, 1, 6⟩, ⟨1, [120, 39], 0, 1, 13⟩, ⟨4, [58], 0, 1, 15⟩, ⟨1, [120, 39], 0, 1, 17⟩, ⟨3, [105, 115], 0, 1, 20⟩, ⟨2, [55], 7, 1, 23⟩, ⟨0, [], 0, 1, 24⟩]
theorem known_lex : lexT knownText = .ok knownToks := by kernel_rfl

set_option maxRecDepth 100000 in
set_option maxHeartbeats 3200000 in
/-- known of the lexer's laws -/
theorem knownL_calls (w : World) (he : Env w) : Calls Tryd.prog 15 #[] w fun e w' => e = .returned (.bool true) ∧ Upto [] w w' := by
  have H := tokenize_calls knownText w he (by decide)
  have HH := Lib.hid H
  clear H
  go_enter Tryd.func15, Tryd.ntmps15
  go_wp2_with fail
  refine HH.out.mono ?_
  rintro e w1 ⟨hr, hu1⟩
  rcases hr with ⟨ts', v, hl', rfl, hT⟩ | ⟨l, c, n, hl', _⟩
  · obtain rfl : knownToks = ts' := by
      rw [known_lex] at hl'
      injection hl'
    rcases hT.at with ⟨h0, _⟩ | ⟨g, o, c, rfl, hat⟩
    · cases h0
    · have hg := World.block_lt_of_cell? w1 _ (hat 0 _ rfl).1
      have hu2 := hu1.alloc (.cells #[.int .i64 0, .int .i64 0] 24)
      have hat' := hat.ext ((Upto.refl [] w1).alloc (.cells #[.int .i64 0, .int .i64 0] 24))
      have a2 : (w1.alloc (.cells #[.int .i64 0, .int .i64 0] 24)).cell? ⟨g, o + 10, none⟩ = some (.int .i64 1) := (hat' 2 _ rfl).1
      have b2 : (w1.alloc (.cells #[.int .i64 0, .int .i64 0] 24)).cell? ⟨g, o + 10 + 1, none⟩ = some (.string ⟨#[120, 39]⟩) := (hat' 2 _ rfl).2.1
      have d6 : (w1.alloc (.cells #[.int .i64 0, .int .i64 0] 24)).cell? ⟨g, o + 30 + 2, none⟩ = some (.int .i64 7) := (hat' 6 _ rfl).2.2.1
      have a7 : (w1.alloc (.cells #[.int .i64 0, .int .i64 0] 24)).cell? ⟨g, o + 35, none⟩ = some (.int .i64 0) := (hat' 7 _ rfl).1
      have e7 : (w1.alloc (.cells #[.int .i64 0, .int .i64 0] 24)).cell? ⟨g, o + 35 + 3, none⟩ = some (.int .i64 1) := (hat' 7 _ rfl).2.2.2.1
      have f7 : (w1.alloc (.cells #[.int .i64 0, .int .i64 0] 24)).cell? ⟨g, o + 35 + 4, none⟩ = some (.int .i64 24) := (hat' 7 _ rfl).2.2.2.2
      rw [show knownToks.length = 8 from rfl]
      clear hat hat' hT hu1 hl'
      go_wp2_with fail
      go_ret
      exact ⟨rfl, hu2⟩
  · rw [known_lex] at hl'
    cases hl'
end Go.Proofs.YtkhbpebpljdifaaDoor
