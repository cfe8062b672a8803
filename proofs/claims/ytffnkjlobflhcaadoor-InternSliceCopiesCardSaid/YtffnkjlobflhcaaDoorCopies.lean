/- InternSliceCopies: the walk. -/
import Derived.Test.YtffnkjlobflhcaaDoorSlices3
import Derived.Test.YtffnkjlobflhcaaDoorSIds
import Derived.Test.YtffnkjlobflhcaaDoorArgs2
import Derived.Deep.RegionHeld3
import Derived.Deep.RegionLaw
import Derived.Deep.LoopGhost
import Derived.Deep.DeepCutAuto
import Derived.Deep.CutBlock
import Derived.LaidEqlPtr
namespace Go.Proofs.YtffnkjlobflhcaaDoor
open Go.RowKit Go.PL Go.Maps

section
variable {P : Program} (w : World) {o : Oper} {ac : Act} {Q : Exit → Act → World → Prop}
/-- append of the elements of a slice that reads as news, at a step of a region that draws -/
theorem step_apps {ops : Array Oper} {K : Act → World → Prop} {E : Prop} (hgd : o.guard = none) (s x : Operand) (t : TypeId) (ho : o.op = .call { callee := .builtin .append, args := #[s, x], argTypes := #[t, t] })
    (e : TypeId) (i : TypeInfo) (z : Value) (bytes : Nat) (ht : P.underlying t = some (.slice e)) (hi : P.info? e = some i) (hz : i.zero = some z)
    (hsize : i.size = 1) (hby : i.bytes = bytes) (hzs : z.cells.size = 1)
    (v : Value) (n : Nat) (xs : List Value) (hs : ac.eval s = v) (hown : w.ownsRow 0 e 1 v n xs)
    (y : Value) (news : List Value) (hx : ac.eval x = y) (hnews : SlC w y news) (h1 : ∀ u ∈ news, u.oneCell' = true)
    (h63 : n + news.length ≤ maxLen) (hbytes : (n + news.length) * bytes ≤ 140737488355328)
    (h : ∀ b' c' w', Grew w w' e 1 v (.slice b' (n + news.length) c') (n + news.length) (xs ++ news) → K (ac.put o.dst (.slice b' (n + news.length) c')) w') :
    if Region.wanted o (yielded ops ac.tmps) = true then Oper.wp P o ac w K Q else E := by
  rcases hnews with ⟨rfl, a, c, rfl⟩ | ⟨g, off, c, rfl, hc⟩
  · have hw : Region.wanted o (yielded ops ac.tmps) = true := by simp [Region.wanted, hgd]
    rw [if_pos hw]
    have hr := run_append_zero (P := P) w t o.type e i 1 ht hi v n xs hown a c
    unfold Oper.wp execOp
    simp only [ho, resolve, invoke, builtin, Sem.run_bind, Sem.run_pure, Result.andThen_ok, List.map_toArray, List.map_cons, List.map_nil, hs, hx, hr]
    obtain ⟨b', c', rfl, _⟩ := ownsRow_len hown
    exact h b' c' w ⟨by simpa using hown, Upto.refl _ _, fun g hg => Or.inl hg⟩
  · refine step_app w hgd s x t ho e i z 1 bytes ht hi hz hsize hby hzs (by decide) v n xs hs hown ⟨g, off, none⟩ news.length c news hx (by simp) ?_ h1 h63 hbytes h
    intro j u hj
    have := hc j u hj
    simpa [Addr.add_lit] using this
end
theorem ownsRow_one (w : World) (x : Value) (e : TypeId) : (w.alloc (.cells #[x] e)).ownsRow 0 e 1 (.slice (some ⟨w.heap.size, 0, none⟩) 1 1) 1 [x] :=
  ⟨rfl, Or.inr ⟨w.heap.size, 1, #[x], rfl, Nat.zero_le _, heap_alloc_new w _, Nat.le_refl _, by decide, rfl, rfl⟩⟩

def CpX (w : World) (l : Nat) (xs : List (List Int)) (wr : World) : Prop := ∃ S E, SlX wr l 30 xs S E ∧ Within w [] S ∧ Within w [] E ∧ Upto [] w wr
def CpR (w : World) (l n : Nat) (iv' : Value) (wr : World) : Prop := ∃ (i : Nat) (xs : List (List Int)), i ≤ n ∧ i ≤ 15 ∧ xs.length ≤ i ∧ iv' = .int .i64 i ∧ CpX w l xs wr
/-- the law's slice: 7 and an argument's first elements, in new memory -/
def NewRow (wr : World) (v : Value) (ys : List Int) (wx : World) : Prop := ∃ g c, v = .slice (some ⟨g, 0, none⟩) ys.length c ∧ wx.ownsRow 0 3 1 v ys.length (ys.map iv) ∧ wr.heap.size ≤ g ∧ Upto [] wr wx

theorem row_form {w : World} {ra : Option Addr} {n rc : Nat} {xs : List Value} (h : w.ownsRow 0 3 1 (.slice ra n rc) n xs) (hn : 1 ≤ n) :
    ∃ g, ra = some ⟨g, 0, none⟩ ∧ g < w.heap.size ∧ (∀ x, xs[0]? = some x → w.cell? ⟨g, 0, none⟩ = some x) ∧ w.frozen? ⟨g, 0, none⟩ = false := by
  rcases h.2 with ⟨h1, h0⟩ | ⟨g, cap, cur, hv, _, hh, h1, h2, h3, h4⟩
  · omega
  · simp only [Value.slice.injEq] at hv
    obtain ⟨rfl, -, rfl⟩ := hv
    refine ⟨g, rfl, lt_of_heap hh, fun x hx => ?_, free_of hh 0⟩
    rcases SlC.of_row h with ⟨h5, _⟩ | ⟨g', o', c', hs, hc⟩
    · rw [h5] at hx; cases hx
    · simp only [Value.slice.injEq, Option.some.injEq, Addr.mk.injEq] at hs
      obtain ⟨⟨rfl, rfl, -⟩, -, -⟩ := hs
      simpa using hc 0 x hx
theorem newRow_of {wr W w4 : World} {b n qc : Nat} {qa : Option Addr} {ys : List Int} (hg : Grew W w4 3 1 (.slice (some ⟨b, 0, none⟩) 1 1) (.slice qa ys.length qc) ys.length (ys.map iv)) (hn : n = ys.length) (hl : 1 ≤ ys.length)
    (hb : wr.heap.size ≤ b) (hW : wr.heap.size ≤ W.heap.size) (hu : Upto [] wr w4) : NewRow wr (.slice qa n qc) ys w4 := by
  subst hn
  obtain ⟨g, rfl, -, -, -⟩ := row_form hg.row hl
  refine ⟨g, qc, rfl, hg.row, ?_, hu⟩
  rcases hg.own g rfl with h | h
  · simp [Value.ownBlock] at h; omega
  · omega
theorem sinternF_room {xs : List (List Int)} {y : List Int} {room : Nat} (h : xs.length < room) : ∃ xs' n, sinternF room xs y = (xs', n, 0) ∧ xs'[n]? = some y ∧ xs'.length ≤ xs.length + 1 ∧ (xs' = xs ∨ xs'.length = xs.length + 1) ∧ ∃ l, xs' = xs ++ l := by
  unfold sinternF
  cases hi : idxL xs y with
  | some i => exact ⟨xs, i, rfl, idxL_some hi, by omega, Or.inl rfl, [], by simp⟩
  | none => exact ⟨xs ++ [y], xs.length, by simp; omega, by simp, by simp, Or.inr (by simp), [y], rfl⟩
theorem sinternF_more {xs : List (List Int)} {y : List Int} {room : Nat} : ∃ l, (sinternF room xs y).1 = xs ++ l := by
  unfold sinternF
  split
  · exact ⟨[], by simp⟩
  · split
    · exact ⟨[], by simp⟩
    · exact ⟨[y], rfl⟩

theorem info83 : (Tryd.prog.info? 83).map (fun i => decide (i.size = 0)) = some false := by kernel_rfl
theorem sptr_ne {w : World} {c p r1 r2 : Nat} {xs ys : List (List Int)} {S E S' E' : List Nat} (hc : SlX w c r1 xs S E) (hp : SlX w p r2 ys S' E') (hne : c ≠ p) :
    (binOp .eql 57 (.pointer (some ⟨c, 0, none⟩)) (.pointer (some ⟨p, 0, none⟩))).run Tryd.prog w = .ok (.bool false) w := by
  obtain ⟨j, hj, hj2⟩ := Option.map_eq_some_iff.1 info83
  obtain ⟨_, _, _, _, hc⟩ := hc
  obtain ⟨_, _, _, _, hp⟩ := hp
  exact run_eql_ptr_other w Tryd.underlying57 hj (by simpa using hj2) (fun e => hne (congrArg Addr.block e)) hc.blk hp.blk

/-- the pool and its clone, which has more -/
structure CcX (w : World) (p c : Nat) (xs zs : List (List Int)) (S E S' E' : List Nat) (wr : World) : Prop where
  hp : SlX wr p 30 xs S E
  hc : SlX wr c 30 zs S' E'
  a1 : Apart S S'
  a2 : Apart E S'
  more : ∃ l, zs = xs ++ l
  newS : Within w [] S'
  newE : Within w [] E'
  up : Upto [] w wr
theorem CcX.ext {w wr w' : World} {p c : Nat} {xs zs : List (List Int)} {S E S' E' : List Nat} (h : CcX w p c xs zs S E S' E' wr) (hu : Upto [] wr w') : CcX w p c xs zs S E S' E' w' :=
  ⟨h.hp.upto hu (by simp) (by simp), h.hc.upto hu (by simp) (by simp), h.a1, h.a2, h.more, h.newS, h.newE, h.up.trans_ext hu⟩
theorem CcX.grow {w wr w' : World} {p c : Nat} {xs zs zs' : List (List Int)} {S E S' E' S2 E2 : List Nat} (h : CcX w p c xs zs S E S' E' wr) (hm : ∃ l, zs' = zs ++ l) (hc : SlX w' c 30 zs' S2 E2) (hs : Within wr S' S2) (he : Within wr E' E2) (hu : Upto S' wr w') : CcX w p c xs zs' S E S2 E2 w' := by
  have hz := h.up.size
  obtain ⟨l1, h1⟩ := h.more
  obtain ⟨l2, h2⟩ := hm
  exact ⟨h.hp.upto hu h.a1 h.a2, hc, (h.a1.symm.step hs h.hp.lt.1).symm, (h.a2.symm.step hs h.hp.lt.2).symm, ⟨l1 ++ l2, by rw [h2, h1, List.append_assoc]⟩, Within.next h.newS hs hz, Within.next h.newE he hz, h.up.trans hu h.newS⟩
theorem CcX.same {w wr : World} {p c : Nat} {xs zs : List (List Int)} {S E S' E' : List Nat} (h : CcX w p c xs zs S E S' E' wr) : (zs = xs ↔ zs.length = xs.length) ∧ xs.length ≤ zs.length := by
  obtain ⟨l, rfl⟩ := h.more
  refine ⟨⟨fun e => by rw [e], fun e => ?_⟩, by simp⟩
  have : l = [] := List.eq_nil_of_length_eq_zero (by simp at e; simpa using e)
  rw [this]; simp
def CcR (w : World) (p c n : Nat) (xs : List (List Int)) (S E : List Nat) (iv' : Value) (wr : World) : Prop := ∃ (i : Nat) (zs : List (List Int)) (S' E' : List Nat), i ≤ n ∧ i ≤ 15 ∧ iv' = .int .i64 i ∧ CcX w p c xs zs S E S' E' wr

set_option maxRecDepth 100000 in
set_option maxHeartbeats 3200000 in
theorem copies_walk (fa ta : Option Addr) (fc tc : Nat) (fs ts : List Value) (w : World) (hf : SlC w (.slice fa fs.length fc) fs) (hfl : fs.length ≤ 9223372036854775807) (hfe : ∀ v ∈ fs, ∃ ns, ArgI w v ns)
    (ht : SlC w (.slice ta ts.length tc) ts) (htl : ts.length ≤ 9223372036854775807) (hte : ∀ v ∈ ts, ∃ ns, ArgI w v ns) :
    Calls Tryd.prog 9 #[.slice fa fs.length fc, .slice ta ts.length tc] w fun e w' => e = .returned (.bool true) ∧ Upto [] w w' := by
  have H1 := Lib.hid (newSlices_calls 30 (by omega) w)
  have H2 := Lib.hid known_calls
  go_enter Tryd.func9, Tryd.ntmps9
  go_wp2_with fail
  refine H1.out.mono ?_
  rintro e w1 ⟨l, S0, rfl, hp0, hs0, hu1⟩
  go_wp2_with fail
  refine (H2.out _).mono ?_
  rintro e w2 ⟨rfl, hu2⟩
  have hst : CpX w l [] w2 := ⟨S0, [], hp0.upto hu2 (by simp) (by simp), hs0, Within.nil _ _, hu1.trans_ext hu2⟩
  clear H1 H2 hp0 hs0 hu1 hu2
  go_upto_block 0 with fail
  go_cut [] (fun wx => ∃ xs : List (List Int), xs.length ≤ 15 ∧ CpX w l xs wx)
  case first =>
    go_wp2_with fail
    go_loopw [7] (fun iv' wr => CpR w l fs.length iv' wr) (fun i _ => 15 - (intOf i).toNat)
    case atStart => exact ⟨0, [], by omega, by omega, by simp, rfl, hst⟩
    case round =>
      clear hst
      obtain ⟨i, xs, hi, hi15, hxl, rfl, S, E, hp, hS, hE, hup⟩ := hrel
      by_cases hlt : i < fs.length ∧ i < 15
      · obtain ⟨hl1, hl2⟩ := hlt
        rcases hf with ⟨h0, _⟩ | ⟨g, o, c, hka, hc⟩
        · rw [h0] at hl1; simp at hl1
        simp only [Value.slice.injEq] at hka
        obtain ⟨rfl, -, rfl⟩ := hka
        have hgt := List.getElem?_eq_getElem hl1
        have hk := hc i _ hgt
        obtain ⟨ns, ea, ec, hev, hes, hel, hlc, hcm, hen⟩ := hfe _ (List.mem_of_getElem? hgt)
        rw [hev] at hk
        have hgw : g < w.heap.size := World.block_lt_of_cell? w _ hk
        have hk1 := (hup.cell (p := ⟨g, o + i, none⟩) hgw (by simp)).trans hk
        have hvr := hes.ext hup
        have hrn := hup.size
        obtain ⟨i0, hi0, hz0, hz1, hz2⟩ := info_parts infoI
        clear hgt hev hc hk hfe hte ht
        unfold maxLen at hel hcm
        obtain ⟨ys, hys⟩ : ∃ ys, ys = 7 :: ns.take 10 := ⟨_, rfl⟩
        have hyl : ys.length ≤ 11 := by rw [hys]; simp; omega
        have hyl1 : 1 ≤ ys.length := by rw [hys]; simp
        have hyn : ∀ n ∈ ys, I64 n := fun n hn => by
          rw [hys] at hn
          rcases List.mem_cons.1 hn with rfl | hn
          · unfold I64; omega
          · exact hen n (List.mem_of_mem_take hn)
        have hy0 : ys[0]? = some 7 := by rw [hys]; rfl
        go_upto_region 7 with fail
        go_cut [8] (fun v wx => NewRow wr v ys wx)
        case first =>
          by_cases h10 : ns.length ≤ 10
          · have hnl : ns.take 10 = ns := List.take_of_length_le h10
            rw [hnl] at hys
            have hml : 1 + (ns.map iv).length = ys.length := by
              have := congrArg List.length hys
              simp at this ⊢
              omega
            have hmm : [Value.int .i64 7] ++ ns.map iv = ys.map iv := by rw [hys]; rfl
            have HM := Lib.hid hmm
            have HL := Lib.hid hml
            clear hys hnl hy0 hml hmm
            have b1 : (0 : Int) ≤ (ns.length : Int) := by omega
            have b2 : (ns.length : Int) ≤ (ec : Int) := by omega
            have b3 : ¬ ((10 : Int) < (ns.length : Int)) := by omega
            go_region_held3 (fun w' => w'.cell? ⟨g, o + i, none⟩ = some (.slice ea ns.length ec)) (first | go_keep | exact m0)
              (first
                | (refine step_apps _ (by rfl) (.tmp 42) (.tmp 53) 30 (by rfl) 3 i0 (.int .i64 0) 8 Tryd.underlying30 hi0 hz0 hz1 hz2 rfl (.slice (some ⟨wr.heap.size, 0, none⟩) 1 1) 1 [.int .i64 7] (by rfl) (by first | exact ownsRow_one wr _ _ | exact ownsRow_one wr.drew _ _) (.slice ea ns.length ec) (ns.map iv) (by rfl) (by first | exact hvr.ext ((Upto.refl [] wr).alloc _).drew | exact hvr.ext ((Upto.refl [] wr).drew.alloc _)) (by simp [iv, Value.oneCell']) (by unfold maxLen; simp; omega) (by simp; omega) ?_; intro qa qc w4 hg4; have hu4 : Upto [] wr w4 := (by first | exact ((Upto.refl [] wr).alloc _).drew.trans hg4.up (fun k hk => by simp [Value.ownBlock] at hk; right; omega) | exact ((Upto.refl [] wr).drew.alloc _).trans hg4.up (fun k hk => by simp [Value.ownBlock] at hk; right; omega)); have m0 := (hu4.cell (p := ⟨g, o + i, none⟩) (by simp; omega) (by simp)).trans hk1)
                | fail)
            all_goals
              rw [HL.out, HM.out] at hg4
              go_wp2_with fail
              go_meet
              exact newRow_of hg4 (by have := HL.out; simp at this; omega) hyl1 (Nat.le_refl _) (by simp) hu4
          · have hnl : (ns.take 10).length = 10 := by simp; omega
            have hv10 : SlC wr (.slice ea 10 ec) ((ns.take 10).map iv) := by
              have := slc_take hvr 10 (by omega)
              rw [hnl] at this
              exact this
            have hml : 1 + ((ns.take 10).map iv).length = ys.length := by
              have := congrArg List.length hys
              simp at this ⊢
              omega
            have hmm : [Value.int .i64 7] ++ (ns.take 10).map iv = ys.map iv := by rw [hys]; rfl
            have hm10 : ((ns.take 10).map iv).length = 10 := by simp; omega
            have h1c : ∀ u ∈ (ns.take 10).map iv, u.oneCell' = true := fun u hu => by obtain ⟨x, -, rfl⟩ := List.mem_map.1 hu; rfl
            have HM := Lib.hid hmm
            have HL := Lib.hid hml
            have HT := Lib.hid hm10
            have H1 := Lib.hid h1c
            clear hys hnl hy0 hml hmm hm10 h1c
            generalize (ns.take 10).map iv = news at *
            have b2 : (10 : Int) ≤ (ec : Int) := by omega
            have b3 : (10 : Int) < (ns.length : Int) := by omega
            go_region_held3 (fun w' => w'.cell? ⟨g, o + i, none⟩ = some (.slice ea ns.length ec)) (first | go_keep | exact m0)
              (first
                | (refine step_apps _ (by rfl) (.tmp 42) (.tmp 53) 30 (by rfl) 3 i0 (.int .i64 0) 8 Tryd.underlying30 hi0 hz0 hz1 hz2 rfl (.slice (some ⟨wr.heap.size, 0, none⟩) 1 1) 1 [.int .i64 7] (by rfl) (by first | exact ownsRow_one wr _ _ | exact ownsRow_one wr.drew _ _) (.slice ea 10 ec) news (by rfl) (by first | exact hv10.ext ((Upto.refl [] wr).alloc _).drew | exact hv10.ext ((Upto.refl [] wr).drew.alloc _)) H1.out (by have := HT.out; unfold maxLen; omega) (by have := HT.out; omega) ?_; intro qa qc w4 hg4; have hu4 : Upto [] wr w4 := (by first | exact ((Upto.refl [] wr).alloc _).drew.trans hg4.up (fun k hk => by simp [Value.ownBlock] at hk; right; omega) | exact ((Upto.refl [] wr).drew.alloc _).trans hg4.up (fun k hk => by simp [Value.ownBlock] at hk; right; omega)); have m0 := (hu4.cell (p := ⟨g, o + i, none⟩) (by simp; omega) (by simp)).trans hk1)
                | fail)
            all_goals
              rw [HL.out, HM.out] at hg4
              go_wp2_with fail
              go_meet
              exact newRow_of hg4 HL.out hyl1 (Nat.le_refl _) (by simp) hu4
        case rest =>
          obtain ⟨xg, xc, rfl, hrow, hxg, hux⟩ := hcut
          have hp1 := hp.upto hux (by simp) (by simp)
          have hup1 := hup.trans_ext hux
          obtain ⟨xs', n, hI, hn, hxl', -, -⟩ := sinternF_room (xs := xs) (y := ys) (room := 30) (by omega)
          have hSl := hp.lt.1
          have hEl := hp.lt.2
          have hxS : xg ∉ S := fun hm => by have := hSl _ hm; omega
          have hxE : xg ∉ E := fun hm => by have := hEl _ hm; omega
          have hin := sintern_calls ys (some ⟨xg, 0, none⟩) xc hp1 (SlC.of_row hrow) hyn (by omega) (fun a ha _ => by cases ha; exact hxS)
          rw [hI] at hin
          have HI := Lib.hid hin
          clear hin hI hk1 hvr hSl hEl hp hup hys
          go_wp2_with fail
          refine HI.out.mono ?_
          rintro e w3 ⟨rfl, S3, E3, hp3, hs3, he3, hu3⟩
          have hxw : xg < wc.heap.size := by
            obtain ⟨g', hg', hlt, -, -⟩ := row_form hrow hyl1
            cases hg'
            exact hlt
          have hrow3 := ownsRow_upto hrow hu3 (fun g hg => by cases hg; exact hxS)
          obtain ⟨g', hg', hx3, hc3, hf3⟩ := row_form hrow3 hyl1
          cases hg'
          replace hc3 := hc3 (iv 7) (by simp [hy0])
          have hS3 : xg ∉ S3 := fun hm => by rcases hs3 _ hm with h | h; exact hxS h; omega
          have hE3 : xg ∉ E3 := fun hm => by rcases he3 _ hm with h | h; exact hxE h; omega
          have hup3 := hup1.trans hu3 hS
          have hz1 := hup1.size
          have hS3n : Within w [] S3 := Within.next hS hs3 hz1
          have hE3n : Within w [] E3 := Within.next hE he3 hz1
          unfold iv at hc3
          have hxgw : w.heap.size ≤ xg := by omega
          have hi1 : (0 : Int) < ys.length := by omega
          clear HI hrow hrow3 hp1 hs3 he3 hu3 hup1
          go_wp2_with fail
          have hu4 : Upto [xg] w3 (w3.setCell ⟨xg, 0, none⟩ (.int .i64 8)) := (Upto.refl _ _).setCell (Or.inl (by simp)) _
          have hp4 := hp3.upto hu4 (fun k hk hm => by simp at hm; subst hm; exact hS3 hk) (fun k hk hm => by simp at hm; subst hm; exact hE3 hk)
          have hup4 := hup3.trans hu4 (fun k hk => by simp at hk; subst hk; right; exact hxgw)
          have hget := sget_in hp4 n ys hn
          refine hget.mono ?_
          rintro e w5 ⟨ra, rc, rfl, hg5⟩
          clear hget hp3 hup3 hc3 hf3 hu4 hx3
          generalize w3.setCell ⟨xg, 0, none⟩ (.int .i64 8) = w4 at *
          have hu5 : Upto [] w4 w5 := hg5.up
          have hp5 := hp4.upto hu5 (by simp) (by simp)
          obtain ⟨rg, rfl, hr5, hc5, hf5⟩ := row_form hg5.row hyl1
          replace hc5 := hc5 (iv 7) (by simp [hy0])
          unfold iv at hc5
          have hrg : w4.heap.size ≤ rg := by
            rcases hg5.own rg rfl with h | h
            · simp [Value.ownBlock] at h
            · exact h
          have hrS : rg ∉ S3 := fun hm => by have := hp4.lt.1 _ hm; omega
          have hrE : rg ∉ E3 := fun hm => by have := hp4.lt.2 _ hm; omega
          have hup5 := hup4.trans_ext hu5
          have hrw : w.heap.size ≤ rg := by have := hup4.size; omega
          clear hp4 hg5 hu5 hup4 hrg
          go_wp2_with fail
          have hu6 : Upto [rg] w5 (w5.setCell ⟨rg, 0, none⟩ (.int .i64 9)) := (Upto.refl _ _).setCell (Or.inl (by simp)) _
          have hp6 := hp5.upto hu6 (fun k hk hm => by simp at hm; subst hm; exact hrS hk) (fun k hk hm => by simp at hm; subst hm; exact hrE hk)
          have hup6 := hup5.trans hu6 (fun k hk => by simp at hk; subst hk; right; exact hrw)
          have hget := sget_in hp6 n ys hn
          refine hget.mono ?_
          rintro e w7 ⟨rb, rc7, rfl, hg7⟩
          clear hget hp5 hup5 hc5 hf5 hu6 hr5
          generalize w5.setCell ⟨rg, 0, none⟩ (.int .i64 9) = w6 at *
          have hu7 : Upto [] w6 w7 := hg7.up
          have hp7 := hp6.upto hu7 (by simp) (by simp)
          obtain ⟨rg7, rfl, -, hc7, -⟩ := row_form hg7.row hyl1
          replace hc7 := hc7 (iv 7) (by simp [hy0])
          unfold iv at hc7
          have hup7 := hup6.trans_ext hu7
          clear hp6 hg7 hu7 hup6
          go_wp2_with fail
          go_roundw
          case rel => exact ⟨i + 1, xs', by omega, by omega, by omega, by go_num, S3, E3, hp7, hS3n, hE3n, hup7⟩
          case measure => simp [intOf]; omega
      · go_wp2_with fail
        all_goals
          go_meet
          exact ⟨xs, by omega, S, E, hp, hS, hE, hup⟩
  case rest =>
    clear hst hf hfe
    obtain ⟨xs, hxl, S, E, hp, hS, hE, hup⟩ := hcut
    have hlw : l < wc.heap.size := by
      obtain ⟨_, _, _, _, hq⟩ := hp
      exact lt_of_heap hq.blk
    have HC := Lib.hid (sclone_calls hp)
    go_wp2_with fail
    refine HC.out.mono ?_
    rintro e w3 ⟨c, S1, E1, rfl, hc1, hs1, he1, hu3, hcn⟩
    have hne : c ≠ l := by omega
    have hz0 := hup.size
    have hcc : CcX w l c xs xs S E S1 E1 w3 := by
      refine ⟨hp.upto hu3 (by simp) (by simp), hc1, ?_, ?_, ⟨[], by simp⟩, ?_, ?_, hup.trans_ext hu3⟩
      · exact fun k hk hm => by
          rcases hs1 _ hm with h | h
          · cases h
          · have := hp.lt.1 _ hk; omega
      · exact fun k hk hm => by
          rcases hs1 _ hm with h | h
          · cases h
          · have := hp.lt.2 _ hk; omega
      · exact fun k hk => by
          rcases hs1 _ hk with h | h
          · cases h
          · right; omega
      · exact fun k hk => by
          rcases he1 _ hk with h | h
          · cases h
          · right; omega
    have hpe := sptr_ne hcc.hc hcc.hp hne
    have hb1 : decide (30 = 30 ∧ xs = xs) = true := by simp
    have HE1 := Lib.hid (fun w1 (hu : Upto [] w3 w1) => sequal_calls (hcc.ext hu).hc (hcc.ext hu).hp)
    have HE2 := Lib.hid (fun w1 (hu : Upto [] w3 w1) => sequal_calls (hcc.ext hu).hp (hcc.ext hu).hc)
    rw [hb1] at HE1 HE2
    have HCC := Lib.hid hcc
    clear HC hp hc1 hs1 he1 hu3 hcn hb1 hcc hup hlw hz0
    go_upto_block 2 with (first
      | (go_at_call_of 34 (Value.pointer (some ⟨c, 0, none⟩)); refine (HE1.out _ (Upto.refl _ _)).mono ?_; clear HE1; rintro e w6 ⟨rfl, hu6⟩)
      | (go_at_call_of 34 (Value.pointer (some ⟨l, 0, none⟩)); refine (HE2.out _ hu6).mono ?_; clear HE2; rintro e w7 ⟨rfl, hu7⟩)
      | (go_at_call_of 34 (Value.pointer (some ⟨l, 0, none⟩)); refine (sequal_nil l _).mono ?_; rintro e w' ⟨rfl, rfl⟩)
      | (go_at_call 27; refine (slen_calls (HCC.out.ext (hu6.trans_ext hu7)).hp).mono ?_; rintro e w' ⟨rfl, rfl⟩))
    have h7 := HCC.out.ext (hu6.trans_ext hu7)
    clear HCC hu6 hu7 hpe
    go_wp2_with fail
    go_loopw [17] (fun iv' wr => CcR w l c ts.length xs S E iv' wr) (fun i _ => 15 - (intOf i).toNat)
    case atStart => exact ⟨0, xs, S1, E1, by omega, by omega, rfl, h7⟩
    case round =>
      clear h7
      obtain ⟨i, zs, S2, E2, hi, hi15, rfl, h⟩ := hrel
      by_cases hlt : i < ts.length ∧ i < 15
      · obtain ⟨hl1, hl2⟩ := hlt
        rcases ht with ⟨h0, _⟩ | ⟨g, o, cc, hka, hcx⟩
        · rw [h0] at hl1; simp at hl1
        simp only [Value.slice.injEq] at hka
        obtain ⟨rfl, -, rfl⟩ := hka
        have hgt := List.getElem?_eq_getElem hl1
        have hk := hcx i _ hgt
        obtain ⟨ns, ea, ec, hev, hes, hel, hlc, hcm, hen⟩ := hte _ (List.mem_of_getElem? hgt)
        rw [hev] at hk
        have hgw : g < w.heap.size := World.block_lt_of_cell? w _ hk
        have hk1 := (h.up.cell (p := ⟨g, o + i, none⟩) hgw (by simp)).trans hk
        have hvr := hes.ext h.up
        have hgS : g ∉ S2 := fun hm => by
          rcases h.newS _ hm with h1 | h1
          · cases h1
          · omega
        have HS : Hid (∀ (y : List Int) a, SlC wr (.slice ea y.length ec) (y.map iv) → (∀ ad, ea = some ad → y ≠ [] → ad.block < w.heap.size) → ea = some a → y ≠ [] → a.block ∉ S2) := fun y a _ hb ha hn hm => by
          have := hb a ha hn
          rcases h.newS _ hm with h1 | h1
          · cases h1
          · omega
        clear hgt hev hcx hk hte
        unfold maxLen at hel hcm
        go_upto_region 24 with fail
        go_cut [] (fun wx => ∃ zs' S3 E3, CcX w l c xs zs' S E S3 E3 wx)
        case first =>
          by_cases h10 : ns.length ≤ 10
          · have HI : Hid (Calls Tryd.prog 26 #[.pointer (some ⟨c, 0, none⟩), .slice ea ns.length ec] wr.drew fun e w' => (∃ v, e = .returned v) ∧ ∃ zs' S3 E3, CcX w l c xs zs' S E S3 E3 w' ∧ w'.cell? ⟨g, o + i, none⟩ = some (.slice ea ns.length ec)) := by
              have hd := h.ext (Upto.refl [] wr).drew
              refine (sintern_calls ns ea ec hd.hc (hvr.ext (Upto.refl [] wr).drew) hen (by omega) (fun a ha hn => HS.out ns a hvr (slc_lt hes (by simpa using hn) |> fun f ad had _ => f ad had) ha hn)).mono ?_
              rintro e w' ⟨he, S3, E3, hc3, hs3, he3, hu3⟩
              exact ⟨⟨_, he⟩, _, S3, E3, hd.grow sinternF_more hc3 hs3 he3 hu3, (hu3.cell (p := ⟨g, o + i, none⟩) (World.block_lt_of_cell? wr.drew _ hk1) hgS).trans hk1⟩
            have b1 : (0 : Int) ≤ (ns.length : Int) := by omega
            have b2 : (ns.length : Int) ≤ (ec : Int) := by omega
            have b3 : ¬ ((10 : Int) < (ns.length : Int)) := by omega
            clear h HS hvr hes hen
            go_region_held3 (fun w' => w'.cell? ⟨g, o + i, none⟩ = some (.slice ea ns.length ec)) (first | go_keep | exact m0)
              (first | (go_at_call 26; refine HI.out.mono ?_; rintro e w3 ⟨⟨v, rfl⟩, zs', S3, E3, h3, m0⟩) | fail)
            all_goals
              go_wp2_with fail
              go_meet
              exact ⟨zs', S3, E3, h3⟩
          · have hnl : (ns.take 10).length = 10 := by simp; omega
            have hv10 := slc_take hvr 10 (by omega)
            have hw10 := slc_take hes 10 (by omega)
            have hn10 : ∀ n ∈ ns.take 10, I64 n := fun n hn => hen n (List.mem_of_mem_take hn)
            generalize ns.take 10 = y at *
            have HI : Hid (Calls Tryd.prog 26 #[.pointer (some ⟨c, 0, none⟩), .slice ea 10 ec] wr.drew fun e w' => (∃ v, e = .returned v) ∧ ∃ zs' S3 E3, CcX w l c xs zs' S E S3 E3 w' ∧ w'.cell? ⟨g, o + i, none⟩ = some (.slice ea ns.length ec)) := by
              have hd := h.ext (Upto.refl [] wr).drew
              rw [← hnl]
              refine (sintern_calls y ea ec hd.hc (hv10.ext (Upto.refl [] wr).drew) hn10 (by omega) (fun a ha hn => HS.out y a hv10 (slc_lt hw10 (by simpa using hn) |> fun f ad had _ => f ad had) ha hn)).mono ?_
              rintro e w' ⟨he, S3, E3, hc3, hs3, he3, hu3⟩
              exact ⟨⟨_, he⟩, _, S3, E3, hd.grow sinternF_more hc3 hs3 he3 hu3, (hu3.cell (p := ⟨g, o + i, none⟩) (World.block_lt_of_cell? wr.drew _ hk1) hgS).trans hk1⟩
            have b2 : (10 : Int) ≤ (ec : Int) := by omega
            have b3 : (10 : Int) < (ns.length : Int) := by omega
            clear h HS hvr hes hen hv10 hw10 hn10 hnl
            go_region_held3 (fun w' => w'.cell? ⟨g, o + i, none⟩ = some (.slice ea ns.length ec)) (first | go_keep | exact m0)
              (first | (go_at_call 26; refine HI.out.mono ?_; rintro e w3 ⟨⟨v, rfl⟩, zs', S3, E3, h3, m0⟩) | fail)
            all_goals
              go_wp2_with fail
              go_meet
              exact ⟨zs', S3, E3, h3⟩
        case rest =>
          clear h hk1 hvr HS
          obtain ⟨zs', S3, E3, h⟩ := hcut
          obtain ⟨hs1, hs2⟩ := h.same
          by_cases hz : zs' = xs
          · subst hz
            go_wp2_with fail
            refine (slen_calls h.hp).mono ?_
            rintro e w' ⟨rfl, rfl⟩
            go_wp2_with fail
            refine (sequal_calls h.hp h.hc).mono ?_
            rintro e w8 ⟨rfl, hu8⟩
            have h8 := h.ext hu8
            simp only [and_self, decide_true]
            go_wp2_with fail
            refine (slen_calls h8.hc).mono ?_
            rintro e w' ⟨rfl, rfl⟩
            go_wp2_with fail
            refine (sequal_calls h8.hc h8.hp).mono ?_
            rintro e w9 ⟨rfl, hu9⟩
            have h9 := h8.ext hu9
            simp only [and_self, decide_true]
            go_wp2_with fail
            refine (slen_calls h9.hc).mono ?_
            rintro e w' ⟨rfl, rfl⟩
            go_wp2_with fail
            go_roundw
            case rel => exact ⟨i + 1, zs', S3, E3, by omega, by omega, by go_num, h9⟩
            case measure => simp [intOf]; omega
          · have hln : ((zs'.length : Int) == xs.length) = false := by
              simp only [beq_eq_false_iff_ne, ne_eq]
              intro e
              exact hz (hs1.2 (by omega))
            have hd1 : decide (30 = 30 ∧ xs = zs') = false := by simpa using fun e => hz e.symm
            have hd2 : decide (30 = 30 ∧ zs' = xs) = false := by simpa using hz
            have K1 := Lib.hid (fun w1 (hu : Upto [] wc w1) => sequal_calls (h.ext hu).hp (h.ext hu).hc)
            have K2 := Lib.hid (fun w1 (hu : Upto [] wc w1) => sequal_calls (h.ext hu).hc (h.ext hu).hp)
            rw [hd1] at K1
            rw [hd2] at K2
            clear hd1 hd2 hz hs1 hs2
            go_wp2_with fail
            refine (slen_calls h.hp).mono ?_
            rintro e w' ⟨rfl, rfl⟩
            go_wp2_with fail
            refine (K1.out _ (Upto.refl _ _)).mono ?_
            rintro e w8 ⟨rfl, hu8⟩
            have h8 := h.ext hu8
            go_wp2_with fail
            refine (slen_calls h8.hc).mono ?_
            rintro e w' ⟨rfl, rfl⟩
            go_wp2_with fail
            refine (K2.out _ hu8).mono ?_
            rintro e w9 ⟨rfl, hu9⟩
            have h9 := h8.ext hu9
            go_wp2_with fail
            refine (slen_calls h9.hc).mono ?_
            rintro e w' ⟨rfl, rfl⟩
            go_wp2_with fail
            go_roundw
            case rel => exact ⟨i + 1, zs', S3, E3, by omega, by omega, by go_num, h9⟩
            case measure => simp [intOf]; omega
      · have hup := h.up
        go_wp2_with fail
        all_goals
          go_ret
          exact ⟨rfl, hup⟩
end Go.Proofs.YtffnkjlobflhcaaDoor
