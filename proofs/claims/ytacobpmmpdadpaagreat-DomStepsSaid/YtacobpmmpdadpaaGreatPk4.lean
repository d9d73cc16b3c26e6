/- The reference's Insert. The reference's Move. The reference's Set, Del, Text. The reference's Create. The reference's Loose and Read. The reference's Do. What the functions of package links do to linked items: each function's contract, over the links of all items as one Lean function. -/
import Derived.Test.YtacobpmmpdadpaaGreatPk3
import Derived.Deep.RegionLaw
import Derived.Deep.AppendLies
import Derived.Test.YtacobpmmpdadpaaGreatProg
import Derived.Test.YtacobpmmpdadpaaGreatPk1
set_option linter.unusedVariables false
set_option linter.unusedSimpArgs false
namespace Go.Proofs.YtacobpmmpdadpaaGreat
open Go.RowKit
section
variable {w0 w : World} {rb g cap : Nat} {xs : List RN} {d : Doc}
set_option maxHeartbeats 1000000 in
theorem ins_end (R : RefRep w0 w rb g cap xs d) (hw : d.WF) (hfew : d.nodes.length ≤ 1000000) (id up : Int) (h : noneI d id = 0) (h1 : d.has id) (h2 : d.has up) (h3 : d.has 0) (hu : d.upOf id = -1) (ha : d.under up id = false) :
    Calls Tryz.prog 36 #[.pointer (some ⟨rb, 0, none⟩), .int .i64 id, .int .i64 up, .int .i64 0] w (RStep w0 w rb (d.attach up id 0) (.int .i64 0)) := by
  have HN := Lib.hid (R.none_is h)
  have HR := Lib.hid R
  have HUD := Lib.hid fun W (hW : Grow w W) => under_r (R.grow hW) hw up id (.inr h2) (hw.nn h1)
  obtain ⟨iu, x1, _, _, _, _, _, _, _, _, _, HU⟩ := R.rd h2
  obtain ⟨ib, x2, _, _, _, _, _, _, _, _, _, HB⟩ := R.rd h3
  obtain ⟨i, x, hi, hn, hc, hp, hcu, _, _, _, _, HI⟩ := R.rd h1
  have H1 := Lib.hid h1
  have H2 := Lib.hid h2
  have H3 := Lib.hid h3
  rw [hu] at hcu
  rw [ha] at HUD
  have HS := Lib.hid hw.sorted
  have hkl : (d.kidsOf up).length ≤ 1000000 := Nat.le_trans (kids_len hw up) hfew
  have HKL := Lib.hid hkl
  have hatt : d.attach up id 0 = (d.mod up fun n => { n with kids := inL (d.kidsOf up) id 0 }).mod id fun n => { n with up := up } := by
    have hm : (d.mod up fun n => { n with kids := inL n.kids id 0 }) = d.mod up fun n => { n with kids := inL (d.kidsOf up) id 0 } := mod_congr fun n hn e => by rw [← e, kids_mem hw.sorted hn]
    unfold Doc.attach
    rw [hm]
  have HATT := Lib.hid hatt
  clear R h h1 h2 h3 ha hw hu hkl hatt
  go_enter Tryz.func36, Tryz.ntmps36
  go_wp2_with first
    | (go_at_call 62; refine HN.out.mono ?_; rintro e w' ⟨rfl, rfl⟩)
    | (go_at_call_of 63 up; refine (HU.out _ ?hg).mono ?_; (case hg => exact Below.refl _ _); rintro e w' ⟨rfl, rfl⟩)
    | (go_at_call_of 63 (0 : Int); refine (HB.out _ ?hg).mono ?_; (case hg => exact Below.refl _ _); rintro e w' ⟨rfl, rfl⟩)
  go_quiet ((go_at_call 63; exact quiet1_same (HI.out _ (Grow.drewN _ _))))
  go_wp2_with (go_at_call 64; refine (HUD.out _ ?hg).mono ?_; (case hg => exact Grow.drewN _ _); rintro e w2 ⟨rfl, hg2⟩; have HG2 := Lib.hid (Grow.trans' (Grow.drewN _ _) hg2); clear hg2; obtain ⟨ib2, x2, hi2, hn2, hc2, hp2, hcb2, _, _, _, _, HB2⟩ := (HR.out.grow HG2.out).rd H3.out)
  go_quiet ((go_at_call 63; exact quiet1_same (HB2.out _ (Grow.drewN _ _))))
  go_wp2
  have hg3 : Grow w (w2.drewN nq) := grow_drewN HG2.out nq
  clear hp2 hcb2 HB2
  generalize w2.drewN nq = w3 at *
  obtain ⟨iu3, x3, hi3, hn3, hc3, hp3, _, hk3, _, HK3, _, HU3⟩ := (HR.out.grow hg3).rd H2.out
  obtain ⟨A3, c3, hkv3, _, hr3⟩ := HK3.out
  rw [hkv3] at hk3
  have hin := fun W (hW : Grow w3 W) => in_r (d.kidsOf up) id 0 W (Imm w0.heap.size tsA w3) A3 c3 (hr3.imp (fun _ _ _ h => h) (fun _ h => h) fun b hb _ => hW.block b hb.1) HKL.out
  have hkd := fun W0 W A m c (hW : Grow w3 W) hK => kids_new (HR.out.grow hg3) HS.out up H2.out (inL (d.kidsOf up) id 0) W0 W A m c hW hK
  have HIN := Lib.hid hin
  have HKD := Lib.hid hkd
  have HG3 := Lib.hid hg3
  clear hr3 hkv3 hin hkd hg3 HK3
  generalize (d.kidsOf up).length = kl at *
  go_region_with first
    | (go_at_call 63; refine (HU3.out _ ?hg).mono ?_; (case hg => repeat (first | exact Below.refl _ _ | apply grow_drew)); rintro e w4 ⟨rfl, rfl⟩)
    | (go_at_call 66; refine (HIN.out _ ?hg).mono ?_; (case hg => repeat (first | exact Below.refl _ _ | apply grow_drew)); rintro e w4 ⟨v4, rfl, hv4, hg4⟩; obtain ⟨A4, c4, rfl, hl4, hr4⟩ := hv4; have HV4 := Lib.hid (show RdV EInt 1 w4 (New _ w4 3) _ _ from ⟨A4, c4, rfl, hl4, hr4⟩); have HG4 := Lib.hid hg4; clear hg4 hl4 hr4)
    | (go_at_call 65; refine (HKD.out _ _ _ _ _ ?hg HV4.out).mono ?_; (case hg => exact Grow.trans' (by repeat (first | exact Below.refl _ _ | apply grow_drew)) HG4.out); rintro e w5 ⟨rfl, hra, hf5⟩; obtain ⟨g5, cap5, xs5, R5⟩ := hra; have HG34 := Lib.hid (show Grow w w4 from Grow.trans' HG3.out (Grow.trans' (by repeat (first | exact Below.refl _ _ | apply grow_drew)) HG4.out)); have HF5 := Lib.hid hf5; have HR5 := Lib.hid R5; clear hf5 R5)
  all_goals (obtain ⟨i5, hi5, hn5, hc5, hp5, hfz5, ⟨u5, hu5⟩, HI5, HW5⟩ := HR5.out.wr (sorted_mod HS.out fun _ => rfl) (id := id) (has_of_mod H1.out fun _ => rfl) 1 (by omega) (fun n => { n with up := up }) (.int .i64 up) (fun x n hx => ⟨{ x with up := up }, rfl, ⟨hx.id, rfl, hx.tag, hx.key, hx.text, hx.kids, hx.attrs⟩⟩))
  all_goals go_wp2
  all_goals go_region_with (go_at_call 63; refine (HI5.out _ ?hg).mono ?_; (case hg => repeat (first | exact Below.refl _ _ | apply grow_drew)); rintro e w6 ⟨rfl, rfl⟩)
  all_goals go_wp2
  all_goals go_ret
  all_goals exact ⟨rfl, by rw [HATT.out]; exact (HW5.out _ (by repeat (first | exact Below.refl _ _ | apply grow_drew))).1, ((Fr.of_grow HG34.out).trans HF5.out).trans (HW5.out _ (by repeat (first | exact Below.refl _ _ | apply grow_drew))).2⟩
set_option maxHeartbeats 1000000 in
theorem ins_mid (R : RefRep w0 w rb g cap xs d) (hw : d.WF) (hfew : d.nodes.length ≤ 1000000) (id up before : Int) (h : noneI d id = 0) (h1 : d.has id) (h2 : d.has up) (h3 : d.has before) (hu : d.upOf id = -1) (ha : d.under up id = false) (hb : before ≠ 0) (hbu : d.upOf before = up) :
    Calls Tryz.prog 36 #[.pointer (some ⟨rb, 0, none⟩), .int .i64 id, .int .i64 up, .int .i64 before] w (RStep w0 w rb (d.attach up id before) (.int .i64 0)) := by
  have HN := Lib.hid (R.none_is h)
  have HR := Lib.hid R
  have HUD := Lib.hid fun W (hW : Grow w W) => under_r (R.grow hW) hw up id (.inr h2) (hw.nn h1)
  obtain ⟨iu, x1, _, _, _, _, _, _, _, _, _, HU⟩ := R.rd h2
  obtain ⟨ib, x2, _, _, _, _, _, _, _, _, _, HB⟩ := R.rd h3
  obtain ⟨i, x, hi, hn, hc, hp, hcu, _, _, _, _, HI⟩ := R.rd h1
  have H1 := Lib.hid h1
  have H2 := Lib.hid h2
  have H3 := Lib.hid h3
  rw [hu] at hcu
  rw [ha] at HUD
  have HS := Lib.hid hw.sorted
  have hkl : (d.kidsOf up).length ≤ 1000000 := Nat.le_trans (kids_len hw up) hfew
  have HKL := Lib.hid hkl
  have hatt : d.attach up id before = (d.mod up fun n => { n with kids := inL (d.kidsOf up) id before }).mod id fun n => { n with up := up } := by
    have hm : (d.mod up fun n => { n with kids := inL n.kids id before }) = d.mod up fun n => { n with kids := inL (d.kidsOf up) id before } := mod_congr fun n hn e => by rw [← e, kids_mem hw.sorted hn]
    unfold Doc.attach
    rw [hm]
  have HATT := Lib.hid hatt
  clear R h h1 h2 h3 ha hw hu hkl hatt
  have hb0 : (before != 0) = true := by simpa using hb
  have hb1 : (d.upOf before != up) = false := by simpa using hbu
  have hb2 : (before == 0) = false := by simpa using hb
  go_enter Tryz.func36, Tryz.ntmps36
  go_wp2_with first
    | (go_at_call 62; refine HN.out.mono ?_; rintro e w' ⟨rfl, rfl⟩)
    | (go_at_call_of 63 up; refine (HU.out _ ?hg).mono ?_; (case hg => exact Below.refl _ _); rintro e w' ⟨rfl, rfl⟩)
    | (go_at_call_of 63 before; refine (HB.out _ ?hg).mono ?_; (case hg => exact Below.refl _ _); rintro e w' ⟨rfl, rfl⟩)
  go_quiet ((go_at_call 63; exact quiet1_same (HI.out _ (Grow.drewN _ _))))
  go_wp2_with (go_at_call 64; refine (HUD.out _ ?hg).mono ?_; (case hg => exact Grow.drewN _ _); rintro e w2 ⟨rfl, hg2⟩; have HG2 := Lib.hid (Grow.trans' (Grow.drewN _ _) hg2); clear hg2; obtain ⟨ib2, x2, hi2, hn2, hc2, hp2, hcb2, _, _, _, _, HB2⟩ := (HR.out.grow HG2.out).rd H3.out)
  go_quiet ((go_at_call 63; exact quiet1_same (HB2.out _ (Grow.drewN _ _))))
  go_wp2
  have hg3 : Grow w (w2.drewN nq) := grow_drewN HG2.out nq
  clear hp2 hcb2 HB2
  generalize w2.drewN nq = w3 at *
  obtain ⟨iu3, x3, hi3, hn3, hc3, hp3, _, hk3, _, HK3, _, HU3⟩ := (HR.out.grow hg3).rd H2.out
  obtain ⟨A3, c3, hkv3, _, hr3⟩ := HK3.out
  rw [hkv3] at hk3
  have hin := fun W (hW : Grow w3 W) => in_r (d.kidsOf up) id before W (Imm w0.heap.size tsA w3) A3 c3 (hr3.imp (fun _ _ _ h => h) (fun _ h => h) fun b hb _ => hW.block b hb.1) HKL.out
  have hkd := fun W0 W A m c (hW : Grow w3 W) hK => kids_new (HR.out.grow hg3) HS.out up H2.out (inL (d.kidsOf up) id before) W0 W A m c hW hK
  have HIN := Lib.hid hin
  have HKD := Lib.hid hkd
  have HG3 := Lib.hid hg3
  clear hr3 hkv3 hin hkd hg3 HK3
  generalize (d.kidsOf up).length = kl at *
  go_region_with first
    | (go_at_call 63; refine (HU3.out _ ?hg).mono ?_; (case hg => repeat (first | exact Below.refl _ _ | apply grow_drew)); rintro e w4 ⟨rfl, rfl⟩)
    | (go_at_call 66; refine (HIN.out _ ?hg).mono ?_; (case hg => repeat (first | exact Below.refl _ _ | apply grow_drew)); rintro e w4 ⟨v4, rfl, hv4, hg4⟩; obtain ⟨A4, c4, rfl, hl4, hr4⟩ := hv4; have HV4 := Lib.hid (show RdV EInt 1 w4 (New _ w4 3) _ _ from ⟨A4, c4, rfl, hl4, hr4⟩); have HG4 := Lib.hid hg4; clear hg4 hl4 hr4)
    | (go_at_call 65; refine (HKD.out _ _ _ _ _ ?hg HV4.out).mono ?_; (case hg => exact Grow.trans' (by repeat (first | exact Below.refl _ _ | apply grow_drew)) HG4.out); rintro e w5 ⟨rfl, hra, hf5⟩; obtain ⟨g5, cap5, xs5, R5⟩ := hra; have HG34 := Lib.hid (show Grow w w4 from Grow.trans' HG3.out (Grow.trans' (by repeat (first | exact Below.refl _ _ | apply grow_drew)) HG4.out)); have HF5 := Lib.hid hf5; have HR5 := Lib.hid R5; clear hf5 R5)
  all_goals (obtain ⟨i5, hi5, hn5, hc5, hp5, hfz5, ⟨u5, hu5⟩, HI5, HW5⟩ := HR5.out.wr (sorted_mod HS.out fun _ => rfl) (id := id) (has_of_mod H1.out fun _ => rfl) 1 (by omega) (fun n => { n with up := up }) (.int .i64 up) (fun x n hx => ⟨{ x with up := up }, rfl, ⟨hx.id, rfl, hx.tag, hx.key, hx.text, hx.kids, hx.attrs⟩⟩))
  all_goals go_wp2
  all_goals go_region_with (go_at_call 63; refine (HI5.out _ ?hg).mono ?_; (case hg => repeat (first | exact Below.refl _ _ | apply grow_drew)); rintro e w6 ⟨rfl, rfl⟩)
  all_goals go_wp2
  all_goals go_ret
  all_goals exact ⟨rfl, by rw [HATT.out]; exact (HW5.out _ (by repeat (first | exact Below.refl _ _ | apply grow_drew))).1, ((Fr.of_grow HG34.out).trans HF5.out).trans (HW5.out _ (by repeat (first | exact Below.refl _ _ | apply grow_drew))).2⟩
theorem insert_r (R : RefRep w0 w rb g cap xs d) (hw : d.WF) (hfew : d.nodes.length ≤ 1000000) (id up before : Int) :
    Calls Tryz.prog 36 #[.pointer (some ⟨rb, 0, none⟩), .int .i64 id, .int .i64 up, .int .i64 before] w (RStep w0 w rb (d.insertD id up before).2 (.int .i64 (d.insertD id up before).1)) := by
  unfold Doc.insertD
  by_cases h0 : id = 0
  · rw [if_pos h0]
    exact insert_none R id up before 14 (by unfold noneI; rw [if_pos h0]) (by decide)
  rw [if_neg h0]
  by_cases h1 : d.has id
  · rw [if_neg (by simpa using h1)]
    have hn : noneI d id = 0 := by unfold noneI; rw [if_neg h0, if_neg (by simpa using h1)]
    by_cases h2 : ¬ d.has up ∨ ¬ d.has before
    · rw [if_pos h2]
      exact insert_far R id up before hn h2
    rw [if_neg h2]
    have hu : d.has up := by by_cases h : d.has up; exact h; exact absurd (.inl h) h2
    have hb : d.has before := by by_cases h : d.has before; exact h; exact absurd (.inr h) h2
    by_cases h3 : d.upOf id = -1
    · rw [if_neg (by simpa using h3)]
      by_cases h4 : d.Anc up id
      · rw [if_pos h4]
        exact insert_below R hw id up before hn h1 hu hb h3 (Doc.under_iff.2 h4)
      rw [if_neg h4]
      have h4' : d.under up id = false := by rw [Bool.eq_false_iff, ne_eq, Doc.under_iff]; exact h4
      by_cases h5 : before = 0
      · rw [if_neg (fun h => h.1 h5)]
        subst h5
        exact ins_end R hw hfew id up hn h1 hu hb h3 h4'
      · by_cases h6 : d.upOf before = up
        · rw [if_neg (fun h => h.2 h6)]
          exact ins_mid R hw hfew id up before hn h1 hu hb h3 h4' h5 h6
        · rw [if_pos ⟨h5, h6⟩]
          exact insert_place R hw id up before hn h1 hu hb h3 h4' h5 h6
    · rw [if_pos h3]
      have : 0 ≤ d.upOf id := by
        rcases hw.up id h1 with h | h
        · exact absurd h h3
        · exact hw.nn h
      exact insert_tied R id up before hn h1 hu hb this
  · rw [if_pos h1]
    exact insert_none R id up before 13 (by unfold noneI; rw [if_neg h0, if_pos h1]) (by decide)
end
end Go.Proofs.YtacobpmmpdadpaaGreat
set_option linter.unusedVariables false
set_option linter.unusedSimpArgs false
namespace Go.Proofs.YtacobpmmpdadpaaGreat
open Go.RowKit
section
variable {w0 w : World} {rb g cap : Nat} {xs : List RN} {d : Doc}
theorem move_none (R : RefRep w0 w rb g cap xs d) (id before c : Int) (h : noneI d id = c) (h0 : c ≠ 0) :
    Calls Tryz.prog 37 #[.pointer (some ⟨rb, 0, none⟩), .int .i64 id, .int .i64 before] w (RStep w0 w rb d (.int .i64 c)) := by
  have HN := Lib.hid (R.none_is h)
  have HF := Lib.hid (RStep.same R c (Below.refl _ _))
  clear R h
  have hb : (c == 0) = false := by simpa using h0
  go_enter Tryz.func37, Tryz.ntmps37
  go_wp2_with (go_at_call 62; refine HN.out.mono ?_; rintro e w' ⟨rfl, rfl⟩)
  go_ret
  exact HF.out
theorem move_far (R : RefRep w0 w rb g cap xs d) (id before : Int) (h : noneI d id = 0) (hu : ¬ d.has before) :
    Calls Tryz.prog 37 #[.pointer (some ⟨rb, 0, none⟩), .int .i64 id, .int .i64 before] w (RStep w0 w rb d (.int .i64 13)) := by
  have HN := Lib.hid (R.none_is h)
  have HF := Lib.hid (RStep.same R 13 (Below.refl _ _))
  have HB := Lib.hid (R.at_none hu)
  clear R h hu
  go_enter Tryz.func37, Tryz.ntmps37
  go_wp2_with first
    | (go_at_call 62; refine HN.out.mono ?_; rintro e w' ⟨rfl, rfl⟩)
    | (go_at_call 63; refine HB.out.mono ?_; rintro e w' ⟨rfl, rfl⟩)
  go_ret
  exact HF.out
theorem move_free (R : RefRep w0 w rb g cap xs d) (id before : Int) (h : noneI d id = 0) (h1 : d.has id) (h3 : d.has before) (hu : d.upOf id = -1) :
    Calls Tryz.prog 37 #[.pointer (some ⟨rb, 0, none⟩), .int .i64 id, .int .i64 before] w (RStep w0 w rb d (.int .i64 16)) := by
  have HN := Lib.hid (R.none_is h)
  have HR := Lib.hid R
  obtain ⟨ib, x2, _, _, _, _, _, _, _, _, _, HB⟩ := R.rd h3
  obtain ⟨i, x, hi, hn, hc, hp, hcu, _, _, _, _, HI⟩ := R.rd h1
  have H1 := Lib.hid h1
  have H3 := Lib.hid h3
  rw [hu] at hcu
  have HF := Lib.hid fun W hW => RStep.same R 16 (W := W) hW
  clear R h h1 h3 hu
  go_enter Tryz.func37, Tryz.ntmps37
  go_wp2_with first
    | (go_at_call 62; refine HN.out.mono ?_; rintro e w' ⟨rfl, rfl⟩)
    | (go_at_call_of 63 before; refine (HB.out _ ?hg).mono ?_; (case hg => exact Below.refl _ _); rintro e w' ⟨rfl, rfl⟩)
  go_quiet ((go_at_call 63; exact quiet1_same (HI.out _ (Grow.drewN _ _))))
  go_wp2
  go_ret
  exact HF.out _ (Grow.drewN _ _)
theorem move_self (R : RefRep w0 w rb g cap xs d) (id : Int) (h : noneI d id = 0) (h1 : d.has id) (hu : 0 ≤ d.upOf id) :
    Calls Tryz.prog 37 #[.pointer (some ⟨rb, 0, none⟩), .int .i64 id, .int .i64 id] w (RStep w0 w rb d (.int .i64 18)) := by
  have HN := Lib.hid (R.none_is h)
  obtain ⟨i, x, hi, hn, hc, hp, hcu, _, _, _, _, HI⟩ := R.rd h1
  have HF := Lib.hid fun W hW => RStep.same R 18 (W := W) hW
  clear R h h1
  generalize d.upOf id = up at *
  go_enter Tryz.func37, Tryz.ntmps37
  go_wp2_with first
    | (go_at_call 62; refine HN.out.mono ?_; rintro e w' ⟨rfl, rfl⟩)
    | (go_at_call 63; refine (HI.out _ ?hg).mono ?_; (case hg => exact Below.refl _ _); rintro e w' ⟨rfl, rfl⟩)
  go_quiet ((go_at_call 63; exact quiet1_same (HI.out _ (Grow.drewN _ _))))
  go_wp2
  go_quiet (fail)
  go_wp2
  go_ret
  exact HF.out _ (grow_drewN (Grow.drewN _ _) _)
theorem move_place (R : RefRep w0 w rb g cap xs d) (id before : Int) (h : noneI d id = 0) (h1 : d.has id) (h3 : d.has before) (hu : 0 ≤ d.upOf id) (hb : before ≠ 0) (hbi : before ≠ id) (hbu : d.upOf before ≠ d.upOf id) :
    Calls Tryz.prog 37 #[.pointer (some ⟨rb, 0, none⟩), .int .i64 id, .int .i64 before] w (RStep w0 w rb d (.int .i64 18)) := by
  have HN := Lib.hid (R.none_is h)
  have HR := Lib.hid R
  obtain ⟨ib, x2, _, _, _, _, _, _, _, _, _, HB⟩ := R.rd h3
  obtain ⟨i, x, hi, hn, hc, hp, hcu, _, _, _, _, HI⟩ := R.rd h1
  have H1 := Lib.hid h1
  have H3 := Lib.hid h3
  have HF := Lib.hid fun W hW => RStep.same R 18 (W := W) hW
  obtain ⟨ib2, x2, hi2, hn2, hc2, hp2, hcb2, _, _, _, _, HB2⟩ := R.rd h3
  clear R h h1 h3
  generalize d.upOf before = ub at *
  generalize d.upOf id = up at *
  have hb0 : (before != 0) = true := by simpa using hb
  have hb1 : (ub != up) = true := by simpa using hbu
  have hb2 : (before == id) = false := by simpa using hbi
  go_enter Tryz.func37, Tryz.ntmps37
  go_wp2_with first
    | (go_at_call 62; refine HN.out.mono ?_; rintro e w' ⟨rfl, rfl⟩)
    | (go_at_call_of 63 before; refine (HB.out _ ?hg).mono ?_; (case hg => exact Below.refl _ _); rintro e w' ⟨rfl, rfl⟩)
  go_quiet ((go_at_call 63; exact quiet1_same (HI.out _ (Grow.drewN _ _))))
  go_wp2
  go_quiet ((go_at_call 63; exact quiet2_same (HB2.out _ (Grow.drewN _ _))))
  go_wp2
  go_ret
  exact HF.out _ (by repeat (first | exact Below.refl _ _ | apply grow_drewN))
theorem move_eq (hw : d.WF) {id before up : Int} (hup : d.upOf id = up) (h1 : d.has id) (hu : up ≠ -1) : (d.detach id).attach up id before = d.mod up fun n => { n with kids := inL (outL (d.kidsOf up) id) id before } := by
  have hne : up ≠ id := fun e => by
    obtain ⟨rk, hr⟩ := hw.rank
    have := hr id h1 (by rw [hup]; exact hu)
    rw [hup, e] at this
    omega
  unfold Doc.detach Doc.attach Doc.mod
  rw [hup]
  congr 1
  simp only [List.map_map]
  refine List.map_congr_left fun n hn => ?_
  simp only [Function.comp]
  by_cases e1 : n.id = up
  · have e2 : ¬ n.id = id := fun e => hne (e1.symm.trans e)
    have e3 : d.kidsOf up = n.kids := by rw [← e1]; exact kids_mem hw.sorted hn
    have e4 : ¬ up = id := hne
    simp [e1, e4, e3]
  · by_cases e2 : n.id = id
    · have e3 : n.up = up := by
        have := upOf_pos (Doc.get_of_mem hw.sorted hn)
        rw [e2, hup] at this
        exact this.symm
      obtain ⟨nid, nup, nk, nt, nky, ntx, na⟩ := n
      simp only at e1 e2 e3
      subst e2 e3
      simp [e1]
    · simp [e1, e2]
set_option maxHeartbeats 1000000 in
theorem mov_end (R : RefRep w0 w rb g cap xs d) (hw : d.WF) (hfew : d.nodes.length ≤ 1000000) (id up : Int) (h : noneI d id = 0) (h1 : d.has id) (h2 : d.has up) (h3 : d.has 0) (hu0 : 0 ≤ up) (hup : d.upOf id = up) (hbi : (0 : Int) ≠ id) :
    Calls Tryz.prog 37 #[.pointer (some ⟨rb, 0, none⟩), .int .i64 id, .int .i64 0] w (RStep w0 w rb ((d.detach id).attach up id 0) (.int .i64 0)) := by
  have HN := Lib.hid (R.none_is h)
  have HR := Lib.hid R
  obtain ⟨ib, x2, _, _, _, _, _, _, _, _, _, HB⟩ := R.rd h3
  obtain ⟨i, x, hi, hn, hc, hp, hcu, _, _, _, _, HI⟩ := R.rd h1
  have H1 := Lib.hid h1
  have H3 := Lib.hid h3
  rw [hup] at hcu
  have HS := Lib.hid hw.sorted
  have H2 := Lib.hid h2
  have hkl : (d.kidsOf up).length ≤ 1000000 := Nat.le_trans (kids_len hw up) hfew
  have HKL := Lib.hid hkl
  have HATT := Lib.hid (move_eq hw (before := (0 : Int)) hup h1 (by omega))
  clear R h h1 h2 h3 hw hup hkl
  have hb2 : ((0 : Int) == id) = false := by simpa using hbi
  go_enter Tryz.func37, Tryz.ntmps37
  go_wp2_with first
    | (go_at_call 62; refine HN.out.mono ?_; rintro e w' ⟨rfl, rfl⟩)
    | (go_at_call_of 63 (0 : Int); refine (HB.out _ ?hg).mono ?_; (case hg => exact Below.refl _ _); rintro e w' ⟨rfl, rfl⟩)
  go_quiet ((go_at_call 63; exact quiet1_same (HI.out _ (Grow.drewN _ _))))
  go_wp2
  have hgn : Grow w (w.drewN nq) := Grow.drewN w nq
  generalize w.drewN nq = w2 at *
  obtain ⟨ib2, x2, hi2, hn2, hc2, hp2, hcb2, _, _, _, _, HB2⟩ := (HR.out.grow hgn).rd H3.out
  go_quiet (fail)
  go_wp2
  have hg3 : Grow w (w2.drewN nq) := grow_drewN hgn nq
  clear hp2 hcb2 HB2
  generalize w2.drewN nq = w3 at *
  obtain ⟨iu3, x3, hi3, hn3, hc3, hp3, _, hk3, _, HK3, _, HU3⟩ := (HR.out.grow hg3).rd H2.out
  obtain ⟨A3, c3, hkv3, _, hr3⟩ := HK3.out
  rw [hkv3] at hk3
  have hout := fun W (hW : Grow w3 W) => out_r (d.kidsOf up) id W (Imm w0.heap.size tsA w3) A3 c3 (hr3.imp (fun _ _ _ h => h) (fun _ h => h) fun b hb _ => hW.block b hb.1) HKL.out
  have hkd := fun W0 W A m c (hW : Grow w3 W) hK => kids_new (HR.out.grow hg3) HS.out up H2.out (inL (outL (d.kidsOf up) id) id 0) W0 W A m c hW hK
  have HOU := Lib.hid hout
  have HKD := Lib.hid hkd
  have HG3 := Lib.hid hg3
  have hkl2 : (outL (d.kidsOf up) id).length ≤ 1000000 := Nat.le_trans (List.length_filter_le _ _) HKL.out
  have HKL2 := Lib.hid hkl2
  clear hr3 hkv3 hout hkd hg3 HK3 hkl2
  generalize (d.kidsOf up).length = kl at *
  go_region_with first
    | (go_at_call 63; refine (HU3.out _ ?hg).mono ?_; (case hg => repeat (first | exact Below.refl _ _ | apply grow_drew)); rintro e w4 ⟨rfl, rfl⟩)
    | (go_at_call 67; refine (HOU.out _ ?hg).mono ?_; (case hg => repeat (first | exact Below.refl _ _ | apply grow_drew)); rintro e w4 ⟨v4, rfl, hv4, hg4⟩; obtain ⟨A4, c4, rfl, hl4, hr4⟩ := hv4; have HV4 := Lib.hid hr4; have HG4 := Lib.hid (Grow.trans' (show Grow w3 _ by repeat (first | exact Below.refl _ _ | apply grow_drew)) hg4); clear hg4 hl4 hr4)
    | (go_at_call 66; refine (in_r (outL (d.kidsOf up) id) id 0 w4 _ A4 c4 HV4.out HKL2.out).mono ?_; rintro e w5 ⟨v5, rfl, hv5, hg5⟩; obtain ⟨A5, c5, rfl, hl5, hr5⟩ := hv5; have HV5 := Lib.hid (show RdV EInt 1 w5 (New _ w5 3) _ _ from ⟨A5, c5, rfl, hl5, hr5⟩); have HG5 := Lib.hid (Grow.trans' HG4.out hg5); clear hg5 hl5 hr5)
    | (go_at_call 65; refine (HKD.out _ _ _ _ _ HG5.out HV5.out).mono ?_; rintro e w6 ⟨rfl, hra, hf5⟩; have HF6 := Lib.hid hf5; have HR6 := Lib.hid hra; clear hf5 hra)
  all_goals go_wp2
  all_goals go_ret
  all_goals exact ⟨rfl, by rw [HATT.out]; exact HR6.out.grow (by repeat (first | exact Below.refl _ _ | apply grow_drew)), ((Fr.of_grow (Grow.trans' HG3.out HG5.out)).trans HF6.out).trans (Fr.of_grow (by repeat (first | exact Below.refl _ _ | apply grow_drew)))⟩
set_option maxHeartbeats 1000000 in
theorem mov_mid (R : RefRep w0 w rb g cap xs d) (hw : d.WF) (hfew : d.nodes.length ≤ 1000000) (id before up : Int) (h : noneI d id = 0) (h1 : d.has id) (h2 : d.has up) (h3 : d.has before) (hu0 : 0 ≤ up) (hup : d.upOf id = up) (hb : before ≠ 0) (hbi : before ≠ id) (hbu : d.upOf before = up) :
    Calls Tryz.prog 37 #[.pointer (some ⟨rb, 0, none⟩), .int .i64 id, .int .i64 before] w (RStep w0 w rb ((d.detach id).attach up id before) (.int .i64 0)) := by
  have HN := Lib.hid (R.none_is h)
  have HR := Lib.hid R
  obtain ⟨ib, x2, _, _, _, _, _, _, _, _, _, HB⟩ := R.rd h3
  obtain ⟨i, x, hi, hn, hc, hp, hcu, _, _, _, _, HI⟩ := R.rd h1
  have H1 := Lib.hid h1
  have H3 := Lib.hid h3
  rw [hup] at hcu
  have HS := Lib.hid hw.sorted
  have H2 := Lib.hid h2
  have hkl : (d.kidsOf up).length ≤ 1000000 := Nat.le_trans (kids_len hw up) hfew
  have HKL := Lib.hid hkl
  have HATT := Lib.hid (move_eq hw (before := before) hup h1 (by omega))
  clear R h h1 h2 h3 hw hup hkl
  have hb0 : (before != 0) = true := by simpa using hb
  have hb1 : (d.upOf before != up) = false := by simpa using hbu
  have hb2 : (before == id) = false := by simpa using hbi
  go_enter Tryz.func37, Tryz.ntmps37
  go_wp2_with first
    | (go_at_call 62; refine HN.out.mono ?_; rintro e w' ⟨rfl, rfl⟩)
    | (go_at_call_of 63 before; refine (HB.out _ ?hg).mono ?_; (case hg => exact Below.refl _ _); rintro e w' ⟨rfl, rfl⟩)
  go_quiet ((go_at_call 63; exact quiet1_same (HI.out _ (Grow.drewN _ _))))
  go_wp2
  have hgn : Grow w (w.drewN nq) := Grow.drewN w nq
  generalize w.drewN nq = w2 at *
  obtain ⟨ib2, x2, hi2, hn2, hc2, hp2, hcb2, _, _, _, _, HB2⟩ := (HR.out.grow hgn).rd H3.out
  go_quiet ((go_at_call 63; exact quiet1_same (HB2.out _ (Grow.drewN _ _))))
  go_wp2
  have hg3 : Grow w (w2.drewN nq) := grow_drewN hgn nq
  clear hp2 hcb2 HB2
  generalize w2.drewN nq = w3 at *
  obtain ⟨iu3, x3, hi3, hn3, hc3, hp3, _, hk3, _, HK3, _, HU3⟩ := (HR.out.grow hg3).rd H2.out
  obtain ⟨A3, c3, hkv3, _, hr3⟩ := HK3.out
  rw [hkv3] at hk3
  have hout := fun W (hW : Grow w3 W) => out_r (d.kidsOf up) id W (Imm w0.heap.size tsA w3) A3 c3 (hr3.imp (fun _ _ _ h => h) (fun _ h => h) fun b hb _ => hW.block b hb.1) HKL.out
  have hkd := fun W0 W A m c (hW : Grow w3 W) hK => kids_new (HR.out.grow hg3) HS.out up H2.out (inL (outL (d.kidsOf up) id) id before) W0 W A m c hW hK
  have HOU := Lib.hid hout
  have HKD := Lib.hid hkd
  have HG3 := Lib.hid hg3
  have hkl2 : (outL (d.kidsOf up) id).length ≤ 1000000 := Nat.le_trans (List.length_filter_le _ _) HKL.out
  have HKL2 := Lib.hid hkl2
  clear hr3 hkv3 hout hkd hg3 HK3 hkl2
  generalize (d.kidsOf up).length = kl at *
  go_region_with first
    | (go_at_call 63; refine (HU3.out _ ?hg).mono ?_; (case hg => repeat (first | exact Below.refl _ _ | apply grow_drew)); rintro e w4 ⟨rfl, rfl⟩)
    | (go_at_call 67; refine (HOU.out _ ?hg).mono ?_; (case hg => repeat (first | exact Below.refl _ _ | apply grow_drew)); rintro e w4 ⟨v4, rfl, hv4, hg4⟩; obtain ⟨A4, c4, rfl, hl4, hr4⟩ := hv4; have HV4 := Lib.hid hr4; have HG4 := Lib.hid (Grow.trans' (show Grow w3 _ by repeat (first | exact Below.refl _ _ | apply grow_drew)) hg4); clear hg4 hl4 hr4)
    | (go_at_call 66; refine (in_r (outL (d.kidsOf up) id) id before w4 _ A4 c4 HV4.out HKL2.out).mono ?_; rintro e w5 ⟨v5, rfl, hv5, hg5⟩; obtain ⟨A5, c5, rfl, hl5, hr5⟩ := hv5; have HV5 := Lib.hid (show RdV EInt 1 w5 (New _ w5 3) _ _ from ⟨A5, c5, rfl, hl5, hr5⟩); have HG5 := Lib.hid (Grow.trans' HG4.out hg5); clear hg5 hl5 hr5)
    | (go_at_call 65; refine (HKD.out _ _ _ _ _ HG5.out HV5.out).mono ?_; rintro e w6 ⟨rfl, hra, hf5⟩; have HF6 := Lib.hid hf5; have HR6 := Lib.hid hra; clear hf5 hra)
  all_goals go_wp2
  all_goals go_ret
  all_goals exact ⟨rfl, by rw [HATT.out]; exact HR6.out.grow (by repeat (first | exact Below.refl _ _ | apply grow_drew)), ((Fr.of_grow (Grow.trans' HG3.out HG5.out)).trans HF6.out).trans (Fr.of_grow (by repeat (first | exact Below.refl _ _ | apply grow_drew)))⟩
theorem move_r (R : RefRep w0 w rb g cap xs d) (hw : d.WF) (hfew : d.nodes.length ≤ 1000000) (id before : Int) :
    Calls Tryz.prog 37 #[.pointer (some ⟨rb, 0, none⟩), .int .i64 id, .int .i64 before] w (RStep w0 w rb (d.moveD id before).2 (.int .i64 (d.moveD id before).1)) := by
  unfold Doc.moveD
  by_cases h0 : id = 0
  · rw [if_pos h0]
    exact move_none R id before 14 (by unfold noneI; rw [if_pos h0]) (by decide)
  rw [if_neg h0]
  by_cases h1 : d.has id
  · rw [if_neg (by simpa using h1)]
    have hn : noneI d id = 0 := by unfold noneI; rw [if_neg h0, if_neg (by simpa using h1)]
    by_cases hb : d.has before
    · rw [if_neg (by simpa using hb)]
      by_cases h3 : d.upOf id = -1
      · rw [if_pos h3]
        exact move_free R id before hn h1 hb h3
      · rw [if_neg h3]
        have hu : d.has (d.upOf id) := (hw.up id h1).resolve_left h3
        have hu0 := hw.nn hu
        by_cases h4 : before = id
        · rw [if_pos (.inl h4)]
          subst h4
          exact move_self R before hn h1 hu0
        · by_cases h5 : before = 0
          · rw [if_neg (by intro h; rcases h with h | h; exact h4 h; exact h.1 h5)]
            subst h5
            exact mov_end R hw hfew id _ hn h1 hu hb hu0 rfl h4
          · by_cases h6 : d.upOf before = d.upOf id
            · rw [if_neg (by intro h; rcases h with h | h; exact h4 h; exact h.2 h6)]
              exact mov_mid R hw hfew id before _ hn h1 hu hb hu0 rfl h5 h4 h6
            · rw [if_pos (.inr ⟨h5, h6⟩)]
              exact move_place R id before hn h1 hb hu0 h5 h4 h6
    · rw [if_pos hb]
      exact move_far R id before hn hb
  · rw [if_pos h1]
    exact move_none R id before 13 (by unfold noneI; rw [if_neg h0, if_pos h1]) (by decide)
end
end Go.Proofs.YtacobpmmpdadpaaGreat
set_option linter.unusedVariables false
set_option linter.unusedSimpArgs false
namespace Go.Proofs.YtacobpmmpdadpaaGreat
open Go.RowKit
section
variable {w0 w : World} {rb g cap : Nat} {xs : List RN} {d : Doc}
theorem attrsOf_pos {d : Doc} {x : Int} {n : Nd} (h : d.get x = some n) : d.attrsOf x = n.attrs := by unfold Doc.attrsOf; rw [h]; rfl
theorem attrs_mem (hs : (d.nodes.map (·.id)).Pairwise (· < ·)) {n : Nd} (hn : n ∈ d.nodes) : d.attrsOf n.id = n.attrs := attrsOf_pos (Doc.get_of_mem hs hn)
theorem set_none (R : RefRep w0 w rb g cap xs d) (id : Int) (name value : ByteArray) (c : Int) (h : noneI d id = c) (h0 : c ≠ 0) :
    Calls Tryz.prog 39 #[.pointer (some ⟨rb, 0, none⟩), .int .i64 id, .string name, .string value] w (RStep w0 w rb d (.int .i64 c)) := by
  have HN := Lib.hid (R.none_is h)
  have HF := Lib.hid (RStep.same R c (Below.refl _ _))
  clear R h
  have hb : (c == 0) = false := by simpa using h0
  go_enter Tryz.func39, Tryz.ntmps39
  go_wp2_with (go_at_call 62; refine HN.out.mono ?_; rintro e w' ⟨rfl, rfl⟩)
  go_ret
  exact HF.out
theorem set_name (R : RefRep w0 w rb g cap xs d) (id : Int) (name value : ByteArray) (hnm : name.size ≤ 9223372036854775807) (h : noneI d id = 0) (hb : named name true = false) :
    Calls Tryz.prog 39 #[.pointer (some ⟨rb, 0, none⟩), .int .i64 id, .string name, .string value] w (RStep w0 w rb d (.int .i64 8)) := by
  have HN := Lib.hid (R.none_is h)
  have HF := Lib.hid (RStep.same R 8 (Below.refl _ _))
  have HM := Lib.hid (ref_named name true w hnm)
  rw [hb] at HM
  clear R h hb
  go_enter Tryz.func39, Tryz.ntmps39
  go_wp2_with first
    | (go_at_call 62; refine HN.out.mono ?_; rintro e w' ⟨rfl, rfl⟩)
    | (go_at_call 60; refine HM.out.mono ?_; rintro e w' ⟨rfl, rfl⟩)
  go_ret
  exact HF.out
theorem set_long (R : RefRep w0 w rb g cap xs d) (id : Int) (name value : ByteArray) (hnm : name.size ≤ 9223372036854775807) (h : noneI d id = 0) (hb : named name true = true) (hv : 65536 < value.size) :
    Calls Tryz.prog 39 #[.pointer (some ⟨rb, 0, none⟩), .int .i64 id, .string name, .string value] w (RStep w0 w rb d (.int .i64 3)) := by
  have HN := Lib.hid (R.none_is h)
  have HF := Lib.hid (RStep.same R 3 (Below.refl _ _))
  have HM := Lib.hid (ref_named name true w hnm)
  rw [hb] at HM
  clear R h hb
  have hv1 : (65536 : Int) < value.size := by omega
  go_enter Tryz.func39, Tryz.ntmps39
  go_wp2_with first
    | (go_at_call 62; refine HN.out.mono ?_; rintro e w' ⟨rfl, rfl⟩)
    | (go_at_call 60; refine HM.out.mono ?_; rintro e w' ⟨rfl, rfl⟩)
  go_ret
  exact HF.out
theorem set_many (R : RefRep w0 w rb g cap xs d) (id : Int) (name value : ByteArray) (hnm : name.size ≤ 9223372036854775807) (h : noneI d id = 0) (h1 : d.has id) (hb : named name true = true) (hv : value.size ≤ 65536) (hsz : SizedA (d.attrsOf id)) (hat : (d.attrsOf id).length ≤ 64) (hm : 64 < (withA (d.attrsOf id) name value).length) :
    Calls Tryz.prog 39 #[.pointer (some ⟨rb, 0, none⟩), .int .i64 id, .string name, .string value] w (RStep w0 w rb d (.int .i64 12)) := by
  have HN := Lib.hid (R.none_is h)
  have HR := Lib.hid R
  have HM := Lib.hid (ref_named name true w hnm)
  rw [hb] at HM
  obtain ⟨i, x, hi, hn, hc, hp, _, _, hk, _, HK, HI⟩ := R.rd h1
  obtain ⟨A3, c3, hkv3, _, hr3⟩ := HK.out
  rw [hkv3] at hk
  have hwith := fun W (hW : Grow w W) => with_r (d.attrsOf id) name value W (Imm w0.heap.size tsA w) A3 c3 (hr3.imp (fun _ _ _ h => h) (fun _ h => h) fun b hb _ => hW.block b hb.1) hsz hnm (by omega)
  have HWI := Lib.hid hwith
  have hv1 : ¬ (65536 : Int) < value.size := by omega
  have HF := Lib.hid fun W hW => RStep.same R 12 (W := W) hW
  clear R h h1 hb hr3 hkv3 HK hwith
  have hm1 : (64 : Int) < ((withA (d.attrsOf id) name value).length : Int) := by omega
  clear hm
  generalize withA (d.attrsOf id) name value = L at *
  generalize hLm : L.length = m at *
  go_enter Tryz.func39, Tryz.ntmps39
  go_wp2_with first
    | (go_at_call 62; refine HN.out.mono ?_; rintro e w' ⟨rfl, rfl⟩)
    | (go_at_call 60; refine HM.out.mono ?_; rintro e w' ⟨rfl, rfl⟩)
  go_region_with first
    | (go_at_call 63; refine (HI.out _ ?hg).mono ?_; (case hg => repeat (first | exact Below.refl _ _ | apply grow_drew)); rintro e w4 ⟨rfl, rfl⟩)
    | (go_at_call 68; refine (HWI.out _ ?hg).mono ?_; (case hg => repeat (first | exact Below.refl _ _ | apply grow_drew)); rintro e w4 ⟨v4, rfl, hv4, hg4⟩; obtain ⟨A4, c4, rfl, hl4, hr4⟩ := hv4; have HV4 := Lib.hid (show RdV EAt 2 w4 (New _ w4 48) _ _ from ⟨A4, c4, rfl, hl4, hr4⟩); have HG4 := Lib.hid (Grow.trans' (show Grow w _ by repeat (first | exact Below.refl _ _ | apply grow_drew)) hg4); clear hg4 hl4 hr4)
  all_goals go_wp2
  all_goals (try go_ret)
  all_goals exact HF.out _ (by repeat (first | exact HG4.out | apply grow_drew))
set_option maxHeartbeats 1000000 in
theorem set_ok (R : RefRep w0 w rb g cap xs d) (hs : (d.nodes.map (·.id)).Pairwise (· < ·)) (id : Int) (name value : ByteArray) (hnm : name.size ≤ 9223372036854775807) (h : noneI d id = 0) (h1 : d.has id) (hb : named name true = true) (hv : value.size ≤ 65536) (hsz : SizedA (d.attrsOf id)) (hat : (d.attrsOf id).length ≤ 64) (hm : (withA (d.attrsOf id) name value).length ≤ 64) :
    Calls Tryz.prog 39 #[.pointer (some ⟨rb, 0, none⟩), .int .i64 id, .string name, .string value] w (RStep w0 w rb (d.mod id fun n => { n with attrs := withA n.attrs name value }) (.int .i64 0)) := by
  have HN := Lib.hid (R.none_is h)
  have HR := Lib.hid R
  have HM := Lib.hid (ref_named name true w hnm)
  rw [hb] at HM
  obtain ⟨i, x, hi, hn, hc, hp, _, _, hk, _, HK, HI⟩ := R.rd h1
  obtain ⟨A3, c3, hkv3, _, hr3⟩ := HK.out
  rw [hkv3] at hk
  have hwith := fun W (hW : Grow w W) => with_r (d.attrsOf id) name value W (Imm w0.heap.size tsA w) A3 c3 (hr3.imp (fun _ _ _ h => h) (fun _ h => h) fun b hb _ => hW.block b hb.1) hsz hnm (by omega)
  have HWI := Lib.hid hwith
  have hv1 : ¬ (65536 : Int) < value.size := by omega
  have hmod : (d.mod id fun n => { n with attrs := withA n.attrs name value }) = d.mod id fun n => { n with attrs := withA (d.attrsOf id) name value } := mod_congr fun n hn e => by rw [← e, attrs_mem hs hn]
  rw [hmod]
  have hwr := fun W A m c (hW : Grow w W) (hK : RdV EAt 2 W (Imm w0.heap.size tsA W) (.slice A m c) (withA (d.attrsOf id) name value)) => (R.grow hW).wr hs h1 6 (by omega) (fun n => { n with attrs := withA (d.attrsOf id) name value }) (.slice A m c) (fun x n hx => ⟨{ x with av := .slice A m c }, rfl, ⟨hx.id, hx.up, hx.tag, hx.key, hx.text, hx.kids, hK⟩⟩)
  have HWR := Lib.hid hwr
  clear R h h1 hb hr3 hkv3 HK hwith hwr hmod
  have hm1 : ¬ (64 : Int) < ((withA (d.attrsOf id) name value).length : Int) := by omega
  generalize withA (d.attrsOf id) name value = L at *
  generalize hLm : L.length = m at *
  go_enter Tryz.func39, Tryz.ntmps39
  go_wp2_with first
    | (go_at_call 62; refine HN.out.mono ?_; rintro e w' ⟨rfl, rfl⟩)
    | (go_at_call 60; refine HM.out.mono ?_; rintro e w' ⟨rfl, rfl⟩)
  go_region_with first
    | (go_at_call 63; refine (HI.out _ ?hg).mono ?_; (case hg => repeat (first | exact Below.refl _ _ | apply grow_drew)); rintro e w4 ⟨rfl, rfl⟩)
    | (go_at_call 68; refine (HWI.out _ ?hg).mono ?_; (case hg => repeat (first | exact Below.refl _ _ | apply grow_drew)); rintro e w4 ⟨v4, rfl, hv4, hg4⟩; obtain ⟨A4, c4, rfl, hl4, hr4⟩ := hv4; have HV4 := Lib.hid (show RdV EAt 2 w4 (New _ w4 48) _ _ from ⟨A4, c4, rfl, hl4, hr4⟩); have HG4 := Lib.hid (Grow.trans' (show Grow w _ by repeat (first | exact Below.refl _ _ | apply grow_drew)) hg4); clear hg4 hl4 hr4)
  all_goals (obtain ⟨i5, hi5, hn5, hc5, hp5, hfz5, ⟨u5, hu5⟩, HI5, HW5⟩ := HWR.out _ _ _ _ HG4.out (HV4.out.imp (fun _ _ _ h => h) (fun b hb => hb.imm (by decide)) (fun b _ _ => rfl)))
  all_goals go_wp2
  all_goals go_region_with (go_at_call 63; refine (HI5.out _ ?hg).mono ?_; (case hg => repeat (first | exact Below.refl _ _ | apply grow_drew)); rintro e w6 ⟨rfl, rfl⟩)
  all_goals go_wp2
  all_goals go_ret
  all_goals exact ⟨rfl, (HW5.out _ (by (try rw [hLm]); repeat (first | exact Below.refl _ _ | apply grow_drew))).1, (Fr.of_grow HG4.out).trans (HW5.out _ (by (try rw [hLm]); repeat (first | exact Below.refl _ _ | apply grow_drew))).2⟩
theorem set_r (R : RefRep w0 w rb g cap xs d) (hw : d.WF) (id : Int) (hsz : SizedA (d.attrsOf id)) (name value : ByteArray) (hnm : name.size ≤ 9223372036854775807) :
    Calls Tryz.prog 39 #[.pointer (some ⟨rb, 0, none⟩), .int .i64 id, .string name, .string value] w (RStep w0 w rb (d.setD id name value).2 (.int .i64 (d.setD id name value).1)) := by
  unfold Doc.setD
  by_cases h0 : id = 0
  · rw [if_pos h0]
    exact set_none R id name value 14 (by unfold noneI; rw [if_pos h0]) (by decide)
  rw [if_neg h0]
  by_cases h1 : d.has id
  · rw [if_neg (by simpa using h1)]
    have hn : noneI d id = 0 := by unfold noneI; rw [if_neg h0, if_neg (by simpa using h1)]
    by_cases h2 : named name true = false
    · rw [if_pos h2]
      exact set_name R id name value hnm hn h2
    rw [if_neg h2]
    have h2' : named name true = true := by simpa using h2
    by_cases h3 : 65536 < value.size
    · rw [if_pos h3]
      exact set_long R id name value hnm hn h2' h3
    rw [if_neg h3]
    by_cases h4 : 64 < (withA (d.attrsOf id) name value).length
    · rw [if_pos h4]
      exact set_many R id name value hnm hn h1 h2' (by omega) hsz (Doc.attrsOf_le hw id) h4
    · rw [if_neg h4]
      exact set_ok R hw.sorted id name value hnm hn h1 h2' (by omega) hsz (Doc.attrsOf_le hw id) (by omega)
  · rw [if_pos h1]
    exact set_none R id name value 13 (by unfold noneI; rw [if_neg h0, if_pos h1]) (by decide)
theorem del_none (R : RefRep w0 w rb g cap xs d) (id : Int) (name : ByteArray) (c : Int) (h : noneI d id = c) (h0 : c ≠ 0) :
    Calls Tryz.prog 40 #[.pointer (some ⟨rb, 0, none⟩), .int .i64 id, .string name] w (RStep w0 w rb d (.int .i64 c)) := by
  have HN := Lib.hid (R.none_is h)
  have HF := Lib.hid (RStep.same R c (Below.refl _ _))
  clear R h
  have hb : (c == 0) = false := by simpa using h0
  go_enter Tryz.func40, Tryz.ntmps40
  go_wp2_with (go_at_call 62; refine HN.out.mono ?_; rintro e w' ⟨rfl, rfl⟩)
  go_ret
  exact HF.out
theorem del_miss (R : RefRep w0 w rb g cap xs d) (id : Int) (name : ByteArray) (h : noneI d id = 0) (h1 : d.has id) (hat : (d.attrsOf id).length ≤ 64) (hm : decide ((withoutA (d.attrsOf id) name).length < (d.attrsOf id).length) = false) :
    Calls Tryz.prog 40 #[.pointer (some ⟨rb, 0, none⟩), .int .i64 id, .string name] w (RStep w0 w rb d (.int .i64 8)) := by
  have HN := Lib.hid (R.none_is h)
  have HR := Lib.hid R
  obtain ⟨i, x, hi, hn, hc, hp, _, _, hk, _, HK, HI⟩ := R.rd h1
  obtain ⟨A3, c3, hkv3, _, hr3⟩ := HK.out
  rw [hkv3] at hk
  have hwith := fun W (hW : Grow w W) => without_r (d.attrsOf id) name W (Imm w0.heap.size tsA w) A3 c3 (hr3.imp (fun _ _ _ h => h) (fun _ h => h) fun b hb _ => hW.block b hb.1) (by omega)
  rw [hm] at hwith
  have HWI := Lib.hid hwith
  have HF := Lib.hid fun W hW => RStep.same R 8 (W := W) hW
  clear R h h1 hr3 hkv3 HK hwith hm
  generalize withoutA (d.attrsOf id) name = L at *
  generalize hLm : L.length = m at *
  go_enter Tryz.func40, Tryz.ntmps40
  go_wp2_with (go_at_call 62; refine HN.out.mono ?_; rintro e w' ⟨rfl, rfl⟩)
  go_region_with first
    | (go_at_call 63; refine (HI.out _ ?hg).mono ?_; (case hg => repeat (first | exact Below.refl _ _ | apply grow_drew)); rintro e w4 ⟨rfl, rfl⟩)
    | (go_at_call 69; refine (HWI.out _ ?hg).mono ?_; (case hg => repeat (first | exact Below.refl _ _ | apply grow_drew)); rintro e w4 ⟨v4, rfl, hv4, hg4⟩; obtain ⟨A4, c4, rfl, hl4, hr4⟩ := hv4; have HV4 := Lib.hid (show RdV EAt 2 w4 (New _ w4 48) _ _ from ⟨A4, c4, rfl, hl4, hr4⟩); have HG4 := Lib.hid (Grow.trans' (show Grow w _ by repeat (first | exact Below.refl _ _ | apply grow_drew)) hg4); clear hg4 hl4 hr4)
  all_goals go_wp2
  all_goals (try go_ret)
  all_goals exact HF.out _ (by repeat (first | exact HG4.out | apply grow_drew))
set_option maxHeartbeats 1000000 in
theorem del_ok (R : RefRep w0 w rb g cap xs d) (hs : (d.nodes.map (·.id)).Pairwise (· < ·)) (id : Int) (name : ByteArray) (h : noneI d id = 0) (h1 : d.has id) (hat : (d.attrsOf id).length ≤ 64) (hm : decide ((withoutA (d.attrsOf id) name).length < (d.attrsOf id).length) = true) :
    Calls Tryz.prog 40 #[.pointer (some ⟨rb, 0, none⟩), .int .i64 id, .string name] w (RStep w0 w rb (d.mod id fun n => { n with attrs := withoutA n.attrs name }) (.int .i64 0)) := by
  have HN := Lib.hid (R.none_is h)
  have HR := Lib.hid R
  obtain ⟨i, x, hi, hn, hc, hp, _, _, hk, _, HK, HI⟩ := R.rd h1
  obtain ⟨A3, c3, hkv3, _, hr3⟩ := HK.out
  rw [hkv3] at hk
  have hwith := fun W (hW : Grow w W) => without_r (d.attrsOf id) name W (Imm w0.heap.size tsA w) A3 c3 (hr3.imp (fun _ _ _ h => h) (fun _ h => h) fun b hb _ => hW.block b hb.1) (by omega)
  rw [hm] at hwith
  have HWI := Lib.hid hwith
  have hmod : (d.mod id fun n => { n with attrs := withoutA n.attrs name }) = d.mod id fun n => { n with attrs := withoutA (d.attrsOf id) name } := mod_congr fun n hn e => by rw [← e, attrs_mem hs hn]
  rw [hmod]
  have hwr := fun W A m c (hW : Grow w W) (hK : RdV EAt 2 W (Imm w0.heap.size tsA W) (.slice A m c) (withoutA (d.attrsOf id) name)) => (R.grow hW).wr hs h1 6 (by omega) (fun n => { n with attrs := withoutA (d.attrsOf id) name }) (.slice A m c) (fun x n hx => ⟨{ x with av := .slice A m c }, rfl, ⟨hx.id, hx.up, hx.tag, hx.key, hx.text, hx.kids, hK⟩⟩)
  have HWR := Lib.hid hwr
  clear R h h1 hr3 hkv3 HK hwith hwr hmod hm
  generalize withoutA (d.attrsOf id) name = L at *
  generalize hLm : L.length = m at *
  go_enter Tryz.func40, Tryz.ntmps40
  go_wp2_with (go_at_call 62; refine HN.out.mono ?_; rintro e w' ⟨rfl, rfl⟩)
  go_region_with first
    | (go_at_call 63; refine (HI.out _ ?hg).mono ?_; (case hg => repeat (first | exact Below.refl _ _ | apply grow_drew)); rintro e w4 ⟨rfl, rfl⟩)
    | (go_at_call 69; refine (HWI.out _ ?hg).mono ?_; (case hg => repeat (first | exact Below.refl _ _ | apply grow_drew)); rintro e w4 ⟨v4, rfl, hv4, hg4⟩; obtain ⟨A4, c4, rfl, hl4, hr4⟩ := hv4; have HV4 := Lib.hid (show RdV EAt 2 w4 (New _ w4 48) _ _ from ⟨A4, c4, rfl, hl4, hr4⟩); have HG4 := Lib.hid (Grow.trans' (show Grow w _ by repeat (first | exact Below.refl _ _ | apply grow_drew)) hg4); clear hg4 hl4 hr4)
  all_goals (obtain ⟨i5, hi5, hn5, hc5, hp5, hfz5, ⟨u5, hu5⟩, HI5, HW5⟩ := HWR.out _ _ _ _ HG4.out (HV4.out.imp (fun _ _ _ h => h) (fun b hb => hb.imm (by decide)) (fun b _ _ => rfl)))
  all_goals go_wp2
  all_goals go_region_with (go_at_call 63; refine (HI5.out _ ?hg).mono ?_; (case hg => repeat (first | exact Below.refl _ _ | apply grow_drew)); rintro e w6 ⟨rfl, rfl⟩)
  all_goals go_wp2
  all_goals go_ret
  all_goals exact ⟨rfl, (HW5.out _ (by (try rw [hLm]); repeat (first | exact Below.refl _ _ | apply grow_drew))).1, (Fr.of_grow HG4.out).trans (HW5.out _ (by (try rw [hLm]); repeat (first | exact Below.refl _ _ | apply grow_drew))).2⟩
theorem del_r (R : RefRep w0 w rb g cap xs d) (hw : d.WF) (id : Int) (name : ByteArray) :
    Calls Tryz.prog 40 #[.pointer (some ⟨rb, 0, none⟩), .int .i64 id, .string name] w (RStep w0 w rb (d.delD id name).2 (.int .i64 (d.delD id name).1)) := by
  unfold Doc.delD
  by_cases h0 : id = 0
  · rw [if_pos h0]
    exact del_none R id name 14 (by unfold noneI; rw [if_pos h0]) (by decide)
  rw [if_neg h0]
  by_cases h1 : d.has id
  · rw [if_neg (by simpa using h1)]
    have hn : noneI d id = 0 := by unfold noneI; rw [if_neg h0, if_neg (by simpa using h1)]
    by_cases h4 : (withoutA (d.attrsOf id) name).length < (d.attrsOf id).length
    · rw [if_neg (by simpa using h4)]
      exact del_ok R hw.sorted id name hn h1 (Doc.attrsOf_le hw id) (decide_eq_true h4)
    · rw [if_pos h4]
      exact del_miss R id name hn h1 (Doc.attrsOf_le hw id) (decide_eq_false h4)
  · rw [if_pos h1]
    exact del_none R id name 13 (by unfold noneI; rw [if_neg h0, if_pos h1]) (by decide)
theorem text_none (R : RefRep w0 w rb g cap xs d) (id : Int) (s : ByteArray) (c : Int) (h : noneI d id = c) (h0 : c ≠ 0) :
    Calls Tryz.prog 41 #[.pointer (some ⟨rb, 0, none⟩), .int .i64 id, .string s] w (RStep w0 w rb d (.int .i64 c)) := by
  have HN := Lib.hid (R.none_is h)
  have HF := Lib.hid (RStep.same R c (Below.refl _ _))
  clear R h
  have hb : (c == 0) = false := by simpa using h0
  go_enter Tryz.func41, Tryz.ntmps41
  go_wp2_with (go_at_call 62; refine HN.out.mono ?_; rintro e w' ⟨rfl, rfl⟩)
  go_ret
  exact HF.out
theorem text_long (R : RefRep w0 w rb g cap xs d) (id : Int) (s : ByteArray) (h : noneI d id = 0) (hv : 65536 < s.size) :
    Calls Tryz.prog 41 #[.pointer (some ⟨rb, 0, none⟩), .int .i64 id, .string s] w (RStep w0 w rb d (.int .i64 3)) := by
  have HN := Lib.hid (R.none_is h)
  have HF := Lib.hid (RStep.same R 3 (Below.refl _ _))
  clear R h
  have hv1 : (65536 : Int) < s.size := by omega
  go_enter Tryz.func41, Tryz.ntmps41
  go_wp2_with (go_at_call 62; refine HN.out.mono ?_; rintro e w' ⟨rfl, rfl⟩)
  go_ret
  exact HF.out
theorem text_ok (R : RefRep w0 w rb g cap xs d) (hs : (d.nodes.map (·.id)).Pairwise (· < ·)) (id : Int) (s : ByteArray) (h : noneI d id = 0) (h1 : d.has id) (hv : s.size ≤ 65536) :
    Calls Tryz.prog 41 #[.pointer (some ⟨rb, 0, none⟩), .int .i64 id, .string s] w (RStep w0 w rb (d.mod id fun n => { n with text := s }) (.int .i64 0)) := by
  have HN := Lib.hid (R.none_is h)
  obtain ⟨i5, hi5, hn5, hc5, hp5, hfz5, ⟨u5, hu5⟩, HI5, HW5⟩ := R.wr hs h1 5 (by omega) (fun n => { n with text := s }) (.string s) (fun x n hx => ⟨{ x with text := s }, rfl, ⟨hx.id, hx.up, hx.tag, hx.key, rfl, hx.kids, hx.attrs⟩⟩)
  clear R h
  have hv1 : ¬ (65536 : Int) < s.size := by omega
  go_enter Tryz.func41, Tryz.ntmps41
  go_wp2_with (go_at_call 62; refine HN.out.mono ?_; rintro e w' ⟨rfl, rfl⟩)
  all_goals go_region_with (go_at_call 63; refine (HI5.out _ ?hg).mono ?_; (case hg => repeat (first | exact Below.refl _ _ | apply grow_drew)); rintro e w6 ⟨rfl, rfl⟩)
  all_goals go_wp2
  all_goals go_ret
  all_goals exact ⟨rfl, (HW5.out _ (by repeat (first | exact Below.refl _ _ | apply grow_drew))).1, (HW5.out _ (by repeat (first | exact Below.refl _ _ | apply grow_drew))).2⟩
theorem text_r (R : RefRep w0 w rb g cap xs d) (hw : d.WF) (id : Int) (s : ByteArray) :
    Calls Tryz.prog 41 #[.pointer (some ⟨rb, 0, none⟩), .int .i64 id, .string s] w (RStep w0 w rb (d.textD id s).2 (.int .i64 (d.textD id s).1)) := by
  unfold Doc.textD
  by_cases h0 : id = 0
  · rw [if_pos h0]
    exact text_none R id s 14 (by unfold noneI; rw [if_pos h0]) (by decide)
  rw [if_neg h0]
  by_cases h1 : d.has id
  · rw [if_neg (by simpa using h1)]
    have hn : noneI d id = 0 := by unfold noneI; rw [if_neg h0, if_neg (by simpa using h1)]
    by_cases h4 : 65536 < s.size
    · rw [if_pos h4]
      exact text_long R id s hn h4
    · rw [if_neg h4]
      exact text_ok R hw.sorted id s hn h1 (by omega)
  · rw [if_pos h1]
    exact text_none R id s 13 (by unfold noneI; rw [if_neg h0, if_pos h1]) (by decide)
end
end Go.Proofs.YtacobpmmpdadpaaGreat
set_option linter.unusedVariables false
set_option linter.unusedSimpArgs false
namespace Go.Proofs.YtacobpmmpdadpaaGreat
open Go.RowKit
theorem infoN : (Tryz.prog.info? 69).map (fun i => (i.zero, i.size, i.bytes)) = some (some (.agg #[.int .i64 0, .int .i64 0, .slice none 0 0, .string ⟨#[]⟩, .string ⟨#[]⟩, .string ⟨#[]⟩, .slice none 0 0]), 7, 112) := by kernel_rfl
theorem RStep.same' {w0 w W : World} {rb g cap : Nat} {xs : List RN} {d : Doc} (R : RefRep w0 w rb g cap xs d) (v : Value) (hW : Grow w W) : RStep w0 w rb d v (.returned v) W := ⟨rfl, ⟨g, cap, xs, R.grow hW⟩, Fr.of_grow hW⟩
section
variable {w0 w : World} {rb g cap : Nat} {xs : List RN} {d : Doc}
theorem create_tag (R : RefRep w0 w rb g cap xs d) (tag key text : ByteArray) (l : List At) (A : Option Addr) (c : Nat) (ht : tag.size ≤ 9223372036854775807) (h1 : named tag false = false) :
    Calls Tryz.prog 35 #[.pointer (some ⟨rb, 0, none⟩), .string tag, .string key, .string text, .slice A l.length c] w (RStep w0 w rb d (.tuple #[.int .i64 0, .int .i64 7])) := by
  have HF := Lib.hid (RStep.same' R (.tuple #[.int .i64 0, .int .i64 7]) (Below.refl _ _))
  have HM := Lib.hid (ref_named tag false w ht)
  rw [h1] at HM
  clear R h1
  go_enter Tryz.func35, Tryz.ntmps35
  go_wp2_with (go_at_call 60; refine HM.out.mono ?_; rintro e w' ⟨rfl, rfl⟩)
  go_ret2
  exact HF.out
theorem create_long (R : RefRep w0 w rb g cap xs d) (tag key text : ByteArray) (l : List At) (A : Option Addr) (c : Nat) (ht : tag.size ≤ 9223372036854775807) (h1 : named tag false = true) (h2 : 65536 < key.size ∨ 65536 < text.size) :
    Calls Tryz.prog 35 #[.pointer (some ⟨rb, 0, none⟩), .string tag, .string key, .string text, .slice A l.length c] w (RStep w0 w rb d (.tuple #[.int .i64 0, .int .i64 3])) := by
  have HF := Lib.hid (RStep.same' R (.tuple #[.int .i64 0, .int .i64 3]) (Below.refl _ _))
  have HM := Lib.hid (ref_named tag false w ht)
  rw [h1] at HM
  clear R h1
  by_cases h3 : 65536 < key.size
  · have h4 : (65536 : Int) < key.size := by omega
    clear h2
    go_enter Tryz.func35, Tryz.ntmps35
    go_wp2_with (go_at_call 60; refine HM.out.mono ?_; rintro e w' ⟨rfl, rfl⟩)
    go_ret2
    exact HF.out
  · have h4 : ¬ (65536 : Int) < key.size := by omega
    have h5 : (65536 : Int) < text.size := by omega
    clear h2
    go_enter Tryz.func35, Tryz.ntmps35
    go_wp2_with (go_at_call 60; refine HM.out.mono ?_; rintro e w' ⟨rfl, rfl⟩)
    go_ret2
    exact HF.out
theorem create_bad (R : RefRep w0 w rb g cap xs d) (tag key text : ByteArray) (l : List At) (ok : Nat → Prop) (A : Option Addr) (c : Nat) (hl : Rd EAt 2 w ok A l) (hs : SizedA l) (ht : tag.size ≤ 9223372036854775807) (h1 : named tag false = true) (h2 : key.size ≤ 65536) (h3 : text.size ≤ 65536) (h4 : (checkA l).2 ≠ 0) :
    Calls Tryz.prog 35 #[.pointer (some ⟨rb, 0, none⟩), .string tag, .string key, .string text, .slice A l.length c] w (RStep w0 w rb d (.tuple #[.int .i64 0, .int .i64 (checkA l).2])) := by
  have HF := Lib.hid fun W hW => RStep.same' R (.tuple #[.int .i64 0, .int .i64 (checkA l).2]) (W := W) hW
  have HM := Lib.hid (ref_named tag false w ht)
  rw [h1] at HM
  have HC := Lib.hid (check_r l w ok A c hl hs)
  have h5 : ((checkA l).2 == 0) = false := by simpa using h4
  have h6 : ¬ (65536 : Int) < key.size := by omega
  have h7 : ¬ (65536 : Int) < text.size := by omega
  clear R h1 hl hs
  generalize (checkA l).2 = e2 at *
  generalize (checkA l).1 = e1 at *
  generalize l.length = n at *
  go_enter Tryz.func35, Tryz.ntmps35
  go_wp2_with first
    | (go_at_call 60; refine HM.out.mono ?_; rintro e w' ⟨rfl, rfl⟩)
    | (go_at_call 61; refine HC.out.mono ?_; rintro e w' ⟨rfl, hg⟩; have HG := Lib.hid hg; clear hg)
  go_ret2
  exact HF.out _ HG.out
theorem create_last (R : RefRep w0 w rb g cap xs d) (tag key text : ByteArray) (l : List At) (ok : Nat → Prop) (A : Option Addr) (c : Nat) (hl : Rd EAt 2 w ok A l) (hs : SizedA l) (ht : tag.size ≤ 9223372036854775807) (h1 : named tag false = true) (h2 : key.size ≤ 65536) (h3 : text.size ≤ 65536) (h4 : (checkA l).2 = 0) (h5 : 4294967295 < d.next) :
    Calls Tryz.prog 35 #[.pointer (some ⟨rb, 0, none⟩), .string tag, .string key, .string text, .slice A l.length c] w (RStep w0 w rb d (.tuple #[.int .i64 0, .int .i64 21])) := by
  have HF := Lib.hid fun W hW => RStep.same' R (.tuple #[.int .i64 0, .int .i64 21]) (W := W) hW
  have HM := Lib.hid (ref_named tag false w ht)
  rw [h1] at HM
  have HC := Lib.hid (check_r l w ok A c hl hs)
  rw [h4] at HC
  have H1 := Lib.hid fun W (hW : Grow w W) => (R.grow hW).p1
  have h6 : ¬ (65536 : Int) < key.size := by omega
  have h7 : ¬ (65536 : Int) < text.size := by omega
  clear R h1 hl hs h4
  generalize (checkA l).1 = e1 at *
  generalize l.length = n at *
  generalize d.next = nx at *
  go_enter Tryz.func35, Tryz.ntmps35
  go_wp2_with first
    | (go_at_call 60; refine HM.out.mono ?_; rintro e w' ⟨rfl, rfl⟩)
    | (go_at_call 61; refine HC.out.mono ?_; rintro e w' ⟨rfl, hg⟩; have hp1 := H1.out _ hg; have HG := Lib.hid hg; clear hg)
  go_ret2
  exact HF.out _ HG.out
/-- The append of Create, as one step of a region that draws. -/
theorem step_push {P : Program} {W : World} {ops : Array Oper} {o : Oper} {a : Act} {K : Act → World → Prop} {Q : Exit → Act → World → Prop} {E : Prop} (hgd : o.guard = none) (s x : Operand)
    (ho : o.op = .call { callee := .builtin .append, args := #[s, x], argTypes := #[70, 70] }) (hP : P = Tryz.prog)
    (R : RefRep w0 W rb g cap xs d) (hlen : d.nodes.length ≤ 1000000) (X : RN) (n : Nd) (hgood : GoodN w0 W X n) (hone : ∀ u ∈ encN X, u.oneCell' = true)
    (hs : a.eval s = .slice (some ⟨g, 0, none⟩) d.nodes.length cap) (B : Nat) (hx : a.eval x = .slice (some ⟨B, 0, none⟩) 1 1) (hB : W.heap[B]? = some (.cells (encN X).toArray 69 (0, 0)))
    (h : ∀ g1 cap1 w1, w1.cell? ⟨rb, 0, none⟩ = some (.slice (some ⟨g, 0, none⟩) d.nodes.length cap) → w1.cell? ⟨rb, 1, none⟩ = some (.int .i64 d.next) → (∀ k, w1.frozen? ⟨rb, k, none⟩ = false) →
      Hid (∀ w2, Grow ((w1.setCell ⟨rb, 0, none⟩ (.slice (some ⟨g1, 0, none⟩) (d.nodes.length + 1) cap1)).setCell ⟨rb, 1, none⟩ (.int .i64 (d.next + 1))) w2 → RAt w0 w2 rb (d.push n) ∧ Fr w0.heap.size tsR W w2) →
      K (a.put o.dst (.slice (some ⟨g1, 0, none⟩) (d.nodes.length + 1) cap1)) w1) :
    if Region.wanted o (yielded ops a.tmps) = true then Oper.wp P o a W K Q else E := by
  subst hP
  obtain ⟨i0, hi, hzz⟩ := Option.map_eq_some_iff.1 infoN
  simp only [Prod.mk.injEq] at hzz
  obtain ⟨hz0, hz1, hz2⟩ := hzz
  refine step_append_lies _ hgd s x 70 ho w0.heap.size 69 i0 _ 7 112 Tryz.underlying70 hi hz0 hz1 hz2 rfl (by decide) _ d.nodes.length (xs.flatMap encN) hs R.own.1 ⟨B, 0, none⟩ 1 1 (encN X) hx rfl
    (by simpa using World.news_of_block hB) hone (by decide) (by simp only [maxLen]; omega) (by omega) R.own.2.size _ rfl ?_
  intro g1 cap1 w1 h1 h2 _ _
  have hown : Own w0 w1 69 7 (.slice (some ⟨g1, 0, none⟩) (d.nodes.length + 1) cap1) (d.nodes.length + 1) (xs.flatMap encN ++ encN X) :=
    ⟨h1, Below.grown R.own.2 h2 R.own.2.size (fun k hk => R.own.base k hk)⟩
  have hob : (Value.slice (some ⟨g, 0, none⟩) d.nodes.length cap).ownBlock = some g := rfl
  rw [hob] at h2
  obtain ⟨g', cap', hv, hrb, hfin⟩ := R.app hown h2 hgood
  cases hv
  refine h g1 cap1 w1 (by simp [World.cell?, hrb]) (by simp [World.cell?, hrb]) (fun k => by simp [World.frozen?, hrb]) fun w2 hw2 => ?_
  obtain ⟨q1, q2⟩ := hfin w2 hw2
  exact ⟨⟨_, _, _, q1⟩, q2⟩
set_option maxHeartbeats 1000000 in
theorem create_ok (R : RefRep w0 w rb g cap xs d) (hfew : d.nodes.length ≤ 1000000) (tag key text : ByteArray) (l : List At) (A : Option Addr) (c : Nat) (hl : RdV EAt 2 w (Imm w0.heap.size tsA w) (.slice A l.length c) l) (hs : SizedA l) (ht : tag.size ≤ 9223372036854775807) (h1 : named tag false = true) (h2 : key.size ≤ 65536) (h3 : text.size ≤ 65536) (h4 : (checkA l).2 = 0) (h5 : d.next ≤ 4294967295) (h50 : 1 ≤ d.next) :
    Calls Tryz.prog 35 #[.pointer (some ⟨rb, 0, none⟩), .string tag, .string key, .string text, .slice A l.length c] w (RStep w0 w rb (d.push ⟨d.next, -1, [], tag, key, text, l⟩) (.tuple #[.int .i64 d.next, .int .i64 0])) := by
  have HM := Lib.hid (ref_named tag false w ht)
  rw [h1] at HM
  have hrd : Rd EAt 2 w (Imm w0.heap.size tsA w) A l := by
    obtain ⟨A', c', e, _, h⟩ := hl
    cases e; exact h
  have HC := Lib.hid (check_r l w _ A c hrd hs)
  rw [h4] at HC
  have HR := Lib.hid R
  have hcap := R.caps
  have hx : ∀ W, Grow w W → GoodN w0 W ⟨d.next, -1, .slice none 0 0, tag, key, text, .slice A l.length c⟩ ⟨d.next, -1, [], tag, key, text, l⟩ := fun W hW =>
    ⟨rfl, rfl, rfl, rfl, rfl, nilRdV _ _ _ _, hl.fr (Fr.of_grow (ts := []) hW) (fun t ht => by cases ht)⟩
  have HX := Lib.hid hx
  have h6 : ¬ (65536 : Int) < key.size := by omega
  have h7 : ¬ (65536 : Int) < text.size := by omega
  have h8 : IntKind.i64.wrap (d.next + 1) = d.next + 1 := IntWalk.i64_in _ (by omega)
  have h9 : IntKind.i64.wrap (d.next + 1 - 1) = d.next := by rw [show d.next + 1 - 1 = d.next by omega]; exact IntWalk.i64_in _ (by omega)
  clear R h1 hl hs h4 hrd hx
  generalize (checkA l).1 = e1 at *
  go_enter Tryz.func35, Tryz.ntmps35
  go_wp2_with first
    | (go_at_call 60; refine HM.out.mono ?_; rintro e w' ⟨rfl, rfl⟩)
    | (go_at_call 61; refine HC.out.mono ?_; rintro e w3 ⟨rfl, hg⟩; have hp0 := (HR.out.grow hg).p0; have hp1 := (HR.out.grow hg).p1; have HG := Lib.hid hg; clear hg)
  have HR3 := Lib.hid (HR.out.grow HG.out)
  have HX3 := Lib.hid fun W (hW : Grow w3 W) => HX.out W (Grow.trans' HG.out hW)
  have hp0a := (HR3.out.grow (grow_alloc (Below.refl _ _) (.cells #[.int .i64 d.next, .int .i64 (-1), .slice none 0 0, .string tag, .string key, .string text, .slice A l.length c] 69))).p0
  go_region_law (refine step_push rfl (.tmp 42) (.tmp 52) rfl rfl (HR3.out.grow (by repeat (first | exact Below.refl _ _ | apply grow_drew | apply grow_alloc))) hfew ⟨d.next, -1, .slice none 0 0, tag, key, text, .slice A l.length c⟩ ⟨d.next, -1, [], tag, key, text, l⟩ (HX3.out _ (by repeat (first | exact Below.refl _ _ | apply grow_drew | apply grow_alloc))) (by simp [encN, Value.oneCell']) (by simp [Act.eval, Act.put]) w3.heap.size (by simp [Act.eval, Act.put]) (heap_alloc_new w3 _) ?_; intro g5 cap5 w5 hc50 hc51 hf5 HH5)
  all_goals (have hf50 := hf5 0; have hf51 := hf5 1; clear hf5)
  all_goals go_wp2
  all_goals go_ret2
  all_goals exact ⟨rfl, (HH5.out _ (by repeat (first | exact Below.refl _ _ | apply grow_drew))).1, (Fr.of_grow (Grow.trans' HG.out (by repeat (first | exact Below.refl _ _ | apply grow_drew | apply grow_alloc)))).trans (HH5.out _ (by repeat (first | exact Below.refl _ _ | apply grow_drew))).2⟩
theorem create_r (R : RefRep w0 w rb g cap xs d) (hw : d.WF) (hfew : d.nodes.length ≤ 1000000) (tag key text : ByteArray) (l : List At) (A : Option Addr) (c : Nat) (hl : RdV EAt 2 w (Imm w0.heap.size tsA w) (.slice A l.length c) l) (hs : SizedA l) (ht : tag.size ≤ 9223372036854775807) :
    Calls Tryz.prog 35 #[.pointer (some ⟨rb, 0, none⟩), .string tag, .string key, .string text, .slice A l.length c] w (RStep w0 w rb (d.createD tag key text l).2.2 (.tuple #[.int .i64 (d.createD tag key text l).1, .int .i64 (d.createD tag key text l).2.1])) := by
  have hrd : Rd EAt 2 w (Imm w0.heap.size tsA w) A l := by
    obtain ⟨A', c', e, _, h⟩ := hl
    cases e; exact h
  unfold Doc.createD
  by_cases h1 : named tag false = false
  · rw [if_pos h1]
    exact create_tag R tag key text l A c ht h1
  rw [if_neg h1]
  have h1' : named tag false = true := by simpa using h1
  by_cases h2 : 65536 < key.size ∨ 65536 < text.size
  · rw [if_pos h2]
    exact create_long R tag key text l A c ht h1' h2
  rw [if_neg h2]
  by_cases h3 : (checkA l).2 ≠ 0
  · rw [if_pos h3]
    exact create_bad R tag key text l _ A c hrd hs ht h1' (by omega) (by omega) h3
  rw [if_neg h3]
  have h3' : (checkA l).2 = 0 := by simpa using h3
  by_cases h4 : 4294967295 < d.next
  · rw [if_pos h4]
    exact create_last R tag key text l _ A c hrd hs ht h1' (by omega) (by omega) h3' h4
  · rw [if_neg h4]
    exact create_ok R hfew tag key text l A c hl hs ht h1' (by omega) (by omega) h3' (by omega) hw.next1
end
end Go.Proofs.YtacobpmmpdadpaaGreat
set_option linter.unusedVariables false
set_option linter.unusedSimpArgs false
namespace Go.Proofs.YtacobpmmpdadpaaGreat
open Go.RowKit Doc
section
variable {w0 w : World} {rb g cap : Nat} {xs : List RN} {d : Doc}
theorem read_r (R : RefRep w0 w rb g cap xs d) (hw : d.WF) (hfew : d.nodes.length ≤ 1000000) {k : Nat} {r : List Rw} (h : belowF k d [] 0 0 = some r) (hrl : r.length ≤ 1000000) :
    Calls Tryz.prog 43 #[.pointer (some ⟨rb, 0, none⟩)] w (RetRows (Imm w0.heap.size tsA w) w r) := by
  have HB := Lib.hid (below_r R hw hfew k [] 0 0 r h hrl hw.has0 w (.slice none 0 0) [] (Own.nil _ _ (Below.refl _ _)) trivial)
  clear R hw h
  go_enter Tryz.func43, Tryz.ntmps43
  go_wp2_with (go_at_call 71; refine HB.out.mono ?_; rintro e w1 ⟨v, raws, rfl, ho, hp⟩; have HO := Lib.hid ho; have HP := Lib.hid hp; clear ho hp)
  go_ret
  exact ⟨v, raws, rfl, HO.out, HP.out⟩
def looseK (d : Doc) (k : Nat) : List Int := ((d.nodes.take k).filter fun n => n.id ≠ 0 && n.up < 0).map (·.id)
theorem looseK_succ {d : Doc} {k : Nat} (hk : k < d.nodes.length) : looseK d (k + 1) = if (d.nodes.getD k nd0).id ≠ 0 ∧ (d.nodes.getD k nd0).up < 0 then looseK d k ++ [(d.nodes.getD k nd0).id] else looseK d k := by
  unfold looseK
  rw [take_snoc _ nd0 hk, List.filter_append, List.map_append]
  generalize d.nodes.getD k nd0 = n
  by_cases h1 : n.id = 0 <;> by_cases h2 : n.up < 0 <;> simp [h1, h2]
theorem loose_r (R : RefRep w0 w rb g cap xs d) (hfew : d.nodes.length ≤ 1000000) :
    Calls Tryz.prog 45 #[.pointer (some ⟨rb, 0, none⟩)] w (RetI w (looseD d)) := by
  obtain ⟨n, hn⟩ : ∃ n, n = d.nodes.length := ⟨_, rfl⟩
  have hp := R.p0
  have hcap := R.caps
  rw [← hn] at hp hcap
  have hm : n ≤ 1000000 := by omega
  have HN := Lib.hid hn; clear hn
  have HR := Lib.hid R; clear R
  go_enter Tryz.func45, Tryz.ntmps45
  go_wp2
  go_loopw [3, 10] (fun t i wr => ∃ (k q : Nat) (cs : List Value), k ≤ n ∧ q ≤ k ∧ i = .int .i64 k ∧ Hid (q = (looseK d k).length) ∧ Hid (cs = cellsI (looseK d k)) ∧ Own w wr 3 1 t q cs) (fun _ i _ => n - (intOf i).toNat)
  case atStart => exact ⟨0, 0, [], Nat.zero_le _, Nat.le_refl _, rfl, rfl, rfl, Own.nil _ _ (Below.refl _ _)⟩
  case round =>
    obtain ⟨k, q, cs, hk, hq, rfl, hql, hcs, ho⟩ := hrel
    have HO := Lib.hid ho
    by_cases hlt : k < n
    · have h1 : k < d.nodes.length := by rw [← HN.out]; exact hlt
      have R1 := HR.out.grow ho.grow
      have hp1 := R1.p0
      rw [← HN.out] at hp1
      obtain ⟨x, _, _, g0, g1, _⟩ := R1.node h1
      have hsn := looseK_succ h1
      generalize (d.nodes.getD k nd0).id = id at *
      generalize (d.nodes.getD k nd0).up = up at *
      by_cases e1 : id = 0
      · rw [if_neg (fun h => h.1 e1)] at hsn
        have hql2 : Hid (q = (looseK d (k + 1)).length) := by show _ = _; rw [hsn]; exact hql.out
        have hcs2 : Hid (cs = cellsI (looseK d (k + 1))) := by show _ = _; rw [hsn]; exact hcs.out
        clear hsn hql hcs ho R1 h1
        subst e1
        go_wp2
        go_roundw
        case rel => exact ⟨k + 1, q, cs, by omega, by omega, by go_num, hql2, hcs2, HO.out⟩
        case measure => simp [intOf]; omega
      · by_cases e2 : up < 0
        · rw [if_pos ⟨e1, e2⟩] at hsn
          have hql2 : Hid (q + 1 = (looseK d (k + 1)).length) := by show _ = _; rw [hsn, hql.out]; simp
          have hcs2 : Hid (cs ++ [.int .i64 id] = cellsI (looseK d (k + 1))) := by show _ = _; rw [hsn, hcs.out, cellsI_snoc]
          have e3 : (id != 0) = true := by simpa using e1
          clear hsn hql hcs ho R1 h1
          go_wp2_with (at_builtin; go_must (refine wpl_app (w0 := w) rfl _ _ _ 3 _ 1 8 rfl Tryz.underlying33 infoInt rfl ?z1 ?z2 _ q cs [.int .i64 id] rfl rfl ?hg rfl ?z3 ?ho ?hl ?_); (case hg => simp); (case z1 => decide); (case z2 => decide); (case z3 => simp [Value.oneCell']); (case ho => exact HO.out); (case hl => omega); clear HO; intro v1 w1 ho1 _; have HO1 := Lib.hid ho1; clear ho1)
          go_roundw
          case rel => exact ⟨k + 1, q + 1, _, by omega, by omega, by go_num, hql2, hcs2, HO1.out⟩
          case measure => simp [intOf]; omega
        · rw [if_neg (fun h => e2 h.2)] at hsn
          have hql2 : Hid (q = (looseK d (k + 1)).length) := by show _ = _; rw [hsn]; exact hql.out
          have hcs2 : Hid (cs = cellsI (looseK d (k + 1))) := by show _ = _; rw [hsn]; exact hcs.out
          have e3 : (id != 0) = true := by simpa using e1
          clear hsn hql hcs ho R1 h1
          go_wp2
          go_roundw
          case rel => exact ⟨k + 1, q, cs, by omega, by omega, by go_num, hql2, hcs2, HO.out⟩
          case measure => simp [intOf]; omega
    · have hk' : k = n := by omega
      have hl2 : looseK d k = looseD d := by unfold looseK looseD; rw [hk', HN.out, List.take_length]
      rw [hl2] at hql hcs
      obtain ⟨A', c', rfl⟩ := ho.form
      have hfin : RetI w (looseD d) (.returned (.slice A' q c')) wr := ⟨_, rfl, ho.newI hcs.out hql.out, ho.grow⟩
      have HF := Lib.hid hfin
      clear hfin ho HO hk' hl2 hql hcs
      go_wp2
      go_ret
      exact HF.out
end
end Go.Proofs.YtacobpmmpdadpaaGreat
set_option linter.unusedVariables false
set_option linter.unusedSimpArgs false
namespace Go.Proofs.YtacobpmmpdadpaaGreat
open Go.RowKit Doc
/-- An operation as a value. -/
def opV (x : Opr) (A : Option Addr) (c : Nat) : Value := .agg #[.int .i64 x.kind, .int .i64 x.node, .int .i64 x.up, .int .i64 x.before, .string x.tag, .string x.key, .string x.name, .string x.text, .slice A x.attrs.length c]
def opC (x : Opr) (A : Option Addr) (c : Nat) : Array Value := #[.int .i64 x.kind, .int .i64 x.node, .int .i64 x.up, .int .i64 x.before, .string x.tag, .string x.key, .string x.name, .string x.text, .slice A x.attrs.length c]
section
variable {w0 w : World} {rb g cap : Nat} {xs : List RN} {d : Doc}
theorem RStep.from {w0 w w1 : World} {rb : Nat} {d' : Doc} {v : Value} {e : Ending} {w' : World} (hg : Grow w w1) (h : RStep w0 w1 rb d' v e w') : RStep w0 w rb d' v e w' := ⟨h.1, h.2.1, (Fr.of_grow hg).trans h.2.2⟩
theorem do_r (R : RefRep w0 w rb g cap xs d) (hw : d.WF) (hfew : d.nodes.length ≤ 1000000) (x : Opr) (A : Option Addr) (c : Nat) (hl : RdV EAt 2 w (Imm w0.heap.size tsA w) (.slice A x.attrs.length c) x.attrs) (hs : SizedA x.attrs)
    (hsz : SizedA (d.attrsOf x.node)) (ht : x.tag.size ≤ 9223372036854775807) (hnm : x.name.size ≤ 9223372036854775807) :
    Calls Tryz.prog 15 #[.pointer (some ⟨rb, 0, none⟩), opV x A c] w (RStep w0 w rb (d.doD x).2.2 (.tuple #[.int .i64 (d.doD x).1, .int .i64 (d.doD x).2.1])) := by
  have hg1 : Grow w (w.alloc (.cells (opC x A c) 42)) := grow_alloc (Below.refl _ _) _
  have R1 := R.grow hg1
  have HR := Lib.hid R
  have hl1 := hl.fr (Fr.of_grow (base := w0.heap.size) (ts := []) hg1) (fun t ht => by cases ht)
  unfold Doc.doD
  by_cases k1 : x.kind = 1
  · rw [if_pos k1]
    have HC := Lib.hid (Calls.mono (create_r R1 hw hfew x.tag x.key x.text x.attrs A c hl1 hs ht) fun e w' h => RStep.from hg1 h)
    generalize d.createD x.tag x.key x.text x.attrs = res at *
    obtain ⟨c0, c1, d1⟩ := res
    clear R R1 hl hl1 hw hs
    unfold opC at HC hg1
    have HG := Lib.hid hg1
    clear hg1
    unfold opV
    obtain ⟨xk, xn, xu, xb, xt, xy, xm, xx, xa⟩ := x
    simp only at *
    subst k1
    generalize xa.length = la at *
    go_enter Tryz.func15, Tryz.ntmps15
    go_wp2_with (go_at_call 35; refine HC.out.mono ?_; rintro e w1 ⟨rfl, hra⟩; have HRA := Lib.hid hra; clear hra)
    go_ret2
    exact ⟨rfl, HRA.out⟩
  rw [if_neg k1]
  by_cases k2 : x.kind = 2
  · rw [if_pos k2]
    have HC := Lib.hid (Calls.mono (insert_r R1 hw hfew x.node x.up x.before) fun e w' h => RStep.from hg1 h)
    generalize d.insertD x.node x.up x.before = res at *
    obtain ⟨c1, d1⟩ := res
    clear R R1 hl hl1 hw hs
    unfold opC at HC hg1
    have HG := Lib.hid hg1
    clear hg1
    unfold opV
    obtain ⟨xk, xn, xu, xb, xt, xy, xm, xx, xa⟩ := x
    simp only at *
    subst k2
    generalize xa.length = la at *
    go_enter Tryz.func15, Tryz.ntmps15
    go_wp2_with (go_at_call 36; refine HC.out.mono ?_; rintro e w1 ⟨rfl, hra⟩; have HRA := Lib.hid hra; clear hra)
    go_ret2
    exact ⟨rfl, HRA.out⟩
  rw [if_neg k2]
  by_cases k3 : x.kind = 3
  · rw [if_pos k3]
    have HC := Lib.hid (Calls.mono (move_r R1 hw hfew x.node x.before) fun e w' h => RStep.from hg1 h)
    generalize d.moveD x.node x.before = res at *
    obtain ⟨c1, d1⟩ := res
    clear R R1 hl hl1 hw hs
    unfold opC at HC hg1
    have HG := Lib.hid hg1
    clear hg1
    unfold opV
    obtain ⟨xk, xn, xu, xb, xt, xy, xm, xx, xa⟩ := x
    simp only at *
    subst k3
    generalize xa.length = la at *
    go_enter Tryz.func15, Tryz.ntmps15
    go_wp2_with (go_at_call 37; refine HC.out.mono ?_; rintro e w1 ⟨rfl, hra⟩; have HRA := Lib.hid hra; clear hra)
    go_ret2
    exact ⟨rfl, HRA.out⟩
  rw [if_neg k3]
  by_cases k4 : x.kind = 4
  · rw [if_pos k4]
    have HC := Lib.hid (Calls.mono (remove_r R1 hw hfew x.node) fun e w' h => RStep.from hg1 h)
    generalize d.removeD x.node = res at *
    obtain ⟨c1, d1⟩ := res
    clear R R1 hl hl1 hw hs
    unfold opC at HC hg1
    have HG := Lib.hid hg1
    clear hg1
    unfold opV
    obtain ⟨xk, xn, xu, xb, xt, xy, xm, xx, xa⟩ := x
    simp only at *
    subst k4
    generalize xa.length = la at *
    go_enter Tryz.func15, Tryz.ntmps15
    go_wp2_with (go_at_call 38; refine HC.out.mono ?_; rintro e w1 ⟨rfl, hra⟩; have HRA := Lib.hid hra; clear hra)
    go_ret2
    exact ⟨rfl, HRA.out⟩
  rw [if_neg k4]
  by_cases k5 : x.kind = 5
  · rw [if_pos k5]
    have HC := Lib.hid (Calls.mono (set_r R1 hw x.node hsz x.name x.text hnm) fun e w' h => RStep.from hg1 h)
    generalize d.setD x.node x.name x.text = res at *
    obtain ⟨c1, d1⟩ := res
    clear R R1 hl hl1 hw hs
    unfold opC at HC hg1
    have HG := Lib.hid hg1
    clear hg1
    unfold opV
    obtain ⟨xk, xn, xu, xb, xt, xy, xm, xx, xa⟩ := x
    simp only at *
    subst k5
    generalize xa.length = la at *
    go_enter Tryz.func15, Tryz.ntmps15
    go_wp2_with (go_at_call 39; refine HC.out.mono ?_; rintro e w1 ⟨rfl, hra⟩; have HRA := Lib.hid hra; clear hra)
    go_ret2
    exact ⟨rfl, HRA.out⟩
  rw [if_neg k5]
  by_cases k6 : x.kind = 6
  · rw [if_pos k6]
    have HC := Lib.hid (Calls.mono (del_r R1 hw x.node x.name) fun e w' h => RStep.from hg1 h)
    generalize d.delD x.node x.name = res at *
    obtain ⟨c1, d1⟩ := res
    clear R R1 hl hl1 hw hs
    unfold opC at HC hg1
    have HG := Lib.hid hg1
    clear hg1
    unfold opV
    obtain ⟨xk, xn, xu, xb, xt, xy, xm, xx, xa⟩ := x
    simp only at *
    subst k6
    generalize xa.length = la at *
    go_enter Tryz.func15, Tryz.ntmps15
    go_wp2_with (go_at_call 40; refine HC.out.mono ?_; rintro e w1 ⟨rfl, hra⟩; have HRA := Lib.hid hra; clear hra)
    go_ret2
    exact ⟨rfl, HRA.out⟩
  rw [if_neg k6]
  by_cases k7 : x.kind = 7
  · rw [if_pos k7]
    have HC := Lib.hid (Calls.mono (text_r R1 hw x.node x.text) fun e w' h => RStep.from hg1 h)
    generalize d.textD x.node x.text = res at *
    obtain ⟨c1, d1⟩ := res
    clear R R1 hl hl1 hw hs
    unfold opC at HC hg1
    have HG := Lib.hid hg1
    clear hg1
    unfold opV
    obtain ⟨xk, xn, xu, xb, xt, xy, xm, xx, xa⟩ := x
    simp only at *
    subst k7
    generalize xa.length = la at *
    go_enter Tryz.func15, Tryz.ntmps15
    go_wp2_with (go_at_call 41; refine HC.out.mono ?_; rintro e w1 ⟨rfl, hra⟩; have HRA := Lib.hid hra; clear hra)
    go_ret2
    exact ⟨rfl, HRA.out⟩
  rw [if_neg k7]
  have HF := Lib.hid fun W hW => RStep.same' R (.tuple #[.int .i64 0, .int .i64 0]) (W := W) hW
  clear R R1 hl hl1 hw hs
  unfold opV
  unfold opC at hg1
  have HG := Lib.hid hg1
  clear hg1
  obtain ⟨xk, xn, xu, xb, xt, xy, xm, xx, xa⟩ := x
  simp only at *
  generalize xa.length = la at *
  go_enter Tryz.func15, Tryz.ntmps15
  go_wp2
  go_ret2
  exact HF.out _ HG.out
end
end Go.Proofs.YtacobpmmpdadpaaGreat
set_option linter.unusedVariables false
set_option linter.unusedSimpArgs false
namespace Go.Proofs.YtacobpmmpdadpaaGreat
open Go.RowKit

/-- A pointer to the item of an ID; below 0: nil. -/
def pI (ib : Int → Nat) (x : Int) : Value := if x < 0 then .pointer none else .pointer (some ⟨ib x, 0, none⟩)
theorem pI_nil (ib : Int → Nat) : pI ib (-1) = .pointer none := rfl
theorem pI_at (ib : Int → Nat) {x : Int} (h : 0 ≤ x) : pI ib x = .pointer (some ⟨ib x, 0, none⟩) := by unfold pI; rw [if_neg (by omega)]
def iCells (ib : Int → Nat) (n : Int) (l : Lk) : Array Value := #[.int .i64 n, pI ib l.up, pI ib l.first, pI ib l.last, pI ib l.prev, pI ib l.next]
/-- The items of the IDs in S, linked as L says. -/
structure Items (w : World) (ib : Int → Nat) (L : Int → Lk) (S : Int → Prop) : Prop where
  nn : ∀ n, S n → 0 ≤ n
  inj : ∀ m n, S m → S n → ib m = ib n → m = n
  cells : ∀ n, S n → w.heap[ib n]? = some (.cells (iCells ib n (L n)) 94 (0, 0))
  cl : ∀ n, S n → ((L n).up = -1 ∨ S (L n).up) ∧ ((L n).first = -1 ∨ S (L n).first) ∧ ((L n).last = -1 ∨ S (L n).last) ∧ ((L n).prev = -1 ∨ S (L n).prev) ∧ ((L n).next = -1 ∨ S (L n).next)

theorem Items.cell {w : World} {ib : Int → Nat} {L : Int → Lk} {S : Int → Prop} (h : Items w ib L S) {n : Int} (hn : S n) (k : Nat) : w.cell? ⟨ib n, k, none⟩ = (iCells ib n (L n))[k]? := by
  simp [World.cell?, h.cells n hn]
theorem Items.frozen {w : World} {ib : Int → Nat} {L : Int → Lk} {S : Int → Prop} (h : Items w ib L S) {n : Int} (hn : S n) (k : Nat) : w.frozen? ⟨ib n, k, none⟩ = false := by
  simp [World.frozen?, h.cells n hn]
theorem infoItem : (Tryz.prog.info? 94).map (·.size) = some (5 + 1) := by kernel_rfl
theorem Items.eql {w : World} {ib : Int → Nat} {L : Int → Lk} {S : Int → Prop} (h : Items w ib L S) {x y : Int} (hx : S x) (hy : S y) :
    (binOp .eql 56 (.pointer (some ⟨ib x, 0, none⟩)) (.pointer (some ⟨ib y, 0, none⟩))).run Tryz.prog w = .ok (.bool (decide (x = y))) w := by
  rw [run_eql_ptr w (P := Tryz.prog) (te := 94) (sz := 5) Tryz.underlying56 infoItem (h.cells x hx) (h.cells y hy)]
  have hi : (({ block := ib x, off := 0 } : Addr) = { block := ib y, off := 0 }) = (x = y) := propext ⟨fun e' => h.inj _ _ hx hy (by injection e'), fun e' => by rw [e']⟩
  simp only [hi]
theorem Items.neq {w : World} {ib : Int → Nat} {L : Int → Lk} {S : Int → Prop} (h : Items w ib L S) {x y : Int} (hx : S x) (hy : S y) :
    (binOp .neq 56 (.pointer (some ⟨ib x, 0, none⟩)) (.pointer (some ⟨ib y, 0, none⟩))).run Tryz.prog w = .ok (.bool (!decide (x = y))) w := by
  rw [run_neq_ptr w (P := Tryz.prog) (te := 94) (sz := 5) Tryz.underlying56 infoItem (h.cells x hx) (h.cells y hy)]
  have hi : (({ block := ib x, off := 0 } : Addr) = { block := ib y, off := 0 }) = (x = y) := propext ⟨fun e' => h.inj _ _ hx hy (by injection e'), fun e' => by rw [e']⟩
  simp only [hi]
theorem Items.set {w : World} {ib : Int → Nat} {L : Int → Lk} {S : Int → Prop} (h : Items w ib L S) {n : Int} (hn : S n) (k : Nat) (v : Value) (f : Lk → Lk)
    (hf : (iCells ib n (L n)).setIfInBounds k v = iCells ib n (f (L n)))
    (hcl : ((f (L n)).up = -1 ∨ S (f (L n)).up) ∧ ((f (L n)).first = -1 ∨ S (f (L n)).first) ∧ ((f (L n)).last = -1 ∨ S (f (L n)).last) ∧ ((f (L n)).prev = -1 ∨ S (f (L n)).prev) ∧ ((f (L n)).next = -1 ∨ S (f (L n)).next)) :
    Items (w.setCell ⟨ib n, k, none⟩ v) ib (upd L n f) S := by
  refine ⟨h.nn, h.inj, fun m hm => ?_, fun m hm => ?_⟩
  · by_cases e : m = n
    · subst e
      rw [heap_setCell_same w (ib m) k _ _ v (h.cells m hm), hf]
      simp [upd]
    · rw [heap_setCell_other _ _ _ _ (fun e' => e (h.inj m n hm hn e')), h.cells m hm]
      simp [upd, e]
  · by_cases e : m = n
    · subst e; simpa [upd] using hcl
    · simpa [upd, e] using h.cl m hm
section
variable {w : World} {ib : Int → Nat} {L : Int → Lk} {S : Int → Prop}
theorem Items.setUp (h : Items w ib L S) {n v : Int} (hn : S n) (hv : v = -1 ∨ S v) : Items (w.setCell ⟨ib n, 1, none⟩ (pI ib v)) ib (upd L n fun l => { l with up := v }) S :=
  h.set hn 1 _ _ rfl ⟨hv, (h.cl n hn).2⟩
theorem Items.setFirst (h : Items w ib L S) {n v : Int} (hn : S n) (hv : v = -1 ∨ S v) : Items (w.setCell ⟨ib n, 2, none⟩ (pI ib v)) ib (upd L n fun l => { l with first := v }) S :=
  h.set hn 2 _ _ rfl ⟨(h.cl n hn).1, hv, (h.cl n hn).2.2⟩
theorem Items.setLast (h : Items w ib L S) {n v : Int} (hn : S n) (hv : v = -1 ∨ S v) : Items (w.setCell ⟨ib n, 3, none⟩ (pI ib v)) ib (upd L n fun l => { l with last := v }) S :=
  h.set hn 3 _ _ rfl ⟨(h.cl n hn).1, (h.cl n hn).2.1, hv, (h.cl n hn).2.2.2⟩
theorem Items.setPrev (h : Items w ib L S) {n v : Int} (hn : S n) (hv : v = -1 ∨ S v) : Items (w.setCell ⟨ib n, 4, none⟩ (pI ib v)) ib (upd L n fun l => { l with prev := v }) S :=
  h.set hn 4 _ _ rfl ⟨(h.cl n hn).1, (h.cl n hn).2.1, (h.cl n hn).2.2.1, hv, (h.cl n hn).2.2.2.2⟩
theorem Items.setNext (h : Items w ib L S) {n v : Int} (hn : S n) (hv : v = -1 ∨ S v) : Items (w.setCell ⟨ib n, 5, none⟩ (pI ib v)) ib (upd L n fun l => { l with next := v }) S :=
  h.set hn 5 _ _ rfl ⟨(h.cl n hn).1, (h.cl n hn).2.1, (h.cl n hn).2.2.1, (h.cl n hn).2.2.2.1, hv⟩
end
/-- Blocks other than the items' are as they were. -/
def OnlyItems (w w' : World) (ib : Int → Nat) (S : Int → Prop) : Prop :=
  w'.os = w.os ∧ w'.tape = w.tape ∧ w'.output = w.output ∧ w'.heap.size = w.heap.size ∧ ∀ b, (∀ n, S n → b ≠ ib n) → w'.heap[b]? = w.heap[b]?
theorem OnlyItems.refl (w : World) (ib : Int → Nat) (S : Int → Prop) : OnlyItems w w ib S := ⟨rfl, rfl, rfl, rfl, fun _ _ => rfl⟩
theorem OnlyItems.set {w w' : World} {ib : Int → Nat} {S : Int → Prop} (h : OnlyItems w w' ib S) {n : Int} (hn : S n) (k : Nat) (v : Value) : OnlyItems w (w'.setCell ⟨ib n, k, none⟩ v) ib S :=
  ⟨h.1, h.2.1, h.2.2.1, by simpa using h.2.2.2.1, fun b hb => (heap_setCell_other _ _ _ _ (hb n hn)).trans (h.2.2.2.2 b hb)⟩
theorem OnlyItems.trans {a b c : World} {ib : Int → Nat} {S : Int → Prop} (h : OnlyItems a b ib S) (k : OnlyItems b c ib S) : OnlyItems a c ib S :=
  ⟨k.1.trans h.1, k.2.1.trans h.2.1, k.2.2.1.trans h.2.2.1, k.2.2.2.1.trans h.2.2.2.1, fun x hx => (k.2.2.2.2 x hx).trans (h.2.2.2.2 x hx)⟩

/-! ### the walks -/
theorem make_any (m : Int) (w : World) : Calls Tryz.prog 19 #[.int .i64 m] w fun e w' =>
    e = .returned (.pointer (some ⟨w.heap.size, 0, none⟩)) ∧ w' = w.alloc (.cells #[.int .i64 m, .pointer none, .pointer none, .pointer none, .pointer none, .pointer none] 94) := by
  go_enter Tryz.func19, Tryz.ntmps19
  go_wp2
  go_ret
  exact ⟨rfl, rfl⟩
theorem mark_at (b : Nat) (v : Value) (w : World) (h : w.cell? ⟨b, 0, none⟩ = some v) : Calls Tryz.prog 27 #[.pointer (some ⟨b, 0, none⟩)] w fun e w' => e = .returned v ∧ w = w' := by
  go_enter Tryz.func27, Tryz.ntmps27
  go_wp2
  go_ret
  exact ⟨rfl, rfl⟩
theorem up_at (b : Nat) (v : Value) (w : World) (h : w.cell? ⟨b, 1, none⟩ = some v) : Calls Tryz.prog 21 #[.pointer (some ⟨b, 0, none⟩)] w fun e w' => e = .returned v ∧ w = w' := by
  go_enter Tryz.func21, Tryz.ntmps21
  go_wp2
  go_ret
  exact ⟨rfl, rfl⟩
theorem first_at (b : Nat) (v : Value) (w : World) (h : w.cell? ⟨b, 2, none⟩ = some v) : Calls Tryz.prog 22 #[.pointer (some ⟨b, 0, none⟩)] w fun e w' => e = .returned v ∧ w = w' := by
  go_enter Tryz.func22, Tryz.ntmps22
  go_wp2
  go_ret
  exact ⟨rfl, rfl⟩
theorem last_at (b : Nat) (v : Value) (w : World) (h : w.cell? ⟨b, 3, none⟩ = some v) : Calls Tryz.prog 23 #[.pointer (some ⟨b, 0, none⟩)] w fun e w' => e = .returned v ∧ w = w' := by
  go_enter Tryz.func23, Tryz.ntmps23
  go_wp2
  go_ret
  exact ⟨rfl, rfl⟩
theorem prev_at (b : Nat) (v : Value) (w : World) (h : w.cell? ⟨b, 4, none⟩ = some v) : Calls Tryz.prog 24 #[.pointer (some ⟨b, 0, none⟩)] w fun e w' => e = .returned v ∧ w = w' := by
  go_enter Tryz.func24, Tryz.ntmps24
  go_wp2
  go_ret
  exact ⟨rfl, rfl⟩
theorem next_at (b : Nat) (v : Value) (w : World) (h : w.cell? ⟨b, 5, none⟩ = some v) : Calls Tryz.prog 25 #[.pointer (some ⟨b, 0, none⟩)] w fun e w' => e = .returned v ∧ w = w' := by
  go_enter Tryz.func25, Tryz.ntmps25
  go_wp2
  go_ret
  exact ⟨rfl, rfl⟩
theorem number_nil (w : World) : Calls Tryz.prog 20 #[.pointer none] w fun e w' => e = .returned (.int .i64 (-1)) ∧ w = w' := by
  go_enter Tryz.func20, Tryz.ntmps20
  go_wp2
  go_ret
  exact ⟨rfl, rfl⟩
theorem number_at (b : Nat) (v : Value) (w : World) (h : w.cell? ⟨b, 0, none⟩ = some v) : Calls Tryz.prog 20 #[.pointer (some ⟨b, 0, none⟩)] w fun e w' => e = .returned v ∧ w = w' := by
  go_enter Tryz.func20, Tryz.ntmps20
  go_wp2_with (go_at_call 27; refine (mark_at _ _ _ h).mono ?_; rintro e w' ⟨rfl, rfl⟩)
  go_ret
  exact ⟨rfl, rfl⟩

/-- v points at x's item, or is nil. -/
def PX (ib : Int → Nat) (S : Int → Prop) (x : Int) (v : Value) : Prop := (x = -1 ∧ v = .pointer none) ∨ (S x ∧ v = .pointer (some ⟨ib x, 0, none⟩))
theorem Items.pX {w : World} {ib : Int → Nat} {L : Int → Lk} {S : Int → Prop} (h : Items w ib L S) {x : Int} (hx : x = -1 ∨ S x) : PX ib S x (pI ib x) := by
  rcases hx with rfl | hx
  · exact .inl ⟨rfl, rfl⟩
  · exact .inr ⟨hx, pI_at ib (h.nn x hx)⟩

theorem under_any {w : World} {ib : Int → Nat} {L : Int → Lk} {S : Int → Prop} (h : Items w ib L S) {x y : Int} (hx : x = -1 ∨ S x) (hy : S y) (fuel : Nat) (r : Bool) (hr : climbLen fuel L y x = some r) :
    Calls Tryz.prog 73 #[pI ib x, .pointer (some ⟨ib y, 0, none⟩)] w fun e w' => e = .returned (.bool r) ∧ w = w' := by
  have HI := Lib.hid h; clear h
  have HX := Lib.hid hx; clear hx
  have HY := Lib.hid hy; clear hy
  have HR := Lib.hid hr; clear hr
  go_enter Tryz.func73, Tryz.ntmps73
  go_wp2
  go_loopg [0] fuel (fun k v wr => w = wr ∧ ∃ x : Int, PX ib S x v ∧ Hid (climbLen k L y x = some r))
  case atStart => exact ⟨rfl, x, HI.out.pX HX.out, HR⟩
  case round =>
    clear HX HR
    obtain ⟨rfl, x1, hx1, hr1⟩ := hrel
    cases gk with
    | zero => exact absurd hr1.out (by simp [climbLen])
    | succ gk =>
    rcases hx1 with ⟨rfl, rfl⟩ | ⟨hx1, rfl⟩
    · have hr2 : false = r := by have := hr1.out; simpa [climbLen] using this
      subst hr2
      go_wp2
      go_ret
      exact ⟨rfl, rfl⟩
    · have h0 := HI.out.nn _ hx1
      have hc := HI.out.cell hx1 1
      by_cases e : x1 = y
      · subst e
        have hr2 : true = r := by have := hr1.out; simpa [climbLen, Int.not_lt.2 h0] using this
        subst hr2
        have heq := HI.out.eql hx1 hx1
        simp only [decide_true] at heq
        clear hc hr1 hx1 HY h0
        go_wp2
        go_ret
        exact ⟨rfl, rfl⟩
      · have e2 : ib x1 ≠ ib y := fun e' => e (HI.out.inj _ _ hx1 HY.out e')
        have hr2 : Hid (climbLen gk L y (L x1).up = some r) := by have := hr1.out; simp only [climbLen, if_neg (Int.not_lt.2 h0), if_neg e] at this; exact this
        have hcl := (HI.out.cl _ hx1).1
        have hpx := HI.out.pX hcl
        have hc' : w.cell? ⟨ib x1, 1, none⟩ = some (pI ib (L x1).up) := hc
        have heq := HI.out.eql hx1 HY.out
        rw [decide_eq_false e] at heq
        have HX1 := Lib.hid hx1
        have HPX := Lib.hid hpx
        clear hc hr1 hcl e hx1 hpx h0
        clear e2
        go_wp2
        go_roundg gk
        case rel => exact ⟨rfl, _, HPX.out, hr2⟩
        case measure => omega
section
variable {w : World} {ib : Int → Nat} {L : Int → Lk} {S : Int → Prop}
theorem Items.ne (h : Items w ib L S) {x y : Int} (hx : S x) (hy : S y) (e : x ≠ y) : ib x ≠ ib y := fun e' => e (h.inj _ _ hx hy e')
theorem place_held (h : Items w ib L S) {x y b : Int} (hx : S x) (hy : S y) (hb : b = -1 ∨ S b) (hu : (L y).up ≠ -1) :
    Calls Tryz.prog 52 #[.pointer (some ⟨ib x, 0, none⟩), .pointer (some ⟨ib y, 0, none⟩), pI ib b] w fun e w' => e = .returned (.int .i64 15) ∧ w = w' := by
  obtain ⟨u, hu1, hu2⟩ : ∃ u, S u ∧ (L y).up = u := ⟨_, (h.cl y hy).1.resolve_left hu, rfl⟩
  have hc := h.cell hy 1
  simp only [iCells, hu2, pI_at ib (h.nn u hu1)] at hc
  replace hc : w.cell? ⟨ib y, 1, none⟩ = some (.pointer (some ⟨ib u, 0, none⟩)) := hc
  clear h hx hy hb hu hu1 hu2
  generalize pI ib b = pb
  go_enter Tryz.func52, Tryz.ntmps52
  go_wp2
  go_ret
  exact ⟨rfl, rfl⟩
theorem place_cycle (h : Items w ib L S) {x y b : Int} (hx : S x) (hy : S y) (hb : b = -1 ∨ S b) (hu : (L y).up = -1) (fuel : Nat) (hr : climbLen fuel L y x = some true) :
    Calls Tryz.prog 52 #[.pointer (some ⟨ib x, 0, none⟩), .pointer (some ⟨ib y, 0, none⟩), pI ib b] w fun e w' => e = .returned (.int .i64 17) ∧ w = w' := by
  have hc := h.cell hy 1
  simp only [iCells, hu, pI_nil] at hc
  replace hc : w.cell? ⟨ib y, 1, none⟩ = some (.pointer none) := hc
  have hU := Lib.hid (under_any h (.inr hx) hy fuel true hr)
  rw [pI_at ib (h.nn x hx)] at hU
  clear h hx hy hb hu hr
  generalize pI ib b = pb
  go_enter Tryz.func52, Tryz.ntmps52
  go_wp2_with (go_at_call 73; refine hU.out.mono ?_; rintro e w' ⟨rfl, rfl⟩)
  go_ret
  exact ⟨rfl, rfl⟩
theorem place_place (h : Items w ib L S) {x y b : Int} (hx : S x) (hy : S y) (hb : S b) (hu : (L y).up = -1) (fuel : Nat) (hr : climbLen fuel L y x = some false) (hbu : (L b).up ≠ x) :
    Calls Tryz.prog 52 #[.pointer (some ⟨ib x, 0, none⟩), .pointer (some ⟨ib y, 0, none⟩), .pointer (some ⟨ib b, 0, none⟩)] w fun e w' => e = .returned (.int .i64 18) ∧ w = w' := by
  have hc := h.cell hy 1
  simp only [iCells, hu, pI_nil] at hc
  replace hc : w.cell? ⟨ib y, 1, none⟩ = some (.pointer none) := hc
  have hU := Lib.hid (under_any h (.inr hx) hy fuel false hr)
  rw [pI_at ib (h.nn x hx)] at hU
  have hd := h.cell hb 1
  rcases (h.cl b hb).1 with e | e
  · simp only [iCells, e, pI_nil] at hd
    replace hd : w.cell? ⟨ib b, 1, none⟩ = some (.pointer none) := hd
    have hn : (binOp .neq 56 (.pointer none) (.pointer (some ⟨ib x, 0, none⟩))).run Tryz.prog w = .ok (.bool true) w := run_neq_nil_ptr w Tryz.underlying56 _
    clear h hx hy hb hu hr hbu e
    go_enter Tryz.func52, Tryz.ntmps52
    go_wp2_with (go_at_call 73; refine hU.out.mono ?_; rintro e w' ⟨rfl, rfl⟩)
    go_ret
    exact ⟨rfl, rfl⟩
  · obtain ⟨u, hu1, hu2⟩ : ∃ u, S u ∧ (L b).up = u := ⟨_, e, rfl⟩
    rw [hu2] at hbu
    simp only [iCells, hu2, pI_at ib (h.nn u hu1)] at hd
    replace hd : w.cell? ⟨ib b, 1, none⟩ = some (.pointer (some ⟨ib u, 0, none⟩)) := hd
    have hn := h.neq hu1 hx
    rw [decide_eq_false hbu] at hn
    clear h hx hy hb hu hr hbu e hu1 hu2
    go_enter Tryz.func52, Tryz.ntmps52
    go_wp2_with (go_at_call 73; refine hU.out.mono ?_; rintro e w' ⟨rfl, rfl⟩)
    go_ret
    exact ⟨rfl, rfl⟩
theorem Items.c1 (h : Items w ib L S) {n : Int} (hn : S n) : w.cell? ⟨ib n, 1, none⟩ = some (pI ib (L n).up) := h.cell hn 1
theorem Items.c2 (h : Items w ib L S) {n : Int} (hn : S n) : w.cell? ⟨ib n, 2, none⟩ = some (pI ib (L n).first) := h.cell hn 2
theorem Items.c3 (h : Items w ib L S) {n : Int} (hn : S n) : w.cell? ⟨ib n, 3, none⟩ = some (pI ib (L n).last) := h.cell hn 3
theorem Items.c4 (h : Items w ib L S) {n : Int} (hn : S n) : w.cell? ⟨ib n, 4, none⟩ = some (pI ib (L n).prev) := h.cell hn 4
theorem Items.c5 (h : Items w ib L S) {n : Int} (hn : S n) : w.cell? ⟨ib n, 5, none⟩ = some (pI ib (L n).next) := h.cell hn 5
/-- What Place leaves: the items linked otherwise, all else as it was. -/
def Linked (w : World) (ib : Int → Nat) (S : Int → Prop) (L' : Int → Lk) (w' : World) : Prop := Items w' ib L' S ∧ OnlyItems w w' ib S
theorem Linked.drew {w w1 : World} {ib : Int → Nat} {S : Int → Prop} {L' : Int → Lk} (h : Linked w ib S L' w1) : Linked w ib S L' w1.drew := ⟨⟨h.1.nn, h.1.inj, h.1.cells, h.1.cl⟩, h.2⟩
theorem place_ok_nn (h : Items w ib L S) {x y : Int} (hx : S x) (hy : S y) (hu : (L y).up = -1) (hxy : x ≠ y) (fuel : Nat) (hr : climbLen fuel L y x = some false) (hp : (L x).last = -1) :
    Calls Tryz.prog 52 #[.pointer (some ⟨ib x, 0, none⟩), .pointer (some ⟨ib y, 0, none⟩), .pointer none] w fun e w' => e = .returned (.int .i64 0) ∧ Linked w ib S (placeL L x y (-1)) w' := by
  have cy1 := h.c1 hy
  have cy4 := h.c4 hy
  have cy5 := h.c5 hy
  have cx2 := h.c2 hx
  have cx3 := h.c3 hx
  rw [hu, pI_nil] at cy1
  rw [hp, pI_nil] at cx3
  have fx := h.frozen hx
  have fy := h.frozen hy
  have nxy := h.ne hx hy (hxy)
  have nyx := nxy.symm
  have hU := Lib.hid (under_any h (.inr hx) hy fuel false hr)
  rw [pI_at ib (h.nn x hx)] at hU
  have hfin : ∀ w' : World, w' = ((((((w.setCell ⟨ib y, 1, none⟩ (pI ib x)).setCell ⟨ib y, 5, none⟩ (pI ib (-1))).setCell ⟨ib y, 4, none⟩ (pI ib (-1))).setCell ⟨ib x, 3, none⟩ (pI ib y)).setCell ⟨ib x, 2, none⟩ (pI ib y))) → Linked w ib S (placeL L x y (-1)) w' := by
    rintro w' rfl
    refine ⟨?_, ((((((OnlyItems.refl w ib S).set hy 1 _).set hy 5 _).set hy 4 _).set hx 3 _).set hx 2 _)⟩
    have hI := (((((h.setUp (v := x) hy (.inr hx)).setNext (v := (-1)) hy (.inl rfl)).setPrev (v := (-1)) hy (.inl rfl)).setLast (v := y) hx (.inr hy)).setFirst (v := y) hx (.inr hy))
    unfold placeL
    simp only [if_pos (show (-1 : Int) = -1 from rfl), hp, if_pos (show (-1 : Int) = -1 from rfl), if_true]
    exact hI
  simp only [pI_at ib (h.nn x hx), pI_at ib (h.nn y hy), pI_nil] at hfin
  generalize pI ib (L y).prev = q1 at *
  generalize pI ib (L y).next = q2 at *
  generalize pI ib (L x).first = q3 at *
  have HF := Lib.hid hfin
  clear hfin h hx hy hu hxy hr hp
  go_enter Tryz.func52, Tryz.ntmps52
  go_wp2_with (go_at_call 73; refine hU.out.mono ?_; rintro e w' ⟨rfl, rfl⟩)
  go_ret
  exact ⟨rfl, HF.out _ rfl⟩
theorem place_ok_np (h : Items w ib L S) {x y p : Int} (hx : S x) (hy : S y) (hu : (L y).up = -1) (hxy : x ≠ y) (fuel : Nat) (hr : climbLen fuel L y x = some false) (hp : (L x).last = p) (sp : S p) (hpx : p ≠ x) (hpy : p ≠ y) :
    Calls Tryz.prog 52 #[.pointer (some ⟨ib x, 0, none⟩), .pointer (some ⟨ib y, 0, none⟩), .pointer none] w fun e w' => e = .returned (.int .i64 0) ∧ Linked w ib S (placeL L x y (-1)) w' := by
  have cy1 := h.c1 hy
  have cy4 := h.c4 hy
  have cy5 := h.c5 hy
  have cx2 := h.c2 hx
  have cx3 := h.c3 hx
  rw [hu, pI_nil] at cy1
  rw [hp, pI_at ib (h.nn p sp)] at cx3
  have cp5 := h.c5 sp
  have fx := h.frozen hx
  have fy := h.frozen hy
  have fp := h.frozen sp
  have nxy := h.ne hx hy (hxy)
  have nyx := nxy.symm
  have nxp := h.ne hx sp (hpx.symm)
  have npx := nxp.symm
  have nyp := h.ne hy sp (hpy.symm)
  have npy := nyp.symm
  have hU := Lib.hid (under_any h (.inr hx) hy fuel false hr)
  rw [pI_at ib (h.nn x hx)] at hU
  have hfin : ∀ w' : World, w' = ((((((w.setCell ⟨ib y, 1, none⟩ (pI ib x)).setCell ⟨ib y, 5, none⟩ (pI ib (-1))).setCell ⟨ib y, 4, none⟩ (pI ib p)).setCell ⟨ib x, 3, none⟩ (pI ib y)).setCell ⟨ib p, 5, none⟩ (pI ib y))) → Linked w ib S (placeL L x y (-1)) w' := by
    rintro w' rfl
    refine ⟨?_, ((((((OnlyItems.refl w ib S).set hy 1 _).set hy 5 _).set hy 4 _).set hx 3 _).set sp 5 _)⟩
    have hI := (((((h.setUp (v := x) hy (.inr hx)).setNext (v := (-1)) hy (.inl rfl)).setPrev (v := p) hy (.inr sp)).setLast (v := y) hx (.inr hy)).setNext (v := y) sp (.inr hy))
    unfold placeL
    simp only [if_pos (show (-1 : Int) = -1 from rfl), hp, if_neg (show ¬ p = -1 from fun e => by have := h.nn p sp; omega), if_true]
    exact hI
  simp only [pI_at ib (h.nn x hx), pI_at ib (h.nn y hy), pI_at ib (h.nn p sp), pI_nil] at hfin
  generalize pI ib (L y).prev = q1 at *
  generalize pI ib (L y).next = q2 at *
  generalize pI ib (L x).first = q3 at *
  generalize pI ib (L p).next = q5 at *
  have HF := Lib.hid hfin
  clear hfin h hx hy hu hxy hr hp sp hpx hpy
  go_enter Tryz.func52, Tryz.ntmps52
  go_wp2_with (go_at_call 73; refine hU.out.mono ?_; rintro e w' ⟨rfl, rfl⟩)
  go_ret
  exact ⟨rfl, HF.out _ rfl⟩
theorem place_ok_bn (h : Items w ib L S) {x y b : Int} (hx : S x) (hy : S y) (hu : (L y).up = -1) (hxy : x ≠ y) (fuel : Nat) (hr : climbLen fuel L y x = some false) (hb : S b) (hbx : b ≠ x) (hby : b ≠ y) (hbu : (L b).up = x) (hp : (L b).prev = -1) :
    Calls Tryz.prog 52 #[.pointer (some ⟨ib x, 0, none⟩), .pointer (some ⟨ib y, 0, none⟩), .pointer (some ⟨ib b, 0, none⟩)] w fun e w' => e = .returned (.int .i64 0) ∧ Linked w ib S (placeL L x y b) w' := by
  have cy1 := h.c1 hy
  have cy4 := h.c4 hy
  have cy5 := h.c5 hy
  have cx2 := h.c2 hx
  have cx3 := h.c3 hx
  rw [hu, pI_nil] at cy1
  have cb1 := h.c1 hb
  have cb4 := h.c4 hb
  rw [hbu, pI_at ib (h.nn x hx)] at cb1
  rw [hp, pI_nil] at cb4
  have fx := h.frozen hx
  have fy := h.frozen hy
  have fb := h.frozen hb
  have nxy := h.ne hx hy (hxy)
  have nyx := nxy.symm
  have nxb := h.ne hx hb (hbx.symm)
  have nbx := nxb.symm
  have nyb := h.ne hy hb (hby.symm)
  have nby := nyb.symm
  have hU := Lib.hid (under_any h (.inr hx) hy fuel false hr)
  rw [pI_at ib (h.nn x hx)] at hU
  have hn := h.neq hx hx
  rw [decide_eq_true rfl] at hn
  have hfin : ∀ w' : World, w' = ((((((w.setCell ⟨ib y, 1, none⟩ (pI ib x)).setCell ⟨ib y, 5, none⟩ (pI ib b)).setCell ⟨ib y, 4, none⟩ (pI ib (-1))).setCell ⟨ib b, 4, none⟩ (pI ib y)).setCell ⟨ib x, 2, none⟩ (pI ib y))) → Linked w ib S (placeL L x y b) w' := by
    rintro w' rfl
    refine ⟨?_, ((((((OnlyItems.refl w ib S).set hy 1 _).set hy 5 _).set hy 4 _).set hb 4 _).set hx 2 _)⟩
    have hI := (((((h.setUp (v := x) hy (.inr hx)).setNext (v := b) hy (.inr hb)).setPrev (v := (-1)) hy (.inl rfl)).setPrev (v := y) hb (.inr hy)).setFirst (v := y) hx (.inr hy))
    unfold placeL
    simp only [if_neg (show ¬ b = -1 from fun e => by have := h.nn b hb; omega), hp, if_pos (show (-1 : Int) = -1 from rfl), if_true]
    exact hI
  simp only [pI_at ib (h.nn x hx), pI_at ib (h.nn y hy), pI_at ib (h.nn b hb), pI_nil] at hfin
  generalize pI ib (L y).prev = q1 at *
  generalize pI ib (L y).next = q2 at *
  generalize pI ib (L x).first = q3 at *
  generalize pI ib (L x).last = q4 at *
  have HF := Lib.hid hfin
  clear hfin h hx hy hu hxy hr hp hb hbx hby hbu
  go_enter Tryz.func52, Tryz.ntmps52
  go_wp2_with (go_at_call 73; refine hU.out.mono ?_; rintro e w' ⟨rfl, rfl⟩)
  go_ret
  exact ⟨rfl, HF.out _ rfl⟩
theorem place_ok_bp (h : Items w ib L S) {x y b p : Int} (hx : S x) (hy : S y) (hu : (L y).up = -1) (hxy : x ≠ y) (fuel : Nat) (hr : climbLen fuel L y x = some false) (hb : S b) (hbx : b ≠ x) (hby : b ≠ y) (hbu : (L b).up = x) (hp : (L b).prev = p) (sp : S p) (hpx : p ≠ x) (hpy : p ≠ y) (hpb : p ≠ b) :
    Calls Tryz.prog 52 #[.pointer (some ⟨ib x, 0, none⟩), .pointer (some ⟨ib y, 0, none⟩), .pointer (some ⟨ib b, 0, none⟩)] w fun e w' => e = .returned (.int .i64 0) ∧ Linked w ib S (placeL L x y b) w' := by
  have cy1 := h.c1 hy
  have cy4 := h.c4 hy
  have cy5 := h.c5 hy
  have cx2 := h.c2 hx
  have cx3 := h.c3 hx
  rw [hu, pI_nil] at cy1
  have cb1 := h.c1 hb
  have cb4 := h.c4 hb
  rw [hbu, pI_at ib (h.nn x hx)] at cb1
  rw [hp, pI_at ib (h.nn p sp)] at cb4
  have cp5 := h.c5 sp
  have fx := h.frozen hx
  have fy := h.frozen hy
  have fb := h.frozen hb
  have fp := h.frozen sp
  have nxy := h.ne hx hy (hxy)
  have nyx := nxy.symm
  have nxb := h.ne hx hb (hbx.symm)
  have nbx := nxb.symm
  have nxp := h.ne hx sp (hpx.symm)
  have npx := nxp.symm
  have nyb := h.ne hy hb (hby.symm)
  have nby := nyb.symm
  have nyp := h.ne hy sp (hpy.symm)
  have npy := nyp.symm
  have nbp := h.ne hb sp (hpb.symm)
  have npb := nbp.symm
  have hU := Lib.hid (under_any h (.inr hx) hy fuel false hr)
  rw [pI_at ib (h.nn x hx)] at hU
  have hn := h.neq hx hx
  rw [decide_eq_true rfl] at hn
  have hfin : ∀ w' : World, w' = ((((((w.setCell ⟨ib y, 1, none⟩ (pI ib x)).setCell ⟨ib y, 5, none⟩ (pI ib b)).setCell ⟨ib y, 4, none⟩ (pI ib p)).setCell ⟨ib b, 4, none⟩ (pI ib y)).setCell ⟨ib p, 5, none⟩ (pI ib y))) → Linked w ib S (placeL L x y b) w' := by
    rintro w' rfl
    refine ⟨?_, ((((((OnlyItems.refl w ib S).set hy 1 _).set hy 5 _).set hy 4 _).set hb 4 _).set sp 5 _)⟩
    have hI := (((((h.setUp (v := x) hy (.inr hx)).setNext (v := b) hy (.inr hb)).setPrev (v := p) hy (.inr sp)).setPrev (v := y) hb (.inr hy)).setNext (v := y) sp (.inr hy))
    unfold placeL
    simp only [if_neg (show ¬ b = -1 from fun e => by have := h.nn b hb; omega), hp, if_neg (show ¬ p = -1 from fun e => by have := h.nn p sp; omega), if_true]
    exact hI
  simp only [pI_at ib (h.nn x hx), pI_at ib (h.nn y hy), pI_at ib (h.nn b hb), pI_at ib (h.nn p sp)] at hfin
  generalize pI ib (L y).prev = q1 at *
  generalize pI ib (L y).next = q2 at *
  generalize pI ib (L x).first = q3 at *
  generalize pI ib (L x).last = q4 at *
  generalize pI ib (L p).next = q5 at *
  have HF := Lib.hid hfin
  clear hfin h hx hy hu hxy hr hp hb hbx hby hbu sp hpx hpy hpb
  go_enter Tryz.func52, Tryz.ntmps52
  go_wp2_with (go_at_call 73; refine hU.out.mono ?_; rintro e w' ⟨rfl, rfl⟩)
  go_ret
  exact ⟨rfl, HF.out _ rfl⟩
theorem drop_free (h : Items w ib L S) {x : Int} (hx : S x) (hu : (L x).up = -1) :
    Calls Tryz.prog 55 #[.pointer (some ⟨ib x, 0, none⟩)] w fun e w' => e = .returned (.int .i64 16) ∧ w = w' := by
  have cx1 := h.c1 hx
  rw [hu, pI_nil] at cx1
  clear h hx hu
  go_enter Tryz.func55, Tryz.ntmps55
  go_wp2
  go_ret
  exact ⟨rfl, rfl⟩
theorem drop_ok_nn (h : Items w ib L S) {x u : Int} (hx : S x) (hu : S u) (hxu : (L x).up = u) (hpv : (L x).prev = -1) (hnx : (L x).next = -1) (nxu' : x ≠ u) :
    Calls Tryz.prog 55 #[.pointer (some ⟨ib x, 0, none⟩)] w fun e w' => e = .returned (.int .i64 0) ∧ Linked w ib S (dropL L x) w' := by
  have cx1 := h.c1 hx
  have cx4 := h.c4 hx
  have cx5 := h.c5 hx
  have cu2 := h.c2 hu
  have cu3 := h.c3 hu
  rw [hxu, pI_at ib (h.nn u hu)] at cx1
  rw [hpv, pI_nil] at cx4
  rw [hnx, pI_nil] at cx5
  have fx := h.frozen hx
  have fu := h.frozen hu
  have nxu := h.ne hx hu nxu'
  have nux := nxu.symm
  have hfin : ∀ w' : World, w' = ((((((w.setCell ⟨ib u, 2, none⟩ (pI ib (-1))).setCell ⟨ib u, 3, none⟩ (pI ib (-1))).setCell ⟨ib x, 1, none⟩ (pI ib (-1))).setCell ⟨ib x, 4, none⟩ (pI ib (-1))).setCell ⟨ib x, 5, none⟩ (pI ib (-1)))) → Linked w ib S (dropL L x) w' := by
    rintro w' rfl
    refine ⟨?_, ((((((OnlyItems.refl w ib S).set hu 2 _).set hu 3 _).set hx 1 _).set hx 4 _).set hx 5 _)⟩
    have hI := (((((h.setFirst (v := (-1)) hu (.inl rfl)).setLast (v := (-1)) hu (.inl rfl)).setUp (v := (-1)) hx (.inl rfl)).setPrev (v := (-1)) hx (.inl rfl)).setNext (v := (-1)) hx (.inl rfl))
    unfold dropL
    simp only [hxu, hpv, hnx, if_pos (show (-1 : Int) = -1 from rfl), if_pos (show (-1 : Int) = -1 from rfl), if_true]
    exact hI
  simp only [pI_at ib (h.nn x hx), pI_at ib (h.nn u hu), pI_nil] at hfin
  generalize pI ib (L u).first = q2 at *
  generalize pI ib (L u).last = q3 at *
  have HF := Lib.hid hfin
  clear hfin h hx hu hxu hpv hnx nxu'
  go_enter Tryz.func55, Tryz.ntmps55
  go_wp2
  go_region
  all_goals go_wp2
  all_goals go_region
  all_goals go_wp2
  all_goals go_ret
  all_goals exact ⟨rfl, (HF.out _ rfl).drew.drew⟩
theorem drop_ok_nx (h : Items w ib L S) {x u q : Int} (hx : S x) (hu : S u) (hxu : (L x).up = u) (hpv : (L x).prev = -1) (hnx : (L x).next = q) (nxu' : x ≠ u) (sq : S q) (nxq' : x ≠ q) (nuq' : u ≠ q) :
    Calls Tryz.prog 55 #[.pointer (some ⟨ib x, 0, none⟩)] w fun e w' => e = .returned (.int .i64 0) ∧ Linked w ib S (dropL L x) w' := by
  have cx1 := h.c1 hx
  have cx4 := h.c4 hx
  have cx5 := h.c5 hx
  have cu2 := h.c2 hu
  have cu3 := h.c3 hu
  rw [hxu, pI_at ib (h.nn u hu)] at cx1
  rw [hpv, pI_nil] at cx4
  rw [hnx, pI_at ib (h.nn q sq)] at cx5
  have cq4 := h.c4 sq
  have fx := h.frozen hx
  have fu := h.frozen hu
  have fq := h.frozen sq
  have nxu := h.ne hx hu nxu'
  have nux := nxu.symm
  have nxq := h.ne hx sq nxq'
  have nqx := nxq.symm
  have nuq := h.ne hu sq nuq'
  have nqu := nuq.symm
  have hfin : ∀ w' : World, w' = ((((((w.setCell ⟨ib u, 2, none⟩ (pI ib q)).setCell ⟨ib q, 4, none⟩ (pI ib (-1))).setCell ⟨ib x, 1, none⟩ (pI ib (-1))).setCell ⟨ib x, 4, none⟩ (pI ib (-1))).setCell ⟨ib x, 5, none⟩ (pI ib (-1)))) → Linked w ib S (dropL L x) w' := by
    rintro w' rfl
    refine ⟨?_, ((((((OnlyItems.refl w ib S).set hu 2 _).set sq 4 _).set hx 1 _).set hx 4 _).set hx 5 _)⟩
    have hI := (((((h.setFirst (v := q) hu (.inr sq)).setPrev (v := (-1)) sq (.inl rfl)).setUp (v := (-1)) hx (.inl rfl)).setPrev (v := (-1)) hx (.inl rfl)).setNext (v := (-1)) hx (.inl rfl))
    unfold dropL
    simp only [hxu, hpv, hnx, if_pos (show (-1 : Int) = -1 from rfl), if_neg (show ¬ q = -1 from fun e => by have := h.nn q sq; omega), if_true]
    exact hI
  simp only [pI_at ib (h.nn x hx), pI_at ib (h.nn u hu), pI_at ib (h.nn q sq), pI_nil] at hfin
  generalize pI ib (L u).first = q2 at *
  generalize pI ib (L u).last = q3 at *
  generalize pI ib (L q).prev = q5 at *
  have HF := Lib.hid hfin
  clear hfin h hx hu hxu hpv hnx nxu' sq nxq' nuq'
  go_enter Tryz.func55, Tryz.ntmps55
  go_wp2
  go_region
  all_goals go_wp2
  all_goals go_region
  all_goals go_wp2
  all_goals go_ret
  all_goals exact ⟨rfl, (HF.out _ rfl).drew.drew⟩
theorem drop_ok_pn (h : Items w ib L S) {x u p : Int} (hx : S x) (hu : S u) (hxu : (L x).up = u) (hpv : (L x).prev = p) (hnx : (L x).next = -1) (nxu' : x ≠ u) (sp : S p) (nxp' : x ≠ p) (nup' : u ≠ p) :
    Calls Tryz.prog 55 #[.pointer (some ⟨ib x, 0, none⟩)] w fun e w' => e = .returned (.int .i64 0) ∧ Linked w ib S (dropL L x) w' := by
  have cx1 := h.c1 hx
  have cx4 := h.c4 hx
  have cx5 := h.c5 hx
  have cu2 := h.c2 hu
  have cu3 := h.c3 hu
  rw [hxu, pI_at ib (h.nn u hu)] at cx1
  rw [hpv, pI_at ib (h.nn p sp)] at cx4
  rw [hnx, pI_nil] at cx5
  have cp5 := h.c5 sp
  have fx := h.frozen hx
  have fu := h.frozen hu
  have fp := h.frozen sp
  have nxu := h.ne hx hu nxu'
  have nux := nxu.symm
  have nxp := h.ne hx sp nxp'
  have npx := nxp.symm
  have nup := h.ne hu sp nup'
  have npu := nup.symm
  have hfin : ∀ w' : World, w' = ((((((w.setCell ⟨ib p, 5, none⟩ (pI ib (-1))).setCell ⟨ib u, 3, none⟩ (pI ib p)).setCell ⟨ib x, 1, none⟩ (pI ib (-1))).setCell ⟨ib x, 4, none⟩ (pI ib (-1))).setCell ⟨ib x, 5, none⟩ (pI ib (-1)))) → Linked w ib S (dropL L x) w' := by
    rintro w' rfl
    refine ⟨?_, ((((((OnlyItems.refl w ib S).set sp 5 _).set hu 3 _).set hx 1 _).set hx 4 _).set hx 5 _)⟩
    have hI := (((((h.setNext (v := (-1)) sp (.inl rfl)).setLast (v := p) hu (.inr sp)).setUp (v := (-1)) hx (.inl rfl)).setPrev (v := (-1)) hx (.inl rfl)).setNext (v := (-1)) hx (.inl rfl))
    unfold dropL
    simp only [hxu, hpv, hnx, if_neg (show ¬ p = -1 from fun e => by have := h.nn p sp; omega), if_pos (show (-1 : Int) = -1 from rfl), if_true]
    exact hI
  simp only [pI_at ib (h.nn x hx), pI_at ib (h.nn u hu), pI_at ib (h.nn p sp), pI_nil] at hfin
  generalize pI ib (L u).first = q2 at *
  generalize pI ib (L u).last = q3 at *
  generalize pI ib (L p).next = q4 at *
  have HF := Lib.hid hfin
  clear hfin h hx hu hxu hpv hnx nxu' sp nxp' nup'
  go_enter Tryz.func55, Tryz.ntmps55
  go_wp2
  go_region
  all_goals go_wp2
  all_goals go_region
  all_goals go_wp2
  all_goals go_ret
  all_goals exact ⟨rfl, (HF.out _ rfl).drew.drew⟩
theorem drop_ok_px (h : Items w ib L S) {x u p q : Int} (hx : S x) (hu : S u) (hxu : (L x).up = u) (hpv : (L x).prev = p) (hnx : (L x).next = q) (nxu' : x ≠ u) (sp : S p) (nxp' : x ≠ p) (nup' : u ≠ p) (sq : S q) (nxq' : x ≠ q) (nuq' : u ≠ q) (npq' : p ≠ q) :
    Calls Tryz.prog 55 #[.pointer (some ⟨ib x, 0, none⟩)] w fun e w' => e = .returned (.int .i64 0) ∧ Linked w ib S (dropL L x) w' := by
  have cx1 := h.c1 hx
  have cx4 := h.c4 hx
  have cx5 := h.c5 hx
  have cu2 := h.c2 hu
  have cu3 := h.c3 hu
  rw [hxu, pI_at ib (h.nn u hu)] at cx1
  rw [hpv, pI_at ib (h.nn p sp)] at cx4
  rw [hnx, pI_at ib (h.nn q sq)] at cx5
  have cp5 := h.c5 sp
  have cq4 := h.c4 sq
  have fx := h.frozen hx
  have fu := h.frozen hu
  have fp := h.frozen sp
  have fq := h.frozen sq
  have nxu := h.ne hx hu nxu'
  have nux := nxu.symm
  have nxp := h.ne hx sp nxp'
  have npx := nxp.symm
  have nxq := h.ne hx sq nxq'
  have nqx := nxq.symm
  have nup := h.ne hu sp nup'
  have npu := nup.symm
  have nuq := h.ne hu sq nuq'
  have nqu := nuq.symm
  have npq := h.ne sp sq npq'
  have nqp := npq.symm
  have hfin : ∀ w' : World, w' = ((((((w.setCell ⟨ib p, 5, none⟩ (pI ib q)).setCell ⟨ib q, 4, none⟩ (pI ib p)).setCell ⟨ib x, 1, none⟩ (pI ib (-1))).setCell ⟨ib x, 4, none⟩ (pI ib (-1))).setCell ⟨ib x, 5, none⟩ (pI ib (-1)))) → Linked w ib S (dropL L x) w' := by
    rintro w' rfl
    refine ⟨?_, ((((((OnlyItems.refl w ib S).set sp 5 _).set sq 4 _).set hx 1 _).set hx 4 _).set hx 5 _)⟩
    have hI := (((((h.setNext (v := q) sp (.inr sq)).setPrev (v := p) sq (.inr sp)).setUp (v := (-1)) hx (.inl rfl)).setPrev (v := (-1)) hx (.inl rfl)).setNext (v := (-1)) hx (.inl rfl))
    unfold dropL
    simp only [hxu, hpv, hnx, if_neg (show ¬ p = -1 from fun e => by have := h.nn p sp; omega), if_neg (show ¬ q = -1 from fun e => by have := h.nn q sq; omega), if_true]
    exact hI
  simp only [pI_at ib (h.nn x hx), pI_at ib (h.nn u hu), pI_at ib (h.nn p sp), pI_at ib (h.nn q sq), pI_nil] at hfin
  generalize pI ib (L u).first = q2 at *
  generalize pI ib (L u).last = q3 at *
  generalize pI ib (L p).next = q4 at *
  generalize pI ib (L q).prev = q5 at *
  have HF := Lib.hid hfin
  clear hfin h hx hu hxu hpv hnx nxu' sp nxp' nup' sq nxq' nuq' npq'
  go_enter Tryz.func55, Tryz.ntmps55
  go_wp2
  go_region
  all_goals go_wp2
  all_goals go_region
  all_goals go_wp2
  all_goals go_ret
  all_goals exact ⟨rfl, (HF.out _ rfl).drew.drew⟩
end
end Go.Proofs.YtacobpmmpdadpaaGreat
