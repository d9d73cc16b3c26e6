/- The program's do. The program's New. The program's document: Read. A region that draws its order, and whose last operation waits for all others: the others in whatever order, then that one. The program's document: the closure of Read. The program's document: Read, whole; Links; Next; Len. DERIVED: THE SHELF's CONTRACTS AT THIS DUMP, IN PLAIN WORDS (tools/lay-plain.mjs out of 'TryzShelf.lean', which tools/lay-shelf.mjs wrote): THE SAME DECLARATIONS UNDER THE SAME NAMES: 'import', 'namespace', 'open', 'def', 'theorem' AND NOTHING ELSE: no command of the shelf's: FOR A HAND-IN. Each laying: the table of numbers ('.._ren') and one theorem, a field a fact of the dump's own or the kernel's comparison; each contract: ONE APPLICATION. The program's document: Loose. The program's document: Loose, the walk. The law's small example: same hands back true. -/
import Derived.Test.YtacobpmmpdadpaaGreatPk4
import Derived.Test.YtacobpmmpdadpaaGreatPk5
import Derived.Test.YtacobpmmpdadpaaGreatPk3
import Derived.Deep.RegionHeld3
import Derived.Deep.AppendLies
import Derived.Test.YtacobpmmpdadpaaGreatPk1
import Derived.StillTail
import Derived.Laws.EntriesVeiled
import Derived.Shelf.Small.Bits
import Derived.Shelf.Small.Strs
import Derived.Shelf.Strconv.Itoa0
import Derived.Shelf.Strings.Search1
import Derived.Shelf.Sort.Plain
import Derived.Ground.Names2Prog
import Derived.Shelf.Slices.SearchI
import Derived.Shelf.Slices.In.SortNone
import Derived.Test.YtacobpmmpdadpaaGreatProg
import Derived.Sort.OwnSorted
set_option linter.unusedVariables false
set_option linter.unusedSimpArgs false
namespace Go.Proofs.YtacobpmmpdadpaaGreat
open Go.RowKit Doc
section
variable {w0 w : World} {db mb : Nat} {nb ib : Int → Nat} {D : DataW Unit} {d : Doc}
theorem do_d (R : DomRep w0 w db mb nb ib D d) (hw : d.WF) (hfew : d.nodes.length ≤ 1000000) (x : Opr) (A : Option Addr) (c : Nat) (hl : RdV EAt 2 w (Imm w0.heap.size tsA w) (.slice A x.attrs.length c) x.attrs) (hs : SizedA x.attrs)
    (hi1 : (Lit.int .i64 x.node).wf = true) (hi2 : (Lit.int .i64 x.up).wf = true) (hi3 : (Lit.int .i64 x.before).wf = true) (ht : x.tag.size ≤ 9223372036854775807) (hnm : x.name.size ≤ 9223372036854775807) :
    Calls Tryz.prog 14 #[.pointer (some ⟨db, 0, none⟩), opV x A c] w (DStep w0 w db (d.doD x).2.2 (.tuple #[.int .i64 (d.doD x).1, .int .i64 (d.doD x).2.1])) := by
  have hg1 : Grow w (w.alloc (.cells (opC x A c) 42)) := grow_alloc (Below.refl _ _) _
  have R1 := R.grow hg1
  have HR := Lib.hid R
  have hl1 := hl.fr (Fr.of_grow (base := w0.heap.size) (ts := []) hg1) (fun t ht => by cases ht)
  unfold Doc.doD
  by_cases k1 : x.kind = 1
  · rw [if_pos k1]
    have HC := Lib.hid (Calls.mono (create_d R1 hw hfew x.tag x.key x.text x.attrs A c hl1 hs ht) fun e w' h => DStep.from hg1 h)
    generalize d.createD x.tag x.key x.text x.attrs = res at *
    obtain ⟨c0, c1, d1⟩ := res
    clear R R1 hl hl1 hw hs
    unfold opC at HC hg1
    have HG := Lib.hid hg1
    clear hg1
    unfold opV
    obtain ⟨xk, xn, xu, xb, xt, xy, xm, xx, xa⟩ := x
    simp only at *
    subst k1
    generalize xa.length = la at *
    go_enter Tryz.func14, Tryz.ntmps14
    go_wp2_with (go_at_call 17; refine HC.out.mono ?_; rintro e w1 ⟨rfl, hra⟩; have HRA := Lib.hid hra; clear hra)
    go_ret2
    exact ⟨rfl, HRA.out⟩
  rw [if_neg k1]
  by_cases k2 : x.kind = 2
  · rw [if_pos k2]
    have HC := Lib.hid (Calls.mono (insert_d R1 hw x.node x.up x.before hi1 hi2 hi3) fun e w' h => DStep.from hg1 h)
    generalize d.insertD x.node x.up x.before = res at *
    obtain ⟨c1, d1⟩ := res
    clear R R1 hl hl1 hw hs
    unfold opC at HC hg1
    have HG := Lib.hid hg1
    clear hg1
    unfold opV
    obtain ⟨xk, xn, xu, xb, xt, xy, xm, xx, xa⟩ := x
    simp only at *
    subst k2
    generalize xa.length = la at *
    go_enter Tryz.func14, Tryz.ntmps14
    go_wp2_with (go_at_call 18; refine HC.out.mono ?_; rintro e w1 ⟨rfl, hra⟩; have HRA := Lib.hid hra; clear hra)
    go_ret2
    exact ⟨rfl, HRA.out⟩
  rw [if_neg k2]
  by_cases k3 : x.kind = 3
  · rw [if_pos k3]
    have HC := Lib.hid (Calls.mono (move_d R1 hw x.node x.before hi1 hi3) fun e w' h => DStep.from hg1 h)
    generalize d.moveD x.node x.before = res at *
    obtain ⟨c1, d1⟩ := res
    clear R R1 hl hl1 hw hs
    unfold opC at HC hg1
    have HG := Lib.hid hg1
    clear hg1
    unfold opV
    obtain ⟨xk, xn, xu, xb, xt, xy, xm, xx, xa⟩ := x
    simp only at *
    subst k3
    generalize xa.length = la at *
    go_enter Tryz.func14, Tryz.ntmps14
    go_wp2_with (go_at_call 30; refine HC.out.mono ?_; rintro e w1 ⟨rfl, hra⟩; have HRA := Lib.hid hra; clear hra)
    go_ret2
    exact ⟨rfl, HRA.out⟩
  rw [if_neg k3]
  by_cases k4 : x.kind = 4
  · rw [if_pos k4]
    have HC := Lib.hid (Calls.mono (remove_d R1 hw x.node hi1) fun e w' h => DStep.from hg1 h)
    generalize d.removeD x.node = res at *
    obtain ⟨c1, d1⟩ := res
    clear R R1 hl hl1 hw hs
    unfold opC at HC hg1
    have HG := Lib.hid hg1
    clear hg1
    unfold opV
    obtain ⟨xk, xn, xu, xb, xt, xy, xm, xx, xa⟩ := x
    simp only at *
    subst k4
    generalize xa.length = la at *
    go_enter Tryz.func14, Tryz.ntmps14
    go_wp2_with (go_at_call 31; refine HC.out.mono ?_; rintro e w1 ⟨rfl, hra⟩; have HRA := Lib.hid hra; clear hra)
    go_ret2
    exact ⟨rfl, HRA.out⟩
  rw [if_neg k4]
  by_cases k5 : x.kind = 5
  · rw [if_pos k5]
    have HC := Lib.hid (Calls.mono (set_d R1 hw x.node x.name x.text hi1 hnm) fun e w' h => DStep.from hg1 h)
    generalize d.setD x.node x.name x.text = res at *
    obtain ⟨c1, d1⟩ := res
    clear R R1 hl hl1 hw hs
    unfold opC at HC hg1
    have HG := Lib.hid hg1
    clear hg1
    unfold opV
    obtain ⟨xk, xn, xu, xb, xt, xy, xm, xx, xa⟩ := x
    simp only at *
    subst k5
    generalize xa.length = la at *
    go_enter Tryz.func14, Tryz.ntmps14
    go_wp2_with (go_at_call 32; refine HC.out.mono ?_; rintro e w1 ⟨rfl, hra⟩; have HRA := Lib.hid hra; clear hra)
    go_ret2
    exact ⟨rfl, HRA.out⟩
  rw [if_neg k5]
  by_cases k6 : x.kind = 6
  · rw [if_pos k6]
    have HC := Lib.hid (Calls.mono (del_d R1 hw x.node x.name hi1) fun e w' h => DStep.from hg1 h)
    generalize d.delD x.node x.name = res at *
    obtain ⟨c1, d1⟩ := res
    clear R R1 hl hl1 hw hs
    unfold opC at HC hg1
    have HG := Lib.hid hg1
    clear hg1
    unfold opV
    obtain ⟨xk, xn, xu, xb, xt, xy, xm, xx, xa⟩ := x
    simp only at *
    subst k6
    generalize xa.length = la at *
    go_enter Tryz.func14, Tryz.ntmps14
    go_wp2_with (go_at_call 33; refine HC.out.mono ?_; rintro e w1 ⟨rfl, hra⟩; have HRA := Lib.hid hra; clear hra)
    go_ret2
    exact ⟨rfl, HRA.out⟩
  rw [if_neg k6]
  by_cases k7 : x.kind = 7
  · rw [if_pos k7]
    have HC := Lib.hid (Calls.mono (text_d R1 hw x.node x.text hi1) fun e w' h => DStep.from hg1 h)
    generalize d.textD x.node x.text = res at *
    obtain ⟨c1, d1⟩ := res
    clear R R1 hl hl1 hw hs
    unfold opC at HC hg1
    have HG := Lib.hid hg1
    clear hg1
    unfold opV
    obtain ⟨xk, xn, xu, xb, xt, xy, xm, xx, xa⟩ := x
    simp only at *
    subst k7
    generalize xa.length = la at *
    go_enter Tryz.func14, Tryz.ntmps14
    go_wp2_with (go_at_call 34; refine HC.out.mono ?_; rintro e w1 ⟨rfl, hra⟩; have HRA := Lib.hid hra; clear hra)
    go_ret2
    exact ⟨rfl, HRA.out⟩
  rw [if_neg k7]
  have HF := Lib.hid fun W hW => DStep.same R (.tuple #[.int .i64 0, .int .i64 0]) (W := W) hW
  clear R R1 hl hl1 hw hs
  unfold opV
  unfold opC at hg1
  have HG := Lib.hid hg1
  clear hg1
  obtain ⟨xk, xn, xu, xb, xt, xy, xm, xx, xa⟩ := x
  simp only at *
  generalize xa.length = la at *
  go_enter Tryz.func14, Tryz.ntmps14
  go_wp2
  go_ret2
  exact HF.out _ HG.out
end
end Go.Proofs.YtacobpmmpdadpaaGreat
set_option linter.unusedVariables false
set_option linter.unusedSimpArgs false
namespace Go.Proofs.YtacobpmmpdadpaaGreat
open Go.RowKit Doc
theorem mapIs_empty (nb : Int → Nat) : MapIs (.map [] : DataW Unit) (fun _ => False) nb := ⟨fun _ h => h.elim, fun _ _ => rfl, fun _ => by simp [Maps.has]⟩
theorem new_has {next : Int} (m : Int) : (Doc.new next).has m ↔ m = 0 := by rw [has_iff, new_get]; by_cases e : m = 0 <;> simp [e]
theorem new_lk {next : Int} (m : Int) : (Doc.new next).lk m = ⟨-1, -1, -1, -1, -1⟩ := by
  have hu : ∀ m, (Doc.new next).upOf m = -1 := fun m => by unfold upOf; rw [new_get]; by_cases e : m = 0 <;> simp [e]
  have hk : ∀ m, (Doc.new next).kidsOf m = [] := fun m => by unfold kidsOf; rw [new_get]; by_cases e : m = 0 <;> simp [e]
  unfold Doc.lk
  rw [hu, hk, hk]
  rfl
/-- The world ahead of the map's first store. -/
def newW (w : World) : World := (((w.alloc (.map #[] 0)).alloc (.cells (itemC 0) 94)).alloc (.cells #[.pointer (some ⟨w.heap.size + 1, 0, none⟩), .string ⟨#[]⟩, .string ⟨#[]⟩, .string ⟨#[]⟩, .slice none 0 0] 59))
theorem new_rep {w0 w : World} (hg : Grow w0 w) (next : Int) :
    (Instr.mapUpdate 60 (.map (some w.heap.size)) (.int .i64 0) (.pointer (some ⟨w.heap.size + 1 + 1, 0, none⟩))).run Tryz.prog (newW w) = .ok () (putW (newW w) w.heap.size 0 (w.heap.size + 1 + 1)) ∧
    DAt w0 ((putW (newW w) w.heap.size 0 (w.heap.size + 1 + 1)).alloc (.cells #[.map (some w.heap.size), .int .i64 next] 62)) (putW (newW w) w.heap.size 0 (w.heap.size + 1 + 1)).heap.size (Doc.new next) ∧
    Grow w ((putW (newW w) w.heap.size 0 (w.heap.size + 1 + 1)).alloc (.cells #[.map (some w.heap.size), .int .i64 next] 62)) := by
  have hm0 := World.ownsMap_made w Tryz.prog 3 dE
  have hm1 := (hm0.alloc (.cells (itemC 0) 94)).alloc (.cells #[.pointer (some ⟨w.heap.size + 1, 0, none⟩), .string ⟨#[]⟩, .string ⟨#[]⟩, .string ⟨#[]⟩, .slice none 0 0] 59)
  obtain ⟨hrun, hm2, hg2⟩ := putW_run (W := newW w) hm1 (by omega) (id := 0) (by decide) (w.heap.size + 1 + 1)
  have hgn : Grow w (newW w) := grow_alloc (grow_alloc (grow_alloc (Below.refl _ _) _) _) _
  have b1 : (newW w).heap[w.heap.size + 1]? = some (.cells (itemC 0) 94 (0, 0)) := by
    have := heap_alloc_new (w.alloc (.map #[] 0)) (.cells (itemC 0) 94)
    rw [show (w.alloc (.map #[] 0)).heap.size = w.heap.size + 1 by simp] at this
    exact ((grow_alloc (Below.refl _ _) _ : Grow _ _).block _ (Array.getElem?_eq_some_iff.1 this).1).trans this
  have b2 : (newW w).heap[w.heap.size + 1 + 1]? = some (.cells #[.pointer (some ⟨w.heap.size + 1, 0, none⟩), .string ⟨#[]⟩, .string ⟨#[]⟩, .string ⟨#[]⟩, .slice none 0 0] 59 (0, 0)) := by
    have := heap_alloc_new ((w.alloc (.map #[] 0)).alloc (.cells (itemC 0) 94)) (.cells #[.pointer (some ⟨w.heap.size + 1, 0, none⟩), .string ⟨#[]⟩, .string ⟨#[]⟩, .string ⟨#[]⟩, .slice none 0 0] 59)
    rw [show ((w.alloc (.map #[] 0)).alloc (.cells (itemC 0) 94)).heap.size = w.heap.size + 1 + 1 by simp] at this
    exact this
  obtain ⟨W, hW⟩ : ∃ W, W = putW (newW w) w.heap.size 0 (w.heap.size + 1 + 1) := ⟨_, rfl⟩
  rw [← hW] at hm2 hg2 hrun ⊢
  have hbs := hg.size
  have hgW : Grow w W := Below.grown hgn hg2 hgn.size (fun k hk => by cases hk; exact Nat.le_refl _)
  have hsz : w.heap.size ≤ W.heap.size := hgW.size
  have k1 : W.heap[w.heap.size + 1]? = some (.cells (itemC 0) 94 (0, 0)) := (hg2.block _ (Array.getElem?_eq_some_iff.1 b1).1 (fun e => by injection e with e; omega)).trans b1
  have k2 : W.heap[w.heap.size + 1 + 1]? = some (.cells #[.pointer (some ⟨w.heap.size + 1, 0, none⟩), .string ⟨#[]⟩, .string ⟨#[]⟩, .string ⟨#[]⟩, .slice none 0 0] 59 (0, 0)) := (hg2.block _ (Array.getElem?_eq_some_iff.1 b2).1 (fun e => by injection e with e; omega)).trans b2
  have hga : Grow W (W.alloc (.cells #[.map (some w.heap.size), .int .i64 next] 62)) := grow_alloc (Below.refl _ _) _
  have l1 := (hga.block _ (Array.getElem?_eq_some_iff.1 k1).1).trans k1
  have l2 := (hga.block _ (Array.getElem?_eq_some_iff.1 k2).1).trans k2
  refine ⟨hrun, ⟨w.heap.size, fun _ => w.heap.size + 1 + 1, fun _ => w.heap.size + 1, (.map [] : DataW Unit).put (.int .i64 0) (.lit (.int .i64 ((w.heap.size + 1 + 1 : Nat) : Int))), ?_⟩, Grow.trans' hgW hga⟩
  refine ⟨by omega, by omega, fun _ _ => by show w0.heap.size ≤ w.heap.size + 1 + 1; omega, fun _ _ => by show w0.heap.size ≤ w.heap.size + 1; omega, heap_alloc_new W _, ⟨1, by omega, hm2.alloc _⟩, ((mapIs_empty (fun _ => w.heap.size + 1 + 1)).put ?_ (nb' := fun _ => w.heap.size + 1 + 1) rfl (fun _ h => h.elim)).congr (fun m => ?_) (fun _ _ => rfl), fun x n hx => ?_, fun x y hx hy _ => ?_, ⟨fun m hm => ?_, fun a b ha hb _ => ?_, fun m hm => ?_, fun m hm => ?_⟩⟩
  · exact (hm0.tidy lawI).isMap
  · rw [new_has]; simp
  · rw [new_get] at hx
    by_cases e : x = 0
    · rw [if_pos e] at hx
      cases hx
      exact ⟨none, 0, l2, nilRdV _ _ _ _⟩
    · rw [if_neg e] at hx; cases hx
  · rw [(new_has x).1 hx, (new_has y).1 hy]
  · rw [(new_has m).1 hm]; exact Int.le_refl _
  · rw [(new_has a).1 ha, (new_has b).1 hb]
  · rw [new_lk, (new_has m).1 hm]; exact l1
  · rw [new_lk]; simp
theorem new_d (w0 w : World) (hg : Grow w0 w) (next : Int) (h1 : 1 ≤ next) (h2 : next ≤ 4294967296) :
    Calls Tryz.prog 7 #[.int .i64 next] w fun e w' => ∃ db, e = .returned (.pointer (some ⟨db, 0, none⟩)) ∧ DAt w0 w' db (Doc.new next) ∧ Grow w w' := by
  obtain ⟨hrun, hd, hgr⟩ := new_rep hg next
  unfold newW itemC at hrun
  have HD := Lib.hid hd
  have HG := Lib.hid hgr
  have HRUN := Lib.hid hrun
  have h1b : (next < 1) = False := by simp; omega
  have h2b : (4294967296 < next) = False := by simp; omega
  clear hd hgr hrun h1 h2
  go_enter Tryz.func7, Tryz.ntmps7
  go_upto_region 3 with fail
  have hrun := HRUN.out
  have hmk : (Instr.makeMap 60 none).run Tryz.prog w = .ok (.map (some w.heap.size)) (w.alloc (.map #[] 0)) := rfl
  go_wp2_with (go_at_call 19; refine (make_any _ _).mono ?_; rintro e' w4 ⟨rfl, rfl⟩)
  go_ret
  exact ⟨_, rfl, HD.out, HG.out⟩
theorem new_d_nil (w : World) (next : Int) (h : next < 1 ∨ 4294967296 < next) :
    Calls Tryz.prog 7 #[.int .i64 next] w fun e w' => e = .returned (.pointer none) ∧ w = w' := by
  by_cases h1 : next < 1
  · go_enter Tryz.func7, Tryz.ntmps7
    go_wp2
    go_ret
    exact ⟨rfl, rfl⟩
  · have h2 : 4294967296 < next := by omega
    go_enter Tryz.func7, Tryz.ntmps7
    go_wp2
    go_ret
    exact ⟨rfl, rfl⟩
end Go.Proofs.YtacobpmmpdadpaaGreat
set_option linter.unusedVariables false
set_option linter.unusedSimpArgs false
namespace Go.Proofs.YtacobpmmpdadpaaGreat
open Go.RowKit Doc
def tsQ : List Nat := [54, 31]
/-- The closure of Read: it has captured the variables d, out and below. -/
def belowV (bd bo bb : Nat) : Value := .func (.func 26) #[] #[.pointer (some ⟨bd, 0, none⟩), .pointer (some ⟨bo, 0, none⟩), .pointer (some ⟨bb, 0, none⟩)]
/-- What has been read so far. -/
structure RB (ws : World) (db bd bo bb : Nat) (W : World) (v : Value) (raws : List RR) (acc : List Rw) : Prop where
  hd : W.heap[bd]? = some (.cells #[.pointer (some ⟨db, 0, none⟩)] 25 (0, 0))
  ho : W.heap[bo]? = some (.cells #[v] 31 (0, 0))
  hb : W.heap[bb]? = some (.cells #[belowV bd bo bb] 65 (0, 0))
  lo : ws.heap.size ≤ bo
  own : Own ws W 54 6 v acc.length (raws.flatMap encR)
  good : Pw (GoodR (Imm ws.heap.size tsQ W) W) raws acc
theorem GoodR.fr {ws W W' : World} {x : RR} {r : Rw} (h : GoodR (Imm ws.heap.size tsQ W) W x r) (hf : Fr ws.heap.size tsQ W W') : GoodR (Imm ws.heap.size tsQ W') W' x r :=
  ⟨h.id, h.up, h.tag, h.key, h.text, h.attrs.fr hf fun _ h => h⟩
section
variable {ws W W' : World} {db bd bo bb : Nat} {v : Value} {raws : List RR} {acc : List Rw}
theorem RB.grow (h : RB ws db bd bo bb W v raws acc) (hg : Grow W W') : RB ws db bd bo bb W' v raws acc :=
  ⟨(hg.block bd (Array.getElem?_eq_some_iff.1 h.hd).1).trans h.hd, (hg.block bo (Array.getElem?_eq_some_iff.1 h.ho).1).trans h.ho, (hg.block bb (Array.getElem?_eq_some_iff.1 h.hb).1).trans h.hb, h.lo, h.own.of_grow hg, Pw.imp h.good fun a b hab => GoodR.fr hab (Fr.of_grow hg)⟩
theorem RB.ne (h : RB ws db bd bo bb W v raws acc) : v.ownBlock ≠ some bo := fun e => by
  rcases h.own.1.2 with ⟨rfl, _⟩ | ⟨g, cap, cur, rfl, h1, h2, _⟩
  · simp [Value.ownBlock] at e
  · have : g = bo := by simpa [Value.ownBlock] using e
    subst this
    rw [h.ho] at h2
    injection h2 with h2
    injection h2 with _ h2 _
    revert h2; decide
theorem New.immQ {w0 w w' : World} {e b : Nat} (h : New w w' e b) (he : e ∉ tsQ) : Imm w0.heap.size tsQ w' b := by
  obtain ⟨h1, c, h2⟩ := h
  exact ⟨(Array.getElem?_eq_some_iff.1 h2).1, .inr ⟨_, h2, he⟩⟩
theorem grownBy_growQ {r : Option Nat} {n : Nat} {cs : List Value} (hg : W.grownBy W' r) (hr : ∀ g, r = some g → ws.heap.size ≤ g ∧ ∃ c, W.heap[g]? = some (.cells c 54 (0, 0))) : Fr ws.heap.size tsQ W W' := by
  refine ⟨hg.os, hg.tape, hg.output, hg.size, fun b hb => hg.block b hb.1 fun e => ?_⟩
  obtain ⟨h1, c, h2⟩ := hr b e.symm
  rcases hb.2 with h | ⟨o, h3, h4⟩
  · omega
  · rw [h2] at h3; cases h3; exact h4 (by simp [tyo, tsQ])
/-- A row is put behind what has been read. -/
theorem RB.app (h : RB ws db bd bo bb W v raws acc) {W1 w1 : World} {v1 : Value} {x : RR} {r : Rw} (hW : Grow W W1) (hown : w1.ownsRow ws.heap.size 54 6 v1 (acc.length + 1) (raws.flatMap encR ++ encR x)) (hg : W1.grownBy w1 v.ownBlock) (hx : GoodR (Imm ws.heap.size tsQ W1) W1 x r) :
    w1.cell? ⟨bo, 0, none⟩ = some v ∧ w1.frozen? ⟨bo, 0, none⟩ = false ∧ RB ws db bd bo bb (w1.setCell ⟨bo, 0, none⟩ v1) v1 (raws ++ [x]) (acc ++ [r]) := by
  have h1 := h.grow hW
  have hrow : ∀ g, v.ownBlock = some g → ws.heap.size ≤ g ∧ ∃ c, W1.heap[g]? = some (.cells c 54 (0, 0)) := fun g e => by
    rcases h1.own.1.2 with ⟨rfl, _⟩ | ⟨g', cap, cur, rfl, a1, a2, _⟩
    · simp [Value.ownBlock] at e
    · have : g' = g := by simpa [Value.ownBlock] using e
      subst this
      exact ⟨a1, _, a2⟩
  have hfr : Fr ws.heap.size tsQ W1 w1 := grownBy_growQ (n := 0) (cs := []) hg hrow
  have keep : ∀ b o, W1.heap[b]? = some o → tyo o ∉ tsQ → w1.heap[b]? = some o := fun b o hb ho => (hfr.keep b ⟨(Array.getElem?_eq_some_iff.1 hb).1, .inr ⟨o, hb, ho⟩⟩).trans hb
  have kd := keep _ _ h1.hd (by simp [tyo, tsQ])
  have kb := keep _ _ h1.hb (by simp [tyo, tsQ])
  have ko : w1.heap[bo]? = some (.cells #[v] 31 (0, 0)) := (hg.block bo (Array.getElem?_eq_some_iff.1 h1.ho).1 (fun e => h1.ne e.symm)).trans h1.ho
  have ndo : bd ≠ bo := fun e => by rw [e, ko] at kd; injection kd with kd; injection kd with _ kd _; revert kd; decide
  have nbo : bb ≠ bo := fun e => by rw [e, ko] at kb; injection kb with kb; injection kb with _ kb _; revert kb; decide
  have hset : Fr ws.heap.size tsQ w1 (w1.setCell ⟨bo, 0, none⟩ v1) := (Fr.refl _ _ _).setCell _ h.lo ko (by simp [tyo, tsQ])
  have hgrow : Grow ws w1 := Below.grown h1.own.2 hg h1.own.2.size (fun k hk => h1.own.base k hk)
  have hne1 : v1.ownBlock ≠ some bo := fun e => by
    rcases hown.2 with ⟨rfl, _⟩ | ⟨g, cap, cur, rfl, a1, a2, _⟩
    · simp [Value.ownBlock] at e
    · have : g = bo := by simpa [Value.ownBlock] using e
      subst this
      rw [ko] at a2
      injection a2 with a2
      injection a2 with _ a2 _
      revert a2; decide
  refine ⟨by simp [World.cell?, ko], by simp [World.frozen?, ko], ?_, ?_, ?_, h.lo, ?_, ?_⟩
  · rw [heap_setCell_other _ _ _ _ ndo]; exact kd
  · rw [heap_setCell_same w1 bo 0 _ _ _ ko]; rfl
  · rw [heap_setCell_other _ _ _ _ nbo]; exact kb
  · refine ⟨?_, Below.setCell hgrow h.lo v1⟩
    rw [List.length_append, List.flatMap_append]
    have : ([x].flatMap encR) = encR x := by simp
    rw [this]
    exact hown.kept (row := some bo) ⟨rfl, rfl, rfl, by simp, fun k _ hk => heap_setCell_other _ _ _ _ (fun e => hk (by rw [e]))⟩ (by
      rcases hob : v1.ownBlock with _ | g
      · exact .inl rfl
      · exact .inr (by rw [← hob]; exact hne1))
  · refine Pw.append (Pw.imp h1.good fun a b hab => GoodR.fr (GoodR.fr hab hfr) hset) ?_
    exact ⟨GoodR.fr (GoodR.fr hx hfr) hset, trivial⟩
def RBPost (ws : World) (db bd bo bb : Nat) (r : List Rw) (e : Ending) (w' : World) : Prop := e = .returned (.tuple #[]) ∧ ∃ v' raws', RB ws db bd bo bb w' v' raws' r
end
end Go.Proofs.YtacobpmmpdadpaaGreat
set_option linter.unusedVariables false
set_option linter.unusedSimpArgs false
namespace Go.Proofs.YtacobpmmpdadpaaGreat
open Go
section
variable {P : Program} {md : Region.Mode} {Q : Exit → Act → World → Prop} {o : Oper} {l : List Oper}
/-- What is owed behind the others. -/
def lastPost (P : Program) (o : Oper) (Q : Exit → Act → World → Prop) : Exit → Act → World → Prop
  | .normal, a, w => o.wp P a w (Q .normal) Q
  | e, a, w => Q e a w
theorem wp_lastPost {oi : Oper} {a : Act} {w : World} {K K' : Act → World → Prop} (hK : ∀ a w, K' a w → K a w) (h : oi.wp P a w K' (lastPost P o Q)) : oi.wp P a w K Q := by
  unfold Oper.wp at *
  generalize (execOp a.eval oi).run P w = r at *
  cases r with
  | ok n w' =>
    cases n <;> simp only [Oper.upon] at h ⊢
    case value u => exact hK _ _ h
    case skip => exact hK _ _ h
    case defer d => exact hK _ _ h
    case enter f args =>
      refine Calls.mono h fun e w'' he => ?_
      cases e with
      | returned u => exact hK _ _ he
      | panicked c => exact he
      | outgrown => exact he
    case row row args => exact Rows.mono h fun u w'' he => hK _ _ he
  | halt x w' =>
    cases x <;> simp only [Oper.upon] at h ⊢
    case panic u => exact h
/-- The checks. -/
def lastB (md : Region.Mode) (l : List Oper) (o : Oper) : Bool :=
  Region.sinkB md (l ++ [o]).toArray l.length && Region.chainB md (l ++ [o]).toArray l.length && (List.range l.length).all (fun i => match l[i]? with | some oi => oi.guard.isNone && oi.after.all (fun e => decide (e.on < i)) | none => true) && o.guard.isNone && o.after.all (fun e => decide (e.on < l.length))
theorem getD_eq {L L' : Array Bool} {n i : Nat} (h : ∀ i, i < n → L'[i]? = L[i]?) (hi : i < n) (b : Bool) : L'.getD i b = L.getD i b := by
  have := h i hi
  simp only [Array.getD_eq_getD_getElem?, this]
theorem ready_all {L : Array Bool} (hsz : L.size = l.length) (hb : ∀ (i : Nat) (oi : Oper), l[i]? = some oi → ∀ e ∈ oi.after, e.on < i) (h : Region.ready md l.toArray L = []) : ∀ i, i < l.length → L.getD i false = true := by
  intro i
  induction i using Nat.strongRecOn with
  | _ i ih =>
    intro hi
    cases hl : L.getD i false with
    | true => rfl
    | false =>
      have hr : i ∈ Region.ready md l.toArray L := by
        rw [mem_ready]
        refine ⟨getD_in (by omega) hl, l[i], by simp [hi], fun e he _ => ?_⟩
        have := hb i l[i] (List.getElem?_eq_getElem hi) e he
        exact ih e.on this (by omega)
      rw [h] at hr
      cases hr
theorem wpAny_last (hB : lastB md l o = true) : ∀ (f : Nat) (L' L : Array Bool) (a : Act) (w : World), L'.size = l.length → (∀ i, i < l.length → L'[i]? = L[i]?) → HeadInv md (l ++ [o]).toArray l.length L →
    wpAny P md l.toArray (lastPost P o Q) f L' a w → wpAny P md (l ++ [o]).toArray Q (f + 1) L a w := by
  simp only [lastB, Bool.and_eq_true, Option.isNone_iff_eq_none] at hB
  obtain ⟨⟨⟨⟨hs, hc⟩, hall⟩, hog⟩, hoa⟩ := hB
  have hgd : ∀ (i : Nat) (oi : Oper), l[i]? = some oi → oi.guard = none ∧ ∀ e ∈ oi.after, e.on < i := fun i oi hi => by
    have := List.all_eq_true.1 hall i (List.mem_range.2 (List.getElem?_eq_some_iff.1 hi).1)
    rw [hi] at this
    simp only [Bool.and_eq_true, Option.isNone_iff_eq_none] at this
    refine ⟨this.1, fun e he => ?_⟩
    have h2 := Array.all_eq_true'.1 this.2 e he
    simpa using h2
  have hoa' : ∀ e ∈ o.after, e.on < l.length := fun e he => by
    have h2 := Array.all_eq_true'.1 hoa e he
    simpa using h2
  have hn : l.length < (l ++ [o]).toArray.size := by simp
  have hsame : ∀ i, i < l.length → (l ++ [o]).toArray[i]? = l.toArray[i]? := fun i hi => by simp [List.getElem?_append_left hi]
  have hlast : (l ++ [o]).toArray[l.length]? = some o := by simp
  -- when all others have come up
  have fin : ∀ (f : Nat) (L' L : Array Bool) (a : Act) (w : World), L'.size = l.length → (∀ i, i < l.length → L'[i]? = L[i]?) → HeadInv md (l ++ [o]).toArray l.length L → Region.ready md l.toArray L' = [] → lastPost P o Q .normal a w → wpAny P md (l ++ [o]).toArray Q (f + 1) L a w := by
    intro f L' L a w hsz hL inv hr hq
    have hdone := ready_all hsz (fun i oi hi => (hgd i oi hi).2) hr
    have hdone' : ∀ i, i < l.length → L.getD i false = true := fun i hi => by rw [← getD_eq hL hi]; exact hdone i hi
    have hrd : l.length ∈ Region.ready md (l ++ [o]).toArray L := by
      rw [mem_ready]
      exact ⟨inv.tail _ (Nat.le_refl _) hn, o, hlast, fun e he _ => hdone' _ (hoa' e he)⟩
    refine ⟨fun h => (by rw [h] at hrd; cases hrd), fun i hi => ?_⟩
    have hil : i = l.length := by
      obtain ⟨h1, oi, h2, _⟩ := mem_ready.1 hi
      have h3 := (Array.getElem?_eq_some_iff.1 h2).1
      simp at h3
      rcases Nat.lt_or_ge i l.length with h | h
      · have := hdone' i h
        rw [getD_both h1] at this
        cases this
      · omega
    subst hil
    unfold wpOp
    simp only [hlast]
    have hw : Region.wanted o (yielded (l ++ [o]).toArray a.tmps) = true := by simp [Region.wanted, hog]
    rw [if_pos hw]
    left
    refine Oper.wp_mono (fun a' w' h => ?_) (show o.wp P a w (Q .normal) Q from hq)
    refine wpAny_done ?_ h f
    rw [List.eq_nil_iff_forall_not_mem]
    intro j hj
    obtain ⟨h1, oj, h2, _⟩ := mem_ready.1 hj
    have h3 := (Array.getElem?_eq_some_iff.1 h2).1
    simp at h3
    have hsz2 : L.size = l.length + 1 := by rw [inv.size]; simp
    by_cases e : j = l.length
    · subst e
      have : (L.setIfInBounds l.length true).getD l.length true = true := by simp [hsz2]
      rw [this] at h1; cases h1
    · rw [getD_set_ne true (fun e' => e e'.symm)] at h1
      have := hdone' j (by omega)
      rw [getD_both h1] at this
      cases this
  intro f
  induction f with
  | zero =>
    intro L' L a w hsz hL inv h
    exact fin 0 L' L a w hsz hL inv h.1 h.2
  | succ f ih =>
    intro L' L a w hsz hL inv h
    by_cases hr : Region.ready md l.toArray L' = []
    · exact fin (f + 1) L' L a w hsz hL inv hr (h.1 hr)
    · obtain ⟨j, hj⟩ := List.exists_mem_of_ne_nil _ hr
      have up : ∀ i, i < l.length → (i ∈ Region.ready md l.toArray L' ↔ i ∈ Region.ready md (l ++ [o]).toArray L) := fun i hi => by
        rw [mem_ready, mem_ready, getD_eq hL hi, hsame i hi]
        constructor
        · rintro ⟨h1, oi, h2, h3⟩
          refine ⟨h1, oi, h2, fun e he hb => ?_⟩
          have h4 := (hgd i oi (by simpa using h2)).2 e he
          rw [← getD_eq hL (by omega)]
          exact h3 e he hb
        · rintro ⟨h1, oi, h2, h3⟩
          refine ⟨h1, oi, h2, fun e he hb => ?_⟩
          have h4 := (hgd i oi (by simpa using h2)).2 e he
          rw [getD_eq hL (by omega)]
          exact h3 e he hb
      have hjl : j < l.length := by
        obtain ⟨_, oj, h2, _⟩ := mem_ready.1 hj
        have := (Array.getElem?_eq_some_iff.1 h2).1
        simpa using this
      have hj' := (up j hjl).1 hj
      refine ⟨fun h0 => (by rw [h0] at hj'; cases hj'), fun i hi => ?_⟩
      have hil : i < l.length := by
        rcases Nat.lt_or_ge i l.length with h' | h'
        · exact h'
        · exact absurd hi (tail_waits hs hc hn inv _ j rfl hjl (mem_ready.1 hj').1 i h')
      have hi' := (up i hil).2 hi
      have h1 := h.2 i hi'
      have hoi : l.toArray[i]? = some l[i] := by simp [hil]
      have hoi2 : (l ++ [o]).toArray[i]? = some l[i] := (hsame i hil).trans hoi
      have hgi : l[i].guard = none := (hgd i l[i] (List.getElem?_eq_getElem hil)).1
      unfold wpOp at h1 ⊢
      simp only [hoi, hoi2] at h1 ⊢
      have hw : ∀ ys, Region.wanted l[i] ys = true := fun ys => by simp [Region.wanted, hgi]
      rw [if_pos (hw _)] at h1 ⊢
      have ihK : ∀ a' w', wpAny P md l.toArray (lastPost P o Q) f (L'.setIfInBounds i true) a' w' → wpAny P md (l ++ [o]).toArray Q (f + 1) (L.setIfInBounds i true) a' w' := fun a' w' h' =>
        ih (L'.setIfInBounds i true) (L.setIfInBounds i true) a' w' (by simpa using hsz) (fun k hk => by
          by_cases e : i = k
          · subst e
            have hsz2 : L.size = l.length + 1 := by rw [inv.size]; simp
            rw [Array.getElem?_setIfInBounds_self_of_lt (by omega), Array.getElem?_setIfInBounds_self_of_lt (by omega)]
          · rw [Array.getElem?_setIfInBounds_ne e, Array.getElem?_setIfInBounds_ne e]; exact hL k hk) (inv.set hi hil) h'
      rcases h1 with h1 | ⟨h1, h2⟩
      · exact .inl (wp_lastPost ihK h1)
      · exact .inr ⟨h1, h2⟩
theorem wp_region_last {id : Nat} {a : Act} {w : World} (hm : P.follows .mixedOrders = true) (hB : lastB .any l o = true)
    (h : wpAny P .any l.toArray (lastPost P o Q) l.toArray.size (Array.replicate l.toArray.size false) a { w with drawn := w.drawn + 1 }) : (Code.region id (l ++ [o]).toArray true).wp P Q a w := by
  refine wp_region_any hm ?_
  have := wpAny_last (Q := Q) hB l.toArray.size (Array.replicate l.toArray.size false) (Array.replicate (l ++ [o]).toArray.size false) a { w with drawn := w.drawn + 1 } (by simp) (fun i hi => by
    rw [Array.getElem?_replicate, Array.getElem?_replicate, if_pos (by simpa using hi), if_pos (by simp; omega)])
    ⟨by simp, fun j oj _ hl => (by rw [getD_replicate_false] at hl; cases hl), fun t _ ht => getD_in (by simpa using ht) (getD_replicate_false _ _)⟩ h
  simpa using this
/-- The same, the loads taken first under a condition that nobody but the last one breaks. -/
theorem wp_region_last_held {id : Nat} {a : Act} {w : World} (S : World → Prop) (hm : P.follows .mixedOrders = true) (hB : lastB .any l o = true) (hS : S w.drew)
    (h : S w.drew → wpAnyH P .any l.toArray (lastPost P o Q) S l.toArray.size (Array.replicate l.toArray.size false) a w.drew) : (Code.region id (l ++ [o]).toArray true).wp P Q a w :=
  wp_region_last hm hB (wpAny_of_held _ _ _ _ (h hS))
theorem wp_region_but_last {L : List Oper} {id : Nat} {a : Act} {w : World} (S : World → Prop) (hne : L ≠ []) (hm : P.follows .mixedOrders = true) (hB : lastB .any L.dropLast (L.getLast hne) = true) (hS : S w.drew)
    (h : S w.drew → wpAnyH P .any L.dropLast.toArray (lastPost P (L.getLast hne) Q) S L.dropLast.toArray.size (Array.replicate L.dropLast.toArray.size false) a w.drew) : (Code.region id L.toArray true).wp P Q a w := by
  have := wp_region_last_held (P := P) (Q := Q) (id := id) (a := a) (w := w) (l := L.dropLast) (o := L.getLast hne) S hm hB hS h
  rwa [List.dropLast_concat_getLast hne] at this
/-- Number i is taken first. -/
theorem tk {ops : Array Oper} {Q : Exit → Act → World → Prop} {S : World → Prop} {fuel : Nat} {listed : Array Bool} {a : Act} {w : World} (i : Nat) (oi : Oper) (d : Option Tmp) (v : Value) (hi : ops[i]? = some oi) (hs : Region.noSelect ops = true) (hf : Region.free md ops listed i = true) (hr : (Region.ready md ops listed).contains i = true)
    (hQ : ∀ c a w, Q (.panic c) (a.put d v) w → Q (.panic c) a w) (hg : oi.guard = none) (hd : oi.dst = d) (hy : ∀ w, S w → (execOp a.eval oi).run P w = .ok (.value v) w) (hS : S w)
    (h : wpAnyH P md ops Q S fuel (listed.setIfInBounds i true) (a.put d v) w) : wpAnyH P md ops Q S (fuel + 1) listed a w := by
  subst hd
  exact wpAnyH_take hi hs hf hr hQ (.inl ⟨by simp [Region.wanted, hg], hy⟩) hS h
end
end Go.Proofs.YtacobpmmpdadpaaGreat
set_option linter.unusedVariables false
set_option linter.unusedSimpArgs false
namespace Go.Proofs.YtacobpmmpdadpaaGreat
open Go.RowKit Doc
/-- The append of the closure, as one step of a region that draws. -/
theorem step_row {P : Program} {ops : Array Oper} {o : Oper} {a : Act} {K : Act → World → Prop} {Q : Exit → Act → World → Prop} {E : Prop} (hgd : o.guard = none) (s x : Operand)
    (ho : o.op = .call { callee := .builtin .append, args := #[s, x], argTypes := #[31, 31] }) (hP : P = Tryz.prog) {ws Wc w5 : World} {db bd bo bb : Nat} {v : Value} {raws : List RR} {acc : List Rw}
    (h : RB ws db bd bo bb Wc v raws acc) (hg : Grow Wc w5) {n : Nat} (hn : n = acc.length) (hlen : n ≤ 1000000) (X : RR) (r : Rw) (hx : GoodR (Imm ws.heap.size tsQ w5) w5 X r) (ys : List Value) (hys : ys = encR X) (hone : ∀ u ∈ ys, u.oneCell' = true)
    (hs : a.eval s = v) (hxe : a.eval x = .slice (some ⟨w5.heap.size, 0, none⟩) 1 1) (SK : World → Prop) (hk : ∀ W', Grow ws W' → W'.cell? ⟨bo, 0, none⟩ = some v → SK W')
    (hK : ∀ g1 cap1 w1, Hid (SK w1) → w1.frozen? ⟨bo, 0, none⟩ = false → Hid (RB ws db bd bo bb (w1.setCell ⟨bo, 0, none⟩ (.slice (some ⟨g1, 0, none⟩) (n + 1) cap1)) (.slice (some ⟨g1, 0, none⟩) (n + 1) cap1) (raws ++ [X]) (acc ++ [r])) →
      K (a.put o.dst (.slice (some ⟨g1, 0, none⟩) (n + 1) cap1)) w1) :
    if Region.wanted o (yielded ops a.tmps) = true then Oper.wp P o a (w5.alloc (.cells ys.toArray 54)) K Q else E := by
  subst hP hn hys
  obtain ⟨i0, hi, hzz⟩ := Option.map_eq_some_iff.1 infoRw
  simp only [Prod.mk.injEq] at hzz
  obtain ⟨hz0, hz1, hz2⟩ := hzz
  have h5 := h.grow hg
  have h6 := h5.grow (grow_alloc (Below.refl _ _) (.cells (encR X).toArray 54))
  refine step_append_lies _ hgd s x 31 ho ws.heap.size 54 i0 _ 6 88 Tryz.underlying31 hi hz0 hz1 hz2 rfl (by decide) _ acc.length (raws.flatMap encR) hs h6.own.1 ⟨w5.heap.size, 0, none⟩ 1 1 (encR X) hxe rfl
    (by simpa using World.news_of_block (cs := (encR X).toArray) (t := 54) (fr := (0, 0)) (heap_alloc_new w5 _)) hone (by decide) (by simp only [maxLen]; omega) (by omega) h6.own.2.size _ rfl ?_
  intro g1 cap1 w1 a1 a2 _ _
  obtain ⟨c1, c2, c3⟩ := h.app (W1 := w5.alloc (.cells (encR X).toArray 54)) (r := r) (grow_alloc hg _) a1 a2 (GoodR.fr hx (Fr.of_grow (grow_alloc (Below.refl _ _) _)))
  exact hK g1 cap1 w1 (hk w1 (Below.grown h6.own.2 a2 h6.own.2.size (fun k hk => h6.own.base k hk)) c1) c2 c3
section
variable {w0 ws : World} {db mb : Nat} {nb ib : Int → Nat} {D : DataW Unit} {d : Doc}
set_option maxRecDepth 100000 in
set_option maxHeartbeats 8000000 in
theorem below_d (h : DomRep w0 ws db mb nb ib D d) (hw : d.WF) (hfew : d.nodes.length ≤ 1000000) (bd bo bb : Nat) : ∀ (k : Nat) (acc : List Rw) (id up : Int) (r : List Rw), belowF k d acc id up = some r → r.length ≤ 1000000 → d.has id →
    ∀ (W : World) (v : Value) (raws : List RR), RB ws db bd bo bb W v raws acc →
      Calls Tryz.prog 26 #[.pointer (some ⟨ib id, 0, none⟩), .int .i64 up, .pointer (some ⟨bd, 0, none⟩), .pointer (some ⟨bo, 0, none⟩), .pointer (some ⟨bb, 0, none⟩)] W (RBPost ws db bd bo bb r) := by
  intro k
  induction k with
  | zero => intro acc id up r h; simp [belowF] at h
  | succ k ih =>
    intro acc id up r hf0 hrl hid W v raws hrb
    have IH := Lib.hid ih
    clear ih
    have hf : (d.kidsOf id).foldlM (stepF d k up) acc = some r := hf0
    have HR := Lib.hid h
    obtain ⟨s, hs⟩ : ∃ s, s = d.kidsOf id := ⟨_, rfl⟩
    have HSK := Lib.hid hs
    obtain ⟨m, hm⟩ : ∃ m, m = s.length := ⟨_, rfl⟩
    have HM := Lib.hid hm
    have HF := Lib.hid hf
    have HRB := Lib.hid hrb
    have HID := Lib.hid hid
    have HW := Lib.hid hw
    have hFI := first_at (ib id) _ W ((h.grow hrb.own.2).items.c2 hid)
    rw [Doc.first_kid, ← hs] at hFI
    have HFI := Lib.hid hFI
    clear hFI hs hm hf hrb hid hw hf0 h
    go_enter Tryz.func26, Tryz.ntmps26
    go_wp2_with (go_at_call 22; refine HFI.out.mono ?_; rintro e' w4 ⟨rfl, rfl⟩)
    go_loopg [7] m (fun gk t wr => ∃ (j : Nat) (v : Value) (a : List Rw) (ys : List RR), j + gk = m ∧ t = pI ib (kidAt s j) ∧ Hid (RB ws db bd bo bb wr v ys a) ∧ Hid ((s.drop j).foldlM (stepF d k up) a = some r))
    case atStart => exact ⟨0, v, acc, raws, by omega, rfl, HRB, (show (s.drop 0).foldlM (stepF d k up) acc = some r by rw [List.drop_zero, HSK.out]; exact HF.out)⟩
    case round =>
      clear HFI HRB HF
      obtain ⟨j, v, a, ys, hj, rfl, HB, hfo⟩ := hrel
      cases gk with
      | zero =>
        have hend : pI ib (kidAt s j) = .pointer none := by rw [kidAt_end (by rw [← HM.out]; omega)]; rfl
        rw [hend]
        have har : a = r := by
          have := hfo.out
          rw [List.drop_eq_nil_of_le (by rw [← HM.out]; omega)] at this
          simpa using this
        subst har
        have HFIN := Lib.hid (show RBPost ws db bd bo bb a (.returned (.tuple #[])) wr from ⟨rfl, v, ys, HB.out⟩)
        clear hend
        go_wp2
        go_end0
        exact HFIN.out
      | succ gk =>
        have hjl : j < s.length := by rw [← HM.out]; omega
        have hjl2 : j < (d.kidsOf id).length := by rw [← HSK.out]; exact hjl
        obtain ⟨hc1, hc2⟩ := Doc.kid_has HW.out HID.out hjl2
        have hcn := Doc.next_kid HW.out HID.out hjl2
        rw [← HSK.out] at hc1 hc2 hcn
        have hfo1 := hfo.out
        have hce : s[j] = kidAt s j := by rw [kidAt_lt hjl, List.getD_eq_getElem?_getD, List.getElem?_eq_getElem hjl, Option.getD_some]
        rw [List.drop_eq_getElem_cons hjl, List.foldlM_cons, hce] at hfo1
        obtain ⟨a', hs1, hs2⟩ := Option.bind_eq_some_iff.1 hfo1
        obtain ⟨nd, hget, hbl⟩ := Option.bind_eq_some_iff.1 hs1
        have hal2 : a'.length ≤ 1000000 := Nat.le_trans (foldl_len (fun a c r h => Nat.le_of_succ_le (stepF_len a c r h)) _ _ _ hs2) hrl
        have hal1 := stepF_len _ _ _ hs1
        have HCN := Lib.hid hcn
        clear hcn hjl2
        generalize kidAt s j = c at *
        obtain ⟨Av, cv, rfl⟩ := HB.out.own.form
        obtain ⟨q, hq⟩ : ∃ q, q = a.length := ⟨_, rfl⟩
        rw [← hq] at HB
        have HQ := Lib.hid hq
        have hq6 : q ≤ 1000000 := by rw [hq]; omega
        have hpi : pI ib c = .pointer (some ⟨ib c, 0, none⟩) := pI_at ib (HW.out.nn hc1)
        rw [hpi]
        have hR1 := HR.out.grow HB.out.own.2
        have cd : wr.cell? ⟨bd, 0, none⟩ = some (.pointer (some ⟨db, 0, none⟩)) := by simp [World.cell?, HB.out.hd]
        have cp := hR1.p0
        have hlk : ∀ n, (Instr.lookup 60 (.map (some mb)) (.int .i64 c) false).run Tryz.prog (wr.drewN n) = .ok (.pointer (some ⟨nb c, 0, none⟩)) (wr.drewN n) := fun n => (hR1.grow (Grow.drewN wr n)).look (wf_id HW.out hc1) hc1
        have HMK := Lib.hid fun n => mark_at (ib c) (.int .i64 c) (wr.drewN n) ((hR1.grow (Grow.drewN wr n)).items.cell hc1 0)
        obtain ⟨n0, hn0, A, cc, hnb, hra⟩ := HR.out.hasOf hc1
        have hn0' : n0 = nd := Option.some.inj (hn0.symm.trans hget)
        subst hn0'
        have hida := Doc.get_id hget
        obtain ⟨la, hla⟩ : ∃ la, la = n0.attrs.length := ⟨_, rfl⟩
        rw [← hla] at hnb hra
        have hla64 : la ≤ 64 := by rw [hla]; exact HW.out.few n0 (Doc.get_mem hget)
        have hcs : ∀ W', Grow ws W' → W'.cell? ⟨nb c, 1, none⟩ = some (.string n0.tag) ∧ W'.cell? ⟨nb c, 2, none⟩ = some (.string n0.key) ∧ W'.cell? ⟨nb c, 3, none⟩ = some (.string n0.text) ∧ W'.cell? ⟨nb c, 4, none⟩ = some (.slice A la cc) := fun W' hW' =>
          ⟨Grow.cell hW' (by simp [World.cell?, hnb]), Grow.cell hW' (by simp [World.cell?, hnb]), Grow.cell hW' (by simp [World.cell?, hnb]), Grow.cell hW' (by simp [World.cell?, hnb])⟩
        have hrow : rowOf n0 up = ⟨c, up, n0.tag, n0.key, n0.text, n0.attrs⟩ := by unfold rowOf; rw [hida]
        have HCS := Lib.hid hcs
        have HGD := Lib.hid fun (W' w5 : World) (A5 : Option Addr) (c5 : Nat) (ho : Own W' w5 48 2 (.slice A5 n0.attrs.length c5) n0.attrs.length (cellsA n0.attrs)) => (show GoodR (Imm ws.heap.size tsQ w5) w5 ⟨c, up, n0.tag, n0.key, n0.text, .slice A5 la c5⟩ (rowOf n0 up) by
          rw [hrow, hla]
          exact ⟨rfl, rfl, rfl, rfl, rfl, (ho.newAt rfl rfl).imp (fun _ _ _ h => h) (fun b hb => hb.immQ (by decide)) (fun b _ _ => rfl)⟩)
        have HCLO := Lib.hid fun (W' : World) (hW' : Grow ws W') => clone_p n0.attrs W' _ A cc ((hra.fr (Fr.of_grow (ts := []) hW') (fun t ht => by cases ht)).rd) (by omega)
        rw [← hla] at HCLO
        have HREC := Lib.hid fun WW vv hh => IH.out (a ++ [rowOf n0 up]) c (a.length + 1 : Nat) a' hbl hal2 hc1 WW vv (ys ++ hh)
        have HNXT := Lib.hid fun (W' : World) (hW' : Grow ws W') => (show Calls Tryz.prog 25 #[.pointer (some ⟨ib c, 0, none⟩)] W' (fun e w' => e = .returned (pI ib (kidAt s (j + 1))) ∧ W' = w') by
          have := next_at (ib c) _ W' ((HR.out.grow hW').items.c5 hc1)
          rwa [HCN.out] at this)
        have HMK2 := Lib.hid fun (W' : World) (hW' : Grow ws W') => mark_at (ib c) (.int .i64 c) W' ((HR.out.grow hW').items.cell hc1 0)
        have HLA := Lib.hid hla
        have HFO := Lib.hid hs2
        clear hR1 hs1 hs2 hbl hget hn0 hfo1 hfo hce hjl hc2 hpi hnb hra hcs hrow hida hla hal1 hq
        generalize n0.tag = tag at *
        generalize n0.key = key at *
        generalize n0.text = text at *
        go_wp2_with fail
        go_quiet ((go_at_call 27; exact quiet1_same (HMK.out _)))
        have HB2 := Lib.hid (HB.out.grow (Grow.drewN wr nq))
        clear cd cp hlk HMK HB
        generalize wr.drewN nq = W1 at *
        have hbo : W1.cell? ⟨bo, 0, none⟩ = some (.slice Av q cv) := by simp [World.cell?, HB2.out.ho]
        have HBO := Lib.hid hbo
        obtain ⟨k1, k2, k3, k4⟩ := HCS.out W1 HB2.out.own.2
        have HKP := Lib.hid fun (W' : World) (hW' : Grow W1 W') => (show W'.cell? ⟨bo, 0, none⟩ = some (.slice Av q cv) ∧ W'.cell? ⟨nb c, 1, none⟩ = some (.string tag) ∧ W'.cell? ⟨nb c, 2, none⟩ = some (.string key) ∧ W'.cell? ⟨nb c, 3, none⟩ = some (.string text) ∧ W'.cell? ⟨nb c, 4, none⟩ = some (.slice A la cc) from
          ⟨Grow.cell hW' HBO.out, HCS.out W' (Grow.trans' HB2.out.own.2 hW')⟩)
        have HMK4 := Lib.hid fun (W' : World) (hW' : Grow W1 W') => HMK2.out W' (Grow.trans' HB2.out.own.2 hW')
        have HCL4 := Lib.hid fun (W' : World) (hW' : Grow W1 W') => (show Calls Tryz.prog 28 #[.slice A la cc] W' (fun e w5 => ∃ A5 c5, e = .returned (.slice A5 la c5) ∧ Hid (Grow W1 w5) ∧ Hid (w5.cell? ⟨bo, 0, none⟩ = some (.slice Av q cv) ∧ w5.cell? ⟨nb c, 1, none⟩ = some (.string tag) ∧ w5.cell? ⟨nb c, 2, none⟩ = some (.string key) ∧ w5.cell? ⟨nb c, 3, none⟩ = some (.string text) ∧ w5.cell? ⟨nb c, 4, none⟩ = some (.slice A la cc)) ∧
            Hid (GoodR (Imm ws.heap.size tsQ w5) w5 ⟨c, up, tag, key, text, .slice A5 la c5⟩ (rowOf n0 up))) from by
          refine (HCLO.out W' (Grow.trans' HB2.out.own.2 hW')).mono ?_
          rintro e w5 ⟨v5, rfl, ho5⟩
          obtain ⟨A5, c5, rfl⟩ := ho5.form
          have hg5 := Grow.trans' hW' ho5.2
          exact ⟨A5, c5, by rw [HLA.out], hg5, HKP.out w5 hg5, HGD.out _ _ _ _ ho5⟩)
        clear hbo
        go_upto_region 4 with fail
        refine wp_region_but_last (fun w' => w'.cell? ⟨bo, 0, none⟩ = some (.slice Av q cv) ∧ w'.cell? ⟨nb c, 1, none⟩ = some (.string tag) ∧ w'.cell? ⟨nb c, 2, none⟩ = some (.string key) ∧ w'.cell? ⟨nb c, 3, none⟩ = some (.string text) ∧ w'.cell? ⟨nb c, 4, none⟩ = some (.slice A la cc)) (List.cons_ne_nil _ _) (by kernel_rfl) (by kernel_rfl) (HKP.out _ (grow_drew (Below.refl _ _))) (fun hHeld => ?_)
        simp only [List.dropLast, List.getLast_cons_cons, List.getLast_singleton]
        -- REGION
        refine tk 0 _ (some 22) (.slice Av q cv) rfl (by kernel_rfl) (by kernel_rfl) (by kernel_rfl) (fun _ _ _ h => h) rfl rfl (by intro w hSw; (try dsimp only at hSw); go_simp) hHeld ?_
        try simp only [Act.put, List.setIfInBounds_toArray, List.set_cons_zero, List.set_cons_succ]
        refine tk 1 _ (some 23) (.pointer (some ⟨ib c, 0, none⟩)) rfl (by kernel_rfl) (by kernel_rfl) (by kernel_rfl) (fun _ _ _ h => h) rfl rfl (by intro w hSw; (try dsimp only at hSw); go_simp) hHeld ?_
        try simp only [Act.put, List.setIfInBounds_toArray, List.set_cons_zero, List.set_cons_succ]
        refine tk 3 _ (some 25) (.int .i64 up) rfl (by kernel_rfl) (by kernel_rfl) (by kernel_rfl) (fun _ _ _ h => h) rfl rfl (by intro w hSw; (try dsimp only at hSw); go_simp) hHeld ?_
        try simp only [Act.put, List.setIfInBounds_toArray, List.set_cons_zero, List.set_cons_succ]
        refine tk 4 _ (some 26) (.pointer (some ⟨nb c, 0, none⟩)) rfl (by kernel_rfl) (by kernel_rfl) (by kernel_rfl) (fun _ _ _ h => h) rfl rfl (by intro w hSw; (try dsimp only at hSw); go_simp) hHeld ?_
        try simp only [Act.put, List.setIfInBounds_toArray, List.set_cons_zero, List.set_cons_succ]
        refine tk 5 _ (some 27) (.pointer (some ⟨nb c, 0, none⟩)) rfl (by kernel_rfl) (by kernel_rfl) (by kernel_rfl) (fun _ _ _ h => h) rfl rfl (by intro w hSw; (try dsimp only at hSw); go_simp) hHeld ?_
        try simp only [Act.put, List.setIfInBounds_toArray, List.set_cons_zero, List.set_cons_succ]
        refine tk 6 _ (some 28) (.pointer (some ⟨nb c, 1, none⟩)) rfl (by kernel_rfl) (by kernel_rfl) (by kernel_rfl) (fun _ _ _ h => h) rfl rfl (by intro w hSw; (try dsimp only at hSw); go_simp) hHeld ?_
        try simp only [Act.put, List.setIfInBounds_toArray, List.set_cons_zero, List.set_cons_succ]
        refine tk 7 _ (some 29) (.string tag) rfl (by kernel_rfl) (by kernel_rfl) (by kernel_rfl) (fun _ _ _ h => h) rfl rfl (by intro w hSw; (try dsimp only at hSw); go_simp) hHeld ?_
        try simp only [Act.put, List.setIfInBounds_toArray, List.set_cons_zero, List.set_cons_succ]
        refine tk 8 _ (some 30) (.pointer (some ⟨nb c, 0, none⟩)) rfl (by kernel_rfl) (by kernel_rfl) (by kernel_rfl) (fun _ _ _ h => h) rfl rfl (by intro w hSw; (try dsimp only at hSw); go_simp) hHeld ?_
        try simp only [Act.put, List.setIfInBounds_toArray, List.set_cons_zero, List.set_cons_succ]
        refine tk 9 _ (some 31) (.pointer (some ⟨nb c, 0, none⟩)) rfl (by kernel_rfl) (by kernel_rfl) (by kernel_rfl) (fun _ _ _ h => h) rfl rfl (by intro w hSw; (try dsimp only at hSw); go_simp) hHeld ?_
        try simp only [Act.put, List.setIfInBounds_toArray, List.set_cons_zero, List.set_cons_succ]
        refine tk 10 _ (some 32) (.pointer (some ⟨nb c, 2, none⟩)) rfl (by kernel_rfl) (by kernel_rfl) (by kernel_rfl) (fun _ _ _ h => h) rfl rfl (by intro w hSw; (try dsimp only at hSw); go_simp) hHeld ?_
        try simp only [Act.put, List.setIfInBounds_toArray, List.set_cons_zero, List.set_cons_succ]
        refine tk 11 _ (some 33) (.string key) rfl (by kernel_rfl) (by kernel_rfl) (by kernel_rfl) (fun _ _ _ h => h) rfl rfl (by intro w hSw; (try dsimp only at hSw); go_simp) hHeld ?_
        try simp only [Act.put, List.setIfInBounds_toArray, List.set_cons_zero, List.set_cons_succ]
        refine tk 12 _ (some 34) (.pointer (some ⟨nb c, 0, none⟩)) rfl (by kernel_rfl) (by kernel_rfl) (by kernel_rfl) (fun _ _ _ h => h) rfl rfl (by intro w hSw; (try dsimp only at hSw); go_simp) hHeld ?_
        try simp only [Act.put, List.setIfInBounds_toArray, List.set_cons_zero, List.set_cons_succ]
        refine tk 13 _ (some 35) (.pointer (some ⟨nb c, 0, none⟩)) rfl (by kernel_rfl) (by kernel_rfl) (by kernel_rfl) (fun _ _ _ h => h) rfl rfl (by intro w hSw; (try dsimp only at hSw); go_simp) hHeld ?_
        try simp only [Act.put, List.setIfInBounds_toArray, List.set_cons_zero, List.set_cons_succ]
        refine tk 14 _ (some 36) (.pointer (some ⟨nb c, 3, none⟩)) rfl (by kernel_rfl) (by kernel_rfl) (by kernel_rfl) (fun _ _ _ h => h) rfl rfl (by intro w hSw; (try dsimp only at hSw); go_simp) hHeld ?_
        try simp only [Act.put, List.setIfInBounds_toArray, List.set_cons_zero, List.set_cons_succ]
        refine tk 15 _ (some 37) (.string text) rfl (by kernel_rfl) (by kernel_rfl) (by kernel_rfl) (fun _ _ _ h => h) rfl rfl (by intro w hSw; (try dsimp only at hSw); go_simp) hHeld ?_
        try simp only [Act.put, List.setIfInBounds_toArray, List.set_cons_zero, List.set_cons_succ]
        refine tk 16 _ (some 38) (.pointer (some ⟨nb c, 0, none⟩)) rfl (by kernel_rfl) (by kernel_rfl) (by kernel_rfl) (fun _ _ _ h => h) rfl rfl (by intro w hSw; (try dsimp only at hSw); go_simp) hHeld ?_
        try simp only [Act.put, List.setIfInBounds_toArray, List.set_cons_zero, List.set_cons_succ]
        refine tk 17 _ (some 39) (.pointer (some ⟨nb c, 0, none⟩)) rfl (by kernel_rfl) (by kernel_rfl) (by kernel_rfl) (fun _ _ _ h => h) rfl rfl (by intro w hSw; (try dsimp only at hSw); go_simp) hHeld ?_
        try simp only [Act.put, List.setIfInBounds_toArray, List.set_cons_zero, List.set_cons_succ]
        refine tk 18 _ (some 40) (.pointer (some ⟨nb c, 4, none⟩)) rfl (by kernel_rfl) (by kernel_rfl) (by kernel_rfl) (fun _ _ _ h => h) rfl rfl (by intro w hSw; (try dsimp only at hSw); go_simp) hHeld ?_
        try simp only [Act.put, List.setIfInBounds_toArray, List.set_cons_zero, List.set_cons_succ]
        refine tk 19 _ (some 41) (.slice A la cc) rfl (by kernel_rfl) (by kernel_rfl) (by kernel_rfl) (fun _ _ _ h => h) rfl rfl (by intro w hSw; (try dsimp only at hSw); go_simp) hHeld ?_
        try simp only [Act.put, List.setIfInBounds_toArray, List.set_cons_zero, List.set_cons_succ]
        refine wpAnyH_ready (rs := [2]) (by kernel_rfl) (by simp) ?_
        refine AllReadyH.cons rfl (fun K hK => ?_) AllReadyH.nil
        go_simp
        go_at_call 27
        refine (HMK4.out _ (grow_drew (Below.refl _ _))).mono ?_
        rintro e' w4 ⟨rfl, rfl⟩
        refine hK.out _ _ hHeld (fun _ => ?_)
        clear hK K
        try simp only [Act.put, List.setIfInBounds_toArray, List.set_cons_zero, List.set_cons_succ]
        refine wpAnyH_ready (rs := [20]) (by kernel_rfl) (by simp) ?_
        refine AllReadyH.cons rfl (fun K hK => ?_) AllReadyH.nil
        go_simp
        go_at_call 28
        refine (HCL4.out _ (grow_drew (Below.refl _ _))).mono ?_
        rintro e' w5 ⟨A5, c5, rfl, HG5, HS5, HGD5⟩
        refine hK.out _ _ HS5.out (fun hHeld5 => ?_)
        clear hK K
        try simp only [Act.put, List.setIfInBounds_toArray, List.set_cons_zero, List.set_cons_succ]
        refine tk 21 _ (some 43) (.agg #[.int .i64 c, .int .i64 up, .string tag, .string key, .string text, .slice A5 la c5]) rfl (by kernel_rfl) (by kernel_rfl) (by kernel_rfl) (fun _ _ _ h => h) rfl rfl (by intro w hSw; (try dsimp only at hSw); go_simp) hHeld5 ?_
        try simp only [Act.put, List.setIfInBounds_toArray, List.set_cons_zero, List.set_cons_succ]
        refine wpAnyH_ready (rs := [22]) (by kernel_rfl) (by simp) ?_
        refine AllReadyH.cons rfl (fun K hK => ?_) AllReadyH.nil
        go_simp
        refine hK.out _ _ (HKP.out _ (grow_alloc HG5.out _)) (fun hHeld6 => ?_)
        clear hK K
        try simp only [Act.put, List.setIfInBounds_toArray, List.set_cons_zero, List.set_cons_succ]
        refine wpAnyH_ready (rs := [23]) (by kernel_rfl) (by simp) ?_
        refine AllReadyH.cons rfl (fun K hK => ?_) AllReadyH.nil
        refine step_row (v := .slice Av q cv) rfl (.tmp 22) (.tmp 44) rfl rfl HB2.out HG5.out HQ.out hq6 ⟨c, up, tag, key, text, .slice A5 la c5⟩ (rowOf n0 up) HGD5.out [.int .i64 c, .int .i64 up, .string tag, .string key, .string text, .slice A5 la c5] rfl ?p3 ?p4 ?p5 (fun w' => w'.cell? ⟨bo, 0, none⟩ = some (.slice Av q cv) ∧ w'.cell? ⟨nb c, 1, none⟩ = some (.string tag) ∧ w'.cell? ⟨nb c, 2, none⟩ = some (.string key) ∧ w'.cell? ⟨nb c, 3, none⟩ = some (.string text) ∧ w'.cell? ⟨nb c, 4, none⟩ = some (.slice A la cc)) (fun W' h1 h2 => ⟨h2, HCS.out W' h1⟩) ?_
        case p3 => simp [Value.oneCell']
        case p4 => simp [Act.eval, Act.put]
        case p5 => simp [Act.eval, Act.put]
        intro g9 cap9 w9 HSK9 hf9 HRB9
        refine hK.out _ _ HSK9.out (fun hHeld9 => ?_)
        clear hK K
        try simp only [Act.put, List.setIfInBounds_toArray, List.set_cons_zero, List.set_cons_succ]
        have hbo9 := HSK9.out.1
        refine wpAnyH_done (by kernel_rfl) ?_ _
        -- END REGION
        simp only [lastPost]
        go_simp
        clear hbo9 hf9 k1 k2 k3 k4 HSK9 HGD5 HS5 HG5 HCL4 HKP HMK4 HBO
        generalize w9.setCell ⟨bo, 0, none⟩ (.slice (some ⟨g9, 0, none⟩) (q + 1) cap9) = W9 at *
        have kbb : W9.cell? ⟨bb, 0, none⟩ = some (.func (.func 26) #[] #[.pointer (some ⟨bd, 0, none⟩), .pointer (some ⟨bo, 0, none⟩), .pointer (some ⟨bb, 0, none⟩)]) := by simp [World.cell?, HRB9.out.hb, belowV]
        have kbo : W9.cell? ⟨bo, 0, none⟩ = some (.slice (some ⟨g9, 0, none⟩) (q + 1) cap9) := by simp [World.cell?, HRB9.out.ho]
        have HR9 := Lib.hid (HREC.out _ _ _ HRB9.out)
        rw [← HQ.out] at HR9
        go_wp2_with (first
          | (go_at_call 26; refine HR9.out.mono ?_; rintro e' w6 ⟨rfl, v6, raws6, hb6⟩; have HB6 := Lib.hid hb6; have HNX := Lib.hid (HNXT.out w6 hb6.own.2); clear hb6)
          | (go_at_call 25; refine HNX.out.mono ?_; rintro e' w7 ⟨rfl, rfl⟩))
        go_roundg gk
        case rel => exact ⟨j + 1, v6, a', raws6, by omega, rfl, HB6, HFO⟩
        case measure => omega
end
end Go.Proofs.YtacobpmmpdadpaaGreat
set_option linter.unusedVariables false
set_option linter.unusedSimpArgs false
namespace Go.Proofs.YtacobpmmpdadpaaGreat
open Go.RowKit Doc
/-- What Read hands back. -/
def RetRowsD (ws : World) (r : List Rw) (e : Ending) (w' : World) : Prop := ∃ v raws, e = .returned v ∧ Own ws w' 54 6 v r.length (raws.flatMap encR) ∧ Pw (GoodR (Imm ws.heap.size tsQ w') w') raws r
section
variable {w0 w : World} {db mb : Nat} {nb ib : Int → Nat} {D : DataW Unit} {d : Doc}
set_option maxHeartbeats 1000000 in
theorem read_d (h : DomRep w0 w db mb nb ib D d) (hw : d.WF) (hfew : d.nodes.length ≤ 1000000) {k : Nat} {r : List Rw} (hb : belowF k d [] 0 0 = some r) (hrl : r.length ≤ 1000000) :
    Calls Tryz.prog 9 #[.pointer (some ⟨db, 0, none⟩)] w (RetRowsD w r) := by
  have h0 := hw.has0
  have hrb : ∀ W, Grow (((w.alloc (.cells #[.pointer (some ⟨db, 0, none⟩)] 25)).alloc (.cells #[.slice none 0 0] 31)).alloc (.cells #[belowV w.heap.size (w.heap.size + 1) (w.heap.size + 1 + 1)] 65)) W → RB w db w.heap.size (w.heap.size + 1) (w.heap.size + 1 + 1) W (.slice none 0 0) [] [] := by
    intro W hW
    have a1 := heap_alloc_new w (.cells #[.pointer (some ⟨db, 0, none⟩)] 25)
    have a2 := heap_alloc_new (w.alloc (.cells #[.pointer (some ⟨db, 0, none⟩)] 25)) (.cells #[.slice none 0 0] 31)
    have a3 := heap_alloc_new ((w.alloc (.cells #[.pointer (some ⟨db, 0, none⟩)] 25)).alloc (.cells #[.slice none 0 0] 31)) (.cells #[belowV w.heap.size (w.heap.size + 1) (w.heap.size + 1 + 1)] 65)
    have g1 : Grow (w.alloc (.cells #[.pointer (some ⟨db, 0, none⟩)] 25)) W := Grow.trans' (grow_alloc (grow_alloc (Below.refl _ _) _) _) hW
    have g2 : Grow ((w.alloc (.cells #[.pointer (some ⟨db, 0, none⟩)] 25)).alloc (.cells #[.slice none 0 0] 31)) W := Grow.trans' (grow_alloc (Below.refl _ _) _) hW
    refine ⟨(g1.block _ (Array.getElem?_eq_some_iff.1 a1).1).trans a1, ?_, ?_, by omega, Own.nil _ _ (Grow.trans' (grow_alloc (grow_alloc (grow_alloc (Below.refl _ _) _) _) _) hW), trivial⟩
    · have := (g2.block _ (Array.getElem?_eq_some_iff.1 a2).1).trans a2
      simpa using this
    · have := (hW.block _ (Array.getElem?_eq_some_iff.1 a3).1).trans a3
      simpa using this
  have hwf0 : (Lit.int .i64 0).wf = true := by decide
  have hlk : ∀ W, Grow w W → (Instr.lookup 60 (.map (some mb)) (.int .i64 0) false).run Tryz.prog W = .ok (.pointer (some ⟨nb 0, 0, none⟩)) W := fun W hW => (h.grow hW).look hwf0 h0
  have hgw : Grow w (((w.alloc (.cells #[.pointer (some ⟨db, 0, none⟩)] 25)).alloc (.cells #[.slice none 0 0] 31)).alloc (.cells #[belowV w.heap.size (w.heap.size + 1) (w.heap.size + 1 + 1)] 65)).drew := grow_drew (grow_alloc (grow_alloc (grow_alloc (Below.refl _ _) _) _) _)
  have c1 := Grow.cell hgw h.p0
  have c2 := Grow.cell hgw (h.nodeI h0)
  have c3 := hlk _ hgw
  have HB := Lib.hid fun W hW => below_d h hw hfew w.heap.size (w.heap.size + 1) (w.heap.size + 1 + 1) k [] 0 0 r hb hrl h0 W (.slice none 0 0) [] (hrb W hW)
  unfold belowV at HB c1 c2 c3
  have HFIN := Lib.hid fun (w' : World) (v : Value) (raws : List RR) (h : RB w db w.heap.size (w.heap.size + 1) (w.heap.size + 1 + 1) w' v raws r) => (show w'.cell? ⟨w.heap.size + 1, 0, none⟩ = some v ∧ RetRowsD w r (.returned v) w' from ⟨by simp [World.cell?, h.ho], v, raws, rfl, h.own, h.good⟩)
  clear h hw hfew hb hrl h0 hrb hwf0 hlk hgw
  go_enter Tryz.func9, Tryz.ntmps9
  go_wp2
  go_region_with (go_at_call 26; refine (HB.out _ ?hg).mono ?_; (case hg => repeat (first | exact Below.refl _ _ | apply grow_drew)); rintro e' w4 ⟨rfl, v4, raws4, hb4⟩; obtain ⟨k4, hf4⟩ := HFIN.out _ _ _ hb4; have HF4 := Lib.hid hf4; clear hf4 hb4)
  all_goals (go_wp2_with fail)
  all_goals go_ret
  all_goals exact HF4.out
theorem nextD (h : DomRep w0 w db mb nb ib D d) : Calls Tryz.prog 11 #[.pointer (some ⟨db, 0, none⟩)] w fun e w' => e = .returned (.int .i64 d.next) ∧ w = w' := by
  have hp := h.p1
  clear h
  go_enter Tryz.func11, Tryz.ntmps11
  go_wp2
  go_ret
  exact ⟨rfl, rfl⟩
theorem lenD (h : DomRep w0 w db mb nb ib D d) (hw : d.WF) (hfew : d.nodes.length ≤ 1000000) : Calls Tryz.prog 12 #[.pointer (some ⟨db, 0, none⟩)] w fun e w' => e = .returned (.int .i64 ((d.nodes.length : Int) - 1)) ∧ w = w' := by
  have hp := h.p0
  have hm := h.tight hw
  have hs := h.size hw
  have HM := Lib.hid hm
  have HS := Lib.hid hs
  generalize d.nodes.length = n at *
  clear h hm hs
  go_enter Tryz.func12, Tryz.ntmps12
  go_wp2_with (at_len; refine wpList_len_own _ rfl _ 60 rfl 3 55 Tryz.underlying60 dE mb n D rfl HM.out ?_)
  go_ret
  exact ⟨ret_int (by rw [HS.out]; exact IntWalk.wrap64_in _ ⟨by omega, by omega⟩), rfl⟩
theorem number_any (h : DomRep w0 w db mb nb ib D d) {x : Int} (hx : x = -1 ∨ d.has x) : Calls Tryz.prog 20 #[pI ib x] w fun e w' => e = .returned (.int .i64 x) ∧ w = w' := by
  rcases hx with rfl | hx
  · exact number_nil w
  · rw [pI_at ib (h.items.nn x hx)]
    exact number_at (ib x) _ w (h.items.cell hx 0)
def RetLinks (w : World) (l : Lk) (b : Bool) (e : Ending) (w' : World) : Prop := e = .returned (.tuple #[.agg #[.int .i64 l.up, .int .i64 l.first, .int .i64 l.last, .int .i64 l.prev, .int .i64 l.next], .bool b]) ∧ Grow w w'
set_option maxHeartbeats 1000000 in
set_option maxRecDepth 100000 in
theorem links_d (h : DomRep w0 w db mb nb ib D d) {id : Int} (hx : (Lit.int .i64 id).wf = true) (hh : d.has id) :
    Calls Tryz.prog 8 #[.pointer (some ⟨db, 0, none⟩), .int .i64 id] w (RetLinks w (d.lk id) true) := by
  have hg1 : Grow w (w.alloc (.cells #[.int .i64 0, .int .i64 0, .int .i64 0, .int .i64 0, .int .i64 0] 28)) := grow_alloc (Below.refl _ _) _
  have h1 := h.grow hg1
  have hp := h1.p0
  have hlk := h1.look hx hh
  have hn := h1.nodeI hh
  have h0n := h.nodeI hh
  have hcl := h.items.cl id hh
  have HUP := Lib.hid fun W' (hW : Grow (w.alloc (.cells #[.int .i64 0, .int .i64 0, .int .i64 0, .int .i64 0, .int .i64 0] 28)) W') => up_at (ib id) _ W' ((h1.grow hW).items.c1 hh)
  have HFI := Lib.hid fun W' (hW : Grow (w.alloc (.cells #[.int .i64 0, .int .i64 0, .int .i64 0, .int .i64 0, .int .i64 0] 28)) W') => first_at (ib id) _ W' ((h1.grow hW).items.c2 hh)
  have HLA := Lib.hid fun W' (hW : Grow (w.alloc (.cells #[.int .i64 0, .int .i64 0, .int .i64 0, .int .i64 0, .int .i64 0] 28)) W') => last_at (ib id) _ W' ((h1.grow hW).items.c3 hh)
  have HPR := Lib.hid fun W' (hW : Grow (w.alloc (.cells #[.int .i64 0, .int .i64 0, .int .i64 0, .int .i64 0, .int .i64 0] 28)) W') => prev_at (ib id) _ W' ((h1.grow hW).items.c4 hh)
  have HNE := Lib.hid fun W' (hW : Grow (w.alloc (.cells #[.int .i64 0, .int .i64 0, .int .i64 0, .int .i64 0, .int .i64 0] 28)) W') => next_at (ib id) _ W' ((h1.grow hW).items.c5 hh)
  have HNU := Lib.hid fun W' (hW : Grow (w.alloc (.cells #[.int .i64 0, .int .i64 0, .int .i64 0, .int .i64 0, .int .i64 0] 28)) W') => number_any (h1.grow hW) hcl.1
  have HNF := Lib.hid fun W' (hW : Grow (w.alloc (.cells #[.int .i64 0, .int .i64 0, .int .i64 0, .int .i64 0, .int .i64 0] 28)) W') => number_any (h1.grow hW) hcl.2.1
  have HNL := Lib.hid fun W' (hW : Grow (w.alloc (.cells #[.int .i64 0, .int .i64 0, .int .i64 0, .int .i64 0, .int .i64 0] 28)) W') => number_any (h1.grow hW) hcl.2.2.1
  have HNP := Lib.hid fun W' (hW : Grow (w.alloc (.cells #[.int .i64 0, .int .i64 0, .int .i64 0, .int .i64 0, .int .i64 0] 28)) W') => number_any (h1.grow hW) hcl.2.2.2.1
  have HNN := Lib.hid fun W' (hW : Grow (w.alloc (.cells #[.int .i64 0, .int .i64 0, .int .i64 0, .int .i64 0, .int .i64 0] 28)) W') => number_any (h1.grow hW) hcl.2.2.2.2
  clear h h1 hcl hx hh hg1
  generalize d.lk id = l at *
  obtain ⟨u, f, la, p, ne⟩ := l
  simp only at *
  go_enter Tryz.func8, Tryz.ntmps8
  go_wp2
  have hne := World.new_ne _ _ h0n
  go_region_held3 (fun w' => w'.cell? ⟨nb id, 0, none⟩ = some (.pointer (some ⟨ib id, 0, none⟩))) (go_keep) (first
    | (go_at_call 21; refine (HUP.out _ ?hg).mono ?_; (case hg => repeat (first | exact Below.refl _ _ | apply grow_drew)); rintro e' w4 ⟨rfl, rfl⟩)
    | (go_at_call 22; refine (HFI.out _ ?hg).mono ?_; (case hg => repeat (first | exact Below.refl _ _ | apply grow_drew)); rintro e' w4 ⟨rfl, rfl⟩)
    | (go_at_call 23; refine (HLA.out _ ?hg).mono ?_; (case hg => repeat (first | exact Below.refl _ _ | apply grow_drew)); rintro e' w4 ⟨rfl, rfl⟩)
    | (go_at_call 24; refine (HPR.out _ ?hg).mono ?_; (case hg => repeat (first | exact Below.refl _ _ | apply grow_drew)); rintro e' w4 ⟨rfl, rfl⟩)
    | (go_at_call 25; refine (HNE.out _ ?hg).mono ?_; (case hg => repeat (first | exact Below.refl _ _ | apply grow_drew)); rintro e' w4 ⟨rfl, rfl⟩)
    | (go_at_call_of 20 (pI ib u); refine (HNU.out _ ?hg).mono ?_; (case hg => repeat (first | exact Below.refl _ _ | apply grow_drew)); rintro e' w4 ⟨rfl, rfl⟩)
    | (go_at_call_of 20 (pI ib f); refine (HNF.out _ ?hg).mono ?_; (case hg => repeat (first | exact Below.refl _ _ | apply grow_drew)); rintro e' w4 ⟨rfl, rfl⟩)
    | (go_at_call_of 20 (pI ib la); refine (HNL.out _ ?hg).mono ?_; (case hg => repeat (first | exact Below.refl _ _ | apply grow_drew)); rintro e' w4 ⟨rfl, rfl⟩)
    | (go_at_call_of 20 (pI ib p); refine (HNP.out _ ?hg).mono ?_; (case hg => repeat (first | exact Below.refl _ _ | apply grow_drew)); rintro e' w4 ⟨rfl, rfl⟩)
    | (go_at_call_of 20 (pI ib ne); refine (HNN.out _ ?hg).mono ?_; (case hg => repeat (first | exact Below.refl _ _ | apply grow_drew)); rintro e' w4 ⟨rfl, rfl⟩))
  all_goals (go_wp2_with fail)
  all_goals exact bodyPost_ret (v := .tuple #[.agg #[.int .i64 u, .int .i64 f, .int .i64 la, .int .i64 p, .int .i64 ne], .bool true]) (by simp [results, Tryz.results8, go_sem]) rfl ⟨rfl, grow_drew (grow_alloc (Below.refl _ _) _)⟩
end
/-! ### a document that is none -/
theorem links_nil (w : World) : Calls Tryz.prog 8 #[.pointer none, .int .i64 0] w (RetLinks w ⟨0, 0, 0, 0, 0⟩ false) := by
  go_enter Tryz.func8, Tryz.ntmps8
  go_wp2
  exact bodyPost_ret (v := .tuple #[.agg #[.int .i64 0, .int .i64 0, .int .i64 0, .int .i64 0, .int .i64 0], .bool false]) (by simp [results, Tryz.results8, go_sem]) rfl ⟨rfl, grow_alloc (Below.refl _ _) _⟩
theorem read_nil (w : World) : Calls Tryz.prog 9 #[.pointer none] w fun e w' => e = .returned (.slice none 0 0) ∧ Grow w w' := by
  go_enter Tryz.func9, Tryz.ntmps9
  go_wp2
  go_ret
  exact ⟨rfl, by repeat (first | exact Below.refl _ _ | apply grow_alloc)⟩
theorem loose_nil (w : World) : Calls Tryz.prog 10 #[.pointer none] w fun e w' => e = .returned (.slice none 0 0) ∧ w = w' := by
  go_enter Tryz.func10, Tryz.ntmps10
  go_wp2
  go_ret
  exact ⟨rfl, rfl⟩
theorem next_nil (w : World) : Calls Tryz.prog 11 #[.pointer none] w fun e w' => e = .returned (.int .i64 0) ∧ w = w' := by
  go_enter Tryz.func11, Tryz.ntmps11
  go_wp2
  go_ret
  exact ⟨rfl, rfl⟩
theorem len_nil (w : World) : Calls Tryz.prog 12 #[.pointer none] w fun e w' => e = .returned (.int .i64 0) ∧ w = w' := by
  go_enter Tryz.func12, Tryz.ntmps12
  go_wp2
  go_ret
  exact ⟨rfl, rfl⟩
end Go.Proofs.YtacobpmmpdadpaaGreat
namespace Go.Proofs
open Go.Shelf
def Tryz.lays189_ren : Go.Shelf.Ren := ⟨fun | 189 => 29 | 125 => 54 | 257 => 53 | 128 => 83 | 129 => 84 | 294 => 74 | 295 => 75 | 296 => 76 | 297 => 77 | 298 => 78 | 299 => 79 | 216 => 80 | 300 => 81 | 301 => 82 | 328 => 95 | 329 => 96 | 330 => 97 | 331 => 98 | 332 => 99 | 215 => 100 | 343 => 105 | n => n, fun | 28 => 33 | 3 => 3 | 46 => 97 | 0 => 0 | 51 => 121 | 53 => 123 | 4 => 4 | 183 => 114 | 182 => 113 | 131 => 118 | 5 => 5 | 9 => 9 | 218 => 134 | 222 => 138 | 228 => 143 | 229 => 38 | n => n, fun | n => n⟩
theorem Tryz.lays189 : Go.Proofs.Lays.n189 Tryz.prog Tryz.lays189_ren := {
  mixed := by kernel_rfl
  f125 := Tryz.func54.trans (congrArg some (by kernel_rfl))
  f128 := Tryz.func83.trans (congrArg some (by kernel_rfl))
  f129 := Tryz.func84.trans (congrArg some (by kernel_rfl))
  f189 := Tryz.func29.trans (congrArg some (by kernel_rfl))
  f215 := Tryz.func100.trans (congrArg some (by kernel_rfl))
  f216 := Tryz.func80.trans (congrArg some (by kernel_rfl))
  f257 := Tryz.func53.trans (congrArg some (by kernel_rfl))
  f294 := Tryz.func74.trans (congrArg some (by kernel_rfl))
  f295 := Tryz.func75.trans (congrArg some (by kernel_rfl))
  f296 := Tryz.func76.trans (congrArg some (by kernel_rfl))
  f297 := Tryz.func77.trans (congrArg some (by kernel_rfl))
  f298 := Tryz.func78.trans (congrArg some (by kernel_rfl))
  f299 := Tryz.func79.trans (congrArg some (by kernel_rfl))
  f300 := Tryz.func81.trans (congrArg some (by kernel_rfl))
  f301 := Tryz.func82.trans (congrArg some (by kernel_rfl))
  f328 := Tryz.func95.trans (congrArg some (by kernel_rfl))
  f329 := Tryz.func96.trans (congrArg some (by kernel_rfl))
  f330 := Tryz.func97.trans (congrArg some (by kernel_rfl))
  f331 := Tryz.func98.trans (congrArg some (by kernel_rfl))
  f332 := Tryz.func99.trans (congrArg some (by kernel_rfl))
  f343 := Tryz.func105.trans (congrArg some (by kernel_rfl))
  t0 := Tryz.underlying0
  a0 := Tryz.isAgg0
  z0 := Tryz.sizeOf0
  v0 := Tryz.zeroValue0
  t3 := Tryz.underlying3
  a3 := Tryz.isAgg3
  z3 := Tryz.sizeOf3
  v3 := Tryz.zeroValue3
  t4 := Tryz.underlying4
  a4 := Tryz.isAgg4
  z4 := Tryz.sizeOf4
  v4 := Tryz.zeroValue4
  t5 := Tryz.underlying5
  a5 := Tryz.isAgg5
  z5 := Tryz.sizeOf5
  v5 := Tryz.zeroValue5
  t9 := Tryz.underlying9
  a9 := Tryz.isAgg9
  z9 := Tryz.sizeOf9
  v9 := Tryz.zeroValue9
  t28 := Tryz.underlying33
  a28 := Tryz.isAgg33
  z28 := Tryz.sizeOf33
  v28 := Tryz.zeroValue33
  t46 := Tryz.underlying97
  a46 := Tryz.isAgg97
  z46 := Tryz.sizeOf97
  v46 := Tryz.zeroValue97
  t51 := Tryz.underlying121
  a51 := Tryz.isAgg121
  z51 := Tryz.sizeOf121
  v51 := Tryz.zeroValue121
  t53 := Tryz.underlying123
  a53 := Tryz.isAgg123
  z53 := Tryz.sizeOf123
  v53 := Tryz.zeroValue123
  t131 := Tryz.underlying118
  a131 := Tryz.isAgg118
  z131 := Tryz.sizeOf118
  v131 := Tryz.zeroValue118
  t182 := Tryz.underlying113
  a182 := Tryz.isAgg113
  z182 := Tryz.sizeOf113
  v182 := Tryz.zeroValue113
  t183 := Tryz.underlying114
  a183 := Tryz.isAgg114
  z183 := Tryz.sizeOf114
  v183 := Tryz.zeroValue114
  t218 := Tryz.underlying134
  a218 := Tryz.isAgg134
  z218 := Tryz.sizeOf134
  v218 := Tryz.zeroValue134
  t222 := Tryz.underlying138
  a222 := Tryz.isAgg138
  z222 := Tryz.sizeOf138
  v222 := Tryz.zeroValue138
  t228 := Tryz.underlying143
  a228 := Tryz.isAgg143
  z228 := Tryz.sizeOf143
  v228 := Tryz.zeroValue143
  t229 := Tryz.underlying38
  a229 := Tryz.isAgg38
  z229 := Tryz.sizeOf38
  v229 := Tryz.zeroValue38 }
open Go.Sort Go.RowKit in
theorem Tryz.slices_Sort_int (blk off cap : Nat) (zs : List Int) (w : World) (hH : Holds (Value.int .i64) w blk off zs.toArray) (hblk : blk < w.heap.size) (hsz : zs.length < 4611686018427387904) :
    Calls Tryz.prog 29 #[.slice (some ⟨blk, off, none⟩) zs.length cap] w fun e w' =>
      e = .returned (.tuple #[]) ∧ ∃ n os, w' = grow (putRow (Value.int .i64) (Sort.ahead w n) blk off (zs.mergeSort fun x y => decide (x ≤ y)).toArray) os := Any.slices_Sort_int Tryz.lays189 blk off cap zs w hH hblk hsz
end Go.Proofs
set_option linter.unusedVariables false
set_option linter.unusedSimpArgs false
namespace Go.Proofs.YtacobpmmpdadpaaGreat
open Go.RowKit Doc Go.Sort
theorem cellsI_map (l : List Int) : cellsI l = l.map (Value.int .i64) := by
  induction l with
  | nil => rfl
  | cons a r ih => simp [cellsI, encI] at *; exact ih
theorem holdsI {w : World} {g : Nat} {cur : Array Value} {e : TypeId} {ss : List Int} (hb : w.heap[g]? = some (.cells cur e (0, 0))) (ht : cur.toList.take ss.length = ss.map (Value.int .i64)) : Holds (Value.int .i64) w g 0 ss.toArray := by
  intro j hj
  have hj' : j < ss.length := by simpa using hj
  refine ⟨?_, by simp [World.frozen?, hb]⟩
  have h1 : (cur.toList.take ss.length)[j]? = (ss.map (Value.int .i64))[j]? := by rw [ht]
  rw [List.getElem?_take_of_lt hj'] at h1
  simp only [World.cell?, hb, Nat.zero_add]
  simp only [Option.isSome_none, Bool.false_eq_true, if_false]
  rw [← Array.getElem?_toList, h1]
  simp [hj']
theorem heap_sortedI {w : World} {g n : Nat} {os : Array Obj} {cur : Array Value} {e : TypeId} {fr : Nat × Nat} (d : Array Int) (hb : w.heap[g]? = some (.cells cur e fr)) :
    (grow (putRow (Value.int .i64) (Sort.ahead w n) g 0 d) os).heap[g]? = some (.cells (putCells (Value.int .i64) 0 d cur) e fr) := by
  have hg : g < w.heap.size := (Array.getElem?_eq_some_iff.1 hb).1
  rw [heap_grow_old _ _ (by simpa using hg)]
  simp [putRow, mapBlock, Sort.ahead, Array.getElem?_modify, hb, onCells]
theorem grownBy_sortedI {w : World} {g n : Nat} {os : Array Obj} (d : Array Int) : w.grownBy (grow (putRow (Value.int .i64) (Sort.ahead w n) g 0 d) os) (some g) := by
  refine ⟨rfl, rfl, rfl, by simp, fun k hk hne => ?_⟩
  rw [heap_grow_old _ _ (by simpa using hk)]
  have : g ≠ k := fun e => hne (by rw [e])
  simp [putRow, mapBlock, Sort.ahead, Array.getElem?_modify, this]
theorem take_putCellsI (cur : Array Value) (ts : List Int) (h : ts.length ≤ cur.size) : (putCells (Value.int .i64) 0 ts.toArray cur).toList.take ts.length = ts.map (Value.int .i64) := by
  apply List.ext_getElem?
  intro j
  by_cases hj : j < ts.length
  · rw [List.getElem?_take_of_lt hj, Array.getElem?_toList]
    simp [putCells, hj, show j < cur.size by omega]
  · rw [List.getElem?_take_eq_none (by omega), List.getElem?_eq_none (by simp; omega)]
/-- Behind the sort the slice has the sorted numbers. -/
theorem sort_own {w0 w : World} {v : Value} {q : Nat} {cs : List Int} (ho : Own w0 w 3 1 v q (cellsI cs)) (hq : q = cs.length) (hlen : q ≤ 1000000) :
    Calls Tryz.prog 29 #[v] w fun e w' => e = .returned (.tuple #[]) ∧ Own w0 w' 3 1 v q (cellsI (cs.mergeSort fun x y => decide (x ≤ y))) := by
  rcases ho.1.2 with ⟨rfl, h0⟩ | ⟨g, cap, cur, rfl, h1, h2, h3, h4, h5, h6⟩
  · have hcs : cs = [] := List.eq_nil_of_length_eq_zero (by omega)
    subst hcs
    refine (Any.slices_Sort_int_none Tryz.lays189 none 0 w).mono ?_
    rintro e w' ⟨rfl, h⟩
    refine ⟨rfl, ?_⟩
    subst hq
    simp only [List.mergeSort_nil]
    first
      | (subst h; exact ho)
      | (obtain ⟨n, rfl⟩ := h; exact Own.of_grow ho ⟨rfl, rfl, rfl, Nat.le_refl _, fun _ _ => rfl⟩)
  · subst hq
    rw [Nat.mul_one, cellsI_map] at h6
    refine (Tryz.slices_Sort_int g 0 cap cs w (holdsI h2 h6) (Array.getElem?_eq_some_iff.1 h2).1 (by omega)).mono ?_
    rintro e w' ⟨rfl, n, os, rfl⟩
    refine ⟨rfl, ⟨by simp [cellsI_map], .inr ⟨g, cap, _, rfl, h1, heap_sortedI _ h2, h3, h4, by simp [putCells, h5], ?_⟩⟩, ?_⟩
    · have hl : cs.length = (cs.mergeSort fun x y => decide (x ≤ y)).length := by simp
      rw [Nat.mul_one, cellsI_map, hl]
      exact take_putCellsI cur _ (by rw [← hl]; omega)
    · exact Below.grown ho.2 (grownBy_sortedI _) ho.2.size (fun k hk => by cases hk; exact h1)
/-- The sorted list of the loose ones. -/
theorem loose_sorted {d : Doc} (hw : d.WF) {cs : List Int} (hn : cs.Nodup) (hm : ∀ x, x ∈ cs ↔ d.has x ∧ x ≠ 0 ∧ d.upOf x = -1) : (cs.mergeSort fun x y => decide (x ≤ y)) = looseD d := by
  have hs1 : (cs.mergeSort fun x y => decide (x ≤ y)).Pairwise (fun x y => decide (x ≤ y) = true) := List.pairwise_mergeSort (by intro a b c; simp; omega) (by intro a b; simp; omega) _
  have hp := List.mergeSort_perm cs fun x y => decide (x ≤ y)
  have hn2 : (cs.mergeSort fun x y => decide (x ≤ y)).Nodup := hp.nodup_iff.2 hn
  have hs1' : (cs.mergeSort fun x y => decide (x ≤ y)).Pairwise (· < ·) := by
    have := hs1.and hn2
    refine this.imp ?_
    rintro a b ⟨h1, h2⟩
    simp at h1
    omega
  have hs2 : (looseD d).Pairwise (· < ·) := by
    unfold looseD
    exact hw.sorted.sublist (List.Sublist.map _ List.filter_sublist)
  have hmem : ∀ x, x ∈ (cs.mergeSort fun x y => decide (x ≤ y)) ↔ x ∈ looseD d := fun x => by
    rw [hp.mem_iff, hm]
    unfold looseD
    rw [List.mem_map]
    constructor
    · rintro ⟨hx, h0, hu⟩
      obtain ⟨n, hn⟩ := has_iff.1 hx
      refine ⟨n, List.mem_filter.2 ⟨get_mem hn, ?_⟩, get_id hn⟩
      have h1 := get_id hn
      have h2 := upOf_pos hn
      rw [hu] at h2
      simp [h1, h0, ← h2]
    · rintro ⟨n, hn, rfl⟩
      obtain ⟨h1, h2⟩ := List.mem_filter.1 hn
      have hg := get_of_mem hw.sorted h1
      simp only [ne_eq, Bool.and_eq_true, decide_eq_true_eq] at h2
      have hx : d.has n.id := has_iff.2 ⟨_, hg⟩
      refine ⟨hx, by simpa using h2.1, ?_⟩
      rcases hw.up _ hx with h | h
      · exact h
      · have := hw.nn h
        rw [upOf_pos hg] at this
        omega
  -- two rising lists with the same members are one
  have key : ∀ (a b : List Int), a.Pairwise (· < ·) → b.Pairwise (· < ·) → (∀ x, x ∈ a ↔ x ∈ b) → a = b := by
    intro a
    induction a with
    | nil =>
      intro b _ _ h
      cases b with
      | nil => rfl
      | cons y s => exact absurd ((h y).2 (by simp)) (by simp)
    | cons x r ih =>
      intro b ha hb h
      cases b with
      | nil => exact absurd ((h x).1 (by simp)) (by simp)
      | cons y s =>
        rw [List.pairwise_cons] at ha hb
        have exy : x = y := by
          rcases List.mem_cons.1 ((h x).1 (by simp)) with e | e
          · exact e
          · rcases List.mem_cons.1 ((h y).2 (by simp)) with e' | e'
            · exact e'.symm
            · have h1 := hb.1 x e
              have h2 := ha.1 y e'
              omega
        subst exy
        congr 1
        refine ih s ha.2 hb.2 fun z => ⟨fun hz => ?_, fun hz => ?_⟩
        · rcases List.mem_cons.1 ((h z).1 (List.mem_cons_of_mem _ hz)) with e | e
          · have := ha.1 z hz; omega
          · exact e
        · rcases List.mem_cons.1 ((h z).2 (List.mem_cons_of_mem _ hz)) with e | e
          · have := hb.1 z hz; omega
          · exact e
  exact key _ _ hs1' hs2 hmem
section
variable {P : Program} (w : World) {ops : Array Oper} {rest : List Oper} {o : Oper} {a : Act} {Q : Exit → Act → World → Prop}
/-- The next entry of the document's map. -/
theorem wpl_next_dom (hg : o.guard = none) (it : Operand) (hop : o.op = Op.next it false) {b r n : Nat} {D : DataW Unit} {left : Lit → Bool} {cnt : Nat} {S : Int → Prop} {nb : Int → Nat} (hs : MapIs D S nb)
    (hit : a.eval it = .pointer (some ⟨r, 0, none⟩)) (h : w.ranges Tryz.prog 3 dE b r n D left cnt)
    (hDone : (∀ kl, left kl = false) → wpList Tryz.prog ops Q rest (a.put o.dst (.tuple #[.bool false])) w)
    (hMore : ∀ (x : Int) (w' : World) (cnt' : Nat), (Lit.int .i64 x).wf = true → S x → left (.int .i64 x) = true → w'.ranges Tryz.prog 3 dE b r n D (fun z => left z && !z.sameKey (.int .i64 x)) cnt' → cnt' < cnt → w.grownBy w' (some r) → w'.heap.size = w.heap.size →
      (Instr.entry (.pointer (some ⟨r, 0, none⟩))).run Tryz.prog w' = .ok (.tuple #[.int .i64 x, .pointer (some ⟨nb x, 0, none⟩)]) w' → wpList Tryz.prog ops Q rest (a.put o.dst (.tuple #[.bool true, .int .i64 x, .pointer (some ⟨nb x, 0, none⟩)])) w') :
    wpList Tryz.prog ops Q (o :: rest) a w := by
  refine wpList_next_ranges w hg it hop 3 lawI dE (Value.int .i64) (fun c : Value => c) (fun key kl hkey => by obtain ⟨x, rfl, _⟩ := Maps.keyOf_int_inv Tryz.underlying3 hkey; exact ⟨x, rfl⟩) (fun v y _ => ⟨v, rfl⟩) b r n D left cnt hit h (fun _ hl => hDone hl) ?_
  intro x c kl y w' cnt' hkey hlk hv hat hrg hlt hgr hsz hen
  obtain ⟨x', ex, rfl, hwx⟩ := Maps.keyOf_int_inv Tryz.underlying3 hkey
  cases ex
  have hS : S x := (hs.has_ x).1 (Maps.has_true_of_atKey hat)
  have e1 := hat .nil
  rw [hs.at_ x hS] at e1
  have e2 : c = .pointer (some ⟨nb x, 0, none⟩) := by
    obtain ⟨y1, y2⟩ := y
    simp only at e1
    subst e1
    exact dE_at_inv hv
  subst e2
  exact hMore x w' cnt' hwx hS hlk hrg hlt hgr hsz hen
end
end Go.Proofs.YtacobpmmpdadpaaGreat
set_option linter.unusedVariables false
set_option linter.unusedSimpArgs false
namespace Go.Proofs.YtacobpmmpdadpaaGreat
open Go.RowKit Doc
/-- What has been gathered, of what has come. -/
def Gath (d : Doc) (left : Lit → Bool) (cs : List Int) : Prop := cs.Nodup ∧ ∀ x, x ∈ cs ↔ (d.has x ∧ left (.int .i64 x) = false) ∧ x ≠ 0 ∧ d.upOf x = -1
theorem left_struck {left : Lit → Bool} {x y : Int} : (left (.int .i64 y) && !(Lit.int .i64 y).sameKey (.int .i64 x)) = false ↔ left (.int .i64 y) = false ∨ y = x := by
  cases left (.int .i64 y) <;> simp [Lit.sameKey]
theorem Gath.skip {d : Doc} {left : Lit → Bool} {cs : List Int} (h : Gath d left cs) {x : Int} (hx : x = 0 ∨ d.upOf x ≠ -1) : Gath d (fun z => left z && !z.sameKey (.int .i64 x)) cs := by
  refine ⟨h.1, fun y => ?_⟩
  rw [h.2 y, left_struck]
  constructor
  · rintro ⟨⟨h1, h2⟩, h3⟩; exact ⟨⟨h1, .inl h2⟩, h3⟩
  · rintro ⟨⟨h1, h2 | rfl⟩, h3, h4⟩
    · exact ⟨⟨h1, h2⟩, h3, h4⟩
    · rcases hx with e | e
      · exact absurd e h3
      · exact absurd h4 e
theorem Gath.put {d : Doc} {left : Lit → Bool} {cs : List Int} (h : Gath d left cs) {x : Int} (hh : d.has x) (hl : left (.int .i64 x) = true) (h0 : x ≠ 0) (hu : d.upOf x = -1) : Gath d (fun z => left z && !z.sameKey (.int .i64 x)) (cs ++ [x]) := by
  refine ⟨?_, fun y => ?_⟩
  · rw [List.nodup_append]
    refine ⟨h.1, by simp, ?_⟩
    rintro a ha b hb rfl
    rw [List.mem_singleton] at hb
    subst hb
    have := ((h.2 a).1 ha).1.2
    rw [hl] at this; cases this
  · rw [List.mem_append, List.mem_singleton, h.2 y, left_struck]
    constructor
    · rintro (⟨⟨h1, h2⟩, h3⟩ | rfl)
      · exact ⟨⟨h1, .inl h2⟩, h3⟩
      · exact ⟨⟨hh, .inr rfl⟩, h0, hu⟩
    · rintro ⟨⟨h1, h2 | rfl⟩, h3⟩
      · exact .inl ⟨⟨h1, h2⟩, h3⟩
      · exact .inr rfl
theorem Gath.len {d : Doc} (hw : d.WF) {left : Lit → Bool} {cs : List Int} (h : Gath d left cs) : cs.length ≤ d.nodes.length := by
  have := nodup_le _ (d.nodes.map (·.id)) h.1 fun a ha => (has_ids a).1 ((h.2 a).1 ha).1.1
  simpa using this
section
variable {w0 w : World} {db mb : Nat} {nb ib : Int → Nat} {D : DataW Unit} {d : Doc}
theorem grow_iter {w w0' w1 w2 : World} {r : Nat} (h : Grow w w1) (hr : w.heap.size ≤ r) (hg : w1.grownBy w2 (some r)) : Grow w w2 := Below.grown h hg h.size (fun k hk => by cases hk; exact hr)
theorem own_iter {w w1 w2 : World} {r : Nat} {v : Value} {q : Nat} {cs : List Value} {e size : Nat} (h : Own w w1 e size v q cs) (hne : some r ≠ v.ownBlock) (hr : w.heap.size ≤ r) (hg : w1.grownBy w2 (some r)) : Own w w2 e size v q cs :=
  ⟨h.1.kept hg (by
    rcases hb : v.ownBlock with _ | k
    · exact .inl rfl
    · exact .inr (fun e => hne (by rw [hb]; exact e.symm))), grow_iter (w0' := w) h.2 hr hg⟩
set_option maxHeartbeats 2000000 in
theorem loose_d (h : DomRep w0 w db mb nb ib D d) (hw : d.WF) (hfew : d.nodes.length ≤ 1000000) :
    Calls Tryz.prog 10 #[.pointer (some ⟨db, 0, none⟩)] w (RetI w (looseD d)) := by
  have hp := h.p0
  have hm := h.tight hw
  have HR := Lib.hid h
  have HW := Lib.hid hw
  have HM := Lib.hid hm
  clear h hw hm
  go_enter Tryz.func10, Tryz.ntmps10
  go_wp2_with (at_range; refine wpList_range_own _ rfl _ 60 rfl 3 55 lawI Tryz.underlying60 dE mb d.nodes.length D rfl HM.out ?_; intro w1 hrg1 hg1 hs1)
  go_frame
  have HG1 := Lib.hid hg1
  clear hs1 hg1
  go_loopw [3] (fun v wr => ∃ (left : Lit → Bool) (cnt q : Nat) (cs : List Int), wr.ranges Tryz.prog 3 dE mb w.heap.size d.nodes.length D left cnt ∧ Hid (Gath d left cs) ∧ Hid (q = cs.length) ∧ q ≤ 1000000 ∧ Own w wr 3 1 v q (cellsI cs)) (fun _ wr => wr.rangeLeft mb w.heap.size)
  case atStart =>
    refine ⟨_, _, 0, [], hrg1, ⟨by simp, fun x => ?_⟩, rfl, by omega, Own.nil _ _ (Below.grown (Below.refl _ _) HG1.out (Nat.le_refl _) (fun k hk => by cases hk))⟩
    constructor
    · intro h; cases h
    · rintro ⟨⟨h1, h2⟩, _⟩
      rw [(HR.out.is_.has_ x).2 h1] at h2; cases h2
  case round =>
    obtain ⟨left, cnt, q, cs, hrg, HGA, hqc, hq6, ho⟩ := hrel
    obtain ⟨Av, cv, rfl⟩ := ho.form
    have HO := Lib.hid ho
    clear ho
    have HRG := Lib.hid hrg
    go_wp2_with (at_next; refine wpl_next_dom _ rfl _ rfl HR.out.is_ rfl HRG.out ?_ ?_)
    · intro hl0
      have HL0 := Lib.hid hl0
      clear hl0
      have HSO := Lib.hid (sort_own HO.out hqc.out hq6)
      have HFIN := Lib.hid fun (w5 : World) (h5 : Own w w5 3 1 (.slice Av q cv) q (cellsI (cs.mergeSort fun x y => decide (x ≤ y)))) => (show RetI w (looseD d) (.returned (.slice Av q cv)) w5 from by
        have e := loose_sorted HW.out HGA.out.1 (fun x => by rw [HGA.out.2 x]; simp [HL0.out])
        rw [e] at h5
        refine ⟨_, rfl, h5.newI rfl ?_, h5.2⟩
        rw [← e, List.length_mergeSort]
        exact hqc.out)
      clear HO HL0 HGA hqc hrg
      go_wp2_with (go_at_call 29; refine HSO.out.mono ?_; rintro e' w5 ⟨rfl, ho5⟩; have HO5 := Lib.hid ho5; clear ho5)
      go_ret
      exact HFIN.out _ HO5.out
    · intro x w2 cnt2 hwx hSx hlx hrg2 hlt hg2 hs2 hen
      have hrn : some w.heap.size ≠ (Value.slice Av q cv).ownBlock := row_ne_iter HO.out.1 HRG.out
      have HO2 := Lib.hid (own_iter HO.out hrn (Nat.le_refl _) hg2)
      have R2 := HR.out.grow HO2.out.2
      have HRG2 := Lib.hid hrg2
      have HME := Lib.hid hrg
      by_cases e0 : x = 0
      · subst e0
        have HGA2 := Lib.hid (HGA.out.skip (x := 0) (.inl rfl))
        clear hwx hSx hlx hrg2 hg2 hs2 R2 HGA hrn hrg HO
        go_wp2
        go_roundw
        case rel => exact ⟨_, cnt2, q, cs, HRG2.out, HGA2.out, hqc, hq6, HO2.out⟩
        case measure => rw [HRG2.out.left_eq, HME.out.left_eq]; exact hlt
      · have hn1 := R2.nodeI hSx
        have HU := Lib.hid (R2.upV hSx)
        have e1 : (x != 0) = true := by simpa using e0
        by_cases eu : d.upOf x = -1
        · rw [eu, pI_nil] at HU
          have HGA2 := Lib.hid (HGA.out.put hSx hlx e0 eu)
          have hl2 := HGA2.out.len HW.out
          rw [List.length_append, ← hqc.out] at hl2
          simp only [List.length_cons, List.length_nil] at hl2
          have hq7 : q + 1 ≤ 1000000 := by omega
          have HQ2 := Lib.hid (show q + 1 = (cs ++ [x]).length by rw [List.length_append, ← hqc.out]; rfl)
          have HRN := Lib.hid hrn
          have HMB := Lib.hid (show some mb ≠ (Value.slice Av q cv).ownBlock from row_ne_low HO.out.1 HM.out.lt)
          clear hwx hSx hlx hrg2 hg2 hs2 R2 HGA hrn hrg HO hl2 eu e0
          go_wp2_with first
            | (go_at_call 21; refine HU.out.mono ?_; rintro e' w4 ⟨rfl, rfl⟩)
            | (at_builtin; go_must (refine wpl_app (w0 := w) rfl _ _ _ 3 _ 1 8 rfl Tryz.underlying33 infoInt rfl ?z1 ?z2 _ q (cellsI cs) [.int .i64 x] rfl rfl ?hg rfl ?z3 ?ho ?hl ?_); (case hg => simp); (case z1 => decide); (case z2 => decide); (case z3 => simp [Value.oneCell']); (case ho => exact HO2.out); (case hl => omega); clear HO2; intro v1 w3 ho1 hgr1; have HO3 := Lib.hid ho1; have HRG3 := Lib.hid (HRG2.out.kept hgr1 HMB.out HRN.out); clear ho1 hgr1)
          go_roundw
          case rel => exact ⟨_, cnt2, q + 1, cs ++ [x], HRG3.out, HGA2.out, HQ2, hq7, by rw [cellsI_snoc]; exact HO3.out⟩
          case measure => rw [HRG3.out.left_eq, HME.out.left_eq]; exact hlt
        · have hux := (HW.out.up x hSx).resolve_left eu
          rw [pI_at ib (HW.out.nn hux)] at HU
          have HGA2 := Lib.hid (HGA.out.skip (x := x) (.inr eu))
          clear hwx hSx hlx hrg2 hg2 hs2 R2 HGA hrn hrg HO hux e0 eu
          generalize ib (d.upOf x) = iu at *
          go_wp2_with (go_at_call 21; refine HU.out.mono ?_; rintro e' w4 ⟨rfl, rfl⟩)
          go_roundw
          case rel => exact ⟨_, cnt2, q, cs, HRG2.out, HGA2.out, hqc, hq6, HO2.out⟩
          case measure => rw [HRG2.out.left_eq, HME.out.left_eq]; exact hlt
end
end Go.Proofs.YtacobpmmpdadpaaGreat
set_option linter.unusedVariables false
set_option linter.unusedSimpArgs false
namespace Go.Proofs.YtacobpmmpdadpaaGreat
open Go.RowKit Doc
theorem RetRowsD.rows {ws w' : World} {r : List Rw} {e : Ending} (h : RetRowsD ws r e w') : ∃ v, e = .returned v ∧ RowsAt w' v r ∧ Grow ws w' := by
  obtain ⟨v, raws, rfl, ho, hp⟩ := h
  refine ⟨v, rfl, ⟨raws, (ho.rdv (fun (x : RR) cs => cs = encR x) raws encR (fun _ _ => rfl) (fun _ => rfl) rfl hp.len.symm).imp (fun _ _ _ h => h) (fun _ _ => trivial) (fun _ _ _ => rfl), Pw.imp hp fun _ _ h => ⟨_, h⟩⟩, ho.grow⟩
theorem RetRows.rows {ok : Nat → Prop} {ws w' : World} {r : List Rw} {e : Ending} (h : RetRows ok ws r e w') : ∃ v, e = .returned v ∧ RowsAt w' v r ∧ Grow ws w' := by
  obtain ⟨v, raws, rfl, ho, hp⟩ := h
  refine ⟨v, rfl, ⟨raws, (ho.rdv (fun (x : RR) cs => cs = encR x) raws encR (fun _ _ => rfl) (fun _ => rfl) rfl hp.len.symm).imp (fun _ _ _ h => h) (fun _ _ => trivial) (fun _ _ _ => rfl), Pw.imp hp fun _ _ h => ⟨_, h.grow' ho.grow⟩⟩, ho.grow⟩
theorem notAnc {d : Doc} (S : Int → Prop) (h : ∀ x, S x → S (d.upOf x)) {x y : Int} (hx : S x) (hy : ¬ S y) : ¬ d.Anc x y := by
  rintro ⟨k, rfl⟩
  refine hy ?_
  clear hy
  induction k with
  | zero => exact hx
  | succ k ih => exact h _ ih
def sB : ByteArray := ⟨#[98]⟩
def D1 : Doc := ⟨[⟨0, -1, [], ⟨#[]⟩, ⟨#[]⟩, ⟨#[]⟩, []⟩, ⟨5, -1, [], ⟨#[112]⟩, ⟨#[]⟩, ⟨#[]⟩, []⟩], 6⟩
def D2 : Doc := ⟨[⟨0, -1, [], ⟨#[]⟩, ⟨#[]⟩, ⟨#[]⟩, []⟩, ⟨5, -1, [], ⟨#[112]⟩, ⟨#[]⟩, ⟨#[]⟩, []⟩, ⟨6, -1, [], ⟨#[98]⟩, ⟨#[107]⟩, ⟨#[120]⟩, [⟨⟨#[97]⟩, ⟨#[49]⟩⟩]⟩], 7⟩
def D3 : Doc := ⟨[⟨0, -1, [5], ⟨#[]⟩, ⟨#[]⟩, ⟨#[]⟩, []⟩, ⟨5, 0, [], ⟨#[112]⟩, ⟨#[]⟩, ⟨#[]⟩, []⟩, ⟨6, -1, [], ⟨#[98]⟩, ⟨#[107]⟩, ⟨#[120]⟩, [⟨⟨#[97]⟩, ⟨#[49]⟩⟩]⟩], 7⟩
def D4 : Doc := ⟨[⟨0, -1, [5], ⟨#[]⟩, ⟨#[]⟩, ⟨#[]⟩, []⟩, ⟨5, 0, [6], ⟨#[112]⟩, ⟨#[]⟩, ⟨#[]⟩, []⟩, ⟨6, 5, [], ⟨#[98]⟩, ⟨#[107]⟩, ⟨#[120]⟩, [⟨⟨#[97]⟩, ⟨#[49]⟩⟩]⟩], 7⟩
def R4 : List Rw := [⟨5, 0, ⟨#[112]⟩, ⟨#[]⟩, ⟨#[]⟩, []⟩, ⟨6, 1, ⟨#[98]⟩, ⟨#[107]⟩, ⟨#[120]⟩, [⟨⟨#[97]⟩, ⟨#[49]⟩⟩]⟩]
theorem step1 : (Doc.new 5).createD ⟨#[112]⟩ ⟨#[]⟩ ⟨#[]⟩ [] = (5, 0, D1) := by rfl
theorem step2 : D1.createD ⟨#[98]⟩ ⟨#[107]⟩ ⟨#[120]⟩ [⟨⟨#[97]⟩, ⟨#[49]⟩⟩] = (6, 0, D2) := by rfl
theorem att3 : D2.attach 0 5 0 = D3 := by rfl
theorem att4 : D3.attach 5 6 0 = D4 := by rfl
theorem up_else {d : Doc} {x : Int} (h : d.get x = none) : d.upOf x = -1 := by unfold Doc.upOf; rw [h]; rfl
theorem step3 : D2.insertD 5 0 0 = (0, D3) := by
  unfold Doc.insertD
  have h5 : D2.has 5 := has_iff.2 ⟨_, rfl⟩
  have h0 : D2.has 0 := has_iff.2 ⟨_, rfl⟩
  have ha : ¬ D2.Anc 0 5 := notAnc (fun x => x = 0 ∨ x = -1) (fun x hx => by rcases hx with rfl | rfl <;> exact .inr rfl) (.inl rfl) (by omega)
  rw [if_neg (by decide), if_neg (by simpa using h5), if_neg (by rintro (h | h) <;> exact h h0), if_neg (by simp; rfl), if_neg ha, if_neg (by simp), att3]
theorem step4 : D3.insertD 6 5 0 = (0, D4) := by
  unfold Doc.insertD
  have h5 : D3.has 5 := has_iff.2 ⟨_, rfl⟩
  have h6 : D3.has 6 := has_iff.2 ⟨_, rfl⟩
  have h0 : D3.has 0 := has_iff.2 ⟨_, rfl⟩
  have ha : ¬ D3.Anc 5 6 := notAnc (fun x => x = 5 ∨ x = 0 ∨ x = -1) (fun x hx => by rcases hx with rfl | rfl | rfl; exact .inr (.inl rfl); exact .inr (.inr rfl); exact .inr (.inr rfl)) (.inl rfl) (by omega)
  rw [if_neg (by decide), if_neg (by simpa using h6), if_neg (by rintro (h | h); exact h h5; exact h h0), if_neg (by simp; rfl), if_neg ha, if_neg (by simp), att4]
theorem wf1 : D1.WF := by
  have := (WF.new (next := 5) (by decide) (by decide)).createD ⟨#[112]⟩ ⟨#[]⟩ ⟨#[]⟩ []
  rw [step1] at this; exact this
theorem wf2 : D2.WF := by
  have := wf1.createD ⟨#[98]⟩ ⟨#[107]⟩ ⟨#[120]⟩ [⟨⟨#[97]⟩, ⟨#[49]⟩⟩]
  rw [step2] at this; exact this
theorem wf3 : D3.WF := by
  have := wf2.insertD 5 0 0
  rw [step3] at this; exact this
theorem wf4 : D4.WF := by
  have := wf3.insertD 6 5 0
  rw [step4] at this; exact this
theorem read4 : belowF 3 D4 [] 0 0 = some R4 := by rfl
/-- Each call of the example, at the world that it comes to. -/
theorem create1 {w w1 : World} {db : Nat} (h : DAt w w1 db (Doc.new 5)) : Calls Tryz.prog 17 #[.pointer (some ⟨db, 0, none⟩), .string ⟨#[112]⟩, .string ⟨#[]⟩, .string ⟨#[]⟩, .slice none 0 0] w1 (DStep w w1 db D1 (.tuple #[.int .i64 5, .int .i64 0])) := by
  obtain ⟨mb, nb, ib, D, h⟩ := h
  have := create_d h (WF.new (by decide) (by decide)) (by decide) ⟨#[112]⟩ ⟨#[]⟩ ⟨#[]⟩ [] none 0 (nilRdV _ _ _ _) (fun _ h => by simp at h) (by decide)
  rw [step1] at this
  exact this
theorem create2 {w w1 w2 : World} {db : Nat} (h : DAt w w1 db D1) (hg : Grow w w1) (hw2 : w2 = w1.alloc (.cells #[.string ⟨#[97]⟩, .string ⟨#[49]⟩] 48)) : Calls Tryz.prog 17 #[.pointer (some ⟨db, 0, none⟩), .string ⟨#[98]⟩, .string ⟨#[107]⟩, .string ⟨#[120]⟩, .slice (some ⟨w1.heap.size, 0, none⟩) 1 1] w2 (DStep w w2 db D2 (.tuple #[.int .i64 6, .int .i64 0])) := by
  subst hw2
  have h2 := h.grow (grow_alloc (Below.refl _ _) (.cells #[.string ⟨#[97]⟩, .string ⟨#[49]⟩] 48))
  obtain ⟨mb, nb, ib, D, h2⟩ := h2
  have ho := Own.lit hg 48 2 1 #[.string ⟨#[97]⟩, .string ⟨#[49]⟩] rfl (by decide)
  have hl := (ho.newAt (l := [⟨⟨#[97]⟩, ⟨#[49]⟩⟩]) rfl rfl)
  have := create_d h2 wf1 (by decide) ⟨#[98]⟩ ⟨#[107]⟩ ⟨#[120]⟩ [⟨⟨#[97]⟩, ⟨#[49]⟩⟩] (some ⟨w1.heap.size, 0, none⟩) 1 (hl.imp (fun _ _ _ h => h) (fun b hb => hb.imm (by decide)) (fun b _ _ => rfl)) (fun _ h => by simp at h; subst h; decide) (by decide)
  rw [step2] at this
  exact this
theorem insert1 {w w1 : World} {db : Nat} (h : DAt w w1 db D2) : Calls Tryz.prog 18 #[.pointer (some ⟨db, 0, none⟩), .int .i64 5, .int .i64 0, .int .i64 0] w1 (DStep w w1 db D3 (.int .i64 0)) := by
  obtain ⟨mb, nb, ib, D, h⟩ := h
  have := insert_d h wf2 5 0 0 (by decide) (by decide) (by decide)
  rw [step3] at this
  exact this
theorem insert2 {w w1 : World} {db : Nat} (h : DAt w w1 db D3) : Calls Tryz.prog 18 #[.pointer (some ⟨db, 0, none⟩), .int .i64 6, .int .i64 5, .int .i64 0] w1 (DStep w w1 db D4 (.int .i64 0)) := by
  obtain ⟨mb, nb, ib, D, h⟩ := h
  have := insert_d h wf3 6 5 0 (by decide) (by decide) (by decide)
  rw [step4] at this
  exact this
theorem read1 {w w1 : World} {db : Nat} (h : DAt w w1 db D4) : Calls Tryz.prog 9 #[.pointer (some ⟨db, 0, none⟩)] w1 fun e w' => ∃ b o c, e = .returned (.slice (some ⟨b, o, none⟩) 2 c) ∧ Grow w1 w' ∧ DAt w w' db D4 ∧ w'.cell? ⟨b, o + 6, none⟩ = some (.int .i64 6) ∧ w'.cell? ⟨b, o + 6 + 1, none⟩ = some (.int .i64 1) ∧ w'.cell? ⟨b, o + 6 + 3, none⟩ = some (.string ⟨#[107]⟩) := by
  have h' := h
  obtain ⟨mb, nb, ib, D, h⟩ := h
  refine (read_d h wf4 (by decide) read4 (by decide)).mono fun e w' hr => ?_
  obtain ⟨v, rfl, hv, hg⟩ := hr.rows
  obtain ⟨A, c, rfl, _⟩ := hv.form
  obtain ⟨b, o, id, up, tag, key, text, av, rfl, hl, c0, c1, _, c3, _⟩ := hv.at (i := 1) (by decide)
  cases hl
  exact ⟨b, o, c, rfl, hg, h'.grow hg, c0, c1, c3⟩
theorem next1 {w w1 : World} {db : Nat} (h : DAt w w1 db D4) : Calls Tryz.prog 11 #[.pointer (some ⟨db, 0, none⟩)] w1 fun e w' => e = .returned (.int .i64 7) ∧ w1 = w' := by
  obtain ⟨mb, nb, ib, D, h⟩ := h
  exact nextD h
theorem grow_step {w w1 w2 : World} {db : Nat} {d : Doc} {v : Value} {e : Ending} (hg : Grow w w1) (h : DStep w w1 db d v e w2) : Grow w w2 := hg.trans (Fr.below h.2.2 hg.size)
theorem same_true (w : World) : Calls Tryz.prog 6 #[] w (RetB w true) := by
  go_enter Tryz.func6, Tryz.ntmps6
  go_upto_region 2 with (go_at_call 7; refine (new_d w w (Below.refl _ _) 5 (by decide) (by decide)).mono ?_; rintro e' w1 ⟨db, rfl, hd1, hg1⟩; have HD1 := Lib.hid hd1; have HG1 := Lib.hid hg1; clear hd1 hg1)
  go_upto_region 3 with (go_at_call 17; refine (create1 HD1.out).mono ?_; rintro e' w2 hs2; have HG2 := Lib.hid (grow_step HG1.out hs2); obtain ⟨rfl, hd2, _⟩ := hs2; have HD2 := Lib.hid hd2; clear hd2 HD1)
  go_upto_region 4 with (go_at_call 17; refine (create2 HD2.out HG2.out rfl).mono ?_; rintro e' w3 hs3; have HG3 := Lib.hid (grow_step (grow_alloc HG2.out _) hs3); obtain ⟨rfl, hd3, _⟩ := hs3; have HD3 := Lib.hid hd3; clear hd3 HD2)
  go_upto_region 5 with (go_at_call 18; refine (insert1 HD3.out).mono ?_; rintro e' w4 hs4; have HG4 := Lib.hid (grow_step HG3.out hs4); obtain ⟨rfl, hd4, _⟩ := hs4; have HD4 := Lib.hid hd4; clear hd4 HD3)
  go_upto_region 6 with (go_at_call 18; refine (insert2 HD4.out).mono ?_; rintro e' w5 hs5; have HG5 := Lib.hid (grow_step HG4.out hs5); obtain ⟨rfl, hd5, _⟩ := hs5; have HD5 := Lib.hid hd5; clear hd5 HD4)
  go_upto_region 7 with (go_at_call 9; refine (read1 HD5.out).mono ?_; rintro e' w6 ⟨b6, o6, c6, rfl, hg6, hd6, q0, q1, q3⟩; have HG6 := Lib.hid (Grow.trans' HG5.out hg6); have HD6 := Lib.hid hd6; clear hd6 hg6 HD5)
  go_wp2_with (go_at_call 11; refine (next1 HD6.out).mono ?_; rintro e' w7 ⟨rfl, rfl⟩)
  go_ret
  exact ⟨rfl, HG6.out⟩
end Go.Proofs.YtacobpmmpdadpaaGreat
