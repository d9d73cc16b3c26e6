/- The laws DomPlays and DomSteps answer true at every next ID and every list of operations, and what they are handed reads behind the call as it read before it: no condition. -/
import Derived.Test.YtacobpmmpdadpaaGreatPk3
import Derived.Test.YtacobpmmpdadpaaGreatPk5
import Derived.Test.YtacobpmmpdadpaaGreatPk6
import Derived.Test.YtacobpmmpdadpaaGreatPk4
import Derived.Deep.Slices
import Derived.Deep.Fields
import Derived.ChangeSame
import Derived.SizedLaws
import Derived.Test.YtacobpmmpdadpaaGreatRows
import Derived.WalkKit
import Derived.ProofKit
import Derived.OpenShut
import Derived.ShutString
import Derived.ChangeOld
import Derived.Below
import Derived.Carry
set_option linter.unusedVariables false
set_option linter.unusedSimpArgs false
namespace Go.Proofs.YtacobpmmpdadpaaGreat
open Go.RowKit Doc
/-- What the loop has found behind k places. -/
def foundP (s : List Int) (id : Int) (k : Nat) : Int := if id ∈ s.take k then prevIn s id else -1
def foundN (s : List Int) (id : Int) (k : Nat) : Int := if id ∈ s.take k then nextIn s id else -1
theorem found_no {s : List Int} {id : Int} {k : Nat} (hk : k < s.length) (e : s.getD k 0 ≠ id) : foundP s id (k + 1) = foundP s id k ∧ foundN s id (k + 1) = foundN s id k := by
  unfold foundP foundN
  rw [take_snoc s 0 hk]
  have : (id ∈ s.take k ++ [s.getD k 0]) ↔ id ∈ s.take k := by
    rw [List.mem_append, List.mem_singleton]
    exact ⟨fun h => h.resolve_right fun e' => e e'.symm, .inl⟩
  simp only [this, and_self]
theorem found_at {s : List Int} {id : Int} {k : Nat} (hn : s.Nodup) (hk : k < s.length) (e : s.getD k 0 = id) : foundP s id k = -1 ∧ foundN s id k = -1 ∧ foundP s id (k + 1) = (if 0 < k then s.getD (k - 1) 0 else -1) ∧ foundN s id (k + 1) = (if k + 1 < s.length then s.getD (k + 1) 0 else -1) := by
  have hs := split_at hk
  have hn' := hn
  rw [hs] at hn'
  obtain ⟨h1, _⟩ := nodup_split hn'
  rw [e] at h1
  have h2 : id ∈ s.take (k + 1) := by rw [take_snoc s 0 hk, e]; simp
  refine ⟨if_neg h1, if_neg h1, ?_, ?_⟩
  · unfold foundP; rw [if_pos h2, ← e, prev_index hn hk]
  · unfold foundN; rw [if_pos h2, ← e, next_index hn hk]
section
variable {w0 w : World} {rb g cap : Nat} {xs : List RN} {d : Doc}
def RetFive (w : World) (l : Lk) (e : Ending) (w' : World) : Prop := e = .returned (.agg #[.int .i64 l.up, .int .i64 l.first, .int .i64 l.last, .int .i64 l.prev, .int .i64 l.next]) ∧ Grow w w'
/-- What the first part has laid: the result's block and the node's. -/
def FiveA (w wx : World) (nb : Nat) (xup : Int) (Ak : Option Addr) (lk ck : Nat) : Prop := Grow w wx ∧ wx.heap[w.heap.size]? = some (.cells #[.int .i64 0, .int .i64 0, .int .i64 0, .int .i64 0, .int .i64 0] 28 (0, 0)) ∧ w.heap.size < nb ∧ wx.cell? ⟨nb, 1, none⟩ = some (.int .i64 xup) ∧ wx.cell? ⟨nb, 2, none⟩ = some (.slice Ak lk ck)
def FiveB (w wx : World) (nb fb : Nat) (xup fi la p n : Int) : Prop := Grow w wx ∧ wx.heap[w.heap.size]? = some (.cells #[.int .i64 0, .int .i64 0, .int .i64 0, .int .i64 0, .int .i64 0] 28 (0, 0)) ∧ w.heap.size < nb ∧ nb < fb ∧ wx.cell? ⟨nb, 1, none⟩ = some (.int .i64 xup) ∧
  wx.heap[fb]? = some (.cells #[.int .i64 xup, .int .i64 fi, .int .i64 la, .int .i64 p, .int .i64 n] 28 (0, 0))
def FiveP (w wx : World) (nb : Nat) (xup fi la : Int) (t : Value) : Prop := ∃ fb, t = .pointer (some ⟨fb, 0, none⟩) ∧ FiveB w wx nb fb xup fi la (-1) (-1)
def FiveQ (w wx : World) (xup : Int) (Ak : Option Addr) (lk ck : Nat) (t : Value) : Prop := ∃ nb, t = .pointer (some ⟨nb, 0, none⟩) ∧ FiveA w wx nb xup Ak lk ck
theorem FiveB.drewN {w wx : World} {nb fb : Nat} {xup fi la p n : Int} (h : FiveB w wx nb fb xup fi la p n) (k : Nat) : FiveB w (wx.drewN k) nb fb xup fi la p n := by
  induction k with
  | zero => exact h
  | succ k ih => rw [← World.drew_drewN]; exact ⟨grow_drew ih.1, ih.2⟩
theorem FiveB.set {w wx : World} {nb fb : Nat} {xup fi la p n : Int} (h : FiveB w wx nb fb xup fi la p n) (v : Int) : FiveB w (wx.setCell ⟨fb, 3, none⟩ (.int .i64 v)) nb fb xup fi la v n ∧ FiveB w (wx.setCell ⟨fb, 4, none⟩ (.int .i64 v)) nb fb xup fi la p v := by
  obtain ⟨h1, h2, h3, h4, h5, h6⟩ := h
  have hne : ∀ k u, (wx.setCell ⟨fb, k, none⟩ u).heap[w.heap.size]? = wx.heap[w.heap.size]? := fun k u => heap_setCell_other _ _ _ _ (by show w.heap.size ≠ fb; omega)
  have hne2 : ∀ k u, (wx.setCell ⟨fb, k, none⟩ u).cell? ⟨nb, 1, none⟩ = wx.cell? ⟨nb, 1, none⟩ := fun k u => World.cell?_setCell_other wx _ _ _ (fun e => by injection e with e; omega)
  refine ⟨⟨Below.setCell h1 (by show w.heap.size ≤ fb; omega) _, (hne _ _).trans h2, h3, h4, (hne2 _ _).trans h5, ?_⟩, ⟨Below.setCell h1 (by show w.heap.size ≤ fb; omega) _, (hne _ _).trans h2, h3, h4, (hne2 _ _).trans h5, ?_⟩⟩
  · rw [heap_setCell_same wx fb 3 _ _ _ h6]; rfl
  · rw [heap_setCell_same wx fb 4 _ _ _ h6]; rfl
theorem five_cells {wx : World} {fb : Nat} {a b c p n : Int} (h : wx.heap[fb]? = some (.cells #[.int .i64 a, .int .i64 b, .int .i64 c, .int .i64 p, .int .i64 n] 28 (0, 0))) :
    wx.cell? ⟨fb, 0, none⟩ = some (.int .i64 a) ∧ wx.cell? ⟨fb, 1, none⟩ = some (.int .i64 b) ∧ wx.cell? ⟨fb, 2, none⟩ = some (.int .i64 c) ∧ wx.cell? ⟨fb, 3, none⟩ = some (.int .i64 p) ∧ wx.cell? ⟨fb, 4, none⟩ = some (.int .i64 n) := by
  refine ⟨?_, ?_, ?_, ?_, ?_⟩ <;> (unfold World.cell?; rw [h]; rfl)
theorem five_open {wx : World} {fb : Nat} {a b c p n : Int} (h : wx.heap[fb]? = some (.cells #[.int .i64 a, .int .i64 b, .int .i64 c, .int .i64 p, .int .i64 n] 28 (0, 0))) (k : Nat) : wx.frozen? ⟨fb, k, none⟩ = false := by
  unfold World.frozen?; rw [h]; simp
theorem found_all {s : List Int} {id : Int} : foundP s id s.length = prevIn s id ∧ foundN s id s.length = nextIn s id := by
  unfold foundP foundN
  rw [List.take_length]
  constructor
  · split
    · rfl
    · next h => exact (prevIn_notMem _ h).symm
  · split
    · rfl
    · next h => exact (nextIn_notMem _ h).symm
def five5 (w : World) (b : Nat) (v0 v1 v2 v3 v4 : Int) : World := (((((w.setCell ⟨b, 0, none⟩ (.int .i64 v0)).setCell ⟨b, 1, none⟩ (.int .i64 v1)).setCell ⟨b, 2, none⟩ (.int .i64 v2)).setCell ⟨b, 3, none⟩ (.int .i64 v3)).setCell ⟨b, 4, none⟩ (.int .i64 v4))
theorem five5_cells {w : World} {b : Nat} {a c d e f : Int} (h : w.heap[b]? = some (.cells #[.int .i64 a, .int .i64 c, .int .i64 d, .int .i64 e, .int .i64 f] 28 (0, 0))) (v0 v1 v2 v3 v4 : Int) :
    (w.setCell ⟨b, 0, none⟩ (.int .i64 v0)).cell? ⟨b, 0, none⟩ = some (.int .i64 v0) ∧
    ((w.setCell ⟨b, 0, none⟩ (.int .i64 v0)).setCell ⟨b, 1, none⟩ (.int .i64 v1)).cell? ⟨b, 1, none⟩ = some (.int .i64 v1) ∧
    (((w.setCell ⟨b, 0, none⟩ (.int .i64 v0)).setCell ⟨b, 1, none⟩ (.int .i64 v1)).setCell ⟨b, 2, none⟩ (.int .i64 v2)).cell? ⟨b, 2, none⟩ = some (.int .i64 v2) ∧
    ((((w.setCell ⟨b, 0, none⟩ (.int .i64 v0)).setCell ⟨b, 1, none⟩ (.int .i64 v1)).setCell ⟨b, 2, none⟩ (.int .i64 v2)).setCell ⟨b, 3, none⟩ (.int .i64 v3)).cell? ⟨b, 3, none⟩ = some (.int .i64 v3) ∧
    (((((w.setCell ⟨b, 0, none⟩ (.int .i64 v0)).setCell ⟨b, 1, none⟩ (.int .i64 v1)).setCell ⟨b, 2, none⟩ (.int .i64 v2)).setCell ⟨b, 3, none⟩ (.int .i64 v3)).setCell ⟨b, 4, none⟩ (.int .i64 v4)).cell? ⟨b, 4, none⟩ = some (.int .i64 v4) := by
  have e0 := heap_setCell_same w b 0 _ _ (.int .i64 v0) h
  have e1 := heap_setCell_same _ b 1 _ _ (.int .i64 v1) e0
  have e2 := heap_setCell_same _ b 2 _ _ (.int .i64 v2) e1
  have e3 := heap_setCell_same _ b 3 _ _ (.int .i64 v3) e2
  have e4 := heap_setCell_same _ b 4 _ _ (.int .i64 v4) e3
  refine ⟨?_, ?_, ?_, ?_, ?_⟩
  · unfold World.cell?; rw [e0]; rfl
  · unfold World.cell?; rw [e1]; rfl
  · unfold World.cell?; rw [e2]; rfl
  · unfold World.cell?; rw [e3]; rfl
  · unfold World.cell?; rw [e4]; rfl
theorem FiveB.done {w wx : World} {nb fb : Nat} {xup fi la p n : Int} (h : FiveB w wx nb fb xup fi la p n) (v0 v1 v2 v3 v4 : Int) : Grow w (five5 wx w.heap.size v0 v1 v2 v3 v4) := by
  unfold five5
  refine Below.setCell (Below.setCell (Below.setCell (Below.setCell (Below.setCell h.1 ?_ _) ?_ _) ?_ _) ?_ _) ?_ _ <;> exact Nat.le_refl _
theorem FiveQ.mk (w : World) (xup : Int) (xid : Int) (Ak : Option Addr) (lk ck : Nat) (tag key text : ByteArray) (Aa : Option Addr) (la ca : Nat) :
    FiveQ w (((w.alloc (.cells #[.int .i64 0, .int .i64 0, .int .i64 0, .int .i64 0, .int .i64 0] 28)).alloc (.cells #[.int .i64 xid, .int .i64 xup, .slice Ak lk ck, .string tag, .string key, .string text, .slice Aa la ca] 69)).drew) xup Ak lk ck (.pointer (some ⟨w.heap.size + 1, 0, none⟩)) := by
  have a1 := heap_alloc_new w (.cells #[.int .i64 0, .int .i64 0, .int .i64 0, .int .i64 0, .int .i64 0] 28)
  have a2 := heap_alloc_new (w.alloc (.cells #[.int .i64 0, .int .i64 0, .int .i64 0, .int .i64 0, .int .i64 0] 28)) (.cells #[.int .i64 xid, .int .i64 xup, .slice Ak lk ck, .string tag, .string key, .string text, .slice Aa la ca] 69)
  rw [show (w.alloc (.cells #[.int .i64 0, .int .i64 0, .int .i64 0, .int .i64 0, .int .i64 0] 28)).heap.size = w.heap.size + 1 by simp] at a2
  refine ⟨_, rfl, grow_drew (grow_alloc (grow_alloc (Below.refl _ _) _) _), ?_, by omega, ?_, ?_⟩
  · exact (Below.block (grow_alloc (Below.refl _ _) _) _ (Array.getElem?_eq_some_iff.1 a1).1).trans a1
  · exact (World.cell?_drew _ _).trans (by unfold World.cell?; rw [a2]; rfl)
  · exact (World.cell?_drew _ _).trans (by unfold World.cell?; rw [a2]; rfl)
theorem FiveP.mk {w wx : World} {nb : Nat} {xup : Int} {Ak : Option Addr} {lk ck : Nat} (h : FiveA w wx nb xup Ak lk ck) (fi la : Int) :
    FiveP w (wx.alloc (.cells #[.int .i64 xup, .int .i64 fi, .int .i64 la, .int .i64 (-1), .int .i64 (-1)] 28)) nb xup fi la (.pointer (some ⟨wx.heap.size, 0, none⟩)) := by
  obtain ⟨h1, h2, h3, h4, h5⟩ := h
  have hlt := World.block_lt_of_cell? wx _ h4
  refine ⟨_, rfl, grow_alloc h1 _, (Below.block (grow_alloc (Below.refl _ _) _) _ (Array.getElem?_eq_some_iff.1 h2).1).trans h2, h3, hlt, cell_alloc h4 _, heap_alloc_new wx _⟩
set_option maxRecDepth 100000 in
set_option maxHeartbeats 4000000 in
theorem five_r (R : RefRep w0 w rb g cap xs d) (hw : d.WF) (hfew : d.nodes.length ≤ 1000000) (id : Int) (hh : d.has id) :
    Calls Tryz.prog 46 #[.pointer (some ⟨rb, 0, none⟩), .int .i64 id] w (RetFive w (d.lk id)) := by
    obtain ⟨i, hi, hpos, hidc, hget⟩ := Doc.pos_has hh
    have HA := Lib.hid fun W (hW : Grow w W) => at_r (R.grow hW) id
    rw [hpos] at HA
    have hp1 := R.p0
    have hcap := R.caps
    obtain ⟨x, hx, hgx, g0, g1, g2, g3, g4, g5, g6⟩ := R.node hi
    rw [← hgx.id] at g0; rw [← hgx.up] at g1; rw [← hgx.tag] at g3; rw [← hgx.key] at g4; rw [← hgx.text] at g5
    have hup : x.up = d.upOf id := hgx.up.trans (upOf_pos hget).symm
    have hkids := hgx.kids
    rw [← kidsOf_pos hget] at hkids
    obtain ⟨Ak, ck, ek, _, hrk⟩ := hkids
    obtain ⟨Aa, ca, ea, _, _⟩ := hgx.attrs
    obtain ⟨xid, xup, xkv, xtag, xkey, xtext, xav⟩ := x
    obtain ⟨lk, hlk⟩ : ∃ lk, lk = (d.kidsOf id).length := ⟨_, rfl⟩
    obtain ⟨la, hla⟩ : ∃ la, la = (d.nodes.getD i nd0).attrs.length := ⟨_, rfl⟩
    rw [← hlk] at ek
    rw [← hla] at ea
    simp only at ek ea g0 g1 g2 g3 g4 g5 g6 hup
    subst ek ea
    obtain ⟨n, hn⟩ : ∃ n, n = d.nodes.length := ⟨_, rfl⟩
    rw [← hn] at hp1 hcap hi
    have hlk6 : lk ≤ 1000000 := by rw [hlk]; exact Nat.le_trans (kids_len hw id) hfew
    have HR := Lib.hid R
    have HUP := Lib.hid hup
    have HLK := Lib.hid hlk
    have HKR := Lib.hid hrk
    have HNN := Lib.hid hn
    have HW := Lib.hid hw
    have HH := Lib.hid hh
    obtain ⟨fi, hfi⟩ : ∃ fi, fi = (d.kidsOf id).headD (-1) := ⟨_, rfl⟩
    obtain ⟨lst, hlst⟩ : ∃ lst, lst = (d.kidsOf id).getLastD (-1) := ⟨_, rfl⟩
    have HFI := Lib.hid hfi
    have HLST := Lib.hid hlst
    clear R hgx hx hpos hidc hget hla hup hlk hrk hn hw hh hfi hlst
    have a0 := cell_alloc (cell_alloc g0 (.cells #[.int .i64 0, .int .i64 0, .int .i64 0, .int .i64 0, .int .i64 0] 28)) (.cells #[.int .i64 0, .int .i64 0, .slice none 0 0, .string ⟨#[]⟩, .string ⟨#[]⟩, .string ⟨#[]⟩, .slice none 0 0] 69)
    have d0 := cell_alloc g0 (.cells #[.int .i64 0, .int .i64 0, .int .i64 0, .int .i64 0, .int .i64 0] 28)
    have a1 := cell_alloc (cell_alloc g1 (.cells #[.int .i64 0, .int .i64 0, .int .i64 0, .int .i64 0, .int .i64 0] 28)) (.cells #[.int .i64 0, .int .i64 0, .slice none 0 0, .string ⟨#[]⟩, .string ⟨#[]⟩, .string ⟨#[]⟩, .slice none 0 0] 69)
    have d1 := cell_alloc g1 (.cells #[.int .i64 0, .int .i64 0, .int .i64 0, .int .i64 0, .int .i64 0] 28)
    have a2 := cell_alloc (cell_alloc g2 (.cells #[.int .i64 0, .int .i64 0, .int .i64 0, .int .i64 0, .int .i64 0] 28)) (.cells #[.int .i64 0, .int .i64 0, .slice none 0 0, .string ⟨#[]⟩, .string ⟨#[]⟩, .string ⟨#[]⟩, .slice none 0 0] 69)
    have d2 := cell_alloc g2 (.cells #[.int .i64 0, .int .i64 0, .int .i64 0, .int .i64 0, .int .i64 0] 28)
    have a3 := cell_alloc (cell_alloc g3 (.cells #[.int .i64 0, .int .i64 0, .int .i64 0, .int .i64 0, .int .i64 0] 28)) (.cells #[.int .i64 0, .int .i64 0, .slice none 0 0, .string ⟨#[]⟩, .string ⟨#[]⟩, .string ⟨#[]⟩, .slice none 0 0] 69)
    have d3 := cell_alloc g3 (.cells #[.int .i64 0, .int .i64 0, .int .i64 0, .int .i64 0, .int .i64 0] 28)
    have a4 := cell_alloc (cell_alloc g4 (.cells #[.int .i64 0, .int .i64 0, .int .i64 0, .int .i64 0, .int .i64 0] 28)) (.cells #[.int .i64 0, .int .i64 0, .slice none 0 0, .string ⟨#[]⟩, .string ⟨#[]⟩, .string ⟨#[]⟩, .slice none 0 0] 69)
    have d4 := cell_alloc g4 (.cells #[.int .i64 0, .int .i64 0, .int .i64 0, .int .i64 0, .int .i64 0] 28)
    have a5 := cell_alloc (cell_alloc g5 (.cells #[.int .i64 0, .int .i64 0, .int .i64 0, .int .i64 0, .int .i64 0] 28)) (.cells #[.int .i64 0, .int .i64 0, .slice none 0 0, .string ⟨#[]⟩, .string ⟨#[]⟩, .string ⟨#[]⟩, .slice none 0 0] 69)
    have d5 := cell_alloc g5 (.cells #[.int .i64 0, .int .i64 0, .int .i64 0, .int .i64 0, .int .i64 0] 28)
    have a6 := cell_alloc (cell_alloc g6 (.cells #[.int .i64 0, .int .i64 0, .int .i64 0, .int .i64 0, .int .i64 0] 28)) (.cells #[.int .i64 0, .int .i64 0, .slice none 0 0, .string ⟨#[]⟩, .string ⟨#[]⟩, .string ⟨#[]⟩, .slice none 0 0] 69)
    have d6 := cell_alloc g6 (.cells #[.int .i64 0, .int .i64 0, .int .i64 0, .int .i64 0, .int .i64 0] 28)
    have a7 := cell_alloc (cell_alloc hp1 (.cells #[.int .i64 0, .int .i64 0, .int .i64 0, .int .i64 0, .int .i64 0] 28)) (.cells #[.int .i64 0, .int .i64 0, .slice none 0 0, .string ⟨#[]⟩, .string ⟨#[]⟩, .string ⟨#[]⟩, .slice none 0 0] 69)
    have d7 := cell_alloc hp1 (.cells #[.int .i64 0, .int .i64 0, .int .i64 0, .int .i64 0, .int .i64 0] 28)
    go_enter Tryz.func46, Tryz.ntmps46
    go_wp2
    go_upto_region 1 with fail
    go_cut [5] from 9 to 17 (fun t wx => FiveQ w wx xup Ak lk ck t)
    case first =>
      go_region_with (go_at_call 63; refine (HA.out _ ?hg).mono ?_; (case hg => repeat (first | exact Below.refl _ _ | apply grow_drew | apply grow_alloc)); rintro e' w4 ⟨rfl, rfl⟩)
      all_goals (go_wp2_with fail)
      all_goals go_meet
      all_goals exact FiveQ.mk w xup _ _ _ _ _ _ _ _ _ _
    case rest =>
      obtain ⟨nb, rfl, hA⟩ := hcut
      have HA1 := Lib.hid hA
      have hnu := hA.2.2.2.1
      have hnk := hA.2.2.2.2
      clear hA
      have hnk2 := cell_alloc hnk (.cells #[.int .i64 xup, .int .i64 (-1), .int .i64 (-1), .int .i64 (-1), .int .i64 (-1)] 28)
      go_upto_if 24 with fail
      go_cut [6] from 25 to 38 (fun t wx => FiveP w wx nb xup fi lst t)
      case first =>
        by_cases hl0 : lk = 0
        · have hke : d.kidsOf id = [] := List.eq_nil_of_length_eq_zero (by rw [← HLK.out]; exact hl0)
          have hf1 : fi = -1 := by rw [HFI.out, hke]; rfl
          have hl1 : lst = -1 := by rw [HLST.out, hke]; rfl
          have HF1 := Lib.hid hf1
          have HL1 := Lib.hid hl1
          clear hf1 hl1
          have b2 := cell_alloc hnk (.cells #[.int .i64 xup, .int .i64 (-1), .int .i64 (-1), .int .i64 (-1), .int .i64 (-1)] 28)
          subst hl0
          clear hke
          go_wp2
          go_meet
          rw [HF1.out, HL1.out]
          exact FiveP.mk HA1.out _ _
        · have hl1 : 0 < lk := by omega
          have e0 := HKR.out.int_at (i := 0) (by rw [← HLK.out]; exact hl1)
          have e1 := HKR.out.int_at (i := lk - 1) (by rw [← HLK.out]; omega)
          obtain ⟨kb, ko, rfl, _, q0⟩ := e0
          obtain ⟨kb', ko', ek, _, q1⟩ := e1
          cases ek
          have hfi2 : (d.kidsOf id).getD 0 0 = fi := by
            rw [HFI.out]
            cases hk : d.kidsOf id with
            | nil => rw [HLK.out, hk] at hl1; simp at hl1
            | cons a r => rfl
          have hls2 : (d.kidsOf id).getD (lk - 1) 0 = lst := by
            rw [HLST.out, HLK.out, List.getLastD_eq_getLast?, List.getLast?_eq_getElem?, List.getD_eq_getElem?_getD]
            rw [List.getElem?_eq_getElem (by rw [← HLK.out]; omega)]; rfl
          rw [hfi2] at q0
          rw [Nat.add_zero] at q0
          rw [hls2] at q1
          have b0 := cell_alloc (Grow.cell HA1.out.1 q0) (.cells #[.int .i64 xup, .int .i64 (-1), .int .i64 (-1), .int .i64 (-1), .int .i64 (-1)] 28)
          have b1 := cell_alloc (Grow.cell HA1.out.1 q1) (.cells #[.int .i64 xup, .int .i64 fi, .int .i64 (-1), .int .i64 (-1), .int .i64 (-1)] 28)
          have b2 := cell_alloc hnk (.cells #[.int .i64 xup, .int .i64 (-1), .int .i64 (-1), .int .i64 (-1), .int .i64 (-1)] 28)
          have b3 := cell_alloc hnk (.cells #[.int .i64 xup, .int .i64 fi, .int .i64 (-1), .int .i64 (-1), .int .i64 (-1)] 28)
          have hgt : (0 : Int) < (lk : Int) := by omega
          have h1 : (0 : Int) ≤ (lk : Int) - 1 := by omega
          have h2 : (lk : Int) - 1 < (lk : Int) := by omega
          clear q0 q1 hfi2 hls2 hl0
          go_wp2
          go_meet
          exact FiveP.mk HA1.out _ _
      case rest =>
        obtain ⟨fb, rfl, hB⟩ := hcut
        have HB := Lib.hid hB
        clear hnu hnk hnk2
        have q5 := hB.2.2.2.2.1
        clear hB
        by_cases hu : xup < 0
        · have r1 := HB.out.2.1
          have r2 := HB.out.2.2.2.2.2
          obtain ⟨s0, s1, s2, s3, s4⟩ := five_cells r2
          obtain ⟨t0, t1, t2, t3, t4⟩ := five_cells r1
          obtain ⟨y0, y1, y2, y3, y4⟩ := five5_cells r1 xup fi lst (-1) (-1)
          have z0 := five_open r1 0
          have z1 := five_open r1 1
          have z2 := five_open r1 2
          have z3 := five_open r1 3
          have z4 := five_open r1 4
          have hlk2 : Hid (d.lk id = ⟨xup, fi, lst, -1, -1⟩) := by
            show _ = _
            have hno : ¬ d.has xup := fun h => by have := WF.nn HW.out h; omega
            unfold Doc.lk
            rw [← HUP.out, kidsOf_none hno, ← HFI.out, ← HLST.out]
            rfl
          have HB1 := Lib.hid (FiveB.done HB.out xup fi lst (-1) (-1))
          unfold five5 at HB1
          clear r1 r2
          go_wp2
          refine bodyPost_ret (v := .agg #[.int .i64 xup, .int .i64 fi, .int .i64 lst, .int .i64 (-1), .int .i64 (-1)]) (by simp [results, Tryz.results46, go_sem, y0, y1, y2, y3, y4]) rfl ?_
          refine ⟨?_, HB1.out⟩
          rw [hlk2.out]
        · have hup2 : d.has xup := by
            rcases HW.out.up id HH.out with e | e
            · rw [← HUP.out] at e; omega
            · rw [← HUP.out] at e; exact e
          obtain ⟨j, x, hj, c1, c2, p0, up1, gk, _, HS, _, HJ⟩ := HR.out.rd hup2
          obtain ⟨As, cs, ekv, _, hS⟩ := HS.out
          rw [ekv] at gk
          replace p0 := Grow.cell HB.out.1 p0
          replace gk := Grow.cell HB.out.1 gk
          obtain ⟨s, hs⟩ : ∃ s, s = d.kidsOf xup := ⟨_, rfl⟩
          rw [← hs] at gk hS
          obtain ⟨m, hm⟩ : ∃ m, m = s.length := ⟨_, rfl⟩
          rw [← hm] at gk
          have hm6 : m ≤ 1000000 := by rw [hm, hs]; exact Nat.le_trans (kids_len HW.out xup) hfew
          have HS2 := Lib.hid hS
          have HM := Lib.hid hm
          have HND : Hid s.Nodup := by show _; rw [hs]; exact HW.out.nodup xup
          have hlk2 : Hid (d.lk id = ⟨xup, fi, lst, foundP s id m, foundN s id m⟩) := by
            show _ = _
            unfold Doc.lk
            rw [← HUP.out, ← hs, ← HFI.out, ← HLST.out, hm, found_all.1, found_all.2]
          clear hS hs hm HS ekv hup2
          go_wp2
          go_quiet ((go_at_call 63; exact quiet1_same (HJ.out _ (grow_drewN HB.out.1 _))))
          go_wp2
          go_loopw [56] (fun i wr => ∃ k : Nat, k ≤ m ∧ i = .int .i64 k ∧ Hid (FiveB w wr nb fb xup fi lst (foundP s id k) (foundN s id k))) (fun i _ => m - (intOf i).toNat)
          case atStart => exact ⟨0, Nat.zero_le _, rfl, HB.out.drewN _⟩
          case round =>
            obtain ⟨k, hk, rfl, HF⟩ := hrel
            by_cases hlt : k < m
            · have h1 : k < s.length := by rw [← HM.out]; exact hlt
              obtain ⟨sb, so, rfl, hsb, g1⟩ := HS2.out.int_at h1
              have hsb2 : sb < w.heap.size := World.block_lt_of_cell? w _ g1
              have hne : sb ≠ fb := by have := HF.out.2.2.1; have := HF.out.2.2.2.1; omega
              replace g1 := Grow.cell HF.out.1 g1
              by_cases e : s.getD k 0 = id
              · obtain ⟨f1, f2, f3, f4⟩ := found_at HND.out h1 e
                rw [← HM.out] at f4
                rw [e] at g1
                have g0 := (HS2.out.int_at h1)
                obtain ⟨sb0, so0, e0, _, g0⟩ := g0
                cases e0
                rw [e] at g0
                rw [f1, f2] at HF
                replace f3 := Lib.hid f3
                replace f4 := Lib.hid f4
                clear f1 f2 e
                by_cases hk0 : 0 < k <;> by_cases hk1 : k + 1 < m
                · have f3 := Lib.hid (f3.out.trans (if_pos hk0))
                  have f4 := Lib.hid (f4.out.trans (if_pos hk1))
                  obtain ⟨sb1, so1, e1, _, gp⟩ := HS2.out.int_at (i := k - 1) (Nat.lt_of_le_of_lt (Nat.sub_le _ _) h1)
                  cases e1
                  have gp' := Grow.cell HF.out.1 gp
                  generalize s.getD (k - 1) 0 = p at *
                  have HF1 := Lib.hid (HF.out.set p).1
                  obtain ⟨sb2, so2, e3, _, gq⟩ := HS2.out.int_at (i := k + 1) (by rw [← HM.out]; exact hk1)
                  cases e3
                  have gq' := Grow.cell HF1.out.1 gq
                  generalize s.getD (k + 1) 0 = q at *
                  have HF2 := Lib.hid (HF1.out.set q).2
                  have g1' := Grow.cell HF1.out.1 g0
                  obtain ⟨_, _, _, t3, t4⟩ := five_cells HF.out.2.2.2.2.2
                  have z3 := five_open HF.out.2.2.2.2.2 3
                  have z4 := five_open HF.out.2.2.2.2.2 4
                  obtain ⟨_, _, _, t3', t4'⟩ := five_cells HF1.out.2.2.2.2.2
                  have z4' := five_open HF1.out.2.2.2.2.2 4
                  have hk0 : (0 : Int) < (k : Int) := by omega
                  have hk1 : (k : Int) + 1 < (m : Int) := by omega
                  have i1 : (0 : Int) ≤ (k : Int) - 1 := by omega
                  have i2 : (k : Int) - 1 < (m : Int) := by omega
                  have i5 : ((k : Int) - 1).toNat = k - 1 := by omega
                  have i3 : (0 : Int) ≤ (k : Int) + 1 := by omega
                  have i6 : ((k : Int) + 1).toNat = k + 1 := by omega
                  clear HF HF1 h1
                  go_wp2
                  go_roundw
                  case rel => exact ⟨k + 1, by omega, by go_num, by show FiveB _ _ _ _ _ _ _ _ _; rw [f3.out, f4.out]; exact HF2.out⟩
                  case measure => simp [intOf]; omega
                · have f3 := Lib.hid (f3.out.trans (if_pos hk0))
                  have f4 := Lib.hid (f4.out.trans (if_neg hk1))
                  obtain ⟨sb1, so1, e1, _, gp⟩ := HS2.out.int_at (i := k - 1) (Nat.lt_of_le_of_lt (Nat.sub_le _ _) h1)
                  cases e1
                  have gp' := Grow.cell HF.out.1 gp
                  generalize s.getD (k - 1) 0 = p at *
                  have HF1 := Lib.hid (HF.out.set p).1
                  have HF2 := HF1
                  have g1' := Grow.cell HF1.out.1 g0
                  obtain ⟨_, _, _, t3, t4⟩ := five_cells HF.out.2.2.2.2.2
                  have z3 := five_open HF.out.2.2.2.2.2 3
                  have z4 := five_open HF.out.2.2.2.2.2 4
                  obtain ⟨_, _, _, t3', t4'⟩ := five_cells HF1.out.2.2.2.2.2
                  have z4' := five_open HF1.out.2.2.2.2.2 4
                  have hk0 : (0 : Int) < (k : Int) := by omega
                  have hk1 : ¬ (k : Int) + 1 < (m : Int) := by omega
                  have i1 : (0 : Int) ≤ (k : Int) - 1 := by omega
                  have i2 : (k : Int) - 1 < (m : Int) := by omega
                  have i5 : ((k : Int) - 1).toNat = k - 1 := by omega
                  clear HF HF1 h1
                  go_wp2
                  go_roundw
                  case rel => exact ⟨k + 1, by omega, by go_num, by show FiveB _ _ _ _ _ _ _ _ _; rw [f3.out, f4.out]; exact HF2.out⟩
                  case measure => simp [intOf]; omega
                · have f3 := Lib.hid (f3.out.trans (if_neg hk0))
                  have f4 := Lib.hid (f4.out.trans (if_pos hk1))
                  have HF1 := HF
                  obtain ⟨sb2, so2, e3, _, gq⟩ := HS2.out.int_at (i := k + 1) (by rw [← HM.out]; exact hk1)
                  cases e3
                  have gq' := Grow.cell HF1.out.1 gq
                  generalize s.getD (k + 1) 0 = q at *
                  have HF2 := Lib.hid (HF1.out.set q).2
                  have g1' := Grow.cell HF1.out.1 g0
                  obtain ⟨_, _, _, t3, t4⟩ := five_cells HF.out.2.2.2.2.2
                  have z3 := five_open HF.out.2.2.2.2.2 3
                  have z4 := five_open HF.out.2.2.2.2.2 4
                  obtain ⟨_, _, _, t3', t4'⟩ := five_cells HF1.out.2.2.2.2.2
                  have z4' := five_open HF1.out.2.2.2.2.2 4
                  have hk0 : ¬ (0 : Int) < (k : Int) := by omega
                  have hk1 : (k : Int) + 1 < (m : Int) := by omega
                  have i3 : (0 : Int) ≤ (k : Int) + 1 := by omega
                  have i6 : ((k : Int) + 1).toNat = k + 1 := by omega
                  clear HF HF1 h1
                  go_wp2
                  go_roundw
                  case rel => exact ⟨k + 1, by omega, by go_num, by show FiveB _ _ _ _ _ _ _ _ _; rw [f3.out, f4.out]; exact HF2.out⟩
                  case measure => simp [intOf]; omega
                · have f3 := Lib.hid (f3.out.trans (if_neg hk0))
                  have f4 := Lib.hid (f4.out.trans (if_neg hk1))
                  have HF1 := HF
                  have HF2 := HF1
                  have g1' := Grow.cell HF1.out.1 g0
                  obtain ⟨_, _, _, t3, t4⟩ := five_cells HF.out.2.2.2.2.2
                  have z3 := five_open HF.out.2.2.2.2.2 3
                  have z4 := five_open HF.out.2.2.2.2.2 4
                  obtain ⟨_, _, _, t3', t4'⟩ := five_cells HF1.out.2.2.2.2.2
                  have z4' := five_open HF1.out.2.2.2.2.2 4
                  have hk0 : ¬ (0 : Int) < (k : Int) := by omega
                  have hk1 : ¬ (k : Int) + 1 < (m : Int) := by omega
                  clear HF HF1 h1
                  go_wp2
                  go_roundw
                  case rel => exact ⟨k + 1, by omega, by go_num, by show FiveB _ _ _ _ _ _ _ _ _; rw [f3.out, f4.out]; exact HF2.out⟩
                  case measure => simp [intOf]; omega
              · obtain ⟨f1, f2⟩ := found_no h1 e
                have e2 : (s.getD k 0 == id) = false := beq_eq_false_iff_ne.2 e
                have HF2 : Hid (FiveB w wr nb fb xup fi lst (foundP s id (k + 1)) (foundN s id (k + 1))) := by show FiveB _ _ _ _ _ _ _ _ _; rw [f1, f2]; exact HF.out
                clear f1 f2 HF h1
                generalize s.getD k 0 = y at *
                go_wp2
                go_roundw
                case rel => exact ⟨k + 1, by omega, by go_num, HF2⟩
                case measure => simp [intOf]; omega
            · have hk' : k = m := by omega
              subst hk'
              have r1 := HF.out.2.1
              have r2 := HF.out.2.2.2.2.2
              obtain ⟨s0, s1, s2, s3, s4⟩ := five_cells r2
              obtain ⟨t0, t1, t2, t3, t4⟩ := five_cells r1
              obtain ⟨y0, y1, y2, y3, y4⟩ := five5_cells r1 xup fi lst (foundP s id k) (foundN s id k)
              have z0 := five_open r1 0
              have z1 := five_open r1 1
              have z2 := five_open r1 2
              have z3 := five_open r1 3
              have z4 := five_open r1 4
              have HB1 := Lib.hid (FiveB.done HF.out xup fi lst (foundP s id k) (foundN s id k))
              unfold five5 at HB1
              clear r1 r2
              go_wp2
              refine bodyPost_ret (v := .agg #[.int .i64 xup, .int .i64 fi, .int .i64 lst, .int .i64 (foundP s id k), .int .i64 (foundN s id k)]) (by simp [results, Tryz.results46, go_sem, y0, y1, y2, y3, y4]) rfl ?_
              refine ⟨?_, HB1.out⟩
              rw [hlk2.out]
end
end Go.Proofs.YtacobpmmpdadpaaGreat
set_option linter.unusedVariables false
set_option linter.unusedSimpArgs false
namespace Go.Proofs.YtacobpmmpdadpaaGreat
open Go.RowKit Doc
def RowsV (W : World) (l : List Rw) (e : Ending) (w' : World) : Prop := ∃ A c, e = .returned (.slice A l.length c) ∧ RowsAt w' (.slice A l.length c) l ∧ Grow W w'
def IntsV (W : World) (l : List Int) (e : Ending) (w' : World) : Prop := ∃ A c, e = .returned (.slice A l.length c) ∧ Rd EInt 1 w' (fun _ => True) A l ∧ Grow W w'
theorem RowsV.of {W w' : World} {l : List Rw} {e : Ending} (h : ∃ v, e = .returned v ∧ RowsAt w' v l ∧ Grow W w') : RowsV W l e w' := by
  obtain ⟨v, rfl, h1, h2⟩ := h
  obtain ⟨A, c, rfl, _⟩ := h1.form
  exact ⟨A, c, rfl, h1, h2⟩
theorem IntsV.of {W w' : World} {l : List Int} {e : Ending} (h : RetI W l e w') : IntsV W l e w' := by
  obtain ⟨v, rfl, ⟨A, c, rfl, _, h1⟩, h2⟩ := h
  exact ⟨A, c, rfl, h1.imp (fun _ _ _ h => h) (fun _ _ => trivial) (fun _ _ _ => rfl), h2⟩
theorem Rd.grow' {w W : World} {A : Option Addr} {l : List Int} (h : Rd EInt 1 w (fun _ => True) A l) (hg : Grow w W) : Rd EInt 1 W (fun _ => True) A l := h.imp (fun _ _ _ e => e) (fun _ e => e) fun b _ hb => hg.block b hb
section
variable {w0 w : World} {db mb : Nat} {nb ib : Int → Nat} {D : DataW Unit} {d : Doc} {rb g cap : Nat} {xs : List RN}
set_option maxRecDepth 100000 in
set_option maxHeartbeats 4000000 in
theorem all_true (h : DomRep w0 w db mb nb ib D d) (R : RefRep w0 w rb g cap xs d) (hw : d.WF) (hfew : d.nodes.length ≤ 1000000) :
    Calls Tryz.prog 16 #[.pointer (some ⟨db, 0, none⟩), .pointer (some ⟨rb, 0, none⟩)] w (RetB w true) := by
  obtain ⟨k, r, hr, hrl⟩ := read_all hw
  have hrl2 : r.length ≤ 1000000 := by omega
  have HRD := Lib.hid fun W (hW : Grow w W) => (read_d (h.grow hW) hw hfew hr hrl2).mono fun _ _ hx => RowsV.of hx.rows
  have HRR := Lib.hid fun W (hW : Grow w W) => (read_r (R.grow hW) hw hfew hr hrl2).mono fun _ _ hx => RowsV.of hx.rows
  have HLD := Lib.hid fun W (hW : Grow w W) => (loose_d (h.grow hW) hw hfew).mono fun _ _ hx => IntsV.of hx
  have HLR := Lib.hid fun W (hW : Grow w W) => (loose_r (R.grow hW) hfew).mono fun _ _ hx => IntsV.of hx
  have HNX := Lib.hid fun W (hW : Grow w W) => nextD (h.grow hW)
  have HLN := Lib.hid fun W (hW : Grow w W) => lenD (h.grow hW) hw hfew
  have HLK := Lib.hid fun W (hW : Grow w W) id hid hh => links_d (h.grow hW) (id := id) hid hh
  have HFV := Lib.hid fun W (hW : Grow w W) id hh => five_r (R.grow hW) hw hfew id hh
  have HN0 := Lib.hid fun i (hi : i < d.nodes.length) => (show (Lit.int .i64 (d.nodes.getD i nd0).id).wf = true ∧ d.has (d.nodes.getD i nd0).id ∧ w.cell? ⟨g, i * 7, none⟩ = some (.int .i64 (d.nodes.getD i nd0).id) from by
    have hh : d.has (d.nodes.getD i nd0).id := ⟨_, by rw [List.getD_eq_getElem?_getD, List.getElem?_eq_getElem hi]; exact List.getElem_mem hi, rfl⟩
    obtain ⟨_, _, _, g0, _⟩ := R.node hi
    have := hw.nn hh
    have := hw.below _ hh
    have := hw.next2
    exact ⟨WalkArith.wf_i64 ⟨by omega, by omega⟩, hh, g0⟩)
  have p0 := R.p0
  have p1 := R.p1
  obtain ⟨hc1, hc2, _⟩ := R.caps
  have hz : 0 < d.nodes.length := by
    obtain ⟨a, b, e, _⟩ := hw.holder
    rw [e]; simp
  clear h R hw hr hrl
  obtain ⟨n, hn⟩ : ∃ n, n = d.nodes.length := ⟨_, rfl⟩
  rw [← hn] at p0 hc1 hz hfew
  obtain ⟨nx, hnx⟩ : ∃ nx, nx = d.next := ⟨_, rfl⟩
  rw [← hnx] at p1
  have HNX2 : Hid (d.next = nx) := hnx.symm
  have HN2 : Hid (d.nodes.length = n) := hn.symm
  clear hn hnx
  rw [HN2.out] at HLN HN0
  rw [HNX2.out] at HNX
  have hzn : ((n : Int) - 1 != (n : Int) - 1) = false := by simp
  have hznx : (nx != nx) = false := by simp
  have KP : ∀ W, Grow w W → (W.cell? ⟨rb, 0, none⟩ = some (.slice (some ⟨g, 0, none⟩) n cap) ∧ W.cell? ⟨rb, 1, none⟩ = some (.int .i64 nx)) := fun W hW => ⟨Grow.cell hW p0, Grow.cell hW p1⟩
  have HKP := Lib.hid KP
  clear KP
  go_enter Tryz.func16, Tryz.ntmps16
  go_upto_region 1 with fail
  go_cut [41] from 8 to 41 (fun t wx => t = .bool false ∧ Grow w wx)
  case first =>
    have hwr : IntKind.i64.wrap ((n : Int) - 1) = (n : Int) - 1 := IntWalk.i64_in _ (by omega)
    go_region_held3 (fun w' => w'.cell? ⟨rb, 0, none⟩ = some (.slice (some ⟨g, 0, none⟩) n cap) ∧ w'.cell? ⟨rb, 1, none⟩ = some (.int .i64 nx)) (first | exact HKP.out _ (grow_drew (Below.refl _ _)) | exact HKP.out _ HG1.out | exact HKP.out _ HG2.out | exact HKP.out _ HG3.out | exact HKP.out _ HG4.out | exact HKP.out _ HG5.out | exact HKP.out _ HG6.out | go_keep) (first
      | (go_at_call 9; refine (HRD.out _ (grow_drew (Below.refl _ _))).mono ?_; rintro e' w1 ⟨A1, c1, rfl, h1, hg1⟩; have HR1 := Lib.hid h1; have HG1 := Lib.hid (Grow.trans' (grow_drew (Below.refl _ _) : Grow w w.drew) hg1); clear h1 hg1)
      | (go_at_call 43; refine (HRR.out _ ?hg).mono ?_; (case hg => exact HG1.out); rintro e' w2 ⟨A2, c2, rfl, h2, hg2⟩; have HR2 := Lib.hid h2; have HR1b := Lib.hid (HR1.out.grow hg2); have HG2 := Lib.hid (Grow.trans' HG1.out hg2); clear h2 hg2)
      | (go_at_call 42; refine (rows_same _ _ _ _ HR1b.out HR2.out).mono ?_; rintro e' w3 ⟨rfl, hg3⟩; have HG3 := Lib.hid (Grow.trans' HG2.out hg3); clear hg3)
      | (go_at_call 10; refine (HLD.out _ HG3.out).mono ?_; rintro e' w4 ⟨A4, c4, rfl, h4, hg4⟩; have HR4 := Lib.hid h4; have HG4 := Lib.hid (Grow.trans' HG3.out hg4); clear h4 hg4)
      | (go_at_call 45; refine (HLR.out _ HG4.out).mono ?_; rintro e' w5 ⟨A5, c5, rfl, h5, hg5⟩; have HR5 := Lib.hid h5; have HR4b := Lib.hid (HR4.out.grow' hg5); have HG5 := Lib.hid (Grow.trans' HG4.out hg5); clear h5 hg5)
      | (go_at_call 44; refine (ints_same _ _ _ _ HR4b.out HR5.out).mono ?_; rintro e' w6 ⟨rfl, hg6⟩; have HG6 := Lib.hid (Grow.trans' HG5.out hg6); clear hg6)
      | (go_at_call 11; refine (HNX.out _ HG6.out).mono ?_; rintro e' w7 ⟨rfl, rfl⟩)
      | (go_at_call 12; refine (HLN.out _ HG6.out).mono ?_; rintro e' w8 ⟨rfl, rfl⟩))
    all_goals (go_wp2_with fail)
    all_goals go_meet
    all_goals exact ⟨rfl, HG6.out⟩
  case rest =>
    obtain ⟨rfl, hg⟩ := hcut
    have HG := Lib.hid hg
    obtain ⟨q0, _⟩ := HKP.out _ hg
    clear hg
    go_wp2
    go_loopw [5, 47] (fun _ i wr => ∃ k : Nat, k ≤ n ∧ i = .int .i64 k ∧ Grow w wr) (fun _ i _ => n - (intOf i).toNat)
    case atStart => exact ⟨0, Nat.zero_le _, rfl, HG.out⟩
    case round =>
      obtain ⟨k, hk, rfl, hgk⟩ := hrel
      have HGK := Lib.hid hgk
      obtain ⟨r0, _⟩ := HKP.out _ hgk
      by_cases hlt : k < n
      · obtain ⟨e1, e2, e3⟩ := HN0.out k hlt
        replace e3 := Grow.cell hgk e3
        generalize (d.nodes.getD k nd0).id = id at *
        have HL := Lib.hid (HLK.out _ hgk id e1 e2)
        have HF := Lib.hid fun W hW => HFV.out W hW id e2
        clear e1 e2 hgk q0
        generalize d.lk id = l at *
        obtain ⟨u, f, la, p, ne⟩ := l
        go_wp2_with (go_at_call 8; refine HL.out.mono ?_; rintro e' w4 ⟨rfl, hg4⟩; have HG4 := Lib.hid (Grow.trans' HGK.out hg4); have r4 := (HKP.out _ (Grow.trans' HGK.out hg4)).1; have e4 := Grow.cell hg4 e3; clear hg4)
        have k0 := cell_alloc r4 (.cells #[.int .i64 u, .int .i64 f, .int .i64 la, .int .i64 p, .int .i64 ne] 28)
        have k1 := cell_alloc e4 (.cells #[.int .i64 u, .int .i64 f, .int .i64 la, .int .i64 p, .int .i64 ne] 28)
        have KQ : ∀ W, Grow (w4.alloc (.cells #[.int .i64 u, .int .i64 f, .int .i64 la, .int .i64 p, .int .i64 ne] 28)) W → (W.cell? ⟨rb, 0, none⟩ = some (.slice (some ⟨g, 0, none⟩) n cap) ∧ W.cell? ⟨g, k * 7, none⟩ = some (.int .i64 id) ∧ W.cell? ⟨w4.heap.size, 0, none⟩ = some (.int .i64 u) ∧ W.cell? ⟨w4.heap.size, 1, none⟩ = some (.int .i64 f) ∧ W.cell? ⟨w4.heap.size, 2, none⟩ = some (.int .i64 la) ∧ W.cell? ⟨w4.heap.size, 3, none⟩ = some (.int .i64 p) ∧ W.cell? ⟨w4.heap.size, 4, none⟩ = some (.int .i64 ne)) := fun W hW => by
          have hb := heap_alloc_new w4 (.cells #[.int .i64 u, .int .i64 f, .int .i64 la, .int .i64 p, .int .i64 ne] 28)
          obtain ⟨s0, s1, s2, s3, s4⟩ := five_cells hb
          exact ⟨Grow.cell hW k0, Grow.cell hW k1, Grow.cell hW s0, Grow.cell hW s1, Grow.cell hW s2, Grow.cell hW s3, Grow.cell hW s4⟩
        have HKQ := Lib.hid KQ
        clear KQ k0 k1 r4 e4 e3 r0
        go_region_held3 (fun w' => w'.cell? ⟨rb, 0, none⟩ = some (.slice (some ⟨g, 0, none⟩) n cap) ∧ w'.cell? ⟨g, k * 7, none⟩ = some (.int .i64 id) ∧ w'.cell? ⟨w4.heap.size, 0, none⟩ = some (.int .i64 u) ∧ w'.cell? ⟨w4.heap.size, 1, none⟩ = some (.int .i64 f) ∧ w'.cell? ⟨w4.heap.size, 2, none⟩ = some (.int .i64 la) ∧ w'.cell? ⟨w4.heap.size, 3, none⟩ = some (.int .i64 p) ∧ w'.cell? ⟨w4.heap.size, 4, none⟩ = some (.int .i64 ne)) (first | exact HKQ.out _ (grow_drew (Below.refl _ _)) | exact HKQ.out _ HA5.out | go_keep) (first
          | (go_at_call 46; refine (HF.out _ ?hg).mono ?_; (case hg => exact grow_drew (grow_alloc HG4.out _)); rintro e' w5 ⟨rfl, hg5⟩; have HA5 := Lib.hid (Grow.trans' (grow_drew (Below.refl _ _) : Grow (w4.alloc (.cells #[.int .i64 u, .int .i64 f, .int .i64 la, .int .i64 p, .int .i64 ne] 28)) (w4.alloc (.cells #[.int .i64 u, .int .i64 f, .int .i64 la, .int .i64 p, .int .i64 ne] 28)).drew) hg5); have HG5 := Lib.hid (Grow.trans' (grow_drew (grow_alloc HG4.out _)) hg5); clear hg5))
        all_goals (go_wp2_with fail)
        go_roundw
        case rel => exact ⟨k + 1, by omega, by go_num, HG5.out⟩
        case measure => simp [intOf]; omega
      · go_wp2
        go_ret
        exact ⟨rfl, HGK.out⟩
end
end Go.Proofs.YtacobpmmpdadpaaGreat
set_option linter.unusedVariables false
set_option linter.unusedSimpArgs false
namespace Go.Proofs.YtacobpmmpdadpaaGreat
open Go.RowKit Doc
/-- No string or row is longer than memory holds. -/
structure OpFair (x : Opr) : Prop where
  node : (Lit.int .i64 x.node).wf = true
  up : (Lit.int .i64 x.up).wf = true
  before : (Lit.int .i64 x.before).wf = true
  tag : x.tag.size ≤ 140737488355328
  key : x.key.size ≤ 140737488355328
  name : x.name.size ≤ 140737488355328
  text : x.text.size ≤ 140737488355328
  attrs : x.attrs.length ≤ 140737488355328
  each : ∀ a ∈ x.attrs, a.name.size ≤ 140737488355328 ∧ a.value.size ≤ 140737488355328
def x0 : Opr := ⟨0, 0, 0, 0, ⟨#[]⟩, ⟨#[]⟩, ⟨#[]⟩, ⟨#[]⟩, []⟩
/-- The operations as they lie in memory. -/
structure OpsAt (w : World) (A : Option Addr) (l : List Opr) : Prop where
  len : l.length ≤ 140737488355328
  fair : ∀ x ∈ l, OpFair x
  at_ : ∀ i, i < l.length → ∃ b o A' c', A = some ⟨b, o, none⟩ ∧ b < w.heap.size ∧ (∀ j u, (opC (l.getD i x0) A' c')[j]? = some u → w.cell? ⟨b, o + i * 9 + j, none⟩ = some u) ∧ RdV EAt 2 w (fun b => b < w.heap.size) (.slice A' (l.getD i x0).attrs.length c') (l.getD i x0).attrs
def used (l : List Opr) (k : Nat) : Nat := ((l.take k).map fun x => 1 + x.attrs.length).sum
theorem used_zero (l : List Opr) : used l 0 = 0 := rfl
theorem used_succ {l : List Opr} {k : Nat} (h : k < l.length) : used l (k + 1) = used l k + (1 + (l.getD k x0).attrs.length) := by
  unfold used
  rw [take_snoc l x0 h]; simp
/-- What FewOps says. -/
def RetFew (w : World) (l : List Opr) (most : Int) (e : Ending) (w' : World) : Prop := ∃ b, e = .returned (.bool b) ∧ Grow w w' ∧ (b = true → (used l l.length : Int) ≤ most)
set_option maxHeartbeats 4000000 in
theorem few_ops (l : List Opr) (w : World) {A : Option Addr} (c : Nat) (most : Int) (hmost : 0 ≤ most ∧ most ≤ 200) (h : OpsAt w A l) :
    Calls Tryz.prog 5 #[.slice A l.length c, .int .i64 most] w (RetFew w l most) := by
  obtain ⟨n, hn⟩ : ∃ n, n = l.length := ⟨_, rfl⟩
  rw [← hn]
  have hm : n ≤ 140737488355328 := hn ▸ h.len
  have HN := Lib.hid hn; clear hn
  have HO := Lib.hid h; clear h
  go_enter Tryz.func5, Tryz.ntmps5
  go_wp2
  go_loopw [5, 12] (fun t i wr => ∃ (k : Nat) (r : Int), k ≤ n ∧ t = .int .i64 r ∧ i = .int .i64 k ∧ Grow w wr ∧ r + used l k ≤ most ∧ -35184372088832 ≤ r) (fun _ i _ => n - (intOf i).toNat)
  case atStart => exact ⟨0, most, Nat.zero_le _, rfl, rfl, Below.refl _ _, by rw [used_zero]; simp, by omega⟩
  case round =>
    obtain ⟨k, r, hk, rfl, rfl, hg, hu, hr⟩ := hrel
    have HU := Lib.hid hu
    have HR := Lib.hid hr
    clear hu hr
    have HG := Lib.hid hg
    by_cases hlt : k < n
    · have h1 : k < l.length := by rw [← HN.out]; exact hlt
      obtain ⟨b, o, A', c', rfl, hb, hc, hat⟩ := HO.out.at_ k h1
      have hfair := HO.out.fair _ (show l.getD k x0 ∈ l by rw [List.getD_eq_getElem?_getD, List.getElem?_eq_getElem h1]; exact List.getElem_mem h1)
      have hus := used_succ h1
      clear h1
      obtain ⟨x, hx⟩ : ∃ x, x = l.getD k x0 := ⟨_, rfl⟩
      rw [← hx] at hc hat hfair hus
      clear hx
      obtain ⟨xk, xn, xu, xb, xt, xy, xm, xx, xa⟩ := x
      obtain ⟨_, _, _, f1, f2, f3, f4, f5, f6⟩ := hfair
      simp only at hc hat hus f1 f2 f3 f4 f5 f6
      unfold opC at hc
      have HAT := Lib.hid (RdV.rd hat)
      have HEA := Lib.hid f6
      clear hat f6
      obtain ⟨la, hla⟩ : ∃ la, la = xa.length := ⟨_, rfl⟩
      simp only [← hla] at hc hus f5
      have HLA := Lib.hid hla; clear hla
      have c0 := Grow.cell hg (hc 0 _ rfl)
      have c1 := Grow.cell hg (hc 1 _ rfl)
      have c2 := Grow.cell hg (hc 2 _ rfl)
      have c3 := Grow.cell hg (hc 3 _ rfl)
      have c4 := Grow.cell hg (hc 4 _ rfl)
      have c5 := Grow.cell hg (hc 5 _ rfl)
      have c6 := Grow.cell hg (hc 6 _ rfl)
      have c7 := Grow.cell hg (hc 7 _ rfl)
      have c8 := Grow.cell hg (hc 8 _ rfl)
      clear hc hg
      rw [Nat.add_zero] at c0
      obtain ⟨s1, e1⟩ : ∃ s1, s1 = xt.size := ⟨_, rfl⟩
      obtain ⟨s2, e2⟩ : ∃ s2, s2 = xy.size := ⟨_, rfl⟩
      obtain ⟨s3, e3⟩ : ∃ s3, s3 = xm.size := ⟨_, rfl⟩
      obtain ⟨s4, e4⟩ : ∃ s4, s4 = xx.size := ⟨_, rfl⟩
      rw [← e1] at f1
      rw [← e2] at f2
      rw [← e3] at f3
      rw [← e4] at f4
      replace e1 := e1.symm
      replace e2 := e2.symm
      replace e3 := e3.symm
      replace e4 := e4.symm
      have HUS := Lib.hid hus
      clear hus
      have hw1 : ∃ r1, wrap64 (wrap64 (wrap64 (r - 1) - (la : Int)) - ((s4 : Int) + s2 + s1 + s3) / 4096) = r1 ∧ r1 = r - 1 - la - ((s4 : Int) + s2 + s1 + s3) / 4096 := by
        refine ⟨_, rfl, ?_⟩
        have h1 := HU.out
        have h2 := HR.out
        rw [IntWalk.wrap64_in (r - 1) (by omega), IntWalk.wrap64_in (r - 1 - la) (by omega), IntWalk.wrap64_in _ (by omega)]
      obtain ⟨r1, hr1, hr2⟩ := hw1
      have HR2 := Lib.hid hr2
      clear hr2
      go_upto_region 7 with fail
      simp only [hr1]
      clear hr1
      by_cases hr0 : r1 < 0
      · go_wp2
        go_ret
        exact ⟨false, rfl, grow_alloc HG.out _, fun h => by cases h⟩
      · have hr1b : ¬ (r1 < 0) := hr0
        have HL1 : Hid (0 ≤ r1 ∧ r1 + (used l (k + 1) : Int) ≤ most ∧ la ≤ 200) := by
          show _ ∧ _ ∧ _
          have h1 := HU.out
          have h2 := HR2.out
          have h3 := HUS.out
          have h4 : 0 ≤ ((s4 : Int) + s2 + s1 + s3) / 4096 := by omega
          refine ⟨by omega, by omega, by omega⟩
        have hr0b : (r1 < 0) = False := by simp [hr0]
        clear hr0 hr1b c0 c1 c2 c3 c4 c5 c6 c7 c8 e1 e2 e3 e4
        go_wp2
        go_loopw [5, 47] (fun t i wz => ∃ (j : Nat) (r2 : Int), j ≤ la ∧ t = .int .i64 r2 ∧ i = .int .i64 j ∧ r2 ≤ r1 ∧ Hid (-(j * 137438953472 : Int) ≤ r2) ∧ ∃ q, wz = (wr.alloc (.cells #[.int .i64 xk, .int .i64 xn, .int .i64 xu, .int .i64 xb, .string xt, .string xy, .string xm, .string xx, .slice A' la c'] 42)).drewN q) (fun _ i _ => la - (intOf i).toNat)
        case atStart => exact ⟨0, r1, Nat.zero_le _, rfl, rfl, Int.le_refl _, by show _ ≤ _; have := HL1.out.1; omega, 0, rfl⟩
        case round =>
          obtain ⟨j, r2, hj, rfl, rfl, hle, hlo, q, rfl⟩ := hrel
          have HLE := Lib.hid hle
          clear hle
          by_cases hjl : j < la
          · have h1 : j < xa.length := by rw [← HLA.out]; exact hjl
            obtain ⟨ab, ao, rfl, _, g1, g2⟩ := HAT.out.at_at h1
            obtain ⟨f1, f2⟩ := HEA.out _ (show xa.getD j z0 ∈ xa by rw [List.getD_eq_getElem?_getD, List.getElem?_eq_getElem h1]; exact List.getElem_mem h1)
            replace g1 := cell_alloc (Grow.cell HG.out g1) (.cells #[.int .i64 xk, .int .i64 xn, .int .i64 xu, .int .i64 xb, .string xt, .string xy, .string xm, .string xx, .slice (some ⟨ab, ao, none⟩) la c'] 42)
            replace g2 := cell_alloc (Grow.cell HG.out g2) (.cells #[.int .i64 xk, .int .i64 xn, .int .i64 xu, .int .i64 xb, .string xt, .string xy, .string xm, .string xx, .slice (some ⟨ab, ao, none⟩) la c'] 42)
            clear h1
            generalize xa.getD j z0 = y at *
            obtain ⟨nm, vl⟩ := y
            simp only at f1 f2 g1 g2
            obtain ⟨z1, e1⟩ : ∃ z1, z1 = nm.size := ⟨_, rfl⟩
            obtain ⟨z2, e2⟩ : ∃ z2, z2 = vl.size := ⟨_, rfl⟩
            rw [← e1] at f1
            rw [← e2] at f2
            replace e1 := e1.symm
            replace e2 := e2.symm
            have hw1 : ∃ r3, wrap64 (r2 - ((z2 : Int) + z1) / 4096) = r3 ∧ r3 = r2 - ((z2 : Int) + z1) / 4096 := by
              refine ⟨_, rfl, ?_⟩
              have h1 := HLE.out
              have h2 := hlo.out
              have h3 := HL1.out
              have h4 := HU.out
              rw [IntWalk.wrap64_in _ (by omega)]
            obtain ⟨r3, hr3, hr4⟩ := hw1
            have HR4 := Lib.hid hr4
            have HF : Hid (z1 ≤ 140737488355328 ∧ z2 ≤ 140737488355328) := ⟨f1, f2⟩
            clear hr4
            go_wp2
            go_quiet (fail)
            go_wp2
            simp only [hr3]
            go_roundw
            case rel =>
              refine ⟨j + 1, r3, by omega, rfl, by go_num, ?_, ?_, _, rfl⟩
              · have h1 := HLE.out
                have h2 := HR4.out
                omega
              · show _ ≤ _
                have h1 := hlo.out
                have h2 := HR4.out
                have h3 := HF.out
                omega
            case measure => simp [intOf]; omega
          · have hjla : j = la := by omega
            go_wp2
            go_roundw
            case rel => exact ⟨k + 1, r2, by omega, rfl, by go_num, grow_drewN (grow_alloc HG.out _) _, by have := HL1.out.2.1; have := HLE.out; omega, by have := HL1.out.2.2; have := hlo.out; omega⟩
            case measure => simp [intOf]; omega
    · have hk' : k = n := by omega
      go_wp2
      go_ret
      refine ⟨_, rfl, HG.out, fun h => ?_⟩
      have h1 := HU.out
      rw [hk', HN.out] at h1
      have : 0 ≤ r := by simpa using h
      omega
end Go.Proofs.YtacobpmmpdadpaaGreat
set_option linter.unusedVariables false
set_option linter.unusedSimpArgs false
namespace Go.Proofs.YtacobpmmpdadpaaGreat
open Go.RowKit Doc
/-- All attributes' strings are of a length that Go has. -/
def DSz (d : Doc) : Prop := ∀ n ∈ d.nodes, SizedA n.attrs
theorem DSz.mod {d : Doc} (h : DSz d) (x : Int) (f : Nd → Nd) (hf : ∀ n, SizedA n.attrs → SizedA (f n).attrs) : DSz (d.mod x f) := by
  intro n hn
  unfold Doc.mod at hn
  obtain ⟨m, hm, e⟩ := List.mem_map.1 hn
  have := h m hm
  split at e
  · exact e ▸ hf m this
  · exact e ▸ this
theorem DSz.push {d : Doc} (h : DSz d) {n : Nd} (hn : SizedA n.attrs) : DSz (d.push n) := by
  intro m hm
  unfold Doc.push at hm
  rcases List.mem_append.1 hm with e | e
  · exact h m e
  · rw [List.mem_singleton.1 e]; exact hn
theorem DSz.prune {d : Doc} (h : DSz d) (y : Int) : DSz (d.prune y) := fun n hn => h n (List.mem_filter.1 hn).1
theorem DSz.attach {d : Doc} (h : DSz d) (x y b : Int) : DSz (d.attach x y b) := DSz.mod (DSz.mod h _ (fun n => { n with kids := inL n.kids y b }) fun _ e => e) _ (fun n => { n with up := x }) fun _ e => e
theorem DSz.detach {d : Doc} (h : DSz d) (x : Int) : DSz (d.detach x) := DSz.mod (DSz.mod h _ (fun n => { n with kids := outL n.kids x }) fun _ e => e) _ (fun n => { n with up := -1 }) fun _ e => e
theorem SizedA.getD {l : List At} (h : SizedA l) (i : Nat) : (l.getD i z0).name.size ≤ 9223372036854775807 := (h.at i).1
theorem SizedA.withA {l : List At} (h : SizedA l) {name value : ByteArray} (h1 : name.size ≤ 9223372036854775807) (h2 : value.size ≤ 9223372036854775807) : SizedA (withA l name value) := by
  unfold Proofs.YtacobpmmpdadpaaGreat.withA
  split
  · intro a ha
    rcases List.mem_or_eq_of_mem_set ha with e | e
    · exact h a e
    · rw [e]; exact ⟨h.getD _, h2⟩
  · intro a ha
    rcases List.mem_append.1 ha with e | e
    · exact h a (List.mem_of_mem_take e)
    · rcases List.mem_cons.1 e with e | e
      · rw [e]; exact ⟨h1, h2⟩
      · exact h a (List.mem_of_mem_drop e)
theorem SizedA.withoutA {l : List At} (h : SizedA l) (name : ByteArray) : SizedA (withoutA l name) := fun a ha => h a (List.mem_filter.1 ha).1
theorem DSz.attrsOf {d : Doc} (h : DSz d) (x : Int) : SizedA (d.attrsOf x) := by
  unfold Doc.attrsOf
  cases e : d.get x with
  | none => exact fun _ h => by cases h
  | some n => exact h n (get_mem e)
theorem OpFair.sized {x : Opr} (h : OpFair x) : SizedA x.attrs := fun a ha => by have := h.each a ha; omega
theorem DSz.doD {d : Doc} (h : DSz d) {x : Opr} (hx : OpFair x) : DSz (d.doD x).2.2 := by
  have h1 := hx.sized
  have h2 := hx.name
  have h3 := hx.text
  unfold Doc.doD
  split
  · unfold Doc.createD; repeat' split
    all_goals first | exact h | exact h.push h1
  split
  · unfold Doc.insertD; repeat' split
    all_goals first | exact h | exact h.attach _ _ _
  split
  · unfold Doc.moveD; repeat' split
    all_goals first | exact h | exact (h.detach _).attach _ _ _
  split
  · unfold Doc.removeD; repeat' split
    all_goals first | exact h | exact h.prune _ | exact (h.detach _).prune _
  split
  · unfold Doc.setD; repeat' split
    all_goals first | exact h | exact h.mod _ _ fun n e => e.withA (by omega) (by omega)
  split
  · unfold Doc.delD; repeat' split
    all_goals first | exact h | exact h.mod _ _ fun n e => e.withoutA _
  split
  · unfold Doc.textD; repeat' split
    all_goals first | exact h | exact h.mod _ _ fun n e => e
  exact h
theorem DSz.new (next : Int) : DSz (Doc.new next) := fun n hn => by
  simp only [Doc.new, List.mem_singleton] at hn
  subst hn
  exact fun _ h => by cases h
/-- A document and its reference, both at d. -/
structure Pair (w0 w : World) (db rb : Nat) (d : Doc) : Prop where
  grow : Grow w0 w
  dom : DAt w0 w db d
  ref : RAt w0 w rb d
  wf : d.WF
  sz : DSz d
/-- .. the document one step ahead. -/
structure Half (w0 w : World) (db rb : Nat) (d : Doc) (x : Opr) : Prop where
  grow : Grow w0 w
  dom : DAt w0 w db (d.doD x).2.2
  ref : RAt w0 w rb d
  wf : d.WF
  sz : DSz d
theorem tsD_D : ∀ t, t ∈ tsD → t ∈ tsD := fun _ h => h
theorem tsR_R : ∀ t, t ∈ tsR → t ∈ tsR := fun _ h => h
/-- An operation's attributes, at any world behind. -/
theorem opAttrs {w0 w : World} (hg : Grow w0 w) {A : Option Addr} {c : Nat} {l : List At} (h : RdV EAt 2 w0 (fun b => b < w0.heap.size) (.slice A l.length c) l) : RdV EAt 2 w (Imm w0.heap.size tsA w) (.slice A l.length c) l :=
  h.imp (fun _ _ _ h => h) (fun b hb => ⟨Nat.lt_of_lt_of_le hb hg.size, .inl hb⟩) fun b hb _ => hg.block b hb
theorem Pair.first {w0 w : World} {db rb : Nat} {d : Doc} (h : Pair w0 w db rb d) (hfew : d.nodes.length ≤ 1000000) {x : Opr} (hx : OpFair x) {A : Option Addr} {c : Nat} (ha : RdV EAt 2 w0 (fun b => b < w0.heap.size) (.slice A x.attrs.length c) x.attrs) :
    Calls Tryz.prog 14 #[.pointer (some ⟨db, 0, none⟩), opV x A c] w fun e w' => e = .returned (.tuple #[.int .i64 (d.doD x).1, .int .i64 (d.doD x).2.1]) ∧ Half w0 w' db rb d x := by
  obtain ⟨mb, nb, ib, D, hd⟩ := h.dom
  have h1 := hx.tag
  have h2 := hx.name
  refine (do_d hd h.wf hfew x A c (opAttrs h.grow ha) hx.sized hx.node hx.up hx.before (by omega) (by omega)).mono ?_
  rintro e w' ⟨rfl, hd', hf⟩
  exact ⟨rfl, h.grow.trans (hf.below h.grow.size), hd', h.ref.fr hf tsD_D, h.wf, h.sz⟩
theorem Half.second {w0 w : World} {db rb : Nat} {d : Doc} {x : Opr} (h : Half w0 w db rb d x) (hfew : d.nodes.length ≤ 1000000) (hx : OpFair x) {A : Option Addr} {c : Nat} (ha : RdV EAt 2 w0 (fun b => b < w0.heap.size) (.slice A x.attrs.length c) x.attrs) :
    Calls Tryz.prog 15 #[.pointer (some ⟨rb, 0, none⟩), opV x A c] w fun e w' => e = .returned (.tuple #[.int .i64 (d.doD x).1, .int .i64 (d.doD x).2.1]) ∧ Pair w0 w' db rb (d.doD x).2.2 := by
  obtain ⟨g, cap, xs, hr⟩ := h.ref
  have h1 := hx.tag
  have h2 := hx.name
  refine (do_r hr h.wf hfew x A c (opAttrs h.grow ha) hx.sized (h.sz.attrsOf _) (by omega) (by omega)).mono ?_
  rintro e w' ⟨rfl, hr', hf⟩
  exact ⟨rfl, h.grow.trans (hf.below h.grow.size), h.dom.fr hf tsR_R, hr', h.wf.doD x, h.sz.doD hx⟩
theorem Pair.all {w0 w : World} {db rb : Nat} {d : Doc} (h : Pair w0 w db rb d) (hfew : d.nodes.length ≤ 1000000) :
    Calls Tryz.prog 16 #[.pointer (some ⟨db, 0, none⟩), .pointer (some ⟨rb, 0, none⟩)] w fun e w' => e = .returned (.bool true) ∧ Pair w0 w' db rb d := by
  obtain ⟨mb, nb, ib, D, hd⟩ := h.dom
  obtain ⟨g, cap, xs, hr⟩ := h.ref
  refine (all_true hd hr h.wf hfew).mono ?_
  rintro e w' ⟨rfl, hg⟩
  exact ⟨rfl, Grow.trans' h.grow hg, h.dom.grow hg, h.ref.grow hg, h.wf, h.sz⟩
theorem Pair.new {w0 w w' : World} {db rb : Nat} {next : Int} (hn1 : 1 ≤ next) (hn2 : next ≤ 4294967296) (hd : DAt w0 w db (Doc.new next)) (hg : Grow w0 w) (hr : RAt w0 w' rb (Doc.new next)) (hg2 : Grow w w') : Pair w0 w' db rb (Doc.new next) :=
  ⟨Grow.trans' hg hg2, hd.grow hg2, hr, WF.new hn1 hn2, DSz.new next⟩
end Go.Proofs.YtacobpmmpdadpaaGreat
set_option linter.unusedVariables false
set_option linter.unusedSimpArgs false
namespace Go.Proofs.YtacobpmmpdadpaaGreat
open Go.RowKit Doc
theorem used_le {l : List Opr} {k : Nat} (h : k ≤ l.length) : k ≤ used l k := by
  induction k with
  | zero => exact Nat.zero_le _
  | succ k ih => have := used_succ (show k < l.length by omega); have := ih (by omega); omega
/-- What the k-th operation lays into memory. -/
theorem OpsAt.op {w : World} {A : Option Addr} {l : List Opr} (h : OpsAt w A l) {k : Nat} (hk : k < l.length) : ∃ (x : Opr) (b o : Nat) (A' : Option Addr) (c' : Nat), A = some ⟨b, o, none⟩ ∧ OpFair x ∧ RdV EAt 2 w (fun b => b < w.heap.size) (.slice A' x.attrs.length c') x.attrs ∧
    ∀ W, Grow w W → (W.cell? ⟨b, o + k * 9, none⟩ = some (.int .i64 x.kind) ∧ W.cell? ⟨b, o + k * 9 + 1, none⟩ = some (.int .i64 x.node) ∧ W.cell? ⟨b, o + k * 9 + 2, none⟩ = some (.int .i64 x.up) ∧ W.cell? ⟨b, o + k * 9 + 3, none⟩ = some (.int .i64 x.before) ∧ W.cell? ⟨b, o + k * 9 + 4, none⟩ = some (.string x.tag) ∧
      W.cell? ⟨b, o + k * 9 + 5, none⟩ = some (.string x.key) ∧ W.cell? ⟨b, o + k * 9 + 6, none⟩ = some (.string x.name) ∧ W.cell? ⟨b, o + k * 9 + 7, none⟩ = some (.string x.text) ∧ W.cell? ⟨b, o + k * 9 + 8, none⟩ = some (.slice A' x.attrs.length c')) := by
  obtain ⟨b, o, A', c', rfl, hb, hc, ha⟩ := h.at_ k hk
  have hf := h.fair _ (show l.getD k x0 ∈ l by rw [List.getD_eq_getElem?_getD, List.getElem?_eq_getElem hk]; exact List.getElem_mem hk)
  generalize l.getD k x0 = x at *
  exact ⟨x, b, o, A', c', rfl, hf, ha, fun W hW => ⟨Grow.cell hW (hc 0 _ rfl), Grow.cell hW (hc 1 _ rfl), Grow.cell hW (hc 2 _ rfl), Grow.cell hW (hc 3 _ rfl), Grow.cell hW (hc 4 _ rfl), Grow.cell hW (hc 5 _ rfl), Grow.cell hW (hc 6 _ rfl), Grow.cell hW (hc 7 _ rfl), Grow.cell hW (hc 8 _ rfl)⟩⟩
set_option maxHeartbeats 4000000 in
theorem steps_true (l : List Opr) (w : World) {A : Option Addr} (c : Nat) (h : OpsAt w A l) :
    Calls Tryz.prog 4 #[.slice A l.length c] w (RetB w true) := by
  have HFO := Lib.hid (few_ops l w c 40 (by omega) h)
  obtain ⟨n, hn⟩ : ∃ n, n = l.length := ⟨_, rfl⟩
  rw [← hn] at HFO ⊢
  have HN := Lib.hid hn; clear hn
  have HO := Lib.hid h; clear h
  go_enter Tryz.func4, Tryz.ntmps4
  go_upto_if 8 with (go_at_call 5; refine HFO.out.mono ?_; rintro e' w1 ⟨b, rfl, hg1, hb⟩; have HG1 := Lib.hid hg1; have HBB := Lib.hid hb; clear hg1 hb)
  rcases b with _ | _
  · go_wp2_with (go_at_call 6; refine (same_true _).mono ?_; rintro e' w2 ⟨rfl, hg2⟩; have HG2 := Lib.hid (Grow.trans' HG1.out hg2); clear hg2)
    go_ret
    exact ⟨rfl, HG2.out⟩
  · have hn40 : Hid ((used l n : Int) ≤ 40) := by
      have := HBB.out rfl
      rw [← HN.out] at this
      exact this
    have hn4 : n ≤ 40 := by
      have h1 := used_le (l := l) (k := n) (by rw [HN.out]; exact Nat.le_refl _)
      have h2 := hn40.out
      omega
    clear HBB
    go_upto_region 5 with (first
      | (go_at_call 7; refine (new_d w w1 HG1.out 1 (by decide) (by decide)).mono ?_; rintro e' w2 ⟨db, rfl, hd2, hg2⟩; have HD2 := Lib.hid hd2; have HG2 := Lib.hid (Grow.trans' HG1.out hg2); clear hd2 hg2)
      | (go_at_call 13; refine (new_r w w2 HG2.out 1).mono ?_; rintro e' w3 ⟨rb, rfl, hr3, hg3⟩; have HP := Lib.hid (Pair.new (by decide) (by decide) HD2.out HG2.out hr3 hg3); clear hr3 hg3))
    go_wp2
    go_loopw [5, 14] (fun _ i wr => ∃ (k : Nat) (d : Doc), k ≤ n ∧ i = .int .i64 k ∧ Hid (d.nodes.length ≤ k + 1) ∧ Hid (Pair w wr db rb d)) (fun _ i _ => n - (intOf i).toNat)
    case atStart => exact ⟨0, Doc.new 1, Nat.zero_le _, rfl, Nat.le_refl _, HP.out⟩
    case round =>
      obtain ⟨k, d, hk, rfl, hlen, HPK⟩ := hrel
      by_cases hlt : k < n
      · obtain ⟨x, b, o, A', c', rfl, hx, ha, hc⟩ := HO.out.op (k := k) (by rw [← HN.out]; exact hlt)
        have hfew : Hid (d.nodes.length ≤ 1000000) := by show _ ≤ _; have := hlen.out; omega
        have hlen2 : Hid ((d.doD x).2.2.nodes.length ≤ k + 1 + 1) := by show _ ≤ _; have := hlen.out; have := doD_len (d := d) x; omega
        have hfew2 : Hid ((d.doD x).2.2.nodes.length ≤ 1000000) := by show _ ≤ _; have := hlen2.out; omega
        have H1 := Lib.hid (HPK.out.first hfew.out hx ha)
        have H2 := Lib.hid fun W (hW : Half w W db rb d x) => hW.second hfew.out hx ha
        have HC := Lib.hid hc
        unfold opV at H1 H2
        obtain ⟨c0, c1, c2, c3, c4, c5, c6, c7, c8⟩ := hc _ HPK.out.grow
        clear hx ha hc
        obtain ⟨la, hla⟩ : ∃ la, la = x.attrs.length := ⟨_, rfl⟩
        rw [← hla] at H1 H2 HC c8
        clear hla
        generalize (d.doD x).1 = q1 at *
        generalize (d.doD x).2.1 = q2 at *
        generalize (d.doD x).2.2 = d2 at *
        go_upto_region 9 with (go_at_call 14; refine H1.out.mono ?_; rintro e' w4 ⟨rfl, hh⟩; have HH := Lib.hid hh; clear hh)
        clear c0 c1 c2 c3 c4 c5 c6 c7 c8
        obtain ⟨c0, c1, c2, c3, c4, c5, c6, c7, c8⟩ := HC.out _ HH.out.grow
        go_upto_region 10 with (go_at_call 15; refine (H2.out _ HH.out).mono ?_; rintro e' w5 ⟨rfl, hp⟩; have HP5 := Lib.hid hp; clear hp)
        go_wp2_with (go_at_call 16; refine (HP5.out.all hfew2.out).mono ?_; rintro e' w6 ⟨rfl, hp⟩; have HP6 := Lib.hid hp; clear hp)
        go_roundw
        case rel => exact ⟨k + 1, d2, by omega, by go_num, hlen2, HP6⟩
        case measure => simp [intOf]; omega
      · have hfew : Hid (d.nodes.length ≤ 1000000) := by show _ ≤ _; have := hlen.out; omega
        go_wp2_with (first
          | (go_at_call 16; refine (HPK.out.all hfew.out).mono ?_; rintro e' w6 ⟨rfl, hp⟩; have HP6 := Lib.hid hp; clear hp)
          | (go_at_call 6; refine (same_true _).mono ?_; rintro e' w7 ⟨rfl, hg7⟩; have HG7 := Lib.hid (Grow.trans' HP6.out.grow hg7); clear hg7))
        go_ret
        exact ⟨rfl, HG7.out⟩
end Go.Proofs.YtacobpmmpdadpaaGreat
set_option linter.unusedVariables false
set_option linter.unusedSimpArgs false
namespace Go.Proofs.YtacobpmmpdadpaaGreat
open Go.RowKit Doc
theorem run_eql_nilp {P : Program} (w : World) {tp te : TypeId} (hp : P.underlying tp = some (.pointer te)) :
    (binOp .eql tp (.pointer none) (.pointer none)).run P w = .ok (.bool true) w := by
  have h : ∀ d : Nat, (Op.equalIn (d + 1) tp (.pointer none) (.pointer none)).run P w = .ok true w := fun d => by
    simp [Op.equalIn, run_underlying hp]
  simp only [binOp]
  simp [Op.equal, Op.maxDepth, h 9999]
set_option maxRecDepth 100000 in
set_option maxHeartbeats 4000000 in
theorem plays_true (next : Int) (l : List Opr) (w : World) {A : Option Addr} (c : Nat) (h : OpsAt w A l) :
    Calls Tryz.prog 3 #[.int .i64 next, .slice A l.length c] w (RetB w true) := by
  have HFO := Lib.hid (few_ops l w c 150 (by omega) h)
  obtain ⟨n, hn⟩ : ∃ n, n = l.length := ⟨_, rfl⟩
  rw [← hn] at HFO ⊢
  have HN := Lib.hid hn; clear hn
  have HO := Lib.hid h; clear h
  go_enter Tryz.func3, Tryz.ntmps3
  go_upto_if 16 with (go_at_call 5; refine HFO.out.mono ?_; rintro e' w1 ⟨b, rfl, hg1, hb⟩; have HG1 := Lib.hid hg1; have HBB := Lib.hid hb; clear hg1 hb)
  rcases b with _ | _
  · go_wp2_with (go_at_call 6; refine (same_true _).mono ?_; rintro e' w2 ⟨rfl, hg2⟩; have HG2 := Lib.hid (Grow.trans' HG1.out hg2); clear hg2)
    go_ret
    exact ⟨rfl, HG2.out⟩
  · have hn40 : Hid ((used l n : Int) ≤ 150) := by
      have := HBB.out rfl
      rw [← HN.out] at this
      exact this
    have hn4 : n ≤ 150 := by
      have h1 := used_le (l := l) (k := n) (by rw [HN.out]; exact Nat.le_refl _)
      have h2 := hn40.out
      omega
    clear HBB
    by_cases hbad : next < 1 ∨ 4294967296 < next
    · have HND := Lib.hid (new_d_nil w1 next hbad)
      have he := run_eql_nilp (P := Tryz.prog) (tp := 25) (te := 62)
      have he2 : ∀ W, (binOp .eql 25 (.pointer none) (.pointer none)).run Tryz.prog W = .ok (.bool true) W := fun W => he W Tryz.underlying25
      clear he
      by_cases hlow : next < 1
      · have hb1 : (next < 1) = True := by simp [hlow]
        clear hbad hlow
        go_wp2_with (first
          | (go_at_call 7; refine HND.out.mono ?_; rintro e' w2 ⟨rfl, rfl⟩)
          | (go_at_call 8; refine (links_nil _).mono ?_; rintro e' w3 ⟨rfl, hg3⟩; have HG3 := Lib.hid (Grow.trans' HG1.out hg3); clear hg3)
          | (go_at_call 9; refine (read_nil _).mono ?_; rintro e' w4 ⟨rfl, hg4⟩; have HG4 := Lib.hid (Grow.trans' (grow_alloc HG3.out _) hg4); clear hg4)
          | (go_at_call 10; refine (loose_nil _).mono ?_; rintro e' w5 ⟨rfl, rfl⟩)
          | (go_at_call 11; refine (next_nil _).mono ?_; rintro e' w6 ⟨rfl, rfl⟩)
          | (go_at_call 12; refine (len_nil _).mono ?_; rintro e' w7 ⟨rfl, rfl⟩)
          | (go_at_call 6; refine (same_true _).mono ?_; rintro e' w8 ⟨rfl, hg8⟩; have HG8 := Lib.hid (Grow.trans' HG4.out hg8); clear hg8))
        go_ret
        exact ⟨rfl, HG8.out⟩
      · have hb1 : (next < 1) = False := by simp [hlow]
        have hb2 : (4294967296 < next) = True := by simp; omega
        clear hbad hlow
        go_wp2_with (first
          | (go_at_call 7; refine HND.out.mono ?_; rintro e' w2 ⟨rfl, rfl⟩)
          | (go_at_call 8; refine (links_nil _).mono ?_; rintro e' w3 ⟨rfl, hg3⟩; have HG3 := Lib.hid (Grow.trans' HG1.out hg3); clear hg3)
          | (go_at_call 9; refine (read_nil _).mono ?_; rintro e' w4 ⟨rfl, hg4⟩; have HG4 := Lib.hid (Grow.trans' (grow_alloc HG3.out _) hg4); clear hg4)
          | (go_at_call 10; refine (loose_nil _).mono ?_; rintro e' w5 ⟨rfl, rfl⟩)
          | (go_at_call 11; refine (next_nil _).mono ?_; rintro e' w6 ⟨rfl, rfl⟩)
          | (go_at_call 12; refine (len_nil _).mono ?_; rintro e' w7 ⟨rfl, rfl⟩)
          | (go_at_call 6; refine (same_true _).mono ?_; rintro e' w8 ⟨rfl, hg8⟩; have HG8 := Lib.hid (Grow.trans' HG4.out hg8); clear hg8))
        go_ret
        exact ⟨rfl, HG8.out⟩
    · have hb1 : (next < 1) = False := by simp; omega
      have hb2 : (4294967296 < next) = False := by simp; omega
      have HB : Hid (1 ≤ next ∧ next ≤ 4294967296) := by show _ ∧ _; omega
      clear hbad
      go_upto_region 8 with (first
        | (go_at_call 7; refine (new_d w w1 HG1.out next HB.out.1 HB.out.2).mono ?_; rintro e' w2 ⟨db, rfl, hd2, hg2⟩; have HD2 := Lib.hid hd2; have HG2 := Lib.hid (Grow.trans' HG1.out hg2); clear hd2 hg2)
        | (go_at_call 13; refine (new_r w w2 HG2.out next).mono ?_; rintro e' w3 ⟨rb, rfl, hr3, hg3⟩; have HP := Lib.hid (Pair.new HB.out.1 HB.out.2 HD2.out HG2.out hr3 hg3); clear hr3 hg3))
      go_wp2
      go_loopw [9, 60] (fun _ i wr => ∃ (k : Nat) (d : Doc), k ≤ n ∧ i = .int .i64 k ∧ Hid (d.nodes.length ≤ k + 1) ∧ Hid (Pair w wr db rb d)) (fun _ i _ => n - (intOf i).toNat)
      case atStart => exact ⟨0, Doc.new next, Nat.zero_le _, rfl, Nat.le_refl _, HP.out⟩
      case round =>
        obtain ⟨k, d, hk, rfl, hlen, HPK⟩ := hrel
        by_cases hlt : k < n
        · obtain ⟨x, b, o, A', c', rfl, hx, ha, hc⟩ := HO.out.op (k := k) (by rw [← HN.out]; exact hlt)
          have hfew : Hid (d.nodes.length ≤ 1000000) := by show _ ≤ _; have := hlen.out; omega
          have hlen2 : Hid ((d.doD x).2.2.nodes.length ≤ k + 1 + 1) := by show _ ≤ _; have := hlen.out; have := doD_len (d := d) x; omega
          have H1 := Lib.hid (HPK.out.first hfew.out hx ha)
          have H2 := Lib.hid fun W (hW : Half w W db rb d x) => hW.second hfew.out hx ha
          have HC := Lib.hid hc
          unfold opV at H1 H2
          obtain ⟨c0, c1, c2, c3, c4, c5, c6, c7, c8⟩ := hc _ HPK.out.grow
          clear hx ha hc
          obtain ⟨la, hla⟩ : ∃ la, la = x.attrs.length := ⟨_, rfl⟩
          rw [← hla] at H1 H2 HC c8
          clear hla
          generalize (d.doD x).1 = q1 at *
          generalize (d.doD x).2.1 = q2 at *
          generalize (d.doD x).2.2 = d2 at *
          have hq1 : (q1 != q1) = false := by simp
          have hq2 : (q2 != q2) = false := by simp
          go_upto_region 12 with (go_at_call 14; refine H1.out.mono ?_; rintro e' w4 ⟨rfl, hh⟩; have HH := Lib.hid hh; clear hh)
          clear c0 c1 c2 c3 c4 c5 c6 c7 c8
          obtain ⟨c0, c1, c2, c3, c4, c5, c6, c7, c8⟩ := HC.out _ HH.out.grow
          go_upto_region 13 with (go_at_call 15; refine (H2.out _ HH.out).mono ?_; rintro e' w5 ⟨rfl, hp⟩; have HP5 := Lib.hid hp; clear hp)
          go_wp2
          go_roundw
          case rel => exact ⟨k + 1, d2, by omega, by go_num, hlen2, HP5⟩
          case measure => simp [intOf]; omega
        · have hfew : Hid (d.nodes.length ≤ 1000000) := by show _ ≤ _; have := hlen.out; omega
          go_wp2_with (first
            | (go_at_call 16; refine (HPK.out.all hfew.out).mono ?_; rintro e' w6 ⟨rfl, hp⟩; have HP6 := Lib.hid hp; clear hp)
            | (go_at_call 6; refine (same_true _).mono ?_; rintro e' w7 ⟨rfl, hg7⟩; have HG7 := Lib.hid (Grow.trans' HP6.out.grow hg7); clear hg7))
          go_ret
          exact ⟨rfl, HG7.out⟩
end Go.Proofs.YtacobpmmpdadpaaGreat
set_option linter.unusedVariables false
set_option linter.unusedSimpArgs false
namespace Go.Proofs.YtacobpmmpdadpaaGreat
open Go.RowKit Doc
open Go.ChangeShapes Go.WideShapes Go.Deep
section
variable {H : Type} {enc : TypeId × Value → H} {P : Program} {w : World} {base : Nat} {spare : Nat → Bool} {held : Bool}
/-- A slice of structs of one-cell fields, opened: its cells, and each field's own reading. -/
theorem open_slice_fields {t e : TypeId} {fs : Array Field} {fuel : Nat} {cs : List Value} {x : DataW H × List MemPlace} (ht : P.underlying t = some (.slice e)) (he : P.underlying e = some (.struct fs))
    (hone : oneCellFields P fs = true) (hC : P.cellsOf e = fs.size) (h : DataW.trod enc P w base spare held fuel t cs = some x) :
    (cs = [.slice none 0 0] ∧ x = (.nil, [])) ∨
    ∃ (a : Addr) (len cap m : Nat) (D : Nat → DataW H) (Pl : Nat → List MemPlace), cs = [.slice (some a) len cap] ∧ base ≤ a.block ∧ len ≤ cap ∧ cap ≤ maxLen ∧ m = (if spare a.block then cap else len) ∧
      x = (.slice ((List.range len).map D) ((List.range (m - len)).map fun j => D (len + j)), MemPlace.row a (m * fs.size) ++ (List.range m).flatMap Pl) ∧
      ∀ i, i < m → ∃ (ys : List (DataW H × List MemPlace)) (n : Nat), D i = .agg (ys.map (·.1)) ∧ Pl i = ys.flatMap (·.2) ∧ ys.length = fs.size ∧
        ∀ (j : Nat) (f : Field), fs[j]? = some f → ∃ (v : Value) (y : DataW H × List MemPlace), w.cell? (a.add (i * fs.size + j)) = some v ∧ ys[j]? = some y ∧ DataW.trod enc P w base spare held n f.type [v] = some y := by
  rcases open_slice ht h with h0 | ⟨a, len, cap, m, n, D, Pl, hcs, hb, hl, hm, hmm, hx, hi⟩
  · exact .inl h0
  · refine .inr ⟨a, len, cap, m, D, Pl, hcs, hb, hl, hm, hmm, by rw [hC] at hx; exact hx, fun i him => ?_⟩
    obtain ⟨cs', hc, ht'⟩ := hi i him
    rw [hC] at hc
    obtain ⟨ys, n', hn', hy, hlen, hyl, hf⟩ := DataW.trod_struct he ht'
    obtain ⟨_, hcl, hat⟩ := World.cells?_some hc
    simp only [Prod.mk.injEq] at hy
    refine ⟨ys, n', hy.1, hy.2, hyl, fun j f hj => ?_⟩
    obtain ⟨ho, hk⟩ := hone_of hone j f hj
    have hjl : j < fs.size := (Array.getElem?_eq_some_iff.1 hj).1
    have hcell := hat j hjl
    have hv : cs'[j]? = some (cs'[j]'(by omega)) := List.getElem?_eq_getElem (by omega)
    have h1 := hf j f hj
    rw [ho, hk] at h1
    have hone' : (cs'.drop j).take 1 = [cs'[j]'(by omega)] := by
      rw [List.drop_eq_getElem_cons (by omega)]
      rfl
    rw [hone'] at h1
    have hys : ys[j]? = some (ys[j]'(by omega)) := List.getElem?_eq_getElem (by omega)
    refine ⟨_, _, ?_, hys, h1.trans hys⟩
    rw [← Go.Deep.add_add, hcell, hv]
theorem wAll {e : TypeId} : ∀ {ds : List (DataW H)} {d : DataW H} {n : Nat}, d ∈ ds → n ∈ d.weights P e → n ∈ DataW.weightsAll P e ds
  | a :: r, d, n, hd, hn => by
    rw [DataW.weightsAll, List.mem_append]
    rcases List.mem_cons.1 hd with rfl | hd
    · exact .inl hn
    · exact .inr (wAll hd hn)
theorem wSlice {t e : TypeId} (ht : P.underlying t = some (.slice e)) {len : Nat} {D : Nat → DataW H} {sp : List (DataW H)} {i n : Nat} (hi : i < len) (hn : n ∈ (D i).weights P e) : n ∈ (DataW.slice ((List.range len).map D) sp).weights P t := by
  rw [DataW.weights, ht]
  refine List.mem_cons_of_mem _ (List.mem_append_left _ (wAll (List.mem_map.2 ⟨i, List.mem_range.2 hi, rfl⟩) hn))
theorem wLen {t e : TypeId} (ht : P.underlying t = some (.slice e)) {els sp : List (DataW H)} : (els.length + sp.length) * P.bytesOf e ∈ (DataW.slice els sp).weights P t := by
  rw [DataW.weights, ht]; exact List.mem_cons_self
theorem wAgg {e : TypeId} {fs : Array Field} (he : P.underlying e = some (.struct fs)) {ys : List (DataW H × List MemPlace)} {j n : Nat} {f : Field} {y : DataW H × List MemPlace} (hj : fs[j]? = some f) (hy : ys[j]? = some y) (hn : n ∈ y.1.weights P f.type) :
    n ∈ (DataW.agg (ys.map (·.1))).weights P e := by
  rw [DataW.weights, he]
  exact DataW.weights_mem_each (j := j) (t := f.type) (d := y.1) (by simp [hj]) (by simp [hy]) n hn
theorem wStr {t : TypeId} {s : List UInt8} : s.length ∈ (DataW.lit (.string s) : DataW H).weights P t := by rw [DataW.weights]; exact List.mem_cons_self
end
theorem addr_cell {w : World} {a : Addr} {v : Value} (h : w.cell? (a.add 0) = some v) : ∃ b o, a = ⟨b, o, none⟩ := by
  obtain ⟨b, o, s⟩ := a
  have h' : w.cell? ⟨b, o, s⟩ = some v := h
  refine ⟨b, o, ?_⟩
  cases s with
  | none => rfl
  | some q => simp only [World.cell?] at h'; split at h' <;> simp at h'
theorem addr_add (b o k : Nat) : (⟨b, o, none⟩ : Addr).add k = ⟨b, o + k, none⟩ := by
  unfold Addr.add
  split
  · next h => subst h; rfl
  · rfl
/-- A list of what there is at each place. -/
theorem list_of {α : Type} (z : α) (n : Nat) (p : Nat → α → Prop) (h : ∀ i, i < n → ∃ x, p i x) : ∃ l : List α, l.length = n ∧ ∀ i, i < n → p i (l.getD i z) := by
  induction n with
  | zero => exact ⟨[], rfl, fun i hi => absurd hi (Nat.not_lt_zero _)⟩
  | succ n ih =>
    obtain ⟨l, hl, hp⟩ := ih fun i hi => h i (by omega)
    obtain ⟨x, hx⟩ := h n (Nat.lt_succ_self n)
    refine ⟨l ++ [x], by simp [hl], fun i hi => ?_⟩
    by_cases e : i = n
    · subst e; simpa [List.getD_eq_getElem?_getD, ← hl] using hx
    · have := hp i (by omega)
      rw [List.getD_eq_getElem?_getD, List.getElem?_append_left (by omega), ← List.getD_eq_getElem?_getD]; exact this
section
variable {H : Type} {enc : TypeId × Value → H} {W : World} {held : Bool}
/-- A row of attributes, opened. -/
theorem attrs_open {fuel : Nat} {v : Value} {x : DataW H × List MemPlace} (h : DataW.trod enc Tryz.prog W 0 (fun _ => true) held fuel 40 [v] = some x) (hs : ∀ n ∈ x.1.weights Tryz.prog 40, n ≤ reachBytes) :
    ∃ (A : Option Addr) (l : List At) (c : Nat), v = .slice A l.length c ∧ RdV EAt 2 W (fun b => b < W.heap.size) (.slice A l.length c) l ∧ l.length ≤ 140737488355328 ∧ ∀ a ∈ l, a.name.size ≤ 140737488355328 ∧ a.value.size ≤ 140737488355328 := by
  rcases open_slice_fields Tryz.underlying40 Tryz.underlying48 (by kernel_rfl) (by kernel_rfl) h with ⟨hc, rfl⟩ | ⟨a, len, cap, m, D, Pl, hc, _, hl, hcap, hm, rfl, hi⟩
  · obtain rfl : v = .slice none 0 0 := by simpa using hc
    exact ⟨none, [], 0, rfl, RdV.nil _ _ _ _ _ _, by simp, fun _ h => by cases h⟩
  · obtain rfl : v = .slice (some a) len cap := by simpa using hc
    simp only [if_true] at hm
    subst hm
    have hel : ∀ i, i < len → ∃ x : At, x.name.size ≤ 140737488355328 ∧ x.value.size ≤ 140737488355328 ∧ W.cell? (a.add (i * 2 + 0)) = some (.string x.name) ∧ W.cell? (a.add (i * 2 + 1)) = some (.string x.value) := fun i him => by
      obtain ⟨ys, n, hD, _, _, hf⟩ := hi i (by omega)
      obtain ⟨v0, y0, c0, e0, t0⟩ := hf 0 _ rfl
      obtain ⟨v1, y1, c1, e1, t1⟩ := hf 1 _ rfl
      obtain ⟨s0, q0, rfl, _⟩ := DataW.trod_string Tryz.underlying9 t0
      obtain ⟨s1, q1, rfl, _⟩ := DataW.trod_string Tryz.underlying9 t1
      obtain rfl : v0 = .string s0 := by simpa using q0
      obtain rfl : v1 = .string s1 := by simpa using q1
      have w0 := hs _ (wSlice Tryz.underlying40 him (by rw [hD]; exact wAgg Tryz.underlying48 (j := 0) rfl e0 wStr))
      have w1 := hs _ (wSlice Tryz.underlying40 him (by rw [hD]; exact wAgg Tryz.underlying48 (j := 1) rfl e1 wStr))
      have r := reachBytes_lt
      simp only [Array.length_toList] at w0 w1
      refine ⟨⟨s0, s1⟩, ?_, ?_, c0, c1⟩
      · show s0.data.size ≤ _; omega
      · show s1.data.size ≤ _; omega
    obtain ⟨l, hll, hp⟩ := list_of z0 len _ hel
    have hlen := hs _ (wLen Tryz.underlying40)
    have hby : Tryz.prog.bytesOf 48 = 32 := by kernel_rfl
    rw [hby] at hlen
    have r := reachBytes_lt
    simp only [List.length_map, List.length_range] at hlen
    subst hll
    refine ⟨some a, l, m, rfl, ⟨some a, m, rfl, hl, by omega, ?_⟩, by omega, fun x hx => ?_⟩
    · by_cases h0 : l = []
      · exact .inl h0
      · right
        have hl0 : 0 < l.length := List.length_pos_iff.2 h0
        obtain ⟨_, _, k0, _⟩ := hp 0 hl0
        obtain ⟨b, o, rfl⟩ := addr_cell k0
        refine ⟨b, o, rfl, World.block_lt_of_cell? W _ k0, fun i x hx => ?_⟩
        obtain ⟨hlt, ex⟩ := List.getElem?_eq_some_iff.1 hx
        obtain ⟨_, _, g0, g1⟩ := hp i hlt
        rw [List.getD_eq_getElem?_getD, hx, Option.getD_some] at g0 g1
        rw [addr_add] at g0 g1
        refine ⟨[.string x.name, .string x.value], rfl, rfl, fun j u hu => ?_⟩
        match j, hu with
        | 0, hu => cases hu; exact g0
        | 1, hu => cases hu; exact g1
    · obtain ⟨i, hlt, rfl⟩ := List.getElem_of_mem hx
      obtain ⟨g0, g1, _⟩ := hp i hlt
      rw [List.getD_eq_getElem?_getD, List.getElem?_eq_getElem hlt] at g0 g1
      exact ⟨g0, g1⟩
/-- A row of operations, opened. -/
theorem ops_open {fuel : Nat} {v : Value} {x : DataW H × List MemPlace} (h : DataW.trod enc Tryz.prog W 0 (fun _ => true) held fuel 22 [v] = some x) (hs : ∀ n ∈ x.1.weights Tryz.prog 22, n ≤ reachBytes) :
    ∃ (A : Option Addr) (l : List Opr) (c : Nat), v = .slice A l.length c ∧ OpsAt W A l := by
  rcases open_slice_fields Tryz.underlying22 Tryz.underlying42 (by kernel_rfl) (by kernel_rfl) h with ⟨hc, rfl⟩ | ⟨a, len, cap, m, D, Pl, hc, _, hl, hcap, hm, rfl, hi⟩
  · obtain rfl : v = .slice none 0 0 := by simpa using hc
    exact ⟨none, [], 0, rfl, by simp, (fun _ h => by cases h), fun i hi => absurd hi (by simp)⟩
  · obtain rfl : v = .slice (some a) len cap := by simpa using hc
    simp only [if_true] at hm
    subst hm
    have r := reachBytes_lt
    have hel : ∀ i, i < len → ∃ x : Opr, OpFair x ∧ W.cell? (a.add (i * 9 + 0)) = some (.int .i64 x.kind) ∧ ∃ A' c', (∀ j u, (opC x A' c')[j]? = some u → W.cell? (a.add (i * 9 + j)) = some u) ∧ RdV EAt 2 W (fun b => b < W.heap.size) (.slice A' x.attrs.length c') x.attrs := fun i him => by
      obtain ⟨ys, n, hD, _, _, hf⟩ := hi i (by omega)
      obtain ⟨v0, y0, c0, e0, t0⟩ := hf 0 _ rfl
      obtain ⟨v1, y1, c1, e1, t1⟩ := hf 1 _ rfl
      obtain ⟨v2, y2, c2, e2, t2⟩ := hf 2 _ rfl
      obtain ⟨v3, y3, c3, e3, t3⟩ := hf 3 _ rfl
      obtain ⟨v4, y4, c4, e4, t4⟩ := hf 4 _ rfl
      obtain ⟨v5, y5, c5, e5, t5⟩ := hf 5 _ rfl
      obtain ⟨v6, y6, c6, e6, t6⟩ := hf 6 _ rfl
      obtain ⟨v7, y7, c7, e7, t7⟩ := hf 7 _ rfl
      obtain ⟨v8, y8, c8, e8, t8⟩ := hf 8 _ rfl
      obtain ⟨s0, q0, rfl, f0⟩ := DataW.trod_int Tryz.underlying3 t0
      obtain ⟨s1, q1, rfl, f1⟩ := DataW.trod_int Tryz.underlying3 t1
      obtain ⟨s2, q2, rfl, f2⟩ := DataW.trod_int Tryz.underlying3 t2
      obtain ⟨s3, q3, rfl, f3⟩ := DataW.trod_int Tryz.underlying3 t3
      obtain ⟨s4, q4, rfl, _⟩ := DataW.trod_string Tryz.underlying9 t4
      obtain ⟨s5, q5, rfl, _⟩ := DataW.trod_string Tryz.underlying9 t5
      obtain ⟨s6, q6, rfl, _⟩ := DataW.trod_string Tryz.underlying9 t6
      obtain ⟨s7, q7, rfl, _⟩ := DataW.trod_string Tryz.underlying9 t7
      obtain rfl : v0 = .int .i64 s0 := by simpa using q0
      obtain rfl : v1 = .int .i64 s1 := by simpa using q1
      obtain rfl : v2 = .int .i64 s2 := by simpa using q2
      obtain rfl : v3 = .int .i64 s3 := by simpa using q3
      obtain rfl : v4 = .string s4 := by simpa using q4
      obtain rfl : v5 = .string s5 := by simpa using q5
      obtain rfl : v6 = .string s6 := by simpa using q6
      obtain rfl : v7 = .string s7 := by simpa using q7
      have w4 := hs _ (wSlice Tryz.underlying22 him (by rw [hD]; exact wAgg Tryz.underlying42 (j := 4) rfl e4 wStr))
      have w5 := hs _ (wSlice Tryz.underlying22 him (by rw [hD]; exact wAgg Tryz.underlying42 (j := 5) rfl e5 wStr))
      have w6 := hs _ (wSlice Tryz.underlying22 him (by rw [hD]; exact wAgg Tryz.underlying42 (j := 6) rfl e6 wStr))
      have w7 := hs _ (wSlice Tryz.underlying22 him (by rw [hD]; exact wAgg Tryz.underlying42 (j := 7) rfl e7 wStr))
      simp only [Array.length_toList] at w4 w5 w6 w7
      obtain ⟨A', l, c', rfl, hat, hl1, hl2⟩ := attrs_open t8 fun n hn => hs _ (wSlice Tryz.underlying22 him (by rw [hD]; exact wAgg Tryz.underlying42 (j := 8) rfl e8 hn))
      refine ⟨⟨s0, s1, s2, s3, s4, s5, s6, s7, l⟩, ⟨f1, f2, f3, ?_, ?_, ?_, ?_, hl1, hl2⟩, c0, A', c', fun j u hu => ?_, hat⟩
      · show s4.data.size ≤ _; omega
      · show s5.data.size ≤ _; omega
      · show s6.data.size ≤ _; omega
      · show s7.data.size ≤ _; omega
      · match j, hu with
        | 0, hu => cases hu; exact c0
        | 1, hu => cases hu; exact c1
        | 2, hu => cases hu; exact c2
        | 3, hu => cases hu; exact c3
        | 4, hu => cases hu; exact c4
        | 5, hu => cases hu; exact c5
        | 6, hu => cases hu; exact c6
        | 7, hu => cases hu; exact c7
        | 8, hu => cases hu; exact c8
    obtain ⟨l, hll, hp⟩ := list_of x0 len _ hel
    have hlen := hs _ (wLen Tryz.underlying22)
    have hby : Tryz.prog.bytesOf 42 = 120 := by kernel_rfl
    rw [hby] at hlen
    simp only [List.length_map, List.length_range] at hlen
    subst hll
    refine ⟨some a, l, m, rfl, by omega, fun x hx => ?_, fun i hlt => ?_⟩
    · obtain ⟨i, hlt, rfl⟩ := List.getElem_of_mem hx
      have g0 := (hp i hlt).1
      rw [List.getD_eq_getElem?_getD, List.getElem?_eq_getElem hlt] at g0
      exact g0
    · obtain ⟨_, k0, _⟩ := hp 0 (by omega)
      obtain ⟨b, o, rfl⟩ := addr_cell k0
      obtain ⟨_, _, A', c', hc, hat⟩ := hp i hlt
      refine ⟨b, o, A', c', rfl, World.block_lt_of_cell? W _ k0, fun j u hu => ?_, hat⟩
      have := hc j u hu
      rw [addr_add, ← Nat.add_assoc] at this
      exact this
end
end Go.Proofs.YtacobpmmpdadpaaGreat
set_option linter.unusedVariables false
namespace Go.Proofs.YtacobpmmpdadpaaGreat
namespace RowSteps
open Go.ChangeShapes Go.WideShapes Go.ChangeAt Go.RowKit
theorem own : ownKnob Tryz.prog.godebug = none := by kernel_rfl
theorem laidOut : laidOutB Tryz.prog = true := by kernel_rfl
set_option maxRecDepth 100000 in
theorem lifted (os : Os) (started : os.Started) (H : Type) (enc : TypeId × Value → H) :
    ReturnsInHanded {} Tryz.checked os 4 .any (Rows.domStepsSpec.pre6 enc Tryz.prog Tryz.f4 Rows.domStepsRow.domain false) (Rows.domStepsSpec.post enc Tryz.prog Tryz.f4 false true false false) := by
  refine returnsInHanded_of_change_sized (C := Tryz.checked) own started (by kernel_rfl) Tryz.func4
    (ChangeSpec.witness6 (enc := enc) (C := Tryz.checked) false ⟨#[], #[.slice none 0 0], []⟩ 8 (by kernel_rfl) (by kernel_rfl) (by kernel_rfl) (by kernel_rfl)) ?_
  intro W base args ds gs before hval0 hW hcnd hsz0 _
  have hsz : (DataW.weightsEach Tryz.prog (Tryz.f4.params.toList ++ Rows.domStepsSpec.plain.varTypes Tryz.prog) (ds ++ gs)).all (· ≤ reachBytes) = true := hsz0
  have hval : ∀ (j : Nat) t v, Tryz.f4.params[j]? = some t → args[j]? = some v → Value.okWide Tryz.prog W .any base t v := hval0
  have hW' := hW
  obtain ⟨p, q, hA0, hV, rfl, hfz, hnd⟩ := hW
  have hA : DataW.TrodAll enc Tryz.prog W 0 (fun _ => true) true Tryz.f4.params.toList args.toList ds p := hA0
  rw [Tryz.params4] at hA hval hsz
  obtain ⟨v0, vs0, d0, ds0, p0, q0, hargs, rfl, rfl, h0, r0⟩ := trodAll_cons hA
  obtain ⟨rfl, rfl, rfl⟩ := trodAll_nil r0
  obtain rfl : args = #[v0] := by cases args; simp_all
  obtain ⟨rfl, rfl⟩ := trodVars_none hV
  obtain ⟨a0, len0, cap0, rfl⟩ := okWide_slice Tryz.underlying22 (hval 0 22 v0 rfl rfl)
  have k0 := h0
  have lt0 : ∀ x ∈ p0, x.block < W.heap.size := by obtain ⟨m, hm⟩ := k0; exact DataW.trod_lt m _ _ _ hm
  have hall : ∀ n ∈ d0.weights Tryz.prog 22, n ≤ reachBytes := fun n hn => by
    have := List.all_eq_true.1 hsz n (DataW.weights_mem_each (j := 0) rfl rfl n hn)
    simpa using this
  obtain ⟨fuel, hf⟩ := h0
  obtain ⟨A, l, c, hv, hops⟩ := ops_open (x := (d0, p0)) hf hall
  rw [hv] at k0 hW' ⊢
  clear hA0 hval0 hsz0 hsz hf
  refine (steps_true l W c hops).mono fun e W' ⟨he, bel⟩ => ?_
  subst he
  exact ⟨_, rfl, _, _, _, [], _, [], hW', trodAll_mk1 (shut_bool Tryz.underlying4 _), trodAll_cons_mk (Below.trod laidOut (by kernel_rfl) (of_decide_eq_true (by kernel_rfl)) k0 bel lt0) trodAll_mk0, rfl, bel.frame _, fun h => by cases h⟩
theorem over : Rows.domStepsRow.holds Tryz.pinned (OpenSpec.ofChange Rows.domStepsSpec) :=
  OpenClaim.holds_of_wide 4 Tryz.f4 rfl rfl rfl rfl rfl rfl rfl ⟨rfl, rfl, rfl, rfl, rfl⟩ rfl rfl rfl rfl rfl (by kernel_rfl) Tryz.func4 (by kernel_rfl)
    (of_decide_eq_true (by kernel_rfl)) (by unfold Func.isWrapper; first | (rw [if_pos (by decide +kernel)]; kernel_rfl) | (rw [if_neg (by decide +kernel)]; exact ⟨rfl, rfl⟩))
    (fun os started H enc _ => lifted os started H enc)
end RowSteps
/-- The law's row. -/
theorem dom_steps_holds : Rows.DomStepsSaid := RowSteps.over
#print axioms dom_steps_holds
end Go.Proofs.YtacobpmmpdadpaaGreat
set_option linter.unusedVariables false
namespace Go.Proofs.YtacobpmmpdadpaaGreat
namespace RowPlays
open Go.ChangeShapes Go.WideShapes Go.ChangeAt Go.RowKit
theorem own : ownKnob Tryz.prog.godebug = none := by kernel_rfl
theorem laidOut : laidOutB Tryz.prog = true := by kernel_rfl
set_option maxRecDepth 100000 in
theorem lifted (os : Os) (started : os.Started) (H : Type) (enc : TypeId × Value → H) :
    ReturnsInHanded {} Tryz.checked os 3 .any (Rows.domPlaysSpec.pre6 enc Tryz.prog Tryz.f3 Rows.domPlaysRow.domain false) (Rows.domPlaysSpec.post enc Tryz.prog Tryz.f3 false true false false) := by
  refine returnsInHanded_of_change_sized (C := Tryz.checked) own started (by kernel_rfl) Tryz.func3
    (ChangeSpec.witness6 (enc := enc) (C := Tryz.checked) false ⟨#[], #[.int .i64 0, .slice none 0 0], []⟩ 8 (by kernel_rfl) (by kernel_rfl) (by kernel_rfl) (by kernel_rfl)) ?_
  intro W base args ds gs before hval0 hW hcnd hsz0 _
  have hsz : (DataW.weightsEach Tryz.prog (Tryz.f3.params.toList ++ Rows.domPlaysSpec.plain.varTypes Tryz.prog) (ds ++ gs)).all (· ≤ reachBytes) = true := hsz0
  have hval : ∀ (j : Nat) t v, Tryz.f3.params[j]? = some t → args[j]? = some v → Value.okWide Tryz.prog W .any base t v := hval0
  have hW' := hW
  obtain ⟨p, q, hA0, hV, rfl, hfz, hnd⟩ := hW
  have hA : DataW.TrodAll enc Tryz.prog W 0 (fun _ => true) true Tryz.f3.params.toList args.toList ds p := hA0
  rw [Tryz.params3] at hA hval hsz
  obtain ⟨v0, vs0, d0, ds0, p0, q0, hargs, rfl, rfl, h0, r0⟩ := trodAll_cons hA
  obtain ⟨v1, vs1, d1, ds1, p1, q1, rfl, rfl, rfl, h1, r1⟩ := trodAll_cons r0
  obtain ⟨rfl, rfl, rfl⟩ := trodAll_nil r1
  obtain rfl : args = #[v0, v1] := by cases args; simp_all
  obtain ⟨rfl, rfl⟩ := trodVars_none hV
  obtain ⟨next, rfl, rfl, rfl, w0⟩ := open_int Tryz.underlying3 (hval 0 3 v0 rfl rfl) h0
  obtain ⟨a1, len1, cap1, rfl⟩ := okWide_slice Tryz.underlying22 (hval 1 22 v1 rfl rfl)
  have k1 := h1
  have lt1 : ∀ x ∈ p1, x.block < W.heap.size := by obtain ⟨m, hm⟩ := k1; exact DataW.trod_lt m _ _ _ hm
  have hall : ∀ n ∈ d1.weights Tryz.prog 22, n ≤ reachBytes := fun n hn => by
    have := List.all_eq_true.1 hsz n (DataW.weights_mem_each (j := 1) rfl rfl n hn)
    simpa using this
  obtain ⟨fuel, hf⟩ := h1
  obtain ⟨A, l, c, hv, hops⟩ := ops_open (x := (d1, p1)) hf hall
  rw [hv] at k1 hW' ⊢
  clear hA0 hval0 hsz0 hsz hf
  refine (plays_true next l W c hops).mono fun e W' ⟨he, bel⟩ => ?_
  subst he
  exact ⟨_, rfl, _, _, _, [], _, [], hW', trodAll_mk1 (shut_bool Tryz.underlying4 _), trodAll_cons_mk (shut_int Tryz.underlying3 w0) (trodAll_cons_mk (Below.trod laidOut (by kernel_rfl) (of_decide_eq_true (by kernel_rfl)) k1 bel lt1) trodAll_mk0), rfl, bel.frame _, fun h => by cases h⟩
theorem over : Rows.domPlaysRow.holds Tryz.pinned (OpenSpec.ofChange Rows.domPlaysSpec) :=
  OpenClaim.holds_of_wide 3 Tryz.f3 rfl rfl rfl rfl rfl rfl rfl ⟨rfl, rfl, rfl, rfl, rfl⟩ rfl rfl rfl rfl rfl (by kernel_rfl) Tryz.func3 (by kernel_rfl)
    (of_decide_eq_true (by kernel_rfl)) (by unfold Func.isWrapper; first | (rw [if_pos (by decide +kernel)]; kernel_rfl) | (rw [if_neg (by decide +kernel)]; exact ⟨rfl, rfl⟩))
    (fun os started H enc _ => lifted os started H enc)
end RowPlays
/-- The law's row. -/
theorem dom_plays_holds : Rows.DomPlaysSaid := RowPlays.over
#print axioms dom_plays_holds
end Go.Proofs.YtacobpmmpdadpaaGreat
