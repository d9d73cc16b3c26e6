/- How the reference's document lies in memory. The reference's document: At, none, under, in, out. The reference's document: kids, Insert, Move. The reference's New and Create. The reference's Remove. The reference's Read. The functions that compare two lists, at lists that hold the same. -/
import Derived.Test.YtacobpmmpdadpaaGreatPk2
import Derived.StillTailTactics
set_option linter.unusedVariables false
set_option linter.unusedSimpArgs false
namespace Go.Proofs.YtacobpmmpdadpaaGreat
open Go.RowKit

def nd0 : Nd := ⟨0, 0, [], ⟨#[]⟩, ⟨#[]⟩, ⟨#[]⟩, []⟩
def Doc.posI (d : Doc) (x : Int) : Int := match d.nodes.findIdx? (fun n => n.id == x) with | some i => (i : Int) | none => -1
namespace Doc
variable {d : Doc}
theorem pos_none {x : Int} (h : ¬ d.has x) : d.posI x = -1 := by
  unfold posI
  have : d.nodes.findIdx? (fun n => n.id == x) = none := by
    rw [List.findIdx?_eq_none_iff]
    intro n hn
    simp only [beq_eq_false_iff_ne]
    exact fun e => h ⟨n, hn, e⟩
  rw [this]
theorem pos_at {x : Int} {i : Nat} (hi : i < d.nodes.length) (h : (d.nodes.getD i nd0).id = x) (ha : ∀ j, j < i → (d.nodes.getD j nd0).id ≠ x) : d.posI x = i := by
  unfold posI
  have : d.nodes.findIdx? (fun n => n.id == x) = some i := by
    rw [List.findIdx?_eq_some_iff_getElem]
    refine ⟨hi, ?_, fun j hj => ?_⟩
    · simpa [List.getD_eq_getElem?_getD, List.getElem?_eq_getElem hi] using h
    · have := ha j hj
      simpa [List.getD_eq_getElem?_getD, List.getElem?_eq_getElem (Nat.lt_trans hj hi)] using this
  rw [this]
theorem pos_has {x : Int} (h : d.has x) : ∃ i, i < d.nodes.length ∧ d.posI x = i ∧ (d.nodes.getD i nd0).id = x ∧ d.get x = some (d.nodes.getD i nd0) := by
  cases e : d.nodes.findIdx? (fun n => n.id == x) with
  | none =>
    obtain ⟨n, hn, hx⟩ := h
    rw [List.findIdx?_eq_none_iff] at e
    have := e n hn
    simp [hx] at this
  | some i =>
    obtain ⟨hi, h1, h2⟩ := List.findIdx?_eq_some_iff_getElem.1 e
    refine ⟨i, hi, by unfold posI; rw [e], by simpa [List.getD_eq_getElem?_getD, List.getElem?_eq_getElem hi] using h1, ?_⟩
    unfold get
    rw [List.find?_eq_some_iff_getElem]
    refine ⟨?_, i, hi, by simp [List.getD_eq_getElem?_getD, List.getElem?_eq_getElem hi], fun j hj => by simpa using h2 j hj⟩
    simpa [List.getD_eq_getElem?_getD, List.getElem?_eq_getElem hi] using h1
theorem pos_end {x : Int} (h : ∀ j, j < d.nodes.length → (d.nodes.getD j nd0).id ≠ x) : ¬ d.has x := by
  rintro ⟨n, hn, e⟩
  obtain ⟨j, hj, rfl⟩ := List.getElem_of_mem hn
  exact h j hj (by simpa [List.getD_eq_getElem?_getD, List.getElem?_eq_getElem hj] using e)
theorem mod_set (hs : (d.nodes.map (·.id)).Pairwise (· < ·)) {x : Int} {i : Nat} (hi : i < d.nodes.length) (hx : (d.nodes.getD i nd0).id = x) (f : Nd → Nd) : d.mod x f = { d with nodes := d.nodes.set i (f (d.nodes.getD i nd0)) } := by
  have hg : ∀ j (hj : j < d.nodes.length), d.nodes.getD j nd0 = d.nodes[j] := fun j hj => by simp [List.getD_eq_getElem?_getD, List.getElem?_eq_getElem hj]
  unfold mod
  congr 1
  apply List.ext_getElem (by simp)
  intro j h1 h2
  simp only [List.length_map] at h1
  rw [List.getElem_map, List.getElem_set]
  by_cases e : i = j
  · subst e
    rw [if_pos rfl, if_pos (by rw [← hg i h1]; exact hx), hg i h1]
  · rw [if_neg e, if_neg]
    intro e'
    rw [hg i hi] at hx
    have hp := List.pairwise_iff_getElem.1 hs
    rcases Nat.lt_or_gt_of_ne e with h | h
    · have := hp i j (by simpa using hi) (by simpa using h1) h
      simp only [List.getElem_map] at this
      omega
    · have := hp j i (by simpa using h1) (by simpa using hi) h
      simp only [List.getElem_map] at this
      omega
end Doc

structure RN where
  id : Int
  up : Int
  kv : Value
  tag : ByteArray
  key : ByteArray
  text : ByteArray
  av : Value
def encN (x : RN) : List Value := [.int .i64 x.id, .int .i64 x.up, x.kv, .string x.tag, .string x.key, .string x.text, x.av]
def tsR : List Nat := [69, 72]
def tsD : List Nat := [62, 59, 94, 1000000]
def tsA : List Nat := tsR ++ tsD
theorem tsR_A : ∀ t, t ∈ tsR → t ∈ tsA := fun t h => List.mem_append_left _ h
theorem tsD_A : ∀ t, t ∈ tsD → t ∈ tsA := fun t h => List.mem_append_right _ h
structure GoodN (w0 w : World) (x : RN) (n : Nd) : Prop where
  id : x.id = n.id
  up : x.up = n.up
  tag : x.tag = n.tag
  key : x.key = n.key
  text : x.text = n.text
  kids : RdV EInt 1 w (Imm w0.heap.size tsA w) x.kv n.kids
  attrs : RdV EAt 2 w (Imm w0.heap.size tsA w) x.av n.attrs
structure RefRep (w0 w : World) (rb g cap : Nat) (xs : List RN) (d : Doc) : Prop where
  lo : w0.heap.size ≤ rb
  hd : w.heap[rb]? = some (.cells #[.slice (some ⟨g, 0, none⟩) d.nodes.length cap, .int .i64 d.next] 72 (0, 0))
  own : Own w0 w 69 7 (.slice (some ⟨g, 0, none⟩) d.nodes.length cap) d.nodes.length (xs.flatMap encN)
  len : xs.length = d.nodes.length
  good : ∀ i x, xs[i]? = some x → GoodN w0 w x (d.nodes.getD i nd0)
theorem RdV.fr {α : Type} {E : α → List Value → Prop} {sz base : Nat} {ts ts' : List Nat} {w w' : World} {v : Value} {l : List α} (h : RdV E sz w (Imm base ts w) v l) (hf : Fr base ts' w w') (ht : ∀ t, t ∈ ts' → t ∈ ts) : RdV E sz w' (Imm base ts w') v l :=
  h.imp (fun _ _ _ h => h) (fun b hb => (hf.mono ht).imm hb) (fun b hb _ => (hf.mono ht).keep b hb)
theorem GoodN.fr {w0 w w' : World} {x : RN} {n : Nd} {ts : List Nat} (h : GoodN w0 w x n) (hf : Fr w0.heap.size ts w w') (ht : ∀ t, t ∈ ts → t ∈ tsA) : GoodN w0 w' x n :=
  ⟨h.id, h.up, h.tag, h.key, h.text, h.kids.fr hf ht, h.attrs.fr hf ht⟩
theorem Own.at {w0 w : World} {e size n : Nat} {g cap : Nat} {cs : List Value} (h : Own w0 w e size (.slice (some ⟨g, 0, none⟩) n cap) n cs) :
    ∃ cur, w0.heap.size ≤ g ∧ w.heap[g]? = some (.cells cur e (0, 0)) ∧ n ≤ cap ∧ cap ≤ maxLen ∧ cur.size = cap * size ∧ cur.toList.take (n * size) = cs := by
  rcases h.1.2 with ⟨e', _⟩ | ⟨g', cap', cur, e', r1, r2, r3, r4, r5, r6⟩
  · cases e'
  · cases e'; exact ⟨cur, r1, r2, r3, r4, r5, r6⟩
theorem Own.of_at {w0 w : World} {e size n g cap : Nat} {cs : List Value} (hl : cs.length = n * size) (hg : Grow w0 w) (h : ∃ cur, w0.heap.size ≤ g ∧ w.heap[g]? = some (.cells cur e (0, 0)) ∧ n ≤ cap ∧ cap ≤ maxLen ∧ cur.size = cap * size ∧ cur.toList.take (n * size) = cs) : Own w0 w e size (.slice (some ⟨g, 0, none⟩) n cap) n cs := by
  obtain ⟨cur, r⟩ := h
  exact ⟨⟨hl, .inr ⟨g, cap, cur, rfl, r⟩⟩, hg⟩
theorem RefRep.fr {w0 w w' : World} {rb g cap : Nat} {xs : List RN} {d : Doc} {ts : List Nat} (h : RefRep w0 w rb g cap xs d) (hf : Fr w0.heap.size ts w w') (ht : ∀ t, t ∈ ts → t ∈ tsD) : RefRep w0 w' rb g cap xs d := by
  obtain ⟨cur, r1, r2, r3⟩ := h.own.at
  have hb : Below w0.heap.size w w' := hf.below h.own.2.size
  refine ⟨h.lo, (hf.keep rb ⟨(Array.getElem?_eq_some_iff.1 h.hd).1, .inr ⟨_, h.hd, fun hm => ?_⟩⟩).trans h.hd, Own.of_at h.own.1.1 (h.own.2.trans hb) ⟨cur, r1, (hf.keep g ⟨(Array.getElem?_eq_some_iff.1 r2).1, .inr ⟨_, r2, fun hm => ?_⟩⟩).trans r2, r3⟩, h.len, fun i x hx => (h.good i x hx).fr hf fun t h' => tsD_A t (ht t h')⟩
  · have := ht _ hm; revert this; simp [tyo, tsD]
  · have := ht _ hm; revert this; simp [tyo, tsD]
theorem RefRep.grow {w0 w w' : World} {rb g cap : Nat} {xs : List RN} {d : Doc} (h : RefRep w0 w rb g cap xs d) (hf : Grow w w') : RefRep w0 w' rb g cap xs d :=
  h.fr (Fr.of_below w0.heap.size [] hf) fun t ht => by cases ht
section
variable {w0 w : World} {rb g cap : Nat} {xs : List RN} {d : Doc}
theorem RefRep.p0 (h : RefRep w0 w rb g cap xs d) : w.cell? ⟨rb, 0, none⟩ = some (.slice (some ⟨g, 0, none⟩) d.nodes.length cap) := by simp [World.cell?, h.hd]
theorem RefRep.p1 (h : RefRep w0 w rb g cap xs d) : w.cell? ⟨rb, 1, none⟩ = some (.int .i64 d.next) := by simp [World.cell?, h.hd]
theorem flat_at {α : Type} (enc : α → List Value) (size : Nat) (hs : ∀ x, (enc x).length = size) : ∀ (l : List α) (i j : Nat) (x : α), l[i]? = some x → j < size → (l.flatMap enc)[i * size + j]? = (enc x)[j]?
  | [], i, j, x, h, _ => by simp at h
  | a :: r, 0, j, x, h, hj => by
    simp only [List.getElem?_cons_zero, Option.some.injEq] at h
    subst h
    rw [List.flatMap_cons, Nat.zero_mul, Nat.zero_add, List.getElem?_append_left (by rw [hs]; exact hj)]
  | a :: r, i + 1, j, x, h, hj => by
    rw [List.getElem?_cons_succ] at h
    rw [List.flatMap_cons, List.getElem?_append_right (by rw [hs, Nat.succ_mul]; omega), hs, show (i + 1) * size + j - size = i * size + j by rw [Nat.succ_mul]; omega]
    exact flat_at enc size hs r i j x h hj
theorem Own.cellAt {e size n : Nat} {cs : List Value} (h : Own w0 w e size (.slice (some ⟨g, 0, none⟩) n cap) n cs) {k : Nat} {u : Value} (hu : cs[k]? = some u) : w.cell? ⟨g, k, none⟩ = some u := by
  obtain ⟨cur, r1, r2, r3, r4, r5, r6⟩ := h.at
  rw [← r6, List.getElem?_take] at hu
  split at hu
  · simpa [World.cell?, r2] using hu
  · cases hu
theorem RefRep.node (h : RefRep w0 w rb g cap xs d) {i : Nat} (hi : i < d.nodes.length) : ∃ x, xs[i]? = some x ∧ GoodN w0 w x (d.nodes.getD i nd0) ∧
    w.cell? ⟨g, i * 7, none⟩ = some (.int .i64 (d.nodes.getD i nd0).id) ∧ w.cell? ⟨g, i * 7 + 1, none⟩ = some (.int .i64 (d.nodes.getD i nd0).up) ∧ w.cell? ⟨g, i * 7 + 2, none⟩ = some x.kv ∧
    w.cell? ⟨g, i * 7 + 3, none⟩ = some (.string (d.nodes.getD i nd0).tag) ∧ w.cell? ⟨g, i * 7 + 4, none⟩ = some (.string (d.nodes.getD i nd0).key) ∧ w.cell? ⟨g, i * 7 + 5, none⟩ = some (.string (d.nodes.getD i nd0).text) ∧ w.cell? ⟨g, i * 7 + 6, none⟩ = some x.av := by
  have hl := h.len
  have hx : xs[i]? = some xs[i] := List.getElem?_eq_getElem (by omega)
  have hg := h.good i _ hx
  have hc : ∀ j u, (encN xs[i])[j]? = some u → w.cell? ⟨g, i * 7 + j, none⟩ = some u := fun j u hu => by
    have hj : j < 7 := (List.getElem?_eq_some_iff.1 hu).1
    exact h.own.cellAt ((flat_at encN 7 (fun _ => rfl) xs i j _ hx hj).trans hu)
  refine ⟨xs[i], hx, hg, ?_, ?_, ?_, ?_, ?_, ?_, ?_⟩
  · rw [← hg.id]; exact hc 0 _ rfl
  · rw [← hg.up]; exact hc 1 _ rfl
  · exact hc 2 _ rfl
  · rw [← hg.tag]; exact hc 3 _ rfl
  · rw [← hg.key]; exact hc 4 _ rfl
  · rw [← hg.text]; exact hc 5 _ rfl
  · exact hc 6 _ rfl
theorem RefRep.caps (h : RefRep w0 w rb g cap xs d) : d.nodes.length ≤ cap ∧ cap ≤ 9223372036854775807 ∧ w0.heap.size ≤ g := by
  obtain ⟨cur, r1, r2, r3, r4, r5, r6⟩ := h.own.at
  exact ⟨r3, by simp only [maxLen] at r4; omega, r1⟩
/-- A cell of a node is written. -/
theorem RefRep.set (h : RefRep w0 w rb g cap xs d) {i j : Nat} {x x' : RN} {v : Value} {n' : Nd} (hx : xs[i]? = some x) (hj : j < 7) (he : encN x' = (encN x).set j v) (hgd : GoodN w0 w x' n') :
    RefRep w0 (w.setCell ⟨g, i * 7 + j, none⟩ v) rb g cap (xs.set i x') { d with nodes := d.nodes.set i n' } ∧ Fr w0.heap.size tsR w (w.setCell ⟨g, i * 7 + j, none⟩ v) := by
  obtain ⟨cur, r1, r2, r3, r4, r5, r6⟩ := h.own.at
  have hl := h.len
  have hi : i < xs.length := (List.getElem?_eq_some_iff.1 hx).1
  have hfr : Fr w0.heap.size tsR w (w.setCell ⟨g, i * 7 + j, none⟩ v) := (Fr.refl _ _ _).setCell v r1 r2 (by simp [tyo, tsR])
  have hne : rb ≠ g := fun e => by
    have := h.hd
    rw [e, r2] at this
    injection this with this
    injection this with _ this _
    revert this; decide
  refine ⟨⟨h.lo, ?_, ?_, ?_, ?_⟩, hfr⟩
  · rw [heap_setCell_other _ _ _ _ hne, h.hd]
    simp
  · have hlen : (xs.set i x').length = d.nodes.length := by rw [List.length_set]; exact hl
    have hfl : ∀ l : List RN, (l.flatMap encN).length = l.length * 7 := fun l => by
      induction l with
      | nil => rfl
      | cons a r ih => rw [List.flatMap_cons, List.length_append, ih]; simp [encN]; omega
    simp only [List.length_set]
    refine Own.of_at (by rw [hfl, hlen]) (h.own.2.trans (hfr.below h.own.2.size)) ⟨_, r1, heap_setCell_same w g (i * 7 + j) cur _ v r2, r3, r4, by simpa using r5, ?_⟩
    rw [Array.toList_setIfInBounds, List.take_set, r6]
    have h1 : xs = xs.take i ++ x :: xs.drop (i + 1) := by
      have : xs[i] = x := by rw [List.getElem?_eq_getElem hi] at hx; exact Option.some.inj hx
      rw [← this, ← List.drop_eq_getElem_cons hi, List.take_append_drop]
    have h2 : xs.set i x' = xs.take i ++ x' :: xs.drop (i + 1) := List.set_eq_take_append_cons_drop .. |>.trans (by rw [if_pos hi])
    rw [h2]
    conv => lhs; rw [h1]
    rw [List.flatMap_append, List.flatMap_append, List.flatMap_cons, List.flatMap_cons, List.set_append_right _ _ (by rw [hfl, List.length_take]; omega), hfl, List.length_take, Nat.min_eq_left (by omega),
      show i * 7 + j - i * 7 = j by omega, List.set_append_left _ _ (by simp [encN]; omega), ← he]
  · simp [hl]
  · intro k y hk
    rw [List.getElem?_set] at hk
    rw [List.getD_eq_getElem?_getD, List.getElem?_set]
    split
    · next e =>
      rw [if_pos e, if_pos hi] at hk
      cases hk
      rw [if_pos (by omega)]
      exact hgd.fr hfr tsR_A
    · next e =>
      rw [if_neg e] at hk
      rw [← List.getD_eq_getElem?_getD]
      exact (h.good k y hk).fr hfr tsR_A
end
end Go.Proofs.YtacobpmmpdadpaaGreat
set_option linter.unusedVariables false
set_option linter.unusedSimpArgs false
namespace Go.Proofs.YtacobpmmpdadpaaGreat
open Go.RowKit
section
variable {w0 w : World} {rb g cap : Nat} {xs : List RN} {d : Doc}
theorem at_r (R : RefRep w0 w rb g cap xs d) (id : Int) :
    Calls Tryz.prog 63 #[.pointer (some ⟨rb, 0, none⟩), .int .i64 id] w fun e w' => e = .returned (.int .i64 (d.posI id)) ∧ w = w' := by
  obtain ⟨n, hn⟩ : ∃ n, n = d.nodes.length := ⟨_, rfl⟩
  have hp := R.p0
  have hcap := R.caps
  rw [← hn] at hp hcap
  have hm : n ≤ 9223372036854775807 := by omega
  have HN := Lib.hid hn; clear hn hcap
  have HR := Lib.hid R; clear R
  go_enter Tryz.func63, Tryz.ntmps63
  go_wp2
  go_loopw [11] (fun i wr => ∃ k : Nat, k ≤ n ∧ i = .int .i64 k ∧ wr = w ∧ Hid (∀ j, j < k → (d.nodes.getD j nd0).id ≠ id)) (fun i _ => n - (intOf i).toNat)
  case atStart => exact ⟨0, Nat.zero_le _, rfl, rfl, fun j hj => absurd hj (by omega)⟩
  case round =>
    obtain ⟨k, hk, rfl, rfl, ht⟩ := hrel
    by_cases hlt : k < n
    · have h1 : k < d.nodes.length := by rw [← HN.out]; exact hlt
      obtain ⟨x, _, _, g1, _⟩ := HR.out.node h1
      by_cases e : (d.nodes.getD k nd0).id = id
      · have hf := Doc.pos_at h1 e ht.out
        have HF := Lib.hid hf
        clear h1 hf ht
        generalize (d.nodes.getD k nd0).id = x at *
        subst e
        go_wp2
        go_ret
        exact ⟨ret_int HF.out.symm, rfl⟩
      · have hn : Hid (∀ j, j < k + 1 → (d.nodes.getD j nd0).id ≠ id) := fun j hj => by
          rcases Nat.lt_or_ge j k with e' | e'
          · exact ht.out j e'
          · rw [show j = k by omega]; exact e
        clear h1 ht
        generalize (d.nodes.getD k nd0).id = x at *
        go_wp2
        go_roundw
        case rel => exact ⟨k + 1, by omega, by go_num, trivial, hn⟩
        case measure => simp [intOf]; omega
    · have hk' : k = n := by omega
      have hf : d.posI id = -1 := Doc.pos_none (Doc.pos_end fun j hj => ht.out j (by rw [hk', HN.out]; exact hj))
      have HF := Lib.hid hf
      clear hf hk' ht
      go_wp2
      go_ret
      exact ⟨ret_int HF.out.symm, rfl⟩
open Classical in
noncomputable def noneI (d : Doc) (id : Int) : Int := if id = 0 then 14 else if ¬ d.has id then 13 else 0
theorem posI_lt {d : Doc} {id : Int} : d.posI id < 0 ↔ ¬ d.has id := by
  constructor
  · intro h hh
    obtain ⟨i, _, h1, _⟩ := Doc.pos_has hh
    omega
  · intro h; rw [Doc.pos_none h]; omega
theorem none_r (R : RefRep w0 w rb g cap xs d) (id : Int) :
    Calls Tryz.prog 62 #[.pointer (some ⟨rb, 0, none⟩), .int .i64 id] w fun e w' => e = .returned (.int .i64 (noneI d id)) ∧ w = w' := by
  have HA := Lib.hid (at_r R id)
  have hl := @posI_lt d id
  have hv : noneI d id = if id = 0 then 14 else if d.posI id < 0 then 13 else 0 := by
    unfold noneI
    by_cases h : d.has id <;> simp [hl, h]
  rw [hv]
  clear R hl hv
  generalize d.posI id = p at *
  by_cases h0 : id = 0
  · subst h0
    rw [if_pos rfl]
    go_enter Tryz.func62, Tryz.ntmps62
    go_wp2
    go_ret
    exact ⟨rfl, rfl⟩
  · rw [if_neg h0]
    by_cases h1 : p < 0
    · rw [if_pos h1]
      go_enter Tryz.func62, Tryz.ntmps62
      go_wp2_with (go_at_call 63; refine HA.out.mono ?_; rintro e w' ⟨rfl, rfl⟩)
      go_ret
      exact ⟨rfl, rfl⟩
    · rw [if_neg h1]
      go_enter Tryz.func62, Tryz.ntmps62
      go_wp2_with (go_at_call 63; refine HA.out.mono ?_; rintro e w' ⟨rfl, rfl⟩)
      go_ret
      exact ⟨rfl, rfl⟩
theorem upOf_pos {d : Doc} {x : Int} {n : Nd} (h : d.get x = some n) : d.upOf x = n.up := by unfold Doc.upOf; rw [h]; rfl
theorem kidsOf_pos {d : Doc} {x : Int} {n : Nd} (h : d.get x = some n) : d.kidsOf x = n.kids := by unfold Doc.kidsOf; rw [h]; rfl
def climbM (rk : Int → Nat) (x : Int) : Nat := if x < 0 then 0 else rk x + 1
theorem under_r (R : RefRep w0 w rb g cap xs d) (hw : d.WF) (x y : Int) (hx : x = -1 ∨ d.has x) (hy : 0 ≤ y) :
    Calls Tryz.prog 64 #[.pointer (some ⟨rb, 0, none⟩), .int .i64 x, .int .i64 y] w fun e w' => e = .returned (.bool (d.under x y)) ∧ Grow w w' := by
  obtain ⟨rk, hrk⟩ := hw.rank
  obtain ⟨u, hu⟩ : ∃ u, u = d.under x y := ⟨_, rfl⟩
  rw [← hu]
  have HU := Lib.hid hu; clear hu
  have hx0 : Hid (x = -1 ∨ d.has x) := hx
  clear hx
  have HR := Lib.hid R; clear R
  have HW := Lib.hid hw; clear hw
  have HRK := Lib.hid hrk; clear hrk
  go_enter Tryz.func64, Tryz.ntmps64
  go_wp2
  go_loopw [1] (fun t wr => ∃ x' : Int, t = .int .i64 x' ∧ Hid (x' = -1 ∨ d.has x') ∧ Hid (d.under x y = d.under x' y) ∧ Grow w wr) (fun t _ => climbM rk (intOf t))
  case atStart => exact ⟨x, rfl, hx0, rfl, Below.refl _ _⟩
  case round =>
    obtain ⟨x', rfl, hx', hua, hg⟩ := hrel
    have HG := Lib.hid hg
    by_cases h0 : 0 ≤ x'
    · have hh : d.has x' := by rcases hx'.out with h | h; · omega
                               · exact h
      by_cases e : x' = y
      · have : u = true := by rw [HU.out, hua.out, Doc.under_iff, e]; exact Doc.Anc.refl _
        subst this
        subst e
        clear hua hx' hh hg
        go_wp2
        go_ret
        exact ⟨rfl, HG.out⟩
      · obtain ⟨i, hi, hpos, hid, hget⟩ := Doc.pos_has hh
        have hup := upOf_pos hget
        have hun : Hid (d.under x y = d.under (d.upOf x') y) := by
          show _ = _
          rw [hua.out, Bool.eq_iff_iff, Doc.under_iff, Doc.under_iff]
          exact ⟨fun h => (Doc.anc_cases h).resolve_left e, Doc.Anc.step⟩
        have hux : Hid (d.upOf x' = -1 ∨ d.has (d.upOf x')) := HW.out.up x' hh
        have hms : climbM rk (d.upOf x') < climbM rk x' := by
          unfold climbM
          rw [if_neg (show ¬ x' < 0 by omega)]
          split
          · omega
          · next h => have := HRK.out x' hh (by omega); omega
        have HMS := Lib.hid hms
        have R1 := HR.out.grow hg
        obtain ⟨xx, _, _, g0, g1, _⟩ := R1.node hi
        have hp := R1.p0
        have hcap := R1.caps
        have HA := fun m => at_r (R1.grow (Grow.drewN wr m)) x'
        rw [hpos] at HA
        rw [← hup] at g1
        obtain ⟨n, hn⟩ : ∃ n, n = d.nodes.length := ⟨_, rfl⟩
        rw [← hn] at hp hcap hi
        clear hn hms hup hget hid hpos hh hua hx' R1 g0 hg
        generalize d.upOf x' = up at *
        go_wp2
        go_quiet ((go_at_call 63; exact quiet1_same (HA _)))
        go_wp2
        go_roundw
        case rel => exact ⟨up, rfl, hux, hun, grow_drewN HG.out _⟩
        case measure => exact HMS.out
    · have e1 : x' = -1 := by rcases hx'.out with h | h; · exact h
                              · exact absurd (HW.out.nn h) (by omega)
      have : u = false := by
        rw [HU.out, hua.out, e1, Bool.eq_false_iff, ne_eq, Doc.under_iff]
        intro h
        have := Doc.anc_neg HW.out h
        omega
      subst this
      clear hua hx' e1 hg
      go_wp2
      go_ret
      exact ⟨rfl, HG.out⟩
end
/-! ### in and out -/
def encI (x : Int) : List Value := [.int .i64 x]
def cellsI (l : List Int) : List Value := l.flatMap encI
theorem cellsI_snoc (l : List Int) (a : Int) : cellsI (l ++ [a]) = cellsI l ++ [.int .i64 a] := by simp [cellsI, encI]
theorem infoInt : (Tryz.prog.info? 3).map (fun i => (i.zero, i.size, i.bytes)) = some (some (.int .i64 0), 1, 8) := by kernel_rfl
def NewI (w w' : World) (v : Value) (l : List Int) : Prop := RdV EInt 1 w' (New w w' 3) v l
theorem Own.newI {w0 w : World} {v : Value} {n : Nat} {l : List Int} {cs : List Value} (h : Own w0 w 3 1 v n cs) (hc : cs = cellsI l) (hn : n = l.length) : NewI w0 w v l :=
  h.rdv EInt l encI (fun x _ => rfl) (fun _ => rfl) hc hn
def RetI (w : World) (l : List Int) (e : Ending) (w' : World) : Prop := ∃ v, e = .returned v ∧ NewI w w' v l ∧ Grow w w'
theorem outL_snoc (l : List Int) (k : Nat) (hk : k < l.length) (y : Int) : outL (l.take (k + 1)) y = if l.getD k 0 = y then outL (l.take k) y else outL (l.take k) y ++ [l.getD k 0] := by
  rw [take_snoc l 0 hk]
  unfold outL
  rw [List.filter_append]
  generalize l.getD k 0 = a
  by_cases e : a = y <;> simp [e]
theorem out_r (l : List Int) (y : Int) (w : World) (ok : Nat → Prop) (A : Option Addr) (c : Nat) (hl : Rd EInt 1 w ok A l) (hlen : l.length ≤ 1000000) :
    Calls Tryz.prog 67 #[.slice A l.length c, .int .i64 y] w (RetI w (outL l y)) := by
  obtain ⟨n, hn⟩ : ∃ n, n = l.length := ⟨_, rfl⟩
  rw [← hn]
  have hm : n ≤ 1000000 := hn ▸ hlen
  have HN := Lib.hid hn; clear hn hlen
  have HL := Lib.hid hl; clear hl
  go_enter Tryz.func67, Tryz.ntmps67
  go_wp2
  go_loopw [5, 9] (fun t i wr => ∃ (k q : Nat) (cs : List Value), k ≤ n ∧ q ≤ k ∧ i = .int .i64 k ∧ Hid (q = (outL (l.take k) y).length) ∧ Hid (cs = cellsI (outL (l.take k) y)) ∧ Own w wr 3 1 t q cs) (fun _ i _ => n - (intOf i).toNat)
  case atStart => exact ⟨0, 0, [], Nat.zero_le _, Nat.le_refl _, rfl, rfl, rfl, Own.nil _ _ (Below.refl _ _)⟩
  case round =>
    obtain ⟨k, q, cs, hk, hq, rfl, hql, hcs, ho⟩ := hrel
    have HO := Lib.hid ho
    by_cases hlt : k < n
    · have h1 : k < l.length := by rw [← HN.out]; exact hlt
      obtain ⟨b, o, rfl, _, g1⟩ := HL.out.int_at h1
      replace g1 := Grow.cell ho.grow g1
      have hsn := outL_snoc l k h1 y
      generalize l.getD k 0 = x at *
      by_cases e : x = y
      · rw [if_pos e] at hsn
        have hql2 : Hid (q = (outL (l.take (k + 1)) y).length) := by show _ = _; rw [hsn]; exact hql.out
        have hcs2 : Hid (cs = cellsI (outL (l.take (k + 1)) y)) := by show _ = _; rw [hsn]; exact hcs.out
        clear hsn h1 hql hcs ho
        subst e
        go_wp2
        go_roundw
        case rel => exact ⟨k + 1, q, cs, by omega, by omega, by go_num, hql2, hcs2, HO.out⟩
        case measure => simp [intOf]; omega
      · rw [if_neg e] at hsn
        have hql2 : Hid (q + 1 = (outL (l.take (k + 1)) y).length) := by show _ = _; rw [hsn, hql.out]; simp
        have hcs2 : Hid (cs ++ [.int .i64 x] = cellsI (outL (l.take (k + 1)) y)) := by show _ = _; rw [hsn, hcs.out, cellsI_snoc]
        clear hsn h1 hql hcs ho
        go_wp2_with (at_builtin; go_must (refine wpl_app (w0 := w) rfl _ _ _ 3 _ 1 8 rfl Tryz.underlying33 infoInt rfl ?z1 ?z2 _ q cs [.int .i64 x] rfl rfl ?hg rfl ?z3 ?ho ?hl ?_); (case hg => simp); (case z1 => decide); (case z2 => decide); (case z3 => simp [Value.oneCell']); (case ho => exact HO.out); (case hl => omega); clear HO; intro v1 w1 ho1 _; have HO1 := Lib.hid ho1; clear ho1)
        go_roundw
        case rel => exact ⟨k + 1, q + 1, _, by omega, by omega, by go_num, hql2, hcs2, HO1.out⟩
        case measure => simp [intOf]; omega
    · have hk' : k = n := by omega
      have hl2 : l.take k = l := by rw [hk', HN.out, List.take_length]
      rw [hl2] at hql hcs
      obtain ⟨A', c', rfl⟩ := ho.form
      have hfin : RetI w (outL l y) (.returned (.slice A' q c')) wr := ⟨_, rfl, ho.newI hcs.out hql.out, ho.grow⟩
      have HF := Lib.hid hfin
      clear hfin ho HO hk' hl2 hql hcs
      go_wp2
      go_ret
      exact HF.out
/-- What has been put out behind k places. -/
def inK (l : List Int) (y b : Int) : List Int := l.flatMap fun a => if a = b then [y, a] else [a]
theorem inK_snoc (l : List Int) (k : Nat) (hk : k < l.length) (y b : Int) : inK (l.take (k + 1)) y b = if l.getD k 0 = b then inK (l.take k) y b ++ [y] ++ [l.getD k 0] else inK (l.take k) y b ++ [l.getD k 0] := by
  rw [take_snoc l 0 hk]
  unfold inK
  rw [List.flatMap_append]
  generalize l.getD k 0 = a
  by_cases e : a = b <;> simp [e]
theorem in_r (l : List Int) (y b : Int) (w : World) (ok : Nat → Prop) (A : Option Addr) (c : Nat) (hl : Rd EInt 1 w ok A l) (hlen : l.length ≤ 1000000) :
    Calls Tryz.prog 66 #[.slice A l.length c, .int .i64 y, .int .i64 b] w (RetI w (inL l y b)) := by
  obtain ⟨n, hn⟩ : ∃ n, n = l.length := ⟨_, rfl⟩
  rw [← hn]
  have hm : n ≤ 1000000 := hn ▸ hlen
  have HN := Lib.hid hn; clear hn hlen
  have HL := Lib.hid hl; clear hl
  go_enter Tryz.func66, Tryz.ntmps66
  go_wp2
  go_loopw [7, 11] (fun t i wr => ∃ (k q : Nat) (cs : List Value), k ≤ n ∧ q ≤ 2 * k ∧ i = .int .i64 k ∧ Hid (q = (inK (l.take k) y b).length) ∧ Hid (cs = cellsI (inK (l.take k) y b)) ∧ Own w wr 3 1 t q cs) (fun _ i _ => n - (intOf i).toNat)
  case atStart => exact ⟨0, 0, [], Nat.zero_le _, Nat.le_refl _, rfl, rfl, rfl, Own.nil _ _ (Below.refl _ _)⟩
  case round =>
    obtain ⟨k, q, cs, hk, hq, rfl, hql, hcs, ho⟩ := hrel
    have HO := Lib.hid ho
    by_cases hlt : k < n
    · have h1 : k < l.length := by rw [← HN.out]; exact hlt
      obtain ⟨bb, o, rfl, _, g1⟩ := HL.out.int_at h1
      have G1 := Lib.hid g1
      replace g1 := Grow.cell ho.grow g1
      have hsn := inK_snoc l k h1 y b
      generalize l.getD k 0 = x at *
      by_cases e : x = b
      · rw [if_pos e] at hsn
        have hql2 : Hid (q + 1 + 1 = (inK (l.take (k + 1)) y b).length) := by show _ = _; rw [hsn, hql.out]; simp
        have hcs2 : Hid (cs ++ [.int .i64 y] ++ [.int .i64 x] = cellsI (inK (l.take (k + 1)) y b)) := by show _ = _; rw [hsn, hcs.out, cellsI_snoc, cellsI_snoc]
        clear hsn h1 hql hcs ho
        subst e
        have tok : Hid True := trivial
        go_wp2_with first
          | (at_builtin; have := tok.out; go_must (refine wpl_app (w0 := w) rfl _ _ _ 3 _ 1 8 rfl Tryz.underlying33 infoInt rfl ?z1 ?z2 _ q cs [.int .i64 y] rfl rfl ?hg rfl ?z3 ?ho ?hl ?_); (case hg => simp); (case z1 => decide); (case z2 => decide); (case z3 => simp [Value.oneCell']); (case ho => exact HO.out); (case hl => omega); clear this tok HO; intro v1 w1 ho1 _; have g2 := Grow.cell ho1.grow G1.out; have HO1 := Lib.hid ho1; clear ho1)
          | (at_builtin; go_must (refine wpl_app (w0 := w) rfl _ _ _ 3 _ 1 8 rfl Tryz.underlying33 infoInt rfl ?z1 ?z2 _ (q + 1) (cs ++ [.int .i64 y]) [.int .i64 x] rfl rfl ?hg rfl ?z3 ?ho ?hl ?_); (case hg => simp); (case z1 => decide); (case z2 => decide); (case z3 => simp [Value.oneCell']); (case ho => exact HO1.out); (case hl => omega); intro v2 w2 ho2 _; have HO2 := Lib.hid ho2; clear ho2)
        go_roundw
        case rel => exact ⟨k + 1, q + 1 + 1, _, by omega, by omega, by go_num, hql2, hcs2, HO2.out⟩
        case measure => simp [intOf]; omega
      · rw [if_neg e] at hsn
        have hql2 : Hid (q + 1 = (inK (l.take (k + 1)) y b).length) := by show _ = _; rw [hsn, hql.out]; simp
        have hcs2 : Hid (cs ++ [.int .i64 x] = cellsI (inK (l.take (k + 1)) y b)) := by show _ = _; rw [hsn, hcs.out, cellsI_snoc]
        clear hsn h1 hql hcs ho
        go_wp2_with (at_builtin; go_must (refine wpl_app (w0 := w) rfl _ _ _ 3 _ 1 8 rfl Tryz.underlying33 infoInt rfl ?z1 ?z2 _ q cs [.int .i64 x] rfl rfl ?hg rfl ?z3 ?ho ?hl ?_); (case hg => simp); (case z1 => decide); (case z2 => decide); (case z3 => simp [Value.oneCell']); (case ho => exact HO.out); (case hl => omega); clear HO; intro v1 w1 ho1 _; have HO1 := Lib.hid ho1; clear ho1)
        go_roundw
        case rel => exact ⟨k + 1, q + 1, _, by omega, by omega, by go_num, hql2, hcs2, HO1.out⟩
        case measure => simp [intOf]; omega
    · have hk' : k = n := by omega
      have hl2 : l.take k = l := by rw [hk', HN.out, List.take_length]
      rw [hl2] at hql hcs
      by_cases e : b = 0
      · have hql2 : Hid (q + 1 = (inL l y b).length) := by show _ = _; rw [hql.out]; simp [inL, inK, e]
        have hcs2 : Hid (cs ++ [.int .i64 y] = cellsI (inL l y b)) := by show _ = _; rw [hcs.out]; simp [inL, inK, e, cellsI, encI]
        clear ho hk' hl2 hql hcs
        subst e
        go_wp2_with (at_builtin; go_must (refine wpl_app (w0 := w) rfl _ _ _ 3 _ 1 8 rfl Tryz.underlying33 infoInt rfl ?z1 ?z2 _ q cs [.int .i64 y] rfl rfl ?hg rfl ?z3 ?ho ?hl ?_); (case hg => simp); (case z1 => decide); (case z2 => decide); (case z3 => simp [Value.oneCell']); (case ho => exact HO.out); (case hl => omega); clear HO; intro v1 w1 ho1 _; have HO1 := Lib.hid ho1; clear ho1)
        go_ret
        exact ⟨v1, rfl, HO1.out.newI hcs2.out hql2.out, HO1.out.grow⟩
      · have hql2 : Hid (q = (inL l y b).length) := by show _ = _; rw [hql.out]; simp [inL, inK, e]
        have hcs2 : Hid (cs = cellsI (inL l y b)) := by show _ = _; rw [hcs.out]; simp [inL, inK, e]
        obtain ⟨A', c', rfl⟩ := ho.form
        clear ho hk' hl2 hql hcs
        go_wp2
        go_ret
        exact ⟨_, rfl, HO.out.newI hcs2.out hql2.out, HO.out.grow⟩
end Go.Proofs.YtacobpmmpdadpaaGreat
set_option linter.unusedVariables false
set_option linter.unusedSimpArgs false
namespace Go.Proofs.YtacobpmmpdadpaaGreat
open Go.RowKit
def RAt (w0 w : World) (rb : Nat) (d : Doc) : Prop := ∃ g cap xs, RefRep w0 w rb g cap xs d
/-- What a call of the reference leaves. -/
def RStep (w0 w : World) (rb : Nat) (d' : Doc) (v : Value) (e : Ending) (w' : World) : Prop := e = .returned v ∧ RAt w0 w' rb d' ∧ Fr w0.heap.size tsR w w'
theorem RAt.fr {w0 w w' : World} {rb : Nat} {d : Doc} {ts : List Nat} (h : RAt w0 w rb d) (hf : Fr w0.heap.size ts w w') (ht : ∀ t, t ∈ ts → t ∈ tsD) : RAt w0 w' rb d := by
  obtain ⟨g, cap, xs, h⟩ := h
  exact ⟨g, cap, xs, h.fr hf ht⟩
theorem RAt.grow {w0 w w' : World} {rb : Nat} {d : Doc} (h : RAt w0 w rb d) (hf : Grow w w') : RAt w0 w' rb d := by
  obtain ⟨g, cap, xs, h⟩ := h
  exact ⟨g, cap, xs, h.grow hf⟩
theorem Fr.of_grow {base : Nat} {ts : List Nat} {w w' : World} (h : Grow w w') : Fr base ts w w' := Fr.of_below base ts h
/-- What is new is none of what may be written. -/
theorem New.imm {w0 w w' : World} {e b : Nat} (h : New w w' e b) (he : e ∉ tsA) : Imm w0.heap.size tsA w' b := by
  obtain ⟨_, c, hc⟩ := h
  exact ⟨(Array.getElem?_eq_some_iff.1 hc).1, .inr ⟨_, hc, he⟩⟩
section
variable {w0 w : World} {rb g cap : Nat} {xs : List RN} {d : Doc}
/-- One cell of a node that is there is written. -/
theorem RefRep.setMod (R : RefRep w0 w rb g cap xs d) (hs : (d.nodes.map (·.id)).Pairwise (· < ·)) {id : Int} {i j : Nat} (hi : i < d.nodes.length) (hid : (d.nodes.getD i nd0).id = id) (f : Nd → Nd) (v : Value) (hj : j < 7)
    (hx : ∀ x, xs[i]? = some x → GoodN w0 w x (d.nodes.getD i nd0) → ∃ x', encN x' = (encN x).set j v ∧ GoodN w0 w x' (f (d.nodes.getD i nd0))) : RAt w0 (w.setCell ⟨g, i * 7 + j, none⟩ v) rb (d.mod id f) ∧ Fr w0.heap.size tsR w (w.setCell ⟨g, i * 7 + j, none⟩ v) := by
  obtain ⟨x, h1, h2, _⟩ := R.node hi
  obtain ⟨x', h3, h4⟩ := hx x h1 h2
  obtain ⟨h5, h6⟩ := R.set h1 hj h3 h4
  rw [Doc.mod_set hs hi hid]
  exact ⟨⟨g, cap, _, h5⟩, h6⟩
theorem RefRep.frozen (R : RefRep w0 w rb g cap xs d) (j : Nat) : w.frozen? ⟨g, j, none⟩ = false := by
  obtain ⟨cur, _, r2, _⟩ := R.own.at
  simp [World.frozen?, r2]
theorem kids_r (R : RefRep w0 w rb g cap xs d) (hs : (d.nodes.map (·.id)).Pairwise (· < ·)) (id : Int) (hh : d.has id) (A : Option Addr) (m c : Nat) (K : List Int) (hK : RdV EInt 1 w (Imm w0.heap.size tsA w) (.slice A m c) K) :
    Calls Tryz.prog 65 #[.pointer (some ⟨rb, 0, none⟩), .int .i64 id, .slice A m c] w (RStep w0 w rb (d.mod id fun n => { n with kids := K }) (.tuple #[])) := by
  obtain ⟨i, hi, hpos, hid, hget⟩ := Doc.pos_has hh
  have hfin : ∀ W W', Grow w W → Grow (W.setCell ⟨g, i * 7 + 2, none⟩ (.slice A m c)) W' → RStep w0 w rb (d.mod id fun n => { n with kids := K }) (.tuple #[]) (.returned (.tuple #[])) W' := fun W W' hW hW' => by
    have R1 := R.grow hW
    obtain ⟨h1, h2⟩ := R1.setMod hs (j := 2) hi hid (fun n => { n with kids := K }) (.slice A m c) (by omega) fun x _ hx =>
      ⟨{ x with kv := .slice A m c }, rfl, ⟨hx.id, hx.up, hx.tag, hx.key, hx.text, hK.fr (Fr.of_grow (ts := []) hW) (fun t ht => by cases ht), hx.attrs⟩⟩
    exact ⟨rfl, h1.grow hW', ((Fr.of_grow hW).trans h2).trans (Fr.of_grow hW')⟩
  have hp := fun W (hW : Grow w W) => (R.grow hW).p0
  have hcap := R.caps
  have hfz := fun W (hW : Grow w W) => (R.grow hW).frozen (i * 7 + 2)
  have hcell : ∀ W, Grow w W → ∃ u, W.cell? ⟨g, i * 7 + 2, none⟩ = some u := fun W hW => by
    obtain ⟨x, _, _, _, _, g2, _⟩ := (R.grow hW).node hi
    exact ⟨_, g2⟩
  have HA := fun W (hW : Grow w W) => at_r (R.grow hW) id
  rw [hpos] at HA
  generalize RStep w0 w rb (d.mod id fun n => { n with kids := K }) (.tuple #[]) = post at *
  obtain ⟨n, hn⟩ : ∃ n, n = d.nodes.length := ⟨_, rfl⟩
  rw [← hn] at hp hcap hi
  have HF := Lib.hid hfin
  have H1 := Lib.hid hp
  have H2 := Lib.hid hfz
  have H3 := Lib.hid hcell
  have H4 := Lib.hid HA
  clear HA hfin hp hfz hcell hn hget hid hpos hh hs R hK
  have p1 := H1.out w (Below.refl _ _)
  have p2 := H1.out w.drew (grow_drew (Below.refl _ _))
  have f1 := H2.out w (Below.refl _ _)
  obtain ⟨u, c1⟩ := H3.out w (Below.refl _ _)
  go_enter Tryz.func65, Tryz.ntmps65
  go_region_with (go_at_call 63; refine (H4.out _ (by repeat (first | exact Below.refl _ _ | apply grow_drew))).mono ?_; rintro e w1 ⟨rfl, rfl⟩)
  all_goals go_wp2
  all_goals go_end0
  all_goals exact HF.out w _ (Below.refl _ _) (by repeat (first | exact Below.refl _ _ | apply grow_drew))
theorem mod_congr {d : Doc} {x : Int} {f f' : Nd → Nd} (h : ∀ n ∈ d.nodes, n.id = x → f n = f' n) : d.mod x f = d.mod x f' := by
  unfold Doc.mod
  congr 1
  refine List.map_congr_left fun n hn => ?_
  split
  · next e => exact h n hn e
  · rfl
theorem kids_mem (hs : (d.nodes.map (·.id)).Pairwise (· < ·)) {n : Nd} (hn : n ∈ d.nodes) : d.kidsOf n.id = n.kids := kidsOf_pos (Doc.get_of_mem hs hn)
theorem sorted_mod {d : Doc} (hs : (d.nodes.map (·.id)).Pairwise (· < ·)) {x : Int} {f : Nd → Nd} (hf : ∀ n, (f n).id = n.id) : ((d.mod x f).nodes.map (·.id)).Pairwise (· < ·) := by rw [Doc.ids_mod hf]; exact hs
theorem has_of_mod {d : Doc} {x m : Int} {f : Nd → Nd} (h : d.has m) (hf : ∀ n, (f n).id = n.id) : (d.mod x f).has m := (Doc.has_mod hf m).2 h
/-- What a look at a node needs. -/
theorem RefRep.rd (R : RefRep w0 w rb g cap xs d) {id : Int} (hh : d.has id) : ∃ (i : Nat) (x : RN), i < d.nodes.length ∧ d.nodes.length ≤ cap ∧ cap ≤ 9223372036854775807 ∧
    w.cell? ⟨rb, 0, none⟩ = some (.slice (some ⟨g, 0, none⟩) d.nodes.length cap) ∧ w.cell? ⟨g, i * 7 + 1, none⟩ = some (.int .i64 (d.upOf id)) ∧ w.cell? ⟨g, i * 7 + 2, none⟩ = some x.kv ∧ w.cell? ⟨g, i * 7 + 6, none⟩ = some x.av ∧
    Hid (RdV EInt 1 w (Imm w0.heap.size tsA w) x.kv (d.kidsOf id)) ∧ Hid (RdV EAt 2 w (Imm w0.heap.size tsA w) x.av (d.attrsOf id)) ∧
    Hid (∀ W, Grow w W → Calls Tryz.prog 63 #[.pointer (some ⟨rb, 0, none⟩), .int .i64 id] W fun e w' => e = .returned (.int .i64 (i : Int)) ∧ W = w') := by
  obtain ⟨i, hi, hpos, hid, hget⟩ := Doc.pos_has hh
  obtain ⟨x, h1, h2, g0, g1, g2, g3, g4, g5, g6⟩ := R.node hi
  obtain ⟨c1, c2, _⟩ := R.caps
  refine ⟨i, x, hi, c1, c2, R.p0, by rw [g1, upOf_pos hget], g2, g6, by rw [kidsOf_pos hget]; exact h2.kids, ?_, fun W hW => ?_⟩
  · have : d.attrsOf id = (d.nodes.getD i nd0).attrs := by unfold Doc.attrsOf; rw [hget]; rfl
    rw [this]; exact h2.attrs
  · rw [← hpos]; exact at_r (R.grow hW) id
/-- What a store into a node needs. -/
theorem RefRep.wr (R : RefRep w0 w rb g cap xs d) (hs : (d.nodes.map (·.id)).Pairwise (· < ·)) {id : Int} (hh : d.has id) (j : Nat) (hj : j < 7) (f : Nd → Nd) (v : Value)
    (hx : ∀ x n, GoodN w0 w x n → ∃ x', encN x' = (encN x).set j v ∧ GoodN w0 w x' (f n)) : ∃ i : Nat, i < d.nodes.length ∧ d.nodes.length ≤ cap ∧ cap ≤ 9223372036854775807 ∧
    w.cell? ⟨rb, 0, none⟩ = some (.slice (some ⟨g, 0, none⟩) d.nodes.length cap) ∧ w.frozen? ⟨g, i * 7 + j, none⟩ = false ∧ (∃ u, w.cell? ⟨g, i * 7 + j, none⟩ = some u) ∧
    Hid (∀ W, Grow w W → Calls Tryz.prog 63 #[.pointer (some ⟨rb, 0, none⟩), .int .i64 id] W fun e w' => e = .returned (.int .i64 (i : Int)) ∧ W = w') ∧
    Hid (∀ W', Grow (w.setCell ⟨g, i * 7 + j, none⟩ v) W' → RAt w0 W' rb (d.mod id f) ∧ Fr w0.heap.size tsR w W') := by
  obtain ⟨i, hi, hpos, hid, hget⟩ := Doc.pos_has hh
  obtain ⟨x, h1, h2, _⟩ := R.node hi
  obtain ⟨c1, c2, _⟩ := R.caps
  refine ⟨i, hi, c1, c2, R.p0, R.frozen _, ?_, fun W hW => ?_, fun W' hW' => ?_⟩
  · exact ⟨_, R.own.cellAt ((flat_at encN 7 (fun _ => rfl) xs i j _ h1 hj).trans (List.getElem?_eq_getElem (show j < (encN x).length from hj)))⟩
  · rw [← hpos]; exact at_r (R.grow hW) id
  · obtain ⟨h3, h4⟩ := R.setMod hs hi hid f v hj fun y hy hgy => hx y _ hgy
    exact ⟨h3.grow hW', h4.trans (Fr.of_grow hW')⟩
theorem RefRep.at_none (R : RefRep w0 w rb g cap xs d) {id : Int} (hh : ¬ d.has id) : Calls Tryz.prog 63 #[.pointer (some ⟨rb, 0, none⟩), .int .i64 id] w fun e w' => e = .returned (.int .i64 (-1)) ∧ w = w' := by
  have := at_r R id
  rwa [Doc.pos_none hh] at this
theorem RefRep.none_is (R : RefRep w0 w rb g cap xs d) {id v : Int} (h : noneI d id = v) : Calls Tryz.prog 62 #[.pointer (some ⟨rb, 0, none⟩), .int .i64 id] w fun e w' => e = .returned (.int .i64 v) ∧ w = w' := by
  subst h; exact none_r R id
theorem RStep.same (R : RefRep w0 w rb g cap xs d) (c : Int) {W : World} (hW : Grow w W) : RStep w0 w rb d (.int .i64 c) (.returned (.int .i64 c)) W := ⟨rfl, ⟨g, cap, xs, R.grow hW⟩, Fr.of_grow hW⟩
/-- The six refusals and the two ways of Insert. -/
theorem insert_none (R : RefRep w0 w rb g cap xs d) (id up before c : Int) (h : noneI d id = c) (h0 : c ≠ 0) :
    Calls Tryz.prog 36 #[.pointer (some ⟨rb, 0, none⟩), .int .i64 id, .int .i64 up, .int .i64 before] w (RStep w0 w rb d (.int .i64 c)) := by
  have HN := Lib.hid (R.none_is h)
  have HF := Lib.hid (RStep.same R c (Below.refl _ _))
  clear R h
  have hb : (c == 0) = false := by simpa using h0
  go_enter Tryz.func36, Tryz.ntmps36
  go_wp2_with (go_at_call 62; refine HN.out.mono ?_; rintro e w' ⟨rfl, rfl⟩)
  go_ret
  exact HF.out
theorem insert_far (R : RefRep w0 w rb g cap xs d) (id up before : Int) (h : noneI d id = 0) (hu : ¬ d.has up ∨ ¬ d.has before) :
    Calls Tryz.prog 36 #[.pointer (some ⟨rb, 0, none⟩), .int .i64 id, .int .i64 up, .int .i64 before] w (RStep w0 w rb d (.int .i64 13)) := by
  have HN := Lib.hid (R.none_is h)
  have HF := Lib.hid (RStep.same R 13 (Below.refl _ _))
  by_cases h1 : d.has up
  · have h2 := hu.resolve_left (fun h => h h1)
    have HB := Lib.hid (R.at_none h2)
    obtain ⟨i, x, _, _, _, _, _, _, _, _, _, HU⟩ := R.rd h1
    clear R h hu h1 h2
    go_enter Tryz.func36, Tryz.ntmps36
    go_wp2_with first
      | (go_at_call 62; refine HN.out.mono ?_; rintro e w' ⟨rfl, rfl⟩)
      | (go_at_call_of 63 up; refine (HU.out _ ?hg).mono ?_; (case hg => exact Below.refl _ _); rintro e w' ⟨rfl, rfl⟩)
      | (go_at_call_of 63 before; refine HB.out.mono ?_; rintro e w' ⟨rfl, rfl⟩)
    go_ret
    exact HF.out
  · have HU := Lib.hid (R.at_none h1)
    clear R h hu h1
    go_enter Tryz.func36, Tryz.ntmps36
    go_wp2_with first
      | (go_at_call 62; refine HN.out.mono ?_; rintro e w' ⟨rfl, rfl⟩)
      | (go_at_call_of 63 up; refine HU.out.mono ?_; rintro e w' ⟨rfl, rfl⟩)
    go_ret
    exact HF.out
theorem insert_tied (R : RefRep w0 w rb g cap xs d) (id up before : Int) (h : noneI d id = 0) (h1 : d.has id) (h2 : d.has up) (h3 : d.has before) (hu : 0 ≤ d.upOf id) :
    Calls Tryz.prog 36 #[.pointer (some ⟨rb, 0, none⟩), .int .i64 id, .int .i64 up, .int .i64 before] w (RStep w0 w rb d (.int .i64 15)) := by
  have HN := Lib.hid (R.none_is h)
  have HF := Lib.hid fun W hW => RStep.same R 15 (W := W) hW
  obtain ⟨iu, x1, _, _, _, _, _, _, _, _, _, HU⟩ := R.rd h2
  obtain ⟨ib, x2, _, _, _, _, _, _, _, _, _, HB⟩ := R.rd h3
  obtain ⟨i, x, hi, hn, hc, hp, hcu, _, _, _, _, HI⟩ := R.rd h1
  clear R h h1 h2 h3
  generalize d.nodes.length = n at *
  generalize d.upOf id = u at *
  go_enter Tryz.func36, Tryz.ntmps36
  go_wp2_with first
    | (go_at_call 62; refine HN.out.mono ?_; rintro e w' ⟨rfl, rfl⟩)
    | (go_at_call_of 63 up; refine (HU.out _ ?hg).mono ?_; (case hg => exact Below.refl _ _); rintro e w' ⟨rfl, rfl⟩)
    | (go_at_call_of 63 before; refine (HB.out _ ?hg).mono ?_; (case hg => exact Below.refl _ _); rintro e w' ⟨rfl, rfl⟩)
  go_quiet ((go_at_call 63; exact quiet1_same (HI.out _ (Grow.drewN _ _))))
  go_wp2
  go_ret
  exact HF.out _ (Grow.drewN _ _)
theorem kids_len {d : Doc} (hw : d.WF) (x : Int) : (d.kidsOf x).length ≤ d.nodes.length := by
  by_cases h : d.has x
  · have := Doc.nodup_le (d.kidsOf x) (d.nodes.map (·.id)) (hw.nodup x) fun a ha => by
      obtain ⟨n, hn, e⟩ := ((hw.kid x a h).1 ha).1
      exact List.mem_map.2 ⟨n, hn, e⟩
    simpa using this
  · rw [Doc.kidsOf_none h]; simp
theorem insert_below (R : RefRep w0 w rb g cap xs d) (hw : d.WF) (id up before : Int) (h : noneI d id = 0) (h1 : d.has id) (h2 : d.has up) (h3 : d.has before) (hu : d.upOf id = -1) (ha : d.under up id = true) :
    Calls Tryz.prog 36 #[.pointer (some ⟨rb, 0, none⟩), .int .i64 id, .int .i64 up, .int .i64 before] w (RStep w0 w rb d (.int .i64 17)) := by
  have HN := Lib.hid (R.none_is h)
  have HR := Lib.hid R
  have HUD := Lib.hid fun W (hW : Grow w W) => under_r (R.grow hW) hw up id (.inr h2) (hw.nn h1)
  obtain ⟨iu, x1, _, _, _, _, _, _, _, _, _, HU⟩ := R.rd h2
  obtain ⟨ib, x2, _, _, _, _, _, _, _, _, _, HB⟩ := R.rd h3
  obtain ⟨i, x, hi, hn, hc, hp, hcu, _, _, _, _, HI⟩ := R.rd h1
  have H1 := Lib.hid h1
  have H2 := Lib.hid h2
  have H3 := Lib.hid h3
  rw [hu] at hcu
  have HF := Lib.hid fun W hW => RStep.same R 17 (W := W) hW
  rw [ha] at HUD
  clear R h h1 h2 h3 ha hw hu
  generalize d.nodes.length = n at *
  go_enter Tryz.func36, Tryz.ntmps36
  go_wp2_with first
    | (go_at_call 62; refine HN.out.mono ?_; rintro e w' ⟨rfl, rfl⟩)
    | (go_at_call_of 63 up; refine (HU.out _ ?hg).mono ?_; (case hg => exact Below.refl _ _); rintro e w' ⟨rfl, rfl⟩)
    | (go_at_call_of 63 before; refine (HB.out _ ?hg).mono ?_; (case hg => exact Below.refl _ _); rintro e w' ⟨rfl, rfl⟩)
  go_quiet ((go_at_call 63; exact quiet1_same (HI.out _ (Grow.drewN _ _))))
  go_wp2_with (go_at_call 64; refine (HUD.out _ ?hg).mono ?_; (case hg => exact Grow.drewN _ _); rintro e w2 ⟨rfl, hg2⟩; have HG2 := Lib.hid (Grow.trans' (Grow.drewN _ _) hg2); clear hg2)
  go_ret
  exact HF.out _ HG2.out
theorem insert_place (R : RefRep w0 w rb g cap xs d) (hw : d.WF) (id up before : Int) (h : noneI d id = 0) (h1 : d.has id) (h2 : d.has up) (h3 : d.has before) (hu : d.upOf id = -1) (ha : d.under up id = false) (hb : before ≠ 0) (hbu : d.upOf before ≠ up) :
    Calls Tryz.prog 36 #[.pointer (some ⟨rb, 0, none⟩), .int .i64 id, .int .i64 up, .int .i64 before] w (RStep w0 w rb d (.int .i64 18)) := by
  have HN := Lib.hid (R.none_is h)
  have HR := Lib.hid R
  have HUD := Lib.hid fun W (hW : Grow w W) => under_r (R.grow hW) hw up id (.inr h2) (hw.nn h1)
  obtain ⟨iu, x1, _, _, _, _, _, _, _, _, _, HU⟩ := R.rd h2
  obtain ⟨ib, x2, _, _, _, _, _, _, _, _, _, HB⟩ := R.rd h3
  obtain ⟨i, x, hi, hn, hc, hp, hcu, _, _, _, _, HI⟩ := R.rd h1
  have H1 := Lib.hid h1
  have H2 := Lib.hid h2
  have H3 := Lib.hid h3
  rw [hu] at hcu
  have HF := Lib.hid fun W hW => RStep.same R 18 (W := W) hW
  rw [ha] at HUD
  clear R h h1 h2 h3 ha hw hu
  have hb0 : (before != 0) = true := by simpa using hb
  have hb1 : (d.upOf before != up) = true := by simpa using hbu
  have hb2 : (before == 0) = false := by simpa using hb
  go_enter Tryz.func36, Tryz.ntmps36
  go_wp2_with first
    | (go_at_call 62; refine HN.out.mono ?_; rintro e w' ⟨rfl, rfl⟩)
    | (go_at_call_of 63 up; refine (HU.out _ ?hg).mono ?_; (case hg => exact Below.refl _ _); rintro e w' ⟨rfl, rfl⟩)
    | (go_at_call_of 63 before; refine (HB.out _ ?hg).mono ?_; (case hg => exact Below.refl _ _); rintro e w' ⟨rfl, rfl⟩)
  go_quiet ((go_at_call 63; exact quiet1_same (HI.out _ (Grow.drewN _ _))))
  go_wp2_with (go_at_call 64; refine (HUD.out _ ?hg).mono ?_; (case hg => exact Grow.drewN _ _); rintro e w2 ⟨rfl, hg2⟩; have HG2 := Lib.hid (Grow.trans' (Grow.drewN _ _) hg2); clear hg2; obtain ⟨ib2, x2, hi2, hn2, hc2, hp2, hcb2, _, _, _, _, HB2⟩ := (HR.out.grow HG2.out).rd H3.out)
  go_quiet ((go_at_call 63; exact quiet1_same (HB2.out _ (Grow.drewN _ _))))
  go_wp2
  go_ret
  exact HF.out _ (grow_drewN HG2.out _)
theorem kids_new (R : RefRep w0 w rb g cap xs d) (hs : (d.nodes.map (·.id)).Pairwise (· < ·)) (id : Int) (hh : d.has id) (K : List Int) (W0 W : World) (A : Option Addr) (m c : Nat) (hg : Grow w W) (hK : RdV EInt 1 W (New W0 W 3) (.slice A m c) K) :
    Calls Tryz.prog 65 #[.pointer (some ⟨rb, 0, none⟩), .int .i64 id, .slice A m c] W (RStep w0 W rb (d.mod id fun n => { n with kids := K }) (.tuple #[])) :=
  kids_r (R.grow hg) hs id hh A m c K (hK.imp (fun _ _ _ h => h) (fun b hb => hb.imm (by decide)) (fun b _ _ => rfl))
end
end Go.Proofs.YtacobpmmpdadpaaGreat
set_option linter.unusedVariables false
set_option linter.unusedSimpArgs false
namespace Go.Proofs.YtacobpmmpdadpaaGreat
open Go.RowKit
theorem nilRdV {α : Type} (E : α → List Value → Prop) (sz : Nat) (w : World) (ok : Nat → Prop) : RdV E sz w ok (.slice none 0 0) ([] : List α) := RdV.nil _ _ _ _ _ _
theorem new_r (w0 w : World) (hg : Grow w0 w) (next : Int) :
    Calls Tryz.prog 13 #[.int .i64 next] w fun e w' => ∃ rb, e = .returned (.pointer (some ⟨rb, 0, none⟩)) ∧ RAt w0 w' rb (Doc.new next) ∧ Grow w w' := by
  have hfin : ∀ w', w' = (w.alloc (.cells #[.int .i64 0, .int .i64 (-1), .slice none 0 0, .string ⟨#[]⟩, .string ⟨#[]⟩, .string ⟨#[]⟩, .slice none 0 0] 69)).alloc (.cells #[.slice (some ⟨w.heap.size, 0, none⟩) 1 1, .int .i64 next] 72) → RAt w0 w' (w.heap.size + 1) (Doc.new next) ∧ Grow w w' := by
    rintro w' rfl
    have g1 : Grow w ((w.alloc (.cells #[.int .i64 0, .int .i64 (-1), .slice none 0 0, .string ⟨#[]⟩, .string ⟨#[]⟩, .string ⟨#[]⟩, .slice none 0 0] 69)).alloc (.cells #[.slice (some ⟨w.heap.size, 0, none⟩) 1 1, .int .i64 next] 72)) := grow_alloc (grow_alloc (Below.refl _ _) _) _
    refine ⟨⟨w.heap.size, 1, [⟨0, -1, .slice none 0 0, ⟨#[]⟩, ⟨#[]⟩, ⟨#[]⟩, .slice none 0 0⟩], ?_⟩, g1⟩
    refine ⟨Nat.le_trans hg.size (Nat.le_succ _), ?_, ?_, rfl, ?_⟩
    · have := heap_alloc_new (w.alloc (.cells #[.int .i64 0, .int .i64 (-1), .slice none 0 0, .string ⟨#[]⟩, .string ⟨#[]⟩, .string ⟨#[]⟩, .slice none 0 0] 69)) (.cells #[.slice (some ⟨w.heap.size, 0, none⟩) 1 1, .int .i64 next] 72)
      simpa [Doc.new] using this
    · refine Own.of_at rfl (Grow.trans' hg g1) ⟨#[.int .i64 0, .int .i64 (-1), .slice none 0 0, .string ⟨#[]⟩, .string ⟨#[]⟩, .string ⟨#[]⟩, .slice none 0 0], hg.size, ?_, Nat.le_refl _, by simp [maxLen], rfl, rfl⟩
      have h1 := heap_alloc_new w (.cells #[.int .i64 0, .int .i64 (-1), .slice none 0 0, .string ⟨#[]⟩, .string ⟨#[]⟩, .string ⟨#[]⟩, .slice none 0 0] 69)
      have h2 : Grow (w.alloc (.cells #[.int .i64 0, .int .i64 (-1), .slice none 0 0, .string ⟨#[]⟩, .string ⟨#[]⟩, .string ⟨#[]⟩, .slice none 0 0] 69)) ((w.alloc (.cells #[.int .i64 0, .int .i64 (-1), .slice none 0 0, .string ⟨#[]⟩, .string ⟨#[]⟩, .string ⟨#[]⟩, .slice none 0 0] 69)).alloc (.cells #[.slice (some ⟨w.heap.size, 0, none⟩) 1 1, .int .i64 next] 72)) := grow_alloc (Below.refl _ _) _
      exact (h2.block _ (Array.getElem?_eq_some_iff.1 h1).1).trans h1
    · intro i x hx
      cases i with
      | zero => cases hx; exact ⟨rfl, rfl, rfl, rfl, rfl, nilRdV _ _ _ _, nilRdV _ _ _ _⟩
      | succ i => simp at hx
  have HF := Lib.hid hfin
  clear hfin hg
  go_enter Tryz.func13, Tryz.ntmps13
  go_wp2
  go_ret
  exact ⟨_, rfl, HF.out _ rfl⟩
theorem Fr.grownBy {base : Nat} {ts : List Nat} {W w1 : World} {g : Nat} {o : Obj} (h : W.grownBy w1 (some g)) (hg : base ≤ g) (ho : W.heap[g]? = some o) (ht : tyo o ∈ ts) : Fr base ts W w1 := by
  obtain ⟨h1, h2, h3, h4, h5⟩ := h
  refine ⟨h1, h2, h3, h4, fun b hb => h5 b hb.1 fun e => ?_⟩
  cases e
  rcases hb.2 with h | ⟨o', h6, h7⟩
  · omega
  · rw [ho] at h6; cases h6; exact h7 ht
section
variable {w0 w W w1 : World} {rb g cap : Nat} {xs : List RN} {d : Doc}
theorem RefRep.ne (R : RefRep w0 w rb g cap xs d) : rb ≠ g := fun e => by
  obtain ⟨cur, r1, r2, _⟩ := R.own.at
  have := R.hd
  rw [e, r2] at this
  injection this with this
  injection this with _ this _
  revert this; decide
theorem RefRep.app (R : RefRep w0 W rb g cap xs d) {v1 : Value} {x : RN} {n : Nd} (ho : Own w0 w1 69 7 v1 (d.nodes.length + 1) (xs.flatMap encN ++ encN x)) (hgr : W.grownBy w1 (some g)) (hx : GoodN w0 W x n) :
    ∃ g' cap', v1 = .slice (some ⟨g', 0, none⟩) (d.nodes.length + 1) cap' ∧ w1.heap[rb]? = some (.cells #[.slice (some ⟨g, 0, none⟩) d.nodes.length cap, .int .i64 d.next] 72 (0, 0)) ∧
      ∀ w2, Grow ((w1.setCell ⟨rb, 0, none⟩ v1).setCell ⟨rb, 1, none⟩ (.int .i64 (d.next + 1))) w2 → RefRep w0 w2 rb g' cap' (xs ++ [x]) (d.push n) ∧ Fr w0.heap.size tsR W w2 := by
  obtain ⟨cur, r1, r2, _⟩ := R.own.at
  have hrbl := (Array.getElem?_eq_some_iff.1 R.hd).1
  have hne := R.ne
  have hfr : Fr w0.heap.size tsR W w1 := Fr.grownBy hgr r1 r2 (by simp [tyo, tsR])
  have hrb : w1.heap[rb]? = some (.cells #[.slice (some ⟨g, 0, none⟩) d.nodes.length cap, .int .i64 d.next] 72 (0, 0)) :=
    (hgr.block rb hrbl (fun e => hne (by cases e; rfl))).trans R.hd
  obtain ⟨g', cap', cur', hv, q1, q2, q3, q4, q5, q6⟩ : ∃ g' cap' cur', v1 = .slice (some ⟨g', 0, none⟩) (d.nodes.length + 1) cap' ∧ w0.heap.size ≤ g' ∧ w1.heap[g']? = some (.cells cur' 69 (0, 0)) ∧ d.nodes.length + 1 ≤ cap' ∧ cap' ≤ maxLen ∧ cur'.size = cap' * 7 ∧ cur'.toList.take ((d.nodes.length + 1) * 7) = xs.flatMap encN ++ encN x := by
    rcases ho.1.2 with ⟨_, h0⟩ | ⟨g', cap', cur', e, r⟩
    · omega
    · exact ⟨g', cap', cur', e, r⟩
  refine ⟨g', cap', hv, hrb, fun w2 hw2 => ?_⟩
  have hne' : g' ≠ rb := fun e => by
    rw [e, hrb] at q2
    injection q2 with q2
    injection q2 with _ q2 _
    revert q2; decide
  have f1 : Fr w0.heap.size tsR W (w1.setCell ⟨rb, 0, none⟩ v1) := hfr.setCell v1 R.lo hrb (by simp [tyo, tsR])
  have hrb1 := heap_setCell_same w1 rb 0 _ _ v1 hrb
  have f2 : Fr w0.heap.size tsR W ((w1.setCell ⟨rb, 0, none⟩ v1).setCell ⟨rb, 1, none⟩ (.int .i64 (d.next + 1))) := f1.setCell _ R.lo hrb1 (by simp [tyo, tsR])
  have f3 := f2.trans (Fr.of_grow (base := w0.heap.size) (ts := tsR) hw2)
  have hrb2 := heap_setCell_same (w1.setCell ⟨rb, 0, none⟩ v1) rb 1 _ _ (.int .i64 (d.next + 1)) hrb1
  have hg2 : ((w1.setCell ⟨rb, 0, none⟩ v1).setCell ⟨rb, 1, none⟩ (.int .i64 (d.next + 1))).heap[g']? = some (.cells cur' 69 (0, 0)) := by
    rw [heap_setCell_other _ _ _ _ hne', heap_setCell_other _ _ _ _ hne']; exact q2
  have hlen : (d.push n).nodes.length = d.nodes.length + 1 := by simp [Doc.push]
  refine ⟨⟨R.lo, ?_, ?_, ?_, ?_⟩, f3⟩
  · rw [hw2.block _ (Array.getElem?_eq_some_iff.1 hrb2).1, hrb2, hlen, hv]
    rfl
  · rw [hlen]
    have e1 : (xs ++ [x]).flatMap encN = xs.flatMap encN ++ encN x := by simp
    rw [e1]
    exact Own.of_at ho.1.1 (Below.trans R.own.2 (f3.below R.own.2.size)) ⟨cur', q1, (hw2.block _ (Array.getElem?_eq_some_iff.1 hg2).1).trans hg2, q3, q4, q5, q6⟩
  · simp [hlen, R.len]
  · intro i y hy
    rw [List.getElem?_append] at hy
    have hl := R.len
    split at hy
    · next hi =>
      have : (d.push n).nodes.getD i nd0 = d.nodes.getD i nd0 := by
        simp [Doc.push, List.getD_eq_getElem?_getD, List.getElem?_append_left (show i < d.nodes.length by omega)]
      rw [this]
      exact (R.good i y hy).fr f3 tsR_A
    · next hi =>
      have hi2 : i - xs.length = 0 := by
        rcases Nat.eq_zero_or_pos (i - xs.length) with h | h
        · exact h
        · rw [List.getElem?_eq_none (by simp only [List.length_singleton]; omega)] at hy; cases hy
      rw [hi2] at hy
      cases hy
      have hi3 : i = d.nodes.length := by omega
      have : (d.push n).nodes.getD i nd0 = n := by
        subst hi3
        simp [Doc.push, List.getD_eq_getElem?_getD]
      rw [this]
      exact hx.fr f3 tsR_A
end
end Go.Proofs.YtacobpmmpdadpaaGreat
set_option linter.unusedVariables false
set_option linter.unusedSimpArgs false
namespace Go.Proofs.YtacobpmmpdadpaaGreat
open Go.RowKit
/-! ### two lists side by side -/
def Pw {α β : Type} (G : α → β → Prop) : List α → List β → Prop
  | [], [] => True
  | a :: l, b :: r => G a b ∧ Pw G l r
  | _, _ => False
theorem Pw.of_at {α β : Type} {G : α → β → Prop} (z : β) : ∀ (l : List α) (r : List β), l.length = r.length → (∀ (i : Nat) (a : α), l[i]? = some a → G a (r.getD i z)) → Pw G l r
  | [], [], _, _ => trivial
  | [], _ :: _, h, _ => by simp at h
  | _ :: _, [], h, _ => by simp at h
  | a :: l, b :: r, h, hg => ⟨hg 0 a rfl, Pw.of_at z l r (by simpa using h) fun i x hx => by simpa using hg (i + 1) x (by simpa using hx)⟩
theorem Pw.at {α β : Type} {G : α → β → Prop} (z : β) : ∀ {l : List α} {r : List β}, Pw G l r → l.length = r.length ∧ ∀ (i : Nat) (a : α), l[i]? = some a → G a (r.getD i z)
  | [], [], _ => ⟨rfl, fun i a h => by simp at h⟩
  | [], _ :: _, h => h.elim
  | _ :: _, [], h => h.elim
  | a :: l, b :: r, h => by
    obtain ⟨h1, h2⟩ := Pw.at z h.2
    refine ⟨by simp [h1], fun i x hx => ?_⟩
    cases i with
    | zero => cases hx; exact h.1
    | succ i => simpa using h2 i x (by simpa using hx)
theorem Pw.filter {α β : Type} {G : α → β → Prop} {p : α → Bool} {q : β → Bool} : ∀ {l : List α} {r : List β}, Pw G l r → (∀ a b, G a b → p a = q b) → Pw G (l.filter p) (r.filter q)
  | [], [], _, _ => trivial
  | [], _ :: _, h, _ => h.elim
  | _ :: _, [], h, _ => h.elim
  | a :: l, b :: r, h, hpq => by
    have h2 := Pw.filter h.2 hpq
    have e := hpq a b h.1
    cases hb : q b with
    | true => rw [List.filter_cons_of_pos (by rw [e, hb]), List.filter_cons_of_pos hb]; exact ⟨h.1, h2⟩
    | false => rw [List.filter_cons_of_neg (by rw [e, hb]; decide), List.filter_cons_of_neg (by rw [hb]; decide)]; exact h2
theorem Pw.imp {α β : Type} {G G' : α → β → Prop} : ∀ {l : List α} {r : List β}, Pw G l r → (∀ a b, G a b → G' a b) → Pw G' l r
  | [], [], _, _ => trivial
  | [], _ :: _, h, _ => h.elim
  | _ :: _, [], h, _ => h.elim
  | a :: l, b :: r, h, hg => ⟨hg _ _ h.1, Pw.imp h.2 hg⟩

/-! ### what Remove does, plainly -/
/-- The kids' list of the node above is turned. -/
def cutD (d : Doc) (id : Int) : Doc := if d.upOf id = -1 then d else d.mod (d.upOf id) fun n => { n with kids := outL (d.kidsOf (d.upOf id)) id }
theorem cutD_has {d : Doc} {id m : Int} : (cutD d id).has m ↔ d.has m := by
  unfold cutD
  split
  · exact Iff.rfl
  · exact Doc.has_mod (f := fun n => { n with kids := outL (d.kidsOf (d.upOf id)) id }) (fun _ => rfl) m
theorem cutD_up {d : Doc} {id m : Int} : (cutD d id).upOf m = d.upOf m := by
  unfold cutD
  split
  · rfl
  · exact Doc.own_up (f := fun n => { n with kids := outL (d.kidsOf (d.upOf id)) id }) (fun _ => rfl) (fun _ => rfl) m
theorem cutD_len {d : Doc} {id : Int} : (cutD d id).nodes.length = d.nodes.length := by
  unfold cutD
  split
  · rfl
  · simp [Doc.mod]
theorem remove_nodes {d : Doc} (hw : d.WF) {id : Int} (h1 : d.has id) :
    ((if d.upOf id = -1 then d else d.detach id).prune id).nodes = (cutD d id).nodes.filter fun n => !d.under n.id id := by
  unfold cutD
  by_cases h : d.upOf id = -1
  · rw [if_pos h, if_pos h]; rfl
  · rw [if_neg h, if_neg h]
    have hun : ∀ m, (d.detach id).under m id = d.under m id := fun m => by
      rw [Bool.eq_iff_iff, Doc.under_iff, Doc.under_iff]
      exact ⟨Doc.detach_anc hw, Doc.anc_detach hw⟩
    have hk : (d.mod (d.upOf id) fun n => { n with kids := outL n.kids id }) = d.mod (d.upOf id) fun n => { n with kids := outL (d.kidsOf (d.upOf id)) id } := mod_congr fun n hn e => by rw [← e, kids_mem hw.sorted hn]
    show ((d.detach id).nodes.filter fun n => !(d.detach id).under n.id id) = _
    simp only [hun]
    unfold Doc.detach
    rw [hk]
    generalize d.mod (d.upOf id) (fun n => { n with kids := outL (d.kidsOf (d.upOf id)) id }) = e
    unfold Doc.mod
    simp only
    induction e.nodes with
    | nil => rfl
    | cons a l ih =>
      rw [List.map_cons]
      by_cases ha : a.id = id
      · have hu : d.under id id = true := Doc.under_iff.2 (Doc.Anc.refl _)
        rw [if_pos ha, List.filter_cons_of_neg (by simp [ha, hu]), List.filter_cons_of_neg (by simp [ha, hu]), ih]
      · rw [if_neg ha]
        by_cases hu : d.under a.id id = true
        · rw [List.filter_cons_of_neg (by simp [hu]), List.filter_cons_of_neg (by simp [hu]), ih]
        · rw [List.filter_cons_of_pos (by simp [hu]), List.filter_cons_of_pos (by simp [hu]), ih]
theorem remove_pos {d : Doc} (hw : d.WF) {id : Int} (h0 : id ≠ 0) (h1 : d.has id) : 0 < ((cutD d id).nodes.filter fun n => !d.under n.id id).length := by
  obtain ⟨n, hn, e⟩ := (cutD_has (d := d) (id := id)).2 hw.has0
  refine List.length_pos_of_mem (List.mem_filter.2 ⟨hn, ?_⟩)
  rw [e]
  have : d.under 0 id = false := by
    rw [Bool.eq_false_iff, ne_eq, Doc.under_iff]
    intro h
    rcases Doc.anc_cases h with h | h
    · exact h0 h.symm
    · rw [hw.up0] at h
      have := Doc.anc_neg hw h
      have := hw.nn h1
      omega
  simp [this]
section
variable {w0 w : World} {rb g cap : Nat} {xs : List RN} {d : Doc}
theorem under_g {d e : Doc} (R : RefRep w0 w rb g cap xs e) (hw : d.WF) (hup : ∀ x, e.upOf x = d.upOf x) (hhas : ∀ x, d.has x → e.has x) (x y : Int) (hx : x = -1 ∨ d.has x) (hy : 0 ≤ y) :
    Calls Tryz.prog 64 #[.pointer (some ⟨rb, 0, none⟩), .int .i64 x, .int .i64 y] w fun e w' => e = .returned (.bool (d.under x y)) ∧ Grow w w' := by
  obtain ⟨rk, hrk⟩ := hw.rank
  obtain ⟨u, hu⟩ : ∃ u, u = d.under x y := ⟨_, rfl⟩
  rw [← hu]
  have HU := Lib.hid hu; clear hu
  have hx0 : Hid (x = -1 ∨ d.has x) := hx
  clear hx
  have HR := Lib.hid R; clear R
  have HUP := Lib.hid hup; clear hup
  have HHAS := Lib.hid hhas; clear hhas
  have HW := Lib.hid hw; clear hw
  have HRK := Lib.hid hrk; clear hrk
  go_enter Tryz.func64, Tryz.ntmps64
  go_wp2
  go_loopw [1] (fun t wr => ∃ x' : Int, t = .int .i64 x' ∧ Hid (x' = -1 ∨ d.has x') ∧ Hid (d.under x y = d.under x' y) ∧ Grow w wr) (fun t _ => climbM rk (intOf t))
  case atStart => exact ⟨x, rfl, hx0, rfl, Below.refl _ _⟩
  case round =>
    obtain ⟨x', rfl, hx', hua, hg⟩ := hrel
    have HG := Lib.hid hg
    by_cases h0 : 0 ≤ x'
    · have hh : d.has x' := by rcases hx'.out with h | h; · omega
                               · exact h
      by_cases ee : x' = y
      · have : u = true := by rw [HU.out, hua.out, Doc.under_iff, ee]; exact Doc.Anc.refl _
        subst this
        subst ee
        clear hua hx' hh hg
        go_wp2
        go_ret
        exact ⟨rfl, HG.out⟩
      · obtain ⟨i, hi, hpos, hid, hget⟩ := Doc.pos_has (HHAS.out _ hh)
        have hup : d.upOf x' = (e.nodes.getD i nd0).up := by rw [← HUP.out]; exact upOf_pos hget
        have hun : Hid (d.under x y = d.under (d.upOf x') y) := by
          show _ = _
          rw [hua.out, Bool.eq_iff_iff, Doc.under_iff, Doc.under_iff]
          exact ⟨fun h => (Doc.anc_cases h).resolve_left ee, Doc.Anc.step⟩
        have hux : Hid (d.upOf x' = -1 ∨ d.has (d.upOf x')) := HW.out.up x' hh
        have hms : climbM rk (d.upOf x') < climbM rk x' := by
          unfold climbM
          rw [if_neg (show ¬ x' < 0 by omega)]
          split
          · omega
          · next h => have := HRK.out x' hh (by omega); omega
        have HMS := Lib.hid hms
        have R1 := HR.out.grow hg
        obtain ⟨xx, _, _, g0, g1, _⟩ := R1.node hi
        have hp := R1.p0
        have hcap := R1.caps
        have HA := fun m => at_r (R1.grow (Grow.drewN wr m)) x'
        rw [hpos] at HA
        rw [← hup] at g1
        obtain ⟨n, hn⟩ : ∃ n, n = e.nodes.length := ⟨_, rfl⟩
        rw [← hn] at hp hcap hi
        clear hn hms hup hget hid hpos hh hua hx' R1 g0 hg
        generalize d.upOf x' = up at *
        go_wp2
        go_quiet ((go_at_call 63; exact quiet1_same (HA _)))
        go_wp2
        go_roundw
        case rel => exact ⟨up, rfl, hux, hun, grow_drewN HG.out _⟩
        case measure => exact HMS.out
    · have e1 : x' = -1 := by rcases hx'.out with h | h; · exact h
                              · exact absurd (HW.out.nn h) (by omega)
      have : u = false := by
        rw [HU.out, hua.out, e1, Bool.eq_false_iff, ne_eq, Doc.under_iff]
        intro h
        have := Doc.anc_neg HW.out h
        omega
      subst this
      clear hua hx' e1 hg
      go_wp2
      go_ret
      exact ⟨rfl, HG.out⟩

/-- The row that is left. -/
noncomputable def restN (d : Doc) (id : Int) (xs : List RN) (k : Nat) : List RN := (xs.take k).filter fun x => !d.under x.id id
theorem restN_succ {d : Doc} {id : Int} {xs : List RN} {k : Nat} {x : RN} (hx : xs[k]? = some x) : restN d id xs (k + 1) = if d.under x.id id = true then restN d id xs k else restN d id xs k ++ [x] := by
  obtain ⟨hk, rfl⟩ := List.getElem?_eq_some_iff.1 hx
  unfold restN
  rw [List.take_succ_eq_append_getElem hk, List.filter_append]
  cases h : d.under xs[k].id id <;> simp [h]
theorem RefRep.left {e d' : Doc} {id : Int} {q : Nat} {cs : List Value} {v : Value} {w' : World} (R : RefRep w0 w rb g cap xs e) (ho : Own w w' 69 7 v q cs) (hq : q = (restN d id xs e.nodes.length).length) (hc : cs = (restN d id xs e.nodes.length).flatMap encN) (h0 : 0 < q)
    (hd : d'.nodes = e.nodes.filter fun n => !d.under n.id id) (hn : d'.next = e.next) : ∀ w2, Grow (w'.setCell ⟨rb, 0, none⟩ v) w2 → RAt w0 w2 rb d' ∧ Fr w0.heap.size tsR w w2 := by
  intro w2 hw2
  have hR' := R.grow ho.2
  have hpw := Pw.of_at nd0 xs e.nodes R.len fun i x hx => R.good i x hx
  have hxs : restN d id xs e.nodes.length = xs.filter fun x => !d.under x.id id := by unfold restN; rw [← R.len, List.take_length]
  rw [hxs] at hq hc
  have hpf := Pw.filter (p := fun x : RN => !d.under x.id id) (q := fun n : Nd => !d.under n.id id) hpw fun a b hab => by rw [hab.id]
  rw [← hd] at hpf
  have hrb1 := heap_setCell_same w' rb 0 _ _ v hR'.hd
  have f1 : Fr w0.heap.size tsR w (w'.setCell ⟨rb, 0, none⟩ v) := (Fr.of_grow (ts := tsR) ho.2).setCell v R.lo hR'.hd (by simp [tyo, tsR])
  have f2 := f1.trans (Fr.of_grow (base := w0.heap.size) (ts := tsR) hw2)
  obtain ⟨h1, h2⟩ := Pw.at nd0 hpf
  rcases ho.1.2 with ⟨_, hz⟩ | ⟨g', cap', cur', hv, q1, q2, q3, q4, q5, q6⟩
  · omega
  have hne : g' ≠ rb := fun e => by
    have := (Array.getElem?_eq_some_iff.1 R.hd).1
    omega
  have hg2 : (w'.setCell ⟨rb, 0, none⟩ v).heap[g']? = some (.cells cur' 69 (0, 0)) := by rw [heap_setCell_other _ _ _ _ hne]; exact q2
  refine ⟨⟨g', cap', xs.filter fun x => !d.under x.id id, ⟨R.lo, ?_, ?_, h1, fun i x hx => (h2 i x hx).fr f2 tsR_A⟩⟩, f2⟩
  · rw [hw2.block _ (Array.getElem?_eq_some_iff.1 hrb1).1, hrb1, hn, ← h1, ← hq, hv]; rfl
  · rw [← h1, ← hq]
    exact Own.of_at (by rw [← hc]; exact ho.1.1) (Below.trans R.own.2 (f2.below R.own.2.size)) ⟨cur', Nat.le_trans R.own.2.size q1, (hw2.block _ (Array.getElem?_eq_some_iff.1 hg2).1).trans hg2, q3, q4, q5, by rw [q6, hc]⟩
theorem remove_none (R : RefRep w0 w rb g cap xs d) (id c : Int) (h : noneI d id = c) (h0 : c ≠ 0) :
    Calls Tryz.prog 38 #[.pointer (some ⟨rb, 0, none⟩), .int .i64 id] w (RStep w0 w rb d (.int .i64 c)) := by
  have HN := Lib.hid (R.none_is h)
  have HF := Lib.hid (RStep.same R c (Below.refl _ _))
  clear R h
  have hb : (c == 0) = false := by simpa using h0
  go_enter Tryz.func38, Tryz.ntmps38
  go_wp2_with (go_at_call 62; refine HN.out.mono ?_; rintro e w' ⟨rfl, rfl⟩)
  go_ret
  exact HF.out
theorem infoN2 : (Tryz.prog.info? 69).map (fun i => (i.zero, i.size, i.bytes)) = some (some (.agg #[.int .i64 0, .int .i64 0, .slice none 0 0, .string ⟨#[]⟩, .string ⟨#[]⟩, .string ⟨#[]⟩, .slice none 0 0]), 7, 112) := by kernel_rfl
set_option maxHeartbeats 2000000 in
theorem remove_loose (R : RefRep w0 w rb g cap xs d) (hw : d.WF) (hfew : d.nodes.length ≤ 1000000) (id : Int) (h0 : id ≠ 0) (h : noneI d id = 0) (h1 : d.has id) (hu : d.upOf id = -1) (d' : Doc)
    (hd : d'.nodes = (cutD d id).nodes.filter fun n => !d.under n.id id) (hnx : d'.next = d.next) : Calls Tryz.prog 38 #[.pointer (some ⟨rb, 0, none⟩), .int .i64 id] w (RStep w0 w rb d' (.int .i64 0)) := by
  have HN := Lib.hid (R.none_is h)
  have HW := Lib.hid hw
  have H1 := Lib.hid h1
  have HPOS := Lib.hid (remove_pos hw h0 h1)
  have hcut : cutD d id = d := by unfold cutD; rw [if_pos hu]
  rw [hcut] at HPOS hd
  obtain ⟨e, he⟩ : ∃ e, e = d := ⟨_, rfl⟩
  have HDN : Hid (d'.nodes = e.nodes.filter fun n => !d.under n.id id) := by rw [he]; exact hd
  have HNX : Hid (d'.next = e.next) := by rw [he]; exact hnx
  have HUP : Hid (∀ x, e.upOf x = d.upOf x) := by rw [he]; exact fun _ => rfl
  have HEH : Hid (∀ x, d.has x → e.has x) := by rw [he]; exact fun _ h => h
  have HHE : Hid (∀ x, e.has x → d.has x) := by rw [he]; exact fun _ h => h
  have HLEN : Hid (e.nodes.length ≤ 1000000) := by rw [he]; exact hfew
  replace HPOS : Hid (0 < (e.nodes.filter fun n => !d.under n.id id).length) := by rw [he]; exact HPOS.out
  have HRE : Hid (RefRep w0 w rb g cap xs e) := by rw [he]; exact R
  obtain ⟨i, x, hi, hn, hc, hp, hcu, _, _, _, _, HI⟩ := R.rd h1
  rw [hu] at hcu
  clear R h h1 hu hw hd hnx hcut he hfew
  generalize d.nodes.length = nn at *
  go_enter Tryz.func38, Tryz.ntmps38
  go_wp2_with (go_at_call 62; refine HN.out.mono ?_; rintro e w' ⟨rfl, rfl⟩)
  go_quiet ((go_at_call 63; exact quiet1_same (HI.out _ (Grow.drewN _ _))))
  obtain ⟨ys, hys⟩ : ∃ ys, ys = xs := ⟨_, rfl⟩
  have RS : RefRep w0 (w.drewN nq) rb g cap ys e := by rw [hys]; exact HRE.out.grow (Grow.drewN _ _)
  have HFW : Hid (Fr w0.heap.size tsR w (w.drewN nq)) := Fr.of_grow (Grow.drewN _ _)
  clear hys hp hcu hi hn hc
  generalize w.drewN nq = ws at *
  have HRS := Lib.hid RS
  have hps := RS.p0
  obtain ⟨n, hn⟩ : ∃ n, n = e.nodes.length := ⟨_, rfl⟩
  have hcs := RS.caps
  rw [← hn] at hps hcs
  have HN2 := Lib.hid hn
  have hfz0 : ∀ W, Grow ws W → W.frozen? ⟨rb, 0, none⟩ = false := fun W hW => by simp [World.frozen?, (RS.grow hW).hd]
  have HFZ := Lib.hid hfz0
  have hn6 : n ≤ 1000000 := by rw [hn]; exact HLEN.out
  clear hn RS hfz0
  go_wp2
  go_loopw [7, 47] (fun t i wr => ∃ (k q : Nat) (cs : List Value), k ≤ n ∧ q ≤ k ∧ i = .int .i64 k ∧ Hid (q = (restN d id ys k).length) ∧ Hid (cs = (restN d id ys k).flatMap encN) ∧ Own ws wr 69 7 t q cs) (fun _ i _ => n - (intOf i).toNat)
  case atStart => exact ⟨0, 0, [], Nat.zero_le _, Nat.le_refl _, rfl, rfl, rfl, Own.nil _ _ (Below.refl _ _)⟩
  case round =>
    obtain ⟨k, q, cs, hk, hq, rfl, hql, hcs', ho⟩ := hrel
    have HO := Lib.hid ho
    by_cases hlt : k < n
    · have hke : k < e.nodes.length := by rw [← HN2.out]; exact hlt
      have R1 := HRS.out.grow ho.grow
      have hp1 := R1.p0
      rw [← HN2.out] at hp1
      obtain ⟨x, hx, hgx, g0, g1, g2, g3, g4, g5, g6⟩ := R1.node hke
      rw [← hgx.id] at g0; rw [← hgx.up] at g1; rw [← hgx.tag] at g3; rw [← hgx.key] at g4; rw [← hgx.text] at g5
      have hhx : d.has x.id := HHE.out _ (by rw [hgx.id]; exact ⟨_, by rw [List.getD_eq_getElem?_getD, List.getElem?_eq_getElem hke]; exact List.getElem_mem hke, rfl⟩)
      have HUD := Lib.hid fun W (hW : Grow wr W) => under_g (R1.grow hW) HW.out HUP.out (fun y hy => HEH.out y hy) x.id id (.inr hhx) (HW.out.nn H1.out)
      have hsn := restN_succ (d := d) (id := id) hx
      obtain ⟨Ak, ck, ek, _, _⟩ := hgx.kids
      obtain ⟨Aa, ca, ea, _, _⟩ := hgx.attrs
      obtain ⟨xid, xup, xkv, xtag, xkey, xtext, xav⟩ := x
      simp only at ek ea g0 g1 g2 g3 g4 g5 g6 HUD hsn
      obtain ⟨lk, hlk⟩ : ∃ lk, lk = (e.nodes.getD k nd0).kids.length := ⟨_, rfl⟩
      obtain ⟨la, hla⟩ : ∃ la, la = (e.nodes.getD k nd0).attrs.length := ⟨_, rfl⟩
      rw [← hlk] at ek
      rw [← hla] at ea
      subst ek ea
      clear hlk hla
      cases hu : d.under xid id with
      | true =>
        rw [hu, if_pos rfl] at hsn
        rw [hu] at HUD
        have hql2 : Hid (q = (restN d id ys (k + 1)).length) := by show _ = _; rw [hsn]; exact hql.out
        have hcs2 : Hid (cs = (restN d id ys (k + 1)).flatMap encN) := by show _ = _; rw [hsn]; exact hcs'.out
        clear hsn hql hcs' ho R1 hgx hx hhx hu hke
        go_wp2_with (go_at_call 64; refine (HUD.out _ ?hg).mono ?_; (case hg => exact Below.refl _ _); rintro e' w2 ⟨rfl, hg2⟩; have HG2 := Lib.hid hg2; clear hg2)
        go_roundw
        case rel => exact ⟨k + 1, q, cs, by omega, by omega, by go_num, hql2, hcs2, HO.out.of_grow HG2.out⟩
        case measure => simp [intOf]; omega
      | false =>
        rw [hu, if_neg (by decide)] at hsn
        rw [hu] at HUD
        have hql2 : Hid (q + 1 = (restN d id ys (k + 1)).length) := by show _ = _; rw [hsn, hql.out]; simp
        have hcs2 : Hid (cs ++ [.int .i64 xid, .int .i64 xup, .slice Ak lk ck, .string xtag, .string xkey, .string xtext, .slice Aa la ca] = (restN d id ys (k + 1)).flatMap encN) := by show _ = _; rw [hsn, hcs'.out, List.flatMap_append]; rfl
        clear hsn hql hcs' ho R1 hgx hx hhx hu hke
        go_wp2_with first
          | (go_at_call 64; refine (HUD.out _ ?hg).mono ?_; (case hg => exact Below.refl _ _); rintro e' w2 ⟨rfl, hg2⟩; have HG2 := Lib.hid hg2; have k0 := Grow.cell hg2 g0; have k1 := Grow.cell hg2 g1; have k2 := Grow.cell hg2 g2; have k3 := Grow.cell hg2 g3; have k4 := Grow.cell hg2 g4; have k5 := Grow.cell hg2 g5; have k6 := Grow.cell hg2 g6; have kp := Grow.cell hg2 hp1; have HO2 := Lib.hid (HO.out.of_grow hg2); clear hg2)
          | (at_builtin; go_must (refine wpl_app (w0 := ws) rfl _ _ _ 69 _ 7 112 rfl Tryz.underlying70 infoN2 rfl ?z1 ?z2 _ q cs [.int .i64 xid, .int .i64 xup, .slice Ak lk ck, .string xtag, .string xkey, .string xtext, .slice Aa la ca] rfl rfl ?hg rfl ?z3 ?ho ?hl ?_); (case hg => simp); (case z1 => decide); (case z2 => decide); (case z3 => simp [Value.oneCell']); (case ho => exact HO2.out); (case hl => omega); clear HO2; intro v1 w1 ho1 _; have HO1 := Lib.hid ho1; clear ho1)
        go_roundw
        case rel => exact ⟨k + 1, q + 1, _, by omega, by omega, by go_num, hql2, hcs2, HO1.out⟩
        case measure => simp [intOf]; omega
    · have hk' : k = n := by omega
      have hqp : 0 < q := by
        rw [hql.out, hk', HN2.out]
        have hpw := Pw.filter (p := fun x : RN => !d.under x.id id) (q := fun n : Nd => !d.under n.id id) (Pw.of_at nd0 ys e.nodes HRS.out.len fun i x hx => HRS.out.good i x hx) fun a b hab => by rw [hab.id]
        have hl := (Pw.at nd0 hpw).1
        have : restN d id ys e.nodes.length = ys.filter fun x => !d.under x.id id := by unfold restN; rw [← HRS.out.len, List.take_length]
        rw [this, hl]
        exact HPOS.out
      have hfin := HRS.out.left (d := d) (d' := d') (id := id) ho (by rw [hql.out, hk', HN2.out]) (by rw [hcs'.out, hk', HN2.out]) hqp HDN.out HNX.out
      obtain ⟨A', c', rfl⟩ := ho.form
      have hp1 := (HRS.out.grow ho.grow).p0
      have hfz := HFZ.out _ ho.grow
      have HF := Lib.hid hfin
      clear hfin ho HO hk' hql hcs' hqp
      go_wp2
      go_ret
      exact ⟨rfl, (HF.out _ (Below.refl _ _)).1, HFW.out.trans (HF.out _ (Below.refl _ _)).2⟩
set_option maxHeartbeats 4000000 in
theorem remove_tied (R : RefRep w0 w rb g cap xs d) (hw : d.WF) (hfew : d.nodes.length ≤ 1000000) (id up : Int) (h0 : id ≠ 0) (h : noneI d id = 0) (h1 : d.has id) (hu : d.upOf id = up) (hup : d.has up) (d' : Doc)
    (hd : d'.nodes = (cutD d id).nodes.filter fun n => !d.under n.id id) (hnx : d'.next = d.next) : Calls Tryz.prog 38 #[.pointer (some ⟨rb, 0, none⟩), .int .i64 id] w (RStep w0 w rb d' (.int .i64 0)) := by
  have HN := Lib.hid (R.none_is h)
  have HW := Lib.hid hw
  have H1 := Lib.hid h1
  have hu0 : 0 ≤ up := hw.nn hup
  have hcut : cutD d id = d.mod up fun n => { n with kids := outL (d.kidsOf up) id } := by unfold cutD; rw [hu, if_neg (by omega)]
  obtain ⟨e, he⟩ : ∃ e, e = cutD d id := ⟨_, rfl⟩
  have HDN : Hid (d'.nodes = e.nodes.filter fun n => !d.under n.id id) := by rw [he]; exact hd
  have HNX : Hid (d'.next = e.next) := by rw [he, hcut]; exact hnx
  have HUP : Hid (∀ x, e.upOf x = d.upOf x) := by rw [he]; exact fun _ => cutD_up
  have HEH : Hid (∀ x, d.has x → e.has x) := by rw [he]; exact fun _ h => cutD_has.2 h
  have HHE : Hid (∀ x, e.has x → d.has x) := by rw [he]; exact fun _ h => cutD_has.1 h
  have HLEN : Hid (e.nodes.length ≤ 1000000) := by rw [he, cutD_len]; exact hfew
  have HPOS : Hid (0 < (e.nodes.filter fun n => !d.under n.id id).length) := by rw [he]; exact remove_pos hw h0 h1
  obtain ⟨i, x, hi, hn, hc, hp, hcu, _, _, _, _, HI⟩ := R.rd h1
  rw [hu] at hcu
  have HR := Lib.hid R
  have HUH := Lib.hid hup
  have hkl : (d.kidsOf up).length ≤ 1000000 := Nat.le_trans (kids_len hw up) hfew
  have HKL := Lib.hid hkl
  have HEM := Lib.hid (he.trans hcut)
  clear R h h1 hw hd hnx hcut he hkl hfew
  go_enter Tryz.func38, Tryz.ntmps38
  go_wp2_with (go_at_call 62; refine HN.out.mono ?_; rintro e w' ⟨rfl, rfl⟩)
  go_quiet ((go_at_call 63; exact quiet1_same (HI.out _ (Grow.drewN _ _))))
  go_wp2
  have hg3 : Grow w (w.drewN nq) := Grow.drewN w nq
  generalize w.drewN nq = w3 at *
  obtain ⟨iu3, x3, hi3, hn3, hc3, hp3, _, hk3, _, HK3, _, HU3⟩ := (HR.out.grow hg3).rd HUH.out
  obtain ⟨A3, c3, hkv3, _, hr3⟩ := HK3.out
  rw [hkv3] at hk3
  have hout := fun W (hW : Grow w3 W) => out_r (d.kidsOf up) id W (Imm w0.heap.size tsA w3) A3 c3 (hr3.imp (fun _ _ _ h => h) (fun _ h => h) fun b hb _ => hW.block b hb.1) HKL.out
  have hkd := fun W0 W A m c (hW : Grow w3 W) hK => kids_new (HR.out.grow hg3) HW.out.sorted up HUH.out (outL (d.kidsOf up) id) W0 W A m c hW hK
  have HOU := Lib.hid hout
  have HKD := Lib.hid hkd
  have HG3 := Lib.hid hg3
  clear hr3 hkv3 hout hkd hg3 HK3
  generalize (d.kidsOf up).length = kl at *
  generalize d.nodes.length = nn at *
  go_region_with first
    | (go_at_call 63; refine (HU3.out _ ?hg).mono ?_; (case hg => repeat (first | exact Below.refl _ _ | apply grow_drew)); rintro e w4 ⟨rfl, rfl⟩)
    | (go_at_call 67; refine (HOU.out _ ?hg).mono ?_; (case hg => repeat (first | exact Below.refl _ _ | apply grow_drew)); rintro e w5 ⟨v5, rfl, hv5, hg5⟩; obtain ⟨A5, c5, rfl, hl5, hr5⟩ := hv5; have HV5 := Lib.hid (show RdV EInt 1 w5 (New _ w5 3) _ _ from ⟨A5, c5, rfl, hl5, hr5⟩); have HG5 := Lib.hid (Grow.trans' (show Grow w3 _ by repeat (first | exact Below.refl _ _ | apply grow_drew)) hg5); clear hg5 hl5 hr5)
    | (go_at_call 65; refine (HKD.out _ _ _ _ _ HG5.out HV5.out).mono ?_; rintro e w6 ⟨rfl, hra, hf5⟩; have HF6 := Lib.hid hf5; have HR6 := Lib.hid hra; clear hf5 hra)
  all_goals (
    have HFW : Hid (Fr w0.heap.size tsR w w6) := (Fr.of_grow (Grow.trans' HG3.out HG5.out)).trans HF6.out
    have hra : RAt w0 w6 rb e := by rw [HEM.out]; exact HR6.out
    obtain ⟨g7, cap7, ys, RS⟩ := hra
    clear HF6 HR6 HV5 HKD HOU HU3 HI hp hcu hi hn hc hi3 hn3 hc3 hp3 hk3
    have HRS := Lib.hid RS
    have hps := RS.p0
    obtain ⟨n, hn⟩ : ∃ n, n = e.nodes.length := ⟨_, rfl⟩
    have hcs := RS.caps
    rw [← hn] at hps hcs
    have HN2 := Lib.hid hn
    have hfz0 : ∀ W, Grow w6 W → W.frozen? ⟨rb, 0, none⟩ = false := fun W hW => by simp [World.frozen?, (RS.grow hW).hd]
    have HFZ := Lib.hid hfz0
    have hn6 : n ≤ 1000000 := by rw [hn]; exact HLEN.out
    clear hn RS hfz0
    go_wp2
    go_loopw [7, 47] (fun t i wr => ∃ (k q : Nat) (cs : List Value), k ≤ n ∧ q ≤ k ∧ i = .int .i64 k ∧ Hid (q = (restN d id ys k).length) ∧ Hid (cs = (restN d id ys k).flatMap encN) ∧ Own w6 wr 69 7 t q cs) (fun _ i _ => n - (intOf i).toNat)
    case atStart => exact ⟨0, 0, [], Nat.zero_le _, Nat.le_refl _, rfl, rfl, rfl, Own.nil _ _ (Below.refl _ _)⟩
    case round =>
      obtain ⟨k, q, cs, hk, hq, rfl, hql, hcs', ho⟩ := hrel
      have HO := Lib.hid ho
      by_cases hlt : k < n
      · have hke : k < e.nodes.length := by rw [← HN2.out]; exact hlt
        have R1 := HRS.out.grow ho.grow
        have hp1 := R1.p0
        rw [← HN2.out] at hp1
        obtain ⟨x, hx, hgx, g0, g1, g2, g3, g4, g5, g6⟩ := R1.node hke
        rw [← hgx.id] at g0; rw [← hgx.up] at g1; rw [← hgx.tag] at g3; rw [← hgx.key] at g4; rw [← hgx.text] at g5
        have hhx : d.has x.id := HHE.out _ (by rw [hgx.id]; exact ⟨_, by rw [List.getD_eq_getElem?_getD, List.getElem?_eq_getElem hke]; exact List.getElem_mem hke, rfl⟩)
        have HUD := Lib.hid fun W (hW : Grow wr W) => under_g (R1.grow hW) HW.out HUP.out (fun y hy => HEH.out y hy) x.id id (.inr hhx) (HW.out.nn H1.out)
        have hsn := restN_succ (d := d) (id := id) hx
        obtain ⟨Ak, ck, ek, _, _⟩ := hgx.kids
        obtain ⟨Aa, ca, ea, _, _⟩ := hgx.attrs
        obtain ⟨xid, xup, xkv, xtag, xkey, xtext, xav⟩ := x
        simp only at ek ea g0 g1 g2 g3 g4 g5 g6 HUD hsn
        obtain ⟨lk, hlk⟩ : ∃ lk, lk = (e.nodes.getD k nd0).kids.length := ⟨_, rfl⟩
        obtain ⟨la, hla⟩ : ∃ la, la = (e.nodes.getD k nd0).attrs.length := ⟨_, rfl⟩
        rw [← hlk] at ek
        rw [← hla] at ea
        subst ek ea
        clear hlk hla
        cases hu : d.under xid id with
        | true =>
          rw [hu, if_pos rfl] at hsn
          rw [hu] at HUD
          have hql2 : Hid (q = (restN d id ys (k + 1)).length) := by show _ = _; rw [hsn]; exact hql.out
          have hcs2 : Hid (cs = (restN d id ys (k + 1)).flatMap encN) := by show _ = _; rw [hsn]; exact hcs'.out
          clear hsn hql hcs' ho R1 hgx hx hhx hu hke
          go_wp2_with (go_at_call 64; refine (HUD.out _ ?hg).mono ?_; (case hg => exact Below.refl _ _); rintro e' w2 ⟨rfl, hg2⟩; have HG2 := Lib.hid hg2; clear hg2)
          go_roundw
          case rel => exact ⟨k + 1, q, cs, by omega, by omega, by go_num, hql2, hcs2, HO.out.of_grow HG2.out⟩
          case measure => simp [intOf]; omega
        | false =>
          rw [hu, if_neg (by decide)] at hsn
          rw [hu] at HUD
          have hql2 : Hid (q + 1 = (restN d id ys (k + 1)).length) := by show _ = _; rw [hsn, hql.out]; simp
          have hcs2 : Hid (cs ++ [.int .i64 xid, .int .i64 xup, .slice Ak lk ck, .string xtag, .string xkey, .string xtext, .slice Aa la ca] = (restN d id ys (k + 1)).flatMap encN) := by show _ = _; rw [hsn, hcs'.out, List.flatMap_append]; rfl
          clear hsn hql hcs' ho R1 hgx hx hhx hu hke
          go_wp2_with first
            | (go_at_call 64; refine (HUD.out _ ?hg).mono ?_; (case hg => exact Below.refl _ _); rintro e' w2 ⟨rfl, hg2⟩; have HG2 := Lib.hid hg2; have k0 := Grow.cell hg2 g0; have k1 := Grow.cell hg2 g1; have k2 := Grow.cell hg2 g2; have k3 := Grow.cell hg2 g3; have k4 := Grow.cell hg2 g4; have k5 := Grow.cell hg2 g5; have k6 := Grow.cell hg2 g6; have kp := Grow.cell hg2 hp1; have HO2 := Lib.hid (HO.out.of_grow hg2); clear hg2)
            | (at_builtin; go_must (refine wpl_app (w0 := w6) rfl _ _ _ 69 _ 7 112 rfl Tryz.underlying70 infoN2 rfl ?z1 ?z2 _ q cs [.int .i64 xid, .int .i64 xup, .slice Ak lk ck, .string xtag, .string xkey, .string xtext, .slice Aa la ca] rfl rfl ?hg rfl ?z3 ?ho ?hl ?_); (case hg => simp); (case z1 => decide); (case z2 => decide); (case z3 => simp [Value.oneCell']); (case ho => exact HO2.out); (case hl => omega); clear HO2; intro v1 w1 ho1 _; have HO1 := Lib.hid ho1; clear ho1)
          go_roundw
          case rel => exact ⟨k + 1, q + 1, _, by omega, by omega, by go_num, hql2, hcs2, HO1.out⟩
          case measure => simp [intOf]; omega
      · have hk' : k = n := by omega
        have hqp : 0 < q := by
          rw [hql.out, hk', HN2.out]
          have hpw := Pw.filter (p := fun x : RN => !d.under x.id id) (q := fun n : Nd => !d.under n.id id) (Pw.of_at nd0 ys e.nodes HRS.out.len fun i x hx => HRS.out.good i x hx) fun a b hab => by rw [hab.id]
          have hl := (Pw.at nd0 hpw).1
          have : restN d id ys e.nodes.length = ys.filter fun x => !d.under x.id id := by unfold restN; rw [← HRS.out.len, List.take_length]
          rw [this, hl]
          exact HPOS.out
        have hfin := HRS.out.left (d := d) (d' := d') (id := id) ho (by rw [hql.out, hk', HN2.out]) (by rw [hcs'.out, hk', HN2.out]) hqp HDN.out HNX.out
        obtain ⟨A', c', rfl⟩ := ho.form
        have hp1 := (HRS.out.grow ho.grow).p0
        have hfz := HFZ.out _ ho.grow
        have HF := Lib.hid hfin
        clear hfin ho HO hk' hql hcs' hqp
        go_wp2
        go_ret
        exact ⟨rfl, (HF.out _ (Below.refl _ _)).1, HFW.out.trans (HF.out _ (Below.refl _ _)).2⟩)
theorem remove_r (R : RefRep w0 w rb g cap xs d) (hw : d.WF) (hfew : d.nodes.length ≤ 1000000) (id : Int) : Calls Tryz.prog 38 #[.pointer (some ⟨rb, 0, none⟩), .int .i64 id] w (RStep w0 w rb (d.removeD id).2 (.int .i64 (d.removeD id).1)) := by
  unfold Doc.removeD
  by_cases h0 : id = 0
  · rw [if_pos h0]
    exact remove_none R id 14 (by unfold noneI; rw [if_pos h0]) (by decide)
  rw [if_neg h0]
  by_cases h1 : d.has id
  · rw [if_neg (by simpa using h1)]
    have hn : noneI d id = 0 := by unfold noneI; rw [if_neg h0, if_neg (by simpa using h1)]
    have hnx : ((if d.upOf id = -1 then d else d.detach id).prune id).next = d.next := by split <;> rfl
    by_cases h3 : d.upOf id = -1
    · exact remove_loose R hw hfew id h0 hn h1 h3 _ (remove_nodes hw h1) hnx
    · exact remove_tied R hw hfew id _ h0 hn h1 rfl ((hw.up id h1).resolve_left h3) _ (remove_nodes hw h1) hnx
  · rw [if_pos h1]
    exact remove_none R id 13 (by unfold noneI; rw [if_neg h0, if_pos h1]) (by decide)
end
end Go.Proofs.YtacobpmmpdadpaaGreat
set_option linter.unusedVariables false
set_option linter.unusedSimpArgs false
namespace Go.Proofs.YtacobpmmpdadpaaGreat
open Go.RowKit Doc
structure RR where
  id : Int
  up : Int
  tag : ByteArray
  key : ByteArray
  text : ByteArray
  av : Value
def encR (x : RR) : List Value := [.int .i64 x.id, .int .i64 x.up, .string x.tag, .string x.key, .string x.text, x.av]
structure GoodR (ok : Nat → Prop) (w : World) (x : RR) (r : Rw) : Prop where
  id : x.id = r.id
  up : x.up = r.up
  tag : x.tag = r.tag
  key : x.key = r.key
  text : x.text = r.text
  attrs : RdV EAt 2 w ok x.av r.attrs
theorem infoRw : (Tryz.prog.info? 54).map (fun i => (i.zero, i.size, i.bytes)) = some (some (.agg #[.int .i64 0, .int .i64 0, .string ⟨#[]⟩, .string ⟨#[]⟩, .string ⟨#[]⟩, .slice none 0 0]), 6, 88) := by kernel_rfl
theorem Pw.append {α β : Type} {G : α → β → Prop} : ∀ {l : List α} {r : List β} {l' : List α} {r' : List β}, Pw G l r → Pw G l' r' → Pw G (l ++ l') (r ++ r')
  | [], [], _, _, _, h' => h'
  | [], _ :: _, _, _, h, _ => h.elim
  | _ :: _, [], _, _, h, _ => h.elim
  | a :: l, b :: r, _, _, h, h' => ⟨h.1, Pw.append h.2 h'⟩
theorem Pw.len {α β : Type} {G : α → β → Prop} {l : List α} {r : List β} (h : Pw G l r) : l.length = r.length := by
  induction l generalizing r with
  | nil => cases r with
    | nil => rfl
    | cons => exact h.elim
  | cons a l ih => cases r with
    | nil => exact h.elim
    | cons b r => simp [ih h.2]
def stepF (d : Doc) (k : Nat) (u : Int) (a : List Rw) (c : Int) : Option (List Rw) := (d.get c).bind fun n => belowF k d (a ++ [rowOf n u]) c (a.length + 1 : Nat)
theorem foldl_len {f : List Rw → Int → Option (List Rw)} (hf : ∀ a c r, f a c = some r → a.length ≤ r.length) : ∀ (l : List Int) (a r : List Rw), l.foldlM f a = some r → a.length ≤ r.length
  | [], a, r, h => by simp at h; rw [h]; exact Nat.le_refl _
  | c :: l, a, r, h => by
    rw [List.foldlM_cons] at h
    obtain ⟨x, h1, h2⟩ := Option.bind_eq_some_iff.1 h
    exact Nat.le_trans (hf _ _ _ h1) (foldl_len hf l x r h2)
theorem belowF_len {d : Doc} : ∀ (k : Nat) (acc : List Rw) (id up : Int) (r : List Rw), belowF k d acc id up = some r → acc.length ≤ r.length
  | 0, _, _, _, _, h => by simp [belowF] at h
  | k + 1, acc, id, up, r, h => by
    unfold belowF at h
    refine foldl_len (fun a c r h => ?_) _ _ _ h
    obtain ⟨n, h1, h2⟩ := Option.bind_eq_some_iff.1 h
    have := belowF_len k _ _ _ _ h2
    simp at this
    omega
theorem stepF_len {d : Doc} {k : Nat} {u : Int} (a : List Rw) (c : Int) (r : List Rw) (h : stepF d k u a c = some r) : a.length + 1 ≤ r.length := by
  obtain ⟨n, h1, h2⟩ := Option.bind_eq_some_iff.1 h
  have := belowF_len k _ _ _ _ h2
  simpa using this
/-- What below hands back. -/
def RetRows (ok : Nat → Prop) (ws : World) (r : List Rw) (e : Ending) (w' : World) : Prop := ∃ v raws, e = .returned v ∧ Own ws w' 54 6 v r.length (raws.flatMap encR) ∧ Pw (GoodR ok ws) raws r
section
variable {w0 w : World} {rb g cap : Nat} {xs : List RN} {d : Doc}
set_option maxHeartbeats 4000000 in
theorem below_r {ws : World} (R : RefRep w0 ws rb g cap xs d) (hw : d.WF) (hfew : d.nodes.length ≤ 1000000) : ∀ (k : Nat) (acc : List Rw) (id up : Int) (r : List Rw), belowF k d acc id up = some r → r.length ≤ 1000000 → d.has id →
    ∀ (W : World) (v : Value) (raws : List RR), Own ws W 54 6 v acc.length (raws.flatMap encR) → Pw (GoodR (Imm w0.heap.size tsA ws) ws) raws acc →
      Calls Tryz.prog 71 #[.pointer (some ⟨rb, 0, none⟩), v, .int .i64 id, .int .i64 up] W (RetRows (Imm w0.heap.size tsA ws) ws r) := by
  intro k
  induction k with
  | zero => intro acc id up r h; simp [belowF] at h
  | succ k ih =>
    intro acc id up r h hrl hid W v raws ho hp
    have IH := Lib.hid ih
    clear ih
    have hf : (d.kidsOf id).foldlM (stepF d k up) acc = some r := h
    have HR := Lib.hid R
    obtain ⟨i0, x0, hi0, hn0, hc0, hp0, _, hk0, _, HK0, _, HI0⟩ := R.rd hid
    replace hp0 := Grow.cell ho.2 hp0
    replace hk0 := Grow.cell ho.2 hk0
    obtain ⟨A3, c3, hkv3, _, hr3⟩ := HK0.out
    rw [hkv3] at hk0
    obtain ⟨m, hm⟩ : ∃ m, m = (d.kidsOf id).length := ⟨_, rfl⟩
    rw [← hm] at hk0
    have hm6 : m ≤ 1000000 := by rw [hm]; exact Nat.le_trans (kids_len hw id) hfew
    have HM := Lib.hid hm
    have HKR := Lib.hid hr3
    have HF := Lib.hid hf
    have HOA := Lib.hid ho
    have HPA := Lib.hid hp
    have HID := Lib.hid hid
    have HW := Lib.hid hw
    have HN := Lib.hid (show d.nodes.length = d.nodes.length from rfl)
    clear hm hr3 hkv3 h hf ho hp hid HK0 R hw
    obtain ⟨n, hn⟩ : ∃ n, n = d.nodes.length := ⟨_, rfl⟩
    rw [← hn] at hi0 hn0 hp0
    have HNN := Lib.hid hn
    clear hn
    go_enter Tryz.func71, Tryz.ntmps71
    go_wp2
    go_quiet ((go_at_call 63; exact quiet1_same (HI0.out _ (grow_drewN HOA.out.2 _))))
    have hgq : Hid (Grow W (W.drewN nq)) := Grow.drewN W nq
    clear hp0 hk0 HI0
    generalize W.drewN nq = W1 at *
    go_wp2
    go_loopw [1, 24] (fun t i wr => ∃ (j q : Nat) (a : List Rw) (ys : List RR) (cs : List Value), j ≤ m ∧ q ≤ 1000000 ∧ i = .int .i64 j ∧ Hid (q = a.length) ∧ Hid (cs = ys.flatMap encR) ∧ Hid (((d.kidsOf id).drop j).foldlM (stepF d k up) a = some r) ∧ Own ws wr 54 6 t q cs ∧ Hid (Pw (GoodR (Imm w0.heap.size tsA ws) ws) ys a)) (fun _ i _ => m - (intOf i).toNat)
    case atStart =>
      have hal := foldl_len (fun a c r h => Nat.le_of_succ_le (stepF_len a c r h)) _ _ _ HF.out
      exact ⟨0, acc.length, acc, raws, _, Nat.zero_le _, Nat.le_trans hal hrl, rfl, rfl, rfl, HF.out, HOA.out.of_grow hgq.out, HPA.out⟩
    case round =>
      obtain ⟨j, q, a, ys, cs, hj, hq, rfl, hqa, hcs, hfo, ho, hpw⟩ := hrel
      have HO := Lib.hid ho
      by_cases hlt : j < m
      · have h1 : j < (d.kidsOf id).length := by rw [← HM.out]; exact hlt
        obtain ⟨kb, ko, rfl, _, kc⟩ := HKR.out.int_at h1
        have kc1 := Grow.cell ho.grow kc
        have hkd : d.kidsOf id = (d.kidsOf id).take j ++ (d.kidsOf id).getD j 0 :: (d.kidsOf id).drop (j + 1) := by
          rw [List.getD_eq_getElem?_getD, List.getElem?_eq_getElem h1, Option.getD_some, ← List.drop_eq_getElem_cons h1, List.take_append_drop]
        have hfo1 := hfo.out
        rw [List.drop_eq_getElem_cons h1, List.foldlM_cons] at hfo1
        obtain ⟨a', hs1, hs2⟩ := Option.bind_eq_some_iff.1 hfo1
        have hce : (d.kidsOf id)[j] = (d.kidsOf id).getD j 0 := by rw [List.getD_eq_getElem?_getD, List.getElem?_eq_getElem h1, Option.getD_some]
        have hcm : (d.kidsOf id).getD j 0 ∈ d.kidsOf id := by rw [← hce]; exact List.getElem_mem h1
        rw [hce] at hs1
        generalize (d.kidsOf id).getD j 0 = c at *
        have HKS := Lib.hid kc
        have hhc : d.has c := ((HW.out.kid id c HID.out).1 hcm).1
        obtain ⟨nd, hget, hbl⟩ := Option.bind_eq_some_iff.1 hs1
        have hal2 : a'.length ≤ 1000000 := Nat.le_trans (foldl_len (fun a c r h => Nat.le_of_succ_le (stepF_len a c r h)) _ _ _ hs2) hrl
        have hal1 := stepF_len _ _ _ hs1
        rw [← hqa.out] at hal1
        have R1 := HR.out.grow ho.grow
        obtain ⟨i, hi, hpos, hidc, hget2⟩ := Doc.pos_has hhc
        have hnd : nd = d.nodes.getD i nd0 := by rw [hget] at hget2; exact Option.some.inj hget2
        have HA := Lib.hid fun WW (hW : Grow wr WW) => at_r (R1.grow hW) c
        rw [hpos] at HA
        have hp1 := R1.p0
        rw [← HNN.out] at hp1
        have hin : i < n := by rw [HNN.out]; exact hi
        obtain ⟨x, hx, hgx1, g0, g1, g2, g3, g4, g5, g6⟩ := R1.node hi
        have hgx : GoodN w0 ws x (d.nodes.getD i nd0) := HR.out.good i x hx
        rw [← hgx.id] at g0; rw [← hgx.up] at g1; rw [← hgx.tag] at g3; rw [← hgx.key] at g4; rw [← hgx.text] at g5
        have hgr : GoodR (Imm w0.heap.size tsA ws) ws ⟨x.id, up, x.tag, x.key, x.text, x.av⟩ (rowOf nd up) := by
          rw [hnd]; exact ⟨hgx.id, rfl, hgx.tag, hgx.key, hgx.text, hgx.attrs⟩
        have HGR := Lib.hid (Pw.append hpw.out (show Pw (GoodR (Imm w0.heap.size tsA ws) ws) [⟨x.id, up, x.tag, x.key, x.text, x.av⟩] [rowOf nd up] from ⟨hgr, trivial⟩))
        have HREC := Lib.hid fun WW vv hh => IH.out (a ++ [rowOf nd up]) c (a.length + 1 : Nat) a' hbl hal2 hhc WW vv (ys ++ [⟨x.id, up, x.tag, x.key, x.text, x.av⟩]) hh HGR.out
        have HLQ := Lib.hid (show (a ++ [rowOf nd up]).length = q + 1 by rw [List.length_append, hqa.out]; rfl)
        rw [← hqa.out] at HREC
        have HFO2 := Lib.hid hs2
        obtain ⟨Ak, ck, ek, _, _⟩ := hgx.kids
        obtain ⟨Aa, ca, ea, _, _⟩ := hgx.attrs
        obtain ⟨xid, xup, xkv, xtag, xkey, xtext, xav⟩ := x
        obtain ⟨lk, hlk⟩ : ∃ lk, lk = (d.nodes.getD i nd0).kids.length := ⟨_, rfl⟩
        obtain ⟨la, hla⟩ : ∃ la, la = (d.nodes.getD i nd0).attrs.length := ⟨_, rfl⟩
        rw [← hlk] at ek
        rw [← hla] at ea
        simp only at ek ea g0 g1 g2 g3 g4 g5 g6 HREC HGR
        subst ek ea
        have hcs1 : Hid (cs ++ [.int .i64 xid, .int .i64 up, .string xtag, .string xkey, .string xtext, .slice Aa la ca] = (ys ++ [(⟨xid, up, xtag, xkey, xtext, .slice Aa la ca⟩ : RR)]).flatMap encR) := by show _ = _; rw [hcs.out, List.flatMap_append]; rfl
        clear hlk hla hgx hgx1 hgr hs1 hs2 hfo1 hce hcm hkd hbl hget hget2 hnd hidc hpos hi R1 hhc hqa hcs hfo ho hpw h1 kc hx
        go_wp2
        have a0 := cell_alloc g0 (Obj.cells #[.int .i64 0, .int .i64 0, .slice none 0 0, .string ⟨#[]⟩, .string ⟨#[]⟩, .string ⟨#[]⟩, .slice none 0 0] 69)
        have a1 := cell_alloc g1 (Obj.cells #[.int .i64 0, .int .i64 0, .slice none 0 0, .string ⟨#[]⟩, .string ⟨#[]⟩, .string ⟨#[]⟩, .slice none 0 0] 69)
        have a2 := cell_alloc g2 (Obj.cells #[.int .i64 0, .int .i64 0, .slice none 0 0, .string ⟨#[]⟩, .string ⟨#[]⟩, .string ⟨#[]⟩, .slice none 0 0] 69)
        have a3 := cell_alloc g3 (Obj.cells #[.int .i64 0, .int .i64 0, .slice none 0 0, .string ⟨#[]⟩, .string ⟨#[]⟩, .string ⟨#[]⟩, .slice none 0 0] 69)
        have a4 := cell_alloc g4 (Obj.cells #[.int .i64 0, .int .i64 0, .slice none 0 0, .string ⟨#[]⟩, .string ⟨#[]⟩, .string ⟨#[]⟩, .slice none 0 0] 69)
        have a5 := cell_alloc g5 (Obj.cells #[.int .i64 0, .int .i64 0, .slice none 0 0, .string ⟨#[]⟩, .string ⟨#[]⟩, .string ⟨#[]⟩, .slice none 0 0] 69)
        have a6 := cell_alloc g6 (Obj.cells #[.int .i64 0, .int .i64 0, .slice none 0 0, .string ⟨#[]⟩, .string ⟨#[]⟩, .string ⟨#[]⟩, .slice none 0 0] 69)
        have a7 := cell_alloc hp1 (Obj.cells #[.int .i64 0, .int .i64 0, .slice none 0 0, .string ⟨#[]⟩, .string ⟨#[]⟩, .string ⟨#[]⟩, .slice none 0 0] 69)
        have a8 := cell_alloc kc1 (Obj.cells #[.int .i64 0, .int .i64 0, .slice none 0 0, .string ⟨#[]⟩, .string ⟨#[]⟩, .string ⟨#[]⟩, .slice none 0 0] 69)
        go_upto_region 5 with fail
        go_cut [11] from 27 to 38 (fun t wx => t = .pointer (some ⟨wr.heap.size, 0, none⟩) ∧ wx = (wr.alloc (.cells #[.int .i64 xid, .int .i64 xup, .slice Ak lk ck, .string xtag, .string xkey, .string xtext, .slice Aa la ca] 69)).drew)
        case first =>
          go_region_with (go_at_call 63; refine (HA.out _ ?hg).mono ?_; (case hg => repeat (first | exact Below.refl _ _ | apply grow_drew | apply grow_alloc)); rintro e' w4 ⟨rfl, rfl⟩)
          all_goals (go_wp2_with fail)
          all_goals go_meet
          all_goals exact ⟨rfl, rfl⟩
        case rest =>
          obtain ⟨rfl, rfl⟩ := hcut
          have HO2 := Lib.hid ((HO.out.alloc (.cells #[.int .i64 xid, .int .i64 xup, .slice Ak lk ck, .string xtag, .string xkey, .string xtext, .slice Aa la ca] 69)).drew)
          have HKC := Lib.hid kc1
          have hg9 : Grow wr (wr.alloc (.cells #[.int .i64 xid, .int .i64 xup, .slice Ak lk ck, .string xtag, .string xkey, .string xtext, .slice Aa la ca] 69)).drew := grow_drew (grow_alloc (Below.refl _ _) _)
          have b0 : (wr.alloc (.cells #[.int .i64 xid, .int .i64 xup, .slice Ak lk ck, .string xtag, .string xkey, .string xtext, .slice Aa la ca] 69)).drew.cell? ⟨wr.heap.size, 0, none⟩ = some (.int .i64 xid) := by simp [World.cell?_alloc_new]
          have b3 : (wr.alloc (.cells #[.int .i64 xid, .int .i64 xup, .slice Ak lk ck, .string xtag, .string xkey, .string xtext, .slice Aa la ca] 69)).drew.cell? ⟨wr.heap.size, 3, none⟩ = some (.string xtag) := by simp [World.cell?_alloc_new]
          have b4 : (wr.alloc (.cells #[.int .i64 xid, .int .i64 xup, .slice Ak lk ck, .string xtag, .string xkey, .string xtext, .slice Aa la ca] 69)).drew.cell? ⟨wr.heap.size, 4, none⟩ = some (.string xkey) := by simp [World.cell?_alloc_new]
          have b5 : (wr.alloc (.cells #[.int .i64 xid, .int .i64 xup, .slice Ak lk ck, .string xtag, .string xkey, .string xtext, .slice Aa la ca] 69)).drew.cell? ⟨wr.heap.size, 5, none⟩ = some (.string xtext) := by simp [World.cell?_alloc_new]
          have b6 : (wr.alloc (.cells #[.int .i64 xid, .int .i64 xup, .slice Ak lk ck, .string xtag, .string xkey, .string xtext, .slice Aa la ca] 69)).drew.cell? ⟨wr.heap.size, 6, none⟩ = some (.slice Aa la ca) := by simp [World.cell?_alloc_new]
          have HG9 := Lib.hid hg9
          clear hg9 a0 a1 a2 a3 a4 a5 a6 a7 a8
          generalize (wr.alloc (.cells #[.int .i64 xid, .int .i64 xup, .slice Ak lk ck, .string xtag, .string xkey, .string xtext, .slice Aa la ca] 69)).drew = w9 at *
          go_wp2_with first
            | (at_builtin; go_must (refine wpl_app (w0 := ws) rfl _ _ _ 54 _ 6 88 rfl Tryz.underlying31 infoRw rfl ?z1 ?z2 _ q cs [.int .i64 xid, .int .i64 up, .string xtag, .string xkey, .string xtext, .slice Aa la ca] rfl rfl ?hg rfl ?z3 ?ho ?hl ?_); (case hg => simp); (case z1 => decide); (case z2 => decide); (case z3 => simp [Value.oneCell']); (case ho => exact HO2.out); (case hl => omega); intro v1 w1 ho1 hgr1; obtain ⟨A1, c1, rfl⟩ := ho1.form; have kc2 := Grow.cell ho1.grow HKS.out; have HO1 := Lib.hid ho1; clear ho1)
            | (go_at_call 71; refine (HREC.out _ _ ?hh).mono ?_; (case hh => rw [HLQ.out, ← hcs1.out]; exact HO1.out); rintro e' w6 ⟨v6, raws6, rfl, ho6, hp6⟩; have HO6 := Lib.hid ho6; have HP6 := Lib.hid hp6; clear ho6 hp6)
          go_roundw
          case rel => exact ⟨j + 1, a'.length, a', raws6, _, by omega, hal2, by go_num, rfl, rfl, HFO2.out, HO6.out, HP6.out⟩
          case measure => simp [intOf]; omega
      · have hj' : j = m := by omega
        have hfo2 := hfo.out
        rw [hj', HM.out, List.drop_length] at hfo2
        have har : a = r := by simpa using hfo2
        subst har
        have hfin : RetRows (Imm w0.heap.size tsA ws) ws a (.returned _) wr := ⟨_, ys, rfl, by rw [← hqa.out, ← hcs.out]; exact ho, hpw.out⟩
        have HFI := Lib.hid hfin
        clear hfin hfo2 hfo hj' hqa hcs hpw ho HO
        go_wp2
        go_ret
        exact HFI.out
end
end Go.Proofs.YtacobpmmpdadpaaGreat
set_option linter.unusedVariables false
set_option linter.unusedSimpArgs false
namespace Go.Proofs.YtacobpmmpdadpaaGreat
open Go.RowKit Doc
def RetB (w : World) (b : Bool) (e : Ending) (w' : World) : Prop := e = .returned (.bool b) ∧ Grow w w'
theorem ints_same (l : List Int) (w : World) {ok ok' : Nat → Prop} {A B : Option Addr} (ca cb : Nat) (ha : Rd EInt 1 w ok A l) (hb : Rd EInt 1 w ok' B l) :
    Calls Tryz.prog 44 #[.slice A l.length ca, .slice B l.length cb] w (RetB w true) := by
  obtain ⟨n, hn⟩ : ∃ n, n = l.length := ⟨_, rfl⟩
  rw [← hn]
  have hm : n ≤ 9223372036854775807 := hn ▸ ha.1
  have HN := Lib.hid hn; clear hn
  have hd : ((n : Int) != n) = false := by simp
  have HA := Lib.hid ha; clear ha
  have HB := Lib.hid hb; clear hb
  go_enter Tryz.func44, Tryz.ntmps44
  go_wp2
  go_loopw [5, 13] (fun _ i wr => ∃ k : Nat, k ≤ n ∧ i = .int .i64 k ∧ Grow w wr) (fun _ i _ => n - (intOf i).toNat)
  case atStart => exact ⟨0, Nat.zero_le _, rfl, Below.refl _ _⟩
  case round =>
    obtain ⟨k, hk, rfl, hg⟩ := hrel
    have HG := Lib.hid hg
    by_cases hlt : k < n
    · have h1 : k < l.length := by rw [← HN.out]; exact hlt
      obtain ⟨ba, oa, rfl, _, ga⟩ := HA.out.int_at h1
      obtain ⟨bb, ob, rfl, _, gb⟩ := HB.out.int_at h1
      replace ga := Grow.cell hg ga
      replace gb := Grow.cell hg gb
      clear h1 hg
      generalize l.getD k 0 = y at *
      have hyy : (y != y) = false := by simp
      go_wp2
      go_quiet (fail)
      go_wp2
      go_roundw
      case rel => exact ⟨k + 1, by omega, by go_num, grow_drewN HG.out _⟩
      case measure => simp [intOf]; omega
    · clear hg
      go_wp2
      go_ret
      exact ⟨rfl, HG.out⟩
theorem attrs_same (l : List At) (w : World) {ok ok' : Nat → Prop} {A B : Option Addr} (ca cb : Nat) (ha : Rd EAt 2 w ok A l) (hb : Rd EAt 2 w ok' B l) :
    Calls Tryz.prog 92 #[.slice A l.length ca, .slice B l.length cb] w (RetB w true) := by
  obtain ⟨n, hn⟩ : ∃ n, n = l.length := ⟨_, rfl⟩
  rw [← hn]
  have hm : n ≤ 9223372036854775807 := hn ▸ ha.1
  have HN := Lib.hid hn; clear hn
  have hd : ((n : Int) != n) = false := by simp
  have HA := Lib.hid ha; clear ha
  have HB := Lib.hid hb; clear hb
  go_enter Tryz.func92, Tryz.ntmps92
  go_wp2
  go_loopw [5, 13] (fun _ i wr => ∃ k : Nat, k ≤ n ∧ i = .int .i64 k ∧ Grow w wr) (fun _ i _ => n - (intOf i).toNat)
  case atStart => exact ⟨0, Nat.zero_le _, rfl, Below.refl _ _⟩
  case round =>
    obtain ⟨k, hk, rfl, hg⟩ := hrel
    have HG := Lib.hid hg
    by_cases hlt : k < n
    · have h1 : k < l.length := by rw [← HN.out]; exact hlt
      obtain ⟨ba, oa, rfl, _, ga, ga2⟩ := HA.out.at_at h1
      obtain ⟨bb, ob, rfl, _, gb, gb2⟩ := HB.out.at_at h1
      replace ga := Grow.cell hg ga
      replace gb := Grow.cell hg gb
      replace ga2 := Grow.cell hg ga2
      replace gb2 := Grow.cell hg gb2
      clear h1 hg
      generalize l.getD k z0 = y at *
      obtain ⟨nm, vl⟩ := y
      go_wp2
      go_quiet (fail)
      go_wp2
      go_roundw
      case rel => exact ⟨k + 1, by omega, by go_num, grow_drewN HG.out _⟩
      case measure => simp [intOf]; omega
    · clear hg
      go_wp2
      go_ret
      exact ⟨rfl, HG.out⟩
/-- Rows, wherever they lie. -/
def RowsAt (w : World) (v : Value) (l : List Rw) : Prop := ∃ raws, RdV (fun (x : RR) cs => cs = encR x) 6 w (fun _ => True) v raws ∧ Pw (fun x r => ∃ ok, GoodR ok w x r) raws l
theorem Pw.get {α β : Type} {G : α → β → Prop} : ∀ {l : List α} {r : List β}, Pw G l r → ∀ {i : Nat} {x : α}, l[i]? = some x → ∃ y, r[i]? = some y ∧ G x y
  | [], [], _, _, _, h => by simp at h
  | [], _ :: _, h, _, _, _ => h.elim
  | _ :: _, [], h, _, _, _ => h.elim
  | a :: l, b :: r, h, 0, x, hx => by simp at hx; subst hx; exact ⟨b, rfl, h.1⟩
  | a :: l, b :: r, h, i + 1, x, hx => by simpa using Pw.get h.2 (i := i) (x := x) (by simpa using hx)
theorem GoodR.grow' {ok : Nat → Prop} {w W : World} {x : RR} {r : Rw} (h : GoodR ok w x r) (hg : Grow w W) : GoodR ok W x r :=
  ⟨h.id, h.up, h.tag, h.key, h.text, h.attrs.imp (fun _ _ _ e => e) (fun _ e => e) fun b _ hb => hg.block b hb⟩
theorem RowsAt.grow {w W : World} {v : Value} {l : List Rw} (h : RowsAt w v l) (hg : Grow w W) : RowsAt W v l := by
  obtain ⟨raws, h1, h2⟩ := h
  exact ⟨raws, h1.imp (fun _ _ _ e => e) (fun _ e => e) fun b _ hb => hg.block b hb, Pw.imp h2 fun _ _ ⟨ok, e⟩ => ⟨ok, e.grow' hg⟩⟩
theorem RowsAt.form {w : World} {v : Value} {l : List Rw} (h : RowsAt w v l) : ∃ A c, v = .slice A l.length c ∧ l.length ≤ 9223372036854775807 := by
  obtain ⟨raws, ⟨A, c, rfl, _, h1⟩, h2⟩ := h
  rw [← h2.len]
  exact ⟨A, c, rfl, h1.1⟩
theorem RowsAt.at {w : World} {A : Option Addr} {n c : Nat} {l : List Rw} (h : RowsAt w (.slice A n c) l) {i : Nat} (hi : i < l.length) :
    ∃ b o id up tag key text av, A = some ⟨b, o, none⟩ ∧ l[i]? = some ⟨id, up, tag, key, text, av⟩ ∧ w.cell? ⟨b, o + i * 6, none⟩ = some (.int .i64 id) ∧ w.cell? ⟨b, o + i * 6 + 1, none⟩ = some (.int .i64 up) ∧ w.cell? ⟨b, o + i * 6 + 2, none⟩ = some (.string tag) ∧
      w.cell? ⟨b, o + i * 6 + 3, none⟩ = some (.string key) ∧ w.cell? ⟨b, o + i * 6 + 4, none⟩ = some (.string text) ∧ ∃ A' c' ok, w.cell? ⟨b, o + i * 6 + 5, none⟩ = some (.slice A' av.length c') ∧ Rd EAt 2 w ok A' av := by
  obtain ⟨raws, ⟨A2, c2, e, _, h1⟩, h2⟩ := h
  have hi2 : i < raws.length := by rw [h2.len]; exact hi
  cases e
  obtain ⟨b, o, cs, rfl, _, rfl, _, hc⟩ := h1.at hi2
  obtain ⟨r, hr, ok, hg⟩ := h2.get (List.getElem?_eq_getElem hi2)
  obtain ⟨id, up, tag, key, text, av⟩ := r
  obtain ⟨A', c', e1, _, e2⟩ := hg.attrs
  obtain ⟨g0, g1, g2, g3, g4, _⟩ := hg
  simp only at g0 g1 g2 g3 g4 e1 e2
  refine ⟨b, o, id, up, tag, key, text, av, rfl, hr, ?_, ?_, ?_, ?_, ?_, A', c', ok, ?_, e2⟩
  · rw [← g0]; exact hc 0 _ rfl
  · rw [← g1]; exact hc 1 _ rfl
  · rw [← g2]; exact hc 2 _ rfl
  · rw [← g3]; exact hc 3 _ rfl
  · rw [← g4]; exact hc 4 _ rfl
  · rw [← e1]; exact hc 5 _ rfl
set_option maxHeartbeats 1600000 in
theorem shapes_same (l : List Rw) (w : World) {A B : Option Addr} (ca cb : Nat) (ha : RowsAt w (.slice A l.length ca) l) (hb : RowsAt w (.slice B l.length cb) l) :
    Calls Tryz.prog 70 #[.slice A l.length ca, .slice B l.length cb] w (RetB w true) := by
  obtain ⟨n, hn⟩ : ∃ n, n = l.length := ⟨_, rfl⟩
  rw [← hn] at ha hb ⊢
  have hm : n ≤ 9223372036854775807 := by obtain ⟨_, _, _, h⟩ := ha.form; rw [hn]; exact h
  have HN := Lib.hid hn; clear hn
  have hd : ((n : Int) != n) = false := by simp
  have HA := Lib.hid ha; clear ha
  have HB := Lib.hid hb; clear hb
  go_enter Tryz.func70, Tryz.ntmps70
  go_wp2
  go_loopw [5, 15] (fun _ i wr => ∃ k : Nat, k ≤ n ∧ i = .int .i64 k ∧ Grow w wr) (fun _ i _ => n - (intOf i).toNat)
  case atStart => exact ⟨0, Nat.zero_le _, rfl, Below.refl _ _⟩
  case round =>
    obtain ⟨k, hk, rfl, hg⟩ := hrel
    have HG := Lib.hid hg
    by_cases hlt : k < n
    · have h1 : k < l.length := by rw [← HN.out]; exact hlt
      obtain ⟨ba, oa, id, up, tag, key, text, av, rfl, hl, a0, a1, a2, a3, a4, A', c', ok, a5, hat⟩ := HA.out.at h1
      obtain ⟨bb, ob, id', up', tag', key', text', av', rfl, hl', b0, b1, b2, b3, b4, B', c2', ok2, b5, hbt⟩ := HB.out.at h1
      rw [hl] at hl'
      cases hl'
      clear hl h1
      have HAT := Lib.hid fun W (hW : Grow w W) => attrs_same av W c' c2' (hat.imp (fun _ _ _ e => e) (fun _ e => e) fun b _ hb => hW.block b hb) (hbt.imp (fun _ _ _ e => e) (fun _ e => e) fun b _ hb => hW.block b hb)
      clear hat hbt
      replace a0 := Grow.cell hg a0
      replace a1 := Grow.cell hg a1
      replace a2 := Grow.cell hg a2
      replace a3 := Grow.cell hg a3
      replace a4 := Grow.cell hg a4
      replace a5 := Grow.cell hg a5
      replace b0 := cell_alloc (Grow.cell hg b0) (.cells #[.int .i64 id, .int .i64 up, .string tag, .string key, .string text, .slice A' av.length c'] 54)
      replace b1 := cell_alloc (Grow.cell hg b1) (.cells #[.int .i64 id, .int .i64 up, .string tag, .string key, .string text, .slice A' av.length c'] 54)
      replace b2 := cell_alloc (Grow.cell hg b2) (.cells #[.int .i64 id, .int .i64 up, .string tag, .string key, .string text, .slice A' av.length c'] 54)
      replace b3 := cell_alloc (Grow.cell hg b3) (.cells #[.int .i64 id, .int .i64 up, .string tag, .string key, .string text, .slice A' av.length c'] 54)
      replace b4 := cell_alloc (Grow.cell hg b4) (.cells #[.int .i64 id, .int .i64 up, .string tag, .string key, .string text, .slice A' av.length c'] 54)
      replace b5 := cell_alloc (Grow.cell hg b5) (.cells #[.int .i64 id, .int .i64 up, .string tag, .string key, .string text, .slice A' av.length c'] 54)
      clear hg
      generalize av.length = la at *
      go_wp2_with (go_at_call 92; refine (HAT.out _ ?hg).mono ?_; (case hg => repeat (first | exact HG.out | apply grow_drew | apply grow_alloc)); rintro e' w4 ⟨rfl, hg4⟩; have HG4 := Lib.hid (Grow.trans' (by repeat (first | exact HG.out | apply grow_drew | apply grow_alloc)) hg4); clear hg4)
      go_roundw
      case rel => exact ⟨k + 1, by omega, by go_num, HG4.out⟩
      case measure => simp [intOf]; omega
    · clear hg
      go_wp2
      go_ret
      exact ⟨rfl, HG.out⟩
theorem rows_same (l : List Rw) (w : World) {A B : Option Addr} (ca cb : Nat) (ha : RowsAt w (.slice A l.length ca) l) (hb : RowsAt w (.slice B l.length cb) l) :
    Calls Tryz.prog 42 #[.slice A l.length ca, .slice B l.length cb] w (RetB w true) := by
  have HS := Lib.hid fun W (hW : Grow w W) => shapes_same l W ca cb (ha.grow hW) (hb.grow hW)
  obtain ⟨n, hn⟩ : ∃ n, n = l.length := ⟨_, rfl⟩
  rw [← hn] at ha hb HS ⊢
  have hm : n ≤ 9223372036854775807 := by obtain ⟨_, _, _, h⟩ := ha.form; rw [hn]; exact h
  have HN := Lib.hid hn; clear hn
  have hd : ((n : Int) != n) = false := by simp
  have HA := Lib.hid ha; clear ha
  have HB := Lib.hid hb; clear hb
  go_enter Tryz.func42, Tryz.ntmps42
  go_wp2
  go_loopw [5, 13] (fun _ i wr => ∃ k : Nat, k ≤ n ∧ i = .int .i64 k ∧ Grow w wr) (fun _ i _ => n - (intOf i).toNat)
  case atStart => exact ⟨0, Nat.zero_le _, rfl, Below.refl _ _⟩
  case round =>
    obtain ⟨k, hk, rfl, hg⟩ := hrel
    have HG := Lib.hid hg
    by_cases hlt : k < n
    · have h1 : k < l.length := by rw [← HN.out]; exact hlt
      obtain ⟨ba, oa, id, up, tag, key, text, av, rfl, hl, a0, _⟩ := HA.out.at h1
      obtain ⟨bb, ob, id', up', tag', key', text', av', rfl, hl', b0, _⟩ := HB.out.at h1
      rw [hl] at hl'
      cases hl'
      clear hl h1
      replace a0 := Grow.cell hg a0
      replace b0 := Grow.cell hg b0
      clear hg
      have hyy : (id != id) = false := by simp
      go_wp2
      go_quiet (fail)
      go_wp2
      go_roundw
      case rel => exact ⟨k + 1, by omega, by go_num, grow_drewN HG.out _⟩
      case measure => simp [intOf]; omega
    · clear hg
      go_wp2_with (go_at_call 70; refine (HS.out _ ?hg).mono ?_; (case hg => repeat (first | exact HG.out | apply grow_drew | apply grow_alloc)); rintro e' w4 ⟨rfl, hg4⟩; have HG4 := Lib.hid (Grow.trans' HG.out hg4); clear hg4)
      go_ret
      exact ⟨rfl, HG4.out⟩
end Go.Proofs.YtacobpmmpdadpaaGreat
