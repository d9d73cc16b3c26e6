/- Rows that a call itself makes, element by element. Where a name stands in a list of attributes, and where it belongs. The reference's With and Without answer withA and withoutA. slices.Clone and slices.Insert at attributes. slices.DeleteFunc at attributes, as attrs.Without calls it; the program's With and Without. The program's With and Without answer withA and withoutA. Documents as data, fifth part: every call leaves a well formed document; what is read of one. -/
import Derived.Test.YtacobpmmpdadpaaGreatPk1
import Derived.OwnWalk
import Derived.Maps.AppendAt
import Derived.Deep.AppendLies
import Derived.Shelf.Spec.SlicesInsertGrow
import Derived.Lib.Overlaps
import Derived.Lib.SliceRun
import Derived.Deep.RegionLaw
set_option linter.unusedVariables false
set_option linter.unusedSimpArgs false
namespace Go.Proofs.YtacobpmmpdadpaaGreat
open Go.RowKit

/-- v is a row of elements of type e that was made since w0; its cells are cs. -/
def Own (w0 w : World) (e size : Nat) (v : Value) (n : Nat) (cs : List Value) : Prop := w.ownsRow w0.heap.size e size v n cs ∧ Grow w0 w
theorem Own.nil {w0 w : World} (e size : Nat) (h : Grow w0 w) : Own w0 w e size (.slice none 0 0) 0 [] := ⟨World.ownsRow_nil .., h⟩
theorem Own.grow {w0 w : World} {e size n : Nat} {v : Value} {cs : List Value} (h : Own w0 w e size v n cs) : Grow w0 w := h.2
theorem Own.alloc {w0 w : World} {e size n : Nat} {v : Value} {cs : List Value} (h : Own w0 w e size v n cs) (o : Obj) : Own w0 (w.alloc o) e size v n cs := ⟨h.1.alloc o, grow_alloc h.2 o⟩
theorem Own.drew {w0 w : World} {e size n : Nat} {v : Value} {cs : List Value} (h : Own w0 w e size v n cs) : Own w0 w.drew e size v n cs := ⟨h.1.kept (row := none) ⟨rfl, rfl, rfl, Nat.le_refl _, fun _ _ _ => rfl⟩ (by cases v.ownBlock <;> simp), grow_drew h.2⟩
theorem Own.drewN {w0 w : World} {e size n : Nat} {v : Value} {cs : List Value} (h : Own w0 w e size v n cs) (k : Nat) : Own w0 (w.drewN k) e size v n cs := by
  induction k with
  | zero => exact h
  | succ k ih => rw [← World.drew_drewN]; exact ih.drew
theorem Own.of_grow {w0 w w' : World} {e size n : Nat} {v : Value} {cs : List Value} (h : Own w0 w e size v n cs) (hg : Grow w w') : Own w0 w' e size v n cs :=
  ⟨h.1.kept (row := none) ⟨hg.os, hg.tape, hg.output, hg.size, fun k hk _ => hg.block k hk⟩ (by cases v.ownBlock <;> simp), Grow.trans' h.2 hg⟩
theorem Own.lit {w0 w : World} (h : Grow w0 w) (e size n : Nat) (cs : Array Value) (hc : cs.size = n * size) (hn : n ≤ 9223372036854775807) : Own w0 (w.alloc (.cells cs e)) e size (.slice (some ⟨w.heap.size, 0, none⟩) n n) n cs.toList :=
  ⟨⟨by rw [Array.length_toList]; exact hc, .inr ⟨w.heap.size, n, cs, rfl, h.size, heap_alloc_new w _, Nat.le_refl _, (show n ≤ maxLen from hn), hc, List.take_of_length_le (by rw [Array.length_toList]; omega)⟩⟩, grow_alloc h _⟩
theorem Own.form {w0 w : World} {e size n : Nat} {v : Value} {cs : List Value} (h : Own w0 w e size v n cs) : ∃ A c, v = .slice A n c := by
  rcases h.1.2 with ⟨rfl, rfl⟩ | ⟨g, cap, cur, rfl, _⟩
  · exact ⟨none, 0, rfl⟩
  · exact ⟨_, cap, rfl⟩
theorem Own.base {w0 w : World} {e size n : Nat} {v : Value} {cs : List Value} (h : Own w0 w e size v n cs) (k : Nat) (hk : v.ownBlock = some k) : w0.heap.size ≤ k := by
  rcases h.1.2 with ⟨rfl, _⟩ | ⟨g, cap, cur, rfl, hb, _⟩
  · simp [Value.ownBlock] at hk
  · have : g = k := by simpa [Value.ownBlock] using hk
    omega
theorem cell_alloc {w : World} {p : Addr} {v : Value} (h : w.cell? p = some v) (o : Obj) : (w.alloc o).cell? p = some v := Grow.cell (grow_alloc (Below.refl _ _) o) h
theorem grow_setRow {w0 w : World} (h : Grow w0 w) {g : Nat} (hg : w0.heap.size ≤ g) (cs : Array Value) : Grow w0 (w.setRow g cs) :=
  ⟨h.os, h.tape, h.output, by simpa using h.size, fun k hk => (setRow_other w g k cs (by omega)).trans (h.block k hk)⟩
/-- What is made so is read so; the block is of its type, and new. -/
def New (w0 w : World) (e : Nat) (b : Nat) : Prop := w0.heap.size ≤ b ∧ ∃ c, w.heap[b]? = some (.cells c e (0, 0))
theorem Own.rdv {α : Type} {w0 w : World} {e size n : Nat} {v : Value} {cs : List Value} (h : Own w0 w e size v n cs) (E : α → List Value → Prop) (xs : List α) (enc : α → List Value) (hE : ∀ x, x ∈ xs → E x (enc x)) (hs : ∀ x, (enc x).length = size) (hc : cs = xs.flatMap enc) (hn : n = xs.length) : RdV E size w (New w0 w e) v xs := by
  have key : ∀ (l : List α) (i : Nat) (x : α) (j : Nat) (u : Value), l[i]? = some x → (enc x)[j]? = some u → (l.flatMap enc)[i * size + j]? = some u := by
    intro l
    induction l with
    | nil => intro i x j u h _; simp at h
    | cons a r ih =>
      intro i x j u h1 h2
      rw [List.flatMap_cons]
      cases i with
      | zero =>
        simp only [List.getElem?_cons_zero, Option.some.injEq] at h1
        subst h1
        have hj := (List.getElem?_eq_some_iff.1 h2).1
        rw [Nat.zero_mul, Nat.zero_add, List.getElem?_append_left hj]
        exact h2
      | succ i =>
        rw [List.getElem?_cons_succ] at h1
        rw [List.getElem?_append_right (by rw [hs, Nat.succ_mul]; omega), hs, show (i + 1) * size + j - size = i * size + j by rw [Nat.succ_mul]; omega]
        exact ih i x j u h1 h2
  rcases h.1.2 with ⟨rfl, h0⟩ | ⟨g, cap, cur, rfl, hb, hh, hnc, hcap, hsz, htake⟩
  · have : xs = [] := List.eq_nil_of_length_eq_zero (by omega)
    subst this
    exact RdV.nil ..
  · subst hn
    refine ⟨some ⟨g, 0, none⟩, cap, rfl, hnc, by simp only [maxLen] at hcap; omega, .inr ⟨g, 0, rfl, ⟨hb, cur, hh⟩, fun i x hi => ⟨enc x, hE x (List.mem_of_getElem? hi), hs x, fun j u hu => ?_⟩⟩⟩
    have h1 := key xs i x j u hi hu
    rw [← hc, ← htake, List.getElem?_take] at h1
    split at h1
    · rw [Nat.zero_add]
      simpa [World.cell?, hh] using h1
    · simp at h1

section
variable {P : Program} {ops : Array Oper} {rest : List Oper} {o : Oper} {a : Act} {Q : Exit → Act → World → Prop}
/-- append(v, x), x one element, its cells just laid. -/
theorem wpl_app {w0 W : World} (hgd : o.guard = none) (s x : Operand) (t e : TypeId) (z : Value) (size bytes : Nat)
    (ho : o.op = .call { callee := .builtin .append, args := #[s, x], argTypes := #[t, t] })
    (ht : P.underlying t = some (.slice e)) (hinfo : (P.info? e).map (fun i => (i.zero, i.size, i.bytes)) = some (some z, size, bytes)) (hz : z.cells.size = size) (hs0 : 0 < size) (hb0 : 0 < bytes)
    (v : Value) (n : Nat) (cs ys : List Value) (hs : a.eval s = v) {g : Nat} (hx : a.eval x = .slice (some ⟨g, 0, none⟩) 1 1) (hg : g = W.heap.size) (hys : ys.length = size) (h1 : ∀ u ∈ ys, u.oneCell' = true)
    (HO : Own w0 W e size v n cs) (hl : (n + 1) * bytes ≤ 140737488355328)
    (h : ∀ v1 w1, Own w0 w1 e size v1 (n + 1) (cs ++ ys) → W.grownBy w1 v.ownBlock → wpList P ops Q rest (a.put o.dst v1) w1) :
    wpList P ops Q (o :: rest) a (W.alloc (.cells ys.toArray e)) := by
  subst hg
  obtain ⟨i0, hi, hzz⟩ := Option.map_eq_some_iff.1 hinfo
  simp only [Prod.mk.injEq] at hzz
  obtain ⟨hz0, hz1, hz2⟩ := hzz
  have hlen : n + 1 ≤ 140737488355328 := Nat.le_trans (Nat.le_mul_of_pos_right _ hb0) hl
  refine wpList_append_own_at (W.alloc (.cells ys.toArray e)) hgd s x t ho w0.heap.size e i0 z size bytes ht hi hz0 hz1 hz2 hz hs0 v n cs hs (HO.1.alloc _) ⟨W.heap.size, 0, none⟩ 1 1 ys hx (by rw [hys]; simp)
    (by simpa using World.news_of_block (cs := ys.toArray) (t := e) (fr := (0, 0)) (heap_alloc_new W (.cells ys.toArray e))) h1 (by simp only [maxLen]; omega) hl (by have := HO.2.size; simp; omega) ?_
  intro v1 w1 hown hg _ hat
  refine h v1 w1 ⟨hown, ?_⟩ (World.grownBy.trans (World.grownBy_alloc W _ _) hg)
  exact Below.grown (grow_alloc HO.2 _) hg (by have := HO.2.size; simp; omega) (fun k hk => HO.base k hk)
end
end Go.Proofs.YtacobpmmpdadpaaGreat
set_option linter.unusedVariables false
set_option linter.unusedSimpArgs false
namespace Go.Proofs.YtacobpmmpdadpaaGreat
open Go.RowKit
theorem findA_at {l : List At} {name : ByteArray} {i : Nat} (hi : i < l.length) (hb : (l.getD i z0).name.toList = name.toList) (ha : ∀ j, j < i → (l.getD j z0).name.toList ≠ name.toList) : findA l name = some i := by
  unfold findA
  rw [List.find?_range_eq_some]
  exact ⟨by simpa using hb, by simpa using hi, fun j hj => by simpa using ha j hj⟩
theorem findA_none {l : List At} {name : ByteArray} (ha : ∀ j, j < l.length → (l.getD j z0).name.toList ≠ name.toList) : findA l name = none := by
  unfold findA
  rw [List.find?_eq_none]
  intro j hj
  simpa using ha j (by simpa using hj)
theorem findA_lt {l : List At} {name : ByteArray} {i : Nat} (h : findA l name = some i) : i < l.length ∧ (l.getD i z0).name.toList = name.toList ∧ ∀ j, j < i → (l.getD j z0).name.toList ≠ name.toList := by
  unfold findA at h
  rw [List.find?_range_eq_some] at h
  exact ⟨by simpa using h.2.1, by simpa using h.1, fun j hj => by simpa using h.2.2 j hj⟩
def toK (l : List At) (name : ByteArray) (k : Nat) : Nat := ((List.range k).find? fun i => Op.bytesLess name.toList (l.getD i z0).name.toList).getD l.length
theorem toK_zero (l : List At) (name : ByteArray) : toK l name 0 = l.length := rfl
theorem toK_len (l : List At) (name : ByteArray) : toK l name l.length = toA l name := rfl
theorem toK_lt {l : List At} {name : ByteArray} {k : Nat} (hk : k ≤ l.length) : toK l name k = l.length ∨ toK l name k < k := by
  unfold toK
  cases h : (List.range k).find? fun i => Op.bytesLess name.toList (l.getD i z0).name.toList with
  | none => left; rfl
  | some i => right; have := List.mem_of_find?_eq_some h; simpa using this
theorem first_succ (p : Nat → Bool) (n k : Nat) (hk : k < n) : ((List.range (k + 1)).find? p).getD n = if ((List.range k).find? p).getD n < n then ((List.range k).find? p).getD n else if p k = true then k else n := by
  rw [List.range_succ, List.find?_append]
  cases h : (List.range k).find? p with
  | none => cases h2 : p k <;> simp [h2]
  | some i =>
    have := List.mem_of_find?_eq_some h
    have hi : i < k := by simpa using this
    simp only [Option.some_or, Option.getD_some]
    rw [if_pos (by omega)]
theorem toK_succ (l : List At) (name : ByteArray) (k : Nat) (hk : k < l.length) : toK l name (k + 1) = if toK l name k < l.length then toK l name k else if Op.bytesLess name.toList (l.getD k z0).name.toList = true then k else l.length :=
  first_succ _ _ _ hk
def findI (l : List At) (name : ByteArray) : Int := match findA l name with | some i => (i : Int) | none => -1
theorem toA_le (l : List At) (name : ByteArray) : toA l name ≤ l.length := by
  rcases toK_lt (l := l) (name := name) (Nat.le_refl _) with h | h <;> rw [toK_len] at h <;> omega

theorem find_p (l : List At) (name : ByteArray) (w : World) (ok : Nat → Prop) (A : Option Addr) (c : Nat) (hl : Rd EAt 2 w ok A l) :
    Calls Tryz.prog 85 #[.slice A l.length c, .string name] w fun e w' => e = .returned (.tuple #[.int .i64 (((findA l name).getD (toA l name) : Nat) : Int), .bool (findA l name).isSome]) ∧ Grow w w' := by
  obtain ⟨n, hn⟩ : ∃ n, n = l.length := ⟨_, rfl⟩
  rw [← hn]
  have hm : n ≤ 9223372036854775807 := hn ▸ hl.1
  have HT0 : Hid (toK l name 0 = n) := by show _ = _; rw [hn]; rfl
  have HN := Lib.hid hn; clear hn
  have HL := Lib.hid hl; clear hl
  go_enter Tryz.func85, Tryz.ntmps85
  go_wp2
  go_loopw [6, 13] (fun t i wr => ∃ k tt : Nat, k ≤ n ∧ i = .int .i64 k ∧ t = .int .i64 tt ∧ tt ≤ n ∧ Hid (toK l name k = tt) ∧ Grow w wr ∧ Hid (∀ j, j < k → (l.getD j z0).name.toList ≠ name.toList)) (fun _ i _ => n - (intOf i).toNat)
  case atStart => exact ⟨0, n, Nat.zero_le _, rfl, rfl, Nat.le_refl _, HT0, Below.refl _ _, fun j hj => absurd hj (by omega)⟩
  case round =>
    obtain ⟨k, tt, hk, rfl, rfl, htn, hto, hg, ht⟩ := hrel
    by_cases hlt : k < n
    · have h1 : k < l.length := by rw [← HN.out]; exact hlt
      obtain ⟨b, o, rfl, _, g1, g2⟩ := HL.out.at_at h1
      replace g1 := Grow.cell hg g1
      replace g2 := Grow.cell hg g2
      have hs := toK_succ l name k h1
      have HG := Lib.hid hg
      by_cases e : (l.getD k z0).name.toList = name.toList
      · have hf := findA_at h1 e ht.out
        have HF := Lib.hid hf
        have eb : ((l.getD k z0).name.toList == name.toList) = true := by simpa using e
        clear hs h1 e hf ht hg
        generalize (l.getD k z0).name = nm at *
        generalize (l.getD k z0).value = vl at *
        go_wp2
        go_ret2
        refine ⟨?_, by repeat (first | exact HG.out | apply grow_drewN | apply grow_drew | apply grow_alloc)⟩
        rw [HF.out]; rfl
      · have hn : Hid (∀ j, j < k + 1 → (l.getD j z0).name.toList ≠ name.toList) := fun j hj => by
          rcases Nat.lt_or_ge j k with e' | e'
          · exact ht.out j e'
          · rw [show j = k by omega]; exact e
        have eb : ((l.getD k z0).name.toList == name.toList) = false := by simpa using e
        have etot := bl_tot (l.getD k z0).name.toList name.toList
        rw [eb] at etot
        rw [← HN.out, hto.out] at hs
        by_cases c1 : tt < n
        · rw [if_pos c1] at hs
          have HSs := Lib.hid hs
          clear hs h1 e ht hg etot
          generalize (l.getD k z0).name = nm at *
          generalize (l.getD k z0).value = vl at *
          go_wp2
          go_roundw
          case rel => exact ⟨k + 1, tt, by omega, by go_num, rfl, htn, HSs, by repeat (first | exact HG.out | apply grow_drewN | apply grow_drew | apply grow_alloc), hn⟩
          case measure => simp [intOf]; omega
        · rw [if_neg c1] at hs
          have c2 : n ≤ tt := by omega
          cases c3 : Op.bytesLess (l.getD k z0).name.toList name.toList with
          | true =>
            rw [c3] at etot
            rw [etot] at hs
            have HSs : Hid (toK l name (k + 1) = tt) := by show _ = _; rw [hs]; simp; omega
            clear hs h1 e ht hg etot c1
            generalize (l.getD k z0).name = nm at *
            generalize (l.getD k z0).value = vl at *
            go_wp2
            go_roundw
            case rel => exact ⟨k + 1, tt, by omega, by go_num, rfl, htn, HSs, by repeat (first | exact HG.out | apply grow_drewN | apply grow_drew | apply grow_alloc), hn⟩
            case measure => simp [intOf]; omega
          | false =>
            rw [c3] at etot
            rw [etot] at hs
            have HSs : Hid (toK l name (k + 1) = k) := by show _ = _; rw [hs]; simp
            clear hs h1 e ht hg etot c1
            generalize (l.getD k z0).name = nm at *
            generalize (l.getD k z0).value = vl at *
            go_wp2
            go_roundw
            case rel => exact ⟨k + 1, k, by omega, by go_num, rfl, by omega, HSs, by repeat (first | exact HG.out | apply grow_drewN | apply grow_drew | apply grow_alloc), hn⟩
            case measure => simp [intOf]; omega
    · have hk' : k = n := by omega
      have hf : findA l name = none := findA_none fun j hj => ht.out j (by rw [hk', HN.out]; exact hj)
      have hta : toA l name = tt := by rw [← hto.out, hk', HN.out]; rfl
      have HF := Lib.hid hf
      have HT := Lib.hid hta
      have HG := Lib.hid hg
      clear hf hta hk' ht hto hg
      go_wp2
      go_ret2
      refine ⟨?_, HG.out⟩
      rw [HF.out, Option.getD_none, HT.out]; rfl

theorem find_r (l : List At) (name : ByteArray) (w : World) (ok : Nat → Prop) (A : Option Addr) (c : Nat) (hl : Rd EAt 2 w ok A l) :
    Calls Tryz.prog 91 #[.slice A l.length c, .string name] w fun e w' => e = .returned (.int .i64 (findI l name)) ∧ Grow w w' := by
  obtain ⟨n, hn⟩ : ∃ n, n = l.length := ⟨_, rfl⟩
  rw [← hn]
  have hm : n ≤ 9223372036854775807 := hn ▸ hl.1
  have HN := Lib.hid hn; clear hn
  have HL := Lib.hid hl; clear hl
  go_enter Tryz.func91, Tryz.ntmps91
  go_wp2
  go_loopw [8] (fun i wr => ∃ k : Nat, k ≤ n ∧ i = .int .i64 k ∧ Grow w wr ∧ Hid (∀ j, j < k → (l.getD j z0).name.toList ≠ name.toList)) (fun i _ => n - (intOf i).toNat)
  case atStart => exact ⟨0, Nat.zero_le _, rfl, Below.refl _ _, fun j hj => absurd hj (by omega)⟩
  case round =>
    obtain ⟨k, hk, rfl, hg, ht⟩ := hrel
    have HG := Lib.hid hg
    by_cases hlt : k < n
    · have h1 : k < l.length := by rw [← HN.out]; exact hlt
      obtain ⟨b, o, rfl, _, g1, _⟩ := HL.out.at_at h1
      replace g1 := Grow.cell hg g1
      by_cases e : (l.getD k z0).name.toList = name.toList
      · have hf := findA_at h1 e ht.out
        have HF := Lib.hid hf
        have eb : ((l.getD k z0).name.toList == name.toList) = true := by simpa using e
        clear h1 e hf ht hg
        generalize (l.getD k z0).name = nm at *
        go_wp2
        go_ret
        refine ⟨ret_int ?_, HG.out⟩
        unfold findI; rw [HF.out]
      · have hn : Hid (∀ j, j < k + 1 → (l.getD j z0).name.toList ≠ name.toList) := fun j hj => by
          rcases Nat.lt_or_ge j k with e' | e'
          · exact ht.out j e'
          · rw [show j = k by omega]; exact e
        have eb : ((l.getD k z0).name.toList == name.toList) = false := by simpa using e
        clear h1 e ht hg
        generalize (l.getD k z0).name = nm at *
        go_wp2
        go_roundw
        case rel => exact ⟨k + 1, by omega, by go_num, HG.out, hn⟩
        case measure => simp [intOf]; omega
    · have hk' : k = n := by omega
      have hf : findA l name = none := findA_none fun j hj => ht.out j (by rw [hk', HN.out]; exact hj)
      have HF := Lib.hid hf
      clear hf hk' ht hg
      go_wp2
      go_ret
      refine ⟨ret_int ?_, HG.out⟩
      unfold findI; rw [HF.out]

/-- The reference's comparison of two lists of attributes. -/
theorem attrs_eq (a b : List At) (w : World) (ok ok' : Nat → Prop) (A B : Option Addr) (ca cb : Nat) (ha : Rd EAt 2 w ok A a) (hb : Rd EAt 2 w ok' B b) (hab : a = b) :
    Calls Tryz.prog 92 #[.slice A a.length ca, .slice B b.length cb] w fun e w' => e = .returned (.bool true) ∧ Grow w w' := by
  subst hab
  obtain ⟨n, hn⟩ : ∃ n, n = a.length := ⟨_, rfl⟩
  rw [← hn]
  have hm : n ≤ 9223372036854775807 := hn ▸ ha.1
  have HN := Lib.hid hn; clear hn
  have HA := Lib.hid ha; clear ha
  have HB := Lib.hid hb; clear hb
  have hd : ((n : Int) != n) = false := by simp
  go_enter Tryz.func92, Tryz.ntmps92
  go_wp2
  go_loopw [5, 13] (fun _ i wr => ∃ k : Nat, k ≤ n ∧ i = .int .i64 k ∧ Grow w wr) (fun _ i _ => n - (intOf i).toNat)
  case atStart => exact ⟨0, Nat.zero_le _, rfl, Below.refl _ _⟩
  case round =>
    obtain ⟨k, hk, rfl, hg⟩ := hrel
    have HG := Lib.hid hg
    by_cases hlt : k < n
    · have h1 : k < a.length := by rw [← HN.out]; exact hlt
      obtain ⟨ba, oa, rfl, _, ga, ga'⟩ := HA.out.at_at h1
      obtain ⟨bb, ob, rfl, _, gb, gb'⟩ := HB.out.at_at h1
      replace ga := Grow.cell hg ga
      replace gb := Grow.cell hg gb
      replace ga' := Grow.cell hg ga'
      replace gb' := Grow.cell hg gb'
      generalize (a.getD k z0).name = nm at *
      generalize (a.getD k z0).value = vl at *
      clear h1 hg
      go_wp2
      go_quiet (fail)
      go_wp2
      go_roundw
      case rel => exact ⟨k + 1, by omega, by go_num, grow_drewN HG.out _⟩
      case measure => simp [intOf]; omega
    · clear hg
      go_wp2
      go_ret
      exact ⟨rfl, HG.out⟩
end Go.Proofs.YtacobpmmpdadpaaGreat
set_option linter.unusedVariables false
set_option linter.unusedSimpArgs false
namespace Go.Proofs.YtacobpmmpdadpaaGreat
open Go.RowKit
def encA (a : At) : List Value := [.string a.name, .string a.value]
def cellsA (l : List At) : List Value := l.flatMap encA
theorem cellsA_snoc (l : List At) (a : At) : cellsA (l ++ [a]) = cellsA l ++ encA a := by simp [cellsA]
theorem infoAt : (Tryz.prog.info? 48).map (fun i => (i.zero, i.size, i.bytes)) = some (some (.agg #[.string ⟨#[]⟩, .string ⟨#[]⟩]), 2, 32) := by kernel_rfl
/-- A list of attributes that a call has made. -/
def NewAt (w w' : World) (v : Value) (l : List At) : Prop := RdV EAt 2 w' (New w w' 48) v l
theorem Own.newAt {w0 w : World} {v : Value} {n : Nat} {l : List At} {cs : List Value} (h : Own w0 w 48 2 v n cs) (hc : cs = cellsA l) (hn : n = l.length) : NewAt w0 w v l :=
  h.rdv EAt l encA (fun x _ => rfl) (fun _ => rfl) hc hn
def RetAt (w : World) (l : List At) (e : Ending) (w' : World) : Prop := ∃ v, e = .returned v ∧ NewAt w w' v l ∧ Grow w w'

theorem without_snoc {l : List At} {name : ByteArray} {k : Nat} (hk : k < l.length) : withoutA (l.take (k + 1)) name = if ((l.getD k z0).name.toList == name.toList) = true then withoutA (l.take k) name else withoutA (l.take k) name ++ [l.getD k z0] := by
  rw [take_snoc l z0 hk]
  unfold withoutA
  rw [List.filter_append]
  generalize l.getD k z0 = a
  by_cases e : a.name.toList = name.toList
  · simp [e]
  · simp [e]
def RetAtB (w : World) (l : List At) (b : Bool) (e : Ending) (w' : World) : Prop := ∃ v, e = .returned (.tuple #[v, .bool b]) ∧ NewAt w w' v l ∧ Grow w w'
theorem without_r (l : List At) (name : ByteArray) (w : World) (ok : Nat → Prop) (A : Option Addr) (c : Nat) (hl : Rd EAt 2 w ok A l) (hlen : l.length ≤ 1000000) :
    Calls Tryz.prog 69 #[.slice A l.length c, .string name] w (RetAtB w (withoutA l name) (decide ((withoutA l name).length < l.length))) := by
  obtain ⟨n, hn⟩ : ∃ n, n = l.length := ⟨_, rfl⟩
  rw [← hn]
  have hm : n ≤ 1000000 := hn ▸ hlen
  have HN := Lib.hid hn; clear hn hlen
  have HL := Lib.hid hl; clear hl
  go_enter Tryz.func69, Tryz.ntmps69
  go_wp2
  go_loopw [6, 10] (fun t i wr => ∃ (k q : Nat) (cs : List Value), k ≤ n ∧ q ≤ k ∧ i = .int .i64 k ∧ Hid (q = (withoutA (l.take k) name).length) ∧ Hid (cs = cellsA (withoutA (l.take k) name)) ∧ Own w wr 48 2 t q cs) (fun _ i _ => n - (intOf i).toNat)
  case atStart => exact ⟨0, 0, [], Nat.zero_le _, Nat.le_refl _, rfl, rfl, rfl, Own.nil _ _ (Below.refl _ _)⟩
  case round =>
    obtain ⟨k, q, cs, hk, hq, rfl, hql, hcs, ho⟩ := hrel
    have HO := Lib.hid ho
    by_cases hlt : k < n
    · have h1 : k < l.length := by rw [← HN.out]; exact hlt
      obtain ⟨b, o, rfl, _, g1, g2⟩ := HL.out.at_at h1
      replace g1 := Grow.cell ho.grow g1
      replace g2 := Grow.cell ho.grow g2
      have hsn := without_snoc (name := name) h1
      obtain ⟨a, ha⟩ : ∃ a, a = l.getD k z0 := ⟨_, rfl⟩
      rw [← ha] at g1 g2 hsn
      obtain ⟨nm, vl⟩ := a
      clear ha
      cases e : (nm.toList == name.toList) with
      | true =>
        rw [show ((At.mk nm vl).name.toList == name.toList) = true from e, if_pos rfl] at hsn
        have hql2 : Hid (q = (withoutA (l.take (k + 1)) name).length) := by show _ = _; rw [hsn]; exact hql.out
        have hcs2 : Hid (cs = cellsA (withoutA (l.take (k + 1)) name)) := by show _ = _; rw [hsn]; exact hcs.out
        clear hsn h1 hql hcs ho
        go_wp2
        go_roundw
        case rel => exact ⟨k + 1, q, cs, by omega, by omega, by go_num, hql2, hcs2, HO.out⟩
        case measure => simp [intOf]; omega
      | false =>
        rw [show ((At.mk nm vl).name.toList == name.toList) = false from e, if_neg (by simp)] at hsn
        have hql2 : Hid (q + 1 = (withoutA (l.take (k + 1)) name).length) := by show _ = _; rw [hsn, hql.out]; simp
        have hcs2 : Hid (cs ++ [.string nm, .string vl] = cellsA (withoutA (l.take (k + 1)) name)) := by show _ = _; rw [hsn, hcs.out, cellsA_snoc]; rfl
        clear hsn h1 hql hcs ho
        go_wp2_with (at_builtin; go_must (refine wpl_app (w0 := w) rfl _ _ _ 48 _ 2 32 rfl Tryz.underlying40 infoAt rfl ?z1 ?z2 _ q cs [.string nm, .string vl] rfl rfl ?hg rfl ?z3 ?ho ?hl ?_); (case hg => simp); (case z1 => decide); (case z2 => decide); (case z3 => simp [Value.oneCell']); (case ho => exact HO.out); (case hl => omega); clear HO; intro v1 w1 ho1 _; have HO1 := Lib.hid ho1; clear ho1)
        go_roundw
        case rel => exact ⟨k + 1, q + 1, _, by omega, by omega, by go_num, hql2, hcs2, HO1.out⟩
        case measure => simp [intOf]; omega
    · have hk' : k = n := by omega
      have hl2 : l.take k = l := by rw [hk', HN.out, List.take_length]
      rw [hl2] at hql hcs
      obtain ⟨A', c', rfl⟩ := ho.form
      have hfin : RetAtB w (withoutA l name) (decide ((withoutA l name).length < n)) (.returned (.tuple #[.slice A' q c', .bool (decide (q < n))])) wr := ⟨_, by rw [hql.out], ho.newAt hcs.out hql.out, ho.grow⟩
      have HF := Lib.hid hfin
      clear hfin ho HO hk' hl2 hql hcs
      go_wp2
      go_ret2
      exact HF.out

/-! ### With -/
/-- What has been put out behind k places. -/
def outK (l : List At) (name value : ByteArray) (k : Nat) : List At :=
  match findA l name with
  | some i => (l.set i ⟨(l.getD i z0).name, value⟩).take k
  | none => if k ≤ toA l name then l.take k else l.take (toA l name) ++ ⟨name, value⟩ :: (l.drop (toA l name)).take (k - toA l name)
theorem outK_zero (l : List At) (name value : ByteArray) : outK l name value 0 = [] := by unfold outK; split <;> simp
theorem outK_some {l : List At} {name value : ByteArray} {i k : Nat} (h : findA l name = some i) (hk : k < l.length) : outK l name value (k + 1) = outK l name value k ++ [if k = i then ⟨(l.getD k z0).name, value⟩ else l.getD k z0] := by
  unfold outK
  rw [h]
  simp only []
  rw [take_snoc _ z0 (by simpa using hk)]
  congr 2
  rw [List.getD_eq_getElem?_getD, List.getElem?_set]
  by_cases e : i = k
  · subst e; simp [hk]
  · have e2 : ¬ k = i := fun h => e h.symm
    simp [e, e2]
theorem outK_none {l : List At} {name value : ByteArray} {k : Nat} (h : findA l name = none) (hk : k < l.length) : outK l name value (k + 1) = (if k = toA l name then outK l name value k ++ [⟨name, value⟩] else outK l name value k) ++ [l.getD k z0] := by
  unfold outK
  rw [h]
  simp only []
  generalize toA l name = t
  rcases Nat.lt_trichotomy k t with e | e | e
  · rw [if_pos (by omega), if_neg (by omega), if_pos (by omega), take_snoc l z0 hk]
  · subst e
    rw [if_neg (by omega), if_pos rfl, if_pos (Nat.le_refl _), show k + 1 - k = 1 by omega]
    have : l.drop k = l.getD k z0 :: l.drop (k + 1) := by
      rw [List.drop_eq_getElem_cons hk]; simp [List.getD_eq_getElem?_getD, List.getElem?_eq_getElem hk]
    rw [this]; simp
  · rw [if_neg (by omega), if_neg (by omega), if_neg (by omega), show k + 1 - t = (k - t) + 1 by omega, take_snoc (l.drop t) z0 (by simp; omega)]
    have : (l.drop t).getD (k - t) z0 = l.getD k z0 := by
      rw [List.getD_eq_getElem?_getD, List.getElem?_drop, List.getD_eq_getElem?_getD, show t + (k - t) = k by omega]
    rw [this]; simp
theorem outK_end {l : List At} {name value : ByteArray} : withA l name value = match findA l name with | some _ => outK l name value l.length | none => if toA l name = l.length then outK l name value l.length ++ [⟨name, value⟩] else outK l name value l.length := by
  unfold withA outK
  cases h : findA l name with
  | some i =>
    simp only []
    rw [List.take_of_length_le (by simp)]
  | none =>
    simp only []
    have hle := toA_le l name
    by_cases e : toA l name = l.length
    · rw [if_pos e, if_pos (by omega), e]; simp
    · rw [if_neg e, if_neg (by omega), List.take_of_length_le (l := l.drop (toA l name)) (by simp)]

theorem cmp_le {a b : ByteArray} : (cmpB a b ≤ 0) ↔ Op.bytesLess b.toList a.toList = false := by
  have ht := bl_tot a.toList b.toList
  unfold cmpB
  cases h : Op.bytesLess a.toList b.toList with
  | true => rw [h] at ht; simp at ht; simp [ht]
  | false => cases h2 : Op.bytesLess b.toList a.toList <;> simp
theorem toA_at {l : List At} {name : ByteArray} {k : Nat} (hk : k < l.length) (h : Op.bytesLess name.toList (l.getD k z0).name.toList = true) (ha : ∀ j, j < k → Op.bytesLess name.toList (l.getD j z0).name.toList = false) : toA l name = k := by
  have : (List.range l.length).find? (fun i => Op.bytesLess name.toList (l.getD i z0).name.toList) = some k := by
    rw [List.find?_range_eq_some]
    exact ⟨h, by simpa using hk, fun j hj => by simp only [ha j hj]; rfl⟩
  unfold toA
  rw [this]; rfl
theorem toA_end {l : List At} {name : ByteArray} (ha : ∀ j, j < l.length → Op.bytesLess name.toList (l.getD j z0).name.toList = false) : toA l name = l.length := by
  have : (List.range l.length).find? (fun i => Op.bytesLess name.toList (l.getD i z0).name.toList) = none := by
    rw [List.find?_eq_none]
    intro j hj
    simp only [ha j (by simpa using hj)]; simp
  unfold toA
  rw [this]; rfl

theorem with_r (l : List At) (name value : ByteArray) (w : World) (ok : Nat → Prop) (A : Option Addr) (c : Nat) (hl : Rd EAt 2 w ok A l) (hs : SizedA l) (hnm : name.size ≤ 9223372036854775807) (hlen : l.length ≤ 1000000) :
    Calls Tryz.prog 68 #[.slice A l.length c, .string name, .string value] w (RetAt w (withA l name value)) := by
  have hfr := find_r l name w ok A c hl
  obtain ⟨n, hn⟩ : ∃ n, n = l.length := ⟨_, rfl⟩
  rw [← hn] at hfr ⊢
  have hm : n ≤ 1000000 := hn ▸ hlen
  have HN := Lib.hid hn; clear hn hlen
  have HL := Lib.hid hl; clear hl
  have HS := Lib.hid hs; clear hs
  have HFR := Lib.hid hfr; clear hfr
  obtain ⟨at0, hat⟩ : ∃ x, x = findI l name := ⟨_, rfl⟩
  rw [← hat] at HFR
  have HAT := Lib.hid hat; clear hat
  go_enter Tryz.func68, Tryz.ntmps68
  go_upto_block 0 with (go_at_call 91; refine HFR.out.mono ?_; rintro e w1 ⟨rfl, hg1⟩; have HG1 := Lib.hid hg1; clear hg1)
  clear HFR
  go_cut [8] (fun t wr => ∃ k : Nat, k ≤ n ∧ t = .int .i64 k ∧ Hid (Grow w wr) ∧ Hid (toA l name = k))
  case first =>
    go_wp2
    go_loopw [8, 15] (fun t _ wr => ∃ k : Nat, k ≤ n ∧ t = .int .i64 k ∧ Grow w wr ∧ Hid (∀ j, j < k → Op.bytesLess name.toList (l.getD j z0).name.toList = false)) (fun t _ _ => n - (intOf t).toNat)
    case atStart => exact ⟨0, Nat.zero_le _, rfl, HG1.out, fun j hj => absurd hj (by omega)⟩
    case round =>
      obtain ⟨k, hk, rfl, hg, ht⟩ := hrel
      have HG := Lib.hid hg
      by_cases hlt : k < n
      · have h1 : k < l.length := by rw [← HN.out]; exact hlt
        obtain ⟨b, o, rfl, _, g1, _⟩ := HL.out.at_at h1
        replace g1 := Grow.cell hg g1
        have HK := fun W => compare_any (l.getD k z0).name name W (HS.out.at k).1 hnm
        cases hcb : Op.bytesLess name.toList (l.getD k z0).name.toList with
        | false =>
          have hle : cmpB (l.getD k z0).name name ≤ 0 := cmp_le.2 hcb
          have hn : Hid (∀ j, j < k + 1 → Op.bytesLess name.toList (l.getD j z0).name.toList = false) := fun j hj => by
            rcases Nat.lt_or_ge j k with e' | e'
            · exact ht.out j e'
            · rw [show j = k by omega]; exact hcb
          generalize cmpB (l.getD k z0).name name = cb at *
          generalize (l.getD k z0).name = nm at *
          clear hcb h1 ht hg HG1
          go_wp2_with (go_at_call 90; refine (HK _).mono ?_; rintro e w2 ⟨rfl, nn, rfl⟩)
          go_roundw
          case rel => exact ⟨k + 1, by omega, by go_num, grow_drewN HG.out _, hn⟩
          case measure => simp [intOf]; omega
        | true =>
          have hle : 0 < cmpB (l.getD k z0).name name := by
            rcases Int.lt_or_le 0 (cmpB (l.getD k z0).name name) with h | h
            · exact h
            · rw [cmp_le.1 h] at hcb; cases hcb
          have hta := toA_at h1 hcb ht.out
          have HTA := Lib.hid hta
          generalize cmpB (l.getD k z0).name name = cb at *
          generalize (l.getD k z0).name = nm at *
          clear hcb h1 ht hg HG1 hta
          go_wp2_with (go_at_call 90; refine (HK _).mono ?_; rintro e w2 ⟨rfl, nn, rfl⟩)
          go_meet
          exact ⟨k, by omega, rfl, grow_drewN HG.out _, HTA.out⟩
      · have hk' : k = n := by omega
        have hta : toA l name = k := by rw [hk', HN.out]; exact toA_end fun j hj => ht.out j (by rw [hk', HN.out]; exact hj)
        have HTA := Lib.hid hta
        clear ht hg HG1 hta hk'
        go_wp2
        go_meet
        exact ⟨k, by omega, rfl, HG.out, HTA.out⟩
  case rest =>
    obtain ⟨tt, hto, rfl, HG, HTA⟩ := hcut
    clear HG1
    have hkeep : findA l name = none ∧ at0 = -1 ∨ ∃ i : Nat, findA l name = some i ∧ at0 = i := by
      have := HAT.out
      unfold findI at this
      cases h : findA l name with
      | none => left; exact ⟨rfl, by rw [h] at this; exact this⟩
      | some i => right; exact ⟨i, rfl, by rw [h] at this; exact this⟩
    rcases hkeep with ⟨hf, rfl⟩ | ⟨i, hf, rfl⟩
    · have HF := Lib.hid hf; clear hf HAT
      go_upto_block 2 with (fail)
      go_cut [9] (fun t wr => ∃ (q : Nat) (cs : List Value), q ≤ 1000001 ∧ Hid (q = (outK l name value n).length) ∧ Hid (cs = cellsA (outK l name value n)) ∧ Hid (Own w wr 48 2 t q cs))
      case first =>
        go_wp2
        go_loopw [9, 33] (fun t i wr => ∃ (k q : Nat) (cs : List Value), k ≤ n ∧ q ≤ k + 1 ∧ i = .int .i64 k ∧ Hid (q = (outK l name value k).length) ∧ Hid (cs = cellsA (outK l name value k)) ∧ Hid (Own w wr 48 2 t q cs)) (fun _ i _ => n - (intOf i).toNat)
        case atStart => exact ⟨0, 0, [], Nat.zero_le _, by omega, rfl, by show _ = _; rw [outK_zero]; rfl, by show _ = _; rw [outK_zero]; rfl, Own.nil _ _ HG.out⟩
        case round =>
          obtain ⟨k, q, cs, hk, hq, rfl, hql, hcs, HO⟩ := hrel
          by_cases hlt : k < n
          · have h1 : k < l.length := by rw [← HN.out]; exact hlt
            obtain ⟨b, o, rfl, _, g1, g2⟩ := HL.out.at_at h1
            have hsn := outK_none (name := name) (value := value) HF.out h1
            obtain ⟨a, ha⟩ : ∃ a, a = l.getD k z0 := ⟨_, rfl⟩
            rw [← ha] at g1 g2 hsn
            obtain ⟨nm, vl⟩ := a
            have G1 := Lib.hid g1
            have G2 := Lib.hid g2
            replace g1 := Grow.cell HO.out.grow g1
            replace g2 := Grow.cell HO.out.grow g2
            clear ha h1 HG
            by_cases e : k = tt
            · rw [if_pos (e.trans HTA.out.symm)] at hsn
              have hql2 : Hid (q + 1 + 1 = (outK l name value (k + 1)).length) := by show _ = _; rw [hsn, hql.out]; simp
              have hcs2 : Hid ((cs ++ [.string name, .string value]) ++ [.string nm, .string vl] = cellsA (outK l name value (k + 1))) := by show _ = _; rw [hsn, hcs.out, cellsA_snoc, cellsA_snoc]; rfl
              have hq2 : Hid (q + 1 + 1 ≤ k + 1 + 1) := by
                show _ ≤ _
                have h3 := hql.out
                unfold outK at h3
                rw [HF.out] at h3
                simp only [] at h3
                rw [if_pos (by rw [HTA.out]; omega)] at h3
                simp at h3; omega
              have e2 : ((k : Int) == tt) = true := by simp [e]
              have e3 : ((k : Int) == -1) = false := by rw [beq_eq_false_iff_ne]; omega
              have tok1 : True := trivial
              have tok2 : True := trivial
              clear hsn hql hcs e
              go_wp2_with (first | (at_builtin; have _t := tok1; refine wpl_app (w0 := w) rfl _ _ _ 48 _ 2 32 rfl Tryz.underlying40 infoAt rfl ?z1 ?z2 _ q cs [.string name, .string value] rfl rfl ?hg rfl ?z3 ?ho ?hl ?_; (case hg => simp); (case z1 => decide); (case z2 => decide); (case z3 => simp [Value.oneCell']); (case ho => first | exact HO.out | exact HO.out.alloc _); (case hl => omega); clear HO tok1; intro v1 w1 ho1 _; have g1b := Grow.cell ho1.grow G1.out; have g2b := Grow.cell ho1.grow G2.out; have HO := Lib.hid ho1; clear ho1) | (at_builtin; have _t := tok2; refine wpl_app (w0 := w) rfl _ _ _ 48 _ 2 32 rfl Tryz.underlying40 infoAt rfl ?z1 ?z2 _ (q + 1) (cs ++ [.string name, .string value]) [.string nm, .string vl] rfl rfl ?hg rfl ?z3 ?ho ?hl ?_; (case hg => simp); (case z1 => decide); (case z2 => decide); (case z3 => simp [Value.oneCell']); (case ho => first | exact HO.out | exact HO.out.alloc _); (case hl => omega); clear HO tok2; intro v1 w1 ho1 _; have HO := Lib.hid ho1; clear ho1))
              go_roundw
              case rel => exact ⟨k + 1, q + 1 + 1, _, by omega, hq2.out, by go_num, hql2, hcs2, HO⟩
              case measure => simp [intOf]; omega
            · rw [if_neg (fun h => e (h.trans HTA.out))] at hsn
              have hql2 : Hid (q + 1 = (outK l name value (k + 1)).length) := by show _ = _; rw [hsn, hql.out]; simp
              have hcs2 : Hid (cs ++ [.string nm, .string vl] = cellsA (outK l name value (k + 1))) := by show _ = _; rw [hsn, hcs.out, cellsA_snoc]; rfl
              have e2 : ((k : Int) == tt) = false := by rw [beq_eq_false_iff_ne]; omega
              have e3 : ((k : Int) == -1) = false := by rw [beq_eq_false_iff_ne]; omega
              have tok2 : True := trivial
              clear hsn hql hcs e
              go_wp2_with (at_builtin; have _t := tok2; refine wpl_app (w0 := w) rfl _ _ _ 48 _ 2 32 rfl Tryz.underlying40 infoAt rfl ?z1 ?z2 _ q cs [.string nm, .string vl] rfl rfl ?hg rfl ?z3 ?ho ?hl ?_; (case hg => simp); (case z1 => decide); (case z2 => decide); (case z3 => simp [Value.oneCell']); (case ho => first | exact HO.out | exact HO.out.alloc _); (case hl => omega); clear HO tok2; intro v1 w1 ho1 _; have HO := Lib.hid ho1; clear ho1)
              go_roundw
              case rel => exact ⟨k + 1, q + 1, _, by omega, by omega, by go_num, hql2, hcs2, HO⟩
              case measure => simp [intOf]; omega
          · have hk' : k = n := by omega
            rw [hk'] at hql hcs
            clear HG
            go_wp2
            go_meet
            exact ⟨q, cs, by omega, hql, hcs, HO⟩
      case rest =>
        clear HG
        obtain ⟨q, cs, hq, hql, hcs, HO⟩ := hcut
        have hend := outK_end (l := l) (name := name) (value := value)
        rw [HF.out] at hend
        simp only [] at hend
        rw [HTA.out, ← HN.out] at hend
        by_cases e : tt = n
        · rw [if_pos e] at hend
          have e2 : ((tt : Int) == n) = true := by simp [e]
          have hfin : ∀ v1 w1, Own w w1 48 2 v1 (q + 1) (cs ++ [.string name, .string value]) → RetAt w (withA l name value) (.returned v1) w1 := fun v1 w1 h => ⟨v1, rfl, h.newAt (by rw [hend, hcs.out, cellsA_snoc]; rfl) (by rw [hend, hql.out]; simp), h.grow⟩
          have HFIN := Lib.hid hfin
          have tok1 : True := trivial
          clear hfin hend e hql hcs
          go_wp2_with (at_builtin; have _t := tok1; refine wpl_app (w0 := w) rfl _ _ _ 48 _ 2 32 rfl Tryz.underlying40 infoAt rfl ?z1 ?z2 _ q cs [.string name, .string value] rfl rfl ?hg rfl ?z3 ?ho ?hl ?_; (case hg => simp); (case z1 => decide); (case z2 => decide); (case z3 => simp [Value.oneCell']); (case ho => first | exact HO.out | exact HO.out.alloc _); (case hl => omega); clear HO tok1; intro v1 w1 ho1 _; have HO := Lib.hid ho1; clear ho1)
          go_ret
          exact HFIN.out _ _ HO.out
        · rw [if_neg e] at hend
          have e2 : ((tt : Int) == n) = false := by rw [beq_eq_false_iff_ne]; omega
          have hfin : ∀ v1 w1, Own w w1 48 2 v1 q cs → RetAt w (withA l name value) (.returned v1) w1 := fun v1 w1 h => ⟨v1, rfl, h.newAt (by rw [hend, hcs.out]) (by rw [hend, hql.out]), h.grow⟩
          have HFIN := Lib.hid hfin
          clear hfin hend e hql hcs
          go_wp2
          go_ret
          exact HFIN.out _ _ HO.out
    · have HF := Lib.hid hf; clear hf HAT
      have hi0 : (0 : Int) ≤ i := by omega
      go_upto_block 2 with (fail)
      go_cut [9] (fun t wr => ∃ (q : Nat) (cs : List Value), q ≤ 1000001 ∧ Hid (q = (outK l name value n).length) ∧ Hid (cs = cellsA (outK l name value n)) ∧ Hid (Own w wr 48 2 t q cs))
      case first =>
        go_wp2
        go_loopw [9, 33] (fun t i wr => ∃ (k q : Nat) (cs : List Value), k ≤ n ∧ q ≤ k + 1 ∧ i = .int .i64 k ∧ Hid (q = (outK l name value k).length) ∧ Hid (cs = cellsA (outK l name value k)) ∧ Hid (Own w wr 48 2 t q cs)) (fun _ i _ => n - (intOf i).toNat)
        case atStart => exact ⟨0, 0, [], Nat.zero_le _, by omega, rfl, by show _ = _; rw [outK_zero]; rfl, by show _ = _; rw [outK_zero]; rfl, Own.nil _ _ HG.out⟩
        case round =>
          obtain ⟨k, q, cs, hk, hq, rfl, hql, hcs, HO⟩ := hrel
          by_cases hlt : k < n
          · have h1 : k < l.length := by rw [← HN.out]; exact hlt
            obtain ⟨b, o, rfl, _, g1, g2⟩ := HL.out.at_at h1
            have hsn := outK_some (name := name) (value := value) HF.out h1
            obtain ⟨a, ha⟩ : ∃ a, a = l.getD k z0 := ⟨_, rfl⟩
            rw [← ha] at g1 g2 hsn
            obtain ⟨nm, vl⟩ := a
            have G1 := Lib.hid g1
            have G2 := Lib.hid g2
            replace g1 := Grow.cell HO.out.grow g1
            replace g2 := Grow.cell HO.out.grow g2
            clear ha h1 HG
            by_cases e : k = i
            · subst e
              rw [if_pos rfl] at hsn
              have hql2 : Hid (q + 1 = (outK l name value (k + 1)).length) := by show _ = _; rw [hsn, hql.out]; simp
              have hcs2 : Hid (cs ++ [.string nm, .string value] = cellsA (outK l name value (k + 1))) := by show _ = _; rw [hsn, hcs.out, cellsA_snoc]; rfl
              have tok1 : True := trivial
              clear hsn hql hcs
              go_wp2_with (at_builtin; have _t := tok1; refine wpl_app (w0 := w) rfl _ _ _ 48 _ 2 32 rfl Tryz.underlying40 infoAt rfl ?z1 ?z2 _ q cs [.string nm, .string value] rfl rfl ?hg rfl ?z3 ?ho ?hl ?_; (case hg => simp); (case z1 => decide); (case z2 => decide); (case z3 => simp [Value.oneCell']); (case ho => first | exact HO.out | exact HO.out.alloc _); (case hl => omega); clear HO tok1; intro v1 w1 ho1 _; have HO := Lib.hid ho1; clear ho1)
              go_roundw
              case rel => exact ⟨k + 1, q + 1, _, by omega, by omega, by go_num, hql2, hcs2, HO⟩
              case measure => simp [intOf]; omega
            · rw [if_neg e] at hsn
              have hql2 : Hid (q + 1 = (outK l name value (k + 1)).length) := by show _ = _; rw [hsn, hql.out]; simp
              have hcs2 : Hid (cs ++ [.string nm, .string vl] = cellsA (outK l name value (k + 1))) := by show _ = _; rw [hsn, hcs.out, cellsA_snoc]; rfl
              have e3 : ((k : Int) == i) = false := by rw [beq_eq_false_iff_ne]; omega
              have tok1 : True := trivial
              clear hsn hql hcs e
              go_wp2_with (at_builtin; have _t := tok1; refine wpl_app (w0 := w) rfl _ _ _ 48 _ 2 32 rfl Tryz.underlying40 infoAt rfl ?z1 ?z2 _ q cs [.string nm, .string vl] rfl rfl ?hg rfl ?z3 ?ho ?hl ?_; (case hg => simp); (case z1 => decide); (case z2 => decide); (case z3 => simp [Value.oneCell']); (case ho => first | exact HO.out | exact HO.out.alloc _); (case hl => omega); clear HO tok1; intro v1 w1 ho1 _; have HO := Lib.hid ho1; clear ho1)
              go_roundw
              case rel => exact ⟨k + 1, q + 1, _, by omega, by omega, by go_num, hql2, hcs2, HO⟩
              case measure => simp [intOf]; omega
          · have hk' : k = n := by omega
            rw [hk'] at hql hcs
            clear HG
            go_wp2
            go_meet
            exact ⟨q, cs, by omega, hql, hcs, HO⟩
      case rest =>
        clear HG
        obtain ⟨q, cs, hq, hql, hcs, HO⟩ := hcut
        have hend := outK_end (l := l) (name := name) (value := value)
        rw [HF.out] at hend
        simp only [] at hend
        rw [← HN.out] at hend
        have hfin : ∀ v1 w1, Own w w1 48 2 v1 q cs → RetAt w (withA l name value) (.returned v1) w1 := fun v1 w1 h => ⟨v1, rfl, h.newAt (by rw [hend, hcs.out]) (by rw [hend, hql.out]), h.grow⟩
        have HFIN := Lib.hid hfin
        clear hfin hend hql hcs
        go_wp2
        go_ret
        exact HFIN.out _ _ HO.out
end Go.Proofs.YtacobpmmpdadpaaGreat
set_option linter.unusedVariables false
set_option linter.unusedSimpArgs false
namespace Go.Proofs.YtacobpmmpdadpaaGreat
open Go.RowKit
theorem add_at (b o j : Nat) : (⟨b, o, none⟩ : Addr).add j = ⟨b, o + j, none⟩ := by unfold Addr.add; split <;> simp_all
theorem cellsA_length (l : List At) : (cellsA l).length = l.length * 2 := by
  induction l with
  | nil => rfl
  | cons a r ih => rw [cellsA, List.flatMap_cons, List.length_append, show (encA a).length = 2 from rfl, show (r.flatMap encA).length = r.length * 2 from ih, List.length_cons]; omega
theorem cellsA_append (a b : List At) : cellsA (a ++ b) = cellsA a ++ cellsA b := by simp [cellsA]
theorem cellsA_one {l : List At} : ∀ u ∈ cellsA l, u.oneCell' = true := by
  intro u hu
  obtain ⟨a, _, h⟩ := List.mem_flatMap.1 hu
  simp only [encA, List.mem_cons, List.not_mem_nil, or_false] at h
  rcases h with rfl | rfl <;> rfl
theorem cellsA_take (l : List At) (i : Nat) : cellsA (l.take i) = (cellsA l).take (i * 2) := by
  induction l generalizing i with
  | nil => simp [cellsA]
  | cons a r ih =>
    cases i with
    | zero => simp [cellsA]
    | succ i =>
      rw [List.take_succ_cons]
      show encA a ++ cellsA (r.take i) = (encA a ++ cellsA r).take _
      rw [ih, show (i + 1) * 2 = (encA a).length + i * 2 by simp [encA]; omega, List.take_length_add_append]
theorem cellsA_drop (l : List At) (i : Nat) : cellsA (l.drop i) = (cellsA l).drop (i * 2) := by
  have h1 : cellsA (l.take i) ++ cellsA (l.drop i) = cellsA l := by rw [← cellsA_append, List.take_append_drop]
  rw [cellsA_take] at h1
  have h2 := List.take_append_drop (i * 2) (cellsA l)
  exact List.append_cancel_left (h1.trans h2.symm)
/-- What is read of a row, cell by cell. -/
theorem Rd.cellsOf {w : World} {ok : Nat → Prop} {ad : Addr} {l : List At} (h : Rd EAt 2 w ok (some ad) l) (j : Nat) (u : Value) (hu : (cellsA l)[j]? = some u) : w.cell? (ad.add j) = some u := by
  rcases h.2 with rfl | ⟨b, o, e, _, hx⟩
  · simp [cellsA] at hu
  · cases e
    have hj := (List.getElem?_eq_some_iff.1 hu).1
    rw [cellsA_length] at hj
    have hi : j / 2 < l.length := by omega
    obtain ⟨cs, rfl, _, hc⟩ := hx (j / 2) _ (List.getElem?_eq_getElem hi)
    have h2 : (cellsA l)[j]? = [Value.string l[j / 2].name, Value.string l[j / 2].value][j % 2]? := by
      have e1 := cellsA_drop l (j / 2)
      rw [List.drop_eq_getElem_cons hi] at e1
      have e2 : (cellsA l)[j]? = ((cellsA l).drop (j / 2 * 2))[j % 2]? := by
        rw [List.getElem?_drop]; congr 1; omega
      rw [e2, ← e1]
      show (encA _ ++ _)[j % 2]? = _
      rw [List.getElem?_append_left (by simp [encA]; omega)]
      rfl
    rw [h2] at hu
    have := hc (j % 2) u hu
    rw [add_at, show o + j = o + j / 2 * 2 + j % 2 by omega]
    exact this

section
variable {P : Program}
theorem run_copyN (w : World) (dT sT ty elem : TypeId) (sz g o dLen dCap : Nat) (a : Addr) (sLen sCap : Nat) (cur : Array Value) (t : TypeId) (cs : List Value) (k : Nat)
    (hu : P.underlying dT = some (.slice elem)) (hs : (P.info? elem).map (·.size) = some sz)
    (hg : w.heap[g]? = some (.cells cur t (0, 0))) (hk : k = Nat.min sLen dLen) (hn : cs.length = k * sz)
    (hsrc : ∀ j v, cs[j]? = some v → w.cell? (a.add j) = some v) (hfit : o + cs.length ≤ cur.size) (h1 : ∀ v ∈ cs, v.oneCell' = true) :
    (Builtin.copy_ #[dT, sT] ty #[.slice (some ⟨g, o, none⟩) dLen dCap, .slice (some a) sLen sCap]).run P w =
      .ok (goInt k) (w.setRow g (cur.toList.take o ++ cs ++ cur.toList.drop (o + cs.length)).toArray) := by
  subst hk
  have hl := run_loadCells_list (P := P) w a cs hsrc
  have hst := run_storeCells_at P g o t cs 0 cur w hg (by simpa using hfit) h1
  cases hq : P.info? elem with
  | none => simp [hq] at hs
  | some i =>
    have hi : i.size = sz := by simpa [hq] using hs
    simp [Builtin.copy_, run_underlying hu, Builtin.lenOf, Builtin.firstCells, sizeOf, typeInfo, hq, hi, ← hn, hl, hst]
end
theorem infoAt2 : (Tryz.prog.info? 48).map (·.size) = some 2 := by kernel_rfl

/-- What a call hands back that it owns. -/
def RetOwn (w0 : World) (l : List At) (e : Ending) (w' : World) : Prop := ∃ v, e = .returned v ∧ Own w0 w' 48 2 v l.length (cellsA l)
section
variable {P : Program} {ops : Array Oper} {rest : List Oper} {o : Oper} {a : Act} {Q : Exit → Act → World → Prop}
/-- append(v, x...), x a row that is read. -/
theorem wpl_apps {w0 W : World} (hgd : o.guard = none) (s x : Operand) (t e : TypeId) (z : Value) (size bytes : Nat)
    (ho : o.op = .call { callee := .builtin .append, args := #[s, x], argTypes := #[t, t] })
    (ht : P.underlying t = some (.slice e)) (hinfo : (P.info? e).map (fun i => (i.zero, i.size, i.bytes)) = some (some z, size, bytes)) (hz : z.cells.size = size) (hs0 : 0 < size) (hb0 : 0 < bytes)
    (v : Value) (n : Nat) (cs ys : List Value) (hs : a.eval s = v) (ad : Addr) (m c : Nat) (hx : a.eval x = .slice (some ad) m c) (hys : ys.length = m * size) (hsrc : ∀ j u, ys[j]? = some u → W.cell? (ad.add j) = some u) (h1 : ∀ u ∈ ys, u.oneCell' = true)
    (HO : Own w0 W e size v n cs) (hl : (n + m) * bytes ≤ 140737488355328)
    (h : ∀ v1 w1, Own w0 w1 e size v1 (n + m) (cs ++ ys) → W.grownBy w1 v.ownBlock → wpList P ops Q rest (a.put o.dst v1) w1) :
    wpList P ops Q (o :: rest) a W := by
  obtain ⟨i0, hi, hzz⟩ := Option.map_eq_some_iff.1 hinfo
  simp only [Prod.mk.injEq] at hzz
  obtain ⟨hz0, hz1, hz2⟩ := hzz
  have hlen : n + m ≤ 140737488355328 := Nat.le_trans (Nat.le_mul_of_pos_right _ hb0) hl
  refine wpList_append_own W hgd s x t ho w0.heap.size e i0 z size bytes ht hi hz0 hz1 hz2 hz hs0 v n cs hs HO.1 ad m c ys hx hys hsrc h1 (by simp only [maxLen]; omega) hl HO.2.size ?_
  intro v1 w1 hown hg _
  exact h v1 w1 ⟨hown, Below.grown HO.2 hg HO.2.size (fun k hk => HO.base k hk)⟩ hg
end

theorem clone_p (l : List At) (w : World) (ok : Nat → Prop) (A : Option Addr) (c : Nat) (hl : Rd EAt 2 w ok A l) (hlen : l.length ≤ 1000000) :
    Calls Tryz.prog 28 #[.slice A l.length c] w (RetOwn w l) := by
  cases A with
  | none =>
    have h0 : l = [] := by
      rcases hl.2 with h | ⟨b, o, e, _⟩
      · exact h
      · cases e
    subst h0
    have hfin : RetOwn w ([] : List At) (.returned (.slice none 0 0)) w := ⟨_, rfl, Own.nil _ _ (Below.refl _ _)⟩
    have HF := Lib.hid hfin
    clear hfin hl hlen
    have he := Lib.run_eql_slice_nil (P := Tryz.prog) w 40 48 none 0 c 0 0 Tryz.underlying40
    go_enter Tryz.func28, Tryz.ntmps28
    go_wp2
    go_ret
    exact HF.out
  | some ad =>
    have hsrc := fun (W : World) (hg : Grow w W) (j : Nat) (u : Value) (hu : (cellsA l)[j]? = some u) => Grow.cell hg (Rd.cellsOf hl j u hu)
    have HS := Lib.hid hsrc
    clear hsrc hl
    obtain ⟨n, hn⟩ : ∃ n, n = l.length := ⟨_, rfl⟩
    have HN := Lib.hid hn
    rw [← hn] at hlen ⊢
    clear hn
    have he := Lib.run_eql_slice_nil (P := Tryz.prog) w 40 48 (some ad) n c 0 0 Tryz.underlying40
    go_enter Tryz.func28, Tryz.ntmps28
    go_wp2_with (at_builtin; refine wpl_apps (w0 := w) rfl _ _ 40 48 _ 2 32 rfl Tryz.underlying40 infoAt rfl ?z1 ?z2 (.slice (some ⟨w.heap.size, 0, none⟩) 0 0) 0 [] (cellsA l) rfl ad n c rfl ?hy ?hsrc ?h1 ?ho ?hl ?_; (case z1 => decide); (case z2 => decide); (case hy => rw [cellsA_length, HN.out]); (case hsrc => exact HS.out _ (grow_alloc (Below.refl _ _) _)); (case h1 => exact cellsA_one); (case ho => exact Own.lit (Below.refl _ _) _ _ 0 #[] rfl (by decide)); (case hl => omega); intro v1 w1 ho1 _; have HO := Lib.hid ho1; clear ho1)
    go_ret
    refine ⟨v1, rfl, ?_⟩
    have h2 := HO.out
    rw [Nat.zero_add, List.nil_append] at h2
    rw [← HN.out]; exact h2

/-- What Insert is given: a row of the call's own, a place, one attribute in a block of its own. -/
theorem insert_end (l : List At) (nm vl : ByteArray) (w0 w : World) (v : Value) (vb : Nat) (hv : Own w0 w 48 2 v l.length (cellsA l)) (hb : w.heap[vb]? = some (.cells #[.string nm, .string vl] 48 (0, 0))) (hlen : l.length ≤ 1000000) :
    Calls Tryz.prog 86 #[v, .int .i64 (l.length : Int), .slice (some ⟨vb, 0, none⟩) 1 1] w (RetOwn w0 (l ++ [⟨nm, vl⟩])) := by
  obtain ⟨n, hn⟩ : ∃ n, n = l.length := ⟨_, rfl⟩
  have HN := Lib.hid hn
  rw [← hn] at hlen hv ⊢
  clear hn
  obtain ⟨A, c, rfl⟩ := hv.form
  have HO := Lib.hid hv
  have HB := Lib.hid hb
  have hnc : n ≤ c := by
    rcases hv.1.2 with ⟨e, h0⟩ | ⟨g, cap, cur, e, _, _, h1, _⟩
    · cases e; omega
    · cases e; exact h1
  have hcm : c ≤ 9223372036854775807 := by
    rcases hv.1.2 with ⟨e, h0⟩ | ⟨g, cap, cur, e, _, _, _, h1, _⟩
    · cases e; omega
    · cases e; simp only [maxLen] at h1; omega
  clear hv hb
  cases A with
  | none =>
    go_enter Tryz.func86, Tryz.ntmps86
    go_wp2_with (at_builtin; refine wpl_apps (w0 := w0) rfl _ _ 40 48 _ 2 32 rfl Tryz.underlying40 infoAt rfl ?z1 ?z2 _ n (cellsA l) [.string nm, .string vl] rfl ⟨vb, 0, none⟩ 1 1 rfl ?hy ?hsrc ?h1 ?ho ?hl ?_; (case z1 => decide); (case z2 => decide); (case hy => rfl); (case hsrc => exact World.news_of_block HB.out); (case h1 => simp [Value.oneCell']); (case ho => exact HO.out); (case hl => omega); intro v1 w1 ho1 _; have HO1 := Lib.hid ho1; clear ho1)
    go_ret
    exact ⟨v1, rfl, by rw [List.length_append, cellsA_append, ← HN.out]; exact HO1.out⟩
  | some ad =>
    go_enter Tryz.func86, Tryz.ntmps86
    go_wp2_with (at_builtin; refine wpl_apps (w0 := w0) rfl _ _ 40 48 _ 2 32 rfl Tryz.underlying40 infoAt rfl ?z1 ?z2 _ n (cellsA l) [.string nm, .string vl] rfl ⟨vb, 0, none⟩ 1 1 rfl ?hy ?hsrc ?h1 ?ho ?hl ?_; (case z1 => decide); (case z2 => decide); (case hy => rfl); (case hsrc => exact World.news_of_block HB.out); (case h1 => simp [Value.oneCell']); (case ho => exact HO.out); (case hl => omega); intro v1 w1 ho1 _; have HO1 := Lib.hid ho1; clear ho1)
    all_goals (go_ret; exact ⟨v1, rfl, by rw [List.length_append, cellsA_append, ← HN.out]; exact HO1.out⟩)
theorem sizeAt : ∀ w, (Go.sizeOf 48).run Tryz.prog w = .ok 2 w := fun w => by
  obtain ⟨i0, h, h2⟩ := Option.map_eq_some_iff.1 infoAt2
  simp [sizeOf, typeInfo, h, h2]
theorem run_overlaps_no (w : World) (vb g o lb cb : Nat) (cv cg : Array Value) (hv : w.heap[vb]? = some (.cells cv 48 (0, 0))) (hg : w.heap[g]? = some (.cells cg 48 (0, 0))) (hne : g ≠ vb) (h0 : cg.size ≠ 0) :
    (callFunc 101 #[.slice (some ⟨vb, 0, none⟩) 1 1, .slice (some ⟨g, o, none⟩) lb cb]).run Tryz.prog w = .ok (.value (.bool false)) w := by
  rw [run_callFunc_extern Tryz.func101 (by kernel_rfl) (by kernel_rfl) (by kernel_rfl) (e := Extern.SlicesOverlaps.overlaps #[40, 40] #[4]) (by kernel_rfl),
    Lib.run_overlaps_apart w 40 4 48 Tryz.underlying40 2 sizeAt ⟨vb, 0, none⟩ ⟨g, o, none⟩ 1 1 lb cb (fun e => hne e.symm) 48 48 cv.size cg.size (by simp [World.shape?, hv]) (by simp [World.shape?, hg]) h0 (by simp [World.frozen?, hv]) (by simp [World.frozen?, hv])]
  rfl
set_option maxHeartbeats 4000000 in
set_option maxRecDepth 100000 in
theorem insert_mid (l : List At) (i : Nat) (nm vl : ByteArray) (w0 w : World) (v : Value) (vb : Nat) (hv : Own w0 w 48 2 v l.length (cellsA l)) (hb : w.heap[vb]? = some (.cells #[.string nm, .string vl] 48 (0, 0))) (hne : v.ownBlock ≠ some vb) (hi : i < l.length) (hlen : l.length ≤ 1000000) :
    Calls Tryz.prog 86 #[v, .int .i64 (i : Int), .slice (some ⟨vb, 0, none⟩) 1 1] w (RetOwn w0 (l.take i ++ ⟨nm, vl⟩ :: l.drop i)) := by
  obtain ⟨n, hn⟩ : ∃ n, n = l.length := ⟨_, rfl⟩
  have HN := Lib.hid hn
  rw [← hn] at hlen hv hi
  clear hn
  rcases hv.1.2 with ⟨_, h0⟩ | ⟨g, c, cur, rfl, hgb, hg, hnc, hcm, hsz, htake⟩
  · omega
  simp only [maxLen] at hcm
  have hc63 : c ≤ 9223372036854775807 := by omega
  have hgv : g ≠ vb := fun e => hne (by rw [e]; rfl)
  have HV := Lib.hid hv
  have HB := Lib.hid hb
  have HG := Lib.hid hg
  have HT := Lib.hid htake
  have HZ := Lib.hid hsz
  have HGB := Lib.hid hgb
  have hz2 : ¬ ((i : Int) = (n : Int)) := by omega
  have hz2b : ((i : Int) == (n : Int)) = false := by rw [beq_eq_false_iff_ne]; exact hz2
  clear hv hb hne hg htake hsz hgb hcm
  by_cases hroom : n + 1 ≤ c
  · have hz3 : ¬ ((c : Int) < (n : Int) + 1) := by omega
    have hov := fun o lb cb => run_overlaps_no w vb g o lb cb _ _ HB.out HG.out hgv (by rw [HZ.out]; omega)
    go_enter Tryz.func86, Tryz.ntmps86
    have hn1 : ((n : Nat) : Int) + 1 ≤ (c : Int) := by omega
    have hdl : (cellsA (l.drop i)).length = (n - i) * 2 := by rw [cellsA_length, List.length_drop, HN.out]
    have hcur : cur.size = c * 2 := HZ.out
    have hcell : ∀ (W : World), W.heap[g]? = w.heap[g]? → ∀ j v, (cellsA (l.drop i))[j]? = some v → W.cell? ((⟨g, i * 2, none⟩ : Addr).add j) = some v := fun W hW j v hj => by
      rw [add_at]
      have h1 : w.cell? ⟨g, i * 2 + j, none⟩ = some v := by
        rw [cellsA_drop, List.getElem?_drop] at hj
        rw [← HT.out, List.getElem?_take] at hj
        split at hj
        · simpa [World.cell?, HG.out] using hj
        · cases hj
      rw [World.cell?_of_block (w := w) hW]; exact h1
    have hcp1 : ∀ (W : World), W.heap[g]? = w.heap[g]? → ∀ ty dc sc, (Builtin.copy_ #[40, 40] ty #[.slice (some ⟨g, (i + 1) * 2, none⟩) (n - i) dc, .slice (some ⟨g, i * 2, none⟩) (n + 1 - i) sc]).run Tryz.prog W = .ok (goInt ((n - i : Nat) : Int)) (W.setRow g (cur.toList.take ((i + 1) * 2) ++ cellsA (l.drop i) ++ cur.toList.drop ((i + 1) * 2 + (cellsA (l.drop i)).length)).toArray) := fun W hW ty dc sc =>
      run_copyN W _ _ ty 48 2 g ((i + 1) * 2) (n - i) dc ⟨g, i * 2, none⟩ (n + 1 - i) sc cur 48 (cellsA (l.drop i)) (n - i) Tryz.underlying40 infoAt2 (hW.trans HG.out) (by simp only [Nat.min_def]; split <;> omega) hdl (hcell W hW) (by rw [hdl, hcur]; omega) cellsA_one
    obtain ⟨cur1, hc1⟩ : ∃ x, x = (cur.toList.take ((i + 1) * 2) ++ cellsA (l.drop i) ++ cur.toList.drop ((i + 1) * 2 + (cellsA (l.drop i)).length)) := ⟨_, rfl⟩
    rw [← hc1] at hcp1
    have hl1 : cur1.length = c * 2 := by rw [hc1]; simp only [List.length_append, List.length_take, List.length_drop, hdl, Array.length_toList, hcur]; omega
    have hcp2 : ∀ (W : World), W.heap[g]? = some (.cells cur1.toArray 48 (0, 0)) → W.heap[vb]? = w.heap[vb]? → ∀ ty dl dc, 1 ≤ dl → (Builtin.copy_ #[40, 40] ty #[.slice (some ⟨g, i * 2, none⟩) dl dc, .slice (some ⟨vb, 0, none⟩) 1 1]).run Tryz.prog W = .ok (goInt 1) (W.setRow g (cur1.take (i * 2) ++ Value.string nm :: .string vl :: cur1.drop (i * 2 + 2)).toArray) := fun W hW hV ty dl dc hdl' => by
      have := run_copyN (P := Tryz.prog) W 40 40 ty 48 2 g (i * 2) dl dc ⟨vb, 0, none⟩ 1 1 cur1.toArray 48 [.string nm, .string vl] 1 Tryz.underlying40 infoAt2 hW (by simp only [Nat.min_def]; split <;> omega) rfl (World.news_of_block (hV.trans HB.out)) (by simp [hl1]; omega) (by simp [Value.oneCell'])
      simpa using this
    have hfin : ∀ (W : World), Grow w0 W → W.heap[g]? = some (.cells (cur1.take (i * 2) ++ Value.string nm :: .string vl :: cur1.drop (i * 2 + 2)).toArray 48 (0, 0)) → RetOwn w0 (l.take i ++ ⟨nm, vl⟩ :: l.drop i) (.returned (.slice (some ⟨g, 0, none⟩) (n + 1) c)) W := fun W hGr hW => by
      have hlen' : (l.take i ++ ⟨nm, vl⟩ :: l.drop i).length = n + 1 := by simp only [List.length_append, List.length_take, List.length_cons, List.length_drop, ← HN.out]; omega
      refine ⟨_, rfl, ⟨?_, .inr ⟨g, c, _, by rw [hlen'], HGB.out, hW, by omega, by simp only [maxLen]; omega, ?_, ?_⟩⟩, hGr⟩
      · rw [cellsA_length]
      · simp only [List.size_toArray, List.length_append, List.length_take, List.length_drop, List.length_cons, List.length_nil, hl1]; omega
      · rw [hlen', cellsA_append]
        show _ = _ ++ (encA _ ++ cellsA _)
        have e1 : cur1.take (i * 2) = cellsA (l.take i) := by
          rw [hc1, List.take_append_of_le_length (by simp only [List.length_append, List.length_take, Array.length_toList, hcur]; omega), List.take_append_of_le_length (by simp only [List.length_take, Array.length_toList, hcur]; omega), List.take_take, cellsA_take, ← HT.out, List.take_take]
          congr 1; omega
        have e2 : cur1.drop (i * 2 + 2) = cellsA (l.drop i) ++ cur.toList.drop ((i + 1) * 2 + (cellsA (l.drop i)).length) := by
          rw [hc1, List.append_assoc, List.drop_append_of_le_length (by simp only [List.length_take, Array.length_toList, hcur]; omega), List.drop_of_length_le (by simp only [List.length_take]; omega), List.nil_append]
        rw [e1, e2]
        have e3 : (cellsA (l.take i) ++ Value.string nm :: .string vl :: (cellsA (l.drop i) ++ cur.toList.drop ((i + 1) * 2 + (cellsA (l.drop i)).length))) = (cellsA (l.take i) ++ (encA ⟨nm, vl⟩ ++ cellsA (l.drop i))) ++ cur.toList.drop ((i + 1) * 2 + (cellsA (l.drop i)).length) := by simp [encA]
        rw [List.toList_toArray, e3]
        refine List.take_left' ?_
        simp only [List.length_append, cellsA_length, List.length_take, List.length_drop, ← HN.out]
        show _ + (2 + _) = _
        omega
    have HF := Lib.hid hfin
    have HC1 := Lib.hid hcp1
    have HC2 := Lib.hid hcp2
    have hw1 : IntKind.i64.wrap ((i : Int) + 1) = (i : Int) + 1 := IntWalk.i64_in _ (by omega)
    have hb1 : (0 : Int) ≤ (i : Int) + 1 := by omega
    have htn : ((i : Int) + 1).toNat = i + 1 := by omega
    have hb2 : ¬ (c = i + 1) := by omega
    have hb3 : (i : Int) + 1 ≤ (n : Int) + 1 := by omega
    have hb4 : ¬ (c = i) := by omega
    have hb5 : (i : Int) ≤ (n : Int) + 1 := by omega
    have hb6 : (0 : Int) ≤ (i : Int) := by omega
    have hb7 : i ≤ n + 1 := by omega
    clear hfin hcp1 hcp2 hc1 hl1 hcell hdl hcur
    go_wp2_with (simp only [hov])
    clear hov
    have hq1 := HC1.out w.drew rfl
    go_region
    clear hq1
    go_wp2_with (refine wpList_copy_runI _ rfl _ _ 40 40 rfl _ _ rfl rfl (HC2.out _ ?g1 ?g2 _ _ _ ?g3) ?_; (case g1 => exact setRow_heap _ _ _ _ _ _ HG.out); (case g2 => exact setRow_other _ _ _ _ (fun e => hgv e.symm)); (case g3 => omega))
    go_ret
    refine HF.out _ ?_ ?_
    · exact grow_setRow (grow_setRow (grow_drew HV.out.2) HGB.out _) HGB.out _
    · exact setRow_heap _ _ _ _ _ _ (setRow_heap _ _ _ _ _ _ (show w.drew.heap[g]? = _ from HG.out))
  · have hcn : c = n := by omega
    have hcur : cur.size = c * 2 := HZ.out
    obtain ⟨i0, hi0, hz00⟩ := Option.map_eq_some_iff.1 infoAt
    simp only [Prod.mk.injEq] at hz00
    obtain ⟨hz01, hz02, hz03⟩ := hz00
    obtain ⟨G, hG⟩ : ∃ x, x = grownCap w (n + 1) c 48 := ⟨_, rfl⟩
    have hGe : n + 1 ≤ G := by rw [hG]; exact grownCap_ge w (n + 1) c _
    have hGm : G ≤ 9223372036854775807 := by
      have h1 := grownCap_le_maxLen w (n + 1) c 48 (by simp only [maxLen]; omega)
      rw [← hG] at h1
      exact h1
    have holdc : ∀ j v, (cellsA (l.take i))[j]? = some v → w.cell? ((⟨g, 0, none⟩ : Addr).add j) = some v := fun j v hj => by
      rw [add_at, Nat.zero_add]
      rw [cellsA_take, List.getElem?_take] at hj
      split at hj
      · rw [← HT.out, List.getElem?_take] at hj
        split at hj
        · simpa [World.cell?, HG.out] using hj
        · cases hj
      · cases hj
    have hold : (Builtin.firstCells i0.size i (.slice (some ⟨g, 0, none⟩) i c)).run Tryz.prog w.drew = .ok (cellsA (l.take i)).toArray w.drew := by
      rw [hz02]
      exact run_firstCells_some w.drew 2 i ⟨g, 0, none⟩ i c (cellsA (l.take i)) (by rw [cellsA_length, List.length_take, Nat.min_eq_left (by rw [← HN.out]; omega)]) holdc
    obtain ⟨zs, hzs⟩ : ∃ zs : Array Value, zs = (cellsA (l.take i)).toArray ++ Builtin.zeroCells (Value.agg #[.string ⟨#[]⟩, .string ⟨#[]⟩]).cells (n + 1 - i) ++ Builtin.zeroCells (Value.agg #[.string ⟨#[]⟩, .string ⟨#[]⟩]).cells (G - (n + 1)) := ⟨_, rfl⟩
    have hrz : ∀ ty, (Builtin.append_ #[40, 3] ty #[.slice (some ⟨g, 0, none⟩) i c, .int .i64 ((n : Int) + 1 - (i : Int))]).run Tryz.prog w = .ok (.slice (some ⟨w.heap.size, 0, none⟩) (n + 1) G) (w.drew.alloc (.cells zs 48)) := fun ty => by
      have h1 := Lib.run_append_grow_zeros (P := Tryz.prog) w 40 3 ty 48 i0 _ .i64 .i64 Tryz.underlying40 Tryz.underlying3 hi0 hz01 (some ⟨g, 0, none⟩) i c (cellsA (l.take i)) hold (n + 1 - i) (by omega) (by omega) (by omega) (by omega) (by rw [hz03]; omega) (by rw [hz03, show i + (n + 1 - i) = n + 1 by omega]; exact growslice_fits (by omega) (by omega))
      rw [show i + (n + 1 - i) = n + 1 by omega, ← hG, ← hzs, show (((n + 1 - i : Nat) : Int)) = (n : Int) + 1 - (i : Int) by omega] at h1
      exact h1
    have hzl : zs.size = G * 2 := by
      rw [hzs]
      simp only [Array.size_append, List.size_toArray, size_zeroCells, cellsA_length, List.length_take, ← HN.out]
      show _ + _ * 2 + _ * 2 = _
      omega
    obtain ⟨cur1, hc1⟩ : ∃ x, x = (zs.toList.take (i * 2) ++ Value.string nm :: .string vl :: zs.toList.drop (i * 2 + 2)) := ⟨_, rfl⟩
    have hl1 : cur1.length = G * 2 := by rw [hc1]; simp only [List.length_append, List.length_take, List.length_drop, List.length_cons, Array.length_toList, hzl]; omega
    have hcpA : ∀ (W : World), W.heap[w.heap.size]? = some (.cells zs 48 (0, 0)) → W.heap[vb]? = w.heap[vb]? → ∀ ty dl dc, 1 ≤ dl → (Builtin.copy_ #[40, 40] ty #[.slice (some ⟨w.heap.size, i * 2, none⟩) dl dc, .slice (some ⟨vb, 0, none⟩) 1 1]).run Tryz.prog W = .ok (goInt 1) (W.setRow w.heap.size cur1.toArray) := fun W hW hV ty dl dc hdl' => by
      have := run_copyN (P := Tryz.prog) W 40 40 ty 48 2 w.heap.size (i * 2) dl dc ⟨vb, 0, none⟩ 1 1 zs 48 [.string nm, .string vl] 1 Tryz.underlying40 infoAt2 hW (by simp only [Nat.min_def]; split <;> omega) rfl (World.news_of_block (hV.trans HB.out)) (by simp [hzl]; omega) (by simp [Value.oneCell'])
      rw [hc1]
      simpa using this
    have hdl : (cellsA (l.drop i)).length = (n - i) * 2 := by rw [cellsA_length, List.length_drop, HN.out]
    have hcell : ∀ (W : World), W.heap[g]? = w.heap[g]? → ∀ j v, (cellsA (l.drop i))[j]? = some v → W.cell? ((⟨g, i * 2, none⟩ : Addr).add j) = some v := fun W hW j v hj => by
      rw [add_at]
      have h1 : w.cell? ⟨g, i * 2 + j, none⟩ = some v := by
        rw [cellsA_drop, List.getElem?_drop] at hj
        rw [← HT.out, List.getElem?_take] at hj
        split at hj
        · simpa [World.cell?, HG.out] using hj
        · cases hj
      rw [World.cell?_of_block (w := w) hW]; exact h1
    obtain ⟨cur2, hc2⟩ : ∃ x, x = (cur1.take ((i + 1) * 2) ++ cellsA (l.drop i) ++ cur1.drop ((i + 1) * 2 + (cellsA (l.drop i)).length)) := ⟨_, rfl⟩
    have hl2 : cur2.length = G * 2 := by rw [hc2]; simp only [List.length_append, List.length_take, List.length_drop, hdl, hl1]; omega
    have hcpB : ∀ (W : World), W.heap[w.heap.size]? = some (.cells cur1.toArray 48 (0, 0)) → W.heap[g]? = w.heap[g]? → ∀ ty dc sc, (Builtin.copy_ #[40, 40] ty #[.slice (some ⟨w.heap.size, (i + 1) * 2, none⟩) (n - i) dc, .slice (some ⟨g, i * 2, none⟩) (n - i) sc]).run Tryz.prog W = .ok (goInt ((n - i : Nat) : Int)) (W.setRow w.heap.size cur2.toArray) := fun W hW hV ty dc sc => by
      have := run_copyN (P := Tryz.prog) W 40 40 ty 48 2 w.heap.size ((i + 1) * 2) (n - i) dc ⟨g, i * 2, none⟩ (n - i) sc cur1.toArray 48 (cellsA (l.drop i)) (n - i) Tryz.underlying40 infoAt2 hW (by simp only [Nat.min_def]; split <;> omega) hdl (hcell W hV) (by rw [hdl, List.size_toArray, hl1]; omega) cellsA_one
      rw [hc2]
      simpa using this
    have hfin : ∀ (W : World), Grow w0 W → W.heap[w.heap.size]? = some (.cells cur2.toArray 48 (0, 0)) → RetOwn w0 (l.take i ++ ⟨nm, vl⟩ :: l.drop i) (.returned (.slice (some ⟨w.heap.size, 0, none⟩) (n + 1) G)) W := fun W hGr hW => by
      have hlen' : (l.take i ++ ⟨nm, vl⟩ :: l.drop i).length = n + 1 := by simp only [List.length_append, List.length_take, List.length_cons, List.length_drop, ← HN.out]; omega
      refine ⟨_, rfl, ⟨?_, .inr ⟨w.heap.size, G, _, by rw [hlen'], HV.out.2.size, hW, by omega, by simp only [maxLen]; omega, by rw [List.size_toArray]; exact hl2, ?_⟩⟩, hGr⟩
      · rw [cellsA_length]
      · rw [hlen', cellsA_append]
        show _ = _ ++ (encA _ ++ cellsA _)
        have e0 : zs.toList.take (i * 2) = cellsA (l.take i) := by
          rw [hzs]
          simp only [Array.toList_append, List.append_assoc]
          exact List.take_left' (by rw [cellsA_length, List.length_take, ← HN.out]; omega)
        have e1 : cur1.take ((i + 1) * 2) = cellsA (l.take i) ++ [Value.string nm, .string vl] := by
          rw [hc1, e0, show cellsA (l.take i) ++ Value.string nm :: .string vl :: zs.toList.drop (i * 2 + 2) = (cellsA (l.take i) ++ [Value.string nm, .string vl]) ++ zs.toList.drop (i * 2 + 2) by simp]
          exact List.take_left' (by rw [List.length_append, cellsA_length, List.length_take, ← HN.out]; simp; omega)
        rw [List.toList_toArray, hc2, e1, List.append_assoc, List.append_assoc]
        rw [show cellsA (l.take i) ++ ([Value.string nm, .string vl] ++ (cellsA (l.drop i) ++ cur1.drop ((i + 1) * 2 + (cellsA (l.drop i)).length))) = (cellsA (l.take i) ++ (encA ⟨nm, vl⟩ ++ cellsA (l.drop i))) ++ cur1.drop ((i + 1) * 2 + (cellsA (l.drop i)).length) by simp [encA]]
        refine List.take_left' ?_
        simp only [List.length_append, cellsA_length, List.length_take, List.length_drop, ← HN.out]
        show _ + (2 + _) = _
        omega
    have HF := Lib.hid hfin
    have HA := Lib.hid hcpA
    have HC := Lib.hid hcpB
    have HRZ := Lib.hid hrz
    have hw1 : IntKind.i64.wrap ((i : Int) + 1) = (i : Int) + 1 := IntWalk.i64_in _ (by omega)
    have hb1 : (0 : Int) ≤ (i : Int) + 1 := by omega
    have htn : ((i : Int) + 1).toNat = i + 1 := by omega
    have hb3 : (i : Int) + 1 ≤ (n : Int) + 1 := by omega
    have hb5 : (i : Int) ≤ (n : Int) + 1 := by omega
    have hb6 : (0 : Int) ≤ (i : Int) := by omega
    have hb7 : i ≤ n + 1 := by omega
    have hb8 : ¬ (G = i + 1) := by omega
    have hb9 : ¬ (G = i) := by omega
    have hb10 : ¬ (c = i) := by omega
    have hb11 : (i : Int) ≤ (c : Int) := by omega
    have hz3 : (c : Int) < (n : Int) + 1 := by omega
    clear hfin hcpA hcpB hrz hc1 hl1 hcell hdl hcur hG hzs hzl hc2 hl2 hcn hold holdc hz01 hz02 hz03 hi0
    go_enter Tryz.func86, Tryz.ntmps86
    go_wp2_with (first | (at_builtin; refine Lib.wpList_append_run _ rfl _ _ _ _ rfl _ _ rfl rfl _ _ (HRZ.out _) ?_) | (refine wpList_copy_runI _ rfl _ _ 40 40 rfl _ _ rfl rfl (HA.out _ ?g1 ?g2 _ _ _ ?g3) ?_; (case g1 => exact heap_alloc_new w.drew _); (case g2 => exact Below.heap_alloc w.drew _ _ (Array.getElem?_eq_some_iff.1 HB.out).1); (case g3 => omega)))
    have hb12 : i ≤ n := by omega
    have hq1 := HC.out ((w.alloc (.cells zs 48)).drew.setRow w.heap.size cur1.toArray).drew (setRow_heap _ _ _ _ _ _ (heap_alloc_new w.drew _)) ((setRow_other _ _ _ _ (fun e => by have := (Array.getElem?_eq_some_iff.1 HG.out).1; omega)).trans (Below.heap_alloc w.drew _ _ (Array.getElem?_eq_some_iff.1 HG.out).1))
    go_region
    go_wp2
    go_ret
    refine HF.out _ ?_ ?_
    · exact grow_setRow (grow_drew (grow_setRow (grow_alloc (grow_drew HV.out.2) _) HV.out.2.size _)) HV.out.2.size _
    · exact setRow_heap _ _ _ _ _ _ (setRow_heap _ _ _ _ _ _ (heap_alloc_new w.drew _))
end Go.Proofs.YtacobpmmpdadpaaGreat
set_option linter.unusedVariables false
set_option linter.unusedSimpArgs false
namespace Go.Proofs.YtacobpmmpdadpaaGreat
open Go.RowKit
/-- The closure that Without hands over: it has captured a variable with the name. -/
def delV (nb : Nat) : Value := .func (.func 88) #[] #[.pointer (some ⟨nb, 0, none⟩)]
theorem del_any (nb : Nat) (name nm vl : ByteArray) (w : World) (h : w.cell? ⟨nb, 0, none⟩ = some (.string name)) :
    Calls Tryz.prog 88 #[.agg #[.string nm, .string vl], .pointer (some ⟨nb, 0, none⟩)] w fun e w' => e = .returned (.bool (nm.toList == name.toList)) ∧ Grow w w' := by
  have h2 := cell_alloc h
  go_enter Tryz.func88, Tryz.ntmps88
  go_wp2
  go_ret
  exact ⟨rfl, by repeat (first | exact Below.refl _ _ | apply grow_drew | apply grow_alloc)⟩
theorem indexFunc_p (l : List At) (nb : Nat) (name : ByteArray) (w : World) (ok : Nat → Prop) (A : Option Addr) (c : Nat) (hl : Rd EAt 2 w ok A l) (h : w.cell? ⟨nb, 0, none⟩ = some (.string name)) :
    Calls Tryz.prog 103 #[.slice A l.length c, delV nb] w fun e w' => e = .returned (.int .i64 (findI l name)) ∧ Grow w w' := by
  obtain ⟨n, hn⟩ : ∃ n, n = l.length := ⟨_, rfl⟩
  rw [← hn]
  have hm : n ≤ 9223372036854775807 := hn ▸ hl.1
  have HN := Lib.hid hn; clear hn
  have HL := Lib.hid hl; clear hl
  have HNB := Lib.hid h; clear h
  unfold delV
  go_enter Tryz.func103, Tryz.ntmps103
  go_wp2
  go_loopw [8] (fun i wr => ∃ k : Nat, k ≤ n ∧ i = .int .i64 k ∧ Grow w wr ∧ Hid (∀ j, j < k → (l.getD j z0).name.toList ≠ name.toList)) (fun i _ => n - (intOf i).toNat)
  case atStart => exact ⟨0, Nat.zero_le _, rfl, Below.refl _ _, fun j hj => absurd hj (by omega)⟩
  case round =>
    obtain ⟨k, hk, rfl, hg, ht⟩ := hrel
    have HG := Lib.hid hg
    by_cases hlt : k < n
    · have h1 : k < l.length := by rw [← HN.out]; exact hlt
      obtain ⟨b, o, rfl, _, g1, g2⟩ := HL.out.at_at h1
      replace g1 := Grow.cell hg g1
      replace g2 := Grow.cell hg g2
      have HD := fun W (hW : Grow w W) => del_any nb name (l.getD k z0).name (l.getD k z0).value W (Grow.cell hW HNB.out)
      by_cases e : (l.getD k z0).name.toList = name.toList
      · have hf := findA_at h1 e ht.out
        have HF := Lib.hid hf
        have eb : ((l.getD k z0).name.toList == name.toList) = true := by simpa using e
        rw [eb] at HD
        clear h1 e hf ht eb
        generalize (l.getD k z0).name = nm at *
        generalize (l.getD k z0).value = vl at *
        go_wp2_with (go_at_call 88; refine (HD _ HG.out).mono ?_; rintro e w1 ⟨rfl, hg1⟩; have HG1 := Lib.hid hg1; clear hg1)
        go_ret
        exact ⟨ret_int (by unfold findI; rw [HF.out]), Grow.trans' HG.out HG1.out⟩
      · have hn : Hid (∀ j, j < k + 1 → (l.getD j z0).name.toList ≠ name.toList) := fun j hj => by
          rcases Nat.lt_or_ge j k with e' | e'
          · exact ht.out j e'
          · rw [show j = k by omega]; exact e
        have eb : ((l.getD k z0).name.toList == name.toList) = false := by simpa using e
        rw [eb] at HD
        clear h1 e ht eb
        generalize (l.getD k z0).name = nm at *
        generalize (l.getD k z0).value = vl at *
        go_wp2_with (go_at_call 88; refine (HD _ HG.out).mono ?_; rintro e w1 ⟨rfl, hg1⟩; have HG1 := Lib.hid hg1; clear hg1)
        go_roundw
        case rel => exact ⟨k + 1, by omega, by go_num, Grow.trans' HG.out HG1.out, hn⟩
        case measure => simp [intOf]; omega
    · have hk' : k = n := by omega
      have hf : findA l name = none := findA_none fun j hj => ht.out j (by rw [hk', HN.out]; exact hj)
      have HF := Lib.hid hf
      clear hf hk' ht hg
      go_wp2
      go_ret
      exact ⟨ret_int (by unfold findI; rw [HF.out]), HG.out⟩

/-! ### DeleteFunc -/
theorem run_clearN {P : Program} (w : World) (t e ty : TypeId) (z : Value) (sz : Nat) (ht : P.underlying t = some (.slice e)) (hv : ∀ w, (zeroValue e).run P w = .ok z w) (hz : z.cells.size = sz) (hone : ∀ k, ∀ u ∈ (Builtin.zeroCells z.cells k).toList, u.oneCell' = true)
    (g o n c : Nat) (h0 : n ≠ 0) (cur : Array Value) (hg : w.heap[g]? = some (.cells cur e (0, 0))) (hfit : o + n * sz ≤ cur.size) :
    (Builtin.clear_ #[t] ty #[.slice (some ⟨g, o, none⟩) n c]).run P w = .ok (.tuple #[]) (w.setRow g (cur.toList.take o ++ (Builtin.zeroCells z.cells n).toList ++ cur.toList.drop (o + (Builtin.zeroCells z.cells n).toList.length)).toArray) := by
  have hst := run_storeCells_at P g o e (Builtin.zeroCells z.cells n).toList 0 cur w hg (by simpa [size_zeroCells, hz] using hfit) (hone n)
  simp [Builtin.clear_, run_underlying ht, hv, hst, h0]
theorem zeroAt : ∀ w, (zeroValue 48).run Tryz.prog w = .ok (.agg #[.string ⟨#[]⟩, .string ⟨#[]⟩]) w := fun w => by kernel_rfl
theorem zeroAt_one (k : Nat) : ∀ u ∈ (Builtin.zeroCells (Value.agg #[.string ⟨#[]⟩, .string ⟨#[]⟩]).cells k).toList, u.oneCell' = true := by
  intro u hu
  simp only [Builtin.zeroCells, Array.toList_map, List.mem_map] at hu
  obtain ⟨j, _, rfl⟩ := hu
  have hj : j % 2 = 0 ∨ j % 2 = 1 := by omega
  show ((#[Value.string ⟨#[]⟩, .string ⟨#[]⟩] : Array Value)[j % 2]!).oneCell' = true
  rcases hj with h | h <;> rw [h] <;> rfl
/-- A row in a block, as it is being written. -/
def RowAt (w : World) (g c : Nat) (xs : List At) : Prop := ∃ cur : Array Value, w.heap[g]? = some (.cells cur 48 (0, 0)) ∧ cur.size = c * 2 ∧ xs.length ≤ c ∧ cur.toList.take (xs.length * 2) = cellsA xs
theorem RowAt.cell {w : World} {g c : Nat} {xs : List At} (h : RowAt w g c xs) {j : Nat} (hj : j < xs.length) : w.cell? ⟨g, j * 2, none⟩ = some (.string (xs.getD j z0).name) ∧ w.cell? ⟨g, j * 2 + 1, none⟩ = some (.string (xs.getD j z0).value) := by
  obtain ⟨cur, hg, hsz, hc, ht⟩ := h
  have h1 : ∀ k, k < 2 → (cellsA xs)[j * 2 + k]? = (encA (xs.getD j z0))[k]? := fun k hk => by
    have e1 := cellsA_drop xs j
    rw [List.drop_eq_getElem_cons hj] at e1
    rw [← List.getElem?_drop, ← e1]
    show (encA _ ++ _)[k]? = _
    rw [List.getElem?_append_left (by simp [encA]; omega)]
    simp [List.getD_eq_getElem?_getD, List.getElem?_eq_getElem hj]
  have h2 : ∀ k u, k < 2 → (encA (xs.getD j z0))[k]? = some u → w.cell? ⟨g, j * 2 + k, none⟩ = some u := fun k u hk hu => by
    rw [← h1 k hk, ← ht, List.getElem?_take] at hu
    split at hu
    · simpa [World.cell?, hg] using hu
    · cases hu
  exact ⟨h2 0 _ (by omega) rfl, h2 1 _ (by omega) rfl⟩
theorem RowAt.frozen {w : World} {g c : Nat} {xs : List At} (h : RowAt w g c xs) (j : Nat) : w.frozen? ⟨g, j, none⟩ = false := by
  obtain ⟨cur, hg, _⟩ := h
  simp [World.frozen?, hg]
theorem RowAt.grow {w w' : World} {g c : Nat} {xs : List At} (h : RowAt w g c xs) (hg : Grow w w') : RowAt w' g c xs := by
  obtain ⟨cur, h1, h2⟩ := h
  exact ⟨cur, (hg.block g (Array.getElem?_eq_some_iff.1 h1).1).trans h1, h2⟩
theorem RowAt.set {w : World} {g c : Nat} {xs : List At} (h : RowAt w g c xs) {i : Nat} (hi : i < xs.length) (nm vl : ByteArray) : RowAt ((w.setCell ⟨g, i * 2, none⟩ (.string nm)).setCell ⟨g, i * 2 + 1, none⟩ (.string vl)) g c (xs.set i ⟨nm, vl⟩) := by
  obtain ⟨cur, hg, hsz, hc, ht⟩ := h
  refine ⟨_, heap_setCell_same _ g (i * 2 + 1) _ _ _ (heap_setCell_same w g (i * 2) cur _ _ hg), by simp [hsz], by simpa using hc, ?_⟩
  rw [Array.toList_setIfInBounds, Array.toList_setIfInBounds, List.length_set, List.take_set, List.take_set, ht]
  have h1 : xs = xs.take i ++ xs[i] :: xs.drop (i + 1) := by rw [← List.drop_eq_getElem_cons hi, List.take_append_drop]
  have h2 : xs.set i ⟨nm, vl⟩ = xs.take i ++ ⟨nm, vl⟩ :: xs.drop (i + 1) := List.set_eq_take_append_cons_drop .. |>.trans (by rw [if_pos hi])
  rw [h2, cellsA_append]
  have hl : (cellsA (xs.take i)).length = i * 2 := by rw [cellsA_length, List.length_take, Nat.min_eq_left (by omega)]
  have h3 : cellsA xs = cellsA (xs.take i) ++ (Value.string xs[i].name :: Value.string xs[i].value :: cellsA (xs.drop (i + 1))) := by
    conv => lhs; rw [h1]
    rw [cellsA_append]; rfl
  rw [h3, List.set_append_right _ _ (by omega), List.set_append_right _ _ (by rw [hl]; omega), hl, Nat.sub_self, show i * 2 + 1 - i * 2 = 1 by omega]
  rfl
theorem without_take_succ {l : List At} {name : ByteArray} {k : Nat} (hk : k < l.length) (e : (l.getD k z0).name.toList = name.toList) : withoutA (l.take (k + 1)) name = withoutA (l.take k) name := by
  rw [without_snoc hk, if_pos (by simpa using e)]
theorem without_before {l : List At} {name : ByteArray} : ∀ (i : Nat), i ≤ l.length → (∀ j, j < i → (l.getD j z0).name.toList ≠ name.toList) → withoutA (l.take i) name = l.take i
  | 0, _, _ => by simp [withoutA]
  | i + 1, hi, h => by
    rw [without_snoc (by omega), if_neg (by simpa using h i (by omega)), without_before i (by omega) (fun j hj => h j (by omega)), take_snoc l z0 (by omega)]

set_option maxHeartbeats 1000000 in
theorem deleteFunc_p (l : List At) (nb : Nat) (name : ByteArray) (w0 w : World) (v : Value) (hv : Own w0 w 48 2 v l.length (cellsA l)) (h : w.cell? ⟨nb, 0, none⟩ = some (.string name)) (hne : v.ownBlock ≠ some nb) (hlen : l.length ≤ 1000000) :
    Calls Tryz.prog 87 #[v, delV nb] w (RetOwn w0 (withoutA l name)) := by
  have hrd : ∃ A c, v = .slice A l.length c ∧ Rd EAt 2 w (New w0 w 48) A l := by
    obtain ⟨A, c, e, _, hr⟩ := hv.rdv EAt l encA (fun x _ => rfl) (fun _ => rfl) rfl rfl
    exact ⟨A, c, e, hr⟩
  obtain ⟨A, c, hve, hrd⟩ := hrd
  have hix := indexFunc_p l nb name w _ A c hrd h
  rw [← hve] at hix
  rcases hkeep : findA l name with _ | i
  · have hfi : findI l name = -1 := by unfold findI; rw [hkeep]
    rw [hfi] at hix
    have hall : withoutA l name = l := by
      have := without_before (l := l) (name := name) l.length (Nat.le_refl _) fun j hj e => by
        unfold findA at hkeep
        rw [List.find?_eq_none] at hkeep
        have := hkeep j (by simpa using hj)
        simp only [decide_eq_true_eq] at this
        exact this e
      rwa [List.take_length] at this
    have hfin : ∀ w1, Grow w w1 → RetOwn w0 (withoutA l name) (.returned v) w1 := fun w1 hg => ⟨v, rfl, by rw [hall]; exact hv.of_grow hg⟩
    have HF := Lib.hid hfin
    have HX := Lib.hid hix
    clear hfin hall hfi hix hkeep hrd hve hne h hv
    unfold delV
    go_enter Tryz.func87, Tryz.ntmps87
    go_wp2_with (go_at_call 103; refine HX.out.mono ?_; rintro e w1 ⟨rfl, hg1⟩; have HG1 := Lib.hid hg1; clear hg1)
    go_ret
    exact HF.out _ HG1.out
  · obtain ⟨hi1, hi2, hi3⟩ := findA_lt hkeep
    have hfi : findI l name = i := by unfold findI; rw [hkeep]
    rw [hfi] at hix
    obtain ⟨n, hn⟩ : ∃ n, n = l.length := ⟨_, rfl⟩
    have HN := Lib.hid hn
    rcases hv.1.2 with ⟨_, h0⟩ | ⟨g, c', cur, hv2, hgb, hg, hnc, hcm, hsz, htake⟩
    · omega
    subst hv2
    cases hve
    have hrow : RowAt w g c l := ⟨cur, hg, hsz, hnc, htake⟩
    have hgn : g ≠ nb := fun e => hne (by rw [e]; rfl)
    have hc63 : c ≤ 9223372036854775807 := hcm
    have hw0 := without_before (l := l) (name := name) i (by omega) hi3
    have hw1 : withoutA (l.take (i + 1)) name = l.take i := (without_take_succ hi1 hi2).trans hw0
    have HX := Lib.hid hix
    have HV := Lib.hid hv
    have him : ((i : Int) == -1) = false := by rw [beq_eq_false_iff_ne]; omega
    have HNB := Lib.hid h
    have HROW := Lib.hid hrow
    have HGB := Lib.hid hgb
    have HW1 := Lib.hid hw1
    rw [← hn] at hi1 hnc hlen HX ⊢
    have hrel0 : ∀ w1, Grow w w1 → Hid (∃ xs : List At, xs.length = n ∧ RowAt w1 g c xs ∧ xs.take i = withoutA (l.take (i + 1)) name ∧ xs.drop (i + 1) = l.drop (i + 1) ∧ Grow w0 w1 ∧ w1.cell? ⟨nb, 0, none⟩ = some (.string name)) := fun w1 hg1 =>
      ⟨l, HN.out.symm, HROW.out.grow hg1, HW1.out.symm, rfl, Grow.trans' HV.out.2 hg1, Grow.cell hg1 HNB.out⟩
    have HR0 := Lib.hid hrel0
    clear hrel0 hw1 hw0 hrow hcm hne h hv hg hsz htake hgb hfi hix hkeep hrd hi2 hi3 hn
    unfold delV
    go_enter Tryz.func87, Tryz.ntmps87
    go_wp2_with (go_at_call 103; refine HX.out.mono ?_; rintro e w1 ⟨rfl, hg1⟩; have HG1 := Lib.hid hg1; clear hg1)
    go_loopw [5, 6] (fun ti tj wr => ∃ ii jj : Nat, ii < jj ∧ jj ≤ n ∧ ti = .int .i64 ii ∧ tj = .int .i64 jj ∧ Hid (∃ xs : List At, xs.length = n ∧ RowAt wr g c xs ∧ xs.take ii = withoutA (l.take jj) name ∧ xs.drop jj = l.drop jj ∧ Grow w0 wr ∧ wr.cell? ⟨nb, 0, none⟩ = some (.string name))) (fun _ tj _ => n - (intOf tj).toNat)
    case atStart => exact ⟨i, i + 1, by omega, by omega, rfl, by go_num, HR0.out _ HG1.out⟩
    case round =>
      obtain ⟨ii, jj, hij, hj, rfl, rfl, HR⟩ := hrel
      by_cases hlt : jj < n
      · obtain ⟨xs, hxl, hrw, hx1, hx2, hg0, hnm⟩ := HR.out
        have hjl : jj < l.length := by rw [← HN.out]; exact hlt
        have hcj := hrw.cell (j := jj) (by omega)
        have hxj : xs.getD jj z0 = l.getD jj z0 := by
          have := congrArg (fun q => q.head?) hx2
          simp only [List.head?_drop] at this
          rw [List.getD_eq_getElem?_getD, List.getD_eq_getElem?_getD, this]
        rw [hxj] at hcj
        obtain ⟨c1, c2⟩ := hcj
        have hil : ii < xs.length := by omega
        have HD := fun W (hW : Grow wr W) => del_any nb name (l.getD jj z0).name (l.getD jj z0).value W (Grow.cell hW hnm)
        by_cases e : (l.getD jj z0).name.toList = name.toList
        · have hws := without_take_succ hjl e
          have hnx : ∀ W, Grow wr W → Hid (∃ xs : List At, xs.length = n ∧ RowAt W g c xs ∧ xs.take ii = withoutA (l.take (jj + 1)) name ∧ xs.drop (jj + 1) = l.drop (jj + 1) ∧ Grow w0 W ∧ W.cell? ⟨nb, 0, none⟩ = some (.string name)) := fun W hW =>
            ⟨xs, hxl, hrw.grow hW, by rw [hws, hx1], by rw [← List.drop_drop, hx2, List.drop_drop], Grow.trans' hg0 hW, Grow.cell hW hnm⟩
          have HNX := Lib.hid hnx
          have eb : ((l.getD jj z0).name.toList == name.toList) = true := by simpa using e
          rw [eb] at HD
          clear hnx hws e eb hx1 hx2 hg0 hrw hxj hxl hil hjl HR
          generalize (l.getD jj z0).name = nm at *
          generalize (l.getD jj z0).value = vl at *
          go_wp2_with (go_at_call 88; refine (HD _ (grow_alloc (Below.refl _ _) _)).mono ?_; rintro e w2 ⟨rfl, hg2⟩; have HG2 := Lib.hid (Grow.trans' (grow_alloc (Below.refl _ _) _) hg2); clear hg2)
          go_roundw
          case rel => exact ⟨ii, jj + 1, by omega, by omega, rfl, by go_num, HNX.out _ HG2.out⟩
          case measure => simp [intOf]; omega
        · have hws : withoutA (l.take (jj + 1)) name = withoutA (l.take jj) name ++ [l.getD jj z0] := by rw [without_snoc hjl, if_neg (by simpa using e)]
          have eb : ((l.getD jj z0).name.toList == name.toList) = false := by simpa using e
          rw [eb] at HD
          have hfr : ∀ W, Grow wr W → ∀ j, W.frozen? ⟨g, j, none⟩ = false := fun W hW j => (hrw.grow hW).frozen j
          have hci : ∀ W, Grow wr W → (∃ u, W.cell? ⟨g, ii * 2, none⟩ = some u) ∧ ∃ u, W.cell? ⟨g, ii * 2 + 1, none⟩ = some u := fun W hW => ⟨⟨_, ((hrw.grow hW).cell hil).1⟩, ⟨_, ((hrw.grow hW).cell hil).2⟩⟩
          have hnx : ∀ W, Grow wr W → Hid (∃ ys : List At, ys.length = n ∧ RowAt ((W.setCell ⟨g, ii * 2, none⟩ (.string (l.getD jj z0).name)).setCell ⟨g, ii * 2 + 1, none⟩ (.string (l.getD jj z0).value)) g c ys ∧ ys.take (ii + 1) = withoutA (l.take (jj + 1)) name ∧ ys.drop (jj + 1) = l.drop (jj + 1) ∧ Grow w0 ((W.setCell ⟨g, ii * 2, none⟩ (.string (l.getD jj z0).name)).setCell ⟨g, ii * 2 + 1, none⟩ (.string (l.getD jj z0).value)) ∧ ((W.setCell ⟨g, ii * 2, none⟩ (.string (l.getD jj z0).name)).setCell ⟨g, ii * 2 + 1, none⟩ (.string (l.getD jj z0).value)).cell? ⟨nb, 0, none⟩ = some (.string name)) := fun W hW => by
            refine ⟨xs.set ii (l.getD jj z0), by rw [List.length_set]; exact hxl, (hrw.grow hW).set hil _ _, ?_, ?_, ?_, ?_⟩
            · rw [hws, ← hx1, take_snoc _ z0 (by rw [List.length_set]; exact hil), List.take_set, List.set_eq_of_length_le (by rw [List.length_take]; omega)]
              congr 1
              rw [List.getD_eq_getElem?_getD, List.getElem?_set_self hil]; rfl
            · rw [List.drop_set_of_lt (by omega), ← List.drop_drop, hx2, List.drop_drop]
            · exact Below.setCell (Below.setCell (Grow.trans' hg0 hW) HGB.out _) HGB.out _
            · rw [World.cell?_setCell_other _ _ _ _ (by intro e'; injection e' with e' _; exact hgn e'), World.cell?_setCell_other _ _ _ _ (by intro e'; injection e' with e' _; exact hgn e')]
              exact Grow.cell hW hnm
          have HNX := Lib.hid hnx
          have HFR := Lib.hid hfr
          have HCI := Lib.hid hci
          clear hnx hws e eb hx1 hx2 hg0 hrw hxj hxl hil hjl hfr hci HR
          generalize (l.getD jj z0).name = nm at *
          generalize (l.getD jj z0).value = vl at *
          go_wp2_with (go_at_call 88; refine (HD _ (grow_alloc (Below.refl _ _) _)).mono ?_; rintro e w2 ⟨rfl, hg2⟩; have bx0 : w2.cell? ⟨wr.heap.size, 0, none⟩ = some (.string nm) := Grow.cell hg2 (by simp [World.cell?_alloc_new]); have bx1 : w2.cell? ⟨wr.heap.size, 1, none⟩ = some (.string vl) := Grow.cell hg2 (by simp [World.cell?_alloc_new]); have HG2 := Lib.hid (Grow.trans' (grow_alloc (Below.refl _ _) _) hg2); clear hg2; obtain ⟨⟨u0, hu0⟩, ⟨u1, hu1⟩⟩ := HCI.out _ HG2.out; have hfz := HFR.out _ HG2.out)
          go_roundw
          case rel => exact ⟨ii + 1, jj + 1, by omega, by omega, by go_num, by go_num, HNX.out _ HG2.out⟩
          case measure => simp [intOf]; omega
      · have hjn : jj = n := by omega
        obtain ⟨xs, hxl, hrw, hx1, hx2, hg0, hnm⟩ := HR.out
        rw [hjn, HN.out, List.take_length] at hx1
        obtain ⟨cur, k1, k2, k3, k4⟩ := hrw
        have hclr := fun ty => run_clearN (P := Tryz.prog) wr 40 48 ty _ 2 Tryz.underlying40 zeroAt rfl zeroAt_one g (ii * 2) (n - ii) (c - ii) (by omega) cur k1 (by rw [k2]; omega)
        obtain ⟨zs, hzs⟩ : ∃ zs, zs = (Builtin.zeroCells (Value.agg #[.string ⟨#[]⟩, .string ⟨#[]⟩]).cells (n - ii)).toList := ⟨_, rfl⟩
        rw [← hzs] at hclr
        have hfin : RetOwn w0 (withoutA l name) (.returned (.slice (some ⟨g, 0, none⟩) ii c)) (wr.setRow g (cur.toList.take (ii * 2) ++ zs ++ cur.toList.drop (ii * 2 + zs.length)).toArray) := by
          have hlen2 : (withoutA l name).length = ii := by rw [← hx1, List.length_take]; omega
          have hz2 : zs.length = (n - ii) * 2 := by rw [hzs, Array.length_toList, size_zeroCells]; rfl
          refine ⟨_, rfl, ⟨by rw [cellsA_length], .inr ⟨g, c, _, by rw [hlen2], HGB.out, setRow_heap _ _ _ _ _ _ k1, by omega, by simp only [maxLen]; omega, ?_, ?_⟩⟩, grow_setRow hg0 HGB.out _⟩
          · simp only [List.size_toArray, List.length_append, List.length_take, List.length_drop, Array.length_toList, k2, hz2]; omega
          · rw [hlen2, List.toList_toArray, List.append_assoc, List.take_append_of_le_length (by rw [List.length_take, Array.length_toList, k2]; omega), List.take_take, Nat.min_self, ← hx1, cellsA_take, ← k4, List.take_take]
            congr 1; omega
        have HFN := Lib.hid hfin
        have hb2 : ¬ (c = ii) := by omega
        have hb3 : (ii : Int) ≤ (n : Int) := by omega
        have hb4 : (ii : Int) ≤ (c : Int) := by omega
        have hb5 : ii ≤ n := by omega
        have hb6 : ii ≤ c := by omega
        clear hfin hx1 hx2 hg0 hnm k1 k2 k3 k4 hxl hjn HR hzs
        go_wp2
        go_ret
        simpa using HFN.out
end Go.Proofs.YtacobpmmpdadpaaGreat
set_option linter.unusedVariables false
set_option linter.unusedSimpArgs false
namespace Go.Proofs.YtacobpmmpdadpaaGreat
open Go.RowKit
theorem Own.back {w w0 w' : World} {e size n : Nat} {v : Value} {cs : List Value} (h : Own w0 w' e size v n cs) (hg : Grow w w0) : Own w w' e size v n cs := by
  refine ⟨⟨h.1.1, ?_⟩, Grow.trans' hg h.2⟩
  rcases h.1.2 with h1 | ⟨g, cap, cur, r1, r2, r3⟩
  · exact .inl h1
  · exact .inr ⟨g, cap, cur, r1, Nat.le_trans hg.size r2, r3⟩
theorem RetOwn.at {w0 w w' : World} {l : List At} {e : Ending} (h : RetOwn w0 l e w') (hg : Grow w w0) : RetAt w l e w' := by
  obtain ⟨v, he, ho⟩ := h
  exact ⟨v, he, (ho.back hg).newAt rfl rfl, (ho.back hg).2⟩
theorem RowAt.setV {w : World} {g c : Nat} {xs : List At} (h : RowAt w g c xs) {i : Nat} (hi : i < xs.length) (vl : ByteArray) : RowAt (w.setCell ⟨g, i * 2 + 1, none⟩ (.string vl)) g c (xs.set i ⟨(xs.getD i z0).name, vl⟩) := by
  obtain ⟨cur, hg, hsz, hc, ht⟩ := h
  refine ⟨_, heap_setCell_same w g (i * 2 + 1) cur _ _ hg, by simp [hsz], by simpa using hc, ?_⟩
  rw [Array.toList_setIfInBounds, List.length_set, List.take_set, ht]
  have h1 : xs = xs.take i ++ xs[i] :: xs.drop (i + 1) := by rw [← List.drop_eq_getElem_cons hi, List.take_append_drop]
  have h2 : ∀ y, xs.set i y = xs.take i ++ y :: xs.drop (i + 1) := fun y => List.set_eq_take_append_cons_drop .. |>.trans (by rw [if_pos hi])
  rw [h2, cellsA_append]
  have hl : (cellsA (xs.take i)).length = i * 2 := by rw [cellsA_length, List.length_take, Nat.min_eq_left (by omega)]
  have h3 : cellsA xs = cellsA (xs.take i) ++ (Value.string xs[i].name :: Value.string xs[i].value :: cellsA (xs.drop (i + 1))) := by
    conv => lhs; rw [h1]
    rw [cellsA_append]; rfl
  rw [h3, List.set_append_right _ _ (by omega), hl, show i * 2 + 1 - i * 2 = 1 by omega]
  have h4 : xs.getD i z0 = xs[i] := by simp [List.getD_eq_getElem?_getD, List.getElem?_eq_getElem hi]
  rw [h4]
  rfl
theorem RowAt.own {w0 w : World} {g c : Nat} {xs : List At} (h : RowAt w g c xs) (hb : w0.heap.size ≤ g) (hc : c ≤ maxLen) (hg : Grow w0 w) : Own w0 w 48 2 (.slice (some ⟨g, 0, none⟩) xs.length c) xs.length (cellsA xs) := by
  obtain ⟨cur, r1, r2, r3, r4⟩ := h
  exact ⟨⟨by rw [cellsA_length], .inr ⟨g, c, cur, rfl, hb, r1, r3, hc, r2, r4⟩⟩, hg⟩
theorem without_p (l : List At) (name : ByteArray) (w : World) (ok : Nat → Prop) (A : Option Addr) (c : Nat) (hl : Rd EAt 2 w ok A l) (hlen : l.length ≤ 1000000) :
    Calls Tryz.prog 59 #[.slice A l.length c, .string name] w (RetAtB w (withoutA l name) (decide ((withoutA l name).length < l.length))) := by
  have hb0 : Grow w (w.alloc (.cells #[.string name] 9)) := grow_alloc (Below.refl _ _) _
  have hl1 : Rd EAt 2 (w.alloc (.cells #[.string name] 9)) ok A l := hl.imp (fun _ _ _ h => h) (fun _ h => h) (fun b _ hb => hb0.block b hb)
  have hcl := clone_p l (w.alloc (.cells #[.string name] 9)) ok A c hl1 hlen
  have hnb : (w.alloc (.cells #[.string name] 9)).cell? ⟨w.heap.size, 0, none⟩ = some (.string name) := by simp [World.cell?_alloc_new]
  have hdl := fun (w1 : World) (v : Value) (ho : Own (w.alloc (.cells #[.string name] 9)) w1 48 2 v l.length (cellsA l)) =>
    deleteFunc_p l w.heap.size name (w.alloc (.cells #[.string name] 9)) w1 v ho (Grow.cell ho.2 hnb) (fun e => by have := ho.base _ e; simp at this; omega) hlen
  have hfin := fun (w2 : World) (v : Value) (ho : Own (w.alloc (.cells #[.string name] 9)) w2 48 2 v (withoutA l name).length (cellsA (withoutA l name))) =>
    (show RetAtB w (withoutA l name) (decide ((withoutA l name).length < l.length)) (.returned (.tuple #[v, .bool (decide ((withoutA l name).length < l.length))])) w2 from ⟨v, rfl, (ho.back hb0).newAt rfl rfl, (ho.back hb0).2⟩)
  have HCL := Lib.hid hcl
  have HDL := Lib.hid hdl
  have HF := Lib.hid hfin
  clear hcl hdl hfin hl1 hl hnb hb0
  unfold delV at HDL
  obtain ⟨n, hn⟩ : ∃ n, n = l.length := ⟨_, rfl⟩
  obtain ⟨m, hm⟩ : ∃ m, m = (withoutA l name).length := ⟨_, rfl⟩
  obtain ⟨r, hr⟩ : ∃ r, r = RetAtB w (withoutA l name) (decide ((withoutA l name).length < l.length)) := ⟨_, rfl⟩
  rw [← hr] at HF ⊢
  clear hr
  rw [← hn] at HCL HDL HF hlen ⊢
  rw [← hm] at HF
  have HN := Lib.hid hn
  have HM := Lib.hid hm
  clear hn hm
  go_enter Tryz.func59, Tryz.ntmps59
  go_wp2_with first
    | (go_at_call 28; refine HCL.out.mono ?_; rintro e w1 ⟨v, rfl, ho⟩; rw [← HN.out] at ho; obtain ⟨A1, c1, rfl⟩ := ho.form; have HO := Lib.hid ho; clear ho)
    | (go_at_call 87; refine (HDL.out _ _ HO.out).mono ?_; rintro e w2 ⟨v2, rfl, ho2⟩; rw [← HM.out] at ho2; obtain ⟨A2, c2, rfl⟩ := ho2.form; have HO2 := Lib.hid ho2; clear ho2)
  simpa using HF.out _ _ HO2.out
theorem with_p (l : List At) (name value : ByteArray) (w : World) (ok : Nat → Prop) (A : Option Addr) (c : Nat) (hl : Rd EAt 2 w ok A l) (hlen : l.length ≤ 1000000) :
    Calls Tryz.prog 58 #[.slice A l.length c, .string name, .string value] w (RetAt w (withA l name value)) := by
  have hfd := find_p l name w ok A c hl
  have hl1 := fun (w1 : World) (hg : Grow w w1) => (hl.imp (fun _ _ _ h => h) (fun _ h => h) (fun b _ hb => hg.block b hb) : Rd EAt 2 w1 ok A l)
  have hcl := fun (w1 : World) (hg : Grow w w1) => (clone_p l w1 ok A c (hl1 w1 hg) hlen).mono (R' := RetOwn w l) (by rintro e w2 ⟨v, h1, h2⟩; exact ⟨v, h1, h2.back hg⟩)
  have HCL := Lib.hid hcl
  clear hcl hl1 hl
  rcases hf : findA l name with _ | i
  · rw [hf] at hfd
    simp only [Option.getD_none, Option.isSome_none] at hfd
    have hw : withA l name value = l.take (toA l name) ++ ⟨name, value⟩ :: l.drop (toA l name) := by unfold withA; rw [hf]
    rw [hw]
    have hto := toA_le l name
    have hin : ∀ (w1 W : World) (v : Value), Own w w1 48 2 v l.length (cellsA l) → W = w1.alloc (.cells #[.string name, .string value] 48) → Calls Tryz.prog 86 #[v, .int .i64 ((toA l name : Nat) : Int), .slice (some ⟨w1.heap.size, 0, none⟩) 1 1] W (RetOwn w (l.take (toA l name) ++ ⟨name, value⟩ :: l.drop (toA l name))) := by
      rintro w1 W v ho rfl
      have hb : (w1.alloc (.cells #[.string name, .string value] 48)).heap[w1.heap.size]? = some (.cells #[.string name, .string value] 48 (0, 0)) := heap_alloc_new _ _
      by_cases e : toA l name = l.length
      · rw [e, List.take_length, List.drop_length]
        exact insert_end l name value w _ v w1.heap.size (ho.alloc _) hb hlen
      · refine insert_mid l _ name value w _ v w1.heap.size (ho.alloc _) hb (fun e' => ?_) (by omega) hlen
        rcases ho.1.2 with ⟨rfl, _⟩ | ⟨g, cap, cur, rfl, r1, r2, _⟩
        · simp [Value.ownBlock] at e'
        · have : g = w1.heap.size := by simpa [Value.ownBlock] using e'
          have := (Array.getElem?_eq_some_iff.1 r2).1
          omega
    generalize l.take (toA l name) ++ ⟨name, value⟩ :: l.drop (toA l name) = out at *
    generalize toA l name = q at *
    have HFD := Lib.hid hfd
    have HIN := Lib.hid hin
    clear hfd hin hw hf
    obtain ⟨n, hn⟩ : ∃ n, n = l.length := ⟨_, rfl⟩
    have HN := Lib.hid hn
    rw [← hn] at HCL HFD HIN hlen hto ⊢
    clear hn
    go_enter Tryz.func58, Tryz.ntmps58
    go_wp2_with first
      | (go_at_call 85; refine HFD.out.mono ?_; rintro e w1 ⟨rfl, hg1⟩; have HG1 := Lib.hid hg1; clear hg1)
      | (go_at_call 28; refine (HCL.out _ HG1.out).mono ?_; rintro e w2 ⟨v, rfl, ho⟩; rw [← HN.out] at ho; obtain ⟨A1, c1, rfl⟩ := ho.form; have HO := Lib.hid ho; clear ho)
      | (go_at_call 86; refine (HIN.out _ _ _ HO.out rfl).mono ?_; rintro e w3 ⟨v3, rfl, ho3⟩; have HO3 := Lib.hid ho3; clear ho3)
    go_ret
    exact ⟨v3, rfl, HO3.out.newAt rfl rfl, HO3.out.2⟩
  · rw [hf] at hfd
    simp only [Option.getD_some, Option.isSome_some] at hfd
    have hi := (findA_lt hf).1
    have hw : withA l name value = l.set i ⟨(l.getD i z0).name, value⟩ := by unfold withA; rw [hf]
    rw [hw]
    have hfin : ∀ (w2 : World) (g c' : Nat), RowAt w2 g c' l → w.heap.size ≤ g → c' ≤ maxLen → Grow w w2 → RetAt w (l.set i ⟨(l.getD i z0).name, value⟩) (.returned (.slice (some ⟨g, 0, none⟩) l.length c')) (w2.setCell ⟨g, i * 2 + 1, none⟩ (.string value)) := by
      intro w2 g c' h1 h2 h3 h4
      have h5 := (h1.setV hi value).own (w0 := w) h2 h3 (Below.setCell h4 h2 _)
      rw [List.length_set] at h5
      refine ⟨_, rfl, h5.newAt rfl (by rw [List.length_set]), h5.2⟩
    generalize l.set i ⟨(l.getD i z0).name, value⟩ = out at *
    have hrow : ∀ (w2 : World) (v : Value), Own w w2 48 2 v l.length (cellsA l) → ∃ g c', v = .slice (some ⟨g, 0, none⟩) l.length c' ∧ c' ≤ 9223372036854775807 ∧ Hid (RowAt w2 g c' l ∧ w.heap.size ≤ g ∧ c' ≤ maxLen ∧ Grow w w2) ∧ w2.frozen? ⟨g, i * 2 + 1, none⟩ = false ∧ ∃ u, w2.cell? ⟨g, i * 2 + 1, none⟩ = some u := by
      intro w2 v ho
      rcases ho.1.2 with ⟨_, h0⟩ | ⟨g, cap, cur, rfl, r1, r2, r3, r4, r5, r6⟩
      · omega
      · have hr : RowAt w2 g cap l := ⟨cur, r2, r5, r3, r6⟩
        exact ⟨g, cap, rfl, by simp only [maxLen] at r4; omega, ⟨hr, r1, r4, ho.2⟩, hr.frozen _, _, (hr.cell hi).2⟩
    have HFD := Lib.hid hfd
    have HR := Lib.hid hrow
    have HF := Lib.hid hfin
    clear hfd hrow hfin hw hf
    obtain ⟨n, hn⟩ : ∃ n, n = l.length := ⟨_, rfl⟩
    have HN := Lib.hid hn
    rw [← hn] at HCL HFD HF HR hlen hi ⊢
    clear hn
    go_enter Tryz.func58, Tryz.ntmps58
    go_wp2_with first
      | (go_at_call 85; refine HFD.out.mono ?_; rintro e w1 ⟨rfl, hg1⟩; have HG1 := Lib.hid hg1; clear hg1)
      | (go_at_call 28; refine (HCL.out _ HG1.out).mono ?_; rintro e w2 ⟨v, rfl, ho⟩; rw [← HN.out] at ho; obtain ⟨g, c1, rfl, hc63, HRR, hfz, u, hu⟩ := HR.out _ _ ho; clear ho)
    go_ret
    exact HF.out _ _ _ HRR.out.1 HRR.out.2.1 HRR.out.2.2.1 HRR.out.2.2.2
end Go.Proofs.YtacobpmmpdadpaaGreat
set_option linter.unusedVariables false
set_option linter.unusedSimpArgs false
namespace Go.Proofs.YtacobpmmpdadpaaGreat
namespace Doc
variable {d : Doc}
theorem attrsOf_le (hw : d.WF) (x : Int) : (d.attrsOf x).length ≤ 64 := by
  unfold attrsOf
  cases h : d.get x with
  | none => simp
  | some n => exact hw.few n (get_mem h)
theorem WF.insertD (hw : d.WF) (id up before : Int) : (d.insertD id up before).2.WF := by
  unfold Doc.insertD
  split; · exact hw
  split; · exact hw
  split; · exact hw
  split; · exact hw
  split; · exact hw
  split; · exact hw
  next h0 h1 h2 h3 h4 h5 =>
  simp only [not_or, Classical.not_not] at h1 h2 h3
  refine hw.attach h2.1 h1 h3 h0 h4 ?_
  by_cases e : before = 0
  · exact .inl e
  · exact .inr ⟨e, h2.2, Classical.byContradiction fun h => h5 ⟨e, h⟩⟩
theorem detach_anc (hw : d.WF) {x m : Int} (h : (d.detach x).Anc m x) : d.Anc m x := by
  obtain ⟨k, hk⟩ := h
  induction k generalizing m with
  | zero => exact ⟨0, hk⟩
  | succ k ih =>
    have h2 : (d.detach x).climbU ((d.detach x).upOf m) k = x := (climbU_up m k).trans hk
    by_cases e : m = x
    · exact e ▸ Anc.refl m
    · rw [detach_up, if_neg e] at h2
      exact Anc.step (ih h2)
theorem anc_detach (hw : d.WF) {x m : Int} (h : d.Anc m x) : (d.detach x).Anc m x := by
  obtain ⟨k, hk⟩ := h
  induction k generalizing m with
  | zero => exact ⟨0, hk⟩
  | succ k ih =>
    by_cases e : m = x
    · exact e ▸ Anc.refl m
    · have h2 : d.climbU (d.upOf m) k = x := (climbU_up m k).trans hk
      have h3 := ih h2
      refine Anc.step ?_
      rw [detach_up, if_neg e]; exact h3
theorem not_anc_up (hw : d.WF) {x : Int} (hx : d.has x) (hu : d.upOf x ≠ -1) : ¬ d.Anc (d.upOf x) x := by
  obtain ⟨rk, hr⟩ := hw.rank
  have h1 := hr x hx hu
  have key : ∀ (k : Nat) (m : Int), d.has m → rk m < rk x → d.climbU m k ≠ x := by
    intro k
    induction k with
    | zero => intro m _ hm e; change m = x at e; subst e; omega
    | succ k ih =>
      intro m hm hlt e
      have e2 : d.climbU (d.upOf m) k = x := (climbU_up m k).trans e
      rcases hw.up m hm with h | h
      · rw [h] at e2
        have : d.Anc (-1) x := ⟨k, e2⟩
        have := anc_neg hw this
        have := hw.nn hx
        omega
      · have h0 := hw.nn h
        exact ih _ h (by have := hr m hm (by omega); omega) e2
  rintro ⟨k, hk⟩
  exact key k _ ((hw.up x hx).resolve_left hu) h1 hk
/-- What Place finds behind Drop. -/
theorem move_pre (hw : d.WF) {id before : Int} (h0 : id ≠ 0) (h1 : d.has id) (h2 : d.has before) (h3 : d.upOf id ≠ -1) (h4 : ¬ (before = id ∨ before ≠ 0 ∧ d.upOf before ≠ d.upOf id)) :
    (d.detach id).WF ∧ (d.detach id).has (d.upOf id) ∧ (d.detach id).has id ∧ (d.detach id).upOf id = -1 ∧ ¬ (d.detach id).Anc (d.upOf id) id ∧ (before = 0 ∨ before ≠ 0 ∧ (d.detach id).has before ∧ (d.detach id).upOf before = d.upOf id) := by
  have hux := (hw.up id h1).resolve_left h3
  refine ⟨hw.detach h1 h0 h3, (detach_has _).2 hux, (detach_has _).2 h1, by rw [detach_up, if_pos rfl], fun h => not_anc_up hw h1 h3 (detach_anc hw h), ?_⟩
  simp only [not_or] at h4
  by_cases e : before = 0
  · exact .inl e
  · refine .inr ⟨e, (detach_has _).2 h2, ?_⟩
    rw [detach_up, if_neg h4.1]
    exact Classical.byContradiction fun h => h4.2 ⟨e, h⟩
theorem WF.moveD (hw : d.WF) (id before : Int) : (d.moveD id before).2.WF := by
  unfold Doc.moveD
  split; · exact hw
  split; · exact hw
  split; · exact hw
  split; · exact hw
  split; · exact hw
  next h0 h1 h2 h3 h4 =>
  simp only [Classical.not_not] at h1 h2
  obtain ⟨p1, p2, p3, p4, p5, p6⟩ := move_pre hw h0 h1 h2 h3 h4
  exact p1.attach p2 p3 p4 h0 p5 p6
theorem WF.removeD (hw : d.WF) (id : Int) : (d.removeD id).2.WF := by
  unfold Doc.removeD
  split; · exact hw
  split; · exact hw
  next h0 h1 =>
  simp only [Classical.not_not] at h1
  by_cases hu : d.upOf id = -1
  · simp only [if_pos hu]; exact hw.prune h1 hu h0
  · simp only [if_neg hu]
    exact (hw.detach h1 h0 hu).prune ((detach_has _).2 h1) (by rw [detach_up, if_pos rfl]) h0
theorem WF.setD (hw : d.WF) (id : Int) (name value : ByteArray) : (d.setD id name value).2.WF := by
  unfold Doc.setD
  split; · exact hw
  split; · exact hw
  split; · exact hw
  split; · exact hw
  split; · exact hw
  next h5 =>
  refine hw.own (by intros; rfl) (by intros; rfl) (by intros; rfl) fun n hn => ?_
  simp only [attrsOf, hn] at h5
  simp only [Option.map_some, Option.getD_some] at h5
  show (withA n.attrs name value).length ≤ 64
  omega
theorem withoutA_le (l : List At) (name : ByteArray) : (withoutA l name).length ≤ l.length := List.length_filter_le _ _
theorem WF.delD (hw : d.WF) (id : Int) (name : ByteArray) : (d.delD id name).2.WF := by
  unfold Doc.delD
  split; · exact hw
  split; · exact hw
  split; · exact hw
  refine hw.own (by intros; rfl) (by intros; rfl) (by intros; rfl) fun n hn => ?_
  have := hw.few n (get_mem hn)
  have := withoutA_le n.attrs name
  show (withoutA n.attrs name).length ≤ 64
  omega
theorem WF.textD (hw : d.WF) (id : Int) (s : ByteArray) : (d.textD id s).2.WF := by
  unfold Doc.textD
  split; · exact hw
  split; · exact hw
  split; · exact hw
  exact hw.own (by intros; rfl) (by intros; rfl) (by intros; rfl) fun n hn => hw.few n (get_mem hn)
theorem WF.createD (hw : d.WF) (tag key text : ByteArray) (l : List At) : (d.createD tag key text l).2.2.WF := by
  unfold Doc.createD
  split; · exact hw
  split; · exact hw
  split; · exact hw
  split; · exact hw
  next h1 h2 h3 h4 =>
  exact hw.push rfl rfl rfl (checkA_len (by simpa using h3)) (by omega)
theorem WF.doD (hw : d.WF) (x : Opr) : (d.doD x).2.2.WF := by
  unfold Doc.doD
  split; · exact hw.createD ..
  split; · exact hw.insertD ..
  split; · exact hw.moveD ..
  split; · exact hw.removeD ..
  split; · exact hw.setD ..
  split; · exact hw.delD ..
  split; · exact hw.textD ..
  exact hw
theorem prune_len (y : Int) : (d.prune y).nodes.length ≤ d.nodes.length := List.length_filter_le _ _
theorem mod_len (x : Int) (f : Nd → Nd) : (d.mod x f).nodes.length = d.nodes.length := by simp [mod]
theorem doD_len (x : Opr) : (d.doD x).2.2.nodes.length ≤ d.nodes.length + 1 := by
  unfold Doc.doD
  split
  · unfold Doc.createD; repeat' split
    all_goals simp [push]
  split
  · unfold Doc.insertD; repeat' split
    all_goals simp [attach, mod]
  split
  · unfold Doc.moveD; repeat' split
    all_goals simp [attach, detach, mod]
  split
  · unfold Doc.removeD; repeat' split
    all_goals (have := prune_len (d := d) x.node; have := prune_len (d := d.detach x.node) x.node; simp [detach, mod] at *; try omega)
  split
  · unfold Doc.setD; repeat' split
    all_goals simp [mod]
  split
  · unfold Doc.delD; repeat' split
    all_goals simp [mod]
  split
  · unfold Doc.textD; repeat' split
    all_goals simp [mod]
  · simp

/-! ### a new document; what is read -/
def new (next : Int) : Doc := ⟨[⟨0, -1, [], ⟨#[]⟩, ⟨#[]⟩, ⟨#[]⟩, []⟩], next⟩
theorem new_get (next m : Int) : (new next).get m = if m = 0 then some ⟨0, -1, [], ⟨#[]⟩, ⟨#[]⟩, ⟨#[]⟩, []⟩ else none := by
  unfold get new
  by_cases e : m = 0
  · subst e; rfl
  · have : ¬ (0 : Int) = m := fun h => e h.symm
    simp [e, this]
theorem WF.new {next : Int} (h1 : 1 ≤ next) (h2 : next ≤ 4294967296) : (new next).WF := by
  have hh : ∀ m, (Doc.new next).has m ↔ m = 0 := fun m => by rw [has_iff, new_get]; by_cases e : m = 0 <;> simp [e]
  have hu : ∀ m, (Doc.new next).upOf m = -1 := fun m => by unfold upOf; rw [new_get]; by_cases e : m = 0 <;> simp [e]
  have hk : ∀ m, (Doc.new next).kidsOf m = [] := fun m => by unfold kidsOf; rw [new_get]; by_cases e : m = 0 <;> simp [e]
  refine ⟨by simp [Doc.new], ⟨_, [], rfl, rfl, rfl⟩, fun m hm => ?_, h1, h2, fun m _ => .inl (hu m), fun u m hu' => ?_, fun u => by rw [hk]; simp, ⟨fun _ => 0, fun m _ h => absurd (hu m) h⟩, fun n hn => ?_⟩
  · have := (hh m).1 hm
    show m < next
    omega
  · rw [hk, hu, hh]
    have := (hh u).1 hu'
    constructor
    · intro h; simp at h
    · rintro ⟨_, h⟩; omega
  · simp only [Doc.new, List.mem_singleton] at hn
    subst hn; simp
structure Rw where
  id : Int
  up : Int
  tag : ByteArray
  key : ByteArray
  text : ByteArray
  attrs : List At
def rowOf (n : Nd) (up : Int) : Rw := ⟨n.id, up, n.tag, n.key, n.text, n.attrs⟩
/-- The rows of all below a node, behind others. -/
def belowF : Nat → Doc → List Rw → Int → Int → Option (List Rw)
  | 0, _, _, _, _ => none
  | k + 1, d, acc, id, up => (d.kidsOf id).foldlM (fun a c => (d.get c).bind fun n => belowF k d (a ++ [rowOf n up]) c (a.length + 1 : Nat)) acc
def looseD (d : Doc) : List Int := (d.nodes.filter fun n => n.id ≠ 0 && n.up < 0).map (·.id)
theorem foldlM_mono {α β : Type} {f g : α → β → Option α} (h : ∀ a b r, f a b = some r → g a b = some r) : ∀ (l : List β) (a r : α), l.foldlM f a = some r → l.foldlM g a = some r
  | [], a, r, e => e
  | b :: l, a, r, e => by
    rw [List.foldlM_cons] at e ⊢
    obtain ⟨x, h1, h2⟩ := Option.bind_eq_some_iff.1 e
    rw [h a b x h1]
    exact foldlM_mono h l x r h2
theorem belowF_succ : ∀ (k : Nat) (acc : List Rw) (id up : Int) (r : List Rw), belowF k d acc id up = some r → belowF (k + 1) d acc id up = some r
  | 0, _, _, _, _, h => by simp [belowF] at h
  | k + 1, acc, id, up, r, h => by
    unfold belowF at h ⊢
    refine foldlM_mono (fun a c r h => ?_) _ _ _ h
    obtain ⟨n, h1, h2⟩ := Option.bind_eq_some_iff.1 h
    rw [h1]
    exact belowF_succ k _ _ _ _ h2
theorem belowF_mono {k j : Nat} (hj : k ≤ j) {acc : List Rw} {id up : Int} {r : List Rw} (h : belowF k d acc id up = some r) : belowF j d acc id up = some r := by
  induction hj with
  | refl => exact h
  | step _ ih => exact belowF_succ _ _ _ _ _ ih
theorem belowF_det {k j : Nat} {acc : List Rw} {id up : Int} {r s : List Rw} (h : belowF k d acc id up = some r) (h' : belowF j d acc id up = some s) : r = s :=
  Option.some.inj ((belowF_mono (Nat.le_add_right k j) h).symm.trans (belowF_mono (Nat.le_add_left j k) h'))
theorem rank_bound (rk : Int → Nat) : ∀ l : List Nd, ∃ M, ∀ n ∈ l, rk n.id ≤ M
  | [] => ⟨0, by simp⟩
  | a :: r => by
    obtain ⟨M, h⟩ := rank_bound rk r
    refine ⟨M + rk a.id, fun n hn => ?_⟩
    rcases List.mem_cons.1 hn with rfl | hn
    · omega
    · have := h n hn; omega

/-! ### reading ends, and tells no node twice -/
theorem nodup_le {α : Type} [DecidableEq α] : ∀ (l m : List α), l.Nodup → (∀ a, a ∈ l → a ∈ m) → l.length ≤ m.length
  | [], _, _, _ => by simp
  | a :: r, m, h, hs => by
    rw [List.nodup_cons] at h
    have h1 := nodup_le r (m.erase a) h.2 fun b hb => (List.mem_erase_of_ne (show b ≠ a from fun e => h.1 (e ▸ hb))).2 (hs b (List.mem_cons_of_mem _ hb))
    have ha := hs a (by simp)
    rw [List.length_erase_of_mem ha] at h1
    have := List.length_pos_of_mem ha
    simp; omega
/-- What is below id: what a reading adds. -/
def Adds (d : Doc) (id : Int) (l : List Rw) : Prop := (l.map (·.id)).Nodup ∧ ∀ r ∈ l, d.has r.id ∧ d.Anc r.id id ∧ r.id ≠ id
theorem anc_comparable (hw : d.WF) {m a b : Int} (ha : d.Anc m a) (hb : d.Anc m b) : d.Anc a b ∨ d.Anc b a := by
  obtain ⟨i, hi⟩ := ha
  obtain ⟨j, hj⟩ := hb
  have key : ∀ (x : Int) (i j : Nat), d.climbU (d.climbU x i) j = d.climbU x (i + j) := fun x i j => by
    induction j with
    | zero => rfl
    | succ j ih => rw [climbU_succ, ih]; rfl
  rcases Nat.le_total i j with h | h
  · left
    refine ⟨j - i, ?_⟩
    have := key m i (j - i)
    rw [show i + (j - i) = j by omega, show d.climbU m i = a from hi, show d.climbU m j = b from hj] at this
    exact this
  · right
    refine ⟨i - j, ?_⟩
    have := key m j (i - j)
    rw [show j + (i - j) = i by omega, show d.climbU m i = a from hi, show d.climbU m j = b from hj] at this
    exact this
theorem kids_apart (hw : d.WF) {u a b m : Int} (hu : d.has u) (ha : a ∈ d.kidsOf u) (hb : b ∈ d.kidsOf u) (h1 : d.Anc m a) (h2 : d.Anc m b) : a = b := by
  obtain ⟨ha1, ha2⟩ := (hw.kid u a hu).1 ha
  obtain ⟨hb1, hb2⟩ := (hw.kid u b hu).1 hb
  have hu0 := hw.nn hu
  rcases anc_comparable hw h1 h2 with h | h
  · rcases anc_cases h with e | e
    · exact e
    · rw [ha2, ← hb2] at e
      exact absurd e (not_anc_up hw hb1 (by omega))
  · rcases anc_cases h with e | e
    · exact e.symm
    · rw [hb2, ← ha2] at e
      exact absurd e (not_anc_up hw ha1 (by omega))
theorem read_some (hw : d.WF) {rk : Int → Nat} (hr : ∀ x, d.has x → d.upOf x ≠ -1 → rk (d.upOf x) < rk x) {M : Nat} (hM : ∀ x, d.has x → rk x ≤ M) :
    ∀ (k : Nat) (id up : Int) (acc : List Rw), d.has id → M < k + rk id → ∃ l, belowF k d acc id up = some (acc ++ l) ∧ Adds d id l
  | 0, id, _, _, hid, h => by have := hM id hid; omega
  | k + 1, id, up, acc, hid, h => by
    have hid0 := hw.nn hid
    have loop : ∀ (s : List Int), (∀ c ∈ s, c ∈ d.kidsOf id) → s.Nodup → ∀ (acc : List Rw), ∃ l, s.foldlM (fun a c => (d.get c).bind fun n => belowF k d (a ++ [rowOf n up]) c (a.length + 1 : Nat)) acc = some (acc ++ l) ∧ (l.map (·.id)).Nodup ∧ ∀ r ∈ l, ∃ c ∈ s, d.has r.id ∧ d.Anc r.id c := by
      intro s
      induction s with
      | nil => intro _ _ acc; exact ⟨[], by simp, by simp, by simp⟩
      | cons c s ih =>
        intro hs hn acc
        have hc := (hw.kid id c hid).1 (hs c (by simp))
        obtain ⟨n, hn'⟩ := has_iff.1 hc.1
        have hrk := hr c hc.1 (by omega)
        rw [hc.2] at hrk
        obtain ⟨l, h1, h2, h3⟩ := read_some hw hr hM k c (acc.length + 1 : Nat) (acc ++ [rowOf n up]) hc.1 (by omega)
        rw [List.nodup_cons] at hn
        obtain ⟨l', h4, h5, h6⟩ := ih (fun c hc => hs c (List.mem_cons_of_mem _ hc)) hn.2 (acc ++ [rowOf n up] ++ l)
        have hid' : n.id = c := get_id hn'
        refine ⟨rowOf n up :: (l ++ l'), ?_, ?_, ?_⟩
        · rw [List.foldlM_cons, hn', Option.bind_some]
          show (Option.bind (belowF k d (acc ++ [rowOf n up]) c (acc.length + 1 : Nat)) _) = _
          rw [h1, Option.bind_some]
          refine h4.trans ?_
          simp
        · rw [List.map_cons, List.map_append, List.nodup_cons, List.nodup_append]
          have hap : ∀ x, x ∈ l'.map (·.id) → ¬ d.Anc x c := by
            intro x hx hA
            obtain ⟨r, hr', rfl⟩ := List.mem_map.1 hx
            obtain ⟨c', hc', _, hA'⟩ := h6 r hr'
            have := kids_apart hw hid (hs c (by simp)) (hs c' (List.mem_cons_of_mem _ hc')) hA hA'
            exact hn.1 (this ▸ hc')
          refine ⟨?_, h2, h5, ?_⟩
          · show n.id ∉ _
            rw [hid', List.mem_append, not_or]
            refine ⟨fun hx => ?_, fun hx => hap c hx (Anc.refl c)⟩
            obtain ⟨r, hr', e⟩ := List.mem_map.1 hx
            exact (h3 r hr').2.2 e
          · rintro a ha b hb rfl
            obtain ⟨r, hr', rfl⟩ := List.mem_map.1 ha
            exact hap _ hb (h3 r hr').2.1
        · intro r hr'
          rcases List.mem_cons.1 hr' with rfl | hr'
          · exact ⟨c, by simp, by show d.has n.id; rw [hid']; exact hc.1, by show d.Anc n.id c; rw [hid']; exact Anc.refl c⟩
          · rcases List.mem_append.1 hr' with hr' | hr'
            · exact ⟨c, by simp, (h3 r hr').1, (h3 r hr').2.1⟩
            · obtain ⟨c', hc', h⟩ := h6 r hr'
              exact ⟨c', List.mem_cons_of_mem _ hc', h⟩
    obtain ⟨l, h1, h2, h3⟩ := loop (d.kidsOf id) (fun _ h => h) (hw.nodup id) acc
    refine ⟨l, h1, h2, fun r hr' => ?_⟩
    obtain ⟨c, hc, h4, h5⟩ := h3 r hr'
    obtain ⟨hc1, hc2⟩ := (hw.kid id c hid).1 hc
    refine ⟨h4, hc2 ▸ h5.up, ?_⟩
    rintro e
    rw [e, ← hc2] at h5
    exact not_anc_up hw hc1 (by omega) h5
/-- All rows of a document. -/
theorem read_all (hw : d.WF) : ∃ k l, belowF k d [] 0 0 = some l ∧ l.length ≤ d.nodes.length := by
  obtain ⟨rk, hr⟩ := hw.rank
  obtain ⟨M, hM⟩ := rank_bound rk d.nodes
  obtain ⟨l, h1, h2, h3⟩ := read_some hw hr (M := M) (by rintro x ⟨n, hn, rfl⟩; exact hM n hn) (M + 1) 0 0 [] hw.has0 (by omega)
  refine ⟨_, l, h1, ?_⟩
  have := nodup_le (l.map (·.id)) (d.nodes.map (·.id)) h2 fun a ha => by
    obtain ⟨r, hr', rfl⟩ := List.mem_map.1 ha
    obtain ⟨n, hn, e⟩ := (h3 r hr').1
    exact List.mem_map.2 ⟨n, hn, e⟩
  simpa using this
end Doc
end Go.Proofs.YtacobpmmpdadpaaGreat
