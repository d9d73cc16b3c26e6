/- Predicates on the memory that the walks of this seat share: what is read of slices, and what a call leaves alone. A document as plain data: what each call turns, and that its links follow from who is below whom. No program, no memory. What insert, move, remove and create turn in a document: the links as Place and Drop turn them; what holds of every document goes on to hold. Documents as data, third part: what is taken out, ended, made and changed; that documents stay well formed. Documents as data, fourth part: the calls. What the small functions of chars and of its reference answer. What chars.Tag and chars.Name answer; what the reference's Compare answers. The checks of attribute lists: the program's and its reference's both answer checkA. -/
import Derived.WalkKit
import Derived.KernelRfl
import Derived.Lib.Hide
import Derived.Deep.QuietTactic
import Derived.BigQuiet
import Derived.Deep.Draws
import Derived.Deep.LoopGhost
import Derived.Deep.RegionWith
import Derived.StillTailTactics
import Derived.Deep.DeepFit
import Derived.Deep.DeepMust
import Derived.LaidEqlPtr
import Derived.Deep.DeepCutAuto
import Derived.Deep.CutBlock
import Derived.WalkLawsBesides
import Derived.Test.YtacobpmmpdadpaaGreatProg
import Derived.Lib.Bytealg
namespace Go.Proofs.YtacobpmmpdadpaaGreat
open Go.RowKit

/-- A block's type, a map's being 1000000. -/
def tyo : Obj → Nat | .cells _ t _ => t | .map _ _ => 1000000 | _ => 1000001
/-- The block is none of those that may be written. -/
def Imm (base : Nat) (ts : List Nat) (w : World) (b : Nat) : Prop := b < w.heap.size ∧ (b < base ∨ ∃ o, w.heap[b]? = some o ∧ tyo o ∉ ts)
/-- What was there below base, or is of a type that is none of ts, is as it was. -/
structure Fr (base : Nat) (ts : List Nat) (w w' : World) : Prop where
  os : w'.os = w.os
  tape : w'.tape = w.tape
  output : w'.output = w.output
  size : w.heap.size ≤ w'.heap.size
  keep : ∀ b, Imm base ts w b → w'.heap[b]? = w.heap[b]?

theorem Fr.imm {base : Nat} {ts : List Nat} {w w' : World} (h : Fr base ts w w') {b : Nat} (hb : Imm base ts w b) : Imm base ts w' b := by
  refine ⟨Nat.lt_of_lt_of_le hb.1 h.size, ?_⟩
  rcases hb.2 with h1 | ⟨o, h1, h2⟩
  · exact .inl h1
  · exact .inr ⟨o, (h.keep b hb).trans h1, h2⟩
theorem Fr.refl (base : Nat) (ts : List Nat) (w : World) : Fr base ts w w := ⟨rfl, rfl, rfl, Nat.le_refl _, fun _ _ => rfl⟩
theorem Fr.trans {base : Nat} {ts : List Nat} {a b c : World} (h : Fr base ts a b) (k : Fr base ts b c) : Fr base ts a c :=
  ⟨k.os.trans h.os, k.tape.trans h.tape, k.output.trans h.output, Nat.le_trans h.size k.size, fun i hi => (k.keep i (h.imm hi)).trans (h.keep i hi)⟩
theorem Fr.of_below {w w' : World} (base : Nat) (ts : List Nat) (h : Below w.heap.size w w') : Fr base ts w w' :=
  ⟨h.os, h.tape, h.output, h.size, fun b hb => h.block b hb.1⟩
theorem Fr.below {base : Nat} {ts : List Nat} {w w' : World} (h : Fr base ts w w') (hb : base ≤ w.heap.size) : Below base w w' :=
  ⟨h.os, h.tape, h.output, h.size, fun b hk => h.keep b ⟨by omega, .inl hk⟩⟩
theorem Fr.setCell {base : Nat} {ts : List Nat} {w w' : World} (h : Fr base ts w w') {a : Addr} (v : Value) (hb : base ≤ a.block) {o : Obj} (ho : w'.heap[a.block]? = some o) (ht : tyo o ∈ ts) : Fr base ts w (w'.setCell a v) := by
  refine h.trans ⟨rfl, rfl, rfl, by simp, fun b hk => ?_⟩
  refine Below.heap_setCell _ _ _ _ fun e => ?_
  subst e
  rcases hk.2 with h1 | ⟨o', h1, h2⟩
  · omega
  · rw [ho] at h1
    cases h1
    exact h2 ht
theorem Fr.mono {base : Nat} {ts ts' : List Nat} {w w' : World} (h : Fr base ts w w') (ht : ∀ t, t ∈ ts → t ∈ ts') : Fr base ts' w w' :=
  ⟨h.os, h.tape, h.output, h.size, fun b hb => h.keep b ⟨hb.1, hb.2.imp id (fun ⟨o, h1, h2⟩ => ⟨o, h1, fun h3 => h2 (ht _ h3)⟩)⟩⟩

section
variable {P : Program} (w : World)
theorem run_eql_ptr {tp te : TypeId} {sz : Nat} {a b : Addr} {ca cb : Array Value} {ta tb : TypeId} (hp : P.underlying tp = some (.pointer te)) (hi : (P.info? te).map (·.size) = some (sz + 1))
    (ha : w.heap[a.block]? = some (.cells ca ta (0, 0))) (hb : w.heap[b.block]? = some (.cells cb tb (0, 0))) :
    (binOp .eql tp (.pointer (some a)) (.pointer (some b))).run P w = .ok (.bool (decide (a = b))) w := by
  obtain ⟨j, hj, hs⟩ := Option.map_eq_some_iff.1 hi
  by_cases e : a = b
  · subst e
    rw [run_eql_ptr_same w a hp hj]; simp
  · rw [run_eql_ptr_other w hp hj (by omega) e ha hb]; simp [e]
theorem run_neq_ptr {tp te : TypeId} {sz : Nat} {a b : Addr} {ca cb : Array Value} {ta tb : TypeId} (hp : P.underlying tp = some (.pointer te)) (hi : (P.info? te).map (·.size) = some (sz + 1))
    (ha : w.heap[a.block]? = some (.cells ca ta (0, 0))) (hb : w.heap[b.block]? = some (.cells cb tb (0, 0))) :
    (binOp .neq tp (.pointer (some a)) (.pointer (some b))).run P w = .ok (.bool (!decide (a = b))) w := by
  obtain ⟨j, hj, hs⟩ := Option.map_eq_some_iff.1 hi
  have h : ∀ d : Nat, (Op.equalIn (d + 1) tp (.pointer (some a)) (.pointer (some b))).run P w = .ok (decide (a = b)) w := fun d => by
    by_cases e : a = b
    · subst e
      simp [Op.equalIn, run_underlying hp, sizeOf, typeInfo, hj, run_sameAddr_same]
    · have : j.size ≠ 0 := by omega
      simp [Op.equalIn, run_underlying hp, sizeOf, typeInfo, hj, this, run_sameAddr_other w e ha hb, e]
  simp only [binOp]
  simp [Op.equal, Op.maxDepth, h 9999]
end

theorem run_neq_nil_ptr {P : Program} (w : World) {tp te : TypeId} (hp : P.underlying tp = some (.pointer te)) (a : Addr) :
    (binOp .neq tp (.pointer none) (.pointer (some a))).run P w = .ok (.bool true) w := by
  have h : ∀ d : Nat, (Op.equalIn (d + 1) tp (.pointer none) (.pointer (some a))).run P w = .ok false w := fun d => by
    simp [Op.equalIn, run_underlying hp]
  simp only [binOp]
  simp [Op.equal, Op.maxDepth, h 9999]

/-- Nothing that was there has turned. -/
abbrev Grow (w w' : World) : Prop := Below w.heap.size w w'
theorem Grow.trans' {a b c : World} (h : Grow a b) (k : Grow b c) : Grow a c := h.trans (k.mono h.size)
theorem Grow.drewN (w : World) (n : Nat) : Grow w (w.drewN n) := by
  induction n with
  | zero => exact Below.refl _ _
  | succ n ih => rw [← World.drew_drewN]; exact Below.drew ih
theorem grow_drewN {a b : World} (h : Grow a b) (n : Nat) : Grow a (b.drewN n) := Grow.trans' h (Grow.drewN b n)
theorem grow_drew {a b : World} (h : Grow a b) : Grow a b.drew := Below.drew h
theorem grow_alloc {a b : World} (h : Grow a b) (o : Obj) : Grow a (b.alloc o) := Below.alloc h h.size o
theorem Grow.cell {w w' : World} (h : Grow w w') {p : Addr} {v : Value} (hc : w.cell? p = some v) : w'.cell? p = some v :=
  (Below.cell h (World.block_lt_of_cell? w p hc)).trans hc

/-! ### a quiet call behind a region that has drawn -/
theorem quiet2 {P : Program} {f : FuncId} {args : Array Value} {w : World} {a n : Nat} {v : Value}
    (h : Calls P f args (w.drewN (a + n)) fun e w' => e = .returned v ∧ ∃ m, w' = (w.drewN (a + n)).drewN m) :
    Calls P f args (w.drewN (a + n)) fun e w'' => e = .returned v ∧ ∃ m, w'' = w.drewN (a + m) :=
  h.mono fun _ _ ⟨he, m, hm⟩ => ⟨he, n + m, by rw [hm, World.drewN_drewN, Nat.add_assoc]⟩
theorem quiet2_same {P : Program} {f : FuncId} {args : Array Value} {w : World} {a n : Nat} {v : Value}
    (h : Calls P f args (w.drewN (a + n)) fun e w' => e = .returned v ∧ w.drewN (a + n) = w') :
    Calls P f args (w.drewN (a + n)) fun e w'' => e = .returned v ∧ ∃ m, w'' = w.drewN (a + m) :=
  h.mono fun _ _ ⟨he, hm⟩ => ⟨he, n, hm.symm⟩
theorem quiet1_same {P : Program} {f : FuncId} {args : Array Value} {w : World} {n : Nat} {v : Value}
    (h : Calls P f args (w.drewN n) fun e w' => e = .returned v ∧ w.drewN n = w') : Calls P f args (w.drewN n) fun e w'' => e = .returned v ∧ ∃ m, w'' = w.drewN m :=
  h.mono fun _ _ ⟨he, hm⟩ => ⟨he, n, hm.symm⟩

/-! ### a row of elements that is read -/
section
variable {α : Type}
/-- The elements xs (sz cells each, as E tells) lie from address A on, in a block that is ok. -/
def Rd (E : α → List Value → Prop) (sz : Nat) (w : World) (ok : Nat → Prop) (A : Option Addr) (xs : List α) : Prop :=
  xs.length ≤ 9223372036854775807 ∧ (xs = [] ∨ ∃ b o, A = some ⟨b, o, none⟩ ∧ ok b ∧
    ∀ i x, xs[i]? = some x → ∃ cs, E x cs ∧ cs.length = sz ∧ ∀ j u, cs[j]? = some u → w.cell? ⟨b, o + i * sz + j, none⟩ = some u)
/-- The same, of a slice's value. -/
def RdV (E : α → List Value → Prop) (sz : Nat) (w : World) (ok : Nat → Prop) (v : Value) (xs : List α) : Prop :=
  ∃ A c, v = .slice A xs.length c ∧ xs.length ≤ c ∧ Rd E sz w ok A xs
variable {E E' : α → List Value → Prop} {sz : Nat} {w w' : World} {ok ok' : Nat → Prop} {A : Option Addr} {v : Value} {xs : List α}
theorem Rd.imp (h : Rd E sz w ok A xs) (hE : ∀ x cs, x ∈ xs → E x cs → E' x cs) (hok : ∀ b, ok b → ok' b) (hc : ∀ b, ok b → b < w.heap.size → w'.heap[b]? = w.heap[b]?) : Rd E' sz w' ok' A xs := by
  refine ⟨h.1, h.2.imp id ?_⟩
  rintro ⟨b, o, rfl, hb, hx⟩
  refine ⟨b, o, rfl, hok b hb, fun i x hi => ?_⟩
  obtain ⟨cs, h1, h2, h3⟩ := hx i x hi
  refine ⟨cs, hE _ _ (List.mem_of_getElem? hi) h1, h2, fun j u hu => ?_⟩
  have := h3 j u hu
  rw [World.cell?_of_block (w := w) (hc b hb (World.block_lt_of_cell? w _ this))]
  exact this
theorem RdV.imp (h : RdV E sz w ok v xs) (hE : ∀ x cs, x ∈ xs → E x cs → E' x cs) (hok : ∀ b, ok b → ok' b) (hc : ∀ b, ok b → b < w.heap.size → w'.heap[b]? = w.heap[b]?) : RdV E' sz w' ok' v xs := by
  obtain ⟨A, c, rfl, hl, hr⟩ := h
  exact ⟨A, c, rfl, hl, hr.imp hE hok hc⟩
theorem Rd.nil (E : α → List Value → Prop) (sz : Nat) (w : World) (ok : Nat → Prop) (A : Option Addr) : Rd E sz w ok A ([] : List α) := ⟨by simp, .inl rfl⟩
theorem RdV.nil (E : α → List Value → Prop) (sz : Nat) (w : World) (ok : Nat → Prop) (c : Nat) (A : Option Addr) : RdV E sz w ok (.slice A 0 c) ([] : List α) := ⟨A, c, rfl, by simp, Rd.nil ..⟩
/-- An element. -/
theorem Rd.at (h : Rd E sz w ok A xs) {i : Nat} (hi : i < xs.length) : ∃ b o cs, A = some ⟨b, o, none⟩ ∧ ok b ∧ E xs[i] cs ∧ cs.length = sz ∧ ∀ j u, cs[j]? = some u → w.cell? ⟨b, o + i * sz + j, none⟩ = some u := by
  rcases h.2 with rfl | ⟨b, o, rfl, hb, hx⟩
  · simp at hi
  · obtain ⟨cs, h1, h2, h3⟩ := hx i xs[i] (List.getElem?_eq_getElem hi)
    exact ⟨b, o, cs, rfl, hb, h1, h2, h3⟩
end
def EInt (x : Int) (cs : List Value) : Prop := cs = [.int .i64 x]
structure At where
  name : ByteArray
  value : ByteArray
  deriving DecidableEq, Inhabited
def z0 : At := ⟨⟨#[]⟩, ⟨#[]⟩⟩
def EAt (x : At) (cs : List Value) : Prop := cs = [.string x.name, .string x.value]

theorem Rd.int_at {w : World} {ok : Nat → Prop} {A : Option Addr} {xs : List Int} (h : Rd EInt 1 w ok A xs) {i : Nat} (hi : i < xs.length) :
    ∃ b o, A = some ⟨b, o, none⟩ ∧ ok b ∧ w.cell? ⟨b, o + i, none⟩ = some (.int .i64 (xs.getD i 0)) := by
  obtain ⟨b, o, cs, rfl, hb, rfl, _, hc⟩ := h.at hi
  refine ⟨b, o, rfl, hb, ?_⟩
  have := hc 0 _ rfl
  simpa [List.getD_eq_getElem?_getD, List.getElem?_eq_getElem hi] using this
theorem Rd.at_at {w : World} {ok : Nat → Prop} {A : Option Addr} {xs : List At} (h : Rd EAt 2 w ok A xs) {i : Nat} (hi : i < xs.length) :
    ∃ b o, A = some ⟨b, o, none⟩ ∧ ok b ∧ w.cell? ⟨b, o + i * 2, none⟩ = some (.string (xs.getD i z0).name) ∧ w.cell? ⟨b, o + i * 2 + 1, none⟩ = some (.string (xs.getD i z0).value) := by
  obtain ⟨b, o, cs, rfl, hb, rfl, _, hc⟩ := h.at hi
  refine ⟨b, o, rfl, hb, ?_, ?_⟩
  · have := hc 0 _ rfl
    simpa [List.getD_eq_getElem?_getD, List.getElem?_eq_getElem hi] using this
  · have := hc 1 _ rfl
    simpa [List.getD_eq_getElem?_getD, List.getElem?_eq_getElem hi] using this

theorem take_snoc {α : Type} (l : List α) (d : α) {k : Nat} (h : k < l.length) : l.take (k + 1) = l.take k ++ [l.getD k d] := by
  rw [List.take_succ_eq_append_getElem h]; simp [List.getD_eq_getElem?_getD, List.getElem?_eq_getElem h]

end Go.Proofs.YtacobpmmpdadpaaGreat
set_option linter.unusedVariables false
set_option linter.unusedSimpArgs false
namespace Go.Proofs.YtacobpmmpdadpaaGreat

structure Lk where
  up : Int
  first : Int
  last : Int
  prev : Int
  next : Int
  deriving DecidableEq
def upd (L : Int → Lk) (n : Int) (f : Lk → Lk) : Int → Lk := fun m => if m = n then f (L m) else L m
def climbLen : Nat → (Int → Lk) → Int → Int → Option Bool
  | 0, _, _, _ => Option.none
  | k + 1, L, y, x => if x < 0 then some false else if x = y then some true else climbLen k L y (L x).up

/-- Place, where nothing bars it: what it turns. -/
def placeL (L : Int → Lk) (x y b : Int) : Int → Lk :=
  let L1 := upd (upd L y fun l => { l with up := x }) y fun l => { l with next := b }
  let p := if b = -1 then (L x).last else (L b).prev
  let L2 := upd L1 y fun l => { l with prev := p }
  let L3 := if b = -1 then upd L2 x fun l => { l with last := y } else upd L2 b fun l => { l with prev := y }
  if p = -1 then upd L3 x fun l => { l with first := y } else upd L3 p fun l => { l with next := y }

/-- Drop, where there is something above: what it turns. -/
def dropL (L : Int → Lk) (x : Int) : Int → Lk :=
  let u := (L x).up
  let p := (L x).prev
  let n := (L x).next
  let L1 := if p = -1 then upd L u fun l => { l with first := n } else upd L p fun l => { l with next := n }
  let L2 := if n = -1 then upd L1 u fun l => { l with last := p } else upd L1 n fun l => { l with prev := p }
  upd (upd (upd L2 x fun l => { l with up := -1 }) x fun l => { l with prev := -1 }) x fun l => { l with next := -1 }

/-! ### who is beside whom in a list -/
def nextIn : List Int → Int → Int
  | a :: b :: r, x => if a = x then b else nextIn (b :: r) x
  | _, _ => -1
def prevIn : List Int → Int → Int
  | a :: b :: r, x => if b = x then a else prevIn (b :: r) x
  | _, _ => -1
theorem nextIn_notMem : ∀ (l : List Int) {x : Int}, x ∉ l → nextIn l x = -1
  | [], _, _ => rfl
  | [_], _, _ => rfl
  | a :: b :: r, x, h => by
    rw [nextIn, if_neg (fun e => h (by simp [e]))]
    exact nextIn_notMem (b :: r) (fun e => h (List.mem_cons_of_mem _ e))
theorem prevIn_notMem : ∀ (l : List Int) {x : Int}, x ∉ l → prevIn l x = -1
  | [], _, _ => rfl
  | [_], _, _ => rfl
  | a :: b :: r, x, h => by
    rw [prevIn, if_neg (fun e => h (by simp [e]))]
    exact prevIn_notMem (b :: r) (fun e => h (List.mem_cons_of_mem _ e))
theorem nextIn_mem : ∀ (l : List Int) (x : Int), nextIn l x = -1 ∨ nextIn l x ∈ l
  | [], _ => .inl rfl
  | [_], _ => .inl rfl
  | a :: b :: r, x => by
    rw [nextIn]
    split
    · exact .inr (by simp)
    · exact (nextIn_mem (b :: r) x).imp id (List.mem_cons_of_mem _)
theorem prevIn_mem : ∀ (l : List Int) (x : Int), prevIn l x = -1 ∨ prevIn l x ∈ l
  | [], _ => .inl rfl
  | [_], _ => .inl rfl
  | a :: b :: r, x => by
    rw [prevIn]
    split
    · exact .inr (by simp)
    · exact (prevIn_mem (b :: r) x).imp id (List.mem_cons_of_mem _)
theorem nextIn_at : ∀ (l1 l2 : List Int) (x : Int), x ∉ l1 → nextIn (l1 ++ x :: l2) x = l2.headD (-1)
  | [], [], _, _ => rfl
  | [], b :: r, x, _ => by simp [nextIn]
  | a :: r, l2, x, h => by
    have ha : a ≠ x := fun e => h (by simp [e])
    have ih := nextIn_at r l2 x (fun e => h (List.mem_cons_of_mem _ e))
    cases r with
    | nil => simpa [nextIn, ha] using ih
    | cons b r => simpa [nextIn, ha] using ih
theorem prevIn_at : ∀ (l1 l2 : List Int) (x : Int), x ∉ l1 → x ∉ l2 → prevIn (l1 ++ x :: l2) x = l1.getLastD (-1)
  | [], l2, x, _, h2 => prevIn_notMem' l2 x h2
  | [a], l2, x, h, h2 => by simp [prevIn]
  | a :: b :: r, l2, x, h, h2 => by
    have hb : b ≠ x := fun e => h (by simp [e])
    have ih := prevIn_at (b :: r) l2 x (fun e => h (List.mem_cons_of_mem _ e)) h2
    simp only [List.cons_append, prevIn, if_neg hb] at ih ⊢
    rw [ih]; simp [List.getLastD]
where prevIn_notMem' : ∀ (l2 : List Int) (x : Int), x ∉ l2 → prevIn ([] ++ x :: l2) x = ([] : List Int).getLastD (-1)
  | [], x, _ => rfl
  | b :: r, x, h => by
    have hb : b ≠ x := fun e => h (by simp [e])
    simp only [List.nil_append, prevIn, if_neg hb]
    exact prevIn_notMem (b :: r) h
theorem getLastD_mem : ∀ (l : List Int), l ≠ [] → l.getLastD (-1) ∈ l
  | [a], _ => by simp [List.getLastD]
  | a :: b :: r, _ => by
    have h := getLastD_mem (b :: r) (by simp)
    have e : (a :: b :: r).getLastD (-1) = (b :: r).getLastD (-1) := by simp [List.getLastD]
    rw [e]
    exact List.mem_cons_of_mem _ h
/-- An element y is put in. -/
theorem prevIn_in : ∀ (l1 l2 : List Int) (y m : Int), m ≠ y → (∀ b, l2.head? = some b → m ≠ b) → prevIn (l1 ++ y :: l2) m = prevIn (l1 ++ l2) m
  | [], [], y, m, _, _ => rfl
  | [], b :: r, y, m, _, hb => by simp [prevIn, (hb b rfl).symm]
  | [a], [], y, m, h, _ => by simp [prevIn, h.symm]
  | [a], b :: r, y, m, h, hb => by simp [prevIn, h.symm, (hb b rfl).symm]
  | a :: a' :: r, l2, y, m, h, hb => by
    have ih := prevIn_in (a' :: r) l2 y m h hb
    simp only [List.cons_append, prevIn] at ih ⊢
    rw [ih]
theorem nextIn_in : ∀ (l1 l2 : List Int) (y m : Int), m ≠ y → 0 ≤ m → l1.Nodup → nextIn (l1 ++ y :: l2) m = if m = l1.getLastD (-1) then y else nextIn (l1 ++ l2) m
  | [], [], y, m, h, h0, _ => by
    have : m ≠ -1 := by omega
    simp [nextIn, this]
  | [], b :: r, y, m, h, h0, _ => by
    have : m ≠ -1 := by omega
    simp [nextIn, h.symm, this]
  | [a], [], y, m, h, h0, _ => by
    by_cases e : a = m
    · simp [nextIn, e]
    · have e2 : ¬ m = a := fun e' => e e'.symm
      simp [nextIn, e, e2]
  | [a], b :: r, y, m, h, h0, _ => by
    by_cases e : a = m
    · simp [nextIn, e]
    · have e2 : ¬ m = a := fun e' => e e'.symm
      simp [nextIn, e, e2, h.symm]
  | a :: a' :: r, l2, y, m, h, h0, hn => by
    have ih := nextIn_in (a' :: r) l2 y m h h0 (List.nodup_cons.1 hn).2
    simp only [List.cons_append, nextIn] at ih ⊢
    rw [ih]
    have hl : (a :: a' :: r).getLastD (-1) = (a' :: r).getLastD (-1) := by simp [List.getLastD]
    rw [hl]
    by_cases e : a = m
    · subst e
      have : a ≠ (a' :: r).getLastD (-1) := by
        intro e
        have hm : (a' :: r).getLastD (-1) ∈ a' :: r := getLastD_mem _ (by simp)
        exact (List.nodup_cons.1 hn).1 (e ▸ hm)
      rw [if_neg this, if_pos rfl, if_neg this]
    · rw [if_neg e, if_neg e]

/-- An element y ahead of another one, or (of 0) behind all. -/
def inL (l : List Int) (y before : Int) : List Int := (l.flatMap fun a => if a = before then [y, a] else [a]) ++ if before = 0 then [y] else []
def outL (l : List Int) (y : Int) : List Int := l.filter (· ≠ y)
theorem flatMap_notMem : ∀ (l : List Int) (y b : Int), b ∉ l → (l.flatMap fun a => if a = b then [y, a] else [a]) = l
  | [], _, _, _ => rfl
  | a :: r, y, b, h => by
    rw [List.flatMap_cons, if_neg (fun e => h (by simp [e])), flatMap_notMem r y b (fun e => h (List.mem_cons_of_mem _ e))]; rfl
theorem inL_zero {l : List Int} {y : Int} (h : (0 : Int) ∉ l) : inL l y 0 = l ++ [y] := by simp [inL, flatMap_notMem l y 0 h]
theorem inL_at {l1 l2 : List Int} {y b : Int} (h0 : b ≠ 0) (h1 : b ∉ l1) (h2 : b ∉ l2) : inL (l1 ++ b :: l2) y b = l1 ++ y :: b :: l2 := by
  simp [inL, h0, List.flatMap_append, flatMap_notMem l1 y b h1, flatMap_notMem l2 y b h2]
theorem outL_at {l1 l2 : List Int} {y : Int} (h1 : y ∉ l1) (h2 : y ∉ l2) : outL (l1 ++ y :: l2) y = l1 ++ l2 := by
  have f : ∀ l : List Int, y ∉ l → l.filter (fun a => decide (a ≠ y)) = l := fun l h => List.filter_eq_self.2 fun a ha => by
    have : a ≠ y := fun e => h (e ▸ ha)
    simp [this]
  unfold outL
  rw [List.filter_append, List.filter_cons, f l1 h1, f l2 h2]
  simp
theorem nodup_split {l1 l2 : List Int} {b : Int} (h : (l1 ++ b :: l2).Nodup) : b ∉ l1 ∧ b ∉ l2 ∧ l1.Nodup ∧ l2.Nodup ∧ (l1 ++ l2).Nodup := by
  rw [List.nodup_append] at h
  obtain ⟨h1, h2, h3⟩ := h
  rw [List.nodup_cons] at h2
  refine ⟨fun hb => h3 b hb b (by simp) rfl, h2.1, h1, h2.2, ?_⟩
  rw [List.nodup_append]
  exact ⟨h1, h2.2, fun a ha b' hb => h3 a ha b' (List.mem_cons_of_mem _ hb)⟩
theorem mem_inL {l : List Int} {y b m : Int} (hb : b = 0 ∧ (0 : Int) ∉ l ∨ b ≠ 0 ∧ b ∈ l) : m ∈ inL l y b ↔ m = y ∨ m ∈ l := by
  unfold inL
  rw [List.mem_append, List.mem_flatMap]
  rcases hb with ⟨rfl, h0⟩ | ⟨h0, hb⟩
  · constructor
    · rintro (⟨a, ha, hm⟩ | hm)
      · rw [if_neg (show ¬ a = 0 from fun e => h0 (e ▸ ha))] at hm
        exact .inr (by simpa using (List.mem_singleton.1 hm) ▸ ha)
      · exact .inl (by simpa using hm)
    · rintro (rfl | hm)
      · exact .inr (by simp)
      · exact .inl ⟨m, hm, by rw [if_neg (show ¬ m = 0 from fun e => h0 (e ▸ hm))]; simp⟩
  · constructor
    · rintro (⟨a, ha, hm⟩ | hm)
      · split at hm
        · rcases List.mem_cons.1 hm with e | e
          · exact .inl e
          · exact .inr (by simpa using (List.mem_singleton.1 e) ▸ ha)
        · exact .inr (by simpa using (List.mem_singleton.1 hm) ▸ ha)
      · simp [h0] at hm
    · rintro (rfl | hm)
      · exact .inl ⟨b, hb, by simp⟩
      · exact .inl ⟨m, hm, by split <;> simp⟩
theorem nodup_inL {l : List Int} {y b : Int} (hl : l.Nodup) (hy : y ∉ l) (hb : b = 0 ∧ (0 : Int) ∉ l ∨ b ≠ 0 ∧ b ∈ l) : (inL l y b).Nodup := by
  rcases hb with ⟨rfl, h0⟩ | ⟨h0, hb⟩
  · rw [inL_zero h0, List.nodup_append]
    refine ⟨hl, by simp, ?_⟩
    rintro a ha b hb rfl
    rw [List.mem_singleton] at hb
    exact hy (hb ▸ ha)
  · obtain ⟨l1, l2, rfl⟩ := List.append_of_mem hb
    obtain ⟨h1, h2, h3, h4, h5⟩ := nodup_split hl
    rw [inL_at h0 h1 h2]
    rw [List.nodup_append] at hl ⊢
    simp only [List.mem_append, List.mem_cons, not_or] at hy
    refine ⟨h3, List.nodup_cons.2 ⟨by simp only [List.mem_cons, not_or]; exact ⟨hy.2.1, hy.2.2⟩, hl.2.1⟩, ?_⟩
    intro a ha c hc
    rcases List.mem_cons.1 hc with e | hc
    · rintro rfl
      exact hy.1 (e ▸ ha)
    · exact hl.2.2 a ha c hc
theorem mem_outL {l : List Int} {y m : Int} : m ∈ outL l y ↔ m ∈ l ∧ m ≠ y := by simp [outL]
theorem nodup_outL {l : List Int} {y : Int} (hl : l.Nodup) : (outL l y).Nodup := hl.sublist List.filter_sublist

/-! ### the document -/
structure Nd where
  id : Int
  up : Int
  kids : List Int
  tag : ByteArray
  key : ByteArray
  text : ByteArray
  attrs : List At
structure Doc where
  nodes : List Nd
  next : Int
namespace Doc
def get (d : Doc) (x : Int) : Option Nd := d.nodes.find? fun n => n.id == x
def has (d : Doc) (x : Int) : Prop := ∃ n ∈ d.nodes, n.id = x
def upOf (d : Doc) (x : Int) : Int := ((d.get x).map (·.up)).getD (-1)
def kidsOf (d : Doc) (x : Int) : List Int := ((d.get x).map (·.kids)).getD []
def lk (d : Doc) (x : Int) : Lk := ⟨d.upOf x, (d.kidsOf x).headD (-1), (d.kidsOf x).getLastD (-1), prevIn (d.kidsOf (d.upOf x)) x, nextIn (d.kidsOf (d.upOf x)) x⟩
/-- A node's entry is turned. -/
def mod (d : Doc) (x : Int) (f : Nd → Nd) : Doc := { d with nodes := d.nodes.map fun n => if n.id = x then f n else n }
/-- What holds of every document that calls have made. -/
structure WF (d : Doc) : Prop where
  sorted : (d.nodes.map (·.id)).Pairwise (· < ·)
  holder : ∃ h r, d.nodes = h :: r ∧ h.id = 0 ∧ h.up = -1
  below : ∀ x, d.has x → x < d.next
  next1 : 1 ≤ d.next
  next2 : d.next ≤ 4294967296
  up : ∀ x, d.has x → d.upOf x = -1 ∨ d.has (d.upOf x)
  kid : ∀ u x, d.has u → (x ∈ d.kidsOf u ↔ d.has x ∧ d.upOf x = u)
  nodup : ∀ u, (d.kidsOf u).Nodup
  rank : ∃ rk : Int → Nat, ∀ x, d.has x → d.upOf x ≠ -1 → rk (d.upOf x) < rk x
  few : ∀ n ∈ d.nodes, n.attrs.length ≤ 64

theorem has_iff {d : Doc} {x : Int} : d.has x ↔ ∃ n, d.get x = some n := by
  constructor
  · rintro ⟨n, hn, rfl⟩
    cases h : d.get n.id with
    | some m => exact ⟨m, rfl⟩
    | none =>
      have := List.find?_eq_none.1 h n hn
      simp at this
  · rintro ⟨n, h⟩
    exact ⟨n, List.mem_of_find?_eq_some h, by simpa using List.find?_some h⟩
theorem get_id {d : Doc} {x : Int} {n : Nd} (h : d.get x = some n) : n.id = x := by simpa using List.find?_some h
theorem get_mem {d : Doc} {x : Int} {n : Nd} (h : d.get x = some n) : n ∈ d.nodes := List.mem_of_find?_eq_some h
theorem get_none {d : Doc} {x : Int} (h : ¬ d.has x) : d.get x = none := by
  cases e : d.get x with
  | none => rfl
  | some n => exact absurd (has_iff.2 ⟨n, e⟩) h
theorem upOf_none {d : Doc} {x : Int} (h : ¬ d.has x) : d.upOf x = -1 := by simp [upOf, get_none h]
theorem kidsOf_none {d : Doc} {x : Int} (h : ¬ d.has x) : d.kidsOf x = [] := by simp [kidsOf, get_none h]
/-- The list's own entry is the one that is found. -/
theorem get_of_mem {d : Doc} (h : (d.nodes.map (·.id)).Pairwise (· < ·)) {n : Nd} (hn : n ∈ d.nodes) : d.get n.id = some n := by
  obtain ⟨nodes, next⟩ := d
  simp only [get] at *
  induction nodes with
  | nil => simp at hn
  | cons a r ih =>
    rw [List.map_cons, List.pairwise_cons] at h
    rcases List.mem_cons.1 hn with rfl | hn
    · simp
    · have : a.id < n.id := h.1 n.id (List.mem_map.2 ⟨n, hn, rfl⟩)
      rw [List.find?_cons_of_neg (by simp; omega)]
      exact ih h.2 hn
theorem get_mod {d : Doc} {x : Int} {f : Nd → Nd} (hf : ∀ n, (f n).id = n.id) (m : Int) : (d.mod x f).get m = (d.get m).map fun n => if n.id = x then f n else n := by
  obtain ⟨nodes, next⟩ := d
  simp only [get, mod]
  induction nodes with
  | nil => rfl
  | cons a r ih =>
    have e : (if a.id = x then f a else a).id = a.id := by split <;> simp [hf]
    rw [List.map_cons, List.find?_cons, List.find?_cons, e]
    cases a.id == m with
    | true => rfl
    | false => exact ih
theorem has_mod {d : Doc} {x : Int} {f : Nd → Nd} (hf : ∀ n, (f n).id = n.id) (m : Int) : (d.mod x f).has m ↔ d.has m := by
  rw [has_iff, has_iff, get_mod hf]
  constructor
  · rintro ⟨n, h⟩
    obtain ⟨n', h', _⟩ := Option.map_eq_some_iff.1 h
    exact ⟨n', h'⟩
  · rintro ⟨n, h⟩
    exact ⟨_, by rw [h]; rfl⟩
theorem ids_mod {d : Doc} {x : Int} {f : Nd → Nd} (hf : ∀ n, (f n).id = n.id) : (d.mod x f).nodes.map (·.id) = d.nodes.map (·.id) := by
  simp only [mod, List.map_map]
  apply List.map_congr_left
  intro n _
  simp only [Function.comp_apply]
  split <;> simp [hf]
theorem upOf_mod {d : Doc} {x : Int} {f : Nd → Nd} (hf : ∀ n, (f n).id = n.id) (m : Int) : (d.mod x f).upOf m = if m = x then ((d.get m).map fun n => (f n).up).getD (-1) else d.upOf m := by
  unfold upOf
  rw [get_mod hf]
  cases h : d.get m with
  | none => simp
  | some n =>
    have := get_id h
    subst this
    split <;> simp [*]
theorem kidsOf_mod {d : Doc} {x : Int} {f : Nd → Nd} (hf : ∀ n, (f n).id = n.id) (m : Int) : (d.mod x f).kidsOf m = if m = x then ((d.get m).map fun n => (f n).kids).getD [] else d.kidsOf m := by
  unfold kidsOf
  rw [get_mod hf]
  cases h : d.get m with
  | none => simp
  | some n =>
    have := get_id h
    subst this
    split <;> simp [*]
end Doc
end Go.Proofs.YtacobpmmpdadpaaGreat
set_option linter.unusedVariables false
set_option linter.unusedSimpArgs false
namespace Go.Proofs.YtacobpmmpdadpaaGreat

theorem Lk.ext' {a b : Lk} (h1 : a.up = b.up) (h2 : a.first = b.first) (h3 : a.last = b.last) (h4 : a.prev = b.prev) (h5 : a.next = b.next) : a = b := by
  cases a; cases b; simp_all
theorem upd_up {L : Int → Lk} {n m : Int} {f : Lk → Lk} : (upd L n f m).up = if m = n then (f (L m)).up else (L m).up := by unfold upd; split <;> rfl
theorem upd_first {L : Int → Lk} {n m : Int} {f : Lk → Lk} : (upd L n f m).first = if m = n then (f (L m)).first else (L m).first := by unfold upd; split <;> rfl
theorem upd_last {L : Int → Lk} {n m : Int} {f : Lk → Lk} : (upd L n f m).last = if m = n then (f (L m)).last else (L m).last := by unfold upd; split <;> rfl
theorem upd_prev {L : Int → Lk} {n m : Int} {f : Lk → Lk} : (upd L n f m).prev = if m = n then (f (L m)).prev else (L m).prev := by unfold upd; split <;> rfl
theorem upd_next {L : Int → Lk} {n m : Int} {f : Lk → Lk} : (upd L n f m).next = if m = n then (f (L m)).next else (L m).next := by unfold upd; split <;> rfl
section
variable {L : Int → Lk} {x y b m : Int}
theorem placeL_up : (placeL L x y b m).up = if m = y then x else (L m).up := by
  unfold placeL
  generalize (if b = -1 then (L x).last else (L b).prev) = p at *
  by_cases h1 : b = -1 <;> by_cases h4 : p = -1 <;> simp only [h1, h4, if_true, if_false, upd_up, upd_first, upd_last, upd_prev, upd_next] <;> grind
theorem placeL_first : (placeL L x y b m).first = if m = x ∧ (if b = -1 then (L x).last else (L b).prev) = -1 then y else (L m).first := by
  unfold placeL
  generalize (if b = -1 then (L x).last else (L b).prev) = p at *
  by_cases h1 : b = -1 <;> by_cases h4 : p = -1 <;> simp only [h1, h4, if_true, if_false, upd_up, upd_first, upd_last, upd_prev, upd_next] <;> grind
theorem placeL_last : (placeL L x y b m).last = if m = x ∧ b = -1 then y else (L m).last := by
  unfold placeL
  generalize (if b = -1 then (L x).last else (L b).prev) = p at *
  by_cases h1 : b = -1 <;> by_cases h4 : p = -1 <;> simp only [h1, h4, if_true, if_false, upd_up, upd_first, upd_last, upd_prev, upd_next] <;> grind
theorem placeL_prev (hb : b ≠ y) : (placeL L x y b m).prev = if m = b ∧ b ≠ -1 then y else if m = y then (if b = -1 then (L x).last else (L b).prev) else (L m).prev := by
  unfold placeL
  generalize (if b = -1 then (L x).last else (L b).prev) = p at *
  by_cases h1 : b = -1 <;> by_cases h4 : p = -1 <;> simp only [h1, h4, if_true, if_false, upd_up, upd_first, upd_last, upd_prev, upd_next] <;> grind
theorem placeL_next (hp : (if b = -1 then (L x).last else (L b).prev) ≠ y) : (placeL L x y b m).next = if m = (if b = -1 then (L x).last else (L b).prev) ∧ (if b = -1 then (L x).last else (L b).prev) ≠ -1 then y else if m = y then b else (L m).next := by
  unfold placeL
  generalize (if b = -1 then (L x).last else (L b).prev) = p at *
  by_cases h1 : b = -1 <;> by_cases h4 : p = -1 <;> simp only [h1, h4, if_true, if_false, upd_up, upd_first, upd_last, upd_prev, upd_next] <;> grind
end
section
variable {s : List Int} {y b m : Int} (hb : b = 0 ∧ (0 : Int) ∉ s ∨ b ≠ 0 ∧ b ∈ s) (hs : s.Nodup)
include hb hs
theorem getLastD_inL : (inL s y b).getLastD (-1) = if b = 0 then y else s.getLastD (-1) := by
  rcases hb with ⟨rfl, h0⟩ | ⟨h0, hb⟩
  · rw [inL_zero h0]; simp
  · obtain ⟨l1, l2, rfl⟩ := List.append_of_mem hb
    obtain ⟨h1, h2, _⟩ := nodup_split hs
    rw [inL_at h0 h1 h2, if_neg h0]
    simp [List.getLast?_append, List.getLast?_cons]
theorem headD_inL (hpos : ∀ a, a ∈ s → 0 ≤ a) : (inL s y b).headD (-1) = if (if b = 0 then s.getLastD (-1) else prevIn s b) = -1 then y else s.headD (-1) := by
  rcases hb with ⟨rfl, h0⟩ | ⟨h0, hb⟩
  · rw [inL_zero h0, if_pos rfl]
    cases s with
    | nil => rfl
    | cons a r =>
      have := hpos _ (getLastD_mem (a :: r) (by simp))
      rw [if_neg (by omega)]; rfl
  · obtain ⟨l1, l2, rfl⟩ := List.append_of_mem hb
    obtain ⟨h1, h2, _⟩ := nodup_split hs
    rw [inL_at h0 h1 h2, if_neg h0, prevIn_at l1 l2 b h1 h2]
    cases l1 with
    | nil => rfl
    | cons a r =>
      have := hpos _ (List.mem_append_left _ (getLastD_mem (a :: r) (by simp)))
      rw [if_neg (by omega)]; rfl
variable (hy : y ∉ s)
include hy
theorem prevIn_inL : prevIn (inL s y b) m = if m = y then (if b = 0 then s.getLastD (-1) else prevIn s b) else if b ≠ 0 ∧ m = b then y else prevIn s m := by
  rcases hb with ⟨rfl, h0⟩ | ⟨h0, hb⟩
  · rw [inL_zero h0, if_pos rfl]
    by_cases e : m = y
    · subst e
      rw [if_pos rfl, prevIn_at s [] m hy (by simp)]
    · rw [if_neg e, prevIn_in s [] y m e (by simp)]
      simp
  · obtain ⟨l1, l2, rfl⟩ := List.append_of_mem hb
    obtain ⟨h1, h2, _⟩ := nodup_split hs
    simp only [List.mem_append, List.mem_cons, not_or] at hy
    rw [inL_at h0 h1 h2, if_neg h0, prevIn_at l1 l2 b h1 h2]
    by_cases e : m = y
    · subst e
      rw [if_pos rfl, prevIn_at l1 (b :: l2) m hy.1 (by simp only [List.mem_cons, not_or]; exact hy.2)]
    · rw [if_neg e]
      by_cases e' : m = b
      · subst e'
        rw [if_pos ⟨h0, rfl⟩]
        have := prevIn_at (l1 ++ [y]) l2 m (by simp only [List.mem_append, List.mem_singleton, not_or]; exact ⟨h1, e⟩) h2
        rw [List.append_assoc] at this
        simpa using this
      · rw [if_neg (fun h => e' h.2), prevIn_in l1 (b :: l2) y m e (by rintro c ⟨⟩; exact e')]
theorem nextIn_inL (hm : 0 ≤ m) : nextIn (inL s y b) m = if m = y then (if b = 0 then -1 else b) else if m = (if b = 0 then s.getLastD (-1) else prevIn s b) then y else nextIn s m := by
  rcases hb with ⟨rfl, h0⟩ | ⟨h0, hb⟩
  · rw [inL_zero h0, if_pos rfl, if_pos rfl]
    by_cases e : m = y
    · subst e
      rw [if_pos rfl, nextIn_at s [] m hy]; rfl
    · rw [if_neg e, nextIn_in s [] y m e hm hs]
      simp
  · obtain ⟨l1, l2, rfl⟩ := List.append_of_mem hb
    obtain ⟨h1, h2, h3, _⟩ := nodup_split hs
    simp only [List.mem_append, List.mem_cons, not_or] at hy
    rw [inL_at h0 h1 h2, if_neg h0, if_neg h0, prevIn_at l1 l2 b h1 h2]
    by_cases e : m = y
    · subst e
      rw [if_pos rfl, nextIn_at l1 (b :: l2) m hy.1]; rfl
    · rw [if_neg e, nextIn_in l1 (b :: l2) y m e hm h3]
end

namespace Doc
variable {d : Doc}

/-! ### climbing -/
/-- x is y, or below it. -/
def Anc (d : Doc) (x y : Int) : Prop := ∃ k, Nat.rec (motive := fun _ => Int) x (fun _ m => d.upOf m) k = y
open Classical in
noncomputable def under (d : Doc) (x y : Int) : Bool := decide (d.Anc x y)
def climbU (d : Doc) (x : Int) : Nat → Int := fun k => Nat.rec (motive := fun _ => Int) x (fun _ m => d.upOf m) k
theorem climbU_succ (x : Int) (k : Nat) : d.climbU x (k + 1) = d.upOf (d.climbU x k) := rfl
theorem climbU_up (x : Int) (k : Nat) : d.climbU (d.upOf x) k = d.climbU x (k + 1) := by
  induction k with
  | zero => rfl
  | succ k ih => rw [climbU_succ, ih]; rfl
theorem Anc.refl (x : Int) : d.Anc x x := ⟨0, rfl⟩
theorem Anc.step {x y : Int} (h : d.Anc (d.upOf x) y) : d.Anc x y := by
  obtain ⟨k, h⟩ := h
  exact ⟨k + 1, (climbU_up x k).symm.trans h⟩
theorem anc_cases {x y : Int} (h : d.Anc x y) : x = y ∨ d.Anc (d.upOf x) y := by
  obtain ⟨k, h⟩ := h
  cases k with
  | zero => exact .inl h
  | succ k => exact .inr ⟨k, (climbU_up x k).trans h⟩
theorem Anc.up {x y : Int} (h : d.Anc x y) : d.Anc x (d.upOf y) := by
  obtain ⟨k, h⟩ := h
  exact ⟨k + 1, by show d.upOf _ = _; rw [h]⟩
theorem Anc.trans {x y z : Int} (h : d.Anc x y) (k : d.Anc y z) : d.Anc x z := by
  obtain ⟨j, hj⟩ := k
  have : ∀ j, d.Anc x (d.climbU y j) := fun j => by
    induction j with
    | zero => exact h
    | succ j ih => exact ih.up
  exact hj ▸ this j
theorem not_has_neg (hw : d.WF) {x : Int} (h : x < 0) : ¬ d.has x := by
  rintro ⟨n, hn, rfl⟩
  obtain ⟨a, r, e, h0, _⟩ := hw.holder
  have hs := hw.sorted
  rw [e] at hn hs
  rw [List.map_cons, List.pairwise_cons] at hs
  rcases List.mem_cons.1 hn with rfl | hn
  · omega
  · have := hs.1 n.id (List.mem_map.2 ⟨n, hn, rfl⟩)
    omega
theorem WF.nn (hw : d.WF) {x : Int} (h : d.has x) : 0 ≤ x := by
  rcases Int.lt_or_le x 0 with e | e
  · exact absurd h (not_has_neg hw e)
  · exact e
theorem WF.has0 (hw : d.WF) : d.has 0 := by
  obtain ⟨a, r, e, h0, _⟩ := hw.holder
  exact ⟨a, by rw [e]; simp, h0⟩
theorem WF.up0 (hw : d.WF) : d.upOf 0 = -1 := by
  obtain ⟨a, r, e, h0, h1⟩ := hw.holder
  simp [upOf, get, e, h0, h1]
theorem anc_neg (hw : d.WF) {y : Int} (h : d.Anc (-1) y) : y = -1 := by
  obtain ⟨k, h⟩ := h
  have : ∀ k, d.climbU (-1) k = -1 := fun k => by
    induction k with
    | zero => rfl
    | succ k ih => rw [climbU_succ, ih]; exact upOf_none (not_has_neg hw (by decide))
  exact h ▸ this k
/-- The climb of the program ends, and tells what is so. -/
theorem climb_ends (hw : d.WF) {rk : Int → Nat} (hr : ∀ x, d.has x → d.upOf x ≠ -1 → rk (d.upOf x) < rk x) {y : Int} (hy : 0 ≤ y) : ∀ (k : Nat) (x : Int), (x = -1 ∨ d.has x) → (x ≠ -1 → rk x + 1 < k) → 0 < k → climbLen k d.lk y x = some (d.under x y)
  | 0, _, _, _, h => absurd h (by omega)
  | k + 1, x, hx, hk, _ => by
    unfold climbLen
    rcases hx with rfl | hx
    · rw [if_pos (by decide)]
      have : ¬ d.Anc (-1) y := fun h => by have := anc_neg hw h; omega
      simp [under, this]
    · have h0 := hw.nn hx
      rw [if_neg (by omega)]
      by_cases e : x = y
      · subst e
        rw [if_pos rfl]
        simp [under, Anc.refl]
      · rw [if_neg e]
        have hk' := hk (by omega)
        rw [show (d.lk x).up = d.upOf x from rfl, climb_ends hw hr hy k (d.upOf x) (hw.up x hx) (fun h => by have := hr x hx h; omega) (by omega)]
        have : d.Anc (d.upOf x) y ↔ d.Anc x y := ⟨Anc.step, fun h => (anc_cases h).resolve_left e⟩
        simp [under, this]
theorem climb_some (hw : d.WF) {x y : Int} (hx : d.has x) (hy : 0 ≤ y) : ∃ k, climbLen k d.lk y x = some (d.under x y) := by
  obtain ⟨rk, hr⟩ := hw.rank
  exact ⟨rk x + 2, climb_ends hw hr hy _ x (.inr hx) (fun _ => by omega) (by omega)⟩
theorem climb_mono : ∀ (k j : Nat) (L : Int → Lk) (y x : Int) (r : Bool), climbLen k L y x = some r → k ≤ j → climbLen j L y x = some r
  | 0, _, _, _, _, _, h, _ => by simp [climbLen] at h
  | k + 1, 0, _, _, _, _, _, h => by omega
  | k + 1, j + 1, L, y, x, r, h, hj => by
    unfold climbLen at h ⊢
    by_cases h1 : x < 0
    · rw [if_pos h1] at h ⊢; exact h
    · rw [if_neg h1] at h ⊢
      by_cases h2 : x = y
      · rw [if_pos h2] at h ⊢; exact h
      · rw [if_neg h2] at h ⊢
        exact climb_mono k j L y _ r h (by omega)
theorem under_eq (hw : d.WF) {x y : Int} (hx : d.has x) (hy : 0 ≤ y) {k : Nat} {r : Bool} (h : climbLen k d.lk y x = some r) : d.under x y = r := by
  obtain ⟨j, hj⟩ := climb_some hw hx hy
  have h1 := climb_mono k (k + j) _ _ _ _ h (by omega)
  have h2 := climb_mono j (k + j) _ _ _ _ hj (by omega)
  exact Option.some.inj (h2.symm.trans h1)
theorem under_iff {x y : Int} : d.under x y = true ↔ d.Anc x y := by simp [under]

/-! ### a loose node is put below another one -/
def attach (d : Doc) (x y before : Int) : Doc := (d.mod x fun n => { n with kids := inL n.kids y before }).mod y fun n => { n with up := x }
theorem attach_has {x y b : Int} (m : Int) : (d.attach x y b).has m ↔ d.has m := by
  unfold attach
  rw [has_mod (by intros; rfl), has_mod (by intros; rfl)]
theorem attach_ids {x y b : Int} : (d.attach x y b).nodes.map (·.id) = d.nodes.map (·.id) := by
  unfold attach
  rw [ids_mod (by intros; rfl), ids_mod (by intros; rfl)]
theorem upOf_ite {x y m : Int} : ((d.get m).map fun n => x).getD (-1) = if (d.get m).isSome then x else -1 := by cases d.get m <;> rfl
theorem attach_up {x y b : Int} (hy : d.has y) (m : Int) : (d.attach x y b).upOf m = if m = y then x else d.upOf m := by
  unfold attach
  rw [upOf_mod (by intros; rfl), upOf_mod (by intros; rfl)]
  by_cases e : m = y
  · subst e
    rw [if_pos rfl, if_pos rfl, get_mod (by intros; rfl)]
    obtain ⟨n, hn⟩ := has_iff.1 hy
    simp [hn]
  · rw [if_neg e, if_neg e]
    split
    · next e => subst e; rfl
    · rfl
theorem attach_kids {x y b : Int} (hx : d.has x) (m : Int) : (d.attach x y b).kidsOf m = if m = x then inL (d.kidsOf x) y b else d.kidsOf m := by
  unfold attach
  rw [kidsOf_mod (by intros; rfl), kidsOf_mod (by intros; rfl), get_mod (by intros; rfl)]
  obtain ⟨n, hn⟩ := has_iff.1 hx
  by_cases e : m = x
  · subst e
    have hk : d.kidsOf m = n.kids := by simp [kidsOf, hn]
    have := get_id hn
    by_cases e' : m = y
    · subst e'; simp [hn, hk, this]
    · simp [e', hn, hk]
  · by_cases e' : m = y
    · subst e'
      rw [if_pos rfl, if_neg e]
      cases h : d.get m with
      | none => simp [kidsOf, h]
      | some n' =>
        have := get_id h
        simp [kidsOf, h, this, e]
    · simp [e, e']
/-- b: the ID in before's place, below 0: none. -/
theorem attach_lk (hw : d.WF) {x y before : Int} (hx : d.has x) (hy : d.has y) (hu : d.upOf y = -1) (hy0 : y ≠ 0) (hb : before = 0 ∨ before ≠ 0 ∧ d.has before ∧ d.upOf before = x) (m : Int) (hm : d.has m) :
    (d.attach x y before).lk m = placeL d.lk x y (if before = 0 then -1 else before) m := by
  have hyk : y ∉ d.kidsOf x := fun h => by
    have := ((hw.kid x y hx).1 h).2
    have := hw.nn hx
    omega
  have h0k : (0 : Int) ∉ d.kidsOf x := fun h => by
    have := ((hw.kid x 0 hx).1 h).2
    have := hw.up0
    have := hw.nn hx
    omega
  have hnd := hw.nodup x
  have hx0 := hw.nn hx
  have hm0 := hw.nn hm
  have hyn := hw.nn hy
  have hb' : before = 0 ∧ (0 : Int) ∉ d.kidsOf x ∨ before ≠ 0 ∧ before ∈ d.kidsOf x := hb.imp (fun h => ⟨h, h0k⟩) (fun h => ⟨h.1, (hw.kid x _ hx).2 h.2⟩)
  have hpos : ∀ a, a ∈ d.kidsOf x → 0 ≤ a := fun a ha => hw.nn ((hw.kid x a hx).1 ha).1
  have hbn : before ≠ y := by
    rintro rfl
    rcases hb with h | h
    · exact hy0 h
    · have := h.2.2; omega
  have hbp : before ≠ 0 → 0 ≤ before := fun h => (hb.resolve_left h).2.1 |> hw.nn
  obtain ⟨p, hp⟩ : ∃ p, p = if before = 0 then (d.kidsOf x).getLastD (-1) else prevIn (d.kidsOf x) before := ⟨_, rfl⟩
  have hpm : p = -1 ∨ p ∈ d.kidsOf x := by
    rw [hp]
    split
    · rcases Classical.em (d.kidsOf x = []) with e | e
      · left; rw [e]; rfl
      · exact .inr (getLastD_mem _ e)
    · exact prevIn_mem _ _
  have hpy : p ≠ y := by
    rintro rfl
    rcases hpm with h | h
    · omega
    · exact hyk h
  have hpl : p = if (if before = 0 then (-1 : Int) else before) = -1 then (d.lk x).last else (d.lk (if before = 0 then -1 else before)).prev := by
    rw [hp]
    by_cases e : before = 0
    · simp [e, lk]
    · have := hbp e
      rw [if_neg e, if_neg e, if_neg (by omega)]
      simp [lk, (hb.resolve_left e).2.2]
  have hu' : (d.attach x y before).upOf m = if m = y then x else d.upOf m := attach_up hy m
  refine Lk.ext' ?_ ?_ ?_ ?_ ?_
  · rw [placeL_up]
    exact hu'
  · rw [placeL_first, ← hpl]
    show ((d.attach x y before).kidsOf m).headD (-1) = _
    rw [attach_kids hx]
    by_cases e : m = x
    · subst e
      rw [if_pos rfl, headD_inL hb' hnd hpos, ← hp]
      simp [lk]
    · simp [e, lk]
  · rw [placeL_last]
    show ((d.attach x y before).kidsOf m).getLastD (-1) = _
    rw [attach_kids hx]
    by_cases e : m = x
    · subst e
      rw [if_pos rfl, getLastD_inL hb' hnd]
      by_cases e' : before = 0
      · simp [e']
      · have := hbp e'
        have e3 : before ≠ -1 := by omega
        simp [e', lk, e3]
    · simp [e, lk]
  · rw [placeL_prev (by split <;> omega), ← hpl]
    show prevIn ((d.attach x y before).kidsOf ((d.attach x y before).upOf m)) m = _
    rw [hu', attach_kids hx]
    by_cases e : m = y
    · subst e
      have e3 : ¬ m = before := fun e => hbn e.symm
      rw [if_pos rfl, if_pos rfl, prevIn_inL hb' hnd hyk, ← hp, if_pos rfl]
      have : ¬ m = (if before = 0 then (-1 : Int) else before) := by split <;> omega
      simp [this]
    · rw [if_neg e]
      by_cases e' : d.upOf m = x
      · rw [if_pos e', prevIn_inL hb' hnd hyk, if_neg e]
        by_cases e3 : before = 0
        · have : ¬ m = -1 := by omega
          simp [e3, this, e, lk, e']
        · have := hbp e3
          have e4 : before ≠ -1 := by omega
          simp [e3, e4, e, lk, e']
      · rw [if_neg e']
        have : ¬ (m = (if before = 0 then (-1 : Int) else before) ∧ (if before = 0 then (-1 : Int) else before) ≠ -1) := by
          rintro ⟨h1, h2⟩
          by_cases e3 : before = 0
          · simp [e3] at h2
          · rw [if_neg e3] at h1
            exact e' (h1 ▸ (hb.resolve_left e3).2.2)
        rw [if_neg this, if_neg e]
        rfl
  · rw [placeL_next (by rw [← hpl]; exact hpy), ← hpl]
    show nextIn ((d.attach x y before).kidsOf ((d.attach x y before).upOf m)) m = _
    rw [hu', attach_kids hx]
    by_cases e : m = y
    · subst e
      rw [if_pos rfl, if_pos rfl, nextIn_inL hb' hnd hyk hm0, if_pos rfl]
      have : ¬ m = p := fun e => hpy e.symm
      simp [this]
    · rw [if_neg e]
      by_cases e' : d.upOf m = x
      · rw [if_pos e', nextIn_inL hb' hnd hyk hm0, if_neg e, ← hp]
        by_cases e3 : m = p
        · have : p ≠ -1 := by omega
          simp [e3, this]
        · simp [e3, e, lk, e']
      · rw [if_neg e']
        have : ¬ (m = p ∧ p ≠ -1) := by
          rintro ⟨rfl, h2⟩
          exact e' ((hw.kid x m hx).1 (hpm.resolve_left h2)).2
        rw [if_neg this, if_neg e]
        rfl
end Doc
end Go.Proofs.YtacobpmmpdadpaaGreat
set_option linter.unusedVariables false
set_option linter.unusedSimpArgs false
namespace Go.Proofs.YtacobpmmpdadpaaGreat
section
variable {L : Int → Lk} {x m : Int}
theorem dropL_up : (dropL L x m).up = if m = x then -1 else (L m).up := by
  unfold dropL
  generalize (L x).prev = p at *; generalize (L x).next = n at *; generalize (L x).up = u at *
  by_cases h1 : n = -1 <;> by_cases h4 : p = -1 <;> simp only [h1, h4, if_true, if_false, upd_up, upd_first, upd_last, upd_prev, upd_next] <;> grind
theorem dropL_first : (dropL L x m).first = if (L x).prev = -1 ∧ m = (L x).up then (L x).next else (L m).first := by
  unfold dropL
  generalize (L x).prev = p at *; generalize (L x).next = n at *; generalize (L x).up = u at *
  by_cases h1 : n = -1 <;> by_cases h4 : p = -1 <;> simp only [h1, h4, if_true, if_false, upd_up, upd_first, upd_last, upd_prev, upd_next] <;> grind
theorem dropL_last : (dropL L x m).last = if (L x).next = -1 ∧ m = (L x).up then (L x).prev else (L m).last := by
  unfold dropL
  generalize (L x).prev = p at *; generalize (L x).next = n at *; generalize (L x).up = u at *
  by_cases h1 : n = -1 <;> by_cases h4 : p = -1 <;> simp only [h1, h4, if_true, if_false, upd_up, upd_first, upd_last, upd_prev, upd_next] <;> grind
theorem dropL_prev : (dropL L x m).prev = if m = x then -1 else if (L x).next ≠ -1 ∧ m = (L x).next then (L x).prev else (L m).prev := by
  unfold dropL
  generalize (L x).prev = p at *; generalize (L x).next = n at *; generalize (L x).up = u at *
  by_cases h1 : n = -1 <;> by_cases h4 : p = -1 <;> simp only [h1, h4, if_true, if_false, upd_up, upd_first, upd_last, upd_prev, upd_next] <;> grind
theorem dropL_next : (dropL L x m).next = if m = x then -1 else if (L x).prev ≠ -1 ∧ m = (L x).prev then (L x).next else (L m).next := by
  unfold dropL
  generalize (L x).prev = p at *; generalize (L x).next = n at *; generalize (L x).up = u at *
  by_cases h1 : n = -1 <;> by_cases h4 : p = -1 <;> simp only [h1, h4, if_true, if_false, upd_up, upd_first, upd_last, upd_prev, upd_next] <;> grind
end
section
variable {s : List Int} {x m : Int} (hx : x ∈ s) (hs : s.Nodup) (hpos : ∀ a, a ∈ s → 0 ≤ a)
include hx hs hpos
theorem headD_outL : (outL s x).headD (-1) = if prevIn s x = -1 then nextIn s x else s.headD (-1) := by
  obtain ⟨l1, l2, rfl⟩ := List.append_of_mem hx
  obtain ⟨h1, h2, _⟩ := nodup_split hs
  rw [outL_at h1 h2, prevIn_at l1 l2 x h1 h2, nextIn_at l1 l2 x h1]
  cases l1 with
  | nil => rfl
  | cons a r =>
    have := hpos _ (List.mem_append_left _ (getLastD_mem (a :: r) (by simp)))
    rw [if_neg (by omega)]; rfl
theorem getLastD_outL : (outL s x).getLastD (-1) = if nextIn s x = -1 then prevIn s x else s.getLastD (-1) := by
  obtain ⟨l1, l2, rfl⟩ := List.append_of_mem hx
  obtain ⟨h1, h2, _⟩ := nodup_split hs
  rw [outL_at h1 h2, prevIn_at l1 l2 x h1 h2, nextIn_at l1 l2 x h1]
  cases l2 with
  | nil => simp
  | cons a r =>
    have := hpos a (by simp)
    rw [List.headD_cons, if_neg (by omega)]
    simp [List.getLast?_append, List.getLast?_cons]
theorem prevIn_outL (hm : m ≠ x) : prevIn (outL s x) m = if nextIn s x ≠ -1 ∧ m = nextIn s x then prevIn s x else prevIn s m := by
  obtain ⟨l1, l2, rfl⟩ := List.append_of_mem hx
  obtain ⟨h1, h2, _, _, h5⟩ := nodup_split hs
  rw [outL_at h1 h2, prevIn_at l1 l2 x h1 h2, nextIn_at l1 l2 x h1]
  cases l2 with
  | nil => rw [if_neg (by simp), prevIn_in l1 [] x m hm (by simp)]
  | cons a r =>
    have := hpos a (by simp)
    rw [List.headD_cons]
    by_cases e : m = a
    · subst e
      obtain ⟨h6, h7, _⟩ := nodup_split h5
      rw [if_pos ⟨by omega, rfl⟩, prevIn_at l1 r m h6 h7]
    · rw [if_neg (fun h => e h.2), prevIn_in l1 (a :: r) x m hm (by rintro c ⟨⟩; exact e)]
theorem nextIn_outL (hm : m ≠ x) (h0 : 0 ≤ m) : nextIn (outL s x) m = if prevIn s x ≠ -1 ∧ m = prevIn s x then nextIn s x else nextIn s m := by
  obtain ⟨l1, l2, rfl⟩ := List.append_of_mem hx
  obtain ⟨h1, h2, h3, _, h5⟩ := nodup_split hs
  rw [outL_at h1 h2, prevIn_at l1 l2 x h1 h2, nextIn_at l1 l2 x h1, nextIn_in l1 l2 x m hm h0 h3]
  by_cases e : m = l1.getLastD (-1)
  · rw [if_pos ⟨by omega, e⟩]
    have hne : l1 ≠ [] := by
      rintro rfl
      simp at e; omega
    have hml : m ∈ l1 := e ▸ getLastD_mem _ hne
    have e2 : l1 = l1.dropLast ++ [m] := by
      have := (List.dropLast_concat_getLast hne).symm
      rw [List.getLastD_eq_getLast?, List.getLast?_eq_some_getLast hne] at e
      rw [show m = l1.getLast hne from e]; exact this
    have hd : m ∉ l1.dropLast := by
      rw [e2] at h3
      exact (nodup_split (l2 := []) h3).1
    rw [e2, List.append_assoc]
    exact nextIn_at _ l2 m hd
  · rw [if_neg (fun h => e h.2), if_neg e]
end

namespace Doc
variable {d : Doc}
theorem mod_nodes {x : Int} {f : Nd → Nd} {n : Nd} (h : n ∈ (d.mod x f).nodes) : ∃ m ∈ d.nodes, n = if m.id = x then f m else m := by
  obtain ⟨m, hm, e⟩ := List.mem_map.1 h
  exact ⟨m, hm, e.symm⟩
theorem mod_holder {x : Int} {f : Nd → Nd} (h : ∃ a r, d.nodes = a :: r ∧ a.id = 0 ∧ a.up = -1) (hf : ∀ n, (f n).id = n.id) (h0 : ∀ n, x = 0 → (f n).up = n.up) : ∃ a r, (d.mod x f).nodes = a :: r ∧ a.id = 0 ∧ a.up = -1 := by
  obtain ⟨a, r, e, h1, h2⟩ := h
  refine ⟨if a.id = x then f a else a, r.map fun n => if n.id = x then f n else n, by simp [mod, e], ?_, ?_⟩
  · split <;> simp [hf, h1]
  · split
    · rw [h0 a (by omega), h2]
    · exact h2
theorem WF.attach (hw : d.WF) {x y before : Int} (hx : d.has x) (hy : d.has y) (hu : d.upOf y = -1) (hy0 : y ≠ 0) (ha : ¬ d.Anc x y) (hb : before = 0 ∨ before ≠ 0 ∧ d.has before ∧ d.upOf before = x) : (d.attach x y before).WF := by
  have hyk : y ∉ d.kidsOf x := fun h => by
    have := ((hw.kid x y hx).1 h).2
    have := hw.nn hx
    omega
  have h0k : (0 : Int) ∉ d.kidsOf x := fun h => by
    have := ((hw.kid x 0 hx).1 h).2
    have := hw.up0
    have := hw.nn hx
    omega
  have hb' : before = 0 ∧ (0 : Int) ∉ d.kidsOf x ∨ before ≠ 0 ∧ before ∈ d.kidsOf x := hb.imp (fun h => ⟨h, h0k⟩) (fun h => ⟨h.1, (hw.kid x _ hx).2 h.2⟩)
  have hxy : x ≠ y := fun e => ha (e ▸ Anc.refl x)
  refine ⟨by rw [attach_ids]; exact hw.sorted, ?_, fun m hm => hw.below m ((attach_has m).1 hm), hw.next1, hw.next2, fun m hm => ?_, fun u m hu' => ?_, fun u => ?_, ?_, fun n hn => ?_⟩
  · exact mod_holder (mod_holder hw.holder (by intros; rfl) (by intros; rfl)) (by intros; rfl) (fun n e => absurd e hy0)
  · rw [attach_up hy, attach_has]
    split
    · exact .inr hx
    · exact hw.up m ((attach_has m).1 hm)
  · rw [attach_up hy, attach_kids hx, attach_has]
    have hu1 := (attach_has u).1 hu'
    by_cases e : u = x
    · subst e
      rw [if_pos rfl, mem_inL hb', hw.kid u m hx]
      by_cases e' : m = y
      · simp [e', hy]
      · simp [e']
    · rw [if_neg e, hw.kid u m hu1]
      by_cases e' : m = y
      · subst e'
        have := hw.nn hu1
        have e1 : ¬ (-1 : Int) = u := by omega
        have e2 : ¬ x = u := fun h => e h.symm
        simp [hu, e1, e2]
      · simp [e']
  · rw [attach_kids hx]
    split
    · exact nodup_inL (hw.nodup x) hyk hb'
    · exact hw.nodup u
  · obtain ⟨rk, hr⟩ := hw.rank
    classical
    refine ⟨fun m => if d.Anc m y then rk m + rk x + 1 else rk m, fun m hm hne => ?_⟩
    rw [attach_up hy] at hne ⊢
    have hm' := (attach_has m).1 hm
    simp only []
    by_cases e : m = y
    · subst e
      rw [if_pos rfl, if_neg ha, if_pos (Anc.refl m)]; omega
    · rw [if_neg e] at hne ⊢
      have h1 := hr m hm' hne
      by_cases hA : d.Anc m y
      · have := (anc_cases hA).resolve_left e
        rw [if_pos hA, if_pos this]; omega
      · rw [if_neg hA, if_neg (fun h => hA (Anc.step h))]; exact h1
  · obtain ⟨m, hm, rfl⟩ := mod_nodes hn
    obtain ⟨m', hm', rfl⟩ := mod_nodes hm
    have := hw.few m' hm'
    split <;> split <;> exact this

/-! ### a node is taken out -/
def detach (d : Doc) (x : Int) : Doc := (d.mod (d.upOf x) fun n => { n with kids := outL n.kids x }).mod x fun n => { n with up := -1 }
theorem detach_has {x : Int} (m : Int) : (d.detach x).has m ↔ d.has m := by
  unfold detach
  rw [has_mod (by intros; rfl), has_mod (by intros; rfl)]
theorem detach_ids {x : Int} : (d.detach x).nodes.map (·.id) = d.nodes.map (·.id) := by
  unfold detach
  rw [ids_mod (by intros; rfl), ids_mod (by intros; rfl)]
theorem detach_up {x : Int} (m : Int) : (d.detach x).upOf m = if m = x then -1 else d.upOf m := by
  unfold detach
  rw [upOf_mod (by intros; rfl), upOf_mod (by intros; rfl)]
  by_cases e : m = x
  · subst e
    rw [if_pos rfl, if_pos rfl, get_mod (by intros; rfl)]
    cases d.get m <;> simp
  · rw [if_neg e, if_neg e]
    split
    · unfold upOf; cases d.get m <;> rfl
    · rfl
theorem detach_kids {x : Int} (m : Int) : (d.detach x).kidsOf m = if m = d.upOf x then outL (d.kidsOf m) x else d.kidsOf m := by
  unfold detach
  rw [kidsOf_mod (by intros; rfl), kidsOf_mod (by intros; rfl), get_mod (by intros; rfl)]
  unfold kidsOf
  cases h : d.get m with
  | none => simp [outL]
  | some n =>
    have := get_id h
    by_cases e : m = d.upOf x <;> by_cases e' : m = x <;> simp [this, e, e'] <;> simp_all
theorem detach_lk (hw : d.WF) {x : Int} (hx : d.has x) (hu : d.upOf x ≠ -1) (m : Int) (hm : d.has m) : (d.detach x).lk m = dropL d.lk x m := by
  have hux := (hw.up x hx).resolve_left hu
  have hxk : x ∈ d.kidsOf (d.upOf x) := (hw.kid _ x hux).2 ⟨hx, rfl⟩
  have hnd := hw.nodup (d.upOf x)
  have hpos : ∀ a, a ∈ d.kidsOf (d.upOf x) → 0 ≤ a := fun a ha => hw.nn ((hw.kid _ a hux).1 ha).1
  have hm0 := hw.nn hm
  have hkn : d.kidsOf (-1) = [] := kidsOf_none (not_has_neg hw (by decide))
  refine Lk.ext' ?_ ?_ ?_ ?_ ?_
  · rw [dropL_up]; exact detach_up m
  · rw [dropL_first]
    show ((d.detach x).kidsOf m).headD (-1) = _
    rw [detach_kids]
    by_cases e : m = d.upOf x
    · rw [if_pos e, e, headD_outL hxk hnd hpos]
      simp [lk]
    · simp [e, lk]
  · rw [dropL_last]
    show ((d.detach x).kidsOf m).getLastD (-1) = _
    rw [detach_kids]
    by_cases e : m = d.upOf x
    · rw [if_pos e, e, getLastD_outL hxk hnd hpos]
      simp [lk]
    · simp [e, lk]
  · rw [dropL_prev]
    show prevIn ((d.detach x).kidsOf ((d.detach x).upOf m)) m = _
    rw [detach_up, detach_kids]
    by_cases e : m = x
    · subst e
      rw [if_pos rfl, if_pos rfl, hkn, if_neg (fun h => hu h.symm)]; rfl
    · rw [if_neg e, if_neg e]
      by_cases e' : d.upOf m = d.upOf x
      · rw [if_pos e', e', prevIn_outL hxk hnd hpos e]
        simp [lk, e']
      · rw [if_neg e']
        have : ¬ ((d.lk x).next ≠ -1 ∧ m = (d.lk x).next) := by
          rintro ⟨h1, h2⟩
          have := (nextIn_mem (d.kidsOf (d.upOf x)) x).resolve_left h1
          exact e' (((hw.kid _ m hux).1 (h2 ▸ this)).2)
        rw [if_neg this]; rfl
  · rw [dropL_next]
    show nextIn ((d.detach x).kidsOf ((d.detach x).upOf m)) m = _
    rw [detach_up, detach_kids]
    by_cases e : m = x
    · subst e
      rw [if_pos rfl, if_pos rfl, hkn, if_neg (fun h => hu h.symm)]; rfl
    · rw [if_neg e, if_neg e]
      by_cases e' : d.upOf m = d.upOf x
      · rw [if_pos e', e', nextIn_outL hxk hnd hpos e hm0]
        simp [lk, e']
      · rw [if_neg e']
        have : ¬ ((d.lk x).prev ≠ -1 ∧ m = (d.lk x).prev) := by
          rintro ⟨h1, h2⟩
          have := (prevIn_mem (d.kidsOf (d.upOf x)) x).resolve_left h1
          exact e' (((hw.kid _ m hux).1 (h2 ▸ this)).2)
        rw [if_neg this]; rfl
theorem WF.detach (hw : d.WF) {x : Int} (hx : d.has x) (hx0 : x ≠ 0) (hu : d.upOf x ≠ -1) : (d.detach x).WF := by
  have hux := (hw.up x hx).resolve_left hu
  refine ⟨by rw [detach_ids]; exact hw.sorted, ?_, fun m hm => hw.below m ((detach_has m).1 hm), hw.next1, hw.next2, fun m hm => ?_, fun u m hu' => ?_, fun u => ?_, ?_, fun n hn => ?_⟩
  · exact mod_holder (mod_holder hw.holder (by intros; rfl) (by intros; rfl)) (by intros; rfl) (fun n e => absurd e hx0)
  · rw [detach_up, detach_has]
    split
    · exact .inl rfl
    · exact hw.up m ((detach_has m).1 hm)
  · have hu1 := (detach_has u).1 hu'
    have hu0 := hw.nn hu1
    rw [detach_up, detach_kids, detach_has]
    by_cases e' : m = x
    · subst e'
      rw [if_pos rfl]
      have h2 : ¬ (d.has m ∧ (-1 : Int) = u) := fun h => by omega
      simp only [h2, iff_false]
      split
      · simp [outL]
      · next e => exact fun h => e ((hw.kid u m hu1).1 h).2.symm
    · rw [if_neg e']
      split
      · rw [mem_outL, hw.kid u m hu1]; simp [e']
      · exact hw.kid u m hu1
  · rw [detach_kids]
    split
    · exact nodup_outL (hw.nodup u)
    · exact hw.nodup u
  · obtain ⟨rk, hr⟩ := hw.rank
    refine ⟨rk, fun m hm hne => ?_⟩
    rw [detach_up] at hne ⊢
    split at hne
    · exact absurd rfl hne
    · next e => rw [if_neg e]; exact hr m ((detach_has m).1 hm) hne
  · obtain ⟨m, hm, rfl⟩ := mod_nodes hn
    obtain ⟨m', hm', rfl⟩ := mod_nodes hm
    have := hw.few m' hm'
    split <;> split <;> exact this
end Doc
end Go.Proofs.YtacobpmmpdadpaaGreat
set_option linter.unusedVariables false
set_option linter.unusedSimpArgs false
namespace Go.Proofs.YtacobpmmpdadpaaGreat
namespace Doc
variable {d : Doc}

/-! ### all below a loose node ends -/
noncomputable def prune (d : Doc) (y : Int) : Doc := { d with nodes := d.nodes.filter fun n => !d.under n.id y }
theorem get_filter {x : Int} {p : Int → Bool} : ∀ l : List Nd, (l.filter fun n => p n.id).find? (fun n => n.id == x) = if p x then l.find? (fun n => n.id == x) else none
  | [] => by simp
  | a :: r => by
    have ih := get_filter (x := x) (p := p) r
    rw [List.filter_cons]
    by_cases e : a.id = x
    · subst e
      by_cases h : p a.id = true
      · simp [h]
      · rw [if_neg h, ih, if_neg h, if_neg h]
    · split
      · rw [List.find?_cons_of_neg (by simpa using e), List.find?_cons_of_neg (by simpa using e)]; exact ih
      · rw [List.find?_cons_of_neg (p := fun n : Nd => n.id == x) (a := a) (by simpa using e)]; exact ih
theorem prune_get {y : Int} (m : Int) : (d.prune y).get m = if d.under m y then none else d.get m := by
  unfold get prune
  rw [get_filter (p := fun k => !d.under k y)]
  cases d.under m y <;> rfl
theorem prune_has {y m : Int} : (d.prune y).has m ↔ d.has m ∧ ¬ d.Anc m y := by
  rw [has_iff, has_iff, prune_get]
  cases e : d.under m y with
  | true => simp [under_iff.1 e]
  | false =>
    have : ¬ d.Anc m y := fun h => by rw [under_iff.2 h] at e; cases e
    simp [this]
theorem prune_kids {y m : Int} (h : ¬ d.Anc m y) : (d.prune y).kidsOf m = d.kidsOf m := by
  unfold kidsOf
  rw [prune_get, if_neg (fun e => h (under_iff.1 e))]
theorem prune_up {y m : Int} (h : ¬ d.Anc m y) : (d.prune y).upOf m = d.upOf m := by
  unfold upOf
  rw [prune_get, if_neg (fun e => h (under_iff.1 e))]
theorem prune_lk (hw : d.WF) {y : Int} (hy : d.has y) (m : Int) (hm : (d.prune y).has m) : (d.prune y).lk m = d.lk m := by
  obtain ⟨h1, h2⟩ := prune_has.1 hm
  have hu : ¬ d.Anc (d.upOf m) y := fun h => h2 (Anc.step h)
  simp only [lk, prune_up h2, prune_kids h2, prune_kids hu]
theorem WF.prune (hw : d.WF) {y : Int} (hy : d.has y) (hu : d.upOf y = -1) (hy0 : y ≠ 0) : (d.prune y).WF := by
  have hnk : ∀ u x, d.has u → x ∈ d.kidsOf u → ¬ d.Anc u y → ¬ d.Anc x y := fun u x hu' hx h1 h2 => by
    obtain ⟨hx1, hx2⟩ := (hw.kid u x hu').1 hx
    rcases anc_cases h2 with e | e
    · subst e
      have := hw.nn hu'
      omega
    · exact h1 (hx2 ▸ e)
  refine ⟨(hw.sorted.sublist (List.Sublist.map _ List.filter_sublist)), ?_, fun m hm => hw.below m (prune_has.1 hm).1, hw.next1, hw.next2, fun m hm => ?_, fun u m hu' => ?_, fun u => ?_, ?_, fun n hn => hw.few n (List.mem_filter.1 hn).1⟩
  · obtain ⟨a, r, e, h0, h1⟩ := hw.holder
    have hn : d.under 0 y = false := by
      cases e' : d.under 0 y with
      | false => rfl
      | true =>
        rcases anc_cases (under_iff.1 e') with e2 | e2
        · exact absurd e2.symm hy0
        · rw [hw.up0] at e2
          have := anc_neg hw e2
          have := hw.nn hy
          omega
    refine ⟨a, r.filter fun n => !d.under n.id y, ?_, h0, h1⟩
    simp [Doc.prune, e, h0, hn]
  · obtain ⟨h1, h2⟩ := prune_has.1 hm
    rw [prune_up h2, prune_has]
    exact (hw.up m h1).imp id fun h => ⟨h, fun h3 => h2 (Anc.step h3)⟩
  · obtain ⟨h1, h2⟩ := prune_has.1 hu'
    rw [prune_kids h2, hw.kid u m h1, prune_has]
    constructor
    · rintro ⟨h3, h4⟩
      have h5 := hnk u m h1 ((hw.kid u m h1).2 ⟨h3, h4⟩) h2
      exact ⟨⟨h3, h5⟩, by rw [prune_up h5]; exact h4⟩
    · rintro ⟨⟨h3, h5⟩, h4⟩
      exact ⟨h3, by rw [prune_up h5] at h4; exact h4⟩
  · by_cases h : d.Anc u y
    · have : ¬ (d.prune y).has u := fun h' => (prune_has.1 h').2 h
      rw [kidsOf_none this]; simp
    · rw [prune_kids h]; exact hw.nodup u
  · obtain ⟨rk, hr⟩ := hw.rank
    refine ⟨rk, fun m hm hne => ?_⟩
    obtain ⟨h1, h2⟩ := prune_has.1 hm
    rw [prune_up h2] at hne ⊢
    exact hr m h1 hne

/-! ### a node is made -/
def push (d : Doc) (n : Nd) : Doc := { nodes := d.nodes ++ [n], next := d.next + 1 }
theorem push_get (hw : d.WF) {n : Nd} (hn : n.id = d.next) (m : Int) : (d.push n).get m = if m = d.next then some n else d.get m := by
  unfold get push
  rw [List.find?_append]
  by_cases e : m = d.next
  · subst e
    have : d.nodes.find? (fun x => x.id == d.next) = none := by
      rw [List.find?_eq_none]
      intro x hx h
      have := hw.below x.id ⟨x, hx, rfl⟩
      simp at h; omega
    simp [this, hn]
  · have : ¬ n.id = m := by omega
    rw [if_neg e]
    cases d.nodes.find? (fun x => x.id == m) <;> simp [this]
theorem push_has (hw : d.WF) {n : Nd} (hn : n.id = d.next) {m : Int} : (d.push n).has m ↔ m = d.next ∨ d.has m := by
  rw [has_iff, has_iff, push_get hw hn]
  by_cases e : m = d.next <;> simp [e]
theorem next_not (hw : d.WF) : ¬ d.has d.next := fun h => by have := hw.below _ h; omega
theorem push_up (hw : d.WF) {n : Nd} (hn : n.id = d.next) (hu : n.up = -1) (m : Int) : (d.push n).upOf m = d.upOf m := by
  unfold upOf
  rw [push_get hw hn]
  by_cases e : m = d.next
  · subst e; rw [get_none (next_not hw)]; simp [hu]
  · rw [if_neg e]
theorem push_kids (hw : d.WF) {n : Nd} (hn : n.id = d.next) (hk : n.kids = []) (m : Int) : (d.push n).kidsOf m = d.kidsOf m := by
  unfold kidsOf
  rw [push_get hw hn]
  by_cases e : m = d.next
  · subst e; rw [get_none (next_not hw)]; simp [hk]
  · rw [if_neg e]
theorem push_lk (hw : d.WF) {n : Nd} (hn : n.id = d.next) (hu : n.up = -1) (hk : n.kids = []) (m : Int) : (d.push n).lk m = d.lk m := by
  simp only [lk, push_up hw hn hu, push_kids hw hn hk]
theorem lk_none {m : Int} (hw : d.WF) (h : ¬ d.has m) : d.lk m = ⟨-1, -1, -1, -1, -1⟩ := by
  have hkn : d.kidsOf (-1) = [] := kidsOf_none (not_has_neg hw (by decide))
  simp only [lk, upOf_none h, kidsOf_none h, hkn]; rfl
theorem WF.push (hw : d.WF) {n : Nd} (hn : n.id = d.next) (hu : n.up = -1) (hk : n.kids = []) (ha : n.attrs.length ≤ 64) (hx : d.next ≤ 4294967295) : (d.push n).WF := by
  refine ⟨?_, ?_, fun m hm => ?_, ?_, ?_, fun m hm => ?_, fun u m hu' => ?_, fun u => ?_, ?_, fun x hx => ?_⟩
  · show ((d.nodes ++ [n]).map (·.id)).Pairwise _
    rw [List.map_append, List.pairwise_append]
    refine ⟨hw.sorted, by simp, ?_⟩
    intro a ha b hb
    obtain ⟨x, hx, rfl⟩ := List.mem_map.1 ha
    simp only [List.map_cons, List.map_nil, List.mem_singleton] at hb
    have := hw.below x.id ⟨x, hx, rfl⟩
    omega
  · obtain ⟨a, r, e, h0, h1⟩ := hw.holder
    exact ⟨a, r ++ [n], by simp [Doc.push, e], h0, h1⟩
  · show m < d.next + 1
    rcases (push_has hw hn).1 hm with e | e
    · omega
    · have := hw.below m e; omega
  · show 1 ≤ d.next + 1
    have := hw.next1; omega
  · show d.next + 1 ≤ _
    omega
  · rw [push_up hw hn hu, push_has hw hn]
    rcases (push_has hw hn).1 hm with e | e
    · left; rw [e]; exact upOf_none (next_not hw)
    · exact (hw.up m e).imp id .inr
  · rw [push_up hw hn hu, push_kids hw hn hk, push_has hw hn]
    rcases (push_has hw hn).1 hu' with e | e
    · subst e
      rw [kidsOf_none (next_not hw)]
      constructor
      · intro h; simp at h
      · rintro ⟨h | h, h2⟩
        · subst h; rw [upOf_none (next_not hw)] at h2
          have := hw.next1; omega
        · rcases hw.up m h with h3 | h3
          · have := hw.next1; omega
          · exact absurd (h2 ▸ h3) (next_not hw)
    · rw [hw.kid u m e]
      constructor
      · exact fun h => ⟨.inr h.1, h.2⟩
      · rintro ⟨h | h, h2⟩
        · subst h; rw [upOf_none (next_not hw)] at h2
          have := hw.nn e; omega
        · exact ⟨h, h2⟩
  · rw [push_kids hw hn hk]; exact hw.nodup u
  · obtain ⟨rk, hr⟩ := hw.rank
    refine ⟨rk, fun m hm hne => ?_⟩
    rw [push_up hw hn hu] at hne ⊢
    rcases (push_has hw hn).1 hm with e | e
    · subst e; exact absurd (upOf_none (next_not hw)) hne
    · exact hr m e hne
  · rcases List.mem_append.1 hx with h | h
    · exact hw.few x h
    · rw [List.mem_singleton.1 h]; exact ha

/-! ### a node's own is changed -/
theorem own_up {x : Int} {f : Nd → Nd} (hf : ∀ n, (f n).id = n.id) (hu : ∀ n, (f n).up = n.up) (m : Int) : (d.mod x f).upOf m = d.upOf m := by
  rw [upOf_mod hf]
  split
  · unfold upOf; simp only [hu]
  · rfl
theorem own_kids {x : Int} {f : Nd → Nd} (hf : ∀ n, (f n).id = n.id) (hk : ∀ n, (f n).kids = n.kids) (m : Int) : (d.mod x f).kidsOf m = d.kidsOf m := by
  rw [kidsOf_mod hf]
  split
  · unfold kidsOf; simp only [hk]
  · rfl
theorem own_lk {x : Int} {f : Nd → Nd} (hf : ∀ n, (f n).id = n.id) (hu : ∀ n, (f n).up = n.up) (hk : ∀ n, (f n).kids = n.kids) (m : Int) : (d.mod x f).lk m = d.lk m := by
  simp only [lk, own_up hf hu, own_kids hf hk]
theorem WF.own (hw : d.WF) {x : Int} {f : Nd → Nd} (hf : ∀ n, (f n).id = n.id) (hu : ∀ n, (f n).up = n.up) (hk : ∀ n, (f n).kids = n.kids) (ha : ∀ n, d.get x = some n → (f n).attrs.length ≤ 64) : (d.mod x f).WF := by
  refine ⟨by rw [ids_mod hf]; exact hw.sorted, mod_holder hw.holder hf (fun n _ => hu n), fun m hm => hw.below m ((has_mod hf m).1 hm), hw.next1, hw.next2, fun m hm => ?_, fun u m hu' => ?_, fun u => ?_, ?_, fun n hn => ?_⟩
  · rw [own_up hf hu, has_mod hf]; exact hw.up m ((has_mod hf m).1 hm)
  · rw [own_up hf hu, own_kids hf hk, has_mod hf]; exact hw.kid u m ((has_mod hf u).1 hu')
  · rw [own_kids hf hk]; exact hw.nodup u
  · obtain ⟨rk, hr⟩ := hw.rank
    exact ⟨rk, fun m hm hne => by rw [own_up hf hu] at hne ⊢; exact hr m ((has_mod hf m).1 hm) hne⟩
  · obtain ⟨m, hm, rfl⟩ := mod_nodes hn
    split
    · next e => exact ha m (e ▸ get_of_mem hw.sorted hm)
    · exact hw.few m hm
end Doc

/-! ### names and attributes -/
def isSmall (c : UInt8) : Bool := 97 ≤ c && c ≤ 122
def isInner (more : Bool) (c : UInt8) : Bool := 97 ≤ c && c ≤ 122 || 48 ≤ c && c ≤ 57 || c == 45 || more && (c == 58 || c == 46)
def named (s : ByteArray) (more : Bool) : Bool := 1 ≤ s.size && s.size ≤ 32 && isSmall (s.data.toList.headD 0) && s.data.toList.all (isInner more)
/-- What is wrong with the attribute at a place; 0: nothing. -/
def badAt (l : List At) (i : Nat) : Int :=
  if i = 64 then 12 else if named (l.getD i z0).name true = false then 8 else if 65536 < (l.getD i z0).value.size then 3
  else if 0 < i ∧ (l.getD (i - 1) z0).name.toList = (l.getD i z0).name.toList then 10
  else if 0 < i ∧ Op.bytesLess (l.getD i z0).name.toList (l.getD (i - 1) z0).name.toList = true then 9 else 0
def checkA (l : List At) : Nat × Int :=
  match (List.range l.length).find? fun i => badAt l i ≠ 0 with
  | some i => (i, badAt l i)
  | none => (0, 0)
theorem checkA_at {l : List At} {i : Nat} (hi : i < l.length) (hb : badAt l i ≠ 0) (ha : ∀ j, j < i → badAt l j = 0) : checkA l = (i, badAt l i) := by
  have : (List.range l.length).find? (fun i => decide (badAt l i ≠ 0)) = some i := by
    rw [List.find?_range_eq_some]
    refine ⟨by simpa using hb, by simpa using hi, fun j hj => by simpa using ha j hj⟩
  simp only [checkA, this]
theorem checkA_none {l : List At} (ha : ∀ j, j < l.length → badAt l j = 0) : checkA l = (0, 0) := by
  have : (List.range l.length).find? (fun i => decide (badAt l i ≠ 0)) = none := by
    rw [List.find?_eq_none]
    intro j hj
    have := ha j (by simpa using hj)
    simp [this]
  simp only [checkA, this]
theorem checkA_len {l : List At} (h : (checkA l).2 = 0) : l.length ≤ 64 := by
  rcases Nat.lt_or_ge 64 l.length with h1 | h1
  · exfalso
    cases hf : (List.range l.length).find? (fun i => decide (badAt l i ≠ 0)) with
    | some i =>
      have := List.find?_some hf
      simp only [checkA, hf] at h
      simp [h] at this
    | none =>
      have := List.find?_eq_none.1 hf 64 (by simpa using h1)
      simp [badAt] at this
  · exact h1
/-- The first place with a name. -/
def findA (l : List At) (name : ByteArray) : Option Nat := (List.range l.length).find? fun i => (l.getD i z0).name.toList = name.toList
/-- Where a name belongs. -/
def toA (l : List At) (name : ByteArray) : Nat := ((List.range l.length).find? fun i => Op.bytesLess name.toList (l.getD i z0).name.toList).getD l.length
def withA (l : List At) (name value : ByteArray) : List At :=
  match findA l name with
  | some i => l.set i ⟨(l.getD i z0).name, value⟩
  | none => l.take (toA l name) ++ ⟨name, value⟩ :: l.drop (toA l name)
def withoutA (l : List At) (name : ByteArray) : List At := l.filter fun a => a.name.toList ≠ name.toList

/-! ### the calls -/
open Classical in
noncomputable def Doc.insertD (d : Doc) (id up before : Int) : Int × Doc :=
  if id = 0 then (14, d) else if ¬ d.has id then (13, d) else if ¬ d.has up ∨ ¬ d.has before then (13, d) else if d.upOf id ≠ -1 then (15, d)
  else if d.Anc up id then (17, d) else if before ≠ 0 ∧ d.upOf before ≠ up then (18, d) else (0, d.attach up id before)
open Classical in
noncomputable def Doc.moveD (d : Doc) (id before : Int) : Int × Doc :=
  if id = 0 then (14, d) else if ¬ d.has id then (13, d) else if ¬ d.has before then (13, d) else if d.upOf id = -1 then (16, d)
  else if before = id ∨ before ≠ 0 ∧ d.upOf before ≠ d.upOf id then (18, d) else (0, (d.detach id).attach (d.upOf id) id before)
open Classical in
noncomputable def Doc.removeD (d : Doc) (id : Int) : Int × Doc :=
  if id = 0 then (14, d) else if ¬ d.has id then (13, d) else (0, (if d.upOf id = -1 then d else d.detach id).prune id)
def Doc.attrsOf (d : Doc) (id : Int) : List At := ((d.get id).map (·.attrs)).getD []
open Classical in
noncomputable def Doc.setD (d : Doc) (id : Int) (name value : ByteArray) : Int × Doc :=
  if id = 0 then (14, d) else if ¬ d.has id then (13, d) else if named name true = false then (8, d) else if 65536 < value.size then (3, d)
  else if 64 < (withA (d.attrsOf id) name value).length then (12, d) else (0, d.mod id fun n => { n with attrs := withA n.attrs name value })
open Classical in
noncomputable def Doc.delD (d : Doc) (id : Int) (name : ByteArray) : Int × Doc :=
  if id = 0 then (14, d) else if ¬ d.has id then (13, d) else if ¬ (withoutA (d.attrsOf id) name).length < (d.attrsOf id).length then (8, d)
  else (0, d.mod id fun n => { n with attrs := withoutA n.attrs name })
open Classical in
noncomputable def Doc.textD (d : Doc) (id : Int) (s : ByteArray) : Int × Doc :=
  if id = 0 then (14, d) else if ¬ d.has id then (13, d) else if 65536 < s.size then (3, d) else (0, d.mod id fun n => { n with text := s })
/-- The ID, the error, what there is then. -/
def Doc.createD (d : Doc) (tag key text : ByteArray) (l : List At) : Int × Int × Doc :=
  if named tag false = false then (0, 7, d) else if 65536 < key.size ∨ 65536 < text.size then (0, 3, d) else if (checkA l).2 ≠ 0 then (0, (checkA l).2, d)
  else if 4294967295 < d.next then (0, 21, d) else (d.next, 0, d.push ⟨d.next, -1, [], tag, key, text, l⟩)
structure Opr where
  kind : Int
  node : Int
  up : Int
  before : Int
  tag : ByteArray
  key : ByteArray
  name : ByteArray
  text : ByteArray
  attrs : List At
noncomputable def Doc.doD (d : Doc) (x : Opr) : Int × Int × Doc :=
  if x.kind = 1 then d.createD x.tag x.key x.text x.attrs
  else if x.kind = 2 then (0, d.insertD x.node x.up x.before)
  else if x.kind = 3 then (0, d.moveD x.node x.before)
  else if x.kind = 4 then (0, d.removeD x.node)
  else if x.kind = 5 then (0, d.setD x.node x.name x.text)
  else if x.kind = 6 then (0, d.delD x.node x.name)
  else if x.kind = 7 then (0, d.textD x.node x.text)
  else (0, 0, d)
end Go.Proofs.YtacobpmmpdadpaaGreat
set_option linter.unusedVariables false
set_option linter.unusedSimpArgs false
namespace Go.Proofs.YtacobpmmpdadpaaGreat
open Go.RowKit
theorem ret_int {k : IntKind} {a b : Int} (h : a = b) : Ending.returned (.int k a) = .returned (.int k b) := by rw [h]
theorem ret_bool {a b : Bool} (h : a = b) : Ending.returned (.bool a) = .returned (.bool b) := by rw [h]

theorem small_any (c : UInt8) (w : World) : Calls Tryz.prog 93 #[.int .u8 (c.toNat : Int)] w fun e w' => e = .returned (.bool (isSmall c)) ∧ w = w' := by
  have h1 : isSmall c = (decide (97 ≤ (c.toNat : Int)) && decide ((c.toNat : Int) ≤ 122)) := by
    unfold isSmall; rw [Bool.eq_iff_iff]; simp [UInt8.le_iff_toNat_le]; omega
  have H := Lib.hid h1; clear h1
  go_enter Tryz.func93, Tryz.ntmps93
  go_wp2
  all_goals (go_ret; refine ⟨ret_bool ?_, rfl⟩; rw [H.out, Bool.eq_iff_iff]; simp only [beq_iff_eq, Bool.or_eq_true, Bool.and_eq_true, decide_eq_true_eq, Bool.false_eq_true, Bool.true_eq_false, false_and, true_and, or_false, false_or, and_true, iff_true, true_iff, iff_false, false_iff]; first | done | omega | (simp; omega))

theorem fits_any (s : ByteArray) (w : World) : Calls Tryz.prog 48 #[.string s] w fun e w' => e = .returned (.bool (decide (s.size ≤ 65536))) ∧ w = w' := by
  go_enter Tryz.func48, Tryz.ntmps48
  go_wp2
  go_ret
  refine ⟨ret_bool ?_, rfl⟩
  simp; omega

theorem run_indexByteS (s : ByteArray) (c : UInt8) (w : World) : (callFunc 107 #[.string s, .int .u8 (c.toNat : Int)]).run Tryz.prog w = .ok (.value (.int .i64 (Lib.indexByte s.data.toList c))) w := by
  have h := Lib.run_indexByteString (P := Tryz.prog) s (c.toNat : Int) w
  rw [show ((c.toNat : Int)).toNat.toUInt8 = c by simp] at h
  rw [run_callFunc_extern Tryz.func107 (by kernel_rfl) (by kernel_rfl) (by kernel_rfl) (e := Extern.BytealgIndexByte.indexByte) (by kernel_rfl), h]
  rfl
theorem indexByte_any (s : ByteArray) (c : UInt8) (w : World) : Calls Tryz.prog 94 #[.string s, .int .u8 (c.toNat : Int)] w fun e w' => e = .returned (.int .i64 (Lib.indexByte s.data.toList c)) ∧ w = w' := by
  have hr := run_indexByteS s c w
  go_enter Tryz.func94, Tryz.ntmps94
  go_wp2
  go_ret
  exact ⟨rfl, rfl⟩

theorem inner_any (c : UInt8) (more : Bool) (w : World) : Calls Tryz.prog 89 #[.int .u8 (c.toNat : Int), .bool more] w fun e w' => e = .returned (.bool (isInner more c)) ∧ w = w' := by
  have h1 : isInner more c = (decide (97 ≤ (c.toNat : Int)) && decide ((c.toNat : Int) ≤ 122) || decide (48 ≤ (c.toNat : Int)) && decide ((c.toNat : Int) ≤ 57) || decide ((c.toNat : Int) = 45) || more && (decide ((c.toNat : Int) = 58) || decide ((c.toNat : Int) = 46))) := by
    unfold isInner
    have e : ∀ k : UInt8, (c == k) = decide ((c.toNat : Int) = (k.toNat : Int)) := fun k => by
      rw [Bool.eq_iff_iff]; simp only [beq_iff_eq, decide_eq_true_eq]; rw [← UInt8.toNat_inj]; omega
    rw [e 45, e 58, e 46]
    simp only [UInt8.le_iff_toNat_le]
    cases more <;> (rw [Bool.eq_iff_iff]; simp; try omega)
  have H := Lib.hid h1; clear h1
  cases more
  all_goals
    go_enter Tryz.func89, Tryz.ntmps89
    go_wp2
    all_goals (go_ret; refine ⟨ret_bool ?_, rfl⟩; rw [H.out, Bool.eq_iff_iff]; simp only [beq_iff_eq, Bool.or_eq_true, Bool.and_eq_true, decide_eq_true_eq, Bool.false_eq_true, Bool.true_eq_false, false_and, true_and, or_false, false_or, and_true, iff_true, true_iff, iff_false, false_iff]; first | done | omega | (simp; omega))
theorem data_take (s : ByteArray) {k : Nat} (h : k < s.size) : s.data.toList.take (k + 1) = s.data.toList.take k ++ [s[k]] := by
  rw [List.take_succ_eq_append_getElem (by simpa using h)]; rfl
theorem data_len (s : ByteArray) : s.data.toList.length = s.size := by rw [Array.length_toList]; rfl
theorem named_all {s : ByteArray} {more : Bool} (h1 : 1 ≤ s.size) (h2 : s.size ≤ 32) (h3 : isSmall (s.data.toList.headD 0) = true) : named s more = s.data.toList.all (isInner more) := by
  simp only [named, h1, h2, h3, decide_true, Bool.true_and]
theorem head_at {s : ByteArray} (h : 0 < s.size) : s.data.toList.headD 0 = s[0] := by
  cases e : s.data.toList with
  | nil => have := data_len s; rw [e] at this; simp at this; omega
  | cons a r =>
    have h1 : s[0] = s.data.toList[0]'(by rw [data_len]; exact h) := rfl
    rw [h1]; simp [e]
theorem small_inner {more : Bool} {c : UInt8} (h : isSmall c = true) : isInner more c = true := by
  unfold isSmall at h; unfold isInner; rw [h]; simp

/-- The reference's Named. -/
theorem ref_named (s : ByteArray) (more : Bool) (w : World) (hm : s.size ≤ 9223372036854775807) : Calls Tryz.prog 60 #[.string s, .bool more] w fun e w' => e = .returned (.bool (named s more)) ∧ w = w' := by
  rcases Nat.lt_or_ge s.size 1 with h1 | h1
  · have hn : named s more = false := by simp [named]; omega
    have b1 : decide ((s.size : Int) < 1) = true := by simp; omega
    rw [hn]
    clear hn h1
    go_enter Tryz.func60, Tryz.ntmps60
    go_wp2
    go_ret
    exact ⟨rfl, rfl⟩
  rcases Nat.lt_or_ge 32 s.size with h2 | h2
  · have hn : named s more = false := by simp [named]; omega
    have b1 : decide ((s.size : Int) < 1) = false := by simp; omega
    have b2 : decide (32 < (s.size : Int)) = true := by simp; omega
    rw [hn]
    clear hn h1 h2
    go_enter Tryz.func60, Tryz.ntmps60
    go_wp2
    go_ret
    exact ⟨rfl, rfl⟩
  have b1 : decide ((s.size : Int) < 1) = false := by simp; omega
  have b2 : decide (32 < (s.size : Int)) = false := by simp; omega
  have h0 : 0 < s.size := h1
  cases hs : isSmall s[0] with
  | false =>
    have hn : named s more = false := by simp only [named, head_at h0, hs, Bool.and_false, Bool.false_and]
    rw [hn]
    have hx := Lib.hid hs
    clear hn hs h1 h2
    go_enter Tryz.func60, Tryz.ntmps60
    go_wp2
    all_goals (first | (go_ret; exact ⟨rfl, rfl⟩) | (exfalso; have := hx.out; unfold isSmall at this; simp [UInt8.le_iff_toNat_le] at this; omega))
  | true =>
    have hall : named s more = s.data.toList.all (isInner more) := named_all h1 h2 (by rw [head_at h0]; exact hs)
    have HA := Lib.hid hall
    have c1 : 97 ≤ (s[0].toNat : Int) := by unfold isSmall at hs; simp [UInt8.le_iff_toNat_le] at hs; omega
    have c2 : (s[0].toNat : Int) ≤ 122 := by unfold isSmall at hs; simp [UInt8.le_iff_toNat_le] at hs; omega
    have hi0 : isInner more s[0] = true := small_inner hs
    have HI := Lib.hid hi0
    clear hs hall hi0
    go_enter Tryz.func60, Tryz.ntmps60
    go_wp2
    go_loop [5] (fun i => ∃ k : Nat, 1 ≤ k ∧ k ≤ s.size ∧ i = .int .i64 k ∧ Hid ((s.data.toList.take k).all (isInner more) = true)) (fun i => s.size - (intOf i).toNat)
    case atStart => exact ⟨1, by omega, by omega, rfl, by show _ = true; rw [data_take s h0]; simp [HI.out]⟩
    case round =>
      obtain ⟨k, hk1, hk, rfl, ht⟩ := hrel
      by_cases hlt : k < s.size
      · cases hin : isInner more s[k] with
        | false =>
          have hfin : named s more = false := by
            rw [HA.out, List.all_eq_false]
            exact ⟨s[k], by rw [show s[k] = s.data.toList[k]'(by rw [data_len]; exact hlt) from rfl]; exact List.getElem_mem _, by simp [hin]⟩
          have HF := Lib.hid hfin
          have HC := Lib.hid (inner_any s[k] more w)
          rw [hin] at HC
          clear hin hfin
          go_wp2_with (go_at_call 89; refine HC.out.mono ?_; rintro e w' ⟨rfl, rfl⟩)
          go_ret
          exact ⟨ret_bool HF.out.symm, rfl⟩
        | true =>
          have hn : Hid ((s.data.toList.take (k + 1)).all (isInner more) = true) := by show _ = true; rw [data_take s hlt, List.all_append, ht.out]; simp [hin]
          have HC := Lib.hid (inner_any s[k] more w)
          rw [hin] at HC
          clear hin ht
          go_wp2_with (go_at_call 89; refine HC.out.mono ?_; rintro e w' ⟨rfl, rfl⟩)
          go_round
          case rel => exact ⟨k + 1, by omega, by omega, by go_num, hn⟩
          case measure => simp [intOf]; omega
      · have hfin : named s more = true := by
          rw [HA.out, ← ht.out, List.take_of_length_le (by rw [data_len]; omega)]
        have HF := Lib.hid hfin
        clear hfin ht
        go_wp2
        go_ret
        exact ⟨ret_bool HF.out.symm, rfl⟩
end Go.Proofs.YtacobpmmpdadpaaGreat
set_option linter.unusedVariables false
set_option linter.unusedSimpArgs false
namespace Go.Proofs.YtacobpmmpdadpaaGreat
open Go.RowKit
theorem namedP_any (s others : ByteArray) (more : Bool) (w : World) (hm : s.size ≤ 9223372036854775807)
    (hO : ∀ c, isInner more c = (isSmall c || (decide (48 ≤ (c.toNat : Int)) && decide ((c.toNat : Int) ≤ 57)) || decide (0 ≤ Lib.indexByte others.data.toList c))) :
    Calls Tryz.prog 72 #[.string s, .string others] w fun e w' => e = .returned (.bool (named s more)) ∧ w = w' := by
  have HO := Lib.hid hO; clear hO
  rcases Nat.lt_or_ge s.size 1 with h1 | h1
  · have hn : named s more = false := by simp [named]; omega
    have hs0 : s.toList = [] := by
      have : s.data.toList.length = 0 := by rw [data_len]; omega
      rw [Lib.toList_data]; exact List.eq_nil_of_length_eq_zero this
    have b1 : s.toList.isEmpty = true := by rw [hs0]; rfl
    rw [hn]
    clear hn h1
    go_enter Tryz.func72, Tryz.ntmps72
    go_wp2
    go_ret
    exact ⟨rfl, rfl⟩
  have hne : s.toList ≠ [] := fun h => by
    rw [Lib.toList_data] at h
    have := data_len s; rw [h] at this; simp at this; omega
  have b1 : s.toList.isEmpty = false := by cases h : s.toList with | nil => exact absurd h hne | cons a r => rfl
  have b1' : (s.toList == []) = false := by cases h : s.toList with | nil => exact absurd h hne | cons a r => rfl
  clear hne
  rcases Nat.lt_or_ge 32 s.size with h2 | h2
  · have hn : named s more = false := by simp [named]; omega
    have b2 : decide (32 < (s.size : Int)) = true := by simp; omega
    rw [hn]
    clear hn h1 h2
    go_enter Tryz.func72, Tryz.ntmps72
    go_wp2
    go_ret
    exact ⟨rfl, rfl⟩
  have b2 : decide (32 < (s.size : Int)) = false := by simp; omega
  have h0 : 0 < s.size := h1
  have HC := Lib.hid (small_any s[0] w)
  cases hs : isSmall s[0] with
  | false =>
    have hn : named s more = false := by simp only [named, head_at h0, hs, Bool.and_false, Bool.false_and]
    rw [hn]
    rw [hs] at HC
    clear hn hs h1 h2
    go_enter Tryz.func72, Tryz.ntmps72
    go_wp2_with (go_at_call 93; refine HC.out.mono ?_; rintro e w' ⟨rfl, rfl⟩)
    go_ret
    exact ⟨rfl, rfl⟩
  | true =>
    have hall : named s more = s.data.toList.all (isInner more) := named_all h1 h2 (by rw [head_at h0]; exact hs)
    have HA := Lib.hid hall
    rw [hs] at HC
    clear hs hall
    go_enter Tryz.func72, Tryz.ntmps72
    go_wp2_with (go_at_call 93; refine HC.out.mono ?_; rintro e w' ⟨rfl, rfl⟩)
    clear HC
    go_loop [5, 6, 22] (fun _ _ i => ∃ k : Nat, k ≤ s.size ∧ i = .int .i64 k ∧ Hid ((s.data.toList.take k).all (isInner more) = true)) (fun _ _ i => s.size - (intOf i).toNat)
    case atStart => exact ⟨0, by omega, rfl, by show _ = true; simp⟩
    case round =>
      obtain ⟨k, hk, rfl, ht⟩ := hrel
      by_cases hlt : k < s.size
      · have HS := Lib.hid (small_any s[k] w)
        have HI := Lib.hid (indexByte_any others s[k] w)
        have hge := Lib.indexByte_ge others.data.toList s[k]
        have ho := HO.out s[k]
        cases hin : isInner more s[k] with
        | false =>
          have hfin : named s more = false := by
            rw [HA.out, List.all_eq_false]
            exact ⟨s[k], by rw [show s[k] = s.data.toList[k]'(by rw [data_len]; exact hlt) from rfl]; exact List.getElem_mem _, by simp [hin]⟩
          have HF := Lib.hid hfin
          rw [hin] at ho
          simp only [Bool.false_eq, Bool.or_eq_false_iff, Bool.and_eq_false_iff, decide_eq_false_iff_not] at ho
          obtain ⟨⟨o1, o2⟩, o3⟩ := ho
          rw [o1] at HS
          obtain ⟨q, hq⟩ : ∃ q, q = Lib.indexByte others.data.toList s[k] := ⟨_, rfl⟩
          rw [← hq] at HI hge o3
          have hql : q < 0 := by omega
          clear hin hfin o1 hq o3
          by_cases o4 : (s[k].toNat : Int) < 48
          · clear o2
            go_wp2_with (first | (go_at_call 93; refine HS.out.mono ?_; rintro e w' ⟨rfl, rfl⟩) | (go_at_call 94; refine HI.out.mono ?_; rintro e w' ⟨rfl, rfl⟩))
            go_ret
            exact ⟨ret_bool HF.out.symm, rfl⟩
          · have o5 : 57 < (s[k].toNat : Int) := by omega
            clear o2
            go_wp2_with (first | (go_at_call 93; refine HS.out.mono ?_; rintro e w' ⟨rfl, rfl⟩) | (go_at_call 94; refine HI.out.mono ?_; rintro e w' ⟨rfl, rfl⟩))
            go_ret
            exact ⟨ret_bool HF.out.symm, rfl⟩
        | true =>
          have hn : Hid ((s.data.toList.take (k + 1)).all (isInner more) = true) := by show _ = true; rw [data_take s hlt, List.all_append, ht.out]; simp [hin]
          rw [hin] at ho
          cases o1 : isSmall s[k] with
          | true =>
            rw [o1] at HS
            clear hin ht ho o1
            go_wp2_with (first | (go_at_call 93; refine HS.out.mono ?_; rintro e w' ⟨rfl, rfl⟩) | (go_at_call 94; refine HI.out.mono ?_; rintro e w' ⟨rfl, rfl⟩))
            go_round
            case rel => exact ⟨k + 1, by omega, by go_num, hn⟩
            case measure => simp [intOf]; omega
          | false =>
            rw [o1] at HS ho
            simp only [Bool.false_or, Bool.true_eq, Bool.or_eq_true, Bool.and_eq_true, decide_eq_true_eq] at ho
            by_cases o2 : 48 ≤ (s[k].toNat : Int) ∧ (s[k].toNat : Int) ≤ 57
            · obtain ⟨o3, o4⟩ := o2
              clear hin ht ho o1
              go_wp2_with (first | (go_at_call 93; refine HS.out.mono ?_; rintro e w' ⟨rfl, rfl⟩) | (go_at_call 94; refine HI.out.mono ?_; rintro e w' ⟨rfl, rfl⟩))
              go_round
              case rel => exact ⟨k + 1, by omega, by go_num, hn⟩
              case measure => simp [intOf]; omega
            · have o3 := ho.resolve_left o2
              obtain ⟨q, hq⟩ : ∃ q, q = Lib.indexByte others.data.toList s[k] := ⟨_, rfl⟩
              rw [← hq] at HI hge o3
              clear hin ht ho o1 hq
              by_cases o4 : (s[k].toNat : Int) < 48
              · clear o2
                go_wp2_with (first | (go_at_call 93; refine HS.out.mono ?_; rintro e w' ⟨rfl, rfl⟩) | (go_at_call 94; refine HI.out.mono ?_; rintro e w' ⟨rfl, rfl⟩))
                go_round
                case rel => exact ⟨k + 1, by omega, by go_num, hn⟩
                case measure => simp [intOf]; omega
              · have o5 : 57 < (s[k].toNat : Int) := by omega
                clear o2
                go_wp2_with (first | (go_at_call 93; refine HS.out.mono ?_; rintro e w' ⟨rfl, rfl⟩) | (go_at_call 94; refine HI.out.mono ?_; rintro e w' ⟨rfl, rfl⟩))
                go_round
                case rel => exact ⟨k + 1, by omega, by go_num, hn⟩
                case measure => simp [intOf]; omega
      · have hfin : named s more = true := by
          rw [HA.out, ← ht.out, List.take_of_length_le (by rw [data_len]; omega)]
        have HF := Lib.hid hfin
        clear hfin ht
        go_wp2
        go_ret
        exact ⟨ret_bool HF.out.symm, rfl⟩
theorem all_bytes {p : UInt8 → Bool} (h : ∀ n : Fin 256, p (UInt8.ofNat n.val) = true) (c : UInt8) : p c = true := by
  have := h ⟨c.toNat, c.toNat_lt⟩
  simpa using this
def inOthers (l : List UInt8) (c : UInt8) : Bool := isSmall c || (decide (48 ≤ (c.toNat : Int)) && decide ((c.toNat : Int) ≤ 57)) || decide (0 ≤ Lib.indexByte l c)
theorem others_tag (c : UInt8) : isInner false c = (isSmall c || (decide (48 ≤ (c.toNat : Int)) && decide ((c.toNat : Int) ≤ 57)) || decide (0 ≤ Lib.indexByte (ByteArray.mk #[45]).data.toList c)) :=
  eq_of_beq (all_bytes (p := fun c => isInner false c == inOthers [45] c) (by decide +kernel) c)
theorem others_name (c : UInt8) : isInner true c = (isSmall c || (decide (48 ≤ (c.toNat : Int)) && decide ((c.toNat : Int) ≤ 57)) || decide (0 ≤ Lib.indexByte (ByteArray.mk #[45, 58, 46]).data.toList c)) :=
  eq_of_beq (all_bytes (p := fun c => isInner true c == inOthers [45, 58, 46] c) (by decide +kernel) c)
theorem tag_any (s : ByteArray) (w : World) (hm : s.size ≤ 9223372036854775807) : Calls Tryz.prog 47 #[.string s] w fun e w' => e = .returned (.bool (named s false)) ∧ w = w' := by
  have HC := Lib.hid (namedP_any s (ByteArray.mk #[45]) false w hm others_tag)
  go_enter Tryz.func47, Tryz.ntmps47
  go_wp2_with (go_at_call 72; refine HC.out.mono ?_; rintro e w' ⟨rfl, rfl⟩)
  go_ret
  exact ⟨rfl, rfl⟩
theorem name_any (s : ByteArray) (w : World) (hm : s.size ≤ 9223372036854775807) : Calls Tryz.prog 57 #[.string s] w fun e w' => e = .returned (.bool (named s true)) ∧ w = w' := by
  have HC := Lib.hid (namedP_any s (ByteArray.mk #[45, 58, 46]) true w hm others_name)
  go_enter Tryz.func57, Tryz.ntmps57
  go_wp2_with (go_at_call 72; refine HC.out.mono ?_; rintro e w' ⟨rfl, rfl⟩)
  go_ret
  exact ⟨rfl, rfl⟩
/-! ### Compare -/
theorem bl_tot : ∀ x y : List UInt8, Op.bytesLess y x = !(Op.bytesLess x y || x == y)
  | [], [] => rfl
  | [], _ :: _ => rfl
  | _ :: _, [] => rfl
  | a :: x, b :: y => by
    have ih := bl_tot x y
    rw [Op.bytesLess, Op.bytesLess, ih]
    have h1 : (b < a) = (b.toNat < a.toNat) := rfl
    have h2 : (a < b) = (a.toNat < b.toNat) := rfl
    have h3 : (a == b) = decide (a.toNat = b.toNat) := by rw [Bool.eq_iff_iff]; simp [UInt8.toNat_inj]
    have h4 : (b == a) = decide (b.toNat = a.toNat) := by rw [Bool.eq_iff_iff]; simp [UInt8.toNat_inj]
    have h5 : (a :: x == b :: y) = (decide (a.toNat = b.toNat) && x == y) := by rw [← h3]; rfl
    simp only [h1, h2, h3, h4, h5]
    rcases Nat.lt_trichotomy a.toNat b.toNat with h | h | h
    · simp [h, Nat.not_lt.2 (Nat.le_of_lt h), Nat.ne_of_gt h]
    · simp [h]
    · simp [h, Nat.not_lt.2 (Nat.le_of_lt h), Nat.ne_of_gt h]
def cmpB (a b : ByteArray) : Int := if Op.bytesLess a.toList b.toList then -1 else if Op.bytesLess b.toList a.toList then 1 else 0
theorem bl_take : ∀ (k : Nat) (x y : List UInt8), k ≤ x.length → k ≤ y.length → x.take k = y.take k → Op.bytesLess x y = Op.bytesLess (x.drop k) (y.drop k)
  | 0, _, _, _, _, _ => rfl
  | k + 1, [], _, h, _, _ => by simp at h
  | k + 1, _ :: _, [], _, h, _ => by simp at h
  | k + 1, a :: x, b :: y, h1, h2, h => by
    simp only [List.take_succ_cons, List.cons.injEq] at h
    simp only [List.drop_succ_cons, List.length_cons] at *
    rw [Op.bytesLess, h.1, bl_take k x y (by omega) (by omega) h.2]
    have h1 : (b < b) = (b.toNat < b.toNat) := rfl
    simp [h1]
theorem drop_at (s : ByteArray) {k : Nat} (h : k < s.size) : s.data.toList.drop k = s[k] :: s.data.toList.drop (k + 1) := by
  rw [List.drop_eq_getElem_cons (by rw [data_len]; exact h)]; rfl
theorem cmp_lt {a b : ByteArray} {k : Nat} (ha : k < a.size) (hb : k < b.size) (ht : a.data.toList.take k = b.data.toList.take k) (h : (a[k].toNat : Int) < b[k].toNat) : cmpB a b = -1 := by
  unfold cmpB
  rw [Lib.toList_data, Lib.toList_data, bl_take k _ _ (by rw [data_len]; omega) (by rw [data_len]; omega) ht, drop_at a ha, drop_at b hb, Op.bytesLess]
  have h2 : (a[k] < b[k]) = (a[k].toNat < b[k].toNat) := rfl
  have : a[k].toNat < b[k].toNat := by omega
  simp [h2, this]
theorem cmp_gt {a b : ByteArray} {k : Nat} (ha : k < a.size) (hb : k < b.size) (ht : a.data.toList.take k = b.data.toList.take k) (h : (b[k].toNat : Int) < a[k].toNat) : cmpB a b = 1 := by
  have h1 := cmp_lt hb ha ht.symm h
  unfold cmpB at h1 ⊢
  by_cases e : Op.bytesLess b.toList a.toList = true
  · have := bl_tot a.toList b.toList
    rw [e] at this
    have h3 : Op.bytesLess a.toList b.toList = false := by
      cases h4 : Op.bytesLess a.toList b.toList with
      | false => rfl
      | true => rw [h4] at this; simp at this
    simp [e, h3]
  · exfalso
    rw [if_neg e] at h1
    split at h1 <;> omega
theorem cmp_end {a b : ByteArray} (ht : a.data.toList.take (min a.size b.size) = b.data.toList.take (min a.size b.size)) : cmpB a b = if a.size < b.size then -1 else if b.size < a.size then 1 else 0 := by
  unfold cmpB
  rw [Lib.toList_data, Lib.toList_data, bl_take (min a.size b.size) _ _ (by rw [data_len]; omega) (by rw [data_len]; omega) ht, bl_take (min a.size b.size) _ _ (by rw [data_len]; omega) (by rw [data_len]; omega) ht.symm]
  rcases Nat.lt_trichotomy a.size b.size with h | h | h
  · rw [Nat.min_eq_left (by omega), List.drop_of_length_le (l := a.data.toList) (by rw [data_len]; omega), drop_at b h, if_pos (show Op.bytesLess [] (_ :: _) = true from rfl), if_pos h]
  · rw [List.drop_of_length_le (l := a.data.toList) (by rw [data_len]; omega), List.drop_of_length_le (l := b.data.toList) (by rw [data_len]; omega)]
    simp [Op.bytesLess, h]
  · have h' : ¬ a.size < b.size := by omega
    rw [Nat.min_eq_right (by omega), List.drop_of_length_le (l := b.data.toList) (by rw [data_len]; omega), drop_at a h]
    simp [Op.bytesLess, h, h']
/-- The reference's Compare. -/
theorem compare_any (a b : ByteArray) (w : World) (ha : a.size ≤ 9223372036854775807) (hb : b.size ≤ 9223372036854775807) : Calls Tryz.prog 90 #[.string a, .string b] w fun e w' => e = .returned (.int .i64 (cmpB a b)) ∧ ∃ n, w' = w.drewN n := by
  go_enter Tryz.func90, Tryz.ntmps90
  go_wp2
  go_loopw [5] (fun i wr => ∃ k n : Nat, k ≤ a.size ∧ k ≤ b.size ∧ i = .int .i64 k ∧ wr = w.drewN n ∧ Hid (a.data.toList.take k = b.data.toList.take k)) (fun i _ => a.size - (intOf i).toNat)
  case atStart => exact ⟨0, 0, by omega, by omega, rfl, rfl, by show _ = _; simp⟩
  case round =>
    obtain ⟨k, n, hk1, hk2, rfl, rfl, ht⟩ := hrel
    by_cases h1 : k < a.size
    · by_cases h2 : k < b.size
      · have f1 := fun h => cmp_lt h1 h2 ht.out h
        have f2 := fun h => cmp_gt h1 h2 ht.out h
        have f3 : ¬ (a[k].toNat : Int) < b[k].toNat → ¬ (b[k].toNat : Int) < a[k].toNat → Hid (a.data.toList.take (k + 1) = b.data.toList.take (k + 1)) := fun x y => by
          show _ = _
          rw [data_take a h1, data_take b h2, ht.out]
          have : a[k] = b[k] := UInt8.toNat_inj.1 (by omega)
          rw [this]
        have F1 := Lib.hid f1; have F2 := Lib.hid f2; have F3 := Lib.hid f3
        clear f1 f2 f3 ht
        by_cases c1 : (a[k].toNat : Int) < b[k].toNat
        · have hv := F1.out c1
          have HV := Lib.hid hv
          clear hv F1 F2 F3
          go_wp2
          go_quiet (fail)
          go_wp2
          go_ret
          exact ⟨ret_int HV.out.symm, _, World.drewN_drewN ..⟩
        · by_cases c2 : (b[k].toNat : Int) < a[k].toNat
          · have hv := F2.out c2
            have HV := Lib.hid hv
            clear hv F1 F2 F3
            go_wp2
            go_quiet (fail)
            go_wp2
            go_quiet (fail)
            go_wp2
            go_ret
            exact ⟨ret_int HV.out.symm, _, by rw [World.drewN_drewN, World.drewN_drewN]⟩
          · have hn := F3.out c1 c2
            clear F1 F2 F3
            go_wp2
            go_quiet (fail)
            go_wp2
            go_quiet (fail)
            go_wp2
            go_roundw
            case rel => exact ⟨k + 1, _, by omega, by omega, by go_num, rfl, hn⟩
            case measure => simp [intOf]; omega
      · have hv := cmp_end (a := a) (b := b) (by rw [Nat.min_eq_right (by omega), show b.size = k by omega]; exact ht.out)
        have HV := Lib.hid hv
        clear hv ht
        by_cases c : b.size < a.size
        · go_wp2
          go_ret
          exact ⟨ret_int (by rw [HV.out, if_neg (by omega), if_pos c]), _, rfl⟩
        · exfalso; omega
    · have hv := cmp_end (a := a) (b := b) (by rw [Nat.min_eq_left (by omega), show a.size = k by omega]; exact ht.out)
      have HV := Lib.hid hv
      clear hv ht
      by_cases c : a.size < b.size
      · go_wp2
        go_ret
        exact ⟨ret_int (by rw [HV.out, if_pos c]), _, rfl⟩
      · have : b.size = a.size := by omega
        have c2 : ¬ b.size < a.size := by omega
        clear this
        go_wp2
        go_ret
        exact ⟨ret_int (by rw [HV.out, if_neg c, if_neg c2]), _, rfl⟩
end Go.Proofs.YtacobpmmpdadpaaGreat
set_option linter.unusedVariables false
set_option linter.unusedSimpArgs false
namespace Go.Proofs.YtacobpmmpdadpaaGreat
open Go.RowKit
/-- What the checks of one attribute are, decided one by one. -/
inductive Bad (k : Nat) (nm vl pn : ByteArray) : Int → Prop
  | many : k = 64 → Bad k nm vl pn 12
  | name : k ≠ 64 → named nm true = false → Bad k nm vl pn 8
  | long : k ≠ 64 → named nm true = true → 65536 < vl.size → Bad k nm vl pn 3
  | twice : k ≠ 64 → named nm true = true → vl.size ≤ 65536 → 0 < k → (pn.toList == nm.toList) = true → Bad k nm vl pn 10
  | order : k ≠ 64 → named nm true = true → vl.size ≤ 65536 → 0 < k → (pn.toList == nm.toList) = false → Op.bytesLess pn.toList nm.toList = false → Bad k nm vl pn 9
  | first : k ≠ 64 → named nm true = true → vl.size ≤ 65536 → k = 0 → Bad k nm vl pn 0
  | fine : k ≠ 64 → named nm true = true → vl.size ≤ 65536 → 0 < k → (pn.toList == nm.toList) = false → Op.bytesLess pn.toList nm.toList = true → Bad k nm vl pn 0
theorem bad_at (l : List At) (k : Nat) : Bad k (l.getD k z0).name (l.getD k z0).value (l.getD (k - 1) z0).name (badAt l k) := by
  unfold badAt
  by_cases h1 : k = 64
  · rw [if_pos h1]; exact .many h1
  rw [if_neg h1]
  cases h2 : named (l.getD k z0).name true with
  | false => rw [if_pos rfl]; exact .name h1 h2
  | true =>
  rw [if_neg (by simp)]
  by_cases h3 : 65536 < (l.getD k z0).value.size
  · rw [if_pos h3]; exact .long h1 h2 h3
  rw [if_neg h3]
  have h3' : (l.getD k z0).value.size ≤ 65536 := by omega
  by_cases h4 : 0 < k
  · by_cases h5 : (l.getD (k - 1) z0).name.toList = (l.getD k z0).name.toList
    · rw [if_pos ⟨h4, h5⟩]; exact .twice h1 h2 h3' h4 (by simpa using h5)
    · rw [if_neg (fun h => h5 h.2)]
      have h5' : ((l.getD (k - 1) z0).name.toList == (l.getD k z0).name.toList) = false := by simpa using h5
      have ht := bl_tot (l.getD (k - 1) z0).name.toList (l.getD k z0).name.toList
      rw [h5'] at ht
      cases h6 : Op.bytesLess (l.getD (k - 1) z0).name.toList (l.getD k z0).name.toList with
      | true =>
        rw [h6] at ht
        rw [if_neg (fun h => by rw [ht] at h; simp at h)]
        exact .fine h1 h2 h3' h4 h5' h6
      | false =>
        rw [h6] at ht
        rw [if_pos ⟨h4, by rw [ht]; rfl⟩]
        exact .order h1 h2 h3' h4 h5' h6
  · rw [if_neg (fun h => h4 h.1), if_neg (fun h => h4 h.1)]
    exact .first h1 h2 h3' (by omega)

theorem ret_pair {i : Nat} {e : Int} {l : List At} (h : checkA l = (i, e)) : Ending.returned (.tuple #[.int .i64 (i : Int), .int .i64 e]) = .returned (.tuple #[.int .i64 ((checkA l).1 : Int), .int .i64 (checkA l).2]) := by rw [h]

/-- The sizes of the strings that a row of attributes holds. -/
def SizedA (l : List At) : Prop := ∀ a ∈ l, a.name.size ≤ 9223372036854775807 ∧ a.value.size ≤ 9223372036854775807
theorem SizedA.at {l : List At} (h : SizedA l) (k : Nat) : (l.getD k z0).name.size ≤ 9223372036854775807 ∧ (l.getD k z0).value.size ≤ 9223372036854775807 := by
  rcases Nat.lt_or_ge k l.length with e | e
  · rw [List.getD_eq_getElem?_getD, List.getElem?_eq_getElem e]; exact h _ (List.getElem_mem e)
  · rw [List.getD_eq_getElem?_getD, List.getElem?_eq_none e]; exact ⟨by decide, by decide⟩

theorem check_p (l : List At) (w : World) (ok : Nat → Prop) (A : Option Addr) (c : Nat) (hl : Rd EAt 2 w ok A l) (hs : SizedA l) :
    Calls Tryz.prog 49 #[.slice A l.length c] w fun e w' => e = .returned (.tuple #[.int .i64 ((checkA l).1 : Int), .int .i64 (checkA l).2]) ∧ Grow w w' := by
  obtain ⟨n, hn⟩ : ∃ n, n = l.length := ⟨_, rfl⟩
  rw [← hn]
  have hm : n ≤ 9223372036854775807 := hn ▸ hl.1
  have HN := Lib.hid hn; clear hn
  have HL := Lib.hid hl; clear hl
  have HS := Lib.hid hs; clear hs
  go_enter Tryz.func49, Tryz.ntmps49
  go_wp2
  go_loopw [9] (fun i wr => ∃ k : Nat, k ≤ n ∧ i = .int .i64 k ∧ Grow w wr ∧ Hid (∀ j, j < k → badAt l j = 0)) (fun i _ => n - (intOf i).toNat)
  case atStart => exact ⟨0, Nat.zero_le _, rfl, Below.refl _ _, fun j hj => absurd hj (by omega)⟩
  case round =>
    obtain ⟨k, hk, rfl, hg, ht⟩ := hrel
    by_cases hlt : k < n
    · have h1 : k < l.length := by rw [← HN.out]; exact hlt
      obtain ⟨b, o, rfl, _, g1, g2⟩ := HL.out.at_at h1
      replace g1 := Grow.cell hg g1
      replace g2 := Grow.cell hg g2
      have gp : Hid (0 < k → wr.cell? ⟨b, o + (k - 1) * 2, none⟩ = some (.string (l.getD (k - 1) z0).name)) := fun h0 => by
        obtain ⟨b', o', e, _, g3, _⟩ := HL.out.at_at (i := k - 1) (by omega)
        cases e
        exact Grow.cell hg g3
      have HC := fun W => Lib.hid (name_any (l.getD k z0).name W (HS.out.at k).1)
      have HF := fun W => Lib.hid (fits_any (l.getD k z0).value W)
      have hbad := bad_at l k
      have hfin : badAt l k ≠ 0 → checkA l = (k, badAt l k) := fun h => checkA_at h1 h ht.out
      have hnext : badAt l k = 0 → Hid (∀ j, j < k + 1 → badAt l j = 0) := fun h j hj => by
        rcases Nat.lt_or_ge j k with e | e
        · exact ht.out j e
        · rw [show j = k by omega]; exact h
      have hbl : Below w.heap.size w wr := hg
      have HG := Lib.hid hbl
      clear hbl hg h1 ht
      have HX := Lib.hid hfin; have HY := Lib.hid hnext
      clear hfin hnext
      generalize (l.getD k z0).name = nm at *
      generalize (l.getD k z0).value = vl at *
      generalize (l.getD (k - 1) z0).name = pn at *
      generalize badAt l k = r at *
      cases hbad with
      | many h0 =>
        have h64 : ((k : Int) == 64) = true := by simp [h0]
        clear h0 gp
        go_wp2_with (first | (go_at_call 57; refine (HC _).out.mono ?_; rintro e w' ⟨rfl, rfl⟩) | (go_at_call 48; refine (HF _).out.mono ?_; rintro e w' ⟨rfl, rfl⟩))
        go_ret2
        exact ⟨ret_pair (HX.out (by decide)), by repeat (first | exact HG.out | apply grow_drewN | apply grow_drew | apply grow_alloc)⟩
      | name h0 h2 =>
        have h64 : ((k : Int) == 64) = false := by simpa using (by omega : ¬ (k : Int) = 64)
        rw [h2] at HC
        clear h0 h2 gp
        go_wp2_with (first | (go_at_call 57; refine (HC _).out.mono ?_; rintro e w' ⟨rfl, rfl⟩) | (go_at_call 48; refine (HF _).out.mono ?_; rintro e w' ⟨rfl, rfl⟩))
        go_ret2
        exact ⟨ret_pair (HX.out (by decide)), by repeat (first | exact HG.out | apply grow_drewN | apply grow_drew | apply grow_alloc)⟩
      | long h0 h2 h3 =>
        have h64 : ((k : Int) == 64) = false := by simpa using (by omega : ¬ (k : Int) = 64)
        rw [h2] at HC
        have h3b : decide (vl.size ≤ 65536) = false := decide_eq_false (by omega)
        rw [h3b] at HF
        clear h0 h2 h3 gp h3b
        go_wp2_with (first | (go_at_call 57; refine (HC _).out.mono ?_; rintro e w' ⟨rfl, rfl⟩) | (go_at_call 48; refine (HF _).out.mono ?_; rintro e w' ⟨rfl, rfl⟩))
        go_ret2
        exact ⟨ret_pair (HX.out (by decide)), by repeat (first | exact HG.out | apply grow_drewN | apply grow_drew | apply grow_alloc)⟩
      | twice h0 h2 h3 h4 h5 =>
        have h64 : ((k : Int) == 64) = false := by simpa using (by omega : ¬ (k : Int) = 64)
        rw [h2] at HC
        have h3b : decide (vl.size ≤ 65536) = true := decide_eq_true h3
        rw [h3b] at HF
        have gpp := gp.out h4
        have gpq := (Below.heap_alloc wr (.cells #[.string nm, .string vl] 48) b (World.block_lt_of_cell? wr _ gpp))
        have gpr : (wr.alloc (.cells #[.string nm, .string vl] 48)).cell? ⟨b, o + (k - 1) * 2, none⟩ = some (.string pn) := (World.cell?_of_block gpq).trans gpp
        have gps : ∀ nn, ((wr.alloc (.cells #[.string nm, .string vl] 48)).drewN nn).cell? ⟨b, o + (k - 1) * 2, none⟩ = some (.string pn) := fun nn => gpr
        clear gpq
        have k1 : IntKind.i64.wrap ((k : Int) - 1) = (k : Int) - 1 := IntWalk.i64_in _ (by omega)
        have k2 : 0 ≤ (k : Int) - 1 := by omega
        have k3 : ((k : Int) - 1).toNat = k - 1 := by omega
        have k4 : (k : Int) - 1 < (n : Int) := by omega
        have k5 : 1 ≤ (k : Int) := by omega
        have k6 : (0 : Int) < (k : Int) := by omega
        clear h0 h2 h3 gp h3b
        go_wp2_with (first | (go_at_call 57; refine (HC _).out.mono ?_; rintro e w' ⟨rfl, rfl⟩) | (go_at_call 48; refine (HF _).out.mono ?_; rintro e w' ⟨rfl, rfl⟩))
        go_quiet (fail)
        go_wp2
        go_ret2
        exact ⟨ret_pair (HX.out (by decide)), by repeat (first | exact HG.out | apply grow_drewN | apply grow_drew | apply grow_alloc)⟩
      | order h0 h2 h3 h4 h5 h6 =>
        have h64 : ((k : Int) == 64) = false := by simpa using (by omega : ¬ (k : Int) = 64)
        rw [h2] at HC
        have h3b : decide (vl.size ≤ 65536) = true := decide_eq_true h3
        rw [h3b] at HF
        have gpp := gp.out h4
        have gpq := (Below.heap_alloc wr (.cells #[.string nm, .string vl] 48) b (World.block_lt_of_cell? wr _ gpp))
        have gpr : (wr.alloc (.cells #[.string nm, .string vl] 48)).cell? ⟨b, o + (k - 1) * 2, none⟩ = some (.string pn) := (World.cell?_of_block gpq).trans gpp
        have gps : ∀ nn, ((wr.alloc (.cells #[.string nm, .string vl] 48)).drewN nn).cell? ⟨b, o + (k - 1) * 2, none⟩ = some (.string pn) := fun nn => gpr
        clear gpq
        have k1 : IntKind.i64.wrap ((k : Int) - 1) = (k : Int) - 1 := IntWalk.i64_in _ (by omega)
        have k2 : 0 ≤ (k : Int) - 1 := by omega
        have k3 : ((k : Int) - 1).toNat = k - 1 := by omega
        have k4 : (k : Int) - 1 < (n : Int) := by omega
        have k5 : 1 ≤ (k : Int) := by omega
        have k6 : (0 : Int) < (k : Int) := by omega
        clear h0 h2 h3 gp h3b
        go_wp2_with (first | (go_at_call 57; refine (HC _).out.mono ?_; rintro e w' ⟨rfl, rfl⟩) | (go_at_call 48; refine (HF _).out.mono ?_; rintro e w' ⟨rfl, rfl⟩))
        go_quiet (fail)
        go_wp2
        go_quiet (fail)
        go_wp2
        go_ret2
        exact ⟨ret_pair (HX.out (by decide)), by repeat (first | exact HG.out | apply grow_drewN | apply grow_drew | apply grow_alloc)⟩
      | first h0 h2 h3 h4 =>
        have h64 : ((k : Int) == 64) = false := by simpa using (by omega : ¬ (k : Int) = 64)
        rw [h2] at HC
        have h3b : decide (vl.size ≤ 65536) = true := decide_eq_true h3
        rw [h3b] at HF
        have hp0 : decide (0 < k) = false := decide_eq_false (by omega)
        clear h0 h2 h3 gp h4 h3b
        go_wp2_with (first | (go_at_call 57; refine (HC _).out.mono ?_; rintro e w' ⟨rfl, rfl⟩) | (go_at_call 48; refine (HF _).out.mono ?_; rintro e w' ⟨rfl, rfl⟩))
        go_quiet (fail)
        go_wp2
        go_quiet (fail)
        go_wp2
        go_roundw
        case rel => exact ⟨k + 1, by omega, by go_num, by repeat (first | exact HG.out | apply grow_drewN | apply grow_drew | apply grow_alloc), HY.out (by first | rfl | trivial)⟩
        case measure => simp [intOf]; omega
      | fine h0 h2 h3 h4 h5 h6 =>
        have h64 : ((k : Int) == 64) = false := by simpa using (by omega : ¬ (k : Int) = 64)
        rw [h2] at HC
        have h3b : decide (vl.size ≤ 65536) = true := decide_eq_true h3
        rw [h3b] at HF
        have gpp := gp.out h4
        have gpq := (Below.heap_alloc wr (.cells #[.string nm, .string vl] 48) b (World.block_lt_of_cell? wr _ gpp))
        have gpr : (wr.alloc (.cells #[.string nm, .string vl] 48)).cell? ⟨b, o + (k - 1) * 2, none⟩ = some (.string pn) := (World.cell?_of_block gpq).trans gpp
        have gps : ∀ nn, ((wr.alloc (.cells #[.string nm, .string vl] 48)).drewN nn).cell? ⟨b, o + (k - 1) * 2, none⟩ = some (.string pn) := fun nn => gpr
        clear gpq
        have k1 : IntKind.i64.wrap ((k : Int) - 1) = (k : Int) - 1 := IntWalk.i64_in _ (by omega)
        have k2 : 0 ≤ (k : Int) - 1 := by omega
        have k3 : ((k : Int) - 1).toNat = k - 1 := by omega
        have k4 : (k : Int) - 1 < (n : Int) := by omega
        have k5 : 1 ≤ (k : Int) := by omega
        have k6 : (0 : Int) < (k : Int) := by omega
        clear h0 h2 h3 gp h3b
        go_wp2_with (first | (go_at_call 57; refine (HC _).out.mono ?_; rintro e w' ⟨rfl, rfl⟩) | (go_at_call 48; refine (HF _).out.mono ?_; rintro e w' ⟨rfl, rfl⟩))
        go_quiet (fail)
        go_wp2
        go_quiet (fail)
        go_wp2
        go_roundw
        case rel => exact ⟨k + 1, by omega, by go_num, by repeat (first | exact HG.out | apply grow_drewN | apply grow_drew | apply grow_alloc), HY.out (by first | rfl | trivial)⟩
        case measure => simp [intOf]; omega
    · have hk' : k = n := by omega
      have hfin : checkA l = (0, 0) := checkA_none fun j hj => ht.out j (by rw [hk', HN.out]; exact hj)
      have HX := Lib.hid hfin
      have hge : ¬ k < n := hlt
      have HG := Lib.hid hg
      clear hfin hk' hlt ht hg
      go_wp2
      go_ret2
      exact ⟨ret_pair HX.out, HG.out⟩

theorem cmpB_gt {a b : ByteArray} (h5 : (a.toList == b.toList) = false) (h6 : Op.bytesLess a.toList b.toList = false) : cmpB a b = 1 := by
  have := bl_tot a.toList b.toList
  rw [h5, h6] at this
  simp [cmpB, h6, this]
theorem cmpB_lt {a b : ByteArray} (h6 : Op.bytesLess a.toList b.toList = true) : cmpB a b = -1 := by simp [cmpB, h6]
theorem check_r (l : List At) (w : World) (ok : Nat → Prop) (A : Option Addr) (c : Nat) (hl : Rd EAt 2 w ok A l) (hs : SizedA l) :
    Calls Tryz.prog 61 #[.slice A l.length c] w fun e w' => e = .returned (.tuple #[.int .i64 ((checkA l).1 : Int), .int .i64 (checkA l).2]) ∧ Grow w w' := by
  obtain ⟨n, hn⟩ : ∃ n, n = l.length := ⟨_, rfl⟩
  rw [← hn]
  have hm : n ≤ 9223372036854775807 := hn ▸ hl.1
  have HN := Lib.hid hn; clear hn
  have HL := Lib.hid hl; clear hl
  have HS := Lib.hid hs; clear hs
  go_enter Tryz.func61, Tryz.ntmps61
  go_wp2
  go_loopw [7] (fun i wr => ∃ k : Nat, k ≤ n ∧ i = .int .i64 k ∧ Grow w wr ∧ Hid (∀ j, j < k → badAt l j = 0)) (fun i _ => n - (intOf i).toNat)
  case atStart => exact ⟨0, Nat.zero_le _, rfl, Below.refl _ _, fun j hj => absurd hj (by omega)⟩
  case round =>
    obtain ⟨k, hk, rfl, hg, ht⟩ := hrel
    by_cases hlt : k < n
    · have h1 : k < l.length := by rw [← HN.out]; exact hlt
      obtain ⟨b, o, rfl, _, g1, g2⟩ := HL.out.at_at h1
      replace g1 := Grow.cell hg g1
      replace g2 := Grow.cell hg g2
      have gp : Hid (0 < k → wr.cell? ⟨b, o + (k - 1) * 2, none⟩ = some (.string (l.getD (k - 1) z0).name)) := fun h0 => by
        obtain ⟨b', o', e, _, g3, _⟩ := HL.out.at_at (i := k - 1) (by omega)
        cases e
        exact Grow.cell hg g3
      have HC := fun W => Lib.hid (ref_named (l.getD k z0).name true W (HS.out.at k).1)
      have HK := fun W => compare_any (l.getD (k - 1) z0).name (l.getD k z0).name W (HS.out.at (k - 1)).1 (HS.out.at k).1
      have hbad := bad_at l k
      have hfin : badAt l k ≠ 0 → checkA l = (k, badAt l k) := fun h => checkA_at h1 h ht.out
      have hnext : badAt l k = 0 → Hid (∀ j, j < k + 1 → badAt l j = 0) := fun h j hj => by
        rcases Nat.lt_or_ge j k with e | e
        · exact ht.out j e
        · rw [show j = k by omega]; exact h
      have hbl : Below w.heap.size w wr := hg
      have HG := Lib.hid hbl
      clear hbl hg h1 ht
      have HX := Lib.hid hfin; have HY := Lib.hid hnext
      clear hfin hnext
      generalize (l.getD k z0).name = nm at *
      generalize (l.getD k z0).value = vl at *
      generalize (l.getD (k - 1) z0).name = pn at *
      generalize badAt l k = r at *
      cases hbad with
      | many h0 =>
        have h64 : ((k : Int) == 64) = true := by simp [h0]
        clear h0 gp
        go_wp2_with ((go_at_call 60; refine (HC _).out.mono ?_; rintro e w' ⟨rfl, rfl⟩))
        go_ret2
        exact ⟨ret_pair (HX.out (by decide)), by repeat (first | exact HG.out | apply grow_drewN | apply grow_drew | apply grow_alloc)⟩
      | name h0 h2 =>
        have h64 : ((k : Int) == 64) = false := by simpa using (by omega : ¬ (k : Int) = 64)
        rw [h2] at HC
        clear h0 h2 gp
        go_wp2_with ((go_at_call 60; refine (HC _).out.mono ?_; rintro e w' ⟨rfl, rfl⟩))
        go_ret2
        exact ⟨ret_pair (HX.out (by decide)), by repeat (first | exact HG.out | apply grow_drewN | apply grow_drew | apply grow_alloc)⟩
      | long h0 h2 h3 =>
        have h64 : ((k : Int) == 64) = false := by simpa using (by omega : ¬ (k : Int) = 64)
        rw [h2] at HC
        have h3b : 65536 < (vl.size : Int) := by omega
        clear h0 h2 h3 gp
        go_wp2_with ((go_at_call 60; refine (HC _).out.mono ?_; rintro e w' ⟨rfl, rfl⟩))
        go_ret2
        exact ⟨ret_pair (HX.out (by decide)), by repeat (first | exact HG.out | apply grow_drewN | apply grow_drew | apply grow_alloc)⟩
      | twice h0 h2 h3 h4 h5 =>
        have h64 : ((k : Int) == 64) = false := by simpa using (by omega : ¬ (k : Int) = 64)
        rw [h2] at HC
        have h3b : (vl.size : Int) ≤ 65536 := by omega
        have gpp := gp.out h4
        have k1 : IntKind.i64.wrap ((k : Int) - 1) = (k : Int) - 1 := IntWalk.i64_in _ (by omega)
        have k2 : 0 ≤ (k : Int) - 1 := by omega
        have k3 : ((k : Int) - 1).toNat = k - 1 := by omega
        have k4 : (k : Int) - 1 < (n : Int) := by omega
        have k5 : 1 ≤ (k : Int) := by omega
        have k6 : (0 : Int) < (k : Int) := by omega
        clear h0 h2 h3 gp
        go_wp2_with ((go_at_call 60; refine (HC _).out.mono ?_; rintro e w' ⟨rfl, rfl⟩))
        go_quiet (fail)
        go_wp2
        go_ret2
        exact ⟨ret_pair (HX.out (by decide)), by repeat (first | exact HG.out | apply grow_drewN | apply grow_drew | apply grow_alloc)⟩
      | order h0 h2 h3 h4 h5 h6 =>
        have h64 : ((k : Int) == 64) = false := by simpa using (by omega : ¬ (k : Int) = 64)
        rw [h2] at HC
        have h3b : (vl.size : Int) ≤ 65536 := by omega
        have gpp := gp.out h4
        have k1 : IntKind.i64.wrap ((k : Int) - 1) = (k : Int) - 1 := IntWalk.i64_in _ (by omega)
        have k2 : 0 ≤ (k : Int) - 1 := by omega
        have k3 : ((k : Int) - 1).toNat = k - 1 := by omega
        have k4 : (k : Int) - 1 < (n : Int) := by omega
        have k5 : 1 ≤ (k : Int) := by omega
        have k6 : (0 : Int) < (k : Int) := by omega
        rw [show cmpB pn nm = 1 from cmpB_gt h5 h6] at HK
        clear h0 h2 h3 gp
        go_wp2_with ((go_at_call 60; refine (HC _).out.mono ?_; rintro e w' ⟨rfl, rfl⟩))
        go_quiet (fail)
        go_wp2
        go_quiet (((go_at_call 90; exact quiet2 (HK _))))
        go_wp2
        go_ret2
        exact ⟨ret_pair (HX.out (by decide)), by repeat (first | exact HG.out | apply grow_drewN | apply grow_drew | apply grow_alloc)⟩
      | first h0 h2 h3 h4 =>
        have h64 : ((k : Int) == 64) = false := by simpa using (by omega : ¬ (k : Int) = 64)
        rw [h2] at HC
        have h3b : (vl.size : Int) ≤ 65536 := by omega
        have hp0 : decide (0 < k) = false := decide_eq_false (by omega)
        clear h0 h2 h3 gp h4
        go_wp2_with ((go_at_call 60; refine (HC _).out.mono ?_; rintro e w' ⟨rfl, rfl⟩))
        go_quiet (fail)
        go_wp2
        go_quiet (fail)
        go_wp2
        go_roundw
        case rel => exact ⟨k + 1, by omega, by go_num, by repeat (first | exact HG.out | apply grow_drewN | apply grow_drew | apply grow_alloc), HY.out (by first | rfl | trivial)⟩
        case measure => simp [intOf]; omega
      | fine h0 h2 h3 h4 h5 h6 =>
        have h64 : ((k : Int) == 64) = false := by simpa using (by omega : ¬ (k : Int) = 64)
        rw [h2] at HC
        have h3b : (vl.size : Int) ≤ 65536 := by omega
        have gpp := gp.out h4
        have k1 : IntKind.i64.wrap ((k : Int) - 1) = (k : Int) - 1 := IntWalk.i64_in _ (by omega)
        have k2 : 0 ≤ (k : Int) - 1 := by omega
        have k3 : ((k : Int) - 1).toNat = k - 1 := by omega
        have k4 : (k : Int) - 1 < (n : Int) := by omega
        have k5 : 1 ≤ (k : Int) := by omega
        have k6 : (0 : Int) < (k : Int) := by omega
        rw [show cmpB pn nm = -1 from cmpB_lt h6] at HK
        clear h0 h2 h3 gp
        go_wp2_with ((go_at_call 60; refine (HC _).out.mono ?_; rintro e w' ⟨rfl, rfl⟩))
        go_quiet (fail)
        go_wp2
        go_quiet (((go_at_call 90; exact quiet2 (HK _))))
        go_wp2
        go_roundw
        case rel => exact ⟨k + 1, by omega, by go_num, by repeat (first | exact HG.out | apply grow_drewN | apply grow_drew | apply grow_alloc), HY.out (by first | rfl | trivial)⟩
        case measure => simp [intOf]; omega
    · have hk' : k = n := by omega
      have hfin : checkA l = (0, 0) := checkA_none fun j hj => ht.out j (by rw [hk', HN.out]; exact hj)
      have HX := Lib.hid hfin
      have hge : ¬ k < n := hlt
      have HG := Lib.hid hg
      clear hfin hk' hlt ht hg
      go_wp2
      go_ret2
      exact ⟨ret_pair HX.out, HG.out⟩
end Go.Proofs.YtacobpmmpdadpaaGreat
