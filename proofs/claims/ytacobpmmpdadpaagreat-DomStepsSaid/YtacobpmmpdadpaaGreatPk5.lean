/- How the program's document lies in memory. Going through those below a node from the first to the next; what is below a node, by its kids. Place and Drop over the items of a document. The program's document: what is looked up, and Insert and Move. The program's document: Set, Del, Text, Move. The program's document: Move. The program's document: Remove. The program's document: Remove, whole. How many entries the document's map has; a store into it. The program's document: Create. The program's document: Create, where nothing bars it. -/
import Derived.Test.YtacobpmmpdadpaaGreatPk4
import Derived.Test.YtacobpmmpdadpaaGreatPk3
import Derived.Maps.OwnSet
import Derived.Maps.RangeWalk
import Derived.Test.YtacobpmmpdadpaaGreatPk2
import Derived.Deep.RegionLaw
import Derived.Laws.EntriesVeiled
set_option linter.unusedVariables false
set_option linter.unusedSimpArgs false
namespace Go.Proofs.YtacobpmmpdadpaaGreat
open Go.RowKit Doc
/-- How a map's element, a pointer, is told: by its block. -/
def dE (v : Value) : Option (DataW Unit × List MemPlace) :=
  match v with
  | .pointer none => some (.nil, [])
  | .pointer (some ⟨b, 0, none⟩) => some (.lit (.int .i64 b), [])
  | _ => none
theorem dE_at (b : Nat) : dE (.pointer (some ⟨b, 0, none⟩)) = some (.lit (.int .i64 b), []) := rfl
theorem dE_inv {v : Value} {z : DataW Unit × List MemPlace} (h : dE v = some z) : (v = .pointer none ∧ z = (.nil, [])) ∨ ∃ b : Nat, v = .pointer (some ⟨b, 0, none⟩) ∧ z = (.lit (.int .i64 b), []) := by
  unfold dE at h
  split at h
  · cases h; exact .inl ⟨rfl, rfl⟩
  · cases h; exact .inr ⟨_, rfl, rfl⟩
  · cases h
theorem dE_nil_inv {v : Value} {ps : List MemPlace} (h : dE v = some (.nil, ps)) : v = .pointer none := by
  rcases dE_inv h with ⟨rfl, _⟩ | ⟨b, rfl, e⟩
  · rfl
  · cases e
theorem dE_at_inv {v : Value} {b : Nat} {ps : List MemPlace} (h : dE v = some (.lit (.int .i64 b), ps)) : v = .pointer (some ⟨b, 0, none⟩) := by
  rcases dE_inv h with ⟨rfl, e⟩ | ⟨c, rfl, e⟩
  · cases e
  · simp only [Prod.mk.injEq, DataW.lit.injEq, Lit.int.injEq] at e
    have : b = c := by omega
    rw [this]
theorem lawI : Maps.Keyed Tryz.prog 3 := Maps.int_keyed Tryz.underlying3
theorem zeroN (w : World) : (zeroValue 55).run Tryz.prog w = .ok (.pointer none) w := by kernel_rfl
theorem keyI {x : Int} (h : (Lit.int .i64 x).wf = true) : keyOf Tryz.prog 3 (.int .i64 x) = some (.int .i64 x) := Maps.keyOf_int_mk Tryz.underlying3 h

/-- The map has the IDs in S, each with its node's block. -/
structure MapIs (D : DataW Unit) (S : Int → Prop) (nb : Int → Nat) : Prop where
  at_ : ∀ x, S x → D.atKey (.int .i64 x) .nil = .lit (.int .i64 (nb x))
  no : ∀ x, ¬ S x → D.atKey (.int .i64 x) .nil = .nil
  has_ : ∀ x, Maps.has D (.int .i64 x) = true ↔ S x
theorem keyNe {x y : Int} (h : x ≠ y) : (Lit.int .i64 x) ≠ .int .i64 y := fun e => h (by injection e)
theorem MapIs.put {D : DataW Unit} {S : Int → Prop} {nb nb' : Int → Nat} (h : MapIs D S nb) (hD : Maps.IsMap D) {x : Int} {b : Nat} (hx : nb' x = b) (hn : ∀ m, S m → m ≠ x → nb' m = nb m) :
    MapIs (D.put (.int .i64 x) (.lit (.int .i64 b))) (fun m => m = x ∨ S m) nb' := by
  refine ⟨fun m hm => ?_, fun m hm => ?_, fun m => ?_⟩
  · by_cases e : m = x
    · subst e
      rw [Maps.atKey_put_same (k := .int .i64 m) hD trivial, hx]
    · rw [Maps.atKey_put_other (keyNe e), h.at_ m (hm.resolve_left e), hn m (hm.resolve_left e) e]
  · have e : m ≠ x := fun e => hm (.inl e)
    rw [Maps.atKey_put_other (keyNe e), h.no m (fun h' => hm (.inr h'))]
  · by_cases e : m = x
    · subst e
      simp [Maps.has_put_same hD (k := .int .i64 m) trivial]
    · rw [Maps.has_put_other (keyNe e), h.has_ m]
      simp [e]
theorem MapIs.del {D : DataW Unit} {S : Int → Prop} {nb : Int → Nat} (h : MapIs D S nb) (x : Int) : MapIs (D.del (.int .i64 x)) (fun m => S m ∧ m ≠ x) nb := by
  refine ⟨fun m hm => ?_, fun m hm => ?_, fun m => ?_⟩
  · rw [Maps.atKey_del_other (keyNe hm.2), h.at_ m hm.1]
  · by_cases e : m = x
    · subst e; rw [Maps.atKey_del_same]
    · rw [Maps.atKey_del_other (keyNe e), h.no m (fun h' => hm ⟨h', e⟩)]
  · by_cases e : m = x
    · subst e; simp [Maps.has_del_same]
    · rw [Maps.has_del_other (keyNe e), h.has_ m]; simp [e]
theorem MapIs.congr {D : DataW Unit} {S S' : Int → Prop} {nb nb' : Int → Nat} (h : MapIs D S nb) (hs : ∀ m, S m ↔ S' m) (hn : ∀ m, S m → nb' m = nb m) : MapIs D S' nb' :=
  ⟨fun m hm => by rw [h.at_ m ((hs m).2 hm), hn m ((hs m).2 hm)], fun m hm => h.no m (fun h' => hm ((hs m).1 h')), fun m => (h.has_ m).trans (hs m)⟩

/-- A node: its item, and what it has. -/
def NodeAt (w0 w : World) (b i : Nat) (n : Nd) : Prop := ∃ A c, w.heap[b]? = some (.cells #[.pointer (some ⟨i, 0, none⟩), .string n.tag, .string n.key, .string n.text, .slice A n.attrs.length c] 59 (0, 0)) ∧
  RdV EAt 2 w (Imm w0.heap.size tsA w) (.slice A n.attrs.length c) n.attrs
structure DomRep (w0 w : World) (db mb : Nat) (nb ib : Int → Nat) (D : DataW Unit) (d : Doc) : Prop where
  lo : w0.heap.size ≤ db
  lom : w0.heap.size ≤ mb
  lon : ∀ x, d.has x → w0.heap.size ≤ nb x
  loi : ∀ x, d.has x → w0.heap.size ≤ ib x
  hd : w.heap[db]? = some (.cells #[.map (some mb), .int .i64 d.next] 62 (0, 0))
  map : ∃ n, n ≤ 1000000000000 ∧ w.ownsMap Tryz.prog 3 dE mb n D
  is_ : MapIs D d.has nb
  nodes : ∀ x n, d.get x = some n → NodeAt w0 w (nb x) (ib x) n
  inj : ∀ x y, d.has x → d.has y → nb x = nb y → x = y
  items : Items w ib d.lk d.has
def DAt (w0 w : World) (db : Nat) (d : Doc) : Prop := ∃ mb nb ib D, DomRep w0 w db mb nb ib D d
def DStep (w0 w : World) (db : Nat) (d' : Doc) (v : Value) (e : Ending) (w' : World) : Prop := e = .returned v ∧ DAt w0 w' db d' ∧ Fr w0.heap.size tsD w w'

theorem ownsMap_of {w w' : World} {b n : Nat} {D : DataW Unit} (h : w.ownsMap Tryz.prog 3 dE b n D) (hh : w'.heap[b]? = w.heap[b]?) : w'.ownsMap Tryz.prog 3 dE b n D := by
  obtain ⟨es, clock, h1, h2⟩ := h
  exact ⟨es, clock, hh.trans h1, h2⟩
theorem NodeAt.fr {w0 w w' : World} {b i : Nat} {n : Nd} {ts : List Nat} (h : NodeAt w0 w b i n) (hf : Fr w0.heap.size ts w w') (ht : ∀ t, t ∈ ts → t ∈ tsA) (hb : w'.heap[b]? = w.heap[b]?) : NodeAt w0 w' b i n := by
  obtain ⟨A, c, h1, h2⟩ := h
  exact ⟨A, c, hb.trans h1, h2.fr hf ht⟩
section
variable {w0 w : World} {db mb : Nat} {nb ib : Int → Nat} {D : DataW Unit} {d : Doc}
theorem DomRep.hasOf (h : DomRep w0 w db mb nb ib D d) {x : Int} (hx : d.has x) : ∃ n, d.get x = some n ∧ NodeAt w0 w (nb x) (ib x) n := by
  obtain ⟨n, hn⟩ := Doc.has_iff.1 hx
  exact ⟨n, hn, h.nodes x n hn⟩
theorem DomRep.fr {w' : World} {ts : List Nat} (h : DomRep w0 w db mb nb ib D d) (hf : Fr w0.heap.size ts w w') (ht : ∀ t, t ∈ ts → t ∈ tsR) : DomRep w0 w' db mb nb ib D d := by
  have keep : ∀ (b : Nat) (o : Obj), w.heap[b]? = some o → tyo o ∉ tsR → w'.heap[b]? = w.heap[b]? := fun b o ho hn =>
    hf.keep b ⟨(Array.getElem?_eq_some_iff.1 ho).1, .inr ⟨o, ho, fun hm => hn (ht _ hm)⟩⟩
  obtain ⟨n, hn, hm⟩ := h.map
  refine ⟨h.lo, h.lom, h.lon, h.loi, (keep _ _ h.hd (by simp [tyo, tsR])).trans h.hd, ⟨n, hn, ownsMap_of hm ?_⟩, h.is_, fun x n hx => ?_, h.inj, ⟨h.items.nn, h.items.inj, fun n hn => (keep _ _ (h.items.cells n hn) (by simp [tyo, tsR])).trans (h.items.cells n hn), h.items.cl⟩⟩
  · obtain ⟨es, clock, h1, _⟩ := hm
    exact keep _ _ h1 (by simp [tyo, tsR])
  · obtain ⟨A, c, h1, h2⟩ := h.nodes x n hx
    exact NodeAt.fr ⟨A, c, h1, h2⟩ hf (fun t h' => tsR_A t (ht t h')) (keep _ _ h1 (by simp [tyo, tsR]))
theorem DomRep.grow {w' : World} (h : DomRep w0 w db mb nb ib D d) (hf : Grow w w') : DomRep w0 w' db mb nb ib D d := h.fr (Fr.of_grow (ts := []) hf) (fun t ht => by cases ht)
theorem DAt.fr {w' : World} {ts : List Nat} (h : DAt w0 w db d) (hf : Fr w0.heap.size ts w w') (ht : ∀ t, t ∈ ts → t ∈ tsR) : DAt w0 w' db d := by
  obtain ⟨mb, nb, ib, D, h⟩ := h
  exact ⟨mb, nb, ib, D, h.fr hf ht⟩
theorem DAt.grow {w' : World} (h : DAt w0 w db d) (hf : Grow w w') : DAt w0 w' db d := h.fr (Fr.of_grow (ts := []) hf) (fun t ht => by cases ht)
theorem DomRep.p0 (h : DomRep w0 w db mb nb ib D d) : w.cell? ⟨db, 0, none⟩ = some (.map (some mb)) := by simp [World.cell?, h.hd]
theorem DomRep.p1 (h : DomRep w0 w db mb nb ib D d) : w.cell? ⟨db, 1, none⟩ = some (.int .i64 d.next) := by simp [World.cell?, h.hd]
theorem DomRep.f1 (h : DomRep w0 w db mb nb ib D d) : w.frozen? ⟨db, 1, none⟩ = false := by simp [World.frozen?, h.hd]
/-- What a look at the map gives. -/
theorem DomRep.look (h : DomRep w0 w db mb nb ib D d) {x : Int} (hx : (Lit.int .i64 x).wf = true) (hh : d.has x) : (Instr.lookup 60 (.map (some mb)) (.int .i64 x) false).run Tryz.prog w = .ok (.pointer (some ⟨nb x, 0, none⟩)) w := by
  obtain ⟨n, _, hm⟩ := h.map
  obtain ⟨v, ps, hrun, hv⟩ := hm.lookup lawI Tryz.underlying60 (zeroN w) (zd := .nil) (zp := []) rfl (keyI hx)
  rw [h.is_.at_ x hh] at hv
  rw [hrun, dE_at_inv hv]
theorem DomRep.look_no (h : DomRep w0 w db mb nb ib D d) {x : Int} (hx : (Lit.int .i64 x).wf = true) (hh : ¬ d.has x) : (Instr.lookup 60 (.map (some mb)) (.int .i64 x) false).run Tryz.prog w = .ok (.pointer none) w := by
  obtain ⟨n, _, hm⟩ := h.map
  obtain ⟨v, ps, hrun, hv⟩ := hm.lookup lawI Tryz.underlying60 (zeroN w) (zd := .nil) (zp := []) rfl (keyI hx)
  rw [h.is_.no x hh] at hv
  rw [hrun, dE_nil_inv hv]
/-- Blocks of two kinds are two. -/
theorem DomRep.nb_ib (h : DomRep w0 w db mb nb ib D d) {x y : Int} (hx : d.has x) (hy : d.has y) : nb x ≠ ib y := fun e => by
  obtain ⟨n, _, A, c, h1, _⟩ := h.hasOf hx
  have h2 := h.items.cells y hy
  rw [e, h2] at h1
  injection h1 with h1
  injection h1 with _ h1 _
  revert h1; decide
theorem DomRep.nb_db (h : DomRep w0 w db mb nb ib D d) {x : Int} (hx : d.has x) : nb x ≠ db := fun e => by
  obtain ⟨n, _, A, c, h1, _⟩ := h.hasOf hx
  have h2 := h.hd
  rw [e, h2] at h1
  injection h1 with h1
  injection h1 with _ h1 _
  revert h1; decide
theorem DomRep.ib_db (h : DomRep w0 w db mb nb ib D d) {x : Int} (hx : d.has x) : ib x ≠ db := fun e => by
  have h1 := h.items.cells x hx
  have h2 := h.hd
  rw [e, h2] at h1
  injection h1 with h1
  injection h1 with _ h1 _
  revert h1; decide
theorem DomRep.mb_ne (h : DomRep w0 w db mb nb ib D d) {b : Nat} {cs : Array Value} {t : TypeId} {fr : Nat × Nat} (hb : w.heap[b]? = some (.cells cs t fr)) : b ≠ mb := fun e => by
  obtain ⟨n, _, es, clock, h1, _⟩ := h.map
  rw [e, h1] at hb
  cases hb
/-- Only items' blocks were written. -/
theorem OnlyItems.fr {w' : World} {base : Nat} {S : Int → Prop} {L : Int → Lk} (h : OnlyItems w w' ib S) (hi : Items w ib L S) (hb : ∀ x, S x → base ≤ ib x) : Fr base tsD w w' := by
  refine ⟨h.1, h.2.1, h.2.2.1, by rw [h.2.2.2.1]; exact Nat.le_refl _, fun b hk => h.2.2.2.2 b fun n hn e => ?_⟩
  subst e
  rcases hk.2 with h1 | ⟨o, h1, h2⟩
  · have := hb n hn; omega
  · rw [hi.cells n hn] at h1
    cases h1
    exact h2 (by simp [tyo, tsD])
/-- The links alone have turned. -/
theorem DomRep.relink {w' : World} {d' : Doc} (h : DomRep w0 w db mb nb ib D d) (hnext : d'.next = d.next) (hget : ∀ x n', d'.get x = some n' → ∃ n, d.get x = some n ∧ n'.tag = n.tag ∧ n'.key = n.key ∧ n'.text = n.text ∧ n'.attrs = n.attrs)
    (hhas : ∀ x, d'.has x ↔ d.has x) (L : Int → Lk) (hl : Linked w ib d.has L w') (hL : ∀ x, d.has x → d'.lk x = L x) : DomRep w0 w' db mb nb ib D d' ∧ Fr w0.heap.size tsD w w' := by
  have hf := OnlyItems.fr hl.2 h.items h.loi
  obtain ⟨n, hn, hm⟩ := h.map
  obtain ⟨es, clock, hm1, hm2⟩ := hm
  refine ⟨⟨h.lo, h.lom, fun x hx => h.lon x ((hhas x).1 hx), fun x hx => h.loi x ((hhas x).1 hx), ?_, ⟨n, hn, ownsMap_of ⟨es, clock, hm1, hm2⟩ ?_⟩, h.is_.congr (fun m => (hhas m).symm) (fun _ _ => rfl), fun x n' hx => ?_, fun x y hx hy => h.inj x y ((hhas x).1 hx) ((hhas y).1 hy), ⟨fun m hm => hl.1.nn m ((hhas m).1 hm), fun a b ha hb => hl.1.inj a b ((hhas a).1 ha) ((hhas b).1 hb), fun m hm => ?_, fun m hm => ?_⟩⟩, hf⟩
  · rw [hnext, hl.2.2.2.2.2 db fun n hn e => (h.ib_db hn) e.symm]; exact h.hd
  · exact hl.2.2.2.2.2 mb fun n hn e => h.mb_ne (h.items.cells n hn) e.symm
  · obtain ⟨n, hn1, e1, e2, e3, e4⟩ := hget x n' hx
    have hx' : d.has x := Doc.has_iff.2 ⟨n, hn1⟩
    obtain ⟨A, c, h1, h2⟩ := h.nodes x n hn1
    have h3 : w'.heap[nb x]? = w.heap[nb x]? := hl.2.2.2.2.2 (nb x) fun m hm e => h.nb_ib hx' hm e
    have := NodeAt.fr ⟨A, c, h1, h2⟩ hf tsD_A h3
    obtain ⟨A, c, h4, h5⟩ := this
    exact ⟨A, c, by rw [e1, e2, e3, e4]; exact h4, by rw [e4]; exact h5⟩
  · have h' := (hhas m).1 hm
    rw [hl.1.cells m h', hL m h']
  · have h' := (hhas m).1 hm
    have := hl.1.cl m h'
    rw [hL m h']
    simp only [hhas]
    exact this
/-- A cell of a node was written. -/
theorem DomRep.setN (h : DomRep w0 w db mb nb ib D d) {id : Int} {n : Nd} (hid : d.get id = some n) (f : Nd → Nd) (hf : ∀ n, (f n).id = n.id) (hu : ∀ n, (f n).up = n.up) (hk : ∀ n, (f n).kids = n.kids) (k : Nat) (v : Value)
    (hc : ∀ A c, w.heap[nb id]? = some (.cells #[.pointer (some ⟨ib id, 0, none⟩), .string n.tag, .string n.key, .string n.text, .slice A n.attrs.length c] 59 (0, 0)) → RdV EAt 2 w (Imm w0.heap.size tsA w) (.slice A n.attrs.length c) n.attrs →
      ∃ A' c', (#[.pointer (some ⟨ib id, 0, none⟩), .string n.tag, .string n.key, .string n.text, .slice A n.attrs.length c] : Array Value).setIfInBounds k v = #[.pointer (some ⟨ib id, 0, none⟩), .string (f n).tag, .string (f n).key, .string (f n).text, .slice A' (f n).attrs.length c'] ∧ RdV EAt 2 w (Imm w0.heap.size tsA w) (.slice A' (f n).attrs.length c') (f n).attrs) :
    DomRep w0 (w.setCell ⟨nb id, k, none⟩ v) db mb nb ib D (d.mod id f) ∧ Fr w0.heap.size tsD w (w.setCell ⟨nb id, k, none⟩ v) := by
  have hh : d.has id := Doc.has_iff.2 ⟨n, hid⟩
  obtain ⟨A, c, h1, h2⟩ := h.nodes id n hid
  obtain ⟨A', c', h3, h4⟩ := hc A c h1 h2
  have hfr : Fr w0.heap.size tsD w (w.setCell ⟨nb id, k, none⟩ v) := (Fr.refl _ _ _).setCell v (h.lon id hh) h1 (by simp [tyo, tsD])
  have hhas : ∀ m, (d.mod id f).has m ↔ d.has m := fun m => Doc.has_mod hf m
  obtain ⟨q, hq, hm⟩ := h.map
  have hoth : ∀ b, b ≠ nb id → (w.setCell ⟨nb id, k, none⟩ v).heap[b]? = w.heap[b]? := fun b hb => heap_setCell_other _ _ _ _ hb
  refine ⟨⟨h.lo, h.lom, fun x hx => h.lon x ((hhas x).1 hx), fun x hx => h.loi x ((hhas x).1 hx), ?_, ⟨q, hq, ownsMap_of hm ?_⟩, h.is_.congr (fun m => (hhas m).symm) (fun _ _ => rfl), fun x n' hx => ?_, fun x y hx hy => h.inj x y ((hhas x).1 hx) ((hhas y).1 hy), ⟨fun m hm => h.items.nn m ((hhas m).1 hm), fun a b ha hb => h.items.inj a b ((hhas a).1 ha) ((hhas b).1 hb), fun m hm => ?_, fun m hm => ?_⟩⟩, hfr⟩
  · rw [hoth db (h.nb_db hh).symm]; exact h.hd
  · exact hoth mb (h.mb_ne h1).symm
  · rw [Doc.get_mod hf] at hx
    obtain ⟨n0, hn0, e⟩ := Option.map_eq_some_iff.1 hx
    have hx0 : n0.id = x := Doc.get_id hn0
    by_cases e' : x = id
    · subst e'
      rw [hid] at hn0
      cases hn0
      rw [if_pos hx0] at e
      subst e
      refine ⟨A', c', ?_, h4.fr hfr tsD_A⟩
      rw [heap_setCell_same w (nb x) k _ _ v h1, h3]
    · rw [if_neg (by rw [hx0]; exact e')] at e
      subst e
      exact (h.nodes x n0 hn0).fr hfr tsD_A (hoth _ fun e2 => e' (h.inj x id (Doc.has_iff.2 ⟨_, hn0⟩) hh e2))
  · have h' := (hhas m).1 hm
    rw [hoth _ (h.nb_ib hh h').symm, h.items.cells m h', Doc.own_lk hf hu hk]
  · have h' := (hhas m).1 hm
    have := h.items.cl m h'
    rw [Doc.own_lk hf hu hk]
    simp only [hhas]
    exact this
theorem DStep.same (h : DomRep w0 w db mb nb ib D d) (v : Value) {W : World} (hW : Grow w W) : DStep w0 w db d v (.returned v) W := ⟨rfl, ⟨mb, nb, ib, D, h.grow hW⟩, Fr.of_grow hW⟩
end
end Go.Proofs.YtacobpmmpdadpaaGreat
set_option linter.unusedVariables false
set_option linter.unusedSimpArgs false
namespace Go.Proofs.YtacobpmmpdadpaaGreat
theorem split_at {l : List Int} {j : Nat} (hj : j < l.length) : l = l.take j ++ l.getD j 0 :: l.drop (j + 1) := by
  rw [List.getD_eq_getElem?_getD, List.getElem?_eq_getElem hj, Option.getD_some, ← List.drop_eq_getElem_cons hj, List.take_append_drop]
theorem next_index {l : List Int} (hl : l.Nodup) {j : Nat} (hj : j < l.length) : nextIn l (l.getD j 0) = if j + 1 < l.length then l.getD (j + 1) 0 else -1 := by
  have hs := split_at hj
  have hn := hl
  rw [hs] at hn
  obtain ⟨h1, h2, _⟩ := nodup_split hn
  conv => lhs; rw [hs]
  have e : (l.take j ++ l.getD j 0 :: l.drop (j + 1)).getD j 0 = l.getD j 0 := by rw [← hs]
  rw [e, nextIn_at _ _ _ h1]
  split
  · next h => rw [List.drop_eq_getElem_cons h]; simp [List.getD_eq_getElem?_getD, List.getElem?_eq_getElem h]
  · next h => rw [List.drop_eq_nil_of_le (by omega)]; rfl
theorem prev_index {l : List Int} (hl : l.Nodup) {j : Nat} (hj : j < l.length) : prevIn l (l.getD j 0) = if 0 < j then l.getD (j - 1) 0 else -1 := by
  have hs := split_at hj
  have hn := hl
  rw [hs] at hn
  obtain ⟨h1, h2, _⟩ := nodup_split hn
  conv => lhs; rw [hs]
  have e : (l.take j ++ l.getD j 0 :: l.drop (j + 1)).getD j 0 = l.getD j 0 := by rw [← hs]
  rw [e, prevIn_at _ _ _ h1 h2]
  split
  · next h =>
    have hk : j - 1 < l.length := by omega
    rw [show j = j - 1 + 1 by omega, take_snoc l 0 hk]
    simp
  · next h => rw [show j = 0 by omega]; rfl
/-- The one at a place, -1 behind all. -/
def kidAt (l : List Int) (j : Nat) : Int := if j < l.length then l.getD j 0 else -1
theorem kidAt_lt {l : List Int} {j : Nat} (h : j < l.length) : kidAt l j = l.getD j 0 := if_pos h
theorem kidAt_end {l : List Int} {j : Nat} (h : l.length ≤ j) : kidAt l j = -1 := if_neg (by omega)
theorem kidAt_mem {l : List Int} {j : Nat} (h : j < l.length) : kidAt l j ∈ l := by
  rw [kidAt_lt h, List.getD_eq_getElem?_getD, List.getElem?_eq_getElem h]; exact List.getElem_mem h
theorem headD_kidAt (l : List Int) : l.headD (-1) = kidAt l 0 := by cases l <;> rfl
theorem next_kidAt {l : List Int} (hl : l.Nodup) {j : Nat} (hj : j < l.length) : nextIn l (kidAt l j) = kidAt l (j + 1) := by
  rw [kidAt_lt hj, next_index hl hj]; rfl
namespace Doc
variable {d : Doc}
theorem first_kid (x : Int) : (d.lk x).first = kidAt (d.kidsOf x) 0 := headD_kidAt _
theorem next_kid (hw : d.WF) {x : Int} (hx : d.has x) {j : Nat} (hj : j < (d.kidsOf x).length) : (d.lk (kidAt (d.kidsOf x) j)).next = kidAt (d.kidsOf x) (j + 1) := by
  have h := ((hw.kid x _ hx).1 (kidAt_mem hj)).2
  show nextIn (d.kidsOf (d.upOf (kidAt (d.kidsOf x) j))) (kidAt (d.kidsOf x) j) = _
  rw [h]
  exact next_kidAt (hw.nodup x) hj
theorem kid_has (hw : d.WF) {x : Int} (hx : d.has x) {j : Nat} (hj : j < (d.kidsOf x).length) : d.has (kidAt (d.kidsOf x) j) ∧ d.upOf (kidAt (d.kidsOf x) j) = x := (hw.kid x _ hx).1 (kidAt_mem hj)
theorem anc_kid (hw : d.WF) {m x : Int} (hx : d.has x) (h : d.Anc m x) (hne : m ≠ x) : ∃ c ∈ d.kidsOf x, d.Anc m c := by
  obtain ⟨k, hk⟩ := h
  cases k with
  | zero => exact absurd hk hne
  | succ k =>
    have hk' : d.upOf (d.climbU m k) = x := hk
    have hx0 := hw.nn hx
    have hc : d.has (d.climbU m k) := by
      by_cases e : d.has (d.climbU m k)
      · exact e
      · rw [upOf_none e] at hk'; omega
    exact ⟨_, (hw.kid x _ hx).2 ⟨hc, hk'⟩, k, rfl⟩
theorem kid_anc (hw : d.WF) {m x c : Int} (hx : d.has x) (hc : c ∈ d.kidsOf x) (h : d.Anc m c) : d.Anc m x := by
  have := ((hw.kid x c hx).1 hc).2
  exact this ▸ h.up
end Doc
end Go.Proofs.YtacobpmmpdadpaaGreat
set_option linter.unusedVariables false
set_option linter.unusedSimpArgs false
namespace Go.Proofs.YtacobpmmpdadpaaGreat
open Go.RowKit Doc
open Classical in
/-- What Place answers. -/
noncomputable def placeC (d : Doc) (up id before : Int) : Int := if d.upOf id ≠ -1 then 15 else if d.Anc up id then 17 else if before ≠ 0 ∧ d.upOf before ≠ up then 18 else 0
def PlacePost (w : World) (ib : Int → Nat) (d : Doc) (up id before : Int) (e : Ending) (w' : World) : Prop :=
  e = .returned (.int .i64 (placeC d up id before)) ∧ (placeC d up id before ≠ 0 ∧ w = w' ∨ placeC d up id before = 0 ∧ Linked w ib d.has (placeL d.lk up id (if before = 0 then -1 else before)) w')
/-- The item ahead of which another one is put; of 0: none. -/
def befV (ib : Int → Nat) (before : Int) : Value := if before = 0 then .pointer none else .pointer (some ⟨ib before, 0, none⟩)
section
variable {w : World} {ib : Int → Nat} {d : Doc}
theorem last_ne (hw : d.WF) {x p : Int} (hx : d.has x) (hp : (d.lk x).last = p) (hp1 : p ≠ -1) : p ∈ d.kidsOf x := by
  have h : (d.kidsOf x).getLastD (-1) = p := hp
  rcases Classical.em (d.kidsOf x = []) with e | e
  · rw [e] at h; exact absurd h.symm hp1
  · rw [← h]; exact getLastD_mem _ e
theorem nodup_inj {s : List Int} (hs : s.Nodup) {i j : Nat} (hi : i < s.length) (hj : j < s.length) (e : s[i] = s[j]) : i = j := by
  rcases Nat.lt_trichotomy i j with h | h | h
  · exact absurd e (List.pairwise_iff_getElem.1 hs i j hi hj h)
  · exact h
  · exact absurd e.symm (List.pairwise_iff_getElem.1 hs j i hj hi h)
theorem prev_ne_self {s : List Int} (hs : s.Nodup) (h0 : ∀ a, a ∈ s → 0 ≤ a) {b : Int} (hb : b ∈ s) : prevIn s b ≠ b := by
  obtain ⟨j, hj, e⟩ := List.getElem_of_mem hb
  have e2 : s.getD j 0 = b := by rw [List.getD_eq_getElem?_getD, List.getElem?_eq_getElem hj]; exact e
  rw [← e2, prev_index hs hj]
  split
  · next h =>
    intro e3
    rw [List.getD_eq_getElem?_getD, List.getElem?_eq_getElem (show j - 1 < s.length by omega), List.getD_eq_getElem?_getD, List.getElem?_eq_getElem hj] at e3
    simp only [Option.getD_some] at e3
    have := nodup_inj hs _ _ e3
    omega
  · intro e3
    have := h0 b hb
    omega
theorem prev_ne_next {s : List Int} (hs : s.Nodup) (h0 : ∀ a, a ∈ s → 0 ≤ a) {b : Int} (hb : b ∈ s) (hp : prevIn s b ≠ -1) : prevIn s b ≠ nextIn s b ∧ nextIn s b ≠ b := by
  obtain ⟨j, hj, e⟩ := List.getElem_of_mem hb
  have e2 : s.getD j 0 = b := by rw [List.getD_eq_getElem?_getD, List.getElem?_eq_getElem hj]; exact e
  have g : ∀ i (hi : i < s.length), s.getD i 0 = s[i] := fun i hi => by rw [List.getD_eq_getElem?_getD, List.getElem?_eq_getElem hi]; rfl
  rw [← e2] at hp ⊢
  rw [prev_index hs hj] at hp ⊢
  rw [next_index hs hj]
  by_cases h1 : 0 < j
  · rw [if_pos h1] at hp ⊢
    by_cases h2 : j + 1 < s.length
    · rw [if_pos h2, g _ (by omega), g _ h2, g _ hj]
      refine ⟨fun e3 => ?_, fun e3 => ?_⟩
      · have := nodup_inj hs _ _ e3; omega
      · have := nodup_inj hs _ _ e3; omega
    · rw [if_neg h2, g _ (by omega), g _ hj]
      have h3 := h0 _ (List.getElem_mem (show j - 1 < s.length by omega))
      have h4 := h0 _ (List.getElem_mem hj)
      exact ⟨by omega, by omega⟩
  · rw [if_neg h1] at hp
    exact absurd rfl hp
theorem next_ne_self {s : List Int} (hs : s.Nodup) (h0 : ∀ a, a ∈ s → 0 ≤ a) {b : Int} (hb : b ∈ s) : nextIn s b ≠ b := by
  obtain ⟨j, hj, e⟩ := List.getElem_of_mem hb
  have e2 : s.getD j 0 = b := by rw [List.getD_eq_getElem?_getD, List.getElem?_eq_getElem hj]; exact e
  have g : ∀ i (hi : i < s.length), s.getD i 0 = s[i] := fun i hi => by rw [List.getD_eq_getElem?_getD, List.getElem?_eq_getElem hi]; rfl
  rw [← e2, next_index hs hj]
  split
  · next h2 =>
    rw [g _ h2, g _ hj]
    intro e3
    have := nodup_inj hs _ _ e3
    omega
  · rw [g _ hj]
    have := h0 _ (List.getElem_mem hj)
    omega
theorem place_doc (hi : Items w ib d.lk d.has) (hw : d.WF) {up id before : Int} (hup : d.has up) (hid : d.has id) (h0 : id ≠ 0) (hb : d.has before) :
    Calls Tryz.prog 52 #[.pointer (some ⟨ib up, 0, none⟩), .pointer (some ⟨ib id, 0, none⟩), befV ib before] w (PlacePost w ib d up id before) := by
  have hid0 := hw.nn hid
  have hup0 := hw.nn hup
  have hb0 := hw.nn hb
  have hbv : befV ib before = pI ib (if before = 0 then -1 else before) := by
    unfold befV
    split
    · exact (pI_nil ib).symm
    · exact (pI_at ib hb0).symm
  have hb1 : (if before = 0 then (-1 : Int) else before) = -1 ∨ d.has (if before = 0 then (-1 : Int) else before) := by
    split
    · exact .inl rfl
    · exact .inr hb
  by_cases h1 : d.upOf id ≠ -1
  · rw [hbv]
    refine (place_held hi hup hid hb1 h1).mono ?_
    rintro e w' ⟨rfl, rfl⟩
    have hc : placeC d up id before = 15 := by unfold placeC; rw [if_pos h1]
    exact ⟨by rw [hc], .inl ⟨by rw [hc]; decide, rfl⟩⟩
  obtain ⟨k, hk⟩ := climb_some hw hup hid0
  have h1' : d.upOf id = -1 := Classical.not_not.1 h1
  by_cases h2 : d.Anc up id
  · rw [under_iff.2 h2] at hk
    rw [hbv]
    refine (place_cycle hi hup hid hb1 h1' k hk).mono ?_
    rintro e w' ⟨rfl, rfl⟩
    have hc : placeC d up id before = 17 := by unfold placeC; rw [if_neg h1, if_pos h2]
    exact ⟨by rw [hc], .inl ⟨by rw [hc]; decide, rfl⟩⟩
  have h2' : d.under up id = false := by
    cases e : d.under up id
    · rfl
    · exact absurd (under_iff.1 e) h2
  rw [h2'] at hk
  have hne : up ≠ id := fun e => h2 (e ▸ Anc.refl _)
  by_cases h3 : before ≠ 0 ∧ d.upOf before ≠ up
  · have hv : befV ib before = .pointer (some ⟨ib before, 0, none⟩) := by unfold befV; rw [if_neg h3.1]
    rw [hv]
    refine (place_place hi hup hid hb h1' k hk h3.2).mono ?_
    rintro e w' ⟨rfl, rfl⟩
    have hc : placeC d up id before = 18 := by unfold placeC; rw [if_neg h1, if_neg h2, if_pos h3]
    exact ⟨by rw [hc], .inl ⟨by rw [hc]; decide, rfl⟩⟩
  have hc : placeC d up id before = 0 := by unfold placeC; rw [if_neg h1, if_neg h2, if_neg h3]
  have hks : ∀ p, p ∈ d.kidsOf up → d.has p ∧ p ≠ up ∧ p ≠ id := fun p hp => by
    obtain ⟨a1, a2⟩ := (hw.kid up p hup).1 hp
    refine ⟨a1, fun e => ?_, fun e => ?_⟩
    · have := not_anc_up hw a1 (by omega)
      rw [a2, e] at this
      exact this (Anc.refl _)
    · rw [e, h1'] at a2; omega
  have hpost : ∀ e w', (e = .returned (.int .i64 0) ∧ Linked w ib d.has (placeL d.lk up id (if before = 0 then -1 else before)) w') → PlacePost w ib d up id before e w' := by
    rintro e w' ⟨rfl, hl⟩
    exact ⟨by rw [hc], .inr ⟨hc, hl⟩⟩
  refine Calls.mono ?_ hpost
  by_cases e0 : before = 0
  · have hv : befV ib before = .pointer none := by unfold befV; rw [if_pos e0]
    rw [hv, if_pos e0]
    by_cases hl : (d.lk up).last = -1
    · exact place_ok_nn hi hup hid h1' hne k hk hl
    · obtain ⟨a1, a2, a3⟩ := hks _ (last_ne hw hup rfl hl)
      exact place_ok_np hi hup hid h1' hne k hk rfl a1 a2 a3
  · have hv : befV ib before = .pointer (some ⟨ib before, 0, none⟩) := by unfold befV; rw [if_neg e0]
    rw [hv, if_neg e0]
    have hbu : d.upOf before = up := Classical.byContradiction fun h => h3 ⟨e0, h⟩
    have hbk : before ∈ d.kidsOf up := (hw.kid up before hup).2 ⟨hb, hbu⟩
    obtain ⟨b1, b2, b3⟩ := hks _ hbk
    have hpd : (d.lk before).prev = prevIn (d.kidsOf up) before := by show prevIn (d.kidsOf (d.upOf before)) before = _; rw [hbu]
    by_cases hp : (d.lk before).prev = -1
    · exact place_ok_bn hi hup hid h1' hne k hk hb b2 b3 hbu hp
    · have hpm : (d.lk before).prev ∈ d.kidsOf up := by
        rw [hpd] at hp ⊢
        exact (prevIn_mem _ _).resolve_left hp
      obtain ⟨a1, a2, a3⟩ := hks _ hpm
      refine place_ok_bp hi hup hid h1' hne k hk hb b2 b3 hbu rfl a1 a2 a3 ?_
      rw [hpd]
      exact prev_ne_self (hw.nodup up) (fun a ha => hw.nn (hks a ha).1) hbk
theorem drop_doc (hi : Items w ib d.lk d.has) (hw : d.WF) {id : Int} (hid : d.has id) (hu : d.upOf id ≠ -1) :
    Calls Tryz.prog 55 #[.pointer (some ⟨ib id, 0, none⟩)] w fun e w' => e = .returned (.int .i64 0) ∧ Linked w ib d.has (dropL d.lk id) w' := by
  have hux := (hw.up id hid).resolve_left hu
  have hik : id ∈ d.kidsOf (d.upOf id) := (hw.kid _ _ hux).2 ⟨hid, rfl⟩
  have hks : ∀ p, p ∈ d.kidsOf (d.upOf id) → d.has p ∧ d.upOf id ≠ p := fun p hp => by
    obtain ⟨a1, a2⟩ := (hw.kid _ p hux).1 hp
    refine ⟨a1, fun e => ?_⟩
    have := not_anc_up hw a1 (by have := hw.nn hux; omega)
    rw [a2, e] at this
    exact this (Anc.refl _)
  have hnn : ∀ a, a ∈ d.kidsOf (d.upOf id) → 0 ≤ a := fun a ha => hw.nn (hks a ha).1
  have hnd := hw.nodup (d.upOf id)
  have hxu : id ≠ d.upOf id := fun e => (hks id hik).2 e.symm
  have hpm := prevIn_mem (d.kidsOf (d.upOf id)) id
  have hnm := nextIn_mem (d.kidsOf (d.upOf id)) id
  by_cases hp : (d.lk id).prev = -1
  · by_cases hn : (d.lk id).next = -1
    · exact drop_ok_nn hi hid hux rfl hp hn hxu
    · obtain ⟨b1, b2⟩ := hks _ (hnm.resolve_left hn)
      exact drop_ok_nx hi hid hux rfl hp rfl hxu b1 (fun e => next_ne_self hnd hnn hik e.symm) b2
  · obtain ⟨a1, a2⟩ := hks _ (hpm.resolve_left hp)
    have a3 : id ≠ (d.lk id).prev := fun e => prev_ne_self hnd hnn hik e.symm
    by_cases hn : (d.lk id).next = -1
    · exact drop_ok_pn hi hid hux rfl rfl hn hxu a1 a3 a2
    · obtain ⟨b1, b2⟩ := hks _ (hnm.resolve_left hn)
      obtain ⟨c1, c2⟩ := prev_ne_next hnd hnn hik hp
      exact drop_ok_px hi hid hux rfl rfl rfl hxu a1 a3 a2 b1 (fun e => c2 e.symm) b2 c1
end
end Go.Proofs.YtacobpmmpdadpaaGreat
set_option linter.unusedVariables false
set_option linter.unusedSimpArgs false
namespace Go.Proofs.YtacobpmmpdadpaaGreat
open Go.RowKit Doc
section
variable {w0 w : World} {db mb : Nat} {nb ib : Int → Nat} {D : DataW Unit} {d : Doc}
theorem live_ok (h : DomRep w0 w db mb nb ib D d) {id : Int} (hx : (Lit.int .i64 id).wf = true) (h0 : id ≠ 0) (hh : d.has id) :
    Calls Tryz.prog 50 #[.pointer (some ⟨db, 0, none⟩), .int .i64 id] w fun e w' => e = .returned (.tuple #[.pointer (some ⟨nb id, 0, none⟩), .int .i64 0]) ∧ w = w' := by
  have hp := h.p0
  have hl := h.look hx hh
  have e0 : (id == 0) = false := by simpa using h0
  clear h hx h0 hh
  go_enter Tryz.func50, Tryz.ntmps50
  go_wp2
  go_ret2
  exact ⟨rfl, rfl⟩
theorem live_no (h : DomRep w0 w db mb nb ib D d) {id c : Int} (hx : (Lit.int .i64 id).wf = true) (hn : noneI d id = c) (hc : c ≠ 0) :
    Calls Tryz.prog 50 #[.pointer (some ⟨db, 0, none⟩), .int .i64 id] w fun e w' => e = .returned (.tuple #[.pointer none, .int .i64 c]) ∧ w = w' := by
  unfold noneI at hn
  by_cases h0 : id = 0
  · subst h0
    rw [if_pos rfl] at hn
    subst hn
    clear h hx hc
    go_enter Tryz.func50, Tryz.ntmps50
    go_wp2
    go_ret2
    exact ⟨rfl, rfl⟩
  · rw [if_neg h0] at hn
    by_cases hh : d.has id
    · rw [if_neg (fun h => h hh)] at hn; exact absurd hn.symm hc
    · rw [if_pos hh] at hn
      subst hn
      have hp := h.p0
      have hl := h.look_no hx hh
      have e0 : (id == 0) = false := by simpa using h0
      clear h hx h0 hh hc
      go_enter Tryz.func50, Tryz.ntmps50
      go_wp2
      go_ret2
      exact ⟨rfl, rfl⟩
theorem beside_0 (a : Value) : Calls Tryz.prog 51 #[a, .int .i64 0] w fun e w' => e = .returned (.tuple #[.pointer none, .int .i64 0]) ∧ w = w' := by
  go_enter Tryz.func51, Tryz.ntmps51
  go_wp2
  go_ret2
  exact ⟨rfl, rfl⟩
theorem beside_ok (h : DomRep w0 w db mb nb ib D d) {id : Int} (hx : (Lit.int .i64 id).wf = true) (h0 : id ≠ 0) (hh : d.has id) :
    Calls Tryz.prog 51 #[.pointer (some ⟨db, 0, none⟩), .int .i64 id] w fun e w' => e = .returned (.tuple #[.pointer (some ⟨ib id, 0, none⟩), .int .i64 0]) ∧ w = w' := by
  have HL := Lib.hid (live_ok h hx h0 hh)
  obtain ⟨n, _, A, c, hb, _⟩ := h.hasOf hh
  have hc : w.cell? ⟨nb id, 0, none⟩ = some (.pointer (some ⟨ib id, 0, none⟩)) := by simp [World.cell?, hb]
  have e0 : (id == 0) = false := by simpa using h0
  clear h hx h0 hh hb
  go_enter Tryz.func51, Tryz.ntmps51
  go_wp2_with (go_at_call 50; refine HL.out.mono ?_; rintro e w' ⟨rfl, rfl⟩)
  go_ret2
  exact ⟨rfl, rfl⟩
theorem beside_no (h : DomRep w0 w db mb nb ib D d) {id : Int} (hx : (Lit.int .i64 id).wf = true) (h0 : id ≠ 0) (hh : ¬ d.has id) :
    Calls Tryz.prog 51 #[.pointer (some ⟨db, 0, none⟩), .int .i64 id] w fun e w' => e = .returned (.tuple #[.pointer none, .int .i64 13]) ∧ w = w' := by
  have HL := Lib.hid (live_no h hx (c := 13) (by unfold noneI; rw [if_neg h0, if_pos hh]) (by decide))
  have e0 : (id == 0) = false := by simpa using h0
  clear h hx h0 hh
  go_enter Tryz.func51, Tryz.ntmps51
  go_wp2_with (go_at_call 50; refine HL.out.mono ?_; rintro e w' ⟨rfl, rfl⟩)
  go_ret2
  exact ⟨rfl, rfl⟩
theorem beside_any (h : DomRep w0 w db mb nb ib D d) {before : Int} (hx : (Lit.int .i64 before).wf = true) (hh : d.has before) :
    Calls Tryz.prog 51 #[.pointer (some ⟨db, 0, none⟩), .int .i64 before] w fun e w' => e = .returned (.tuple #[befV ib before, .int .i64 0]) ∧ w = w' := by
  unfold befV
  by_cases e : before = 0
  · rw [if_pos e]
    subst e
    exact beside_0 _
  · rw [if_neg e]
    exact beside_ok h hx e hh
theorem insertD_place {id up before : Int} (h0 : id ≠ 0) (h1 : d.has id) (h2 : d.has up) (h3 : d.has before) : d.insertD id up before = (placeC d up id before, if placeC d up id before = 0 then d.attach up id before else d) := by
  unfold Doc.insertD placeC
  rw [if_neg h0, if_neg (by simpa using h1), if_neg (by simp [h2, h3])]
  split
  · rfl
  split
  · rfl
  split
  · rfl
  · rfl
theorem attach_get {x y b : Int} (m : Int) (n' : Nd) (h : (d.attach x y b).get m = some n') : ∃ n, d.get m = some n ∧ n'.tag = n.tag ∧ n'.key = n.key ∧ n'.text = n.text ∧ n'.attrs = n.attrs := by
  unfold Doc.attach at h
  rw [Doc.get_mod (f := fun n => { n with up := x }) (fun _ => rfl)] at h
  obtain ⟨n1, h1, e1⟩ := Option.map_eq_some_iff.1 h
  rw [Doc.get_mod (f := fun n => { n with kids := inL n.kids y b }) (fun _ => rfl)] at h1
  obtain ⟨n2, h2, e2⟩ := Option.map_eq_some_iff.1 h1
  refine ⟨n2, h2, ?_⟩
  subst e1 e2
  refine ⟨?_, ?_, ?_, ?_⟩ <;> (repeat' split) <;> rfl
theorem detach_get {x : Int} (m : Int) (n' : Nd) (h : (d.detach x).get m = some n') : ∃ n, d.get m = some n ∧ n'.tag = n.tag ∧ n'.key = n.key ∧ n'.text = n.text ∧ n'.attrs = n.attrs := by
  unfold Doc.detach at h
  rw [Doc.get_mod (f := fun n => { n with up := -1 }) (fun _ => rfl)] at h
  obtain ⟨n1, h1, e1⟩ := Option.map_eq_some_iff.1 h
  rw [Doc.get_mod (f := fun n => { n with kids := outL n.kids x }) (fun _ => rfl)] at h1
  obtain ⟨n2, h2, e2⟩ := Option.map_eq_some_iff.1 h1
  refine ⟨n2, h2, ?_⟩
  subst e1 e2
  refine ⟨?_, ?_, ?_, ?_⟩ <;> (repeat' split) <;> rfl
/-- What Place leaves of the document. -/
theorem DomRep.placed (h : DomRep w0 w db mb nb ib D d) (hw : d.WF) {id up before : Int} (h0 : id ≠ 0) (h1 : d.has id) (h2 : d.has up) (h3 : d.has before) {e : Ending} {w' : World} (hp : PlacePost w ib d up id before e w') :
    DStep w0 w db (if placeC d up id before = 0 then d.attach up id before else d) (.int .i64 (placeC d up id before)) e w' := by
  obtain ⟨rfl, ⟨hc, rfl⟩ | ⟨hc, hl⟩⟩ := hp
  · rw [if_neg hc]; exact DStep.same h _ (Below.refl _ _)
  · rw [if_pos hc]
    have hc' := hc
    unfold placeC at hc'
    split at hc'
    · cases hc'
    next a1 =>
    split at hc'
    · cases hc'
    split at hc'
    · cases hc'
    next a3 =>
    have hb : before = 0 ∨ before ≠ 0 ∧ d.has before ∧ d.upOf before = up := by
      by_cases e0 : before = 0
      · exact .inl e0
      · exact .inr ⟨e0, h3, Classical.byContradiction fun h => a3 ⟨e0, h⟩⟩
    obtain ⟨r1, r2⟩ := h.relink (d' := d.attach up id before) rfl attach_get attach_has _ hl (fun m hm => attach_lk hw h2 h1 (Classical.not_not.1 a1) h0 hb m hm)
    exact ⟨rfl, ⟨mb, nb, ib, D, r1⟩, r2⟩
theorem DomRep.nodeI (h : DomRep w0 w db mb nb ib D d) {x : Int} (hh : d.has x) : w.cell? ⟨nb x, 0, none⟩ = some (.pointer (some ⟨ib x, 0, none⟩)) := by
  obtain ⟨n, _, A, c, hb, _⟩ := h.hasOf hh
  simp [World.cell?, hb]
theorem DStep.from {w1 : World} {d' : Doc} {v : Value} {e : Ending} {w' : World} (hg : Grow w w1) (h : DStep w0 w1 db d' v e w') : DStep w0 w db d' v e w' := ⟨h.1, h.2.1, (Fr.of_grow hg).trans h.2.2⟩
theorem insert_d (h : DomRep w0 w db mb nb ib D d) (hw : d.WF) (id up before : Int) (hi1 : (Lit.int .i64 id).wf = true) (hi2 : (Lit.int .i64 up).wf = true) (hi3 : (Lit.int .i64 before).wf = true) :
    Calls Tryz.prog 18 #[.pointer (some ⟨db, 0, none⟩), .int .i64 id, .int .i64 up, .int .i64 before] w (DStep w0 w db (d.insertD id up before).2 (.int .i64 (d.insertD id up before).1)) := by
  by_cases h0 : noneI d id ≠ 0
  · have hr : d.insertD id up before = (noneI d id, d) := by
      unfold Doc.insertD noneI at *
      by_cases e0 : id = 0
      · rw [if_pos e0, if_pos e0]
      · rw [if_neg e0, if_neg e0] at *
        by_cases e1 : d.has id
        · rw [if_neg (by simpa using e1)] at h0; exact absurd rfl h0
        · rw [if_pos e1, if_pos e1]
    rw [hr]
    have HF := Lib.hid (DStep.same h (.int .i64 (noneI d id)) (Below.refl _ _))
    have HL := Lib.hid (live_no h hi1 rfl h0)
    have e0 : (noneI d id == 0) = false := by simpa using h0
    have e1 : (noneI d id != 0) = true := by simpa using h0
    clear h hr h0 hw
    generalize noneI d id = c at *
    go_enter Tryz.func18, Tryz.ntmps18
    go_wp2_with (go_at_call 50; refine HL.out.mono ?_; rintro e w' ⟨rfl, rfl⟩)
    go_ret
    exact HF.out
  have h0' : id ≠ 0 ∧ d.has id := by
    unfold noneI at h0
    by_cases e0 : id = 0
    · rw [if_pos e0] at h0; exact absurd (by decide) h0
    · rw [if_neg e0] at h0
      by_cases e1 : d.has id
      · exact ⟨e0, e1⟩
      · rw [if_pos e1] at h0; exact absurd (by decide) h0
  obtain ⟨h0, h1⟩ := h0'
  have HL := Lib.hid (live_ok h hi1 h0 h1)
  have hp := h.p0
  by_cases h3 : d.has before
  · have HB := Lib.hid (beside_any h hi3 h3)
    by_cases h2 : d.has up
    · rw [insertD_place h0 h1 h2 h3]
      have hn1 := h.nodeI h1
      have hn2 := h.nodeI h2
      have HP := Lib.hid fun W (hW : Grow w W) => (Calls.mono (place_doc (h.grow hW).items hw h2 h1 h0 h3) fun e w' hp => DStep.from hW ((h.grow hW).placed hw h0 h1 h2 h3 hp))
      have hk := h.look hi2 h2
      clear h hw h0 h1 h2 h3
      generalize (if placeC d up id before = 0 then d.attach up id before else d) = d' at *
      generalize placeC d up id before = c at *
      generalize befV ib before = bv at *
      go_enter Tryz.func18, Tryz.ntmps18
      go_wp2_with first
        | (go_at_call 50; refine HL.out.mono ?_; rintro e w' ⟨rfl, rfl⟩)
        | (go_at_call 51; refine HB.out.mono ?_; rintro e w' ⟨rfl, rfl⟩)
      go_region_with (go_at_call 52; refine (HP.out _ ?hg).mono ?_; (case hg => repeat (first | exact Below.refl _ _ | apply grow_drew)); rintro e w1 ⟨rfl, hra⟩; have HRA := Lib.hid hra; clear hra)
      all_goals (go_wp2_with fail)
      all_goals go_ret
      all_goals exact ⟨rfl, HRA.out⟩
    · have hr : d.insertD id up before = (13, d) := by
        unfold Doc.insertD; rw [if_neg h0, if_neg (by simpa using h1), if_pos (.inl h2)]
      rw [hr]
      have HF := Lib.hid (DStep.same h (.int .i64 13) (Below.refl _ _))
      have hk := h.look_no hi2 h2
      clear h hw h0 h1 h2 h3 hr
      generalize befV ib before = bv at *
      go_enter Tryz.func18, Tryz.ntmps18
      go_wp2_with first
        | (go_at_call 50; refine HL.out.mono ?_; rintro e w' ⟨rfl, rfl⟩)
        | (go_at_call 51; refine HB.out.mono ?_; rintro e w' ⟨rfl, rfl⟩)
      go_ret
      exact HF.out
  · have hb0 : before ≠ 0 := fun e => h3 (e ▸ hw.has0)
    have HB := Lib.hid (beside_no h hi3 hb0 h3)
    have hr : d.insertD id up before = (13, d) := by
      unfold Doc.insertD; rw [if_neg h0, if_neg (by simpa using h1), if_pos (.inr h3)]
    rw [hr]
    have HF := Lib.hid (DStep.same h (.int .i64 13) (Below.refl _ _))
    have hk : ∃ v, (Instr.lookup 60 (.map (some mb)) (.int .i64 up) false).run Tryz.prog w = .ok v w := by
      by_cases h2 : d.has up
      · exact ⟨_, h.look hi2 h2⟩
      · exact ⟨_, h.look_no hi2 h2⟩
    obtain ⟨v, hk⟩ := hk
    clear h hw h0 h1 h3 hr
    go_enter Tryz.func18, Tryz.ntmps18
    go_wp2_with first
      | (go_at_call 50; refine HL.out.mono ?_; rintro e w' ⟨rfl, rfl⟩)
      | (go_at_call 51; refine HB.out.mono ?_; rintro e w' ⟨rfl, rfl⟩)
    go_ret
    exact HF.out
end
end Go.Proofs.YtacobpmmpdadpaaGreat
set_option linter.unusedVariables false
set_option linter.unusedSimpArgs false
namespace Go.Proofs.YtacobpmmpdadpaaGreat
open Go.RowKit Doc
theorem noneI_pos {d : Doc} {id : Int} (h : ¬ noneI d id ≠ 0) : id ≠ 0 ∧ d.has id := by
  unfold noneI at h
  by_cases e0 : id = 0
  · rw [if_pos e0] at h; exact absurd (by decide) h
  · rw [if_neg e0] at h
    by_cases e1 : d.has id
    · exact ⟨e0, e1⟩
    · rw [if_pos e1] at h; exact absurd (by decide) h
open Classical in
theorem noneI_of {d : Doc} {id : Int} {α : Type} (x : α) (r : Int × Doc) (h : noneI d id ≠ 0) : (if id = 0 then (14, d) else if ¬ d.has id then (13, d) else r) = (noneI d id, d) := by
  unfold noneI at *
  by_cases e0 : id = 0
  · rw [if_pos e0, if_pos e0]
  · rw [if_neg e0, if_neg e0] at *
    by_cases e1 : d.has id
    · rw [if_neg (by simpa using e1)] at h; exact absurd rfl h
    · rw [if_pos e1, if_pos e1]
section
variable {w0 w : World} {db mb : Nat} {nb ib : Int → Nat} {D : DataW Unit} {d : Doc}
/-- The attributes' cell. -/
theorem DomRep.nodeA (h : DomRep w0 w db mb nb ib D d) {x : Int} (hh : d.has x) : ∃ A c, w.cell? ⟨nb x, 4, none⟩ = some (.slice A (d.attrsOf x).length c) ∧ RdV EAt 2 w (Imm w0.heap.size tsA w) (.slice A (d.attrsOf x).length c) (d.attrsOf x) ∧ w.frozen? ⟨nb x, 4, none⟩ = false ∧ w.frozen? ⟨nb x, 3, none⟩ = false ∧ ∃ u, w.cell? ⟨nb x, 3, none⟩ = some u := by
  obtain ⟨n, hn, A, c, hb, hr⟩ := h.hasOf hh
  rw [attrsOf_pos hn]
  exact ⟨A, c, by simp [World.cell?, hb], hr, by simp [World.frozen?, hb], by simp [World.frozen?, hb], .string n.text, by simp [World.cell?, hb]⟩
theorem RdV.rd {α : Type} {E : α → List Value → Prop} {sz : Nat} {w : World} {ok : Nat → Prop} {A : Option Addr} {n c : Nat} {l : List α} (h : RdV E sz w ok (.slice A n c) l) : Rd E sz w ok A l := by
  obtain ⟨A', c', e, _, h⟩ := h
  cases e; exact h
/-- New attributes are laid in. -/
theorem DomRep.setA (h : DomRep w0 w db mb nb ib D d) (hw : d.WF) {id : Int} (hh : d.has id) (g : List At → List At) {W : World} (hW : Grow w W) (A : Option Addr) (c m : Nat) (hm : m = (g (d.attrsOf id)).length) (hl : RdV EAt 2 W (New w W 48) (.slice A m c) (g (d.attrsOf id))) :
    DStep w0 w db (d.mod id fun n => { n with attrs := g n.attrs }) (.int .i64 0) (.returned (.int .i64 0)) (W.setCell ⟨nb id, 4, none⟩ (.slice A m c)) := by
  obtain ⟨n, hn⟩ := Doc.has_iff.1 hh
  rw [attrsOf_pos hn] at hm hl
  subst hm
  have hl' : RdV EAt 2 W (Imm w0.heap.size tsA W) (.slice A (g n.attrs).length c) (g n.attrs) := hl.imp (fun _ _ _ h => h) (fun b hb => hb.imm (by decide)) (fun b _ _ => rfl)
  obtain ⟨r1, r2⟩ := (h.grow hW).setN hn (fun n => { n with attrs := g n.attrs }) (fun _ => rfl) (fun _ => rfl) (fun _ => rfl) 4 (.slice A (g n.attrs).length c) fun A' c' _ _ => ⟨A, c, rfl, hl'⟩
  exact ⟨rfl, ⟨mb, nb, ib, D, r1⟩, (Fr.of_grow hW).trans r2⟩
theorem set_d (h : DomRep w0 w db mb nb ib D d) (hw : d.WF) (id : Int) (name value : ByteArray) (hi1 : (Lit.int .i64 id).wf = true) (hnm : name.size ≤ 9223372036854775807) :
    Calls Tryz.prog 32 #[.pointer (some ⟨db, 0, none⟩), .int .i64 id, .string name, .string value] w (DStep w0 w db (d.setD id name value).2 (.int .i64 (d.setD id name value).1)) := by
  by_cases h0 : noneI d id ≠ 0
  · have hr : d.setD id name value = (noneI d id, d) := by unfold Doc.setD; exact noneI_of () _ h0
    rw [hr]
    have HF := Lib.hid (DStep.same h (.int .i64 (noneI d id)) (Below.refl _ _))
    have HL := Lib.hid (live_no h hi1 rfl h0)
    have e1 : (noneI d id != 0) = true := by simpa using h0
    clear h hr h0 hw
    generalize noneI d id = c at *
    go_enter Tryz.func32, Tryz.ntmps32
    go_wp2_with (go_at_call 50; refine HL.out.mono ?_; rintro e w' ⟨rfl, rfl⟩)
    go_ret
    exact HF.out
  obtain ⟨h0, h1⟩ := noneI_pos h0
  have HL := Lib.hid (live_ok h hi1 h0 h1)
  have HM := Lib.hid (name_any name w hnm)
  have HV := Lib.hid (fits_any value w)
  have hr : d.setD id name value = if named name true = false then (8, d) else if 65536 < value.size then (3, d) else if 64 < (withA (d.attrsOf id) name value).length then (12, d) else (0, d.mod id fun n => { n with attrs := withA n.attrs name value }) := by
    unfold Doc.setD; rw [if_neg h0, if_neg (by simpa using h1)]
  rw [hr]
  by_cases h2 : named name true = false
  · rw [if_pos h2]
    rw [h2] at HM
    have HF := Lib.hid (DStep.same h (.int .i64 8) (Below.refl _ _))
    clear h h1 h0 hw hr h2
    go_enter Tryz.func32, Tryz.ntmps32
    go_wp2_with first
      | (go_at_call 50; refine HL.out.mono ?_; rintro e w' ⟨rfl, rfl⟩)
      | (go_at_call 57; refine HM.out.mono ?_; rintro e w' ⟨rfl, rfl⟩)
    go_ret
    exact HF.out
  rw [if_neg h2]
  have h2' : named name true = true := by simpa using h2
  rw [h2'] at HM
  by_cases h3 : 65536 < value.size
  · rw [if_pos h3]
    rw [decide_eq_false (show ¬ value.size ≤ 65536 by omega)] at HV
    have HF := Lib.hid (DStep.same h (.int .i64 3) (Below.refl _ _))
    clear h h1 h0 hw hr h2 h2' h3
    go_enter Tryz.func32, Tryz.ntmps32
    go_wp2_with first
      | (go_at_call 50; refine HL.out.mono ?_; rintro e w' ⟨rfl, rfl⟩)
      | (go_at_call 57; refine HM.out.mono ?_; rintro e w' ⟨rfl, rfl⟩)
      | (go_at_call 48; refine HV.out.mono ?_; rintro e w' ⟨rfl, rfl⟩)
    go_ret
    exact HF.out
  rw [if_neg h3]
  rw [decide_eq_true (show value.size ≤ 65536 by omega)] at HV
  obtain ⟨A3, c3, hc4, hr4, hf4, _⟩ := h.nodeA h1
  have hat := Doc.attrsOf_le hw id
  have HWI := Lib.hid (with_p (d.attrsOf id) name value w _ A3 c3 hr4.rd (by omega))
  have hf4' := fun W (hW : Grow w W) => (show W.frozen? ⟨nb id, 4, none⟩ = false by
    obtain ⟨_, _, _, _, h, _⟩ := (h.grow hW).nodeA h1
    exact h)
  have HFZ := Lib.hid hf4'
  have hn3 := (h.grow (Below.refl _ _)).lon id h1
  by_cases h4 : 64 < (withA (d.attrsOf id) name value).length
  · rw [if_pos h4]
    have HF := Lib.hid fun W hW => DStep.same h (.int .i64 12) (W := W) hW
    have h5 : (64 : Int) < ((withA (d.attrsOf id) name value).length : Int) := by omega
    clear h h1 h0 hw hr h2 h2' h3 hr4 h4 hf4'
    generalize withA (d.attrsOf id) name value = L at *
    generalize hLm : L.length = m at *
    generalize (d.attrsOf id).length = q at *
    have HLM := Lib.hid hLm
    clear hLm
    go_enter Tryz.func32, Tryz.ntmps32
    go_wp2_with first
      | (go_at_call 50; refine HL.out.mono ?_; rintro e w' ⟨rfl, rfl⟩)
      | (go_at_call 57; refine HM.out.mono ?_; rintro e w' ⟨rfl, rfl⟩)
      | (go_at_call 48; refine HV.out.mono ?_; rintro e w' ⟨rfl, rfl⟩)
      | (go_at_call 58; refine HWI.out.mono ?_; rintro e w4 ⟨v4, rfl, hv4, hg4⟩; obtain ⟨A4, c4, rfl, hl4, hr4⟩ := hv4; rw [HLM.out] at hl4 ⊢; have HG4 := Lib.hid hg4; clear hg4 hl4 hr4)
    go_ret
    exact HF.out _ HG4.out
  · rw [if_neg h4]
    have HF := Lib.hid fun W hW A c m hm hl => h.setA hw h1 (fun l => withA l name value) (W := W) hW A c m hm hl
    have h5 : ¬ (64 : Int) < ((withA (d.attrsOf id) name value).length : Int) := by omega
    have HC := Lib.hid fun W (hW : Grow w W) => Grow.cell hW hc4
    clear h h1 h0 hw hr h2 h2' h3 hr4 h4 hf4'
    generalize withA (d.attrsOf id) name value = L at *
    generalize hLm : L.length = m at *
    generalize (d.attrsOf id).length = q at *
    have HLM := Lib.hid hLm
    clear hLm
    go_enter Tryz.func32, Tryz.ntmps32
    go_wp2_with first
      | (go_at_call 50; refine HL.out.mono ?_; rintro e w' ⟨rfl, rfl⟩)
      | (go_at_call 57; refine HM.out.mono ?_; rintro e w' ⟨rfl, rfl⟩)
      | (go_at_call 48; refine HV.out.mono ?_; rintro e w' ⟨rfl, rfl⟩)
      | (go_at_call 58; refine HWI.out.mono ?_; rintro e w4 ⟨v4, rfl, hv4, hg4⟩; obtain ⟨A4, c4, rfl, hl4, hr4⟩ := hv4; rw [HLM.out] at hl4 ⊢; have hz4 := HFZ.out _ hg4; have hcc4 := HC.out _ hg4; have HG4 := Lib.hid hg4; have HV4 := Lib.hid (show RdV EAt 2 w4 (New _ w4 48) (.slice A4 m c4) L from ⟨A4, c4, by rw [HLM.out], by rw [HLM.out]; exact hl4, hr4⟩); clear hg4 hl4 hr4)
    go_ret
    exact HF.out _ HG4.out _ _ _ rfl HV4.out
theorem del_d (h : DomRep w0 w db mb nb ib D d) (hw : d.WF) (id : Int) (name : ByteArray) (hi1 : (Lit.int .i64 id).wf = true) :
    Calls Tryz.prog 33 #[.pointer (some ⟨db, 0, none⟩), .int .i64 id, .string name] w (DStep w0 w db (d.delD id name).2 (.int .i64 (d.delD id name).1)) := by
  by_cases h0 : noneI d id ≠ 0
  · have hr : d.delD id name = (noneI d id, d) := by unfold Doc.delD; exact noneI_of () _ h0
    rw [hr]
    have HF := Lib.hid (DStep.same h (.int .i64 (noneI d id)) (Below.refl _ _))
    have HL := Lib.hid (live_no h hi1 rfl h0)
    have e1 : (noneI d id != 0) = true := by simpa using h0
    clear h hr h0 hw
    generalize noneI d id = c at *
    go_enter Tryz.func33, Tryz.ntmps33
    go_wp2_with (go_at_call 50; refine HL.out.mono ?_; rintro e w' ⟨rfl, rfl⟩)
    go_ret
    exact HF.out
  obtain ⟨h0, h1⟩ := noneI_pos h0
  have HL := Lib.hid (live_ok h hi1 h0 h1)
  have hr : d.delD id name = if ¬ (withoutA (d.attrsOf id) name).length < (d.attrsOf id).length then (8, d) else (0, d.mod id fun n => { n with attrs := withoutA n.attrs name }) := by
    unfold Doc.delD; rw [if_neg h0, if_neg (by simpa using h1)]
  rw [hr]
  obtain ⟨A3, c3, hc4, hr4, hf4, _⟩ := h.nodeA h1
  have hat := Doc.attrsOf_le hw id
  have HWI := Lib.hid (without_p (d.attrsOf id) name w _ A3 c3 hr4.rd (by omega))
  have hf4' := fun W (hW : Grow w W) => (show W.frozen? ⟨nb id, 4, none⟩ = false by
    obtain ⟨_, _, _, _, h, _⟩ := (h.grow hW).nodeA h1
    exact h)
  have HFZ := Lib.hid hf4'
  by_cases h4 : (withoutA (d.attrsOf id) name).length < (d.attrsOf id).length
  · rw [if_neg (by simpa using h4)]
    rw [decide_eq_true h4] at HWI
    have HF := Lib.hid fun W hW A c m hm hl => h.setA hw h1 (fun l => withoutA l name) (W := W) hW A c m hm hl
    have HC := Lib.hid fun W (hW : Grow w W) => Grow.cell hW hc4
    clear h h1 h0 hw hr hr4 h4 hf4'
    generalize withoutA (d.attrsOf id) name = L at *
    generalize hLm : L.length = m at *
    generalize (d.attrsOf id).length = q at *
    have HLM := Lib.hid hLm
    clear hLm
    go_enter Tryz.func33, Tryz.ntmps33
    go_wp2_with first
      | (go_at_call 50; refine HL.out.mono ?_; rintro e w' ⟨rfl, rfl⟩)
      | (go_at_call 59; refine HWI.out.mono ?_; rintro e w4 ⟨v4, rfl, hv4, hg4⟩; obtain ⟨A4, c4, rfl, hl4, hr4⟩ := hv4; rw [HLM.out] at hl4 ⊢; have hz4 := HFZ.out _ hg4; have hcc4 := HC.out _ hg4; have HG4 := Lib.hid hg4; have HV4 := Lib.hid (show RdV EAt 2 w4 (New _ w4 48) (.slice A4 m c4) L from ⟨A4, c4, by rw [HLM.out], by rw [HLM.out]; exact hl4, hr4⟩); clear hg4 hl4 hr4)
    go_ret
    exact HF.out _ HG4.out _ _ _ rfl HV4.out
  · rw [if_pos h4]
    rw [decide_eq_false h4] at HWI
    have HF := Lib.hid fun W hW => DStep.same h (.int .i64 8) (W := W) hW
    clear h h1 h0 hw hr hr4 h4 hf4'
    generalize withoutA (d.attrsOf id) name = L at *
    generalize hLm : L.length = m at *
    generalize (d.attrsOf id).length = q at *
    have HLM := Lib.hid hLm
    clear hLm
    go_enter Tryz.func33, Tryz.ntmps33
    go_wp2_with first
      | (go_at_call 50; refine HL.out.mono ?_; rintro e w' ⟨rfl, rfl⟩)
      | (go_at_call 59; refine HWI.out.mono ?_; rintro e w4 ⟨v4, rfl, hv4, hg4⟩; obtain ⟨A4, c4, rfl, hl4, hr4⟩ := hv4; rw [HLM.out] at hl4 ⊢; have HG4 := Lib.hid hg4; clear hg4 hl4 hr4)
    go_ret
    exact HF.out _ HG4.out
theorem text_d (h : DomRep w0 w db mb nb ib D d) (hw : d.WF) (id : Int) (s : ByteArray) (hi1 : (Lit.int .i64 id).wf = true) :
    Calls Tryz.prog 34 #[.pointer (some ⟨db, 0, none⟩), .int .i64 id, .string s] w (DStep w0 w db (d.textD id s).2 (.int .i64 (d.textD id s).1)) := by
  by_cases h0 : noneI d id ≠ 0
  · have hr : d.textD id s = (noneI d id, d) := by unfold Doc.textD; exact noneI_of () _ h0
    rw [hr]
    have HF := Lib.hid (DStep.same h (.int .i64 (noneI d id)) (Below.refl _ _))
    have HL := Lib.hid (live_no h hi1 rfl h0)
    have e1 : (noneI d id != 0) = true := by simpa using h0
    clear h hr h0 hw
    generalize noneI d id = c at *
    go_enter Tryz.func34, Tryz.ntmps34
    go_wp2_with (go_at_call 50; refine HL.out.mono ?_; rintro e w' ⟨rfl, rfl⟩)
    go_ret
    exact HF.out
  obtain ⟨h0, h1⟩ := noneI_pos h0
  have HL := Lib.hid (live_ok h hi1 h0 h1)
  have HV := Lib.hid (fits_any s w)
  have hr : d.textD id s = if 65536 < s.size then (3, d) else (0, d.mod id fun n => { n with text := s }) := by
    unfold Doc.textD; rw [if_neg h0, if_neg (by simpa using h1)]
  rw [hr]
  by_cases h3 : 65536 < s.size
  · rw [if_pos h3]
    rw [decide_eq_false (show ¬ s.size ≤ 65536 by omega)] at HV
    have HF := Lib.hid (DStep.same h (.int .i64 3) (Below.refl _ _))
    clear h h1 h0 hw hr h3
    go_enter Tryz.func34, Tryz.ntmps34
    go_wp2_with first
      | (go_at_call 50; refine HL.out.mono ?_; rintro e w' ⟨rfl, rfl⟩)
      | (go_at_call 48; refine HV.out.mono ?_; rintro e w' ⟨rfl, rfl⟩)
    go_ret
    exact HF.out
  · rw [if_neg h3]
    rw [decide_eq_true (show s.size ≤ 65536 by omega)] at HV
    obtain ⟨A3, c3, _, _, _, hf3, u3, hu3⟩ := h.nodeA h1
    obtain ⟨n, hn⟩ := Doc.has_iff.1 h1
    have hfin : DStep w0 w db (d.mod id fun n => { n with text := s }) (.int .i64 0) (.returned (.int .i64 0)) (w.setCell ⟨nb id, 3, none⟩ (.string s)) := by
      obtain ⟨r1, r2⟩ := h.setN hn (fun n => { n with text := s }) (fun _ => rfl) (fun _ => rfl) (fun _ => rfl) 3 (.string s) fun A' c' _ hr => ⟨A', c', rfl, hr⟩
      exact ⟨rfl, ⟨mb, nb, ib, D, r1⟩, r2⟩
    have HF := Lib.hid hfin
    clear h h1 h0 hw hr h3 hfin hn
    go_enter Tryz.func34, Tryz.ntmps34
    go_wp2_with first
      | (go_at_call 50; refine HL.out.mono ?_; rintro e w' ⟨rfl, rfl⟩)
      | (go_at_call 48; refine HV.out.mono ?_; rintro e w' ⟨rfl, rfl⟩)
    go_ret
    exact HF.out
end
end Go.Proofs.YtacobpmmpdadpaaGreat
set_option linter.unusedVariables false
set_option linter.unusedSimpArgs false
namespace Go.Proofs.YtacobpmmpdadpaaGreat
open Go.RowKit Doc
section
variable {w0 w : World} {db mb : Nat} {nb ib : Int → Nat} {D : DataW Unit} {d : Doc}
theorem DomRep.upV (h : DomRep w0 w db mb nb ib D d) {x : Int} (hh : d.has x) : Calls Tryz.prog 21 #[.pointer (some ⟨ib x, 0, none⟩)] w fun e w' => e = .returned (pI ib (d.upOf x)) ∧ w = w' :=
  up_at (ib x) _ w (h.items.c1 hh)
theorem move_bad (h : DomRep w0 w db mb nb ib D d) (id before c : Int) (hi1 : (Lit.int .i64 id).wf = true) (hn : noneI d id = c) (h0 : c ≠ 0) :
    Calls Tryz.prog 30 #[.pointer (some ⟨db, 0, none⟩), .int .i64 id, .int .i64 before] w (DStep w0 w db d (.int .i64 c)) := by
  have HF := Lib.hid (DStep.same h (.int .i64 c) (Below.refl _ _))
  have HL := Lib.hid (live_no h hi1 hn h0)
  have e1 : (c != 0) = true := by simpa using h0
  clear h h0 hn
  go_enter Tryz.func30, Tryz.ntmps30
  go_wp2_with (go_at_call 50; refine HL.out.mono ?_; rintro e w' ⟨rfl, rfl⟩)
  go_ret
  exact HF.out
theorem move_far_d (h : DomRep w0 w db mb nb ib D d) (hw : d.WF) (id before : Int) (hi1 : (Lit.int .i64 id).wf = true) (hi3 : (Lit.int .i64 before).wf = true) (h0 : id ≠ 0) (h1 : d.has id) (h3 : ¬ d.has before) :
    Calls Tryz.prog 30 #[.pointer (some ⟨db, 0, none⟩), .int .i64 id, .int .i64 before] w (DStep w0 w db d (.int .i64 13)) := by
  have hb0 : before ≠ 0 := fun e => h3 (e ▸ hw.has0)
  have HF := Lib.hid (DStep.same h (.int .i64 13) (Below.refl _ _))
  have HL := Lib.hid (live_ok h hi1 h0 h1)
  have HB := Lib.hid (beside_no h hi3 hb0 h3)
  have HU := Lib.hid (h.upV h1)
  have hn1 := h.nodeI h1
  clear h hw h0 h1 h3 hb0
  generalize pI ib (d.upOf id) = pu at *
  go_enter Tryz.func30, Tryz.ntmps30
  go_wp2_with first
    | (go_at_call 50; refine HL.out.mono ?_; rintro e w' ⟨rfl, rfl⟩)
    | (go_at_call 51; refine HB.out.mono ?_; rintro e w' ⟨rfl, rfl⟩)
    | (go_at_call 21; refine HU.out.mono ?_; rintro e w' ⟨rfl, rfl⟩)
  go_ret
  exact HF.out
theorem move_free_d (h : DomRep w0 w db mb nb ib D d) (hw : d.WF) (id before : Int) (hi1 : (Lit.int .i64 id).wf = true) (hi3 : (Lit.int .i64 before).wf = true) (h0 : id ≠ 0) (h1 : d.has id) (h3 : d.has before) (hu : d.upOf id = -1) :
    Calls Tryz.prog 30 #[.pointer (some ⟨db, 0, none⟩), .int .i64 id, .int .i64 before] w (DStep w0 w db d (.int .i64 16)) := by
  have HF := Lib.hid (DStep.same h (.int .i64 16) (Below.refl _ _))
  have HL := Lib.hid (live_ok h hi1 h0 h1)
  have HB := Lib.hid (beside_any h hi3 h3)
  have HU := Lib.hid (h.upV h1)
  rw [hu, pI_nil] at HU
  have hn1 := h.nodeI h1
  clear h hw h0 h1 h3 hu
  generalize befV ib before = bv at *
  go_enter Tryz.func30, Tryz.ntmps30
  go_wp2_with first
    | (go_at_call 50; refine HL.out.mono ?_; rintro e w' ⟨rfl, rfl⟩)
    | (go_at_call 51; refine HB.out.mono ?_; rintro e w' ⟨rfl, rfl⟩)
    | (go_at_call 21; refine HU.out.mono ?_; rintro e w' ⟨rfl, rfl⟩)
  go_ret
  exact HF.out
theorem move_self_d (h : DomRep w0 w db mb nb ib D d) (hw : d.WF) (id : Int) (hi1 : (Lit.int .i64 id).wf = true) (h0 : id ≠ 0) (h1 : d.has id) (hu : d.has (d.upOf id)) :
    Calls Tryz.prog 30 #[.pointer (some ⟨db, 0, none⟩), .int .i64 id, .int .i64 id] w (DStep w0 w db d (.int .i64 18)) := by
  have HF := Lib.hid (DStep.same h (.int .i64 18) (Below.refl _ _))
  have HL := Lib.hid (live_ok h hi1 h0 h1)
  have HB := Lib.hid (beside_ok h hi1 h0 h1)
  have HU := Lib.hid (h.upV h1)
  rw [pI_at ib (hw.nn hu)] at HU
  have hn1 := h.nodeI h1
  have he := h.items.eql h1 h1
  rw [decide_eq_true rfl] at he
  clear h hw h0 h1 hu
  generalize d.upOf id = up at *
  go_enter Tryz.func30, Tryz.ntmps30
  go_wp2_with first
    | (go_at_call 50; refine HL.out.mono ?_; rintro e w' ⟨rfl, rfl⟩)
    | (go_at_call 51; refine HB.out.mono ?_; rintro e w' ⟨rfl, rfl⟩)
    | (go_at_call 21; refine HU.out.mono ?_; rintro e w' ⟨rfl, rfl⟩)
  go_ret
  exact HF.out
theorem move_place_d (h : DomRep w0 w db mb nb ib D d) (hw : d.WF) (id before : Int) (hi1 : (Lit.int .i64 id).wf = true) (hi3 : (Lit.int .i64 before).wf = true) (h0 : id ≠ 0) (h1 : d.has id) (h3 : d.has before) (hu : d.has (d.upOf id)) (hb : before ≠ 0) (hbi : before ≠ id) (hbu : d.upOf before ≠ d.upOf id) :
    Calls Tryz.prog 30 #[.pointer (some ⟨db, 0, none⟩), .int .i64 id, .int .i64 before] w (DStep w0 w db d (.int .i64 18)) := by
  have HF := Lib.hid (DStep.same h (.int .i64 18) (Below.refl _ _))
  have HL := Lib.hid (live_ok h hi1 h0 h1)
  have HB := Lib.hid (beside_ok h hi3 hb h3)
  have HU := Lib.hid (h.upV h1)
  rw [pI_at ib (hw.nn hu)] at HU
  have HV := Lib.hid (h.upV h3)
  have hn1 := h.nodeI h1
  have he := h.items.eql h3 h1
  rw [decide_eq_false hbi] at he
  rcases hw.up before h3 with e | e
  · rw [e, pI_nil] at HV
    have hn : (binOp .neq 56 (.pointer none) (.pointer (some ⟨ib (d.upOf id), 0, none⟩))).run Tryz.prog w = .ok (.bool true) w := run_neq_nil_ptr w Tryz.underlying56 _
    clear h hw h0 h1 h3 hu hb hbi hbu e
    generalize d.upOf id = up at *
    go_enter Tryz.func30, Tryz.ntmps30
    go_wp2_with first
      | (go_at_call 50; refine HL.out.mono ?_; rintro e w' ⟨rfl, rfl⟩)
      | (go_at_call 51; refine HB.out.mono ?_; rintro e w' ⟨rfl, rfl⟩)
      | (go_at_call_of 21 (ib id); refine HU.out.mono ?_; rintro e w' ⟨rfl, rfl⟩)
      | (go_at_call_of 21 (ib before); refine HV.out.mono ?_; rintro e w' ⟨rfl, rfl⟩)
    go_ret
    exact HF.out
  · rw [pI_at ib (hw.nn e)] at HV
    have hn := h.items.neq e hu
    rw [decide_eq_false hbu] at hn
    clear h hw h0 h1 h3 hu hb hbi hbu e
    generalize d.upOf id = up at *
    generalize d.upOf before = ub at *
    go_enter Tryz.func30, Tryz.ntmps30
    go_wp2_with first
      | (go_at_call 50; refine HL.out.mono ?_; rintro e w' ⟨rfl, rfl⟩)
      | (go_at_call 51; refine HB.out.mono ?_; rintro e w' ⟨rfl, rfl⟩)
      | (go_at_call_of 21 (ib id); refine HU.out.mono ?_; rintro e w' ⟨rfl, rfl⟩)
      | (go_at_call_of 21 (ib before); refine HV.out.mono ?_; rintro e w' ⟨rfl, rfl⟩)
    go_ret
    exact HF.out
theorem move_ok_d (h : DomRep w0 w db mb nb ib D d) (hw : d.WF) (id before : Int) (hi1 : (Lit.int .i64 id).wf = true) (hi3 : (Lit.int .i64 before).wf = true) (h0 : id ≠ 0) (h1 : d.has id) (h3 : d.has before) (hu : d.upOf id ≠ -1) (h4 : ¬ (before = id ∨ before ≠ 0 ∧ d.upOf before ≠ d.upOf id)) :
    Calls Tryz.prog 30 #[.pointer (some ⟨db, 0, none⟩), .int .i64 id, .int .i64 before] w (DStep w0 w db ((d.detach id).attach (d.upOf id) id before) (.int .i64 0)) := by
  have hux := (hw.up id h1).resolve_left hu
  obtain ⟨p1, p2, p3, p4, p5, p6⟩ := move_pre hw h0 h1 h3 hu h4
  have hpc : placeC (d.detach id) (d.upOf id) id before = 0 := by
    unfold placeC
    rw [if_neg (by simpa using p4), if_neg p5, if_neg]
    rintro ⟨a1, a2⟩
    exact a2 ((p6.resolve_left a1).2.2)
  have h3' : (d.detach id).has before := (detach_has _).2 h3
  have HL := Lib.hid (live_ok h hi1 h0 h1)
  have HB := Lib.hid (beside_any h hi3 h3)
  have HU := Lib.hid (h.upV h1)
  rw [pI_at ib (hw.nn hux)] at HU
  have hn1 := h.nodeI h1
  have HDR := Lib.hid (drop_doc h.items hw h1 hu)
  have hstep : ∀ w1, Linked w ib d.has (dropL d.lk id) w1 → (w1.cell? ⟨nb id, 0, none⟩ = some (.pointer (some ⟨ib id, 0, none⟩))) ∧ Hid (Calls Tryz.prog 52 #[.pointer (some ⟨ib (d.upOf id), 0, none⟩), .pointer (some ⟨ib id, 0, none⟩), befV ib before] w1 (DStep w0 w db ((d.detach id).attach (d.upOf id) id before) (.int .i64 0))) := by
    intro w1 hl
    obtain ⟨r1, r2⟩ := h.relink (d' := d.detach id) rfl detach_get detach_has _ hl (fun m hm => detach_lk hw h1 hu m hm)
    refine ⟨r1.nodeI p3, (place_doc r1.items p1 p2 p3 h0 h3').mono fun e w' hp => ?_⟩
    obtain ⟨s1, s2, s3⟩ := r1.placed p1 h0 p3 p2 h3' hp
    rw [hpc] at s1 s2
    exact ⟨s1, s2, r2.trans s3⟩
  have HS := Lib.hid hstep
  by_cases e0 : before = 0
  · have hv : befV ib before = .pointer none := by unfold befV; rw [if_pos e0]
    rw [hv] at HB HS
    clear h hw h0 h1 h3 hu h4 hux p1 p2 p3 p4 p5 p6 hpc h3' hstep e0 hv
    generalize (d.detach id).attach (d.upOf id) id before = d' at *
    generalize d.upOf id = up at *
    go_enter Tryz.func30, Tryz.ntmps30
    go_wp2_with first
      | (go_at_call 50; refine HL.out.mono ?_; rintro e w' ⟨rfl, rfl⟩)
      | (go_at_call 51; refine HB.out.mono ?_; rintro e w' ⟨rfl, rfl⟩)
      | (go_at_call 21; refine HU.out.mono ?_; rintro e w' ⟨rfl, rfl⟩)
      | (go_at_call 55; refine HDR.out.mono ?_; rintro e w1 ⟨rfl, hl1⟩; obtain ⟨hn2, HP⟩ := HS.out _ hl1; clear hl1)
      | (go_at_call 52; refine HP.out.mono ?_; rintro e w2 ⟨rfl, hra⟩; have HRA := Lib.hid hra; clear hra)
    go_ret
    exact ⟨rfl, HRA.out⟩
  · have hv : befV ib before = .pointer (some ⟨ib before, 0, none⟩) := by unfold befV; rw [if_neg e0]
    rw [hv] at HB HS
    simp only [not_or] at h4
    have hbu : d.upOf before = d.upOf id := Classical.byContradiction fun h => h4.2 ⟨e0, h⟩
    have HV := Lib.hid (h.upV h3)
    rw [hbu, pI_at ib (hw.nn hux)] at HV
    have he := h.items.eql h3 h1
    rw [decide_eq_false h4.1] at he
    have hn := h.items.neq hux hux
    rw [decide_eq_true rfl] at hn
    clear h hw h0 h1 h3 hu h4 hux p1 p2 p3 p4 p5 p6 hpc h3' hstep e0 hv hbu
    generalize (d.detach id).attach (d.upOf id) id before = d' at *
    generalize d.upOf id = up at *
    go_enter Tryz.func30, Tryz.ntmps30
    go_wp2_with first
      | (go_at_call 50; refine HL.out.mono ?_; rintro e w' ⟨rfl, rfl⟩)
      | (go_at_call 51; refine HB.out.mono ?_; rintro e w' ⟨rfl, rfl⟩)
      | (go_at_call_of 21 (ib id); refine HU.out.mono ?_; rintro e w' ⟨rfl, rfl⟩)
      | (go_at_call_of 21 (ib before); refine HV.out.mono ?_; rintro e w' ⟨rfl, rfl⟩)
      | (go_at_call 55; refine HDR.out.mono ?_; rintro e w1 ⟨rfl, hl1⟩; obtain ⟨hn2, HP⟩ := HS.out _ hl1; clear hl1)
      | (go_at_call 52; refine HP.out.mono ?_; rintro e w2 ⟨rfl, hra⟩; have HRA := Lib.hid hra; clear hra)
    go_ret
    exact ⟨rfl, HRA.out⟩
theorem move_d (h : DomRep w0 w db mb nb ib D d) (hw : d.WF) (id before : Int) (hi1 : (Lit.int .i64 id).wf = true) (hi3 : (Lit.int .i64 before).wf = true) :
    Calls Tryz.prog 30 #[.pointer (some ⟨db, 0, none⟩), .int .i64 id, .int .i64 before] w (DStep w0 w db (d.moveD id before).2 (.int .i64 (d.moveD id before).1)) := by
  by_cases h0 : noneI d id ≠ 0
  · have hr : d.moveD id before = (noneI d id, d) := by unfold Doc.moveD; exact noneI_of () _ h0
    rw [hr]
    exact move_bad h id before _ hi1 rfl h0
  obtain ⟨h0, h1⟩ := noneI_pos h0
  unfold Doc.moveD
  rw [if_neg h0, if_neg (by simpa using h1)]
  by_cases h3 : d.has before
  · rw [if_neg (by simpa using h3)]
    by_cases hu : d.upOf id = -1
    · rw [if_pos hu]; exact move_free_d h hw id before hi1 hi3 h0 h1 h3 hu
    rw [if_neg hu]
    have hux := (hw.up id h1).resolve_left hu
    by_cases h4 : before = id ∨ before ≠ 0 ∧ d.upOf before ≠ d.upOf id
    · rw [if_pos h4]
      by_cases h5 : before = id
      · rw [h5]; exact move_self_d h hw id hi1 h0 h1 hux
      · exact move_place_d h hw id before hi1 hi3 h0 h1 h3 hux (h4.resolve_left h5).1 h5 (h4.resolve_left h5).2
    · rw [if_neg h4]; exact move_ok_d h hw id before hi1 hi3 h0 h1 h3 hu h4
  · rw [if_pos h3]; exact move_far_d h hw id before hi1 hi3 h0 h1 h3
end
end Go.Proofs.YtacobpmmpdadpaaGreat
set_option linter.unusedVariables false
set_option linter.unusedSimpArgs false
namespace Go.Proofs.YtacobpmmpdadpaaGreat
open Go.RowKit Doc
/-- delete, as one step of a region that draws. -/
theorem step_delete {P : Program} {W : World} {ops : Array Oper} {o : Oper} {a : Act} {K : Act → World → Prop} {Q : Exit → Act → World → Prop} {E : Prop} (hgd : o.guard = none) (m x : Operand) (t k : TypeId)
    (ho : o.op = .call { callee := .builtin .delete, args := #[m, x], argTypes := #[t, k] }) {H : Type} (e : TypeId) (KK : Maps.Keyed P k) (ht : P.underlying t = some (.map k e)) (R : Value → Option (DataW H × List MemPlace)) (b n : Nat) (D : DataW H)
    (hm : a.eval m = .map (some b)) (hown : W.ownsMap P k R b n D) (key : Value) (kl : Lit) (hx : a.eval x = key) (hkey : keyOf P k key = some kl)
    (h : ∀ w1, w1.ownsMap P k R b n (D.del kl) → W.grownBy w1 (some b) → K (a.put o.dst (.tuple #[])) w1) :
    if Region.wanted o (yielded ops a.tmps) = true then Oper.wp P o a W K Q else E := by
  have hw : Region.wanted o (yielded ops a.tmps) = true := by simp [Region.wanted, hgd]
  rw [if_pos hw]
  obtain ⟨w', hrun, r1, r2⟩ := hown.drop KK ht hkey o.type
  unfold Oper.wp
  simp [execOp, ho, resolve, invoke, builtin, hm, hx, hrun, Result.andThen]
  exact h w' r1 r2.grown
/-- The closure of Remove: it has captured the variables d and end. -/
def endV (bd be : Nat) : Value := .func (.func 56) #[] #[.pointer (some ⟨bd, 0, none⟩), .pointer (some ⟨be, 0, none⟩)]
theorem grown_cell {w w' : World} {mb : Nat} (hg : w.grownBy w' (some mb)) {es : Array MapEntry} {clock : Nat} (hm : w.heap[mb]? = some (.map es clock)) {p : Addr} {v : Value} (h : w.cell? p = some v) : w'.cell? p = some v := by
  have hb := World.block_lt_of_cell? w p h
  have hne : p.block ≠ mb := fun e => by
    rw [← e] at hm
    simp [World.cell?, hm] at h
  rw [World.cell?_of_block (w := w) (hg.block p.block hb (by simpa using hne))]
  exact h
section
variable {w : World} {nb ib : Int → Nat} {d : Doc} {mb n : Nat}
structure EndAt (W : World) (bd be db mb n : Nat) (ib : Int → Nat) (d : Doc) (D : DataW Unit) : Prop where
  items : Items W ib d.lk d.has
  cd : W.cell? ⟨bd, 0, none⟩ = some (.pointer (some ⟨db, 0, none⟩))
  cb : W.cell? ⟨db, 0, none⟩ = some (.map (some mb))
  ce : W.cell? ⟨be, 0, none⟩ = some (endV bd be)
  map : W.ownsMap Tryz.prog 3 dE mb n D
theorem EndAt.grown {W W' : World} {bd be db : Nat} {D D' : DataW Unit} (h : EndAt W bd be db mb n ib d D) (hg : W.grownBy W' (some mb)) (hm : W'.ownsMap Tryz.prog 3 dE mb n D') : EndAt W' bd be db mb n ib d D' := by
  obtain ⟨es, clock, h1, _⟩ := h.map
  refine ⟨⟨h.items.nn, h.items.inj, fun m hm => ?_, h.items.cl⟩, grown_cell hg h1 h.cd, grown_cell hg h1 h.cb, grown_cell hg h1 h.ce, hm⟩
  have h2 := h.items.cells m hm
  have hne : ib m ≠ mb := fun e => by rw [e, h1] at h2; cases h2
  rw [hg.block _ (Array.getElem?_eq_some_iff.1 h2).1 (by simpa using hne)]
  exact h2
def EndPost (W : World) (mb n : Nat) (nb : Int → Nat) (S : Int → Prop) (e : Ending) (w' : World) : Prop := e = .returned (.tuple #[]) ∧ W.grownBy w' (some mb) ∧ ∃ D', w'.ownsMap Tryz.prog 3 dE mb n D' ∧ MapIs D' S nb
def DelPost (W : World) (mb n : Nat) (nb : Int → Nat) (S : Int → Prop) (w' : World) : Prop := W.grownBy w' (some mb) ∧ ∃ D', w'.ownsMap Tryz.prog 3 dE mb n D' ∧ MapIs D' S nb
theorem grownBy_refl (w : World) (r : Option Nat) : w.grownBy w r := ⟨rfl, rfl, rfl, Nat.le_refl _, fun _ _ _ => rfl⟩
theorem grownBy_drew {w w' : World} {r : Option Nat} (h : w.grownBy w' r) : w.grownBy w'.drew r := ⟨h.os, h.tape, h.output, h.size, h.block⟩
theorem grownBy_of_drew {w w' : World} {r : Option Nat} (h : w.drew.grownBy w' r) : w.grownBy w' r := ⟨h.os, h.tape, h.output, h.size, h.block⟩
set_option maxHeartbeats 1000000 in
theorem end_d (hw : d.WF) {rk : Int → Nat} (hr : ∀ x, d.has x → d.upOf x ≠ -1 → rk (d.upOf x) < rk x) {M : Nat} (hM : ∀ x, d.has x → rk x ≤ M) (bd be db : Nat) :
    ∀ (k : Nat) (x : Int), d.has x → M < k + rk x → ∀ (W : World) (S : Int → Prop) (D : DataW Unit), EndAt W bd be db mb n ib d D → MapIs D S nb → (∀ y, d.has y → (Lit.int .i64 y).wf = true) →
      Calls Tryz.prog 56 #[.pointer (some ⟨ib x, 0, none⟩), .pointer (some ⟨bd, 0, none⟩), .pointer (some ⟨be, 0, none⟩)] W (EndPost W mb n nb fun m => S m ∧ ¬ d.Anc m x) := by
  intro k
  induction k with
  | zero => intro x hx h; have := hM x hx; omega
  | succ k ih =>
    intro x hx hk W S D hE hS hwf
    have IH := Lib.hid ih
    have HE := Lib.hid hE
    have HS := Lib.hid hS
    have HW := Lib.hid hw
    have HX := Lib.hid hx
    have HWF := Lib.hid hwf
    have HRK := Lib.hid hr
    have HMAP := Lib.hid hE.map.drew
    have cd := hE.cd
    have cb := hE.cb
    have cm := hE.items.cell hx 0
    replace cm : W.cell? ⟨ib x, 0, none⟩ = some (.int .i64 x) := cm
    have HMK := Lib.hid (mark_at (ib x) (.int .i64 x) W.drew cm)
    have HKEY := Lib.hid (keyI (hwf x hx))
    obtain ⟨s, hs⟩ : ∃ s, s = d.kidsOf x := ⟨_, rfl⟩
    have HSK := Lib.hid hs
    obtain ⟨len, hlen⟩ : ∃ len, len = s.length := ⟨_, rfl⟩
    have HLEN := Lib.hid hlen
    have HK := Lib.hid hk
    clear ih hE hS hx hwf hw hs hlen hk hr cm
    go_enter Tryz.func56, Tryz.ntmps56
    go_wp2_with fail
    go_cut [] from 5 to 10 (fun wx => DelPost W mb n nb (fun m => S m ∧ m ≠ x) wx)
    case first =>
      go_region_law (first
        | (go_simp; go_at_call 27; refine HMK.out.mono ?_; rintro e' w4 ⟨rfl, rfl⟩)
        | (refine step_delete rfl (.tmp 8) (.tmp 10) 60 3 rfl 55 lawI Tryz.underlying60 dE mb n D (by simp [Act.eval, Act.put]) HMAP.out (.int .i64 x) _ (by simp [Act.eval, Act.put]) HKEY.out ?_; intro w1 hown1 hgrow1))
      all_goals (go_wp2_with fail)
      all_goals go_meet
      all_goals exact ⟨grownBy_of_drew hgrow1, _, hown1, HS.out.del x⟩
    case rest =>
      obtain ⟨hg1, D1, hm1, hs1⟩ := hcut
      have E1 := HE.out.grown hg1 hm1
      have HE1 := Lib.hid E1
      have HG1 := Lib.hid hg1
      have HFI := Lib.hid (first_at (ib x) _ wc (E1.items.c2 HX.out))
      rw [Doc.first_kid, ← HSK.out] at HFI
      have HS1 := Lib.hid hs1
      clear hg1 hm1 E1 hs1 cd cb HMK HMAP HKEY
      go_wp2_with (go_at_call 22; refine HFI.out.mono ?_; rintro e' w4 ⟨rfl, rfl⟩)
      go_loopg [4] len (fun gk v wr => ∃ (j : Nat) (D' : DataW Unit), j + gk = len ∧ v = pI ib (kidAt s j) ∧ wc.grownBy wr (some mb) ∧ Hid (EndAt wr bd be db mb n ib d D') ∧ Hid (MapIs D' (fun m => (S m ∧ m ≠ x) ∧ ∀ i, i < j → ¬ d.Anc m (kidAt s i)) nb))
      case atStart =>
        exact ⟨0, D1, by omega, rfl, grownBy_refl _ _, HE1, HS1.out.congr (fun m => ⟨fun h => ⟨h, fun i hi => absurd hi (by omega)⟩, fun h => h.1⟩) (fun _ _ => rfl)⟩
      case round =>
        obtain ⟨j, D', hj, rfl, hgr, HEr, HSr⟩ := hrel
        have HGR := Lib.hid hgr
        clear hgr
        cases gk with
        | zero =>
          have hj' : j = len := by omega
          have hend : pI ib (kidAt s j) = .pointer none := by rw [kidAt_end (by rw [← HLEN.out]; omega)]; rfl
          rw [hend]
          have hfin : EndPost W mb n nb (fun m => S m ∧ ¬ d.Anc m x) (.returned (.tuple #[])) wr := by
            refine ⟨rfl, World.grownBy.trans HG1.out HGR.out, D', HEr.out.map, HSr.out.congr (fun m => ?_) (fun _ _ => rfl)⟩
            constructor
            · rintro ⟨⟨h1, h2⟩, h3⟩
              refine ⟨h1, fun ha => ?_⟩
              obtain ⟨c, hc, hac⟩ := Doc.anc_kid HW.out HX.out ha h2
              rw [← HSK.out] at hc
              obtain ⟨i, hi, e⟩ := List.getElem_of_mem hc
              refine h3 i (by rw [hj', HLEN.out]; exact hi) ?_
              rw [kidAt_lt hi, List.getD_eq_getElem?_getD, List.getElem?_eq_getElem hi, Option.getD_some, e]
              exact hac
            · rintro ⟨h1, h2⟩
              refine ⟨⟨h1, fun e => h2 (e ▸ Doc.Anc.refl _)⟩, fun i hi ha => h2 (Doc.kid_anc HW.out HX.out ?_ ha)⟩
              rw [← HSK.out]
              exact kidAt_mem (by rw [← HLEN.out]; omega)
          have HFIN := Lib.hid hfin
          clear hfin hend hj'
          go_wp2
          go_end0
          exact HFIN.out
        | succ gk =>
          have hjl : j < (d.kidsOf x).length := by rw [← HSK.out, ← HLEN.out]; omega
          obtain ⟨hc1, hc2⟩ := Doc.kid_has HW.out HX.out hjl
          have hcn := Doc.next_kid HW.out HX.out hjl
          rw [← HSK.out] at hc1 hc2 hcn
          have hx0 := HW.out.nn HX.out
          have hrk := HRK.out _ hc1 (by omega)
          rw [hc2] at hrk
          have HREC := Lib.hid (IH.out (kidAt s j) hc1 (by have := HK.out; omega) wr _ D' HEr.out HSr.out HWF.out)
          have hpi : pI ib (kidAt s j) = .pointer (some ⟨ib (kidAt s j), 0, none⟩) := pI_at ib (HW.out.nn hc1)
          rw [hpi]
          have hce := HEr.out.ce
          unfold endV at hce
          have HC1 := Lib.hid hc1
          have HCN := Lib.hid hcn
          have HMP := Lib.hid fun (D2 : DataW Unit) (h : MapIs D2 (fun m => ((S m ∧ m ≠ x) ∧ ∀ i, i < j → ¬ d.Anc m (kidAt s i)) ∧ ¬ d.Anc m (kidAt s j)) nb) => (h.congr (S' := fun m => (S m ∧ m ≠ x) ∧ ∀ i, i < j + 1 → ¬ d.Anc m (kidAt s i)) (fun m => ⟨fun h => ⟨h.1.1, fun i hi => by
              rcases Nat.lt_or_ge i j with h' | h'
              · exact h.1.2 i h'
              · rw [show i = j by omega]; exact h.2⟩, fun h => ⟨⟨h.1, fun i hi => h.2 i (by omega)⟩, h.2 j (by omega)⟩⟩) (fun _ _ => rfl))
          clear hc1 hc2 hcn hrk hjl hx0 hpi
          go_wp2_with (first
            | (go_at_call 56; refine HREC.out.mono ?_; rintro e' w5 ⟨rfl, hg5, D5, hm5, hs5⟩; have E5 := HEr.out.grown hg5 hm5; have HNX := Lib.hid (next_at (ib (kidAt s j)) _ w5 (E5.items.c5 HC1.out)); rw [HCN.out] at HNX; have HE5 := Lib.hid E5; have HG5 := Lib.hid hg5; have HS5 := Lib.hid hs5; clear E5 hg5 hm5 hs5)
            | (go_at_call 25; refine HNX.out.mono ?_; rintro e' w6 ⟨rfl, rfl⟩))
          go_roundg gk
          case rel => exact ⟨j + 1, D5, by omega, rfl, World.grownBy.trans HGR.out HG5.out, HE5, HMP.out _ HS5.out⟩
          case measure => omega
end
end Go.Proofs.YtacobpmmpdadpaaGreat
set_option linter.unusedVariables false
set_option linter.unusedSimpArgs false
namespace Go.Proofs.YtacobpmmpdadpaaGreat
open Go.RowKit Doc
theorem Doc.lk_cl {d : Doc} (hw : d.WF) (m : Int) (hm : d.has m) : ((d.lk m).up = -1 ∨ d.has (d.lk m).up) ∧ ((d.lk m).first = -1 ∨ d.has (d.lk m).first) ∧ ((d.lk m).last = -1 ∨ d.has (d.lk m).last) ∧ ((d.lk m).prev = -1 ∨ d.has (d.lk m).prev) ∧ ((d.lk m).next = -1 ∨ d.has (d.lk m).next) := by
  have hk : ∀ u x, x ∈ d.kidsOf u → d.has x := fun u x hx => by
    by_cases hu : d.has u
    · exact ((hw.kid u x hu).1 hx).1
    · rw [kidsOf_none hu] at hx; cases hx
  refine ⟨hw.up m hm, ?_, ?_, ?_, ?_⟩
  · show (d.kidsOf m).headD (-1) = -1 ∨ d.has ((d.kidsOf m).headD (-1))
    cases e : d.kidsOf m with
    | nil => exact .inl rfl
    | cons a r => exact .inr (hk m a (by rw [e]; simp))
  · show (d.kidsOf m).getLastD (-1) = -1 ∨ d.has ((d.kidsOf m).getLastD (-1))
    rcases Classical.em (d.kidsOf m = []) with e | e
    · rw [e]; exact .inl rfl
    · exact .inr (hk m _ (getLastD_mem _ e))
  · exact (prevIn_mem (d.kidsOf (d.upOf m)) m).imp id (hk _ _)
  · exact (nextIn_mem (d.kidsOf (d.upOf m)) m).imp id (hk _ _)
noncomputable def dropD (d : Doc) (id : Int) : Doc := if d.upOf id = -1 then d else d.detach id
section
variable {w0 w : World} {db mb : Nat} {nb ib : Int → Nat} {D : DataW Unit} {d : Doc}
def DropPost (w0 w : World) (db mb : Nat) (nb ib : Int → Nat) (D : DataW Unit) (d : Doc) (e : Ending) (w' : World) : Prop :=
  ∃ c : Int, e = .returned (.int .i64 c) ∧ DomRep w0 w' db mb nb ib D d ∧ Fr w0.heap.size tsD w w' ∧ ∀ (b : Nat) (cs : Array Value) (t : TypeId), w.heap[b]? = some (Obj.cells cs t (0, 0)) → t ≠ 94 → w'.heap[b]? = some (Obj.cells cs t (0, 0))
theorem drop_any (h : DomRep w0 w db mb nb ib D d) (hw : d.WF) {id : Int} (hid : d.has id) :
    Calls Tryz.prog 55 #[.pointer (some ⟨ib id, 0, none⟩)] w (DropPost w0 w db mb nb ib D (dropD d id)) := by
  unfold dropD
  by_cases hu : d.upOf id = -1
  · rw [if_pos hu]
    refine (drop_free h.items hid hu).mono ?_
    rintro e w' ⟨rfl, rfl⟩
    exact ⟨16, rfl, h, Fr.refl _ _ _, fun _ _ _ h _ => h⟩
  · rw [if_neg hu]
    refine (drop_doc h.items hw hid hu).mono ?_
    rintro e w' ⟨rfl, hl⟩
    obtain ⟨r1, r2⟩ := h.relink (d' := d.detach id) rfl detach_get detach_has _ hl (fun m hm => detach_lk hw hid hu m hm)
    refine ⟨0, rfl, r1, r2, fun b cs t hb ht => ?_⟩
    refine (hl.2.2.2.2.2 b fun n hn e => ?_).trans hb
    have := h.items.cells n hn
    rw [← e, hb] at this
    injection this with this
    injection this with _ this _
    exact ht this
/-- What the closure leaves of the document. -/
theorem DomRep.pruned {w' : World} (h : DomRep w0 w db mb nb ib D d) (hw : d.WF) {id : Int} (hid : d.has id) (hu : d.upOf id = -1) (h0 : id ≠ 0) {n : Nat} (hn : n ≤ 1000000000000) (hg : w.grownBy w' (some mb)) {D' : DataW Unit} (hm : w'.ownsMap Tryz.prog 3 dE mb n D') (hs : MapIs D' (fun m => d.has m ∧ ¬ d.Anc m id) nb) :
    DomRep w0 w' db mb nb ib D' (d.prune id) ∧ Fr w0.heap.size tsD w w' := by
  obtain ⟨q, hq, es, clock, hm1, hm2⟩ := h.map
  have hfr : Fr w0.heap.size tsD w w' := Fr.grownBy hg h.lom hm1 (by simp [tyo, tsD])
  have keep : ∀ (b : Nat) (cs : Array Value) (t : TypeId) (fr : Nat × Nat), w.heap[b]? = some (.cells cs t fr) → w'.heap[b]? = some (.cells cs t fr) := fun b cs t fr hb =>
    (hg.block b (Array.getElem?_eq_some_iff.1 hb).1 (by simpa using h.mb_ne hb)).trans hb
  have hhas : ∀ m, (d.prune id).has m → d.has m := fun m hm => (prune_has.1 hm).1
  refine ⟨⟨h.lo, h.lom, fun x hx => h.lon x (hhas x hx), fun x hx => h.loi x (hhas x hx), keep _ _ _ _ h.hd, ⟨n, hn, hm⟩, hs.congr (fun m => prune_has.symm) (fun _ _ => rfl), fun x n' hx => ?_, fun x y hx hy => h.inj x y (hhas x hx) (hhas y hy), ⟨fun m hm => h.items.nn m (hhas m hm), fun a b ha hb => h.items.inj a b (hhas a ha) (hhas b hb), fun m hm => ?_, fun m hm => Doc.lk_cl (hw.prune hid hu h0) m hm⟩⟩, hfr⟩
  · rw [prune_get] at hx
    split at hx
    · cases hx
    · obtain ⟨A, c, h1, h2⟩ := h.nodes x n' hx
      exact ⟨A, c, keep _ _ _ _ h1, h2.fr hfr tsD_A⟩
  · rw [prune_lk hw hid m hm]
    exact keep _ _ _ _ (h.items.cells m (hhas m hm))
theorem dropD_facts (hw : d.WF) {id : Int} (hid : d.has id) (h0 : id ≠ 0) : (dropD d id).WF ∧ (dropD d id).has id ∧ (dropD d id).upOf id = -1 ∧ ∀ m, (dropD d id).has m ↔ d.has m := by
  unfold dropD
  by_cases hu : d.upOf id = -1
  · rw [if_pos hu]; exact ⟨hw, hid, hu, fun _ => Iff.rfl⟩
  · rw [if_neg hu]; exact ⟨hw.detach hid h0 hu, (detach_has _).2 hid, by rw [detach_up, if_pos rfl], detach_has⟩
theorem wf_id (hw : d.WF) {y : Int} (hy : d.has y) : (Lit.int .i64 y).wf = true := WalkArith.wf_i64 ⟨by have := hw.nn hy; omega, by have := hw.below y hy; have := hw.next2; omega⟩
/-- The closure, as Remove calls it. -/
theorem end_call (h : DomRep w0 w db mb nb ib D d) (hw : d.WF) {id : Int} (hid : d.has id) (hu : d.upOf id = -1) (h0 : id ≠ 0) (bd be : Nat) (cd : w.cell? ⟨bd, 0, none⟩ = some (.pointer (some ⟨db, 0, none⟩))) (ce : w.cell? ⟨be, 0, none⟩ = some (endV bd be)) :
    Calls Tryz.prog 56 #[.pointer (some ⟨ib id, 0, none⟩), .pointer (some ⟨bd, 0, none⟩), .pointer (some ⟨be, 0, none⟩)] w (DStep w0 w db (d.prune id) (.tuple #[])) := by
  obtain ⟨rk, hr⟩ := hw.rank
  obtain ⟨M, hM⟩ := rank_bound rk d.nodes
  obtain ⟨n, hn, hm⟩ := h.map
  refine (end_d (n := n) hw hr (M := M) (by rintro x ⟨n, hn, rfl⟩; exact hM n hn) bd be db (M + 1) id hid (by omega) w d.has D ⟨h.items, cd, h.p0, ce, hm⟩ h.is_ (fun y hy => wf_id hw hy)).mono ?_
  rintro e w' ⟨rfl, hg, D', hm', hs'⟩
  obtain ⟨r1, r2⟩ := h.pruned hw hid hu h0 hn hg hm' hs'
  exact ⟨rfl, ⟨mb, nb, ib, D', r1⟩, r2⟩
theorem remove_d (h : DomRep w0 w db mb nb ib D d) (hw : d.WF) (id : Int) (hi1 : (Lit.int .i64 id).wf = true) :
    Calls Tryz.prog 31 #[.pointer (some ⟨db, 0, none⟩), .int .i64 id] w (DStep w0 w db (d.removeD id).2 (.int .i64 (d.removeD id).1)) := by
  have hgb : Grow w (w.alloc (.cells #[.pointer (some ⟨db, 0, none⟩)] 25)) := grow_alloc (Below.refl _ _) _
  have hR1 := h.grow hgb
  by_cases h0 : noneI d id ≠ 0
  · have hr : d.removeD id = (noneI d id, d) := by unfold Doc.removeD; exact noneI_of () _ h0
    rw [hr]
    have HF := Lib.hid (DStep.same h (.int .i64 (noneI d id)) hgb)
    have HL := Lib.hid (live_no hR1 hi1 rfl h0)
    have e1 : (noneI d id != 0) = true := by simpa using h0
    clear h hr h0 hw hgb hR1
    generalize noneI d id = c at *
    go_enter Tryz.func31, Tryz.ntmps31
    go_wp2_with (go_at_call 50; refine HL.out.mono ?_; rintro e w' ⟨rfl, rfl⟩)
    go_ret
    exact HF.out
  obtain ⟨h0, h1⟩ := noneI_pos h0
  obtain ⟨q1, q2, q3, q4⟩ := dropD_facts hw h1 h0
  have hr : d.removeD id = (0, (dropD d id).prune id) := by unfold Doc.removeD dropD; rw [if_neg h0, if_neg (by simpa using h1)]
  rw [hr]
  have HL := Lib.hid (live_ok hR1 hi1 h0 h1)
  have HDR := Lib.hid (drop_any hR1 hw h1)
  have hn0 := hR1.nodeI h1
  have hbd : (w.alloc (.cells #[.pointer (some ⟨db, 0, none⟩)] 25)).heap[w.heap.size]? = some (.cells #[.pointer (some ⟨db, 0, none⟩)] 25 (0, 0)) := heap_alloc_new w _
  obtain ⟨nd, hnd, A, c, hnb, _⟩ := hR1.hasOf h1
  have hstep : ∀ e w2, DropPost w0 (w.alloc (.cells #[.pointer (some ⟨db, 0, none⟩)] 25)) db mb nb ib D (dropD d id) e w2 → (∃ c : Int, e = .returned (.int .i64 c)) ∧ w2.cell? ⟨w.heap.size, 0, none⟩ = some (.pointer (some ⟨db, 0, none⟩)) ∧ w2.cell? ⟨nb id, 0, none⟩ = some (.pointer (some ⟨ib id, 0, none⟩)) ∧
      Hid (∀ W, Grow (w2.alloc (.cells #[endV w.heap.size w2.heap.size] 99)) W → Calls Tryz.prog 56 #[.pointer (some ⟨ib id, 0, none⟩), .pointer (some ⟨w.heap.size, 0, none⟩), .pointer (some ⟨w2.heap.size, 0, none⟩)] W (DStep w0 w db ((dropD d id).prune id) (.tuple #[]))) := by
    rintro e w2 ⟨c, rfl, r1, r2, r3⟩
    have c1 : w2.cell? ⟨w.heap.size, 0, none⟩ = some (.pointer (some ⟨db, 0, none⟩)) := by simp [World.cell?, r3 _ _ _ hbd (by decide)]
    refine ⟨⟨c, rfl⟩, c1, by simp [World.cell?, r3 _ _ _ hnb (by decide)], fun W hW => ?_⟩
    have hg2 : Grow w2 W := Grow.trans' (grow_alloc (Below.refl _ _) _) hW
    refine (end_call (r1.grow hg2) q1 q2 q3 h0 w.heap.size w2.heap.size (Grow.cell hg2 c1) (Grow.cell hW (by simp [World.cell?_alloc_new]))).mono ?_
    rintro e w' ⟨rfl, s2, s3⟩
    exact ⟨rfl, s2, (Fr.of_grow hgb).trans (r2.trans ((Fr.of_grow hg2).trans s3))⟩
  have HS := Lib.hid hstep
  clear h hw h0 h1 hr q1 q2 q3 q4 hgb hR1 hbd hnb hnd hstep
  unfold endV at HS
  go_enter Tryz.func31, Tryz.ntmps31
  go_wp2_with (first
    | (go_at_call 50; refine HL.out.mono ?_; rintro e w' ⟨rfl, rfl⟩)
    | (go_at_call 55; refine HDR.out.mono ?_; intro e w2 hp2; obtain ⟨⟨c2, rfl⟩, hc1, hc2, HEND⟩ := HS.out _ _ hp2; clear hp2))
  have hc3 := cell_alloc hc2 (Obj.cells #[.func (.func 56) #[] #[.pointer (some ⟨w.heap.size, 0, none⟩), .pointer (some ⟨w2.heap.size, 0, none⟩)]] 99)
  go_region_with (go_at_call 56; refine (HEND.out _ ?hg).mono ?_; (case hg => repeat (first | exact Below.refl _ _ | apply grow_drew)); rintro e w3 ⟨rfl, hra⟩; have HRA := Lib.hid hra; clear hra)
  all_goals (go_wp2_with fail)
  all_goals go_ret
  all_goals exact ⟨rfl, HRA.out⟩
end
end Go.Proofs.YtacobpmmpdadpaaGreat
set_option linter.unusedVariables false
set_option linter.unusedSimpArgs false
namespace Go.Proofs.YtacobpmmpdadpaaGreat
open Go.RowKit Doc
def keyInt : Lit → Int | .int _ x => x | _ => 0
theorem ownsMap_keys {w : World} {b n : Nat} {D : DataW Unit} (hm : w.ownsMap Tryz.prog 3 dE b n D) : ∃ E : List (Lit × DataW Unit), D = .map E ∧ (E.map fun p => keyInt p.1).Nodup ∧ (∀ p ∈ E, p.1 = .int .i64 (keyInt p.1) ∧ (Lit.int .i64 (keyInt p.1)).wf = true) := by
  obtain ⟨E, hE, hpw⟩ := hm.tidy lawI
  obtain ⟨es, clock, hb, F, hs, hD⟩ := hm
  have hk : ∀ p ∈ E, p.1 = .int .i64 (keyInt p.1) ∧ (Lit.int .i64 (keyInt p.1)).wf = true := fun p hp => by
    rw [hE] at hD
    injection hD with hD
    rw [hD] at hp
    have := Maps.fit_keys F p (mem_sorted.1 hp)
    obtain ⟨v, hv⟩ := this
    obtain ⟨x, _, h2, h3⟩ := Maps.keyOf_int_inv Tryz.underlying3 hv
    rw [h2]; exact ⟨rfl, h3⟩
  refine ⟨E, hE, ?_, hk⟩
  rw [List.nodup_iff_pairwise_ne, List.pairwise_map]
  refine List.Pairwise.imp_of_mem ?_ hpw
  intro p q hp hq h e
  apply h
  rw [(hk p hp).1, (hk q hq).1, e]
theorem MapIs.size {w : World} {b n : Nat} {D : DataW Unit} (hm : w.ownsMap Tryz.prog 3 dE b n D) {S : Int → Prop} {nb : Int → Nat} (h : MapIs D S nb) {l : List Int} (hl : l.Nodup) (hS : ∀ x, S x ↔ x ∈ l) : Maps.size D = l.length := by
  obtain ⟨E, rfl, hn, hk⟩ := ownsMap_keys hm
  have hmem : ∀ x, x ∈ (E.map fun p => keyInt p.1) ↔ x ∈ l := fun x => by
    rw [← hS, ← h.has_ x, Maps.has_eq, List.any_eq_true, List.mem_map]
    constructor
    · rintro ⟨p, hp, rfl⟩
      refine ⟨p, hp, ?_⟩
      rw [(hk p hp).1]
      simp [Lit.sameKey, keyInt]
    · rintro ⟨p, hp, hs⟩
      refine ⟨p, hp, ?_⟩
      rw [(hk p hp).1] at hs
      simpa [Lit.sameKey] using hs
  rw [Maps.size_eq]
  have h1 := nodup_le _ _ hn fun a ha => (hmem a).1 ha
  have h2 := nodup_le _ _ hl fun a ha => (hmem a).2 ha
  rw [List.length_map] at h1 h2
  omega
theorem ownsMap_tight {w : World} {b n : Nat} {D : DataW Unit} (hm : w.ownsMap Tryz.prog 3 dE b n D) : w.ownsMap Tryz.prog 3 dE b (Maps.size D) D := by
  obtain ⟨es, clock, hb, F, hs, rfl⟩ := hm
  exact ⟨es, clock, hb, F, by rw [Maps.size_eq, length_sorted, List.length_map, Array.length_toList]; exact Nat.le_refl _, rfl⟩
theorem ids_nodup {d : Doc} (hw : d.WF) : (d.nodes.map (·.id)).Nodup := List.Pairwise.imp (fun h e => by omega) hw.sorted
theorem has_ids {d : Doc} (x : Int) : d.has x ↔ x ∈ d.nodes.map (·.id) := by
  rw [List.mem_map]; rfl
section
variable {w0 w : World} {db mb : Nat} {nb ib : Int → Nat} {D : DataW Unit} {d : Doc}
theorem DomRep.size (h : DomRep w0 w db mb nb ib D d) (hw : d.WF) : Maps.size D = d.nodes.length := by
  obtain ⟨n, _, hm⟩ := h.map
  rw [h.is_.size hm (ids_nodup hw) (fun x => has_ids x), List.length_map]
theorem DomRep.tight (h : DomRep w0 w db mb nb ib D d) (hw : d.WF) : w.ownsMap Tryz.prog 3 dE mb d.nodes.length D := by
  obtain ⟨n, _, hm⟩ := h.map
  rw [← h.size hw]; exact ownsMap_tight hm
end
/-- The world behind a store into the map. -/
noncomputable def putW (W : World) (mb : Nat) (id : Int) (b : Nat) : World :=
  match (Instr.mapUpdate 60 (.map (some mb)) (.int .i64 id) (.pointer (some ⟨b, 0, none⟩))).run Tryz.prog W with
  | .ok _ w' => w'
  | _ => W
theorem putW_run {W : World} {mb n : Nat} {D : DataW Unit} (hm : W.ownsMap Tryz.prog 3 dE mb n D) (hn : n ≤ 1000000000000) {id : Int} (hid : (Lit.int .i64 id).wf = true) (b : Nat) :
    (Instr.mapUpdate 60 (.map (some mb)) (.int .i64 id) (.pointer (some ⟨b, 0, none⟩))).run Tryz.prog W = .ok () (putW W mb id b) ∧ (putW W mb id b).ownsMap Tryz.prog 3 dE mb (n + 1) (D.put (.int .i64 id) (.lit (.int .i64 b))) ∧ W.grownBy (putW W mb id b) (some mb) := by
  obtain ⟨w', hrun, h1, h2⟩ := hm.update lawI Tryz.underlying60 (by simp only [maxLen]; omega) (keyI hid) (dE_at b)
  have e : putW W mb id b = w' := by unfold putW; rw [hrun]
  rw [e]
  exact ⟨hrun, h1, h2⟩
end Go.Proofs.YtacobpmmpdadpaaGreat
set_option linter.unusedVariables false
set_option linter.unusedSimpArgs false
namespace Go.Proofs.YtacobpmmpdadpaaGreat
open Go.RowKit Doc
def itemC (id : Int) : Array Value := #[.int .i64 id, .pointer none, .pointer none, .pointer none, .pointer none, .pointer none]
section
variable {w0 w : World} {db mb : Nat} {nb ib : Int → Nat} {D : DataW Unit} {d : Doc}
/-- What a new node's store into the map leaves of the document. -/
theorem DomRep.created (h : DomRep w0 w db mb nb ib D d) (hw : d.WF) (hfew : d.nodes.length ≤ 1000000) (h5 : d.next ≤ 4294967295) (tag key text : ByteArray) (l : List At) (hl64 : l.length ≤ 64) {W6 : World} (hg : Grow (w.setCell ⟨db, 1, none⟩ (.int .i64 (d.next + 1))) W6) (bi bn : Nat) (hbi : w.heap.size ≤ bi) (hbn : w.heap.size ≤ bn) (hi : W6.heap[bi]? = some (.cells (itemC d.next) 94 (0, 0))) (A : Option Addr) (c : Nat)
    (hn : W6.heap[bn]? = some (.cells #[.pointer (some ⟨bi, 0, none⟩), .string tag, .string key, .string text, .slice A l.length c] 59 (0, 0))) (hl : RdV EAt 2 W6 (Imm w0.heap.size tsA W6) (.slice A l.length c) l) :
    (Instr.mapUpdate 60 (.map (some mb)) (.int .i64 d.next) (.pointer (some ⟨bn, 0, none⟩))).run Tryz.prog W6 = .ok () (putW W6 mb d.next bn) ∧
    DStep w0 w db (d.push ⟨d.next, -1, [], tag, key, text, l⟩) (.tuple #[.int .i64 d.next, .int .i64 0]) (.returned (.tuple #[.int .i64 d.next, .int .i64 0])) (putW W6 mb d.next bn) := by
  obtain ⟨nd, hnd⟩ : ∃ nd : Nd, nd = ⟨d.next, -1, [], tag, key, text, l⟩ := ⟨_, rfl⟩
  have hid : nd.id = d.next := by rw [hnd]
  have hup : nd.up = -1 := by rw [hnd]
  have hki : nd.kids = [] := by rw [hnd]
  have hw1 := hw.next1
  have hwf : (Lit.int .i64 d.next).wf = true := WalkArith.wf_i64 ⟨by omega, by omega⟩
  obtain ⟨W1, hW1⟩ : ∃ W1, W1 = w.setCell ⟨db, 1, none⟩ (.int .i64 (d.next + 1)) := ⟨_, rfl⟩
  rw [← hW1] at hg
  have hfr1 : Fr w0.heap.size tsD w W1 := by rw [hW1]; exact (Fr.refl _ _ _).setCell _ h.lo h.hd (by simp [tyo, tsD])
  have hsz : W1.heap.size = w.heap.size := by rw [hW1]; simp
  have hfr6 : Fr w0.heap.size tsD w W6 := hfr1.trans (Fr.of_grow hg)
  have keep : ∀ (b : Nat) (o : Obj), w.heap[b]? = some o → b ≠ db → W6.heap[b]? = some o := fun b o hb hne => by
    have hlt := (Array.getElem?_eq_some_iff.1 hb).1
    refine (hg.block b (by rw [hsz]; exact hlt)).trans ?_
    rw [hW1, heap_setCell_other _ _ _ _ hne]; exact hb
  have hm0 := h.tight hw
  have hm6 : W6.ownsMap Tryz.prog 3 dE mb d.nodes.length D := by
    obtain ⟨es, clock, hm1, hm2⟩ := hm0
    exact ⟨es, clock, keep mb _ hm1 (fun e => by have := h.hd; rw [← e, hm1] at this; cases this), hm2⟩
  obtain ⟨hrun, hm7, hg7⟩ := putW_run hm6 (by omega) hwf bn
  refine ⟨hrun, rfl, ?_, ?_⟩
  · rw [← hnd]
    obtain ⟨es6, clock6, hm61, _⟩ := hm6
    have keep7 : ∀ (b : Nat) (cs : Array Value) (t : TypeId) (fr : Nat × Nat), W6.heap[b]? = some (.cells cs t fr) → (putW W6 mb d.next bn).heap[b]? = some (.cells cs t fr) := fun b cs t fr hb =>
      (hg7.block b (Array.getElem?_eq_some_iff.1 hb).1 (by
        intro e
        have e' : b = mb := by simpa using e
        rw [e', hm61] at hb
        cases hb)).trans hb
    have hfr7 : Fr w0.heap.size tsD W6 (putW W6 mb d.next bn) := Fr.grownBy hg7 h.lom hm61 (by simp [tyo, tsD])
    have hhas : ∀ m, (d.push nd).has m ↔ m = d.next ∨ d.has m := fun m => push_has hw hid
    have hnn := next_not hw
    have hne : ∀ m, d.has m → m ≠ d.next := fun m hm e => hnn (e ▸ hm)
    have hltn : ∀ m, d.has m → nb m < w.heap.size := fun m hm => by
      obtain ⟨_, _, _, _, hb, _⟩ := h.hasOf hm
      exact (Array.getElem?_eq_some_iff.1 hb).1
    have hlti : ∀ m, d.has m → ib m < w.heap.size := fun m hm => (Array.getElem?_eq_some_iff.1 (h.items.cells m hm)).1
    have hbase : w0.heap.size ≤ w.heap.size := by
      have := (Array.getElem?_eq_some_iff.1 h.hd).1
      have := h.lo
      omega
    have hlkn : d.lk d.next = ⟨-1, -1, -1, -1, -1⟩ := lk_none hw hnn
    have hwp : (d.push nd).WF := hw.push hid hup hki (by rw [hnd]; exact hl64) h5
    refine ⟨mb, fun m => if m = d.next then bn else nb m, fun m => if m = d.next then bi else ib m, D.put (.int .i64 d.next) (.lit (.int .i64 bn)), h.lo, h.lom, fun x hx => ?_, fun x hx => ?_, ?_, ⟨_, by omega, hm7⟩, (h.is_.put (hm0.tidy lawI).isMap (nb' := fun m => if m = d.next then bn else nb m) (by simp) (fun m _ hm => by simp [hm])).congr (fun m => (hhas m).symm) (fun _ _ => rfl), fun x n' hx => ?_, fun x y hx hy e => ?_, ⟨fun m hm => ?_, fun a b ha hb e => ?_, fun m hm => ?_, fun m hm => ?_⟩⟩
    · by_cases e : x = d.next
      · rw [if_pos e]; omega
      · rw [if_neg e]; exact h.lon x (((hhas x).1 hx).resolve_left e)
    · by_cases e : x = d.next
      · rw [if_pos e]; omega
      · rw [if_neg e]; exact h.loi x (((hhas x).1 hx).resolve_left e)
    · refine keep7 _ _ _ _ ?_
      have hdlt := (Array.getElem?_eq_some_iff.1 h.hd).1
      refine (hg.block db (by rw [hsz]; exact hdlt)).trans ?_
      rw [hW1, heap_setCell_same w db 1 _ _ _ h.hd]
      rfl
    · rw [push_get hw hid] at hx
      by_cases e : x = d.next
      · rw [if_pos e] at hx
        cases hx
        refine ⟨A, c, ?_, ?_⟩
        · show (putW W6 mb d.next bn).heap[if x = d.next then bn else nb x]? = _
          rw [if_pos e, if_pos e, hnd]
          exact keep7 _ _ _ _ hn
        · rw [hnd]
          exact hl.fr hfr7 tsD_A
      · rw [if_neg e] at hx
        obtain ⟨A', c', h1, h2⟩ := h.nodes x n' hx
        refine ⟨A', c', ?_, (h2.fr hfr6 tsD_A).fr hfr7 tsD_A⟩
        show (putW W6 mb d.next bn).heap[if x = d.next then bn else nb x]? = _
        rw [if_neg e, if_neg e]
        exact keep7 _ _ _ _ (keep _ _ h1 (h.nb_db (has_iff.2 ⟨_, hx⟩)))
    · have ex : (if x = d.next then bn else nb x) = (if y = d.next then bn else nb y) := e
      by_cases e1 : x = d.next
      · by_cases e2 : y = d.next
        · omega
        · rw [if_pos e1, if_neg e2] at ex
          have := hltn y (((hhas y).1 hy).resolve_left e2)
          omega
      · by_cases e2 : y = d.next
        · rw [if_neg e1, if_pos e2] at ex
          have := hltn x (((hhas x).1 hx).resolve_left e1)
          omega
        · rw [if_neg e1, if_neg e2] at ex
          exact h.inj x y (((hhas x).1 hx).resolve_left e1) (((hhas y).1 hy).resolve_left e2) ex
    · exact hwp.nn hm
    · have ex : (if a = d.next then bi else ib a) = (if b = d.next then bi else ib b) := e
      by_cases e1 : a = d.next
      · by_cases e2 : b = d.next
        · omega
        · rw [if_pos e1, if_neg e2] at ex
          have := hlti b (((hhas b).1 hb).resolve_left e2)
          omega
      · by_cases e2 : b = d.next
        · rw [if_neg e1, if_pos e2] at ex
          have := hlti a (((hhas a).1 ha).resolve_left e1)
          omega
        · rw [if_neg e1, if_neg e2] at ex
          exact h.items.inj a b (((hhas a).1 ha).resolve_left e1) (((hhas b).1 hb).resolve_left e2) ex
    · show (putW W6 mb d.next bn).heap[if m = d.next then bi else ib m]? = _
      rw [push_lk hw hid hup hki]
      by_cases e1 : m = d.next
      · rw [if_pos e1, e1, hlkn]
        exact keep7 _ _ _ _ hi
      · have hm' := ((hhas m).1 hm).resolve_left e1
        have hc := h.items.cl m hm'
        have hpI : ∀ v : Int, v = -1 ∨ d.has v → pI (fun m => if m = d.next then bi else ib m) v = pI ib v := fun v hv => by
          unfold pI
          by_cases e : v < 0
          · rw [if_pos e, if_pos e]
          · have : v ≠ d.next := hne v (hv.resolve_left (by omega))
            simp [e, this]
        have hcells : iCells (fun m => if m = d.next then bi else ib m) m (d.lk m) = iCells ib m (d.lk m) := by
          unfold iCells
          rw [hpI _ hc.1, hpI _ hc.2.1, hpI _ hc.2.2.1, hpI _ hc.2.2.2.1, hpI _ hc.2.2.2.2]
        rw [if_neg e1, hcells]
        exact keep7 _ _ _ _ (keep _ _ (h.items.cells m hm') (h.ib_db hm'))
    · exact Doc.lk_cl hwp m hm
  · have hfr7 : Fr w0.heap.size tsD W6 (putW W6 mb d.next bn) := by
      obtain ⟨es6, clock6, hm61, _⟩ := hm6
      exact Fr.grownBy hg7 h.lom hm61 (by simp [tyo, tsD])
    exact hfr6.trans hfr7
theorem createD_tag (h : DomRep w0 w db mb nb ib D d) (tag key text : ByteArray) (l : List At) (A : Option Addr) (c : Nat) (ht : tag.size ≤ 9223372036854775807) (h1 : named tag false = false) :
    Calls Tryz.prog 17 #[.pointer (some ⟨db, 0, none⟩), .string tag, .string key, .string text, .slice A l.length c] w (DStep w0 w db d (.tuple #[.int .i64 0, .int .i64 7])) := by
  have HF := Lib.hid (DStep.same h (.tuple #[.int .i64 0, .int .i64 7]) (Below.refl _ _))
  have HM := Lib.hid (tag_any tag w ht)
  rw [h1] at HM
  clear h h1
  go_enter Tryz.func17, Tryz.ntmps17
  go_wp2_with (go_at_call 47; refine HM.out.mono ?_; rintro e w' ⟨rfl, rfl⟩)
  go_ret2
  exact HF.out
theorem createD_long (h : DomRep w0 w db mb nb ib D d) (tag key text : ByteArray) (l : List At) (A : Option Addr) (c : Nat) (ht : tag.size ≤ 9223372036854775807) (h1 : named tag false = true) (h2 : 65536 < key.size ∨ 65536 < text.size) :
    Calls Tryz.prog 17 #[.pointer (some ⟨db, 0, none⟩), .string tag, .string key, .string text, .slice A l.length c] w (DStep w0 w db d (.tuple #[.int .i64 0, .int .i64 3])) := by
  have HF := Lib.hid (DStep.same h (.tuple #[.int .i64 0, .int .i64 3]) (Below.refl _ _))
  have HM := Lib.hid (tag_any tag w ht)
  rw [h1] at HM
  have HK := Lib.hid (fits_any key w)
  have HT := Lib.hid (fits_any text w)
  clear h h1
  by_cases h3 : 65536 < key.size
  · rw [decide_eq_false (show ¬ key.size ≤ 65536 by omega)] at HK
    clear h2 h3 HT
    go_enter Tryz.func17, Tryz.ntmps17
    go_wp2_with (first | (go_at_call 47; refine HM.out.mono ?_; rintro e w' ⟨rfl, rfl⟩) | (go_at_call 48; refine HK.out.mono ?_; rintro e w' ⟨rfl, rfl⟩))
    go_ret2
    exact HF.out
  · rw [decide_eq_true (show key.size ≤ 65536 by omega)] at HK
    rw [decide_eq_false (show ¬ text.size ≤ 65536 by omega)] at HT
    by_cases e : key = text
    · subst e; omega
    clear h2 h3
    go_enter Tryz.func17, Tryz.ntmps17
    go_wp2_with (first | (go_at_call 47; refine HM.out.mono ?_; rintro e w' ⟨rfl, rfl⟩) | (go_at_call_of 48 key; refine HK.out.mono ?_; rintro e w' ⟨rfl, rfl⟩) | (go_at_call_of 48 text; refine HT.out.mono ?_; rintro e w' ⟨rfl, rfl⟩))
    go_ret2
    exact HF.out
theorem createD_bad (h : DomRep w0 w db mb nb ib D d) (tag key text : ByteArray) (l : List At) (ok : Nat → Prop) (A : Option Addr) (c : Nat) (hl : Rd EAt 2 w ok A l) (hs : SizedA l) (ht : tag.size ≤ 9223372036854775807) (h1 : named tag false = true) (h2 : key.size ≤ 65536) (h3 : text.size ≤ 65536) (h4 : (checkA l).2 ≠ 0) :
    Calls Tryz.prog 17 #[.pointer (some ⟨db, 0, none⟩), .string tag, .string key, .string text, .slice A l.length c] w (DStep w0 w db d (.tuple #[.int .i64 0, .int .i64 (checkA l).2])) := by
  have HF := Lib.hid fun W hW => DStep.same h (.tuple #[.int .i64 0, .int .i64 (checkA l).2]) (W := W) hW
  have HM := Lib.hid (tag_any tag w ht)
  rw [h1] at HM
  have HFT := Lib.hid fun (s : ByteArray) (hs : s.size ≤ 65536) => (show Calls Tryz.prog 48 #[.string s] w fun e w' => e = .returned (.bool true) ∧ w = w' by have := fits_any s w; rwa [decide_eq_true hs] at this)
  have HC := Lib.hid (check_p l w ok A c hl hs)
  have h5 : ((checkA l).2 != 0) = true := by simpa using h4
  clear h h1 hl hs
  generalize (checkA l).2 = e2 at *
  generalize (checkA l).1 = e1 at *
  generalize l.length = n at *
  go_enter Tryz.func17, Tryz.ntmps17
  go_wp2_with first
    | (go_at_call 47; refine HM.out.mono ?_; rintro e w' ⟨rfl, rfl⟩)
    | (go_at_call 48; refine (HFT.out _ (by assumption)).mono ?_; rintro e w' ⟨rfl, rfl⟩)
    | (go_at_call 49; refine HC.out.mono ?_; rintro e w' ⟨rfl, hg⟩; have HG := Lib.hid hg; clear hg)
  go_ret2
  exact HF.out _ HG.out
theorem createD_last (h : DomRep w0 w db mb nb ib D d) (tag key text : ByteArray) (l : List At) (ok : Nat → Prop) (A : Option Addr) (c : Nat) (hl : Rd EAt 2 w ok A l) (hs : SizedA l) (ht : tag.size ≤ 9223372036854775807) (h1 : named tag false = true) (h2 : key.size ≤ 65536) (h3 : text.size ≤ 65536) (h4 : (checkA l).2 = 0) (h5 : 4294967295 < d.next) :
    Calls Tryz.prog 17 #[.pointer (some ⟨db, 0, none⟩), .string tag, .string key, .string text, .slice A l.length c] w (DStep w0 w db d (.tuple #[.int .i64 0, .int .i64 21])) := by
  have HF := Lib.hid fun W hW => DStep.same h (.tuple #[.int .i64 0, .int .i64 21]) (W := W) hW
  have HM := Lib.hid (tag_any tag w ht)
  rw [h1] at HM
  have HFT := Lib.hid fun (s : ByteArray) (hs : s.size ≤ 65536) => (show Calls Tryz.prog 48 #[.string s] w fun e w' => e = .returned (.bool true) ∧ w = w' by have := fits_any s w; rwa [decide_eq_true hs] at this)
  have HC := Lib.hid (check_p l w ok A c hl hs)
  rw [h4] at HC
  have H1 := Lib.hid fun W (hW : Grow w W) => (h.grow hW).p1
  clear h h1 hl hs h4
  generalize (checkA l).1 = e1 at *
  generalize l.length = n at *
  generalize d.next = nx at *
  go_enter Tryz.func17, Tryz.ntmps17
  go_wp2_with first
    | (go_at_call 47; refine HM.out.mono ?_; rintro e w' ⟨rfl, rfl⟩)
    | (go_at_call 48; refine (HFT.out _ (by assumption)).mono ?_; rintro e w' ⟨rfl, rfl⟩)
    | (go_at_call 49; refine HC.out.mono ?_; rintro e w' ⟨rfl, hg⟩; have hp1 := H1.out _ hg; have HG := Lib.hid hg; clear hg)
  go_ret2
  exact HF.out _ HG.out
end
end Go.Proofs.YtacobpmmpdadpaaGreat
set_option linter.unusedVariables false
set_option linter.unusedSimpArgs false
namespace Go.Proofs.YtacobpmmpdadpaaGreat
open Go.RowKit Doc
theorem grow_of_drew {x y : World} (h : Grow x.drew y) : Grow x y := ⟨h.os, h.tape, h.output, h.size, h.block⟩
def ClonePost (S3 W : World) (db mb : Nat) (next : Int) (w0 : World) (l : List At) (q : Nat) (e : Ending) (w5 : World) : Prop :=
  ∃ A5 c5, e = .returned (.slice A5 q c5) ∧ w5.cell? ⟨db, 0, none⟩ = some (.map (some mb)) ∧ Grow W w5 ∧ RdV EAt 2 w5 (Imm w0.heap.size tsA w5) (.slice A5 q c5) l ∧
    (∀ o, (Instr.mapUpdate 60 (.map (some mb)) (.int .i64 next) (.pointer (some ⟨w5.heap.size, 0, none⟩))).run Tryz.prog (w5.alloc o) = .ok () (putW (w5.alloc o) mb next w5.heap.size)) ∧
    (∀ o1 o2, (Instr.mapUpdate 60 (.map (some mb)) (.int .i64 next) (.pointer (some ⟨w5.heap.size + 1, 0, none⟩))).run Tryz.prog ((w5.alloc o1).alloc o2) = .ok () (putW ((w5.alloc o1).alloc o2) mb next (w5.heap.size + 1)))
section
variable {w0 w : World} {db mb : Nat} {nb ib : Int → Nat} {D : DataW Unit} {d : Doc}
set_option maxHeartbeats 1000000 in
theorem createD_ok (h : DomRep w0 w db mb nb ib D d) (hw : d.WF) (hfew : d.nodes.length ≤ 1000000) (tag key text : ByteArray) (l : List At) (A : Option Addr) (c : Nat) (hl : RdV EAt 2 w (Imm w0.heap.size tsA w) (.slice A l.length c) l) (hs : SizedA l) (ht : tag.size ≤ 9223372036854775807) (h1 : named tag false = true) (h2 : key.size ≤ 65536) (h3 : text.size ≤ 65536) (h4 : (checkA l).2 = 0) (h5 : d.next ≤ 4294967295) :
    Calls Tryz.prog 17 #[.pointer (some ⟨db, 0, none⟩), .string tag, .string key, .string text, .slice A l.length c] w (DStep w0 w db (d.push ⟨d.next, -1, [], tag, key, text, l⟩) (.tuple #[.int .i64 d.next, .int .i64 0])) := by
  have hl64 := checkA_len h4
  have hw1 := hw.next1
  have HM := Lib.hid (tag_any tag w ht)
  rw [h1] at HM
  have HFT := Lib.hid fun (s : ByteArray) (hs : s.size ≤ 65536) => (show Calls Tryz.prog 48 #[.string s] w fun e w' => e = .returned (.bool true) ∧ w = w' by have := fits_any s w; rwa [decide_eq_true hs] at this)
  have HC := Lib.hid (check_p l w _ A c hl.rd hs)
  rw [h4] at HC
  have h8 : IntKind.i64.wrap (d.next + 1) = d.next + 1 := IntWalk.i64_in _ (by omega)
  -- what holds behind the store of the next ID
  have hstep : ∀ w3, Grow w w3 → w3.cell? ⟨db, 0, none⟩ = some (.map (some mb)) ∧ w3.cell? ⟨db, 1, none⟩ = some (.int .i64 d.next) ∧ w3.frozen? ⟨db, 1, none⟩ = false ∧ (w3.setCell ⟨db, 1, none⟩ (.int .i64 (d.next + 1))).cell? ⟨db, 0, none⟩ = some (.map (some mb)) ∧
      Hid (∀ W, Grow (w3.setCell ⟨db, 1, none⟩ (.int .i64 (d.next + 1))) W → Calls Tryz.prog 28 #[.slice A l.length c] W (ClonePost (w3.setCell ⟨db, 1, none⟩ (.int .i64 (d.next + 1))) W db mb d.next w0 l l.length)) ∧
      Hid (∀ w5 A5 c5, Grow ((w3.setCell ⟨db, 1, none⟩ (.int .i64 (d.next + 1))).alloc (.cells (itemC d.next) 94)) w5 → RdV EAt 2 w5 (Imm w0.heap.size tsA w5) (.slice A5 l.length c5) l →
        DStep w0 w db (d.push ⟨d.next, -1, [], tag, key, text, l⟩) (.tuple #[.int .i64 d.next, .int .i64 0]) (.returned (.tuple #[.int .i64 d.next, .int .i64 0])) (putW (w5.alloc (.cells #[.pointer (some ⟨w3.heap.size, 0, none⟩), .string tag, .string key, .string text, .slice A5 l.length c5] 59)) mb d.next w5.heap.size)) ∧
      Hid (∀ w5 A5 c5, Grow (w3.setCell ⟨db, 1, none⟩ (.int .i64 (d.next + 1))) w5 → RdV EAt 2 w5 (Imm w0.heap.size tsA w5) (.slice A5 l.length c5) l →
        DStep w0 w db (d.push ⟨d.next, -1, [], tag, key, text, l⟩) (.tuple #[.int .i64 d.next, .int .i64 0]) (.returned (.tuple #[.int .i64 d.next, .int .i64 0])) (putW ((w5.alloc (.cells (itemC d.next) 94)).alloc (.cells #[.pointer (some ⟨w5.heap.size, 0, none⟩), .string tag, .string key, .string text, .slice A5 l.length c5] 59)) mb d.next (w5.heap.size + 1))) := by
    intro w3 hg3
    have R3 := h.grow hg3
    have hS : ∀ W, Grow (w3.setCell ⟨db, 1, none⟩ (.int .i64 (d.next + 1))) W → W.cell? ⟨db, 0, none⟩ = some (.map (some mb)) ∧ W.ownsMap Tryz.prog 3 dE mb d.nodes.length D ∧ Fr w0.heap.size tsD w3 W := by
      intro W hW
      have hfr : Fr w0.heap.size tsD w3 (w3.setCell ⟨db, 1, none⟩ (.int .i64 (d.next + 1))) := (Fr.refl _ _ _).setCell _ R3.lo R3.hd (by simp [tyo, tsD])
      refine ⟨Grow.cell hW ?_, ?_, hfr.trans (Fr.of_grow hW)⟩
      · simp only [World.cell?, heap_setCell_same w3 db 1 _ _ _ R3.hd]
        rfl
      · obtain ⟨es, clock, hm1, hm2⟩ := R3.tight hw
        refine ⟨es, clock, ?_, hm2⟩
        refine (hW.block mb (by simpa using (Array.getElem?_eq_some_iff.1 hm1).1)).trans ?_
        rw [heap_setCell_other _ _ _ _ (R3.mb_ne R3.hd).symm]
        exact hm1
    refine ⟨R3.p0, R3.p1, R3.f1, (hS _ (Below.refl _ _)).1, fun W hW => ?_, fun w5 A5 c5 hg5 hv5 => ?_, fun w5 A5 c5 hg5 hv5 => ?_⟩
    · obtain ⟨_, _, hfr⟩ := hS W hW
      have hlW : RdV EAt 2 W (Imm w0.heap.size tsA W) (.slice A l.length c) l := (hl.fr (Fr.of_grow (ts := []) hg3) (fun t ht => by cases ht)).fr hfr tsD_A
      refine (clone_p l W _ A c hlW.rd (by omega)).mono ?_
      rintro e w5 ⟨v5, rfl, ho5⟩
      obtain ⟨A5, c5, rfl⟩ := ho5.form
      have hg5 : Grow (w3.setCell ⟨db, 1, none⟩ (.int .i64 (d.next + 1))) w5 := Grow.trans' hW ho5.2
      obtain ⟨k1, _, _⟩ := hS w5 hg5
      refine ⟨A5, c5, rfl, k1, ho5.2, (ho5.newAt rfl rfl).imp (fun _ _ _ h => h) (fun b hb => hb.imm (by decide)) (fun b _ _ => rfl), fun o => ?_, fun o1 o2 => ?_⟩
      · obtain ⟨_, k2, _⟩ := hS (w5.alloc o) (grow_alloc hg5 _)
        exact (putW_run k2 (by omega) (WalkArith.wf_i64 ⟨by omega, by omega⟩) _).1
      · obtain ⟨_, k2, _⟩ := hS ((w5.alloc o1).alloc o2) (grow_alloc (grow_alloc hg5 _) _)
        exact (putW_run k2 (by omega) (WalkArith.wf_i64 ⟨by omega, by omega⟩) _).1
    · refine DStep.from hg3 (R3.created hw hfew h5 tag key text l hl64 (W6 := w5.alloc _) (grow_alloc (Grow.trans' (grow_alloc (Below.refl _ _) _) hg5) _) w3.heap.size w5.heap.size (Nat.le_refl _) ?_ ?_ A5 c5 (heap_alloc_new w5 _) ?_).2
      · have := hg5.size; simp at this; omega
      · have e1 : ((w3.setCell ⟨db, 1, none⟩ (.int .i64 (d.next + 1))).alloc (.cells (itemC d.next) 94)).heap[w3.heap.size]? = some (.cells (itemC d.next) 94 (0, 0)) := by
          have := heap_alloc_new (w3.setCell ⟨db, 1, none⟩ (.int .i64 (d.next + 1))) (.cells (itemC d.next) 94)
          simpa using this
        have e2 := (hg5.block w3.heap.size (by simp)).trans e1
        exact (Below.block (grow_alloc (Below.refl _ _) _) _ (Array.getElem?_eq_some_iff.1 e2).1).trans e2
      · exact hv5.fr (Fr.of_grow (ts := []) (grow_alloc (Below.refl _ _) _)) (fun t ht => by cases ht)
    · refine DStep.from hg3 (R3.created hw hfew h5 tag key text l hl64 (W6 := (w5.alloc _).alloc _) (grow_alloc (grow_alloc hg5 _) _) w5.heap.size (w5.heap.size + 1) ?_ ?_ ?_ A5 c5 ?_ ?_).2
      · have := hg5.size; simp at this; omega
      · have := hg5.size; simp at this; omega
      · have e1 := heap_alloc_new w5 (.cells (itemC d.next) 94)
        exact (Below.block (grow_alloc (Below.refl _ _) _) _ (Array.getElem?_eq_some_iff.1 e1).1).trans e1
      · have := heap_alloc_new (w5.alloc (.cells (itemC d.next) 94)) (.cells #[.pointer (some ⟨w5.heap.size, 0, none⟩), .string tag, .string key, .string text, .slice A5 l.length c5] 59)
        simpa using this
      · exact hv5.fr (Fr.of_grow (ts := []) (grow_alloc (grow_alloc (Below.refl _ _) _) _)) (fun t ht => by cases ht)
  have HS := Lib.hid hstep
  unfold itemC at HS
  have h6 : ¬ (4294967295 : Int) < d.next := by omega
  have h7 : ¬ d.next > 4294967295 := by omega
  have hn2 : 1 ≤ d.next := hw1
  have hn3 : d.next ≤ 4294967295 := h5
  clear h h1 hl hs h4 hstep hw hw1 hfew
  generalize (checkA l).1 = e1 at *
  generalize d.push ⟨d.next, -1, [], tag, key, text, l⟩ = d' at *
  generalize d.next = nx at *
  generalize hq : l.length = q at *
  clear hq
  go_enter Tryz.func17, Tryz.ntmps17
  go_wp2_with first
    | (go_at_call 47; refine HM.out.mono ?_; rintro e w' ⟨rfl, rfl⟩)
    | (go_at_call 48; refine (HFT.out _ (by assumption)).mono ?_; rintro e w' ⟨rfl, rfl⟩)
    | (go_at_call 49; refine HC.out.mono ?_; rintro e w3 ⟨rfl, hg⟩; obtain ⟨hp0, hp1, hf1, hsp, HCL, HA, HB⟩ := HS.out _ hg; have HG := Lib.hid hg; clear hg)
  have hsq := cell_alloc hsp (.cells #[.int .i64 nx, .pointer none, .pointer none, .pointer none, .pointer none, .pointer none] 94)
  go_region_with first
    | (go_at_call 19; refine (make_any _ _).mono ?_; rintro e' w4 ⟨rfl, rfl⟩)
    | (go_at_call 28; refine (HCL.out _ ?hg).mono ?_; (case hg => repeat (first | exact Below.refl _ _ | apply grow_drew | apply grow_alloc)); rintro e' w5 ⟨A5, c5, rfl, hp5, hg5, hv5, hmu1, hmu2⟩; have hp6 := cell_alloc hp5 (.cells #[.int .i64 nx, .pointer none, .pointer none, .pointer none, .pointer none, .pointer none] 94); have hp7 := cell_alloc hp5 (.cells #[.pointer (some ⟨w3.heap.size, 0, none⟩), .string tag, .string key, .string text, .slice A5 q c5] 59); have hp8 := cell_alloc hp6 (.cells #[.pointer (some ⟨w5.heap.size, 0, none⟩), .string tag, .string key, .string text, .slice A5 q c5] 59); have HG5 := Lib.hid hg5; have HV5 := Lib.hid hv5; clear hg5 hv5)
  all_goals (go_wp2_with fail)
  all_goals go_ret2
  all_goals (first | exact HA.out _ _ _ (grow_of_drew HG5.out) HV5.out | exact HB.out _ _ _ (grow_of_drew HG5.out) HV5.out)
theorem create_d (h : DomRep w0 w db mb nb ib D d) (hw : d.WF) (hfew : d.nodes.length ≤ 1000000) (tag key text : ByteArray) (l : List At) (A : Option Addr) (c : Nat) (hl : RdV EAt 2 w (Imm w0.heap.size tsA w) (.slice A l.length c) l) (hs : SizedA l) (ht : tag.size ≤ 9223372036854775807) :
    Calls Tryz.prog 17 #[.pointer (some ⟨db, 0, none⟩), .string tag, .string key, .string text, .slice A l.length c] w (DStep w0 w db (d.createD tag key text l).2.2 (.tuple #[.int .i64 (d.createD tag key text l).1, .int .i64 (d.createD tag key text l).2.1])) := by
  have hrd := hl.rd
  unfold Doc.createD
  by_cases h1 : named tag false = false
  · rw [if_pos h1]
    exact createD_tag h tag key text l A c ht h1
  rw [if_neg h1]
  have h1' : named tag false = true := by simpa using h1
  by_cases h2 : 65536 < key.size ∨ 65536 < text.size
  · rw [if_pos h2]
    exact createD_long h tag key text l A c ht h1' h2
  rw [if_neg h2]
  by_cases h3 : (checkA l).2 ≠ 0
  · rw [if_pos h3]
    exact createD_bad h tag key text l _ A c hrd hs ht h1' (by omega) (by omega) h3
  rw [if_neg h3]
  have h3' : (checkA l).2 = 0 := by simpa using h3
  by_cases h4 : 4294967295 < d.next
  · rw [if_pos h4]
    exact createD_last h tag key text l _ A c hrd hs ht h1' (by omega) (by omega) h3' h4
  · rw [if_neg h4]
    exact createD_ok h hw hfew tag key text l A c hl hs ht h1' (by omega) (by omega) h3' (by omega)
end
end Go.Proofs.YtacobpmmpdadpaaGreat
