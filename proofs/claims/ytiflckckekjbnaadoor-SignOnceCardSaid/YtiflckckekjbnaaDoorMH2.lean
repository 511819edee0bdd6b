/- Texts of a proof, one behind the other: E9 E12 E13 E14 E15 E16 E17. -/
import Derived.Test.YtiflckckekjbnaaDoorMH1
import Derived.ChangeArms
import Derived.ChangeShapes
import Derived.OpenShut
import Derived.OpenVars
import Derived.Deep.AppendSrc
import Derived.Laws.MakeOwn
import Derived.Laws.IdiomCopy
import Derived.Great.BuildSlice
import Derived.Laws.Externs
/- The engine, part 9: from an argument's reading to its cells: layouts. -/
namespace Go.Sx
open Go Go.RowKit
set_option linter.all false

/-- A type's cells, in runs. -/
inductive Lay where
  | nil
  | bool (r : Lay)
  | int (k : IntKind) (r : Lay)
  | str (r : Lay)
  | ints (k : IntKind) (n : Nat) (r : Lay)
  | rows (w n : Nat) (e r : Lay)
  | sli (k : IntKind) (r : Lay)
  | sl (w : Nat) (e r : Lay)
  | ptr (w : Nat) (e r : Lay)
  | any (r : Lay)

/-- A slice of whole numbers. -/
structure SlI (W : World) (k : IntKind) (a : Option Addr) (cap : Nat) (xs : List Int) : Prop where
  len : xs.length = cap
  wf : ∀ x ∈ xs, (Lit.int k x).wf = true
  at_ : cap = 0 ∨ ∃ b off, a = some ⟨b, off, none⟩ ∧ Mem W b off [.ints k cap xs]
/-- A slice of rows. -/
structure SlR (W : World) (w : Nat) (a : Option Addr) (cap : Nat) (g : Nat → List Value) : Prop where
  len : ∀ i, i < cap → (g i).length = w
  at_ : cap = 0 ∨ w = 0 ∨ ∃ b off, a = some ⟨b, off, none⟩ ∧ Mem W b off [.rows w cap g]

/-- These cells are of that layout. 'B': no slice and no string is longer. -/
def Fits (W : World) (B : Nat) : Lay → List Value → Prop
  | .nil, cs => cs = []
  | .bool r, cs => ∃ b cs', cs = .bool b :: cs' ∧ Fits W B r cs'
  | .int k r, cs => ∃ n cs', cs = .int k n :: cs' ∧ (Lit.int k n).wf = true ∧ Fits W B r cs'
  | .str r, cs => ∃ s cs', cs = .string s :: cs' ∧ s.size ≤ B ∧ Fits W B r cs'
  | .ints k n r, cs => ∃ xs cs', xs.length = n ∧ (∀ x ∈ xs, (Lit.int k x).wf = true) ∧ cs = intsCells k n xs ++ cs' ∧ Fits W B r cs'
  | .rows w n e r, cs => ∃ g cs', (∀ i, i < n → (g i).length = w ∧ Fits W B e (g i)) ∧ cs = rowsCells w n g ++ cs' ∧ Fits W B r cs'
  | .sli k r, cs => ∃ a len cap xs cs', cs = .slice a len cap :: cs' ∧ len ≤ cap ∧ cap ≤ B ∧ SlI W k a cap xs ∧ Fits W B r cs'
  | .sl w e r, cs => ∃ a len cap g cs', cs = .slice a len cap :: cs' ∧ len ≤ cap ∧ cap ≤ B ∧ SlR W w a cap g ∧ (∀ i, i < cap → Fits W B e (g i)) ∧ Fits W B r cs'
  | .ptr w e r, cs => ∃ a cs', cs = .pointer a :: cs' ∧ (∀ x, a = some x → w = 0 ∨ ∃ b off g, x = ⟨b, off, none⟩ ∧ g.length = w ∧ Mem W b off [.rows w 1 fun _ => g] ∧ Fits W B e g) ∧ Fits W B r cs'
  | .any r, cs => ∃ v cs', cs = v :: cs' ∧ Fits W B r cs'

/-- A type's layout, ahead of 'r'. -/
def consec (P : Program) : List Field → Nat → Nat → Bool
  | [], o, n => o == n
  | f :: r, o, n => f.offset == o && consec P r (o + P.cellsOf f.type) n
def lay (P : Program) : Nat → TypeId → Lay → Option Lay
  | 0, _, _ => none
  | n + 1, t, r =>
    match P.underlying t with
    | some .bool => some (.bool r)
    | some (.int k) => some (.int k r)
    | some .string => some (.str r)
    | some (.slice e) =>
      match P.underlying e with
      | some (.int k) => if P.cellsOf e = 1 then some (.sli k r) else none
      | _ => (lay P n e .nil).map fun l => .sl (P.cellsOf e) l r
    | some (.pointer e) => (lay P n e .nil).map fun l => .ptr (P.cellsOf e) l r
    | some (.struct fs) => if consec P fs.toList 0 (P.cellsOf t) then fs.toList.foldr (fun f acc => acc.bind (lay P n f.type)) (some r) else none
    | some (.array m e) =>
      if P.cellsOf t = m * P.cellsOf e then
        match P.underlying e with
        | some (.int k) => if P.cellsOf e = 1 then some (.ints k m r) else none
        | _ => (lay P n e .nil).map fun l => .rows (P.cellsOf e) m l r
      else none
    | some (.map _ _) => some (.any r)
    | some (.func ..) => some (.any r)
    | some (.interface _) => some (.any r)
    | _ => none

/-- What is small enough. -/
structure Small {H : Type} (S : DataW H → Prop) (B : Nat) : Prop where
  agg : ∀ ps, S (.agg ps) → ∀ p ∈ ps, S p
  ptr : ∀ d, S (.ptr d) → S d
  sl : ∀ e s, S (.slice e s) → e.length + s.length ≤ maxLen → e.length + s.length ≤ B
  el : ∀ e s, S (.slice e s) → (∀ p ∈ e, S p) ∧ ∀ p ∈ s, S p
  str : ∀ b, S (.lit (.string b)) → b.length ≤ maxLen → b.length ≤ B
theorem Small.all {H : Type} : Small (fun _ : DataW H => True) maxLen := ⟨fun _ _ _ _ => trivial, fun _ _ => trivial, fun _ _ _ h => h, fun _ _ _ => ⟨fun _ _ => trivial, fun _ _ => trivial⟩, fun _ _ h => h⟩

theorem consec_le {P : Program} : ∀ (fs : List Field) (o n : Nat), consec P fs o n = true → o ≤ n
  | [], o, n, h => by simp [consec] at h; omega
  | f :: r, o, n, h => by
    simp only [consec, Bool.and_eq_true] at h
    have := consec_le r _ _ h.2
    omega

theorem cells?_get {W : World} {a : Addr} {n : Nat} {cs : List Value} (h : W.cells? 0 a n = some cs) : cs.length = n ∧ ∀ i, i < n → W.cell? (a.add i) = cs[i]? := by
  simp only [World.cells?, Nat.zero_le, if_true] at h
  refine ⟨by simpa using mapM_some_length h, fun i hi => ?_⟩
  exact mapM_some_get h i i (by simp [hi])
theorem cell_spot {W : World} {a : Addr} {v : Value} (h : W.cell? a = some v) : a.spot = none := by
  unfold World.cell? at h
  cases hs : a.spot with
  | none => rfl
  | some k => simp [hs] at h; split at h <;> simp at h

theorem intsCells_of {k : IntKind} {cs : List Value} (h : ∀ i, i < cs.length → ∃ n, cs[i]? = some (.int k n) ∧ (Lit.int k n).wf = true) :
    ∃ xs : List Int, xs.length = cs.length ∧ (∀ x ∈ xs, (Lit.int k x).wf = true) ∧ cs = intsCells k cs.length xs := by
  induction cs with
  | nil => exact ⟨[], rfl, by simp, rfl⟩
  | cons c r ih =>
    obtain ⟨n, hn, hw⟩ := h 0 (by simp)
    obtain ⟨xs, h1, h2, h3⟩ := ih fun i hi => by simpa using h (i + 1) (by simpa using hi)
    simp at hn
    refine ⟨n :: xs, by simp [h1], by simpa [hw] using h2, ?_⟩
    subst hn
    conv => lhs; rw [h3]
    simp [intsCells, List.range_succ_eq_map, Function.comp_def]

theorem rowsCells_of {w : Nat} : ∀ (n : Nat) (cs : List Value), cs.length = n * w → cs = rowsCells w n (fun i => (cs.drop (i * w)).take w) := by
  intro n
  induction n with
  | zero => intro cs h; simp at h; subst h; rfl
  | succ n ih =>
    intro cs h
    have hl : cs.length = n * w + w := by rw [h, Nat.succ_mul]
    have h1 := ih (cs.drop w) (by simp; omega)
    have e : cs = cs.take w ++ cs.drop w := (List.take_append_drop w cs).symm
    conv => lhs; rw [e, h1]
    simp only [rowsCells, List.range_succ_eq_map, List.flatMap_cons, List.flatMap_map]
    congr 1
    · rw [fit_same (by simp; omega)]; simp
    · congr 1
      funext i
      rw [List.drop_drop]
      congr 3
      rw [Nat.succ_mul]; omega

section
variable {H : Type} {enc : TypeId × Value → H} {P : Program} {W : World} {S : DataW H → Prop} {B : Nat}

theorem elem_mem {α : Type} {xs : List α} {i : Nat} {x : α} (h : some x = xs[i]?) : x ∈ xs := List.mem_of_getElem? h.symm

theorem add_at {b off i : Nat} : (Addr.mk b off none).add i = ⟨b, off + i, none⟩ := by
  unfold Addr.add
  split
  · subst_vars; rfl
  · rfl
theorem Addr.add_spot {a : Addr} {i : Nat} (h : (a.add i).spot = none) (h0 : i = 0) : a = ⟨a.block, a.off, none⟩ := by
  subst h0
  simp [Addr.add] at h
  cases a
  simp_all

theorem mem_of_cells {b off n : Nat} {cs : List Value} {s : List Seg} (hc : ∀ i, i < n → W.cell? ⟨b, off + i, none⟩ = cs[i]?) (hl : cs.length = n) (hn : 0 < n) (e : cs = cells s) (hw : width s = n) : Mem W b off s := by
  subst e
  refine ⟨fun i hi => hc i (by omega), ?_⟩
  have h0 := hc 0 hn
  have : 0 < (cells s).length := by omega
  rw [List.getElem?_eq_getElem this] at h0
  unfold World.cell? at h0
  cases hh : W.heap[b]? with
  | none => simp [hh] at h0
  | some o => exact (Array.getElem?_eq_some_iff.1 hh).1

theorem trod_fits (hS : Small S B) : ∀ (n : Nat) (t : TypeId) (r L : Lay), lay P n t r = some L → ∀ (fuel : Nat) (cs : List Value) (d : DataW H) (ps : List MemPlace),
    DataW.trod enc P W 0 (fun _ => true) true fuel t cs = some (d, ps) → S d → ∀ cs', Fits W B r cs' → Fits W B L (cs ++ cs') := by
  intro n
  induction n with
  | zero => intro t r L h; simp [lay] at h
  | succ n ih =>
    intro t r L h fuel cs d ps hd hs cs' hr
    simp only [lay] at h
    cases fuel with
    | zero => simp [DataW.trod] at hd
    | succ m =>
    split at h
    · rename_i hu
      obtain rfl := Option.some.inj h
      unfold DataW.trod at hd
      rw [hu] at hd
      split at hd <;> simp_all
      exact ⟨_, _, rfl, hr⟩
    · rename_i k hu
      obtain rfl := Option.some.inj h
      obtain ⟨x, rfl, hx, hw⟩ := DataW.trod_int hu hd
      exact ⟨x, cs', rfl, hw, hr⟩
    · rename_i hu
      obtain rfl := Option.some.inj h
      obtain ⟨x, rfl, hx, hw⟩ := DataW.trod_string hu hd
      simp only [Prod.mk.injEq] at hx
      refine ⟨x, cs', rfl, ?_, hr⟩
      rw [hx.1] at hs
      have := hS.str _ hs (by simpa using hw)
      simpa using this
    · rename_i e hu
      rcases DataW.trod_slice hu hd with ⟨rfl, hx⟩ | ⟨a, len, cap, elems, rest, m', e1, rfl, hx, _, hlc, hcm, hel, hE, hR, _⟩
      · split at h
        · rename_i k he
          split at h
          · obtain rfl := Option.some.inj h
            exact ⟨none, 0, 0, [], cs', rfl, Nat.le_refl _, Nat.zero_le _, ⟨rfl, by simp, .inl rfl⟩, hr⟩
          · cases h
        · simp only [Option.map_eq_some_iff] at h
          obtain ⟨l, hl, rfl⟩ := h
          exact ⟨none, 0, 0, fun _ => [], cs', rfl, Nat.le_refl _, Nat.zero_le _, ⟨by simp, .inl rfl⟩, by simp, hr⟩
      · obtain rfl : m' = m := by omega
        simp only [Prod.mk.injEq] at hx
        obtain ⟨hx, -⟩ := hx
        obtain ⟨hrl, hR⟩ := hR rfl
        have hcB : cap ≤ B := by
          rw [hx] at hs
          have := hS.sl _ _ hs (by simp [hel, hrl]; omega)
          simp [hel, hrl] at this
          omega
        have hel2 : ∀ i, i < cap → ∃ cs d p, W.cells? 0 (a.add (i * P.cellsOf e)) (P.cellsOf e) = some cs ∧ DataW.trod enc P W 0 (fun _ => true) true m' e cs = some (d, p) ∧ S d := by
          intro i hi
          rw [hx] at hs
          obtain ⟨s1, s2⟩ := hS.el _ _ hs
          by_cases hil : i < len
          · have h1 := hE i hil
            have h2 : i < elems.length := by omega
            rw [List.getElem?_eq_getElem h2] at h1
            simp only [Option.bind_eq_some_iff] at h1
            obtain ⟨cs, h3, h4⟩ := h1
            exact ⟨cs, _, _, h3, h4, s1 _ (List.mem_map.2 ⟨_, List.getElem_mem h2, rfl⟩)⟩
          · have h1 := hR (i - len) (by omega)
            have h2 : i - len < rest.length := by omega
            rw [List.getElem?_eq_getElem h2] at h1
            simp only [Option.bind_eq_some_iff] at h1
            obtain ⟨cs, h3, h4⟩ := h1
            rw [show len + (i - len) = i by omega] at h3
            exact ⟨cs, _, _, h3, h4, s2 _ (List.mem_map.2 ⟨_, List.getElem_mem h2, rfl⟩)⟩
        have hall : ∃ g : Nat → List Value, ∀ i, i < cap → W.cells? 0 (a.add (i * P.cellsOf e)) (P.cellsOf e) = some (g i) ∧ ∃ d p, DataW.trod enc P W 0 (fun _ => true) true m' e (g i) = some (d, p) ∧ S d := by
          refine ⟨fun i => (W.cells? 0 (a.add (i * P.cellsOf e)) (P.cellsOf e)).getD [], fun i hi => ?_⟩
          obtain ⟨cs, d, p, h1, h2, h3⟩ := hel2 i hi
          have e3 : (W.cells? 0 (a.add (i * P.cellsOf e)) (P.cellsOf e)).getD [] = cs := by rw [h1]; rfl
          dsimp only
          rw [e3]
          exact ⟨h1, d, p, h2, h3⟩
        obtain ⟨g, hg⟩ := hall
        have hlen : ∀ i, i < cap → (g i).length = P.cellsOf e := fun i hi => (cells?_get (hg i hi).1).1
        have hsl : SlR W (P.cellsOf e) (some a) cap g := by
          refine ⟨hlen, ?_⟩
          by_cases hc0 : cap = 0
          · exact .inl hc0
          by_cases hw0 : P.cellsOf e = 0
          · exact .inr (.inl hw0)
          refine .inr (.inr ⟨a.block, a.off, ?_, ?_⟩)
          · have h1 := (cells?_get (hg 0 (by omega)).1).2 0 (by omega)
            have h2 : 0 < (g 0).length := by rw [hlen 0 (by omega)]; omega
            rw [List.getElem?_eq_getElem h2] at h1
            have h3 := cell_spot h1
            congr 1
            refine Addr.add_spot (i := 0) ?_ rfl
            simpa [Addr.add] using h3
          · have ha : a = ⟨a.block, a.off, none⟩ := by
              have h1 := (cells?_get (hg 0 (by omega)).1).2 0 (by omega)
              have h2 : 0 < (g 0).length := by rw [hlen 0 (by omega)]; omega
              rw [List.getElem?_eq_getElem h2] at h1
              have h3 := cell_spot h1
              refine Addr.add_spot (i := 0) ?_ rfl
              simpa [Addr.add] using h3
            have hcw : (rowsCells (P.cellsOf e) cap g).length = cap * P.cellsOf e := by
              have := cells_length [.rows (P.cellsOf e) cap g]
              simpa [cells, Seg.cells, width, Seg.width] using this
            refine mem_of_cells (n := cap * P.cellsOf e) (cs := rowsCells (P.cellsOf e) cap g) (fun i hi => ?_) hcw (Nat.mul_pos (by omega) (by omega)) (by simp [cells, Seg.cells]) (by simp [width, Seg.width])
            have hw1 : 0 < P.cellsOf e := by omega
            have hi1 : i / P.cellsOf e < cap := Nat.div_lt_of_lt_mul (by rw [Nat.mul_comm]; exact hi)
            have hi2 : i % P.cellsOf e < P.cellsOf e := Nat.mod_lt _ hw1
            have h1 := (cells?_get (hg _ hi1).1).2 _ hi2
            rw [ha, add_at, add_at] at h1
            have e2 : a.off + i / P.cellsOf e * P.cellsOf e + i % P.cellsOf e = a.off + i := by
              have := Nat.div_add_mod i (P.cellsOf e)
              rw [Nat.mul_comm] at this
              omega
            rw [e2] at h1
            rw [h1]
            have h4 := rowsCells_get2 (w := P.cellsOf e) (n := cap) (g := g) hi1 hi2
            rw [fit_same (hlen _ hi1)] at h4
            rw [← h4]
            congr 1
            have := Nat.div_add_mod i (P.cellsOf e)
            rw [Nat.mul_comm] at this
            omega
        split at h
        · rename_i k he
          split at h
          · rename_i hc1
            obtain rfl := Option.some.inj h
            have hone : ∀ i, i < cap → ∃ z, g i = [.int k z] ∧ (Lit.int k z).wf = true := by
              intro i hi
              obtain ⟨_, d, p, h2, _⟩ := hg i hi
              obtain ⟨z, h3, _, h4⟩ := DataW.trod_int he h2
              exact ⟨z, h3, h4⟩
            obtain ⟨xs, hx1, hx2, hx3⟩ := intsCells_of (k := k) (cs := rowsCells 1 cap g) (by
              intro i hi
              have hcw := cells_length [.rows 1 cap g]
              simp [cells, Seg.cells, width, Seg.width] at hcw
              rw [hcw] at hi
              obtain ⟨z, h1, h2⟩ := hone i hi
              refine ⟨z, ?_, h2⟩
              have h4 := rowsCells_get2 (w := 1) (n := cap) (g := g) hi (j := 0) (by omega)
              rw [fit_same (by rw [h1]; rfl), h1] at h4
              simpa using h4)
            have hcw := cells_length [.rows 1 cap g]
            simp [cells, Seg.cells, width, Seg.width] at hcw
            rw [hcw] at hx1 hx3
            refine ⟨some a, len, cap, xs, cs', rfl, hlc, hcB, ⟨hx1, hx2, ?_⟩, hr⟩
            rcases hsl.at_ with h0 | h0 | ⟨b, off, h1, h2⟩
            · exact .inl h0
            · omega
            · refine .inr ⟨b, off, h1, ⟨fun i hi => ?_, h2.lt⟩⟩
              have := h2.cell i (by simpa [width, Seg.width, hc1] using hi)
              rw [this]
              simp only [cells, Seg.cells, List.append_nil]
              rw [hc1, hx3]
          · cases h
        · simp only [Option.map_eq_some_iff] at h
          obtain ⟨l, hl, rfl⟩ := h
          refine ⟨some a, len, cap, g, cs', rfl, hlc, hcB, hsl, fun i hi => ?_, hr⟩
          obtain ⟨_, d, p, h2, h3⟩ := hg i hi
          have := ih e .nil l hl m' (g i) d p h2 h3 [] rfl
          simpa using this
    · rename_i e hu
      simp only [Option.map_eq_some_iff] at h
      obtain ⟨l, hl, rfl⟩ := h
      rcases DataW.trod_pointer hu hd with ⟨rfl, hx⟩ | ⟨a, cs1, y, m', e1, rfl, hx, hcs, hy⟩
      · exact ⟨none, cs', rfl, (fun x hx => by cases hx), hr⟩
      · refine ⟨some a, cs', rfl, (fun x hx2 => ?_), hr⟩
        obtain rfl := Option.some.inj hx2
        obtain ⟨hl1, hc1⟩ := cells?_get hcs
        by_cases hw0 : P.cellsOf e = 0
        · exact .inl hw0
        obtain rfl : m' = m := by omega
        simp only [Prod.mk.injEq] at hx
        have ha : a = ⟨a.block, a.off, none⟩ := by
          have h1 := hc1 0 (by omega)
          rw [List.getElem?_eq_getElem (by omega)] at h1
          have h3 := cell_spot h1
          refine Addr.add_spot (i := 0) ?_ rfl
          simpa [Addr.add] using h3
        refine .inr ⟨a.block, a.off, cs1, ha, hl1, ?_, ?_⟩
        · refine mem_of_cells (n := P.cellsOf e) (cs := cs1) (fun i hi => ?_) hl1 (by omega) ?_ (by simp [width, Seg.width])
          · rw [← hc1 i hi, ha, add_at]
          · simp [cells, Seg.cells, rowsCells, List.range_succ, fit_same hl1]
        · have := ih e .nil l hl m' cs1 y.1 y.2 hy (hS.ptr _ (by rw [hx.1] at hs; exact hs)) [] rfl
          simpa using this
    · rename_i fs hu
      split at h
      · rename_i hcon
        obtain ⟨xs, m', e1, hx, hlen, hxl, hf⟩ := DataW.trod_struct hu hd
        obtain rfl : m' = m := by omega
        simp only [Prod.mk.injEq] at hx
        rw [hx.1] at hs
        have hsx : ∀ x ∈ xs, S x.1 := fun x hx => hS.agg _ hs _ (List.mem_map.2 ⟨x, hx, rfl⟩)
        have key : ∀ (l : List Field) (o : Nat) (L : Lay), consec P l o (P.cellsOf t) = true → l.foldr (fun f acc => acc.bind (lay P n f.type)) (some r) = some L →
            (∀ f ∈ l, ∃ d p, DataW.trod enc P W 0 (fun _ => true) true m' f.type ((cs.drop f.offset).take (P.cellsOf f.type)) = some (d, p) ∧ S d) → Fits W B L (cs.drop o ++ cs') := by
          intro l
          induction l with
          | nil =>
            intro o L h1 h2 _
            simp [consec] at h1
            simp at h2
            subst h2
            rw [h1, ← hlen]
            simpa using hr
          | cons f l ihl =>
            intro o L h1 h2 h3
            simp only [consec, Bool.and_eq_true, beq_iff_eq] at h1
            simp only [List.foldr_cons, Option.bind_eq_some_iff] at h2
            obtain ⟨L1, h4, h5⟩ := h2
            have h6 := ihl _ _ h1.2 h4 fun f' hf' => h3 f' (by simp [hf'])
            obtain ⟨d, p, h7, h8⟩ := h3 f (by simp)
            have h9 := ih f.type L1 L h5 m' _ d p h7 h8 _ h6
            rw [h1.1] at h9
            rw [← List.append_assoc] at h9
            have : ((cs.drop o).take (P.cellsOf f.type)) ++ cs.drop (o + P.cellsOf f.type) = cs.drop o := by
              rw [← List.drop_drop]
              exact List.take_append_drop _ _
            rw [this] at h9
            exact h9
        have := key fs.toList 0 L hcon h (by
          intro f hfm
          obtain ⟨i, hi, hfi⟩ := List.getElem_of_mem hfm
          have h1 := hf i f (by simpa [← hfi] using hi)
          have h2 : i < xs.length := by rw [hxl]; simpa using hi
          rw [List.getElem?_eq_getElem h2] at h1
          exact ⟨_, _, h1, hsx _ (List.getElem_mem h2)⟩)
        simpa using this
      · cases h
    · rename_i q e hu
      split at h
      · rename_i hct
        obtain ⟨xs, m', e1, hx, hlen, hxl, hf⟩ := DataW.trod_array hu hd
        obtain rfl : m' = m := by omega
        simp only [Prod.mk.injEq] at hx
        rw [hx.1] at hs
        have hsx : ∀ x ∈ xs, S x.1 := fun x hx => hS.agg _ hs _ (List.mem_map.2 ⟨x, hx, rfl⟩)
        have hel : ∀ i, i < q → ∃ d p, DataW.trod enc P W 0 (fun _ => true) true m' e ((cs.drop (i * P.cellsOf e)).take (P.cellsOf e)) = some (d, p) ∧ S d := by
          intro i hi
          have h1 := hf i hi
          have h2 : i < xs.length := by omega
          rw [List.getElem?_eq_getElem h2] at h1
          exact ⟨_, _, h1, hsx _ (List.getElem_mem h2)⟩
        split at h
        · rename_i k he
          split at h
          · rename_i hc1
            obtain rfl := Option.some.inj h
            have hq : cs.length = q := by rw [hlen, hct, hc1]; simp
            obtain ⟨zs, h1, h2, h3⟩ := intsCells_of (k := k) (cs := cs) (by
              intro i hi
              obtain ⟨d, p, h1, _⟩ := hel i (by omega)
              obtain ⟨z, h2, _, h3⟩ := DataW.trod_int he h1
              refine ⟨z, ?_, h3⟩
              rw [hc1] at h2
              have := congrArg (fun l => l[0]?) h2
              simpa using this)
            exact ⟨zs, cs', by omega, h2, by rw [hq] at h3; rw [← h3], hr⟩
          · cases h
        · simp only [Option.map_eq_some_iff] at h
          obtain ⟨l, hl, rfl⟩ := h
          refine ⟨fun i => (cs.drop (i * P.cellsOf e)).take (P.cellsOf e), cs', fun i hi => ⟨?_, ?_⟩, by rw [← rowsCells_of q cs (by omega)], hr⟩
          · simp [hlen, hct]
            have : (i + 1) * P.cellsOf e ≤ q * P.cellsOf e := Nat.mul_le_mul_right _ hi
            rw [Nat.succ_mul] at this
            omega
          · obtain ⟨d, p, h1, h2⟩ := hel i hi
            have := ih e .nil l hl m' _ d p h1 h2 [] rfl
            simpa using this
      · cases h
    all_goals first
      | (cases h; done)
      | (rename_i hu
         obtain rfl := Option.some.inj h
         have hc : ∃ v, cs = [v] := by
           unfold DataW.trod at hd
           rw [hu] at hd
           split at hd <;> simp_all
         obtain ⟨v, rfl⟩ := hc
         exact ⟨v, cs', rfl, hr⟩)
end
end Go.Sx
/- The engine, part 12: slices that are made, grown, copied. -/
namespace Go.Sx
open Go Go.RowKit
set_option linter.all false

theorem one1_kit {v : Value} (h : one1 v = true) : v.oneCell' = true := by cases v <;> simp_all [one1, Value.oneCell']

/-- What a slice or a string that is read holds: n elements of 'size' cells. -/
structure SrcV (C : Cfg) (m : List Chunk) (size : Nat) (v : Value) (n : Nat) (cs : List Value) : Prop where
  len : ∀ w : World, (Builtin.lenOf v).run C.P w = .ok n w
  cells : ∀ w, Sat C.W0 C.S m w → ∀ k, k ≤ n → (Builtin.firstCells size k v).run C.P w = .ok (cs.take (k * size)).toArray w
  nl : cs.length = n * size
  one : ∀ u ∈ cs, one1 u = true

section
variable {C : Cfg} {m : List Chunk} {t : TS} {K : KN}

theorem run_first {P : Program} {w : World} {b off size n l c : Nat} {cs : List Value} (hl : cs.length = n * size) (h : ∀ i, i < n * size → w.cell? ⟨b, off + i, none⟩ = cs[i]?) {k : Nat} (hk : k ≤ n) :
    (Builtin.firstCells size k (.slice (some ⟨b, off, none⟩) l c)).run P w = .ok (cs.take (k * size)).toArray w := by
  have hks : k * size ≤ n * size := Nat.mul_le_mul_right _ hk
  refine run_firstCells_some w size k ⟨b, off, none⟩ l c (cs.take (k * size)) (by rw [List.length_take]; omega) fun j v hj => ?_
  have hj' : j < k * size := by
    have := (List.getElem?_eq_some_iff.1 hj).1
    rw [List.length_take] at this; omega
  rw [List.getElem?_take_of_lt hj'] at hj
  rw [Addr.add_lit, h j (by omega)]
  exact hj

theorem src_own {size b off n c : Nat} {T : TypeId} {s p : List Seg} (hb : Has b (.cells (cells s).toArray T (0, 0)) m) (hp : sub s off (n * size) = some p) (h1 : ∀ u ∈ cells p, one1 u = true) : SrcV C m size (.slice (some ⟨b, off, none⟩) n c) n (cells p) := by
  obtain ⟨e1, e2, e3⟩ := sub_cells hp
  refine ⟨fun _ => rfl, fun w hw k hk => run_first (by rw [cells_length]; exact e2) (fun i hi => ?_) hk, by rw [cells_length]; exact e2, h1⟩
  rw [cells_load (hw.own _ hb.mem), e1, List.getElem?_take_of_lt hi, List.getElem?_drop]
theorem src_mem {size b off n c o0 : Nat} {s p : List Seg} (hm : Mem C.W0 b o0 s) (hS : b ∉ C.S) (hp : sub s off (n * size) = some p) (h1 : ∀ u ∈ cells p, one1 u = true) : SrcV C m size (.slice (some ⟨b, o0 + off, none⟩) n c) n (cells p) := by
  obtain ⟨e1, e2, e3⟩ := sub_cells hp
  refine ⟨fun _ => rfl, fun w hw k hk => run_first (by rw [cells_length]; exact e2) (fun i hi => ?_) hk, by rw [cells_length]; exact e2, h1⟩
  rw [Nat.add_assoc, hm.now hS hw (i := off + i) (by rcases e3 with e3 | e3 <;> omega), e1, List.getElem?_take_of_lt hi, List.getElem?_drop]
theorem src_none {size c : Nat} {a : Option Addr} : SrcV C m size (.slice a 0 c) 0 [] := by
  refine ⟨fun _ => rfl, fun w hw k hk => ?_, by simp, fun _ h => by cases h⟩
  obtain rfl : k = 0 := by omega
  cases a with
  | none => simpa using run_firstCells_none (P := C.P) w size 0 0 c
  | some a => simpa using run_firstCells_some (P := C.P) w size 0 a 0 c [] (by simp) (by simp)
theorem src_str {s : ByteArray} : SrcV C m 1 (.string s) s.size (byteCells s) := by
  refine ⟨fun _ => rfl, fun w hw k hk => ?_, by rw [byteCells_length, Nat.mul_one], fun u hu => by obtain ⟨_, _, rfl⟩ := List.mem_map.1 hu; rfl⟩
  simp only [Builtin.firstCells, Sem.run_pure]
  congr 1
  apply Array.ext'
  have e : (s.extract 0 k).data.toList = s.data.toList.take k := by
    have : (s.extract 0 k).data = s.data.extract 0 k := by simp [ByteArray.data_extract]
    rw [this]; simp
  simp only [Array.toList_map, e, byteCells, Nat.mul_one, List.map_take]

theorem SrcV.kit {size n : Nat} {v : Value} {cs : List Value} {tx : TypeId} (h : SrcV C m size v n cs) (hk : (∃ e', C.P.underlying tx = some (.slice e')) ∨ C.P.underlying tx = some .string) {w : World} (hw : Sat C.W0 C.S m w) :
    Go.Src C.P size tx v n cs w := by
  have e : cs.take (n * size) = cs := List.take_of_length_le (by rw [h.nl]; exact Nat.le_refl _)
  refine ⟨hk, h.len, ?_, ?_, h.nl, fun u hu => one1_kit (h.one u hu)⟩
  · have := h.cells w hw n (Nat.le_refl _); rw [e] at this; exact this
  · have := h.cells w.drew hw.drew n (Nat.le_refl _); rw [e] at this; exact this

/-- A known block is let go. -/
inductive Rem (c : Chunk) : List Chunk → List Chunk → Prop
  | here {m : List Chunk} : Rem c (c :: m) m
  | there {c' : Chunk} {m m' : List Chunk} : Rem c m m' → Rem c (c' :: m) (c' :: m')
theorem Rem.sub {c : Chunk} {m m' : List Chunk} (h : Rem c m m') : List.Sublist m' m := by
  induction h with
  | here => exact List.sublist_cons_self _ _
  | there _ ih => exact ih.cons₂ _
theorem Rem.mem {c : Chunk} {m m' : List Chunk} (h : Rem c m m') : c ∈ m := by
  induction h with
  | here => exact List.mem_cons_self
  | there _ ih => exact List.mem_cons_of_mem _ ih
theorem Rem.perm {c : Chunk} {m m' : List Chunk} (h : Rem c m m') : List.Perm (c :: m') m := by
  induction h with
  | here => exact List.Perm.refl _
  | there _ ih => exact (List.Perm.swap _ _ _).trans (ih.cons _)
theorem Sat.perm {W0 : World} {S : List Nat} {m m' : List Chunk} {w : World} (h : Sat W0 S m w) (hp : List.Perm m' m) : Sat W0 S m' w :=
  ⟨h.fr, fun c hc => h.own c (hp.subset hc), fun c hc => h.base c (hp.subset hc), (hp.map _).nodup_iff.2 h.dist⟩

theorem infoOk_spec {P : Program} {T : TypeId} {w bytes : Nat} (h : infoOk P T w bytes = true) : ∃ i, P.info? T = some i ∧ i.size = w ∧ i.bytes = bytes ∧ 0 < bytes := by
  unfold infoOk at h
  split at h
  · rename_i i hi
    simp only [Bool.and_eq_true, Nat.beq_eq] at h
    exact ⟨i, hi, h.1.1, h.1.2, by have := Nat.lt_of_succ_le (Nat.le_of_ble_eq_true h.2); exact this⟩
  · cases h
theorem zOf_spec {P : Program} {T : TypeId} {i : TypeInfo} (hi : P.info? T = some i) {l : List Value} (h : zOf P T = some l) : ∃ z, i.zero = some z ∧ z.cells = l.toArray := by
  unfold zOf at h
  rw [hi] at h
  simp only [Option.bind_some] at h
  cases hz : i.zero with
  | none => rw [hz] at h; cases h
  | some z =>
    rw [hz] at h
    simp only [Option.map_some, Option.some.injEq] at h
    exact ⟨z, rfl, by rw [← h, Array.toArray_toList]⟩

theorem okOp_app {P : Program} {o : Oper} {T : TypeId} {w bytes : Nat} {z : List Seg} {x y : Operand} (h : okOp P o (.app T w bytes z x y) = true) :
    ∃ c t tx, o.op = .call c ∧ c.callee = .builtin .append ∧ c.args = #[x, y] ∧ c.argTypes[0]? = some t ∧ c.argTypes[1]? = some tx ∧ P.underlying t = some (.slice T) ∧
      ((∃ e', P.underlying tx = some (.slice e')) ∨ P.underlying tx = some .string) ∧ (∃ i zv, P.info? T = some i ∧ i.size = w ∧ i.bytes = bytes ∧ 0 < bytes ∧ i.zero = some zv ∧ zv.cells = (cells z).toArray) ∧ width z = w ∧ 0 < w := by
  simp only [okOp] at h
  split at h
  · rename_i c heq
    simp only [Bool.and_eq_true, Nat.beq_eq] at h
    obtain ⟨⟨⟨⟨⟨⟨⟨h1, h2⟩, h3⟩, h4⟩, h5⟩, h6⟩, h7⟩, h8⟩ := h
    have hb : c.callee = .builtin .append := by
      revert h1; cases c.callee <;> simp
      rename_i f; cases f <;> simp
    have hargs : c.args = #[x, y] := by
      have := oeqL_sound h2
      exact Array.ext' (by simpa using this)
    obtain ⟨i, hi, hs, hby, hpos⟩ := infoOk_spec h5
    cases ht : c.argTypes[0]? with
    | none => rw [ht] at h3; simp at h3
    | some t =>
      rw [ht] at h3
      simp only [Option.bind_some] at h3
      cases htx : c.argTypes[1]? with
      | none => rw [htx] at h4; simp at h4
      | some tx =>
        rw [htx] at h4
        simp only [Option.bind_some] at h4
        have hz : ∃ zv, i.zero = some zv ∧ zv.cells = (cells z).toArray := by
          split at h6
          · rename_i q hq
            obtain ⟨zv, e1, e2⟩ := zOf_spec hi hq
            exact ⟨zv, e1, by rw [e2, veqL_sound h6]⟩
          · cases h6
        obtain ⟨zv, hz1, hz2⟩ := hz
        refine ⟨c, t, tx, heq, hb, hargs, ht, htx, ?_, ?_, ⟨i, zv, hi, hs, hby, hpos, hz1, hz2⟩, h7, by have := Nat.lt_of_succ_le (Nat.le_of_ble_eq_true h8); exact this⟩
        · split at h3
          · rename_i e he; rw [decide_eq_true_eq] at h3; subst h3; exact he
          · cases h3
        · split at h4
          · rename_i e he; exact .inl ⟨e, he⟩
          · rename_i he; exact .inr he
          · cases h4
  · cases h

theorem zeros_rep {z : List Value} (hz : 0 < z.length) : ∀ n : Nat, (Builtin.zeroCells z.toArray n).toList = (List.replicate n z).flatten := by
  intro n
  apply List.ext_getElem?
  intro i
  have hlen : ((List.replicate n z).flatten).length = n * z.length := by simp
  by_cases hi : i < n * z.length
  · have h1 : i % z.length < z.length := Nat.mod_lt _ hz
    have hd : i / z.length < n := Nat.div_lt_of_lt_mul (by rw [Nat.mul_comm]; exact hi)
    have : ∀ (n i : Nat), i < n * z.length → ((List.replicate n z).flatten)[i]? = z[i % z.length]? := by
      intro n
      induction n with
      | zero => intro i hi; simp at hi
      | succ n ih =>
        intro i hi
        rw [List.replicate_succ, List.flatten_cons]
        by_cases h : i < z.length
        · rw [List.getElem?_append_left h, Nat.mod_eq_of_lt h]
        · rw [List.getElem?_append_right (by omega), ih _ (by rw [Nat.succ_mul] at hi; omega)]
          congr 1
          exact (Nat.mod_eq_sub_mod (by omega)).symm
    rw [this n i hi]
    simp [Builtin.zeroCells, hi, h1]
  · have hz2 : ((Builtin.zeroCells z.toArray n).toList).length = n * z.length := by simp [Builtin.zeroCells]
    rw [List.getElem?_eq_none (by rw [hz2]; omega), List.getElem?_eq_none (by rw [hlen]; omega)]

/-- append: onto a slice that is one's own. -/
theorem ef_app {d : Nat} {T T' : TypeId} {w bytes : Nat} {z : List Seg} {x y : Operand} {b off n0 cp n : Nat} {v : Value} {cs : List Value} {segs : List Seg}
    (hx : ev t x = some (.slice (some ⟨b, off, none⟩) n0 cp)) (hb : Has b (.cells (cells segs).toArray T' (0, 0)) m) (hy : ev t y = some v) (hs : SrcV C m w v n cs)
    (hfit : off + cp * w ≤ width segs) (hn0 : n0 ≤ cp) (hsz : (n0 + n) * bytes ≤ 140737488355328)
    (room : n0 + n ≤ cp → ∃ segs' m', cells segs' = splice (cells segs) (off + n0 * w) cs ∧ Upd b (.cells (cells segs).toArray T' (0, 0)) (.cells (cells segs').toArray T' (0, 0)) m m' ∧ K ((d, .slice (some ⟨b, off, none⟩) (n0 + n) cp) :: t) m')
    (grow : cp < n0 + n → ∀ b' cp', C.W0.heap.size ≤ b' → n0 + n ≤ cp' → ∃ segs', cells segs' = ((cells segs).drop off).take (n0 * w) ++ cs ++ (List.replicate (cp' - (n0 + n)) (cells z)).flatten ∧ K ((d, .slice (some ⟨b', 0, none⟩) (n0 + n) cp') :: t) (ck b' T segs' :: m)) :
    EF C m t (some d) (.app T w bytes z x y) K := by
  intro o ho hd a ha wd hw
  obtain ⟨hd1, hd2⟩ := okD_some hd
  obtain ⟨c, ty, tx, heq, hc, hargs, ht, htx, hu, hk, ⟨i, zv, hi, hsz', hby, hpos, hz1, hz2⟩, hwz, hw0⟩ := okOp_app ho
  have hsrc := hs.kit hk hw
  have hmul : (n0 + n) ≤ (n0 + n) * bytes := Nat.le_mul_of_pos_right _ hpos
  have hrun : ∀ {r : Result Value}, (Builtin.append_ c.argTypes o.type #[.slice (some ⟨b, off, none⟩) n0 cp, v]).run C.P wd = r → (execOp a.eval o).run C.P wd = r.andThen fun v w => .ok (.value v) w := by
    intro r hr
    simp only [execOp, heq, resolve, hc, Sem.run_bind, Sem.run_pure, Result.andThen_ok, invoke, builtin, hargs, List.map_toArray, List.map_cons, List.map_nil, ha.ev hx, ha.ev hy, hr]
  have hat : Builtin.append_ c.argTypes o.type #[.slice (some ⟨b, off, none⟩) n0 cp, v] = Builtin.append_ #[ty, tx] o.type #[.slice (some ⟨b, off, none⟩) n0 cp, v] := by
    simp [Builtin.append_, ht, htx]
  by_cases hroom : n0 + n ≤ cp
  · obtain ⟨segs', m', e1, hup, hK⟩ := room hroom
    have hle : n0 * w + n * w ≤ cp * w := by rw [← Nat.add_mul]; exact Nat.mul_le_mul_right _ hroom
    have hup' : Upd b (.cells (cells segs).toArray T' (0, 0)) (.cells (splice (cells segs) (off + n0 * w + 0) cs).toArray T' (0, 0)) m m' := by rw [Nat.add_zero, ← e1]; exact hup
    obtain ⟨w', hst, hw'⟩ := run_storeCells (P := C.P) cs (off + n0 * w) 0 (cells segs) m m' wd hw hup' (by rw [cells_length, hs.nl]; omega) hs.one
    have hr : (Builtin.append_ #[ty, tx] o.type #[.slice (some ⟨b, off, none⟩) n0 cp, v]).run C.P wd = .ok (.slice (some ⟨b, off, none⟩) (n0 + n) cp) w' := by
      subst hsz'
      rcases hsrc.kind with ⟨e', hk'⟩ | hk' <;> simp [Builtin.append_, run_underlying hu, run_underlying hk', sizeOf, typeInfo, hi, hsrc.len, hroom, hsrc.cells, Addr.add_lit, hst]
    rw [← hat] at hr
    have h2 := hrun hr
    unfold Oper.wp
    rw [h2, Result.andThen_ok]
    simp only [Oper.upon]
    exact ⟨_, m', hK, hd1 ▸ ha.put hd2 _, hw'⟩
  · have hg : cp < n0 + n := by omega
    have hold : (Builtin.firstCells i.size n0 (.slice (some ⟨b, off, none⟩) n0 cp)).run C.P wd.drew = .ok (((cells segs).drop off).take (n0 * i.size)).toArray wd.drew := by
      have hle : n0 * w ≤ cp * w := Nat.mul_le_mul_right _ hn0
      have := run_first (P := C.P) (w := wd.drew) (b := b) (off := off) (size := w) (n := n0) (l := n0) (c := cp) (cs := ((cells segs).drop off).take (n0 * w)) (by simp [cells_length]; omega) (fun i hi => by
        rw [cells_load ((show Sat C.W0 C.S m wd.drew from hw.drew).own _ hb.mem), List.getElem?_take_of_lt hi, List.getElem?_drop]) (Nat.le_refl n0)
      rw [hsz', this, List.take_take, Nat.min_self]
    have hfit' : Builtin.nextslicecap (n0 + n) cp * i.bytes ≤ 281474976710656 := by rw [hby]; exact growslice_fits hg hsz
    have hr := run_append_grow_src (P := C.P) wd ty tx o.type T i zv hu hi hz1 (some ⟨b, off, none⟩) n0 cp _ hold v n cs (by rw [hsz']; exact hsrc) hg (by omega) hfit'
    rw [← hat] at hr
    have h2 := hrun hr
    unfold Oper.wp
    rw [h2, Result.andThen_ok]
    simp only [Oper.upon]
    have hge := grownCap_ge wd (n0 + n) cp T
    obtain ⟨segs', e1, hK⟩ := grow hg wd.heap.size (grownCap wd (n0 + n) cp T) hw.fr.size hge
    refine ⟨_, _, hK, hd1 ▸ ha.put hd2 _, ?_⟩
    have ha2 := hw.drew.alloc (.cells ((((cells segs).drop off).take (n0 * i.size) ++ cs).toArray ++ Builtin.zeroCells zv.cells (grownCap wd (n0 + n) cp T - (n0 + n))) T)
    have e2 : ((((cells segs).drop off).take (n0 * i.size) ++ cs).toArray ++ Builtin.zeroCells zv.cells (grownCap wd (n0 + n) cp T - (n0 + n))) = (cells segs').toArray := by
      rw [e1, hsz', hz2]
      apply Array.ext'
      rw [Array.toList_append, zeros_rep (by rw [cells_length, hwz]; exact hw0)]
    rw [e2]
    rw [e2] at ha2
    exact ha2

/-- append: onto nil. -/
theorem ef_app0 {d : Nat} {T : TypeId} {w bytes : Nat} {z : List Seg} {x y : Operand} {n : Nat} {v : Value} {cs : List Value}
    (hx : ev t x = some (.slice none 0 0)) (hy : ev t y = some v) (hs : SrcV C m w v n cs) (hsz : n * bytes ≤ 140737488355328)
    (none_ : n = 0 → K ((d, .slice none 0 0) :: t) m)
    (grow : 0 < n → ∀ b' cp', C.W0.heap.size ≤ b' → n ≤ cp' → ∃ segs', cells segs' = cs ++ (List.replicate (cp' - n) (cells z)).flatten ∧ K ((d, .slice (some ⟨b', 0, none⟩) n cp') :: t) (ck b' T segs' :: m)) :
    EF C m t (some d) (.app T w bytes z x y) K := by
  intro o ho hd a ha wd hw
  obtain ⟨hd1, hd2⟩ := okD_some hd
  obtain ⟨c, ty, tx, heq, hc, hargs, ht, htx, hu, hk, ⟨i, zv, hi, hsz', hby, hpos, hz1, hz2⟩, hwz, hw0⟩ := okOp_app ho
  have hsrc := hs.kit hk hw
  have hmul : n ≤ n * bytes := Nat.le_mul_of_pos_right _ hpos
  have hrun : ∀ {r : Result Value}, (Builtin.append_ c.argTypes o.type #[.slice none 0 0, v]).run C.P wd = r → (execOp a.eval o).run C.P wd = r.andThen fun v w => .ok (.value v) w := by
    intro r hr
    simp only [execOp, heq, resolve, hc, Sem.run_bind, Sem.run_pure, Result.andThen_ok, invoke, builtin, hargs, List.map_toArray, List.map_cons, List.map_nil, ha.ev hx, ha.ev hy, hr]
  have hat : Builtin.append_ c.argTypes o.type #[.slice none 0 0, v] = Builtin.append_ #[ty, tx] o.type #[.slice none 0 0, v] := by
    simp [Builtin.append_, ht, htx]
  by_cases hroom : n = 0
  · have hK := none_ hroom
    have hr : (Builtin.append_ #[ty, tx] o.type #[.slice none 0 0, v]).run C.P wd = .ok (.slice none 0 0) wd := by
      subst hsz'
      subst hroom
      rcases hsrc.kind with ⟨e', hk'⟩ | hk' <;> simp [Builtin.append_, run_underlying hu, run_underlying hk', sizeOf, typeInfo, hi, hsrc.len, hsrc.cells]
    rw [← hat] at hr
    have h2 := hrun hr
    unfold Oper.wp
    rw [h2, Result.andThen_ok]
    simp only [Oper.upon]
    exact ⟨_, m, hK, hd1 ▸ ha.put hd2 _, hw⟩
  · have hg : 0 < 0 + n := by omega
    have hold : (Builtin.firstCells i.size 0 (.slice none 0 0)).run C.P wd.drew = .ok ([] : List Value).toArray wd.drew := by simpa using run_firstCells_none (P := C.P) wd.drew i.size 0 0 0
    have hfit' : Builtin.nextslicecap (0 + n) 0 * i.bytes ≤ 281474976710656 := by rw [hby]; exact growslice_fits hg (by simpa using hsz)
    have hr := run_append_grow_src (P := C.P) wd ty tx o.type T i zv hu hi hz1 none 0 0 _ hold v n cs (by rw [hsz']; exact hsrc) hg (by omega) hfit'
    simp only [Nat.zero_add, List.nil_append] at hr
    rw [← hat] at hr
    have h2 := hrun hr
    unfold Oper.wp
    rw [h2, Result.andThen_ok]
    simp only [Oper.upon]
    have hge := grownCap_ge wd n 0 T
    obtain ⟨segs', e1, hK⟩ := grow (by omega) wd.heap.size (grownCap wd n 0 T) hw.fr.size hge
    refine ⟨_, _, hK, hd1 ▸ ha.put hd2 _, ?_⟩
    have ha2 := hw.drew.alloc (.cells (cs.toArray ++ Builtin.zeroCells zv.cells (grownCap wd n 0 T - n)) T)
    have e2 : (cs.toArray ++ Builtin.zeroCells zv.cells (grownCap wd n 0 T - n)) = (cells segs').toArray := by
      rw [e1, hz2]
      apply Array.ext'
      rw [Array.toList_append, zeros_rep (by rw [cells_length, hwz]; exact hw0)]
    rw [e2]
    rw [e2] at ha2
    exact ha2
end
end Go.Sx
/- The engine, part 13: make, slice literals, copy; append in numbers and in rows. -/
namespace Go.Sx
open Go Go.RowKit
set_option linter.all false

section
variable {C : Cfg} {m : List Chunk} {t : TS} {K : KN}

/-- make. -/
theorem ef_mks {d : Nat} {T : TypeId} {bytes : Nat} {z : List Seg} {l c : Operand} {kl kc : IntKind} {L N : Int}
    (hl : ev t l = some (.int kl L)) (hc : ev t c = some (.int kc N)) (h0 : 0 ≤ L) (hln : L ≤ N) (hb : (bytes : Int) * N ≤ 281474976710656) (h63 : N ≤ 9223372036854775807)
    (h : ∀ b, C.W0.heap.size ≤ b → ∃ segs, cells segs = (List.replicate N.toNat (cells z)).flatten ∧ K ((d, .slice (some ⟨b, 0, none⟩) L.toNat N.toNat) :: t) (ck b T segs :: m)) :
    EF C m t (some d) (.mks T bytes z l c) K := by
  intro o ho hd a ha wd hw
  obtain ⟨hd1, hd2⟩ := okD_some hd
  simp only [okOp] at ho
  split at ho
  · rename_i ty l' c' heq
    simp only [Bool.and_eq_true] at ho
    obtain ⟨⟨⟨⟨h1, h2⟩, h3⟩, h4⟩, h5⟩ := ho
    have e := oeq_sound h1; have e' := oeq_sound h2; subst e; subst e'
    split at h3
    · rename_i E hu
      rw [decide_eq_true_eq] at h3; subst h3
      obtain ⟨i, hi, hs, hby, hpos⟩ := infoOk_spec h4
      split at h5
      · rename_i q hq
        obtain ⟨zv, hz1, hz2⟩ := zOf_spec hi hq
        rw [veqL_sound h5] at hz2
        have hr := run_make (P := C.P) wd ty E i zv hu hi hz1 kl kc L N h0 hln (by rw [hby]; exact hb) h63
        have h2 : (execOp a.eval o).run C.P wd = (Result.ok (.slice (some ⟨wd.heap.size, 0, none⟩) L.toNat N.toNat) (wd.alloc (.cells (madeCells zv.cells (N.toNat * i.size)) E)) : Result Value).andThen fun v w => .ok (.value v) w := by
          simp only [execOp, heq, ha.ev hl, ha.ev hc, Sem.run_bind, hr, Result.andThen_ok, Sem.run_pure]
        unfold Oper.wp
        rw [h2, Result.andThen_ok]
        simp only [Oper.upon]
        obtain ⟨segs, e1, hK⟩ := h wd.heap.size hw.fr.size
        refine ⟨_, _, hK, hd1 ▸ ha.put hd2 _, ?_⟩
        have e2 : madeCells zv.cells (N.toNat * i.size) = (cells segs).toArray := by
          have hsz : zv.cells.size = i.size := by rw [hz2, hs]; simp [cells_length]
          rw [e1]
          by_cases hz : 0 < (cells z).length
          · apply Array.ext'
            rw [← zeros_rep hz]
            simp only [madeCells, Builtin.zeroCells, hz2]
            rw [hs, List.size_toArray, cells_length]
          · have hz0 : (cells z) = [] := List.eq_nil_of_length_eq_zero (by omega)
            have hw0 : i.size = 0 := by rw [hs, ← cells_length, hz0]; rfl
            rw [hz0, hw0]
            simp [madeCells]
        rw [e2]
        exact hw.alloc _
      · cases h5
    · cases h3
  · cases ho

theorem fillS_ok {a : Act} {n w : Nat} (ha : SatT n t a) : ∀ {z q : List Seg} {parts : List (Nat × Nat × Operand)} {ps : List (Nat × Operand)}, BdR t z parts q → partsOk w ps parts = true →
    Instr.fill (fun i => some (i * w, w)) (cells z).toArray (ps.map fun p => (p.1, a.eval p.2)) = some (cells q).toArray
  | z, _, [], ps, .nil, hp => by
    cases ps with
    | nil => rfl
    | cons p ps => obtain ⟨i, x⟩ := p; simp [partsOk] at hp
  | z, q, (off, n1, x) :: r, ps, hb, hp => by
    cases ps with
    | nil => simp [partsOk] at hp
    | cons p ps =>
      obtain ⟨i, y⟩ := p
      simp only [partsOk, Bool.and_eq_true, Nat.beq_eq] at hp
      obtain ⟨⟨⟨h0, h1⟩, h2⟩, h3⟩ := hp
      have e := oeq_sound h2; subst e
      subst h0
      subst h1
      cases hb with
      | one hx hv hput hr =>
        rename_i z' v
        obtain ⟨e1, e2, e3⟩ := putC_cells hput
        have hcs : (a.eval y).cells = #[v] := by rw [ha.ev hx]; exact hv
        simp only [List.map_cons, Instr.fill, hcs]
        rw [if_neg (by simp [cells_length] at e3 ⊢; omega)]
        have := foldl_splice (i * 1) [v] 0 (cells z) (by rw [cells_length]; simp; omega)
        have e4 : ((#[v] : Array Value).zipIdx.foldl (fun (cs : Array Value) (p : Value × Nat) => cs.setIfInBounds (i * 1 + p.2) p.1) (cells z).toArray) = (cells z').toArray := by
          rw [e1, set_splice (by rw [cells_length]; exact e3)]
          simpa using this
        rw [e4]
        exact fillS_ok ha hr h3
      | agg hx hw hput hr =>
        rename_i z' p
        obtain ⟨e1, e2, e3⟩ := putL_cells hput
        have hcs : (a.eval y).cells = (cells p).toArray := by rw [ha.ev hx]; rfl
        simp only [List.map_cons, Instr.fill, hcs]
        rw [if_neg (by simp [cells_length]; omega)]
        have e4 : ((cells p).toArray.zipIdx.foldl (fun (cs : Array Value) (q : Value × Nat) => cs.setIfInBounds (i * n1 + q.2) q.1) (cells z).toArray) = (cells z').toArray := by
          rw [← Array.foldl_toList, e1]
          have := foldl_splice (i * n1) (cells p) 0 (cells z) (by rw [cells_length, cells_length]; omega)
          simpa using this
        rw [e4]
        exact fillS_ok ha hr h3

/-- A slice literal. -/
theorem ef_bs {d : Nat} {T : TypeId} {len w : Nat} {z q : List Seg} {parts : List (Nat × Nat × Operand)} (hb : BdR t z parts q)
    (h : ∀ b, C.W0.heap.size ≤ b → K ((d, .slice (some ⟨b, 0, none⟩) len len) :: t) (ck b T q :: m)) : EF C m t (some d) (.bs T len w z parts) K := by
  intro o ho hd a ha wd hw
  obtain ⟨hd1, hd2⟩ := okD_some hd
  simp only [okOp] at ho
  split at ho
  · rename_i ty len' ps heq
    simp only [Bool.and_eq_true, Nat.beq_eq] at ho
    obtain ⟨⟨⟨⟨⟨h1, h2⟩, h3⟩, h4⟩, h5⟩, h6⟩ := ho
    subst h2
    split at h1
    · rename_i E hu
      rw [decide_eq_true_eq] at h1; subst h1
      split at h4
      · rename_i q0 hq
        obtain ⟨i, hi, hsz⟩ := szOf_info h3
        obtain ⟨zv, hz1, hz2⟩ := zOf_spec hi hq
        have hsmall : ¬ len' * i.size > 2 ^ 24 := by
          have := Nat.le_of_ble_eq_true h6
          rw [hsz]; omega
        have hzc : ((Array.range (len' * w)).map fun j => q0.toArray[j % q0.toArray.size]!) = (cells z).toArray := by
          have := veqL_sound h4
          rw [← this, Array.toArray_toList]
        have hfill := fillS_ok (w := w) ha hb h5
        have hps' : (ps.map fun (x : Nat × Operand) => match x with | (i, x) => (i, a.eval x)) = (ps.map fun p => (p.1, a.eval p.2)) := rfl
        have hps : (ps.map fun p => (p.1, a.eval p.2)).toList = ps.toList.map fun p => (p.1, a.eval p.2) := by simp
        have hr : (Instr.buildSlice ty len' (ps.map fun (x : Nat × Operand) => match x with | (i, x) => (i, a.eval x))).run C.P wd = .ok (.slice (some ⟨wd.heap.size, 0, none⟩) len' len') (wd.alloc (.cells (cells q).toArray E)) := by
          rw [hps']
          by_cases hpos : len' * i.size = 0
          · have hzz : (cells z).toArray = #[] := by rw [← hzc, ← hsz, hpos]; simp [Array.range_zero']
            rw [hzz] at hfill
            rw [← hsz] at hfill
            simp [Instr.buildSlice, run_underlying hu, sizeOf, typeInfo, hi, hpos, hps, hfill, newRow, Array.range_zero']
          · refine run_buildSlice wd ty E len' _ (cells q).toArray i zv hu hi hz1 hsmall hpos ?_
            rw [hps, hz2, hsz, hzc]
            exact hfill
        have h2 : (execOp a.eval o).run C.P wd = (Result.ok (.slice (some ⟨wd.heap.size, 0, none⟩) len' len') (wd.alloc (.cells (cells q).toArray E)) : Result Value).andThen fun v w => .ok (.value v) w := by
          simp only [execOp, heq, Sem.run_bind, hr, Result.andThen_ok, Sem.run_pure]
        unfold Oper.wp
        rw [h2, Result.andThen_ok]
        simp only [Oper.upon]
        exact ⟨_, _, h wd.heap.size hw.fr.size, hd1 ▸ ha.put hd2 _, hw.alloc _⟩
      · cases h4
    · cases h1
  · cases ho

theorem okOp_cpy {P : Program} {o : Oper} {w : Nat} {x y : Operand} (h : okOp P o (.cpy w x y) = true) :
    ∃ c ty e, o.op = .call c ∧ c.callee = .builtin .copy ∧ c.args = #[x, y] ∧ c.argTypes[0]? = some ty ∧ P.underlying ty = some (.slice e) ∧ (szOf P e == some w) = true := by
  simp only [okOp] at h
  split at h
  · rename_i c heq
    simp only [Bool.and_eq_true] at h
    obtain ⟨⟨h1, h2⟩, h3⟩ := h
    have hb : c.callee = .builtin .copy := by
      revert h1; cases c.callee <;> simp
      rename_i f; cases f <;> simp
    have hargs : c.args = #[x, y] := Array.ext' (by simpa using oeqL_sound h2)
    split at h3
    · rename_i e he
      cases hT : c.argTypes[0]? with
      | none => rw [hT] at he; simp at he
      | some ty =>
        rw [hT] at he
        exact ⟨c, ty, e, heq, hb, hargs, rfl.trans hT, by simpa using he, h3⟩
    · cases h3
  · cases h

/-- copy, into a block of one's own. -/
theorem ef_cpy {d : Option Nat} {w : Nat} {x y : Operand} {b off dl dc n : Nat} {T : TypeId} {v : Value} {cs : List Value} {segs segs' : List Seg} {m' : List Chunk}
    (hx : ev t x = some (.slice (some ⟨b, off, none⟩) dl dc)) (hy : ev t y = some v) (hs : SrcV C m w v n cs) (hfit : off + dl * w ≤ width segs)
    (hc : cells segs' = splice (cells segs) off (cs.take (Nat.min n dl * w))) (hu : Upd b (.cells (cells segs).toArray T (0, 0)) (.cells (cells segs').toArray T (0, 0)) m m')
    (h : K (match d with | some d => (d, .int .i64 (Nat.min n dl : Nat)) :: t | none => t) m') : EF C m t d (.cpy w x y) K := by
  intro o ho hd a ha wd hw
  obtain ⟨c, ty, e, heq, hcal, hargs, hT, hu', hsz⟩ := okOp_cpy ho
  have hmin : Nat.min n dl ≤ n := Nat.min_le_left _ _
  have hmin' : Nat.min n dl * w ≤ dl * w := Nat.mul_le_mul_right _ (Nat.min_le_right _ _)
  have hmin2 : Nat.min n dl * w ≤ n * w := Nat.mul_le_mul_right _ hmin
  have hup' : Upd b (.cells (cells segs).toArray T (0, 0)) (.cells (splice (cells segs) (off + 0) (cs.take (Nat.min n dl * w))).toArray T (0, 0)) m m' := by rw [Nat.add_zero, ← hc]; exact hu
  obtain ⟨w', hst, hw'⟩ := run_storeCells (P := C.P) (cs.take (Nat.min n dl * w)) off 0 (cells segs) m m' wd hw hup' (by rw [cells_length, List.length_take, hs.nl]; omega) (fun u hu => hs.one u (List.mem_of_mem_take hu))
  have hfc := hs.cells wd hw _ hmin
  have hr : (Builtin.copy_ c.argTypes o.type #[.slice (some ⟨b, off, none⟩) dl dc, v]).run C.P wd = .ok (goInt (Nat.min n dl)) w' := by
    simp [Builtin.copy_, hT, run_underlying hu', hs.len, run_sizeOf hsz, hfc, hst]
  have h2 : (execOp a.eval o).run C.P wd = (Result.ok (goInt (Nat.min n dl)) w' : Result Value).andThen fun v w => .ok (.value v) w := by
    simp only [execOp, heq, resolve, hcal, Sem.run_bind, Sem.run_pure, Result.andThen_ok, invoke, builtin, hargs, List.map_toArray, List.map_cons, List.map_nil, ha.ev hx, ha.ev hy, hr]
  unfold Oper.wp
  rw [h2, Result.andThen_ok]
  simp only [Oper.upon]
  cases d with
  | none =>
    have hd0 : o.dst = none := by
      revert hd; cases o.dst <;> simp [okD]
    rw [hd0]
    exact ⟨_, m', h, ha, hw'⟩
  | some d =>
    obtain ⟨hd1, hd2⟩ := okD_some hd
    rw [hd1]
    exact ⟨_, m', h, ha.put hd2 _, hw'⟩

/-! ### In numbers -/

/-- The first n numbers from place o on. -/
def tk (xs : List Int) (o n : Nat) : List Int := (List.range n).map fun i => xs.getD (o + i) 0
/-- Numbers written from place i on. -/
def wr (xs : List Int) (i : Nat) (ys : List Int) : List Int := tk xs 0 i ++ ys ++ xs.drop (i + ys.length)
theorem tk_length (xs : List Int) (o n : Nat) : (tk xs o n).length = n := by simp [tk]
theorem tk_getD (xs : List Int) (o n i : Nat) : (tk xs o n).getD i 0 = if i < n then xs.getD (o + i) 0 else 0 := by
  unfold tk
  by_cases h : i < n
  · simp [h]
  · simp [h]
theorem tk_all {xs : List Int} {n : Nat} (h : xs.length = n) : tk xs 0 n = xs := by
  subst h
  apply List.ext_getElem?
  intro i
  by_cases hi : i < xs.length
  · simp [tk, hi]
  · rw [List.getElem?_eq_none (by rw [tk_length]; omega), List.getElem?_eq_none (by omega)]
theorem ints_tk (k : IntKind) (n : Nat) (xs : List Int) : intsCells k n xs = (tk xs 0 n).map (.int k) := by simp [intsCells, tk, Function.comp_def]
theorem wr_getD (xs : List Int) (i : Nat) (ys : List Int) (j : Nat) : (wr xs i ys).getD j 0 = if i ≤ j ∧ j < i + ys.length then ys.getD (j - i) 0 else xs.getD j 0 := by
  unfold wr
  rw [List.getD_eq_getElem?_getD, List.append_assoc]
  by_cases h1 : j < i
  · rw [List.getElem?_append_left (by rw [tk_length]; exact h1), if_neg (by omega), ← List.getD_eq_getElem?_getD, tk_getD, if_pos h1, Nat.zero_add]
  · rw [List.getElem?_append_right (by rw [tk_length]; omega), tk_length]
    by_cases h2 : j < i + ys.length
    · rw [List.getElem?_append_left (by omega), if_pos ⟨by omega, h2⟩, List.getD_eq_getElem?_getD]
    · rw [List.getElem?_append_right (by omega), if_neg (by omega), List.getElem?_drop, List.getD_eq_getElem?_getD]
      congr 2; omega
theorem intsGet (k : IntKind) (n : Nat) (xs : List Int) (i : Nat) : (intsCells k n xs)[i]? = if i < n then some (.int k (xs.getD i 0)) else none := by
  by_cases h : i < n
  · simp [intsCells, h]
  · simp [intsCells, h]
theorem splice_get {l p : List Value} {o : Nat} (h : o + p.length ≤ l.length) (j : Nat) : (splice l o p)[j]? = if o ≤ j ∧ j < o + p.length then p[j - o]? else l[j]? := by
  unfold splice
  by_cases h1 : j < o
  · rw [List.getElem?_append_left (by rw [List.length_take]; omega), if_neg (by omega), List.getElem?_take_of_lt h1]
  · rw [List.getElem?_append_right (by rw [List.length_take]; omega), List.length_take, Nat.min_eq_left (by omega)]
    by_cases h2 : j < o + p.length
    · rw [List.getElem?_append_left (by omega), if_pos ⟨by omega, h2⟩]
    · rw [List.getElem?_append_right (by omega), if_neg (by omega), List.getElem?_drop]
      congr 1; omega
theorem wr_cells {k : IntKind} {N i : Nat} {xs ys : List Int} (h : i + ys.length ≤ N) : cells [.ints k N (wr xs i ys)] = splice (cells [.ints k N xs]) i (ys.map (.int k)) := by
  simp only [cells, Seg.cells, List.append_nil]
  apply List.ext_getElem?
  intro j
  rw [splice_get (by rw [List.length_map]; simp [intsCells]; exact h), intsGet, intsGet, List.length_map, wr_getD]
  by_cases h1 : i ≤ j ∧ j < i + ys.length
  · rw [if_pos h1, if_pos (by omega), if_pos h1, List.getElem?_map, List.getD_eq_getElem?_getD, List.getElem?_eq_getElem (by omega)]
    simp
  · rw [if_neg h1, if_neg h1]
theorem grown_cells {k : IntKind} {n0 n N' : Nat} {N off : Nat} {xs ys : List Int} (hn : ys.length = n) (h : n0 + n ≤ N') (ho : off + n0 ≤ N) :
    cells [.ints k N' (tk xs off n0 ++ ys)] = ((cells [.ints k N xs]).drop off).take (n0 * 1) ++ ys.map (.int k) ++ (List.replicate (N' - (n0 + n)) (cells [.one (.int k 0)])).flatten := by
  simp only [cells, Seg.cells, List.append_nil, Nat.mul_one]
  apply List.ext_getElem?
  intro j
  rw [intsGet]
  have hl : (((intsCells k N xs).drop off).take n0).length = n0 := by simp [intsCells]; omega
  rw [List.append_assoc]
  by_cases h1 : j < n0
  · rw [List.getElem?_append_left (by omega), if_pos (by omega), List.getElem?_take_of_lt h1, List.getElem?_drop, intsGet, if_pos (by omega), List.getD_eq_getElem?_getD, List.getElem?_append_left (by rw [tk_length]; exact h1), ← List.getD_eq_getElem?_getD, tk_getD, if_pos h1]
  · rw [List.getElem?_append_right (by omega), hl, List.getD_eq_getElem?_getD, List.getElem?_append_right (by rw [tk_length]; omega), tk_length]
    by_cases h2 : j - n0 < n
    · rw [List.getElem?_append_left (by rw [List.length_map]; omega), if_pos (by omega), List.getElem?_map, List.getElem?_eq_getElem (by omega)]
      rfl
    · rw [List.getElem?_append_right (by rw [List.length_map]; omega), List.getElem?_eq_none (l := ys) (by omega), List.length_map]
      have : (List.replicate (N' - (n0 + n)) [Value.int k 0]).flatten = List.replicate (N' - (n0 + n)) (.int k 0) := by
        generalize N' - (n0 + n) = q
        induction q with
        | zero => rfl
        | succ q ih => rw [List.replicate_succ, List.flatten_cons, ih]; rfl
      rw [this, List.getElem?_replicate]
      by_cases h3 : j < N'
      · rw [if_pos h3, if_pos (by omega)]; rfl
      · rw [if_neg h3, if_neg (by omega)]

theorem EF.less {d : Option Nat} {op : IOp} (h : EF C m t d op (fun t' m' => ∃ m2, K t' m2 ∧ List.Sublist m2 m')) : EF C m t d op K := by
  intro o ho hd a ha w hw
  refine Oper.wp_mono ?_ (h o ho hd a ha w hw)
  rintro a' w' ⟨t', m', ⟨m2, hk, hs⟩, h1, h2⟩
  exact ⟨t', m2, hk, h1, h2.sublist hs⟩

/-- append of numbers; the old block is let go. -/
theorem ef_app_i {d : Nat} {T : TypeId} {bytes : Nat} {k : IntKind} {x y : Operand} {b n0 cp n : Nat} {v : Value} {xs ys : List Int} {m' : List Chunk}
    (hx : ev t x = some (.slice (some ⟨b, 0, none⟩) n0 cp)) (hr : Rem (ck b T [.ints k cp xs]) m m') (hy : ev t y = some v) (hs : SrcV C m 1 v n (ys.map (.int k))) (hn0 : n0 ≤ cp) (hsz : (n0 + n) * bytes ≤ 140737488355328)
    (h : ∀ b' cp' xs', C.W0.heap.size ≤ b' ∨ b' = b → n0 + n ≤ cp' → tk xs' 0 (n0 + n) = tk xs 0 n0 ++ ys → K ((d, .slice (some ⟨b', 0, none⟩) (n0 + n) cp') :: t) (ck b' T [.ints k cp' xs'] :: m')) :
    EF C m t (some d) (.app T 1 bytes [.one (.int k 0)] x y) K := by
  have hlen : ys.length = n := by have := hs.nl; simpa using this
  have hperm := hr.perm
  -- the chunk is first, by order alone
  have key : EF C (ck b T [.ints k cp xs] :: m') t (some d) (.app T 1 bytes [.one (.int k 0)] x y) K := by
    have hs' : SrcV C (ck b T [.ints k cp xs] :: m') 1 v n (ys.map (.int k)) := ⟨hs.len, fun w hw => hs.cells w (hw.perm hperm.symm), hs.nl, hs.one⟩
    refine EF.less ?_
    refine ef_app hx .here hy hs' (by simp [width, Seg.width]) hn0 hsz (fun hroom => ?_) (fun hgrow b' cp' hb' hcp => ?_)
    · refine ⟨[.ints k cp (wr xs n0 ys)], _, ?_, .here, _, h b cp _ (.inr rfl) hroom ?_, List.Sublist.refl _⟩
      · rw [wr_cells (by omega)]; simp
      · apply List.ext_getElem?
        intro i
        by_cases hi : i < n0 + n
        · rw [List.getElem?_eq_getElem (by rw [tk_length]; exact hi), List.getElem?_eq_getElem (by rw [List.length_append, tk_length]; omega)]
          have e1 := tk_getD (wr xs n0 ys) 0 (n0 + n) i
          rw [if_pos hi, Nat.zero_add, wr_getD, List.getD_eq_getElem?_getD, List.getElem?_eq_getElem (by rw [tk_length]; exact hi)] at e1
          simp only [Option.getD_some] at e1
          rw [e1]
          by_cases h2 : i < n0
          · rw [if_neg (by omega), List.getElem_append_left (by rw [tk_length]; exact h2)]
            have e2 := tk_getD xs 0 n0 i
            rw [if_pos h2, Nat.zero_add, List.getD_eq_getElem?_getD, List.getElem?_eq_getElem (by rw [tk_length]; exact h2)] at e2
            simp only [Option.getD_some] at e2
            rw [e2]
          · rw [if_pos ⟨by omega, by omega⟩, List.getElem_append_right (by rw [tk_length]; omega), List.getD_eq_getElem?_getD, List.getElem?_eq_getElem (by omega)]
            simp [tk_length]
        · rw [List.getElem?_eq_none (by rw [tk_length]; omega), List.getElem?_eq_none (by rw [List.length_append, tk_length]; omega)]
    · refine ⟨[.ints k cp' (tk xs 0 n0 ++ ys)], ?_, ?_⟩
      · rw [grown_cells (N := cp) hlen hcp (by omega)]
      · exact ⟨_, h b' cp' (tk xs 0 n0 ++ ys) (.inl hb') hcp (tk_all (by rw [List.length_append, tk_length]; omega)), (List.sublist_cons_self _ _).cons₂ _⟩
  intro o ho hd a ha w hw
  exact key o ho hd a ha w (hw.perm hperm)

theorem tk_cat {xs ys : List Int} {n0 n : Nat} (h : ys.length = n) : tk (tk xs 0 n0 ++ ys) 0 (n0 + n) = tk xs 0 n0 ++ ys := tk_all (by rw [List.length_append, tk_length]; omega)

/-- append of numbers onto nil. -/
theorem ef_app0_i {d : Nat} {T : TypeId} {bytes : Nat} {k : IntKind} {x y : Operand} {n : Nat} {v : Value} {ys : List Int}
    (hx : ev t x = some (.slice none 0 0)) (hy : ev t y = some v) (hs : SrcV C m 1 v n (ys.map (.int k))) (hsz : n * bytes ≤ 140737488355328)
    (h0 : n = 0 → K ((d, .slice none 0 0) :: t) m)
    (h : 0 < n → ∀ b' cp', C.W0.heap.size ≤ b' → n ≤ cp' → K ((d, .slice (some ⟨b', 0, none⟩) n cp') :: t) (ck b' T [.ints k cp' ys] :: m)) :
    EF C m t (some d) (.app T 1 bytes [.one (.int k 0)] x y) K := by
  have hlen : ys.length = n := by have := hs.nl; simpa using this
  refine ef_app0 hx hy hs hsz h0 fun hp b' cp' hb hcp => ⟨[.ints k cp' ys], ?_, h hp b' cp' hb hcp⟩
  have := grown_cells (k := k) (n0 := 0) (n := n) (N' := cp') (N := 0) (off := 0) (xs := []) (ys := ys) hlen (by omega) (by omega)
  simpa [tk, cells, Seg.cells, intsCells] using this

/-! ### In rows -/

theorem rows_len {w n : Nat} {g : Nat → List Value} : (rowsCells w n g).length = n * w := by
  have := cells_length [.rows w n g]
  simpa [cells, Seg.cells, width, Seg.width] using this
theorem rows_get {w n : Nat} {g : Nat → List Value} (hw : 0 < w) {i : Nat} : (rowsCells w n g)[i]? = if i < n * w then (fit w (g (i / w)))[i % w]? else none := by
  by_cases h : i < n * w
  · rw [if_pos h]
    have h1 : i / w < n := Nat.div_lt_of_lt_mul (by rw [Nat.mul_comm]; exact h)
    have := rowsCells_get2 (w := w) (n := n) (g := g) h1 (Nat.mod_lt i hw)
    rw [← this]
    congr 1
    have := Nat.div_add_mod i w
    rw [Nat.mul_comm] at this; omega
  · rw [if_neg h, List.getElem?_eq_none (by rw [rows_len]; omega)]
theorem rows_split {w n m : Nat} {g h : Nat → List Value} (e1 : ∀ i, i < n → h i = g i) : rowsCells w (n + m) h = rowsCells w n g ++ rowsCells w m (fun i => h (n + i)) := by
  unfold rowsCells
  rw [List.range_add, List.flatMap_append, List.flatMap_map]
  congr 1
  rw [← List.flatten_map_eq_flatMap, ← List.flatten_map_eq_flatMap]
  congr 1
  apply List.map_congr_left
  intro i hi
  rw [e1 i (by simpa using hi)]
 where List.flatten_map_eq_flatMap {α β : Type} (l : List α) (f : α → List β) : (l.map f).flatten = l.flatMap f := by rw [List.flatMap_def]
theorem rows_congr {w n : Nat} {g h : Nat → List Value} (e : ∀ i, i < n → h i = g i) : rowsCells w n h = rowsCells w n g := by
  have := rows_split (w := w) (n := n) (m := 0) e
  simpa [rowsCells] using this
theorem rows_take {w n N : Nat} {g : Nat → List Value} (h : n ≤ N) : (rowsCells w N g).take (n * w) = rowsCells w n g := by
  obtain ⟨q, rfl⟩ : ∃ q, N = n + q := ⟨N - n, by omega⟩
  rw [rows_split (g := g) (h := g) (fun _ _ => rfl), List.take_left' rows_len]
theorem rows_drop {w n N : Nat} {g : Nat → List Value} (h : n ≤ N) : (rowsCells w N g).drop (n * w) = rowsCells w (N - n) (fun i => g (n + i)) := by
  obtain ⟨q, rfl⟩ : ∃ q, N = n + q := ⟨N - n, by omega⟩
  rw [rows_split (g := g) (h := g) (fun _ _ => rfl), List.drop_left' rows_len]
  congr 1; omega
theorem rows_const {w n : Nat} {z : List Value} (h : z.length = w) : rowsCells w n (fun _ => z) = (List.replicate n z).flatten := by
  unfold rowsCells
  induction n with
  | zero => rfl
  | succ n ih => rw [List.range_succ_eq_map, List.flatMap_cons, List.flatMap_map, fit_same h, ih, List.replicate_succ, List.flatten_cons]

/-- Rows laid behind the first n0. -/
def rput (g : Nat → List Value) (n0 n : Nat) (h e : Nat → List Value) : Nat → List Value := fun j => if j < n0 then g j else if j < n0 + n then h (j - n0) else e j

/-- append of rows; the old block is let go. -/
theorem ef_app_r {d : Nat} {T : TypeId} {w bytes : Nat} {z : List Seg} {x y : Operand} {b n0 cp n : Nat} {v : Value} {g hh : Nat → List Value} {m' : List Chunk}
    (hx : ev t x = some (.slice (some ⟨b, 0, none⟩) n0 cp)) (hr : Rem (ck b T [.rows w cp g]) m m') (hy : ev t y = some v) (hs : SrcV C m w v n (rowsCells w n hh)) (hz : width z = w) (hn0 : n0 ≤ cp) (hsz : (n0 + n) * bytes ≤ 140737488355328)
    (h : ∀ b' cp' g', C.W0.heap.size ≤ b' ∨ b' = b → n0 + n ≤ cp' → (∀ i, i < n0 → g' i = g i) → (∀ i, i < n → g' (n0 + i) = hh i) → K ((d, .slice (some ⟨b', 0, none⟩) (n0 + n) cp') :: t) (ck b' T [.rows w cp' g'] :: m')) :
    EF C m t (some d) (.app T w bytes z x y) K := by
  have hperm := hr.perm
  have key : EF C (ck b T [.rows w cp g] :: m') t (some d) (.app T w bytes z x y) K := by
    have hs' : SrcV C (ck b T [.rows w cp g] :: m') w v n (rowsCells w n hh) := ⟨hs.len, fun w hw => hs.cells w (hw.perm hperm.symm), hs.nl, hs.one⟩
    refine EF.less ?_
    refine ef_app hx .here hy hs' (by simp [width, Seg.width]) hn0 hsz (fun hroom => ?_) (fun hgrow b' cp' hb' hcp => ?_)
    · refine ⟨[.rows w cp (rput g n0 n hh g)], _, ?_, .here, _, h b cp (rput g n0 n hh g) (.inr rfl) hroom (fun i hi => if_pos hi) (fun i hi => ?_), List.Sublist.refl _⟩
      · simp only [cells, Seg.cells, List.append_nil, Nat.zero_add, splice]
        obtain ⟨q, rfl⟩ : ∃ q, cp = n0 + (n + q) := ⟨cp - n0 - n, by omega⟩
        rw [rows_split (g := g) (h := rput g n0 n hh g) (fun i hi => if_pos hi), rows_take (by omega), rows_len, ← Nat.add_mul, rows_drop (by omega)]
        congr 1
        rw [rows_split (n := n) (m := q) (g := hh) (h := fun i => rput g n0 n hh g (n0 + i)) (fun i hi => by simp only [rput]; rw [if_neg (by omega), if_pos (by omega)]; congr 1; omega)]
        congr 1
        rw [show n0 + (n + q) - (n0 + n) = q by omega]
        refine rows_congr fun i hi => ?_
        simp only [rput]
        rw [if_neg (by omega), if_neg (by omega)]
        congr 1; omega
      · simp only [rput]; rw [if_neg (by omega), if_pos (by omega)]; congr 1; omega
    · refine ⟨[.rows w cp' (rput g n0 n hh fun _ => cells z)], ?_, _, h b' cp' (rput g n0 n hh fun _ => cells z) (.inl hb') hcp (fun i hi => if_pos hi) (fun i hi => ?_), (List.sublist_cons_self _ _).cons₂ _⟩
      · simp only [cells, Seg.cells, List.append_nil, List.drop_zero]
        obtain ⟨q, rfl⟩ : ∃ q, cp' = n0 + (n + q) := ⟨cp' - n0 - n, by omega⟩
        rw [rows_split (g := g) (h := rput g n0 n hh fun _ => cells z) (fun i hi => if_pos hi), rows_take hn0, List.append_assoc]
        congr 1
        rw [rows_split (n := n) (m := q) (g := hh) (h := fun i => rput g n0 n hh (fun _ => cells z) (n0 + i)) (fun i hi => by simp only [rput]; rw [if_neg (by omega), if_pos (by omega)]; congr 1; omega)]
        congr 1
        rw [show n0 + (n + q) - (n0 + n) = q by omega, ← rows_const (w := w) (z := cells z) (by rw [cells_length]; exact hz)]
        refine rows_congr fun i hi => ?_
        simp only [rput]
        rw [if_neg (by omega), if_neg (by omega)]
      · simp only [rput]; rw [if_neg (by omega), if_pos (by omega)]; congr 1; omega
  intro o ho hd a ha w hw
  exact key o ho hd a ha w (hw.perm hperm)

/-- append of rows onto nil. -/
theorem ef_app0_r {d : Nat} {T : TypeId} {w bytes : Nat} {z : List Seg} {x y : Operand} {n : Nat} {v : Value} {hh : Nat → List Value}
    (hx : ev t x = some (.slice none 0 0)) (hy : ev t y = some v) (hs : SrcV C m w v n (rowsCells w n hh)) (hz : width z = w) (hsz : n * bytes ≤ 140737488355328)
    (h0 : n = 0 → K ((d, .slice none 0 0) :: t) m)
    (h : 0 < n → ∀ b' cp' g', C.W0.heap.size ≤ b' → n ≤ cp' → (∀ i, i < n → g' i = hh i) → K ((d, .slice (some ⟨b', 0, none⟩) n cp') :: t) (ck b' T [.rows w cp' g'] :: m)) :
    EF C m t (some d) (.app T w bytes z x y) K := by
  refine ef_app0 hx hy hs hsz h0 fun hp b' cp' hb hcp => ⟨[.rows w cp' (rput hh n 0 hh fun _ => cells z)], ?_, h hp b' cp' (rput hh n 0 hh fun _ => cells z) hb hcp fun i hi => if_pos hi⟩
  simp only [cells, Seg.cells, List.append_nil]
  obtain ⟨q, rfl⟩ : ∃ q, cp' = n + q := ⟨cp' - n, by omega⟩
  rw [rows_split (g := hh) (h := rput hh n 0 hh fun _ => cells z) (fun i hi => if_pos hi)]
  congr 1
  rw [show n + q - n = q by omega, ← rows_const (w := w) (z := cells z) (by rw [cells_length]; exact hz)]
  refine rows_congr fun i hi => ?_
  simp only [rput]
  rw [if_neg (by omega), if_neg (by omega)]
end
end Go.Sx
/- The engine, part 14: functions that hand out memory, or write what they are handed. -/
namespace Go.Sx
open Go Go.RowKit
set_option linter.all false

/-- A result, where it is kept. -/
def putT : Option Nat → Value → TS → TS
  | some d, v, t => (d, v) :: t
  | none, _, t => t

/-- The function returns a value; behind it the blocks of S are what m' says, with new ones; all else is as it was. -/
def retM (W0 : World) (S : List Nat) (R : Value → List Chunk → Prop) : Ending → World → Prop := fun e w' => ∃ v m, e = .returned v ∧ R v m ∧ Sat W0 S m w'

theorem calls_mem {P : Program} {f : FuncId} {d : FnD} {args : List Value} {W0 : World} {S : List Nat} {m0 : List Chunk} {R : Value → List Chunk → Prop}
    (hm : P.follows .mixedOrders = true) (hok : okF P f d = true) (hlen : Nat.ble args.length d.n = true) (h0 : Sat W0 S m0 W0)
    (h : WC ⟨P, d.n, W0, S⟩ d.c (argsT 0 args) m0 (fun t m => ∃ l ids, ResVs t m d.rs l ∧ decide (List.Nodup ids) = true ∧ R (tupV l) (pickM m ids)) ⟨[], fun t m => ∃ l ids, ResVs t m d.rs l ∧ decide (List.Nodup ids) = true ∧ R (tupV l) (pickM m ids)⟩) :
    Calls P f args.toArray W0 (retM W0 S R) := by
  refine calls_of hm hok hlen h0 ?_
  have hsub : ∀ t m, (∃ l ids, ResVs t m d.rs l ∧ decide (List.Nodup ids) = true ∧ R (tupV l) (pickM m ids)) → retK W0 S d.rs (retM W0 S R) t m := by
    rintro t m ⟨l, ids, h1, h2, h3⟩
    exact ⟨l, h1, fun w hw => ⟨_, _, rfl, h3, hw.pick (of_decide_eq_true h2)⟩⟩
  intro hm c0 hok Q a w ha hw hc
  exact h hm c0 hok Q a w ha hw ⟨fun t m hk => hc.n t m (hsub t m hk), fun id k hk => by simp [lookK] at hk, fun t m hk => hc.r t m (hsub t m hk)⟩

theorem retM.below {W0 : World} {R : Value → List Chunk → Prop} {e : Ending} {w : World} (h : retM W0 [] R e w) : ∃ v m, e = .returned v ∧ R v m ∧ Below W0.heap.size W0 w := by
  obtain ⟨v, m, h1, h2, h3⟩ := h
  exact ⟨v, m, h1, h2, h3.fr.below⟩

theorem sat_own {W0 : World} {S : List Nat} {m : List Chunk} {w : World} (h : Sat W0 S m w) {mS mr : List Chunk} (hp : List.Perm (mS ++ mr) m) : Sat w (mS.map (·.b)) mS w := by
  have h' := h.perm hp
  refine ⟨⟨rfl, rfl, rfl, Nat.le_refl _, fun _ _ _ => rfl⟩, fun c hc => h'.own c (List.mem_append_left _ hc), fun c hc => .inr (List.mem_map.2 ⟨c, hc, rfl⟩), ?_⟩
  have := h'.dist
  rw [List.map_append, List.nodup_append] at this
  exact this.1

theorem sat_behind {W0 : World} {S : List Nat} {m : List Chunk} {w w' : World} (h : Sat W0 S m w) {mS mr m' : List Chunk} (hp : List.Perm (mS ++ mr) m) (h' : Sat w (mS.map (·.b)) m' w') : Sat W0 S (m' ++ mr) w' := by
  have hh := h.perm hp
  have hd := hh.dist
  rw [List.map_append, List.nodup_append] at hd
  have hbase : ∀ c ∈ mS, W0.heap.size ≤ c.b ∨ c.b ∈ S := fun c hc => hh.base c (List.mem_append_left _ hc)
  have hr : ∀ c ∈ mr, c.b < w.heap.size ∧ c.b ∉ mS.map (·.b) := fun c hc => ⟨hh.lt (List.mem_append_right _ hc), fun hm => hd.2.2 _ hm _ (List.mem_map.2 ⟨c, hc, rfl⟩) rfl⟩
  refine ⟨⟨h'.fr.os.trans h.fr.os, h'.fr.tape.trans h.fr.tape, h'.fr.output.trans h.fr.output, Nat.le_trans h.fr.size h'.fr.size, fun k hk hS => ?_⟩, ?_, ?_, ?_⟩
  · rw [h'.fr.block k (Nat.lt_of_lt_of_le hk h.fr.size) ?_]
    · exact h.fr.block k hk hS
    · intro hm
      obtain ⟨c, hc, rfl⟩ := List.mem_map.1 hm
      rcases hbase c hc with h1 | h1
      · omega
      · exact hS h1
  · intro c hc
    rcases List.mem_append.1 hc with hc | hc
    · exact h'.own c hc
    · rw [h'.fr.block c.b (hr c hc).1 (hr c hc).2]
      exact hh.own c (List.mem_append_right _ hc)
  · intro c hc
    rcases List.mem_append.1 hc with hc | hc
    · rcases h'.base c hc with h1 | h1
      · exact .inl (Nat.le_trans h.fr.size h1)
      · obtain ⟨c', hc', e⟩ := List.mem_map.1 h1
        rw [← e]; exact hbase c' hc'
    · exact hh.base c (List.mem_append_right _ hc)
  · rw [List.map_append, List.nodup_append]
    refine ⟨h'.dist, hd.2.1, ?_⟩
    intro a ha b hb e
    subst e
    obtain ⟨c, hc, rfl⟩ := List.mem_map.1 ha
    obtain ⟨c2, hc2, e2⟩ := List.mem_map.1 hb
    have := hr c2 hc2
    rw [e2] at this
    rcases h'.base c hc with h1 | h1
    · omega
    · exact this.2 h1

section
variable {C : Cfg} {m : List Chunk} {t : TS} {K : KN}

/-- Memory of one's own, handed to a function that reads it. -/
theorem mem_own {W0 : World} {S : List Nat} {w : World} {b : Nat} {T : TypeId} {s : List Seg} (hw : Sat W0 S m w) (hb : Has b (.cells (cells s).toArray T (0, 0)) m) : Mem w b 0 s := by
  have hown := hw.own _ hb.mem
  refine ⟨fun i hi => ?_, (Array.getElem?_eq_some_iff.1 hown).1⟩
  rw [Nat.zero_add, cells_load hown]
theorem mem_part {w : World} {b o n off : Nat} {s p : List Seg} (h : Mem w b o s) (hp : sub s off n = some p) : Mem w b (o + off) p := by
  obtain ⟨e1, e2, e3⟩ := sub_cells hp
  refine ⟨fun i hi => ?_, h.lt⟩
  rw [e2] at hi
  rw [Nat.add_assoc, h.cell _ (by rcases e3 with e3 | e3 <;> omega), e1, List.getElem?_take_of_lt hi, List.getElem?_drop]
/-- Memory of the begin that is there still. -/
theorem mem_still {w : World} {b o : Nat} {s : List Seg} (h : Mem C.W0 b o s) (hS : b ∉ C.S) (hw : Sat C.W0 C.S m w) : Mem w b o s :=
  ⟨fun i hi => h.now hS hw hi, Nat.lt_of_lt_of_le h.lt hw.fr.size⟩

/-- A call of a function that is handed the blocks 'mS' to write, and may hand out new ones. -/
theorem ef_callM {d : Option Nat} {f : FuncId} {args : List Operand} {vs : List Value} {mS mr : List Chunk} {R : Value → List Chunk → Prop} (ha : evL t args = some vs) (hp : List.Perm (mS ++ mr) m)
    (hc : ∀ w, Sat C.W0 C.S m w → Calls C.P f vs.toArray w (retM w (mS.map (·.b)) R))
    (h : ∀ v m', R v m' → K (putT d v t) (m' ++ mr)) : EF C m t d (.call f args) K := by
  intro o ho hd a hat w hw
  unfold Oper.wp
  rw [run_call ho, hat.evL ha]
  simp only [Oper.upon]
  refine (hc w hw).mono ?_
  rintro e w' ⟨v, m', rfl, hR, hs⟩
  have hsat := sat_behind hw hp hs
  cases d with
  | none =>
    have hd0 : o.dst = none := by revert hd; cases o.dst <;> simp [okD]
    rw [hd0]
    exact ⟨_, _, h v m' hR, hat, hsat⟩
  | some d =>
    obtain ⟨hd1, hd2⟩ := okD_some hd
    rw [hd1]
    exact ⟨_, _, h v m' hR, hat.put hd2 v, hsat⟩
/-- A call of a function that hands out new memory. -/
theorem ef_callF {d : Option Nat} {f : FuncId} {args : List Operand} {vs : List Value} {R : Value → List Chunk → Prop} (ha : evL t args = some vs)
    (hc : ∀ w, Sat C.W0 C.S m w → Calls C.P f vs.toArray w (retM w [] R))
    (h : ∀ v m', R v m' → K (putT d v t) (m' ++ m)) : EF C m t d (.call f args) K :=
  ef_callM (mS := []) ha (List.Perm.refl _) hc h
/-- A call without a result that is kept, of a function that only answers. -/
theorem ef_call0 {f : FuncId} {args : List Operand} {vs : List Value} {v : Value} (ha : evL t args = some vs) (hc : ∀ w, Sat C.W0 C.S m w → Calls C.P f vs.toArray w (ret1 w v)) (h : K t m) : EF C m t none (.call f args) K := by
  intro o ho hd a hat w hw
  unfold Oper.wp
  rw [run_call ho, hat.evL ha]
  simp only [Oper.upon]
  refine (hc w hw).mono ?_
  rintro e w' ⟨rfl, hb⟩
  have hd0 : o.dst = none := by revert hd; cases o.dst <;> simp [okD]
  rw [hd0]
  exact ⟨_, _, h, hat, hw.of_below hb⟩
end
end Go.Sx
/- The engine, part 15: short rules for memory. -/
namespace Go.Sx
open Go Go.RowKit
set_option linter.all false

section
variable {C : Cfg} {m : List Chunk} {t : TS} {K : KN}

theorem one_ints {k : IntKind} {xs : List Int} : ∀ u ∈ xs.map (Value.int k), one1 u = true := fun u hu => by
  obtain ⟨x, _, rfl⟩ := List.mem_map.1 hu; rfl
theorem ints_part {k : IntKind} {N off n : Nat} {xs : List Int} (h : off + n ≤ N) : ((intsCells k N xs).drop off).take n = (tk xs off n).map (Value.int k) := by
  apply List.ext_getElem?
  intro j
  by_cases hj : j < n
  · rw [List.getElem?_take_of_lt hj, List.getElem?_drop, intsGet, if_pos (by omega), List.getElem?_map, List.getElem?_eq_getElem (by rw [tk_length]; exact hj)]
    simp [tk]
  · rw [List.getElem?_eq_none (by rw [List.length_take]; omega), List.getElem?_eq_none (by rw [List.length_map, tk_length]; omega)]
theorem src_of {size : Nat} {b off n c : Nat} {cs : List Value} (hl : cs.length = n * size) (h1 : ∀ u ∈ cs, one1 u = true)
    (h : ∀ w, Sat C.W0 C.S m w → ∀ i, i < n * size → w.cell? ⟨b, off + i, none⟩ = cs[i]?) : SrcV C m size (.slice (some ⟨b, off, none⟩) n c) n cs :=
  ⟨fun _ => rfl, fun w hw k hk => run_first hl (h w hw) hk, hl, h1⟩
theorem src_own_i {b off n c N : Nat} {T : TypeId} {k : IntKind} {xs : List Int} (hb : Has b (.cells (cells [.ints k N xs]).toArray T (0, 0)) m) (h : off + n ≤ N) : SrcV C m 1 (.slice (some ⟨b, off, none⟩) n c) n ((tk xs off n).map (.int k)) := by
  refine src_of (by rw [List.length_map, tk_length, Nat.mul_one]) one_ints fun w hw i hi => ?_
  rw [Nat.mul_one] at hi
  rw [cells_load (hw.own _ hb.mem), ← ints_part h, List.getElem?_take_of_lt hi, List.getElem?_drop]
  simp [cells, Seg.cells]
theorem src_mem_i {b o0 off n c N : Nat} {k : IntKind} {xs : List Int} (hm : Mem C.W0 b o0 [.ints k N xs]) (hS : b ∉ C.S) (h : off + n ≤ N) : SrcV C m 1 (.slice (some ⟨b, o0 + off, none⟩) n c) n ((tk xs off n).map (.int k)) := by
  refine src_of (by rw [List.length_map, tk_length, Nat.mul_one]) one_ints fun w hw i hi => ?_
  rw [Nat.mul_one] at hi
  rw [Nat.add_assoc, hm.now hS hw (i := off + i) (by simp [width, Seg.width]; omega), ← ints_part h, List.getElem?_take_of_lt hi, List.getElem?_drop]
  simp [cells, Seg.cells]
theorem rows_mid {w N o n : Nat} {g : Nat → List Value} (h : o + n ≤ N) : ((rowsCells w N g).drop (o * w)).take (n * w) = rowsCells w n (fun i => g (o + i)) := by
  rw [rows_drop (by omega), rows_take (by omega)]
theorem one_rows {w n : Nat} {g : Nat → List Value} (h : ∀ i, i < n → (g i).length = w ∧ ∀ u ∈ g i, one1 u = true) : ∀ u ∈ rowsCells w n g, one1 u = true := by
  intro u hu
  unfold rowsCells at hu
  obtain ⟨i, hi, hu⟩ := List.mem_flatMap.1 hu
  obtain ⟨h1, h2⟩ := h i (by simpa using hi)
  rw [fit_same h1] at hu
  exact h2 u hu
theorem src_own_r {b o n c N w : Nat} {T : TypeId} {g : Nat → List Value} (hb : Has b (.cells (cells [.rows w N g]).toArray T (0, 0)) m) (h : o + n ≤ N) (h1 : ∀ i, i < n → (g (o + i)).length = w ∧ ∀ u ∈ g (o + i), one1 u = true) :
    SrcV C m w (.slice (some ⟨b, o * w, none⟩) n c) n (rowsCells w n fun i => g (o + i)) := by
  refine src_of rows_len (one_rows h1) fun wd hw i hi => ?_
  rw [cells_load (hw.own _ hb.mem), ← rows_mid h, List.getElem?_take_of_lt hi, List.getElem?_drop]
  simp [cells, Seg.cells]
theorem src_mem_r {b o0 o n c N w : Nat} {g : Nat → List Value} (hm : Mem C.W0 b o0 [.rows w N g]) (hS : b ∉ C.S) (h : o + n ≤ N) (h1 : ∀ i, i < n → (g (o + i)).length = w ∧ ∀ u ∈ g (o + i), one1 u = true) :
    SrcV C m w (.slice (some ⟨b, o0 + o * w, none⟩) n c) n (rowsCells w n fun i => g (o + i)) := by
  refine src_of rows_len (one_rows h1) fun wd hw i hi => ?_
  have hle : o * w + n * w ≤ N * w := by rw [← Nat.add_mul]; exact Nat.mul_le_mul_right _ h
  rw [Nat.add_assoc, hm.now hS hw (i := o * w + i) (by simp [width, Seg.width]; omega), ← rows_mid h, List.getElem?_take_of_lt hi, List.getElem?_drop]
  simp [cells, Seg.cells]

theorem ef_mks_i {d : Nat} {T : TypeId} {bytes : Nat} {k : IntKind} {l c : Operand} {kl kc : IntKind} {L N : Int}
    (hl : ev t l = some (.int kl L)) (hc : ev t c = some (.int kc N)) (h0 : 0 ≤ L) (hln : L ≤ N) (hb : (bytes : Int) * N ≤ 281474976710656) (h63 : N ≤ 9223372036854775807)
    (h : ∀ b, C.W0.heap.size ≤ b → K ((d, .slice (some ⟨b, 0, none⟩) L.toNat N.toNat) :: t) (ck b T [.ints k N.toNat []] :: m)) :
    EF C m t (some d) (.mks T bytes [.one (.int k 0)] l c) K :=
  ef_mks hl hc h0 hln hb h63 fun b hb => ⟨_, by
    have := grown_cells (k := k) (n0 := 0) (n := 0) (N' := N.toNat) (N := 0) (off := 0) (xs := []) (ys := []) rfl (by omega) (by omega)
    simpa [tk, cells, Seg.cells, intsCells] using this, h b hb⟩
theorem ef_mks_r {d : Nat} {T : TypeId} {bytes w : Nat} {z : List Seg} {l c : Operand} {kl kc : IntKind} {L N : Int} (hw : width z = w)
    (hl : ev t l = some (.int kl L)) (hc : ev t c = some (.int kc N)) (h0 : 0 ≤ L) (hln : L ≤ N) (hb : (bytes : Int) * N ≤ 281474976710656) (h63 : N ≤ 9223372036854775807)
    (h : ∀ b, C.W0.heap.size ≤ b → K ((d, .slice (some ⟨b, 0, none⟩) L.toNat N.toNat) :: t) (ck b T [.rows w N.toNat (fun _ => cells z)] :: m)) :
    EF C m t (some d) (.mks T bytes z l c) K :=
  ef_mks hl hc h0 hln hb h63 fun b hb => ⟨_, by
    simp only [cells, Seg.cells, List.append_nil]
    exact rows_const (by rw [cells_length]; exact hw), h b hb⟩

/-- copy of numbers into a run of numbers of one's own block. -/
theorem ef_cpy_i {d : Option Nat} {x y : Operand} {b off dl dc n N : Nat} {T : TypeId} {k : IntKind} {v : Value} {xs ys : List Int} {m' : List Chunk}
    (hx : ev t x = some (.slice (some ⟨b, off, none⟩) dl dc)) (hy : ev t y = some v) (hs : SrcV C m 1 v n (ys.map (.int k))) (hfit : off + dl ≤ N)
    (hu : Upd b (.cells (cells [.ints k N xs]).toArray T (0, 0)) (.cells (cells [.ints k N (wr xs off (ys.take dl))]).toArray T (0, 0)) m m')
    (h : K (putT d (.int .i64 (Nat.min n dl : Nat)) t) m') : EF C m t d (.cpy 1 x y) K := by
  have hlen : ys.length = n := by have := hs.nl; simpa using this
  refine ef_cpy hx hy hs (by simp [width, Seg.width]; exact hfit) ?_ hu (by cases d <;> exact h)
  rw [wr_cells (by rw [List.length_take]; omega), Nat.mul_one, List.map_take]
  congr 1
  apply List.ext_getElem?
  intro j
  rw [List.getElem?_take, List.getElem?_take]
  have : Nat.min n dl = min n dl := rfl
  rw [this]
  by_cases h1 : j < dl
  · by_cases h2 : j < n
    · rw [if_pos h1, if_pos (by omega)]
    · rw [if_pos h1, if_neg (by omega), List.getElem?_eq_none (by rw [List.length_map]; omega)]
  · rw [if_neg h1, if_neg (by omega)]

/-- Function f has no body; in its place stands e. -/
def ExtF (P : Program) (f : FuncId) (e : Array Value → Sem Value) : Prop :=
  ∃ fn, P.funcs[f]? = some fn ∧ (fn.name == "runtime.NumGoroutine") = false ∧ fn.body.isNone = true ∧ Extern.findNext fn = none ∧ Extern.find fn = some e
theorem q_xcall {f : FuncId} {args : List Operand} {vs : List Value} {v : Value} {e : Array Value → Sem Value} (ha : evL t args = some vs) (he : ExtF C.P f e) (hr : ∀ w, (e vs.toArray).run C.P w = .ok v w) : Q1 C m t (.xcall f args) v := by
  intro o ho a hat w hw
  obtain ⟨fn, h1, h2, h3, h4, h5⟩ := he
  refine quiet_val ?_
  simp only [okOp] at ho
  split at ho
  · rename_i c heq
    simp only [Bool.and_eq_true] at ho
    obtain ⟨ho1, ho2⟩ := ho
    have hc : c.callee = .value (.func f) := by
      revert ho1
      cases c.callee <;> simp
      rename_i x
      cases x <;> simp
    have hargs : c.args.map a.eval = vs.toArray := by
      have e1 := oeqL_sound ho2
      have e2 := hat.evL ha
      apply Array.ext'
      rw [Array.toList_map, e1, e2]
    have h6 := run_callFunc_extern (P := C.P) h1 h2 h3 h4 h5 vs.toArray w
    rw [hr w] at h6
    have hev : a.eval (.func f) = .func (.func f) #[] #[] := rfl
    simp only [execOp, heq, resolve, hc, hev, Deferred.ofValue, Sem.run_bind, Sem.run_pure, Result.andThen_ok, invoke, Array.append_empty, Array.empty_append, hargs]
    rw [h6]; rfl
  · cases ho
def sub64Entry : Array Value → Sem Value := fun args => do
  let (x, y, b) ← Extern.MathBitsCarry.three "Sub64" args
  pure (Extern.MathBitsCarry.pair ((x + Extern.MathBitsCarry.m64 - y - b) % Extern.MathBitsCarry.m64) (if x < y + b then 1 else 0))
theorem run_sub64 {P : Program} (x y c : Int) (hx : 0 ≤ x) (hy : 0 ≤ y) (hy2 : y < 18446744073709551616) (hc0 : 0 ≤ c) (hc : c ≤ 1) (w : World) :
    (sub64Entry #[.int .u64 x, .int .u64 y, .int .u64 c]).run P w = .ok (.tuple #[.int .u64 ((x - y - c) % 18446744073709551616), .int .u64 (if x < y + c then 1 else 0)]) w := by
  have key : ∀ k : Nat, k ≤ 1 → (sub64Entry #[.int .u64 x, .int .u64 y, .int .u64 (k : Int)]).run P w =
      .ok (Extern.MathBitsCarry.pair ((x.toNat + Extern.MathBitsCarry.m64 - y.toNat - k) % Extern.MathBitsCarry.m64) (if x.toNat < y.toNat + k then 1 else 0)) w := by
    intro k hk
    have : k = 0 ∨ k = 1 := by omega
    rcases this with rfl | rfl <;> rfl
  obtain ⟨k, rfl⟩ := Int.eq_ofNat_of_zero_le hc0
  rw [key k (by omega)]
  obtain ⟨X, rfl⟩ := Int.eq_ofNat_of_zero_le hx
  obtain ⟨Y, rfl⟩ := Int.eq_ofNat_of_zero_le hy
  simp only [Extern.MathBitsCarry.pair, Extern.MathBitsCarry.m64, Int.toNat_natCast]
  have e1 : Int.ofNat ((X + 2 ^ 64 - Y - k) % 2 ^ 64) = ((X : Int) - Y - k) % 18446744073709551616 := by
    simp only [Int.ofNat_eq_natCast]; omega
  have e2 : Int.ofNat (if X < Y + k then 1 else 0) = if (X : Int) < Y + k then 1 else 0 := by
    by_cases h : X < Y + k
    · rw [if_pos h, if_pos (by omega)]; rfl
    · rw [if_neg h, if_neg (by omega)]; rfl
  rw [e1, e2]

/-- Equality of two runs of numbers. -/
def ieq (n : Nat) (a b : List Int) : Bool := decide (tk a 0 n = tk b 0 n)
theorem ieq_cells {k : IntKind} {n : Nat} {a b : List Int} : ieq n a b = true ↔ cells [.ints k n a] = cells [.ints k n b] := by
  simp only [ieq, decide_eq_true_eq, cells, Seg.cells, List.append_nil, ints_tk]
  constructor
  · intro h; rw [h]
  · intro h
    refine List.map_inj_right (f := Value.int k) (fun x y e => ?_) |>.1 h
    cases e; rfl

/-- A new block, told in other runs. -/
theorem ef_al2 {d : Nat} {T : TypeId} {z z' : List Seg} (hz : cells z = cells z') (h : ∀ b, C.W0.heap.size ≤ b → K ((d, .pointer (some ⟨b, 0, none⟩)) :: t) (ck b T z' :: m)) : EF C m t (some d) (.al T z) K :=
  ef_al fun b hb => by
    have := h b hb
    unfold ck at this ⊢
    rw [hz]; exact this

/-- A number of a run, at whatever place. -/
theorem q_ldx {x : Operand} {b p base i len : Nat} {T : TypeId} {fz : Nat × Nat} {s : List Seg} {k : IntKind} {xs : List Int} (hx : ev t x = some (.pointer (some ⟨b, p, none⟩))) (hb : Has b (.cells (cells s).toArray T fz) m)
    (hs : segAt s base = some (.ints k len xs)) (hp : p = base + i) (hi : i < len) : Q1 C m t (.ld 1 false x) (.int k (xs.getD i 0)) :=
  q_ldi (base := base) (i := i) (by rw [hx, hp, Nat.mul_one]) hb hs hi
theorem ef_stx {x y : Operand} {b p base i len : Nat} {T : TypeId} {s q : List Seg} {k : IntKind} {xs : List Int} {z : Int} {m' : List Chunk} (hx : ev t x = some (.pointer (some ⟨b, p, none⟩))) (hy : ev t y = some (.int k z))
    (hs : segAt s base = some (.ints k len xs)) (hp : p = base + i) (hi : i < len) (hq : segSet s base (.ints k len (setD xs i z)) = some q)
    (hup : Upd b (.cells (cells s).toArray T (0, 0)) (.cells (cells q).toArray T (0, 0)) m m') (h : K t m') : EF C m t none (.st 1 x y) K :=
  ef_sti (base := base) (i := i) (by rw [hx, hp, Nat.mul_one]) hy hs hi hq hup h
end
end Go.Sx
/- The engine, part 16: mirrors: functions over plain data; the rules that tie them to the code. -/
namespace Go.Sx
open Go Go.RowKit
set_option linter.all false

/-! ## The words of a mirror -/
section
variable {α β : Type} {r : β} {G : Prop}
def bnd (x : α) (f : α → Option β) : Option β := f x
def chk (c : Bool) (o : Option β) : Option β := bif c then o else none
def opt (o : Option α) (f : α → Option β) : Option β := o.bind f
def jn {K : Type} (k : K) (g : K → Option β) : Option β := g k
def br (c : Bool) (a b : Option β) : Option β := bif c then a else b
/-- Rounds enough for whatever loop ends. -/
@[irreducible] def big : Nat := 18446744073709551616
theorem big_eq : big = 18446744073709551616 := by unfold big; rfl

theorem bnd_i {x : α} {f : α → Option β} (h : ∀ z, z = x → f z = some r → G) : bnd x f = some r → G := fun e => h x rfl e
theorem chk_i {c : Bool} {o : Option β} (h : c = true → o = some r → G) : chk c o = some r → G := by
  intro e; cases c
  · simp [chk] at e
  · exact h rfl e
theorem opt_i {o : Option α} {f : α → Option β} (h : ∀ y, o = some y → f y = some r → G) : opt o f = some r → G := by
  intro e; cases o with
  | none => simp [opt] at e
  | some y => exact h y rfl e
theorem jn_i {K : Type} {k : K} {g : K → Option β} (h : ∀ k', k' = k → g k' = some r → G) : jn k g = some r → G := fun e => h k rfl e
theorem br_t {c : Bool} {a b : Option β} (h : br c a b = some r) (hc : c = true) : a = some r := by subst hc; exact h
theorem br_f {c : Bool} {a b : Option β} (h : br c a b = some r) (hc : c = false) : b = some r := by subst hc; exact h
theorem ret_i {a : β} (h : a = r → G) : some a = some r → G := fun e => h (Option.some.inj e)
theorem none_i : (none : Option β) = some r → G := fun e => by cases e
end
def inB (z : Int) (n : Nat) : Bool := decide (0 ≤ z) && decide (z < n)
theorem inB_z {z : Int} {n : Nat} (h : inB z n = true) : 0 ≤ z ∧ z < n := by simpa [inB] using h
theorem inB_n {z : Int} {n : Nat} (h : inB z n = true) : z.toNat < n := by have := inB_z h; omega
def imp (a b : Bool) : Bool := !a || b
theorem imp_t {a b : Bool} (h : imp a b = true) (ha : a = true) : b = true := by subst ha; simpa [imp] using h
theorem imp_f {a b : Bool} (h : imp (!a) b = true) (ha : a = false) : b = true := by subst ha; simpa [imp] using h
theorem and_l {a b : Bool} (h : (a && b) = true) : a = true := by simp at h; exact h.1
theorem and_r {a b : Bool} (h : (a && b) = true) : b = true := by simp at h; exact h.2
/-- Bounds of a slicing. -/
def cutB (lo hi : Int) (n : Nat) : Bool := decide (0 ≤ lo) && decide (lo ≤ hi) && decide (hi ≤ n)
theorem cutB_z {lo hi : Int} {n : Nat} (h : cutB lo hi n = true) : 0 ≤ lo ∧ lo ≤ hi ∧ hi ≤ n := by simp [cutB] at h; omega
abbrev w64 (x : Int) : Int := IntKind.i64.wrap x
abbrev wu64 (x : Int) : Int := IntKind.u64.wrap x
abbrev shrV (k : IntKind) (p q : Int) : Int := p.fdiv (2 ^ min q.toNat k.bits)
abbrev shlV (k : IntKind) (p q : Int) : Int := k.wrap (p * 2 ^ min q.toNat k.bits)
abbrev quoV (k : IntKind) (p q : Int) : Int := k.wrap (p.tdiv q)
def setG {α : Type} (z : α) (xs : List α) (i : Nat) (v : α) : List α := if i < xs.length then xs.set i v else xs ++ (List.replicate (i - xs.length) z ++ [v])
theorem getD_setG {α : Type} (z : α) (xs : List α) (i j : Nat) (v : α) : (setG z xs i v).getD j z = if j = i then v else xs.getD j z := by
  unfold setG
  by_cases h : i < xs.length
  · rw [if_pos h]
    by_cases hj : j = i
    · subst hj; simp [List.getD, h]
    · simp [List.getD, List.getElem?_set, hj, Ne.symm hj]
  · rw [if_neg h]
    simp only [List.getD]
    by_cases hj : j < xs.length
    · rw [List.getElem?_append_left hj, if_neg (by omega)]
    · rw [List.getElem?_append_right (by omega)]
      by_cases hji : j = i
      · subst hji; rw [List.getElem?_append_right (by simp)]; simp
      · rw [if_neg hji, List.getElem?_eq_none (l := xs) (by omega)]
        by_cases hlt : j < i
        · rw [List.getElem?_append_left (by simp; omega), List.getElem?_replicate]; split <;> rfl
        · rw [List.getElem?_eq_none (by simp; omega)]
theorem setG_eq {α : Type} {z : α} {xs : List α} {i : Nat} {v : α} (h : i < xs.length) : setG z xs i v = xs.set i v := if_pos h

/-! ## Parts of the memory that are told by names -/

inductive Take (ms : List Chunk) : List Chunk → List Chunk → Prop
  | here {m : List Chunk} : Take ms (ms ++ m) m
  | there {c : Chunk} {m m' : List Chunk} : Take ms m m' → Take ms (c :: m) (c :: m')
  | app {ns m m' : List Chunk} : Take ms m m' → Take ms (ns ++ m) (ns ++ m')
inductive Take1 (c : Chunk) : List Chunk → List Chunk → Prop
  | here {m : List Chunk} : Take1 c (c :: m) m
  | there {c' : Chunk} {m m' : List Chunk} : Take1 c m m' → Take1 c (c' :: m) (c' :: m')
  | app {ns m m' : List Chunk} : Take1 c m m' → Take1 c (ns ++ m) (ns ++ m')
theorem perm_mid (ms ns m : List Chunk) : List.Perm (ms ++ (ns ++ m)) (ns ++ (ms ++ m)) := by
  rw [← List.append_assoc, ← List.append_assoc]
  exact List.Perm.append_right m List.perm_append_comm
theorem Take.perm {ms m m' : List Chunk} (h : Take ms m m') : List.Perm (ms ++ m') m := by
  induction h with
  | here => exact List.Perm.refl _
  | there _ ih => exact List.perm_middle.trans (ih.cons _)
  | app _ ih => exact (perm_mid _ _ _).trans (List.Perm.append_left _ ih)
theorem Take1.perm {c : Chunk} {m m' : List Chunk} (h : Take1 c m m') : List.Perm (c :: m') m := by
  induction h with
  | here => exact List.Perm.refl _
  | there _ ih => exact (List.Perm.swap _ _ _).trans (ih.cons _)
  | app _ ih => exact (List.perm_middle.symm).trans (List.Perm.append_left _ ih)
/-- M's parts are all among m's. -/
inductive PSub : List Chunk → List Chunk → Prop
  | nil {m : List Chunk} : PSub [] m
  | all {ms M m m1 : List Chunk} : Take ms m m1 → PSub M m1 → PSub (ms ++ M) m
  | one {c : Chunk} {M m m1 : List Chunk} : Take1 c m m1 → PSub M m1 → PSub (c :: M) m
  | no {M m : List Chunk} : PSub M m → PSub ([] ++ M) m
theorem PSub.rest {M m : List Chunk} (h : PSub M m) : ∃ r, List.Perm (M ++ r) m := by
  induction h with
  | nil => exact ⟨_, List.Perm.refl _⟩
  | all h1 _ ih =>
    obtain ⟨r, hr⟩ := ih
    exact ⟨r, by rw [List.append_assoc]; exact (List.Perm.append_left _ hr).trans h1.perm⟩
  | one h1 _ ih =>
    obtain ⟨r, hr⟩ := ih
    exact ⟨r, by rw [List.cons_append]; exact (hr.cons _).trans h1.perm⟩
  | no _ ih => exact ih
theorem Sat.psub {W0 : World} {S : List Nat} {M m : List Chunk} {w : World} (h : Sat W0 S m w) (hs : PSub M m) : Sat W0 S M w := by
  obtain ⟨r, hr⟩ := hs.rest
  exact (h.perm hr).sublist (List.sublist_append_left _ _)
theorem Sat.take {W0 : World} {S : List Nat} {ms m m' : List Chunk} {w : World} (h : Sat W0 S m w) (hs : Take ms m m') : Sat W0 S ms w :=
  (h.perm hs.perm).sublist (List.sublist_append_left _ _)

structure Fit (T : TS) (M : List Chunk) (t : TS) (m : List Chunk) : Prop where
  t : subT T t
  m : PSub M m

section
variable {C : Cfg} {t : TS} {m : List Chunk} {kn : KN} {ke : KE}
theorem wc_fit {c : IC} {T : TS} {M : List Chunk} (hl : Fit T M t m) (h : WC C c T M kn ke) : WC C c t m kn ke := by
  intro hm c0 hok Q a w ha hw hc
  exact h hm c0 hok Q a w (ha.drop (subT_look hl.t)) (hw.psub hl.m) hc
theorem wc_join {a b : IC} {G : TS → List Chunk → Prop} (h1 : WC C a t m G ke) (h2 : ∀ t m, G t m → WC C b t m kn ke) : WC C (.seq a b) t m kn ke :=
  wc_seq (h1.mono h2)
theorem wc_mono2 {a : IC} {G : TS → List Chunk → Prop} (h1 : WC C a t m G ke) (h2 : ∀ t m, G t m → kn t m) : WC C a t m kn ke := h1.mono h2
theorem wc_loopJ {c : IC} (J : Nat → TS → List Chunk → Prop) (n0 : Nat) (h0 : J n0 t m)
    (round : ∀ n t m, J n t m → WC C c t m (fun t' m' => ∃ n', n' < n ∧ J n' t' m') ke) : WC C (.loop c) t m kn ke := by
  intro hm c0 hok Q a w ha hw hc
  cases c0 <;> first | (simp [okC] at hok; done) | skip
  rename_i c1
  simp only [okC] at hok
  refine wp_loop_x (X := Nat × TS × List Chunk) (fun x a w => J x.1 x.2.1 x.2.2 ∧ SatT C.n x.2.1 a ∧ Sat C.W0 C.S x.2.2 w) (fun x => x.1) (x0 := (n0, t, m)) ⟨h0, ha, hw⟩ ?_
  rintro ⟨n, t1, m1⟩ a w ⟨hI, ha, hw⟩
  refine round n t1 m1 hI hm c1 hok _ a w ha hw ⟨?_, hc.b, hc.r⟩
  rintro t' m' ⟨n', hlt, hJ⟩ a' w' ha' hw'
  exact ⟨(n', t', m'), ⟨hJ, ha', hw'⟩, hlt⟩
end

/-! ## Elements of slices and arrays -/

structure El (α : Type) where
  w : Nat
  cell : α → List Value
  len : ∀ a, (cell a).length = w
  one : ∀ a, ∀ v ∈ cell a, one1 v = true
  pos : 0 < w
  z : α
abbrev El.int (k : IntKind) : El Int := ⟨1, fun x => [.int k x], fun _ => rfl, fun _ v h => by simp at h; subst h; rfl, by decide, 0⟩
abbrev El.bool : El Bool := ⟨1, fun x => [.bool x], fun _ => rfl, fun _ v h => by simp at h; subst h; rfl, by decide, false⟩
def rowE {α : Type} (E : El α) (xs : List α) : Nat → List Value := fun i => E.cell (xs.getD i E.z)
theorem ones_nil : ∀ v ∈ cells [], one1 v = true := fun v h => by cases h
theorem ones_cons {s : Seg} {r : List Seg} (h1 : ∀ v ∈ s.cells, one1 v = true) (h2 : ∀ v ∈ cells r, one1 v = true) : ∀ v ∈ cells (s :: r), one1 v = true := by
  intro v hv
  simp only [cells, List.mem_append] at hv
  exact hv.elim (h1 v) (h2 v)
theorem ones_one {u : Value} (h : one1 u = true) : ∀ v ∈ (Seg.one u).cells, one1 v = true := by
  intro v hv; simp only [Seg.cells, List.mem_singleton] at hv; subst hv; exact h
theorem ones_ints {k : IntKind} {n : Nat} {xs : List Int} : ∀ v ∈ (Seg.ints k n xs).cells, one1 v = true := by
  intro v hv; simp only [Seg.cells, intsCells, List.mem_map] at hv; obtain ⟨_, _, rfl⟩ := hv; rfl
theorem ones_rows {α : Type} {E : El α} {n : Nat} {xs : List α} : ∀ v ∈ (Seg.rows E.w n (rowE E xs)).cells, one1 v = true := by
  intro v hv
  exact one_rows (w := E.w) (n := n) (g := rowE E xs) (fun i _ => ⟨E.len _, E.one _⟩) v hv
theorem fit_cell {α : Type} {E : El α} (x : α) : fit E.w (E.cell x) = E.cell x := fit_same (E.len x)

/-- A slice's value reads as a list. -/
def RdSl {α : Type} (E : El α) (W : World) (v : Value) (xs : List α) : Prop :=
  (v = .slice none 0 0 ∧ xs = []) ∨ (∃ b o cp, v = .slice (some ⟨b, o, none⟩) xs.length cp ∧ xs.length ≤ cp ∧ ∀ i, i < xs.length → ∀ j, j < E.w → W.cell? ⟨b, o + (i * E.w + j), none⟩ = (E.cell (xs.getD i E.z))[j]?) ∨ ∃ a, v = .slice (some a) 0 0 ∧ xs = []
def SrcM {α : Type} (C : Cfg) (m : List Chunk) (E : El α) (v : Value) (xs : List α) : Prop := ∀ w, Sat C.W0 C.S m w → RdSl E w v xs
/-- A slice of one's own: its block is named. -/
def OwnSl {α : Type} (E : El α) (v : Value) (ms : List Chunk) (xs : List α) : Prop :=
  (v = .slice none 0 0 ∧ xs = [] ∧ ms = []) ∨ ∃ b o cp T cs, v = .slice (some ⟨b, o, none⟩) xs.length cp ∧ xs.length ≤ cp ∧ ms = [⟨b, .cells (cells cs).toArray T (0, 0)⟩] ∧ o + cp * E.w ≤ width cs ∧
    ∀ i, i < xs.length → ∀ j, j < E.w → (cells cs)[o + (i * E.w + j)]? = (E.cell (xs.getD i E.z))[j]?

theorem own_nil {α : Type} {E : El α} : OwnSl E (.slice none 0 0) [] [] := .inl ⟨rfl, rfl, rfl⟩
theorem rd_nil {α : Type} {E : El α} {W : World} : RdSl E W (.slice none 0 0) [] := .inl ⟨rfl, rfl⟩
theorem RdSl.own {α : Type} {E : El α} {v : Value} {ms : List Chunk} {xs : List α} (h : OwnSl E v ms xs) {W0 : World} {S : List Nat} {w : World} (hw : Sat W0 S ms w) : RdSl E w v xs := by
  rcases h with ⟨h1, h2, h3⟩ | ⟨b, o, cp, T, cs, h1, h2, h3, h4, h5⟩
  · exact .inl ⟨h1, h2⟩
  · refine .inr (.inl ⟨b, o, cp, h1, h2, fun i hi j hj => ?_⟩)
    subst h3
    rw [cells_load (hw.own _ List.mem_cons_self), h5 i hi j hj]
theorem RdSl.same {α : Type} {E : El α} {W w : World} {v : Value} {xs : List α} (h : RdSl E W v xs) (hb : ∀ b o x, (∀ a n c, v = .slice (some a) n c → a.block = b) → W.cell? ⟨b, o, none⟩ = some x → w.cell? ⟨b, o, none⟩ = some x) : RdSl E w v xs := by
  rcases h with h | ⟨b, o, cp, h1, h2, h3⟩ | h
  · exact .inl h
  rotate_left 1
  · exact .inr (.inr h)
  · refine .inr (.inl ⟨b, o, cp, h1, h2, fun i hi j hj => ?_⟩)
    have h4 := h3 i hi j hj
    have h5 : j < (E.cell (xs.getD i E.z)).length := by rw [E.len]; exact hj
    rw [List.getElem?_eq_getElem h5] at h4 ⊢
    exact hb b _ _ (fun a n c e => by rw [h1] at e; injection e with e; injection e with e; rw [← e]) h4
theorem cell_lt {W : World} {b o : Nat} {x : Value} (h : W.cell? ⟨b, o, none⟩ = some x) : b < W.heap.size := by
  rcases Nat.lt_or_ge b W.heap.size with h1 | h1
  · exact h1
  · have : W.heap[b]? = none := Array.getElem?_eq_none h1
    simp [World.cell?, this] at h
theorem RdSl.below {α : Type} {E : El α} {W w : World} {v : Value} {xs : List α} (h : RdSl E W v xs) (hb : Below W.heap.size W w) : RdSl E w v xs :=
  h.same fun b o x _ hx => by rw [hb.cell (p := ⟨b, o, none⟩) (cell_lt hx)]; exact hx

section
variable {α : Type} {C : Cfg} {m : List Chunk} {t : TS} {K : KN} {E : El α} {v : Value} {xs : List α}

/-- A slice's memory is none of these blocks. -/
def Apart (v : Value) (xs : List α) (S : List Nat) : Prop := ∀ a n c, v = .slice (some a) n c → 0 < xs.length → a.block ∉ S
theorem rd_arg (h : RdSl E C.W0 v xs) (hS : Apart v xs C.S) : SrcM C m E v xs := by
  intro w hw
  rcases h with h | ⟨b', o', cp, h1, h2, h3⟩ | h
  · exact .inl h
  rotate_left 1
  · exact .inr (.inr h)
  · by_cases h0 : 0 < xs.length
    · refine RdSl.same (.inr (.inl ⟨b', o', cp, h1, h2, h3⟩)) fun b o x hb hx => ?_
      have e := hb _ _ _ h1
      subst e
      rw [← hx]
      unfold World.cell?; simp only [hw.fr.block _ (cell_lt hx) (hS _ _ _ h1 h0)]
    · exact .inr (.inl ⟨b', o', cp, h1, h2, fun i hi => by omega⟩)
theorem apart0 : Apart v xs [] := fun _ _ _ _ _ => by simp
theorem apart_own {W0 w : World} {ms m1 : List Chunk} {b : Nat} {o : Obj} {T : List Nat} (hO : OwnSl E v ms xs) (hT : Take ms m m1) (hb : Has b o m1) (hw : Sat W0 T m w) : Apart v xs [b] := by
  rcases hO with ⟨h1, h2, h3⟩ | ⟨b1, o1, cp, T1, cs, h1, h2, h3, h4, h5⟩
  · intro a n c e h0; subst h2; simp at h0
  · intro a n c e h0
    subst h1
    injection e with e; injection e with e; subst e
    subst h3
    have hd := (hw.perm hT.perm).dist
    simp only [List.cons_append, List.nil_append, List.map_cons, List.nodup_cons] at hd
    intro hm
    simp only [List.mem_singleton] at hm
    exact hd.1 (hm ▸ List.mem_map.2 ⟨_, hb.mem, rfl⟩)
theorem apart_arg {W0 w : World} {b : Nat} {o : Obj} (h : RdSl E W0 v xs) (hb : Has b o m) (hw : Sat W0 [] m w) : Apart v xs [b] := by
  intro a n c e h0
  rcases h with ⟨h1, h2⟩ | ⟨b', o', cp, h1, h2, h3⟩ | ⟨_, _, h2⟩
  · subst h2; simp at h0
  rotate_left 1
  · subst h2; simp at h0
  · rw [h1] at e
    injection e with e; injection e with e; subst e
    intro hm
    simp only [List.mem_singleton] at hm
    have h4 := h3 0 h0 0 E.pos
    have h5 : 0 < (E.cell (xs.getD 0 E.z)).length := by rw [E.len]; exact E.pos
    rw [List.getElem?_eq_getElem h5] at h4
    have := cell_lt h4
    rcases hw.base _ hb.mem with h6 | h6
    · simp only at h6; omega
    · simp at h6
theorem apart_blk {W0 w : World} {b b' n c : Nat} {o : Obj} {c' : Chunk} {m1 : List Chunk} {T : List Nat} {a : Addr} (hT : Take1 c' m m1) (hb : Has b o m1) (hw : Sat W0 T m w) (ha : a.block = c'.b) : Apart (.slice (some a) n c) xs [b] := by
  intro a' n' c1 e h0
  injection e with e; injection e with e; subst e
  have hd := (hw.perm hT.perm).dist
  simp only [List.map_cons, List.nodup_cons] at hd
  intro hm
  simp only [List.mem_singleton] at hm
  exact hd.1 (List.mem_map.2 ⟨_, hb.mem, by rw [← ha, hm]⟩)
theorem apart_nil {S : List Nat} : Apart (.slice none 0 0) xs S := fun _ _ _ e => by cases e
theorem slAddr_block {b o l n w : Nat} : (slAddr b o l n w).block = b := by unfold slAddr; split <;> rfl
theorem rd_own {ms mr : List Chunk} (hO : OwnSl E v ms xs) (hT : Take ms m mr) : SrcM C m E v xs := fun _ hw => RdSl.own hO (hw.take hT)
theorem rd_ownm {ms : List Chunk} (hO : OwnSl E v ms xs) : SrcM C ms E v xs := fun _ hw => RdSl.own hO hw
theorem rd_in {ms mr : List Chunk} (h : SrcM C ms E v xs) (hT : Take ms m mr) : SrcM C m E v xs := fun w hw => h w (hw.take hT)
theorem rd_in0 (h : SrcM C [] E v xs) : SrcM C m E v xs := fun w hw => h w (hw.sublist (List.nil_sublist _))
theorem rd_own0 : SrcM C m E (.slice none 0 0) [] := fun _ _ => rd_nil

/-! ### Quiet rules -/
theorem iz {k : IntKind} {z e : Int} {op : IOp} (h : z = e) (q : Q1 C m t op (.int k e)) : Q1 C m t op (.int k z) := h ▸ q
theorem bz {z e : Bool} {op : IOp} (h : z = e) (q : Q1 C m t op (.bool e)) : Q1 C m t op (.bool z) := h ▸ q

def slBase : Value → Addr
  | .slice (some a) _ _ => a
  | _ => ⟨0, 0, none⟩
theorem q_lenM {x : Operand} (hx : ev t x = some v) (hs : SrcM C m E v xs) : Q1 C m t (.len x) (.int .i64 xs.length) := by
  intro o ho a ha w hw
  rcases hs w hw with ⟨h1, h2⟩ | ⟨b, o1, cp, h1, h2, h3⟩ | ⟨a3, h1, h2⟩
  · subst h1; subst h2; exact q_len hx o ho a ha w hw
  rotate_left 1
  · subst h1; subst h2; exact q_len hx o ho a ha w hw
  · subst h1; exact q_len hx o ho a ha w hw
theorem q_iasM {w : Nat} {x i : Operand} {k : IntKind} {z : Int} (hx : ev t x = some v) (hi : ev t i = some (.int k z)) (hs : SrcM C m E v xs) (hz : inB z xs.length = true) :
    Q1 C m t (.ias w x i) (.pointer (some ⟨(slBase v).block, (slBase v).off + z.toNat * w, none⟩)) := by
  intro o ho a ha wd hw
  have hz' := inB_z hz
  rcases hs wd hw with ⟨h1, h2⟩ | ⟨b, o1, cp, h1, h2, h3⟩ | ⟨_, _, h2⟩
  · subst h2; simp at hz'; omega
  rotate_left 1
  · subst h2; simp at hz'; omega
  · subst h1; exact q_ias hx hi hz' o ho a ha wd hw
theorem cells_at {W : World} {b o1 : Nat} {j c n : Nat} {s p : List Seg} (h3 : ∀ k, k < E.w → W.cell? ⟨b, o1 + (j * E.w + k), none⟩ = (E.cell (xs.getD j E.z))[k]?) (hc : E.cell (xs.getD j E.z) = cells s) (hp : sub s c n = some p) (k : Nat) (hk : k < n) :
    W.cell? ⟨b, o1 + j * E.w + c + k, none⟩ = (cells p)[k]? := by
  obtain ⟨e1, e2, e3⟩ := sub_cells hp
  have hw : width s = E.w := by rw [← cells_length, ← hc, E.len]
  have := h3 (c + k) (by rcases e3 with e3 | e3 <;> omega)
  rw [show o1 + j * E.w + c + k = o1 + (j * E.w + (c + k)) by omega, this, hc, e1, List.getElem?_take_of_lt hk, List.getElem?_drop]
theorem q_ldM {n : Nat} {x : Operand} {j c : Nat} {s p : List Seg} (hx : ev t x = some (.pointer (some ⟨(slBase v).block, (slBase v).off + j * E.w + c, none⟩))) (hs : SrcM C m E v xs) (hj : j < xs.length) (hc : E.cell (xs.getD j E.z) = cells s) (hp : sub s c n = some p) :
    Q1 C m t (.ld n true x) (agg p) := by
  intro o ho a ha w hw
  obtain ⟨e1, e2, e3⟩ := sub_cells hp
  rcases hs w hw with ⟨h1, h2⟩ | ⟨b, o1, cp, h1, h2, h3⟩ | ⟨_, _, h2⟩
  · subst h2; simp at hj
  rotate_left 1
  · subst h2; simp at hj
  · subst h1
    refine quiet_val ?_
    rw [run_load_at (l := cells p) ho (ha.ev hx) (by rw [cells_length]; exact e2) (fun k hk => cells_at (h3 j hj) hc hp k hk) (fun h => by cases h)]
    rfl
theorem q_ldM0 {n : Nat} {x : Operand} {j : Nat} {s p : List Seg} (hx : ev t x = some (.pointer (some ⟨(slBase v).block, (slBase v).off + j * E.w, none⟩))) (hs : SrcM C m E v xs) (hj : j < xs.length) (hc : E.cell (xs.getD j E.z) = cells s) (hp : sub s 0 n = some p) :
    Q1 C m t (.ld n true x) (agg p) := q_ldM (c := 0) hx hs hj hc hp
theorem cellAt_lt {s : List Seg} {c : Nat} {u : Value} (h : cellAt s c = some u) : c < width s := by
  rw [cellAt_eq] at h
  have := (List.getElem?_eq_some_iff.1 h).1
  rwa [cells_length] at this
theorem q_ldM1 {x : Operand} {j c : Nat} {s : List Seg} {u : Value} (hx : ev t x = some (.pointer (some ⟨(slBase v).block, (slBase v).off + j * E.w + c, none⟩))) (hs : SrcM C m E v xs) (hj : j < xs.length) (hc : E.cell (xs.getD j E.z) = cells s) (hp : cellAt s c = some u) :
    Q1 C m t (.ld 1 false x) u := by
  intro o ho a ha w hw
  rcases hs w hw with ⟨h1, h2⟩ | ⟨b, o1, cp, h1, h2, h3⟩ | ⟨_, _, h2⟩
  · subst h2; simp at hj
  rotate_left 1
  · subst h2; simp at hj
  · subst h1
    refine quiet_val ?_
    have hw : width s = E.w := by rw [← cells_length, ← hc, E.len]
    have hlt := cellAt_lt hp
    rw [run_load_at (l := [u]) ho (ha.ev hx) rfl (fun k hk => by
      obtain rfl : k = 0 := by omega
      have := h3 j hj c (by omega)
      simp only [slBase, Nat.add_zero, List.getElem?_cons_zero]
      rw [show o1 + j * E.w + c = o1 + (j * E.w + c) by omega, this, hc, ← cellAt_eq]
      exact hp) (fun _ => rfl)]
    rfl
theorem q_ldM10 {x : Operand} {j : Nat} {s : List Seg} {u : Value} (hx : ev t x = some (.pointer (some ⟨(slBase v).block, (slBase v).off + j * E.w, none⟩))) (hs : SrcM C m E v xs) (hj : j < xs.length) (hc : E.cell (xs.getD j E.z) = cells s) (hp : cellAt s 0 = some u) :
    Q1 C m t (.ld 1 false x) u := q_ldM1 (c := 0) hx hs hj hc hp
/-- A slice's first elements, as an array. -/
theorem q_s2aM {n : Nat} {x : Operand} (hx : ev t x = some v) (hs : SrcM C m E v xs) (h0 : 0 < n) (hn : decide (n ≤ xs.length) = true) : Q1 C m t (.s2a n x) (.pointer (some ⟨(slBase v).block, (slBase v).off, none⟩)) := by
  intro o ho a ha w hw
  have hn := of_decide_eq_true hn
  rcases hs w hw with ⟨h1, h2⟩ | ⟨b, o1, cp, h1, h2, h3⟩ | ⟨_, _, h2⟩
  · subst h2; simp at hn; omega
  rotate_left 1
  · subst h2; simp at hn; omega
  · subst h1; exact q_s2a hx hn o ho a ha w hw
theorem q_ldS {k : IntKind} {n : Nat} {x : Operand} {ys : List Int} (hx : ev t x = some (.pointer (some ⟨(slBase v).block, (slBase v).off, none⟩))) (hs : SrcM C m (El.int k) v ys) (h0 : 0 < n) (hn : decide (n ≤ ys.length) = true) :
    Q1 C m t (.ld n true x) (agg [.ints k n (tk ys 0 n)]) := by
  intro o ho a ha w hw
  have hn := of_decide_eq_true hn
  rcases hs w hw with ⟨h1, h2⟩ | ⟨b, o1, cp, h1, h2, h3⟩ | ⟨_, _, h2⟩
  · subst h2; simp at hn; omega
  rotate_left 1
  · subst h2; simp at hn; omega
  · subst h1
    refine quiet_val ?_
    rw [run_load_at (l := cells [.ints k n (tk ys 0 n)]) ho (ha.ev hx) (by rw [cells_length]; rfl) (fun i hi => ?_) (fun h => by cases h)]
    · rfl
    · have := h3 i (by omega) 0 (El.int k).pos
      simp only [slBase, cells, Seg.cells, List.append_nil]
      simp only [Nat.mul_one, Nat.add_zero] at this
      rw [this, intsCells_get hi, tk_getD, if_pos hi, Nat.zero_add]
      rfl
/-- A part of a slice. -/
def cutSl (w : Nat) (v : Value) (lo hi : Nat) : Value := match v with
  | .slice (some ⟨b, o, none⟩) _ cp => .slice (some (slAddr b o lo cp w)) (hi - lo) (cp - lo)
  | .slice (some a) n c => .slice (some a) n c
  | _ => .slice none 0 0
theorem cutSl_odd {w : Nat} {a : Addr} : cutSl w (.slice (some a) 0 0) 0 0 = .slice (some a) 0 0 := by
  obtain ⟨b, o, sp⟩ := a
  cases sp with
  | none => simp [cutSl, slAddr]
  | some k => rfl
theorem q_slsE {w : Nat} {x : Operand} {lo hi : Option Operand} {lz hz : Int} {a3 : Addr} (hx : ev t x = some (.slice (some a3) 0 0)) (hl : OptI t 0 lo lz) (hh : OptI t (0 : Nat) hi hz)
    (hb : lz = 0 ∧ hz = 0) : Q1 C m t (.sls w x lo hi none) (.slice (some a3) 0 0) := by
  obtain ⟨rfl, rfl⟩ := hb
  intro o ho a ha wd hw
  refine quiet_val ?_
  simp only [okOp] at ho
  split at ho
  · rename_i T x' lo' hi' mx' heq
    simp only [Bool.and_eq_true] at ho
    obtain ⟨⟨⟨⟨h1, h2⟩, h3⟩, h4⟩, h5⟩ := ho
    have e1 := oeq_sound h1; have e2 := oeqO_sound h2; have e3 := oeqO_sound h3; have e4 := oeqO_sound h4
    subst e1; subst e2; subst e3; subst e4
    split at h5
    · rename_i el hu
      simp only [execOp, heq, ha.ev hx]
      refine run_v ?_
      simp only [Instr.sliceAt, Instr.slice, Sem.run_bind, run_underlying hu, Result.andThen_ok, Sem.run_pure, run_sliceBounds (isS := true) (cap := 0) (mz := 0) ha hl hh .no (by simp) (by omega) (by omega) (by omega) (by omega), run_sizeOf h5]
      simp
    · cases h5
  · cases ho
theorem q_slsM {w : Nat} {x : Operand} {lo hi : Option Operand} {lz hz : Int} (hx : ev t x = some v) (hs : SrcM C m E v xs) (hl : OptI t 0 lo lz) (hh : OptI t xs.length hi hz) (hb : cutB lz hz xs.length = true) :
    Q1 C m t (.sls w x lo hi none) (cutSl w v lz.toNat hz.toNat) := by
  intro o ho a ha wd hw
  have hb := cutB_z hb
  rcases hs wd hw with ⟨h1, h2⟩ | ⟨b, o1, cp, h1, h2, h3⟩ | ⟨a3, h1, h2⟩
  · subst h1; subst h2
    simp only [List.length_nil] at hb
    exact q_sls0 (mz := 0) hx hl hh .no (by simp) (by omega) o ho a ha wd hw
  rotate_left 1
  · subst h1; subst h2
    simp only [List.length_nil] at hb
    have e1 : lz.toNat = 0 := by omega
    have e2 : hz.toNat = 0 := by omega
    rw [e1, e2, cutSl_odd]
    exact q_slsE hx hl hh (by omega) o ho a ha wd hw
  · subst h1
    have := q_sls (C := C) (m := m) (w := w) (mz := cp) hx hl hh .no (by simp) (by omega) o ho a ha wd hw
    simpa [cutSl] using this
theorem tkG_get {z : α} {ys : List α} {lo n i : Nat} (h : i < n) (hn : lo + n ≤ ys.length) : ((ys.drop lo).take n).getD i z = ys.getD (lo + i) z := by
  simp only [List.getD, List.getElem?_take_of_lt h, List.getElem?_drop]
theorem rd_cut {lz hz : Int} (hs : SrcM C m E v xs) (hb : cutB lz hz xs.length = true) : SrcM C m E (cutSl E.w v lz.toNat hz.toNat) ((xs.drop lz.toNat).take (hz.toNat - lz.toNat)) := by
  intro w hw
  have hb := cutB_z hb
  have hlen : ((xs.drop lz.toNat).take (hz.toNat - lz.toNat)).length = hz.toNat - lz.toNat := by rw [List.length_take, List.length_drop]; omega
  rcases hs w hw with ⟨h1, h2⟩ | ⟨b, o1, cp, h1, h2, h3⟩ | ⟨a3, h1, h2⟩
  · subst h1; subst h2
    simp only [List.length_nil] at hb
    exact .inl ⟨rfl, by simp⟩
  rotate_left 1
  · subst h1; subst h2
    simp only [List.length_nil] at hb
    have e1 : lz.toNat = 0 := by omega
    have e2 : hz.toNat = 0 := by omega
    rw [e1, e2, cutSl_odd]
    exact .inr (.inr ⟨a3, rfl, by simp⟩)
  · subst h1
    by_cases hc : cp = lz.toNat
    · refine .inr (.inl ⟨b, o1, cp - lz.toNat, ?_, by omega, fun i hi => ?_⟩)
      · simp only [cutSl, slAddr, hlen, hc, if_true]
      · omega
    · refine .inr (.inl ⟨b, o1 + lz.toNat * E.w, cp - lz.toNat, ?_, by omega, fun i hi j hj => ?_⟩)
      · simp only [cutSl, slAddr, hlen, hc, if_false]
      · rw [hlen] at hi
        rw [tkG_get hi (by omega), ← h3 (lz.toNat + i) (by omega) j hj]
        congr 2
        rw [Nat.add_mul]; omega
/-- A part of an array of one's own, as a slice. -/
theorem rd_blk_i {b T base N lo hi mz : Nat} {fz : Nat × Nat} {s : List Seg} {k : IntKind} {ys : List Int} (hb : Has b (.cells (cells s).toArray T fz) m) (hs : segAt s base = some (.ints k N ys)) (h : lo ≤ hi ∧ hi ≤ mz ∧ mz ≤ N) :
    SrcM C m (El.int k) (.slice (some (slAddr b base lo mz 1)) (hi - lo) (mz - lo)) (tk ys lo (hi - lo)) := by
  intro w hw
  by_cases hc : mz = lo
  · refine .inr (.inl ⟨b, base, mz - lo, ?_, by rw [tk_length]; omega, fun i hi => ?_⟩)
    · simp only [slAddr, hc, if_true, tk_length]
    · rw [tk_length] at hi; omega
  · refine .inr (.inl ⟨b, base + lo * 1, mz - lo, ?_, by rw [tk_length]; omega, fun i hi j hj => ?_⟩)
    · simp only [slAddr, hc, if_false, tk_length]
    · rw [tk_length] at hi
      obtain rfl : j = 0 := by simp only at hj; omega
      have hseg := segAt_cells hs (lo + i) (by simp only [Seg.width]; omega)
      rw [tk_getD, if_pos hi]
      have := hw.own _ hb.mem
      have hcell : w.cell? ⟨b, base + (lo + i), none⟩ = (cells s)[base + (lo + i)]? := by
        simp only [World.cell?, this]
        simp
      simp only [Nat.mul_one, Nat.add_zero]
      rw [show base + lo + i = base + (lo + i) by omega, hcell, hseg]
      simp only [Seg.cells]
      rw [intsCells_get (by omega)]
      rfl

/-! ### Effects -/
theorem EF.perm {d : Option Nat} {op : IOp} {m' : List Chunk} (hp : List.Perm m' m) (h : EF C m' t d op K) : EF C m t d op K :=
  fun o ho hd a ha w hw => h o ho hd a ha w (hw.perm hp)
theorem ef_st1z {x y : Operand} {b off : Nat} {T : TypeId} {s q q' : List Seg} {u : Value} {m' : List Chunk} (e : q' = q) (hx : ev t x = some (.pointer (some ⟨b, off, none⟩))) (hy : ev t y = some u) (hv : one1 u = true) (hq : putC s off u = some q')
    (hup : Upd b (.cells (cells s).toArray T (0, 0)) (.cells (cells q).toArray T (0, 0)) m m') (h : K t m') : EF C m t none (.st 1 x y) K := by subst e; exact ef_st1 hx hy hv hq hup h
theorem ef_stiz {x y : Operand} {b base i len : Nat} {T : TypeId} {s q : List Seg} {k : IntKind} {ys ys' : List Int} {z : Int} {m' : List Chunk} (e : ys' = setD ys i z) (hx : ev t x = some (.pointer (some ⟨b, base + i * 1, none⟩))) (hy : ev t y = some (.int k z))
    (hs : segAt s base = some (.ints k len ys)) (hi : i < len) (hq : segSet s base (.ints k len ys') = some q)
    (hup : Upd b (.cells (cells s).toArray T (0, 0)) (.cells (cells q).toArray T (0, 0)) m m') (h : K t m') : EF C m t none (.st 1 x y) K := by subst e; exact ef_sti hx hy hs hi hq hup h
theorem rowE_set (ys : List α) (i : Nat) (y : α) : rowE E (setG E.z ys i y) = updR (rowE E ys) i (E.cell y) := by
  funext j
  simp only [rowE, updR, getD_setG]
  split <;> rfl
theorem ef_strz {x y : Operand} {b base i len : Nat} {T : TypeId} {s q : List Seg} {u : Value} {y0 : α} {ys ys' : List α} {m' : List Chunk} (e : ys' = setG E.z ys i y0) (hx : ev t x = some (.pointer (some ⟨b, base + i * E.w, none⟩))) (hy : ev t y = some u) (hu : u.cells.toList = E.cell y0)
    (hs : segAt s base = some (.rows E.w len (rowE E ys))) (hi : i < len) (hq : segSet s base (.rows E.w len (rowE E ys')) = some q)
    (hup : Upd b (.cells (cells s).toArray T (0, 0)) (.cells (cells q).toArray T (0, 0)) m m') (h : K t m') : EF C m t none (.st E.w x y) K := by
  subst e
  rw [rowE_set] at hq
  obtain ⟨e1, e2, e3⟩ := segSet_cells hq
  have hw := segAt_width hs
  simp only [Seg.width] at hw e3
  have hle : i * E.w + E.w ≤ len * E.w := by rw [← Nat.succ_mul]; exact Nat.mul_le_mul_right E.w hi
  have hpl : (E.cell y0).length = E.w := E.len y0
  have key : cells q = splice (cells s) (base + i * E.w) (E.cell y0) := by
    rw [e1]
    simp only [Seg.cells, rowsCells_upd E.w len (rowE E ys) i (E.cell y0) hi hpl]
    exact splice_splice (by rw [rowsCells_length, cells_length]; omega) (by rw [rowsCells_length]; omega) (fun j hj => segAt_cells hs j (by rw [rowsCells_length] at hj; exact hj))
  rw [key] at hup
  exact ef_put hx hy (vs := E.cell y0) hu hpl hup (by rw [cells_length]; omega) (E.one y0) h
theorem cells_ones (l : List Value) : cells (l.map Seg.one) = l := by
  induction l with
  | nil => rfl
  | cons a r ih => simp [cells, Seg.cells, ih]
theorem width_ones (l : List Value) : width (l.map Seg.one) = l.length := by rw [← cells_length, cells_ones]
def cellsOf (E : El α) (xs : List α) : List Value := rowsCells E.w xs.length (rowE E xs)
theorem cellsOf_length : (cellsOf E xs).length = xs.length * E.w := rowsCells_length _ _ _
theorem cellsOf_get {i j : Nat} (hi : i < xs.length) (hj : j < E.w) : (cellsOf E xs)[i * E.w + j]? = (E.cell (xs.getD i E.z))[j]? := by
  unfold cellsOf
  rw [rowsCells_get2 hi hj]
  simp only [rowE, fit_cell]
theorem cellsOf_one : ∀ u ∈ cellsOf E xs, one1 u = true := one_rows fun i _ => ⟨E.len _, E.one _⟩
theorem srcV_rd {w : World} (hs : SrcM C m E v xs) (hw : Sat C.W0 C.S m w) : SrcV C m E.w v xs.length (cellsOf E xs) := by
  rcases hs w hw with ⟨h1, h2⟩ | ⟨b, o1, cp, h1, h2, h3⟩ | ⟨a3, h1, h2⟩
  · subst h1; subst h2; exact src_none
  rotate_left 1
  · subst h1; subst h2; exact src_none
  · subst h1
    refine src_of cellsOf_length cellsOf_one fun w' hw' i hi => ?_
    rcases hs w' hw' with ⟨h1', _⟩ | ⟨b', o1', cp', h1', h2', h3'⟩ | ⟨_, _, h2'⟩
    · cases h1'
    rotate_left 1
    · subst h2'; simp at hi
    · injection h1' with h1' _ h1c
      injection h1' with h1'
      injection h1' with hb ho _
      subst hb; subst ho
      have hp := E.pos
      have hq : i / E.w < xs.length := Nat.div_lt_of_lt_mul (by rw [Nat.mul_comm]; exact hi)
      have hr := Nat.mod_lt i hp
      have he : i / E.w * E.w + i % E.w = i := by have := Nat.div_add_mod i E.w; rw [Nat.mul_comm] at this; exact this
      have := h3' (i / E.w) hq (i % E.w) hr
      rw [he] at this
      rw [this, ← cellsOf_get hq hr, he]
theorem ef_stO {x y : Operand} {ms mr : List Chunk} {i : Nat} {u : Value} {y0 : α} {xs' : List α} (e : xs' = setG E.z xs i y0) (hO : OwnSl E v ms xs) (hT : Take ms m mr) (hx : ev t x = some (.pointer (some ⟨(slBase v).block, (slBase v).off + i * E.w, none⟩)))
    (hy : ev t y = some u) (hu : u.cells.toList = E.cell y0) (hi : i < xs.length) (h : ∀ ms', OwnSl E v ms' xs' → K t (ms' ++ mr)) : EF C m t none (.st E.w x y) K := by
  refine EF.perm hT.perm ?_
  rcases hO with ⟨h1, h2, h3⟩ | ⟨b, o, cp, T, cs, h1, h2, h3, h4, h5⟩
  · subst h2; simp at hi
  · subst h1; subst h3; subst e
    have hle : i * E.w + E.w ≤ cp * E.w := by rw [← Nat.succ_mul]; exact Nat.mul_le_mul_right _ (by omega)
    have hpl : (E.cell y0).length = E.w := E.len y0
    have hin : o + i * E.w + E.w ≤ (cells cs).length := by rw [cells_length]; omega
    refine ef_put (l := cells cs) (vs := E.cell y0) (T := T) (m' := [⟨b, .cells (cells ((splice (cells cs) (o + i * E.w) (E.cell y0)).map Seg.one)).toArray T (0, 0)⟩] ++ mr) hx hy hu hpl ?_ hin (E.one y0) (h _ (.inr ⟨b, o, cp, T, _, ?_, ?_, rfl, ?_, ?_⟩))
    · rw [cells_ones]; exact Upd.here
    · rw [setG_eq hi, List.length_set]
    · rw [setG_eq hi, List.length_set]; exact h2
    · rw [width_ones, splice, List.length_append, List.length_append, List.length_take, List.length_drop, hpl, cells_length]
      have := cells_length cs; omega
    · intro i' hi' j hj
      rw [setG_eq hi, List.length_set] at hi'
      rw [cells_ones, splice_get (by rw [hpl]; exact hin), getD_setG, hpl]
      by_cases hii : i' = i
      · subst hii
        rw [if_pos (by omega), if_pos rfl]
        congr 1; omega
      · rw [if_neg hii, if_neg ?_, h5 i' hi' j hj]
        intro hcon
        rcases Nat.lt_or_ge i' i with hl | hl
        · have : i' * E.w + E.w ≤ i * E.w := by rw [← Nat.succ_mul]; exact Nat.mul_le_mul_right _ hl
          omega
        · have : i * E.w + E.w ≤ i' * E.w := by rw [← Nat.succ_mul]; exact Nat.mul_le_mul_right _ (by omega)
          omega
theorem getD_app1 {z : α} {ys : List α} {i : Nat} (h : i < xs.length) : (xs ++ ys).getD i z = xs.getD i z := by simp [List.getD, List.getElem?_append_left h]
theorem getD_app2 {z : α} {ys : List α} {i : Nat} (h : xs.length ≤ i) : (xs ++ ys).getD i z = ys.getD (i - xs.length) z := by simp [List.getD, List.getElem?_append_right h]
/-- append onto a slice of one's own. -/
theorem ef_appO {d : Nat} {T : TypeId} {bytes : Nat} {z : List Seg} {x y : Operand} {ms mr : List Chunk} {u : Value} {ys xs' : List α} (e : xs' = xs ++ ys) (hx : ev t x = some v) (hO : OwnSl E v ms xs) (hT : Take ms m mr) (hy : ev t y = some u) (hs : SrcM C m E u ys)
    (hsz : decide ((xs.length + ys.length) * bytes ≤ 140737488355328) = true) (h : ∀ v' ms', OwnSl E v' ms' xs' → K ((d, v') :: t) (ms' ++ mr)) : EF C m t (some d) (.app T E.w bytes z x y) K := by
  subst e
  have hsz := of_decide_eq_true hsz
  intro o ho hd a ha w hw
  have hS : SrcV C (ms ++ mr) E.w u ys.length (cellsOf E ys) := srcV_rd (w := w) (fun w' hw' => hs w' (hw'.perm hT.perm.symm)) (hw.perm hT.perm)
  refine EF.perm hT.perm (EF.less (?_ : EF C (ms ++ mr) t (some d) (.app T E.w bytes z x y) _)) o ho hd a ha w hw
  have hzw : width z = E.w := by
    simp only [okOp] at ho
    split at ho
    · simp only [Bool.and_eq_true, Nat.beq_eq] at ho
      exact ho.1.2
    · cases ho
  rcases hO with ⟨h1, h2, h3⟩ | ⟨b, o1, cp, T', cs, h1, h2, h3, h4, h5⟩
  · subst h1; subst h2; subst h3
    refine ef_app0 hx hy hS (by simpa using hsz) (fun h0 => ?_) (fun h0 b' cp' hb' hc' => ?_)
    · have hys : ys = [] := List.eq_nil_of_length_eq_zero h0
      subst hys
      exact ⟨_, h _ _ own_nil, List.Sublist.refl _⟩
    · refine ⟨(cellsOf E ys ++ (List.replicate (cp' - ys.length) (cells z)).flatten).map Seg.one, cells_ones _, ?_⟩
      refine ⟨_, h _ [⟨b', _⟩] (.inr ⟨b', 0, cp', T, _, by simp, by simpa using hc', rfl, ?_, ?_⟩), List.Sublist.refl _⟩
      · rw [width_ones, List.length_append, cellsOf_length]
        simp only [List.length_flatten, List.map_replicate, List.sum_replicate_nat, cells_length, hzw, Nat.zero_add]
        rw [← Nat.add_mul]
        exact Nat.mul_le_mul_right _ (by omega)
      · intro i hi j hj
        simp only [List.nil_append] at hi ⊢
        have : i * E.w + E.w ≤ ys.length * E.w := by rw [← Nat.succ_mul]; exact Nat.mul_le_mul_right _ hi
        rw [cells_ones, Nat.zero_add, List.getElem?_append_left (by rw [cellsOf_length]; omega), cellsOf_get hi hj]
  · subst h1; subst h3
    refine ef_app hx Has.here hy hS h4 h2 hsz (fun hr => ?_) (fun hg b' cp' hb' hc' => ?_)
    · have hle : (xs.length + ys.length) * E.w ≤ cp * E.w := Nat.mul_le_mul_right _ hr
      rw [Nat.add_mul] at hle
      have hin : o1 + xs.length * E.w + (cellsOf E ys).length ≤ (cells cs).length := by rw [cellsOf_length, cells_length]; omega
      refine ⟨(splice (cells cs) (o1 + xs.length * E.w) (cellsOf E ys)).map Seg.one, [⟨b, .cells (cells ((splice (cells cs) (o1 + xs.length * E.w) (cellsOf E ys)).map Seg.one)).toArray T' (0, 0)⟩] ++ mr, cells_ones _, Upd.here, ?_⟩
      refine ⟨_, h _ _ (.inr ⟨b, o1, cp, T', _, by simp, by simpa using hr, rfl, ?_, ?_⟩), List.Sublist.refl _⟩
      · rw [width_ones, splice, List.length_append, List.length_append, List.length_take, List.length_drop]
        rw [cells_length] at hin ⊢; omega
      · intro i hi j hj
        rw [cells_ones, splice_get hin, cellsOf_length]
        rw [List.length_append] at hi
        by_cases hil : i < xs.length
        · have : i * E.w + E.w ≤ xs.length * E.w := by rw [← Nat.succ_mul]; exact Nat.mul_le_mul_right _ hil
          rw [if_neg (by omega), getD_app1 hil, h5 i hil j hj]
        · have e1 : i * E.w = xs.length * E.w + (i - xs.length) * E.w := by rw [← Nat.add_mul]; congr 1; omega
          have : (i - xs.length) * E.w + E.w ≤ ys.length * E.w := by rw [← Nat.succ_mul]; exact Nat.mul_le_mul_right _ (by omega)
          rw [if_pos (by omega), getD_app2 (by omega), show o1 + (i * E.w + j) - (o1 + xs.length * E.w) = (i - xs.length) * E.w + j by omega, cellsOf_get (by omega) hj]
    · have hle : xs.length * E.w ≤ cp * E.w := Nat.mul_le_mul_right _ h2
      have hl1 : (((cells cs).drop o1).take (xs.length * E.w)).length = xs.length * E.w := by rw [List.length_take, List.length_drop, cells_length]; omega
      refine ⟨(((cells cs).drop o1).take (xs.length * E.w) ++ cellsOf E ys ++ (List.replicate (cp' - (xs.length + ys.length)) (cells z)).flatten).map Seg.one, cells_ones _, ?_⟩
      refine ⟨_, h _ [⟨b', _⟩] (.inr ⟨b', 0, cp', T, _, by simp, by simpa using hc', rfl, ?_, ?_⟩), List.Sublist.cons₂ _ (List.sublist_cons_self _ _)⟩
      · rw [width_ones, List.length_append, List.length_append, hl1, cellsOf_length]
        simp only [List.length_flatten, List.map_replicate, List.sum_replicate_nat, cells_length, hzw, Nat.zero_add]
        rw [← Nat.add_mul, ← Nat.add_mul]
        exact Nat.mul_le_mul_right _ (by omega)
      · intro i hi j hj
        rw [List.length_append] at hi
        rw [cells_ones, Nat.zero_add]
        by_cases hil : i < xs.length
        · have : i * E.w + E.w ≤ xs.length * E.w := by rw [← Nat.succ_mul]; exact Nat.mul_le_mul_right _ hil
          rw [List.append_assoc, List.getElem?_append_left (by rw [hl1]; omega), List.getElem?_take_of_lt (by omega), List.getElem?_drop, h5 i hil j hj, getD_app1 hil]
        · have e1 : i * E.w = xs.length * E.w + (i - xs.length) * E.w := by rw [← Nat.add_mul]; congr 1; omega
          have : (i - xs.length) * E.w + E.w ≤ ys.length * E.w := by rw [← Nat.succ_mul]; exact Nat.mul_le_mul_right _ (by omega)
          rw [List.append_assoc, List.getElem?_append_right (by rw [hl1]; omega), hl1, List.getElem?_append_left (by rw [cellsOf_length]; omega), getD_app2 (by omega), show i * E.w + j - xs.length * E.w = (i - xs.length) * E.w + j by omega, cellsOf_get (by omega) hj]
/-- make: a slice of noughts. -/
def mkB (bytes : Nat) (L N : Int) : Bool := decide (0 ≤ L) && decide (L ≤ N) && decide ((bytes : Int) * N ≤ 281474976710656) && decide (N ≤ 9223372036854775807)
theorem ef_mksO {d : Nat} {T : TypeId} {bytes : Nat} {z : List Seg} {l c : Operand} {kl kc : IntKind} {L N : Int} (hz : cells z = E.cell E.z)
    (hl : ev t l = some (.int kl L)) (hc : ev t c = some (.int kc N)) (hB : mkB bytes L N = true)
    (h : ∀ v ms, OwnSl E v ms (List.replicate L.toNat E.z) → K ((d, v) :: t) (ms ++ m)) : EF C m t (some d) (.mks T bytes z l c) K := by
  simp only [mkB, Bool.and_eq_true, decide_eq_true_eq] at hB
  obtain ⟨⟨⟨h0, h1⟩, h2⟩, h3⟩ := hB
  refine ef_mks hl hc h0 h1 h2 h3 fun b hb => ?_
  refine ⟨(List.replicate N.toNat (cells z)).flatten.map Seg.one, cells_ones _, ?_⟩
  have hw : (cells z).length = E.w := by rw [hz, E.len]
  refine h _ [⟨b, _⟩] (.inr ⟨b, 0, N.toNat, T, _, by simp, by simp; omega, rfl, ?_, ?_⟩)
  · rw [width_ones]
    simp only [List.length_flatten, List.map_replicate, List.sum_replicate_nat, hw, Nat.zero_add]
    exact Nat.le_refl _
  · intro i hi j hj
    rw [List.length_replicate] at hi
    have e : (List.replicate N.toNat (cells z)).flatten = rowsCells E.w N.toNat (fun _ => cells z) := (rows_const hw).symm
    rw [cells_ones, Nat.zero_add, e, rowsCells_get2 (by omega) hj, ← hw, fit_same rfl, hz]
    simp [List.getD, List.getElem?_replicate, hi]
/-- Elements, one behind the other. -/
inductive Bs (E : El α) : List α → List Seg → Prop
  | nil : Bs E [] []
  | cons {x : α} {ys : List α} {p q : List Seg} : cells p = E.cell x → Bs E ys q → Bs E (x :: ys) (p ++ q)
theorem Bs.get {q : List Seg} (h : Bs E xs q) : width q = xs.length * E.w ∧ ∀ i, i < xs.length → ∀ j, j < E.w → (cells q)[i * E.w + j]? = (E.cell (xs.getD i E.z))[j]? := by
  induction h with
  | nil => exact ⟨by simp [width], fun i hi => by simp at hi⟩
  | @cons x ys p q hc _ ih =>
    have hp : width p = E.w := by rw [← cells_length, hc, E.len]
    refine ⟨by rw [width_append, ih.1, hp, List.length_cons, Nat.succ_mul]; omega, fun i hi j hj => ?_⟩
    rw [cells_append]
    cases i with
    | zero =>
      rw [List.getElem?_append_left (by rw [cells_length, hp]; omega), hc]
      simp
    | succ i =>
      rw [List.length_cons] at hi
      rw [List.getElem?_append_right (by rw [cells_length, hp, Nat.succ_mul]; omega), cells_length, hp, show (i + 1) * E.w + j - E.w = i * E.w + j by rw [Nat.succ_mul]; omega, ih.2 i (by omega) j hj]
      simp
theorem ef_bsO {d : Nat} {T : TypeId} {len : Nat} {z q : List Seg} {parts : List (Nat × Nat × Operand)} (hb : BdR t z parts q) (hB : Bs E xs q) (hl : xs.length = len)
    (h : ∀ v ms, OwnSl E v ms xs → K ((d, v) :: t) (ms ++ m)) : EF C m t (some d) (.bs T len E.w z parts) K := by
  subst hl
  refine ef_bs hb fun b hb' => ?_
  obtain ⟨h1, h2⟩ := hB.get
  refine h _ [⟨b, _⟩] (.inr ⟨b, 0, xs.length, T, q, rfl, Nat.le_refl _, rfl, by rw [h1]; omega, fun i hi j hj => ?_⟩)
  rw [Nat.zero_add]; exact h2 i hi j hj
/-- copy into an array of one's own. -/
theorem cellsOf_int {k : IntKind} {ys : List Int} : cellsOf (El.int k) ys = ys.map (.int k) := by
  apply List.ext_getElem?
  intro i
  by_cases hi : i < ys.length
  · have := cellsOf_get (E := El.int k) (xs := ys) (i := i) (j := 0) hi (El.int k).pos
    simp only [Nat.mul_one, Nat.add_zero] at this
    rw [this]
    simp [List.getD, List.getElem?_eq_getElem hi]
  · rw [List.getElem?_eq_none (by rw [cellsOf_length]; simp only [Nat.mul_one]; omega), List.getElem?_eq_none (by rw [List.length_map]; omega)]
theorem ef_cpyB {d : Option Nat} {x y : Operand} {b T base lo hi mz N : Nat} {s q : List Seg} {k : IntKind} {zs zs' ys : List Int} {u : Value} {m' : List Chunk} (e : zs' = wr zs lo (ys.take (hi - lo)))
    (hx : ev t x = some (.slice (some (slAddr b base lo mz 1)) (hi - lo) (mz - lo))) (hy : ev t y = some u) (hu : SrcM C m (El.int k) u ys) (hs : segAt s base = some (.ints k N zs)) (hb : lo ≤ hi ∧ hi ≤ mz ∧ mz ≤ N)
    (hq : segSet s base (.ints k N zs') = some q) (hup : Upd b (.cells (cells s).toArray T (0, 0)) (.cells (cells q).toArray T (0, 0)) m m')
    (h : K (putT d (.int .i64 (Nat.min ys.length (hi - lo) : Nat)) t) m') : EF C m t d (.cpy 1 x y) K := by
  subst e
  intro o ho hd a ha w hw
  have hS := srcV_rd hu hw
  rw [cellsOf_int] at hS
  obtain ⟨e1, e2, e3⟩ := segSet_cells hq
  have hsw := segAt_width hs
  simp only [Seg.width] at hsw e3
  have hseg : ∀ j, j < (intsCells k N zs).length → (cells s)[base + j]? = (intsCells k N zs)[j]? := fun j hj => segAt_cells hs j (by rw [intsCells_length] at hj; exact hj)
  have hlen : (ys.take (hi - lo)).length = Nat.min ys.length (hi - lo) := by rw [List.length_take]; exact Nat.min_comm _ _
  have hmin : Nat.min ys.length (hi - lo) ≤ hi - lo := Nat.min_le_right _ _
  have key : cells q = splice (cells s) (base + lo) ((ys.take (hi - lo)).map (.int k)) := by
    rw [e1]
    have hwr : intsCells k N (wr zs lo (ys.take (hi - lo))) = splice (intsCells k N zs) lo ((ys.take (hi - lo)).map (.int k)) := by
      have := wr_cells (k := k) (N := N) (i := lo) (xs := zs) (ys := ys.take (hi - lo)) (by rw [hlen]; omega)
      simpa [cells, Seg.cells] using this
    simp only [Seg.cells, hwr]
    exact splice_splice (by rw [intsCells_length, cells_length]; omega) (by rw [intsCells_length, List.length_map, hlen]; omega) hseg
  have hke : ∀ d' : Option Nat, K (putT d' (.int .i64 (Nat.min ys.length (hi - lo) : Nat)) t) m' → K (match d' with | some d => (d, .int .i64 (Nat.min ys.length (hi - lo) : Nat)) :: t | none => t) m' := by
    intro d' hk; cases d' <;> exact hk
  by_cases hc : mz = lo
  · have h0 : hi = lo := by omega
    refine ef_cpy (w := 1) (dl := hi - lo) (dc := mz - lo) (b := b) (off := base) (T := T) (segs := s) (segs' := q) (m' := m') (by rw [hx]; simp only [slAddr, hc, if_true]) hy hS (by rw [h0]; omega) ?_ hup (hke d h) o ho hd a ha w hw
    rw [key, h0]
    simp [splice]
  · refine ef_cpy (w := 1) (dl := hi - lo) (dc := mz - lo) (b := b) (off := base + lo) (T := T) (segs := s) (segs' := q) (m' := m') (by rw [hx]; simp only [slAddr, hc, if_false, Nat.mul_one]) hy hS (by omega) ?_ hup (hke d h) o ho hd a ha w hw
    rw [key]
    congr 1
    rw [← List.map_take, Nat.mul_one]
    congr 1
    apply List.ext_getElem?
    intro i
    simp only [List.getElem?_take]
    by_cases h1 : i < ys.length
    · by_cases h2 : i < hi - lo
      · rw [if_pos h2, if_pos (Nat.lt_min.2 ⟨h1, h2⟩)]
      · rw [if_neg h2, if_neg (fun h3 => h2 (Nat.lt_min.1 h3).2)]
    · rw [List.getElem?_eq_none (l := ys) (by omega)]
      split <;> split <;> rfl
theorem az {τ : Type} (f : τ → Value) {z e : τ} {op : IOp} (h : z = e) (q : Q1 C m t op (f e)) : Q1 C m t op (f z) := h ▸ q
theorem q_pickI {x y z : Operand} {c : Bool} {k : IntKind} {a b : Int} (hc : ev t x = some (.bool c)) (ha : ev t y = some (.int k a)) (hb : ev t z = some (.int k b)) : Q1 C m t (.pick x y z) (.int k (bif c then a else b)) :=
  q_pick hc (fun h => by subst h; exact ha) (fun h => by subst h; exact hb)
theorem q_pickB {x y z : Operand} {c a b : Bool} (hc : ev t x = some (.bool c)) (ha : ev t y = some (.bool a)) (hb : ev t z = some (.bool b)) : Q1 C m t (.pick x y z) (.bool (bif c then a else b)) :=
  q_pick hc (fun h => by subst h; exact ha) (fun h => by subst h; exact hb)
theorem rdcut {W : World} {lz hz : Int} (h : RdSl E W v xs) (hb : cutB lz hz xs.length = true) : RdSl E W (cutSl E.w v lz.toNat hz.toNat) ((xs.drop lz.toNat).take (hz.toNat - lz.toNat)) :=
  rd_cut (C := ⟨default, 0, W, []⟩) (m := []) (fun w hw => h.below hw.now) hb W (sat0 W)
theorem apart_cut {S : List Nat} {w lo hi n : Nat} (h : Apart v xs S) : Apart (cutSl w v lo hi) ((xs.drop lo).take n) S := by
  intro a k c e h0
  have hx : 0 < xs.length := by
    rw [List.length_take, List.length_drop] at h0
    omega
  unfold cutSl at e
  split at e
  · injection e with e; injection e with e; subst e
    rw [slAddr_block]
    exact h _ _ _ rfl hx
  · injection e with e; injection e with e; subst e
    exact h _ _ _ rfl hx
  · cases e
theorem rdcutS {W : World} {S : List Nat} {lz hz : Int} (h : RdSl E W v xs ∧ Apart v xs S) (hb : cutB lz hz xs.length = true) :
    RdSl E W (cutSl E.w v lz.toNat hz.toNat) ((xs.drop lz.toNat).take (hz.toNat - lz.toNat)) ∧ Apart (cutSl E.w v lz.toNat hz.toNat) ((xs.drop lz.toNat).take (hz.toNat - lz.toNat)) S :=
  ⟨rdcut h.1 hb, apart_cut h.2⟩
theorem cpy0 {zs' zs ys : List Int} {n : Nat} (e : zs' = wr zs 0 (ys.take n)) : zs' = wr zs 0 (ys.take (n - 0)) := e
theorem cut4 {lo hi : Int} {n : Nat} (h : cutB lo hi n = true) : 0 ≤ lo ∧ lo ≤ hi ∧ hi ≤ (n : Int) ∧ (n : Int) ≤ (n : Int) := by have := cutB_z h; omega
theorem cutn {lo hi : Int} {n : Nat} (h : cutB lo hi n = true) : lo.toNat ≤ hi.toNat ∧ hi.toNat ≤ n ∧ n ≤ n := by have := cutB_z h; omega
theorem getD_some {τ : Type} {o : Option τ} {z : τ} (h : o.isSome = true) : o = some (o.getD z) := by cases o <;> simp_all
theorem ef_stg {n : Nat} {x y : Operand} {b off : Nat} {T : TypeId} {s p q : List Seg} {m' : List Chunk} (hx : ev t x = some (.pointer (some ⟨b, off, none⟩))) (hy : ev t y = some (agg p)) (hn : width p = n) (hq : putL s off p = some q) (hsc : ∀ v ∈ cells p, one1 v = true)
    (hup : Upd b (.cells (cells s).toArray T (0, 0)) (.cells (cells q).toArray T (0, 0)) m m') (h : K t m') : EF C m t none (.st n x y) K := by
  obtain ⟨e1, e2, e3⟩ := putL_cells hq
  rw [e1] at hup
  exact ef_put hx hy (vs := cells p) (by simp [agg, Value.cells]) (by rw [cells_length]; exact hn) hup (by rw [cells_length]; omega) hsc h
theorem q_ldr0 {n : Nat} {x : Operand} {b base i w len : Nat} {T : TypeId} {fz : Nat × Nat} {s q p : List Seg} {g : Nat → List Value} (hx : ev t x = some (.pointer (some ⟨b, base + i * w, none⟩))) (hb : Has b (.cells (cells s).toArray T fz) m)
    (hs : segAt s base = some (.rows w len g)) (hi : i < len) (hq : g i = cells q) (hw : width q = w) (hp : sub q 0 n = some p) : Q1 C m t (.ld n true x) (agg p) := q_ldr (c := 0) hx hb hs hi hq hw hp
theorem q_ldr10 {x : Operand} {b base i w len : Nat} {T : TypeId} {fz : Nat × Nat} {s q : List Seg} {g : Nat → List Value} {u : Value} (hx : ev t x = some (.pointer (some ⟨b, base + i * w, none⟩))) (hb : Has b (.cells (cells s).toArray T fz) m)
    (hs : segAt s base = some (.rows w len g)) (hi : i < len) (hq : g i = cells q) (hw : width q = w) (hp : cellAt q 0 = some u) : Q1 C m t (.ld 1 false x) u := q_ldr1 (c := 0) hx hb hs hi hq hw hp
/-- A part of an array, handed out. -/
theorem own_blk_i {b T base N lo hi mz : Nat} {s : List Seg} {k : IntKind} {ys : List Int} (hs : segAt s base = some (.ints k N ys)) (h : lo ≤ hi ∧ hi ≤ mz ∧ mz ≤ N) :
    OwnSl (El.int k) (.slice (some (slAddr b base lo mz 1)) (hi - lo) (mz - lo)) [ck b T s] (tk ys lo (hi - lo)) := by
  have hw := segAt_width hs
  simp only [Seg.width] at hw
  have key : ∀ i, i < hi - lo → (cells s)[base + (lo + i)]? = some (.int k (ys.getD (lo + i) 0)) := by
    intro i hi'
    have := segAt_cells hs (lo + i) (by simp only [Seg.width]; omega)
    rw [this]
    simp only [Seg.cells]
    rw [intsCells_get (by omega)]
  by_cases hc : mz = lo
  · refine .inr ⟨b, base, mz - lo, T, s, ?_, by rw [tk_length]; omega, rfl, by simp only [Nat.mul_one]; omega, fun i hi' => ?_⟩
    · simp only [slAddr, hc, if_true, tk_length]
    · rw [tk_length] at hi'; omega
  · refine .inr ⟨b, base + lo * 1, mz - lo, T, s, ?_, by rw [tk_length]; omega, rfl, by simp only [Nat.mul_one]; omega, fun i hi' j hj => ?_⟩
    · simp only [slAddr, hc, if_false, tk_length]
    · rw [tk_length] at hi'
      obtain rfl : j = 0 := by have : j < 1 := hj; omega
      rw [tk_getD, if_pos hi']
      simp only [Nat.mul_one, Nat.add_zero]
      rw [show base + lo + i = base + (lo + i) by omega, key i hi']
      rfl

/-! ### Equality of aggregates -/
theorem eqc_cons {c1 c2 : Bool} {s s' : Seg} {r r' : List Seg} (hw : s.width = s'.width) (h1 : c1 = true ↔ s.cells = s'.cells) (h2 : c2 = true ↔ cells r = cells r') : (c1 && c2) = true ↔ cells (s :: r) = cells (s' :: r') := by
  rw [Bool.and_eq_true, h1, h2]
  simp only [cells]
  constructor
  · rintro ⟨h, h'⟩; rw [h, h']
  · intro h
    exact List.append_inj h (by rw [Seg.cells_length, Seg.cells_length, hw])
theorem eqc_last {c : Bool} {s s' : Seg} (h : c = true ↔ s.cells = s'.cells) : c = true ↔ cells [s] = cells [s'] := by
  rw [h]; simp [cells]
theorem eqc_int {k : IntKind} {a b : Int} : (a == b) = true ↔ (Seg.one (.int k a)).cells = (Seg.one (.int k b)).cells := by simp [Seg.cells]
theorem eqc_bool {a b : Bool} : (a == b) = true ↔ (Seg.one (.bool a)).cells = (Seg.one (.bool b)).cells := by simp [Seg.cells]
theorem eqc_ints {k : IntKind} {n : Nat} {a b : List Int} : ieq n a b = true ↔ (Seg.ints k n a).cells = (Seg.ints k n b).cells := by
  have := ieq_cells (k := k) (n := n) (a := a) (b := b)
  simpa [cells] using this
end

theorem Sup.app {m0 m ms : List Chunk} (h : Sup m0 m) : Sup m0 (ms ++ m) := fun _ h' => List.mem_append_right _ (h _ h')

theorem alz_same {s : Seg} {r r' : List Seg} (h : cells r = cells r') : cells (s :: r) = cells (s :: r') := by simp only [cells, h]
theorem alz_rows {α : Type} {E : El α} {n : Nat} {zc : List Value} {r r' : List Seg} (hz : zc = E.cell E.z) (h : cells r = cells r') : cells (.rows E.w n (fun _ => zc) :: r) = cells (.rows E.w n (rowE E (List.replicate n E.z)) :: r') := by
  simp only [cells, h, Seg.cells]
  congr 1
  apply rows_congr
  intro i hi
  subst hz
  simp [rowE, List.getD, List.getElem?_replicate, hi]

/-! ## Functions -/
/-- Parts of the memory: a block, or blocks that are told by a name. -/
inductive Pc where
  | one (c : Chunk)
  | all (l : List Chunk)
def appL : List Pc → List Chunk → List Chunk
  | [], m => m
  | .one c :: r, m => c :: appL r m
  | .all a :: r, m => a ++ appL r m
theorem appL_eq : ∀ (l : List Pc) (m : List Chunk), appL l [] ++ m = appL l m
  | [], m => rfl
  | .one c :: r, m => by simp only [appL, List.cons_append, appL_eq r m]
  | .all a :: r, m => by simp only [appL, List.append_assoc, appL_eq r m]
/-- As retM: the memory in parts. -/
def retS (W0 : World) (S : List Nat) (R : Value → List Pc → Prop) : Ending → World → Prop := retM W0 S fun v M => ∃ Ms, M = appL Ms [] ∧ R v Ms
section
variable {C : Cfg} {m : List Chunk} {t : TS} {K : KN}
theorem ef_callS {d : Option Nat} {f : FuncId} {args : List Operand} {vs : List Value} {mS mr : List Chunk} {R : Value → List Pc → Prop} (ha : evL t args = some vs) (hp : List.Perm (mS ++ mr) m)
    (hc : ∀ w, Sat C.W0 C.S m w → Calls C.P f vs.toArray w (retS w (mS.map (·.b)) R))
    (h : ∀ v Ms, R v Ms → K (putT d v t) (appL Ms mr)) : EF C m t d (.call f args) K :=
  ef_callM ha hp hc fun v m' ⟨Ms, e, hR⟩ => by subst e; rw [appL_eq]; exact h v Ms hR
theorem ef_callS0 {d : Option Nat} {f : FuncId} {args : List Operand} {vs : List Value} {R : Value → List Pc → Prop} (ha : evL t args = some vs)
    (hc : ∀ w, Sat C.W0 C.S m w → Calls C.P f vs.toArray w (retS w [] R))
    (h : ∀ v Ms, R v Ms → K (putT d v t) (appL Ms m)) : EF C m t d (.call f args) K :=
  ef_callF ha hc fun v m' ⟨Ms, e, hR⟩ => by subst e; rw [appL_eq]; exact h v Ms hR
end
def retT (rs : List RV) (R : Value → List Chunk → Prop) : KN := fun t m => ∃ l M, ResVs t m rs l ∧ PSub M m ∧ R (tupV l) M
theorem calls_memT {P : Program} {f : FuncId} {d : FnD} {args : List Value} {W0 : World} {S : List Nat} {m0 : List Chunk} {R : Value → List Chunk → Prop}
    (hm : P.follows .mixedOrders = true) (hok : okF P f d = true) (hlen : Nat.ble args.length d.n = true) (h0 : Sat W0 S m0 W0)
    (h : WC ⟨P, d.n, W0, S⟩ d.c (argsT 0 args) m0 (retT d.rs R) ⟨[], retT d.rs R⟩) : Calls P f args.toArray W0 (retM W0 S R) := by
  refine calls_of hm hok hlen h0 ?_
  have hsub : ∀ t m, retT d.rs R t m → retK W0 S d.rs (retM W0 S R) t m := by
    rintro t m ⟨l, M, h1, h2, h3⟩
    exact ⟨l, h1, fun w hw => ⟨_, _, rfl, h3, hw.psub h2⟩⟩
  intro hm c0 hok Q a w ha hw hc
  exact h hm c0 hok Q a w ha hw ⟨fun t m hk => hc.n t m (hsub t m hk), fun id k hk => by simp [lookK] at hk, fun t m hk => hc.r t m (hsub t m hk)⟩
end Go.Sx
/- The engine, part 17: append of noughts; parts of arrays; addresses inside a row of numbers; results that are parts of an argument. -/
namespace Go.Sx
open Go Go.RowKit
set_option linter.all false

section
variable {C : Cfg} {m : List Chunk} {t : TS} {K : KN}

theorem okOp_apz {P : Program} {o : Oper} {T : TypeId} {w bytes : Nat} {z : List Seg} {x y : Operand} (h : okOp P o (.apz T w bytes z x y) = true) :
    ∃ c t tx k, o.op = .call c ∧ c.callee = .builtin .append ∧ c.args = #[x, y] ∧ c.argTypes[0]? = some t ∧ c.argTypes[1]? = some tx ∧ P.underlying t = some (.slice T) ∧
      P.underlying tx = some (.int k) ∧ (∃ i zv, P.info? T = some i ∧ i.size = w ∧ i.bytes = bytes ∧ 0 < bytes ∧ i.zero = some zv ∧ zv.cells = (cells z).toArray) ∧ width z = w ∧ 0 < w := by
  simp only [okOp] at h
  split at h
  · rename_i c heq
    simp only [Bool.and_eq_true] at h
    obtain ⟨⟨⟨⟨⟨⟨⟨h1, h2⟩, h3⟩, h4⟩, h5⟩, h6⟩, h7⟩, h8⟩ := h
    have hargs := oeqL_sound h2
    have hc : c.callee = .builtin .append := by
      revert h1; split <;> simp_all
    cases e0 : c.argTypes[0]? with
    | none => rw [e0] at h3; simp at h3
    | some t0 =>
      cases e1 : c.argTypes[1]? with
      | none => rw [e1] at h4; simp at h4
      | some t1 =>
        rw [e0] at h3; rw [e1] at h4
        simp only [Option.bind_some] at h3 h4
        cases u0 : P.underlying t0 with
        | none => rw [u0] at h3; simp at h3
        | some d0 =>
          cases u1 : P.underlying t1 with
          | none => rw [u1] at h4; simp at h4
          | some d1 =>
            rw [u0] at h3; rw [u1] at h4
            cases d0 <;> simp at h3
            cases d1 <;> simp at h4
            rw [h3] at u0
            rename_i k
            obtain ⟨i, hi, hs, hb, hp⟩ := infoOk_spec h5
            cases hz : zOf P T with
            | none => rw [hz] at h6; simp at h6
            | some q =>
              rw [hz] at h6
              have := veqL_sound h6
              subst this
              obtain ⟨zv, hz1, hz2⟩ := zOf_spec hi hz
              exact ⟨c, t0, t1, k, heq, hc, by rw [← Array.toArray_toList (xs := c.args), hargs], e0, e1, u0, u1, ⟨i, zv, hi, hs, hb, hp, hz1, hz2⟩, by simpa [Nat.beq_eq] using h7, by simpa [Nat.blt_eq] using h8⟩
  · cases h

theorem run_apz_room {P : Program} {w w' : World} {t tx ty e : TypeId} {i : TypeInfo} {z : Value} {b off n0 cp n : Nat} {k kt : IntKind} {N : Int} {cs : List Value} (ht : P.underlying t = some (.slice e)) (hk : P.underlying tx = some (.int kt)) (hi : P.info? e = some i) (hz : i.zero = some z)
    (hN : 0 ≤ N) (hn : n = N.toNat) (hb : n * i.bytes ≤ 281474976710656 ∧ n ≤ 9223372036854775807) (hroom : n0 + n ≤ cp) (hnews : (Builtin.zeroCells z.cells n).toList = cs) (hnl : cs.length = n * i.size)
    (hst : (storeCells ⟨b, off + n0 * i.size, none⟩ cs 0).run P w = .ok () w') :
    (Builtin.append_ #[t, tx] ty #[.slice (some ⟨b, off, none⟩) n0 cp, .int k N]).run P w = .ok (.slice (some ⟨b, off, none⟩) (n0 + n) cp) w' := by
  obtain rfl : N = ((n : Nat) : Int) := by omega
  have hw : IntKind.i64.wrap (n : Int) = n := by rw [IntKind.wrap_i64]; omega
  have h1 : ¬ ((n : Int) < 0) := by omega
  have h2 : ¬ (281474976710656 < (n : Int) * (i.bytes : Int)) := by rw [← Int.natCast_mul]; omega
  by_cases h0 : n * i.size = 0
  · have : cs = [] := List.eq_nil_of_length_eq_zero (by rw [hnl, h0])
    subst this
    have hst' : w' = w := by simpa [storeCells] using hst.symm
    subst hst'
    simp [Builtin.append_, run_underlying ht, run_underlying hk, sizeOf, typeInfo, hi, asInt, asIntOf, hw, h1, h2, h0, hroom, storeCells]
  · simp [Builtin.append_, run_underlying ht, run_underlying hk, sizeOf, typeInfo, zeroValue, hz, hi, asInt, asIntOf, hw, h1, h2, h0, hroom, Addr.add_lit, hnews, hst]
theorem run_apz_grow {P : Program} {w : World} {t tx ty e : TypeId} {i : TypeInfo} {z : Value} {n : Nat} {k kt : IntKind} {N : Int} (ht : P.underlying t = some (.slice e)) (hk : P.underlying tx = some (.int kt)) (hi : P.info? e = some i) (hz : i.zero = some z)
    (hN : 0 ≤ N) (hn : n = N.toNat) (hb : n * i.bytes ≤ 281474976710656 ∧ n ≤ 9223372036854775807) (base : Option Addr) (sLen sCap : Nat) (olds : List Value)
    (hold : (Builtin.firstCells i.size sLen (.slice base sLen sCap)).run P w.drew = .ok olds.toArray w.drew) (news : List Value) (hnews : (Builtin.zeroCells z.cells n).toList = news) (h0 : ¬ (n * i.size = 0))
    (hg : sCap < sLen + n) (h63 : ((sLen + n : Nat) : Int) ≤ 9223372036854775807) (hfit : Builtin.nextslicecap (sLen + n) sCap * i.bytes ≤ 281474976710656) :
    (Builtin.append_ #[t, tx] ty #[.slice base sLen sCap, .int k N]).run P w =
      .ok (.slice (some ⟨w.heap.size, 0, none⟩) (sLen + n) (grownCap w (sLen + n) sCap e))
        (w.drew.alloc (.cells ((olds ++ news).toArray ++ Builtin.zeroCells z.cells (grownCap w (sLen + n) sCap e - (sLen + n))) e)) := by
  obtain rfl : N = ((n : Nat) : Int) := by omega
  have hw : IntKind.i64.wrap (n : Int) = n := by rw [IntKind.wrap_i64]; omega
  have h1 : ¬ ((n : Int) < 0) := by omega
  have h2 : ¬ (281474976710656 < (n : Int) * (i.bytes : Int)) := by rw [← Int.natCast_mul]; omega
  have hn' : ¬ (sLen + n ≤ sCap) := by omega
  have h63' : ¬ (9223372036854775807 < ((sLen : Int) + (n : Int))) := by omega
  have h48' : ¬ (281474976710656 < Builtin.nextslicecap (sLen + n) sCap * i.bytes) := by omega
  have e : Builtin.zeroCells z.cells n = news.toArray := by rw [← hnews]
  simp [Builtin.append_, run_underlying ht, run_underlying hk, sizeOf, typeInfo, zeroValue, hz, hi, asInt, asIntOf, hw, h1, h2, h0, hn', h63', h48', Question.forced, hold, newRow, grownCap, e]
  congr 2
  apply Array.ext'
  simp [List.append_assoc]
/-- append: onto a slice that is one's own. -/
theorem ef_apz {d : Nat} {T T' : TypeId} {w bytes : Nat} {z : List Seg} {x y : Operand} {b off n0 cp n : Nat} {ky : IntKind} {N : Int} {cs : List Value} {segs : List Seg}
    (hx : ev t x = some (.slice (some ⟨b, off, none⟩) n0 cp)) (hb : Has b (.cells (cells segs).toArray T' (0, 0)) m) (hy : ev t y = some (.int ky N)) (hN : 0 ≤ N) (hn : n = N.toNat) (hcs : cs = (List.replicate n (cells z)).flatten) (hone : ∀ u ∈ cells z, one1 u = true)
    (hfit : off + cp * w ≤ width segs) (hn0 : n0 ≤ cp) (hsz : (n0 + n) * bytes ≤ 140737488355328)
    (room : n0 + n ≤ cp → ∃ segs' m', cells segs' = splice (cells segs) (off + n0 * w) cs ∧ Upd b (.cells (cells segs).toArray T' (0, 0)) (.cells (cells segs').toArray T' (0, 0)) m m' ∧ K ((d, .slice (some ⟨b, off, none⟩) (n0 + n) cp) :: t) m')
    (grow : cp < n0 + n → ∀ b' cp', C.W0.heap.size ≤ b' → n0 + n ≤ cp' → ∃ segs', cells segs' = ((cells segs).drop off).take (n0 * w) ++ cs ++ (List.replicate (cp' - (n0 + n)) (cells z)).flatten ∧ K ((d, .slice (some ⟨b', 0, none⟩) (n0 + n) cp') :: t) (ck b' T segs' :: m)) :
    EF C m t (some d) (.apz T w bytes z x y) K := by
  intro o ho hd a ha wd hw
  obtain ⟨hd1, hd2⟩ := okD_some hd
  obtain ⟨c, ty, tx, kt, heq, hc, hargs, ht, htx, hu, hk, ⟨i, zv, hi, hsz', hby, hpos, hz1, hz2⟩, hwz, hw0⟩ := okOp_apz ho
  have hmul : (n0 + n) ≤ (n0 + n) * bytes := Nat.le_mul_of_pos_right _ hpos
  have hzl : (cells z).length = w := by rw [cells_length]; exact hwz
  have hnl : cs.length = n * w := by rw [hcs]; simp [hzl]
  have hone' : ∀ u ∈ cs, one1 u = true := by
    intro u hu'
    rw [hcs, List.mem_flatten] at hu'
    obtain ⟨l, hl, hul⟩ := hu'
    obtain ⟨_, rfl⟩ := List.mem_replicate.1 hl
    exact hone u hul
  have hnews : (Builtin.zeroCells zv.cells n).toList = cs := by rw [hz2, zeros_rep (by rw [hzl]; exact hw0), hcs]
  have hnb : n * bytes ≤ 140737488355328 := by rw [Nat.add_mul] at hsz; omega
  have hrun : ∀ {r : Result Value}, (Builtin.append_ c.argTypes o.type #[.slice (some ⟨b, off, none⟩) n0 cp, .int ky N]).run C.P wd = r → (execOp a.eval o).run C.P wd = r.andThen fun v w => .ok (.value v) w := by
    intro r hr
    simp only [execOp, heq, resolve, hc, Sem.run_bind, Sem.run_pure, Result.andThen_ok, invoke, builtin, hargs, List.map_toArray, List.map_cons, List.map_nil, ha.ev hx, ha.ev hy, hr]
  have hat : Builtin.append_ c.argTypes o.type #[.slice (some ⟨b, off, none⟩) n0 cp, .int ky N] = Builtin.append_ #[ty, tx] o.type #[.slice (some ⟨b, off, none⟩) n0 cp, .int ky N] := by
    simp [Builtin.append_, ht, htx]
  by_cases hroom : n0 + n ≤ cp
  · obtain ⟨segs', m', e1, hup, hK⟩ := room hroom
    have hle : n0 * w + n * w ≤ cp * w := by rw [← Nat.add_mul]; exact Nat.mul_le_mul_right _ hroom
    have hup' : Upd b (.cells (cells segs).toArray T' (0, 0)) (.cells (splice (cells segs) (off + n0 * w + 0) cs).toArray T' (0, 0)) m m' := by rw [Nat.add_zero, ← e1]; exact hup
    obtain ⟨w', hst, hw'⟩ := run_storeCells (P := C.P) cs (off + n0 * w) 0 (cells segs) m m' wd hw hup' (by rw [cells_length, hnl]; omega) hone'
    have hr : (Builtin.append_ #[ty, tx] o.type #[.slice (some ⟨b, off, none⟩) n0 cp, .int ky N]).run C.P wd = .ok (.slice (some ⟨b, off, none⟩) (n0 + n) cp) w' := by
      subst hsz'
      exact run_apz_room (k := ky) hu hk hi hz1 hN hn (by rw [hby]; omega) hroom hnews hnl hst
    rw [← hat] at hr
    have h2 := hrun hr
    unfold Oper.wp
    rw [h2, Result.andThen_ok]
    simp only [Oper.upon]
    exact ⟨_, m', hK, hd1 ▸ ha.put hd2 _, hw'⟩
  · have hg : cp < n0 + n := by omega
    have hold : (Builtin.firstCells i.size n0 (.slice (some ⟨b, off, none⟩) n0 cp)).run C.P wd.drew = .ok (((cells segs).drop off).take (n0 * i.size)).toArray wd.drew := by
      have hle : n0 * w ≤ cp * w := Nat.mul_le_mul_right _ hn0
      have := run_first (P := C.P) (w := wd.drew) (b := b) (off := off) (size := w) (n := n0) (l := n0) (c := cp) (cs := ((cells segs).drop off).take (n0 * w)) (by simp [cells_length]; omega) (fun i hi => by
        rw [cells_load ((show Sat C.W0 C.S m wd.drew from hw.drew).own _ hb.mem), List.getElem?_take_of_lt hi, List.getElem?_drop]) (Nat.le_refl n0)
      rw [hsz', this, List.take_take, Nat.min_self]
    have hfit' : Builtin.nextslicecap (n0 + n) cp * i.bytes ≤ 281474976710656 := by rw [hby]; exact growslice_fits hg hsz
    have hr := run_apz_grow (k := ky) (P := C.P) (w := wd) (t := ty) (tx := tx) (ty := o.type) (e := T) (i := i) (z := zv) hu hk hi hz1 hN hn (by rw [hby]; omega) (some ⟨b, off, none⟩) n0 cp _ hold cs hnews (by rw [hsz']; exact Nat.pos_iff_ne_zero.1 (Nat.mul_pos (by omega) hw0)) hg (by omega) hfit'
    rw [← hat] at hr
    have h2 := hrun hr
    unfold Oper.wp
    rw [h2, Result.andThen_ok]
    simp only [Oper.upon]
    have hge := grownCap_ge wd (n0 + n) cp T
    obtain ⟨segs', e1, hK⟩ := grow hg wd.heap.size (grownCap wd (n0 + n) cp T) hw.fr.size hge
    refine ⟨_, _, hK, hd1 ▸ ha.put hd2 _, ?_⟩
    have ha2 := hw.drew.alloc (.cells ((((cells segs).drop off).take (n0 * i.size) ++ cs).toArray ++ Builtin.zeroCells zv.cells (grownCap wd (n0 + n) cp T - (n0 + n))) T)
    have e2 : ((((cells segs).drop off).take (n0 * i.size) ++ cs).toArray ++ Builtin.zeroCells zv.cells (grownCap wd (n0 + n) cp T - (n0 + n))) = (cells segs').toArray := by
      rw [e1, hsz', hz2]
      apply Array.ext'
      rw [Array.toList_append, zeros_rep (by rw [cells_length, hwz]; exact hw0)]
    rw [e2]
    rw [e2] at ha2
    exact ha2

/-- append: onto nil. -/
theorem ef_apz0 {d : Nat} {T : TypeId} {w bytes : Nat} {z : List Seg} {x y : Operand} {n : Nat} {ky : IntKind} {N : Int} {cs : List Value}
    (hx : ev t x = some (.slice none 0 0)) (hy : ev t y = some (.int ky N)) (hN : 0 ≤ N) (hn : n = N.toNat) (hcs : cs = (List.replicate n (cells z)).flatten) (hone : ∀ u ∈ cells z, one1 u = true) (hsz : n * bytes ≤ 140737488355328)
    (none_ : n = 0 → K ((d, .slice none 0 0) :: t) m)
    (grow : 0 < n → ∀ b' cp', C.W0.heap.size ≤ b' → n ≤ cp' → ∃ segs', cells segs' = cs ++ (List.replicate (cp' - n) (cells z)).flatten ∧ K ((d, .slice (some ⟨b', 0, none⟩) n cp') :: t) (ck b' T segs' :: m)) :
    EF C m t (some d) (.apz T w bytes z x y) K := by
  intro o ho hd a ha wd hw
  obtain ⟨hd1, hd2⟩ := okD_some hd
  obtain ⟨c, ty, tx, kt, heq, hc, hargs, ht, htx, hu, hk, ⟨i, zv, hi, hsz', hby, hpos, hz1, hz2⟩, hwz, hw0⟩ := okOp_apz ho
  have hmul : n ≤ n * bytes := Nat.le_mul_of_pos_right _ hpos
  have hzl : (cells z).length = w := by rw [cells_length]; exact hwz
  have hnl : cs.length = n * w := by rw [hcs]; simp [hzl]
  have hone' : ∀ u ∈ cs, one1 u = true := by
    intro u hu'
    rw [hcs, List.mem_flatten] at hu'
    obtain ⟨l, hl, hul⟩ := hu'
    obtain ⟨_, rfl⟩ := List.mem_replicate.1 hl
    exact hone u hul
  have hnews : (Builtin.zeroCells zv.cells n).toList = cs := by rw [hz2, zeros_rep (by rw [hzl]; exact hw0), hcs]
  have hnb : n * bytes ≤ 140737488355328 := hsz
  have hrun : ∀ {r : Result Value}, (Builtin.append_ c.argTypes o.type #[.slice none 0 0, .int ky N]).run C.P wd = r → (execOp a.eval o).run C.P wd = r.andThen fun v w => .ok (.value v) w := by
    intro r hr
    simp only [execOp, heq, resolve, hc, Sem.run_bind, Sem.run_pure, Result.andThen_ok, invoke, builtin, hargs, List.map_toArray, List.map_cons, List.map_nil, ha.ev hx, ha.ev hy, hr]
  have hat : Builtin.append_ c.argTypes o.type #[.slice none 0 0, .int ky N] = Builtin.append_ #[ty, tx] o.type #[.slice none 0 0, .int ky N] := by
    simp [Builtin.append_, ht, htx]
  by_cases hroom : n = 0
  · have hK := none_ hroom
    have hr : (Builtin.append_ #[ty, tx] o.type #[.slice none 0 0, .int ky N]).run C.P wd = .ok (.slice none 0 0) wd := by
      subst hsz'
      have hN0 : N = 0 := by omega
      have hw : IntKind.i64.wrap 0 = 0 := by decide
      subst hN0
      simp [Builtin.append_, run_underlying hu, run_underlying hk, sizeOf, typeInfo, hi, asInt, asIntOf, hw]
    rw [← hat] at hr
    have h2 := hrun hr
    unfold Oper.wp
    rw [h2, Result.andThen_ok]
    simp only [Oper.upon]
    exact ⟨_, m, hK, hd1 ▸ ha.put hd2 _, hw⟩
  · have hg : 0 < 0 + n := by omega
    have hold : (Builtin.firstCells i.size 0 (.slice none 0 0)).run C.P wd.drew = .ok ([] : List Value).toArray wd.drew := by simpa using run_firstCells_none (P := C.P) wd.drew i.size 0 0 0
    have hfit' : Builtin.nextslicecap (0 + n) 0 * i.bytes ≤ 281474976710656 := by rw [hby]; exact growslice_fits hg (by simpa using hsz)
    have hr := run_apz_grow (k := ky) (P := C.P) (w := wd) (t := ty) (tx := tx) (ty := o.type) (e := T) (i := i) (z := zv) hu hk hi hz1 hN hn (by rw [hby]; omega) none 0 0 _ hold cs hnews (by rw [hsz']; exact Nat.pos_iff_ne_zero.1 (Nat.mul_pos (by omega) hw0)) hg (by omega) hfit'
    simp only [Nat.zero_add, List.nil_append] at hr
    rw [← hat] at hr
    have h2 := hrun hr
    unfold Oper.wp
    rw [h2, Result.andThen_ok]
    simp only [Oper.upon]
    have hge := grownCap_ge wd n 0 T
    obtain ⟨segs', e1, hK⟩ := grow (by omega) wd.heap.size (grownCap wd n 0 T) hw.fr.size hge
    refine ⟨_, _, hK, hd1 ▸ ha.put hd2 _, ?_⟩
    have ha2 := hw.drew.alloc (.cells (cs.toArray ++ Builtin.zeroCells zv.cells (grownCap wd n 0 T - n)) T)
    have e2 : (cs.toArray ++ Builtin.zeroCells zv.cells (grownCap wd n 0 T - n)) = (cells segs').toArray := by
      rw [e1, hz2]
      apply Array.ext'
      rw [Array.toList_append, zeros_rep (by rw [cells_length, hwz]; exact hw0)]
    rw [e2]
    rw [e2] at ha2
    exact ha2
end

section
variable {α : Type} {C : Cfg} {m : List Chunk} {t : TS} {K : KN} {E : El α} {v : Value} {xs : List α}
/-- append onto a slice of one's own. -/
theorem ef_apzO {d : Nat} {T : TypeId} {bytes : Nat} {z : List Seg} {x y : Operand} {ms mr : List Chunk} {ky : IntKind} {N : Int} {xs' : List α} (e : xs' = xs ++ List.replicate N.toNat E.z) (hx : ev t x = some v) (hO : OwnSl E v ms xs) (hT : Take ms m mr) (hy : ev t y = some (.int ky N)) (hN : decide (0 ≤ N) = true) (hz : cells z = E.cell E.z)
    (hsz : decide ((xs.length + N.toNat) * bytes ≤ 140737488355328) = true) (h : ∀ v' ms', OwnSl E v' ms' xs' → K ((d, v') :: t) (ms' ++ mr)) : EF C m t (some d) (.apz T E.w bytes z x y) K := by
  subst e
  have hsz := of_decide_eq_true hsz
  intro o ho hd a ha w hw
  have hN := of_decide_eq_true hN
  have hzw : width z = E.w := by rw [← cells_length, hz, E.len]
  have hone : ∀ u ∈ cells z, one1 u = true := by rw [hz]; exact E.one _
  generalize hys : List.replicate N.toNat E.z = ys
  rw [hys] at h
  have hyl : ys.length = N.toNat := by rw [← hys, List.length_replicate]
  have hcs : cellsOf E ys = (List.replicate ys.length (cells z)).flatten := by
    rw [hyl, ← rows_const (w := E.w) (by rw [cells_length]; exact hzw), cellsOf, hyl]
    apply rows_congr
    intro i hi
    simp only [rowE]
    rw [← hys, hz]
    simp [List.getD, List.getElem?_replicate, hi]
  rw [← hyl] at hsz
  refine EF.perm hT.perm (EF.less (?_ : EF C (ms ++ mr) t (some d) (.apz T E.w bytes z x y) _)) o ho hd a ha w hw
  rcases hO with ⟨h1, h2, h3⟩ | ⟨b, o1, cp, T', cs, h1, h2, h3, h4, h5⟩
  · subst h1; subst h2; subst h3
    refine ef_apz0 hx hy hN hyl hcs hone (by simpa using hsz) (fun h0 => ?_) (fun h0 b' cp' hb' hc' => ?_)
    · have hys : ys = [] := List.eq_nil_of_length_eq_zero h0
      subst hys
      exact ⟨_, h _ _ own_nil, List.Sublist.refl _⟩
    · refine ⟨(cellsOf E ys ++ (List.replicate (cp' - ys.length) (cells z)).flatten).map Seg.one, cells_ones _, ?_⟩
      refine ⟨_, h _ [⟨b', _⟩] (.inr ⟨b', 0, cp', T, _, by simp, by simpa using hc', rfl, ?_, ?_⟩), List.Sublist.refl _⟩
      · rw [width_ones, List.length_append, cellsOf_length]
        simp only [List.length_flatten, List.map_replicate, List.sum_replicate_nat, cells_length, hzw, Nat.zero_add]
        rw [← Nat.add_mul]
        exact Nat.mul_le_mul_right _ (by omega)
      · intro i hi j hj
        simp only [List.nil_append] at hi ⊢
        have : i * E.w + E.w ≤ ys.length * E.w := by rw [← Nat.succ_mul]; exact Nat.mul_le_mul_right _ hi
        rw [cells_ones, Nat.zero_add, List.getElem?_append_left (by rw [cellsOf_length]; omega), cellsOf_get hi hj]
  · subst h1; subst h3
    refine ef_apz hx Has.here hy hN hyl hcs hone h4 h2 hsz (fun hr => ?_) (fun hg b' cp' hb' hc' => ?_)
    · have hle : (xs.length + ys.length) * E.w ≤ cp * E.w := Nat.mul_le_mul_right _ hr
      rw [Nat.add_mul] at hle
      have hin : o1 + xs.length * E.w + (cellsOf E ys).length ≤ (cells cs).length := by rw [cellsOf_length, cells_length]; omega
      refine ⟨(splice (cells cs) (o1 + xs.length * E.w) (cellsOf E ys)).map Seg.one, [⟨b, .cells (cells ((splice (cells cs) (o1 + xs.length * E.w) (cellsOf E ys)).map Seg.one)).toArray T' (0, 0)⟩] ++ mr, cells_ones _, Upd.here, ?_⟩
      refine ⟨_, h _ _ (.inr ⟨b, o1, cp, T', _, by simp, by simpa using hr, rfl, ?_, ?_⟩), List.Sublist.refl _⟩
      · rw [width_ones, splice, List.length_append, List.length_append, List.length_take, List.length_drop]
        rw [cells_length] at hin ⊢; omega
      · intro i hi j hj
        rw [cells_ones, splice_get hin, cellsOf_length]
        rw [List.length_append] at hi
        by_cases hil : i < xs.length
        · have : i * E.w + E.w ≤ xs.length * E.w := by rw [← Nat.succ_mul]; exact Nat.mul_le_mul_right _ hil
          rw [if_neg (by omega), getD_app1 hil, h5 i hil j hj]
        · have e1 : i * E.w = xs.length * E.w + (i - xs.length) * E.w := by rw [← Nat.add_mul]; congr 1; omega
          have : (i - xs.length) * E.w + E.w ≤ ys.length * E.w := by rw [← Nat.succ_mul]; exact Nat.mul_le_mul_right _ (by omega)
          rw [if_pos (by omega), getD_app2 (by omega), show o1 + (i * E.w + j) - (o1 + xs.length * E.w) = (i - xs.length) * E.w + j by omega, cellsOf_get (by omega) hj]
    · have hle : xs.length * E.w ≤ cp * E.w := Nat.mul_le_mul_right _ h2
      have hl1 : (((cells cs).drop o1).take (xs.length * E.w)).length = xs.length * E.w := by rw [List.length_take, List.length_drop, cells_length]; omega
      refine ⟨(((cells cs).drop o1).take (xs.length * E.w) ++ cellsOf E ys ++ (List.replicate (cp' - (xs.length + ys.length)) (cells z)).flatten).map Seg.one, cells_ones _, ?_⟩
      refine ⟨_, h _ [⟨b', _⟩] (.inr ⟨b', 0, cp', T, _, by simp, by simpa using hc', rfl, ?_, ?_⟩), List.Sublist.cons₂ _ (List.sublist_cons_self _ _)⟩
      · rw [width_ones, List.length_append, List.length_append, hl1, cellsOf_length]
        simp only [List.length_flatten, List.map_replicate, List.sum_replicate_nat, cells_length, hzw, Nat.zero_add]
        rw [← Nat.add_mul, ← Nat.add_mul]
        exact Nat.mul_le_mul_right _ (by omega)
      · intro i hi j hj
        rw [List.length_append] at hi
        rw [cells_ones, Nat.zero_add]
        by_cases hil : i < xs.length
        · have : i * E.w + E.w ≤ xs.length * E.w := by rw [← Nat.succ_mul]; exact Nat.mul_le_mul_right _ hil
          rw [List.append_assoc, List.getElem?_append_left (by rw [hl1]; omega), List.getElem?_take_of_lt (by omega), List.getElem?_drop, h5 i hil j hj, getD_app1 hil]
        · have e1 : i * E.w = xs.length * E.w + (i - xs.length) * E.w := by rw [← Nat.add_mul]; congr 1; omega
          have : (i - xs.length) * E.w + E.w ≤ ys.length * E.w := by rw [← Nat.succ_mul]; exact Nat.mul_le_mul_right _ (by omega)
          rw [List.append_assoc, List.getElem?_append_right (by rw [hl1]; omega), hl1, List.getElem?_append_left (by rw [cellsOf_length]; omega), getD_app2 (by omega), show i * E.w + j - xs.length * E.w = (i - xs.length) * E.w + j by omega, cellsOf_get (by omega) hj]

/-- An element of an array of rows that are told by their numbers. -/
theorem q_idxf {len w : Nat} {x i : Operand} {k k' : IntKind} {ys : List Int} {z : Int} (h : ev t x = some (agg [.ints k (len * w) ys])) (hi : ev t i = some (.int k' z)) (hz : 0 ≤ z ∧ z < len) :
    Q1 C m t (.idx len w true x i) (agg [.ints k w (tk ys (z.toNat * w) w)]) := by
  intro o ho a ha wd hw
  obtain ⟨T, e, heq, hu, hs, hag⟩ := okOp_idx ho
  refine quiet_val ?_
  simp only [execOp, heq, ha.ev h, ha.ev hi]
  refine run_v ?_
  simp only [Instr.index, agg, asIntOf, Sem.run_bind, Sem.run_pure, run_underlying hu, Result.andThen_ok, hz, and_self, if_true, run_sizeOf hs]
  refine run_part hs hag (fun _ => ?_) (fun h => by cases h)
  congr 2
  have hlt : z.toNat < len := by omega
  have hle : z.toNat * w + w ≤ len * w := by rw [← Nat.succ_mul]; exact Nat.mul_le_mul_right w hlt
  simp only [cells, Seg.cells, List.append_nil]
  rw [ints_part (by omega)]
  rw [ints_tk, tk_all (tk_length _ _ _)]
/-- Is a slice's value nil? -/
def isNilV : Value → Bool
  | .slice none _ _ => true
  | _ => false
theorem q_isnM {neg : Bool} {x : Operand} {c : Bool} (hx : ev t x = some v) (hs : SrcM C m E v xs) (hc : isNilV v = c) : Q1 C m t (.isn neg x) (.bool (bif neg then !c else c)) := by
  subst hc
  intro o ho a ha w hw
  rcases hs w hw with ⟨h1, h2⟩ | ⟨b, o1, cp, h1, h2, h3⟩ | ⟨a3, h1, h2⟩
  · subst h1; exact q_isn hx o ho a ha w hw
  · subst h1; exact q_isn hx o ho a ha w hw
  · subst h1; exact q_isn hx o ho a ha w hw
theorem rd_view {β : Type} {E' : El β} {v' : Value} {ys : List β} (h : ∀ W, RdSl E' W v' ys → RdSl E W v xs) (hs : SrcM C m E' v' ys) : SrcM C m E v xs := fun w hw => h w (hs w hw)
theorem view_nil {β : Type} {E' : El β} {v' : Value} {ys : List β} : ∀ W, RdSl E' W v' ys → RdSl E W (.slice none 0 0) [] := fun _ _ => rd_nil
/-- A number at an address that is told from without. -/
theorem q_ldxz {x : Operand} {b p base i len : Nat} {T : TypeId} {fz : Nat × Nat} {s : List Seg} {k : IntKind} {ys : List Int} {z : Int} (e : z = ys.getD i 0) (hx : ev t x = some (.pointer (some ⟨b, p, none⟩))) (hb : Has b (.cells (cells s).toArray T fz) m)
    (hs : segAt s base = some (.ints k len ys)) (hp : p = base + i) (hi : decide (i < len) = true) : Q1 C m t (.ld 1 false x) (.int k z) := e ▸ q_ldx hx hb hs hp (of_decide_eq_true hi)
theorem ef_stxz {x y : Operand} {b p base i len : Nat} {T : TypeId} {s q : List Seg} {k : IntKind} {ys ys' : List Int} {z : Int} {m' : List Chunk} (e : ys' = setD ys i z) (hx : ev t x = some (.pointer (some ⟨b, p, none⟩))) (hy : ev t y = some (.int k z))
    (hs : segAt s base = some (.ints k len ys)) (hp : p = base + i) (hi : decide (i < len) = true) (hq : segSet s base (.ints k len ys') = some q)
    (hup : Upd b (.cells (cells s).toArray T (0, 0)) (.cells (cells q).toArray T (0, 0)) m m') (h : K t m') : EF C m t none (.st 1 x y) K := by
  subst e; exact ef_stx hx hy hs hp (of_decide_eq_true hi) hq hup h
def addOk (x y c : Int) : Bool := decide (0 ≤ x) && decide (0 ≤ y) && decide (0 ≤ c) && decide (c ≤ 1)
def addLo (x y c : Int) : Int := (x + y + c) % 18446744073709551616
def addHi (x y c : Int) : Int := (x + y + c) / 18446744073709551616
theorem xadd {P : Program} {x y c l h : Int} (hl : l = addLo x y c) (hh : h = addHi x y c) (hk : addOk x y c = true) (w : World) : (add64Entry #[.int .u64 x, .int .u64 y, .int .u64 c]).run P w = .ok (.tuple #[.int .u64 l, .int .u64 h]) w := by
  subst hl; subst hh
  simp [addOk] at hk
  exact run_add64 x y c hk.1.1.1 hk.1.1.2 hk.1.2 hk.2 w
def subOk (x y c : Int) : Bool := decide (0 ≤ x) && decide (0 ≤ y) && decide (y < 18446744073709551616) && decide (0 ≤ c) && decide (c ≤ 1)
def subLo (x y c : Int) : Int := (x - y - c) % 18446744073709551616
def subHi (x y c : Int) : Int := if x < y + c then 1 else 0
theorem xsub {P : Program} {x y c l h : Int} (hl : l = subLo x y c) (hh : h = subHi x y c) (hk : subOk x y c = true) (w : World) : (sub64Entry #[.int .u64 x, .int .u64 y, .int .u64 c]).run P w = .ok (.tuple #[.int .u64 l, .int .u64 h]) w := by
  subst hl; subst hh
  simp [subOk] at hk
  exact run_sub64 x y c hk.1.1.1.1 hk.1.1.1.2 hk.1.1.2 hk.1.2 hk.2 w
theorem rd_notnil {W : World} (h : RdSl E W v xs) (h0 : decide (0 < xs.length) = true) : isNilV v = false := by
  have h0 := of_decide_eq_true h0
  rcases h with ⟨_, h2⟩ | ⟨b, o1, cp, h1, _, _⟩ | ⟨_, _, h2⟩
  · subst h2; simp at h0
  · subst h1; rfl
  · subst h2; simp at h0
/-- Slices as values. -/
def IsSl (v : Value) : Prop := ∃ a n c, v = .slice a n c
theorem RdSl.isSl {W : World} (h : RdSl E W v xs) : IsSl v := by
  rcases h with ⟨h1, _⟩ | ⟨b, o, cp, h1, _, _⟩ | ⟨_, h1, _⟩
  · exact ⟨_, _, _, h1⟩
  · exact ⟨_, _, _, h1⟩
  · exact ⟨_, _, _, h1⟩
theorem OwnSl.isSl {ms : List Chunk} (h : OwnSl E v ms xs) : IsSl v := by
  rcases h with ⟨h1, _⟩ | ⟨b, o, cp, _, _, h1, _⟩
  · exact ⟨_, _, _, h1⟩
  · exact ⟨_, _, _, h1⟩
theorem cut_isSl {w : Nat} {u : Value} {lo hi : Nat} : IsSl (cutSl w u lo hi) := by
  unfold cutSl; split <;> exact ⟨_, _, _, rfl⟩
theorem IsSl.cells {u : Value} (h : IsSl u) : u.cells = #[u] := by obtain ⟨a, n, c, rfl⟩ := h; rfl
theorem IsSl.one {u : Value} (h : IsSl u) : one1 u = true := by obtain ⟨a, n, c, rfl⟩ := h; rfl
abbrev SlT := Option Addr × Nat × Nat
def slV (x : SlT) : Value := .slice x.1 x.2.1 x.2.2
def unS : Value → SlT
  | .slice a n c => (a, n, c)
  | _ => (none, 0, 0)
theorem slV_un {u : Value} (h : IsSl u) : slV (unS u) = u := by obtain ⟨a, n, c, rfl⟩ := h; rfl
abbrev El.sl : El SlT := ⟨1, fun x => [slV x], fun _ => rfl, fun _ v h => by simp at h; subst h; rfl, by decide, (none, 0, 0)⟩
theorem sl_cell {u : Value} (h : IsSl u) : Go.Sx.cells [.one u] = El.sl.cell (unS u) := by simp only [Go.Sx.cells, Seg.cells]; rw [slV_un h]; rfl
/-- Each of these slices reads as its list. -/
inductive RdAll (E : El α) (W : World) : List SlT → List (List α) → Prop
  | nil : RdAll E W [] []
  | cons {u : SlT} {us : List SlT} {ys : List α} {yss : List (List α)} : RdSl E W (slV u) ys → RdAll E W us yss → RdAll E W (u :: us) (ys :: yss)
theorem RdAll.len {W : World} {us : List SlT} {yss : List (List α)} (h : RdAll E W us yss) : us.length = yss.length := by
  induction h with
  | nil => rfl
  | cons _ _ ih => simp [ih]
theorem RdAll.get {W : World} {us : List SlT} {yss : List (List α)} (h : RdAll E W us yss) : ∀ i, i < yss.length → RdSl E W (slV (us.getD i (none, 0, 0))) (yss.getD i []) := by
  induction h with
  | nil => intro i hi; simp at hi
  | cons h1 _ ih =>
    intro i hi
    cases i with
    | zero => simpa using h1
    | succ i => simpa using ih i (by simpa using hi)
theorem RdAll.still {W w : World} {us : List SlT} {yss : List (List α)} (h : RdAll E W us yss) (hb : Below W.heap.size W w) : RdAll E w us yss := by
  induction h with
  | nil => exact .nil
  | cons h1 _ ih => exact .cons (h1.below hb) ih
theorem rd_unS {W : World} {u : Value} (h : RdSl E W u xs) : RdSl E W (slV (unS u)) xs := by rw [slV_un h.isSl]; exact h
theorem all_len {W : World} {us : List SlT} {yss : List (List α)} (h : RdAll E W us yss) {z : Int} (hz : inB z yss.length = true) : inB z us.length = true := by rw [h.len]; exact hz
theorem all_cut {lo hi : Int} {W : World} {us : List SlT} {yss : List (List α)} (h : RdAll E W us yss) (hz : cutB lo hi yss.length = true) : cutB lo hi us.length = true := by rw [h.len]; exact hz
theorem len_nl {W : World} {us : List SlT} {yss : List (List α)} {op : IOp} (q : Q1 C m t op (.int .i64 us.length)) (h : RdAll E W us yss) : Q1 C m t op (.int .i64 yss.length) := by rw [← h.len]; exact q
/-- A slice of so many elements. -/
def Shp (v : Value) (n : Nat) : Prop := (v = .slice none 0 0 ∧ n = 0) ∨ (∃ b o cp, v = .slice (some ⟨b, o, none⟩) n cp ∧ n ≤ cp) ∨ ∃ a, v = .slice (some a) 0 0 ∧ n = 0
theorem Shp.rd {W : World} (h : RdSl E W v xs) : Shp v xs.length := by
  rcases h with ⟨h1, h2⟩ | ⟨b, o, cp, h1, h2, _⟩ | ⟨a3, h1, h2⟩
  · exact .inl ⟨h1, by rw [h2]; rfl⟩
  · exact .inr (.inl ⟨b, o, cp, h1, h2⟩)
  · exact .inr (.inr ⟨a3, h1, by rw [h2]; rfl⟩)
theorem Shp.own {ms : List Chunk} (h : OwnSl E v ms xs) : Shp v xs.length := by
  rcases h with ⟨h1, h2, _⟩ | ⟨b, o, cp, _, _, h1, h2, _⟩
  · exact .inl ⟨h1, by rw [h2]; rfl⟩
  · exact .inr (.inl ⟨b, o, cp, h1, h2⟩)
theorem Shp.nil : Shp (.slice none 0 0) 0 := .inl ⟨rfl, rfl⟩
theorem Shp.blk {b base lo hi mz w n : Nat} (h : lo ≤ hi ∧ hi ≤ mz) (hn : n = hi - lo) : Shp (.slice (some (slAddr b base lo mz w)) (hi - lo) (mz - lo)) n := by
  subst hn
  unfold slAddr
  split
  · exact .inr (.inl ⟨_, _, _, rfl, by omega⟩)
  · exact .inr (.inl ⟨_, _, _, rfl, by omega⟩)
theorem Shp.cut {w : Nat} {lz hz : Int} (h : Shp v xs.length) (hb : cutB lz hz xs.length = true) : Shp (cutSl w v lz.toNat hz.toNat) ((xs.drop lz.toNat).take (hz.toNat - lz.toNat)).length := by
  have hb := cutB_z hb
  have hlen : ((xs.drop lz.toNat).take (hz.toNat - lz.toNat)).length = hz.toNat - lz.toNat := by rw [List.length_take, List.length_drop]; omega
  rw [hlen]
  rcases h with ⟨h1, h2⟩ | ⟨b, o, cp, h1, h2⟩ | ⟨a3, h1, h2⟩
  · subst h1; exact .inl ⟨rfl, by omega⟩
  rotate_left 1
  · subst h1
    have e1 : lz.toNat = 0 := by omega
    have e2 : hz.toNat = 0 := by omega
    rw [e1, e2, cutSl_odd]
    exact .inr (.inr ⟨a3, rfl, rfl⟩)
  · subst h1
    simp only [cutSl]
    exact Shp.blk (by omega) rfl
theorem Shp.isSl {n : Nat} (h : Shp v n) : IsSl v := by
  rcases h with ⟨h1, _⟩ | ⟨b, o, cp, h1, _⟩ | ⟨_, h1, _⟩
  · exact ⟨_, _, _, h1⟩
  · exact ⟨_, _, _, h1⟩
  · exact ⟨_, _, _, h1⟩
theorem Shp.notnil {n : Nat} (h : Shp v n) (h0 : decide (0 < n) = true) : isNilV v = false := by
  have h0 := of_decide_eq_true h0
  rcases h with ⟨_, h2⟩ | ⟨b, o1, cp, h1, _⟩ | ⟨_, _, h2⟩
  · omega
  · subst h1; rfl
  · omega
theorem q_lenP {x : Operand} {n : Nat} (hx : ev t x = some v) (h : Shp v n) : Q1 C m t (.len x) (.int .i64 n) := by
  rcases h with ⟨h1, h2⟩ | ⟨b, o1, cp, h1, h2⟩ | ⟨a3, h1, h2⟩
  · subst h1; subst h2; exact q_len hx
  rotate_left 1
  · subst h1; subst h2; exact q_len hx
  · subst h1; exact q_len hx
theorem q_iasP {w n : Nat} {x i : Operand} {k : IntKind} {z : Int} (hx : ev t x = some v) (hi : ev t i = some (.int k z)) (h : Shp v n) (hz : inB z n = true) :
    Q1 C m t (.ias w x i) (.pointer (some ⟨(slBase v).block, (slBase v).off + z.toNat * w, none⟩)) := by
  have hz' := inB_z hz
  rcases h with ⟨h1, h2⟩ | ⟨b, o1, cp, h1, h2⟩ | ⟨_, _, h2⟩
  · omega
  rotate_left 1
  · omega
  · subst h1; exact q_ias hx hi hz'
theorem q_s2aP {n k : Nat} {x : Operand} (hx : ev t x = some v) (h : Shp v k) (h0 : 0 < n) (hn : decide (n ≤ k) = true) : Q1 C m t (.s2a n x) (.pointer (some ⟨(slBase v).block, (slBase v).off, none⟩)) := by
  have hn := of_decide_eq_true hn
  rcases h with ⟨h1, h2⟩ | ⟨b, o1, cp, h1, h2⟩ | ⟨_, _, h2⟩
  · omega
  rotate_left 1
  · omega
  · subst h1; exact q_s2a hx hn
theorem q_slsP {w n : Nat} {x : Operand} {lo hi : Option Operand} {lz hz : Int} (hx : ev t x = some v) (h : Shp v n) (hl : OptI t 0 lo lz) (hh : OptI t n hi hz) (hb : cutB lz hz n = true) :
    Q1 C m t (.sls w x lo hi none) (cutSl w v lz.toNat hz.toNat) := by
  have hb := cutB_z hb
  rcases h with ⟨h1, h2⟩ | ⟨b, o1, cp, h1, h2⟩ | ⟨a3, h1, h2⟩
  · subst h1; subst h2
    exact q_sls0 (mz := 0) hx hl hh .no (by simp) (by omega)
  rotate_left 1
  · subst h1; subst h2
    have e1 : lz.toNat = 0 := by omega
    have e2 : hz.toNat = 0 := by omega
    rw [e1, e2, cutSl_odd]
    exact q_slsE hx hl hh (by omega)
  · subst h1
    have := q_sls (C := C) (m := m) (w := w) (mz := cp) hx hl hh .no (by simp) (by omega)
    simpa [cutSl] using this
theorem q_isnP {neg : Bool} {x : Operand} {c : Bool} {n : Nat} (hx : ev t x = some v) (h : Shp v n) (hc : isNilV v = c) : Q1 C m t (.isn neg x) (.bool (bif neg then !c else c)) := by
  subst hc
  rcases h with ⟨h1, h2⟩ | ⟨b, o1, cp, h1, h2⟩ | ⟨a3, h1, h2⟩
  · subst h1; exact q_isn hx
  · subst h1; exact q_isn hx
  · subst h1; exact q_isn hx
theorem len_nlP {n k : Nat} {op : IOp} (q : Q1 C m t op (.int .i64 n)) (h : n = k) : Q1 C m t op (.int .i64 k) := h ▸ q
theorem RdAll.app {W : World} {us us' : List SlT} {yss yss' : List (List α)} (h : RdAll E W us yss) (h' : RdAll E W us' yss') : RdAll E W (us ++ us') (yss ++ yss') := by
  induction h with
  | nil => exact h'
  | cons h1 _ ih => exact .cons h1 ih
/-- Data with the values that stand for a part of them. -/
def zipG {τ ω : Type} (z : τ) (zz : ω) (ys : List τ) (us : List ω) : List (τ × ω) := (List.range ys.length).map fun i => (ys.getD i z, us.getD i zz)
theorem zipG_len {τ ω : Type} {z : τ} {zz : ω} {ys : List τ} {us : List ω} : (zipG z zz ys us).length = ys.length := by simp [zipG]
theorem zipG_b {τ ω : Type} {z : τ} {zz : ω} {ys : List τ} {us : List ω} {i : Int} (h : inB i ys.length = true) : inB i (zipG z zz ys us).length = true := by rw [zipG_len]; exact h
theorem zipG_n {τ ω : Type} {z : τ} {zz : ω} {ys : List τ} {us : List ω} {i : Int} (h : inB i ys.length = true) : i.toNat < (zipG z zz ys us).length := by rw [zipG_len]; exact inB_n h
theorem zipG_cell {τ ω : Type} {E : El (τ × ω)} {z : τ} {zz : ω} {ys : List τ} {us : List ω} {i : Nat} (h : i < ys.length) : E.cell ((zipG z zz ys us).getD i E.z) = E.cell (ys.getD i z, us.getD i zz) := by
  congr 1
  simp [zipG, List.getD, List.getElem?_range h, h]
end
end Go.Sx
