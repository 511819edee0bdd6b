/- The engine, part 9: from an argument's reading to its cells: layouts. -/
import Derived.Test.YtiflckckekjbnaaDoorE8
import Derived.ChangeArms
import Derived.ChangeShapes
import Derived.OpenShut
import Derived.OpenVars
namespace Go.Sx
open Go Go.RowKit
set_option linter.all false

/-- A type's cells, in runs. -/
inductive Lay where
  | nil
  | bool (r : Lay)
  | int (k : IntKind) (r : Lay)
  | str (r : Lay)
  | ints (k : IntKind) (n : Nat) (r : Lay)
  | rows (w n : Nat) (e r : Lay)
  | sli (k : IntKind) (r : Lay)
  | sl (w : Nat) (e r : Lay)
  | ptr (w : Nat) (e r : Lay)
  | any (r : Lay)

/-- A slice of whole numbers. -/
structure SlI (W : World) (k : IntKind) (a : Option Addr) (cap : Nat) (xs : List Int) : Prop where
  len : xs.length = cap
  wf : ∀ x ∈ xs, (Lit.int k x).wf = true
  at_ : cap = 0 ∨ ∃ b off, a = some ⟨b, off, none⟩ ∧ Mem W b off [.ints k cap xs]
/-- A slice of rows. -/
structure SlR (W : World) (w : Nat) (a : Option Addr) (cap : Nat) (g : Nat → List Value) : Prop where
  len : ∀ i, i < cap → (g i).length = w
  at_ : cap = 0 ∨ w = 0 ∨ ∃ b off, a = some ⟨b, off, none⟩ ∧ Mem W b off [.rows w cap g]

/-- These cells are of that layout. 'B': no slice and no string is longer. -/
def Fits (W : World) (B : Nat) : Lay → List Value → Prop
  | .nil, cs => cs = []
  | .bool r, cs => ∃ b cs', cs = .bool b :: cs' ∧ Fits W B r cs'
  | .int k r, cs => ∃ n cs', cs = .int k n :: cs' ∧ (Lit.int k n).wf = true ∧ Fits W B r cs'
  | .str r, cs => ∃ s cs', cs = .string s :: cs' ∧ s.size ≤ B ∧ Fits W B r cs'
  | .ints k n r, cs => ∃ xs cs', xs.length = n ∧ (∀ x ∈ xs, (Lit.int k x).wf = true) ∧ cs = intsCells k n xs ++ cs' ∧ Fits W B r cs'
  | .rows w n e r, cs => ∃ g cs', (∀ i, i < n → (g i).length = w ∧ Fits W B e (g i)) ∧ cs = rowsCells w n g ++ cs' ∧ Fits W B r cs'
  | .sli k r, cs => ∃ a len cap xs cs', cs = .slice a len cap :: cs' ∧ len ≤ cap ∧ cap ≤ B ∧ SlI W k a cap xs ∧ Fits W B r cs'
  | .sl w e r, cs => ∃ a len cap g cs', cs = .slice a len cap :: cs' ∧ len ≤ cap ∧ cap ≤ B ∧ SlR W w a cap g ∧ (∀ i, i < cap → Fits W B e (g i)) ∧ Fits W B r cs'
  | .ptr w e r, cs => ∃ a cs', cs = .pointer a :: cs' ∧ (∀ x, a = some x → w = 0 ∨ ∃ b off g, x = ⟨b, off, none⟩ ∧ g.length = w ∧ Mem W b off [.rows w 1 fun _ => g] ∧ Fits W B e g) ∧ Fits W B r cs'
  | .any r, cs => ∃ v cs', cs = v :: cs' ∧ Fits W B r cs'

/-- A type's layout, ahead of 'r'. -/
def consec (P : Program) : List Field → Nat → Nat → Bool
  | [], o, n => o == n
  | f :: r, o, n => f.offset == o && consec P r (o + P.cellsOf f.type) n
def lay (P : Program) : Nat → TypeId → Lay → Option Lay
  | 0, _, _ => none
  | n + 1, t, r =>
    match P.underlying t with
    | some .bool => some (.bool r)
    | some (.int k) => some (.int k r)
    | some .string => some (.str r)
    | some (.slice e) =>
      match P.underlying e with
      | some (.int k) => if P.cellsOf e = 1 then some (.sli k r) else none
      | _ => (lay P n e .nil).map fun l => .sl (P.cellsOf e) l r
    | some (.pointer e) => (lay P n e .nil).map fun l => .ptr (P.cellsOf e) l r
    | some (.struct fs) => if consec P fs.toList 0 (P.cellsOf t) then fs.toList.foldr (fun f acc => acc.bind (lay P n f.type)) (some r) else none
    | some (.array m e) =>
      if P.cellsOf t = m * P.cellsOf e then
        match P.underlying e with
        | some (.int k) => if P.cellsOf e = 1 then some (.ints k m r) else none
        | _ => (lay P n e .nil).map fun l => .rows (P.cellsOf e) m l r
      else none
    | some (.map _ _) => some (.any r)
    | some (.func ..) => some (.any r)
    | some (.interface _) => some (.any r)
    | _ => none

/-- What is small enough. -/
structure Small {H : Type} (S : DataW H → Prop) (B : Nat) : Prop where
  agg : ∀ ps, S (.agg ps) → ∀ p ∈ ps, S p
  ptr : ∀ d, S (.ptr d) → S d
  sl : ∀ e s, S (.slice e s) → e.length + s.length ≤ maxLen → e.length + s.length ≤ B
  el : ∀ e s, S (.slice e s) → (∀ p ∈ e, S p) ∧ ∀ p ∈ s, S p
  str : ∀ b, S (.lit (.string b)) → b.length ≤ maxLen → b.length ≤ B
theorem Small.all {H : Type} : Small (fun _ : DataW H => True) maxLen := ⟨fun _ _ _ _ => trivial, fun _ _ => trivial, fun _ _ _ h => h, fun _ _ _ => ⟨fun _ _ => trivial, fun _ _ => trivial⟩, fun _ _ h => h⟩

theorem consec_le {P : Program} : ∀ (fs : List Field) (o n : Nat), consec P fs o n = true → o ≤ n
  | [], o, n, h => by simp [consec] at h; omega
  | f :: r, o, n, h => by
    simp only [consec, Bool.and_eq_true] at h
    have := consec_le r _ _ h.2
    omega

theorem cells?_get {W : World} {a : Addr} {n : Nat} {cs : List Value} (h : W.cells? 0 a n = some cs) : cs.length = n ∧ ∀ i, i < n → W.cell? (a.add i) = cs[i]? := by
  simp only [World.cells?, Nat.zero_le, if_true] at h
  refine ⟨by simpa using mapM_some_length h, fun i hi => ?_⟩
  exact mapM_some_get h i i (by simp [hi])
theorem cell_spot {W : World} {a : Addr} {v : Value} (h : W.cell? a = some v) : a.spot = none := by
  unfold World.cell? at h
  cases hs : a.spot with
  | none => rfl
  | some k => simp [hs] at h; split at h <;> simp at h

theorem intsCells_of {k : IntKind} {cs : List Value} (h : ∀ i, i < cs.length → ∃ n, cs[i]? = some (.int k n) ∧ (Lit.int k n).wf = true) :
    ∃ xs : List Int, xs.length = cs.length ∧ (∀ x ∈ xs, (Lit.int k x).wf = true) ∧ cs = intsCells k cs.length xs := by
  induction cs with
  | nil => exact ⟨[], rfl, by simp, rfl⟩
  | cons c r ih =>
    obtain ⟨n, hn, hw⟩ := h 0 (by simp)
    obtain ⟨xs, h1, h2, h3⟩ := ih fun i hi => by simpa using h (i + 1) (by simpa using hi)
    simp at hn
    refine ⟨n :: xs, by simp [h1], by simpa [hw] using h2, ?_⟩
    subst hn
    conv => lhs; rw [h3]
    simp [intsCells, List.range_succ_eq_map, Function.comp_def]

theorem rowsCells_of {w : Nat} : ∀ (n : Nat) (cs : List Value), cs.length = n * w → cs = rowsCells w n (fun i => (cs.drop (i * w)).take w) := by
  intro n
  induction n with
  | zero => intro cs h; simp at h; subst h; rfl
  | succ n ih =>
    intro cs h
    have hl : cs.length = n * w + w := by rw [h, Nat.succ_mul]
    have h1 := ih (cs.drop w) (by simp; omega)
    have e : cs = cs.take w ++ cs.drop w := (List.take_append_drop w cs).symm
    conv => lhs; rw [e, h1]
    simp only [rowsCells, List.range_succ_eq_map, List.flatMap_cons, List.flatMap_map]
    congr 1
    · rw [fit_same (by simp; omega)]; simp
    · congr 1
      funext i
      rw [List.drop_drop]
      congr 3
      rw [Nat.succ_mul]; omega

section
variable {H : Type} {enc : TypeId × Value → H} {P : Program} {W : World} {S : DataW H → Prop} {B : Nat}

theorem elem_mem {α : Type} {xs : List α} {i : Nat} {x : α} (h : some x = xs[i]?) : x ∈ xs := List.mem_of_getElem? h.symm

theorem add_at {b off i : Nat} : (Addr.mk b off none).add i = ⟨b, off + i, none⟩ := by
  unfold Addr.add
  split
  · subst_vars; rfl
  · rfl
theorem Addr.add_spot {a : Addr} {i : Nat} (h : (a.add i).spot = none) (h0 : i = 0) : a = ⟨a.block, a.off, none⟩ := by
  subst h0
  simp [Addr.add] at h
  cases a
  simp_all

theorem mem_of_cells {b off n : Nat} {cs : List Value} {s : List Seg} (hc : ∀ i, i < n → W.cell? ⟨b, off + i, none⟩ = cs[i]?) (hl : cs.length = n) (hn : 0 < n) (e : cs = cells s) (hw : width s = n) : Mem W b off s := by
  subst e
  refine ⟨fun i hi => hc i (by omega), ?_⟩
  have h0 := hc 0 hn
  have : 0 < (cells s).length := by omega
  rw [List.getElem?_eq_getElem this] at h0
  unfold World.cell? at h0
  cases hh : W.heap[b]? with
  | none => simp [hh] at h0
  | some o => exact (Array.getElem?_eq_some_iff.1 hh).1

theorem trod_fits (hS : Small S B) : ∀ (n : Nat) (t : TypeId) (r L : Lay), lay P n t r = some L → ∀ (fuel : Nat) (cs : List Value) (d : DataW H) (ps : List MemPlace),
    DataW.trod enc P W 0 (fun _ => true) true fuel t cs = some (d, ps) → S d → ∀ cs', Fits W B r cs' → Fits W B L (cs ++ cs') := by
  intro n
  induction n with
  | zero => intro t r L h; simp [lay] at h
  | succ n ih =>
    intro t r L h fuel cs d ps hd hs cs' hr
    simp only [lay] at h
    cases fuel with
    | zero => simp [DataW.trod] at hd
    | succ m =>
    split at h
    · rename_i hu
      obtain rfl := Option.some.inj h
      unfold DataW.trod at hd
      rw [hu] at hd
      split at hd <;> simp_all
      exact ⟨_, _, rfl, hr⟩
    · rename_i k hu
      obtain rfl := Option.some.inj h
      obtain ⟨x, rfl, hx, hw⟩ := DataW.trod_int hu hd
      exact ⟨x, cs', rfl, hw, hr⟩
    · rename_i hu
      obtain rfl := Option.some.inj h
      obtain ⟨x, rfl, hx, hw⟩ := DataW.trod_string hu hd
      simp only [Prod.mk.injEq] at hx
      refine ⟨x, cs', rfl, ?_, hr⟩
      rw [hx.1] at hs
      have := hS.str _ hs (by simpa using hw)
      simpa using this
    · rename_i e hu
      rcases DataW.trod_slice hu hd with ⟨rfl, hx⟩ | ⟨a, len, cap, elems, rest, m', e1, rfl, hx, _, hlc, hcm, hel, hE, hR, _⟩
      · split at h
        · rename_i k he
          split at h
          · obtain rfl := Option.some.inj h
            exact ⟨none, 0, 0, [], cs', rfl, Nat.le_refl _, Nat.zero_le _, ⟨rfl, by simp, .inl rfl⟩, hr⟩
          · cases h
        · simp only [Option.map_eq_some_iff] at h
          obtain ⟨l, hl, rfl⟩ := h
          exact ⟨none, 0, 0, fun _ => [], cs', rfl, Nat.le_refl _, Nat.zero_le _, ⟨by simp, .inl rfl⟩, by simp, hr⟩
      · obtain rfl : m' = m := by omega
        simp only [Prod.mk.injEq] at hx
        obtain ⟨hx, -⟩ := hx
        obtain ⟨hrl, hR⟩ := hR rfl
        have hcB : cap ≤ B := by
          rw [hx] at hs
          have := hS.sl _ _ hs (by simp [hel, hrl]; omega)
          simp [hel, hrl] at this
          omega
        have hel2 : ∀ i, i < cap → ∃ cs d p, W.cells? 0 (a.add (i * P.cellsOf e)) (P.cellsOf e) = some cs ∧ DataW.trod enc P W 0 (fun _ => true) true m' e cs = some (d, p) ∧ S d := by
          intro i hi
          rw [hx] at hs
          obtain ⟨s1, s2⟩ := hS.el _ _ hs
          by_cases hil : i < len
          · have h1 := hE i hil
            have h2 : i < elems.length := by omega
            rw [List.getElem?_eq_getElem h2] at h1
            simp only [Option.bind_eq_some_iff] at h1
            obtain ⟨cs, h3, h4⟩ := h1
            exact ⟨cs, _, _, h3, h4, s1 _ (List.mem_map.2 ⟨_, List.getElem_mem h2, rfl⟩)⟩
          · have h1 := hR (i - len) (by omega)
            have h2 : i - len < rest.length := by omega
            rw [List.getElem?_eq_getElem h2] at h1
            simp only [Option.bind_eq_some_iff] at h1
            obtain ⟨cs, h3, h4⟩ := h1
            rw [show len + (i - len) = i by omega] at h3
            exact ⟨cs, _, _, h3, h4, s2 _ (List.mem_map.2 ⟨_, List.getElem_mem h2, rfl⟩)⟩
        have hall : ∃ g : Nat → List Value, ∀ i, i < cap → W.cells? 0 (a.add (i * P.cellsOf e)) (P.cellsOf e) = some (g i) ∧ ∃ d p, DataW.trod enc P W 0 (fun _ => true) true m' e (g i) = some (d, p) ∧ S d := by
          refine ⟨fun i => (W.cells? 0 (a.add (i * P.cellsOf e)) (P.cellsOf e)).getD [], fun i hi => ?_⟩
          obtain ⟨cs, d, p, h1, h2, h3⟩ := hel2 i hi
          have e3 : (W.cells? 0 (a.add (i * P.cellsOf e)) (P.cellsOf e)).getD [] = cs := by rw [h1]; rfl
          dsimp only
          rw [e3]
          exact ⟨h1, d, p, h2, h3⟩
        obtain ⟨g, hg⟩ := hall
        have hlen : ∀ i, i < cap → (g i).length = P.cellsOf e := fun i hi => (cells?_get (hg i hi).1).1
        have hsl : SlR W (P.cellsOf e) (some a) cap g := by
          refine ⟨hlen, ?_⟩
          by_cases hc0 : cap = 0
          · exact .inl hc0
          by_cases hw0 : P.cellsOf e = 0
          · exact .inr (.inl hw0)
          refine .inr (.inr ⟨a.block, a.off, ?_, ?_⟩)
          · have h1 := (cells?_get (hg 0 (by omega)).1).2 0 (by omega)
            have h2 : 0 < (g 0).length := by rw [hlen 0 (by omega)]; omega
            rw [List.getElem?_eq_getElem h2] at h1
            have h3 := cell_spot h1
            congr 1
            refine Addr.add_spot (i := 0) ?_ rfl
            simpa [Addr.add] using h3
          · have ha : a = ⟨a.block, a.off, none⟩ := by
              have h1 := (cells?_get (hg 0 (by omega)).1).2 0 (by omega)
              have h2 : 0 < (g 0).length := by rw [hlen 0 (by omega)]; omega
              rw [List.getElem?_eq_getElem h2] at h1
              have h3 := cell_spot h1
              refine Addr.add_spot (i := 0) ?_ rfl
              simpa [Addr.add] using h3
            have hcw : (rowsCells (P.cellsOf e) cap g).length = cap * P.cellsOf e := by
              have := cells_length [.rows (P.cellsOf e) cap g]
              simpa [cells, Seg.cells, width, Seg.width] using this
            refine mem_of_cells (n := cap * P.cellsOf e) (cs := rowsCells (P.cellsOf e) cap g) (fun i hi => ?_) hcw (Nat.mul_pos (by omega) (by omega)) (by simp [cells, Seg.cells]) (by simp [width, Seg.width])
            have hw1 : 0 < P.cellsOf e := by omega
            have hi1 : i / P.cellsOf e < cap := Nat.div_lt_of_lt_mul (by rw [Nat.mul_comm]; exact hi)
            have hi2 : i % P.cellsOf e < P.cellsOf e := Nat.mod_lt _ hw1
            have h1 := (cells?_get (hg _ hi1).1).2 _ hi2
            rw [ha, add_at, add_at] at h1
            have e2 : a.off + i / P.cellsOf e * P.cellsOf e + i % P.cellsOf e = a.off + i := by
              have := Nat.div_add_mod i (P.cellsOf e)
              rw [Nat.mul_comm] at this
              omega
            rw [e2] at h1
            rw [h1]
            have h4 := rowsCells_get2 (w := P.cellsOf e) (n := cap) (g := g) hi1 hi2
            rw [fit_same (hlen _ hi1)] at h4
            rw [← h4]
            congr 1
            have := Nat.div_add_mod i (P.cellsOf e)
            rw [Nat.mul_comm] at this
            omega
        split at h
        · rename_i k he
          split at h
          · rename_i hc1
            obtain rfl := Option.some.inj h
            have hone : ∀ i, i < cap → ∃ z, g i = [.int k z] ∧ (Lit.int k z).wf = true := by
              intro i hi
              obtain ⟨_, d, p, h2, _⟩ := hg i hi
              obtain ⟨z, h3, _, h4⟩ := DataW.trod_int he h2
              exact ⟨z, h3, h4⟩
            obtain ⟨xs, hx1, hx2, hx3⟩ := intsCells_of (k := k) (cs := rowsCells 1 cap g) (by
              intro i hi
              have hcw := cells_length [.rows 1 cap g]
              simp [cells, Seg.cells, width, Seg.width] at hcw
              rw [hcw] at hi
              obtain ⟨z, h1, h2⟩ := hone i hi
              refine ⟨z, ?_, h2⟩
              have h4 := rowsCells_get2 (w := 1) (n := cap) (g := g) hi (j := 0) (by omega)
              rw [fit_same (by rw [h1]; rfl), h1] at h4
              simpa using h4)
            have hcw := cells_length [.rows 1 cap g]
            simp [cells, Seg.cells, width, Seg.width] at hcw
            rw [hcw] at hx1 hx3
            refine ⟨some a, len, cap, xs, cs', rfl, hlc, hcB, ⟨hx1, hx2, ?_⟩, hr⟩
            rcases hsl.at_ with h0 | h0 | ⟨b, off, h1, h2⟩
            · exact .inl h0
            · omega
            · refine .inr ⟨b, off, h1, ⟨fun i hi => ?_, h2.lt⟩⟩
              have := h2.cell i (by simpa [width, Seg.width, hc1] using hi)
              rw [this]
              simp only [cells, Seg.cells, List.append_nil]
              rw [hc1, hx3]
          · cases h
        · simp only [Option.map_eq_some_iff] at h
          obtain ⟨l, hl, rfl⟩ := h
          refine ⟨some a, len, cap, g, cs', rfl, hlc, hcB, hsl, fun i hi => ?_, hr⟩
          obtain ⟨_, d, p, h2, h3⟩ := hg i hi
          have := ih e .nil l hl m' (g i) d p h2 h3 [] rfl
          simpa using this
    · rename_i e hu
      simp only [Option.map_eq_some_iff] at h
      obtain ⟨l, hl, rfl⟩ := h
      rcases DataW.trod_pointer hu hd with ⟨rfl, hx⟩ | ⟨a, cs1, y, m', e1, rfl, hx, hcs, hy⟩
      · exact ⟨none, cs', rfl, (fun x hx => by cases hx), hr⟩
      · refine ⟨some a, cs', rfl, (fun x hx2 => ?_), hr⟩
        obtain rfl := Option.some.inj hx2
        obtain ⟨hl1, hc1⟩ := cells?_get hcs
        by_cases hw0 : P.cellsOf e = 0
        · exact .inl hw0
        obtain rfl : m' = m := by omega
        simp only [Prod.mk.injEq] at hx
        have ha : a = ⟨a.block, a.off, none⟩ := by
          have h1 := hc1 0 (by omega)
          rw [List.getElem?_eq_getElem (by omega)] at h1
          have h3 := cell_spot h1
          refine Addr.add_spot (i := 0) ?_ rfl
          simpa [Addr.add] using h3
        refine .inr ⟨a.block, a.off, cs1, ha, hl1, ?_, ?_⟩
        · refine mem_of_cells (n := P.cellsOf e) (cs := cs1) (fun i hi => ?_) hl1 (by omega) ?_ (by simp [width, Seg.width])
          · rw [← hc1 i hi, ha, add_at]
          · simp [cells, Seg.cells, rowsCells, List.range_succ, fit_same hl1]
        · have := ih e .nil l hl m' cs1 y.1 y.2 hy (hS.ptr _ (by rw [hx.1] at hs; exact hs)) [] rfl
          simpa using this
    · rename_i fs hu
      split at h
      · rename_i hcon
        obtain ⟨xs, m', e1, hx, hlen, hxl, hf⟩ := DataW.trod_struct hu hd
        obtain rfl : m' = m := by omega
        simp only [Prod.mk.injEq] at hx
        rw [hx.1] at hs
        have hsx : ∀ x ∈ xs, S x.1 := fun x hx => hS.agg _ hs _ (List.mem_map.2 ⟨x, hx, rfl⟩)
        have key : ∀ (l : List Field) (o : Nat) (L : Lay), consec P l o (P.cellsOf t) = true → l.foldr (fun f acc => acc.bind (lay P n f.type)) (some r) = some L →
            (∀ f ∈ l, ∃ d p, DataW.trod enc P W 0 (fun _ => true) true m' f.type ((cs.drop f.offset).take (P.cellsOf f.type)) = some (d, p) ∧ S d) → Fits W B L (cs.drop o ++ cs') := by
          intro l
          induction l with
          | nil =>
            intro o L h1 h2 _
            simp [consec] at h1
            simp at h2
            subst h2
            rw [h1, ← hlen]
            simpa using hr
          | cons f l ihl =>
            intro o L h1 h2 h3
            simp only [consec, Bool.and_eq_true, beq_iff_eq] at h1
            simp only [List.foldr_cons, Option.bind_eq_some_iff] at h2
            obtain ⟨L1, h4, h5⟩ := h2
            have h6 := ihl _ _ h1.2 h4 fun f' hf' => h3 f' (by simp [hf'])
            obtain ⟨d, p, h7, h8⟩ := h3 f (by simp)
            have h9 := ih f.type L1 L h5 m' _ d p h7 h8 _ h6
            rw [h1.1] at h9
            rw [← List.append_assoc] at h9
            have : ((cs.drop o).take (P.cellsOf f.type)) ++ cs.drop (o + P.cellsOf f.type) = cs.drop o := by
              rw [← List.drop_drop]
              exact List.take_append_drop _ _
            rw [this] at h9
            exact h9
        have := key fs.toList 0 L hcon h (by
          intro f hfm
          obtain ⟨i, hi, hfi⟩ := List.getElem_of_mem hfm
          have h1 := hf i f (by simpa [← hfi] using hi)
          have h2 : i < xs.length := by rw [hxl]; simpa using hi
          rw [List.getElem?_eq_getElem h2] at h1
          exact ⟨_, _, h1, hsx _ (List.getElem_mem h2)⟩)
        simpa using this
      · cases h
    · rename_i q e hu
      split at h
      · rename_i hct
        obtain ⟨xs, m', e1, hx, hlen, hxl, hf⟩ := DataW.trod_array hu hd
        obtain rfl : m' = m := by omega
        simp only [Prod.mk.injEq] at hx
        rw [hx.1] at hs
        have hsx : ∀ x ∈ xs, S x.1 := fun x hx => hS.agg _ hs _ (List.mem_map.2 ⟨x, hx, rfl⟩)
        have hel : ∀ i, i < q → ∃ d p, DataW.trod enc P W 0 (fun _ => true) true m' e ((cs.drop (i * P.cellsOf e)).take (P.cellsOf e)) = some (d, p) ∧ S d := by
          intro i hi
          have h1 := hf i hi
          have h2 : i < xs.length := by omega
          rw [List.getElem?_eq_getElem h2] at h1
          exact ⟨_, _, h1, hsx _ (List.getElem_mem h2)⟩
        split at h
        · rename_i k he
          split at h
          · rename_i hc1
            obtain rfl := Option.some.inj h
            have hq : cs.length = q := by rw [hlen, hct, hc1]; simp
            obtain ⟨zs, h1, h2, h3⟩ := intsCells_of (k := k) (cs := cs) (by
              intro i hi
              obtain ⟨d, p, h1, _⟩ := hel i (by omega)
              obtain ⟨z, h2, _, h3⟩ := DataW.trod_int he h1
              refine ⟨z, ?_, h3⟩
              rw [hc1] at h2
              have := congrArg (fun l => l[0]?) h2
              simpa using this)
            exact ⟨zs, cs', by omega, h2, by rw [hq] at h3; rw [← h3], hr⟩
          · cases h
        · simp only [Option.map_eq_some_iff] at h
          obtain ⟨l, hl, rfl⟩ := h
          refine ⟨fun i => (cs.drop (i * P.cellsOf e)).take (P.cellsOf e), cs', fun i hi => ⟨?_, ?_⟩, by rw [← rowsCells_of q cs (by omega)], hr⟩
          · simp [hlen, hct]
            have : (i + 1) * P.cellsOf e ≤ q * P.cellsOf e := Nat.mul_le_mul_right _ hi
            rw [Nat.succ_mul] at this
            omega
          · obtain ⟨d, p, h1, h2⟩ := hel i hi
            have := ih e .nil l hl m' _ d p h1 h2 [] rfl
            simpa using this
      · cases h
    all_goals first
      | (cases h; done)
      | (rename_i hu
         obtain rfl := Option.some.inj h
         have hc : ∃ v, cs = [v] := by
           unfold DataW.trod at hd
           rw [hu] at hd
           split at hd <;> simp_all
         obtain ⟨v, rfl⟩ := hc
         exact ⟨v, cs', rfl, hr⟩)
end
end Go.Sx
