/- The engine, part 0: segments of memory, the symbolic state, and what it says of a world. -/
import Derived.Deep.Quiet
import Derived.Tactics
import Derived.KernelRfl
import Derived.Below
import Derived.Laws.World
namespace Go.Sx
open Go Go.RowKit

/-! ## Segments -/

inductive Seg where
  | one (v : Value)
  | ints (k : IntKind) (n : Nat) (xs : List Int)
  | rows (w n : Nat) (g : Nat → List Value)

def fit (w : Nat) (l : List Value) : List Value := (List.range w).map fun j => l.getD j undef

theorem fit_length (w : Nat) (l : List Value) : (fit w l).length = w := by simp [fit]
theorem fit_same {w : Nat} {l : List Value} (h : l.length = w) : fit w l = l := by
  subst h
  apply List.ext_getElem
  · simp [fit]
  · intro i h1 h2; simp [fit, List.getD, h2]

def Seg.width : Seg → Nat
  | .one _ => 1
  | .ints _ n _ => n
  | .rows w n _ => n * w
def intsCells (k : IntKind) (n : Nat) (xs : List Int) : List Value := (List.range n).map fun i => .int k (xs.getD i 0)
def rowsCells (w n : Nat) (g : Nat → List Value) : List Value := (List.range n).flatMap fun i => fit w (g i)
def Seg.cells : Seg → List Value
  | .one v => [v]
  | .ints k n xs => intsCells k n xs
  | .rows w n g => rowsCells w n g

def cells : List Seg → List Value
  | [] => []
  | s :: r => s.cells ++ cells r
def width : List Seg → Nat
  | [] => 0
  | s :: r => s.width + width r

theorem cells_append (a b : List Seg) : cells (a ++ b) = cells a ++ cells b := by
  induction a with
  | nil => rfl
  | cons s r ih => simp [cells, ih]
theorem width_append (a b : List Seg) : width (a ++ b) = width a + width b := by
  induction a with
  | nil => simp [width]
  | cons s r ih => simp [width, ih]; omega

theorem intsCells_length (k : IntKind) (n : Nat) (xs : List Int) : (intsCells k n xs).length = n := by simp [intsCells]
theorem rowsCells_length (w n : Nat) (g : Nat → List Value) : (rowsCells w n g).length = n * w := by
  unfold rowsCells
  induction n with
  | zero => simp
  | succ n ih => rw [List.range_succ, List.flatMap_append, List.length_append, ih]; simp [fit_length]; rw [Nat.succ_mul]
theorem Seg.cells_length (s : Seg) : s.cells.length = s.width := by
  cases s with
  | one v => rfl
  | ints k n xs => exact intsCells_length k n xs
  | rows w n g => exact rowsCells_length w n g
theorem cells_length (s : List Seg) : (cells s).length = width s := by
  induction s with
  | nil => rfl
  | cons s r ih => simp [cells, width, Seg.cells_length, ih]

theorem intsCells_get {k : IntKind} {n : Nat} {xs : List Int} {i : Nat} (h : i < n) : (intsCells k n xs)[i]? = some (.int k (xs.getD i 0)) := by
  simp [intsCells, h]
theorem rowsCells_get {w n : Nat} {g : Nat → List Value} : ∀ {i : Nat}, i < n * w → (rowsCells w n g)[i]? = (fit w (g (i / w)))[i % w]? := by
  intro i h
  unfold rowsCells
  induction n with
  | zero => simp at h
  | succ n ih =>
    have hw : 0 < w := by
      rcases Nat.eq_zero_or_pos w with h0 | h0
      · subst h0; simp at h
      · exact h0
    rw [List.range_succ, List.flatMap_append]
    have hl : ((List.range n).flatMap fun i => fit w (g i)).length = n * w := rowsCells_length w n g
    by_cases hi : i < n * w
    · rw [List.getElem?_append_left (by omega)]; exact ih hi
    · rw [List.getElem?_append_right (by omega), hl]
      have h2 : i < n * w + w := by rw [Nat.succ_mul] at h; exact h
      have hd : i / w = n := by
        apply Nat.div_eq_of_lt_le
        · omega
        · rw [Nat.succ_mul]; omega
      have hm : i % w = i - n * w := by
        have := Nat.div_add_mod i w
        rw [hd, Nat.mul_comm] at this; omega
      simp [hd, hm]

/-- An aggregate value of segments. -/
def agg (s : List Seg) : Value := .agg (cells s).toArray

/-! ## Reading a part -/

def Seg.part : Seg → Nat → Nat → Option Seg
  | .one v, 0, 1 => some (.one v)
  | .one _, _, _ => none
  | .ints k m xs, off, c => bif (Nat.beq off 0 && Nat.beq c m) then some (.ints k m xs) else bif Nat.ble (off + c) m then some (.ints k c (xs.drop off)) else none
  | .rows w m g, off, c =>
    bif (Nat.beq off 0 && Nat.beq c (m * w)) then some (.rows w m g)
    else bif (Nat.beq (off % w) 0 && Nat.beq (c % w) 0 && Nat.ble (off + c) (m * w)) then some (.rows w (c / w) fun i => g (off / w + i)) else none

theorem Seg.part_cells {s p : Seg} {off c : Nat} (h : s.part off c = some p) : p.cells = (s.cells.drop off).take c ∧ p.width = c ∧ off + c ≤ s.width := by
  cases s with
  | one v =>
    unfold Seg.part at h
    split at h
    · rename_i heq
      injection heq with heq; subst heq
      injection h with h; subst h; simp [Seg.cells, Seg.width]
    · cases h
    all_goals simp_all
  | ints k m xs =>
    simp only [Seg.part] at h
    by_cases h1 : (Nat.beq off 0 && Nat.beq c m) = true
    · rw [h1, cond_true] at h
      injection h with h
      simp only [Bool.and_eq_true, Nat.beq_eq] at h1
      obtain ⟨rfl, rfl⟩ := h1
      subst h
      refine ⟨?_, rfl, by simp [Seg.width]⟩
      rw [List.drop_zero, List.take_of_length_le]
      rw [Seg.cells_length]; exact Nat.le_refl _
    · rw [Bool.not_eq_true] at h1
      rw [h1, cond_false] at h
      by_cases h2 : Nat.ble (off + c) m = true
      · rw [h2, cond_true] at h
        injection h with h
        subst h
        have h2' : off + c ≤ m := Nat.le_of_ble_eq_true h2
        refine ⟨?_, rfl, h2'⟩
        apply List.ext_getElem?
        intro i
        simp only [Seg.cells]
        by_cases hi : i < c
        · rw [intsCells_get hi, List.getElem?_take_of_lt hi, List.getElem?_drop, intsCells_get (by omega)]
          simp [List.getD]
        · rw [List.getElem?_eq_none (by rw [intsCells_length]; omega), List.getElem?_eq_none (by rw [List.length_take]; omega)]
      · rw [Bool.not_eq_true] at h2
        rw [h2, cond_false] at h; cases h
  | rows w m g =>
    simp only [Seg.part] at h
    by_cases h1 : (Nat.beq off 0 && Nat.beq c (m * w)) = true
    · rw [h1, cond_true] at h
      injection h with h
      simp only [Bool.and_eq_true, Nat.beq_eq] at h1
      obtain ⟨rfl, rfl⟩ := h1
      subst h
      refine ⟨?_, rfl, by simp [Seg.width]⟩
      rw [List.drop_zero, List.take_of_length_le]
      rw [Seg.cells_length]; exact Nat.le_refl _
    · rw [Bool.not_eq_true] at h1
      rw [h1, cond_false] at h
      by_cases h2 : (Nat.beq (off % w) 0 && Nat.beq (c % w) 0 && Nat.ble (off + c) (m * w)) = true
      · rw [h2, cond_true] at h
        injection h with h
        subst h
        simp only [Bool.and_eq_true, Nat.beq_eq] at h2
        obtain ⟨⟨h3, h4⟩, h5⟩ := h2
        have h5' : off + c ≤ m * w := Nat.le_of_ble_eq_true h5
        have hc : c / w * w = c := by have := Nat.div_add_mod c w; rw [Nat.mul_comm]; omega
        have ho : w * (off / w) = off := by have := Nat.div_add_mod off w; omega
        refine ⟨?_, by simp [Seg.width, hc], h5'⟩
        apply List.ext_getElem?
        intro i
        simp only [Seg.cells]
        by_cases hi : i < c
        · have hw : 0 < w := by
            rcases Nat.eq_zero_or_pos w with h0 | h0
            · subst h0; simp at h5'; omega
            · exact h0
          rw [rowsCells_get (by omega), List.getElem?_take_of_lt hi, List.getElem?_drop, rowsCells_get (by omega)]
          have e1 : (off + i) / w = off / w + i / w := by
            conv => lhs; rw [← ho]
            rw [Nat.mul_add_div hw]
          have e2 : (off + i) % w = i % w := by
            conv => lhs; rw [← ho]
            rw [Nat.mul_add_mod]
          rw [e1, e2]
        · rw [List.getElem?_eq_none (by rw [rowsCells_length, hc]; omega), List.getElem?_eq_none (by rw [List.length_take]; omega)]
      · rw [Bool.not_eq_true] at h2
        rw [h2, cond_false] at h; cases h

def sub : List Seg → Nat → Nat → Option (List Seg)
  | [], _, n => bif Nat.beq n 0 then some [] else none
  | s :: r, off, n =>
    bif Nat.beq n 0 then some []
    else bif Nat.ble s.width off then sub r (off - s.width) n
    else bif Nat.ble n (s.width - off) then (s.part off n).map fun p => [p]
    else match s.part off (s.width - off), sub r 0 (n - (s.width - off)) with
      | some p, some q => some (p :: q)
      | _, _ => none

theorem sub_cells : ∀ {s p : List Seg} {off n : Nat}, sub s off n = some p → cells p = ((cells s).drop off).take n ∧ width p = n ∧ (n = 0 ∨ off + n ≤ width s) := by
  intro s
  induction s with
  | nil =>
    intro p off n h
    simp only [sub] at h
    by_cases h0 : Nat.beq n 0 = true
    · rw [h0, cond_true] at h
      injection h with h; subst h
      rw [Nat.beq_eq] at h0; subst h0
      exact ⟨by simp [cells], rfl, .inl rfl⟩
    · rw [Bool.not_eq_true] at h0; rw [h0, cond_false] at h; cases h
  | cons s r ih =>
    intro p off n h
    simp only [sub] at h
    by_cases h0 : Nat.beq n 0 = true
    · rw [h0, cond_true] at h
      injection h with h; subst h
      rw [Nat.beq_eq] at h0; subst h0
      exact ⟨by simp [cells], rfl, .inl rfl⟩
    · rw [Bool.not_eq_true] at h0; rw [h0, cond_false] at h
      have hl := s.cells_length
      by_cases h1 : Nat.ble s.width off = true
      · rw [h1, cond_true] at h
        have h1' := Nat.le_of_ble_eq_true h1
        obtain ⟨e1, e2, e3⟩ := ih h
        refine ⟨?_, e2, ?_⟩
        · rw [e1]; simp only [cells]; rw [List.drop_append, show s.cells.drop off = [] from List.drop_of_length_le (by omega), List.nil_append, hl]
        · rcases e3 with e3 | e3
          · exact .inl e3
          · right; simp only [width]; omega
      · rw [Bool.not_eq_true] at h1; rw [h1, cond_false] at h
        have h1' : off < s.width := by
          rcases Nat.lt_or_ge off s.width with h' | h'
          · exact h'
          · rw [Nat.ble_eq_true_of_le h'] at h1; cases h1
        by_cases h2 : Nat.ble n (s.width - off) = true
        · rw [h2, cond_true] at h
          have h2' := Nat.le_of_ble_eq_true h2
          cases hp : s.part off n with
          | none => rw [hp] at h; cases h
          | some q =>
            rw [hp] at h
            simp only [Option.map_some, Option.some.injEq] at h
            subst h
            obtain ⟨e1, e2, e3⟩ := Seg.part_cells hp
            refine ⟨?_, by simp [width, e2], .inr (by simp only [width]; omega)⟩
            simp only [cells, List.append_nil]
            rw [e1, List.drop_append_of_le_length (by omega), List.take_append_of_le_length (by simp; omega)]
        · rw [Bool.not_eq_true] at h2; rw [h2, cond_false] at h
          have h2' : s.width - off < n := by
            rcases Nat.lt_or_ge (s.width - off) n with h' | h'
            · exact h'
            · rw [Nat.ble_eq_true_of_le h'] at h2; cases h2
          cases hp : s.part off (s.width - off) with
          | none => rw [hp] at h; cases h
          | some q =>
            cases hq : sub r 0 (n - (s.width - off)) with
            | none => rw [hp, hq] at h; cases h
            | some q' =>
              rw [hp, hq] at h
              simp only [Option.some.injEq] at h
              subst h
              obtain ⟨e1, e2, e3⟩ := Seg.part_cells hp
              obtain ⟨f1, f2, f3⟩ := ih hq
              refine ⟨?_, by simp only [width, e2, f2]; omega, .inr (by simp only [width]; omega)⟩
              simp only [cells]
              rw [e1, f1, List.drop_zero, List.drop_append_of_le_length (by omega), List.take_append, List.take_of_length_le (by simp; omega)]
              congr 1
              · rw [List.take_of_length_le (by simp; omega)]
              · simp [hl]

/-! ## One cell -/

def cellAt : List Seg → Nat → Option Value
  | [], _ => none
  | s :: r, i =>
    bif Nat.ble s.width i then cellAt r (i - s.width)
    else match s with
      | .one v => some v
      | .ints k _ xs => some (.int k (xs.getD i 0))
      | .rows w _ g => (fit w (g (i / w)))[i % w]?

theorem cellAt_eq : ∀ (s : List Seg) (i : Nat), cellAt s i = (cells s)[i]? := by
  intro s
  induction s with
  | nil => intro i; simp [cellAt, cells]
  | cons s r ih =>
    intro i
    have hl := s.cells_length
    simp only [cellAt, cells]
    by_cases h1 : Nat.ble s.width i = true
    · rw [h1, cond_true, ih, List.getElem?_append_right (by rw [hl]; exact Nat.le_of_ble_eq_true h1), hl]
    · have h1' : i < s.width := by
        rcases Nat.lt_or_ge i s.width with h' | h'
        · exact h'
        · exact absurd (Nat.ble_eq_true_of_le h') h1
      rw [Bool.not_eq_true] at h1
      rw [h1, cond_false, List.getElem?_append_left (by omega)]
      cases s with
      | one v =>
        simp only [Seg.width] at h1'
        obtain rfl : i = 0 := by omega
        rfl
      | ints k n xs => exact (intsCells_get h1').symm
      | rows w n g => exact (rowsCells_get h1').symm

/-! ## Writing a part -/

def putL (s : List Seg) (off : Nat) (p : List Seg) : Option (List Seg) :=
  match sub s 0 off, sub s (off + width p) (width s - (off + width p)) with
  | some a, some b => bif Nat.ble (off + width p) (width s) then some (a ++ (p ++ b)) else none
  | _, _ => none

/-- The cells with a part of them replaced. -/
def splice (l : List Value) (off : Nat) (p : List Value) : List Value := l.take off ++ (p ++ l.drop (off + p.length))

theorem putL_cells {s p q : List Seg} {off : Nat} (h : putL s off p = some q) : cells q = splice (cells s) off (cells p) ∧ width q = width s ∧ off + width p ≤ width s := by
  unfold putL at h
  split at h
  · rename_i a b ha hb
    by_cases h1 : Nat.ble (off + width p) (width s) = true
    · rw [h1, cond_true] at h
      injection h with h; subst h
      have h1' := Nat.le_of_ble_eq_true h1
      obtain ⟨e1, e2, e3⟩ := sub_cells ha
      obtain ⟨f1, f2, f3⟩ := sub_cells hb
      refine ⟨?_, by simp only [width_append, e2, f2]; omega, h1'⟩
      rw [cells_append, cells_append, e1, f1, List.drop_zero]
      unfold splice
      rw [cells_length]
      congr 2
      rw [List.take_of_length_le]
      rw [List.length_drop, cells_length]; exact Nat.le_refl _
    · rw [Bool.not_eq_true] at h1; rw [h1, cond_false] at h; cases h
  · cases h

/-- A list with one place written, whatever its length. -/
def setD (xs : List Int) (i : Nat) (v : Int) : List Int := if i < xs.length then xs.set i v else xs ++ (List.replicate (i - xs.length) 0 ++ [v])
set_option linter.unusedSimpArgs false in
theorem getD_setD (xs : List Int) (i j : Nat) (v : Int) : (setD xs i v).getD j 0 = if j = i then v else xs.getD j 0 := by
  unfold setD
  by_cases h : i < xs.length
  · rw [if_pos h]
    by_cases hj : j = i
    · subst hj; simp [List.getD, h]
    · simp [List.getD, List.getElem?_set, hj, Ne.symm hj]
  · rw [if_neg h]
    simp only [List.getD]
    by_cases hj : j < xs.length
    · rw [List.getElem?_append_left hj, if_neg (by omega)]
    · rw [List.getElem?_append_right (by omega)]
      by_cases hji : j = i
      · subst hji; rw [List.getElem?_append_right (by simp)]; simp
      · rw [if_neg hji, List.getElem?_eq_none (l := xs) (by omega)]
        by_cases hlt : j < i
        · rw [List.getElem?_append_left (by simp; omega), List.getElem?_replicate]; split <;> rfl
        · rw [List.getElem?_eq_none (by simp; omega)]
theorem setD_eq {xs : List Int} {i : Nat} {v : Int} (h : i < xs.length) : setD xs i v = xs.set i v := if_pos h

def updR (g : Nat → List Value) (i : Nat) (p : List Value) : Nat → List Value := fun j => if j = i then p else g j

/-- One cell written at a literal place. -/
def putC : List Seg → Nat → Value → Option (List Seg)
  | [], _, _ => none
  | s :: r, i, v =>
    bif Nat.ble s.width i then (putC r (i - s.width) v).map fun r => s :: r
    else match s with
      | .one _ => some (.one v :: r)
      | .ints k n xs => match v with
        | .int k' x => if k' = k then some (.ints k n (setD xs i x) :: r) else none
        | _ => none
      | .rows _ _ _ => none

theorem intsCells_setD (k : IntKind) (n : Nat) (xs : List Int) (i : Nat) (x : Int) (h : i < n) : intsCells k n (setD xs i x) = (intsCells k n xs).set i (.int k x) := by
  apply List.ext_getElem?
  intro j
  by_cases hj : j < n
  · rw [intsCells_get hj, getD_setD, List.getElem?_set]
    by_cases hji : j = i
    · subst hji; simp [intsCells_length, h]
    · rw [if_neg hji, if_neg (fun h => hji h.symm), intsCells_get hj]
  · rw [List.getElem?_eq_none (by rw [intsCells_length]; omega), List.getElem?_eq_none (by rw [List.length_set, intsCells_length]; omega)]
theorem rowsCells_get2 {w n : Nat} {g : Nat → List Value} {i j : Nat} (hi : i < n) (hj : j < w) : (rowsCells w n g)[i * w + j]? = (fit w (g i))[j]? := by
  have hlt : i * w + j < n * w := by
    have : i * w + w ≤ n * w := by rw [← Nat.succ_mul]; exact Nat.mul_le_mul_right w hi
    omega
  rw [rowsCells_get hlt]
  have e1 : (i * w + j) / w = i := by
    rw [Nat.mul_comm, Nat.mul_add_div (by omega), Nat.div_eq_of_lt hj, Nat.add_zero]
  have e2 : (i * w + j) % w = j := by
    rw [Nat.mul_comm, Nat.mul_add_mod, Nat.mod_eq_of_lt hj]
  rw [e1, e2]
theorem fit_get {w : Nat} {l : List Value} {j : Nat} (h : j < w) : (fit w l)[j]? = some (l.getD j undef) := by simp [fit, h]
theorem fit_none {w : Nat} {l : List Value} {j : Nat} (h : w ≤ j) : (fit w l)[j]? = none := List.getElem?_eq_none (by rw [fit_length]; exact h)

/-- A row of the rows replaced. -/
theorem rowsCells_upd (w n : Nat) (g : Nat → List Value) (i : Nat) (p : List Value) (h : i < n) (hp : p.length = w) :
    rowsCells w n (updR g i p) = splice (rowsCells w n g) (i * w) p := by
  have hle : i * w + w ≤ n * w := by rw [← Nat.succ_mul]; exact Nat.mul_le_mul_right w h
  apply List.ext_getElem?
  intro j
  unfold splice
  by_cases hj : j < n * w
  · have hw : 0 < w := by
      rcases Nat.eq_zero_or_pos w with h0 | h0
      · subst h0; simp at hj
      · exact h0
    rw [rowsCells_get hj]
    have hd := Nat.div_add_mod j w
    have hm := Nat.mod_lt j hw
    rw [Nat.mul_comm] at hd
    by_cases h1 : j < i * w
    · have hne : j / w ≠ i := by intro e; rw [e] at hd; omega
      rw [List.getElem?_append_left (by rw [List.length_take, rowsCells_length]; omega), List.getElem?_take_of_lt h1, rowsCells_get hj]
      simp only [updR, hne, if_false]
    · rw [List.getElem?_append_right (by rw [List.length_take, rowsCells_length]; omega), List.length_take, rowsCells_length, Nat.min_eq_left (by omega)]
      by_cases h2 : j < i * w + w
      · have he : j / w = i := by
          apply Nat.div_eq_of_lt_le
          · omega
          · rw [Nat.succ_mul]; omega
        rw [List.getElem?_append_left (by omega)]
        simp only [updR, he, if_true]
        rw [fit_same hp]
        congr 1
        rw [he] at hd; omega
      · have hne : j / w ≠ i := by
          intro e; rw [e] at hd; omega
        rw [List.getElem?_append_right (by omega), List.getElem?_drop, hp, show i * w + w + (j - i * w - w) = j by omega, rowsCells_get hj]
        simp only [updR, hne, if_false]
  · have hlen : (List.take (i * w) (rowsCells w n g) ++ (p ++ List.drop (i * w + p.length) (rowsCells w n g))).length = n * w := by
      simp only [List.length_append, List.length_take, List.length_drop, rowsCells_length, hp]; omega
    rw [List.getElem?_eq_none (by rw [rowsCells_length]; omega), List.getElem?_eq_none (by omega)]

theorem set_splice {l : List Value} {i : Nat} {v : Value} (h : i < l.length) : l.set i v = splice l i [v] := by
  unfold splice
  simp only [List.length_cons, List.length_nil]
  apply List.ext_getElem?
  intro j
  rw [List.getElem?_set]
  by_cases h1 : j < i
  · rw [List.getElem?_append_left (by rw [List.length_take]; omega), List.getElem?_take_of_lt h1, if_neg (by omega)]
  · rw [List.getElem?_append_right (by rw [List.length_take]; omega), List.length_take, Nat.min_eq_left (by omega)]
    by_cases h2 : j = i
    · subst h2; simp [h]
    · rw [if_neg (by omega), List.getElem?_append_right (by simp; omega), List.getElem?_drop]
      congr 1; simp; omega

theorem splice_append_left {a b p : List Value} {off : Nat} (h : off + p.length ≤ a.length) : splice (a ++ b) off p = splice a off p ++ b := by
  unfold splice
  rw [List.take_append_of_le_length (by omega), List.drop_append_of_le_length (by omega)]
  simp
theorem splice_append_right {a b p : List Value} {off : Nat} (h : a.length ≤ off) : splice (a ++ b) off p = a ++ splice b (off - a.length) p := by
  unfold splice
  rw [List.take_append, List.drop_append, List.take_of_length_le h, show a.drop (off + p.length) = [] from List.drop_of_length_le (by omega), List.nil_append,
    show off - a.length + p.length = off + p.length - a.length by omega]
  simp

theorem putC_cells : ∀ {s q : List Seg} {i : Nat} {v : Value}, putC s i v = some q → cells q = (cells s).set i v ∧ width q = width s ∧ i < width s := by
  intro s
  induction s with
  | nil => intro q i v h; cases h
  | cons s r ih =>
    intro q i v h
    have hl := s.cells_length
    simp only [putC] at h
    by_cases h1 : Nat.ble s.width i = true
    · rw [h1, cond_true] at h
      have h1' := Nat.le_of_ble_eq_true h1
      cases hr : putC r (i - s.width) v with
      | none => rw [hr] at h; cases h
      | some r' =>
        rw [hr] at h
        simp only [Option.map_some, Option.some.injEq] at h
        subst h
        obtain ⟨e1, e2, e3⟩ := ih hr
        refine ⟨?_, by simp [width, e2], by simp only [width]; omega⟩
        simp only [cells]
        rw [e1, List.set_append_right _ _ (by omega), hl]
    · have h1' : i < s.width := by
        rcases Nat.lt_or_ge i s.width with h' | h'
        · exact h'
        · exact absurd (Nat.ble_eq_true_of_le h') h1
      rw [Bool.not_eq_true] at h1
      rw [h1, cond_false] at h
      cases s with
      | one u =>
        simp only [Option.some.injEq] at h; subst h
        simp only [Seg.width] at h1'
        obtain rfl : i = 0 := by omega
        exact ⟨by simp [cells, Seg.cells], rfl, by simp only [width, Seg.width]; omega⟩
      | ints k n xs =>
        cases v <;> simp only [reduceCtorEq] at h
        rename_i k' x
        split at h
        · rename_i hk; subst hk
          simp only [Option.some.injEq] at h; subst h
          refine ⟨?_, rfl, by simp only [width]; omega⟩
          simp only [cells, Seg.cells]
          have h1n : i < n := h1'
          rw [intsCells_setD _ _ _ _ _ h1n, List.set_append_left _ _ (by rw [intsCells_length]; exact h1n)]
        · cases h
      | rows w n g => simp only [reduceCtorEq] at h

/-! ## A whole segment, by its place -/

def segAt : List Seg → Nat → Option Seg
  | [], _ => none
  | s :: r, off => bif Nat.beq off 0 then some s else bif Nat.ble s.width off then segAt r (off - s.width) else none
def segSet : List Seg → Nat → Seg → Option (List Seg)
  | [], _, _ => none
  | s :: r, off, q => bif Nat.beq off 0 then (bif Nat.beq s.width q.width then some (q :: r) else none) else bif Nat.ble s.width off then (segSet r (off - s.width) q).map (s :: ·) else none

theorem segAt_cells : ∀ {s : List Seg} {q : Seg} {off : Nat}, segAt s off = some q → ∀ i, i < q.width → (cells s)[off + i]? = q.cells[i]? := by
  intro s
  induction s with
  | nil => intro q off h; cases h
  | cons s r ih =>
    intro q off h i hi
    have hl := s.cells_length
    simp only [segAt] at h
    by_cases h0 : Nat.beq off 0 = true
    · rw [h0, cond_true] at h; injection h with h; subst h
      rw [Nat.beq_eq] at h0; subst h0
      simp only [cells, Nat.zero_add]
      rw [List.getElem?_append_left (by omega)]
    · rw [Bool.not_eq_true] at h0; rw [h0, cond_false] at h
      by_cases h1 : Nat.ble s.width off = true
      · rw [h1, cond_true] at h
        have h1' := Nat.le_of_ble_eq_true h1
        simp only [cells]
        rw [List.getElem?_append_right (by omega), hl, show off + i - s.width = off - s.width + i by omega]
        exact ih h i hi
      · rw [Bool.not_eq_true] at h1; rw [h1, cond_false] at h; cases h
theorem segAt_width : ∀ {s : List Seg} {q : Seg} {off : Nat}, segAt s off = some q → off + q.width ≤ width s := by
  intro s
  induction s with
  | nil => intro q off h; cases h
  | cons s r ih =>
    intro q off h
    simp only [segAt] at h
    by_cases h0 : Nat.beq off 0 = true
    · rw [h0, cond_true] at h; injection h with h; subst h
      rw [Nat.beq_eq] at h0; subst h0
      simp only [width]; omega
    · rw [Bool.not_eq_true] at h0; rw [h0, cond_false] at h
      by_cases h1 : Nat.ble s.width off = true
      · rw [h1, cond_true] at h
        have h1' := Nat.le_of_ble_eq_true h1
        have := ih h
        simp only [width]; omega
      · rw [Bool.not_eq_true] at h1; rw [h1, cond_false] at h; cases h
theorem segSet_cells : ∀ {s t : List Seg} {q : Seg} {off : Nat}, segSet s off q = some t → cells t = splice (cells s) off q.cells ∧ width t = width s ∧ off + q.width ≤ width s := by
  intro s
  induction s with
  | nil => intro t q off h; cases h
  | cons s r ih =>
    intro t q off h
    have hl := s.cells_length
    have hq := q.cells_length
    simp only [segSet] at h
    by_cases h0 : Nat.beq off 0 = true
    · rw [h0, cond_true] at h
      by_cases h2 : Nat.beq s.width q.width = true
      · rw [h2, cond_true] at h
        injection h with h; subst h
        rw [Nat.beq_eq] at h0 h2; subst h0
        refine ⟨?_, by simp [width, h2], by simp only [width]; omega⟩
        unfold splice
        simp only [cells, List.take_zero, List.nil_append, Nat.zero_add]
        rw [List.drop_append, show s.cells.drop q.cells.length = [] from List.drop_of_length_le (by omega), List.nil_append, hq, hl, h2, Nat.sub_self, List.drop_zero]
      · rw [Bool.not_eq_true] at h2; rw [h2, cond_false] at h; cases h
    · rw [Bool.not_eq_true] at h0; rw [h0, cond_false] at h
      by_cases h1 : Nat.ble s.width off = true
      · rw [h1, cond_true] at h
        have h1' := Nat.le_of_ble_eq_true h1
        cases hr : segSet r (off - s.width) q with
        | none => rw [hr] at h; cases h
        | some r' =>
          rw [hr] at h
          simp only [Option.map_some, Option.some.injEq] at h
          subst h
          obtain ⟨e1, e2, e3⟩ := ih hr
          refine ⟨?_, by simp [width, e2], by simp only [width]; omega⟩
          simp only [cells]
          rw [e1, splice_append_right (by omega), hl]
      · rw [Bool.not_eq_true] at h1; rw [h1, cond_false] at h; cases h

end Go.Sx
