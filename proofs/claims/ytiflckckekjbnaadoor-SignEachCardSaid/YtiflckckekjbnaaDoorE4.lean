/- The engine, part 4: the quiet operations. -/
import Derived.Test.YtiflckckekjbnaaDoorE3
import Derived.Laws.Bits
import Derived.Laws.Small
import Derived.Laws.StructEq
namespace Go.Sx
open Go Go.RowKit
set_option linter.all false

/-! ## What a test of the short form tells -/

theorem szOf_info {P : Program} {T : TypeId} {n : Nat} (h : (szOf P T == some n) = true) : ∃ i, P.info? T = some i ∧ i.size = n := by
  unfold szOf at h
  cases hi : P.info? T with
  | none => rw [hi] at h; simp at h
  | some i => rw [hi] at h; exact ⟨i, rfl, by simpa using h⟩
theorem run_sizeOf {P : Program} {T : TypeId} {n : Nat} (h : (szOf P T == some n) = true) (w : World) : (sizeOf T).run P w = .ok n w := by
  obtain ⟨i, h1, h2⟩ := szOf_info h
  simp [sizeOf, typeInfo, program, Sem.run, h1, h2]
theorem run_underlying {P : Program} {T : TypeId} {d : TypeDesc} (h : P.underlying T = some d) (w : World) : (underlying T).run P w = .ok d w := by
  simp [underlying, program, Sem.run, h]

theorem quiet_val {P : Program} {o : Oper} {a : Act} {w : World} {v : Value} {C : World → Prop} (h : (execOp a.eval o).run P w = .ok (.value v) w) : o.quietAt P a C w v := by
  unfold Oper.quietAt
  rw [h]
  exact ⟨rfl, rfl⟩
theorem run_v {P : Program} {s : Sem Value} {w : World} {v : Value} (h : s.run P w = .ok v w) : (do pure (Next.value (← s)) : Sem Next).run P w = .ok (.value v) w := by
  simp [h]

section
variable {C : Cfg} {t : TS} {m : List Chunk}

theorem q_mv {x : Operand} {v : Value} (h : ev t x = some v) : Q1 C m t (.mv x) v := by
  intro o ho a ha w hw
  refine quiet_val ?_
  simp only [okOp] at ho
  split at ho
  · rename_i x' heq
    have e := oeq_sound ho; subst e
    simp [execOp, heq, ha.ev h]
  · rename_i x' heq
    have e := oeq_sound ho; subst e
    simp [execOp, heq, ha.ev h]
  · cases ho

theorem q_pick {c : Bool} {x y z : Operand} {v : Value} (hc : ev t x = some (.bool c)) (ha : c = true → ev t y = some v) (hb : c = false → ev t z = some v) : Q1 C m t (.pick x y z) v := pick_q1 (u := v) hc ha hb

def bitsV (op : BinOp) (k : IntKind) (x y : Int) : Int :=
  match op with
  | .and => k.wrap (BitVec.ofInt k.bits x &&& BitVec.ofInt k.bits y).toNat
  | .or => k.wrap (BitVec.ofInt k.bits x ||| BitVec.ofInt k.bits y).toNat
  | .xor => k.wrap (BitVec.ofInt k.bits x ^^^ BitVec.ofInt k.bits y).toNat
  | .andNot => k.wrap (BitVec.ofInt k.bits x &&& ~~~BitVec.ofInt k.bits y).toNat
  | _ => 0

def unV : UnOp → Value → Option Value
  | .neg, .int k n => some (.int k (k.wrap (0 - n)))
  | .xor, .int k n => some (.int k (bitsV .xor k (if k.signed then -1 else k.max) n))
  | .not, .bool b => some (.bool !b)
  | _, _ => none
theorem q_un {op : UnOp} {x : Operand} {u v : Value} (h : ev t x = some u) (hv : unV op u = some v) : Q1 C m t (.un op x) v := by
  intro o ho a ha w hw
  refine quiet_val ?_
  simp only [okOp] at ho
  split at ho
  · rename_i op' T x' heq
    simp only [Bool.and_eq_true, decide_eq_true_eq] at ho
    obtain ⟨h1, h2⟩ := ho
    have e := oeq_sound h2; subst e; subst h1
    simp only [execOp, heq, ha.ev h]
    refine run_v ?_
    unfold unV at hv
    split at hv
    · injection hv with hv; subst hv; rfl
    · injection hv with hv; subst hv; rfl
    · injection hv with hv; subst hv; rfl
    · cases hv
  · cases ho

def binV : BinOp → IntKind → Int → Int → Option Value
  | .add, k, x, y => some (.int k (k.wrap (x + y)))
  | .sub, k, x, y => some (.int k (k.wrap (x - y)))
  | .mul, k, x, y => some (.int k (k.wrap (x * y)))
  | .and, k, x, y => some (.int k (bitsV .and k x y))
  | .or, k, x, y => some (.int k (bitsV .or k x y))
  | .xor, k, x, y => some (.int k (bitsV .xor k x y))
  | .andNot, k, x, y => some (.int k (bitsV .andNot k x y))
  | .eql, _, x, y => some (.bool (x == y))
  | .neq, _, x, y => some (.bool (x != y))
  | .lss, _, x, y => some (.bool (decide (x < y)))
  | .leq, _, x, y => some (.bool (decide (x ≤ y)))
  | .gtr, _, x, y => some (.bool (decide (x > y)))
  | .geq, _, x, y => some (.bool (decide (x ≥ y)))
  | _, _, _, _ => none

theorem okOp_bin {P : Program} {o : Oper} {op : BinOp} {x y : Operand} (h : okOp P o (.bin op x y) = true) : ∃ T T', o.op = .binOp op T x y T' := by
  simp only [okOp] at h
  split at h
  · rename_i op' T x' y' T' heq
    simp only [Bool.and_eq_true, decide_eq_true_eq] at h
    obtain ⟨⟨h1, h2⟩, h3⟩ := h
    have e := oeq_sound h2; have e' := oeq_sound h3; subst e; subst e'; subst h1
    exact ⟨T, T', heq⟩
  · cases h

theorem q_bin {op : BinOp} {x y : Operand} {k : IntKind} {p q : Int} {v : Value} (hx : ev t x = some (.int k p)) (hy : ev t y = some (.int k q)) (hv : binV op k p q = some v) : Q1 C m t (.bin op x y) v := by
  intro o ho a ha w hw
  refine quiet_val ?_
  obtain ⟨T, T', heq⟩ := okOp_bin ho
  simp only [execOp, heq, ha.ev hx, ha.ev hy]
  refine run_v ?_
  unfold binV at hv
  split at hv <;> first
    | (cases hv; done)
    | (injection hv with hv; subst hv; simp [eqGuard_at_int, binOp, Op.intArith, Op.intBits, Op.intCmp, bitsV]; done)

theorem q_quo {x y : Operand} {k : IntKind} {p q : Int} (hx : ev t x = some (.int k p)) (hy : ev t y = some (.int k q)) (hq : q ≠ 0) : Q1 C m t (.bin .quo x y) (.int k (k.wrap (p.tdiv q))) := by
  intro o ho a ha w hw
  refine quiet_val ?_
  obtain ⟨T, T', heq⟩ := okOp_bin ho
  simp only [execOp, heq, ha.ev hx, ha.ev hy]
  refine run_v ?_
  simp [eqGuard_at_int, binOp, Op.intDiv, hq]
theorem q_rem {x y : Operand} {k : IntKind} {p q : Int} (hx : ev t x = some (.int k p)) (hy : ev t y = some (.int k q)) (hq : q ≠ 0) : Q1 C m t (.bin .rem x y) (.int k (p.tmod q)) := by
  intro o ho a ha w hw
  refine quiet_val ?_
  obtain ⟨T, T', heq⟩ := okOp_bin ho
  simp only [execOp, heq, ha.ev hx, ha.ev hy]
  refine run_v ?_
  simp [eqGuard_at_int, binOp, Op.intDiv, hq]
theorem q_shl {x y : Operand} {k k' : IntKind} {p q : Int} (hx : ev t x = some (.int k p)) (hy : ev t y = some (.int k' q)) (hq : 0 ≤ q) : Q1 C m t (.bin .shl x y) (.int k (k.wrap (p * 2 ^ min q.toNat k.bits))) := by
  intro o ho a ha w hw
  refine quiet_val ?_
  obtain ⟨T, T', heq⟩ := okOp_bin ho
  simp only [execOp, heq, ha.ev hx, ha.ev hy]
  refine run_v ?_
  have : ¬ q < 0 := by omega
  simp [eqGuard_at_int, binOp, Op.shift, this]
theorem q_shr {x y : Operand} {k k' : IntKind} {p q : Int} (hx : ev t x = some (.int k p)) (hy : ev t y = some (.int k' q)) (hq : 0 ≤ q) : Q1 C m t (.bin .shr x y) (.int k (p.fdiv (2 ^ min q.toNat k.bits))) := by
  intro o ho a ha w hw
  refine quiet_val ?_
  obtain ⟨T, T', heq⟩ := okOp_bin ho
  simp only [execOp, heq, ha.ev hx, ha.ev hy]
  refine run_v ?_
  have : ¬ q < 0 := by omega
  simp [eqGuard_at_int, binOp, Op.shift, this]

theorem q_beq {neg : Bool} {x y : Operand} {p q : Bool} (hx : ev t x = some (.bool p)) (hy : ev t y = some (.bool q)) : Q1 C m t (.beq neg x y) (.bool (bif neg then !(p == q) else p == q)) := by
  intro o ho a ha w hw
  refine quiet_val ?_
  simp only [okOp] at ho
  split at ho
  · rename_i op' T x' y' T' heq
    simp only [Bool.and_eq_true, decide_eq_true_eq] at ho
    obtain ⟨⟨⟨h1, h2⟩, h3⟩, h4⟩ := ho
    have e := oeq_sound h2; have e' := oeq_sound h3; subst e; subst e'
    split at h4
    · rename_i hu
      simp only [execOp, heq, ha.ev hx, ha.ev hy]
      refine run_v ?_
      cases neg
      · simp only [Bool.false_eq_true, if_false] at h1
        subst h1
        rw [Sem.run_bind, eqGuard_at_bool, Sem.run_pure, Result.andThen_ok]
        show (do pure (Value.bool (← Op.equal T (.bool p) (.bool q))) : Sem Value).run C.P w = _
        rw [Sem.run_bind, run_equal_bool w T p q hu]; rfl
      · simp only [if_true] at h1
        subst h1
        rw [Sem.run_bind, eqGuard_at_bool, Sem.run_pure, Result.andThen_ok]
        show (do pure (Value.bool (!(← Op.equal T (.bool p) (.bool q)))) : Sem Value).run C.P w = _
        rw [Sem.run_bind, run_equal_bool w T p q hu]; rfl
    · cases h4
  · cases ho

theorem q_conv {k k' : IntKind} {x : Operand} {n : Int} (h : ev t x = some (.int k' n)) : Q1 C m t (.conv k x) (.int k (k.wrap n)) := by
  intro o ho a ha w hw
  refine quiet_val ?_
  simp only [okOp] at ho
  split at ho
  · rename_i S D x' heq
    simp only [Bool.and_eq_true] at ho
    obtain ⟨⟨h1, h2⟩, h3⟩ := ho
    have e := oeq_sound h1; subst e
    split at h2
    · rename_i k2 hD
      have hk : k2 = k := by simpa using h2
      subst hk
      obtain ⟨dS, hS⟩ := Option.isSome_iff_exists.1 h3
      simp only [execOp, heq, ha.ev h]
      refine run_v ?_
      simp only [convert, Sem.run_bind, run_underlying hS, run_underlying hD, Result.andThen_ok]
      cases dS <;> rfl
    · cases h2
  · cases ho

/-! ### Memory -/

theorem okOp_ld {P : Program} {o : Oper} {n : Nat} {ag : Bool} {x : Operand} (h : okOp P o (.ld n ag x) = true) : ∃ T, o.op = .load T x ∧ szOf P T = some n ∧ aggOf P T = some ag := by
  simp only [okOp] at h
  split at h
  · rename_i T x' heq
    simp only [Bool.and_eq_true, beq_iff_eq] at h
    obtain ⟨⟨h1, h2⟩, h3⟩ := h
    have e := oeq_sound h1; subst e
    exact ⟨T, heq, h2, h3⟩
  · cases h

theorem run_load_at {P : Program} {o : Oper} {n : Nat} {ag : Bool} {x : Operand} {a : Act} {w : World} {b off : Nat} {l : List Value} (ho : okOp P o (.ld n ag x) = true) (hx : a.eval x = .pointer (some ⟨b, off, none⟩))
    (hl : l.length = n) (hc : ∀ k, k < n → w.cell? ⟨b, off + k, none⟩ = l[k]?) (h1 : ag = false → n = 1) : (execOp a.eval o).run P w = .ok (.value (if ag then .agg l.toArray else l.getD 0 undef)) w := by
  obtain ⟨T, heq, hs, hag⟩ := okOp_ld ho
  simp only [execOp, heq, hx]
  refine run_v ?_
  simp only [Instr.loadAt, Instr.sureAddr, Sem.run_bind, Sem.run_pure, Result.andThen_ok]
  exact run_loadVar hs hag hl hc h1

/-- A part of a block that is known. -/
theorem q_ld {n : Nat} {x : Operand} {b off : Nat} {T : TypeId} {fz : Nat × Nat} {s p : List Seg} (hx : ev t x = some (.pointer (some ⟨b, off, none⟩))) (hb : Has b (.cells (cells s).toArray T fz) m) (hs : sub s off n = some p) :
    Q1 C m t (.ld n true x) (agg p) := by
  intro o ho a ha w hw
  obtain ⟨e1, e2, e3⟩ := sub_cells hs
  have h := hw.own _ hb.mem
  refine quiet_val ((run_load_at ho (ha.ev hx) (l := cells p) (by rw [cells_length]; exact e2) (fun k hk => ?_) (fun h => by cases h)).trans rfl)
  simp only [World.cell?, h]
  rw [e1, List.getElem?_take_of_lt hk, List.getElem?_drop]
  simp
theorem q_ld1 {x : Operand} {b off : Nat} {T : TypeId} {fz : Nat × Nat} {s : List Seg} {v : Value} (hx : ev t x = some (.pointer (some ⟨b, off, none⟩))) (hb : Has b (.cells (cells s).toArray T fz) m) (hs : cellAt s off = some v) :
    Q1 C m t (.ld 1 false x) v := by
  intro o ho a ha w hw
  have h := hw.own _ hb.mem
  rw [cellAt_eq] at hs
  refine quiet_val ((run_load_at ho (ha.ev hx) (l := [v]) rfl (fun k hk => ?_) (fun _ => rfl)).trans rfl)
  obtain rfl : k = 0 := by omega
  simp only [World.cell?, h]
  simpa using hs
/-- .. at a place that is reckoned: numbers. -/
theorem q_ldi {x : Operand} {b base i len : Nat} {T : TypeId} {fz : Nat × Nat} {s : List Seg} {k : IntKind} {xs : List Int} (hx : ev t x = some (.pointer (some ⟨b, base + i * 1, none⟩))) (hb : Has b (.cells (cells s).toArray T fz) m)
    (hs : segAt s base = some (.ints k len xs)) (hi : i < len) : Q1 C m t (.ld 1 false x) (.int k (xs.getD i 0)) := by
  intro o ho a ha w hw
  have h := hw.own _ hb.mem
  refine quiet_val ((run_load_at ho (ha.ev hx) (l := [.int k (xs.getD i 0)]) rfl (fun k hk => ?_) (fun _ => rfl)).trans rfl)
  obtain rfl : k = 0 := by omega
  simp only [World.cell?, h]
  have := segAt_cells hs i hi
  simp only [Seg.cells, intsCells_get hi] at this
  simpa using this
/-- .. at a place that is reckoned: an element of several cells, or a part of it. -/
theorem rows_part {s : List Seg} {base w len i : Nat} {g : Nat → List Value} {q p : List Seg} {c n : Nat} (hs : segAt s base = some (.rows w len g)) (hi : i < len) (hq : g i = cells q) (hw : width q = w) (hp : sub q c n = some p) (k : Nat) (hk : k < n) :
    (cells s)[base + i * w + c + k]? = (cells p)[k]? := by
  obtain ⟨e1, e2, e3⟩ := sub_cells hp
  have hn : c + n ≤ w := by rcases e3 with e3 | e3 <;> omega
  have hle : i * w + w ≤ len * w := by rw [← Nat.succ_mul]; exact Nat.mul_le_mul_right w hi
  have := segAt_cells hs (i * w + (c + k)) (by simp only [Seg.width]; omega)
  rw [show base + i * w + c + k = base + (i * w + (c + k)) by omega, this]
  simp only [Seg.cells]
  rw [rowsCells_get2 hi (by omega), hq, fit_same (by rw [cells_length]; exact hw), e1, List.getElem?_take_of_lt hk, List.getElem?_drop]
theorem q_ldr {n : Nat} {x : Operand} {b base i w len c : Nat} {T : TypeId} {fz : Nat × Nat} {s q p : List Seg} {g : Nat → List Value} (hx : ev t x = some (.pointer (some ⟨b, base + i * w + c, none⟩))) (hb : Has b (.cells (cells s).toArray T fz) m)
    (hs : segAt s base = some (.rows w len g)) (hi : i < len) (hq : g i = cells q) (hw : width q = w) (hp : sub q c n = some p) : Q1 C m t (.ld n true x) (agg p) := by
  intro o ho a ha wd hwd
  have h := hwd.own _ hb.mem
  obtain ⟨e1, e2, e3⟩ := sub_cells hp
  refine quiet_val ((run_load_at ho (ha.ev hx) (l := cells p) (by rw [cells_length]; exact e2) (fun k hk => ?_) (fun h => by cases h)).trans rfl)
  simp only [World.cell?, h]
  have := rows_part hs hi hq hw hp k hk
  simpa using this
theorem q_ldr1 {x : Operand} {b base i w len c : Nat} {T : TypeId} {fz : Nat × Nat} {s q : List Seg} {g : Nat → List Value} {v : Value} (hx : ev t x = some (.pointer (some ⟨b, base + i * w + c, none⟩))) (hb : Has b (.cells (cells s).toArray T fz) m)
    (hs : segAt s base = some (.rows w len g)) (hi : i < len) (hq : g i = cells q) (hw : width q = w) (hp : cellAt q c = some v) : Q1 C m t (.ld 1 false x) v := by
  intro o ho a ha wd hwd
  have h := hwd.own _ hb.mem
  rw [cellAt_eq] at hp
  have hcw : c < w := by
    have := (List.getElem?_eq_some_iff.1 hp).1
    rw [cells_length, hw] at this; exact this
  have hle : i * w + w ≤ len * w := by rw [← Nat.succ_mul]; exact Nat.mul_le_mul_right w hi
  refine quiet_val ((run_load_at ho (ha.ev hx) (l := [v]) rfl (fun k hk => ?_) (fun _ => rfl)).trans rfl)
  obtain rfl : k = 0 := by omega
  simp only [World.cell?, h]
  have := segAt_cells hs (i * w + c) (by simp only [Seg.width]; omega)
  simp only [Seg.cells] at this
  rw [rowsCells_get2 hi hcw, hq, fit_same (by rw [cells_length]; exact hw), hp] at this
  simpa [Nat.add_assoc] using this

/-- Memory that was there at the begin, and that is read alone. -/
structure Mem (W : World) (b off : Nat) (s : List Seg) : Prop where
  cell : ∀ i, i < width s → W.cell? ⟨b, off + i, none⟩ = (cells s)[i]?
  lt : b < W.heap.size

theorem Mem.now {C : Cfg} {m : List Chunk} {w : World} {b off : Nat} {s : List Seg} (h : Mem C.W0 b off s) (hS : b ∉ C.S) (hw : Sat C.W0 C.S m w) {i : Nat} (hi : i < width s) : w.cell? ⟨b, off + i, none⟩ = (cells s)[i]? := by
  rw [← h.cell i hi]
  unfold World.cell?
  rw [hw.fr.block b h.lt hS]

theorem q_mem {n : Nat} {x : Operand} {b o0 off : Nat} {s p : List Seg} (hx : ev t x = some (.pointer (some ⟨b, o0 + off, none⟩))) (hm : Mem C.W0 b o0 s) (hS : b ∉ C.S) (hs : sub s off n = some p) :
    Q1 C m t (.ld n true x) (agg p) := by
  intro o ho a ha w hw
  obtain ⟨e1, e2, e3⟩ := sub_cells hs
  refine quiet_val ((run_load_at ho (ha.ev hx) (l := cells p) (by rw [cells_length]; exact e2) (fun k hk => ?_) (fun h => by cases h)).trans rfl)
  rw [Nat.add_assoc, hm.now hS hw (i := off + k) (by rcases e3 with e3 | e3 <;> omega), e1, List.getElem?_take_of_lt hk, List.getElem?_drop]
theorem q_mem1 {x : Operand} {b o0 off : Nat} {s : List Seg} {v : Value} (hx : ev t x = some (.pointer (some ⟨b, o0 + off, none⟩))) (hm : Mem C.W0 b o0 s) (hS : b ∉ C.S) (hs : cellAt s off = some v) :
    Q1 C m t (.ld 1 false x) v := by
  intro o ho a ha w hw
  rw [cellAt_eq] at hs
  have hlt : off < width s := by
    have := (List.getElem?_eq_some_iff.1 hs).1
    rw [cells_length] at this; exact this
  refine quiet_val ((run_load_at ho (ha.ev hx) (l := [v]) rfl (fun k hk => ?_) (fun _ => rfl)).trans rfl)
  obtain rfl : k = 0 := by omega
  rw [Nat.add_zero, hm.now hS hw hlt, hs]; rfl
/-- An element of a list of numbers. -/
theorem q_memi {x : Operand} {b o0 i len : Nat} {k : IntKind} {xs : List Int} (hx : ev t x = some (.pointer (some ⟨b, o0 + i * 1, none⟩))) (hm : Mem C.W0 b o0 [.ints k len xs]) (hS : b ∉ C.S) (hi : i < len) :
    Q1 C m t (.ld 1 false x) (.int k (xs.getD i 0)) := by
  intro o ho a ha w hw
  refine quiet_val ((run_load_at ho (ha.ev hx) (l := [.int k (xs.getD i 0)]) rfl (fun k hk => ?_) (fun _ => rfl)).trans rfl)
  obtain rfl : k = 0 := by omega
  rw [Nat.add_zero, Nat.mul_one, hm.now hS hw (by simpa [width, Seg.width] using hi)]
  simp [cells, Seg.cells, intsCells_get hi]
theorem q_memr {n : Nat} {x : Operand} {b o0 i w len c : Nat} {q p : List Seg} {g : Nat → List Value} (hx : ev t x = some (.pointer (some ⟨b, o0 + i * w + c, none⟩))) (hm : Mem C.W0 b o0 [.rows w len g]) (hS : b ∉ C.S)
    (hi : i < len) (hq : g i = cells q) (hw : width q = w) (hp : sub q c n = some p) : Q1 C m t (.ld n true x) (agg p) := by
  intro o ho a ha wd hwd
  obtain ⟨e1, e2, e3⟩ := sub_cells hp
  have hn : c + n ≤ w ∨ n = 0 := by rcases e3 with e3 | e3 <;> omega
  have hle : i * w + w ≤ len * w := by rw [← Nat.succ_mul]; exact Nat.mul_le_mul_right w hi
  refine quiet_val ((run_load_at ho (ha.ev hx) (l := cells p) (by rw [cells_length]; exact e2) (fun k hk => ?_) (fun h => by cases h)).trans rfl)
  rw [show o0 + i * w + c + k = o0 + (i * w + c + k) by omega, hm.now hS hwd (by simp only [width, Seg.width]; omega)]
  have := rows_part (s := [.rows w len g]) (base := 0) rfl hi hq hw hp k hk
  simpa using this
theorem q_memr1 {x : Operand} {b o0 i w len c : Nat} {q : List Seg} {g : Nat → List Value} {v : Value} (hx : ev t x = some (.pointer (some ⟨b, o0 + i * w + c, none⟩))) (hm : Mem C.W0 b o0 [.rows w len g]) (hS : b ∉ C.S)
    (hi : i < len) (hq : g i = cells q) (hw : width q = w) (hp : cellAt q c = some v) : Q1 C m t (.ld 1 false x) v := by
  intro o ho a ha wd hwd
  rw [cellAt_eq] at hp
  have hcw : c < w := by
    have := (List.getElem?_eq_some_iff.1 hp).1
    rw [cells_length, hw] at this; exact this
  have hle : i * w + w ≤ len * w := by rw [← Nat.succ_mul]; exact Nat.mul_le_mul_right w hi
  refine quiet_val ((run_load_at ho (ha.ev hx) (l := [v]) rfl (fun k hk => ?_) (fun _ => rfl)).trans rfl)
  obtain rfl : k = 0 := by omega
  rw [Nat.add_zero, Nat.add_assoc, hm.now hS hwd (by simp only [width, Seg.width]; omega)]
  simp only [cells, Seg.cells, List.append_nil]
  rw [rowsCells_get2 hi hcw, hq, fit_same (by rw [cells_length]; exact hw), hp]; rfl

/-! ### Addresses, parts -/

theorem q_fa {off : Nat} {x : Operand} {b o1 : Nat} (h : ev t x = some (.pointer (some ⟨b, o1, none⟩))) : Q1 C m t (.fa off x) (.pointer (some ⟨b, o1 + off, none⟩)) := by
  intro o ho a ha w hw
  refine quiet_val ?_
  simp only [okOp] at ho
  split at ho
  · rename_i T x' f heq
    simp only [Bool.and_eq_true] at ho
    obtain ⟨h1, h2⟩ := ho
    have e := oeq_sound h1; subst e
    split at h2
    · rename_i fs hu
      split at h2
      · rename_i fd hf
        simp only [Bool.and_eq_true, decide_eq_true_eq] at h2
        obtain ⟨h3, h4⟩ := h2
        subst h3
        split at h4
        · rename_i sz hsz
          have hne : sz ≠ 0 := by simpa using h4
          simp only [execOp, heq, ha.ev h]
          refine run_v ?_
          simp only [Instr.fieldAt, Sem.run_bind, run_underlying hu, Result.andThen_ok, hf, Instr.sureAddr, Sem.run_pure, fieldPlace, run_sizeOf (T := fd.type) (n := sz) (by rw [hsz]; simp), hne, if_false, Addr.add_lit]
        · cases h4
      · cases h2
    · cases h2
  · cases ho

theorem q_ia {len w : Nat} {x i : Operand} {b o1 : Nat} {k : IntKind} {z : Int} (h : ev t x = some (.pointer (some ⟨b, o1, none⟩))) (hi : ev t i = some (.int k z)) (hz : 0 ≤ z ∧ z < len) :
    Q1 C m t (.ia len w x i) (.pointer (some ⟨b, o1 + z.toNat * w, none⟩)) := by
  intro o ho a ha wd hw
  refine quiet_val ?_
  simp only [okOp] at ho
  split at ho
  · rename_i T x' i' heq
    simp only [Bool.and_eq_true] at ho
    obtain ⟨⟨h1, h2⟩, h3⟩ := ho
    have e := oeq_sound h1; have e' := oeq_sound h2; subst e; subst e'
    split at h3
    · rename_i l el hu
      simp only [Bool.and_eq_true, decide_eq_true_eq] at h3
      obtain ⟨h4, h5⟩ := h3
      subst h4
      simp only [execOp, heq, ha.ev h, ha.ev hi]
      refine run_v ?_
      simp [Instr.indexAt, asIntOf, run_underlying hu, Instr.sureAddr, hz, run_sizeOf h5, Addr.add_lit]
    · cases h3
  · cases ho

theorem q_ias {w : Nat} {x i : Operand} {b o1 len cp : Nat} {k : IntKind} {z : Int} (h : ev t x = some (.slice (some ⟨b, o1, none⟩) len cp)) (hi : ev t i = some (.int k z)) (hz : 0 ≤ z ∧ z < len) :
    Q1 C m t (.ias w x i) (.pointer (some ⟨b, o1 + z.toNat * w, none⟩)) := by
  intro o ho a ha wd hw
  refine quiet_val ?_
  simp only [okOp] at ho
  split at ho
  · rename_i T x' i' heq
    simp only [Bool.and_eq_true] at ho
    obtain ⟨⟨h1, h2⟩, h3⟩ := ho
    have e := oeq_sound h1; have e' := oeq_sound h2; subst e; subst e'
    split at h3
    · rename_i el hu
      simp only [execOp, heq, ha.ev h, ha.ev hi]
      refine run_v ?_
      simp [Instr.indexAt, asIntOf, run_underlying hu, Instr.sureAddr, hz, run_sizeOf h3, Addr.add_lit]
    · cases h3
  · cases ho

theorem run_part {P : Program} {T : TypeId} {n off : Nat} {ag : Bool} (hs : (szOf P T == some n) = true) (hag : (aggOf P T == some ag) = true) {l : List Value} {w : World} {v : Value}
    (hv : ag = true → v = .agg ((l.drop off).take n).toArray) (hv1 : ag = false → l[off]? = some v) : (part T l.toArray off).run P w = .ok v w := by
  unfold aggOf at hag
  cases hu : P.underlying T with
  | none => rw [hu] at hag; simp at hag
  | some dsc =>
    rw [hu] at hag
    simp only [Option.map_some, beq_iff_eq, Option.some.injEq] at hag
    have hagg : (isAgg T).run P w = .ok ag w := by
      simp only [isAgg, Sem.run_bind, run_underlying hu, Result.andThen_ok]
      subst hag
      cases dsc <;> rfl
    simp only [part, Sem.run_bind, hagg, Result.andThen_ok]
    cases ag with
    | true =>
      rw [hv rfl]
      simp [run_sizeOf hs, List.extract_eq_take_drop]
    | false => simp [hv1 rfl]

theorem okOp_fld {P : Program} {o : Oper} {off n : Nat} {ag : Bool} {x : Operand} (h : okOp P o (.fld off n ag x) = true) :
    ∃ T f fs fd, o.op = .field T x f ∧ P.underlying T = some (.struct fs) ∧ fs[f]? = some fd ∧ fd.offset = off ∧ (szOf P fd.type == some n) = true ∧ (aggOf P fd.type == some ag) = true := by
  simp only [okOp] at h
  split at h
  · rename_i T x' f heq
    simp only [Bool.and_eq_true] at h
    obtain ⟨h1, h2⟩ := h
    have e := oeq_sound h1; subst e
    split at h2
    · rename_i fs hu
      split at h2
      · rename_i fd hf
        simp only [Bool.and_eq_true, decide_eq_true_eq] at h2
        obtain ⟨⟨h3, h4⟩, h5⟩ := h2
        exact ⟨T, f, fs, fd, heq, hu, hf, h3, h4, h5⟩
      · cases h2
    · cases h2
  · cases h
theorem q_fld {off n : Nat} {x : Operand} {s p : List Seg} (h : ev t x = some (agg s)) (hs : sub s off n = some p) : Q1 C m t (.fld off n true x) (agg p) := by
  intro o ho a ha w hw
  refine quiet_val ?_
  obtain ⟨T, f, fs, fd, heq, hu, hf, h3, h4, h5⟩ := okOp_fld ho
  subst h3
  simp only [execOp, heq, ha.ev h]
  refine run_v ?_
  simp only [Instr.field, agg, Sem.run_bind, run_underlying hu, Result.andThen_ok, hf, asAgg, Sem.run_pure]
  exact run_part h4 h5 (fun _ => by rw [(sub_cells hs).1]) (fun h => by cases h)
theorem q_fld1 {off : Nat} {x : Operand} {s : List Seg} {v : Value} (h : ev t x = some (agg s)) (hs : cellAt s off = some v) : Q1 C m t (.fld off 1 false x) v := by
  intro o ho a ha w hw
  refine quiet_val ?_
  obtain ⟨T, f, fs, fd, heq, hu, hf, h3, h4, h5⟩ := okOp_fld ho
  subst h3
  simp only [execOp, heq, ha.ev h]
  refine run_v ?_
  simp only [Instr.field, agg, Sem.run_bind, run_underlying hu, Result.andThen_ok, hf, asAgg, Sem.run_pure]
  exact run_part h4 h5 (fun h => by cases h) (fun _ => by rw [← cellAt_eq]; exact hs)

theorem okOp_idx {P : Program} {o : Oper} {len w : Nat} {ag : Bool} {x i : Operand} (h : okOp P o (.idx len w ag x i) = true) :
    ∃ T e, o.op = .index T x i ∧ P.underlying T = some (.array len e) ∧ (szOf P e == some w) = true ∧ (aggOf P e == some ag) = true := by
  simp only [okOp] at h
  split at h
  · rename_i T x' i' heq
    simp only [Bool.and_eq_true] at h
    obtain ⟨⟨h1, h2⟩, h3⟩ := h
    have e := oeq_sound h1; have e' := oeq_sound h2; subst e; subst e'
    split at h3
    · rename_i l el hu
      simp only [Bool.and_eq_true, decide_eq_true_eq] at h3
      obtain ⟨⟨h4, h5⟩, h6⟩ := h3
      subst h4
      exact ⟨T, el, heq, hu, h5, h6⟩
    · cases h3
  · cases h
theorem q_idxi {len : Nat} {x i : Operand} {k k' : IntKind} {xs : List Int} {z : Int} (h : ev t x = some (agg [.ints k len xs])) (hi : ev t i = some (.int k' z)) (hz : 0 ≤ z ∧ z < len) :
    Q1 C m t (.idx len 1 false x i) (.int k (xs.getD z.toNat 0)) := by
  intro o ho a ha w hw
  refine quiet_val ?_
  obtain ⟨T, e, heq, hu, h5, h6⟩ := okOp_idx ho
  simp only [execOp, heq, ha.ev h, ha.ev hi]
  refine run_v ?_
  simp only [Instr.index, agg, asIntOf, Sem.run_bind, Sem.run_pure, run_underlying hu, Result.andThen_ok, hz, and_self, if_true, run_sizeOf h5]
  refine run_part h5 h6 (fun h => by cases h) (fun _ => ?_)
  rw [Nat.mul_one]
  simp only [cells, Seg.cells, List.append_nil]
  exact intsCells_get (by omega)
theorem q_idxr {len w : Nat} {x i : Operand} {k' : IntKind} {g : Nat → List Value} {q : List Seg} {z : Int} (h : ev t x = some (agg [.rows w len g])) (hi : ev t i = some (.int k' z)) (hz : 0 ≤ z ∧ z < len) (hq : g z.toNat = cells q) (hw : width q = w) :
    Q1 C m t (.idx len w true x i) (agg q) := by
  intro o ho a ha wd hwd
  refine quiet_val ?_
  obtain ⟨T, e, heq, hu, h5, h6⟩ := okOp_idx ho
  simp only [execOp, heq, ha.ev h, ha.ev hi]
  refine run_v ?_
  simp only [Instr.index, agg, asIntOf, Sem.run_bind, Sem.run_pure, run_underlying hu, Result.andThen_ok, hz, and_self, if_true, run_sizeOf h5]
  refine run_part h5 h6 (fun _ => ?_) (fun h => by cases h)
  congr 2
  have hlt : z.toNat < len := by omega
  have hle : z.toNat * w + w ≤ len * w := by rw [← Nat.succ_mul]; exact Nat.mul_le_mul_right w hlt
  simp only [cells, Seg.cells, List.append_nil]
  apply List.ext_getElem?
  intro j
  by_cases hj : j < w
  · rw [List.getElem?_take_of_lt hj, List.getElem?_drop, rowsCells_get2 hlt hj, hq, fit_same (by rw [cells_length]; exact hw)]
  · rw [List.getElem?_eq_none (by rw [cells_length]; omega), List.getElem?_eq_none (by rw [List.length_take]; omega)]

theorem q_ext {x : Operand} {i : Nat} {vs : Array Value} {v : Value} (h : ev t x = some (.tuple vs)) (hv : vs.toList[i]? = some v) : Q1 C m t (.ext x i) v := by
  have hv : vs[i]? = some v := by rw [← Array.getElem?_toList]; exact hv
  intro o ho a ha w hw
  refine quiet_val ?_
  simp only [okOp] at ho
  split at ho
  · rename_i x' i' heq
    simp only [Bool.and_eq_true, decide_eq_true_eq] at ho
    obtain ⟨h1, h2⟩ := ho
    have e := oeq_sound h1; subst e; subst h2
    simp only [execOp, heq, ha.ev h]
    refine run_v ?_
    simp [Instr.extract, hv]
  · cases ho

/-! ### Calls that only answer, len -/

theorem okOp_call {P : Program} {o : Oper} {f : FuncId} {args : List Operand} (h : okOp P o (.call f args) = true) : ∃ c, o.op = .call c ∧ c.callee = .value (.func f) ∧ c.args.toList = args ∧ ∃ fn, P.funcs[f]? = some fn ∧ fn.body.isSome = true ∧ (fn.name == "runtime.NumGoroutine") = false := by
  simp only [okOp] at h
  split at h
  · rename_i c heq
    simp only [Bool.and_eq_true] at h
    obtain ⟨⟨h1, h2⟩, h3⟩ := h
    split at h1
    · rename_i f' hc
      rw [Nat.beq_eq] at h1; subst h1
      split at h3
      · rename_i fn hfn
        simp only [Bool.and_eq_true, Bool.not_eq_true'] at h3
        exact ⟨c, heq, hc, oeqL_sound h2, fn, hfn, h3.1, h3.2⟩
      · cases h3
    · cases h1
  · cases h

theorem run_call {P : Program} {o : Oper} {f : FuncId} {args : List Operand} {a : Act} {w : World} (h : okOp P o (.call f args) = true) : (execOp a.eval o).run P w = .ok (.enter f (args.map a.eval).toArray) w := by
  obtain ⟨c, heq, hc, ha, fn, hfn, hb, hn⟩ := okOp_call h
  have hb' : fn.body.isNone = false := by cases hfb : fn.body <;> simp_all
  have hargs : c.args.map a.eval = (args.map a.eval).toArray := by
    rw [← ha, ← Array.toList_map, Array.toArray_toList]
  have hf : (Act.eval a) (.func f) = .func (.func f) #[] #[] := rfl
  simp only [execOp, heq, resolve, hc, hf, Deferred.ofValue, Sem.run_bind, Sem.run_pure, Result.andThen_ok, invoke, Array.append_empty, Array.empty_append, hargs, callFunc]
  have hn' : fn.name ≠ "runtime.NumGoroutine" := by simpa using hn
  have hb2 : fn.body ≠ none := by intro e; rw [e] at hb; cases hb
  simp [program, Sem.run, hfn, hn', hb2]

theorem q_call {f : FuncId} {args : List Operand} {vs : List Value} {v : Value} (ha : evL t args = some vs) (h : ∀ w, Sat C.W0 C.S m w → Calls C.P f vs.toArray w (ret1 w v)) : Q1 C m t (.call f args) v := by
  intro o ho a hat w hw
  unfold Oper.quietAt
  rw [run_call ho, hat.evL ha]
  exact ⟨rfl, (h w hw).mono fun e w' he => he⟩

theorem okOp_len {P : Program} {o : Oper} {x : Operand} (h : okOp P o (.len x) = true) : ∃ c T e, o.op = .call c ∧ c.callee = .builtin .len ∧ c.args = #[x] ∧ c.argTypes[0]? = some T ∧ P.underlying T = some (.slice e) := by
  simp only [okOp] at h
  split at h
  · rename_i c heq
    simp only [Bool.and_eq_true] at h
    obtain ⟨⟨h1, h2⟩, h3⟩ := h
    split at h1
    · rename_i hc
      split at h3
      · rename_i e he
        have ha : c.args = #[x] := by
          have := oeqL_sound h2
          rw [← Array.toArray_toList (xs := c.args), this]
        cases hT : c.argTypes[0]? with
        | none => rw [hT] at he; cases he
        | some T => rw [hT] at he; exact ⟨c, T, e, heq, hc, ha, hT, he⟩
      · cases h3
    · cases h1
  · cases h
theorem q_len {x : Operand} {a0 : Option Addr} {n c : Nat} (h : ev t x = some (.slice a0 n c)) : Q1 C m t (.len x) (.int .i64 n) := by
  intro o ho a ha w hw
  refine quiet_val ?_
  obtain ⟨c, T, e, heq, hc, hargs, hT, hu⟩ := okOp_len ho
  simp only [execOp, heq, resolve, hc, Sem.run_bind, Sem.run_pure, Result.andThen_ok, invoke, builtin, hargs]
  have hx := ha.ev h
  simp [Builtin.len_, hT, hx, run_underlying hu, goInt]
theorem q_cap {x : Operand} {a0 : Option Addr} {n c : Nat} (h : ev t x = some (.slice a0 n c)) : Q1 C m t (.cap x) (.int .i64 c) := by
  intro o ho a ha w hw
  refine quiet_val ?_
  simp only [okOp] at ho
  split at ho
  · rename_i c' heq
    simp only [Bool.and_eq_true] at ho
    obtain ⟨⟨h1, h2⟩, h3⟩ := ho
    split at h1
    · rename_i hc
      split at h3
      · rename_i e he
        have hargs : c'.args = #[x] := by
          have := oeqL_sound h2
          rw [← Array.toArray_toList (xs := c'.args), this]
        cases hT : c'.argTypes[0]? with
        | none => rw [hT] at he; cases he
        | some T =>
          rw [hT] at he
          simp only [Option.bind_some] at he
          simp only [execOp, heq, resolve, hc, Sem.run_bind, Sem.run_pure, Result.andThen_ok, invoke, builtin, hargs]
          have hx := ha.ev h
          simp [Builtin.cap_, hT, hx, run_underlying he, goInt]
      · cases h3
    · cases h1
  · cases ho
theorem q_lena {n : Nat} {t : TS} : Q1 C m t (.lena n) (.int .i64 n) := by
  intro o ho a ha w hw
  refine quiet_val ?_
  simp only [okOp] at ho
  split at ho
  · rename_i c' heq
    simp only [Bool.and_eq_true] at ho
    obtain ⟨⟨h1, h2⟩, h3⟩ := ho
    split at h1
    · rename_i hc
      split at h3
      · rename_i k e he
        have hk : k = n := by simpa using h3
        subst hk
        split at h2
        · rename_i x hx
          have hargs : c'.args = #[x] := by rw [← Array.toArray_toList (xs := c'.args), hx]
          cases hT : c'.argTypes[0]? with
          | none => rw [hT] at he; cases he
          | some T =>
            rw [hT] at he
            simp only [Option.bind_some] at he
            simp only [execOp, heq, resolve, hc, Sem.run_bind, Sem.run_pure, Result.andThen_ok, invoke, builtin, hargs]
            simp [Builtin.len_, hT, run_underlying he, goInt]
        · cases h2
      · cases h3
    · cases h1
  · cases ho
end
end Go.Sx
