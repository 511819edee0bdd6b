/- The engine, part 6: what is made and written; values put together; slicing. -/
import Derived.Test.YtiflckckekjbnaaDoorE5
import Derived.Laws.Rows
namespace Go.Sx
open Go Go.RowKit
set_option linter.all false

/-! ### New blocks, written blocks -/

/-- May a value stand in one cell? -/
def one1 : Value → Bool
  | .agg _ | .tuple _ => false
  | _ => true


theorem Sat.lt {W0 : World} {S : List Nat} {m : List Chunk} {w : World} (h : Sat W0 S m w) {c : Chunk} (hc : c ∈ m) : c.b < w.heap.size := (Array.getElem?_eq_some_iff.1 (h.own c hc)).1

theorem Sat.alloc {W0 : World} {S : List Nat} {m : List Chunk} {w : World} (h : Sat W0 S m w) (o : Obj) : Sat W0 S (⟨w.heap.size, o⟩ :: m) (w.alloc o) := by
  have hb : Below w.heap.size w (w.alloc o) := (Below.refl _ _).alloc (Nat.le_refl _) _
  have h' := h.of_below hb
  refine ⟨h'.fr, ?_, ?_, ?_⟩
  · intro c hc
    rcases List.mem_cons.1 hc with rfl | hc
    · show (w.heap.push o)[w.heap.size]? = some o
      simp
    · exact h'.own c hc
  · intro c hc
    rcases List.mem_cons.1 hc with rfl | hc
    · exact .inl h.fr.size
    · exact h'.base c hc
  · rw [List.map_cons, List.nodup_cons]
    refine ⟨?_, h.dist⟩
    intro hm
    obtain ⟨c, hc, e⟩ := List.mem_map.1 hm
    have := h.lt hc
    simp only at e
    omega

/-- One known block is written. -/
inductive Upd (b : Nat) (o o' : Obj) : List Chunk → List Chunk → Prop
  | here {m : List Chunk} : Upd b o o' (⟨b, o⟩ :: m) (⟨b, o'⟩ :: m)
  | there {c : Chunk} {m m' : List Chunk} : Upd b o o' m m' → Upd b o o' (c :: m) (c :: m')
  | app {ms m m' : List Chunk} : Upd b o o' m m' → Upd b o o' (ms ++ m) (ms ++ m')

theorem Upd.mem {b : Nat} {o o' : Obj} {m m' : List Chunk} (h : Upd b o o' m m') : (⟨b, o⟩ : Chunk) ∈ m := by
  induction h with
  | here => exact List.mem_cons_self
  | there _ ih => exact List.mem_cons_of_mem _ ih
  | app _ ih => exact List.mem_append_right _ ih
theorem Upd.blocks {b : Nat} {o o' : Obj} {m m' : List Chunk} (h : Upd b o o' m m') : m'.map (·.b) = m.map (·.b) := by
  induction h with
  | here => rfl
  | there _ ih => simp [ih]
  | app _ ih => simp [ih]
theorem Upd.new {b : Nat} {o o' : Obj} {m m' : List Chunk} (h : Upd b o o' m m') (hd : (m.map (·.b)).Nodup) : ∀ c ∈ m', (c = ⟨b, o'⟩) ∨ (c ∈ m ∧ c.b ≠ b) := by
  induction h with
  | here =>
    intro c hc
    rcases List.mem_cons.1 hc with rfl | hc
    · exact .inl rfl
    · refine .inr ⟨List.mem_cons_of_mem _ hc, ?_⟩
      rw [List.map_cons, List.nodup_cons] at hd
      intro e
      exact hd.1 (List.mem_map.2 ⟨c, hc, e⟩)
  | there h ih =>
    rename_i c0 m m'
    rw [List.map_cons, List.nodup_cons] at hd
    intro c hc
    rcases List.mem_cons.1 hc with rfl | hc
    · refine .inr ⟨List.mem_cons_self, ?_⟩
      intro e
      exact hd.1 (List.mem_map.2 ⟨_, h.mem, e.symm⟩)
    · rcases ih hd.2 c hc with h1 | ⟨h1, h2⟩
      · exact .inl h1
      · exact .inr ⟨List.mem_cons_of_mem _ h1, h2⟩
  | app h ih =>
    rw [List.map_append, List.nodup_append] at hd
    intro c hc
    rcases List.mem_append.1 hc with hc | hc
    · refine .inr ⟨List.mem_append_left _ hc, fun e => ?_⟩
      exact hd.2.2 _ (List.mem_map.2 ⟨c, hc, rfl⟩) _ (List.mem_map.2 ⟨_, h.mem, rfl⟩) e
    · rcases ih hd.2.1 c hc with h1 | ⟨h1, h2⟩
      · exact .inl h1
      · exact .inr ⟨List.mem_append_right _ h1, h2⟩

theorem Sat.upd {W0 : World} {S : List Nat} {m m' : List Chunk} {w w' : World} {b : Nat} {o o' : Obj} (h : Sat W0 S m w) (hu : Upd b o o' m m') (h1 : w'.heap[b]? = some o') (h2 : ∀ k, k ≠ b → w'.heap[k]? = w.heap[k]?)
    (hs : w'.heap.size = w.heap.size) (hos : w'.os = w.os) (ht : w'.tape = w.tape) (ho : w'.output = w.output) : Sat W0 S m' w' := by
  have hb := h.base _ hu.mem
  refine ⟨⟨hos.trans h.fr.os, ht.trans h.fr.tape, ho.trans h.fr.output, by rw [hs]; exact h.fr.size, fun k hk hS => ?_⟩, ?_, ?_, by rw [hu.blocks]; exact h.dist⟩
  · have hne : k ≠ b := by
      intro e; subst e
      rcases hb with hb | hb
      · simp only at hb; omega
      · exact hS hb
    rw [h2 k hne]; exact h.fr.block k hk hS
  · intro c hc
    rcases hu.new h.dist c hc with rfl | ⟨hc1, hc2⟩
    · exact h1
    · rw [h2 _ hc2]; exact h.own c hc1
  · intro c hc
    rcases hu.new h.dist c hc with rfl | ⟨hc1, hc2⟩
    · exact hb
    · exact h.base c hc1

/-- Cells written one behind the other into a known block. -/
theorem run_storeCells {P : Program} {W0 : World} {S : List Nat} {T : TypeId} {b : Nat} : ∀ (vs : List Value) (off i : Nat) (l : List Value) (m m1 : List Chunk) (w : World), Sat W0 S m w → Upd b (.cells l.toArray T (0, 0)) (.cells (splice l (off + i) vs).toArray T (0, 0)) m m1 →
    off + i + vs.length ≤ l.length → (∀ v ∈ vs, one1 v = true) → ∃ w', (storeCells ⟨b, off, none⟩ vs i).run P w = .ok () w' ∧ Sat W0 S m1 w'
  | [], off, i, l, m, m1, w, hw, hu, hl, hv => by
    refine ⟨w, by simp [storeCells], ?_⟩
    have e : splice l (off + i) [] = l := by simp [splice]
    rw [e] at hu
    exact hw.upd hu (hw.own _ hu.mem) (fun _ _ => rfl) rfl rfl rfl rfl
  | v :: vs, off, i, l, m, m1, w, hw, hu, hl, hv => by
    have hown := hw.own _ hu.mem
    simp only [List.length_cons] at hl
    have hv1 := hv v List.mem_cons_self
    have hcell : w.cell? ⟨b, off + i, none⟩ = some (l[off + i]'(by omega)) := by
      simp [World.cell?, hown]
    have hfz : w.frozen? ⟨b, off + i, none⟩ = false := by
      simp [World.frozen?, hown]
    have hrun : (store (Addr.add ⟨b, off, none⟩ i) v).run P w = .ok () (w.setCell ⟨b, off + i, none⟩ v) := by
      rw [Addr.add_lit]
      cases v <;> simp_all [store, Sem.run, one1]
    -- the state behind the first store
    have hset : (w.setCell ⟨b, off + i, none⟩ v).heap[b]? = some (.cells (l.set (off + i) v).toArray T (0, 0)) := by
      simp only [World.setCell, Array.getElem?_modify, hown]
      simp
    have hoth : ∀ k, k ≠ b → (w.setCell ⟨b, off + i, none⟩ v).heap[k]? = w.heap[k]? := fun k hk => Below.heap_setCell _ _ _ _ hk
    -- the list of blocks behind it
    have mid : ∀ {m m1 : List Chunk} {o1 o2 o3 : Obj}, Upd b o1 o3 m m1 → ∃ m2, Upd b o1 o2 m m2 ∧ Upd b o2 o3 m2 m1 := by
      intro m m1 o1 o2 o3 h
      induction h with
      | here => exact ⟨_, .here, .here⟩
      | there _ ih => obtain ⟨m2, a, b⟩ := ih; exact ⟨_, .there a, .there b⟩
      | app _ ih => obtain ⟨m2, a, b⟩ := ih; exact ⟨_, .app a, .app b⟩
    obtain ⟨m2, hu1, hu2⟩ := mid (o2 := .cells (l.set (off + i) v).toArray T (0, 0)) hu
    have hw2 : Sat W0 S m2 (w.setCell ⟨b, off + i, none⟩ v) := hw.upd hu1 hset hoth (by simp [World.setCell]) rfl rfl rfl
    have hsp : splice l (off + i) (v :: vs) = splice (l.set (off + i) v) (off + (i + 1)) vs := by
      unfold splice
      rw [show off + (i + 1) = off + i + 1 by omega, List.drop_set_of_lt (by omega)]
      have : (l.set (off + i) v).take (off + i + 1) = l.take (off + i) ++ [v] := by
        rw [List.take_succ_eq_append_getElem (by rw [List.length_set]; omega), List.take_set_of_le (Nat.le_refl _)]
        simp
      rw [this]
      simp only [List.length_cons, List.append_assoc, List.cons_append, List.nil_append]
      rw [show off + i + (vs.length + 1) = off + i + 1 + vs.length by omega]
    rw [hsp] at hu2
    obtain ⟨w', hr, hs⟩ := run_storeCells (P := P) vs off (i + 1) (l.set (off + i) v) m2 m1 _ hw2 hu2 (by rw [List.length_set]; omega) (fun u hu => hv u (List.mem_cons_of_mem _ hu))
    exact ⟨w', by simp only [storeCells, Sem.run_bind, hrun, Result.andThen_ok]; exact hr, hs⟩

def scalS : Seg → Bool
  | .one v => one1 v
  | .ints _ _ _ => true
  | .rows _ _ _ => false
def scal : List Seg → Bool
  | [] => true
  | s :: r => scalS s && scal r
theorem scal_ok : ∀ {s : List Seg}, scal s = true → ∀ v ∈ cells s, one1 v = true
  | [], _, v, hv => by simp [cells] at hv
  | s :: r, h, v, hv => by
    simp only [scal, Bool.and_eq_true] at h
    simp only [cells, List.mem_append] at hv
    rcases hv with hv | hv
    · cases s with
      | one u => simp only [Seg.cells, List.mem_singleton] at hv; subst hv; exact h.1
      | ints k n xs =>
        simp only [Seg.cells, intsCells, List.mem_map] at hv
        obtain ⟨i, _, rfl⟩ := hv; rfl
      | rows w n g => simp [scalS] at h
    · exact scal_ok h.2 v hv

theorem splice_splice {l a v : List Value} {base o : Nat} (ha : a.length + base ≤ l.length) (hov : o + v.length ≤ a.length) (hla : ∀ j, j < a.length → l[base + j]? = a[j]?) :
    splice l base (splice a o v) = splice l (base + o) v := by
  have hsl : (splice a o v).length = a.length := by simp only [splice, List.length_append, List.length_take, List.length_drop]; omega
  apply List.ext_getElem?
  intro j
  have hsp : splice l base (splice a o v) = l.take base ++ (splice a o v ++ l.drop (base + (splice a o v).length)) := rfl
  rw [hsp, hsl]
  by_cases h1 : j < base
  · rw [List.getElem?_append_left (by rw [List.length_take]; omega), List.getElem?_take_of_lt h1]
    unfold splice
    rw [List.getElem?_append_left (by rw [List.length_take]; omega), List.getElem?_take_of_lt (by omega)]
  · rw [List.getElem?_append_right (by rw [List.length_take]; omega), List.length_take, Nat.min_eq_left (by omega)]
    by_cases h2 : j < base + a.length
    · rw [List.getElem?_append_left (by omega)]
      unfold splice
      have hj := hla (j - base) (by omega)
      rw [show base + (j - base) = j by omega] at hj
      by_cases a1 : j - base < o
      · rw [List.getElem?_append_left (by rw [List.length_take]; omega), List.getElem?_append_left (by rw [List.length_take]; omega), List.getElem?_take_of_lt a1, List.getElem?_take_of_lt (by omega), hj]
      · have L : (a.take o ++ (v ++ a.drop (o + v.length)))[j - base]? = (v ++ a.drop (o + v.length))[j - base - o]? := by
          rw [List.getElem?_append_right (by rw [List.length_take]; omega), List.length_take, Nat.min_eq_left (by omega)]
        have R : (l.take (base + o) ++ (v ++ l.drop (base + o + v.length)))[j]? = (v ++ l.drop (base + o + v.length))[j - (base + o)]? := by
          rw [List.getElem?_append_right (by rw [List.length_take]; omega), List.length_take, Nat.min_eq_left (by omega)]
        rw [L, R]
        by_cases a2 : j - base < o + v.length
        · rw [List.getElem?_append_left (by omega), List.getElem?_append_left (by omega)]
          congr 1; omega
        · rw [List.getElem?_append_right (by omega), List.getElem?_append_right (by omega), List.getElem?_drop, List.getElem?_drop]
          rw [show base + o + v.length + (j - (base + o) - v.length) = j by omega, hj]
          congr 1; omega
    · rw [List.getElem?_append_right (by omega), List.getElem?_drop, hsl]
      unfold splice
      rw [List.getElem?_append_right (by rw [List.length_take]; omega), List.length_take, Nat.min_eq_left (by omega), List.getElem?_append_right (by omega), List.getElem?_drop]
      congr 1; omega

theorem okOp_st {P : Program} {o : Oper} {n : Nat} {x y : Operand} (h : okOp P o (.st n x y) = true) : ∃ T, o.op = .store T x y ∧ (szOf P T == some n) = true := by
  simp only [okOp] at h
  split at h
  · rename_i T x' y' heq
    simp only [Bool.and_eq_true] at h
    obtain ⟨⟨h1, h2⟩, h3⟩ := h
    have e := oeq_sound h1; have e' := oeq_sound h2; subst e; subst e'
    exact ⟨T, heq, h3⟩
  · cases h

section
variable {C : Cfg} {t : TS} {m m' : List Chunk} {K : KN}

theorem ef_put {n : Nat} {x y : Operand} {b off : Nat} {T : TypeId} {l vs : List Value} {u : Value} (hx : ev t x = some (.pointer (some ⟨b, off, none⟩))) (hy : ev t y = some u) (hu : u.cells.toList = vs) (hn : vs.length = n)
    (hup : Upd b (.cells l.toArray T (0, 0)) (.cells (splice l off vs).toArray T (0, 0)) m m') (hl : off + n ≤ l.length) (hone : ∀ v ∈ vs, one1 v = true) (h : K t m') : EF C m t none (.st n x y) K := by
  intro o ho hd a ha w hw
  have hd' := okD_none hd
  obtain ⟨T', heq, hs⟩ := okOp_st ho
  obtain ⟨w', hr, hsat⟩ := run_storeCells (P := C.P) vs off 0 l m m' w hw (by simpa using hup) (by omega) hone
  unfold Oper.wp
  have hsz : u.cells.size = n := by rw [← Array.length_toList, hu, hn]
  have hrun : (execOp a.eval o).run C.P w = .ok .skip w' := by
    simp only [execOp, heq, ha.ev hx, ha.ev hy]
    simp [Instr.storeAt, Instr.sureAddr, storeVar, run_sizeOf hs, hsz, hu, hr]
  rw [hrun]
  simp only [Oper.upon, hd']
  exact ⟨t, m', h, ha, hsat⟩

/-- An aggregate is stored. -/
theorem ef_st {n : Nat} {x y : Operand} {b off : Nat} {T : TypeId} {s p q : List Seg} (hx : ev t x = some (.pointer (some ⟨b, off, none⟩))) (hy : ev t y = some (agg p)) (hn : width p = n) (hq : putL s off p = some q) (hsc : scal p = true)
    (hup : Upd b (.cells (cells s).toArray T (0, 0)) (.cells (cells q).toArray T (0, 0)) m m') (h : K t m') : EF C m t none (.st n x y) K := by
  obtain ⟨e1, e2, e3⟩ := putL_cells hq
  rw [e1] at hup
  exact ef_put hx hy (vs := cells p) (by simp [agg, Value.cells]) (by rw [cells_length]; exact hn) hup (by rw [cells_length]; omega) (scal_ok hsc) h
/-- One cell is stored. -/
theorem ef_st1 {x y : Operand} {b off : Nat} {T : TypeId} {s q : List Seg} {v : Value} (hx : ev t x = some (.pointer (some ⟨b, off, none⟩))) (hy : ev t y = some v) (hv : one1 v = true) (hq : putC s off v = some q)
    (hup : Upd b (.cells (cells s).toArray T (0, 0)) (.cells (cells q).toArray T (0, 0)) m m') (h : K t m') : EF C m t none (.st 1 x y) K := by
  obtain ⟨e1, e2, e3⟩ := putC_cells hq
  rw [e1, set_splice (by rw [cells_length]; exact e3)] at hup
  refine ef_put hx hy (vs := [v]) ?_ rfl hup (by rw [cells_length]; omega) (by simpa using hv) h
  cases v <;> simp_all [Value.cells, one1]
/-- A number at a place that is reckoned. -/
theorem ef_sti {x y : Operand} {b base i len : Nat} {T : TypeId} {s q : List Seg} {k : IntKind} {xs : List Int} {z : Int} (hx : ev t x = some (.pointer (some ⟨b, base + i * 1, none⟩))) (hy : ev t y = some (.int k z))
    (hs : segAt s base = some (.ints k len xs)) (hi : i < len) (hq : segSet s base (.ints k len (setD xs i z)) = some q)
    (hup : Upd b (.cells (cells s).toArray T (0, 0)) (.cells (cells q).toArray T (0, 0)) m m') (h : K t m') : EF C m t none (.st 1 x y) K := by
  obtain ⟨e1, e2, e3⟩ := segSet_cells hq
  have hw := segAt_width hs
  simp only [Seg.width] at hw e3
  have key : cells q = splice (cells s) (base + i * 1) [.int k z] := by
    rw [e1]
    simp only [Seg.cells, intsCells_setD k len xs i z hi]
    rw [set_splice (by rw [intsCells_length]; exact hi), Nat.mul_one]
    exact splice_splice (by rw [intsCells_length, cells_length]; omega) (by rw [intsCells_length]; simp; omega) (fun j hj => segAt_cells hs j (by rw [intsCells_length] at hj; exact hj))
  rw [key] at hup
  exact ef_put hx hy (vs := [.int k z]) rfl rfl hup (by rw [cells_length]; omega) (by simp [one1]) h
/-- An element at a place that is reckoned. -/
theorem ef_str {x y : Operand} {b base i w len : Nat} {T : TypeId} {s p q : List Seg} {g : Nat → List Value} (hx : ev t x = some (.pointer (some ⟨b, base + i * w, none⟩))) (hy : ev t y = some (agg p)) (hn : width p = w) (hsc : scal p = true)
    (hs : segAt s base = some (.rows w len g)) (hi : i < len) (hq : segSet s base (.rows w len (updR g i (cells p))) = some q)
    (hup : Upd b (.cells (cells s).toArray T (0, 0)) (.cells (cells q).toArray T (0, 0)) m m') (h : K t m') : EF C m t none (.st w x y) K := by
  obtain ⟨e1, e2, e3⟩ := segSet_cells hq
  have hw := segAt_width hs
  simp only [Seg.width] at hw e3
  have hle : i * w + w ≤ len * w := by rw [← Nat.succ_mul]; exact Nat.mul_le_mul_right w hi
  have hpl : (cells p).length = w := by rw [cells_length]; exact hn
  have key : cells q = splice (cells s) (base + i * w) (cells p) := by
    rw [e1]
    simp only [Seg.cells, rowsCells_upd w len g i (cells p) hi hpl]
    exact splice_splice (by rw [rowsCells_length, cells_length]; omega) (by rw [rowsCells_length]; omega) (fun j hj => segAt_cells hs j (by rw [rowsCells_length] at hj; exact hj))
  rw [key] at hup
  exact ef_put hx hy (vs := cells p) (by simp [agg, Value.cells]) (by rw [cells_length]; exact hn) hup (by rw [cells_length]; omega) (scal_ok hsc) h

theorem ef_al {d : Nat} {T : TypeId} {z : List Seg} (h : ∀ b, C.W0.heap.size ≤ b → K ((d, .pointer (some ⟨b, 0, none⟩)) :: t) (ck b T z :: m)) : EF C m t (some d) (.al T z) K := by
  intro o ho hd a ha w hw
  obtain ⟨hd1, hd2⟩ := okD_some hd
  simp only [okOp] at ho
  split at ho
  · rename_i T' heq
    simp only [Bool.and_eq_true, decide_eq_true_eq] at ho
    obtain ⟨h1, h2⟩ := ho
    subst h1
    split at h2
    · rename_i l hl
      have hc := veqL_sound h2
      unfold zOf at hl
      cases hi : C.P.info? T' with
      | none => rw [hi] at hl; cases hl
      | some inf =>
        rw [hi] at hl
        simp only [Option.bind_some] at hl
        cases hz : inf.zero with
        | none => rw [hz] at hl; cases hl
        | some zv =>
          rw [hz] at hl
          simp only [Option.map_some, Option.some.injEq] at hl
          have hcells : zv.cells = (cells z).toArray := by rw [← hc, ← hl, Array.toArray_toList]
          unfold Oper.wp
          have hrun : (execOp a.eval o).run C.P w = .ok (.value (.pointer (some ⟨w.heap.size, 0, none⟩))) (w.alloc (.cells (cells z).toArray T' (0, 0))) := by
            simp only [execOp, heq]
            simp only [Instr.alloc, zeroValue, typeInfo, Sem.run_bind, run_program, Result.andThen_ok, hi, Sem.run_pure, hz, newVar, newRow, hcells]
            rfl
          rw [hrun]
          simp only [Oper.upon, hd1]
          exact ⟨_, _, h w.heap.size hw.fr.size, ha.put hd2 _, hw.alloc _⟩
    · cases h2
  · cases ho

theorem ef_bx0 {d : Nat} {T : TypeId} {x : Operand} {v : Value} {s : List Seg} (hx : ev t x = some v) (hv : v.cells = (cells s).toArray) (h : ∀ b, C.W0.heap.size ≤ b → K ((d, .pointer (some ⟨b, 0, none⟩)) :: t) (ck b T s :: m)) : EF C m t (some d) (.bx T x) K := by
  intro o ho hd a ha w hw
  obtain ⟨hd1, hd2⟩ := okD_some hd
  simp only [okOp] at ho
  split at ho
  · rename_i T' x' heq
    simp only [Bool.and_eq_true, decide_eq_true_eq] at ho
    obtain ⟨h1, h2⟩ := ho
    have e := oeq_sound h2; subst e; subst h1
    unfold Oper.wp
    have hrun : (execOp a.eval o).run C.P w = .ok (.value (.pointer (some ⟨w.heap.size, 0, none⟩))) (w.alloc (.cells (cells s).toArray T' (0, 0))) := by
      simp only [execOp, heq, ha.ev hx]
      simp only [Instr.box, newVar, newRow, Sem.run_bind, hv]
      rfl
    rw [hrun]
    simp only [Oper.upon, hd1]
    exact ⟨_, _, h w.heap.size hw.fr.size, ha.put hd2 _, hw.alloc _⟩
  · cases ho
theorem ef_bx {d : Nat} {T : TypeId} {x : Operand} {s : List Seg} (hx : ev t x = some (agg s)) (h : ∀ b, C.W0.heap.size ≤ b → K ((d, .pointer (some ⟨b, 0, none⟩)) :: t) (ck b T s :: m)) : EF C m t (some d) (.bx T x) K :=
  ef_bx0 hx rfl h
theorem ef_bx1 {d : Nat} {T : TypeId} {x : Operand} {v : Value} (hx : ev t x = some v) (hv : v.cells = #[v]) (h : ∀ b, C.W0.heap.size ≤ b → K ((d, .pointer (some ⟨b, 0, none⟩)) :: t) (ck b T [.one v] :: m)) : EF C m t (some d) (.bx T x) K :=
  ef_bx0 (s := [.one v]) hx (by rw [hv]; rfl) h

/-- A call that changes what is known: what there is behind it. -/
theorem ef_call {d : Nat} {f : FuncId} {args : List Operand} {vs : List Value} (ha : evL t args = some vs)
    (h : ∀ w, Sat C.W0 C.S m w → Calls C.P f vs.toArray w (fun e w' => ∃ v m', e = .returned v ∧ Sat C.W0 C.S m' w' ∧ K ((d, v) :: t) m')) : EF C m t (some d) (.call f args) K := by
  intro o ho hd a hat w hw
  obtain ⟨hd1, hd2⟩ := okD_some hd
  unfold Oper.wp
  rw [run_call ho, hat.evL ha]
  simp only [Oper.upon]
  refine (h w hw).mono ?_
  rintro e w' ⟨v, m', rfl, hs, hk⟩
  rw [hd1]
  exact ⟨_, _, hk, hat.put hd2 v, hs⟩

/-! ### Values put together -/

inductive BdR (t : TS) : List Seg → List (Nat × Nat × Operand) → List Seg → Prop
  | nil {z : List Seg} : BdR t z [] z
  | one {z z' q : List Seg} {off : Nat} {x : Operand} {v : Value} {r : List (Nat × Nat × Operand)} : ev t x = some v → v.cells = #[v] → putC z off v = some z' → BdR t z' r q → BdR t z ((off, 1, x) :: r) q
  | agg {z z' p q : List Seg} {off n : Nat} {x : Operand} {r : List (Nat × Nat × Operand)} : ev t x = some (agg p) → width p = n → putL z off p = some z' → BdR t z' r q → BdR t z ((off, n, x) :: r) q

theorem foldl_splice (off : Nat) : ∀ (vs : List Value) (j : Nat) (l : List Value), off + j + vs.length ≤ l.length →
    (vs.zipIdx j).foldl (fun (cs : Array Value) (p : Value × Nat) => cs.setIfInBounds (off + p.2) p.1) l.toArray = (splice l (off + j) vs).toArray
  | [], j, l, h => by simp [splice]
  | v :: vs, j, l, h => by
    simp only [List.length_cons] at h
    rw [List.zipIdx_cons, List.foldl_cons]
    have e : l.toArray.setIfInBounds (off + j) v = (l.set (off + j) v).toArray := by simp
    rw [e, foldl_splice off vs (j + 1) (l.set (off + j) v) (by rw [List.length_set]; omega)]
    congr 1
    unfold splice
    rw [show off + (j + 1) = off + j + 1 by omega, List.drop_set_of_lt (by omega)]
    have : (l.set (off + j) v).take (off + j + 1) = l.take (off + j) ++ [v] := by
      rw [List.take_succ_eq_append_getElem (by rw [List.length_set]; omega), List.take_set_of_le (Nat.le_refl _)]
      simp
    rw [this]
    simp only [List.length_cons, List.append_assoc, List.cons_append, List.nil_append]
    rw [show off + j + (vs.length + 1) = off + j + 1 + vs.length by omega]

/-- Where the parts lie, as the model finds it. -/
def placeF (P : Program) (T : TypeId) (i : Nat) : Option (Nat × Nat) :=
  match P.underlying T with
  | some (.struct fs) => (fs[i]?).bind fun f => (szOf P f.type).map fun n => (f.offset, n)
  | some (.array _ e) => (szOf P e).map fun s => (i * s, s)
  | _ => none

theorem fill_ok {P : Program} {T : TypeId} {a : Act} {n : Nat} (ha : SatT n t a) : ∀ {z q : List Seg} {parts : List (Nat × Nat × Operand)} {ps : List (Nat × Operand)}, BdR t z parts q → placeOk P T ps parts = true →
    Instr.fill (placeF P T) (cells z).toArray (ps.map fun p => (p.1, a.eval p.2)) = some (cells q).toArray
  | z, _, [], ps, .nil, hp => by
    cases ps with
    | nil => rfl
    | cons p ps => obtain ⟨i, x⟩ := p; simp [placeOk] at hp
  | z, q, (off, n1, x) :: r, ps, hb, hp => by
    cases ps with
    | nil => simp [placeOk] at hp
    | cons p ps =>
      obtain ⟨i, y⟩ := p
      simp only [placeOk, Bool.and_eq_true] at hp
      obtain ⟨⟨h1, h2⟩, h3⟩ := hp
      have e := oeq_sound h2; subst e
      have hpl : placeF P T i = some (off, n1) := by
        unfold placeF
        cases hu : P.underlying T with
        | none => rw [hu] at h1; cases h1
        | some d =>
          rw [hu] at h1
          cases d <;> simp only [Bool.false_eq_true] at h1
          · rename_i len el
            split at h1
            · rename_i s hs
              simp only [Bool.and_eq_true, decide_eq_true_eq] at h1
              obtain ⟨rfl, rfl⟩ := h1
              simp [hs]
            · cases h1
          · rename_i fs
            split at h1
            · rename_i f hf
              simp only [Bool.and_eq_true, decide_eq_true_eq, beq_iff_eq] at h1
              obtain ⟨rfl, h4⟩ := h1
              simp [hf, h4]
            · cases h1
      cases hb with
      | one hx hv hput hr =>
        rename_i z' v
        obtain ⟨e1, e2, e3⟩ := putC_cells hput
        have hcs : (a.eval y).cells = #[v] := by rw [ha.ev hx]; exact hv
        simp only [List.map_cons, Instr.fill, hpl, hcs]
        rw [if_neg (by simp [cells_length]; omega)]
        have := foldl_splice off [v] 0 (cells z) (by rw [cells_length]; simp; omega)
        have e4 : ((#[v] : Array Value).zipIdx.foldl (fun (cs : Array Value) (p : Value × Nat) => cs.setIfInBounds (off + p.2) p.1) (cells z).toArray) = (cells z').toArray := by
          rw [e1, set_splice (by rw [cells_length]; exact e3)]
          simpa using this
        rw [e4]
        exact fill_ok ha hr h3
      | agg hx hw hput hr =>
        rename_i z' p
        obtain ⟨e1, e2, e3⟩ := putL_cells hput
        have hcs : (a.eval y).cells = (cells p).toArray := by rw [ha.ev hx]; rfl
        simp only [List.map_cons, Instr.fill, hpl, hcs]
        rw [if_neg (by simp [cells_length]; omega)]
        have e4 : ((cells p).toArray.zipIdx.foldl (fun (cs : Array Value) (q : Value × Nat) => cs.setIfInBounds (off + q.2) q.1) (cells z).toArray) = (cells z').toArray := by
          rw [← Array.foldl_toList, e1]
          have := foldl_splice off (cells p) 0 (cells z) (by rw [cells_length, cells_length]; omega)
          simpa using this
        rw [e4]
        exact fill_ok ha hr h3

theorem run_places {P : Program} {w : World} : ∀ (l : List Field), (∀ f ∈ l, (szOf P f.type).isSome = true) → (l.mapM fun (f : Field) => (do pure (f.offset, ← sizeOf f.type) : Sem (Nat × Nat))).run P w = .ok (l.map fun f => (f.offset, (szOf P f.type).getD 0)) w
  | [], _ => by simp
  | f :: l, h => by
    obtain ⟨n, hn⟩ := Option.isSome_iff_exists.1 (h f List.mem_cons_self)
    simp only [List.mapM_cons, Sem.run_bind, run_sizeOf (T := f.type) (n := n) (by rw [hn]; simp), Result.andThen_ok, Sem.run_pure, run_places l (fun g hg => h g (List.mem_cons_of_mem _ hg)), List.map_cons, hn, Option.getD_some]

end
end Go.Sx
