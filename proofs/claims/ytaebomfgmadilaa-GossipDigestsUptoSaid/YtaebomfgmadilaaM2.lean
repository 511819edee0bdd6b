/- Texts of a proof, one behind the other: E13 E14 E15 E16 E17 E18 E19 E20 E21 E22 E23 E24 E25 E26 E27 E28 SA0 SA1 SA2 SA3 S1. -/
import Derived.Test.YtaebomfgmadilaaM1
import Derived.Laws.Externs
import Derived.RangeFuncLeaves
import Derived.RangeFuncRecord
import Derived.Laws.IdiomStrings
import Derived.Recover
import Derived.RecoverIn
import Derived.DefersIn
import Derived.WalkKit
import Derived.MapKept
import Derived.Maps.RangeRun
import Derived.Test.YtaebomfgmadilaaProg
/- The engine, part 13: make, slice literals, copy; append in numbers and in rows. -/
namespace Go.Sx
open Go Go.RowKit
set_option linter.all false

section
variable {C : Cfg} {m : List Chunk} {t : TS} {K : KN}

theorem fillS_ok {a : Act} {n w : Nat} (ha : SatT n t a) : ∀ {z q : List Seg} {parts : List (Nat × Nat × Operand)} {ps : List (Nat × Operand)}, BdR t z parts q → partsOk w ps parts = true →
    Instr.fill (fun i => some (i * w, w)) (cells z).toArray (ps.map fun p => (p.1, a.eval p.2)) = some (cells q).toArray
  | z, _, [], ps, .nil, hp => by
    cases ps with
    | nil => rfl
    | cons p ps => obtain ⟨i, x⟩ := p; simp [partsOk] at hp
  | z, q, (off, n1, x) :: r, ps, hb, hp => by
    cases ps with
    | nil => simp [partsOk] at hp
    | cons p ps =>
      obtain ⟨i, y⟩ := p
      simp only [partsOk, Bool.and_eq_true, Nat.beq_eq] at hp
      obtain ⟨⟨⟨h0, h1⟩, h2⟩, h3⟩ := hp
      have e := oeq_sound h2; subst e
      subst h0
      subst h1
      cases hb with
      | one hx hv hput hr =>
        rename_i z' v
        obtain ⟨e1, e2, e3⟩ := putC_cells hput
        have hcs : (a.eval y).cells = #[v] := by rw [ha.ev hx]; exact hv
        simp only [List.map_cons, Instr.fill, hcs]
        rw [if_neg (by simp [cells_length] at e3 ⊢; omega)]
        have := foldl_splice (i * 1) [v] 0 (cells z) (by rw [cells_length]; simp; omega)
        have e4 : ((#[v] : Array Value).zipIdx.foldl (fun (cs : Array Value) (p : Value × Nat) => cs.setIfInBounds (i * 1 + p.2) p.1) (cells z).toArray) = (cells z').toArray := by
          rw [e1, set_splice (by rw [cells_length]; exact e3)]
          simpa using this
        rw [e4]
        exact fillS_ok ha hr h3
      | agg hx hw hput hr =>
        rename_i z' p
        obtain ⟨e1, e2, e3⟩ := putL_cells hput
        have hcs : (a.eval y).cells = (cells p).toArray := by rw [ha.ev hx]; rfl
        simp only [List.map_cons, Instr.fill, hcs]
        rw [if_neg (by simp [cells_length]; omega)]
        have e4 : ((cells p).toArray.zipIdx.foldl (fun (cs : Array Value) (q : Value × Nat) => cs.setIfInBounds (i * n1 + q.2) q.1) (cells z).toArray) = (cells z').toArray := by
          rw [← Array.foldl_toList, e1]
          have := foldl_splice (i * n1) (cells p) 0 (cells z) (by rw [cells_length, cells_length]; omega)
          simpa using this
        rw [e4]
        exact fillS_ok ha hr h3

/-- A slice literal. -/
theorem ef_bs {d : Nat} {T : TypeId} {len w : Nat} {z q : List Seg} {parts : List (Nat × Nat × Operand)} (hb : BdR t z parts q)
    (h : ∀ b, C.W0.heap.size ≤ b → K ((d, .slice (some ⟨b, 0, none⟩) len len) :: t) (ck b T q :: m)) : EF C m t (some d) (.bs T len w z parts) K := by
  intro o ho hd a ha wd hw
  obtain ⟨hd1, hd2⟩ := okD_some hd
  simp only [okOp] at ho
  split at ho
  · rename_i ty len' ps heq
    simp only [Bool.and_eq_true, Nat.beq_eq] at ho
    obtain ⟨⟨⟨⟨⟨h1, h2⟩, h3⟩, h4⟩, h5⟩, h6⟩ := ho
    subst h2
    split at h1
    · rename_i E hu
      rw [decide_eq_true_eq] at h1; subst h1
      split at h4
      · rename_i q0 hq
        obtain ⟨i, hi, hsz⟩ := szOf_info h3
        obtain ⟨zv, hz1, hz2⟩ := zOf_spec hi hq
        have hsmall : ¬ len' * i.size > 2 ^ 24 := by
          have := Nat.le_of_ble_eq_true h6
          rw [hsz]; omega
        have hzc : ((Array.range (len' * w)).map fun j => q0.toArray[j % q0.toArray.size]!) = (cells z).toArray := by
          have := veqL_sound h4
          rw [← this, Array.toArray_toList]
        have hfill := fillS_ok (w := w) ha hb h5
        have hps' : (ps.map fun (x : Nat × Operand) => match x with | (i, x) => (i, a.eval x)) = (ps.map fun p => (p.1, a.eval p.2)) := rfl
        have hps : (ps.map fun p => (p.1, a.eval p.2)).toList = ps.toList.map fun p => (p.1, a.eval p.2) := by simp
        have hr : (Instr.buildSlice ty len' (ps.map fun (x : Nat × Operand) => match x with | (i, x) => (i, a.eval x))).run C.P wd = .ok (.slice (some ⟨wd.heap.size, 0, none⟩) len' len') (wd.alloc (.cells (cells q).toArray E)) := by
          rw [hps']
          by_cases hpos : len' * i.size = 0
          · have hzz : (cells z).toArray = #[] := by rw [← hzc, ← hsz, hpos]; simp [Array.range_zero']
            rw [hzz] at hfill
            rw [← hsz] at hfill
            simp [Instr.buildSlice, run_underlying hu, sizeOf, typeInfo, hi, hpos, hps, hfill, newRow, Array.range_zero']
          · refine run_buildSlice wd ty E len' _ (cells q).toArray i zv hu hi hz1 hsmall hpos ?_
            rw [hps, hz2, hsz, hzc]
            exact hfill
        have h2 : (execOp a.eval o).run C.P wd = (Result.ok (.slice (some ⟨wd.heap.size, 0, none⟩) len' len') (wd.alloc (.cells (cells q).toArray E)) : Result Value).andThen fun v w => .ok (.value v) w := by
          simp only [execOp, heq, Sem.run_bind, hr, Result.andThen_ok, Sem.run_pure]
        unfold Oper.wp
        rw [h2, Result.andThen_ok]
        simp only [Oper.upon]
        exact ⟨_, _, h wd.heap.size hw.fr.size, hd1 ▸ ha.put hd2 _, hw.alloc _⟩
      · cases h4
    · cases h1
  · cases ho

/-! ### In numbers -/

/-- The first n numbers from place o on. -/
def tk (xs : List Int) (o n : Nat) : List Int := (List.range n).map fun i => xs.getD (o + i) 0
theorem tk_length (xs : List Int) (o n : Nat) : (tk xs o n).length = n := by simp [tk]
theorem tk_getD (xs : List Int) (o n i : Nat) : (tk xs o n).getD i 0 = if i < n then xs.getD (o + i) 0 else 0 := by
  unfold tk
  by_cases h : i < n
  · simp [h]
  · simp [h]
theorem ints_tk (k : IntKind) (n : Nat) (xs : List Int) : intsCells k n xs = (tk xs 0 n).map (.int k) := by simp [intsCells, tk, Function.comp_def]
theorem splice_get {l p : List Value} {o : Nat} (h : o + p.length ≤ l.length) (j : Nat) : (splice l o p)[j]? = if o ≤ j ∧ j < o + p.length then p[j - o]? else l[j]? := by
  unfold splice
  by_cases h1 : j < o
  · rw [List.getElem?_append_left (by rw [List.length_take]; omega), if_neg (by omega), List.getElem?_take_of_lt h1]
  · rw [List.getElem?_append_right (by rw [List.length_take]; omega), List.length_take, Nat.min_eq_left (by omega)]
    by_cases h2 : j < o + p.length
    · rw [List.getElem?_append_left (by omega), if_pos ⟨by omega, h2⟩]
    · rw [List.getElem?_append_right (by omega), if_neg (by omega), List.getElem?_drop]
      congr 1; omega
theorem EF.less {d : Option Nat} {op : IOp} (h : EF C m t d op (fun t' m' => ∃ m2, K t' m2 ∧ List.Sublist m2 m')) : EF C m t d op K := by
  intro o ho hd a ha w hw
  refine Oper.wp_mono ?_ (h o ho hd a ha w hw)
  rintro a' w' ⟨t', m', ⟨m2, hk, hs⟩, h1, h2⟩
  exact ⟨t', m2, hk, h1, h2.sublist hs⟩

end
end Go.Sx
/- The engine, part 14: functions that hand out memory, or write what they are handed. -/
namespace Go.Sx
open Go Go.RowKit
set_option linter.all false

/-- A result, where it is kept. -/
def putT : Option Nat → Value → TS → TS
  | some d, v, t => (d, v) :: t
  | none, _, t => t

/-- The function returns a value; behind it the blocks of S are what m' says, with new ones; all else is as it was. -/
def retM (W0 : World) (S : List Nat) (R : Value → List Chunk → Prop) : Ending → World → Prop := fun e w' => ∃ v m, e = .returned v ∧ R v m ∧ Sat W0 S m w'

theorem sat_own {W0 : World} {S : List Nat} {m : List Chunk} {w : World} (h : Sat W0 S m w) {mS mr : List Chunk} (hp : List.Perm (mS ++ mr) m) : Sat w (mS.map (·.b)) mS w := by
  have h' := h.perm hp
  refine ⟨⟨rfl, rfl, rfl, Nat.le_refl _, fun _ _ _ => rfl⟩, fun c hc => h'.own c (List.mem_append_left _ hc), fun c hc => .inr (List.mem_map.2 ⟨c, hc, rfl⟩), ?_⟩
  have := h'.dist
  rw [List.map_append, List.nodup_append] at this
  exact this.1

theorem sat_behind {W0 : World} {S : List Nat} {m : List Chunk} {w w' : World} (h : Sat W0 S m w) {mS mr m' : List Chunk} (hp : List.Perm (mS ++ mr) m) (h' : Sat w (mS.map (·.b)) m' w') : Sat W0 S (m' ++ mr) w' := by
  have hh := h.perm hp
  have hd := hh.dist
  rw [List.map_append, List.nodup_append] at hd
  have hbase : ∀ c ∈ mS, W0.heap.size ≤ c.b ∨ c.b ∈ S := fun c hc => hh.base c (List.mem_append_left _ hc)
  have hr : ∀ c ∈ mr, c.b < w.heap.size ∧ c.b ∉ mS.map (·.b) := fun c hc => ⟨hh.lt (List.mem_append_right _ hc), fun hm => hd.2.2 _ hm _ (List.mem_map.2 ⟨c, hc, rfl⟩) rfl⟩
  refine ⟨⟨h'.fr.os.trans h.fr.os, h'.fr.tape.trans h.fr.tape, h'.fr.output.trans h.fr.output, Nat.le_trans h.fr.size h'.fr.size, fun k hk hS => ?_⟩, ?_, ?_, ?_⟩
  · rw [h'.fr.block k (Nat.lt_of_lt_of_le hk h.fr.size) ?_]
    · exact h.fr.block k hk hS
    · intro hm
      obtain ⟨c, hc, rfl⟩ := List.mem_map.1 hm
      rcases hbase c hc with h1 | h1
      · omega
      · exact hS h1
  · intro c hc
    rcases List.mem_append.1 hc with hc | hc
    · exact h'.own c hc
    · rw [h'.fr.block c.b (hr c hc).1 (hr c hc).2]
      exact hh.own c (List.mem_append_right _ hc)
  · intro c hc
    rcases List.mem_append.1 hc with hc | hc
    · rcases h'.base c hc with h1 | h1
      · exact .inl (Nat.le_trans h.fr.size h1)
      · obtain ⟨c', hc', e⟩ := List.mem_map.1 h1
        rw [← e]; exact hbase c' hc'
    · exact hh.base c (List.mem_append_right _ hc)
  · rw [List.map_append, List.nodup_append]
    refine ⟨h'.dist, hd.2.1, ?_⟩
    intro a ha b hb e
    subst e
    obtain ⟨c, hc, rfl⟩ := List.mem_map.1 ha
    obtain ⟨c2, hc2, e2⟩ := List.mem_map.1 hb
    have := hr c2 hc2
    rw [e2] at this
    rcases h'.base c hc with h1 | h1
    · omega
    · exact this.2 h1

section
variable {C : Cfg} {m : List Chunk} {t : TS} {K : KN}

/-- A call of a function that is handed the blocks 'mS' to write, and may hand out new ones. -/
theorem ef_callM {d : Option Nat} {f : FuncId} {args : List Operand} {vs : List Value} {mS mr : List Chunk} {R : Value → List Chunk → Prop} (ha : evL t args = some vs) (hp : List.Perm (mS ++ mr) m)
    (hc : ∀ w, Sat C.W0 C.S m w → Calls C.P f vs.toArray w (retM w (mS.map (·.b)) R))
    (h : ∀ v m', R v m' → K (putT d v t) (m' ++ mr)) : EF C m t d (.call f args) K := by
  intro o ho hd a hat w hw
  unfold Oper.wp
  rw [run_call ho, hat.evL ha]
  simp only [Oper.upon]
  refine (hc w hw).mono ?_
  rintro e w' ⟨v, m', rfl, hR, hs⟩
  have hsat := sat_behind hw hp hs
  cases d with
  | none =>
    have hd0 : o.dst = none := by revert hd; cases o.dst <;> simp [okD]
    rw [hd0]
    exact ⟨_, _, h v m' hR, hat, hsat⟩
  | some d =>
    obtain ⟨hd1, hd2⟩ := okD_some hd
    rw [hd1]
    exact ⟨_, _, h v m' hR, hat.put hd2 v, hsat⟩
/-- A call of a function that hands out new memory. -/
theorem ef_callF {d : Option Nat} {f : FuncId} {args : List Operand} {vs : List Value} {R : Value → List Chunk → Prop} (ha : evL t args = some vs)
    (hc : ∀ w, Sat C.W0 C.S m w → Calls C.P f vs.toArray w (retM w [] R))
    (h : ∀ v m', R v m' → K (putT d v t) (m' ++ m)) : EF C m t d (.call f args) K :=
  ef_callM (mS := []) ha (List.Perm.refl _) hc h
end
end Go.Sx
/- The engine, part 15: short rules for memory. -/
namespace Go.Sx
open Go Go.RowKit
set_option linter.all false

section
variable {C : Cfg} {m : List Chunk} {t : TS} {K : KN}

theorem src_of {size : Nat} {b off n c : Nat} {cs : List Value} (hl : cs.length = n * size) (h1 : ∀ u ∈ cs, one1 u = true)
    (h : ∀ w, Sat C.W0 C.S m w → ∀ i, i < n * size → w.cell? ⟨b, off + i, none⟩ = cs[i]?) : SrcV C m size (.slice (some ⟨b, off, none⟩) n c) n cs :=
  ⟨fun _ => rfl, fun w hw k hk => run_first hl (h w hw) hk, hl, h1⟩
theorem one_rows {w n : Nat} {g : Nat → List Value} (h : ∀ i, i < n → (g i).length = w ∧ ∀ u ∈ g i, one1 u = true) : ∀ u ∈ rowsCells w n g, one1 u = true := by
  intro u hu
  unfold rowsCells at hu
  obtain ⟨i, hi, hu⟩ := List.mem_flatMap.1 hu
  obtain ⟨h1, h2⟩ := h i (by simpa using hi)
  rw [fit_same h1] at hu
  exact h2 u hu
/-- Equality of two runs of numbers. -/
def ieq (n : Nat) (a b : List Int) : Bool := decide (tk a 0 n = tk b 0 n)
theorem ieq_cells {k : IntKind} {n : Nat} {a b : List Int} : ieq n a b = true ↔ cells [.ints k n a] = cells [.ints k n b] := by
  simp only [ieq, decide_eq_true_eq, cells, Seg.cells, List.append_nil, ints_tk]
  constructor
  · intro h; rw [h]
  · intro h
    refine List.map_inj_right (f := Value.int k) (fun x y e => ?_) |>.1 h
    cases e; rfl

end
end Go.Sx
/- The engine, part 16: mirrors: functions over plain data; the rules that tie them to the code. -/
namespace Go.Sx
open Go Go.RowKit
set_option linter.all false

/-! ## The words of a mirror -/
section
variable {α β : Type} {r : β} {G : Prop}
def bnd (x : α) (f : α → Option β) : Option β := f x
def chk (c : Bool) (o : Option β) : Option β := bif c then o else none
def opt (o : Option α) (f : α → Option β) : Option β := o.bind f
def jn {K : Type} (k : K) (g : K → Option β) : Option β := g k
def br (c : Bool) (a b : Option β) : Option β := bif c then a else b
/-- Rounds enough for whatever loop ends. -/
@[irreducible] def big : Nat := 18446744073709551616
theorem big_eq : big = 18446744073709551616 := by unfold big; rfl

theorem bnd_i {x : α} {f : α → Option β} (h : ∀ z, z = x → f z = some r → G) : bnd x f = some r → G := fun e => h x rfl e
theorem chk_i {c : Bool} {o : Option β} (h : c = true → o = some r → G) : chk c o = some r → G := by
  intro e; cases c
  · simp [chk] at e
  · exact h rfl e
theorem opt_i {o : Option α} {f : α → Option β} (h : ∀ y, o = some y → f y = some r → G) : opt o f = some r → G := by
  intro e; cases o with
  | none => simp [opt] at e
  | some y => exact h y rfl e
theorem jn_i {K : Type} {k : K} {g : K → Option β} (h : ∀ k', k' = k → g k' = some r → G) : jn k g = some r → G := fun e => h k rfl e
theorem br_t {c : Bool} {a b : Option β} (h : br c a b = some r) (hc : c = true) : a = some r := by subst hc; exact h
theorem br_f {c : Bool} {a b : Option β} (h : br c a b = some r) (hc : c = false) : b = some r := by subst hc; exact h
theorem ret_i {a : β} (h : a = r → G) : some a = some r → G := fun e => h (Option.some.inj e)
theorem none_i : (none : Option β) = some r → G := fun e => by cases e
end
def inB (z : Int) (n : Nat) : Bool := decide (0 ≤ z) && decide (z < n)
theorem inB_z {z : Int} {n : Nat} (h : inB z n = true) : 0 ≤ z ∧ z < n := by simpa [inB] using h
theorem inB_n {z : Int} {n : Nat} (h : inB z n = true) : z.toNat < n := by have := inB_z h; omega
def imp (a b : Bool) : Bool := !a || b
theorem imp_t {a b : Bool} (h : imp a b = true) (ha : a = true) : b = true := by subst ha; simpa [imp] using h
theorem imp_f {a b : Bool} (h : imp (!a) b = true) (ha : a = false) : b = true := by subst ha; simpa [imp] using h
theorem and_l {a b : Bool} (h : (a && b) = true) : a = true := by simp at h; exact h.1
theorem and_r {a b : Bool} (h : (a && b) = true) : b = true := by simp at h; exact h.2
/-- Bounds of a slicing. -/
def cutB (lo hi : Int) (n : Nat) : Bool := decide (0 ≤ lo) && decide (lo ≤ hi) && decide (hi ≤ n)
theorem cutB_z {lo hi : Int} {n : Nat} (h : cutB lo hi n = true) : 0 ≤ lo ∧ lo ≤ hi ∧ hi ≤ n := by simp [cutB] at h; omega
def setG {α : Type} (z : α) (xs : List α) (i : Nat) (v : α) : List α := if i < xs.length then xs.set i v else xs ++ (List.replicate (i - xs.length) z ++ [v])
theorem getD_setG {α : Type} (z : α) (xs : List α) (i j : Nat) (v : α) : (setG z xs i v).getD j z = if j = i then v else xs.getD j z := by
  unfold setG
  by_cases h : i < xs.length
  · rw [if_pos h]
    by_cases hj : j = i
    · subst hj; simp [List.getD, h]
    · simp [List.getD, List.getElem?_set, hj, Ne.symm hj]
  · rw [if_neg h]
    simp only [List.getD]
    by_cases hj : j < xs.length
    · rw [List.getElem?_append_left hj, if_neg (by omega)]
    · rw [List.getElem?_append_right (by omega)]
      by_cases hji : j = i
      · subst hji; rw [List.getElem?_append_right (by simp)]; simp
      · rw [if_neg hji, List.getElem?_eq_none (l := xs) (by omega)]
        by_cases hlt : j < i
        · rw [List.getElem?_append_left (by simp; omega), List.getElem?_replicate]; split <;> rfl
        · rw [List.getElem?_eq_none (by simp; omega)]
theorem setG_eq {α : Type} {z : α} {xs : List α} {i : Nat} {v : α} (h : i < xs.length) : setG z xs i v = xs.set i v := if_pos h

/-! ## Parts of the memory that are told by names -/

inductive Take (ms : List Chunk) : List Chunk → List Chunk → Prop
  | here {m : List Chunk} : Take ms (ms ++ m) m
  | there {c : Chunk} {m m' : List Chunk} : Take ms m m' → Take ms (c :: m) (c :: m')
  | app {ns m m' : List Chunk} : Take ms m m' → Take ms (ns ++ m) (ns ++ m')
inductive Take1 (c : Chunk) : List Chunk → List Chunk → Prop
  | here {m : List Chunk} : Take1 c (c :: m) m
  | there {c' : Chunk} {m m' : List Chunk} : Take1 c m m' → Take1 c (c' :: m) (c' :: m')
  | app {ns m m' : List Chunk} : Take1 c m m' → Take1 c (ns ++ m) (ns ++ m')
theorem perm_mid (ms ns m : List Chunk) : List.Perm (ms ++ (ns ++ m)) (ns ++ (ms ++ m)) := by
  rw [← List.append_assoc, ← List.append_assoc]
  exact List.Perm.append_right m List.perm_append_comm
theorem Take.perm {ms m m' : List Chunk} (h : Take ms m m') : List.Perm (ms ++ m') m := by
  induction h with
  | here => exact List.Perm.refl _
  | there _ ih => exact List.perm_middle.trans (ih.cons _)
  | app _ ih => exact (perm_mid _ _ _).trans (List.Perm.append_left _ ih)
theorem Take1.perm {c : Chunk} {m m' : List Chunk} (h : Take1 c m m') : List.Perm (c :: m') m := by
  induction h with
  | here => exact List.Perm.refl _
  | there _ ih => exact (List.Perm.swap _ _ _).trans (ih.cons _)
  | app _ ih => exact (List.perm_middle.symm).trans (List.Perm.append_left _ ih)
/-- M's parts are all among m's. -/
inductive PSub : List Chunk → List Chunk → Prop
  | nil {m : List Chunk} : PSub [] m
  | all {ms M m m1 : List Chunk} : Take ms m m1 → PSub M m1 → PSub (ms ++ M) m
  | one {c : Chunk} {M m m1 : List Chunk} : Take1 c m m1 → PSub M m1 → PSub (c :: M) m
  | no {M m : List Chunk} : PSub M m → PSub ([] ++ M) m
theorem PSub.rest {M m : List Chunk} (h : PSub M m) : ∃ r, List.Perm (M ++ r) m := by
  induction h with
  | nil => exact ⟨_, List.Perm.refl _⟩
  | all h1 _ ih =>
    obtain ⟨r, hr⟩ := ih
    exact ⟨r, by rw [List.append_assoc]; exact (List.Perm.append_left _ hr).trans h1.perm⟩
  | one h1 _ ih =>
    obtain ⟨r, hr⟩ := ih
    exact ⟨r, by rw [List.cons_append]; exact (hr.cons _).trans h1.perm⟩
  | no _ ih => exact ih
theorem Sat.psub {W0 : World} {S : List Nat} {M m : List Chunk} {w : World} (h : Sat W0 S m w) (hs : PSub M m) : Sat W0 S M w := by
  obtain ⟨r, hr⟩ := hs.rest
  exact (h.perm hr).sublist (List.sublist_append_left _ _)
theorem Sat.take {W0 : World} {S : List Nat} {ms m m' : List Chunk} {w : World} (h : Sat W0 S m w) (hs : Take ms m m') : Sat W0 S ms w :=
  (h.perm hs.perm).sublist (List.sublist_append_left _ _)

structure Fit (T : TS) (M : List Chunk) (t : TS) (m : List Chunk) : Prop where
  t : subT T t
  m : PSub M m

section
variable {C : Cfg} {t : TS} {m : List Chunk} {kn : KN} {ke : KE}
theorem wc_fit {c : IC} {T : TS} {M : List Chunk} (hl : Fit T M t m) (h : WC C c T M kn ke) : WC C c t m kn ke := by
  intro hm c0 hok ρ fu Q a w ha hw hc
  exact h hm c0 hok ρ fu Q a w (ha.drop (subT_look hl.t)) (hw.psub hl.m) hc
theorem wc_mono2 {a : IC} {G : TS → List Chunk → Prop} (h1 : WC C a t m G ke) (h2 : ∀ t m, G t m → kn t m) : WC C a t m kn ke := h1.mono h2
theorem wc_loopJ {c : IC} (J : Nat → TS → List Chunk → Prop) (n0 : Nat) (h0 : J n0 t m)
    (round : ∀ n t m, J n t m → WC C c t m (fun t' m' => ∃ n', n' < n ∧ J n' t' m') ke) : WC C (.loop c) t m kn ke := by
  intro hm c0 hok ρ fu Q a w ha hw hc
  cases c0 <;> first | (simp [okC] at hok; done) | skip
  rename_i c1
  simp only [okC] at hok
  refine wp_loop_x (X := Nat × TS × List Chunk) (fun x a w => J x.1 x.2.1 x.2.2 ∧ SatT C.n x.2.1 a ∧ Sat C.W0 C.S x.2.2 w) (fun x => x.1) (x0 := (n0, t, m)) ⟨h0, ha, hw⟩ ?_
  rintro ⟨n, t1, m1⟩ a w ⟨hI, ha, hw⟩
  refine round n t1 m1 hI hm c1 hok ρ fu _ a w ha hw ⟨?_, hc.b, hc.r, hc.p⟩
  rintro t' m' ⟨n', hlt, hJ⟩ a' w' ha' hw'
  exact ⟨(n', t', m'), ⟨hJ, ha', hw'⟩, hlt⟩
end

/-! ## Elements of slices and arrays -/

structure El (α : Type) where
  w : Nat
  cell : α → List Value
  len : ∀ a, (cell a).length = w
  one : ∀ a, ∀ v ∈ cell a, one1 v = true
  pos : 0 < w
  z : α
abbrev El.int (k : IntKind) : El Int := ⟨1, fun x => [.int k x], fun _ => rfl, fun _ v h => by simp at h; subst h; rfl, by decide, 0⟩
def rowE {α : Type} (E : El α) (xs : List α) : Nat → List Value := fun i => E.cell (xs.getD i E.z)
theorem ones_nil : ∀ v ∈ cells [], one1 v = true := fun v h => by cases h
theorem ones_cons {s : Seg} {r : List Seg} (h1 : ∀ v ∈ s.cells, one1 v = true) (h2 : ∀ v ∈ cells r, one1 v = true) : ∀ v ∈ cells (s :: r), one1 v = true := by
  intro v hv
  simp only [cells, List.mem_append] at hv
  exact hv.elim (h1 v) (h2 v)
theorem ones_one {u : Value} (h : one1 u = true) : ∀ v ∈ (Seg.one u).cells, one1 v = true := by
  intro v hv; simp only [Seg.cells, List.mem_singleton] at hv; subst hv; exact h
theorem ones_ints {k : IntKind} {n : Nat} {xs : List Int} : ∀ v ∈ (Seg.ints k n xs).cells, one1 v = true := by
  intro v hv; simp only [Seg.cells, intsCells, List.mem_map] at hv; obtain ⟨_, _, rfl⟩ := hv; rfl
theorem fit_cell {α : Type} {E : El α} (x : α) : fit E.w (E.cell x) = E.cell x := fit_same (E.len x)

/-- A slice's value reads as a list. -/
def RdSl {α : Type} (E : El α) (W : World) (v : Value) (xs : List α) : Prop :=
  (v = .slice none 0 0 ∧ xs = []) ∨ (∃ b o cp, v = .slice (some ⟨b, o, none⟩) xs.length cp ∧ xs.length ≤ cp ∧ ∀ i, i < xs.length → ∀ j, j < E.w → W.cell? ⟨b, o + (i * E.w + j), none⟩ = (E.cell (xs.getD i E.z))[j]?) ∨ ∃ a, v = .slice (some a) 0 0 ∧ xs = []
def SrcM {α : Type} (C : Cfg) (m : List Chunk) (E : El α) (v : Value) (xs : List α) : Prop := ∀ w, Sat C.W0 C.S m w → RdSl E w v xs
/-- A slice of one's own: its block is named. -/
def OwnSl {α : Type} (E : El α) (v : Value) (ms : List Chunk) (xs : List α) : Prop :=
  (v = .slice none 0 0 ∧ xs = [] ∧ ms = []) ∨ ∃ b o cp T cs, v = .slice (some ⟨b, o, none⟩) xs.length cp ∧ xs.length ≤ cp ∧ ms = [⟨b, .cells (cells cs).toArray T (0, 0)⟩] ∧ o + cp * E.w ≤ width cs ∧
    ∀ i, i < xs.length → ∀ j, j < E.w → (cells cs)[o + (i * E.w + j)]? = (E.cell (xs.getD i E.z))[j]?

theorem own_nil {α : Type} {E : El α} : OwnSl E (.slice none 0 0) [] [] := .inl ⟨rfl, rfl, rfl⟩
theorem rd_nil {α : Type} {E : El α} {W : World} : RdSl E W (.slice none 0 0) [] := .inl ⟨rfl, rfl⟩
theorem RdSl.own {α : Type} {E : El α} {v : Value} {ms : List Chunk} {xs : List α} (h : OwnSl E v ms xs) {W0 : World} {S : List Nat} {w : World} (hw : Sat W0 S ms w) : RdSl E w v xs := by
  rcases h with ⟨h1, h2, h3⟩ | ⟨b, o, cp, T, cs, h1, h2, h3, h4, h5⟩
  · exact .inl ⟨h1, h2⟩
  · refine .inr (.inl ⟨b, o, cp, h1, h2, fun i hi j hj => ?_⟩)
    subst h3
    rw [cells_load (hw.own _ List.mem_cons_self), h5 i hi j hj]
theorem RdSl.same {α : Type} {E : El α} {W w : World} {v : Value} {xs : List α} (h : RdSl E W v xs) (hb : ∀ b o x, (∀ a n c, v = .slice (some a) n c → a.block = b) → W.cell? ⟨b, o, none⟩ = some x → w.cell? ⟨b, o, none⟩ = some x) : RdSl E w v xs := by
  rcases h with h | ⟨b, o, cp, h1, h2, h3⟩ | h
  · exact .inl h
  rotate_left 1
  · exact .inr (.inr h)
  · refine .inr (.inl ⟨b, o, cp, h1, h2, fun i hi j hj => ?_⟩)
    have h4 := h3 i hi j hj
    have h5 : j < (E.cell (xs.getD i E.z)).length := by rw [E.len]; exact hj
    rw [List.getElem?_eq_getElem h5] at h4 ⊢
    exact hb b _ _ (fun a n c e => by rw [h1] at e; injection e with e; injection e with e; rw [← e]) h4
theorem cell_lt {W : World} {b o : Nat} {x : Value} (h : W.cell? ⟨b, o, none⟩ = some x) : b < W.heap.size := by
  rcases Nat.lt_or_ge b W.heap.size with h1 | h1
  · exact h1
  · have : W.heap[b]? = none := Array.getElem?_eq_none h1
    simp [World.cell?, this] at h
section
variable {α : Type} {C : Cfg} {m : List Chunk} {t : TS} {K : KN} {E : El α} {v : Value} {xs : List α}

/-- A slice's memory is none of these blocks. -/
def Apart (v : Value) (xs : List α) (S : List Nat) : Prop := ∀ a n c, v = .slice (some a) n c → 0 < xs.length → a.block ∉ S
theorem rd_arg (h : RdSl E C.W0 v xs) (hS : Apart v xs C.S) : SrcM C m E v xs := by
  intro w hw
  rcases h with h | ⟨b', o', cp, h1, h2, h3⟩ | h
  · exact .inl h
  rotate_left 1
  · exact .inr (.inr h)
  · by_cases h0 : 0 < xs.length
    · refine RdSl.same (.inr (.inl ⟨b', o', cp, h1, h2, h3⟩)) fun b o x hb hx => ?_
      have e := hb _ _ _ h1
      subst e
      rw [← hx]
      unfold World.cell?; simp only [hw.fr.block _ (cell_lt hx) (hS _ _ _ h1 h0)]
    · exact .inr (.inl ⟨b', o', cp, h1, h2, fun i hi => by omega⟩)
theorem apart0 : Apart v xs [] := fun _ _ _ _ _ => by simp
theorem rd_own {ms mr : List Chunk} (hO : OwnSl E v ms xs) (hT : Take ms m mr) : SrcM C m E v xs := fun _ hw => RdSl.own hO (hw.take hT)
theorem rd_own0 : SrcM C m E (.slice none 0 0) [] := fun _ _ => rd_nil

/-! ### Quiet rules -/
theorem iz {k : IntKind} {z e : Int} {op : IOp} (h : z = e) (q : Q1 C m t op (.int k e)) : Q1 C m t op (.int k z) := h ▸ q
def slBase : Value → Addr
  | .slice (some a) _ _ => a
  | _ => ⟨0, 0, none⟩
theorem cells_at {W : World} {b o1 : Nat} {j c n : Nat} {s p : List Seg} (h3 : ∀ k, k < E.w → W.cell? ⟨b, o1 + (j * E.w + k), none⟩ = (E.cell (xs.getD j E.z))[k]?) (hc : E.cell (xs.getD j E.z) = cells s) (hp : sub s c n = some p) (k : Nat) (hk : k < n) :
    W.cell? ⟨b, o1 + j * E.w + c + k, none⟩ = (cells p)[k]? := by
  obtain ⟨e1, e2, e3⟩ := sub_cells hp
  have hw : width s = E.w := by rw [← cells_length, ← hc, E.len]
  have := h3 (c + k) (by rcases e3 with e3 | e3 <;> omega)
  rw [show o1 + j * E.w + c + k = o1 + (j * E.w + (c + k)) by omega, this, hc, e1, List.getElem?_take_of_lt hk, List.getElem?_drop]
theorem q_ldM {n : Nat} {x : Operand} {j c : Nat} {s p : List Seg} (hx : ev t x = some (.pointer (some ⟨(slBase v).block, (slBase v).off + j * E.w + c, none⟩))) (hs : SrcM C m E v xs) (hj : j < xs.length) (hc : E.cell (xs.getD j E.z) = cells s) (hp : sub s c n = some p) :
    Q1 C m t (.ld n true x) (agg p) := by
  intro o ho a ha w hw
  obtain ⟨e1, e2, e3⟩ := sub_cells hp
  rcases hs w hw with ⟨h1, h2⟩ | ⟨b, o1, cp, h1, h2, h3⟩ | ⟨_, _, h2⟩
  · subst h2; simp at hj
  rotate_left 1
  · subst h2; simp at hj
  · subst h1
    refine quiet_val ?_
    rw [run_load_at (l := cells p) ho (ha.ev hx) (by rw [cells_length]; exact e2) (fun k hk => cells_at (h3 j hj) hc hp k hk) (fun h => by cases h)]
    rfl
theorem q_ldM0 {n : Nat} {x : Operand} {j : Nat} {s p : List Seg} (hx : ev t x = some (.pointer (some ⟨(slBase v).block, (slBase v).off + j * E.w, none⟩))) (hs : SrcM C m E v xs) (hj : j < xs.length) (hc : E.cell (xs.getD j E.z) = cells s) (hp : sub s 0 n = some p) :
    Q1 C m t (.ld n true x) (agg p) := q_ldM (c := 0) hx hs hj hc hp
theorem cellAt_lt {s : List Seg} {c : Nat} {u : Value} (h : cellAt s c = some u) : c < width s := by
  rw [cellAt_eq] at h
  have := (List.getElem?_eq_some_iff.1 h).1
  rwa [cells_length] at this
theorem q_ldM1 {x : Operand} {j c : Nat} {s : List Seg} {u : Value} (hx : ev t x = some (.pointer (some ⟨(slBase v).block, (slBase v).off + j * E.w + c, none⟩))) (hs : SrcM C m E v xs) (hj : j < xs.length) (hc : E.cell (xs.getD j E.z) = cells s) (hp : cellAt s c = some u) :
    Q1 C m t (.ld 1 false x) u := by
  intro o ho a ha w hw
  rcases hs w hw with ⟨h1, h2⟩ | ⟨b, o1, cp, h1, h2, h3⟩ | ⟨_, _, h2⟩
  · subst h2; simp at hj
  rotate_left 1
  · subst h2; simp at hj
  · subst h1
    refine quiet_val ?_
    have hw : width s = E.w := by rw [← cells_length, ← hc, E.len]
    have hlt := cellAt_lt hp
    rw [run_load_at (l := [u]) ho (ha.ev hx) rfl (fun k hk => by
      obtain rfl : k = 0 := by omega
      have := h3 j hj c (by omega)
      simp only [slBase, Nat.add_zero, List.getElem?_cons_zero]
      rw [show o1 + j * E.w + c = o1 + (j * E.w + c) by omega, this, hc, ← cellAt_eq]
      exact hp) (fun _ => rfl)]
    rfl
theorem q_ldM10 {x : Operand} {j : Nat} {s : List Seg} {u : Value} (hx : ev t x = some (.pointer (some ⟨(slBase v).block, (slBase v).off + j * E.w, none⟩))) (hs : SrcM C m E v xs) (hj : j < xs.length) (hc : E.cell (xs.getD j E.z) = cells s) (hp : cellAt s 0 = some u) :
    Q1 C m t (.ld 1 false x) u := q_ldM1 (c := 0) hx hs hj hc hp
/-- A part of a slice. -/
def cutSl (w : Nat) (v : Value) (lo hi : Nat) : Value := match v with
  | .slice (some ⟨b, o, none⟩) _ cp => .slice (some (slAddr b o lo cp w)) (hi - lo) (cp - lo)
  | .slice (some a) n c => .slice (some a) n c
  | _ => .slice none 0 0
theorem cutSl_odd {w : Nat} {a : Addr} : cutSl w (.slice (some a) 0 0) 0 0 = .slice (some a) 0 0 := by
  obtain ⟨b, o, sp⟩ := a
  cases sp with
  | none => simp [cutSl, slAddr]
  | some k => rfl
theorem q_slsE {w : Nat} {x : Operand} {lo hi : Option Operand} {lz hz : Int} {a3 : Addr} (hx : ev t x = some (.slice (some a3) 0 0)) (hl : OptI t 0 lo lz) (hh : OptI t (0 : Nat) hi hz)
    (hb : lz = 0 ∧ hz = 0) : Q1 C m t (.sls w x lo hi none) (.slice (some a3) 0 0) := by
  obtain ⟨rfl, rfl⟩ := hb
  intro o ho a ha wd hw
  refine quiet_val ?_
  simp only [okOp] at ho
  split at ho
  · rename_i T x' lo' hi' mx' heq
    simp only [Bool.and_eq_true] at ho
    obtain ⟨⟨⟨⟨h1, h2⟩, h3⟩, h4⟩, h5⟩ := ho
    have e1 := oeq_sound h1; have e2 := oeqO_sound h2; have e3 := oeqO_sound h3; have e4 := oeqO_sound h4
    subst e1; subst e2; subst e3; subst e4
    split at h5
    · rename_i el hu
      simp only [execOp, heq, ha.ev hx]
      refine run_v ?_
      simp only [Instr.sliceAt, Instr.slice, Sem.run_bind, run_underlying hu, Result.andThen_ok, Sem.run_pure, run_sliceBounds (isS := true) (cap := 0) (mz := 0) ha hl hh .no (by simp) (by omega) (by omega) (by omega) (by omega), run_sizeOf h5]
      simp
    · cases h5
  · cases ho
theorem tkG_get {z : α} {ys : List α} {lo n i : Nat} (h : i < n) (hn : lo + n ≤ ys.length) : ((ys.drop lo).take n).getD i z = ys.getD (lo + i) z := by
  simp only [List.getD, List.getElem?_take_of_lt h, List.getElem?_drop]
theorem rd_cut {lz hz : Int} (hs : SrcM C m E v xs) (hb : cutB lz hz xs.length = true) : SrcM C m E (cutSl E.w v lz.toNat hz.toNat) ((xs.drop lz.toNat).take (hz.toNat - lz.toNat)) := by
  intro w hw
  have hb := cutB_z hb
  have hlen : ((xs.drop lz.toNat).take (hz.toNat - lz.toNat)).length = hz.toNat - lz.toNat := by rw [List.length_take, List.length_drop]; omega
  rcases hs w hw with ⟨h1, h2⟩ | ⟨b, o1, cp, h1, h2, h3⟩ | ⟨a3, h1, h2⟩
  · subst h1; subst h2
    simp only [List.length_nil] at hb
    exact .inl ⟨rfl, by simp⟩
  rotate_left 1
  · subst h1; subst h2
    simp only [List.length_nil] at hb
    have e1 : lz.toNat = 0 := by omega
    have e2 : hz.toNat = 0 := by omega
    rw [e1, e2, cutSl_odd]
    exact .inr (.inr ⟨a3, rfl, by simp⟩)
  · subst h1
    by_cases hc : cp = lz.toNat
    · refine .inr (.inl ⟨b, o1, cp - lz.toNat, ?_, by omega, fun i hi => ?_⟩)
      · simp only [cutSl, slAddr, hlen, hc, if_true]
      · omega
    · refine .inr (.inl ⟨b, o1 + lz.toNat * E.w, cp - lz.toNat, ?_, by omega, fun i hi j hj => ?_⟩)
      · simp only [cutSl, slAddr, hlen, hc, if_false]
      · rw [hlen] at hi
        rw [tkG_get hi (by omega), ← h3 (lz.toNat + i) (by omega) j hj]
        congr 2
        rw [Nat.add_mul]; omega
/-- A part of an array of one's own, as a slice. -/
theorem rd_blk_i {b T base N lo hi mz : Nat} {fz : Nat × Nat} {s : List Seg} {k : IntKind} {ys : List Int} (hb : Has b (.cells (cells s).toArray T fz) m) (hs : segAt s base = some (.ints k N ys)) (h : lo ≤ hi ∧ hi ≤ mz ∧ mz ≤ N) :
    SrcM C m (El.int k) (.slice (some (slAddr b base lo mz 1)) (hi - lo) (mz - lo)) (tk ys lo (hi - lo)) := by
  intro w hw
  by_cases hc : mz = lo
  · refine .inr (.inl ⟨b, base, mz - lo, ?_, by rw [tk_length]; omega, fun i hi => ?_⟩)
    · simp only [slAddr, hc, if_true, tk_length]
    · rw [tk_length] at hi; omega
  · refine .inr (.inl ⟨b, base + lo * 1, mz - lo, ?_, by rw [tk_length]; omega, fun i hi j hj => ?_⟩)
    · simp only [slAddr, hc, if_false, tk_length]
    · rw [tk_length] at hi
      obtain rfl : j = 0 := by simp only at hj; omega
      have hseg := segAt_cells hs (lo + i) (by simp only [Seg.width]; omega)
      rw [tk_getD, if_pos hi]
      have := hw.own _ hb.mem
      have hcell : w.cell? ⟨b, base + (lo + i), none⟩ = (cells s)[base + (lo + i)]? := by
        simp only [World.cell?, this]
        simp
      simp only [Nat.mul_one, Nat.add_zero]
      rw [show base + lo + i = base + (lo + i) by omega, hcell, hseg]
      simp only [Seg.cells]
      rw [intsCells_get (by omega)]
      rfl

/-! ### Effects -/
theorem EF.perm {d : Option Nat} {op : IOp} {m' : List Chunk} (hp : List.Perm m' m) (h : EF C m' t d op K) : EF C m t d op K :=
  fun o ho hd a ha w hw => h o ho hd a ha w (hw.perm hp)
theorem cells_ones (l : List Value) : cells (l.map Seg.one) = l := by
  induction l with
  | nil => rfl
  | cons a r ih => simp [cells, Seg.cells, ih]
theorem width_ones (l : List Value) : width (l.map Seg.one) = l.length := by rw [← cells_length, cells_ones]
def cellsOf (E : El α) (xs : List α) : List Value := rowsCells E.w xs.length (rowE E xs)
theorem cellsOf_length : (cellsOf E xs).length = xs.length * E.w := rowsCells_length _ _ _
theorem cellsOf_get {i j : Nat} (hi : i < xs.length) (hj : j < E.w) : (cellsOf E xs)[i * E.w + j]? = (E.cell (xs.getD i E.z))[j]? := by
  unfold cellsOf
  rw [rowsCells_get2 hi hj]
  simp only [rowE, fit_cell]
theorem cellsOf_one : ∀ u ∈ cellsOf E xs, one1 u = true := one_rows fun i _ => ⟨E.len _, E.one _⟩
theorem srcV_rd {w : World} (hs : SrcM C m E v xs) (hw : Sat C.W0 C.S m w) : SrcV C m E.w v xs.length (cellsOf E xs) := by
  rcases hs w hw with ⟨h1, h2⟩ | ⟨b, o1, cp, h1, h2, h3⟩ | ⟨a3, h1, h2⟩
  · subst h1; subst h2; exact src_none
  rotate_left 1
  · subst h1; subst h2; exact src_none
  · subst h1
    refine src_of cellsOf_length cellsOf_one fun w' hw' i hi => ?_
    rcases hs w' hw' with ⟨h1', _⟩ | ⟨b', o1', cp', h1', h2', h3'⟩ | ⟨_, _, h2'⟩
    · cases h1'
    rotate_left 1
    · subst h2'; simp at hi
    · injection h1' with h1' _ h1c
      injection h1' with h1'
      injection h1' with hb ho _
      subst hb; subst ho
      have hp := E.pos
      have hq : i / E.w < xs.length := Nat.div_lt_of_lt_mul (by rw [Nat.mul_comm]; exact hi)
      have hr := Nat.mod_lt i hp
      have he : i / E.w * E.w + i % E.w = i := by have := Nat.div_add_mod i E.w; rw [Nat.mul_comm] at this; exact this
      have := h3' (i / E.w) hq (i % E.w) hr
      rw [he] at this
      rw [this, ← cellsOf_get hq hr, he]
theorem ef_stO {x y : Operand} {ms mr : List Chunk} {i : Nat} {u : Value} {y0 : α} {xs' : List α} (e : xs' = setG E.z xs i y0) (hO : OwnSl E v ms xs) (hT : Take ms m mr) (hx : ev t x = some (.pointer (some ⟨(slBase v).block, (slBase v).off + i * E.w, none⟩)))
    (hy : ev t y = some u) (hu : u.cells.toList = E.cell y0) (hi : i < xs.length) (h : ∀ ms', OwnSl E v ms' xs' → K t (ms' ++ mr)) : EF C m t none (.st E.w x y) K := by
  refine EF.perm hT.perm ?_
  rcases hO with ⟨h1, h2, h3⟩ | ⟨b, o, cp, T, cs, h1, h2, h3, h4, h5⟩
  · subst h2; simp at hi
  · subst h1; subst h3; subst e
    have hle : i * E.w + E.w ≤ cp * E.w := by rw [← Nat.succ_mul]; exact Nat.mul_le_mul_right _ (by omega)
    have hpl : (E.cell y0).length = E.w := E.len y0
    have hin : o + i * E.w + E.w ≤ (cells cs).length := by rw [cells_length]; omega
    refine ef_put (l := cells cs) (vs := E.cell y0) (T := T) (m' := [⟨b, .cells (cells ((splice (cells cs) (o + i * E.w) (E.cell y0)).map Seg.one)).toArray T (0, 0)⟩] ++ mr) hx hy hu hpl ?_ hin (E.one y0) (h _ (.inr ⟨b, o, cp, T, _, ?_, ?_, rfl, ?_, ?_⟩))
    · rw [cells_ones]; exact Upd.here
    · rw [setG_eq hi, List.length_set]
    · rw [setG_eq hi, List.length_set]; exact h2
    · rw [width_ones, splice, List.length_append, List.length_append, List.length_take, List.length_drop, hpl, cells_length]
      have := cells_length cs; omega
    · intro i' hi' j hj
      rw [setG_eq hi, List.length_set] at hi'
      rw [cells_ones, splice_get (by rw [hpl]; exact hin), getD_setG, hpl]
      by_cases hii : i' = i
      · subst hii
        rw [if_pos (by omega), if_pos rfl]
        congr 1; omega
      · rw [if_neg hii, if_neg ?_, h5 i' hi' j hj]
        intro hcon
        rcases Nat.lt_or_ge i' i with hl | hl
        · have : i' * E.w + E.w ≤ i * E.w := by rw [← Nat.succ_mul]; exact Nat.mul_le_mul_right _ hl
          omega
        · have : i * E.w + E.w ≤ i' * E.w := by rw [← Nat.succ_mul]; exact Nat.mul_le_mul_right _ (by omega)
          omega
theorem getD_app1 {z : α} {ys : List α} {i : Nat} (h : i < xs.length) : (xs ++ ys).getD i z = xs.getD i z := by simp [List.getD, List.getElem?_append_left h]
theorem getD_app2 {z : α} {ys : List α} {i : Nat} (h : xs.length ≤ i) : (xs ++ ys).getD i z = ys.getD (i - xs.length) z := by simp [List.getD, List.getElem?_append_right h]
/-- append onto a slice of one's own. -/
theorem ef_appO {d : Nat} {T : TypeId} {bytes : Nat} {z : List Seg} {x y : Operand} {ms mr : List Chunk} {u : Value} {ys xs' : List α} (e : xs' = xs ++ ys) (hx : ev t x = some v) (hO : OwnSl E v ms xs) (hT : Take ms m mr) (hy : ev t y = some u) (hs : SrcM C m E u ys)
    (hsz : decide ((xs.length + ys.length) * bytes ≤ 140737488355328) = true) (h : ∀ v' ms', OwnSl E v' ms' xs' → K ((d, v') :: t) (ms' ++ mr)) : EF C m t (some d) (.app T E.w bytes z x y) K := by
  subst e
  have hsz := of_decide_eq_true hsz
  intro o ho hd a ha w hw
  have hS : SrcV C (ms ++ mr) E.w u ys.length (cellsOf E ys) := srcV_rd (w := w) (fun w' hw' => hs w' (hw'.perm hT.perm.symm)) (hw.perm hT.perm)
  refine EF.perm hT.perm (EF.less (?_ : EF C (ms ++ mr) t (some d) (.app T E.w bytes z x y) _)) o ho hd a ha w hw
  have hzw : width z = E.w := by
    simp only [okOp] at ho
    split at ho
    · simp only [Bool.and_eq_true, Nat.beq_eq] at ho
      exact ho.1.2
    · cases ho
  rcases hO with ⟨h1, h2, h3⟩ | ⟨b, o1, cp, T', cs, h1, h2, h3, h4, h5⟩
  · subst h1; subst h2; subst h3
    refine ef_app0 hx hy hS (by simpa using hsz) (fun h0 => ?_) (fun h0 b' cp' hb' hc' => ?_)
    · have hys : ys = [] := List.eq_nil_of_length_eq_zero h0
      subst hys
      exact ⟨_, h _ _ own_nil, List.Sublist.refl _⟩
    · refine ⟨(cellsOf E ys ++ (List.replicate (cp' - ys.length) (cells z)).flatten).map Seg.one, cells_ones _, ?_⟩
      refine ⟨_, h _ [⟨b', _⟩] (.inr ⟨b', 0, cp', T, _, by simp, by simpa using hc', rfl, ?_, ?_⟩), List.Sublist.refl _⟩
      · rw [width_ones, List.length_append, cellsOf_length]
        simp only [List.length_flatten, List.map_replicate, List.sum_replicate_nat, cells_length, hzw, Nat.zero_add]
        rw [← Nat.add_mul]
        exact Nat.mul_le_mul_right _ (by omega)
      · intro i hi j hj
        simp only [List.nil_append] at hi ⊢
        have : i * E.w + E.w ≤ ys.length * E.w := by rw [← Nat.succ_mul]; exact Nat.mul_le_mul_right _ hi
        rw [cells_ones, Nat.zero_add, List.getElem?_append_left (by rw [cellsOf_length]; omega), cellsOf_get hi hj]
  · subst h1; subst h3
    refine ef_app hx Has.here hy hS h4 h2 hsz (fun hr => ?_) (fun hg b' cp' hb' hc' => ?_)
    · have hle : (xs.length + ys.length) * E.w ≤ cp * E.w := Nat.mul_le_mul_right _ hr
      rw [Nat.add_mul] at hle
      have hin : o1 + xs.length * E.w + (cellsOf E ys).length ≤ (cells cs).length := by rw [cellsOf_length, cells_length]; omega
      refine ⟨(splice (cells cs) (o1 + xs.length * E.w) (cellsOf E ys)).map Seg.one, [⟨b, .cells (cells ((splice (cells cs) (o1 + xs.length * E.w) (cellsOf E ys)).map Seg.one)).toArray T' (0, 0)⟩] ++ mr, cells_ones _, Upd.here, ?_⟩
      refine ⟨_, h _ _ (.inr ⟨b, o1, cp, T', _, by simp, by simpa using hr, rfl, ?_, ?_⟩), List.Sublist.refl _⟩
      · rw [width_ones, splice, List.length_append, List.length_append, List.length_take, List.length_drop]
        rw [cells_length] at hin ⊢; omega
      · intro i hi j hj
        rw [cells_ones, splice_get hin, cellsOf_length]
        rw [List.length_append] at hi
        by_cases hil : i < xs.length
        · have : i * E.w + E.w ≤ xs.length * E.w := by rw [← Nat.succ_mul]; exact Nat.mul_le_mul_right _ hil
          rw [if_neg (by omega), getD_app1 hil, h5 i hil j hj]
        · have e1 : i * E.w = xs.length * E.w + (i - xs.length) * E.w := by rw [← Nat.add_mul]; congr 1; omega
          have : (i - xs.length) * E.w + E.w ≤ ys.length * E.w := by rw [← Nat.succ_mul]; exact Nat.mul_le_mul_right _ (by omega)
          rw [if_pos (by omega), getD_app2 (by omega), show o1 + (i * E.w + j) - (o1 + xs.length * E.w) = (i - xs.length) * E.w + j by omega, cellsOf_get (by omega) hj]
    · have hle : xs.length * E.w ≤ cp * E.w := Nat.mul_le_mul_right _ h2
      have hl1 : (((cells cs).drop o1).take (xs.length * E.w)).length = xs.length * E.w := by rw [List.length_take, List.length_drop, cells_length]; omega
      refine ⟨(((cells cs).drop o1).take (xs.length * E.w) ++ cellsOf E ys ++ (List.replicate (cp' - (xs.length + ys.length)) (cells z)).flatten).map Seg.one, cells_ones _, ?_⟩
      refine ⟨_, h _ [⟨b', _⟩] (.inr ⟨b', 0, cp', T, _, by simp, by simpa using hc', rfl, ?_, ?_⟩), List.Sublist.cons₂ _ (List.sublist_cons_self _ _)⟩
      · rw [width_ones, List.length_append, List.length_append, hl1, cellsOf_length]
        simp only [List.length_flatten, List.map_replicate, List.sum_replicate_nat, cells_length, hzw, Nat.zero_add]
        rw [← Nat.add_mul, ← Nat.add_mul]
        exact Nat.mul_le_mul_right _ (by omega)
      · intro i hi j hj
        rw [List.length_append] at hi
        rw [cells_ones, Nat.zero_add]
        by_cases hil : i < xs.length
        · have : i * E.w + E.w ≤ xs.length * E.w := by rw [← Nat.succ_mul]; exact Nat.mul_le_mul_right _ hil
          rw [List.append_assoc, List.getElem?_append_left (by rw [hl1]; omega), List.getElem?_take_of_lt (by omega), List.getElem?_drop, h5 i hil j hj, getD_app1 hil]
        · have e1 : i * E.w = xs.length * E.w + (i - xs.length) * E.w := by rw [← Nat.add_mul]; congr 1; omega
          have : (i - xs.length) * E.w + E.w ≤ ys.length * E.w := by rw [← Nat.succ_mul]; exact Nat.mul_le_mul_right _ (by omega)
          rw [List.append_assoc, List.getElem?_append_right (by rw [hl1]; omega), hl1, List.getElem?_append_left (by rw [cellsOf_length]; omega), getD_app2 (by omega), show i * E.w + j - xs.length * E.w = (i - xs.length) * E.w + j by omega, cellsOf_get (by omega) hj]
/-- Elements, one behind the other. -/
inductive Bs (E : El α) : List α → List Seg → Prop
  | nil : Bs E [] []
  | cons {x : α} {ys : List α} {p q : List Seg} : cells p = E.cell x → Bs E ys q → Bs E (x :: ys) (p ++ q)
theorem Bs.get {q : List Seg} (h : Bs E xs q) : width q = xs.length * E.w ∧ ∀ i, i < xs.length → ∀ j, j < E.w → (cells q)[i * E.w + j]? = (E.cell (xs.getD i E.z))[j]? := by
  induction h with
  | nil => exact ⟨by simp [width], fun i hi => by simp at hi⟩
  | @cons x ys p q hc _ ih =>
    have hp : width p = E.w := by rw [← cells_length, hc, E.len]
    refine ⟨by rw [width_append, ih.1, hp, List.length_cons, Nat.succ_mul]; omega, fun i hi j hj => ?_⟩
    rw [cells_append]
    cases i with
    | zero =>
      rw [List.getElem?_append_left (by rw [cells_length, hp]; omega), hc]
      simp
    | succ i =>
      rw [List.length_cons] at hi
      rw [List.getElem?_append_right (by rw [cells_length, hp, Nat.succ_mul]; omega), cells_length, hp, show (i + 1) * E.w + j - E.w = i * E.w + j by rw [Nat.succ_mul]; omega, ih.2 i (by omega) j hj]
      simp
theorem ef_bsO {d : Nat} {T : TypeId} {len : Nat} {z q : List Seg} {parts : List (Nat × Nat × Operand)} (hb : BdR t z parts q) (hB : Bs E xs q) (hl : xs.length = len)
    (h : ∀ v ms, OwnSl E v ms xs → K ((d, v) :: t) (ms ++ m)) : EF C m t (some d) (.bs T len E.w z parts) K := by
  subst hl
  refine ef_bs hb fun b hb' => ?_
  obtain ⟨h1, h2⟩ := hB.get
  refine h _ [⟨b, _⟩] (.inr ⟨b, 0, xs.length, T, q, rfl, Nat.le_refl _, rfl, by rw [h1]; omega, fun i hi j hj => ?_⟩)
  rw [Nat.zero_add]; exact h2 i hi j hj
theorem az {τ : Type} (f : τ → Value) {z e : τ} {op : IOp} (h : z = e) (q : Q1 C m t op (f e)) : Q1 C m t op (f z) := h ▸ q
theorem getD_some {τ : Type} {o : Option τ} {z : τ} (h : o.isSome = true) : o = some (o.getD z) := by cases o <;> simp_all
theorem ef_stg {n : Nat} {x y : Operand} {b off : Nat} {T : TypeId} {s p q : List Seg} {m' : List Chunk} (hx : ev t x = some (.pointer (some ⟨b, off, none⟩))) (hy : ev t y = some (agg p)) (hn : width p = n) (hq : putL s off p = some q) (hsc : ∀ v ∈ cells p, one1 v = true)
    (hup : Upd b (.cells (cells s).toArray T (0, 0)) (.cells (cells q).toArray T (0, 0)) m m') (h : K t m') : EF C m t none (.st n x y) K := by
  obtain ⟨e1, e2, e3⟩ := putL_cells hq
  rw [e1] at hup
  exact ef_put hx hy (vs := cells p) (by simp [agg, Value.cells]) (by rw [cells_length]; exact hn) hup (by rw [cells_length]; omega) hsc h
/-! ### Equality of aggregates -/
theorem eqc_cons {c1 c2 : Bool} {s s' : Seg} {r r' : List Seg} (hw : s.width = s'.width) (h1 : c1 = true ↔ s.cells = s'.cells) (h2 : c2 = true ↔ cells r = cells r') : (c1 && c2) = true ↔ cells (s :: r) = cells (s' :: r') := by
  rw [Bool.and_eq_true, h1, h2]
  simp only [cells]
  constructor
  · rintro ⟨h, h'⟩; rw [h, h']
  · intro h
    exact List.append_inj h (by rw [Seg.cells_length, Seg.cells_length, hw])
theorem eqc_last {c : Bool} {s s' : Seg} (h : c = true ↔ s.cells = s'.cells) : c = true ↔ cells [s] = cells [s'] := by
  rw [h]; simp [cells]
theorem eqc_int {k : IntKind} {a b : Int} : (a == b) = true ↔ (Seg.one (.int k a)).cells = (Seg.one (.int k b)).cells := by simp [Seg.cells]
theorem eqc_bool {a b : Bool} : (a == b) = true ↔ (Seg.one (.bool a)).cells = (Seg.one (.bool b)).cells := by simp [Seg.cells]
theorem eqc_ints {k : IntKind} {n : Nat} {a b : List Int} : ieq n a b = true ↔ (Seg.ints k n a).cells = (Seg.ints k n b).cells := by
  have := ieq_cells (k := k) (n := n) (a := a) (b := b)
  simpa [cells] using this
end

theorem Sup.app {m0 m ms : List Chunk} (h : Sup m0 m) : Sup m0 (ms ++ m) := fun _ h' => List.mem_append_right _ (h _ h')

/-! ## Functions -/
/-- Parts of the memory: a block, or blocks that are told by a name. -/
inductive Pc where
  | one (c : Chunk)
  | all (l : List Chunk)
def appL : List Pc → List Chunk → List Chunk
  | [], m => m
  | .one c :: r, m => c :: appL r m
  | .all a :: r, m => a ++ appL r m
theorem appL_eq : ∀ (l : List Pc) (m : List Chunk), appL l [] ++ m = appL l m
  | [], m => rfl
  | .one c :: r, m => by simp only [appL, List.cons_append, appL_eq r m]
  | .all a :: r, m => by simp only [appL, List.append_assoc, appL_eq r m]
/-- As retM: the memory in parts. -/
def retS (W0 : World) (S : List Nat) (R : Value → List Pc → Prop) : Ending → World → Prop := retM W0 S fun v M => ∃ Ms, M = appL Ms [] ∧ R v Ms
section
variable {C : Cfg} {m : List Chunk} {t : TS} {K : KN}
theorem ef_callS {d : Option Nat} {f : FuncId} {args : List Operand} {vs : List Value} {mS mr : List Chunk} {R : Value → List Pc → Prop} (ha : evL t args = some vs) (hp : List.Perm (mS ++ mr) m)
    (hc : ∀ w, Sat C.W0 C.S m w → Calls C.P f vs.toArray w (retS w (mS.map (·.b)) R))
    (h : ∀ v Ms, R v Ms → K (putT d v t) (appL Ms mr)) : EF C m t d (.call f args) K :=
  ef_callM ha hp hc fun v m' ⟨Ms, e, hR⟩ => by subst e; rw [appL_eq]; exact h v Ms hR
theorem ef_callS0 {d : Option Nat} {f : FuncId} {args : List Operand} {vs : List Value} {R : Value → List Pc → Prop} (ha : evL t args = some vs)
    (hc : ∀ w, Sat C.W0 C.S m w → Calls C.P f vs.toArray w (retS w [] R))
    (h : ∀ v Ms, R v Ms → K (putT d v t) (appL Ms m)) : EF C m t d (.call f args) K :=
  ef_callF ha hc fun v m' ⟨Ms, e, hR⟩ => by subst e; rw [appL_eq]; exact h v Ms hR
end
def retT (rs : List RV) (R : Value → List Chunk → Prop) : KN := fun t m => ∃ l M, ResVs t m rs l ∧ PSub M m ∧ R (tupV l) M
theorem calls_memT {P : Program} {f : FuncId} {d : FnD} {args : List Value} {W0 : World} {S : List Nat} {m0 : List Chunk} {R : Value → List Chunk → Prop}
    (hm : P.follows .mixedOrders = true) (hok : okF P f d = true) (hlen : Nat.ble args.length d.n = true) (h0 : Sat W0 S m0 W0)
    (h : WC ⟨P, d.n, W0, S⟩ d.c (argsT 0 args) m0 (retT d.rs R) ⟨[], retT d.rs R, noP⟩) : Calls P f args.toArray W0 (retM W0 S R) := by
  refine calls_of hm hok hlen h0 ?_
  have hsub : ∀ t m, retT d.rs R t m → retK W0 S d.rs (retM W0 S R) t m := by
    rintro t m ⟨l, M, h1, h2, h3⟩
    exact ⟨l, h1, fun w hw => ⟨_, _, rfl, h3, hw.psub h2⟩⟩
  intro hm c0 hok ρ fu Q a w ha hw hc
  exact h hm c0 hok ρ fu Q a w ha hw ⟨fun t m hk => hc.n t m (hsub t m hk), fun id k hk => by simp [lookK] at hk, fun t m hk => hc.r t m (hsub t m hk), fun _ _ _ h => h.elim⟩
end Go.Sx
/- The engine, part 17: append of noughts; parts of arrays; addresses inside a row of numbers; results that are parts of an argument. -/
namespace Go.Sx
open Go Go.RowKit
set_option linter.all false

section
variable {C : Cfg} {m : List Chunk} {t : TS} {K : KN}

end

section
variable {α : Type} {C : Cfg} {m : List Chunk} {t : TS} {K : KN} {E : El α} {v : Value} {xs : List α}
/-- Slices as values. -/
def IsSl (v : Value) : Prop := ∃ a n c, v = .slice a n c
theorem OwnSl.isSl {ms : List Chunk} (h : OwnSl E v ms xs) : IsSl v := by
  rcases h with ⟨h1, _⟩ | ⟨b, o, cp, _, _, h1, _⟩
  · exact ⟨_, _, _, h1⟩
  · exact ⟨_, _, _, h1⟩
theorem cut_isSl {w : Nat} {u : Value} {lo hi : Nat} : IsSl (cutSl w u lo hi) := by
  unfold cutSl; split <;> exact ⟨_, _, _, rfl⟩
abbrev SlT := Option Addr × Nat × Nat
def slV (x : SlT) : Value := .slice x.1 x.2.1 x.2.2
/-- A slice of so many elements. -/
def Shp (v : Value) (n : Nat) : Prop := (v = .slice none 0 0 ∧ n = 0) ∨ (∃ b o cp, v = .slice (some ⟨b, o, none⟩) n cp ∧ n ≤ cp) ∨ ∃ a, v = .slice (some a) 0 0 ∧ n = 0
theorem Shp.rd {W : World} (h : RdSl E W v xs) : Shp v xs.length := by
  rcases h with ⟨h1, h2⟩ | ⟨b, o, cp, h1, h2, _⟩ | ⟨a3, h1, h2⟩
  · exact .inl ⟨h1, by rw [h2]; rfl⟩
  · exact .inr (.inl ⟨b, o, cp, h1, h2⟩)
  · exact .inr (.inr ⟨a3, h1, by rw [h2]; rfl⟩)
theorem Shp.own {ms : List Chunk} (h : OwnSl E v ms xs) : Shp v xs.length := by
  rcases h with ⟨h1, h2, _⟩ | ⟨b, o, cp, _, _, h1, h2, _⟩
  · exact .inl ⟨h1, by rw [h2]; rfl⟩
  · exact .inr (.inl ⟨b, o, cp, h1, h2⟩)
theorem Shp.blk {b base lo hi mz w n : Nat} (h : lo ≤ hi ∧ hi ≤ mz) (hn : n = hi - lo) : Shp (.slice (some (slAddr b base lo mz w)) (hi - lo) (mz - lo)) n := by
  subst hn
  unfold slAddr
  split
  · exact .inr (.inl ⟨_, _, _, rfl, by omega⟩)
  · exact .inr (.inl ⟨_, _, _, rfl, by omega⟩)
theorem q_lenP {x : Operand} {n : Nat} (hx : ev t x = some v) (h : Shp v n) : Q1 C m t (.len x) (.int .i64 n) := by
  rcases h with ⟨h1, h2⟩ | ⟨b, o1, cp, h1, h2⟩ | ⟨a3, h1, h2⟩
  · subst h1; subst h2; exact q_len hx
  rotate_left 1
  · subst h1; subst h2; exact q_len hx
  · subst h1; exact q_len hx
theorem q_iasP {w n : Nat} {x i : Operand} {k : IntKind} {z : Int} (hx : ev t x = some v) (hi : ev t i = some (.int k z)) (h : Shp v n) (hz : inB z n = true) :
    Q1 C m t (.ias w x i) (.pointer (some ⟨(slBase v).block, (slBase v).off + z.toNat * w, none⟩)) := by
  have hz' := inB_z hz
  rcases h with ⟨h1, h2⟩ | ⟨b, o1, cp, h1, h2⟩ | ⟨_, _, h2⟩
  · omega
  rotate_left 1
  · omega
  · subst h1; exact q_ias hx hi hz'
theorem q_slsP {w n : Nat} {x : Operand} {lo hi : Option Operand} {lz hz : Int} (hx : ev t x = some v) (h : Shp v n) (hl : OptI t 0 lo lz) (hh : OptI t n hi hz) (hb : cutB lz hz n = true) :
    Q1 C m t (.sls w x lo hi none) (cutSl w v lz.toNat hz.toNat) := by
  have hb := cutB_z hb
  rcases h with ⟨h1, h2⟩ | ⟨b, o1, cp, h1, h2⟩ | ⟨a3, h1, h2⟩
  · subst h1; subst h2
    exact q_sls0 (mz := 0) hx hl hh .no (by simp) (by omega)
  rotate_left 1
  · subst h1; subst h2
    have e1 : lz.toNat = 0 := by omega
    have e2 : hz.toNat = 0 := by omega
    rw [e1, e2, cutSl_odd]
    exact q_slsE hx hl hh (by omega)
  · subst h1
    have := q_sls (C := C) (m := m) (w := w) (mz := cp) hx hl hh .no (by simp) (by omega)
    simpa [cutSl] using this
end
end Go.Sx
/- The engine: prefixes of longer slices (what stands behind them is known), and slices that are handed in to be written. -/
namespace Go.Sx
open Go Go.RowKit
set_option linter.all false
section
variable {C : Cfg} {m : List Chunk} {t : TS} {K : KN} {α : Type} {E : El α} {v : Value} {xs : List α}

theorem slBase_pre {w L n : Nat} (h : Shp v L) : slBase (cutSl w v 0 n) = slBase v := by
  rcases h with ⟨h1, h2⟩ | ⟨b, o, cp, h1, h2⟩ | ⟨a, h1, h2⟩
  · subst h1; rfl
  · subst h1
    simp only [cutSl, slBase, slAddr]
    split <;> simp
  · subst h1
    obtain ⟨b, o, sp⟩ := a
    cases sp with
    | none => simp [cutSl, slBase, slAddr]
    | some k => rfl
theorem pre_n {n : Int} {L : Nat} (h : cutB 0 n L = true) : 0 ≤ n ∧ n ≤ L := by have := cutB_z h; omega
theorem shp_pre {w L : Nat} {n : Int} (h : Shp v L) (hb : cutB 0 n L = true) : Shp (cutSl w v 0 n.toNat) n.toNat := by
  have hb := pre_n hb
  rcases h with ⟨h1, h2⟩ | ⟨b, o, cp, h1, h2⟩ | ⟨a, h1, h2⟩
  · subst h1; exact .inl ⟨rfl, by omega⟩
  · subst h1
    simp only [cutSl]
    exact Shp.blk (by omega) rfl
  · subst h1
    have e2 : n.toNat = 0 := by omega
    rw [e2, cutSl_odd]
    exact .inr (.inr ⟨a, rfl, rfl⟩)
theorem q_lenU {w L : Nat} {x : Operand} {n : Int} (hx : ev t x = some (cutSl w v 0 n.toNat)) (hs : Shp v L) (hb : cutB 0 n L = true) : Q1 C m t (.len x) (.int .i64 n) := by
  have h := q_lenP (C := C) (m := m) hx (shp_pre (w := w) hs hb)
  have e : ((n.toNat : Nat) : Int) = n := by have := pre_n hb; omega
  rw [e] at h
  exact h
theorem inB_up {z n : Int} {L : Nat} (hb : cutB 0 n L = true) (h : inB z n.toNat = true) : inB z L = true := by
  have := pre_n hb
  have := inB_z h
  simp [inB]; omega
theorem q_iasU {w L : Nat} {x i : Operand} {k : IntKind} {z n : Int} (hx : ev t x = some (cutSl w v 0 n.toNat)) (hi : ev t i = some (.int k z)) (hs : Shp v L) (hb : cutB 0 n L = true) (hz : inB z n.toNat = true) :
    Q1 C m t (.ias w x i) (.pointer (some ⟨(slBase v).block, (slBase v).off + z.toNat * w, none⟩)) := by
  have h := q_iasP (C := C) (m := m) (w := w) hx hi (shp_pre (w := w) hs hb) hz
  rw [slBase_pre hs] at h
  exact h
theorem q_slsU {w L : Nat} {x : Operand} {lo hi : Option Operand} {n lz hz : Int} (hx : ev t x = some (cutSl w v 0 n.toNat)) (hs : Shp v L) (hn : cutB 0 n L = true) (hl : OptI t 0 lo lz) (hh : OptI t n hi hz) (hb : cutB lz hz L = true) :
    Q1 C m t (.sls w x lo hi none) (cutSl w v lz.toNat hz.toNat) := by
  have hn := pre_n hn
  have hb := cutB_z hb
  obtain ⟨k, rfl⟩ : ∃ k : Nat, n = (k : Int) := ⟨n.toNat, by omega⟩
  rw [Int.toNat_natCast] at hx
  rcases hs with ⟨h1, h2⟩ | ⟨b, o1, cp, h1, h2⟩ | ⟨a, h1, h2⟩
  · subst h1; subst h2
    have e0 : k = 0 := by omega
    subst e0
    have hx' : ev t x = some (.slice none 0 0) := hx
    exact q_sls0 (mz := 0) hx' hl hh .no (by simp) (by omega)
  · subst h1
    simp only [cutSl, Nat.sub_zero] at hx
    have ea : slAddr b o1 0 cp w = ⟨b, o1, none⟩ := by
      unfold slAddr
      split <;> simp
    rw [ea] at hx
    have := q_sls (C := C) (m := m) (w := w) (mz := cp) hx hl hh .no (by simp) (by omega)
    simpa [cutSl] using this
  · subst h1; subst h2
    have e0 : k = 0 := by omega
    subst e0
    rw [cutSl_odd] at hx
    have e1 : lz.toNat = 0 := by omega
    have e2 : hz.toNat = 0 := by omega
    rw [e1, e2, cutSl_odd]
    exact q_slsE hx hl hh (by omega)
theorem rd_pre {n : Int} (hs : SrcM C m E v xs) (hb : cutB 0 n xs.length = true) : SrcM C m E (cutSl E.w v 0 n.toNat) (xs.take n.toNat) := by
  have h := rd_cut (C := C) (m := m) (E := E) (v := v) (xs := xs) (lz := 0) (hz := n) hs hb
  simpa using h
theorem sat_own1 {W0 : World} {S : List Nat} {w : World} (h : Sat W0 S m w) {ms mr : List Chunk} (hp : List.Perm (ms ++ mr) m) : Sat w (ms.map (·.b)) (ms ++ []) w := by
  rw [List.append_nil]; exact sat_own h hp
/-! ## Terse words for printed texts -/
theorem wc_br {β : Type} {r : β} {a b : Option β} {c : Bool} {x : Operand} {p q : IC} {kn : KN} {ke : KE} (h : br c a b = some r) (hx : ev t x = some (.bool c)) (ht : a = some r → WC C p t m kn ke) (hf : b = some r → WC C q t m kn ke) :
    WC C (.cond x p q) t m kn ke := wc_if hx (fun e => ht (br_t h e)) (fun e => hf (br_f h e))
end
section
variable {α β : Type} {r : β} {G : Prop}
theorem bH {x : α} {f : α → Option β} (h : bnd x f = some r) (k : ∀ z, z = x → f z = some r → G) : G := bnd_i k h
theorem cH {c : Bool} {o : Option β} (h : chk c o = some r) (k : c = true → o = some r → G) : G := chk_i k h
theorem oH {o : Option α} {f : α → Option β} (h : opt o f = some r) (k : ∀ y, o = some y → f y = some r → G) : G := opt_i k h
theorem jH {K : Type} {k : K} {g : K → Option β} (h : jn k g = some r) (q : ∀ k', k' = k → g k' = some r → G) : G := jn_i q h
end
instance (n : Nat) : OfNat Operand n := ⟨.tmp n⟩
abbrev oj (d : Nat) (i : IOp) : J := .op ⟨some d, none, i⟩
abbrev on_ (i : IOp) : J := .op ⟨none, none, i⟩
abbrev oi (d : Nat) (i : IOp) : IOpr := ⟨some d, none, i⟩
abbrev oe (i : IOp) : IOpr := ⟨none, none, i⟩
abbrev ci (n : Int) : Operand := .const (.int .i64 n)
end Go.Sx
/- A pointer to a struct that holds a slice of its own: both blocks go to the call together. -/
namespace Go.Sx
open Go Go.RowKit
set_option linter.all false

theorem IsSl.one1 {u : Value} (h : IsSl u) : one1 u = true := by obtain ⟨a, n, c, rfl⟩ := h; rfl
section
variable {α : Type} {m : List Chunk} {E : El α} {v : Value} {xs : List α}
end
end Go.Sx
/- Slices that grow out of another one: the base stays readable, whether the room behind it is used or new memory is taken. -/
namespace Go.Sx
open Go Go.RowKit
set_option linter.all false

section
variable {α : Type} {C : Cfg} {m : List Chunk} {t : TS} {K : KN} {E : El α} {v : Value} {xs : List α}
/-- v, of list ys, grew out of u, of list xs; ms is the memory of both. -/
def Grown (E : El α) (u : Value) (xs : List α) (v : Value) (ys : List α) (ms : List Chunk) : Prop :=
  (∃ m2 m1, ms = m2 ++ m1 ∧ OwnSl E v m2 ys ∧ OwnSl E u m1 xs) ∨
  (∃ b o cp T cs, u = .slice (some ⟨b, o, none⟩) xs.length cp ∧ v = .slice (some ⟨b, o, none⟩) ys.length cp ∧ xs.length ≤ ys.length ∧ ys.length ≤ cp ∧ ms = [⟨b, .cells (cells cs).toArray T (0, 0)⟩] ∧ o + cp * E.w ≤ width cs ∧
    (∀ i, i < xs.length → ∀ j, j < E.w → (cells cs)[o + (i * E.w + j)]? = (E.cell (xs.getD i E.z))[j]?) ∧
    ∀ i, i < ys.length → ∀ j, j < E.w → (cells cs)[o + (i * E.w + j)]? = (E.cell (ys.getD i E.z))[j]?)
theorem Grown.refl {ms : List Chunk} (h : OwnSl E v ms xs) : Grown E v xs v xs ms := by
  rcases h with ⟨h1, h2, h3⟩ | ⟨b, o, cp, T, cs, h1, h2, h3, h4, h5⟩
  · exact .inl ⟨[], [], by rw [h3]; rfl, .inl ⟨h1, h2, rfl⟩, .inl ⟨h1, h2, rfl⟩⟩
  · exact .inr ⟨b, o, cp, T, cs, h1, h1, Nat.le_refl _, h2, h3, h4, h5, h5⟩
/-- The base again, out of what grew. -/
theorem Grown.base {u : Value} {ys : List α} {ms : List Chunk} (h : Grown E u xs v ys ms) : ∃ m1, OwnSl E u m1 xs ∧ List.Sublist m1 ms := by
  rcases h with ⟨m2, m1, h1, _, h3⟩ | ⟨b, o, cp, T, cs, h1, _, h2, h2', h3, h4, h5, _⟩
  · exact ⟨m1, h3, by rw [h1]; exact List.sublist_append_right _ _⟩
  · exact ⟨ms, .inr ⟨b, o, cp, T, cs, h1, by omega, h3, h4, h5⟩, List.Sublist.refl _⟩
theorem Grown.own {u : Value} {ys : List α} {ms : List Chunk} (h : Grown E u xs v ys ms) : ∃ m1, OwnSl E v m1 ys ∧ List.Sublist m1 ms := by
  rcases h with ⟨m2, m1, h1, h3, _⟩ | ⟨b, o, cp, T, cs, _, h1, _, h2, h3, h4, _, h5⟩
  · exact ⟨m2, h3, by rw [h1]; exact List.sublist_append_left _ _⟩
  · exact ⟨ms, .inr ⟨b, o, cp, T, cs, h1, h2, h3, h4, h5⟩, List.Sublist.refl _⟩
theorem Grown.shp {u : Value} {ys : List α} {ms : List Chunk} (h : Grown E u xs v ys ms) : Shp v ys.length := by
  obtain ⟨m1, h1, _⟩ := h.own; exact Shp.own h1
/-- append onto a slice that grew out of another. -/
theorem ef_appG {d : Nat} {T : TypeId} {bytes : Nat} {z : List Seg} {x y : Operand} {ms mr : List Chunk} {u0 u : Value} {x0 ys xs' : List α} (e : xs' = xs ++ ys) (hx : ev t x = some v) (hO : Grown E u0 x0 v xs ms) (hT : Take ms m mr) (hy : ev t y = some u) (hs : SrcM C m E u ys)
    (hsz : decide ((xs.length + ys.length) * bytes ≤ 140737488355328) = true) (h : ∀ v' ms', Grown E u0 x0 v' xs' ms' → K ((d, v') :: t) (ms' ++ mr)) : EF C m t (some d) (.app T E.w bytes z x y) K := by
  rcases hO with ⟨m2, m1, rfl, h1, h2⟩ | ⟨b, o1, cp, T', cs, hu, h1, h20, h2, h3, h4, h50, h5⟩
  · refine EF.perm hT.perm ?_
    have hs2 : SrcM C (m2 ++ (m1 ++ mr)) E u ys := fun w' hw' => hs w' (hw'.perm (by rw [← List.append_assoc]; exact hT.perm.symm))
    rw [List.append_assoc]
    refine ef_appO e hx h1 Take.here hy hs2 hsz fun v' ms' hO' => ?_
    have := h v' (ms' ++ m1) (.inl ⟨ms', m1, rfl, hO', h2⟩)
    rwa [List.append_assoc] at this
  subst e
  have hsz := of_decide_eq_true hsz
  intro o ho hd a ha w hw
  have hS : SrcV C (ms ++ mr) E.w u ys.length (cellsOf E ys) := srcV_rd (w := w) (fun w' hw' => hs w' (hw'.perm hT.perm.symm)) (hw.perm hT.perm)
  refine EF.perm hT.perm (EF.less (?_ : EF C (ms ++ mr) t (some d) (.app T E.w bytes z x y) _)) o ho hd a ha w hw
  have hzw : width z = E.w := by
    simp only [okOp] at ho
    split at ho
    · simp only [Bool.and_eq_true, Nat.beq_eq] at ho
      exact ho.1.2
    · cases ho
  subst h1; subst h3
  refine ef_app hx Has.here hy hS h4 h2 hsz (fun hr => ?_) (fun hg b' cp' hb' hc' => ?_)
  · have hle : (xs.length + ys.length) * E.w ≤ cp * E.w := Nat.mul_le_mul_right _ hr
    rw [Nat.add_mul] at hle
    have hin : o1 + xs.length * E.w + (cellsOf E ys).length ≤ (cells cs).length := by rw [cellsOf_length, cells_length]; omega
    refine ⟨(splice (cells cs) (o1 + xs.length * E.w) (cellsOf E ys)).map Seg.one, [⟨b, .cells (cells ((splice (cells cs) (o1 + xs.length * E.w) (cellsOf E ys)).map Seg.one)).toArray T' (0, 0)⟩] ++ mr, cells_ones _, Upd.here, ?_⟩
    refine ⟨_, h _ _ (.inr ⟨b, o1, cp, T', _, hu, by simp, by rw [List.length_append]; omega, by simpa using hr, rfl, ?_, ?_, ?_⟩), List.Sublist.refl _⟩
    · rw [width_ones, splice, List.length_append, List.length_append, List.length_take, List.length_drop]
      rw [cells_length] at hin ⊢; omega
    · intro i hi j hj
      rw [cells_ones, splice_get hin, cellsOf_length]
      have : i * E.w + E.w ≤ xs.length * E.w := by rw [← Nat.succ_mul]; exact Nat.mul_le_mul_right _ (by omega)
      rw [if_neg (by omega), h50 i hi j hj]
    · intro i hi j hj
      rw [cells_ones, splice_get hin, cellsOf_length]
      rw [List.length_append] at hi
      by_cases hil : i < xs.length
      · have : i * E.w + E.w ≤ xs.length * E.w := by rw [← Nat.succ_mul]; exact Nat.mul_le_mul_right _ hil
        rw [if_neg (by omega), getD_app1 hil, h5 i hil j hj]
      · have e1 : i * E.w = xs.length * E.w + (i - xs.length) * E.w := by rw [← Nat.add_mul]; congr 1; omega
        have : (i - xs.length) * E.w + E.w ≤ ys.length * E.w := by rw [← Nat.succ_mul]; exact Nat.mul_le_mul_right _ (by omega)
        rw [if_pos (by omega), getD_app2 (by omega), show o1 + (i * E.w + j) - (o1 + xs.length * E.w) = (i - xs.length) * E.w + j by omega, cellsOf_get (by omega) hj]
  · have hle : xs.length * E.w ≤ cp * E.w := Nat.mul_le_mul_right _ h2
    have hl1 : (((cells cs).drop o1).take (xs.length * E.w)).length = xs.length * E.w := by rw [List.length_take, List.length_drop, cells_length]; omega
    refine ⟨(((cells cs).drop o1).take (xs.length * E.w) ++ cellsOf E ys ++ (List.replicate (cp' - (xs.length + ys.length)) (cells z)).flatten).map Seg.one, cells_ones _, ?_⟩
    refine ⟨_, h _ ([⟨b', _⟩] ++ [⟨b, _⟩]) (.inl ⟨_, _, rfl, .inr ⟨b', 0, cp', T, _, by simp, by simpa using hc', rfl, ?_, ?_⟩, .inr ⟨b, o1, cp, T', cs, hu, by omega, rfl, h4, h50⟩⟩), List.Sublist.refl _⟩
    · rw [width_ones, List.length_append, List.length_append, hl1, cellsOf_length]
      simp only [List.length_flatten, List.map_replicate, List.sum_replicate_nat, cells_length, hzw, Nat.zero_add]
      rw [← Nat.add_mul, ← Nat.add_mul]
      exact Nat.mul_le_mul_right _ (by omega)
    · intro i hi j hj
      rw [List.length_append] at hi
      rw [cells_ones, Nat.zero_add]
      by_cases hil : i < xs.length
      · have : i * E.w + E.w ≤ xs.length * E.w := by rw [← Nat.succ_mul]; exact Nat.mul_le_mul_right _ hil
        rw [List.append_assoc, List.getElem?_append_left (by rw [hl1]; omega), List.getElem?_take_of_lt (by omega), List.getElem?_drop, h5 i hil j hj, getD_app1 hil]
      · have e1 : i * E.w = xs.length * E.w + (i - xs.length) * E.w := by rw [← Nat.add_mul]; congr 1; omega
        have : (i - xs.length) * E.w + E.w ≤ ys.length * E.w := by rw [← Nat.succ_mul]; exact Nat.mul_le_mul_right _ (by omega)
        rw [List.append_assoc, List.getElem?_append_right (by rw [hl1]; omega), hl1, List.getElem?_append_left (by rw [cellsOf_length]; omega), getD_app2 (by omega), show i * E.w + j - xs.length * E.w = (i - xs.length) * E.w + j by omega, cellsOf_get (by omega) hj]
/-- Less memory is wanted than there is. -/
theorem EF.sub {d : Option Nat} {op : IOp} {m' : List Chunk} (h : EF C m' t d op K) (hs : List.Sublist m' m) : EF C m t d op K :=
  fun o ho hd a ha w hw => h o ho hd a ha w (hw.sublist hs)
/-- A slice of one's own within some memory. -/
def OwnIn (E : El α) (v : Value) (ms : List Chunk) (xs : List α) : Prop := ∃ m1, OwnSl E v m1 xs ∧ List.Sublist m1 ms
def GrownIn (E : El α) (u : Value) (xs : List α) (v : Value) (ys : List α) (ms : List Chunk) : Prop := ∃ m1, Grown E u xs v ys m1 ∧ List.Sublist m1 ms
theorem OwnSl.oin {ms : List Chunk} (h : OwnSl E v ms xs) : OwnIn E v ms xs := ⟨ms, h, List.Sublist.refl _⟩
theorem OwnIn.grow {ms : List Chunk} (h : OwnIn E v ms xs) : GrownIn E v xs v xs ms := by
  obtain ⟨m1, h1, h2⟩ := h; exact ⟨m1, Grown.refl h1, h2⟩
theorem GrownIn.base {u : Value} {ys : List α} {ms : List Chunk} (h : GrownIn E u xs v ys ms) : OwnIn E u ms xs := by
  obtain ⟨m1, h1, h2⟩ := h
  obtain ⟨m0, h3, h4⟩ := h1.base
  exact ⟨m0, h3, h4.trans h2⟩
theorem OwnIn.shp {ms : List Chunk} (h : OwnIn E v ms xs) : Shp v xs.length := by obtain ⟨_, h1, _⟩ := h; exact Shp.own h1
theorem GrownIn.shp {u : Value} {ys : List α} {ms : List Chunk} (h : GrownIn E u xs v ys ms) : Shp v ys.length := by obtain ⟨_, h1, _⟩ := h; exact h1.shp
theorem rd_gin {u : Value} {ys : List α} {ms mr : List Chunk} (h : GrownIn E u xs v ys ms) (hT : Take ms m mr) : SrcM C m E v ys := by
  obtain ⟨m1, h1, h2⟩ := h
  obtain ⟨m0, h3, h4⟩ := h1.own
  exact fun _ hw => RdSl.own h3 ((hw.take hT).sublist (h4.trans h2))
theorem ef_appGI {d : Nat} {T : TypeId} {bytes : Nat} {z : List Seg} {x y : Operand} {ms mr : List Chunk} {u0 u : Value} {x0 ys xs' : List α} (e : xs' = xs ++ ys) (hx : ev t x = some v) (hO : GrownIn E u0 x0 v xs ms) (hT : Take ms m mr) (hy : ev t y = some u) (hs : ∀ w, Sat C.W0 C.S mr w → RdSl E w u ys)
    (hsz : decide ((xs.length + ys.length) * bytes ≤ 140737488355328) = true) (h : ∀ v' ms', GrownIn E u0 x0 v' xs' ms' → K ((d, v') :: t) (ms' ++ mr)) : EF C m t (some d) (.app T E.w bytes z x y) K := by
  obtain ⟨m1, hG, hs1⟩ := hO
  refine EF.perm hT.perm (EF.sub (m' := m1 ++ mr) ?_ (hs1.append_right mr))
  exact ef_appG e hx hG Take.here hy (fun w hw => hs w (hw.sublist (List.sublist_append_right _ _))) hsz fun v' ms' h' => h v' ms' ⟨ms', h', List.Sublist.refl _⟩
end
end Go.Sx
/- The engine: groups of && and || in which there are effects (the proof goes both ways), and calls that are handed two slices to grow. -/
namespace Go.Sx
open Go Go.RowKit
set_option linter.all false

def isW (want : Bool) : Value → Bool
  | .bool b => b == want
  | _ => false
theorem isW_ne {want : Bool} {u : Value} (h : isW want u = false) : u ≠ .bool want := by
  rintro rfl; simp [isW] at h
theorem SatT.lit {n : Nat} {t : TS} {a : Act} (h : SatT n t a) {tc : Nat} {c b : Bool} (hc : Sx.look t tc = some (.bool c)) (e : c = b) : SatT n ((tc, .bool b) :: t) a := by
  subst e
  refine h.drop fun j v hj => ?_
  simp only [Sx.look] at hj
  by_cases e : Nat.beq tc j = true
  · rw [e, cond_true] at hj
    rw [Nat.beq_eq] at e; subst e
    rw [hc]; exact hj
  · rw [Bool.not_eq_true] at e; rw [e, cond_false] at hj; exact hj
section
variable {C : Cfg} {t : TS} {m m0 : List Chunk} {kn : KN} {op : IOp} {r : List J} {d : Option Nat} {tc i : Nat} {want bb : Bool} {late : List Nat} {rs : Sch}

theorem wl_ge {r : List IOpr} (hc : look t tc = some (.bool want)) (h : EF C m t d op (fun t' m' => WL C r t' m' kn)) : WL C (⟨d, some (tc, want), op⟩ :: r) t m kn := by
  intro ops lo hok ρ fu Q a w ha hw hcn
  cases lo with
  | nil => simp [okL] at hok
  | cons o lo =>
    simp only [okL, Bool.and_eq_true] at hok
    obtain ⟨⟨⟨hd, hg⟩, ho⟩, hr⟩ := hok
    unfold wpListIn
    rw [if_pos (by rw [wanted_guard hg ha hc]; simp)]
    refine wpIn_of_wp (okOp_nd ho) (Oper.wp_mono ?_ (wp_noQ (h o ho hd a ha w hw)))
    rintro a' w' ⟨t', m', hk, ha', hw'⟩
    exact hk ops lo hr ρ fu Q a' w' ha' hw' hcn
theorem qr_gskip {r : List IOpr} {d : Nat} {pre pre' : TS} {u : Value} (hc : look (pre ++ t) tc = some u) (hu : isW want u = false) (h : QR C m t r ((d, undef) :: pre) pre') : QR C m t (⟨some d, some (tc, want), op⟩ :: r) pre pre' := by
  intro ops lo hok
  cases lo with
  | nil => simp [okL] at hok
  | cons o lo =>
    simp only [okL, Bool.and_eq_true] at hok
    obtain ⟨⟨⟨hd, hg⟩, ho⟩, hr⟩ := hok
    obtain ⟨hd1, hd2⟩ := okD_some hd
    refine ⟨undef, fun a ha => .inr ⟨unwanted hg (by rw [ha.look _ _ hc]; exact isW_ne hu), rfl⟩, ?_⟩
    rw [hd1]
    exact QRun.sub (fun a' ⟨a, ha, e⟩ => e ▸ ha.put hd2 undef) (h ops lo hr)
/-- A guarded quiet operation that is wanted. -/
theorem wj_gq {d : Nat} (hc : look t tc = some (.bool want)) (v : Value) (h1 : Q1 C m t op v) (h : WJ C r ((d, v) :: t) m kn) : WJ C (.op ⟨some d, some (tc, want), op⟩ :: r) t m kn := by
  unfold WJ at *; rw [J.flatL, J.flat]
  exact wl_run (l1 := [⟨some d, some (tc, want), op⟩]) (pre := [(d, v)]) (qr_gop (pre := []) v hc h1 qr_nil) h
/-- A guarded one with an effect that is wanted. -/
theorem wj_ge (hc : look t tc = some (.bool want)) (h : EF C m t d op (fun t' m' => WJ C r t' m' kn)) : WJ C (.op ⟨d, some (tc, want), op⟩ :: r) t m kn := by
  unfold WJ at *; rw [J.flatL, J.flat]
  exact wl_ge hc h
/-- A guarded one that goes by. -/
theorem wj_gx {d : Nat} {u : Value} (hc : look t tc = some u) (hu : isW want u = false) (h : WJ C r ((d, undef) :: t) m kn) : WJ C (.op ⟨some d, some (tc, want), op⟩ :: r) t m kn := by
  unfold WJ at *; rw [J.flatL, J.flat]
  exact wl_run (l1 := [⟨some d, some (tc, want), op⟩]) (pre := [(d, undef)]) (qr_gskip (pre := []) hc hu qr_nil) h
/-- Both ways. -/
theorem wj_br {β : Type} {r0 : β} {a b : Option β} {c : Bool} (h : br c a b = some r0) (hc : look t tc = some (.bool c)) (ht : a = some r0 → WJ C r ((tc, .bool true) :: t) m kn) (hf : b = some r0 → WJ C r ((tc, .bool false) :: t) m kn) : WJ C r t m kn := by
  intro ops lo hok ρ fu Q a w ha hw hcn
  cases hcv : c with
  | true => exact ht (br_t h hcv) ops lo hok ρ fu Q a w (ha.lit hc hcv) hw hcn
  | false => exact hf (br_f h hcv) ops lo hok ρ fu Q a w (ha.lit hc hcv) hw hcn
theorem ws_lit {c b : Bool} (hc : look t tc = some (.bool c)) (e : c = b) (h : WS C rs late ((tc, .bool b) :: t) m0 m bb kn) : WS C rs late t m0 m bb kn :=
  fun ops listed h1 h2 h3 h4 => AnyS.sub (fun _ _ ⟨q1, q2, q3⟩ => ⟨q1.lit hc e, q2, q3⟩) (h ops listed h1 h2 h3 h4)
theorem ws_br {β : Type} {r0 : β} {a b : Option β} {c : Bool} (h : br c a b = some r0) (hc : look t tc = some (.bool c)) (ht : a = some r0 → WS C rs late ((tc, .bool true) :: t) m0 m bb kn) (hf : b = some r0 → WS C rs late ((tc, .bool false) :: t) m0 m bb kn) : WS C rs late t m0 m bb kn := by
  cases hcv : c with
  | true => exact ws_lit hc hcv (ht (br_t h hcv))
  | false => exact ws_lit hc hcv (hf (br_f h hcv))
theorem ws_gq {d : Nat} (hc : look t tc = some (.bool want)) (v : Value) (h1 : Q1 C m0 t op v) (h : WS C rs late ((d, v) :: t) m0 m true kn) : WS C (.q [i] (.op ⟨some d, some (tc, want), op⟩) rs) late t m0 m true kn :=
  ws_q (pre := [(d, v)]) (qj_g (pre := []) hc v h1 qj_nil) h
theorem ws_gp {d : Nat} (hc : look t tc = some (.bool want)) (v : Value) (h1 : Q1 C [] t op v) (h : WS C rs late ((d, v) :: t) m0 m bb kn) : WS C (.p [i] (.op ⟨some d, some (tc, want), op⟩) rs) late t m0 m bb kn :=
  ws_p (pre := [(d, v)]) (qj_g (pre := []) hc v h1 qj_nil) h
theorem qj_gx {d : Nat} {u : Value} (hc : look t tc = some u) (hu : isW want u = false) : QJ C m t [.op ⟨some d, some (tc, want), op⟩] [] [(d, undef)] := by
  unfold QJ; rw [J.flatL, J.flatL, J.flat]
  exact qr_gskip (pre := []) hc hu qr_nil
theorem ws_gxq {d : Nat} {u : Value} (hc : look t tc = some u) (hu : isW want u = false) (h : WS C rs late ((d, undef) :: t) m0 m true kn) : WS C (.q [i] (.op ⟨some d, some (tc, want), op⟩) rs) late t m0 m true kn :=
  ws_q (pre := [(d, undef)]) (qj_gx hc hu) h
theorem ws_gxp {d : Nat} {u : Value} (hc : look t tc = some u) (hu : isW want u = false) (h : WS C rs late ((d, undef) :: t) m0 m bb kn) : WS C (.p [i] (.op ⟨some d, some (tc, want), op⟩) rs) late t m0 m bb kn :=
  ws_p (pre := [(d, undef)]) (qj_gx hc hu) h
/-- A guarded operation with an effect that is wanted, when nothing else can come up. -/
theorem ws_ge (b' : Bool) (hc : look t tc = some (.bool want)) 
    (h : EF C m t d op (fun t' m' => (lateB late i = false → bb = true → ∀ c ∈ m0, c ∈ m') ∧ (lateB late i = false ∨ True) ∧ (b' = true → bb = true ∧ ∀ c ∈ m0, c ∈ m') ∧ (lateB late i = false → bb = true) ∧ WS C rs late t' m0 m' b' kn)) : WS C (.e i ⟨d, some (tc, want), op⟩ rs) late t m0 m bb kn := by
  intro ops listed hok hlen hsel hcl
  simp only [schedOk, Bool.and_eq_true] at hok
  obtain ⟨⟨ho, hr⟩, hrest⟩ := hok
  split at ho
  · rename_i o hoi
    simp only [okL, Bool.and_eq_true, Bool.and_true] at ho
    obtain ⟨⟨hd, hg⟩, hop⟩ := ho
    split at hr
    · rename_i k hk
      rw [Nat.beq_eq] at hr; subst hr
      rw [slen]
      refine ⟨fun h0 => (by rw [h0] at hk; cases hk), fun j hj a w hΦ => ?_⟩
      rw [hk] at hj
      obtain rfl : j = k := by simpa using hj
      obtain ⟨q1, q2, q3⟩ := hΦ
      unfold stp
      simp only [hoi]
      rw [if_pos (by rw [wanted_guard hg q1 hc]; simp)]
      refine Oper.wp_mono ?_ (h o hop hd a q1 w q2)
      rintro a' w' ⟨t', m', ⟨hk1, _, hk2, hk4, hk3⟩, ha', hw'⟩
      refine ⟨St C t' m0 m' b', St.gc, ⟨ha', hw', fun e => hw'.sub (q3 (hk2 e).1) (hk2 e).2⟩, fun hl hD => hw'.sub hD (hk1 hl (hk4 hl)), fun _ => hw'.none, ?_⟩
      exact hk3 ops _ hrest hlen hsel (hcl.set (by rw [hk]; simp))
    · cases hr
  · cases ho
theorem ws_ge1 (hc : look t tc = some (.bool want)) (h : EF C m t d op (fun t' m' => Sup m0 m' ∧ WS C rs late t' m0 m' true kn)) : WS C (.e i ⟨d, some (tc, want), op⟩ rs) late t m0 m true kn :=
  ws_ge true hc (h.mono fun _ _ hk => ⟨fun _ _ => hk.1, .inr trivial, fun _ => ⟨rfl, hk.1⟩, fun _ => rfl, hk.2⟩)
theorem ws_geq {d : Nat} (hc : look t tc = some (.bool want)) (v : Value) (h1 : Q1 C m t op v) (h : WS C rs late ((d, v) :: t) m0 m true kn) (hs : Sup m0 m) : WS C (.e i ⟨some d, some (tc, want), op⟩ rs) late t m0 m true kn :=
  ws_ge1 hc (ef_q v h1 ⟨hs, h⟩)
/-- A guarded one that goes by. -/
theorem ws_gx {d : Nat} {u : Value} (hc : look t tc = some u) (hu : isW want u = false) (h : WS C rs late ((d, undef) :: t) m0 m bb kn) : WS C (.e i ⟨some d, some (tc, want), op⟩ rs) late t m0 m bb kn := by
  intro ops listed hok hlen hsel hcl
  simp only [schedOk, Bool.and_eq_true] at hok
  obtain ⟨⟨ho, hr⟩, hrest⟩ := hok
  split at ho
  · rename_i o hoi
    simp only [okL, Bool.and_eq_true, Bool.and_true] at ho
    obtain ⟨⟨hd, hg⟩, hop⟩ := ho
    split at hr
    · rename_i k hk
      rw [Nat.beq_eq] at hr; subst hr
      rw [slen]
      refine ⟨fun h0 => (by rw [h0] at hk; cases hk), fun j hj a w hΦ => ?_⟩
      rw [hk] at hj
      obtain rfl : j = k := by simpa using hj
      obtain ⟨q1, q2, q3⟩ := hΦ
      obtain ⟨hd1, hd2⟩ := okD_some hd
      unfold stp
      simp only [hoi]
      rw [if_neg (by rw [unwanted hg (by rw [q1.look _ _ hc]; exact isW_ne hu)]; simp)]
      exact ⟨St C ((d, undef) :: t) m0 m bb, St.gc, ⟨hd1 ▸ q1.put hd2 undef, q2, q3⟩, fun _ h => h, fun h => h, h ops _ hrest hlen hsel (hcl.set (by rw [hk]; simp))⟩
    · cases hr
  · cases ho
theorem pick_t {x a b : Operand} {v : Value} (hc : ev t x = some (.bool true)) (ha : ev t a = some v) : Q1 C m t (.pick x a b) v := by
  cases hb : ev t b with
  | none => exact pick_q1 (u := v) hc (fun _ => ha) (fun h => by cases h)
  | some u => exact pick_q1 (u := v) hc (fun _ => ha) (fun h => by cases h)
theorem pick_f {x a b : Operand} {v : Value} (hc : ev t x = some (.bool false)) (hb : ev t b = some v) : Q1 C m t (.pick x a b) v :=
  pick_q1 (u := v) hc (fun h => by cases h) (fun _ => hb)
theorem perm3 {m m1 m2 M0 M1 : List Chunk} (h1 : Take M0 m m1) (h2 : Take M1 m1 m2) : List.Perm ((M0 ++ M1) ++ m2) m := by
  rw [List.append_assoc]
  exact (h2.perm.append_left M0).trans h1.perm
theorem sat_own3 {W0 : World} {S : List Nat} {w : World} (h : Sat W0 S m w) {M0 M1 mr : List Chunk} (hp : List.Perm ((M0 ++ M1) ++ mr) m) : Sat w ((M0 ++ M1).map (·.b)) (M0 ++ (M1 ++ [])) w := by
  rw [List.append_nil]; exact sat_own h hp
end
end Go.Sx
/- The engine: closures, and loops over functions: the iterator's walk with the loop's body inside it. -/
namespace Go.Sx
open Go Go.RowKit
set_option linter.all false

end Go.Sx
/- The engine: stores into parts of elements, views of several arguments, slices.Clone. -/
namespace Go.Sx
open Go Go.RowKit
set_option linter.all false
section
variable {α : Type} {C : Cfg} {m : List Chunk} {t : TS} {K : KN} {E : El α} {v : Value} {xs : List α}
/-- A store into a part of an element. -/
theorem ef_stOp {n c : Nat} {x y : Operand} {ms mr : List Chunk} {i : Nat} {u : Value} {x0 y0 : α} {xs' : List α} (ex : x0 = xs.getD i E.z) (e : xs' = setG E.z xs i y0) (hO : OwnSl E v ms xs) (hT : Take ms m mr)
    (hx : ev t x = some (.pointer (some ⟨(slBase v).block, (slBase v).off + i * E.w + c, none⟩))) (hy : ev t y = some u) (hn : u.cells.toList.length = n) (hb : Nat.ble (c + n) E.w = true) (hc : E.cell y0 = (E.cell x0).take c ++ (u.cells.toList ++ (E.cell x0).drop (c + n))) (hi : i < xs.length)
    (h : ∀ ms', OwnSl E v ms' xs' → K t (ms' ++ mr)) : EF C m t none (.st n x y) K := by
  refine EF.perm hT.perm ?_
  rcases hO with ⟨h1, h2, h3⟩ | ⟨b, o, cp, T, cs, h1, h2, h3, h4, h5⟩
  · subst h2; simp at hi
  · subst h1; subst h3; subst e; subst ex
    have hle : i * E.w + E.w ≤ cp * E.w := by rw [← Nat.succ_mul]; exact Nat.mul_le_mul_right _ (by omega)
    have hw0 : (E.cell (xs.getD i E.z)).length = E.w := E.len _
    have hwy : (E.cell y0).length = E.w := E.len _
    have hcn : c + n ≤ E.w := Nat.le_of_ble_eq_true hb
    have hin : o + i * E.w + c + n ≤ (cells cs).length := by rw [cells_length]; omega
    have hone : ∀ q ∈ u.cells.toList, one1 q = true := fun q hq => E.one y0 q (by rw [hc]; exact List.mem_append_right _ (List.mem_append_left _ hq))
    refine ef_put (l := cells cs) (vs := u.cells.toList) (T := T) (m' := [⟨b, .cells (cells ((splice (cells cs) (o + i * E.w + c) u.cells.toList).map Seg.one)).toArray T (0, 0)⟩] ++ mr) hx hy rfl hn ?_ (by simp only [slBase]; exact hin) hone (h _ (.inr ⟨b, o, cp, T, _, ?_, ?_, rfl, ?_, ?_⟩))
    · rw [cells_ones]; exact Upd.here
    · rw [setG_eq hi, List.length_set]
    · rw [setG_eq hi, List.length_set]; exact h2
    · rw [width_ones, splice, List.length_append, List.length_append, List.length_take, List.length_drop, hn, cells_length]
      have := cells_length cs; omega
    · intro i' hi' j hj
      rw [setG_eq hi, List.length_set] at hi'
      rw [cells_ones, splice_get (by rw [hn]; exact hin), getD_setG, hn]
      by_cases hii : i' = i
      · subst hii
        rw [if_pos rfl, hc]
        by_cases hj1 : j < c
        · rw [if_neg (by omega), h5 i' hi' j hj, List.getElem?_append_left (by rw [List.length_take]; omega), List.getElem?_take_of_lt hj1]
        · by_cases hj2 : j < c + n
          · rw [if_pos (by omega), List.getElem?_append_right (by rw [List.length_take]; omega), List.length_take, hw0, List.getElem?_append_left (by omega)]
            congr 1; omega
          · rw [if_neg (by omega), h5 i' hi' j hj, List.getElem?_append_right (by rw [List.length_take]; omega), List.length_take, hw0, List.getElem?_append_right (by omega), hn, List.getElem?_drop]
            congr 1; omega
      · rw [if_neg ?_, if_neg hii, h5 i' hi' j hj]
        intro hcon
        rcases Nat.lt_or_ge i' i with hl | hl
        · have : i' * E.w + E.w ≤ i * E.w := by rw [← Nat.succ_mul]; exact Nat.mul_le_mul_right _ hl
          omega
        · have : i * E.w + E.w ≤ i' * E.w := by rw [← Nat.succ_mul]; exact Nat.mul_le_mul_right _ (by omega)
          omega
end
end Go.Sx
/- The engine: calls of closures: a value of a function that is known. -/
namespace Go.Sx
open Go Go.RowKit
set_option linter.all false

section
variable {C : Cfg} {m : List Chunk} {t : TS} {K : KN}
end
section
variable {α : Type} {C : Cfg} {m : List Chunk} {t : TS} {K : KN} {E : El α} {v : Value} {xs : List α}
end
end Go.Sx
/- The engine: strings that are handed in: their length, their bytes, and the bytes as a slice. -/
namespace Go.Sx
open Go Go.RowKit
set_option linter.all false

section
variable {C : Cfg} {m : List Chunk} {t : TS} {K : KN}
end
end Go.Sx
/- The engine, part 27: panics. -/
namespace Go.Sx
open Go Go.RowKit
set_option linter.all false

section
variable {C : Cfg} {t : TS} {m : List Chunk} {kp : List PanicEntry → KN} {kn : KN} {ke : KE}
end
/-! ## The mirror's words -/
section
variable {α β ε : Type} {G : Prop}
end
end Go.Sx
/- The engine, part 28: deferred closures that recover. -/
namespace Go.Sx
open Go Go.RowKit
set_option linter.all false

section
variable {C : Cfg} {t : TS} {m : List Chunk} {kp : List PanicEntry → KN} {kn : KN}
end
/-- A drawn region, where the quiet operations read a part of the memory alone. -/
theorem wc_drawS {C : Cfg} {t : TS} {m0 m : List Chunk} {kn : KN} {ke : KE} {s : Sch} {late : List Nat} (hs : List.Sublist m0 m) (h : WS C s late t m0 m true kn) : WC C (.draw s late) t m kn ke := by
  intro hm c0 hok ρ fu Q a w ha hw hc
  cases c0 <;> first | (simp [okC] at hok; done) | skip
  rename_i id ops draw
  simp only [okC, Bool.and_eq_true, Nat.beq_eq] at hok
  obtain ⟨⟨⟨⟨⟨h1, h2⟩, hnd⟩, h3⟩, h5⟩, h4⟩ := hok
  subst h1
  refine wpIn_region_any hm ?_
  have hcl : Closed ops (Array.replicate ops.size false) := by
    intro j oj hj hl
    rw [Array.getD_eq_getD_getElem?, Array.getElem?_replicate] at hl
    split at hl <;> cases hl
  have H := h ops _ h4 h5 h2 hcl
  rw [h3] at H
  exact wpAny_of_AnyS hnd (fun a' w' ⟨t', m', hk, ha', hw'⟩ => hc.n t' m' hk a' w' ha' hw') _ _ _ H a _ ⟨ha, hw.drew, fun _ => (hw.sublist hs).drew⟩
end Go.Sx
/- The engine, part 28: maps of numbers to groups of cells (make, look up, store, delete, range). -/
namespace Go.Sx
open Go Go.RowKit
set_option linter.all false

/-! ## What a map holds -/

/-- A map's entries in the order of the block: key, element, stamp; and the clock. -/
structure Mp (α : Type) where
  es : List (Int × α × Nat)
  clock : Nat
section
variable {α : Type}
def Mp.z : Mp α := ⟨[], 0⟩
def Mp.ent (q : IntKind) (E : El α) (e : Int × α × Nat) : MapEntry := ⟨.int q e.1, .agg (E.cell e.2.1).toArray, e.2.2⟩
def Mp.obj (q : IntKind) (E : El α) (m : Mp α) : Obj := .map (m.es.map (Mp.ent q E)).toArray m.clock
def Mp.seek (k : Int) : List (Int × α × Nat) → Nat → Option (Nat × α)
  | [], _ => none
  | e :: r, i => bif k == e.1 then some (i, e.2.1) else Mp.seek k r (i + 1)
def Mp.get (m : Mp α) (k : Int) : Option α := (Mp.seek k m.es 0).map (·.2)
def Mp.put (m : Mp α) (k : Int) (v : α) : Mp α := match Mp.seek k m.es 0 with
  | some (i, _) => ⟨m.es.modify i fun e => (k, v, e.2.2), m.clock⟩
  | none => ⟨m.es ++ [(k, v, m.clock)], m.clock + 1⟩
def Mp.del (m : Mp α) (k : Int) : Mp α := match Mp.seek k m.es 0 with
  | some (i, _) => ⟨m.es.eraseIdx i, m.clock⟩
  | none => m
/-- The stamps lie below the clock, and no two are alike; nor are two keys. -/
structure Mp.Ok (m : Mp α) : Prop where
  lt : ∀ e ∈ m.es, e.2.2 < m.clock
  born : (m.es.map fun e => e.2.2).Nodup
  keys : (m.es.map fun e => e.1).Nodup

theorem Mp.seek_none {k : Int} : ∀ {l : List (Int × α × Nat)} {i : Nat}, Mp.seek k l i = none ↔ ∀ e ∈ l, e.1 ≠ k
  | [], i => by simp [Mp.seek]
  | e :: r, i => by
    rw [Mp.seek]
    by_cases h : k = e.1
    · simp [h]
    · have h' : (k == e.1) = false := by simpa using h
      rw [h', cond_false, Mp.seek_none]
      simp [Ne.symm h]
theorem Mp.seek_some {k : Int} : ∀ {l : List (Int × α × Nat)} {i j : Nat} {v : α}, Mp.seek k l i = some (j, v) → ∃ n e, j = i + n ∧ l[n]? = some e ∧ e.1 = k ∧ e.2.1 = v
  | [], i, j, v, h => by simp [Mp.seek] at h
  | e :: r, i, j, v, h => by
    rw [Mp.seek] at h
    by_cases hk : k = e.1
    · have h' : (k == e.1) = true := by simpa using hk
      rw [h', cond_true] at h
      obtain ⟨rfl, rfl⟩ := (Option.some.injEq _ _ ▸ h : (i, e.2.1) = (j, v)) |> Prod.mk.inj
      exact ⟨0, e, rfl, rfl, hk.symm, rfl⟩
    · have h' : (k == e.1) = false := by simpa using hk
      rw [h', cond_false] at h
      obtain ⟨n, e', h1, h2, h3, h4⟩ := Mp.seek_some h
      exact ⟨n + 1, e', by omega, by simpa using h2, h3, h4⟩

/-! ## The model's operations on such a block -/

theorem findNow_mp {d : TypeDesc} {q q' : IntKind} {E : El α} {k : Int} (hd : d = .int q') : ∀ (l : List (Int × α × Nat)) (i : Nat),
    Instr.findNow d (.int q k) (l.map (Mp.ent q E)) i = some ((Mp.seek k l i).map fun p => (p.1, .agg (E.cell p.2).toArray))
  | [], i => by simp [Instr.findNow, Mp.seek]
  | e :: r, i => by
    subst hd
    have e1 : Instr.sameNow (.int q') (.int q k) (Mp.ent q E e).key = some (k == e.1) := by simp [Mp.ent, Instr.sameNow]
    rw [List.map_cons, Instr.findNow, e1, Mp.seek]
    cases h : k == e.1
    · simp only [cond_false]
      exact findNow_mp rfl r (i + 1)
    · simp [Mp.ent]

variable {P : Program} {w : World} {T K e : TypeId} {q : IntKind} {b : Nat} {mp : Mp α} {E : El α}

theorem run_key {em : Bool} {k : Int} (hK : P.underlying K = some (.int q)) : (Instr.checkKey em 10000 K (.int q k)).run P w = .ok () w := MapKept.run_checkKey hK (by simp [MapKept.IsKey]) em 9999
theorem run_find {k : Int} (hK : P.underlying K = some (.int q)) : (Instr.findKey K (.int q k) ((mp.es.map (Mp.ent q E)).toArray.toList)).run P w = .ok ((Mp.seek k mp.es 0).map fun p => (p.1, .agg (E.cell p.2).toArray)) w :=
  MapKept.run_findKey hK (findNow_mp rfl mp.es 0)

theorem run_mlk (hT : P.underlying T = some (.map K e)) (hK : P.underlying K = some (.int q)) (hb : w.heap[b]? = some (mp.obj q E)) {z : Value} (hz : (zeroValue e).run P w = .ok z w) (k : Int) (ok : Bool) :
    (Instr.lookup T (.map (some b)) (.int q k) ok).run P w = .ok (if ok then .tuple #[((mp.get k).map fun a => Value.agg (E.cell a).toArray).getD z, .bool (mp.get k).isSome] else ((mp.get k).map fun a => Value.agg (E.cell a).toArray).getD z) w := by
  have h1 : (getObj b).run P w = .ok (.map (mp.es.map (Mp.ent q E)).toArray mp.clock) w := MapKept.run_getObj_map hb
  have h2 := fun em => run_key (P := P) (w := w) (em := em) (k := k) hK
  have h3 := run_find (w := w) (mp := mp) (E := E) (k := k) hK
  unfold Instr.lookup
  simp only [Sem.run_bind, run_underlying hT, Result.andThen_ok, h1, Sem.run_pure, h2, h3]
  unfold Mp.get
  cases Mp.seek k mp.es 0 with
  | none => cases ok <;> simp [hz]
  | some p => cases ok <;> simp

theorem modify_map {β γ : Type} (f : β → γ) (g : β → β) (g' : γ → γ) (i : Nat) (l : List β) (h : ∀ x, l[i]? = some x → f (g x) = g' (f x)) : (l.map f).modify i g' = (l.modify i g).map f := by
  apply List.ext_getElem?
  intro j
  simp only [List.getElem?_modify, List.getElem?_map, Option.map_map]
  by_cases hj : i = j
  · subst hj
    cases hx : l[i]? with
    | none => simp
    | some x => simp [h x hx]
  · simp [hj]

theorem run_mup (hT : P.underlying T = some (.map K e)) (hK : P.underlying K = some (.int q)) (hb : w.heap[b]? = some (mp.obj q E)) (k : Int) (a : α) :
    (Instr.mapUpdate T (.map (some b)) (.int q k) (.agg (E.cell a).toArray)).run P w = .ok () { w with heap := w.heap.setIfInBounds b ((mp.put k a).obj q E) } := by
  have h1 : (getObj b).run P w = .ok (.map (mp.es.map (Mp.ent q E)).toArray mp.clock) w := MapKept.run_getObj_map hb
  have h2 := fun em => run_key (P := P) (w := w) (em := em) (k := k) hK
  have h3 := run_find (w := w) (mp := mp) (E := E) (k := k) hK
  have h4 : ∀ o, (setObj b o).run P w = .ok () { w with heap := w.heap.setIfInBounds b o } := fun o => MapKept.run_setObj_map o hb
  unfold Instr.mapUpdate
  simp only [Sem.run_bind, run_underlying hT, Result.andThen_ok, h1, h2, h3]
  unfold Mp.put
  cases hs : Mp.seek k mp.es 0 with
  | none =>
    simp only [Option.map_none, h4]
    congr 3
    simp [Mp.obj, Mp.ent]
  | some p =>
    obtain ⟨i, v⟩ := p
    obtain ⟨n, e0, hn, hx, hk, hv⟩ := Mp.seek_some hs
    have hi : n = i := by omega
    subst hi
    have hget : (mp.es.map (Mp.ent q E)).toArray[n]? = some (Mp.ent q E e0) := by simp [hx]
    have hkey : (Instr.keyThatStays (.int q e0.1) (.int q k)).run P w = .ok (.int q k) w := by
      simp [Instr.keyThatStays, Instr.sameBits, hk]
    have hkey' : (Instr.keyThatStays (Mp.ent q E e0).key (.int q k)).run P w = .ok (.int q k) w := hkey
    simp only [Option.map_some, hget, Option.getD_some, Sem.run_bind, hkey', Result.andThen_ok, h4]
    congr 3
    simp only [Mp.obj, Obj.map.injEq, and_true]
    apply Array.ext'
    rw [Array.toList_modify]
    exact modify_map _ _ _ _ _ fun x hx' => rfl

theorem run_mdl (hT : P.underlying T = some (.map K e)) (hK : P.underlying K = some (.int q)) (hb : w.heap[b]? = some (mp.obj q E)) (k : Int) {tys : Array TypeId} {ty : TypeId} (h0 : tys[0]? = some T) :
    (Builtin.delete_ tys ty #[.map (some b), .int q k]).run P w = .ok (.tuple #[]) { w with heap := w.heap.setIfInBounds b ((mp.del k).obj q E) } := by
  have h1 : (getObj b).run P w = .ok (.map (mp.es.map (Mp.ent q E)).toArray mp.clock) w := MapKept.run_getObj_map hb
  have h2 := fun em => run_key (P := P) (w := w) (em := em) (k := k) hK
  have h3 := run_find (w := w) (mp := mp) (E := E) (k := k) hK
  have h4 : ∀ o, (setObj b o).run P w = .ok () { w with heap := w.heap.setIfInBounds b o } := fun o => MapKept.run_setObj_map o hb
  unfold Builtin.delete_
  simp only [h0, List.getElem?_toArray, List.getElem?_cons_zero, List.getElem?_cons_succ, Sem.run_bind, run_underlying hT, Result.andThen_ok, h1, h2, h3]
  unfold Mp.del
  cases hs : Mp.seek k mp.es 0 with
  | none =>
    simp only [Option.map_none, Sem.run_bind, h4, Result.andThen_ok, Sem.run_pure]
    rfl
  | some p =>
    obtain ⟨i, v⟩ := p
    simp only [Option.map_some, Sem.run_bind, h4, Result.andThen_ok, Sem.run_pure]
    congr 3
    simp only [Mp.obj, Obj.map.injEq, and_true]
    apply Array.ext'
    rw [Array.toList_eraseIdxIfInBounds]
    simp [ChangeMaps.map_eraseIdx]
end

/-! ## The rules -/

section
variable {C : Cfg} {t : TS} {m m' : List Chunk} {K : KN} {α : Type} {E : El α} {q : IntKind} {mp : Mp α} {b r : Nat} {s : List Seg}

theorem q_mm {mx : Bool} {x y : Operand} {k k' : IntKind} {i j : Int} (hx : ev t x = some (.int k i)) (hy : ev t y = some (.int k' j)) : Q1 C m t (.mm mx x y) (.int k (if mx then max i j else min i j)) := by
  intro o ho a ha w hw
  simp only [okOp] at ho
  split at ho
  · rename_i c heq
    simp only [Bool.and_eq_true] at ho
    obtain ⟨h1, h2⟩ := ho
    have hargs : c.args = #[x, y] := Array.ext' (by simpa using oeqL_sound h2)
    refine quiet_val ?_
    split at h1
    · rename_i hcal
      subst h1
      simp only [execOp, heq, resolve, hcal, Sem.run_bind, Sem.run_pure, Result.andThen_ok, invoke, builtin, hargs, List.map_toArray, List.map_cons, List.map_nil, ha.ev hx, ha.ev hy]
      simp only [Builtin.max_, List.foldlM_cons, List.foldlM_nil, Builtin.max2, Sem.run_bind, Sem.run_pure, Result.andThen_ok, if_true]
      congr 3
      by_cases h : j > i
      · rw [if_pos h]; omega
      · rw [if_neg h]; omega
    · rename_i hcal
      have h1' : mx = false := by simpa using h1
      subst h1'
      simp only [execOp, heq, resolve, hcal, Sem.run_bind, Sem.run_pure, Result.andThen_ok, invoke, builtin, hargs, List.map_toArray, List.map_cons, List.map_nil, ha.ev hx, ha.ev hy]
      simp only [Builtin.min_, List.foldlM_cons, List.foldlM_nil, Builtin.min2, Sem.run_bind, Sem.run_pure, Result.andThen_ok, Bool.false_eq_true, if_false]
      congr 3
      by_cases h : j < i
      · rw [if_pos h]; omega
      · rw [if_neg h]; omega
    · cases h1
  · cases ho

theorem q_mlk {z : List Seg} {x k : Operand} {n : Int} (hx : ev t x = some (.map (some b))) (hk : ev t k = some (.int q n)) (hb : Has b (mp.obj q E) m) (hz : E.cell E.z = cells z) (hs : E.cell ((mp.get n).getD E.z) = cells s) :
    Q1 C m t (.mlk q true z x k) (.tuple #[agg s, .bool (mp.get n).isSome]) := by
  intro o ho a ha w hw
  simp only [okOp] at ho
  split at ho
  · rename_i T x' k' ok' heq
    simp only [Bool.and_eq_true, beq_iff_eq] at ho
    obtain ⟨⟨⟨h1, h2⟩, h3⟩, h4⟩ := ho
    have e1 := oeq_sound h1; have e2 := oeq_sound h2
    subst e1; subst e2; subst h3
    split at h4
    · rename_i Kt e hT
      simp only [Bool.and_eq_true] at h4
      obtain ⟨h5, h6⟩ := h4
      split at h5
      · rename_i q' hK
        have e3 := of_decide_eq_true h5
        subst e3
        split at h6
        · rename_i cs hzv
          have hcs : cs.toList = cells z := veqL_sound h6
          have hz0 : (zeroValue e).run C.P w = .ok (.agg cs) w := by
            cases hi : C.P.info? e with
            | none => rw [hi] at hzv; cases hzv
            | some inf =>
              rw [hi] at hzv
              have hz1 : inf.zero = some (.agg cs) := hzv
              simp [zeroValue, typeInfo, program, Sem.run, hi, hz1]
          have hrun := run_mlk hT hK (hw.own _ hb.mem) hz0 n true
          refine quiet_val ?_
          have e4 : a.eval x' = .map (some b) := ha.ev hx
          have e5 : a.eval k' = .int q' n := ha.ev hk
          have e6 : (((mp.get n).map fun a => Value.agg (E.cell a).toArray).getD (.agg cs)) = agg s := by
            revert hs
            cases mp.get n with
            | none => intro hs; simp only [Option.map_none, Option.getD_none] at hs ⊢; simp only [agg]; rw [← hs, hz, ← hcs]
            | some v => intro hs; simp only [Option.map_some, Option.getD_some] at hs ⊢; simp only [agg]; rw [← hs]
          simp only [execOp, heq, e4, e5]
          rw [if_pos rfl, e6] at hrun
          simp [hrun]
        · cases h6
      · cases h5
    · cases h4
  · cases ho

theorem okOp_mup {P : Program} {o : Oper} {x k v : Operand} (h : okOp P o (.mup q x k v) = true) : ∃ T Kt e, o.op = .mapUpdate T x k v ∧ P.underlying T = some (.map Kt e) ∧ P.underlying Kt = some (.int q) := by
  simp only [okOp] at h
  split at h
  · rename_i T x' k' v' heq
    simp only [Bool.and_eq_true] at h
    obtain ⟨⟨⟨h1, h2⟩, h3⟩, h4⟩ := h
    have e1 := oeq_sound h1; have e2 := oeq_sound h2; have e3 := oeq_sound h3
    subst e1; subst e2; subst e3
    split at h4
    · rename_i Kt e hT
      split at h4
      · rename_i q' hK
        have e3 := of_decide_eq_true h4
        subst e3
        exact ⟨T, Kt, e, heq, hT, hK⟩
      · cases h4
    · cases h4
  · cases h

theorem sat_map {w : World} {W0 : World} {S : List Nat} {o o' : Obj} (hw : Sat W0 S m w) (hu : Upd b o o' m m') : Sat W0 S m' { w with heap := w.heap.setIfInBounds b o' } := by
  have hb := hw.own _ hu.mem
  obtain ⟨h1, h2⟩ := MapKept.heap_set (o' := o') hb
  exact hw.upd hu h1 h2 (by simp) rfl rfl rfl

theorem ef_mup {x k v : Operand} {n : Int} {a0 : α} (hx : ev t x = some (.map (some b))) (hk : ev t k = some (.int q n)) (hv : ev t v = some (agg s)) (hs : E.cell a0 = cells s)
    (hu : Upd b (mp.obj q E) ((mp.put n a0).obj q E) m m') (h : K t m') : EF C m t none (.mup q x k v) K := by
  intro o ho hd a ha w hw
  have hd' := okD_none hd
  obtain ⟨T, Kt, e, heq, hT, hK⟩ := okOp_mup ho
  have hrun := run_mup hT hK (hw.own _ hu.mem) n a0
  unfold Oper.wp
  have h2 : (execOp a.eval o).run C.P w = .ok .skip { w with heap := w.heap.setIfInBounds b ((mp.put n a0).obj q E) } := by
    have e5 : agg s = .agg (E.cell a0).toArray := by simp only [agg]; rw [hs]
    simp only [execOp, heq, ha.ev hx, ha.ev hk, ha.ev hv, e5]
    simp [hrun]
  rw [h2]
  simp only [Oper.upon, hd']
  exact ⟨t, m', h, ha, sat_map hw hu⟩

theorem okOp_mdl {P : Program} {o : Oper} {x k : Operand} (h : okOp P o (.mdl q x k) = true) : ∃ c T Kt e, o.op = .call c ∧ c.callee = .builtin .delete ∧ c.args = #[x, k] ∧ c.argTypes[0]? = some T ∧ P.underlying T = some (.map Kt e) ∧ P.underlying Kt = some (.int q) := by
  simp only [okOp] at h
  split at h
  · rename_i c heq
    simp only [Bool.and_eq_true] at h
    obtain ⟨⟨h1, h2⟩, h3⟩ := h
    have hb : c.callee = .builtin .delete := by
      revert h1; cases c.callee <;> simp
      rename_i f; cases f <;> simp
    have hargs : c.args = #[x, k] := Array.ext' (by simpa using oeqL_sound h2)
    split at h3
    · rename_i Kt e he
      cases hT : c.argTypes[0]? with
      | none => rw [hT] at he; simp at he
      | some T =>
        rw [hT] at he
        split at h3
        · rename_i q' hK
          have e3 := of_decide_eq_true h3
          subst e3
          exact ⟨c, T, Kt, e, heq, hb, hargs, rfl.trans hT, by simpa using he, hK⟩
        · cases h3
    · cases h3
  · cases h

theorem ef_mdl {x k : Operand} {n : Int} (hx : ev t x = some (.map (some b))) (hk : ev t k = some (.int q n)) (hu : Upd b (mp.obj q E) ((mp.del n).obj q E) m m') (h : K t m') : EF C m t none (.mdl q x k) K := by
  intro o ho hd a ha w hw
  have hd' := okD_none hd
  obtain ⟨c, T, Kt, e, heq, hcal, hargs, h0, hT, hK⟩ := okOp_mdl ho
  have hrun := run_mdl hT hK (hw.own _ hu.mem) n (ty := o.type) h0
  unfold Oper.wp
  have h2 : (execOp a.eval o).run C.P w = (Result.ok (.tuple #[]) { w with heap := w.heap.setIfInBounds b ((mp.del n).obj q E) } : Result Value).andThen fun v w => .ok (.value v) w := by
    simp only [execOp, heq, resolve, hcal, Sem.run_bind, Sem.run_pure, Result.andThen_ok, invoke, builtin, hargs, List.map_toArray, List.map_cons, List.map_nil, ha.ev hx, ha.ev hk, hrun]
  rw [h2, Result.andThen_ok]
  simp only [Oper.upon, hd']
  exact ⟨_, m', h, ha, sat_map hw hu⟩

theorem ef_mkm {d : Nat} (h : ∀ b, C.W0.heap.size ≤ b → K ((d, .map (some b)) :: t) (⟨b, (Mp.z : Mp α).obj q E⟩ :: m)) : EF C m t (some d) .mkm K := by
  intro o ho hd a ha w hw
  obtain ⟨hd1, hd2⟩ := okD_some hd
  simp only [okOp] at ho
  split at ho
  · rename_i T heq
    unfold Oper.wp
    have hrun : (execOp a.eval o).run C.P w = .ok (.value (.map (some w.heap.size))) (w.alloc (.map #[] 0)) := by
      simp only [execOp, heq]
      rfl
    rw [hrun]
    simp only [Oper.upon, hd1]
    exact ⟨_, _, h w.heap.size hw.fr.size, ha.put hd2 _, hw.alloc _⟩
  · cases ho

abbrev itr (b c : Nat) (seen : Array Nat) : Obj := .mapIter (some b) c seen c

theorem ef_mrg {d : Nat} {x : Operand} (hx : ev t x = some (.map (some b))) (hb : Has b (mp.obj q E) m) (h : ∀ r, C.W0.heap.size ≤ r → K ((d, .pointer (some ⟨r, 0, none⟩)) :: t) (⟨r, itr b mp.clock #[]⟩ :: m)) : EF C m t (some d) (.mrg x) K := by
  intro o ho hd a ha w hw
  obtain ⟨hd1, hd2⟩ := okD_some hd
  simp only [okOp] at ho
  split at ho
  · rename_i T x' heq
    simp only [Bool.and_eq_true] at ho
    obtain ⟨h1, h2⟩ := ho
    have e1 := oeq_sound h1
    subst e1
    split at h2
    · rename_i Kt e hT
      have hb' : w.heap[b]? = some (.map (mp.es.map (Mp.ent q E)).toArray mp.clock) := hw.own _ hb.mem
      have e2 : a.eval x' = .map (some b) := ha.ev hx
      unfold Oper.wp
      have hrun : (execOp a.eval o).run C.P w = .ok (.value (.pointer (some ⟨w.heap.size, 0, none⟩))) (w.alloc (itr b mp.clock #[])) := by
        simp only [execOp, heq, e2, Sem.run_bind, run_range_map w T Kt e b _ _ hT hb', Result.andThen_ok, Sem.run_pure]
      rw [hrun]
      simp only [Oper.upon, hd1]
      exact ⟨_, _, h w.heap.size hw.fr.size, ha.put hd2 _, hw.alloc _⟩
    · cases h2
  · cases ho

theorem ef_mnx {d : Nat} {x : Operand} {seen : Array Nat} {M' : Int × α × Nat → List Chunk} (hx : ev t x = some (.pointer (some ⟨r, 0, none⟩))) (hr : Has r (itr b mp.clock seen) m) (hb : Has b (mp.obj q E) m) (hok : mp.Ok)
    (hu : ∀ e, Upd r (itr b mp.clock seen) (itr b mp.clock (seen.push e.2.2)) m (M' e))
    (h0 : (∀ e ∈ mp.es, seen.contains e.2.2 = true) → K ((d, .tuple #[.bool false]) :: t) m)
    (h1 : ∀ e, e ∈ mp.es → seen.contains e.2.2 = false → K ((d, .tuple #[.bool true, .int q e.1, .agg (E.cell e.2.1).toArray]) :: t) (M' e)) : EF C m t (some d) (.mnx x) K := by
  intro o ho hd a ha w hw
  obtain ⟨hd1, hd2⟩ := okD_some hd
  simp only [okOp] at ho
  split at ho
  · rename_i x' heq
    have e1 := oeq_sound ho
    subst e1
    have hb' : w.heap[b]? = some (.map (mp.es.map (Mp.ent q E)).toArray mp.clock) := hw.own _ hb.mem
    have hr' : w.heap[r]? = some (.mapIter (some b) mp.clock seen mp.clock) := hw.own _ hr.mem
    have e2 : a.eval x' = .pointer (some ⟨r, 0, none⟩) := ha.ev hx
    have hold : ∀ y ∈ (mp.es.map (Mp.ent q E)).toArray.toList, y.born < mp.clock := by
      intro y hy
      simp only [List.mem_map] at hy
      obtain ⟨e, he, rfl⟩ := hy
      exact hok.lt e he
    unfold Oper.wp
    rcases run_next_at (P := C.P) w o.type r b mp.clock mp.clock seen _ mp.clock hr' hb' hold (Nat.le_refl _) with ⟨hz, hrun⟩ | ⟨e', he', w1, hw1, hrun⟩
    · have hall : ∀ e ∈ mp.es, seen.contains e.2.2 = true := by
        intro e he
        have hz' := Array.eq_empty_of_size_eq_zero hz
        unfold leftOf at hz'
        rw [Array.filter_eq_empty_iff] at hz'
        have := hz' (Mp.ent q E e) (by simp only [List.mem_toArray, List.mem_map]; exact ⟨e, he, rfl⟩)
        simpa [Mp.ent] using this
      have h2 : (execOp a.eval o).run C.P w = .ok (.value (.tuple #[.bool false])) w := by
        simp only [execOp, heq, e2, Sem.run_bind, hrun, Result.andThen_ok, Sem.run_pure]
      rw [h2]
      simp only [Oper.upon, hd1]
      exact ⟨_, _, h0 hall, ha.put hd2 _, hw⟩
    · have hmem : ∃ e ∈ mp.es, seen.contains e.2.2 = false ∧ e' = Mp.ent q E e := by
        unfold leftOf at he'
        simp only [Array.toList_filter, List.mem_filter, List.mem_map] at he'
        obtain ⟨⟨e, he, rfl⟩, hs⟩ := he'
        exact ⟨e, he, by simpa [Mp.ent] using hs, rfl⟩
      obtain ⟨e, he, hs, rfl⟩ := hmem
      have h2 : (execOp a.eval o).run C.P w = .ok (.value (.tuple #[.bool true, .int q e.1, .agg (E.cell e.2.1).toArray])) (ChangeMaps.setBlock w1 r (itr b mp.clock (seen.push e.2.2))) := by
        simp only [execOp, heq, e2, Sem.run_bind, hrun, Result.andThen_ok, Sem.run_pure]
        rfl
      have hw1' : Sat C.W0 C.S m w1 := by
        rcases hw1 with rfl | rfl
        · exact hw
        · exact hw.drew
      rw [h2]
      simp only [Oper.upon, hd1]
      exact ⟨_, _, h1 e he hs, ha.put hd2 _, sat_map hw1' (hu e)⟩
  · cases ho

theorem q_men {x : Operand} {e : Int × α × Nat} {seen : Array Nat} (hx : ev t x = some (.pointer (some ⟨r, 0, none⟩))) (hr : Has r (itr b mp.clock (seen.push e.2.2)) m) (hb : Has b (mp.obj q E) m) (he : e ∈ mp.es) (hok : mp.Ok) (hs : E.cell e.2.1 = cells s) :
    Q1 C m t (.men x) (.tuple #[.int q e.1, agg s]) := by
  intro o ho a ha w hw
  simp only [okOp] at ho
  split at ho
  · rename_i x' heq
    have e1 := oeq_sound ho
    subst e1
    have e2 : a.eval x' = .pointer (some ⟨r, 0, none⟩) := ha.ev hx
    have hrun := run_entry_at (P := C.P) w r b mp.clock seen (mp.es.map (Mp.ent q E)).toArray mp.clock (Mp.ent q E e) (hw.own _ hr.mem) (hw.own _ hb.mem) (by simp only [List.mem_map]; exact ⟨e, he, rfl⟩) (by simp only [List.map_map]; exact hok.born)
    refine quiet_val ?_
    have e3 : agg s = .agg (E.cell e.2.1).toArray := by simp only [agg]; rw [hs]
    simp only [execOp, heq, e2]
    rw [e3]
    simp [hrun, Mp.ent]
  · cases ho

/-! ## A loop over a map: its rounds in any order -/

/-- The entries one by one, where every order of them comes to the same. -/
noncomputable def rngM {S : Type} (mp : Mp α) (f : S → Int × α × Nat → Option S) (s0 : S) : Option S := by
  classical
  exact if mp.Ok ∧ ∀ l : List (Int × α × Nat), l.Perm mp.es → l.foldlM f s0 = mp.es.foldlM f s0 then mp.es.foldlM f s0 else none
theorem rngM_some {S : Type} {f : S → Int × α × Nat → Option S} {s0 s1 : S} (h : rngM mp f s0 = some s1) : mp.Ok ∧ ∀ l : List (Int × α × Nat), l.Perm mp.es → l.foldlM f s0 = some s1 := by
  unfold rngM at h
  split at h
  · rename_i h1
    exact ⟨h1.1, fun l hl => (h1.2 l hl).trans h⟩
  · cases h
theorem rngM_of {S : Type} {f : S → Int × α × Nat → Option S} {s0 s1 : S} (hok : mp.Ok) (h : ∀ l : List (Int × α × Nat), l.Perm mp.es → l.foldlM f s0 = some s1) : rngM mp f s0 = some s1 := by
  unfold rngM
  have h0 := h mp.es (List.Perm.refl _)
  rw [if_pos ⟨hok, fun l hl => (h l hl).trans h0.symm⟩, h0]

theorem wc_rng {kn : KN} {ke : KE} {S : Type} {f : S → Int × α × Nat → Option S} {s0 s1 : S} (hf : rngM mp f s0 = some s1) (J : S → Array Nat → KN) {c : IC} (h0 : J s0 #[] t m)
    (round : mp.Ok → ∀ s seen t m (N : KN), J s seen t m → ((∀ e ∈ mp.es, seen.contains e.2.2 = true) → s = s1) →
      (∀ e, e ∈ mp.es → seen.contains e.2.2 = false → ∃ s', f s e = some s' ∧ ∀ t' m', J s' (seen.push e.2.2) t' m' → N t' m') → WC C c t m N ke) : WC C (.loop c) t m kn ke := by
  obtain ⟨hok, hall⟩ := rngM_some hf
  refine wc_loopJ (fun n t m => ∃ s seen done left, J s seen t m ∧ (done ++ left).Perm mp.es ∧ n = left.length ∧ done.foldlM f s0 = some s ∧ ∀ k, seen.contains k = true ↔ ∃ e ∈ done, e.2.2 = k) mp.es.length
    ⟨s0, #[], [], mp.es, h0, List.Perm.refl _, rfl, rfl, by simp⟩ ?_
  rintro n t m ⟨s, seen, done, left, hJ, hp, rfl, hd, hs⟩
  have hnd : ((done ++ left).map fun e => e.2.2).Nodup := (hp.map _).nodup_iff.2 hok.born
  have hdisj : ∀ e ∈ left, seen.contains e.2.2 = false := by
    intro e he
    cases hc : seen.contains e.2.2 with
    | false => rfl
    | true =>
      obtain ⟨e', he', hb'⟩ := (hs _).1 hc
      rw [List.map_append, List.nodup_append] at hnd
      exact absurd hb' (hnd.2.2 _ (List.mem_map.2 ⟨e', he', rfl⟩) _ (List.mem_map.2 ⟨e, he, rfl⟩))
  refine round hok s seen t m _ hJ ?_ ?_
  · intro ha
    have hl : left = [] := by
      cases left with
      | nil => rfl
      | cons e r =>
        have h1 := hdisj e (List.mem_cons_self)
        rw [ha e (hp.mem_iff.1 (by simp))] at h1
        cases h1
    subst hl
    rw [List.append_nil] at hp
    exact Option.some.inj (hd.symm.trans (hall done hp))
  · intro e he hns
    have hel : e ∈ left := by
      rcases List.mem_append.1 (hp.mem_iff.2 he) with h1 | h1
      · have := (hs e.2.2).2 ⟨e, h1, rfl⟩
        rw [hns] at this; cases this
      · exact h1
    obtain ⟨l1, l2, rfl⟩ := List.append_of_mem hel
    have hp' : ((done ++ [e]) ++ (l1 ++ l2)).Perm mp.es := by
      refine List.Perm.trans ?_ hp
      rw [List.append_assoc]
      refine List.Perm.append_left _ ?_
      exact (List.perm_middle (l₁ := l1) (a := e) (l₂ := l2)).symm
    have h1 := hall _ hp'
    rw [List.foldlM_append, List.foldlM_append, hd] at h1
    simp only [Option.bind_eq_bind, Option.bind_some, List.foldlM_cons, List.foldlM_nil] at h1
    cases hfe : f s e with
    | none => rw [hfe] at h1; simp at h1
    | some s' =>
      refine ⟨s', rfl, fun t' m' hJ' => ⟨(l1 ++ l2).length, by simp, s', seen.push e.2.2, done ++ [e], l1 ++ l2, hJ', hp', rfl, ?_, ?_⟩⟩
      · rw [List.foldlM_append, hd]
        simp [hfe]
      · intro k
        rw [Array.contains_push]
        simp only [Bool.or_eq_true, hs, beq_iff_eq, List.mem_append, List.mem_singleton]
        constructor
        · rintro (⟨e', h1, h2⟩ | h1)
          · exact ⟨e', .inl h1, h2⟩
          · exact ⟨e, .inr rfl, h1.symm⟩
        · rintro ⟨e', h1 | rfl, h2⟩
          · exact .inl ⟨e', h1, h2⟩
          · exact .inr h2.symm
end

/-- A struct that is the whole of it. -/
theorem BdR.whole {t : TS} {z p : List Seg} {n : Nat} {x : Operand} (hx : ev t x = some (Sx.agg p)) (hn : width p = n) (hz : width z = n) : BdR t z [(0, n, x)] p := by
  refine .agg (z' := p) hx hn ?_ .nil
  have h1 : ∀ o, sub z o 0 = some [] := by intro o; cases z <;> simp [sub]
  unfold putL
  rw [Nat.zero_add, hn, hz, Nat.sub_self, h1, h1]
  have h2 : Nat.ble n n = true := by simp
  simp [h2]

/-! ## What a map tells -/
section
variable {α : Type}
theorem Mp.ok_z : (Mp.z : Mp α).Ok := ⟨by simp [Mp.z], by simp [Mp.z], by simp [Mp.z]⟩
end
end Go.Sx
/- Short forms. -/
namespace Go.Proofs.Ytaebomfgmadilaa
open Go Go.Sx Go.RowKit
set_option linter.all false
set_option maxHeartbeats 400000
set_option maxRecDepth 100000
/- farebox/fareboxref17.Find -/
def r16_0 : List J := [oj 2 (.bx 30 0), oj 4 (.al 45 [.one (.int .i64 0), .one (.int .i64 0), .one (.int .i64 0), .ints .u8 32 (List.replicate 32 0), .ints .u8 64 (List.replicate 64 0), .one (.int .i64 0), .ints .u8 32 (List.replicate 32 0), .one (.bool false), .ints .u8 64 (List.replicate 64 0), .one (.bool false), .ints .u8 64 (List.replicate 64 0)]), oj 5 (.mv (.const (.bool false)))]
def r16_1 : List J := [oj 6 (.mv (ci 0))]
def r16_2 : List J := [oj 7 (.mv 6), oj 8 (.fa 66 2), oj 9 (.ld 1 false 8), oj 10 (.len 9), oj 11 (.bin .lss 7 10)]
def r16_4 : List J := [oj 14 (.fa 66 2), oj 15 (.ld 1 false 14), oj 16 (.mv 6), oj 17 (.ias 262 15 16), oj 18 (.fa 0 17), oj 19 (.fa 0 18), oj 20 (.ld 1 false 19), oj 21 (.mv 1), oj 22 (.bin .eql 20 21)]
def r16_5 : List J := [oj 23 (.fa 66 2), oj 24 (.ld 1 false 23), oj 25 (.mv 6), oj 26 (.ias 262 24 25), oj 27 (.ld 262 true 26), on_ (.st 262 4 27), oj 5 (.mv (.const (.bool true)))]
def k16_1 : IC := (.seq (.ops r16_4) (.cond 22 (.seq (.ops r16_5) .ret) .skip))
def r16_3 : List J := [oj 12 (.mv 6), oj 13 (.bin .add 12 (ci 1)), oj 6 (.mv 13)]
def l16_1 : IC := (.seq (.seq (.ops r16_2) (.cond 11 .skip (.exit 0))) (.seq (.block 1 k16_1) (.ops r16_3)))
def k16_0 : IC := (.loop l16_1)
def r16_6 : List J := [oj 28 (.bd [.one (.int .i64 0), .one (.int .i64 0), .one (.int .i64 0), .ints .u8 32 (List.replicate 32 0), .ints .u8 64 (List.replicate 64 0), .one (.int .i64 0), .ints .u8 32 (List.replicate 32 0), .one (.bool false), .ints .u8 64 (List.replicate 64 0), .one (.bool false), .ints .u8 64 (List.replicate 64 0)] []), on_ (.st 262 4 28), oj 5 (.mv (.const (.bool false)))]
def d16 : FnD := ⟨29, [.cell 4 262 true, .tmp 5], (.seq (.ops r16_0) (.seq (.seq (.ops r16_1) (.block 0 k16_0)) (.seq (.ops r16_6) .ret)))⟩
theorem ok16 : okF Try.prog 16 d16 = true := by kernel_rfl
/- farebox/fareboxref17.placed -/
def r23_0 : List J := [oj 3 (.bx 45 1), oj 4 (.mv (.const (.slice none 0 0)))]
def r23_1 : List J := [oj 5 (.mv (.const (.slice none 0 0)))]
def r23_2 : List J := [oj 6 (.mv (.const (.bool false)))]
def r23_3 : List J := [oj 7 (.mv (ci 0))]
def r23_4 : List J := [oj 8 (.mv 7), oj 9 (.mv 0), oj 10 (.len 9), oj 11 (.bin .lss 8 10)]
def r23_6 : Sch := (.p [0] (oj 14 (.mv 6)) (.p [1] (oj 15 (.un .not 14)) (.p [2] (oj 16 (.mv 15)) (.q [3, 4, 5, 6, 7, 8, 9, 10, 11, 12, 13] (.lg false 16 27 none [.op ⟨some 17, (some (16, true)), .mv 0⟩, .op ⟨some 18, (some (16, true)), .mv 7⟩, .op ⟨some 19, (some (16, true)), .ias 262 17 18⟩, .op ⟨some 20, (some (16, true)), .fa 0 19⟩, .op ⟨some 21, (some (16, true)), .fa 0 20⟩, .op ⟨some 22, (some (16, true)), .ld 1 false 21⟩, .op ⟨some 23, (some (16, true)), .fa 0 3⟩, .op ⟨some 24, (some (16, true)), .fa 0 23⟩, .op ⟨some 25, (some (16, true)), .ld 1 false 24⟩, .op ⟨some 26, (some (16, true)), .bin .gtr 22 25⟩] 26) .nil))))
def r23_7 : List J := [oj 28 (.mv 5), oj 29 (.ld 262 true 3), oj 30 (.bs 45 1 262 [.one (.int .i64 0), .one (.int .i64 0), .one (.int .i64 0), .ints .u8 32 (List.replicate 32 0), .ints .u8 64 (List.replicate 64 0), .one (.int .i64 0), .ints .u8 32 (List.replicate 32 0), .one (.bool false), .ints .u8 64 (List.replicate 64 0), .one (.bool false), .ints .u8 64 (List.replicate 64 0)] [(0, 262, 29)]), oj 31 (.app 45 262 296 [.one (.int .i64 0), .one (.int .i64 0), .one (.int .i64 0), .ints .u8 32 (List.replicate 32 0), .ints .u8 64 (List.replicate 64 0), .one (.int .i64 0), .ints .u8 32 (List.replicate 32 0), .one (.bool false), .ints .u8 64 (List.replicate 64 0), .one (.bool false), .ints .u8 64 (List.replicate 64 0)] 28 30), oj 5 (.mv 31)]
def r23_8 : List J := [oj 6 (.mv (.const (.bool true)))]
def r23_9 : List J := [oj 32 (.mv 5), oj 33 (.mv 0), oj 34 (.mv 7), oj 35 (.ias 262 33 34), oj 36 (.ld 262 true 35), oj 37 (.bs 45 1 262 [.one (.int .i64 0), .one (.int .i64 0), .one (.int .i64 0), .ints .u8 32 (List.replicate 32 0), .ints .u8 64 (List.replicate 64 0), .one (.int .i64 0), .ints .u8 32 (List.replicate 32 0), .one (.bool false), .ints .u8 64 (List.replicate 64 0), .one (.bool false), .ints .u8 64 (List.replicate 64 0)] [(0, 262, 36)]), oj 38 (.app 45 262 296 [.one (.int .i64 0), .one (.int .i64 0), .one (.int .i64 0), .ints .u8 32 (List.replicate 32 0), .ints .u8 64 (List.replicate 64 0), .one (.int .i64 0), .ints .u8 32 (List.replicate 32 0), .one (.bool false), .ints .u8 64 (List.replicate 64 0), .one (.bool false), .ints .u8 64 (List.replicate 64 0)] 32 37), oj 5 (.mv 38)]
def k23_1 : IC := (.seq (.seq (.draw r23_6 []) (.cond 27 (.seq (.ops r23_7) (.ops r23_8)) .skip)) (.ops r23_9))
def r23_5 : List J := [oj 12 (.mv 7), oj 13 (.bin .add 12 (ci 1)), oj 7 (.mv 13)]
def l23_1 : IC := (.seq (.seq (.ops r23_4) (.cond 11 .skip (.exit 0))) (.seq (.block 1 k23_1) (.ops r23_5)))
def k23_0 : IC := (.loop l23_1)
def r23_10 : List J := [oj 39 (.mv 6), oj 40 (.un .not 39)]
def r23_11 : List J := [oj 41 (.mv 5), oj 42 (.ld 262 true 3), oj 43 (.bs 45 1 262 [.one (.int .i64 0), .one (.int .i64 0), .one (.int .i64 0), .ints .u8 32 (List.replicate 32 0), .ints .u8 64 (List.replicate 64 0), .one (.int .i64 0), .ints .u8 32 (List.replicate 32 0), .one (.bool false), .ints .u8 64 (List.replicate 64 0), .one (.bool false), .ints .u8 64 (List.replicate 64 0)] [(0, 262, 42)]), oj 44 (.app 45 262 296 [.one (.int .i64 0), .one (.int .i64 0), .one (.int .i64 0), .ints .u8 32 (List.replicate 32 0), .ints .u8 64 (List.replicate 64 0), .one (.int .i64 0), .ints .u8 32 (List.replicate 32 0), .one (.bool false), .ints .u8 64 (List.replicate 64 0), .one (.bool false), .ints .u8 64 (List.replicate 64 0)] 41 43), oj 5 (.mv 44)]
def r23_12 : List J := [oj 45 (.mv 5), oj 4 (.mv 45)]
def d23 : FnD := ⟨46, [.tmp 4], (.seq (.ops r23_0) (.seq (.ops r23_1) (.seq (.ops r23_2) (.seq (.seq (.ops r23_3) (.block 0 k23_0)) (.seq (.seq (.ops r23_10) (.cond 40 (.ops r23_11) .skip)) (.seq (.ops r23_12) .ret))))))⟩
theorem ok23 : okF Try.prog 23 d23 = true := by kernel_rfl
/- farebox/fareboxref17.above -/
def r26_0 : List J := [oj 4 (.mv (.const (.bool false)))]
def r26_1 : List J := [oj 5 (.mv (ci 0))]
def r26_2 : List J := [oj 6 (.mv 5), oj 7 (.mv 0), oj 8 (.len 7), oj 9 (.bin .lss 6 8)]
def r26_4 : Sch := (.p [0] (oj 12 (.mv 0)) (.p [1] (oj 13 (.mv 5)) (.p [2] (oj 14 (.ias 1 12 13)) (.p [4] (oj 16 (.mv 1)) (.p [5] (oj 17 (.mv 5)) (.p [6] (oj 18 (.ias 1 16 17)) (.q [3] (oj 15 (.ld 1 false 14)) (.q [7] (oj 19 (.ld 1 false 18)) (.p [8] (oj 20 (.bin .neq 15 19)) .nil)))))))))
def r26_5 : Sch := (.p [0] (oj 21 (.mv 0)) (.p [1] (oj 22 (.mv 5)) (.p [2] (oj 23 (.ias 1 21 22)) (.p [4] (oj 25 (.mv 1)) (.p [5] (oj 26 (.mv 5)) (.p [6] (oj 27 (.ias 1 25 26)) (.q [3] (oj 24 (.ld 1 false 23)) (.q [7] (oj 28 (.ld 1 false 27)) (.p [8] (oj 29 (.bin .gtr 24 28)) (.p [9] (oj 4 (.mv 29)) .nil))))))))))
def k26_1 : IC := (.seq (.draw r26_4 []) (.cond 20 (.seq (.draw r26_5 []) .ret) .skip))
def r26_3 : List J := [oj 10 (.mv 5), oj 11 (.bin .add 10 (ci 1)), oj 5 (.mv 11)]
def l26_1 : IC := (.seq (.seq (.ops r26_2) (.cond 9 .skip (.exit 0))) (.seq (.block 1 k26_1) (.ops r26_3)))
def k26_0 : IC := (.loop l26_1)
def r26_6 : List J := [oj 4 (.mv (.const (.bool false)))]
def d26 : FnD := ⟨30, [.tmp 4], (.seq (.ops r26_0) (.seq (.seq (.ops r26_1) (.block 0 k26_0)) (.seq (.ops r26_6) .ret)))⟩
theorem ok26 : okF Try.prog 26 d26 = true := by kernel_rfl
/- farebox/fareboxref17.sealed -/
def r27_0 : List J := [oj 5 (.bx 25 1), oj 7 (.bx 25 3), oj 8 (.mv (.const (.bool false))), oj 9 (.al 25 [.ints .u8 64 (List.replicate 64 0)])]
def r27_1 : List J := [oj 10 (.mv 0), oj 11 (.mv 10), .lg false 11 13 none [.op ⟨some 12, (some (11, true)), .mv 2⟩] 12]
def r27_2 : Sch := (.p [0] (oj 14 (.sla 64 1 5 none none none)) (.p [1] (oj 15 (.sla 64 1 7 none none none)) (.q [2] (oj 16 (.call 26 [14, 15])) .nil)))
def r27_3 : Sch := (.p [1] (oj 8 (.mv (.const (.bool true)))) (.q [0] (oj 17 (.ld 64 true 5)) (.e 2 (oe (.st 64 9 17)) .nil)))
def r27_4 : Sch := (.p [1] (oj 8 (.mv (.const (.bool true)))) (.q [0] (oj 18 (.ld 64 true 7)) (.e 2 (oe (.st 64 9 18)) .nil)))
def r27_5 : List J := [oj 19 (.mv 0)]
def r27_6 : Sch := (.p [1] (oj 8 (.mv (.const (.bool true)))) (.q [0] (oj 20 (.ld 64 true 5)) (.e 2 (oe (.st 64 9 20)) .nil)))
def r27_7 : List J := [oj 21 (.mv 2)]
def r27_8 : Sch := (.p [1] (oj 8 (.mv (.const (.bool true)))) (.q [0] (oj 22 (.ld 64 true 7)) (.e 2 (oe (.st 64 9 22)) .nil)))
def r27_9 : List J := [oj 23 (.bd [.ints .u8 64 (List.replicate 64 0)] []), oj 8 (.mv (.const (.bool false))), on_ (.st 64 9 23)]
def d27 : FnD := ⟨24, [.tmp 8, .cell 9 64 true], (.seq (.ops r27_0) (.seq (.seq (.ops r27_1) (.cond 13 (.seq (.seq (.draw r27_2 []) (.cond 16 (.seq (.draw r27_3 [2]) .ret) .skip)) (.seq (.draw r27_4 [2]) .ret)) .skip)) (.seq (.seq (.ops r27_5) (.cond 19 (.seq (.draw r27_6 [2]) .ret) .skip)) (.seq (.seq (.ops r27_7) (.cond 21 (.seq (.draw r27_8 [2]) .ret) .skip)) (.seq (.ops r27_9) .ret)))))⟩
theorem ok27 : okF Try.prog 27 d27 = true := by kernel_rfl
/- farebox/fareboxref17.Join -/
def r24_0 : List J := [oj 2 (.bx 45 0), oj 3 (.bx 45 1), oj 4 (.al 45 [.one (.int .i64 0), .one (.int .i64 0), .one (.int .i64 0), .ints .u8 32 (List.replicate 32 0), .ints .u8 64 (List.replicate 64 0), .one (.int .i64 0), .ints .u8 32 (List.replicate 32 0), .one (.bool false), .ints .u8 64 (List.replicate 64 0), .one (.bool false), .ints .u8 64 (List.replicate 64 0)]), oj 5 (.mv (ci 0))]
def r24_1 : List J := [oj 7 (.fa 0 2), oj 8 (.ld 99 true 7), oj 9 (.fa 0 3), oj 10 (.ld 99 true 9), oj 11 (.eqa true [(.i .i64, 3), (.i .u8, 96)] 8 10)]
def r24_2 : List J := [oj 12 (.bd [.one (.int .i64 0), .one (.int .i64 0), .one (.int .i64 0), .ints .u8 32 (List.replicate 32 0), .ints .u8 64 (List.replicate 64 0), .one (.int .i64 0), .ints .u8 32 (List.replicate 32 0), .one (.bool false), .ints .u8 64 (List.replicate 64 0), .one (.bool false), .ints .u8 64 (List.replicate 64 0)] []), on_ (.st 262 4 12), oj 5 (.mv (ci 171))]
def r24_3 : List J := [oj 13 (.fa 0 2), oj 14 (.ld 99 true 13), oj 15 (.fa 99 2), oj 16 (.ld 1 false 15), oj 17 (.fa 100 2), oj 18 (.ld 32 true 17), oj 19 (.bd [.one (.int .i64 0), .one (.int .i64 0), .one (.int .i64 0), .ints .u8 32 (List.replicate 32 0), .ints .u8 64 (List.replicate 64 0), .one (.int .i64 0), .ints .u8 32 (List.replicate 32 0), .one (.bool false), .ints .u8 64 (List.replicate 64 0), .one (.bool false), .ints .u8 64 (List.replicate 64 0)] [(0, 99, 14), (99, 1, 16), (100, 32, 18)]), oj 6 (.al 45 [.one (.int .i64 0), .one (.int .i64 0), .one (.int .i64 0), .ints .u8 32 (List.replicate 32 0), .ints .u8 64 (List.replicate 64 0), .one (.int .i64 0), .ints .u8 32 (List.replicate 32 0), .one (.bool false), .ints .u8 64 (List.replicate 64 0), .one (.bool false), .ints .u8 64 (List.replicate 64 0)]), on_ (.st 262 6 19)]
def r24_4 : Sch := (.p [0] (oj 20 (.fa 99 3)) (.p [2] (oj 22 (.fa 99 2)) (.q [1] (oj 21 (.ld 1 false 20)) (.q [3] (oj 23 (.ld 1 false 22)) (.p [4] (oj 24 (.bin .gtr 21 23)) (.p [5] (oj 25 (.mv 24)) (.q [6, 7, 8, 9, 10, 11, 12, 13, 14, 15, 16, 17, 18] (.lg true 25 38 none [.op ⟨some 26, (some (25, false)), .fa 99 3⟩, .op ⟨some 27, (some (25, false)), .ld 1 false 26⟩, .op ⟨some 28, (some (25, false)), .fa 99 2⟩, .op ⟨some 29, (some (25, false)), .ld 1 false 28⟩, .op ⟨some 30, (some (25, false)), .bin .eql 27 29⟩, .op ⟨some 31, (some (25, false)), .mv 30⟩, .lg false 31 37 (some (25, false)) [.op ⟨some 32, (some (31, true)), .fa 100 3⟩, .op ⟨some 33, (some (31, true)), .sla 32 1 32 none none none⟩, .op ⟨some 34, (some (31, true)), .fa 100 2⟩, .op ⟨some 35, (some (31, true)), .sla 32 1 34 none none none⟩, .op ⟨some 36, (some (31, true)), .call 26 [33, 35]⟩] 36] 37) .nil)))))))
def r24_5 : List J := [oj 39 (.fa 99 3), oj 40 (.ld 1 false 39), oj 41 (.fa 99 6), on_ (.st 1 41 40)]
def r24_6 : List J := [oj 42 (.fa 100 3), oj 43 (.ld 32 true 42), oj 44 (.fa 100 6), on_ (.st 32 44 43)]
def r24_7 : List J := [oj 46 (.fa 132 2), oj 47 (.ld 1 false 46), oj 48 (.fa 133 2), oj 49 (.ld 64 true 48), oj 50 (.fa 132 3), oj 51 (.ld 1 false 50), oj 52 (.fa 133 3), oj 53 (.ld 64 true 52), oj 54 (.call 27 [47, 49, 51, 53]), oj 45 (.mv 54), oj 55 (.ext 45 0), oj 56 (.ext 45 1), oj 57 (.fa 132 6), on_ (.st 1 57 55), oj 58 (.fa 133 6), on_ (.st 64 58 56)]
def r24_8 : List J := [oj 60 (.fa 197 2), oj 61 (.ld 1 false 60), oj 62 (.fa 198 2), oj 63 (.ld 64 true 62), oj 64 (.fa 197 3), oj 65 (.ld 1 false 64), oj 66 (.fa 198 3), oj 67 (.ld 64 true 66), oj 68 (.call 27 [61, 63, 65, 67]), oj 59 (.mv 68), oj 69 (.ext 59 0), oj 70 (.ext 59 1), oj 71 (.fa 197 6), on_ (.st 1 71 69), oj 72 (.fa 198 6), on_ (.st 64 72 70)]
def r24_9 : List J := [oj 73 (.ld 262 true 6), on_ (.st 262 4 73), oj 5 (.mv (ci 0))]
def d24 : FnD := ⟨74, [.cell 4 262 true, .tmp 5], (.seq (.ops r24_0) (.seq (.seq (.ops r24_1) (.cond 11 (.seq (.ops r24_2) .ret) .skip)) (.seq (.ops r24_3) (.seq (.seq (.draw r24_4 []) (.cond 38 (.seq (.ops r24_5) (.ops r24_6)) .skip)) (.seq (.ops r24_7) (.seq (.ops r24_8) (.seq (.ops r24_9) .ret)))))))⟩
theorem ok24 : okF Try.prog 24 d24 = true := by kernel_rfl
/- farebox/fareboxref17.changed -/
def r25_0 : List J := [oj 3 (.bx 45 1), oj 4 (.mv (.const (.slice none 0 0)))]
def r25_1 : List J := [oj 5 (.mv (.const (.slice none 0 0)))]
def r25_2 : List J := [oj 6 (.mv (ci 0))]
def r25_3 : List J := [oj 7 (.mv 6), oj 8 (.mv 0), oj 9 (.len 8), oj 10 (.bin .lss 7 9)]
def r25_5 : Sch := (.p [0] (oj 13 (.mv 0)) (.p [1] (oj 14 (.mv 6)) (.p [2] (oj 15 (.ias 262 13 14)) (.p [3] (oj 16 (.fa 0 15)) (.p [4] (oj 17 (.fa 0 16)) (.p [6] (oj 19 (.fa 0 3)) (.p [7] (oj 20 (.fa 0 19)) (.q [5] (oj 18 (.ld 1 false 17)) (.q [8] (oj 21 (.ld 1 false 20)) (.p [9] (oj 22 (.bin .eql 18 21)) .nil))))))))))
def r25_6 : List J := [oj 23 (.mv 5), oj 24 (.ld 262 true 3), oj 25 (.bs 45 1 262 [.one (.int .i64 0), .one (.int .i64 0), .one (.int .i64 0), .ints .u8 32 (List.replicate 32 0), .ints .u8 64 (List.replicate 64 0), .one (.int .i64 0), .ints .u8 32 (List.replicate 32 0), .one (.bool false), .ints .u8 64 (List.replicate 64 0), .one (.bool false), .ints .u8 64 (List.replicate 64 0)] [(0, 262, 24)]), oj 26 (.app 45 262 296 [.one (.int .i64 0), .one (.int .i64 0), .one (.int .i64 0), .ints .u8 32 (List.replicate 32 0), .ints .u8 64 (List.replicate 64 0), .one (.int .i64 0), .ints .u8 32 (List.replicate 32 0), .one (.bool false), .ints .u8 64 (List.replicate 64 0), .one (.bool false), .ints .u8 64 (List.replicate 64 0)] 23 25), oj 5 (.mv 26)]
def r25_7 : List J := [oj 27 (.mv 5), oj 28 (.mv 0), oj 29 (.mv 6), oj 30 (.ias 262 28 29), oj 31 (.ld 262 true 30), oj 32 (.bs 45 1 262 [.one (.int .i64 0), .one (.int .i64 0), .one (.int .i64 0), .ints .u8 32 (List.replicate 32 0), .ints .u8 64 (List.replicate 64 0), .one (.int .i64 0), .ints .u8 32 (List.replicate 32 0), .one (.bool false), .ints .u8 64 (List.replicate 64 0), .one (.bool false), .ints .u8 64 (List.replicate 64 0)] [(0, 262, 31)]), oj 33 (.app 45 262 296 [.one (.int .i64 0), .one (.int .i64 0), .one (.int .i64 0), .ints .u8 32 (List.replicate 32 0), .ints .u8 64 (List.replicate 64 0), .one (.int .i64 0), .ints .u8 32 (List.replicate 32 0), .one (.bool false), .ints .u8 64 (List.replicate 64 0), .one (.bool false), .ints .u8 64 (List.replicate 64 0)] 27 32), oj 5 (.mv 33)]
def k25_1 : IC := (.seq (.draw r25_5 []) (.cond 22 (.ops r25_6) (.ops r25_7)))
def r25_4 : List J := [oj 11 (.mv 6), oj 12 (.bin .add 11 (ci 1)), oj 6 (.mv 12)]
def l25_1 : IC := (.seq (.seq (.ops r25_3) (.cond 10 .skip (.exit 0))) (.seq (.block 1 k25_1) (.ops r25_4)))
def k25_0 : IC := (.loop l25_1)
def r25_8 : List J := [oj 34 (.mv 5), oj 4 (.mv 34)]
def d25 : FnD := ⟨35, [.tmp 4], (.seq (.ops r25_0) (.seq (.ops r25_1) (.seq (.seq (.ops r25_2) (.block 0 k25_0)) (.seq (.ops r25_8) .ret))))⟩
theorem ok25 : okF Try.prog 25 d25 = true := by kernel_rfl
/- farebox/fareboxref17.Put -/
def r17_0 : List J := [oj 3 (.bx 30 0), oj 5 (.bx 45 2), oj 6 (.al 30 [.one (.int .i64 0), .ints .u8 64 (List.replicate 64 0), .one (.int .i64 0), .one (.slice none 0 0)]), oj 7 (.mv (.const (.bool false))), oj 8 (.mv (ci 0))]
def r17_1 : List J := [oj 13 (.fa 0 5), oj 14 (.fa 0 13), oj 15 (.ld 1 false 14), oj 16 (.fa 0 3), oj 17 (.fa 0 16), oj 18 (.ld 1 false 17), oj 19 (.bin .lss 15 18)]
def r17_2 : List J := [oj 20 (.ld 67 true 3), on_ (.st 67 6 20), oj 7 (.mv (.const (.bool false))), oj 8 (.mv (ci 172))]
def r17_3 : List J := [oj 22 (.ld 67 true 3), oj 23 (.fa 0 5), oj 24 (.fa 0 23), oj 25 (.ld 1 false 24), oj 26 (.call 16 [22, 25]), oj 21 (.mv 26), oj 27 (.ext 21 0), oj 28 (.ext 21 1), oj 9 (.al 45 [.one (.int .i64 0), .one (.int .i64 0), .one (.int .i64 0), .ints .u8 32 (List.replicate 32 0), .ints .u8 64 (List.replicate 64 0), .one (.int .i64 0), .ints .u8 32 (List.replicate 32 0), .one (.bool false), .ints .u8 64 (List.replicate 64 0), .one (.bool false), .ints .u8 64 (List.replicate 64 0)]), on_ (.st 262 9 27), oj 10 (.mv 28)]
def r17_4 : List J := [oj 29 (.mv 10), oj 30 (.un .not 29)]
def r17_5 : List J := [oj 31 (.fa 66 3), oj 32 (.ld 1 false 31), oj 33 (.len 32), oj 34 (.mv 1), oj 35 (.bin .geq 33 34)]
def r17_6 : List J := [oj 36 (.ld 67 true 3), on_ (.st 67 6 36), oj 7 (.mv (.const (.bool false))), oj 8 (.mv (ci 170))]
def r17_7 : List J := [oj 37 (.fa 66 3), oj 38 (.ld 1 false 37), oj 39 (.ld 262 true 5), oj 40 (.call 23 [38, 39]), oj 41 (.fa 66 3), on_ (.st 1 41 40)]
def r17_8 : List J := [oj 42 (.ld 67 true 3), on_ (.st 67 6 42), oj 7 (.mv (.const (.bool true))), oj 8 (.mv (ci 0))]
def r17_9 : List J := [oj 44 (.ld 262 true 9), oj 45 (.ld 262 true 5), oj 46 (.call 24 [44, 45]), oj 43 (.mv 46), oj 47 (.ext 43 0), oj 48 (.ext 43 1), oj 11 (.al 45 [.one (.int .i64 0), .one (.int .i64 0), .one (.int .i64 0), .ints .u8 32 (List.replicate 32 0), .ints .u8 64 (List.replicate 64 0), .one (.int .i64 0), .ints .u8 32 (List.replicate 32 0), .one (.bool false), .ints .u8 64 (List.replicate 64 0), .one (.bool false), .ints .u8 64 (List.replicate 64 0)]), on_ (.st 262 11 47), oj 12 (.mv 48)]
def r17_10 : List J := [oj 49 (.mv 12), oj 50 (.bin .neq 49 (ci 0))]
def r17_11 : List J := [oj 51 (.ld 67 true 3), oj 52 (.mv 12), on_ (.st 67 6 51), oj 7 (.mv (.const (.bool false))), oj 8 (.mv 52)]
def r17_12 : List J := [oj 53 (.fa 66 3), oj 54 (.ld 1 false 53), oj 55 (.ld 262 true 11), oj 56 (.call 25 [54, 55]), oj 57 (.fa 66 3), on_ (.st 1 57 56)]
def r17_13 : Sch := (.q [0] (oj 58 (.ld 67 true 3)) (.q [1] (oj 59 (.ld 262 true 11)) (.q [2] (oj 60 (.ld 262 true 9)) (.p [3] (oj 61 (.eqa true [(.i .i64, 3), (.i .u8, 96), (.i .i64, 1), (.i .u8, 32), (.b, 1), (.i .u8, 64), (.b, 1), (.i .u8, 64)] 59 60)) (.e 4 (oe (.st 67 6 58)) (.p [5] (oj 7 (.mv 61)) (.p [6] (oj 8 (.mv (ci 0))) .nil)))))))
def d17 : FnD := ⟨62, [.cell 6 67 true, .tmp 7, .tmp 8], (.seq (.ops r17_0) (.seq (.seq (.ops r17_1) (.cond 19 (.seq (.ops r17_2) .ret) .skip)) (.seq (.ops r17_3) (.seq (.seq (.ops r17_4) (.cond 30 (.seq (.seq (.ops r17_5) (.cond 35 (.seq (.ops r17_6) .ret) .skip)) (.seq (.ops r17_7) (.seq (.ops r17_8) .ret))) .skip)) (.seq (.ops r17_9) (.seq (.seq (.ops r17_10) (.cond 50 (.seq (.ops r17_11) .ret) .skip)) (.seq (.ops r17_12) (.seq (.draw r17_13 []) .ret))))))))⟩
theorem ok17 : okF Try.prog 17 d17 = true := by kernel_rfl
end Go.Proofs.Ytaebomfgmadilaa
/- Short forms. -/
namespace Go.Proofs.Ytaebomfgmadilaa
open Go Go.Sx Go.RowKit
set_option linter.all false
set_option maxHeartbeats 400000
set_option maxRecDepth 100000
/- farebox/fareboxlaw20.rowed -/
def r4_0 : List J := [oj 2 (.al 30 [.one (.int .i64 0), .ints .u8 64 (List.replicate 64 0), .one (.int .i64 0), .one (.slice none 0 0)])]
def r4_1 : List J := [oj 3 (.al 30 [.one (.int .i64 0), .ints .u8 64 (List.replicate 64 0), .one (.int .i64 0), .one (.slice none 0 0)])]
def r4_2 : List J := [oj 4 (.mv (ci 0))]
def r4_3 : List J := [oj 8 (.mv 4), oj 9 (.mv 0), oj 10 (.len 9), oj 11 (.bin .lss 8 10)]
def r4_5 : Sch := (.p [0] (oj 14 (.mv 0)) (.p [1] (oj 15 (.mv 4)) (.p [2] (oj 16 (.ias 4 14 15)) (.p [3] (oj 17 (.fa 0 16)) (.p [6] (oj 20 (.mv 0)) (.p [7] (oj 21 (.mv 4)) (.p [8] (oj 22 (.ias 4 20 21)) (.p [9] (oj 23 (.fa 1 22)) (.p [11] (oj 25 (.mv 0)) (.p [12] (oj 26 (.mv 4)) (.p [13] (oj 27 (.ias 4 25 26)) (.p [14] (oj 28 (.fa 2 27)) (.p [16] (oj 30 (.mv 0)) (.p [17] (oj 31 (.mv 4)) (.p [18] (oj 32 (.ias 4 30 31)) (.p [19] (oj 33 (.fa 3 32)) (.q [4] (oj 18 (.ld 1 false 17)) (.p [5] (oj 19 (.bd [.one (.int .i64 0), .one (.int .i64 0), .one (.int .i64 0), .ints .u8 32 (List.replicate 32 0), .ints .u8 64 (List.replicate 64 0)] [(0, 1, 18)])) (.q [10] (oj 24 (.ld 1 false 23)) (.q [15] (oj 29 (.ld 1 false 28)) (.q [20] (oj 34 (.ld 1 false 33)) (.p [21] (oj 35 (.bd [.one (.int .i64 0), .one (.int .i64 0), .one (.int .i64 0), .ints .u8 32 (List.replicate 32 0), .ints .u8 64 (List.replicate 64 0), .one (.int .i64 0), .ints .u8 32 (List.replicate 32 0), .one (.bool false), .ints .u8 64 (List.replicate 64 0), .one (.bool false), .ints .u8 64 (List.replicate 64 0)] [(0, 99, 19), (99, 1, 24), (132, 1, 29), (197, 1, 34)])) (.e 22 (oi 5 (.al 45 [.one (.int .i64 0), .one (.int .i64 0), .one (.int .i64 0), .ints .u8 32 (List.replicate 32 0), .ints .u8 64 (List.replicate 64 0), .one (.int .i64 0), .ints .u8 32 (List.replicate 32 0), .one (.bool false), .ints .u8 64 (List.replicate 64 0), .one (.bool false), .ints .u8 64 (List.replicate 64 0)])) (.e 23 (oe (.st 262 5 35)) .nil))))))))))))))))))))))))
def r4_6 : Sch := (.p [1] (oj 38 (.mv 0)) (.p [2] (oj 39 (.mv 4)) (.p [3] (oj 40 (.ias 4 38 39)) (.p [4] (oj 41 (.fa 0 40)) (.q [0] (oj 37 (.ld 67 true 3)) (.q [5] (oj 42 (.ld 1 false 41)) (.q [6] (oj 43 (.call 16 [37, 42])) (.p [7] (oj 36 (.mv 43)) (.p [8] (oj 44 (.ext 36 0)) (.p [9] (oj 45 (.ext 36 1)) (.e 10 (oi 6 (.al 45 [.one (.int .i64 0), .one (.int .i64 0), .one (.int .i64 0), .ints .u8 32 (List.replicate 32 0), .ints .u8 64 (List.replicate 64 0), .one (.int .i64 0), .ints .u8 32 (List.replicate 32 0), .one (.bool false), .ints .u8 64 (List.replicate 64 0), .one (.bool false), .ints .u8 64 (List.replicate 64 0)])) (.e 11 (oe (.st 262 6 44)) (.p [12] (oj 7 (.mv 45)) .nil)))))))))))))
def r4_7 : List J := [oj 46 (.mv 7), oj 47 (.un .not 46), oj 48 (.mv 47), .lg false 48 55 none [.op ⟨some 49, (some (48, true)), .mv 0⟩, .op ⟨some 50, (some (48, true)), .mv 4⟩, .op ⟨some 51, (some (48, true)), .ias 4 49 50⟩, .op ⟨some 52, (some (48, true)), .fa 0 51⟩, .op ⟨some 53, (some (48, true)), .ld 1 false 52⟩, .op ⟨some 54, (some (48, true)), .bin .geq 53 (ci 0)⟩] 54]
def r4_8 : List J := [oj 57 (.ld 67 true 3), oj 58 (.mv 0), oj 59 (.len 58), oj 60 (.bin .add 59 (ci 1)), oj 61 (.ld 262 true 5), oj 62 (.call 17 [57, 60, 61]), oj 56 (.mv 62), oj 63 (.ext 56 0), oj 64 (.ext 56 1), oj 65 (.ext 56 2), on_ (.st 67 3 63)]
def k4_1 : IC := (.seq (.draw r4_5 [23]) (.seq (.draw r4_6 [11]) (.seq (.ops r4_7) (.cond 55 (.ops r4_8) .skip))))
def r4_4 : List J := [oj 12 (.mv 4), oj 13 (.bin .add 12 (ci 1)), oj 4 (.mv 13)]
def l4_1 : IC := (.seq (.seq (.ops r4_3) (.cond 11 .skip (.exit 0))) (.seq (.block 1 k4_1) (.ops r4_4)))
def k4_0 : IC := (.loop l4_1)
def r4_9 : List J := [oj 66 (.ld 67 true 3), on_ (.st 67 2 66)]
def d4 : FnD := ⟨67, [.cell 2 67 true], (.seq (.ops r4_0) (.seq (.ops r4_1) (.seq (.seq (.ops r4_2) (.block 0 k4_0)) (.seq (.ops r4_9) .ret))))⟩
theorem ok4 : okF Try.prog 4 d4 = true := by kernel_rfl
/- farebox/fareboxlaw20.marked -/
def r5_0 : List J := [oj 1 (.bx 30 0), oj 2 (.al 30 [.one (.int .i64 0), .ints .u8 64 (List.replicate 64 0), .one (.int .i64 0), .one (.slice none 0 0)])]
def r5_1 : List J := [oj 3 (.mv (.const (.slice none 0 0)))]
def r5_2 : List J := [oj 4 (.mv 3), oj 5 (.fa 66 1), oj 6 (.ld 1 false 5), oj 7 (.app 45 262 296 [.one (.int .i64 0), .one (.int .i64 0), .one (.int .i64 0), .ints .u8 32 (List.replicate 32 0), .ints .u8 64 (List.replicate 64 0), .one (.int .i64 0), .ints .u8 32 (List.replicate 32 0), .one (.bool false), .ints .u8 64 (List.replicate 64 0), .one (.bool false), .ints .u8 64 (List.replicate 64 0)] 4 6), oj 3 (.mv 7)]
def r5_3 : List J := [oj 8 (.mv 3), oj 9 (.bd [.one (.int .i64 0), .one (.int .i64 0), .one (.int .i64 0), .ints .u8 32 (List.replicate 32 0), .ints .u8 64 (List.replicate 64 0), .one (.int .i64 0), .ints .u8 32 (List.replicate 32 0), .one (.bool false), .ints .u8 64 (List.replicate 64 0), .one (.bool false), .ints .u8 64 (List.replicate 64 0)] [(99, 1, (ci (-7)))]), oj 10 (.bd [.one (.int .i64 0), .one (.int .i64 0), .one (.int .i64 0), .ints .u8 32 (List.replicate 32 0), .ints .u8 64 (List.replicate 64 0), .one (.int .i64 0), .ints .u8 32 (List.replicate 32 0), .one (.bool false), .ints .u8 64 (List.replicate 64 0), .one (.bool false), .ints .u8 64 (List.replicate 64 0)] [(99, 1, (ci (-8)))]), oj 11 (.bs 45 2 262 [.one (.int .i64 0), .one (.int .i64 0), .one (.int .i64 0), .ints .u8 32 (List.replicate 32 0), .ints .u8 64 (List.replicate 64 0), .one (.int .i64 0), .ints .u8 32 (List.replicate 32 0), .one (.bool false), .ints .u8 64 (List.replicate 64 0), .one (.bool false), .ints .u8 64 (List.replicate 64 0), .one (.int .i64 0), .one (.int .i64 0), .one (.int .i64 0), .ints .u8 32 (List.replicate 32 0), .ints .u8 64 (List.replicate 64 0), .one (.int .i64 0), .ints .u8 32 (List.replicate 32 0), .one (.bool false), .ints .u8 64 (List.replicate 64 0), .one (.bool false), .ints .u8 64 (List.replicate 64 0)] [(0, 262, 9), (262, 262, 10)]), oj 12 (.app 45 262 296 [.one (.int .i64 0), .one (.int .i64 0), .one (.int .i64 0), .ints .u8 32 (List.replicate 32 0), .ints .u8 64 (List.replicate 64 0), .one (.int .i64 0), .ints .u8 32 (List.replicate 32 0), .one (.bool false), .ints .u8 64 (List.replicate 64 0), .one (.bool false), .ints .u8 64 (List.replicate 64 0)] 8 11), oj 3 (.mv 12)]
def r5_4 : List J := [oj 13 (.mv 3), oj 14 (.fa 66 1), oj 15 (.ld 1 false 14), oj 16 (.len 15), oj 17 (.sls 262 13 none (some 16) none), oj 18 (.fa 66 1), on_ (.st 1 18 17)]
def r5_5 : List J := [oj 19 (.ld 67 true 1), on_ (.st 67 2 19)]
def d5 : FnD := ⟨20, [.cell 2 67 true], (.seq (.ops r5_0) (.seq (.ops r5_1) (.seq (.ops r5_2) (.seq (.ops r5_3) (.seq (.ops r5_4) (.seq (.ops r5_5) .ret))))))⟩
theorem ok5 : okF Try.prog 5 d5 = true := by kernel_rfl
/- farebox/gossip.summary -/
def r18_0 : List J := [oj 1 (.bx 45 0), oj 2 (.al 34 [.one (.int .i64 0), .one (.int .i64 0), .one (.bool false), .one (.bool false)])]
def r18_1 : List J := [oj 3 (.fa 0 1), oj 4 (.fa 0 3), oj 5 (.ld 1 false 4), oj 6 (.fa 99 1), oj 7 (.ld 1 false 6), oj 8 (.fa 132 1), oj 9 (.ld 1 false 8), oj 10 (.fa 197 1), oj 11 (.ld 1 false 10), oj 12 (.bd [.one (.int .i64 0), .one (.int .i64 0), .one (.bool false), .one (.bool false)] [(0, 1, 5), (1, 1, 7), (2, 1, 9), (3, 1, 11)]), on_ (.st 4 2 12)]
def d18 : FnD := ⟨13, [.cell 2 4 true], (.seq (.ops r18_0) (.seq (.ops r18_1) .ret))⟩
theorem ok18 : okF Try.prog 18 d18 = true := by kernel_rfl
/- farebox/gossip.Digest -/
def r6_0 : List J := [oj 1 (.bx 30 0), oj 2 (.mv (.const (.slice none 0 0)))]
def r6_1 : List J := [oj 3 (.mv (.const (.slice none 0 0)))]
def r6_2 : List J := [oj 6 (.fa 66 1), oj 7 (.ld 1 false 6), oj 8 (.len 7), oj 9 (.mv (ci 0))]
def r6_3 : List J := [oj 10 (.bin .lss 9 8)]
def r6_4 : List J := [oj 11 (.ias 262 7 9), oj 12 (.ld 262 true 11), oj 5 (.al 45 [.one (.int .i64 0), .one (.int .i64 0), .one (.int .i64 0), .ints .u8 32 (List.replicate 32 0), .ints .u8 64 (List.replicate 64 0), .one (.int .i64 0), .ints .u8 32 (List.replicate 32 0), .one (.bool false), .ints .u8 64 (List.replicate 64 0), .one (.bool false), .ints .u8 64 (List.replicate 64 0)]), on_ (.st 262 5 12)]
def r6_5 : List J := [oj 13 (.mv 3), oj 14 (.ld 262 true 5), oj 15 (.call 18 [14]), oj 16 (.bs 34 1 4 [.one (.int .i64 0), .one (.int .i64 0), .one (.bool false), .one (.bool false)] [(0, 4, 15)]), oj 17 (.app 34 4 24 [.one (.int .i64 0), .one (.int .i64 0), .one (.bool false), .one (.bool false)] 13 16), oj 3 (.mv 17)]
def k6_1 : IC := (.seq (.ops r6_4) (.ops r6_5))
def r6_6 : List J := [oj 18 (.bin .add 9 (ci 1)), oj 9 (.mv 18)]
def l6_1 : IC := (.seq (.ops r6_3) (.seq (.cond 10 .skip (.exit 0)) (.seq (.block 1 k6_1) (.ops r6_6))))
def k6_0 : IC := (.loop l6_1)
def r6_7 : List J := [oj 19 (.mv 3), oj 2 (.mv 19)]
def d6 : FnD := ⟨20, [.tmp 2], (.seq (.ops r6_0) (.seq (.ops r6_1) (.seq (.seq (.ops r6_2) (.block 0 k6_0)) (.seq (.ops r6_7) .ret))))⟩
theorem ok6 : okF Try.prog 6 d6 = true := by kernel_rfl
/- farebox/gossip.together -/
def r19_0 : List J := [oj 2 (.bx 34 0), oj 3 (.bx 34 1), oj 4 (.al 34 [.one (.int .i64 0), .one (.int .i64 0), .one (.bool false), .one (.bool false)])]
def r19_1 : List J := [oj 5 (.fa 0 2), oj 6 (.ld 1 false 5), oj 7 (.fa 1 2), oj 8 (.ld 1 false 7), oj 9 (.fa 1 3), oj 10 (.ld 1 false 9), oj 11 (.mm true 8 10), oj 12 (.fa 2 2), oj 13 (.ld 1 false 12), oj 14 (.mv 13), .lg true 14 17 none [.op ⟨some 15, (some (14, false)), .fa 2 3⟩, .op ⟨some 16, (some (14, false)), .ld 1 false 15⟩] 16, oj 18 (.fa 3 2), oj 19 (.ld 1 false 18), oj 20 (.mv 19), .lg true 20 23 none [.op ⟨some 21, (some (20, false)), .fa 3 3⟩, .op ⟨some 22, (some (20, false)), .ld 1 false 21⟩] 22, oj 24 (.bd [.one (.int .i64 0), .one (.int .i64 0), .one (.bool false), .one (.bool false)] [(0, 1, 6), (1, 1, 11), (2, 1, 17), (3, 1, 23)]), on_ (.st 4 4 24)]
def d19 : FnD := ⟨25, [.cell 4 4 true], (.seq (.ops r19_0) (.seq (.ops r19_1) .ret))⟩
theorem ok19 : okF Try.prog 19 d19 = true := by kernel_rfl
/- farebox/gossip.enough -/
def r20_0 : List J := [oj 2 (.bx 34 0), oj 3 (.bx 34 1), oj 4 (.mv (.const (.bool false)))]
def r20_1 : Sch := (.q [0] (oj 5 (.ld 4 true 2)) (.q [1] (oj 6 (.ld 4 true 3)) (.p [2] (oj 7 (.call 19 [5, 6])) (.q [3] (oj 8 (.ld 4 true 2)) (.p [4] (oj 9 (.eqa false [(.i .i64, 2), (.b, 2)] 7 8)) (.p [5] (oj 4 (.mv 9)) .nil))))))
def d20 : FnD := ⟨10, [.tmp 4], (.seq (.ops r20_0) (.seq (.draw r20_1 []) .ret))⟩
theorem ok20 : okF Try.prog 20 d20 = true := by kernel_rfl
/- farebox/gossip.Lacks -/
def r7_0 : List J := [oj 2 (.bx 30 0), oj 4 (.mv (.const (.slice none 0 0)))]
def r7_1 : List J := [oj 22 (.mkm), oj 5 (.mv 22)]
def r7_2 : List J := [oj 23 (.mv 1), oj 24 (.len 23), oj 25 (.mv (ci 0))]
def r7_3 : List J := [oj 26 (.bin .lss 25 24)]
def r7_4 : List J := [oj 27 (.ias 4 23 25), oj 28 (.ld 4 true 27), oj 7 (.al 34 [.one (.int .i64 0), .one (.int .i64 0), .one (.bool false), .one (.bool false)]), on_ (.st 4 7 28)]
def r7_5 : List J := [oj 30 (.mv 5), oj 31 (.fa 0 7), oj 32 (.ld 1 false 31), oj 33 (.mlk .i64 true [.one (.int .i64 0), .one (.int .i64 0), .one (.bool false), .one (.bool false)] 30 32), oj 29 (.mv 33), oj 34 (.ext 29 0), oj 35 (.ext 29 1), oj 8 (.al 34 [.one (.int .i64 0), .one (.int .i64 0), .one (.bool false), .one (.bool false)]), on_ (.st 4 8 34), oj 9 (.mv 35)]
def r7_6 : List J := [oj 36 (.mv 9)]
def r7_7 : List J := [oj 37 (.ld 4 true 8), oj 38 (.ld 4 true 7), oj 39 (.call 19 [37, 38]), on_ (.st 4 7 39)]
def r7_8 : List J := [oj 40 (.mv 5), oj 41 (.fa 0 7), oj 42 (.ld 1 false 41), oj 43 (.ld 4 true 7), on_ (.mup .i64 40 42 43)]
def k7_1 : IC := (.seq (.ops r7_4) (.seq (.seq (.ops r7_5) (.seq (.ops r7_6) (.cond 36 (.ops r7_7) .skip))) (.ops r7_8)))
def r7_9 : List J := [oj 44 (.bin .add 25 (ci 1)), oj 25 (.mv 44)]
def l7_1 : IC := (.seq (.ops r7_3) (.seq (.cond 26 .skip (.exit 0)) (.seq (.block 1 k7_1) (.ops r7_9))))
def k7_0 : IC := (.loop l7_1)
def r7_10 : List J := [oj 45 (.mkm), oj 10 (.mv 45)]
def r7_11 : List J := [oj 46 (.ld 67 true 2), oj 47 (.call 6 [46]), oj 48 (.len 47), oj 49 (.mv (ci 0))]
def r7_12 : List J := [oj 50 (.bin .lss 49 48)]
def r7_13 : List J := [oj 51 (.ias 4 47 49), oj 52 (.ld 4 true 51), oj 12 (.al 34 [.one (.int .i64 0), .one (.int .i64 0), .one (.bool false), .one (.bool false)]), on_ (.st 4 12 52)]
def r7_14 : List J := [oj 53 (.mv 10), oj 54 (.fa 0 12), oj 55 (.ld 1 false 54), oj 56 (.ld 4 true 12), on_ (.mup .i64 53 55 56)]
def k7_3 : IC := (.seq (.ops r7_13) (.ops r7_14))
def r7_15 : List J := [oj 57 (.bin .add 49 (ci 1)), oj 49 (.mv 57)]
def l7_2 : IC := (.seq (.ops r7_12) (.seq (.cond 50 .skip (.exit 2)) (.seq (.block 3 k7_3) (.ops r7_15))))
def k7_2 : IC := (.loop l7_2)
def r7_16 : List J := [oj 58 (.mv 5), oj 59 (.mrg 58)]
def r7_17 : List J := [oj 60 (.mnx 59), oj 61 (.ext 60 0)]
def r7_18 : List J := [oj 62 (.men 59), oj 63 (.ext 62 0), oj 64 (.ext 62 1), oj 14 (.al 34 [.one (.int .i64 0), .one (.int .i64 0), .one (.bool false), .one (.bool false)]), oj 13 (.mv 63), on_ (.st 4 14 64)]
def r7_19 : List J := [oj 66 (.mv 10), oj 67 (.mv 13), oj 68 (.mlk .i64 true [.one (.int .i64 0), .one (.int .i64 0), .one (.bool false), .one (.bool false)] 66 67), oj 65 (.mv 68), oj 69 (.ext 65 0), oj 70 (.ext 65 1), oj 15 (.al 34 [.one (.int .i64 0), .one (.int .i64 0), .one (.bool false), .one (.bool false)]), on_ (.st 4 15 69), oj 16 (.mv 70)]
def r7_20 : List J := [oj 71 (.mv 16), oj 72 (.mv 71), .lg false 72 76 none [.op ⟨some 73, (some (72, true)), .ld 4 true 14⟩, .op ⟨some 74, (some (72, true)), .ld 4 true 15⟩, .op ⟨some 75, (some (72, true)), .call 20 [73, 74]⟩] 75]
def r7_21 : List J := [oj 77 (.mv 10), oj 78 (.mv 13), on_ (.mdl .i64 77 78)]
def k7_5 : IC := (.seq (.ops r7_18) (.seq (.ops r7_19) (.seq (.ops r7_20) (.cond 76 (.ops r7_21) .skip))))
def l7_3 : IC := (.seq (.ops r7_17) (.seq (.cond 61 .skip (.exit 4)) (.block 5 k7_5)))
def k7_4 : IC := (.loop l7_3)
def r7_22 : List J := [oj 17 (.mv (.const (.slice none 0 0)))]
def r7_23 : List J := [oj 79 (.fa 66 2), oj 80 (.ld 1 false 79), oj 81 (.len 80), oj 82 (.mv (ci 0))]
def r7_24 : List J := [oj 83 (.bin .lss 82 81)]
def r7_25 : List J := [oj 84 (.ias 262 80 82), oj 85 (.ld 262 true 84), oj 19 (.al 45 [.one (.int .i64 0), .one (.int .i64 0), .one (.int .i64 0), .ints .u8 32 (List.replicate 32 0), .ints .u8 64 (List.replicate 64 0), .one (.int .i64 0), .ints .u8 32 (List.replicate 32 0), .one (.bool false), .ints .u8 64 (List.replicate 64 0), .one (.bool false), .ints .u8 64 (List.replicate 64 0)]), on_ (.st 262 19 85)]
def r7_26 : List J := [oj 87 (.mv 10), oj 88 (.fa 0 19), oj 89 (.fa 0 88), oj 90 (.ld 1 false 89), oj 91 (.mlk .i64 true [.one (.int .i64 0), .one (.int .i64 0), .one (.bool false), .one (.bool false)] 87 90), oj 86 (.mv 91), oj 92 (.ext 86 0), oj 93 (.ext 86 1), oj 20 (.al 34 [.one (.int .i64 0), .one (.int .i64 0), .one (.bool false), .one (.bool false)]), on_ (.st 4 20 92), oj 21 (.mv 93)]
def r7_27 : List J := [oj 94 (.mv 21)]
def r7_28 : List J := [oj 95 (.mv 17), oj 96 (.ld 262 true 19), oj 97 (.bs 45 1 262 [.one (.int .i64 0), .one (.int .i64 0), .one (.int .i64 0), .ints .u8 32 (List.replicate 32 0), .ints .u8 64 (List.replicate 64 0), .one (.int .i64 0), .ints .u8 32 (List.replicate 32 0), .one (.bool false), .ints .u8 64 (List.replicate 64 0), .one (.bool false), .ints .u8 64 (List.replicate 64 0)] [(0, 262, 96)]), oj 98 (.app 45 262 296 [.one (.int .i64 0), .one (.int .i64 0), .one (.int .i64 0), .ints .u8 32 (List.replicate 32 0), .ints .u8 64 (List.replicate 64 0), .one (.int .i64 0), .ints .u8 32 (List.replicate 32 0), .one (.bool false), .ints .u8 64 (List.replicate 64 0), .one (.bool false), .ints .u8 64 (List.replicate 64 0)] 95 97), oj 17 (.mv 98)]
def k7_7 : IC := (.seq (.ops r7_25) (.seq (.ops r7_26) (.seq (.ops r7_27) (.cond 94 (.ops r7_28) .skip))))
def r7_29 : List J := [oj 99 (.bin .add 82 (ci 1)), oj 82 (.mv 99)]
def l7_4 : IC := (.seq (.ops r7_24) (.seq (.cond 83 .skip (.exit 6)) (.seq (.block 7 k7_7) (.ops r7_29))))
def k7_6 : IC := (.loop l7_4)
def r7_30 : List J := [oj 100 (.mv 17), oj 4 (.mv 100)]
def d7 : FnD := ⟨101, [.tmp 4], (.seq (.ops r7_0) (.seq (.ops r7_1) (.seq (.seq (.ops r7_2) (.block 0 k7_0)) (.seq (.ops r7_10) (.seq (.seq (.ops r7_11) (.block 2 k7_2)) (.seq (.seq (.ops r7_16) (.block 4 k7_4)) (.seq (.ops r7_22) (.seq (.seq (.ops r7_23) (.block 6 k7_6)) (.seq (.ops r7_30) .ret)))))))))⟩
theorem ok7 : okF Try.prog 7 d7 = true := by kernel_rfl
end Go.Proofs.Ytaebomfgmadilaa
/- Short forms. -/
namespace Go.Proofs.Ytaebomfgmadilaa
open Go Go.Sx Go.RowKit
set_option linter.all false
set_option maxHeartbeats 400000
set_option maxRecDepth 100000
/- farebox/fareboxlaw20.sameSummaries -/
def r8_0 : List J := [oj 4 (.mv (.const (.bool false)))]
def r8_1 : List J := [oj 6 (.mv 0), oj 7 (.len 6), oj 8 (.mv 1), oj 9 (.len 8), oj 10 (.bin .neq 7 9)]
def r8_2 : List J := [oj 4 (.mv (.const (.bool false)))]
def r8_3 : List J := [oj 5 (.mv (ci 0))]
def r8_4 : List J := [oj 11 (.mv 5), oj 12 (.mv 0), oj 13 (.len 12), oj 14 (.bin .lss 11 13)]
def r8_6 : Sch := (.p [0] (oj 17 (.mv 0)) (.p [1] (oj 18 (.mv 5)) (.p [2] (oj 19 (.ias 4 17 18)) (.p [4] (oj 21 (.mv 1)) (.p [5] (oj 22 (.mv 5)) (.p [6] (oj 23 (.ias 4 21 22)) (.q [3] (oj 20 (.ld 4 true 19)) (.q [7] (oj 24 (.ld 4 true 23)) (.p [8] (oj 25 (.eqa true [(.i .i64, 2), (.b, 2)] 20 24)) .nil)))))))))
def r8_7 : List J := [oj 4 (.mv (.const (.bool false)))]
def k8_1 : IC := (.seq (.draw r8_6 []) (.cond 25 (.seq (.ops r8_7) .ret) .skip))
def r8_5 : List J := [oj 15 (.mv 5), oj 16 (.bin .add 15 (ci 1)), oj 5 (.mv 16)]
def l8_1 : IC := (.seq (.seq (.ops r8_4) (.cond 14 .skip (.exit 0))) (.seq (.block 1 k8_1) (.ops r8_5)))
def k8_0 : IC := (.loop l8_1)
def r8_8 : List J := [oj 4 (.mv (.const (.bool true)))]
def d8 : FnD := ⟨26, [.tmp 4], (.seq (.ops r8_0) (.seq (.seq (.ops r8_1) (.cond 10 (.seq (.ops r8_2) .ret) .skip)) (.seq (.seq (.ops r8_3) (.block 0 k8_0)) (.seq (.ops r8_8) .ret))))⟩
theorem ok8 : okF Try.prog 8 d8 = true := by kernel_rfl
/- farebox/fareboxref20.Digest -/
def r9_0 : List J := [oj 1 (.bx 30 0), oj 2 (.mv (.const (.slice none 0 0)))]
def r9_1 : List J := [oj 3 (.mv (.const (.slice none 0 0)))]
def r9_2 : List J := [oj 4 (.mv (ci 0))]
def r9_3 : List J := [oj 6 (.mv 4), oj 7 (.fa 66 1), oj 8 (.ld 1 false 7), oj 9 (.len 8), oj 10 (.bin .lss 6 9)]
def r9_5 : List J := [oj 13 (.fa 66 1), oj 14 (.ld 1 false 13), oj 15 (.mv 4), oj 16 (.ias 262 14 15), oj 17 (.ld 262 true 16), oj 5 (.al 45 [.one (.int .i64 0), .one (.int .i64 0), .one (.int .i64 0), .ints .u8 32 (List.replicate 32 0), .ints .u8 64 (List.replicate 64 0), .one (.int .i64 0), .ints .u8 32 (List.replicate 32 0), .one (.bool false), .ints .u8 64 (List.replicate 64 0), .one (.bool false), .ints .u8 64 (List.replicate 64 0)]), on_ (.st 262 5 17)]
def r9_6 : List J := [oj 18 (.mv 3), oj 19 (.fa 0 5), oj 20 (.fa 0 19), oj 21 (.ld 1 false 20), oj 22 (.fa 99 5), oj 23 (.ld 1 false 22), oj 24 (.fa 132 5), oj 25 (.ld 1 false 24), oj 26 (.fa 197 5), oj 27 (.ld 1 false 26), oj 28 (.bd [.one (.int .i64 0), .one (.int .i64 0), .one (.bool false), .one (.bool false)] [(0, 1, 21), (1, 1, 23), (2, 1, 25), (3, 1, 27)]), oj 29 (.bs 34 1 4 [.one (.int .i64 0), .one (.int .i64 0), .one (.bool false), .one (.bool false)] [(0, 4, 28)]), oj 30 (.app 34 4 24 [.one (.int .i64 0), .one (.int .i64 0), .one (.bool false), .one (.bool false)] 18 29), oj 3 (.mv 30)]
def k9_1 : IC := (.seq (.ops r9_5) (.ops r9_6))
def r9_4 : List J := [oj 11 (.mv 4), oj 12 (.bin .add 11 (ci 1)), oj 4 (.mv 12)]
def l9_1 : IC := (.seq (.seq (.ops r9_3) (.cond 10 .skip (.exit 0))) (.seq (.block 1 k9_1) (.ops r9_4)))
def k9_0 : IC := (.loop l9_1)
def r9_7 : List J := [oj 31 (.mv 3), oj 2 (.mv 31)]
def d9 : FnD := ⟨32, [.tmp 2], (.seq (.ops r9_0) (.seq (.ops r9_1) (.seq (.seq (.ops r9_2) (.block 0 k9_0)) (.seq (.ops r9_7) .ret))))⟩
theorem ok9 : okF Try.prog 9 d9 = true := by kernel_rfl
/- farebox/fareboxlaw20.sameEntries -/
def r10_0 : List J := [oj 4 (.mv (.const (.bool false)))]
def r10_1 : List J := [oj 6 (.mv 0), oj 7 (.len 6), oj 8 (.mv 1), oj 9 (.len 8), oj 10 (.bin .neq 7 9)]
def r10_2 : List J := [oj 4 (.mv (.const (.bool false)))]
def r10_3 : List J := [oj 5 (.mv (ci 0))]
def r10_4 : List J := [oj 11 (.mv 5), oj 12 (.mv 0), oj 13 (.len 12), oj 14 (.bin .lss 11 13)]
def r10_6 : Sch := (.p [0] (oj 17 (.mv 0)) (.p [1] (oj 18 (.mv 5)) (.p [2] (oj 19 (.ias 262 17 18)) (.p [4] (oj 21 (.mv 1)) (.p [5] (oj 22 (.mv 5)) (.p [6] (oj 23 (.ias 262 21 22)) (.q [3] (oj 20 (.ld 262 true 19)) (.q [7] (oj 24 (.ld 262 true 23)) (.p [8] (oj 25 (.eqa true [(.i .i64, 3), (.i .u8, 96), (.i .i64, 1), (.i .u8, 32), (.b, 1), (.i .u8, 64), (.b, 1), (.i .u8, 64)] 20 24)) .nil)))))))))
def r10_7 : List J := [oj 4 (.mv (.const (.bool false)))]
def k10_1 : IC := (.seq (.draw r10_6 []) (.cond 25 (.seq (.ops r10_7) .ret) .skip))
def r10_5 : List J := [oj 15 (.mv 5), oj 16 (.bin .add 15 (ci 1)), oj 5 (.mv 16)]
def l10_1 : IC := (.seq (.seq (.ops r10_4) (.cond 14 .skip (.exit 0))) (.seq (.block 1 k10_1) (.ops r10_5)))
def k10_0 : IC := (.loop l10_1)
def r10_8 : List J := [oj 4 (.mv (.const (.bool true)))]
def d10 : FnD := ⟨26, [.tmp 4], (.seq (.ops r10_0) (.seq (.seq (.ops r10_1) (.cond 10 (.seq (.ops r10_2) .ret) .skip)) (.seq (.seq (.ops r10_3) (.block 0 k10_0)) (.seq (.ops r10_8) .ret))))⟩
theorem ok10 : okF Try.prog 10 d10 = true := by kernel_rfl
/- farebox/fareboxref20.lacking -/
def r21_0 : List J := [oj 2 (.bx 45 0), oj 4 (.mv (.const (.bool false)))]
def r21_1 : List J := [oj 5 (.mv (.const (.bool false)))]
def r21_2 : List J := [oj 6 (.mv (ci 0))]
def r21_3 : List J := [oj 7 (.mv (.const (.bool false)))]
def r21_4 : List J := [oj 8 (.mv (.const (.bool false)))]
def r21_5 : List J := [oj 9 (.mv (ci 0))]
def r21_6 : List J := [oj 10 (.mv 9), oj 11 (.mv 1), oj 12 (.len 11), oj 13 (.bin .lss 10 12)]
def r21_8 : Sch := (.p [0] (oj 16 (.mv 1)) (.p [1] (oj 17 (.mv 9)) (.p [2] (oj 18 (.ias 4 16 17)) (.p [3] (oj 19 (.fa 0 18)) (.p [5] (oj 21 (.fa 0 2)) (.p [6] (oj 22 (.fa 0 21)) (.q [4] (oj 20 (.ld 1 false 19)) (.q [7] (oj 23 (.ld 1 false 22)) (.p [8] (oj 24 (.bin .eql 20 23)) .nil)))))))))
def r21_9 : List J := [oj 25 (.mv 5), oj 26 (.un .not 25), oj 27 (.mv 26), .lg true 27 35 none [.op ⟨some 28, (some (27, false)), .mv 1⟩, .op ⟨some 29, (some (27, false)), .mv 9⟩, .op ⟨some 30, (some (27, false)), .ias 4 28 29⟩, .op ⟨some 31, (some (27, false)), .fa 1 30⟩, .op ⟨some 32, (some (27, false)), .ld 1 false 31⟩, .op ⟨some 33, (some (27, false)), .mv 6⟩, .op ⟨some 34, (some (27, false)), .bin .gtr 32 33⟩] 34]
def r21_10 : List J := [oj 36 (.mv 1), oj 37 (.mv 9), oj 38 (.ias 4 36 37), oj 39 (.fa 1 38), oj 40 (.ld 1 false 39), oj 6 (.mv 40)]
def r21_11 : List J := [oj 5 (.mv (.const (.bool true)))]
def r21_12 : List J := [oj 41 (.mv 7), oj 42 (.mv 41), .lg true 42 48 none [.op ⟨some 43, (some (42, false)), .mv 1⟩, .op ⟨some 44, (some (42, false)), .mv 9⟩, .op ⟨some 45, (some (42, false)), .ias 4 43 44⟩, .op ⟨some 46, (some (42, false)), .fa 2 45⟩, .op ⟨some 47, (some (42, false)), .ld 1 false 46⟩] 47, oj 7 (.mv 48)]
def r21_13 : List J := [oj 49 (.mv 8), oj 50 (.mv 49), .lg true 50 56 none [.op ⟨some 51, (some (50, false)), .mv 1⟩, .op ⟨some 52, (some (50, false)), .mv 9⟩, .op ⟨some 53, (some (50, false)), .ias 4 51 52⟩, .op ⟨some 54, (some (50, false)), .fa 3 53⟩, .op ⟨some 55, (some (50, false)), .ld 1 false 54⟩] 55, oj 8 (.mv 56)]
def k21_1 : IC := (.seq (.draw r21_8 []) (.cond 24 (.seq (.seq (.ops r21_9) (.cond 35 (.ops r21_10) .skip)) (.seq (.ops r21_11) (.seq (.ops r21_12) (.ops r21_13)))) .skip))
def r21_7 : List J := [oj 14 (.mv 9), oj 15 (.bin .add 14 (ci 1)), oj 9 (.mv 15)]
def l21_1 : IC := (.seq (.seq (.ops r21_6) (.cond 13 .skip (.exit 0))) (.seq (.block 1 k21_1) (.ops r21_7)))
def k21_0 : IC := (.loop l21_1)
def r21_14 : List J := [oj 57 (.mv 5), oj 58 (.un .not 57), oj 59 (.mv 58), .lg true 59 64 none [.op ⟨some 60, (some (59, false)), .mv 6⟩, .op ⟨some 61, (some (59, false)), .fa 99 2⟩, .op ⟨some 62, (some (59, false)), .ld 1 false 61⟩, .op ⟨some 63, (some (59, false)), .bin .lss 60 62⟩] 63, oj 65 (.mv 64), .lg true 65 72 none [.op ⟨some 66, (some (65, false)), .fa 132 2⟩, .op ⟨some 67, (some (65, false)), .ld 1 false 66⟩, .op ⟨some 68, (some (65, false)), .mv 67⟩, .lg false 68 71 (some (65, false)) [.op ⟨some 69, (some (68, true)), .mv 7⟩, .op ⟨some 70, (some (68, true)), .un .not 69⟩] 70] 71, oj 73 (.mv 72), .lg true 73 80 none [.op ⟨some 74, (some (73, false)), .fa 197 2⟩, .op ⟨some 75, (some (73, false)), .ld 1 false 74⟩, .op ⟨some 76, (some (73, false)), .mv 75⟩, .lg false 76 79 (some (73, false)) [.op ⟨some 77, (some (76, true)), .mv 8⟩, .op ⟨some 78, (some (76, true)), .un .not 77⟩] 78] 79, oj 4 (.mv 80)]
def d21 : FnD := ⟨81, [.tmp 4], (.seq (.ops r21_0) (.seq (.ops r21_1) (.seq (.ops r21_2) (.seq (.ops r21_3) (.seq (.ops r21_4) (.seq (.seq (.ops r21_5) (.block 0 k21_0)) (.seq (.ops r21_14) .ret)))))))⟩
theorem ok21 : okF Try.prog 21 d21 = true := by kernel_rfl
/- farebox/fareboxref20.Lacks -/
def r11_0 : List J := [oj 2 (.bx 30 0), oj 4 (.mv (.const (.slice none 0 0)))]
def r11_1 : List J := [oj 5 (.mv (.const (.slice none 0 0)))]
def r11_2 : List J := [oj 6 (.mv (ci 0))]
def r11_3 : List J := [oj 7 (.mv 6), oj 8 (.fa 66 2), oj 9 (.ld 1 false 8), oj 10 (.len 9), oj 11 (.bin .lss 7 10)]
def r11_5 : List J := [oj 14 (.fa 66 2), oj 15 (.ld 1 false 14), oj 16 (.mv 6), oj 17 (.ias 262 15 16), oj 18 (.ld 262 true 17), oj 19 (.mv 1), oj 20 (.call 21 [18, 19])]
def r11_6 : List J := [oj 21 (.mv 5), oj 22 (.fa 66 2), oj 23 (.ld 1 false 22), oj 24 (.mv 6), oj 25 (.ias 262 23 24), oj 26 (.ld 262 true 25), oj 27 (.bs 45 1 262 [.one (.int .i64 0), .one (.int .i64 0), .one (.int .i64 0), .ints .u8 32 (List.replicate 32 0), .ints .u8 64 (List.replicate 64 0), .one (.int .i64 0), .ints .u8 32 (List.replicate 32 0), .one (.bool false), .ints .u8 64 (List.replicate 64 0), .one (.bool false), .ints .u8 64 (List.replicate 64 0)] [(0, 262, 26)]), oj 28 (.app 45 262 296 [.one (.int .i64 0), .one (.int .i64 0), .one (.int .i64 0), .ints .u8 32 (List.replicate 32 0), .ints .u8 64 (List.replicate 64 0), .one (.int .i64 0), .ints .u8 32 (List.replicate 32 0), .one (.bool false), .ints .u8 64 (List.replicate 64 0), .one (.bool false), .ints .u8 64 (List.replicate 64 0)] 21 27), oj 5 (.mv 28)]
def k11_1 : IC := (.seq (.ops r11_5) (.cond 20 (.ops r11_6) .skip))
def r11_4 : List J := [oj 12 (.mv 6), oj 13 (.bin .add 12 (ci 1)), oj 6 (.mv 13)]
def l11_1 : IC := (.seq (.seq (.ops r11_3) (.cond 11 .skip (.exit 0))) (.seq (.block 1 k11_1) (.ops r11_4)))
def k11_0 : IC := (.loop l11_1)
def r11_7 : List J := [oj 29 (.mv 5), oj 4 (.mv 29)]
def d11 : FnD := ⟨30, [.tmp 4], (.seq (.ops r11_0) (.seq (.ops r11_1) (.seq (.seq (.ops r11_2) (.block 0 k11_0)) (.seq (.ops r11_7) .ret))))⟩
theorem ok11 : okF Try.prog 11 d11 = true := by kernel_rfl
/- farebox/fareboxref17.Same -/
def r22_0 : List J := [oj 2 (.bx 30 0), oj 3 (.bx 30 1), oj 4 (.mv (.const (.bool false)))]
def r22_1 : List J := [oj 6 (.fa 0 2), oj 7 (.ld 65 true 6), oj 8 (.fa 0 3), oj 9 (.ld 65 true 8), oj 10 (.eqa true [(.i .i64, 1), (.i .u8, 64)] 7 9), oj 11 (.mv 10), .lg true 11 17 none [.op ⟨some 12, (some (11, false)), .fa 65 2⟩, .op ⟨some 13, (some (11, false)), .ld 1 false 12⟩, .op ⟨some 14, (some (11, false)), .fa 65 3⟩, .op ⟨some 15, (some (11, false)), .ld 1 false 14⟩, .op ⟨some 16, (some (11, false)), .bin .neq 13 15⟩] 16, oj 18 (.mv 17), .lg true 18 26 none [.op ⟨some 19, (some (18, false)), .fa 66 2⟩, .op ⟨some 20, (some (18, false)), .ld 1 false 19⟩, .op ⟨some 21, (some (18, false)), .len 20⟩, .op ⟨some 22, (some (18, false)), .fa 66 3⟩, .op ⟨some 23, (some (18, false)), .ld 1 false 22⟩, .op ⟨some 24, (some (18, false)), .len 23⟩, .op ⟨some 25, (some (18, false)), .bin .neq 21 24⟩] 25]
def r22_2 : List J := [oj 4 (.mv (.const (.bool false)))]
def r22_3 : List J := [oj 5 (.mv (ci 0))]
def r22_4 : List J := [oj 27 (.mv 5), oj 28 (.fa 66 2), oj 29 (.ld 1 false 28), oj 30 (.len 29), oj 31 (.bin .lss 27 30)]
def r22_6 : Sch := (.p [0] (oj 34 (.fa 66 2)) (.p [2] (oj 36 (.mv 5)) (.p [5] (oj 39 (.fa 66 3)) (.p [7] (oj 41 (.mv 5)) (.q [1] (oj 35 (.ld 1 false 34)) (.p [3] (oj 37 (.ias 262 35 36)) (.q [4] (oj 38 (.ld 262 true 37)) (.q [6] (oj 40 (.ld 1 false 39)) (.p [8] (oj 42 (.ias 262 40 41)) (.q [9] (oj 43 (.ld 262 true 42)) (.p [10] (oj 44 (.eqa true [(.i .i64, 3), (.i .u8, 96), (.i .i64, 1), (.i .u8, 32), (.b, 1), (.i .u8, 64), (.b, 1), (.i .u8, 64)] 38 43)) .nil)))))))))))
def r22_7 : List J := [oj 4 (.mv (.const (.bool false)))]
def k22_1 : IC := (.seq (.draw r22_6 []) (.cond 44 (.seq (.ops r22_7) .ret) .skip))
def r22_5 : List J := [oj 32 (.mv 5), oj 33 (.bin .add 32 (ci 1)), oj 5 (.mv 33)]
def l22_1 : IC := (.seq (.seq (.ops r22_4) (.cond 31 .skip (.exit 0))) (.seq (.block 1 k22_1) (.ops r22_5)))
def k22_0 : IC := (.loop l22_1)
def r22_8 : List J := [oj 4 (.mv (.const (.bool true)))]
def d22 : FnD := ⟨45, [.tmp 4], (.seq (.ops r22_0) (.seq (.seq (.ops r22_1) (.cond 26 (.seq (.ops r22_2) .ret) .skip)) (.seq (.seq (.ops r22_3) (.block 0 k22_0)) (.seq (.ops r22_8) .ret))))⟩
theorem ok22 : okF Try.prog 22 d22 = true := by kernel_rfl
/- farebox/fareboxlaw20.left -/
def r12_0 : List J := [oj 2 (.bx 30 0), oj 3 (.bx 30 1), oj 4 (.mv (.const (.bool false)))]
def r12_1 : List J := [oj 7 (.fa 66 3), oj 8 (.ld 1 false 7), oj 9 (.len 8), oj 5 (.mv 9)]
def r12_2 : List J := [oj 10 (.ld 67 true 2), oj 11 (.ld 67 true 3), oj 12 (.call 22 [10, 11]), oj 13 (.un .not 12)]
def r12_3 : List J := [oj 4 (.mv (.const (.bool false)))]
def r12_4 : List J := [oj 14 (.fa 66 2), oj 15 (.ld 1 false 14), oj 16 (.mv 5), oj 17 (.bin .add 16 (ci 2)), oj 18 (.sls 262 15 none (some 17) none), oj 6 (.mv 18)]
def r12_5 : List J := [oj 19 (.mv 6), oj 20 (.mv 5), oj 21 (.ias 262 19 20), oj 22 (.fa 99 21), oj 23 (.ld 1 false 22), oj 24 (.bin .eql 23 (ci (-7))), oj 25 (.mv 24), .lg false 25 33 none [.op ⟨some 26, (some (25, true)), .mv 6⟩, .op ⟨some 27, (some (25, true)), .mv 5⟩, .op ⟨some 28, (some (25, true)), .bin .add 27 (ci 1)⟩, .op ⟨some 29, (some (25, true)), .ias 262 26 28⟩, .op ⟨some 30, (some (25, true)), .fa 99 29⟩, .op ⟨some 31, (some (25, true)), .ld 1 false 30⟩, .op ⟨some 32, (some (25, true)), .bin .eql 31 (ci (-8))⟩] 32, oj 4 (.mv 33)]
def d12 : FnD := ⟨34, [.tmp 4], (.seq (.ops r12_0) (.seq (.ops r12_1) (.seq (.seq (.ops r12_2) (.cond 13 (.seq (.ops r12_3) .ret) .skip)) (.seq (.ops r12_4) (.seq (.ops r12_5) .ret)))))⟩
theorem ok12 : okF Try.prog 12 d12 = true := by kernel_rfl
/- farebox/fareboxlaw20.summaryRooms -/
def r13_0 : List J := [oj 4 (.mv (.const (.bool false)))]
def r13_1 : List J := [oj 10 (.mv 0), oj 5 (.mv 10)]
def r13_2 : List J := [oj 11 (.mv 1), oj 6 (.mv 11)]
def r13_3 : List J := [oj 7 (.mv (ci 0))]
def r13_4 : List J := [oj 12 (.mv 7), oj 13 (.bin .lss 12 (ci 64))]
def r13_6 : List J := [oj 16 (.mv 5), oj 17 (.bd [.one (.int .i64 0), .one (.int .i64 0), .one (.bool false), .one (.bool false)] [(0, 1, (ci (-21)))]), oj 18 (.bs 34 1 4 [.one (.int .i64 0), .one (.int .i64 0), .one (.bool false), .one (.bool false)] [(0, 4, 17)]), oj 19 (.app 34 4 24 [.one (.int .i64 0), .one (.int .i64 0), .one (.bool false), .one (.bool false)] 16 18), oj 5 (.mv 19)]
def k13_1 : IC := (.ops r13_6)
def r13_5 : List J := [oj 14 (.mv 7), oj 15 (.bin .add 14 (ci 1)), oj 7 (.mv 15)]
def l13_1 : IC := (.seq (.seq (.ops r13_4) (.cond 13 .skip (.exit 0))) (.seq (.block 1 k13_1) (.ops r13_5)))
def k13_0 : IC := (.loop l13_1)
def r13_7 : List J := [oj 8 (.mv (ci 0))]
def r13_8 : List J := [oj 20 (.mv 8), oj 21 (.bin .lss 20 (ci 64))]
def r13_10 : List J := [oj 24 (.mv 6), oj 25 (.bd [.one (.int .i64 0), .one (.int .i64 0), .one (.bool false), .one (.bool false)] [(0, 1, (ci (-22)))]), oj 26 (.bs 34 1 4 [.one (.int .i64 0), .one (.int .i64 0), .one (.bool false), .one (.bool false)] [(0, 4, 25)]), oj 27 (.app 34 4 24 [.one (.int .i64 0), .one (.int .i64 0), .one (.bool false), .one (.bool false)] 24 26), oj 6 (.mv 27)]
def k13_3 : IC := (.ops r13_10)
def r13_9 : List J := [oj 22 (.mv 8), oj 23 (.bin .add 22 (ci 1)), oj 8 (.mv 23)]
def l13_2 : IC := (.seq (.seq (.ops r13_8) (.cond 21 .skip (.exit 2))) (.seq (.block 3 k13_3) (.ops r13_9)))
def k13_2 : IC := (.loop l13_2)
def r13_11 : List J := [oj 28 (.mv 0), oj 29 (.len 28), oj 9 (.mv 29)]
def r13_12 : List J := [oj 30 (.mv 9), oj 31 (.mv 5), oj 32 (.len 31), oj 33 (.bin .lss 30 32)]
def r13_14 : List J := [oj 36 (.mv 5), oj 37 (.mv 9), oj 38 (.ias 4 36 37), oj 39 (.ld 4 true 38), oj 40 (.bd [.one (.int .i64 0), .one (.int .i64 0), .one (.bool false), .one (.bool false)] [(0, 1, (ci (-21)))]), oj 41 (.eqa true [(.i .i64, 2), (.b, 2)] 39 40)]
def r13_15 : List J := [oj 4 (.mv (.const (.bool false)))]
def k13_5 : IC := (.seq (.ops r13_14) (.cond 41 (.seq (.ops r13_15) .ret) .skip))
def r13_13 : List J := [oj 34 (.mv 9), oj 35 (.bin .add 34 (ci 1)), oj 9 (.mv 35)]
def l13_3 : IC := (.seq (.seq (.ops r13_12) (.cond 33 .skip (.exit 4))) (.seq (.block 5 k13_5) (.ops r13_13)))
def k13_4 : IC := (.loop l13_3)
def r13_16 : List J := [oj 42 (.mv 6), oj 43 (.len 42), oj 44 (.mv 1), oj 45 (.len 44), oj 46 (.bin .add 45 (ci 64)), oj 47 (.bin .eql 43 46), oj 4 (.mv 47)]
def d13 : FnD := ⟨48, [.tmp 4], (.seq (.ops r13_0) (.seq (.ops r13_1) (.seq (.ops r13_2) (.seq (.seq (.ops r13_3) (.block 0 k13_0)) (.seq (.seq (.ops r13_7) (.block 2 k13_2)) (.seq (.seq (.ops r13_11) (.block 4 k13_4)) (.seq (.ops r13_16) .ret)))))))⟩
theorem ok13 : okF Try.prog 13 d13 = true := by kernel_rfl
end Go.Proofs.Ytaebomfgmadilaa
/- Short forms. -/
namespace Go.Proofs.Ytaebomfgmadilaa
open Go Go.Sx Go.RowKit
set_option linter.all false
set_option maxHeartbeats 400000
set_option maxRecDepth 100000
/- farebox/fareboxlaw20.rooms -/
def r14_0 : List J := [oj 4 (.mv (.const (.bool false)))]
def r14_1 : List J := [oj 10 (.mv 0), oj 5 (.mv 10)]
def r14_2 : List J := [oj 11 (.mv 1), oj 6 (.mv 11)]
def r14_3 : List J := [oj 7 (.mv (ci 0))]
def r14_4 : List J := [oj 12 (.mv 7), oj 13 (.bin .lss 12 (ci 64))]
def r14_6 : List J := [oj 16 (.mv 5), oj 17 (.bd [.one (.int .i64 0), .one (.int .i64 0), .one (.int .i64 0), .ints .u8 32 (List.replicate 32 0), .ints .u8 64 (List.replicate 64 0), .one (.int .i64 0), .ints .u8 32 (List.replicate 32 0), .one (.bool false), .ints .u8 64 (List.replicate 64 0), .one (.bool false), .ints .u8 64 (List.replicate 64 0)] [(99, 1, (ci (-21)))]), oj 18 (.bs 45 1 262 [.one (.int .i64 0), .one (.int .i64 0), .one (.int .i64 0), .ints .u8 32 (List.replicate 32 0), .ints .u8 64 (List.replicate 64 0), .one (.int .i64 0), .ints .u8 32 (List.replicate 32 0), .one (.bool false), .ints .u8 64 (List.replicate 64 0), .one (.bool false), .ints .u8 64 (List.replicate 64 0)] [(0, 262, 17)]), oj 19 (.app 45 262 296 [.one (.int .i64 0), .one (.int .i64 0), .one (.int .i64 0), .ints .u8 32 (List.replicate 32 0), .ints .u8 64 (List.replicate 64 0), .one (.int .i64 0), .ints .u8 32 (List.replicate 32 0), .one (.bool false), .ints .u8 64 (List.replicate 64 0), .one (.bool false), .ints .u8 64 (List.replicate 64 0)] 16 18), oj 5 (.mv 19)]
def k14_1 : IC := (.ops r14_6)
def r14_5 : List J := [oj 14 (.mv 7), oj 15 (.bin .add 14 (ci 1)), oj 7 (.mv 15)]
def l14_1 : IC := (.seq (.seq (.ops r14_4) (.cond 13 .skip (.exit 0))) (.seq (.block 1 k14_1) (.ops r14_5)))
def k14_0 : IC := (.loop l14_1)
def r14_7 : List J := [oj 8 (.mv (ci 0))]
def r14_8 : List J := [oj 20 (.mv 8), oj 21 (.bin .lss 20 (ci 64))]
def r14_10 : List J := [oj 24 (.mv 6), oj 25 (.bd [.one (.int .i64 0), .one (.int .i64 0), .one (.int .i64 0), .ints .u8 32 (List.replicate 32 0), .ints .u8 64 (List.replicate 64 0), .one (.int .i64 0), .ints .u8 32 (List.replicate 32 0), .one (.bool false), .ints .u8 64 (List.replicate 64 0), .one (.bool false), .ints .u8 64 (List.replicate 64 0)] [(99, 1, (ci (-22)))]), oj 26 (.bs 45 1 262 [.one (.int .i64 0), .one (.int .i64 0), .one (.int .i64 0), .ints .u8 32 (List.replicate 32 0), .ints .u8 64 (List.replicate 64 0), .one (.int .i64 0), .ints .u8 32 (List.replicate 32 0), .one (.bool false), .ints .u8 64 (List.replicate 64 0), .one (.bool false), .ints .u8 64 (List.replicate 64 0)] [(0, 262, 25)]), oj 27 (.app 45 262 296 [.one (.int .i64 0), .one (.int .i64 0), .one (.int .i64 0), .ints .u8 32 (List.replicate 32 0), .ints .u8 64 (List.replicate 64 0), .one (.int .i64 0), .ints .u8 32 (List.replicate 32 0), .one (.bool false), .ints .u8 64 (List.replicate 64 0), .one (.bool false), .ints .u8 64 (List.replicate 64 0)] 24 26), oj 6 (.mv 27)]
def k14_3 : IC := (.ops r14_10)
def r14_9 : List J := [oj 22 (.mv 8), oj 23 (.bin .add 22 (ci 1)), oj 8 (.mv 23)]
def l14_2 : IC := (.seq (.seq (.ops r14_8) (.cond 21 .skip (.exit 2))) (.seq (.block 3 k14_3) (.ops r14_9)))
def k14_2 : IC := (.loop l14_2)
def r14_11 : List J := [oj 28 (.mv 0), oj 29 (.len 28), oj 9 (.mv 29)]
def r14_12 : List J := [oj 30 (.mv 9), oj 31 (.mv 5), oj 32 (.len 31), oj 33 (.bin .lss 30 32)]
def r14_14 : List J := [oj 36 (.mv 5), oj 37 (.mv 9), oj 38 (.ias 262 36 37), oj 39 (.ld 262 true 38), oj 40 (.bd [.one (.int .i64 0), .one (.int .i64 0), .one (.int .i64 0), .ints .u8 32 (List.replicate 32 0), .ints .u8 64 (List.replicate 64 0), .one (.int .i64 0), .ints .u8 32 (List.replicate 32 0), .one (.bool false), .ints .u8 64 (List.replicate 64 0), .one (.bool false), .ints .u8 64 (List.replicate 64 0)] [(99, 1, (ci (-21)))]), oj 41 (.eqa true [(.i .i64, 3), (.i .u8, 96), (.i .i64, 1), (.i .u8, 32), (.b, 1), (.i .u8, 64), (.b, 1), (.i .u8, 64)] 39 40)]
def r14_15 : List J := [oj 4 (.mv (.const (.bool false)))]
def k14_5 : IC := (.seq (.ops r14_14) (.cond 41 (.seq (.ops r14_15) .ret) .skip))
def r14_13 : List J := [oj 34 (.mv 9), oj 35 (.bin .add 34 (ci 1)), oj 9 (.mv 35)]
def l14_3 : IC := (.seq (.seq (.ops r14_12) (.cond 33 .skip (.exit 4))) (.seq (.block 5 k14_5) (.ops r14_13)))
def k14_4 : IC := (.loop l14_3)
def r14_16 : List J := [oj 42 (.mv 6), oj 43 (.len 42), oj 44 (.mv 1), oj 45 (.len 44), oj 46 (.bin .add 45 (ci 64)), oj 47 (.bin .eql 43 46), oj 4 (.mv 47)]
def d14 : FnD := ⟨48, [.tmp 4], (.seq (.ops r14_0) (.seq (.ops r14_1) (.seq (.ops r14_2) (.seq (.seq (.ops r14_3) (.block 0 k14_0)) (.seq (.seq (.ops r14_7) (.block 2 k14_2)) (.seq (.seq (.ops r14_11) (.block 4 k14_4)) (.seq (.ops r14_16) .ret)))))))⟩
theorem ok14 : okF Try.prog 14 d14 = true := by kernel_rfl
/- farebox/fareboxlaw20.turned -/
def r15_0 : List J := [oj 1 (.bx 30 0), oj 2 (.al 30 [.one (.int .i64 0), .ints .u8 64 (List.replicate 64 0), .one (.int .i64 0), .one (.slice none 0 0)]), oj 3 (.al 30 [.one (.int .i64 0), .ints .u8 64 (List.replicate 64 0), .one (.int .i64 0), .one (.slice none 0 0)])]
def r15_1 : List J := [oj 6 (.ld 67 true 1), oj 4 (.al 30 [.one (.int .i64 0), .ints .u8 64 (List.replicate 64 0), .one (.int .i64 0), .one (.slice none 0 0)]), on_ (.st 67 4 6)]
def r15_2 : List J := [oj 7 (.fa 66 4), on_ (.st 1 7 (.const (.slice none 0 0)))]
def r15_3 : List J := [oj 5 (.mv (ci 0))]
def r15_4 : List J := [oj 8 (.mv 5), oj 9 (.fa 66 1), oj 10 (.ld 1 false 9), oj 11 (.len 10), oj 12 (.bin .lss 8 11)]
def r15_6 : List J := [oj 15 (.fa 66 1), oj 16 (.ld 1 false 15), oj 17 (.mv 5), oj 18 (.ias 262 16 17), oj 19 (.fa 132 18), on_ (.st 1 19 (.const (.bool false)))]
def r15_7 : List J := [oj 20 (.fa 66 1), oj 21 (.ld 1 false 20), oj 22 (.mv 5), oj 23 (.bd [.ints .u8 64 (List.replicate 64 0)] []), oj 24 (.ias 262 21 22), oj 25 (.fa 133 24), on_ (.st 64 25 23)]
def r15_8 : List J := [oj 26 (.fa 66 1), oj 27 (.ld 1 false 26), oj 28 (.mv 5), oj 29 (.ias 262 27 28), oj 30 (.fa 197 29), on_ (.st 1 30 (.const (.bool false)))]
def r15_9 : List J := [oj 31 (.fa 66 1), oj 32 (.ld 1 false 31), oj 33 (.mv 5), oj 34 (.bd [.ints .u8 64 (List.replicate 64 0)] []), oj 35 (.ias 262 32 33), oj 36 (.fa 198 35), on_ (.st 64 36 34)]
def r15_10 : Sch := (.p [0] (oj 37 (.fa 66 1)) (.p [2] (oj 39 (.mv 5)) (.p [3] (oj 40 (.fa 66 1)) (.p [5] (oj 42 (.mv 5)) (.q [1] (oj 38 (.ld 1 false 37)) (.q [4] (oj 41 (.ld 1 false 40)) (.p [6] (oj 43 (.ias 262 41 42)) (.p [7] (oj 44 (.fa 99 43)) (.q [8] (oj 45 (.ld 1 false 44)) (.p [9] (oj 46 (.bin .quo 45 (ci 2))) (.p [10] (oj 47 (.ias 262 38 39)) (.p [11] (oj 48 (.fa 99 47)) (.e 12 (oe (.st 1 48 46)) .nil)))))))))))))
def r15_11 : Sch := (.p [0] (oj 49 (.fa 66 4)) (.p [2] (oj 51 (.fa 66 1)) (.p [4] (oj 53 (.mv 5)) (.q [1] (oj 50 (.ld 1 false 49)) (.q [3] (oj 52 (.ld 1 false 51)) (.p [5] (oj 54 (.ias 262 52 53)) (.q [6] (oj 55 (.ld 262 true 54)) (.e 7 (oi 56 (.bs 45 1 262 [.one (.int .i64 0), .one (.int .i64 0), .one (.int .i64 0), .ints .u8 32 (List.replicate 32 0), .ints .u8 64 (List.replicate 64 0), .one (.int .i64 0), .ints .u8 32 (List.replicate 32 0), .one (.bool false), .ints .u8 64 (List.replicate 64 0), .one (.bool false), .ints .u8 64 (List.replicate 64 0)] [(0, 262, 55)])) (.e 8 (oi 57 (.app 45 262 296 [.one (.int .i64 0), .one (.int .i64 0), .one (.int .i64 0), .ints .u8 32 (List.replicate 32 0), .ints .u8 64 (List.replicate 64 0), .one (.int .i64 0), .ints .u8 32 (List.replicate 32 0), .one (.bool false), .ints .u8 64 (List.replicate 64 0), .one (.bool false), .ints .u8 64 (List.replicate 64 0)] 50 56)) (.p [9] (oj 58 (.fa 66 4)) (.e 10 (oe (.st 1 58 57)) .nil)))))))))))
def k15_1 : IC := (.seq (.ops r15_6) (.seq (.ops r15_7) (.seq (.ops r15_8) (.seq (.ops r15_9) (.seq (.draw r15_10 [12]) (.draw r15_11 [8, 10]))))))
def r15_5 : List J := [oj 13 (.mv 5), oj 14 (.bin .add 13 (ci 1)), oj 5 (.mv 14)]
def l15_1 : IC := (.seq (.seq (.ops r15_4) (.cond 12 .skip (.exit 0))) (.seq (.block 1 k15_1) (.ops r15_5)))
def k15_0 : IC := (.loop l15_1)
def r15_12 : Sch := (.q [0] (oj 59 (.ld 67 true 1)) (.q [1] (oj 60 (.ld 67 true 4)) (.e 2 (oe (.st 67 2 59)) (.e 3 (oe (.st 67 3 60)) .nil))))
def d15 : FnD := ⟨61, [.cell 2 67 true, .cell 3 67 true], (.seq (.ops r15_0) (.seq (.ops r15_1) (.seq (.ops r15_2) (.seq (.seq (.ops r15_3) (.block 0 k15_0)) (.seq (.draw r15_12 []) .ret)))))⟩
theorem ok15 : okF Try.prog 15 d15 = true := by kernel_rfl
/- farebox/fareboxlaw20.GossipDigests -/
def r3_0 : List J := [oj 4 (.mv (.const (.bool false)))]
def r3_1 : List J := [oj 24 (.mv 0), oj 25 (.call 4 [24]), oj 5 (.al 30 [.one (.int .i64 0), .ints .u8 64 (List.replicate 64 0), .one (.int .i64 0), .one (.slice none 0 0)]), on_ (.st 67 5 25)]
def r3_2 : List J := [oj 26 (.ld 67 true 5), oj 27 (.call 5 [26]), oj 6 (.al 30 [.one (.int .i64 0), .ints .u8 64 (List.replicate 64 0), .one (.int .i64 0), .one (.slice none 0 0)]), on_ (.st 67 6 27)]
def r3_3 : List J := [oj 7 (.mv (.const (.slice none 0 0)))]
def r3_4 : List J := [oj 28 (.mv 7), oj 29 (.mv 1), oj 30 (.app 34 4 24 [.one (.int .i64 0), .one (.int .i64 0), .one (.bool false), .one (.bool false)] 28 29), oj 7 (.mv 30)]
def r3_5 : List J := [oj 31 (.mv 7), oj 32 (.bd [.one (.int .i64 0), .one (.int .i64 0), .one (.bool false), .one (.bool false)] [(0, 1, (ci (-77)))]), oj 33 (.bs 34 1 4 [.one (.int .i64 0), .one (.int .i64 0), .one (.bool false), .one (.bool false)] [(0, 4, 32)]), oj 34 (.app 34 4 24 [.one (.int .i64 0), .one (.int .i64 0), .one (.bool false), .one (.bool false)] 31 33), oj 7 (.mv 34)]
def r3_6 : List J := [oj 35 (.mv 7), oj 36 (.mv 1), oj 37 (.len 36), oj 38 (.sls 4 35 none (some 37) none), oj 7 (.mv 38)]
def r3_7 : List J := [oj 39 (.ld 67 true 6), oj 40 (.call 6 [39]), oj 8 (.mv 40)]
def r3_8 : List J := [oj 41 (.ld 67 true 6), oj 42 (.mv 7), oj 43 (.call 7 [41, 42]), oj 9 (.mv 43)]
def r3_9 : List J := [oj 44 (.ld 67 true 6), oj 45 (.call 6 [44]), oj 10 (.mv 45)]
def r3_10 : List J := [oj 46 (.ld 67 true 6), oj 47 (.mv 7), oj 48 (.call 7 [46, 47]), oj 11 (.mv 48)]
def r3_11 : List J := [oj 49 (.ld 67 true 6), oj 50 (.call 7 [49, (.const (.slice none 0 0))]), oj 12 (.mv 50)]
def r3_12 : List J := [oj 51 (.mv 8), oj 52 (.ld 67 true 5), oj 53 (.call 9 [52]), oj 54 (.call 8 [51, 53]), oj 55 (.un .not 54), oj 56 (.mv 55), .op ⟨some 57, (some (56, false)), .mv 9⟩, .op ⟨some 58, (some (56, false)), .ld 67 true 5⟩, .op ⟨some 59, (some (56, false)), .mv 1⟩, .op ⟨some 60, (some (56, false)), .call 11 [58, 59]⟩, .op ⟨some 61, (some (56, false)), .call 10 [57, 60]⟩, .op ⟨some 62, (some (56, false)), .un .not 61⟩, oj 63 (.pick 56 (.const (.bool true)) 62), oj 64 (.mv 63), .lg true 64 69 none [.op ⟨some 65, (some (64, false)), .mv 7⟩, .op ⟨some 66, (some (64, false)), .mv 1⟩, .op ⟨some 67, (some (64, false)), .call 8 [65, 66]⟩, .op ⟨some 68, (some (64, false)), .un .not 67⟩] 68, oj 70 (.mv 69), .lg true 70 75 none [.op ⟨some 71, (some (70, false)), .ld 67 true 6⟩, .op ⟨some 72, (some (70, false)), .ld 67 true 5⟩, .op ⟨some 73, (some (70, false)), .call 12 [71, 72]⟩, .op ⟨some 74, (some (70, false)), .un .not 73⟩] 74]
def r3_13 : List J := [oj 4 (.mv (.const (.bool false)))]
def r3_14 : List J := [oj 13 (.mv (ci 0))]
def r3_15 : List J := [oj 76 (.mv 13), oj 77 (.mv 8), oj 78 (.len 77), oj 79 (.bin .lss 76 78)]
def r3_17 : List J := [oj 82 (.mv 8), oj 83 (.mv 13), oj 84 (.bd [.one (.int .i64 0), .one (.int .i64 0), .one (.bool false), .one (.bool false)] [(0, 1, (ci (-33)))]), oj 85 (.ias 4 82 83), on_ (.st 4 85 84)]
def k3_1 : IC := (.ops r3_17)
def r3_16 : List J := [oj 80 (.mv 13), oj 81 (.bin .add 80 (ci 1)), oj 13 (.mv 81)]
def l3_1 : IC := (.seq (.seq (.ops r3_15) (.cond 79 .skip (.exit 0))) (.seq (.block 1 k3_1) (.ops r3_16)))
def k3_0 : IC := (.loop l3_1)
def r3_18 : List J := [oj 86 (.mv 8), oj 14 (.mv 86)]
def r3_19 : List J := [oj 15 (.mv (ci 0))]
def r3_20 : List J := [oj 87 (.mv 15), oj 88 (.bin .lss 87 (ci 8))]
def r3_22 : List J := [oj 91 (.mv 14), oj 92 (.bd [.one (.int .i64 0), .one (.int .i64 0), .one (.bool false), .one (.bool false)] [(0, 1, (ci (-34)))]), oj 93 (.bs 34 1 4 [.one (.int .i64 0), .one (.int .i64 0), .one (.bool false), .one (.bool false)] [(0, 4, 92)]), oj 94 (.app 34 4 24 [.one (.int .i64 0), .one (.int .i64 0), .one (.bool false), .one (.bool false)] 91 93), oj 14 (.mv 94)]
def k3_3 : IC := (.ops r3_22)
def r3_21 : List J := [oj 89 (.mv 15), oj 90 (.bin .add 89 (ci 1)), oj 15 (.mv 90)]
def l3_2 : IC := (.seq (.seq (.ops r3_20) (.cond 88 .skip (.exit 2))) (.seq (.block 3 k3_3) (.ops r3_21)))
def k3_2 : IC := (.loop l3_2)
def r3_23 : List J := [oj 16 (.mv (ci 0))]
def r3_24 : List J := [oj 95 (.mv 16), oj 96 (.mv 9), oj 97 (.len 96), oj 98 (.bin .lss 95 97)]
def r3_26 : List J := [oj 101 (.mv 9), oj 102 (.mv 16), oj 103 (.bd [.one (.int .i64 0), .one (.int .i64 0), .one (.int .i64 0), .ints .u8 32 (List.replicate 32 0), .ints .u8 64 (List.replicate 64 0), .one (.int .i64 0), .ints .u8 32 (List.replicate 32 0), .one (.bool false), .ints .u8 64 (List.replicate 64 0), .one (.bool false), .ints .u8 64 (List.replicate 64 0)] [(99, 1, (ci (-33)))]), oj 104 (.ias 262 101 102), on_ (.st 262 104 103)]
def k3_5 : IC := (.ops r3_26)
def r3_25 : List J := [oj 99 (.mv 16), oj 100 (.bin .add 99 (ci 1)), oj 16 (.mv 100)]
def l3_3 : IC := (.seq (.seq (.ops r3_24) (.cond 98 .skip (.exit 4))) (.seq (.block 5 k3_5) (.ops r3_25)))
def k3_4 : IC := (.loop l3_3)
def r3_27 : List J := [oj 105 (.mv 9), oj 17 (.mv 105)]
def r3_28 : List J := [oj 18 (.mv (ci 0))]
def r3_29 : List J := [oj 106 (.mv 18), oj 107 (.bin .lss 106 (ci 8))]
def r3_31 : List J := [oj 110 (.mv 17), oj 111 (.bd [.one (.int .i64 0), .one (.int .i64 0), .one (.int .i64 0), .ints .u8 32 (List.replicate 32 0), .ints .u8 64 (List.replicate 64 0), .one (.int .i64 0), .ints .u8 32 (List.replicate 32 0), .one (.bool false), .ints .u8 64 (List.replicate 64 0), .one (.bool false), .ints .u8 64 (List.replicate 64 0)] [(99, 1, (ci (-34)))]), oj 112 (.bs 45 1 262 [.one (.int .i64 0), .one (.int .i64 0), .one (.int .i64 0), .ints .u8 32 (List.replicate 32 0), .ints .u8 64 (List.replicate 64 0), .one (.int .i64 0), .ints .u8 32 (List.replicate 32 0), .one (.bool false), .ints .u8 64 (List.replicate 64 0), .one (.bool false), .ints .u8 64 (List.replicate 64 0)] [(0, 262, 111)]), oj 113 (.app 45 262 296 [.one (.int .i64 0), .one (.int .i64 0), .one (.int .i64 0), .ints .u8 32 (List.replicate 32 0), .ints .u8 64 (List.replicate 64 0), .one (.int .i64 0), .ints .u8 32 (List.replicate 32 0), .one (.bool false), .ints .u8 64 (List.replicate 64 0), .one (.bool false), .ints .u8 64 (List.replicate 64 0)] 110 112), oj 17 (.mv 113)]
def k3_7 : IC := (.ops r3_31)
def r3_30 : List J := [oj 108 (.mv 18), oj 109 (.bin .add 108 (ci 1)), oj 18 (.mv 109)]
def l3_4 : IC := (.seq (.seq (.ops r3_29) (.cond 107 .skip (.exit 6))) (.seq (.block 7 k3_7) (.ops r3_30)))
def k3_6 : IC := (.loop l3_4)
def r3_32 : List J := [oj 114 (.ld 67 true 6), oj 115 (.mv 7), oj 116 (.call 7 [114, 115]), oj 19 (.mv 116)]
def r3_33 : List J := [oj 117 (.mv 17), oj 118 (.len 117), oj 119 (.mv 9), oj 120 (.len 119), oj 121 (.bin .add 120 (ci 8)), oj 122 (.bin .neq 118 121), oj 123 (.mv 122), .lg true 123 130 none [.op ⟨some 124, (some (123, false)), .mv 14⟩, .op ⟨some 125, (some (123, false)), .len 124⟩, .op ⟨some 126, (some (123, false)), .mv 8⟩, .op ⟨some 127, (some (123, false)), .len 126⟩, .op ⟨some 128, (some (123, false)), .bin .add 127 (ci 8)⟩, .op ⟨some 129, (some (123, false)), .bin .neq 125 128⟩] 129, oj 131 (.mv 130), .lg true 131 136 none [.op ⟨some 132, (some (131, false)), .ld 67 true 6⟩, .op ⟨some 133, (some (131, false)), .ld 67 true 5⟩, .op ⟨some 134, (some (131, false)), .call 12 [132, 133]⟩, .op ⟨some 135, (some (131, false)), .un .not 134⟩] 135, oj 137 (.mv 136), .op ⟨some 138, (some (137, false)), .mv 19⟩, .op ⟨some 139, (some (137, false)), .ld 67 true 5⟩, .op ⟨some 140, (some (137, false)), .mv 1⟩, .op ⟨some 141, (some (137, false)), .call 11 [139, 140]⟩, .op ⟨some 142, (some (137, false)), .call 10 [138, 141]⟩, .op ⟨some 143, (some (137, false)), .un .not 142⟩, oj 144 (.pick 137 (.const (.bool true)) 143)]
def r3_34 : List J := [oj 4 (.mv (.const (.bool false)))]
def r3_35 : List J := [oj 145 (.mv 10), oj 146 (.ld 67 true 5), oj 147 (.call 9 [146]), oj 148 (.call 8 [145, 147]), oj 149 (.un .not 148), oj 150 (.mv 149), .op ⟨some 151, (some (150, false)), .mv 11⟩, .op ⟨some 152, (some (150, false)), .ld 67 true 5⟩, .op ⟨some 153, (some (150, false)), .mv 1⟩, .op ⟨some 154, (some (150, false)), .call 11 [152, 153]⟩, .op ⟨some 155, (some (150, false)), .call 10 [151, 154]⟩, .op ⟨some 156, (some (150, false)), .un .not 155⟩, oj 157 (.pick 150 (.const (.bool true)) 156), oj 158 (.mv 157), .op ⟨some 159, (some (158, false)), .mv 12⟩, .op ⟨some 160, (some (158, false)), .ld 67 true 5⟩, .op ⟨some 161, (some (158, false)), .call 11 [160, (.const (.slice none 0 0))]⟩, .op ⟨some 162, (some (158, false)), .call 10 [159, 161]⟩, .op ⟨some 163, (some (158, false)), .un .not 162⟩, oj 164 (.pick 158 (.const (.bool true)) 163), oj 165 (.mv 164), .op ⟨some 166, (some (165, false)), .mv 8⟩, .op ⟨some 167, (some (165, false)), .mv 10⟩, .op ⟨some 168, (some (165, false)), .call 13 [166, 167]⟩, .op ⟨some 169, (some (165, false)), .un .not 168⟩, oj 170 (.pick 165 (.const (.bool true)) 169), oj 171 (.mv 170), .op ⟨some 172, (some (171, false)), .mv 9⟩, .op ⟨some 173, (some (171, false)), .mv 11⟩, .op ⟨some 174, (some (171, false)), .call 14 [172, 173]⟩, .op ⟨some 175, (some (171, false)), .un .not 174⟩, oj 176 (.pick 171 (.const (.bool true)) 175), oj 177 (.mv 176), .op ⟨some 178, (some (177, false)), .mv 11⟩, .op ⟨some 179, (some (177, false)), .mv 12⟩, .op ⟨some 180, (some (177, false)), .call 14 [178, 179]⟩, .op ⟨some 181, (some (177, false)), .un .not 180⟩, oj 182 (.pick 177 (.const (.bool true)) 181)]
def r3_36 : List J := [oj 4 (.mv (.const (.bool false)))]
def r3_37 : List J := [oj 20 (.mv (.const (.slice none 0 0)))]
def r3_38 : List J := [oj 21 (.mv (ci 0))]
def r3_39 : List J := [oj 183 (.mv 21), oj 184 (.mv 7), oj 185 (.len 184), oj 186 (.bin .lss 183 185)]
def r3_41 : Sch := (.p [0] (oj 189 (.mv 7)) (.p [1] (oj 190 (.mv 21)) (.p [2] (oj 191 (.mv 1)) (.p [3] (oj 192 (.mv 21)) (.p [4] (oj 193 (.ias 4 191 192)) (.p [5] (oj 194 (.fa 0 193)) (.p [7] (oj 196 (.mv 1)) (.p [8] (oj 197 (.mv 1)) (.p [9] (oj 198 (.len 197)) (.p [10] (oj 199 (.bin .sub 198 (ci 1))) (.p [11] (oj 200 (.mv 21)) (.p [12] (oj 201 (.bin .sub 199 200)) (.p [13] (oj 202 (.ias 4 196 201)) (.p [14] (oj 203 (.fa 1 202)) (.p [16] (oj 205 (.mv 1)) (.p [17] (oj 206 (.mv 21)) (.p [18] (oj 207 (.ias 4 205 206)) (.p [19] (oj 208 (.fa 2 207)) (.p [22] (oj 211 (.mv 1)) (.p [23] (oj 212 (.mv 21)) (.p [24] (oj 213 (.ias 4 211 212)) (.p [25] (oj 214 (.fa 3 213)) (.q [6] (oj 195 (.ld 1 false 194)) (.q [15] (oj 204 (.ld 1 false 203)) (.q [20] (oj 209 (.ld 1 false 208)) (.p [21] (oj 210 (.un .not 209)) (.q [26] (oj 215 (.ld 1 false 214)) (.p [27] (oj 216 (.bd [.one (.int .i64 0), .one (.int .i64 0), .one (.bool false), .one (.bool false)] [(0, 1, 195), (1, 1, 204), (2, 1, 210), (3, 1, 215)])) (.p [28] (oj 217 (.ias 4 189 190)) (.e 29 (oe (.st 4 217 216)) .nil))))))))))))))))))))))))))))))
def r3_42 : List J := [oj 218 (.mv 20), oj 219 (.mv 7), oj 220 (.mv 21), oj 221 (.ias 4 219 220), oj 222 (.ld 4 true 221), oj 223 (.bs 34 1 4 [.one (.int .i64 0), .one (.int .i64 0), .one (.bool false), .one (.bool false)] [(0, 4, 222)]), oj 224 (.app 34 4 24 [.one (.int .i64 0), .one (.int .i64 0), .one (.bool false), .one (.bool false)] 218 223), oj 20 (.mv 224)]
def k3_9 : IC := (.seq (.draw r3_41 [29]) (.ops r3_42))
def r3_40 : List J := [oj 187 (.mv 21), oj 188 (.bin .add 187 (ci 1)), oj 21 (.mv 188)]
def l3_5 : IC := (.seq (.seq (.ops r3_39) (.cond 186 .skip (.exit 8))) (.seq (.block 9 k3_9) (.ops r3_40)))
def k3_8 : IC := (.loop l3_5)
def r3_43 : Sch := (.p [1] (oj 226 (.mv 7)) (.p [4] (oj 229 (.mv 20)) (.q [0] (oj 225 (.ld 67 true 6)) (.q [3] (oj 228 (.ld 67 true 5)) (.e 2 (oi 227 (.call 7 [225, 226])) (.e 5 (oi 230 (.call 11 [228, 229])) (.e 6 (oi 231 (.call 10 [227, 230])) (.p [7] (oj 232 (.un .not 231)) (.p [8] (oj 233 (.mv 232)) (.q [9, 10, 11, 12, 13] (.lg true 233 238 none [.op ⟨some 234, (some (233, false)), .mv 7⟩, .op ⟨some 235, (some (233, false)), .mv 20⟩, .op ⟨some 236, (some (233, false)), .call 8 [234, 235]⟩, .op ⟨some 237, (some (233, false)), .un .not 236⟩] 237) (.p [14] (oj 239 (.mv 238)) (.q [15, 16, 17, 18, 19, 20, 21, 22, 23, 24, 25, 26] (.lg true 239 251 none [.op ⟨some 240, (some (239, false)), .mv 7⟩, .op ⟨some 241, (some (239, false)), .mv 1⟩, .op ⟨some 242, (some (239, false)), .len 241⟩, .op ⟨some 243, (some (239, false)), .bin .add 242 (ci 1)⟩, .op ⟨some 244, (some (239, false)), .sls 4 240 none (some 243) none⟩, .op ⟨some 245, (some (239, false)), .mv 1⟩, .op ⟨some 246, (some (239, false)), .len 245⟩, .op ⟨some 247, (some (239, false)), .ias 4 244 246⟩, .op ⟨some 248, (some (239, false)), .fa 0 247⟩, .op ⟨some 249, (some (239, false)), .ld 1 false 248⟩, .op ⟨some 250, (some (239, false)), .bin .neq 249 (ci (-77))⟩] 250) .nil))))))))))))
def r3_44 : List J := [oj 4 (.mv (.const (.bool false)))]
def r3_45 : List J := [oj 253 (.ld 67 true 6), oj 254 (.call 15 [253]), oj 252 (.mv 254), oj 255 (.ext 252 0), oj 256 (.ext 252 1), oj 22 (.al 30 [.one (.int .i64 0), .ints .u8 64 (List.replicate 64 0), .one (.int .i64 0), .one (.slice none 0 0)]), oj 23 (.al 30 [.one (.int .i64 0), .ints .u8 64 (List.replicate 64 0), .one (.int .i64 0), .one (.slice none 0 0)]), on_ (.st 67 22 255), on_ (.st 67 23 256)]
def r3_46 : Sch := (.q [0] (oj 257 (.ld 67 true 22)) (.q [2] (oj 259 (.ld 67 true 23)) (.e 1 (oi 258 (.call 6 [257])) (.e 3 (oi 260 (.call 9 [259])) (.e 4 (oi 261 (.call 8 [258, 260])) (.p [5] (oj 262 (.mv 261)) (.p [7] (.op ⟨some 264, (some (262, true)), .mv 7⟩) (.p [10] (.op ⟨some 267, (some (262, true)), .mv 20⟩) (.q [6] (.op ⟨some 263, (some (262, true)), .ld 67 true 22⟩) (.q [9] (.op ⟨some 266, (some (262, true)), .ld 67 true 23⟩) (.e 8 ⟨some 265, (some (262, true)), .call 7 [263, 264]⟩ (.e 11 ⟨some 268, (some (262, true)), .call 11 [266, 267]⟩ (.e 12 ⟨some 269, (some (262, true)), .call 10 [265, 268]⟩ (.p [13] (oj 270 (.pick 262 269 (.const (.bool false)))) (.p [14] (oj 271 (.mv 270)) (.q [15, 16, 17, 18] (.lg false 271 275 none [.op ⟨some 272, (some (271, true)), .ld 67 true 22⟩, .op ⟨some 273, (some (271, true)), .ld 67 true 23⟩, .op ⟨some 274, (some (271, true)), .call 12 [272, 273]⟩] 274) (.p [19] (oj 4 (.mv 275)) .nil)))))))))))))))))
def d3 : FnD := ⟨276, [.tmp 4], (.seq (.ops r3_0) (.seq (.ops r3_1) (.seq (.ops r3_2) (.seq (.ops r3_3) (.seq (.ops r3_4) (.seq (.ops r3_5) (.seq (.ops r3_6) (.seq (.ops r3_7) (.seq (.ops r3_8) (.seq (.ops r3_9) (.seq (.ops r3_10) (.seq (.ops r3_11) (.seq (.seq (.ops r3_12) (.cond 75 (.seq (.ops r3_13) .ret) .skip)) (.seq (.seq (.ops r3_14) (.block 0 k3_0)) (.seq (.ops r3_18) (.seq (.seq (.ops r3_19) (.block 2 k3_2)) (.seq (.seq (.ops r3_23) (.block 4 k3_4)) (.seq (.ops r3_27) (.seq (.seq (.ops r3_28) (.block 6 k3_6)) (.seq (.ops r3_32) (.seq (.seq (.ops r3_33) (.cond 144 (.seq (.ops r3_34) .ret) .skip)) (.seq (.seq (.ops r3_35) (.cond 182 (.seq (.ops r3_36) .ret) .skip)) (.seq (.ops r3_37) (.seq (.seq (.ops r3_38) (.block 8 k3_8)) (.seq (.seq (.draw r3_43 []) (.cond 251 (.seq (.ops r3_44) .ret) .skip)) (.seq (.ops r3_45) (.seq (.draw r3_46 []) .ret)))))))))))))))))))))))))))⟩
theorem ok3 : okF Try.prog 3 d3 = true := by kernel_rfl
end Go.Proofs.Ytaebomfgmadilaa
/- Short forms. -/
namespace Go.Proofs.Ytaebomfgmadilaa
open Go Go.Sx Go.RowKit
set_option linter.all false
set_option maxHeartbeats 400000
set_option maxRecDepth 100000
theorem mo : Try.prog.follows .mixedOrders = true := by kernel_rfl
end Go.Proofs.Ytaebomfgmadilaa
