/- The engine, part 13: make, slice literals, copy; append in numbers and in rows. -/
import Derived.Test.YtiflckckekjbnaaDoorE12
namespace Go.Sx
open Go Go.RowKit
set_option linter.all false

section
variable {C : Cfg} {m : List Chunk} {t : TS} {K : KN}

/-- make. -/
theorem ef_mks {d : Nat} {T : TypeId} {bytes : Nat} {z : List Seg} {l c : Operand} {kl kc : IntKind} {L N : Int}
    (hl : ev t l = some (.int kl L)) (hc : ev t c = some (.int kc N)) (h0 : 0 ≤ L) (hln : L ≤ N) (hb : (bytes : Int) * N ≤ 281474976710656) (h63 : N ≤ 9223372036854775807)
    (h : ∀ b, C.W0.heap.size ≤ b → ∃ segs, cells segs = (List.replicate N.toNat (cells z)).flatten ∧ K ((d, .slice (some ⟨b, 0, none⟩) L.toNat N.toNat) :: t) (ck b T segs :: m)) :
    EF C m t (some d) (.mks T bytes z l c) K := by
  intro o ho hd a ha wd hw
  obtain ⟨hd1, hd2⟩ := okD_some hd
  simp only [okOp] at ho
  split at ho
  · rename_i ty l' c' heq
    simp only [Bool.and_eq_true] at ho
    obtain ⟨⟨⟨⟨h1, h2⟩, h3⟩, h4⟩, h5⟩ := ho
    have e := oeq_sound h1; have e' := oeq_sound h2; subst e; subst e'
    split at h3
    · rename_i E hu
      rw [decide_eq_true_eq] at h3; subst h3
      obtain ⟨i, hi, hs, hby, hpos⟩ := infoOk_spec h4
      split at h5
      · rename_i q hq
        obtain ⟨zv, hz1, hz2⟩ := zOf_spec hi hq
        rw [veqL_sound h5] at hz2
        have hr := run_make (P := C.P) wd ty E i zv hu hi hz1 kl kc L N h0 hln (by rw [hby]; exact hb) h63
        have h2 : (execOp a.eval o).run C.P wd = (Result.ok (.slice (some ⟨wd.heap.size, 0, none⟩) L.toNat N.toNat) (wd.alloc (.cells (madeCells zv.cells (N.toNat * i.size)) E)) : Result Value).andThen fun v w => .ok (.value v) w := by
          simp only [execOp, heq, ha.ev hl, ha.ev hc, Sem.run_bind, hr, Result.andThen_ok, Sem.run_pure]
        unfold Oper.wp
        rw [h2, Result.andThen_ok]
        simp only [Oper.upon]
        obtain ⟨segs, e1, hK⟩ := h wd.heap.size hw.fr.size
        refine ⟨_, _, hK, hd1 ▸ ha.put hd2 _, ?_⟩
        have e2 : madeCells zv.cells (N.toNat * i.size) = (cells segs).toArray := by
          have hsz : zv.cells.size = i.size := by rw [hz2, hs]; simp [cells_length]
          rw [e1]
          by_cases hz : 0 < (cells z).length
          · apply Array.ext'
            rw [← zeros_rep hz]
            simp only [madeCells, Builtin.zeroCells, hz2]
            rw [hs, List.size_toArray, cells_length]
          · have hz0 : (cells z) = [] := List.eq_nil_of_length_eq_zero (by omega)
            have hw0 : i.size = 0 := by rw [hs, ← cells_length, hz0]; rfl
            rw [hz0, hw0]
            simp [madeCells]
        rw [e2]
        exact hw.alloc _
      · cases h5
    · cases h3
  · cases ho

theorem fillS_ok {a : Act} {n w : Nat} (ha : SatT n t a) : ∀ {z q : List Seg} {parts : List (Nat × Nat × Operand)} {ps : List (Nat × Operand)}, BdR t z parts q → partsOk w ps parts = true →
    Instr.fill (fun i => some (i * w, w)) (cells z).toArray (ps.map fun p => (p.1, a.eval p.2)) = some (cells q).toArray
  | z, _, [], ps, .nil, hp => by
    cases ps with
    | nil => rfl
    | cons p ps => obtain ⟨i, x⟩ := p; simp [partsOk] at hp
  | z, q, (off, n1, x) :: r, ps, hb, hp => by
    cases ps with
    | nil => simp [partsOk] at hp
    | cons p ps =>
      obtain ⟨i, y⟩ := p
      simp only [partsOk, Bool.and_eq_true, Nat.beq_eq] at hp
      obtain ⟨⟨⟨h0, h1⟩, h2⟩, h3⟩ := hp
      have e := oeq_sound h2; subst e
      subst h0
      subst h1
      cases hb with
      | one hx hv hput hr =>
        rename_i z' v
        obtain ⟨e1, e2, e3⟩ := putC_cells hput
        have hcs : (a.eval y).cells = #[v] := by rw [ha.ev hx]; exact hv
        simp only [List.map_cons, Instr.fill, hcs]
        rw [if_neg (by simp [cells_length] at e3 ⊢; omega)]
        have := foldl_splice (i * 1) [v] 0 (cells z) (by rw [cells_length]; simp; omega)
        have e4 : ((#[v] : Array Value).zipIdx.foldl (fun (cs : Array Value) (p : Value × Nat) => cs.setIfInBounds (i * 1 + p.2) p.1) (cells z).toArray) = (cells z').toArray := by
          rw [e1, set_splice (by rw [cells_length]; exact e3)]
          simpa using this
        rw [e4]
        exact fillS_ok ha hr h3
      | agg hx hw hput hr =>
        rename_i z' p
        obtain ⟨e1, e2, e3⟩ := putL_cells hput
        have hcs : (a.eval y).cells = (cells p).toArray := by rw [ha.ev hx]; rfl
        simp only [List.map_cons, Instr.fill, hcs]
        rw [if_neg (by simp [cells_length]; omega)]
        have e4 : ((cells p).toArray.zipIdx.foldl (fun (cs : Array Value) (q : Value × Nat) => cs.setIfInBounds (i * n1 + q.2) q.1) (cells z).toArray) = (cells z').toArray := by
          rw [← Array.foldl_toList, e1]
          have := foldl_splice (i * n1) (cells p) 0 (cells z) (by rw [cells_length, cells_length]; omega)
          simpa using this
        rw [e4]
        exact fillS_ok ha hr h3

/-- A slice literal. -/
theorem ef_bs {d : Nat} {T : TypeId} {len w : Nat} {z q : List Seg} {parts : List (Nat × Nat × Operand)} (hb : BdR t z parts q)
    (h : ∀ b, C.W0.heap.size ≤ b → K ((d, .slice (some ⟨b, 0, none⟩) len len) :: t) (ck b T q :: m)) : EF C m t (some d) (.bs T len w z parts) K := by
  intro o ho hd a ha wd hw
  obtain ⟨hd1, hd2⟩ := okD_some hd
  simp only [okOp] at ho
  split at ho
  · rename_i ty len' ps heq
    simp only [Bool.and_eq_true, Nat.beq_eq] at ho
    obtain ⟨⟨⟨⟨⟨h1, h2⟩, h3⟩, h4⟩, h5⟩, h6⟩ := ho
    subst h2
    split at h1
    · rename_i E hu
      rw [decide_eq_true_eq] at h1; subst h1
      split at h4
      · rename_i q0 hq
        obtain ⟨i, hi, hsz⟩ := szOf_info h3
        obtain ⟨zv, hz1, hz2⟩ := zOf_spec hi hq
        have hsmall : ¬ len' * i.size > 2 ^ 24 := by
          have := Nat.le_of_ble_eq_true h6
          rw [hsz]; omega
        have hzc : ((Array.range (len' * w)).map fun j => q0.toArray[j % q0.toArray.size]!) = (cells z).toArray := by
          have := veqL_sound h4
          rw [← this, Array.toArray_toList]
        have hfill := fillS_ok (w := w) ha hb h5
        have hps' : (ps.map fun (x : Nat × Operand) => match x with | (i, x) => (i, a.eval x)) = (ps.map fun p => (p.1, a.eval p.2)) := rfl
        have hps : (ps.map fun p => (p.1, a.eval p.2)).toList = ps.toList.map fun p => (p.1, a.eval p.2) := by simp
        have hr : (Instr.buildSlice ty len' (ps.map fun (x : Nat × Operand) => match x with | (i, x) => (i, a.eval x))).run C.P wd = .ok (.slice (some ⟨wd.heap.size, 0, none⟩) len' len') (wd.alloc (.cells (cells q).toArray E)) := by
          rw [hps']
          by_cases hpos : len' * i.size = 0
          · have hzz : (cells z).toArray = #[] := by rw [← hzc, ← hsz, hpos]; simp [Array.range_zero']
            rw [hzz] at hfill
            rw [← hsz] at hfill
            simp [Instr.buildSlice, run_underlying hu, sizeOf, typeInfo, hi, hpos, hps, hfill, newRow, Array.range_zero']
          · refine run_buildSlice wd ty E len' _ (cells q).toArray i zv hu hi hz1 hsmall hpos ?_
            rw [hps, hz2, hsz, hzc]
            exact hfill
        have h2 : (execOp a.eval o).run C.P wd = (Result.ok (.slice (some ⟨wd.heap.size, 0, none⟩) len' len') (wd.alloc (.cells (cells q).toArray E)) : Result Value).andThen fun v w => .ok (.value v) w := by
          simp only [execOp, heq, Sem.run_bind, hr, Result.andThen_ok, Sem.run_pure]
        unfold Oper.wp
        rw [h2, Result.andThen_ok]
        simp only [Oper.upon]
        exact ⟨_, _, h wd.heap.size hw.fr.size, hd1 ▸ ha.put hd2 _, hw.alloc _⟩
      · cases h4
    · cases h1
  · cases ho

theorem okOp_cpy {P : Program} {o : Oper} {w : Nat} {x y : Operand} (h : okOp P o (.cpy w x y) = true) :
    ∃ c ty e, o.op = .call c ∧ c.callee = .builtin .copy ∧ c.args = #[x, y] ∧ c.argTypes[0]? = some ty ∧ P.underlying ty = some (.slice e) ∧ (szOf P e == some w) = true := by
  simp only [okOp] at h
  split at h
  · rename_i c heq
    simp only [Bool.and_eq_true] at h
    obtain ⟨⟨h1, h2⟩, h3⟩ := h
    have hb : c.callee = .builtin .copy := by
      revert h1; cases c.callee <;> simp
      rename_i f; cases f <;> simp
    have hargs : c.args = #[x, y] := Array.ext' (by simpa using oeqL_sound h2)
    split at h3
    · rename_i e he
      cases hT : c.argTypes[0]? with
      | none => rw [hT] at he; simp at he
      | some ty =>
        rw [hT] at he
        exact ⟨c, ty, e, heq, hb, hargs, rfl.trans hT, by simpa using he, h3⟩
    · cases h3
  · cases h

/-- copy, into a block of one's own. -/
theorem ef_cpy {d : Option Nat} {w : Nat} {x y : Operand} {b off dl dc n : Nat} {T : TypeId} {v : Value} {cs : List Value} {segs segs' : List Seg} {m' : List Chunk}
    (hx : ev t x = some (.slice (some ⟨b, off, none⟩) dl dc)) (hy : ev t y = some v) (hs : SrcV C m w v n cs) (hfit : off + dl * w ≤ width segs)
    (hc : cells segs' = splice (cells segs) off (cs.take (Nat.min n dl * w))) (hu : Upd b (.cells (cells segs).toArray T (0, 0)) (.cells (cells segs').toArray T (0, 0)) m m')
    (h : K (match d with | some d => (d, .int .i64 (Nat.min n dl : Nat)) :: t | none => t) m') : EF C m t d (.cpy w x y) K := by
  intro o ho hd a ha wd hw
  obtain ⟨c, ty, e, heq, hcal, hargs, hT, hu', hsz⟩ := okOp_cpy ho
  have hmin : Nat.min n dl ≤ n := Nat.min_le_left _ _
  have hmin' : Nat.min n dl * w ≤ dl * w := Nat.mul_le_mul_right _ (Nat.min_le_right _ _)
  have hmin2 : Nat.min n dl * w ≤ n * w := Nat.mul_le_mul_right _ hmin
  have hup' : Upd b (.cells (cells segs).toArray T (0, 0)) (.cells (splice (cells segs) (off + 0) (cs.take (Nat.min n dl * w))).toArray T (0, 0)) m m' := by rw [Nat.add_zero, ← hc]; exact hu
  obtain ⟨w', hst, hw'⟩ := run_storeCells (P := C.P) (cs.take (Nat.min n dl * w)) off 0 (cells segs) m m' wd hw hup' (by rw [cells_length, List.length_take, hs.nl]; omega) (fun u hu => hs.one u (List.mem_of_mem_take hu))
  have hfc := hs.cells wd hw _ hmin
  have hr : (Builtin.copy_ c.argTypes o.type #[.slice (some ⟨b, off, none⟩) dl dc, v]).run C.P wd = .ok (goInt (Nat.min n dl)) w' := by
    simp [Builtin.copy_, hT, run_underlying hu', hs.len, run_sizeOf hsz, hfc, hst]
  have h2 : (execOp a.eval o).run C.P wd = (Result.ok (goInt (Nat.min n dl)) w' : Result Value).andThen fun v w => .ok (.value v) w := by
    simp only [execOp, heq, resolve, hcal, Sem.run_bind, Sem.run_pure, Result.andThen_ok, invoke, builtin, hargs, List.map_toArray, List.map_cons, List.map_nil, ha.ev hx, ha.ev hy, hr]
  unfold Oper.wp
  rw [h2, Result.andThen_ok]
  simp only [Oper.upon]
  cases d with
  | none =>
    have hd0 : o.dst = none := by
      revert hd; cases o.dst <;> simp [okD]
    rw [hd0]
    exact ⟨_, m', h, ha, hw'⟩
  | some d =>
    obtain ⟨hd1, hd2⟩ := okD_some hd
    rw [hd1]
    exact ⟨_, m', h, ha.put hd2 _, hw'⟩

/-! ### In numbers -/

/-- The first n numbers from place o on. -/
def tk (xs : List Int) (o n : Nat) : List Int := (List.range n).map fun i => xs.getD (o + i) 0
/-- Numbers written from place i on. -/
def wr (xs : List Int) (i : Nat) (ys : List Int) : List Int := tk xs 0 i ++ ys ++ xs.drop (i + ys.length)
theorem tk_length (xs : List Int) (o n : Nat) : (tk xs o n).length = n := by simp [tk]
theorem tk_getD (xs : List Int) (o n i : Nat) : (tk xs o n).getD i 0 = if i < n then xs.getD (o + i) 0 else 0 := by
  unfold tk
  by_cases h : i < n
  · simp [h]
  · simp [h]
theorem tk_all {xs : List Int} {n : Nat} (h : xs.length = n) : tk xs 0 n = xs := by
  subst h
  apply List.ext_getElem?
  intro i
  by_cases hi : i < xs.length
  · simp [tk, hi]
  · rw [List.getElem?_eq_none (by rw [tk_length]; omega), List.getElem?_eq_none (by omega)]
theorem ints_tk (k : IntKind) (n : Nat) (xs : List Int) : intsCells k n xs = (tk xs 0 n).map (.int k) := by simp [intsCells, tk, Function.comp_def]
theorem wr_getD (xs : List Int) (i : Nat) (ys : List Int) (j : Nat) : (wr xs i ys).getD j 0 = if i ≤ j ∧ j < i + ys.length then ys.getD (j - i) 0 else xs.getD j 0 := by
  unfold wr
  rw [List.getD_eq_getElem?_getD, List.append_assoc]
  by_cases h1 : j < i
  · rw [List.getElem?_append_left (by rw [tk_length]; exact h1), if_neg (by omega), ← List.getD_eq_getElem?_getD, tk_getD, if_pos h1, Nat.zero_add]
  · rw [List.getElem?_append_right (by rw [tk_length]; omega), tk_length]
    by_cases h2 : j < i + ys.length
    · rw [List.getElem?_append_left (by omega), if_pos ⟨by omega, h2⟩, List.getD_eq_getElem?_getD]
    · rw [List.getElem?_append_right (by omega), if_neg (by omega), List.getElem?_drop, List.getD_eq_getElem?_getD]
      congr 2; omega
theorem intsGet (k : IntKind) (n : Nat) (xs : List Int) (i : Nat) : (intsCells k n xs)[i]? = if i < n then some (.int k (xs.getD i 0)) else none := by
  by_cases h : i < n
  · simp [intsCells, h]
  · simp [intsCells, h]
theorem splice_get {l p : List Value} {o : Nat} (h : o + p.length ≤ l.length) (j : Nat) : (splice l o p)[j]? = if o ≤ j ∧ j < o + p.length then p[j - o]? else l[j]? := by
  unfold splice
  by_cases h1 : j < o
  · rw [List.getElem?_append_left (by rw [List.length_take]; omega), if_neg (by omega), List.getElem?_take_of_lt h1]
  · rw [List.getElem?_append_right (by rw [List.length_take]; omega), List.length_take, Nat.min_eq_left (by omega)]
    by_cases h2 : j < o + p.length
    · rw [List.getElem?_append_left (by omega), if_pos ⟨by omega, h2⟩]
    · rw [List.getElem?_append_right (by omega), if_neg (by omega), List.getElem?_drop]
      congr 1; omega
theorem wr_cells {k : IntKind} {N i : Nat} {xs ys : List Int} (h : i + ys.length ≤ N) : cells [.ints k N (wr xs i ys)] = splice (cells [.ints k N xs]) i (ys.map (.int k)) := by
  simp only [cells, Seg.cells, List.append_nil]
  apply List.ext_getElem?
  intro j
  rw [splice_get (by rw [List.length_map]; simp [intsCells]; exact h), intsGet, intsGet, List.length_map, wr_getD]
  by_cases h1 : i ≤ j ∧ j < i + ys.length
  · rw [if_pos h1, if_pos (by omega), if_pos h1, List.getElem?_map, List.getD_eq_getElem?_getD, List.getElem?_eq_getElem (by omega)]
    simp
  · rw [if_neg h1, if_neg h1]
theorem grown_cells {k : IntKind} {n0 n N' : Nat} {N off : Nat} {xs ys : List Int} (hn : ys.length = n) (h : n0 + n ≤ N') (ho : off + n0 ≤ N) :
    cells [.ints k N' (tk xs off n0 ++ ys)] = ((cells [.ints k N xs]).drop off).take (n0 * 1) ++ ys.map (.int k) ++ (List.replicate (N' - (n0 + n)) (cells [.one (.int k 0)])).flatten := by
  simp only [cells, Seg.cells, List.append_nil, Nat.mul_one]
  apply List.ext_getElem?
  intro j
  rw [intsGet]
  have hl : (((intsCells k N xs).drop off).take n0).length = n0 := by simp [intsCells]; omega
  rw [List.append_assoc]
  by_cases h1 : j < n0
  · rw [List.getElem?_append_left (by omega), if_pos (by omega), List.getElem?_take_of_lt h1, List.getElem?_drop, intsGet, if_pos (by omega), List.getD_eq_getElem?_getD, List.getElem?_append_left (by rw [tk_length]; exact h1), ← List.getD_eq_getElem?_getD, tk_getD, if_pos h1]
  · rw [List.getElem?_append_right (by omega), hl, List.getD_eq_getElem?_getD, List.getElem?_append_right (by rw [tk_length]; omega), tk_length]
    by_cases h2 : j - n0 < n
    · rw [List.getElem?_append_left (by rw [List.length_map]; omega), if_pos (by omega), List.getElem?_map, List.getElem?_eq_getElem (by omega)]
      rfl
    · rw [List.getElem?_append_right (by rw [List.length_map]; omega), List.getElem?_eq_none (l := ys) (by omega), List.length_map]
      have : (List.replicate (N' - (n0 + n)) [Value.int k 0]).flatten = List.replicate (N' - (n0 + n)) (.int k 0) := by
        generalize N' - (n0 + n) = q
        induction q with
        | zero => rfl
        | succ q ih => rw [List.replicate_succ, List.flatten_cons, ih]; rfl
      rw [this, List.getElem?_replicate]
      by_cases h3 : j < N'
      · rw [if_pos h3, if_pos (by omega)]; rfl
      · rw [if_neg h3, if_neg (by omega)]

theorem EF.less {d : Option Nat} {op : IOp} (h : EF C m t d op (fun t' m' => ∃ m2, K t' m2 ∧ List.Sublist m2 m')) : EF C m t d op K := by
  intro o ho hd a ha w hw
  refine Oper.wp_mono ?_ (h o ho hd a ha w hw)
  rintro a' w' ⟨t', m', ⟨m2, hk, hs⟩, h1, h2⟩
  exact ⟨t', m2, hk, h1, h2.sublist hs⟩

/-- append of numbers; the old block is let go. -/
theorem ef_app_i {d : Nat} {T : TypeId} {bytes : Nat} {k : IntKind} {x y : Operand} {b n0 cp n : Nat} {v : Value} {xs ys : List Int} {m' : List Chunk}
    (hx : ev t x = some (.slice (some ⟨b, 0, none⟩) n0 cp)) (hr : Rem (ck b T [.ints k cp xs]) m m') (hy : ev t y = some v) (hs : SrcV C m 1 v n (ys.map (.int k))) (hn0 : n0 ≤ cp) (hsz : (n0 + n) * bytes ≤ 140737488355328)
    (h : ∀ b' cp' xs', C.W0.heap.size ≤ b' ∨ b' = b → n0 + n ≤ cp' → tk xs' 0 (n0 + n) = tk xs 0 n0 ++ ys → K ((d, .slice (some ⟨b', 0, none⟩) (n0 + n) cp') :: t) (ck b' T [.ints k cp' xs'] :: m')) :
    EF C m t (some d) (.app T 1 bytes [.one (.int k 0)] x y) K := by
  have hlen : ys.length = n := by have := hs.nl; simpa using this
  have hperm := hr.perm
  -- the chunk is first, by order alone
  have key : EF C (ck b T [.ints k cp xs] :: m') t (some d) (.app T 1 bytes [.one (.int k 0)] x y) K := by
    have hs' : SrcV C (ck b T [.ints k cp xs] :: m') 1 v n (ys.map (.int k)) := ⟨hs.len, fun w hw => hs.cells w (hw.perm hperm.symm), hs.nl, hs.one⟩
    refine EF.less ?_
    refine ef_app hx .here hy hs' (by simp [width, Seg.width]) hn0 hsz (fun hroom => ?_) (fun hgrow b' cp' hb' hcp => ?_)
    · refine ⟨[.ints k cp (wr xs n0 ys)], _, ?_, .here, _, h b cp _ (.inr rfl) hroom ?_, List.Sublist.refl _⟩
      · rw [wr_cells (by omega)]; simp
      · apply List.ext_getElem?
        intro i
        by_cases hi : i < n0 + n
        · rw [List.getElem?_eq_getElem (by rw [tk_length]; exact hi), List.getElem?_eq_getElem (by rw [List.length_append, tk_length]; omega)]
          have e1 := tk_getD (wr xs n0 ys) 0 (n0 + n) i
          rw [if_pos hi, Nat.zero_add, wr_getD, List.getD_eq_getElem?_getD, List.getElem?_eq_getElem (by rw [tk_length]; exact hi)] at e1
          simp only [Option.getD_some] at e1
          rw [e1]
          by_cases h2 : i < n0
          · rw [if_neg (by omega), List.getElem_append_left (by rw [tk_length]; exact h2)]
            have e2 := tk_getD xs 0 n0 i
            rw [if_pos h2, Nat.zero_add, List.getD_eq_getElem?_getD, List.getElem?_eq_getElem (by rw [tk_length]; exact h2)] at e2
            simp only [Option.getD_some] at e2
            rw [e2]
          · rw [if_pos ⟨by omega, by omega⟩, List.getElem_append_right (by rw [tk_length]; omega), List.getD_eq_getElem?_getD, List.getElem?_eq_getElem (by omega)]
            simp [tk_length]
        · rw [List.getElem?_eq_none (by rw [tk_length]; omega), List.getElem?_eq_none (by rw [List.length_append, tk_length]; omega)]
    · refine ⟨[.ints k cp' (tk xs 0 n0 ++ ys)], ?_, ?_⟩
      · rw [grown_cells (N := cp) hlen hcp (by omega)]
      · exact ⟨_, h b' cp' (tk xs 0 n0 ++ ys) (.inl hb') hcp (tk_all (by rw [List.length_append, tk_length]; omega)), (List.sublist_cons_self _ _).cons₂ _⟩
  intro o ho hd a ha w hw
  exact key o ho hd a ha w (hw.perm hperm)

theorem tk_cat {xs ys : List Int} {n0 n : Nat} (h : ys.length = n) : tk (tk xs 0 n0 ++ ys) 0 (n0 + n) = tk xs 0 n0 ++ ys := tk_all (by rw [List.length_append, tk_length]; omega)

/-- append of numbers onto nil. -/
theorem ef_app0_i {d : Nat} {T : TypeId} {bytes : Nat} {k : IntKind} {x y : Operand} {n : Nat} {v : Value} {ys : List Int}
    (hx : ev t x = some (.slice none 0 0)) (hy : ev t y = some v) (hs : SrcV C m 1 v n (ys.map (.int k))) (hsz : n * bytes ≤ 140737488355328)
    (h0 : n = 0 → K ((d, .slice none 0 0) :: t) m)
    (h : 0 < n → ∀ b' cp', C.W0.heap.size ≤ b' → n ≤ cp' → K ((d, .slice (some ⟨b', 0, none⟩) n cp') :: t) (ck b' T [.ints k cp' ys] :: m)) :
    EF C m t (some d) (.app T 1 bytes [.one (.int k 0)] x y) K := by
  have hlen : ys.length = n := by have := hs.nl; simpa using this
  refine ef_app0 hx hy hs hsz h0 fun hp b' cp' hb hcp => ⟨[.ints k cp' ys], ?_, h hp b' cp' hb hcp⟩
  have := grown_cells (k := k) (n0 := 0) (n := n) (N' := cp') (N := 0) (off := 0) (xs := []) (ys := ys) hlen (by omega) (by omega)
  simpa [tk, cells, Seg.cells, intsCells] using this

/-! ### In rows -/

theorem rows_len {w n : Nat} {g : Nat → List Value} : (rowsCells w n g).length = n * w := by
  have := cells_length [.rows w n g]
  simpa [cells, Seg.cells, width, Seg.width] using this
theorem rows_get {w n : Nat} {g : Nat → List Value} (hw : 0 < w) {i : Nat} : (rowsCells w n g)[i]? = if i < n * w then (fit w (g (i / w)))[i % w]? else none := by
  by_cases h : i < n * w
  · rw [if_pos h]
    have h1 : i / w < n := Nat.div_lt_of_lt_mul (by rw [Nat.mul_comm]; exact h)
    have := rowsCells_get2 (w := w) (n := n) (g := g) h1 (Nat.mod_lt i hw)
    rw [← this]
    congr 1
    have := Nat.div_add_mod i w
    rw [Nat.mul_comm] at this; omega
  · rw [if_neg h, List.getElem?_eq_none (by rw [rows_len]; omega)]
theorem rows_split {w n m : Nat} {g h : Nat → List Value} (e1 : ∀ i, i < n → h i = g i) : rowsCells w (n + m) h = rowsCells w n g ++ rowsCells w m (fun i => h (n + i)) := by
  unfold rowsCells
  rw [List.range_add, List.flatMap_append, List.flatMap_map]
  congr 1
  rw [← List.flatten_map_eq_flatMap, ← List.flatten_map_eq_flatMap]
  congr 1
  apply List.map_congr_left
  intro i hi
  rw [e1 i (by simpa using hi)]
 where List.flatten_map_eq_flatMap {α β : Type} (l : List α) (f : α → List β) : (l.map f).flatten = l.flatMap f := by rw [List.flatMap_def]
theorem rows_congr {w n : Nat} {g h : Nat → List Value} (e : ∀ i, i < n → h i = g i) : rowsCells w n h = rowsCells w n g := by
  have := rows_split (w := w) (n := n) (m := 0) e
  simpa [rowsCells] using this
theorem rows_take {w n N : Nat} {g : Nat → List Value} (h : n ≤ N) : (rowsCells w N g).take (n * w) = rowsCells w n g := by
  obtain ⟨q, rfl⟩ : ∃ q, N = n + q := ⟨N - n, by omega⟩
  rw [rows_split (g := g) (h := g) (fun _ _ => rfl), List.take_left' rows_len]
theorem rows_drop {w n N : Nat} {g : Nat → List Value} (h : n ≤ N) : (rowsCells w N g).drop (n * w) = rowsCells w (N - n) (fun i => g (n + i)) := by
  obtain ⟨q, rfl⟩ : ∃ q, N = n + q := ⟨N - n, by omega⟩
  rw [rows_split (g := g) (h := g) (fun _ _ => rfl), List.drop_left' rows_len]
  congr 1; omega
theorem rows_const {w n : Nat} {z : List Value} (h : z.length = w) : rowsCells w n (fun _ => z) = (List.replicate n z).flatten := by
  unfold rowsCells
  induction n with
  | zero => rfl
  | succ n ih => rw [List.range_succ_eq_map, List.flatMap_cons, List.flatMap_map, fit_same h, ih, List.replicate_succ, List.flatten_cons]

/-- Rows laid behind the first n0. -/
def rput (g : Nat → List Value) (n0 n : Nat) (h e : Nat → List Value) : Nat → List Value := fun j => if j < n0 then g j else if j < n0 + n then h (j - n0) else e j

/-- append of rows; the old block is let go. -/
theorem ef_app_r {d : Nat} {T : TypeId} {w bytes : Nat} {z : List Seg} {x y : Operand} {b n0 cp n : Nat} {v : Value} {g hh : Nat → List Value} {m' : List Chunk}
    (hx : ev t x = some (.slice (some ⟨b, 0, none⟩) n0 cp)) (hr : Rem (ck b T [.rows w cp g]) m m') (hy : ev t y = some v) (hs : SrcV C m w v n (rowsCells w n hh)) (hz : width z = w) (hn0 : n0 ≤ cp) (hsz : (n0 + n) * bytes ≤ 140737488355328)
    (h : ∀ b' cp' g', C.W0.heap.size ≤ b' ∨ b' = b → n0 + n ≤ cp' → (∀ i, i < n0 → g' i = g i) → (∀ i, i < n → g' (n0 + i) = hh i) → K ((d, .slice (some ⟨b', 0, none⟩) (n0 + n) cp') :: t) (ck b' T [.rows w cp' g'] :: m')) :
    EF C m t (some d) (.app T w bytes z x y) K := by
  have hperm := hr.perm
  have key : EF C (ck b T [.rows w cp g] :: m') t (some d) (.app T w bytes z x y) K := by
    have hs' : SrcV C (ck b T [.rows w cp g] :: m') w v n (rowsCells w n hh) := ⟨hs.len, fun w hw => hs.cells w (hw.perm hperm.symm), hs.nl, hs.one⟩
    refine EF.less ?_
    refine ef_app hx .here hy hs' (by simp [width, Seg.width]) hn0 hsz (fun hroom => ?_) (fun hgrow b' cp' hb' hcp => ?_)
    · refine ⟨[.rows w cp (rput g n0 n hh g)], _, ?_, .here, _, h b cp (rput g n0 n hh g) (.inr rfl) hroom (fun i hi => if_pos hi) (fun i hi => ?_), List.Sublist.refl _⟩
      · simp only [cells, Seg.cells, List.append_nil, Nat.zero_add, splice]
        obtain ⟨q, rfl⟩ : ∃ q, cp = n0 + (n + q) := ⟨cp - n0 - n, by omega⟩
        rw [rows_split (g := g) (h := rput g n0 n hh g) (fun i hi => if_pos hi), rows_take (by omega), rows_len, ← Nat.add_mul, rows_drop (by omega)]
        congr 1
        rw [rows_split (n := n) (m := q) (g := hh) (h := fun i => rput g n0 n hh g (n0 + i)) (fun i hi => by simp only [rput]; rw [if_neg (by omega), if_pos (by omega)]; congr 1; omega)]
        congr 1
        rw [show n0 + (n + q) - (n0 + n) = q by omega]
        refine rows_congr fun i hi => ?_
        simp only [rput]
        rw [if_neg (by omega), if_neg (by omega)]
        congr 1; omega
      · simp only [rput]; rw [if_neg (by omega), if_pos (by omega)]; congr 1; omega
    · refine ⟨[.rows w cp' (rput g n0 n hh fun _ => cells z)], ?_, _, h b' cp' (rput g n0 n hh fun _ => cells z) (.inl hb') hcp (fun i hi => if_pos hi) (fun i hi => ?_), (List.sublist_cons_self _ _).cons₂ _⟩
      · simp only [cells, Seg.cells, List.append_nil, List.drop_zero]
        obtain ⟨q, rfl⟩ : ∃ q, cp' = n0 + (n + q) := ⟨cp' - n0 - n, by omega⟩
        rw [rows_split (g := g) (h := rput g n0 n hh fun _ => cells z) (fun i hi => if_pos hi), rows_take hn0, List.append_assoc]
        congr 1
        rw [rows_split (n := n) (m := q) (g := hh) (h := fun i => rput g n0 n hh (fun _ => cells z) (n0 + i)) (fun i hi => by simp only [rput]; rw [if_neg (by omega), if_pos (by omega)]; congr 1; omega)]
        congr 1
        rw [show n0 + (n + q) - (n0 + n) = q by omega, ← rows_const (w := w) (z := cells z) (by rw [cells_length]; exact hz)]
        refine rows_congr fun i hi => ?_
        simp only [rput]
        rw [if_neg (by omega), if_neg (by omega)]
      · simp only [rput]; rw [if_neg (by omega), if_pos (by omega)]; congr 1; omega
  intro o ho hd a ha w hw
  exact key o ho hd a ha w (hw.perm hperm)

/-- append of rows onto nil. -/
theorem ef_app0_r {d : Nat} {T : TypeId} {w bytes : Nat} {z : List Seg} {x y : Operand} {n : Nat} {v : Value} {hh : Nat → List Value}
    (hx : ev t x = some (.slice none 0 0)) (hy : ev t y = some v) (hs : SrcV C m w v n (rowsCells w n hh)) (hz : width z = w) (hsz : n * bytes ≤ 140737488355328)
    (h0 : n = 0 → K ((d, .slice none 0 0) :: t) m)
    (h : 0 < n → ∀ b' cp' g', C.W0.heap.size ≤ b' → n ≤ cp' → (∀ i, i < n → g' i = hh i) → K ((d, .slice (some ⟨b', 0, none⟩) n cp') :: t) (ck b' T [.rows w cp' g'] :: m)) :
    EF C m t (some d) (.app T w bytes z x y) K := by
  refine ef_app0 hx hy hs hsz h0 fun hp b' cp' hb hcp => ⟨[.rows w cp' (rput hh n 0 hh fun _ => cells z)], ?_, h hp b' cp' (rput hh n 0 hh fun _ => cells z) hb hcp fun i hi => if_pos hi⟩
  simp only [cells, Seg.cells, List.append_nil]
  obtain ⟨q, rfl⟩ : ∃ q, cp' = n + q := ⟨cp' - n, by omega⟩
  rw [rows_split (g := hh) (h := rput hh n 0 hh fun _ => cells z) (fun i hi => if_pos hi)]
  congr 1
  rw [show n + q - n = q by omega, ← rows_const (w := w) (z := cells z) (by rw [cells_length]; exact hz)]
  refine rows_congr fun i hi => ?_
  simp only [rput]
  rw [if_neg (by omega), if_neg (by omega)]
end
end Go.Sx
