/- Texts of a proof, one behind the other: PE12 PE13 PE14 PE15 PE16 PE17 PE18 PE19 PE20 PE21 PE22 PE23 PE24 PE25 PE26 PE27 PS1. -/
import Derived.Test.YtiflckckekjbnaaM1
import Derived.Deep.AppendSrc
import Derived.Laws.MakeOwn
import Derived.Laws.IdiomCopy
import Derived.Great.BuildSlice
import Derived.Laws.Externs
import Derived.RangeFuncLeaves
import Derived.RangeFuncRecord
import Derived.Laws.IdiomStrings
import Derived.Recover
import Derived.RecoverIn
import Derived.DefersIn
import Derived.WalkKit
import Derived.Test.YtiflckckekjbnaaProg
/- The engine, part 12: slices that are made, grown, copied. -/
namespace Go.Sx
open Go Go.RowKit
set_option linter.all false

theorem one1_kit {v : Value} (h : one1 v = true) : v.oneCell' = true := by cases v <;> simp_all [one1, Value.oneCell']

/-- What a slice or a string that is read holds: n elements of 'size' cells. -/
structure SrcV (C : Cfg) (m : List Chunk) (size : Nat) (v : Value) (n : Nat) (cs : List Value) : Prop where
  len : ∀ w : World, (Builtin.lenOf v).run C.P w = .ok n w
  cells : ∀ w, Sat C.W0 C.S m w → ∀ k, k ≤ n → (Builtin.firstCells size k v).run C.P w = .ok (cs.take (k * size)).toArray w
  nl : cs.length = n * size
  one : ∀ u ∈ cs, one1 u = true

section
variable {C : Cfg} {m : List Chunk} {t : TS} {K : KN}

theorem run_first {P : Program} {w : World} {b off size n l c : Nat} {cs : List Value} (hl : cs.length = n * size) (h : ∀ i, i < n * size → w.cell? ⟨b, off + i, none⟩ = cs[i]?) {k : Nat} (hk : k ≤ n) :
    (Builtin.firstCells size k (.slice (some ⟨b, off, none⟩) l c)).run P w = .ok (cs.take (k * size)).toArray w := by
  have hks : k * size ≤ n * size := Nat.mul_le_mul_right _ hk
  refine run_firstCells_some w size k ⟨b, off, none⟩ l c (cs.take (k * size)) (by rw [List.length_take]; omega) fun j v hj => ?_
  have hj' : j < k * size := by
    have := (List.getElem?_eq_some_iff.1 hj).1
    rw [List.length_take] at this; omega
  rw [List.getElem?_take_of_lt hj'] at hj
  rw [Addr.add_lit, h j (by omega)]
  exact hj

theorem src_none {size c : Nat} {a : Option Addr} : SrcV C m size (.slice a 0 c) 0 [] := by
  refine ⟨fun _ => rfl, fun w hw k hk => ?_, by simp, fun _ h => by cases h⟩
  obtain rfl : k = 0 := by omega
  cases a with
  | none => simpa using run_firstCells_none (P := C.P) w size 0 0 c
  | some a => simpa using run_firstCells_some (P := C.P) w size 0 a 0 c [] (by simp) (by simp)
theorem SrcV.kit {size n : Nat} {v : Value} {cs : List Value} {tx : TypeId} (h : SrcV C m size v n cs) (hk : (∃ e', C.P.underlying tx = some (.slice e')) ∨ C.P.underlying tx = some .string) {w : World} (hw : Sat C.W0 C.S m w) :
    Go.Src C.P size tx v n cs w := by
  have e : cs.take (n * size) = cs := List.take_of_length_le (by rw [h.nl]; exact Nat.le_refl _)
  refine ⟨hk, h.len, ?_, ?_, h.nl, fun u hu => one1_kit (h.one u hu)⟩
  · have := h.cells w hw n (Nat.le_refl _); rw [e] at this; exact this
  · have := h.cells w.drew hw.drew n (Nat.le_refl _); rw [e] at this; exact this

theorem Sat.perm {W0 : World} {S : List Nat} {m m' : List Chunk} {w : World} (h : Sat W0 S m w) (hp : List.Perm m' m) : Sat W0 S m' w :=
  ⟨h.fr, fun c hc => h.own c (hp.subset hc), fun c hc => h.base c (hp.subset hc), (hp.map _).nodup_iff.2 h.dist⟩

theorem infoOk_spec {P : Program} {T : TypeId} {w bytes : Nat} (h : infoOk P T w bytes = true) : ∃ i, P.info? T = some i ∧ i.size = w ∧ i.bytes = bytes ∧ 0 < bytes := by
  unfold infoOk at h
  split at h
  · rename_i i hi
    simp only [Bool.and_eq_true, Nat.beq_eq] at h
    exact ⟨i, hi, h.1.1, h.1.2, by have := Nat.lt_of_succ_le (Nat.le_of_ble_eq_true h.2); exact this⟩
  · cases h
theorem zOf_spec {P : Program} {T : TypeId} {i : TypeInfo} (hi : P.info? T = some i) {l : List Value} (h : zOf P T = some l) : ∃ z, i.zero = some z ∧ z.cells = l.toArray := by
  unfold zOf at h
  rw [hi] at h
  simp only [Option.bind_some] at h
  cases hz : i.zero with
  | none => rw [hz] at h; cases h
  | some z =>
    rw [hz] at h
    simp only [Option.map_some, Option.some.injEq] at h
    exact ⟨z, rfl, by rw [← h, Array.toArray_toList]⟩

theorem okOp_app {P : Program} {o : Oper} {T : TypeId} {w bytes : Nat} {z : List Seg} {x y : Operand} (h : okOp P o (.app T w bytes z x y) = true) :
    ∃ c t tx, o.op = .call c ∧ c.callee = .builtin .append ∧ c.args = #[x, y] ∧ c.argTypes[0]? = some t ∧ c.argTypes[1]? = some tx ∧ P.underlying t = some (.slice T) ∧
      ((∃ e', P.underlying tx = some (.slice e')) ∨ P.underlying tx = some .string) ∧ (∃ i zv, P.info? T = some i ∧ i.size = w ∧ i.bytes = bytes ∧ 0 < bytes ∧ i.zero = some zv ∧ zv.cells = (cells z).toArray) ∧ width z = w ∧ 0 < w := by
  simp only [okOp] at h
  split at h
  · rename_i c heq
    simp only [Bool.and_eq_true, Nat.beq_eq] at h
    obtain ⟨⟨⟨⟨⟨⟨⟨h1, h2⟩, h3⟩, h4⟩, h5⟩, h6⟩, h7⟩, h8⟩ := h
    have hb : c.callee = .builtin .append := by
      revert h1; cases c.callee <;> simp
      rename_i f; cases f <;> simp
    have hargs : c.args = #[x, y] := by
      have := oeqL_sound h2
      exact Array.ext' (by simpa using this)
    obtain ⟨i, hi, hs, hby, hpos⟩ := infoOk_spec h5
    cases ht : c.argTypes[0]? with
    | none => rw [ht] at h3; simp at h3
    | some t =>
      rw [ht] at h3
      simp only [Option.bind_some] at h3
      cases htx : c.argTypes[1]? with
      | none => rw [htx] at h4; simp at h4
      | some tx =>
        rw [htx] at h4
        simp only [Option.bind_some] at h4
        have hz : ∃ zv, i.zero = some zv ∧ zv.cells = (cells z).toArray := by
          split at h6
          · rename_i q hq
            obtain ⟨zv, e1, e2⟩ := zOf_spec hi hq
            exact ⟨zv, e1, by rw [e2, veqL_sound h6]⟩
          · cases h6
        obtain ⟨zv, hz1, hz2⟩ := hz
        refine ⟨c, t, tx, heq, hb, hargs, ht, htx, ?_, ?_, ⟨i, zv, hi, hs, hby, hpos, hz1, hz2⟩, h7, by have := Nat.lt_of_succ_le (Nat.le_of_ble_eq_true h8); exact this⟩
        · split at h3
          · rename_i e he; rw [decide_eq_true_eq] at h3; subst h3; exact he
          · cases h3
        · split at h4
          · rename_i e he; exact .inl ⟨e, he⟩
          · rename_i he; exact .inr he
          · cases h4
  · cases h

theorem zeros_rep {z : List Value} (hz : 0 < z.length) : ∀ n : Nat, (Builtin.zeroCells z.toArray n).toList = (List.replicate n z).flatten := by
  intro n
  apply List.ext_getElem?
  intro i
  have hlen : ((List.replicate n z).flatten).length = n * z.length := by simp
  by_cases hi : i < n * z.length
  · have h1 : i % z.length < z.length := Nat.mod_lt _ hz
    have hd : i / z.length < n := Nat.div_lt_of_lt_mul (by rw [Nat.mul_comm]; exact hi)
    have : ∀ (n i : Nat), i < n * z.length → ((List.replicate n z).flatten)[i]? = z[i % z.length]? := by
      intro n
      induction n with
      | zero => intro i hi; simp at hi
      | succ n ih =>
        intro i hi
        rw [List.replicate_succ, List.flatten_cons]
        by_cases h : i < z.length
        · rw [List.getElem?_append_left h, Nat.mod_eq_of_lt h]
        · rw [List.getElem?_append_right (by omega), ih _ (by rw [Nat.succ_mul] at hi; omega)]
          congr 1
          exact (Nat.mod_eq_sub_mod (by omega)).symm
    rw [this n i hi]
    simp [Builtin.zeroCells, hi, h1]
  · have hz2 : ((Builtin.zeroCells z.toArray n).toList).length = n * z.length := by simp [Builtin.zeroCells]
    rw [List.getElem?_eq_none (by rw [hz2]; omega), List.getElem?_eq_none (by rw [hlen]; omega)]

/-- append: onto a slice that is one's own. -/
theorem ef_app {d : Nat} {T T' : TypeId} {w bytes : Nat} {z : List Seg} {x y : Operand} {b off n0 cp n : Nat} {v : Value} {cs : List Value} {segs : List Seg}
    (hx : ev t x = some (.slice (some ⟨b, off, none⟩) n0 cp)) (hb : Has b (.cells (cells segs).toArray T' (0, 0)) m) (hy : ev t y = some v) (hs : SrcV C m w v n cs)
    (hfit : off + cp * w ≤ width segs) (hn0 : n0 ≤ cp) (hsz : (n0 + n) * bytes ≤ 140737488355328)
    (room : n0 + n ≤ cp → ∃ segs' m', cells segs' = splice (cells segs) (off + n0 * w) cs ∧ Upd b (.cells (cells segs).toArray T' (0, 0)) (.cells (cells segs').toArray T' (0, 0)) m m' ∧ K ((d, .slice (some ⟨b, off, none⟩) (n0 + n) cp) :: t) m')
    (grow : cp < n0 + n → ∀ b' cp', C.W0.heap.size ≤ b' → n0 + n ≤ cp' → ∃ segs', cells segs' = ((cells segs).drop off).take (n0 * w) ++ cs ++ (List.replicate (cp' - (n0 + n)) (cells z)).flatten ∧ K ((d, .slice (some ⟨b', 0, none⟩) (n0 + n) cp') :: t) (ck b' T segs' :: m)) :
    EF C m t (some d) (.app T w bytes z x y) K := by
  intro o ho hd a ha wd hw
  obtain ⟨hd1, hd2⟩ := okD_some hd
  obtain ⟨c, ty, tx, heq, hc, hargs, ht, htx, hu, hk, ⟨i, zv, hi, hsz', hby, hpos, hz1, hz2⟩, hwz, hw0⟩ := okOp_app ho
  have hsrc := hs.kit hk hw
  have hmul : (n0 + n) ≤ (n0 + n) * bytes := Nat.le_mul_of_pos_right _ hpos
  have hrun : ∀ {r : Result Value}, (Builtin.append_ c.argTypes o.type #[.slice (some ⟨b, off, none⟩) n0 cp, v]).run C.P wd = r → (execOp a.eval o).run C.P wd = r.andThen fun v w => .ok (.value v) w := by
    intro r hr
    simp only [execOp, heq, resolve, hc, Sem.run_bind, Sem.run_pure, Result.andThen_ok, invoke, builtin, hargs, List.map_toArray, List.map_cons, List.map_nil, ha.ev hx, ha.ev hy, hr]
  have hat : Builtin.append_ c.argTypes o.type #[.slice (some ⟨b, off, none⟩) n0 cp, v] = Builtin.append_ #[ty, tx] o.type #[.slice (some ⟨b, off, none⟩) n0 cp, v] := by
    simp [Builtin.append_, ht, htx]
  by_cases hroom : n0 + n ≤ cp
  · obtain ⟨segs', m', e1, hup, hK⟩ := room hroom
    have hle : n0 * w + n * w ≤ cp * w := by rw [← Nat.add_mul]; exact Nat.mul_le_mul_right _ hroom
    have hup' : Upd b (.cells (cells segs).toArray T' (0, 0)) (.cells (splice (cells segs) (off + n0 * w + 0) cs).toArray T' (0, 0)) m m' := by rw [Nat.add_zero, ← e1]; exact hup
    obtain ⟨w', hst, hw'⟩ := run_storeCells (P := C.P) cs (off + n0 * w) 0 (cells segs) m m' wd hw hup' (by rw [cells_length, hs.nl]; omega) hs.one
    have hr : (Builtin.append_ #[ty, tx] o.type #[.slice (some ⟨b, off, none⟩) n0 cp, v]).run C.P wd = .ok (.slice (some ⟨b, off, none⟩) (n0 + n) cp) w' := by
      subst hsz'
      rcases hsrc.kind with ⟨e', hk'⟩ | hk' <;> simp [Builtin.append_, run_underlying hu, run_underlying hk', sizeOf, typeInfo, hi, hsrc.len, hroom, hsrc.cells, Addr.add_lit, hst]
    rw [← hat] at hr
    have h2 := hrun hr
    unfold Oper.wp
    rw [h2, Result.andThen_ok]
    simp only [Oper.upon]
    exact ⟨_, m', hK, hd1 ▸ ha.put hd2 _, hw'⟩
  · have hg : cp < n0 + n := by omega
    have hold : (Builtin.firstCells i.size n0 (.slice (some ⟨b, off, none⟩) n0 cp)).run C.P wd.drew = .ok (((cells segs).drop off).take (n0 * i.size)).toArray wd.drew := by
      have hle : n0 * w ≤ cp * w := Nat.mul_le_mul_right _ hn0
      have := run_first (P := C.P) (w := wd.drew) (b := b) (off := off) (size := w) (n := n0) (l := n0) (c := cp) (cs := ((cells segs).drop off).take (n0 * w)) (by simp [cells_length]; omega) (fun i hi => by
        rw [cells_load ((show Sat C.W0 C.S m wd.drew from hw.drew).own _ hb.mem), List.getElem?_take_of_lt hi, List.getElem?_drop]) (Nat.le_refl n0)
      rw [hsz', this, List.take_take, Nat.min_self]
    have hfit' : Builtin.nextslicecap (n0 + n) cp * i.bytes ≤ 281474976710656 := by rw [hby]; exact growslice_fits hg hsz
    have hr := run_append_grow_src (P := C.P) wd ty tx o.type T i zv hu hi hz1 (some ⟨b, off, none⟩) n0 cp _ hold v n cs (by rw [hsz']; exact hsrc) hg (by omega) hfit'
    rw [← hat] at hr
    have h2 := hrun hr
    unfold Oper.wp
    rw [h2, Result.andThen_ok]
    simp only [Oper.upon]
    have hge := grownCap_ge wd (n0 + n) cp T
    obtain ⟨segs', e1, hK⟩ := grow hg wd.heap.size (grownCap wd (n0 + n) cp T) hw.fr.size hge
    refine ⟨_, _, hK, hd1 ▸ ha.put hd2 _, ?_⟩
    have ha2 := hw.drew.alloc (.cells ((((cells segs).drop off).take (n0 * i.size) ++ cs).toArray ++ Builtin.zeroCells zv.cells (grownCap wd (n0 + n) cp T - (n0 + n))) T)
    have e2 : ((((cells segs).drop off).take (n0 * i.size) ++ cs).toArray ++ Builtin.zeroCells zv.cells (grownCap wd (n0 + n) cp T - (n0 + n))) = (cells segs').toArray := by
      rw [e1, hsz', hz2]
      apply Array.ext'
      rw [Array.toList_append, zeros_rep (by rw [cells_length, hwz]; exact hw0)]
    rw [e2]
    rw [e2] at ha2
    exact ha2

/-- append: onto nil. -/
theorem ef_app0 {d : Nat} {T : TypeId} {w bytes : Nat} {z : List Seg} {x y : Operand} {n : Nat} {v : Value} {cs : List Value}
    (hx : ev t x = some (.slice none 0 0)) (hy : ev t y = some v) (hs : SrcV C m w v n cs) (hsz : n * bytes ≤ 140737488355328)
    (none_ : n = 0 → K ((d, .slice none 0 0) :: t) m)
    (grow : 0 < n → ∀ b' cp', C.W0.heap.size ≤ b' → n ≤ cp' → ∃ segs', cells segs' = cs ++ (List.replicate (cp' - n) (cells z)).flatten ∧ K ((d, .slice (some ⟨b', 0, none⟩) n cp') :: t) (ck b' T segs' :: m)) :
    EF C m t (some d) (.app T w bytes z x y) K := by
  intro o ho hd a ha wd hw
  obtain ⟨hd1, hd2⟩ := okD_some hd
  obtain ⟨c, ty, tx, heq, hc, hargs, ht, htx, hu, hk, ⟨i, zv, hi, hsz', hby, hpos, hz1, hz2⟩, hwz, hw0⟩ := okOp_app ho
  have hsrc := hs.kit hk hw
  have hmul : n ≤ n * bytes := Nat.le_mul_of_pos_right _ hpos
  have hrun : ∀ {r : Result Value}, (Builtin.append_ c.argTypes o.type #[.slice none 0 0, v]).run C.P wd = r → (execOp a.eval o).run C.P wd = r.andThen fun v w => .ok (.value v) w := by
    intro r hr
    simp only [execOp, heq, resolve, hc, Sem.run_bind, Sem.run_pure, Result.andThen_ok, invoke, builtin, hargs, List.map_toArray, List.map_cons, List.map_nil, ha.ev hx, ha.ev hy, hr]
  have hat : Builtin.append_ c.argTypes o.type #[.slice none 0 0, v] = Builtin.append_ #[ty, tx] o.type #[.slice none 0 0, v] := by
    simp [Builtin.append_, ht, htx]
  by_cases hroom : n = 0
  · have hK := none_ hroom
    have hr : (Builtin.append_ #[ty, tx] o.type #[.slice none 0 0, v]).run C.P wd = .ok (.slice none 0 0) wd := by
      subst hsz'
      subst hroom
      rcases hsrc.kind with ⟨e', hk'⟩ | hk' <;> simp [Builtin.append_, run_underlying hu, run_underlying hk', sizeOf, typeInfo, hi, hsrc.len, hsrc.cells]
    rw [← hat] at hr
    have h2 := hrun hr
    unfold Oper.wp
    rw [h2, Result.andThen_ok]
    simp only [Oper.upon]
    exact ⟨_, m, hK, hd1 ▸ ha.put hd2 _, hw⟩
  · have hg : 0 < 0 + n := by omega
    have hold : (Builtin.firstCells i.size 0 (.slice none 0 0)).run C.P wd.drew = .ok ([] : List Value).toArray wd.drew := by simpa using run_firstCells_none (P := C.P) wd.drew i.size 0 0 0
    have hfit' : Builtin.nextslicecap (0 + n) 0 * i.bytes ≤ 281474976710656 := by rw [hby]; exact growslice_fits hg (by simpa using hsz)
    have hr := run_append_grow_src (P := C.P) wd ty tx o.type T i zv hu hi hz1 none 0 0 _ hold v n cs (by rw [hsz']; exact hsrc) hg (by omega) hfit'
    simp only [Nat.zero_add, List.nil_append] at hr
    rw [← hat] at hr
    have h2 := hrun hr
    unfold Oper.wp
    rw [h2, Result.andThen_ok]
    simp only [Oper.upon]
    have hge := grownCap_ge wd n 0 T
    obtain ⟨segs', e1, hK⟩ := grow (by omega) wd.heap.size (grownCap wd n 0 T) hw.fr.size hge
    refine ⟨_, _, hK, hd1 ▸ ha.put hd2 _, ?_⟩
    have ha2 := hw.drew.alloc (.cells (cs.toArray ++ Builtin.zeroCells zv.cells (grownCap wd n 0 T - n)) T)
    have e2 : (cs.toArray ++ Builtin.zeroCells zv.cells (grownCap wd n 0 T - n)) = (cells segs').toArray := by
      rw [e1, hz2]
      apply Array.ext'
      rw [Array.toList_append, zeros_rep (by rw [cells_length, hwz]; exact hw0)]
    rw [e2]
    rw [e2] at ha2
    exact ha2
end
end Go.Sx
/- The engine, part 13: make, slice literals, copy; append in numbers and in rows. -/
namespace Go.Sx
open Go Go.RowKit
set_option linter.all false

section
variable {C : Cfg} {m : List Chunk} {t : TS} {K : KN}

theorem fillS_ok {a : Act} {n w : Nat} (ha : SatT n t a) : ∀ {z q : List Seg} {parts : List (Nat × Nat × Operand)} {ps : List (Nat × Operand)}, BdR t z parts q → partsOk w ps parts = true →
    Instr.fill (fun i => some (i * w, w)) (cells z).toArray (ps.map fun p => (p.1, a.eval p.2)) = some (cells q).toArray
  | z, _, [], ps, .nil, hp => by
    cases ps with
    | nil => rfl
    | cons p ps => obtain ⟨i, x⟩ := p; simp [partsOk] at hp
  | z, q, (off, n1, x) :: r, ps, hb, hp => by
    cases ps with
    | nil => simp [partsOk] at hp
    | cons p ps =>
      obtain ⟨i, y⟩ := p
      simp only [partsOk, Bool.and_eq_true, Nat.beq_eq] at hp
      obtain ⟨⟨⟨h0, h1⟩, h2⟩, h3⟩ := hp
      have e := oeq_sound h2; subst e
      subst h0
      subst h1
      cases hb with
      | one hx hv hput hr =>
        rename_i z' v
        obtain ⟨e1, e2, e3⟩ := putC_cells hput
        have hcs : (a.eval y).cells = #[v] := by rw [ha.ev hx]; exact hv
        simp only [List.map_cons, Instr.fill, hcs]
        rw [if_neg (by simp [cells_length] at e3 ⊢; omega)]
        have := foldl_splice (i * 1) [v] 0 (cells z) (by rw [cells_length]; simp; omega)
        have e4 : ((#[v] : Array Value).zipIdx.foldl (fun (cs : Array Value) (p : Value × Nat) => cs.setIfInBounds (i * 1 + p.2) p.1) (cells z).toArray) = (cells z').toArray := by
          rw [e1, set_splice (by rw [cells_length]; exact e3)]
          simpa using this
        rw [e4]
        exact fillS_ok ha hr h3
      | agg hx hw hput hr =>
        rename_i z' p
        obtain ⟨e1, e2, e3⟩ := putL_cells hput
        have hcs : (a.eval y).cells = (cells p).toArray := by rw [ha.ev hx]; rfl
        simp only [List.map_cons, Instr.fill, hcs]
        rw [if_neg (by simp [cells_length]; omega)]
        have e4 : ((cells p).toArray.zipIdx.foldl (fun (cs : Array Value) (q : Value × Nat) => cs.setIfInBounds (i * n1 + q.2) q.1) (cells z).toArray) = (cells z').toArray := by
          rw [← Array.foldl_toList, e1]
          have := foldl_splice (i * n1) (cells p) 0 (cells z) (by rw [cells_length, cells_length]; omega)
          simpa using this
        rw [e4]
        exact fillS_ok ha hr h3

/-- A slice literal. -/
theorem ef_bs {d : Nat} {T : TypeId} {len w : Nat} {z q : List Seg} {parts : List (Nat × Nat × Operand)} (hb : BdR t z parts q)
    (h : ∀ b, C.W0.heap.size ≤ b → K ((d, .slice (some ⟨b, 0, none⟩) len len) :: t) (ck b T q :: m)) : EF C m t (some d) (.bs T len w z parts) K := by
  intro o ho hd a ha wd hw
  obtain ⟨hd1, hd2⟩ := okD_some hd
  simp only [okOp] at ho
  split at ho
  · rename_i ty len' ps heq
    simp only [Bool.and_eq_true, Nat.beq_eq] at ho
    obtain ⟨⟨⟨⟨⟨h1, h2⟩, h3⟩, h4⟩, h5⟩, h6⟩ := ho
    subst h2
    split at h1
    · rename_i E hu
      rw [decide_eq_true_eq] at h1; subst h1
      split at h4
      · rename_i q0 hq
        obtain ⟨i, hi, hsz⟩ := szOf_info h3
        obtain ⟨zv, hz1, hz2⟩ := zOf_spec hi hq
        have hsmall : ¬ len' * i.size > 2 ^ 24 := by
          have := Nat.le_of_ble_eq_true h6
          rw [hsz]; omega
        have hzc : ((Array.range (len' * w)).map fun j => q0.toArray[j % q0.toArray.size]!) = (cells z).toArray := by
          have := veqL_sound h4
          rw [← this, Array.toArray_toList]
        have hfill := fillS_ok (w := w) ha hb h5
        have hps' : (ps.map fun (x : Nat × Operand) => match x with | (i, x) => (i, a.eval x)) = (ps.map fun p => (p.1, a.eval p.2)) := rfl
        have hps : (ps.map fun p => (p.1, a.eval p.2)).toList = ps.toList.map fun p => (p.1, a.eval p.2) := by simp
        have hr : (Instr.buildSlice ty len' (ps.map fun (x : Nat × Operand) => match x with | (i, x) => (i, a.eval x))).run C.P wd = .ok (.slice (some ⟨wd.heap.size, 0, none⟩) len' len') (wd.alloc (.cells (cells q).toArray E)) := by
          rw [hps']
          by_cases hpos : len' * i.size = 0
          · have hzz : (cells z).toArray = #[] := by rw [← hzc, ← hsz, hpos]; simp [Array.range_zero']
            rw [hzz] at hfill
            rw [← hsz] at hfill
            simp [Instr.buildSlice, run_underlying hu, sizeOf, typeInfo, hi, hpos, hps, hfill, newRow, Array.range_zero']
          · refine run_buildSlice wd ty E len' _ (cells q).toArray i zv hu hi hz1 hsmall hpos ?_
            rw [hps, hz2, hsz, hzc]
            exact hfill
        have h2 : (execOp a.eval o).run C.P wd = (Result.ok (.slice (some ⟨wd.heap.size, 0, none⟩) len' len') (wd.alloc (.cells (cells q).toArray E)) : Result Value).andThen fun v w => .ok (.value v) w := by
          simp only [execOp, heq, Sem.run_bind, hr, Result.andThen_ok, Sem.run_pure]
        unfold Oper.wp
        rw [h2, Result.andThen_ok]
        simp only [Oper.upon]
        exact ⟨_, _, h wd.heap.size hw.fr.size, hd1 ▸ ha.put hd2 _, hw.alloc _⟩
      · cases h4
    · cases h1
  · cases ho

theorem okOp_cpy {P : Program} {o : Oper} {w : Nat} {x y : Operand} (h : okOp P o (.cpy w x y) = true) :
    ∃ c ty e, o.op = .call c ∧ c.callee = .builtin .copy ∧ c.args = #[x, y] ∧ c.argTypes[0]? = some ty ∧ P.underlying ty = some (.slice e) ∧ (szOf P e == some w) = true := by
  simp only [okOp] at h
  split at h
  · rename_i c heq
    simp only [Bool.and_eq_true] at h
    obtain ⟨⟨h1, h2⟩, h3⟩ := h
    have hb : c.callee = .builtin .copy := by
      revert h1; cases c.callee <;> simp
      rename_i f; cases f <;> simp
    have hargs : c.args = #[x, y] := Array.ext' (by simpa using oeqL_sound h2)
    split at h3
    · rename_i e he
      cases hT : c.argTypes[0]? with
      | none => rw [hT] at he; simp at he
      | some ty =>
        rw [hT] at he
        exact ⟨c, ty, e, heq, hb, hargs, rfl.trans hT, by simpa using he, h3⟩
    · cases h3
  · cases h

/-- copy, into a block of one's own. -/
theorem ef_cpy {d : Option Nat} {w : Nat} {x y : Operand} {b off dl dc n : Nat} {T : TypeId} {v : Value} {cs : List Value} {segs segs' : List Seg} {m' : List Chunk}
    (hx : ev t x = some (.slice (some ⟨b, off, none⟩) dl dc)) (hy : ev t y = some v) (hs : SrcV C m w v n cs) (hfit : off + dl * w ≤ width segs)
    (hc : cells segs' = splice (cells segs) off (cs.take (Nat.min n dl * w))) (hu : Upd b (.cells (cells segs).toArray T (0, 0)) (.cells (cells segs').toArray T (0, 0)) m m')
    (h : K (match d with | some d => (d, .int .i64 (Nat.min n dl : Nat)) :: t | none => t) m') : EF C m t d (.cpy w x y) K := by
  intro o ho hd a ha wd hw
  obtain ⟨c, ty, e, heq, hcal, hargs, hT, hu', hsz⟩ := okOp_cpy ho
  have hmin : Nat.min n dl ≤ n := Nat.min_le_left _ _
  have hmin' : Nat.min n dl * w ≤ dl * w := Nat.mul_le_mul_right _ (Nat.min_le_right _ _)
  have hmin2 : Nat.min n dl * w ≤ n * w := Nat.mul_le_mul_right _ hmin
  have hup' : Upd b (.cells (cells segs).toArray T (0, 0)) (.cells (splice (cells segs) (off + 0) (cs.take (Nat.min n dl * w))).toArray T (0, 0)) m m' := by rw [Nat.add_zero, ← hc]; exact hu
  obtain ⟨w', hst, hw'⟩ := run_storeCells (P := C.P) (cs.take (Nat.min n dl * w)) off 0 (cells segs) m m' wd hw hup' (by rw [cells_length, List.length_take, hs.nl]; omega) (fun u hu => hs.one u (List.mem_of_mem_take hu))
  have hfc := hs.cells wd hw _ hmin
  have hr : (Builtin.copy_ c.argTypes o.type #[.slice (some ⟨b, off, none⟩) dl dc, v]).run C.P wd = .ok (goInt (Nat.min n dl)) w' := by
    simp [Builtin.copy_, hT, run_underlying hu', hs.len, run_sizeOf hsz, hfc, hst]
  have h2 : (execOp a.eval o).run C.P wd = (Result.ok (goInt (Nat.min n dl)) w' : Result Value).andThen fun v w => .ok (.value v) w := by
    simp only [execOp, heq, resolve, hcal, Sem.run_bind, Sem.run_pure, Result.andThen_ok, invoke, builtin, hargs, List.map_toArray, List.map_cons, List.map_nil, ha.ev hx, ha.ev hy, hr]
  unfold Oper.wp
  rw [h2, Result.andThen_ok]
  simp only [Oper.upon]
  cases d with
  | none =>
    have hd0 : o.dst = none := by
      revert hd; cases o.dst <;> simp [okD]
    rw [hd0]
    exact ⟨_, m', h, ha, hw'⟩
  | some d =>
    obtain ⟨hd1, hd2⟩ := okD_some hd
    rw [hd1]
    exact ⟨_, m', h, ha.put hd2 _, hw'⟩

/-! ### In numbers -/

/-- The first n numbers from place o on. -/
def tk (xs : List Int) (o n : Nat) : List Int := (List.range n).map fun i => xs.getD (o + i) 0
/-- Numbers written from place i on. -/
def wr (xs : List Int) (i : Nat) (ys : List Int) : List Int := tk xs 0 i ++ ys ++ xs.drop (i + ys.length)
theorem tk_length (xs : List Int) (o n : Nat) : (tk xs o n).length = n := by simp [tk]
theorem tk_getD (xs : List Int) (o n i : Nat) : (tk xs o n).getD i 0 = if i < n then xs.getD (o + i) 0 else 0 := by
  unfold tk
  by_cases h : i < n
  · simp [h]
  · simp [h]
theorem ints_tk (k : IntKind) (n : Nat) (xs : List Int) : intsCells k n xs = (tk xs 0 n).map (.int k) := by simp [intsCells, tk, Function.comp_def]
theorem wr_getD (xs : List Int) (i : Nat) (ys : List Int) (j : Nat) : (wr xs i ys).getD j 0 = if i ≤ j ∧ j < i + ys.length then ys.getD (j - i) 0 else xs.getD j 0 := by
  unfold wr
  rw [List.getD_eq_getElem?_getD, List.append_assoc]
  by_cases h1 : j < i
  · rw [List.getElem?_append_left (by rw [tk_length]; exact h1), if_neg (by omega), ← List.getD_eq_getElem?_getD, tk_getD, if_pos h1, Nat.zero_add]
  · rw [List.getElem?_append_right (by rw [tk_length]; omega), tk_length]
    by_cases h2 : j < i + ys.length
    · rw [List.getElem?_append_left (by omega), if_pos ⟨by omega, h2⟩, List.getD_eq_getElem?_getD]
    · rw [List.getElem?_append_right (by omega), if_neg (by omega), List.getElem?_drop, List.getD_eq_getElem?_getD]
      congr 2; omega
theorem intsGet (k : IntKind) (n : Nat) (xs : List Int) (i : Nat) : (intsCells k n xs)[i]? = if i < n then some (.int k (xs.getD i 0)) else none := by
  by_cases h : i < n
  · simp [intsCells, h]
  · simp [intsCells, h]
theorem splice_get {l p : List Value} {o : Nat} (h : o + p.length ≤ l.length) (j : Nat) : (splice l o p)[j]? = if o ≤ j ∧ j < o + p.length then p[j - o]? else l[j]? := by
  unfold splice
  by_cases h1 : j < o
  · rw [List.getElem?_append_left (by rw [List.length_take]; omega), if_neg (by omega), List.getElem?_take_of_lt h1]
  · rw [List.getElem?_append_right (by rw [List.length_take]; omega), List.length_take, Nat.min_eq_left (by omega)]
    by_cases h2 : j < o + p.length
    · rw [List.getElem?_append_left (by omega), if_pos ⟨by omega, h2⟩]
    · rw [List.getElem?_append_right (by omega), if_neg (by omega), List.getElem?_drop]
      congr 1; omega
theorem wr_cells {k : IntKind} {N i : Nat} {xs ys : List Int} (h : i + ys.length ≤ N) : cells [.ints k N (wr xs i ys)] = splice (cells [.ints k N xs]) i (ys.map (.int k)) := by
  simp only [cells, Seg.cells, List.append_nil]
  apply List.ext_getElem?
  intro j
  rw [splice_get (by rw [List.length_map]; simp [intsCells]; exact h), intsGet, intsGet, List.length_map, wr_getD]
  by_cases h1 : i ≤ j ∧ j < i + ys.length
  · rw [if_pos h1, if_pos (by omega), if_pos h1, List.getElem?_map, List.getD_eq_getElem?_getD, List.getElem?_eq_getElem (by omega)]
    simp
  · rw [if_neg h1, if_neg h1]
theorem EF.less {d : Option Nat} {op : IOp} (h : EF C m t d op (fun t' m' => ∃ m2, K t' m2 ∧ List.Sublist m2 m')) : EF C m t d op K := by
  intro o ho hd a ha w hw
  refine Oper.wp_mono ?_ (h o ho hd a ha w hw)
  rintro a' w' ⟨t', m', ⟨m2, hk, hs⟩, h1, h2⟩
  exact ⟨t', m2, hk, h1, h2.sublist hs⟩

end
end Go.Sx
/- The engine, part 14: functions that hand out memory, or write what they are handed. -/
namespace Go.Sx
open Go Go.RowKit
set_option linter.all false

/-- A result, where it is kept. -/
def putT : Option Nat → Value → TS → TS
  | some d, v, t => (d, v) :: t
  | none, _, t => t

/-- The function returns a value; behind it the blocks of S are what m' says, with new ones; all else is as it was. -/
def retM (W0 : World) (S : List Nat) (R : Value → List Chunk → Prop) : Ending → World → Prop := fun e w' => ∃ v m, e = .returned v ∧ R v m ∧ Sat W0 S m w'

theorem sat_own {W0 : World} {S : List Nat} {m : List Chunk} {w : World} (h : Sat W0 S m w) {mS mr : List Chunk} (hp : List.Perm (mS ++ mr) m) : Sat w (mS.map (·.b)) mS w := by
  have h' := h.perm hp
  refine ⟨⟨rfl, rfl, rfl, Nat.le_refl _, fun _ _ _ => rfl⟩, fun c hc => h'.own c (List.mem_append_left _ hc), fun c hc => .inr (List.mem_map.2 ⟨c, hc, rfl⟩), ?_⟩
  have := h'.dist
  rw [List.map_append, List.nodup_append] at this
  exact this.1

theorem sat_behind {W0 : World} {S : List Nat} {m : List Chunk} {w w' : World} (h : Sat W0 S m w) {mS mr m' : List Chunk} (hp : List.Perm (mS ++ mr) m) (h' : Sat w (mS.map (·.b)) m' w') : Sat W0 S (m' ++ mr) w' := by
  have hh := h.perm hp
  have hd := hh.dist
  rw [List.map_append, List.nodup_append] at hd
  have hbase : ∀ c ∈ mS, W0.heap.size ≤ c.b ∨ c.b ∈ S := fun c hc => hh.base c (List.mem_append_left _ hc)
  have hr : ∀ c ∈ mr, c.b < w.heap.size ∧ c.b ∉ mS.map (·.b) := fun c hc => ⟨hh.lt (List.mem_append_right _ hc), fun hm => hd.2.2 _ hm _ (List.mem_map.2 ⟨c, hc, rfl⟩) rfl⟩
  refine ⟨⟨h'.fr.os.trans h.fr.os, h'.fr.tape.trans h.fr.tape, h'.fr.output.trans h.fr.output, Nat.le_trans h.fr.size h'.fr.size, fun k hk hS => ?_⟩, ?_, ?_, ?_⟩
  · rw [h'.fr.block k (Nat.lt_of_lt_of_le hk h.fr.size) ?_]
    · exact h.fr.block k hk hS
    · intro hm
      obtain ⟨c, hc, rfl⟩ := List.mem_map.1 hm
      rcases hbase c hc with h1 | h1
      · omega
      · exact hS h1
  · intro c hc
    rcases List.mem_append.1 hc with hc | hc
    · exact h'.own c hc
    · rw [h'.fr.block c.b (hr c hc).1 (hr c hc).2]
      exact hh.own c (List.mem_append_right _ hc)
  · intro c hc
    rcases List.mem_append.1 hc with hc | hc
    · rcases h'.base c hc with h1 | h1
      · exact .inl (Nat.le_trans h.fr.size h1)
      · obtain ⟨c', hc', e⟩ := List.mem_map.1 h1
        rw [← e]; exact hbase c' hc'
    · exact hh.base c (List.mem_append_right _ hc)
  · rw [List.map_append, List.nodup_append]
    refine ⟨h'.dist, hd.2.1, ?_⟩
    intro a ha b hb e
    subst e
    obtain ⟨c, hc, rfl⟩ := List.mem_map.1 ha
    obtain ⟨c2, hc2, e2⟩ := List.mem_map.1 hb
    have := hr c2 hc2
    rw [e2] at this
    rcases h'.base c hc with h1 | h1
    · omega
    · exact this.2 h1

section
variable {C : Cfg} {m : List Chunk} {t : TS} {K : KN}

/-- A call of a function that is handed the blocks 'mS' to write, and may hand out new ones. -/
theorem ef_callM {d : Option Nat} {f : FuncId} {args : List Operand} {vs : List Value} {mS mr : List Chunk} {R : Value → List Chunk → Prop} (ha : evL t args = some vs) (hp : List.Perm (mS ++ mr) m)
    (hc : ∀ w, Sat C.W0 C.S m w → Calls C.P f vs.toArray w (retM w (mS.map (·.b)) R))
    (h : ∀ v m', R v m' → K (putT d v t) (m' ++ mr)) : EF C m t d (.call f args) K := by
  intro o ho hd a hat w hw
  unfold Oper.wp
  rw [run_call ho, hat.evL ha]
  simp only [Oper.upon]
  refine (hc w hw).mono ?_
  rintro e w' ⟨v, m', rfl, hR, hs⟩
  have hsat := sat_behind hw hp hs
  cases d with
  | none =>
    have hd0 : o.dst = none := by revert hd; cases o.dst <;> simp [okD]
    rw [hd0]
    exact ⟨_, _, h v m' hR, hat, hsat⟩
  | some d =>
    obtain ⟨hd1, hd2⟩ := okD_some hd
    rw [hd1]
    exact ⟨_, _, h v m' hR, hat.put hd2 v, hsat⟩
/-- A call of a function that hands out new memory. -/
theorem ef_callF {d : Option Nat} {f : FuncId} {args : List Operand} {vs : List Value} {R : Value → List Chunk → Prop} (ha : evL t args = some vs)
    (hc : ∀ w, Sat C.W0 C.S m w → Calls C.P f vs.toArray w (retM w [] R))
    (h : ∀ v m', R v m' → K (putT d v t) (m' ++ m)) : EF C m t d (.call f args) K :=
  ef_callM (mS := []) ha (List.Perm.refl _) hc h
end
end Go.Sx
/- The engine, part 15: short rules for memory. -/
namespace Go.Sx
open Go Go.RowKit
set_option linter.all false

section
variable {C : Cfg} {m : List Chunk} {t : TS} {K : KN}

theorem src_of {size : Nat} {b off n c : Nat} {cs : List Value} (hl : cs.length = n * size) (h1 : ∀ u ∈ cs, one1 u = true)
    (h : ∀ w, Sat C.W0 C.S m w → ∀ i, i < n * size → w.cell? ⟨b, off + i, none⟩ = cs[i]?) : SrcV C m size (.slice (some ⟨b, off, none⟩) n c) n cs :=
  ⟨fun _ => rfl, fun w hw k hk => run_first hl (h w hw) hk, hl, h1⟩
theorem one_rows {w n : Nat} {g : Nat → List Value} (h : ∀ i, i < n → (g i).length = w ∧ ∀ u ∈ g i, one1 u = true) : ∀ u ∈ rowsCells w n g, one1 u = true := by
  intro u hu
  unfold rowsCells at hu
  obtain ⟨i, hi, hu⟩ := List.mem_flatMap.1 hu
  obtain ⟨h1, h2⟩ := h i (by simpa using hi)
  rw [fit_same h1] at hu
  exact h2 u hu
/-- Equality of two runs of numbers. -/
def ieq (n : Nat) (a b : List Int) : Bool := decide (tk a 0 n = tk b 0 n)
theorem ieq_cells {k : IntKind} {n : Nat} {a b : List Int} : ieq n a b = true ↔ cells [.ints k n a] = cells [.ints k n b] := by
  simp only [ieq, decide_eq_true_eq, cells, Seg.cells, List.append_nil, ints_tk]
  constructor
  · intro h; rw [h]
  · intro h
    refine List.map_inj_right (f := Value.int k) (fun x y e => ?_) |>.1 h
    cases e; rfl

end
end Go.Sx
/- The engine, part 16: mirrors: functions over plain data; the rules that tie them to the code. -/
namespace Go.Sx
open Go Go.RowKit
set_option linter.all false

/-! ## The words of a mirror -/
section
variable {α β : Type} {r : β} {G : Prop}
def bnd (x : α) (f : α → Option β) : Option β := f x
def chk (c : Bool) (o : Option β) : Option β := bif c then o else none
def opt (o : Option α) (f : α → Option β) : Option β := o.bind f
def jn {K : Type} (k : K) (g : K → Option β) : Option β := g k
def br (c : Bool) (a b : Option β) : Option β := bif c then a else b
/-- Rounds enough for whatever loop ends. -/
@[irreducible] def big : Nat := 18446744073709551616
theorem big_eq : big = 18446744073709551616 := by unfold big; rfl

theorem bnd_i {x : α} {f : α → Option β} (h : ∀ z, z = x → f z = some r → G) : bnd x f = some r → G := fun e => h x rfl e
theorem chk_i {c : Bool} {o : Option β} (h : c = true → o = some r → G) : chk c o = some r → G := by
  intro e; cases c
  · simp [chk] at e
  · exact h rfl e
theorem opt_i {o : Option α} {f : α → Option β} (h : ∀ y, o = some y → f y = some r → G) : opt o f = some r → G := by
  intro e; cases o with
  | none => simp [opt] at e
  | some y => exact h y rfl e
theorem jn_i {K : Type} {k : K} {g : K → Option β} (h : ∀ k', k' = k → g k' = some r → G) : jn k g = some r → G := fun e => h k rfl e
theorem br_t {c : Bool} {a b : Option β} (h : br c a b = some r) (hc : c = true) : a = some r := by subst hc; exact h
theorem br_f {c : Bool} {a b : Option β} (h : br c a b = some r) (hc : c = false) : b = some r := by subst hc; exact h
theorem ret_i {a : β} (h : a = r → G) : some a = some r → G := fun e => h (Option.some.inj e)
theorem none_i : (none : Option β) = some r → G := fun e => by cases e
end
def inB (z : Int) (n : Nat) : Bool := decide (0 ≤ z) && decide (z < n)
theorem inB_z {z : Int} {n : Nat} (h : inB z n = true) : 0 ≤ z ∧ z < n := by simpa [inB] using h
theorem inB_n {z : Int} {n : Nat} (h : inB z n = true) : z.toNat < n := by have := inB_z h; omega
def imp (a b : Bool) : Bool := !a || b
theorem imp_t {a b : Bool} (h : imp a b = true) (ha : a = true) : b = true := by subst ha; simpa [imp] using h
theorem imp_f {a b : Bool} (h : imp (!a) b = true) (ha : a = false) : b = true := by subst ha; simpa [imp] using h
theorem and_l {a b : Bool} (h : (a && b) = true) : a = true := by simp at h; exact h.1
theorem and_r {a b : Bool} (h : (a && b) = true) : b = true := by simp at h; exact h.2
/-- Bounds of a slicing. -/
def cutB (lo hi : Int) (n : Nat) : Bool := decide (0 ≤ lo) && decide (lo ≤ hi) && decide (hi ≤ n)
theorem cutB_z {lo hi : Int} {n : Nat} (h : cutB lo hi n = true) : 0 ≤ lo ∧ lo ≤ hi ∧ hi ≤ n := by simp [cutB] at h; omega
abbrev shrV (k : IntKind) (p q : Int) : Int := p.fdiv (2 ^ min q.toNat k.bits)
abbrev shlV (k : IntKind) (p q : Int) : Int := k.wrap (p * 2 ^ min q.toNat k.bits)
def setG {α : Type} (z : α) (xs : List α) (i : Nat) (v : α) : List α := if i < xs.length then xs.set i v else xs ++ (List.replicate (i - xs.length) z ++ [v])
theorem getD_setG {α : Type} (z : α) (xs : List α) (i j : Nat) (v : α) : (setG z xs i v).getD j z = if j = i then v else xs.getD j z := by
  unfold setG
  by_cases h : i < xs.length
  · rw [if_pos h]
    by_cases hj : j = i
    · subst hj; simp [List.getD, h]
    · simp [List.getD, List.getElem?_set, hj, Ne.symm hj]
  · rw [if_neg h]
    simp only [List.getD]
    by_cases hj : j < xs.length
    · rw [List.getElem?_append_left hj, if_neg (by omega)]
    · rw [List.getElem?_append_right (by omega)]
      by_cases hji : j = i
      · subst hji; rw [List.getElem?_append_right (by simp)]; simp
      · rw [if_neg hji, List.getElem?_eq_none (l := xs) (by omega)]
        by_cases hlt : j < i
        · rw [List.getElem?_append_left (by simp; omega), List.getElem?_replicate]; split <;> rfl
        · rw [List.getElem?_eq_none (by simp; omega)]
theorem setG_eq {α : Type} {z : α} {xs : List α} {i : Nat} {v : α} (h : i < xs.length) : setG z xs i v = xs.set i v := if_pos h

/-! ## Parts of the memory that are told by names -/

inductive Take (ms : List Chunk) : List Chunk → List Chunk → Prop
  | here {m : List Chunk} : Take ms (ms ++ m) m
  | there {c : Chunk} {m m' : List Chunk} : Take ms m m' → Take ms (c :: m) (c :: m')
  | app {ns m m' : List Chunk} : Take ms m m' → Take ms (ns ++ m) (ns ++ m')
inductive Take1 (c : Chunk) : List Chunk → List Chunk → Prop
  | here {m : List Chunk} : Take1 c (c :: m) m
  | there {c' : Chunk} {m m' : List Chunk} : Take1 c m m' → Take1 c (c' :: m) (c' :: m')
  | app {ns m m' : List Chunk} : Take1 c m m' → Take1 c (ns ++ m) (ns ++ m')
theorem perm_mid (ms ns m : List Chunk) : List.Perm (ms ++ (ns ++ m)) (ns ++ (ms ++ m)) := by
  rw [← List.append_assoc, ← List.append_assoc]
  exact List.Perm.append_right m List.perm_append_comm
theorem Take.perm {ms m m' : List Chunk} (h : Take ms m m') : List.Perm (ms ++ m') m := by
  induction h with
  | here => exact List.Perm.refl _
  | there _ ih => exact List.perm_middle.trans (ih.cons _)
  | app _ ih => exact (perm_mid _ _ _).trans (List.Perm.append_left _ ih)
theorem Take1.perm {c : Chunk} {m m' : List Chunk} (h : Take1 c m m') : List.Perm (c :: m') m := by
  induction h with
  | here => exact List.Perm.refl _
  | there _ ih => exact (List.Perm.swap _ _ _).trans (ih.cons _)
  | app _ ih => exact (List.perm_middle.symm).trans (List.Perm.append_left _ ih)
/-- M's parts are all among m's. -/
inductive PSub : List Chunk → List Chunk → Prop
  | nil {m : List Chunk} : PSub [] m
  | all {ms M m m1 : List Chunk} : Take ms m m1 → PSub M m1 → PSub (ms ++ M) m
  | one {c : Chunk} {M m m1 : List Chunk} : Take1 c m m1 → PSub M m1 → PSub (c :: M) m
  | no {M m : List Chunk} : PSub M m → PSub ([] ++ M) m
theorem PSub.rest {M m : List Chunk} (h : PSub M m) : ∃ r, List.Perm (M ++ r) m := by
  induction h with
  | nil => exact ⟨_, List.Perm.refl _⟩
  | all h1 _ ih =>
    obtain ⟨r, hr⟩ := ih
    exact ⟨r, by rw [List.append_assoc]; exact (List.Perm.append_left _ hr).trans h1.perm⟩
  | one h1 _ ih =>
    obtain ⟨r, hr⟩ := ih
    exact ⟨r, by rw [List.cons_append]; exact (hr.cons _).trans h1.perm⟩
  | no _ ih => exact ih
theorem Sat.psub {W0 : World} {S : List Nat} {M m : List Chunk} {w : World} (h : Sat W0 S m w) (hs : PSub M m) : Sat W0 S M w := by
  obtain ⟨r, hr⟩ := hs.rest
  exact (h.perm hr).sublist (List.sublist_append_left _ _)
theorem Sat.take {W0 : World} {S : List Nat} {ms m m' : List Chunk} {w : World} (h : Sat W0 S m w) (hs : Take ms m m') : Sat W0 S ms w :=
  (h.perm hs.perm).sublist (List.sublist_append_left _ _)

structure Fit (T : TS) (M : List Chunk) (t : TS) (m : List Chunk) : Prop where
  t : subT T t
  m : PSub M m

section
variable {C : Cfg} {t : TS} {m : List Chunk} {kn : KN} {ke : KE}
theorem wc_fit {c : IC} {T : TS} {M : List Chunk} (hl : Fit T M t m) (h : WC C c T M kn ke) : WC C c t m kn ke := by
  intro hm c0 hok ρ fu Q a w ha hw hc
  exact h hm c0 hok ρ fu Q a w (ha.drop (subT_look hl.t)) (hw.psub hl.m) hc
theorem wc_mono2 {a : IC} {G : TS → List Chunk → Prop} (h1 : WC C a t m G ke) (h2 : ∀ t m, G t m → kn t m) : WC C a t m kn ke := h1.mono h2
theorem wc_loopJ {c : IC} (J : Nat → TS → List Chunk → Prop) (n0 : Nat) (h0 : J n0 t m)
    (round : ∀ n t m, J n t m → WC C c t m (fun t' m' => ∃ n', n' < n ∧ J n' t' m') ke) : WC C (.loop c) t m kn ke := by
  intro hm c0 hok ρ fu Q a w ha hw hc
  cases c0 <;> first | (simp [okC] at hok; done) | skip
  rename_i c1
  simp only [okC] at hok
  refine wp_loop_x (X := Nat × TS × List Chunk) (fun x a w => J x.1 x.2.1 x.2.2 ∧ SatT C.n x.2.1 a ∧ Sat C.W0 C.S x.2.2 w) (fun x => x.1) (x0 := (n0, t, m)) ⟨h0, ha, hw⟩ ?_
  rintro ⟨n, t1, m1⟩ a w ⟨hI, ha, hw⟩
  refine round n t1 m1 hI hm c1 hok ρ fu _ a w ha hw ⟨?_, hc.b, hc.r, hc.p⟩
  rintro t' m' ⟨n', hlt, hJ⟩ a' w' ha' hw'
  exact ⟨(n', t', m'), ⟨hJ, ha', hw'⟩, hlt⟩
end

/-! ## Elements of slices and arrays -/

structure El (α : Type) where
  w : Nat
  cell : α → List Value
  len : ∀ a, (cell a).length = w
  one : ∀ a, ∀ v ∈ cell a, one1 v = true
  pos : 0 < w
  z : α
abbrev El.int (k : IntKind) : El Int := ⟨1, fun x => [.int k x], fun _ => rfl, fun _ v h => by simp at h; subst h; rfl, by decide, 0⟩
def rowE {α : Type} (E : El α) (xs : List α) : Nat → List Value := fun i => E.cell (xs.getD i E.z)
theorem ones_nil : ∀ v ∈ cells [], one1 v = true := fun v h => by cases h
theorem ones_cons {s : Seg} {r : List Seg} (h1 : ∀ v ∈ s.cells, one1 v = true) (h2 : ∀ v ∈ cells r, one1 v = true) : ∀ v ∈ cells (s :: r), one1 v = true := by
  intro v hv
  simp only [cells, List.mem_append] at hv
  exact hv.elim (h1 v) (h2 v)
theorem ones_one {u : Value} (h : one1 u = true) : ∀ v ∈ (Seg.one u).cells, one1 v = true := by
  intro v hv; simp only [Seg.cells, List.mem_singleton] at hv; subst hv; exact h
theorem ones_ints {k : IntKind} {n : Nat} {xs : List Int} : ∀ v ∈ (Seg.ints k n xs).cells, one1 v = true := by
  intro v hv; simp only [Seg.cells, intsCells, List.mem_map] at hv; obtain ⟨_, _, rfl⟩ := hv; rfl
theorem fit_cell {α : Type} {E : El α} (x : α) : fit E.w (E.cell x) = E.cell x := fit_same (E.len x)

/-- A slice's value reads as a list. -/
def RdSl {α : Type} (E : El α) (W : World) (v : Value) (xs : List α) : Prop :=
  (v = .slice none 0 0 ∧ xs = []) ∨ (∃ b o cp, v = .slice (some ⟨b, o, none⟩) xs.length cp ∧ xs.length ≤ cp ∧ ∀ i, i < xs.length → ∀ j, j < E.w → W.cell? ⟨b, o + (i * E.w + j), none⟩ = (E.cell (xs.getD i E.z))[j]?) ∨ ∃ a, v = .slice (some a) 0 0 ∧ xs = []
def SrcM {α : Type} (C : Cfg) (m : List Chunk) (E : El α) (v : Value) (xs : List α) : Prop := ∀ w, Sat C.W0 C.S m w → RdSl E w v xs
/-- A slice of one's own: its block is named. -/
def OwnSl {α : Type} (E : El α) (v : Value) (ms : List Chunk) (xs : List α) : Prop :=
  (v = .slice none 0 0 ∧ xs = [] ∧ ms = []) ∨ ∃ b o cp T cs, v = .slice (some ⟨b, o, none⟩) xs.length cp ∧ xs.length ≤ cp ∧ ms = [⟨b, .cells (cells cs).toArray T (0, 0)⟩] ∧ o + cp * E.w ≤ width cs ∧
    ∀ i, i < xs.length → ∀ j, j < E.w → (cells cs)[o + (i * E.w + j)]? = (E.cell (xs.getD i E.z))[j]?

theorem own_nil {α : Type} {E : El α} : OwnSl E (.slice none 0 0) [] [] := .inl ⟨rfl, rfl, rfl⟩
theorem RdSl.own {α : Type} {E : El α} {v : Value} {ms : List Chunk} {xs : List α} (h : OwnSl E v ms xs) {W0 : World} {S : List Nat} {w : World} (hw : Sat W0 S ms w) : RdSl E w v xs := by
  rcases h with ⟨h1, h2, h3⟩ | ⟨b, o, cp, T, cs, h1, h2, h3, h4, h5⟩
  · exact .inl ⟨h1, h2⟩
  · refine .inr (.inl ⟨b, o, cp, h1, h2, fun i hi j hj => ?_⟩)
    subst h3
    rw [cells_load (hw.own _ List.mem_cons_self), h5 i hi j hj]
theorem RdSl.same {α : Type} {E : El α} {W w : World} {v : Value} {xs : List α} (h : RdSl E W v xs) (hb : ∀ b o x, (∀ a n c, v = .slice (some a) n c → a.block = b) → W.cell? ⟨b, o, none⟩ = some x → w.cell? ⟨b, o, none⟩ = some x) : RdSl E w v xs := by
  rcases h with h | ⟨b, o, cp, h1, h2, h3⟩ | h
  · exact .inl h
  rotate_left 1
  · exact .inr (.inr h)
  · refine .inr (.inl ⟨b, o, cp, h1, h2, fun i hi j hj => ?_⟩)
    have h4 := h3 i hi j hj
    have h5 : j < (E.cell (xs.getD i E.z)).length := by rw [E.len]; exact hj
    rw [List.getElem?_eq_getElem h5] at h4 ⊢
    exact hb b _ _ (fun a n c e => by rw [h1] at e; injection e with e; injection e with e; rw [← e]) h4
theorem cell_lt {W : World} {b o : Nat} {x : Value} (h : W.cell? ⟨b, o, none⟩ = some x) : b < W.heap.size := by
  rcases Nat.lt_or_ge b W.heap.size with h1 | h1
  · exact h1
  · have : W.heap[b]? = none := Array.getElem?_eq_none h1
    simp [World.cell?, this] at h
section
variable {α : Type} {C : Cfg} {m : List Chunk} {t : TS} {K : KN} {E : El α} {v : Value} {xs : List α}

/-- A slice's memory is none of these blocks. -/
def Apart (v : Value) (xs : List α) (S : List Nat) : Prop := ∀ a n c, v = .slice (some a) n c → 0 < xs.length → a.block ∉ S
theorem rd_arg (h : RdSl E C.W0 v xs) (hS : Apart v xs C.S) : SrcM C m E v xs := by
  intro w hw
  rcases h with h | ⟨b', o', cp, h1, h2, h3⟩ | h
  · exact .inl h
  rotate_left 1
  · exact .inr (.inr h)
  · by_cases h0 : 0 < xs.length
    · refine RdSl.same (.inr (.inl ⟨b', o', cp, h1, h2, h3⟩)) fun b o x hb hx => ?_
      have e := hb _ _ _ h1
      subst e
      rw [← hx]
      unfold World.cell?; simp only [hw.fr.block _ (cell_lt hx) (hS _ _ _ h1 h0)]
    · exact .inr (.inl ⟨b', o', cp, h1, h2, fun i hi => by omega⟩)
theorem apart0 : Apart v xs [] := fun _ _ _ _ _ => by simp
theorem apart_own {W0 w : World} {ms m1 : List Chunk} {b : Nat} {o : Obj} {T : List Nat} (hO : OwnSl E v ms xs) (hT : Take ms m m1) (hb : Has b o m1) (hw : Sat W0 T m w) : Apart v xs [b] := by
  rcases hO with ⟨h1, h2, h3⟩ | ⟨b1, o1, cp, T1, cs, h1, h2, h3, h4, h5⟩
  · intro a n c e h0; subst h2; simp at h0
  · intro a n c e h0
    subst h1
    injection e with e; injection e with e; subst e
    subst h3
    have hd := (hw.perm hT.perm).dist
    simp only [List.cons_append, List.nil_append, List.map_cons, List.nodup_cons] at hd
    intro hm
    simp only [List.mem_singleton] at hm
    exact hd.1 (hm ▸ List.mem_map.2 ⟨_, hb.mem, rfl⟩)
theorem apart_blk {W0 w : World} {b b' n c : Nat} {o : Obj} {c' : Chunk} {m1 : List Chunk} {T : List Nat} {a : Addr} (hT : Take1 c' m m1) (hb : Has b o m1) (hw : Sat W0 T m w) (ha : a.block = c'.b) : Apart (.slice (some a) n c) xs [b] := by
  intro a' n' c1 e h0
  injection e with e; injection e with e; subst e
  have hd := (hw.perm hT.perm).dist
  simp only [List.map_cons, List.nodup_cons] at hd
  intro hm
  simp only [List.mem_singleton] at hm
  exact hd.1 (List.mem_map.2 ⟨_, hb.mem, by rw [← ha, hm]⟩)
theorem slAddr_block {b o l n w : Nat} : (slAddr b o l n w).block = b := by unfold slAddr; split <;> rfl
theorem rd_own {ms mr : List Chunk} (hO : OwnSl E v ms xs) (hT : Take ms m mr) : SrcM C m E v xs := fun _ hw => RdSl.own hO (hw.take hT)
/-! ### Quiet rules -/
theorem iz {k : IntKind} {z e : Int} {op : IOp} (h : z = e) (q : Q1 C m t op (.int k e)) : Q1 C m t op (.int k z) := h ▸ q
def slBase : Value → Addr
  | .slice (some a) _ _ => a
  | _ => ⟨0, 0, none⟩
theorem cells_at {W : World} {b o1 : Nat} {j c n : Nat} {s p : List Seg} (h3 : ∀ k, k < E.w → W.cell? ⟨b, o1 + (j * E.w + k), none⟩ = (E.cell (xs.getD j E.z))[k]?) (hc : E.cell (xs.getD j E.z) = cells s) (hp : sub s c n = some p) (k : Nat) (hk : k < n) :
    W.cell? ⟨b, o1 + j * E.w + c + k, none⟩ = (cells p)[k]? := by
  obtain ⟨e1, e2, e3⟩ := sub_cells hp
  have hw : width s = E.w := by rw [← cells_length, ← hc, E.len]
  have := h3 (c + k) (by rcases e3 with e3 | e3 <;> omega)
  rw [show o1 + j * E.w + c + k = o1 + (j * E.w + (c + k)) by omega, this, hc, e1, List.getElem?_take_of_lt hk, List.getElem?_drop]
theorem q_ldM {n : Nat} {x : Operand} {j c : Nat} {s p : List Seg} (hx : ev t x = some (.pointer (some ⟨(slBase v).block, (slBase v).off + j * E.w + c, none⟩))) (hs : SrcM C m E v xs) (hj : j < xs.length) (hc : E.cell (xs.getD j E.z) = cells s) (hp : sub s c n = some p) :
    Q1 C m t (.ld n true x) (agg p) := by
  intro o ho a ha w hw
  obtain ⟨e1, e2, e3⟩ := sub_cells hp
  rcases hs w hw with ⟨h1, h2⟩ | ⟨b, o1, cp, h1, h2, h3⟩ | ⟨_, _, h2⟩
  · subst h2; simp at hj
  rotate_left 1
  · subst h2; simp at hj
  · subst h1
    refine quiet_val ?_
    rw [run_load_at (l := cells p) ho (ha.ev hx) (by rw [cells_length]; exact e2) (fun k hk => cells_at (h3 j hj) hc hp k hk) (fun h => by cases h)]
    rfl
theorem q_ldM0 {n : Nat} {x : Operand} {j : Nat} {s p : List Seg} (hx : ev t x = some (.pointer (some ⟨(slBase v).block, (slBase v).off + j * E.w, none⟩))) (hs : SrcM C m E v xs) (hj : j < xs.length) (hc : E.cell (xs.getD j E.z) = cells s) (hp : sub s 0 n = some p) :
    Q1 C m t (.ld n true x) (agg p) := q_ldM (c := 0) hx hs hj hc hp
theorem cellAt_lt {s : List Seg} {c : Nat} {u : Value} (h : cellAt s c = some u) : c < width s := by
  rw [cellAt_eq] at h
  have := (List.getElem?_eq_some_iff.1 h).1
  rwa [cells_length] at this
theorem q_ldM1 {x : Operand} {j c : Nat} {s : List Seg} {u : Value} (hx : ev t x = some (.pointer (some ⟨(slBase v).block, (slBase v).off + j * E.w + c, none⟩))) (hs : SrcM C m E v xs) (hj : j < xs.length) (hc : E.cell (xs.getD j E.z) = cells s) (hp : cellAt s c = some u) :
    Q1 C m t (.ld 1 false x) u := by
  intro o ho a ha w hw
  rcases hs w hw with ⟨h1, h2⟩ | ⟨b, o1, cp, h1, h2, h3⟩ | ⟨_, _, h2⟩
  · subst h2; simp at hj
  rotate_left 1
  · subst h2; simp at hj
  · subst h1
    refine quiet_val ?_
    have hw : width s = E.w := by rw [← cells_length, ← hc, E.len]
    have hlt := cellAt_lt hp
    rw [run_load_at (l := [u]) ho (ha.ev hx) rfl (fun k hk => by
      obtain rfl : k = 0 := by omega
      have := h3 j hj c (by omega)
      simp only [slBase, Nat.add_zero, List.getElem?_cons_zero]
      rw [show o1 + j * E.w + c = o1 + (j * E.w + c) by omega, this, hc, ← cellAt_eq]
      exact hp) (fun _ => rfl)]
    rfl
theorem q_ldM10 {x : Operand} {j : Nat} {s : List Seg} {u : Value} (hx : ev t x = some (.pointer (some ⟨(slBase v).block, (slBase v).off + j * E.w, none⟩))) (hs : SrcM C m E v xs) (hj : j < xs.length) (hc : E.cell (xs.getD j E.z) = cells s) (hp : cellAt s 0 = some u) :
    Q1 C m t (.ld 1 false x) u := q_ldM1 (c := 0) hx hs hj hc hp
/-- A part of a slice. -/
def cutSl (w : Nat) (v : Value) (lo hi : Nat) : Value := match v with
  | .slice (some ⟨b, o, none⟩) _ cp => .slice (some (slAddr b o lo cp w)) (hi - lo) (cp - lo)
  | .slice (some a) n c => .slice (some a) n c
  | _ => .slice none 0 0
theorem cutSl_odd {w : Nat} {a : Addr} : cutSl w (.slice (some a) 0 0) 0 0 = .slice (some a) 0 0 := by
  obtain ⟨b, o, sp⟩ := a
  cases sp with
  | none => simp [cutSl, slAddr]
  | some k => rfl
theorem q_slsE {w : Nat} {x : Operand} {lo hi : Option Operand} {lz hz : Int} {a3 : Addr} (hx : ev t x = some (.slice (some a3) 0 0)) (hl : OptI t 0 lo lz) (hh : OptI t (0 : Nat) hi hz)
    (hb : lz = 0 ∧ hz = 0) : Q1 C m t (.sls w x lo hi none) (.slice (some a3) 0 0) := by
  obtain ⟨rfl, rfl⟩ := hb
  intro o ho a ha wd hw
  refine quiet_val ?_
  simp only [okOp] at ho
  split at ho
  · rename_i T x' lo' hi' mx' heq
    simp only [Bool.and_eq_true] at ho
    obtain ⟨⟨⟨⟨h1, h2⟩, h3⟩, h4⟩, h5⟩ := ho
    have e1 := oeq_sound h1; have e2 := oeqO_sound h2; have e3 := oeqO_sound h3; have e4 := oeqO_sound h4
    subst e1; subst e2; subst e3; subst e4
    split at h5
    · rename_i el hu
      simp only [execOp, heq, ha.ev hx]
      refine run_v ?_
      simp only [Instr.sliceAt, Instr.slice, Sem.run_bind, run_underlying hu, Result.andThen_ok, Sem.run_pure, run_sliceBounds (isS := true) (cap := 0) (mz := 0) ha hl hh .no (by simp) (by omega) (by omega) (by omega) (by omega), run_sizeOf h5]
      simp
    · cases h5
  · cases ho
theorem tkG_get {z : α} {ys : List α} {lo n i : Nat} (h : i < n) (hn : lo + n ≤ ys.length) : ((ys.drop lo).take n).getD i z = ys.getD (lo + i) z := by
  simp only [List.getD, List.getElem?_take_of_lt h, List.getElem?_drop]
theorem rd_cut {lz hz : Int} (hs : SrcM C m E v xs) (hb : cutB lz hz xs.length = true) : SrcM C m E (cutSl E.w v lz.toNat hz.toNat) ((xs.drop lz.toNat).take (hz.toNat - lz.toNat)) := by
  intro w hw
  have hb := cutB_z hb
  have hlen : ((xs.drop lz.toNat).take (hz.toNat - lz.toNat)).length = hz.toNat - lz.toNat := by rw [List.length_take, List.length_drop]; omega
  rcases hs w hw with ⟨h1, h2⟩ | ⟨b, o1, cp, h1, h2, h3⟩ | ⟨a3, h1, h2⟩
  · subst h1; subst h2
    simp only [List.length_nil] at hb
    exact .inl ⟨rfl, by simp⟩
  rotate_left 1
  · subst h1; subst h2
    simp only [List.length_nil] at hb
    have e1 : lz.toNat = 0 := by omega
    have e2 : hz.toNat = 0 := by omega
    rw [e1, e2, cutSl_odd]
    exact .inr (.inr ⟨a3, rfl, by simp⟩)
  · subst h1
    by_cases hc : cp = lz.toNat
    · refine .inr (.inl ⟨b, o1, cp - lz.toNat, ?_, by omega, fun i hi => ?_⟩)
      · simp only [cutSl, slAddr, hlen, hc, if_true]
      · omega
    · refine .inr (.inl ⟨b, o1 + lz.toNat * E.w, cp - lz.toNat, ?_, by omega, fun i hi j hj => ?_⟩)
      · simp only [cutSl, slAddr, hlen, hc, if_false]
      · rw [hlen] at hi
        rw [tkG_get hi (by omega), ← h3 (lz.toNat + i) (by omega) j hj]
        congr 2
        rw [Nat.add_mul]; omega
/-- A part of an array of one's own, as a slice. -/
theorem rd_blk_i {b T base N lo hi mz : Nat} {fz : Nat × Nat} {s : List Seg} {k : IntKind} {ys : List Int} (hb : Has b (.cells (cells s).toArray T fz) m) (hs : segAt s base = some (.ints k N ys)) (h : lo ≤ hi ∧ hi ≤ mz ∧ mz ≤ N) :
    SrcM C m (El.int k) (.slice (some (slAddr b base lo mz 1)) (hi - lo) (mz - lo)) (tk ys lo (hi - lo)) := by
  intro w hw
  by_cases hc : mz = lo
  · refine .inr (.inl ⟨b, base, mz - lo, ?_, by rw [tk_length]; omega, fun i hi => ?_⟩)
    · simp only [slAddr, hc, if_true, tk_length]
    · rw [tk_length] at hi; omega
  · refine .inr (.inl ⟨b, base + lo * 1, mz - lo, ?_, by rw [tk_length]; omega, fun i hi j hj => ?_⟩)
    · simp only [slAddr, hc, if_false, tk_length]
    · rw [tk_length] at hi
      obtain rfl : j = 0 := by simp only at hj; omega
      have hseg := segAt_cells hs (lo + i) (by simp only [Seg.width]; omega)
      rw [tk_getD, if_pos hi]
      have := hw.own _ hb.mem
      have hcell : w.cell? ⟨b, base + (lo + i), none⟩ = (cells s)[base + (lo + i)]? := by
        simp only [World.cell?, this]
        simp
      simp only [Nat.mul_one, Nat.add_zero]
      rw [show base + lo + i = base + (lo + i) by omega, hcell, hseg]
      simp only [Seg.cells]
      rw [intsCells_get (by omega)]
      rfl

/-! ### Effects -/
theorem EF.perm {d : Option Nat} {op : IOp} {m' : List Chunk} (hp : List.Perm m' m) (h : EF C m' t d op K) : EF C m t d op K :=
  fun o ho hd a ha w hw => h o ho hd a ha w (hw.perm hp)
theorem ef_stiz {x y : Operand} {b base i len : Nat} {T : TypeId} {s q : List Seg} {k : IntKind} {ys ys' : List Int} {z : Int} {m' : List Chunk} (e : ys' = setD ys i z) (hx : ev t x = some (.pointer (some ⟨b, base + i * 1, none⟩))) (hy : ev t y = some (.int k z))
    (hs : segAt s base = some (.ints k len ys)) (hi : i < len) (hq : segSet s base (.ints k len ys') = some q)
    (hup : Upd b (.cells (cells s).toArray T (0, 0)) (.cells (cells q).toArray T (0, 0)) m m') (h : K t m') : EF C m t none (.st 1 x y) K := by subst e; exact ef_sti hx hy hs hi hq hup h
theorem cells_ones (l : List Value) : cells (l.map Seg.one) = l := by
  induction l with
  | nil => rfl
  | cons a r ih => simp [cells, Seg.cells, ih]
theorem width_ones (l : List Value) : width (l.map Seg.one) = l.length := by rw [← cells_length, cells_ones]
def cellsOf (E : El α) (xs : List α) : List Value := rowsCells E.w xs.length (rowE E xs)
theorem cellsOf_length : (cellsOf E xs).length = xs.length * E.w := rowsCells_length _ _ _
theorem cellsOf_get {i j : Nat} (hi : i < xs.length) (hj : j < E.w) : (cellsOf E xs)[i * E.w + j]? = (E.cell (xs.getD i E.z))[j]? := by
  unfold cellsOf
  rw [rowsCells_get2 hi hj]
  simp only [rowE, fit_cell]
theorem cellsOf_one : ∀ u ∈ cellsOf E xs, one1 u = true := one_rows fun i _ => ⟨E.len _, E.one _⟩
theorem srcV_rd {w : World} (hs : SrcM C m E v xs) (hw : Sat C.W0 C.S m w) : SrcV C m E.w v xs.length (cellsOf E xs) := by
  rcases hs w hw with ⟨h1, h2⟩ | ⟨b, o1, cp, h1, h2, h3⟩ | ⟨a3, h1, h2⟩
  · subst h1; subst h2; exact src_none
  rotate_left 1
  · subst h1; subst h2; exact src_none
  · subst h1
    refine src_of cellsOf_length cellsOf_one fun w' hw' i hi => ?_
    rcases hs w' hw' with ⟨h1', _⟩ | ⟨b', o1', cp', h1', h2', h3'⟩ | ⟨_, _, h2'⟩
    · cases h1'
    rotate_left 1
    · subst h2'; simp at hi
    · injection h1' with h1' _ h1c
      injection h1' with h1'
      injection h1' with hb ho _
      subst hb; subst ho
      have hp := E.pos
      have hq : i / E.w < xs.length := Nat.div_lt_of_lt_mul (by rw [Nat.mul_comm]; exact hi)
      have hr := Nat.mod_lt i hp
      have he : i / E.w * E.w + i % E.w = i := by have := Nat.div_add_mod i E.w; rw [Nat.mul_comm] at this; exact this
      have := h3' (i / E.w) hq (i % E.w) hr
      rw [he] at this
      rw [this, ← cellsOf_get hq hr, he]
theorem ef_stO {x y : Operand} {ms mr : List Chunk} {i : Nat} {u : Value} {y0 : α} {xs' : List α} (e : xs' = setG E.z xs i y0) (hO : OwnSl E v ms xs) (hT : Take ms m mr) (hx : ev t x = some (.pointer (some ⟨(slBase v).block, (slBase v).off + i * E.w, none⟩)))
    (hy : ev t y = some u) (hu : u.cells.toList = E.cell y0) (hi : i < xs.length) (h : ∀ ms', OwnSl E v ms' xs' → K t (ms' ++ mr)) : EF C m t none (.st E.w x y) K := by
  refine EF.perm hT.perm ?_
  rcases hO with ⟨h1, h2, h3⟩ | ⟨b, o, cp, T, cs, h1, h2, h3, h4, h5⟩
  · subst h2; simp at hi
  · subst h1; subst h3; subst e
    have hle : i * E.w + E.w ≤ cp * E.w := by rw [← Nat.succ_mul]; exact Nat.mul_le_mul_right _ (by omega)
    have hpl : (E.cell y0).length = E.w := E.len y0
    have hin : o + i * E.w + E.w ≤ (cells cs).length := by rw [cells_length]; omega
    refine ef_put (l := cells cs) (vs := E.cell y0) (T := T) (m' := [⟨b, .cells (cells ((splice (cells cs) (o + i * E.w) (E.cell y0)).map Seg.one)).toArray T (0, 0)⟩] ++ mr) hx hy hu hpl ?_ hin (E.one y0) (h _ (.inr ⟨b, o, cp, T, _, ?_, ?_, rfl, ?_, ?_⟩))
    · rw [cells_ones]; exact Upd.here
    · rw [setG_eq hi, List.length_set]
    · rw [setG_eq hi, List.length_set]; exact h2
    · rw [width_ones, splice, List.length_append, List.length_append, List.length_take, List.length_drop, hpl, cells_length]
      have := cells_length cs; omega
    · intro i' hi' j hj
      rw [setG_eq hi, List.length_set] at hi'
      rw [cells_ones, splice_get (by rw [hpl]; exact hin), getD_setG, hpl]
      by_cases hii : i' = i
      · subst hii
        rw [if_pos (by omega), if_pos rfl]
        congr 1; omega
      · rw [if_neg hii, if_neg ?_, h5 i' hi' j hj]
        intro hcon
        rcases Nat.lt_or_ge i' i with hl | hl
        · have : i' * E.w + E.w ≤ i * E.w := by rw [← Nat.succ_mul]; exact Nat.mul_le_mul_right _ hl
          omega
        · have : i * E.w + E.w ≤ i' * E.w := by rw [← Nat.succ_mul]; exact Nat.mul_le_mul_right _ (by omega)
          omega
theorem getD_app1 {z : α} {ys : List α} {i : Nat} (h : i < xs.length) : (xs ++ ys).getD i z = xs.getD i z := by simp [List.getD, List.getElem?_append_left h]
theorem getD_app2 {z : α} {ys : List α} {i : Nat} (h : xs.length ≤ i) : (xs ++ ys).getD i z = ys.getD (i - xs.length) z := by simp [List.getD, List.getElem?_append_right h]
/-- append onto a slice of one's own. -/
theorem ef_appO {d : Nat} {T : TypeId} {bytes : Nat} {z : List Seg} {x y : Operand} {ms mr : List Chunk} {u : Value} {ys xs' : List α} (e : xs' = xs ++ ys) (hx : ev t x = some v) (hO : OwnSl E v ms xs) (hT : Take ms m mr) (hy : ev t y = some u) (hs : SrcM C m E u ys)
    (hsz : decide ((xs.length + ys.length) * bytes ≤ 140737488355328) = true) (h : ∀ v' ms', OwnSl E v' ms' xs' → K ((d, v') :: t) (ms' ++ mr)) : EF C m t (some d) (.app T E.w bytes z x y) K := by
  subst e
  have hsz := of_decide_eq_true hsz
  intro o ho hd a ha w hw
  have hS : SrcV C (ms ++ mr) E.w u ys.length (cellsOf E ys) := srcV_rd (w := w) (fun w' hw' => hs w' (hw'.perm hT.perm.symm)) (hw.perm hT.perm)
  refine EF.perm hT.perm (EF.less (?_ : EF C (ms ++ mr) t (some d) (.app T E.w bytes z x y) _)) o ho hd a ha w hw
  have hzw : width z = E.w := by
    simp only [okOp] at ho
    split at ho
    · simp only [Bool.and_eq_true, Nat.beq_eq] at ho
      exact ho.1.2
    · cases ho
  rcases hO with ⟨h1, h2, h3⟩ | ⟨b, o1, cp, T', cs, h1, h2, h3, h4, h5⟩
  · subst h1; subst h2; subst h3
    refine ef_app0 hx hy hS (by simpa using hsz) (fun h0 => ?_) (fun h0 b' cp' hb' hc' => ?_)
    · have hys : ys = [] := List.eq_nil_of_length_eq_zero h0
      subst hys
      exact ⟨_, h _ _ own_nil, List.Sublist.refl _⟩
    · refine ⟨(cellsOf E ys ++ (List.replicate (cp' - ys.length) (cells z)).flatten).map Seg.one, cells_ones _, ?_⟩
      refine ⟨_, h _ [⟨b', _⟩] (.inr ⟨b', 0, cp', T, _, by simp, by simpa using hc', rfl, ?_, ?_⟩), List.Sublist.refl _⟩
      · rw [width_ones, List.length_append, cellsOf_length]
        simp only [List.length_flatten, List.map_replicate, List.sum_replicate_nat, cells_length, hzw, Nat.zero_add]
        rw [← Nat.add_mul]
        exact Nat.mul_le_mul_right _ (by omega)
      · intro i hi j hj
        simp only [List.nil_append] at hi ⊢
        have : i * E.w + E.w ≤ ys.length * E.w := by rw [← Nat.succ_mul]; exact Nat.mul_le_mul_right _ hi
        rw [cells_ones, Nat.zero_add, List.getElem?_append_left (by rw [cellsOf_length]; omega), cellsOf_get hi hj]
  · subst h1; subst h3
    refine ef_app hx Has.here hy hS h4 h2 hsz (fun hr => ?_) (fun hg b' cp' hb' hc' => ?_)
    · have hle : (xs.length + ys.length) * E.w ≤ cp * E.w := Nat.mul_le_mul_right _ hr
      rw [Nat.add_mul] at hle
      have hin : o1 + xs.length * E.w + (cellsOf E ys).length ≤ (cells cs).length := by rw [cellsOf_length, cells_length]; omega
      refine ⟨(splice (cells cs) (o1 + xs.length * E.w) (cellsOf E ys)).map Seg.one, [⟨b, .cells (cells ((splice (cells cs) (o1 + xs.length * E.w) (cellsOf E ys)).map Seg.one)).toArray T' (0, 0)⟩] ++ mr, cells_ones _, Upd.here, ?_⟩
      refine ⟨_, h _ _ (.inr ⟨b, o1, cp, T', _, by simp, by simpa using hr, rfl, ?_, ?_⟩), List.Sublist.refl _⟩
      · rw [width_ones, splice, List.length_append, List.length_append, List.length_take, List.length_drop]
        rw [cells_length] at hin ⊢; omega
      · intro i hi j hj
        rw [cells_ones, splice_get hin, cellsOf_length]
        rw [List.length_append] at hi
        by_cases hil : i < xs.length
        · have : i * E.w + E.w ≤ xs.length * E.w := by rw [← Nat.succ_mul]; exact Nat.mul_le_mul_right _ hil
          rw [if_neg (by omega), getD_app1 hil, h5 i hil j hj]
        · have e1 : i * E.w = xs.length * E.w + (i - xs.length) * E.w := by rw [← Nat.add_mul]; congr 1; omega
          have : (i - xs.length) * E.w + E.w ≤ ys.length * E.w := by rw [← Nat.succ_mul]; exact Nat.mul_le_mul_right _ (by omega)
          rw [if_pos (by omega), getD_app2 (by omega), show o1 + (i * E.w + j) - (o1 + xs.length * E.w) = (i - xs.length) * E.w + j by omega, cellsOf_get (by omega) hj]
    · have hle : xs.length * E.w ≤ cp * E.w := Nat.mul_le_mul_right _ h2
      have hl1 : (((cells cs).drop o1).take (xs.length * E.w)).length = xs.length * E.w := by rw [List.length_take, List.length_drop, cells_length]; omega
      refine ⟨(((cells cs).drop o1).take (xs.length * E.w) ++ cellsOf E ys ++ (List.replicate (cp' - (xs.length + ys.length)) (cells z)).flatten).map Seg.one, cells_ones _, ?_⟩
      refine ⟨_, h _ [⟨b', _⟩] (.inr ⟨b', 0, cp', T, _, by simp, by simpa using hc', rfl, ?_, ?_⟩), List.Sublist.cons₂ _ (List.sublist_cons_self _ _)⟩
      · rw [width_ones, List.length_append, List.length_append, hl1, cellsOf_length]
        simp only [List.length_flatten, List.map_replicate, List.sum_replicate_nat, cells_length, hzw, Nat.zero_add]
        rw [← Nat.add_mul, ← Nat.add_mul]
        exact Nat.mul_le_mul_right _ (by omega)
      · intro i hi j hj
        rw [List.length_append] at hi
        rw [cells_ones, Nat.zero_add]
        by_cases hil : i < xs.length
        · have : i * E.w + E.w ≤ xs.length * E.w := by rw [← Nat.succ_mul]; exact Nat.mul_le_mul_right _ hil
          rw [List.append_assoc, List.getElem?_append_left (by rw [hl1]; omega), List.getElem?_take_of_lt (by omega), List.getElem?_drop, h5 i hil j hj, getD_app1 hil]
        · have e1 : i * E.w = xs.length * E.w + (i - xs.length) * E.w := by rw [← Nat.add_mul]; congr 1; omega
          have : (i - xs.length) * E.w + E.w ≤ ys.length * E.w := by rw [← Nat.succ_mul]; exact Nat.mul_le_mul_right _ (by omega)
          rw [List.append_assoc, List.getElem?_append_right (by rw [hl1]; omega), hl1, List.getElem?_append_left (by rw [cellsOf_length]; omega), getD_app2 (by omega), show i * E.w + j - xs.length * E.w = (i - xs.length) * E.w + j by omega, cellsOf_get (by omega) hj]
/-- Elements, one behind the other. -/
inductive Bs (E : El α) : List α → List Seg → Prop
  | nil : Bs E [] []
  | cons {x : α} {ys : List α} {p q : List Seg} : cells p = E.cell x → Bs E ys q → Bs E (x :: ys) (p ++ q)
theorem Bs.get {q : List Seg} (h : Bs E xs q) : width q = xs.length * E.w ∧ ∀ i, i < xs.length → ∀ j, j < E.w → (cells q)[i * E.w + j]? = (E.cell (xs.getD i E.z))[j]? := by
  induction h with
  | nil => exact ⟨by simp [width], fun i hi => by simp at hi⟩
  | @cons x ys p q hc _ ih =>
    have hp : width p = E.w := by rw [← cells_length, hc, E.len]
    refine ⟨by rw [width_append, ih.1, hp, List.length_cons, Nat.succ_mul]; omega, fun i hi j hj => ?_⟩
    rw [cells_append]
    cases i with
    | zero =>
      rw [List.getElem?_append_left (by rw [cells_length, hp]; omega), hc]
      simp
    | succ i =>
      rw [List.length_cons] at hi
      rw [List.getElem?_append_right (by rw [cells_length, hp, Nat.succ_mul]; omega), cells_length, hp, show (i + 1) * E.w + j - E.w = i * E.w + j by rw [Nat.succ_mul]; omega, ih.2 i (by omega) j hj]
      simp
theorem ef_bsO {d : Nat} {T : TypeId} {len : Nat} {z q : List Seg} {parts : List (Nat × Nat × Operand)} (hb : BdR t z parts q) (hB : Bs E xs q) (hl : xs.length = len)
    (h : ∀ v ms, OwnSl E v ms xs → K ((d, v) :: t) (ms ++ m)) : EF C m t (some d) (.bs T len E.w z parts) K := by
  subst hl
  refine ef_bs hb fun b hb' => ?_
  obtain ⟨h1, h2⟩ := hB.get
  refine h _ [⟨b, _⟩] (.inr ⟨b, 0, xs.length, T, q, rfl, Nat.le_refl _, rfl, by rw [h1]; omega, fun i hi j hj => ?_⟩)
  rw [Nat.zero_add]; exact h2 i hi j hj
/-- copy into an array of one's own. -/
theorem cellsOf_int {k : IntKind} {ys : List Int} : cellsOf (El.int k) ys = ys.map (.int k) := by
  apply List.ext_getElem?
  intro i
  by_cases hi : i < ys.length
  · have := cellsOf_get (E := El.int k) (xs := ys) (i := i) (j := 0) hi (El.int k).pos
    simp only [Nat.mul_one, Nat.add_zero] at this
    rw [this]
    simp [List.getD, List.getElem?_eq_getElem hi]
  · rw [List.getElem?_eq_none (by rw [cellsOf_length]; simp only [Nat.mul_one]; omega), List.getElem?_eq_none (by rw [List.length_map]; omega)]
theorem ef_cpyB {d : Option Nat} {x y : Operand} {b T base lo hi mz N : Nat} {s q : List Seg} {k : IntKind} {zs zs' ys : List Int} {u : Value} {m' : List Chunk} (e : zs' = wr zs lo (ys.take (hi - lo)))
    (hx : ev t x = some (.slice (some (slAddr b base lo mz 1)) (hi - lo) (mz - lo))) (hy : ev t y = some u) (hu : SrcM C m (El.int k) u ys) (hs : segAt s base = some (.ints k N zs)) (hb : lo ≤ hi ∧ hi ≤ mz ∧ mz ≤ N)
    (hq : segSet s base (.ints k N zs') = some q) (hup : Upd b (.cells (cells s).toArray T (0, 0)) (.cells (cells q).toArray T (0, 0)) m m')
    (h : K (putT d (.int .i64 (Nat.min ys.length (hi - lo) : Nat)) t) m') : EF C m t d (.cpy 1 x y) K := by
  subst e
  intro o ho hd a ha w hw
  have hS := srcV_rd hu hw
  rw [cellsOf_int] at hS
  obtain ⟨e1, e2, e3⟩ := segSet_cells hq
  have hsw := segAt_width hs
  simp only [Seg.width] at hsw e3
  have hseg : ∀ j, j < (intsCells k N zs).length → (cells s)[base + j]? = (intsCells k N zs)[j]? := fun j hj => segAt_cells hs j (by rw [intsCells_length] at hj; exact hj)
  have hlen : (ys.take (hi - lo)).length = Nat.min ys.length (hi - lo) := by rw [List.length_take]; exact Nat.min_comm _ _
  have hmin : Nat.min ys.length (hi - lo) ≤ hi - lo := Nat.min_le_right _ _
  have key : cells q = splice (cells s) (base + lo) ((ys.take (hi - lo)).map (.int k)) := by
    rw [e1]
    have hwr : intsCells k N (wr zs lo (ys.take (hi - lo))) = splice (intsCells k N zs) lo ((ys.take (hi - lo)).map (.int k)) := by
      have := wr_cells (k := k) (N := N) (i := lo) (xs := zs) (ys := ys.take (hi - lo)) (by rw [hlen]; omega)
      simpa [cells, Seg.cells] using this
    simp only [Seg.cells, hwr]
    exact splice_splice (by rw [intsCells_length, cells_length]; omega) (by rw [intsCells_length, List.length_map, hlen]; omega) hseg
  have hke : ∀ d' : Option Nat, K (putT d' (.int .i64 (Nat.min ys.length (hi - lo) : Nat)) t) m' → K (match d' with | some d => (d, .int .i64 (Nat.min ys.length (hi - lo) : Nat)) :: t | none => t) m' := by
    intro d' hk; cases d' <;> exact hk
  by_cases hc : mz = lo
  · have h0 : hi = lo := by omega
    refine ef_cpy (w := 1) (dl := hi - lo) (dc := mz - lo) (b := b) (off := base) (T := T) (segs := s) (segs' := q) (m' := m') (by rw [hx]; simp only [slAddr, hc, if_true]) hy hS (by rw [h0]; omega) ?_ hup (hke d h) o ho hd a ha w hw
    rw [key, h0]
    simp [splice]
  · refine ef_cpy (w := 1) (dl := hi - lo) (dc := mz - lo) (b := b) (off := base + lo) (T := T) (segs := s) (segs' := q) (m' := m') (by rw [hx]; simp only [slAddr, hc, if_false, Nat.mul_one]) hy hS (by omega) ?_ hup (hke d h) o ho hd a ha w hw
    rw [key]
    congr 1
    rw [← List.map_take, Nat.mul_one]
    congr 1
    apply List.ext_getElem?
    intro i
    simp only [List.getElem?_take]
    by_cases h1 : i < ys.length
    · by_cases h2 : i < hi - lo
      · rw [if_pos h2, if_pos (Nat.lt_min.2 ⟨h1, h2⟩)]
      · rw [if_neg h2, if_neg (fun h3 => h2 (Nat.lt_min.1 h3).2)]
    · rw [List.getElem?_eq_none (l := ys) (by omega)]
      split <;> split <;> rfl
theorem az {τ : Type} (f : τ → Value) {z e : τ} {op : IOp} (h : z = e) (q : Q1 C m t op (f e)) : Q1 C m t op (f z) := h ▸ q
theorem cpy0 {zs' zs ys : List Int} {n : Nat} (e : zs' = wr zs 0 (ys.take n)) : zs' = wr zs 0 (ys.take (n - 0)) := e
theorem getD_some {τ : Type} {o : Option τ} {z : τ} (h : o.isSome = true) : o = some (o.getD z) := by cases o <;> simp_all
/-! ### Equality of aggregates -/
theorem eqc_cons {c1 c2 : Bool} {s s' : Seg} {r r' : List Seg} (hw : s.width = s'.width) (h1 : c1 = true ↔ s.cells = s'.cells) (h2 : c2 = true ↔ cells r = cells r') : (c1 && c2) = true ↔ cells (s :: r) = cells (s' :: r') := by
  rw [Bool.and_eq_true, h1, h2]
  simp only [cells]
  constructor
  · rintro ⟨h, h'⟩; rw [h, h']
  · intro h
    exact List.append_inj h (by rw [Seg.cells_length, Seg.cells_length, hw])
theorem eqc_last {c : Bool} {s s' : Seg} (h : c = true ↔ s.cells = s'.cells) : c = true ↔ cells [s] = cells [s'] := by
  rw [h]; simp [cells]
theorem eqc_int {k : IntKind} {a b : Int} : (a == b) = true ↔ (Seg.one (.int k a)).cells = (Seg.one (.int k b)).cells := by simp [Seg.cells]
theorem eqc_ints {k : IntKind} {n : Nat} {a b : List Int} : ieq n a b = true ↔ (Seg.ints k n a).cells = (Seg.ints k n b).cells := by
  have := ieq_cells (k := k) (n := n) (a := a) (b := b)
  simpa [cells] using this
end

theorem Sup.app {m0 m ms : List Chunk} (h : Sup m0 m) : Sup m0 (ms ++ m) := fun _ h' => List.mem_append_right _ (h _ h')

/-! ## Functions -/
/-- Parts of the memory: a block, or blocks that are told by a name. -/
inductive Pc where
  | one (c : Chunk)
  | all (l : List Chunk)
def appL : List Pc → List Chunk → List Chunk
  | [], m => m
  | .one c :: r, m => c :: appL r m
  | .all a :: r, m => a ++ appL r m
theorem appL_eq : ∀ (l : List Pc) (m : List Chunk), appL l [] ++ m = appL l m
  | [], m => rfl
  | .one c :: r, m => by simp only [appL, List.cons_append, appL_eq r m]
  | .all a :: r, m => by simp only [appL, List.append_assoc, appL_eq r m]
/-- As retM: the memory in parts. -/
def retS (W0 : World) (S : List Nat) (R : Value → List Pc → Prop) : Ending → World → Prop := retM W0 S fun v M => ∃ Ms, M = appL Ms [] ∧ R v Ms
section
variable {C : Cfg} {m : List Chunk} {t : TS} {K : KN}
theorem ef_callS {d : Option Nat} {f : FuncId} {args : List Operand} {vs : List Value} {mS mr : List Chunk} {R : Value → List Pc → Prop} (ha : evL t args = some vs) (hp : List.Perm (mS ++ mr) m)
    (hc : ∀ w, Sat C.W0 C.S m w → Calls C.P f vs.toArray w (retS w (mS.map (·.b)) R))
    (h : ∀ v Ms, R v Ms → K (putT d v t) (appL Ms mr)) : EF C m t d (.call f args) K :=
  ef_callM ha hp hc fun v m' ⟨Ms, e, hR⟩ => by subst e; rw [appL_eq]; exact h v Ms hR
theorem ef_callS0 {d : Option Nat} {f : FuncId} {args : List Operand} {vs : List Value} {R : Value → List Pc → Prop} (ha : evL t args = some vs)
    (hc : ∀ w, Sat C.W0 C.S m w → Calls C.P f vs.toArray w (retS w [] R))
    (h : ∀ v Ms, R v Ms → K (putT d v t) (appL Ms m)) : EF C m t d (.call f args) K :=
  ef_callF ha hc fun v m' ⟨Ms, e, hR⟩ => by subst e; rw [appL_eq]; exact h v Ms hR
end
def retT (rs : List RV) (R : Value → List Chunk → Prop) : KN := fun t m => ∃ l M, ResVs t m rs l ∧ PSub M m ∧ R (tupV l) M
theorem calls_memT {P : Program} {f : FuncId} {d : FnD} {args : List Value} {W0 : World} {S : List Nat} {m0 : List Chunk} {R : Value → List Chunk → Prop}
    (hm : P.follows .mixedOrders = true) (hok : okF P f d = true) (hlen : Nat.ble args.length d.n = true) (h0 : Sat W0 S m0 W0)
    (h : WC ⟨P, d.n, W0, S⟩ d.c (argsT 0 args) m0 (retT d.rs R) ⟨[], retT d.rs R, noP⟩) : Calls P f args.toArray W0 (retM W0 S R) := by
  refine calls_of hm hok hlen h0 ?_
  have hsub : ∀ t m, retT d.rs R t m → retK W0 S d.rs (retM W0 S R) t m := by
    rintro t m ⟨l, M, h1, h2, h3⟩
    exact ⟨l, h1, fun w hw => ⟨_, _, rfl, h3, hw.psub h2⟩⟩
  intro hm c0 hok ρ fu Q a w ha hw hc
  exact h hm c0 hok ρ fu Q a w ha hw ⟨fun t m hk => hc.n t m (hsub t m hk), fun id k hk => by simp [lookK] at hk, fun t m hk => hc.r t m (hsub t m hk), fun _ _ _ h => h.elim⟩
end Go.Sx
/- The engine, part 17: append of noughts; parts of arrays; addresses inside a row of numbers; results that are parts of an argument. -/
namespace Go.Sx
open Go Go.RowKit
set_option linter.all false

section
variable {C : Cfg} {m : List Chunk} {t : TS} {K : KN}

end

section
variable {α : Type} {C : Cfg} {m : List Chunk} {t : TS} {K : KN} {E : El α} {v : Value} {xs : List α}
/-- Slices as values. -/
def IsSl (v : Value) : Prop := ∃ a n c, v = .slice a n c
theorem OwnSl.isSl {ms : List Chunk} (h : OwnSl E v ms xs) : IsSl v := by
  rcases h with ⟨h1, _⟩ | ⟨b, o, cp, _, _, h1, _⟩
  · exact ⟨_, _, _, h1⟩
  · exact ⟨_, _, _, h1⟩
theorem IsSl.cells {u : Value} (h : IsSl u) : u.cells = #[u] := by obtain ⟨a, n, c, rfl⟩ := h; rfl
abbrev SlT := Option Addr × Nat × Nat
def slV (x : SlT) : Value := .slice x.1 x.2.1 x.2.2
/-- A slice of so many elements. -/
def Shp (v : Value) (n : Nat) : Prop := (v = .slice none 0 0 ∧ n = 0) ∨ (∃ b o cp, v = .slice (some ⟨b, o, none⟩) n cp ∧ n ≤ cp) ∨ ∃ a, v = .slice (some a) 0 0 ∧ n = 0
theorem Shp.rd {W : World} (h : RdSl E W v xs) : Shp v xs.length := by
  rcases h with ⟨h1, h2⟩ | ⟨b, o, cp, h1, h2, _⟩ | ⟨a3, h1, h2⟩
  · exact .inl ⟨h1, by rw [h2]; rfl⟩
  · exact .inr (.inl ⟨b, o, cp, h1, h2⟩)
  · exact .inr (.inr ⟨a3, h1, by rw [h2]; rfl⟩)
theorem Shp.own {ms : List Chunk} (h : OwnSl E v ms xs) : Shp v xs.length := by
  rcases h with ⟨h1, h2, _⟩ | ⟨b, o, cp, _, _, h1, h2, _⟩
  · exact .inl ⟨h1, by rw [h2]; rfl⟩
  · exact .inr (.inl ⟨b, o, cp, h1, h2⟩)
theorem Shp.blk {b base lo hi mz w n : Nat} (h : lo ≤ hi ∧ hi ≤ mz) (hn : n = hi - lo) : Shp (.slice (some (slAddr b base lo mz w)) (hi - lo) (mz - lo)) n := by
  subst hn
  unfold slAddr
  split
  · exact .inr (.inl ⟨_, _, _, rfl, by omega⟩)
  · exact .inr (.inl ⟨_, _, _, rfl, by omega⟩)
theorem q_lenP {x : Operand} {n : Nat} (hx : ev t x = some v) (h : Shp v n) : Q1 C m t (.len x) (.int .i64 n) := by
  rcases h with ⟨h1, h2⟩ | ⟨b, o1, cp, h1, h2⟩ | ⟨a3, h1, h2⟩
  · subst h1; subst h2; exact q_len hx
  rotate_left 1
  · subst h1; subst h2; exact q_len hx
  · subst h1; exact q_len hx
theorem q_iasP {w n : Nat} {x i : Operand} {k : IntKind} {z : Int} (hx : ev t x = some v) (hi : ev t i = some (.int k z)) (h : Shp v n) (hz : inB z n = true) :
    Q1 C m t (.ias w x i) (.pointer (some ⟨(slBase v).block, (slBase v).off + z.toNat * w, none⟩)) := by
  have hz' := inB_z hz
  rcases h with ⟨h1, h2⟩ | ⟨b, o1, cp, h1, h2⟩ | ⟨_, _, h2⟩
  · omega
  rotate_left 1
  · omega
  · subst h1; exact q_ias hx hi hz'
theorem q_slsP {w n : Nat} {x : Operand} {lo hi : Option Operand} {lz hz : Int} (hx : ev t x = some v) (h : Shp v n) (hl : OptI t 0 lo lz) (hh : OptI t n hi hz) (hb : cutB lz hz n = true) :
    Q1 C m t (.sls w x lo hi none) (cutSl w v lz.toNat hz.toNat) := by
  have hb := cutB_z hb
  rcases h with ⟨h1, h2⟩ | ⟨b, o1, cp, h1, h2⟩ | ⟨a3, h1, h2⟩
  · subst h1; subst h2
    exact q_sls0 (mz := 0) hx hl hh .no (by simp) (by omega)
  rotate_left 1
  · subst h1; subst h2
    have e1 : lz.toNat = 0 := by omega
    have e2 : hz.toNat = 0 := by omega
    rw [e1, e2, cutSl_odd]
    exact q_slsE hx hl hh (by omega)
  · subst h1
    have := q_sls (C := C) (m := m) (w := w) (mz := cp) hx hl hh .no (by simp) (by omega)
    simpa [cutSl] using this
end
end Go.Sx
/- The engine: prefixes of longer slices (what stands behind them is known), and slices that are handed in to be written. -/
namespace Go.Sx
open Go Go.RowKit
set_option linter.all false
section
variable {C : Cfg} {m : List Chunk} {t : TS} {K : KN} {α : Type} {E : El α} {v : Value} {xs : List α}

theorem slBase_pre {w L n : Nat} (h : Shp v L) : slBase (cutSl w v 0 n) = slBase v := by
  rcases h with ⟨h1, h2⟩ | ⟨b, o, cp, h1, h2⟩ | ⟨a, h1, h2⟩
  · subst h1; rfl
  · subst h1
    simp only [cutSl, slBase, slAddr]
    split <;> simp
  · subst h1
    obtain ⟨b, o, sp⟩ := a
    cases sp with
    | none => simp [cutSl, slBase, slAddr]
    | some k => rfl
theorem pre_n {n : Int} {L : Nat} (h : cutB 0 n L = true) : 0 ≤ n ∧ n ≤ L := by have := cutB_z h; omega
theorem shp_pre {w L : Nat} {n : Int} (h : Shp v L) (hb : cutB 0 n L = true) : Shp (cutSl w v 0 n.toNat) n.toNat := by
  have hb := pre_n hb
  rcases h with ⟨h1, h2⟩ | ⟨b, o, cp, h1, h2⟩ | ⟨a, h1, h2⟩
  · subst h1; exact .inl ⟨rfl, by omega⟩
  · subst h1
    simp only [cutSl]
    exact Shp.blk (by omega) rfl
  · subst h1
    have e2 : n.toNat = 0 := by omega
    rw [e2, cutSl_odd]
    exact .inr (.inr ⟨a, rfl, rfl⟩)
theorem q_lenU {w L : Nat} {x : Operand} {n : Int} (hx : ev t x = some (cutSl w v 0 n.toNat)) (hs : Shp v L) (hb : cutB 0 n L = true) : Q1 C m t (.len x) (.int .i64 n) := by
  have h := q_lenP (C := C) (m := m) hx (shp_pre (w := w) hs hb)
  have e : ((n.toNat : Nat) : Int) = n := by have := pre_n hb; omega
  rw [e] at h
  exact h
theorem inB_up {z n : Int} {L : Nat} (hb : cutB 0 n L = true) (h : inB z n.toNat = true) : inB z L = true := by
  have := pre_n hb
  have := inB_z h
  simp [inB]; omega
theorem q_iasU {w L : Nat} {x i : Operand} {k : IntKind} {z n : Int} (hx : ev t x = some (cutSl w v 0 n.toNat)) (hi : ev t i = some (.int k z)) (hs : Shp v L) (hb : cutB 0 n L = true) (hz : inB z n.toNat = true) :
    Q1 C m t (.ias w x i) (.pointer (some ⟨(slBase v).block, (slBase v).off + z.toNat * w, none⟩)) := by
  have h := q_iasP (C := C) (m := m) (w := w) hx hi (shp_pre (w := w) hs hb) hz
  rw [slBase_pre hs] at h
  exact h
theorem q_slsU {w L : Nat} {x : Operand} {lo hi : Option Operand} {n lz hz : Int} (hx : ev t x = some (cutSl w v 0 n.toNat)) (hs : Shp v L) (hn : cutB 0 n L = true) (hl : OptI t 0 lo lz) (hh : OptI t n hi hz) (hb : cutB lz hz L = true) :
    Q1 C m t (.sls w x lo hi none) (cutSl w v lz.toNat hz.toNat) := by
  have hn := pre_n hn
  have hb := cutB_z hb
  obtain ⟨k, rfl⟩ : ∃ k : Nat, n = (k : Int) := ⟨n.toNat, by omega⟩
  rw [Int.toNat_natCast] at hx
  rcases hs with ⟨h1, h2⟩ | ⟨b, o1, cp, h1, h2⟩ | ⟨a, h1, h2⟩
  · subst h1; subst h2
    have e0 : k = 0 := by omega
    subst e0
    have hx' : ev t x = some (.slice none 0 0) := hx
    exact q_sls0 (mz := 0) hx' hl hh .no (by simp) (by omega)
  · subst h1
    simp only [cutSl, Nat.sub_zero] at hx
    have ea : slAddr b o1 0 cp w = ⟨b, o1, none⟩ := by
      unfold slAddr
      split <;> simp
    rw [ea] at hx
    have := q_sls (C := C) (m := m) (w := w) (mz := cp) hx hl hh .no (by simp) (by omega)
    simpa [cutSl] using this
  · subst h1; subst h2
    have e0 : k = 0 := by omega
    subst e0
    rw [cutSl_odd] at hx
    have e1 : lz.toNat = 0 := by omega
    have e2 : hz.toNat = 0 := by omega
    rw [e1, e2, cutSl_odd]
    exact q_slsE hx hl hh (by omega)
theorem rd_pre {n : Int} (hs : SrcM C m E v xs) (hb : cutB 0 n xs.length = true) : SrcM C m E (cutSl E.w v 0 n.toNat) (xs.take n.toNat) := by
  have h := rd_cut (C := C) (m := m) (E := E) (v := v) (xs := xs) (lz := 0) (hz := n) hs hb
  simpa using h
theorem sat_own1 {W0 : World} {S : List Nat} {w : World} (h : Sat W0 S m w) {ms mr : List Chunk} (hp : List.Perm (ms ++ mr) m) : Sat w (ms.map (·.b)) (ms ++ []) w := by
  rw [List.append_nil]; exact sat_own h hp
/-! ## Terse words for printed texts -/
theorem wc_br {β : Type} {r : β} {a b : Option β} {c : Bool} {x : Operand} {p q : IC} {kn : KN} {ke : KE} (h : br c a b = some r) (hx : ev t x = some (.bool c)) (ht : a = some r → WC C p t m kn ke) (hf : b = some r → WC C q t m kn ke) :
    WC C (.cond x p q) t m kn ke := wc_if hx (fun e => ht (br_t h e)) (fun e => hf (br_f h e))
end
section
variable {α β : Type} {r : β} {G : Prop}
theorem bH {x : α} {f : α → Option β} (h : bnd x f = some r) (k : ∀ z, z = x → f z = some r → G) : G := bnd_i k h
theorem cH {c : Bool} {o : Option β} (h : chk c o = some r) (k : c = true → o = some r → G) : G := chk_i k h
theorem oH {o : Option α} {f : α → Option β} (h : opt o f = some r) (k : ∀ y, o = some y → f y = some r → G) : G := opt_i k h
theorem jH {K : Type} {k : K} {g : K → Option β} (h : jn k g = some r) (q : ∀ k', k' = k → g k' = some r → G) : G := jn_i q h
end
instance (n : Nat) : OfNat Operand n := ⟨.tmp n⟩
abbrev oj (d : Nat) (i : IOp) : J := .op ⟨some d, none, i⟩
abbrev on_ (i : IOp) : J := .op ⟨none, none, i⟩
abbrev oi (d : Nat) (i : IOp) : IOpr := ⟨some d, none, i⟩
abbrev oe (i : IOp) : IOpr := ⟨none, none, i⟩
abbrev ci (n : Int) : Operand := .const (.int .i64 n)
abbrev cu (n : Int) : Operand := .const (.int .u64 n)
end Go.Sx
/- A pointer to a struct that holds a slice of its own: both blocks go to the call together. -/
namespace Go.Sx
open Go Go.RowKit
set_option linter.all false

theorem perm2 {c : Chunk} {ms m m1 m2 : List Chunk} (h1 : Take1 c m m1) (h2 : Take ms m1 m2) : List.Perm ((c :: ms) ++ m2) m := (h2.perm.cons c).trans h1.perm
theorem perm1 {c : Chunk} {m m1 : List Chunk} (h1 : Take1 c m m1) : List.Perm ((c :: []) ++ m1) m := h1.perm
theorem sat_own2 {W0 : World} {S : List Nat} {m : List Chunk} {w : World} (h : Sat W0 S m w) {c : Chunk} {ms mr : List Chunk} (hp : List.Perm ((c :: ms) ++ mr) m) : Sat w (c.b :: ms.map (·.b)) (c :: (ms ++ [])) w := by
  rw [List.append_nil]; exact sat_own h hp
theorem IsSl.one1 {u : Value} (h : IsSl u) : one1 u = true := by obtain ⟨a, n, c, rfl⟩ := h; rfl
section
variable {α : Type} {m : List Chunk} {E : El α} {v : Value} {xs : List α}
theorem apart2 {b : Nat} {S : List Nat} (h1 : Apart v xs [b]) (h2 : Apart v xs S) : Apart v xs (b :: S) := by
  intro a n c e h0 hm
  rcases List.mem_cons.1 hm with h | h
  · exact h1 a n c e h0 (List.mem_singleton.2 h)
  · exact h2 a n c e h0 h
theorem apart_empty : Apart v xs (([] : List Chunk).map (·.b)) := fun _ _ _ _ _ => by simp
/-- A slice that is its own stands apart from another that is its own. -/
theorem apart_owns {W0 w : World} {ms ms2 m1 m2 : List Chunk} {T : List Nat} (hO : OwnSl E v ms xs) (hT : Take ms m m1) (h2 : Take ms2 m1 m2) (hw : Sat W0 T m w) : Apart v xs (ms2.map (·.b)) := by
  intro a n c e h0 hm
  obtain ⟨k, hk, e2⟩ := List.mem_map.1 hm
  have hmem : k ∈ m1 := h2.perm.subset (List.mem_append_left _ hk)
  rcases hO with ⟨h1, h3, _⟩ | ⟨b1, o1, cp, T1, cs, h1, _, h3, _, _⟩
  · subst h3; simp at h0
  · subst h1
    injection e with e; injection e with e; subst e
    subst h3
    have hd := (hw.perm hT.perm).dist
    simp only [List.cons_append, List.nil_append, List.map_cons, List.nodup_cons] at hd
    exact hd.1 (List.mem_map.2 ⟨k, hmem, e2⟩)
/-- A slice that was handed in stands apart from what is the call's own. -/
theorem apart_args {W0 w : World} {S : List Nat} {ms m1 : List Chunk} (h : RdSl E W0 v xs) (hS : Apart v xs S) (hT : Take ms m m1) (hw : Sat W0 S m w) : Apart v xs (ms.map (·.b)) := by
  intro a n c e h0 hm
  obtain ⟨k, hk, e2⟩ := List.mem_map.1 hm
  have hmem : k ∈ m := hT.perm.subset (List.mem_append_left _ hk)
  rcases hw.base _ hmem with h6 | h6
  · rcases h with ⟨h1, h2⟩ | ⟨b', o', cp, h1, h2, h3⟩ | ⟨_, _, h2⟩
    · subst h2; simp at h0
    · rw [h1] at e
      injection e with e; injection e with e; subst e
      have h4 := h3 0 h0 0 E.pos
      have h5 : 0 < (E.cell (xs.getD 0 E.z)).length := by rw [E.len]; exact E.pos
      rw [List.getElem?_eq_getElem h5] at h4
      have := cell_lt h4
      simp only at this e2
      omega
    · subst h2; simp at h0
  · exact hS a n c e h0 (by rw [← e2]; exact h6)
theorem apart_arg1 {W0 w : World} {S : List Nat} {b : Nat} {o : Obj} (h : RdSl E W0 v xs) (hS : Apart v xs S) (hb : Has b o m) (hw : Sat W0 S m w) : Apart v xs [b] := by
  intro a n c e h0 hm
  simp only [List.mem_singleton] at hm
  rcases hw.base _ hb.mem with h6 | h6
  · rcases h with ⟨h1, h2⟩ | ⟨b', o', cp, h1, h2, h3⟩ | ⟨_, _, h2⟩
    · subst h2; simp at h0
    · rw [h1] at e
      injection e with e; injection e with e; subst e
      have h4 := h3 0 h0 0 E.pos
      have h5 : 0 < (E.cell (xs.getD 0 E.z)).length := by rw [E.len]; exact E.pos
      rw [List.getElem?_eq_getElem h5] at h4
      have := cell_lt h4
      simp only at this h6 hm
      omega
    · subst h2; simp at h0
  · exact hS a n c e h0 (by rw [hm]; exact h6)
/-- A part of a block stands apart from what is another's own. -/
theorem apart_blks {W0 w : World} {n c : Nat} {c' : Chunk} {ms m1 m2 : List Chunk} {T : List Nat} {a : Addr} (hT : Take1 c' m m1) (h2 : Take ms m1 m2) (hw : Sat W0 T m w) (ha : a.block = c'.b) : Apart (.slice (some a) n c) xs (ms.map (·.b)) := by
  intro a' n' c1 e h0 hm
  injection e with e; injection e with e; subst e
  obtain ⟨k, hk, e2⟩ := List.mem_map.1 hm
  have hd := (hw.perm hT.perm).dist
  simp only [List.map_cons, List.nodup_cons] at hd
  exact hd.1 (List.mem_map.2 ⟨k, h2.perm.subset (List.mem_append_left _ hk), by rw [← ha]; exact e2⟩)
theorem apart_blk1 {W0 w : World} {b n c : Nat} {o : Obj} {c' : Chunk} {m1 : List Chunk} {T : List Nat} {a : Addr} (hT : Take1 c' m m1) (hb : Has b o m1) (hw : Sat W0 T m w) (ha : a.block = c'.b) : Apart (.slice (some a) n c) xs [b] :=
  apart_blk (b' := 0) hT hb hw ha
end
end Go.Sx
/- Slices that grow out of another one: the base stays readable, whether the room behind it is used or new memory is taken. -/
namespace Go.Sx
open Go Go.RowKit
set_option linter.all false

section
variable {α : Type} {C : Cfg} {m : List Chunk} {t : TS} {K : KN} {E : El α} {v : Value} {xs : List α}
/-- v, of list ys, grew out of u, of list xs; ms is the memory of both. -/
def Grown (E : El α) (u : Value) (xs : List α) (v : Value) (ys : List α) (ms : List Chunk) : Prop :=
  (∃ m2 m1, ms = m2 ++ m1 ∧ OwnSl E v m2 ys ∧ OwnSl E u m1 xs) ∨
  (∃ b o cp T cs, u = .slice (some ⟨b, o, none⟩) xs.length cp ∧ v = .slice (some ⟨b, o, none⟩) ys.length cp ∧ xs.length ≤ ys.length ∧ ys.length ≤ cp ∧ ms = [⟨b, .cells (cells cs).toArray T (0, 0)⟩] ∧ o + cp * E.w ≤ width cs ∧
    (∀ i, i < xs.length → ∀ j, j < E.w → (cells cs)[o + (i * E.w + j)]? = (E.cell (xs.getD i E.z))[j]?) ∧
    ∀ i, i < ys.length → ∀ j, j < E.w → (cells cs)[o + (i * E.w + j)]? = (E.cell (ys.getD i E.z))[j]?)
theorem Grown.refl {ms : List Chunk} (h : OwnSl E v ms xs) : Grown E v xs v xs ms := by
  rcases h with ⟨h1, h2, h3⟩ | ⟨b, o, cp, T, cs, h1, h2, h3, h4, h5⟩
  · exact .inl ⟨[], [], by rw [h3]; rfl, .inl ⟨h1, h2, rfl⟩, .inl ⟨h1, h2, rfl⟩⟩
  · exact .inr ⟨b, o, cp, T, cs, h1, h1, Nat.le_refl _, h2, h3, h4, h5, h5⟩
/-- The base again, out of what grew. -/
theorem Grown.base {u : Value} {ys : List α} {ms : List Chunk} (h : Grown E u xs v ys ms) : ∃ m1, OwnSl E u m1 xs ∧ List.Sublist m1 ms := by
  rcases h with ⟨m2, m1, h1, _, h3⟩ | ⟨b, o, cp, T, cs, h1, _, h2, h2', h3, h4, h5, _⟩
  · exact ⟨m1, h3, by rw [h1]; exact List.sublist_append_right _ _⟩
  · exact ⟨ms, .inr ⟨b, o, cp, T, cs, h1, by omega, h3, h4, h5⟩, List.Sublist.refl _⟩
theorem Grown.own {u : Value} {ys : List α} {ms : List Chunk} (h : Grown E u xs v ys ms) : ∃ m1, OwnSl E v m1 ys ∧ List.Sublist m1 ms := by
  rcases h with ⟨m2, m1, h1, h3, _⟩ | ⟨b, o, cp, T, cs, _, h1, _, h2, h3, h4, _, h5⟩
  · exact ⟨m2, h3, by rw [h1]; exact List.sublist_append_left _ _⟩
  · exact ⟨ms, .inr ⟨b, o, cp, T, cs, h1, h2, h3, h4, h5⟩, List.Sublist.refl _⟩
theorem Grown.shp {u : Value} {ys : List α} {ms : List Chunk} (h : Grown E u xs v ys ms) : Shp v ys.length := by
  obtain ⟨m1, h1, _⟩ := h.own; exact Shp.own h1
/-- append onto a slice that grew out of another. -/
theorem ef_appG {d : Nat} {T : TypeId} {bytes : Nat} {z : List Seg} {x y : Operand} {ms mr : List Chunk} {u0 u : Value} {x0 ys xs' : List α} (e : xs' = xs ++ ys) (hx : ev t x = some v) (hO : Grown E u0 x0 v xs ms) (hT : Take ms m mr) (hy : ev t y = some u) (hs : SrcM C m E u ys)
    (hsz : decide ((xs.length + ys.length) * bytes ≤ 140737488355328) = true) (h : ∀ v' ms', Grown E u0 x0 v' xs' ms' → K ((d, v') :: t) (ms' ++ mr)) : EF C m t (some d) (.app T E.w bytes z x y) K := by
  rcases hO with ⟨m2, m1, rfl, h1, h2⟩ | ⟨b, o1, cp, T', cs, hu, h1, h20, h2, h3, h4, h50, h5⟩
  · refine EF.perm hT.perm ?_
    have hs2 : SrcM C (m2 ++ (m1 ++ mr)) E u ys := fun w' hw' => hs w' (hw'.perm (by rw [← List.append_assoc]; exact hT.perm.symm))
    rw [List.append_assoc]
    refine ef_appO e hx h1 Take.here hy hs2 hsz fun v' ms' hO' => ?_
    have := h v' (ms' ++ m1) (.inl ⟨ms', m1, rfl, hO', h2⟩)
    rwa [List.append_assoc] at this
  subst e
  have hsz := of_decide_eq_true hsz
  intro o ho hd a ha w hw
  have hS : SrcV C (ms ++ mr) E.w u ys.length (cellsOf E ys) := srcV_rd (w := w) (fun w' hw' => hs w' (hw'.perm hT.perm.symm)) (hw.perm hT.perm)
  refine EF.perm hT.perm (EF.less (?_ : EF C (ms ++ mr) t (some d) (.app T E.w bytes z x y) _)) o ho hd a ha w hw
  have hzw : width z = E.w := by
    simp only [okOp] at ho
    split at ho
    · simp only [Bool.and_eq_true, Nat.beq_eq] at ho
      exact ho.1.2
    · cases ho
  subst h1; subst h3
  refine ef_app hx Has.here hy hS h4 h2 hsz (fun hr => ?_) (fun hg b' cp' hb' hc' => ?_)
  · have hle : (xs.length + ys.length) * E.w ≤ cp * E.w := Nat.mul_le_mul_right _ hr
    rw [Nat.add_mul] at hle
    have hin : o1 + xs.length * E.w + (cellsOf E ys).length ≤ (cells cs).length := by rw [cellsOf_length, cells_length]; omega
    refine ⟨(splice (cells cs) (o1 + xs.length * E.w) (cellsOf E ys)).map Seg.one, [⟨b, .cells (cells ((splice (cells cs) (o1 + xs.length * E.w) (cellsOf E ys)).map Seg.one)).toArray T' (0, 0)⟩] ++ mr, cells_ones _, Upd.here, ?_⟩
    refine ⟨_, h _ _ (.inr ⟨b, o1, cp, T', _, hu, by simp, by rw [List.length_append]; omega, by simpa using hr, rfl, ?_, ?_, ?_⟩), List.Sublist.refl _⟩
    · rw [width_ones, splice, List.length_append, List.length_append, List.length_take, List.length_drop]
      rw [cells_length] at hin ⊢; omega
    · intro i hi j hj
      rw [cells_ones, splice_get hin, cellsOf_length]
      have : i * E.w + E.w ≤ xs.length * E.w := by rw [← Nat.succ_mul]; exact Nat.mul_le_mul_right _ (by omega)
      rw [if_neg (by omega), h50 i hi j hj]
    · intro i hi j hj
      rw [cells_ones, splice_get hin, cellsOf_length]
      rw [List.length_append] at hi
      by_cases hil : i < xs.length
      · have : i * E.w + E.w ≤ xs.length * E.w := by rw [← Nat.succ_mul]; exact Nat.mul_le_mul_right _ hil
        rw [if_neg (by omega), getD_app1 hil, h5 i hil j hj]
      · have e1 : i * E.w = xs.length * E.w + (i - xs.length) * E.w := by rw [← Nat.add_mul]; congr 1; omega
        have : (i - xs.length) * E.w + E.w ≤ ys.length * E.w := by rw [← Nat.succ_mul]; exact Nat.mul_le_mul_right _ (by omega)
        rw [if_pos (by omega), getD_app2 (by omega), show o1 + (i * E.w + j) - (o1 + xs.length * E.w) = (i - xs.length) * E.w + j by omega, cellsOf_get (by omega) hj]
  · have hle : xs.length * E.w ≤ cp * E.w := Nat.mul_le_mul_right _ h2
    have hl1 : (((cells cs).drop o1).take (xs.length * E.w)).length = xs.length * E.w := by rw [List.length_take, List.length_drop, cells_length]; omega
    refine ⟨(((cells cs).drop o1).take (xs.length * E.w) ++ cellsOf E ys ++ (List.replicate (cp' - (xs.length + ys.length)) (cells z)).flatten).map Seg.one, cells_ones _, ?_⟩
    refine ⟨_, h _ ([⟨b', _⟩] ++ [⟨b, _⟩]) (.inl ⟨_, _, rfl, .inr ⟨b', 0, cp', T, _, by simp, by simpa using hc', rfl, ?_, ?_⟩, .inr ⟨b, o1, cp, T', cs, hu, by omega, rfl, h4, h50⟩⟩), List.Sublist.refl _⟩
    · rw [width_ones, List.length_append, List.length_append, hl1, cellsOf_length]
      simp only [List.length_flatten, List.map_replicate, List.sum_replicate_nat, cells_length, hzw, Nat.zero_add]
      rw [← Nat.add_mul, ← Nat.add_mul]
      exact Nat.mul_le_mul_right _ (by omega)
    · intro i hi j hj
      rw [List.length_append] at hi
      rw [cells_ones, Nat.zero_add]
      by_cases hil : i < xs.length
      · have : i * E.w + E.w ≤ xs.length * E.w := by rw [← Nat.succ_mul]; exact Nat.mul_le_mul_right _ hil
        rw [List.append_assoc, List.getElem?_append_left (by rw [hl1]; omega), List.getElem?_take_of_lt (by omega), List.getElem?_drop, h5 i hil j hj, getD_app1 hil]
      · have e1 : i * E.w = xs.length * E.w + (i - xs.length) * E.w := by rw [← Nat.add_mul]; congr 1; omega
        have : (i - xs.length) * E.w + E.w ≤ ys.length * E.w := by rw [← Nat.succ_mul]; exact Nat.mul_le_mul_right _ (by omega)
        rw [List.append_assoc, List.getElem?_append_right (by rw [hl1]; omega), hl1, List.getElem?_append_left (by rw [cellsOf_length]; omega), getD_app2 (by omega), show i * E.w + j - xs.length * E.w = (i - xs.length) * E.w + j by omega, cellsOf_get (by omega) hj]
/-- Less memory is wanted than there is. -/
theorem EF.sub {d : Option Nat} {op : IOp} {m' : List Chunk} (h : EF C m' t d op K) (hs : List.Sublist m' m) : EF C m t d op K :=
  fun o ho hd a ha w hw => h o ho hd a ha w (hw.sublist hs)
/-- A slice of one's own within some memory. -/
def OwnIn (E : El α) (v : Value) (ms : List Chunk) (xs : List α) : Prop := ∃ m1, OwnSl E v m1 xs ∧ List.Sublist m1 ms
def GrownIn (E : El α) (u : Value) (xs : List α) (v : Value) (ys : List α) (ms : List Chunk) : Prop := ∃ m1, Grown E u xs v ys m1 ∧ List.Sublist m1 ms
theorem OwnSl.oin {ms : List Chunk} (h : OwnSl E v ms xs) : OwnIn E v ms xs := ⟨ms, h, List.Sublist.refl _⟩
theorem OwnIn.grow {ms : List Chunk} (h : OwnIn E v ms xs) : GrownIn E v xs v xs ms := by
  obtain ⟨m1, h1, h2⟩ := h; exact ⟨m1, Grown.refl h1, h2⟩
theorem GrownIn.base {u : Value} {ys : List α} {ms : List Chunk} (h : GrownIn E u xs v ys ms) : OwnIn E u ms xs := by
  obtain ⟨m1, h1, h2⟩ := h
  obtain ⟨m0, h3, h4⟩ := h1.base
  exact ⟨m0, h3, h4.trans h2⟩
theorem OwnIn.shp {ms : List Chunk} (h : OwnIn E v ms xs) : Shp v xs.length := by obtain ⟨_, h1, _⟩ := h; exact Shp.own h1
theorem GrownIn.shp {u : Value} {ys : List α} {ms : List Chunk} (h : GrownIn E u xs v ys ms) : Shp v ys.length := by obtain ⟨_, h1, _⟩ := h; exact h1.shp
theorem rd_gin {u : Value} {ys : List α} {ms mr : List Chunk} (h : GrownIn E u xs v ys ms) (hT : Take ms m mr) : SrcM C m E v ys := by
  obtain ⟨m1, h1, h2⟩ := h
  obtain ⟨m0, h3, h4⟩ := h1.own
  exact fun _ hw => RdSl.own h3 ((hw.take hT).sublist (h4.trans h2))
theorem ef_appGI {d : Nat} {T : TypeId} {bytes : Nat} {z : List Seg} {x y : Operand} {ms mr : List Chunk} {u0 u : Value} {x0 ys xs' : List α} (e : xs' = xs ++ ys) (hx : ev t x = some v) (hO : GrownIn E u0 x0 v xs ms) (hT : Take ms m mr) (hy : ev t y = some u) (hs : ∀ w, Sat C.W0 C.S mr w → RdSl E w u ys)
    (hsz : decide ((xs.length + ys.length) * bytes ≤ 140737488355328) = true) (h : ∀ v' ms', GrownIn E u0 x0 v' xs' ms' → K ((d, v') :: t) (ms' ++ mr)) : EF C m t (some d) (.app T E.w bytes z x y) K := by
  obtain ⟨m1, hG, hs1⟩ := hO
  refine EF.perm hT.perm (EF.sub (m' := m1 ++ mr) ?_ (hs1.append_right mr))
  exact ef_appG e hx hG Take.here hy (fun w hw => hs w (hw.sublist (List.sublist_append_right _ _))) hsz fun v' ms' h' => h v' ms' ⟨ms', h', List.Sublist.refl _⟩
end
end Go.Sx
/- The engine: groups of && and || in which there are effects (the proof goes both ways), and calls that are handed two slices to grow. -/
namespace Go.Sx
open Go Go.RowKit
set_option linter.all false

def isW (want : Bool) : Value → Bool
  | .bool b => b == want
  | _ => false
theorem isW_ne {want : Bool} {u : Value} (h : isW want u = false) : u ≠ .bool want := by
  rintro rfl; simp [isW] at h
theorem SatT.lit {n : Nat} {t : TS} {a : Act} (h : SatT n t a) {tc : Nat} {c b : Bool} (hc : Sx.look t tc = some (.bool c)) (e : c = b) : SatT n ((tc, .bool b) :: t) a := by
  subst e
  refine h.drop fun j v hj => ?_
  simp only [Sx.look] at hj
  by_cases e : Nat.beq tc j = true
  · rw [e, cond_true] at hj
    rw [Nat.beq_eq] at e; subst e
    rw [hc]; exact hj
  · rw [Bool.not_eq_true] at e; rw [e, cond_false] at hj; exact hj
section
variable {C : Cfg} {t : TS} {m m0 : List Chunk} {kn : KN} {op : IOp} {r : List J} {d : Option Nat} {tc i : Nat} {want bb : Bool} {late : List Nat} {rs : Sch}

theorem wl_ge {r : List IOpr} (hc : look t tc = some (.bool want)) (h : EF C m t d op (fun t' m' => WL C r t' m' kn)) : WL C (⟨d, some (tc, want), op⟩ :: r) t m kn := by
  intro ops lo hok ρ fu Q a w ha hw hcn
  cases lo with
  | nil => simp [okL] at hok
  | cons o lo =>
    simp only [okL, Bool.and_eq_true] at hok
    obtain ⟨⟨⟨hd, hg⟩, ho⟩, hr⟩ := hok
    unfold wpListIn
    rw [if_pos (by rw [wanted_guard hg ha hc]; simp)]
    refine wpIn_of_wp (okOp_nd ho) (Oper.wp_mono ?_ (wp_noQ (h o ho hd a ha w hw)))
    rintro a' w' ⟨t', m', hk, ha', hw'⟩
    exact hk ops lo hr ρ fu Q a' w' ha' hw' hcn
theorem qr_gskip {r : List IOpr} {d : Nat} {pre pre' : TS} {u : Value} (hc : look (pre ++ t) tc = some u) (hu : isW want u = false) (h : QR C m t r ((d, undef) :: pre) pre') : QR C m t (⟨some d, some (tc, want), op⟩ :: r) pre pre' := by
  intro ops lo hok
  cases lo with
  | nil => simp [okL] at hok
  | cons o lo =>
    simp only [okL, Bool.and_eq_true] at hok
    obtain ⟨⟨⟨hd, hg⟩, ho⟩, hr⟩ := hok
    obtain ⟨hd1, hd2⟩ := okD_some hd
    refine ⟨undef, fun a ha => .inr ⟨unwanted hg (by rw [ha.look _ _ hc]; exact isW_ne hu), rfl⟩, ?_⟩
    rw [hd1]
    exact QRun.sub (fun a' ⟨a, ha, e⟩ => e ▸ ha.put hd2 undef) (h ops lo hr)
/-- A guarded quiet operation that is wanted. -/
theorem wj_gq {d : Nat} (hc : look t tc = some (.bool want)) (v : Value) (h1 : Q1 C m t op v) (h : WJ C r ((d, v) :: t) m kn) : WJ C (.op ⟨some d, some (tc, want), op⟩ :: r) t m kn := by
  unfold WJ at *; rw [J.flatL, J.flat]
  exact wl_run (l1 := [⟨some d, some (tc, want), op⟩]) (pre := [(d, v)]) (qr_gop (pre := []) v hc h1 qr_nil) h
/-- A guarded one with an effect that is wanted. -/
theorem wj_ge (hc : look t tc = some (.bool want)) (h : EF C m t d op (fun t' m' => WJ C r t' m' kn)) : WJ C (.op ⟨d, some (tc, want), op⟩ :: r) t m kn := by
  unfold WJ at *; rw [J.flatL, J.flat]
  exact wl_ge hc h
/-- A guarded one that goes by. -/
theorem wj_gx {d : Nat} {u : Value} (hc : look t tc = some u) (hu : isW want u = false) (h : WJ C r ((d, undef) :: t) m kn) : WJ C (.op ⟨some d, some (tc, want), op⟩ :: r) t m kn := by
  unfold WJ at *; rw [J.flatL, J.flat]
  exact wl_run (l1 := [⟨some d, some (tc, want), op⟩]) (pre := [(d, undef)]) (qr_gskip (pre := []) hc hu qr_nil) h
/-- Both ways. -/
theorem wj_br {β : Type} {r0 : β} {a b : Option β} {c : Bool} (h : br c a b = some r0) (hc : look t tc = some (.bool c)) (ht : a = some r0 → WJ C r ((tc, .bool true) :: t) m kn) (hf : b = some r0 → WJ C r ((tc, .bool false) :: t) m kn) : WJ C r t m kn := by
  intro ops lo hok ρ fu Q a w ha hw hcn
  cases hcv : c with
  | true => exact ht (br_t h hcv) ops lo hok ρ fu Q a w (ha.lit hc hcv) hw hcn
  | false => exact hf (br_f h hcv) ops lo hok ρ fu Q a w (ha.lit hc hcv) hw hcn
theorem ws_lit {c b : Bool} (hc : look t tc = some (.bool c)) (e : c = b) (h : WS C rs late ((tc, .bool b) :: t) m0 m bb kn) : WS C rs late t m0 m bb kn :=
  fun ops listed h1 h2 h3 h4 => AnyS.sub (fun _ _ ⟨q1, q2, q3⟩ => ⟨q1.lit hc e, q2, q3⟩) (h ops listed h1 h2 h3 h4)
theorem ws_br {β : Type} {r0 : β} {a b : Option β} {c : Bool} (h : br c a b = some r0) (hc : look t tc = some (.bool c)) (ht : a = some r0 → WS C rs late ((tc, .bool true) :: t) m0 m bb kn) (hf : b = some r0 → WS C rs late ((tc, .bool false) :: t) m0 m bb kn) : WS C rs late t m0 m bb kn := by
  cases hcv : c with
  | true => exact ws_lit hc hcv (ht (br_t h hcv))
  | false => exact ws_lit hc hcv (hf (br_f h hcv))
theorem ws_gq {d : Nat} (hc : look t tc = some (.bool want)) (v : Value) (h1 : Q1 C m0 t op v) (h : WS C rs late ((d, v) :: t) m0 m true kn) : WS C (.q [i] (.op ⟨some d, some (tc, want), op⟩) rs) late t m0 m true kn :=
  ws_q (pre := [(d, v)]) (qj_g (pre := []) hc v h1 qj_nil) h
theorem ws_gp {d : Nat} (hc : look t tc = some (.bool want)) (v : Value) (h1 : Q1 C [] t op v) (h : WS C rs late ((d, v) :: t) m0 m bb kn) : WS C (.p [i] (.op ⟨some d, some (tc, want), op⟩) rs) late t m0 m bb kn :=
  ws_p (pre := [(d, v)]) (qj_g (pre := []) hc v h1 qj_nil) h
theorem qj_gx {d : Nat} {u : Value} (hc : look t tc = some u) (hu : isW want u = false) : QJ C m t [.op ⟨some d, some (tc, want), op⟩] [] [(d, undef)] := by
  unfold QJ; rw [J.flatL, J.flatL, J.flat]
  exact qr_gskip (pre := []) hc hu qr_nil
theorem ws_gxq {d : Nat} {u : Value} (hc : look t tc = some u) (hu : isW want u = false) (h : WS C rs late ((d, undef) :: t) m0 m true kn) : WS C (.q [i] (.op ⟨some d, some (tc, want), op⟩) rs) late t m0 m true kn :=
  ws_q (pre := [(d, undef)]) (qj_gx hc hu) h
theorem ws_gxp {d : Nat} {u : Value} (hc : look t tc = some u) (hu : isW want u = false) (h : WS C rs late ((d, undef) :: t) m0 m bb kn) : WS C (.p [i] (.op ⟨some d, some (tc, want), op⟩) rs) late t m0 m bb kn :=
  ws_p (pre := [(d, undef)]) (qj_gx hc hu) h
/-- A guarded operation with an effect that is wanted, when nothing else can come up. -/
theorem ws_ge (b' : Bool) (hc : look t tc = some (.bool want)) 
    (h : EF C m t d op (fun t' m' => (lateB late i = false → bb = true → ∀ c ∈ m0, c ∈ m') ∧ (lateB late i = false ∨ True) ∧ (b' = true → bb = true ∧ ∀ c ∈ m0, c ∈ m') ∧ (lateB late i = false → bb = true) ∧ WS C rs late t' m0 m' b' kn)) : WS C (.e i ⟨d, some (tc, want), op⟩ rs) late t m0 m bb kn := by
  intro ops listed hok hlen hsel hcl
  simp only [schedOk, Bool.and_eq_true] at hok
  obtain ⟨⟨ho, hr⟩, hrest⟩ := hok
  split at ho
  · rename_i o hoi
    simp only [okL, Bool.and_eq_true, Bool.and_true] at ho
    obtain ⟨⟨hd, hg⟩, hop⟩ := ho
    split at hr
    · rename_i k hk
      rw [Nat.beq_eq] at hr; subst hr
      rw [slen]
      refine ⟨fun h0 => (by rw [h0] at hk; cases hk), fun j hj a w hΦ => ?_⟩
      rw [hk] at hj
      obtain rfl : j = k := by simpa using hj
      obtain ⟨q1, q2, q3⟩ := hΦ
      unfold stp
      simp only [hoi]
      rw [if_pos (by rw [wanted_guard hg q1 hc]; simp)]
      refine Oper.wp_mono ?_ (h o hop hd a q1 w q2)
      rintro a' w' ⟨t', m', ⟨hk1, _, hk2, hk4, hk3⟩, ha', hw'⟩
      refine ⟨St C t' m0 m' b', St.gc, ⟨ha', hw', fun e => hw'.sub (q3 (hk2 e).1) (hk2 e).2⟩, fun hl hD => hw'.sub hD (hk1 hl (hk4 hl)), fun _ => hw'.none, ?_⟩
      exact hk3 ops _ hrest hlen hsel (hcl.set (by rw [hk]; simp))
    · cases hr
  · cases ho
theorem ws_ge1 (hc : look t tc = some (.bool want)) (h : EF C m t d op (fun t' m' => Sup m0 m' ∧ WS C rs late t' m0 m' true kn)) : WS C (.e i ⟨d, some (tc, want), op⟩ rs) late t m0 m true kn :=
  ws_ge true hc (h.mono fun _ _ hk => ⟨fun _ _ => hk.1, .inr trivial, fun _ => ⟨rfl, hk.1⟩, fun _ => rfl, hk.2⟩)
theorem ws_geq {d : Nat} (hc : look t tc = some (.bool want)) (v : Value) (h1 : Q1 C m t op v) (h : WS C rs late ((d, v) :: t) m0 m true kn) (hs : Sup m0 m) : WS C (.e i ⟨some d, some (tc, want), op⟩ rs) late t m0 m true kn :=
  ws_ge1 hc (ef_q v h1 ⟨hs, h⟩)
/-- A guarded one that goes by. -/
theorem ws_gx {d : Nat} {u : Value} (hc : look t tc = some u) (hu : isW want u = false) (h : WS C rs late ((d, undef) :: t) m0 m bb kn) : WS C (.e i ⟨some d, some (tc, want), op⟩ rs) late t m0 m bb kn := by
  intro ops listed hok hlen hsel hcl
  simp only [schedOk, Bool.and_eq_true] at hok
  obtain ⟨⟨ho, hr⟩, hrest⟩ := hok
  split at ho
  · rename_i o hoi
    simp only [okL, Bool.and_eq_true, Bool.and_true] at ho
    obtain ⟨⟨hd, hg⟩, hop⟩ := ho
    split at hr
    · rename_i k hk
      rw [Nat.beq_eq] at hr; subst hr
      rw [slen]
      refine ⟨fun h0 => (by rw [h0] at hk; cases hk), fun j hj a w hΦ => ?_⟩
      rw [hk] at hj
      obtain rfl : j = k := by simpa using hj
      obtain ⟨q1, q2, q3⟩ := hΦ
      obtain ⟨hd1, hd2⟩ := okD_some hd
      unfold stp
      simp only [hoi]
      rw [if_neg (by rw [unwanted hg (by rw [q1.look _ _ hc]; exact isW_ne hu)]; simp)]
      exact ⟨St C ((d, undef) :: t) m0 m bb, St.gc, ⟨hd1 ▸ q1.put hd2 undef, q2, q3⟩, fun _ h => h, fun h => h, h ops _ hrest hlen hsel (hcl.set (by rw [hk]; simp))⟩
    · cases hr
  · cases ho
theorem pick_t {x a b : Operand} {v : Value} (hc : ev t x = some (.bool true)) (ha : ev t a = some v) : Q1 C m t (.pick x a b) v := by
  cases hb : ev t b with
  | none => exact pick_q1 (u := v) hc (fun _ => ha) (fun h => by cases h)
  | some u => exact pick_q1 (u := v) hc (fun _ => ha) (fun h => by cases h)
theorem pick_f {x a b : Operand} {v : Value} (hc : ev t x = some (.bool false)) (hb : ev t b = some v) : Q1 C m t (.pick x a b) v :=
  pick_q1 (u := v) hc (fun h => by cases h) (fun _ => hb)
theorem perm3 {m m1 m2 M0 M1 : List Chunk} (h1 : Take M0 m m1) (h2 : Take M1 m1 m2) : List.Perm ((M0 ++ M1) ++ m2) m := by
  rw [List.append_assoc]
  exact (h2.perm.append_left M0).trans h1.perm
theorem sat_own3 {W0 : World} {S : List Nat} {w : World} (h : Sat W0 S m w) {M0 M1 mr : List Chunk} (hp : List.Perm ((M0 ++ M1) ++ mr) m) : Sat w ((M0 ++ M1).map (·.b)) (M0 ++ (M1 ++ [])) w := by
  rw [List.append_nil]; exact sat_own h hp
end
end Go.Sx
/- The engine: closures, and loops over functions: the iterator's walk with the loop's body inside it. -/
namespace Go.Sx
open Go Go.RowKit
set_option linter.all false

theorem cv_parts {P : Program} {o : Oper} {x : Operand} {args : List Operand} (h : okOp P o (.cv x args) = true) : ∃ c, o.op = .call c ∧ c.callee = .value x ∧ c.args.toList = args := by
  simp only [okOp] at h
  split at h
  · rename_i c heq
    simp only [Bool.and_eq_true] at h
    obtain ⟨h1, h2⟩ := h
    split at h1
    · rename_i y hc
      have := oeq_sound h1; subst this
      exact ⟨c, heq, hc, oeqL_sound h2⟩
    · cases h1
  · cases h
theorem map_args {c : Call} {args : List Operand} {a : Act} {vs : List Value} (h : c.args.toList = args) (hv : args.map a.eval = vs) : c.args.map a.eval = vs.toArray := by
  rw [← hv, ← h, ← Array.toList_map, Array.toArray_toList]
/-- A call of a closure. -/
theorem run_cvf {P : Program} {o : Oper} {x : Operand} {args : List Operand} {a : Act} {f : FuncId} {fn : Func} {caps : Array Value} {vs : List Value} {w : World} (h : okOp P o (.cv x args) = true) (hx : a.eval x = .func (.func f) #[] caps) (hv : args.map a.eval = vs)
    (hf : P.funcs[f]? = some fn) (hb : fn.body.isSome = true) (hn : (fn.name == "runtime.NumGoroutine") = false) : (execOp a.eval o).run P w = .ok (.enter f (vs.toArray ++ caps)) w := by
  obtain ⟨c, heq, hc, ha⟩ := cv_parts h
  have hn' : fn.name ≠ "runtime.NumGoroutine" := by simpa using hn
  have hb2 : fn.body ≠ none := by intro e; rw [e] at hb; cases hb
  simp only [execOp, heq, resolve, hc, hx, Deferred.ofValue, Sem.run_bind, Sem.run_pure, Result.andThen_ok, invoke, Array.append_empty, Array.empty_append, map_args ha hv, callFunc]
  simp [program, Sem.run, hf, hn', hb2]
theorem results_at {P : Program} {fn : Func} {rs : List RV} {W0 w : World} {S : List Nat} {m : List Chunk} {t : TS} {n : Nat} {a : Act} {R : Ending → World → Prop} (hrs : okR P fn.results.toList rs = true) (ha : SatT n t a) (hw : Sat W0 S m w) (h : retK W0 S rs R t m) :
    ∃ v, (results fn a.tmps).run P w = .ok v w ∧ R (.returned v) w := by
  obtain ⟨l, hl, hR⟩ := h
  refine ⟨tupV l, ?_, hR w hw⟩
  have hrun := resvs_run (C := ⟨P, n, W0, S⟩) ha hw hl hrs
  have hres : results fn a.tmps = (do let vs ← fn.results.mapM (resOne a.tmps); pure (if h : vs.size = 1 then vs[0] else .tuple vs)) := rfl
  rw [hres]
  simp only [Sem.run_bind]
  have hmap : (fn.results.mapM (resOne a.tmps)).run P w = .ok l.toArray w := by
    rw [← Array.toArray_toList (xs := fn.results), List.mapM_toArray]
    simp only [Sem.run_map, hrun, Result.andThen_ok]
  simp only [hmap, Result.andThen_ok, Sem.run_pure]
  rw [tupV_eq]
theorem put_defs {a : Act} {dst : Option Nat} {v : Value} {ds : List Deferred} : ({ a with defers := a.defers ++ ds } : Act).put dst v = { a.put dst v with defers := (a.put dst v).defers ++ ds } := by
  cases dst <;> rfl
/-- Deferred calls that lie beneath change nothing in a statement. -/
theorem wpListIn_defs {F : Fence} {n : Nat} {P : Program} {ops : Array Oper} {Q Q' : Exit → Act → World → Prop} {ds : List Deferred} (hQ : ∀ e a w, Q e a w → Q' e { a with defers := a.defers ++ ds } w) :
    ∀ (lo : List Oper) (a : Act) (w : World), wpListIn F n P ops Q lo a w → wpListIn F n P ops Q' lo { a with defers := a.defers ++ ds } w
  | [], a, w, h => hQ _ _ _ h
  | o :: lo, a, w, h => by
    unfold wpListIn at h ⊢
    have he : ({ a with defers := a.defers ++ ds } : Act).eval = a.eval := by funext x; cases x <;> rfl
    by_cases hwd : Region.wanted o (yielded ops a.tmps) = true
    · rw [if_pos hwd] at h
      rw [if_pos hwd]
      obtain ⟨h1, h2⟩ := h
      refine ⟨by rw [he]; exact h1, ?_⟩
      rw [he]
      generalize (o.semAt F.round a.eval).run P w = r at *
      cases r with
      | ok x w' =>
        cases x <;> simp only [Oper.uponIn] at h2 ⊢ <;> first
          | (rw [put_defs]; exact wpListIn_defs hQ lo _ _ h2)
          | (have h3 := wpListIn_defs (ds := ds) hQ lo _ _ h2; rw [← put_defs] at h3; exact h3)
          | (refine ⟨h2.1, h2.2.mono fun e w'' he' => ?_⟩; cases e with
              | returned v => simp only at he' ⊢; rw [put_defs]; exact wpListIn_defs hQ lo _ _ he'
              | panicked c => exact hQ _ _ _ he'
              | outgrown => obtain ⟨a0, w0, hq⟩ := he'; exact ⟨_, _, hQ _ _ _ hq⟩)
          | (refine ⟨h2.1, h2.2.mono fun v w'' he' => ?_⟩; rw [put_defs]; exact wpListIn_defs hQ lo _ _ he')
          | exact h2
      | halt x w' => cases x <;> simp only [Oper.uponIn] at h2 ⊢ <;> first | exact hQ _ _ _ h2 | exact h2
    · rw [if_neg hwd] at h
      rw [if_neg hwd, he]
      refine ⟨h.1, ?_⟩
      rw [put_defs]; exact wpListIn_defs hQ lo _ _ h.2

/-- A function with captured variables. -/
theorem q_mf {C : Cfg} {t : TS} {m : List Chunk} {f : FuncId} {caps : List Operand} {vs : List Value} (hv : evL t caps = some vs) : Q1 C m t (.mf f caps) (.func (.func f) #[] vs.toArray) := by
  intro o ho a ha w hw
  simp only [okOp] at ho
  split at ho
  · rename_i f' first captured heq
    simp only [Bool.and_eq_true, Nat.beq_eq] at ho
    obtain ⟨⟨h1, h2⟩, h3⟩ := ho
    subst h1
    have h2' : first = #[] := by simpa using h2
    subst h2'
    have h3' := oeqL_sound h3
    refine quiet_val ?_
    have e : captured.map a.eval = vs.toArray := by
      rw [← ha.evL hv, ← h3', ← Array.toList_map, Array.toArray_toList]
    simp [execOp, heq, Instr.makeFunc, e]
  · cases ho
end Go.Sx
/- The engine: stores into parts of elements, views of several arguments, slices.Clone. -/
namespace Go.Sx
open Go Go.RowKit
set_option linter.all false
section
variable {α : Type} {C : Cfg} {m : List Chunk} {t : TS} {K : KN} {E : El α} {v : Value} {xs : List α}
/-- A store into a part of an element. -/
theorem ef_stOp {n c : Nat} {x y : Operand} {ms mr : List Chunk} {i : Nat} {u : Value} {x0 y0 : α} {xs' : List α} (ex : x0 = xs.getD i E.z) (e : xs' = setG E.z xs i y0) (hO : OwnSl E v ms xs) (hT : Take ms m mr)
    (hx : ev t x = some (.pointer (some ⟨(slBase v).block, (slBase v).off + i * E.w + c, none⟩))) (hy : ev t y = some u) (hn : u.cells.toList.length = n) (hb : Nat.ble (c + n) E.w = true) (hc : E.cell y0 = (E.cell x0).take c ++ (u.cells.toList ++ (E.cell x0).drop (c + n))) (hi : i < xs.length)
    (h : ∀ ms', OwnSl E v ms' xs' → K t (ms' ++ mr)) : EF C m t none (.st n x y) K := by
  refine EF.perm hT.perm ?_
  rcases hO with ⟨h1, h2, h3⟩ | ⟨b, o, cp, T, cs, h1, h2, h3, h4, h5⟩
  · subst h2; simp at hi
  · subst h1; subst h3; subst e; subst ex
    have hle : i * E.w + E.w ≤ cp * E.w := by rw [← Nat.succ_mul]; exact Nat.mul_le_mul_right _ (by omega)
    have hw0 : (E.cell (xs.getD i E.z)).length = E.w := E.len _
    have hwy : (E.cell y0).length = E.w := E.len _
    have hcn : c + n ≤ E.w := Nat.le_of_ble_eq_true hb
    have hin : o + i * E.w + c + n ≤ (cells cs).length := by rw [cells_length]; omega
    have hone : ∀ q ∈ u.cells.toList, one1 q = true := fun q hq => E.one y0 q (by rw [hc]; exact List.mem_append_right _ (List.mem_append_left _ hq))
    refine ef_put (l := cells cs) (vs := u.cells.toList) (T := T) (m' := [⟨b, .cells (cells ((splice (cells cs) (o + i * E.w + c) u.cells.toList).map Seg.one)).toArray T (0, 0)⟩] ++ mr) hx hy rfl hn ?_ (by simp only [slBase]; exact hin) hone (h _ (.inr ⟨b, o, cp, T, _, ?_, ?_, rfl, ?_, ?_⟩))
    · rw [cells_ones]; exact Upd.here
    · rw [setG_eq hi, List.length_set]
    · rw [setG_eq hi, List.length_set]; exact h2
    · rw [width_ones, splice, List.length_append, List.length_append, List.length_take, List.length_drop, hn, cells_length]
      have := cells_length cs; omega
    · intro i' hi' j hj
      rw [setG_eq hi, List.length_set] at hi'
      rw [cells_ones, splice_get (by rw [hn]; exact hin), getD_setG, hn]
      by_cases hii : i' = i
      · subst hii
        rw [if_pos rfl, hc]
        by_cases hj1 : j < c
        · rw [if_neg (by omega), h5 i' hi' j hj, List.getElem?_append_left (by rw [List.length_take]; omega), List.getElem?_take_of_lt hj1]
        · by_cases hj2 : j < c + n
          · rw [if_pos (by omega), List.getElem?_append_right (by rw [List.length_take]; omega), List.length_take, hw0, List.getElem?_append_left (by omega)]
            congr 1; omega
          · rw [if_neg (by omega), h5 i' hi' j hj, List.getElem?_append_right (by rw [List.length_take]; omega), List.length_take, hw0, List.getElem?_append_right (by omega), hn, List.getElem?_drop]
            congr 1; omega
      · rw [if_neg ?_, if_neg hii, h5 i' hi' j hj]
        intro hcon
        rcases Nat.lt_or_ge i' i with hl | hl
        · have : i' * E.w + E.w ≤ i * E.w := by rw [← Nat.succ_mul]; exact Nat.mul_le_mul_right _ hl
          omega
        · have : i * E.w + E.w ≤ i' * E.w := by rw [← Nat.succ_mul]; exact Nat.mul_le_mul_right _ (by omega)
          omega
end
end Go.Sx
/- The engine: calls of closures: a value of a function that is known. -/
namespace Go.Sx
open Go Go.RowKit
set_option linter.all false

def cvOk (P : Program) (f : FuncId) : Bool := match P.funcs[f]? with
  | some fn => fn.body.isSome && !(fn.name == "runtime.NumGoroutine")
  | none => false
section
variable {C : Cfg} {m : List Chunk} {t : TS} {K : KN}
theorem run_cvv {P : Program} {o : Oper} {x : Operand} {args : List Operand} {a : Act} {f : FuncId} {caps vs : List Value} {w : World} (hn : cvOk P f = true) (h : okOp P o (.cv x args) = true) (hx : a.eval x = .func (.func f) #[] caps.toArray) (hv : args.map a.eval = vs) :
    (execOp a.eval o).run P w = .ok (.enter f (vs ++ caps).toArray) w := by
  unfold cvOk at hn
  split at hn
  · rename_i fn hf
    simp only [Bool.and_eq_true, Bool.not_eq_true'] at hn
    rw [run_cvf h hx hv hf hn.1 hn.2]
    simp
  · cases hn
theorem ef_cvM {d : Option Nat} {x : Operand} {f : FuncId} {args : List Operand} {vs caps : List Value} {mS mr : List Chunk} {R : Value → List Chunk → Prop} (hn : cvOk C.P f = true) (hx : ev t x = some (.func (.func f) #[] caps.toArray)) (ha : evL t args = some vs) (hp : List.Perm (mS ++ mr) m)
    (hc : ∀ w, Sat C.W0 C.S m w → Calls C.P f (vs ++ caps).toArray w (retM w (mS.map (·.b)) R))
    (h : ∀ v m', R v m' → K (putT d v t) (m' ++ mr)) : EF C m t d (.cv x args) K := by
  intro o ho hd a hat w hw
  unfold Oper.wp
  rw [run_cvv hn ho (hat.ev hx) (hat.evL ha)]
  simp only [Oper.upon]
  refine (hc w hw).mono ?_
  rintro e w' ⟨v, m', rfl, hR, hs⟩
  have hsat := sat_behind hw hp hs
  cases d with
  | none =>
    have hd0 : o.dst = none := by revert hd; cases o.dst <;> simp [okD]
    rw [hd0]
    exact ⟨_, _, h v m' hR, hat, hsat⟩
  | some d =>
    obtain ⟨hd1, hd2⟩ := okD_some hd
    rw [hd1]
    exact ⟨_, _, h v m' hR, hat.put hd2 v, hsat⟩
theorem ef_cvS {d : Option Nat} {x : Operand} {f : FuncId} {args : List Operand} {vs caps : List Value} {mS mr : List Chunk} {R : Value → List Pc → Prop} (hn : cvOk C.P f = true) (hx : ev t x = some (.func (.func f) #[] caps.toArray)) (ha : evL t args = some vs) (hp : List.Perm (mS ++ mr) m)
    (hc : ∀ w, Sat C.W0 C.S m w → Calls C.P f (vs ++ caps).toArray w (retS w (mS.map (·.b)) R))
    (h : ∀ v Ms, R v Ms → K (putT d v t) (appL Ms mr)) : EF C m t d (.cv x args) K :=
  ef_cvM hn hx ha hp hc fun v m' ⟨Ms, e, hR⟩ => by subst e; rw [appL_eq]; exact h v Ms hR
/-! ## Captured variables that are read -/
def CapV (w : World) (b : Nat) (v : Value) : Prop := w.cell? ⟨b, 0, none⟩ = some v
def CapM (C : Cfg) (m : List Chunk) (b : Nat) (v : Value) : Prop := ∀ w, Sat C.W0 C.S m w → CapV w b v
theorem cap_arg {b : Nat} {v : Value} (h : CapV C.W0 b v) (hS : b ∉ C.S) : CapM C m b v := by
  intro w hw
  have h1 := h
  unfold CapV at h1 ⊢
  rw [← h1]
  unfold World.cell?; simp only [hw.fr.block _ (cell_lt h1) hS]
theorem cap_box {b : Nat} {T : TypeId} {fz : Nat × Nat} {v : Value} {s : List Seg} (hb : Has b (.cells (cells (.one v :: s)).toArray T fz) m) : CapM C m b v := by
  intro w hw
  have h := hw.own _ hb.mem
  unfold CapV
  simp only [World.cell?, h]
  simp [cells, Seg.cells]
theorem q_capv {x : Operand} {b : Nat} {v : Value} (hx : ev t x = some (.pointer (some ⟨b, 0, none⟩))) (hs : CapM C m b v) : Q1 C m t (.ld 1 false x) v := by
  intro o ho a ha w hw
  refine quiet_val ((run_load_at ho (ha.ev hx) (l := [v]) rfl (fun k hk => ?_) (fun _ => rfl)).trans rfl)
  obtain rfl : k = 0 := by omega
  exact hs w hw
end
section
variable {α : Type} {C : Cfg} {m : List Chunk} {t : TS} {K : KN} {E : El α} {v : Value} {xs : List α}
end
end Go.Sx
/- The engine: strings that are handed in: their length, their bytes, and the bytes as a slice. -/
namespace Go.Sx
open Go Go.RowKit
set_option linter.all false

section
variable {C : Cfg} {m : List Chunk} {t : TS} {K : KN}
end
end Go.Sx
/- The engine, part 27: panics. -/
namespace Go.Sx
open Go Go.RowKit
set_option linter.all false

theorem wpListIn_then {F : Fence} {n : Nat} {P : Program} {ops : Array Oper} {Q : Exit → Act → World → Prop} {lo2 : List Oper} :
    ∀ (lo : List Oper) (a : Act) (w : World), wpListIn F n P ops (Exit.then (fun a w => wpListIn F n P ops Q lo2 a w) Q) lo a w → wpListIn F n P ops Q (lo ++ lo2) a w
  | [], a, w, h => h
  | o :: lo, a, w, h => by
    rw [List.cons_append]
    unfold wpListIn at h ⊢
    by_cases hwd : Region.wanted o (yielded ops a.tmps) = true
    · rw [if_pos hwd] at h
      rw [if_pos hwd]
      obtain ⟨h1, h2⟩ := h
      refine ⟨h1, ?_⟩
      generalize (o.semAt F.round a.eval).run P w = r at *
      cases r with
      | ok x w' =>
        cases x <;> simp only [Oper.uponIn] at h2 ⊢ <;> first
          | exact wpListIn_then lo _ _ h2
          | (refine ⟨h2.1, h2.2.mono fun e w'' he' => ?_⟩; cases e with
              | returned v => simp only at he' ⊢; exact wpListIn_then lo _ _ he'
              | panicked c => exact he'
              | outgrown => exact he')
          | (refine ⟨h2.1, h2.2.mono fun v w'' he' => ?_⟩; exact wpListIn_then lo _ _ he')
          | exact h2
      | halt x w' => cases x <;> simp only [Oper.uponIn] at h2 ⊢ <;> exact h2
    · rw [if_neg hwd] at h
      rw [if_neg hwd]
      exact ⟨h.1, wpListIn_then lo _ _ h.2⟩

/-- The operations end in a panic. -/
def WLP (C : Cfg) (l : List IOpr) (t : TS) (m : List Chunk) (kp : List PanicEntry → KN) : Prop :=
  ∀ (ops : Array Oper) (lo : List Oper), okL C.P C.n ops lo l = true → ∀ (ρ : Option Nat) (fu : Nat) Q a w, SatT C.n t a → Sat C.W0 C.S m w → (∀ ch, Cont C (kp ch) (Q (.panic ch))) → wpListIn (FW ρ) fu C.P ops Q lo a w
def WJP (C : Cfg) (l : List J) (t : TS) (m : List Chunk) (kp : List PanicEntry → KN) : Prop := WLP C (J.flatL l) t m kp
theorem flatL_append : ∀ (l1 l2 : List J), J.flatL (l1 ++ l2) = J.flatL l1 ++ J.flatL l2
  | [], _ => by rw [List.nil_append, J.flatL, List.nil_append]
  | j :: l1, l2 => by rw [List.cons_append, J.flatL, J.flatL, flatL_append l1 l2, List.append_assoc]
section
variable {C : Cfg} {t : TS} {m : List Chunk} {kp : List PanicEntry → KN} {kn : KN} {ke : KE}
theorem wjp_at {l : List J} (k : Nat) (h : WJ C (l.take k) t m (fun t' m' => WJP C (l.drop k) t' m' kp)) : WJP C l t m kp := by
  have e : J.flatL l = J.flatL (l.take k) ++ J.flatL (l.drop k) := by rw [← flatL_append, List.take_append_drop]
  unfold WJP
  rw [e]
  intro ops lo hok ρ fu Q a w ha hw hp
  obtain ⟨lo1, lo2, rfl, h1, h2⟩ := okL_append hok
  exact wpListIn_then lo1 a w (h ops lo1 h1 ρ fu _ a w ha hw (fun t' m' hk a' w' ha' hw' => hk ops lo2 h2 ρ fu Q a' w' ha' hw' hp))
theorem wc_opsP {l : List J} (h : WJP C l t m ke.pan) : WC C (.ops l) t m kn ke := by
  intro hm c0 hok ρ fu Q a w ha hw hc
  cases c0 <;> first | (simp [okC] at hok; done) | skip
  rename_i id ops draw
  simp only [okC, Bool.and_eq_true, Bool.not_eq_true'] at hok
  obtain ⟨h1, h2⟩ := hok
  subst h2
  exact wpIn_region_list (h ops ops.toList h1 ρ fu Q a w ha hw hc.p)
/-- The function panics; behind it the blocks of S are what is said, all else is as it was. -/
def panS (W0 : World) (S : List Nat) (ch : List PanicEntry) (R : List Pc → Prop) : Ending → World → Prop := fun e w' => ∃ Ms, e = .panicked ch ∧ R Ms ∧ Sat W0 S (appL Ms []) w'
theorem wjp_pan {d : Nat} {f : FuncId} {args : List Operand} {vs : List Value} {mS mr : List Chunk} {ch : List PanicEntry} {R : List Pc → Prop} {r : List J} (ha : evL t args = some vs) (hp : List.Perm (mS ++ mr) m)
    (hc : ∀ w, Sat C.W0 C.S m w → Calls C.P f vs.toArray w (panS w (mS.map (·.b)) ch R))
    (h : ∀ Ms, R Ms → kp ch t (appL Ms mr)) : WJP C (.op ⟨some d, none, .call f args⟩ :: r) t m kp := by
  unfold WJP
  rw [J.flatL, J.flat]
  intro ops lo hok ρ fu Q a w hat hw hq
  cases lo with
  | nil => simp [okL] at hok
  | cons o lo =>
    simp only [List.singleton_append, okL, Bool.and_eq_true] at hok
    obtain ⟨⟨⟨hd, hg⟩, ho⟩, hr⟩ := hok
    have hg' := okGuard_none hg
    unfold wpListIn
    rw [if_pos (wanted_none hg')]
    refine wpIn_of_wp (okOp_nd ho) ?_
    unfold Oper.wp
    rw [run_call ho, hat.evL ha]
    simp only [Oper.upon]
    refine (hc w hw).mono ?_
    rintro e w' ⟨Ms, rfl, hR, hs⟩
    have hsat := sat_behind hw hp hs
    rw [appL_eq] at hsat
    exact hq ch t _ (h Ms hR) a w' hat hsat
theorem wjp_pnc {x : Operand} {T : TypeId} {v : Value} {r : List J} (hx : ev t x = some (.iface T v)) (h : kp [{ v := .iface T v, recovered := false }] t m) : WJP C (.op ⟨none, none, .pnc x⟩ :: r) t m kp := by
  unfold WJP
  rw [J.flatL, J.flat]
  intro ops lo hok ρ fu Q a w hat hw hq
  cases lo with
  | nil => simp [okL] at hok
  | cons o lo =>
    simp only [List.singleton_append, okL, Bool.and_eq_true] at hok
    obtain ⟨⟨⟨hd, hg⟩, ho⟩, hr⟩ := hok
    have hg' := okGuard_none hg
    unfold wpListIn
    rw [if_pos (wanted_none hg')]
    refine wpIn_of_wp (okOp_nd ho) ?_
    unfold Oper.wp
    simp only [okOp] at ho
    split at ho
    · rename_i x' heq
      have hx' := oeq_sound ho
      subst hx'
      have e : a.eval x' = .iface T v := hat.ev hx
      have hrun : (execOp a.eval o).run C.P w = .halt (.panic (.iface T v)) w := by
        simp [execOp, heq, e, Instr.panic]
      rw [hrun]
      exact hq _ t m h a w hat hw
    · cases ho
theorem q_mi {T : TypeId} {x : Operand} {v : Value} (hx : ev t x = some v) : Q1 C m t (.mi T x) (.iface T v) := by
  intro o ho a ha w hw
  simp only [okOp] at ho
  split at ho
  · rename_i T' x' heq
    simp only [Bool.and_eq_true, Nat.beq_eq] at ho
    obtain ⟨⟨h1, h2⟩, h3⟩ := ho
    subst h1
    have h2' := oeq_sound h2
    subst h2'
    refine quiet_val ?_
    have e : a.eval x' = v := ha.ev hx
    split at h3
    · cases h3
    · rename_i u hne hu
      cases u <;> first | exact (hne _ rfl).elim | simp [execOp, heq, e, Instr.makeInterface, run_underlying hu]
    · cases h3
  · cases ho
end
/-- An array of an element of a slice that is handed in, as a slice. -/
theorem elt_arg {α : Type} {E : El α} {W : World} {v : Value} {xs : List α} {k : IntKind} {N j c : Nat} {s : List Seg} {ys : List Int} (hA : RdSl E W v xs) (hj : j < xs.length) (hc : E.cell (xs.getD j E.z) = cells s) (hq : segAt s c = some (.ints k N ys)) :
    RdSl (El.int k) W (.slice (some (slAddr (slBase v).block ((slBase v).off + j * E.w + c) 0 N 1)) (N - 0) (N - 0)) (tk ys 0 N) := by
  rcases hA with ⟨h1, h2⟩ | ⟨b, o, cp, h1, h2, h3⟩ | ⟨_, _, h2⟩
  · subst h2; simp at hj
  rotate_left 1
  · subst h2; simp at hj
  · subst h1
    have ea : slAddr b (o + j * E.w + c) 0 N 1 = ⟨b, o + j * E.w + c, none⟩ := by unfold slAddr; split <;> simp
    refine .inr (.inl ⟨b, o + j * E.w + c, N, ?_, by rw [tk_length]; exact Nat.le_refl _, fun i hi q hq' => ?_⟩)
    · show Value.slice (some (slAddr b (o + j * E.w + c) 0 N 1)) (N - 0) (N - 0) = _
      rw [ea, tk_length]; rfl
    · rw [tk_length] at hi
      obtain rfl : q = 0 := by simp only at hq'; omega
      have hseg := segAt_cells hq i (by simp only [Seg.width]; exact hi)
      have hw : width s = E.w := by rw [← cells_length, ← hc, E.len]
      have hlt : c + i < E.w := by
        have e1 : (cells s)[c + i]? = _ := hseg
        have e2 : (Seg.ints k N ys).cells[i]? = some (.int k (ys.getD i 0)) := by simp only [Seg.cells]; rw [intsCells_get hi]
        rw [e2] at e1
        have := (List.getElem?_eq_some_iff.1 e1).1
        rw [cells_length, hw] at this
        exact this
      have := h3 j hj (c + i) hlt
      simp only [Nat.mul_one, Nat.add_zero]
      rw [show o + j * E.w + c + i = o + (j * E.w + (c + i)) by omega, this, hc, hseg, tk_getD, if_pos hi, Nat.zero_add]
      simp only [Seg.cells]
      rw [intsCells_get hi]
      rfl
/-! ## The mirror's words -/
section
variable {α β ε : Type} {G : Prop}
def opp (o : Option (ε ⊕ α)) (f : α → Option (ε ⊕ β)) : Option (ε ⊕ β) := match o with
  | none => none
  | some (.inl x) => some (.inl x)
  | some (.inr y) => f y
theorem opp_r {o : Option (ε ⊕ α)} {f : α → Option (ε ⊕ β)} {r : β} (h : ∀ y, o = some (.inr y) → f y = some (.inr r) → G) : opp o f = some (.inr r) → G := by
  intro e
  match o, e with
  | none, e => cases e
  | some (.inl x), e => simp [opp] at e
  | some (.inr y), e => exact h y rfl e
theorem opp_l {o : Option (ε ⊕ α)} {f : α → Option (ε ⊕ β)} {x : ε} (e : opp o f = some (.inl x)) : o = some (.inl x) ∨ ∃ y, o = some (.inr y) ∧ f y = some (.inl x) := by
  match o, e with
  | none, e => cases e
  | some (.inl x), e => exact .inl (by simpa [opp] using e)
  | some (.inr y), e => exact .inr ⟨y, rfl, e⟩
theorem inr_i {a r : β} (h : a = r → G) : (some (.inr a) : Option (ε ⊕ β)) = some (.inr r) → G := fun e => h (by injection e with e; injection e)
theorem inl_i {a r : ε} (h : a = r → G) : (some (.inl a) : Option (ε ⊕ β)) = some (.inl r) → G := fun e => h (by injection e with e; injection e)
theorem inlr {a : ε} {r : β} (h : (some (.inl a) : Option (ε ⊕ β)) = some (.inr r)) : G := by cases h
theorem inrl {a : β} {r : ε} (h : (some (.inr a) : Option (ε ⊕ β)) = some (.inl r)) : G := by cases h
end
/-- What a panic leaves. -/
def panT (ch : List PanicEntry) (R : List Pc → Prop) : List PanicEntry → KN := fun c _ m => c = ch ∧ ∃ M, PSub M m ∧ ∃ Ms, M = appL Ms [] ∧ R Ms
theorem calls_pan {P : Program} {f : FuncId} {d : FnD} {args : List Value} {W0 : World} {S : List Nat} {m0 : List Chunk} {ch : List PanicEntry} {R : List Pc → Prop}
    (hm : P.follows .mixedOrders = true) (hok : okF P f d = true) (hlen : Nat.ble args.length d.n = true) (h0 : Sat W0 S m0 W0)
    (h : WC ⟨P, d.n, W0, S⟩ d.c (argsT 0 args) m0 (fun _ _ => False) ⟨[], fun _ _ => False, panT ch R⟩) : Calls P f args.toArray W0 (panS W0 S ch R) := by
  unfold okF at hok
  split at hok
  · rename_i fn hf
    simp only [Bool.and_eq_true, decide_eq_true_eq] at hok
    obtain ⟨⟨h1, h2⟩, h3⟩ := hok
    split at h3
    · rename_i c hb
      refine calls_of_wp hf hb (wpIn_wide.1 (h hm c h3 none 0 _ _ W0 ?_ h0 ⟨?_, ?_, ?_, ?_⟩))
      · have hlen' : args.length ≤ fn.ntmps := by rw [h1]; exact Nat.le_of_ble_eq_true hlen
        refine ⟨by simp [h1]; omega, rfl, ?_⟩
        intro j v hj
        obtain ⟨_, hj2⟩ := look_argsT args 0 j v hj
        rw [Nat.sub_zero] at hj2
        have hlt : j < args.length := (List.getElem?_eq_some_iff.1 hj2).1
        simp only [Array.getD_eq_getD_getElem?]
        rw [Array.getElem?_append_left (by simpa using hlt)]
        simp [hj2]
      · exact fun t m hk => hk.elim
      · intro id k hk; simp [lookK] at hk
      · exact fun t m hk => hk.elim
      · rintro c' t m ⟨rfl, M, hs, Ms, rfl, hR⟩ a w ha hw
        exact ⟨ha.defers, Ms, rfl, hR, hw.psub hs⟩
    · cases h3
  · cases hok
end Go.Sx
/- The engine, part 28: deferred closures that recover. -/
namespace Go.Sx
open Go Go.RowKit
set_option linter.all false

section
variable {C : Cfg} {t : TS} {m : List Chunk} {kp : List PanicEntry → KN} {kn : KN}
theorem wjp_panV {d : Nat} {x : Operand} {f : FuncId} {args : List Operand} {vs caps : List Value} {mS mr : List Chunk} {ch : List PanicEntry} {R : List Pc → Prop} {r : List J} (hn : cvOk C.P f = true) (hx : ev t x = some (.func (.func f) #[] caps.toArray)) (ha : evL t args = some vs) (hp : List.Perm (mS ++ mr) m)
    (hc : ∀ w, Sat C.W0 C.S m w → Calls C.P f (vs ++ caps).toArray w (panS w (mS.map (·.b)) ch R))
    (h : ∀ Ms, R Ms → kp ch t (appL Ms mr)) : WJP C (.op ⟨some d, none, .cv x args⟩ :: r) t m kp := by
  unfold WJP
  rw [J.flatL, J.flat]
  intro ops lo hok ρ fu Q a w hat hw hq
  cases lo with
  | nil => simp [okL] at hok
  | cons o lo =>
    simp only [List.singleton_append, okL, Bool.and_eq_true] at hok
    obtain ⟨⟨⟨hd, hg⟩, ho⟩, hr⟩ := hok
    have hg' := okGuard_none hg
    unfold wpListIn
    rw [if_pos (wanted_none hg')]
    refine wpIn_of_wp (okOp_nd ho) ?_
    unfold Oper.wp
    rw [run_cvv hn ho (hat.ev hx) (hat.evL ha)]
    simp only [Oper.upon]
    refine (hc w hw).mono ?_
    rintro e w' ⟨Ms, rfl, hR, hs⟩
    have hsat := sat_behind hw hp hs
    rw [appL_eq] at hsat
    exact hq ch t _ (h Ms hR) a w' hat hsat
/-- The act with a deferred call beneath. -/
abbrev dfr (D : Deferred) (a : Act) : Act := { a with defers := a.defers ++ [D] }
theorem reg_defs {id : Nat} {ops : Array Oper} {l : List J} {D : Deferred} {Q : Exit → Act → World → Prop} {a : Act} {w : World} (hok : okC C.P C.n (.region id ops false) (.ops l) = true) (h : WJ C l t m kn) (ha : SatT C.n t a) (hw : Sat C.W0 C.S m w)
    (hk : ∀ t' m', kn t' m' → ∀ a' w', SatT C.n t' a' → Sat C.W0 C.S m' w' → Q .normal (dfr D a') w') : (Code.region id ops false).wpIn (FW none) 0 C.P Q (dfr D a) w := by
  simp only [okC, Bool.and_eq_true, Bool.not_eq_true'] at hok
  exact wpIn_region_list (wpListIn_defs (Q := fun e a w => Q e (dfr D a) w) (fun _ _ _ h => h) ops.toList a w (h ops ops.toList hok.1 none 0 _ a w ha hw hk))
theorem reg_defsP {id : Nat} {ops : Array Oper} {l : List J} {D : Deferred} {Q : Exit → Act → World → Prop} {a : Act} {w : World} (hok : okC C.P C.n (.region id ops false) (.ops l) = true) (h : WJP C l t m kp) (ha : SatT C.n t a) (hw : Sat C.W0 C.S m w)
    (hk : ∀ ch t' m', kp ch t' m' → ∀ a' w', SatT C.n t' a' → Sat C.W0 C.S m' w' → Q (.panic ch) (dfr D a') w') : (Code.region id ops false).wpIn (FW none) 0 C.P Q (dfr D a) w := by
  simp only [okC, Bool.and_eq_true, Bool.not_eq_true'] at hok
  exact wpIn_region_list (wpListIn_defs (Q := fun e a w => Q e (dfr D a) w) (fun _ _ _ h => h) ops.toList a w (h ops ops.toList hok.1 none 0 _ a w ha hw (fun ch t' m' => hk ch t' m')))
end
theorem run_ops {C : Cfg} {c : Code} {l : List J} {t : TS} {m : List Chunk} {kn : KN} {Q : Exit → Act → World → Prop} {a : Act} {w : World} (hm : C.P.follows .mixedOrders = true) (hok : okC C.P C.n c (.ops l) = true) (h : WJ C l t m kn) (ha : SatT C.n t a) (hw : Sat C.W0 C.S m w)
    (hk : ∀ t' m', kn t' m' → ∀ a' w', SatT C.n t' a' → Sat C.W0 C.S m' w' → Q .normal a' w') : c.wpIn (FW none) 0 C.P Q a w :=
  (wc_ops (ke := ⟨[], fun _ _ => False, noP⟩) h) hm c hok none 0 Q a w ha hw ⟨hk, fun id k hk => by simp [lookK] at hk, fun _ _ h => h.elim, fun _ _ _ h => h.elim⟩
theorem satT_args {n k : Nat} {args : List Value} (h1 : k = n) (hl : Nat.ble args.length n = true) : SatT n (argsT 0 args) { tmps := args.toArray ++ Array.replicate (k - args.toArray.size) undef, defers := [] } := by
  have hlen' : args.length ≤ n := Nat.le_of_ble_eq_true hl
  refine ⟨by simp [h1]; omega, rfl, ?_⟩
  intro j v hj
  obtain ⟨_, hj2⟩ := look_argsT args 0 j v hj
  rw [Nat.sub_zero] at hj2
  have hlt : j < args.length := (List.getElem?_eq_some_iff.1 hj2).1
  simp only [Array.getD_eq_getD_getElem?]
  rw [Array.getElem?_append_left (by simpa using hlt)]
  simp [hj2]
/-- A closure is made and its call deferred. -/
theorem wl_mfdef {P : Program} {ops : Array Oper} {o1 o2 : Oper} {Q : Exit → Act → World → Prop} {a : Act} {w : World} {n d : Nat} {G : FuncId} {caps : List Operand} {vs : List Value} {ats : Array TypeId}
    (h1 : okOp P o1 (.mf G caps) = true) (h1d : o1.dst = some d) (h1g : o1.guard = none) (h2o : o2.op = .defer ⟨.value (.tmp d), #[], ats⟩) (h2d : o2.dst = none) (h2g : o2.guard = none) (hd : d < a.tmps.size) (hev : caps.map a.eval = vs) (hdf : a.defers = [])
    (h : Q .normal (dfr ⟨.fn (.func G) vs.toArray, #[]⟩ (a.put (some d) (.func (.func G) #[] vs.toArray))) w) : wpListIn (FW none) n P ops Q [o1, o2] a w := by
  have r1 : (execOp a.eval o1).run P w = .ok (.value (.func (.func G) #[] vs.toArray)) w := by
    simp only [okOp] at h1
    split at h1
    · rename_i f' first captured heq
      simp only [Bool.and_eq_true, Nat.beq_eq] at h1
      obtain ⟨⟨e1, e2⟩, e3⟩ := h1
      subst e1
      have e2' : first = #[] := by simpa using e2
      subst e2'
      have e3' := oeqL_sound e3
      have e : captured.map a.eval = vs.toArray := by
        rw [← hev, ← e3', ← Array.toList_map, Array.toArray_toList]
      simp [execOp, heq, Instr.makeFunc, e]
    · cases h1
  have r2 : (execOp (a.put (some d) (.func (.func G) #[] vs.toArray)).eval o2).run P w = .ok (.defer ⟨.fn (.func G) vs.toArray, #[]⟩) w := by
    have e : (a.put (some d) (.func (.func G) #[] vs.toArray)).eval (.tmp d) = .func (.func G) #[] vs.toArray := by
      show (a.tmps.setIfInBounds d _).getD d undef = _
      rw [getD_set hd, if_pos rfl]
    simp [execOp, h2o, resolve, e, Deferred.ofValue]
  unfold wpListIn
  rw [if_pos (wanted_none h1g)]
  refine ⟨fun _ _ => trivial, ?_⟩
  show Oper.uponIn _ _ _ _ _ _ _ ((execOp a.eval o1).run P w)
  rw [r1]
  show wpListIn (FW none) n P ops Q [o2] _ w
  rw [h1d]
  unfold wpListIn
  rw [if_pos (wanted_none h2g)]
  refine ⟨fun _ _ => trivial, ?_⟩
  show Oper.uponIn _ _ _ _ _ _ _ ((execOp _ o2).run P w)
  rw [r2]
  show wpListIn (FW none) n P ops Q [] _ w
  rw [h2d]
  unfold wpListIn
  have e : (a.put (some d) (.func (.func G) #[] vs.toArray)).defers = [] := hdf
  have e2 : (({ a.put (some d) (.func (.func G) #[] vs.toArray) with defers := (⟨.fn (.func G) vs.toArray, #[]⟩ : Deferred) :: (a.put (some d) (.func (.func G) #[] vs.toArray)).defers } : Act).put none undef) = dfr ⟨.fn (.func G) vs.toArray, #[]⟩ (a.put (some d) (.func (.func G) #[] vs.toArray)) := by
    simp only [Act.put, dfr, e, List.nil_append]
    rw [show a.defers = [] from hdf]; rfl
  rw [e2]
  exact h
/-- A drawn region, where the quiet operations read a part of the memory alone. -/
theorem wc_drawS {C : Cfg} {t : TS} {m0 m : List Chunk} {kn : KN} {ke : KE} {s : Sch} {late : List Nat} (hs : List.Sublist m0 m) (h : WS C s late t m0 m true kn) : WC C (.draw s late) t m kn ke := by
  intro hm c0 hok ρ fu Q a w ha hw hc
  cases c0 <;> first | (simp [okC] at hok; done) | skip
  rename_i id ops draw
  simp only [okC, Bool.and_eq_true, Nat.beq_eq] at hok
  obtain ⟨⟨⟨⟨⟨h1, h2⟩, hnd⟩, h3⟩, h5⟩, h4⟩ := hok
  subst h1
  refine wpIn_region_any hm ?_
  have hcl : Closed ops (Array.replicate ops.size false) := by
    intro j oj hj hl
    rw [Array.getD_eq_getD_getElem?, Array.getElem?_replicate] at hl
    split at hl <;> cases hl
  have H := h ops _ h4 h5 h2 hcl
  rw [h3] at H
  exact wpAny_of_AnyS hnd (fun a' w' ⟨t', m', hk, ha', hw'⟩ => hc.n t' m' hk a' w' ha' hw') _ _ _ H a _ ⟨ha, hw.drew, fun _ => (hw.sublist hs).drew⟩
/-- What was known of captured variables stays known. -/
def KeptV (W w : World) (S : List Nat) : Prop := ∀ c v, c ∉ S → CapV W c v → CapV w c v
theorem Sat.kept {W w : World} {S : List Nat} {m : List Chunk} (h : Sat W S m w) : KeptV W w S := by
  intro c v hS hc
  have h1 := hc
  unfold CapV at h1 ⊢
  rw [← h1]
  unfold World.cell?; simp only [h.fr.block _ (cell_lt h1) hS]
theorem nin {W w : World} {S : List Nat} {m mS mr : List Chunk} {b : Nat} {o : Obj} (h : Sat W S m w) (hp : List.Perm (mS ++ mr) m) (hb : Has b o mr) : b ∉ mS.map (·.b) := by
  have h1 := (h.perm hp).dist
  rw [List.map_append, List.nodup_append] at h1
  intro hc
  exact h1.2.2 b hc b (List.mem_map.2 ⟨_, hb.mem, rfl⟩) rfl
theorem look4 {a0 a1 a2 a3 : Value} {j : Nat} {v : Value} (h : look [(0, a0), (1, a1), (2, a2), (3, a3)] j = some v) : (j = 0 ∧ v = a0) ∨ (j = 1 ∧ v = a1) ∨ (j = 2 ∧ v = a2) ∨ (j = 3 ∧ v = a3) := by
  match j, h with
  | 0, h => exact .inl ⟨rfl, (Option.some.inj (show some a0 = some v from h)).symm⟩
  | 1, h => exact .inr (.inl ⟨rfl, (Option.some.inj (show some a1 = some v from h)).symm⟩)
  | 2, h => exact .inr (.inr (.inl ⟨rfl, (Option.some.inj (show some a2 = some v from h)).symm⟩))
  | 3, h => exact .inr (.inr (.inr ⟨rfl, (Option.some.inj (show some a3 = some v from h)).symm⟩))
  | n + 4, h => exact nomatch (show (none : Option Value) = some v from h)
end Go.Sx
/- Short forms. -/
namespace Go.Proofs.Ytiflckckekjbnaa
open Go Go.Sx Go.RowKit
set_option linter.all false
set_option maxHeartbeats 400000
set_option maxRecDepth 100000
/- farebox/fareboxlaw30.marked -/
def r4_0 : List J := [oj 2 (.mv (.const (.slice none 0 0)))]
def r4_1 : List J := [oj 3 (.mv (.const (.slice none 0 0)))]
def r4_2 : List J := [oj 4 (.mv 3), oj 5 (.mv 0), oj 6 (.app 41 97 104 [.one (.int .i64 0), .ints .u8 32 (List.replicate 32 0), .ints .u8 64 (List.replicate 64 0)] 4 5), oj 3 (.mv 6)]
def r4_3 : List J := [oj 7 (.mv 3), oj 8 (.bd [.one (.int .i64 0), .ints .u8 32 (List.replicate 32 0), .ints .u8 64 (List.replicate 64 0)] [(0, 1, (ci (-7)))]), oj 9 (.bd [.one (.int .i64 0), .ints .u8 32 (List.replicate 32 0), .ints .u8 64 (List.replicate 64 0)] [(0, 1, (ci (-8)))]), oj 10 (.bs 41 2 97 [.one (.int .i64 0), .ints .u8 32 (List.replicate 32 0), .ints .u8 64 (List.replicate 64 0), .one (.int .i64 0), .ints .u8 32 (List.replicate 32 0), .ints .u8 64 (List.replicate 64 0)] [(0, 97, 8), (97, 97, 9)]), oj 11 (.app 41 97 104 [.one (.int .i64 0), .ints .u8 32 (List.replicate 32 0), .ints .u8 64 (List.replicate 64 0)] 7 10), oj 3 (.mv 11)]
def r4_4 : List J := [oj 12 (.mv 3), oj 13 (.mv 0), oj 14 (.len 13), oj 15 (.sls 97 12 none (some 14) none), oj 2 (.mv 15)]
def d4 : FnD := ⟨16, [.tmp 2], (.seq (.ops r4_0) (.seq (.ops r4_1) (.seq (.ops r4_2) (.seq (.ops r4_3) (.seq (.ops r4_4) .ret)))))⟩
theorem ok4 : okF Try.prog 4 d4 = true := by kernel_rfl
/- farebox/wire.NewWriter -/
def r15_0 : List J := [oj 0 (.mv (.const (.pointer none)))]
def r15_1 : List J := [oj 1 (.bd [.one (.slice none 0 0), .one (.int .i64 0)] []), oj 2 (.bx 65 1), oj 0 (.mv 2)]
def d15 : FnD := ⟨3, [.tmp 0], (.seq (.ops r15_0) (.seq (.ops r15_1) .ret))⟩
theorem ok15 : okF Try.prog 15 d15 = true := by kernel_rfl
/- (*farebox/wire.Writer).lay -/
def r33_0 : List J := [oj 4 (.mv 0), oj 5 (.nilc 4), oj 6 (.fa 1 5), oj 7 (.ld 1 false 6), oj 8 (.bin .eql 7 (ci 0))]
def r33_1 : List J := [oj 9 (.mv 0), oj 10 (.mv 0), oj 11 (.nilc 10), oj 12 (.fa 0 11), oj 13 (.ld 1 false 12), oj 14 (.mv 1), oj 15 (.app 5 1 1 [.one (.int .u8 0)] 13 14), oj 16 (.nilc 9), oj 17 (.fa 0 16), on_ (.st 1 17 15)]
def d33 : FnD := ⟨18, [], (.seq (.ops r33_0) (.cond 8 (.ops r33_1) .skip))⟩
theorem ok33 : okF Try.prog 33 d33 = true := by kernel_rfl
/- (*farebox/wire.Writer).Fixed -/
def r16_0 : List J := [oj 4 (.mv 0), oj 5 (.mv 1), oj 6 (.call 33 [4, 5])]
def d16 : FnD := ⟨7, [], (.ops r16_0)⟩
theorem ok16 : okF Try.prog 16 d16 = true := by kernel_rfl
/- farebox/wire.Head -/
def r17_0 : List J := [oj 2 (.mv (.const (.slice none 0 0)))]
def r17_1 : List J := [oj 3 (.mv 0), oj 4 (.bin .lss 3 (ci 1)), oj 5 (.mv 4), .lg true 5 8 none [.op ⟨some 6, (some (5, false)), .mv 0⟩, .op ⟨some 7, (some (5, false)), .bin .gtr 6 (ci 255)⟩] 7]
def r17_2 : List J := [oj 2 (.mv (.const (.slice none 0 0)))]
def r17_3 : List J := [oj 9 (.mv 0), oj 10 (.conv .u8 9), oj 11 (.bs 5 4 1 [.one (.int .u8 0), .one (.int .u8 0), .one (.int .u8 0), .one (.int .u8 0)] [(0, 1, (.const (.int .u8 70))), (1, 1, (.const (.int .u8 66))), (2, 1, (.const (.int .u8 1))), (3, 1, 10)]), oj 2 (.mv 11)]
def d17 : FnD := ⟨12, [.tmp 2], (.seq (.ops r17_0) (.seq (.seq (.ops r17_1) (.cond 8 (.seq (.ops r17_2) .ret) .skip)) (.seq (.ops r17_3) .ret)))⟩
theorem ok17 : okF Try.prog 17 d17 = true := by kernel_rfl
/- (*farebox/wire.Writer).fail -/
def r34_0 : List J := [oj 4 (.mv 0), oj 5 (.nilc 4), oj 6 (.fa 1 5), oj 7 (.ld 1 false 6), oj 8 (.bin .eql 7 (ci 0))]
def r34_1 : List J := [oj 9 (.mv 0), oj 10 (.mv 1), oj 11 (.nilc 9), oj 12 (.fa 1 11), on_ (.st 1 12 10)]
def d34 : FnD := ⟨13, [], (.seq (.ops r34_0) (.cond 8 (.ops r34_1) .skip))⟩
theorem ok34 : okF Try.prog 34 d34 = true := by kernel_rfl
/- (*farebox/wire.Writer).Uint -/
def r35_0 : List J := [oj 4 (.mv 1), oj 5 (.bin .geq 4 (cu 128))]
def r35_1 : List J := [oj 6 (.mv 0), oj 7 (.mv 1), oj 8 (.conv .u8 7), oj 9 (.bin .or 8 (.const (.int .u8 128))), oj 10 (.bs 5 1 1 [.one (.int .u8 0)] [(0, 1, 9)]), oj 11 (.call 33 [6, 10])]
def r35_2 : List J := [oj 12 (.mv 1), oj 13 (.bin .shr 12 (cu 7)), oj 1 (.mv 13)]
def k35_1 : IC := (.seq (.ops r35_1) (.ops r35_2))
def l35_1 : IC := (.seq (.seq (.ops r35_0) (.cond 5 .skip (.exit 0))) (.block 1 k35_1))
def k35_0 : IC := (.loop l35_1)
def r35_3 : List J := [oj 14 (.mv 0), oj 15 (.mv 1), oj 16 (.conv .u8 15), oj 17 (.bs 5 1 1 [.one (.int .u8 0)] [(0, 1, 16)]), oj 18 (.call 33 [14, 17])]
def d35 : FnD := ⟨19, [], (.seq (.block 0 k35_0) (.ops r35_3))⟩
theorem ok35 : okF Try.prog 35 d35 = true := by kernel_rfl
/- farebox/rotate.Encode$1 -/
def r19_0 : List J := [oj 3 (.bx 41 1)]
def r19_1 : List J := [oj 4 (.mv 0), oj 5 (.fa 1 3), oj 6 (.sla 32 1 5 none none none), oj 7 (.call 16 [4, 6])]
def r19_2 : List J := [oj 8 (.mv 0), oj 9 (.fa 33 3), oj 10 (.sla 64 1 9 none none none), oj 11 (.call 16 [8, 10])]
def d19 : FnD := ⟨12, [], (.seq (.ops r19_0) (.seq (.ops r19_1) (.ops r19_2)))⟩
theorem ok19 : okF Try.prog 19 d19 = true := by kernel_rfl
/- farebox/wire.PutList[farebox/api.Link] -/
def r18_0 : List J := [oj 10 (.mv 1), oj 11 (.len 10), oj 12 (.mv 2), oj 13 (.bin .gtr 11 12)]
def r18_1 : List J := [oj 14 (.mv 0), oj 15 (.call 34 [14, (ci 1)])]
def r18_2 : List J := [oj 16 (.mv 0), oj 17 (.mv 1), oj 18 (.len 17), oj 19 (.conv .u64 18), oj 20 (.call 35 [16, 19])]
def r18_3 : List J := [oj 21 (.mv 1), oj 22 (.len 21), oj 23 (.mv (ci 0))]
def r18_4 : List J := [oj 24 (.bin .lss 23 22)]
def r18_5 : List J := [oj 25 (.ias 97 21 23), oj 26 (.ld 97 true 25), oj 9 (.al 41 [.one (.int .i64 0), .ints .u8 32 (List.replicate 32 0), .ints .u8 64 (List.replicate 64 0)]), on_ (.st 97 9 26)]
def r18_6 : List J := [oj 27 (.mv 0), oj 28 (.nilc 27), oj 29 (.fa 1 28), oj 30 (.ld 1 false 29), oj 31 (.bin .neq 30 (ci 0))]
def r18_7 : List J := [oj 32 (.mv 3), oj 33 (.mv 0), oj 34 (.ld 97 true 9), oj 35 (.cv 32 [33, 34])]
def k18_1 : IC := (.seq (.ops r18_5) (.seq (.seq (.ops r18_6) (.cond 31 .ret .skip)) (.ops r18_7)))
def r18_8 : List J := [oj 36 (.bin .add 23 (ci 1)), oj 23 (.mv 36)]
def l18_1 : IC := (.seq (.ops r18_4) (.seq (.cond 24 .skip (.exit 0)) (.seq (.block 1 k18_1) (.ops r18_8))))
def k18_0 : IC := (.loop l18_1)
def d18 : FnD := ⟨37, [], (.seq (.seq (.ops r18_0) (.cond 13 (.ops r18_1) .skip)) (.seq (.ops r18_2) (.seq (.ops r18_3) (.block 0 k18_0))))⟩
theorem ok18 : okF Try.prog 18 d18 = true := by kernel_rfl
/- (*farebox/wire.Writer).Done -/
def r20_0 : List J := [oj 2 (.mv (.const (.slice none 0 0))), oj 3 (.mv (ci 0))]
def r20_1 : List J := [oj 4 (.mv 0), oj 5 (.nilc 4), oj 6 (.fa 1 5), oj 7 (.ld 1 false 6), oj 8 (.bin .neq 7 (ci 0))]
def r20_2 : Sch := (.p [0] (oj 9 (.mv 0)) (.p [1] (oj 10 (.nilc 9)) (.p [2] (oj 11 (.fa 1 10)) (.p [4] (oj 2 (.mv (.const (.slice none 0 0)))) (.q [3] (oj 12 (.ld 1 false 11)) (.p [5] (oj 3 (.mv 12)) .nil))))))
def r20_3 : List J := [oj 13 (.bs 5 0 1 [] []), oj 14 (.mv 0), oj 15 (.nilc 14), oj 16 (.fa 0 15), oj 17 (.ld 1 false 16), oj 18 (.app 5 1 1 [.one (.int .u8 0)] 13 17), oj 2 (.mv 18), oj 3 (.mv (ci 0))]
def d20 : FnD := ⟨19, [.tmp 2, .tmp 3], (.seq (.ops r20_0) (.seq (.seq (.ops r20_1) (.cond 8 (.seq (.draw r20_2 []) .ret) .skip)) (.seq (.ops r20_3) .ret)))⟩
theorem ok20 : okF Try.prog 20 d20 = true := by kernel_rfl
/- farebox/rotate.Encode -/
def r5_0 : List J := [oj 2 (.mv (.const (.slice none 0 0))), oj 3 (.mv (ci 0))]
def r5_1 : List J := [oj 7 (.mv 0), oj 8 (.len 7), oj 9 (.bin .gtr 8 (ci 64))]
def r5_2 : List J := [oj 2 (.mv (.const (.slice none 0 0))), oj 3 (.mv (ci 1))]
def r5_3 : List J := [oj 10 (.mv 0), oj 11 (.len 10), oj 12 (.mv (ci 0))]
def r5_4 : List J := [oj 13 (.bin .lss 12 11)]
def r5_5 : List J := [oj 14 (.mv 12), oj 15 (.ias 97 10 12), oj 16 (.ld 97 true 15), oj 5 (.al 41 [.one (.int .i64 0), .ints .u8 32 (List.replicate 32 0), .ints .u8 64 (List.replicate 64 0)]), oj 4 (.mv 14), on_ (.st 97 5 16)]
def r5_6 : List J := [oj 17 (.fa 0 5), oj 18 (.ld 1 false 17), oj 19 (.mv 4), oj 20 (.bin .add 19 (ci 1)), oj 21 (.bin .neq 18 20)]
def r5_7 : List J := [oj 2 (.mv (.const (.slice none 0 0))), oj 3 (.mv (ci 2))]
def k5_1 : IC := (.seq (.ops r5_5) (.seq (.ops r5_6) (.cond 21 (.seq (.ops r5_7) .ret) .skip)))
def r5_8 : List J := [oj 22 (.bin .add 12 (ci 1)), oj 12 (.mv 22)]
def l5_1 : IC := (.seq (.ops r5_4) (.seq (.cond 13 .skip (.exit 0)) (.seq (.block 1 k5_1) (.ops r5_8))))
def k5_0 : IC := (.loop l5_1)
def r5_9 : List J := [oj 23 (.call 15 []), oj 6 (.mv 23)]
def r5_10 : List J := [oj 24 (.mv 6), oj 25 (.call 17 [(ci 11)]), oj 26 (.call 16 [24, 25])]
def r5_11 : List J := [oj 27 (.mv 6), oj 28 (.mv 0), oj 29 (.call 18 [27, 28, (ci 64), (.func 19)])]
def r5_12 : List J := [oj 30 (.mv 6), oj 31 (.call 20 [30]), oj 32 (.ext 31 0), oj 33 (.ext 31 1), oj 2 (.mv 32), oj 3 (.mv 33)]
def d5 : FnD := ⟨34, [.tmp 2, .tmp 3], (.seq (.ops r5_0) (.seq (.seq (.ops r5_1) (.cond 9 (.seq (.ops r5_2) .ret) .skip)) (.seq (.seq (.ops r5_3) (.block 0 k5_0)) (.seq (.ops r5_9) (.seq (.ops r5_10) (.seq (.ops r5_11) (.seq (.ops r5_12) .ret)))))))⟩
theorem ok5 : okF Try.prog 5 d5 = true := by kernel_rfl
/- (*farebox/fareboxref09.Out).Put -/
def r36_0 : List J := [oj 5 (.mv 0), oj 6 (.nilc 5), oj 7 (.fa 1 6), oj 8 (.ld 1 false 7), oj 9 (.bin .eql 8 (ci 0))]
def r36_1 : List J := [oj 4 (.mv (.const (.slice none 0 0)))]
def r36_2 : List J := [oj 10 (.mv 4), oj 11 (.mv 0), oj 12 (.nilc 11), oj 13 (.fa 0 12), oj 14 (.ld 1 false 13), oj 15 (.app 5 1 1 [.one (.int .u8 0)] 10 14), oj 4 (.mv 15)]
def r36_3 : List J := [oj 16 (.mv 0), oj 17 (.mv 4), oj 18 (.mv 1), oj 19 (.app 5 1 1 [.one (.int .u8 0)] 17 18), oj 20 (.nilc 16), oj 21 (.fa 0 20), on_ (.st 1 21 19)]
def d36 : FnD := ⟨22, [], (.seq (.ops r36_0) (.cond 9 (.seq (.ops r36_1) (.seq (.ops r36_2) (.ops r36_3))) .skip))⟩
theorem ok36 : okF Try.prog 36 d36 = true := by kernel_rfl
/- (*farebox/fareboxref09.Out).Fixed -/
def r21_0 : List J := [oj 4 (.mv 0), oj 5 (.mv 1), oj 6 (.call 36 [4, 5])]
def d21 : FnD := ⟨7, [], (.ops r21_0)⟩
theorem ok21 : okF Try.prog 21 d21 = true := by kernel_rfl
/- farebox/fareboxref09.Head -/
def r22_0 : List J := [oj 2 (.mv (.const (.slice none 0 0)))]
def r22_1 : List J := [oj 3 (.mv 0), oj 4 (.bin .lss 3 (ci 1)), oj 5 (.mv 4), .lg true 5 8 none [.op ⟨some 6, (some (5, false)), .mv 0⟩, .op ⟨some 7, (some (5, false)), .bin .gtr 6 (ci 255)⟩] 7]
def r22_2 : List J := [oj 2 (.mv (.const (.slice none 0 0)))]
def r22_3 : List J := [oj 9 (.mv 0), oj 10 (.conv .u8 9), oj 11 (.bs 5 4 1 [.one (.int .u8 0), .one (.int .u8 0), .one (.int .u8 0), .one (.int .u8 0)] [(0, 1, (.const (.int .u8 70))), (1, 1, (.const (.int .u8 66))), (2, 1, (.const (.int .u8 1))), (3, 1, 10)]), oj 2 (.mv 11)]
def d22 : FnD := ⟨12, [.tmp 2], (.seq (.ops r22_0) (.seq (.seq (.ops r22_1) (.cond 8 (.seq (.ops r22_2) .ret) .skip)) (.seq (.ops r22_3) .ret)))⟩
theorem ok22 : okF Try.prog 22 d22 = true := by kernel_rfl
/- farebox/fareboxref09.Uint -/
def r37_0 : List J := [oj 2 (.mv (.const (.slice none 0 0)))]
def r37_1 : List J := [oj 3 (.mv (.const (.slice none 0 0)))]
def r37_2 : List J := [oj 4 (.mv 0), oj 5 (.bin .geq 4 (cu 128))]
def r37_3 : List J := [oj 6 (.mv 3), oj 7 (.mv 0), oj 8 (.bin .rem 7 (cu 128)), oj 9 (.conv .u8 8), oj 10 (.bin .add 9 (.const (.int .u8 128))), oj 11 (.bs 5 1 1 [.one (.int .u8 0)] [(0, 1, 10)]), oj 12 (.app 5 1 1 [.one (.int .u8 0)] 6 11), oj 3 (.mv 12)]
def r37_4 : List J := [oj 13 (.mv 0), oj 14 (.bin .quo 13 (cu 128)), oj 0 (.mv 14)]
def k37_1 : IC := (.seq (.ops r37_3) (.ops r37_4))
def l37_1 : IC := (.seq (.seq (.ops r37_2) (.cond 5 .skip (.exit 0))) (.block 1 k37_1))
def k37_0 : IC := (.loop l37_1)
def r37_5 : List J := [oj 15 (.mv 3), oj 16 (.mv 0), oj 17 (.conv .u8 16), oj 18 (.bs 5 1 1 [.one (.int .u8 0)] [(0, 1, 17)]), oj 19 (.app 5 1 1 [.one (.int .u8 0)] 15 18), oj 2 (.mv 19)]
def d37 : FnD := ⟨20, [.tmp 2], (.seq (.ops r37_0) (.seq (.ops r37_1) (.seq (.block 0 k37_0) (.seq (.ops r37_5) .ret))))⟩
theorem ok37 : okF Try.prog 37 d37 = true := by kernel_rfl
/- (*farebox/fareboxref09.Out).Uint -/
def r23_0 : List J := [oj 4 (.mv 0), oj 5 (.mv 1), oj 6 (.call 37 [5]), oj 7 (.call 36 [4, 6])]
def d23 : FnD := ⟨8, [], (.ops r23_0)⟩
theorem ok23 : okF Try.prog 23 d23 = true := by kernel_rfl
/- farebox/fareboxref30.Encode -/
def r6_0 : List J := [oj 2 (.mv (.const (.slice none 0 0))), oj 3 (.mv (ci 0))]
def r6_1 : List J := [oj 6 (.mv 0), oj 7 (.len 6), oj 8 (.bin .gtr 7 (ci 64))]
def r6_2 : List J := [oj 2 (.mv (.const (.slice none 0 0))), oj 3 (.mv (ci 1))]
def r6_3 : List J := [oj 4 (.al 51 [.one (.slice none 0 0), .one (.int .i64 0)])]
def r6_4 : List J := [oj 9 (.call 22 [(ci 11)]), oj 10 (.call 21 [4, 9])]
def r6_5 : List J := [oj 11 (.mv 0), oj 12 (.len 11), oj 13 (.conv .u64 12), oj 14 (.call 23 [4, 13])]
def r6_6 : List J := [oj 5 (.mv (ci 0))]
def r6_7 : List J := [oj 15 (.mv 5), oj 16 (.mv 0), oj 17 (.len 16), oj 18 (.bin .lss 15 17)]
def r6_9 : List J := [oj 21 (.mv 0), oj 22 (.mv 5), oj 23 (.ias 97 21 22), oj 24 (.fa 0 23), oj 25 (.ld 1 false 24), oj 26 (.mv 5), oj 27 (.bin .add 26 (ci 1)), oj 28 (.bin .neq 25 27)]
def r6_10 : List J := [oj 2 (.mv (.const (.slice none 0 0))), oj 3 (.mv (ci 2))]
def r6_11 : List J := [oj 29 (.mv 0), oj 30 (.mv 5), oj 31 (.ias 97 29 30), oj 32 (.fa 1 31), oj 33 (.sla 32 1 32 none none none), oj 34 (.call 21 [4, 33])]
def r6_12 : List J := [oj 35 (.mv 0), oj 36 (.mv 5), oj 37 (.ias 97 35 36), oj 38 (.fa 33 37), oj 39 (.sla 64 1 38 none none none), oj 40 (.call 21 [4, 39])]
def k6_1 : IC := (.seq (.seq (.ops r6_9) (.cond 28 (.seq (.ops r6_10) .ret) .skip)) (.seq (.ops r6_11) (.ops r6_12)))
def r6_8 : List J := [oj 19 (.mv 5), oj 20 (.bin .add 19 (ci 1)), oj 5 (.mv 20)]
def l6_1 : IC := (.seq (.seq (.ops r6_7) (.cond 18 .skip (.exit 0))) (.seq (.block 1 k6_1) (.ops r6_8)))
def k6_0 : IC := (.loop l6_1)
def r6_13 : List J := [oj 41 (.fa 0 4), oj 42 (.ld 1 false 41), oj 2 (.mv 42), oj 3 (.mv (ci 0))]
def d6 : FnD := ⟨43, [.tmp 2, .tmp 3], (.seq (.ops r6_0) (.seq (.seq (.ops r6_1) (.cond 8 (.seq (.ops r6_2) .ret) .skip)) (.seq (.ops r6_3) (.seq (.ops r6_4) (.seq (.ops r6_5) (.seq (.seq (.ops r6_6) (.block 0 k6_0)) (.seq (.ops r6_13) .ret)))))))⟩
theorem ok6 : okF Try.prog 6 d6 = true := by kernel_rfl
/- farebox/fareboxlaw30.same -/
def r7_0 : List J := [oj 4 (.mv (.const (.bool false)))]
def r7_1 : List J := [oj 6 (.mv 0), oj 7 (.len 6), oj 8 (.mv 1), oj 9 (.len 8), oj 10 (.bin .neq 7 9)]
def r7_2 : List J := [oj 4 (.mv (.const (.bool false)))]
def r7_3 : List J := [oj 5 (.mv (ci 0))]
def r7_4 : List J := [oj 11 (.mv 5), oj 12 (.mv 0), oj 13 (.len 12), oj 14 (.bin .lss 11 13)]
def r7_6 : Sch := (.p [0] (oj 17 (.mv 0)) (.p [1] (oj 18 (.mv 5)) (.p [2] (oj 19 (.ias 1 17 18)) (.p [4] (oj 21 (.mv 1)) (.p [5] (oj 22 (.mv 5)) (.p [6] (oj 23 (.ias 1 21 22)) (.q [3] (oj 20 (.ld 1 false 19)) (.q [7] (oj 24 (.ld 1 false 23)) (.p [8] (oj 25 (.bin .neq 20 24)) .nil)))))))))
def r7_7 : List J := [oj 4 (.mv (.const (.bool false)))]
def k7_1 : IC := (.seq (.draw r7_6 []) (.cond 25 (.seq (.ops r7_7) .ret) .skip))
def r7_5 : List J := [oj 15 (.mv 5), oj 16 (.bin .add 15 (ci 1)), oj 5 (.mv 16)]
def l7_1 : IC := (.seq (.seq (.ops r7_4) (.cond 14 .skip (.exit 0))) (.seq (.block 1 k7_1) (.ops r7_5)))
def k7_0 : IC := (.loop l7_1)
def r7_8 : List J := [oj 4 (.mv (.const (.bool true)))]
def d7 : FnD := ⟨26, [.tmp 4], (.seq (.ops r7_0) (.seq (.seq (.ops r7_1) (.cond 10 (.seq (.ops r7_2) .ret) .skip)) (.seq (.seq (.ops r7_3) (.block 0 k7_0)) (.seq (.ops r7_8) .ret))))⟩
theorem ok7 : okF Try.prog 7 d7 = true := by kernel_rfl
/- farebox/fareboxlaw30.sameLinks -/
def r13_0 : List J := [oj 4 (.mv (.const (.bool false)))]
def r13_1 : List J := [oj 6 (.mv 0), oj 7 (.len 6), oj 8 (.mv 1), oj 9 (.len 8), oj 10 (.bin .neq 7 9)]
def r13_2 : List J := [oj 4 (.mv (.const (.bool false)))]
def r13_3 : List J := [oj 5 (.mv (ci 0))]
def r13_4 : List J := [oj 11 (.mv 5), oj 12 (.mv 0), oj 13 (.len 12), oj 14 (.bin .lss 11 13)]
def r13_6 : Sch := (.p [0] (oj 17 (.mv 0)) (.p [1] (oj 18 (.mv 5)) (.p [2] (oj 19 (.ias 97 17 18)) (.p [4] (oj 21 (.mv 1)) (.p [5] (oj 22 (.mv 5)) (.p [6] (oj 23 (.ias 97 21 22)) (.q [3] (oj 20 (.ld 97 true 19)) (.q [7] (oj 24 (.ld 97 true 23)) (.p [8] (oj 25 (.eqa true [(.i .i64, 1), (.i .u8, 96)] 20 24)) .nil)))))))))
def r13_7 : List J := [oj 4 (.mv (.const (.bool false)))]
def k13_1 : IC := (.seq (.draw r13_6 []) (.cond 25 (.seq (.ops r13_7) .ret) .skip))
def r13_5 : List J := [oj 15 (.mv 5), oj 16 (.bin .add 15 (ci 1)), oj 5 (.mv 16)]
def l13_1 : IC := (.seq (.seq (.ops r13_4) (.cond 14 .skip (.exit 0))) (.seq (.block 1 k13_1) (.ops r13_5)))
def k13_0 : IC := (.loop l13_1)
def r13_8 : List J := [oj 4 (.mv (.const (.bool true)))]
def d13 : FnD := ⟨26, [.tmp 4], (.seq (.ops r13_0) (.seq (.seq (.ops r13_1) (.cond 10 (.seq (.ops r13_2) .ret) .skip)) (.seq (.seq (.ops r13_3) (.block 0 k13_0)) (.seq (.ops r13_8) .ret))))⟩
theorem ok13 : okF Try.prog 13 d13 = true := by kernel_rfl
/- farebox/fareboxlaw30.left -/
def r8_0 : List J := [oj 4 (.mv (.const (.bool false)))]
def r8_1 : List J := [oj 7 (.mv 1), oj 8 (.len 7), oj 5 (.mv 8)]
def r8_2 : List J := [oj 9 (.mv 0), oj 10 (.mv 5), oj 11 (.bin .add 10 (ci 2)), oj 12 (.sls 97 9 none (some 11) none), oj 6 (.mv 12)]
def r8_3 : List J := [oj 13 (.mv 0), oj 14 (.mv 1), oj 15 (.call 13 [13, 14]), oj 16 (.mv 15), .lg false 16 23 none [.op ⟨some 17, (some (16, true)), .mv 6⟩, .op ⟨some 18, (some (16, true)), .mv 5⟩, .op ⟨some 19, (some (16, true)), .ias 97 17 18⟩, .op ⟨some 20, (some (16, true)), .fa 0 19⟩, .op ⟨some 21, (some (16, true)), .ld 1 false 20⟩, .op ⟨some 22, (some (16, true)), .bin .eql 21 (ci (-7))⟩] 22, oj 24 (.mv 23), .lg false 24 32 none [.op ⟨some 25, (some (24, true)), .mv 6⟩, .op ⟨some 26, (some (24, true)), .mv 5⟩, .op ⟨some 27, (some (24, true)), .bin .add 26 (ci 1)⟩, .op ⟨some 28, (some (24, true)), .ias 97 25 27⟩, .op ⟨some 29, (some (24, true)), .fa 0 28⟩, .op ⟨some 30, (some (24, true)), .ld 1 false 29⟩, .op ⟨some 31, (some (24, true)), .bin .eql 30 (ci (-8))⟩] 31, oj 4 (.mv 32)]
def d8 : FnD := ⟨33, [.tmp 4], (.seq (.ops r8_0) (.seq (.ops r8_1) (.seq (.ops r8_2) (.seq (.ops r8_3) .ret))))⟩
theorem ok8 : okF Try.prog 8 d8 = true := by kernel_rfl
/- farebox/fareboxlaw30.rooms -/
def r9_0 : List J := [oj 4 (.mv (.const (.bool false)))]
def r9_1 : List J := [oj 10 (.mv 0), oj 5 (.mv 10)]
def r9_2 : List J := [oj 11 (.mv 1), oj 6 (.mv 11)]
def r9_3 : List J := [oj 7 (.mv (ci 0))]
def r9_4 : List J := [oj 12 (.mv 7), oj 13 (.bin .lss 12 (ci 64))]
def r9_6 : List J := [oj 16 (.mv 5), oj 17 (.bs 5 1 1 [.one (.int .u8 0)] [(0, 1, (.const (.int .u8 33)))]), oj 18 (.app 5 1 1 [.one (.int .u8 0)] 16 17), oj 5 (.mv 18)]
def k9_1 : IC := (.ops r9_6)
def r9_5 : List J := [oj 14 (.mv 7), oj 15 (.bin .add 14 (ci 1)), oj 7 (.mv 15)]
def l9_1 : IC := (.seq (.seq (.ops r9_4) (.cond 13 .skip (.exit 0))) (.seq (.block 1 k9_1) (.ops r9_5)))
def k9_0 : IC := (.loop l9_1)
def r9_7 : List J := [oj 8 (.mv (ci 0))]
def r9_8 : List J := [oj 19 (.mv 8), oj 20 (.bin .lss 19 (ci 64))]
def r9_10 : List J := [oj 23 (.mv 6), oj 24 (.bs 5 1 1 [.one (.int .u8 0)] [(0, 1, (.const (.int .u8 34)))]), oj 25 (.app 5 1 1 [.one (.int .u8 0)] 23 24), oj 6 (.mv 25)]
def k9_3 : IC := (.ops r9_10)
def r9_9 : List J := [oj 21 (.mv 8), oj 22 (.bin .add 21 (ci 1)), oj 8 (.mv 22)]
def l9_2 : IC := (.seq (.seq (.ops r9_8) (.cond 20 .skip (.exit 2))) (.seq (.block 3 k9_3) (.ops r9_9)))
def k9_2 : IC := (.loop l9_2)
def r9_11 : List J := [oj 26 (.mv 0), oj 27 (.len 26), oj 9 (.mv 27)]
def r9_12 : List J := [oj 28 (.mv 9), oj 29 (.mv 5), oj 30 (.len 29), oj 31 (.bin .lss 28 30)]
def r9_14 : List J := [oj 34 (.mv 5), oj 35 (.mv 9), oj 36 (.ias 1 34 35), oj 37 (.ld 1 false 36), oj 38 (.bin .neq 37 (.const (.int .u8 33)))]
def r9_15 : List J := [oj 4 (.mv (.const (.bool false)))]
def k9_5 : IC := (.seq (.ops r9_14) (.cond 38 (.seq (.ops r9_15) .ret) .skip))
def r9_13 : List J := [oj 32 (.mv 9), oj 33 (.bin .add 32 (ci 1)), oj 9 (.mv 33)]
def l9_3 : IC := (.seq (.seq (.ops r9_12) (.cond 31 .skip (.exit 4))) (.seq (.block 5 k9_5) (.ops r9_13)))
def k9_4 : IC := (.loop l9_3)
def r9_16 : List J := [oj 39 (.mv 6), oj 40 (.len 39), oj 41 (.mv 1), oj 42 (.len 41), oj 43 (.bin .add 42 (ci 64)), oj 44 (.bin .eql 40 43), oj 4 (.mv 44)]
def d9 : FnD := ⟨45, [.tmp 4], (.seq (.ops r9_0) (.seq (.ops r9_1) (.seq (.ops r9_2) (.seq (.seq (.ops r9_3) (.block 0 k9_0)) (.seq (.seq (.ops r9_7) (.block 2 k9_2)) (.seq (.seq (.ops r9_11) (.block 4 k9_4)) (.seq (.ops r9_16) .ret)))))))⟩
theorem ok9 : okF Try.prog 9 d9 = true := by kernel_rfl
/- farebox/fareboxlaw30.turned -/
def r24_0 : List J := [oj 2 (.mv (.const (.slice none 0 0)))]
def r24_1 : List J := [oj 7 (.mv 0), oj 8 (.len 7), oj 3 (.mv 8)]
def r24_2 : List J := [oj 4 (.mv (ci 0))]
def r24_3 : List J := [oj 9 (.mv 4), oj 10 (.mv 3), oj 11 (.bin .quo 10 (ci 2)), oj 12 (.bin .lss 9 11)]
def r24_5 : List J := [oj 15 (.mv 0), oj 16 (.mv 4), oj 17 (.ias 97 15 16), oj 18 (.ld 97 true 17), oj 5 (.al 41 [.one (.int .i64 0), .ints .u8 32 (List.replicate 32 0), .ints .u8 64 (List.replicate 64 0)]), on_ (.st 97 5 18)]
def r24_6 : List J := [oj 19 (.mv 0), oj 20 (.mv 4), oj 21 (.mv 0), oj 22 (.mv 3), oj 23 (.bin .sub 22 (ci 1)), oj 24 (.mv 4), oj 25 (.bin .sub 23 24), oj 26 (.ias 97 21 25), oj 27 (.ld 97 true 26), oj 28 (.ias 97 19 20), on_ (.st 97 28 27)]
def r24_7 : List J := [oj 29 (.mv 0), oj 30 (.mv 3), oj 31 (.bin .sub 30 (ci 1)), oj 32 (.mv 4), oj 33 (.bin .sub 31 32), oj 34 (.ld 97 true 5), oj 35 (.ias 97 29 33), on_ (.st 97 35 34)]
def k24_1 : IC := (.seq (.ops r24_5) (.seq (.ops r24_6) (.ops r24_7)))
def r24_4 : List J := [oj 13 (.mv 4), oj 14 (.bin .add 13 (ci 1)), oj 4 (.mv 14)]
def l24_1 : IC := (.seq (.seq (.ops r24_3) (.cond 12 .skip (.exit 0))) (.seq (.block 1 k24_1) (.ops r24_4)))
def k24_0 : IC := (.loop l24_1)
def r24_8 : List J := [oj 6 (.mv (.const (.slice none 0 0)))]
def r24_9 : List J := [oj 36 (.mv 6), oj 37 (.mv 0), oj 38 (.app 41 97 104 [.one (.int .i64 0), .ints .u8 32 (List.replicate 32 0), .ints .u8 64 (List.replicate 64 0)] 36 37), oj 2 (.mv 38)]
def d24 : FnD := ⟨39, [.tmp 2], (.seq (.ops r24_0) (.seq (.ops r24_1) (.seq (.seq (.ops r24_2) (.block 0 k24_0)) (.seq (.ops r24_8) (.seq (.ops r24_9) .ret)))))⟩
theorem ok24 : okF Try.prog 24 d24 = true := by kernel_rfl
/- farebox/fareboxlaw30.encodedAgain -/
def r10_0 : List J := [oj 4 (.mv (.const (.bool false)))]
def r10_1 : List J := [oj 11 (.mv 0), oj 12 (.call 24 [11]), oj 5 (.mv 12)]
def r10_2 : List J := [oj 14 (.mv 0), oj 15 (.call 5 [14]), oj 13 (.mv 15), oj 16 (.ext 13 0), oj 17 (.ext 13 1), oj 6 (.mv 16), oj 7 (.mv 17)]
def r10_3 : List J := [oj 19 (.mv 5), oj 20 (.call 6 [19]), oj 18 (.mv 20), oj 21 (.ext 18 0), oj 22 (.ext 18 1), oj 8 (.mv 21), oj 9 (.mv 22)]
def r10_4 : List J := [oj 23 (.mv 6), oj 24 (.mv 8), oj 25 (.call 7 [23, 24]), oj 26 (.mv 25), .lg false 26 30 none [.op ⟨some 27, (some (26, true)), .mv 7⟩, .op ⟨some 28, (some (26, true)), .mv 9⟩, .op ⟨some 29, (some (26, true)), .bin .eql 27 28⟩] 29, oj 31 (.mv 30), .lg false 31 35 none [.op ⟨some 32, (some (31, true)), .mv 0⟩, .op ⟨some 33, (some (31, true)), .mv 5⟩, .op ⟨some 34, (some (31, true)), .call 8 [32, 33]⟩] 34, oj 10 (.mv 35)]
def r10_5 : List J := [oj 36 (.mv 0), oj 37 (.call 24 [36])]
def r10_6 : List J := [oj 38 (.mv 10), oj 39 (.mv 38), .lg false 39 43 none [.op ⟨some 40, (some (39, true)), .mv 0⟩, .op ⟨some 41, (some (39, true)), .mv 1⟩, .op ⟨some 42, (some (39, true)), .call 8 [40, 41]⟩] 42, oj 4 (.mv 43)]
def d10 : FnD := ⟨44, [.tmp 4], (.seq (.ops r10_0) (.seq (.ops r10_1) (.seq (.ops r10_2) (.seq (.ops r10_3) (.seq (.ops r10_4) (.seq (.ops r10_5) (.seq (.ops r10_6) .ret)))))))⟩
theorem ok10 : okF Try.prog 10 d10 = true := by kernel_rfl
/- farebox/bits.Equal -/
def r38_0 : List J := [oj 4 (.mv (.const (.bool false)))]
def r38_1 : List J := [oj 7 (.mv 0), oj 8 (.len 7), oj 9 (.mv 1), oj 10 (.len 9), oj 11 (.bin .neq 8 10)]
def r38_2 : List J := [oj 4 (.mv (.const (.bool false)))]
def r38_3 : List J := [oj 5 (.mv (.const (.int .u8 0)))]
def r38_4 : List J := [oj 12 (.mv 0), oj 13 (.len 12), oj 14 (.mv (ci 0))]
def r38_5 : List J := [oj 15 (.bin .lss 14 13)]
def r38_6 : List J := [oj 16 (.mv 14), oj 6 (.mv 16)]
def r38_7 : Sch := (.p [0] (oj 17 (.mv 5)) (.p [1] (oj 18 (.mv 0)) (.p [2] (oj 19 (.mv 6)) (.p [3] (oj 20 (.ias 1 18 19)) (.p [5] (oj 22 (.mv 1)) (.p [6] (oj 23 (.mv 6)) (.p [7] (oj 24 (.ias 1 22 23)) (.q [4] (oj 21 (.ld 1 false 20)) (.q [8] (oj 25 (.ld 1 false 24)) (.p [9] (oj 26 (.bin .xor 21 25)) (.p [10] (oj 27 (.bin .or 17 26)) (.p [11] (oj 5 (.mv 27)) .nil))))))))))))
def k38_1 : IC := (.seq (.ops r38_6) (.draw r38_7 []))
def r38_8 : List J := [oj 28 (.bin .add 14 (ci 1)), oj 14 (.mv 28)]
def l38_1 : IC := (.seq (.ops r38_5) (.seq (.cond 15 .skip (.exit 0)) (.seq (.block 1 k38_1) (.ops r38_8))))
def k38_0 : IC := (.loop l38_1)
def r38_9 : List J := [oj 29 (.mv 5), oj 30 (.bin .eql 29 (.const (.int .u8 0))), oj 4 (.mv 30)]
def d38 : FnD := ⟨31, [.tmp 4], (.seq (.ops r38_0) (.seq (.seq (.ops r38_1) (.cond 11 (.seq (.ops r38_2) .ret) .skip)) (.seq (.ops r38_3) (.seq (.seq (.ops r38_4) (.block 0 k38_0)) (.seq (.ops r38_9) .ret)))))⟩
theorem ok38 : okF Try.prog 38 d38 = true := by kernel_rfl
/- farebox/wire.ReadHead -/
def r25_0 : List J := [oj 2 (.mv (ci 0)), oj 3 (.mv (ci 0)), oj 4 (.mv (ci 0))]
def r25_1 : Sch := (.p [0] (oj 5 (.mv 0)) (.p [1] (oj 6 (.len 5)) (.p [2] (oj 7 (.bin .lss 6 (ci 4))) (.p [3] (oj 8 (.mv 7)) (.q [4, 5, 6, 7, 8] (.lg true 8 13 none [.op ⟨some 9, (some (8, false)), .mv 0⟩, .op ⟨some 10, (some (8, false)), .ias 1 9 (ci 3)⟩, .op ⟨some 11, (some (8, false)), .ld 1 false 10⟩, .op ⟨some 12, (some (8, false)), .bin .eql 11 (.const (.int .u8 0))⟩] 12) (.p [9] (oj 14 (.mv 13)) (.p [10] (.op ⟨some 15, (some (14, false)), .mv 0⟩) (.p [11] (.op ⟨some 16, (some (14, false)), .sls 1 15 none (some (ci 4)) none⟩) (.p [12] (.op ⟨some 17, (some (14, false)), .mv 0⟩) (.p [13] (.op ⟨some 18, (some (14, false)), .ias 1 17 (ci 3)⟩) (.q [14] (.op ⟨some 19, (some (14, false)), .ld 1 false 18⟩) (.p [15] (.op ⟨some 20, (some (14, false)), .conv .i64 19⟩) (.e 16 ⟨some 21, (some (14, false)), .call 17 [20]⟩ (.e 17 ⟨some 22, (some (14, false)), .call 38 [16, 21]⟩ (.p [18] (.op ⟨some 23, (some (14, false)), .un .not 22⟩) (.p [19] (oj 24 (.pick 14 (.const (.bool true)) 23)) .nil))))))))))))))))
def r25_2 : List J := [oj 2 (.mv (ci 0)), oj 3 (.mv (ci 0)), oj 4 (.mv (ci 90))]
def r25_3 : List J := [oj 25 (.mv 0), oj 26 (.ias 1 25 (ci 3)), oj 27 (.ld 1 false 26), oj 28 (.conv .i64 27), oj 2 (.mv 28), oj 3 (.mv (ci 4)), oj 4 (.mv (ci 0))]
def d25 : FnD := ⟨29, [.tmp 2, .tmp 3, .tmp 4], (.seq (.ops r25_0) (.seq (.seq (.draw r25_1 []) (.cond 24 (.seq (.ops r25_2) .ret) .skip)) (.seq (.ops r25_3) .ret)))⟩
theorem ok25 : okF Try.prog 25 d25 = true := by kernel_rfl
/- farebox/wire.NewReader -/
def r26_0 : List J := [oj 2 (.mv (.const (.pointer none)))]
def r26_1 : List J := [oj 3 (.bs 5 0 1 [] []), oj 4 (.mv 0), oj 5 (.app 5 1 1 [.one (.int .u8 0)] 3 4), oj 6 (.bd [.one (.slice none 0 0), .one (.int .i64 0), .one (.int .i64 0)] [(0, 1, 5)]), oj 7 (.bx 71 6), oj 2 (.mv 7)]
def d26 : FnD := ⟨8, [.tmp 2], (.seq (.ops r26_0) (.seq (.ops r26_1) .ret))⟩
theorem ok26 : okF Try.prog 26 d26 = true := by kernel_rfl
/- (*farebox/wire.Reader).Left -/
def r42_0 : List J := [oj 2 (.mv (ci 0))]
def r42_1 : Sch := (.p [0] (oj 3 (.mv 0)) (.p [1] (oj 4 (.nilc 3)) (.p [2] (oj 5 (.fa 0 4)) (.p [5] (oj 8 (.mv 0)) (.p [6] (oj 9 (.nilc 8)) (.p [7] (oj 10 (.fa 1 9)) (.q [3] (oj 6 (.ld 1 false 5)) (.p [4] (oj 7 (.len 6)) (.q [8] (oj 11 (.ld 1 false 10)) (.p [9] (oj 12 (.bin .sub 7 11)) (.p [10] (oj 2 (.mv 12)) .nil)))))))))))
def d42 : FnD := ⟨13, [.tmp 2], (.seq (.ops r42_0) (.seq (.draw r42_1 []) .ret))⟩
theorem ok42 : okF Try.prog 42 d42 = true := by kernel_rfl
/- (*farebox/wire.Reader).take -/
def r45_0 : List J := [oj 4 (.mv (.const (.slice none 0 0)))]
def r45_1 : Sch := (.p [0] (oj 5 (.mv 1)) (.p [1] (oj 6 (.bin .lss 5 (ci 0))) (.p [2] (oj 7 (.mv 6)) (.q [3, 4, 5, 6, 7, 8, 9, 10, 11, 12, 13, 14, 15] (.lg true 7 20 none [.op ⟨some 8, (some (7, false)), .mv 1⟩, .op ⟨some 9, (some (7, false)), .mv 0⟩, .op ⟨some 10, (some (7, false)), .nilc 9⟩, .op ⟨some 11, (some (7, false)), .fa 0 10⟩, .op ⟨some 12, (some (7, false)), .ld 1 false 11⟩, .op ⟨some 13, (some (7, false)), .len 12⟩, .op ⟨some 14, (some (7, false)), .mv 0⟩, .op ⟨some 15, (some (7, false)), .nilc 14⟩, .op ⟨some 16, (some (7, false)), .fa 1 15⟩, .op ⟨some 17, (some (7, false)), .ld 1 false 16⟩, .op ⟨some 18, (some (7, false)), .bin .sub 13 17⟩, .op ⟨some 19, (some (7, false)), .bin .gtr 8 18⟩] 19) .nil))))
def r45_2 : List J := [oj 21 (.bd [.one (.int .i64 0)] [(0, 1, (ci 90))]), oj 22 (.mi 76 21), on_ (.pnc 22)]
def r45_3 : List J := [oj 23 (.mv 0), oj 24 (.nilc 23), oj 25 (.fa 1 24), oj 26 (.ld 1 false 25), oj 27 (.mv 1), oj 28 (.bin .add 26 27), oj 29 (.nilc 23), oj 30 (.fa 1 29), on_ (.st 1 30 28)]
def r45_4 : Sch := (.p [1] (oj 32 (.mv 0)) (.p [2] (oj 33 (.nilc 32)) (.p [3] (oj 34 (.fa 0 33)) (.p [5] (oj 36 (.mv 0)) (.p [6] (oj 37 (.nilc 36)) (.p [7] (oj 38 (.fa 1 37)) (.p [9] (oj 40 (.mv 1)) (.p [11] (oj 42 (.mv 0)) (.p [12] (oj 43 (.nilc 42)) (.p [13] (oj 44 (.fa 1 43)) (.q [4] (oj 35 (.ld 1 false 34)) (.q [8] (oj 39 (.ld 1 false 38)) (.p [10] (oj 41 (.bin .sub 39 40)) (.q [14] (oj 45 (.ld 1 false 44)) (.p [15] (oj 46 (.sls 1 35 (some 41) (some 45) none)) (.e 0 (oi 31 (.bs 5 0 1 [] [])) (.e 16 (oi 47 (.app 5 1 1 [.one (.int .u8 0)] 31 46)) (.p [17] (oj 4 (.mv 47)) .nil))))))))))))))))))
def d45 : FnD := ⟨48, [.tmp 4], (.seq (.ops r45_0) (.seq (.seq (.draw r45_1 []) (.cond 20 (.ops r45_2) .skip)) (.seq (.ops r45_3) (.seq (.draw r45_4 [16]) .ret))))⟩
theorem ok45 : okF Try.prog 45 d45 = true := by kernel_rfl
/- (*farebox/wire.Reader).short -/
def r47_0 : List J := [oj 2 (.mv (cu 0))]
def r47_1 : List J := [oj 3 (.mv (cu 0))]
def r47_2 : List J := [oj 4 (.mv (ci 0))]
def r47_4 : List J := [oj 8 (.mv 0), oj 9 (.call 45 [8, (ci 1)]), oj 10 (.ias 1 9 (ci 0)), oj 11 (.ld 1 false 10), oj 5 (.mv 11)]
def r47_5 : List J := [oj 12 (.mv 4), oj 13 (.bin .eql 12 (ci 63)), oj 14 (.mv 13), .lg false 14 17 none [.op ⟨some 15, (some (14, true)), .mv 5⟩, .op ⟨some 16, (some (14, true)), .bin .gtr 15 (.const (.int .u8 1))⟩] 16, oj 18 (.mv 17), .lg true 18 25 none [.op ⟨some 19, (some (18, false)), .mv 4⟩, .op ⟨some 20, (some (18, false)), .bin .gtr 19 (ci 0)⟩, .op ⟨some 21, (some (18, false)), .mv 20⟩, .lg false 21 24 (some (18, false)) [.op ⟨some 22, (some (21, true)), .mv 5⟩, .op ⟨some 23, (some (21, true)), .bin .eql 22 (.const (.int .u8 0))⟩] 23] 24]
def r47_6 : List J := [oj 26 (.bd [.one (.int .i64 0)] [(0, 1, (ci 90))]), oj 27 (.mi 76 26), on_ (.pnc 27)]
def r47_7 : List J := [oj 28 (.mv 3), oj 29 (.mv 5), oj 30 (.bin .and 29 (.const (.int .u8 127))), oj 31 (.conv .u64 30), oj 32 (.mv 4), oj 33 (.bin .shl 31 32), oj 34 (.bin .or 28 33), oj 3 (.mv 34)]
def r47_8 : List J := [oj 35 (.mv 5), oj 36 (.bin .lss 35 (.const (.int .u8 128)))]
def r47_9 : List J := [oj 37 (.mv 3), oj 2 (.mv 37)]
def k47_1 : IC := (.seq (.ops r47_4) (.seq (.seq (.ops r47_5) (.cond 25 (.ops r47_6) .skip)) (.seq (.ops r47_7) (.seq (.ops r47_8) (.cond 36 (.seq (.ops r47_9) .ret) .skip)))))
def r47_3 : List J := [oj 6 (.mv 4), oj 7 (.bin .add 6 (ci 7)), oj 4 (.mv 7)]
def l47_1 : IC := (.seq (.block 1 k47_1) (.ops r47_3))
def k47_0 : IC := (.loop l47_1)
def d47 : FnD := ⟨38, [.tmp 2], (.seq (.ops r47_0) (.seq (.ops r47_1) (.seq (.ops r47_2) (.block 0 k47_0))))⟩
theorem ok47 : okF Try.prog 47 d47 = true := by kernel_rfl
/- (*farebox/wire.Reader).count -/
def r41_0 : List J := [oj 4 (.mv (ci 0))]
def r41_1 : List J := [oj 6 (.mv 0), oj 7 (.call 47 [6]), oj 5 (.mv 7)]
def r41_2 : List J := [oj 8 (.mv 1), oj 9 (.bin .lss 8 (ci 0)), oj 10 (.mv 9), .lg true 10 15 none [.op ⟨some 11, (some (10, false)), .mv 5⟩, .op ⟨some 12, (some (10, false)), .mv 1⟩, .op ⟨some 13, (some (10, false)), .conv .u64 12⟩, .op ⟨some 14, (some (10, false)), .bin .gtr 11 13⟩] 14]
def r41_3 : List J := [oj 16 (.bd [.one (.int .i64 0)] [(0, 1, (ci 1))]), oj 17 (.mi 76 16), on_ (.pnc 17)]
def r41_4 : List J := [oj 18 (.mv 5), oj 19 (.conv .i64 18), oj 4 (.mv 19)]
def d41 : FnD := ⟨20, [.tmp 4], (.seq (.ops r41_0) (.seq (.ops r41_1) (.seq (.seq (.ops r41_2) (.cond 15 (.ops r41_3) .skip)) (.seq (.ops r41_4) .ret))))⟩
theorem ok41 : okF Try.prog 41 d41 = true := by kernel_rfl
/- (*farebox/wire.Reader).Fixed$1 -/
def r44_0 : List J := [oj 2 (.mv (.const (.slice none 0 0)))]
def r44_1 : List J := [oj 3 (.ld 1 false 0), oj 4 (.ld 1 false 1), oj 5 (.call 45 [3, 4]), oj 2 (.mv 5)]
def d44 : FnD := ⟨6, [.tmp 2], (.seq (.ops r44_0) (.seq (.ops r44_1) .ret))⟩
theorem ok44 : okF Try.prog 44 d44 = true := by kernel_rfl
/- farebox/wire.GetList[farebox/api.Link]$1 -/
def r40_0 : List J := [oj 2 (.mv (ci 0))]
def r40_1 : List J := [oj 4 (.ld 1 false 0), oj 5 (.ld 1 false 1), oj 6 (.call 41 [4, 5]), oj 3 (.mv 6)]
def r40_2 : List J := [oj 7 (.mv 3), oj 8 (.ld 1 false 0), oj 9 (.call 42 [8]), oj 10 (.bin .gtr 7 9)]
def r40_3 : List J := [oj 11 (.bd [.one (.int .i64 0)] [(0, 1, (ci 90))]), oj 12 (.mi 76 11), on_ (.pnc 12)]
def r40_4 : List J := [oj 13 (.mv 3), oj 2 (.mv 13)]
def d40 : FnD := ⟨14, [.tmp 2], (.seq (.ops r40_0) (.seq (.ops r40_1) (.seq (.seq (.ops r40_2) (.cond 10 (.ops r40_3) .skip)) (.seq (.ops r40_4) .ret))))⟩
theorem ok40 : okF Try.prog 40 d40 = true := by kernel_rfl
/- farebox/wire.caught[[]byte] -/
def r43_0 : List J := [oj 2 (.bx 56 0), oj 4 (.mv (.const (.slice none 0 0)))]
def r43_1 : List J := [oj 6 (.ld 1 false 2), oj 7 (.nilc 6), oj 8 (.fa 1 7), oj 9 (.ld 1 false 8), oj 5 (.al 3 [.one (.int .i64 0)]), on_ (.st 1 5 9)]
def r43_3 : List J := [oj 11 (.ld 1 false 2), oj 12 (.nilc 11), oj 13 (.fa 2 12), oj 14 (.ld 1 false 13), oj 15 (.bin .neq 14 (ci 0))]
def r43_4 : List J := [oj 16 (.mv 4), oj 4 (.mv 16)]
def r43_5 : List J := [oj 17 (.mv 1), oj 18 (.cv 17 []), oj 4 (.mv 18)]
/- farebox/wire.caught[int] -/
def r39_0 : List J := [oj 2 (.bx 56 0), oj 4 (.mv (ci 0))]
def r39_1 : List J := [oj 6 (.ld 1 false 2), oj 7 (.nilc 6), oj 8 (.fa 1 7), oj 9 (.ld 1 false 8), oj 5 (.al 3 [.one (.int .i64 0)]), on_ (.st 1 5 9)]
def r39_3 : List J := [oj 11 (.ld 1 false 2), oj 12 (.nilc 11), oj 13 (.fa 2 12), oj 14 (.ld 1 false 13), oj 15 (.bin .neq 14 (ci 0))]
def r39_4 : List J := [oj 16 (.mv 4), oj 4 (.mv 16)]
def r39_5 : List J := [oj 17 (.mv 1), oj 18 (.cv 17 []), oj 4 (.mv 18)]
/- (*farebox/wire.Reader).Fixed -/
def r29_0 : List J := [oj 2 (.bx 56 0), oj 3 (.bx 3 1), oj 4 (.mv (.const (.slice none 0 0)))]
def r29_1 : List J := [oj 5 (.ld 1 false 2), oj 6 (.mf 44 [2, 3]), oj 7 (.call 43 [5, 6]), oj 4 (.mv 7)]
def d29 : FnD := ⟨8, [.tmp 4], (.seq (.ops r29_0) (.seq (.ops r29_1) .ret))⟩
theorem ok29 : okF Try.prog 29 d29 = true := by kernel_rfl
/- farebox/rotate.Decode$1 -/
def r28_0 : List J := [oj 2 (.al 41 [.one (.int .i64 0), .ints .u8 32 (List.replicate 32 0), .ints .u8 64 (List.replicate 64 0)])]
def r28_1 : List J := [oj 3 (.al 41 [.one (.int .i64 0), .ints .u8 32 (List.replicate 32 0), .ints .u8 64 (List.replicate 64 0)])]
def r28_2 : Sch := (.p [0] (oj 4 (.fa 1 3)) (.p [1] (oj 5 (.sla 32 1 4 none none none)) (.p [2] (oj 6 (.mv 0)) (.e 3 (oi 7 (.call 29 [6, (ci 32)])) (.e 4 (oi 8 (.cpy 1 5 7)) .nil)))))
def r28_3 : Sch := (.p [0] (oj 9 (.fa 33 3)) (.p [1] (oj 10 (.sla 64 1 9 none none none)) (.p [2] (oj 11 (.mv 0)) (.e 3 (oi 12 (.call 29 [11, (ci 64)])) (.e 4 (oi 13 (.cpy 1 10 12)) .nil)))))
def r28_4 : List J := [oj 14 (.ld 97 true 3), on_ (.st 97 2 14)]
def d28 : FnD := ⟨15, [.cell 2 97 true], (.seq (.ops r28_0) (.seq (.ops r28_1) (.seq (.draw r28_2 [3, 4]) (.seq (.draw r28_3 [3, 4]) (.seq (.ops r28_4) .ret)))))⟩
theorem ok28 : okF Try.prog 28 d28 = true := by kernel_rfl
/- farebox/wire.GetList[farebox/api.Link] -/
def r27_0 : List J := [oj 3 (.bx 56 0), oj 4 (.bx 3 1), oj 6 (.mv (.const (.slice none 0 0)))]
def r27_1 : List J := [oj 10 (.ld 1 false 3), oj 11 (.mf 40 [3, 4]), oj 12 (.call 39 [10, 11]), oj 7 (.mv 12)]
def r27_2 : List J := [oj 8 (.mv (.const (.slice none 0 0)))]
def r27_3 : List J := [oj 13 (.mv 7), oj 14 (.mv (ci 0))]
def r27_4 : List J := [oj 15 (.bin .lss 14 13)]
def r27_5 : List J := [oj 16 (.mv 2), oj 17 (.ld 1 false 3), oj 18 (.cv 16 [17]), oj 9 (.al 41 [.one (.int .i64 0), .ints .u8 32 (List.replicate 32 0), .ints .u8 64 (List.replicate 64 0)]), on_ (.st 97 9 18)]
def r27_6 : List J := [oj 19 (.ld 1 false 3), oj 20 (.nilc 19), oj 21 (.fa 2 20), oj 22 (.ld 1 false 21), oj 23 (.bin .neq 22 (ci 0))]
def r27_7 : List J := [oj 6 (.mv (.const (.slice none 0 0)))]
def r27_8 : List J := [oj 24 (.mv 8), oj 25 (.ld 97 true 9), oj 26 (.bs 41 1 97 [.one (.int .i64 0), .ints .u8 32 (List.replicate 32 0), .ints .u8 64 (List.replicate 64 0)] [(0, 97, 25)]), oj 27 (.app 41 97 104 [.one (.int .i64 0), .ints .u8 32 (List.replicate 32 0), .ints .u8 64 (List.replicate 64 0)] 24 26), oj 8 (.mv 27)]
def k27_1 : IC := (.seq (.ops r27_5) (.seq (.seq (.ops r27_6) (.cond 23 (.seq (.ops r27_7) .ret) .skip)) (.ops r27_8)))
def r27_9 : List J := [oj 28 (.bin .add 14 (ci 1)), oj 14 (.mv 28)]
def l27_1 : IC := (.seq (.ops r27_4) (.seq (.cond 15 .skip (.exit 0)) (.seq (.block 1 k27_1) (.ops r27_9))))
def k27_0 : IC := (.loop l27_1)
def r27_10 : List J := [oj 29 (.mv 8), oj 6 (.mv 29)]
def d27 : FnD := ⟨30, [.tmp 6], (.seq (.ops r27_0) (.seq (.ops r27_1) (.seq (.ops r27_2) (.seq (.seq (.ops r27_3) (.block 0 k27_0)) (.seq (.ops r27_10) .ret)))))⟩
theorem ok27 : okF Try.prog 27 d27 = true := by kernel_rfl
/- (*farebox/wire.Reader).Done -/
def r30_0 : List J := [oj 2 (.mv (ci 0))]
def r30_1 : List J := [oj 3 (.mv 0), oj 4 (.nilc 3), oj 5 (.fa 2 4), oj 6 (.ld 1 false 5), oj 7 (.bin .eql 6 (ci 0)), oj 8 (.mv 7), .op ⟨some 9, (some (8, true)), .mv 0⟩, .op ⟨some 10, (some (8, true)), .call 42 [9]⟩, .op ⟨some 11, (some (8, true)), .bin .gtr 10 (ci 0)⟩, oj 12 (.pick 8 11 (.const (.bool false)))]
def r30_2 : List J := [oj 2 (.mv (ci 90))]
def r30_3 : List J := [oj 13 (.mv 0), oj 14 (.nilc 13), oj 15 (.fa 2 14), oj 16 (.ld 1 false 15), oj 2 (.mv 16)]
def d30 : FnD := ⟨17, [.tmp 2], (.seq (.ops r30_0) (.seq (.seq (.ops r30_1) (.cond 12 (.seq (.ops r30_2) .ret) .skip)) (.seq (.ops r30_3) .ret)))⟩
theorem ok30 : okF Try.prog 30 d30 = true := by kernel_rfl
/- farebox/rotate.Decode -/
def r11_0 : List J := [oj 2 (.mv (.const (.slice none 0 0))), oj 3 (.mv (ci 0))]
def r11_1 : List J := [oj 10 (.mv 0), oj 11 (.len 10), oj 12 (.bin .gtr 11 (ci 6149))]
def r11_2 : List J := [oj 2 (.mv (.const (.slice none 0 0))), oj 3 (.mv (ci 1))]
def r11_3 : List J := [oj 14 (.mv 0), oj 15 (.call 25 [14]), oj 13 (.mv 15), oj 16 (.ext 13 0), oj 17 (.ext 13 1), oj 18 (.ext 13 2), oj 4 (.mv 16), oj 5 (.mv 17), oj 6 (.mv 18)]
def r11_4 : List J := [oj 20 (.mv 6), oj 21 (.bin .neq 20 (ci 0)), oj 19 (.mv 21)]
def r11_5 : List J := [oj 22 (.mv 6), oj 2 (.mv (.const (.slice none 0 0))), oj 3 (.mv 22)]
def r11_6 : List J := [oj 24 (.mv 4), oj 25 (.bin .neq 24 (ci 11)), oj 23 (.mv 25)]
def r11_7 : List J := [oj 2 (.mv (.const (.slice none 0 0))), oj 3 (.mv (ci 91))]
def k11_0 : IC := (.seq (.ops r11_4) (.cond 19 (.seq (.ops r11_5) .ret) (.seq (.ops r11_6) (.cond 23 (.seq (.ops r11_7) .ret) .skip))))
def r11_8 : List J := [oj 26 (.mv 0), oj 27 (.mv 5), oj 28 (.sls 1 26 (some 27) none none), oj 29 (.call 26 [28]), oj 7 (.mv 29)]
def r11_9 : List J := [oj 30 (.mv 7), oj 31 (.call 27 [30, (ci 64), (.func 28)]), oj 8 (.mv 31)]
def r11_10 : List J := [oj 32 (.mv 7), oj 33 (.call 30 [32]), oj 34 (.bin .neq 33 (ci 0))]
def r11_11 : List J := [oj 2 (.mv (.const (.slice none 0 0))), oj 3 (.mv (ci 90))]
def r11_12 : List J := [oj 35 (.mv 8), oj 36 (.len 35), oj 37 (.mv (ci 0))]
def r11_13 : List J := [oj 38 (.bin .lss 37 36)]
def r11_14 : List J := [oj 39 (.mv 37), oj 9 (.mv 39)]
def r11_15 : List J := [oj 40 (.mv 8), oj 41 (.mv 9), oj 42 (.mv 9), oj 43 (.bin .add 42 (ci 1)), oj 44 (.ias 97 40 41), oj 45 (.fa 0 44), on_ (.st 1 45 43)]
def k11_2 : IC := (.seq (.ops r11_14) (.ops r11_15))
def r11_16 : List J := [oj 46 (.bin .add 37 (ci 1)), oj 37 (.mv 46)]
def l11_1 : IC := (.seq (.ops r11_13) (.seq (.cond 38 .skip (.exit 1)) (.seq (.block 2 k11_2) (.ops r11_16))))
def k11_1 : IC := (.loop l11_1)
def r11_17 : List J := [oj 47 (.mv 8), oj 2 (.mv 47), oj 3 (.mv (ci 0))]
def d11 : FnD := ⟨48, [.tmp 2, .tmp 3], (.seq (.ops r11_0) (.seq (.seq (.ops r11_1) (.cond 12 (.seq (.ops r11_2) .ret) .skip)) (.seq (.ops r11_3) (.seq (.block 0 k11_0) (.seq (.ops r11_8) (.seq (.ops r11_9) (.seq (.seq (.ops r11_10) (.cond 34 (.seq (.ops r11_11) .ret) .skip)) (.seq (.seq (.ops r11_12) (.block 1 k11_1)) (.seq (.ops r11_17) .ret)))))))))⟩
theorem ok11 : okF Try.prog 11 d11 = true := by kernel_rfl
/- farebox/fareboxref09.ReadHead -/
def r31_0 : List J := [oj 2 (.mv (ci 0)), oj 3 (.mv (ci 0)), oj 4 (.mv (ci 0))]
def r31_1 : List J := [oj 5 (.mv 0), oj 6 (.len 5), oj 7 (.bin .lss 6 (ci 4)), oj 8 (.mv 7), .lg true 8 13 none [.op ⟨some 9, (some (8, false)), .mv 0⟩, .op ⟨some 10, (some (8, false)), .ias 1 9 (ci 0)⟩, .op ⟨some 11, (some (8, false)), .ld 1 false 10⟩, .op ⟨some 12, (some (8, false)), .bin .neq 11 (.const (.int .u8 70))⟩] 12, oj 14 (.mv 13), .lg true 14 19 none [.op ⟨some 15, (some (14, false)), .mv 0⟩, .op ⟨some 16, (some (14, false)), .ias 1 15 (ci 1)⟩, .op ⟨some 17, (some (14, false)), .ld 1 false 16⟩, .op ⟨some 18, (some (14, false)), .bin .neq 17 (.const (.int .u8 66))⟩] 18, oj 20 (.mv 19), .lg true 20 25 none [.op ⟨some 21, (some (20, false)), .mv 0⟩, .op ⟨some 22, (some (20, false)), .ias 1 21 (ci 2)⟩, .op ⟨some 23, (some (20, false)), .ld 1 false 22⟩, .op ⟨some 24, (some (20, false)), .bin .neq 23 (.const (.int .u8 1))⟩] 24, oj 26 (.mv 25), .lg true 26 31 none [.op ⟨some 27, (some (26, false)), .mv 0⟩, .op ⟨some 28, (some (26, false)), .ias 1 27 (ci 3)⟩, .op ⟨some 29, (some (26, false)), .ld 1 false 28⟩, .op ⟨some 30, (some (26, false)), .bin .eql 29 (.const (.int .u8 0))⟩] 30]
def r31_2 : List J := [oj 2 (.mv (ci 0)), oj 3 (.mv (ci 0)), oj 4 (.mv (ci 90))]
def r31_3 : List J := [oj 32 (.mv 0), oj 33 (.ias 1 32 (ci 3)), oj 34 (.ld 1 false 33), oj 35 (.conv .i64 34), oj 2 (.mv 35), oj 3 (.mv (ci 4)), oj 4 (.mv (ci 0))]
def d31 : FnD := ⟨36, [.tmp 2, .tmp 3, .tmp 4], (.seq (.ops r31_0) (.seq (.seq (.ops r31_1) (.cond 31 (.seq (.ops r31_2) .ret) .skip)) (.seq (.ops r31_3) .ret)))⟩
theorem ok31 : okF Try.prog 31 d31 = true := by kernel_rfl
/- farebox/fareboxref30.link -/
def r32_0 : List J := [oj 4 (.al 41 [.one (.int .i64 0), .ints .u8 32 (List.replicate 32 0), .ints .u8 64 (List.replicate 64 0)])]
def r32_1 : List J := [oj 8 (.mv 1), oj 9 (.bd [.one (.int .i64 0), .ints .u8 32 (List.replicate 32 0), .ints .u8 64 (List.replicate 64 0)] [(0, 1, 8)]), oj 5 (.al 41 [.one (.int .i64 0), .ints .u8 32 (List.replicate 32 0), .ints .u8 64 (List.replicate 64 0)]), on_ (.st 97 5 9)]
def r32_2 : List J := [oj 6 (.mv (ci 0))]
def r32_3 : List J := [oj 10 (.mv 6), oj 11 (.bin .lss 10 (ci 32))]
def r32_5 : List J := [oj 14 (.mv 6), oj 15 (.mv 0), oj 16 (.mv 6), oj 17 (.ias 1 15 16), oj 18 (.ld 1 false 17), oj 19 (.fa 1 5), oj 20 (.ia 32 1 19 14), on_ (.st 1 20 18)]
def k32_1 : IC := (.ops r32_5)
def r32_4 : List J := [oj 12 (.mv 6), oj 13 (.bin .add 12 (ci 1)), oj 6 (.mv 13)]
def l32_1 : IC := (.seq (.seq (.ops r32_3) (.cond 11 .skip (.exit 0))) (.seq (.block 1 k32_1) (.ops r32_4)))
def k32_0 : IC := (.loop l32_1)
def r32_6 : List J := [oj 7 (.mv (ci 0))]
def r32_7 : List J := [oj 21 (.mv 7), oj 22 (.bin .lss 21 (ci 64))]
def r32_9 : List J := [oj 25 (.mv 7), oj 26 (.mv 0), oj 27 (.mv 7), oj 28 (.bin .add (ci 32) 27), oj 29 (.ias 1 26 28), oj 30 (.ld 1 false 29), oj 31 (.fa 33 5), oj 32 (.ia 64 1 31 25), on_ (.st 1 32 30)]
def k32_3 : IC := (.ops r32_9)
def r32_8 : List J := [oj 23 (.mv 7), oj 24 (.bin .add 23 (ci 1)), oj 7 (.mv 24)]
def l32_2 : IC := (.seq (.seq (.ops r32_7) (.cond 22 .skip (.exit 2))) (.seq (.block 3 k32_3) (.ops r32_8)))
def k32_2 : IC := (.loop l32_2)
def r32_10 : List J := [oj 33 (.ld 97 true 5), on_ (.st 97 4 33)]
def d32 : FnD := ⟨34, [.cell 4 97 true], (.seq (.ops r32_0) (.seq (.ops r32_1) (.seq (.seq (.ops r32_2) (.block 0 k32_0)) (.seq (.seq (.ops r32_6) (.block 2 k32_2)) (.seq (.ops r32_10) .ret)))))⟩
theorem ok32 : okF Try.prog 32 d32 = true := by kernel_rfl
/- farebox/fareboxref30.Decode -/
def r12_0 : List J := [oj 2 (.mv (.const (.slice none 0 0))), oj 3 (.mv (ci 0))]
def r12_1 : List J := [oj 9 (.mv 0), oj 10 (.len 9), oj 11 (.bin .gtr 10 (ci 6149))]
def r12_2 : List J := [oj 2 (.mv (.const (.slice none 0 0))), oj 3 (.mv (ci 1))]
def r12_3 : List J := [oj 13 (.mv 0), oj 14 (.call 31 [13]), oj 12 (.mv 14), oj 15 (.ext 12 0), oj 16 (.ext 12 1), oj 17 (.ext 12 2), oj 4 (.mv 15), oj 5 (.mv 16), oj 6 (.mv 17)]
def r12_4 : List J := [oj 18 (.mv 6), oj 19 (.bin .neq 18 (ci 0))]
def r12_5 : List J := [oj 20 (.mv 6), oj 2 (.mv (.const (.slice none 0 0))), oj 3 (.mv 20)]
def r12_6 : List J := [oj 21 (.mv 4), oj 22 (.bin .neq 21 (ci 11))]
def r12_7 : List J := [oj 2 (.mv (.const (.slice none 0 0))), oj 3 (.mv (ci 91))]
def r12_8 : List J := [oj 23 (.mv 0), oj 24 (.len 23), oj 25 (.bin .lss 24 (ci 5)), oj 26 (.mv 25), .lg true 26 31 none [.op ⟨some 27, (some (26, false)), .mv 0⟩, .op ⟨some 28, (some (26, false)), .ias 1 27 (ci 4)⟩, .op ⟨some 29, (some (26, false)), .ld 1 false 28⟩, .op ⟨some 30, (some (26, false)), .bin .gtr 29 (.const (.int .u8 64))⟩] 30, oj 32 (.mv 31), .lg true 32 42 none [.op ⟨some 33, (some (32, false)), .mv 0⟩, .op ⟨some 34, (some (32, false)), .len 33⟩, .op ⟨some 35, (some (32, false)), .mv 0⟩, .op ⟨some 36, (some (32, false)), .ias 1 35 (ci 4)⟩, .op ⟨some 37, (some (32, false)), .ld 1 false 36⟩, .op ⟨some 38, (some (32, false)), .conv .i64 37⟩, .op ⟨some 39, (some (32, false)), .bin .mul (ci 96) 38⟩, .op ⟨some 40, (some (32, false)), .bin .add (ci 5) 39⟩, .op ⟨some 41, (some (32, false)), .bin .neq 34 40⟩] 41]
def r12_9 : List J := [oj 2 (.mv (.const (.slice none 0 0))), oj 3 (.mv (ci 90))]
def r12_10 : List J := [oj 7 (.mv (.const (.slice none 0 0)))]
def r12_11 : List J := [oj 8 (.mv (ci 0))]
def r12_12 : List J := [oj 43 (.mv 8), oj 44 (.mv 0), oj 45 (.ias 1 44 (ci 4)), oj 46 (.ld 1 false 45), oj 47 (.conv .i64 46), oj 48 (.bin .lss 43 47)]
def r12_14 : List J := [oj 51 (.mv 7), oj 52 (.mv 0), oj 53 (.mv 8), oj 54 (.bin .mul (ci 96) 53), oj 55 (.bin .add (ci 5) 54), oj 56 (.sls 1 52 (some 55) none none), oj 57 (.mv 8), oj 58 (.bin .add 57 (ci 1)), oj 59 (.call 32 [56, 58]), oj 60 (.bs 41 1 97 [.one (.int .i64 0), .ints .u8 32 (List.replicate 32 0), .ints .u8 64 (List.replicate 64 0)] [(0, 97, 59)]), oj 61 (.app 41 97 104 [.one (.int .i64 0), .ints .u8 32 (List.replicate 32 0), .ints .u8 64 (List.replicate 64 0)] 51 60), oj 7 (.mv 61)]
def k12_1 : IC := (.ops r12_14)
def r12_13 : List J := [oj 49 (.mv 8), oj 50 (.bin .add 49 (ci 1)), oj 8 (.mv 50)]
def l12_1 : IC := (.seq (.seq (.ops r12_12) (.cond 48 .skip (.exit 0))) (.seq (.block 1 k12_1) (.ops r12_13)))
def k12_0 : IC := (.loop l12_1)
def r12_15 : List J := [oj 62 (.mv 7), oj 2 (.mv 62), oj 3 (.mv (ci 0))]
def d12 : FnD := ⟨63, [.tmp 2, .tmp 3], (.seq (.ops r12_0) (.seq (.seq (.ops r12_1) (.cond 11 (.seq (.ops r12_2) .ret) .skip)) (.seq (.ops r12_3) (.seq (.seq (.ops r12_4) (.cond 19 (.seq (.ops r12_5) .ret) .skip)) (.seq (.seq (.ops r12_6) (.cond 22 (.seq (.ops r12_7) .ret) .skip)) (.seq (.seq (.ops r12_8) (.cond 42 (.seq (.ops r12_9) .ret) .skip)) (.seq (.ops r12_10) (.seq (.seq (.ops r12_11) (.block 0 k12_0)) (.seq (.ops r12_15) .ret)))))))))⟩
theorem ok12 : okF Try.prog 12 d12 = true := by kernel_rfl
/- farebox/fareboxlaw30.linkRooms -/
def r14_0 : List J := [oj 4 (.mv (.const (.bool false)))]
def r14_1 : List J := [oj 10 (.mv 0), oj 5 (.mv 10)]
def r14_2 : List J := [oj 11 (.mv 1), oj 6 (.mv 11)]
def r14_3 : List J := [oj 7 (.mv (ci 0))]
def r14_4 : List J := [oj 12 (.mv 7), oj 13 (.bin .lss 12 (ci 64))]
def r14_6 : List J := [oj 16 (.mv 5), oj 17 (.bd [.one (.int .i64 0), .ints .u8 32 (List.replicate 32 0), .ints .u8 64 (List.replicate 64 0)] [(0, 1, (ci (-21)))]), oj 18 (.bs 41 1 97 [.one (.int .i64 0), .ints .u8 32 (List.replicate 32 0), .ints .u8 64 (List.replicate 64 0)] [(0, 97, 17)]), oj 19 (.app 41 97 104 [.one (.int .i64 0), .ints .u8 32 (List.replicate 32 0), .ints .u8 64 (List.replicate 64 0)] 16 18), oj 5 (.mv 19)]
def k14_1 : IC := (.ops r14_6)
def r14_5 : List J := [oj 14 (.mv 7), oj 15 (.bin .add 14 (ci 1)), oj 7 (.mv 15)]
def l14_1 : IC := (.seq (.seq (.ops r14_4) (.cond 13 .skip (.exit 0))) (.seq (.block 1 k14_1) (.ops r14_5)))
def k14_0 : IC := (.loop l14_1)
def r14_7 : List J := [oj 8 (.mv (ci 0))]
def r14_8 : List J := [oj 20 (.mv 8), oj 21 (.bin .lss 20 (ci 64))]
def r14_10 : List J := [oj 24 (.mv 6), oj 25 (.bd [.one (.int .i64 0), .ints .u8 32 (List.replicate 32 0), .ints .u8 64 (List.replicate 64 0)] [(0, 1, (ci (-22)))]), oj 26 (.bs 41 1 97 [.one (.int .i64 0), .ints .u8 32 (List.replicate 32 0), .ints .u8 64 (List.replicate 64 0)] [(0, 97, 25)]), oj 27 (.app 41 97 104 [.one (.int .i64 0), .ints .u8 32 (List.replicate 32 0), .ints .u8 64 (List.replicate 64 0)] 24 26), oj 6 (.mv 27)]
def k14_3 : IC := (.ops r14_10)
def r14_9 : List J := [oj 22 (.mv 8), oj 23 (.bin .add 22 (ci 1)), oj 8 (.mv 23)]
def l14_2 : IC := (.seq (.seq (.ops r14_8) (.cond 21 .skip (.exit 2))) (.seq (.block 3 k14_3) (.ops r14_9)))
def k14_2 : IC := (.loop l14_2)
def r14_11 : List J := [oj 28 (.mv 0), oj 29 (.len 28), oj 9 (.mv 29)]
def r14_12 : List J := [oj 30 (.mv 9), oj 31 (.mv 5), oj 32 (.len 31), oj 33 (.bin .lss 30 32)]
def r14_14 : List J := [oj 36 (.mv 5), oj 37 (.mv 9), oj 38 (.ias 97 36 37), oj 39 (.ld 97 true 38), oj 40 (.bd [.one (.int .i64 0), .ints .u8 32 (List.replicate 32 0), .ints .u8 64 (List.replicate 64 0)] [(0, 1, (ci (-21)))]), oj 41 (.eqa true [(.i .i64, 1), (.i .u8, 96)] 39 40)]
def r14_15 : List J := [oj 4 (.mv (.const (.bool false)))]
def k14_5 : IC := (.seq (.ops r14_14) (.cond 41 (.seq (.ops r14_15) .ret) .skip))
def r14_13 : List J := [oj 34 (.mv 9), oj 35 (.bin .add 34 (ci 1)), oj 9 (.mv 35)]
def l14_3 : IC := (.seq (.seq (.ops r14_12) (.cond 33 .skip (.exit 4))) (.seq (.block 5 k14_5) (.ops r14_13)))
def k14_4 : IC := (.loop l14_3)
def r14_16 : List J := [oj 42 (.mv 6), oj 43 (.len 42), oj 44 (.mv 1), oj 45 (.len 44), oj 46 (.bin .add 45 (ci 64)), oj 47 (.bin .eql 43 46), oj 4 (.mv 47)]
def d14 : FnD := ⟨48, [.tmp 4], (.seq (.ops r14_0) (.seq (.ops r14_1) (.seq (.ops r14_2) (.seq (.seq (.ops r14_3) (.block 0 k14_0)) (.seq (.seq (.ops r14_7) (.block 2 k14_2)) (.seq (.seq (.ops r14_11) (.block 4 k14_4)) (.seq (.ops r14_16) .ret)))))))⟩
theorem ok14 : okF Try.prog 14 d14 = true := by kernel_rfl
/- farebox/fareboxlaw30.RotateBytes -/
def r3_0 : List J := [oj 4 (.mv (.const (.bool false)))]
def r3_1 : List J := [oj 32 (.mv 0), oj 33 (.call 4 [32]), oj 5 (.mv 33)]
def r3_2 : List J := [oj 35 (.mv 5), oj 36 (.call 5 [35]), oj 34 (.mv 36), oj 37 (.ext 34 0), oj 38 (.ext 34 1), oj 6 (.mv 37), oj 7 (.mv 38)]
def r3_3 : List J := [oj 40 (.mv 0), oj 41 (.call 6 [40]), oj 39 (.mv 41), oj 42 (.ext 39 0), oj 43 (.ext 39 1), oj 8 (.mv 42), oj 9 (.mv 43)]
def r3_4 : List J := [oj 45 (.mv 5), oj 46 (.call 5 [45]), oj 44 (.mv 46), oj 47 (.ext 44 0), oj 48 (.ext 44 1), oj 10 (.mv 47), oj 11 (.mv 48)]
def r3_5 : List J := [oj 49 (.mv 6), oj 50 (.mv 8), oj 51 (.call 7 [49, 50]), oj 52 (.un .not 51), oj 53 (.mv 52), .lg true 53 57 none [.op ⟨some 54, (some (53, false)), .mv 7⟩, .op ⟨some 55, (some (53, false)), .mv 9⟩, .op ⟨some 56, (some (53, false)), .bin .neq 54 55⟩] 56, oj 58 (.mv 57), .lg true 58 63 none [.op ⟨some 59, (some (58, false)), .mv 5⟩, .op ⟨some 60, (some (58, false)), .mv 0⟩, .op ⟨some 61, (some (58, false)), .call 8 [59, 60]⟩, .op ⟨some 62, (some (58, false)), .un .not 61⟩] 62]
def r3_6 : List J := [oj 4 (.mv (.const (.bool false)))]
def r3_7 : List J := [oj 12 (.mv (ci 0))]
def r3_8 : List J := [oj 64 (.mv 12), oj 65 (.mv 6), oj 66 (.len 65), oj 67 (.bin .lss 64 66)]
def r3_10 : List J := [oj 70 (.mv 6), oj 71 (.mv 12), oj 72 (.ias 1 70 71), on_ (.st 1 72 (.const (.int .u8 51)))]
def k3_1 : IC := (.ops r3_10)
def r3_9 : List J := [oj 68 (.mv 12), oj 69 (.bin .add 68 (ci 1)), oj 12 (.mv 69)]
def l3_1 : IC := (.seq (.seq (.ops r3_8) (.cond 67 .skip (.exit 0))) (.seq (.block 1 k3_1) (.ops r3_9)))
def k3_0 : IC := (.loop l3_1)
def r3_11 : List J := [oj 73 (.mv 6), oj 13 (.mv 73)]
def r3_12 : List J := [oj 14 (.mv (ci 0))]
def r3_13 : List J := [oj 74 (.mv 14), oj 75 (.bin .lss 74 (ci 200))]
def r3_15 : List J := [oj 78 (.mv 13), oj 79 (.bs 5 1 1 [.one (.int .u8 0)] [(0, 1, (.const (.int .u8 68)))]), oj 80 (.app 5 1 1 [.one (.int .u8 0)] 78 79), oj 13 (.mv 80)]
def k3_3 : IC := (.ops r3_15)
def r3_14 : List J := [oj 76 (.mv 14), oj 77 (.bin .add 76 (ci 1)), oj 14 (.mv 77)]
def l3_2 : IC := (.seq (.seq (.ops r3_13) (.cond 75 .skip (.exit 2))) (.seq (.block 3 k3_3) (.ops r3_14)))
def k3_2 : IC := (.loop l3_2)
def r3_16 : List J := [oj 81 (.mv 13), oj 82 (.len 81), oj 83 (.mv 8), oj 84 (.len 83), oj 85 (.bin .add 84 (ci 200)), oj 86 (.bin .neq 82 85), oj 87 (.mv 86), .lg true 87 92 none [.op ⟨some 88, (some (87, false)), .mv 10⟩, .op ⟨some 89, (some (87, false)), .mv 8⟩, .op ⟨some 90, (some (87, false)), .call 7 [88, 89]⟩, .op ⟨some 91, (some (87, false)), .un .not 90⟩] 91, oj 93 (.mv 92), .op ⟨some 94, (some (93, false)), .mv 6⟩, .op ⟨some 95, (some (93, false)), .mv 10⟩, .op ⟨some 96, (some (93, false)), .call 9 [94, 95]⟩, .op ⟨some 97, (some (93, false)), .un .not 96⟩, oj 98 (.pick 93 (.const (.bool true)) 97), oj 99 (.mv 98), .op ⟨some 100, (some (99, false)), .mv 5⟩, .op ⟨some 101, (some (99, false)), .mv 0⟩, .op ⟨some 102, (some (99, false)), .call 10 [100, 101]⟩, .op ⟨some 103, (some (99, false)), .un .not 102⟩, oj 104 (.pick 99 (.const (.bool true)) 103)]
def r3_17 : List J := [oj 4 (.mv (.const (.bool false)))]
def r3_18 : List J := [oj 15 (.mv (.const (.slice none 0 0)))]
def r3_19 : List J := [oj 105 (.mv 15), oj 106 (.mv 1), oj 107 (.app 5 1 1 [.one (.int .u8 0)] 105 106), oj 15 (.mv 107)]
def r3_20 : List J := [oj 108 (.mv 15), oj 109 (.bs 5 1 1 [.one (.int .u8 0)] [(0, 1, (.const (.int .u8 165)))]), oj 110 (.app 5 1 1 [.one (.int .u8 0)] 108 109), oj 15 (.mv 110)]
def r3_21 : List J := [oj 111 (.mv 1), oj 112 (.len 111), oj 16 (.mv 112)]
def r3_22 : List J := [oj 114 (.mv 15), oj 115 (.mv 16), oj 116 (.sls 1 114 none (some 115) none), oj 117 (.call 11 [116]), oj 113 (.mv 117), oj 118 (.ext 113 0), oj 119 (.ext 113 1), oj 17 (.mv 118), oj 18 (.mv 119)]
def r3_23 : List J := [oj 121 (.mv 1), oj 122 (.call 12 [121]), oj 120 (.mv 122), oj 123 (.ext 120 0), oj 124 (.ext 120 1), oj 19 (.mv 123), oj 20 (.mv 124)]
def r3_24 : List J := [oj 125 (.mv 17), oj 126 (.mv 19), oj 127 (.call 13 [125, 126]), oj 128 (.un .not 127), oj 129 (.mv 128), .lg true 129 133 none [.op ⟨some 130, (some (129, false)), .mv 18⟩, .op ⟨some 131, (some (129, false)), .mv 20⟩, .op ⟨some 132, (some (129, false)), .bin .neq 130 131⟩] 132, oj 134 (.mv 133), .lg true 134 141 none [.op ⟨some 135, (some (134, false)), .mv 15⟩, .op ⟨some 136, (some (134, false)), .mv 16⟩, .op ⟨some 137, (some (134, false)), .sls 1 135 none (some 136) none⟩, .op ⟨some 138, (some (134, false)), .mv 1⟩, .op ⟨some 139, (some (134, false)), .call 7 [137, 138]⟩, .op ⟨some 140, (some (134, false)), .un .not 139⟩] 140, oj 142 (.mv 141), .lg true 142 148 none [.op ⟨some 143, (some (142, false)), .mv 15⟩, .op ⟨some 144, (some (142, false)), .mv 16⟩, .op ⟨some 145, (some (142, false)), .ias 1 143 144⟩, .op ⟨some 146, (some (142, false)), .ld 1 false 145⟩, .op ⟨some 147, (some (142, false)), .bin .neq 146 (.const (.int .u8 165))⟩] 147]
def r3_25 : List J := [oj 4 (.mv (.const (.bool false)))]
def r3_26 : List J := [oj 150 (.mv 15), oj 151 (.mv 16), oj 152 (.sls 1 150 none (some 151) none), oj 153 (.call 11 [152]), oj 149 (.mv 153), oj 154 (.ext 149 0), oj 155 (.ext 149 1), oj 21 (.mv 154), oj 22 (.mv 155)]
def r3_27 : List J := [oj 23 (.mv (ci 0))]
def r3_28 : List J := [oj 156 (.mv 23), oj 157 (.mv 16), oj 158 (.bin .lss 156 157)]
def r3_30 : List J := [oj 161 (.mv 15), oj 162 (.mv 23), oj 163 (.mv 15), oj 164 (.mv 23), oj 165 (.ias 1 163 164), oj 166 (.ld 1 false 165), oj 167 (.bin .add 166 (.const (.int .u8 1))), oj 168 (.ias 1 161 162), on_ (.st 1 168 167)]
def k3_5 : IC := (.ops r3_30)
def r3_29 : List J := [oj 159 (.mv 23), oj 160 (.bin .add 159 (ci 1)), oj 23 (.mv 160)]
def l3_3 : IC := (.seq (.seq (.ops r3_28) (.cond 158 .skip (.exit 4))) (.seq (.block 5 k3_5) (.ops r3_29)))
def k3_4 : IC := (.loop l3_3)
def r3_31 : List J := [oj 169 (.mv 17), oj 170 (.mv 19), oj 171 (.call 13 [169, 170]), oj 172 (.un .not 171), oj 173 (.mv 172), .lg true 173 178 none [.op ⟨some 174, (some (173, false)), .mv 21⟩, .op ⟨some 175, (some (173, false)), .mv 19⟩, .op ⟨some 176, (some (173, false)), .call 13 [174, 175]⟩, .op ⟨some 177, (some (173, false)), .un .not 176⟩] 177]
def r3_32 : List J := [oj 4 (.mv (.const (.bool false)))]
def r3_33 : List J := [oj 24 (.mv (ci 0))]
def r3_34 : List J := [oj 179 (.mv 24), oj 180 (.mv 17), oj 181 (.len 180), oj 182 (.bin .lss 179 181)]
def r3_36 : List J := [oj 185 (.mv 17), oj 186 (.mv 24), oj 187 (.bd [.one (.int .i64 0), .ints .u8 32 (List.replicate 32 0), .ints .u8 64 (List.replicate 64 0)] [(0, 1, (ci (-9)))]), oj 188 (.ias 97 185 186), on_ (.st 97 188 187)]
def k3_7 : IC := (.ops r3_36)
def r3_35 : List J := [oj 183 (.mv 24), oj 184 (.bin .add 183 (ci 1)), oj 24 (.mv 184)]
def l3_4 : IC := (.seq (.seq (.ops r3_34) (.cond 182 .skip (.exit 6))) (.seq (.block 7 k3_7) (.ops r3_35)))
def k3_6 : IC := (.loop l3_4)
def r3_37 : List J := [oj 189 (.mv 17), oj 25 (.mv 189)]
def r3_38 : List J := [oj 26 (.mv (ci 0))]
def r3_39 : List J := [oj 190 (.mv 26), oj 191 (.bin .lss 190 (ci 8))]
def r3_41 : List J := [oj 194 (.mv 25), oj 195 (.bd [.one (.int .i64 0), .ints .u8 32 (List.replicate 32 0), .ints .u8 64 (List.replicate 64 0)] [(0, 1, (ci (-10)))]), oj 196 (.bs 41 1 97 [.one (.int .i64 0), .ints .u8 32 (List.replicate 32 0), .ints .u8 64 (List.replicate 64 0)] [(0, 97, 195)]), oj 197 (.app 41 97 104 [.one (.int .i64 0), .ints .u8 32 (List.replicate 32 0), .ints .u8 64 (List.replicate 64 0)] 194 196), oj 25 (.mv 197)]
def k3_9 : IC := (.ops r3_41)
def r3_40 : List J := [oj 192 (.mv 26), oj 193 (.bin .add 192 (ci 1)), oj 26 (.mv 193)]
def l3_5 : IC := (.seq (.seq (.ops r3_39) (.cond 191 .skip (.exit 8))) (.seq (.block 9 k3_9) (.ops r3_40)))
def k3_8 : IC := (.loop l3_5)
def r3_42 : List J := [oj 27 (.mv (.const (.slice none 0 0)))]
def r3_43 : List J := [oj 198 (.mv 27), oj 199 (.mv 15), oj 200 (.mv 16), oj 201 (.sls 1 199 none (some 200) none), oj 202 (.app 5 1 1 [.one (.int .u8 0)] 198 201), oj 27 (.mv 202)]
def r3_44 : List J := [oj 204 (.mv 15), oj 205 (.mv 16), oj 206 (.sls 1 204 none (some 205) none), oj 207 (.call 11 [206]), oj 203 (.mv 207), oj 208 (.ext 203 0), oj 209 (.ext 203 1), oj 28 (.mv 208), oj 29 (.mv 209)]
def r3_45 : List J := [oj 211 (.mv 27), oj 212 (.call 12 [211]), oj 210 (.mv 212), oj 213 (.ext 210 0), oj 214 (.ext 210 1), oj 30 (.mv 213), oj 31 (.mv 214)]
def r3_46 : List J := [oj 215 (.mv 28), oj 216 (.mv 30), oj 217 (.call 13 [215, 216]), oj 218 (.mv 217), .lg false 218 222 none [.op ⟨some 219, (some (218, true)), .mv 29⟩, .op ⟨some 220, (some (218, true)), .mv 31⟩, .op ⟨some 221, (some (218, true)), .bin .eql 219 220⟩] 221, oj 223 (.mv 222), .lg false 223 230 none [.op ⟨some 224, (some (223, true)), .mv 25⟩, .op ⟨some 225, (some (223, true)), .len 224⟩, .op ⟨some 226, (some (223, true)), .mv 19⟩, .op ⟨some 227, (some (223, true)), .len 226⟩, .op ⟨some 228, (some (223, true)), .bin .add 227 (ci 8)⟩, .op ⟨some 229, (some (223, true)), .bin .eql 225 228⟩] 229, oj 231 (.mv 230), .lg false 231 235 none [.op ⟨some 232, (some (231, true)), .mv 21⟩, .op ⟨some 233, (some (231, true)), .mv 19⟩, .op ⟨some 234, (some (231, true)), .call 13 [232, 233]⟩] 234, oj 236 (.mv 235), .lg false 236 242 none [.op ⟨some 237, (some (236, true)), .mv 15⟩, .op ⟨some 238, (some (236, true)), .mv 16⟩, .op ⟨some 239, (some (236, true)), .sls 1 237 none (some 238) none⟩, .op ⟨some 240, (some (236, true)), .mv 27⟩, .op ⟨some 241, (some (236, true)), .call 7 [239, 240]⟩] 241, oj 243 (.mv 242), .op ⟨some 244, (some (243, true)), .mv 17⟩, .op ⟨some 245, (some (243, true)), .mv 21⟩, .op ⟨some 246, (some (243, true)), .call 14 [244, 245]⟩, oj 247 (.pick 243 246 (.const (.bool false))), oj 248 (.mv 247), .op ⟨some 249, (some (248, true)), .mv 21⟩, .op ⟨some 250, (some (248, true)), .mv 28⟩, .op ⟨some 251, (some (248, true)), .call 14 [249, 250]⟩, oj 252 (.pick 248 251 (.const (.bool false))), oj 4 (.mv 252)]
def d3 : FnD := ⟨253, [.tmp 4], (.seq (.ops r3_0) (.seq (.ops r3_1) (.seq (.ops r3_2) (.seq (.ops r3_3) (.seq (.ops r3_4) (.seq (.seq (.ops r3_5) (.cond 63 (.seq (.ops r3_6) .ret) .skip)) (.seq (.seq (.ops r3_7) (.block 0 k3_0)) (.seq (.ops r3_11) (.seq (.seq (.ops r3_12) (.block 2 k3_2)) (.seq (.seq (.ops r3_16) (.cond 104 (.seq (.ops r3_17) .ret) .skip)) (.seq (.ops r3_18) (.seq (.ops r3_19) (.seq (.ops r3_20) (.seq (.ops r3_21) (.seq (.ops r3_22) (.seq (.ops r3_23) (.seq (.seq (.ops r3_24) (.cond 148 (.seq (.ops r3_25) .ret) .skip)) (.seq (.ops r3_26) (.seq (.seq (.ops r3_27) (.block 4 k3_4)) (.seq (.seq (.ops r3_31) (.cond 178 (.seq (.ops r3_32) .ret) .skip)) (.seq (.seq (.ops r3_33) (.block 6 k3_6)) (.seq (.ops r3_37) (.seq (.seq (.ops r3_38) (.block 8 k3_8)) (.seq (.ops r3_42) (.seq (.ops r3_43) (.seq (.ops r3_44) (.seq (.ops r3_45) (.seq (.ops r3_46) .ret))))))))))))))))))))))))))))⟩
theorem ok3 : okF Try.prog 3 d3 = true := by kernel_rfl
def r48_2 : Sch := (.p [3] (oj 13 (.fa 0 2)) (.q [0] (oj 10 (.ld 1 false 1)) (.q [1] (oj 11 (.ld 1 false 1)) (.q [2] (oj 12 (.ld 1 false 0)) (.p [5] (oj 15 (.nilc 10)) (.p [6] (oj 16 (.fa 1 15)) (.two 4 (oi 14 (.ld 1 false 13)) (.e 7 (oe (.st 1 16 12)) (.p [8] (oj 17 (.nilc 11)) (.p [9] (oj 18 (.fa 2 17)) (.e 10 (oe (.st 1 18 14)) .nil))))
  7 (oe (.st 1 16 12)) (.q [4] (oj 14 (.ld 1 false 13)) (.p [8] (oj 17 (.nilc 11)) (.p [9] (oj 18 (.fa 2 17)) (.e 10 (oe (.st 1 18 14)) .nil)))))))))))
def r46_2 : Sch := (.p [3] (oj 13 (.fa 0 2)) (.q [0] (oj 10 (.ld 1 false 1)) (.q [1] (oj 11 (.ld 1 false 1)) (.q [2] (oj 12 (.ld 1 false 0)) (.p [5] (oj 15 (.nilc 10)) (.p [6] (oj 16 (.fa 1 15)) (.two 4 (oi 14 (.ld 1 false 13)) (.e 7 (oe (.st 1 16 12)) (.p [8] (oj 17 (.nilc 11)) (.p [9] (oj 18 (.fa 2 17)) (.e 10 (oe (.st 1 18 14)) .nil))))
  7 (oe (.st 1 16 12)) (.q [4] (oj 14 (.ld 1 false 13)) (.p [8] (oj 17 (.nilc 11)) (.p [9] (oj 18 (.fa 2 17)) (.e 10 (oe (.st 1 18 14)) .nil)))))))))))
theorem mo : Try.prog.follows .mixedOrders = true := by kernel_rfl
end Go.Proofs.Ytiflckckekjbnaa
