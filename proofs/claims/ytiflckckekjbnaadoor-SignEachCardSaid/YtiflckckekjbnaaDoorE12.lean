/- The engine, part 12: slices that are made, grown, copied. -/
import Derived.Test.YtiflckckekjbnaaDoorE11
import Derived.Test.YtiflckckekjbnaaDoorE9
import Derived.Deep.AppendSrc
import Derived.Laws.MakeOwn
import Derived.Laws.IdiomCopy
import Derived.Great.BuildSlice
namespace Go.Sx
open Go Go.RowKit
set_option linter.all false

theorem one1_kit {v : Value} (h : one1 v = true) : v.oneCell' = true := by cases v <;> simp_all [one1, Value.oneCell']

/-- What a slice or a string that is read holds: n elements of 'size' cells. -/
structure SrcV (C : Cfg) (m : List Chunk) (size : Nat) (v : Value) (n : Nat) (cs : List Value) : Prop where
  len : ∀ w : World, (Builtin.lenOf v).run C.P w = .ok n w
  cells : ∀ w, Sat C.W0 C.S m w → ∀ k, k ≤ n → (Builtin.firstCells size k v).run C.P w = .ok (cs.take (k * size)).toArray w
  nl : cs.length = n * size
  one : ∀ u ∈ cs, one1 u = true

section
variable {C : Cfg} {m : List Chunk} {t : TS} {K : KN}

theorem run_first {P : Program} {w : World} {b off size n l c : Nat} {cs : List Value} (hl : cs.length = n * size) (h : ∀ i, i < n * size → w.cell? ⟨b, off + i, none⟩ = cs[i]?) {k : Nat} (hk : k ≤ n) :
    (Builtin.firstCells size k (.slice (some ⟨b, off, none⟩) l c)).run P w = .ok (cs.take (k * size)).toArray w := by
  have hks : k * size ≤ n * size := Nat.mul_le_mul_right _ hk
  refine run_firstCells_some w size k ⟨b, off, none⟩ l c (cs.take (k * size)) (by rw [List.length_take]; omega) fun j v hj => ?_
  have hj' : j < k * size := by
    have := (List.getElem?_eq_some_iff.1 hj).1
    rw [List.length_take] at this; omega
  rw [List.getElem?_take_of_lt hj'] at hj
  rw [Addr.add_lit, h j (by omega)]
  exact hj

theorem src_own {size b off n c : Nat} {T : TypeId} {s p : List Seg} (hb : Has b (.cells (cells s).toArray T (0, 0)) m) (hp : sub s off (n * size) = some p) (h1 : ∀ u ∈ cells p, one1 u = true) : SrcV C m size (.slice (some ⟨b, off, none⟩) n c) n (cells p) := by
  obtain ⟨e1, e2, e3⟩ := sub_cells hp
  refine ⟨fun _ => rfl, fun w hw k hk => run_first (by rw [cells_length]; exact e2) (fun i hi => ?_) hk, by rw [cells_length]; exact e2, h1⟩
  rw [cells_load (hw.own _ hb.mem), e1, List.getElem?_take_of_lt hi, List.getElem?_drop]
theorem src_mem {size b off n c o0 : Nat} {s p : List Seg} (hm : Mem C.W0 b o0 s) (hS : b ∉ C.S) (hp : sub s off (n * size) = some p) (h1 : ∀ u ∈ cells p, one1 u = true) : SrcV C m size (.slice (some ⟨b, o0 + off, none⟩) n c) n (cells p) := by
  obtain ⟨e1, e2, e3⟩ := sub_cells hp
  refine ⟨fun _ => rfl, fun w hw k hk => run_first (by rw [cells_length]; exact e2) (fun i hi => ?_) hk, by rw [cells_length]; exact e2, h1⟩
  rw [Nat.add_assoc, hm.now hS hw (i := off + i) (by rcases e3 with e3 | e3 <;> omega), e1, List.getElem?_take_of_lt hi, List.getElem?_drop]
theorem src_none {size c : Nat} {a : Option Addr} : SrcV C m size (.slice a 0 c) 0 [] := by
  refine ⟨fun _ => rfl, fun w hw k hk => ?_, by simp, fun _ h => by cases h⟩
  obtain rfl : k = 0 := by omega
  cases a with
  | none => simpa using run_firstCells_none (P := C.P) w size 0 0 c
  | some a => simpa using run_firstCells_some (P := C.P) w size 0 a 0 c [] (by simp) (by simp)
theorem src_str {s : ByteArray} : SrcV C m 1 (.string s) s.size (byteCells s) := by
  refine ⟨fun _ => rfl, fun w hw k hk => ?_, by rw [byteCells_length, Nat.mul_one], fun u hu => by obtain ⟨_, _, rfl⟩ := List.mem_map.1 hu; rfl⟩
  simp only [Builtin.firstCells, Sem.run_pure]
  congr 1
  apply Array.ext'
  have e : (s.extract 0 k).data.toList = s.data.toList.take k := by
    have : (s.extract 0 k).data = s.data.extract 0 k := by simp [ByteArray.data_extract]
    rw [this]; simp
  simp only [Array.toList_map, e, byteCells, Nat.mul_one, List.map_take]

theorem SrcV.kit {size n : Nat} {v : Value} {cs : List Value} {tx : TypeId} (h : SrcV C m size v n cs) (hk : (∃ e', C.P.underlying tx = some (.slice e')) ∨ C.P.underlying tx = some .string) {w : World} (hw : Sat C.W0 C.S m w) :
    Go.Src C.P size tx v n cs w := by
  have e : cs.take (n * size) = cs := List.take_of_length_le (by rw [h.nl]; exact Nat.le_refl _)
  refine ⟨hk, h.len, ?_, ?_, h.nl, fun u hu => one1_kit (h.one u hu)⟩
  · have := h.cells w hw n (Nat.le_refl _); rw [e] at this; exact this
  · have := h.cells w.drew hw.drew n (Nat.le_refl _); rw [e] at this; exact this

/-- A known block is let go. -/
inductive Rem (c : Chunk) : List Chunk → List Chunk → Prop
  | here {m : List Chunk} : Rem c (c :: m) m
  | there {c' : Chunk} {m m' : List Chunk} : Rem c m m' → Rem c (c' :: m) (c' :: m')
theorem Rem.sub {c : Chunk} {m m' : List Chunk} (h : Rem c m m') : List.Sublist m' m := by
  induction h with
  | here => exact List.sublist_cons_self _ _
  | there _ ih => exact ih.cons₂ _
theorem Rem.mem {c : Chunk} {m m' : List Chunk} (h : Rem c m m') : c ∈ m := by
  induction h with
  | here => exact List.mem_cons_self
  | there _ ih => exact List.mem_cons_of_mem _ ih
theorem Rem.perm {c : Chunk} {m m' : List Chunk} (h : Rem c m m') : List.Perm (c :: m') m := by
  induction h with
  | here => exact List.Perm.refl _
  | there _ ih => exact (List.Perm.swap _ _ _).trans (ih.cons _)
theorem Sat.perm {W0 : World} {S : List Nat} {m m' : List Chunk} {w : World} (h : Sat W0 S m w) (hp : List.Perm m' m) : Sat W0 S m' w :=
  ⟨h.fr, fun c hc => h.own c (hp.subset hc), fun c hc => h.base c (hp.subset hc), (hp.map _).nodup_iff.2 h.dist⟩

theorem infoOk_spec {P : Program} {T : TypeId} {w bytes : Nat} (h : infoOk P T w bytes = true) : ∃ i, P.info? T = some i ∧ i.size = w ∧ i.bytes = bytes ∧ 0 < bytes := by
  unfold infoOk at h
  split at h
  · rename_i i hi
    simp only [Bool.and_eq_true, Nat.beq_eq] at h
    exact ⟨i, hi, h.1.1, h.1.2, by have := Nat.lt_of_succ_le (Nat.le_of_ble_eq_true h.2); exact this⟩
  · cases h
theorem zOf_spec {P : Program} {T : TypeId} {i : TypeInfo} (hi : P.info? T = some i) {l : List Value} (h : zOf P T = some l) : ∃ z, i.zero = some z ∧ z.cells = l.toArray := by
  unfold zOf at h
  rw [hi] at h
  simp only [Option.bind_some] at h
  cases hz : i.zero with
  | none => rw [hz] at h; cases h
  | some z =>
    rw [hz] at h
    simp only [Option.map_some, Option.some.injEq] at h
    exact ⟨z, rfl, by rw [← h, Array.toArray_toList]⟩

theorem okOp_app {P : Program} {o : Oper} {T : TypeId} {w bytes : Nat} {z : List Seg} {x y : Operand} (h : okOp P o (.app T w bytes z x y) = true) :
    ∃ c t tx, o.op = .call c ∧ c.callee = .builtin .append ∧ c.args = #[x, y] ∧ c.argTypes[0]? = some t ∧ c.argTypes[1]? = some tx ∧ P.underlying t = some (.slice T) ∧
      ((∃ e', P.underlying tx = some (.slice e')) ∨ P.underlying tx = some .string) ∧ (∃ i zv, P.info? T = some i ∧ i.size = w ∧ i.bytes = bytes ∧ 0 < bytes ∧ i.zero = some zv ∧ zv.cells = (cells z).toArray) ∧ width z = w ∧ 0 < w := by
  simp only [okOp] at h
  split at h
  · rename_i c heq
    simp only [Bool.and_eq_true, Nat.beq_eq] at h
    obtain ⟨⟨⟨⟨⟨⟨⟨h1, h2⟩, h3⟩, h4⟩, h5⟩, h6⟩, h7⟩, h8⟩ := h
    have hb : c.callee = .builtin .append := by
      revert h1; cases c.callee <;> simp
      rename_i f; cases f <;> simp
    have hargs : c.args = #[x, y] := by
      have := oeqL_sound h2
      exact Array.ext' (by simpa using this)
    obtain ⟨i, hi, hs, hby, hpos⟩ := infoOk_spec h5
    cases ht : c.argTypes[0]? with
    | none => rw [ht] at h3; simp at h3
    | some t =>
      rw [ht] at h3
      simp only [Option.bind_some] at h3
      cases htx : c.argTypes[1]? with
      | none => rw [htx] at h4; simp at h4
      | some tx =>
        rw [htx] at h4
        simp only [Option.bind_some] at h4
        have hz : ∃ zv, i.zero = some zv ∧ zv.cells = (cells z).toArray := by
          split at h6
          · rename_i q hq
            obtain ⟨zv, e1, e2⟩ := zOf_spec hi hq
            exact ⟨zv, e1, by rw [e2, veqL_sound h6]⟩
          · cases h6
        obtain ⟨zv, hz1, hz2⟩ := hz
        refine ⟨c, t, tx, heq, hb, hargs, ht, htx, ?_, ?_, ⟨i, zv, hi, hs, hby, hpos, hz1, hz2⟩, h7, by have := Nat.lt_of_succ_le (Nat.le_of_ble_eq_true h8); exact this⟩
        · split at h3
          · rename_i e he; rw [decide_eq_true_eq] at h3; subst h3; exact he
          · cases h3
        · split at h4
          · rename_i e he; exact .inl ⟨e, he⟩
          · rename_i he; exact .inr he
          · cases h4
  · cases h

theorem zeros_rep {z : List Value} (hz : 0 < z.length) : ∀ n : Nat, (Builtin.zeroCells z.toArray n).toList = (List.replicate n z).flatten := by
  intro n
  apply List.ext_getElem?
  intro i
  have hlen : ((List.replicate n z).flatten).length = n * z.length := by simp
  by_cases hi : i < n * z.length
  · have h1 : i % z.length < z.length := Nat.mod_lt _ hz
    have hd : i / z.length < n := Nat.div_lt_of_lt_mul (by rw [Nat.mul_comm]; exact hi)
    have : ∀ (n i : Nat), i < n * z.length → ((List.replicate n z).flatten)[i]? = z[i % z.length]? := by
      intro n
      induction n with
      | zero => intro i hi; simp at hi
      | succ n ih =>
        intro i hi
        rw [List.replicate_succ, List.flatten_cons]
        by_cases h : i < z.length
        · rw [List.getElem?_append_left h, Nat.mod_eq_of_lt h]
        · rw [List.getElem?_append_right (by omega), ih _ (by rw [Nat.succ_mul] at hi; omega)]
          congr 1
          exact (Nat.mod_eq_sub_mod (by omega)).symm
    rw [this n i hi]
    simp [Builtin.zeroCells, hi, h1]
  · have hz2 : ((Builtin.zeroCells z.toArray n).toList).length = n * z.length := by simp [Builtin.zeroCells]
    rw [List.getElem?_eq_none (by rw [hz2]; omega), List.getElem?_eq_none (by rw [hlen]; omega)]

/-- append: onto a slice that is one's own. -/
theorem ef_app {d : Nat} {T T' : TypeId} {w bytes : Nat} {z : List Seg} {x y : Operand} {b off n0 cp n : Nat} {v : Value} {cs : List Value} {segs : List Seg}
    (hx : ev t x = some (.slice (some ⟨b, off, none⟩) n0 cp)) (hb : Has b (.cells (cells segs).toArray T' (0, 0)) m) (hy : ev t y = some v) (hs : SrcV C m w v n cs)
    (hfit : off + cp * w ≤ width segs) (hn0 : n0 ≤ cp) (hsz : (n0 + n) * bytes ≤ 140737488355328)
    (room : n0 + n ≤ cp → ∃ segs' m', cells segs' = splice (cells segs) (off + n0 * w) cs ∧ Upd b (.cells (cells segs).toArray T' (0, 0)) (.cells (cells segs').toArray T' (0, 0)) m m' ∧ K ((d, .slice (some ⟨b, off, none⟩) (n0 + n) cp) :: t) m')
    (grow : cp < n0 + n → ∀ b' cp', C.W0.heap.size ≤ b' → n0 + n ≤ cp' → ∃ segs', cells segs' = ((cells segs).drop off).take (n0 * w) ++ cs ++ (List.replicate (cp' - (n0 + n)) (cells z)).flatten ∧ K ((d, .slice (some ⟨b', 0, none⟩) (n0 + n) cp') :: t) (ck b' T segs' :: m)) :
    EF C m t (some d) (.app T w bytes z x y) K := by
  intro o ho hd a ha wd hw
  obtain ⟨hd1, hd2⟩ := okD_some hd
  obtain ⟨c, ty, tx, heq, hc, hargs, ht, htx, hu, hk, ⟨i, zv, hi, hsz', hby, hpos, hz1, hz2⟩, hwz, hw0⟩ := okOp_app ho
  have hsrc := hs.kit hk hw
  have hmul : (n0 + n) ≤ (n0 + n) * bytes := Nat.le_mul_of_pos_right _ hpos
  have hrun : ∀ {r : Result Value}, (Builtin.append_ c.argTypes o.type #[.slice (some ⟨b, off, none⟩) n0 cp, v]).run C.P wd = r → (execOp a.eval o).run C.P wd = r.andThen fun v w => .ok (.value v) w := by
    intro r hr
    simp only [execOp, heq, resolve, hc, Sem.run_bind, Sem.run_pure, Result.andThen_ok, invoke, builtin, hargs, List.map_toArray, List.map_cons, List.map_nil, ha.ev hx, ha.ev hy, hr]
  have hat : Builtin.append_ c.argTypes o.type #[.slice (some ⟨b, off, none⟩) n0 cp, v] = Builtin.append_ #[ty, tx] o.type #[.slice (some ⟨b, off, none⟩) n0 cp, v] := by
    simp [Builtin.append_, ht, htx]
  by_cases hroom : n0 + n ≤ cp
  · obtain ⟨segs', m', e1, hup, hK⟩ := room hroom
    have hle : n0 * w + n * w ≤ cp * w := by rw [← Nat.add_mul]; exact Nat.mul_le_mul_right _ hroom
    have hup' : Upd b (.cells (cells segs).toArray T' (0, 0)) (.cells (splice (cells segs) (off + n0 * w + 0) cs).toArray T' (0, 0)) m m' := by rw [Nat.add_zero, ← e1]; exact hup
    obtain ⟨w', hst, hw'⟩ := run_storeCells (P := C.P) cs (off + n0 * w) 0 (cells segs) m m' wd hw hup' (by rw [cells_length, hs.nl]; omega) hs.one
    have hr : (Builtin.append_ #[ty, tx] o.type #[.slice (some ⟨b, off, none⟩) n0 cp, v]).run C.P wd = .ok (.slice (some ⟨b, off, none⟩) (n0 + n) cp) w' := by
      subst hsz'
      rcases hsrc.kind with ⟨e', hk'⟩ | hk' <;> simp [Builtin.append_, run_underlying hu, run_underlying hk', sizeOf, typeInfo, hi, hsrc.len, hroom, hsrc.cells, Addr.add_lit, hst]
    rw [← hat] at hr
    have h2 := hrun hr
    unfold Oper.wp
    rw [h2, Result.andThen_ok]
    simp only [Oper.upon]
    exact ⟨_, m', hK, hd1 ▸ ha.put hd2 _, hw'⟩
  · have hg : cp < n0 + n := by omega
    have hold : (Builtin.firstCells i.size n0 (.slice (some ⟨b, off, none⟩) n0 cp)).run C.P wd.drew = .ok (((cells segs).drop off).take (n0 * i.size)).toArray wd.drew := by
      have hle : n0 * w ≤ cp * w := Nat.mul_le_mul_right _ hn0
      have := run_first (P := C.P) (w := wd.drew) (b := b) (off := off) (size := w) (n := n0) (l := n0) (c := cp) (cs := ((cells segs).drop off).take (n0 * w)) (by simp [cells_length]; omega) (fun i hi => by
        rw [cells_load ((show Sat C.W0 C.S m wd.drew from hw.drew).own _ hb.mem), List.getElem?_take_of_lt hi, List.getElem?_drop]) (Nat.le_refl n0)
      rw [hsz', this, List.take_take, Nat.min_self]
    have hfit' : Builtin.nextslicecap (n0 + n) cp * i.bytes ≤ 281474976710656 := by rw [hby]; exact growslice_fits hg hsz
    have hr := run_append_grow_src (P := C.P) wd ty tx o.type T i zv hu hi hz1 (some ⟨b, off, none⟩) n0 cp _ hold v n cs (by rw [hsz']; exact hsrc) hg (by omega) hfit'
    rw [← hat] at hr
    have h2 := hrun hr
    unfold Oper.wp
    rw [h2, Result.andThen_ok]
    simp only [Oper.upon]
    have hge := grownCap_ge wd (n0 + n) cp T
    obtain ⟨segs', e1, hK⟩ := grow hg wd.heap.size (grownCap wd (n0 + n) cp T) hw.fr.size hge
    refine ⟨_, _, hK, hd1 ▸ ha.put hd2 _, ?_⟩
    have ha2 := hw.drew.alloc (.cells ((((cells segs).drop off).take (n0 * i.size) ++ cs).toArray ++ Builtin.zeroCells zv.cells (grownCap wd (n0 + n) cp T - (n0 + n))) T)
    have e2 : ((((cells segs).drop off).take (n0 * i.size) ++ cs).toArray ++ Builtin.zeroCells zv.cells (grownCap wd (n0 + n) cp T - (n0 + n))) = (cells segs').toArray := by
      rw [e1, hsz', hz2]
      apply Array.ext'
      rw [Array.toList_append, zeros_rep (by rw [cells_length, hwz]; exact hw0)]
    rw [e2]
    rw [e2] at ha2
    exact ha2

/-- append: onto nil. -/
theorem ef_app0 {d : Nat} {T : TypeId} {w bytes : Nat} {z : List Seg} {x y : Operand} {n : Nat} {v : Value} {cs : List Value}
    (hx : ev t x = some (.slice none 0 0)) (hy : ev t y = some v) (hs : SrcV C m w v n cs) (hsz : n * bytes ≤ 140737488355328)
    (none_ : n = 0 → K ((d, .slice none 0 0) :: t) m)
    (grow : 0 < n → ∀ b' cp', C.W0.heap.size ≤ b' → n ≤ cp' → ∃ segs', cells segs' = cs ++ (List.replicate (cp' - n) (cells z)).flatten ∧ K ((d, .slice (some ⟨b', 0, none⟩) n cp') :: t) (ck b' T segs' :: m)) :
    EF C m t (some d) (.app T w bytes z x y) K := by
  intro o ho hd a ha wd hw
  obtain ⟨hd1, hd2⟩ := okD_some hd
  obtain ⟨c, ty, tx, heq, hc, hargs, ht, htx, hu, hk, ⟨i, zv, hi, hsz', hby, hpos, hz1, hz2⟩, hwz, hw0⟩ := okOp_app ho
  have hsrc := hs.kit hk hw
  have hmul : n ≤ n * bytes := Nat.le_mul_of_pos_right _ hpos
  have hrun : ∀ {r : Result Value}, (Builtin.append_ c.argTypes o.type #[.slice none 0 0, v]).run C.P wd = r → (execOp a.eval o).run C.P wd = r.andThen fun v w => .ok (.value v) w := by
    intro r hr
    simp only [execOp, heq, resolve, hc, Sem.run_bind, Sem.run_pure, Result.andThen_ok, invoke, builtin, hargs, List.map_toArray, List.map_cons, List.map_nil, ha.ev hx, ha.ev hy, hr]
  have hat : Builtin.append_ c.argTypes o.type #[.slice none 0 0, v] = Builtin.append_ #[ty, tx] o.type #[.slice none 0 0, v] := by
    simp [Builtin.append_, ht, htx]
  by_cases hroom : n = 0
  · have hK := none_ hroom
    have hr : (Builtin.append_ #[ty, tx] o.type #[.slice none 0 0, v]).run C.P wd = .ok (.slice none 0 0) wd := by
      subst hsz'
      subst hroom
      rcases hsrc.kind with ⟨e', hk'⟩ | hk' <;> simp [Builtin.append_, run_underlying hu, run_underlying hk', sizeOf, typeInfo, hi, hsrc.len, hsrc.cells]
    rw [← hat] at hr
    have h2 := hrun hr
    unfold Oper.wp
    rw [h2, Result.andThen_ok]
    simp only [Oper.upon]
    exact ⟨_, m, hK, hd1 ▸ ha.put hd2 _, hw⟩
  · have hg : 0 < 0 + n := by omega
    have hold : (Builtin.firstCells i.size 0 (.slice none 0 0)).run C.P wd.drew = .ok ([] : List Value).toArray wd.drew := by simpa using run_firstCells_none (P := C.P) wd.drew i.size 0 0 0
    have hfit' : Builtin.nextslicecap (0 + n) 0 * i.bytes ≤ 281474976710656 := by rw [hby]; exact growslice_fits hg (by simpa using hsz)
    have hr := run_append_grow_src (P := C.P) wd ty tx o.type T i zv hu hi hz1 none 0 0 _ hold v n cs (by rw [hsz']; exact hsrc) hg (by omega) hfit'
    simp only [Nat.zero_add, List.nil_append] at hr
    rw [← hat] at hr
    have h2 := hrun hr
    unfold Oper.wp
    rw [h2, Result.andThen_ok]
    simp only [Oper.upon]
    have hge := grownCap_ge wd n 0 T
    obtain ⟨segs', e1, hK⟩ := grow (by omega) wd.heap.size (grownCap wd n 0 T) hw.fr.size hge
    refine ⟨_, _, hK, hd1 ▸ ha.put hd2 _, ?_⟩
    have ha2 := hw.drew.alloc (.cells (cs.toArray ++ Builtin.zeroCells zv.cells (grownCap wd n 0 T - n)) T)
    have e2 : (cs.toArray ++ Builtin.zeroCells zv.cells (grownCap wd n 0 T - n)) = (cells segs').toArray := by
      rw [e1, hz2]
      apply Array.ext'
      rw [Array.toList_append, zeros_rep (by rw [cells_length, hwz]; exact hw0)]
    rw [e2]
    rw [e2] at ha2
    exact ha2
end
end Go.Sx
