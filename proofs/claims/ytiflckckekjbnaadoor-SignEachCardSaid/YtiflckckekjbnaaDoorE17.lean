/- The engine, part 17: append of noughts; parts of arrays; addresses inside a row of numbers; results that are parts of an argument. -/
import Derived.Test.YtiflckckekjbnaaDoorE16
namespace Go.Sx
open Go Go.RowKit
set_option linter.all false

section
variable {C : Cfg} {m : List Chunk} {t : TS} {K : KN}

theorem okOp_apz {P : Program} {o : Oper} {T : TypeId} {w bytes : Nat} {z : List Seg} {x y : Operand} (h : okOp P o (.apz T w bytes z x y) = true) :
    ∃ c t tx k, o.op = .call c ∧ c.callee = .builtin .append ∧ c.args = #[x, y] ∧ c.argTypes[0]? = some t ∧ c.argTypes[1]? = some tx ∧ P.underlying t = some (.slice T) ∧
      P.underlying tx = some (.int k) ∧ (∃ i zv, P.info? T = some i ∧ i.size = w ∧ i.bytes = bytes ∧ 0 < bytes ∧ i.zero = some zv ∧ zv.cells = (cells z).toArray) ∧ width z = w ∧ 0 < w := by
  simp only [okOp] at h
  split at h
  · rename_i c heq
    simp only [Bool.and_eq_true] at h
    obtain ⟨⟨⟨⟨⟨⟨⟨h1, h2⟩, h3⟩, h4⟩, h5⟩, h6⟩, h7⟩, h8⟩ := h
    have hargs := oeqL_sound h2
    have hc : c.callee = .builtin .append := by
      revert h1; split <;> simp_all
    cases e0 : c.argTypes[0]? with
    | none => rw [e0] at h3; simp at h3
    | some t0 =>
      cases e1 : c.argTypes[1]? with
      | none => rw [e1] at h4; simp at h4
      | some t1 =>
        rw [e0] at h3; rw [e1] at h4
        simp only [Option.bind_some] at h3 h4
        cases u0 : P.underlying t0 with
        | none => rw [u0] at h3; simp at h3
        | some d0 =>
          cases u1 : P.underlying t1 with
          | none => rw [u1] at h4; simp at h4
          | some d1 =>
            rw [u0] at h3; rw [u1] at h4
            cases d0 <;> simp at h3
            cases d1 <;> simp at h4
            rw [h3] at u0
            rename_i k
            obtain ⟨i, hi, hs, hb, hp⟩ := infoOk_spec h5
            cases hz : zOf P T with
            | none => rw [hz] at h6; simp at h6
            | some q =>
              rw [hz] at h6
              have := veqL_sound h6
              subst this
              obtain ⟨zv, hz1, hz2⟩ := zOf_spec hi hz
              exact ⟨c, t0, t1, k, heq, hc, by rw [← Array.toArray_toList (xs := c.args), hargs], e0, e1, u0, u1, ⟨i, zv, hi, hs, hb, hp, hz1, hz2⟩, by simpa [Nat.beq_eq] using h7, by simpa [Nat.blt_eq] using h8⟩
  · cases h

theorem run_apz_room {P : Program} {w w' : World} {t tx ty e : TypeId} {i : TypeInfo} {z : Value} {b off n0 cp n : Nat} {k kt : IntKind} {N : Int} {cs : List Value} (ht : P.underlying t = some (.slice e)) (hk : P.underlying tx = some (.int kt)) (hi : P.info? e = some i) (hz : i.zero = some z)
    (hN : 0 ≤ N) (hn : n = N.toNat) (hb : n * i.bytes ≤ 281474976710656 ∧ n ≤ 9223372036854775807) (hroom : n0 + n ≤ cp) (hnews : (Builtin.zeroCells z.cells n).toList = cs) (hnl : cs.length = n * i.size)
    (hst : (storeCells ⟨b, off + n0 * i.size, none⟩ cs 0).run P w = .ok () w') :
    (Builtin.append_ #[t, tx] ty #[.slice (some ⟨b, off, none⟩) n0 cp, .int k N]).run P w = .ok (.slice (some ⟨b, off, none⟩) (n0 + n) cp) w' := by
  obtain rfl : N = ((n : Nat) : Int) := by omega
  have hw : IntKind.i64.wrap (n : Int) = n := by rw [IntKind.wrap_i64]; omega
  have h1 : ¬ ((n : Int) < 0) := by omega
  have h2 : ¬ (281474976710656 < (n : Int) * (i.bytes : Int)) := by rw [← Int.natCast_mul]; omega
  by_cases h0 : n * i.size = 0
  · have : cs = [] := List.eq_nil_of_length_eq_zero (by rw [hnl, h0])
    subst this
    have hst' : w' = w := by simpa [storeCells] using hst.symm
    subst hst'
    simp [Builtin.append_, run_underlying ht, run_underlying hk, sizeOf, typeInfo, hi, asInt, asIntOf, hw, h1, h2, h0, hroom, storeCells]
  · simp [Builtin.append_, run_underlying ht, run_underlying hk, sizeOf, typeInfo, zeroValue, hz, hi, asInt, asIntOf, hw, h1, h2, h0, hroom, Addr.add_lit, hnews, hst]
theorem run_apz_grow {P : Program} {w : World} {t tx ty e : TypeId} {i : TypeInfo} {z : Value} {n : Nat} {k kt : IntKind} {N : Int} (ht : P.underlying t = some (.slice e)) (hk : P.underlying tx = some (.int kt)) (hi : P.info? e = some i) (hz : i.zero = some z)
    (hN : 0 ≤ N) (hn : n = N.toNat) (hb : n * i.bytes ≤ 281474976710656 ∧ n ≤ 9223372036854775807) (base : Option Addr) (sLen sCap : Nat) (olds : List Value)
    (hold : (Builtin.firstCells i.size sLen (.slice base sLen sCap)).run P w.drew = .ok olds.toArray w.drew) (news : List Value) (hnews : (Builtin.zeroCells z.cells n).toList = news) (h0 : ¬ (n * i.size = 0))
    (hg : sCap < sLen + n) (h63 : ((sLen + n : Nat) : Int) ≤ 9223372036854775807) (hfit : Builtin.nextslicecap (sLen + n) sCap * i.bytes ≤ 281474976710656) :
    (Builtin.append_ #[t, tx] ty #[.slice base sLen sCap, .int k N]).run P w =
      .ok (.slice (some ⟨w.heap.size, 0, none⟩) (sLen + n) (grownCap w (sLen + n) sCap e))
        (w.drew.alloc (.cells ((olds ++ news).toArray ++ Builtin.zeroCells z.cells (grownCap w (sLen + n) sCap e - (sLen + n))) e)) := by
  obtain rfl : N = ((n : Nat) : Int) := by omega
  have hw : IntKind.i64.wrap (n : Int) = n := by rw [IntKind.wrap_i64]; omega
  have h1 : ¬ ((n : Int) < 0) := by omega
  have h2 : ¬ (281474976710656 < (n : Int) * (i.bytes : Int)) := by rw [← Int.natCast_mul]; omega
  have hn' : ¬ (sLen + n ≤ sCap) := by omega
  have h63' : ¬ (9223372036854775807 < ((sLen : Int) + (n : Int))) := by omega
  have h48' : ¬ (281474976710656 < Builtin.nextslicecap (sLen + n) sCap * i.bytes) := by omega
  have e : Builtin.zeroCells z.cells n = news.toArray := by rw [← hnews]
  simp [Builtin.append_, run_underlying ht, run_underlying hk, sizeOf, typeInfo, zeroValue, hz, hi, asInt, asIntOf, hw, h1, h2, h0, hn', h63', h48', Question.forced, hold, newRow, grownCap, e]
  congr 2
  apply Array.ext'
  simp [List.append_assoc]
/-- append: onto a slice that is one's own. -/
theorem ef_apz {d : Nat} {T T' : TypeId} {w bytes : Nat} {z : List Seg} {x y : Operand} {b off n0 cp n : Nat} {ky : IntKind} {N : Int} {cs : List Value} {segs : List Seg}
    (hx : ev t x = some (.slice (some ⟨b, off, none⟩) n0 cp)) (hb : Has b (.cells (cells segs).toArray T' (0, 0)) m) (hy : ev t y = some (.int ky N)) (hN : 0 ≤ N) (hn : n = N.toNat) (hcs : cs = (List.replicate n (cells z)).flatten) (hone : ∀ u ∈ cells z, one1 u = true)
    (hfit : off + cp * w ≤ width segs) (hn0 : n0 ≤ cp) (hsz : (n0 + n) * bytes ≤ 140737488355328)
    (room : n0 + n ≤ cp → ∃ segs' m', cells segs' = splice (cells segs) (off + n0 * w) cs ∧ Upd b (.cells (cells segs).toArray T' (0, 0)) (.cells (cells segs').toArray T' (0, 0)) m m' ∧ K ((d, .slice (some ⟨b, off, none⟩) (n0 + n) cp) :: t) m')
    (grow : cp < n0 + n → ∀ b' cp', C.W0.heap.size ≤ b' → n0 + n ≤ cp' → ∃ segs', cells segs' = ((cells segs).drop off).take (n0 * w) ++ cs ++ (List.replicate (cp' - (n0 + n)) (cells z)).flatten ∧ K ((d, .slice (some ⟨b', 0, none⟩) (n0 + n) cp') :: t) (ck b' T segs' :: m)) :
    EF C m t (some d) (.apz T w bytes z x y) K := by
  intro o ho hd a ha wd hw
  obtain ⟨hd1, hd2⟩ := okD_some hd
  obtain ⟨c, ty, tx, kt, heq, hc, hargs, ht, htx, hu, hk, ⟨i, zv, hi, hsz', hby, hpos, hz1, hz2⟩, hwz, hw0⟩ := okOp_apz ho
  have hmul : (n0 + n) ≤ (n0 + n) * bytes := Nat.le_mul_of_pos_right _ hpos
  have hzl : (cells z).length = w := by rw [cells_length]; exact hwz
  have hnl : cs.length = n * w := by rw [hcs]; simp [hzl]
  have hone' : ∀ u ∈ cs, one1 u = true := by
    intro u hu'
    rw [hcs, List.mem_flatten] at hu'
    obtain ⟨l, hl, hul⟩ := hu'
    obtain ⟨_, rfl⟩ := List.mem_replicate.1 hl
    exact hone u hul
  have hnews : (Builtin.zeroCells zv.cells n).toList = cs := by rw [hz2, zeros_rep (by rw [hzl]; exact hw0), hcs]
  have hnb : n * bytes ≤ 140737488355328 := by rw [Nat.add_mul] at hsz; omega
  have hrun : ∀ {r : Result Value}, (Builtin.append_ c.argTypes o.type #[.slice (some ⟨b, off, none⟩) n0 cp, .int ky N]).run C.P wd = r → (execOp a.eval o).run C.P wd = r.andThen fun v w => .ok (.value v) w := by
    intro r hr
    simp only [execOp, heq, resolve, hc, Sem.run_bind, Sem.run_pure, Result.andThen_ok, invoke, builtin, hargs, List.map_toArray, List.map_cons, List.map_nil, ha.ev hx, ha.ev hy, hr]
  have hat : Builtin.append_ c.argTypes o.type #[.slice (some ⟨b, off, none⟩) n0 cp, .int ky N] = Builtin.append_ #[ty, tx] o.type #[.slice (some ⟨b, off, none⟩) n0 cp, .int ky N] := by
    simp [Builtin.append_, ht, htx]
  by_cases hroom : n0 + n ≤ cp
  · obtain ⟨segs', m', e1, hup, hK⟩ := room hroom
    have hle : n0 * w + n * w ≤ cp * w := by rw [← Nat.add_mul]; exact Nat.mul_le_mul_right _ hroom
    have hup' : Upd b (.cells (cells segs).toArray T' (0, 0)) (.cells (splice (cells segs) (off + n0 * w + 0) cs).toArray T' (0, 0)) m m' := by rw [Nat.add_zero, ← e1]; exact hup
    obtain ⟨w', hst, hw'⟩ := run_storeCells (P := C.P) cs (off + n0 * w) 0 (cells segs) m m' wd hw hup' (by rw [cells_length, hnl]; omega) hone'
    have hr : (Builtin.append_ #[ty, tx] o.type #[.slice (some ⟨b, off, none⟩) n0 cp, .int ky N]).run C.P wd = .ok (.slice (some ⟨b, off, none⟩) (n0 + n) cp) w' := by
      subst hsz'
      exact run_apz_room (k := ky) hu hk hi hz1 hN hn (by rw [hby]; omega) hroom hnews hnl hst
    rw [← hat] at hr
    have h2 := hrun hr
    unfold Oper.wp
    rw [h2, Result.andThen_ok]
    simp only [Oper.upon]
    exact ⟨_, m', hK, hd1 ▸ ha.put hd2 _, hw'⟩
  · have hg : cp < n0 + n := by omega
    have hold : (Builtin.firstCells i.size n0 (.slice (some ⟨b, off, none⟩) n0 cp)).run C.P wd.drew = .ok (((cells segs).drop off).take (n0 * i.size)).toArray wd.drew := by
      have hle : n0 * w ≤ cp * w := Nat.mul_le_mul_right _ hn0
      have := run_first (P := C.P) (w := wd.drew) (b := b) (off := off) (size := w) (n := n0) (l := n0) (c := cp) (cs := ((cells segs).drop off).take (n0 * w)) (by simp [cells_length]; omega) (fun i hi => by
        rw [cells_load ((show Sat C.W0 C.S m wd.drew from hw.drew).own _ hb.mem), List.getElem?_take_of_lt hi, List.getElem?_drop]) (Nat.le_refl n0)
      rw [hsz', this, List.take_take, Nat.min_self]
    have hfit' : Builtin.nextslicecap (n0 + n) cp * i.bytes ≤ 281474976710656 := by rw [hby]; exact growslice_fits hg hsz
    have hr := run_apz_grow (k := ky) (P := C.P) (w := wd) (t := ty) (tx := tx) (ty := o.type) (e := T) (i := i) (z := zv) hu hk hi hz1 hN hn (by rw [hby]; omega) (some ⟨b, off, none⟩) n0 cp _ hold cs hnews (by rw [hsz']; exact Nat.pos_iff_ne_zero.1 (Nat.mul_pos (by omega) hw0)) hg (by omega) hfit'
    rw [← hat] at hr
    have h2 := hrun hr
    unfold Oper.wp
    rw [h2, Result.andThen_ok]
    simp only [Oper.upon]
    have hge := grownCap_ge wd (n0 + n) cp T
    obtain ⟨segs', e1, hK⟩ := grow hg wd.heap.size (grownCap wd (n0 + n) cp T) hw.fr.size hge
    refine ⟨_, _, hK, hd1 ▸ ha.put hd2 _, ?_⟩
    have ha2 := hw.drew.alloc (.cells ((((cells segs).drop off).take (n0 * i.size) ++ cs).toArray ++ Builtin.zeroCells zv.cells (grownCap wd (n0 + n) cp T - (n0 + n))) T)
    have e2 : ((((cells segs).drop off).take (n0 * i.size) ++ cs).toArray ++ Builtin.zeroCells zv.cells (grownCap wd (n0 + n) cp T - (n0 + n))) = (cells segs').toArray := by
      rw [e1, hsz', hz2]
      apply Array.ext'
      rw [Array.toList_append, zeros_rep (by rw [cells_length, hwz]; exact hw0)]
    rw [e2]
    rw [e2] at ha2
    exact ha2

/-- append: onto nil. -/
theorem ef_apz0 {d : Nat} {T : TypeId} {w bytes : Nat} {z : List Seg} {x y : Operand} {n : Nat} {ky : IntKind} {N : Int} {cs : List Value}
    (hx : ev t x = some (.slice none 0 0)) (hy : ev t y = some (.int ky N)) (hN : 0 ≤ N) (hn : n = N.toNat) (hcs : cs = (List.replicate n (cells z)).flatten) (hone : ∀ u ∈ cells z, one1 u = true) (hsz : n * bytes ≤ 140737488355328)
    (none_ : n = 0 → K ((d, .slice none 0 0) :: t) m)
    (grow : 0 < n → ∀ b' cp', C.W0.heap.size ≤ b' → n ≤ cp' → ∃ segs', cells segs' = cs ++ (List.replicate (cp' - n) (cells z)).flatten ∧ K ((d, .slice (some ⟨b', 0, none⟩) n cp') :: t) (ck b' T segs' :: m)) :
    EF C m t (some d) (.apz T w bytes z x y) K := by
  intro o ho hd a ha wd hw
  obtain ⟨hd1, hd2⟩ := okD_some hd
  obtain ⟨c, ty, tx, kt, heq, hc, hargs, ht, htx, hu, hk, ⟨i, zv, hi, hsz', hby, hpos, hz1, hz2⟩, hwz, hw0⟩ := okOp_apz ho
  have hmul : n ≤ n * bytes := Nat.le_mul_of_pos_right _ hpos
  have hzl : (cells z).length = w := by rw [cells_length]; exact hwz
  have hnl : cs.length = n * w := by rw [hcs]; simp [hzl]
  have hone' : ∀ u ∈ cs, one1 u = true := by
    intro u hu'
    rw [hcs, List.mem_flatten] at hu'
    obtain ⟨l, hl, hul⟩ := hu'
    obtain ⟨_, rfl⟩ := List.mem_replicate.1 hl
    exact hone u hul
  have hnews : (Builtin.zeroCells zv.cells n).toList = cs := by rw [hz2, zeros_rep (by rw [hzl]; exact hw0), hcs]
  have hnb : n * bytes ≤ 140737488355328 := hsz
  have hrun : ∀ {r : Result Value}, (Builtin.append_ c.argTypes o.type #[.slice none 0 0, .int ky N]).run C.P wd = r → (execOp a.eval o).run C.P wd = r.andThen fun v w => .ok (.value v) w := by
    intro r hr
    simp only [execOp, heq, resolve, hc, Sem.run_bind, Sem.run_pure, Result.andThen_ok, invoke, builtin, hargs, List.map_toArray, List.map_cons, List.map_nil, ha.ev hx, ha.ev hy, hr]
  have hat : Builtin.append_ c.argTypes o.type #[.slice none 0 0, .int ky N] = Builtin.append_ #[ty, tx] o.type #[.slice none 0 0, .int ky N] := by
    simp [Builtin.append_, ht, htx]
  by_cases hroom : n = 0
  · have hK := none_ hroom
    have hr : (Builtin.append_ #[ty, tx] o.type #[.slice none 0 0, .int ky N]).run C.P wd = .ok (.slice none 0 0) wd := by
      subst hsz'
      have hN0 : N = 0 := by omega
      have hw : IntKind.i64.wrap 0 = 0 := by decide
      subst hN0
      simp [Builtin.append_, run_underlying hu, run_underlying hk, sizeOf, typeInfo, hi, asInt, asIntOf, hw]
    rw [← hat] at hr
    have h2 := hrun hr
    unfold Oper.wp
    rw [h2, Result.andThen_ok]
    simp only [Oper.upon]
    exact ⟨_, m, hK, hd1 ▸ ha.put hd2 _, hw⟩
  · have hg : 0 < 0 + n := by omega
    have hold : (Builtin.firstCells i.size 0 (.slice none 0 0)).run C.P wd.drew = .ok ([] : List Value).toArray wd.drew := by simpa using run_firstCells_none (P := C.P) wd.drew i.size 0 0 0
    have hfit' : Builtin.nextslicecap (0 + n) 0 * i.bytes ≤ 281474976710656 := by rw [hby]; exact growslice_fits hg (by simpa using hsz)
    have hr := run_apz_grow (k := ky) (P := C.P) (w := wd) (t := ty) (tx := tx) (ty := o.type) (e := T) (i := i) (z := zv) hu hk hi hz1 hN hn (by rw [hby]; omega) none 0 0 _ hold cs hnews (by rw [hsz']; exact Nat.pos_iff_ne_zero.1 (Nat.mul_pos (by omega) hw0)) hg (by omega) hfit'
    simp only [Nat.zero_add, List.nil_append] at hr
    rw [← hat] at hr
    have h2 := hrun hr
    unfold Oper.wp
    rw [h2, Result.andThen_ok]
    simp only [Oper.upon]
    have hge := grownCap_ge wd n 0 T
    obtain ⟨segs', e1, hK⟩ := grow (by omega) wd.heap.size (grownCap wd n 0 T) hw.fr.size hge
    refine ⟨_, _, hK, hd1 ▸ ha.put hd2 _, ?_⟩
    have ha2 := hw.drew.alloc (.cells (cs.toArray ++ Builtin.zeroCells zv.cells (grownCap wd n 0 T - n)) T)
    have e2 : (cs.toArray ++ Builtin.zeroCells zv.cells (grownCap wd n 0 T - n)) = (cells segs').toArray := by
      rw [e1, hz2]
      apply Array.ext'
      rw [Array.toList_append, zeros_rep (by rw [cells_length, hwz]; exact hw0)]
    rw [e2]
    rw [e2] at ha2
    exact ha2
end

section
variable {α : Type} {C : Cfg} {m : List Chunk} {t : TS} {K : KN} {E : El α} {v : Value} {xs : List α}
/-- append onto a slice of one's own. -/
theorem ef_apzO {d : Nat} {T : TypeId} {bytes : Nat} {z : List Seg} {x y : Operand} {ms mr : List Chunk} {ky : IntKind} {N : Int} {xs' : List α} (e : xs' = xs ++ List.replicate N.toNat E.z) (hx : ev t x = some v) (hO : OwnSl E v ms xs) (hT : Take ms m mr) (hy : ev t y = some (.int ky N)) (hN : decide (0 ≤ N) = true) (hz : cells z = E.cell E.z)
    (hsz : decide ((xs.length + N.toNat) * bytes ≤ 140737488355328) = true) (h : ∀ v' ms', OwnSl E v' ms' xs' → K ((d, v') :: t) (ms' ++ mr)) : EF C m t (some d) (.apz T E.w bytes z x y) K := by
  subst e
  have hsz := of_decide_eq_true hsz
  intro o ho hd a ha w hw
  have hN := of_decide_eq_true hN
  have hzw : width z = E.w := by rw [← cells_length, hz, E.len]
  have hone : ∀ u ∈ cells z, one1 u = true := by rw [hz]; exact E.one _
  generalize hys : List.replicate N.toNat E.z = ys
  rw [hys] at h
  have hyl : ys.length = N.toNat := by rw [← hys, List.length_replicate]
  have hcs : cellsOf E ys = (List.replicate ys.length (cells z)).flatten := by
    rw [hyl, ← rows_const (w := E.w) (by rw [cells_length]; exact hzw), cellsOf, hyl]
    apply rows_congr
    intro i hi
    simp only [rowE]
    rw [← hys, hz]
    simp [List.getD, List.getElem?_replicate, hi]
  rw [← hyl] at hsz
  refine EF.perm hT.perm (EF.less (?_ : EF C (ms ++ mr) t (some d) (.apz T E.w bytes z x y) _)) o ho hd a ha w hw
  rcases hO with ⟨h1, h2, h3⟩ | ⟨b, o1, cp, T', cs, h1, h2, h3, h4, h5⟩
  · subst h1; subst h2; subst h3
    refine ef_apz0 hx hy hN hyl hcs hone (by simpa using hsz) (fun h0 => ?_) (fun h0 b' cp' hb' hc' => ?_)
    · have hys : ys = [] := List.eq_nil_of_length_eq_zero h0
      subst hys
      exact ⟨_, h _ _ own_nil, List.Sublist.refl _⟩
    · refine ⟨(cellsOf E ys ++ (List.replicate (cp' - ys.length) (cells z)).flatten).map Seg.one, cells_ones _, ?_⟩
      refine ⟨_, h _ [⟨b', _⟩] (.inr ⟨b', 0, cp', T, _, by simp, by simpa using hc', rfl, ?_, ?_⟩), List.Sublist.refl _⟩
      · rw [width_ones, List.length_append, cellsOf_length]
        simp only [List.length_flatten, List.map_replicate, List.sum_replicate_nat, cells_length, hzw, Nat.zero_add]
        rw [← Nat.add_mul]
        exact Nat.mul_le_mul_right _ (by omega)
      · intro i hi j hj
        simp only [List.nil_append] at hi ⊢
        have : i * E.w + E.w ≤ ys.length * E.w := by rw [← Nat.succ_mul]; exact Nat.mul_le_mul_right _ hi
        rw [cells_ones, Nat.zero_add, List.getElem?_append_left (by rw [cellsOf_length]; omega), cellsOf_get hi hj]
  · subst h1; subst h3
    refine ef_apz hx Has.here hy hN hyl hcs hone h4 h2 hsz (fun hr => ?_) (fun hg b' cp' hb' hc' => ?_)
    · have hle : (xs.length + ys.length) * E.w ≤ cp * E.w := Nat.mul_le_mul_right _ hr
      rw [Nat.add_mul] at hle
      have hin : o1 + xs.length * E.w + (cellsOf E ys).length ≤ (cells cs).length := by rw [cellsOf_length, cells_length]; omega
      refine ⟨(splice (cells cs) (o1 + xs.length * E.w) (cellsOf E ys)).map Seg.one, [⟨b, .cells (cells ((splice (cells cs) (o1 + xs.length * E.w) (cellsOf E ys)).map Seg.one)).toArray T' (0, 0)⟩] ++ mr, cells_ones _, Upd.here, ?_⟩
      refine ⟨_, h _ _ (.inr ⟨b, o1, cp, T', _, by simp, by simpa using hr, rfl, ?_, ?_⟩), List.Sublist.refl _⟩
      · rw [width_ones, splice, List.length_append, List.length_append, List.length_take, List.length_drop]
        rw [cells_length] at hin ⊢; omega
      · intro i hi j hj
        rw [cells_ones, splice_get hin, cellsOf_length]
        rw [List.length_append] at hi
        by_cases hil : i < xs.length
        · have : i * E.w + E.w ≤ xs.length * E.w := by rw [← Nat.succ_mul]; exact Nat.mul_le_mul_right _ hil
          rw [if_neg (by omega), getD_app1 hil, h5 i hil j hj]
        · have e1 : i * E.w = xs.length * E.w + (i - xs.length) * E.w := by rw [← Nat.add_mul]; congr 1; omega
          have : (i - xs.length) * E.w + E.w ≤ ys.length * E.w := by rw [← Nat.succ_mul]; exact Nat.mul_le_mul_right _ (by omega)
          rw [if_pos (by omega), getD_app2 (by omega), show o1 + (i * E.w + j) - (o1 + xs.length * E.w) = (i - xs.length) * E.w + j by omega, cellsOf_get (by omega) hj]
    · have hle : xs.length * E.w ≤ cp * E.w := Nat.mul_le_mul_right _ h2
      have hl1 : (((cells cs).drop o1).take (xs.length * E.w)).length = xs.length * E.w := by rw [List.length_take, List.length_drop, cells_length]; omega
      refine ⟨(((cells cs).drop o1).take (xs.length * E.w) ++ cellsOf E ys ++ (List.replicate (cp' - (xs.length + ys.length)) (cells z)).flatten).map Seg.one, cells_ones _, ?_⟩
      refine ⟨_, h _ [⟨b', _⟩] (.inr ⟨b', 0, cp', T, _, by simp, by simpa using hc', rfl, ?_, ?_⟩), List.Sublist.cons₂ _ (List.sublist_cons_self _ _)⟩
      · rw [width_ones, List.length_append, List.length_append, hl1, cellsOf_length]
        simp only [List.length_flatten, List.map_replicate, List.sum_replicate_nat, cells_length, hzw, Nat.zero_add]
        rw [← Nat.add_mul, ← Nat.add_mul]
        exact Nat.mul_le_mul_right _ (by omega)
      · intro i hi j hj
        rw [List.length_append] at hi
        rw [cells_ones, Nat.zero_add]
        by_cases hil : i < xs.length
        · have : i * E.w + E.w ≤ xs.length * E.w := by rw [← Nat.succ_mul]; exact Nat.mul_le_mul_right _ hil
          rw [List.append_assoc, List.getElem?_append_left (by rw [hl1]; omega), List.getElem?_take_of_lt (by omega), List.getElem?_drop, h5 i hil j hj, getD_app1 hil]
        · have e1 : i * E.w = xs.length * E.w + (i - xs.length) * E.w := by rw [← Nat.add_mul]; congr 1; omega
          have : (i - xs.length) * E.w + E.w ≤ ys.length * E.w := by rw [← Nat.succ_mul]; exact Nat.mul_le_mul_right _ (by omega)
          rw [List.append_assoc, List.getElem?_append_right (by rw [hl1]; omega), hl1, List.getElem?_append_left (by rw [cellsOf_length]; omega), getD_app2 (by omega), show i * E.w + j - xs.length * E.w = (i - xs.length) * E.w + j by omega, cellsOf_get (by omega) hj]

/-- An element of an array of rows that are told by their numbers. -/
theorem q_idxf {len w : Nat} {x i : Operand} {k k' : IntKind} {ys : List Int} {z : Int} (h : ev t x = some (agg [.ints k (len * w) ys])) (hi : ev t i = some (.int k' z)) (hz : 0 ≤ z ∧ z < len) :
    Q1 C m t (.idx len w true x i) (agg [.ints k w (tk ys (z.toNat * w) w)]) := by
  intro o ho a ha wd hw
  obtain ⟨T, e, heq, hu, hs, hag⟩ := okOp_idx ho
  refine quiet_val ?_
  simp only [execOp, heq, ha.ev h, ha.ev hi]
  refine run_v ?_
  simp only [Instr.index, agg, asIntOf, Sem.run_bind, Sem.run_pure, run_underlying hu, Result.andThen_ok, hz, and_self, if_true, run_sizeOf hs]
  refine run_part hs hag (fun _ => ?_) (fun h => by cases h)
  congr 2
  have hlt : z.toNat < len := by omega
  have hle : z.toNat * w + w ≤ len * w := by rw [← Nat.succ_mul]; exact Nat.mul_le_mul_right w hlt
  simp only [cells, Seg.cells, List.append_nil]
  rw [ints_part (by omega)]
  rw [ints_tk, tk_all (tk_length _ _ _)]
/-- Is a slice's value nil? -/
def isNilV : Value → Bool
  | .slice none _ _ => true
  | _ => false
theorem q_isnM {neg : Bool} {x : Operand} {c : Bool} (hx : ev t x = some v) (hs : SrcM C m E v xs) (hc : isNilV v = c) : Q1 C m t (.isn neg x) (.bool (bif neg then !c else c)) := by
  subst hc
  intro o ho a ha w hw
  rcases hs w hw with ⟨h1, h2⟩ | ⟨b, o1, cp, h1, h2, h3⟩ | ⟨a3, h1, h2⟩
  · subst h1; exact q_isn hx o ho a ha w hw
  · subst h1; exact q_isn hx o ho a ha w hw
  · subst h1; exact q_isn hx o ho a ha w hw
theorem rd_view {β : Type} {E' : El β} {v' : Value} {ys : List β} (h : ∀ W, RdSl E' W v' ys → RdSl E W v xs) (hs : SrcM C m E' v' ys) : SrcM C m E v xs := fun w hw => h w (hs w hw)
theorem view_nil {β : Type} {E' : El β} {v' : Value} {ys : List β} : ∀ W, RdSl E' W v' ys → RdSl E W (.slice none 0 0) [] := fun _ _ => rd_nil
/-- A number at an address that is told from without. -/
theorem q_ldxz {x : Operand} {b p base i len : Nat} {T : TypeId} {fz : Nat × Nat} {s : List Seg} {k : IntKind} {ys : List Int} {z : Int} (e : z = ys.getD i 0) (hx : ev t x = some (.pointer (some ⟨b, p, none⟩))) (hb : Has b (.cells (cells s).toArray T fz) m)
    (hs : segAt s base = some (.ints k len ys)) (hp : p = base + i) (hi : decide (i < len) = true) : Q1 C m t (.ld 1 false x) (.int k z) := e ▸ q_ldx hx hb hs hp (of_decide_eq_true hi)
theorem ef_stxz {x y : Operand} {b p base i len : Nat} {T : TypeId} {s q : List Seg} {k : IntKind} {ys ys' : List Int} {z : Int} {m' : List Chunk} (e : ys' = setD ys i z) (hx : ev t x = some (.pointer (some ⟨b, p, none⟩))) (hy : ev t y = some (.int k z))
    (hs : segAt s base = some (.ints k len ys)) (hp : p = base + i) (hi : decide (i < len) = true) (hq : segSet s base (.ints k len ys') = some q)
    (hup : Upd b (.cells (cells s).toArray T (0, 0)) (.cells (cells q).toArray T (0, 0)) m m') (h : K t m') : EF C m t none (.st 1 x y) K := by
  subst e; exact ef_stx hx hy hs hp (of_decide_eq_true hi) hq hup h
def addOk (x y c : Int) : Bool := decide (0 ≤ x) && decide (0 ≤ y) && decide (0 ≤ c) && decide (c ≤ 1)
def addLo (x y c : Int) : Int := (x + y + c) % 18446744073709551616
def addHi (x y c : Int) : Int := (x + y + c) / 18446744073709551616
theorem xadd {P : Program} {x y c l h : Int} (hl : l = addLo x y c) (hh : h = addHi x y c) (hk : addOk x y c = true) (w : World) : (add64Entry #[.int .u64 x, .int .u64 y, .int .u64 c]).run P w = .ok (.tuple #[.int .u64 l, .int .u64 h]) w := by
  subst hl; subst hh
  simp [addOk] at hk
  exact run_add64 x y c hk.1.1.1 hk.1.1.2 hk.1.2 hk.2 w
def subOk (x y c : Int) : Bool := decide (0 ≤ x) && decide (0 ≤ y) && decide (y < 18446744073709551616) && decide (0 ≤ c) && decide (c ≤ 1)
def subLo (x y c : Int) : Int := (x - y - c) % 18446744073709551616
def subHi (x y c : Int) : Int := if x < y + c then 1 else 0
theorem xsub {P : Program} {x y c l h : Int} (hl : l = subLo x y c) (hh : h = subHi x y c) (hk : subOk x y c = true) (w : World) : (sub64Entry #[.int .u64 x, .int .u64 y, .int .u64 c]).run P w = .ok (.tuple #[.int .u64 l, .int .u64 h]) w := by
  subst hl; subst hh
  simp [subOk] at hk
  exact run_sub64 x y c hk.1.1.1.1 hk.1.1.1.2 hk.1.1.2 hk.1.2 hk.2 w
theorem rd_notnil {W : World} (h : RdSl E W v xs) (h0 : decide (0 < xs.length) = true) : isNilV v = false := by
  have h0 := of_decide_eq_true h0
  rcases h with ⟨_, h2⟩ | ⟨b, o1, cp, h1, _, _⟩ | ⟨_, _, h2⟩
  · subst h2; simp at h0
  · subst h1; rfl
  · subst h2; simp at h0
/-- Slices as values. -/
def IsSl (v : Value) : Prop := ∃ a n c, v = .slice a n c
theorem RdSl.isSl {W : World} (h : RdSl E W v xs) : IsSl v := by
  rcases h with ⟨h1, _⟩ | ⟨b, o, cp, h1, _, _⟩ | ⟨_, h1, _⟩
  · exact ⟨_, _, _, h1⟩
  · exact ⟨_, _, _, h1⟩
  · exact ⟨_, _, _, h1⟩
theorem OwnSl.isSl {ms : List Chunk} (h : OwnSl E v ms xs) : IsSl v := by
  rcases h with ⟨h1, _⟩ | ⟨b, o, cp, _, _, h1, _⟩
  · exact ⟨_, _, _, h1⟩
  · exact ⟨_, _, _, h1⟩
theorem cut_isSl {w : Nat} {u : Value} {lo hi : Nat} : IsSl (cutSl w u lo hi) := by
  unfold cutSl; split <;> exact ⟨_, _, _, rfl⟩
theorem IsSl.cells {u : Value} (h : IsSl u) : u.cells = #[u] := by obtain ⟨a, n, c, rfl⟩ := h; rfl
theorem IsSl.one {u : Value} (h : IsSl u) : one1 u = true := by obtain ⟨a, n, c, rfl⟩ := h; rfl
abbrev SlT := Option Addr × Nat × Nat
def slV (x : SlT) : Value := .slice x.1 x.2.1 x.2.2
def unS : Value → SlT
  | .slice a n c => (a, n, c)
  | _ => (none, 0, 0)
theorem slV_un {u : Value} (h : IsSl u) : slV (unS u) = u := by obtain ⟨a, n, c, rfl⟩ := h; rfl
abbrev El.sl : El SlT := ⟨1, fun x => [slV x], fun _ => rfl, fun _ v h => by simp at h; subst h; rfl, by decide, (none, 0, 0)⟩
theorem sl_cell {u : Value} (h : IsSl u) : Go.Sx.cells [.one u] = El.sl.cell (unS u) := by simp only [Go.Sx.cells, Seg.cells]; rw [slV_un h]; rfl
/-- Each of these slices reads as its list. -/
inductive RdAll (E : El α) (W : World) : List SlT → List (List α) → Prop
  | nil : RdAll E W [] []
  | cons {u : SlT} {us : List SlT} {ys : List α} {yss : List (List α)} : RdSl E W (slV u) ys → RdAll E W us yss → RdAll E W (u :: us) (ys :: yss)
theorem RdAll.len {W : World} {us : List SlT} {yss : List (List α)} (h : RdAll E W us yss) : us.length = yss.length := by
  induction h with
  | nil => rfl
  | cons _ _ ih => simp [ih]
theorem RdAll.get {W : World} {us : List SlT} {yss : List (List α)} (h : RdAll E W us yss) : ∀ i, i < yss.length → RdSl E W (slV (us.getD i (none, 0, 0))) (yss.getD i []) := by
  induction h with
  | nil => intro i hi; simp at hi
  | cons h1 _ ih =>
    intro i hi
    cases i with
    | zero => simpa using h1
    | succ i => simpa using ih i (by simpa using hi)
theorem RdAll.still {W w : World} {us : List SlT} {yss : List (List α)} (h : RdAll E W us yss) (hb : Below W.heap.size W w) : RdAll E w us yss := by
  induction h with
  | nil => exact .nil
  | cons h1 _ ih => exact .cons (h1.below hb) ih
theorem rd_unS {W : World} {u : Value} (h : RdSl E W u xs) : RdSl E W (slV (unS u)) xs := by rw [slV_un h.isSl]; exact h
theorem all_len {W : World} {us : List SlT} {yss : List (List α)} (h : RdAll E W us yss) {z : Int} (hz : inB z yss.length = true) : inB z us.length = true := by rw [h.len]; exact hz
theorem all_cut {lo hi : Int} {W : World} {us : List SlT} {yss : List (List α)} (h : RdAll E W us yss) (hz : cutB lo hi yss.length = true) : cutB lo hi us.length = true := by rw [h.len]; exact hz
theorem len_nl {W : World} {us : List SlT} {yss : List (List α)} {op : IOp} (q : Q1 C m t op (.int .i64 us.length)) (h : RdAll E W us yss) : Q1 C m t op (.int .i64 yss.length) := by rw [← h.len]; exact q
/-- A slice of so many elements. -/
def Shp (v : Value) (n : Nat) : Prop := (v = .slice none 0 0 ∧ n = 0) ∨ (∃ b o cp, v = .slice (some ⟨b, o, none⟩) n cp ∧ n ≤ cp) ∨ ∃ a, v = .slice (some a) 0 0 ∧ n = 0
theorem Shp.rd {W : World} (h : RdSl E W v xs) : Shp v xs.length := by
  rcases h with ⟨h1, h2⟩ | ⟨b, o, cp, h1, h2, _⟩ | ⟨a3, h1, h2⟩
  · exact .inl ⟨h1, by rw [h2]; rfl⟩
  · exact .inr (.inl ⟨b, o, cp, h1, h2⟩)
  · exact .inr (.inr ⟨a3, h1, by rw [h2]; rfl⟩)
theorem Shp.own {ms : List Chunk} (h : OwnSl E v ms xs) : Shp v xs.length := by
  rcases h with ⟨h1, h2, _⟩ | ⟨b, o, cp, _, _, h1, h2, _⟩
  · exact .inl ⟨h1, by rw [h2]; rfl⟩
  · exact .inr (.inl ⟨b, o, cp, h1, h2⟩)
theorem Shp.nil : Shp (.slice none 0 0) 0 := .inl ⟨rfl, rfl⟩
theorem Shp.blk {b base lo hi mz w n : Nat} (h : lo ≤ hi ∧ hi ≤ mz) (hn : n = hi - lo) : Shp (.slice (some (slAddr b base lo mz w)) (hi - lo) (mz - lo)) n := by
  subst hn
  unfold slAddr
  split
  · exact .inr (.inl ⟨_, _, _, rfl, by omega⟩)
  · exact .inr (.inl ⟨_, _, _, rfl, by omega⟩)
theorem Shp.cut {w : Nat} {lz hz : Int} (h : Shp v xs.length) (hb : cutB lz hz xs.length = true) : Shp (cutSl w v lz.toNat hz.toNat) ((xs.drop lz.toNat).take (hz.toNat - lz.toNat)).length := by
  have hb := cutB_z hb
  have hlen : ((xs.drop lz.toNat).take (hz.toNat - lz.toNat)).length = hz.toNat - lz.toNat := by rw [List.length_take, List.length_drop]; omega
  rw [hlen]
  rcases h with ⟨h1, h2⟩ | ⟨b, o, cp, h1, h2⟩ | ⟨a3, h1, h2⟩
  · subst h1; exact .inl ⟨rfl, by omega⟩
  rotate_left 1
  · subst h1
    have e1 : lz.toNat = 0 := by omega
    have e2 : hz.toNat = 0 := by omega
    rw [e1, e2, cutSl_odd]
    exact .inr (.inr ⟨a3, rfl, rfl⟩)
  · subst h1
    simp only [cutSl]
    exact Shp.blk (by omega) rfl
theorem Shp.isSl {n : Nat} (h : Shp v n) : IsSl v := by
  rcases h with ⟨h1, _⟩ | ⟨b, o, cp, h1, _⟩ | ⟨_, h1, _⟩
  · exact ⟨_, _, _, h1⟩
  · exact ⟨_, _, _, h1⟩
  · exact ⟨_, _, _, h1⟩
theorem Shp.notnil {n : Nat} (h : Shp v n) (h0 : decide (0 < n) = true) : isNilV v = false := by
  have h0 := of_decide_eq_true h0
  rcases h with ⟨_, h2⟩ | ⟨b, o1, cp, h1, _⟩ | ⟨_, _, h2⟩
  · omega
  · subst h1; rfl
  · omega
theorem q_lenP {x : Operand} {n : Nat} (hx : ev t x = some v) (h : Shp v n) : Q1 C m t (.len x) (.int .i64 n) := by
  rcases h with ⟨h1, h2⟩ | ⟨b, o1, cp, h1, h2⟩ | ⟨a3, h1, h2⟩
  · subst h1; subst h2; exact q_len hx
  rotate_left 1
  · subst h1; subst h2; exact q_len hx
  · subst h1; exact q_len hx
theorem q_iasP {w n : Nat} {x i : Operand} {k : IntKind} {z : Int} (hx : ev t x = some v) (hi : ev t i = some (.int k z)) (h : Shp v n) (hz : inB z n = true) :
    Q1 C m t (.ias w x i) (.pointer (some ⟨(slBase v).block, (slBase v).off + z.toNat * w, none⟩)) := by
  have hz' := inB_z hz
  rcases h with ⟨h1, h2⟩ | ⟨b, o1, cp, h1, h2⟩ | ⟨_, _, h2⟩
  · omega
  rotate_left 1
  · omega
  · subst h1; exact q_ias hx hi hz'
theorem q_s2aP {n k : Nat} {x : Operand} (hx : ev t x = some v) (h : Shp v k) (h0 : 0 < n) (hn : decide (n ≤ k) = true) : Q1 C m t (.s2a n x) (.pointer (some ⟨(slBase v).block, (slBase v).off, none⟩)) := by
  have hn := of_decide_eq_true hn
  rcases h with ⟨h1, h2⟩ | ⟨b, o1, cp, h1, h2⟩ | ⟨_, _, h2⟩
  · omega
  rotate_left 1
  · omega
  · subst h1; exact q_s2a hx hn
theorem q_slsP {w n : Nat} {x : Operand} {lo hi : Option Operand} {lz hz : Int} (hx : ev t x = some v) (h : Shp v n) (hl : OptI t 0 lo lz) (hh : OptI t n hi hz) (hb : cutB lz hz n = true) :
    Q1 C m t (.sls w x lo hi none) (cutSl w v lz.toNat hz.toNat) := by
  have hb := cutB_z hb
  rcases h with ⟨h1, h2⟩ | ⟨b, o1, cp, h1, h2⟩ | ⟨a3, h1, h2⟩
  · subst h1; subst h2
    exact q_sls0 (mz := 0) hx hl hh .no (by simp) (by omega)
  rotate_left 1
  · subst h1; subst h2
    have e1 : lz.toNat = 0 := by omega
    have e2 : hz.toNat = 0 := by omega
    rw [e1, e2, cutSl_odd]
    exact q_slsE hx hl hh (by omega)
  · subst h1
    have := q_sls (C := C) (m := m) (w := w) (mz := cp) hx hl hh .no (by simp) (by omega)
    simpa [cutSl] using this
theorem q_isnP {neg : Bool} {x : Operand} {c : Bool} {n : Nat} (hx : ev t x = some v) (h : Shp v n) (hc : isNilV v = c) : Q1 C m t (.isn neg x) (.bool (bif neg then !c else c)) := by
  subst hc
  rcases h with ⟨h1, h2⟩ | ⟨b, o1, cp, h1, h2⟩ | ⟨a3, h1, h2⟩
  · subst h1; exact q_isn hx
  · subst h1; exact q_isn hx
  · subst h1; exact q_isn hx
theorem len_nlP {n k : Nat} {op : IOp} (q : Q1 C m t op (.int .i64 n)) (h : n = k) : Q1 C m t op (.int .i64 k) := h ▸ q
theorem RdAll.app {W : World} {us us' : List SlT} {yss yss' : List (List α)} (h : RdAll E W us yss) (h' : RdAll E W us' yss') : RdAll E W (us ++ us') (yss ++ yss') := by
  induction h with
  | nil => exact h'
  | cons h1 _ ih => exact .cons h1 ih
/-- Data with the values that stand for a part of them. -/
def zipG {τ ω : Type} (z : τ) (zz : ω) (ys : List τ) (us : List ω) : List (τ × ω) := (List.range ys.length).map fun i => (ys.getD i z, us.getD i zz)
theorem zipG_len {τ ω : Type} {z : τ} {zz : ω} {ys : List τ} {us : List ω} : (zipG z zz ys us).length = ys.length := by simp [zipG]
theorem zipG_b {τ ω : Type} {z : τ} {zz : ω} {ys : List τ} {us : List ω} {i : Int} (h : inB i ys.length = true) : inB i (zipG z zz ys us).length = true := by rw [zipG_len]; exact h
theorem zipG_n {τ ω : Type} {z : τ} {zz : ω} {ys : List τ} {us : List ω} {i : Int} (h : inB i ys.length = true) : i.toNat < (zipG z zz ys us).length := by rw [zipG_len]; exact inB_n h
theorem zipG_cell {τ ω : Type} {E : El (τ × ω)} {z : τ} {zz : ω} {ys : List τ} {us : List ω} {i : Nat} (h : i < ys.length) : E.cell ((zipG z zz ys us).getD i E.z) = E.cell (ys.getD i z, us.getD i zz) := by
  congr 1
  simp [zipG, List.getD, List.getElem?_range h, h]
end
end Go.Sx
