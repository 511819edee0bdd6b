/- The engine, part 15: short rules for memory. -/
import Derived.Test.YtiflckckekjbnaaDoorE14
import Derived.Laws.Externs
namespace Go.Sx
open Go Go.RowKit
set_option linter.all false

section
variable {C : Cfg} {m : List Chunk} {t : TS} {K : KN}

theorem one_ints {k : IntKind} {xs : List Int} : ∀ u ∈ xs.map (Value.int k), one1 u = true := fun u hu => by
  obtain ⟨x, _, rfl⟩ := List.mem_map.1 hu; rfl
theorem ints_part {k : IntKind} {N off n : Nat} {xs : List Int} (h : off + n ≤ N) : ((intsCells k N xs).drop off).take n = (tk xs off n).map (Value.int k) := by
  apply List.ext_getElem?
  intro j
  by_cases hj : j < n
  · rw [List.getElem?_take_of_lt hj, List.getElem?_drop, intsGet, if_pos (by omega), List.getElem?_map, List.getElem?_eq_getElem (by rw [tk_length]; exact hj)]
    simp [tk]
  · rw [List.getElem?_eq_none (by rw [List.length_take]; omega), List.getElem?_eq_none (by rw [List.length_map, tk_length]; omega)]
theorem src_of {size : Nat} {b off n c : Nat} {cs : List Value} (hl : cs.length = n * size) (h1 : ∀ u ∈ cs, one1 u = true)
    (h : ∀ w, Sat C.W0 C.S m w → ∀ i, i < n * size → w.cell? ⟨b, off + i, none⟩ = cs[i]?) : SrcV C m size (.slice (some ⟨b, off, none⟩) n c) n cs :=
  ⟨fun _ => rfl, fun w hw k hk => run_first hl (h w hw) hk, hl, h1⟩
theorem src_own_i {b off n c N : Nat} {T : TypeId} {k : IntKind} {xs : List Int} (hb : Has b (.cells (cells [.ints k N xs]).toArray T (0, 0)) m) (h : off + n ≤ N) : SrcV C m 1 (.slice (some ⟨b, off, none⟩) n c) n ((tk xs off n).map (.int k)) := by
  refine src_of (by rw [List.length_map, tk_length, Nat.mul_one]) one_ints fun w hw i hi => ?_
  rw [Nat.mul_one] at hi
  rw [cells_load (hw.own _ hb.mem), ← ints_part h, List.getElem?_take_of_lt hi, List.getElem?_drop]
  simp [cells, Seg.cells]
theorem src_mem_i {b o0 off n c N : Nat} {k : IntKind} {xs : List Int} (hm : Mem C.W0 b o0 [.ints k N xs]) (hS : b ∉ C.S) (h : off + n ≤ N) : SrcV C m 1 (.slice (some ⟨b, o0 + off, none⟩) n c) n ((tk xs off n).map (.int k)) := by
  refine src_of (by rw [List.length_map, tk_length, Nat.mul_one]) one_ints fun w hw i hi => ?_
  rw [Nat.mul_one] at hi
  rw [Nat.add_assoc, hm.now hS hw (i := off + i) (by simp [width, Seg.width]; omega), ← ints_part h, List.getElem?_take_of_lt hi, List.getElem?_drop]
  simp [cells, Seg.cells]
theorem rows_mid {w N o n : Nat} {g : Nat → List Value} (h : o + n ≤ N) : ((rowsCells w N g).drop (o * w)).take (n * w) = rowsCells w n (fun i => g (o + i)) := by
  rw [rows_drop (by omega), rows_take (by omega)]
theorem one_rows {w n : Nat} {g : Nat → List Value} (h : ∀ i, i < n → (g i).length = w ∧ ∀ u ∈ g i, one1 u = true) : ∀ u ∈ rowsCells w n g, one1 u = true := by
  intro u hu
  unfold rowsCells at hu
  obtain ⟨i, hi, hu⟩ := List.mem_flatMap.1 hu
  obtain ⟨h1, h2⟩ := h i (by simpa using hi)
  rw [fit_same h1] at hu
  exact h2 u hu
theorem src_own_r {b o n c N w : Nat} {T : TypeId} {g : Nat → List Value} (hb : Has b (.cells (cells [.rows w N g]).toArray T (0, 0)) m) (h : o + n ≤ N) (h1 : ∀ i, i < n → (g (o + i)).length = w ∧ ∀ u ∈ g (o + i), one1 u = true) :
    SrcV C m w (.slice (some ⟨b, o * w, none⟩) n c) n (rowsCells w n fun i => g (o + i)) := by
  refine src_of rows_len (one_rows h1) fun wd hw i hi => ?_
  rw [cells_load (hw.own _ hb.mem), ← rows_mid h, List.getElem?_take_of_lt hi, List.getElem?_drop]
  simp [cells, Seg.cells]
theorem src_mem_r {b o0 o n c N w : Nat} {g : Nat → List Value} (hm : Mem C.W0 b o0 [.rows w N g]) (hS : b ∉ C.S) (h : o + n ≤ N) (h1 : ∀ i, i < n → (g (o + i)).length = w ∧ ∀ u ∈ g (o + i), one1 u = true) :
    SrcV C m w (.slice (some ⟨b, o0 + o * w, none⟩) n c) n (rowsCells w n fun i => g (o + i)) := by
  refine src_of rows_len (one_rows h1) fun wd hw i hi => ?_
  have hle : o * w + n * w ≤ N * w := by rw [← Nat.add_mul]; exact Nat.mul_le_mul_right _ h
  rw [Nat.add_assoc, hm.now hS hw (i := o * w + i) (by simp [width, Seg.width]; omega), ← rows_mid h, List.getElem?_take_of_lt hi, List.getElem?_drop]
  simp [cells, Seg.cells]

theorem ef_mks_i {d : Nat} {T : TypeId} {bytes : Nat} {k : IntKind} {l c : Operand} {kl kc : IntKind} {L N : Int}
    (hl : ev t l = some (.int kl L)) (hc : ev t c = some (.int kc N)) (h0 : 0 ≤ L) (hln : L ≤ N) (hb : (bytes : Int) * N ≤ 281474976710656) (h63 : N ≤ 9223372036854775807)
    (h : ∀ b, C.W0.heap.size ≤ b → K ((d, .slice (some ⟨b, 0, none⟩) L.toNat N.toNat) :: t) (ck b T [.ints k N.toNat []] :: m)) :
    EF C m t (some d) (.mks T bytes [.one (.int k 0)] l c) K :=
  ef_mks hl hc h0 hln hb h63 fun b hb => ⟨_, by
    have := grown_cells (k := k) (n0 := 0) (n := 0) (N' := N.toNat) (N := 0) (off := 0) (xs := []) (ys := []) rfl (by omega) (by omega)
    simpa [tk, cells, Seg.cells, intsCells] using this, h b hb⟩
theorem ef_mks_r {d : Nat} {T : TypeId} {bytes w : Nat} {z : List Seg} {l c : Operand} {kl kc : IntKind} {L N : Int} (hw : width z = w)
    (hl : ev t l = some (.int kl L)) (hc : ev t c = some (.int kc N)) (h0 : 0 ≤ L) (hln : L ≤ N) (hb : (bytes : Int) * N ≤ 281474976710656) (h63 : N ≤ 9223372036854775807)
    (h : ∀ b, C.W0.heap.size ≤ b → K ((d, .slice (some ⟨b, 0, none⟩) L.toNat N.toNat) :: t) (ck b T [.rows w N.toNat (fun _ => cells z)] :: m)) :
    EF C m t (some d) (.mks T bytes z l c) K :=
  ef_mks hl hc h0 hln hb h63 fun b hb => ⟨_, by
    simp only [cells, Seg.cells, List.append_nil]
    exact rows_const (by rw [cells_length]; exact hw), h b hb⟩

/-- copy of numbers into a run of numbers of one's own block. -/
theorem ef_cpy_i {d : Option Nat} {x y : Operand} {b off dl dc n N : Nat} {T : TypeId} {k : IntKind} {v : Value} {xs ys : List Int} {m' : List Chunk}
    (hx : ev t x = some (.slice (some ⟨b, off, none⟩) dl dc)) (hy : ev t y = some v) (hs : SrcV C m 1 v n (ys.map (.int k))) (hfit : off + dl ≤ N)
    (hu : Upd b (.cells (cells [.ints k N xs]).toArray T (0, 0)) (.cells (cells [.ints k N (wr xs off (ys.take dl))]).toArray T (0, 0)) m m')
    (h : K (putT d (.int .i64 (Nat.min n dl : Nat)) t) m') : EF C m t d (.cpy 1 x y) K := by
  have hlen : ys.length = n := by have := hs.nl; simpa using this
  refine ef_cpy hx hy hs (by simp [width, Seg.width]; exact hfit) ?_ hu (by cases d <;> exact h)
  rw [wr_cells (by rw [List.length_take]; omega), Nat.mul_one, List.map_take]
  congr 1
  apply List.ext_getElem?
  intro j
  rw [List.getElem?_take, List.getElem?_take]
  have : Nat.min n dl = min n dl := rfl
  rw [this]
  by_cases h1 : j < dl
  · by_cases h2 : j < n
    · rw [if_pos h1, if_pos (by omega)]
    · rw [if_pos h1, if_neg (by omega), List.getElem?_eq_none (by rw [List.length_map]; omega)]
  · rw [if_neg h1, if_neg (by omega)]

/-- Function f has no body; in its place stands e. -/
def ExtF (P : Program) (f : FuncId) (e : Array Value → Sem Value) : Prop :=
  ∃ fn, P.funcs[f]? = some fn ∧ (fn.name == "runtime.NumGoroutine") = false ∧ fn.body.isNone = true ∧ Extern.findNext fn = none ∧ Extern.find fn = some e
theorem q_xcall {f : FuncId} {args : List Operand} {vs : List Value} {v : Value} {e : Array Value → Sem Value} (ha : evL t args = some vs) (he : ExtF C.P f e) (hr : ∀ w, (e vs.toArray).run C.P w = .ok v w) : Q1 C m t (.xcall f args) v := by
  intro o ho a hat w hw
  obtain ⟨fn, h1, h2, h3, h4, h5⟩ := he
  refine quiet_val ?_
  simp only [okOp] at ho
  split at ho
  · rename_i c heq
    simp only [Bool.and_eq_true] at ho
    obtain ⟨ho1, ho2⟩ := ho
    have hc : c.callee = .value (.func f) := by
      revert ho1
      cases c.callee <;> simp
      rename_i x
      cases x <;> simp
    have hargs : c.args.map a.eval = vs.toArray := by
      have e1 := oeqL_sound ho2
      have e2 := hat.evL ha
      apply Array.ext'
      rw [Array.toList_map, e1, e2]
    have h6 := run_callFunc_extern (P := C.P) h1 h2 h3 h4 h5 vs.toArray w
    rw [hr w] at h6
    have hev : a.eval (.func f) = .func (.func f) #[] #[] := rfl
    simp only [execOp, heq, resolve, hc, hev, Deferred.ofValue, Sem.run_bind, Sem.run_pure, Result.andThen_ok, invoke, Array.append_empty, Array.empty_append, hargs]
    rw [h6]; rfl
  · cases ho
def sub64Entry : Array Value → Sem Value := fun args => do
  let (x, y, b) ← Extern.MathBitsCarry.three "Sub64" args
  pure (Extern.MathBitsCarry.pair ((x + Extern.MathBitsCarry.m64 - y - b) % Extern.MathBitsCarry.m64) (if x < y + b then 1 else 0))
theorem run_sub64 {P : Program} (x y c : Int) (hx : 0 ≤ x) (hy : 0 ≤ y) (hy2 : y < 18446744073709551616) (hc0 : 0 ≤ c) (hc : c ≤ 1) (w : World) :
    (sub64Entry #[.int .u64 x, .int .u64 y, .int .u64 c]).run P w = .ok (.tuple #[.int .u64 ((x - y - c) % 18446744073709551616), .int .u64 (if x < y + c then 1 else 0)]) w := by
  have key : ∀ k : Nat, k ≤ 1 → (sub64Entry #[.int .u64 x, .int .u64 y, .int .u64 (k : Int)]).run P w =
      .ok (Extern.MathBitsCarry.pair ((x.toNat + Extern.MathBitsCarry.m64 - y.toNat - k) % Extern.MathBitsCarry.m64) (if x.toNat < y.toNat + k then 1 else 0)) w := by
    intro k hk
    have : k = 0 ∨ k = 1 := by omega
    rcases this with rfl | rfl <;> rfl
  obtain ⟨k, rfl⟩ := Int.eq_ofNat_of_zero_le hc0
  rw [key k (by omega)]
  obtain ⟨X, rfl⟩ := Int.eq_ofNat_of_zero_le hx
  obtain ⟨Y, rfl⟩ := Int.eq_ofNat_of_zero_le hy
  simp only [Extern.MathBitsCarry.pair, Extern.MathBitsCarry.m64, Int.toNat_natCast]
  have e1 : Int.ofNat ((X + 2 ^ 64 - Y - k) % 2 ^ 64) = ((X : Int) - Y - k) % 18446744073709551616 := by
    simp only [Int.ofNat_eq_natCast]; omega
  have e2 : Int.ofNat (if X < Y + k then 1 else 0) = if (X : Int) < Y + k then 1 else 0 := by
    by_cases h : X < Y + k
    · rw [if_pos h, if_pos (by omega)]; rfl
    · rw [if_neg h, if_neg (by omega)]; rfl
  rw [e1, e2]

/-- Equality of two runs of numbers. -/
def ieq (n : Nat) (a b : List Int) : Bool := decide (tk a 0 n = tk b 0 n)
theorem ieq_cells {k : IntKind} {n : Nat} {a b : List Int} : ieq n a b = true ↔ cells [.ints k n a] = cells [.ints k n b] := by
  simp only [ieq, decide_eq_true_eq, cells, Seg.cells, List.append_nil, ints_tk]
  constructor
  · intro h; rw [h]
  · intro h
    refine List.map_inj_right (f := Value.int k) (fun x y e => ?_) |>.1 h
    cases e; rfl

/-- A new block, told in other runs. -/
theorem ef_al2 {d : Nat} {T : TypeId} {z z' : List Seg} (hz : cells z = cells z') (h : ∀ b, C.W0.heap.size ≤ b → K ((d, .pointer (some ⟨b, 0, none⟩)) :: t) (ck b T z' :: m)) : EF C m t (some d) (.al T z) K :=
  ef_al fun b hb => by
    have := h b hb
    unfold ck at this ⊢
    rw [hz]; exact this

/-- A number of a run, at whatever place. -/
theorem q_ldx {x : Operand} {b p base i len : Nat} {T : TypeId} {fz : Nat × Nat} {s : List Seg} {k : IntKind} {xs : List Int} (hx : ev t x = some (.pointer (some ⟨b, p, none⟩))) (hb : Has b (.cells (cells s).toArray T fz) m)
    (hs : segAt s base = some (.ints k len xs)) (hp : p = base + i) (hi : i < len) : Q1 C m t (.ld 1 false x) (.int k (xs.getD i 0)) :=
  q_ldi (base := base) (i := i) (by rw [hx, hp, Nat.mul_one]) hb hs hi
theorem ef_stx {x y : Operand} {b p base i len : Nat} {T : TypeId} {s q : List Seg} {k : IntKind} {xs : List Int} {z : Int} {m' : List Chunk} (hx : ev t x = some (.pointer (some ⟨b, p, none⟩))) (hy : ev t y = some (.int k z))
    (hs : segAt s base = some (.ints k len xs)) (hp : p = base + i) (hi : i < len) (hq : segSet s base (.ints k len (setD xs i z)) = some q)
    (hup : Upd b (.cells (cells s).toArray T (0, 0)) (.cells (cells q).toArray T (0, 0)) m m') (h : K t m') : EF C m t none (.st 1 x y) K :=
  ef_sti (base := base) (i := i) (by rw [hx, hp, Nat.mul_one]) hy hs hi hq hup h
end
end Go.Sx
