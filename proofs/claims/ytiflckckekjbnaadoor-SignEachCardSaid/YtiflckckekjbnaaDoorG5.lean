/- From a slice that is handed in to its list. -/
import Derived.Test.YtiflckckekjbnaaDoorE10
import Derived.Test.YtiflckckekjbnaaDoorE17
namespace Go.Sx
open Go Go.RowKit
set_option linter.all false

theorem Given.slice_bytes {C : Checked} {fn : Func} {W : World} {args : Array Value} (h : Given C fn W args) {t e : TypeId} {ts : List TypeId} {a : Addr} {len cap : Nat} {vs : List Value}
    (hp : fn.params.toList = t :: ts) (hu : C.prog.underlying t = some (.slice e)) (ha : args.toList = .slice (some a) len cap :: vs) : cap * C.prog.bytesOf e ≤ reachBytes := by
  obtain ⟨H, enc, ds, p, hA, hw⟩ := h.read
  rw [hp, ha] at hA
  rw [hp] at hw
  cases ds with
  | nil => exact hA.elim
  | cons d ds =>
    obtain ⟨p1, q1, ⟨fuel, hf⟩, h2, rfl⟩ := hA
    rcases DataW.trod_slice hu hf with ⟨e1, _⟩ | ⟨a', len', cap', elems, rest, m, e1, e2, hx, _, hlc, _, hel, _, hR, _⟩
    · exact absurd e1 (by simp [Value.cells])
    · have e3 : (Value.slice (some a) len cap) = .slice (some a') len' cap' := by simpa [Value.cells] using e2
      injection e3 with e4 e5 e6
      subst e5; subst e6
      obtain ⟨hr, _⟩ := hR rfl
      simp only [Prod.mk.injEq] at hx
      rw [hx.1] at hw
      simp only [DataW.weightsEach, DataW.weights, hu, List.all_append, List.all_cons, Bool.and_eq_true, decide_eq_true_eq, List.length_map, hel, hr] at hw
      have := hw.1.1
      rwa [show len + (cap - len) = cap by omega] at this
theorem rd_of_SlI {W : World} {k : IntKind} {a : Option Addr} {len cap : Nat} {xs : List Int} (h : SlI W k a cap xs) (hl : len ≤ cap) : RdSl (El.int k) W (slV (a, len, cap)) (xs.take len) := by
  have hx := h.len
  have hlen : (xs.take len).length = len := by rw [List.length_take]; omega
  rcases h.at_ with h0 | ⟨b, off, rfl, hm⟩
  · subst h0
    obtain rfl : len = 0 := by omega
    cases a with
    | none => exact .inl ⟨rfl, by simp⟩
    | some a => exact .inr (.inr ⟨a, rfl, by simp⟩)
  · refine .inr (.inl ⟨b, off, cap, by rw [hlen]; rfl, by omega, fun i hi j hj => ?_⟩)
    rw [hlen] at hi
    obtain rfl : j = 0 := by simp only at hj; omega
    have := hm.cell i (by simp only [width, Seg.width]; omega)
    simp only [cells, Seg.cells, List.append_nil] at this
    simp only [Nat.mul_one, Nat.add_zero]
    rw [this, intsCells_get (by omega)]
    simp [List.getD_eq_getElem?_getD, List.getElem?_take, hi]
theorem rd_of_SlR {α : Type} {E : El α} {W : World} {a : Option Addr} {len cap : Nat} {g : Nat → List Value} {xs : List α} (h : SlR W E.w a cap g) (hl : len ≤ cap) (hx : xs.length = len) (hf : ∀ i, i < len → g i = E.cell (xs.getD i E.z)) :
    RdSl E W (slV (a, len, cap)) xs := by
  rcases h.at_ with h0 | h0 | ⟨b, off, rfl, hm⟩
  · subst h0
    obtain rfl : len = 0 := by omega
    have : xs = [] := List.eq_nil_of_length_eq_zero hx
    cases a with
    | none => exact .inl ⟨rfl, this⟩
    | some a => exact .inr (.inr ⟨a, rfl, this⟩)
  · exact absurd h0 (by have := E.pos; omega)
  · refine .inr (.inl ⟨b, off, cap, by rw [hx]; rfl, by omega, fun i hi j hj => ?_⟩)
    rw [hx] at hi
    have hlt : i * E.w + j < cap * E.w := by
      have : i * E.w + E.w ≤ cap * E.w := by rw [← Nat.succ_mul]; exact Nat.mul_le_mul_right E.w (by omega)
      omega
    have := hm.cell (i * E.w + j) (by simp only [width, Seg.width, Nat.add_zero]; exact hlt)
    simp only [cells, Seg.cells, List.append_nil] at this
    rw [this, rowsCells_get2 (by omega) hj, fit_same (h.len i (by omega)), hf i hi]
end Go.Sx
