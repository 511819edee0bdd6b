/- The engine, part 7: values put together, slicing. -/
import Derived.Test.YtiflckckekjbnaaDoorE6
namespace Go.Sx
open Go Go.RowKit
set_option linter.all false

section
variable {C : Cfg} {t : TS} {m : List Chunk}

theorem q_bd {z q : List Seg} {parts : List (Nat × Nat × Operand)} (h : BdR t z parts q) : Q1 C m t (.bd z parts) (agg q) := by
  intro o ho a ha w hw
  refine quiet_val ?_
  simp only [okOp] at ho
  split at ho
  · rename_i T ps heq
    simp only [Bool.and_eq_true] at ho
    obtain ⟨⟨h1, h2⟩, h3⟩ := ho
    split at h1
    · rename_i l hl
      have hc := veqL_sound h1
      unfold zOf at hl
      cases hi : C.P.info? T with
      | none => rw [hi] at hl; cases hl
      | some inf =>
        rw [hi] at hl
        simp only [Option.bind_some] at hl
        cases hz : inf.zero with
        | none => rw [hz] at hl; cases hl
        | some zv =>
          rw [hz] at hl
          simp only [Option.map_some, Option.some.injEq] at hl
          have hcells : zv.cells = (cells z).toArray := by rw [← hc, ← hl, Array.toArray_toList]
          have hzero : (zeroValue T).run C.P w = .ok zv w := by
            simp [zeroValue, typeInfo, program, Sem.run, hi, hz]
          have hfill := fill_ok ha h h2
          have hps : (ps.map fun p => (p.1, a.eval p.2)).toList = ps.toList.map fun p => (p.1, a.eval p.2) := by simp
          simp only [execOp, heq]
          refine run_v ?_
          have hps' : (ps.map fun (x : Nat × Operand) => match x with | (i, x) => (i, a.eval x)) = (ps.map fun p => (p.1, a.eval p.2)) := rfl
          rw [hps']
          cases hu : C.P.underlying T with
          | none => rw [hu] at h3; cases h3
          | some d =>
            rw [hu] at h3
            cases d <;> simp only [Bool.false_eq_true] at h3
            · rename_i len e
              obtain ⟨s, hs⟩ := Option.isSome_iff_exists.1 h3
              have hpl : placeF C.P T = fun i => some (i * s, s) := by
                funext i; simp [placeF, hu, hs]
              rw [hpl] at hfill
              simp only [Instr.build, Sem.run_bind, hzero, Result.andThen_ok, run_underlying hu, run_sizeOf (T := e) (n := s) (by rw [hs]; simp), hcells, hps, hfill, Sem.run_pure]
              rfl
            · rename_i fs
              have hall : ∀ f ∈ fs.toList, (szOf C.P f.type).isSome = true := fun f hf => List.all_eq_true.1 h3 f hf
              have hpm : (fs.mapM fun (f : Field) => (do pure (f.offset, ← sizeOf f.type) : Sem (Nat × Nat))).run C.P w = .ok (fs.map fun f => (f.offset, (szOf C.P f.type).getD 0)) w := by
                rw [← Array.toArray_toList (xs := fs), List.mapM_toArray]
                simp only [Sem.run_map, run_places fs.toList hall, Result.andThen_ok]
                rw [← Array.toList_map, Array.toArray_toList]
              have hpl : placeF C.P T = fun i => (fs.map fun f => (f.offset, (szOf C.P f.type).getD 0))[i]? := by
                funext i
                simp only [placeF, hu, Array.getElem?_map]
                cases hf : fs[i]? with
                | none => rfl
                | some f =>
                  have hmem : f ∈ fs.toList := by
                    rw [Array.getElem?_eq_some_iff] at hf
                    obtain ⟨hlt, he⟩ := hf
                    rw [← he]; simp
                  obtain ⟨n, hn⟩ := Option.isSome_iff_exists.1 (hall f hmem)
                  simp [hn]
              rw [hpl] at hfill
              simp only [Instr.build, Sem.run_bind, hzero, Result.andThen_ok, run_underlying hu, hpm, hcells, hps, hfill, Sem.run_pure]
              rfl
    · cases h1
  · cases ho

/-- An operand that may be left out. -/
inductive OptI (t : TS) (d : Int) : Option Operand → Int → Prop
  | no : OptI t d none d
  | yes {x : Operand} {k : IntKind} {z : Int} : ev t x = some (.int k z) → OptI t d (some x) z

theorem OptI.val {t : TS} {n : Nat} {a : Act} (ha : SatT n t a) {d z : Int} {x : Option Operand} (h : OptI t d x z) : (x.map a.eval = none ∧ x = none ∧ z = d) ∨ ∃ k, x.map a.eval = some (.int k z) := by
  cases h with
  | no => exact .inl ⟨rfl, rfl, rfl⟩
  | yes h => exact .inr ⟨_, by simp only [Option.map_some, ha.ev h]; rfl⟩

theorem run_sliceBounds {P : Program} {w : World} {isS : Bool} {len cap : Nat} {t : TS} {n : Nat} {a : Act} (ha : SatT n t a) {lo hi mx : Option Operand} {lz hz mz : Int} (hl : OptI t 0 lo lz) (hh : OptI t len hi hz) (hm : OptI t cap mx mz)
    (hmh : mx.isSome = true → hi.isSome = true) (h1 : 0 ≤ lz) (h2 : lz ≤ hz) (h3 : hz ≤ mz) (h4 : mz ≤ cap) :
    (Instr.sliceBounds isS len cap (lo.map a.eval) (hi.map a.eval) (mx.map a.eval)).run P w = .ok (lz.toNat, hz.toNat, mz.toNat) w := by
  unfold Instr.sliceBounds
  rcases hm.val ha with ⟨em, em', rfl⟩ | ⟨km, em⟩
  · rw [em]
    rcases hh.val ha with ⟨eh, _, rfl⟩ | ⟨kh, eh⟩
    · rw [eh]
      rcases hl.val ha with ⟨el, _, rfl⟩ | ⟨kl, el⟩
      · rw [el]; simp
      · rw [el]
        have : lz ≤ (len : Int) := h2
        simp [Instr.sliceBound, asIntOf, h1, this]
    · rw [eh]
      have hz0 : 0 ≤ hz := by omega
      have hzm : ((hz.toNat : Nat) : Int) = hz := by omega
      rcases hl.val ha with ⟨el, _, rfl⟩ | ⟨kl, el⟩
      · rw [el]; simp [Instr.sliceBound, asIntOf, hz0, h3]
      · rw [el]
        simp [Instr.sliceBound, asIntOf, hz0, h3, h1, h2, hzm]
  · rw [em]
    have hmx : mx.isSome = true := by cases mx <;> simp_all
    have hm0 : 0 ≤ mz := by omega
    have hmm : ((mz.toNat : Nat) : Int) = mz := by omega
    rcases hh.val ha with ⟨eh, eh', rfl⟩ | ⟨kh, eh⟩
    · have := hmh hmx; rw [eh'] at this; cases this
    · rw [eh]
      have hz0 : 0 ≤ hz := by omega
      have hzm : ((hz.toNat : Nat) : Int) = hz := by omega
      rcases hl.val ha with ⟨el, _, rfl⟩ | ⟨kl, el⟩
      · rw [el]; simp [Instr.sliceBound, asIntOf, hm0, h4, hmm, hz0, h3]
      · rw [el]
        simp [Instr.sliceBound, asIntOf, hm0, h4, hmm, hz0, h3, h1, h2, hzm]

def slAddr (b o l m w : Nat) : Addr := if m = l then ⟨b, o, none⟩ else ⟨b, o + l * w, none⟩

/-- A slice of an array. -/
theorem q_sla {len w : Nat} {x : Operand} {lo hi mx : Option Operand} {b o1 : Nat} {lz hz mz : Int} (hx : ev t x = some (.pointer (some ⟨b, o1, none⟩))) (hl : OptI t 0 lo lz) (hh : OptI t len hi hz) (hm : OptI t len mx mz)
    (hmh : mx.isSome = true → hi.isSome = true) (hb : 0 ≤ lz ∧ lz ≤ hz ∧ hz ≤ mz ∧ mz ≤ len) : Q1 C m t (.sla len w x lo hi mx) (.slice (some (slAddr b o1 lz.toNat mz.toNat w)) (hz.toNat - lz.toNat) (mz.toNat - lz.toNat)) := by
  intro o ho a ha wd hw
  refine quiet_val ?_
  simp only [okOp] at ho
  split at ho
  · rename_i T x' lo' hi' mx' heq
    simp only [Bool.and_eq_true] at ho
    obtain ⟨⟨⟨⟨h1, h2⟩, h3⟩, h4⟩, h5⟩ := ho
    have e1 := oeq_sound h1; have e2 := oeqO_sound h2; have e3 := oeqO_sound h3; have e4 := oeqO_sound h4
    subst e1; subst e2; subst e3; subst e4
    split at h5
    · rename_i l el hu
      simp only [Bool.and_eq_true, decide_eq_true_eq] at h5
      obtain ⟨h6, h7⟩ := h5
      subst h6
      simp only [execOp, heq, ha.ev hx]
      refine run_v ?_
      simp only [Instr.sliceAt, Sem.run_bind, run_underlying hu, Result.andThen_ok, Instr.sureAddr, Sem.run_pure, run_sliceBounds (isS := false) ha hl hh hm hmh hb.1 hb.2.1 hb.2.2.1 hb.2.2.2, run_sizeOf h7]
      unfold slAddr
      split <;> simp_all [Addr.add_lit]
    · cases h5
  · cases ho

/-- A slice of a slice. -/
theorem q_sls {w : Nat} {x : Operand} {lo hi mx : Option Operand} {b o1 len cp : Nat} {lz hz mz : Int} (hx : ev t x = some (.slice (some ⟨b, o1, none⟩) len cp)) (hl : OptI t 0 lo lz) (hh : OptI t len hi hz) (hm : OptI t cp mx mz)
    (hmh : mx.isSome = true → hi.isSome = true) (hb : 0 ≤ lz ∧ lz ≤ hz ∧ hz ≤ mz ∧ mz ≤ cp) : Q1 C m t (.sls w x lo hi mx) (.slice (some (slAddr b o1 lz.toNat mz.toNat w)) (hz.toNat - lz.toNat) (mz.toNat - lz.toNat)) := by
  intro o ho a ha wd hw
  refine quiet_val ?_
  simp only [okOp] at ho
  split at ho
  · rename_i T x' lo' hi' mx' heq
    simp only [Bool.and_eq_true] at ho
    obtain ⟨⟨⟨⟨h1, h2⟩, h3⟩, h4⟩, h5⟩ := ho
    have e1 := oeq_sound h1; have e2 := oeqO_sound h2; have e3 := oeqO_sound h3; have e4 := oeqO_sound h4
    subst e1; subst e2; subst e3; subst e4
    split at h5
    · rename_i el hu
      simp only [execOp, heq, ha.ev hx]
      refine run_v ?_
      simp only [Instr.sliceAt, Instr.slice, Sem.run_bind, run_underlying hu, Result.andThen_ok, Sem.run_pure, run_sliceBounds (isS := true) ha hl hh hm hmh hb.1 hb.2.1 hb.2.2.1 hb.2.2.2, run_sizeOf h5]
      unfold slAddr
      split <;> simp_all [Addr.add_lit]
    · cases h5
  · cases ho
/-- .. of a nil slice. -/
theorem q_sls0 {w : Nat} {x : Operand} {lo hi mx : Option Operand} {lz hz mz : Int} (hx : ev t x = some (.slice none 0 0)) (hl : OptI t 0 lo lz) (hh : OptI t (0 : Nat) hi hz) (hm : OptI t (0 : Nat) mx mz)
    (hmh : mx.isSome = true → hi.isSome = true) (hb : lz = 0 ∧ hz = 0 ∧ mz = 0) : Q1 C m t (.sls w x lo hi mx) (.slice none 0 0) := by
  obtain ⟨rfl, rfl, rfl⟩ := hb
  intro o ho a ha wd hw
  refine quiet_val ?_
  simp only [okOp] at ho
  split at ho
  · rename_i T x' lo' hi' mx' heq
    simp only [Bool.and_eq_true] at ho
    obtain ⟨⟨⟨⟨h1, h2⟩, h3⟩, h4⟩, h5⟩ := ho
    have e1 := oeq_sound h1; have e2 := oeqO_sound h2; have e3 := oeqO_sound h3; have e4 := oeqO_sound h4
    subst e1; subst e2; subst e3; subst e4
    split at h5
    · rename_i el hu
      simp only [execOp, heq, ha.ev hx]
      refine run_v ?_
      simp only [Instr.sliceAt, Instr.slice, Sem.run_bind, run_underlying hu, Result.andThen_ok, Sem.run_pure, run_sliceBounds (isS := true) ha hl hh hm hmh (by omega) (by omega) (by omega) (by omega), run_sizeOf h5]
      simp
    · cases h5
  · cases ho
end
end Go.Sx
