/- The engine, part 11: cuts: where ways meet again; small quiet operations. -/
import Derived.Test.YtiflckckekjbnaaDoorE8
namespace Go.Sx
open Go Go.RowKit
set_option linter.all false

def pickM (m : List Chunk) (ids : List Nat) : List Chunk := ids.filterMap (m[·]?)

theorem Sat.pick {W0 : World} {S : List Nat} {m : List Chunk} {w : World} (h : Sat W0 S m w) {ids : List Nat} (hn : ids.Nodup) : Sat W0 S (pickM m ids) w := by
  have hmem : ∀ c ∈ pickM m ids, ∃ i ∈ ids, m[i]? = some c := fun c hc => by simpa [pickM] using hc
  refine ⟨h.fr, fun c hc => ?_, fun c hc => ?_, ?_⟩
  · obtain ⟨i, _, hi⟩ := hmem c hc; exact h.own c (List.mem_of_getElem? hi)
  · obtain ⟨i, _, hi⟩ := hmem c hc; exact h.base c (List.mem_of_getElem? hi)
  · have hd := h.dist
    clear hmem
    induction ids with
    | nil => simp [pickM]
    | cons i r ih =>
      rw [List.nodup_cons] at hn
      have ih' := ih hn.2
      cases hi : m[i]? with
      | none => simpa [pickM, hi] using ih'
      | some c =>
        have e : pickM m (i :: r) = c :: pickM m r := by simp [pickM, hi]
        rw [e, List.map_cons, List.nodup_cons]
        refine ⟨?_, ih'⟩
        intro hm
        obtain ⟨c', hc', e'⟩ := List.mem_map.1 hm
        have : ∃ j ∈ r, m[j]? = some c' := by simpa [pickM] using hc'
        obtain ⟨j, hj, hjc⟩ := this
        have h1 : (m.map (·.b))[i]? = some c.b := by simp [hi]
        have h2 : (m.map (·.b))[j]? = some c.b := by simp [hjc, e']
        have hij : i = j := by
          have l1 := (List.getElem?_eq_some_iff.1 h1).1
          have l2 := (List.getElem?_eq_some_iff.1 h2).1
          exact (List.getElem_inj hd).1 ((List.getElem?_eq_some_iff.1 h1).2.trans (List.getElem?_eq_some_iff.1 h2).2.symm)
        exact hn.1 (hij ▸ hj)

section
variable {C : Cfg} {t : TS} {m : List Chunk} {kn : KN} {ke : KE}

/-- What is told may be told in other words. -/
structure Less (t : TS) (m : List Chunk) (t' : TS) (m' : List Chunk) : Prop where
  t : ∀ j v, look t j = some v → look t' j = some v
  m : ∃ ids : List Nat, ids.Nodup ∧ pickM m' ids = m
theorem Less.mk' {t : TS} {m : List Chunk} {t' : TS} {m' : List Chunk} (ids : List Nat) (h1 : subT t t') (h2 : decide ids.Nodup = true) (h3 : pickM m' ids = m) : Less t m t' m' :=
  ⟨subT_look h1, ids, of_decide_eq_true h2, h3⟩

theorem wc_weak {c : IC} {t' : TS} {m' : List Chunk} (hl : Less t m t' m') (h : WC C c t m kn ke) : WC C c t' m' kn ke := by
  intro hm c0 hok Q a w ha hw hc
  obtain ⟨ids, h1, h2⟩ := hl.m
  exact h hm c0 hok Q a w (ha.drop hl.t) (h2 ▸ hw.pick h1) hc
theorem WC.mono {c : IC} {kn' : KN} (hK : ∀ t m, kn t m → kn' t m) (h : WC C c t m kn ke) : WC C c t m kn' ke := by
  intro hm c0 hok Q a w ha hw hc
  exact h hm c0 hok Q a w ha hw ⟨fun t m hk => hc.n t m (hK t m hk), hc.b, hc.r⟩

/-- Cut between two statements: what is told behind the first is a state of X. -/
theorem wc_cut {a b : IC} {X : Type} (T : X → TS) (M : X → List Chunk) (I : X → Prop) (h1 : WC C a t m (fun t' m' => ∃ x, I x ∧ Less (T x) (M x) t' m') ke)
    (h2 : ∀ x, I x → WC C b (T x) (M x) kn ke) : WC C (.seq a b) t m kn ke :=
  wc_seq (h1.mono fun _ _ ⟨x, hx, hl⟩ => wc_weak hl (h2 x hx))
end

section
variable {C : Cfg} {m : List Chunk} {t : TS}

theorem okOp_nilc {P : Program} {o : Oper} {x : Operand} (h : okOp P o (.nilc x) = true) : o.op = .nilCheck x := by
  simp only [okOp] at h
  split at h
  · rename_i x' heq
    have e := oeq_sound h; subst e; exact heq
  · cases h
theorem q_nilc {x : Operand} {a : Addr} (hx : ev t x = some (.pointer (some a))) : Q1 C m t (.nilc x) (.pointer (some a)) := by
  intro o ho f hf w hw
  refine quiet_val ?_
  have e := okOp_nilc ho
  unfold execOp
  rw [e]
  simp only [hf.ev hx]
  rfl
theorem q_isn {neg : Bool} {x : Operand} {a : Option Addr} {n c : Nat} (hx : ev t x = some (.slice a n c)) : Q1 C m t (.isn neg x) (.bool (bif neg then !a.isNone else a.isNone)) := by
  intro o ho f hf w hw
  refine quiet_val ?_
  simp only [okOp] at ho
  split at ho
  · rename_i op' T x' y' T' heq
    simp only [Bool.and_eq_true, decide_eq_true_eq] at ho
    obtain ⟨⟨⟨h1, h2⟩, h3⟩, h4⟩ := ho
    have e := oeq_sound h2; have e' := oeq_sound h3; subst e; subst e'
    split at h4
    · rename_i E hu
      have e1 : f.eval (.const (.slice none 0 0)) = .slice none 0 0 := rfl
      have e2 : (Op.equal T (.slice a n c) (.slice none 0 0)).run C.P w = .ok a.isNone w := by
        unfold Op.equal
        have : Op.maxDepth = (Op.maxDepth - 1) + 1 := rfl
        rw [this, Op.equalIn]
        rw [Sem.run_bind, run_underlying hu, Result.andThen_ok]
        cases a <;> rfl
      simp only [execOp, heq, hf.ev hx, e1]
      refine run_v ?_
      cases neg
      · simp only [Bool.false_eq_true, if_false] at h1
        subst h1
        have e3 : (eqGuard .eql T x' (.const (.slice none 0 0)) (.slice a n c) (.slice none 0 0)).run C.P w = .ok () w := rfl
        rw [Sem.run_bind, e3, Result.andThen_ok]
        show (do pure (Value.bool (← Op.equal T (.slice a n c) (.slice none 0 0))) : Sem Value).run C.P w = _
        rw [Sem.run_bind, e2]; rfl
      · simp only [if_true] at h1
        subst h1
        have e3 : (eqGuard .neq T x' (.const (.slice none 0 0)) (.slice a n c) (.slice none 0 0)).run C.P w = .ok () w := rfl
        rw [Sem.run_bind, e3, Result.andThen_ok]
        show (do pure (Value.bool (!(← Op.equal T (.slice a n c) (.slice none 0 0)))) : Sem Value).run C.P w = _
        rw [Sem.run_bind, e2]; rfl
    · cases h4
  · cases ho
theorem q_s2a {n : Nat} {x : Operand} {a : Option Addr} {l c : Nat} (hx : ev t x = some (.slice a l c)) (hl : n ≤ l) : Q1 C m t (.s2a n x) (.pointer a) := by
  intro o ho f hf w hw
  refine quiet_val ?_
  simp only [okOp] at ho
  split at ho
  · rename_i A x' heq
    simp only [Bool.and_eq_true] at ho
    obtain ⟨h1, h2⟩ := ho
    have e := oeq_sound h1; subst e
    split at h2
    · rename_i k E hu
      rw [decide_eq_true_eq] at h2; subst h2
      unfold execOp
      rw [heq]
      simp only [hf.ev hx]
      simp [Instr.arrayAt, run_underlying hu, Nat.not_lt.2 hl]
    · cases h2
  · cases ho
end
end Go.Sx
