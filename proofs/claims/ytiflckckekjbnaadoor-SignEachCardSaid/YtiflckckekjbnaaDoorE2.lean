/- The engine, part 2: a statement whose order Go leaves open: one schedule of my choice serves every order. -/
import Derived.Test.YtiflckckekjbnaaDoorE1
namespace Go.Sx
open Go Go.RowKit
set_option linter.all false

def noQ : Exit → Act → World → Prop := fun _ _ _ => False

/-- Operation j is carried out, to its end. -/
def stp (P : Program) (ops : Array Oper) (j : Nat) (K : Act → World → Prop) (a : Act) (w : World) : Prop :=
  match ops[j]? with
  | none => K a w
  | some o => if Region.wanted o (yielded ops a.tmps) then o.wp P a w K noQ else K (a.put o.dst undef) w

section
variable {P : Program} {ops : Array Oper}

theorem wpOp_of_stp {j : Nat} {K : Act → World → Prop} {Q : Exit → Act → World → Prop} {a : Act} {w : World} (h : stp P ops j K a w) : wpOp P ops Q j K a w := by
  unfold stp at h
  unfold wpOp
  split
  · rename_i ho; simp only [ho] at h; exact h
  · rename_i o ho
    simp only [ho] at h
    split
    · rename_i hw; simp only [hw, if_true] at h; exact .inl (wp_noQ h)
    · rename_i hw; simp only [hw] at h; exact h
theorem stp_mono {j : Nat} {K K' : Act → World → Prop} {a : Act} {w : World} (hK : ∀ a w, K a w → K' a w) (h : stp P ops j K a w) : stp P ops j K' a w := by
  unfold stp at *
  split
  · rename_i ho; simp only [ho] at h; exact hK _ _ h
  · rename_i o ho
    simp only [ho] at h
    split
    · rename_i hw; simp only [hw, if_true] at h; exact Oper.wp_mono hK h
    · rename_i hw; simp only [hw] at h; exact hK _ _ h

/-- What operation i leaves in its temporary makes no difference to an operation apart from it. -/
theorem stp_put {j : Nat} {oi oj : Oper} {v : Value} (hj : ops[j]? = some oj) (hap : oi.apart ops oj = true) (hsj : ∀ cs b, oj.op ≠ .select cs b)
    {K : Act → World → Prop} {a : Act} {w : World} (h : stp P ops j K (a.put oi.dst v) w) : stp P ops j (fun a' w' => K (a'.put oi.dst v) w' ∧ (∃ u, a' = a.put oj.dst u ∨ ∃ d, a' = ({ a with defers := d :: a.defers }).put oj.dst u)) a w := by
  obtain ⟨h1, h2, h3⟩ := Oper.apart_spec hap
  unfold stp at *
  simp only [hj] at *
  rw [wanted_put oj a oi.dst v h1] at h
  split
  · rename_i hw
    simp only [hw, if_true] at h
    unfold Oper.wp at *
    rw [execOp_put oj hsj a oi.dst v h1] at h
    generalize (execOp a.eval oj).run P w = r at *
    cases r with
    | ok n w' =>
      cases n <;> simp only [Oper.upon] at h ⊢
      case value u => exact ⟨by rw [← Act.put_comm a v u h2]; exact h, u, .inl rfl⟩
      case skip => exact ⟨by rw [← Act.put_comm a v undef h2]; exact h, undef, .inl rfl⟩
      case defer d =>
        refine ⟨?_, undef, .inr ⟨d, rfl⟩⟩
        rw [← Act.put_comm _ v undef h2, ← Act.put_defers]
        exact h
      case enter f args =>
        refine Calls.mono h fun e w'' he => ?_
        cases e with
        | returned u => exact ⟨by rw [← Act.put_comm a v u h2]; exact he, u, .inl rfl⟩
        | panicked c => exact he
        | outgrown => exact he
      case row row args => exact Rows.mono h fun u w'' he => ⟨by rw [← Act.put_comm a v u h2]; exact he, u, .inl rfl⟩
    | halt x w' => cases x <;> simp only [Oper.upon] at h ⊢ <;> exact h
  · rename_i hw
    simp only [hw] at h
    exact ⟨by rw [← Act.put_comm a v undef h2]; exact h, undef, .inl rfl⟩

/-! ## Sets of states -/

def GC (Φ : Act → World → Prop) : Prop := ∀ a w w', Φ a w → Below w.heap.size w w' → Φ a w'

/-- Whatever order is picked; G j: what operation j leaves of the class D, which holds at the begin. -/
def AnyS (P : Program) (ops : Array Oper) (late : Nat → Bool) (D D0 : World → Prop) (kn : Act → World → Prop) : Nat → Array Bool → (Act → World → Prop) → Prop
  | 0, listed, Φ => Region.ready .any ops listed = [] ∧ ∀ a w, Φ a w → kn a w
  | f + 1, listed, Φ =>
    (Region.ready .any ops listed = [] → ∀ a w, Φ a w → kn a w) ∧
    ∀ j ∈ Region.ready .any ops listed, ∀ a w, Φ a w →
      stp P ops j (fun a' w' => ∃ Φ', GC Φ' ∧ Φ' a' w' ∧ (late j = false → D w → D w') ∧ (D0 w → D0 w') ∧ AnyS P ops late D D0 kn f (listed.setIfInBounds j true) Φ') a w

theorem wpAny_of_AnyS {late : Nat → Bool} {D D0 : World → Prop} {kn : Act → World → Prop} {Q : Exit → Act → World → Prop} (hQ : ∀ a w, kn a w → Q .normal a w) :
    ∀ (f : Nat) (listed : Array Bool) (Φ : Act → World → Prop), AnyS P ops late D D0 kn f listed Φ → ∀ a w, Φ a w → wpAny P .any ops Q f listed a w
  | 0, _, _, h, a, w, hΦ => ⟨h.1, hQ _ _ (h.2 a w hΦ)⟩
  | f + 1, listed, Φ, h, a, w, hΦ => ⟨fun h0 => hQ _ _ (h.1 h0 a w hΦ), fun j hj => wpOp_of_stp (stp_mono (fun a' w' ⟨Φ', _, h1, _, _, h2⟩ => wpAny_of_AnyS hQ f _ Φ' h2 a' w' h1) (h.2 j hj a w hΦ))⟩

theorem AnyS.sub {late : Nat → Bool} {D D0 : World → Prop} {kn : Act → World → Prop} {f : Nat} {listed : Array Bool} {Φ Φ' : Act → World → Prop} (hs : ∀ a w, Φ' a w → Φ a w) (h : AnyS P ops late D D0 kn f listed Φ) : AnyS P ops late D D0 kn f listed Φ' := by
  cases f with
  | zero => exact ⟨h.1, fun a w hΦ => h.2 a w (hs a w hΦ)⟩
  | succ f => exact ⟨fun h0 a w hΦ => h.1 h0 a w (hs a w hΦ), fun j hj a w hΦ => h.2 j hj a w (hs a w hΦ)⟩

theorem YS.of_same {D : World → Prop} {o : Oper} {v : Value} {a a' : Act} (hy : YS P ops D o v a) (he : execOp a'.eval o = execOp a.eval o)
    (hw : Region.wanted o (yielded ops a'.tmps) = Region.wanted o (yielded ops a.tmps)) : YS P ops D o v a' := by
  unfold YS Oper.quietAt at *
  rw [he, hw]
  exact hy

theorem YS.stp {D : World → Prop} {i : Nat} {o : Oper} {v : Value} {a : Act} {w : World} (hi : ops[i]? = some o) (hy : YS P ops D o v a) (hD : D w) {K : Act → World → Prop} (hK : ∀ w', Below w.heap.size w w' → K (a.put o.dst v) w') : stp P ops i K a w := by
  unfold Sx.stp
  simp only [hi]
  rcases hy with ⟨hw, hv⟩ | ⟨hw, rfl⟩
  · simp only [hw, if_true]; exact wp_of_quietAt (hv w hD) (Below.refl _ _) hK
  · simp only [hw, Bool.false_eq_true, if_false]; exact hK w (Below.refl _ _)

def Closed (ops : Array Oper) (listed : Array Bool) : Prop := ∀ j oj, ops[j]? = some oj → listed.getD j false = true → ∀ e ∈ oj.after, Region.binds .any e = true → listed.getD e.on false = true

theorem Closed.set {listed : Array Bool} {j : Nat} (h : Closed ops listed) (hj : j ∈ Region.ready .any ops listed) : Closed ops (listed.setIfInBounds j true) := by
  obtain ⟨_, oi, hoi, hall⟩ := mem_ready.1 hj
  intro k ok hk hl e he hb
  by_cases hjk : j = k
  · subst hjk
    have : ok = oi := Option.some.inj (hk.symm.trans hoi)
    subst this
    exact getD_set_true (hall e he hb)
  · rw [getD_set_ne false hjk] at hl
    exact getD_set_true (h k ok hk hl e he hb)

theorem anc_listed {listed : Array Bool} (hc : Closed ops listed) {i : Nat} : ∀ (n j : Nat), anc ops i n j = true → listed.getD j false = true → listed.getD i false = true
  | 0, _, h, _ => by simp [anc] at h
  | n + 1, j, h, hl => by
    simp only [anc] at h
    split at h
    · rename_i o ho
      obtain ⟨e, he, hb⟩ := Array.any_eq_true'.1 h
      simp only [Bool.and_eq_true, Bool.or_eq_true, beq_iff_eq] at hb
      have h1 := hc j o ho hl e he hb.1
      rcases hb.2 with h2 | h2
      · rw [h2] at h1; exact h1
      · exact anc_listed hc n e.on h2 h1
    · cases h
theorem anc_ready {listed : Array Bool} (hc : Closed ops listed) {i n j : Nat} (h : anc ops i n j = true) (hj : j ∈ Region.ready .any ops listed) : listed.getD i false = true := by
  obtain ⟨_, oj, hoj, hall⟩ := mem_ready.1 hj
  cases n with
  | zero => simp [anc] at h
  | succ n =>
    simp only [anc, hoj] at h
    obtain ⟨e, he, hb⟩ := Array.any_eq_true'.1 h
    simp only [Bool.and_eq_true, Bool.or_eq_true, beq_iff_eq] at hb
    have h1 := hall e he hb.1
    rcases hb.2 with h2 | h2
    · rw [h2] at h1; exact h1
    · exact anc_listed hc n e.on h2 h1

theorem unlisted {listed : Array Bool} {i : Nat} (h : listed.getD i true = false) : listed.getD i false = false := by
  rcases Nat.lt_or_ge i listed.size with h' | h'
  · simp [h'] at h ⊢; exact h
  · simp [Array.getElem?_eq_none h'] at h

/-- A quiet operation that may come up now may be taken first. -/
theorem AnyS.first {late : Nat → Bool} {D D0 E : World → Prop} {kn : Act → World → Prop} (pu : Bool) (hD : ∀ w w', E w → Below w.heap.size w w' → E w')
    (hB : ∀ w w', D w → Below w.heap.size w w' → D w') (hB0 : ∀ w w', D0 w → Below w.heap.size w w' → D0 w') (hE : E = bif pu then D0 else D) {i : Nat} {oi : Oper} {v : Value} (hi : ops[i]? = some oi)
    (hsel : ∀ (j : Nat) (o : Oper) cs b, ops[j]? = some o → o.op ≠ .select cs b) :
    ∀ (f : Nat) (listed : Array Bool) (Φ : Act → World → Prop), Closed ops listed →
      (∀ j oj, ops[j]? = some oj → j ≠ i → listed.getD j true = false → (∀ e ∈ oj.after, Region.binds .any e = true → e.on ≠ i) → oi.apart ops oj = true) →
      (pu = false → ∀ j, j ≠ i → listed.getD j true = false → late j = true → ∃ n, anc ops i n j = true) →
      i ∈ Region.ready .any ops listed → GC Φ → (∀ a w, Φ a w → E w ∧ YS P ops E oi v a) →
      AnyS P ops late D D0 kn f (listed.setIfInBounds i true) (fun a' w' => ∃ a, a' = a.put oi.dst v ∧ Φ a w') → AnyS P ops late D D0 kn (f + 1) listed Φ := by
  intro f
  induction f with
  | zero =>
    intro listed Φ hcl hfree hlate hr hg hy H
    refine ⟨fun h => (by rw [h] at hr; cases hr), fun j hj a w hΦ => ?_⟩
    by_cases hji : j = i
    · subst hji
      refine (hy a w hΦ).2.stp hi (hy a w hΦ).1 fun w' hb => ⟨fun a' w' => ∃ a, a' = a.put oi.dst v ∧ Φ a w', ?_, ⟨a, rfl, hg a w w' hΦ hb⟩, fun _ h => hB _ _ h hb, fun h => hB0 _ _ h hb, H⟩
      rintro a' w1 w2 ⟨a1, e1, h1⟩ hb1; exact ⟨a1, e1, hg _ _ _ h1 hb1⟩
    · have := ready_mono hj hji
      rw [H.1] at this
      cases this
  | succ f ih =>
    intro listed Φ hcl hfree hlate hr hg hy H
    have hun := (mem_ready.1 hr).1
    refine ⟨fun h => (by rw [h] at hr; cases hr), fun j hj a w hΦ => ?_⟩
    by_cases hji : j = i
    · subst hji
      refine (hy a w hΦ).2.stp hi (hy a w hΦ).1 fun w' hb => ⟨fun a' w' => ∃ a, a' = a.put oi.dst v ∧ Φ a w', ?_, ⟨a, rfl, hg a w w' hΦ hb⟩, fun _ h => hB _ _ h hb, fun h => hB0 _ _ h hb, H⟩
      rintro a' w1 w2 ⟨a1, e1, h1⟩ hb1; exact ⟨a1, e1, hg _ _ _ h1 hb1⟩
    · obtain ⟨hjun, oj, hoj, hall⟩ := mem_ready.1 hj
      have hnot : ∀ e ∈ oj.after, Region.binds .any e = true → e.on ≠ i := fun e he hb heq => by
        have h1 := hall e he hb
        rw [heq, unlisted hun] at h1
        cases h1
      have hap := hfree j oj hoj hji hjun hnot
      have hnl : pu = false → late j = false := by
        intro hpu
        cases hl : late j with
        | false => rfl
        | true =>
          obtain ⟨n, hn⟩ := hlate hpu j hji hjun hl
          have := anc_ready hcl hn hj
          rw [unlisted hun] at this; cases this
      have h1 := H.2 j (ready_mono hj hji) (a.put oi.dst v) w ⟨a, rfl, hΦ⟩
      have h2 := stp_put hoj hap (fun cs b => hsel j oj cs b hoj) h1
      obtain ⟨hDw, hyw⟩ := hy a w hΦ
      obtain ⟨p1, p2, p3⟩ := Oper.apart_spec hap
      have keep : ∀ (a : Act), YS P ops E oi v a → ∀ u, YS P ops E oi v (a.put oj.dst u) := fun a hy u =>
        hy.of_same (execOp_put oi (fun cs b => hsel i oi cs b hi) a oj.dst u p3) (wanted_put oi a oj.dst u p3)
      refine stp_mono ?_ h2
      rintro a1 w1 ⟨⟨Φ', hg', hΦ', hlate', hzero', H'⟩, hu⟩
      have hEw : E w1 := by
        cases pu with
        | true => simp only [cond_true] at hE; subst hE; exact hzero' hDw
        | false => simp only [cond_false] at hE; subst hE; exact hlate' (hnl rfl) hDw
      have hya1 : YS P ops E oi v a1 := by
        rcases hu with ⟨u, rfl | ⟨d, rfl⟩⟩
        · exact keep a hyw u
        · exact keep _ (hyw.of_same (a' := { a with defers := d :: a.defers }) rfl rfl) u
      refine ⟨fun a' w' => Φ' (a'.put oi.dst v) w' ∧ E w' ∧ YS P ops E oi v a', ?_, ⟨hΦ', hEw, hya1⟩, fun h => hlate' h, hzero', ?_⟩
      · rintro a' w' w'' ⟨q1, q2, q3⟩ hb
        exact ⟨hg' _ _ _ q1 hb, hD _ _ q2 hb, q3⟩
      · refine ih (listed.setIfInBounds j true) _ (hcl.set hj) ?_ ?_ (ready_mono hr (Ne.symm hji)) ?_ (fun a' w' h => h.2) ?_
        · intro k ok hk hki hun' hno
          refine hfree k ok hk hki ?_ hno
          by_cases hjk : j = k
          · subst hjk; exact hjun
          · rw [getD_set_ne true hjk] at hun'; exact hun'
        · intro hpu k hki hun' hl
          refine hlate hpu k hki ?_ hl
          by_cases hjk : j = k
          · subst hjk; exact hjun
          · rw [getD_set_ne true hjk] at hun'; exact hun'
        · rintro a' w' w'' ⟨q1, q2, q3⟩ hb
          exact ⟨hg' _ _ _ q1 hb, hD _ _ q2 hb, q3⟩
        · rw [Array.setIfInBounds_comm _ _ hji]
          refine AnyS.sub ?_ H'
          rintro a' w' ⟨a2, rfl, q1, q2, q3⟩
          exact q1
end
end Go.Sx
