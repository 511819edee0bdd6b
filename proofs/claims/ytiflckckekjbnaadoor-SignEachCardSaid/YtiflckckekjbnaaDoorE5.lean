/- The engine, part 5: == of aggregates. -/
import Derived.Test.YtiflckckekjbnaaDoorE4
namespace Go.Sx
open Go Go.RowKit
set_option linter.all false

def kdOk : Kd → Value → Bool
  | .i k, .int k' _ => decide (k = k')
  | .b, .bool _ => true
  | _, _ => false
def kdOkL : List Kd → List Value → Bool
  | [], [] => true
  | k :: r, v :: l => kdOk k v && kdOkL r l
  | _, _ => false

theorem kdOkL_length : ∀ {ks : List Kd} {l : List Value}, kdOkL ks l = true → l.length = ks.length
  | [], [], _ => rfl
  | [], _ :: _, h => by simp [kdOkL] at h
  | _ :: _, [], h => by simp [kdOkL] at h
  | k :: r, v :: l, h => by
    simp only [kdOkL, Bool.and_eq_true] at h
    simp [kdOkL_length h.2]
theorem kdOkL_append : ∀ {ks ks' : List Kd} {l : List Value}, kdOkL (ks ++ ks') l = true → kdOkL ks (l.take ks.length) = true ∧ kdOkL ks' (l.drop ks.length) = true
  | [], ks', l, h => by simpa [kdOkL] using h
  | k :: r, ks', [], h => by simp [kdOkL] at h
  | k :: r, ks', v :: l, h => by
    simp only [List.cons_append, kdOkL, Bool.and_eq_true] at h
    obtain ⟨h1, h2⟩ := kdOkL_append h.2
    simp [kdOkL, h.1, h1, h2]

theorem kdEq : ∀ {ks : List Kd} {l l' : List Value}, kdOkL ks l = true → kdOkL ks l' = true → (∃ d : Decidable (l = l'), True)
  | _, _, _, _, _ => ⟨Classical.propDecidable _, trivial⟩

noncomputable def same (l l' : List Value) : Bool := @decide (l = l') (Classical.propDecidable _)
theorem same_true {l l' : List Value} : same l l' = true ↔ l = l' := by simp [same]
theorem same_split {a b a' b' : List Value} (h : a.length = a'.length) : same (a ++ b) (a' ++ b') = (same a a' && same b b') := by
  rw [Bool.eq_iff_iff, Bool.and_eq_true, same_true, same_true, same_true]
  constructor
  · intro e; exact List.append_inj e h
  · rintro ⟨rfl, rfl⟩; rfl

section
variable {P : Program}

/-- What '==' comes to at a type whose cells have these kinds. -/
def EqOk (P : Program) (d : Nat) (T : TypeId) (ks : List Kd) : Prop :=
  ∀ (w : World) (l l' : List Value), kdOkL ks l = true → kdOkL ks l' = true →
    (aggOf P T = some true → (Op.equalIn d T (.agg l.toArray) (.agg l'.toArray)).run P w = .ok (same l l') w) ∧
    (aggOf P T = some false → ∀ v v', l = [v] → l' = [v'] → (Op.equalIn d T v v').run P w = .ok (same l l') w)

theorem part_step {d : Nat} {T : TypeId} {ks : List Kd} (h : EqOk P d T ks) (hs : (szOf P T == some ks.length) = true) (ha : agOk P T ks.length = true)
    (w : World) (xs ys : List Value) (off : Nat) (hx : kdOkL ks ((xs.drop off).take ks.length) = true) (hy : kdOkL ks ((ys.drop off).take ks.length) = true) :
    ((do let a ← part T xs.toArray off; let b ← part T ys.toArray off; Op.equalIn d T a b : Sem Bool)).run P w = .ok (same ((xs.drop off).take ks.length) ((ys.drop off).take ks.length)) w := by
  unfold agOk at ha
  cases hag : aggOf P T with
  | none => rw [hag] at ha; cases ha
  | some ag =>
    cases ag with
    | true =>
      simp only [Sem.run_bind]
      rw [run_part (n := ks.length) (ag := true) hs (by rw [hag]; rfl) (fun _ => rfl) (fun h => by cases h)]
      simp only [Result.andThen_ok]
      rw [run_part (n := ks.length) (ag := true) hs (by rw [hag]; rfl) (fun _ => rfl) (fun h => by cases h)]
      simp only [Result.andThen_ok]
      exact (h w _ _ hx hy).1 hag
    | false =>
      rw [hag] at ha
      have h1 : ks.length = 1 := by simpa using ha
      have hlx := kdOkL_length hx
      have hly := kdOkL_length hy
      rw [h1] at hlx hly
      obtain ⟨v, hv⟩ := List.length_eq_one_iff.1 hlx
      obtain ⟨v', hv'⟩ := List.length_eq_one_iff.1 hly
      have gx : xs[off]? = some v := by
        have : ((xs.drop off).take ks.length)[0]? = some v := by rw [h1, hv]; rfl
        rw [List.getElem?_take_of_lt (by omega), List.getElem?_drop] at this
        simpa using this
      have gy : ys[off]? = some v' := by
        have : ((ys.drop off).take ks.length)[0]? = some v' := by rw [h1, hv']; rfl
        rw [List.getElem?_take_of_lt (by omega), List.getElem?_drop] at this
        simpa using this
      simp only [Sem.run_bind]
      rw [run_part (n := ks.length) (ag := false) hs (by rw [hag]; rfl) (fun h => by cases h) (fun _ => gx)]
      simp only [Result.andThen_ok]
      rw [run_part (n := ks.length) (ag := false) hs (by rw [hag]; rfl) (fun h => by cases h) (fun _ => gy)]
      simp only [Result.andThen_ok]
      exact (h w _ _ hx hy).2 hag v v' (by rw [h1]; exact hv) (by rw [h1]; exact hv')

def fieldStep (P : Program) (d : Nat) (acc : Option (List Kd)) (f : Field) : Option (List Kd) := match acc, kindsOf P d f.type with
  | some l, some l' => if (f.name != "_") && decide (f.offset = l.length) && (szOf P f.type == some l'.length) && agOk P f.type l'.length then some (l ++ l') else none
  | _, _ => none

theorem foldl_none {d : Nat} : ∀ (fs : List Field), fs.foldl (fieldStep P d) none = none
  | [] => rfl
  | f :: fs => by rw [List.foldl_cons]; exact foldl_none fs

theorem fields_eq {d D : Nat} (ih : ∀ T ks, kindsOf P d T = some ks → EqOk P D T ks) : ∀ (fs : List Field) (acc ks : List Kd), fs.foldl (fieldStep P d) (some acc) = some ks → ∃ rest, ks = acc ++ rest ∧
    ∀ (w : World) (l l' : List Value), kdOkL ks l = true → kdOkL ks l' = true →
      (Op.eqFields D l.toArray l'.toArray fs).run P w = .ok (same (l.drop acc.length) (l'.drop acc.length)) w
  | [], acc, ks, h => by
    simp only [List.foldl_nil, Option.some.injEq] at h
    subst h
    refine ⟨[], by simp, fun w l l' hl hl' => ?_⟩
    have h1 := kdOkL_length hl
    have h2 := kdOkL_length hl'
    rw [List.drop_of_length_le (by omega), List.drop_of_length_le (by omega)]
    simp [Op.eqFields, same]
  | f :: fs, acc, ks, h => by
    rw [List.foldl_cons] at h
    cases hk : kindsOf P d f.type with
    | none =>
      rw [show fieldStep P d (some acc) f = none by simp [fieldStep, hk], foldl_none] at h; cases h
    | some l1 =>
      by_cases hc : ((f.name != "_") && decide (f.offset = acc.length) && (szOf P f.type == some l1.length) && agOk P f.type l1.length) = true
      · rw [show fieldStep P d (some acc) f = some (acc ++ l1) by simp only [fieldStep, hk]; rw [if_pos hc]] at h
        obtain ⟨rest, e, H⟩ := fields_eq ih fs (acc ++ l1) ks h
        refine ⟨l1 ++ rest, by rw [e, List.append_assoc], fun w l l' hl hl' => ?_⟩
        simp only [Bool.and_eq_true, decide_eq_true_eq] at hc
        obtain ⟨⟨⟨c1, c2⟩, c3⟩, c4⟩ := hc
        have c1' : f.name ≠ "_" := by simpa using c1
        have hx : kdOkL l1 ((l.drop acc.length).take l1.length) = true := by
          rw [e, List.append_assoc] at hl
          exact (kdOkL_append (kdOkL_append hl).2).1
        have hy : kdOkL l1 ((l'.drop acc.length).take l1.length) = true := by
          rw [e, List.append_assoc] at hl'
          exact (kdOkL_append (kdOkL_append hl').2).1
        have hp := part_step (ih f.type l1 hk) c3 c4 w l l' acc.length hx hy
        simp only [Op.eqFields]
        rw [if_pos c1', c2]
        have hbind : (do
            let a ← part f.type l.toArray acc.length
            let b ← part f.type l'.toArray acc.length
            let r ← Op.equalIn D f.type a b
            if (!r) = true then pure false else Op.eqFields D l.toArray l'.toArray fs : Sem Bool) =
            ((do let a ← part f.type l.toArray acc.length; let b ← part f.type l'.toArray acc.length; Op.equalIn D f.type a b : Sem Bool) >>= fun r => if (!r) = true then pure false else Op.eqFields D l.toArray l'.toArray fs) := by
          simp only [bind_assoc]
        rw [hbind, Sem.run_bind, hp]
        simp only [Result.andThen_ok]
        have hsp : same (l.drop acc.length) (l'.drop acc.length) = (same ((l.drop acc.length).take l1.length) ((l'.drop acc.length).take l1.length) && same ((l.drop acc.length).drop l1.length) ((l'.drop acc.length).drop l1.length)) := by
          rw [← same_split (by rw [kdOkL_length hx, kdOkL_length hy]), List.take_append_drop, List.take_append_drop]
        rw [hsp]
        cases hsm : same ((l.drop acc.length).take l1.length) ((l'.drop acc.length).take l1.length) with
        | false => simp
        | true =>
          simp only [Bool.not_true, Bool.false_eq_true, if_false, Bool.true_and]
          rw [H w l l' hl hl', List.length_append, List.drop_drop, List.drop_drop]
      · rw [show fieldStep P d (some acc) f = none by simp only [fieldStep, hk]; rw [if_neg hc], foldl_none] at h; cases h

def Op.eqElems (D e n : Nat) (xs ys : Array Value) : List Nat → Sem Bool
  | [] => pure true
  | i :: r => do
    let a ← part e xs (i * n)
    let b ← part e ys (i * n)
    let q ← Go.Op.equalIn D e a b
    if (!q) = true then pure false else eqElems D e n xs ys r

theorem run_equalIn_array (w : World) (D : Nat) (t e len n : Nat) (xs ys : Array Value) (ht : P.underlying t = some (.array len e)) (hs : (szOf P e == some n) = true) :
    (Go.Op.equalIn (D + 1) t (.agg xs) (.agg ys)).run P w = (Op.eqElems D e n xs ys (List.range' 0 len)).run P w := by
  simp only [Go.Op.equalIn, Sem.run_bind, run_underlying ht, Result.andThen_ok, run_sizeOf hs]
  rw [Std.Legacy.Range.forIn_eq_forIn_range']
  simp only [Std.Legacy.Range.size, Nat.sub_zero, Nat.add_sub_cancel, Nat.div_one]
  generalize List.range' 0 len = l
  induction l generalizing w with
  | nil => simp [Op.eqElems]
  | cons i l ih =>
    simp only [List.forIn_cons, Op.eqElems, Sem.run_bind]
    generalize (part e xs (i * n)).run P w = r1
    cases r1 with
    | ok a w1 =>
      simp only [Result.andThen_ok]
      generalize (part e ys (i * n)).run P w1 = r2
      cases r2 with
      | ok b w2 =>
        simp only [Result.andThen_ok]
        generalize (Go.Op.equalIn D e a b).run P w2 = r3
        cases r3 with
        | ok q w3 =>
          cases q
          · simp
          · simp only [Result.andThen_ok, Bool.not_true, Bool.false_eq_true, if_false, Sem.run_pure]
            exact ih w3
        | halt x w3 => simp [Result.andThen]
      | halt x w2 => simp [Result.andThen]
    | halt x w1 => simp [Result.andThen]

theorem flatten_replicate_succ (n : Nat) (l : List Kd) : (List.replicate (n + 1) l).flatten = l ++ (List.replicate n l).flatten := by simp [List.replicate_succ]

theorem elems_eq {D e : Nat} {l1 : List Kd} (ih : EqOk P D e l1) (hs : (szOf P e == some l1.length) = true) (ha : agOk P e l1.length = true) :
    ∀ (len s : Nat) (w : World) (l l' : List Value), kdOkL (List.replicate len l1).flatten (l.drop (s * l1.length)) = true → kdOkL (List.replicate len l1).flatten (l'.drop (s * l1.length)) = true →
      (Op.eqElems D e l1.length l.toArray l'.toArray (List.range' s len)).run P w = .ok (same (l.drop (s * l1.length)) (l'.drop (s * l1.length))) w
  | 0, s, w, l, l', hl, hl' => by
    have h1 := kdOkL_length hl
    have h2 := kdOkL_length hl'
    simp only [List.replicate_zero, List.flatten_nil, List.length_nil] at h1 h2
    rw [List.eq_nil_of_length_eq_zero h1, List.eq_nil_of_length_eq_zero h2]
    simp [Op.eqElems, same]
  | len + 1, s, w, l, l', hl, hl' => by
    rw [flatten_replicate_succ] at hl hl'
    obtain ⟨hx, hl2⟩ := kdOkL_append hl
    obtain ⟨hy, hl2'⟩ := kdOkL_append hl'
    have hp := part_step ih hs ha w l l' (s * l1.length) hx hy
    rw [List.range'_succ]
    simp only [Op.eqElems]
    have hbind : (do
        let a ← part e l.toArray (s * l1.length)
        let b ← part e l'.toArray (s * l1.length)
        let q ← Go.Op.equalIn D e a b
        if (!q) = true then pure false else Op.eqElems D e l1.length l.toArray l'.toArray (List.range' (s + 1) len) : Sem Bool) =
        ((do let a ← part e l.toArray (s * l1.length); let b ← part e l'.toArray (s * l1.length); Go.Op.equalIn D e a b : Sem Bool) >>= fun q => if (!q) = true then pure false else Op.eqElems D e l1.length l.toArray l'.toArray (List.range' (s + 1) len)) := by
      simp only [bind_assoc]
    rw [hbind, Sem.run_bind, hp]
    simp only [Result.andThen_ok]
    have hsp : same (l.drop (s * l1.length)) (l'.drop (s * l1.length)) = (same ((l.drop (s * l1.length)).take l1.length) ((l'.drop (s * l1.length)).take l1.length) && same ((l.drop (s * l1.length)).drop l1.length) ((l'.drop (s * l1.length)).drop l1.length)) := by
      rw [← same_split (by rw [kdOkL_length hx, kdOkL_length hy]), List.take_append_drop, List.take_append_drop]
    rw [hsp]
    cases hsm : same ((l.drop (s * l1.length)).take l1.length) ((l'.drop (s * l1.length)).take l1.length) with
    | false => simp
    | true =>
      simp only [Bool.not_true, Bool.false_eq_true, if_false, Bool.true_and]
      rw [List.drop_drop] at hl2 hl2' ⊢
      rw [List.drop_drop]
      rw [show s * l1.length + l1.length = (s + 1) * l1.length by rw [Nat.succ_mul]] at hl2 hl2' ⊢
      exact elems_eq ih hs ha len (s + 1) w l l' hl2 hl2'

theorem eq_ok : ∀ (d D : Nat) (T : TypeId) (ks : List Kd), d ≤ D → kindsOf P d T = some ks → EqOk P D T ks
  | 0, D, T, ks, _, h => by simp [kindsOf] at h
  | d + 1, 0, T, ks, hD, h => by omega
  | d + 1, D + 1, T, ks, hD, h => by
    intro w l l' hl hl'
    simp only [kindsOf] at h
    split at h
    · rename_i hu
      injection h with h; subst h
      refine ⟨fun ha => by simp [aggOf, hu, isAggD] at ha, fun _ v v' e1 e2 => ?_⟩
      subst e1; subst e2
      simp only [kdOkL, Bool.and_true] at hl hl'
      cases v <;> simp [kdOk] at hl
      cases v' <;> simp [kdOk] at hl'
      rename_i a b
      rw [run_equalIn_bool w D T a b hu]
      congr 1
      rw [Bool.eq_iff_iff, same_true]; simp
    · rename_i k hu
      injection h with h; subst h
      refine ⟨fun ha => by simp [aggOf, hu, isAggD] at ha, fun _ v v' e1 e2 => ?_⟩
      subst e1; subst e2
      simp only [kdOkL, Bool.and_true] at hl hl'
      cases v <;> simp [kdOk] at hl
      cases v' <;> simp [kdOk] at hl'
      rename_i k1 a k2 b
      subst hl; subst hl'
      rw [run_equalIn_int w D T k k a b hu]
      congr 1
      rw [Bool.eq_iff_iff, same_true]; simp
    · rename_i fs hu
      split at h
      · cases h
      · rename_i hst
        refine ⟨fun _ => ?_, fun ha => by simp [aggOf, hu, isAggD] at ha⟩
        have hfo : P.fieldsOf T = fs := by simp [Program.fieldsOf, hu]
        rw [run_equalIn_struct w D T l.toArray l'.toArray (by rw [hfo]; exact hu) (by simpa using hst), hfo]
        obtain ⟨rest, e, H⟩ := fields_eq (P := P) (d := d) (D := D) (fun T ks hk => eq_ok d D T ks (by omega) hk) fs.toList [] ks h
        have := H w l l' hl hl'
        simpa using this
    · rename_i len e hu
      split at h
      · rename_i l1 hk
        by_cases hc : ((szOf P e == some l1.length) && agOk P e l1.length) = true
        · rw [if_pos hc] at h
          injection h with h; subst h
          simp only [Bool.and_eq_true] at hc
          obtain ⟨c1, c2⟩ := hc
          refine ⟨fun _ => ?_, fun ha => by simp [aggOf, hu, isAggD] at ha⟩
          rw [run_equalIn_array w D T e len l1.length l.toArray l'.toArray hu c1]
          have := elems_eq (eq_ok d D e l1 (by omega) hk) c1 c2 len 0 w l l' (by simpa using hl) (by simpa using hl')
          simpa using this
        · rw [if_neg hc] at h; cases h
      · cases h
    · cases h
end

/-! ### The kinds of segments -/

def segKd : Seg → List (Kd × Nat) → Option (List (Kd × Nat))
  | _, [] => none
  | .one (.int k _), (.i k', n) :: r => if k = k' then (match n with | 0 => none | 1 => some r | n + 2 => some ((.i k', n + 1) :: r)) else none
  | .one (.bool _), (.b, n) :: r => match n with | 0 => none | 1 => some r | n + 2 => some ((.b, n + 1) :: r)
  | .one _, _ => none
  | .ints k c _, (.i k', n) :: r => if k = k' then (bif Nat.beq c n then some r else bif Nat.blt c n then some ((.i k', n - c) :: r) else none) else none
  | .ints .., _ => none
  | .rows .., _ => none
def segsKd : List Seg → List (Kd × Nat) → Bool
  | [], [] => true
  | [], _ => false
  | s :: r, ks => match segKd s ks with
    | some ks' => segsKd r ks'
    | none => false

theorem kdOkL_append_mk : ∀ {ks ks' : List Kd} {l l' : List Value}, kdOkL ks l = true → kdOkL ks' l' = true → kdOkL (ks ++ ks') (l ++ l') = true
  | [], _, [], _, _, h => h
  | [], _, _ :: _, _, h, _ => by simp [kdOkL] at h
  | _ :: _, _, [], _, h, _ => by simp [kdOkL] at h
  | k :: r, _, v :: l, _, h, h' => by
    simp only [kdOkL, Bool.and_eq_true] at h
    simp only [List.cons_append, kdOkL, Bool.and_eq_true]
    exact ⟨h.1, kdOkL_append_mk h.2 h'⟩
theorem kdOkL_ints (k : IntKind) (xs : List Int) (n : Nat) : kdOkL (List.replicate n (.i k)) (intsCells k n xs) = true := by
  unfold intsCells
  have : ∀ (l : List Nat), kdOkL (List.replicate l.length (.i k)) (l.map fun i => Value.int k (xs.getD i 0)) = true := by
    intro l
    induction l with
    | nil => rfl
    | cons i l ih => simp only [List.length_cons, List.replicate_succ, List.map_cons, kdOkL, kdOk, decide_true, Bool.true_and]; exact ih
  have h := this (List.range n)
  simpa using h

theorem segKd_ok {s : Seg} {ks ks' : List (Kd × Nat)} (h : segKd s ks = some ks') : ∃ l, kdL ks = l ++ kdL ks' ∧ kdOkL l s.cells = true := by
  unfold segKd at h
  split at h
  · cases h
  · rename_i k _ k' n r
    split at h
    · rename_i e; subst e
      split at h
      · cases h
      · injection h with h; subst h; exact ⟨[.i k], by simp [kdL], by simp [Seg.cells, kdOkL, kdOk]⟩
      · injection h with h; subst h; exact ⟨[.i k], by simp [kdL, List.replicate_succ], by simp [Seg.cells, kdOkL, kdOk]⟩
    · cases h
  · split at h
    · cases h
    · injection h with h; subst h; exact ⟨[.b], by simp [kdL], by simp [Seg.cells, kdOkL, kdOk]⟩
    · injection h with h; subst h; exact ⟨[.b], by simp [kdL, List.replicate_succ], by simp [Seg.cells, kdOkL, kdOk]⟩
  · cases h
  · rename_i k c xs k' n r
    split at h
    · rename_i e; subst e
      by_cases h1 : Nat.beq c n = true
      · rw [h1, cond_true] at h; injection h with h; subst h
        rw [Nat.beq_eq] at h1; subst h1
        exact ⟨List.replicate c (.i k), by simp [kdL], kdOkL_ints k xs c⟩
      · rw [Bool.not_eq_true] at h1; rw [h1, cond_false] at h
        by_cases h2 : Nat.blt c n = true
        · rw [h2, cond_true] at h; injection h with h; subst h
          have h2' : c < n := by simpa [Nat.blt_eq] using h2
          refine ⟨List.replicate c (.i k), ?_, kdOkL_ints k xs c⟩
          simp only [kdL]
          rw [← List.append_assoc, List.replicate_append_replicate, show c + (n - c) = n by omega]
        · rw [Bool.not_eq_true] at h2; rw [h2, cond_false] at h; cases h
    · cases h
  · cases h
  · cases h
theorem segsKd_ok : ∀ {s : List Seg} {ks : List (Kd × Nat)}, segsKd s ks = true → kdOkL (kdL ks) (cells s) = true
  | [], [], _ => rfl
  | [], _ :: _, h => by simp [segsKd] at h
  | s :: r, ks, h => by
    simp only [segsKd] at h
    split at h
    · rename_i ks' hk
      obtain ⟨l, e, h1⟩ := segKd_ok hk
      rw [e, cells]
      exact kdOkL_append_mk h1 (segsKd_ok h)
    · cases h

section
variable {C : Cfg} {t : TS} {m : List Chunk}

theorem q_eqa {neg : Bool} {ks : List (Kd × Nat)} {x y : Operand} {s s' : List Seg} (hx : ev t x = some (agg s)) (hy : ev t y = some (agg s')) (hs : segsKd s ks = true) (hs' : segsKd s' ks = true) (c : Bool) (hc : c = true ↔ cells s = cells s') :
    Q1 C m t (.eqa neg ks x y) (.bool (bif neg then !c else c)) := by
  intro o ho a ha w hw
  refine quiet_val ?_
  simp only [okOp] at ho
  split at ho
  · rename_i op' T x' y' T' heq
    simp only [Bool.and_eq_true, decide_eq_true_eq, beq_iff_eq, Bool.not_eq_true'] at ho
    obtain ⟨⟨⟨⟨⟨h1, h2⟩, h3⟩, h4⟩, h5⟩, h6⟩ := ho
    have e := oeq_sound h2; have e' := oeq_sound h3; subst e; subst e'
    have hk := eq_ok (P := C.P) 12 10000 T (kdL ks) (by omega) h4
    have hr := (hk w (cells s) (cells s') (segsKd_ok hs) (segsKd_ok hs')).1 h5
    have hcs : same (cells s) (cells s') = c := by rw [Bool.eq_iff_iff, same_true, hc]
    rw [hcs] at hr
    simp only [execOp, heq, ha.ev hx, ha.ev hy, agg]
    refine run_v ?_
    rw [Sem.run_bind, run_eqGuard_agg w _ _ _ _ _ _ h6, Result.andThen_ok]
    cases neg
    · simp only [Bool.false_eq_true, if_false] at h1
      subst h1
      rw [run_eql_struct, hr]; rfl
    · simp only [if_true] at h1
      subst h1
      rw [run_neq_struct, hr]; rfl
  · cases ho
end
end Go.Sx
