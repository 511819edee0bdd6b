/- SignEach answers with true. -/
import Derived.Test.YtiflckckekjbnaaDoorG3
import Derived.Test.YtiflckckekjbnaaDoorSL2
namespace Go.Proofs.YtiflckckekjbnaaDoor
open Go Go.Sx Go.RowKit
set_option linter.all false
set_option maxRecDepth 100000

theorem printed_eq : fareboxlaw08_printed = some true := by
  rw [fareboxlaw08_printed, bnd_eq]
  show opt (sign_Public pubSeed) _ = _
  rw [opt_some public_printed, bnd_eq]
  rfl
abbrev Cz := fareboxlaw08_Case_z
def vOf (p : List fareboxlaw08_Case) (i : Nat) : Bool := (sign_Verify (p.getD i Cz).gKey (p.getD i Cz).gMessage (p.getD i Cz).gSig).getD false
def firstBad (p : List fareboxlaw08_Case) : Nat → Nat
  | 0 => p.length
  | i + 1 => if firstBad p i = p.length ∧ vOf p i = false then i else firstBad p i
structure Okc (p : List fareboxlaw08_Case) : Prop where
  key : ∀ i, i < p.length → Byt (p.getD i Cz).gKey
  sig : ∀ i, i < p.length → Byt (p.getD i Cz).gSig
  msg : ∀ i, i < p.length → (p.getD i Cz).gMessage.length < 18446744073709551615
  len : p.length * 64 ≤ 140737488355328
theorem Okc.ver {p : List fareboxlaw08_Case} (h : Okc p) {i : Nat} (hi : i < p.length) : sign_Verify (p.getD i Cz).gKey (p.getD i Cz).gMessage (p.getD i Cz).gSig = some (vOf p i) := by
  obtain ⟨b, e⟩ := verify_tot (h.key i hi) (h.msg i hi) (h.sig i hi)
  unfold vOf
  rw [e]; rfl
theorem getD_map {α β : Type} (f : α → β) (p : List α) (i : Nat) (z : α) (d : β) (hi : i < p.length) : (p.map f).getD i d = f (p.getD i z) := by
  simp [List.getD_eq_getElem?_getD, List.getElem?_eq_getElem hi]
theorem take_map {α β : Type} (f : α → β) (p : List α) (i : Nat) (z : α) (hi : i < p.length) : (p.take i).map f ++ [f (p.getD i z)] = (p.take (i + 1)).map f := by
  rw [List.take_add_one, List.map_append, List.getD_eq_getElem?_getD, List.getElem?_eq_getElem hi]
  rfl
theorem each_loop {p : List fareboxlaw08_Case} (h : Okc p) (k : Int → List (List Int) → List (List Int) → List (List Int) → Option Bool) (m : Nat) : ∀ (n i : Nat), i + m = p.length →
    fareboxlaw08_SignEach_l1 p k (n + 1 + m) ((p.take i).map (·.gKey)) ((p.take i).map (·.gMessage)) ((p.take i).map (·.gSig)) (firstBad p i : Int) (i : Int) = k (firstBad p p.length : Int) (p.map (·.gKey)) (p.map (·.gMessage)) (p.map (·.gSig)) := by
  induction m with
  | zero =>
    intro n i hi
    have hi' : i = p.length := by omega
    subst hi'
    rw [Nat.add_zero, fareboxlaw08_SignEach_l1, fareboxlaw08_SignEach_b1, br_ff (decide_eq_false (by omega)), List.take_length]
  | succ m ih =>
    intro n i hi
    have hlt : i < p.length := by omega
    have hlen := h.len
    have e1 : IntKind.wrap .i64 ((i : Int) + 1) = ((i + 1 : Nat) : Int) := by rw [wi64_small (by omega) (by omega)]; rfl
    have hin : inB (i : Int) p.length = true := inB_t (by omega) (by omega)
    rw [← Nat.add_assoc, fareboxlaw08_SignEach_l1, fareboxlaw08_SignEach_b1, br_tt (decide_eq_true (by omega)), jn_eq, chk_t hin, bnd_eq, Int.toNat_natCast]
    rw [chk_t (decide_eq_true (by simp [List.length_take]; omega)), bnd_eq, chk_t hin, bnd_eq, chk_t (decide_eq_true (by simp [List.length_take]; omega)), bnd_eq, chk_t hin, bnd_eq, chk_t (decide_eq_true (by simp [List.length_take]; omega)), bnd_eq]
    have hv := h.ver hlt
    rw [hv, hin, chk_t (by simp [imp])]
    have t1 := take_map (fun c : fareboxlaw08_Case => c.gKey) p i Cz hlt
    have t2 := take_map (fun c : fareboxlaw08_Case => c.gMessage) p i Cz hlt
    have t3 := take_map (fun c : fareboxlaw08_Case => c.gSig) p i Cz hlt
    by_cases hb : firstBad p i = p.length ∧ vOf p i = false
    · rw [br_tt (by simp [hb.1, hb.2])]
      dsimp only
      rw [bnd_eq, e1]
      refine Eq.trans ?_ (ih n (i + 1) (by omega))
      rw [show firstBad p (i + 1) = i from if_pos hb, ← t1, ← t2, ← t3]
    · rw [br_ff (by
        rw [← Bool.not_eq_true]
        intro hc
        apply hb
        have hc' : (firstBad p i : Int) = (p.length : Int) ∧ vOf p i = false := by simpa using hc
        exact ⟨by omega, hc'.2⟩)]
      dsimp only
      rw [bnd_eq, e1]
      refine Eq.trans ?_ (ih n (i + 1) (by omega))
      rw [show firstBad p (i + 1) = firstBad p i from if_neg hb, ← t1, ← t2, ← t3]
theorem fb_stay {p : List fareboxlaw08_Case} {i : Nat} (h : firstBad p i ≠ p.length) (m : Nat) : firstBad p (i + m) = firstBad p i := by
  induction m with
  | zero => rfl
  | succ m ih =>
    rw [← Nat.add_assoc]
    show (if firstBad p (i + m) = p.length ∧ _ then _ else _) = _
    rw [if_neg (by rw [ih]; exact fun hh => h hh.1), ih]
theorem all_loop {p : List fareboxlaw08_Case} (h : Okc p) (m : Nat) : ∀ (n i : Nat), i + m = p.length → firstBad p i = p.length →
    sign_VerifyAll_l1 (p.map (·.gKey)) (p.map (·.gMessage)) (p.map (·.gSig)) (fun _ => some (((p.map (·.gKey)).length : Int), true)) (n + 1 + m) (i : Int) = some ((firstBad p p.length : Int), decide (firstBad p p.length = p.length)) := by
  induction m with
  | zero =>
    intro n i hi hf
    have hi' : i = p.length := by omega
    subst hi'
    rw [Nat.add_zero, sign_VerifyAll_l1, sign_VerifyAll_b1, br_ff (decide_eq_false (by simp)), hf]
    simp
  | succ m ih =>
    intro n i hi hf
    have hlt : i < p.length := by omega
    have hlen := h.len
    have e1 : IntKind.wrap .i64 ((i : Int) + 1) = ((i + 1 : Nat) : Int) := by rw [wi64_small (by omega) (by omega)]; rfl
    rw [← Nat.add_assoc, sign_VerifyAll_l1, sign_VerifyAll_b1, br_tt (decide_eq_true (by rw [List.length_map]; omega)), chk_t (inB_t (by omega) (by rw [List.length_map]; omega)), bnd_eq, Int.toNat_natCast, chk_t (inB_t (by omega) (by rw [List.length_map]; omega)), chk_t (inB_t (by omega) (by rw [List.length_map]; omega)), bnd_eq]
    rw [getD_map (fun c : fareboxlaw08_Case => c.gKey) p i Cz _ hlt, getD_map (fun c : fareboxlaw08_Case => c.gMessage) p i Cz _ hlt, getD_map (fun c : fareboxlaw08_Case => c.gSig) p i Cz _ hlt, opt_some (h.ver hlt)]
    cases hv : vOf p i
    · rw [br_tt (c := (!false)) rfl]
      have f1 : firstBad p (i + 1) = i := if_pos ⟨hf, hv⟩
      have f2 := fb_stay (p := p) (i := i + 1) (by rw [f1]; omega) m
      rw [show i + 1 + m = p.length by omega, f1] at f2
      rw [f2, decide_eq_false (by omega)]
    · rw [br_ff (c := (!true)) rfl, bnd_eq, e1]
      have f1 : firstBad p (i + 1) = p.length := by
        show (if firstBad p i = p.length ∧ _ then _ else _) = _
        rw [if_neg (by rw [hv]; exact fun hh => Bool.noConfusion hh.2), hf]
      exact ih n (i + 1) (by omega) f1
theorem all_eq {p : List fareboxlaw08_Case} (h : Okc p) : sign_VerifyAll (p.map (·.gKey)) (p.map (·.gMessage)) (p.map (·.gSig)) = some ((firstBad p p.length : Int), decide (firstBad p p.length = p.length)) := by
  have hlen := h.len
  obtain ⟨n, hn⟩ : ∃ n', big = n' + 1 + p.length := ⟨18446744073709551615 - p.length, by have : big = 18446744073709551616 := big_eq; omega⟩
  rw [sign_VerifyAll, br_ff (by simp), jn_eq, hn]
  exact all_loop h p.length n 0 (by omega) rfl
theorem signEach_eq {p : List fareboxlaw08_Case} (h : Okc p) : fareboxlaw08_SignEach p = some true := by
  have hlen := h.len
  obtain ⟨n, hn⟩ : ∃ n', big = n' + 1 + p.length := ⟨18446744073709551615 - p.length, by have : big = 18446744073709551616 := big_eq; omega⟩
  rw [fareboxlaw08_SignEach, jn_eq, hn]
  refine (each_loop h _ p.length n 0 (by omega)).trans ?_
  rw [opt_some (all_eq h), printed_eq, chk_t (by simp [imp])]
  by_cases hh : firstBad p p.length = p.length
  · simp [hh]
  · have : ¬ ((firstBad p p.length : Int) = (p.length : Int)) := by omega
    simp [hh, this]
end Go.Proofs.YtiflckckekjbnaaDoor
