/- The hash answers. -/
import Derived.Test.YtiflckckekjbnaaDoorG2
namespace Go.Proofs.YtiflckckekjbnaaDoor
open Go Go.Sx Go.RowKit
set_option linter.all false
set_option maxRecDepth 100000

theorem some_of {α : Type} {o : Option α} (h : o.isSome = true) : ∃ r, o = some r := by
  cases o with
  | none => cases h
  | some r => exact ⟨r, rfl⟩
theorem block_tot (s h : List Int) : (sha512_Block s h).isSome = true := by kernel_rfl
theorem storeBE_tot (x : Int) : ∃ r, bits_StoreBE_uint64 x = some r ∧ r.length = 8 := by
  have : ((bits_StoreBE_uint64 x).map (·.length)) = some 8 := by kernel_rfl
  cases h : bits_StoreBE_uint64 x with
  | none => rw [h] at this; cases this
  | some r => exact ⟨r, rfl, by rw [h] at this; simpa using this⟩
theorem write_loop (z : Int) (m : Nat) : ∀ (l a h : List Int) (c : Int), l.length ≤ m → 0 ≤ c → c < 128 → ∀ n, ∃ r, sha512_Digest_Write_l1 z (n + 1 + m) l a h c = some r ∧ r.glength = z ∧ 0 ≤ r.ghave ∧ r.ghave < 128 := by
  induction m with
  | zero =>
    intro l a h c hl h0 h1 n
    refine ⟨⟨a, h, c, z⟩, ?_, rfl, h0, h1⟩
    rw [Nat.add_zero, sha512_Digest_Write_l1, sha512_Digest_Write_b1, br_ff (decide_eq_false (by omega))]
  | succ m ih =>
    intro l a h c hl h0 h1 n
    by_cases he : l.length = 0
    · refine ⟨⟨a, h, c, z⟩, ?_, rfl, h0, h1⟩
      rw [← Nat.add_assoc, sha512_Digest_Write_l1, sha512_Digest_Write_b1, br_ff (decide_eq_false (by omega))]
    · have hmin : 0 < Nat.min l.length (128 - c.toNat) ∧ Nat.min l.length (128 - c.toNat) ≤ l.length ∧ Nat.min l.length (128 - c.toNat) ≤ 128 - c.toNat := by
        refine ⟨?_, Nat.min_le_left _ _, Nat.min_le_right _ _⟩
        show 0 < min l.length (128 - c.toNat)
        omega
      have ew : IntKind.wrap .i64 (c + ((Nat.min l.length (128 - c.toNat) : Nat) : Int)) = c + ((Nat.min l.length (128 - c.toNat) : Nat) : Int) := wi64_small (by omega) (by omega)
      have hlen : (((l.drop (((Nat.min l.length (128 - c.toNat) : Nat) : Int)).toNat).take (((l.length : Int)).toNat - (((Nat.min l.length (128 - c.toNat) : Nat) : Int)).toNat))).length ≤ m := by
        simp only [List.length_take, List.length_drop, Int.toNat_natCast]; omega
      rw [← Nat.add_assoc, sha512_Digest_Write_l1, sha512_Digest_Write_b1, br_tt (decide_eq_true (by omega)), chk_t (by unfold cutB; simp; omega), bnd_eq, chk_t (by unfold cutB; simp only [Bool.and_eq_true, decide_eq_true_eq]; omega), bnd_eq, ew]
      by_cases h128 : c + ((Nat.min l.length (128 - c.toNat) : Nat) : Int) = 128
      · obtain ⟨b, eb⟩ := some_of (block_tot a (wr h c.toNat (l.take (128 - c.toNat))))
        rw [br_tt (by simpa using h128), opt_some eb]
        exact ih _ _ _ 0 hlen (by omega) (by omega) n
      · rw [br_ff (by simpa using h128)]
        exact ih _ _ _ _ hlen (by omega) (by omega) n
theorem write_tot (d : sha512_Digest) (l : List Int) (hl : l.length < 18446744073709551615) (h0 : 0 ≤ d.ghave) (h1 : d.ghave < 128) : ∃ r, sha512_Digest_Write d l = some r ∧ 0 ≤ r.ghave ∧ r.ghave < 128 ∧ r.glength = IntKind.wrap .u64 (d.glength + IntKind.wrap .u64 (l.length : Int)) := by
  obtain ⟨n, hn⟩ : ∃ n', big = n' + 1 + l.length := ⟨18446744073709551615 - l.length, by have : big = 18446744073709551616 := big_eq; omega⟩
  rw [sha512_Digest_Write, bnd_eq, bnd_eq, hn]
  obtain ⟨r, e, hz, hh⟩ := write_loop (IntKind.wrap .u64 (d.glength + IntKind.wrap .u64 (l.length : Int))) l.length l d.gstate d.gheld d.ghave (Nat.le_refl _) h0 h1 n
  exact ⟨r, e, hh.1, hh.2, hz⟩
theorem pad_tot (x : Int) : ∃ r, sha512_Pad x = some r ∧ r.length ≤ 1000 := by
  have hz3 := u64_rng (x + 17)
  obtain ⟨y1, e1, l1⟩ := storeBE_tot (shrV .u64 x 61)
  obtain ⟨y2, e2, l2⟩ := storeBE_tot (shlV .u64 x 3)
  generalize hz : IntKind.wrap .u64 (x + 17) = z3 at hz3
  have et : Int.tmod z3 128 = z3 % 128 := Int.tmod_eq_emod_of_nonneg hz3.1
  have ew : IntKind.wrap .i64 (z3 % 128) = z3 % 128 := wi64_small (by omega) (by omega)
  have ew2 : IntKind.wrap .i64 (128 - z3 % 128) = 128 - z3 % 128 := wi64_small (by omega) (by omega)
  have et2 : Int.tmod (128 - z3 % 128) 128 = (128 - z3 % 128) % 128 := Int.tmod_eq_emod_of_nonneg (by omega)
  simp only [sha512_Pad, bnd_eq, hz, et, ew, ew2, et2]
  have hr : 0 ≤ (128 - z3 % 128) % 128 ∧ (128 - z3 % 128) % 128 < 128 := by omega
  generalize (128 - z3 % 128) % 128 = w at hr
  have ew3 : IntKind.wrap .i64 (17 + w) = 17 + w := wi64_small (by omega) (by omega)
  simp only [ew3]
  refine ⟨(((List.replicate 0 0 ++ [128]) ++ List.replicate w.toNat 0) ++ y1) ++ y2, ?_, ?_⟩
  · rw [chk_t (by unfold mkB; simp only [Bool.and_eq_true, decide_eq_true_eq]; omega), chk_t (by simp), chk_t (by simp; omega), chk_t (by simp; omega), opt_some e1, chk_t (by simp [l1]; omega), opt_some e2, chk_t (by simp [l1, l2]; omega)]
  · simp [l1, l2]; omega
theorem sum_run (y d : sha512_Digest) : (sha512_Digest_Sum_l1 y (fun a74 => some (a74, d)) big 0 (List.replicate 64 0)).isSome = true := by kernel_rfl
theorem sum_tot (d : sha512_Digest) (h0 : 0 ≤ d.ghave) (h1 : d.ghave < 128) : ∃ r, sha512_Digest_Sum d = some r := by
  obtain ⟨p, e, hl⟩ := pad_tot d.glength
  obtain ⟨y, e2, _⟩ := write_tot d p (by omega) h0 h1
  obtain ⟨r, e3⟩ := some_of (sum_run y d)
  refine ⟨r, ?_⟩
  rw [sha512_Digest_Sum, sha512_Digest_Clone, opt_some rfl]
  show opt (sha512_Pad d.glength) _ = _
  rw [opt_some e]
  show opt (sha512_Digest_Write d p) _ = _
  rw [opt_some e2, jn_eq, e3]
theorem hash_loop {p : List (List Int)} (hp : ∀ i, (p.getD i []).length < 18446744073709551615) (hb : p.length < 1000000) {k : List Int → List Int → Int → Int → Option (List Int)} (hk : ∀ a b c d, 0 ≤ c → c < 128 → ∃ r, k a b c d = some r ∧ Byt r ∧ r.length = 32) (m : Nat) : ∀ (n i : Nat) (a b : List Int) (c d : Int), i + m = p.length → 0 ≤ c → c < 128 →
    ∃ r, sign_hash_l1 p k (n + 1 + m) (i : Int) a b c d = some r ∧ Byt r ∧ r.length = 32 := by
  induction m with
  | zero =>
    intro n i a b c d hi h0 h1
    rw [Nat.add_zero, sign_hash_l1, sign_hash_b1, br_ff (decide_eq_false (by omega))]
    exact hk a b c d h0 h1
  | succ m ih =>
    intro n i a b c d hi h0 h1
    have e1 : IntKind.wrap .i64 ((i : Int) + 1) = ((i + 1 : Nat) : Int) := by rw [wi64_small (by omega) (by omega)]; rfl
    obtain ⟨y, e, g0, g1, _⟩ := write_tot ⟨a, b, c, d⟩ (p.getD i []) (hp i) h0 h1
    rw [← Nat.add_assoc, sign_hash_l1, sign_hash_b1, br_tt (decide_eq_true (by omega)), chk_t (inB_t (by omega) (by omega)), Int.toNat_natCast, opt_some e, bnd_eq, e1]
    exact ih n (i + 1) _ _ _ _ (by omega) g0 g1
theorem hash_tot {p : List (List Int)} (hp : ∀ i, (p.getD i []).length < 18446744073709551615) (hb : p.length < 1000000) : ∃ r, sign_hash p = some r ∧ Byt r ∧ r.length = 32 := by
  obtain ⟨n, hn⟩ : ∃ n', big = n' + 1 + p.length := ⟨18446744073709551615 - p.length, by have : big = 18446744073709551616 := big_eq; omega⟩
  rw [sign_hash, sha512_New, opt_some rfl, jn_eq, hn]
  refine hash_loop hp hb ?_ p.length n 0 _ _ _ _ (by omega) (by decide) (by decide)
  intro a b c d h0 h1
  obtain ⟨r, e⟩ := sum_tot ⟨a, b, c, d⟩ h0 h1
  obtain ⟨s, e2, hs⟩ := Reduce_tot r.1
  refine ⟨s, ?_, hs⟩
  rw [opt_some e, opt_some e2]
theorem tk_byt {p : List Int} (h : Byt p) (o n : Nat) : Byt (tk p o n) := by
  intro i
  rw [tk_getD]
  split
  · exact h _
  · decide
theorem verify_tot {k m s : List Int} (hk : Byt k) (hm : m.length < 18446744073709551615) (hs : Byt s) : ∃ b, sign_Verify k m s = some b := by
  rw [sign_Verify, opt_some (decode_eq hk)]
  obtain ⟨c, hc⟩ := canonical_tot (tk (tk s 32 (64 - 32)) 0 32)
  rw [chk_t (by rw [tk_length]; decide), bnd_eq, hc, chk_t (by simp [imp])]
  by_cases hd : dok k = true
  · rw [if_pos hd]
    cases c
    · exact ⟨false, br_tt rfl⟩
    · obtain ⟨h, eh, hb, hl⟩ := hash_tot (p := [(tk s 0 32), (tk k 0 32), m]) (by
        intro i
        match i with
        | 0 => show (tk s 0 32).length < _; rw [tk_length]; decide
        | 1 => show (tk k 0 32).length < _; rw [tk_length]; decide
        | 2 => exact hm
        | i + 3 => show ([] : List Int).length < _; decide) (by simp)
      rw [br_ff (c := (!(pt (dpt k), true).snd || !(some true).getD false)) rfl, jn_eq, opt_some eh]
      show ∃ b, opt (curve_Neg (pt (dpt k))) _ = some b
      rw [opt_some (cneg_eq _), opt_some (combine_eq hb (tk_byt (tk_byt hs _ _) _ _) _), opt_some (encode_eq _), chk_t (by rw [tk_length]; decide), bnd_eq]
      exact ⟨_, rfl⟩
  · rw [if_neg hd]
    exact ⟨false, br_tt rfl⟩
end Go.Proofs.YtiflckckekjbnaaDoor
