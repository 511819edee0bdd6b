/- Contracts of the document s own functions. -/
import Derived.Test.YtdelljcdaepgiaaDoorI3
namespace Go.Proofs.YtdelljcdaepgiaaDoor
open Go Go.Sx Go.RowKit
set_option linter.all false

def wrongV (a n : Int) : Bool := if (a == 0) = true then decide (n < 0) else decide (n > 0)
def fitsV (n : Int) : Bool := n != -9223372036854775808
def isAccR (a : Int) : Bool := decide (a ≥ 0) && decide (a ≤ 2)
theorem ris_spec (a : Int) (w : World) : Calls Tryd.prog 27 [.int .i64 a].toArray w (ret1 w (.bool (isAccR a))) := by
  refine calls_val mo ok27 rfl ?_
  refine wc_seq ?_
  refine wc_ops ?_
  refine wj_q _ (q_mv rfl) ?_
  refine wj_nil ?_
  refine wc_seq ?_
  refine wc_ops ?_
  refine wj_q _ (q_mv rfl) ?_
  refine wj_q _ (q_bin rfl rfl rfl) ?_
  refine wj_q _ (q_mv rfl) ?_
  refine wj_and rfl rfl rfl (fun hg1 => qj_g rfl _ (q_mv rfl) (qj_g rfl _ (q_bin rfl rfl rfl) (qj_nil))) (fun hg1 => rfl) rfl ?_
  refine wj_q _ (q_mv rfl) ?_
  refine wj_nil ?_
  refine wc_ret ?_
  refine ⟨_, (.cons (.tmp rfl) .nil), ?_⟩
  rfl
theorem rfits_spec (a : Int) (w : World) : Calls Tryd.prog 30 [.int .i64 a].toArray w (ret1 w (.bool (fitsV a))) := by
  refine calls_val mo ok30 rfl ?_
  refine wc_seq ?_
  refine wc_ops ?_
  refine wj_q _ (q_mv rfl) ?_
  refine wj_nil ?_
  refine wc_seq ?_
  refine wc_ops ?_
  refine wj_q _ (q_mv rfl) ?_
  refine wj_q _ (q_bin rfl rfl rfl) ?_
  refine wj_q _ (q_mv rfl) ?_
  refine wj_nil ?_
  refine wc_ret ?_
  refine ⟨_, (.cons (.tmp rfl) .nil), ?_⟩
  rfl
theorem rwrong_spec (a n : Int) (w : World) : Calls Tryd.prog 31 [.int .i64 a, .int .i64 n].toArray w (ret1 w (.bool (wrongV a n))) := by
  refine calls_val mo ok31 rfl ?_
  refine wc_seq ?_
  refine wc_ops ?_
  refine wj_q _ (q_mv rfl) ?_
  refine wj_nil ?_
  refine wc_seq ?_
  refine wc_seq ?_
  refine wc_ops ?_
  refine wj_q _ (q_mv rfl) ?_
  refine wj_q _ (q_bin rfl rfl rfl) ?_
  refine wj_nil ?_
  refine wc_if rfl (fun h1 => ?_) (fun h1 => ?_)
  · refine wc_seq ?_
    refine wc_ops ?_
    refine wj_q _ (q_mv rfl) ?_
    refine wj_q _ (q_bin rfl rfl rfl) ?_
    refine wj_q _ (q_mv rfl) ?_
    refine wj_nil ?_
    refine wc_ret ?_
    refine ⟨_, (.cons (.tmp rfl) .nil), ?_⟩
    unfold wrongV
    rw [ite_t (show (a == 0) = true from h1)]
    rfl
  · refine wc_skip ?_
    refine wc_seq ?_
    refine wc_ops ?_
    refine wj_q _ (q_mv rfl) ?_
    refine wj_q _ (q_bin rfl rfl rfl) ?_
    refine wj_q _ (q_mv rfl) ?_
    refine wj_nil ?_
    refine wc_ret ?_
    refine ⟨_, (.cons (.tmp rfl) .nil), ?_⟩
    unfold wrongV
    rw [ite_f (show (a == 0) = false from h1)]
    rfl

def plusBad (x m : Int) : Bool := decide (x > 0) && decide (m > w64 (9223372036854775807 - x))
def plusV (x m : Int) : Int × Bool := if plusBad x m = true then (0, false) else (w64 (x + m), true)
def minusBad (x m : Int) : Bool := decide (x < 0) && decide (m > w64 (x - -9223372036854775808))
def minusV (x m : Int) : Int × Bool := if minusBad x m = true then (0, false) else (w64 (x - m), true)
def mayV (r p : Int) : Bool := decide (r ≥ 1) && decide (r ≤ 4096) && decide (p ≥ 0) && decide (p ≤ 1000000000)
theorem rplus_spec (x m : Int) (w : World) : Calls Tryd.prog 28 [.int .i64 x, .int .i64 m].toArray w (ret1 w (.tuple #[.int .i64 (plusV x m).1, .bool (plusV x m).2])) := by
  refine calls_val mo ok28 rfl ?_
  refine wc_seq ?_
  refine wc_ops ?_
  refine wj_q _ (q_mv rfl) ?_
  refine wj_q _ (q_mv rfl) ?_
  refine wj_nil ?_
  refine wc_seq ?_
  refine wc_seq ?_
  refine wc_ops ?_
  refine wj_q _ (q_mv rfl) ?_
  refine wj_q _ (q_bin rfl rfl rfl) ?_
  refine wj_q _ (q_mv rfl) ?_
  refine wj_and rfl rfl rfl (fun hg1 => qj_g rfl _ (q_mv rfl) (qj_g rfl _ (q_mv rfl) (qj_g rfl _ (q_bin rfl rfl rfl) (qj_g rfl _ (q_bin rfl rfl rfl) (qj_nil))))) (fun hg1 => rfl) rfl ?_
  refine wj_nil ?_
  refine wc_if rfl (fun h1 => ?_) (fun h1 => ?_)
  · refine wc_seq ?_
    refine wc_ops ?_
    refine wj_q _ (q_mv rfl) ?_
    refine wj_q _ (q_mv rfl) ?_
    refine wj_nil ?_
    refine wc_ret ?_
    refine ⟨_, (.cons (.tmp rfl) (.cons (.tmp rfl) .nil)), ?_⟩
    unfold plusV
    rw [ite_t (show (plusBad x m) = true from h1)]
    rfl
  · refine wc_skip ?_
    refine wc_seq ?_
    refine wc_ops ?_
    refine wj_q _ (q_mv rfl) ?_
    refine wj_q _ (q_mv rfl) ?_
    refine wj_q _ (q_bin rfl rfl rfl) ?_
    refine wj_q _ (q_mv rfl) ?_
    refine wj_q _ (q_mv rfl) ?_
    refine wj_nil ?_
    refine wc_ret ?_
    refine ⟨_, (.cons (.tmp rfl) (.cons (.tmp rfl) .nil)), ?_⟩
    unfold plusV
    rw [ite_f (show (plusBad x m) = false from h1)]
    rfl
theorem rminus_spec (x m : Int) (w : World) : Calls Tryd.prog 29 [.int .i64 x, .int .i64 m].toArray w (ret1 w (.tuple #[.int .i64 (minusV x m).1, .bool (minusV x m).2])) := by
  refine calls_val mo ok29 rfl ?_
  refine wc_seq ?_
  refine wc_ops ?_
  refine wj_q _ (q_mv rfl) ?_
  refine wj_q _ (q_mv rfl) ?_
  refine wj_nil ?_
  refine wc_seq ?_
  refine wc_seq ?_
  refine wc_ops ?_
  refine wj_q _ (q_mv rfl) ?_
  refine wj_q _ (q_bin rfl rfl rfl) ?_
  refine wj_q _ (q_mv rfl) ?_
  refine wj_and rfl rfl rfl (fun hg1 => qj_g rfl _ (q_mv rfl) (qj_g rfl _ (q_mv rfl) (qj_g rfl _ (q_bin rfl rfl rfl) (qj_g rfl _ (q_bin rfl rfl rfl) (qj_nil))))) (fun hg1 => rfl) rfl ?_
  refine wj_nil ?_
  refine wc_if rfl (fun h1 => ?_) (fun h1 => ?_)
  · refine wc_seq ?_
    refine wc_ops ?_
    refine wj_q _ (q_mv rfl) ?_
    refine wj_q _ (q_mv rfl) ?_
    refine wj_nil ?_
    refine wc_ret ?_
    refine ⟨_, (.cons (.tmp rfl) (.cons (.tmp rfl) .nil)), ?_⟩
    unfold minusV
    rw [ite_t (show (minusBad x m) = true from h1)]
    rfl
  · refine wc_skip ?_
    refine wc_seq ?_
    refine wc_ops ?_
    refine wj_q _ (q_mv rfl) ?_
    refine wj_q _ (q_mv rfl) ?_
    refine wj_q _ (q_bin rfl rfl rfl) ?_
    refine wj_q _ (q_mv rfl) ?_
    refine wj_q _ (q_mv rfl) ?_
    refine wj_nil ?_
    refine wc_ret ?_
    refine ⟨_, (.cons (.tmp rfl) (.cons (.tmp rfl) .nil)), ?_⟩
    unfold minusV
    rw [ite_f (show (minusBad x m) = false from h1)]
    rfl
theorem rmay_spec (r p : Int) (w : World) : Calls Tryd.prog 32 [.int .i64 r, .int .i64 p].toArray w (ret1 w (.bool (mayV r p))) := by
  refine calls_val mo ok32 rfl ?_
  refine wc_seq ?_
  refine wc_ops ?_
  refine wj_q _ (q_mv rfl) ?_
  refine wj_nil ?_
  refine wc_seq ?_
  refine wc_ops ?_
  refine wj_q _ (q_mv rfl) ?_
  refine wj_q _ (q_bin rfl rfl rfl) ?_
  refine wj_q _ (q_mv rfl) ?_
  refine wj_and rfl rfl rfl (fun hg1 => qj_g rfl _ (q_mv rfl) (qj_g rfl _ (q_bin rfl rfl rfl) (qj_nil))) (fun hg1 => rfl) rfl ?_
  refine wj_q _ (q_mv rfl) ?_
  refine wj_and rfl rfl rfl (fun hg1 => qj_g rfl _ (q_mv rfl) (qj_g rfl _ (q_bin rfl rfl rfl) (qj_nil))) (fun hg1 => rfl) rfl ?_
  refine wj_q _ (q_mv rfl) ?_
  refine wj_and rfl rfl rfl (fun hg1 => qj_g rfl _ (q_mv rfl) (qj_g rfl _ (q_bin rfl rfl rfl) (qj_nil))) (fun hg1 => rfl) rfl ?_
  refine wj_q _ (q_mv rfl) ?_
  refine wj_nil ?_
  refine wc_ret ?_
  refine ⟨_, (.cons (.tmp rfl) .nil), ?_⟩
  rfl

def rpBad (d c m : Int) : Bool := !isAccR d || !isAccR c || (d == c) || decide (m < 0)
def rpD (b : List Int) (d m : Int) : Int × Bool := plusV (b.getD d.toNat 0) m
def rpC (b : List Int) (c m : Int) : Int × Bool := minusV (b.getD c.toNat 0) m
def rpMiss (b : List Int) (d c m : Int) : Bool := !(rpD b d m).2 || !(rpC b c m).2 || !fitsV (rpD b d m).1 || !fitsV (rpC b c m).1
def rpWrong (b : List Int) (d c m : Int) : Bool := wrongV d (rpD b d m).1 || wrongV c (rpC b c m).1
def rpostV (b : List Int) (d c m : Int) : List Int × Int :=
  if rpBad d c m = true then (b, 2) else if rpMiss b d c m = true then (b, 3) else if rpWrong b d c m = true then (b, 220) else (setD (setD b d.toNat (rpD b d m).1) c.toNat (rpC b c m).1, 0)
theorem rpArgs {d c m : Int} (h : rpBad d c m = false) : (0 ≤ d ∧ d < 3) ∧ (0 ≤ c ∧ c < 3) ∧ d ≠ c ∧ 0 ≤ m := by
  simp [rpBad, isAccR] at h
  omega
theorem rpost_spec (b : List Int) (d c m : Int) (w : World) : Calls Tryd.prog 20 [agg (bookS b), .int .i64 d, .int .i64 c, .int .i64 m].toArray w (ret1 w (.tuple #[agg (bookS (rpostV b d c m).1), .int .i64 (rpostV b d c m).2])) := by
  refine calls_val mo ok20 rfl ?_
  refine wc_seq ?_
  refine wc_ops ?_
  refine wj_e (ef_bx rfl fun b4 hb4 => ?_)
  refine wj_e (ef_al fun b8 hb8 => ?_)
  refine wj_q _ (q_mv rfl) ?_
  refine wj_nil ?_
  refine wc_seq ?_
  refine wc_seq ?_
  refine wc_ops ?_
  refine wj_q _ (q_mv rfl) ?_
  refine wj_q _ (q_call rfl (fun w hw => ris_spec _ w)) ?_
  refine wj_q _ (q_un rfl rfl) ?_
  refine wj_q _ (q_mv rfl) ?_
  refine wj_or rfl rfl rfl (fun hg1 => qj_g rfl _ (q_mv rfl) (qj_g rfl _ (q_call rfl (fun w hw => ris_spec _ w)) (qj_g rfl _ (q_un rfl rfl) (qj_nil)))) (fun hg1 => rfl) rfl ?_
  refine wj_q _ (q_mv rfl) ?_
  refine wj_or rfl rfl rfl (fun hg1 => qj_g rfl _ (q_mv rfl) (qj_g rfl _ (q_mv rfl) (qj_g rfl _ (q_bin rfl rfl rfl) (qj_nil)))) (fun hg1 => rfl) rfl ?_
  refine wj_q _ (q_mv rfl) ?_
  refine wj_or rfl rfl rfl (fun hg1 => qj_g rfl _ (q_mv rfl) (qj_g rfl _ (q_bin rfl rfl rfl) (qj_nil))) (fun hg1 => rfl) rfl ?_
  refine wj_nil ?_
  refine wc_if rfl (fun h1 => ?_) (fun h1 => ?_)
  · refine wc_seq ?_
    refine wc_ops ?_
    refine wj_q _ (q_ld rfl (.there .here) rfl) ?_
    refine wj_e (ef_st rfl rfl rfl rfl rfl .here ?_)
    refine wj_q _ (q_mv rfl) ?_
    refine wj_nil ?_
    refine wc_ret ?_
    refine ⟨_, (.cons (.agg rfl .here rfl) (.cons (.tmp rfl) .nil)), ?_⟩
    unfold rpostV
    rw [ite_t (show (rpBad d c m) = true from h1)]
    rfl
  · obtain ⟨hd, hc, hne, hm⟩ := rpArgs h1
    refine wc_skip ?_
    refine wc_seq ?_
    refine wc_ops ?_
    refine wj_q _ (q_mv rfl) ?_
    refine wj_q _ (q_fa rfl) ?_
    refine wj_q _ (q_ia rfl rfl (by first | decide | omega)) ?_
    refine wj_q _ (q_ldi rfl (.there .here) rfl (by first | decide | omega)) ?_
    refine wj_q _ (q_mv rfl) ?_
    refine wj_q _ (q_call rfl (fun w hw => rplus_spec _ _ w)) ?_
    refine wj_q _ (q_mv rfl) ?_
    refine wj_q _ (q_ext rfl rfl) ?_
    refine wj_q _ (q_ext rfl rfl) ?_
    refine wj_q _ (q_mv rfl) ?_
    refine wj_q _ (q_mv rfl) ?_
    refine wj_nil ?_
    refine wc_seq ?_
    refine wc_ops ?_
    refine wj_q _ (q_mv rfl) ?_
    refine wj_q _ (q_fa rfl) ?_
    refine wj_q _ (q_ia rfl rfl (by first | decide | omega)) ?_
    refine wj_q _ (q_ldi rfl (.there .here) rfl (by first | decide | omega)) ?_
    refine wj_q _ (q_mv rfl) ?_
    refine wj_q _ (q_call rfl (fun w hw => rminus_spec _ _ w)) ?_
    refine wj_q _ (q_mv rfl) ?_
    refine wj_q _ (q_ext rfl rfl) ?_
    refine wj_q _ (q_ext rfl rfl) ?_
    refine wj_q _ (q_mv rfl) ?_
    refine wj_q _ (q_mv rfl) ?_
    refine wj_nil ?_
    refine wc_seq ?_
    refine wc_seq ?_
    refine wc_ops ?_
    refine wj_q _ (q_mv rfl) ?_
    refine wj_q _ (q_un rfl rfl) ?_
    refine wj_q _ (q_mv rfl) ?_
    refine wj_or rfl rfl rfl (fun hg1 => qj_g rfl _ (q_mv rfl) (qj_g rfl _ (q_un rfl rfl) (qj_nil))) (fun hg1 => rfl) rfl ?_
    refine wj_q _ (q_mv rfl) ?_
    refine wj_or rfl rfl rfl (fun hg1 => qj_g rfl _ (q_mv rfl) (qj_g rfl _ (q_call rfl (fun w hw => rfits_spec _ w)) (qj_g rfl _ (q_un rfl rfl) (qj_nil)))) (fun hg1 => rfl) rfl ?_
    refine wj_q _ (q_mv rfl) ?_
    refine wj_or rfl rfl rfl (fun hg1 => qj_g rfl _ (q_mv rfl) (qj_g rfl _ (q_call rfl (fun w hw => rfits_spec _ w)) (qj_g rfl _ (q_un rfl rfl) (qj_nil)))) (fun hg1 => rfl) rfl ?_
    refine wj_nil ?_
    refine wc_if rfl (fun h2 => ?_) (fun h2 => ?_)
    · refine wc_seq ?_
      refine wc_ops ?_
      refine wj_q _ (q_ld rfl (.there .here) rfl) ?_
      refine wj_e (ef_st rfl rfl rfl rfl rfl .here ?_)
      refine wj_q _ (q_mv rfl) ?_
      refine wj_nil ?_
      refine wc_ret ?_
      refine ⟨_, (.cons (.agg rfl .here rfl) (.cons (.tmp rfl) .nil)), ?_⟩
      unfold rpostV
      rw [ite_f (show (rpBad d c m) = false from h1), ite_t (show (rpMiss b d c m) = true from h2)]
      rfl
    · refine wc_skip ?_
      refine wc_seq ?_
      refine wc_seq ?_
      refine wc_ops ?_
      refine wj_q _ (q_mv rfl) ?_
      refine wj_q _ (q_mv rfl) ?_
      refine wj_q _ (q_call rfl (fun w hw => rwrong_spec _ _ w)) ?_
      refine wj_q _ (q_mv rfl) ?_
      refine wj_or rfl rfl rfl (fun hg1 => qj_g rfl _ (q_mv rfl) (qj_g rfl _ (q_mv rfl) (qj_g rfl _ (q_call rfl (fun w hw => rwrong_spec _ _ w)) (qj_nil)))) (fun hg1 => rfl) rfl ?_
      refine wj_nil ?_
      refine wc_if rfl (fun h3 => ?_) (fun h3 => ?_)
      · refine wc_seq ?_
        refine wc_ops ?_
        refine wj_q _ (q_ld rfl (.there .here) rfl) ?_
        refine wj_e (ef_st rfl rfl rfl rfl rfl .here ?_)
        refine wj_q _ (q_mv rfl) ?_
        refine wj_nil ?_
        refine wc_ret ?_
        refine ⟨_, (.cons (.agg rfl .here rfl) (.cons (.tmp rfl) .nil)), ?_⟩
        unfold rpostV
        rw [ite_f (show (rpBad d c m) = false from h1), ite_f (show (rpMiss b d c m) = false from h2), ite_t (show (rpWrong b d c m) = true from h3)]
        rfl
      · refine wc_skip ?_
        refine wc_seq ?_
        refine wc_ops ?_
        refine wj_q _ (q_mv rfl) ?_
        refine wj_q _ (q_mv rfl) ?_
        refine wj_q _ (q_fa rfl) ?_
        refine wj_q _ (q_ia rfl rfl (by first | decide | omega)) ?_
        refine wj_e (ef_sti rfl rfl rfl (by first | decide | omega) rfl (.there .here) ?_)
        refine wj_nil ?_
        refine wc_seq ?_
        refine wc_ops ?_
        refine wj_q _ (q_mv rfl) ?_
        refine wj_q _ (q_mv rfl) ?_
        refine wj_q _ (q_fa rfl) ?_
        refine wj_q _ (q_ia rfl rfl (by first | decide | omega)) ?_
        refine wj_e (ef_sti rfl rfl rfl (by first | decide | omega) rfl (.there .here) ?_)
        refine wj_nil ?_
        refine wc_seq ?_
        refine wc_ops ?_
        refine wj_q _ (q_ld rfl (.there .here) rfl) ?_
        refine wj_e (ef_st rfl rfl rfl rfl rfl .here ?_)
        refine wj_q _ (q_mv rfl) ?_
        refine wj_nil ?_
        refine wc_ret ?_
        refine ⟨_, (.cons (.agg rfl .here rfl) (.cons (.tmp rfl) .nil)), ?_⟩
        unfold rpostV
        rw [ite_f (show (rpBad d c m) = false from h1), ite_f (show (rpMiss b d c m) = false from h2), ite_f (show (rpWrong b d c m) = false from h3)]
        rfl

def rsellV (b : List Int) (r p : Int) : List Int × Int := if (!mayV r p) = true then (b, 2) else ((rpostV b 0 1 (w64 (r * p))).1, (rpostV b 0 1 (w64 (r * p))).2)
def rretireV (b : List Int) (r p : Int) : List Int × Int := if (!mayV r p) = true then (b, 2) else ((rpostV b 1 2 (w64 (r * p))).1, (rpostV b 1 2 (w64 (r * p))).2)
def rrefBad (r k p : Int) : Bool := !mayV r p || decide (k < 0) || decide (k > r)
def rref1 (b : List Int) (r k p : Int) : List Int × Int := rpostV b 1 2 (w64 (w64 (r - k) * p))
def rref2 (b : List Int) (r k p : Int) : List Int × Int := rpostV (rref1 b r k p).1 1 0 (w64 (k * p))
def rrefundV (b : List Int) (r k p : Int) : List Int × Int := if rrefBad r k p = true then (b, 2) else if ((rref1 b r k p).2 != 0) = true then (b, (rref1 b r k p).2) else if ((rref2 b r k p).2 != 0) = true then (b, (rref2 b r k p).2) else ((rref2 b r k p).1, 0)
theorem rsell_spec (b : List Int) (r p : Int) (w : World) : Calls Tryd.prog 21 [agg (bookS b), .int .i64 r, .int .i64 p].toArray w (ret1 w (.tuple #[agg (bookS (rsellV b r p).1), .int .i64 (rsellV b r p).2])) := by
  refine calls_val mo ok21 rfl ?_
  refine wc_seq ?_
  refine wc_ops ?_
  refine wj_e (ef_bx rfl fun b3 hb3 => ?_)
  refine wj_e (ef_al fun b6 hb6 => ?_)
  refine wj_q _ (q_mv rfl) ?_
  refine wj_nil ?_
  refine wc_seq ?_
  refine wc_seq ?_
  refine wc_ops ?_
  refine wj_q _ (q_mv rfl) ?_
  refine wj_q _ (q_mv rfl) ?_
  refine wj_q _ (q_call rfl (fun w hw => rmay_spec _ _ w)) ?_
  refine wj_q _ (q_un rfl rfl) ?_
  refine wj_nil ?_
  refine wc_if rfl (fun h1 => ?_) (fun h1 => ?_)
  · refine wc_seq ?_
    refine wc_ops ?_
    refine wj_q _ (q_ld rfl (.there .here) rfl) ?_
    refine wj_e (ef_st rfl rfl rfl rfl rfl .here ?_)
    refine wj_q _ (q_mv rfl) ?_
    refine wj_nil ?_
    refine wc_ret ?_
    refine ⟨_, (.cons (.agg rfl .here rfl) (.cons (.tmp rfl) .nil)), ?_⟩
    unfold rsellV
    rw [ite_t (show (!mayV r p) = true from h1)]
    rfl
  · refine wc_skip ?_
    refine wc_seq ?_
    refine wc_ops ?_
    refine wj_q _ (q_ld rfl (.there .here) rfl) ?_
    refine wj_q _ (q_mv rfl) ?_
    refine wj_q _ (q_mv rfl) ?_
    refine wj_q _ (q_bin rfl rfl rfl) ?_
    refine wj_q _ (q_call rfl (fun w hw => rpost_spec _ _ _ _ w)) ?_
    refine wj_q _ (q_ext rfl rfl) ?_
    refine wj_q _ (q_ext rfl rfl) ?_
    refine wj_e (ef_st rfl rfl rfl rfl rfl .here ?_)
    refine wj_q _ (q_mv rfl) ?_
    refine wj_nil ?_
    refine wc_ret ?_
    refine ⟨_, (.cons (.agg rfl .here rfl) (.cons (.tmp rfl) .nil)), ?_⟩
    unfold rsellV
    rw [ite_f (show (!mayV r p) = false from h1)]
    rfl
theorem rretire_spec (b : List Int) (r p : Int) (w : World) : Calls Tryd.prog 23 [agg (bookS b), .int .i64 r, .int .i64 p].toArray w (ret1 w (.tuple #[agg (bookS (rretireV b r p).1), .int .i64 (rretireV b r p).2])) := by
  refine calls_val mo ok23 rfl ?_
  refine wc_seq ?_
  refine wc_ops ?_
  refine wj_e (ef_bx rfl fun b3 hb3 => ?_)
  refine wj_e (ef_al fun b6 hb6 => ?_)
  refine wj_q _ (q_mv rfl) ?_
  refine wj_nil ?_
  refine wc_seq ?_
  refine wc_seq ?_
  refine wc_ops ?_
  refine wj_q _ (q_mv rfl) ?_
  refine wj_q _ (q_mv rfl) ?_
  refine wj_q _ (q_call rfl (fun w hw => rmay_spec _ _ w)) ?_
  refine wj_q _ (q_un rfl rfl) ?_
  refine wj_nil ?_
  refine wc_if rfl (fun h1 => ?_) (fun h1 => ?_)
  · refine wc_seq ?_
    refine wc_ops ?_
    refine wj_q _ (q_ld rfl (.there .here) rfl) ?_
    refine wj_e (ef_st rfl rfl rfl rfl rfl .here ?_)
    refine wj_q _ (q_mv rfl) ?_
    refine wj_nil ?_
    refine wc_ret ?_
    refine ⟨_, (.cons (.agg rfl .here rfl) (.cons (.tmp rfl) .nil)), ?_⟩
    unfold rretireV
    rw [ite_t (show (!mayV r p) = true from h1)]
    rfl
  · refine wc_skip ?_
    refine wc_seq ?_
    refine wc_ops ?_
    refine wj_q _ (q_ld rfl (.there .here) rfl) ?_
    refine wj_q _ (q_mv rfl) ?_
    refine wj_q _ (q_mv rfl) ?_
    refine wj_q _ (q_bin rfl rfl rfl) ?_
    refine wj_q _ (q_call rfl (fun w hw => rpost_spec _ _ _ _ w)) ?_
    refine wj_q _ (q_ext rfl rfl) ?_
    refine wj_q _ (q_ext rfl rfl) ?_
    refine wj_e (ef_st rfl rfl rfl rfl rfl .here ?_)
    refine wj_q _ (q_mv rfl) ?_
    refine wj_nil ?_
    refine wc_ret ?_
    refine ⟨_, (.cons (.agg rfl .here rfl) (.cons (.tmp rfl) .nil)), ?_⟩
    unfold rretireV
    rw [ite_f (show (!mayV r p) = false from h1)]
    rfl
theorem rrefund_spec (b : List Int) (r k p : Int) (w : World) : Calls Tryd.prog 22 [agg (bookS b), .int .i64 r, .int .i64 k, .int .i64 p].toArray w (ret1 w (.tuple #[agg (bookS (rrefundV b r k p).1), .int .i64 (rrefundV b r k p).2])) := by
  refine calls_val mo ok22 rfl ?_
  refine wc_seq ?_
  refine wc_ops ?_
  refine wj_e (ef_bx rfl fun b4 hb4 => ?_)
  refine wj_e (ef_al fun b8 hb8 => ?_)
  refine wj_q _ (q_mv rfl) ?_
  refine wj_nil ?_
  refine wc_seq ?_
  refine wc_seq ?_
  refine wc_ops ?_
  refine wj_q _ (q_mv rfl) ?_
  refine wj_q _ (q_mv rfl) ?_
  refine wj_q _ (q_call rfl (fun w hw => rmay_spec _ _ w)) ?_
  refine wj_q _ (q_un rfl rfl) ?_
  refine wj_q _ (q_mv rfl) ?_
  refine wj_or rfl rfl rfl (fun hg1 => qj_g rfl _ (q_mv rfl) (qj_g rfl _ (q_bin rfl rfl rfl) (qj_nil))) (fun hg1 => rfl) rfl ?_
  refine wj_q _ (q_mv rfl) ?_
  refine wj_or rfl rfl rfl (fun hg1 => qj_g rfl _ (q_mv rfl) (qj_g rfl _ (q_mv rfl) (qj_g rfl _ (q_bin rfl rfl rfl) (qj_nil)))) (fun hg1 => rfl) rfl ?_
  refine wj_nil ?_
  refine wc_if rfl (fun h1 => ?_) (fun h1 => ?_)
  · refine wc_seq ?_
    refine wc_ops ?_
    refine wj_q _ (q_ld rfl (.there .here) rfl) ?_
    refine wj_e (ef_st rfl rfl rfl rfl rfl .here ?_)
    refine wj_q _ (q_mv rfl) ?_
    refine wj_nil ?_
    refine wc_ret ?_
    refine ⟨_, (.cons (.agg rfl .here rfl) (.cons (.tmp rfl) .nil)), ?_⟩
    unfold rrefundV
    rw [ite_t (show (rrefBad r k p) = true from h1)]
    rfl
  · refine wc_skip ?_
    refine wc_seq ?_
    refine wc_ops ?_
    refine wj_q _ (q_ld rfl (.there .here) rfl) ?_
    refine wj_q _ (q_mv rfl) ?_
    refine wj_q _ (q_mv rfl) ?_
    refine wj_q _ (q_bin rfl rfl rfl) ?_
    refine wj_q _ (q_mv rfl) ?_
    refine wj_q _ (q_bin rfl rfl rfl) ?_
    refine wj_q _ (q_call rfl (fun w hw => rpost_spec _ _ _ _ w)) ?_
    refine wj_q _ (q_mv rfl) ?_
    refine wj_q _ (q_ext rfl rfl) ?_
    refine wj_q _ (q_ext rfl rfl) ?_
    refine wj_e (ef_al fun b10 hb10 => ?_)
    refine wj_e (ef_st rfl rfl rfl rfl rfl .here ?_)
    refine wj_q _ (q_mv rfl) ?_
    refine wj_nil ?_
    refine wc_seq ?_
    refine wc_seq ?_
    refine wc_ops ?_
    refine wj_q _ (q_mv rfl) ?_
    refine wj_q _ (q_bin rfl rfl rfl) ?_
    refine wj_nil ?_
    refine wc_if rfl (fun h2 => ?_) (fun h2 => ?_)
    · refine wc_seq ?_
      refine wc_ops ?_
      refine wj_q _ (q_ld rfl (.there (.there .here)) rfl) ?_
      refine wj_q _ (q_mv rfl) ?_
      refine wj_e (ef_st rfl rfl rfl rfl rfl (.there .here) ?_)
      refine wj_q _ (q_mv rfl) ?_
      refine wj_nil ?_
      refine wc_ret ?_
      refine ⟨_, (.cons (.agg rfl (.there .here) rfl) (.cons (.tmp rfl) .nil)), ?_⟩
      unfold rrefundV
      rw [ite_f (show (rrefBad r k p) = false from h1), ite_t (show ((rref1 b r k p).2 != 0) = true from h2)]
      rfl
    · refine wc_skip ?_
      refine wc_seq ?_
      refine wc_ops ?_
      refine wj_q _ (q_ld rfl .here rfl) ?_
      refine wj_q _ (q_mv rfl) ?_
      refine wj_q _ (q_mv rfl) ?_
      refine wj_q _ (q_bin rfl rfl rfl) ?_
      refine wj_q _ (q_call rfl (fun w hw => rpost_spec _ _ _ _ w)) ?_
      refine wj_q _ (q_mv rfl) ?_
      refine wj_q _ (q_ext rfl rfl) ?_
      refine wj_q _ (q_ext rfl rfl) ?_
      refine wj_e (ef_al fun b12 hb12 => ?_)
      refine wj_e (ef_st rfl rfl rfl rfl rfl .here ?_)
      refine wj_q _ (q_mv rfl) ?_
      refine wj_nil ?_
      refine wc_seq ?_
      refine wc_seq ?_
      refine wc_ops ?_
      refine wj_q _ (q_mv rfl) ?_
      refine wj_q _ (q_bin rfl rfl rfl) ?_
      refine wj_nil ?_
      refine wc_if rfl (fun h3 => ?_) (fun h3 => ?_)
      · refine wc_seq ?_
        refine wc_ops ?_
        refine wj_q _ (q_ld rfl (.there (.there (.there .here))) rfl) ?_
        refine wj_q _ (q_mv rfl) ?_
        refine wj_e (ef_st rfl rfl rfl rfl rfl (.there (.there .here)) ?_)
        refine wj_q _ (q_mv rfl) ?_
        refine wj_nil ?_
        refine wc_ret ?_
        refine ⟨_, (.cons (.agg rfl (.there (.there .here)) rfl) (.cons (.tmp rfl) .nil)), ?_⟩
        unfold rrefundV
        rw [ite_f (show (rrefBad r k p) = false from h1), ite_f (show ((rref1 b r k p).2 != 0) = false from h2), ite_t (show ((rref2 b r k p).2 != 0) = true from h3)]
        rfl
      · refine wc_skip ?_
        refine wc_seq ?_
        refine wc_ops ?_
        refine wj_q _ (q_ld rfl .here rfl) ?_
        refine wj_e (ef_st rfl rfl rfl rfl rfl (.there (.there .here)) ?_)
        refine wj_q _ (q_mv rfl) ?_
        refine wj_nil ?_
        refine wc_ret ?_
        refine ⟨_, (.cons (.agg rfl (.there (.there .here)) rfl) (.cons (.tmp rfl) .nil)), ?_⟩
        unfold rrefundV
        rw [ite_f (show (rrefBad r k p) = false from h1), ite_f (show ((rref1 b r k p).2 != 0) = false from h2), ite_f (show ((rref2 b r k p).2 != 0) = false from h3)]
        rfl

def rbalV (b : List Int) (a : Int) : Int × Int := if (!isAccR a) = true then (0, 2) else if (b.getD a.toNat 0 == -9223372036854775808) = true then (0, 3) else if (a == 0) = true then (b.getD a.toNat 0, 0) else (w64 (0 - b.getD a.toNat 0), 0)
theorem raccArg {a : Int} (h : (!isAccR a) = false) : 0 ≤ a ∧ a < 3 := by simp [isAccR] at h; omega
theorem rbal_spec (b : List Int) (a : Int) (w : World) : Calls Tryd.prog 24 [agg (bookS b), .int .i64 a].toArray w (ret1 w (.tuple #[.int .i64 (rbalV b a).1, .int .i64 (rbalV b a).2])) := by
  refine calls_val mo ok24 rfl ?_
  refine wc_seq ?_
  refine wc_ops ?_
  refine wj_e (ef_bx rfl fun b2 hb2 => ?_)
  refine wj_q _ (q_mv rfl) ?_
  refine wj_q _ (q_mv rfl) ?_
  refine wj_nil ?_
  refine wc_seq ?_
  refine wc_seq ?_
  refine wc_ops ?_
  refine wj_q _ (q_mv rfl) ?_
  refine wj_q _ (q_call rfl (fun w hw => ris_spec _ w)) ?_
  refine wj_q _ (q_un rfl rfl) ?_
  refine wj_nil ?_
  refine wc_if rfl (fun h1 => ?_) (fun h1 => ?_)
  · refine wc_seq ?_
    refine wc_ops ?_
    refine wj_q _ (q_mv rfl) ?_
    refine wj_q _ (q_mv rfl) ?_
    refine wj_nil ?_
    refine wc_ret ?_
    refine ⟨_, (.cons (.tmp rfl) (.cons (.tmp rfl) .nil)), ?_⟩
    unfold rbalV
    rw [ite_t (show (!isAccR a) = true from h1)]
    rfl
  · have ha := raccArg h1
    refine wc_skip ?_
    refine wc_seq ?_
    refine wc_ops ?_
    refine wj_q _ (q_mv rfl) ?_
    refine wj_q _ (q_fa rfl) ?_
    refine wj_q _ (q_ia rfl rfl (by first | decide | omega)) ?_
    refine wj_q _ (q_ldi rfl .here rfl (by first | decide | omega)) ?_
    refine wj_q _ (q_mv rfl) ?_
    refine wj_nil ?_
    refine wc_seq ?_
    refine wc_seq ?_
    refine wc_ops ?_
    refine wj_q _ (q_mv rfl) ?_
    refine wj_q _ (q_bin rfl rfl rfl) ?_
    refine wj_nil ?_
    refine wc_if rfl (fun h2 => ?_) (fun h2 => ?_)
    · refine wc_seq ?_
      refine wc_ops ?_
      refine wj_q _ (q_mv rfl) ?_
      refine wj_q _ (q_mv rfl) ?_
      refine wj_nil ?_
      refine wc_ret ?_
      refine ⟨_, (.cons (.tmp rfl) (.cons (.tmp rfl) .nil)), ?_⟩
      unfold rbalV
      rw [ite_f (show (!isAccR a) = false from h1), ite_t (show (b.getD a.toNat 0 == -9223372036854775808) = true from h2)]
      rfl
    · refine wc_skip ?_
      refine wc_seq ?_
      refine wc_seq ?_
      refine wc_ops ?_
      refine wj_q _ (q_mv rfl) ?_
      refine wj_q _ (q_bin rfl rfl rfl) ?_
      refine wj_nil ?_
      refine wc_if rfl (fun h3 => ?_) (fun h3 => ?_)
      · refine wc_seq ?_
        refine wc_ops ?_
        refine wj_q _ (q_mv rfl) ?_
        refine wj_q _ (q_mv rfl) ?_
        refine wj_q _ (q_mv rfl) ?_
        refine wj_nil ?_
        refine wc_ret ?_
        refine ⟨_, (.cons (.tmp rfl) (.cons (.tmp rfl) .nil)), ?_⟩
        unfold rbalV
        rw [ite_f (show (!isAccR a) = false from h1), ite_f (show (b.getD a.toNat 0 == -9223372036854775808) = false from h2), ite_t (show (a == 0) = true from h3)]
        rfl
      · refine wc_skip ?_
        refine wc_seq ?_
        refine wc_ops ?_
        refine wj_q _ (q_mv rfl) ?_
        refine wj_q _ (q_un rfl rfl) ?_
        refine wj_q _ (q_mv rfl) ?_
        refine wj_q _ (q_mv rfl) ?_
        refine wj_nil ?_
        refine wc_ret ?_
        refine ⟨_, (.cons (.tmp rfl) (.cons (.tmp rfl) .nil)), ?_⟩
        unfold rbalV
        rw [ite_f (show (!isAccR a) = false from h1), ite_f (show (b.getD a.toNat 0 == -9223372036854775808) = false from h2), ite_f (show (a == 0) = false from h3)]
        rfl

def revenBad (b : List Int) (a : Int) : Bool := !fitsV (b.getD a.toNat 0) || wrongV a (b.getD a.toNat 0)
def revenV (b : List Int) : Bool := if revenBad b 0 = true then false else if revenBad b 1 = true then false else if revenBad b 2 = true then false else (w64 (b.getD 0 0 + b.getD 1 0) == w64 (0 - b.getD 2 0))
theorem reven_spec (b : List Int) (w : World) : Calls Tryd.prog 25 [agg (bookS b)].toArray w (ret1 w (.bool (revenV b))) := by
  refine calls_val mo ok25 rfl ?_
  refine wc_seq ?_
  refine wc_ops ?_
  refine wj_e (ef_bx rfl fun b1 hb1 => ?_)
  refine wj_q _ (q_mv rfl) ?_
  refine wj_nil ?_
  refine wc_seq ?_
  refine wc_seq ?_
  refine wc_ops ?_
  refine wj_q _ (q_mv rfl) ?_
  refine wj_nil ?_
  refine wc_block ?_
  refine wc_rounds 4 ?_
  refine wc_round ?_
  refine wc_seq ?_
  refine wc_seq ?_
  refine wc_ops ?_
  refine wj_q _ (q_mv rfl) ?_
  refine wj_q _ (q_bin rfl rfl rfl) ?_
  refine wj_nil ?_
  refine wc_if rfl (fun _ => ?_) (fun h => absurd h (by decide))
  refine wc_skip ?_
  refine wc_seq ?_
  refine wc_block ?_
  refine wc_seq ?_
  refine wc_ops ?_
  refine wj_q _ (q_mv rfl) ?_
  refine wj_q _ (q_fa rfl) ?_
  refine wj_q _ (q_ia rfl rfl (by decide)) ?_
  refine wj_q _ (q_ld1 rfl .here rfl) ?_
  refine wj_q _ (q_call rfl (fun w hw => rfits_spec _ w)) ?_
  refine wj_q _ (q_un rfl rfl) ?_
  refine wj_q _ (q_mv rfl) ?_
  refine wj_or rfl rfl rfl (fun hg1 => qj_g rfl _ (q_mv rfl) (qj_g rfl _ (q_mv rfl) (qj_g rfl _ (q_fa rfl) (qj_g rfl _ (q_ia rfl rfl (by decide)) (qj_g rfl _ (q_ld1 rfl .here rfl) (qj_g rfl _ (q_call rfl (fun w hw => rwrong_spec _ _ w)) (qj_nil))))))) (fun hg1 => rfl) rfl ?_
  refine wj_nil ?_
  refine wc_if rfl (fun h1 => ?_) (fun h1 => ?_)
  · refine wc_seq ?_
    refine wc_ops ?_
    refine wj_q _ (q_mv rfl) ?_
    refine wj_nil ?_
    refine wc_ret ?_
    refine ⟨_, (.cons (.tmp rfl) .nil), ?_⟩
    unfold revenV
    rw [ite_t (show (revenBad b 0) = true from h1)]
    rfl
  · refine wc_skip ?_
    refine wc_ops ?_
    refine wj_q _ (q_mv rfl) ?_
    refine wj_q _ (q_bin rfl rfl rfl) ?_
    refine wj_q _ (q_mv rfl) ?_
    refine wj_nil ?_
    refine wc_round ?_
    refine wc_seq ?_
    refine wc_seq ?_
    refine wc_ops ?_
    refine wj_q _ (q_mv rfl) ?_
    refine wj_q _ (q_bin rfl rfl rfl) ?_
    refine wj_nil ?_
    refine wc_if rfl (fun _ => ?_) (fun h => absurd h (by decide))
    refine wc_skip ?_
    refine wc_seq ?_
    refine wc_block ?_
    refine wc_seq ?_
    refine wc_ops ?_
    refine wj_q _ (q_mv rfl) ?_
    refine wj_q _ (q_fa rfl) ?_
    refine wj_q _ (q_ia rfl rfl (by decide)) ?_
    refine wj_q _ (q_ld1 rfl .here rfl) ?_
    refine wj_q _ (q_call rfl (fun w hw => rfits_spec _ w)) ?_
    refine wj_q _ (q_un rfl rfl) ?_
    refine wj_q _ (q_mv rfl) ?_
    refine wj_or rfl rfl rfl (fun hg1 => qj_g rfl _ (q_mv rfl) (qj_g rfl _ (q_mv rfl) (qj_g rfl _ (q_fa rfl) (qj_g rfl _ (q_ia rfl rfl (by decide)) (qj_g rfl _ (q_ld1 rfl .here rfl) (qj_g rfl _ (q_call rfl (fun w hw => rwrong_spec _ _ w)) (qj_nil))))))) (fun hg1 => rfl) rfl ?_
    refine wj_nil ?_
    refine wc_if rfl (fun h2 => ?_) (fun h2 => ?_)
    · refine wc_seq ?_
      refine wc_ops ?_
      refine wj_q _ (q_mv rfl) ?_
      refine wj_nil ?_
      refine wc_ret ?_
      refine ⟨_, (.cons (.tmp rfl) .nil), ?_⟩
      unfold revenV
      rw [ite_f (show (revenBad b 0) = false from h1), ite_t (show (revenBad b 1) = true from h2)]
      rfl
    · refine wc_skip ?_
      refine wc_ops ?_
      refine wj_q _ (q_mv rfl) ?_
      refine wj_q _ (q_bin rfl rfl rfl) ?_
      refine wj_q _ (q_mv rfl) ?_
      refine wj_nil ?_
      refine wc_round ?_
      refine wc_seq ?_
      refine wc_seq ?_
      refine wc_ops ?_
      refine wj_q _ (q_mv rfl) ?_
      refine wj_q _ (q_bin rfl rfl rfl) ?_
      refine wj_nil ?_
      refine wc_if rfl (fun _ => ?_) (fun h => absurd h (by decide))
      refine wc_skip ?_
      refine wc_seq ?_
      refine wc_block ?_
      refine wc_seq ?_
      refine wc_ops ?_
      refine wj_q _ (q_mv rfl) ?_
      refine wj_q _ (q_fa rfl) ?_
      refine wj_q _ (q_ia rfl rfl (by decide)) ?_
      refine wj_q _ (q_ld1 rfl .here rfl) ?_
      refine wj_q _ (q_call rfl (fun w hw => rfits_spec _ w)) ?_
      refine wj_q _ (q_un rfl rfl) ?_
      refine wj_q _ (q_mv rfl) ?_
      refine wj_or rfl rfl rfl (fun hg1 => qj_g rfl _ (q_mv rfl) (qj_g rfl _ (q_mv rfl) (qj_g rfl _ (q_fa rfl) (qj_g rfl _ (q_ia rfl rfl (by decide)) (qj_g rfl _ (q_ld1 rfl .here rfl) (qj_g rfl _ (q_call rfl (fun w hw => rwrong_spec _ _ w)) (qj_nil))))))) (fun hg1 => rfl) rfl ?_
      refine wj_nil ?_
      refine wc_if rfl (fun h3 => ?_) (fun h3 => ?_)
      · refine wc_seq ?_
        refine wc_ops ?_
        refine wj_q _ (q_mv rfl) ?_
        refine wj_nil ?_
        refine wc_ret ?_
        refine ⟨_, (.cons (.tmp rfl) .nil), ?_⟩
        unfold revenV
        rw [ite_f (show (revenBad b 0) = false from h1), ite_f (show (revenBad b 1) = false from h2), ite_t (show (revenBad b 2) = true from h3)]
        rfl
      · refine wc_skip ?_
        refine wc_ops ?_
        refine wj_q _ (q_mv rfl) ?_
        refine wj_q _ (q_bin rfl rfl rfl) ?_
        refine wj_q _ (q_mv rfl) ?_
        refine wj_nil ?_
        refine wc_round ?_
        refine wc_seq ?_
        refine wc_seq ?_
        refine wc_ops ?_
        refine wj_q _ (q_mv rfl) ?_
        refine wj_q _ (q_bin rfl rfl rfl) ?_
        refine wj_nil ?_
        refine wc_if rfl (fun h => absurd h (by decide)) (fun _ => ?_)
        refine wc_exit _ rfl ?_
        refine wc_seq ?_
        refine wc_ops ?_
        refine wj_q _ (q_fa rfl) ?_
        refine wj_q _ (q_ia rfl rfl (by decide)) ?_
        refine wj_q _ (q_ld1 rfl .here rfl) ?_
        refine wj_q _ (q_fa rfl) ?_
        refine wj_q _ (q_ia rfl rfl (by decide)) ?_
        refine wj_q _ (q_ld1 rfl .here rfl) ?_
        refine wj_q _ (q_bin rfl rfl rfl) ?_
        refine wj_q _ (q_fa rfl) ?_
        refine wj_q _ (q_ia rfl rfl (by decide)) ?_
        refine wj_q _ (q_ld1 rfl .here rfl) ?_
        refine wj_q _ (q_un rfl rfl) ?_
        refine wj_q _ (q_bin rfl rfl rfl) ?_
        refine wj_q _ (q_mv rfl) ?_
        refine wj_nil ?_
        refine wc_ret ?_
        refine ⟨_, (.cons (.tmp rfl) .nil), ?_⟩
        unfold revenV
        rw [ite_f (show (revenBad b 0) = false from h1), ite_f (show (revenBad b 1) = false from h2), ite_f (show (revenBad b 2) = false from h3)]
        rfl

def wantedV (b : List Int) (o : LOp) : List Int × Int :=
  if (o.kind == 1) = true then ((rpostV b o.debit o.credit o.amount).1, (rpostV b o.debit o.credit o.amount).2)
  else if (o.kind == 2) = true then ((rsellV b o.rides o.price).1, (rsellV b o.rides o.price).2)
  else if (o.kind == 3) = true then ((rrefundV b o.rides o.back o.price).1, (rrefundV b o.rides o.back o.price).2)
  else if (o.kind == 4) = true then ((rretireV b o.rides o.price).1, (rretireV b o.rides o.price).2)
  else (b, 0)
def asksV (b : List Int) (o : LOp) : Bool := ((balV b o.debit).1 == (rbalV b o.debit).1) && ((balV b o.debit).2 == (rbalV b o.debit).2) && (evenV b == revenV b)
theorem wanted_spec (b : List Int) (o : LOp) (w : World) : Calls Tryd.prog 14 [agg (bookS b), agg (opS o)].toArray w (ret1 w (.tuple #[agg (bookS (wantedV b o).1), .int .i64 (wantedV b o).2])) := by
  refine calls_val mo ok14 rfl ?_
  refine wc_seq ?_
  refine wc_ops ?_
  refine wj_e (ef_bx rfl fun b2 hb2 => ?_)
  refine wj_e (ef_bx rfl fun b3 hb3 => ?_)
  refine wj_e (ef_al fun b4 hb4 => ?_)
  refine wj_q _ (q_mv rfl) ?_
  refine wj_nil ?_
  refine wc_seq ?_
  refine wc_seq ?_
  refine wc_ops ?_
  refine wj_q _ (q_fa rfl) ?_
  refine wj_q _ (q_ld1 rfl (.there .here) rfl) ?_
  refine wj_nil ?_
  refine wc_block ?_
  refine wc_seq ?_
  refine wc_ops ?_
  refine wj_q _ (q_bin rfl rfl rfl) ?_
  refine wj_q _ (q_mv rfl) ?_
  refine wj_nil ?_
  refine wc_if rfl (fun h1 => ?_) (fun h1 => ?_)
  · refine wc_seq ?_
    refine wc_ops ?_
    refine wj_q _ (q_ld rfl (.there (.there .here)) rfl) ?_
    refine wj_q _ (q_fa rfl) ?_
    refine wj_q _ (q_ld1 rfl (.there .here) rfl) ?_
    refine wj_q _ (q_fa rfl) ?_
    refine wj_q _ (q_ld1 rfl (.there .here) rfl) ?_
    refine wj_q _ (q_fa rfl) ?_
    refine wj_q _ (q_ld1 rfl (.there .here) rfl) ?_
    refine wj_q _ (q_call rfl (fun w hw => rpost_spec _ _ _ _ w)) ?_
    refine wj_q _ (q_ext rfl rfl) ?_
    refine wj_q _ (q_ext rfl rfl) ?_
    refine wj_e (ef_st rfl rfl rfl rfl rfl .here ?_)
    refine wj_q _ (q_mv rfl) ?_
    refine wj_nil ?_
    refine wc_ret ?_
    refine ⟨_, (.cons (.agg rfl .here rfl) (.cons (.tmp rfl) .nil)), ?_⟩
    unfold wantedV
    rw [ite_t (show (o.kind == 1) = true from h1)]
    rfl
  · refine wc_seq ?_
    refine wc_ops ?_
    refine wj_q _ (q_bin rfl rfl rfl) ?_
    refine wj_q _ (q_mv rfl) ?_
    refine wj_nil ?_
    refine wc_if rfl (fun h2 => ?_) (fun h2 => ?_)
    · refine wc_seq ?_
      refine wc_ops ?_
      refine wj_q _ (q_ld rfl (.there (.there .here)) rfl) ?_
      refine wj_q _ (q_fa rfl) ?_
      refine wj_q _ (q_ld1 rfl (.there .here) rfl) ?_
      refine wj_q _ (q_fa rfl) ?_
      refine wj_q _ (q_ld1 rfl (.there .here) rfl) ?_
      refine wj_q _ (q_call rfl (fun w hw => rsell_spec _ _ _ w)) ?_
      refine wj_q _ (q_ext rfl rfl) ?_
      refine wj_q _ (q_ext rfl rfl) ?_
      refine wj_e (ef_st rfl rfl rfl rfl rfl .here ?_)
      refine wj_q _ (q_mv rfl) ?_
      refine wj_nil ?_
      refine wc_ret ?_
      refine ⟨_, (.cons (.agg rfl .here rfl) (.cons (.tmp rfl) .nil)), ?_⟩
      unfold wantedV
      rw [ite_f (show (o.kind == 1) = false from h1), ite_t (show (o.kind == 2) = true from h2)]
      rfl
    · refine wc_seq ?_
      refine wc_ops ?_
      refine wj_q _ (q_bin rfl rfl rfl) ?_
      refine wj_q _ (q_mv rfl) ?_
      refine wj_nil ?_
      refine wc_if rfl (fun h3 => ?_) (fun h3 => ?_)
      · refine wc_seq ?_
        refine wc_ops ?_
        refine wj_q _ (q_ld rfl (.there (.there .here)) rfl) ?_
        refine wj_q _ (q_fa rfl) ?_
        refine wj_q _ (q_ld1 rfl (.there .here) rfl) ?_
        refine wj_q _ (q_fa rfl) ?_
        refine wj_q _ (q_ld1 rfl (.there .here) rfl) ?_
        refine wj_q _ (q_fa rfl) ?_
        refine wj_q _ (q_ld1 rfl (.there .here) rfl) ?_
        refine wj_q _ (q_call rfl (fun w hw => rrefund_spec _ _ _ _ w)) ?_
        refine wj_q _ (q_ext rfl rfl) ?_
        refine wj_q _ (q_ext rfl rfl) ?_
        refine wj_e (ef_st rfl rfl rfl rfl rfl .here ?_)
        refine wj_q _ (q_mv rfl) ?_
        refine wj_nil ?_
        refine wc_ret ?_
        refine ⟨_, (.cons (.agg rfl .here rfl) (.cons (.tmp rfl) .nil)), ?_⟩
        unfold wantedV
        rw [ite_f (show (o.kind == 1) = false from h1), ite_f (show (o.kind == 2) = false from h2), ite_t (show (o.kind == 3) = true from h3)]
        rfl
      · refine wc_seq ?_
        refine wc_ops ?_
        refine wj_q _ (q_bin rfl rfl rfl) ?_
        refine wj_q _ (q_mv rfl) ?_
        refine wj_nil ?_
        refine wc_if rfl (fun h4 => ?_) (fun h4 => ?_)
        · refine wc_seq ?_
          refine wc_ops ?_
          refine wj_q _ (q_ld rfl (.there (.there .here)) rfl) ?_
          refine wj_q _ (q_fa rfl) ?_
          refine wj_q _ (q_ld1 rfl (.there .here) rfl) ?_
          refine wj_q _ (q_fa rfl) ?_
          refine wj_q _ (q_ld1 rfl (.there .here) rfl) ?_
          refine wj_q _ (q_call rfl (fun w hw => rretire_spec _ _ _ w)) ?_
          refine wj_q _ (q_ext rfl rfl) ?_
          refine wj_q _ (q_ext rfl rfl) ?_
          refine wj_e (ef_st rfl rfl rfl rfl rfl .here ?_)
          refine wj_q _ (q_mv rfl) ?_
          refine wj_nil ?_
          refine wc_ret ?_
          refine ⟨_, (.cons (.agg rfl .here rfl) (.cons (.tmp rfl) .nil)), ?_⟩
          unfold wantedV
          rw [ite_f (show (o.kind == 1) = false from h1), ite_f (show (o.kind == 2) = false from h2), ite_f (show (o.kind == 3) = false from h3), ite_t (show (o.kind == 4) = true from h4)]
          rfl
        · refine wc_skip ?_
          refine wc_seq ?_
          refine wc_ops ?_
          refine wj_q _ (q_ld rfl (.there (.there .here)) rfl) ?_
          refine wj_e (ef_st rfl rfl rfl rfl rfl .here ?_)
          refine wj_q _ (q_mv rfl) ?_
          refine wj_nil ?_
          refine wc_ret ?_
          refine ⟨_, (.cons (.agg rfl .here rfl) (.cons (.tmp rfl) .nil)), ?_⟩
          unfold wantedV
          rw [ite_f (show (o.kind == 1) = false from h1), ite_f (show (o.kind == 2) = false from h2), ite_f (show (o.kind == 3) = false from h3), ite_f (show (o.kind == 4) = false from h4)]
          rfl
theorem asks_spec (b : List Int) (o : LOp) (w : World) (hs : SideAt w) : Calls Tryd.prog 15 [agg (bookS b), agg (opS o)].toArray w (ret1 w (.bool (asksV b o))) := by
  refine calls_val mo ok15 rfl ?_
  refine wc_seq ?_
  refine wc_ops ?_
  refine wj_e (ef_bx rfl fun b2 hb2 => ?_)
  refine wj_e (ef_bx rfl fun b3 hb3 => ?_)
  refine wj_q _ (q_mv rfl) ?_
  refine wj_nil ?_
  refine wc_seq ?_
  refine wc_ops ?_
  refine wj_q _ (q_ld rfl (.there .here) rfl) ?_
  refine wj_q _ (q_fa rfl) ?_
  refine wj_q _ (q_ld1 rfl .here rfl) ?_
  refine wj_q _ (q_call rfl (fun w hw => bal_spec _ _ w (hs.below hw.now))) ?_
  refine wj_q _ (q_mv rfl) ?_
  refine wj_q _ (q_ext rfl rfl) ?_
  refine wj_q _ (q_ext rfl rfl) ?_
  refine wj_q _ (q_mv rfl) ?_
  refine wj_q _ (q_mv rfl) ?_
  refine wj_nil ?_
  refine wc_seq ?_
  refine wc_ops ?_
  refine wj_q _ (q_ld rfl (.there .here) rfl) ?_
  refine wj_q _ (q_fa rfl) ?_
  refine wj_q _ (q_ld1 rfl .here rfl) ?_
  refine wj_q _ (q_call rfl (fun w hw => rbal_spec _ _ w)) ?_
  refine wj_q _ (q_mv rfl) ?_
  refine wj_q _ (q_ext rfl rfl) ?_
  refine wj_q _ (q_ext rfl rfl) ?_
  refine wj_q _ (q_mv rfl) ?_
  refine wj_q _ (q_mv rfl) ?_
  refine wj_nil ?_
  refine wc_seq ?_
  refine wc_draw ?_
  refine ws_q1 _ (q_mv rfl) ?_
  refine ws_q1 _ (q_mv rfl) ?_
  refine ws_q1 _ (q_bin rfl rfl rfl) ?_
  refine ws_q1 _ (q_mv rfl) ?_
  refine ws_and rfl rfl rfl (fun hg1 => qj_g rfl _ (q_mv rfl) (qj_g rfl _ (q_mv rfl) (qj_g rfl _ (q_bin rfl rfl rfl) (qj_nil)))) (fun hg1 => rfl) rfl ?_
  refine ws_q1 _ (q_mv rfl) ?_
  refine ws_and rfl rfl rfl (fun hg1 => qj_g rfl _ (q_ld rfl (.there .here) rfl) (qj_g rfl _ (q_call rfl (fun w hw => even_spec _ w (hs.below hw.now))) (qj_g rfl _ (q_ld rfl (.there .here) rfl) (qj_g rfl _ (q_call rfl (fun w hw => reven_spec _ w)) (qj_g rfl _ (q_beq rfl rfl) (qj_nil)))))) (fun hg1 => rfl) rfl ?_
  refine ws_q1 _ (q_mv rfl) ?_
  refine ws_nil ?_
  refine wc_ret ?_
  refine ⟨_, (.cons (.tmp rfl) .nil), ?_⟩
  rfl
end Go.Proofs.YtdelljcdaepgiaaDoor
