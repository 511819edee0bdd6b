/- Contracts of the statements own functions. -/
import Derived.Test.YtdelljcdaepgiaaDoorI2
namespace Go.Proofs.YtdelljcdaepgiaaDoor
open Go Go.Sx Go.RowKit
set_option linter.all false

structure LOp where
  kind : Int
  debit : Int
  credit : Int
  amount : Int
  rides : Int
  back : Int
  price : Int
abbrev opS (o : LOp) : List Seg := [.one (.int .i64 o.kind), .one (.int .i64 o.debit), .one (.int .i64 o.credit), .one (.int .i64 o.amount), .one (.int .i64 o.rides), .one (.int .i64 o.back), .one (.int .i64 o.price)]
def mineV (b : List Int) (o : LOp) : List Int × Int :=
  if (o.kind == 1) = true then ((postV b o.debit o.credit o.amount).1, (postV b o.debit o.credit o.amount).2)
  else if (o.kind == 2) = true then ((sellV b o.rides o.price).1, (sellV b o.rides o.price).2)
  else if (o.kind == 3) = true then ((refundV b o.rides o.back o.price).1, (refundV b o.rides o.back o.price).2)
  else if (o.kind == 4) = true then ((retireV b o.rides o.price).1, (retireV b o.rides o.price).2)
  else (b, 0)
theorem mine_spec (b : List Int) (o : LOp) (w : World) (hs : SideAt w) : Calls Tryd.prog 7 [agg (bookS b), agg (opS o)].toArray w (ret1 w (.tuple #[agg (bookS (mineV b o).1), .int .i64 (mineV b o).2])) := by
  refine calls_val mo ok7 rfl ?_
  refine wc_seq ?_
  refine wc_ops ?_
  refine wj_e (ef_bx rfl fun b2 hb2 => ?_)
  refine wj_e (ef_bx rfl fun b3 hb3 => ?_)
  refine wj_e (ef_al fun b4 hb4 => ?_)
  refine wj_q _ (q_mv rfl) ?_
  refine wj_nil ?_
  refine wc_seq ?_
  refine wc_ops ?_
  refine wj_q _ (q_mv rfl) ?_
  refine wj_nil ?_
  refine wc_seq ?_
  refine wc_ops ?_
  refine wj_q _ (q_ld rfl (.there (.there .here)) rfl) ?_
  refine wj_e (ef_al fun b7 hb7 => ?_)
  refine wj_e (ef_st rfl rfl rfl rfl rfl .here ?_)
  refine wj_nil ?_
  refine wc_seq ?_
  refine wc_seq ?_
  refine wc_ops ?_
  refine wj_q _ (q_fa rfl) ?_
  refine wj_q _ (q_ld1 rfl (.there (.there .here)) rfl) ?_
  refine wj_nil ?_
  refine wc_block ?_
  refine wc_seq ?_
  refine wc_ops ?_
  refine wj_q _ (q_bin rfl rfl rfl) ?_
  refine wj_q _ (q_mv rfl) ?_
  refine wj_nil ?_
  refine wc_if rfl (fun h1 => ?_) (fun h1 => ?_)
  · refine wc_ops ?_
    refine wj_q _ (q_ld rfl (.there (.there (.there .here))) rfl) ?_
    refine wj_q _ (q_fa rfl) ?_
    refine wj_q _ (q_ld1 rfl (.there (.there .here)) rfl) ?_
    refine wj_q _ (q_fa rfl) ?_
    refine wj_q _ (q_ld1 rfl (.there (.there .here)) rfl) ?_
    refine wj_q _ (q_fa rfl) ?_
    refine wj_q _ (q_ld1 rfl (.there (.there .here)) rfl) ?_
    refine wj_q _ (q_call rfl (fun w hw => post_spec _ _ _ _ w (hs.below hw.now))) ?_
    refine wj_q _ (q_mv rfl) ?_
    refine wj_q _ (q_ext rfl rfl) ?_
    refine wj_q _ (q_ext rfl rfl) ?_
    refine wj_e (ef_st rfl rfl rfl rfl rfl .here ?_)
    refine wj_q _ (q_mv rfl) ?_
    refine wj_nil ?_
    refine wc_seq ?_
    refine wc_ops ?_
    refine wj_q _ (q_ld rfl .here rfl) ?_
    refine wj_q _ (q_mv rfl) ?_
    refine wj_e (ef_st rfl rfl rfl rfl rfl (.there .here) ?_)
    refine wj_q _ (q_mv rfl) ?_
    refine wj_nil ?_
    refine wc_ret ?_
    refine ⟨_, (.cons (.agg rfl (.there .here) rfl) (.cons (.tmp rfl) .nil)), ?_⟩
    unfold mineV
    rw [ite_t (show (o.kind == 1) = true from h1)]
    rfl
  · refine wc_seq ?_
    refine wc_ops ?_
    refine wj_q _ (q_bin rfl rfl rfl) ?_
    refine wj_q _ (q_mv rfl) ?_
    refine wj_nil ?_
    refine wc_if rfl (fun h2 => ?_) (fun h2 => ?_)
    · refine wc_ops ?_
      refine wj_q _ (q_ld rfl (.there (.there (.there .here))) rfl) ?_
      refine wj_q _ (q_fa rfl) ?_
      refine wj_q _ (q_ld1 rfl (.there (.there .here)) rfl) ?_
      refine wj_q _ (q_fa rfl) ?_
      refine wj_q _ (q_ld1 rfl (.there (.there .here)) rfl) ?_
      refine wj_q _ (q_call rfl (fun w hw => sell_spec _ _ _ w (hs.below hw.now))) ?_
      refine wj_q _ (q_mv rfl) ?_
      refine wj_q _ (q_ext rfl rfl) ?_
      refine wj_q _ (q_ext rfl rfl) ?_
      refine wj_e (ef_st rfl rfl rfl rfl rfl .here ?_)
      refine wj_q _ (q_mv rfl) ?_
      refine wj_nil ?_
      refine wc_seq ?_
      refine wc_ops ?_
      refine wj_q _ (q_ld rfl .here rfl) ?_
      refine wj_q _ (q_mv rfl) ?_
      refine wj_e (ef_st rfl rfl rfl rfl rfl (.there .here) ?_)
      refine wj_q _ (q_mv rfl) ?_
      refine wj_nil ?_
      refine wc_ret ?_
      refine ⟨_, (.cons (.agg rfl (.there .here) rfl) (.cons (.tmp rfl) .nil)), ?_⟩
      unfold mineV
      rw [ite_f (show (o.kind == 1) = false from h1), ite_t (show (o.kind == 2) = true from h2)]
      rfl
    · refine wc_seq ?_
      refine wc_ops ?_
      refine wj_q _ (q_bin rfl rfl rfl) ?_
      refine wj_q _ (q_mv rfl) ?_
      refine wj_nil ?_
      refine wc_if rfl (fun h3 => ?_) (fun h3 => ?_)
      · refine wc_ops ?_
        refine wj_q _ (q_ld rfl (.there (.there (.there .here))) rfl) ?_
        refine wj_q _ (q_fa rfl) ?_
        refine wj_q _ (q_ld1 rfl (.there (.there .here)) rfl) ?_
        refine wj_q _ (q_fa rfl) ?_
        refine wj_q _ (q_ld1 rfl (.there (.there .here)) rfl) ?_
        refine wj_q _ (q_fa rfl) ?_
        refine wj_q _ (q_ld1 rfl (.there (.there .here)) rfl) ?_
        refine wj_q _ (q_call rfl (fun w hw => refund_spec _ _ _ _ w (hs.below hw.now))) ?_
        refine wj_q _ (q_mv rfl) ?_
        refine wj_q _ (q_ext rfl rfl) ?_
        refine wj_q _ (q_ext rfl rfl) ?_
        refine wj_e (ef_st rfl rfl rfl rfl rfl .here ?_)
        refine wj_q _ (q_mv rfl) ?_
        refine wj_nil ?_
        refine wc_seq ?_
        refine wc_ops ?_
        refine wj_q _ (q_ld rfl .here rfl) ?_
        refine wj_q _ (q_mv rfl) ?_
        refine wj_e (ef_st rfl rfl rfl rfl rfl (.there .here) ?_)
        refine wj_q _ (q_mv rfl) ?_
        refine wj_nil ?_
        refine wc_ret ?_
        refine ⟨_, (.cons (.agg rfl (.there .here) rfl) (.cons (.tmp rfl) .nil)), ?_⟩
        unfold mineV
        rw [ite_f (show (o.kind == 1) = false from h1), ite_f (show (o.kind == 2) = false from h2), ite_t (show (o.kind == 3) = true from h3)]
        rfl
      · refine wc_seq ?_
        refine wc_ops ?_
        refine wj_q _ (q_bin rfl rfl rfl) ?_
        refine wj_q _ (q_mv rfl) ?_
        refine wj_nil ?_
        refine wc_if rfl (fun h4 => ?_) (fun h4 => ?_)
        · refine wc_ops ?_
          refine wj_q _ (q_ld rfl (.there (.there (.there .here))) rfl) ?_
          refine wj_q _ (q_fa rfl) ?_
          refine wj_q _ (q_ld1 rfl (.there (.there .here)) rfl) ?_
          refine wj_q _ (q_fa rfl) ?_
          refine wj_q _ (q_ld1 rfl (.there (.there .here)) rfl) ?_
          refine wj_q _ (q_call rfl (fun w hw => retire_spec _ _ _ w (hs.below hw.now))) ?_
          refine wj_q _ (q_mv rfl) ?_
          refine wj_q _ (q_ext rfl rfl) ?_
          refine wj_q _ (q_ext rfl rfl) ?_
          refine wj_e (ef_st rfl rfl rfl rfl rfl .here ?_)
          refine wj_q _ (q_mv rfl) ?_
          refine wj_nil ?_
          refine wc_seq ?_
          refine wc_ops ?_
          refine wj_q _ (q_ld rfl .here rfl) ?_
          refine wj_q _ (q_mv rfl) ?_
          refine wj_e (ef_st rfl rfl rfl rfl rfl (.there .here) ?_)
          refine wj_q _ (q_mv rfl) ?_
          refine wj_nil ?_
          refine wc_ret ?_
          refine ⟨_, (.cons (.agg rfl (.there .here) rfl) (.cons (.tmp rfl) .nil)), ?_⟩
          unfold mineV
          rw [ite_f (show (o.kind == 1) = false from h1), ite_f (show (o.kind == 2) = false from h2), ite_f (show (o.kind == 3) = false from h3), ite_t (show (o.kind == 4) = true from h4)]
          rfl
        · refine wc_skip ?_
          refine wc_seq ?_
          refine wc_ops ?_
          refine wj_q _ (q_ld rfl .here rfl) ?_
          refine wj_q _ (q_mv rfl) ?_
          refine wj_e (ef_st rfl rfl rfl rfl rfl (.there .here) ?_)
          refine wj_q _ (q_mv rfl) ?_
          refine wj_nil ?_
          refine wc_ret ?_
          refine ⟨_, (.cons (.agg rfl (.there .here) rfl) (.cons (.tmp rfl) .nil)), ?_⟩
          unfold mineV
          rw [ite_f (show (o.kind == 1) = false from h1), ite_f (show (o.kind == 2) = false from h2), ite_f (show (o.kind == 3) = false from h3), ite_f (show (o.kind == 4) = false from h4)]
          rfl

def intoOut (x lo hi : Int) : Bool := decide (x < lo) || decide (x > hi)
def intoM (x lo hi : Int) : Int := x.tmod (w64 (w64 (hi - lo) + 1))
def intoV (x lo hi : Int) : Int := if intoOut x lo hi = true then (if decide (intoM x lo hi < 0) = true then w64 (lo + w64 (0 - intoM x lo hi)) else w64 (lo + intoM x lo hi)) else x
theorem into_spec (x lo hi : Int) (w : World) (hne : w64 (w64 (hi - lo) + 1) ≠ 0) : Calls Tryd.prog 17 [.int .i64 x, .int .i64 lo, .int .i64 hi].toArray w (ret1 w (.int .i64 (intoV x lo hi))) := by
  refine calls_val mo ok17 rfl ?_
  refine wc_seq ?_
  refine wc_ops ?_
  refine wj_q _ (q_mv rfl) ?_
  refine wj_nil ?_
  refine wc_seq ?_
  refine wc_seq ?_
  refine wc_ops ?_
  refine wj_q _ (q_mv rfl) ?_
  refine wj_q _ (q_mv rfl) ?_
  refine wj_q _ (q_bin rfl rfl rfl) ?_
  refine wj_q _ (q_mv rfl) ?_
  refine wj_or rfl rfl rfl (fun hg1 => qj_g rfl _ (q_mv rfl) (qj_g rfl _ (q_mv rfl) (qj_g rfl _ (q_bin rfl rfl rfl) (qj_nil)))) (fun hg1 => rfl) rfl ?_
  refine wj_nil ?_
  refine wc_if rfl (fun h1 => ?_) (fun h1 => ?_)
  · refine wc_seq ?_
    refine wc_ops ?_
    refine wj_q _ (q_mv rfl) ?_
    refine wj_q _ (q_mv rfl) ?_
    refine wj_q _ (q_mv rfl) ?_
    refine wj_q _ (q_bin rfl rfl rfl) ?_
    refine wj_q _ (q_bin rfl rfl rfl) ?_
    refine wj_q _ (q_rem rfl rfl hne) ?_
    refine wj_q _ (q_mv rfl) ?_
    refine wj_nil ?_
    refine wc_seq ?_
    refine wc_seq ?_
    refine wc_ops ?_
    refine wj_q _ (q_mv rfl) ?_
    refine wj_q _ (q_bin rfl rfl rfl) ?_
    refine wj_nil ?_
    refine wc_if rfl (fun h2 => ?_) (fun h2 => ?_)
    · refine wc_ops ?_
      refine wj_q _ (q_mv rfl) ?_
      refine wj_q _ (q_un rfl rfl) ?_
      refine wj_q _ (q_mv rfl) ?_
      refine wj_nil ?_
      refine wc_seq ?_
      refine wc_ops ?_
      refine wj_q _ (q_mv rfl) ?_
      refine wj_q _ (q_mv rfl) ?_
      refine wj_q _ (q_bin rfl rfl rfl) ?_
      refine wj_q _ (q_mv rfl) ?_
      refine wj_nil ?_
      refine wc_ret ?_
      refine ⟨_, (.cons (.tmp rfl) .nil), ?_⟩
      unfold intoV
      rw [ite_t (show (intoOut x lo hi) = true from h1), ite_t (show (decide (intoM x lo hi < 0)) = true from h2)]
      rfl
    · refine wc_skip ?_
      refine wc_seq ?_
      refine wc_ops ?_
      refine wj_q _ (q_mv rfl) ?_
      refine wj_q _ (q_mv rfl) ?_
      refine wj_q _ (q_bin rfl rfl rfl) ?_
      refine wj_q _ (q_mv rfl) ?_
      refine wj_nil ?_
      refine wc_ret ?_
      refine ⟨_, (.cons (.tmp rfl) .nil), ?_⟩
      unfold intoV
      rw [ite_t (show (intoOut x lo hi) = true from h1), ite_f (show (decide (intoM x lo hi < 0)) = false from h2)]
      rfl
  · refine wc_skip ?_
    refine wc_seq ?_
    refine wc_ops ?_
    refine wj_q _ (q_mv rfl) ?_
    refine wj_q _ (q_mv rfl) ?_
    refine wj_nil ?_
    refine wc_ret ?_
    refine ⟨_, (.cons (.tmp rfl) .nil), ?_⟩
    unfold intoV
    rw [ite_f (show (intoOut x lo hi) = false from h1)]
    rfl
theorem cost_spec (r p : Int) (w : World) : Calls Tryd.prog 10 [.int .i64 r, .int .i64 p].toArray w (ret1 w (.int .i64 (w64 (r * p)))) := by
  refine calls_val mo ok10 rfl ?_
  refine wc_seq ?_
  refine wc_ops ?_
  refine wj_q _ (q_mv rfl) ?_
  refine wj_nil ?_
  refine wc_seq ?_
  refine wc_ops ?_
  refine wj_q _ (q_mv rfl) ?_
  refine wj_q _ (q_mv rfl) ?_
  refine wj_q _ (q_bin rfl rfl rfl) ?_
  refine wj_q _ (q_mv rfl) ?_
  refine wj_nil ?_
  refine wc_ret ?_
  refine ⟨_, (.cons (.tmp rfl) .nil), ?_⟩
  rfl

structure LSale where
  rides : Int
  price : Int
  back : Int
  fin : Int
  at_ : Int
abbrev saleS (s : LSale) : List Seg := [.one (.int .i64 s.rides), .one (.int .i64 s.price), .one (.int .i64 s.back), .one (.int .i64 s.fin), .one (.int .i64 s.at_)]
def properV (s : LSale) (i most : Int) : LSale := ⟨intoV s.rides 1 4096, intoV s.price 0 1000000000, intoV s.back 0 (intoV s.rides 1 4096), s.fin, intoV s.at_ i most⟩
theorem proper_spec (s : LSale) (i most : Int) (w : World) (h1 : w64 (w64 (intoV s.rides 1 4096 - 0) + 1) ≠ 0) (h2 : w64 (w64 (most - i) + 1) ≠ 0) : Calls Tryd.prog 8 [agg (saleS s), .int .i64 i, .int .i64 most].toArray w (ret1 w (agg (saleS (properV s i most)))) := by
  refine calls_val mo ok8 rfl ?_
  refine wc_seq ?_
  refine wc_ops ?_
  refine wj_e (ef_bx rfl fun b3 hb3 => ?_)
  refine wj_e (ef_al fun b6 hb6 => ?_)
  refine wj_nil ?_
  refine wc_seq ?_
  refine wc_ops ?_
  refine wj_q _ (q_fa rfl) ?_
  refine wj_q _ (q_ld1 rfl (.there .here) rfl) ?_
  refine wj_q _ (q_call rfl (fun w hw => into_spec _ _ _ w (by decide))) ?_
  refine wj_q _ (q_fa rfl) ?_
  refine wj_e (ef_st1 rfl rfl rfl rfl (.there .here) ?_)
  refine wj_nil ?_
  refine wc_seq ?_
  refine wc_ops ?_
  refine wj_q _ (q_fa rfl) ?_
  refine wj_q _ (q_ld1 rfl (.there .here) rfl) ?_
  refine wj_q _ (q_call rfl (fun w hw => into_spec _ _ _ w (by decide))) ?_
  refine wj_q _ (q_fa rfl) ?_
  refine wj_e (ef_st1 rfl rfl rfl rfl (.there .here) ?_)
  refine wj_nil ?_
  refine wc_seq ?_
  refine wc_ops ?_
  refine wj_q _ (q_fa rfl) ?_
  refine wj_q _ (q_ld1 rfl (.there .here) rfl) ?_
  refine wj_q _ (q_fa rfl) ?_
  refine wj_q _ (q_ld1 rfl (.there .here) rfl) ?_
  refine wj_q _ (q_call rfl (fun w hw => into_spec _ _ _ w h1)) ?_
  refine wj_q _ (q_fa rfl) ?_
  refine wj_e (ef_st1 rfl rfl rfl rfl (.there .here) ?_)
  refine wj_nil ?_
  refine wc_seq ?_
  refine wc_ops ?_
  refine wj_q _ (q_fa rfl) ?_
  refine wj_q _ (q_ld1 rfl (.there .here) rfl) ?_
  refine wj_q _ (q_mv rfl) ?_
  refine wj_q _ (q_mv rfl) ?_
  refine wj_q _ (q_call rfl (fun w hw => into_spec _ _ _ w h2)) ?_
  refine wj_q _ (q_fa rfl) ?_
  refine wj_e (ef_st1 rfl rfl rfl rfl (.there .here) ?_)
  refine wj_nil ?_
  refine wc_seq ?_
  refine wc_ops ?_
  refine wj_q _ (q_ld rfl (.there .here) rfl) ?_
  refine wj_e (ef_st rfl rfl rfl rfl rfl .here ?_)
  refine wj_nil ?_
  refine wc_ret ?_
  refine ⟨_, (.cons (.agg rfl .here rfl) .nil), ?_⟩
  rfl

def levB (cash earned : Int) : List Int := [cash, w64 (earned - cash), w64 (0 - earned)]
def levOut (cash earned : Int) : Bool := decide (cash < 0) || decide (earned < 0) || decide (earned > cash)
def levArg (o : LOp) : Bool := (o.kind == 1) && (decide (o.debit < 0) || decide (o.debit > 2) || decide (o.credit < 0) || decide (o.credit > 2) || (o.debit == o.credit))
def levMove (b c : List Int) (o : LOp) : Bool := (o.kind == 1) && ((w64 (c.getD o.debit.toNat 0 - b.getD o.debit.toNat 0) != o.amount) || (w64 (b.getD o.credit.toNat 0 - c.getD o.credit.toNat 0) != o.amount) ||
  (c.getD (w64 (w64 (3 - o.debit) - o.credit)).toNat 0 != b.getD (w64 (w64 (3 - o.debit) - o.credit)).toNat 0))
def listEq (a b : List Int) : Bool := decide ((a.getD 0 0, a.getD 1 0, a.getD 2 0) = (b.getD 0 0, b.getD 1 0, b.getD 2 0))
theorem listEq_cells (a b : List Int) : listEq a b = true ↔ cells (bookS a) = cells (bookS b) := by
  simp [listEq, cells, Seg.cells, intsCells, List.range_succ]
def levV (cash earned : Int) (o : LOp) : Bool :=
  if levOut cash earned = true then evenV [0, 0, 0]
  else if (!evenV (levB cash earned)) = true then false
  else if ((mineV (levB cash earned) o).2 != 0) = true then listEq (mineV (levB cash earned) o).1 (levB cash earned)
  else if levArg o = true then false
  else if levMove (levB cash earned) (mineV (levB cash earned) o).1 o = true then false
  else evenV (mineV (levB cash earned) o).1
theorem levIdx {o : LOp} (h : levArg o = false) (hk : (o.kind == 1) = true) : (0 ≤ o.debit ∧ o.debit < 3) ∧ (0 ≤ o.credit ∧ o.credit < 3) ∧ (0 ≤ w64 (w64 (3 - o.debit) - o.credit) ∧ w64 (w64 (3 - o.debit) - o.credit) < 3) := by
  simp only [levArg, hk, Bool.true_and, Bool.or_eq_false_iff, decide_eq_false_iff_not, beq_eq_false_iff_ne] at h
  have e1 : w64 (3 - o.debit) = 3 - o.debit := w64_small (by omega) (by omega)
  rw [e1, w64_small (by omega) (by omega)]
  omega
theorem lev_spec (cash earned : Int) (o : LOp) (w : World) (hs : SideAt w) : Calls Tryd.prog 3 [.int .i64 cash, .int .i64 earned, agg (opS o)].toArray w (ret1 w (.bool (levV cash earned o))) := by
  refine calls_val mo ok3 rfl ?_
  refine wc_seq ?_
  refine wc_ops ?_
  refine wj_e (ef_bx rfl fun b5 hb5 => ?_)
  refine wj_q _ (q_mv rfl) ?_
  refine wj_nil ?_
  refine wc_seq ?_
  refine wc_seq ?_
  refine wc_ops ?_
  refine wj_q _ (q_mv rfl) ?_
  refine wj_q _ (q_bin rfl rfl rfl) ?_
  refine wj_q _ (q_mv rfl) ?_
  refine wj_or rfl rfl rfl (fun hg1 => qj_g rfl _ (q_mv rfl) (qj_g rfl _ (q_bin rfl rfl rfl) (qj_nil))) (fun hg1 => rfl) rfl ?_
  refine wj_q _ (q_mv rfl) ?_
  refine wj_or rfl rfl rfl (fun hg1 => qj_g rfl _ (q_mv rfl) (qj_g rfl _ (q_mv rfl) (qj_g rfl _ (q_bin rfl rfl rfl) (qj_nil)))) (fun hg1 => rfl) rfl ?_
  refine wj_nil ?_
  refine wc_if rfl (fun h1 => ?_) (fun h1 => ?_)
  · refine wc_seq ?_
    refine wc_ops ?_
    refine wj_q _ (q_bd BdR.nil) ?_
    refine wj_q _ (q_call rfl (fun w hw => even_spec _ w (hs.below hw.now))) ?_
    refine wj_q _ (q_mv rfl) ?_
    refine wj_nil ?_
    refine wc_ret ?_
    refine ⟨_, (.cons (.tmp rfl) .nil), ?_⟩
    unfold levV
    rw [ite_t (show (levOut cash earned) = true from h1)]
    rfl
  · refine wc_skip ?_
    refine wc_seq ?_
    refine wc_ops ?_
    refine wj_q _ (q_mv rfl) ?_
    refine wj_q _ (q_mv rfl) ?_
    refine wj_q _ (q_mv rfl) ?_
    refine wj_q _ (q_bin rfl rfl rfl) ?_
    refine wj_q _ (q_mv rfl) ?_
    refine wj_q _ (q_un rfl rfl) ?_
    refine wj_q _ (q_bd (.one rfl rfl rfl (.one rfl rfl rfl (.one rfl rfl rfl BdR.nil)))) ?_
    refine wj_q _ (q_bd (.agg rfl rfl rfl BdR.nil)) ?_
    refine wj_e (ef_al fun b7 hb7 => ?_)
    refine wj_e (ef_st rfl rfl rfl rfl rfl .here ?_)
    refine wj_nil ?_
    refine wc_seq ?_
    refine wc_seq ?_
    refine wc_ops ?_
    refine wj_q _ (q_ld rfl .here rfl) ?_
    refine wj_q _ (q_call rfl (fun w hw => even_spec _ w (hs.below hw.now))) ?_
    refine wj_q _ (q_un rfl rfl) ?_
    refine wj_nil ?_
    refine wc_if rfl (fun h2 => ?_) (fun h2 => ?_)
    · refine wc_seq ?_
      refine wc_ops ?_
      refine wj_q _ (q_mv rfl) ?_
      refine wj_nil ?_
      refine wc_ret ?_
      refine ⟨_, (.cons (.tmp rfl) .nil), ?_⟩
      unfold levV
      rw [ite_f (show (levOut cash earned) = false from h1), ite_t (show (!evenV (levB cash earned)) = true from h2)]
      rfl
    · refine wc_skip ?_
      refine wc_seq ?_
      refine wc_ops ?_
      refine wj_q _ (q_ld rfl .here rfl) ?_
      refine wj_q _ (q_ld rfl (.there .here) rfl) ?_
      refine wj_q _ (q_call rfl (fun w hw => mine_spec _ _ w (hs.below hw.now))) ?_
      refine wj_q _ (q_mv rfl) ?_
      refine wj_q _ (q_ext rfl rfl) ?_
      refine wj_q _ (q_ext rfl rfl) ?_
      refine wj_e (ef_al fun b8 hb8 => ?_)
      refine wj_e (ef_st rfl rfl rfl rfl rfl .here ?_)
      refine wj_q _ (q_mv rfl) ?_
      refine wj_nil ?_
      refine wc_seq ?_
      refine wc_seq ?_
      refine wc_ops ?_
      refine wj_q _ (q_mv rfl) ?_
      refine wj_q _ (q_bin rfl rfl rfl) ?_
      refine wj_nil ?_
      refine wc_if rfl (fun h3 => ?_) (fun h3 => ?_)
      · refine wc_seq ?_
        refine wc_ops ?_
        refine wj_q _ (q_ld rfl .here rfl) ?_
        refine wj_q _ (q_ld rfl (.there .here) rfl) ?_
        refine wj_q _ (q_eqa rfl rfl rfl rfl _ (listEq_cells _ _)) ?_
        refine wj_q _ (q_mv rfl) ?_
        refine wj_nil ?_
        refine wc_ret ?_
        refine ⟨_, (.cons (.tmp rfl) .nil), ?_⟩
        unfold levV
        rw [ite_f (show (levOut cash earned) = false from h1), ite_f (show (!evenV (levB cash earned)) = false from h2), ite_t (show ((mineV (levB cash earned) o).2 != 0) = true from h3)]
        rfl
      · refine wc_skip ?_
        refine wc_seq ?_
        refine wc_seq ?_
        refine wc_ops ?_
        refine wj_q _ (q_fa rfl) ?_
        refine wj_q _ (q_ld1 rfl (.there (.there .here)) rfl) ?_
        refine wj_q _ (q_bin rfl rfl rfl) ?_
        refine wj_q _ (q_mv rfl) ?_
        refine wj_and rfl rfl rfl (fun hg1 => qj_g rfl _ (q_fa rfl) (qj_g rfl _ (q_ld1 rfl (.there (.there .here)) rfl) (qj_g rfl _ (q_bin rfl rfl rfl) (qj_g rfl _ (q_mv rfl) (qj_or rfl (fun _ h => by cases h; rfl) rfl rfl (fun hg2 => qj_g rfl _ (q_fa rfl) (qj_g rfl _ (q_ld1 rfl (.there (.there .here)) rfl) (qj_g rfl _ (q_bin rfl rfl rfl) (qj_nil)))) (fun hg2 => rfl) rfl (qj_g rfl _ (q_mv rfl) (qj_or rfl (fun _ h => by cases h; rfl) rfl rfl (fun hg2 => qj_g rfl _ (q_fa rfl) (qj_g rfl _ (q_ld1 rfl (.there (.there .here)) rfl) (qj_g rfl _ (q_bin rfl rfl rfl) (qj_nil)))) (fun hg2 => rfl) rfl (qj_g rfl _ (q_mv rfl) (qj_or rfl (fun _ h => by cases h; rfl) rfl rfl (fun hg2 => qj_g rfl _ (q_fa rfl) (qj_g rfl _ (q_ld1 rfl (.there (.there .here)) rfl) (qj_g rfl _ (q_bin rfl rfl rfl) (qj_nil)))) (fun hg2 => rfl) rfl (qj_g rfl _ (q_mv rfl) (qj_or rfl (fun _ h => by cases h; rfl) rfl rfl (fun hg2 => qj_g rfl _ (q_fa rfl) (qj_g rfl _ (q_ld1 rfl (.there (.there .here)) rfl) (qj_g rfl _ (q_fa rfl) (qj_g rfl _ (q_ld1 rfl (.there (.there .here)) rfl) (qj_g rfl _ (q_bin rfl rfl rfl) (qj_nil)))))) (fun hg2 => rfl) rfl (qj_nil)))))))))))) (fun hg1 => rfl) rfl ?_
        refine wj_nil ?_
        refine wc_if rfl (fun h4 => ?_) (fun h4 => ?_)
        · refine wc_seq ?_
          refine wc_ops ?_
          refine wj_q _ (q_mv rfl) ?_
          refine wj_nil ?_
          refine wc_ret ?_
          refine ⟨_, (.cons (.tmp rfl) .nil), ?_⟩
          unfold levV
          rw [ite_f (show (levOut cash earned) = false from h1), ite_f (show (!evenV (levB cash earned)) = false from h2), ite_f (show ((mineV (levB cash earned) o).2 != 0) = false from h3), ite_t (show (levArg o) = true from h4)]
          rfl
        · refine wc_skip ?_
          refine wc_seq ?_
          refine wc_seq ?_
          refine wc_draw ?_
          refine ws_q1 _ (q_fa rfl) ?_
          refine ws_q1 _ (q_ld1 rfl (.there (.there .here)) rfl) ?_
          refine ws_q1 _ (q_bin rfl rfl rfl) ?_
          refine ws_q1 _ (q_mv rfl) ?_
          refine ws_and rfl rfl rfl (fun hg1 => qj_g rfl _ (q_fa rfl) (qj_g rfl _ (q_ld1 rfl (.there (.there .here)) rfl) (qj_g rfl _ (q_fa rfl) (qj_g rfl _ (q_ia rfl rfl (by have := levIdx h4 hg1; dsimp only [w64] at this; omega)) (qj_g rfl _ (q_ldi rfl .here rfl (by have := levIdx h4 hg1; dsimp only [w64] at this; omega)) (qj_g rfl _ (q_fa rfl) (qj_g rfl _ (q_ld1 rfl (.there (.there .here)) rfl) (qj_g rfl _ (q_fa rfl) (qj_g rfl _ (q_ia rfl rfl (by have := levIdx h4 hg1; dsimp only [w64] at this; omega)) (qj_g rfl _ (q_ldi rfl (.there .here) rfl (by have := levIdx h4 hg1; dsimp only [w64] at this; omega)) (qj_g rfl _ (q_bin rfl rfl rfl) (qj_g rfl _ (q_fa rfl) (qj_g rfl _ (q_ld1 rfl (.there (.there .here)) rfl) (qj_g rfl _ (q_bin rfl rfl rfl) (qj_g rfl _ (q_mv rfl) (qj_or rfl (fun _ h => by cases h; rfl) rfl rfl (fun hg2 => qj_g rfl _ (q_fa rfl) (qj_g rfl _ (q_ld1 rfl (.there (.there .here)) rfl) (qj_g rfl _ (q_fa rfl) (qj_g rfl _ (q_ia rfl rfl (by have := levIdx h4 hg1; dsimp only [w64] at this; omega)) (qj_g rfl _ (q_ldi rfl (.there .here) rfl (by have := levIdx h4 hg1; dsimp only [w64] at this; omega)) (qj_g rfl _ (q_fa rfl) (qj_g rfl _ (q_ld1 rfl (.there (.there .here)) rfl) (qj_g rfl _ (q_fa rfl) (qj_g rfl _ (q_ia rfl rfl (by have := levIdx h4 hg1; dsimp only [w64] at this; omega)) (qj_g rfl _ (q_ldi rfl .here rfl (by have := levIdx h4 hg1; dsimp only [w64] at this; omega)) (qj_g rfl _ (q_bin rfl rfl rfl) (qj_g rfl _ (q_fa rfl) (qj_g rfl _ (q_ld1 rfl (.there (.there .here)) rfl) (qj_g rfl _ (q_bin rfl rfl rfl) (qj_nil))))))))))))))) (fun hg2 => rfl) rfl (qj_g rfl _ (q_mv rfl) (qj_or rfl (fun _ h => by cases h; rfl) rfl rfl (fun hg2 => qj_g rfl _ (q_fa rfl) (qj_g rfl _ (q_ld1 rfl (.there (.there .here)) rfl) (qj_g rfl _ (q_bin rfl rfl rfl) (qj_g rfl _ (q_fa rfl) (qj_g rfl _ (q_ld1 rfl (.there (.there .here)) rfl) (qj_g rfl _ (q_bin rfl rfl rfl) (qj_g rfl _ (q_fa rfl) (qj_g rfl _ (q_ia rfl rfl (by have := levIdx h4 hg1; dsimp only [w64] at this; omega)) (qj_g rfl _ (q_ldi rfl .here rfl (by have := levIdx h4 hg1; dsimp only [w64] at this; omega)) (qj_g rfl _ (q_fa rfl) (qj_g rfl _ (q_ld1 rfl (.there (.there .here)) rfl) (qj_g rfl _ (q_bin rfl rfl rfl) (qj_g rfl _ (q_fa rfl) (qj_g rfl _ (q_ld1 rfl (.there (.there .here)) rfl) (qj_g rfl _ (q_bin rfl rfl rfl) (qj_g rfl _ (q_fa rfl) (qj_g rfl _ (q_ia rfl rfl (by have := levIdx h4 hg1; dsimp only [w64] at this; omega)) (qj_g rfl _ (q_ldi rfl (.there .here) rfl (by have := levIdx h4 hg1; dsimp only [w64] at this; omega)) (qj_g rfl _ (q_bin rfl rfl rfl) (qj_nil)))))))))))))))))))) (fun hg2 => rfl) rfl (qj_nil))))))))))))))))))) (fun hg1 => rfl) rfl ?_
          refine ws_nil ?_
          refine wc_if rfl (fun h5 => ?_) (fun h5 => ?_)
          · refine wc_seq ?_
            refine wc_ops ?_
            refine wj_q _ (q_mv rfl) ?_
            refine wj_nil ?_
            refine wc_ret ?_
            refine ⟨_, (.cons (.tmp rfl) .nil), ?_⟩
            unfold levV
            rw [ite_f (show (levOut cash earned) = false from h1), ite_f (show (!evenV (levB cash earned)) = false from h2), ite_f (show ((mineV (levB cash earned) o).2 != 0) = false from h3), ite_f (show (levArg o) = false from h4), ite_t (show (levMove (levB cash earned) (mineV (levB cash earned) o).1 o) = true from h5)]
            rfl
          · refine wc_skip ?_
            refine wc_seq ?_
            refine wc_ops ?_
            refine wj_q _ (q_ld rfl .here rfl) ?_
            refine wj_q _ (q_call rfl (fun w hw => even_spec _ w (hs.below hw.now))) ?_
            refine wj_q _ (q_mv rfl) ?_
            refine wj_nil ?_
            refine wc_ret ?_
            refine ⟨_, (.cons (.tmp rfl) .nil), ?_⟩
            unfold levV
            rw [ite_f (show (levOut cash earned) = false from h1), ite_f (show (!evenV (levB cash earned)) = false from h2), ite_f (show ((mineV (levB cash earned) o).2 != 0) = false from h3), ite_f (show (levArg o) = false from h4), ite_f (show (levMove (levB cash earned) (mineV (levB cash earned) o).1 o) = false from h5)]
            rfl
end Go.Proofs.YtdelljcdaepgiaaDoor
