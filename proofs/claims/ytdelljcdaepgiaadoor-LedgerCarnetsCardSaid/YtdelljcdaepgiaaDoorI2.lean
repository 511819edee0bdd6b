/- Contracts of the ledger of the program. -/
import Derived.Test.YtdelljcdaepgiaaDoorI1
import Derived.IntWalk
namespace Go.Proofs.YtdelljcdaepgiaaDoor
open Go Go.Sx Go.RowKit
set_option linter.all false
theorem mo : Tryd.prog.follows .mixedOrders = true := by kernel_rfl
abbrev w64 (x : Int) : Int := IntKind.i64.wrap x
theorem w64_small {x : Int} (h1 : -9223372036854775808 ≤ x) (h2 : x < 9223372036854775808) : w64 x = x := by
  rw [w64, IntKind.wrap_i64]
  omega
abbrev bookS (b : List Int) : List Seg := [.ints .i64 3 b]
def sideT : List Int := [1, -1, -1]
abbrev SideAt (w : World) : Prop := Mem w 0 0 [.ints .i64 3 sideT]

def isAcc (a : Int) : Bool := decide (a ≥ 0) && decide (a < 3)
theorem is_spec (a : Int) (w : World) : Calls Tryd.prog 19 [.int .i64 a].toArray w (ret1 w (.bool (isAcc a))) := by
  refine calls_val mo ok19 rfl ?_
  refine wc_seq ?_
  refine wc_ops ?_
  refine wj_q _ (q_mv rfl) ?_
  refine wj_nil ?_
  refine wc_seq ?_
  refine wc_ops ?_
  refine wj_q _ (q_mv rfl) ?_
  refine wj_q _ (q_bin rfl rfl rfl) ?_
  refine wj_q _ (q_mv rfl) ?_
  refine wj_and rfl rfl rfl (fun hg1 => qj_g rfl _ (q_mv rfl) (qj_g rfl _ (q_bin rfl rfl rfl) (qj_nil))) (fun hg1 => rfl) rfl ?_
  refine wj_q _ (q_mv rfl) ?_
  refine wj_nil ?_
  refine wc_ret ?_
  refine ⟨_, (.cons (.tmp rfl) .nil), ?_⟩
  rfl

def lsumBad (n a : Int) : Bool := (decide (a > 0) && decide (w64 (n + a) < n)) || (decide (a < 0) && decide (w64 (n + a) > n)) || (w64 (n + a) == -9223372036854775808)
def lsumV (n a : Int) : Int × Bool := if lsumBad n a = true then (0, false) else (w64 (n + a), true)
theorem sum_spec (n a : Int) (w : World) : Calls Tryd.prog 26 [.int .i64 n, .int .i64 a].toArray w (ret1 w (.tuple #[.int .i64 (lsumV n a).1, .bool (lsumV n a).2])) := by
  refine calls_val mo ok26 rfl ?_
  refine wc_seq ?_
  refine wc_ops ?_
  refine wj_q _ (q_mv rfl) ?_
  refine wj_q _ (q_mv rfl) ?_
  refine wj_nil ?_
  refine wc_seq ?_
  refine wc_ops ?_
  refine wj_q _ (q_mv rfl) ?_
  refine wj_q _ (q_mv rfl) ?_
  refine wj_q _ (q_bin rfl rfl rfl) ?_
  refine wj_q _ (q_mv rfl) ?_
  refine wj_nil ?_
  refine wc_seq ?_
  refine wc_seq ?_
  refine wc_ops ?_
  refine wj_q _ (q_mv rfl) ?_
  refine wj_q _ (q_bin rfl rfl rfl) ?_
  refine wj_q _ (q_mv rfl) ?_
  refine wj_and rfl rfl rfl (fun hg1 => qj_g rfl _ (q_mv rfl) (qj_g rfl _ (q_mv rfl) (qj_g rfl _ (q_bin rfl rfl rfl) (qj_nil)))) (fun hg1 => rfl) rfl ?_
  refine wj_q _ (q_mv rfl) ?_
  refine wj_or rfl rfl rfl (fun hg1 => qj_g rfl _ (q_mv rfl) (qj_g rfl _ (q_bin rfl rfl rfl) (qj_g rfl _ (q_mv rfl) (qj_and rfl (fun _ h => by cases h; rfl) rfl rfl (fun hg2 => qj_g rfl _ (q_mv rfl) (qj_g rfl _ (q_mv rfl) (qj_g rfl _ (q_bin rfl rfl rfl) (qj_nil)))) (fun hg2 => rfl) rfl (qj_nil))))) (fun hg1 => rfl) rfl ?_
  refine wj_q _ (q_mv rfl) ?_
  refine wj_or rfl rfl rfl (fun hg1 => qj_g rfl _ (q_mv rfl) (qj_g rfl _ (q_bin rfl rfl rfl) (qj_nil))) (fun hg1 => rfl) rfl ?_
  refine wj_nil ?_
  refine wc_if rfl (fun h1 => ?_) (fun h1 => ?_)
  · refine wc_seq ?_
    refine wc_ops ?_
    refine wj_q _ (q_mv rfl) ?_
    refine wj_q _ (q_mv rfl) ?_
    refine wj_nil ?_
    refine wc_ret ?_
    refine ⟨_, (.cons (.tmp rfl) (.cons (.tmp rfl) .nil)), ?_⟩
    unfold lsumV
    rw [ite_t (show (lsumBad n a) = true from h1)]
    rfl
  · refine wc_skip ?_
    refine wc_seq ?_
    refine wc_ops ?_
    refine wj_q _ (q_mv rfl) ?_
    refine wj_q _ (q_mv rfl) ?_
    refine wj_q _ (q_mv rfl) ?_
    refine wj_nil ?_
    refine wc_ret ?_
    refine ⟨_, (.cons (.tmp rfl) (.cons (.tmp rfl) .nil)), ?_⟩
    unfold lsumV
    rw [ite_f (show (lsumBad n a) = false from h1)]
    rfl

def carBad (r p : Int) : Bool := decide (r < 1) || decide (r > 4096) || decide (p < 0) || decide (p > 1000000000)
def carV (r p : Int) : Int × Bool := if carBad r p = true then (0, false) else (w64 (r * p), true)
theorem carnet_spec (r p : Int) (w : World) : Calls Tryd.prog 18 [.int .i64 r, .int .i64 p].toArray w (ret1 w (.tuple #[.int .i64 (carV r p).1, .bool (carV r p).2])) := by
  refine calls_val mo ok18 rfl ?_
  refine wc_seq ?_
  refine wc_ops ?_
  refine wj_q _ (q_mv rfl) ?_
  refine wj_q _ (q_mv rfl) ?_
  refine wj_nil ?_
  refine wc_seq ?_
  refine wc_seq ?_
  refine wc_ops ?_
  refine wj_q _ (q_mv rfl) ?_
  refine wj_q _ (q_bin rfl rfl rfl) ?_
  refine wj_q _ (q_mv rfl) ?_
  refine wj_or rfl rfl rfl (fun hg1 => qj_g rfl _ (q_mv rfl) (qj_g rfl _ (q_bin rfl rfl rfl) (qj_nil))) (fun hg1 => rfl) rfl ?_
  refine wj_q _ (q_mv rfl) ?_
  refine wj_or rfl rfl rfl (fun hg1 => qj_g rfl _ (q_mv rfl) (qj_g rfl _ (q_bin rfl rfl rfl) (qj_nil))) (fun hg1 => rfl) rfl ?_
  refine wj_q _ (q_mv rfl) ?_
  refine wj_or rfl rfl rfl (fun hg1 => qj_g rfl _ (q_mv rfl) (qj_g rfl _ (q_bin rfl rfl rfl) (qj_nil))) (fun hg1 => rfl) rfl ?_
  refine wj_nil ?_
  refine wc_if rfl (fun h1 => ?_) (fun h1 => ?_)
  · refine wc_seq ?_
    refine wc_ops ?_
    refine wj_q _ (q_mv rfl) ?_
    refine wj_q _ (q_mv rfl) ?_
    refine wj_nil ?_
    refine wc_ret ?_
    refine ⟨_, (.cons (.tmp rfl) (.cons (.tmp rfl) .nil)), ?_⟩
    unfold carV
    rw [ite_t (show (carBad r p) = true from h1)]
    rfl
  · refine wc_skip ?_
    refine wc_seq ?_
    refine wc_ops ?_
    refine wj_q _ (q_mv rfl) ?_
    refine wj_q _ (q_mv rfl) ?_
    refine wj_q _ (q_bin rfl rfl rfl) ?_
    refine wj_q _ (q_mv rfl) ?_
    refine wj_q _ (q_mv rfl) ?_
    refine wj_nil ?_
    refine wc_ret ?_
    refine ⟨_, (.cons (.tmp rfl) (.cons (.tmp rfl) .nil)), ?_⟩
    unfold carV
    rw [ite_f (show (carBad r p) = false from h1)]
    rfl

def postBad (d c m : Int) : Bool := !isAcc d || !isAcc c || (d == c) || decide (m < 0)
def postOut (b : List Int) (d c m : Int) : List Int := setD (setD b d.toNat (lsumV (b.getD d.toNat 0) m).1) c.toNat (lsumV (b.getD c.toNat 0) (w64 (0 - m))).1
def postMiss (b : List Int) (d c m : Int) : Bool := !(lsumV (b.getD d.toNat 0) m).2 || !(lsumV (b.getD c.toNat 0) (w64 (0 - m))).2
def postWrong (b : List Int) (d c m : Int) : Bool := decide (w64 (sideT.getD d.toNat 0 * (postOut b d c m).getD d.toNat 0) < 0) || decide (w64 (sideT.getD c.toNat 0 * (postOut b d c m).getD c.toNat 0) < 0)
def postV (b : List Int) (d c m : Int) : List Int × Int :=
  if postBad d c m = true then (b, 2) else if postMiss b d c m = true then (b, 3) else if postWrong b d c m = true then (b, 220) else (postOut b d c m, 0)
theorem postArgs {d c m : Int} (h : postBad d c m = false) : (0 ≤ d ∧ d < 3) ∧ (0 ≤ c ∧ c < 3) ∧ d ≠ c ∧ 0 ≤ m := by
  simp [postBad, isAcc] at h
  omega
theorem post_spec (b : List Int) (d c m : Int) (w : World) (hs : SideAt w) : Calls Tryd.prog 16 [agg (bookS b), .int .i64 d, .int .i64 c, .int .i64 m].toArray w (ret1 w (.tuple #[agg (bookS (postV b d c m).1), .int .i64 (postV b d c m).2])) := by
  refine calls_val mo ok16 rfl ?_
  refine wc_seq ?_
  refine wc_ops ?_
  refine wj_e (ef_bx rfl fun b4 hb4 => ?_)
  refine wj_e (ef_al fun b8 hb8 => ?_)
  refine wj_q _ (q_mv rfl) ?_
  refine wj_nil ?_
  refine wc_seq ?_
  refine wc_seq ?_
  refine wc_ops ?_
  refine wj_q _ (q_mv rfl) ?_
  refine wj_q _ (q_call rfl (fun w hw => is_spec _ w)) ?_
  refine wj_q _ (q_un rfl rfl) ?_
  refine wj_q _ (q_mv rfl) ?_
  refine wj_or rfl rfl rfl (fun hg1 => qj_g rfl _ (q_mv rfl) (qj_g rfl _ (q_call rfl (fun w hw => is_spec _ w)) (qj_g rfl _ (q_un rfl rfl) (qj_nil)))) (fun hg1 => rfl) rfl ?_
  refine wj_q _ (q_mv rfl) ?_
  refine wj_or rfl rfl rfl (fun hg1 => qj_g rfl _ (q_mv rfl) (qj_g rfl _ (q_mv rfl) (qj_g rfl _ (q_bin rfl rfl rfl) (qj_nil)))) (fun hg1 => rfl) rfl ?_
  refine wj_q _ (q_mv rfl) ?_
  refine wj_or rfl rfl rfl (fun hg1 => qj_g rfl _ (q_mv rfl) (qj_g rfl _ (q_bin rfl rfl rfl) (qj_nil))) (fun hg1 => rfl) rfl ?_
  refine wj_nil ?_
  refine wc_if rfl (fun h1 => ?_) (fun h1 => ?_)
  · refine wc_seq ?_
    refine wc_ops ?_
    refine wj_q _ (q_ld rfl (.there .here) rfl) ?_
    refine wj_e (ef_st rfl rfl rfl rfl rfl .here ?_)
    refine wj_q _ (q_mv rfl) ?_
    refine wj_nil ?_
    refine wc_ret ?_
    refine ⟨_, (.cons (.agg rfl .here rfl) (.cons (.tmp rfl) .nil)), ?_⟩
    unfold postV
    rw [ite_t (show (postBad d c m) = true from h1)]
    rfl
  · obtain ⟨hd, hc, hne, hm⟩ := postArgs h1
    refine wc_skip ?_
    refine wc_seq ?_
    refine wc_ops ?_
    refine wj_q _ (q_ld rfl (.there .here) rfl) ?_
    refine wj_e (ef_al fun b10 hb10 => ?_)
    refine wj_e (ef_st rfl rfl rfl rfl rfl .here ?_)
    refine wj_nil ?_
    refine wc_seq ?_
    refine wc_ops ?_
    refine wj_q _ (q_mv rfl) ?_
    refine wj_q _ (q_mv rfl) ?_
    refine wj_nil ?_
    refine wc_seq ?_
    refine wc_ops ?_
    refine wj_q _ (q_mv rfl) ?_
    refine wj_q _ (q_mv rfl) ?_
    refine wj_q _ (q_fa rfl) ?_
    refine wj_q _ (q_ia rfl rfl (by first | decide | omega)) ?_
    refine wj_q _ (q_ldi rfl (.there (.there .here)) rfl (by first | decide | omega)) ?_
    refine wj_q _ (q_mv rfl) ?_
    refine wj_q _ (q_call rfl (fun w hw => sum_spec _ _ w)) ?_
    refine wj_q _ (q_mv rfl) ?_
    refine wj_q _ (q_ext rfl rfl) ?_
    refine wj_q _ (q_ext rfl rfl) ?_
    refine wj_q _ (q_fa rfl) ?_
    refine wj_q _ (q_ia rfl rfl (by first | decide | omega)) ?_
    refine wj_e (ef_sti rfl rfl rfl (by first | decide | omega) rfl .here ?_)
    refine wj_q _ (q_mv rfl) ?_
    refine wj_nil ?_
    refine wc_seq ?_
    refine wc_ops ?_
    refine wj_q _ (q_mv rfl) ?_
    refine wj_q _ (q_mv rfl) ?_
    refine wj_q _ (q_fa rfl) ?_
    refine wj_q _ (q_ia rfl rfl (by first | decide | omega)) ?_
    refine wj_q _ (q_ldi rfl (.there (.there .here)) rfl (by first | decide | omega)) ?_
    refine wj_q _ (q_mv rfl) ?_
    refine wj_q _ (q_un rfl rfl) ?_
    refine wj_q _ (q_call rfl (fun w hw => sum_spec _ _ w)) ?_
    refine wj_q _ (q_mv rfl) ?_
    refine wj_q _ (q_ext rfl rfl) ?_
    refine wj_q _ (q_ext rfl rfl) ?_
    refine wj_q _ (q_fa rfl) ?_
    refine wj_q _ (q_ia rfl rfl (by first | decide | omega)) ?_
    refine wj_e (ef_sti rfl rfl rfl (by first | decide | omega) rfl .here ?_)
    refine wj_q _ (q_mv rfl) ?_
    refine wj_nil ?_
    refine wc_seq ?_
    refine wc_seq ?_
    refine wc_ops ?_
    refine wj_q _ (q_mv rfl) ?_
    refine wj_q _ (q_un rfl rfl) ?_
    refine wj_q _ (q_mv rfl) ?_
    refine wj_or rfl rfl rfl (fun hg1 => qj_g rfl _ (q_mv rfl) (qj_g rfl _ (q_un rfl rfl) (qj_nil))) (fun hg1 => rfl) rfl ?_
    refine wj_nil ?_
    refine wc_if rfl (fun h2 => ?_) (fun h2 => ?_)
    · refine wc_seq ?_
      refine wc_ops ?_
      refine wj_q _ (q_ld rfl (.there (.there .here)) rfl) ?_
      refine wj_e (ef_st rfl rfl rfl rfl rfl (.there .here) ?_)
      refine wj_q _ (q_mv rfl) ?_
      refine wj_nil ?_
      refine wc_ret ?_
      refine ⟨_, (.cons (.agg rfl (.there .here) rfl) (.cons (.tmp rfl) .nil)), ?_⟩
      unfold postV
      rw [ite_f (show (postBad d c m) = false from h1), ite_t (show (postMiss b d c m) = true from h2)]
      rfl
    · refine wc_skip ?_
      refine wc_seq ?_
      refine wc_seq ?_
      refine wc_draw ?_
      refine ws_q1 _ (q_mv rfl) ?_
      refine ws_q1 _ (q_ia rfl rfl (by first | decide | omega)) ?_
      refine ws_q1 _ (q_memi rfl hs (by simp) (by first | decide | omega)) ?_
      refine ws_q1 _ (q_mv rfl) ?_
      refine ws_q1 _ (q_fa rfl) ?_
      refine ws_q1 _ (q_ia rfl rfl (by first | decide | omega)) ?_
      refine ws_q1 _ (q_ldi rfl .here rfl (by first | decide | omega)) ?_
      refine ws_q1 _ (q_bin rfl rfl rfl) ?_
      refine ws_q1 _ (q_bin rfl rfl rfl) ?_
      refine ws_q1 _ (q_mv rfl) ?_
      refine ws_or rfl rfl rfl (fun hg1 => qj_g rfl _ (q_mv rfl) (qj_g rfl _ (q_ia rfl rfl (by first | decide | omega)) (qj_g rfl _ (q_memi rfl hs (by simp) (by first | decide | omega)) (qj_g rfl _ (q_mv rfl) (qj_g rfl _ (q_fa rfl) (qj_g rfl _ (q_ia rfl rfl (by first | decide | omega)) (qj_g rfl _ (q_ldi rfl .here rfl (by first | decide | omega)) (qj_g rfl _ (q_bin rfl rfl rfl) (qj_g rfl _ (q_bin rfl rfl rfl) (qj_nil)))))))))) (fun hg1 => rfl) rfl ?_
      refine ws_nil ?_
      refine wc_if rfl (fun h3 => ?_) (fun h3 => ?_)
      · refine wc_seq ?_
        refine wc_ops ?_
        refine wj_q _ (q_ld rfl (.there (.there .here)) rfl) ?_
        refine wj_e (ef_st rfl rfl rfl rfl rfl (.there .here) ?_)
        refine wj_q _ (q_mv rfl) ?_
        refine wj_nil ?_
        refine wc_ret ?_
        refine ⟨_, (.cons (.agg rfl (.there .here) rfl) (.cons (.tmp rfl) .nil)), ?_⟩
        unfold postV
        rw [ite_f (show (postBad d c m) = false from h1), ite_f (show (postMiss b d c m) = false from h2), ite_t (show (postWrong b d c m) = true from h3)]
        rfl
      · refine wc_skip ?_
        refine wc_seq ?_
        refine wc_ops ?_
        refine wj_q _ (q_ld rfl .here rfl) ?_
        refine wj_e (ef_st rfl rfl rfl rfl rfl (.there .here) ?_)
        refine wj_q _ (q_mv rfl) ?_
        refine wj_nil ?_
        refine wc_ret ?_
        refine ⟨_, (.cons (.agg rfl (.there .here) rfl) (.cons (.tmp rfl) .nil)), ?_⟩
        unfold postV
        rw [ite_f (show (postBad d c m) = false from h1), ite_f (show (postMiss b d c m) = false from h2), ite_f (show (postWrong b d c m) = false from h3)]
        rfl

def sellV (b : List Int) (r p : Int) : List Int × Int := if (!(carV r p).2) = true then (b, 2) else postV b 0 1 (carV r p).1
theorem sell_spec (b : List Int) (r p : Int) (w : World) (hs : SideAt w) : Calls Tryd.prog 9 [agg (bookS b), .int .i64 r, .int .i64 p].toArray w (ret1 w (.tuple #[agg (bookS (sellV b r p).1), .int .i64 (sellV b r p).2])) := by
  refine calls_val mo ok9 rfl ?_
  refine wc_seq ?_
  refine wc_ops ?_
  refine wj_e (ef_bx rfl fun b3 hb3 => ?_)
  refine wj_e (ef_al fun b6 hb6 => ?_)
  refine wj_q _ (q_mv rfl) ?_
  refine wj_nil ?_
  refine wc_seq ?_
  refine wc_ops ?_
  refine wj_q _ (q_mv rfl) ?_
  refine wj_q _ (q_mv rfl) ?_
  refine wj_q _ (q_call rfl (fun w hw => carnet_spec _ _ w)) ?_
  refine wj_q _ (q_mv rfl) ?_
  refine wj_q _ (q_ext rfl rfl) ?_
  refine wj_q _ (q_ext rfl rfl) ?_
  refine wj_q _ (q_mv rfl) ?_
  refine wj_q _ (q_mv rfl) ?_
  refine wj_nil ?_
  refine wc_seq ?_
  refine wc_seq ?_
  refine wc_ops ?_
  refine wj_q _ (q_mv rfl) ?_
  refine wj_q _ (q_un rfl rfl) ?_
  refine wj_nil ?_
  refine wc_if rfl (fun h1 => ?_) (fun h1 => ?_)
  · refine wc_seq ?_
    refine wc_ops ?_
    refine wj_q _ (q_ld rfl (.there .here) rfl) ?_
    refine wj_e (ef_st rfl rfl rfl rfl rfl .here ?_)
    refine wj_q _ (q_mv rfl) ?_
    refine wj_nil ?_
    refine wc_ret ?_
    refine ⟨_, (.cons (.agg rfl .here rfl) (.cons (.tmp rfl) .nil)), ?_⟩
    unfold sellV
    rw [ite_t (show (!(carV r p).2) = true from h1)]
    rfl
  · refine wc_skip ?_
    refine wc_seq ?_
    refine wc_ops ?_
    refine wj_q _ (q_ld rfl (.there .here) rfl) ?_
    refine wj_q _ (q_mv rfl) ?_
    refine wj_q _ (q_call rfl (fun w hw => post_spec _ _ _ _ w (hs.below hw.now))) ?_
    refine wj_q _ (q_ext rfl rfl) ?_
    refine wj_q _ (q_ext rfl rfl) ?_
    refine wj_e (ef_st rfl rfl rfl rfl rfl .here ?_)
    refine wj_q _ (q_mv rfl) ?_
    refine wj_nil ?_
    refine wc_ret ?_
    refine ⟨_, (.cons (.agg rfl .here rfl) (.cons (.tmp rfl) .nil)), ?_⟩
    unfold sellV
    rw [ite_f (show (!(carV r p).2) = false from h1)]
    rfl

def retireV (b : List Int) (r p : Int) : List Int × Int := if (!(carV r p).2) = true then (b, 2) else postV b 1 2 (carV r p).1
theorem retire_spec (b : List Int) (r p : Int) (w : World) (hs : SideAt w) : Calls Tryd.prog 12 [agg (bookS b), .int .i64 r, .int .i64 p].toArray w (ret1 w (.tuple #[agg (bookS (retireV b r p).1), .int .i64 (retireV b r p).2])) := by
  refine calls_val mo ok12 rfl ?_
  refine wc_seq ?_
  refine wc_ops ?_
  refine wj_e (ef_bx rfl fun b3 hb3 => ?_)
  refine wj_e (ef_al fun b6 hb6 => ?_)
  refine wj_q _ (q_mv rfl) ?_
  refine wj_nil ?_
  refine wc_seq ?_
  refine wc_ops ?_
  refine wj_q _ (q_mv rfl) ?_
  refine wj_q _ (q_mv rfl) ?_
  refine wj_q _ (q_call rfl (fun w hw => carnet_spec _ _ w)) ?_
  refine wj_q _ (q_mv rfl) ?_
  refine wj_q _ (q_ext rfl rfl) ?_
  refine wj_q _ (q_ext rfl rfl) ?_
  refine wj_q _ (q_mv rfl) ?_
  refine wj_q _ (q_mv rfl) ?_
  refine wj_nil ?_
  refine wc_seq ?_
  refine wc_seq ?_
  refine wc_ops ?_
  refine wj_q _ (q_mv rfl) ?_
  refine wj_q _ (q_un rfl rfl) ?_
  refine wj_nil ?_
  refine wc_if rfl (fun h1 => ?_) (fun h1 => ?_)
  · refine wc_seq ?_
    refine wc_ops ?_
    refine wj_q _ (q_ld rfl (.there .here) rfl) ?_
    refine wj_e (ef_st rfl rfl rfl rfl rfl .here ?_)
    refine wj_q _ (q_mv rfl) ?_
    refine wj_nil ?_
    refine wc_ret ?_
    refine ⟨_, (.cons (.agg rfl .here rfl) (.cons (.tmp rfl) .nil)), ?_⟩
    unfold retireV
    rw [ite_t (show (!(carV r p).2) = true from h1)]
    rfl
  · refine wc_skip ?_
    refine wc_seq ?_
    refine wc_ops ?_
    refine wj_q _ (q_ld rfl (.there .here) rfl) ?_
    refine wj_q _ (q_mv rfl) ?_
    refine wj_q _ (q_call rfl (fun w hw => post_spec _ _ _ _ w (hs.below hw.now))) ?_
    refine wj_q _ (q_ext rfl rfl) ?_
    refine wj_q _ (q_ext rfl rfl) ?_
    refine wj_e (ef_st rfl rfl rfl rfl rfl .here ?_)
    refine wj_q _ (q_mv rfl) ?_
    refine wj_nil ?_
    refine wc_ret ?_
    refine ⟨_, (.cons (.agg rfl .here rfl) (.cons (.tmp rfl) .nil)), ?_⟩
    unfold retireV
    rw [ite_f (show (!(carV r p).2) = false from h1)]
    rfl

def refBad (r k p : Int) : Bool := !(carV r p).2 || decide (k < 0) || decide (k > r)
def ref1 (b : List Int) (r k p : Int) : List Int × Int := postV b 1 2 (w64 ((carV r p).1 - w64 (k * p)))
def ref2 (b : List Int) (r k p : Int) : List Int × Int := postV (ref1 b r k p).1 1 0 (w64 (k * p))
def refundV (b : List Int) (r k p : Int) : List Int × Int := if refBad r k p = true then (b, 2) else if ((ref1 b r k p).2 != 0) = true then (b, (ref1 b r k p).2) else if ((ref2 b r k p).2 != 0) = true then (b, (ref2 b r k p).2) else ((ref2 b r k p).1, 0)
theorem refund_spec (b : List Int) (r k p : Int) (w : World) (hs : SideAt w) : Calls Tryd.prog 11 [agg (bookS b), .int .i64 r, .int .i64 k, .int .i64 p].toArray w (ret1 w (.tuple #[agg (bookS (refundV b r k p).1), .int .i64 (refundV b r k p).2])) := by
  refine calls_val mo ok11 rfl ?_
  refine wc_seq ?_
  refine wc_ops ?_
  refine wj_e (ef_bx rfl fun b4 hb4 => ?_)
  refine wj_e (ef_al fun b8 hb8 => ?_)
  refine wj_q _ (q_mv rfl) ?_
  refine wj_nil ?_
  refine wc_seq ?_
  refine wc_ops ?_
  refine wj_q _ (q_mv rfl) ?_
  refine wj_q _ (q_mv rfl) ?_
  refine wj_q _ (q_call rfl (fun w hw => carnet_spec _ _ w)) ?_
  refine wj_q _ (q_mv rfl) ?_
  refine wj_q _ (q_ext rfl rfl) ?_
  refine wj_q _ (q_ext rfl rfl) ?_
  refine wj_q _ (q_mv rfl) ?_
  refine wj_q _ (q_mv rfl) ?_
  refine wj_nil ?_
  refine wc_seq ?_
  refine wc_seq ?_
  refine wc_ops ?_
  refine wj_q _ (q_mv rfl) ?_
  refine wj_q _ (q_un rfl rfl) ?_
  refine wj_q _ (q_mv rfl) ?_
  refine wj_or rfl rfl rfl (fun hg1 => qj_g rfl _ (q_mv rfl) (qj_g rfl _ (q_bin rfl rfl rfl) (qj_nil))) (fun hg1 => rfl) rfl ?_
  refine wj_q _ (q_mv rfl) ?_
  refine wj_or rfl rfl rfl (fun hg1 => qj_g rfl _ (q_mv rfl) (qj_g rfl _ (q_mv rfl) (qj_g rfl _ (q_bin rfl rfl rfl) (qj_nil)))) (fun hg1 => rfl) rfl ?_
  refine wj_nil ?_
  refine wc_if rfl (fun h1 => ?_) (fun h1 => ?_)
  · refine wc_seq ?_
    refine wc_ops ?_
    refine wj_q _ (q_ld rfl (.there .here) rfl) ?_
    refine wj_e (ef_st rfl rfl rfl rfl rfl .here ?_)
    refine wj_q _ (q_mv rfl) ?_
    refine wj_nil ?_
    refine wc_ret ?_
    refine ⟨_, (.cons (.agg rfl .here rfl) (.cons (.tmp rfl) .nil)), ?_⟩
    unfold refundV
    rw [ite_t (show (refBad r k p) = true from h1)]
    rfl
  · refine wc_skip ?_
    refine wc_seq ?_
    refine wc_ops ?_
    refine wj_q _ (q_mv rfl) ?_
    refine wj_q _ (q_mv rfl) ?_
    refine wj_q _ (q_bin rfl rfl rfl) ?_
    refine wj_q _ (q_mv rfl) ?_
    refine wj_nil ?_
    refine wc_seq ?_
    refine wc_ops ?_
    refine wj_q _ (q_ld rfl (.there .here) rfl) ?_
    refine wj_q _ (q_mv rfl) ?_
    refine wj_q _ (q_mv rfl) ?_
    refine wj_q _ (q_bin rfl rfl rfl) ?_
    refine wj_q _ (q_call rfl (fun w hw => post_spec _ _ _ _ w (hs.below hw.now))) ?_
    refine wj_q _ (q_mv rfl) ?_
    refine wj_q _ (q_ext rfl rfl) ?_
    refine wj_q _ (q_ext rfl rfl) ?_
    refine wj_e (ef_al fun b13 hb13 => ?_)
    refine wj_e (ef_st rfl rfl rfl rfl rfl .here ?_)
    refine wj_q _ (q_mv rfl) ?_
    refine wj_nil ?_
    refine wc_seq ?_
    refine wc_seq ?_
    refine wc_ops ?_
    refine wj_q _ (q_mv rfl) ?_
    refine wj_q _ (q_bin rfl rfl rfl) ?_
    refine wj_nil ?_
    refine wc_if rfl (fun h2 => ?_) (fun h2 => ?_)
    · refine wc_seq ?_
      refine wc_ops ?_
      refine wj_q _ (q_ld rfl (.there (.there .here)) rfl) ?_
      refine wj_q _ (q_mv rfl) ?_
      refine wj_e (ef_st rfl rfl rfl rfl rfl (.there .here) ?_)
      refine wj_q _ (q_mv rfl) ?_
      refine wj_nil ?_
      refine wc_ret ?_
      refine ⟨_, (.cons (.agg rfl (.there .here) rfl) (.cons (.tmp rfl) .nil)), ?_⟩
      unfold refundV
      rw [ite_f (show (refBad r k p) = false from h1), ite_t (show ((ref1 b r k p).2 != 0) = true from h2)]
      rfl
    · refine wc_skip ?_
      refine wc_seq ?_
      refine wc_seq ?_
      refine wc_ops ?_
      refine wj_q _ (q_ld rfl .here rfl) ?_
      refine wj_q _ (q_mv rfl) ?_
      refine wj_q _ (q_call rfl (fun w hw => post_spec _ _ _ _ w (hs.below hw.now))) ?_
      refine wj_q _ (q_mv rfl) ?_
      refine wj_q _ (q_ext rfl rfl) ?_
      refine wj_q _ (q_ext rfl rfl) ?_
      refine wj_e (ef_st rfl rfl rfl rfl rfl .here ?_)
      refine wj_q _ (q_mv rfl) ?_
      refine wj_nil ?_
      refine wc_seq ?_
      refine wc_ops ?_
      refine wj_q _ (q_mv rfl) ?_
      refine wj_q _ (q_bin rfl rfl rfl) ?_
      refine wj_nil ?_
      refine wc_if rfl (fun h3 => ?_) (fun h3 => ?_)
      · refine wc_seq ?_
        refine wc_ops ?_
        refine wj_q _ (q_ld rfl (.there (.there .here)) rfl) ?_
        refine wj_q _ (q_mv rfl) ?_
        refine wj_e (ef_st rfl rfl rfl rfl rfl (.there .here) ?_)
        refine wj_q _ (q_mv rfl) ?_
        refine wj_nil ?_
        refine wc_ret ?_
        refine ⟨_, (.cons (.agg rfl (.there .here) rfl) (.cons (.tmp rfl) .nil)), ?_⟩
        unfold refundV
        rw [ite_f (show (refBad r k p) = false from h1), ite_f (show ((ref1 b r k p).2 != 0) = false from h2), ite_t (show ((ref2 b r k p).2 != 0) = true from h3)]
        rfl
      · refine wc_skip ?_
        refine wc_seq ?_
        refine wc_ops ?_
        refine wj_q _ (q_ld rfl .here rfl) ?_
        refine wj_e (ef_st rfl rfl rfl rfl rfl (.there .here) ?_)
        refine wj_q _ (q_mv rfl) ?_
        refine wj_nil ?_
        refine wc_ret ?_
        refine ⟨_, (.cons (.agg rfl (.there .here) rfl) (.cons (.tmp rfl) .nil)), ?_⟩
        unfold refundV
        rw [ite_f (show (refBad r k p) = false from h1), ite_f (show ((ref1 b r k p).2 != 0) = false from h2), ite_f (show ((ref2 b r k p).2 != 0) = false from h3)]
        rfl

def balV (b : List Int) (a : Int) : Int × Int := if (!isAcc a) = true then (0, 2) else if (b.getD a.toNat 0 == -9223372036854775808) = true then (0, 3) else (w64 (sideT.getD a.toNat 0 * b.getD a.toNat 0), 0)
theorem accArg {a : Int} (h : (!isAcc a) = false) : 0 ≤ a ∧ a < 3 := by simp [isAcc] at h; omega
theorem bal_spec (b : List Int) (a : Int) (w : World) (hs : SideAt w) : Calls Tryd.prog 13 [agg (bookS b), .int .i64 a].toArray w (ret1 w (.tuple #[.int .i64 (balV b a).1, .int .i64 (balV b a).2])) := by
  refine calls_val mo ok13 rfl ?_
  refine wc_seq ?_
  refine wc_ops ?_
  refine wj_e (ef_bx rfl fun b2 hb2 => ?_)
  refine wj_q _ (q_mv rfl) ?_
  refine wj_q _ (q_mv rfl) ?_
  refine wj_nil ?_
  refine wc_seq ?_
  refine wc_block ?_
  refine wc_seq ?_
  refine wc_ops ?_
  refine wj_q _ (q_mv rfl) ?_
  refine wj_q _ (q_call rfl (fun w hw => is_spec _ w)) ?_
  refine wj_q _ (q_un rfl rfl) ?_
  refine wj_q _ (q_mv rfl) ?_
  refine wj_nil ?_
  refine wc_if rfl (fun h1 => ?_) (fun h1 => ?_)
  · refine wc_seq ?_
    refine wc_ops ?_
    refine wj_q _ (q_mv rfl) ?_
    refine wj_q _ (q_mv rfl) ?_
    refine wj_nil ?_
    refine wc_ret ?_
    refine ⟨_, (.cons (.tmp rfl) (.cons (.tmp rfl) .nil)), ?_⟩
    unfold balV
    rw [ite_t (show (!isAcc a) = true from h1)]
    rfl
  · have ha := accArg h1
    refine wc_seq ?_
    refine wc_ops ?_
    refine wj_q _ (q_mv rfl) ?_
    refine wj_q _ (q_fa rfl) ?_
    refine wj_q _ (q_ia rfl rfl (by first | decide | omega)) ?_
    refine wj_q _ (q_ldi rfl .here rfl (by first | decide | omega)) ?_
    refine wj_q _ (q_bin rfl rfl rfl) ?_
    refine wj_q _ (q_mv rfl) ?_
    refine wj_nil ?_
    refine wc_if rfl (fun h2 => ?_) (fun h2 => ?_)
    · refine wc_seq ?_
      refine wc_ops ?_
      refine wj_q _ (q_mv rfl) ?_
      refine wj_q _ (q_mv rfl) ?_
      refine wj_nil ?_
      refine wc_ret ?_
      refine ⟨_, (.cons (.tmp rfl) (.cons (.tmp rfl) .nil)), ?_⟩
      unfold balV
      rw [ite_f (show (!isAcc a) = false from h1), ite_t (show (b.getD a.toNat 0 == -9223372036854775808) = true from h2)]
      rfl
    · refine wc_skip ?_
      refine wc_seq ?_
      refine wc_draw ?_
      refine ws_q1 _ (q_mv rfl) ?_
      refine ws_q1 _ (q_ia rfl rfl (by first | decide | omega)) ?_
      refine ws_q1 _ (q_memi rfl hs (by simp) (by first | decide | omega)) ?_
      refine ws_q1 _ (q_mv rfl) ?_
      refine ws_q1 _ (q_fa rfl) ?_
      refine ws_q1 _ (q_ia rfl rfl (by first | decide | omega)) ?_
      refine ws_q1 _ (q_ldi rfl .here rfl (by first | decide | omega)) ?_
      refine ws_q1 _ (q_bin rfl rfl rfl) ?_
      refine ws_q1 _ (q_mv rfl) ?_
      refine ws_q1 _ (q_mv rfl) ?_
      refine ws_nil ?_
      refine wc_ret ?_
      refine ⟨_, (.cons (.tmp rfl) (.cons (.tmp rfl) .nil)), ?_⟩
      unfold balV
      rw [ite_f (show (!isAcc a) = false from h1), ite_f (show (b.getD a.toNat 0 == -9223372036854775808) = false from h2)]
      rfl

def evenBad (b : List Int) (a : Int) : Bool := ((balV b a).2 != 0) || decide ((balV b a).1 < 0)
def evenV (b : List Int) : Bool := if evenBad b 0 = true then false else if evenBad b 1 = true then false else if evenBad b 2 = true then false else (w64 (b.getD 0 0 + b.getD 1 0) == w64 (0 - b.getD 2 0))
theorem even_spec (b : List Int) (w : World) (hs : SideAt w) : Calls Tryd.prog 6 [agg (bookS b)].toArray w (ret1 w (.bool (evenV b))) := by
  refine calls_val mo ok6 rfl ?_
  refine wc_seq ?_
  refine wc_ops ?_
  refine wj_e (ef_bx rfl fun b1 hb1 => ?_)
  refine wj_q _ (q_mv rfl) ?_
  refine wj_nil ?_
  refine wc_seq ?_
  refine wc_seq ?_
  refine wc_ops ?_
  refine wj_q _ (q_mv rfl) ?_
  refine wj_nil ?_
  refine wc_block ?_
  refine wc_rounds 4 ?_
  refine wc_round ?_
  refine wc_seq ?_
  refine wc_ops ?_
  refine wj_q _ (q_bin rfl rfl rfl) ?_
  refine wj_nil ?_
  refine wc_seq ?_
  refine wc_if rfl (fun _ => ?_) (fun h => absurd h (by decide))
  refine wc_skip ?_
  refine wc_seq ?_
  refine wc_block ?_
  refine wc_seq ?_
  refine wc_ops ?_
  refine wj_q _ (q_mv rfl) ?_
  refine wj_q _ (q_mv rfl) ?_
  refine wj_nil ?_
  refine wc_seq ?_
  refine wc_ops ?_
  refine wj_q _ (q_ld rfl .here rfl) ?_
  refine wj_q _ (q_mv rfl) ?_
  refine wj_q _ (q_call rfl (fun w hw => bal_spec _ _ w (hs.below hw.now))) ?_
  refine wj_q _ (q_mv rfl) ?_
  refine wj_q _ (q_ext rfl rfl) ?_
  refine wj_q _ (q_ext rfl rfl) ?_
  refine wj_q _ (q_mv rfl) ?_
  refine wj_q _ (q_mv rfl) ?_
  refine wj_nil ?_
  refine wc_seq ?_
  refine wc_ops ?_
  refine wj_q _ (q_mv rfl) ?_
  refine wj_q _ (q_bin rfl rfl rfl) ?_
  refine wj_q _ (q_mv rfl) ?_
  refine wj_or rfl rfl rfl (fun hg1 => qj_g rfl _ (q_mv rfl) (qj_g rfl _ (q_bin rfl rfl rfl) (qj_nil))) (fun hg1 => rfl) rfl ?_
  refine wj_nil ?_
  refine wc_if rfl (fun h1 => ?_) (fun h1 => ?_)
  · refine wc_seq ?_
    refine wc_ops ?_
    refine wj_q _ (q_mv rfl) ?_
    refine wj_nil ?_
    refine wc_ret ?_
    refine ⟨_, (.cons (.tmp rfl) .nil), ?_⟩
    unfold evenV
    rw [ite_t (show (evenBad b 0) = true from h1)]
    rfl
  · refine wc_skip ?_
    refine wc_ops ?_
    refine wj_q _ (q_bin rfl rfl rfl) ?_
    refine wj_q _ (q_mv rfl) ?_
    refine wj_nil ?_
    refine wc_round ?_
    refine wc_seq ?_
    refine wc_ops ?_
    refine wj_q _ (q_bin rfl rfl rfl) ?_
    refine wj_nil ?_
    refine wc_seq ?_
    refine wc_if rfl (fun _ => ?_) (fun h => absurd h (by decide))
    refine wc_skip ?_
    refine wc_seq ?_
    refine wc_block ?_
    refine wc_seq ?_
    refine wc_ops ?_
    refine wj_q _ (q_mv rfl) ?_
    refine wj_q _ (q_mv rfl) ?_
    refine wj_nil ?_
    refine wc_seq ?_
    refine wc_ops ?_
    refine wj_q _ (q_ld rfl .here rfl) ?_
    refine wj_q _ (q_mv rfl) ?_
    refine wj_q _ (q_call rfl (fun w hw => bal_spec _ _ w (hs.below hw.now))) ?_
    refine wj_q _ (q_mv rfl) ?_
    refine wj_q _ (q_ext rfl rfl) ?_
    refine wj_q _ (q_ext rfl rfl) ?_
    refine wj_q _ (q_mv rfl) ?_
    refine wj_q _ (q_mv rfl) ?_
    refine wj_nil ?_
    refine wc_seq ?_
    refine wc_ops ?_
    refine wj_q _ (q_mv rfl) ?_
    refine wj_q _ (q_bin rfl rfl rfl) ?_
    refine wj_q _ (q_mv rfl) ?_
    refine wj_or rfl rfl rfl (fun hg1 => qj_g rfl _ (q_mv rfl) (qj_g rfl _ (q_bin rfl rfl rfl) (qj_nil))) (fun hg1 => rfl) rfl ?_
    refine wj_nil ?_
    refine wc_if rfl (fun h2 => ?_) (fun h2 => ?_)
    · refine wc_seq ?_
      refine wc_ops ?_
      refine wj_q _ (q_mv rfl) ?_
      refine wj_nil ?_
      refine wc_ret ?_
      refine ⟨_, (.cons (.tmp rfl) .nil), ?_⟩
      unfold evenV
      rw [ite_f (show (evenBad b 0) = false from h1), ite_t (show (evenBad b 1) = true from h2)]
      rfl
    · refine wc_skip ?_
      refine wc_ops ?_
      refine wj_q _ (q_bin rfl rfl rfl) ?_
      refine wj_q _ (q_mv rfl) ?_
      refine wj_nil ?_
      refine wc_round ?_
      refine wc_seq ?_
      refine wc_ops ?_
      refine wj_q _ (q_bin rfl rfl rfl) ?_
      refine wj_nil ?_
      refine wc_seq ?_
      refine wc_if rfl (fun _ => ?_) (fun h => absurd h (by decide))
      refine wc_skip ?_
      refine wc_seq ?_
      refine wc_block ?_
      refine wc_seq ?_
      refine wc_ops ?_
      refine wj_q _ (q_mv rfl) ?_
      refine wj_q _ (q_mv rfl) ?_
      refine wj_nil ?_
      refine wc_seq ?_
      refine wc_ops ?_
      refine wj_q _ (q_ld rfl .here rfl) ?_
      refine wj_q _ (q_mv rfl) ?_
      refine wj_q _ (q_call rfl (fun w hw => bal_spec _ _ w (hs.below hw.now))) ?_
      refine wj_q _ (q_mv rfl) ?_
      refine wj_q _ (q_ext rfl rfl) ?_
      refine wj_q _ (q_ext rfl rfl) ?_
      refine wj_q _ (q_mv rfl) ?_
      refine wj_q _ (q_mv rfl) ?_
      refine wj_nil ?_
      refine wc_seq ?_
      refine wc_ops ?_
      refine wj_q _ (q_mv rfl) ?_
      refine wj_q _ (q_bin rfl rfl rfl) ?_
      refine wj_q _ (q_mv rfl) ?_
      refine wj_or rfl rfl rfl (fun hg1 => qj_g rfl _ (q_mv rfl) (qj_g rfl _ (q_bin rfl rfl rfl) (qj_nil))) (fun hg1 => rfl) rfl ?_
      refine wj_nil ?_
      refine wc_if rfl (fun h3 => ?_) (fun h3 => ?_)
      · refine wc_seq ?_
        refine wc_ops ?_
        refine wj_q _ (q_mv rfl) ?_
        refine wj_nil ?_
        refine wc_ret ?_
        refine ⟨_, (.cons (.tmp rfl) .nil), ?_⟩
        unfold evenV
        rw [ite_f (show (evenBad b 0) = false from h1), ite_f (show (evenBad b 1) = false from h2), ite_t (show (evenBad b 2) = true from h3)]
        rfl
      · refine wc_skip ?_
        refine wc_ops ?_
        refine wj_q _ (q_bin rfl rfl rfl) ?_
        refine wj_q _ (q_mv rfl) ?_
        refine wj_nil ?_
        refine wc_round ?_
        refine wc_seq ?_
        refine wc_ops ?_
        refine wj_q _ (q_bin rfl rfl rfl) ?_
        refine wj_nil ?_
        refine wc_seq ?_
        refine wc_if rfl (fun h => absurd h (by decide)) (fun _ => ?_)
        refine wc_exit _ rfl ?_
        refine wc_seq ?_
        refine wc_ops ?_
        refine wj_q _ (q_fa rfl) ?_
        refine wj_q _ (q_ia rfl rfl (by decide)) ?_
        refine wj_q _ (q_ld1 rfl .here rfl) ?_
        refine wj_q _ (q_fa rfl) ?_
        refine wj_q _ (q_ia rfl rfl (by decide)) ?_
        refine wj_q _ (q_ld1 rfl .here rfl) ?_
        refine wj_q _ (q_bin rfl rfl rfl) ?_
        refine wj_q _ (q_fa rfl) ?_
        refine wj_q _ (q_ia rfl rfl (by decide)) ?_
        refine wj_q _ (q_ld1 rfl .here rfl) ?_
        refine wj_q _ (q_un rfl rfl) ?_
        refine wj_q _ (q_bin rfl rfl rfl) ?_
        refine wj_q _ (q_mv rfl) ?_
        refine wj_nil ?_
        refine wc_ret ?_
        refine ⟨_, (.cons (.tmp rfl) .nil), ?_⟩
        unfold evenV
        rw [ite_f (show (evenBad b 0) = false from h1), ite_f (show (evenBad b 1) = false from h2), ite_f (show (evenBad b 2) = false from h3)]
        rfl
end Go.Proofs.YtdelljcdaepgiaaDoor
