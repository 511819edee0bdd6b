/- Texts of a proof, one behind the other: PSB PL1 PL2 PL3 PL4. -/
import Derived.Test.YtiflckckekjbnaaM2
/- Contracts made by hand. -/
namespace Go.Proofs.Ytiflckckekjbnaa
open Go Go.Sx Go.RowKit
set_option linter.all false
set_option maxHeartbeats 400000
set_option maxRecDepth 100000
theorem as_nil (w : World) : (Instr.typeAssert .nilIface 20 76 true).run Try.prog w = .ok (.tuple #[.agg #[.int .i64 0], .bool false]) w := by kernel_rfl
theorem as_up (v : Value) (w : World) : (Instr.typeAssert (.iface 76 v) 20 76 true).run Try.prog w = .ok (.tuple #[v, .bool true]) w := by kernel_rfl
theorem al_up (w : World) : (Instr.alloc 76 true (.tuple #[])).run Try.prog w = .ok (.pointer (some ⟨w.heap.size, 0, none⟩)) (w.alloc (.cells #[.int .i64 0] 76 (0, 0))) := by kernel_rfl
abbrev pv (x : Int) : PanicEntry := { v := .iface 76 (agg [.one (.int .i64 x)]), recovered := false }

theorem caught43_idle {W0 w : World} {S : List Nat} {m : List Chunk} {pa pr : Addr} (hw : Sat W0 S m w) :
    CallsDIn (FW none) 0 Try.prog 48 #[.pointer (some pa), .pointer (some pr)] .returning w (fun e u' w' => (∃ v, e = .returned v) ∧ u' = .returning ∧ Sat W0 S m w') := by
  refine callsDIn_of_wpSIn Try.func48 rfl trivial fun c₀ cs hu => ?_
  apply wpSIn_seq
  apply wpSIn_region
  simp [wpOpsSIn, go_sem, recoverD, hu, Try.ntmps48, Exit.thenS, as_nil, al_up]
  apply wpSIn_seq
  apply wpSIn_region
  simp [wpOpsSIn, go_sem, Exit.thenS]
  refine wpSIn_cond (t := false) (by simp [Act.eval]) ?_
  simp only [Bool.false_eq_true, if_false]
  refine wpSIn_of_wpIn rfl (wpIn_skip ?_)
  have h2 := (hw.alloc (.cells #[.int .i64 0] 76 (0, 0))).sublist (List.sublist_cons_self _ _)
  cases c₀
  simp_all [bodyPostS, results, Try.results48]
theorem caught43_up {W0 w : World} {S : List Nat} {mr : List Chunk} {ab rb b : Nat} {Ta Tb T : TypeId} {v0 : Value} {z at_ ft x : Int} {older : List PanicEntry}
    (hw : Sat W0 S (ck ab Ta [.one (.int .i64 at_)] :: ck rb Tb [.one (.pointer (some ⟨b, 0, none⟩))] :: ck b T [.one v0, .one (.int .i64 z), .one (.int .i64 ft)] :: mr) w) :
    CallsDIn (FW none) 0 Try.prog 48 #[.pointer (some ⟨ab, 0, none⟩), .pointer (some ⟨rb, 0, none⟩)] (.panicking (pv x :: older)) w (fun e u' w' => (∃ v, e = .returned v) ∧ u' = .panicking ({ pv x with recovered := true } :: older) ∧ Sat W0 S (ck b T [.one v0, .one (.int .i64 at_), .one (.int .i64 x)] :: mr) w') := by
  refine callsDIn_of_wpSIn Try.func48 rfl trivial fun c₀ cs hu => ?_
  apply wpSIn_seq
  apply wpSIn_region
  simp [wpOpsSIn, go_sem, recoverD, hu, Try.ntmps48, Exit.thenS, as_up, al_up, agg, cells, Seg.cells]
  apply wpSIn_seq
  apply wpSIn_region
  simp [wpOpsSIn, go_sem, Exit.thenS]
  refine wpSIn_cond (t := true) (by simp [Act.eval]) ?_
  simp only [if_true]
  refine wpSIn_of_wpIn rfl ?_
  have hw2 := hw.alloc (.cells #[.int .i64 x] 76 (0, 0))
  refine (show WC ⟨Try.prog, 19, W0, S⟩ (.draw r48_2 [10, 7]) [(0, .pointer (some ⟨ab, 0, none⟩)), (1, .pointer (some ⟨rb, 0, none⟩)), (2, .pointer (some ⟨w.heap.size, 0, none⟩)), (3, .bool true)]
    (ck w.heap.size 76 [.one (.int .i64 x)] :: ck ab Ta [.one (.int .i64 at_)] :: ck rb Tb [.one (.pointer (some ⟨b, 0, none⟩))] :: ck b T [.one v0, .one (.int .i64 z), .one (.int .i64 ft)] :: mr)
    (fun _ m' => List.Sublist (ck b T [.one v0, .one (.int .i64 at_), .one (.int .i64 x)] :: mr) m') ⟨[], fun _ _ => False, noP⟩ from ?_) mo _ (by kernel_rfl) none 0 _ _ _ ⟨by simp, rfl, ?_⟩ hw2 ⟨?_, ?_, fun _ _ h => h.elim, fun _ _ _ h => h.elim⟩
  · refine wc_drawS (m0 := [ck w.heap.size 76 [.one (.int .i64 x)], ck ab Ta [.one (.int .i64 at_)], ck rb Tb [.one (.pointer (some ⟨b, 0, none⟩))]]) (.cons₂ _ (.cons₂ _ (.cons₂ _ (List.nil_sublist _)))) ?_
    refine ws_p1 _ (q_fa rfl) ?_
    refine ws_q1 _ (q_ld1 rfl (.there (.there .here)) rfl) ?_
    refine ws_q1 _ (q_ld1 rfl (.there (.there .here)) rfl) ?_
    refine ws_q1 _ (q_ld1 rfl (.there .here) rfl) ?_
    refine ws_p1 _ (q_nilc rfl) ?_
    refine ws_p1 _ (q_fa rfl) ?_
    refine ws_two (ef_q _ (q_ld1 rfl .here rfl) ⟨fun c hc => List.mem_append_left _ hc, ?_⟩) (ef_st1 (q := [.one v0, .one (.int .i64 at_), .one (.int .i64 ft)]) rfl rfl rfl rfl (.there (.there (.there .here))) ⟨fun c hc => List.mem_append_left _ hc, ?_⟩)
    · refine ws_eL rfl (ef_st1 (q := [.one v0, .one (.int .i64 at_), .one (.int .i64 ft)]) rfl rfl rfl rfl (.there (.there (.there .here))) ?_)
      refine ws_p1 _ (q_nilc rfl) ?_
      refine ws_p1 _ (q_fa rfl) ?_
      refine ws_eM rfl (ef_st1 (q := [.one v0, .one (.int .i64 at_), .one (.int .i64 x)]) rfl rfl rfl rfl (.there (.there (.there .here))) ?_)
      exact ws_nil (.cons _ (.cons _ (.cons _ (List.Sublist.refl _))))
    · refine ws_q1 _ (q_ld1 rfl .here rfl) ?_
      refine ws_p1 _ (q_nilc rfl) ?_
      refine ws_p1 _ (q_fa rfl) ?_
      refine ws_eL rfl (ef_st1 (q := [.one v0, .one (.int .i64 at_), .one (.int .i64 x)]) rfl rfl rfl rfl (.there (.there (.there .here))) ?_)
      exact ws_nil (.cons _ (.cons _ (.cons _ (List.Sublist.refl _))))
  · intro j v hj
    rcases look4 hj with ⟨rfl, rfl⟩ | ⟨rfl, rfl⟩ | ⟨rfl, rfl⟩ | ⟨rfl, rfl⟩ <;> simp
  · intro t' m' hs a' w' ha' hw'
    have h3 := hw'.sublist hs
    cases c₀
    simp_all [bodyPostS, results, Try.results48, ha'.defers]
  · intro id k hk; simp [lookK] at hk
theorem caught43_gen {W : World} {b : Nat} {T : TypeId} {v0 : Value} {M0 : List Chunk} {at_ ft : Int} {g : FuncId} {caps : List Value} {RR : Ending → World → Prop}
    (h0 : Sat W (b :: M0.map (·.b)) (ck b T [.one v0, .one (.int .i64 at_), .one (.int .i64 ft)] :: (M0 ++ [])) W) (hcv : cvOk Try.prog g = true)
    (hA : ft ≠ 0 → ∀ w, Sat W (b :: M0.map (·.b)) (ck b T [.one v0, .one (.int .i64 at_), .one (.int .i64 ft)] :: (M0 ++ [])) w → RR (.returned (.slice none 0 0)) w)
    (hB : ft = 0 → (∃ R : Value → List Pc → Prop, (∀ w, KeptV W w (b :: M0.map (·.b)) → Sat w (b :: M0.map (·.b)) (ck b T [.one v0, .one (.int .i64 at_), .one (.int .i64 ft)] :: (M0 ++ [])) w → Calls Try.prog g caps.toArray w (retS w (b :: M0.map (·.b)) R)) ∧
        ∀ v Ms w, R v Ms → Sat W (b :: M0.map (·.b)) (appL Ms []) w → RR (.returned v) w) ∨
      (∃ (x : Int) (Rp : Value → List Chunk → Prop), (∀ w, KeptV W w (b :: M0.map (·.b)) → Sat w (b :: M0.map (·.b)) (ck b T [.one v0, .one (.int .i64 at_), .one (.int .i64 ft)] :: (M0 ++ [])) w →
          Calls Try.prog g caps.toArray w (panS w (b :: M0.map (·.b)) [pv x] (fun Ms => ∃ (uw : Value) (Mw : List Chunk) (z f : Int), Ms = [.one (ck b T [.one uw, .one (.int .i64 z), .one (.int .i64 f)]), .all Mw] ∧ Rp uw Mw))) ∧
        ∀ uw Mw w, Rp uw Mw → Sat W (b :: M0.map (·.b)) (ck b T [.one uw, .one (.int .i64 at_), .one (.int .i64 x)] :: (Mw ++ [])) w → RR (.returned (.slice none 0 0)) w)) :
    Calls Try.prog 43 [.pointer (some ⟨b, 0, none⟩), .func (.func g) #[] caps.toArray].toArray W RR := by
  refine callsIn_wide.1 (callsIn_of_wp_defers (F := FW none) (n := 0) Try.func43 rfl trivial ?_)
  have fin : ∀ {t m a w v}, SatT 19 t a → Sx.look t 4 = some v → Sat W (b :: M0.map (·.b)) m w → ∃ u, (results Try.f43 a.tmps).run Try.prog w = .ok u w ∧ u = v := by
    intro t m a w v ha hv hw
    obtain ⟨u, h1, h2⟩ := results_at (P := Try.prog) (fn := Try.f43) (rs := [.tmp 4]) (R := fun e _ => e = .returned v) (by kernel_rfl) ha hw ⟨[v], .cons (.tmp hv) .nil, fun _ _ => rfl⟩
    exact ⟨u, h1, Ending.returned.inj h2⟩
  refine wpIn_seq (run_ops (C := ⟨Try.prog, 19, W, b :: M0.map (·.b)⟩) (l := r43_0) (t := argsT 0 [.pointer (some ⟨b, 0, none⟩), .func (.func g) #[] caps.toArray])
    (kn := fun t' m' => ∃ rb, t' = (4, .slice none 0 0) :: (2, .pointer (some ⟨rb, 0, none⟩)) :: argsT 0 [.pointer (some ⟨b, 0, none⟩), .func (.func g) #[] caps.toArray] ∧ m' = ck rb 56 [.one (.pointer (some ⟨b, 0, none⟩))] :: ck b T [.one v0, .one (.int .i64 at_), .one (.int .i64 ft)] :: (M0 ++ []))
    mo (by kernel_rfl) ?_ (satT_args (by kernel_rfl) rfl) h0 ?_)
  · exact wj_e (ef_bx1 rfl rfl fun rb _ => wj_q _ (q_mv rfl) (wj_nil ⟨rb, rfl, rfl⟩))
  rintro t1 m1 ⟨rb, rfl, rfl⟩ a1 w1 ha1 hw1
  refine wpIn_seq (run_ops (C := ⟨Try.prog, 19, W, b :: M0.map (·.b)⟩) (l := r43_1)
    (kn := fun t' m' => ∃ ab, (∀ j v, Sx.look [(1, .func (.func g) #[] caps.toArray), (2, .pointer (some ⟨rb, 0, none⟩)), (4, .slice none 0 0), (5, .pointer (some ⟨ab, 0, none⟩))] j = some v → Sx.look t' j = some v) ∧
      m' = ck ab 3 [.one (.int .i64 at_)] :: ck rb 56 [.one (.pointer (some ⟨b, 0, none⟩))] :: ck b T [.one v0, .one (.int .i64 at_), .one (.int .i64 ft)] :: (M0 ++ []))
    mo (by kernel_rfl) ?_ ha1 hw1 ?_)
  · refine wj_q _ (q_ld1 rfl .here rfl) ?_
    refine wj_q _ (q_nilc rfl) ?_
    refine wj_q _ (q_fa rfl) ?_
    refine wj_q _ (q_ld1 rfl (.there .here) rfl) ?_
    refine wj_e (ef_al fun ab _ => ?_)
    refine wj_e (ef_st1 (q := [.one (.int .i64 at_)]) rfl rfl rfl rfl .here ?_)
    refine wj_nil ⟨ab, ?_, rfl⟩
    intro j v hj
    match j, hj with
    | 0, hj => exact nomatch (show (none : Option Value) = some v from hj)
    | 1, hj => exact hj
    | 2, hj => exact hj
    | 3, hj => exact nomatch (show (none : Option Value) = some v from hj)
    | 4, hj => exact hj
    | 5, hj => exact hj
    | j + 6, hj => exact nomatch (show (none : Option Value) = some v from hj)
  rintro t2 m2 ⟨ab, ht2, rfl⟩ a2 w2 ha2' hw2
  have ha2 := ha2'.drop ht2
  clear ha2' ht2
  refine wpIn_seq (wpIn_region_list ?_)
  refine wl_mfdef (d := 10) (G := 48) (caps := [.tmp 5, .tmp 2]) (vs := [.pointer (some ⟨ab, 0, none⟩), .pointer (some ⟨rb, 0, none⟩)]) (by kernel_rfl) rfl rfl rfl rfl rfl (by rw [ha2.size]; show 10 < 19; decide) (ha2.evL (l := [.tmp 5, .tmp 2]) rfl) ha2.defers ?_
  have ha3 : SatT 19 _ (a2.put (some 10) (.func (.func 48) #[] #[.pointer (some ⟨ab, 0, none⟩), .pointer (some ⟨rb, 0, none⟩)])) := ha2.put (d := 10) (show 10 < 19 by decide) _
  have idle : ∀ {t m a w v}, SatT 19 t a → Sx.look t 4 = some v → Sat W (b :: M0.map (·.b)) m w → (∀ w', Sat W (b :: M0.map (·.b)) m w' → RR (.returned v) w') →
      LeavesIn (FW none) 0 Try.prog Try.f43 a.tmps RR (a.defers ++ [⟨.fn (.func 48) #[.pointer (some ⟨ab, 0, none⟩), .pointer (some ⟨rb, 0, none⟩)], #[]⟩]) .returning w := by
    intro t m a w v ha hv hw hR
    rw [ha.defers, List.nil_append]
    refine leavesIn_cons (f := 48) (args := #[.pointer (some ⟨ab, 0, none⟩), .pointer (some ⟨rb, 0, none⟩)]) (by simp) (fun e => by simp [FW, Fence.wide] at e) (by kernel_rfl) (fun _ _ => trivial) ?_
    refine (caught43_idle hw).mono ?_
    rintro e u' w' ⟨⟨v', rfl⟩, rfl, hw'⟩
    obtain ⟨u, h1, rfl⟩ := fin ha hv hw'
    exact ⟨u, h1, hR w' hw'⟩
  refine wpIn_seq (wpIn_seq (reg_defs (C := ⟨Try.prog, 19, W, b :: M0.map (·.b)⟩) (l := r43_3)
    (kn := fun t' m' => (∀ j v, Sx.look [(1, .func (.func g) #[] caps.toArray), (2, .pointer (some ⟨rb, 0, none⟩)), (4, .slice none 0 0), (15, .bool (ft != 0))] j = some v → Sx.look t' j = some v) ∧
      m' = ck ab 3 [.one (.int .i64 at_)] :: ck rb 56 [.one (.pointer (some ⟨b, 0, none⟩))] :: ck b T [.one v0, .one (.int .i64 at_), .one (.int .i64 ft)] :: (M0 ++ []))
    (by kernel_rfl) ?_ ha3 hw2 ?_))
  · refine wj_q _ (q_ld1 rfl (.there .here) rfl) ?_
    refine wj_q _ (q_nilc rfl) ?_
    refine wj_q _ (q_fa rfl) ?_
    refine wj_q _ (q_ld1 rfl (.there (.there .here)) rfl) ?_
    refine wj_q _ (q_bin rfl rfl rfl) ?_
    refine wj_nil ⟨?_, rfl⟩
    intro j v hj
    match j, hj with
    | 0, hj => exact nomatch (show (none : Option Value) = some v from hj)
    | 1, hj => exact hj
    | 2, hj => exact hj
    | 3, hj => exact nomatch (show (none : Option Value) = some v from hj)
    | 4, hj => exact hj
    | 15, hj => exact hj
    | 5, hj | 6, hj | 7, hj | 8, hj | 9, hj | 10, hj | 11, hj | 12, hj | 13, hj | 14, hj => exact nomatch (show (none : Option Value) = some v from hj)
    | j + 16, hj => exact nomatch (show (none : Option Value) = some v from hj)
  rintro t4 m4 ⟨ht4, rfl⟩ a4 w4 ha4' hw4
  have ha4 := ha4'.drop ht4
  clear ha4' ht4
  refine wpIn_cond (t := ft != 0) (by have := ha4.ev (x := .tmp 15) rfl; exact this) ?_
  by_cases hft : ft = 0
  · subst hft
    refine wpIn_skip ?_
    have hperm : List.Perm ((ck b T [.one v0, .one (.int .i64 at_), .one (.int .i64 0)] :: M0) ++ [ck ab 3 [.one (.int .i64 at_)], ck rb 56 [.one (.pointer (some ⟨b, 0, none⟩))]]) (ck ab 3 [.one (.int .i64 at_)] :: ck rb 56 [.one (.pointer (some ⟨b, 0, none⟩))] :: ck b T [.one v0, .one (.int .i64 at_), .one (.int .i64 0)] :: (M0 ++ [])) := by
      rw [List.append_nil]
      exact List.perm_append_comm
    rcases hB rfl with ⟨R, hR1, hR2⟩ | ⟨x, Rp, hR1, hR2⟩
    · refine wpIn_seq (reg_defs (C := ⟨Try.prog, 19, W, b :: M0.map (·.b)⟩) (l := r43_5)
        (kn := fun t' m' => ∃ v Ms, R v Ms ∧ Sx.look t' 4 = some v ∧ m' = appL Ms [ck ab 3 [.one (.int .i64 at_)], ck rb 56 [.one (.pointer (some ⟨b, 0, none⟩))]]) (by kernel_rfl) ?_ ha4 hw4 ?_)
      · refine wj_q _ (q_mv rfl) ?_
        refine wj_e (ef_cvS (mS := ck b T [.one v0, .one (.int .i64 at_), .one (.int .i64 0)] :: M0) hcv rfl rfl hperm (fun w hw => hR1 w hw.kept (sat_own2 hw hperm)) fun v Ms hR => ?_)
        exact wj_q _ (q_mv rfl) (wj_nil ⟨v, Ms, hR, rfl, rfl⟩)
      · rintro t5 m5 ⟨v, Ms, hR, hv, rfl⟩ a5 w5 ha5 hw5
        refine wpIn_ret ?_
        rw [← appL_eq] at hw5
        exact idle ha5 hv (hw5.sublist (List.sublist_append_left _ _)) fun w' hw' => hR2 v Ms w' hR hw'
    · refine wpIn_seq (reg_defsP (C := ⟨Try.prog, 19, W, b :: M0.map (·.b)⟩) (l := r43_5)
        (kp := fun ch t' m' => ch = [pv x] ∧ Sx.look t' 4 = some (.slice none 0 0) ∧ ∃ uw Mw z f, Rp uw Mw ∧ m' = appL [.one (ck b T [.one uw, .one (.int .i64 z), .one (.int .i64 f)]), .all Mw] [ck ab 3 [.one (.int .i64 at_)], ck rb 56 [.one (.pointer (some ⟨b, 0, none⟩))]]) (by kernel_rfl) ?_ ha4 hw4 ?_)
      · refine wjp_at 1 (wj_q _ (q_mv rfl) (wj_nil ?_))
        refine wjp_panV (mS := ck b T [.one v0, .one (.int .i64 at_), .one (.int .i64 0)] :: M0) hcv rfl rfl hperm (fun w hw => hR1 w hw.kept (sat_own2 hw hperm)) ?_
        rintro Ms ⟨uw, Mw, z, f, rfl, hRp⟩
        exact ⟨rfl, rfl, uw, Mw, z, f, hRp, rfl⟩
      · rintro ch t5 m5 ⟨rfl, hv, uw, Mw, z, f, hRp, rfl⟩ a5 w5 ha5 hw5
        show LeavesIn (FW none) 0 Try.prog Try.f43 a5.tmps RR (a5.defers ++ [_]) (.panicking [pv x]) w5
        rw [ha5.defers, List.nil_append]
        refine leavesIn_cons (f := 48) (args := #[.pointer (some ⟨ab, 0, none⟩), .pointer (some ⟨rb, 0, none⟩)]) (by simp) (fun e => by simp [FW, Fence.wide] at e) (by kernel_rfl) (fun _ _ => trivial) ?_
        have hp2 : List.Perm (ck b T [.one uw, .one (.int .i64 z), .one (.int .i64 f)] :: (Mw ++ [ck ab 3 [.one (.int .i64 at_)], ck rb 56 [.one (.pointer (some ⟨b, 0, none⟩))]])) (ck ab 3 [.one (.int .i64 at_)] :: ck rb 56 [.one (.pointer (some ⟨b, 0, none⟩))] :: ck b T [.one uw, .one (.int .i64 z), .one (.int .i64 f)] :: (Mw ++ [])) := by
          rw [List.append_nil]
          exact (List.perm_append_comm (l₁ := ck b T [.one uw, .one (.int .i64 z), .one (.int .i64 f)] :: Mw))
        refine (caught43_up (hw5.perm hp2.symm)).mono ?_
        rintro e u' w' ⟨⟨v', rfl⟩, rfl, hw'⟩
        obtain ⟨u, h1, rfl⟩ := fin ha5 hv hw'
        exact ⟨_, h1, hR2 uw Mw w' hRp hw'⟩
  · have e : (ft != 0) = true := by simpa using hft
    rw [e]
    refine wpIn_seq (reg_defs (C := ⟨Try.prog, 19, W, b :: M0.map (·.b)⟩) (l := r43_4)
      (kn := fun t' m' => Sx.look t' 4 = some (.slice none 0 0) ∧ m' = ck ab 3 [.one (.int .i64 at_)] :: ck rb 56 [.one (.pointer (some ⟨b, 0, none⟩))] :: ck b T [.one v0, .one (.int .i64 at_), .one (.int .i64 ft)] :: (M0 ++ [])) (by kernel_rfl) ?_ ha4 hw4 ?_)
    · exact wj_q _ (q_mv rfl) (wj_q _ (q_mv rfl) (wj_nil ⟨rfl, rfl⟩))
    · rintro t5 m5 ⟨hv, rfl⟩ a5 w5 ha5 hw5
      refine wpIn_ret ?_
      exact idle ha5 hv (hw5.sublist (.cons _ (.cons _ (List.Sublist.refl _)))) fun w' hw' => hA hft w' hw'

theorem caught39_idle {W0 w : World} {S : List Nat} {m : List Chunk} {pa pr : Addr} (hw : Sat W0 S m w) :
    CallsDIn (FW none) 0 Try.prog 46 #[.pointer (some pa), .pointer (some pr)] .returning w (fun e u' w' => (∃ v, e = .returned v) ∧ u' = .returning ∧ Sat W0 S m w') := by
  refine callsDIn_of_wpSIn Try.func46 rfl trivial fun c₀ cs hu => ?_
  apply wpSIn_seq
  apply wpSIn_region
  simp [wpOpsSIn, go_sem, recoverD, hu, Try.ntmps46, Exit.thenS, as_nil, al_up]
  apply wpSIn_seq
  apply wpSIn_region
  simp [wpOpsSIn, go_sem, Exit.thenS]
  refine wpSIn_cond (t := false) (by simp [Act.eval]) ?_
  simp only [Bool.false_eq_true, if_false]
  refine wpSIn_of_wpIn rfl (wpIn_skip ?_)
  have h2 := (hw.alloc (.cells #[.int .i64 0] 76 (0, 0))).sublist (List.sublist_cons_self _ _)
  cases c₀
  simp_all [bodyPostS, results, Try.results46]
theorem caught39_up {W0 w : World} {S : List Nat} {mr : List Chunk} {ab rb b : Nat} {Ta Tb T : TypeId} {v0 : Value} {z at_ ft x : Int} {older : List PanicEntry}
    (hw : Sat W0 S (ck ab Ta [.one (.int .i64 at_)] :: ck rb Tb [.one (.pointer (some ⟨b, 0, none⟩))] :: ck b T [.one v0, .one (.int .i64 z), .one (.int .i64 ft)] :: mr) w) :
    CallsDIn (FW none) 0 Try.prog 46 #[.pointer (some ⟨ab, 0, none⟩), .pointer (some ⟨rb, 0, none⟩)] (.panicking (pv x :: older)) w (fun e u' w' => (∃ v, e = .returned v) ∧ u' = .panicking ({ pv x with recovered := true } :: older) ∧ Sat W0 S (ck b T [.one v0, .one (.int .i64 at_), .one (.int .i64 x)] :: mr) w') := by
  refine callsDIn_of_wpSIn Try.func46 rfl trivial fun c₀ cs hu => ?_
  apply wpSIn_seq
  apply wpSIn_region
  simp [wpOpsSIn, go_sem, recoverD, hu, Try.ntmps46, Exit.thenS, as_up, al_up, agg, cells, Seg.cells]
  apply wpSIn_seq
  apply wpSIn_region
  simp [wpOpsSIn, go_sem, Exit.thenS]
  refine wpSIn_cond (t := true) (by simp [Act.eval]) ?_
  simp only [if_true]
  refine wpSIn_of_wpIn rfl ?_
  have hw2 := hw.alloc (.cells #[.int .i64 x] 76 (0, 0))
  refine (show WC ⟨Try.prog, 19, W0, S⟩ (.draw r46_2 [10, 7]) [(0, .pointer (some ⟨ab, 0, none⟩)), (1, .pointer (some ⟨rb, 0, none⟩)), (2, .pointer (some ⟨w.heap.size, 0, none⟩)), (3, .bool true)]
    (ck w.heap.size 76 [.one (.int .i64 x)] :: ck ab Ta [.one (.int .i64 at_)] :: ck rb Tb [.one (.pointer (some ⟨b, 0, none⟩))] :: ck b T [.one v0, .one (.int .i64 z), .one (.int .i64 ft)] :: mr)
    (fun _ m' => List.Sublist (ck b T [.one v0, .one (.int .i64 at_), .one (.int .i64 x)] :: mr) m') ⟨[], fun _ _ => False, noP⟩ from ?_) mo _ (by kernel_rfl) none 0 _ _ _ ⟨by simp, rfl, ?_⟩ hw2 ⟨?_, ?_, fun _ _ h => h.elim, fun _ _ _ h => h.elim⟩
  · refine wc_drawS (m0 := [ck w.heap.size 76 [.one (.int .i64 x)], ck ab Ta [.one (.int .i64 at_)], ck rb Tb [.one (.pointer (some ⟨b, 0, none⟩))]]) (.cons₂ _ (.cons₂ _ (.cons₂ _ (List.nil_sublist _)))) ?_
    refine ws_p1 _ (q_fa rfl) ?_
    refine ws_q1 _ (q_ld1 rfl (.there (.there .here)) rfl) ?_
    refine ws_q1 _ (q_ld1 rfl (.there (.there .here)) rfl) ?_
    refine ws_q1 _ (q_ld1 rfl (.there .here) rfl) ?_
    refine ws_p1 _ (q_nilc rfl) ?_
    refine ws_p1 _ (q_fa rfl) ?_
    refine ws_two (ef_q _ (q_ld1 rfl .here rfl) ⟨fun c hc => List.mem_append_left _ hc, ?_⟩) (ef_st1 (q := [.one v0, .one (.int .i64 at_), .one (.int .i64 ft)]) rfl rfl rfl rfl (.there (.there (.there .here))) ⟨fun c hc => List.mem_append_left _ hc, ?_⟩)
    · refine ws_eL rfl (ef_st1 (q := [.one v0, .one (.int .i64 at_), .one (.int .i64 ft)]) rfl rfl rfl rfl (.there (.there (.there .here))) ?_)
      refine ws_p1 _ (q_nilc rfl) ?_
      refine ws_p1 _ (q_fa rfl) ?_
      refine ws_eM rfl (ef_st1 (q := [.one v0, .one (.int .i64 at_), .one (.int .i64 x)]) rfl rfl rfl rfl (.there (.there (.there .here))) ?_)
      exact ws_nil (.cons _ (.cons _ (.cons _ (List.Sublist.refl _))))
    · refine ws_q1 _ (q_ld1 rfl .here rfl) ?_
      refine ws_p1 _ (q_nilc rfl) ?_
      refine ws_p1 _ (q_fa rfl) ?_
      refine ws_eL rfl (ef_st1 (q := [.one v0, .one (.int .i64 at_), .one (.int .i64 x)]) rfl rfl rfl rfl (.there (.there (.there .here))) ?_)
      exact ws_nil (.cons _ (.cons _ (.cons _ (List.Sublist.refl _))))
  · intro j v hj
    rcases look4 hj with ⟨rfl, rfl⟩ | ⟨rfl, rfl⟩ | ⟨rfl, rfl⟩ | ⟨rfl, rfl⟩ <;> simp
  · intro t' m' hs a' w' ha' hw'
    have h3 := hw'.sublist hs
    cases c₀
    simp_all [bodyPostS, results, Try.results46, ha'.defers]
  · intro id k hk; simp [lookK] at hk
theorem caught39_gen {W : World} {b : Nat} {T : TypeId} {v0 : Value} {M0 : List Chunk} {at_ ft : Int} {g : FuncId} {caps : List Value} {RR : Ending → World → Prop}
    (h0 : Sat W (b :: M0.map (·.b)) (ck b T [.one v0, .one (.int .i64 at_), .one (.int .i64 ft)] :: (M0 ++ [])) W) (hcv : cvOk Try.prog g = true)
    (hA : ft ≠ 0 → ∀ w, Sat W (b :: M0.map (·.b)) (ck b T [.one v0, .one (.int .i64 at_), .one (.int .i64 ft)] :: (M0 ++ [])) w → RR (.returned (.int .i64 0)) w)
    (hB : ft = 0 → (∃ R : Value → List Pc → Prop, (∀ w, KeptV W w (b :: M0.map (·.b)) → Sat w (b :: M0.map (·.b)) (ck b T [.one v0, .one (.int .i64 at_), .one (.int .i64 ft)] :: (M0 ++ [])) w → Calls Try.prog g caps.toArray w (retS w (b :: M0.map (·.b)) R)) ∧
        ∀ v Ms w, R v Ms → Sat W (b :: M0.map (·.b)) (appL Ms []) w → RR (.returned v) w) ∨
      (∃ (x : Int) (Rp : Value → List Chunk → Prop), (∀ w, KeptV W w (b :: M0.map (·.b)) → Sat w (b :: M0.map (·.b)) (ck b T [.one v0, .one (.int .i64 at_), .one (.int .i64 ft)] :: (M0 ++ [])) w →
          Calls Try.prog g caps.toArray w (panS w (b :: M0.map (·.b)) [pv x] (fun Ms => ∃ (uw : Value) (Mw : List Chunk) (z f : Int), Ms = [.one (ck b T [.one uw, .one (.int .i64 z), .one (.int .i64 f)]), .all Mw] ∧ Rp uw Mw))) ∧
        ∀ uw Mw w, Rp uw Mw → Sat W (b :: M0.map (·.b)) (ck b T [.one uw, .one (.int .i64 at_), .one (.int .i64 x)] :: (Mw ++ [])) w → RR (.returned (.int .i64 0)) w)) :
    Calls Try.prog 39 [.pointer (some ⟨b, 0, none⟩), .func (.func g) #[] caps.toArray].toArray W RR := by
  refine callsIn_wide.1 (callsIn_of_wp_defers (F := FW none) (n := 0) Try.func39 rfl trivial ?_)
  have fin : ∀ {t m a w v}, SatT 19 t a → Sx.look t 4 = some v → Sat W (b :: M0.map (·.b)) m w → ∃ u, (results Try.f39 a.tmps).run Try.prog w = .ok u w ∧ u = v := by
    intro t m a w v ha hv hw
    obtain ⟨u, h1, h2⟩ := results_at (P := Try.prog) (fn := Try.f39) (rs := [.tmp 4]) (R := fun e _ => e = .returned v) (by kernel_rfl) ha hw ⟨[v], .cons (.tmp hv) .nil, fun _ _ => rfl⟩
    exact ⟨u, h1, Ending.returned.inj h2⟩
  refine wpIn_seq (run_ops (C := ⟨Try.prog, 19, W, b :: M0.map (·.b)⟩) (l := r39_0) (t := argsT 0 [.pointer (some ⟨b, 0, none⟩), .func (.func g) #[] caps.toArray])
    (kn := fun t' m' => ∃ rb, t' = (4, .int .i64 0) :: (2, .pointer (some ⟨rb, 0, none⟩)) :: argsT 0 [.pointer (some ⟨b, 0, none⟩), .func (.func g) #[] caps.toArray] ∧ m' = ck rb 56 [.one (.pointer (some ⟨b, 0, none⟩))] :: ck b T [.one v0, .one (.int .i64 at_), .one (.int .i64 ft)] :: (M0 ++ []))
    mo (by kernel_rfl) ?_ (satT_args (by kernel_rfl) rfl) h0 ?_)
  · exact wj_e (ef_bx1 rfl rfl fun rb _ => wj_q _ (q_mv rfl) (wj_nil ⟨rb, rfl, rfl⟩))
  rintro t1 m1 ⟨rb, rfl, rfl⟩ a1 w1 ha1 hw1
  refine wpIn_seq (run_ops (C := ⟨Try.prog, 19, W, b :: M0.map (·.b)⟩) (l := r39_1)
    (kn := fun t' m' => ∃ ab, (∀ j v, Sx.look [(1, .func (.func g) #[] caps.toArray), (2, .pointer (some ⟨rb, 0, none⟩)), (4, .int .i64 0), (5, .pointer (some ⟨ab, 0, none⟩))] j = some v → Sx.look t' j = some v) ∧
      m' = ck ab 3 [.one (.int .i64 at_)] :: ck rb 56 [.one (.pointer (some ⟨b, 0, none⟩))] :: ck b T [.one v0, .one (.int .i64 at_), .one (.int .i64 ft)] :: (M0 ++ []))
    mo (by kernel_rfl) ?_ ha1 hw1 ?_)
  · refine wj_q _ (q_ld1 rfl .here rfl) ?_
    refine wj_q _ (q_nilc rfl) ?_
    refine wj_q _ (q_fa rfl) ?_
    refine wj_q _ (q_ld1 rfl (.there .here) rfl) ?_
    refine wj_e (ef_al fun ab _ => ?_)
    refine wj_e (ef_st1 (q := [.one (.int .i64 at_)]) rfl rfl rfl rfl .here ?_)
    refine wj_nil ⟨ab, ?_, rfl⟩
    intro j v hj
    match j, hj with
    | 0, hj => exact nomatch (show (none : Option Value) = some v from hj)
    | 1, hj => exact hj
    | 2, hj => exact hj
    | 3, hj => exact nomatch (show (none : Option Value) = some v from hj)
    | 4, hj => exact hj
    | 5, hj => exact hj
    | j + 6, hj => exact nomatch (show (none : Option Value) = some v from hj)
  rintro t2 m2 ⟨ab, ht2, rfl⟩ a2 w2 ha2' hw2
  have ha2 := ha2'.drop ht2
  clear ha2' ht2
  refine wpIn_seq (wpIn_region_list ?_)
  refine wl_mfdef (d := 10) (G := 46) (caps := [.tmp 5, .tmp 2]) (vs := [.pointer (some ⟨ab, 0, none⟩), .pointer (some ⟨rb, 0, none⟩)]) (by kernel_rfl) rfl rfl rfl rfl rfl (by rw [ha2.size]; show 10 < 19; decide) (ha2.evL (l := [.tmp 5, .tmp 2]) rfl) ha2.defers ?_
  have ha3 : SatT 19 _ (a2.put (some 10) (.func (.func 46) #[] #[.pointer (some ⟨ab, 0, none⟩), .pointer (some ⟨rb, 0, none⟩)])) := ha2.put (d := 10) (show 10 < 19 by decide) _
  have idle : ∀ {t m a w v}, SatT 19 t a → Sx.look t 4 = some v → Sat W (b :: M0.map (·.b)) m w → (∀ w', Sat W (b :: M0.map (·.b)) m w' → RR (.returned v) w') →
      LeavesIn (FW none) 0 Try.prog Try.f39 a.tmps RR (a.defers ++ [⟨.fn (.func 46) #[.pointer (some ⟨ab, 0, none⟩), .pointer (some ⟨rb, 0, none⟩)], #[]⟩]) .returning w := by
    intro t m a w v ha hv hw hR
    rw [ha.defers, List.nil_append]
    refine leavesIn_cons (f := 46) (args := #[.pointer (some ⟨ab, 0, none⟩), .pointer (some ⟨rb, 0, none⟩)]) (by simp) (fun e => by simp [FW, Fence.wide] at e) (by kernel_rfl) (fun _ _ => trivial) ?_
    refine (caught39_idle hw).mono ?_
    rintro e u' w' ⟨⟨v', rfl⟩, rfl, hw'⟩
    obtain ⟨u, h1, rfl⟩ := fin ha hv hw'
    exact ⟨u, h1, hR w' hw'⟩
  refine wpIn_seq (wpIn_seq (reg_defs (C := ⟨Try.prog, 19, W, b :: M0.map (·.b)⟩) (l := r39_3)
    (kn := fun t' m' => (∀ j v, Sx.look [(1, .func (.func g) #[] caps.toArray), (2, .pointer (some ⟨rb, 0, none⟩)), (4, .int .i64 0), (15, .bool (ft != 0))] j = some v → Sx.look t' j = some v) ∧
      m' = ck ab 3 [.one (.int .i64 at_)] :: ck rb 56 [.one (.pointer (some ⟨b, 0, none⟩))] :: ck b T [.one v0, .one (.int .i64 at_), .one (.int .i64 ft)] :: (M0 ++ []))
    (by kernel_rfl) ?_ ha3 hw2 ?_))
  · refine wj_q _ (q_ld1 rfl (.there .here) rfl) ?_
    refine wj_q _ (q_nilc rfl) ?_
    refine wj_q _ (q_fa rfl) ?_
    refine wj_q _ (q_ld1 rfl (.there (.there .here)) rfl) ?_
    refine wj_q _ (q_bin rfl rfl rfl) ?_
    refine wj_nil ⟨?_, rfl⟩
    intro j v hj
    match j, hj with
    | 0, hj => exact nomatch (show (none : Option Value) = some v from hj)
    | 1, hj => exact hj
    | 2, hj => exact hj
    | 3, hj => exact nomatch (show (none : Option Value) = some v from hj)
    | 4, hj => exact hj
    | 15, hj => exact hj
    | 5, hj | 6, hj | 7, hj | 8, hj | 9, hj | 10, hj | 11, hj | 12, hj | 13, hj | 14, hj => exact nomatch (show (none : Option Value) = some v from hj)
    | j + 16, hj => exact nomatch (show (none : Option Value) = some v from hj)
  rintro t4 m4 ⟨ht4, rfl⟩ a4 w4 ha4' hw4
  have ha4 := ha4'.drop ht4
  clear ha4' ht4
  refine wpIn_cond (t := ft != 0) (by have := ha4.ev (x := .tmp 15) rfl; exact this) ?_
  by_cases hft : ft = 0
  · subst hft
    refine wpIn_skip ?_
    have hperm : List.Perm ((ck b T [.one v0, .one (.int .i64 at_), .one (.int .i64 0)] :: M0) ++ [ck ab 3 [.one (.int .i64 at_)], ck rb 56 [.one (.pointer (some ⟨b, 0, none⟩))]]) (ck ab 3 [.one (.int .i64 at_)] :: ck rb 56 [.one (.pointer (some ⟨b, 0, none⟩))] :: ck b T [.one v0, .one (.int .i64 at_), .one (.int .i64 0)] :: (M0 ++ [])) := by
      rw [List.append_nil]
      exact List.perm_append_comm
    rcases hB rfl with ⟨R, hR1, hR2⟩ | ⟨x, Rp, hR1, hR2⟩
    · refine wpIn_seq (reg_defs (C := ⟨Try.prog, 19, W, b :: M0.map (·.b)⟩) (l := r39_5)
        (kn := fun t' m' => ∃ v Ms, R v Ms ∧ Sx.look t' 4 = some v ∧ m' = appL Ms [ck ab 3 [.one (.int .i64 at_)], ck rb 56 [.one (.pointer (some ⟨b, 0, none⟩))]]) (by kernel_rfl) ?_ ha4 hw4 ?_)
      · refine wj_q _ (q_mv rfl) ?_
        refine wj_e (ef_cvS (mS := ck b T [.one v0, .one (.int .i64 at_), .one (.int .i64 0)] :: M0) hcv rfl rfl hperm (fun w hw => hR1 w hw.kept (sat_own2 hw hperm)) fun v Ms hR => ?_)
        exact wj_q _ (q_mv rfl) (wj_nil ⟨v, Ms, hR, rfl, rfl⟩)
      · rintro t5 m5 ⟨v, Ms, hR, hv, rfl⟩ a5 w5 ha5 hw5
        refine wpIn_ret ?_
        rw [← appL_eq] at hw5
        exact idle ha5 hv (hw5.sublist (List.sublist_append_left _ _)) fun w' hw' => hR2 v Ms w' hR hw'
    · refine wpIn_seq (reg_defsP (C := ⟨Try.prog, 19, W, b :: M0.map (·.b)⟩) (l := r39_5)
        (kp := fun ch t' m' => ch = [pv x] ∧ Sx.look t' 4 = some (.int .i64 0) ∧ ∃ uw Mw z f, Rp uw Mw ∧ m' = appL [.one (ck b T [.one uw, .one (.int .i64 z), .one (.int .i64 f)]), .all Mw] [ck ab 3 [.one (.int .i64 at_)], ck rb 56 [.one (.pointer (some ⟨b, 0, none⟩))]]) (by kernel_rfl) ?_ ha4 hw4 ?_)
      · refine wjp_at 1 (wj_q _ (q_mv rfl) (wj_nil ?_))
        refine wjp_panV (mS := ck b T [.one v0, .one (.int .i64 at_), .one (.int .i64 0)] :: M0) hcv rfl rfl hperm (fun w hw => hR1 w hw.kept (sat_own2 hw hperm)) ?_
        rintro Ms ⟨uw, Mw, z, f, rfl, hRp⟩
        exact ⟨rfl, rfl, uw, Mw, z, f, hRp, rfl⟩
      · rintro ch t5 m5 ⟨rfl, hv, uw, Mw, z, f, hRp, rfl⟩ a5 w5 ha5 hw5
        show LeavesIn (FW none) 0 Try.prog Try.f39 a5.tmps RR (a5.defers ++ [_]) (.panicking [pv x]) w5
        rw [ha5.defers, List.nil_append]
        refine leavesIn_cons (f := 46) (args := #[.pointer (some ⟨ab, 0, none⟩), .pointer (some ⟨rb, 0, none⟩)]) (by simp) (fun e => by simp [FW, Fence.wide] at e) (by kernel_rfl) (fun _ _ => trivial) ?_
        have hp2 : List.Perm (ck b T [.one uw, .one (.int .i64 z), .one (.int .i64 f)] :: (Mw ++ [ck ab 3 [.one (.int .i64 at_)], ck rb 56 [.one (.pointer (some ⟨b, 0, none⟩))]])) (ck ab 3 [.one (.int .i64 at_)] :: ck rb 56 [.one (.pointer (some ⟨b, 0, none⟩))] :: ck b T [.one uw, .one (.int .i64 z), .one (.int .i64 f)] :: (Mw ++ [])) := by
          rw [List.append_nil]
          exact (List.perm_append_comm (l₁ := ck b T [.one uw, .one (.int .i64 z), .one (.int .i64 f)] :: Mw))
        refine (caught39_up (hw5.perm hp2.symm)).mono ?_
        rintro e u' w' ⟨⟨v', rfl⟩, rfl, hw'⟩
        obtain ⟨u, h1, rfl⟩ := fin ha5 hv hw'
        exact ⟨_, h1, hR2 uw Mw w' hRp hw'⟩
  · have e : (ft != 0) = true := by simpa using hft
    rw [e]
    refine wpIn_seq (reg_defs (C := ⟨Try.prog, 19, W, b :: M0.map (·.b)⟩) (l := r39_4)
      (kn := fun t' m' => Sx.look t' 4 = some (.int .i64 0) ∧ m' = ck ab 3 [.one (.int .i64 at_)] :: ck rb 56 [.one (.pointer (some ⟨b, 0, none⟩))] :: ck b T [.one v0, .one (.int .i64 at_), .one (.int .i64 ft)] :: (M0 ++ [])) (by kernel_rfl) ?_ ha4 hw4 ?_)
    · exact wj_q _ (q_mv rfl) (wj_q _ (q_mv rfl) (wj_nil ⟨rfl, rfl⟩))
    · rintro t5 m5 ⟨hv, rfl⟩ a5 w5 ha5 hw5
      refine wpIn_ret ?_
      exact idle ha5 hv (hw5.sublist (.cons _ (.cons _ (List.Sublist.refl _)))) fun w' hw' => hA hft w' hw'

end Go.Proofs.Ytiflckckekjbnaa
/- Mirrors. -/
namespace Go.Proofs.Ytiflckckekjbnaa
open Go Go.Sx Go.RowKit
set_option linter.all false
set_option maxHeartbeats 400000
set_option maxRecDepth 100000
/- farebox/fareboxlaw30.marked -/
structure api_Link where
  gEpoch : Int
  gKey : List Int
  gSig : List Int
def api_Link_z : api_Link := ⟨0, (List.replicate 32 0), (List.replicate 64 0)⟩
abbrev E_api_Link : El (api_Link) := ⟨97, fun x => cells [.one (.int .i64 (x.gEpoch)), .ints .u8 32 (x.gKey), .ints .u8 64 (x.gSig)], fun x => by rw [cells_length]; rfl, fun x => (ones_cons (ones_one rfl) (ones_cons ones_ints (ones_cons ones_ints ones_nil))), by decide, api_Link_z⟩
def fareboxlaw30_marked (p0 : List (api_Link)) : Option (((List (api_Link)) × Int)) :=
 chk (decide ((([] : List (api_Link)).length + p0.length) * 104 ≤ 140737488355328)) <|
 bnd (([] : List (api_Link)) ++ p0) fun l5 =>
 chk (decide ((l5.length + ([(⟨(-7), (List.replicate 32 0), (List.replicate 64 0)⟩ : api_Link), (⟨(-8), (List.replicate 32 0), (List.replicate 64 0)⟩ : api_Link)] : List (api_Link)).length) * 104 ≤ 140737488355328)) <|
 bnd (l5 ++ ([(⟨(-7), (List.replicate 32 0), (List.replicate 64 0)⟩ : api_Link), (⟨(-8), (List.replicate 32 0), (List.replicate 64 0)⟩ : api_Link)] : List (api_Link))) fun l14 =>
 chk (cutB 0 (p0.length : Int) l14.length) <|
 some (l14, (p0.length : Int))
theorem fareboxlaw30_marked_spec {W : World} {r : ((List (api_Link)) × Int)} {p0 : List (api_Link)} {v0 : Value} (h : fareboxlaw30_marked p0 = some r) (A0 : RdSl E_api_Link W v0 p0) :
    Calls Try.prog 4 [v0].toArray W (retS W [] (fun v Ms => ∃ (u0 : Value) (M0 : List Chunk), v = (cutSl 97 u0 0 (r.2).toNat) ∧ Ms = [.all M0] ∧ OwnSl E_api_Link u0 M0 r.1 ∧ cutB 0 r.2 (r.1).length = true)) := by
 unfold fareboxlaw30_marked at h
 refine calls_memT mo ok4 rfl (sat0 _) ?_
 refine wc_seq <| wc_ops <| wj_q _ (q_mv rfl) <| wj_nil <| wc_seq <| wc_ops <| wj_q _ (q_mv rfl) <| wj_nil <| wc_seq <| cH h fun c4 h => bH h fun l5 el5 h => wc_ops <| wj_q _ (q_mv rfl) <| wj_q _ (q_mv rfl) <| wj_e (ef_appO (E := E_api_Link) el5 rfl own_nil .here rfl (rd_arg A0 apart0) c4 fun v6 ms7 O8 => wj_q _ (q_mv rfl) <| wj_nil <| wc_seq <| cH h fun c13 h => bH h fun l14 el14 h => wc_ops <| wj_q _ (q_mv rfl) <| wj_q _ (q_bd (q := [.one (.int .i64 ((-7))), .ints .u8 32 ((List.replicate 32 0)), .ints .u8 64 ((List.replicate 64 0))]) (.one rfl rfl rfl BdR.nil)) <| wj_q _ (q_bd (q := [.one (.int .i64 ((-8))), .ints .u8 32 ((List.replicate 32 0)), .ints .u8 64 ((List.replicate 64 0))]) (.one rfl rfl rfl BdR.nil)) <| wj_e (ef_bsO (E := E_api_Link) (xs := [(⟨(-7), (List.replicate 32 0), (List.replicate 64 0)⟩ : api_Link), (⟨(-8), (List.replicate 32 0), (List.replicate 64 0)⟩ : api_Link)]) (.agg rfl rfl rfl (.agg rfl rfl rfl BdR.nil)) (.cons (p := [.one (.int .i64 ((-7))), .ints .u8 32 ((List.replicate 32 0)), .ints .u8 64 ((List.replicate 64 0))]) rfl (.cons (p := [.one (.int .i64 ((-8))), .ints .u8 32 ((List.replicate 32 0)), .ints .u8 64 ((List.replicate 64 0))]) rfl .nil)) rfl fun v10 ms11 O12 => wj_e (ef_appO (E := E_api_Link) el14 rfl O8 (.app .here) rfl (rd_own O12 .here) c13 fun v15 ms16 O17 => wj_q _ (q_mv rfl) <| wj_nil <| wc_seq <| cH h fun c19 h => wc_ops <| wj_q _ (q_mv rfl) <| wj_q _ (q_mv rfl) <| wj_q _ (q_lenP rfl (Shp.rd A0)) <| wj_q _ (q_slsP (lz := 0) (hz := (p0.length : Int)) rfl (Shp.own O17) .no (.yes rfl) c19) <| wj_q _ (q_mv rfl) <| wj_nil <| wc_ret ?_)))
 revert h; refine ret_i fun h => ?_
 subst h
 exact ⟨_, _, (.cons (.tmp rfl) .nil), (.all .here .nil), ⟨_, rfl, ⟨v15, ms16, rfl, rfl, O17, c19⟩⟩⟩
/- farebox/wire.NewWriter -/
structure wire_Writer where
  gbytes : List Int
  gfault : Int
def wire_NewWriter  : Option (wire_Writer) :=
 some (⟨[], 0⟩ : wire_Writer)
theorem wire_NewWriter_spec {W : World} {r : wire_Writer} (h : wire_NewWriter  = some r)  :
    Calls Try.prog 15 [].toArray W (retS W [] (fun v Ms => ∃ (b0 : Nat) (T0 : TypeId) (u0 : Value) (M0 : List Chunk), v = .pointer (some ⟨b0, 0, none⟩) ∧ Ms = [.one (ck b0 T0 [.one (u0), .one (.int .i64 (r.gfault))]), .all M0] ∧ OwnSl (El.int .u8) u0 M0 r.gbytes)) := by
 unfold wire_NewWriter at h
 refine calls_memT mo ok15 rfl (sat0 _) ?_
 refine wc_seq <| wc_ops <| wj_q _ (q_mv rfl) <| wj_nil <| wc_seq <| wc_ops <| wj_q _ (q_bd (q := [.one (.slice none 0 0), .one (.int .i64 (0))]) BdR.nil) <| wj_e (ef_bx (s := [.one (.slice none 0 0), .one (.int .i64 (0))]) rfl fun b3 hb3 => wj_q _ (q_mv rfl) <| wj_nil <| wc_ret ?_)
 revert h; refine ret_i fun h => ?_
 subst h
 exact ⟨_, _, (.cons (.tmp rfl) .nil), (.one .here (.no .nil)), ⟨_, rfl, ⟨b3, 65, (.slice none 0 0), [], rfl, rfl, own_nil⟩⟩⟩
/- (*farebox/wire.Writer).lay -/
def wire_Writer_lay (p0 : wire_Writer) (p1 : List Int) : Option (wire_Writer) :=
 br ((p0.gfault == 0)) (
 chk (decide ((p0.gbytes.length + p1.length) * 1 ≤ 140737488355328)) <|
 bnd (p0.gbytes ++ p1) fun l5 =>
 some (⟨l5, p0.gfault⟩ : wire_Writer)
 ) (
 some p0
 )
theorem wire_Writer_lay_spec {W : World} {r : wire_Writer} {p0 : wire_Writer} {p1 : List Int} {v0 : Value} {M0 : List Chunk} {v1 : Value} {b : Nat} {T : TypeId} (h : wire_Writer_lay p0 p1 = some r) (h0 : Sat W (b :: M0.map (·.b)) (ck b T [.one (v0), .one (.int .i64 (p0.gfault))] :: (M0 ++ [])) W) (O0 : OwnSl (El.int .u8) v0 M0 p0.gbytes) (A1 : RdSl (El.int .u8) W v1 p1 ∧ Apart v1 p1 (b :: M0.map (·.b))) :
    Calls Try.prog 33 [.pointer (some ⟨b, 0, none⟩), v1].toArray W (retS W (b :: M0.map (·.b)) (fun v Ms => ∃ (uw : Value) (Mw : List Chunk), v = .tuple #[] ∧ Ms = [.one (ck b T [.one (uw), .one (.int .i64 (r.gfault))]), .all Mw] ∧ OwnSl (El.int .u8) uw Mw r.gbytes)) := by
 unfold wire_Writer_lay at h
 refine calls_memT mo ok33 rfl h0 ?_
 refine wc_seq <| wc_ops <| wj_q _ (q_mv rfl) <| wj_q _ (q_nilc rfl) <| wj_q _ (q_fa rfl) <| wj_q _ (q_ld1 rfl .here rfl) <| wj_q _ (q_bin rfl rfl rfl) <| wj_nil <| wc_br h rfl (fun h => ?_) (fun h => ?_)
 ·refine cH h fun c4 h => bH h fun l5 el5 h => wc_ops <| wj_q _ (q_mv rfl) <| wj_q _ (q_mv rfl) <| wj_q _ (q_nilc rfl) <| wj_q _ (q_fa rfl) <| wj_q _ (q_ld1 rfl .here rfl) <| wj_q _ (q_mv rfl) <| wj_e (ef_appO (E := (El.int .u8)) el5 rfl O0 (.there .here) rfl (rd_arg A1.1 A1.2) c4 fun v6 ms7 O8 => wj_q _ (q_nilc rfl) <| wj_q _ (q_fa rfl) <| wj_e (ef_st1 (q := [.one (v6), .one (.int .i64 (p0.gfault))]) rfl rfl (IsSl.one1 (OwnSl.isSl O8)) rfl (.app .here) <| wj_nil ?_))
  revert h; refine ret_i fun h => ?_
  subst h
  exact ⟨_, _, .nil, (.one (.app .here) (.all .here .nil)), ⟨_, rfl, ⟨v6, ms7, rfl, rfl, O8⟩⟩⟩
 ·refine wc_skip ?_
  revert h; refine ret_i fun h => ?_
  subst h
  exact ⟨_, _, .nil, (.one .here (.all .here .nil)), ⟨_, rfl, ⟨v0, M0, rfl, rfl, O0⟩⟩⟩
/- (*farebox/wire.Writer).Fixed -/
def wire_Writer_Fixed (p0 : wire_Writer) (p1 : List Int) : Option (wire_Writer) :=
 opt (wire_Writer_lay p0 p1) fun y2 =>
 some y2
theorem wire_Writer_Fixed_spec {W : World} {r : wire_Writer} {p0 : wire_Writer} {p1 : List Int} {v0 : Value} {M0 : List Chunk} {v1 : Value} {b : Nat} {T : TypeId} (h : wire_Writer_Fixed p0 p1 = some r) (h0 : Sat W (b :: M0.map (·.b)) (ck b T [.one (v0), .one (.int .i64 (p0.gfault))] :: (M0 ++ [])) W) (O0 : OwnSl (El.int .u8) v0 M0 p0.gbytes) (A1 : RdSl (El.int .u8) W v1 p1 ∧ Apart v1 p1 (b :: M0.map (·.b))) :
    Calls Try.prog 16 [.pointer (some ⟨b, 0, none⟩), v1].toArray W (retS W (b :: M0.map (·.b)) (fun v Ms => ∃ (uw : Value) (Mw : List Chunk), v = .tuple #[] ∧ Ms = [.one (ck b T [.one (uw), .one (.int .i64 (r.gfault))]), .all Mw] ∧ OwnSl (El.int .u8) uw Mw r.gbytes)) := by
 unfold wire_Writer_Fixed at h
 refine calls_memT mo ok16 rfl h0 ?_
 refine oH h fun y2 ey2 h => wc_ops <| wj_q _ (q_mv rfl) <| wj_q _ (q_mv rfl) <| wj_e (ef_callS (mS := _ :: M0) rfl (perm2 .here .here) (fun w hw => wire_Writer_lay_spec  ey2 (sat_own2 hw (perm2 .here .here)) O0 ⟨(rd_arg A1.1 A1.2) w hw, (apart2 (apart_arg1 (E := (El.int .u8)) A1.1 A1.2 .here hw) (apart_args (E := (El.int .u8)) A1.1 A1.2 (.there .here) hw))⟩) fun v3 Msv3 R4 => ?_)
 obtain ⟨v5, ms6, rfl, rfl, O7⟩ := R4
 refine wj_nil ?_
 revert h; refine ret_i fun h => ?_
 subst h
 exact ⟨_, _, .nil, (.one .here (.all .here .nil)), ⟨_, rfl, ⟨v5, ms6, rfl, rfl, O7⟩⟩⟩
/- farebox/wire.Head -/
def wire_Head (p0 : Int) : Option ((List Int)) :=
 br (((decide (p0 < 1)) || (decide (p0 > 255)))) (
 some []
 ) (
 bnd (IntKind.wrap .u8 p0) fun z6 =>
 some ([70, 66, 1, z6] : List (Int))
 )
theorem wire_Head_spec {W : World} {r : (List Int)} {p0 : Int} (h : wire_Head p0 = some r)  :
    Calls Try.prog 17 [.int .i64 (p0)].toArray W (retS W [] (fun v Ms => ∃ (u0 : Value) (M0 : List Chunk), v = u0 ∧ Ms = [.all M0] ∧ OwnSl (El.int .u8) u0 M0 r)) := by
 unfold wire_Head at h
 refine calls_memT mo ok17 rfl (sat0 _) ?_
 refine wc_seq <| wc_ops <| wj_q _ (q_mv rfl) <| wj_nil <| wc_seq <| wc_seq <| wc_ops <| wj_q _ (q_mv rfl) <| wj_q _ (q_bin rfl rfl rfl) <| wj_q _ (q_mv rfl) <| wj_or rfl rfl rfl (fun hg1 => qj_g rfl _ (q_mv rfl) (qj_g rfl _ (q_bin rfl rfl rfl) (qj_nil))) (fun hg1 => rfl) rfl <| wj_nil <| wc_br h rfl (fun h => ?_) (fun h => ?_)
 ·refine wc_seq <| wc_ops <| wj_q _ (q_mv rfl) <| wj_nil <| wc_ret ?_
  revert h; refine ret_i fun h => ?_
  subst h
  exact ⟨_, _, (.cons (.tmp rfl) .nil), (.no .nil), ⟨_, rfl, ⟨(.slice none 0 0), [], rfl, rfl, own_nil⟩⟩⟩
 ·refine wc_skip <| wc_seq <| bH h fun z6 ez6 h => wc_ops <| wj_q _ (q_mv rfl) <| wj_q _ (iz ez6 (q_conv rfl)) <| wj_e (ef_bsO (E := (El.int .u8)) (xs := [70, 66, 1, z6]) (.one rfl rfl rfl (.one rfl rfl rfl (.one rfl rfl rfl (.one rfl rfl rfl BdR.nil)))) (.cons (p := [.one (.int .u8 (70))]) rfl (.cons (p := [.one (.int .u8 (66))]) rfl (.cons (p := [.one (.int .u8 (1))]) rfl (.cons (p := [.one (.int .u8 (z6))]) rfl .nil)))) rfl fun v7 ms8 O9 => wj_q _ (q_mv rfl) <| wj_nil <| wc_ret ?_)
  revert h; refine ret_i fun h => ?_
  subst h
  exact ⟨_, _, (.cons (.tmp rfl) .nil), (.all .here .nil), ⟨_, rfl, ⟨v7, ms8, rfl, rfl, O9⟩⟩⟩
/- (*farebox/wire.Writer).fail -/
def wire_Writer_fail (p0 : wire_Writer) (p1 : Int) : Option (wire_Writer) :=
 br ((p0.gfault == 0)) (
 some (⟨p0.gbytes, p1⟩ : wire_Writer)
 ) (
 some p0
 )
theorem wire_Writer_fail_spec {W : World} {r : wire_Writer} {p0 : wire_Writer} {p1 : Int} {v0 : Value} {M0 : List Chunk} {b : Nat} {T : TypeId} (h : wire_Writer_fail p0 p1 = some r) (h0 : Sat W (b :: M0.map (·.b)) (ck b T [.one (v0), .one (.int .i64 (p0.gfault))] :: (M0 ++ [])) W) (O0 : OwnSl (El.int .u8) v0 M0 p0.gbytes) :
    Calls Try.prog 34 [.pointer (some ⟨b, 0, none⟩), .int .i64 (p1)].toArray W (retS W (b :: M0.map (·.b)) (fun v Ms => ∃ (uw : Value) (Mw : List Chunk), v = .tuple #[] ∧ Ms = [.one (ck b T [.one (uw), .one (.int .i64 (r.gfault))]), .all Mw] ∧ OwnSl (El.int .u8) uw Mw r.gbytes)) := by
 unfold wire_Writer_fail at h
 refine calls_memT mo ok34 rfl h0 ?_
 refine wc_seq <| wc_ops <| wj_q _ (q_mv rfl) <| wj_q _ (q_nilc rfl) <| wj_q _ (q_fa rfl) <| wj_q _ (q_ld1 rfl .here rfl) <| wj_q _ (q_bin rfl rfl rfl) <| wj_nil <| wc_br h rfl (fun h => ?_) (fun h => ?_)
 ·refine wc_ops <| wj_q _ (q_mv rfl) <| wj_q _ (q_mv rfl) <| wj_q _ (q_nilc rfl) <| wj_q _ (q_fa rfl) <| wj_e (ef_st1 (q := [.one (v0), .one (.int .i64 (p1))]) rfl rfl rfl rfl .here <| wj_nil ?_)
  revert h; refine ret_i fun h => ?_
  subst h
  exact ⟨_, _, .nil, (.one .here (.all .here .nil)), ⟨_, rfl, ⟨v0, M0, rfl, rfl, O0⟩⟩⟩
 ·refine wc_skip ?_
  revert h; refine ret_i fun h => ?_
  subst h
  exact ⟨_, _, .nil, (.one .here (.all .here .nil)), ⟨_, rfl, ⟨v0, M0, rfl, rfl, O0⟩⟩⟩
/- (*farebox/wire.Writer).Uint -/
def wire_Writer_Uint_b1 (k69 : (Int) → (List (Int)) → (Int) → Option (wire_Writer)) (k114 : (Int) → (List (Int)) → (Int) → Option (wire_Writer)) (i108 : Int) (l111 : List (Int)) (i113 : Int) : Option (wire_Writer) :=
 br ((decide (i108 ≥ 128))) (
 bnd (IntKind.wrap .u8 i108) fun z119 =>
 bnd (bitsV .or .u8 z119 128) fun z120 =>
 opt (wire_Writer_lay (⟨l111, i113⟩ : wire_Writer) ([z120] : List (Int))) fun y124 =>
 bnd (shrV .u64 i108 7) fun z131 =>
 k114 z131 y124.gbytes y124.gfault
 ) (
 k69 i108 l111 i113
 )
def wire_Writer_Uint_l1 (k69 : (Int) → (List (Int)) → (Int) → Option (wire_Writer)) : Nat → (Int) → (List (Int)) → (Int) → Option (wire_Writer)
  | 0, _, _, _ => none
  | n + 1, i108, l111, i113 => wire_Writer_Uint_b1 k69 (wire_Writer_Uint_l1 k69 n) i108 l111 i113
def wire_Writer_Uint (p0 : wire_Writer) (p1 : Int) : Option (wire_Writer) :=
 jn (fun (i63 : Int) (l66 : List (Int)) (i68 : Int) => bnd (IntKind.wrap .u8 i63) fun z133 =>
 opt (wire_Writer_lay (⟨l66, i68⟩ : wire_Writer) ([z133] : List (Int))) fun y137 =>
 some y137) fun k69 => wire_Writer_Uint_l1 k69 big p1 p0.gbytes p0.gfault
theorem wire_Writer_Uint_spec {W : World} {r : wire_Writer} {p0 : wire_Writer} {p1 : Int} {v0 : Value} {M0 : List Chunk} {b : Nat} {T : TypeId} (h : wire_Writer_Uint p0 p1 = some r) (h0 : Sat W (b :: M0.map (·.b)) (ck b T [.one (v0), .one (.int .i64 (p0.gfault))] :: (M0 ++ [])) W) (O0 : OwnSl (El.int .u8) v0 M0 p0.gbytes) :
    Calls Try.prog 35 [.pointer (some ⟨b, 0, none⟩), .int .u64 (p1)].toArray W (retS W (b :: M0.map (·.b)) (fun v Ms => ∃ (uw : Value) (Mw : List Chunk), v = .tuple #[] ∧ Ms = [.one (ck b T [.one (uw), .one (.int .i64 (r.gfault))]), .all Mw] ∧ OwnSl (El.int .u8) uw Mw r.gbytes)) := by
 unfold wire_Writer_Uint at h
 refine calls_memT mo ok35 rfl h0 ?_
 refine wc_seq <| jH h fun k69 qk69 h => wc_mono2 (G := fun t m => ∃ (i63 : Int) (l66 : List (Int)) (i68 : Int) (v64 : Value) (ms65 : List Chunk), k69 i63 l66 i68 = some r ∧ OwnSl (El.int .u8) v64 ms65 l66 ∧ Fit [(0, .pointer (some ⟨b, 0, none⟩)), (1, .int .u64 (i63))] (ck b T [.one (v64), .one (.int .i64 (i68))] :: (ms65 ++ [])) t m) ?_ ?_
 ·refine wc_block <| wc_loopJ (fun n115 t m => ∃ (i108 : Int) (l111 : List (Int)) (i113 : Int) (v109 : Value) (ms110 : List Chunk), wire_Writer_Uint_l1 k69 n115 i108 l111 i113 = some r ∧ OwnSl (El.int .u8) v109 ms110 l111 ∧ Fit [(0, .pointer (some ⟨b, 0, none⟩)), (1, .int .u64 (i108))] (ck b T [.one (v109), .one (.int .i64 (i113))] :: (ms110 ++ [])) t m) big ?_ ?_
  ·exact ⟨p1, p0.gbytes, p0.gfault, v0, M0, h, O0, ⟨⟨rfl, rfl, trivial⟩, (.one .here (.all .here .nil))⟩⟩
  ·rintro n115 t m ⟨i108, l111, i113, v109, ms110, h, O112, hF⟩
   refine wc_fit hF ?_
   clear hF
   rcases n115 with _ | n115
   · exact none_i h
   have h : wire_Writer_Uint_b1 k69 (wire_Writer_Uint_l1 k69 n115) i108 l111 i113 = some r := h
   unfold wire_Writer_Uint_b1 at h
   obtain ⟨k114, qk114⟩ : ∃ k, k = wire_Writer_Uint_l1 k69 n115 := ⟨_, rfl⟩
   try rw [← qk114] at h
   refine wc_seq <| wc_seq <| wc_ops <| wj_q _ (q_mv rfl) <| wj_q _ (q_bin rfl rfl rfl) <| wj_nil <| wc_br h rfl (fun h => ?_) (fun h => ?_)
   ·refine wc_skip <| wc_block <| wc_seq <| bH h fun z119 ez119 h => bH h fun z120 ez120 h => oH h fun y124 ey124 h => wc_ops <| wj_q _ (q_mv rfl) <| wj_q _ (q_mv rfl) <| wj_q _ (iz ez119 (q_conv rfl)) <| wj_q _ (iz ez120 (q_bin rfl rfl rfl)) <| wj_e (ef_bsO (E := (El.int .u8)) (xs := [z120]) (.one rfl rfl rfl BdR.nil) (.cons (p := [.one (.int .u8 (z120))]) rfl .nil) rfl fun v121 ms122 O123 => wj_e (ef_callS (mS := _ :: ms110) rfl (perm2 (.app .here) (.app .here)) (fun w hw => wire_Writer_lay_spec (p0 := (⟨l111, i113⟩ : wire_Writer)) ey124 (sat_own2 hw (perm2 (.app .here) (.app .here))) O112 ⟨(rd_own O123 .here) w hw, (apart2 (apart_own (E := (El.int .u8)) O123 .here .here hw) (apart_owns (E := (El.int .u8)) O123 .here (.there .here) hw))⟩) fun v125 Msv125 R126 => ?_))
    obtain ⟨v127, ms128, rfl, rfl, O129⟩ := R126
    refine wj_nil <| bH h fun z131 ez131 h => wc_ops <| wj_q _ (q_mv rfl) <| wj_q _ (iz ez131 (q_shr rfl rfl (by decide))) <| wj_q _ (q_mv rfl) <| wj_nil ?_
    rw [qk114] at h
    exact ⟨n115, Nat.lt_succ_self _, z131, y124.gbytes, y124.gfault, v127, ms128, h, O129, ⟨⟨rfl, rfl, trivial⟩, (.one .here (.all .here .nil))⟩⟩
   ·exact wc_exit _ rfl <| ⟨i108, l111, i113, v109, ms110, h, O112, ⟨⟨rfl, rfl, trivial⟩, (.one .here (.all .here .nil))⟩⟩
 ·rintro t m ⟨i63, l66, i68, v64, ms65, h, O67, hF⟩
  refine wc_fit hF ?_
  clear hF
  subst qk69
  refine bH h fun z133 ez133 h => oH h fun y137 ey137 h => wc_ops <| wj_q _ (q_mv rfl) <| wj_q _ (q_mv rfl) <| wj_q _ (iz ez133 (q_conv rfl)) <| wj_e (ef_bsO (E := (El.int .u8)) (xs := [z133]) (.one rfl rfl rfl BdR.nil) (.cons (p := [.one (.int .u8 (z133))]) rfl .nil) rfl fun v134 ms135 O136 => wj_e (ef_callS (mS := _ :: ms65) rfl (perm2 (.app .here) (.app .here)) (fun w hw => wire_Writer_lay_spec (p0 := (⟨l66, i68⟩ : wire_Writer)) ey137 (sat_own2 hw (perm2 (.app .here) (.app .here))) O67 ⟨(rd_own O136 .here) w hw, (apart2 (apart_own (E := (El.int .u8)) O136 .here .here hw) (apart_owns (E := (El.int .u8)) O136 .here (.there .here) hw))⟩) fun v138 Msv138 R139 => ?_))
  obtain ⟨v140, ms141, rfl, rfl, O142⟩ := R139
  refine wj_nil ?_
  revert h; refine ret_i fun h => ?_
  subst h
  exact ⟨_, _, .nil, (.one .here (.all .here .nil)), ⟨_, rfl, ⟨v140, ms141, rfl, rfl, O142⟩⟩⟩
/- farebox/rotate.Encode$1 -/
def rotate_Encode_1 (p0 : wire_Writer) (p1 : api_Link) : Option (wire_Writer) :=
 opt (wire_Writer_Fixed p0 (tk p1.gKey 0 32)) fun y4 =>
 opt (wire_Writer_Fixed y4 (tk p1.gSig 0 64)) fun y11 =>
 some y11
theorem rotate_Encode_1_spec {W : World} {r : wire_Writer} {p0 : wire_Writer} {p1 : api_Link} {v0 : Value} {M0 : List Chunk} {b : Nat} {T : TypeId} (h : rotate_Encode_1 p0 p1 = some r) (h0 : Sat W (b :: M0.map (·.b)) (ck b T [.one (v0), .one (.int .i64 (p0.gfault))] :: (M0 ++ [])) W) (O0 : OwnSl (El.int .u8) v0 M0 p0.gbytes) :
    Calls Try.prog 19 [.pointer (some ⟨b, 0, none⟩), agg [.one (.int .i64 (p1.gEpoch)), .ints .u8 32 (p1.gKey), .ints .u8 64 (p1.gSig)]].toArray W (retS W (b :: M0.map (·.b)) (fun v Ms => ∃ (uw : Value) (Mw : List Chunk), v = .tuple #[] ∧ Ms = [.one (ck b T [.one (uw), .one (.int .i64 (r.gfault))]), .all Mw] ∧ OwnSl (El.int .u8) uw Mw r.gbytes)) := by
 unfold rotate_Encode_1 at h
 refine calls_memT mo ok19 rfl h0 ?_
 refine wc_seq <| wc_ops <| wj_e (ef_bx (s := [.one (.int .i64 (p1.gEpoch)), .ints .u8 32 (p1.gKey), .ints .u8 64 (p1.gSig)]) rfl fun b2 hb2 => wj_nil <| wc_seq <| oH h fun y4 ey4 h => wc_ops <| wj_q _ (q_mv rfl) <| wj_q _ (q_fa rfl) <| wj_q _ (q_sla rfl .no .no .no (by simp) (by decide)) <| wj_e (ef_callS (mS := _ :: M0) rfl (perm2 (.there .here) (.there .here)) (fun w hw => wire_Writer_Fixed_spec  ey4 (sat_own2 hw (perm2 (.there .here) (.there .here))) O0 ⟨(rd_blk_i (s := [.one (.int .i64 (p1.gEpoch)), .ints .u8 32 (p1.gKey), .ints .u8 64 (p1.gSig)]) (N := 32) (k := .u8) (base := 1) (lo := 0) (hi := 32) (mz := 32) .here rfl (by decide)) w hw, (apart2 (apart_blk1 .here .here hw slAddr_block) (apart_blks .here (.there .here) hw slAddr_block))⟩) fun v5 Msv5 R6 => ?_))
 obtain ⟨v7, ms8, rfl, rfl, O9⟩ := R6
 refine wj_nil <| oH h fun y11 ey11 h => wc_ops <| wj_q _ (q_mv rfl) <| wj_q _ (q_fa rfl) <| wj_q _ (q_sla rfl .no .no .no (by simp) (by decide)) <| wj_e (ef_callS (mS := _ :: ms8) rfl (perm2 .here .here) (fun w hw => wire_Writer_Fixed_spec  ey11 (sat_own2 hw (perm2 .here .here)) O9 ⟨(rd_blk_i (s := [.one (.int .i64 (p1.gEpoch)), .ints .u8 32 (p1.gKey), .ints .u8 64 (p1.gSig)]) (N := 64) (k := .u8) (base := 33) (lo := 0) (hi := 64) (mz := 64) (.there (.app .here)) rfl (by decide)) w hw, (apart2 (apart_blk1 (.there (.app .here)) .here hw slAddr_block) (apart_blks (.there (.app .here)) (.there .here) hw slAddr_block))⟩) fun v12 Msv12 R13 => ?_)
 obtain ⟨v14, ms15, rfl, rfl, O16⟩ := R13
 refine wj_nil ?_
 revert h; refine ret_i fun h => ?_
 subst h
 exact ⟨_, _, .nil, (.one .here (.all .here .nil)), ⟨_, rfl, ⟨v14, ms15, rfl, rfl, O16⟩⟩⟩
/- farebox/wire.PutList[farebox/api.Link] -/
def wire_PutList_api_Link_b1 (p1 : List (api_Link)) (k78 : (Int) → (List (Int)) → (Int) → Option (wire_Writer)) (i72 : Int) (l75 : List (Int)) (i77 : Int) : Option (wire_Writer) :=
 br ((decide (i72 < (p1.length : Int)))) (
 chk (inB i72 p1.length) <|
 bnd (p1.getD (i72).toNat api_Link_z) fun x84 =>
 br ((i77 != 0)) (
 some (⟨l75, i77⟩ : wire_Writer)
 ) (
 opt (rotate_Encode_1 (⟨l75, i77⟩ : wire_Writer) x84) fun y89 =>
 bnd (IntKind.wrap .i64 (i72 + 1)) fun z96 =>
 k78 z96 y89.gbytes y89.gfault
 )
 ) (
 some (⟨l75, i77⟩ : wire_Writer)
 )
def wire_PutList_api_Link_l1 (p1 : List (api_Link)) : Nat → (Int) → (List (Int)) → (Int) → Option (wire_Writer)
  | 0, _, _, _ => none
  | n + 1, i72, l75, i77 => wire_PutList_api_Link_b1 p1 (wire_PutList_api_Link_l1 p1 n) i72 l75 i77
def wire_PutList_api_Link (p0 : wire_Writer) (p1 : List (api_Link)) (p2 : Int) : Option (wire_Writer) :=
 jn (fun (l12 : List (Int)) (i14 : Int) => bnd (IntKind.wrap .u64 (p1.length : Int)) fun z25 =>
 opt (wire_Writer_Uint (⟨l12, i14⟩ : wire_Writer) z25) fun y26 =>
 wire_PutList_api_Link_l1 p1 big 0 y26.gbytes y26.gfault) fun k15 => br ((decide ((p1.length : Int) > p2))) (
 opt (wire_Writer_fail p0 1) fun y18 =>
 k15 y18.gbytes y18.gfault
 ) (
 k15 p0.gbytes p0.gfault
 )
theorem wire_PutList_api_Link_spec {W : World} {r : wire_Writer} {p0 : wire_Writer} {p1 : List (api_Link)} {p2 : Int} {v0 : Value} {M0 : List Chunk} {v1 : Value} {b : Nat} {T : TypeId} (h : wire_PutList_api_Link p0 p1 p2 = some r) (h0 : Sat W (b :: M0.map (·.b)) (ck b T [.one (v0), .one (.int .i64 (p0.gfault))] :: (M0 ++ [])) W) (O0 : OwnSl (El.int .u8) v0 M0 p0.gbytes) (A1 : RdSl E_api_Link W v1 p1 ∧ Apart v1 p1 (b :: M0.map (·.b))) :
    Calls Try.prog 18 [.pointer (some ⟨b, 0, none⟩), v1, .int .i64 (p2), .func (.func 19) #[] #[]].toArray W (retS W (b :: M0.map (·.b)) (fun v Ms => ∃ (uw : Value) (Mw : List Chunk), v = .tuple #[] ∧ Ms = [.one (ck b T [.one (uw), .one (.int .i64 (r.gfault))]), .all Mw] ∧ OwnSl (El.int .u8) uw Mw r.gbytes)) := by
 unfold wire_PutList_api_Link at h
 refine calls_memT mo ok18 rfl h0 ?_
 refine wc_seq <| wc_seq <| wc_ops <| wj_q _ (q_mv rfl) <| wj_q _ (q_lenP rfl (Shp.rd A1.1)) <| wj_q _ (q_mv rfl) <| wj_q _ (q_bin rfl rfl rfl) <| wj_nil <| jH h fun k15 qk15 h => wc_mono2 (G := fun t m => ∃ (l12 : List (Int)) (i14 : Int) (v10 : Value) (ms11 : List Chunk), k15 l12 i14 = some r ∧ OwnSl (El.int .u8) v10 ms11 l12 ∧ Fit [(0, .pointer (some ⟨b, 0, none⟩)), (1, v1), (3, .func (.func 19) #[] #[])] (ck b T [.one (v10), .one (.int .i64 (i14))] :: (ms11 ++ [])) t m) ?_ ?_
 ·refine wc_br h rfl (fun h => ?_) (fun h => ?_)
  ·refine oH h fun y18 ey18 h => wc_ops <| wj_q _ (q_mv rfl) <| wj_e (ef_callS (mS := _ :: M0) rfl (perm2 .here .here) (fun w hw => wire_Writer_fail_spec  ey18 (sat_own2 hw (perm2 .here .here)) O0) fun v19 Msv19 R20 => ?_)
   obtain ⟨v21, ms22, rfl, rfl, O23⟩ := R20
   exact wj_nil <| ⟨y18.gbytes, y18.gfault, v21, ms22, h, O23, ⟨⟨rfl, rfl, rfl, trivial⟩, (.one .here (.all .here .nil))⟩⟩
  ·exact wc_skip <| ⟨p0.gbytes, p0.gfault, v0, M0, h, O0, ⟨⟨rfl, rfl, rfl, trivial⟩, (.one .here (.all .here .nil))⟩⟩
 ·rintro t m ⟨l12, i14, v10, ms11, h, O13, hF⟩
  refine wc_fit hF ?_
  clear hF
  subst qk15
  refine wc_seq <| bH h fun z25 ez25 h => oH h fun y26 ey26 h => wc_ops <| wj_q _ (q_mv rfl) <| wj_q _ (q_mv rfl) <| wj_q _ (q_lenP rfl (Shp.rd A1.1)) <| wj_q _ (iz ez25 (q_conv rfl)) <| wj_e (ef_callS (mS := _ :: ms11) rfl (perm2 .here .here) (fun w hw => wire_Writer_Uint_spec (p0 := (⟨l12, i14⟩ : wire_Writer)) ey26 (sat_own2 hw (perm2 .here .here)) O13) fun v27 Msv27 R28 => ?_)
  obtain ⟨v29, ms30, rfl, rfl, O31⟩ := R28
  refine wj_nil <| wc_seq <| wc_ops <| wj_q _ (q_mv rfl) <| wj_q _ (q_lenP rfl (Shp.rd A1.1)) <| wj_q _ (q_mv rfl) <| wj_nil <| wc_block <| wc_loopJ (fun n79 t m => ∃ (i72 : Int) (l75 : List (Int)) (i77 : Int) (v73 : Value) (ms74 : List Chunk), wire_PutList_api_Link_l1 p1 n79 i72 l75 i77 = some r ∧ OwnSl (El.int .u8) v73 ms74 l75 ∧ Fit [(0, .pointer (some ⟨b, 0, none⟩)), (3, .func (.func 19) #[] #[]), (21, v1), (22, .int .i64 ((p1.length : Int))), (23, .int .i64 (i72))] (ck b T [.one (v73), .one (.int .i64 (i77))] :: (ms74 ++ [])) t m) big ?_ ?_
  ·exact ⟨0, y26.gbytes, y26.gfault, v29, ms30, h, O31, ⟨⟨rfl, rfl, rfl, rfl, rfl, trivial⟩, (.one .here (.all .here .nil))⟩⟩
  ·rintro n79 t m ⟨i72, l75, i77, v73, ms74, h, O76, hF⟩
   refine wc_fit hF ?_
   clear hF
   rcases n79 with _ | n79
   · exact none_i h
   have h : wire_PutList_api_Link_b1 p1 (wire_PutList_api_Link_l1 p1 n79) i72 l75 i77 = some r := h
   unfold wire_PutList_api_Link_b1 at h
   obtain ⟨k78, qk78⟩ : ∃ k, k = wire_PutList_api_Link_l1 p1 n79 := ⟨_, rfl⟩
   try rw [← qk78] at h
   refine wc_seq <| wc_ops <| wj_q _ (q_bin rfl rfl rfl) <| wj_nil <| wc_seq <| wc_br h rfl (fun h => ?_) (fun h => ?_)
   ·refine wc_skip <| wc_seq <| wc_block <| wc_seq <| cH h fun c83 h => bH h fun x84 ex84 h => wc_ops <| wj_q _ (q_iasP rfl rfl (Shp.rd A1.1) c83) <| wj_q _ (az (fun (x84 : api_Link) => agg [.one (.int .i64 (x84.gEpoch)), .ints .u8 32 (x84.gKey), .ints .u8 64 (x84.gSig)]) ex84 (q_ldM0 (E := E_api_Link) (s := [.one (.int .i64 (((p1.getD (i72).toNat api_Link_z)).gEpoch)), .ints .u8 32 (((p1.getD (i72).toNat api_Link_z)).gKey), .ints .u8 64 (((p1.getD (i72).toNat api_Link_z)).gSig)]) rfl (rd_arg A1.1 A1.2) (inB_n c83) rfl rfl)) <| wj_e (ef_al fun b85 hb85 => wj_e (ef_st (q := [.one (.int .i64 (x84.gEpoch)), .ints .u8 32 (x84.gKey), .ints .u8 64 (x84.gSig)]) rfl rfl rfl rfl rfl .here <| wj_nil <| wc_seq <| wc_seq <| wc_ops <| wj_q _ (q_mv rfl) <| wj_q _ (q_nilc rfl) <| wj_q _ (q_fa rfl) <| wj_q _ (q_ld1 rfl (.there .here) rfl) <| wj_q _ (q_bin rfl rfl rfl) <| wj_nil <| wc_br h rfl (fun h => ?_) (fun h => ?_)))
    ·refine wc_ret ?_
     revert h; refine ret_i fun h => ?_
     subst h
     exact ⟨_, _, .nil, (.one (.there .here) (.all (.there .here) .nil)), ⟨_, rfl, ⟨v73, ms74, rfl, rfl, O76⟩⟩⟩
    ·refine wc_skip <| oH h fun y89 ey89 h => wc_ops <| wj_q _ (q_mv rfl) <| wj_q _ (q_mv rfl) <| wj_q _ (q_ld (p := [.one (.int .i64 (x84.gEpoch)), .ints .u8 32 (x84.gKey), .ints .u8 64 (x84.gSig)]) rfl .here rfl) <| wj_e (ef_cvS (mS := _ :: ms74) rfl rfl rfl (perm2 (.there .here) (.there .here)) (fun w hw => rotate_Encode_1_spec (p0 := (⟨l75, i77⟩ : wire_Writer)) ey89 (sat_own2 hw (perm2 (.there .here) (.there .here))) O76) fun v90 Msv90 R91 => ?_)
     obtain ⟨v92, ms93, rfl, rfl, O94⟩ := R91
     refine wj_nil <| bH h fun z96 ez96 h => wc_ops <| wj_q _ (iz ez96 (q_bin rfl rfl rfl)) <| wj_q _ (q_mv rfl) <| wj_nil ?_
     rw [qk78] at h
     exact ⟨n79, Nat.lt_succ_self _, z96, y89.gbytes, y89.gfault, v92, ms93, h, O94, ⟨⟨rfl, rfl, rfl, rfl, rfl, trivial⟩, (.one .here (.all .here .nil))⟩⟩
   ·refine wc_exit _ rfl ?_
    revert h; refine ret_i fun h => ?_
    subst h
    exact ⟨_, _, .nil, (.one .here (.all .here .nil)), ⟨_, rfl, ⟨v73, ms74, rfl, rfl, O76⟩⟩⟩
/- (*farebox/wire.Writer).Done -/
def wire_Writer_Done (p0 : wire_Writer) : Option ((List Int) × Int × wire_Writer) :=
 br ((p0.gfault != 0)) (
 some ([], p0.gfault, p0)
 ) (
 chk (decide ((([] : List (Int)).length + p0.gbytes.length) * 1 ≤ 140737488355328)) <|
 bnd (([] : List (Int)) ++ p0.gbytes) fun l10 =>
 some (l10, 0, p0)
 )
theorem wire_Writer_Done_spec {W : World} {r : (List Int) × Int × wire_Writer} {p0 : wire_Writer} {v0 : Value} {M0 : List Chunk} {b : Nat} {T : TypeId} (h : wire_Writer_Done p0 = some r) (h0 : Sat W (b :: M0.map (·.b)) (ck b T [.one (v0), .one (.int .i64 (p0.gfault))] :: (M0 ++ [])) W) (O0 : OwnSl (El.int .u8) v0 M0 p0.gbytes) :
    Calls Try.prog 20 [.pointer (some ⟨b, 0, none⟩)].toArray W (retS W (b :: M0.map (·.b)) (fun v Ms => ∃ (u0 : Value) (M0 : List Chunk) (uw : Value) (Mw : List Chunk), v = .tuple #[u0, .int .i64 (r.2.1)] ∧ Ms = [.all M0, .one (ck b T [.one (uw), .one (.int .i64 (r.2.2.gfault))]), .all Mw] ∧ OwnSl (El.int .u8) u0 M0 r.1 ∧ OwnSl (El.int .u8) uw Mw r.2.2.gbytes)) := by
 unfold wire_Writer_Done at h
 refine calls_memT mo ok20 rfl h0 ?_
 refine wc_seq <| wc_ops <| wj_q _ (q_mv rfl) <| wj_q _ (q_mv rfl) <| wj_nil <| wc_seq <| wc_seq <| wc_ops <| wj_q _ (q_mv rfl) <| wj_q _ (q_nilc rfl) <| wj_q _ (q_fa rfl) <| wj_q _ (q_ld1 rfl .here rfl) <| wj_q _ (q_bin rfl rfl rfl) <| wj_nil <| wc_br h rfl (fun h => ?_) (fun h => ?_)
 ·refine wc_seq <| wc_draw <| ws_p1 _ (q_mv rfl) <| ws_p1 _ (q_nilc rfl) <| ws_p1 _ (q_fa rfl) <| ws_p1 _ (q_mv rfl) <| ws_q1 _ (q_ld1 rfl .here rfl) <| ws_p1 _ (q_mv rfl) <| ws_nil <| wc_ret ?_
  revert h; refine ret_i fun h => ?_
  subst h
  exact ⟨_, _, (.cons (.tmp rfl) (.cons (.tmp rfl) .nil)), (.no (.one .here (.all .here .nil))), ⟨_, rfl, ⟨(.slice none 0 0), [], v0, M0, rfl, rfl, own_nil, O0⟩⟩⟩
 ·refine wc_skip <| wc_seq <| cH h fun c9 h => bH h fun l10 el10 h => wc_ops <| wj_e (ef_bsO (E := (El.int .u8)) (xs := []) BdR.nil .nil rfl fun v6 ms7 O8 => wj_q _ (q_mv rfl) <| wj_q _ (q_nilc rfl) <| wj_q _ (q_fa rfl) <| wj_q _ (q_ld1 rfl (.app .here) rfl) <| wj_e (ef_appO (E := (El.int .u8)) el10 rfl O8 .here rfl (rd_own O0 (.app (.there .here))) c9 fun v11 ms12 O13 => wj_q _ (q_mv rfl) <| wj_q _ (q_mv rfl) <| wj_nil <| wc_ret ?_))
  revert h; refine ret_i fun h => ?_
  subst h
  exact ⟨_, _, (.cons (.tmp rfl) (.cons (.tmp rfl) .nil)), (.all .here (.one .here (.all .here .nil))), ⟨_, rfl, ⟨v11, ms12, v0, M0, rfl, rfl, O13, O0⟩⟩⟩
/- farebox/rotate.Encode -/
def rotate_Encode_b1 (p0 : List (api_Link)) (k44 : Unit → Option ((List Int) × Int)) (k69 : (Int) → Option ((List Int) × Int)) (i68 : Int) : Option ((List Int) × Int) :=
 br ((decide (i68 < (p0.length : Int)))) (
 chk (inB i68 p0.length) <|
 bnd (p0.getD (i68).toNat api_Link_z) fun x75 =>
 bnd (IntKind.wrap .i64 (i68 + 1)) fun z78 =>
 br ((x75.gEpoch != z78)) (
 some ([], 2)
 ) (
 bnd (IntKind.wrap .i64 (i68 + 1)) fun z82 =>
 k69 z82
 )
 ) (
 k44 ()
 )
def rotate_Encode_l1 (p0 : List (api_Link)) (k44 : Unit → Option ((List Int) × Int)) : Nat → (Int) → Option ((List Int) × Int)
  | 0, _ => none
  | n + 1, i68 => rotate_Encode_b1 p0 k44 (rotate_Encode_l1 p0 k44 n) i68
def rotate_Encode (p0 : List (api_Link)) : Option ((List Int) × Int) :=
 br ((decide ((p0.length : Int) > 64))) (
 some ([], 1)
 ) (
 jn (fun (_ : Unit) => opt (wire_NewWriter ) fun y84 =>
 opt (wire_Head 11) fun y93 =>
 opt (wire_Writer_Fixed y84 y93) fun y99 =>
 opt (wire_PutList_api_Link y99 p0 64) fun y106 =>
 opt (wire_Writer_Done y106) fun y113 =>
 some (y113.1, y113.2.1)) fun k44 => rotate_Encode_l1 p0 k44 big 0
 )
theorem rotate_Encode_spec {W : World} {r : (List Int) × Int} {p0 : List (api_Link)} {v0 : Value} (h : rotate_Encode p0 = some r) (A0 : RdSl E_api_Link W v0 p0) :
    Calls Try.prog 5 [v0].toArray W (retS W [] (fun v Ms => ∃ (u0 : Value) (M0 : List Chunk), v = .tuple #[u0, .int .i64 (r.2)] ∧ Ms = [.all M0] ∧ OwnSl (El.int .u8) u0 M0 r.1)) := by
 unfold rotate_Encode at h
 refine calls_memT mo ok5 rfl (sat0 _) ?_
 refine wc_seq <| wc_ops <| wj_q _ (q_mv rfl) <| wj_q _ (q_mv rfl) <| wj_nil <| wc_seq <| wc_seq <| wc_ops <| wj_q _ (q_mv rfl) <| wj_q _ (q_lenP rfl (Shp.rd A0)) <| wj_q _ (q_bin rfl rfl rfl) <| wj_nil <| wc_br h rfl (fun h => ?_) (fun h => ?_)
 ·refine wc_seq <| wc_ops <| wj_q _ (q_mv rfl) <| wj_q _ (q_mv rfl) <| wj_nil <| wc_ret ?_
  revert h; refine ret_i fun h => ?_
  subst h
  exact ⟨_, _, (.cons (.tmp rfl) (.cons (.tmp rfl) .nil)), (.no .nil), ⟨_, rfl, ⟨(.slice none 0 0), [], rfl, rfl, own_nil⟩⟩⟩
 ·refine wc_skip <| wc_seq <| wc_seq <| wc_ops <| wj_q _ (q_mv rfl) <| wj_q _ (q_lenP rfl (Shp.rd A0)) <| wj_q _ (q_mv rfl) <| wj_nil <| jH h fun k44 qk44 h => wc_mono2 (G := fun t m => k44 () = some r ∧ Fit [(0, v0)] [] t m) ?_ ?_
  ·refine wc_block <| wc_loopJ (fun n70 t m => ∃ (i68 : Int), rotate_Encode_l1 p0 k44 n70 i68 = some r ∧ Fit [(0, v0), (10, v0), (11, .int .i64 ((p0.length : Int))), (12, .int .i64 (i68))] [] t m) big ?_ ?_
   ·exact ⟨0, h, ⟨⟨rfl, rfl, rfl, rfl, trivial⟩, .nil⟩⟩
   ·rintro n70 t m ⟨i68, h, hF⟩
    refine wc_fit hF ?_
    clear hF
    rcases n70 with _ | n70
    · exact none_i h
    have h : rotate_Encode_b1 p0 k44 (rotate_Encode_l1 p0 k44 n70) i68 = some r := h
    unfold rotate_Encode_b1 at h
    obtain ⟨k69, qk69⟩ : ∃ k, k = rotate_Encode_l1 p0 k44 n70 := ⟨_, rfl⟩
    try rw [← qk69] at h
    refine wc_seq <| wc_ops <| wj_q _ (q_bin rfl rfl rfl) <| wj_nil <| wc_seq <| wc_br h rfl (fun h => ?_) (fun h => ?_)
    ·refine wc_skip <| wc_seq <| wc_block <| wc_seq <| cH h fun c74 h => bH h fun x75 ex75 h => wc_ops <| wj_q _ (q_mv rfl) <| wj_q _ (q_iasP rfl rfl (Shp.rd A0) c74) <| wj_q _ (az (fun (x75 : api_Link) => agg [.one (.int .i64 (x75.gEpoch)), .ints .u8 32 (x75.gKey), .ints .u8 64 (x75.gSig)]) ex75 (q_ldM0 (E := E_api_Link) (s := [.one (.int .i64 (((p0.getD (i68).toNat api_Link_z)).gEpoch)), .ints .u8 32 (((p0.getD (i68).toNat api_Link_z)).gKey), .ints .u8 64 (((p0.getD (i68).toNat api_Link_z)).gSig)]) rfl (rd_arg A0 apart0) (inB_n c74) rfl rfl)) <| wj_e (ef_al fun b76 hb76 => wj_q _ (q_mv rfl) <| wj_e (ef_st (q := [.one (.int .i64 (x75.gEpoch)), .ints .u8 32 (x75.gKey), .ints .u8 64 (x75.gSig)]) rfl rfl rfl rfl rfl .here <| wj_nil <| wc_seq <| bH h fun z78 ez78 h => wc_ops <| wj_q _ (q_fa rfl) <| wj_q _ (q_ld1 rfl .here rfl) <| wj_q _ (q_mv rfl) <| wj_q _ (iz ez78 (q_bin rfl rfl rfl)) <| wj_q _ (q_bin rfl rfl rfl) <| wj_nil <| wc_br h rfl (fun h => ?_) (fun h => ?_)))
     ·refine wc_seq <| wc_ops <| wj_q _ (q_mv rfl) <| wj_q _ (q_mv rfl) <| wj_nil <| wc_ret ?_
      revert h; refine ret_i fun h => ?_
      subst h
      exact ⟨_, _, (.cons (.tmp rfl) (.cons (.tmp rfl) .nil)), (.no .nil), ⟨_, rfl, ⟨(.slice none 0 0), [], rfl, rfl, own_nil⟩⟩⟩
     ·refine wc_skip <| bH h fun z82 ez82 h => wc_ops <| wj_q _ (iz ez82 (q_bin rfl rfl rfl)) <| wj_q _ (q_mv rfl) <| wj_nil ?_
      rw [qk69] at h
      exact ⟨n70, Nat.lt_succ_self _, z82, h, ⟨⟨rfl, rfl, rfl, rfl, trivial⟩, .nil⟩⟩
    ·exact wc_exit _ rfl <| ⟨h, ⟨⟨rfl, trivial⟩, .nil⟩⟩
  ·rintro t m ⟨h, hF⟩
   refine wc_fit hF ?_
   clear hF
   subst qk44
   refine wc_seq <| oH h fun y84 ey84 h => wc_ops <| wj_e (ef_callS0 rfl (fun w hw => wire_NewWriter_spec  ey84 ) fun v85 Msv85 R86 => ?_)
   obtain ⟨b87, T88, v89, ms90, rfl, rfl, O91⟩ := R86
   refine wj_q _ (q_mv rfl) <| wj_nil <| wc_seq <| oH h fun y93 ey93 h => oH h fun y99 ey99 h => wc_ops <| wj_q _ (q_mv rfl) <| wj_e (ef_callS0 rfl (fun w hw => wire_Head_spec  ey93 ) fun v94 Msv94 R95 => ?_)
   obtain ⟨_, ms97, rfl, rfl, O98⟩ := R95
   refine wj_e (ef_callS (mS := _ :: ms90) rfl (perm2 (.app .here) (.app .here)) (fun w hw => wire_Writer_Fixed_spec  ey99 (sat_own2 hw (perm2 (.app .here) (.app .here))) O91 ⟨(rd_own O98 .here) w hw, (apart2 (apart_own (E := (El.int .u8)) O98 .here .here hw) (apart_owns (E := (El.int .u8)) O98 .here (.there .here) hw))⟩) fun v100 Msv100 R101 => ?_)
   obtain ⟨v102, ms103, rfl, rfl, O104⟩ := R101
   refine wj_nil <| wc_seq <| oH h fun y106 ey106 h => wc_ops <| wj_q _ (q_mv rfl) <| wj_q _ (q_mv rfl) <| wj_e (ef_callS (mS := _ :: ms103) rfl (perm2 .here .here) (fun w hw => wire_PutList_api_Link_spec  ey106 (sat_own2 hw (perm2 .here .here)) O104 ⟨(rd_arg A0 apart0) w hw, (apart2 (apart_arg1 (E := E_api_Link) A0 apart0 .here hw) (apart_args (E := E_api_Link) A0 apart0 (.there .here) hw))⟩) fun v107 Msv107 R108 => ?_)
   obtain ⟨v109, ms110, rfl, rfl, O111⟩ := R108
   refine wj_nil <| wc_seq <| oH h fun y113 ey113 h => wc_ops <| wj_q _ (q_mv rfl) <| wj_e (ef_callS (mS := _ :: ms110) rfl (perm2 .here .here) (fun w hw => wire_Writer_Done_spec  ey113 (sat_own2 hw (perm2 .here .here)) O111) fun v114 Msv114 R115 => ?_)
   obtain ⟨v116, ms117, v119, ms120, rfl, rfl, O118, O121⟩ := R115
   refine wj_q _ (q_ext rfl rfl) <| wj_q _ (q_ext rfl rfl) <| wj_q _ (q_mv rfl) <| wj_q _ (q_mv rfl) <| wj_nil <| wc_ret ?_
   revert h; refine ret_i fun h => ?_
   subst h
   exact ⟨_, _, (.cons (.tmp rfl) (.cons (.tmp rfl) .nil)), (.all .here .nil), ⟨_, rfl, ⟨v116, ms117, rfl, rfl, O118⟩⟩⟩
/- (*farebox/fareboxref09.Out).Put -/
structure fareboxref09_Out where
  gB : List Int
  gE : Int
def fareboxref09_Out_Put (p0 : fareboxref09_Out) (p1 : List Int) : Option (fareboxref09_Out) :=
 br ((p0.gE == 0)) (
 chk (decide ((([] : List (Int)).length + p0.gB.length) * 1 ≤ 140737488355328)) <|
 bnd (([] : List (Int)) ++ p0.gB) fun l6 =>
 chk (decide ((l6.length + p1.length) * 1 ≤ 140737488355328)) <|
 bnd (l6 ++ p1) fun l12 =>
 some (⟨l12, p0.gE⟩ : fareboxref09_Out)
 ) (
 some p0
 )
theorem fareboxref09_Out_Put_spec {W : World} {r : fareboxref09_Out} {p0 : fareboxref09_Out} {p1 : List Int} {v0 : Value} {M0 : List Chunk} {v1 : Value} {b : Nat} {T : TypeId} (h : fareboxref09_Out_Put p0 p1 = some r) (h0 : Sat W (b :: M0.map (·.b)) (ck b T [.one (v0), .one (.int .i64 (p0.gE))] :: (M0 ++ [])) W) (O0 : OwnSl (El.int .u8) v0 M0 p0.gB) (A1 : RdSl (El.int .u8) W v1 p1 ∧ Apart v1 p1 (b :: M0.map (·.b))) :
    Calls Try.prog 36 [.pointer (some ⟨b, 0, none⟩), v1].toArray W (retS W (b :: M0.map (·.b)) (fun v Ms => ∃ (uw : Value) (Mw : List Chunk), v = .tuple #[] ∧ Ms = [.one (ck b T [.one (uw), .one (.int .i64 (r.gE))]), .all Mw] ∧ OwnSl (El.int .u8) uw Mw r.gB)) := by
 unfold fareboxref09_Out_Put at h
 refine calls_memT mo ok36 rfl h0 ?_
 refine wc_seq <| wc_ops <| wj_q _ (q_mv rfl) <| wj_q _ (q_nilc rfl) <| wj_q _ (q_fa rfl) <| wj_q _ (q_ld1 rfl .here rfl) <| wj_q _ (q_bin rfl rfl rfl) <| wj_nil <| wc_br h rfl (fun h => ?_) (fun h => ?_)
 ·refine wc_seq <| wc_ops <| wj_q _ (q_mv rfl) <| wj_nil <| wc_seq <| cH h fun c5 h => bH h fun l6 el6 h => wc_ops <| wj_q _ (q_mv rfl) <| wj_q _ (q_mv rfl) <| wj_q _ (q_nilc rfl) <| wj_q _ (q_fa rfl) <| wj_q _ (q_ld1 rfl .here rfl) <| wj_e (ef_appO (E := (El.int .u8)) el6 rfl own_nil .here rfl (rd_own O0 (.there .here)) c5 fun v7 ms8 O9 => wj_q _ (q_mv rfl) <| wj_nil <| cH h fun c11 h => bH h fun l12 el12 h => wc_ops <| wj_q _ (q_mv rfl) <| wj_q _ (q_mv rfl) <| wj_q _ (q_mv rfl) <| wj_e (ef_appO (E := (El.int .u8)) el12 rfl O9 .here rfl (rd_arg A1.1 A1.2) c11 fun v13 ms14 O15 => wj_q _ (q_nilc rfl) <| wj_q _ (q_fa rfl) <| wj_e (ef_st1 (q := [.one (v13), .one (.int .i64 (p0.gE))]) rfl rfl (IsSl.one1 (OwnSl.isSl O15)) rfl (.app .here) <| wj_nil ?_)))
  revert h; refine ret_i fun h => ?_
  subst h
  exact ⟨_, _, .nil, (.one (.app .here) (.all .here .nil)), ⟨_, rfl, ⟨v13, ms14, rfl, rfl, O15⟩⟩⟩
 ·refine wc_skip ?_
  revert h; refine ret_i fun h => ?_
  subst h
  exact ⟨_, _, .nil, (.one .here (.all .here .nil)), ⟨_, rfl, ⟨v0, M0, rfl, rfl, O0⟩⟩⟩
/- (*farebox/fareboxref09.Out).Fixed -/
def fareboxref09_Out_Fixed (p0 : fareboxref09_Out) (p1 : List Int) : Option (fareboxref09_Out) :=
 opt (fareboxref09_Out_Put p0 p1) fun y2 =>
 some y2
theorem fareboxref09_Out_Fixed_spec {W : World} {r : fareboxref09_Out} {p0 : fareboxref09_Out} {p1 : List Int} {v0 : Value} {M0 : List Chunk} {v1 : Value} {b : Nat} {T : TypeId} (h : fareboxref09_Out_Fixed p0 p1 = some r) (h0 : Sat W (b :: M0.map (·.b)) (ck b T [.one (v0), .one (.int .i64 (p0.gE))] :: (M0 ++ [])) W) (O0 : OwnSl (El.int .u8) v0 M0 p0.gB) (A1 : RdSl (El.int .u8) W v1 p1 ∧ Apart v1 p1 (b :: M0.map (·.b))) :
    Calls Try.prog 21 [.pointer (some ⟨b, 0, none⟩), v1].toArray W (retS W (b :: M0.map (·.b)) (fun v Ms => ∃ (uw : Value) (Mw : List Chunk), v = .tuple #[] ∧ Ms = [.one (ck b T [.one (uw), .one (.int .i64 (r.gE))]), .all Mw] ∧ OwnSl (El.int .u8) uw Mw r.gB)) := by
 unfold fareboxref09_Out_Fixed at h
 refine calls_memT mo ok21 rfl h0 ?_
 refine oH h fun y2 ey2 h => wc_ops <| wj_q _ (q_mv rfl) <| wj_q _ (q_mv rfl) <| wj_e (ef_callS (mS := _ :: M0) rfl (perm2 .here .here) (fun w hw => fareboxref09_Out_Put_spec  ey2 (sat_own2 hw (perm2 .here .here)) O0 ⟨(rd_arg A1.1 A1.2) w hw, (apart2 (apart_arg1 (E := (El.int .u8)) A1.1 A1.2 .here hw) (apart_args (E := (El.int .u8)) A1.1 A1.2 (.there .here) hw))⟩) fun v3 Msv3 R4 => ?_)
 obtain ⟨v5, ms6, rfl, rfl, O7⟩ := R4
 refine wj_nil ?_
 revert h; refine ret_i fun h => ?_
 subst h
 exact ⟨_, _, .nil, (.one .here (.all .here .nil)), ⟨_, rfl, ⟨v5, ms6, rfl, rfl, O7⟩⟩⟩
/- farebox/fareboxref09.Head -/
def fareboxref09_Head (p0 : Int) : Option ((List Int)) :=
 br (((decide (p0 < 1)) || (decide (p0 > 255)))) (
 some []
 ) (
 bnd (IntKind.wrap .u8 p0) fun z6 =>
 some ([70, 66, 1, z6] : List (Int))
 )
theorem fareboxref09_Head_spec {W : World} {r : (List Int)} {p0 : Int} (h : fareboxref09_Head p0 = some r)  :
    Calls Try.prog 22 [.int .i64 (p0)].toArray W (retS W [] (fun v Ms => ∃ (u0 : Value) (M0 : List Chunk), v = u0 ∧ Ms = [.all M0] ∧ OwnSl (El.int .u8) u0 M0 r)) := by
 unfold fareboxref09_Head at h
 refine calls_memT mo ok22 rfl (sat0 _) ?_
 refine wc_seq <| wc_ops <| wj_q _ (q_mv rfl) <| wj_nil <| wc_seq <| wc_seq <| wc_ops <| wj_q _ (q_mv rfl) <| wj_q _ (q_bin rfl rfl rfl) <| wj_q _ (q_mv rfl) <| wj_or rfl rfl rfl (fun hg1 => qj_g rfl _ (q_mv rfl) (qj_g rfl _ (q_bin rfl rfl rfl) (qj_nil))) (fun hg1 => rfl) rfl <| wj_nil <| wc_br h rfl (fun h => ?_) (fun h => ?_)
 ·refine wc_seq <| wc_ops <| wj_q _ (q_mv rfl) <| wj_nil <| wc_ret ?_
  revert h; refine ret_i fun h => ?_
  subst h
  exact ⟨_, _, (.cons (.tmp rfl) .nil), (.no .nil), ⟨_, rfl, ⟨(.slice none 0 0), [], rfl, rfl, own_nil⟩⟩⟩
 ·refine wc_skip <| wc_seq <| bH h fun z6 ez6 h => wc_ops <| wj_q _ (q_mv rfl) <| wj_q _ (iz ez6 (q_conv rfl)) <| wj_e (ef_bsO (E := (El.int .u8)) (xs := [70, 66, 1, z6]) (.one rfl rfl rfl (.one rfl rfl rfl (.one rfl rfl rfl (.one rfl rfl rfl BdR.nil)))) (.cons (p := [.one (.int .u8 (70))]) rfl (.cons (p := [.one (.int .u8 (66))]) rfl (.cons (p := [.one (.int .u8 (1))]) rfl (.cons (p := [.one (.int .u8 (z6))]) rfl .nil)))) rfl fun v7 ms8 O9 => wj_q _ (q_mv rfl) <| wj_nil <| wc_ret ?_)
  revert h; refine ret_i fun h => ?_
  subst h
  exact ⟨_, _, (.cons (.tmp rfl) .nil), (.all .here .nil), ⟨_, rfl, ⟨v7, ms8, rfl, rfl, O9⟩⟩⟩
end Go.Proofs.Ytiflckckekjbnaa
/- Mirrors. -/
namespace Go.Proofs.Ytiflckckekjbnaa
open Go Go.Sx Go.RowKit
set_option linter.all false
set_option maxHeartbeats 400000
set_option maxRecDepth 100000
/- farebox/fareboxref09.Uint -/
def fareboxref09_Uint_b1 (k68 : (Int) → (List (Int)) → Option ((List Int))) (k111 : (Int) → (List (Int)) → Option ((List Int))) (i106 : Int) (l109 : List (Int)) : Option ((List Int)) :=
 br ((decide (i106 ≥ 128))) (
 bnd (Int.tmod i106 128) fun z116 =>
 bnd (IntKind.wrap .u8 z116) fun z117 =>
 bnd (IntKind.wrap .u8 (z117 + 128)) fun z118 =>
 chk (decide ((l109.length + ([z118] : List (Int)).length) * 1 ≤ 140737488355328)) <|
 bnd (l109 ++ ([z118] : List (Int))) fun l123 =>
 bnd (IntKind.wrap .u64 (Int.tdiv i106 128)) fun z128 =>
 k111 z128 l123
 ) (
 k68 i106 l109
 )
def fareboxref09_Uint_l1 (k68 : (Int) → (List (Int)) → Option ((List Int))) : Nat → (Int) → (List (Int)) → Option ((List Int))
  | 0, _, _ => none
  | n + 1, i106, l109 => fareboxref09_Uint_b1 k68 (fareboxref09_Uint_l1 k68 n) i106 l109
def fareboxref09_Uint (p0 : Int) : Option ((List Int)) :=
 jn (fun (i63 : Int) (l66 : List (Int)) => bnd (IntKind.wrap .u8 i63) fun z130 =>
 chk (decide ((l66.length + ([z130] : List (Int)).length) * 1 ≤ 140737488355328)) <|
 bnd (l66 ++ ([z130] : List (Int))) fun l135 =>
 some l135) fun k68 => fareboxref09_Uint_l1 k68 big p0 []
theorem fareboxref09_Uint_spec {W : World} {r : (List Int)} {p0 : Int} (h : fareboxref09_Uint p0 = some r)  :
    Calls Try.prog 37 [.int .u64 (p0)].toArray W (retS W [] (fun v Ms => ∃ (u0 : Value) (M0 : List Chunk), v = u0 ∧ Ms = [.all M0] ∧ OwnSl (El.int .u8) u0 M0 r)) := by
 unfold fareboxref09_Uint at h
 refine calls_memT mo ok37 rfl (sat0 _) ?_
 refine wc_seq <| wc_ops <| wj_q _ (q_mv rfl) <| wj_nil <| wc_seq <| wc_ops <| wj_q _ (q_mv rfl) <| wj_nil <| wc_seq <| jH h fun k68 qk68 h => wc_mono2 (G := fun t m => ∃ (i63 : Int) (l66 : List (Int)) (v64 : Value) (ms65 : List Chunk), k68 i63 l66 = some r ∧ OwnSl (El.int .u8) v64 ms65 l66 ∧ Fit [(0, .int .u64 (i63)), (3, v64)] (ms65 ++ []) t m) ?_ ?_
 ·refine wc_block <| wc_loopJ (fun n112 t m => ∃ (i106 : Int) (l109 : List (Int)) (v107 : Value) (ms108 : List Chunk), fareboxref09_Uint_l1 k68 n112 i106 l109 = some r ∧ OwnSl (El.int .u8) v107 ms108 l109 ∧ Fit [(0, .int .u64 (i106)), (3, v107)] (ms108 ++ []) t m) big ?_ ?_
  ·exact ⟨p0, [], (.slice none 0 0), [], h, own_nil, ⟨⟨rfl, rfl, trivial⟩, (.no .nil)⟩⟩
  ·rintro n112 t m ⟨i106, l109, v107, ms108, h, O110, hF⟩
   refine wc_fit hF ?_
   clear hF
   rcases n112 with _ | n112
   · exact none_i h
   have h : fareboxref09_Uint_b1 k68 (fareboxref09_Uint_l1 k68 n112) i106 l109 = some r := h
   unfold fareboxref09_Uint_b1 at h
   obtain ⟨k111, qk111⟩ : ∃ k, k = fareboxref09_Uint_l1 k68 n112 := ⟨_, rfl⟩
   try rw [← qk111] at h
   refine wc_seq <| wc_seq <| wc_ops <| wj_q _ (q_mv rfl) <| wj_q _ (q_bin rfl rfl rfl) <| wj_nil <| wc_br h rfl (fun h => ?_) (fun h => ?_)
   ·refine wc_skip <| wc_block <| wc_seq <| bH h fun z116 ez116 h => bH h fun z117 ez117 h => bH h fun z118 ez118 h => cH h fun c122 h => bH h fun l123 el123 h => wc_ops <| wj_q _ (q_mv rfl) <| wj_q _ (q_mv rfl) <| wj_q _ (iz ez116 (q_rem rfl rfl (by decide))) <| wj_q _ (iz ez117 (q_conv rfl)) <| wj_q _ (iz ez118 (q_bin rfl rfl rfl)) <| wj_e (ef_bsO (E := (El.int .u8)) (xs := [z118]) (.one rfl rfl rfl BdR.nil) (.cons (p := [.one (.int .u8 (z118))]) rfl .nil) rfl fun v119 ms120 O121 => wj_e (ef_appO (E := (El.int .u8)) el123 rfl O110 (.app .here) rfl (rd_own O121 .here) c122 fun v124 ms125 O126 => wj_q _ (q_mv rfl) <| wj_nil <| bH h fun z128 ez128 h => wc_ops <| wj_q _ (q_mv rfl) <| wj_q _ (iz ez128 (q_quo rfl rfl (by decide))) <| wj_q _ (q_mv rfl) <| wj_nil ?_))
    rw [qk111] at h
    exact ⟨n112, Nat.lt_succ_self _, z128, l123, v124, ms125, h, O126, ⟨⟨rfl, rfl, trivial⟩, (.all .here .nil)⟩⟩
   ·exact wc_exit _ rfl <| ⟨i106, l109, v107, ms108, h, O110, ⟨⟨rfl, rfl, trivial⟩, (.all .here .nil)⟩⟩
 ·rintro t m ⟨i63, l66, v64, ms65, h, O67, hF⟩
  refine wc_fit hF ?_
  clear hF
  subst qk68
  refine wc_seq <| bH h fun z130 ez130 h => cH h fun c134 h => bH h fun l135 el135 h => wc_ops <| wj_q _ (q_mv rfl) <| wj_q _ (q_mv rfl) <| wj_q _ (iz ez130 (q_conv rfl)) <| wj_e (ef_bsO (E := (El.int .u8)) (xs := [z130]) (.one rfl rfl rfl BdR.nil) (.cons (p := [.one (.int .u8 (z130))]) rfl .nil) rfl fun v131 ms132 O133 => wj_e (ef_appO (E := (El.int .u8)) el135 rfl O67 (.app .here) rfl (rd_own O133 .here) c134 fun v136 ms137 O138 => wj_q _ (q_mv rfl) <| wj_nil <| wc_ret ?_))
  revert h; refine ret_i fun h => ?_
  subst h
  exact ⟨_, _, (.cons (.tmp rfl) .nil), (.all .here .nil), ⟨_, rfl, ⟨v136, ms137, rfl, rfl, O138⟩⟩⟩
/- (*farebox/fareboxref09.Out).Uint -/
def fareboxref09_Out_Uint (p0 : fareboxref09_Out) (p1 : Int) : Option (fareboxref09_Out) :=
 opt (fareboxref09_Uint p1) fun y2 =>
 opt (fareboxref09_Out_Put p0 y2) fun y8 =>
 some y8
theorem fareboxref09_Out_Uint_spec {W : World} {r : fareboxref09_Out} {p0 : fareboxref09_Out} {p1 : Int} {v0 : Value} {M0 : List Chunk} {b : Nat} {T : TypeId} (h : fareboxref09_Out_Uint p0 p1 = some r) (h0 : Sat W (b :: M0.map (·.b)) (ck b T [.one (v0), .one (.int .i64 (p0.gE))] :: (M0 ++ [])) W) (O0 : OwnSl (El.int .u8) v0 M0 p0.gB) :
    Calls Try.prog 23 [.pointer (some ⟨b, 0, none⟩), .int .u64 (p1)].toArray W (retS W (b :: M0.map (·.b)) (fun v Ms => ∃ (uw : Value) (Mw : List Chunk), v = .tuple #[] ∧ Ms = [.one (ck b T [.one (uw), .one (.int .i64 (r.gE))]), .all Mw] ∧ OwnSl (El.int .u8) uw Mw r.gB)) := by
 unfold fareboxref09_Out_Uint at h
 refine calls_memT mo ok23 rfl h0 ?_
 refine oH h fun y2 ey2 h => oH h fun y8 ey8 h => wc_ops <| wj_q _ (q_mv rfl) <| wj_q _ (q_mv rfl) <| wj_e (ef_callS0 rfl (fun w hw => fareboxref09_Uint_spec  ey2 ) fun v3 Msv3 R4 => ?_)
 obtain ⟨_, ms6, rfl, rfl, O7⟩ := R4
 refine wj_e (ef_callS (mS := _ :: M0) rfl (perm2 (.app .here) (.app .here)) (fun w hw => fareboxref09_Out_Put_spec  ey8 (sat_own2 hw (perm2 (.app .here) (.app .here))) O0 ⟨(rd_own O7 .here) w hw, (apart2 (apart_own (E := (El.int .u8)) O7 .here .here hw) (apart_owns (E := (El.int .u8)) O7 .here (.there .here) hw))⟩) fun v9 Msv9 R10 => ?_)
 obtain ⟨v11, ms12, rfl, rfl, O13⟩ := R10
 refine wj_nil ?_
 revert h; refine ret_i fun h => ?_
 subst h
 exact ⟨_, _, .nil, (.one .here (.all .here .nil)), ⟨_, rfl, ⟨v11, ms12, rfl, rfl, O13⟩⟩⟩
/- farebox/fareboxref30.Encode -/
def fareboxref30_Encode_b1 (p0 : List (api_Link)) (k130 : (List (Int)) → (Int) → Option ((List Int) × Int)) (k197 : (Int) → (List (Int)) → (Int) → Option ((List Int) × Int)) (i191 : Int) (l194 : List (Int)) (i196 : Int) : Option ((List Int) × Int) :=
 br ((decide (i191 < (p0.length : Int)))) (
 chk (inB i191 p0.length) <|
 bnd (p0.getD (i191).toNat api_Link_z) fun x203 =>
 bnd (IntKind.wrap .i64 (i191 + 1)) fun z204 =>
 br ((x203.gEpoch != z204)) (
 some ([], 2)
 ) (
 chk (inB i191 p0.length) <|
 bnd (p0.getD (i191).toNat api_Link_z) fun x209 =>
 opt (fareboxref09_Out_Fixed (⟨l194, i196⟩ : fareboxref09_Out) (tk (((p0.getD (i191).toNat api_Link_z)).gKey) 0 32)) fun y210 =>
 chk (inB i191 p0.length) <|
 bnd (p0.getD (i191).toNat api_Link_z) fun x218 =>
 opt (fareboxref09_Out_Fixed y210 (tk (((p0.getD (i191).toNat api_Link_z)).gSig) 0 64)) fun y219 =>
 bnd (IntKind.wrap .i64 (i191 + 1)) fun z226 =>
 k197 z226 y219.gB y219.gE
 )
 ) (
 k130 l194 i196
 )
def fareboxref30_Encode_l1 (p0 : List (api_Link)) (k130 : (List (Int)) → (Int) → Option ((List Int) × Int)) : Nat → (Int) → (List (Int)) → (Int) → Option ((List Int) × Int)
  | 0, _, _, _ => none
  | n + 1, i191, l194, i196 => fareboxref30_Encode_b1 p0 k130 (fareboxref30_Encode_l1 p0 k130 n) i191 l194 i196
def fareboxref30_Encode (p0 : List (api_Link)) : Option ((List Int) × Int) :=
 br ((decide ((p0.length : Int) > 64))) (
 some ([], 1)
 ) (
 opt (fareboxref09_Head 11) fun y8 =>
 opt (fareboxref09_Out_Fixed (⟨[], 0⟩ : fareboxref09_Out) y8) fun y14 =>
 bnd (IntKind.wrap .u64 (p0.length : Int)) fun z21 =>
 opt (fareboxref09_Out_Uint y14 z21) fun y22 =>
 jn (fun (l127 : List (Int)) (i129 : Int) => some (l127, 0)) fun k130 => fareboxref30_Encode_l1 p0 k130 big 0 y22.gB y22.gE
 )
theorem fareboxref30_Encode_spec {W : World} {r : (List Int) × Int} {p0 : List (api_Link)} {v0 : Value} (h : fareboxref30_Encode p0 = some r) (A0 : RdSl E_api_Link W v0 p0) :
    Calls Try.prog 6 [v0].toArray W (retS W [] (fun v Ms => ∃ (u0 : Value) (M0 : List Chunk), v = .tuple #[u0, .int .i64 (r.2)] ∧ Ms = [.all M0] ∧ OwnSl (El.int .u8) u0 M0 r.1)) := by
 unfold fareboxref30_Encode at h
 refine calls_memT mo ok6 rfl (sat0 _) ?_
 refine wc_seq <| wc_ops <| wj_q _ (q_mv rfl) <| wj_q _ (q_mv rfl) <| wj_nil <| wc_seq <| wc_seq <| wc_ops <| wj_q _ (q_mv rfl) <| wj_q _ (q_lenP rfl (Shp.rd A0)) <| wj_q _ (q_bin rfl rfl rfl) <| wj_nil <| wc_br h rfl (fun h => ?_) (fun h => ?_)
 ·refine wc_seq <| wc_ops <| wj_q _ (q_mv rfl) <| wj_q _ (q_mv rfl) <| wj_nil <| wc_ret ?_
  revert h; refine ret_i fun h => ?_
  subst h
  exact ⟨_, _, (.cons (.tmp rfl) (.cons (.tmp rfl) .nil)), (.no .nil), ⟨_, rfl, ⟨(.slice none 0 0), [], rfl, rfl, own_nil⟩⟩⟩
 ·refine wc_skip <| wc_seq <| wc_ops <| wj_e (ef_al fun b6 hb6 => wj_nil <| wc_seq <| oH h fun y8 ey8 h => oH h fun y14 ey14 h => wc_ops <| wj_e (ef_callS0 rfl (fun w hw => fareboxref09_Head_spec  ey8 ) fun v9 Msv9 R10 => ?_))
  obtain ⟨_, ms12, rfl, rfl, O13⟩ := R10
  refine wj_e (ef_callS (mS := _ :: []) rfl (perm1 (.app .here)) (fun w hw => fareboxref09_Out_Fixed_spec (p0 := (⟨[], 0⟩ : fareboxref09_Out)) ey14 (sat_own2 hw (perm1 (.app .here))) own_nil ⟨(rd_own O13 .here) w hw, (apart2 (apart_own (E := (El.int .u8)) O13 .here .here hw) apart_empty)⟩) fun v15 Msv15 R16 => ?_)
  obtain ⟨v17, ms18, rfl, rfl, O19⟩ := R16
  refine wj_nil <| wc_seq <| bH h fun z21 ez21 h => oH h fun y22 ey22 h => wc_ops <| wj_q _ (q_mv rfl) <| wj_q _ (q_lenP rfl (Shp.rd A0)) <| wj_q _ (iz ez21 (q_conv rfl)) <| wj_e (ef_callS (mS := _ :: ms18) rfl (perm2 .here .here) (fun w hw => fareboxref09_Out_Uint_spec  ey22 (sat_own2 hw (perm2 .here .here)) O19) fun v23 Msv23 R24 => ?_)
  obtain ⟨v25, ms26, rfl, rfl, O27⟩ := R24
  refine wj_nil <| wc_seq <| wc_seq <| wc_ops <| wj_q _ (q_mv rfl) <| wj_nil <| jH h fun k130 qk130 h => wc_mono2 (G := fun t m => ∃ (l127 : List (Int)) (i129 : Int) (v125 : Value) (ms126 : List Chunk), k130 l127 i129 = some r ∧ OwnSl (El.int .u8) v125 ms126 l127 ∧ Fit [(4, .pointer (some ⟨b6, 0, none⟩))] (ck b6 51 [.one (v125), .one (.int .i64 (i129))] :: (ms126 ++ [])) t m) ?_ ?_
  ·refine wc_block <| wc_loopJ (fun n198 t m => ∃ (i191 : Int) (l194 : List (Int)) (i196 : Int) (v192 : Value) (ms193 : List Chunk), fareboxref30_Encode_l1 p0 k130 n198 i191 l194 i196 = some r ∧ OwnSl (El.int .u8) v192 ms193 l194 ∧ Fit [(0, v0), (4, .pointer (some ⟨b6, 0, none⟩)), (5, .int .i64 (i191))] (ck b6 51 [.one (v192), .one (.int .i64 (i196))] :: (ms193 ++ [])) t m) big ?_ ?_
   ·exact ⟨0, y22.gB, y22.gE, v25, ms26, h, O27, ⟨⟨rfl, rfl, rfl, trivial⟩, (.one .here (.all .here .nil))⟩⟩
   ·rintro n198 t m ⟨i191, l194, i196, v192, ms193, h, O195, hF⟩
    refine wc_fit hF ?_
    clear hF
    rcases n198 with _ | n198
    · exact none_i h
    have h : fareboxref30_Encode_b1 p0 k130 (fareboxref30_Encode_l1 p0 k130 n198) i191 l194 i196 = some r := h
    unfold fareboxref30_Encode_b1 at h
    obtain ⟨k197, qk197⟩ : ∃ k, k = fareboxref30_Encode_l1 p0 k130 n198 := ⟨_, rfl⟩
    try rw [← qk197] at h
    refine wc_seq <| wc_seq <| wc_ops <| wj_q _ (q_mv rfl) <| wj_q _ (q_mv rfl) <| wj_q _ (q_lenP rfl (Shp.rd A0)) <| wj_q _ (q_bin rfl rfl rfl) <| wj_nil <| wc_br h rfl (fun h => ?_) (fun h => ?_)
    ·refine wc_skip <| wc_seq <| wc_block <| wc_seq <| wc_seq <| cH h fun c202 h => bH h fun x203 ex203 h => bH h fun z204 ez204 h => wc_ops <| wj_q _ (q_mv rfl) <| wj_q _ (q_mv rfl) <| wj_q _ (q_iasP rfl rfl (Shp.rd A0) c202) <| wj_q _ (q_fa rfl) <| wj_q _ (az (fun (x203 : api_Link) => .int .i64 (x203.gEpoch)) ex203 (q_ldM1 (E := E_api_Link) (s := [.one (.int .i64 (((p0.getD (i191).toNat api_Link_z)).gEpoch)), .ints .u8 32 (((p0.getD (i191).toNat api_Link_z)).gKey), .ints .u8 64 (((p0.getD (i191).toNat api_Link_z)).gSig)]) (c := 0) rfl (rd_arg A0 apart0) (inB_n c202) rfl rfl)) <| wj_q _ (q_mv rfl) <| wj_q _ (iz ez204 (q_bin rfl rfl rfl)) <| wj_q _ (q_bin rfl rfl rfl) <| wj_nil <| wc_br h rfl (fun h => ?_) (fun h => ?_)
     ·refine wc_seq <| wc_ops <| wj_q _ (q_mv rfl) <| wj_q _ (q_mv rfl) <| wj_nil <| wc_ret ?_
      revert h; refine ret_i fun h => ?_
      subst h
      exact ⟨_, _, (.cons (.tmp rfl) (.cons (.tmp rfl) .nil)), (.no .nil), ⟨_, rfl, ⟨(.slice none 0 0), [], rfl, rfl, own_nil⟩⟩⟩
     ·refine wc_skip <| wc_seq <| cH h fun c208 h => bH h fun x209 ex209 h => oH h fun y210 ey210 h => wc_ops <| wj_q _ (q_mv rfl) <| wj_q _ (q_mv rfl) <| wj_q _ (q_iasP rfl rfl (Shp.rd A0) c208) <| wj_q _ (q_fa rfl) <| wj_q _ (q_sla rfl .no .no .no (by simp) (by decide)) <| wj_e (ef_callS (mS := _ :: ms193) rfl (perm2 .here .here) (fun w hw => fareboxref09_Out_Fixed_spec (p0 := (⟨l194, i196⟩ : fareboxref09_Out)) ey210 (sat_own2 hw (perm2 .here .here)) O195 ⟨(rd_arg (elt_arg (E := E_api_Link) (s := [.one (.int .i64 (((p0.getD (i191).toNat api_Link_z)).gEpoch)), .ints .u8 32 (((p0.getD (i191).toNat api_Link_z)).gKey), .ints .u8 64 (((p0.getD (i191).toNat api_Link_z)).gSig)]) (c := 1) (j := (i191).toNat) A0 (inB_n c208) rfl rfl) apart0) w hw, (apart2 (apart_arg1 (E := (El.int .u8)) (elt_arg (E := E_api_Link) (s := [.one (.int .i64 (((p0.getD (i191).toNat api_Link_z)).gEpoch)), .ints .u8 32 (((p0.getD (i191).toNat api_Link_z)).gKey), .ints .u8 64 (((p0.getD (i191).toNat api_Link_z)).gSig)]) (c := 1) (j := (i191).toNat) A0 (inB_n c208) rfl rfl) apart0 .here hw) (apart_args (E := (El.int .u8)) (elt_arg (E := E_api_Link) (s := [.one (.int .i64 (((p0.getD (i191).toNat api_Link_z)).gEpoch)), .ints .u8 32 (((p0.getD (i191).toNat api_Link_z)).gKey), .ints .u8 64 (((p0.getD (i191).toNat api_Link_z)).gSig)]) (c := 1) (j := (i191).toNat) A0 (inB_n c208) rfl rfl) apart0 (.there .here) hw))⟩) fun v211 Msv211 R212 => ?_)
      obtain ⟨v213, ms214, rfl, rfl, O215⟩ := R212
      refine wj_nil <| cH h fun c217 h => bH h fun x218 ex218 h => oH h fun y219 ey219 h => wc_ops <| wj_q _ (q_mv rfl) <| wj_q _ (q_mv rfl) <| wj_q _ (q_iasP rfl rfl (Shp.rd A0) c217) <| wj_q _ (q_fa rfl) <| wj_q _ (q_sla rfl .no .no .no (by simp) (by decide)) <| wj_e (ef_callS (mS := _ :: ms214) rfl (perm2 .here .here) (fun w hw => fareboxref09_Out_Fixed_spec  ey219 (sat_own2 hw (perm2 .here .here)) O215 ⟨(rd_arg (elt_arg (E := E_api_Link) (s := [.one (.int .i64 (((p0.getD (i191).toNat api_Link_z)).gEpoch)), .ints .u8 32 (((p0.getD (i191).toNat api_Link_z)).gKey), .ints .u8 64 (((p0.getD (i191).toNat api_Link_z)).gSig)]) (c := 33) (j := (i191).toNat) A0 (inB_n c217) rfl rfl) apart0) w hw, (apart2 (apart_arg1 (E := (El.int .u8)) (elt_arg (E := E_api_Link) (s := [.one (.int .i64 (((p0.getD (i191).toNat api_Link_z)).gEpoch)), .ints .u8 32 (((p0.getD (i191).toNat api_Link_z)).gKey), .ints .u8 64 (((p0.getD (i191).toNat api_Link_z)).gSig)]) (c := 33) (j := (i191).toNat) A0 (inB_n c217) rfl rfl) apart0 .here hw) (apart_args (E := (El.int .u8)) (elt_arg (E := E_api_Link) (s := [.one (.int .i64 (((p0.getD (i191).toNat api_Link_z)).gEpoch)), .ints .u8 32 (((p0.getD (i191).toNat api_Link_z)).gKey), .ints .u8 64 (((p0.getD (i191).toNat api_Link_z)).gSig)]) (c := 33) (j := (i191).toNat) A0 (inB_n c217) rfl rfl) apart0 (.there .here) hw))⟩) fun v220 Msv220 R221 => ?_)
      obtain ⟨v222, ms223, rfl, rfl, O224⟩ := R221
      refine wj_nil <| bH h fun z226 ez226 h => wc_ops <| wj_q _ (q_mv rfl) <| wj_q _ (iz ez226 (q_bin rfl rfl rfl)) <| wj_q _ (q_mv rfl) <| wj_nil ?_
      rw [qk197] at h
      exact ⟨n198, Nat.lt_succ_self _, z226, y219.gB, y219.gE, v222, ms223, h, O224, ⟨⟨rfl, rfl, rfl, trivial⟩, (.one .here (.all .here .nil))⟩⟩
    ·exact wc_exit _ rfl <| ⟨l194, i196, v192, ms193, h, O195, ⟨⟨rfl, trivial⟩, (.one .here (.all .here .nil))⟩⟩
  ·rintro t m ⟨l127, i129, v125, ms126, h, O128, hF⟩
   refine wc_fit hF ?_
   clear hF
   subst qk130
   refine wc_seq <| wc_ops <| wj_q _ (q_fa rfl) <| wj_q _ (q_ld1 rfl .here rfl) <| wj_q _ (q_mv rfl) <| wj_q _ (q_mv rfl) <| wj_nil <| wc_ret ?_
   revert h; refine ret_i fun h => ?_
   subst h
   exact ⟨_, _, (.cons (.tmp rfl) (.cons (.tmp rfl) .nil)), (.all (.there .here) .nil), ⟨_, rfl, ⟨v125, ms126, rfl, rfl, O128⟩⟩⟩
/- farebox/fareboxlaw30.same -/
def fareboxlaw30_same_b1 (p0 : List Int) (p1 : List Int) (k42 : Unit → Option (Bool)) (k66 : (Int) → Option (Bool)) (i65 : Int) : Option (Bool) :=
 br ((decide (i65 < (p0.length : Int)))) (
 chk (inB i65 p0.length) <|
 chk (inB i65 p1.length) <|
 bnd (p0.getD (i65).toNat 0) fun z73 =>
 bnd (p1.getD (i65).toNat 0) fun z74 =>
 br ((z73 != z74)) (
 some false
 ) (
 bnd (IntKind.wrap .i64 (i65 + 1)) fun z78 =>
 k66 z78
 )
 ) (
 k42 ()
 )
def fareboxlaw30_same_l1 (p0 : List Int) (p1 : List Int) (k42 : Unit → Option (Bool)) : Nat → (Int) → Option (Bool)
  | 0, _ => none
  | n + 1, i65 => fareboxlaw30_same_b1 p0 p1 k42 (fareboxlaw30_same_l1 p0 p1 k42 n) i65
def fareboxlaw30_same (p0 : List Int) (p1 : List Int) : Option (Bool) :=
 br (((p0.length : Int) != (p1.length : Int))) (
 some false
 ) (
 jn (fun (_ : Unit) => some true) fun k42 => fareboxlaw30_same_l1 p0 p1 k42 big 0
 )
theorem fareboxlaw30_same_spec {W : World} {r : Bool} {p0 : List Int} {p1 : List Int} {v0 : Value} {v1 : Value} (h : fareboxlaw30_same p0 p1 = some r) (A0 : RdSl (El.int .u8) W v0 p0) (A1 : RdSl (El.int .u8) W v1 p1) :
    Calls Try.prog 7 [v0, v1].toArray W (ret1 W (.bool (r))) := by
 unfold fareboxlaw30_same at h
 refine calls_val mo ok7 rfl ?_
 refine wc_seq <| wc_ops <| wj_q _ (q_mv rfl) <| wj_nil <| wc_seq <| wc_seq <| wc_ops <| wj_q _ (q_mv rfl) <| wj_q _ (q_lenP rfl (Shp.rd A0)) <| wj_q _ (q_mv rfl) <| wj_q _ (q_lenP rfl (Shp.rd A1)) <| wj_q _ (q_bin rfl rfl rfl) <| wj_nil <| wc_br h rfl (fun h => ?_) (fun h => ?_)
 ·refine wc_seq <| wc_ops <| wj_q _ (q_mv rfl) <| wj_nil <| wc_ret ?_
  revert h; refine ret_i fun h => ?_
  subst h
  exact ⟨_, (.cons (.tmp rfl) .nil), rfl⟩
 ·refine wc_skip <| wc_seq <| wc_seq <| wc_ops <| wj_q _ (q_mv rfl) <| wj_nil <| jH h fun k42 qk42 h => wc_mono2 (G := fun t m => k42 () = some r ∧ Fit [] [] t m) ?_ ?_
  ·refine wc_block <| wc_loopJ (fun n67 t m => ∃ (i65 : Int), fareboxlaw30_same_l1 p0 p1 k42 n67 i65 = some r ∧ Fit [(0, v0), (1, v1), (5, .int .i64 (i65))] [] t m) big ?_ ?_
   ·exact ⟨0, h, ⟨⟨rfl, rfl, rfl, trivial⟩, .nil⟩⟩
   ·rintro n67 t m ⟨i65, h, hF⟩
    refine wc_fit hF ?_
    clear hF
    rcases n67 with _ | n67
    · exact none_i h
    have h : fareboxlaw30_same_b1 p0 p1 k42 (fareboxlaw30_same_l1 p0 p1 k42 n67) i65 = some r := h
    unfold fareboxlaw30_same_b1 at h
    obtain ⟨k66, qk66⟩ : ∃ k, k = fareboxlaw30_same_l1 p0 p1 k42 n67 := ⟨_, rfl⟩
    try rw [← qk66] at h
    refine wc_seq <| wc_seq <| wc_ops <| wj_q _ (q_mv rfl) <| wj_q _ (q_mv rfl) <| wj_q _ (q_lenP rfl (Shp.rd A0)) <| wj_q _ (q_bin rfl rfl rfl) <| wj_nil <| wc_br h rfl (fun h => ?_) (fun h => ?_)
    ·refine wc_skip <| wc_seq <| wc_block <| wc_seq <| cH h fun c71 h => cH h fun c72 h => bH h fun z73 ez73 h => bH h fun z74 ez74 h => wc_draw <| ws_p1 _ (q_mv rfl) <| ws_p1 _ (q_mv rfl) <| ws_p1 _ (q_iasP rfl rfl (Shp.rd A0) c71) <| ws_p1 _ (q_mv rfl) <| ws_p1 _ (q_mv rfl) <| ws_p1 _ (q_iasP rfl rfl (Shp.rd A1) c72) <| ws_q1 _ (iz ez73 (q_ldM10 (E := (El.int .u8)) (s := [.one (.int .u8 (p0.getD (i65).toNat 0))]) rfl (rd_arg A0 apart0) (inB_n c71) rfl rfl)) <| ws_q1 _ (iz ez74 (q_ldM10 (E := (El.int .u8)) (s := [.one (.int .u8 (p1.getD (i65).toNat 0))]) rfl (rd_arg A1 apart0) (inB_n c72) rfl rfl)) <| ws_p1 _ (q_bin rfl rfl rfl) <| ws_nil <| wc_br h rfl (fun h => ?_) (fun h => ?_)
     ·refine wc_seq <| wc_ops <| wj_q _ (q_mv rfl) <| wj_nil <| wc_ret ?_
      revert h; refine ret_i fun h => ?_
      subst h
      exact ⟨_, (.cons (.tmp rfl) .nil), rfl⟩
     ·refine wc_skip <| bH h fun z78 ez78 h => wc_ops <| wj_q _ (q_mv rfl) <| wj_q _ (iz ez78 (q_bin rfl rfl rfl)) <| wj_q _ (q_mv rfl) <| wj_nil ?_
      rw [qk66] at h
      exact ⟨n67, Nat.lt_succ_self _, z78, h, ⟨⟨rfl, rfl, rfl, trivial⟩, .nil⟩⟩
    ·exact wc_exit _ rfl <| ⟨h, ⟨trivial, .nil⟩⟩
  ·rintro t m ⟨h, hF⟩
   refine wc_fit hF ?_
   clear hF
   subst qk42
   refine wc_seq <| wc_ops <| wj_q _ (q_mv rfl) <| wj_nil <| wc_ret ?_
   revert h; refine ret_i fun h => ?_
   subst h
   exact ⟨_, (.cons (.tmp rfl) .nil), rfl⟩
/- farebox/fareboxlaw30.sameLinks -/
def fareboxlaw30_sameLinks_b1 (p0 : List (api_Link)) (p1 : List (api_Link)) (k42 : Unit → Option (Bool)) (k66 : (Int) → Option (Bool)) (i65 : Int) : Option (Bool) :=
 br ((decide (i65 < (p0.length : Int)))) (
 chk (inB i65 p0.length) <|
 bnd (p0.getD (i65).toNat api_Link_z) fun x72 =>
 chk (inB i65 p1.length) <|
 bnd (p1.getD (i65).toNat api_Link_z) fun x74 =>
 br ((!((x72.gEpoch == x74.gEpoch) && ((ieq 32 x72.gKey x74.gKey) && (ieq 64 x72.gSig x74.gSig))))) (
 some false
 ) (
 bnd (IntKind.wrap .i64 (i65 + 1)) fun z78 =>
 k66 z78
 )
 ) (
 k42 ()
 )
def fareboxlaw30_sameLinks_l1 (p0 : List (api_Link)) (p1 : List (api_Link)) (k42 : Unit → Option (Bool)) : Nat → (Int) → Option (Bool)
  | 0, _ => none
  | n + 1, i65 => fareboxlaw30_sameLinks_b1 p0 p1 k42 (fareboxlaw30_sameLinks_l1 p0 p1 k42 n) i65
def fareboxlaw30_sameLinks (p0 : List (api_Link)) (p1 : List (api_Link)) : Option (Bool) :=
 br (((p0.length : Int) != (p1.length : Int))) (
 some false
 ) (
 jn (fun (_ : Unit) => some true) fun k42 => fareboxlaw30_sameLinks_l1 p0 p1 k42 big 0
 )
theorem fareboxlaw30_sameLinks_spec {W : World} {r : Bool} {p0 : List (api_Link)} {p1 : List (api_Link)} {v0 : Value} {v1 : Value} (h : fareboxlaw30_sameLinks p0 p1 = some r) (A0 : RdSl E_api_Link W v0 p0) (A1 : RdSl E_api_Link W v1 p1) :
    Calls Try.prog 13 [v0, v1].toArray W (ret1 W (.bool (r))) := by
 unfold fareboxlaw30_sameLinks at h
 refine calls_val mo ok13 rfl ?_
 refine wc_seq <| wc_ops <| wj_q _ (q_mv rfl) <| wj_nil <| wc_seq <| wc_seq <| wc_ops <| wj_q _ (q_mv rfl) <| wj_q _ (q_lenP rfl (Shp.rd A0)) <| wj_q _ (q_mv rfl) <| wj_q _ (q_lenP rfl (Shp.rd A1)) <| wj_q _ (q_bin rfl rfl rfl) <| wj_nil <| wc_br h rfl (fun h => ?_) (fun h => ?_)
 ·refine wc_seq <| wc_ops <| wj_q _ (q_mv rfl) <| wj_nil <| wc_ret ?_
  revert h; refine ret_i fun h => ?_
  subst h
  exact ⟨_, (.cons (.tmp rfl) .nil), rfl⟩
 ·refine wc_skip <| wc_seq <| wc_seq <| wc_ops <| wj_q _ (q_mv rfl) <| wj_nil <| jH h fun k42 qk42 h => wc_mono2 (G := fun t m => k42 () = some r ∧ Fit [] [] t m) ?_ ?_
  ·refine wc_block <| wc_loopJ (fun n67 t m => ∃ (i65 : Int), fareboxlaw30_sameLinks_l1 p0 p1 k42 n67 i65 = some r ∧ Fit [(0, v0), (1, v1), (5, .int .i64 (i65))] [] t m) big ?_ ?_
   ·exact ⟨0, h, ⟨⟨rfl, rfl, rfl, trivial⟩, .nil⟩⟩
   ·rintro n67 t m ⟨i65, h, hF⟩
    refine wc_fit hF ?_
    clear hF
    rcases n67 with _ | n67
    · exact none_i h
    have h : fareboxlaw30_sameLinks_b1 p0 p1 k42 (fareboxlaw30_sameLinks_l1 p0 p1 k42 n67) i65 = some r := h
    unfold fareboxlaw30_sameLinks_b1 at h
    obtain ⟨k66, qk66⟩ : ∃ k, k = fareboxlaw30_sameLinks_l1 p0 p1 k42 n67 := ⟨_, rfl⟩
    try rw [← qk66] at h
    refine wc_seq <| wc_seq <| wc_ops <| wj_q _ (q_mv rfl) <| wj_q _ (q_mv rfl) <| wj_q _ (q_lenP rfl (Shp.rd A0)) <| wj_q _ (q_bin rfl rfl rfl) <| wj_nil <| wc_br h rfl (fun h => ?_) (fun h => ?_)
    ·refine wc_skip <| wc_seq <| wc_block <| wc_seq <| cH h fun c71 h => bH h fun x72 ex72 h => cH h fun c73 h => bH h fun x74 ex74 h => wc_draw <| ws_p1 _ (q_mv rfl) <| ws_p1 _ (q_mv rfl) <| ws_p1 _ (q_iasP rfl rfl (Shp.rd A0) c71) <| ws_p1 _ (q_mv rfl) <| ws_p1 _ (q_mv rfl) <| ws_p1 _ (q_iasP rfl rfl (Shp.rd A1) c73) <| ws_q1 _ (az (fun (x72 : api_Link) => agg [.one (.int .i64 (x72.gEpoch)), .ints .u8 32 (x72.gKey), .ints .u8 64 (x72.gSig)]) ex72 (q_ldM0 (E := E_api_Link) (s := [.one (.int .i64 (((p0.getD (i65).toNat api_Link_z)).gEpoch)), .ints .u8 32 (((p0.getD (i65).toNat api_Link_z)).gKey), .ints .u8 64 (((p0.getD (i65).toNat api_Link_z)).gSig)]) rfl (rd_arg A0 apart0) (inB_n c71) rfl rfl)) <| ws_q1 _ (az (fun (x74 : api_Link) => agg [.one (.int .i64 (x74.gEpoch)), .ints .u8 32 (x74.gKey), .ints .u8 64 (x74.gSig)]) ex74 (q_ldM0 (E := E_api_Link) (s := [.one (.int .i64 (((p1.getD (i65).toNat api_Link_z)).gEpoch)), .ints .u8 32 (((p1.getD (i65).toNat api_Link_z)).gKey), .ints .u8 64 (((p1.getD (i65).toNat api_Link_z)).gSig)]) rfl (rd_arg A1 apart0) (inB_n c73) rfl rfl)) <| ws_p1 _ (q_eqa (s := [.one (.int .i64 (x72.gEpoch)), .ints .u8 32 (x72.gKey), .ints .u8 64 (x72.gSig)]) (s' := [.one (.int .i64 (x74.gEpoch)), .ints .u8 32 (x74.gKey), .ints .u8 64 (x74.gSig)]) rfl rfl rfl rfl _ (eqc_cons rfl eqc_int (eqc_cons rfl eqc_ints (eqc_last eqc_ints)))) <| ws_nil <| wc_br h rfl (fun h => ?_) (fun h => ?_)
     ·refine wc_seq <| wc_ops <| wj_q _ (q_mv rfl) <| wj_nil <| wc_ret ?_
      revert h; refine ret_i fun h => ?_
      subst h
      exact ⟨_, (.cons (.tmp rfl) .nil), rfl⟩
     ·refine wc_skip <| bH h fun z78 ez78 h => wc_ops <| wj_q _ (q_mv rfl) <| wj_q _ (iz ez78 (q_bin rfl rfl rfl)) <| wj_q _ (q_mv rfl) <| wj_nil ?_
      rw [qk66] at h
      exact ⟨n67, Nat.lt_succ_self _, z78, h, ⟨⟨rfl, rfl, rfl, trivial⟩, .nil⟩⟩
    ·exact wc_exit _ rfl <| ⟨h, ⟨trivial, .nil⟩⟩
  ·rintro t m ⟨h, hF⟩
   refine wc_fit hF ?_
   clear hF
   subst qk42
   refine wc_seq <| wc_ops <| wj_q _ (q_mv rfl) <| wj_nil <| wc_ret ?_
   revert h; refine ret_i fun h => ?_
   subst h
   exact ⟨_, (.cons (.tmp rfl) .nil), rfl⟩
/- farebox/fareboxlaw30.left -/
def fareboxlaw30_left (p0 : List (api_Link)) (n0 : Int) (p1 : List (api_Link)) : Option (Bool) :=
 bnd (IntKind.wrap .i64 ((p1.length : Int) + 2)) fun z4 =>
 chk (cutB 0 z4 p0.length) <|
 opt (fareboxlaw30_sameLinks (p0.take (n0).toNat) p1) fun y7 =>
 chk (imp y7 (inB (p1.length : Int) (z4).toNat)) <|
 chk (imp (y7 && ((p0.getD ((p1.length : Int)).toNat api_Link_z).gEpoch == (-7))) (inB (IntKind.wrap .i64 ((p1.length : Int) + 1)) (z4).toNat)) <|
 some ((y7 && ((p0.getD ((p1.length : Int)).toNat api_Link_z).gEpoch == (-7))) && ((p0.getD (IntKind.wrap .i64 ((p1.length : Int) + 1)).toNat api_Link_z).gEpoch == (-8)))
theorem fareboxlaw30_left_spec {W : World} {r : Bool} {p0 : List (api_Link)} {n0 : Int} {p1 : List (api_Link)} {v0 : Value} {v1 : Value} (h : fareboxlaw30_left p0 n0 p1 = some r) (A0 : RdSl E_api_Link W v0 p0) (N0 : cutB 0 n0 p0.length = true) (A1 : RdSl E_api_Link W v1 p1) :
    Calls Try.prog 8 [(cutSl 97 v0 0 (n0).toNat), v1].toArray W (ret1 W (.bool (r))) := by
 unfold fareboxlaw30_left at h
 refine calls_val mo ok8 rfl ?_
 refine wc_seq <| wc_ops <| wj_q _ (q_mv rfl) <| wj_nil <| wc_seq <| wc_ops <| wj_q _ (q_mv rfl) <| wj_q _ (q_lenP rfl (Shp.rd A1)) <| wj_q _ (q_mv rfl) <| wj_nil <| wc_seq <| bH h fun z4 ez4 h => cH h fun c5 h => wc_ops <| wj_q _ (q_mv rfl) <| wj_q _ (q_mv rfl) <| wj_q _ (iz ez4 (q_bin rfl rfl rfl)) <| wj_q _ (q_slsU (lz := 0) (hz := z4) rfl (Shp.rd A0) N0 .no (.yes rfl) c5) <| wj_q _ (q_mv rfl) <| wj_nil <| wc_seq <| oH h fun y7 ey7 h => cH h fun c8 h => cH h fun c9 h => wc_ops <| wj_q _ (q_mv rfl) <| wj_q _ (q_mv rfl) <| wj_q _ (q_call rfl (fun w hw => fareboxlaw30_sameLinks_spec ey7 ((rd_pre (rd_arg A0 apart0) N0) w hw) ((rd_arg A1 apart0) w hw))) <| wj_q _ (q_mv rfl) <| wj_and rfl rfl rfl (fun hg1 => qj_g rfl _ (q_mv rfl) (qj_g rfl _ (q_mv rfl) (qj_g rfl _ (q_iasU rfl rfl (Shp.rd A0) c5 (imp_t c8 hg1)) (qj_g rfl _ (q_fa rfl) (qj_g rfl _ (az (fun (zz : api_Link) => .int .i64 (zz.gEpoch)) rfl (q_ldM1 (E := E_api_Link) (s := [.one (.int .i64 (((p0.getD ((p1.length : Int)).toNat api_Link_z)).gEpoch)), .ints .u8 32 (((p0.getD ((p1.length : Int)).toNat api_Link_z)).gKey), .ints .u8 64 (((p0.getD ((p1.length : Int)).toNat api_Link_z)).gSig)]) (c := 0) rfl (rd_arg A0 apart0) (inB_n (inB_up c5 (imp_t c8 hg1))) rfl rfl)) (qj_g rfl _ (q_bin rfl rfl rfl) (qj_nil))))))) (fun hg1 => rfl) rfl <| wj_q _ (q_mv rfl) <| wj_and rfl rfl rfl (fun hg1 => qj_g rfl _ (q_mv rfl) (qj_g rfl _ (q_mv rfl) (qj_g rfl _ (iz rfl (q_bin rfl rfl rfl)) (qj_g rfl _ (q_iasU rfl rfl (Shp.rd A0) c5 (imp_t c9 hg1)) (qj_g rfl _ (q_fa rfl) (qj_g rfl _ (az (fun (zz : api_Link) => .int .i64 (zz.gEpoch)) rfl (q_ldM1 (E := E_api_Link) (s := [.one (.int .i64 (((p0.getD (IntKind.wrap .i64 ((p1.length : Int) + 1)).toNat api_Link_z)).gEpoch)), .ints .u8 32 (((p0.getD (IntKind.wrap .i64 ((p1.length : Int) + 1)).toNat api_Link_z)).gKey), .ints .u8 64 (((p0.getD (IntKind.wrap .i64 ((p1.length : Int) + 1)).toNat api_Link_z)).gSig)]) (c := 0) rfl (rd_arg A0 apart0) (inB_n (inB_up c5 (imp_t c9 hg1))) rfl rfl)) (qj_g rfl _ (q_bin rfl rfl rfl) (qj_nil)))))))) (fun hg1 => rfl) rfl <| wj_q _ (q_mv rfl) <| wj_nil <| wc_ret ?_
 revert h; refine ret_i fun h => ?_
 subst h
 exact ⟨_, (.cons (.tmp rfl) .nil), rfl⟩
/- farebox/fareboxlaw30.rooms -/
def fareboxlaw30_rooms_b1 (k58 : (List (Int)) → Option (Bool)) (k93 : (List (Int)) → (Int) → Option (Bool)) (l90 : List (Int)) (i92 : Int) : Option (Bool) :=
 br ((decide (i92 < 64))) (
 chk (decide ((l90.length + ([33] : List (Int)).length) * 1 ≤ 140737488355328)) <|
 bnd (l90 ++ ([33] : List (Int))) fun l102 =>
 bnd (IntKind.wrap .i64 (i92 + 1)) fun z107 =>
 k93 l102 z107
 ) (
 k58 l90
 )
def fareboxlaw30_rooms_l1 (k58 : (List (Int)) → Option (Bool)) : Nat → (List (Int)) → (Int) → Option (Bool)
  | 0, _, _ => none
  | n + 1, l90, i92 => fareboxlaw30_rooms_b1 k58 (fareboxlaw30_rooms_l1 k58 n) l90 i92
def fareboxlaw30_rooms_b2 (k162 : (List (Int)) → Option (Bool)) (k197 : (List (Int)) → (Int) → Option (Bool)) (l194 : List (Int)) (i196 : Int) : Option (Bool) :=
 br ((decide (i196 < 64))) (
 chk (decide ((l194.length + ([34] : List (Int)).length) * 1 ≤ 140737488355328)) <|
 bnd (l194 ++ ([34] : List (Int))) fun l206 =>
 bnd (IntKind.wrap .i64 (i196 + 1)) fun z211 =>
 k197 l206 z211
 ) (
 k162 l194
 )
def fareboxlaw30_rooms_l2 (k162 : (List (Int)) → Option (Bool)) : Nat → (List (Int)) → (Int) → Option (Bool)
  | 0, _, _ => none
  | n + 1, l194, i196 => fareboxlaw30_rooms_b2 k162 (fareboxlaw30_rooms_l2 k162 n) l194 i196
def fareboxlaw30_rooms_b3 (l56 : List (Int)) (k244 : Unit → Option (Bool)) (k265 : (Int) → Option (Bool)) (i264 : Int) : Option (Bool) :=
 br ((decide (i264 < (l56.length : Int)))) (
 chk (inB i264 l56.length) <|
 bnd (l56.getD (i264).toNat 0) fun z271 =>
 br ((z271 != 33)) (
 some false
 ) (
 bnd (IntKind.wrap .i64 (i264 + 1)) fun z275 =>
 k265 z275
 )
 ) (
 k244 ()
 )
def fareboxlaw30_rooms_l3 (l56 : List (Int)) (k244 : Unit → Option (Bool)) : Nat → (Int) → Option (Bool)
  | 0, _ => none
  | n + 1, i264 => fareboxlaw30_rooms_b3 l56 k244 (fareboxlaw30_rooms_l3 l56 k244 n) i264
def fareboxlaw30_rooms (p0 : List Int) (p1 : List Int) : Option (Bool) :=
 jn (fun (l56 : List (Int)) => jn (fun (l160 : List (Int)) => jn (fun (_ : Unit) => bnd (IntKind.wrap .i64 ((p1.length : Int) + 64)) fun z277 =>
 some ((l160.length : Int) == z277)) fun k244 => fareboxlaw30_rooms_l3 l56 k244 big (p0.length : Int)) fun k162 => fareboxlaw30_rooms_l2 k162 big p1 0) fun k58 => fareboxlaw30_rooms_l1 k58 big p0 0
theorem fareboxlaw30_rooms_spec {W : World} {r : Bool} {p0 : List Int} {p1 : List Int} {v0 : Value} {M0 : List Chunk} {v1 : Value} {M1 : List Chunk} (h : fareboxlaw30_rooms p0 p1 = some r) (h0 : Sat W ((M0 ++ M1).map (·.b)) (M0 ++ (M1 ++ [])) W) (O0 : OwnIn (El.int .u8) v0 M0 p0) (O1 : OwnIn (El.int .u8) v1 M1 p1) :
    Calls Try.prog 9 [v0, v1].toArray W (retS W ((M0 ++ M1).map (·.b)) (fun v Ms => ∃ (X0 : List Chunk) (X1 : List Chunk), v = .bool (r) ∧ Ms = [.all X0, .all X1] ∧ OwnIn (El.int .u8) v0 X0 p0 ∧ OwnIn (El.int .u8) v1 X1 p1)) := by
 unfold fareboxlaw30_rooms at h
 refine calls_memT mo ok9 rfl h0 ?_
 refine wc_seq <| wc_ops <| wj_q _ (q_mv rfl) <| wj_nil <| wc_seq <| wc_ops <| wj_q _ (q_mv rfl) <| wj_q _ (q_mv rfl) <| wj_nil <| wc_seq <| wc_ops <| wj_q _ (q_mv rfl) <| wj_q _ (q_mv rfl) <| wj_nil <| wc_seq <| wc_seq <| wc_ops <| wj_q _ (q_mv rfl) <| wj_nil <| jH h fun k58 qk58 h => wc_mono2 (G := fun t m => ∃ (l56 : List (Int)) (v54 : Value) (ms55 : List Chunk), k58 l56 = some r ∧ GrownIn (El.int .u8) v0 p0 v54 l56 ms55 ∧ Fit [(0, v0), (1, v1), (5, v54), (6, v1)] (M1 ++ (ms55 ++ [])) t m) ?_ ?_
 ·refine wc_block <| wc_loopJ (fun n94 t m => ∃ (l90 : List (Int)) (i92 : Int) (v88 : Value) (ms89 : List Chunk), fareboxlaw30_rooms_l1 k58 n94 l90 i92 = some r ∧ GrownIn (El.int .u8) v0 p0 v88 l90 ms89 ∧ Fit [(0, v0), (1, v1), (5, v88), (6, v1), (7, .int .i64 (i92))] (M1 ++ (ms89 ++ [])) t m) big ?_ ?_
  ·exact ⟨p0, 0, v0, M0, h, (OwnIn.grow O0), ⟨⟨rfl, rfl, rfl, rfl, rfl, trivial⟩, (.all (.app .here) (.all .here .nil))⟩⟩
  ·rintro n94 t m ⟨l90, i92, v88, ms89, h, G91, hF⟩
   refine wc_fit hF ?_
   clear hF
   rcases n94 with _ | n94
   · exact none_i h
   have h : fareboxlaw30_rooms_b1 k58 (fareboxlaw30_rooms_l1 k58 n94) l90 i92 = some r := h
   unfold fareboxlaw30_rooms_b1 at h
   obtain ⟨k93, qk93⟩ : ∃ k, k = fareboxlaw30_rooms_l1 k58 n94 := ⟨_, rfl⟩
   try rw [← qk93] at h
   refine wc_seq <| wc_seq <| wc_ops <| wj_q _ (q_mv rfl) <| wj_q _ (q_bin rfl rfl rfl) <| wj_nil <| wc_br h rfl (fun h => ?_) (fun h => ?_)
   ·refine wc_skip <| wc_seq <| wc_block <| cH h fun c101 h => bH h fun l102 el102 h => wc_ops <| wj_q _ (q_mv rfl) <| wj_e (ef_bsO (E := (El.int .u8)) (xs := [33]) (.one rfl rfl rfl BdR.nil) (.cons (p := [.one (.int .u8 (33))]) rfl .nil) rfl fun v98 ms99 O100 => wj_e (ef_appGI (E := (El.int .u8)) el102 rfl G91 (.app (.app .here)) rfl (rd_own O100 .here) c101 fun v103 ms104 O105 => wj_q _ (q_mv rfl) <| wj_nil <| bH h fun z107 ez107 h => wc_ops <| wj_q _ (q_mv rfl) <| wj_q _ (iz ez107 (q_bin rfl rfl rfl)) <| wj_q _ (q_mv rfl) <| wj_nil ?_))
    rw [qk93] at h
    exact ⟨n94, Nat.lt_succ_self _, l102, z107, v103, ms104, h, O105, ⟨⟨rfl, rfl, rfl, rfl, rfl, trivial⟩, (.all (.app (.app .here)) (.all .here .nil))⟩⟩
   ·exact wc_exit _ rfl <| ⟨l90, v88, ms89, h, G91, ⟨⟨rfl, rfl, rfl, rfl, trivial⟩, (.all .here (.all .here .nil))⟩⟩
 ·rintro t m ⟨l56, v54, ms55, h, G57, hF⟩
  refine wc_fit hF ?_
  clear hF
  subst qk58
  refine wc_seq <| wc_seq <| wc_ops <| wj_q _ (q_mv rfl) <| wj_nil <| jH h fun k162 qk162 h => wc_mono2 (G := fun t m => ∃ (l160 : List (Int)) (v158 : Value) (ms159 : List Chunk), k162 l160 = some r ∧ GrownIn (El.int .u8) v1 p1 v158 l160 ms159 ∧ Fit [(0, v0), (1, v1), (5, v54), (6, v158)] (ms55 ++ (ms159 ++ [])) t m) ?_ ?_
  ·refine wc_block <| wc_loopJ (fun n198 t m => ∃ (l194 : List (Int)) (i196 : Int) (v192 : Value) (ms193 : List Chunk), fareboxlaw30_rooms_l2 k162 n198 l194 i196 = some r ∧ GrownIn (El.int .u8) v1 p1 v192 l194 ms193 ∧ Fit [(0, v0), (1, v1), (5, v54), (6, v192), (8, .int .i64 (i196))] (ms55 ++ (ms193 ++ [])) t m) big ?_ ?_
   ·exact ⟨p1, 0, v1, M1, h, (OwnIn.grow O1), ⟨⟨rfl, rfl, rfl, rfl, rfl, trivial⟩, (.all (.app .here) (.all .here .nil))⟩⟩
   ·rintro n198 t m ⟨l194, i196, v192, ms193, h, G195, hF⟩
    refine wc_fit hF ?_
    clear hF
    rcases n198 with _ | n198
    · exact none_i h
    have h : fareboxlaw30_rooms_b2 k162 (fareboxlaw30_rooms_l2 k162 n198) l194 i196 = some r := h
    unfold fareboxlaw30_rooms_b2 at h
    obtain ⟨k197, qk197⟩ : ∃ k, k = fareboxlaw30_rooms_l2 k162 n198 := ⟨_, rfl⟩
    try rw [← qk197] at h
    refine wc_seq <| wc_seq <| wc_ops <| wj_q _ (q_mv rfl) <| wj_q _ (q_bin rfl rfl rfl) <| wj_nil <| wc_br h rfl (fun h => ?_) (fun h => ?_)
    ·refine wc_skip <| wc_seq <| wc_block <| cH h fun c205 h => bH h fun l206 el206 h => wc_ops <| wj_q _ (q_mv rfl) <| wj_e (ef_bsO (E := (El.int .u8)) (xs := [34]) (.one rfl rfl rfl BdR.nil) (.cons (p := [.one (.int .u8 (34))]) rfl .nil) rfl fun v202 ms203 O204 => wj_e (ef_appGI (E := (El.int .u8)) el206 rfl G195 (.app (.app .here)) rfl (rd_own O204 .here) c205 fun v207 ms208 O209 => wj_q _ (q_mv rfl) <| wj_nil <| bH h fun z211 ez211 h => wc_ops <| wj_q _ (q_mv rfl) <| wj_q _ (iz ez211 (q_bin rfl rfl rfl)) <| wj_q _ (q_mv rfl) <| wj_nil ?_))
     rw [qk197] at h
     exact ⟨n198, Nat.lt_succ_self _, l206, z211, v207, ms208, h, O209, ⟨⟨rfl, rfl, rfl, rfl, rfl, trivial⟩, (.all (.app (.app .here)) (.all .here .nil))⟩⟩
    ·exact wc_exit _ rfl <| ⟨l194, v192, ms193, h, G195, ⟨⟨rfl, rfl, rfl, rfl, trivial⟩, (.all .here (.all .here .nil))⟩⟩
  ·rintro t m ⟨l160, v158, ms159, h, G161, hF⟩
   refine wc_fit hF ?_
   clear hF
   subst qk162
   refine wc_seq <| wc_seq <| wc_ops <| wj_q _ (q_mv rfl) <| wj_q _ (q_lenP rfl (OwnIn.shp (GrownIn.base G57))) <| wj_q _ (q_mv rfl) <| wj_nil <| jH h fun k244 qk244 h => wc_mono2 (G := fun t m => k244 () = some r ∧ Fit [(1, v1), (6, v158)] (ms55 ++ (ms159 ++ [])) t m) ?_ ?_
   ·refine wc_block <| wc_loopJ (fun n266 t m => ∃ (i264 : Int), fareboxlaw30_rooms_l3 l56 k244 n266 i264 = some r ∧ Fit [(1, v1), (5, v54), (6, v158), (9, .int .i64 (i264))] (ms55 ++ (ms159 ++ [])) t m) big ?_ ?_
    ·exact ⟨(p0.length : Int), h, ⟨⟨rfl, rfl, rfl, rfl, trivial⟩, (.all .here (.all .here .nil))⟩⟩
    ·rintro n266 t m ⟨i264, h, hF⟩
     refine wc_fit hF ?_
     clear hF
     rcases n266 with _ | n266
     · exact none_i h
     have h : fareboxlaw30_rooms_b3 l56 k244 (fareboxlaw30_rooms_l3 l56 k244 n266) i264 = some r := h
     unfold fareboxlaw30_rooms_b3 at h
     obtain ⟨k265, qk265⟩ : ∃ k, k = fareboxlaw30_rooms_l3 l56 k244 n266 := ⟨_, rfl⟩
     try rw [← qk265] at h
     refine wc_seq <| wc_seq <| wc_ops <| wj_q _ (q_mv rfl) <| wj_q _ (q_mv rfl) <| wj_q _ (q_lenP rfl (GrownIn.shp G57)) <| wj_q _ (q_bin rfl rfl rfl) <| wj_nil <| wc_br h rfl (fun h => ?_) (fun h => ?_)
     ·refine wc_skip <| wc_seq <| wc_block <| wc_seq <| cH h fun c270 h => bH h fun z271 ez271 h => wc_ops <| wj_q _ (q_mv rfl) <| wj_q _ (q_mv rfl) <| wj_q _ (q_iasP rfl rfl (GrownIn.shp G57) c270) <| wj_q _ (iz ez271 (q_ldM10 (E := (El.int .u8)) (s := [.one (.int .u8 (l56.getD (i264).toNat 0))]) rfl (rd_gin G57 .here) (inB_n c270) rfl rfl)) <| wj_q _ (q_bin rfl rfl rfl) <| wj_nil <| wc_br h rfl (fun h => ?_) (fun h => ?_)
      ·refine wc_seq <| wc_ops <| wj_q _ (q_mv rfl) <| wj_nil <| wc_ret ?_
       revert h; refine ret_i fun h => ?_
       subst h
       exact ⟨_, _, (.cons (.tmp rfl) .nil), (.all .here (.all .here .nil)), ⟨_, rfl, ⟨ms55, ms159, rfl, rfl, (GrownIn.base G57), (GrownIn.base G161)⟩⟩⟩
      ·refine wc_skip <| bH h fun z275 ez275 h => wc_ops <| wj_q _ (q_mv rfl) <| wj_q _ (iz ez275 (q_bin rfl rfl rfl)) <| wj_q _ (q_mv rfl) <| wj_nil ?_
       rw [qk265] at h
       exact ⟨n266, Nat.lt_succ_self _, z275, h, ⟨⟨rfl, rfl, rfl, rfl, trivial⟩, (.all .here (.all .here .nil))⟩⟩
     ·exact wc_exit _ rfl <| ⟨h, ⟨⟨rfl, rfl, trivial⟩, (.all .here (.all .here .nil))⟩⟩
   ·rintro t m ⟨h, hF⟩
    refine wc_fit hF ?_
    clear hF
    subst qk244
    refine wc_seq <| bH h fun z277 ez277 h => wc_ops <| wj_q _ (q_mv rfl) <| wj_q _ (q_lenP rfl (GrownIn.shp G161)) <| wj_q _ (q_mv rfl) <| wj_q _ (q_lenP rfl (OwnIn.shp (GrownIn.base G161))) <| wj_q _ (iz ez277 (q_bin rfl rfl rfl)) <| wj_q _ (q_bin rfl rfl rfl) <| wj_q _ (q_mv rfl) <| wj_nil <| wc_ret ?_
    revert h; refine ret_i fun h => ?_
    subst h
    exact ⟨_, _, (.cons (.tmp rfl) .nil), (.all .here (.all .here .nil)), ⟨_, rfl, ⟨ms55, ms159, rfl, rfl, (GrownIn.base G57), (GrownIn.base G161)⟩⟩⟩
/- farebox/fareboxlaw30.turned -/
def fareboxlaw30_turned_b1 (n0 : Int) (k127 : (List (api_Link)) → Option ((List (api_Link)) × (List (api_Link)))) (k209 : (List (api_Link)) → (Int) → Option ((List (api_Link)) × (List (api_Link)))) (l205 : List (api_Link)) (i208 : Int) : Option ((List (api_Link)) × (List (api_Link))) :=
 bnd (IntKind.wrap .i64 (Int.tdiv n0 2)) fun z212 =>
 br ((decide (i208 < z212))) (
 chk (inB i208 (n0).toNat) <|
 bnd (l205.getD (i208).toNat api_Link_z) fun x216 =>
 bnd (IntKind.wrap .i64 (n0 - 1)) fun z219 =>
 bnd (IntKind.wrap .i64 (z219 - i208)) fun z220 =>
 chk (inB z220 (n0).toNat) <|
 bnd (l205.getD (z220).toNat api_Link_z) fun x222 =>
 chk (inB i208 (n0).toNat) <|
 bnd (l205.getD (i208).toNat api_Link_z) fun x224 =>
 bnd (setG api_Link_z l205 (i208).toNat x222) fun l225 =>
 chk (cutB 0 n0 l225.length) <|
 chk (cutB 0 n0 l225.length) <|
 chk (cutB 0 n0 l225.length) <|
 chk (cutB 0 n0 l225.length) <|
 bnd (IntKind.wrap .i64 (n0 - 1)) fun z233 =>
 bnd (IntKind.wrap .i64 (z233 - i208)) fun z234 =>
 chk (inB z234 (n0).toNat) <|
 bnd (l225.getD (z234).toNat api_Link_z) fun x236 =>
 bnd (setG api_Link_z l225 (z234).toNat x216) fun l237 =>
 chk (cutB 0 n0 l237.length) <|
 chk (cutB 0 n0 l237.length) <|
 chk (cutB 0 n0 l237.length) <|
 chk (cutB 0 n0 l237.length) <|
 chk (cutB 0 n0 l237.length) <|
 bnd (IntKind.wrap .i64 (i208 + 1)) fun z246 =>
 k209 l237 z246
 ) (
 k127 l205
 )
def fareboxlaw30_turned_l1 (n0 : Int) (k127 : (List (api_Link)) → Option ((List (api_Link)) × (List (api_Link)))) : Nat → (List (api_Link)) → (Int) → Option ((List (api_Link)) × (List (api_Link)))
  | 0, _, _ => none
  | n + 1, l205, i208 => fareboxlaw30_turned_b1 n0 k127 (fareboxlaw30_turned_l1 n0 k127 n) l205 i208
def fareboxlaw30_turned (p0 : List (api_Link)) (n0 : Int) : Option ((List (api_Link)) × (List (api_Link))) :=
 jn (fun (l124 : List (api_Link)) => chk (decide ((([] : List (api_Link)).length + (l124.take (n0).toNat).length) * 104 ≤ 140737488355328)) <|
 bnd (([] : List (api_Link)) ++ (l124.take (n0).toNat)) fun l250 =>
 some (l250, l124)) fun k127 => fareboxlaw30_turned_l1 n0 k127 big p0 0
theorem fareboxlaw30_turned_spec {W : World} {r : (List (api_Link)) × (List (api_Link))} {p0 : List (api_Link)} {n0 : Int} {v0 : Value} {M0 : List Chunk} (h : fareboxlaw30_turned p0 n0 = some r) (h0 : Sat W (M0.map (·.b)) (M0 ++ []) W) (O0 : OwnSl E_api_Link v0 M0 p0) (N0 : cutB 0 n0 p0.length = true) :
    Calls Try.prog 24 [(cutSl 97 v0 0 (n0).toNat)].toArray W (retS W (M0.map (·.b)) (fun v Ms => ∃ (u0 : Value) (M0 : List Chunk) (X0 : List Chunk), v = u0 ∧ Ms = [.all M0, .all X0] ∧ OwnSl E_api_Link u0 M0 r.1 ∧ OwnSl E_api_Link v0 X0 r.2)) := by
 unfold fareboxlaw30_turned at h
 refine calls_memT mo ok24 rfl h0 ?_
 refine wc_seq <| wc_ops <| wj_q _ (q_mv rfl) <| wj_nil <| wc_seq <| wc_ops <| wj_q _ (q_mv rfl) <| wj_q _ (q_lenU rfl (Shp.own O0) N0) <| wj_q _ (q_mv rfl) <| wj_nil <| wc_seq <| wc_seq <| wc_ops <| wj_q _ (q_mv rfl) <| wj_nil <| jH h fun k127 qk127 h => wc_mono2 (G := fun t m => ∃ (l124 : List (api_Link)) (ms123 : List Chunk), k127 l124 = some r ∧ OwnSl E_api_Link v0 ms123 l124 ∧ cutB 0 n0 l124.length = true ∧ Fit [(0, (cutSl 97 v0 0 (n0).toNat))] (ms123 ++ []) t m) ?_ ?_
 ·refine wc_block <| wc_loopJ (fun n210 t m => ∃ (l205 : List (api_Link)) (i208 : Int) (ms204 : List Chunk), fareboxlaw30_turned_l1 n0 k127 n210 l205 i208 = some r ∧ OwnSl E_api_Link v0 ms204 l205 ∧ cutB 0 n0 l205.length = true ∧ Fit [(0, (cutSl 97 v0 0 (n0).toNat)), (3, .int .i64 (n0)), (4, .int .i64 (i208))] (ms204 ++ []) t m) big ?_ ?_
  ·exact ⟨p0, 0, M0, h, O0, N0, ⟨⟨rfl, rfl, rfl, trivial⟩, (.all .here .nil)⟩⟩
  ·rintro n210 t m ⟨l205, i208, ms204, h, O206, H207, hF⟩
   refine wc_fit hF ?_
   clear hF
   rcases n210 with _ | n210
   · exact none_i h
   have h : fareboxlaw30_turned_b1 n0 k127 (fareboxlaw30_turned_l1 n0 k127 n210) l205 i208 = some r := h
   unfold fareboxlaw30_turned_b1 at h
   obtain ⟨k209, qk209⟩ : ∃ k, k = fareboxlaw30_turned_l1 n0 k127 n210 := ⟨_, rfl⟩
   try rw [← qk209] at h
   refine wc_seq <| wc_seq <| bH h fun z212 ez212 h => wc_ops <| wj_q _ (q_mv rfl) <| wj_q _ (q_mv rfl) <| wj_q _ (iz ez212 (q_quo rfl rfl (by decide))) <| wj_q _ (q_bin rfl rfl rfl) <| wj_nil <| wc_br h rfl (fun h => ?_) (fun h => ?_)
   ·refine wc_skip <| wc_seq <| wc_block <| wc_seq <| cH h fun c215 h => bH h fun x216 ex216 h => wc_ops <| wj_q _ (q_mv rfl) <| wj_q _ (q_mv rfl) <| wj_q _ (q_iasU rfl rfl (Shp.own O206) H207 c215) <| wj_q _ (az (fun (x216 : api_Link) => agg [.one (.int .i64 (x216.gEpoch)), .ints .u8 32 (x216.gKey), .ints .u8 64 (x216.gSig)]) ex216 (q_ldM0 (E := E_api_Link) (s := [.one (.int .i64 (((l205.getD (i208).toNat api_Link_z)).gEpoch)), .ints .u8 32 (((l205.getD (i208).toNat api_Link_z)).gKey), .ints .u8 64 (((l205.getD (i208).toNat api_Link_z)).gSig)]) rfl (rd_own O206 .here) (inB_n (inB_up H207 c215)) rfl rfl)) <| wj_e (ef_al fun b217 hb217 => wj_e (ef_st (q := [.one (.int .i64 (x216.gEpoch)), .ints .u8 32 (x216.gKey), .ints .u8 64 (x216.gSig)]) rfl rfl rfl rfl rfl .here <| wj_nil <| wc_seq <| bH h fun z219 ez219 h => bH h fun z220 ez220 h => cH h fun c221 h => bH h fun x222 ex222 h => cH h fun c223 h => bH h fun x224 ex224 h => bH h fun l225 el225 h => cH h fun c228 h => cH h fun c229 h => cH h fun c230 h => cH h fun c231 h => wc_ops <| wj_q _ (q_mv rfl) <| wj_q _ (q_mv rfl) <| wj_q _ (q_mv rfl) <| wj_q _ (q_mv rfl) <| wj_q _ (iz ez219 (q_bin rfl rfl rfl)) <| wj_q _ (q_mv rfl) <| wj_q _ (iz ez220 (q_bin rfl rfl rfl)) <| wj_q _ (q_iasU rfl rfl (Shp.own O206) H207 c221) <| wj_q _ (az (fun (x222 : api_Link) => agg [.one (.int .i64 (x222.gEpoch)), .ints .u8 32 (x222.gKey), .ints .u8 64 (x222.gSig)]) ex222 (q_ldM0 (E := E_api_Link) (s := [.one (.int .i64 (((l205.getD (z220).toNat api_Link_z)).gEpoch)), .ints .u8 32 (((l205.getD (z220).toNat api_Link_z)).gKey), .ints .u8 64 (((l205.getD (z220).toNat api_Link_z)).gSig)]) rfl (rd_own O206 (.there .here)) (inB_n (inB_up H207 c221)) rfl rfl)) <| wj_q _ (q_iasU rfl rfl (Shp.own O206) H207 c223) <| wj_e (ef_stO (E := E_api_Link) el225 O206 (.there .here) rfl rfl rfl (inB_n (inB_up H207 c223)) fun ms226 O227 => wj_nil <| bH h fun z233 ez233 h => bH h fun z234 ez234 h => cH h fun c235 h => bH h fun x236 ex236 h => bH h fun l237 el237 h => cH h fun c240 h => cH h fun c241 h => cH h fun c242 h => cH h fun c243 h => cH h fun c244 h => wc_ops <| wj_q _ (q_mv rfl) <| wj_q _ (q_mv rfl) <| wj_q _ (iz ez233 (q_bin rfl rfl rfl)) <| wj_q _ (q_mv rfl) <| wj_q _ (iz ez234 (q_bin rfl rfl rfl)) <| wj_q _ (q_ld (p := [.one (.int .i64 (x216.gEpoch)), .ints .u8 32 (x216.gKey), .ints .u8 64 (x216.gSig)]) rfl (.app .here) rfl) <| wj_q _ (q_iasU rfl rfl (Shp.own O227) c228 c235) <| wj_e (ef_stO (E := E_api_Link) el237 O227 .here rfl rfl rfl (inB_n (inB_up c228 c235)) fun ms238 O239 => wj_nil <| bH h fun z246 ez246 h => wc_ops <| wj_q _ (q_mv rfl) <| wj_q _ (iz ez246 (q_bin rfl rfl rfl)) <| wj_q _ (q_mv rfl) <| wj_nil ?_))))
    rw [qk209] at h
    exact ⟨n210, Nat.lt_succ_self _, l237, z246, ms238, h, O239, c240, ⟨⟨rfl, rfl, rfl, trivial⟩, (.all .here .nil)⟩⟩
   ·exact wc_exit _ rfl <| ⟨l205, ms204, h, O206, H207, ⟨⟨rfl, trivial⟩, (.all .here .nil)⟩⟩
 ·rintro t m ⟨l124, ms123, h, O125, H126, hF⟩
  refine wc_fit hF ?_
  clear hF
  subst qk127
  refine wc_seq <| wc_ops <| wj_q _ (q_mv rfl) <| wj_nil <| wc_seq <| cH h fun c249 h => bH h fun l250 el250 h => wc_ops <| wj_q _ (q_mv rfl) <| wj_q _ (q_mv rfl) <| wj_e (ef_appO (E := E_api_Link) el250 rfl own_nil .here rfl (rd_pre (rd_own O125 .here) H126) c249 fun v251 ms252 O253 => wj_q _ (q_mv rfl) <| wj_nil <| wc_ret ?_)
  revert h; refine ret_i fun h => ?_
  subst h
  exact ⟨_, _, (.cons (.tmp rfl) .nil), (.all .here (.all .here .nil)), ⟨_, rfl, ⟨v251, ms252, ms123, rfl, rfl, O253, O125⟩⟩⟩
end Go.Proofs.Ytiflckckekjbnaa
/- Mirrors. -/
namespace Go.Proofs.Ytiflckckekjbnaa
open Go Go.Sx Go.RowKit
set_option linter.all false
set_option maxHeartbeats 400000
set_option maxRecDepth 100000
/- farebox/fareboxlaw30.encodedAgain -/
def fareboxlaw30_encodedAgain (p0 : List (api_Link)) (n0 : Int) (p1 : List (api_Link)) : Option (Bool × (List (api_Link))) :=
 opt (fareboxlaw30_turned p0 n0) fun y3 =>
 chk (cutB 0 n0 y3.2.length) <|
 chk (cutB 0 n0 y3.2.length) <|
 opt (rotate_Encode (y3.2.take (n0).toNat)) fun y14 =>
 opt (fareboxref30_Encode y3.1) fun y21 =>
 opt (fareboxlaw30_same y14.1 y21.1) fun y28 =>
 chk (imp (y28 && (y14.2 == y21.2)) ((fareboxlaw30_left y3.2 n0 y3.1).isSome)) <|
 opt (fareboxlaw30_turned y3.2 n0) fun y31 =>
 chk (cutB 0 n0 y31.2.length) <|
 chk (cutB 0 n0 y31.2.length) <|
 chk (cutB 0 n0 y31.2.length) <|
 chk (cutB 0 n0 y31.2.length) <|
 chk (imp ((y28 && (y14.2 == y21.2)) && ((fareboxlaw30_left y3.2 n0 y3.1).getD false)) ((fareboxlaw30_left y31.2 n0 p1).isSome)) <|
 some ((((y28 && (y14.2 == y21.2)) && ((fareboxlaw30_left y3.2 n0 y3.1).getD false)) && ((fareboxlaw30_left y31.2 n0 p1).getD false)), y31.2)
theorem fareboxlaw30_encodedAgain_spec {W : World} {r : Bool × (List (api_Link))} {p0 : List (api_Link)} {n0 : Int} {p1 : List (api_Link)} {v0 : Value} {M0 : List Chunk} {v1 : Value} (h : fareboxlaw30_encodedAgain p0 n0 p1 = some r) (h0 : Sat W (M0.map (·.b)) (M0 ++ []) W) (O0 : OwnSl E_api_Link v0 M0 p0) (N0 : cutB 0 n0 p0.length = true) (A1 : RdSl E_api_Link W v1 p1 ∧ Apart v1 p1 (M0.map (·.b))) :
    Calls Try.prog 10 [(cutSl 97 v0 0 (n0).toNat), v1].toArray W (retS W (M0.map (·.b)) (fun v Ms => ∃ (X0 : List Chunk), v = .bool (r.1) ∧ Ms = [.all X0] ∧ OwnSl E_api_Link v0 X0 r.2)) := by
 unfold fareboxlaw30_encodedAgain at h
 refine calls_memT mo ok10 rfl h0 ?_
 refine wc_seq <| wc_ops <| wj_q _ (q_mv rfl) <| wj_nil <| wc_seq <| oH h fun y3 ey3 h => cH h fun c11 h => cH h fun c12 h => wc_ops <| wj_q _ (q_mv rfl) <| wj_e (ef_callS (mS := M0) rfl (Take.perm .here) (fun w hw => fareboxlaw30_turned_spec  ey3 (sat_own1 hw (Take.perm .here)) O0 N0) fun v4 Msv4 R5 => ?_)
 obtain ⟨_, ms7, ms9, rfl, rfl, O8, O10⟩ := R5
 refine wj_q _ (q_mv rfl) <| wj_nil <| wc_seq <| oH h fun y14 ey14 h => wc_ops <| wj_q _ (q_mv rfl) <| wj_e (ef_callS0 rfl (fun w hw => rotate_Encode_spec  ey14 ((rd_pre (rd_own O10 (.app .here)) c11) w hw)) fun v15 Msv15 R16 => ?_)
 obtain ⟨v17, ms18, rfl, rfl, O19⟩ := R16
 refine wj_q _ (q_mv rfl) <| wj_q _ (q_ext rfl rfl) <| wj_q _ (q_ext rfl rfl) <| wj_q _ (q_mv rfl) <| wj_q _ (q_mv rfl) <| wj_nil <| wc_seq <| oH h fun y21 ey21 h => wc_ops <| wj_q _ (q_mv rfl) <| wj_e (ef_callS0 rfl (fun w hw => fareboxref30_Encode_spec  ey21 ((rd_own O8 (.app .here)) w hw)) fun v22 Msv22 R23 => ?_)
 obtain ⟨v24, ms25, rfl, rfl, O26⟩ := R23
 refine wj_q _ (q_mv rfl) <| wj_q _ (q_ext rfl rfl) <| wj_q _ (q_ext rfl rfl) <| wj_q _ (q_mv rfl) <| wj_q _ (q_mv rfl) <| wj_nil <| wc_seq <| oH h fun y28 ey28 h => cH h fun c29 h => wc_ops <| wj_q _ (q_mv rfl) <| wj_q _ (q_mv rfl) <| wj_q _ (q_call rfl (fun w hw => fareboxlaw30_same_spec ey28 ((rd_own O19 (.app .here)) w hw) ((rd_own O26 .here) w hw))) <| wj_q _ (q_mv rfl) <| wj_and rfl rfl rfl (fun hg1 => qj_g rfl _ (q_mv rfl) (qj_g rfl _ (q_mv rfl) (qj_g rfl _ (q_bin rfl rfl rfl) (qj_nil)))) (fun hg1 => rfl) rfl <| wj_q _ (q_mv rfl) <| wj_and rfl rfl rfl (fun hg1 => qj_g rfl _ (q_mv rfl) (qj_g rfl _ (q_mv rfl) (qj_g rfl _ (q_call rfl (fun w hw => fareboxlaw30_left_spec (getD_some (z := false) (imp_t c29 hg1)) ((rd_own O10 (.app (.app (.app .here)))) w hw) c11 ((rd_own O8 (.app (.app .here))) w hw))) (qj_nil)))) (fun hg1 => rfl) rfl <| wj_q _ (q_mv rfl) <| wj_nil <| wc_seq <| oH h fun y31 ey31 h => cH h fun c39 h => cH h fun c40 h => cH h fun c41 h => cH h fun c42 h => wc_ops <| wj_q _ (q_mv rfl) <| wj_e (ef_callS (mS := ms9) rfl (Take.perm (.app (.app (.app .here)))) (fun w hw => fareboxlaw30_turned_spec  ey31 (sat_own1 hw (Take.perm (.app (.app (.app .here))))) O10 c11) fun v32 Msv32 R33 => ?_)
 obtain ⟨_, ms35, ms37, rfl, rfl, O36, O38⟩ := R33
 refine wj_nil <| wc_seq <| cH h fun c44 h => wc_ops <| wj_q _ (q_mv rfl) <| wj_q _ (q_mv rfl) <| wj_and rfl rfl rfl (fun hg1 => qj_g rfl _ (q_mv rfl) (qj_g rfl _ (q_mv rfl) (qj_g rfl _ (q_call rfl (fun w hw => fareboxlaw30_left_spec (getD_some (z := false) (imp_t c44 hg1)) ((rd_own O38 (.app .here)) w hw) c39 ((rd_arg A1.1 A1.2) w hw))) (qj_nil)))) (fun hg1 => rfl) rfl <| wj_q _ (q_mv rfl) <| wj_nil <| wc_ret ?_
 revert h; refine ret_i fun h => ?_
 subst h
 exact ⟨_, _, (.cons (.tmp rfl) .nil), (.all (.app .here) .nil), ⟨_, rfl, ⟨ms37, rfl, rfl, O38⟩⟩⟩
/- farebox/bits.Equal -/
def bits_Equal_b1 (p0 : List Int) (p1 : List Int) (k49 : (Int) → Option (Bool)) (k77 : (Int) → (Int) → Option (Bool)) (i75 : Int) (i76 : Int) : Option (Bool) :=
 br ((decide (i76 < (p0.length : Int)))) (
 chk (inB i76 p0.length) <|
 chk (inB i76 p1.length) <|
 bnd (p0.getD (i76).toNat 0) fun z85 =>
 bnd (p1.getD (i76).toNat 0) fun z86 =>
 bnd (bitsV .xor .u8 z85 z86) fun z87 =>
 bnd (bitsV .or .u8 i75 z87) fun z88 =>
 bnd (IntKind.wrap .i64 (i76 + 1)) fun z90 =>
 k77 z88 z90
 ) (
 k49 i75
 )
def bits_Equal_l1 (p0 : List Int) (p1 : List Int) (k49 : (Int) → Option (Bool)) : Nat → (Int) → (Int) → Option (Bool)
  | 0, _, _ => none
  | n + 1, i75, i76 => bits_Equal_b1 p0 p1 k49 (bits_Equal_l1 p0 p1 k49 n) i75 i76
def bits_Equal (p0 : List Int) (p1 : List Int) : Option (Bool) :=
 br (((p0.length : Int) != (p1.length : Int))) (
 some false
 ) (
 jn (fun (i48 : Int) => some (i48 == 0)) fun k49 => bits_Equal_l1 p0 p1 k49 big 0 0
 )
theorem bits_Equal_spec {W : World} {r : Bool} {p0 : List Int} {p1 : List Int} {v0 : Value} {v1 : Value} (h : bits_Equal p0 p1 = some r) (A0 : RdSl (El.int .u8) W v0 p0) (A1 : RdSl (El.int .u8) W v1 p1) :
    Calls Try.prog 38 [v0, v1].toArray W (ret1 W (.bool (r))) := by
 unfold bits_Equal at h
 refine calls_val mo ok38 rfl ?_
 refine wc_seq <| wc_ops <| wj_q _ (q_mv rfl) <| wj_nil <| wc_seq <| wc_seq <| wc_ops <| wj_q _ (q_mv rfl) <| wj_q _ (q_lenP rfl (Shp.rd A0)) <| wj_q _ (q_mv rfl) <| wj_q _ (q_lenP rfl (Shp.rd A1)) <| wj_q _ (q_bin rfl rfl rfl) <| wj_nil <| wc_br h rfl (fun h => ?_) (fun h => ?_)
 ·refine wc_seq <| wc_ops <| wj_q _ (q_mv rfl) <| wj_nil <| wc_ret ?_
  revert h; refine ret_i fun h => ?_
  subst h
  exact ⟨_, (.cons (.tmp rfl) .nil), rfl⟩
 ·refine wc_skip <| wc_seq <| wc_ops <| wj_q _ (q_mv rfl) <| wj_nil <| wc_seq <| wc_seq <| wc_ops <| wj_q _ (q_mv rfl) <| wj_q _ (q_lenP rfl (Shp.rd A0)) <| wj_q _ (q_mv rfl) <| wj_nil <| jH h fun k49 qk49 h => wc_mono2 (G := fun t m => ∃ (i48 : Int), k49 i48 = some r ∧ Fit [(5, .int .u8 (i48))] [] t m) ?_ ?_
  ·refine wc_block <| wc_loopJ (fun n78 t m => ∃ (i75 : Int) (i76 : Int), bits_Equal_l1 p0 p1 k49 n78 i75 i76 = some r ∧ Fit [(0, v0), (1, v1), (5, .int .u8 (i75)), (13, .int .i64 ((p0.length : Int))), (14, .int .i64 (i76))] [] t m) big ?_ ?_
   ·exact ⟨0, 0, h, ⟨⟨rfl, rfl, rfl, rfl, rfl, trivial⟩, .nil⟩⟩
   ·rintro n78 t m ⟨i75, i76, h, hF⟩
    refine wc_fit hF ?_
    clear hF
    rcases n78 with _ | n78
    · exact none_i h
    have h : bits_Equal_b1 p0 p1 k49 (bits_Equal_l1 p0 p1 k49 n78) i75 i76 = some r := h
    unfold bits_Equal_b1 at h
    obtain ⟨k77, qk77⟩ : ∃ k, k = bits_Equal_l1 p0 p1 k49 n78 := ⟨_, rfl⟩
    try rw [← qk77] at h
    refine wc_seq <| wc_ops <| wj_q _ (q_bin rfl rfl rfl) <| wj_nil <| wc_seq <| wc_br h rfl (fun h => ?_) (fun h => ?_)
    ·refine wc_skip <| wc_seq <| wc_block <| wc_seq <| wc_ops <| wj_q _ (q_mv rfl) <| wj_q _ (q_mv rfl) <| wj_nil <| cH h fun c83 h => cH h fun c84 h => bH h fun z85 ez85 h => bH h fun z86 ez86 h => bH h fun z87 ez87 h => bH h fun z88 ez88 h => wc_draw <| ws_p1 _ (q_mv rfl) <| ws_p1 _ (q_mv rfl) <| ws_p1 _ (q_mv rfl) <| ws_p1 _ (q_iasP rfl rfl (Shp.rd A0) c83) <| ws_p1 _ (q_mv rfl) <| ws_p1 _ (q_mv rfl) <| ws_p1 _ (q_iasP rfl rfl (Shp.rd A1) c84) <| ws_q1 _ (iz ez85 (q_ldM10 (E := (El.int .u8)) (s := [.one (.int .u8 (p0.getD (i76).toNat 0))]) rfl (rd_arg A0 apart0) (inB_n c83) rfl rfl)) <| ws_q1 _ (iz ez86 (q_ldM10 (E := (El.int .u8)) (s := [.one (.int .u8 (p1.getD (i76).toNat 0))]) rfl (rd_arg A1 apart0) (inB_n c84) rfl rfl)) <| ws_p1 _ (iz ez87 (q_bin rfl rfl rfl)) <| ws_p1 _ (iz ez88 (q_bin rfl rfl rfl)) <| ws_p1 _ (q_mv rfl) <| ws_nil <| bH h fun z90 ez90 h => wc_ops <| wj_q _ (iz ez90 (q_bin rfl rfl rfl)) <| wj_q _ (q_mv rfl) <| wj_nil ?_
     rw [qk77] at h
     exact ⟨n78, Nat.lt_succ_self _, z88, z90, h, ⟨⟨rfl, rfl, rfl, rfl, rfl, trivial⟩, .nil⟩⟩
    ·exact wc_exit _ rfl <| ⟨i75, h, ⟨⟨rfl, trivial⟩, .nil⟩⟩
  ·rintro t m ⟨i48, h, hF⟩
   refine wc_fit hF ?_
   clear hF
   subst qk49
   refine wc_seq <| wc_ops <| wj_q _ (q_mv rfl) <| wj_q _ (q_bin rfl rfl rfl) <| wj_q _ (q_mv rfl) <| wj_nil <| wc_ret ?_
   revert h; refine ret_i fun h => ?_
   subst h
   exact ⟨_, (.cons (.tmp rfl) .nil), rfl⟩
/- farebox/wire.ReadHead -/
def wire_ReadHead (p0 : List Int) : Option (Int × Int × Int) :=
 jn (fun (i15 : Bool) => br (i15) (
 some (0, 0, 90)
 ) (
 chk (inB 3 p0.length) <|
 bnd (p0.getD (3 : Int).toNat 0) fun z34 =>
 bnd (IntKind.wrap .i64 z34) fun z35 =>
 some (z35, 4, 0)
 )) fun k16 => chk (imp (!(decide ((p0.length : Int) < 4))) (inB 3 p0.length)) <|
 br (((decide ((p0.length : Int) < 4)) || (p0.getD (3 : Int).toNat 0 == 0))) (
 k16 true
 ) (
 chk (cutB 0 4 p0.length) <|
 chk (inB 3 p0.length) <|
 bnd (p0.getD (3 : Int).toNat 0) fun z21 =>
 bnd (IntKind.wrap .i64 z21) fun z22 =>
 opt (wire_Head z22) fun y23 =>
 opt (bits_Equal ((p0.drop 0).take (4 - 0)) y23) fun y29 =>
 k16 (!y29)
 )
theorem wire_ReadHead_spec {W : World} {r : Int × Int × Int} {p0 : List Int} {v0 : Value} (h : wire_ReadHead p0 = some r) (A0 : RdSl (El.int .u8) W v0 p0) :
    Calls Try.prog 25 [v0].toArray W (ret1 W (.tuple #[.int .i64 (r.1), .int .i64 (r.2.1), .int .i64 (r.2.2)])) := by
 unfold wire_ReadHead at h
 refine calls_val mo ok25 rfl ?_
 refine wc_seq <| wc_ops <| wj_q _ (q_mv rfl) <| wj_q _ (q_mv rfl) <| wj_q _ (q_mv rfl) <| wj_nil <| wc_seq <| wc_seq <| jH h fun k16 qk16 h => wc_mono2 (G := fun t m => ∃ (i15 : Bool), k16 i15 = some r ∧ Fit [(0, v0), (24, .bool (i15))] [] t m) ?_ ?_
 ·refine wc_draw <| cH h fun c18 h => ws_p1 _ (q_mv rfl) <| ws_p1 _ (q_lenP rfl (Shp.rd A0)) <| ws_p1 _ (q_bin rfl rfl rfl) <| ws_p1 _ (q_mv rfl) <| ws_or rfl rfl rfl (fun hg1 => qj_g rfl _ (q_mv rfl) (qj_g rfl _ (q_iasP rfl rfl (Shp.rd A0) (imp_f c18 hg1)) (qj_g rfl _ (iz rfl (q_ldM10 (E := (El.int .u8)) (s := [.one (.int .u8 (p0.getD (3 : Int).toNat 0))]) rfl (rd_arg A0 apart0) (inB_n (imp_f c18 hg1)) rfl rfl)) (qj_g rfl _ (q_bin rfl rfl rfl) (qj_nil))))) (fun hg1 => rfl) rfl <| ws_p1 _ (q_mv rfl) <| ws_br (tc := 14) h rfl (fun h => ?_) (fun h => ?_)
  ·exact ws_gxp rfl rfl <| ws_gxp rfl rfl <| ws_gxp rfl rfl <| ws_gxp rfl rfl <| ws_gxq rfl rfl <| ws_gxp rfl rfl <| ws_gx rfl rfl <| ws_gx rfl rfl <| ws_gxp rfl rfl <| ws_p1 _ (pick_t rfl rfl) <| ws_nil <| ⟨true, h, ⟨⟨rfl, rfl, trivial⟩, .nil⟩⟩
  ·refine cH h fun c19 h => cH h fun c20 h => bH h fun z21 ez21 h => bH h fun z22 ez22 h => oH h fun y23 ey23 h => oH h fun y29 ey29 h => ws_gp rfl _ (q_mv rfl) <| ws_gp rfl _ (q_slsP (lz := 0) (hz := 4) rfl (Shp.rd A0) .no (.yes rfl) c19) <| ws_gp rfl _ (q_mv rfl) <| ws_gp rfl _ (q_iasP rfl rfl (Shp.rd A0) c20) <| ws_gq rfl _ (iz ez21 (q_ldM10 (E := (El.int .u8)) (s := [.one (.int .u8 (p0.getD (3 : Int).toNat 0))]) rfl (rd_arg A0 apart0) (inB_n c20) rfl rfl)) <| ws_gp rfl _ (iz ez22 (q_conv rfl)) <| ws_ge1 rfl (ef_callS0 rfl (fun w hw => wire_Head_spec  ey23 ) fun v24 Msv24 R25 => ?_)
   obtain ⟨_, ms27, rfl, rfl, O28⟩ := R25
   exact ⟨(by repeat (first | exact Sup.refl _ | apply Sup.cons | apply Sup.app)), ws_geq rfl _ (q_call rfl (fun w hw => bits_Equal_spec ey29 ((rd_cut (rd_arg A0 apart0) (lz := 0) (hz := 4) c19) w hw) ((rd_own O28 .here) w hw))) (ws_gp rfl _ (q_un rfl rfl) (ws_p1 _ (pick_f rfl rfl) (ws_nil (⟨(!y29), h, ⟨⟨rfl, rfl, trivial⟩, .nil⟩⟩)))) (by repeat (first | exact Sup.refl _ | apply Sup.cons | apply Sup.app))⟩
 ·rintro t m ⟨i15, h, hF⟩
  refine wc_fit hF ?_
  clear hF
  subst qk16
  refine wc_br h rfl (fun h => ?_) (fun h => ?_)
  ·refine wc_seq <| wc_ops <| wj_q _ (q_mv rfl) <| wj_q _ (q_mv rfl) <| wj_q _ (q_mv rfl) <| wj_nil <| wc_ret ?_
   revert h; refine ret_i fun h => ?_
   subst h
   exact ⟨_, (.cons (.tmp rfl) (.cons (.tmp rfl) (.cons (.tmp rfl) .nil))), rfl⟩
  ·refine wc_skip <| wc_seq <| cH h fun c33 h => bH h fun z34 ez34 h => bH h fun z35 ez35 h => wc_ops <| wj_q _ (q_mv rfl) <| wj_q _ (q_iasP rfl rfl (Shp.rd A0) c33) <| wj_q _ (iz ez34 (q_ldM10 (E := (El.int .u8)) (s := [.one (.int .u8 (p0.getD (3 : Int).toNat 0))]) rfl (rd_arg A0 apart0) (inB_n c33) rfl rfl)) <| wj_q _ (iz ez35 (q_conv rfl)) <| wj_q _ (q_mv rfl) <| wj_q _ (q_mv rfl) <| wj_q _ (q_mv rfl) <| wj_nil <| wc_ret ?_
   revert h; refine ret_i fun h => ?_
   subst h
   exact ⟨_, (.cons (.tmp rfl) (.cons (.tmp rfl) (.cons (.tmp rfl) .nil))), rfl⟩
/- farebox/wire.NewReader -/
structure wire_Reader where
  gbytes : List Int
  gat : Int
  gfault : Int
def wire_NewReader (p0 : List Int) : Option (wire_Reader) :=
 chk (decide ((([] : List (Int)).length + p0.length) * 1 ≤ 140737488355328)) <|
 bnd (([] : List (Int)) ++ p0) fun l7 =>
 some (⟨l7, 0, 0⟩ : wire_Reader)
theorem wire_NewReader_spec {W : World} {r : wire_Reader} {p0 : List Int} {v0 : Value} (h : wire_NewReader p0 = some r) (A0 : RdSl (El.int .u8) W v0 p0) :
    Calls Try.prog 26 [v0].toArray W (retS W [] (fun v Ms => ∃ (b0 : Nat) (T0 : TypeId) (u0 : Value) (M0 : List Chunk), v = .pointer (some ⟨b0, 0, none⟩) ∧ Ms = [.one (ck b0 T0 [.one (u0), .one (.int .i64 (r.gat)), .one (.int .i64 (r.gfault))]), .all M0] ∧ OwnSl (El.int .u8) u0 M0 r.gbytes)) := by
 unfold wire_NewReader at h
 refine calls_memT mo ok26 rfl (sat0 _) ?_
 refine wc_seq <| wc_ops <| wj_q _ (q_mv rfl) <| wj_nil <| wc_seq <| cH h fun c6 h => bH h fun l7 el7 h => wc_ops <| wj_e (ef_bsO (E := (El.int .u8)) (xs := []) BdR.nil .nil rfl fun v3 ms4 O5 => wj_q _ (q_mv rfl) <| wj_e (ef_appO (E := (El.int .u8)) el7 rfl O5 .here rfl (rd_arg A0 apart0) c6 fun v8 ms9 O10 => wj_q _ (q_bd (q := [.one (v8), .one (.int .i64 (0)), .one (.int .i64 (0))]) (.one rfl (IsSl.cells (OwnSl.isSl O10)) rfl BdR.nil)) <| wj_e (ef_bx (s := [.one (v8), .one (.int .i64 (0)), .one (.int .i64 (0))]) rfl fun b11 hb11 => wj_q _ (q_mv rfl) <| wj_nil <| wc_ret ?_)))
 revert h; refine ret_i fun h => ?_
 subst h
 exact ⟨_, _, (.cons (.tmp rfl) .nil), (.one .here (.all .here .nil)), ⟨_, rfl, ⟨b11, 71, v8, ms9, rfl, rfl, O10⟩⟩⟩
/- (*farebox/wire.Reader).Left -/
def wire_Reader_Left (p0 : wire_Reader) : Option (Int × wire_Reader) :=
 bnd (IntKind.wrap .i64 ((p0.gbytes.length : Int) - p0.gat)) fun z3 =>
 some (z3, p0)
theorem wire_Reader_Left_spec {W : World} {r : Int × wire_Reader} {p0 : wire_Reader} {v0 : Value} {M0 : List Chunk} {b : Nat} {T : TypeId} (h : wire_Reader_Left p0 = some r) (h0 : Sat W (b :: M0.map (·.b)) (ck b T [.one (v0), .one (.int .i64 (p0.gat)), .one (.int .i64 (p0.gfault))] :: (M0 ++ [])) W) (O0 : OwnSl (El.int .u8) v0 M0 p0.gbytes) :
    Calls Try.prog 42 [.pointer (some ⟨b, 0, none⟩)].toArray W (retS W (b :: M0.map (·.b)) (fun v Ms => ∃ (uw : Value) (Mw : List Chunk), v = .int .i64 (r.1) ∧ Ms = [.one (ck b T [.one (uw), .one (.int .i64 (r.2.gat)), .one (.int .i64 (r.2.gfault))]), .all Mw] ∧ OwnSl (El.int .u8) uw Mw r.2.gbytes)) := by
 unfold wire_Reader_Left at h
 refine calls_memT mo ok42 rfl h0 ?_
 refine wc_seq <| wc_ops <| wj_q _ (q_mv rfl) <| wj_nil <| wc_seq <| bH h fun z3 ez3 h => wc_draw <| ws_p1 _ (q_mv rfl) <| ws_p1 _ (q_nilc rfl) <| ws_p1 _ (q_fa rfl) <| ws_p1 _ (q_mv rfl) <| ws_p1 _ (q_nilc rfl) <| ws_p1 _ (q_fa rfl) <| ws_q1 _ (q_ld1 rfl .here rfl) <| ws_p1 _ (q_lenP rfl (Shp.own O0)) <| ws_q1 _ (q_ld1 rfl .here rfl) <| ws_p1 _ (iz ez3 (q_bin rfl rfl rfl)) <| ws_p1 _ (q_mv rfl) <| ws_nil <| wc_ret ?_
 revert h; refine ret_i fun h => ?_
 subst h
 exact ⟨_, _, (.cons (.tmp rfl) .nil), (.one .here (.all .here .nil)), ⟨_, rfl, ⟨v0, M0, rfl, rfl, O0⟩⟩⟩
def wire_Reader_take (p0 : wire_Reader) (p1 : Int) : Option ((Int × wire_Reader) ⊕ ((List Int) × wire_Reader)) :=
 br (((decide (p1 < 0)) || (decide (p1 > IntKind.wrap .i64 ((p0.gbytes.length : Int) - p0.gat))))) (
 some (.inl (90, p0))
 ) (
 bnd (IntKind.wrap .i64 (p0.gat + p1)) fun z6 =>
 bnd (IntKind.wrap .i64 (z6 - p1)) fun z8 =>
 chk (cutB z8 z6 p0.gbytes.length) <|
 chk (decide ((([] : List (Int)).length + ((p0.gbytes.drop (z8).toNat).take ((z6).toNat - (z8).toNat)).length) * 1 ≤ 140737488355328)) <|
 bnd (([] : List (Int)) ++ ((p0.gbytes.drop (z8).toNat).take ((z6).toNat - (z8).toNat))) fun l14 =>
 some (.inr (l14, (⟨p0.gbytes, z6, p0.gfault⟩ : wire_Reader)))
 )
theorem wire_Reader_take_spec {W : World} {r : (List Int) × wire_Reader} {p0 : wire_Reader} {p1 : Int} {v0 : Value} {M0 : List Chunk} {b : Nat} {T : TypeId} (h : wire_Reader_take p0 p1 = some (.inr r)) (h0 : Sat W (b :: M0.map (·.b)) (ck b T [.one (v0), .one (.int .i64 (p0.gat)), .one (.int .i64 (p0.gfault))] :: (M0 ++ [])) W) (O0 : OwnSl (El.int .u8) v0 M0 p0.gbytes) :
    Calls Try.prog 45 [.pointer (some ⟨b, 0, none⟩), .int .i64 (p1)].toArray W (retS W (b :: M0.map (·.b)) (fun v Ms => ∃ (u0 : Value) (M0 : List Chunk) (uw : Value) (Mw : List Chunk), v = u0 ∧ Ms = [.all M0, .one (ck b T [.one (uw), .one (.int .i64 (r.2.gat)), .one (.int .i64 (r.2.gfault))]), .all Mw] ∧ OwnSl (El.int .u8) u0 M0 r.1 ∧ OwnSl (El.int .u8) uw Mw r.2.gbytes)) := by
 unfold wire_Reader_take at h
 refine calls_memT mo ok45 rfl h0 ?_
 refine wc_seq <| wc_ops <| wj_q _ (q_mv rfl) <| wj_nil <| wc_seq <| wc_seq <| wc_draw <| ws_p1 _ (q_mv rfl) <| ws_p1 _ (q_bin rfl rfl rfl) <| ws_p1 _ (q_mv rfl) <| ws_or rfl rfl rfl (fun hg1 => qj_g rfl _ (q_mv rfl) (qj_g rfl _ (q_mv rfl) (qj_g rfl _ (q_nilc rfl) (qj_g rfl _ (q_fa rfl) (qj_g rfl _ (q_ld1 rfl .here rfl) (qj_g rfl _ (q_lenP rfl (Shp.own O0)) (qj_g rfl _ (q_mv rfl) (qj_g rfl _ (q_nilc rfl) (qj_g rfl _ (q_fa rfl) (qj_g rfl _ (q_ld1 rfl .here rfl) (qj_g rfl _ (iz rfl (q_bin rfl rfl rfl)) (qj_g rfl _ (q_bin rfl rfl rfl) (qj_nil))))))))))))) (fun hg1 => rfl) rfl <| ws_nil <| wc_br h rfl (fun h => ?_) (fun h => ?_)
 ·exact inlr h
 ·refine wc_skip <| wc_seq <| bH h fun z6 ez6 h => wc_ops <| wj_q _ (q_mv rfl) <| wj_q _ (q_nilc rfl) <| wj_q _ (q_fa rfl) <| wj_q _ (q_ld1 rfl .here rfl) <| wj_q _ (q_mv rfl) <| wj_q _ (iz ez6 (q_bin rfl rfl rfl)) <| wj_q _ (q_nilc rfl) <| wj_q _ (q_fa rfl) <| wj_e (ef_st1 (q := [.one (v0), .one (.int .i64 (z6)), .one (.int .i64 (p0.gfault))]) rfl rfl rfl rfl .here <| wj_nil <| wc_seq <| bH h fun z8 ez8 h => cH h fun c9 h => cH h fun c13 h => bH h fun l14 el14 h => wc_draw <| ws_p1 _ (q_mv rfl) <| ws_p1 _ (q_nilc rfl) <| ws_p1 _ (q_fa rfl) <| ws_p1 _ (q_mv rfl) <| ws_p1 _ (q_nilc rfl) <| ws_p1 _ (q_fa rfl) <| ws_p1 _ (q_mv rfl) <| ws_p1 _ (q_mv rfl) <| ws_p1 _ (q_nilc rfl) <| ws_p1 _ (q_fa rfl) <| ws_q1 _ (q_ld1 rfl .here rfl) <| ws_q1 _ (q_ld1 rfl .here rfl) <| ws_p1 _ (iz ez8 (q_bin rfl rfl rfl)) <| ws_q1 _ (q_ld1 rfl .here rfl) <| ws_p1 _ (q_slsP (lz := z8) (hz := z6) rfl (Shp.own O0) (.yes rfl) (.yes rfl) c9) <| ws_e1 (ef_bsO (E := (El.int .u8)) (xs := []) BdR.nil .nil rfl fun v10 ms11 O12 => ⟨(by repeat (first | exact Sup.refl _ | apply Sup.cons | apply Sup.app)), ws_eL rfl (ef_appO (E := (El.int .u8)) el14 rfl O12 .here rfl (rd_cut (rd_own O0 (.app (.there .here))) (lz := z8) (hz := z6) c9) c13 fun v15 ms16 O17 => ws_p1 _ (q_mv rfl) (ws_nil (wc_ret ?_)))⟩))
  revert h; refine inr_i fun h => ?_
  subst h
  exact ⟨_, _, (.cons (.tmp rfl) .nil), (.all .here (.one .here (.all .here .nil))), ⟨_, rfl, ⟨v15, ms16, v0, M0, rfl, rfl, O17, O0⟩⟩⟩
theorem wire_Reader_take_pan {W : World} {x : Int × wire_Reader} {p0 : wire_Reader} {p1 : Int} {v0 : Value} {M0 : List Chunk} {b : Nat} {T : TypeId} (h : wire_Reader_take p0 p1 = some (.inl x)) (h0 : Sat W (b :: M0.map (·.b)) (ck b T [.one (v0), .one (.int .i64 (p0.gat)), .one (.int .i64 (p0.gfault))] :: (M0 ++ [])) W) (O0 : OwnSl (El.int .u8) v0 M0 p0.gbytes) :
    Calls Try.prog 45 [.pointer (some ⟨b, 0, none⟩), .int .i64 (p1)].toArray W (panS W (b :: M0.map (·.b)) [pv x.1] (fun Ms => ∃ (uw : Value) (Mw : List Chunk), Ms = [.one (ck b T [.one (uw), .one (.int .i64 (x.2.gat)), .one (.int .i64 (x.2.gfault))]), .all Mw] ∧ OwnSl (El.int .u8) uw Mw x.2.gbytes)) := by
 unfold wire_Reader_take at h
 refine calls_pan mo ok45 rfl h0 ?_
 refine wc_seq <| wc_ops <| wj_q _ (q_mv rfl) <| wj_nil <| wc_seq <| wc_seq <| wc_draw <| ws_p1 _ (q_mv rfl) <| ws_p1 _ (q_bin rfl rfl rfl) <| ws_p1 _ (q_mv rfl) <| ws_or rfl rfl rfl (fun hg1 => qj_g rfl _ (q_mv rfl) (qj_g rfl _ (q_mv rfl) (qj_g rfl _ (q_nilc rfl) (qj_g rfl _ (q_fa rfl) (qj_g rfl _ (q_ld1 rfl .here rfl) (qj_g rfl _ (q_lenP rfl (Shp.own O0)) (qj_g rfl _ (q_mv rfl) (qj_g rfl _ (q_nilc rfl) (qj_g rfl _ (q_fa rfl) (qj_g rfl _ (q_ld1 rfl .here rfl) (qj_g rfl _ (iz rfl (q_bin rfl rfl rfl)) (qj_g rfl _ (q_bin rfl rfl rfl) (qj_nil))))))))))))) (fun hg1 => rfl) rfl <| ws_nil <| wc_br h rfl (fun h => ?_) (fun h => ?_)
 ·refine wc_opsP <| wjp_at 2 <| wj_q _ (q_bd (q := [.one (.int .i64 (90))]) (.one rfl rfl rfl BdR.nil)) <| wj_q _ (q_mi rfl) <| wj_nil ?_
  revert h; refine inl_i fun h => ?_
  subst h
  exact wjp_pnc rfl <| ⟨rfl, _, (.one .here (.all .here .nil)), ⟨_, rfl, ⟨v0, M0, rfl, O0⟩⟩⟩
 ·exact wc_skip <| wc_seq <| bH h fun z6 ez6 h => wc_ops <| wj_q _ (q_mv rfl) <| wj_q _ (q_nilc rfl) <| wj_q _ (q_fa rfl) <| wj_q _ (q_ld1 rfl .here rfl) <| wj_q _ (q_mv rfl) <| wj_q _ (iz ez6 (q_bin rfl rfl rfl)) <| wj_q _ (q_nilc rfl) <| wj_q _ (q_fa rfl) <| wj_e (ef_st1 (q := [.one (v0), .one (.int .i64 (z6)), .one (.int .i64 (p0.gfault))]) rfl rfl rfl rfl .here <| wj_nil <| wc_seq <| bH h fun z8 ez8 h => cH h fun c9 h => cH h fun c13 h => bH h fun l14 el14 h => wc_draw <| ws_p1 _ (q_mv rfl) <| ws_p1 _ (q_nilc rfl) <| ws_p1 _ (q_fa rfl) <| ws_p1 _ (q_mv rfl) <| ws_p1 _ (q_nilc rfl) <| ws_p1 _ (q_fa rfl) <| ws_p1 _ (q_mv rfl) <| ws_p1 _ (q_mv rfl) <| ws_p1 _ (q_nilc rfl) <| ws_p1 _ (q_fa rfl) <| ws_q1 _ (q_ld1 rfl .here rfl) <| ws_q1 _ (q_ld1 rfl .here rfl) <| ws_p1 _ (iz ez8 (q_bin rfl rfl rfl)) <| ws_q1 _ (q_ld1 rfl .here rfl) <| ws_p1 _ (q_slsP (lz := z8) (hz := z6) rfl (Shp.own O0) (.yes rfl) (.yes rfl) c9) <| ws_e1 (ef_bsO (E := (El.int .u8)) (xs := []) BdR.nil .nil rfl fun v10 ms11 O12 => ⟨(by repeat (first | exact Sup.refl _ | apply Sup.cons | apply Sup.app)), ws_eL rfl (ef_appO (E := (El.int .u8)) el14 rfl O12 .here rfl (rd_cut (rd_own O0 (.app (.there .here))) (lz := z8) (hz := z6) c9) c13 fun v15 ms16 O17 => ws_p1 _ (q_mv rfl) (ws_nil (wc_ret (inrl h))))⟩))
/- (*farebox/wire.Reader).short -/
def wire_Reader_short_b1  (k70 : (Int) → (Int) → (List (Int)) → (Int) → (Int) → Option ((Int × wire_Reader) ⊕ (Int × wire_Reader))) (i62 : Int) (i63 : Int) (l66 : List (Int)) (i68 : Int) (i69 : Int) : Option ((Int × wire_Reader) ⊕ (Int × wire_Reader)) :=
 opp (wire_Reader_take (⟨l66, i68, i69⟩ : wire_Reader) 1) fun y73 =>
 chk (inB 0 y73.1.length) <|
 bnd (y73.1.getD (0 : Int).toNat 0) fun z83 =>
 br ((((i63 == 63) && (decide (z83 > 1))) || ((decide (i63 > 0)) && (z83 == 0)))) (
 some (.inl (90, y73.2))
 ) (
 bnd (bitsV .and .u8 z83 127) fun z88 =>
 bnd (IntKind.wrap .u64 z88) fun z89 =>
 chk (decide (0 ≤ i63)) <|
 bnd (shlV .u64 z89 i63) fun z91 =>
 bnd (bitsV .or .u64 i62 z91) fun z92 =>
 br ((decide (z83 < 128))) (
 some (.inr (z92, y73.2))
 ) (
 bnd (IntKind.wrap .i64 (i63 + 7)) fun z97 =>
 k70 z92 z97 y73.2.gbytes y73.2.gat y73.2.gfault
 )
 )
def wire_Reader_short_l1  : Nat → (Int) → (Int) → (List (Int)) → (Int) → (Int) → Option ((Int × wire_Reader) ⊕ (Int × wire_Reader))
  | 0, _, _, _, _, _ => none
  | n + 1, i62, i63, l66, i68, i69 => wire_Reader_short_b1  (wire_Reader_short_l1  n) i62 i63 l66 i68 i69
def wire_Reader_short (p0 : wire_Reader) : Option ((Int × wire_Reader) ⊕ (Int × wire_Reader)) :=
 wire_Reader_short_l1  big 0 0 p0.gbytes p0.gat p0.gfault
theorem wire_Reader_short_spec {W : World} {r : Int × wire_Reader} {p0 : wire_Reader} {v0 : Value} {M0 : List Chunk} {b : Nat} {T : TypeId} (h : wire_Reader_short p0 = some (.inr r)) (h0 : Sat W (b :: M0.map (·.b)) (ck b T [.one (v0), .one (.int .i64 (p0.gat)), .one (.int .i64 (p0.gfault))] :: (M0 ++ [])) W) (O0 : OwnSl (El.int .u8) v0 M0 p0.gbytes) :
    Calls Try.prog 47 [.pointer (some ⟨b, 0, none⟩)].toArray W (retS W (b :: M0.map (·.b)) (fun v Ms => ∃ (uw : Value) (Mw : List Chunk), v = .int .u64 (r.1) ∧ Ms = [.one (ck b T [.one (uw), .one (.int .i64 (r.2.gat)), .one (.int .i64 (r.2.gfault))]), .all Mw] ∧ OwnSl (El.int .u8) uw Mw r.2.gbytes)) := by
 unfold wire_Reader_short at h
 refine calls_memT mo ok47 rfl h0 ?_
 refine wc_seq <| wc_ops <| wj_q _ (q_mv rfl) <| wj_nil <| wc_seq <| wc_ops <| wj_q _ (q_mv rfl) <| wj_nil <| wc_seq <| wc_ops <| wj_q _ (q_mv rfl) <| wj_nil <| wc_block <| wc_loopJ (fun n71 t m => ∃ (i62 : Int) (i63 : Int) (l66 : List (Int)) (i68 : Int) (i69 : Int) (v64 : Value) (ms65 : List Chunk), wire_Reader_short_l1  n71 i62 i63 l66 i68 i69 = some (.inr r) ∧ OwnSl (El.int .u8) v64 ms65 l66 ∧ Fit [(0, .pointer (some ⟨b, 0, none⟩)), (3, .int .u64 (i62)), (4, .int .i64 (i63))] (ck b T [.one (v64), .one (.int .i64 (i68)), .one (.int .i64 (i69))] :: (ms65 ++ [])) t m) big ?_ ?_
 ·exact ⟨0, 0, p0.gbytes, p0.gat, p0.gfault, v0, M0, h, O0, ⟨⟨rfl, rfl, rfl, trivial⟩, (.one .here (.all .here .nil))⟩⟩
 ·rintro n71 t m ⟨i62, i63, l66, i68, i69, v64, ms65, h, O67, hF⟩
  refine wc_fit hF ?_
  clear hF
  rcases n71 with _ | n71
  · exact none_i h
  have h : wire_Reader_short_b1  (wire_Reader_short_l1  n71) i62 i63 l66 i68 i69 = some (.inr r) := h
  unfold wire_Reader_short_b1 at h
  obtain ⟨k70, qk70⟩ : ∃ k, k = wire_Reader_short_l1  n71 := ⟨_, rfl⟩
  try rw [← qk70] at h
  refine wc_seq <| wc_block <| wc_seq ?_
  revert h
  refine opp_r fun y73 ey73 => chk_i fun c82 => bnd_i fun z83 ez83 => ?_
  intro h
  refine wc_ops <| wj_q _ (q_mv rfl) <| wj_e (ef_callS (mS := _ :: ms65) rfl (perm2 .here .here) (fun w hw => wire_Reader_take_spec (p0 := (⟨l66, i68, i69⟩ : wire_Reader)) ey73 (sat_own2 hw (perm2 .here .here)) O67) fun v74 Msv74 R75 => ?_)
  obtain ⟨_, ms77, v79, ms80, rfl, rfl, O78, O81⟩ := R75
  refine wj_q _ (q_iasP rfl rfl (Shp.own O78) c82) <| wj_q _ (iz ez83 (q_ldM10 (E := (El.int .u8)) (s := [.one (.int .u8 (y73.1.getD (0 : Int).toNat 0))]) rfl (rd_own O78 .here) (inB_n c82) rfl rfl)) <| wj_q _ (q_mv rfl) <| wj_nil <| wc_seq <| wc_seq <| wc_ops <| wj_q _ (q_mv rfl) <| wj_q _ (q_bin rfl rfl rfl) <| wj_q _ (q_mv rfl) <| wj_and rfl rfl rfl (fun hg1 => qj_g rfl _ (q_mv rfl) (qj_g rfl _ (q_bin rfl rfl rfl) (qj_nil))) (fun hg1 => rfl) rfl <| wj_q _ (q_mv rfl) <| wj_or rfl rfl rfl (fun hg1 => qj_g rfl _ (q_mv rfl) (qj_g rfl _ (q_bin rfl rfl rfl) (qj_g rfl _ (q_mv rfl) (qj_and rfl (fun _ h => by cases h; rfl) rfl rfl (fun hg2 => qj_g rfl _ (q_mv rfl) (qj_g rfl _ (q_bin rfl rfl rfl) (qj_nil))) (fun hg2 => rfl) rfl (qj_nil))))) (fun hg1 => rfl) rfl <| wj_nil <| wc_br h rfl (fun h => ?_) (fun h => ?_)
  ·exact inlr h
  ·refine wc_skip <| wc_seq <| bH h fun z88 ez88 h => bH h fun z89 ez89 h => cH h fun c90 h => bH h fun z91 ez91 h => bH h fun z92 ez92 h => wc_ops <| wj_q _ (q_mv rfl) <| wj_q _ (q_mv rfl) <| wj_q _ (iz ez88 (q_bin rfl rfl rfl)) <| wj_q _ (iz ez89 (q_conv rfl)) <| wj_q _ (q_mv rfl) <| wj_q _ (iz ez91 (q_shl rfl rfl (of_decide_eq_true c90))) <| wj_q _ (iz ez92 (q_bin rfl rfl rfl)) <| wj_q _ (q_mv rfl) <| wj_nil <| wc_seq <| wc_ops <| wj_q _ (q_mv rfl) <| wj_q _ (q_bin rfl rfl rfl) <| wj_nil <| wc_br h rfl (fun h => ?_) (fun h => ?_)
   ·refine wc_seq <| wc_ops <| wj_q _ (q_mv rfl) <| wj_q _ (q_mv rfl) <| wj_nil <| wc_ret ?_
    revert h; refine inr_i fun h => ?_
    subst h
    exact ⟨_, _, (.cons (.tmp rfl) .nil), (.one (.app .here) (.all (.app .here) .nil)), ⟨_, rfl, ⟨v79, ms80, rfl, rfl, O81⟩⟩⟩
   ·refine wc_skip <| bH h fun z97 ez97 h => wc_ops <| wj_q _ (q_mv rfl) <| wj_q _ (iz ez97 (q_bin rfl rfl rfl)) <| wj_q _ (q_mv rfl) <| wj_nil ?_
    rw [qk70] at h
    exact ⟨n71, Nat.lt_succ_self _, z92, z97, y73.2.gbytes, y73.2.gat, y73.2.gfault, v79, ms80, h, O81, ⟨⟨rfl, rfl, rfl, trivial⟩, (.one (.app .here) (.all (.app .here) .nil))⟩⟩
theorem wire_Reader_short_pan {W : World} {x : Int × wire_Reader} {p0 : wire_Reader} {v0 : Value} {M0 : List Chunk} {b : Nat} {T : TypeId} (h : wire_Reader_short p0 = some (.inl x)) (h0 : Sat W (b :: M0.map (·.b)) (ck b T [.one (v0), .one (.int .i64 (p0.gat)), .one (.int .i64 (p0.gfault))] :: (M0 ++ [])) W) (O0 : OwnSl (El.int .u8) v0 M0 p0.gbytes) :
    Calls Try.prog 47 [.pointer (some ⟨b, 0, none⟩)].toArray W (panS W (b :: M0.map (·.b)) [pv x.1] (fun Ms => ∃ (uw : Value) (Mw : List Chunk), Ms = [.one (ck b T [.one (uw), .one (.int .i64 (x.2.gat)), .one (.int .i64 (x.2.gfault))]), .all Mw] ∧ OwnSl (El.int .u8) uw Mw x.2.gbytes)) := by
 unfold wire_Reader_short at h
 refine calls_pan mo ok47 rfl h0 ?_
 refine wc_seq <| wc_ops <| wj_q _ (q_mv rfl) <| wj_nil <| wc_seq <| wc_ops <| wj_q _ (q_mv rfl) <| wj_nil <| wc_seq <| wc_ops <| wj_q _ (q_mv rfl) <| wj_nil <| wc_block <| wc_loopJ (fun n71 t m => ∃ (i62 : Int) (i63 : Int) (l66 : List (Int)) (i68 : Int) (i69 : Int) (v64 : Value) (ms65 : List Chunk), wire_Reader_short_l1  n71 i62 i63 l66 i68 i69 = some (.inl x) ∧ OwnSl (El.int .u8) v64 ms65 l66 ∧ Fit [(0, .pointer (some ⟨b, 0, none⟩)), (3, .int .u64 (i62)), (4, .int .i64 (i63))] (ck b T [.one (v64), .one (.int .i64 (i68)), .one (.int .i64 (i69))] :: (ms65 ++ [])) t m) big ?_ ?_
 ·exact ⟨0, 0, p0.gbytes, p0.gat, p0.gfault, v0, M0, h, O0, ⟨⟨rfl, rfl, rfl, trivial⟩, (.one .here (.all .here .nil))⟩⟩
 ·rintro n71 t m ⟨i62, i63, l66, i68, i69, v64, ms65, h, O67, hF⟩
  refine wc_fit hF ?_
  clear hF
  rcases n71 with _ | n71
  · exact none_i h
  have h : wire_Reader_short_b1  (wire_Reader_short_l1  n71) i62 i63 l66 i68 i69 = some (.inl x) := h
  unfold wire_Reader_short_b1 at h
  obtain ⟨k70, qk70⟩ : ∃ k, k = wire_Reader_short_l1  n71 := ⟨_, rfl⟩
  try rw [← qk70] at h
  refine wc_seq <| wc_block <| wc_seq ?_
  revert h
  intro h
  rcases opp_l h with xey73 | ⟨y73, ey73, h⟩
  ·refine wc_opsP <| wjp_at 1 <| wj_q _ (q_mv rfl) <| wj_nil <| wjp_pan (mS := _ :: ms65) rfl (perm2 .here .here) (fun w hw => wire_Reader_take_pan (p0 := (⟨l66, i68, i69⟩ : wire_Reader)) xey73 (sat_own2 hw (perm2 .here .here)) O67) fun Msv74 R75 => ?_
   obtain ⟨qv, qM, rfl, qO⟩ := R75
   exact ⟨rfl, _, (.one .here (.all .here .nil)), ⟨_, rfl, ⟨qv, qM, rfl, qO⟩⟩⟩
  ·refine cH h fun c82 h => bH h fun z83 ez83 h => wc_ops <| wj_q _ (q_mv rfl) <| wj_e (ef_callS (mS := _ :: ms65) rfl (perm2 .here .here) (fun w hw => wire_Reader_take_spec (p0 := (⟨l66, i68, i69⟩ : wire_Reader)) ey73 (sat_own2 hw (perm2 .here .here)) O67) fun v74 Msv74 R75 => ?_)
   obtain ⟨_, ms77, v79, ms80, rfl, rfl, O78, O81⟩ := R75
   refine wj_q _ (q_iasP rfl rfl (Shp.own O78) c82) <| wj_q _ (iz ez83 (q_ldM10 (E := (El.int .u8)) (s := [.one (.int .u8 (y73.1.getD (0 : Int).toNat 0))]) rfl (rd_own O78 .here) (inB_n c82) rfl rfl)) <| wj_q _ (q_mv rfl) <| wj_nil <| wc_seq <| wc_seq <| wc_ops <| wj_q _ (q_mv rfl) <| wj_q _ (q_bin rfl rfl rfl) <| wj_q _ (q_mv rfl) <| wj_and rfl rfl rfl (fun hg1 => qj_g rfl _ (q_mv rfl) (qj_g rfl _ (q_bin rfl rfl rfl) (qj_nil))) (fun hg1 => rfl) rfl <| wj_q _ (q_mv rfl) <| wj_or rfl rfl rfl (fun hg1 => qj_g rfl _ (q_mv rfl) (qj_g rfl _ (q_bin rfl rfl rfl) (qj_g rfl _ (q_mv rfl) (qj_and rfl (fun _ h => by cases h; rfl) rfl rfl (fun hg2 => qj_g rfl _ (q_mv rfl) (qj_g rfl _ (q_bin rfl rfl rfl) (qj_nil))) (fun hg2 => rfl) rfl (qj_nil))))) (fun hg1 => rfl) rfl <| wj_nil <| wc_br h rfl (fun h => ?_) (fun h => ?_)
   ·refine wc_opsP <| wjp_at 2 <| wj_q _ (q_bd (q := [.one (.int .i64 (90))]) (.one rfl rfl rfl BdR.nil)) <| wj_q _ (q_mi rfl) <| wj_nil ?_
    revert h; refine inl_i fun h => ?_
    subst h
    exact wjp_pnc rfl <| ⟨rfl, _, (.one (.app .here) (.all (.app .here) .nil)), ⟨_, rfl, ⟨v79, ms80, rfl, O81⟩⟩⟩
   ·refine wc_skip <| wc_seq <| bH h fun z88 ez88 h => bH h fun z89 ez89 h => cH h fun c90 h => bH h fun z91 ez91 h => bH h fun z92 ez92 h => wc_ops <| wj_q _ (q_mv rfl) <| wj_q _ (q_mv rfl) <| wj_q _ (iz ez88 (q_bin rfl rfl rfl)) <| wj_q _ (iz ez89 (q_conv rfl)) <| wj_q _ (q_mv rfl) <| wj_q _ (iz ez91 (q_shl rfl rfl (of_decide_eq_true c90))) <| wj_q _ (iz ez92 (q_bin rfl rfl rfl)) <| wj_q _ (q_mv rfl) <| wj_nil <| wc_seq <| wc_ops <| wj_q _ (q_mv rfl) <| wj_q _ (q_bin rfl rfl rfl) <| wj_nil <| wc_br h rfl (fun h => ?_) (fun h => ?_)
    ·exact wc_seq <| wc_ops <| wj_q _ (q_mv rfl) <| wj_q _ (q_mv rfl) <| wj_nil <| wc_ret <| inrl h
    ·refine wc_skip <| bH h fun z97 ez97 h => wc_ops <| wj_q _ (q_mv rfl) <| wj_q _ (iz ez97 (q_bin rfl rfl rfl)) <| wj_q _ (q_mv rfl) <| wj_nil ?_
     rw [qk70] at h
     exact ⟨n71, Nat.lt_succ_self _, z92, z97, y73.2.gbytes, y73.2.gat, y73.2.gfault, v79, ms80, h, O81, ⟨⟨rfl, rfl, rfl, trivial⟩, (.one (.app .here) (.all (.app .here) .nil))⟩⟩
/- (*farebox/wire.Reader).count -/
def wire_Reader_count (p0 : wire_Reader) (p1 : Int) : Option ((Int × wire_Reader) ⊕ (Int × wire_Reader)) :=
 opp (wire_Reader_short p0) fun y3 =>
 br (((decide (p1 < 0)) || (decide (y3.1 > IntKind.wrap .u64 p1)))) (
 some (.inl (1, y3.2))
 ) (
 bnd (IntKind.wrap .i64 y3.1) fun z13 =>
 some (.inr (z13, y3.2))
 )
theorem wire_Reader_count_spec {W : World} {r : Int × wire_Reader} {p0 : wire_Reader} {p1 : Int} {v0 : Value} {M0 : List Chunk} {b : Nat} {T : TypeId} (h : wire_Reader_count p0 p1 = some (.inr r)) (h0 : Sat W (b :: M0.map (·.b)) (ck b T [.one (v0), .one (.int .i64 (p0.gat)), .one (.int .i64 (p0.gfault))] :: (M0 ++ [])) W) (O0 : OwnSl (El.int .u8) v0 M0 p0.gbytes) :
    Calls Try.prog 41 [.pointer (some ⟨b, 0, none⟩), .int .i64 (p1)].toArray W (retS W (b :: M0.map (·.b)) (fun v Ms => ∃ (uw : Value) (Mw : List Chunk), v = .int .i64 (r.1) ∧ Ms = [.one (ck b T [.one (uw), .one (.int .i64 (r.2.gat)), .one (.int .i64 (r.2.gfault))]), .all Mw] ∧ OwnSl (El.int .u8) uw Mw r.2.gbytes)) := by
 unfold wire_Reader_count at h
 refine calls_memT mo ok41 rfl h0 ?_
 refine wc_seq <| wc_ops <| wj_q _ (q_mv rfl) <| wj_nil <| wc_seq ?_
 revert h
 refine opp_r fun y3 ey3 => ?_
 intro h
 refine wc_ops <| wj_q _ (q_mv rfl) <| wj_e (ef_callS (mS := _ :: M0) rfl (perm2 .here .here) (fun w hw => wire_Reader_short_spec  ey3 (sat_own2 hw (perm2 .here .here)) O0) fun v4 Msv4 R5 => ?_)
 obtain ⟨v6, ms7, rfl, rfl, O8⟩ := R5
 refine wj_q _ (q_mv rfl) <| wj_nil <| wc_seq <| wc_seq <| wc_ops <| wj_q _ (q_mv rfl) <| wj_q _ (q_bin rfl rfl rfl) <| wj_q _ (q_mv rfl) <| wj_or rfl rfl rfl (fun hg1 => qj_g rfl _ (q_mv rfl) (qj_g rfl _ (q_mv rfl) (qj_g rfl _ (iz rfl (q_conv rfl)) (qj_g rfl _ (q_bin rfl rfl rfl) (qj_nil))))) (fun hg1 => rfl) rfl <| wj_nil <| wc_br h rfl (fun h => ?_) (fun h => ?_)
 ·exact inlr h
 ·refine wc_skip <| wc_seq <| bH h fun z13 ez13 h => wc_ops <| wj_q _ (q_mv rfl) <| wj_q _ (iz ez13 (q_conv rfl)) <| wj_q _ (q_mv rfl) <| wj_nil <| wc_ret ?_
  revert h; refine inr_i fun h => ?_
  subst h
  exact ⟨_, _, (.cons (.tmp rfl) .nil), (.one .here (.all .here .nil)), ⟨_, rfl, ⟨v6, ms7, rfl, rfl, O8⟩⟩⟩
theorem wire_Reader_count_pan {W : World} {x : Int × wire_Reader} {p0 : wire_Reader} {p1 : Int} {v0 : Value} {M0 : List Chunk} {b : Nat} {T : TypeId} (h : wire_Reader_count p0 p1 = some (.inl x)) (h0 : Sat W (b :: M0.map (·.b)) (ck b T [.one (v0), .one (.int .i64 (p0.gat)), .one (.int .i64 (p0.gfault))] :: (M0 ++ [])) W) (O0 : OwnSl (El.int .u8) v0 M0 p0.gbytes) :
    Calls Try.prog 41 [.pointer (some ⟨b, 0, none⟩), .int .i64 (p1)].toArray W (panS W (b :: M0.map (·.b)) [pv x.1] (fun Ms => ∃ (uw : Value) (Mw : List Chunk), Ms = [.one (ck b T [.one (uw), .one (.int .i64 (x.2.gat)), .one (.int .i64 (x.2.gfault))]), .all Mw] ∧ OwnSl (El.int .u8) uw Mw x.2.gbytes)) := by
 unfold wire_Reader_count at h
 refine calls_pan mo ok41 rfl h0 ?_
 refine wc_seq <| wc_ops <| wj_q _ (q_mv rfl) <| wj_nil <| wc_seq ?_
 revert h
 intro h
 rcases opp_l h with xey3 | ⟨y3, ey3, h⟩
 ·refine wc_opsP <| wjp_at 1 <| wj_q _ (q_mv rfl) <| wj_nil <| wjp_pan (mS := _ :: M0) rfl (perm2 .here .here) (fun w hw => wire_Reader_short_pan  xey3 (sat_own2 hw (perm2 .here .here)) O0) fun Msv4 R5 => ?_
  obtain ⟨qv, qM, rfl, qO⟩ := R5
  exact ⟨rfl, _, (.one .here (.all .here .nil)), ⟨_, rfl, ⟨qv, qM, rfl, qO⟩⟩⟩
 ·refine wc_ops <| wj_q _ (q_mv rfl) <| wj_e (ef_callS (mS := _ :: M0) rfl (perm2 .here .here) (fun w hw => wire_Reader_short_spec  ey3 (sat_own2 hw (perm2 .here .here)) O0) fun v4 Msv4 R5 => ?_)
  obtain ⟨v6, ms7, rfl, rfl, O8⟩ := R5
  refine wj_q _ (q_mv rfl) <| wj_nil <| wc_seq <| wc_seq <| wc_ops <| wj_q _ (q_mv rfl) <| wj_q _ (q_bin rfl rfl rfl) <| wj_q _ (q_mv rfl) <| wj_or rfl rfl rfl (fun hg1 => qj_g rfl _ (q_mv rfl) (qj_g rfl _ (q_mv rfl) (qj_g rfl _ (iz rfl (q_conv rfl)) (qj_g rfl _ (q_bin rfl rfl rfl) (qj_nil))))) (fun hg1 => rfl) rfl <| wj_nil <| wc_br h rfl (fun h => ?_) (fun h => ?_)
  ·refine wc_opsP <| wjp_at 2 <| wj_q _ (q_bd (q := [.one (.int .i64 (1))]) (.one rfl rfl rfl BdR.nil)) <| wj_q _ (q_mi rfl) <| wj_nil ?_
   revert h; refine inl_i fun h => ?_
   subst h
   exact wjp_pnc rfl <| ⟨rfl, _, (.one .here (.all .here .nil)), ⟨_, rfl, ⟨v6, ms7, rfl, O8⟩⟩⟩
  ·exact wc_skip <| wc_seq <| bH h fun z13 ez13 h => wc_ops <| wj_q _ (q_mv rfl) <| wj_q _ (iz ez13 (q_conv rfl)) <| wj_q _ (q_mv rfl) <| wj_nil <| wc_ret <| inrl h
/- (*farebox/wire.Reader).Fixed$1 -/
def wire_Reader_Fixed_1 (p0 : wire_Reader) (p1 : Int) : Option ((Int × wire_Reader) ⊕ ((List Int) × wire_Reader)) :=
 opp (wire_Reader_take p0 p1) fun y3 =>
 some (.inr (y3.1, y3.2))
theorem wire_Reader_Fixed_1_spec {W : World} {r : (List Int) × wire_Reader} {p0 : wire_Reader} {p1 : Int} {cb0 : Nat} {v0 : Value} {M0 : List Chunk} {cb1 : Nat} {b : Nat} {T : TypeId} (h : wire_Reader_Fixed_1 p0 p1 = some (.inr r)) (h0 : Sat W (b :: M0.map (·.b)) (ck b T [.one (v0), .one (.int .i64 (p0.gat)), .one (.int .i64 (p0.gfault))] :: (M0 ++ [])) W) (O0 : OwnSl (El.int .u8) v0 M0 p0.gbytes) (A0 : CapV W cb0 (.pointer (some ⟨b, 0, none⟩))) (N0 : cb0 ∉ (b :: M0.map (·.b))) (A1 : CapV W cb1 (.int .i64 (p1))) (N1 : cb1 ∉ (b :: M0.map (·.b))) :
    Calls Try.prog 44 [.pointer (some ⟨cb0, 0, none⟩), .pointer (some ⟨cb1, 0, none⟩)].toArray W (retS W (b :: M0.map (·.b)) (fun v Ms => ∃ (u0 : Value) (M0 : List Chunk) (uw : Value) (Mw : List Chunk), v = u0 ∧ Ms = [.all M0, .one (ck b T [.one (uw), .one (.int .i64 (r.2.gat)), .one (.int .i64 (r.2.gfault))]), .all Mw] ∧ OwnSl (El.int .u8) u0 M0 r.1 ∧ OwnSl (El.int .u8) uw Mw r.2.gbytes)) := by
 unfold wire_Reader_Fixed_1 at h
 refine calls_memT mo ok44 rfl h0 ?_
 refine wc_seq <| wc_ops <| wj_q _ (q_mv rfl) <| wj_nil <| wc_seq ?_
 revert h
 refine opp_r fun y3 ey3 => ?_
 intro h
 refine wc_ops <| wj_q _ (q_capv rfl (cap_arg A0 N0)) <| wj_q _ (q_capv rfl (cap_arg A1 N1)) <| wj_e (ef_callS (mS := _ :: M0) rfl (perm2 .here .here) (fun w hw => wire_Reader_take_spec  ey3 (sat_own2 hw (perm2 .here .here)) O0) fun v4 Msv4 R5 => ?_)
 obtain ⟨_, ms7, v9, ms10, rfl, rfl, O8, O11⟩ := R5
 refine wj_q _ (q_mv rfl) <| wj_nil <| wc_ret ?_
 revert h; refine inr_i fun h => ?_
 subst h
 exact ⟨_, _, (.cons (.tmp rfl) .nil), (.all .here (.one .here (.all .here .nil))), ⟨_, rfl, ⟨v4, ms7, v9, ms10, rfl, rfl, O8, O11⟩⟩⟩
theorem wire_Reader_Fixed_1_pan {W : World} {x : Int × wire_Reader} {p0 : wire_Reader} {p1 : Int} {cb0 : Nat} {v0 : Value} {M0 : List Chunk} {cb1 : Nat} {b : Nat} {T : TypeId} (h : wire_Reader_Fixed_1 p0 p1 = some (.inl x)) (h0 : Sat W (b :: M0.map (·.b)) (ck b T [.one (v0), .one (.int .i64 (p0.gat)), .one (.int .i64 (p0.gfault))] :: (M0 ++ [])) W) (O0 : OwnSl (El.int .u8) v0 M0 p0.gbytes) (A0 : CapV W cb0 (.pointer (some ⟨b, 0, none⟩))) (N0 : cb0 ∉ (b :: M0.map (·.b))) (A1 : CapV W cb1 (.int .i64 (p1))) (N1 : cb1 ∉ (b :: M0.map (·.b))) :
    Calls Try.prog 44 [.pointer (some ⟨cb0, 0, none⟩), .pointer (some ⟨cb1, 0, none⟩)].toArray W (panS W (b :: M0.map (·.b)) [pv x.1] (fun Ms => ∃ (uw : Value) (Mw : List Chunk), Ms = [.one (ck b T [.one (uw), .one (.int .i64 (x.2.gat)), .one (.int .i64 (x.2.gfault))]), .all Mw] ∧ OwnSl (El.int .u8) uw Mw x.2.gbytes)) := by
 unfold wire_Reader_Fixed_1 at h
 refine calls_pan mo ok44 rfl h0 ?_
 refine wc_seq <| wc_ops <| wj_q _ (q_mv rfl) <| wj_nil <| wc_seq ?_
 revert h
 intro h
 rcases opp_l h with xey3 | ⟨y3, ey3, h⟩
 ·refine wc_opsP <| wjp_at 2 <| wj_q _ (q_capv rfl (cap_arg A0 N0)) <| wj_q _ (q_capv rfl (cap_arg A1 N1)) <| wj_nil <| wjp_pan (mS := _ :: M0) rfl (perm2 .here .here) (fun w hw => wire_Reader_take_pan  xey3 (sat_own2 hw (perm2 .here .here)) O0) fun Msv4 R5 => ?_
  obtain ⟨qv, qM, rfl, qO⟩ := R5
  exact ⟨rfl, _, (.one .here (.all .here .nil)), ⟨_, rfl, ⟨qv, qM, rfl, qO⟩⟩⟩
 ·refine wc_ops <| wj_q _ (q_capv rfl (cap_arg A0 N0)) <| wj_q _ (q_capv rfl (cap_arg A1 N1)) <| wj_e (ef_callS (mS := _ :: M0) rfl (perm2 .here .here) (fun w hw => wire_Reader_take_spec  ey3 (sat_own2 hw (perm2 .here .here)) O0) fun v4 Msv4 R5 => ?_)
  obtain ⟨_, ms7, v9, ms10, rfl, rfl, O8, O11⟩ := R5
  exact wj_q _ (q_mv rfl) <| wj_nil <| wc_ret <| inrl h
end Go.Proofs.Ytiflckckekjbnaa
/- Mirrors. -/
namespace Go.Proofs.Ytiflckckekjbnaa
open Go Go.Sx Go.RowKit
set_option linter.all false
set_option maxHeartbeats 400000
set_option maxRecDepth 100000
/- farebox/wire.GetList[farebox/api.Link]$1 -/
def wire_GetList_api_Link_1 (p0 : wire_Reader) (p1 : Int) : Option ((Int × wire_Reader) ⊕ (Int × wire_Reader)) :=
 opp (wire_Reader_count p0 p1) fun y3 =>
 opt (wire_Reader_Left y3.2) fun y10 =>
 br ((decide (y3.1 > y10.1))) (
 some (.inl (90, y10.2))
 ) (
 some (.inr (y3.1, y10.2))
 )
theorem wire_GetList_api_Link_1_spec {W : World} {r : Int × wire_Reader} {p0 : wire_Reader} {p1 : Int} {cb0 : Nat} {v0 : Value} {M0 : List Chunk} {cb1 : Nat} {b : Nat} {T : TypeId} (h : wire_GetList_api_Link_1 p0 p1 = some (.inr r)) (h0 : Sat W (b :: M0.map (·.b)) (ck b T [.one (v0), .one (.int .i64 (p0.gat)), .one (.int .i64 (p0.gfault))] :: (M0 ++ [])) W) (O0 : OwnSl (El.int .u8) v0 M0 p0.gbytes) (A0 : CapV W cb0 (.pointer (some ⟨b, 0, none⟩))) (N0 : cb0 ∉ (b :: M0.map (·.b))) (A1 : CapV W cb1 (.int .i64 (p1))) (N1 : cb1 ∉ (b :: M0.map (·.b))) :
    Calls Try.prog 40 [.pointer (some ⟨cb0, 0, none⟩), .pointer (some ⟨cb1, 0, none⟩)].toArray W (retS W (b :: M0.map (·.b)) (fun v Ms => ∃ (uw : Value) (Mw : List Chunk), v = .int .i64 (r.1) ∧ Ms = [.one (ck b T [.one (uw), .one (.int .i64 (r.2.gat)), .one (.int .i64 (r.2.gfault))]), .all Mw] ∧ OwnSl (El.int .u8) uw Mw r.2.gbytes)) := by
 unfold wire_GetList_api_Link_1 at h
 refine calls_memT mo ok40 rfl h0 ?_
 refine wc_seq <| wc_ops <| wj_q _ (q_mv rfl) <| wj_nil <| wc_seq ?_
 revert h
 refine opp_r fun y3 ey3 => ?_
 intro h
 refine wc_ops <| wj_q _ (q_capv rfl (cap_arg A0 N0)) <| wj_q _ (q_capv rfl (cap_arg A1 N1)) <| wj_e (ef_callS (mS := _ :: M0) rfl (perm2 .here .here) (fun w hw => wire_Reader_count_spec  ey3 (sat_own2 hw (perm2 .here .here)) O0) fun v4 Msv4 R5 => ?_)
 obtain ⟨v6, ms7, rfl, rfl, O8⟩ := R5
 refine wj_q _ (q_mv rfl) <| wj_nil <| wc_seq <| wc_seq <| oH h fun y10 ey10 h => wc_ops <| wj_q _ (q_mv rfl) <| wj_q _ (q_capv rfl (cap_arg A0 N0)) <| wj_e (ef_callS (mS := _ :: ms7) rfl (perm2 .here .here) (fun w hw => wire_Reader_Left_spec  ey10 (sat_own2 hw (perm2 .here .here)) O8) fun v11 Msv11 R12 => ?_)
 obtain ⟨v13, ms14, rfl, rfl, O15⟩ := R12
 refine wj_q _ (q_bin rfl rfl rfl) <| wj_nil <| wc_br h rfl (fun h => ?_) (fun h => ?_)
 ·exact inlr h
 ·refine wc_skip <| wc_seq <| wc_ops <| wj_q _ (q_mv rfl) <| wj_q _ (q_mv rfl) <| wj_nil <| wc_ret ?_
  revert h; refine inr_i fun h => ?_
  subst h
  exact ⟨_, _, (.cons (.tmp rfl) .nil), (.one .here (.all .here .nil)), ⟨_, rfl, ⟨v13, ms14, rfl, rfl, O15⟩⟩⟩
theorem wire_GetList_api_Link_1_pan {W : World} {x : Int × wire_Reader} {p0 : wire_Reader} {p1 : Int} {cb0 : Nat} {v0 : Value} {M0 : List Chunk} {cb1 : Nat} {b : Nat} {T : TypeId} (h : wire_GetList_api_Link_1 p0 p1 = some (.inl x)) (h0 : Sat W (b :: M0.map (·.b)) (ck b T [.one (v0), .one (.int .i64 (p0.gat)), .one (.int .i64 (p0.gfault))] :: (M0 ++ [])) W) (O0 : OwnSl (El.int .u8) v0 M0 p0.gbytes) (A0 : CapV W cb0 (.pointer (some ⟨b, 0, none⟩))) (N0 : cb0 ∉ (b :: M0.map (·.b))) (A1 : CapV W cb1 (.int .i64 (p1))) (N1 : cb1 ∉ (b :: M0.map (·.b))) :
    Calls Try.prog 40 [.pointer (some ⟨cb0, 0, none⟩), .pointer (some ⟨cb1, 0, none⟩)].toArray W (panS W (b :: M0.map (·.b)) [pv x.1] (fun Ms => ∃ (uw : Value) (Mw : List Chunk), Ms = [.one (ck b T [.one (uw), .one (.int .i64 (x.2.gat)), .one (.int .i64 (x.2.gfault))]), .all Mw] ∧ OwnSl (El.int .u8) uw Mw x.2.gbytes)) := by
 unfold wire_GetList_api_Link_1 at h
 refine calls_pan mo ok40 rfl h0 ?_
 refine wc_seq <| wc_ops <| wj_q _ (q_mv rfl) <| wj_nil <| wc_seq ?_
 revert h
 intro h
 rcases opp_l h with xey3 | ⟨y3, ey3, h⟩
 ·refine wc_opsP <| wjp_at 2 <| wj_q _ (q_capv rfl (cap_arg A0 N0)) <| wj_q _ (q_capv rfl (cap_arg A1 N1)) <| wj_nil <| wjp_pan (mS := _ :: M0) rfl (perm2 .here .here) (fun w hw => wire_Reader_count_pan  xey3 (sat_own2 hw (perm2 .here .here)) O0) fun Msv4 R5 => ?_
  obtain ⟨qv, qM, rfl, qO⟩ := R5
  exact ⟨rfl, _, (.one .here (.all .here .nil)), ⟨_, rfl, ⟨qv, qM, rfl, qO⟩⟩⟩
 ·refine wc_ops <| wj_q _ (q_capv rfl (cap_arg A0 N0)) <| wj_q _ (q_capv rfl (cap_arg A1 N1)) <| wj_e (ef_callS (mS := _ :: M0) rfl (perm2 .here .here) (fun w hw => wire_Reader_count_spec  ey3 (sat_own2 hw (perm2 .here .here)) O0) fun v4 Msv4 R5 => ?_)
  obtain ⟨v6, ms7, rfl, rfl, O8⟩ := R5
  refine wj_q _ (q_mv rfl) <| wj_nil <| wc_seq <| wc_seq <| oH h fun y10 ey10 h => wc_ops <| wj_q _ (q_mv rfl) <| wj_q _ (q_capv rfl (cap_arg A0 N0)) <| wj_e (ef_callS (mS := _ :: ms7) rfl (perm2 .here .here) (fun w hw => wire_Reader_Left_spec  ey10 (sat_own2 hw (perm2 .here .here)) O8) fun v11 Msv11 R12 => ?_)
  obtain ⟨v13, ms14, rfl, rfl, O15⟩ := R12
  refine wj_q _ (q_bin rfl rfl rfl) <| wj_nil <| wc_br h rfl (fun h => ?_) (fun h => ?_)
  ·refine wc_opsP <| wjp_at 2 <| wj_q _ (q_bd (q := [.one (.int .i64 (90))]) (.one rfl rfl rfl BdR.nil)) <| wj_q _ (q_mi rfl) <| wj_nil ?_
   revert h; refine inl_i fun h => ?_
   subst h
   exact wjp_pnc rfl <| ⟨rfl, _, (.one .here (.all .here .nil)), ⟨_, rfl, ⟨v13, ms14, rfl, O15⟩⟩⟩
  ·exact wc_skip <| wc_seq <| wc_ops <| wj_q _ (q_mv rfl) <| wj_q _ (q_mv rfl) <| wj_nil <| wc_ret <| inrl h
/- farebox/wire.caught[[]byte] -/
/-- A read that may give up: what was caught is kept as the fault, and nothing was read. -/
def opu {ε α β : Type} (o : Option (ε ⊕ α)) (f : ε → Option β) (g : α → Option β) : Option β := match o with
  | none => none
  | some (.inl x) => f x
  | some (.inr y) => g y
def wire_caught {α : Type} (z : α) (p0 : wire_Reader) (rd : Option ((Int × wire_Reader) ⊕ (α × wire_Reader))) : Option (α × wire_Reader) :=
 br (p0.gfault != 0) (some (z, p0)) (opu rd (fun x => some (z, (⟨x.2.gbytes, p0.gat, x.1⟩ : wire_Reader))) (fun y => some y))
theorem caught43_spec {W : World} {p0 : wire_Reader} {r : (List Int) × wire_Reader} {rd : Option ((Int × wire_Reader) ⊕ ((List Int) × wire_Reader))} {v0 : Value} {M0 : List Chunk} {b : Nat} {T : TypeId} {g : FuncId} {caps : List Value} (h : wire_caught [] p0 rd = some r)
    (h0 : Sat W (b :: M0.map (·.b)) (ck b T [.one (v0), .one (.int .i64 (p0.gat)), .one (.int .i64 (p0.gfault))] :: (M0 ++ [])) W) (O0 : OwnSl (El.int .u8) v0 M0 p0.gbytes) (hcv : cvOk Try.prog g = true)
    (h1 : ∀ w, KeptV W w (b :: M0.map (·.b)) → Sat w (b :: M0.map (·.b)) (ck b T [.one (v0), .one (.int .i64 (p0.gat)), .one (.int .i64 (p0.gfault))] :: (M0 ++ [])) w → ∀ y, rd = some (.inr y) →
      Calls Try.prog g caps.toArray w (retS w (b :: M0.map (·.b)) (fun v Ms => ∃ (u0 : Value) (M1 : List Chunk) (uw : Value) (Mw : List Chunk), v = u0 ∧ Ms = [.all M1, .one (ck b T [.one (uw), .one (.int .i64 (y.2.gat)), .one (.int .i64 (y.2.gfault))]), .all Mw] ∧ OwnSl (El.int .u8) u0 M1 y.1 ∧ OwnSl (El.int .u8) uw Mw y.2.gbytes)))
    (h2 : ∀ w, KeptV W w (b :: M0.map (·.b)) → Sat w (b :: M0.map (·.b)) (ck b T [.one (v0), .one (.int .i64 (p0.gat)), .one (.int .i64 (p0.gfault))] :: (M0 ++ [])) w → ∀ x, rd = some (.inl x) →
      Calls Try.prog g caps.toArray w (panS w (b :: M0.map (·.b)) [pv x.1] (fun Ms => ∃ (uw : Value) (Mw : List Chunk), Ms = [.one (ck b T [.one (uw), .one (.int .i64 (x.2.gat)), .one (.int .i64 (x.2.gfault))]), .all Mw] ∧ OwnSl (El.int .u8) uw Mw x.2.gbytes))) :
    Calls Try.prog 43 [.pointer (some ⟨b, 0, none⟩), .func (.func g) #[] caps.toArray].toArray W (retS W (b :: M0.map (·.b)) (fun v Ms => ∃ (u0 : Value) (M1 : List Chunk) (uw : Value) (Mw : List Chunk), v = u0 ∧ Ms = [.all M1, .one (ck b T [.one (uw), .one (.int .i64 (r.2.gat)), .one (.int .i64 (r.2.gfault))]), .all Mw] ∧ OwnSl (El.int .u8) u0 M1 r.1 ∧ OwnSl (El.int .u8) uw Mw r.2.gbytes)) := by
  refine caught43_gen h0 hcv (fun hft w hw => ?_) (fun hft => ?_)
  · have e : (p0.gfault != 0) = true := by simpa using hft
    unfold wire_caught br at h
    rw [e] at h
    injection h with h
    subst h
    exact ⟨_, _, rfl, ⟨[.all [], .one (ck b T [.one (v0), .one (.int .i64 (p0.gat)), .one (.int .i64 (p0.gfault))]), .all M0], rfl, .slice none 0 0, [], v0, M0, rfl, rfl, own_nil, O0⟩, hw⟩
  · have e : (p0.gfault != 0) = false := by simpa using hft
    unfold wire_caught br at h
    rw [e] at h
    match rd, h with
    | none, h => cases h
    | some (.inl x), h =>
      injection h with h
      subst h
      refine .inr ⟨x.1, fun uw Mw => OwnSl (El.int .u8) uw Mw x.2.gbytes, fun w hk hw => (h2 w hk hw x rfl).mono ?_, ?_⟩
      · rintro e w' ⟨Ms, e1, ⟨uw, Mw, e2, hO⟩, hs⟩
        exact ⟨Ms, e1, ⟨uw, Mw, _, _, e2, hO⟩, hs⟩
      · intro uw Mw w hO hw
        exact ⟨_, _, rfl, ⟨[.all [], .one (ck b T [.one (uw), .one (.int .i64 (p0.gat)), .one (.int .i64 (x.1))]), .all Mw], rfl, .slice none 0 0, [], uw, Mw, rfl, rfl, own_nil, hO⟩, hw⟩
    | some (.inr y), h =>
      injection h with h
      subst h
      exact .inl ⟨_, fun w hk hw => h1 w hk hw y rfl, fun v Ms w hR hw => ⟨v, _, rfl, ⟨Ms, rfl, hR⟩, hw⟩⟩

/- farebox/wire.caught[int] -/
theorem caught39_spec {W : World} {p0 : wire_Reader} {r : Int × wire_Reader} {rd : Option ((Int × wire_Reader) ⊕ (Int × wire_Reader))} {v0 : Value} {M0 : List Chunk} {b : Nat} {T : TypeId} {g : FuncId} {caps : List Value} (h : wire_caught 0 p0 rd = some r)
    (h0 : Sat W (b :: M0.map (·.b)) (ck b T [.one (v0), .one (.int .i64 (p0.gat)), .one (.int .i64 (p0.gfault))] :: (M0 ++ [])) W) (O0 : OwnSl (El.int .u8) v0 M0 p0.gbytes) (hcv : cvOk Try.prog g = true)
    (h1 : ∀ w, KeptV W w (b :: M0.map (·.b)) → Sat w (b :: M0.map (·.b)) (ck b T [.one (v0), .one (.int .i64 (p0.gat)), .one (.int .i64 (p0.gfault))] :: (M0 ++ [])) w → ∀ y, rd = some (.inr y) →
      Calls Try.prog g caps.toArray w (retS w (b :: M0.map (·.b)) (fun v Ms => ∃ (uw : Value) (Mw : List Chunk), v = .int .i64 (y.1) ∧ Ms = [.one (ck b T [.one (uw), .one (.int .i64 (y.2.gat)), .one (.int .i64 (y.2.gfault))]), .all Mw] ∧ OwnSl (El.int .u8) uw Mw y.2.gbytes)))
    (h2 : ∀ w, KeptV W w (b :: M0.map (·.b)) → Sat w (b :: M0.map (·.b)) (ck b T [.one (v0), .one (.int .i64 (p0.gat)), .one (.int .i64 (p0.gfault))] :: (M0 ++ [])) w → ∀ x, rd = some (.inl x) →
      Calls Try.prog g caps.toArray w (panS w (b :: M0.map (·.b)) [pv x.1] (fun Ms => ∃ (uw : Value) (Mw : List Chunk), Ms = [.one (ck b T [.one (uw), .one (.int .i64 (x.2.gat)), .one (.int .i64 (x.2.gfault))]), .all Mw] ∧ OwnSl (El.int .u8) uw Mw x.2.gbytes))) :
    Calls Try.prog 39 [.pointer (some ⟨b, 0, none⟩), .func (.func g) #[] caps.toArray].toArray W (retS W (b :: M0.map (·.b)) (fun v Ms => ∃ (uw : Value) (Mw : List Chunk), v = .int .i64 (r.1) ∧ Ms = [.one (ck b T [.one (uw), .one (.int .i64 (r.2.gat)), .one (.int .i64 (r.2.gfault))]), .all Mw] ∧ OwnSl (El.int .u8) uw Mw r.2.gbytes)) := by
  refine caught39_gen h0 hcv (fun hft w hw => ?_) (fun hft => ?_)
  · have e : (p0.gfault != 0) = true := by simpa using hft
    unfold wire_caught br at h
    rw [e] at h
    injection h with h
    subst h
    exact ⟨_, _, rfl, ⟨[.one (ck b T [.one (v0), .one (.int .i64 (p0.gat)), .one (.int .i64 (p0.gfault))]), .all M0], rfl, v0, M0, rfl, rfl, O0⟩, hw⟩
  · have e : (p0.gfault != 0) = false := by simpa using hft
    unfold wire_caught br at h
    rw [e] at h
    match rd, h with
    | none, h => cases h
    | some (.inl x), h =>
      injection h with h
      subst h
      refine .inr ⟨x.1, fun uw Mw => OwnSl (El.int .u8) uw Mw x.2.gbytes, fun w hk hw => (h2 w hk hw x rfl).mono ?_, ?_⟩
      · rintro e w' ⟨Ms, e1, ⟨uw, Mw, e2, hO⟩, hs⟩
        exact ⟨Ms, e1, ⟨uw, Mw, _, _, e2, hO⟩, hs⟩
      · intro uw Mw w hO hw
        exact ⟨_, _, rfl, ⟨[.one (ck b T [.one (uw), .one (.int .i64 (p0.gat)), .one (.int .i64 (x.1))]), .all Mw], rfl, uw, Mw, rfl, rfl, hO⟩, hw⟩
    | some (.inr y), h =>
      injection h with h
      subst h
      exact .inl ⟨_, fun w hk hw => h1 w hk hw y rfl, fun v Ms w hR hw => ⟨v, _, rfl, ⟨Ms, rfl, hR⟩, hw⟩⟩

/- (*farebox/wire.Reader).Fixed -/
def wire_Reader_Fixed (p0 : wire_Reader) (p1 : Int) : Option ((List Int) × wire_Reader) :=
 opt (wire_caught [] p0 (wire_Reader_Fixed_1 p0 p1)) fun y5 =>
 some (y5.1, y5.2)
theorem wire_Reader_Fixed_spec {W : World} {r : (List Int) × wire_Reader} {p0 : wire_Reader} {p1 : Int} {v0 : Value} {M0 : List Chunk} {b : Nat} {T : TypeId} (h : wire_Reader_Fixed p0 p1 = some r) (h0 : Sat W (b :: M0.map (·.b)) (ck b T [.one (v0), .one (.int .i64 (p0.gat)), .one (.int .i64 (p0.gfault))] :: (M0 ++ [])) W) (O0 : OwnSl (El.int .u8) v0 M0 p0.gbytes) :
    Calls Try.prog 29 [.pointer (some ⟨b, 0, none⟩), .int .i64 (p1)].toArray W (retS W (b :: M0.map (·.b)) (fun v Ms => ∃ (u0 : Value) (M0 : List Chunk) (uw : Value) (Mw : List Chunk), v = u0 ∧ Ms = [.all M0, .one (ck b T [.one (uw), .one (.int .i64 (r.2.gat)), .one (.int .i64 (r.2.gfault))]), .all Mw] ∧ OwnSl (El.int .u8) u0 M0 r.1 ∧ OwnSl (El.int .u8) uw Mw r.2.gbytes)) := by
 unfold wire_Reader_Fixed at h
 refine calls_memT mo ok29 rfl h0 ?_
 refine wc_seq <| wc_ops <| wj_e (ef_bx1 rfl rfl fun b2 hb2 => wj_e (ef_bx1 rfl rfl fun b3 hb3 => wj_q _ (q_mv rfl) <| wj_nil <| wc_seq <| oH h fun y5 ey5 h => wc_ops <| wj_q _ (q_ld1 rfl (.there .here) rfl) <| wj_q _ (q_mf rfl) <| wj_e (ef_callS (mS := _ :: M0) rfl (perm2 (.there (.there .here)) (.there (.there .here))) (fun w hw => caught43_spec ey5 (sat_own2 hw (perm2 (.there (.there .here)) (.there (.there .here)))) O0 rfl (fun w2 hk h0 y ey => wire_Reader_Fixed_1_spec ey h0 O0 (hk _ _ (nin hw (perm2 (.there (.there .here)) (.there (.there .here))) (.there .here)) (cap_box (.there .here) w hw)) (nin hw (perm2 (.there (.there .here)) (.there (.there .here))) (.there .here)) (hk _ _ (nin hw (perm2 (.there (.there .here)) (.there (.there .here))) .here) (cap_box .here w hw)) (nin hw (perm2 (.there (.there .here)) (.there (.there .here))) .here)) (fun w2 hk h0 x ex => wire_Reader_Fixed_1_pan ex h0 O0 (hk _ _ (nin hw (perm2 (.there (.there .here)) (.there (.there .here))) (.there .here)) (cap_box (.there .here) w hw)) (nin hw (perm2 (.there (.there .here)) (.there (.there .here))) (.there .here)) (hk _ _ (nin hw (perm2 (.there (.there .here)) (.there (.there .here))) .here) (cap_box .here w hw)) (nin hw (perm2 (.there (.there .here)) (.there (.there .here))) .here))) fun v6 Msv6 R7 => ?_)))
 obtain ⟨_, ms11, v8, ms9, rfl, rfl, O12, O10⟩ := R7
 refine wj_q _ (q_mv rfl) <| wj_nil <| wc_ret ?_
 revert h; refine ret_i fun h => ?_
 subst h
 exact ⟨_, _, (.cons (.tmp rfl) .nil), (.all .here (.one .here (.all .here .nil))), ⟨_, rfl, ⟨v6, ms11, v8, ms9, rfl, rfl, O12, O10⟩⟩⟩
/- farebox/rotate.Decode$1 -/
def rotate_Decode_1 (p0 : wire_Reader) : Option (api_Link × wire_Reader) :=
 opt (wire_Reader_Fixed p0 32) fun y6 =>
 bnd (wr (List.replicate 32 0) 0 (y6.1.take 32)) fun l15 =>
 opt (wire_Reader_Fixed y6.2 64) fun y17 =>
 bnd (wr (List.replicate 64 0) 0 (y17.1.take 64)) fun l26 =>
 some ((⟨0, l15, l26⟩ : api_Link), y17.2)
theorem rotate_Decode_1_spec {W : World} {r : api_Link × wire_Reader} {p0 : wire_Reader} {v0 : Value} {M0 : List Chunk} {b : Nat} {T : TypeId} (h : rotate_Decode_1 p0 = some r) (h0 : Sat W (b :: M0.map (·.b)) (ck b T [.one (v0), .one (.int .i64 (p0.gat)), .one (.int .i64 (p0.gfault))] :: (M0 ++ [])) W) (O0 : OwnSl (El.int .u8) v0 M0 p0.gbytes) :
    Calls Try.prog 28 [.pointer (some ⟨b, 0, none⟩)].toArray W (retS W (b :: M0.map (·.b)) (fun v Ms => ∃ (uw : Value) (Mw : List Chunk), v = agg [.one (.int .i64 (r.1.gEpoch)), .ints .u8 32 (r.1.gKey), .ints .u8 64 (r.1.gSig)] ∧ Ms = [.one (ck b T [.one (uw), .one (.int .i64 (r.2.gat)), .one (.int .i64 (r.2.gfault))]), .all Mw] ∧ OwnSl (El.int .u8) uw Mw r.2.gbytes)) := by
 unfold rotate_Decode_1 at h
 refine calls_memT mo ok28 rfl h0 ?_
 refine wc_seq <| wc_ops <| wj_e (ef_al fun b2 hb2 => wj_nil <| wc_seq <| wc_ops <| wj_e (ef_al fun b4 hb4 => wj_nil <| wc_seq <| oH h fun y6 ey6 h => bH h fun l15 el15 h => wc_draw <| ws_p1 _ (q_fa rfl) <| ws_p1 _ (q_sla rfl .no .no .no (by simp) (by decide)) <| ws_p1 _ (q_mv rfl) <| ws_eL rfl (ef_callS (mS := _ :: M0) rfl (perm2 (.there (.there .here)) (.there (.there .here))) (fun w hw => wire_Reader_Fixed_spec  ey6 (sat_own2 hw (perm2 (.there (.there .here)) (.there (.there .here)))) O0) fun v7 Msv7 R8 => ?_)))
 obtain ⟨_, ms10, v12, ms13, rfl, rfl, O11, O14⟩ := R8
 refine ws_eM rfl (ef_cpyB (q := [.one (.int .i64 (0)), .ints .u8 32 (l15), .ints .u8 64 ((List.replicate 64 0))]) (lo := 0) (hi := 32) (mz := 32) (base := 1) (cpy0 el15) rfl rfl (rd_own O11 .here) rfl (by decide) rfl (.app (.there (.app .here))) <| ws_nil <| wc_seq <| oH h fun y17 ey17 h => bH h fun l26 el26 h => wc_draw <| ws_p1 _ (q_fa rfl) <| ws_p1 _ (q_sla rfl .no .no .no (by simp) (by decide)) <| ws_p1 _ (q_mv rfl) <| ws_eL rfl (ef_callS (mS := _ :: ms13) rfl (perm2 (.app .here) (.app .here)) (fun w hw => wire_Reader_Fixed_spec  ey17 (sat_own2 hw (perm2 (.app .here) (.app .here))) O14) fun v18 Msv18 R19 => ?_))
 obtain ⟨_, ms21, v23, ms24, rfl, rfl, O22, O25⟩ := R19
 refine ws_eM rfl (ef_cpyB (q := [.one (.int .i64 (0)), .ints .u8 32 (l15), .ints .u8 64 (l26)]) (lo := 0) (hi := 64) (mz := 64) (base := 33) (cpy0 el26) rfl rfl (rd_own O22 .here) rfl (by decide) rfl (.app (.there (.app (.app .here)))) <| ws_nil <| wc_seq <| wc_ops <| wj_q _ (q_ld (p := [.one (.int .i64 (0)), .ints .u8 32 (l15), .ints .u8 64 (l26)]) rfl (.app (.there (.app (.app .here)))) rfl) <| wj_e (ef_st (q := [.one (.int .i64 (0)), .ints .u8 32 (l15), .ints .u8 64 (l26)]) rfl rfl rfl rfl rfl (.app (.there (.app (.app (.there .here))))) <| wj_nil <| wc_ret ?_))
 revert h; refine ret_i fun h => ?_
 subst h
 exact ⟨_, _, (.cons (.agg rfl (.app (.there (.app (.app (.there .here))))) rfl) .nil), (.one (.app .here) (.all (.app .here) .nil)), ⟨_, rfl, ⟨v23, ms24, rfl, rfl, O25⟩⟩⟩
/- farebox/wire.GetList[farebox/api.Link] -/
def wire_GetList_api_Link_b1 (y5 : Int × wire_Reader) (k118 : (List (api_Link)) → (List (Int)) → (Int) → (Int) → Option ((List (api_Link)) × wire_Reader)) (k188 : (List (api_Link)) → (Int) → (List (Int)) → (Int) → (Int) → Option ((List (api_Link)) × wire_Reader)) (l179 : List (api_Link)) (i181 : Int) (l184 : List (Int)) (i186 : Int) (i187 : Int) : Option ((List (api_Link)) × wire_Reader) :=
 br ((decide (i181 < y5.1))) (
 opt (rotate_Decode_1 (⟨l184, i186, i187⟩ : wire_Reader)) fun y193 =>
 br ((y193.2.gfault != 0)) (
 some ([], y193.2)
 ) (
 chk (decide ((l179.length + ([y193.1] : List (api_Link)).length) * 104 ≤ 140737488355328)) <|
 bnd (l179 ++ ([y193.1] : List (api_Link))) fun l208 =>
 bnd (IntKind.wrap .i64 (i181 + 1)) fun z213 =>
 k188 l208 z213 y193.2.gbytes y193.2.gat y193.2.gfault
 )
 ) (
 k118 l179 l184 i186 i187
 )
def wire_GetList_api_Link_l1 (y5 : Int × wire_Reader) (k118 : (List (api_Link)) → (List (Int)) → (Int) → (Int) → Option ((List (api_Link)) × wire_Reader)) : Nat → (List (api_Link)) → (Int) → (List (Int)) → (Int) → (Int) → Option ((List (api_Link)) × wire_Reader)
  | 0, _, _, _, _, _ => none
  | n + 1, l179, i181, l184, i186, i187 => wire_GetList_api_Link_b1 y5 k118 (wire_GetList_api_Link_l1 y5 k118 n) l179 i181 l184 i186 i187
def wire_GetList_api_Link (p0 : wire_Reader) (p1 : Int) : Option ((List (api_Link)) × wire_Reader) :=
 opt (wire_caught 0 p0 (wire_GetList_api_Link_1 p0 p1)) fun y5 =>
 jn (fun (l110 : List (api_Link)) (l114 : List (Int)) (i116 : Int) (i117 : Int) => some (l110, (⟨l114, i116, i117⟩ : wire_Reader))) fun k118 => wire_GetList_api_Link_l1 y5 k118 big [] 0 y5.2.gbytes y5.2.gat y5.2.gfault
theorem wire_GetList_api_Link_spec {W : World} {r : (List (api_Link)) × wire_Reader} {p0 : wire_Reader} {p1 : Int} {v0 : Value} {M0 : List Chunk} {b : Nat} {T : TypeId} (h : wire_GetList_api_Link p0 p1 = some r) (h0 : Sat W (b :: M0.map (·.b)) (ck b T [.one (v0), .one (.int .i64 (p0.gat)), .one (.int .i64 (p0.gfault))] :: (M0 ++ [])) W) (O0 : OwnSl (El.int .u8) v0 M0 p0.gbytes) :
    Calls Try.prog 27 [.pointer (some ⟨b, 0, none⟩), .int .i64 (p1), .func (.func 28) #[] #[]].toArray W (retS W (b :: M0.map (·.b)) (fun v Ms => ∃ (u0 : Value) (M0 : List Chunk) (uw : Value) (Mw : List Chunk), v = u0 ∧ Ms = [.all M0, .one (ck b T [.one (uw), .one (.int .i64 (r.2.gat)), .one (.int .i64 (r.2.gfault))]), .all Mw] ∧ OwnSl E_api_Link u0 M0 r.1 ∧ OwnSl (El.int .u8) uw Mw r.2.gbytes)) := by
 unfold wire_GetList_api_Link at h
 refine calls_memT mo ok27 rfl h0 ?_
 refine wc_seq <| wc_ops <| wj_e (ef_bx1 rfl rfl fun b2 hb2 => wj_e (ef_bx1 rfl rfl fun b3 hb3 => wj_q _ (q_mv rfl) <| wj_nil <| wc_seq <| oH h fun y5 ey5 h => wc_ops <| wj_q _ (q_ld1 rfl (.there .here) rfl) <| wj_q _ (q_mf rfl) <| wj_e (ef_callS (mS := _ :: M0) rfl (perm2 (.there (.there .here)) (.there (.there .here))) (fun w hw => caught39_spec ey5 (sat_own2 hw (perm2 (.there (.there .here)) (.there (.there .here)))) O0 rfl (fun w2 hk h0 y ey => wire_GetList_api_Link_1_spec ey h0 O0 (hk _ _ (nin hw (perm2 (.there (.there .here)) (.there (.there .here))) (.there .here)) (cap_box (.there .here) w hw)) (nin hw (perm2 (.there (.there .here)) (.there (.there .here))) (.there .here)) (hk _ _ (nin hw (perm2 (.there (.there .here)) (.there (.there .here))) .here) (cap_box .here w hw)) (nin hw (perm2 (.there (.there .here)) (.there (.there .here))) .here)) (fun w2 hk h0 x ex => wire_GetList_api_Link_1_pan ex h0 O0 (hk _ _ (nin hw (perm2 (.there (.there .here)) (.there (.there .here))) (.there .here)) (cap_box (.there .here) w hw)) (nin hw (perm2 (.there (.there .here)) (.there (.there .here))) (.there .here)) (hk _ _ (nin hw (perm2 (.there (.there .here)) (.there (.there .here))) .here) (cap_box .here w hw)) (nin hw (perm2 (.there (.there .here)) (.there (.there .here))) .here))) fun v6 Msv6 R7 => ?_)))
 obtain ⟨v8, ms9, rfl, rfl, O10⟩ := R7
 refine wj_q _ (q_mv rfl) <| wj_nil <| wc_seq <| wc_ops <| wj_q _ (q_mv rfl) <| wj_nil <| wc_seq <| wc_seq <| wc_ops <| wj_q _ (q_mv rfl) <| wj_q _ (q_mv rfl) <| wj_nil <| jH h fun k118 qk118 h => wc_mono2 (G := fun t m => ∃ (l110 : List (api_Link)) (l114 : List (Int)) (i116 : Int) (i117 : Int) (v108 : Value) (ms109 : List Chunk) (v112 : Value) (ms113 : List Chunk), k118 l110 l114 i116 i117 = some r ∧ OwnSl E_api_Link v108 ms109 l110 ∧ OwnSl (El.int .u8) v112 ms113 l114 ∧ Fit [(8, v108)] (ck b T [.one (v112), .one (.int .i64 (i116)), .one (.int .i64 (i117))] :: (ck b3 3 [.one (.int .i64 (p1))] :: (ck b2 56 [.one (.pointer (some ⟨b, 0, none⟩))] :: (ms113 ++ (ms109 ++ []))))) t m) ?_ ?_
 ·refine wc_block <| wc_loopJ (fun n189 t m => ∃ (l179 : List (api_Link)) (i181 : Int) (l184 : List (Int)) (i186 : Int) (i187 : Int) (v177 : Value) (ms178 : List Chunk) (v182 : Value) (ms183 : List Chunk), wire_GetList_api_Link_l1 y5 k118 n189 l179 i181 l184 i186 i187 = some r ∧ OwnSl E_api_Link v177 ms178 l179 ∧ OwnSl (El.int .u8) v182 ms183 l184 ∧ Fit [(2, .func (.func 28) #[] #[]), (3, .pointer (some ⟨b2, 0, none⟩)), (8, v177), (13, .int .i64 (y5.1)), (14, .int .i64 (i181))] (ck b T [.one (v182), .one (.int .i64 (i186)), .one (.int .i64 (i187))] :: (ck b3 3 [.one (.int .i64 (p1))] :: (ck b2 56 [.one (.pointer (some ⟨b, 0, none⟩))] :: (ms183 ++ (ms178 ++ []))))) t m) big ?_ ?_
  ·exact ⟨[], 0, y5.2.gbytes, y5.2.gat, y5.2.gfault, (.slice none 0 0), [], v8, ms9, h, own_nil, O10, ⟨⟨rfl, rfl, rfl, rfl, rfl, trivial⟩, (.one .here (.one (.app .here) (.one (.app .here) (.all .here (.no .nil)))))⟩⟩
  ·rintro n189 t m ⟨l179, i181, l184, i186, i187, v177, ms178, v182, ms183, h, O180, O185, hF⟩
   refine wc_fit hF ?_
   clear hF
   rcases n189 with _ | n189
   · exact none_i h
   have h : wire_GetList_api_Link_b1 y5 k118 (wire_GetList_api_Link_l1 y5 k118 n189) l179 i181 l184 i186 i187 = some r := h
   unfold wire_GetList_api_Link_b1 at h
   obtain ⟨k188, qk188⟩ : ∃ k, k = wire_GetList_api_Link_l1 y5 k118 n189 := ⟨_, rfl⟩
   try rw [← qk188] at h
   refine wc_seq <| wc_ops <| wj_q _ (q_bin rfl rfl rfl) <| wj_nil <| wc_seq <| wc_br h rfl (fun h => ?_) (fun h => ?_)
   ·refine wc_skip <| wc_seq <| wc_block <| wc_seq <| oH h fun y193 ey193 h => wc_ops <| wj_q _ (q_mv rfl) <| wj_q _ (q_ld1 rfl (.there (.there .here)) rfl) <| wj_e (ef_cvS (mS := _ :: ms183) rfl rfl rfl (perm2 .here (.there (.there .here))) (fun w hw => rotate_Decode_1_spec (p0 := (⟨l184, i186, i187⟩ : wire_Reader)) ey193 (sat_own2 hw (perm2 .here (.there (.there .here)))) O185) fun v194 Msv194 R195 => ?_)
    obtain ⟨v196, ms197, rfl, rfl, O198⟩ := R195
    refine wj_e (ef_al fun b199 hb199 => wj_e (ef_st (q := [.one (.int .i64 (y193.1.gEpoch)), .ints .u8 32 (y193.1.gKey), .ints .u8 64 (y193.1.gSig)]) rfl rfl rfl rfl rfl .here <| wj_nil <| wc_seq <| wc_seq <| wc_ops <| wj_q _ (q_ld1 rfl (.there (.there (.app (.there .here)))) rfl) <| wj_q _ (q_nilc rfl) <| wj_q _ (q_fa rfl) <| wj_q _ (q_ld1 rfl (.there .here) rfl) <| wj_q _ (q_bin rfl rfl rfl) <| wj_nil <| wc_br h rfl (fun h => ?_) (fun h => ?_)))
    ·refine wc_seq <| wc_ops <| wj_q _ (q_mv rfl) <| wj_nil <| wc_ret ?_
     revert h; refine ret_i fun h => ?_
     subst h
     exact ⟨_, _, (.cons (.tmp rfl) .nil), (.no (.one (.there .here) (.all (.there .here) .nil))), ⟨_, rfl, ⟨(.slice none 0 0), [], v196, ms197, rfl, rfl, own_nil, O198⟩⟩⟩
    ·refine wc_skip <| cH h fun c207 h => bH h fun l208 el208 h => wc_ops <| wj_q _ (q_mv rfl) <| wj_q _ (q_ld (p := [.one (.int .i64 (y193.1.gEpoch)), .ints .u8 32 (y193.1.gKey), .ints .u8 64 (y193.1.gSig)]) rfl .here rfl) <| wj_e (ef_bsO (E := E_api_Link) (xs := [y193.1]) (.agg rfl rfl rfl BdR.nil) (.cons (p := [.one (.int .i64 (y193.1.gEpoch)), .ints .u8 32 (y193.1.gKey), .ints .u8 64 (y193.1.gSig)]) rfl .nil) rfl fun v204 ms205 O206 => wj_e (ef_appO (E := E_api_Link) el208 rfl O180 (.app (.there (.there (.app (.there (.there .here)))))) rfl (rd_own O206 .here) c207 fun v209 ms210 O211 => wj_q _ (q_mv rfl) <| wj_nil <| bH h fun z213 ez213 h => wc_ops <| wj_q _ (iz ez213 (q_bin rfl rfl rfl)) <| wj_q _ (q_mv rfl) <| wj_nil ?_))
     rw [qk188] at h
     exact ⟨n189, Nat.lt_succ_self _, l208, z213, y193.2.gbytes, y193.2.gat, y193.2.gfault, v209, ms210, v196, ms197, h, O211, O198, ⟨⟨rfl, rfl, rfl, rfl, rfl, trivial⟩, (.one (.app (.app (.there .here))) (.one (.app (.app (.there (.app .here)))) (.one (.app (.app (.there (.app .here)))) (.all (.app (.app (.there .here))) (.all .here .nil)))))⟩⟩
   ·exact wc_exit _ rfl <| ⟨l179, l184, i186, i187, v177, ms178, v182, ms183, h, O180, O185, ⟨⟨rfl, trivial⟩, (.one .here (.one .here (.one .here (.all .here (.all .here .nil)))))⟩⟩
 ·rintro t m ⟨l110, l114, i116, i117, v108, ms109, v112, ms113, h, O111, O115, hF⟩
  refine wc_fit hF ?_
  clear hF
  subst qk118
  refine wc_seq <| wc_ops <| wj_q _ (q_mv rfl) <| wj_q _ (q_mv rfl) <| wj_nil <| wc_ret ?_
  revert h; refine ret_i fun h => ?_
  subst h
  exact ⟨_, _, (.cons (.tmp rfl) .nil), (.all (.there (.there (.there (.app .here)))) (.one .here (.all (.there (.there .here)) .nil))), ⟨_, rfl, ⟨v108, ms109, v112, ms113, rfl, rfl, O111, O115⟩⟩⟩
/- (*farebox/wire.Reader).Done -/
def wire_Reader_Done (p0 : wire_Reader) : Option (Int × wire_Reader) :=
 jn (fun (l11 : List (Int)) (i13 : Int) (i14 : Int) (i15 : Bool) => br (i15) (
 some (90, (⟨l11, i13, i14⟩ : wire_Reader))
 ) (
 some (i14, (⟨l11, i13, i14⟩ : wire_Reader))
 )) fun k16 => br ((p0.gfault == 0)) (
 opt (wire_Reader_Left p0) fun y18 =>
 k16 y18.2.gbytes y18.2.gat y18.2.gfault (decide (y18.1 > 0))
 ) (
 k16 p0.gbytes p0.gat p0.gfault false
 )
theorem wire_Reader_Done_spec {W : World} {r : Int × wire_Reader} {p0 : wire_Reader} {v0 : Value} {M0 : List Chunk} {b : Nat} {T : TypeId} (h : wire_Reader_Done p0 = some r) (h0 : Sat W (b :: M0.map (·.b)) (ck b T [.one (v0), .one (.int .i64 (p0.gat)), .one (.int .i64 (p0.gfault))] :: (M0 ++ [])) W) (O0 : OwnSl (El.int .u8) v0 M0 p0.gbytes) :
    Calls Try.prog 30 [.pointer (some ⟨b, 0, none⟩)].toArray W (retS W (b :: M0.map (·.b)) (fun v Ms => ∃ (uw : Value) (Mw : List Chunk), v = .int .i64 (r.1) ∧ Ms = [.one (ck b T [.one (uw), .one (.int .i64 (r.2.gat)), .one (.int .i64 (r.2.gfault))]), .all Mw] ∧ OwnSl (El.int .u8) uw Mw r.2.gbytes)) := by
 unfold wire_Reader_Done at h
 refine calls_memT mo ok30 rfl h0 ?_
 refine wc_seq <| wc_ops <| wj_q _ (q_mv rfl) <| wj_nil <| wc_seq <| wc_seq <| jH h fun k16 qk16 h => wc_mono2 (G := fun t m => ∃ (l11 : List (Int)) (i13 : Int) (i14 : Int) (i15 : Bool) (v9 : Value) (ms10 : List Chunk), k16 l11 i13 i14 i15 = some r ∧ OwnSl (El.int .u8) v9 ms10 l11 ∧ Fit [(0, .pointer (some ⟨b, 0, none⟩)), (12, .bool (i15))] (ck b T [.one (v9), .one (.int .i64 (i13)), .one (.int .i64 (i14))] :: (ms10 ++ [])) t m) ?_ ?_
 ·refine wc_ops <| wj_q _ (q_mv rfl) <| wj_q _ (q_nilc rfl) <| wj_q _ (q_fa rfl) <| wj_q _ (q_ld1 rfl .here rfl) <| wj_q _ (q_bin rfl rfl rfl) <| wj_q _ (q_mv rfl) <| wj_br (tc := 8) h rfl (fun h => ?_) (fun h => ?_)
  ·refine oH h fun y18 ey18 h => wj_gq rfl _ (q_mv rfl) <| wj_ge rfl (ef_callS (mS := _ :: M0) rfl (perm2 .here .here) (fun w hw => wire_Reader_Left_spec  ey18 (sat_own2 hw (perm2 .here .here)) O0) fun v19 Msv19 R20 => ?_)
   obtain ⟨v21, ms22, rfl, rfl, O23⟩ := R20
   exact wj_gq rfl _ (q_bin rfl rfl rfl) <| wj_q _ (pick_t rfl rfl) <| wj_nil <| ⟨y18.2.gbytes, y18.2.gat, y18.2.gfault, (decide (y18.1 > 0)), v21, ms22, h, O23, ⟨⟨rfl, rfl, trivial⟩, (.one .here (.all .here .nil))⟩⟩
  ·exact wj_gx rfl rfl <| wj_gx rfl rfl <| wj_gx rfl rfl <| wj_q _ (pick_f rfl rfl) <| wj_nil <| ⟨p0.gbytes, p0.gat, p0.gfault, false, v0, M0, h, O0, ⟨⟨rfl, rfl, trivial⟩, (.one .here (.all .here .nil))⟩⟩
 ·rintro t m ⟨l11, i13, i14, i15, v9, ms10, h, O12, hF⟩
  refine wc_fit hF ?_
  clear hF
  subst qk16
  refine wc_br h rfl (fun h => ?_) (fun h => ?_)
  ·refine wc_seq <| wc_ops <| wj_q _ (q_mv rfl) <| wj_nil <| wc_ret ?_
   revert h; refine ret_i fun h => ?_
   subst h
   exact ⟨_, _, (.cons (.tmp rfl) .nil), (.one .here (.all .here .nil)), ⟨_, rfl, ⟨v9, ms10, rfl, rfl, O12⟩⟩⟩
  ·refine wc_skip <| wc_seq <| wc_ops <| wj_q _ (q_mv rfl) <| wj_q _ (q_nilc rfl) <| wj_q _ (q_fa rfl) <| wj_q _ (q_ld1 rfl .here rfl) <| wj_q _ (q_mv rfl) <| wj_nil <| wc_ret ?_
   revert h; refine ret_i fun h => ?_
   subst h
   exact ⟨_, _, (.cons (.tmp rfl) .nil), (.one .here (.all .here .nil)), ⟨_, rfl, ⟨v9, ms10, rfl, rfl, O12⟩⟩⟩
/- farebox/rotate.Decode -/
def rotate_Decode_b1 (y24 : (List (api_Link)) × wire_Reader) (k93 : (List (api_Link)) → Option ((List (api_Link)) × Int)) (k126 : (List (api_Link)) → (Int) → Option ((List (api_Link)) × Int)) (l123 : List (api_Link)) (i125 : Int) : Option ((List (api_Link)) × Int) :=
 br ((decide (i125 < (y24.1.length : Int)))) (
 bnd (IntKind.wrap .i64 (i125 + 1)) fun z132 =>
 chk (inB i125 l123.length) <|
 bnd (l123.getD (i125).toNat api_Link_z) fun x134 =>
 bnd (setG api_Link_z l123 (i125).toNat (⟨z132, x134.gKey, x134.gSig⟩ : api_Link)) fun l135 =>
 bnd (IntKind.wrap .i64 (i125 + 1)) fun z139 =>
 k126 l135 z139
 ) (
 k93 l123
 )
def rotate_Decode_l1 (y24 : (List (api_Link)) × wire_Reader) (k93 : (List (api_Link)) → Option ((List (api_Link)) × Int)) : Nat → (List (api_Link)) → (Int) → Option ((List (api_Link)) × Int)
  | 0, _, _ => none
  | n + 1, l123, i125 => rotate_Decode_b1 y24 k93 (rotate_Decode_l1 y24 k93 n) l123 i125
def rotate_Decode (p0 : List Int) : Option ((List (api_Link)) × Int) :=
 br ((decide ((p0.length : Int) > 6149))) (
 some ([], 1)
 ) (
 opt (wire_ReadHead p0) fun y6 =>
 br ((y6.2.2 != 0)) (
 some ([], y6.2.2)
 ) (
 br ((y6.1 != 11)) (
 some ([], 91)
 ) (
 chk (cutB y6.2.1 (p0.length : Int) p0.length) <|
 opt (wire_NewReader ((p0.drop (y6.2.1).toNat).take (((p0.length : Int)).toNat - (y6.2.1).toNat))) fun y15 =>
 opt (wire_GetList_api_Link y15 64) fun y24 =>
 opt (wire_Reader_Done y24.2) fun y34 =>
 br ((y34.1 != 0)) (
 some ([], 90)
 ) (
 jn (fun (l91 : List (api_Link)) => some (l91, 0)) fun k93 => rotate_Decode_l1 y24 k93 big y24.1 0
 )
 )
 )
 )
theorem rotate_Decode_spec {W : World} {r : (List (api_Link)) × Int} {p0 : List Int} {v0 : Value} (h : rotate_Decode p0 = some r) (A0 : RdSl (El.int .u8) W v0 p0) :
    Calls Try.prog 11 [v0].toArray W (retS W [] (fun v Ms => ∃ (u0 : Value) (M0 : List Chunk), v = .tuple #[u0, .int .i64 (r.2)] ∧ Ms = [.all M0] ∧ OwnSl E_api_Link u0 M0 r.1)) := by
 unfold rotate_Decode at h
 refine calls_memT mo ok11 rfl (sat0 _) ?_
 refine wc_seq <| wc_ops <| wj_q _ (q_mv rfl) <| wj_q _ (q_mv rfl) <| wj_nil <| wc_seq <| wc_seq <| wc_ops <| wj_q _ (q_mv rfl) <| wj_q _ (q_lenP rfl (Shp.rd A0)) <| wj_q _ (q_bin rfl rfl rfl) <| wj_nil <| wc_br h rfl (fun h => ?_) (fun h => ?_)
 ·refine wc_seq <| wc_ops <| wj_q _ (q_mv rfl) <| wj_q _ (q_mv rfl) <| wj_nil <| wc_ret ?_
  revert h; refine ret_i fun h => ?_
  subst h
  exact ⟨_, _, (.cons (.tmp rfl) (.cons (.tmp rfl) .nil)), (.no .nil), ⟨_, rfl, ⟨(.slice none 0 0), [], rfl, rfl, own_nil⟩⟩⟩
 ·refine wc_skip <| wc_seq <| oH h fun y6 ey6 h => wc_ops <| wj_q _ (q_mv rfl) <| wj_q _ (q_call rfl (fun w hw => wire_ReadHead_spec ey6 ((rd_arg A0 apart0) w hw))) <| wj_q _ (q_mv rfl) <| wj_q _ (q_ext rfl rfl) <| wj_q _ (q_ext rfl rfl) <| wj_q _ (q_ext rfl rfl) <| wj_q _ (q_mv rfl) <| wj_q _ (q_mv rfl) <| wj_q _ (q_mv rfl) <| wj_nil <| wc_seq <| wc_block <| wc_seq <| wc_ops <| wj_q _ (q_mv rfl) <| wj_q _ (q_bin rfl rfl rfl) <| wj_q _ (q_mv rfl) <| wj_nil <| wc_br h rfl (fun h => ?_) (fun h => ?_)
  ·refine wc_seq <| wc_ops <| wj_q _ (q_mv rfl) <| wj_q _ (q_mv rfl) <| wj_q _ (q_mv rfl) <| wj_nil <| wc_ret ?_
   revert h; refine ret_i fun h => ?_
   subst h
   exact ⟨_, _, (.cons (.tmp rfl) (.cons (.tmp rfl) .nil)), (.no .nil), ⟨_, rfl, ⟨(.slice none 0 0), [], rfl, rfl, own_nil⟩⟩⟩
  ·refine wc_seq <| wc_ops <| wj_q _ (q_mv rfl) <| wj_q _ (q_bin rfl rfl rfl) <| wj_q _ (q_mv rfl) <| wj_nil <| wc_br h rfl (fun h => ?_) (fun h => ?_)
   ·refine wc_seq <| wc_ops <| wj_q _ (q_mv rfl) <| wj_q _ (q_mv rfl) <| wj_nil <| wc_ret ?_
    revert h; refine ret_i fun h => ?_
    subst h
    exact ⟨_, _, (.cons (.tmp rfl) (.cons (.tmp rfl) .nil)), (.no .nil), ⟨_, rfl, ⟨(.slice none 0 0), [], rfl, rfl, own_nil⟩⟩⟩
   ·refine wc_skip <| wc_seq <| cH h fun c14 h => oH h fun y15 ey15 h => wc_ops <| wj_q _ (q_mv rfl) <| wj_q _ (q_mv rfl) <| wj_q _ (q_slsP (lz := y6.2.1) (hz := (p0.length : Int)) rfl (Shp.rd A0) (.yes rfl) .no c14) <| wj_e (ef_callS0 rfl (fun w hw => wire_NewReader_spec  ey15 ((rd_cut (rd_arg A0 apart0) (lz := y6.2.1) (hz := (p0.length : Int)) c14) w hw)) fun v16 Msv16 R17 => ?_)
    obtain ⟨b18, T19, v20, ms21, rfl, rfl, O22⟩ := R17
    refine wj_q _ (q_mv rfl) <| wj_nil <| wc_seq <| oH h fun y24 ey24 h => wc_ops <| wj_q _ (q_mv rfl) <| wj_e (ef_callS (mS := _ :: ms21) rfl (perm2 .here .here) (fun w hw => wire_GetList_api_Link_spec  ey24 (sat_own2 hw (perm2 .here .here)) O22) fun v25 Msv25 R26 => ?_)
    obtain ⟨_, ms28, v30, ms31, rfl, rfl, O29, O32⟩ := R26
    refine wj_q _ (q_mv rfl) <| wj_nil <| wc_seq <| wc_seq <| oH h fun y34 ey34 h => wc_ops <| wj_q _ (q_mv rfl) <| wj_e (ef_callS (mS := _ :: ms31) rfl (perm2 (.app .here) (.app .here)) (fun w hw => wire_Reader_Done_spec  ey34 (sat_own2 hw (perm2 (.app .here) (.app .here))) O32) fun v35 Msv35 R36 => ?_)
    obtain ⟨v37, ms38, rfl, rfl, O39⟩ := R36
    refine wj_q _ (q_bin rfl rfl rfl) <| wj_nil <| wc_br h rfl (fun h => ?_) (fun h => ?_)
    ·refine wc_seq <| wc_ops <| wj_q _ (q_mv rfl) <| wj_q _ (q_mv rfl) <| wj_nil <| wc_ret ?_
     revert h; refine ret_i fun h => ?_
     subst h
     exact ⟨_, _, (.cons (.tmp rfl) (.cons (.tmp rfl) .nil)), (.no .nil), ⟨_, rfl, ⟨(.slice none 0 0), [], rfl, rfl, own_nil⟩⟩⟩
    ·refine wc_skip <| wc_seq <| wc_seq <| wc_ops <| wj_q _ (q_mv rfl) <| wj_q _ (q_lenP rfl (Shp.own O29)) <| wj_q _ (q_mv rfl) <| wj_nil <| jH h fun k93 qk93 h => wc_mono2 (G := fun t m => ∃ (l91 : List (api_Link)) (v89 : Value) (ms90 : List Chunk), k93 l91 = some r ∧ OwnSl E_api_Link v89 ms90 l91 ∧ Fit [(8, v89)] (ck b18 T19 [.one (v37), .one (.int .i64 (y34.2.gat)), .one (.int .i64 (y34.2.gfault))] :: (ms38 ++ (ms90 ++ []))) t m) ?_ ?_
     ·refine wc_block <| wc_loopJ (fun n127 t m => ∃ (l123 : List (api_Link)) (i125 : Int) (v121 : Value) (ms122 : List Chunk), rotate_Decode_l1 y24 k93 n127 l123 i125 = some r ∧ OwnSl E_api_Link v121 ms122 l123 ∧ Fit [(8, v121), (36, .int .i64 ((y24.1.length : Int))), (37, .int .i64 (i125))] (ck b18 T19 [.one (v37), .one (.int .i64 (y34.2.gat)), .one (.int .i64 (y34.2.gfault))] :: (ms38 ++ (ms122 ++ []))) t m) big ?_ ?_
      ·exact ⟨y24.1, 0, v25, ms28, h, O29, ⟨⟨rfl, rfl, rfl, trivial⟩, (.one .here (.all .here (.all .here .nil)))⟩⟩
      ·rintro n127 t m ⟨l123, i125, v121, ms122, h, O124, hF⟩
       refine wc_fit hF ?_
       clear hF
       rcases n127 with _ | n127
       · exact none_i h
       have h : rotate_Decode_b1 y24 k93 (rotate_Decode_l1 y24 k93 n127) l123 i125 = some r := h
       unfold rotate_Decode_b1 at h
       obtain ⟨k126, qk126⟩ : ∃ k, k = rotate_Decode_l1 y24 k93 n127 := ⟨_, rfl⟩
       try rw [← qk126] at h
       refine wc_seq <| wc_ops <| wj_q _ (q_bin rfl rfl rfl) <| wj_nil <| wc_seq <| wc_br h rfl (fun h => ?_) (fun h => ?_)
       ·refine wc_skip <| wc_seq <| wc_block <| wc_seq <| wc_ops <| wj_q _ (q_mv rfl) <| wj_q _ (q_mv rfl) <| wj_nil <| bH h fun z132 ez132 h => cH h fun c133 h => bH h fun x134 ex134 h => bH h fun l135 el135 h => wc_ops <| wj_q _ (q_mv rfl) <| wj_q _ (q_mv rfl) <| wj_q _ (q_mv rfl) <| wj_q _ (iz ez132 (q_bin rfl rfl rfl)) <| wj_q _ (q_iasP rfl rfl (Shp.own O124) c133) <| wj_q _ (q_fa rfl) <| wj_e (ef_stOp (E := E_api_Link) (c := 0) (x0 := x134) (y0 := (⟨z132, x134.gKey, x134.gSig⟩ : api_Link)) ex134 el135 O124 (.there (.app .here)) rfl rfl rfl rfl (by kernel_rfl) (inB_n c133) fun ms136 O137 => wj_nil <| bH h fun z139 ez139 h => wc_ops <| wj_q _ (iz ez139 (q_bin rfl rfl rfl)) <| wj_q _ (q_mv rfl) <| wj_nil ?_)
        rw [qk126] at h
        exact ⟨n127, Nat.lt_succ_self _, l135, z139, v121, ms136, h, O137, ⟨⟨rfl, rfl, rfl, trivial⟩, (.one (.app .here) (.all (.app .here) (.all .here .nil)))⟩⟩
       ·exact wc_exit _ rfl <| ⟨l123, v121, ms122, h, O124, ⟨⟨rfl, trivial⟩, (.one .here (.all .here (.all .here .nil)))⟩⟩
     ·rintro t m ⟨l91, v89, ms90, h, O92, hF⟩
      refine wc_fit hF ?_
      clear hF
      subst qk93
      refine wc_seq <| wc_ops <| wj_q _ (q_mv rfl) <| wj_q _ (q_mv rfl) <| wj_q _ (q_mv rfl) <| wj_nil <| wc_ret ?_
      revert h; refine ret_i fun h => ?_
      subst h
      exact ⟨_, _, (.cons (.tmp rfl) (.cons (.tmp rfl) .nil)), (.all (.there (.app .here)) .nil), ⟨_, rfl, ⟨v89, ms90, rfl, rfl, O92⟩⟩⟩
/- farebox/fareboxref09.ReadHead -/
def fareboxref09_ReadHead (p0 : List Int) : Option (Int × Int × Int) :=
 chk (imp (!(decide ((p0.length : Int) < 4))) (inB 0 p0.length)) <|
 chk (imp (!((decide ((p0.length : Int) < 4)) || (p0.getD (0 : Int).toNat 0 != 70))) (inB 1 p0.length)) <|
 chk (imp (!(((decide ((p0.length : Int) < 4)) || (p0.getD (0 : Int).toNat 0 != 70)) || (p0.getD (1 : Int).toNat 0 != 66))) (inB 2 p0.length)) <|
 chk (imp (!((((decide ((p0.length : Int) < 4)) || (p0.getD (0 : Int).toNat 0 != 70)) || (p0.getD (1 : Int).toNat 0 != 66)) || (p0.getD (2 : Int).toNat 0 != 1))) (inB 3 p0.length)) <|
 br ((((((decide ((p0.length : Int) < 4)) || (p0.getD (0 : Int).toNat 0 != 70)) || (p0.getD (1 : Int).toNat 0 != 66)) || (p0.getD (2 : Int).toNat 0 != 1)) || (p0.getD (3 : Int).toNat 0 == 0))) (
 some (0, 0, 90)
 ) (
 chk (inB 3 p0.length) <|
 bnd (p0.getD (3 : Int).toNat 0) fun z11 =>
 bnd (IntKind.wrap .i64 z11) fun z12 =>
 some (z12, 4, 0)
 )
theorem fareboxref09_ReadHead_spec {W : World} {r : Int × Int × Int} {p0 : List Int} {v0 : Value} (h : fareboxref09_ReadHead p0 = some r) (A0 : RdSl (El.int .u8) W v0 p0) :
    Calls Try.prog 31 [v0].toArray W (ret1 W (.tuple #[.int .i64 (r.1), .int .i64 (r.2.1), .int .i64 (r.2.2)])) := by
 unfold fareboxref09_ReadHead at h
 refine calls_val mo ok31 rfl ?_
 refine wc_seq <| wc_ops <| wj_q _ (q_mv rfl) <| wj_q _ (q_mv rfl) <| wj_q _ (q_mv rfl) <| wj_nil <| wc_seq <| wc_seq <| cH h fun c3 h => cH h fun c4 h => cH h fun c5 h => cH h fun c6 h => wc_ops <| wj_q _ (q_mv rfl) <| wj_q _ (q_lenP rfl (Shp.rd A0)) <| wj_q _ (q_bin rfl rfl rfl) <| wj_q _ (q_mv rfl) <| wj_or rfl rfl rfl (fun hg1 => qj_g rfl _ (q_mv rfl) (qj_g rfl _ (q_iasP rfl rfl (Shp.rd A0) (imp_f c3 hg1)) (qj_g rfl _ (iz rfl (q_ldM10 (E := (El.int .u8)) (s := [.one (.int .u8 (p0.getD (0 : Int).toNat 0))]) rfl (rd_arg A0 apart0) (inB_n (imp_f c3 hg1)) rfl rfl)) (qj_g rfl _ (q_bin rfl rfl rfl) (qj_nil))))) (fun hg1 => rfl) rfl <| wj_q _ (q_mv rfl) <| wj_or rfl rfl rfl (fun hg1 => qj_g rfl _ (q_mv rfl) (qj_g rfl _ (q_iasP rfl rfl (Shp.rd A0) (imp_f c4 hg1)) (qj_g rfl _ (iz rfl (q_ldM10 (E := (El.int .u8)) (s := [.one (.int .u8 (p0.getD (1 : Int).toNat 0))]) rfl (rd_arg A0 apart0) (inB_n (imp_f c4 hg1)) rfl rfl)) (qj_g rfl _ (q_bin rfl rfl rfl) (qj_nil))))) (fun hg1 => rfl) rfl <| wj_q _ (q_mv rfl) <| wj_or rfl rfl rfl (fun hg1 => qj_g rfl _ (q_mv rfl) (qj_g rfl _ (q_iasP rfl rfl (Shp.rd A0) (imp_f c5 hg1)) (qj_g rfl _ (iz rfl (q_ldM10 (E := (El.int .u8)) (s := [.one (.int .u8 (p0.getD (2 : Int).toNat 0))]) rfl (rd_arg A0 apart0) (inB_n (imp_f c5 hg1)) rfl rfl)) (qj_g rfl _ (q_bin rfl rfl rfl) (qj_nil))))) (fun hg1 => rfl) rfl <| wj_q _ (q_mv rfl) <| wj_or rfl rfl rfl (fun hg1 => qj_g rfl _ (q_mv rfl) (qj_g rfl _ (q_iasP rfl rfl (Shp.rd A0) (imp_f c6 hg1)) (qj_g rfl _ (iz rfl (q_ldM10 (E := (El.int .u8)) (s := [.one (.int .u8 (p0.getD (3 : Int).toNat 0))]) rfl (rd_arg A0 apart0) (inB_n (imp_f c6 hg1)) rfl rfl)) (qj_g rfl _ (q_bin rfl rfl rfl) (qj_nil))))) (fun hg1 => rfl) rfl <| wj_nil <| wc_br h rfl (fun h => ?_) (fun h => ?_)
 ·refine wc_seq <| wc_ops <| wj_q _ (q_mv rfl) <| wj_q _ (q_mv rfl) <| wj_q _ (q_mv rfl) <| wj_nil <| wc_ret ?_
  revert h; refine ret_i fun h => ?_
  subst h
  exact ⟨_, (.cons (.tmp rfl) (.cons (.tmp rfl) (.cons (.tmp rfl) .nil))), rfl⟩
 ·refine wc_skip <| wc_seq <| cH h fun c10 h => bH h fun z11 ez11 h => bH h fun z12 ez12 h => wc_ops <| wj_q _ (q_mv rfl) <| wj_q _ (q_iasP rfl rfl (Shp.rd A0) c10) <| wj_q _ (iz ez11 (q_ldM10 (E := (El.int .u8)) (s := [.one (.int .u8 (p0.getD (3 : Int).toNat 0))]) rfl (rd_arg A0 apart0) (inB_n c10) rfl rfl)) <| wj_q _ (iz ez12 (q_conv rfl)) <| wj_q _ (q_mv rfl) <| wj_q _ (q_mv rfl) <| wj_q _ (q_mv rfl) <| wj_nil <| wc_ret ?_
  revert h; refine ret_i fun h => ?_
  subst h
  exact ⟨_, (.cons (.tmp rfl) (.cons (.tmp rfl) (.cons (.tmp rfl) .nil))), rfl⟩
end Go.Proofs.Ytiflckckekjbnaa
