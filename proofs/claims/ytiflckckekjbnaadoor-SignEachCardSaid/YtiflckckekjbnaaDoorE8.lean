/- The engine, part 8: short rules for scripts. -/
import Derived.Test.YtiflckckekjbnaaDoorE7
import Derived.LoopN
namespace Go.Sx
open Go Go.RowKit
set_option linter.all false

theorem ite_t {α : Sort _} {c : Bool} {a b : α} (h : c = true) : (if c = true then a else b) = a := if_pos h
theorem ite_f {α : Sort _} {c : Bool} {a b : α} (h : c = false) : (if c = true then a else b) = b := if_neg (by rw [h]; simp)

section
variable {C : Cfg} {t : TS} {m0 m : List Chunk} {kn : KN} {late : List Nat} {r : Sch} {op : IOp}

theorem ws_q1 {i d : Nat} (v : Value) (h1 : Q1 C m0 t op v) (h : WS C r late ((d, v) :: t) m0 m true kn) : WS C (.q [i] (.op ⟨some d, none, op⟩) r) late t m0 m true kn :=
  ws_q (pre := [(d, v)]) (qj_q v h1 qj_nil) h
theorem ws_or {idx : List Nat} {tc d : Nat} {grp : List J} {y : Operand} {c v : Bool} {pre : TS} (hc : look t tc = some (.bool c))
    (hsk : skipOk true [(tc, false)] (J.flatL grp) = true) (hfr : freshB t (dsts (J.flatL grp)) = true)
    (hrun : c = false → QJ C m0 ((tc, .bool false) :: t) grp [] pre) (hy : c = false → ev (pre ++ ((tc, .bool false) :: t)) y = some (.bool v)) (hk : keysFresh pre t = true)
    (h : WS C r late ((d, .bool (c || v)) :: t) m0 m true kn) : WS C (.q idx (.lg true tc d none grp y) r) late t m0 m true kn :=
  ws_q (pre := [(d, .bool (c || v))]) (qj_or (pre := []) (c := c) (v := v) hc (fun _ h => by cases h) hsk hfr hrun hy hk qj_nil) h
theorem ws_and {idx : List Nat} {tc d : Nat} {grp : List J} {y : Operand} {c v : Bool} {pre : TS} (hc : look t tc = some (.bool c))
    (hsk : skipOk true [(tc, true)] (J.flatL grp) = true) (hfr : freshB t (dsts (J.flatL grp)) = true)
    (hrun : c = true → QJ C m0 ((tc, .bool true) :: t) grp [] pre) (hy : c = true → ev (pre ++ ((tc, .bool true) :: t)) y = some (.bool v)) (hk : keysFresh pre t = true)
    (h : WS C r late ((d, .bool (c && v)) :: t) m0 m true kn) : WS C (.q idx (.lg false tc d none grp y) r) late t m0 m true kn :=
  ws_q (pre := [(d, .bool (c && v))]) (qj_and (pre := []) (c := c) (v := v) hc (fun _ h => by cases h) hsk hfr hrun hy hk qj_nil) h

theorem ws_p1 {b : Bool} {i d : Nat} (v : Value) (h1 : Q1 C [] t op v) (h : WS C r late ((d, v) :: t) m0 m b kn) : WS C (.p [i] (.op ⟨some d, none, op⟩) r) late t m0 m b kn :=
  ws_p (pre := [(d, v)]) (qj_q v h1 qj_nil) h
theorem wsp_or {b : Bool} {idx : List Nat} {tc d : Nat} {grp : List J} {y : Operand} {c v : Bool} {pre : TS} (hc : look t tc = some (.bool c))
    (hsk : skipOk true [(tc, false)] (J.flatL grp) = true) (hfr : freshB t (dsts (J.flatL grp)) = true)
    (hrun : c = false → QJ C [] ((tc, .bool false) :: t) grp [] pre) (hy : c = false → ev (pre ++ ((tc, .bool false) :: t)) y = some (.bool v)) (hk : keysFresh pre t = true)
    (h : WS C r late ((d, .bool (c || v)) :: t) m0 m b kn) : WS C (.p idx (.lg true tc d none grp y) r) late t m0 m b kn :=
  ws_p (pre := [(d, .bool (c || v))]) (qj_or (pre := []) (c := c) (v := v) hc (fun _ h => by cases h) hsk hfr hrun hy hk qj_nil) h
theorem wsp_and {b : Bool} {idx : List Nat} {tc d : Nat} {grp : List J} {y : Operand} {c v : Bool} {pre : TS} (hc : look t tc = some (.bool c))
    (hsk : skipOk true [(tc, true)] (J.flatL grp) = true) (hfr : freshB t (dsts (J.flatL grp)) = true)
    (hrun : c = true → QJ C [] ((tc, .bool true) :: t) grp [] pre) (hy : c = true → ev (pre ++ ((tc, .bool true) :: t)) y = some (.bool v)) (hk : keysFresh pre t = true)
    (h : WS C r late ((d, .bool (c && v)) :: t) m0 m b kn) : WS C (.p idx (.lg false tc d none grp y) r) late t m0 m b kn :=
  ws_p (pre := [(d, .bool (c && v))]) (qj_and (pre := []) (c := c) (v := v) hc (fun _ h => by cases h) hsk hfr hrun hy hk qj_nil) h

theorem EF.mono {d : Option Nat} {K K' : KN} (hK : ∀ t m, K t m → K' t m) (h : EF C m t d op K) : EF C m t d op K' := by
  intro o ho hd a ha w hw
  refine Oper.wp_mono ?_ (h o ho hd a ha w hw)
  rintro a' w' ⟨t', m', hk, h1, h2⟩
  exact ⟨t', m', hK _ _ hk, h1, h2⟩

/-- What is known is known still, and perhaps more. -/
def Sup (m0 m : List Chunk) : Prop := ∀ c ∈ m0, c ∈ m
theorem Sup.refl (m : List Chunk) : Sup m m := fun _ h => h
theorem Sup.cons {m0 m : List Chunk} {c : Chunk} (h : Sup m0 m) : Sup m0 (c :: m) := fun _ h' => List.mem_cons_of_mem _ (h _ h')

/-- An operation with an effect that leaves what the quiet ones read. -/
theorem ws_e1 {i : Nat} {d : Option Nat} (h : EF C m t d op (fun t' m' => Sup m0 m' ∧ WS C r late t' m0 m' true kn)) : WS C (.e i ⟨d, none, op⟩ r) late t m0 m true kn :=
  ws_e true (fun _ => ⟨rfl, trivial⟩) (h.mono fun _ _ hk => ⟨fun _ => hk.1, fun _ => hk.1, hk.2⟩) rfl
/-- A late one. -/
theorem ws_eL {i : Nat} {d : Option Nat} (hl : lateB late i = true) (h : EF C m t d op (fun t' m' => WS C r late t' m0 m' false kn)) : WS C (.e i ⟨d, none, op⟩ r) late t m0 m true kn :=
  ws_e false (fun h => by cases h) (h.mono fun _ _ hk => ⟨fun e => (by rw [hl] at e; cases e), (fun e => by cases e), hk⟩) rfl
/-- A late one behind a late one. -/
theorem ws_eM {i : Nat} {d : Option Nat} (hl : lateB late i = true) (h : EF C m t d op (fun t' m' => WS C r late t' m0 m' false kn)) : WS C (.e i ⟨d, none, op⟩ r) late t m0 m false kn :=
  ws_e' (h.mono fun _ _ hk => ⟨hl, hk⟩)
/-- A quiet operation when nothing else can come up. -/
theorem ws_eq {i d : Nat} (v : Value) (h1 : Q1 C m t op v) (h : WS C r late ((d, v) :: t) m0 m true kn) (hs : Sup m0 m) : WS C (.e i ⟨some d, none, op⟩ r) late t m0 m true kn :=
  ws_e1 (ef_q v h1 ⟨hs, h⟩)

theorem Mem.below {w w' : World} {b o : Nat} {s : List Seg} (h : Mem w b o s) (hb : Below w.heap.size w w') : Mem w' b o s :=
  ⟨fun i hi => by rw [← h.cell i hi]; exact hb.cell (p := ⟨b, o + i, none⟩) h.lt, Nat.lt_of_lt_of_le h.lt hb.size⟩
/-- What a called function that only answers gives, at the world of the begin. -/
theorem Sat.now {W0 : World} {m : List Chunk} {w : World} (h : Sat W0 [] m w) : Below W0.heap.size W0 w := h.fr.below
end

/-- What is told of the temporaries, entry by entry. -/
def subT : TS → TS → Prop
  | [], _ => True
  | (i, v) :: r, t => look t i = some v ∧ subT r t
theorem subT_look {T t : TS} (h : subT T t) : ∀ j v, look T j = some v → look t j = some v := by
  induction T with
  | nil => intro j v hj; cases hj
  | cons p r ih =>
    intro j v hj
    simp only [look] at hj
    by_cases e : Nat.beq p.1 j = true
    · rw [e, cond_true] at hj
      rw [Nat.beq_eq] at e; subst e
      injection hj with hj; subst hj; exact h.1
    · rw [Bool.not_eq_true] at e; rw [e, cond_false] at hj
      exact ih h.2 j v hj

/-! ### A loop of few rounds, gone through -/

def WCR (C : Cfg) (k : Nat) (c : IC) (t : TS) (m : List Chunk) (ke : KE) : Prop :=
  C.P.follows .mixedOrders = true → ∀ c0, okC C.P C.n c0 c = true → ∀ Q a w, SatT C.n t a → Sat C.W0 C.S m w → (∀ id k, lookK ke.brk id = some k → Cont C k (Q (.exit id))) → Cont C ke.ret (Q .ret) → Code.rounds C.P c0 Q k a w

theorem wc_rounds {C : Cfg} {c : IC} {t : TS} {m : List Chunk} {kn : KN} {ke : KE} (k : Nat) (h : WCR C k c t m ke) : WC C (.loop c) t m kn ke := by
  intro hm c0 hok Q a w ha hw hc
  cases c0 <;> first | (simp [okC] at hok; done) | skip
  simp only [okC] at hok
  exact wp_loop_rounds k (h hm _ hok Q a w ha hw hc.b hc.r)
theorem wc_round {C : Cfg} {c : IC} {t : TS} {m : List Chunk} {ke : KE} {k : Nat} (h : WC C c t m (fun t' m' => WCR C k c t' m' ke) ke) : WCR C (k + 1) c t m ke := by
  intro hm c0 hok Q a w ha hw hb hr
  rw [rounds_succ]
  exact h hm c0 hok _ a w ha hw ⟨fun t' m' hk a' w' ha' hw' => hk hm c0 hok Q a' w' ha' hw' hb hr, hb, hr⟩

theorem Sat.sublist {W0 : World} {S : List Nat} {m m' : List Chunk} {w : World} (h : Sat W0 S m w) (hs : List.Sublist m' m) : Sat W0 S m' w :=
  ⟨h.fr, fun c hc => h.own c (hs.subset hc), fun c hc => h.base c (hs.subset hc), h.dist.sublist (hs.map _)⟩

/-- A loop by an invariant, whose rounds may leave blocks of their own behind: 'k' of them, which are forgotten. -/
theorem wc_loop2 {C : Cfg} {t : TS} {m : List Chunk} {kn : KN} {ke : KE} {c : IC} {X : Type} (T : X → TS) (M : X → List Chunk) (I : X → Prop) (μ : X → Nat) (x0 : X)
    (h0 : I x0) (hT : ∀ j v, look (T x0) j = some v → look t j = some v) (hM : ∃ k, m.drop k = M x0)
    (round : ∀ x, I x → WC C c (T x) (M x) (fun t' m' => ∃ y, I y ∧ μ y < μ x ∧ (∀ j v, look (T y) j = some v → look t' j = some v) ∧ ∃ k, m'.drop k = M y) ke) : WC C (.loop c) t m kn ke := by
  intro hm c0 hok Q a w ha hw hc
  cases c0 <;> first | (simp [okC] at hok; done) | skip
  rename_i c1
  simp only [okC] at hok
  obtain ⟨k0, hM⟩ := hM
  refine wp_loop_x (fun x a w => I x ∧ SatT C.n (T x) a ∧ Sat C.W0 C.S (M x) w) μ (x0 := x0) ⟨h0, ha.drop hT, hM ▸ hw.sublist (List.drop_sublist _ _)⟩ ?_
  rintro x a w ⟨hI, ha, hw⟩
  refine round x hI hm c1 hok _ a w ha hw ⟨?_, hc.b, hc.r⟩
  rintro t' m' ⟨y, hy, hlt, hT', k, hk⟩ a' w' ha' hw'
  exact ⟨y, ⟨hy, ha'.drop hT', hk ▸ hw'.sublist (List.drop_sublist _ _)⟩, hlt⟩
end Go.Sx
