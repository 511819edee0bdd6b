/- The engine, part 14: functions that hand out memory, or write what they are handed. -/
import Derived.Test.YtiflckckekjbnaaDoorE13
namespace Go.Sx
open Go Go.RowKit
set_option linter.all false

/-- A result, where it is kept. -/
def putT : Option Nat → Value → TS → TS
  | some d, v, t => (d, v) :: t
  | none, _, t => t

/-- The function returns a value; behind it the blocks of S are what m' says, with new ones; all else is as it was. -/
def retM (W0 : World) (S : List Nat) (R : Value → List Chunk → Prop) : Ending → World → Prop := fun e w' => ∃ v m, e = .returned v ∧ R v m ∧ Sat W0 S m w'

theorem calls_mem {P : Program} {f : FuncId} {d : FnD} {args : List Value} {W0 : World} {S : List Nat} {m0 : List Chunk} {R : Value → List Chunk → Prop}
    (hm : P.follows .mixedOrders = true) (hok : okF P f d = true) (hlen : Nat.ble args.length d.n = true) (h0 : Sat W0 S m0 W0)
    (h : WC ⟨P, d.n, W0, S⟩ d.c (argsT 0 args) m0 (fun t m => ∃ l ids, ResVs t m d.rs l ∧ decide (List.Nodup ids) = true ∧ R (tupV l) (pickM m ids)) ⟨[], fun t m => ∃ l ids, ResVs t m d.rs l ∧ decide (List.Nodup ids) = true ∧ R (tupV l) (pickM m ids)⟩) :
    Calls P f args.toArray W0 (retM W0 S R) := by
  refine calls_of hm hok hlen h0 ?_
  have hsub : ∀ t m, (∃ l ids, ResVs t m d.rs l ∧ decide (List.Nodup ids) = true ∧ R (tupV l) (pickM m ids)) → retK W0 S d.rs (retM W0 S R) t m := by
    rintro t m ⟨l, ids, h1, h2, h3⟩
    exact ⟨l, h1, fun w hw => ⟨_, _, rfl, h3, hw.pick (of_decide_eq_true h2)⟩⟩
  intro hm c0 hok Q a w ha hw hc
  exact h hm c0 hok Q a w ha hw ⟨fun t m hk => hc.n t m (hsub t m hk), fun id k hk => by simp [lookK] at hk, fun t m hk => hc.r t m (hsub t m hk)⟩

theorem retM.below {W0 : World} {R : Value → List Chunk → Prop} {e : Ending} {w : World} (h : retM W0 [] R e w) : ∃ v m, e = .returned v ∧ R v m ∧ Below W0.heap.size W0 w := by
  obtain ⟨v, m, h1, h2, h3⟩ := h
  exact ⟨v, m, h1, h2, h3.fr.below⟩

theorem sat_own {W0 : World} {S : List Nat} {m : List Chunk} {w : World} (h : Sat W0 S m w) {mS mr : List Chunk} (hp : List.Perm (mS ++ mr) m) : Sat w (mS.map (·.b)) mS w := by
  have h' := h.perm hp
  refine ⟨⟨rfl, rfl, rfl, Nat.le_refl _, fun _ _ _ => rfl⟩, fun c hc => h'.own c (List.mem_append_left _ hc), fun c hc => .inr (List.mem_map.2 ⟨c, hc, rfl⟩), ?_⟩
  have := h'.dist
  rw [List.map_append, List.nodup_append] at this
  exact this.1

theorem sat_behind {W0 : World} {S : List Nat} {m : List Chunk} {w w' : World} (h : Sat W0 S m w) {mS mr m' : List Chunk} (hp : List.Perm (mS ++ mr) m) (h' : Sat w (mS.map (·.b)) m' w') : Sat W0 S (m' ++ mr) w' := by
  have hh := h.perm hp
  have hd := hh.dist
  rw [List.map_append, List.nodup_append] at hd
  have hbase : ∀ c ∈ mS, W0.heap.size ≤ c.b ∨ c.b ∈ S := fun c hc => hh.base c (List.mem_append_left _ hc)
  have hr : ∀ c ∈ mr, c.b < w.heap.size ∧ c.b ∉ mS.map (·.b) := fun c hc => ⟨hh.lt (List.mem_append_right _ hc), fun hm => hd.2.2 _ hm _ (List.mem_map.2 ⟨c, hc, rfl⟩) rfl⟩
  refine ⟨⟨h'.fr.os.trans h.fr.os, h'.fr.tape.trans h.fr.tape, h'.fr.output.trans h.fr.output, Nat.le_trans h.fr.size h'.fr.size, fun k hk hS => ?_⟩, ?_, ?_, ?_⟩
  · rw [h'.fr.block k (Nat.lt_of_lt_of_le hk h.fr.size) ?_]
    · exact h.fr.block k hk hS
    · intro hm
      obtain ⟨c, hc, rfl⟩ := List.mem_map.1 hm
      rcases hbase c hc with h1 | h1
      · omega
      · exact hS h1
  · intro c hc
    rcases List.mem_append.1 hc with hc | hc
    · exact h'.own c hc
    · rw [h'.fr.block c.b (hr c hc).1 (hr c hc).2]
      exact hh.own c (List.mem_append_right _ hc)
  · intro c hc
    rcases List.mem_append.1 hc with hc | hc
    · rcases h'.base c hc with h1 | h1
      · exact .inl (Nat.le_trans h.fr.size h1)
      · obtain ⟨c', hc', e⟩ := List.mem_map.1 h1
        rw [← e]; exact hbase c' hc'
    · exact hh.base c (List.mem_append_right _ hc)
  · rw [List.map_append, List.nodup_append]
    refine ⟨h'.dist, hd.2.1, ?_⟩
    intro a ha b hb e
    subst e
    obtain ⟨c, hc, rfl⟩ := List.mem_map.1 ha
    obtain ⟨c2, hc2, e2⟩ := List.mem_map.1 hb
    have := hr c2 hc2
    rw [e2] at this
    rcases h'.base c hc with h1 | h1
    · omega
    · exact this.2 h1

section
variable {C : Cfg} {m : List Chunk} {t : TS} {K : KN}

/-- Memory of one's own, handed to a function that reads it. -/
theorem mem_own {W0 : World} {S : List Nat} {w : World} {b : Nat} {T : TypeId} {s : List Seg} (hw : Sat W0 S m w) (hb : Has b (.cells (cells s).toArray T (0, 0)) m) : Mem w b 0 s := by
  have hown := hw.own _ hb.mem
  refine ⟨fun i hi => ?_, (Array.getElem?_eq_some_iff.1 hown).1⟩
  rw [Nat.zero_add, cells_load hown]
theorem mem_part {w : World} {b o n off : Nat} {s p : List Seg} (h : Mem w b o s) (hp : sub s off n = some p) : Mem w b (o + off) p := by
  obtain ⟨e1, e2, e3⟩ := sub_cells hp
  refine ⟨fun i hi => ?_, h.lt⟩
  rw [e2] at hi
  rw [Nat.add_assoc, h.cell _ (by rcases e3 with e3 | e3 <;> omega), e1, List.getElem?_take_of_lt hi, List.getElem?_drop]
/-- Memory of the begin that is there still. -/
theorem mem_still {w : World} {b o : Nat} {s : List Seg} (h : Mem C.W0 b o s) (hS : b ∉ C.S) (hw : Sat C.W0 C.S m w) : Mem w b o s :=
  ⟨fun i hi => h.now hS hw hi, Nat.lt_of_lt_of_le h.lt hw.fr.size⟩

/-- A call of a function that is handed the blocks 'mS' to write, and may hand out new ones. -/
theorem ef_callM {d : Option Nat} {f : FuncId} {args : List Operand} {vs : List Value} {mS mr : List Chunk} {R : Value → List Chunk → Prop} (ha : evL t args = some vs) (hp : List.Perm (mS ++ mr) m)
    (hc : ∀ w, Sat C.W0 C.S m w → Calls C.P f vs.toArray w (retM w (mS.map (·.b)) R))
    (h : ∀ v m', R v m' → K (putT d v t) (m' ++ mr)) : EF C m t d (.call f args) K := by
  intro o ho hd a hat w hw
  unfold Oper.wp
  rw [run_call ho, hat.evL ha]
  simp only [Oper.upon]
  refine (hc w hw).mono ?_
  rintro e w' ⟨v, m', rfl, hR, hs⟩
  have hsat := sat_behind hw hp hs
  cases d with
  | none =>
    have hd0 : o.dst = none := by revert hd; cases o.dst <;> simp [okD]
    rw [hd0]
    exact ⟨_, _, h v m' hR, hat, hsat⟩
  | some d =>
    obtain ⟨hd1, hd2⟩ := okD_some hd
    rw [hd1]
    exact ⟨_, _, h v m' hR, hat.put hd2 v, hsat⟩
/-- A call of a function that hands out new memory. -/
theorem ef_callF {d : Option Nat} {f : FuncId} {args : List Operand} {vs : List Value} {R : Value → List Chunk → Prop} (ha : evL t args = some vs)
    (hc : ∀ w, Sat C.W0 C.S m w → Calls C.P f vs.toArray w (retM w [] R))
    (h : ∀ v m', R v m' → K (putT d v t) (m' ++ m)) : EF C m t d (.call f args) K :=
  ef_callM (mS := []) ha (List.Perm.refl _) hc h
/-- A call without a result that is kept, of a function that only answers. -/
theorem ef_call0 {f : FuncId} {args : List Operand} {vs : List Value} {v : Value} (ha : evL t args = some vs) (hc : ∀ w, Sat C.W0 C.S m w → Calls C.P f vs.toArray w (ret1 w v)) (h : K t m) : EF C m t none (.call f args) K := by
  intro o ho hd a hat w hw
  unfold Oper.wp
  rw [run_call ho, hat.evL ha]
  simp only [Oper.upon]
  refine (hc w hw).mono ?_
  rintro e w' ⟨rfl, hb⟩
  have hd0 : o.dst = none := by revert hd; cases o.dst <;> simp [okD]
  rw [hd0]
  exact ⟨_, _, h, hat, hw.of_below hb⟩
end
end Go.Sx
