/- The engine, part 3: statements that draw their order, by a schedule; the whole function. -/
import Derived.Test.YtiflckckekjbnaaDoorE2
namespace Go.Sx
open Go Go.RowKit
set_option linter.all false

theorem Sat.sub {W0 : World} {S : List Nat} {m m0 : List Chunk} {w w' : World} (h : Sat W0 S m w') (h0 : Sat W0 S m0 w) (hs : ∀ c ∈ m0, c ∈ m) : Sat W0 S m0 w' :=
  ⟨h.fr, fun c hc => h.own c (hs c hc), h0.base, h0.dist⟩

/-- The states that are told of. -/
def St (C : Cfg) (t : TS) (m0 m : List Chunk) (b : Bool) : Act → World → Prop := fun a w => SatT C.n t a ∧ Sat C.W0 C.S m w ∧ (b = true → Sat C.W0 C.S m0 w)

theorem St.gc {C : Cfg} {t : TS} {m0 m : List Chunk} {b : Bool} : GC (St C t m0 m b) := fun a w w' ⟨h1, h2, h3⟩ hb => ⟨h1, h2.of_below hb, fun e => (h3 e).of_below hb⟩

def Fin (C : Cfg) (kn : KN) : Act → World → Prop := fun a w => ∃ t m, kn t m ∧ SatT C.n t a ∧ Sat C.W0 C.S m w

def WS (C : Cfg) (s : Sch) (late : List Nat) (t : TS) (m0 m : List Chunk) (b : Bool) (kn : KN) : Prop :=
  ∀ (ops : Array Oper) (listed : Array Bool), schedOk C.P C.n ops late s listed = true → slenOk s = true → Region.noSelect ops = true → Closed ops listed →
    AnyS C.P ops (lateB late) (Sat C.W0 C.S m0) (Sat C.W0 C.S []) (Fin C kn) (slen s) listed (St C t m0 m b)

section
variable {C : Cfg} {t : TS} {m0 m : List Chunk} {b : Bool} {kn : KN} {late : List Nat} {r : Sch}

theorem ws_nil (h : kn t m) : WS C .nil late t m0 m b kn := by
  intro ops listed hok hlen hsel hcl
  simp only [schedOk, List.isEmpty_iff] at hok
  exact ⟨hok, fun a w ⟨h1, h2, _⟩ => ⟨t, m, h, h1, h2⟩⟩

theorem AnyS.take {P : Program} {ops : Array Oper} {late lt : List Nat} {D D0 E : World → Prop} {kn : Act → World → Prop} (pu : Bool) (hD : ∀ w w', E w → Below w.heap.size w w' → E w')
    (hB : ∀ w w', D w → Below w.heap.size w w' → D w') (hB0 : ∀ w w', D0 w → Below w.heap.size w w' → D0 w') (hE : E = bif pu then D0 else D) (hlt : pu = false → lt = late) (hsel : Region.noSelect ops = true) {f : Nat} {K : Act → Prop} :
    ∀ (idx : List Nat) (lo : List Oper) (listed listed' : Array Bool) (A : Act → Prop) (W : World → Prop), ops? ops idx = some lo → takeOk ops lt idx listed = some listed' → Closed ops listed → QRun P ops E lo A K →
      (∀ w w', W w → Below w.heap.size w w' → W w') → (∀ w, W w → E w) →
      (Closed ops listed' → AnyS P ops (lateB late) D D0 kn f listed' (fun a w => K a ∧ W w)) → AnyS P ops (lateB late) D D0 kn (idx.length + f) listed (fun a w => A a ∧ W w)
  | [], lo, listed, listed', A, W, hlo, htk, hcl, hq, hW, hWD, H => by
    simp only [takeOk, Option.some.injEq] at htk; subst htk
    simp only [ops?, Option.some.injEq] at hlo; subst hlo
    simp only [List.length_nil, Nat.zero_add]
    exact AnyS.sub (fun a w ⟨h1, h2⟩ => ⟨hq a h1, h2⟩) (H hcl)
  | i :: idx, lo, listed, listed', A, W, hlo, htk, hcl, hq, hW, hWD, H => by
    simp only [ops?] at hlo
    split at hlo
    · rename_i o l ho hl
      injection hlo with hlo; subst hlo
      simp only [takeOk] at htk
      by_cases hb : ((Region.ready .any ops listed).contains i && Region.free .any ops listed i && lt.all (fun j => Nat.beq j i || listed.getD j true || anc ops i ops.size j)) = true
      · rw [hb, cond_true] at htk
        simp only [Bool.and_eq_true] at hb
        obtain ⟨⟨hr, hf⟩, hlate⟩ := hb
        obtain ⟨v, hy, hq2⟩ := hq
        have hr' : i ∈ Region.ready .any ops listed := by simpa using hr
        rw [List.length_cons, show idx.length + 1 + f = (idx.length + f) + 1 by omega]
        refine AnyS.first pu hD hB hB0 hE ho (Region.noSelect_spec hsel) (idx.length + f) listed _ hcl (Region.free_spec ho hf) ?_ hr' ?_ (fun a w h => ⟨hWD w h.2, hy a h.1⟩) ?_
        · intro hpu j hji hun hl'
          have hjl : j ∈ lt := by rw [hlt hpu]; simpa [lateB] using hl'
          have := List.all_eq_true.1 hlate j hjl
          simp only [Bool.or_eq_true, Nat.beq_eq] at this
          rcases this with (h1 | h1) | h1
          · exact absurd h1 hji
          · rw [hun] at h1; cases h1
          · exact ⟨_, h1⟩
        · intro a w w' h hb; exact ⟨h.1, hW _ _ h.2 hb⟩
        · refine AnyS.sub ?_ (AnyS.take pu hD hB hB0 hE hlt hsel idx l (listed.setIfInBounds i true) listed' (fun a' => ∃ a, A a ∧ a' = a.put o.dst v) W hl htk (hcl.set hr') hq2 hW hWD H)
          rintro a' w ⟨a, rfl, h1, h2⟩
          exact ⟨⟨a, h1, rfl⟩, h2⟩
      · rw [Bool.not_eq_true] at hb; rw [hb, cond_false] at htk; cases htk
    · cases hlo

/-- Quiet operations taken first. -/
theorem ws_q {idx : List Nat} {j : J} {pre : TS} (h1 : QJ C m0 t [j] [] pre) (h : WS C r late (pre ++ t) m0 m true kn) : WS C (.q idx j r) late t m0 m true kn := by
  intro ops listed hok hlen hsel hcl
  simp only [schedOk, Bool.and_eq_true] at hok
  obtain ⟨ho, ht⟩ := hok
  split at ho
  · rename_i lo hlo
    split at ht
    · rename_i listed' htk
      have hq : QRun C.P ops (Sat C.W0 C.S m0) lo (SatT C.n ([] ++ t)) (SatT C.n (pre ++ t)) := by
        have := h1 ops lo (by rw [J.flatL, J.flatL, List.append_nil]; exact ho)
        exact this
      rw [slen]
      refine AnyS.sub ?_ (AnyS.take (late := late) (lt := late) (kn := Fin C kn) false (fun w w' hw hb => hw.of_below hb) (fun w w' hw hb => hw.of_below hb) (fun w w' hw hb => hw.of_below hb) rfl (fun _ => rfl) hsel (f := slen r) (K := SatT C.n (pre ++ t)) idx lo listed listed' (SatT C.n ([] ++ t)) (fun w => Sat C.W0 C.S m w ∧ Sat C.W0 C.S m0 w) hlo htk hcl hq
        (fun w w' hw hb => ⟨hw.1.of_below hb, hw.2.of_below hb⟩) (fun w hw => hw.2) ?_)
      · rintro a w ⟨q1, q2, q3⟩; exact ⟨by simpa using q1, q2, q3 rfl⟩
      · intro hcl'
        refine AnyS.sub ?_ (h ops listed' ht hlen hsel hcl')
        rintro a w ⟨q1, q2, q3⟩; exact ⟨q1, q2, fun _ => q3⟩
    · cases ht
  · cases ho

theorem Sat.none {W0 : World} {S : List Nat} {m : List Chunk} {w : World} (h : Sat W0 S m w) : Sat W0 S [] w := ⟨h.fr, by simp, by simp, by simp⟩
/-- Quiet operations that look at no memory of one's own, taken first. -/
theorem ws_p {idx : List Nat} {j : J} {pre : TS} (h1 : QJ C [] t [j] [] pre) (h : WS C r late (pre ++ t) m0 m b kn) : WS C (.p idx j r) late t m0 m b kn := by
  intro ops listed hok hlen hsel hcl
  simp only [schedOk, Bool.and_eq_true] at hok
  obtain ⟨ho, ht⟩ := hok
  split at ho
  · rename_i lo hlo
    split at ht
    · rename_i listed' htk
      have hq : QRun C.P ops (Sat C.W0 C.S []) lo (SatT C.n ([] ++ t)) (SatT C.n (pre ++ t)) := by
        have := h1 ops lo (by rw [J.flatL, J.flatL, List.append_nil]; exact ho)
        exact this
      rw [slen]
      refine AnyS.sub ?_ (AnyS.take (late := late) (lt := []) (kn := Fin C kn) true (fun w w' hw hb => hw.of_below hb) (fun w w' hw hb => hw.of_below hb) (fun w w' hw hb => hw.of_below hb) rfl (fun h => by cases h) hsel (f := slen r) (K := SatT C.n (pre ++ t)) idx lo listed listed' (SatT C.n ([] ++ t)) (fun w => Sat C.W0 C.S m w ∧ (b = true → Sat C.W0 C.S m0 w)) hlo htk hcl hq
        (fun w w' hw hb => ⟨hw.1.of_below hb, fun e => (hw.2 e).of_below hb⟩) (fun w hw => hw.1.none) ?_)
      · rintro a w ⟨q1, q2, q3⟩; exact ⟨by simpa using q1, q2, q3⟩
      · intro hcl'
        refine AnyS.sub ?_ (h ops listed' ht hlen hsel hcl')
        rintro a w ⟨q1, q2, q3⟩; exact ⟨q1, q2, q3⟩
    · cases ht
  · cases ho

/-- An operation with an effect, when nothing else can come up. Where it is no late one, what the quiet operations read stays. -/
theorem ws_e {i : Nat} {d : Option Nat} {op : IOp} (b' : Bool) (hb : b' = true → b = true ∧ True)
    (h : EF C m t d op (fun t' m' => (lateB late i = false → ∀ c ∈ m0, c ∈ m') ∧ (b' = true → ∀ c ∈ m0, c ∈ m') ∧ WS C r late t' m0 m' b' kn)) (hbt : b = true) : WS C (.e i ⟨d, none, op⟩ r) late t m0 m b kn := by
  subst hbt
  intro ops listed hok hlen hsel hcl
  simp only [schedOk, Bool.and_eq_true] at hok
  obtain ⟨⟨ho, hr⟩, hrest⟩ := hok
  split at ho
  · rename_i o hoi
    simp only [okL, Bool.and_eq_true, Bool.and_true] at ho
    obtain ⟨⟨hd, hg⟩, hop⟩ := ho
    split at hr
    · rename_i k hk
      rw [Nat.beq_eq] at hr; subst hr
      rw [slen]
      refine ⟨fun h0 => (by rw [h0] at hk; cases hk), fun j hj a w hΦ => ?_⟩
      rw [hk] at hj
      obtain rfl : j = k := by simpa using hj
      obtain ⟨q1, q2, q3⟩ := hΦ
      unfold stp
      simp only [hoi]
      rw [if_pos (wanted_none (okGuard_none hg))]
      refine Oper.wp_mono ?_ (h o hop hd a q1 w q2)
      rintro a' w' ⟨t', m', ⟨hk1, hk2, hk3⟩, ha', hw'⟩
      refine ⟨St C t' m0 m' b', St.gc, ⟨ha', hw', fun e => hw'.sub (q3 rfl) (hk2 e)⟩, fun hl hD => hw'.sub hD (hk1 hl), fun _ => hw'.none, ?_⟩
      exact hk3 ops _ hrest hlen hsel (hcl.set (by rw [hk]; simp))
    · cases hr
  · cases ho
/-- The same where what the quiet operations read is gone. -/
theorem ws_e' {i : Nat} {d : Option Nat} {op : IOp}
    (h : EF C m t d op (fun t' m' => lateB late i = true ∧ WS C r late t' m0 m' false kn)) : WS C (.e i ⟨d, none, op⟩ r) late t m0 m false kn := by
  intro ops listed hok hlen hsel hcl
  simp only [schedOk, Bool.and_eq_true] at hok
  obtain ⟨⟨ho, hr⟩, hrest⟩ := hok
  split at ho
  · rename_i o hoi
    simp only [okL, Bool.and_eq_true, Bool.and_true] at ho
    obtain ⟨⟨hd, hg⟩, hop⟩ := ho
    split at hr
    · rename_i k hk
      rw [Nat.beq_eq] at hr; subst hr
      rw [slen]
      refine ⟨fun h0 => (by rw [h0] at hk; cases hk), fun j hj a w hΦ => ?_⟩
      rw [hk] at hj
      obtain rfl : j = k := by simpa using hj
      obtain ⟨q1, q2, q3⟩ := hΦ
      unfold stp
      simp only [hoi]
      rw [if_pos (wanted_none (okGuard_none hg))]
      refine Oper.wp_mono ?_ (h o hop hd a q1 w q2)
      rintro a' w' ⟨t', m', ⟨hk1, hk3⟩, ha', hw'⟩
      refine ⟨St C t' m0 m' false, St.gc, ⟨ha', hw', fun e => by cases e⟩, fun hl hD => ?_, fun _ => hw'.none, ?_⟩
      · rw [hk1] at hl; cases hl
      · exact hk3 ops _ hrest hlen hsel (hcl.set (by rw [hk]; simp))
    · cases hr
  · cases ho
/-- Two operations with effects, when just these two can come up: each may be the first. -/
theorem ws_two {i i' : Nat} {d d' : Option Nat} {op op' : IOp} {r' : Sch}
    (h : EF C m t d op (fun t' m' => (∀ c ∈ m0, c ∈ m') ∧ WS C r late t' m0 m' true kn))
    (h' : EF C m t d' op' (fun t' m' => (∀ c ∈ m0, c ∈ m') ∧ WS C r' late t' m0 m' true kn)) : WS C (.two i ⟨d, none, op⟩ r i' ⟨d', none, op'⟩ r') late t m0 m true kn := by
  intro ops listed hok hlen hsel hcl
  simp only [schedOk, Bool.and_eq_true] at hok
  obtain ⟨⟨⟨ho, hr⟩, hrest⟩, hrest'⟩ := hok
  simp only [slenOk, Bool.and_eq_true, Nat.beq_eq] at hlen
  obtain ⟨⟨hl1, hl2⟩, hl3⟩ := hlen
  split at ho
  · rename_i o o' hoi hoi'
    simp only [okL, Bool.and_eq_true, Bool.and_true] at ho
    obtain ⟨⟨⟨hd, hg⟩, hop⟩, ⟨hd', hg'⟩, hop'⟩ := ho
    split at hr
    · rename_i k k' hk
      simp only [Bool.and_eq_true, Nat.beq_eq] at hr
      obtain ⟨rfl, rfl⟩ := hr
      rw [slen]
      refine ⟨fun h0 => (by rw [h0] at hk; cases hk), fun j hj a w hΦ => ?_⟩
      have hjr := hj
      rw [hk] at hj
      obtain ⟨q1, q2, q3⟩ := hΦ
      simp only [List.mem_cons, List.not_mem_nil, or_false] at hj
      rcases hj with rfl | rfl
      · unfold stp
        simp only [hoi]
        rw [if_pos (wanted_none (okGuard_none hg))]
        refine Oper.wp_mono ?_ (h o hop hd a q1 w q2)
        rintro a' w' ⟨t', m', ⟨hk2, hk3⟩, ha', hw'⟩
        exact ⟨St C t' m0 m' true, St.gc, ⟨ha', hw', fun e => hw'.sub (q3 rfl) hk2⟩, fun hl hD => hw'.sub hD hk2, fun _ => hw'.none, hk3 ops _ hrest hl2 hsel (hcl.set hjr)⟩
      · unfold stp
        simp only [hoi']
        rw [if_pos (wanted_none (okGuard_none hg')), hl1]
        refine Oper.wp_mono ?_ (h' o' hop' hd' a q1 w q2)
        rintro a' w' ⟨t', m', ⟨hk2, hk3⟩, ha', hw'⟩
        exact ⟨St C t' m0 m' true, St.gc, ⟨ha', hw', fun e => hw'.sub (q3 rfl) hk2⟩, fun hl hD => hw'.sub hD hk2, fun _ => hw'.none, hk3 ops _ hrest' hl3 hsel (hcl.set hjr)⟩
    · cases hr
  · cases ho
/-- A quiet operation is one that has no effect. -/
theorem ef_q {d : Nat} {op : IOp} {K : KN} (v : Value) (h1 : Q1 C m t op v) (h : K ((d, v) :: t) m) : EF C m t (some d) op K := by
  intro o ho hd a ha w hw
  obtain ⟨hd1, hd2⟩ := okD_some hd
  exact wp_of_quietAt (h1 o ho a ha w hw) (Below.refl _ _) (fun w' hb => ⟨_, m, h, hd1 ▸ ha.put hd2 v, hw.of_below hb⟩)
end

theorem wc_draw {C : Cfg} {t : TS} {m : List Chunk} {kn : KN} {ke : KE} {s : Sch} {late : List Nat} (h : WS C s late t m m true kn) : WC C (.draw s late) t m kn ke := by
  intro hm c0 hok Q a w ha hw hc
  cases c0 <;> first | (simp [okC] at hok; done) | skip
  rename_i id ops draw
  simp only [okC, Bool.and_eq_true, Nat.beq_eq] at hok
  obtain ⟨⟨⟨⟨h1, h2⟩, h3⟩, h5⟩, h4⟩ := hok
  subst h1
  refine wp_region_any hm ?_
  have hcl : Closed ops (Array.replicate ops.size false) := by
    intro j oj hj hl
    rw [Array.getD_eq_getD_getElem?, Array.getElem?_replicate] at hl
    split at hl <;> cases hl
  have H := h ops _ h4 h5 h2 hcl
  rw [h3] at H
  exact wpAny_of_AnyS (fun a' w' ⟨t', m', hk, ha', hw'⟩ => hc.n t' m' hk a' w' ha' hw') _ _ _ H a _ ⟨ha, hw.drew, fun _ => hw.drew⟩

/-! ## The whole function -/

structure FnD where
  n : Nat
  rs : List RV
  c : IC

/-- Is this the short form of function f? -/
def okF (P : Program) (f : FuncId) (d : FnD) : Bool :=
  match P.funcs[f]? with
  | some fn => decide (fn.ntmps = d.n) && okR P fn.results.toList d.rs && (match fn.body with
    | some c => okC P d.n c d.c
    | none => false)
  | none => false

def argsT : Nat → List Value → TS
  | _, [] => []
  | i, v :: r => (i, v) :: argsT (i + 1) r

theorem look_argsT : ∀ (l : List Value) (i j : Nat) (v : Value), look (argsT i l) j = some v → i ≤ j ∧ l[j - i]? = some v
  | [], _, _, _, h => by simp [argsT, look] at h
  | u :: r, i, j, v, h => by
    simp only [argsT, look] at h
    by_cases e : Nat.beq i j = true
    · rw [e, cond_true] at h
      rw [Nat.beq_eq] at e; subst e
      exact ⟨Nat.le_refl _, by simpa using h⟩
    · rw [Bool.not_eq_true] at e; rw [e, cond_false] at h
      obtain ⟨h1, h2⟩ := look_argsT r (i + 1) j v h
      refine ⟨by omega, ?_⟩
      rw [show j - i = (j - (i + 1)) + 1 by omega]; simpa using h2

theorem cells_load {w : World} {b : Nat} {T : TypeId} {l : List Value} (h : w.heap[b]? = some (.cells l.toArray T (0, 0))) (i : Nat) : w.cell? ⟨b, i, none⟩ = l[i]? := by
  simp [World.cell?, h]

theorem run_loadCells {P : Program} {w : World} {b : Nat} : ∀ (n : Nat) (o i : Nat) (acc : Array Value) (l : List Value), l.length = n → (∀ k, k < n → w.cell? ⟨b, o + (i + k), none⟩ = l[k]?) →
    (loadCellsFrom ⟨b, o, none⟩ i n acc).run P w = .ok (acc ++ l.toArray) w
  | 0, o, i, acc, l, hl, h => by
    have : l = [] := List.eq_nil_of_length_eq_zero hl
    subst this
    simp [loadCellsFrom]
  | n + 1, o, i, acc, l, hl, h => by
    cases l with
    | nil => simp at hl
    | cons v l =>
      have h0 := h 0 (by omega)
      simp only [Nat.add_zero, List.getElem?_cons_zero] at h0
      simp only [loadCellsFrom, Sem.run_bind, Addr.add_lit, run_load, h0, Result.andThen_ok]
      rw [run_loadCells n o (i + 1) (acc.push v) l (by simpa using hl) (fun k hk => by
        have := h (k + 1) (by omega)
        rw [show i + 1 + k = i + (k + 1) by omega]; simpa using this)]
      simp

theorem run_loadVar {P : Program} {w : World} {T : TypeId} {b o n : Nat} {ag : Bool} (hs : szOf P T = some n) (ha : aggOf P T = some ag) {l : List Value} (hl : l.length = n)
    (h : ∀ k, k < n → w.cell? ⟨b, o + k, none⟩ = l[k]?) (h1 : ag = false → n = 1) : (loadVar T ⟨b, o, none⟩).run P w = .ok (if ag then .agg l.toArray else l.getD 0 undef) w := by
  unfold szOf at hs
  unfold aggOf at ha
  cases hi : P.info? T with
  | none => rw [hi] at hs; cases hs
  | some inf =>
    rw [hi] at hs
    simp only [Option.map_some, Option.some.injEq] at hs
    cases hu : P.underlying T with
    | none => rw [hu] at ha; cases ha
    | some dsc =>
      rw [hu] at ha
      simp only [Option.map_some, Option.some.injEq] at ha
      have hagg : (isAgg T).run P w = .ok ag w := by
        simp only [isAgg, underlying, program, Sem.run_bind, Sem.run, hu, Result.andThen_ok]
        subst ha
        cases dsc <;> rfl
      simp only [loadVar, Sem.run_bind, hagg, Result.andThen_ok]
      cases ag with
      | true =>
        simp only [if_true, Sem.run_bind, sizeOf, typeInfo, program, Sem.run, hi, Result.andThen_ok, Sem.run_pure, hs, loadCells, Sem.run_pure]
        rw [run_loadCells n o 0 #[] l hl (fun k hk => by rw [Nat.zero_add]; exact h k hk)]
        simp
      | false =>
        obtain rfl := h1 rfl
        cases l with
        | nil => simp at hl
        | cons v l =>
          have h0 := h 0 (by omega)
          simp only [Nat.add_zero, List.getElem?_cons_zero] at h0
          simp [run_load, h0]

def resOne (tmps : Array Value) : ResultVar → Sem Value
  | .tmp t => pure (tmps.getD t undef)
  | .cell a t => do loadVar t (← asAddr (tmps.getD a undef))

theorem resv_run {P : Program} {C : Cfg} {t : TS} {m : List Chunk} {a : Act} {w : World} (ha : SatT C.n t a) (hw : Sat C.W0 C.S m w) {x : ResultVar} {y : RV} {v : Value} (hv : ResV t m y v) (hok : okR P [x] [y] = true) :
    (resOne a.tmps x).run P w = .ok v w := by
  unfold resOne
  cases hv with
  | tmp h =>
    cases x with
    | tmp j' => simp only [okR, Bool.and_true, Nat.beq_eq] at hok; subst hok; simp [ha.look _ _ h]
    | cell c T => simp [okR] at hok
  | one h hb hc =>
    cases x with
    | tmp j' => simp [okR] at hok
    | cell c T =>
      simp only [okR, Bool.and_true, Bool.and_eq_true, Nat.beq_eq, beq_iff_eq] at hok
      obtain ⟨⟨h1, h2⟩, h3⟩ := hok
      subst h1
      simp only [Sem.run_bind, ha.look _ _ h, asAddr, Sem.run_pure, Result.andThen_ok]
      have hcell := cells_load (hw.own _ hb.mem)
      rw [cellAt_eq] at hc
      rw [run_loadVar h2 h3 (l := [v]) rfl (fun k hk => by
        obtain rfl : k = 0 := by omega
        rw [Nat.add_zero, hcell, hc]; rfl) (fun _ => rfl)]
      rfl
  | agg h hb hs =>
    cases x with
    | tmp j' => simp [okR] at hok
    | cell c T =>
      simp only [okR, Bool.and_true, Bool.and_eq_true, Nat.beq_eq, beq_iff_eq] at hok
      obtain ⟨⟨h1, h2⟩, h3⟩ := hok
      subst h1
      simp only [Sem.run_bind, ha.look _ _ h, asAddr, Sem.run_pure, Result.andThen_ok]
      have hcell := cells_load (hw.own _ hb.mem)
      obtain ⟨e1, e2, e3⟩ := sub_cells hs
      rw [run_loadVar h2 h3 (l := cells _) (by rw [cells_length]; exact e2) (fun k hk => by
        rw [Nat.zero_add, hcell, e1, List.drop_zero, List.getElem?_take_of_lt hk]) (fun h => by cases h)]
      rfl

theorem okR_cons {P : Program} {x : ResultVar} {y : RV} {xs : List ResultVar} {ys : List RV} (h : okR P (x :: xs) (y :: ys) = true) : okR P [x] [y] = true ∧ okR P xs ys = true := by
  cases x <;> cases y <;> simp_all [okR]

theorem resvs_run {P : Program} {C : Cfg} {t : TS} {m : List Chunk} {a : Act} {w : World} (ha : SatT C.n t a) (hw : Sat C.W0 C.S m w) : ∀ {ys : List RV} {vs : List Value} {xs : List ResultVar}, ResVs t m ys vs → okR P xs ys = true →
    (xs.mapM (resOne a.tmps)).run P w = .ok vs w
  | [], _, xs, h, hok => by
    cases h
    cases xs with
    | nil => simp
    | cons x xs => cases x <;> simp [okR] at hok
  | y :: ys, _, xs, h, hok => by
    cases h with
    | cons hv hr =>
      cases xs with
      | nil => simp [okR] at hok
      | cons x xs =>
        obtain ⟨h1, h2⟩ := okR_cons hok
        simp only [List.mapM_cons, Sem.run_bind]
        rw [resv_run ha hw hv h1]
        simp only [Result.andThen_ok, resvs_run ha hw hr h2, Sem.run_pure]

theorem tupV_eq (l : List Value) : (if h : l.toArray.size = 1 then l.toArray[0] else .tuple l.toArray) = tupV l := by
  match l with
  | [] => rfl
  | [v] => rfl
  | a :: b :: r => simp [tupV]

/-- A function's call, by its short form. -/
theorem calls_of {P : Program} {f : FuncId} {d : FnD} {args : List Value} {W0 : World} {S : List Nat} {m0 : List Chunk} {R : Ending → World → Prop}
    (hm : P.follows .mixedOrders = true) (hok : okF P f d = true) (hlen : Nat.ble args.length d.n = true) (h0 : Sat W0 S m0 W0)
    (h : WC ⟨P, d.n, W0, S⟩ d.c (argsT 0 args) m0 (retK W0 S d.rs R) ⟨[], retK W0 S d.rs R⟩) : Calls P f args.toArray W0 R := by
  unfold okF at hok
  split at hok
  · rename_i fn hf
    simp only [Bool.and_eq_true, decide_eq_true_eq] at hok
    obtain ⟨⟨h1, h2⟩, h3⟩ := hok
    split at h3
    · rename_i c hb
      have fin : ∀ t m, retK W0 S d.rs R t m → ∀ a w, SatT d.n t a → Sat W0 S m w → a.defers = [] ∧ ∃ v, (results fn a.tmps).run P w = .ok v w ∧ R (.returned v) w := by
        rintro t m ⟨l, hl, hR⟩ a w ha hw
        refine ⟨ha.defers, tupV l, ?_, hR w hw⟩
        have hrun := resvs_run (C := ⟨P, d.n, W0, S⟩) ha hw hl h2
        have hres : results fn a.tmps = (do let vs ← fn.results.mapM (resOne a.tmps); pure (if h : vs.size = 1 then vs[0] else .tuple vs)) := rfl
        rw [hres]
        simp only [Sem.run_bind]
        have hmap : (fn.results.mapM (resOne a.tmps)).run P w = .ok l.toArray w := by
          rw [← Array.toArray_toList (xs := fn.results), List.mapM_toArray]
          simp only [Sem.run_map, hrun, Result.andThen_ok]
        simp only [hmap, Result.andThen_ok, Sem.run_pure]
        rw [tupV_eq]
      refine calls_of_wp hf hb (h hm c h3 _ _ W0 ?_ h0 ⟨?_, ?_, ?_⟩)
      · have hlen' : args.length ≤ fn.ntmps := by rw [h1]; exact Nat.le_of_ble_eq_true hlen
        refine ⟨by simp [h1]; omega, rfl, ?_⟩
        intro j v hj
        obtain ⟨_, hj2⟩ := look_argsT args 0 j v hj
        rw [Nat.sub_zero] at hj2
        have hlt : j < args.length := (List.getElem?_eq_some_iff.1 hj2).1
        simp only [Array.getD_eq_getD_getElem?]
        rw [Array.getElem?_append_left (by simpa using hlt)]
        simp [hj2]
      · exact fun t m hk a w ha hw => fin t m hk a w ha hw
      · intro id k hk; simp [lookK] at hk
      · exact fun t m hk a w ha hw => fin t m hk a w ha hw
    · cases h3
  · cases hok

theorem sat0 (W0 : World) : Sat W0 [] [] W0 := ⟨⟨rfl, rfl, rfl, Nat.le_refl _, fun _ _ _ => rfl⟩, by simp, by simp, by simp⟩

/-- The function returns this value; what there was stays as it was. -/
def ret1 (W0 : World) (v : Value) : Ending → World → Prop := fun e w' => e = .returned v ∧ Below W0.heap.size W0 w'

theorem calls_val {P : Program} {f : FuncId} {d : FnD} {args : List Value} {W0 : World} {v : Value}
    (hm : P.follows .mixedOrders = true) (hok : okF P f d = true) (hlen : Nat.ble args.length d.n = true)
    (h : WC ⟨P, d.n, W0, []⟩ d.c (argsT 0 args) [] (fun t m => ∃ l, ResVs t m d.rs l ∧ tupV l = v) ⟨[], fun t m => ∃ l, ResVs t m d.rs l ∧ tupV l = v⟩) : Calls P f args.toArray W0 (ret1 W0 v) := by
  have key : ∀ (kn : KN), (fun t m => ∃ l, ResVs t m d.rs l ∧ tupV l = v) = kn → retK W0 [] d.rs (ret1 W0 v) = kn → True := fun _ _ _ => trivial
  refine calls_of hm hok hlen (sat0 W0) ?_
  have hsub : ∀ t m, (∃ l, ResVs t m d.rs l ∧ tupV l = v) → retK W0 [] d.rs (ret1 W0 v) t m := by
    rintro t m ⟨l, h1, rfl⟩
    exact ⟨l, h1, fun w hw => ⟨rfl, hw.fr.below⟩⟩
  intro hm c0 hok Q a w ha hw hc
  exact h hm c0 hok Q a w ha hw ⟨fun t m hk => hc.n t m (hsub t m hk), fun id k hk => by simp [lookK] at hk, fun t m hk => hc.r t m (hsub t m hk)⟩
end Go.Sx
