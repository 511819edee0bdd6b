/- The engine, part 16: mirrors: functions over plain data; the rules that tie them to the code. -/
import Derived.Test.YtiflckckekjbnaaDoorE15
namespace Go.Sx
open Go Go.RowKit
set_option linter.all false

/-! ## The words of a mirror -/
section
variable {α β : Type} {r : β} {G : Prop}
def bnd (x : α) (f : α → Option β) : Option β := f x
def chk (c : Bool) (o : Option β) : Option β := bif c then o else none
def opt (o : Option α) (f : α → Option β) : Option β := o.bind f
def jn {K : Type} (k : K) (g : K → Option β) : Option β := g k
def br (c : Bool) (a b : Option β) : Option β := bif c then a else b
/-- Rounds enough for whatever loop ends. -/
@[irreducible] def big : Nat := 18446744073709551616
theorem big_eq : big = 18446744073709551616 := by unfold big; rfl

theorem bnd_i {x : α} {f : α → Option β} (h : ∀ z, z = x → f z = some r → G) : bnd x f = some r → G := fun e => h x rfl e
theorem chk_i {c : Bool} {o : Option β} (h : c = true → o = some r → G) : chk c o = some r → G := by
  intro e; cases c
  · simp [chk] at e
  · exact h rfl e
theorem opt_i {o : Option α} {f : α → Option β} (h : ∀ y, o = some y → f y = some r → G) : opt o f = some r → G := by
  intro e; cases o with
  | none => simp [opt] at e
  | some y => exact h y rfl e
theorem jn_i {K : Type} {k : K} {g : K → Option β} (h : ∀ k', k' = k → g k' = some r → G) : jn k g = some r → G := fun e => h k rfl e
theorem br_t {c : Bool} {a b : Option β} (h : br c a b = some r) (hc : c = true) : a = some r := by subst hc; exact h
theorem br_f {c : Bool} {a b : Option β} (h : br c a b = some r) (hc : c = false) : b = some r := by subst hc; exact h
theorem ret_i {a : β} (h : a = r → G) : some a = some r → G := fun e => h (Option.some.inj e)
theorem none_i : (none : Option β) = some r → G := fun e => by cases e
end
def inB (z : Int) (n : Nat) : Bool := decide (0 ≤ z) && decide (z < n)
theorem inB_z {z : Int} {n : Nat} (h : inB z n = true) : 0 ≤ z ∧ z < n := by simpa [inB] using h
theorem inB_n {z : Int} {n : Nat} (h : inB z n = true) : z.toNat < n := by have := inB_z h; omega
def imp (a b : Bool) : Bool := !a || b
theorem imp_t {a b : Bool} (h : imp a b = true) (ha : a = true) : b = true := by subst ha; simpa [imp] using h
theorem imp_f {a b : Bool} (h : imp (!a) b = true) (ha : a = false) : b = true := by subst ha; simpa [imp] using h
theorem and_l {a b : Bool} (h : (a && b) = true) : a = true := by simp at h; exact h.1
theorem and_r {a b : Bool} (h : (a && b) = true) : b = true := by simp at h; exact h.2
/-- Bounds of a slicing. -/
def cutB (lo hi : Int) (n : Nat) : Bool := decide (0 ≤ lo) && decide (lo ≤ hi) && decide (hi ≤ n)
theorem cutB_z {lo hi : Int} {n : Nat} (h : cutB lo hi n = true) : 0 ≤ lo ∧ lo ≤ hi ∧ hi ≤ n := by simp [cutB] at h; omega
abbrev w64 (x : Int) : Int := IntKind.i64.wrap x
abbrev wu64 (x : Int) : Int := IntKind.u64.wrap x
abbrev shrV (k : IntKind) (p q : Int) : Int := p.fdiv (2 ^ min q.toNat k.bits)
abbrev shlV (k : IntKind) (p q : Int) : Int := k.wrap (p * 2 ^ min q.toNat k.bits)
abbrev quoV (k : IntKind) (p q : Int) : Int := k.wrap (p.tdiv q)
def setG {α : Type} (z : α) (xs : List α) (i : Nat) (v : α) : List α := if i < xs.length then xs.set i v else xs ++ (List.replicate (i - xs.length) z ++ [v])
theorem getD_setG {α : Type} (z : α) (xs : List α) (i j : Nat) (v : α) : (setG z xs i v).getD j z = if j = i then v else xs.getD j z := by
  unfold setG
  by_cases h : i < xs.length
  · rw [if_pos h]
    by_cases hj : j = i
    · subst hj; simp [List.getD, h]
    · simp [List.getD, List.getElem?_set, hj, Ne.symm hj]
  · rw [if_neg h]
    simp only [List.getD]
    by_cases hj : j < xs.length
    · rw [List.getElem?_append_left hj, if_neg (by omega)]
    · rw [List.getElem?_append_right (by omega)]
      by_cases hji : j = i
      · subst hji; rw [List.getElem?_append_right (by simp)]; simp
      · rw [if_neg hji, List.getElem?_eq_none (l := xs) (by omega)]
        by_cases hlt : j < i
        · rw [List.getElem?_append_left (by simp; omega), List.getElem?_replicate]; split <;> rfl
        · rw [List.getElem?_eq_none (by simp; omega)]
theorem setG_eq {α : Type} {z : α} {xs : List α} {i : Nat} {v : α} (h : i < xs.length) : setG z xs i v = xs.set i v := if_pos h

/-! ## Parts of the memory that are told by names -/

inductive Take (ms : List Chunk) : List Chunk → List Chunk → Prop
  | here {m : List Chunk} : Take ms (ms ++ m) m
  | there {c : Chunk} {m m' : List Chunk} : Take ms m m' → Take ms (c :: m) (c :: m')
  | app {ns m m' : List Chunk} : Take ms m m' → Take ms (ns ++ m) (ns ++ m')
inductive Take1 (c : Chunk) : List Chunk → List Chunk → Prop
  | here {m : List Chunk} : Take1 c (c :: m) m
  | there {c' : Chunk} {m m' : List Chunk} : Take1 c m m' → Take1 c (c' :: m) (c' :: m')
  | app {ns m m' : List Chunk} : Take1 c m m' → Take1 c (ns ++ m) (ns ++ m')
theorem perm_mid (ms ns m : List Chunk) : List.Perm (ms ++ (ns ++ m)) (ns ++ (ms ++ m)) := by
  rw [← List.append_assoc, ← List.append_assoc]
  exact List.Perm.append_right m List.perm_append_comm
theorem Take.perm {ms m m' : List Chunk} (h : Take ms m m') : List.Perm (ms ++ m') m := by
  induction h with
  | here => exact List.Perm.refl _
  | there _ ih => exact List.perm_middle.trans (ih.cons _)
  | app _ ih => exact (perm_mid _ _ _).trans (List.Perm.append_left _ ih)
theorem Take1.perm {c : Chunk} {m m' : List Chunk} (h : Take1 c m m') : List.Perm (c :: m') m := by
  induction h with
  | here => exact List.Perm.refl _
  | there _ ih => exact (List.Perm.swap _ _ _).trans (ih.cons _)
  | app _ ih => exact (List.perm_middle.symm).trans (List.Perm.append_left _ ih)
/-- M's parts are all among m's. -/
inductive PSub : List Chunk → List Chunk → Prop
  | nil {m : List Chunk} : PSub [] m
  | all {ms M m m1 : List Chunk} : Take ms m m1 → PSub M m1 → PSub (ms ++ M) m
  | one {c : Chunk} {M m m1 : List Chunk} : Take1 c m m1 → PSub M m1 → PSub (c :: M) m
  | no {M m : List Chunk} : PSub M m → PSub ([] ++ M) m
theorem PSub.rest {M m : List Chunk} (h : PSub M m) : ∃ r, List.Perm (M ++ r) m := by
  induction h with
  | nil => exact ⟨_, List.Perm.refl _⟩
  | all h1 _ ih =>
    obtain ⟨r, hr⟩ := ih
    exact ⟨r, by rw [List.append_assoc]; exact (List.Perm.append_left _ hr).trans h1.perm⟩
  | one h1 _ ih =>
    obtain ⟨r, hr⟩ := ih
    exact ⟨r, by rw [List.cons_append]; exact (hr.cons _).trans h1.perm⟩
  | no _ ih => exact ih
theorem Sat.psub {W0 : World} {S : List Nat} {M m : List Chunk} {w : World} (h : Sat W0 S m w) (hs : PSub M m) : Sat W0 S M w := by
  obtain ⟨r, hr⟩ := hs.rest
  exact (h.perm hr).sublist (List.sublist_append_left _ _)
theorem Sat.take {W0 : World} {S : List Nat} {ms m m' : List Chunk} {w : World} (h : Sat W0 S m w) (hs : Take ms m m') : Sat W0 S ms w :=
  (h.perm hs.perm).sublist (List.sublist_append_left _ _)

structure Fit (T : TS) (M : List Chunk) (t : TS) (m : List Chunk) : Prop where
  t : subT T t
  m : PSub M m

section
variable {C : Cfg} {t : TS} {m : List Chunk} {kn : KN} {ke : KE}
theorem wc_fit {c : IC} {T : TS} {M : List Chunk} (hl : Fit T M t m) (h : WC C c T M kn ke) : WC C c t m kn ke := by
  intro hm c0 hok Q a w ha hw hc
  exact h hm c0 hok Q a w (ha.drop (subT_look hl.t)) (hw.psub hl.m) hc
theorem wc_join {a b : IC} {G : TS → List Chunk → Prop} (h1 : WC C a t m G ke) (h2 : ∀ t m, G t m → WC C b t m kn ke) : WC C (.seq a b) t m kn ke :=
  wc_seq (h1.mono h2)
theorem wc_mono2 {a : IC} {G : TS → List Chunk → Prop} (h1 : WC C a t m G ke) (h2 : ∀ t m, G t m → kn t m) : WC C a t m kn ke := h1.mono h2
theorem wc_loopJ {c : IC} (J : Nat → TS → List Chunk → Prop) (n0 : Nat) (h0 : J n0 t m)
    (round : ∀ n t m, J n t m → WC C c t m (fun t' m' => ∃ n', n' < n ∧ J n' t' m') ke) : WC C (.loop c) t m kn ke := by
  intro hm c0 hok Q a w ha hw hc
  cases c0 <;> first | (simp [okC] at hok; done) | skip
  rename_i c1
  simp only [okC] at hok
  refine wp_loop_x (X := Nat × TS × List Chunk) (fun x a w => J x.1 x.2.1 x.2.2 ∧ SatT C.n x.2.1 a ∧ Sat C.W0 C.S x.2.2 w) (fun x => x.1) (x0 := (n0, t, m)) ⟨h0, ha, hw⟩ ?_
  rintro ⟨n, t1, m1⟩ a w ⟨hI, ha, hw⟩
  refine round n t1 m1 hI hm c1 hok _ a w ha hw ⟨?_, hc.b, hc.r⟩
  rintro t' m' ⟨n', hlt, hJ⟩ a' w' ha' hw'
  exact ⟨(n', t', m'), ⟨hJ, ha', hw'⟩, hlt⟩
end

/-! ## Elements of slices and arrays -/

structure El (α : Type) where
  w : Nat
  cell : α → List Value
  len : ∀ a, (cell a).length = w
  one : ∀ a, ∀ v ∈ cell a, one1 v = true
  pos : 0 < w
  z : α
abbrev El.int (k : IntKind) : El Int := ⟨1, fun x => [.int k x], fun _ => rfl, fun _ v h => by simp at h; subst h; rfl, by decide, 0⟩
abbrev El.bool : El Bool := ⟨1, fun x => [.bool x], fun _ => rfl, fun _ v h => by simp at h; subst h; rfl, by decide, false⟩
def rowE {α : Type} (E : El α) (xs : List α) : Nat → List Value := fun i => E.cell (xs.getD i E.z)
theorem ones_nil : ∀ v ∈ cells [], one1 v = true := fun v h => by cases h
theorem ones_cons {s : Seg} {r : List Seg} (h1 : ∀ v ∈ s.cells, one1 v = true) (h2 : ∀ v ∈ cells r, one1 v = true) : ∀ v ∈ cells (s :: r), one1 v = true := by
  intro v hv
  simp only [cells, List.mem_append] at hv
  exact hv.elim (h1 v) (h2 v)
theorem ones_one {u : Value} (h : one1 u = true) : ∀ v ∈ (Seg.one u).cells, one1 v = true := by
  intro v hv; simp only [Seg.cells, List.mem_singleton] at hv; subst hv; exact h
theorem ones_ints {k : IntKind} {n : Nat} {xs : List Int} : ∀ v ∈ (Seg.ints k n xs).cells, one1 v = true := by
  intro v hv; simp only [Seg.cells, intsCells, List.mem_map] at hv; obtain ⟨_, _, rfl⟩ := hv; rfl
theorem ones_rows {α : Type} {E : El α} {n : Nat} {xs : List α} : ∀ v ∈ (Seg.rows E.w n (rowE E xs)).cells, one1 v = true := by
  intro v hv
  exact one_rows (w := E.w) (n := n) (g := rowE E xs) (fun i _ => ⟨E.len _, E.one _⟩) v hv
theorem fit_cell {α : Type} {E : El α} (x : α) : fit E.w (E.cell x) = E.cell x := fit_same (E.len x)

/-- A slice's value reads as a list. -/
def RdSl {α : Type} (E : El α) (W : World) (v : Value) (xs : List α) : Prop :=
  (v = .slice none 0 0 ∧ xs = []) ∨ (∃ b o cp, v = .slice (some ⟨b, o, none⟩) xs.length cp ∧ xs.length ≤ cp ∧ ∀ i, i < xs.length → ∀ j, j < E.w → W.cell? ⟨b, o + (i * E.w + j), none⟩ = (E.cell (xs.getD i E.z))[j]?) ∨ ∃ a, v = .slice (some a) 0 0 ∧ xs = []
def SrcM {α : Type} (C : Cfg) (m : List Chunk) (E : El α) (v : Value) (xs : List α) : Prop := ∀ w, Sat C.W0 C.S m w → RdSl E w v xs
/-- A slice of one's own: its block is named. -/
def OwnSl {α : Type} (E : El α) (v : Value) (ms : List Chunk) (xs : List α) : Prop :=
  (v = .slice none 0 0 ∧ xs = [] ∧ ms = []) ∨ ∃ b o cp T cs, v = .slice (some ⟨b, o, none⟩) xs.length cp ∧ xs.length ≤ cp ∧ ms = [⟨b, .cells (cells cs).toArray T (0, 0)⟩] ∧ o + cp * E.w ≤ width cs ∧
    ∀ i, i < xs.length → ∀ j, j < E.w → (cells cs)[o + (i * E.w + j)]? = (E.cell (xs.getD i E.z))[j]?

theorem own_nil {α : Type} {E : El α} : OwnSl E (.slice none 0 0) [] [] := .inl ⟨rfl, rfl, rfl⟩
theorem rd_nil {α : Type} {E : El α} {W : World} : RdSl E W (.slice none 0 0) [] := .inl ⟨rfl, rfl⟩
theorem RdSl.own {α : Type} {E : El α} {v : Value} {ms : List Chunk} {xs : List α} (h : OwnSl E v ms xs) {W0 : World} {S : List Nat} {w : World} (hw : Sat W0 S ms w) : RdSl E w v xs := by
  rcases h with ⟨h1, h2, h3⟩ | ⟨b, o, cp, T, cs, h1, h2, h3, h4, h5⟩
  · exact .inl ⟨h1, h2⟩
  · refine .inr (.inl ⟨b, o, cp, h1, h2, fun i hi j hj => ?_⟩)
    subst h3
    rw [cells_load (hw.own _ List.mem_cons_self), h5 i hi j hj]
theorem RdSl.same {α : Type} {E : El α} {W w : World} {v : Value} {xs : List α} (h : RdSl E W v xs) (hb : ∀ b o x, (∀ a n c, v = .slice (some a) n c → a.block = b) → W.cell? ⟨b, o, none⟩ = some x → w.cell? ⟨b, o, none⟩ = some x) : RdSl E w v xs := by
  rcases h with h | ⟨b, o, cp, h1, h2, h3⟩ | h
  · exact .inl h
  rotate_left 1
  · exact .inr (.inr h)
  · refine .inr (.inl ⟨b, o, cp, h1, h2, fun i hi j hj => ?_⟩)
    have h4 := h3 i hi j hj
    have h5 : j < (E.cell (xs.getD i E.z)).length := by rw [E.len]; exact hj
    rw [List.getElem?_eq_getElem h5] at h4 ⊢
    exact hb b _ _ (fun a n c e => by rw [h1] at e; injection e with e; injection e with e; rw [← e]) h4
theorem cell_lt {W : World} {b o : Nat} {x : Value} (h : W.cell? ⟨b, o, none⟩ = some x) : b < W.heap.size := by
  rcases Nat.lt_or_ge b W.heap.size with h1 | h1
  · exact h1
  · have : W.heap[b]? = none := Array.getElem?_eq_none h1
    simp [World.cell?, this] at h
theorem RdSl.below {α : Type} {E : El α} {W w : World} {v : Value} {xs : List α} (h : RdSl E W v xs) (hb : Below W.heap.size W w) : RdSl E w v xs :=
  h.same fun b o x _ hx => by rw [hb.cell (p := ⟨b, o, none⟩) (cell_lt hx)]; exact hx

section
variable {α : Type} {C : Cfg} {m : List Chunk} {t : TS} {K : KN} {E : El α} {v : Value} {xs : List α}

/-- A slice's memory is none of these blocks. -/
def Apart (v : Value) (xs : List α) (S : List Nat) : Prop := ∀ a n c, v = .slice (some a) n c → 0 < xs.length → a.block ∉ S
theorem rd_arg (h : RdSl E C.W0 v xs) (hS : Apart v xs C.S) : SrcM C m E v xs := by
  intro w hw
  rcases h with h | ⟨b', o', cp, h1, h2, h3⟩ | h
  · exact .inl h
  rotate_left 1
  · exact .inr (.inr h)
  · by_cases h0 : 0 < xs.length
    · refine RdSl.same (.inr (.inl ⟨b', o', cp, h1, h2, h3⟩)) fun b o x hb hx => ?_
      have e := hb _ _ _ h1
      subst e
      rw [← hx]
      unfold World.cell?; simp only [hw.fr.block _ (cell_lt hx) (hS _ _ _ h1 h0)]
    · exact .inr (.inl ⟨b', o', cp, h1, h2, fun i hi => by omega⟩)
theorem apart0 : Apart v xs [] := fun _ _ _ _ _ => by simp
theorem apart_own {W0 w : World} {ms m1 : List Chunk} {b : Nat} {o : Obj} {T : List Nat} (hO : OwnSl E v ms xs) (hT : Take ms m m1) (hb : Has b o m1) (hw : Sat W0 T m w) : Apart v xs [b] := by
  rcases hO with ⟨h1, h2, h3⟩ | ⟨b1, o1, cp, T1, cs, h1, h2, h3, h4, h5⟩
  · intro a n c e h0; subst h2; simp at h0
  · intro a n c e h0
    subst h1
    injection e with e; injection e with e; subst e
    subst h3
    have hd := (hw.perm hT.perm).dist
    simp only [List.cons_append, List.nil_append, List.map_cons, List.nodup_cons] at hd
    intro hm
    simp only [List.mem_singleton] at hm
    exact hd.1 (hm ▸ List.mem_map.2 ⟨_, hb.mem, rfl⟩)
theorem apart_arg {W0 w : World} {b : Nat} {o : Obj} (h : RdSl E W0 v xs) (hb : Has b o m) (hw : Sat W0 [] m w) : Apart v xs [b] := by
  intro a n c e h0
  rcases h with ⟨h1, h2⟩ | ⟨b', o', cp, h1, h2, h3⟩ | ⟨_, _, h2⟩
  · subst h2; simp at h0
  rotate_left 1
  · subst h2; simp at h0
  · rw [h1] at e
    injection e with e; injection e with e; subst e
    intro hm
    simp only [List.mem_singleton] at hm
    have h4 := h3 0 h0 0 E.pos
    have h5 : 0 < (E.cell (xs.getD 0 E.z)).length := by rw [E.len]; exact E.pos
    rw [List.getElem?_eq_getElem h5] at h4
    have := cell_lt h4
    rcases hw.base _ hb.mem with h6 | h6
    · simp only at h6; omega
    · simp at h6
theorem apart_blk {W0 w : World} {b b' n c : Nat} {o : Obj} {c' : Chunk} {m1 : List Chunk} {T : List Nat} {a : Addr} (hT : Take1 c' m m1) (hb : Has b o m1) (hw : Sat W0 T m w) (ha : a.block = c'.b) : Apart (.slice (some a) n c) xs [b] := by
  intro a' n' c1 e h0
  injection e with e; injection e with e; subst e
  have hd := (hw.perm hT.perm).dist
  simp only [List.map_cons, List.nodup_cons] at hd
  intro hm
  simp only [List.mem_singleton] at hm
  exact hd.1 (List.mem_map.2 ⟨_, hb.mem, by rw [← ha, hm]⟩)
theorem apart_nil {S : List Nat} : Apart (.slice none 0 0) xs S := fun _ _ _ e => by cases e
theorem slAddr_block {b o l n w : Nat} : (slAddr b o l n w).block = b := by unfold slAddr; split <;> rfl
theorem rd_own {ms mr : List Chunk} (hO : OwnSl E v ms xs) (hT : Take ms m mr) : SrcM C m E v xs := fun _ hw => RdSl.own hO (hw.take hT)
theorem rd_ownm {ms : List Chunk} (hO : OwnSl E v ms xs) : SrcM C ms E v xs := fun _ hw => RdSl.own hO hw
theorem rd_in {ms mr : List Chunk} (h : SrcM C ms E v xs) (hT : Take ms m mr) : SrcM C m E v xs := fun w hw => h w (hw.take hT)
theorem rd_in0 (h : SrcM C [] E v xs) : SrcM C m E v xs := fun w hw => h w (hw.sublist (List.nil_sublist _))
theorem rd_own0 : SrcM C m E (.slice none 0 0) [] := fun _ _ => rd_nil

/-! ### Quiet rules -/
theorem iz {k : IntKind} {z e : Int} {op : IOp} (h : z = e) (q : Q1 C m t op (.int k e)) : Q1 C m t op (.int k z) := h ▸ q
theorem bz {z e : Bool} {op : IOp} (h : z = e) (q : Q1 C m t op (.bool e)) : Q1 C m t op (.bool z) := h ▸ q

def slBase : Value → Addr
  | .slice (some a) _ _ => a
  | _ => ⟨0, 0, none⟩
theorem q_lenM {x : Operand} (hx : ev t x = some v) (hs : SrcM C m E v xs) : Q1 C m t (.len x) (.int .i64 xs.length) := by
  intro o ho a ha w hw
  rcases hs w hw with ⟨h1, h2⟩ | ⟨b, o1, cp, h1, h2, h3⟩ | ⟨a3, h1, h2⟩
  · subst h1; subst h2; exact q_len hx o ho a ha w hw
  rotate_left 1
  · subst h1; subst h2; exact q_len hx o ho a ha w hw
  · subst h1; exact q_len hx o ho a ha w hw
theorem q_iasM {w : Nat} {x i : Operand} {k : IntKind} {z : Int} (hx : ev t x = some v) (hi : ev t i = some (.int k z)) (hs : SrcM C m E v xs) (hz : inB z xs.length = true) :
    Q1 C m t (.ias w x i) (.pointer (some ⟨(slBase v).block, (slBase v).off + z.toNat * w, none⟩)) := by
  intro o ho a ha wd hw
  have hz' := inB_z hz
  rcases hs wd hw with ⟨h1, h2⟩ | ⟨b, o1, cp, h1, h2, h3⟩ | ⟨_, _, h2⟩
  · subst h2; simp at hz'; omega
  rotate_left 1
  · subst h2; simp at hz'; omega
  · subst h1; exact q_ias hx hi hz' o ho a ha wd hw
theorem cells_at {W : World} {b o1 : Nat} {j c n : Nat} {s p : List Seg} (h3 : ∀ k, k < E.w → W.cell? ⟨b, o1 + (j * E.w + k), none⟩ = (E.cell (xs.getD j E.z))[k]?) (hc : E.cell (xs.getD j E.z) = cells s) (hp : sub s c n = some p) (k : Nat) (hk : k < n) :
    W.cell? ⟨b, o1 + j * E.w + c + k, none⟩ = (cells p)[k]? := by
  obtain ⟨e1, e2, e3⟩ := sub_cells hp
  have hw : width s = E.w := by rw [← cells_length, ← hc, E.len]
  have := h3 (c + k) (by rcases e3 with e3 | e3 <;> omega)
  rw [show o1 + j * E.w + c + k = o1 + (j * E.w + (c + k)) by omega, this, hc, e1, List.getElem?_take_of_lt hk, List.getElem?_drop]
theorem q_ldM {n : Nat} {x : Operand} {j c : Nat} {s p : List Seg} (hx : ev t x = some (.pointer (some ⟨(slBase v).block, (slBase v).off + j * E.w + c, none⟩))) (hs : SrcM C m E v xs) (hj : j < xs.length) (hc : E.cell (xs.getD j E.z) = cells s) (hp : sub s c n = some p) :
    Q1 C m t (.ld n true x) (agg p) := by
  intro o ho a ha w hw
  obtain ⟨e1, e2, e3⟩ := sub_cells hp
  rcases hs w hw with ⟨h1, h2⟩ | ⟨b, o1, cp, h1, h2, h3⟩ | ⟨_, _, h2⟩
  · subst h2; simp at hj
  rotate_left 1
  · subst h2; simp at hj
  · subst h1
    refine quiet_val ?_
    rw [run_load_at (l := cells p) ho (ha.ev hx) (by rw [cells_length]; exact e2) (fun k hk => cells_at (h3 j hj) hc hp k hk) (fun h => by cases h)]
    rfl
theorem q_ldM0 {n : Nat} {x : Operand} {j : Nat} {s p : List Seg} (hx : ev t x = some (.pointer (some ⟨(slBase v).block, (slBase v).off + j * E.w, none⟩))) (hs : SrcM C m E v xs) (hj : j < xs.length) (hc : E.cell (xs.getD j E.z) = cells s) (hp : sub s 0 n = some p) :
    Q1 C m t (.ld n true x) (agg p) := q_ldM (c := 0) hx hs hj hc hp
theorem cellAt_lt {s : List Seg} {c : Nat} {u : Value} (h : cellAt s c = some u) : c < width s := by
  rw [cellAt_eq] at h
  have := (List.getElem?_eq_some_iff.1 h).1
  rwa [cells_length] at this
theorem q_ldM1 {x : Operand} {j c : Nat} {s : List Seg} {u : Value} (hx : ev t x = some (.pointer (some ⟨(slBase v).block, (slBase v).off + j * E.w + c, none⟩))) (hs : SrcM C m E v xs) (hj : j < xs.length) (hc : E.cell (xs.getD j E.z) = cells s) (hp : cellAt s c = some u) :
    Q1 C m t (.ld 1 false x) u := by
  intro o ho a ha w hw
  rcases hs w hw with ⟨h1, h2⟩ | ⟨b, o1, cp, h1, h2, h3⟩ | ⟨_, _, h2⟩
  · subst h2; simp at hj
  rotate_left 1
  · subst h2; simp at hj
  · subst h1
    refine quiet_val ?_
    have hw : width s = E.w := by rw [← cells_length, ← hc, E.len]
    have hlt := cellAt_lt hp
    rw [run_load_at (l := [u]) ho (ha.ev hx) rfl (fun k hk => by
      obtain rfl : k = 0 := by omega
      have := h3 j hj c (by omega)
      simp only [slBase, Nat.add_zero, List.getElem?_cons_zero]
      rw [show o1 + j * E.w + c = o1 + (j * E.w + c) by omega, this, hc, ← cellAt_eq]
      exact hp) (fun _ => rfl)]
    rfl
theorem q_ldM10 {x : Operand} {j : Nat} {s : List Seg} {u : Value} (hx : ev t x = some (.pointer (some ⟨(slBase v).block, (slBase v).off + j * E.w, none⟩))) (hs : SrcM C m E v xs) (hj : j < xs.length) (hc : E.cell (xs.getD j E.z) = cells s) (hp : cellAt s 0 = some u) :
    Q1 C m t (.ld 1 false x) u := q_ldM1 (c := 0) hx hs hj hc hp
/-- A slice's first elements, as an array. -/
theorem q_s2aM {n : Nat} {x : Operand} (hx : ev t x = some v) (hs : SrcM C m E v xs) (h0 : 0 < n) (hn : decide (n ≤ xs.length) = true) : Q1 C m t (.s2a n x) (.pointer (some ⟨(slBase v).block, (slBase v).off, none⟩)) := by
  intro o ho a ha w hw
  have hn := of_decide_eq_true hn
  rcases hs w hw with ⟨h1, h2⟩ | ⟨b, o1, cp, h1, h2, h3⟩ | ⟨_, _, h2⟩
  · subst h2; simp at hn; omega
  rotate_left 1
  · subst h2; simp at hn; omega
  · subst h1; exact q_s2a hx hn o ho a ha w hw
theorem q_ldS {k : IntKind} {n : Nat} {x : Operand} {ys : List Int} (hx : ev t x = some (.pointer (some ⟨(slBase v).block, (slBase v).off, none⟩))) (hs : SrcM C m (El.int k) v ys) (h0 : 0 < n) (hn : decide (n ≤ ys.length) = true) :
    Q1 C m t (.ld n true x) (agg [.ints k n (tk ys 0 n)]) := by
  intro o ho a ha w hw
  have hn := of_decide_eq_true hn
  rcases hs w hw with ⟨h1, h2⟩ | ⟨b, o1, cp, h1, h2, h3⟩ | ⟨_, _, h2⟩
  · subst h2; simp at hn; omega
  rotate_left 1
  · subst h2; simp at hn; omega
  · subst h1
    refine quiet_val ?_
    rw [run_load_at (l := cells [.ints k n (tk ys 0 n)]) ho (ha.ev hx) (by rw [cells_length]; rfl) (fun i hi => ?_) (fun h => by cases h)]
    · rfl
    · have := h3 i (by omega) 0 (El.int k).pos
      simp only [slBase, cells, Seg.cells, List.append_nil]
      simp only [Nat.mul_one, Nat.add_zero] at this
      rw [this, intsCells_get hi, tk_getD, if_pos hi, Nat.zero_add]
      rfl
/-- A part of a slice. -/
def cutSl (w : Nat) (v : Value) (lo hi : Nat) : Value := match v with
  | .slice (some ⟨b, o, none⟩) _ cp => .slice (some (slAddr b o lo cp w)) (hi - lo) (cp - lo)
  | .slice (some a) n c => .slice (some a) n c
  | _ => .slice none 0 0
theorem cutSl_odd {w : Nat} {a : Addr} : cutSl w (.slice (some a) 0 0) 0 0 = .slice (some a) 0 0 := by
  obtain ⟨b, o, sp⟩ := a
  cases sp with
  | none => simp [cutSl, slAddr]
  | some k => rfl
theorem q_slsE {w : Nat} {x : Operand} {lo hi : Option Operand} {lz hz : Int} {a3 : Addr} (hx : ev t x = some (.slice (some a3) 0 0)) (hl : OptI t 0 lo lz) (hh : OptI t (0 : Nat) hi hz)
    (hb : lz = 0 ∧ hz = 0) : Q1 C m t (.sls w x lo hi none) (.slice (some a3) 0 0) := by
  obtain ⟨rfl, rfl⟩ := hb
  intro o ho a ha wd hw
  refine quiet_val ?_
  simp only [okOp] at ho
  split at ho
  · rename_i T x' lo' hi' mx' heq
    simp only [Bool.and_eq_true] at ho
    obtain ⟨⟨⟨⟨h1, h2⟩, h3⟩, h4⟩, h5⟩ := ho
    have e1 := oeq_sound h1; have e2 := oeqO_sound h2; have e3 := oeqO_sound h3; have e4 := oeqO_sound h4
    subst e1; subst e2; subst e3; subst e4
    split at h5
    · rename_i el hu
      simp only [execOp, heq, ha.ev hx]
      refine run_v ?_
      simp only [Instr.sliceAt, Instr.slice, Sem.run_bind, run_underlying hu, Result.andThen_ok, Sem.run_pure, run_sliceBounds (isS := true) (cap := 0) (mz := 0) ha hl hh .no (by simp) (by omega) (by omega) (by omega) (by omega), run_sizeOf h5]
      simp
    · cases h5
  · cases ho
theorem q_slsM {w : Nat} {x : Operand} {lo hi : Option Operand} {lz hz : Int} (hx : ev t x = some v) (hs : SrcM C m E v xs) (hl : OptI t 0 lo lz) (hh : OptI t xs.length hi hz) (hb : cutB lz hz xs.length = true) :
    Q1 C m t (.sls w x lo hi none) (cutSl w v lz.toNat hz.toNat) := by
  intro o ho a ha wd hw
  have hb := cutB_z hb
  rcases hs wd hw with ⟨h1, h2⟩ | ⟨b, o1, cp, h1, h2, h3⟩ | ⟨a3, h1, h2⟩
  · subst h1; subst h2
    simp only [List.length_nil] at hb
    exact q_sls0 (mz := 0) hx hl hh .no (by simp) (by omega) o ho a ha wd hw
  rotate_left 1
  · subst h1; subst h2
    simp only [List.length_nil] at hb
    have e1 : lz.toNat = 0 := by omega
    have e2 : hz.toNat = 0 := by omega
    rw [e1, e2, cutSl_odd]
    exact q_slsE hx hl hh (by omega) o ho a ha wd hw
  · subst h1
    have := q_sls (C := C) (m := m) (w := w) (mz := cp) hx hl hh .no (by simp) (by omega) o ho a ha wd hw
    simpa [cutSl] using this
theorem tkG_get {z : α} {ys : List α} {lo n i : Nat} (h : i < n) (hn : lo + n ≤ ys.length) : ((ys.drop lo).take n).getD i z = ys.getD (lo + i) z := by
  simp only [List.getD, List.getElem?_take_of_lt h, List.getElem?_drop]
theorem rd_cut {lz hz : Int} (hs : SrcM C m E v xs) (hb : cutB lz hz xs.length = true) : SrcM C m E (cutSl E.w v lz.toNat hz.toNat) ((xs.drop lz.toNat).take (hz.toNat - lz.toNat)) := by
  intro w hw
  have hb := cutB_z hb
  have hlen : ((xs.drop lz.toNat).take (hz.toNat - lz.toNat)).length = hz.toNat - lz.toNat := by rw [List.length_take, List.length_drop]; omega
  rcases hs w hw with ⟨h1, h2⟩ | ⟨b, o1, cp, h1, h2, h3⟩ | ⟨a3, h1, h2⟩
  · subst h1; subst h2
    simp only [List.length_nil] at hb
    exact .inl ⟨rfl, by simp⟩
  rotate_left 1
  · subst h1; subst h2
    simp only [List.length_nil] at hb
    have e1 : lz.toNat = 0 := by omega
    have e2 : hz.toNat = 0 := by omega
    rw [e1, e2, cutSl_odd]
    exact .inr (.inr ⟨a3, rfl, by simp⟩)
  · subst h1
    by_cases hc : cp = lz.toNat
    · refine .inr (.inl ⟨b, o1, cp - lz.toNat, ?_, by omega, fun i hi => ?_⟩)
      · simp only [cutSl, slAddr, hlen, hc, if_true]
      · omega
    · refine .inr (.inl ⟨b, o1 + lz.toNat * E.w, cp - lz.toNat, ?_, by omega, fun i hi j hj => ?_⟩)
      · simp only [cutSl, slAddr, hlen, hc, if_false]
      · rw [hlen] at hi
        rw [tkG_get hi (by omega), ← h3 (lz.toNat + i) (by omega) j hj]
        congr 2
        rw [Nat.add_mul]; omega
/-- A part of an array of one's own, as a slice. -/
theorem rd_blk_i {b T base N lo hi mz : Nat} {fz : Nat × Nat} {s : List Seg} {k : IntKind} {ys : List Int} (hb : Has b (.cells (cells s).toArray T fz) m) (hs : segAt s base = some (.ints k N ys)) (h : lo ≤ hi ∧ hi ≤ mz ∧ mz ≤ N) :
    SrcM C m (El.int k) (.slice (some (slAddr b base lo mz 1)) (hi - lo) (mz - lo)) (tk ys lo (hi - lo)) := by
  intro w hw
  by_cases hc : mz = lo
  · refine .inr (.inl ⟨b, base, mz - lo, ?_, by rw [tk_length]; omega, fun i hi => ?_⟩)
    · simp only [slAddr, hc, if_true, tk_length]
    · rw [tk_length] at hi; omega
  · refine .inr (.inl ⟨b, base + lo * 1, mz - lo, ?_, by rw [tk_length]; omega, fun i hi j hj => ?_⟩)
    · simp only [slAddr, hc, if_false, tk_length]
    · rw [tk_length] at hi
      obtain rfl : j = 0 := by simp only at hj; omega
      have hseg := segAt_cells hs (lo + i) (by simp only [Seg.width]; omega)
      rw [tk_getD, if_pos hi]
      have := hw.own _ hb.mem
      have hcell : w.cell? ⟨b, base + (lo + i), none⟩ = (cells s)[base + (lo + i)]? := by
        simp only [World.cell?, this]
        simp
      simp only [Nat.mul_one, Nat.add_zero]
      rw [show base + lo + i = base + (lo + i) by omega, hcell, hseg]
      simp only [Seg.cells]
      rw [intsCells_get (by omega)]
      rfl

/-! ### Effects -/
theorem EF.perm {d : Option Nat} {op : IOp} {m' : List Chunk} (hp : List.Perm m' m) (h : EF C m' t d op K) : EF C m t d op K :=
  fun o ho hd a ha w hw => h o ho hd a ha w (hw.perm hp)
theorem ef_st1z {x y : Operand} {b off : Nat} {T : TypeId} {s q q' : List Seg} {u : Value} {m' : List Chunk} (e : q' = q) (hx : ev t x = some (.pointer (some ⟨b, off, none⟩))) (hy : ev t y = some u) (hv : one1 u = true) (hq : putC s off u = some q')
    (hup : Upd b (.cells (cells s).toArray T (0, 0)) (.cells (cells q).toArray T (0, 0)) m m') (h : K t m') : EF C m t none (.st 1 x y) K := by subst e; exact ef_st1 hx hy hv hq hup h
theorem ef_stiz {x y : Operand} {b base i len : Nat} {T : TypeId} {s q : List Seg} {k : IntKind} {ys ys' : List Int} {z : Int} {m' : List Chunk} (e : ys' = setD ys i z) (hx : ev t x = some (.pointer (some ⟨b, base + i * 1, none⟩))) (hy : ev t y = some (.int k z))
    (hs : segAt s base = some (.ints k len ys)) (hi : i < len) (hq : segSet s base (.ints k len ys') = some q)
    (hup : Upd b (.cells (cells s).toArray T (0, 0)) (.cells (cells q).toArray T (0, 0)) m m') (h : K t m') : EF C m t none (.st 1 x y) K := by subst e; exact ef_sti hx hy hs hi hq hup h
theorem rowE_set (ys : List α) (i : Nat) (y : α) : rowE E (setG E.z ys i y) = updR (rowE E ys) i (E.cell y) := by
  funext j
  simp only [rowE, updR, getD_setG]
  split <;> rfl
theorem ef_strz {x y : Operand} {b base i len : Nat} {T : TypeId} {s q : List Seg} {u : Value} {y0 : α} {ys ys' : List α} {m' : List Chunk} (e : ys' = setG E.z ys i y0) (hx : ev t x = some (.pointer (some ⟨b, base + i * E.w, none⟩))) (hy : ev t y = some u) (hu : u.cells.toList = E.cell y0)
    (hs : segAt s base = some (.rows E.w len (rowE E ys))) (hi : i < len) (hq : segSet s base (.rows E.w len (rowE E ys')) = some q)
    (hup : Upd b (.cells (cells s).toArray T (0, 0)) (.cells (cells q).toArray T (0, 0)) m m') (h : K t m') : EF C m t none (.st E.w x y) K := by
  subst e
  rw [rowE_set] at hq
  obtain ⟨e1, e2, e3⟩ := segSet_cells hq
  have hw := segAt_width hs
  simp only [Seg.width] at hw e3
  have hle : i * E.w + E.w ≤ len * E.w := by rw [← Nat.succ_mul]; exact Nat.mul_le_mul_right E.w hi
  have hpl : (E.cell y0).length = E.w := E.len y0
  have key : cells q = splice (cells s) (base + i * E.w) (E.cell y0) := by
    rw [e1]
    simp only [Seg.cells, rowsCells_upd E.w len (rowE E ys) i (E.cell y0) hi hpl]
    exact splice_splice (by rw [rowsCells_length, cells_length]; omega) (by rw [rowsCells_length]; omega) (fun j hj => segAt_cells hs j (by rw [rowsCells_length] at hj; exact hj))
  rw [key] at hup
  exact ef_put hx hy (vs := E.cell y0) hu hpl hup (by rw [cells_length]; omega) (E.one y0) h
theorem cells_ones (l : List Value) : cells (l.map Seg.one) = l := by
  induction l with
  | nil => rfl
  | cons a r ih => simp [cells, Seg.cells, ih]
theorem width_ones (l : List Value) : width (l.map Seg.one) = l.length := by rw [← cells_length, cells_ones]
def cellsOf (E : El α) (xs : List α) : List Value := rowsCells E.w xs.length (rowE E xs)
theorem cellsOf_length : (cellsOf E xs).length = xs.length * E.w := rowsCells_length _ _ _
theorem cellsOf_get {i j : Nat} (hi : i < xs.length) (hj : j < E.w) : (cellsOf E xs)[i * E.w + j]? = (E.cell (xs.getD i E.z))[j]? := by
  unfold cellsOf
  rw [rowsCells_get2 hi hj]
  simp only [rowE, fit_cell]
theorem cellsOf_one : ∀ u ∈ cellsOf E xs, one1 u = true := one_rows fun i _ => ⟨E.len _, E.one _⟩
theorem srcV_rd {w : World} (hs : SrcM C m E v xs) (hw : Sat C.W0 C.S m w) : SrcV C m E.w v xs.length (cellsOf E xs) := by
  rcases hs w hw with ⟨h1, h2⟩ | ⟨b, o1, cp, h1, h2, h3⟩ | ⟨a3, h1, h2⟩
  · subst h1; subst h2; exact src_none
  rotate_left 1
  · subst h1; subst h2; exact src_none
  · subst h1
    refine src_of cellsOf_length cellsOf_one fun w' hw' i hi => ?_
    rcases hs w' hw' with ⟨h1', _⟩ | ⟨b', o1', cp', h1', h2', h3'⟩ | ⟨_, _, h2'⟩
    · cases h1'
    rotate_left 1
    · subst h2'; simp at hi
    · injection h1' with h1' _ h1c
      injection h1' with h1'
      injection h1' with hb ho _
      subst hb; subst ho
      have hp := E.pos
      have hq : i / E.w < xs.length := Nat.div_lt_of_lt_mul (by rw [Nat.mul_comm]; exact hi)
      have hr := Nat.mod_lt i hp
      have he : i / E.w * E.w + i % E.w = i := by have := Nat.div_add_mod i E.w; rw [Nat.mul_comm] at this; exact this
      have := h3' (i / E.w) hq (i % E.w) hr
      rw [he] at this
      rw [this, ← cellsOf_get hq hr, he]
theorem ef_stO {x y : Operand} {ms mr : List Chunk} {i : Nat} {u : Value} {y0 : α} {xs' : List α} (e : xs' = setG E.z xs i y0) (hO : OwnSl E v ms xs) (hT : Take ms m mr) (hx : ev t x = some (.pointer (some ⟨(slBase v).block, (slBase v).off + i * E.w, none⟩)))
    (hy : ev t y = some u) (hu : u.cells.toList = E.cell y0) (hi : i < xs.length) (h : ∀ ms', OwnSl E v ms' xs' → K t (ms' ++ mr)) : EF C m t none (.st E.w x y) K := by
  refine EF.perm hT.perm ?_
  rcases hO with ⟨h1, h2, h3⟩ | ⟨b, o, cp, T, cs, h1, h2, h3, h4, h5⟩
  · subst h2; simp at hi
  · subst h1; subst h3; subst e
    have hle : i * E.w + E.w ≤ cp * E.w := by rw [← Nat.succ_mul]; exact Nat.mul_le_mul_right _ (by omega)
    have hpl : (E.cell y0).length = E.w := E.len y0
    have hin : o + i * E.w + E.w ≤ (cells cs).length := by rw [cells_length]; omega
    refine ef_put (l := cells cs) (vs := E.cell y0) (T := T) (m' := [⟨b, .cells (cells ((splice (cells cs) (o + i * E.w) (E.cell y0)).map Seg.one)).toArray T (0, 0)⟩] ++ mr) hx hy hu hpl ?_ hin (E.one y0) (h _ (.inr ⟨b, o, cp, T, _, ?_, ?_, rfl, ?_, ?_⟩))
    · rw [cells_ones]; exact Upd.here
    · rw [setG_eq hi, List.length_set]
    · rw [setG_eq hi, List.length_set]; exact h2
    · rw [width_ones, splice, List.length_append, List.length_append, List.length_take, List.length_drop, hpl, cells_length]
      have := cells_length cs; omega
    · intro i' hi' j hj
      rw [setG_eq hi, List.length_set] at hi'
      rw [cells_ones, splice_get (by rw [hpl]; exact hin), getD_setG, hpl]
      by_cases hii : i' = i
      · subst hii
        rw [if_pos (by omega), if_pos rfl]
        congr 1; omega
      · rw [if_neg hii, if_neg ?_, h5 i' hi' j hj]
        intro hcon
        rcases Nat.lt_or_ge i' i with hl | hl
        · have : i' * E.w + E.w ≤ i * E.w := by rw [← Nat.succ_mul]; exact Nat.mul_le_mul_right _ hl
          omega
        · have : i * E.w + E.w ≤ i' * E.w := by rw [← Nat.succ_mul]; exact Nat.mul_le_mul_right _ (by omega)
          omega
theorem getD_app1 {z : α} {ys : List α} {i : Nat} (h : i < xs.length) : (xs ++ ys).getD i z = xs.getD i z := by simp [List.getD, List.getElem?_append_left h]
theorem getD_app2 {z : α} {ys : List α} {i : Nat} (h : xs.length ≤ i) : (xs ++ ys).getD i z = ys.getD (i - xs.length) z := by simp [List.getD, List.getElem?_append_right h]
/-- append onto a slice of one's own. -/
theorem ef_appO {d : Nat} {T : TypeId} {bytes : Nat} {z : List Seg} {x y : Operand} {ms mr : List Chunk} {u : Value} {ys xs' : List α} (e : xs' = xs ++ ys) (hx : ev t x = some v) (hO : OwnSl E v ms xs) (hT : Take ms m mr) (hy : ev t y = some u) (hs : SrcM C m E u ys)
    (hsz : decide ((xs.length + ys.length) * bytes ≤ 140737488355328) = true) (h : ∀ v' ms', OwnSl E v' ms' xs' → K ((d, v') :: t) (ms' ++ mr)) : EF C m t (some d) (.app T E.w bytes z x y) K := by
  subst e
  have hsz := of_decide_eq_true hsz
  intro o ho hd a ha w hw
  have hS : SrcV C (ms ++ mr) E.w u ys.length (cellsOf E ys) := srcV_rd (w := w) (fun w' hw' => hs w' (hw'.perm hT.perm.symm)) (hw.perm hT.perm)
  refine EF.perm hT.perm (EF.less (?_ : EF C (ms ++ mr) t (some d) (.app T E.w bytes z x y) _)) o ho hd a ha w hw
  have hzw : width z = E.w := by
    simp only [okOp] at ho
    split at ho
    · simp only [Bool.and_eq_true, Nat.beq_eq] at ho
      exact ho.1.2
    · cases ho
  rcases hO with ⟨h1, h2, h3⟩ | ⟨b, o1, cp, T', cs, h1, h2, h3, h4, h5⟩
  · subst h1; subst h2; subst h3
    refine ef_app0 hx hy hS (by simpa using hsz) (fun h0 => ?_) (fun h0 b' cp' hb' hc' => ?_)
    · have hys : ys = [] := List.eq_nil_of_length_eq_zero h0
      subst hys
      exact ⟨_, h _ _ own_nil, List.Sublist.refl _⟩
    · refine ⟨(cellsOf E ys ++ (List.replicate (cp' - ys.length) (cells z)).flatten).map Seg.one, cells_ones _, ?_⟩
      refine ⟨_, h _ [⟨b', _⟩] (.inr ⟨b', 0, cp', T, _, by simp, by simpa using hc', rfl, ?_, ?_⟩), List.Sublist.refl _⟩
      · rw [width_ones, List.length_append, cellsOf_length]
        simp only [List.length_flatten, List.map_replicate, List.sum_replicate_nat, cells_length, hzw, Nat.zero_add]
        rw [← Nat.add_mul]
        exact Nat.mul_le_mul_right _ (by omega)
      · intro i hi j hj
        simp only [List.nil_append] at hi ⊢
        have : i * E.w + E.w ≤ ys.length * E.w := by rw [← Nat.succ_mul]; exact Nat.mul_le_mul_right _ hi
        rw [cells_ones, Nat.zero_add, List.getElem?_append_left (by rw [cellsOf_length]; omega), cellsOf_get hi hj]
  · subst h1; subst h3
    refine ef_app hx Has.here hy hS h4 h2 hsz (fun hr => ?_) (fun hg b' cp' hb' hc' => ?_)
    · have hle : (xs.length + ys.length) * E.w ≤ cp * E.w := Nat.mul_le_mul_right _ hr
      rw [Nat.add_mul] at hle
      have hin : o1 + xs.length * E.w + (cellsOf E ys).length ≤ (cells cs).length := by rw [cellsOf_length, cells_length]; omega
      refine ⟨(splice (cells cs) (o1 + xs.length * E.w) (cellsOf E ys)).map Seg.one, [⟨b, .cells (cells ((splice (cells cs) (o1 + xs.length * E.w) (cellsOf E ys)).map Seg.one)).toArray T' (0, 0)⟩] ++ mr, cells_ones _, Upd.here, ?_⟩
      refine ⟨_, h _ _ (.inr ⟨b, o1, cp, T', _, by simp, by simpa using hr, rfl, ?_, ?_⟩), List.Sublist.refl _⟩
      · rw [width_ones, splice, List.length_append, List.length_append, List.length_take, List.length_drop]
        rw [cells_length] at hin ⊢; omega
      · intro i hi j hj
        rw [cells_ones, splice_get hin, cellsOf_length]
        rw [List.length_append] at hi
        by_cases hil : i < xs.length
        · have : i * E.w + E.w ≤ xs.length * E.w := by rw [← Nat.succ_mul]; exact Nat.mul_le_mul_right _ hil
          rw [if_neg (by omega), getD_app1 hil, h5 i hil j hj]
        · have e1 : i * E.w = xs.length * E.w + (i - xs.length) * E.w := by rw [← Nat.add_mul]; congr 1; omega
          have : (i - xs.length) * E.w + E.w ≤ ys.length * E.w := by rw [← Nat.succ_mul]; exact Nat.mul_le_mul_right _ (by omega)
          rw [if_pos (by omega), getD_app2 (by omega), show o1 + (i * E.w + j) - (o1 + xs.length * E.w) = (i - xs.length) * E.w + j by omega, cellsOf_get (by omega) hj]
    · have hle : xs.length * E.w ≤ cp * E.w := Nat.mul_le_mul_right _ h2
      have hl1 : (((cells cs).drop o1).take (xs.length * E.w)).length = xs.length * E.w := by rw [List.length_take, List.length_drop, cells_length]; omega
      refine ⟨(((cells cs).drop o1).take (xs.length * E.w) ++ cellsOf E ys ++ (List.replicate (cp' - (xs.length + ys.length)) (cells z)).flatten).map Seg.one, cells_ones _, ?_⟩
      refine ⟨_, h _ [⟨b', _⟩] (.inr ⟨b', 0, cp', T, _, by simp, by simpa using hc', rfl, ?_, ?_⟩), List.Sublist.cons₂ _ (List.sublist_cons_self _ _)⟩
      · rw [width_ones, List.length_append, List.length_append, hl1, cellsOf_length]
        simp only [List.length_flatten, List.map_replicate, List.sum_replicate_nat, cells_length, hzw, Nat.zero_add]
        rw [← Nat.add_mul, ← Nat.add_mul]
        exact Nat.mul_le_mul_right _ (by omega)
      · intro i hi j hj
        rw [List.length_append] at hi
        rw [cells_ones, Nat.zero_add]
        by_cases hil : i < xs.length
        · have : i * E.w + E.w ≤ xs.length * E.w := by rw [← Nat.succ_mul]; exact Nat.mul_le_mul_right _ hil
          rw [List.append_assoc, List.getElem?_append_left (by rw [hl1]; omega), List.getElem?_take_of_lt (by omega), List.getElem?_drop, h5 i hil j hj, getD_app1 hil]
        · have e1 : i * E.w = xs.length * E.w + (i - xs.length) * E.w := by rw [← Nat.add_mul]; congr 1; omega
          have : (i - xs.length) * E.w + E.w ≤ ys.length * E.w := by rw [← Nat.succ_mul]; exact Nat.mul_le_mul_right _ (by omega)
          rw [List.append_assoc, List.getElem?_append_right (by rw [hl1]; omega), hl1, List.getElem?_append_left (by rw [cellsOf_length]; omega), getD_app2 (by omega), show i * E.w + j - xs.length * E.w = (i - xs.length) * E.w + j by omega, cellsOf_get (by omega) hj]
/-- make: a slice of noughts. -/
def mkB (bytes : Nat) (L N : Int) : Bool := decide (0 ≤ L) && decide (L ≤ N) && decide ((bytes : Int) * N ≤ 281474976710656) && decide (N ≤ 9223372036854775807)
theorem ef_mksO {d : Nat} {T : TypeId} {bytes : Nat} {z : List Seg} {l c : Operand} {kl kc : IntKind} {L N : Int} (hz : cells z = E.cell E.z)
    (hl : ev t l = some (.int kl L)) (hc : ev t c = some (.int kc N)) (hB : mkB bytes L N = true)
    (h : ∀ v ms, OwnSl E v ms (List.replicate L.toNat E.z) → K ((d, v) :: t) (ms ++ m)) : EF C m t (some d) (.mks T bytes z l c) K := by
  simp only [mkB, Bool.and_eq_true, decide_eq_true_eq] at hB
  obtain ⟨⟨⟨h0, h1⟩, h2⟩, h3⟩ := hB
  refine ef_mks hl hc h0 h1 h2 h3 fun b hb => ?_
  refine ⟨(List.replicate N.toNat (cells z)).flatten.map Seg.one, cells_ones _, ?_⟩
  have hw : (cells z).length = E.w := by rw [hz, E.len]
  refine h _ [⟨b, _⟩] (.inr ⟨b, 0, N.toNat, T, _, by simp, by simp; omega, rfl, ?_, ?_⟩)
  · rw [width_ones]
    simp only [List.length_flatten, List.map_replicate, List.sum_replicate_nat, hw, Nat.zero_add]
    exact Nat.le_refl _
  · intro i hi j hj
    rw [List.length_replicate] at hi
    have e : (List.replicate N.toNat (cells z)).flatten = rowsCells E.w N.toNat (fun _ => cells z) := (rows_const hw).symm
    rw [cells_ones, Nat.zero_add, e, rowsCells_get2 (by omega) hj, ← hw, fit_same rfl, hz]
    simp [List.getD, List.getElem?_replicate, hi]
/-- Elements, one behind the other. -/
inductive Bs (E : El α) : List α → List Seg → Prop
  | nil : Bs E [] []
  | cons {x : α} {ys : List α} {p q : List Seg} : cells p = E.cell x → Bs E ys q → Bs E (x :: ys) (p ++ q)
theorem Bs.get {q : List Seg} (h : Bs E xs q) : width q = xs.length * E.w ∧ ∀ i, i < xs.length → ∀ j, j < E.w → (cells q)[i * E.w + j]? = (E.cell (xs.getD i E.z))[j]? := by
  induction h with
  | nil => exact ⟨by simp [width], fun i hi => by simp at hi⟩
  | @cons x ys p q hc _ ih =>
    have hp : width p = E.w := by rw [← cells_length, hc, E.len]
    refine ⟨by rw [width_append, ih.1, hp, List.length_cons, Nat.succ_mul]; omega, fun i hi j hj => ?_⟩
    rw [cells_append]
    cases i with
    | zero =>
      rw [List.getElem?_append_left (by rw [cells_length, hp]; omega), hc]
      simp
    | succ i =>
      rw [List.length_cons] at hi
      rw [List.getElem?_append_right (by rw [cells_length, hp, Nat.succ_mul]; omega), cells_length, hp, show (i + 1) * E.w + j - E.w = i * E.w + j by rw [Nat.succ_mul]; omega, ih.2 i (by omega) j hj]
      simp
theorem ef_bsO {d : Nat} {T : TypeId} {len : Nat} {z q : List Seg} {parts : List (Nat × Nat × Operand)} (hb : BdR t z parts q) (hB : Bs E xs q) (hl : xs.length = len)
    (h : ∀ v ms, OwnSl E v ms xs → K ((d, v) :: t) (ms ++ m)) : EF C m t (some d) (.bs T len E.w z parts) K := by
  subst hl
  refine ef_bs hb fun b hb' => ?_
  obtain ⟨h1, h2⟩ := hB.get
  refine h _ [⟨b, _⟩] (.inr ⟨b, 0, xs.length, T, q, rfl, Nat.le_refl _, rfl, by rw [h1]; omega, fun i hi j hj => ?_⟩)
  rw [Nat.zero_add]; exact h2 i hi j hj
/-- copy into an array of one's own. -/
theorem cellsOf_int {k : IntKind} {ys : List Int} : cellsOf (El.int k) ys = ys.map (.int k) := by
  apply List.ext_getElem?
  intro i
  by_cases hi : i < ys.length
  · have := cellsOf_get (E := El.int k) (xs := ys) (i := i) (j := 0) hi (El.int k).pos
    simp only [Nat.mul_one, Nat.add_zero] at this
    rw [this]
    simp [List.getD, List.getElem?_eq_getElem hi]
  · rw [List.getElem?_eq_none (by rw [cellsOf_length]; simp only [Nat.mul_one]; omega), List.getElem?_eq_none (by rw [List.length_map]; omega)]
theorem ef_cpyB {d : Option Nat} {x y : Operand} {b T base lo hi mz N : Nat} {s q : List Seg} {k : IntKind} {zs zs' ys : List Int} {u : Value} {m' : List Chunk} (e : zs' = wr zs lo (ys.take (hi - lo)))
    (hx : ev t x = some (.slice (some (slAddr b base lo mz 1)) (hi - lo) (mz - lo))) (hy : ev t y = some u) (hu : SrcM C m (El.int k) u ys) (hs : segAt s base = some (.ints k N zs)) (hb : lo ≤ hi ∧ hi ≤ mz ∧ mz ≤ N)
    (hq : segSet s base (.ints k N zs') = some q) (hup : Upd b (.cells (cells s).toArray T (0, 0)) (.cells (cells q).toArray T (0, 0)) m m')
    (h : K (putT d (.int .i64 (Nat.min ys.length (hi - lo) : Nat)) t) m') : EF C m t d (.cpy 1 x y) K := by
  subst e
  intro o ho hd a ha w hw
  have hS := srcV_rd hu hw
  rw [cellsOf_int] at hS
  obtain ⟨e1, e2, e3⟩ := segSet_cells hq
  have hsw := segAt_width hs
  simp only [Seg.width] at hsw e3
  have hseg : ∀ j, j < (intsCells k N zs).length → (cells s)[base + j]? = (intsCells k N zs)[j]? := fun j hj => segAt_cells hs j (by rw [intsCells_length] at hj; exact hj)
  have hlen : (ys.take (hi - lo)).length = Nat.min ys.length (hi - lo) := by rw [List.length_take]; exact Nat.min_comm _ _
  have hmin : Nat.min ys.length (hi - lo) ≤ hi - lo := Nat.min_le_right _ _
  have key : cells q = splice (cells s) (base + lo) ((ys.take (hi - lo)).map (.int k)) := by
    rw [e1]
    have hwr : intsCells k N (wr zs lo (ys.take (hi - lo))) = splice (intsCells k N zs) lo ((ys.take (hi - lo)).map (.int k)) := by
      have := wr_cells (k := k) (N := N) (i := lo) (xs := zs) (ys := ys.take (hi - lo)) (by rw [hlen]; omega)
      simpa [cells, Seg.cells] using this
    simp only [Seg.cells, hwr]
    exact splice_splice (by rw [intsCells_length, cells_length]; omega) (by rw [intsCells_length, List.length_map, hlen]; omega) hseg
  have hke : ∀ d' : Option Nat, K (putT d' (.int .i64 (Nat.min ys.length (hi - lo) : Nat)) t) m' → K (match d' with | some d => (d, .int .i64 (Nat.min ys.length (hi - lo) : Nat)) :: t | none => t) m' := by
    intro d' hk; cases d' <;> exact hk
  by_cases hc : mz = lo
  · have h0 : hi = lo := by omega
    refine ef_cpy (w := 1) (dl := hi - lo) (dc := mz - lo) (b := b) (off := base) (T := T) (segs := s) (segs' := q) (m' := m') (by rw [hx]; simp only [slAddr, hc, if_true]) hy hS (by rw [h0]; omega) ?_ hup (hke d h) o ho hd a ha w hw
    rw [key, h0]
    simp [splice]
  · refine ef_cpy (w := 1) (dl := hi - lo) (dc := mz - lo) (b := b) (off := base + lo) (T := T) (segs := s) (segs' := q) (m' := m') (by rw [hx]; simp only [slAddr, hc, if_false, Nat.mul_one]) hy hS (by omega) ?_ hup (hke d h) o ho hd a ha w hw
    rw [key]
    congr 1
    rw [← List.map_take, Nat.mul_one]
    congr 1
    apply List.ext_getElem?
    intro i
    simp only [List.getElem?_take]
    by_cases h1 : i < ys.length
    · by_cases h2 : i < hi - lo
      · rw [if_pos h2, if_pos (Nat.lt_min.2 ⟨h1, h2⟩)]
      · rw [if_neg h2, if_neg (fun h3 => h2 (Nat.lt_min.1 h3).2)]
    · rw [List.getElem?_eq_none (l := ys) (by omega)]
      split <;> split <;> rfl
theorem az {τ : Type} (f : τ → Value) {z e : τ} {op : IOp} (h : z = e) (q : Q1 C m t op (f e)) : Q1 C m t op (f z) := h ▸ q
theorem q_pickI {x y z : Operand} {c : Bool} {k : IntKind} {a b : Int} (hc : ev t x = some (.bool c)) (ha : ev t y = some (.int k a)) (hb : ev t z = some (.int k b)) : Q1 C m t (.pick x y z) (.int k (bif c then a else b)) :=
  q_pick hc (fun h => by subst h; exact ha) (fun h => by subst h; exact hb)
theorem q_pickB {x y z : Operand} {c a b : Bool} (hc : ev t x = some (.bool c)) (ha : ev t y = some (.bool a)) (hb : ev t z = some (.bool b)) : Q1 C m t (.pick x y z) (.bool (bif c then a else b)) :=
  q_pick hc (fun h => by subst h; exact ha) (fun h => by subst h; exact hb)
theorem rdcut {W : World} {lz hz : Int} (h : RdSl E W v xs) (hb : cutB lz hz xs.length = true) : RdSl E W (cutSl E.w v lz.toNat hz.toNat) ((xs.drop lz.toNat).take (hz.toNat - lz.toNat)) :=
  rd_cut (C := ⟨default, 0, W, []⟩) (m := []) (fun w hw => h.below hw.now) hb W (sat0 W)
theorem apart_cut {S : List Nat} {w lo hi n : Nat} (h : Apart v xs S) : Apart (cutSl w v lo hi) ((xs.drop lo).take n) S := by
  intro a k c e h0
  have hx : 0 < xs.length := by
    rw [List.length_take, List.length_drop] at h0
    omega
  unfold cutSl at e
  split at e
  · injection e with e; injection e with e; subst e
    rw [slAddr_block]
    exact h _ _ _ rfl hx
  · injection e with e; injection e with e; subst e
    exact h _ _ _ rfl hx
  · cases e
theorem rdcutS {W : World} {S : List Nat} {lz hz : Int} (h : RdSl E W v xs ∧ Apart v xs S) (hb : cutB lz hz xs.length = true) :
    RdSl E W (cutSl E.w v lz.toNat hz.toNat) ((xs.drop lz.toNat).take (hz.toNat - lz.toNat)) ∧ Apart (cutSl E.w v lz.toNat hz.toNat) ((xs.drop lz.toNat).take (hz.toNat - lz.toNat)) S :=
  ⟨rdcut h.1 hb, apart_cut h.2⟩
theorem cpy0 {zs' zs ys : List Int} {n : Nat} (e : zs' = wr zs 0 (ys.take n)) : zs' = wr zs 0 (ys.take (n - 0)) := e
theorem cut4 {lo hi : Int} {n : Nat} (h : cutB lo hi n = true) : 0 ≤ lo ∧ lo ≤ hi ∧ hi ≤ (n : Int) ∧ (n : Int) ≤ (n : Int) := by have := cutB_z h; omega
theorem cutn {lo hi : Int} {n : Nat} (h : cutB lo hi n = true) : lo.toNat ≤ hi.toNat ∧ hi.toNat ≤ n ∧ n ≤ n := by have := cutB_z h; omega
theorem getD_some {τ : Type} {o : Option τ} {z : τ} (h : o.isSome = true) : o = some (o.getD z) := by cases o <;> simp_all
theorem ef_stg {n : Nat} {x y : Operand} {b off : Nat} {T : TypeId} {s p q : List Seg} {m' : List Chunk} (hx : ev t x = some (.pointer (some ⟨b, off, none⟩))) (hy : ev t y = some (agg p)) (hn : width p = n) (hq : putL s off p = some q) (hsc : ∀ v ∈ cells p, one1 v = true)
    (hup : Upd b (.cells (cells s).toArray T (0, 0)) (.cells (cells q).toArray T (0, 0)) m m') (h : K t m') : EF C m t none (.st n x y) K := by
  obtain ⟨e1, e2, e3⟩ := putL_cells hq
  rw [e1] at hup
  exact ef_put hx hy (vs := cells p) (by simp [agg, Value.cells]) (by rw [cells_length]; exact hn) hup (by rw [cells_length]; omega) hsc h
theorem q_ldr0 {n : Nat} {x : Operand} {b base i w len : Nat} {T : TypeId} {fz : Nat × Nat} {s q p : List Seg} {g : Nat → List Value} (hx : ev t x = some (.pointer (some ⟨b, base + i * w, none⟩))) (hb : Has b (.cells (cells s).toArray T fz) m)
    (hs : segAt s base = some (.rows w len g)) (hi : i < len) (hq : g i = cells q) (hw : width q = w) (hp : sub q 0 n = some p) : Q1 C m t (.ld n true x) (agg p) := q_ldr (c := 0) hx hb hs hi hq hw hp
theorem q_ldr10 {x : Operand} {b base i w len : Nat} {T : TypeId} {fz : Nat × Nat} {s q : List Seg} {g : Nat → List Value} {u : Value} (hx : ev t x = some (.pointer (some ⟨b, base + i * w, none⟩))) (hb : Has b (.cells (cells s).toArray T fz) m)
    (hs : segAt s base = some (.rows w len g)) (hi : i < len) (hq : g i = cells q) (hw : width q = w) (hp : cellAt q 0 = some u) : Q1 C m t (.ld 1 false x) u := q_ldr1 (c := 0) hx hb hs hi hq hw hp
/-- A part of an array, handed out. -/
theorem own_blk_i {b T base N lo hi mz : Nat} {s : List Seg} {k : IntKind} {ys : List Int} (hs : segAt s base = some (.ints k N ys)) (h : lo ≤ hi ∧ hi ≤ mz ∧ mz ≤ N) :
    OwnSl (El.int k) (.slice (some (slAddr b base lo mz 1)) (hi - lo) (mz - lo)) [ck b T s] (tk ys lo (hi - lo)) := by
  have hw := segAt_width hs
  simp only [Seg.width] at hw
  have key : ∀ i, i < hi - lo → (cells s)[base + (lo + i)]? = some (.int k (ys.getD (lo + i) 0)) := by
    intro i hi'
    have := segAt_cells hs (lo + i) (by simp only [Seg.width]; omega)
    rw [this]
    simp only [Seg.cells]
    rw [intsCells_get (by omega)]
  by_cases hc : mz = lo
  · refine .inr ⟨b, base, mz - lo, T, s, ?_, by rw [tk_length]; omega, rfl, by simp only [Nat.mul_one]; omega, fun i hi' => ?_⟩
    · simp only [slAddr, hc, if_true, tk_length]
    · rw [tk_length] at hi'; omega
  · refine .inr ⟨b, base + lo * 1, mz - lo, T, s, ?_, by rw [tk_length]; omega, rfl, by simp only [Nat.mul_one]; omega, fun i hi' j hj => ?_⟩
    · simp only [slAddr, hc, if_false, tk_length]
    · rw [tk_length] at hi'
      obtain rfl : j = 0 := by have : j < 1 := hj; omega
      rw [tk_getD, if_pos hi']
      simp only [Nat.mul_one, Nat.add_zero]
      rw [show base + lo + i = base + (lo + i) by omega, key i hi']
      rfl

/-! ### Equality of aggregates -/
theorem eqc_cons {c1 c2 : Bool} {s s' : Seg} {r r' : List Seg} (hw : s.width = s'.width) (h1 : c1 = true ↔ s.cells = s'.cells) (h2 : c2 = true ↔ cells r = cells r') : (c1 && c2) = true ↔ cells (s :: r) = cells (s' :: r') := by
  rw [Bool.and_eq_true, h1, h2]
  simp only [cells]
  constructor
  · rintro ⟨h, h'⟩; rw [h, h']
  · intro h
    exact List.append_inj h (by rw [Seg.cells_length, Seg.cells_length, hw])
theorem eqc_last {c : Bool} {s s' : Seg} (h : c = true ↔ s.cells = s'.cells) : c = true ↔ cells [s] = cells [s'] := by
  rw [h]; simp [cells]
theorem eqc_int {k : IntKind} {a b : Int} : (a == b) = true ↔ (Seg.one (.int k a)).cells = (Seg.one (.int k b)).cells := by simp [Seg.cells]
theorem eqc_bool {a b : Bool} : (a == b) = true ↔ (Seg.one (.bool a)).cells = (Seg.one (.bool b)).cells := by simp [Seg.cells]
theorem eqc_ints {k : IntKind} {n : Nat} {a b : List Int} : ieq n a b = true ↔ (Seg.ints k n a).cells = (Seg.ints k n b).cells := by
  have := ieq_cells (k := k) (n := n) (a := a) (b := b)
  simpa [cells] using this
end

theorem Sup.app {m0 m ms : List Chunk} (h : Sup m0 m) : Sup m0 (ms ++ m) := fun _ h' => List.mem_append_right _ (h _ h')

theorem alz_same {s : Seg} {r r' : List Seg} (h : cells r = cells r') : cells (s :: r) = cells (s :: r') := by simp only [cells, h]
theorem alz_rows {α : Type} {E : El α} {n : Nat} {zc : List Value} {r r' : List Seg} (hz : zc = E.cell E.z) (h : cells r = cells r') : cells (.rows E.w n (fun _ => zc) :: r) = cells (.rows E.w n (rowE E (List.replicate n E.z)) :: r') := by
  simp only [cells, h, Seg.cells]
  congr 1
  apply rows_congr
  intro i hi
  subst hz
  simp [rowE, List.getD, List.getElem?_replicate, hi]

/-! ## Functions -/
/-- Parts of the memory: a block, or blocks that are told by a name. -/
inductive Pc where
  | one (c : Chunk)
  | all (l : List Chunk)
def appL : List Pc → List Chunk → List Chunk
  | [], m => m
  | .one c :: r, m => c :: appL r m
  | .all a :: r, m => a ++ appL r m
theorem appL_eq : ∀ (l : List Pc) (m : List Chunk), appL l [] ++ m = appL l m
  | [], m => rfl
  | .one c :: r, m => by simp only [appL, List.cons_append, appL_eq r m]
  | .all a :: r, m => by simp only [appL, List.append_assoc, appL_eq r m]
/-- As retM: the memory in parts. -/
def retS (W0 : World) (S : List Nat) (R : Value → List Pc → Prop) : Ending → World → Prop := retM W0 S fun v M => ∃ Ms, M = appL Ms [] ∧ R v Ms
section
variable {C : Cfg} {m : List Chunk} {t : TS} {K : KN}
theorem ef_callS {d : Option Nat} {f : FuncId} {args : List Operand} {vs : List Value} {mS mr : List Chunk} {R : Value → List Pc → Prop} (ha : evL t args = some vs) (hp : List.Perm (mS ++ mr) m)
    (hc : ∀ w, Sat C.W0 C.S m w → Calls C.P f vs.toArray w (retS w (mS.map (·.b)) R))
    (h : ∀ v Ms, R v Ms → K (putT d v t) (appL Ms mr)) : EF C m t d (.call f args) K :=
  ef_callM ha hp hc fun v m' ⟨Ms, e, hR⟩ => by subst e; rw [appL_eq]; exact h v Ms hR
theorem ef_callS0 {d : Option Nat} {f : FuncId} {args : List Operand} {vs : List Value} {R : Value → List Pc → Prop} (ha : evL t args = some vs)
    (hc : ∀ w, Sat C.W0 C.S m w → Calls C.P f vs.toArray w (retS w [] R))
    (h : ∀ v Ms, R v Ms → K (putT d v t) (appL Ms m)) : EF C m t d (.call f args) K :=
  ef_callF ha hc fun v m' ⟨Ms, e, hR⟩ => by subst e; rw [appL_eq]; exact h v Ms hR
end
def retT (rs : List RV) (R : Value → List Chunk → Prop) : KN := fun t m => ∃ l M, ResVs t m rs l ∧ PSub M m ∧ R (tupV l) M
theorem calls_memT {P : Program} {f : FuncId} {d : FnD} {args : List Value} {W0 : World} {S : List Nat} {m0 : List Chunk} {R : Value → List Chunk → Prop}
    (hm : P.follows .mixedOrders = true) (hok : okF P f d = true) (hlen : Nat.ble args.length d.n = true) (h0 : Sat W0 S m0 W0)
    (h : WC ⟨P, d.n, W0, S⟩ d.c (argsT 0 args) m0 (retT d.rs R) ⟨[], retT d.rs R⟩) : Calls P f args.toArray W0 (retM W0 S R) := by
  refine calls_of hm hok hlen h0 ?_
  have hsub : ∀ t m, retT d.rs R t m → retK W0 S d.rs (retM W0 S R) t m := by
    rintro t m ⟨l, M, h1, h2, h3⟩
    exact ⟨l, h1, fun w hw => ⟨_, _, rfl, h3, hw.psub h2⟩⟩
  intro hm c0 hok Q a w ha hw hc
  exact h hm c0 hok Q a w ha hw ⟨fun t m hk => hc.n t m (hsub t m hk), fun id k hk => by simp [lookK] at hk, fun t m hk => hc.r t m (hsub t m hk)⟩
end Go.Sx
