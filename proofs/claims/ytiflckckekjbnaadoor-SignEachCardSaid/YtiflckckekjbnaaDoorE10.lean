/- The engine, part 10: from a law's contract to its row. -/
import Derived.Test.YtiflckckekjbnaaDoorE9
import Derived.JoinedOf
import Derived.LaidLaws
import Derived.Lay
import Derived.MakeChecks
import Derived.SevenTiedAt
import Derived.ChangeOld
import Derived.SizedLaws
namespace Go.Sx
open Go Go.RowKit Go.ChangeShapes
set_option linter.all false

section
variable {H : Type} {enc : TypeId × Value → H}

theorem below_trodAll {P : Program} (hl : laidOutB P = true) {W W' : World} (hb : Below W.heap.size W W') :
    ∀ {ts : List TypeId} {vs : List Value} {ds : List (DataW H)} {ps : List MemPlace}, (ts.all fun t => P.readableRec t && decide (t < P.types.size)) = true → (∀ x ∈ ps, x.block < W.heap.size) →
      DataW.TrodAll enc P W 0 (fun _ => true) true ts vs ds ps → DataW.TrodAll enc P W' 0 (fun b => decide (b < W.heap.size)) true ts vs ds ps
  | [], [], [], _, _, _, h => h
  | t :: ts, v :: vs, d :: ds, ps, hr, hlt, h => by
    obtain ⟨p, q, h1, h2, rfl⟩ := h
    simp only [List.all_cons, Bool.and_eq_true, decide_eq_true_eq] at hr
    exact ⟨p, q, Below.trod hl hr.1.1 hr.1.2 h1 hb (fun x hx => hlt x (by simp [hx])), below_trodAll hl hb hr.2 (fun x hx => hlt x (by simp [hx])) h2, rfl⟩
  | [], _ :: _, _, _, _, _, h => h.elim
  | [], [], _ :: _, _, _, _, h => h.elim
  | _ :: _, [], _, _, _, _, h => h.elim
  | _ :: _, _ :: _, [], _, _, _, h => h.elim

/-- What a law's proof gives. -/
def LawAt (P : Program) (f : FuncId) (args : Array Value) (W : World) : Prop := Calls P f args W fun e w' => e = .returned (.bool true) ∧ Below W.heap.size W w'

theorem trodAll_len {P : Program} {W : World} {base : Nat} {sp : Nat → Bool} {held : Bool} : ∀ {ts : List TypeId} {vs : List Value} {ds : List (DataW H)} {ps : List MemPlace}, DataW.TrodAll enc P W base sp held ts vs ds ps → ds.length = ts.length ∧ vs.length = ts.length
  | [], [], [], _, _ => ⟨rfl, rfl⟩
  | t :: ts, v :: vs, d :: ds, ps, h => by
    obtain ⟨p, q, _, h2, _⟩ := h
    have := trodAll_len h2
    simp [this]
  | [], _ :: _, _, _, h => h.elim
  | [], [], _ :: _, _, h => h.elim
  | _ :: _, [], _, _, h => h.elim
  | _ :: _, _ :: _, [], _, h => h.elim

theorem law_post {C : Checked} {f : FuncId} {fn : Func} {s : ChangeSpec} {tb : TypeId} (hvars : s.vars = [])
    (hs : ∀ ds : List (DataW H), ds.length = fn.params.size → s.fn H ds = { results := [.lit (.bool true)], args := ds }) (hres : fn.resultTypes = #[tb]) (htb : C.prog.underlying tb = some .bool)
    (hl : laidOutB C.prog = true) (hpar : (fn.params.toList.all fun t => C.prog.readableRec t && decide (t < C.prog.types.size)) = true)
    {W : World} {args : Array Value} {ds gs : List (DataW H)} {before : List MemPlace} (hW : DataW.Whole enc C.prog fn.params.toList s.vars false W args.toList ds gs before)
    (h : LawAt C.prog f args W) : Calls C.prog f args W fun e W' => ∃ v, e = .returned v ∧ s.post enc C.prog fn false true false false W args v W' := by
  have hW' := hW
  have hlt := hW.lt
  obtain ⟨p, q, hA, hV, rfl, hfz, hnd⟩ := hW
  rw [hvars] at hV
  obtain ⟨rfl, rfl⟩ := trodVars_none hV
  refine h.mono fun e W' ⟨he, bel⟩ => ⟨_, he, ds, [], p ++ [], [], p, [], hW', ?_, ?_, ?_, bel.frame _, fun h => by cases h⟩
  · rw [List.append_nil, hs ds (by simpa using (trodAll_len hA).1), hres]
    exact trodAll_mk1 (shut_bool htb true)
  · rw [List.append_nil, hs ds (by simpa using (trodAll_len hA).1)]
    exact below_trodAll hl bel hpar (fun x hx => hlt x (by simp [hx])) hA
  · rw [List.append_nil, hs ds (by simpa using (trodAll_len hA).1), hvars]
    rfl

/-- What a law's contract is given of its arguments. -/
structure Given (C : Checked) (fn : Func) (W : World) (args : Array Value) : Prop where
  wide : ∃ base, ∀ (j : Nat) t v, fn.params[j]? = some t → args[j]? = some v → Value.okWide C.prog W .any base t v
  read : ∃ (H : Type) (enc : TypeId × Value → H) (ds : List (DataW H)) (p : List MemPlace), DataW.TrodAll enc C.prog W 0 (fun _ => true) true fn.params.toList args.toList ds p ∧
    ((DataW.weightsEach C.prog fn.params.toList ds).all (· ≤ reachBytes) = true)

theorem law_plain {C : Checked} {os : Os} {f : FuncId} {fn : Func} {s : ChangeSpec} {tb : TypeId} {conds : List PathCond}
    (own : ownKnob C.prog.godebug = none) (started : os.Started) (noInit : C.prog.inits.idxOf? f = none) (hfn : C.prog.funcs[f]? = some fn) (hvars : s.vars = [])
    (hs : ∀ ds : List (DataW H), ds.length = fn.params.size → s.fn H ds = { results := [.lit (.bool true)], args := ds }) (hres : fn.resultTypes = #[tb]) (htb : C.prog.underlying tb = some .bool)
    (hl : laidOutB C.prog = true) (hpar : (fn.params.toList.all fun t => C.prog.readableRec t && decide (t < C.prog.types.size)) = true)
    (witness : ∃ (w : World) (tape : Tape) (i : Input), w.os = os ∧ (w.forCall tape i).Shaped C.prog ∧ i.vars = [] ∧ Input.okWide C.prog (w.forCall tape i) .any w.heap.size f i ∧
      s.pre6 enc C.prog fn conds false (w.forCall tape i).memory i.args ∧ ({} : Assume).holds C.prog (lone (Frame.enter C.prog f i.args .normal) [] (w.forCall tape i)))
    (h : ∀ (W : World) (args : Array Value), Given C fn W args → LawAt C.prog f args W) :
    ReturnsInHanded {} C os f .any (s.pre6 enc C.prog fn conds false) (s.post enc C.prog fn false true false false) := by
  refine returnsInHanded_of_change_sized own started noInit hfn witness ?_
  intro W base args ds gs before hval hW _ hsz _
  refine law_post hvars hs hres htb hl hpar hW (h W args ⟨⟨base, hval⟩, ?_⟩)
  obtain ⟨p, q, hA, hV, rfl, hfz, hnd⟩ := hW
  rw [hvars] at hV
  obtain ⟨rfl, rfl⟩ := trodVars_none hV
  refine ⟨H, enc, ds, p, hA, ?_⟩
  simpa [ChangeSpec.plain, DataSpec.varTypes, hvars] using hsz

theorem law_laid {C : Checked} {os : Os} {f : FuncId} {fn : Func} {s : ChangeSpec} {tb : TypeId} {conds : List PathCond} {laid : List (String × DataW Unit)}
    (own : ownKnob C.prog.godebug = none) (started : os.Started) (noInit : C.prog.inits.idxOf? f = none) (hfn : C.prog.funcs[f]? = some fn) (hvars : s.vars = [])
    (hs : ∀ ds : List (DataW H), ds.length = fn.params.size → s.fn H ds = { results := [.lit (.bool true)], args := ds }) (hres : fn.resultTypes = #[tb]) (htb : C.prog.underlying tb = some .bool)
    (hl : laidOutB C.prog = true) (hpar : (fn.params.toList.all fun t => C.prog.readableRec t && decide (t < C.prog.types.size)) = true)
    (witness : ∃ (w : World) (tape : Tape) (i : Input), w.os = os ∧ (w.forCall tape i).Shaped C.prog ∧ i.vars = [] ∧ Input.okWide C.prog (w.forCall tape i) .any w.heap.size f i ∧
      ((s.pre enc C.prog fn conds false (w.forCall tape i).memory i.args ∧ laidMetH C.prog laid (w.forCall tape i).memory) ∧ sizedMet enc C.prog fn (OpenSpec.ofChange s) false (w.forCall tape i).memory i.args) ∧ ({} : Assume).holds C.prog (lone (Frame.enter C.prog f i.args .normal) [] (w.forCall tape i)))
    (h : ∀ (W : World) (args : Array Value), laidMetH C.prog laid W → Given C fn W args → LawAt C.prog f args W) :
    ReturnsInHanded {} C os f .any (fun w args => (s.pre enc C.prog fn conds false w args ∧ laidMetH C.prog laid w) ∧ sizedMet enc C.prog fn (OpenSpec.ofChange s) false w args) (s.post enc C.prog fn false true false false) := by
  refine returnsInHanded_of_change_and (X := fun w _ => laidMetH C.prog laid w) (fun _ _ _ hh h => h.of_heap hh) own started noInit hfn witness ?_
  intro W base args ds gs before hval hW _ hsz hL _
  refine law_post hvars hs hres htb hl hpar hW (h W args hL ⟨⟨base, hval⟩, ?_⟩)
  obtain ⟨p, q, hA, hV, rfl, hfz, hnd⟩ := hW
  rw [hvars] at hV
  obtain ⟨rfl, rfl⟩ := trodVars_none hV
  refine ⟨H, enc, ds, p, hA, ?_⟩
  simpa [ChangeSpec.plain, DataSpec.varTypes, hvars] using hsz
end

/-! ## The arguments, opened -/

theorem fits_of_read {H : Type} {enc : TypeId × Value → H} {P : Program} {W : World} {n : Nat} {t : TypeId} {v : Value} {d : DataW H} {p : List MemPlace} {L : Lay}
    (hL : lay P n t .nil = some L) (h : DataW.Trod enc P W 0 (fun _ => true) true t v d p) : Fits W maxLen L v.cells.toList := by
  obtain ⟨fuel, hf⟩ := h
  have := trod_fits (Small.all) n t .nil L hL fuel v.cells.toList d p hf trivial [] rfl
  simpa using this

/-- The arguments, each with its cells' layout. -/
def Open (C : Checked) (W : World) (n : Nat) : List TypeId → List Value → Prop
  | [], vs => vs = []
  | t :: ts, vs => ∃ v vs', vs = v :: vs' ∧ (∃ base, Value.okWide C.prog W .any base t v) ∧ (∀ L, lay C.prog n t .nil = some L → Fits W maxLen L v.cells.toList) ∧ Open C W n ts vs'
theorem Given.open {C : Checked} {fn : Func} {W : World} {args : Array Value} (h : Given C fn W args) (n : Nat) : Open C W n fn.params.toList args.toList := by
  obtain ⟨⟨base, hw⟩, ⟨H, enc, ds, p, hA, _⟩⟩ := h
  have key : ∀ (ts : List TypeId) (vs : List Value) (ds : List (DataW H)) (p : List MemPlace), DataW.TrodAll enc C.prog W 0 (fun _ => true) true ts vs ds p →
      (∀ (j : Nat) t v, ts[j]? = some t → vs[j]? = some v → Value.okWide C.prog W .any base t v) → Open C W n ts vs := by
    intro ts
    induction ts with
    | nil =>
      intro vs ds p h _
      cases vs with
      | nil => rfl
      | cons v vs => cases ds <;> exact h.elim
    | cons t ts ih =>
      intro vs ds p h hv
      cases vs with
      | nil => cases ds <;> exact h.elim
      | cons v vs =>
        cases ds with
        | nil => exact h.elim
        | cons d ds =>
          obtain ⟨p1, q1, h1, h2, rfl⟩ := h
          exact ⟨v, vs, rfl, ⟨base, hv 0 t v rfl rfl⟩, fun L hL => fits_of_read hL h1, ih vs ds q1 h2 fun j t v h3 h4 => hv (j + 1) t v h3 h4⟩
  exact key _ _ ds p hA fun j t v h1 h2 => hw j t v (by simpa using h1) (by simpa using h2)

theorem wide_one {P : Program} {W : World} {base : Nat} {t : TypeId} {v x : Value} (hw : Value.okWide P W .any base t v) (hn : (match P.underlying t with | some (.struct _) | some (.array _ _) => false | _ => true) = true)
    (h : v.cells.toList = [x]) : v = x := by
  cases v with
  | agg cs =>
    exfalso
    unfold Value.okWide at hw
    split at hw
    · rename_i hu; rw [hu] at hn; cases hn
    · rename_i hu; rw [hu] at hn; cases hn
    · unfold Cell.okWide at hw
      split at hw <;> first | (rename_i h2; cases h2; done) | skip
      simp only [Cell.ok] at hw
      split at hw <;> simp_all
  | _ => simpa [Value.cells] using h
theorem wide_agg {P : Program} {W : World} {base : Nat} {t : TypeId} {v : Value} (hw : Value.okWide P W .any base t v) (hn : (match P.underlying t with | some (.struct _) | some (.array _ _) => true | _ => false) = true) : v = .agg v.cells.toList.toArray := by
  unfold Value.okWide at hw
  split at hw
  · obtain ⟨cs, rfl, _⟩ := hw; simp [Value.cells]
  · obtain ⟨cs, rfl, _⟩ := hw; simp [Value.cells]
  · rename_i h1 h2
    split at hn
    · rename_i hu; exact absurd hu (h1 _)
    · rename_i hu; exact absurd hu (h2 _ _)
    · cases hn

/-! ## What is laid -/

theorem intsCells_eq {k : IntKind} {cs : List Value} {xs : List Int} (hl : cs.length = xs.length) (h : ∀ i, i < xs.length → cs[i]? = some (.int k (xs.getD i 0))) : cs = intsCells k xs.length xs := by
  apply List.ext_getElem?
  intro i
  by_cases hi : i < xs.length
  · rw [h i hi]
    simp [intsCells, hi]
  · rw [List.getElem?_eq_none (by omega), List.getElem?_eq_none (by simp [intsCells]; omega)]

theorem laid_ints {P : Program} {W : World} {l : List (String × DataW Unit)} (h : laidMet P l W) {name : String} {k : IntKind} {xs : List Int} (hm : (name, DataW.agg (xs.map fun x => .lit (.int k x))) ∈ l) {g : Nat} {t e : TypeId} {m : Nat}
    (hg : P.globalNamed name = some g) (ht : (P.globals[g]?).map (·.type) = some t) (hu : P.underlying t = some (.array m e)) (he : P.underlying e = some (.int k)) (hc : P.cellsOf e = 1) (hn : P.cellsOf t = m) (h0 : 0 < m) :
    Mem W g 0 [.ints k xs.length xs] := by
  obtain ⟨ps, hv, -, -⟩ := h
  induction l generalizing ps with
  | nil => cases hm
  | cons x l ih =>
    obtain ⟨n, d⟩ := x
    obtain ⟨g', t', cs, fuel, p, q, h1, h2, h3, h4, h5, _⟩ := hv
    rcases List.mem_cons.1 hm with hx | hx
    · cases hx
      obtain rfl : g' = g := Option.some.inj (h1.symm.trans hg)
      obtain rfl : t' = t := Option.some.inj (h2.symm.trans ht)
      obtain ⟨ys, m', _, hy, hlen, hyl, hel⟩ := DataW.trod_array hu h4
      simp only [Prod.mk.injEq, DataW.agg.injEq] at hy
      have hm' : m = xs.length := by rw [← hyl]; have := congrArg List.length hy.1; simpa using this.symm
      have hcs : cs.toList = intsCells k xs.length xs := by
        refine intsCells_eq (by omega) fun i hi => ?_
        have h6 := hel i (by omega)
        have h7 : i < ys.length := by omega
        rw [List.getElem?_eq_getElem h7] at h6
        obtain ⟨z, h8, h9, _⟩ := DataW.trod_int he h6
        have h10 : (ys.map (·.1))[i]? = some (.lit (.int k (xs.getD i 0))) := by rw [← hy.1]; simp [hi]
        rw [List.getElem?_map, List.getElem?_eq_getElem h7, Option.map_some, h9] at h10
        simp only [Option.some.injEq, DataW.lit.injEq, Lit.int.injEq, true_and] at h10
        subst h10
        rw [hc] at h8
        have := congrArg (fun l => l[0]?) h8
        simpa using this
      refine mem_of_cells (n := xs.length) (cs := cs.toList) (fun i hi => ?_) (by rw [hlen, hn, hm']) (by omega) (by rw [hcs]; simp [cells, Seg.cells]) (by simp [width, Seg.width])
      have := World.var?_cell hg h3 i
      simpa using this
    · exact ih hx _ h5
end Go.Sx
