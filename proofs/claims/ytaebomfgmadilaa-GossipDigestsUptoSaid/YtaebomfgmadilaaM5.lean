/- Texts of a proof, one behind the other: E29. -/
import Derived.Test.YtaebomfgmadilaaM4
import Derived.Deep.CondSized
/- The engine, part 29: a law's row whose arguments are bounded by a condition of the specification's own. -/
namespace Go.Sx
open Go Go.RowKit Go.ChangeShapes
set_option linter.all false

/-- The arguments read as data that meet the condition. -/
def Met (C : Checked) (fn : Func) (k : (H : Type) → List (DataW H) → Bool) (W : World) (args : Array Value) : Prop :=
  ∃ (H : Type) (enc : TypeId × Value → H) (ds : List (DataW H)) (p : List MemPlace), DataW.TrodAll enc C.prog W 0 (fun _ => true) true fn.params.toList args.toList ds p ∧ k H ds = true

section
variable {H : Type} {enc : TypeId × Value → H}
theorem law_cond {C : Checked} {os : Os} {f : FuncId} {fn : Func} {s : ChangeSpec} {k : (H : Type) → List (DataW H) → Bool} {tb : TypeId} {conds : List PathCond} {F : Stop.Interp}
    (own : ownKnob C.prog.godebug = none) (started : os.Started) (noInit : C.prog.inits.idxOf? f = none) (hfn : C.prog.funcs[f]? = some fn) (hvars : s.vars = [])
    (hs : ∀ ds : List (DataW H), ds.length = fn.params.size → s.fn H ds = { results := [.lit (.bool true)], args := ds }) (hres : fn.resultTypes = #[tb]) (htb : C.prog.underlying tb = some .bool)
    (hl : laidOutB C.prog = true) (hpar : (fn.params.toList.all fun t => C.prog.readableRec t && decide (t < C.prog.types.size)) = true)
    (witness : ∃ (w : World) (tape : Tape) (i : Input), w.os = os ∧ (w.forCall tape i).Shaped C.prog ∧ i.vars = [] ∧ Input.okWide C.prog (w.forCall tape i) .any w.heap.size f i ∧
      ({ OpenSpec.ofChange s with cond := some k } : OpenSpec).pre6 enc C.prog fn conds false (w.forCall tape i).memory i.args ∧ ({} : Assume).holds C.prog (lone (Frame.enter C.prog f i.args .normal) [] (w.forCall tape i)))
    (h : ∀ (W : World) (args : Array Value), Given C fn W args → Met C fn k W args → LawAt C.prog f args W) :
    ReturnsInHanded {} C os f .any (({ OpenSpec.ofChange s with cond := some k } : OpenSpec).pre6 enc C.prog fn conds false) ((({ OpenSpec.ofChange s with cond := some k } : OpenSpec).at F).post enc C.prog fn false true false false) := by
  refine returnsInHanded_of_cond_sized (k := k) rfl own started noInit hfn witness ?_
  intro W base args ds gs before hval hW _ hk hsz _
  have key : Given C fn W args ∧ Met C fn k W args := by
    obtain ⟨p, q, hA, hV, rfl, hfz, hnd⟩ := hW
    have e0 : ({ OpenSpec.ofChange s with cond := some k } : OpenSpec).vars = [] := hvars
    rw [e0] at hV
    obtain ⟨rfl, rfl⟩ := trodVars_none hV
    rw [List.append_nil] at hk
    refine ⟨⟨⟨base, hval⟩, H, enc, ds, p, hA, ?_⟩, H, enc, ds, p, hA, hk⟩
    simpa [OpenSpec.bare, OpenSpec.ofChange, ChangeSpec.plain, DataSpec.varTypes, hvars] using hsz
  exact law_post hvars hs hres htb hl hpar hW (h W args key.1 key.2)
end

/-- A slice's length, in its datum. -/
theorem Met.slice {C : Checked} {fn : Func} {k : (H : Type) → List (DataW H) → Bool} {W : World} {args : Array Value} (h : Met C fn k W args) :
    ∃ (H : Type) (ds : List (DataW H)), k H ds = true ∧ ∀ (ts0 : List TypeId) (vs0 : List Value) (t e : TypeId) (ts : List TypeId) (a : Option Addr) (len cap : Nat) (vs : List Value),
      fn.params.toList = ts0 ++ t :: ts → C.prog.underlying t = some (.slice e) → args.toList = vs0 ++ .slice a len cap :: vs → ts0.length = vs0.length → len = 0 ∨ ∃ elems spare, DataW.slice elems spare ∈ ds ∧ elems.length = len := by
  obtain ⟨H, enc, ds, p, hA, hk⟩ := h
  refine ⟨H, ds, hk, ?_⟩
  intro ts0 vs0 t e ts a len cap vs hp hu ha hl
  rw [hp, ha] at hA
  clear hp ha hk
  induction ts0 generalizing vs0 ds p with
  | nil =>
    cases vs0 with
    | cons v r => cases hl
    | nil =>
      cases ds with
      | nil => exact hA.elim
      | cons d ds =>
        obtain ⟨p1, q1, h1, h2, rfl⟩ := hA
        obtain ⟨fuel, hf⟩ := h1
        rcases DataW.trod_slice hu hf with ⟨h0, _⟩ | ⟨a', len', cap', elems, rest, n, _, h0, hx, _, _, _, hlen, _⟩
        · have h3 : Value.slice a len cap = .slice none 0 0 := by simpa [Value.cells] using h0
          injection h3 with _ h4 _
          exact .inl h4
        · have h3 : Value.slice a len cap = .slice (some a') len' cap' := by simpa [Value.cells] using h0
          injection h3 with _ h4 _
          have hd : d = .slice (elems.map (·.1)) (rest.map (·.1)) := congrArg Prod.fst hx
          refine .inr ⟨elems.map (·.1), rest.map (·.1), ?_, ?_⟩
          · rw [← hd]; exact List.mem_cons_self
          · rw [List.length_map, hlen, h4]
  | cons t0 ts0 ih =>
    cases vs0 with
    | nil => cases hl
    | cons v r =>
      cases ds with
      | nil => exact hA.elim
      | cons d ds =>
        obtain ⟨p1, q1, h1, h2, rfl⟩ := hA
        rcases ih ds q1 r h2 (by simpa using hl) with h3 | ⟨el, sp, h3, h4⟩
        · exact .inl h3
        · exact .inr ⟨el, sp, List.mem_cons_of_mem _ h3, h4⟩
end Go.Sx
