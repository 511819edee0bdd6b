/- The key that the standard prints. -/
import Derived.Test.YtiflckckekjbnaaDoorC1
namespace Go.Proofs.YtiflckckekjbnaaDoor
open Go Go.Sx Go.RowKit
set_option linter.all false
set_option maxRecDepth 100000

theorem byt_of {l : List Int} (h : ∀ x ∈ l, 0 ≤ x ∧ x < 256) : Byt l := by
  intro i
  simp only [List.getD]
  cases hi : l[i]? with
  | none => simp
  | some v => exact h v (List.mem_of_getElem? hi)
def BX : Int := 15112221349535400772501151409588531511454012693041857206046113283949847762202
def BY : Int := 46316835694926478169428394003475163141307993866256225615783033603165251855960
def qbase : Q4 := ⟨BX, BY, 1, BX * BY⟩
theorem start_run (k : List Int → Option api_Point) : curve_start_l1 k big 0 [88, 0, 0, 0, 0, 0, 0, 0, 0, 0, 0, 0, 0, 0, 0, 0, 0, 0, 0, 0, 0, 0, 0, 0, 0, 0, 0, 0, 0, 0, 0, 0] = k [88, 102, 102, 102, 102, 102, 102, 102, 102, 102, 102, 102, 102, 102, 102, 102, 102, 102, 102, 102, 102, 102, 102, 102, 102, 102, 102, 102, 102, 102, 102, 102] := by kernel_rfl
theorem start_eq : curve_start = some (pt qbase) := by
  rw [curve_start, bnd_eq, opt_some (fromBytes_eq (byt_of (by decide))), bnd_eq, jn_eq, start_run, opt_some (fromBytes_eq (byt_of (by decide))), opt_some unit_eq]
  have e1 : bval [26, 213, 37, 143, 96, 45, 86, 201, 178, 167, 37, 149, 96, 199, 44, 105, 92, 220, 214, 253, 49, 226, 164, 192, 254, 83, 110, 205, 211, 54, 105, 33] = BX := by decide
  have e2 : bval [88, 102, 102, 102, 102, 102, 102, 102, 102, 102, 102, 102, 102, 102, 102, 102, 102, 102, 102, 102, 102, 102, 102, 102, 102, 102, 102, 102, 102, 102, 102, 102] = BY := by decide
  rw [e1, e2, opt_some (fmul _ _)]
  rfl
theorem mulBase_eq {k : List Int} (hk : Byt k) : curve_MulBase k = some (pt (qacc k qbase 64)) := by
  rw [curve_MulBase, opt_some start_eq, opt_some (cmul_eq hk _)]
def einv : List Int := [235, 255, 255, 255, 255, 255, 255, 255, 255, 255, 255, 255, 255, 255, 255, 255, 255, 255, 255, 255, 255, 255, 255, 255, 255, 255, 255, 255, 255, 255, 255, 127]
theorem power_inv : field_power 235 127 = some einv := by kernel_rfl
theorem einv_byt : Byt einv := byt_of (by decide)
def finv (a : Int) : Int := pw (a % PP) einv 256
theorem fe_rng {n : Int} (h : 0 ≤ n ∧ n < PP) : fdig n = fe n := (fe_small h.1 h.2).symm
theorem inv_eq (a : Int) : field_Invert (fe a) = some (fe (finv a)) := by
  rw [field_Invert, opt_some power_inv, opt_some (pow_eq (fe_U5 _) einv_byt), fval_fe, fe_rng (pw_rng _ _ _)]
  rfl
def encXY (x y : Int) : List Int := if x % PP % 2 = 1 then setD (byt (y % PP)) 31 (bitsV .or .u8 ((byt (y % PP)).getD 31 0) 128) else byt (y % PP)
def encQ (q : Q4) : List Int := encXY (q.x * finv q.z) (q.y * finv q.z)
theorem encode_eq (q : Q4) : curve_Encode (pt q) = some (encQ q) := by
  rw [curve_Encode]
  show opt (field_Invert (fe q.z)) _ = _
  rw [opt_some (inv_eq _)]
  show opt (field_Mul (fe q.y) (fe (finv q.z))) _ = _
  rw [opt_some (fmul _ _), opt_some (bytes_eq (fe_U5 _))]
  show opt (field_Mul (fe q.x) (fe (finv q.z))) _ = _
  rw [opt_some (fmul _ _), opt_some (isOdd_eq (fe_U5 _)), jn_eq, fval_fe, fval_fe]
  simp only [bnd_eq, emod_pp]
  unfold encQ encXY
  by_cases h : q.x * finv q.z % PP % 2 = 1
  · rw [br_tt (by rw [h]; rfl), if_pos h]
  · rw [br_ff (by simpa using h), if_neg h]
def pubSeed : List Int := [157, 97, 177, 157, 239, 253, 90, 96, 186, 132, 74, 244, 146, 236, 44, 196, 68, 73, 197, 105, 123, 50, 105, 25, 112, 59, 172, 3, 28, 174, 127, 96]
def pubKey : List Int := [215, 90, 152, 1, 130, 177, 10, 183, 213, 75, 254, 211, 201, 100, 7, 58, 14, 225, 114, 243, 218, 166, 35, 37, 175, 2, 26, 104, 247, 7, 81, 26]
def pubA : List Int := [48, 124, 131, 134, 79, 40, 51, 203, 66, 122, 46, 241, 192, 10, 1, 60, 253, 255, 39, 104, 217, 128, 192, 163, 165, 32, 240, 6, 144, 77, 233, 79]
theorem pub_halves : (sign_halves pubSeed).map (·.1) = some pubA := by kernel_rfl
theorem pub_key : encQ (qacc pubA qbase 64) = pubKey := by kernel_rfl
theorem public_printed : sign_Public pubSeed = some pubKey := by
  rw [sign_Public]
  have h := pub_halves
  cases hh : sign_halves pubSeed with
  | none => rw [hh] at h; cases h
  | some r =>
    rw [hh] at h
    have h1 : r.1 = pubA := by simpa using h
    rw [opt_some rfl, h1, opt_some (mulBase_eq (byt_of (by decide))), opt_some (encode_eq _), pub_key]
end Go.Proofs.YtiflckckekjbnaaDoor
