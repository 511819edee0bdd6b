/- Texts of a proof, one behind the other: H1 H2 V3 G3 H3 SL1 SL2 GP SL3 N6 H4 E10 G5. -/
import Derived.Test.YtiflckckekjbnaaDoorMH6
import Derived.JoinedOf
import Derived.LaidLaws
import Derived.Lay
import Derived.MakeChecks
import Derived.SevenTiedAt
import Derived.ChangeOld
import Derived.SizedLaws
/- What the program's points mean: points of the curve's group. -/
namespace Go.Proofs.YtiflckckekjbnaaDoor
open Go Go.Sx Go.RowKit
set_option linter.all false
set_option maxRecDepth 100000

/-- Four numbers tell a point. -/
structure Rep (q : Q4) (P : G) : Prop where
  z : fi q.z ≠ 0
  x : fi q.x = P.x * fi q.z
  y : fi q.y = P.y * fi q.z
  t : fi q.t = P.x * P.y * fi q.z
theorem fi_D2 : fi D2 = dF + dF := by decide +kernel
theorem fi_DD : fi DD = dF := by decide +kernel
theorem mul_ne {a b : F} (ha : a ≠ 0) (hb : b ≠ 0) : a * b ≠ 0 := fun h => (F_euclid h).elim ha hb
theorem two_F : (1 : F) + 1 ≠ 0 := by decide +kernel
theorem rep_closed {e f g h : Int} {P : G} (hf : fi f ≠ 0) (hg : fi g ≠ 0) (he : fi e = P.x * fi g) (hh : fi h = P.y * fi f) : Rep (qclosed e f g h) P := by
  constructor
  · show fi (f * g) ≠ 0
    rw [fi_mul]; exact mul_ne hf hg
  · show fi (e * f) = _ * fi (f * g)
    rw [fi_mul, fi_mul, he]; grind -lia -linarith (splits := 0)
  · show fi (g * h) = _ * fi (f * g)
    rw [fi_mul, fi_mul, hh]; grind -lia -linarith (splits := 0)
  · show fi (e * h) = _ * fi (f * g)
    rw [fi_mul, fi_mul, he, hh]; grind -lia -linarith (splits := 0)
theorem addG_x (P Q : G) : (addG P Q).x * (1 + dF * P.x * Q.x * P.y * Q.y) = P.x * Q.y + P.y * Q.x := by
  have h := invF_mul (den1 P.on Q.on)
  show (P.x * Q.y + P.y * Q.x) * invF (1 + dF * P.x * Q.x * P.y * Q.y) * _ = _
  generalize invF (1 + dF * P.x * Q.x * P.y * Q.y) = i at *
  generalize dF = d at *
  grind -lia -linarith (splits := 0)
theorem addG_y (P Q : G) : (addG P Q).y * (1 - dF * P.x * Q.x * P.y * Q.y) = P.y * Q.y + P.x * Q.x := by
  have h := invF_mul (den2 P.on Q.on)
  show (P.y * Q.y + P.x * Q.x) * invF (1 - dF * P.x * Q.x * P.y * Q.y) * _ = _
  generalize invF (1 - dF * P.x * Q.x * P.y * Q.y) = i at *
  generalize dF = d at *
  grind -lia -linarith (splits := 0)
theorem rep_add {p q : Q4} {P Q : G} (hp : Rep p P) (hq : Rep q Q) : Rep (qadd p q) (addG P Q) := by
  have d1 := den1 P.on Q.on
  have d2 := den2 P.on Q.on
  have ax := addG_x P Q
  have ay := addG_y P Q
  have hz := mul_ne two_F (mul_ne hp.z hq.z)
  have ef : fi ((p.z + p.z) * q.z - p.t * D2 * q.t) = (1 + 1) * (fi p.z * fi q.z) * (1 - dF * P.x * Q.x * P.y * Q.y) := by
    simp only [fi_mul, fi_sub, fi_add, fi_D2, hp.t, hq.t]
    generalize dF = d at *
    grind -lia -linarith (splits := 0)
  have eg : fi ((p.z + p.z) * q.z + p.t * D2 * q.t) = (1 + 1) * (fi p.z * fi q.z) * (1 + dF * P.x * Q.x * P.y * Q.y) := by
    simp only [fi_mul, fi_sub, fi_add, fi_D2, hp.t, hq.t]
    generalize dF = d at *
    grind -lia -linarith (splits := 0)
  refine rep_closed ?_ ?_ ?_ ?_
  · rw [ef]; exact mul_ne hz d2
  · rw [eg]; exact mul_ne hz d1
  · rw [eg]
    simp only [fi_mul, fi_sub, fi_add, hp.x, hq.x, hp.y, hq.y]
    generalize dF = d at *
    generalize (addG P Q).x = X at *
    grind -lia -linarith (splits := 0)
  · rw [ef]
    simp only [fi_mul, fi_sub, fi_add, hp.x, hq.x, hp.y, hq.y]
    generalize dF = d at *
    generalize (addG P Q).y = Y at *
    grind -lia -linarith (splits := 0)
theorem rep_dbl {p : Q4} {P : G} (hp : Rep p P) : Rep (qdbl p) (addG P P) := by
  have d1 := den1 P.on P.on
  have d2 := den2 P.on P.on
  have ax := addG_x P P
  have ay := addG_y P P
  have on := P.on.eq
  have ef : fi (p.z * p.z + p.z * p.z + (p.x * p.x - p.y * p.y)) = (fi p.z * fi p.z) * (1 - dF * P.x * P.x * P.y * P.y) := by
    simp only [fi_mul, fi_sub, fi_add, hp.x, hp.y]
    generalize dF = d at *
    grind -lia -linarith (splits := 0)
  have eg : fi (p.x * p.x - p.y * p.y) = - (fi p.z * fi p.z) * (1 + dF * P.x * P.x * P.y * P.y) := by
    simp only [fi_mul, fi_sub, fi_add, hp.x, hp.y]
    generalize dF = d at *
    grind -lia -linarith (splits := 0)
  have hz := mul_ne hp.z hp.z
  have hz' : - (fi p.z * fi p.z) ≠ 0 := by
    intro h; apply hz
    grind -lia -linarith (splits := 0)
  refine rep_closed ?_ ?_ ?_ ?_
  · rw [ef]; exact mul_ne hz d2
  · rw [eg]; exact mul_ne hz' d1
  · rw [eg]
    simp only [fi_mul, fi_sub, fi_add, hp.x, hp.y]
    generalize dF = d at *
    generalize (addG P P).x = X at *
    grind -lia -linarith (splits := 0)
  · rw [ef]
    simp only [fi_mul, fi_sub, fi_add, hp.x, hp.y]
    generalize dF = d at *
    generalize (addG P P).y = Y at *
    grind -lia -linarith (splits := 0)
theorem rep_red {q : Q4} {P : G} (h : Rep q P) : Rep (qred q) P := by
  constructor
  · show fi (q.z % PP) ≠ 0; rw [fi_mod]; exact h.z
  · show fi (q.x % PP) = _ * fi (q.z % PP); rw [fi_mod, fi_mod]; exact h.x
  · show fi (q.y % PP) = _ * fi (q.z % PP); rw [fi_mod, fi_mod]; exact h.y
  · show fi (q.t % PP) = _ * fi (q.z % PP); rw [fi_mod, fi_mod]; exact h.t
theorem rep_zero : Rep qzero zeroG := by
  constructor
  · show fi 1 ≠ 0; decide +kernel
  · show fi 0 = 0 * fi 1; decide +kernel
  · show fi 1 = 1 * fi 1; decide +kernel
  · show fi 0 = 0 * 1 * fi 1; decide +kernel
def negG (P : G) : G := ⟨-P.x, P.y, ⟨by have h := P.on.eq; generalize dF = d at *; grind -lia -linarith (splits := 0)⟩⟩
theorem rep_neg {p : Q4} {P : G} (h : Rep p P) : Rep ⟨-p.x, p.y, p.z, -p.t⟩ (negG P) := by
  constructor
  · exact h.z
  · show fi (-p.x) = -P.x * _; rw [fi_neg, h.x]; grind -lia -linarith (splits := 0)
  · exact h.y
  · show fi (-p.t) = -P.x * P.y * _; rw [fi_neg, h.t]; grind -lia -linarith (splits := 0)
theorem neg_addG (P : G) : addG (negG P) P = zeroG := by
  have d1 := den1 (negG P).on P.on
  have d2 := den2 (negG P).on P.on
  have ax := addG_x (negG P) P
  have ay := addG_y (negG P) P
  have n1 : (negG P).x = -P.x := rfl
  have n2 : (negG P).y = P.y := rfl
  have on := P.on.eq
  have z1 : zeroG.x = 0 := rfl
  have z2 : zeroG.y = 1 := rfl
  generalize addG (negG P) P = R at *
  refine G_ext ?_ ?_
  · rw [z1]
    refine (F_euclid (b := 1 + dF * (negG P).x * P.x * (negG P).y * P.y) ?_).resolve_right d1
    rw [ax, n1, n2]; grind -lia -linarith (splits := 0)
  · rw [z2]
    have e : (R.y - 1) * (1 - dF * (negG P).x * P.x * (negG P).y * P.y) = 0 := by
      rw [n1, n2] at *
      generalize dF = d at *
      grind -lia -linarith (splits := 0)
    have := (F_euclid e).resolve_right d2
    grind -lia -linarith (splits := 0)
theorem rep_add' {p q : Q4} {P Q : G} (hp : Rep p P) (hq : Rep q Q) : Rep (qadd' p q) (addG P Q) := rep_red (rep_add hp hq)
theorem rep_dbl' {p : Q4} {P : G} (hp : Rep p P) : Rep (qdbl' p) (addG P P) := rep_red (rep_dbl hp)
theorem rep_tab {p : Q4} {P : G} (hp : Rep p P) : ∀ j, Rep (tab p j) (mulG j P)
  | 0 => rep_zero
  | j + 1 => rep_add' (rep_tab hp j) hp
theorem mulG_one (P : G) : mulG 1 P = P := zero_addG P
theorem mulG_two (P : G) : mulG 2 P = addG P P := by
  show addG (mulG 1 P) P = _
  rw [mulG_one]
theorem rep_dbl4 {p : Q4} {P : G} (hp : Rep p P) : Rep (dbl4 p) (mulG 16 P) := by
  have h := rep_dbl' (rep_dbl' (rep_dbl' (rep_dbl' hp)))
  rw [← mulG_two, ← mulG_two, ← mulG_two, ← mulG_two, ← mulG_mul, ← mulG_mul, ← mulG_mul] at h
  exact h
/-- The number of the first half bytes, from the top. -/
def nacc (k : List Int) : Nat → Nat
  | 0 => 0
  | i + 1 => 16 * nacc k i + (nib k i).toNat
theorem rep_qacc {p : Q4} {P : G} (k : List Int) (hp : Rep p P) : ∀ i, Rep (qacc k p i) (mulG (nacc k i) P)
  | 0 => rep_zero
  | i + 1 => by
    have h := rep_add' (rep_dbl4 (rep_qacc k hp i)) (rep_tab hp (nib k i).toNat)
    rw [← mulG_mul, ← mulG_add] at h
    exact h
theorem rep_q2acc {p r : Q4} {P R : G} (k l : List Int) (hp : Rep p P) (hr : Rep r R) : ∀ i, Rep (q2acc k l p r i) (addG (mulG (nacc k i) P) (mulG (nacc l i) R))
  | 0 => by
    show Rep qzero (addG zeroG zeroG)
    rw [addG_zero]; exact rep_zero
  | i + 1 => by
    have h := rep_add' (rep_add' (rep_dbl4 (rep_q2acc k l hp hr i)) (rep_tab hp (nib k i).toNat)) (rep_tab hr (nib l i).toNat)
    rw [mulG_both, ← mulG_mul, ← mulG_mul, addG_assoc, addG_swap, ← mulG_add, ← mulG_add] at h
    exact h
/-- The number of the first bytes, from the top. -/
def hacc (k : List Int) : Nat → Int
  | 0 => 0
  | j + 1 => hacc k j * 256 + k.getD (31 - j) 0
theorem nacc_two {k : List Int} (hk : Byt k) : ∀ j, (nacc k (2 * j) : Int) = hacc k j
  | 0 => rfl
  | j + 1 => by
    have ih := nacc_two hk j
    have hb := hk (31 - j)
    have e1 : nib k (2 * j) = k.getD (31 - j) 0 / 16 % 16 := by unfold nib; rw [if_pos (by omega), show 2 * j / 2 = j by omega]
    have e2 : nib k (2 * j + 1) = k.getD (31 - j) 0 % 16 := by unfold nib; rw [if_neg (by omega), show (2 * j + 1) / 2 = j by omega]
    show ((16 * (16 * nacc k (2 * j) + (nib k (2 * j)).toNat) + (nib k (2 * j + 1)).toNat : Nat) : Int) = hacc k j * 256 + k.getD (31 - j) 0
    rw [e1, e2]
    generalize k.getD (31 - j) 0 = b at *
    generalize nacc k (2 * j) = n at *
    generalize hacc k j = m at *
    omega
/-- What 32 bytes tell, all bits. -/
def sval (x : List Int) : Int := x.getD 0 0 + x.getD 1 0 * 256 + x.getD 2 0 * 65536 + x.getD 3 0 * 16777216 + x.getD 4 0 * 4294967296 + x.getD 5 0 * 1099511627776 + x.getD 6 0 * 281474976710656 + x.getD 7 0 * 72057594037927936 + x.getD 8 0 * 18446744073709551616 + x.getD 9 0 * 4722366482869645213696 + x.getD 10 0 * 1208925819614629174706176 + x.getD 11 0 * 309485009821345068724781056 + x.getD 12 0 * 79228162514264337593543950336 + x.getD 13 0 * 20282409603651670423947251286016 + x.getD 14 0 * 5192296858534827628530496329220096 + x.getD 15 0 * 1329227995784915872903807060280344576 + x.getD 16 0 * 340282366920938463463374607431768211456 + x.getD 17 0 * 87112285931760246646623899502532662132736 + x.getD 18 0 * 22300745198530623141535718272648361505980416 + x.getD 19 0 * 5708990770823839524233143877797980545530986496 + x.getD 20 0 * 1461501637330902918203684832716283019655932542976 + x.getD 21 0 * 374144419156711147060143317175368453031918731001856 + x.getD 22 0 * 95780971304118053647396689196894323976171195136475136 + x.getD 23 0 * 24519928653854221733733552434404946937899825954937634816 + x.getD 24 0 * 6277101735386680763835789423207666416102355444464034512896 + x.getD 25 0 * 1606938044258990275541962092341162602522202993782792835301376 + x.getD 26 0 * 411376139330301510538742295639337626245683966408394965837152256 + x.getD 27 0 * 105312291668557186697918027683670432318895095400549111254310977536 + x.getD 28 0 * 26959946667150639794667015087019630673637144422540572481103610249216 + x.getD 29 0 * 6901746346790563787434755862277025452451108972170386555162524223799296 + x.getD 30 0 * 1766847064778384329583297500742918515827483896875618958121606201292619776 + x.getD 31 0 * 452312848583266388373324160190187140051835877600158453279131187530910662656
theorem hacc_eq (k : List Int) : hacc k 32 = sval k := by
  simp only [hacc, sval]
  simp only [Nat.reduceSub]
  omega
theorem nacc_eq {k : List Int} (hk : Byt k) : nacc k 64 = (sval k).toNat := by
  have h : (nacc k 64 : Int) = hacc k 32 := nacc_two hk 32
  rw [hacc_eq] at h
  omega
theorem sval_nonneg {k : List Int} (hk : Byt k) : 0 ≤ sval k := by
  have h : (nacc k 64 : Int) = hacc k 32 := nacc_two hk 32
  rw [hacc_eq] at h
  omega
end Go.Proofs.YtiflckckekjbnaaDoor
/- Points by bytes: Encode tells the point alone, Decode finds it again. -/
namespace Go.Proofs.YtiflckckekjbnaaDoor
open Go Go.Sx Go.RowKit
set_option linter.all false
set_option maxRecDepth 100000

/-! ## Powers -/
/-- The number of the k highest of 256 bits. -/
def bnum (e : List Int) : Nat → Nat
  | 0 => 0
  | k + 1 => if ebit e (255 - k) then 2 * bnum e k + 1 else 2 * bnum e k
theorem fi_pw (x : Int) (e : List Int) : ∀ k, fi (pw x e k) = pwF (fi x) (bnum e k)
  | 0 => fi_1
  | k + 1 => by
    have ih := fi_pw x e k
    simp only [pw, bnum]
    split
    · rw [fi_mod, fi_mul, fi_mod, fi_mul, ih, pwF_succ, Nat.two_mul, pwF_add]
    · rw [fi_mod, fi_mul, ih, Nat.two_mul, pwF_add]
theorem bnum_inv : bnum einv 256 + 2 = pN := by decide +kernel
theorem bnum_sq : 8 * bnum esq 256 + 5 = pN := by decide +kernel
theorem bnum_rt : 4 * bnum ert 256 = pN - 1 := by decide +kernel
theorem fi_finv {a : Int} (h : fi a ≠ 0) : fi a * fi (finv a) = 1 := by
  unfold finv
  rw [fi_pw, fi_mod]
  exact inv_pow bnum_inv h
theorem fi_sqrt2 : fi sqrt2 * fi sqrt2 = -1 := by decide +kernel

/-! ## Encode -/
/-- The bytes of a point. -/
def encG (P : G) : List Int := encXY (fv P.x) (fv P.y)
theorem encXY_congr {x y u v : Int} (h1 : x % PP = u % PP) (h2 : y % PP = v % PP) : encXY x y = encXY u v := by
  unfold encXY; rw [h1, h2]
theorem rep_aff {q : Q4} {P : G} (h : Rep q P) : fi (q.x * finv q.z) = P.x ∧ fi (q.y * finv q.z) = P.y := by
  have hi := fi_finv h.z
  rw [fi_mul, fi_mul, h.x, h.y]
  generalize fi (finv q.z) = i at *
  generalize fi q.z = z at *
  exact ⟨by grind -lia -linarith (splits := 0), by grind -lia -linarith (splits := 0)⟩
theorem fv_mod (x : F) : fv x % PP = fv x := Int.emod_eq_of_lt (fv_rng x).1 (fv_rng x).2
theorem enc_rep {q : Q4} {P : G} (h : Rep q P) : encQ q = encG P := by
  have ha := rep_aff h
  refine encXY_congr ?_ ?_
  · rw [fv_mod, ← ha.1, fv_fi]
  · rw [fv_mod, ← ha.2, fv_fi]
theorem byt_byt (n : Int) : Byt (byt n) := byt_of (by
  unfold byt
  repeat' (first | exact List.forall_mem_nil _ | refine List.forall_mem_cons.2 ⟨?_, ?_⟩)
  all_goals omega)
theorem byt_length (n : Int) : (byt n).length = 32 := rfl
theorem or128 {x : Int} (h0 : 0 ≤ x) (h1 : x < 128) : bitsV .or .u8 x 128 = x + 128 := by
  have : x = ((x.toNat : Nat) : Int) := by omega
  rw [this]
  have hx : x.toNat < 128 := by omega
  generalize x.toNat = n at *
  have h : ∀ n : Fin 128, bitsV .or .u8 ((n.val : Nat) : Int) 128 = (n.val : Int) + 128 := by decide +kernel
  exact h ⟨n, hx⟩
theorem byt_31 {n : Int} (h0 : 0 ≤ n) (h1 : n < PP) : 0 ≤ (byt n).getD 31 0 ∧ (byt n).getD 31 0 < 128 := by
  have e : (byt n).getD 31 0 = n / 452312848583266388373324160190187140051835877600158453279131187530910662656 % 256 := rfl
  rw [e]
  unfold PP at h1
  omega
def top256 : Int := 57896044618658097711785492504343953926634992332820282019728792003956564819968
theorem bval_byt {n : Int} (h0 : 0 ≤ n) (h1 : n < PP) : bval (byt n) = n := by
  unfold PP at h1
  simp only [bval, byt, List.getD_cons_zero, List.getD_cons_succ]
  omega
theorem setD_length {l : List Int} {i : Nat} {v : Int} (h : i < l.length) : (setD l i v).length = l.length := by rw [setD_eq h, List.length_set]
theorem enc_byt (x y : Int) : Byt (encXY x y) := by
  unfold encXY
  split
  · refine setD_byt (byt_byt _) ?_
    have := byt_31 (n := y % PP) (Int.emod_nonneg _ (by decide)) (Int.emod_lt_of_pos _ PP_pos)
    rw [or128 this.1 this.2]
    omega
  · exact byt_byt _
theorem enc_length (x y : Int) : (encXY x y).length = 32 := by
  unfold encXY
  split
  · rw [setD_length (by rw [byt_length]; decide), byt_length]
  · exact byt_length _
theorem set_self {l : List Int} {i : Nat} (h : i < l.length) : l.set i (l.getD i 0) = l := by
  have e : l.getD i 0 = l[i] := by simp [List.getD_eq_getElem?_getD, List.getElem?_eq_getElem h]
  rw [e]
  exact List.set_getElem_self h
/-- What the 32 bytes tell. -/
theorem enc_parts (x y : Int) : (encXY x y).getD 31 0 / 128 = x % PP % 2 ∧ setD (encXY x y) 31 ((encXY x y).getD 31 0 % 128) = byt (y % PP) := by
  have h31 := byt_31 (n := y % PP) (Int.emod_nonneg _ (by decide)) (Int.emod_lt_of_pos _ PP_pos)
  unfold encXY
  split
  · next h =>
    rw [or128 h31.1 h31.2, getD_setD, if_pos rfl]
    refine ⟨by omega, ?_⟩
    have e : ((byt (y % PP)).getD 31 0 + 128) % 128 = (byt (y % PP)).getD 31 0 := by omega
    rw [e, setD_eq (xs := setD _ _ _) (by rw [setD_length (by rw [byt_length]; decide), byt_length]; decide), setD_eq (by rw [byt_length]; decide), List.set_set]
    exact set_self (by rw [byt_length]; decide)
  · next h =>
    refine ⟨by omega, ?_⟩
    have e : (byt (y % PP)).getD 31 0 % 128 = (byt (y % PP)).getD 31 0 := by omega
    rw [e, setD_eq (by rw [byt_length]; decide)]
    exact set_self (by rw [byt_length]; decide)
theorem fv_neg (y : F) : fv (-y) = (- fv y) % 57896044618658097711785492504343953926634992332820282019728792003956564819949 := by
  have h := fv_fi (- fv y)
  rw [fi_neg, fi_fv] at h
  exact h
theorem fv_zero : fv 0 = 0 := rfl
theorem neg_emod {b : Int} (hy : 0 ≤ b ∧ b < 57896044618658097711785492504343953926634992332820282019728792003956564819949) (h0 : ¬ b = 0) : -b % 57896044618658097711785492504343953926634992332820282019728792003956564819949 = 57896044618658097711785492504343953926634992332820282019728792003956564819949 - b := by
  rw [← Int.add_emod_right, Int.emod_eq_of_lt (by omega) (by omega)]; omega
theorem par {x y : F} (h : fv x % 2 = fv y % 2) (h2 : x = -y) : x = y := by
  have e := fv_neg y
  rw [← h2] at e
  have hx := fv_rng x
  have hy := fv_rng y
  apply fv_inj
  clear h2
  generalize fv x = a at *
  generalize fv y = b at *
  by_cases h0 : b = 0
  · subst h0; rw [e]; rfl
  · rw [neg_emod hy h0] at e
    omega
theorem den_poly (y d j : F) (h : 1 + d * y * y = 0) (hj : j * j + 1 = 0) : j * j = d * (y * y) := by grind -lia -linarith (splits := 0)
theorem one_poly (y d : F) (hy : y = 0) (h : 1 + d * y * y = 0) : (1 : F) = 0 := by grind -lia -linarith (splits := 0)
theorem den_y (y : F) : 1 + dF * y * y ≠ 0 := by
  intro h
  have := dF_noroot _ _ (den_poly y dF iF h iF_sq)
  exact absurd (one_poly y dF this h) (by decide +kernel)
theorem same_poly (a b c d : F) (h1 : c * c - a * a = 1 + d * a * a * c * c) (h2 : c * c - b * b = 1 + d * b * b * c * c) : ((a - b) * (a + b)) * (1 + d * c * c) = 0 := by grind -lia -linarith (splits := 0)
theorem sub_zero_eq (a b : F) (h : a - b = 0) : a = b := by grind -lia -linarith (splits := 0)
theorem add_zero_eq (a b : F) (h : a + b = 0) : a = -b := by grind -lia -linarith (splits := 0)
theorem on_same {P Q : G} (hy : P.y = Q.y) : P.x = Q.x ∨ P.x = - Q.x := by
  have h1 := P.on.eq
  have h2 := Q.on.eq
  rw [hy] at h1
  rcases F_euclid ((F_euclid (same_poly _ _ _ _ h1 h2)).resolve_right (den_y Q.y)) with h | h
  · exact .inl (sub_zero_eq _ _ h)
  · exact .inr (add_zero_eq _ _ h)
theorem encG_inj {P Q : G} (h : encG P = encG Q) : P = Q := by
  have p1 := enc_parts (fv P.x) (fv P.y)
  have p2 := enc_parts (fv Q.x) (fv Q.y)
  unfold encG at h
  rw [h] at p1
  rw [fv_mod, fv_mod] at p1 p2
  have hy : fv P.y = fv Q.y := by
    have := p1.2.symm.trans p2.2
    rw [← bval_byt (fv_rng P.y).1 (fv_rng P.y).2, this, bval_byt (fv_rng Q.y).1 (fv_rng Q.y).2]
  have hx : fv P.x % 2 = fv Q.x % 2 := by rw [← p1.1, ← p2.1]
  have hy' := fv_inj hy
  refine G_ext ?_ hy'
  rcases on_same hy' with e | e
  · exact e
  · exact par hx e

/-! ## Square roots -/
theorem fi_zero_iff {a : Int} : fi a = 0 ↔ a % PP = 0 := by
  rw [← fi_0, fi_eq]; rfl
theorem emod_negp {a : Int} (h0 : ¬ a % 57896044618658097711785492504343953926634992332820282019728792003956564819949 = 0) : -a % 57896044618658097711785492504343953926634992332820282019728792003956564819949 = 57896044618658097711785492504343953926634992332820282019728792003956564819949 - a % 57896044618658097711785492504343953926634992332820282019728792003956564819949 := by omega
theorem fabs_par (a : Int) : fabs a % PP % 2 = 0 := by
  unfold fabs PP
  by_cases h : a % 57896044618658097711785492504343953926634992332820282019728792003956564819949 % 2 = 1
  · have hb : (a % 57896044618658097711785492504343953926634992332820282019728792003956564819949 % 2 == 1) = true := by simpa using h
    rw [hb]
    show -a % 57896044618658097711785492504343953926634992332820282019728792003956564819949 % 2 = 0
    rw [emod_negp (by intro h0; rw [h0] at h; exact absurd h (by decide))]
    generalize a % 57896044618658097711785492504343953926634992332820282019728792003956564819949 = b at *
    clear hb
    omega
  · have hb : (a % 57896044618658097711785492504343953926634992332820282019728792003956564819949 % 2 == 1) = false := by simpa using h
    rw [hb]
    show a % 57896044618658097711785492504343953926634992332820282019728792003956564819949 % 2 = 0
    generalize a % 57896044618658097711785492504343953926634992332820282019728792003956564819949 = b at *
    clear hb
    omega
theorem fabs_sq (a : Int) : fi (fabs a) * fi (fabs a) = fi a * fi a := by
  unfold fabs
  cases h : (a % PP % 2 == 1)
  · rfl
  · show fi (-a) * fi (-a) = _
    rw [fi_neg]; grind -lia -linarith (splits := 0)
theorem sqr_sound {a b : Int} (hb : fi b ≠ 0) (h : (sqrR a b).2 = true) : fi b * (fi (sqrR a b).1 * fi (sqrR a b).1) = fi a ∧ (sqrR a b).1 % PP % 2 = 0 := by
  have hb' : ¬ b % PP = 0 := fun e => hb (fi_zero_iff.2 e)
  unfold sqrR at h ⊢
  rw [if_neg hb'] at h ⊢
  split
  · next h1 =>
    refine ⟨?_, fabs_par _⟩
    rw [fabs_sq, ← fi_mul, ← fi_mul]
    exact fi_eq.2 h1
  · next h1 =>
    rw [if_neg h1] at h
    split
    · next h2 =>
      refine ⟨?_, fabs_par _⟩
      rw [fabs_sq]
      have e := fi_eq.2 h2
      have e2 := fi_sqrt2
      rw [fi_mul, fi_mul, fi_neg] at e
      rw [fi_mul]
      generalize fi sqrt2 = j at *
      generalize fi (sqr0 a b) = r at *
      grind -lia -linarith (splits := 0)
    · next h2 =>
      rw [if_neg h2] at h
      cases h
theorem sqr_complete {a b : Int} (hb : fi b ≠ 0) {x : F} (hx : fi b * (x * x) = fi a) : (sqrR a b).2 = true := by
  have hb' : ¬ b % PP = 0 := fun e => hb (fi_zero_iff.2 e)
  have hc := cand (u := fi a) (v := fi b) (m := 2 * bnum esq 256 + 1) bnum_sq rfl
  have er : fi (sqr0 a b) = fi a * (fi b * fi b * fi b) * pwF (fi a * ((fi b * fi b * fi b) * (fi b * fi b * fi b)) * fi b) (bnum esq 256) := by
    unfold sqr0
    simp only [fi_mul, fi_pw, fi_mod]
  rw [← er] at hc
  have hq : fi b * (fi (sqr0 a b) * fi (sqr0 a b)) = fi a ∨ fi b * (fi (sqr0 a b) * fi (sqr0 a b)) = - fi a := by
    rw [hc]
    by_cases hx0 : x = 0
    · left
      have : fi a = 0 := by rw [← hx, hx0]; generalize fi b = v; grind -lia -linarith (splits := 0)
      rw [this]
      generalize pwF _ _ = z
      grind -lia -linarith (splits := 0)
    · have hs : fi a * ((fi b * fi b * fi b) * (fi b * fi b * fi b)) * fi b = (x * (fi b * fi b * fi b * fi b)) * (x * (fi b * fi b * fi b * fi b)) := by
        rw [← hx]; generalize fi b = v; grind -lia -linarith (splits := 0)
      rw [hs]
      have hn : x * (fi b * fi b * fi b * fi b) ≠ 0 := mul_ne hx0 (mul_ne (mul_ne (mul_ne hb hb) hb) hb)
      rcases quarter (n := 2 * bnum esq 256 + 1) (by have := bnum_sq; omega) hn with e | e
      · left; rw [e]; grind -lia -linarith (splits := 0)
      · right; rw [e]; grind -lia -linarith (splits := 0)
  unfold sqrR
  rw [if_neg hb']
  split
  · rfl
  · next h1 =>
    split
    · rfl
    · next h2 =>
      exfalso
      rcases hq with e | e
      · apply h1; apply fi_eq.1; rw [fi_mul, fi_mul]; exact e
      · apply h2; apply fi_eq.1; rw [fi_mul, fi_mul, fi_neg]; exact e

/-! ## Decode -/
theorem root_den (y : Int) : fi (DD * (y * y) + 1) ≠ 0 := by
  have h := den_y (fi y)
  intro e
  apply h
  rw [fi_add, fi_mul, fi_mul, fi_DD, fi_1] at e
  generalize dF = d at *
  grind -lia -linarith (splits := 0)
theorem root_on {y : Int} (h : (droot y).2 = true) : On (fi (droot y).1) (fi y) := by
  have hs := (sqr_sound (root_den y) h).1
  constructor
  have e : fi (DD * (y * y) + 1) * (fi (droot y).1 * fi (droot y).1) = fi (y * y - 1) := hs
  rw [fi_add, fi_mul, fi_mul, fi_DD, fi_1, fi_sub, fi_mul, fi_1] at e
  generalize dF = d at *
  generalize fi (droot y).1 = x at *
  grind -lia -linarith (splits := 0)
theorem on_neg {x y : F} (h : On x y) : On (-x) y := ⟨by have e := h.eq; generalize dF = d at *; grind -lia -linarith (splits := 0)⟩
theorem dec_parts {p : List Int} (h : dok p = true) : dcan p = true ∧ (droot (bval (ybytes p))).2 = true ∧ ¬ (dtop p = 1 ∧ (droot (bval (ybytes p))).1 % PP = 0) := by
  unfold dok at h
  simp only [Bool.and_eq_true, Bool.not_eq_true'] at h
  refine ⟨h.1.1, h.1.2, ?_⟩
  intro hh
  have := h.2
  simp [hh.1, hh.2] at this
/-- A key that is taken tells a point. -/
theorem dec_point {p : List Int} (h : dok p = true) : ∃ P : G, Rep (dpt p) P ∧ P.y = fi (bval (ybytes p)) ∧ P.x = fi (dx p) := by
  obtain ⟨_, h2, _⟩ := dec_parts h
  have on := root_on h2
  have on2 : On (fi (dx p)) (fi (bval (ybytes p))) := by
    unfold dx
    split
    · rw [fi_neg]; exact on_neg on
    · exact on
  refine ⟨⟨_, _, on2⟩, ⟨?_, ?_, ?_, ?_⟩, rfl, rfl⟩
  · show fi 1 ≠ 0; decide +kernel
  · show fi (dx p) = fi (dx p) * fi 1; rw [fi_1]; grind -lia -linarith (splits := 0)
  · show fi (bval (ybytes p)) = fi (bval (ybytes p)) * fi 1; rw [fi_1]; grind -lia -linarith (splits := 0)
  · show fi (dx p * bval (ybytes p)) = fi (dx p) * fi (bval (ybytes p)) * fi 1; rw [fi_1, fi_mul]; grind -lia -linarith (splits := 0)
theorem ybytes_enc (x y : Int) : ybytes (encXY x y) = byt (y % PP) := (enc_parts x y).2
theorem dtop_enc (x y : Int) : dtop (encXY x y) = x % PP % 2 := (enc_parts x y).1
/-- What Encode told is taken, and tells the point. -/
theorem dec_enc (P : G) : dok (encG P) = true ∧ Rep (dpt (encG P)) P := by
  have ey : bval (ybytes (encG P)) = fv P.y := by
    unfold encG; rw [ybytes_enc, fv_mod, bval_byt (fv_rng _).1 (fv_rng _).2]
  have et : dtop (encG P) = fv P.x % 2 := by unfold encG; rw [dtop_enc, fv_mod]
  have hr : (droot (fv P.y)).2 = true := by
    refine sqr_complete (root_den _) (x := P.x) ?_
    rw [fi_add, fi_mul, fi_mul, fi_DD, fi_1, fi_sub, fi_mul, fi_1, fi_fv]
    have := P.on.eq
    generalize dF = d at *
    grind -lia -linarith (splits := 0)
  have hs := sqr_sound (root_den (fv P.y)) hr
  have hx : P.x = fi (droot (fv P.y)).1 ∨ P.x = - fi (droot (fv P.y)).1 :=
    on_same (P := P) (Q := ⟨_, _, root_on hr⟩) (fi_fv P.y).symm
  have hpar : fv (fi (droot (fv P.y)).1) % 2 = 0 := by rw [fv_fi]; exact hs.2
  have hdx : fi (dx (encG P)) = P.x := by
    unfold dx
    rw [ey, et]
    split
    · next h =>
      rw [fi_neg]
      rcases hx with e | e
      · exfalso; rw [e] at h; omega
      · exact e.symm
    · next h =>
      refine (?_ : P.x = _).symm
      rcases hx with e | e
      · exact e
      · exact par (by omega) e
  have hcan : dcan (encG P) = true := by
    unfold dcan encG ieq
    rw [ybytes_enc, fv_mod, bval_byt (fv_rng _).1 (fv_rng _).2, fval_fe, emod_pp, fv_mod]
    simp
  have hok : dok (encG P) = true := by
    unfold dok
    rw [hcan, ey, hr, et]
    simp only [Bool.and_self, Bool.true_and, Bool.not_eq_true', Bool.and_eq_false_iff, beq_eq_false_iff_ne, decide_eq_false_iff_not]
    by_cases h : fv P.x % 2 = 1
    · right
      intro h0
      have z : fi (droot (fv P.y)).1 = 0 := fi_zero_iff.2 h0
      rw [z] at hx
      have : P.x = 0 := by rcases hx with e | e <;> rw [e] <;> decide +kernel
      rw [this] at h
      revert h
      decide +kernel
    · left; exact h
  refine ⟨hok, ?_⟩
  obtain ⟨Q, hQ, qy, qx⟩ := dec_point hok
  have : Q = P := by
    refine G_ext (by rw [qx, hdx]) (by rw [qy, ey, fi_fv])
  rw [this] at hQ; exact hQ
end Go.Proofs.YtiflckckekjbnaaDoor
/- Scalars: words from bytes, bytes from words; sums and products modulo the order. -/
namespace Go.Proofs.YtiflckckekjbnaaDoor
open Go Go.Sx Go.RowKit
set_option linter.all false
set_option maxRecDepth 100000
set_option maxHeartbeats 1000000
theorem shl_b (k : Nat) {b : Int} (hk : k ≤ 56) (h : 0 ≤ b ∧ b < 256) : shlV .u64 (IntKind.wrap .u64 b) (k : Int) = b * ((2 ^ k : Nat) : Int) := by
  have hp : (0 : Int) < ((2 ^ k : Nat) : Int) := by have := Nat.pow_pos (n := k) (show 0 < 2 by decide); omega
  have hle : ((2 ^ k : Nat) : Int) ≤ 72057594037927936 := by
    have := Nat.pow_le_pow_right (show 0 < 2 by decide) hk
    have e : (2 ^ 56 : Nat) = 72057594037927936 := by decide
    omega
  have h1 : b * ((2 ^ k : Nat) : Int) ≤ 255 * 72057594037927936 := Int.mul_le_mul (by omega) hle (by omega) (by omega)
  have h0 : 0 ≤ b * ((2 ^ k : Nat) : Int) := Int.mul_nonneg h.1 (by omega)
  rw [wu64_small h.1 (by omega), shl_eq .u64 (n := k) (by show k ≤ 64; omega), wu64_small h0 (by omega)]
theorem word_le {b0 b1 b2 b3 b4 b5 b6 b7 : Int} (h0 : 0 ≤ b0 ∧ b0 < 256) (h1 : 0 ≤ b1 ∧ b1 < 256) (h2 : 0 ≤ b2 ∧ b2 < 256) (h3 : 0 ≤ b3 ∧ b3 < 256) (h4 : 0 ≤ b4 ∧ b4 < 256) (h5 : 0 ≤ b5 ∧ b5 < 256) (h6 : 0 ≤ b6 ∧ b6 < 256) (h7 : 0 ≤ b7 ∧ b7 < 256) : bitsV .or .u64 (bitsV .or .u64 (bitsV .or .u64 (bitsV .or .u64 (bitsV .or .u64 (bitsV .or .u64 (bitsV .or .u64 (bitsV .or .u64 (0) (shlV .u64 (IntKind.wrap .u64 (b0)) 0)) (shlV .u64 (IntKind.wrap .u64 (b1)) 8)) (shlV .u64 (IntKind.wrap .u64 (b2)) 16)) (shlV .u64 (IntKind.wrap .u64 (b3)) 24)) (shlV .u64 (IntKind.wrap .u64 (b4)) 32)) (shlV .u64 (IntKind.wrap .u64 (b5)) 40)) (shlV .u64 (IntKind.wrap .u64 (b6)) 48)) (shlV .u64 (IntKind.wrap .u64 (b7)) 56) = b0 + b1 * 256 + b2 * 65536 + b3 * 16777216 + b4 * 4294967296 + b5 * 1099511627776 + b6 * 281474976710656 + b7 * 72057594037927936 := by
  have s0 := shl_b 0 (by decide) h0
  have s1 := shl_b 8 (by decide) h1
  have s2 := shl_b 16 (by decide) h2
  have s3 := shl_b 24 (by decide) h3
  have s4 := shl_b 32 (by decide) h4
  have s5 := shl_b 40 (by decide) h5
  have s6 := shl_b 48 (by decide) h6
  have s7 := shl_b 56 (by decide) h7

  have t0 : shlV .u64 (IntKind.wrap .u64 b0) 0 = b0 * 1 := s0
  have t1 : shlV .u64 (IntKind.wrap .u64 b1) 8 = b1 * 256 := s1
  have t2 : shlV .u64 (IntKind.wrap .u64 b2) 16 = b2 * 65536 := s2
  have t3 : shlV .u64 (IntKind.wrap .u64 b3) 24 = b3 * 16777216 := s3
  have t4 : shlV .u64 (IntKind.wrap .u64 b4) 32 = b4 * 4294967296 := s4
  have t5 : shlV .u64 (IntKind.wrap .u64 b5) 40 = b5 * 1099511627776 := s5
  have t6 : shlV .u64 (IntKind.wrap .u64 b6) 48 = b6 * 281474976710656 := s6
  have t7 : shlV .u64 (IntKind.wrap .u64 b7) 56 = b7 * 72057594037927936 := s7
  rw [t0, t1, t2, t3, t4, t5, t6, t7]
  rw [or_add' 0 (x := b0 * 1) (y := 0) (a := b0) rfl (by omega) (by omega) (by decide) (by omega)]
  rw [or_add' 8 (x := b1 * 256) (a := b1) rfl (by omega) (by omega) (by show _ < (256 : Int); omega) (by omega)]
  rw [or_add' 16 (x := b2 * 65536) (a := b2) rfl (by omega) (by omega) (by show _ < (65536 : Int); omega) (by omega)]
  rw [or_add' 24 (x := b3 * 16777216) (a := b3) rfl (by omega) (by omega) (by show _ < (16777216 : Int); omega) (by omega)]
  rw [or_add' 32 (x := b4 * 4294967296) (a := b4) rfl (by omega) (by omega) (by show _ < (4294967296 : Int); omega) (by omega)]
  rw [or_add' 40 (x := b5 * 1099511627776) (a := b5) rfl (by omega) (by omega) (by show _ < (1099511627776 : Int); omega) (by omega)]
  rw [or_add' 48 (x := b6 * 281474976710656) (a := b6) rfl (by omega) (by omega) (by show _ < (281474976710656 : Int); omega) (by omega)]
  rw [or_add' 56 (x := b7 * 72057594037927936) (a := b7) rfl (by omega) (by omega) (by show _ < (72057594037927936 : Int); omega) (by omega)]
  omega
theorem load_val {p : List Int} (h : Byt p) : ∃ r, scalar_load p = some r ∧ W64 r ∧ r.length = 4 ∧ V4 r = sval p := by
  refine ⟨_, loadLE_run p, w64_of ?_, rfl, ?_⟩
  · repeat' (first | exact or_rng _ _ | exact List.forall_mem_nil _ | refine List.forall_mem_cons.2 ⟨?_, ?_⟩)
  · unfold V4
    simp only [List.getD_cons_zero, List.getD_cons_succ]
    rw [word_le (h 0) (h 1) (h 2) (h 3) (h 4) (h 5) (h 6) (h 7)]
    rw [word_le (h 8) (h 9) (h 10) (h 11) (h 12) (h 13) (h 14) (h 15)]
    rw [word_le (h 16) (h 17) (h 18) (h 19) (h 20) (h 21) (h 22) (h 23)]
    rw [word_le (h 24) (h 25) (h 26) (h 27) (h 28) (h 29) (h 30) (h 31)]
    unfold sval
    omega
theorem shr8_eq (x : Int) : shrV .u64 x 8 = x / 256 := by have := shr_eq .u64 (x := x) (n := 8) (by decide); simpa using this
theorem V4_part {p : List Int} (h : W64 p) : V4 p % 18446744073709551616 = p.getD 0 0 ∧ V4 p / 18446744073709551616 % 18446744073709551616 = p.getD 1 0 ∧ V4 p / 340282366920938463463374607431768211456 % 18446744073709551616 = p.getD 2 0 ∧ V4 p / 6277101735386680763835789423207666416102355444464034512896 % 18446744073709551616 = p.getD 3 0 := by
  have h0 := h 0
  have h1 := h 1
  have h2 := h 2
  have h3 := h 3
  unfold V4
  refine ⟨by omega, by omega, by omega, by omega⟩
theorem sb_0 {n x : Int} (h : n % 18446744073709551616 = x) : IntKind.wrap .u8 (x) = n % 256 := by
  simp only [shr8_eq, wu8_eq]
  omega
theorem sb_1 {n x : Int} (h : n % 18446744073709551616 = x) : IntKind.wrap .u8 (shrV .u64 (x) 8) = n / 256 % 256 := by
  simp only [shr8_eq, wu8_eq]
  omega
theorem sb_2 {n x : Int} (h : n % 18446744073709551616 = x) : IntKind.wrap .u8 (shrV .u64 (shrV .u64 (x) 8) 8) = n / 65536 % 256 := by
  simp only [shr8_eq, wu8_eq]
  omega
theorem sb_3 {n x : Int} (h : n % 18446744073709551616 = x) : IntKind.wrap .u8 (shrV .u64 (shrV .u64 (shrV .u64 (x) 8) 8) 8) = n / 16777216 % 256 := by
  simp only [shr8_eq, wu8_eq]
  omega
theorem sb_4 {n x : Int} (h : n % 18446744073709551616 = x) : IntKind.wrap .u8 (shrV .u64 (shrV .u64 (shrV .u64 (shrV .u64 (x) 8) 8) 8) 8) = n / 4294967296 % 256 := by
  simp only [shr8_eq, wu8_eq]
  omega
theorem sb_5 {n x : Int} (h : n % 18446744073709551616 = x) : IntKind.wrap .u8 (shrV .u64 (shrV .u64 (shrV .u64 (shrV .u64 (shrV .u64 (x) 8) 8) 8) 8) 8) = n / 1099511627776 % 256 := by
  simp only [shr8_eq, wu8_eq]
  omega
theorem sb_6 {n x : Int} (h : n % 18446744073709551616 = x) : IntKind.wrap .u8 (shrV .u64 (shrV .u64 (shrV .u64 (shrV .u64 (shrV .u64 (shrV .u64 (x) 8) 8) 8) 8) 8) 8) = n / 281474976710656 % 256 := by
  simp only [shr8_eq, wu8_eq]
  omega
theorem sb_7 {n x : Int} (h : n % 18446744073709551616 = x) : IntKind.wrap .u8 (shrV .u64 (shrV .u64 (shrV .u64 (shrV .u64 (shrV .u64 (shrV .u64 (shrV .u64 (x) 8) 8) 8) 8) 8) 8) 8) = n / 72057594037927936 % 256 := by
  simp only [shr8_eq, wu8_eq]
  omega
theorem sb_8 {n x : Int} (h : n / 18446744073709551616 % 18446744073709551616 = x) : IntKind.wrap .u8 (x) = n / 18446744073709551616 % 256 := by
  simp only [shr8_eq, wu8_eq]
  omega
theorem sb_9 {n x : Int} (h : n / 18446744073709551616 % 18446744073709551616 = x) : IntKind.wrap .u8 (shrV .u64 (x) 8) = n / 4722366482869645213696 % 256 := by
  simp only [shr8_eq, wu8_eq]
  omega
theorem sb_10 {n x : Int} (h : n / 18446744073709551616 % 18446744073709551616 = x) : IntKind.wrap .u8 (shrV .u64 (shrV .u64 (x) 8) 8) = n / 1208925819614629174706176 % 256 := by
  simp only [shr8_eq, wu8_eq]
  omega
theorem sb_11 {n x : Int} (h : n / 18446744073709551616 % 18446744073709551616 = x) : IntKind.wrap .u8 (shrV .u64 (shrV .u64 (shrV .u64 (x) 8) 8) 8) = n / 309485009821345068724781056 % 256 := by
  simp only [shr8_eq, wu8_eq]
  omega
theorem sb_12 {n x : Int} (h : n / 18446744073709551616 % 18446744073709551616 = x) : IntKind.wrap .u8 (shrV .u64 (shrV .u64 (shrV .u64 (shrV .u64 (x) 8) 8) 8) 8) = n / 79228162514264337593543950336 % 256 := by
  simp only [shr8_eq, wu8_eq]
  omega
theorem sb_13 {n x : Int} (h : n / 18446744073709551616 % 18446744073709551616 = x) : IntKind.wrap .u8 (shrV .u64 (shrV .u64 (shrV .u64 (shrV .u64 (shrV .u64 (x) 8) 8) 8) 8) 8) = n / 20282409603651670423947251286016 % 256 := by
  simp only [shr8_eq, wu8_eq]
  omega
theorem sb_14 {n x : Int} (h : n / 18446744073709551616 % 18446744073709551616 = x) : IntKind.wrap .u8 (shrV .u64 (shrV .u64 (shrV .u64 (shrV .u64 (shrV .u64 (shrV .u64 (x) 8) 8) 8) 8) 8) 8) = n / 5192296858534827628530496329220096 % 256 := by
  simp only [shr8_eq, wu8_eq]
  omega
theorem sb_15 {n x : Int} (h : n / 18446744073709551616 % 18446744073709551616 = x) : IntKind.wrap .u8 (shrV .u64 (shrV .u64 (shrV .u64 (shrV .u64 (shrV .u64 (shrV .u64 (shrV .u64 (x) 8) 8) 8) 8) 8) 8) 8) = n / 1329227995784915872903807060280344576 % 256 := by
  simp only [shr8_eq, wu8_eq]
  omega
theorem sb_16 {n x : Int} (h : n / 340282366920938463463374607431768211456 % 18446744073709551616 = x) : IntKind.wrap .u8 (x) = n / 340282366920938463463374607431768211456 % 256 := by
  simp only [shr8_eq, wu8_eq]
  omega
theorem sb_17 {n x : Int} (h : n / 340282366920938463463374607431768211456 % 18446744073709551616 = x) : IntKind.wrap .u8 (shrV .u64 (x) 8) = n / 87112285931760246646623899502532662132736 % 256 := by
  simp only [shr8_eq, wu8_eq]
  omega
theorem sb_18 {n x : Int} (h : n / 340282366920938463463374607431768211456 % 18446744073709551616 = x) : IntKind.wrap .u8 (shrV .u64 (shrV .u64 (x) 8) 8) = n / 22300745198530623141535718272648361505980416 % 256 := by
  simp only [shr8_eq, wu8_eq]
  omega
theorem sb_19 {n x : Int} (h : n / 340282366920938463463374607431768211456 % 18446744073709551616 = x) : IntKind.wrap .u8 (shrV .u64 (shrV .u64 (shrV .u64 (x) 8) 8) 8) = n / 5708990770823839524233143877797980545530986496 % 256 := by
  simp only [shr8_eq, wu8_eq]
  omega
theorem sb_20 {n x : Int} (h : n / 340282366920938463463374607431768211456 % 18446744073709551616 = x) : IntKind.wrap .u8 (shrV .u64 (shrV .u64 (shrV .u64 (shrV .u64 (x) 8) 8) 8) 8) = n / 1461501637330902918203684832716283019655932542976 % 256 := by
  simp only [shr8_eq, wu8_eq]
  omega
theorem sb_21 {n x : Int} (h : n / 340282366920938463463374607431768211456 % 18446744073709551616 = x) : IntKind.wrap .u8 (shrV .u64 (shrV .u64 (shrV .u64 (shrV .u64 (shrV .u64 (x) 8) 8) 8) 8) 8) = n / 374144419156711147060143317175368453031918731001856 % 256 := by
  simp only [shr8_eq, wu8_eq]
  omega
theorem sb_22 {n x : Int} (h : n / 340282366920938463463374607431768211456 % 18446744073709551616 = x) : IntKind.wrap .u8 (shrV .u64 (shrV .u64 (shrV .u64 (shrV .u64 (shrV .u64 (shrV .u64 (x) 8) 8) 8) 8) 8) 8) = n / 95780971304118053647396689196894323976171195136475136 % 256 := by
  simp only [shr8_eq, wu8_eq]
  omega
theorem sb_23 {n x : Int} (h : n / 340282366920938463463374607431768211456 % 18446744073709551616 = x) : IntKind.wrap .u8 (shrV .u64 (shrV .u64 (shrV .u64 (shrV .u64 (shrV .u64 (shrV .u64 (shrV .u64 (x) 8) 8) 8) 8) 8) 8) 8) = n / 24519928653854221733733552434404946937899825954937634816 % 256 := by
  simp only [shr8_eq, wu8_eq]
  omega
theorem sb_24 {n x : Int} (h : n / 6277101735386680763835789423207666416102355444464034512896 % 18446744073709551616 = x) : IntKind.wrap .u8 (x) = n / 6277101735386680763835789423207666416102355444464034512896 % 256 := by
  simp only [shr8_eq, wu8_eq]
  omega
theorem sb_25 {n x : Int} (h : n / 6277101735386680763835789423207666416102355444464034512896 % 18446744073709551616 = x) : IntKind.wrap .u8 (shrV .u64 (x) 8) = n / 1606938044258990275541962092341162602522202993782792835301376 % 256 := by
  simp only [shr8_eq, wu8_eq]
  omega
theorem sb_26 {n x : Int} (h : n / 6277101735386680763835789423207666416102355444464034512896 % 18446744073709551616 = x) : IntKind.wrap .u8 (shrV .u64 (shrV .u64 (x) 8) 8) = n / 411376139330301510538742295639337626245683966408394965837152256 % 256 := by
  simp only [shr8_eq, wu8_eq]
  omega
theorem sb_27 {n x : Int} (h : n / 6277101735386680763835789423207666416102355444464034512896 % 18446744073709551616 = x) : IntKind.wrap .u8 (shrV .u64 (shrV .u64 (shrV .u64 (x) 8) 8) 8) = n / 105312291668557186697918027683670432318895095400549111254310977536 % 256 := by
  simp only [shr8_eq, wu8_eq]
  omega
theorem sb_28 {n x : Int} (h : n / 6277101735386680763835789423207666416102355444464034512896 % 18446744073709551616 = x) : IntKind.wrap .u8 (shrV .u64 (shrV .u64 (shrV .u64 (shrV .u64 (x) 8) 8) 8) 8) = n / 26959946667150639794667015087019630673637144422540572481103610249216 % 256 := by
  simp only [shr8_eq, wu8_eq]
  omega
theorem sb_29 {n x : Int} (h : n / 6277101735386680763835789423207666416102355444464034512896 % 18446744073709551616 = x) : IntKind.wrap .u8 (shrV .u64 (shrV .u64 (shrV .u64 (shrV .u64 (shrV .u64 (x) 8) 8) 8) 8) 8) = n / 6901746346790563787434755862277025452451108972170386555162524223799296 % 256 := by
  simp only [shr8_eq, wu8_eq]
  omega
theorem sb_30 {n x : Int} (h : n / 6277101735386680763835789423207666416102355444464034512896 % 18446744073709551616 = x) : IntKind.wrap .u8 (shrV .u64 (shrV .u64 (shrV .u64 (shrV .u64 (shrV .u64 (shrV .u64 (x) 8) 8) 8) 8) 8) 8) = n / 1766847064778384329583297500742918515827483896875618958121606201292619776 % 256 := by
  simp only [shr8_eq, wu8_eq]
  omega
theorem sb_31 {n x : Int} (h : n / 6277101735386680763835789423207666416102355444464034512896 % 18446744073709551616 = x) : IntKind.wrap .u8 (shrV .u64 (shrV .u64 (shrV .u64 (shrV .u64 (shrV .u64 (shrV .u64 (shrV .u64 (x) 8) 8) 8) 8) 8) 8) 8) = n / 452312848583266388373324160190187140051835877600158453279131187530910662656 % 256 := by
  simp only [shr8_eq, wu8_eq]
  omega
theorem store_val {p : List Int} (h : W64 p) : scalar_store p = some (byt (V4 p)) := by
  obtain ⟨e0, e1, e2, e3⟩ := V4_part h
  rw [store_run]
  unfold byt
  rw [sb_0 e0, sb_1 e0, sb_2 e0, sb_3 e0, sb_4 e0, sb_5 e0, sb_6 e0, sb_7 e0, sb_8 e1, sb_9 e1, sb_10 e1, sb_11 e1, sb_12 e1, sb_13 e1, sb_14 e1, sb_15 e1, sb_16 e2, sb_17 e2, sb_18 e2, sb_19 e2, sb_20 e2, sb_21 e2, sb_22 e2, sb_23 e2, sb_24 e3, sb_25 e3, sb_26 e3, sb_27 e3, sb_28 e3, sb_29 e3, sb_30 e3, sb_31 e3]
theorem sval_byt {n : Int} (h0 : 0 ≤ n) (h1 : n < 115792089237316195423570985008687907853269984665640564039457584007913129639936) : sval (byt n) = n := by
  simp only [sval, byt, List.getD_cons_zero, List.getD_cons_succ]
  omega
theorem pV_four (r : List Int) : pV r 4 = V4 r := by
  simp only [pV, V4]
  have e1 : (18446744073709551616 : Int) ^ 0 = 1 := by decide
  have e2 : (18446744073709551616 : Int) ^ 1 = 18446744073709551616 := by decide
  have e3 : (18446744073709551616 : Int) ^ 2 = 340282366920938463463374607431768211456 := by decide
  have e4 : (18446744073709551616 : Int) ^ 3 = 6277101735386680763835789423207666416102355444464034512896 := by decide
  rw [e1, e2, e3, e4]
  omega
theorem words_val {p : List Int} (h : Byt p) : ∃ r, scalar_words p = some r ∧ W64 r ∧ r.length = 4 ∧ pV r r.length = sval p := by
  obtain ⟨r, e, w, l, v⟩ := load_val h
  refine ⟨r, ?_, w, l, by rw [l, pV_four, v]⟩
  rw [scalar_words, opt_some e, tk_all l]
theorem mod_val {p : List Int} (h : Byt p) : ∃ r, scalar_mod p = some r ∧ W64 r ∧ V4 r = sval p % VL := by
  obtain ⟨r, e, w, l, v⟩ := words_val h
  obtain ⟨s, e2, w2, v2⟩ := reduce_val w (by omega)
  exact ⟨s, by rw [scalar_mod, opt_some e, opt_some e2], w2, by rw [v2, v]⟩
theorem VL_rng (n : Int) : 0 ≤ n % VL ∧ n % VL < VL := ⟨Int.emod_nonneg _ (by decide), Int.emod_lt_of_pos _ (by decide)⟩
theorem sMul_val {p q : List Int} (hp : Byt p) (hq : Byt q) : scalar_Mul p q = some (byt (sval p * sval q % VL)) := by
  obtain ⟨a, e1, w1, l1, v1⟩ := words_val hp
  obtain ⟨b, e2, w2, l2, v2⟩ := words_val hq
  obtain ⟨c, e3, l3, w3, v3⟩ := times_val w1 w2 (by omega)
  obtain ⟨d, e4, w4, v4⟩ := reduce_val w3 (by omega)
  rw [scalar_Mul, opt_some e1, opt_some e2, opt_some e3, opt_some e4, opt_some (store_val w4), v4, v3, v1, v2]
theorem sAdd_val {p q : List Int} (hp : Byt p) (hq : Byt q) : scalar_Add p q = some (byt ((sval p + sval q) % VL)) := by
  obtain ⟨a, e1, w1, v1⟩ := mod_val hp
  obtain ⟨b, e2, w2, v2⟩ := mod_val hq
  obtain ⟨c, o, e3, w3, ho, v3⟩ := plus_eq w1 w2
  obtain ⟨d, e4, w4, v4⟩ := below_eq w3
  have h1 := VL_rng (sval p)
  have h2 := VL_rng (sval q)
  have h3 := V4_rng w3
  have e : V4 c = sval p % VL + sval q % VL := by
    rw [v1, v2] at v3
    unfold VL B4 at *
    rcases ho with h | h <;> subst h <;> omega
  rw [scalar_Add, opt_some e1, opt_some e2, opt_some e3, opt_some e4, opt_some (store_val w4), v4, e, ← Int.add_emod]
theorem sMulAdd_val {p q r : List Int} (hp : Byt p) (hq : Byt q) (hr : Byt r) : scalar_MulAdd p q r = some (byt ((sval p * sval q + sval r) % VL)) := by
  have h := VL_rng (sval p * sval q)
  rw [scalar_MulAdd, opt_some (sMul_val hp hq), opt_some (sAdd_val (byt_byt _) hr), sval_byt h.1 (by unfold VL at h ⊢; omega), Int.emod_add_emod]
theorem sCanon_val {p : List Int} (h : Byt p) : scalar_Canonical p = some (decide (sval p < VL)) := by
  obtain ⟨r, e, w, l, v⟩ := load_val h
  obtain ⟨a, c, e2, wa, hc, va⟩ := minus_eq w W64_order
  have ha := V4_rng wa
  have hr := V4_rng w
  rw [V4_order] at va
  rw [scalar_Canonical, opt_some e, opt_some e2, ← v]
  rcases hc with h | h
  · subst h
    rw [decide_eq_false (by omega)]; rfl
  · subst h
    rw [decide_eq_true (by unfold B4 at *; omega)]; rfl
/-- What 64 bytes tell. -/
def wval (x : List Int) : Int := x.getD 0 0 + x.getD 1 0 * 256 + x.getD 2 0 * 65536 + x.getD 3 0 * 16777216 + x.getD 4 0 * 4294967296 + x.getD 5 0 * 1099511627776 + x.getD 6 0 * 281474976710656 + x.getD 7 0 * 72057594037927936 + x.getD 8 0 * 18446744073709551616 + x.getD 9 0 * 4722366482869645213696 + x.getD 10 0 * 1208925819614629174706176 + x.getD 11 0 * 309485009821345068724781056 + x.getD 12 0 * 79228162514264337593543950336 + x.getD 13 0 * 20282409603651670423947251286016 + x.getD 14 0 * 5192296858534827628530496329220096 + x.getD 15 0 * 1329227995784915872903807060280344576 + x.getD 16 0 * 340282366920938463463374607431768211456 + x.getD 17 0 * 87112285931760246646623899502532662132736 + x.getD 18 0 * 22300745198530623141535718272648361505980416 + x.getD 19 0 * 5708990770823839524233143877797980545530986496 + x.getD 20 0 * 1461501637330902918203684832716283019655932542976 + x.getD 21 0 * 374144419156711147060143317175368453031918731001856 + x.getD 22 0 * 95780971304118053647396689196894323976171195136475136 + x.getD 23 0 * 24519928653854221733733552434404946937899825954937634816 + x.getD 24 0 * 6277101735386680763835789423207666416102355444464034512896 + x.getD 25 0 * 1606938044258990275541962092341162602522202993782792835301376 + x.getD 26 0 * 411376139330301510538742295639337626245683966408394965837152256 + x.getD 27 0 * 105312291668557186697918027683670432318895095400549111254310977536 + x.getD 28 0 * 26959946667150639794667015087019630673637144422540572481103610249216 + x.getD 29 0 * 6901746346790563787434755862277025452451108972170386555162524223799296 + x.getD 30 0 * 1766847064778384329583297500742918515827483896875618958121606201292619776 + x.getD 31 0 * 452312848583266388373324160190187140051835877600158453279131187530910662656 + x.getD 32 0 * 115792089237316195423570985008687907853269984665640564039457584007913129639936 + x.getD 33 0 * 29642774844752946028434172162224104410437116074403984394101141506025761187823616 + x.getD 34 0 * 7588550360256754183279148073529370729071901715047420004889892225542594864082845696 + x.getD 35 0 * 1942668892225729070919461906823518906642406839052139521251812409738904285205208498176 + x.getD 36 0 * 497323236409786642155382248146820840100456150797347717440463976893159497012533375533056 + x.getD 37 0 * 127314748520905380391777855525586135065716774604121015664758778084648831235208544136462336 + x.getD 38 0 * 32592575621351777380295131014550050576823494298654980010178247189670100796213387298934358016 + x.getD 39 0 * 8343699359066055009355553539724812947666814540455674882605631280555545803830627148527195652096 + x.getD 40 0 * 2135987035920910082395021706169552114602704522356652769947041607822219725780640550022962086936576 + x.getD 41 0 * 546812681195752981093125556779405341338292357723303109106442651602488249799843980805878294255763456 + x.getD 42 0 * 139984046386112763159840142535527767382602843577165595931249318810236991948760059086304843329475444736 + x.getD 43 0 * 35835915874844867368919076489095108449946327955754392558399825615420669938882575126094039892345713852416 + x.getD 44 0 * 9173994463960286046443283581208347763186259956673124494950355357547691504353939232280074212440502746218496 + x.getD 45 0 * 2348542582773833227889480596789337027375682548908319870707290971532209025114608443463698998384768703031934976 + x.getD 46 0 * 601226901190101306339707032778070279008174732520529886901066488712245510429339761526706943586500787976175353856 + x.getD 47 0 * 153914086704665934422965000391185991426092731525255651046673021110334850669910978950836977558144201721900890587136 + x.getD 48 0 * 39402006196394479212279040100143613805079739270465446667948293404245721771497210611414266254884915640806627990306816 + x.getD 49 0 * 10086913586276986678343434265636765134100413253239154346994763111486904773503285916522052161250538404046496765518544896 + x.getD 50 0 * 2582249878086908589655919172003011874329705792829223512830659356540647622016841194629645353280137831435903171972747493376 + x.getD 51 0 * 661055968790248598951915308032771039828404682964281219284648795274405791236311345825189210439715284847591212025023358304256 + x.getD 52 0 * 169230328010303641331690318856389386196071598838855992136870091590247882556495704531248437872567112920983350278405979725889536 + x.getD 53 0 * 43322963970637732180912721627235682866194329302747133987038743447103457934462900359999600095377180907771737671271930809827721216 + x.getD 54 0 * 11090678776483259438313656736572334813745748301503266300681918322458485231222502492159897624416558312389564843845614287315896631296 + x.getD 55 0 * 2839213766779714416208296124562517712318911565184836172974571090549372219192960637992933791850638927971728600024477257552869537611776 + x.getD 56 0 * 726838724295606890549323807888004534353641360687318060281490199180639288113397923326191050713763565560762521606266177933534601628614656 + x.getD 57 0 * 186070713419675363980626894819329160794532188335953423432061490990243657757029868371504908982723472783555205531204141550984858016925351936 + x.getD 58 0 * 47634102635436893179040485073748265163400240214004076398607741693502376385799646303105256699577209032590132615988260237052123652332890095616 + x.getD 59 0 * 12194330274671844653834364178879555881830461494785043558043581873536608354764709453594945715091765512343073949692994620685343654997219864477696 + x.getD 60 0 * 3121748550315992231381597229793166305748598142664971150859156959625371738819765620120306103063491971159826931121406622895447975679288285306290176 + x.getD 61 0 * 799167628880894011233688890827050574271641124522232614619944181664095165137859998750798362384253944616915694367080095461234681773897801038410285056 + x.getD 62 0 * 204586912993508866875824356051724947013540127877691549342705710506008362275292159680204380770369009821930417757972504438076078534117837065833032974336 + x.getD 63 0 * 52374249726338269920211035149241586435466272736689036631732661889538140742474792878132321477214466514414186946040961136147476104734166288853256441430016
theorem Reduce_val {p : List Int} (h : Byt p) : scalar_Reduce p = some (byt (wval p % VL)) := by
  rw [scalar_Reduce, jn_eq, Reduce_run]
  have hw : W64 ([bitsV .or .u64 (bitsV .or .u64 (bitsV .or .u64 (bitsV .or .u64 (bitsV .or .u64 (bitsV .or .u64 (bitsV .or .u64 (bitsV .or .u64 (0) (shlV .u64 (IntKind.wrap .u64 (p.getD 0 0)) 0)) (shlV .u64 (IntKind.wrap .u64 (p.getD 1 0)) 8)) (shlV .u64 (IntKind.wrap .u64 (p.getD 2 0)) 16)) (shlV .u64 (IntKind.wrap .u64 (p.getD 3 0)) 24)) (shlV .u64 (IntKind.wrap .u64 (p.getD 4 0)) 32)) (shlV .u64 (IntKind.wrap .u64 (p.getD 5 0)) 40)) (shlV .u64 (IntKind.wrap .u64 (p.getD 6 0)) 48)) (shlV .u64 (IntKind.wrap .u64 (p.getD 7 0)) 56), bitsV .or .u64 (bitsV .or .u64 (bitsV .or .u64 (bitsV .or .u64 (bitsV .or .u64 (bitsV .or .u64 (bitsV .or .u64 (bitsV .or .u64 (0) (shlV .u64 (IntKind.wrap .u64 (p.getD 8 0)) 0)) (shlV .u64 (IntKind.wrap .u64 (p.getD 9 0)) 8)) (shlV .u64 (IntKind.wrap .u64 (p.getD 10 0)) 16)) (shlV .u64 (IntKind.wrap .u64 (p.getD 11 0)) 24)) (shlV .u64 (IntKind.wrap .u64 (p.getD 12 0)) 32)) (shlV .u64 (IntKind.wrap .u64 (p.getD 13 0)) 40)) (shlV .u64 (IntKind.wrap .u64 (p.getD 14 0)) 48)) (shlV .u64 (IntKind.wrap .u64 (p.getD 15 0)) 56), bitsV .or .u64 (bitsV .or .u64 (bitsV .or .u64 (bitsV .or .u64 (bitsV .or .u64 (bitsV .or .u64 (bitsV .or .u64 (bitsV .or .u64 (0) (shlV .u64 (IntKind.wrap .u64 (p.getD 16 0)) 0)) (shlV .u64 (IntKind.wrap .u64 (p.getD 17 0)) 8)) (shlV .u64 (IntKind.wrap .u64 (p.getD 18 0)) 16)) (shlV .u64 (IntKind.wrap .u64 (p.getD 19 0)) 24)) (shlV .u64 (IntKind.wrap .u64 (p.getD 20 0)) 32)) (shlV .u64 (IntKind.wrap .u64 (p.getD 21 0)) 40)) (shlV .u64 (IntKind.wrap .u64 (p.getD 22 0)) 48)) (shlV .u64 (IntKind.wrap .u64 (p.getD 23 0)) 56), bitsV .or .u64 (bitsV .or .u64 (bitsV .or .u64 (bitsV .or .u64 (bitsV .or .u64 (bitsV .or .u64 (bitsV .or .u64 (bitsV .or .u64 (0) (shlV .u64 (IntKind.wrap .u64 (p.getD 24 0)) 0)) (shlV .u64 (IntKind.wrap .u64 (p.getD 25 0)) 8)) (shlV .u64 (IntKind.wrap .u64 (p.getD 26 0)) 16)) (shlV .u64 (IntKind.wrap .u64 (p.getD 27 0)) 24)) (shlV .u64 (IntKind.wrap .u64 (p.getD 28 0)) 32)) (shlV .u64 (IntKind.wrap .u64 (p.getD 29 0)) 40)) (shlV .u64 (IntKind.wrap .u64 (p.getD 30 0)) 48)) (shlV .u64 (IntKind.wrap .u64 (p.getD 31 0)) 56), bitsV .or .u64 (bitsV .or .u64 (bitsV .or .u64 (bitsV .or .u64 (bitsV .or .u64 (bitsV .or .u64 (bitsV .or .u64 (bitsV .or .u64 (0) (shlV .u64 (IntKind.wrap .u64 (p.getD 32 0)) 0)) (shlV .u64 (IntKind.wrap .u64 (p.getD 33 0)) 8)) (shlV .u64 (IntKind.wrap .u64 (p.getD 34 0)) 16)) (shlV .u64 (IntKind.wrap .u64 (p.getD 35 0)) 24)) (shlV .u64 (IntKind.wrap .u64 (p.getD 36 0)) 32)) (shlV .u64 (IntKind.wrap .u64 (p.getD 37 0)) 40)) (shlV .u64 (IntKind.wrap .u64 (p.getD 38 0)) 48)) (shlV .u64 (IntKind.wrap .u64 (p.getD 39 0)) 56), bitsV .or .u64 (bitsV .or .u64 (bitsV .or .u64 (bitsV .or .u64 (bitsV .or .u64 (bitsV .or .u64 (bitsV .or .u64 (bitsV .or .u64 (0) (shlV .u64 (IntKind.wrap .u64 (p.getD 40 0)) 0)) (shlV .u64 (IntKind.wrap .u64 (p.getD 41 0)) 8)) (shlV .u64 (IntKind.wrap .u64 (p.getD 42 0)) 16)) (shlV .u64 (IntKind.wrap .u64 (p.getD 43 0)) 24)) (shlV .u64 (IntKind.wrap .u64 (p.getD 44 0)) 32)) (shlV .u64 (IntKind.wrap .u64 (p.getD 45 0)) 40)) (shlV .u64 (IntKind.wrap .u64 (p.getD 46 0)) 48)) (shlV .u64 (IntKind.wrap .u64 (p.getD 47 0)) 56), bitsV .or .u64 (bitsV .or .u64 (bitsV .or .u64 (bitsV .or .u64 (bitsV .or .u64 (bitsV .or .u64 (bitsV .or .u64 (bitsV .or .u64 (0) (shlV .u64 (IntKind.wrap .u64 (p.getD 48 0)) 0)) (shlV .u64 (IntKind.wrap .u64 (p.getD 49 0)) 8)) (shlV .u64 (IntKind.wrap .u64 (p.getD 50 0)) 16)) (shlV .u64 (IntKind.wrap .u64 (p.getD 51 0)) 24)) (shlV .u64 (IntKind.wrap .u64 (p.getD 52 0)) 32)) (shlV .u64 (IntKind.wrap .u64 (p.getD 53 0)) 40)) (shlV .u64 (IntKind.wrap .u64 (p.getD 54 0)) 48)) (shlV .u64 (IntKind.wrap .u64 (p.getD 55 0)) 56), bitsV .or .u64 (bitsV .or .u64 (bitsV .or .u64 (bitsV .or .u64 (bitsV .or .u64 (bitsV .or .u64 (bitsV .or .u64 (bitsV .or .u64 (0) (shlV .u64 (IntKind.wrap .u64 (p.getD 56 0)) 0)) (shlV .u64 (IntKind.wrap .u64 (p.getD 57 0)) 8)) (shlV .u64 (IntKind.wrap .u64 (p.getD 58 0)) 16)) (shlV .u64 (IntKind.wrap .u64 (p.getD 59 0)) 24)) (shlV .u64 (IntKind.wrap .u64 (p.getD 60 0)) 32)) (shlV .u64 (IntKind.wrap .u64 (p.getD 61 0)) 40)) (shlV .u64 (IntKind.wrap .u64 (p.getD 62 0)) 48)) (shlV .u64 (IntKind.wrap .u64 (p.getD 63 0)) 56)]) := w64_of (by
    repeat' (first | exact or_rng _ _ | exact List.forall_mem_nil _ | refine List.forall_mem_cons.2 ⟨?_, ?_⟩))
  have hv : pV ([bitsV .or .u64 (bitsV .or .u64 (bitsV .or .u64 (bitsV .or .u64 (bitsV .or .u64 (bitsV .or .u64 (bitsV .or .u64 (bitsV .or .u64 (0) (shlV .u64 (IntKind.wrap .u64 (p.getD 0 0)) 0)) (shlV .u64 (IntKind.wrap .u64 (p.getD 1 0)) 8)) (shlV .u64 (IntKind.wrap .u64 (p.getD 2 0)) 16)) (shlV .u64 (IntKind.wrap .u64 (p.getD 3 0)) 24)) (shlV .u64 (IntKind.wrap .u64 (p.getD 4 0)) 32)) (shlV .u64 (IntKind.wrap .u64 (p.getD 5 0)) 40)) (shlV .u64 (IntKind.wrap .u64 (p.getD 6 0)) 48)) (shlV .u64 (IntKind.wrap .u64 (p.getD 7 0)) 56), bitsV .or .u64 (bitsV .or .u64 (bitsV .or .u64 (bitsV .or .u64 (bitsV .or .u64 (bitsV .or .u64 (bitsV .or .u64 (bitsV .or .u64 (0) (shlV .u64 (IntKind.wrap .u64 (p.getD 8 0)) 0)) (shlV .u64 (IntKind.wrap .u64 (p.getD 9 0)) 8)) (shlV .u64 (IntKind.wrap .u64 (p.getD 10 0)) 16)) (shlV .u64 (IntKind.wrap .u64 (p.getD 11 0)) 24)) (shlV .u64 (IntKind.wrap .u64 (p.getD 12 0)) 32)) (shlV .u64 (IntKind.wrap .u64 (p.getD 13 0)) 40)) (shlV .u64 (IntKind.wrap .u64 (p.getD 14 0)) 48)) (shlV .u64 (IntKind.wrap .u64 (p.getD 15 0)) 56), bitsV .or .u64 (bitsV .or .u64 (bitsV .or .u64 (bitsV .or .u64 (bitsV .or .u64 (bitsV .or .u64 (bitsV .or .u64 (bitsV .or .u64 (0) (shlV .u64 (IntKind.wrap .u64 (p.getD 16 0)) 0)) (shlV .u64 (IntKind.wrap .u64 (p.getD 17 0)) 8)) (shlV .u64 (IntKind.wrap .u64 (p.getD 18 0)) 16)) (shlV .u64 (IntKind.wrap .u64 (p.getD 19 0)) 24)) (shlV .u64 (IntKind.wrap .u64 (p.getD 20 0)) 32)) (shlV .u64 (IntKind.wrap .u64 (p.getD 21 0)) 40)) (shlV .u64 (IntKind.wrap .u64 (p.getD 22 0)) 48)) (shlV .u64 (IntKind.wrap .u64 (p.getD 23 0)) 56), bitsV .or .u64 (bitsV .or .u64 (bitsV .or .u64 (bitsV .or .u64 (bitsV .or .u64 (bitsV .or .u64 (bitsV .or .u64 (bitsV .or .u64 (0) (shlV .u64 (IntKind.wrap .u64 (p.getD 24 0)) 0)) (shlV .u64 (IntKind.wrap .u64 (p.getD 25 0)) 8)) (shlV .u64 (IntKind.wrap .u64 (p.getD 26 0)) 16)) (shlV .u64 (IntKind.wrap .u64 (p.getD 27 0)) 24)) (shlV .u64 (IntKind.wrap .u64 (p.getD 28 0)) 32)) (shlV .u64 (IntKind.wrap .u64 (p.getD 29 0)) 40)) (shlV .u64 (IntKind.wrap .u64 (p.getD 30 0)) 48)) (shlV .u64 (IntKind.wrap .u64 (p.getD 31 0)) 56), bitsV .or .u64 (bitsV .or .u64 (bitsV .or .u64 (bitsV .or .u64 (bitsV .or .u64 (bitsV .or .u64 (bitsV .or .u64 (bitsV .or .u64 (0) (shlV .u64 (IntKind.wrap .u64 (p.getD 32 0)) 0)) (shlV .u64 (IntKind.wrap .u64 (p.getD 33 0)) 8)) (shlV .u64 (IntKind.wrap .u64 (p.getD 34 0)) 16)) (shlV .u64 (IntKind.wrap .u64 (p.getD 35 0)) 24)) (shlV .u64 (IntKind.wrap .u64 (p.getD 36 0)) 32)) (shlV .u64 (IntKind.wrap .u64 (p.getD 37 0)) 40)) (shlV .u64 (IntKind.wrap .u64 (p.getD 38 0)) 48)) (shlV .u64 (IntKind.wrap .u64 (p.getD 39 0)) 56), bitsV .or .u64 (bitsV .or .u64 (bitsV .or .u64 (bitsV .or .u64 (bitsV .or .u64 (bitsV .or .u64 (bitsV .or .u64 (bitsV .or .u64 (0) (shlV .u64 (IntKind.wrap .u64 (p.getD 40 0)) 0)) (shlV .u64 (IntKind.wrap .u64 (p.getD 41 0)) 8)) (shlV .u64 (IntKind.wrap .u64 (p.getD 42 0)) 16)) (shlV .u64 (IntKind.wrap .u64 (p.getD 43 0)) 24)) (shlV .u64 (IntKind.wrap .u64 (p.getD 44 0)) 32)) (shlV .u64 (IntKind.wrap .u64 (p.getD 45 0)) 40)) (shlV .u64 (IntKind.wrap .u64 (p.getD 46 0)) 48)) (shlV .u64 (IntKind.wrap .u64 (p.getD 47 0)) 56), bitsV .or .u64 (bitsV .or .u64 (bitsV .or .u64 (bitsV .or .u64 (bitsV .or .u64 (bitsV .or .u64 (bitsV .or .u64 (bitsV .or .u64 (0) (shlV .u64 (IntKind.wrap .u64 (p.getD 48 0)) 0)) (shlV .u64 (IntKind.wrap .u64 (p.getD 49 0)) 8)) (shlV .u64 (IntKind.wrap .u64 (p.getD 50 0)) 16)) (shlV .u64 (IntKind.wrap .u64 (p.getD 51 0)) 24)) (shlV .u64 (IntKind.wrap .u64 (p.getD 52 0)) 32)) (shlV .u64 (IntKind.wrap .u64 (p.getD 53 0)) 40)) (shlV .u64 (IntKind.wrap .u64 (p.getD 54 0)) 48)) (shlV .u64 (IntKind.wrap .u64 (p.getD 55 0)) 56), bitsV .or .u64 (bitsV .or .u64 (bitsV .or .u64 (bitsV .or .u64 (bitsV .or .u64 (bitsV .or .u64 (bitsV .or .u64 (bitsV .or .u64 (0) (shlV .u64 (IntKind.wrap .u64 (p.getD 56 0)) 0)) (shlV .u64 (IntKind.wrap .u64 (p.getD 57 0)) 8)) (shlV .u64 (IntKind.wrap .u64 (p.getD 58 0)) 16)) (shlV .u64 (IntKind.wrap .u64 (p.getD 59 0)) 24)) (shlV .u64 (IntKind.wrap .u64 (p.getD 60 0)) 32)) (shlV .u64 (IntKind.wrap .u64 (p.getD 61 0)) 40)) (shlV .u64 (IntKind.wrap .u64 (p.getD 62 0)) 48)) (shlV .u64 (IntKind.wrap .u64 (p.getD 63 0)) 56)]) 8 = wval p := by
    simp only [pV, List.getD_cons_zero, List.getD_cons_succ]
    rw [word_le (h 0) (h 1) (h 2) (h 3) (h 4) (h 5) (h 6) (h 7)]
    rw [word_le (h 8) (h 9) (h 10) (h 11) (h 12) (h 13) (h 14) (h 15)]
    rw [word_le (h 16) (h 17) (h 18) (h 19) (h 20) (h 21) (h 22) (h 23)]
    rw [word_le (h 24) (h 25) (h 26) (h 27) (h 28) (h 29) (h 30) (h 31)]
    rw [word_le (h 32) (h 33) (h 34) (h 35) (h 36) (h 37) (h 38) (h 39)]
    rw [word_le (h 40) (h 41) (h 42) (h 43) (h 44) (h 45) (h 46) (h 47)]
    rw [word_le (h 48) (h 49) (h 50) (h 51) (h 52) (h 53) (h 54) (h 55)]
    rw [word_le (h 56) (h 57) (h 58) (h 59) (h 60) (h 61) (h 62) (h 63)]
    have e0 : (18446744073709551616 : Int) ^ 0 = 1 := by decide
    have e1 : (18446744073709551616 : Int) ^ 1 = 18446744073709551616 := by decide
    have e2 : (18446744073709551616 : Int) ^ 2 = 340282366920938463463374607431768211456 := by decide
    have e3 : (18446744073709551616 : Int) ^ 3 = 6277101735386680763835789423207666416102355444464034512896 := by decide
    have e4 : (18446744073709551616 : Int) ^ 4 = 115792089237316195423570985008687907853269984665640564039457584007913129639936 := by decide
    have e5 : (18446744073709551616 : Int) ^ 5 = 2135987035920910082395021706169552114602704522356652769947041607822219725780640550022962086936576 := by decide
    have e6 : (18446744073709551616 : Int) ^ 6 = 39402006196394479212279040100143613805079739270465446667948293404245721771497210611414266254884915640806627990306816 := by decide
    have e7 : (18446744073709551616 : Int) ^ 7 = 726838724295606890549323807888004534353641360687318060281490199180639288113397923326191050713763565560762521606266177933534601628614656 := by decide
    rw [e0, e1, e2, e3, e4, e5, e6, e7]
    unfold wval
    omega
  obtain ⟨r, e, w, v⟩ := reduce_val hw (Nat.le_refl _)
  rw [tk8, opt_some e, opt_some (store_val w), v]
  rw [show pV ([bitsV .or .u64 (bitsV .or .u64 (bitsV .or .u64 (bitsV .or .u64 (bitsV .or .u64 (bitsV .or .u64 (bitsV .or .u64 (bitsV .or .u64 (0) (shlV .u64 (IntKind.wrap .u64 (p.getD 0 0)) 0)) (shlV .u64 (IntKind.wrap .u64 (p.getD 1 0)) 8)) (shlV .u64 (IntKind.wrap .u64 (p.getD 2 0)) 16)) (shlV .u64 (IntKind.wrap .u64 (p.getD 3 0)) 24)) (shlV .u64 (IntKind.wrap .u64 (p.getD 4 0)) 32)) (shlV .u64 (IntKind.wrap .u64 (p.getD 5 0)) 40)) (shlV .u64 (IntKind.wrap .u64 (p.getD 6 0)) 48)) (shlV .u64 (IntKind.wrap .u64 (p.getD 7 0)) 56), bitsV .or .u64 (bitsV .or .u64 (bitsV .or .u64 (bitsV .or .u64 (bitsV .or .u64 (bitsV .or .u64 (bitsV .or .u64 (bitsV .or .u64 (0) (shlV .u64 (IntKind.wrap .u64 (p.getD 8 0)) 0)) (shlV .u64 (IntKind.wrap .u64 (p.getD 9 0)) 8)) (shlV .u64 (IntKind.wrap .u64 (p.getD 10 0)) 16)) (shlV .u64 (IntKind.wrap .u64 (p.getD 11 0)) 24)) (shlV .u64 (IntKind.wrap .u64 (p.getD 12 0)) 32)) (shlV .u64 (IntKind.wrap .u64 (p.getD 13 0)) 40)) (shlV .u64 (IntKind.wrap .u64 (p.getD 14 0)) 48)) (shlV .u64 (IntKind.wrap .u64 (p.getD 15 0)) 56), bitsV .or .u64 (bitsV .or .u64 (bitsV .or .u64 (bitsV .or .u64 (bitsV .or .u64 (bitsV .or .u64 (bitsV .or .u64 (bitsV .or .u64 (0) (shlV .u64 (IntKind.wrap .u64 (p.getD 16 0)) 0)) (shlV .u64 (IntKind.wrap .u64 (p.getD 17 0)) 8)) (shlV .u64 (IntKind.wrap .u64 (p.getD 18 0)) 16)) (shlV .u64 (IntKind.wrap .u64 (p.getD 19 0)) 24)) (shlV .u64 (IntKind.wrap .u64 (p.getD 20 0)) 32)) (shlV .u64 (IntKind.wrap .u64 (p.getD 21 0)) 40)) (shlV .u64 (IntKind.wrap .u64 (p.getD 22 0)) 48)) (shlV .u64 (IntKind.wrap .u64 (p.getD 23 0)) 56), bitsV .or .u64 (bitsV .or .u64 (bitsV .or .u64 (bitsV .or .u64 (bitsV .or .u64 (bitsV .or .u64 (bitsV .or .u64 (bitsV .or .u64 (0) (shlV .u64 (IntKind.wrap .u64 (p.getD 24 0)) 0)) (shlV .u64 (IntKind.wrap .u64 (p.getD 25 0)) 8)) (shlV .u64 (IntKind.wrap .u64 (p.getD 26 0)) 16)) (shlV .u64 (IntKind.wrap .u64 (p.getD 27 0)) 24)) (shlV .u64 (IntKind.wrap .u64 (p.getD 28 0)) 32)) (shlV .u64 (IntKind.wrap .u64 (p.getD 29 0)) 40)) (shlV .u64 (IntKind.wrap .u64 (p.getD 30 0)) 48)) (shlV .u64 (IntKind.wrap .u64 (p.getD 31 0)) 56), bitsV .or .u64 (bitsV .or .u64 (bitsV .or .u64 (bitsV .or .u64 (bitsV .or .u64 (bitsV .or .u64 (bitsV .or .u64 (bitsV .or .u64 (0) (shlV .u64 (IntKind.wrap .u64 (p.getD 32 0)) 0)) (shlV .u64 (IntKind.wrap .u64 (p.getD 33 0)) 8)) (shlV .u64 (IntKind.wrap .u64 (p.getD 34 0)) 16)) (shlV .u64 (IntKind.wrap .u64 (p.getD 35 0)) 24)) (shlV .u64 (IntKind.wrap .u64 (p.getD 36 0)) 32)) (shlV .u64 (IntKind.wrap .u64 (p.getD 37 0)) 40)) (shlV .u64 (IntKind.wrap .u64 (p.getD 38 0)) 48)) (shlV .u64 (IntKind.wrap .u64 (p.getD 39 0)) 56), bitsV .or .u64 (bitsV .or .u64 (bitsV .or .u64 (bitsV .or .u64 (bitsV .or .u64 (bitsV .or .u64 (bitsV .or .u64 (bitsV .or .u64 (0) (shlV .u64 (IntKind.wrap .u64 (p.getD 40 0)) 0)) (shlV .u64 (IntKind.wrap .u64 (p.getD 41 0)) 8)) (shlV .u64 (IntKind.wrap .u64 (p.getD 42 0)) 16)) (shlV .u64 (IntKind.wrap .u64 (p.getD 43 0)) 24)) (shlV .u64 (IntKind.wrap .u64 (p.getD 44 0)) 32)) (shlV .u64 (IntKind.wrap .u64 (p.getD 45 0)) 40)) (shlV .u64 (IntKind.wrap .u64 (p.getD 46 0)) 48)) (shlV .u64 (IntKind.wrap .u64 (p.getD 47 0)) 56), bitsV .or .u64 (bitsV .or .u64 (bitsV .or .u64 (bitsV .or .u64 (bitsV .or .u64 (bitsV .or .u64 (bitsV .or .u64 (bitsV .or .u64 (0) (shlV .u64 (IntKind.wrap .u64 (p.getD 48 0)) 0)) (shlV .u64 (IntKind.wrap .u64 (p.getD 49 0)) 8)) (shlV .u64 (IntKind.wrap .u64 (p.getD 50 0)) 16)) (shlV .u64 (IntKind.wrap .u64 (p.getD 51 0)) 24)) (shlV .u64 (IntKind.wrap .u64 (p.getD 52 0)) 32)) (shlV .u64 (IntKind.wrap .u64 (p.getD 53 0)) 40)) (shlV .u64 (IntKind.wrap .u64 (p.getD 54 0)) 48)) (shlV .u64 (IntKind.wrap .u64 (p.getD 55 0)) 56), bitsV .or .u64 (bitsV .or .u64 (bitsV .or .u64 (bitsV .or .u64 (bitsV .or .u64 (bitsV .or .u64 (bitsV .or .u64 (bitsV .or .u64 (0) (shlV .u64 (IntKind.wrap .u64 (p.getD 56 0)) 0)) (shlV .u64 (IntKind.wrap .u64 (p.getD 57 0)) 8)) (shlV .u64 (IntKind.wrap .u64 (p.getD 58 0)) 16)) (shlV .u64 (IntKind.wrap .u64 (p.getD 59 0)) 24)) (shlV .u64 (IntKind.wrap .u64 (p.getD 60 0)) 32)) (shlV .u64 (IntKind.wrap .u64 (p.getD 61 0)) 40)) (shlV .u64 (IntKind.wrap .u64 (p.getD 62 0)) 48)) (shlV .u64 (IntKind.wrap .u64 (p.getD 63 0)) 56)]) ([bitsV .or .u64 (bitsV .or .u64 (bitsV .or .u64 (bitsV .or .u64 (bitsV .or .u64 (bitsV .or .u64 (bitsV .or .u64 (bitsV .or .u64 (0) (shlV .u64 (IntKind.wrap .u64 (p.getD 0 0)) 0)) (shlV .u64 (IntKind.wrap .u64 (p.getD 1 0)) 8)) (shlV .u64 (IntKind.wrap .u64 (p.getD 2 0)) 16)) (shlV .u64 (IntKind.wrap .u64 (p.getD 3 0)) 24)) (shlV .u64 (IntKind.wrap .u64 (p.getD 4 0)) 32)) (shlV .u64 (IntKind.wrap .u64 (p.getD 5 0)) 40)) (shlV .u64 (IntKind.wrap .u64 (p.getD 6 0)) 48)) (shlV .u64 (IntKind.wrap .u64 (p.getD 7 0)) 56), bitsV .or .u64 (bitsV .or .u64 (bitsV .or .u64 (bitsV .or .u64 (bitsV .or .u64 (bitsV .or .u64 (bitsV .or .u64 (bitsV .or .u64 (0) (shlV .u64 (IntKind.wrap .u64 (p.getD 8 0)) 0)) (shlV .u64 (IntKind.wrap .u64 (p.getD 9 0)) 8)) (shlV .u64 (IntKind.wrap .u64 (p.getD 10 0)) 16)) (shlV .u64 (IntKind.wrap .u64 (p.getD 11 0)) 24)) (shlV .u64 (IntKind.wrap .u64 (p.getD 12 0)) 32)) (shlV .u64 (IntKind.wrap .u64 (p.getD 13 0)) 40)) (shlV .u64 (IntKind.wrap .u64 (p.getD 14 0)) 48)) (shlV .u64 (IntKind.wrap .u64 (p.getD 15 0)) 56), bitsV .or .u64 (bitsV .or .u64 (bitsV .or .u64 (bitsV .or .u64 (bitsV .or .u64 (bitsV .or .u64 (bitsV .or .u64 (bitsV .or .u64 (0) (shlV .u64 (IntKind.wrap .u64 (p.getD 16 0)) 0)) (shlV .u64 (IntKind.wrap .u64 (p.getD 17 0)) 8)) (shlV .u64 (IntKind.wrap .u64 (p.getD 18 0)) 16)) (shlV .u64 (IntKind.wrap .u64 (p.getD 19 0)) 24)) (shlV .u64 (IntKind.wrap .u64 (p.getD 20 0)) 32)) (shlV .u64 (IntKind.wrap .u64 (p.getD 21 0)) 40)) (shlV .u64 (IntKind.wrap .u64 (p.getD 22 0)) 48)) (shlV .u64 (IntKind.wrap .u64 (p.getD 23 0)) 56), bitsV .or .u64 (bitsV .or .u64 (bitsV .or .u64 (bitsV .or .u64 (bitsV .or .u64 (bitsV .or .u64 (bitsV .or .u64 (bitsV .or .u64 (0) (shlV .u64 (IntKind.wrap .u64 (p.getD 24 0)) 0)) (shlV .u64 (IntKind.wrap .u64 (p.getD 25 0)) 8)) (shlV .u64 (IntKind.wrap .u64 (p.getD 26 0)) 16)) (shlV .u64 (IntKind.wrap .u64 (p.getD 27 0)) 24)) (shlV .u64 (IntKind.wrap .u64 (p.getD 28 0)) 32)) (shlV .u64 (IntKind.wrap .u64 (p.getD 29 0)) 40)) (shlV .u64 (IntKind.wrap .u64 (p.getD 30 0)) 48)) (shlV .u64 (IntKind.wrap .u64 (p.getD 31 0)) 56), bitsV .or .u64 (bitsV .or .u64 (bitsV .or .u64 (bitsV .or .u64 (bitsV .or .u64 (bitsV .or .u64 (bitsV .or .u64 (bitsV .or .u64 (0) (shlV .u64 (IntKind.wrap .u64 (p.getD 32 0)) 0)) (shlV .u64 (IntKind.wrap .u64 (p.getD 33 0)) 8)) (shlV .u64 (IntKind.wrap .u64 (p.getD 34 0)) 16)) (shlV .u64 (IntKind.wrap .u64 (p.getD 35 0)) 24)) (shlV .u64 (IntKind.wrap .u64 (p.getD 36 0)) 32)) (shlV .u64 (IntKind.wrap .u64 (p.getD 37 0)) 40)) (shlV .u64 (IntKind.wrap .u64 (p.getD 38 0)) 48)) (shlV .u64 (IntKind.wrap .u64 (p.getD 39 0)) 56), bitsV .or .u64 (bitsV .or .u64 (bitsV .or .u64 (bitsV .or .u64 (bitsV .or .u64 (bitsV .or .u64 (bitsV .or .u64 (bitsV .or .u64 (0) (shlV .u64 (IntKind.wrap .u64 (p.getD 40 0)) 0)) (shlV .u64 (IntKind.wrap .u64 (p.getD 41 0)) 8)) (shlV .u64 (IntKind.wrap .u64 (p.getD 42 0)) 16)) (shlV .u64 (IntKind.wrap .u64 (p.getD 43 0)) 24)) (shlV .u64 (IntKind.wrap .u64 (p.getD 44 0)) 32)) (shlV .u64 (IntKind.wrap .u64 (p.getD 45 0)) 40)) (shlV .u64 (IntKind.wrap .u64 (p.getD 46 0)) 48)) (shlV .u64 (IntKind.wrap .u64 (p.getD 47 0)) 56), bitsV .or .u64 (bitsV .or .u64 (bitsV .or .u64 (bitsV .or .u64 (bitsV .or .u64 (bitsV .or .u64 (bitsV .or .u64 (bitsV .or .u64 (0) (shlV .u64 (IntKind.wrap .u64 (p.getD 48 0)) 0)) (shlV .u64 (IntKind.wrap .u64 (p.getD 49 0)) 8)) (shlV .u64 (IntKind.wrap .u64 (p.getD 50 0)) 16)) (shlV .u64 (IntKind.wrap .u64 (p.getD 51 0)) 24)) (shlV .u64 (IntKind.wrap .u64 (p.getD 52 0)) 32)) (shlV .u64 (IntKind.wrap .u64 (p.getD 53 0)) 40)) (shlV .u64 (IntKind.wrap .u64 (p.getD 54 0)) 48)) (shlV .u64 (IntKind.wrap .u64 (p.getD 55 0)) 56), bitsV .or .u64 (bitsV .or .u64 (bitsV .or .u64 (bitsV .or .u64 (bitsV .or .u64 (bitsV .or .u64 (bitsV .or .u64 (bitsV .or .u64 (0) (shlV .u64 (IntKind.wrap .u64 (p.getD 56 0)) 0)) (shlV .u64 (IntKind.wrap .u64 (p.getD 57 0)) 8)) (shlV .u64 (IntKind.wrap .u64 (p.getD 58 0)) 16)) (shlV .u64 (IntKind.wrap .u64 (p.getD 59 0)) 24)) (shlV .u64 (IntKind.wrap .u64 (p.getD 60 0)) 32)) (shlV .u64 (IntKind.wrap .u64 (p.getD 61 0)) 40)) (shlV .u64 (IntKind.wrap .u64 (p.getD 62 0)) 48)) (shlV .u64 (IntKind.wrap .u64 (p.getD 63 0)) 56)]).length = wval p from hv]
end Go.Proofs.YtiflckckekjbnaaDoor
/- The hash answers. -/
namespace Go.Proofs.YtiflckckekjbnaaDoor
open Go Go.Sx Go.RowKit
set_option linter.all false
set_option maxRecDepth 100000

theorem some_of {α : Type} {o : Option α} (h : o.isSome = true) : ∃ r, o = some r := by
  cases o with
  | none => cases h
  | some r => exact ⟨r, rfl⟩
theorem block_tot (s h : List Int) : (sha512_Block s h).isSome = true := by kernel_rfl
theorem storeBE_tot (x : Int) : ∃ r, bits_StoreBE_uint64 x = some r ∧ r.length = 8 := by
  have : ((bits_StoreBE_uint64 x).map (·.length)) = some 8 := by kernel_rfl
  cases h : bits_StoreBE_uint64 x with
  | none => rw [h] at this; cases this
  | some r => exact ⟨r, rfl, by rw [h] at this; simpa using this⟩
theorem write_loop (z : Int) (m : Nat) : ∀ (l a h : List Int) (c : Int), l.length ≤ m → 0 ≤ c → c < 128 → ∀ n, ∃ r, sha512_Digest_Write_l1 z (n + 1 + m) l a h c = some r ∧ r.glength = z ∧ 0 ≤ r.ghave ∧ r.ghave < 128 := by
  induction m with
  | zero =>
    intro l a h c hl h0 h1 n
    refine ⟨⟨a, h, c, z⟩, ?_, rfl, h0, h1⟩
    rw [Nat.add_zero, sha512_Digest_Write_l1, sha512_Digest_Write_b1, br_ff (decide_eq_false (by omega))]
  | succ m ih =>
    intro l a h c hl h0 h1 n
    by_cases he : l.length = 0
    · refine ⟨⟨a, h, c, z⟩, ?_, rfl, h0, h1⟩
      rw [← Nat.add_assoc, sha512_Digest_Write_l1, sha512_Digest_Write_b1, br_ff (decide_eq_false (by omega))]
    · have hmin : 0 < Nat.min l.length (128 - c.toNat) ∧ Nat.min l.length (128 - c.toNat) ≤ l.length ∧ Nat.min l.length (128 - c.toNat) ≤ 128 - c.toNat := by
        refine ⟨?_, Nat.min_le_left _ _, Nat.min_le_right _ _⟩
        show 0 < min l.length (128 - c.toNat)
        omega
      have ew : IntKind.wrap .i64 (c + ((Nat.min l.length (128 - c.toNat) : Nat) : Int)) = c + ((Nat.min l.length (128 - c.toNat) : Nat) : Int) := wi64_small (by omega) (by omega)
      have hlen : (((l.drop (((Nat.min l.length (128 - c.toNat) : Nat) : Int)).toNat).take (((l.length : Int)).toNat - (((Nat.min l.length (128 - c.toNat) : Nat) : Int)).toNat))).length ≤ m := by
        simp only [List.length_take, List.length_drop, Int.toNat_natCast]; omega
      rw [← Nat.add_assoc, sha512_Digest_Write_l1, sha512_Digest_Write_b1, br_tt (decide_eq_true (by omega)), chk_t (by unfold cutB; simp; omega), bnd_eq, chk_t (by unfold cutB; simp only [Bool.and_eq_true, decide_eq_true_eq]; omega), bnd_eq, ew]
      by_cases h128 : c + ((Nat.min l.length (128 - c.toNat) : Nat) : Int) = 128
      · obtain ⟨b, eb⟩ := some_of (block_tot a (wr h c.toNat (l.take (128 - c.toNat))))
        rw [br_tt (by simpa using h128), opt_some eb]
        exact ih _ _ _ 0 hlen (by omega) (by omega) n
      · rw [br_ff (by simpa using h128)]
        exact ih _ _ _ _ hlen (by omega) (by omega) n
theorem write_tot (d : sha512_Digest) (l : List Int) (hl : l.length < 18446744073709551615) (h0 : 0 ≤ d.ghave) (h1 : d.ghave < 128) : ∃ r, sha512_Digest_Write d l = some r ∧ 0 ≤ r.ghave ∧ r.ghave < 128 ∧ r.glength = IntKind.wrap .u64 (d.glength + IntKind.wrap .u64 (l.length : Int)) := by
  obtain ⟨n, hn⟩ : ∃ n', big = n' + 1 + l.length := ⟨18446744073709551615 - l.length, by have : big = 18446744073709551616 := big_eq; omega⟩
  rw [sha512_Digest_Write, bnd_eq, bnd_eq, hn]
  obtain ⟨r, e, hz, hh⟩ := write_loop (IntKind.wrap .u64 (d.glength + IntKind.wrap .u64 (l.length : Int))) l.length l d.gstate d.gheld d.ghave (Nat.le_refl _) h0 h1 n
  exact ⟨r, e, hh.1, hh.2, hz⟩
theorem pad_tot (x : Int) : ∃ r, sha512_Pad x = some r ∧ r.length ≤ 1000 := by
  have hz3 := u64_rng (x + 17)
  obtain ⟨y1, e1, l1⟩ := storeBE_tot (shrV .u64 x 61)
  obtain ⟨y2, e2, l2⟩ := storeBE_tot (shlV .u64 x 3)
  generalize hz : IntKind.wrap .u64 (x + 17) = z3 at hz3
  have et : Int.tmod z3 128 = z3 % 128 := Int.tmod_eq_emod_of_nonneg hz3.1
  have ew : IntKind.wrap .i64 (z3 % 128) = z3 % 128 := wi64_small (by omega) (by omega)
  have ew2 : IntKind.wrap .i64 (128 - z3 % 128) = 128 - z3 % 128 := wi64_small (by omega) (by omega)
  have et2 : Int.tmod (128 - z3 % 128) 128 = (128 - z3 % 128) % 128 := Int.tmod_eq_emod_of_nonneg (by omega)
  simp only [sha512_Pad, bnd_eq, hz, et, ew, ew2, et2]
  have hr : 0 ≤ (128 - z3 % 128) % 128 ∧ (128 - z3 % 128) % 128 < 128 := by omega
  generalize (128 - z3 % 128) % 128 = w at hr
  have ew3 : IntKind.wrap .i64 (17 + w) = 17 + w := wi64_small (by omega) (by omega)
  simp only [ew3]
  refine ⟨(((List.replicate 0 0 ++ [128]) ++ List.replicate w.toNat 0) ++ y1) ++ y2, ?_, ?_⟩
  · rw [chk_t (by unfold mkB; simp only [Bool.and_eq_true, decide_eq_true_eq]; omega), chk_t (by simp), chk_t (by simp; omega), chk_t (by simp; omega), opt_some e1, chk_t (by simp [l1]; omega), opt_some e2, chk_t (by simp [l1, l2]; omega)]
  · simp [l1, l2]; omega
theorem sum_run (y d : sha512_Digest) : (sha512_Digest_Sum_l1 y (fun a74 => some (a74, d)) big 0 (List.replicate 64 0)).isSome = true := by kernel_rfl
theorem sum_tot (d : sha512_Digest) (h0 : 0 ≤ d.ghave) (h1 : d.ghave < 128) : ∃ r, sha512_Digest_Sum d = some r := by
  obtain ⟨p, e, hl⟩ := pad_tot d.glength
  obtain ⟨y, e2, _⟩ := write_tot d p (by omega) h0 h1
  obtain ⟨r, e3⟩ := some_of (sum_run y d)
  refine ⟨r, ?_⟩
  rw [sha512_Digest_Sum, sha512_Digest_Clone, opt_some rfl]
  show opt (sha512_Pad d.glength) _ = _
  rw [opt_some e]
  show opt (sha512_Digest_Write d p) _ = _
  rw [opt_some e2, jn_eq, e3]
theorem hash_loop {p : List (List Int)} (hp : ∀ i, (p.getD i []).length < 18446744073709551615) (hb : p.length < 1000000) {k : List Int → List Int → Int → Int → Option (List Int)} (hk : ∀ a b c d, 0 ≤ c → c < 128 → ∃ r, k a b c d = some r ∧ Byt r ∧ r.length = 32) (m : Nat) : ∀ (n i : Nat) (a b : List Int) (c d : Int), i + m = p.length → 0 ≤ c → c < 128 →
    ∃ r, sign_hash_l1 p k (n + 1 + m) (i : Int) a b c d = some r ∧ Byt r ∧ r.length = 32 := by
  induction m with
  | zero =>
    intro n i a b c d hi h0 h1
    rw [Nat.add_zero, sign_hash_l1, sign_hash_b1, br_ff (decide_eq_false (by omega))]
    exact hk a b c d h0 h1
  | succ m ih =>
    intro n i a b c d hi h0 h1
    have e1 : IntKind.wrap .i64 ((i : Int) + 1) = ((i + 1 : Nat) : Int) := by rw [wi64_small (by omega) (by omega)]; rfl
    obtain ⟨y, e, g0, g1, _⟩ := write_tot ⟨a, b, c, d⟩ (p.getD i []) (hp i) h0 h1
    rw [← Nat.add_assoc, sign_hash_l1, sign_hash_b1, br_tt (decide_eq_true (by omega)), chk_t (inB_t (by omega) (by omega)), Int.toNat_natCast, opt_some e, bnd_eq, e1]
    exact ih n (i + 1) _ _ _ _ (by omega) g0 g1
theorem hash_tot {p : List (List Int)} (hp : ∀ i, (p.getD i []).length < 18446744073709551615) (hb : p.length < 1000000) : ∃ r, sign_hash p = some r ∧ Byt r ∧ r.length = 32 := by
  obtain ⟨n, hn⟩ : ∃ n', big = n' + 1 + p.length := ⟨18446744073709551615 - p.length, by have : big = 18446744073709551616 := big_eq; omega⟩
  rw [sign_hash, sha512_New, opt_some rfl, jn_eq, hn]
  refine hash_loop hp hb ?_ p.length n 0 _ _ _ _ (by omega) (by decide) (by decide)
  intro a b c d h0 h1
  obtain ⟨r, e⟩ := sum_tot ⟨a, b, c, d⟩ h0 h1
  obtain ⟨s, e2, hs⟩ := Reduce_tot r.1
  refine ⟨s, ?_, hs⟩
  rw [opt_some e, opt_some e2]
theorem tk_byt {p : List Int} (h : Byt p) (o n : Nat) : Byt (tk p o n) := by
  intro i
  rw [tk_getD]
  split
  · exact h _
  · decide
theorem verify_tot {k m s : List Int} (hk : Byt k) (hm : m.length < 18446744073709551615) (hs : Byt s) : ∃ b, sign_Verify k m s = some b := by
  rw [sign_Verify, opt_some (decode_eq hk)]
  obtain ⟨c, hc⟩ := canonical_tot (tk (tk s 32 (64 - 32)) 0 32)
  rw [chk_t (by rw [tk_length]; decide), bnd_eq, hc, chk_t (by simp [imp])]
  by_cases hd : dok k = true
  · rw [if_pos hd]
    cases c
    · exact ⟨false, br_tt rfl⟩
    · obtain ⟨h, eh, hb, hl⟩ := hash_tot (p := [(tk s 0 32), (tk k 0 32), m]) (by
        intro i
        match i with
        | 0 => show (tk s 0 32).length < _; rw [tk_length]; decide
        | 1 => show (tk k 0 32).length < _; rw [tk_length]; decide
        | 2 => exact hm
        | i + 3 => show ([] : List Int).length < _; decide) (by simp)
      rw [br_ff (c := (!(pt (dpt k), true).snd || !(some true).getD false)) rfl, jn_eq, opt_some eh]
      show ∃ b, opt (curve_Neg (pt (dpt k))) _ = some b
      rw [opt_some (cneg_eq _), opt_some (combine_eq hb (tk_byt (tk_byt hs _ _) _ _) _), opt_some (encode_eq _), chk_t (by rw [tk_length]; decide), bnd_eq]
      exact ⟨_, rfl⟩
  · rw [if_neg hd]
    exact ⟨false, br_tt rfl⟩
end Go.Proofs.YtiflckckekjbnaaDoor
/- Keys, signatures, Verify: what they come to in the curve's group. -/
namespace Go.Proofs.YtiflckckekjbnaaDoor
open Go Go.Sx Go.RowKit
set_option linter.all false
set_option maxRecDepth 100000

/-! ## The base point and its order -/
noncomputable def baseG : G := ⟨fi BX, fi BY, ⟨by decide +kernel⟩⟩
theorem rep_base : Rep qbase baseG := by
  constructor
  · show fi 1 ≠ 0; decide +kernel
  · show fi BX = fi BX * fi 1; decide +kernel
  · show fi BY = fi BY * fi 1; decide +kernel
  · show fi (BX * BY) = fi BX * fi BY * fi 1; decide +kernel
def lby : List Int := [237, 211, 245, 92, 26, 99, 18, 88, 214, 156, 247, 162, 222, 249, 222, 20, 0, 0, 0, 0, 0, 0, 0, 0, 0, 0, 0, 0, 0, 0, 0, 16]
theorem lby_byt : Byt lby := byt_of (by decide)
theorem lby_val : sval lby = VL := by decide +kernel
theorem lq_x : ((qacc lby qbase 64).x, (qacc lby qbase 64).y - (qacc lby qbase 64).z) = (0, 0) := by kernel_rfl
theorem rep_unit {q : Q4} {P : G} (h : Rep q P) (hx : q.x = 0) (hy : q.y - q.z = 0) : P = zeroG := by
  have e1 := h.x
  have e2 := h.y
  have hz := h.z
  rw [hx, fi_0] at e1
  have hy' : q.y = q.z := by omega
  rw [hy'] at e2
  generalize fi q.z = z at *
  refine G_ext ?_ ?_
  · have z1 : zeroG.x = 0 := rfl
    rw [z1]
    exact (F_euclid (a := P.x) (b := z) e1.symm).resolve_right hz
  · have z2 : zeroG.y = 1 := rfl
    rw [z2]
    have e3 : (P.y - 1) * z = 0 := by
      generalize P.y = y at *
      clear e1 hx hy h
      grind -lia -linarith (splits := 0)
    exact sub_zero_eq _ _ ((F_euclid e3).resolve_right hz)
def VLn : Nat := 7237005577332262213973186563042994240857116359379907606001950938285454250989
theorem VL_nat : VL = (VLn : Int) := by decide
theorem order_base : mulG VLn baseG = zeroG := by
  have h := rep_qacc lby rep_base 64
  have e : nacc lby 64 = VLn := by rw [nacc_eq lby_byt, lby_val]; decide
  rw [e] at h
  have hq := lq_x
  simp only [Prod.mk.injEq] at hq
  exact rep_unit h hq.1 hq.2
theorem mulG_mod (n : Nat) : mulG (n % VLn) baseG = mulG n baseG := by
  have h := Nat.div_add_mod n VLn
  generalize n / VLn = q at *
  generalize hr : n % VLn = r at *
  rw [← h, Nat.mul_comm, mulG_add, mulG_mul, order_base, mulG_zero, zero_addG]
/-- The equation of a signature. -/
theorem sign_group (h a r s : Nat) (hs : s = (h * a + r) % VLn) : addG (mulG h (negG (mulG a baseG))) (mulG s baseG) = mulG r baseG := by
  rw [hs, mulG_mod, mulG_add, mulG_mul, ← addG_assoc, ← mulG_both, neg_addG, mulG_zero, zero_addG]

/-! ## Hashes -/
def be8 (x : Int) : List Int := [IntKind.wrap .u8 (shrV .u64 (shrV .u64 (shrV .u64 (shrV .u64 (shrV .u64 (shrV .u64 (shrV .u64 x 8) 8) 8) 8) 8) 8) 8), IntKind.wrap .u8 (shrV .u64 (shrV .u64 (shrV .u64 (shrV .u64 (shrV .u64 (shrV .u64 x 8) 8) 8) 8) 8) 8), IntKind.wrap .u8 (shrV .u64 (shrV .u64 (shrV .u64 (shrV .u64 (shrV .u64 x 8) 8) 8) 8) 8), IntKind.wrap .u8 (shrV .u64 (shrV .u64 (shrV .u64 (shrV .u64 x 8) 8) 8) 8), IntKind.wrap .u8 (shrV .u64 (shrV .u64 (shrV .u64 x 8) 8) 8), IntKind.wrap .u8 (shrV .u64 (shrV .u64 x 8) 8), IntKind.wrap .u8 (shrV .u64 x 8), IntKind.wrap .u8 x]
theorem storeBE_eq (x : Int) : bits_StoreBE_uint64 x = some (be8 x) := by kernel_rfl
theorem be8_byt (x : Int) : ∀ y ∈ be8 x, 0 ≤ y ∧ y < 256 := by
  unfold be8
  repeat' (first | exact List.forall_mem_nil _ | refine List.forall_mem_cons.2 ⟨u8_rng _, ?_⟩)
def told (s : List Int) : List Int := be8 (s.getD 0 0) ++ (be8 (s.getD 1 0) ++ (be8 (s.getD 2 0) ++ (be8 (s.getD 3 0) ++ (be8 (s.getD 4 0) ++ (be8 (s.getD 5 0) ++ (be8 (s.getD 6 0) ++ be8 (s.getD 7 0)))))))
theorem sum_runV (y d : sha512_Digest) : sha512_Digest_Sum_l1 y (fun a74 => some (a74, d)) big 0 (List.replicate 64 0) = some (told y.gstate, d) := by kernel_rfl
theorem told_byt (s : List Int) : Byt (told s) := by
  apply byt_of
  unfold told
  intro x hx
  simp only [List.mem_append] at hx
  rcases hx with h | h | h | h | h | h | h | h <;> exact be8_byt _ _ h
theorem sum_byt (d : sha512_Digest) (h0 : 0 ≤ d.ghave) (h1 : d.ghave < 128) : ∃ r, sha512_Digest_Sum d = some r ∧ Byt r.1 ∧ r.1.length = 64 := by
  obtain ⟨p, e, hl⟩ := pad_tot d.glength
  obtain ⟨y, e2, _⟩ := write_tot d p (by omega) h0 h1
  refine ⟨(told y.gstate, d), ?_, told_byt _, rfl⟩
  rw [sha512_Digest_Sum, sha512_Digest_Clone, opt_some rfl]
  show opt (sha512_Pad d.glength) _ = _
  rw [opt_some e]
  show opt (sha512_Digest_Write d p) _ = _
  rw [opt_some e2, jn_eq, sum_runV]
theorem Sum_byt {p : List Int} (hp : p.length < 18446744073709551615) : ∃ r, sha512_Sum p = some r ∧ Byt r ∧ r.length = 64 := by
  obtain ⟨y, e, h0, h1, _⟩ := write_tot ⟨G_first, List.replicate 128 0, 0, 0⟩ p hp (by decide) (by decide)
  obtain ⟨r, e2, hb, hl⟩ := sum_byt y h0 h1
  refine ⟨r.1, ?_, hb, hl⟩
  rw [sha512_Sum, sha512_New, opt_some rfl]
  show opt (sha512_Digest_Write ⟨G_first, List.replicate 128 0, 0, 0⟩ p) _ = _
  rw [opt_some e, opt_some e2]
theorem bits8_rng (o : BinOp) (x y : Int) (h : o = .and ∨ o = .or ∨ o = .andNot) : 0 ≤ bitsV o .u8 x y ∧ bitsV o .u8 x y < 256 := by
  rcases h with h | h | h <;> subst h
  · show 0 ≤ IntKind.u8.wrap _ ∧ IntKind.u8.wrap _ < _; exact u8_rng _
  · show 0 ≤ IntKind.u8.wrap _ ∧ IntKind.u8.wrap _ < _; exact u8_rng _
  · show 0 ≤ IntKind.u8.wrap _ ∧ IntKind.u8.wrap _ < _; exact u8_rng _
def clampL (p : List Int) : List Int := setD (setD p 0 (bitsV .andNot .u8 (p.getD 0 0) 7)) 31 (bitsV .or .u8 (bitsV .and .u8 ((setD p 0 (bitsV .andNot .u8 (p.getD 0 0) 7)).getD 31 0) 127) 64)
theorem clamp_eq (p : List Int) : scalar_Clamp p = some (clampL p) := by
  rw [scalar_Clamp]
  simp only [bnd_eq]
  rfl
theorem clamp_byt {p : List Int} (h : Byt p) : Byt (clampL p) := setD_byt (setD_byt h (bits8_rng _ _ _ (.inr (.inr rfl)))) (bits8_rng _ _ _ (.inr (.inl rfl)))
/-- The multiplier and the prefix of a seed. -/
theorem halves_val (s : List Int) : ∃ h, sha512_Sum (tk s 0 32) = some h ∧ Byt h ∧ h.length = 64 ∧ sign_halves s = some (clampL (tk h 0 32), tk h 32 32) := by
  obtain ⟨h, e, hb, hl⟩ := Sum_byt (p := tk s 0 32) (by rw [tk_length]; decide)
  refine ⟨h, e, hb, hl, ?_⟩
  have e2 : tk (tk h 0 32) 0 32 = tk h 0 32 := tk_all (tk_length _ _ _)
  rw [sign_halves, opt_some e, chk_t (by rw [tk_length]; rfl), bnd_eq, e2, opt_some (clamp_eq _)]
/-! ## Keys and signatures -/
noncomputable def pB (a : List Int) : G := mulG (sval a).toNat baseG
theorem mulBase_enc {a : List Int} (h : Byt a) : ∃ q, curve_MulBase a = some (pt q) ∧ Rep q (pB a) := by
  refine ⟨_, mulBase_eq h, ?_⟩
  have := rep_qacc a rep_base 64
  rw [nacc_eq h] at this
  exact this
theorem encode_rep {q : Q4} {P : G} (h : Rep q P) : curve_Encode (pt q) = some (encG P) := by rw [encode_eq, enc_rep h]
theorem encG_byt (P : G) : Byt (encG P) := enc_byt _ _
theorem encG_length (P : G) : (encG P).length = 32 := enc_length _ _
theorem tk_enc (P : G) : tk (encG P) 0 32 = encG P := tk_all (encG_length P)
theorem wr_two {x y : List Int} (hx : x.length = 32) (hy : y.length = 32) : wr (wr (List.replicate 64 0) 0 (x.take 32)) 32 (y.take (64 - 32)) = x ++ y := by
  have h1 : x.take 32 = x := List.take_of_length_le (by omega)
  have h2 : y.take (64 - 32) = y := List.take_of_length_le (by omega)
  rw [h1, h2]
  have h3 : wr (List.replicate 64 0) 0 x = x ++ List.replicate 32 0 := by
    unfold wr
    rw [hx]
    rfl
  have h4 : tk (x ++ List.replicate 32 0) 0 32 = x := by
    apply List.ext_getElem
    · rw [tk_length, hx]
    · intro i h1 h2
      simp only [tk, List.getElem_map, List.getElem_range, Nat.zero_add]
      rw [List.getD_eq_getElem?_getD, List.getElem?_append_left h2, List.getElem?_eq_getElem h2]
      rfl
  have h5 : (x ++ List.replicate 32 (0 : Int)).drop (32 + 32) = [] := List.drop_eq_nil_of_le (by simp [hx])
  rw [h3]
  unfold wr
  rw [h4, hy, h5, List.append_nil]
theorem tk_left {x y : List Int} (hx : x.length = 32) : tk (x ++ y) 0 32 = x := by
  apply List.ext_getElem
  · rw [tk_length, hx]
  · intro i h1 h2
    simp only [tk, List.getElem_map, List.getElem_range, Nat.zero_add]
    rw [List.getD_eq_getElem?_getD, List.getElem?_append_left h2, List.getElem?_eq_getElem h2]
    rfl
theorem tk_right {x y : List Int} (hx : x.length = 32) (hy : y.length = 32) : tk (x ++ y) 32 32 = y := by
  apply List.ext_getElem
  · rw [tk_length, hy]
  · intro i h1 h2
    simp only [tk, List.getElem_map, List.getElem_range]
    rw [List.getD_eq_getElem?_getD, List.getElem?_append_right (by omega), show 32 + i - x.length = i by omega, List.getElem?_eq_getElem h2]
    rfl
theorem lens3 {a b m : List Int} (ha : a.length = 32) (hb : b.length = 32) (hm : m.length < 18446744073709551615) : ∀ i, (([a, b, m] : List (List Int)).getD i []).length < 18446744073709551615 := by
  intro i
  match i with
  | 0 => show a.length < _; omega
  | 1 => show b.length < _; omega
  | 2 => exact hm
  | i + 3 => show ([] : List Int).length < _; decide
theorem lens2 {a m : List Int} (ha : a.length = 32) (hm : m.length < 18446744073709551615) : ∀ i, (([a, m] : List (List Int)).getD i []).length < 18446744073709551615 := by
  intro i
  match i with
  | 0 => show a.length < _; omega
  | 1 => exact hm
  | i + 2 => show ([] : List Int).length < _; decide
structure Sgn (s m : List Int) (a r k : List Int) : Prop where
  ba : Byt a
  br : Byt r
  bk : Byt k
  pub : sign_Public s = some (encG (pB a))
  hash : sign_hash [encG (pB r), encG (pB a), m] = some k
  sig : sign_Sign s m = some (encG (pB r) ++ byt ((sval k * sval a + sval r) % VL))
theorem sgn_val (s : List Int) {m : List Int} (hm : m.length < 18446744073709551615) : ∃ a r k, Sgn s m a r k := by
  obtain ⟨h, e, hb, hl, eh⟩ := halves_val s
  have ba := clamp_byt (tk_byt hb 0 32)
  obtain ⟨q, eq1, rq⟩ := mulBase_enc ba
  obtain ⟨r, er, br, lr⟩ := hash_tot (p := [tk h 32 32, m]) (lens2 (tk_length _ _ _) hm) (by simp)
  obtain ⟨q2, eq2, rq2⟩ := mulBase_enc br
  obtain ⟨k, ek, bk, lk⟩ := hash_tot (p := [encG (pB r), encG (pB (clampL (tk h 0 32))), m]) (lens3 (encG_length _) (encG_length _) hm) (by simp)
  refine ⟨_, r, k, ba, br, bk, ?_, ek, ?_⟩
  · rw [sign_Public, opt_some eh, opt_some eq1, opt_some (encode_rep rq)]
  · rw [sign_Sign, opt_some eh, opt_some eq1, opt_some (encode_rep rq), opt_some er, opt_some eq2, opt_some (encode_rep rq2), jn_eq, tk_enc, tk_enc, opt_some ek]
    dsimp only
    rw [opt_some (sMulAdd_val bk ba br), bnd_eq, bnd_eq, tk_all (byt_length _), wr_two (encG_length _) (byt_length _)]
/-- What Verify says. -/
theorem verify_val {k m s h : List Int} (hk : Byt k) (hs : Byt s) (hh : sign_hash [tk s 0 32, tk k 0 32, m] = some h) (bh : Byt h) {A : G} (hA : dok k = true → Rep (dpt k) A) :
    sign_Verify k m s = some (dok k && (decide (sval (tk s 32 32) < VL) && decide (encG (addG (mulG (sval h).toNat (negG A)) (pB (tk s 32 32))) = tk s 0 32))) := by
  have e0 : tk (tk s 32 (64 - 32)) 0 32 = tk s 32 32 := tk_all (tk_length _ _ _)
  have e00 : tk (tk s 0 32) 0 32 = tk s 0 32 := tk_all (tk_length _ _ _)
  have bt := tk_byt hs 32 32
  rw [sign_Verify, opt_some (decode_eq hk), chk_t (by rw [tk_length]; rfl), bnd_eq, e0, sCanon_val bt, chk_t (by simp [imp])]
  cases hd : dok k
  · rw [br_tt (by rfl)]; rfl
  · have rA := hA hd
    rw [if_pos rfl]
    by_cases hc : sval (tk s 32 32) < VL
    · rw [br_ff (by simp [hc]), jn_eq, opt_some hh]
      show opt (curve_Neg (pt (dpt k))) _ = _
      have rc := rep_q2acc h (tk s 32 32) (rep_neg rA) rep_base 64
      rw [nacc_eq bh, nacc_eq bt] at rc
      rw [opt_some (cneg_eq _), opt_some (combine_eq bh bt _), opt_some (encode_rep rc), chk_t (by rw [tk_length]; rfl), bnd_eq, e00]
      unfold ieq pB
      rw [tk_enc, tk_all (tk_length _ _ _)]
      simp [hc]
    · rw [br_tt (by simp [hc])]
      simp [hc]
/-- What Sign made verifies. -/
theorem sign_ok {a r k : List Int} (ba : Byt a) (br : Byt r) (bk : Byt k) : addG (mulG (sval k).toNat (negG (pB a))) (pB (byt ((sval k * sval a + sval r) % VL))) = pB r := by
  have h := VL_rng (sval k * sval a + sval r)
  unfold pB
  refine sign_group _ _ _ _ ?_
  rw [sval_byt h.1 (by unfold VL at h ⊢; omega), VL_nat]
  have h1 := sval_nonneg ba
  have h2 := sval_nonneg br
  have h3 := sval_nonneg bk
  generalize sval a = x at *
  generalize sval r = y at *
  generalize sval k = z at *
  obtain ⟨x', rfl⟩ := Int.eq_ofNat_of_zero_le h1
  obtain ⟨y', rfl⟩ := Int.eq_ofNat_of_zero_le h2
  obtain ⟨z', rfl⟩ := Int.eq_ofNat_of_zero_le h3
  rfl
theorem sig_byt {P : G} {n : Int} : Byt (encG P ++ byt n) := by
  intro i
  by_cases h : i < 32
  · have e : (encG P ++ byt n).getD i 0 = (encG P).getD i 0 := by
      simp [List.getD_eq_getElem?_getD, List.getElem?_append_left (show i < (encG P).length by rw [encG_length]; exact h)]
    rw [e]; exact encG_byt P i
  · have e : (encG P ++ byt n).getD i 0 = (byt n).getD (i - 32) 0 := by
      simp only [List.getD_eq_getElem?_getD]
      rw [List.getElem?_append_right (by rw [encG_length]; omega), encG_length]
    rw [e]; exact byt_byt n _
theorem sgn_verifies {s m a r k : List Int} (h : Sgn s m a r k) : sign_Verify (encG (pB a)) m (encG (pB r) ++ byt ((sval k * sval a + sval r) % VL)) = some true := by
  have hv := VL_rng (sval k * sval a + sval r)
  have e1 : tk (encG (pB r) ++ byt ((sval k * sval a + sval r) % VL)) 0 32 = encG (pB r) := tk_left (encG_length _)
  have e2 : tk (encG (pB r) ++ byt ((sval k * sval a + sval r) % VL)) 32 32 = byt ((sval k * sval a + sval r) % VL) := tk_right (encG_length _) (byt_length _)
  rw [verify_val (encG_byt _) sig_byt (h := k) (by rw [e1, tk_enc]; exact h.hash) h.bk (fun _ => (dec_enc (pB a)).2)]
  rw [e1, e2, (dec_enc _).1, sign_ok h.ba h.br h.bk, sval_byt hv.1 (by unfold VL at hv ⊢; omega)]
  simp [hv.2]
end Go.Proofs.YtiflckckekjbnaaDoor
/- Short forms of the statements. -/
namespace Go.Proofs.YtiflckckekjbnaaDoor
open Go Go.Sx Go.RowKit
set_option linter.all false
set_option maxHeartbeats 400000
set_option maxRecDepth 100000
/- farebox/fareboxlaw08.printed -/
def r9_0 : List J := [
  .op ⟨some 0, none, .mv (.const (.bool false))⟩]
def r9_1 : List J := [
  .op ⟨some 2, none, .bd [.ints .u8 32 (List.replicate 32 0)] [(0, 1, (.const (.int .u8 157))), (1, 1, (.const (.int .u8 97))), (2, 1, (.const (.int .u8 177))), (3, 1, (.const (.int .u8 157))), (4, 1, (.const (.int .u8 239))), (5, 1, (.const (.int .u8 253))), (6, 1, (.const (.int .u8 90))), (7, 1, (.const (.int .u8 96))), (8, 1, (.const (.int .u8 186))), (9, 1, (.const (.int .u8 132))), (10, 1, (.const (.int .u8 74))), (11, 1, (.const (.int .u8 244))), (12, 1, (.const (.int .u8 146))), (13, 1, (.const (.int .u8 236))), (14, 1, (.const (.int .u8 44))), (15, 1, (.const (.int .u8 196))), (16, 1, (.const (.int .u8 68))), (17, 1, (.const (.int .u8 73))), (18, 1, (.const (.int .u8 197))), (19, 1, (.const (.int .u8 105))), (20, 1, (.const (.int .u8 123))), (21, 1, (.const (.int .u8 50))), (22, 1, (.const (.int .u8 105))), (23, 1, (.const (.int .u8 25))), (24, 1, (.const (.int .u8 112))), (25, 1, (.const (.int .u8 59))), (26, 1, (.const (.int .u8 172))), (27, 1, (.const (.int .u8 3))), (28, 1, (.const (.int .u8 28))), (29, 1, (.const (.int .u8 174))), (30, 1, (.const (.int .u8 127))), (31, 1, (.const (.int .u8 96)))]⟩,
  .op ⟨some 1, none, .al 38 [.ints .u8 32 (List.replicate 32 0)]⟩,
  .op ⟨none, none, .st 32 (.tmp 1) (.tmp 2)⟩]
def r9_2 : List J := [
  .op ⟨some 3, none, .ld 32 true (.tmp 1)⟩,
  .op ⟨some 4, none, .call 10 [(.tmp 3)]⟩,
  .op ⟨some 5, none, .bd [.ints .u8 32 (List.replicate 32 0)] [(0, 1, (.const (.int .u8 215))), (1, 1, (.const (.int .u8 90))), (2, 1, (.const (.int .u8 152))), (3, 1, (.const (.int .u8 1))), (4, 1, (.const (.int .u8 130))), (5, 1, (.const (.int .u8 177))), (6, 1, (.const (.int .u8 10))), (7, 1, (.const (.int .u8 183))), (8, 1, (.const (.int .u8 213))), (9, 1, (.const (.int .u8 75))), (10, 1, (.const (.int .u8 254))), (11, 1, (.const (.int .u8 211))), (12, 1, (.const (.int .u8 201))), (13, 1, (.const (.int .u8 100))), (14, 1, (.const (.int .u8 7))), (15, 1, (.const (.int .u8 58))), (16, 1, (.const (.int .u8 14))), (17, 1, (.const (.int .u8 225))), (18, 1, (.const (.int .u8 114))), (19, 1, (.const (.int .u8 243))), (20, 1, (.const (.int .u8 218))), (21, 1, (.const (.int .u8 166))), (22, 1, (.const (.int .u8 35))), (23, 1, (.const (.int .u8 37))), (24, 1, (.const (.int .u8 175))), (25, 1, (.const (.int .u8 2))), (26, 1, (.const (.int .u8 26))), (27, 1, (.const (.int .u8 104))), (28, 1, (.const (.int .u8 247))), (29, 1, (.const (.int .u8 7))), (30, 1, (.const (.int .u8 81))), (31, 1, (.const (.int .u8 26)))]⟩,
  .op ⟨some 6, none, .eqa false [(.i .u8, 32)] (.tmp 4) (.tmp 5)⟩,
  .op ⟨some 0, none, .mv (.tmp 6)⟩]
def d9 : FnD := ⟨7, [.tmp 0], (.seq (.ops r9_0) (.seq (.ops r9_1) (.seq (.ops r9_2) .ret)))⟩
theorem ok9 : okF Tryd.prog 9 d9 = true := by kernel_rfl
/- farebox/fareboxlaw08.SignEach -/
def r3_0 : List J := [
  .op ⟨some 2, none, .mv (.const (.bool false))⟩]
def r3_1 : List J := [
  .op ⟨some 3, none, .mv (.const (.slice none 0 0))⟩]
def r3_2 : List J := [
  .op ⟨some 4, none, .mv (.const (.slice none 0 0))⟩]
def r3_3 : List J := [
  .op ⟨some 5, none, .mv (.const (.slice none 0 0))⟩]
def r3_4 : List J := [
  .op ⟨some 10, none, .mv (.tmp 0)⟩,
  .op ⟨some 11, none, .len (.tmp 10)⟩,
  .op ⟨some 6, none, .mv (.tmp 11)⟩]
def r3_5 : List J := [
  .op ⟨some 7, none, .mv (.const (.int .i64 0))⟩]
def r3_6 : List J := [
  .op ⟨some 12, none, .mv (.tmp 7)⟩,
  .op ⟨some 13, none, .mv (.tmp 0)⟩,
  .op ⟨some 14, none, .len (.tmp 13)⟩,
  .op ⟨some 15, none, .bin .lss (.tmp 12) (.tmp 14)⟩]
def r3_8 : List J := [
  .op ⟨some 18, none, .mv (.tmp 3)⟩,
  .op ⟨some 19, none, .mv (.tmp 0)⟩,
  .op ⟨some 20, none, .mv (.tmp 7)⟩,
  .op ⟨some 21, none, .ias 97 (.tmp 19) (.tmp 20)⟩,
  .op ⟨some 22, none, .fa 0 (.tmp 21)⟩,
  .op ⟨some 23, none, .ld 32 true (.tmp 22)⟩,
  .op ⟨some 24, none, .bs 27 1 32 [.ints .u8 32 (List.replicate 32 0)] [(0, 32, (.tmp 23))]⟩,
  .op ⟨some 25, none, .app 27 32 32 [.ints .u8 32 (List.replicate 32 0)] (.tmp 18) (.tmp 24)⟩,
  .op ⟨some 3, none, .mv (.tmp 25)⟩]
def r3_9 : List J := [
  .op ⟨some 26, none, .mv (.tmp 4)⟩,
  .op ⟨some 27, none, .mv (.tmp 0)⟩,
  .op ⟨some 28, none, .mv (.tmp 7)⟩,
  .op ⟨some 29, none, .ias 97 (.tmp 27) (.tmp 28)⟩,
  .op ⟨some 30, none, .fa 32 (.tmp 29)⟩,
  .op ⟨some 31, none, .ld 1 false (.tmp 30)⟩,
  .op ⟨some 32, none, .bs 28 1 1 [.one (.slice none 0 0)] [(0, 1, (.tmp 31))]⟩,
  .op ⟨some 33, none, .app 28 1 24 [.one (.slice none 0 0)] (.tmp 26) (.tmp 32)⟩,
  .op ⟨some 4, none, .mv (.tmp 33)⟩]
def r3_10 : List J := [
  .op ⟨some 34, none, .mv (.tmp 5)⟩,
  .op ⟨some 35, none, .mv (.tmp 0)⟩,
  .op ⟨some 36, none, .mv (.tmp 7)⟩,
  .op ⟨some 37, none, .ias 97 (.tmp 35) (.tmp 36)⟩,
  .op ⟨some 38, none, .fa 33 (.tmp 37)⟩,
  .op ⟨some 39, none, .ld 64 true (.tmp 38)⟩,
  .op ⟨some 40, none, .bs 30 1 64 [.ints .u8 64 (List.replicate 64 0)] [(0, 64, (.tmp 39))]⟩,
  .op ⟨some 41, none, .app 30 64 64 [.ints .u8 64 (List.replicate 64 0)] (.tmp 34) (.tmp 40)⟩,
  .op ⟨some 5, none, .mv (.tmp 41)⟩]
def r3_11 : Sch :=
  (.p [0] (.op ⟨some 42, none, .mv (.tmp 6)⟩)
  (.p [1] (.op ⟨some 43, none, .mv (.tmp 0)⟩)
  (.p [2] (.op ⟨some 44, none, .len (.tmp 43)⟩)
  (.p [3] (.op ⟨some 45, none, .bin .eql (.tmp 42) (.tmp 44)⟩)
  (.p [4] (.op ⟨some 46, none, .mv (.tmp 45)⟩)
  (.q [5, 6, 7, 8, 9, 10, 11, 12, 13, 14, 15, 16, 17, 18, 19, 20, 21, 22] (.lg false 46 64 none [.op ⟨some 47, (some (46, true)), .mv (.tmp 0)⟩, .op ⟨some 48, (some (46, true)), .mv (.tmp 7)⟩, .op ⟨some 49, (some (46, true)), .ias 97 (.tmp 47) (.tmp 48)⟩, .op ⟨some 50, (some (46, true)), .fa 0 (.tmp 49)⟩, .op ⟨some 51, (some (46, true)), .ld 32 true (.tmp 50)⟩, .op ⟨some 52, (some (46, true)), .mv (.tmp 0)⟩, .op ⟨some 53, (some (46, true)), .mv (.tmp 7)⟩, .op ⟨some 54, (some (46, true)), .ias 97 (.tmp 52) (.tmp 53)⟩, .op ⟨some 55, (some (46, true)), .fa 32 (.tmp 54)⟩, .op ⟨some 56, (some (46, true)), .ld 1 false (.tmp 55)⟩, .op ⟨some 57, (some (46, true)), .mv (.tmp 0)⟩, .op ⟨some 58, (some (46, true)), .mv (.tmp 7)⟩, .op ⟨some 59, (some (46, true)), .ias 97 (.tmp 57) (.tmp 58)⟩, .op ⟨some 60, (some (46, true)), .fa 33 (.tmp 59)⟩, .op ⟨some 61, (some (46, true)), .ld 64 true (.tmp 60)⟩, .op ⟨some 62, (some (46, true)), .call 7 [(.tmp 51), (.tmp 56), (.tmp 61)]⟩, .op ⟨some 63, (some (46, true)), .un .not (.tmp 62)⟩] (.tmp 63))
  .nil))))))
def r3_12 : List J := [
  .op ⟨some 65, none, .mv (.tmp 7)⟩,
  .op ⟨some 6, none, .mv (.tmp 65)⟩]
def k3_1 : IC := (.seq (.ops r3_8) (.seq (.ops r3_9) (.seq (.ops r3_10) (.seq (.draw r3_11 []) (.cond (.tmp 64) (.ops r3_12) .skip)))))
def r3_7 : List J := [
  .op ⟨some 16, none, .mv (.tmp 7)⟩,
  .op ⟨some 17, none, .bin .add (.tmp 16) (.const (.int .i64 1))⟩,
  .op ⟨some 7, none, .mv (.tmp 17)⟩]
def l3_1 : IC := (.seq (.seq (.ops r3_6) (.cond (.tmp 15) .skip (.exit 0))) (.seq (.block 1 k3_1) (.ops r3_7)))
def k3_0 : IC := (.loop l3_1)
def r3_13 : List J := [
  .op ⟨some 67, none, .mv (.tmp 3)⟩,
  .op ⟨some 68, none, .mv (.tmp 4)⟩,
  .op ⟨some 69, none, .mv (.tmp 5)⟩,
  .op ⟨some 70, none, .call 8 [(.tmp 67), (.tmp 68), (.tmp 69)]⟩,
  .op ⟨some 66, none, .mv (.tmp 70)⟩,
  .op ⟨some 71, none, .ext (.tmp 66) 0⟩,
  .op ⟨some 72, none, .ext (.tmp 66) 1⟩,
  .op ⟨some 8, none, .mv (.tmp 71)⟩,
  .op ⟨some 9, none, .mv (.tmp 72)⟩]
def r3_14 : List J := [
  .op ⟨some 73, none, .mv (.tmp 8)⟩,
  .op ⟨some 74, none, .mv (.tmp 6)⟩,
  .op ⟨some 75, none, .bin .eql (.tmp 73) (.tmp 74)⟩,
  .op ⟨some 76, none, .mv (.tmp 75)⟩,
  .lg false 76 83 none [.op ⟨some 77, (some (76, true)), .mv (.tmp 9)⟩, .op ⟨some 78, (some (76, true)), .mv (.tmp 6)⟩, .op ⟨some 79, (some (76, true)), .mv (.tmp 0)⟩, .op ⟨some 80, (some (76, true)), .len (.tmp 79)⟩, .op ⟨some 81, (some (76, true)), .bin .eql (.tmp 78) (.tmp 80)⟩, .op ⟨some 82, (some (76, true)), .beq false (.tmp 77) (.tmp 81)⟩] (.tmp 82),
  .op ⟨some 84, none, .mv (.tmp 83)⟩,
  .lg false 84 86 none [.op ⟨some 85, (some (84, true)), .call 9 []⟩] (.tmp 85),
  .op ⟨some 2, none, .mv (.tmp 86)⟩]
def d3 : FnD := ⟨87, [.tmp 2], (.seq (.ops r3_0) (.seq (.ops r3_1) (.seq (.ops r3_2) (.seq (.ops r3_3) (.seq (.ops r3_4) (.seq (.seq (.ops r3_5) (.block 0 k3_0)) (.seq (.ops r3_13) (.seq (.ops r3_14) .ret))))))))⟩
theorem ok3 : okF Tryd.prog 3 d3 = true := by kernel_rfl
/- farebox/fareboxlaw08.SignHolds -/
def r4_0 : List J := [
  .op ⟨some 2, none, .bx 38 (.tmp 0)⟩,
  .op ⟨some 4, none, .mv (.const (.bool false))⟩]
def r4_1 : Sch :=
  (.p [2] (.op ⟨some 7, none, .mv (.tmp 1)⟩)
  (.p [4] (.op ⟨some 9, none, .mv (.tmp 1)⟩)
  (.q [0] (.op ⟨some 5, none, .ld 32 true (.tmp 2)⟩)
  (.p [1] (.op ⟨some 6, none, .call 10 [(.tmp 5)]⟩)
  (.q [3] (.op ⟨some 8, none, .ld 32 true (.tmp 2)⟩)
  (.q [5] (.op ⟨some 10, none, .call 11 [(.tmp 8), (.tmp 9)]⟩)
  (.q [6] (.op ⟨some 11, none, .call 7 [(.tmp 6), (.tmp 7), (.tmp 10)]⟩)
  (.p [7] (.op ⟨some 12, none, .mv (.tmp 11)⟩)
  (.p [8, 9] (.lg false 12 14 none [.op ⟨some 13, (some (12, true)), .call 9 []⟩] (.tmp 13))
  (.p [10] (.op ⟨some 4, none, .mv (.tmp 14)⟩)
  .nil))))))))))
def d4 : FnD := ⟨15, [.tmp 4], (.seq (.ops r4_0) (.seq (.draw r4_1 []) .ret))⟩
theorem ok4 : okF Tryd.prog 4 d4 = true := by kernel_rfl
/- farebox/fareboxlaw08.order -/
def r27_0 : List J := [
  .op ⟨some 0, none, .al 26 [.ints .u8 32 (List.replicate 32 0)]⟩]
def r27_1 : List J := [
  .op ⟨some 1, none, .bd [.ints .u8 32 (List.replicate 32 0)] [(0, 1, (.const (.int .u8 237))), (1, 1, (.const (.int .u8 211))), (2, 1, (.const (.int .u8 245))), (3, 1, (.const (.int .u8 92))), (4, 1, (.const (.int .u8 26))), (5, 1, (.const (.int .u8 99))), (6, 1, (.const (.int .u8 18))), (7, 1, (.const (.int .u8 88))), (8, 1, (.const (.int .u8 214))), (9, 1, (.const (.int .u8 156))), (10, 1, (.const (.int .u8 247))), (11, 1, (.const (.int .u8 162))), (12, 1, (.const (.int .u8 222))), (13, 1, (.const (.int .u8 249))), (14, 1, (.const (.int .u8 222))), (15, 1, (.const (.int .u8 20))), (31, 1, (.const (.int .u8 16)))]⟩,
  .op ⟨none, none, .st 32 (.tmp 0) (.tmp 1)⟩]
def d27 : FnD := ⟨2, [.cell 0 32 true], (.seq (.ops r27_0) (.seq (.ops r27_1) .ret))⟩
theorem ok27 : okF Tryd.prog 27 d27 = true := by kernel_rfl
/- farebox/fareboxlaw08.raised -/
def r12_0 : List J := [
  .op ⟨some 1, none, .bx 30 (.tmp 0)⟩,
  .op ⟨some 2, none, .al 30 [.ints .u8 64 (List.replicate 64 0)]⟩,
  .op ⟨some 3, none, .mv (.const (.bool false))⟩]
def r12_1 : List J := [
  .op ⟨some 8, none, .call 27 []⟩,
  .op ⟨some 4, none, .al 26 [.ints .u8 32 (List.replicate 32 0)]⟩,
  .op ⟨none, none, .st 32 (.tmp 4) (.tmp 8)⟩]
def r12_2 : List J := [
  .op ⟨some 5, none, .mv (.const (.int .i64 0))⟩]
def r12_3 : List J := [
  .op ⟨some 6, none, .mv (.const (.int .i64 0))⟩]
def r12_4 : List J := [
  .op ⟨some 9, none, .mv (.tmp 6)⟩,
  .op ⟨some 10, none, .bin .lss (.tmp 9) (.const (.int .i64 32))⟩]
def r12_6 : Sch :=
  (.p [0] (.op ⟨some 13, none, .mv (.tmp 6)⟩)
  (.p [1] (.op ⟨some 14, none, .bin .add (.const (.int .i64 32)) (.tmp 13)⟩)
  (.p [2] (.op ⟨some 15, none, .ia 64 1 (.tmp 1) (.tmp 14)⟩)
  (.p [5] (.op ⟨some 18, none, .mv (.tmp 6)⟩)
  (.p [6] (.op ⟨some 19, none, .ia 32 1 (.tmp 4) (.tmp 18)⟩)
  (.p [10] (.op ⟨some 23, none, .mv (.tmp 5)⟩)
  (.q [3] (.op ⟨some 16, none, .ld 1 false (.tmp 15)⟩)
  (.p [4] (.op ⟨some 17, none, .conv .i64 (.tmp 16)⟩)
  (.q [7] (.op ⟨some 20, none, .ld 1 false (.tmp 19)⟩)
  (.p [8] (.op ⟨some 21, none, .conv .i64 (.tmp 20)⟩)
  (.p [9] (.op ⟨some 22, none, .bin .add (.tmp 17) (.tmp 21)⟩)
  (.p [11] (.op ⟨some 24, none, .bin .add (.tmp 22) (.tmp 23)⟩)
  (.p [12] (.op ⟨some 7, none, .mv (.tmp 24)⟩)
  .nil)))))))))))))
def r12_7 : List J := [
  .op ⟨some 25, none, .mv (.tmp 6)⟩,
  .op ⟨some 26, none, .bin .add (.const (.int .i64 32)) (.tmp 25)⟩,
  .op ⟨some 27, none, .mv (.tmp 7)⟩,
  .op ⟨some 28, none, .bin .rem (.tmp 27) (.const (.int .i64 256))⟩,
  .op ⟨some 29, none, .conv .u8 (.tmp 28)⟩,
  .op ⟨some 30, none, .ia 64 1 (.tmp 1) (.tmp 26)⟩,
  .op ⟨none, none, .st 1 (.tmp 30) (.tmp 29)⟩]
def r12_8 : List J := [
  .op ⟨some 31, none, .mv (.tmp 7)⟩,
  .op ⟨some 32, none, .bin .quo (.tmp 31) (.const (.int .i64 256))⟩,
  .op ⟨some 5, none, .mv (.tmp 32)⟩]
def k12_1 : IC := (.seq (.draw r12_6 []) (.seq (.ops r12_7) (.ops r12_8)))
def r12_5 : List J := [
  .op ⟨some 11, none, .mv (.tmp 6)⟩,
  .op ⟨some 12, none, .bin .add (.tmp 11) (.const (.int .i64 1))⟩,
  .op ⟨some 6, none, .mv (.tmp 12)⟩]
def l12_1 : IC := (.seq (.seq (.ops r12_4) (.cond (.tmp 10) .skip (.exit 0))) (.seq (.block 1 k12_1) (.ops r12_5)))
def k12_0 : IC := (.loop l12_1)
def r12_9 : List J := [
  .op ⟨some 33, none, .ld 64 true (.tmp 1)⟩,
  .op ⟨some 34, none, .mv (.tmp 5)⟩,
  .op ⟨some 35, none, .bin .eql (.tmp 34) (.const (.int .i64 0))⟩,
  .op ⟨none, none, .st 64 (.tmp 2) (.tmp 33)⟩,
  .op ⟨some 3, none, .mv (.tmp 35)⟩]
def d12 : FnD := ⟨36, [.cell 2 64 true, .tmp 3], (.seq (.ops r12_0) (.seq (.ops r12_1) (.seq (.ops r12_2) (.seq (.seq (.ops r12_3) (.block 0 k12_0)) (.seq (.ops r12_9) .ret)))))⟩
theorem ok12 : okF Tryd.prog 12 d12 = true := by kernel_rfl
/- farebox/fareboxlaw08.SignOnce -/
def r5_0 : List J := [
  .op ⟨some 5, none, .bx 38 (.tmp 0)⟩,
  .op ⟨some 7, none, .bx 27 (.tmp 2)⟩,
  .op ⟨some 8, none, .bx 30 (.tmp 3)⟩,
  .op ⟨some 9, none, .bx 26 (.tmp 4)⟩,
  .op ⟨some 10, none, .mv (.const (.bool false))⟩]
def r5_1 : List J := [
  .op ⟨some 18, none, .ld 32 true (.tmp 5)⟩,
  .op ⟨some 19, none, .mv (.tmp 1)⟩,
  .op ⟨some 20, none, .call 11 [(.tmp 18), (.tmp 19)]⟩,
  .op ⟨some 11, none, .al 30 [.ints .u8 64 (List.replicate 64 0)]⟩,
  .op ⟨none, none, .st 64 (.tmp 11) (.tmp 20)⟩]
def r5_2 : List J := [
  .op ⟨some 21, none, .ld 32 true (.tmp 5)⟩,
  .op ⟨some 22, none, .call 10 [(.tmp 21)]⟩,
  .op ⟨some 12, none, .al 27 [.ints .u8 32 (List.replicate 32 0)]⟩,
  .op ⟨none, none, .st 32 (.tmp 12) (.tmp 22)⟩]
def r5_3 : List J := [
  .op ⟨some 23, none, .ld 32 true (.tmp 12)⟩,
  .op ⟨some 24, none, .mv (.tmp 1)⟩,
  .op ⟨some 25, none, .ld 64 true (.tmp 11)⟩,
  .op ⟨some 26, none, .call 7 [(.tmp 23), (.tmp 24), (.tmp 25)]⟩,
  .op ⟨some 27, none, .un .not (.tmp 26)⟩]
def r5_4 : List J := [
  .op ⟨some 10, none, .mv (.const (.bool false))⟩]
def r5_5 : List J := [
  .op ⟨some 28, none, .ld 64 true (.tmp 11)⟩,
  .op ⟨some 13, none, .al 30 [.ints .u8 64 (List.replicate 64 0)]⟩,
  .op ⟨none, none, .st 64 (.tmp 13) (.tmp 28)⟩]
def r5_6 : List J := [
  .op ⟨some 29, none, .ld 64 true (.tmp 8)⟩,
  .op ⟨some 14, none, .al 30 [.ints .u8 64 (List.replicate 64 0)]⟩,
  .op ⟨none, none, .st 64 (.tmp 14) (.tmp 29)⟩]
def r5_7 : List J := [
  .op ⟨some 15, none, .mv (.const (.int .i64 0))⟩]
def r5_8 : List J := [
  .op ⟨some 30, none, .mv (.tmp 15)⟩,
  .op ⟨some 31, none, .bin .lss (.tmp 30) (.const (.int .i64 32))⟩]
def r5_10 : List J := [
  .op ⟨some 34, none, .mv (.tmp 15)⟩,
  .op ⟨some 35, none, .bin .add (.const (.int .i64 32)) (.tmp 34)⟩,
  .op ⟨some 36, none, .mv (.tmp 15)⟩,
  .op ⟨some 37, none, .ia 32 1 (.tmp 9) (.tmp 36)⟩,
  .op ⟨some 38, none, .ld 1 false (.tmp 37)⟩,
  .op ⟨some 39, none, .ia 64 1 (.tmp 13) (.tmp 35)⟩,
  .op ⟨none, none, .st 1 (.tmp 39) (.tmp 38)⟩]
def r5_11 : List J := [
  .op ⟨some 40, none, .mv (.tmp 15)⟩,
  .op ⟨some 41, none, .bin .add (.const (.int .i64 32)) (.tmp 40)⟩,
  .op ⟨some 42, none, .mv (.tmp 15)⟩,
  .op ⟨some 43, none, .ia 32 1 (.tmp 9) (.tmp 42)⟩,
  .op ⟨some 44, none, .ld 1 false (.tmp 43)⟩,
  .op ⟨some 45, none, .ia 64 1 (.tmp 14) (.tmp 41)⟩,
  .op ⟨none, none, .st 1 (.tmp 45) (.tmp 44)⟩]
def k5_1 : IC := (.seq (.ops r5_10) (.ops r5_11))
def r5_9 : List J := [
  .op ⟨some 32, none, .mv (.tmp 15)⟩,
  .op ⟨some 33, none, .bin .add (.tmp 32) (.const (.int .i64 1))⟩,
  .op ⟨some 15, none, .mv (.tmp 33)⟩]
def l5_1 : IC := (.seq (.seq (.ops r5_8) (.cond (.tmp 31) .skip (.exit 0))) (.seq (.block 1 k5_1) (.ops r5_9)))
def k5_0 : IC := (.loop l5_1)
def r5_12 : List J := [
  .op ⟨some 46, none, .ld 64 true (.tmp 13)⟩,
  .op ⟨some 47, none, .ld 64 true (.tmp 11)⟩,
  .op ⟨some 48, none, .eqa true [(.i .u8, 64)] (.tmp 46) (.tmp 47)⟩,
  .op ⟨some 49, none, .mv (.tmp 48)⟩,
  .lg false 49 54 none [.op ⟨some 50, (some (49, true)), .ld 32 true (.tmp 12)⟩, .op ⟨some 51, (some (49, true)), .mv (.tmp 1)⟩, .op ⟨some 52, (some (49, true)), .ld 64 true (.tmp 13)⟩, .op ⟨some 53, (some (49, true)), .call 7 [(.tmp 50), (.tmp 51), (.tmp 52)]⟩] (.tmp 53)]
def r5_13 : List J := [
  .op ⟨some 10, none, .mv (.const (.bool false))⟩]
def r5_14 : List J := [
  .op ⟨some 55, none, .ld 64 true (.tmp 14)⟩,
  .op ⟨some 56, none, .ld 64 true (.tmp 8)⟩,
  .op ⟨some 57, none, .eqa true [(.i .u8, 64)] (.tmp 55) (.tmp 56)⟩,
  .op ⟨some 58, none, .mv (.tmp 57)⟩,
  .lg false 58 63 none [.op ⟨some 59, (some (58, true)), .ld 32 true (.tmp 7)⟩, .op ⟨some 60, (some (58, true)), .mv (.tmp 1)⟩, .op ⟨some 61, (some (58, true)), .ld 64 true (.tmp 8)⟩, .op ⟨some 62, (some (58, true)), .call 7 [(.tmp 59), (.tmp 60), (.tmp 61)]⟩] (.tmp 62),
  .op ⟨some 64, none, .mv (.tmp 63)⟩,
  .lg false 64 69 none [.op ⟨some 65, (some (64, true)), .ld 32 true (.tmp 7)⟩, .op ⟨some 66, (some (64, true)), .mv (.tmp 1)⟩, .op ⟨some 67, (some (64, true)), .ld 64 true (.tmp 14)⟩, .op ⟨some 68, (some (64, true)), .call 7 [(.tmp 65), (.tmp 66), (.tmp 67)]⟩] (.tmp 68)]
def r5_15 : List J := [
  .op ⟨some 10, none, .mv (.const (.bool false))⟩]
def r5_16 : List J := [
  .op ⟨some 71, none, .ld 64 true (.tmp 11)⟩,
  .op ⟨some 72, none, .call 12 [(.tmp 71)]⟩,
  .op ⟨some 70, none, .mv (.tmp 72)⟩,
  .op ⟨some 73, none, .ext (.tmp 70) 0⟩,
  .op ⟨some 74, none, .ext (.tmp 70) 1⟩,
  .op ⟨some 16, none, .al 30 [.ints .u8 64 (List.replicate 64 0)]⟩,
  .op ⟨none, none, .st 64 (.tmp 16) (.tmp 73)⟩,
  .op ⟨some 17, none, .mv (.tmp 74)⟩]
def r5_17 : List J := [
  .op ⟨some 75, none, .mv (.tmp 17)⟩,
  .op ⟨some 76, none, .mv (.tmp 75)⟩,
  .lg false 76 82 none [.op ⟨some 77, (some (76, true)), .ld 32 true (.tmp 12)⟩, .op ⟨some 78, (some (76, true)), .mv (.tmp 1)⟩, .op ⟨some 79, (some (76, true)), .ld 64 true (.tmp 16)⟩, .op ⟨some 80, (some (76, true)), .call 7 [(.tmp 77), (.tmp 78), (.tmp 79)]⟩, .op ⟨some 81, (some (76, true)), .un .not (.tmp 80)⟩] (.tmp 81),
  .op ⟨some 83, none, .mv (.tmp 82)⟩,
  .lg false 83 85 none [.op ⟨some 84, (some (83, true)), .call 9 []⟩] (.tmp 84),
  .op ⟨some 10, none, .mv (.tmp 85)⟩]
def d5 : FnD := ⟨86, [.tmp 10], (.seq (.ops r5_0) (.seq (.ops r5_1) (.seq (.ops r5_2) (.seq (.seq (.ops r5_3) (.cond (.tmp 27) (.seq (.ops r5_4) .ret) .skip)) (.seq (.ops r5_5) (.seq (.ops r5_6) (.seq (.seq (.ops r5_7) (.block 0 k5_0)) (.seq (.seq (.ops r5_12) (.cond (.tmp 54) (.seq (.ops r5_13) .ret) .skip)) (.seq (.seq (.ops r5_14) (.cond (.tmp 69) (.seq (.ops r5_15) .ret) .skip)) (.seq (.ops r5_16) (.seq (.ops r5_17) .ret)))))))))))⟩
theorem ok5 : okF Tryd.prog 5 d5 = true := by kernel_rfl
end Go.Proofs.YtiflckckekjbnaaDoor
/- The printed key. -/
namespace Go.Proofs.YtiflckckekjbnaaDoor
open Go Go.Sx Go.RowKit
set_option linter.all false
set_option maxHeartbeats 400000
set_option maxRecDepth 100000
def fareboxlaw08_printed  : Option (Bool) :=
 bnd (([157, 97, 177, 157, 239, 253, 90, 96, 186, 132, 74, 244, 146, 236, 44, 196, 68, 73, 197, 105, 123, 50, 105, 25, 112, 59, 172, 3, 28, 174, 127, 96] : List Int)) fun z3 =>
 opt (sign_Public z3) fun y6 =>
 bnd (([215, 90, 152, 1, 130, 177, 10, 183, 213, 75, 254, 211, 201, 100, 7, 58, 14, 225, 114, 243, 218, 166, 35, 37, 175, 2, 26, 104, 247, 7, 81, 26] : List Int)) fun z7 =>
 some (ieq 32 y6 z7)
theorem fareboxlaw08_printed_spec {W : World} {r : Bool} (h : fareboxlaw08_printed  = some r) (hG : Globs W) :
    Calls Tryd.prog 9 [].toArray W (ret1 W (.bool (r))) := by
  unfold fareboxlaw08_printed at h
  refine calls_val mo ok9 rfl ?_
  refine wc_seq ?_
  refine wc_ops ?_
  refine wj_q _ (q_mv rfl) ?_
  refine wj_nil ?_
  refine wc_seq ?_
  revert h
  refine bnd_i fun z3 ez3 => ?_
  intro h
  refine wc_ops ?_
  refine wj_q _ (az (fun z => agg [.ints .u8 32 z]) ez3 (q_bd (.one rfl rfl rfl (.one rfl rfl rfl (.one rfl rfl rfl (.one rfl rfl rfl (.one rfl rfl rfl (.one rfl rfl rfl (.one rfl rfl rfl (.one rfl rfl rfl (.one rfl rfl rfl (.one rfl rfl rfl (.one rfl rfl rfl (.one rfl rfl rfl (.one rfl rfl rfl (.one rfl rfl rfl (.one rfl rfl rfl (.one rfl rfl rfl (.one rfl rfl rfl (.one rfl rfl rfl (.one rfl rfl rfl (.one rfl rfl rfl (.one rfl rfl rfl (.one rfl rfl rfl (.one rfl rfl rfl (.one rfl rfl rfl (.one rfl rfl rfl (.one rfl rfl rfl (.one rfl rfl rfl (.one rfl rfl rfl (.one rfl rfl rfl (.one rfl rfl rfl (.one rfl rfl rfl (.one rfl rfl rfl BdR.nil)))))))))))))))))))))))))))))))))) ?_
  refine wj_e (ef_al fun b4 hb4 => ?_)
  refine wj_e (ef_st (q := [.ints .u8 32 (z3)]) rfl rfl rfl rfl rfl .here ?_)
  refine wj_nil ?_
  refine wc_seq ?_
  revert h
  refine opt_i fun y6 ey6 => ?_
  refine bnd_i fun z7 ez7 => ?_
  intro h
  refine wc_ops ?_
  refine wj_q _ (q_ld (p := [.ints .u8 32 (z3)]) rfl .here rfl) ?_
  refine wj_q _ (q_call (vs := [agg [.ints .u8 32 (z3)]]) (v := agg [.ints .u8 32 (y6)]) rfl (fun w hw => sign_Public_spec (r := y6) (p0 := z3) ey6 (hG.at hw (by simp)))) ?_
  refine wj_q _ (az (fun z => agg [.ints .u8 32 z]) ez7 (q_bd (.one rfl rfl rfl (.one rfl rfl rfl (.one rfl rfl rfl (.one rfl rfl rfl (.one rfl rfl rfl (.one rfl rfl rfl (.one rfl rfl rfl (.one rfl rfl rfl (.one rfl rfl rfl (.one rfl rfl rfl (.one rfl rfl rfl (.one rfl rfl rfl (.one rfl rfl rfl (.one rfl rfl rfl (.one rfl rfl rfl (.one rfl rfl rfl (.one rfl rfl rfl (.one rfl rfl rfl (.one rfl rfl rfl (.one rfl rfl rfl (.one rfl rfl rfl (.one rfl rfl rfl (.one rfl rfl rfl (.one rfl rfl rfl (.one rfl rfl rfl (.one rfl rfl rfl (.one rfl rfl rfl (.one rfl rfl rfl (.one rfl rfl rfl (.one rfl rfl rfl (.one rfl rfl rfl (.one rfl rfl rfl BdR.nil)))))))))))))))))))))))))))))))))) ?_
  refine wj_q _ (q_eqa rfl rfl rfl rfl _ (eqc_last eqc_ints)) ?_
  refine wj_q _ (q_mv rfl) ?_
  refine wj_nil ?_
  refine wc_ret ?_
  revert h; refine ret_i fun h => ?_
  subst h
  exact ⟨_, (.cons (.tmp rfl) .nil), rfl⟩
end Go.Proofs.YtiflckckekjbnaaDoor
/- The printed key. -/
namespace Go.Proofs.YtiflckckekjbnaaDoor
open Go Go.Sx Go.RowKit
set_option linter.all false
set_option maxRecDepth 100000

theorem printed_eq : fareboxlaw08_printed = some true := by
  rw [fareboxlaw08_printed, bnd_eq]
  show opt (sign_Public pubSeed) _ = _
  rw [opt_some public_printed, bnd_eq]
  rfl
end Go.Proofs.YtiflckckekjbnaaDoor
/- Mirrors of SignHolds and SignOnce. -/
namespace Go.Proofs.YtiflckckekjbnaaDoor
open Go Go.Sx Go.RowKit
set_option linter.all false
set_option maxHeartbeats 400000
set_option maxRecDepth 100000
def fareboxlaw08_SignHolds (p0 : List Int) (p1 : List Int) : Option (Bool) :=
 opt (sign_Public p0) fun y4 =>
 opt (sign_Sign p0 p1) fun y5 =>
 opt (sign_Verify y4 p1 y5) fun y6 =>
 chk (imp y6 ((fareboxlaw08_printed).isSome)) <|
 some (y6 && ((fareboxlaw08_printed).getD false))
theorem fareboxlaw08_SignHolds_spec {W : World} {r : Bool} {p0 : List Int} {p1 : List Int} {v1 : Value} (h : fareboxlaw08_SignHolds p0 p1 = some r) (hG : Globs W) (A1 : RdSl (El.int .u8) W v1 p1) :
    Calls Tryd.prog 4 [agg [.ints .u8 32 (p0)], v1].toArray W (ret1 W (.bool (r))) := by
  unfold fareboxlaw08_SignHolds at h
  refine calls_val mo ok4 rfl ?_
  refine wc_seq ?_
  refine wc_ops ?_
  refine wj_e (ef_bx (s := [.ints .u8 32 (p0)]) rfl fun b2 hb2 => ?_)
  refine wj_q _ (q_mv rfl) ?_
  refine wj_nil ?_
  refine wc_seq ?_
  revert h
  refine opt_i fun y4 ey4 => ?_
  refine opt_i fun y5 ey5 => ?_
  refine opt_i fun y6 ey6 => ?_
  refine chk_i fun c7 => ?_
  intro h
  refine wc_draw ?_
  refine ws_p1 _ (q_mv rfl) ?_
  refine ws_p1 _ (q_mv rfl) ?_
  refine ws_q1 _ (q_ld (p := [.ints .u8 32 (p0)]) rfl .here rfl) ?_
  refine ws_p1 _ (q_call (vs := [agg [.ints .u8 32 (p0)]]) (v := agg [.ints .u8 32 (y4)]) rfl (fun w hw => sign_Public_spec (r := y4) (p0 := p0) ey4 (hG.at hw (by simp)))) ?_
  refine ws_q1 _ (q_ld (p := [.ints .u8 32 (p0)]) rfl .here rfl) ?_
  refine ws_q1 _ (q_call (vs := [agg [.ints .u8 32 (p0)], v1]) (v := agg [.ints .u8 64 (y5)]) rfl (fun w hw => sign_Sign_spec (r := y5) (p0 := p0) (p1 := p1) ey5 (hG.at hw (by simp)) ((rd_arg A1 apart0) w hw))) ?_
  refine ws_q1 _ (q_call (vs := [agg [.ints .u8 32 (y4)], v1, agg [.ints .u8 64 (y5)]]) (v := .bool (y6)) rfl (fun w hw => sign_Verify_spec (r := y6) (p0 := y4) (p1 := p1) (p2 := y5) ey6 (hG.at hw (by simp)) ((rd_arg A1 apart0) w hw))) ?_
  refine ws_p1 _ (q_mv rfl) ?_
  refine wsp_and rfl rfl rfl (fun hg1 => qj_g rfl _ (q_call (vs := []) (v := .bool (((fareboxlaw08_printed).getD false))) rfl (fun w hw => fareboxlaw08_printed_spec (r := ((fareboxlaw08_printed).getD false)) (getD_some (z := false) (imp_t c7 hg1)) (hG.at hw (by simp)))) (qj_nil)) (fun hg1 => rfl) rfl ?_
  refine ws_p1 _ (q_mv rfl) ?_
  refine ws_nil ?_
  refine wc_ret ?_
  revert h; refine ret_i fun h => ?_
  subst h
  exact ⟨_, (.cons (.tmp rfl) .nil), rfl⟩
def fareboxlaw08_order  : Option ((List Int)) :=
 bnd (([237, 211, 245, 92, 26, 99, 18, 88, 214, 156, 247, 162, 222, 249, 222, 20, 0, 0, 0, 0, 0, 0, 0, 0, 0, 0, 0, 0, 0, 0, 0, 16] : List Int)) fun z4 =>
 some z4
theorem fareboxlaw08_order_spec {W : World} {r : (List Int)} (h : fareboxlaw08_order  = some r)  :
    Calls Tryd.prog 27 [].toArray W (ret1 W (agg [.ints .u8 32 (r)])) := by
  unfold fareboxlaw08_order at h
  refine calls_val mo ok27 rfl ?_
  refine wc_seq ?_
  refine wc_ops ?_
  refine wj_e (ef_al fun b2 hb2 => ?_)
  refine wj_nil ?_
  refine wc_seq ?_
  revert h
  refine bnd_i fun z4 ez4 => ?_
  intro h
  refine wc_ops ?_
  refine wj_q _ (az (fun z => agg [.ints .u8 32 z]) ez4 (q_bd (.one rfl rfl rfl (.one rfl rfl rfl (.one rfl rfl rfl (.one rfl rfl rfl (.one rfl rfl rfl (.one rfl rfl rfl (.one rfl rfl rfl (.one rfl rfl rfl (.one rfl rfl rfl (.one rfl rfl rfl (.one rfl rfl rfl (.one rfl rfl rfl (.one rfl rfl rfl (.one rfl rfl rfl (.one rfl rfl rfl (.one rfl rfl rfl (.one rfl rfl rfl BdR.nil))))))))))))))))))) ?_
  refine wj_e (ef_st (q := [.ints .u8 32 (z4)]) rfl rfl rfl rfl rfl .here ?_)
  refine wj_nil ?_
  refine wc_ret ?_
  revert h; refine ret_i fun h => ?_
  subst h
  exact ⟨_, (.cons (.agg rfl .here rfl) .nil), rfl⟩
def fareboxlaw08_raised_b1 (y5 : (List Int)) (k78 : (Int) → (List Int) → Option ((List Int) × Bool)) (k122 : (Int) → (Int) → (List Int) → Option ((List Int) × Bool)) (i119 : Int) (i120 : Int) (a121 : List Int) : Option ((List Int) × Bool) :=
 br ((decide (i120 < 32))) (
 bnd (IntKind.wrap .i64 (32 + i120)) fun z127 =>
 chk (inB z127 64) <|
 chk (inB i120 32) <|
 bnd (a121.getD (z127).toNat 0) fun z130 =>
 bnd (IntKind.wrap .i64 z130) fun z131 =>
 bnd (y5.getD (i120).toNat 0) fun z132 =>
 bnd (IntKind.wrap .i64 z132) fun z133 =>
 bnd (IntKind.wrap .i64 (z131 + z133)) fun z134 =>
 bnd (IntKind.wrap .i64 (z134 + i119)) fun z135 =>
 bnd (IntKind.wrap .i64 (32 + i120)) fun z137 =>
 bnd (Int.tmod z135 256) fun z138 =>
 bnd (IntKind.wrap .u8 z138) fun z139 =>
 chk (inB z137 64) <|
 bnd (setD a121 (z137).toNat z139) fun l141 =>
 bnd (IntKind.wrap .i64 (Int.tdiv z135 256)) fun z143 =>
 bnd (IntKind.wrap .i64 (i120 + 1)) fun z145 =>
 k122 z143 z145 l141
 ) (
 k78 i119 a121
 )
def fareboxlaw08_raised_l1 (y5 : (List Int)) (k78 : (Int) → (List Int) → Option ((List Int) × Bool)) : Nat → (Int) → (Int) → (List Int) → Option ((List Int) × Bool)
  | 0, _, _, _ => none
  | n + 1, i119, i120, a121 => fareboxlaw08_raised_b1 y5 k78 (fareboxlaw08_raised_l1 y5 k78 n) i119 i120 a121
def fareboxlaw08_raised (p0 : List Int) : Option ((List Int) × Bool) :=
 opt (fareboxlaw08_order) fun y5 =>
 jn (fun (i76 : Int) (a77 : List Int) => some (a77, (i76 == 0))) fun k78 => fareboxlaw08_raised_l1 y5 k78 big 0 0 p0
theorem fareboxlaw08_raised_spec {W : World} {r : (List Int) × Bool} {p0 : List Int} (h : fareboxlaw08_raised p0 = some r)  :
    Calls Tryd.prog 12 [agg [.ints .u8 64 (p0)]].toArray W (ret1 W (.tuple #[agg [.ints .u8 64 (r.1)], .bool (r.2)])) := by
  unfold fareboxlaw08_raised at h
  refine calls_val mo ok12 rfl ?_
  refine wc_seq ?_
  refine wc_ops ?_
  refine wj_e (ef_bx (s := [.ints .u8 64 (p0)]) rfl fun b2 hb2 => ?_)
  refine wj_e (ef_al fun b3 hb3 => ?_)
  refine wj_q _ (q_mv rfl) ?_
  refine wj_nil ?_
  refine wc_seq ?_
  revert h
  refine opt_i fun y5 ey5 => ?_
  intro h
  refine wc_ops ?_
  refine wj_q _ (q_call (vs := []) (v := agg [.ints .u8 32 (y5)]) rfl (fun w hw => fareboxlaw08_order_spec (r := y5) ey5 )) ?_
  refine wj_e (ef_al fun b6 hb6 => ?_)
  refine wj_e (ef_st (q := [.ints .u8 32 (y5)]) rfl rfl rfl rfl rfl .here ?_)
  refine wj_nil ?_
  refine wc_seq ?_
  refine wc_ops ?_
  refine wj_q _ (q_mv rfl) ?_
  refine wj_nil ?_
  refine wc_seq ?_
  refine wc_seq ?_
  refine wc_ops ?_
  refine wj_q _ (q_mv rfl) ?_
  refine wj_nil ?_
  revert h
  refine jn_i fun k78 qk78 => ?_
  intro h
  refine wc_mono2 (G := fun t m => ∃ (i76 : Int) (a77 : List Int), k78 i76 a77 = some r ∧ Fit [(1, .pointer (some ⟨b2, 0, none⟩)), (2, .pointer (some ⟨b3, 0, none⟩)), (5, .int .i64 (i76))] (ck b6 26 [.ints .u8 32 (y5)] :: (ck b3 30 [.ints .u8 64 ((List.replicate 64 0))] :: (ck b2 30 [.ints .u8 64 (a77)] :: []))) t m) ?_ ?_
  · refine wc_block ?_
    refine wc_loopJ (fun n123 t m => ∃ (i119 : Int) (i120 : Int) (a121 : List Int), fareboxlaw08_raised_l1 y5 k78 n123 i119 i120 a121 = some r ∧ Fit [(1, .pointer (some ⟨b2, 0, none⟩)), (2, .pointer (some ⟨b3, 0, none⟩)), (4, .pointer (some ⟨b6, 0, none⟩)), (5, .int .i64 (i119)), (6, .int .i64 (i120))] (ck b6 26 [.ints .u8 32 (y5)] :: (ck b3 30 [.ints .u8 64 ((List.replicate 64 0))] :: (ck b2 30 [.ints .u8 64 (a121)] :: []))) t m) big ?_ ?_
    · exact ⟨0, 0, p0, h, ⟨⟨rfl, rfl, rfl, rfl, rfl, trivial⟩, (.one .here (.one .here (.one .here .nil)))⟩⟩
    · rintro n123 t m ⟨i119, i120, a121, h, hF⟩
      refine wc_fit hF ?_
      clear hF
      rcases n123 with _ | n123
      · exact none_i h
      have h : fareboxlaw08_raised_b1 y5 k78 (fareboxlaw08_raised_l1 y5 k78 n123) i119 i120 a121 = some r := h
      unfold fareboxlaw08_raised_b1 at h
      obtain ⟨k122, qk122⟩ : ∃ k, k = fareboxlaw08_raised_l1 y5 k78 n123 := ⟨_, rfl⟩
      try rw [← qk122] at h
      refine wc_seq ?_
      refine wc_seq ?_
      refine wc_ops ?_
      refine wj_q _ (q_mv rfl) ?_
      refine wj_q _ (q_bin rfl rfl rfl) ?_
      refine wj_nil ?_
      refine wc_if (c := (decide (i120 < 32))) rfl (fun d125 => ?_) (fun d125 => ?_)
      · have h := br_t h d125
        refine wc_skip ?_
        refine wc_seq ?_
        refine wc_block ?_
        refine wc_seq ?_
        revert h
        refine bnd_i fun z127 ez127 => ?_
        refine chk_i fun c128 => ?_
        refine chk_i fun c129 => ?_
        refine bnd_i fun z130 ez130 => ?_
        refine bnd_i fun z131 ez131 => ?_
        refine bnd_i fun z132 ez132 => ?_
        refine bnd_i fun z133 ez133 => ?_
        refine bnd_i fun z134 ez134 => ?_
        refine bnd_i fun z135 ez135 => ?_
        intro h
        refine wc_draw ?_
        refine ws_p1 _ (q_mv rfl) ?_
        refine ws_p1 _ (iz ez127 (q_bin rfl rfl rfl)) ?_
        refine ws_p1 _ (q_ia rfl rfl (inB_z c128)) ?_
        refine ws_p1 _ (q_mv rfl) ?_
        refine ws_p1 _ (q_ia rfl rfl (inB_z c129)) ?_
        refine ws_p1 _ (q_mv rfl) ?_
        refine ws_q1 _ (iz ez130 (q_ldi (base := 0) rfl (.there (.there .here)) rfl (inB_n c128))) ?_
        refine ws_p1 _ (iz ez131 (q_conv rfl)) ?_
        refine ws_q1 _ (iz ez132 (q_ldi (base := 0) rfl .here rfl (inB_n c129))) ?_
        refine ws_p1 _ (iz ez133 (q_conv rfl)) ?_
        refine ws_p1 _ (iz ez134 (q_bin rfl rfl rfl)) ?_
        refine ws_p1 _ (iz ez135 (q_bin rfl rfl rfl)) ?_
        refine ws_p1 _ (q_mv rfl) ?_
        refine ws_nil ?_
        refine wc_seq ?_
        revert h
        refine bnd_i fun z137 ez137 => ?_
        refine bnd_i fun z138 ez138 => ?_
        refine bnd_i fun z139 ez139 => ?_
        refine chk_i fun c140 => ?_
        refine bnd_i fun l141 el141 => ?_
        intro h
        refine wc_ops ?_
        refine wj_q _ (q_mv rfl) ?_
        refine wj_q _ (iz ez137 (q_bin rfl rfl rfl)) ?_
        refine wj_q _ (q_mv rfl) ?_
        refine wj_q _ (iz ez138 (q_rem rfl rfl (by decide))) ?_
        refine wj_q _ (iz ez139 (q_conv rfl)) ?_
        refine wj_q _ (q_ia rfl rfl (inB_z c140)) ?_
        refine wj_e (ef_stiz (q := [.ints .u8 64 (l141)]) (base := 0) el141 rfl rfl rfl (inB_n c140) rfl (.there (.there .here)) ?_)
        refine wj_nil ?_
        revert h
        refine bnd_i fun z143 ez143 => ?_
        intro h
        refine wc_ops ?_
        refine wj_q _ (q_mv rfl) ?_
        refine wj_q _ (iz ez143 (q_quo rfl rfl (by decide))) ?_
        refine wj_q _ (q_mv rfl) ?_
        refine wj_nil ?_
        revert h
        refine bnd_i fun z145 ez145 => ?_
        intro h
        refine wc_ops ?_
        refine wj_q _ (q_mv rfl) ?_
        refine wj_q _ (iz ez145 (q_bin rfl rfl rfl)) ?_
        refine wj_q _ (q_mv rfl) ?_
        refine wj_nil ?_
        rw [qk122] at h
        exact ⟨n123, Nat.lt_succ_self _, z143, z145, l141, h, ⟨⟨rfl, rfl, rfl, rfl, rfl, trivial⟩, (.one .here (.one .here (.one .here .nil)))⟩⟩
      · have h := br_f h d125
        refine wc_exit _ rfl ?_
        exact ⟨i119, a121, h, ⟨⟨rfl, rfl, rfl, trivial⟩, (.one .here (.one .here (.one .here .nil)))⟩⟩
  · rintro t m ⟨i76, a77, h, hF⟩
    refine wc_fit hF ?_
    clear hF
    subst qk78
    refine wc_seq ?_
    refine wc_ops ?_
    refine wj_q _ (q_ld (p := [.ints .u8 64 (a77)]) rfl (.there (.there .here)) rfl) ?_
    refine wj_q _ (q_mv rfl) ?_
    refine wj_q _ (q_bin rfl rfl rfl) ?_
    refine wj_e (ef_st (q := [.ints .u8 64 (a77)]) rfl rfl rfl rfl rfl (.there .here) ?_)
    refine wj_q _ (q_mv rfl) ?_
    refine wj_nil ?_
    refine wc_ret ?_
    revert h; refine ret_i fun h => ?_
    subst h
    exact ⟨_, (.cons (.agg rfl (.there .here) rfl) (.cons (.tmp rfl) .nil)), rfl⟩
def fareboxlaw08_SignOnce_b1 (p4 : List Int) (k71 : (List Int) → (List Int) → Option (Bool)) (k102 : (Int) → (List Int) → (List Int) → Option (Bool)) (i99 : Int) (a100 : List Int) (a101 : List Int) : Option (Bool) :=
 br ((decide (i99 < 32))) (
 bnd (IntKind.wrap .i64 (32 + i99)) fun z107 =>
 chk (inB i99 32) <|
 bnd (p4.getD (i99).toNat 0) fun z109 =>
 chk (inB z107 64) <|
 bnd (setD a101 (z107).toNat z109) fun l111 =>
 bnd (IntKind.wrap .i64 (32 + i99)) fun z113 =>
 chk (inB i99 32) <|
 bnd (p4.getD (i99).toNat 0) fun z115 =>
 chk (inB z113 64) <|
 bnd (setD a100 (z113).toNat z115) fun l117 =>
 bnd (IntKind.wrap .i64 (i99 + 1)) fun z119 =>
 k102 z119 l117 l111
 ) (
 k71 a100 a101
 )
def fareboxlaw08_SignOnce_l1 (p4 : List Int) (k71 : (List Int) → (List Int) → Option (Bool)) : Nat → (Int) → (List Int) → (List Int) → Option (Bool)
  | 0, _, _, _ => none
  | n + 1, i99, a100, a101 => fareboxlaw08_SignOnce_b1 p4 k71 (fareboxlaw08_SignOnce_l1 p4 k71 n) i99 a100 a101
def fareboxlaw08_SignOnce (p0 : List Int) (p1 : List Int) (p2 : List Int) (p3 : List Int) (p4 : List Int) : Option (Bool) :=
 opt (sign_Sign p0 p1) fun y7 =>
 opt (sign_Public p0) fun y10 =>
 opt (sign_Verify y10 p1 y7) fun y13 =>
 br ((!y13)) (
 some false
 ) (
 jn (fun (a69 : List Int) (a70 : List Int) => chk (imp (!(ieq 64 a70 y7)) ((sign_Verify y10 p1 a70).isSome)) <|
 br (((!(ieq 64 a70 y7)) && ((sign_Verify y10 p1 a70).getD false))) (
 some false
 ) (
 chk (imp (!(ieq 64 a69 p3)) ((sign_Verify p2 p1 p3).isSome)) <|
 chk (imp ((!(ieq 64 a69 p3)) && ((sign_Verify p2 p1 p3).getD false)) ((sign_Verify p2 p1 a69).isSome)) <|
 br ((((!(ieq 64 a69 p3)) && ((sign_Verify p2 p1 p3).getD false)) && ((sign_Verify p2 p1 a69).getD false))) (
 some false
 ) (
 opt (fareboxlaw08_raised y7) fun y130 =>
 chk (imp y130.2 ((sign_Verify y10 p1 y130.1).isSome)) <|
 chk (imp (y130.2 && (!((sign_Verify y10 p1 y130.1).getD false))) ((fareboxlaw08_printed).isSome)) <|
 some ((y130.2 && (!((sign_Verify y10 p1 y130.1).getD false))) && ((fareboxlaw08_printed).getD false))
 )
 )) fun k71 => fareboxlaw08_SignOnce_l1 p4 k71 big 0 p3 y7
 )
theorem fareboxlaw08_SignOnce_spec {W : World} {r : Bool} {p0 : List Int} {p1 : List Int} {p2 : List Int} {p3 : List Int} {p4 : List Int} {v1 : Value} (h : fareboxlaw08_SignOnce p0 p1 p2 p3 p4 = some r) (hG : Globs W) (A1 : RdSl (El.int .u8) W v1 p1) :
    Calls Tryd.prog 5 [agg [.ints .u8 32 (p0)], v1, agg [.ints .u8 32 (p2)], agg [.ints .u8 64 (p3)], agg [.ints .u8 32 (p4)]].toArray W (ret1 W (.bool (r))) := by
  unfold fareboxlaw08_SignOnce at h
  refine calls_val mo ok5 rfl ?_
  refine wc_seq ?_
  refine wc_ops ?_
  refine wj_e (ef_bx (s := [.ints .u8 32 (p0)]) rfl fun b2 hb2 => ?_)
  refine wj_e (ef_bx (s := [.ints .u8 32 (p2)]) rfl fun b3 hb3 => ?_)
  refine wj_e (ef_bx (s := [.ints .u8 64 (p3)]) rfl fun b4 hb4 => ?_)
  refine wj_e (ef_bx (s := [.ints .u8 32 (p4)]) rfl fun b5 hb5 => ?_)
  refine wj_q _ (q_mv rfl) ?_
  refine wj_nil ?_
  refine wc_seq ?_
  revert h
  refine opt_i fun y7 ey7 => ?_
  intro h
  refine wc_ops ?_
  refine wj_q _ (q_ld (p := [.ints .u8 32 (p0)]) rfl (.there (.there (.there .here))) rfl) ?_
  refine wj_q _ (q_mv rfl) ?_
  refine wj_q _ (q_call (vs := [agg [.ints .u8 32 (p0)], v1]) (v := agg [.ints .u8 64 (y7)]) rfl (fun w hw => sign_Sign_spec (r := y7) (p0 := p0) (p1 := p1) ey7 (hG.at hw (by simp)) ((rd_arg A1 apart0) w hw))) ?_
  refine wj_e (ef_al fun b8 hb8 => ?_)
  refine wj_e (ef_st (q := [.ints .u8 64 (y7)]) rfl rfl rfl rfl rfl .here ?_)
  refine wj_nil ?_
  refine wc_seq ?_
  revert h
  refine opt_i fun y10 ey10 => ?_
  intro h
  refine wc_ops ?_
  refine wj_q _ (q_ld (p := [.ints .u8 32 (p0)]) rfl (.there (.there (.there (.there .here)))) rfl) ?_
  refine wj_q _ (q_call (vs := [agg [.ints .u8 32 (p0)]]) (v := agg [.ints .u8 32 (y10)]) rfl (fun w hw => sign_Public_spec (r := y10) (p0 := p0) ey10 (hG.at hw (by simp)))) ?_
  refine wj_e (ef_al fun b11 hb11 => ?_)
  refine wj_e (ef_st (q := [.ints .u8 32 (y10)]) rfl rfl rfl rfl rfl .here ?_)
  refine wj_nil ?_
  refine wc_seq ?_
  refine wc_seq ?_
  revert h
  refine opt_i fun y13 ey13 => ?_
  intro h
  refine wc_ops ?_
  refine wj_q _ (q_ld (p := [.ints .u8 32 (y10)]) rfl .here rfl) ?_
  refine wj_q _ (q_mv rfl) ?_
  refine wj_q _ (q_ld (p := [.ints .u8 64 (y7)]) rfl (.there .here) rfl) ?_
  refine wj_q _ (q_call (vs := [agg [.ints .u8 32 (y10)], v1, agg [.ints .u8 64 (y7)]]) (v := .bool (y13)) rfl (fun w hw => sign_Verify_spec (r := y13) (p0 := y10) (p1 := p1) (p2 := y7) ey13 (hG.at hw (by simp)) ((rd_arg A1 apart0) w hw))) ?_
  refine wj_q _ (q_un rfl rfl) ?_
  refine wj_nil ?_
  refine wc_if (c := (!y13)) rfl (fun d14 => ?_) (fun d14 => ?_)
  · have h := br_t h d14
    refine wc_seq ?_
    refine wc_ops ?_
    refine wj_q _ (q_mv rfl) ?_
    refine wj_nil ?_
    refine wc_ret ?_
    revert h; refine ret_i fun h => ?_
    subst h
    exact ⟨_, (.cons (.tmp rfl) .nil), rfl⟩
  · have h := br_f h d14
    refine wc_skip ?_
    refine wc_seq ?_
    refine wc_ops ?_
    refine wj_q _ (q_ld (p := [.ints .u8 64 (y7)]) rfl (.there .here) rfl) ?_
    refine wj_e (ef_al fun b17 hb17 => ?_)
    refine wj_e (ef_st (q := [.ints .u8 64 (y7)]) rfl rfl rfl rfl rfl .here ?_)
    refine wj_nil ?_
    refine wc_seq ?_
    refine wc_ops ?_
    refine wj_q _ (q_ld (p := [.ints .u8 64 (p3)]) rfl (.there (.there (.there (.there .here)))) rfl) ?_
    refine wj_e (ef_al fun b19 hb19 => ?_)
    refine wj_e (ef_st (q := [.ints .u8 64 (p3)]) rfl rfl rfl rfl rfl .here ?_)
    refine wj_nil ?_
    refine wc_seq ?_
    refine wc_seq ?_
    refine wc_ops ?_
    refine wj_q _ (q_mv rfl) ?_
    refine wj_nil ?_
    revert h
    refine jn_i fun k71 qk71 => ?_
    intro h
    refine wc_mono2 (G := fun t m => ∃ (a69 : List Int) (a70 : List Int), k71 a69 a70 = some r ∧ Fit [(1, v1), (7, .pointer (some ⟨b3, 0, none⟩)), (8, .pointer (some ⟨b4, 0, none⟩)), (11, .pointer (some ⟨b8, 0, none⟩)), (12, .pointer (some ⟨b11, 0, none⟩)), (13, .pointer (some ⟨b17, 0, none⟩)), (14, .pointer (some ⟨b19, 0, none⟩))] (ck b19 30 [.ints .u8 64 (a69)] :: (ck b17 30 [.ints .u8 64 (a70)] :: (ck b11 27 [.ints .u8 32 (y10)] :: (ck b8 30 [.ints .u8 64 (y7)] :: (ck b5 26 [.ints .u8 32 (p4)] :: (ck b4 30 [.ints .u8 64 (p3)] :: (ck b3 27 [.ints .u8 32 (p2)] :: (ck b2 38 [.ints .u8 32 (p0)] :: [])))))))) t m) ?_ ?_
    · refine wc_block ?_
      refine wc_loopJ (fun n103 t m => ∃ (i99 : Int) (a100 : List Int) (a101 : List Int), fareboxlaw08_SignOnce_l1 p4 k71 n103 i99 a100 a101 = some r ∧ Fit [(1, v1), (7, .pointer (some ⟨b3, 0, none⟩)), (8, .pointer (some ⟨b4, 0, none⟩)), (9, .pointer (some ⟨b5, 0, none⟩)), (11, .pointer (some ⟨b8, 0, none⟩)), (12, .pointer (some ⟨b11, 0, none⟩)), (13, .pointer (some ⟨b17, 0, none⟩)), (14, .pointer (some ⟨b19, 0, none⟩)), (15, .int .i64 (i99))] (ck b19 30 [.ints .u8 64 (a100)] :: (ck b17 30 [.ints .u8 64 (a101)] :: (ck b11 27 [.ints .u8 32 (y10)] :: (ck b8 30 [.ints .u8 64 (y7)] :: (ck b5 26 [.ints .u8 32 (p4)] :: (ck b4 30 [.ints .u8 64 (p3)] :: (ck b3 27 [.ints .u8 32 (p2)] :: (ck b2 38 [.ints .u8 32 (p0)] :: [])))))))) t m) big ?_ ?_
      · exact ⟨0, p3, y7, h, ⟨⟨rfl, rfl, rfl, rfl, rfl, rfl, rfl, rfl, rfl, trivial⟩, (.one .here (.one .here (.one .here (.one .here (.one .here (.one .here (.one .here (.one .here .nil))))))))⟩⟩
      · rintro n103 t m ⟨i99, a100, a101, h, hF⟩
        refine wc_fit hF ?_
        clear hF
        rcases n103 with _ | n103
        · exact none_i h
        have h : fareboxlaw08_SignOnce_b1 p4 k71 (fareboxlaw08_SignOnce_l1 p4 k71 n103) i99 a100 a101 = some r := h
        unfold fareboxlaw08_SignOnce_b1 at h
        obtain ⟨k102, qk102⟩ : ∃ k, k = fareboxlaw08_SignOnce_l1 p4 k71 n103 := ⟨_, rfl⟩
        try rw [← qk102] at h
        refine wc_seq ?_
        refine wc_seq ?_
        refine wc_ops ?_
        refine wj_q _ (q_mv rfl) ?_
        refine wj_q _ (q_bin rfl rfl rfl) ?_
        refine wj_nil ?_
        refine wc_if (c := (decide (i99 < 32))) rfl (fun d105 => ?_) (fun d105 => ?_)
        · have h := br_t h d105
          refine wc_skip ?_
          refine wc_seq ?_
          refine wc_block ?_
          refine wc_seq ?_
          revert h
          refine bnd_i fun z107 ez107 => ?_
          refine chk_i fun c108 => ?_
          refine bnd_i fun z109 ez109 => ?_
          refine chk_i fun c110 => ?_
          refine bnd_i fun l111 el111 => ?_
          intro h
          refine wc_ops ?_
          refine wj_q _ (q_mv rfl) ?_
          refine wj_q _ (iz ez107 (q_bin rfl rfl rfl)) ?_
          refine wj_q _ (q_mv rfl) ?_
          refine wj_q _ (q_ia rfl rfl (inB_z c108)) ?_
          refine wj_q _ (iz ez109 (q_ldi (base := 0) rfl (.there (.there (.there (.there .here)))) rfl (inB_n c108))) ?_
          refine wj_q _ (q_ia rfl rfl (inB_z c110)) ?_
          refine wj_e (ef_stiz (q := [.ints .u8 64 (l111)]) (base := 0) el111 rfl rfl rfl (inB_n c110) rfl (.there .here) ?_)
          refine wj_nil ?_
          revert h
          refine bnd_i fun z113 ez113 => ?_
          refine chk_i fun c114 => ?_
          refine bnd_i fun z115 ez115 => ?_
          refine chk_i fun c116 => ?_
          refine bnd_i fun l117 el117 => ?_
          intro h
          refine wc_ops ?_
          refine wj_q _ (q_mv rfl) ?_
          refine wj_q _ (iz ez113 (q_bin rfl rfl rfl)) ?_
          refine wj_q _ (q_mv rfl) ?_
          refine wj_q _ (q_ia rfl rfl (inB_z c114)) ?_
          refine wj_q _ (iz ez115 (q_ldi (base := 0) rfl (.there (.there (.there (.there .here)))) rfl (inB_n c114))) ?_
          refine wj_q _ (q_ia rfl rfl (inB_z c116)) ?_
          refine wj_e (ef_stiz (q := [.ints .u8 64 (l117)]) (base := 0) el117 rfl rfl rfl (inB_n c116) rfl .here ?_)
          refine wj_nil ?_
          revert h
          refine bnd_i fun z119 ez119 => ?_
          intro h
          refine wc_ops ?_
          refine wj_q _ (q_mv rfl) ?_
          refine wj_q _ (iz ez119 (q_bin rfl rfl rfl)) ?_
          refine wj_q _ (q_mv rfl) ?_
          refine wj_nil ?_
          rw [qk102] at h
          exact ⟨n103, Nat.lt_succ_self _, z119, l117, l111, h, ⟨⟨rfl, rfl, rfl, rfl, rfl, rfl, rfl, rfl, rfl, trivial⟩, (.one .here (.one .here (.one .here (.one .here (.one .here (.one .here (.one .here (.one .here .nil))))))))⟩⟩
        · have h := br_f h d105
          refine wc_exit _ rfl ?_
          exact ⟨a100, a101, h, ⟨⟨rfl, rfl, rfl, rfl, rfl, rfl, rfl, trivial⟩, (.one .here (.one .here (.one .here (.one .here (.one .here (.one .here (.one .here (.one .here .nil))))))))⟩⟩
    · rintro t m ⟨a69, a70, h, hF⟩
      refine wc_fit hF ?_
      clear hF
      subst qk71
      refine wc_seq ?_
      refine wc_seq ?_
      revert h
      refine chk_i fun c121 => ?_
      intro h
      refine wc_ops ?_
      refine wj_q _ (q_ld (p := [.ints .u8 64 (a70)]) rfl (.there .here) rfl) ?_
      refine wj_q _ (q_ld (p := [.ints .u8 64 (y7)]) rfl (.there (.there (.there .here))) rfl) ?_
      refine wj_q _ (q_eqa rfl rfl rfl rfl _ (eqc_last eqc_ints)) ?_
      refine wj_q _ (q_mv rfl) ?_
      refine wj_and rfl rfl rfl (fun hg1 => qj_g rfl _ (q_ld (p := [.ints .u8 32 (y10)]) rfl (.there (.there .here)) rfl) (qj_g rfl _ (q_mv rfl) (qj_g rfl _ (q_ld (p := [.ints .u8 64 (a70)]) rfl (.there .here) rfl) (qj_g rfl _ (q_call (vs := [agg [.ints .u8 32 (y10)], v1, agg [.ints .u8 64 (a70)]]) (v := .bool (((sign_Verify y10 p1 a70).getD false))) rfl (fun w hw => sign_Verify_spec (r := ((sign_Verify y10 p1 a70).getD false)) (p0 := y10) (p1 := p1) (p2 := a70) (getD_some (z := false) (imp_t c121 hg1)) (hG.at hw (by simp)) ((rd_arg A1 apart0) w hw))) (qj_nil))))) (fun hg1 => rfl) rfl ?_
      refine wj_nil ?_
      refine wc_if (c := ((!(ieq 64 a70 y7)) && ((sign_Verify y10 p1 a70).getD false))) rfl (fun d122 => ?_) (fun d122 => ?_)
      · have h := br_t h d122
        refine wc_seq ?_
        refine wc_ops ?_
        refine wj_q _ (q_mv rfl) ?_
        refine wj_nil ?_
        refine wc_ret ?_
        revert h; refine ret_i fun h => ?_
        subst h
        exact ⟨_, (.cons (.tmp rfl) .nil), rfl⟩
      · have h := br_f h d122
        refine wc_skip ?_
        refine wc_seq ?_
        refine wc_seq ?_
        revert h
        refine chk_i fun c125 => ?_
        refine chk_i fun c126 => ?_
        intro h
        refine wc_ops ?_
        refine wj_q _ (q_ld (p := [.ints .u8 64 (a69)]) rfl .here rfl) ?_
        refine wj_q _ (q_ld (p := [.ints .u8 64 (p3)]) rfl (.there (.there (.there (.there (.there .here))))) rfl) ?_
        refine wj_q _ (q_eqa rfl rfl rfl rfl _ (eqc_last eqc_ints)) ?_
        refine wj_q _ (q_mv rfl) ?_
        refine wj_and rfl rfl rfl (fun hg1 => qj_g rfl _ (q_ld (p := [.ints .u8 32 (p2)]) rfl (.there (.there (.there (.there (.there (.there .here)))))) rfl) (qj_g rfl _ (q_mv rfl) (qj_g rfl _ (q_ld (p := [.ints .u8 64 (p3)]) rfl (.there (.there (.there (.there (.there .here))))) rfl) (qj_g rfl _ (q_call (vs := [agg [.ints .u8 32 (p2)], v1, agg [.ints .u8 64 (p3)]]) (v := .bool (((sign_Verify p2 p1 p3).getD false))) rfl (fun w hw => sign_Verify_spec (r := ((sign_Verify p2 p1 p3).getD false)) (p0 := p2) (p1 := p1) (p2 := p3) (getD_some (z := false) (imp_t c125 hg1)) (hG.at hw (by simp)) ((rd_arg A1 apart0) w hw))) (qj_nil))))) (fun hg1 => rfl) rfl ?_
        refine wj_q _ (q_mv rfl) ?_
        refine wj_and rfl rfl rfl (fun hg1 => qj_g rfl _ (q_ld (p := [.ints .u8 32 (p2)]) rfl (.there (.there (.there (.there (.there (.there .here)))))) rfl) (qj_g rfl _ (q_mv rfl) (qj_g rfl _ (q_ld (p := [.ints .u8 64 (a69)]) rfl .here rfl) (qj_g rfl _ (q_call (vs := [agg [.ints .u8 32 (p2)], v1, agg [.ints .u8 64 (a69)]]) (v := .bool (((sign_Verify p2 p1 a69).getD false))) rfl (fun w hw => sign_Verify_spec (r := ((sign_Verify p2 p1 a69).getD false)) (p0 := p2) (p1 := p1) (p2 := a69) (getD_some (z := false) (imp_t c126 hg1)) (hG.at hw (by simp)) ((rd_arg A1 apart0) w hw))) (qj_nil))))) (fun hg1 => rfl) rfl ?_
        refine wj_nil ?_
        refine wc_if (c := (((!(ieq 64 a69 p3)) && ((sign_Verify p2 p1 p3).getD false)) && ((sign_Verify p2 p1 a69).getD false))) rfl (fun d127 => ?_) (fun d127 => ?_)
        · have h := br_t h d127
          refine wc_seq ?_
          refine wc_ops ?_
          refine wj_q _ (q_mv rfl) ?_
          refine wj_nil ?_
          refine wc_ret ?_
          revert h; refine ret_i fun h => ?_
          subst h
          exact ⟨_, (.cons (.tmp rfl) .nil), rfl⟩
        · have h := br_f h d127
          refine wc_skip ?_
          refine wc_seq ?_
          revert h
          refine opt_i fun y130 ey130 => ?_
          intro h
          refine wc_ops ?_
          refine wj_q _ (q_ld (p := [.ints .u8 64 (y7)]) rfl (.there (.there (.there .here))) rfl) ?_
          refine wj_q _ (q_call (vs := [agg [.ints .u8 64 (y7)]]) (v := .tuple #[agg [.ints .u8 64 (y130.1)], .bool (y130.2)]) rfl (fun w hw => fareboxlaw08_raised_spec (r := y130) (p0 := y7) ey130 )) ?_
          refine wj_q _ (q_mv rfl) ?_
          refine wj_q _ (q_ext rfl rfl) ?_
          refine wj_q _ (q_ext rfl rfl) ?_
          refine wj_e (ef_al fun b131 hb131 => ?_)
          refine wj_e (ef_st (q := [.ints .u8 64 (y130.1)]) rfl rfl rfl rfl rfl .here ?_)
          refine wj_q _ (q_mv rfl) ?_
          refine wj_nil ?_
          refine wc_seq ?_
          revert h
          refine chk_i fun c133 => ?_
          refine chk_i fun c134 => ?_
          intro h
          refine wc_ops ?_
          refine wj_q _ (q_mv rfl) ?_
          refine wj_q _ (q_mv rfl) ?_
          refine wj_and rfl rfl rfl (fun hg1 => qj_g rfl _ (q_ld (p := [.ints .u8 32 (y10)]) rfl (.there (.there (.there .here))) rfl) (qj_g rfl _ (q_mv rfl) (qj_g rfl _ (q_ld (p := [.ints .u8 64 (y130.1)]) rfl .here rfl) (qj_g rfl _ (q_call (vs := [agg [.ints .u8 32 (y10)], v1, agg [.ints .u8 64 (y130.1)]]) (v := .bool (((sign_Verify y10 p1 y130.1).getD false))) rfl (fun w hw => sign_Verify_spec (r := ((sign_Verify y10 p1 y130.1).getD false)) (p0 := y10) (p1 := p1) (p2 := y130.1) (getD_some (z := false) (imp_t c133 hg1)) (hG.at hw (by simp)) ((rd_arg A1 apart0) w hw))) (qj_g rfl _ (q_un rfl rfl) (qj_nil)))))) (fun hg1 => rfl) rfl ?_
          refine wj_q _ (q_mv rfl) ?_
          refine wj_and rfl rfl rfl (fun hg1 => qj_g rfl _ (q_call (vs := []) (v := .bool (((fareboxlaw08_printed).getD false))) rfl (fun w hw => fareboxlaw08_printed_spec (r := ((fareboxlaw08_printed).getD false)) (getD_some (z := false) (imp_t c134 hg1)) (hG.at hw (by simp)))) (qj_nil)) (fun hg1 => rfl) rfl ?_
          refine wj_q _ (q_mv rfl) ?_
          refine wj_nil ?_
          refine wc_ret ?_
          revert h; refine ret_i fun h => ?_
          subst h
          exact ⟨_, (.cons (.tmp rfl) .nil), rfl⟩
end Go.Proofs.YtiflckckekjbnaaDoor
/- The order of the base point is a prime. -/
namespace Go.Proofs.YtiflckckekjbnaaDoor
set_option linter.all false
set_option maxRecDepth 100000

theorem prm_1224481 : Prm 1224481 := prm_small 1224481 1106 (by decide +kernel)
theorem prm_531581 : Prm 531581 := prm_small 531581 729 (by decide +kernel)
theorem prm_1257559732178653 : Prm 1257559732178653 := prm_of (F := 650910834461) (c := 896025394887893) (rs := [1224481, 531581]) (all_two prm_1224481 prm_531581) (by decide +kernel)
theorem prm_4434155615661930479 : Prm 4434155615661930479 := prm_of (F := 1257559732178653) (c := 415787812636281767) (rs := [1257559732178653]) (all_one prm_1257559732178653) (by decide +kernel)
theorem prm_172054593956031949258510691 : Prm 172054593956031949258510691 := prm_of (F := 4434155615661930479) (c := 81982237619807054769897707) (rs := [4434155615661930479]) (all_one prm_4434155615661930479) (by decide +kernel)
theorem prm_19757330305831588566944191468367130476339 : Prm 19757330305831588566944191468367130476339 := prm_of (F := 172054593956031949258510691) (c := 9148758478138211201771971577098600188172) (rs := [172054593956031949258510691]) (all_one prm_172054593956031949258510691) (by decide +kernel)
theorem prm_276602624281642239937218680557139826668747 : Prm 276602624281642239937218680557139826668747 := prm_of (F := 19757330305831588566944191468367130476339) (c := 16384) (rs := [19757330305831588566944191468367130476339]) (all_one prm_19757330305831588566944191468367130476339) (by decide +kernel)
theorem prm_7237005577332262213973186563042994240857116359379907606001950938285454250989 : Prm 7237005577332262213973186563042994240857116359379907606001950938285454250989 := prm_of (F := 276602624281642239937218680557139826668747) (c := 2975531125133123119648879457563281269120703404158613135195788908093573672641) (rs := [276602624281642239937218680557139826668747]) (all_one prm_276602624281642239937218680557139826668747) (by decide +kernel)
theorem prime_l : Prm 7237005577332262213973186563042994240857116359379907606001950938285454250989 := prm_7237005577332262213973186563042994240857116359379907606001950938285454250989
end Go.Proofs.YtiflckckekjbnaaDoor
/- SignHolds and SignOnce answer with true. -/
namespace Go.Proofs.YtiflckckekjbnaaDoor
open Go Go.Sx Go.RowKit
set_option linter.all false
set_option maxRecDepth 100000

theorem signHolds_eq {s m : List Int} (hm : m.length < 18446744073709551615) : fareboxlaw08_SignHolds s m = some true := by
  obtain ⟨a, r, k, h⟩ := sgn_val s hm
  rw [fareboxlaw08_SignHolds, opt_some h.pub, opt_some h.sig, opt_some (sgn_verifies h), printed_eq, chk_t (by simp [imp])]
  rfl
/-! ## The order of the base point -/
theorem base_ne : baseG ≠ zeroG := by
  intro h
  have e : baseG.x = zeroG.x := by rw [h]
  have e1 : baseG.x = fi BX := rfl
  have e2 : zeroG.x = 0 := rfl
  rw [e1, e2] at e
  revert e
  decide +kernel
theorem zero_gcd (m n : Nat) (hm : mulG m baseG = zeroG) (hn : mulG n baseG = zeroG) : mulG (Nat.gcd m n) baseG = zeroG := by
  induction m, n using Nat.gcd.induction with
  | H0 n => rw [Nat.gcd_zero_left]; exact hn
  | H1 m n hpos ih =>
    rw [Nat.gcd_rec]
    refine ih ?_ hm
    have h := Nat.div_add_mod n m
    generalize n / m = q at *
    generalize hr : n % m = r at *
    rw [← h, Nat.mul_comm, mulG_add, mulG_mul, hm, mulG_zero, zero_addG] at hn
    exact hn
theorem base_order {n : Nat} (h0 : 0 < n) (h1 : n < VLn) : mulG n baseG ≠ zeroG := by
  intro h
  have hg := zero_gcd n VLn h order_base
  rcases prime_l.2 (Nat.gcd n VLn) (Nat.gcd_dvd_right _ _) with e | e
  · rw [e, mulG_one] at hg
    exact base_ne hg
  · have hd := Nat.gcd_dvd_left n VLn
    have := Nat.le_of_dvd h0 (e ▸ hd)
    unfold VLn at h1
    omega
theorem neg_cancel {X P Q : G} (h : addG X P = addG X Q) : P = Q := by
  have e : addG (negG X) (addG X P) = addG (negG X) (addG X Q) := by rw [h]
  rwa [← addG_assoc, ← addG_assoc, neg_addG, zero_addG, zero_addG] at e
theorem base_inj {a b : Nat} (ha : a < VLn) (hb : b < VLn) (h : mulG a baseG = mulG b baseG) : a = b := by
  have key : ∀ a b : Nat, a < b → b < VLn → mulG a baseG = mulG b baseG → False := by
    intro a b hab hb h
    have e : b = a + (b - a) := by omega
    rw [e, mulG_add] at h
    have h2 : addG (mulG a baseG) zeroG = addG (mulG a baseG) (mulG (b - a) baseG) := by rw [addG_zero]; exact h
    exact base_order (by omega) (by omega) (neg_cancel h2).symm
  rcases Nat.lt_trichotomy a b with h1 | h1 | h1
  · exact (key a b h1 hb h).elim
  · exact h1
  · exact (key b a h1 ha h.symm).elim
/-! ## Bytes -/
theorem hacc_inj {a b : List Int} (ha : Byt a) (hb : Byt b) : ∀ j, hacc a j = hacc b j → ∀ i, i < j → a.getD (31 - i) 0 = b.getD (31 - i) 0
  | 0, _, i, hi => by omega
  | j + 1, h, i, hi => by
    have h1 := ha (31 - j)
    have h2 := hb (31 - j)
    have h' : hacc a j * 256 + a.getD (31 - j) 0 = hacc b j * 256 + b.getD (31 - j) 0 := h
    by_cases e : i = j
    · subst e; omega
    · exact hacc_inj ha hb j (by omega) i (by omega)
theorem sval_inj {a b : List Int} (ha : Byt a) (hb : Byt b) (la : a.length = 32) (lb : b.length = 32) (h : sval a = sval b) : a = b := by
  rw [← hacc_eq, ← hacc_eq] at h
  apply List.ext_getElem
  · rw [la, lb]
  · intro i h1 h2
    have := hacc_inj ha hb 32 h (31 - i) (by omega)
    rw [show 31 - (31 - i) = i by omega] at this
    simpa [List.getD_eq_getElem?_getD, List.getElem?_eq_getElem h1, List.getElem?_eq_getElem h2] using this
theorem sval_bound {a : List Int} (ha : Byt a) : sval a < 115792089237316195423570985008687907853269984665640564039457584007913129639936 := by
  have key : ∀ j, j ≤ 32 → hacc a j < (256 : Int) ^ j := by
    intro j
    induction j with
    | zero => intro _; show (0 : Int) < 1; omega
    | succ j ih =>
      intro hj
      have h1 := ha (31 - j)
      have h2 := ih (by omega)
      show hacc a j * 256 + a.getD (31 - j) 0 < _
      rw [Int.pow_succ]
      omega
  have := key 32 (Nat.le_refl _)
  rw [hacc_eq] at this
  have e2 : (256 : Int) ^ 32 = 115792089237316195423570985008687907853269984665640564039457584007913129639936 := by decide
  omega
theorem byt_sval {a : List Int} (h : Byt a) (la : a.length = 32) : byt (sval a) = a :=
  sval_inj (byt_byt _) h (byt_length _) la (sval_byt (sval_nonneg h) (sval_bound h))
theorem pB_inj {a b : List Int} (ha : Byt a) (hb : Byt b) (la : a.length = 32) (lb : b.length = 32) (ca : sval a < VL) (cb : sval b < VL) (h : pB a = pB b) : a = b := by
  have na := sval_nonneg ha
  have nb := sval_nonneg hb
  rw [VL_nat] at ca cb
  refine sval_inj ha hb la lb ?_
  have := base_inj (by omega) (by omega) h
  omega
/-- Of a key, a message and an R there is one S. -/
theorem one_s {k m s t : List Int} (hk : Byt k) (hs : Byt s) (ht : Byt t) (hm : m.length < 18446744073709551615) (hR : tk s 0 32 = tk t 0 32) (h1 : sign_Verify k m s = some true) (h2 : sign_Verify k m t = some true) : tk s 32 32 = tk t 32 32 := by
  obtain ⟨h, eh, bh, _⟩ := hash_tot (p := [tk s 0 32, tk k 0 32, m]) (lens3 (tk_length _ _ _) (tk_length _ _ _) hm) (by simp)
  have eh2 : sign_hash [tk t 0 32, tk k 0 32, m] = some h := by rw [← hR]; exact eh
  by_cases hd : dok k = true
  · obtain ⟨A, rA, _, _⟩ := dec_point hd
    rw [verify_val hk hs eh bh (fun _ => rA)] at h1
    rw [verify_val hk ht eh2 bh (fun _ => rA)] at h2
    simp only [Option.some.injEq, Bool.and_eq_true, decide_eq_true_eq] at h1 h2
    have e : encG (addG (mulG (sval h).toNat (negG A)) (pB (tk s 32 32))) = encG (addG (mulG (sval h).toNat (negG A)) (pB (tk t 32 32))) := by rw [h1.2.2, h2.2.2, hR]
    exact pB_inj (tk_byt hs _ _) (tk_byt ht _ _) (tk_length _ _ _) (tk_length _ _ _) h1.2.1 h2.2.1 (neg_cancel (encG_inj e))
  · exfalso
    rw [sign_Verify, opt_some (decode_eq hk), if_neg hd] at h1
    obtain ⟨c, hc⟩ := canonical_tot (tk (tk s 32 (64 - 32)) 0 32)
    rw [chk_t (by rw [tk_length]; rfl), bnd_eq, hc, chk_t (by simp [imp]), br_tt (by rfl)] at h1
    cases h1
theorem tk_two {s t : List Int} (h0 : tk s 0 32 = tk t 0 32) (h1 : tk s 32 32 = tk t 32 32) : ieq 64 s t = true := by
  unfold ieq
  apply decide_eq_true
  apply List.ext_getElem
  · rw [tk_length, tk_length]
  · intro i hi1 hi2
    rw [tk_length] at hi1
    simp only [tk, List.getElem_map, List.getElem_range, Nat.zero_add]
    by_cases h : i < 32
    · have e := congrArg (fun l => l.getD i 0) h0
      simp only [tk_getD, if_pos h, Nat.zero_add] at e
      exact e
    · have e := congrArg (fun l => l.getD (i - 32) 0) h1
      simp only [tk_getD, if_pos (show i - 32 < 32 by omega), show 32 + (i - 32) = i by omega] at e
      exact e
/-! ## Another S in its place -/
def putS (x q : List Int) : Nat → List Int
  | 0 => x
  | i + 1 => setD (putS x q i) (32 + i) (q.getD i 0)
theorem putS_getD (x q : List Int) (j : Nat) : ∀ i, (putS x q i).getD j 0 = if 32 ≤ j ∧ j < 32 + i then q.getD (j - 32) 0 else x.getD j 0
  | 0 => by rw [if_neg (by omega)]; rfl
  | i + 1 => by
    show (setD (putS x q i) (32 + i) (q.getD i 0)).getD j 0 = _
    rw [getD_setD]
    by_cases h : j = 32 + i
    · subst h
      rw [if_pos rfl, if_pos (by omega), show 32 + i - 32 = i by omega]
    · rw [if_neg h, putS_getD x q j i]
      by_cases h2 : 32 ≤ j ∧ j < 32 + i
      · rw [if_pos h2, if_pos (by omega)]
      · rw [if_neg h2, if_neg (by omega)]
theorem putS_byt {x q : List Int} (hx : Byt x) (hq : Byt q) (i : Nat) : Byt (putS x q i) := by
  intro j
  rw [putS_getD]
  split
  · exact hq _
  · exact hx _
theorem putS_lo (x q : List Int) : tk (putS x q 32) 0 32 = tk x 0 32 := by
  unfold tk
  apply List.map_congr_left
  intro i hi
  rw [List.mem_range] at hi
  rw [putS_getD, if_neg (by omega)]
theorem putS_hi (x q : List Int) : tk (putS x q 32) 32 32 = tk q 0 32 := by
  unfold tk
  apply List.map_congr_left
  intro i hi
  rw [List.mem_range] at hi
  rw [putS_getD, if_pos (by omega), show 32 + i - 32 = 0 + i by omega]
theorem once_loop (q x y : List Int) (k : List Int → List Int → Option Bool) (m : Nat) : ∀ n i : Nat, i + m = 32 →
    fareboxlaw08_SignOnce_l1 q k (n + 1 + m) (i : Int) (putS x q i) (putS y q i) = k (putS x q 32) (putS y q 32) := by
  induction m with
  | zero =>
    intro n i hi
    rw [Nat.add_zero, fareboxlaw08_SignOnce_l1, fareboxlaw08_SignOnce_b1, br_ff (decide_eq_false (by omega)), show i = 32 by omega]
  | succ m ih =>
    intro n i hi
    have e1 : IntKind.wrap .i64 ((i : Int) + 1) = ((i + 1 : Nat) : Int) := by rw [wi64_small (by omega) (by omega)]; rfl
    have e2 : IntKind.wrap .i64 (32 + (i : Int)) = ((32 + i : Nat) : Int) := by rw [wi64_small (by omega) (by omega)]; rfl
    rw [← Nat.add_assoc, fareboxlaw08_SignOnce_l1, fareboxlaw08_SignOnce_b1, br_tt (decide_eq_true (by omega))]
    simp only [bnd_eq, e1, e2, Int.toNat_natCast]
    rw [chk_t (inB_t (by omega) (by omega)), chk_t (inB_t (by omega) (by omega)), chk_t (inB_t (by omega) (by omega)), chk_t (inB_t (by omega) (by omega))]
    exact ih n (i + 1) (by omega)
/-! ## L added -/
def bV (l : List Int) (o : Nat) : Nat → Int
  | 0 => 0
  | n + 1 => bV l o n + l.getD (o + n) 0 * (256 : Int) ^ n
theorem bV_set (l : List Int) (o i : Nat) (v : Int) : ∀ n, n ≤ i → bV (setD l (o + i) v) o n = bV l o n
  | 0, _ => rfl
  | n + 1, h => by
    show bV (setD l (o + i) v) o n + (setD l (o + i) v).getD (o + n) 0 * _ = _
    rw [bV_set l o i v n (by omega), getD_setD, if_neg (by omega)]
    rfl
theorem raise_loop {l : List Int} (hl : Byt l) {x : List Int} (hx : Byt x) (k : Int → List Int → Option (List Int × Bool)) (m : Nat) : ∀ (n i : Nat) (c : Int) (a : List Int), i + m = 32 → (c = 0 ∨ c = 1) → Byt a →
    (∀ j, j < 32 ∨ 32 + i ≤ j → a.getD j 0 = x.getD j 0) → bV a 32 i + c * (256 : Int) ^ i = bV x 32 i + bV l 0 i →
    ∃ c' a', fareboxlaw08_raised_l1 l k (n + 1 + m) c (i : Int) a = k c' a' ∧ (c' = 0 ∨ c' = 1) ∧ Byt a' ∧ (∀ j, j < 32 → a'.getD j 0 = x.getD j 0) ∧ bV a' 32 32 + c' * (256 : Int) ^ 32 = bV x 32 32 + bV l 0 32 := by
  induction m with
  | zero =>
    intro n i c a hi hc ha hj hv
    have hi' : i = 32 := by omega
    subst hi'
    refine ⟨c, a, ?_, hc, ha, fun j h => hj j (.inl h), hv⟩
    rw [Nat.add_zero, fareboxlaw08_raised_l1, fareboxlaw08_raised_b1, br_ff (by decide)]
  | succ m ih =>
    intro n i c a hi hc ha hj hv
    have b1 := ha (32 + i)
    have b2 := hl i
    have hs : 0 ≤ a.getD (32 + i) 0 + l.getD i 0 + c ∧ a.getD (32 + i) 0 + l.getD i 0 + c < 512 := by rcases hc with h | h <;> omega
    have w1 : IntKind.wrap .i64 (a.getD (32 + i) 0) = a.getD (32 + i) 0 := wi64_small (by omega) (by omega)
    have w2 : IntKind.wrap .i64 (l.getD i 0) = l.getD i 0 := wi64_small (by omega) (by omega)
    have w3 : IntKind.wrap .i64 (a.getD (32 + i) 0 + l.getD i 0) = a.getD (32 + i) 0 + l.getD i 0 := wi64_small (by omega) (by omega)
    have w4 : IntKind.wrap .i64 (a.getD (32 + i) 0 + l.getD i 0 + c) = a.getD (32 + i) 0 + l.getD i 0 + c := wi64_small (by omega) (by omega)
    have w5 : Int.tmod (a.getD (32 + i) 0 + l.getD i 0 + c) 256 = (a.getD (32 + i) 0 + l.getD i 0 + c) % 256 := Int.tmod_eq_emod_of_nonneg hs.1
    have w6 : IntKind.wrap .u8 ((a.getD (32 + i) 0 + l.getD i 0 + c) % 256) = (a.getD (32 + i) 0 + l.getD i 0 + c) % 256 := by rw [wu8_eq]; omega
    have w7 : IntKind.wrap .i64 (Int.tdiv (a.getD (32 + i) 0 + l.getD i 0 + c) 256) = (a.getD (32 + i) 0 + l.getD i 0 + c) / 256 := by
      rw [Int.tdiv_eq_ediv_of_nonneg hs.1, wi64_small (by omega) (by omega)]
    have e1 : IntKind.wrap .i64 ((i : Int) + 1) = ((i + 1 : Nat) : Int) := by rw [wi64_small (by omega) (by omega)]; rfl
    have e2 : IntKind.wrap .i64 (32 + (i : Int)) = ((32 + i : Nat) : Int) := by rw [wi64_small (by omega) (by omega)]; rfl
    obtain ⟨c', a', h1, h2, h3, h4, h5⟩ := ih n (i + 1) ((a.getD (32 + i) 0 + l.getD i 0 + c) / 256) (setD a (32 + i) ((a.getD (32 + i) 0 + l.getD i 0 + c) % 256)) (by omega) (by omega) (setD_byt ha (by omega)) (by
      intro j h
      rw [getD_setD, if_neg (by omega)]
      exact hj j (by omega)) (by
      show bV (setD a (32 + i) _) 32 i + (setD a (32 + i) _).getD (32 + i) 0 * (256 : Int) ^ i + _ * (256 : Int) ^ (i + 1) = (bV x 32 i + x.getD (32 + i) 0 * (256 : Int) ^ i) + (bV l 0 i + l.getD (0 + i) 0 * (256 : Int) ^ i)
      rw [bV_set _ _ _ _ _ (Nat.le_refl _), getD_setD, if_pos rfl, Int.pow_succ, Nat.zero_add, ← hj (32 + i) (.inr (Nat.le_refl _))]
      have hd := Int.mul_ediv_add_emod (a.getD (32 + i) 0 + l.getD i 0 + c) 256
      generalize (a.getD (32 + i) 0 + l.getD i 0 + c) / 256 = d at *
      generalize (a.getD (32 + i) 0 + l.getD i 0 + c) % 256 = r at *
      generalize a.getD (32 + i) 0 = p at *
      generalize l.getD i 0 = q at *
      generalize (256 : Int) ^ i = w at *
      generalize bV a 32 i = v1 at *
      generalize bV x 32 i = v2 at *
      generalize bV l 0 i = v3 at *
      clear w1 w2 w3 w4 w5 w6 w7 e1 e2 ih hs b1 b2 hj hc
      grind -lia -linarith (splits := 0))
    refine ⟨c', a', ?_, h2, h3, h4, h5⟩
    rw [← Nat.add_assoc, fareboxlaw08_raised_l1, fareboxlaw08_raised_b1, br_tt (decide_eq_true (by omega))]
    simp only [bnd_eq, e1, e2, Int.toNat_natCast, w1, w2, w3, w4, w5, w6, w7]
    rw [chk_t (inB_t (by omega) (by omega)), chk_t (inB_t (by omega) (by omega)), chk_t (inB_t (by omega) (by omega))]
    exact h1
theorem bV_sval (x : List Int) (o : Nat) : bV x o 32 = sval (tk x o 32) := by
  unfold sval
  simp only [tk_getD]
  simp only [bV]
  simp
theorem raised_val {x : List Int} (hx : Byt x) (hc : sval (tk x 32 32) < VL) : ∃ y, fareboxlaw08_raised x = some (y, true) ∧ Byt y ∧ sval (tk y 32 32) = sval (tk x 32 32) + VL := by
  obtain ⟨n, hn⟩ : ∃ n', big = n' + 1 + 32 := ⟨18446744073709551583, big_eq⟩
  obtain ⟨c, y, h1, h2, h3, h4, h5⟩ := raise_loop lby_byt hx (fun (i76 : Int) (a77 : List Int) => some (a77, (i76 == 0))) 32 n 0 0 x (by omega) (.inl rfl) hx (fun _ _ => rfl) (by show (0 : Int) + 0 * 1 = 0 + 0; omega)
  have e1 : bV lby 0 32 = VL := by
    have : bV lby 0 32 = sval (tk lby 0 32) := bV_sval lby 0
    rw [this]; decide +kernel
  have e2 : (256 : Int) ^ 32 = 115792089237316195423570985008687907853269984665640564039457584007913129639936 := by decide
  have n1 := sval_nonneg (tk_byt hx 32 32)
  have n2 := sval_nonneg (tk_byt h3 32 32)
  rw [bV_sval, bV_sval x, e1, e2] at h5
  unfold VL at *
  have hc0 : c = 0 := by
    rcases h2 with h | h
    · exact h
    · exfalso; subst h; omega
  subst hc0
  refine ⟨y, ?_, h3, by omega⟩
  rw [fareboxlaw08_raised, fareboxlaw08_order, bnd_eq, opt_some rfl, jn_eq, hn]
  exact h1
theorem not_canon {k m s : List Int} (hk : Byt k) (hs : Byt s) (h : ¬ sval (tk s 32 32) < VL) : sign_Verify k m s = some false := by
  have e0 : tk (tk s 32 (64 - 32)) 0 32 = tk s 32 32 := tk_all (tk_length _ _ _)
  rw [sign_Verify, opt_some (decode_eq hk), chk_t (by rw [tk_length]; rfl), bnd_eq, e0, sCanon_val (tk_byt hs 32 32), chk_t (by simp [imp])]
  rw [br_tt (by simp [h])]
theorem signOnce_eq {s m k g o : List Int} (hm : m.length < 18446744073709551615) (hk : Byt k) (hg : Byt g) (ho : Byt o) : fareboxlaw08_SignOnce s m k g o = some true := by
  obtain ⟨a, r, kk, h⟩ := sgn_val s hm
  obtain ⟨n, hn⟩ : ∃ n', big = n' + 1 + 32 := ⟨18446744073709551583, big_eq⟩
  have hv := sgn_verifies h
  have bs : Byt (encG (pB r) ++ byt ((sval kk * sval a + sval r) % VL)) := sig_byt
  have bk := encG_byt (pB a)
  have hS : sval (tk (encG (pB r) ++ byt ((sval kk * sval a + sval r) % VL)) 32 32) < VL := by
    have hr := VL_rng (sval kk * sval a + sval r)
    rw [tk_right (encG_length _) (byt_length _), sval_byt hr.1 (by unfold VL at hr ⊢; omega)]
    exact hr.2
  have hl := once_loop o g (encG (pB r) ++ byt ((sval kk * sval a + sval r) % VL))
  rw [fareboxlaw08_SignOnce, opt_some h.sig, opt_some h.pub, opt_some hv, br_ff (c := (!true)) rfl, jn_eq, hn]
  refine (hl _ 32 n 0 (by omega)).trans ?_
  generalize encG (pB r) ++ byt ((sval kk * sval a + sval r) % VL) = w at *
  generalize encG (pB a) = key at *
  obtain ⟨b1, e1⟩ := verify_tot (m := m) bk hm (putS_byt bs ho 32)
  obtain ⟨b2, e2⟩ := verify_tot (m := m) hk hm hg
  obtain ⟨b3, e3⟩ := verify_tot (m := m) hk hm (putS_byt hg ho 32)
  obtain ⟨y, e4, by4, v4⟩ := raised_val bs hS
  have e5 : sign_Verify key m y = some false := not_canon bk by4 (by
    have := sval_nonneg (tk_byt bs 32 32)
    rw [v4]; omega)
  rw [e1, e2, e3, chk_t (by simp [imp])]
  have c1 : (!(ieq 64 (putS w o 32) w) && (some b1).getD false) = false := by
    cases b1
    · simp
    · have := one_s bk (putS_byt bs ho 32) bs hm (putS_lo w o) e1 hv
      rw [tk_two (putS_lo w o) this]; rfl
  rw [br_ff c1, chk_t (by simp [imp]), chk_t (by simp [imp])]
  have c2 : (((!(ieq 64 (putS g o 32) g)) && (some b2).getD false) && (some b3).getD false) = false := by
    cases b2
    · simp
    · cases b3
      · simp
      · have := one_s hk (putS_byt hg ho 32) hg hm (putS_lo g o) e3 e2
        rw [tk_two (putS_lo g o) this]; rfl
  rw [br_ff c2, opt_some e4]
  simp only [e5, printed_eq]
  rw [chk_t (by simp [imp]), chk_t (by simp [imp])]
  rfl
end Go.Proofs.YtiflckckekjbnaaDoor
/- The engine, part 10: from a law's contract to its row. -/
namespace Go.Sx
open Go Go.RowKit Go.ChangeShapes
set_option linter.all false

section
variable {H : Type} {enc : TypeId × Value → H}

theorem below_trodAll {P : Program} (hl : laidOutB P = true) {W W' : World} (hb : Below W.heap.size W W') :
    ∀ {ts : List TypeId} {vs : List Value} {ds : List (DataW H)} {ps : List MemPlace}, (ts.all fun t => P.readableRec t && decide (t < P.types.size)) = true → (∀ x ∈ ps, x.block < W.heap.size) →
      DataW.TrodAll enc P W 0 (fun _ => true) true ts vs ds ps → DataW.TrodAll enc P W' 0 (fun b => decide (b < W.heap.size)) true ts vs ds ps
  | [], [], [], _, _, _, h => h
  | t :: ts, v :: vs, d :: ds, ps, hr, hlt, h => by
    obtain ⟨p, q, h1, h2, rfl⟩ := h
    simp only [List.all_cons, Bool.and_eq_true, decide_eq_true_eq] at hr
    exact ⟨p, q, Below.trod hl hr.1.1 hr.1.2 h1 hb (fun x hx => hlt x (by simp [hx])), below_trodAll hl hb hr.2 (fun x hx => hlt x (by simp [hx])) h2, rfl⟩
  | [], _ :: _, _, _, _, _, h => h.elim
  | [], [], _ :: _, _, _, _, h => h.elim
  | _ :: _, [], _, _, _, _, h => h.elim
  | _ :: _, _ :: _, [], _, _, _, h => h.elim

/-- What a law's proof gives. -/
def LawAt (P : Program) (f : FuncId) (args : Array Value) (W : World) : Prop := Calls P f args W fun e w' => e = .returned (.bool true) ∧ Below W.heap.size W w'

theorem trodAll_len {P : Program} {W : World} {base : Nat} {sp : Nat → Bool} {held : Bool} : ∀ {ts : List TypeId} {vs : List Value} {ds : List (DataW H)} {ps : List MemPlace}, DataW.TrodAll enc P W base sp held ts vs ds ps → ds.length = ts.length ∧ vs.length = ts.length
  | [], [], [], _, _ => ⟨rfl, rfl⟩
  | t :: ts, v :: vs, d :: ds, ps, h => by
    obtain ⟨p, q, _, h2, _⟩ := h
    have := trodAll_len h2
    simp [this]
  | [], _ :: _, _, _, h => h.elim
  | [], [], _ :: _, _, h => h.elim
  | _ :: _, [], _, _, h => h.elim
  | _ :: _, _ :: _, [], _, h => h.elim

theorem law_post {C : Checked} {f : FuncId} {fn : Func} {s : ChangeSpec} {tb : TypeId} (hvars : s.vars = [])
    (hs : ∀ ds : List (DataW H), ds.length = fn.params.size → s.fn H ds = { results := [.lit (.bool true)], args := ds }) (hres : fn.resultTypes = #[tb]) (htb : C.prog.underlying tb = some .bool)
    (hl : laidOutB C.prog = true) (hpar : (fn.params.toList.all fun t => C.prog.readableRec t && decide (t < C.prog.types.size)) = true)
    {W : World} {args : Array Value} {ds gs : List (DataW H)} {before : List MemPlace} (hW : DataW.Whole enc C.prog fn.params.toList s.vars false W args.toList ds gs before)
    (h : LawAt C.prog f args W) : Calls C.prog f args W fun e W' => ∃ v, e = .returned v ∧ s.post enc C.prog fn false true false false W args v W' := by
  have hW' := hW
  have hlt := hW.lt
  obtain ⟨p, q, hA, hV, rfl, hfz, hnd⟩ := hW
  rw [hvars] at hV
  obtain ⟨rfl, rfl⟩ := trodVars_none hV
  refine h.mono fun e W' ⟨he, bel⟩ => ⟨_, he, ds, [], p ++ [], [], p, [], hW', ?_, ?_, ?_, bel.frame _, fun h => by cases h⟩
  · rw [List.append_nil, hs ds (by simpa using (trodAll_len hA).1), hres]
    exact trodAll_mk1 (shut_bool htb true)
  · rw [List.append_nil, hs ds (by simpa using (trodAll_len hA).1)]
    exact below_trodAll hl bel hpar (fun x hx => hlt x (by simp [hx])) hA
  · rw [List.append_nil, hs ds (by simpa using (trodAll_len hA).1), hvars]
    rfl

/-- What a law's contract is given of its arguments. -/
structure Given (C : Checked) (fn : Func) (W : World) (args : Array Value) : Prop where
  wide : ∃ base, ∀ (j : Nat) t v, fn.params[j]? = some t → args[j]? = some v → Value.okWide C.prog W .any base t v
  read : ∃ (H : Type) (enc : TypeId × Value → H) (ds : List (DataW H)) (p : List MemPlace), DataW.TrodAll enc C.prog W 0 (fun _ => true) true fn.params.toList args.toList ds p ∧
    ((DataW.weightsEach C.prog fn.params.toList ds).all (· ≤ reachBytes) = true)

theorem law_plain {C : Checked} {os : Os} {f : FuncId} {fn : Func} {s : ChangeSpec} {tb : TypeId} {conds : List PathCond}
    (own : ownKnob C.prog.godebug = none) (started : os.Started) (noInit : C.prog.inits.idxOf? f = none) (hfn : C.prog.funcs[f]? = some fn) (hvars : s.vars = [])
    (hs : ∀ ds : List (DataW H), ds.length = fn.params.size → s.fn H ds = { results := [.lit (.bool true)], args := ds }) (hres : fn.resultTypes = #[tb]) (htb : C.prog.underlying tb = some .bool)
    (hl : laidOutB C.prog = true) (hpar : (fn.params.toList.all fun t => C.prog.readableRec t && decide (t < C.prog.types.size)) = true)
    (witness : ∃ (w : World) (tape : Tape) (i : Input), w.os = os ∧ (w.forCall tape i).Shaped C.prog ∧ i.vars = [] ∧ Input.okWide C.prog (w.forCall tape i) .any w.heap.size f i ∧
      s.pre6 enc C.prog fn conds false (w.forCall tape i).memory i.args ∧ ({} : Assume).holds C.prog (lone (Frame.enter C.prog f i.args .normal) [] (w.forCall tape i)))
    (h : ∀ (W : World) (args : Array Value), Given C fn W args → LawAt C.prog f args W) :
    ReturnsInHanded {} C os f .any (s.pre6 enc C.prog fn conds false) (s.post enc C.prog fn false true false false) := by
  refine returnsInHanded_of_change_sized own started noInit hfn witness ?_
  intro W base args ds gs before hval hW _ hsz _
  refine law_post hvars hs hres htb hl hpar hW (h W args ⟨⟨base, hval⟩, ?_⟩)
  obtain ⟨p, q, hA, hV, rfl, hfz, hnd⟩ := hW
  rw [hvars] at hV
  obtain ⟨rfl, rfl⟩ := trodVars_none hV
  refine ⟨H, enc, ds, p, hA, ?_⟩
  simpa [ChangeSpec.plain, DataSpec.varTypes, hvars] using hsz

theorem law_laid {C : Checked} {os : Os} {f : FuncId} {fn : Func} {s : ChangeSpec} {tb : TypeId} {conds : List PathCond} {laid : List (String × DataW Unit)}
    (own : ownKnob C.prog.godebug = none) (started : os.Started) (noInit : C.prog.inits.idxOf? f = none) (hfn : C.prog.funcs[f]? = some fn) (hvars : s.vars = [])
    (hs : ∀ ds : List (DataW H), ds.length = fn.params.size → s.fn H ds = { results := [.lit (.bool true)], args := ds }) (hres : fn.resultTypes = #[tb]) (htb : C.prog.underlying tb = some .bool)
    (hl : laidOutB C.prog = true) (hpar : (fn.params.toList.all fun t => C.prog.readableRec t && decide (t < C.prog.types.size)) = true)
    (witness : ∃ (w : World) (tape : Tape) (i : Input), w.os = os ∧ (w.forCall tape i).Shaped C.prog ∧ i.vars = [] ∧ Input.okWide C.prog (w.forCall tape i) .any w.heap.size f i ∧
      ((s.pre enc C.prog fn conds false (w.forCall tape i).memory i.args ∧ laidMetH C.prog laid (w.forCall tape i).memory) ∧ sizedMet enc C.prog fn (OpenSpec.ofChange s) false (w.forCall tape i).memory i.args) ∧ ({} : Assume).holds C.prog (lone (Frame.enter C.prog f i.args .normal) [] (w.forCall tape i)))
    (h : ∀ (W : World) (args : Array Value), laidMetH C.prog laid W → Given C fn W args → LawAt C.prog f args W) :
    ReturnsInHanded {} C os f .any (fun w args => (s.pre enc C.prog fn conds false w args ∧ laidMetH C.prog laid w) ∧ sizedMet enc C.prog fn (OpenSpec.ofChange s) false w args) (s.post enc C.prog fn false true false false) := by
  refine returnsInHanded_of_change_and (X := fun w _ => laidMetH C.prog laid w) (fun _ _ _ hh h => h.of_heap hh) own started noInit hfn witness ?_
  intro W base args ds gs before hval hW _ hsz hL _
  refine law_post hvars hs hres htb hl hpar hW (h W args hL ⟨⟨base, hval⟩, ?_⟩)
  obtain ⟨p, q, hA, hV, rfl, hfz, hnd⟩ := hW
  rw [hvars] at hV
  obtain ⟨rfl, rfl⟩ := trodVars_none hV
  refine ⟨H, enc, ds, p, hA, ?_⟩
  simpa [ChangeSpec.plain, DataSpec.varTypes, hvars] using hsz
end

/-! ## The arguments, opened -/

theorem fits_of_read {H : Type} {enc : TypeId × Value → H} {P : Program} {W : World} {n : Nat} {t : TypeId} {v : Value} {d : DataW H} {p : List MemPlace} {L : Lay}
    (hL : lay P n t .nil = some L) (h : DataW.Trod enc P W 0 (fun _ => true) true t v d p) : Fits W maxLen L v.cells.toList := by
  obtain ⟨fuel, hf⟩ := h
  have := trod_fits (Small.all) n t .nil L hL fuel v.cells.toList d p hf trivial [] rfl
  simpa using this

/-- The arguments, each with its cells' layout. -/
def Open (C : Checked) (W : World) (n : Nat) : List TypeId → List Value → Prop
  | [], vs => vs = []
  | t :: ts, vs => ∃ v vs', vs = v :: vs' ∧ (∃ base, Value.okWide C.prog W .any base t v) ∧ (∀ L, lay C.prog n t .nil = some L → Fits W maxLen L v.cells.toList) ∧ Open C W n ts vs'
theorem Given.open {C : Checked} {fn : Func} {W : World} {args : Array Value} (h : Given C fn W args) (n : Nat) : Open C W n fn.params.toList args.toList := by
  obtain ⟨⟨base, hw⟩, ⟨H, enc, ds, p, hA, _⟩⟩ := h
  have key : ∀ (ts : List TypeId) (vs : List Value) (ds : List (DataW H)) (p : List MemPlace), DataW.TrodAll enc C.prog W 0 (fun _ => true) true ts vs ds p →
      (∀ (j : Nat) t v, ts[j]? = some t → vs[j]? = some v → Value.okWide C.prog W .any base t v) → Open C W n ts vs := by
    intro ts
    induction ts with
    | nil =>
      intro vs ds p h _
      cases vs with
      | nil => rfl
      | cons v vs => cases ds <;> exact h.elim
    | cons t ts ih =>
      intro vs ds p h hv
      cases vs with
      | nil => cases ds <;> exact h.elim
      | cons v vs =>
        cases ds with
        | nil => exact h.elim
        | cons d ds =>
          obtain ⟨p1, q1, h1, h2, rfl⟩ := h
          exact ⟨v, vs, rfl, ⟨base, hv 0 t v rfl rfl⟩, fun L hL => fits_of_read hL h1, ih vs ds q1 h2 fun j t v h3 h4 => hv (j + 1) t v h3 h4⟩
  exact key _ _ ds p hA fun j t v h1 h2 => hw j t v (by simpa using h1) (by simpa using h2)

theorem wide_one {P : Program} {W : World} {base : Nat} {t : TypeId} {v x : Value} (hw : Value.okWide P W .any base t v) (hn : (match P.underlying t with | some (.struct _) | some (.array _ _) => false | _ => true) = true)
    (h : v.cells.toList = [x]) : v = x := by
  cases v with
  | agg cs =>
    exfalso
    unfold Value.okWide at hw
    split at hw
    · rename_i hu; rw [hu] at hn; cases hn
    · rename_i hu; rw [hu] at hn; cases hn
    · unfold Cell.okWide at hw
      split at hw <;> first | (rename_i h2; cases h2; done) | skip
      simp only [Cell.ok] at hw
      split at hw <;> simp_all
  | _ => simpa [Value.cells] using h
theorem wide_agg {P : Program} {W : World} {base : Nat} {t : TypeId} {v : Value} (hw : Value.okWide P W .any base t v) (hn : (match P.underlying t with | some (.struct _) | some (.array _ _) => true | _ => false) = true) : v = .agg v.cells.toList.toArray := by
  unfold Value.okWide at hw
  split at hw
  · obtain ⟨cs, rfl, _⟩ := hw; simp [Value.cells]
  · obtain ⟨cs, rfl, _⟩ := hw; simp [Value.cells]
  · rename_i h1 h2
    split at hn
    · rename_i hu; exact absurd hu (h1 _)
    · rename_i hu; exact absurd hu (h2 _ _)
    · cases hn

/-! ## What is laid -/

theorem intsCells_eq {k : IntKind} {cs : List Value} {xs : List Int} (hl : cs.length = xs.length) (h : ∀ i, i < xs.length → cs[i]? = some (.int k (xs.getD i 0))) : cs = intsCells k xs.length xs := by
  apply List.ext_getElem?
  intro i
  by_cases hi : i < xs.length
  · rw [h i hi]
    simp [intsCells, hi]
  · rw [List.getElem?_eq_none (by omega), List.getElem?_eq_none (by simp [intsCells]; omega)]

theorem laid_ints {P : Program} {W : World} {l : List (String × DataW Unit)} (h : laidMet P l W) {name : String} {k : IntKind} {xs : List Int} (hm : (name, DataW.agg (xs.map fun x => .lit (.int k x))) ∈ l) {g : Nat} {t e : TypeId} {m : Nat}
    (hg : P.globalNamed name = some g) (ht : (P.globals[g]?).map (·.type) = some t) (hu : P.underlying t = some (.array m e)) (he : P.underlying e = some (.int k)) (hc : P.cellsOf e = 1) (hn : P.cellsOf t = m) (h0 : 0 < m) :
    Mem W g 0 [.ints k xs.length xs] := by
  obtain ⟨ps, hv, -, -⟩ := h
  induction l generalizing ps with
  | nil => cases hm
  | cons x l ih =>
    obtain ⟨n, d⟩ := x
    obtain ⟨g', t', cs, fuel, p, q, h1, h2, h3, h4, h5, _⟩ := hv
    rcases List.mem_cons.1 hm with hx | hx
    · cases hx
      obtain rfl : g' = g := Option.some.inj (h1.symm.trans hg)
      obtain rfl : t' = t := Option.some.inj (h2.symm.trans ht)
      obtain ⟨ys, m', _, hy, hlen, hyl, hel⟩ := DataW.trod_array hu h4
      simp only [Prod.mk.injEq, DataW.agg.injEq] at hy
      have hm' : m = xs.length := by rw [← hyl]; have := congrArg List.length hy.1; simpa using this.symm
      have hcs : cs.toList = intsCells k xs.length xs := by
        refine intsCells_eq (by omega) fun i hi => ?_
        have h6 := hel i (by omega)
        have h7 : i < ys.length := by omega
        rw [List.getElem?_eq_getElem h7] at h6
        obtain ⟨z, h8, h9, _⟩ := DataW.trod_int he h6
        have h10 : (ys.map (·.1))[i]? = some (.lit (.int k (xs.getD i 0))) := by rw [← hy.1]; simp [hi]
        rw [List.getElem?_map, List.getElem?_eq_getElem h7, Option.map_some, h9] at h10
        simp only [Option.some.injEq, DataW.lit.injEq, Lit.int.injEq, true_and] at h10
        subst h10
        rw [hc] at h8
        have := congrArg (fun l => l[0]?) h8
        simpa using this
      refine mem_of_cells (n := xs.length) (cs := cs.toList) (fun i hi => ?_) (by rw [hlen, hn, hm']) (by omega) (by rw [hcs]; simp [cells, Seg.cells]) (by simp [width, Seg.width])
      have := World.var?_cell hg h3 i
      simpa using this
    · exact ih hx _ h5
end Go.Sx
/- From a slice that is handed in to its list. -/
namespace Go.Sx
open Go Go.RowKit
set_option linter.all false

theorem Given.slice_bytes {C : Checked} {fn : Func} {W : World} {args : Array Value} (h : Given C fn W args) {t e : TypeId} {ts : List TypeId} {a : Addr} {len cap : Nat} {vs : List Value}
    (hp : fn.params.toList = t :: ts) (hu : C.prog.underlying t = some (.slice e)) (ha : args.toList = .slice (some a) len cap :: vs) : cap * C.prog.bytesOf e ≤ reachBytes := by
  obtain ⟨H, enc, ds, p, hA, hw⟩ := h.read
  rw [hp, ha] at hA
  rw [hp] at hw
  cases ds with
  | nil => exact hA.elim
  | cons d ds =>
    obtain ⟨p1, q1, ⟨fuel, hf⟩, h2, rfl⟩ := hA
    rcases DataW.trod_slice hu hf with ⟨e1, _⟩ | ⟨a', len', cap', elems, rest, m, e1, e2, hx, _, hlc, _, hel, _, hR, _⟩
    · exact absurd e1 (by simp [Value.cells])
    · have e3 : (Value.slice (some a) len cap) = .slice (some a') len' cap' := by simpa [Value.cells] using e2
      injection e3 with e4 e5 e6
      subst e5; subst e6
      obtain ⟨hr, _⟩ := hR rfl
      simp only [Prod.mk.injEq] at hx
      rw [hx.1] at hw
      simp only [DataW.weightsEach, DataW.weights, hu, List.all_append, List.all_cons, Bool.and_eq_true, decide_eq_true_eq, List.length_map, hel, hr] at hw
      have := hw.1.1
      rwa [show len + (cap - len) = cap by omega] at this
theorem rd_of_SlI {W : World} {k : IntKind} {a : Option Addr} {len cap : Nat} {xs : List Int} (h : SlI W k a cap xs) (hl : len ≤ cap) : RdSl (El.int k) W (slV (a, len, cap)) (xs.take len) := by
  have hx := h.len
  have hlen : (xs.take len).length = len := by rw [List.length_take]; omega
  rcases h.at_ with h0 | ⟨b, off, rfl, hm⟩
  · subst h0
    obtain rfl : len = 0 := by omega
    cases a with
    | none => exact .inl ⟨rfl, by simp⟩
    | some a => exact .inr (.inr ⟨a, rfl, by simp⟩)
  · refine .inr (.inl ⟨b, off, cap, by rw [hlen]; rfl, by omega, fun i hi j hj => ?_⟩)
    rw [hlen] at hi
    obtain rfl : j = 0 := by simp only at hj; omega
    have := hm.cell i (by simp only [width, Seg.width]; omega)
    simp only [cells, Seg.cells, List.append_nil] at this
    simp only [Nat.mul_one, Nat.add_zero]
    rw [this, intsCells_get (by omega)]
    simp [List.getD_eq_getElem?_getD, List.getElem?_take, hi]
theorem rd_of_SlR {α : Type} {E : El α} {W : World} {a : Option Addr} {len cap : Nat} {g : Nat → List Value} {xs : List α} (h : SlR W E.w a cap g) (hl : len ≤ cap) (hx : xs.length = len) (hf : ∀ i, i < len → g i = E.cell (xs.getD i E.z)) :
    RdSl E W (slV (a, len, cap)) xs := by
  rcases h.at_ with h0 | h0 | ⟨b, off, rfl, hm⟩
  · subst h0
    obtain rfl : len = 0 := by omega
    have : xs = [] := List.eq_nil_of_length_eq_zero hx
    cases a with
    | none => exact .inl ⟨rfl, this⟩
    | some a => exact .inr (.inr ⟨a, rfl, this⟩)
  · exact absurd h0 (by have := E.pos; omega)
  · refine .inr (.inl ⟨b, off, cap, by rw [hx]; rfl, by omega, fun i hi j hj => ?_⟩)
    rw [hx] at hi
    have hlt : i * E.w + j < cap * E.w := by
      have : i * E.w + E.w ≤ cap * E.w := by rw [← Nat.succ_mul]; exact Nat.mul_le_mul_right E.w (by omega)
      omega
    have := hm.cell (i * E.w + j) (by simp only [width, Seg.width, Nat.add_zero]; exact hlt)
    simp only [cells, Seg.cells, List.append_nil] at this
    rw [this, rowsCells_get2 (by omega) hj, fit_same (h.len i (by omega)), hf i hi]
end Go.Sx
