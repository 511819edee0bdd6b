/- Texts of a proof, one behind the other: E0 E1 E2 E3 E4 E5 E6 E7 E8 E9 E10 E31 E11. -/
import Derived.Deep.Quiet
import Derived.Tactics
import Derived.KernelRfl
import Derived.Below
import Derived.Laws.World
import Derived.Scope
import Derived.OrdersIn
import Derived.TacticsIn
import Derived.Laws.Bits
import Derived.Laws.Small
import Derived.Laws.StructEq
import Derived.Laws.Rows
import Derived.LoopNIn
import Derived.ChangeArms
import Derived.ChangeShapes
import Derived.OpenShut
import Derived.OpenVars
import Derived.JoinedOf
import Derived.LaidLaws
import Derived.Lay
import Derived.MakeChecks
import Derived.SevenTiedAt
import Derived.ChangeOld
import Derived.SizedLaws
import Derived.Handed
namespace Go.Sx
open Go Go.RowKit
inductive Seg where
 | one (v:Value)
 | ints (k:IntKind) (n:Nat) (xs:List Int)
 | rows (w n:Nat) (g:Nat->List Value)
def fit (w:Nat) (l:List Value):List Value:=(List.range w).map fun j=>l.getD j undef
theorem Zzm (w:Nat) (l:List Value):(fit w l).length=w:=by simp [fit]
theorem Zaq {w:Nat} {l:List Value} (h:l.length=w):fit w l=l:=by
 subst h
 apply List.ext_getElem
 ·simp [fit]
 ·intro i h1 h2; simp [fit,List.getD,h2]
def Seg.width:Seg->Nat
 | .one _=>1
 | .ints _ n _=>n
 | .rows w n _=>n*w
def intsCells (k:IntKind) (n:Nat) (xs:List Int):List Value:=(List.range n).map fun i=>.int k (xs.getD i 0)
def Z1c (w n:Nat) (g:Nat->List Value):List Value:=(List.range n).flatMap fun i=>fit w (g i)
def Seg.cells:Seg->List Value
 | .one v=>[v]
 | .ints k n xs=>intsCells k n xs
 | .rows w n g=>Z1c w n g
def cells:List Seg->List Value
 | []=>[]
 | s::r=>s.cells++cells r
def width:List Seg->Nat
 | []=>0
 | s::r=>s.width+width r
theorem Zhf (a b:List Seg):cells (a++b)=cells a++cells b:=by
 induction a with
 | nil=>rfl
 | cons s r ih=>simp [cells,ih]
theorem Znf (a b:List Seg):width (a++b)=width a+width b:=by
 induction a with
 | nil=>simp [width]
 | cons s r ih=>simp [width,ih]; omega
theorem Z1d (k:IntKind) (n:Nat) (xs:List Int):(intsCells k n xs).length=n:=by simp [intsCells]
theorem Z1g (w n:Nat) (g:Nat->List Value):(Z1c w n g).length=n*w:=by
 unfold Z1c
 induction n with
 | zero=>simp
 | succ n ih=>rw [List.range_succ,List.flatMap_append,List.length_append,ih]; simp [Zzm]; rw [Nat.succ_mul]
theorem Seg.cells_length (s:Seg):s.cells.length=s.width:=by
 cases s with
 | one v=>rfl
 | ints k n xs=>exact Z1d k n xs
 | rows w n g=>exact Z1g w n g
theorem cells_length (s:List Seg):(cells s).length=width s:=by
 induction s with
 | nil=>rfl
 | cons s r ih=>simp [cells,width,Seg.cells_length,ih]
theorem Z2i {k:IntKind} {n:Nat} {xs:List Int} {i:Nat} (h:i<n):(intsCells k n xs)[i]? = some (.int k (xs.getD i 0)):=by
 simp [intsCells,h]
theorem Z6i {w n:Nat} {g:Nat->List Value} : ∀ {i:Nat},i<n*w->(Z1c w n g)[i]? = (fit w (g (i / w)))[i%w]? := by
 intro i h
 unfold Z1c
 induction n with
 | zero=>simp at h
 | succ n ih =>
  have hw:0<w:=by
   rcases Nat.eq_zero_or_pos w with h0 | h0
   ·subst h0; simp at h
   ·exact h0
  rw [List.range_succ,List.flatMap_append]
  have hl:((List.range n).flatMap fun i=>fit w (g i)).length=n*w:=Z1g w n g
  by_cases hi:i<n*w
  ·rw [List.getElem?_append_left (by omega)]; exact ih hi
  ·rw [List.getElem?_append_right (by omega),hl]
   have h2:i<n*w+w:=by rw [Nat.succ_mul] at h; exact h
   have hd:i / w=n:=by
    apply Nat.div_eq_of_lt_le
    ·omega
    ·rw [Nat.succ_mul]; omega
   have hm:i%w=i-n*w:=by
    have:=Nat.div_add_mod i w
    rw [hd,Nat.mul_comm] at this; omega
   simp [hd,hm]
def agg (s:List Seg):Value:=.agg (cells s).toArray
def Seg.part:Seg->Nat->Nat->Option Seg
 | .one v,0,1=>some (.one v)
 | .one _,_,_=>none
 | .ints k m xs,off,c=>bif (Nat.beq off 0&&Nat.beq c m) then some (.ints k m xs) else bif Nat.ble (off+c) m then some (.ints k c (xs.drop off)) else none
 | .rows w m g,off,c =>
  bif (Nat.beq off 0&&Nat.beq c (m*w)) then some (.rows w m g)
  else bif (Nat.beq (off%w) 0&&Nat.beq (c%w) 0&&Nat.ble (off+c) (m*w)) then some (.rows w (c / w) fun i=>g (off / w+i)) else none
theorem Seg.part_cells {s p:Seg} {off c:Nat} (h:s.part off c=some p):p.cells=(s.cells.drop off).take c/\p.width=c/\off+c<=s.width:=by
 cases s with
 | one v =>
  unfold Seg.part at h
  split at h
  ·rename_i heq
   injection heq with heq; subst heq
   injection h with h; subst h; simp [Seg.cells,Seg.width]
  ·cases h
  all_goals simp_all
 | ints k m xs =>
  simp only [Seg.part] at h
  by_cases h1:(Nat.beq off 0&&Nat.beq c m)=true
  ·rw [h1,cond_true] at h
   injection h with h
   simp only [Bool.and_eq_true,Nat.beq_eq] at h1
   obtain ⟨rfl,rfl⟩:=h1
   subst h
   refine ⟨?_,rfl,by simp [Seg.width]⟩
   rw [List.drop_zero,List.take_of_length_le]
   rw [Seg.cells_length]; exact Nat.le_refl _
  ·rw [Bool.not_eq_true] at h1
   rw [h1,cond_false] at h
   by_cases h2:Nat.ble (off+c) m=true
   ·rw [h2,cond_true] at h
    injection h with h
    subst h
    have h2':off+c<=m:=Nat.le_of_ble_eq_true h2
    refine ⟨?_,rfl,h2'⟩
    apply List.ext_getElem?
    intro i
    simp only [Seg.cells]
    by_cases hi:i<c
    ·rw [Z2i hi,List.getElem?_take_of_lt hi,List.getElem?_drop,Z2i (by omega)]
     simp [List.getD]
    ·rw [List.getElem?_eq_none (by rw [Z1d]; omega),List.getElem?_eq_none (by rw [List.length_take]; omega)]
   ·rw [Bool.not_eq_true] at h2
    rw [h2,cond_false] at h; cases h
 | rows w m g =>
  simp only [Seg.part] at h
  by_cases h1:(Nat.beq off 0&&Nat.beq c (m*w))=true
  ·rw [h1,cond_true] at h
   injection h with h
   simp only [Bool.and_eq_true,Nat.beq_eq] at h1
   obtain ⟨rfl,rfl⟩:=h1
   subst h
   refine ⟨?_,rfl,by simp [Seg.width]⟩
   rw [List.drop_zero,List.take_of_length_le]
   rw [Seg.cells_length]; exact Nat.le_refl _
  ·rw [Bool.not_eq_true] at h1
   rw [h1,cond_false] at h
   by_cases h2:(Nat.beq (off%w) 0&&Nat.beq (c%w) 0&&Nat.ble (off+c) (m*w))=true
   ·rw [h2,cond_true] at h
    injection h with h
    subst h
    simp only [Bool.and_eq_true,Nat.beq_eq] at h2
    obtain ⟨⟨h3,h4⟩,h5⟩:=h2
    have h5':off+c<=m*w:=Nat.le_of_ble_eq_true h5
    have hc:c / w*w=c:=by have:=Nat.div_add_mod c w; rw [Nat.mul_comm]; omega
    have ho:w*(off / w)=off:=by have:=Nat.div_add_mod off w; omega
    refine ⟨?_,by simp [Seg.width,hc],h5'⟩
    apply List.ext_getElem?
    intro i
    simp only [Seg.cells]
    by_cases hi:i<c
    ·have hw:0<w:=by
      rcases Nat.eq_zero_or_pos w with h0 | h0
      ·subst h0; simp at h5'; omega
      ·exact h0
     rw [Z6i (by omega),List.getElem?_take_of_lt hi,List.getElem?_drop,Z6i (by omega)]
     have e1:(off+i) / w=off / w+i / w:=by
      conv=>lhs; rw [<- ho]
      rw [Nat.mul_add_div hw]
     have e2:(off+i)%w=i%w:=by
      conv=>lhs; rw [<- ho]
      rw [Nat.mul_add_mod]
     rw [e1,e2]
    ·rw [List.getElem?_eq_none (by rw [Z1g,hc]; omega),List.getElem?_eq_none (by rw [List.length_take]; omega)]
   ·rw [Bool.not_eq_true] at h2
    rw [h2,cond_false] at h; cases h
def sub:List Seg->Nat->Nat->Option (List Seg)
 | [],_,n=>bif Nat.beq n 0 then some [] else none
 | s::r,off,n =>
  bif Nat.beq n 0 then some []
  else bif Nat.ble s.width off then sub r (off-s.width) n
  else bif Nat.ble n (s.width-off) then (s.part off n).map fun p=>[p]
  else match s.part off (s.width-off),sub r 0 (n-(s.width-off)) with
   | some p,some q=>some (p::q)
   | _,_=>none
theorem Za1 : ∀ {s p:List Seg} {off n:Nat},sub s off n=some p->cells p=((cells s).drop off).take n/\width p=n/\(n=0∨off+n<=width s):=by
 intro s
 induction s with
 | nil =>
  intro p off n h
  simp only [sub] at h
  by_cases h0:Nat.beq n 0=true
  ·rw [h0,cond_true] at h
   injection h with h; subst h
   rw [Nat.beq_eq] at h0; subst h0
   exact ⟨by simp [cells],rfl,.inl rfl⟩
  ·rw [Bool.not_eq_true] at h0; rw [h0,cond_false] at h; cases h
 | cons s r ih =>
  intro p off n h
  simp only [sub] at h
  by_cases h0:Nat.beq n 0=true
  ·rw [h0,cond_true] at h
   injection h with h; subst h
   rw [Nat.beq_eq] at h0; subst h0
   exact ⟨by simp [cells],rfl,.inl rfl⟩
  ·rw [Bool.not_eq_true] at h0; rw [h0,cond_false] at h
   have hl:=s.cells_length
   by_cases h1:Nat.ble s.width off=true
   ·rw [h1,cond_true] at h
    have h1':=Nat.le_of_ble_eq_true h1
    obtain ⟨e1,e2,e3⟩:=ih h
    refine ⟨?_,e2,?_⟩
    ·rw [e1]; simp only [cells]; rw [List.drop_append,show s.cells.drop off = [] from List.drop_of_length_le (by omega),List.nil_append,hl]
    ·rcases e3 with e3 | e3
     ·exact .inl e3
     ·right; simp only [width]; omega
   ·rw [Bool.not_eq_true] at h1; rw [h1,cond_false] at h
    have h1':off<s.width:=by
     rcases Nat.lt_or_ge off s.width with h' | h'
     ·exact h'
     ·rw [Nat.ble_eq_true_of_le h'] at h1; cases h1
    by_cases h2:Nat.ble n (s.width-off)=true
    ·rw [h2,cond_true] at h
     have h2':=Nat.le_of_ble_eq_true h2
     cases hp:s.part off n with
     | none=>rw [hp] at h; cases h
     | some q =>
      rw [hp] at h
      simp only [Option.map_some,Option.some.injEq] at h
      subst h
      obtain ⟨e1,e2,e3⟩:=Seg.part_cells hp
      refine ⟨?_,by simp [width,e2],.inr (by simp only [width]; omega)⟩
      simp only [cells,List.append_nil]
      rw [e1,List.drop_append_of_le_length (by omega),List.take_append_of_le_length (by simp; omega)]
    ·rw [Bool.not_eq_true] at h2; rw [h2,cond_false] at h
     have h2':s.width-off<n:=by
      rcases Nat.lt_or_ge (s.width-off) n with h' | h'
      ·exact h'
      ·rw [Nat.ble_eq_true_of_le h'] at h2; cases h2
     cases hp:s.part off (s.width-off) with
     | none=>rw [hp] at h; cases h
     | some q =>
      cases hq:sub r 0 (n-(s.width-off)) with
      | none=>rw [hp,hq] at h; cases h
      | some q' =>
       rw [hp,hq] at h
       simp only [Option.some.injEq] at h
       subst h
       obtain ⟨e1,e2,e3⟩:=Seg.part_cells hp
       obtain ⟨f1,f2,f3⟩:=ih hq
       refine ⟨?_,by simp only [width,e2,f2]; omega,.inr (by simp only [width]; omega)⟩
       simp only [cells]
       rw [e1,f1,List.drop_zero,List.drop_append_of_le_length (by omega),List.take_append,List.take_of_length_le (by simp; omega)]
       congr 1
       ·rw [List.take_of_length_le (by simp; omega)]
       ·simp [hl]
def Z93:List Seg->Nat->Option Value
 | [],_=>none
 | s::r,i =>
  bif Nat.ble s.width i then Z93 r (i-s.width)
  else match s with
   | .one v=>some v
   | .ints k _ xs=>some (.int k (xs.getD i 0))
   | .rows w _ g=>(fit w (g (i / w)))[i%w]?
theorem Zf8 : ∀ (s:List Seg) (i:Nat),Z93 s i=(cells s)[i]? := by
 intro s
 induction s with
 | nil=>intro i; simp [Z93,cells]
 | cons s r ih =>
  intro i
  have hl:=s.cells_length
  simp only [Z93,cells]
  by_cases h1:Nat.ble s.width i=true
  ·rw [h1,cond_true,ih,List.getElem?_append_right (by rw [hl]; exact Nat.le_of_ble_eq_true h1),hl]
  ·have h1':i<s.width:=by
    rcases Nat.lt_or_ge i s.width with h' | h'
    ·exact h'
    ·exact absurd (Nat.ble_eq_true_of_le h') h1
   rw [Bool.not_eq_true] at h1
   rw [h1,cond_false,List.getElem?_append_left (by omega)]
   cases s with
   | one v =>
    simp only [Seg.width] at h1'
    obtain rfl:i=0:=by omega
    rfl
   | ints k n xs=>exact (Z2i h1').symm
   | rows w n g=>exact (Z6i h1').symm
def putL (s:List Seg) (off:Nat) (p:List Seg):Option (List Seg) :=
 match sub s 0 off,sub s (off+width p) (width s-(off+width p)) with
 | some a,some b=>bif Nat.ble (off+width p) (width s) then some (a++(p++b)) else none
 | _,_=>none
def Z1i (l:List Value) (off:Nat) (p:List Value):List Value:=l.take off++(p++l.drop (off+p.length))
theorem Zj8 {s p q:List Seg} {off:Nat} (h:putL s off p=some q):cells q=Z1i (cells s) off (cells p)/\width q=width s/\off+width p<=width s:=by
 unfold putL at h
 split at h
 ·rename_i a b ha hb
  by_cases h1:Nat.ble (off+width p) (width s)=true
  ·rw [h1,cond_true] at h
   injection h with h; subst h
   have h1':=Nat.le_of_ble_eq_true h1
   obtain ⟨e1,e2,e3⟩:=Za1 ha
   obtain ⟨f1,f2,f3⟩:=Za1 hb
   refine ⟨?_,by simp only [Znf,e2,f2]; omega,h1'⟩
   rw [Zhf,Zhf,e1,f1,List.drop_zero]
   unfold Z1i
   rw [cells_length]
   congr 2
   rw [List.take_of_length_le]
   rw [List.length_drop,cells_length]; exact Nat.le_refl _
  ·rw [Bool.not_eq_true] at h1; rw [h1,cond_false] at h; cases h
 ·cases h
def Z2g (xs:List Int) (i:Nat) (v:Int):List Int:=if i<xs.length then xs.set i v else xs++(List.replicate (i-xs.length) 0 ++ [v])
set_option linter.unusedSimpArgs false in
theorem Z1a (xs:List Int) (i j:Nat) (v:Int):(Z2g xs i v).getD j 0=if j=i then v else xs.getD j 0:=by
 unfold Z2g
 by_cases h:i<xs.length
 ·rw [if_pos h]
  by_cases hj:j=i
  ·subst hj; simp [List.getD,h]
  ·simp [List.getD,List.getElem?_set,hj,Ne.symm hj]
 ·rw [if_neg h]
  simp only [List.getD]
  by_cases hj:j<xs.length
  ·rw [List.getElem?_append_left hj,if_neg (by omega)]
  ·rw [List.getElem?_append_right (by omega)]
   by_cases hji:j=i
   ·subst hji; rw [List.getElem?_append_right (by simp)]; simp
   ·rw [if_neg hji,List.getElem?_eq_none (l:=xs) (by omega)]
    by_cases hlt:j<i
    ·rw [List.getElem?_append_left (by simp; omega),List.getElem?_replicate]; split <;> rfl
    ·rw [List.getElem?_eq_none (by simp; omega)]
theorem Z049 {xs:List Int} {i:Nat} {v:Int} (h:i<xs.length):Z2g xs i v=xs.set i v:=if_pos h
def updR (g:Nat->List Value) (i:Nat) (p:List Value):Nat->List Value:=fun j=>if j=i then p else g j
def putC:List Seg->Nat->Value->Option (List Seg)
 | [],_,_=>none
 | s::r,i,v =>
  bif Nat.ble s.width i then (putC r (i-s.width) v).map fun r=>s::r
  else match s with
   | .one _=>some (.one v::r)
   | .ints k n xs=>match v with
    | .int k' x=>if k'=k then some (.ints k n (Z2g xs i x)::r) else none
    | _=>none
   | .rows _ _ _=>none
theorem Zjv (k:IntKind) (n:Nat) (xs:List Int) (i:Nat) (x:Int) (h:i<n):intsCells k n (Z2g xs i x)=(intsCells k n xs).set i (.int k x):=by
 apply List.ext_getElem?
 intro j
 by_cases hj:j<n
 ·rw [Z2i hj,Z1a,List.getElem?_set]
  by_cases hji:j=i
  ·subst hji; simp [Z1d,h]
  ·rw [if_neg hji,if_neg (fun h=>hji h.symm),Z2i hj]
 ·rw [List.getElem?_eq_none (by rw [Z1d]; omega),List.getElem?_eq_none (by rw [List.length_set,Z1d]; omega)]
theorem Z8o {w n:Nat} {g:Nat->List Value} {i j:Nat} (hi:i<n) (hj:j<w):(Z1c w n g)[i*w+j]? = (fit w (g i))[j]? := by
 have hlt:i*w+j<n*w:=by
  have:i*w+w<=n*w:=by rw [<- Nat.succ_mul]; exact Nat.mul_le_mul_right w hi
  omega
 rw [Z6i hlt]
 have e1:(i*w+j) / w=i:=by
  rw [Nat.mul_comm,Nat.mul_add_div (by omega),Nat.div_eq_of_lt hj,Nat.add_zero]
 have e2:(i*w+j)%w=j:=by
  rw [Nat.mul_comm,Nat.mul_add_mod,Nat.mod_eq_of_lt hj]
 rw [e1,e2]
theorem Zt4 (w n:Nat) (g:Nat->List Value) (i:Nat) (p:List Value) (h:i<n) (hp:p.length=w) :
  Z1c w n (updR g i p)=Z1i (Z1c w n g) (i*w) p:=by
 have hle:i*w+w<=n*w:=by rw [<- Nat.succ_mul]; exact Nat.mul_le_mul_right w h
 apply List.ext_getElem?
 intro j
 unfold Z1i
 by_cases hj:j<n*w
 ·have hw:0<w:=by
   rcases Nat.eq_zero_or_pos w with h0 | h0
   ·subst h0; simp at hj
   ·exact h0
  rw [Z6i hj]
  have hd:=Nat.div_add_mod j w
  have hm:=Nat.mod_lt j hw
  rw [Nat.mul_comm] at hd
  by_cases h1:j<i*w
  ·have hne:j / w≠i:=by intro e; rw [e] at hd; omega
   rw [List.getElem?_append_left (by rw [List.length_take,Z1g]; omega),List.getElem?_take_of_lt h1,Z6i hj]
   simp only [updR,hne,if_false]
  ·rw [List.getElem?_append_right (by rw [List.length_take,Z1g]; omega),List.length_take,Z1g,Nat.min_eq_left (by omega)]
   by_cases h2:j<i*w+w
   ·have he:j / w=i:=by
     apply Nat.div_eq_of_lt_le
     ·omega
     ·rw [Nat.succ_mul]; omega
    rw [List.getElem?_append_left (by omega)]
    simp only [updR,he,if_true]
    rw [Zaq hp]
    congr 1
    rw [he] at hd; omega
   ·have hne:j / w≠i:=by
     intro e; rw [e] at hd; omega
    rw [List.getElem?_append_right (by omega),List.getElem?_drop,hp,show i*w+w+(j-i*w-w)=j by omega,Z6i hj]
    simp only [updR,hne,if_false]
 ·have hlen:(List.take (i*w) (Z1c w n g)++(p++List.drop (i*w+p.length) (Z1c w n g))).length=n*w:=by
   simp only [List.length_append,List.length_take,List.length_drop,Z1g,hp]; omega
  rw [List.getElem?_eq_none (by rw [Z1g]; omega),List.getElem?_eq_none (by omega)]
theorem Zjh {l:List Value} {i:Nat} {v:Value} (h:i<l.length):l.set i v=Z1i l i [v]:=by
 unfold Z1i
 simp only [List.length_cons,List.length_nil]
 apply List.ext_getElem?
 intro j
 rw [List.getElem?_set]
 by_cases h1:j<i
 ·rw [List.getElem?_append_left (by rw [List.length_take]; omega),List.getElem?_take_of_lt h1,if_neg (by omega)]
 ·rw [List.getElem?_append_right (by rw [List.length_take]; omega),List.length_take,Nat.min_eq_left (by omega)]
  by_cases h2:j=i
  ·subst h2; simp [h]
  ·rw [if_neg (by omega),List.getElem?_append_right (by simp; omega),List.getElem?_drop]
   congr 1; simp; omega
theorem Zkm {a b p:List Value} {off:Nat} (h:a.length<=off):Z1i (a++b) off p=a++Z1i b (off-a.length) p:=by
 unfold Z1i
 rw [List.take_append,List.drop_append,List.take_of_length_le h,show a.drop (off+p.length) = [] from List.drop_of_length_le (by omega),List.nil_append,
  show off-a.length+p.length=off+p.length-a.length by omega]
 simp
theorem Zm2 : ∀ {s q:List Seg} {i:Nat} {v:Value},putC s i v=some q->cells q=(cells s).set i v/\width q=width s/\i<width s:=by
 intro s
 induction s with
 | nil=>intro q i v h; cases h
 | cons s r ih =>
  intro q i v h
  have hl:=s.cells_length
  simp only [putC] at h
  by_cases h1:Nat.ble s.width i=true
  ·rw [h1,cond_true] at h
   have h1':=Nat.le_of_ble_eq_true h1
   cases hr:putC r (i-s.width) v with
   | none=>rw [hr] at h; cases h
   | some r' =>
    rw [hr] at h
    simp only [Option.map_some,Option.some.injEq] at h
    subst h
    obtain ⟨e1,e2,e3⟩:=ih hr
    refine ⟨?_,by simp [width,e2],by simp only [width]; omega⟩
    simp only [cells]
    rw [e1,List.set_append_right _ _ (by omega),hl]
  ·have h1':i<s.width:=by
    rcases Nat.lt_or_ge i s.width with h' | h'
    ·exact h'
    ·exact absurd (Nat.ble_eq_true_of_le h') h1
   rw [Bool.not_eq_true] at h1
   rw [h1,cond_false] at h
   cases s with
   | one u =>
    simp only [Option.some.injEq] at h; subst h
    simp only [Seg.width] at h1'
    obtain rfl:i=0:=by omega
    exact ⟨by simp [cells,Seg.cells],rfl,by simp only [width,Seg.width]; omega⟩
   | ints k n xs =>
    cases v <;> simp only [reduceCtorEq] at h
    rename_i k' x
    split at h
    ·rename_i hk; subst hk
     simp only [Option.some.injEq] at h; subst h
     refine ⟨?_,rfl,by simp only [width]; omega⟩
     simp only [cells,Seg.cells]
     have h1n:i<n:=h1'
     rw [Zjv _ _ _ _ _ h1n,List.set_append_left _ _ (by rw [Z1d]; exact h1n)]
    ·cases h
   | rows w n g=>simp only [reduceCtorEq] at h
def Ze6:List Seg->Nat->Option Seg
 | [],_=>none
 | s::r,off=>bif Nat.beq off 0 then some s else bif Nat.ble s.width off then Ze6 r (off-s.width) else none
def Zh6:List Seg->Nat->Seg->Option (List Seg)
 | [],_,_=>none
 | s::r,off,q=>bif Nat.beq off 0 then (bif Nat.beq s.width q.width then some (q::r) else none) else bif Nat.ble s.width off then (Zh6 r (off-s.width) q).map (s :: ·) else none
theorem Z7x : ∀ {s:List Seg} {q:Seg} {off:Nat},Ze6 s off=some q->∀ i,i<q.width->(cells s)[off+i]? = q.cells[i]? := by
 intro s
 induction s with
 | nil=>intro q off h; cases h
 | cons s r ih =>
  intro q off h i hi
  have hl:=s.cells_length
  simp only [Ze6] at h
  by_cases h0:Nat.beq off 0=true
  ·rw [h0,cond_true] at h; injection h with h; subst h
   rw [Nat.beq_eq] at h0; subst h0
   simp only [cells,Nat.zero_add]
   rw [List.getElem?_append_left (by omega)]
  ·rw [Bool.not_eq_true] at h0; rw [h0,cond_false] at h
   by_cases h1:Nat.ble s.width off=true
   ·rw [h1,cond_true] at h
    have h1':=Nat.le_of_ble_eq_true h1
    simp only [cells]
    rw [List.getElem?_append_right (by omega),hl,show off+i-s.width=off-s.width+i by omega]
    exact ih h i hi
   ·rw [Bool.not_eq_true] at h1; rw [h1,cond_false] at h; cases h
theorem Zdv : ∀ {s:List Seg} {q:Seg} {off:Nat},Ze6 s off=some q->off+q.width<=width s:=by
 intro s
 induction s with
 | nil=>intro q off h; cases h
 | cons s r ih =>
  intro q off h
  simp only [Ze6] at h
  by_cases h0:Nat.beq off 0=true
  ·rw [h0,cond_true] at h; injection h with h; subst h
   rw [Nat.beq_eq] at h0; subst h0
   simp only [width]; omega
  ·rw [Bool.not_eq_true] at h0; rw [h0,cond_false] at h
   by_cases h1:Nat.ble s.width off=true
   ·rw [h1,cond_true] at h
    have h1':=Nat.le_of_ble_eq_true h1
    have:=ih h
    simp only [width]; omega
   ·rw [Bool.not_eq_true] at h1; rw [h1,cond_false] at h; cases h
theorem Zip : ∀ {s t:List Seg} {q:Seg} {off:Nat},Zh6 s off q=some t->cells t=Z1i (cells s) off q.cells/\width t=width s/\off+q.width<=width s:=by
 intro s
 induction s with
 | nil=>intro t q off h; cases h
 | cons s r ih =>
  intro t q off h
  have hl:=s.cells_length
  have hq:=q.cells_length
  simp only [Zh6] at h
  by_cases h0:Nat.beq off 0=true
  ·rw [h0,cond_true] at h
   by_cases h2:Nat.beq s.width q.width=true
   ·rw [h2,cond_true] at h
    injection h with h; subst h
    rw [Nat.beq_eq] at h0 h2; subst h0
    refine ⟨?_,by simp [width,h2],by simp only [width]; omega⟩
    unfold Z1i
    simp only [cells,List.take_zero,List.nil_append,Nat.zero_add]
    rw [List.drop_append,show s.cells.drop q.cells.length = [] from List.drop_of_length_le (by omega),List.nil_append,hq,hl,h2,Nat.sub_self,List.drop_zero]
   ·rw [Bool.not_eq_true] at h2; rw [h2,cond_false] at h; cases h
  ·rw [Bool.not_eq_true] at h0; rw [h0,cond_false] at h
   by_cases h1:Nat.ble s.width off=true
   ·rw [h1,cond_true] at h
    have h1':=Nat.le_of_ble_eq_true h1
    cases hr:Zh6 r (off-s.width) q with
    | none=>rw [hr] at h; cases h
    | some r' =>
     rw [hr] at h
     simp only [Option.map_some,Option.some.injEq] at h
     subst h
     obtain ⟨e1,e2,e3⟩:=ih hr
     refine ⟨?_,by simp [width,e2],by simp only [width]; omega⟩
     simp only [cells]
     rw [e1,Zkm (by omega),hl]
   ·rw [Bool.not_eq_true] at h1; rw [h1,cond_false] at h; cases h
set_option linter.all false
inductive Kd where
 | i (k:IntKind)
 | b
 deriving DecidableEq
def kdL:List (Kd×Nat)->List Kd
 | []=>[]
 | (k,n)::r=>List.replicate n k++kdL r
inductive IOp where
 | mv (x:Operand)
 | pick (c a b:Operand)
 | un (op:UnOp) (x:Operand)
 | bin (op:BinOp) (x y:Operand)
 | beq (neg : Bool) (x y : Operand)                    -- == of bools
 | eqa (neg : Bool) (ks : List (Kd × Nat)) (x y : Operand)          -- == of aggregates, each cell a number or a bool
 | conv (k : IntKind) (x : Operand)                    -- a number to a number
 | same (x : Operand)                                   -- a conversion that changes nothing (aggregates)
 | ld (n:Nat) (ag:Bool) (x:Operand)
 | st (n:Nat) (x y:Operand)
 | al (T:TypeId) (z:List Seg)
 | bx (T:TypeId) (x:Operand)
 | bd (z:List Seg) (parts:List (Nat×Nat×Operand))
 | fa (off:Nat) (x:Operand)
 | ia (len w:Nat) (x i:Operand)
 | ias (w:Nat) (x i:Operand)
 | fld (off n:Nat) (ag:Bool) (x:Operand)
 | idx (len w:Nat) (ag:Bool) (x i:Operand)
 | ext (x:Operand) (i:Nat)
 | sla (len w:Nat) (x:Operand) (lo hi mx:Option Operand)
 | sls (w:Nat) (x:Operand) (lo hi mx:Option Operand)
 | call (f:FuncId) (args:List Operand)
 | len (x : Operand)                                    -- of a slice
 | lena (n : Nat)                                       -- of an array
 | cap (x:Operand)
 | xcall (f : FuncId) (args : List Operand)             -- a function without a body
 | nilc (x:Operand)
 | isn (neg : Bool) (x : Operand)                       -- a slice == nil
 | s2a (n:Nat) (x:Operand)
 | mks (T:TypeId) (bytes:Nat) (z:List Seg) (l c:Operand)
 | bs (T : TypeId) (len w : Nat) (z : List Seg) (parts : List (Nat × Nat × Operand))        -- a slice of these
 | app (T:TypeId) (w bytes:Nat) (z:List Seg) (x y:Operand)
 | cpy (w:Nat) (x y:Operand)
 | apz (T : TypeId) (w bytes : Nat) (z : List Seg) (x y : Operand)   -- append of y noughts
 | cv (x : Operand) (args : List Operand)                -- a call of a value
 | mf (f : FuncId) (caps : List Operand)                 -- a function with captured variables
 | lens (x : Operand)                                    -- of a string
 | sidx (x i : Operand)                                  -- a byte of a string
 | s2b (T : TypeId) (x : Operand)                        -- []byte of a string
 | mi (T : TypeId) (x : Operand)                         -- a value as an interface's
 | pnc (x : Operand)                                     -- panic
 | mm (mx : Bool) (x y : Operand)                        -- max, min of two numbers
 | mkm                                                   -- a new map
 | mlk (q : IntKind) (ok : Bool) (z : List Seg) (x k : Operand)      -- m[k]: keys numbers, elements groups of cells
 | mup (q:IntKind) (x k v:Operand)
 | mrg (x : Operand)                                     -- range over a map
 | mnx (x:Operand)
 | men (x:Operand)
 | mdl (q:IntKind) (x k:Operand)
 | raw                                                   -- anything else
 deriving Inhabited
structure Zqe where
 d:Option Nat
 g:Option (Nat×Bool)
 op:IOp
inductive J where
 | op (i:Zqe)
 | lg (or:Bool) (tc d:Nat) (g:Option (Nat×Bool)) (grp:List J) (y:Operand)
mutual
def J.flat:J->List Zqe
 | .op i=>[i]
 | .lg or tc d g grp y=>J.flatL grp ++ [⟨some d,g,bif or then .pick (.tmp tc) (.const (.bool true)) y else .pick (.tmp tc) y (.const (.bool false))⟩]
def J.flatL:List J->List Zqe
 | []=>[]
 | j::r=>j.flat++J.flatL r
end
inductive Sch where
 | nil
 | q (idx:List Nat) (j:J) (r:Sch)
 | p (idx:List Nat) (j:J) (r:Sch)
 | e (i:Nat) (o:Zqe) (r:Sch)
 | two (i:Nat) (o:Zqe) (r:Sch) (i':Nat) (o':Zqe) (r':Sch)
inductive IC where
 | skip
 | ret
 | ops (l:List J)
 | draw (s:Sch) (late:List Nat)
 | seq (a b:IC)
 | cond (x:Operand) (a b:IC)
 | block (id:Nat) (c:IC)
 | loop (c:IC)
 | exit (id:Nat)
 | scope (c:IC)
 | rng (x:Operand) (ps:List Nat) (asg body:IC)
 | lbl
 | raw
def veq:Value->Value->Bool
 | .int k a,.int k' b=>decide (k=k')&&decide (a=b)
 | .bool a,.bool b=>a==b
 | .string a,.string b=>decide (a.data.toList=b.data.toList)
 | .pointer none,.pointer none=>true
 | .slice none a b,.slice none c d=>a==c&&b==d
 | .map none,.map none=>true
 | .nilFunc,.nilFunc=>true
 | .nilIface,.nilIface=>true
 | .agg a,.agg b=>decide (a.size=0)&&decide (b.size=0)
 | _,_=>false
theorem Zvp {a b:Value} (h:veq a b=true):a=b:=by
 unfold veq at h
 split at h <;> simp_all
 ·rename_i x y
  cases x; cases y
  simp only [ByteArray.mk.injEq]
  exact Array.ext' (by simpa using congrArg Array.toList h)
def veqL:List Value->List Value->Bool
 | [],[]=>true
 | a::r,b::q=>veq a b&&veqL r q
 | _,_=>false
theorem Zap : ∀ {a b:List Value},veqL a b=true->a=b
 | [],[],_=>rfl
 | [],_::_,h=>by simp [veqL] at h
 | _::_,[],h=>by simp [veqL] at h
 | a::r,b::q,h=>by
  simp only [veqL,Bool.and_eq_true] at h
  rw [Zvp h.1,Zap h.2]
def oeq:Operand->Operand->Bool
 | .tmp a,.tmp b=>Nat.beq a b
 | .const a,.const b=>veq a b
 | .global a,.global b=>Nat.beq a b
 | .func a,.func b=>Nat.beq a b
 | _,_=>false
theorem Z0m {a b:Operand} (h:oeq a b=true):a=b:=by
 unfold oeq at h
 split at h
 ·rw [Nat.beq_eq] at h; rw [h]
 ·rw [Zvp h]
 ·rw [Nat.beq_eq] at h; rw [h]
 ·rw [Nat.beq_eq] at h; rw [h]
 ·cases h
def Zua:List Operand->List Operand->Bool
 | [],[]=>true
 | a::r,b::q=>oeq a b&&Zua r q
 | _,_=>false
theorem Z81 : ∀ {a b:List Operand},Zua a b=true->a=b
 | [],[],_=>rfl
 | [],_::_,h=>by simp [Zua] at h
 | _::_,[],h=>by simp [Zua] at h
 | a::r,b::q,h=>by
  simp only [Zua,Bool.and_eq_true] at h
  rw [Z0m h.1,Z81 h.2]
def oeqO:Option Operand->Option Operand->Bool
 | none,none=>true
 | some a,some b=>oeq a b
 | _,_=>false
theorem Z58 {a b:Option Operand} (h:oeqO a b=true):a=b:=by
 cases a <;> cases b <;> simp_all [oeqO]
 exact Z0m h
def Zu2:TypeDesc->Bool
 | .struct _ | .array _ _=>true
 | _=>false
def Zf2 (P:Program) (T:TypeId):Option Nat:=(P.info? T).map (·.size)
def Zf4 (P:Program) (T:TypeId):Option Bool:=(P.underlying T).map Zu2
def zOf (P:Program) (T:TypeId):Option (List Value):=(P.info? T).bind fun i=>i.zero.map fun v=>v.cells.toList
def agOk (P:Program) (T:TypeId) (n:Nat):Bool:=match Zf4 P T with
 | some true=>true
 | some false=>decide (n=1)
 | none=>false
def Zgg (P:Program):Nat->TypeId->Option (List Kd)
 | 0,_=>none
 | d+1,T=>match P.underlying T with
  | some .bool=>some [.b]
  | some (.int k)=>some [.i k]
  | some (.struct fs)=>if P.stoodInHeld T then none else fs.toList.foldl (fun acc f=>match acc,Zgg P d f.type with
    | some l,some l'=>if (f.name != "_")&&decide (f.offset=l.length)&&(Zf2 P f.type==some l'.length)&&agOk P f.type l'.length then some (l++l') else none
    | _,_=>none) (some [])
  | some (.array n e)=>match Zgg P d e with
   | some l=>if (Zf2 P e==some l.length)&&agOk P e l.length then some (List.replicate n l).flatten else none
   | none=>none
  | _=>none
def Zm1 (P:Program) (T:TypeId):List (Nat×Operand)->List (Nat×Nat×Operand)->Bool
 | [],[]=>true
 | (i,x)::r,(off,n,y)::q =>
  (match P.underlying T with
   | some (.struct fs)=>match fs[i]? with
    | some f=>decide (f.offset=off)&&(Zf2 P f.type==some n)
    | none=>false
   | some (.array _ e)=>match Zf2 P e with
    | some s=>decide (i*s=off)&&decide (s=n)
    | none=>false
   | _=>false)&&oeq x y&&Zm1 P T r q
 | _,_=>false
def Zu0 (P:Program) (T:TypeId) (w bytes:Nat):Bool:=match P.info? T with
 | some i=>Nat.beq i.size w&&Nat.beq i.bytes bytes&&Nat.blt 0 bytes
 | none=>false
def Zm0 (w:Nat):List (Nat×Operand)->List (Nat×Nat×Operand)->Bool
 | [],[]=>true
 | (j,x)::r,(off,n,y)::q=>Nat.beq (j*w) off&&Nat.beq n w&&oeq x y&&Zm0 w r q
 | _,_=>false
def Za4 (P:Program) (o:Oper):IOp->Bool
 | .mv y=>match o.op with
  | .move x | .assign x=>oeq x y
  | _=>false
 | .pick c a b=>match o.op with
  | .pick c' a' b'=>oeq c' c&&oeq a' a&&oeq b' b
  | _=>false
 | .un op x=>match o.op with
  | .unOp op' _ x'=>decide (op'=op)&&oeq x' x
  | _=>false
 | .bin op x y=>match o.op with
  | .binOp op' _ x' y' _=>decide (op'=op)&&oeq x' x&&oeq y' y
  | _=>false
 | .beq neg x y=>match o.op with
  | .binOp op' T x' y' _=>decide (op'=if neg then .neq else .eql)&&oeq x' x&&oeq y' y&&(match P.underlying T with | some .bool=>true | _=>false)
  | _=>false
 | .eqa neg ks x y=>match o.op with
  | .binOp op' T x' y' _=>decide (op'=if neg then .neq else .eql)&&oeq x' x&&oeq y' y&&(Zgg P 12 T==some (kdL ks))&&(Zf4 P T==some true) && !P.eqGuardType P.depth T
  | _=>false
 | .conv k x=>match o.op with
  | .convert S D x'=>oeq x' x&&(match P.underlying D with | some (.int k')=>decide (k'=k) | _=>false)&&(P.underlying S).isSome
  | _=>false
 | .same x=>match o.op with
  | .convert S D x'=>oeq x' x&&false
  | _=>false
 | .ld n ag x=>match o.op with
  | .load T x'=>oeq x' x&&(Zf2 P T==some n)&&(Zf4 P T==some ag)
  | _=>false
 | .st n x y=>match o.op with
  | .store T x' y'=>oeq x' x&&oeq y' y&&(Zf2 P T==some n)
  | _=>false
 | .al T z=>match o.op with
  | .alloc T'=>decide (T'=T)&&(match zOf P T with | some l=>veqL l (cells z) | none=>false)
  | _=>false
 | .bx T x=>match o.op with
  | .box T' x'=>decide (T'=T)&&oeq x' x
  | _=>false
 | .bd z parts=>match o.op with
  | .build T ps=>(match zOf P T with | some l=>veqL l (cells z) | none=>false)&&Zm1 P T ps.toList parts&&(match P.underlying T with
   | some (.struct fs)=>fs.toList.all fun f=>(Zf2 P f.type).isSome
   | some (.array _ e)=>(Zf2 P e).isSome
   | _=>false)
  | _=>false
 | .fa off x=>match o.op with
  | .fieldAddr T x' f=>oeq x' x&&(match P.underlying T with
   | some (.struct fs)=>match fs[f]? with
    | some fd=>decide (fd.offset=off)&&(match Zf2 P fd.type with | some s=>decide (s≠0) | none=>false)
    | none=>false
   | _=>false)
  | _=>false
 | .ia len w x i=>match o.op with
  | .indexAddr T x' i'=>oeq x' x&&oeq i' i&&(match P.underlying T with
   | some (.array l e)=>decide (l=len)&&(Zf2 P e==some w)
   | _=>false)
  | _=>false
 | .ias w x i=>match o.op with
  | .indexAddr T x' i'=>oeq x' x&&oeq i' i&&(match P.underlying T with
   | some (.slice e)=>Zf2 P e==some w
   | _=>false)
  | _=>false
 | .fld off n ag x=>match o.op with
  | .field T x' f=>oeq x' x&&(match P.underlying T with
   | some (.struct fs)=>match fs[f]? with
    | some fd=>decide (fd.offset=off)&&(Zf2 P fd.type==some n)&&(Zf4 P fd.type==some ag)
    | none=>false
   | _=>false)
  | _=>false
 | .idx len w ag x i=>match o.op with
  | .index T x' i'=>oeq x' x&&oeq i' i&&(match P.underlying T with
   | some (.array l e)=>decide (l=len)&&(Zf2 P e==some w)&&(Zf4 P e==some ag)
   | _=>false)
  | _=>false
 | .ext x i=>match o.op with
  | .extract x' i'=>oeq x' x&&decide (i'=i)
  | _=>false
 | .sla len w x lo hi mx=>match o.op with
  | .slice T x' lo' hi' mx'=>oeq x' x&&oeqO lo' lo&&oeqO hi' hi&&oeqO mx' mx&&(match P.underlying T with
   | some (.array l e)=>decide (l=len)&&(Zf2 P e==some w)
   | _=>false)
  | _=>false
 | .sls w x lo hi mx=>match o.op with
  | .slice T x' lo' hi' mx'=>oeq x' x&&oeqO lo' lo&&oeqO hi' hi&&oeqO mx' mx&&(match P.underlying T with
   | some (.slice e)=>Zf2 P e==some w
   | _=>false)
  | _=>false
 | .call f args=>match o.op with
  | .call c=>(match c.callee with
   | .value (.func f')=>Nat.beq f' f
   | _=>false)&&Zua c.args.toList args&&(match P.funcs[f]? with
   | some fn=>fn.body.isSome && !(fn.name == "runtime.NumGoroutine")
   | none=>false)
  | _=>false
 | .len x=>match o.op with
  | .call c=>(match c.callee with
   | .builtin .len=>true
   | _=>false)&&Zua c.args.toList [x]&&(match (c.argTypes[0]?).bind P.underlying with
   | some (.slice _)=>true
   | _=>false)
  | _=>false
 | .lens x=>match o.op with
  | .call c=>(match c.callee with
   | .builtin .len=>true
   | _=>false)&&Zua c.args.toList [x]&&(match (c.argTypes[0]?).bind P.underlying with
   | some .string=>true
   | _=>false)
  | _=>false
 | .sidx x i=>match o.op with
  | .index T x' i'=>oeq x' x&&oeq i' i&&(match P.underlying T with
   | some .string=>true
   | _=>false)
  | _=>false
 | .s2b T x=>match o.op with
  | .convert S D x'=>oeq x' x&&(match P.underlying S with
   | some .string=>true
   | _=>false)&&(match P.underlying D with
   | some (.slice e)=>decide (e=T)&&(match P.underlying e with
    | some (.int .u8)=>true
    | _=>false)
   | _=>false)
  | _=>false
 | .lena n=>match o.op with
  | .call c=>(match c.callee with
   | .builtin .len=>true
   | _=>false)&&(match c.args.toList with | [_]=>true | _=>false)&&(match (c.argTypes[0]?).bind P.underlying with
   | some (.array k _)=>decide (k=n)
   | _=>false)
  | _=>false
 | .cap x=>match o.op with
  | .call c=>(match c.callee with
   | .builtin .cap=>true
   | _=>false)&&Zua c.args.toList [x]&&(match (c.argTypes[0]?).bind P.underlying with
   | some (.slice _)=>true
   | _=>false)
  | _=>false
 | .xcall f args=>match o.op with
  | .call c=>(match c.callee with
   | .value (.func f')=>Nat.beq f' f
   | _=>false)&&Zua c.args.toList args
  | _=>false
 | .nilc x=>match o.op with
  | .nilCheck x'=>oeq x' x
  | _=>false
 | .isn neg x=>match o.op with
  | .binOp op' T x' y' _=>decide (op'=if neg then .neq else .eql)&&oeq x' x&&oeq y' (.const (.slice none 0 0))&&(match P.underlying T with | some (.slice _)=>true | _=>false)
  | _=>false
 | .s2a n x=>match o.op with
  | .sliceToArrayPointer A x'=>oeq x' x&&(match P.underlying A with | some (.array k _)=>decide (k=n) | _=>false)
  | _=>false
 | .mks T bytes z l c=>match o.op with
  | .makeSlice t l' c'=>oeq l' l&&oeq c' c&&(match P.underlying t with | some (.slice e)=>decide (e=T) | _=>false)&&Zu0 P T (width z) bytes&&(match zOf P T with | some q=>veqL q (cells z) | none=>false)
  | _=>false
 | .bs T len w z parts=>match o.op with
  | .buildSlice t len' ps=>(match P.underlying t with | some (.slice e)=>decide (e=T) | _=>false)&&Nat.beq len' len&&(Zf2 P T==some w)&&(match zOf P T with
   | some q=>veqL ((Array.range (len*w)).map fun i=>q.toArray[i%q.toArray.size]!).toList (cells z)
   | none=>false)&&Zm0 w ps.toList parts&&Nat.ble (len*w) 16777216
  | _=>false
 | .app T w bytes z x y=>match o.op with
  | .call c=>(match c.callee with
   | .builtin .append=>true
   | _=>false)&&Zua c.args.toList [x,y]&&(match (c.argTypes[0]?).bind P.underlying with
   | some (.slice e)=>decide (e=T)
   | _=>false)&&(match (c.argTypes[1]?).bind P.underlying with
   | some (.slice _)=>true
   | some .string=>true
   | _=>false)&&Zu0 P T w bytes&&(match zOf P T with | some q=>veqL q (cells z) | none=>false)&&Nat.beq (width z) w&&Nat.blt 0 w
  | _=>false
 | .apz T w bytes z x y=>match o.op with
  | .call c=>(match c.callee with
   | .builtin .append=>true
   | _=>false)&&Zua c.args.toList [x,y]&&(match (c.argTypes[0]?).bind P.underlying with
   | some (.slice e)=>decide (e=T)
   | _=>false)&&(match (c.argTypes[1]?).bind P.underlying with
   | some (.int _)=>true
   | _=>false)&&Zu0 P T w bytes&&(match zOf P T with | some q=>veqL q (cells z) | none=>false)&&Nat.beq (width z) w&&Nat.blt 0 w
  | _=>false
 | .cpy w x y=>match o.op with
  | .call c=>(match c.callee with
   | .builtin .copy=>true
   | _=>false)&&Zua c.args.toList [x,y]&&(match (c.argTypes[0]?).bind P.underlying with
   | some (.slice e)=>Zf2 P e==some w
   | _=>false)
  | _=>false
 | .cv x args=>match o.op with
  | .call c=>(match c.callee with
   | .value y=>oeq y x
   | _=>false)&&Zua c.args.toList args
  | _=>false
 | .mf f caps=>match o.op with
  | .makeFunc (.func f') first captured=>Nat.beq f' f&&first.isEmpty&&Zua captured.toList caps
  | _=>false
 | .mi T x=>match o.op with
  | .makeInterface T' x'=>Nat.beq T' T&&oeq x' x&&(match P.underlying T with | some (.interface _)=>false | some _=>true | none=>false)
  | _=>false
 | .pnc x=>match o.op with
  | .panic x'=>oeq x' x
  | _=>false
 | .mm mx x y=>match o.op with
  | .call c=>(match c.callee with
   | .builtin .max=>mx
   | .builtin .min => !mx
   | _=>false)&&Zua c.args.toList [x,y]
  | _=>false
 | .mkm=>match o.op with
  | .makeMap _ none=>true
  | _=>false
 | .mlk q ok z x k=>match o.op with
  | .lookup T x' k' ok'=>oeq x' x&&oeq k' k&&(ok'==ok)&&(match P.underlying T with
   | some (.map K e)=>(match P.underlying K with | some (.int q')=>decide (q'=q) | _=>false)&&(match (P.info? e).bind (·.zero) with | some (.agg cs)=>veqL cs.toList (cells z) | _=>false)
   | _=>false)
  | _=>false
 | .mup q x k v=>match o.op with
  | .mapUpdate T x' k' v'=>oeq x' x&&oeq k' k&&oeq v' v&&(match P.underlying T with
   | some (.map K _)=>(match P.underlying K with | some (.int q')=>decide (q'=q) | _=>false)
   | _=>false)
  | _=>false
 | .mrg x=>match o.op with
  | .range T x'=>oeq x' x&&(match P.underlying T with
   | some (.map _ _)=>true
   | _=>false)
  | _=>false
 | .mnx x=>match o.op with
  | .next x' false=>oeq x' x
  | _=>false
 | .men x=>match o.op with
  | .entry x'=>oeq x' x
  | _=>false
 | .mdl q x k=>match o.op with
  | .call c=>(match c.callee with
   | .builtin .delete=>true
   | _=>false)&&Zua c.args.toList [x,k]&&(match (c.argTypes[0]?).bind P.underlying with
   | some (.map K _)=>(match P.underlying K with | some (.int q')=>decide (q'=q) | _=>false)
   | _=>false)
  | _=>false
 | .raw=>match o.op with
  | .defer _=>false
  | _=>true
def Zgi (ops:Array Oper):Option (Nat×Bool)->Option (Nat×Bool)->Bool
 | none,none=>true
 | some (j,want),some (t,want')=>want==want'&&(match (ops[j]?).bind (·.dst) with | some t'=>Nat.beq t' t | none=>false)
 | _,_=>false
def okD (n:Nat):Option Nat->Option Nat->Bool
 | none,none=>true
 | some a,some b=>Nat.beq a b&&Nat.blt b n
 | _,_=>false
def okL (P:Program) (n:Nat) (ops:Array Oper):List Oper->List Zqe->Bool
 | [],[]=>true
 | o::lo,i::l=>okD n o.dst i.d&&Zgi ops o.guard i.g&&Za4 P o i.op&&okL P n ops lo l
 | _,_=>false
def Zu4 (l:List Nat) (j:Nat):Bool:=l.contains j
def ops? (ops:Array Oper):List Nat->Option (List Oper)
 | []=>some []
 | i::r=>match ops[i]?,ops? ops r with
  | some o,some l=>some (o::l)
  | _,_=>none
def anc (ops:Array Oper) (i:Nat):Nat->Nat->Bool
 | 0,_=>false
 | n+1,j=>match ops[j]? with
  | some o=>o.after.any fun e=>Region.binds .any e&&(e.on==i||anc ops i n e.on)
  | none=>false
def Zrz (ops:Array Oper) (late:List Nat):List Nat->Array Bool->Option (Array Bool)
 | [],listed=>some listed
 | i::r,listed =>
  bif (Region.ready .any ops listed).contains i&&Region.free .any ops listed i&&late.all (fun j=>Nat.beq j i||listed.getD j true||anc ops i ops.size j)
  then Zrz ops late r (listed.setIfInBounds i true) else none
def Zan (P:Program) (n:Nat) (ops:Array Oper) (late:List Nat):Sch->Array Bool->Bool
 | .nil,listed=>(Region.ready .any ops listed).isEmpty
 | .q idx j r,listed=>(match ops? ops idx with
   | some lo=>okL P n ops lo j.flat
   | none=>false)&&(match Zrz ops late idx listed with
   | some listed'=>Zan P n ops late r listed'
   | none=>false)
 | .p idx j r,listed=>(match ops? ops idx with
   | some lo=>okL P n ops lo j.flat
   | none=>false)&&(match Zrz ops [] idx listed with
   | some listed'=>Zan P n ops late r listed'
   | none=>false)
 | .e i op r,listed=>(match ops[i]? with
   | some o=>okL P n ops [o] [op]
   | none=>false)&&(match Region.ready .any ops listed with
   | [k]=>Nat.beq k i
   | _=>false)&&Zan P n ops late r (listed.setIfInBounds i true)
 | .two i op r i' op' r',listed=>(match ops[i]?,ops[i']? with
   | some o,some o'=>okL P n ops [o] [op]&&okL P n ops [o'] [op']
   | _,_=>false)&&(match Region.ready .any ops listed with
   | [k,k']=>Nat.beq k i&&Nat.beq k' i'
   | _=>false)&&Zan P n ops late r (listed.setIfInBounds i true)&&Zan P n ops late r' (listed.setIfInBounds i' true)
def Zx4:Sch->Nat
 | .nil=>0
 | .q idx _ r=>idx.length+Zx4 r
 | .p idx _ r=>idx.length+Zx4 r
 | .e _ _ r=>Zx4 r+1
 | .two _ _ r _ _ _=>Zx4 r+1
def Znd:Sch->Bool
 | .nil=>true
 | .q _ _ r=>Znd r
 | .p _ _ r=>Znd r
 | .e _ _ r=>Znd r
 | .two _ _ r _ _ r'=>Nat.beq (Zx4 r) (Zx4 r')&&Znd r&&Znd r'
def Zwj (ops:Array Oper):Bool:=ops.all fun o=>match o.op with | .defer _=>false | _=>true
theorem Zu8 {ops:Array Oper} (h:Zwj ops=true) {j:Nat} {o:Oper} (ho:ops[j]? = some o) (c:Call):o.op ≠ .defer c:=by
 intro heq
 have:=Array.all_eq_true_iff_forall_mem.1 h o (Array.mem_of_getElem? ho)
 simp [heq] at this
theorem Z02r {P:Program} {o:Oper} {i:IOp} (h:Za4 P o i=true) (c:Call):o.op ≠ .defer c:=by
 intro heq
 cases i <;> simp [Za4,heq] at h
theorem Z08r {P:Program} {n:Nat} {ops:Array Oper} : ∀ {lo:List Oper} {l:List Zqe},okL P n ops lo l=true->∀ o∈lo,∀ c,o.op ≠ .defer c
 | [],_,_,_,h,_=>by cases h
 | o::lo,[],h,_,_,_=>by simp [okL] at h
 | o::lo,i::l,h,o',ho,c=>by
  simp only [okL,Bool.and_eq_true] at h
  rcases List.mem_cons.1 ho with e | e
  ·rw [e]; exact Z02r h.1.2 c
  ·exact Z08r h.2 o' e c
def okC (P:Program) (n:Nat):Code->IC->Bool
 | .skip,.skip=>true
 | .ret,.ret=>true
 | .region _ ops draw,.ops l=>okL P n ops ops.toList (J.flatL l) && !draw
 | .region _ ops draw,.draw s late=>draw&&Region.noSelect ops&&Zwj ops&&Nat.beq (Zx4 s) ops.size&&Znd s&&Zan P n ops late s (Array.replicate ops.size false)
 | .seq a b,.seq a' b'=>okC P n a a'&&okC P n b b'
 | .cond x a b,.cond x' a' b'=>oeq x x'&&okC P n a a'&&okC P n b b'
 | .block id c,.block id' c'=>Nat.beq id id'&&okC P n c c'
 | .loop c,.loop c'=>okC P n c c'
 | .exit id,.exit id'=>Nat.beq id id'
 | .scope c,.scope c'=>okC P n c c'
 | .label _,.lbl=>true
 | .rangeFunc g ps a b,.rng x ps' a' b'=>oeq g x&&(ps.toList==ps')&&okC P n a a'&&okC P n b b'
 | _,.raw=>true
 | _,_=>false
abbrev TS:=List (Nat×Value)
def look:TS->Nat->Option Value
 | [],_=>none
 | (i,v)::r,j=>bif Nat.beq i j then some v else look r j
def ev (t:TS):Operand->Option Value
 | .tmp j=>look t j
 | .const v=>some v
 | .global g=>some (.pointer (some ⟨g,0,none⟩))
 | .func f=>some (.func (.func f) #[] #[])
def evL (t:TS):List Operand->Option (List Value)
 | []=>some []
 | x::r=>match ev t x,evL t r with
  | some v,some l=>some (v::l)
  | _,_=>none
structure Zei (n:Nat) (t:TS) (a:Act):Prop where
 size:a.tmps.size=n
 defers:a.defers = []
 look : ∀ j v,look t j=some v->a.tmps.getD j undef=v
theorem Zei.ev {n:Nat} {t:TS} {a:Act} (h:Zei n t a) {x:Operand} {v:Value} (hx:ev t x=some v):a.eval x=v:=by
 cases x with
 | tmp j=>exact h.look j v hx
 | const u=>exact Option.some.inj hx
 | global g=>exact Option.some.inj hx
 | func f=>exact Option.some.inj hx
theorem Zei.evL {n:Nat} {t:TS} {a:Act} (h:Zei n t a) : ∀ {l:List Operand} {vs:List Value},Sx.evL t l=some vs->l.map a.eval=vs
 | [],vs,hv=>by simp only [Sx.evL,Option.some.injEq] at hv; subst hv; rfl
 | x::r,vs,hv=>by
  simp only [Sx.evL] at hv
  split at hv
  ·rename_i v l h1 h2
   injection hv with hv; subst hv
   simp [h.ev h1,Zei.evL h h2]
  ·cases hv
theorem Zxy {a:Array Value} {d j:Nat} {v:Value} (hd:d<a.size):(a.setIfInBounds d v).getD j undef=if j=d then v else a.getD j undef:=by
 simp only [Array.getD_eq_getD_getElem?,Array.getElem?_setIfInBounds]
 by_cases h:j=d
 ·subst h; simp [hd]
 ·rw [if_neg (fun e=>h e.symm),if_neg h]
theorem Zei.put {n:Nat} {t:TS} {a:Act} (h:Zei n t a) {d:Nat} (hd:d<n) (v:Value):Zei n ((d,v)::t) (a.put (some d) v) where
 size:=by simp [Act.put,h.size]
 defers:=h.defers
 look:=by
  intro j u hu
  simp only [Sx.look] at hu
  simp only [Act.put]
  rw [Zxy (by rw [h.size]; exact hd)]
  by_cases e:Nat.beq d j=true
  ·rw [e,cond_true] at hu
   rw [Nat.beq_eq] at e; subst e
   rw [if_pos rfl]; exact Option.some.inj hu
  ·rw [Bool.not_eq_true] at e; rw [e,cond_false] at hu
   rw [if_neg (by intro e'; subst e'; rw [Nat.beq_refl] at e; cases e)]
   exact h.look j u hu
theorem Zei.drop {n:Nat} {t t':TS} {a:Act} (h:Zei n t a) (hs : ∀ j v,Sx.look t' j=some v->Sx.look t j=some v):Zei n t' a :=
 ⟨h.size,h.defers,fun j v hv=>h.look j v (hs j v hv)⟩
structure Zd where
 b:Nat
 o:Obj
abbrev ck (b:Nat) (T:TypeId) (s:List Seg):Zd:=⟨b,.cells (cells s).toArray T (0,0)⟩
structure Frame (W0:World) (S:List Nat) (w:World):Prop where
 os:w.os=W0.os
 tape:w.tape=W0.tape
 output:w.output=W0.output
 size:W0.heap.size<=w.heap.size
 block : ∀ k,k<W0.heap.size->k∉S->w.heap[k]? = W0.heap[k]?
structure Sat (W0:World) (S:List Nat) (m:List Zd) (w:World):Prop where
 fr:Frame W0 S w
 own : ∀ c∈m,w.heap[c.b]? = some c.o
 base : ∀ c∈m,W0.heap.size<=c.b∨c.b∈S
 dist:(m.map (·.b)).Nodup
theorem Frame.of_below {W0:World} {S:List Nat} {w w':World} (h:Frame W0 S w) (hb:Below w.heap.size w w'):Frame W0 S w' :=
 ⟨hb.os.trans h.os,hb.tape.trans h.tape,hb.output.trans h.output,Nat.le_trans h.size hb.size,
  fun k hk hS=>(hb.block k (Nat.lt_of_lt_of_le hk h.size)).trans (h.block k hk hS)⟩
theorem Sat.of_below {W0:World} {S:List Nat} {m:List Zd} {w w':World} (h:Sat W0 S m w) (hb:Below w.heap.size w w'):Sat W0 S m w' :=
 ⟨h.fr.of_below hb,fun c hc=>by
  have h1:=h.own c hc
  have h2:c.b<w.heap.size:=(Array.getElem?_eq_some_iff.1 h1).1
  rw [hb.block _ h2]; exact h1,h.base,h.dist⟩
theorem Sat.drew {W0:World} {S:List Nat} {m:List Zd} {w:World} (h:Sat W0 S m w):Sat W0 S m { w with drawn:=w.drawn+1 } :=
 h.of_below (Below.drew (Below.refl _ _))
theorem Frame.below {W0 w:World} (h:Frame W0 [] w):Below W0.heap.size W0 w :=
 ⟨h.os,h.tape,h.output,h.size,fun k hk=>h.block k hk (by simp)⟩
structure Cfg where
 P:Program
 n:Nat
 W0:World
 S:List Nat
def Q1 (C:Cfg) (m:List Zd) (t:TS) (i:IOp) (v:Value):Prop :=
 ∀ (o:Oper),Za4 C.P o i=true->∀ a,Zei C.n t a->∀ w,Sat C.W0 C.S m w->o.quietAt C.P a (fun w'=>Below w.heap.size w w') w v
abbrev KN:=TS->List Zd->Prop
def Cont (C:Cfg) (kn:KN) (Q:Act->World->Prop):Prop:=∀ t m,kn t m->∀ a w,Zei C.n t a->Sat C.W0 C.S m w->Q a w
def FW (ρ:Option Nat):Fence:={ Fence.wide with round:=ρ }
theorem Z0af {ρ:Option Nat} {n:Nat} {P:Program} {f:FuncId} {args:Array Value} {w:World} {R:Ending->World->Prop} (h:Calls P f args w R):CallsIn (FW ρ) n P f args w R:=by
 have h1:CallsIn Fence.wide n P f args w R:=callsIn_wide.2 h
 exact h1
theorem Z0oq {ρ:Option Nat} {n:Nat} {P:Program} {row:String} {args:Array Value} {w:World} {R:Value->World->Prop} (h:Rows P row args w R):RowsIn (FW ρ) n P row args w R:=by
 intro c cs _
 obtain ⟨v,w',h1,h2⟩:=h c cs
 exact ⟨v,w',h1,stepsIn_wide.2 h2⟩
theorem Zmr {ρ:Option Nat} {n:Nat} {P:Program} {o:Oper} {a:Act} {w:World} {K:Act->World->Prop} {Q:Exit->Act->World->Prop} (hd : ∀ c,o.op ≠ .defer c) (h:o.wp P a w K Q):o.wpIn (FW ρ) n P a w K Q:=by
 refine ⟨fun _ _=>trivial,?_⟩
 rw [Oper.semAt_eq _ _ _ hd]
 unfold Oper.wp at h
 generalize (execOp a.eval o).run P w=r at *
 cases r with
 | ok x w' =>
  cases x <;> simp only [Oper.upon,Oper.uponIn] at h ⊢ <;> first
   | exact h
   | exact ⟨fun e=>(by simp [FW,Fence.wide] at e),Z0af (h.mono fun e w'' he=>by cases e <;> exact he)⟩
   | exact ⟨fun e=>(by simp [FW,Fence.wide] at e),Z0oq h⟩
 | halt x w'=>cases x <;> simp only [Oper.upon,Oper.uponIn] at h ⊢ <;> exact h
def WL (C:Cfg) (l:List Zqe) (t:TS) (m:List Zd) (kn:KN):Prop :=
 ∀ (ops:Array Oper) (lo:List Oper),okL C.P C.n ops lo l=true->∀ (ρ:Option Nat) (fu:Nat) Q a w,Zei C.n t a->Sat C.W0 C.S m w->Cont C kn (Q .normal)->wpListIn (FW ρ) fu C.P ops Q lo a w
structure KE where
 brk:List (Nat×KN)
 ret:KN
 pan:List PanicEntry->KN
abbrev noP:List PanicEntry->KN:=fun _ _ _=>False
def Zwf:List (Nat×KN)->Nat->Option KN
 | [],_=>none
 | (i,k)::r,j=>bif Nat.beq i j then some k else Zwf r j
structure Z0pm (C:Cfg) (kn:KN) (ke:KE) (Q:Exit->Act->World->Prop):Prop where
 n:Cont C kn (Q .normal)
 b : ∀ id k,Zwf ke.brk id=some k->Cont C k (Q (.exit id))
 r:Cont C ke.ret (Q .ret)
 p : ∀ ch,Cont C (ke.pan ch) (Q (.panic ch))
def WC (C:Cfg) (c:IC) (t:TS) (m:List Zd) (kn:KN) (ke:KE):Prop :=
 C.P.follows .mixedOrders=true->∀ c0,okC C.P C.n c0 c=true->∀ (ρ:Option Nat) (fu:Nat) Q a w,Zei C.n t a->Sat C.W0 C.S m w->Z0pm C kn ke Q->c0.wpIn (FW ρ) fu C.P Q a w
theorem Z0p8 {C:Cfg} {t:TS} {m:List Zd} {kn:KN} (h:kn t m):WL C [] t m kn:=by
 intro ops lo hok ρ fu Q a w ha hw hc
 cases lo with
 | nil=>exact hc t m h a w ha hw
 | cons o lo=>simp [okL] at hok
theorem Zgz {P:Program} {o:Oper} {a:Act} {v:Value} {w:World} {C:World->Prop} (h:o.quietAt P a C w v) {K:Act->World->Prop} {Q:Exit->Act->World->Prop} (hw:C w) (hK : ∀ w',C w'->K (a.put o.dst v) w'):o.wp P a w K Q:=by
 unfold Oper.quietAt at h
 unfold Oper.wp
 generalize (execOp a.eval o).run P w=r at *
 cases r with
 | ok n w' =>
  cases n <;> simp only [Oper.quietUpon] at h <;> simp only [Oper.upon]
  case value u=>obtain ⟨rfl,rfl⟩:=h; exact hK _ hw
  case skip=>obtain ⟨rfl,rfl⟩:=h; exact hK _ hw
  case enter f args =>
   obtain ⟨rfl,hc⟩:=h
   exact hc.mono fun e w'' ⟨he,hw''⟩=>by subst he; exact hK _ hw''
 | halt x w'=>simp only [Oper.quietUpon] at h
theorem Z5f {n:Nat} {x:Option Nat} {d:Nat} (h:okD n x (some d)=true):x=some d/\d<n:=by
 cases x with
 | none=>simp [okD] at h
 | some a =>
  simp only [okD,Bool.and_eq_true,Nat.beq_eq] at h
  exact ⟨by rw [h.1],by simpa [Nat.blt_eq] using h.2⟩
theorem Z06k {n:Nat} {x:Option Nat} (h:okD n x none=true):x=none:=by
 cases x with
 | none=>rfl
 | some a=>simp [okD] at h
theorem Z7e {ops:Array Oper} {x:Option (Nat×Bool)} (h:Zgi ops x none=true):x=none:=by
 cases x with
 | none=>rfl
 | some a=>simp [Zgi] at h
theorem Z90 {o:Oper} {y:Nat->Option Bool} (h:o.guard=none):Region.wanted o y=true:=by simp [Region.wanted,h]
theorem Zne {ops:Array Oper} {o:Oper} {tc:Nat} {want c:Bool} {n:Nat} {t:TS} {a:Act} (hg:Zgi ops o.guard (some (tc,want))=true)
  (ha:Zei n t a) (hc:look t tc=some (.bool c)):Region.wanted o (yielded ops a.tmps)=(c==want):=by
 cases hog:o.guard with
 | none=>rw [hog] at hg; simp [Zgi] at hg
 | some jw =>
  obtain ⟨j,want'⟩:=jw
  rw [hog] at hg
  simp only [Zgi,Bool.and_eq_true] at hg
  obtain ⟨h1,h2⟩:=hg
  have h1':want'=want:=by simpa using h1
  subst h1'
  cases hd:(ops[j]?).bind (·.dst) with
  | none=>rw [hd] at h2; cases h2
  | some t' =>
   rw [hd] at h2
   have h2':t'=tc:=by simpa [Nat.beq_eq] using h2
   subst h2'
   have hv:=ha.look t' _ hc
   have hget:a.tmps[t']? = some (.bool c):=by
    rw [Array.getD_eq_getD_getElem?] at hv
    cases he:a.tmps[t']? with
    | none=>rw [he] at hv; simp [undef] at hv
    | some u=>rw [he] at hv; simp at hv; rw [hv]
   simp only [Region.wanted,hog,yielded,hd,Option.bind_some,hget]
   cases c <;> cases want' <;> rfl
section
variable {C:Cfg} {t:TS} {m:List Zd} {kn:KN} {r:List Zqe} {op:IOp}
def EF (C:Cfg) (m:List Zd) (t:TS) (d:Option Nat) (op:IOp) (K:KN):Prop :=
 ∀ (o:Oper),Za4 C.P o op=true->okD C.n o.dst d=true->∀ a,Zei C.n t a->∀ w,Sat C.W0 C.S m w->o.wp C.P a w (fun a' w'=>∃ t' m',K t' m'/\Zei C.n t' a'/\Sat C.W0 C.S m' w') (fun _ _ _=>False)
theorem Z09d {P:Program} {o:Oper} {a:Act} {w:World} {K:Act->World->Prop} {Q:Exit->Act->World->Prop} (h:o.wp P a w K (fun _ _ _=>False)):o.wp P a w K Q:=by
 unfold Oper.wp at *
 generalize (execOp a.eval o).run P w=r at *
 cases r with
 | ok n w' =>
  cases n <;> simp only [Oper.upon] at h ⊢ <;> first
   | exact h
   | exact Calls.mono h (fun e w'' he=>by
     cases e with
     | returned v=>exact he
     | panicked c=>exact he.elim
     | outgrown=>obtain ⟨_,_,h⟩:=he; exact h.elim)
 | halt x w'=>cases x <;> simp only [Oper.upon] at h ⊢ <;> first | exact h.elim | exact h
theorem wl_e {d:Option Nat} (h:EF C m t d op (fun t' m'=>WL C r t' m' kn)):WL C (⟨d,none,op⟩::r) t m kn:=by
 intro ops lo hok ρ fu Q a w ha hw hc
 cases lo with
 | nil=>simp [okL] at hok
 | cons o lo =>
  simp only [okL,Bool.and_eq_true] at hok
  obtain ⟨⟨⟨hd,hg⟩,ho⟩,hr⟩:=hok
  have hg':=Z7e hg
  unfold wpListIn
  rw [if_pos (Z90 hg')]
  refine Zmr (Z02r ho) (Oper.wp_mono ?_ (Z09d (h o ho hd a ha w hw)))
  rintro a' w' ⟨t',m',hk,ha',hw'⟩
  exact hk ops lo hr ρ fu Q a' w' ha' hw' hc
def YS (P:Program) (ops:Array Oper) (D:World->Prop) (o:Oper) (v:Value) (a:Act):Prop :=
 (Region.wanted o (yielded ops a.tmps)=true /\ ∀ w,D w->o.quietAt P a (fun w'=>Below w.heap.size w w') w v) ∨
 (Region.wanted o (yielded ops a.tmps)=false/\v=undef)
def Zkp (P:Program) (ops:Array Oper) (D:World->Prop):List Oper->(Act->Prop)->(Act->Prop)->Prop
 | [],A,K=>∀ a,A a->K a
 | o::r,A,K=>∃ v,(∀ a,A a->YS P ops D o v a)/\Zkp P ops D r (fun a'=>∃ a,A a/\a'=a.put o.dst v) K
def QR (C:Cfg) (m:List Zd) (t:TS) (l:List Zqe) (pre pre':TS):Prop :=
 ∀ (ops:Array Oper) (lo:List Oper),okL C.P C.n ops lo l=true->Zkp C.P ops (Sat C.W0 C.S m) lo (Zei C.n (pre++t)) (Zei C.n (pre'++t))
theorem Zkp.mono {P:Program} {ops:Array Oper} {D:World->Prop} {K K':Act->Prop} (hK : ∀ a,K a->K' a) : ∀ {l:List Oper} {A:Act->Prop},Zkp P ops D l A K->Zkp P ops D l A K'
 | [],_,h=>fun a ha=>hK _ (h a ha)
 | _::_,_,⟨v,h1,h2⟩=>⟨v,h1,Zkp.mono hK h2⟩
theorem Zkp.sub {P:Program} {ops:Array Oper} {D:World->Prop} {K:Act->Prop} : ∀ {l:List Oper} {A A':Act->Prop},(∀ a,A' a->A a)->Zkp P ops D l A K->Zkp P ops D l A' K
 | [],_,_,hA,h=>fun a ha=>h _ (hA a ha)
 | _::_,_,_,hA,⟨v,h1,h2⟩=>⟨v,fun a ha=>h1 a (hA a ha),Zkp.sub (fun a' ⟨a,ha,e⟩=>⟨a,hA a ha,e⟩) h2⟩
theorem Zkp.append {P:Program} {ops:Array Oper} {D:World->Prop} {K1 K:Act->Prop} : ∀ {l1 l2:List Oper} {A:Act->Prop},Zkp P ops D l1 A K1->Zkp P ops D l2 K1 K->Zkp P ops D (l1++l2) A K
 | [],_,_,h1,h2=>Zkp.sub h1 h2
 | _::_,_,_,⟨v,h1,h2⟩,h3=>⟨v,h1,Zkp.append h2 h3⟩
theorem Zj7 {P:Program} {n:Nat} {ops:Array Oper} : ∀ {l1 l2:List Zqe} {lo:List Oper},okL P n ops lo (l1++l2)=true->∃ lo1 lo2,lo=lo1++lo2/\okL P n ops lo1 l1=true/\okL P n ops lo2 l2=true
 | [],l2,lo,h=>⟨[],lo,rfl,rfl,h⟩
 | i::l1,l2,lo,h=>by
  cases lo with
  | nil=>simp [okL] at h
  | cons o lo =>
   simp only [List.cons_append,okL,Bool.and_eq_true] at h
   obtain ⟨h1,h2⟩:=h
   obtain ⟨lo1,lo2,rfl,h3,h4⟩:=Zj7 h2
   exact ⟨o::lo1,lo2,rfl,by simp only [okL,Bool.and_eq_true]; exact ⟨h1,h3⟩,h4⟩
theorem Z091 {pre:TS}:QR C m t [] pre pre:=by
 intro ops lo hok
 cases lo with
 | nil=>exact fun a ha=>ha
 | cons o lo=>simp [okL] at hok
theorem Z038 {l1 l2:List Zqe} {pre pre1 pre2:TS} (h1:QR C m t l1 pre pre1) (h2:QR C m t l2 pre1 pre2):QR C m t (l1++l2) pre pre2:=by
 intro ops lo hok
 obtain ⟨lo1,lo2,rfl,ok1,ok2⟩:=Zj7 hok
 exact Zkp.append (h1 ops lo1 ok1) (h2 ops lo2 ok2)
theorem Z0m6 {d:Nat} {pre pre':TS} (v:Value) (h1:Q1 C m (pre++t) op v) (h:QR C m t r ((d,v)::pre) pre'):QR C m t (⟨some d,none,op⟩::r) pre pre':=by
 intro ops lo hok
 cases lo with
 | nil=>simp [okL] at hok
 | cons o lo =>
  simp only [okL,Bool.and_eq_true] at hok
  obtain ⟨⟨⟨hd,hg⟩,ho⟩,hr⟩:=hok
  obtain ⟨hd1,hd2⟩:=Z5f hd
  refine ⟨v,fun a ha=>.inl ⟨Z90 (Z7e hg),fun w hw=>h1 o ho a ha w hw⟩,?_⟩
  rw [hd1]
  exact Zkp.sub (fun a' ⟨a,ha,e⟩=>e▸ha.put hd2 v) (h ops lo hr)
theorem Z0m5 {d tc:Nat} {want:Bool} {pre pre':TS} (v:Value) (hc:look (pre++t) tc=some (.bool want)) (h1:Q1 C m (pre++t) op v) (h:QR C m t r ((d,v)::pre) pre'):QR C m t (⟨some d,some (tc,want),op⟩::r) pre pre':=by
 intro ops lo hok
 cases lo with
 | nil=>simp [okL] at hok
 | cons o lo =>
  simp only [okL,Bool.and_eq_true] at hok
  obtain ⟨⟨⟨hd,hg⟩,ho⟩,hr⟩:=hok
  obtain ⟨hd1,hd2⟩:=Z5f hd
  refine ⟨v,fun a ha=>.inl ⟨by rw [Zne hg ha hc]; simp,fun w hw=>h1 o ho a ha w hw⟩,?_⟩
  rw [hd1]
  exact Zkp.sub (fun a' ⟨a,ha,e⟩=>e▸ha.put hd2 v) (h ops lo hr)
def Znc (want:Bool):List (Nat×Bool)->List Zqe->Bool
 | _,[]=>true
 | g,i::r=>match i.d,i.g with
  | some d,some (tc,w)=>g.any (fun p=>Nat.beq p.1 tc&&(p.2==w))&&Znc want ((d,true)::(d,false)::g) r
  | _,_=>false
def dsts:List Zqe->List Nat
 | []=>[]
 | i::r=>match i.d with
  | some d=>d::dsts r
  | none=>dsts r
def Zrc (t:TS) (l:List Nat):Bool:=l.all fun d=>(look t d).isNone
theorem Z089 {ops:Array Oper} {o:Oper} {tc:Nat} {want:Bool} {a:Act} (hg:Zgi ops o.guard (some (tc,want))=true)
  (hc:a.tmps.getD tc undef ≠ .bool want):Region.wanted o (yielded ops a.tmps)=false:=by
 cases hog:o.guard with
 | none=>rw [hog] at hg; simp [Zgi] at hg
 | some jw =>
  obtain ⟨j,want'⟩:=jw
  rw [hog] at hg
  simp only [Zgi,Bool.and_eq_true] at hg
  obtain ⟨h1,h2⟩:=hg
  have h1':want'=want:=by simpa using h1
  subst h1'
  cases hd:(ops[j]?).bind (·.dst) with
  | none=>rw [hd] at h2; cases h2
  | some t' =>
   rw [hd] at h2
   have h2':t'=tc:=by simpa [Nat.beq_eq] using h2
   subst h2'
   simp only [Region.wanted,hog,yielded,hd,Option.bind_some]
   cases he:a.tmps[t']? with
   | none=>rfl
   | some u =>
    rw [Array.getD_eq_getD_getElem?,he] at hc
    cases u <;> first | rfl | skip
    rename_i b
    simp only [Option.getD_some,ne_eq,Value.bool.injEq] at hc
    cases b <;> cases want' <;> simp_all
def Kept (n:Nat) (l:List Nat) (a a':Act):Prop:=a'.tmps.size=n/\a'.defers = [] /\ ∀ j,j∉l->a'.tmps.getD j undef=a.tmps.getD j undef
theorem Zyy {ops:Array Oper} {D:World->Prop} {want:Bool} : ∀ (l:List Zqe) (g:List (Nat×Bool)) (lo:List Oper) (A:Act->Prop),okL C.P C.n ops lo l=true->Znc want g l=true ->
  (∀ a,A a->(∀ p∈g,a.tmps.getD p.1 undef ≠ .bool p.2)/\a.tmps.size=C.n/\a.defers = []) ->
  Zkp C.P ops D lo A (fun a'=>∃ a,A a/\Kept C.n (dsts l) a a')
 | [],g,lo,A,hok,_,hA=>by
  cases lo with
  | nil=>exact fun a ha=>⟨a,ha,(hA a ha).2.1,(hA a ha).2.2,fun _ _=>rfl⟩
  | cons o lo=>simp [okL] at hok
 | i::r,g,lo,A,hok,hsk,hA=>by
  cases lo with
  | nil=>simp [okL] at hok
  | cons o lo =>
   obtain ⟨di,gi,opi⟩:=i
   simp only [okL,Bool.and_eq_true] at hok
   obtain ⟨⟨⟨hd,hgd⟩,ho⟩,hr⟩:=hok
   simp only [Znc] at hsk
   split at hsk
   ·rename_i _ _ d tc w
    simp only [Bool.and_eq_true] at hsk
    obtain ⟨hsk1,hsk2⟩:=hsk
    obtain ⟨hd1,hd2⟩:=Z5f hd
    have hun : ∀ a,A a->Region.wanted o (yielded ops a.tmps)=false:=by
     intro a ha
     obtain ⟨p,hp,hpe⟩:=List.any_eq_true.1 hsk1
     simp only [Bool.and_eq_true,Nat.beq_eq,beq_iff_eq] at hpe
     obtain ⟨q1,q2⟩:=hpe
     have:=(hA a ha).1 p hp
     rw [q1,q2] at this
     exact Z089 hgd this
    refine ⟨undef,fun a ha=>.inr ⟨hun a ha,rfl⟩,?_⟩
    rw [hd1]
    have hget : ∀ a,A a->∀ j,(a.put (some d) undef).tmps.getD j undef=if j=d then undef else a.tmps.getD j undef:=fun a ha j=>Zxy (by rw [(hA a ha).2.1]; exact hd2)
    refine Zkp.mono ?_ (Zyy r ((d,true)::(d,false)::g) lo _ hr hsk2 ?_)
    ·rintro a' ⟨a1,⟨a,ha,rfl⟩,h1,h2,h3⟩
     refine ⟨a,ha,h1,h2,fun j hj=>?_⟩
     simp only [dsts,List.mem_cons,not_or] at hj
     rw [h3 j hj.2,hget a ha,if_neg hj.1]
    ·rintro a1 ⟨a,ha,rfl⟩
     refine ⟨?_,by simp [Act.put,(hA a ha).2.1],(hA a ha).2.2⟩
     intro p hp
     rw [hget a ha]
     by_cases e:p.1=d
     ·rw [if_pos e]; simp [undef]
     ·rw [if_neg e]
      simp only [List.mem_cons] at hp
      rcases hp with rfl | rfl | hp
      ·exact absurd rfl e
      ·exact absurd rfl e
      ·exact (hA a ha).1 p hp
   ·cases hsk
def Zdd (pre t:TS):Bool:=pre.all fun p=>(look t p.1).isNone
theorem Zwg {pre t:TS} {j:Nat} {u:Value} (hk:Zdd pre t=true) (h:look t j=some u):look (pre++t) j=some u:=by
 induction pre with
 | nil=>exact h
 | cons p r ih =>
  simp only [Zdd,List.all_cons,Bool.and_eq_true] at hk
  simp only [Sx.look,List.cons_append]
  by_cases e:Nat.beq p.1 j=true
  ·rw [Nat.beq_eq] at e; subst e
   rw [h] at hk; simp at hk
  ·rw [Bool.not_eq_true] at e; rw [e,cond_false]; exact ih hk.2
theorem Zzn {t:TS} {l:List Nat} {j:Nat} {u:Value} (hf:Zrc t l=true) (h:look t j=some u):j∉l:=by
 intro hj
 have:=List.all_eq_true.1 hf j hj
 rw [h] at this; simp at this
theorem Z02x {t:TS} {tc:Operand} {a b:Operand} {c:Bool} {u v:Value} (hc:ev t tc=some (.bool c)) (ha:c=true->ev t a=some v) (hb:c=false->ev t b=some v):Q1 C m t (.pick tc a b) v:=by
 intro o ho act hact w hw
 simp only [Za4] at ho
 split at ho
 ·rename_i c' a' b' heq
  simp only [Bool.and_eq_true] at ho
  obtain ⟨⟨h1,h2⟩,h3⟩:=ho
  have h1:=Z0m h1; have h2:=Z0m h2; have h3:=Z0m h3
  subst h1; subst h2; subst h3
  have e1:=hact.ev hc
  unfold Oper.quietAt
  simp only [execOp,heq,e1,asBool,Sem.run_bind,Sem.run_pure,Result.andThen_ok]
  cases c
  ·simp [Oper.quietUpon,hact.ev (hb rfl)]
  ·simp [Oper.quietUpon,hact.ev (ha rfl)]
 ·cases ho
theorem Z0c7 {or:Bool} {tc d:Nat} {g:Option (Nat×Bool)} {grp:List Zqe} {y:Operand} {c v:Bool} {pre pre1:TS} (hc:look (pre++t) tc=some (.bool c))
  (hg : ∀ p,g=some p->look (pre++t) p.1=some (.bool p.2))
  (hsk:Znc true [(tc,!or)] grp=true) (hfr:Zrc (pre++t) (dsts grp)=true) (hk:Zdd pre1 (pre++t)=true)
  (hrun:c = !or->QR C m ((tc,.bool (!or))::(pre++t)) grp [] pre1) (hy:c = !or->ev (pre1++((tc,.bool (!or))::(pre++t))) y=some (.bool v)) :
  QR C m t (grp ++ [⟨some d,g,bif or then .pick (.tmp tc) (.const (.bool true)) y else .pick (.tmp tc) y (.const (.bool false))⟩]) pre ((d,.bool (bif or then c||v else c&&v))::pre):=by
 intro ops lo hok
 obtain ⟨lo1,lo2,rfl,ok1,ok2⟩:=Zj7 hok
 have last : ∀ (t':TS),(∀ j u,look (pre++t) j=some u->look t' j=some u)->look t' tc=some (.bool c)->(c = !or->ev t' y=some (.bool v)) ->
   Zkp C.P ops (Sat C.W0 C.S m) lo2 (Zei C.n t') (Zei C.n (((d,.bool (bif or then c||v else c&&v))::pre)++t)):=by
  intro t' hsub htc hyv
  cases lo2 with
  | nil=>simp [okL] at ok2
  | cons o lo2 =>
   simp only [okL,Bool.and_eq_true] at ok2
   obtain ⟨⟨⟨hd,hgd⟩,ho⟩,hr⟩:=ok2
   cases lo2 with
   | cons _ _=>simp [okL] at hr
   | nil =>
    obtain ⟨hd1,hd2⟩:=Z5f hd
    refine ⟨.bool (bif or then c||v else c&&v),fun a' ha'=>.inl ⟨?_,fun w hw=>?_⟩,?_⟩
    ·cases g with
     | none=>exact Z90 (Z7e hgd)
     | some p=>rw [Zne (want:=p.2) (tc:=p.1) hgd ha' (hsub _ _ (hg p rfl))]; simp
    ·cases or with
     | true =>
      refine Z02x (C:=C) (m:=m) (u:=.bool true) (t:=t') (tc:=.tmp tc) (a:=.const (.bool true)) (b:=y) htc ?_ ?_ o ho a' ha' w hw
      ·intro e; subst e; rfl
      ·intro e; subst e; simpa using hyv rfl
     | false =>
      refine Z02x (C:=C) (m:=m) (u:=.bool true) (t:=t') (tc:=.tmp tc) (a:=y) (b:=.const (.bool false)) htc ?_ ?_ o ho a' ha' w hw
      ·intro e; subst e; simpa using hyv rfl
      ·intro e; subst e; rfl
    ·rw [hd1]
     rintro a1 ⟨a',ha',rfl⟩
     exact (ha'.put hd2 _).drop (by
      intro j u hj
      simp only [List.cons_append,Sx.look] at hj ⊢
      by_cases e:Nat.beq d j=true
      ·rw [e,cond_true] at hj ⊢; exact hj
      ·rw [Bool.not_eq_true] at e; rw [e,cond_false] at hj ⊢; exact hsub j u hj)
 by_cases hcw:c = !or
 ·have ha1 : ∀ a,Zei C.n (pre++t) a->Zei C.n ([]++((tc,.bool (!or))::(pre++t))) a:=fun a ha=>ha.drop (by
   intro j u hj
   simp only [List.nil_append,Sx.look] at hj
   by_cases e:Nat.beq tc j=true
   ·rw [e,cond_true] at hj
    rw [Nat.beq_eq] at e; subst e
    rw [hc,hcw]; exact hj
   ·rw [Bool.not_eq_true] at e; rw [e,cond_false] at hj; exact hj)
  have hkk : ∀ j u,look (pre++t) j=some u->look (pre1++((tc,.bool (!or))::(pre++t))) j=some u:=by
   intro j u hj
   have h2:look ((tc,.bool (!or))::(pre++t)) j=some u:=by
    simp only [Sx.look]
    by_cases e:Nat.beq tc j=true
    ·rw [e,cond_true]
     rw [Nat.beq_eq] at e; subst e
     rw [hc,hcw] at hj; exact hj
    ·rw [Bool.not_eq_true] at e; rw [e,cond_false]; exact hj
   refine Zwg ?_ h2
   refine List.all_eq_true.2 fun p hp=>?_
   have h3:=List.all_eq_true.1 hk p hp
   simp only [Sx.look]
   by_cases e:Nat.beq tc p.1=true
   ·rw [Nat.beq_eq] at e; subst e
    rw [hc] at h3; simp at h3
   ·rw [Bool.not_eq_true] at e; rw [e,cond_false]; exact h3
  exact Zkp.append (Zkp.sub ha1 (hrun hcw ops lo1 ok1)) (last _ hkk (hkk tc _ hc) hy)
 ·refine Zkp.append (Zyy grp [(tc,!or)] lo1 _ ok1 hsk ?_) (Zkp.sub ?_ (last (pre++t) (fun _ _ h=>h) hc (fun e=>absurd e hcw)))
  ·intro a ha
   refine ⟨?_,ha.size,ha.defers⟩
   intro p hp
   simp only [List.mem_singleton] at hp
   subst hp
   rw [ha.look tc _ hc]
   intro e; injection e with e; exact hcw e
  ·rintro a' ⟨a,ha,h1,h2,h3⟩
   refine ⟨h1,h2,fun j u hj=>?_⟩
   rw [h3 j (Zzn hfr hj)]
   exact ha.look j u hj
theorem Z04t {l1 l2:List Zqe} {pre:TS} (h1:QR C m t l1 [] pre) (h2:WL C l2 (pre++t) m kn):WL C (l1++l2) t m kn:=by
 intro ops lo hok ρ fu Q a w ha hw hc
 obtain ⟨lo1,lo2,rfl,ok1,ok2⟩:=Zj7 hok
 have key : ∀ (l:List Oper) (A:Act->Prop),(∀ o∈l,∀ c,o.op ≠ .defer c)->Zkp C.P ops (Sat C.W0 C.S m) l A (Zei C.n (pre++t))->∀ a w,A a->Sat C.W0 C.S m w->wpListIn (FW ρ) fu C.P ops Q (l++lo2) a w:=by
  intro l
  induction l with
  | nil=>intro A _ hr a w hA hw; exact h2 ops lo2 ok2 ρ fu Q a w (hr a hA) hw hc
  | cons o l ih =>
   intro A hnd hr a w hA hw
   have hnd':=fun o' ho'=>hnd o' (List.mem_cons_of_mem _ ho')
   obtain ⟨v,h1,h2⟩:=hr
   rw [List.cons_append]
   unfold wpListIn
   rcases h1 a hA with ⟨h3,h4⟩ | ⟨h3,rfl⟩
   ·rw [if_pos h3]
    exact Zmr (hnd o (List.mem_cons_self ..)) (Zgz (h4 w hw) (Below.refl _ _) (fun w' hb=>ih _ hnd' h2 _ w' ⟨a,hA,rfl⟩ (hw.of_below hb)))
   ·rw [if_neg (by rw [h3]; simp)]
    exact ⟨fun _ _=>trivial,ih _ hnd' h2 _ w ⟨a,hA,rfl⟩ hw⟩
 exact key lo1 _ (Z08r ok1) (h1 ops lo1 ok1) a w (by simpa using ha) hw
def WJ (C:Cfg) (l:List J) (t:TS) (m:List Zd) (kn:KN):Prop:=WL C (J.flatL l) t m kn
def QJ (C:Cfg) (m:List Zd) (t:TS) (l:List J) (pre pre':TS):Prop:=QR C m t (J.flatL l) pre pre'
theorem Z2 (h:kn t m):WJ C [] t m kn:=by
 unfold WJ; rw [J.flatL]; exact Z0p8 h
theorem Zq {d:Nat} {r:List J} (v:Value) (h1:Q1 C m t op v) (h:WJ C r ((d,v)::t) m kn):WJ C (.op ⟨some d,none,op⟩::r) t m kn:=by
 unfold WJ at *; rw [J.flatL,J.flat]
 exact Z04t (l1:=[⟨some d,none,op⟩]) (pre:=[(d,v)]) (Z0m6 v h1 Z091) h
theorem Za {d:Option Nat} {r:List J} (h:EF C m t d op (fun t' m'=>WJ C r t' m' kn)):WJ C (.op ⟨d,none,op⟩::r) t m kn:=by
 unfold WJ at *; rw [J.flatL,J.flat]
 exact wl_e h
theorem Z04s {tc d:Nat} {grp r:List J} {y:Operand} {c v:Bool} {pre:TS} (hc:look t tc=some (.bool c))
  (hsk:Znc true [(tc,false)] (J.flatL grp)=true) (hfr:Zrc t (dsts (J.flatL grp))=true)
  (hrun:c=false->QJ C m ((tc,.bool false)::t) grp [] pre) (hy:c=false->ev (pre++((tc,.bool false)::t)) y=some (.bool v)) (hk:Zdd pre t=true)
  (h:WJ C r ((d,.bool (c||v))::t) m kn):WJ C (.lg true tc d none grp y::r) t m kn:=by
 unfold WJ QJ at *; rw [J.flatL,J.flat]
 exact Z04t (pre:=[(d,.bool (c||v))]) (Z0c7 (or:=true) (pre:=[]) (c:=c) (v:=v) hc (fun _ h=>by cases h) hsk hfr hk hrun hy) h
theorem Ziy {tc d:Nat} {grp r:List J} {y:Operand} {c v:Bool} {pre:TS} (hc:look t tc=some (.bool c))
  (hsk:Znc true [(tc,true)] (J.flatL grp)=true) (hfr:Zrc t (dsts (J.flatL grp))=true)
  (hrun:c=true->QJ C m ((tc,.bool true)::t) grp [] pre) (hy:c=true->ev (pre++((tc,.bool true)::t)) y=some (.bool v)) (hk:Zdd pre t=true)
  (h:WJ C r ((d,.bool (c&&v))::t) m kn):WJ C (.lg false tc d none grp y::r) t m kn:=by
 unfold WJ QJ at *; rw [J.flatL,J.flat]
 exact Z04t (pre:=[(d,.bool (c&&v))]) (Z0c7 (or:=false) (pre:=[]) (c:=c) (v:=v) hc (fun _ h=>by cases h) hsk hfr hk hrun hy) h
theorem Z8m {pre:TS}:QJ C m t [] pre pre:=by
 unfold QJ; rw [J.flatL]; exact Z091
theorem qj_q {d:Nat} {r:List J} {pre pre':TS} (v:Value) (h1:Q1 C m (pre++t) op v) (h:QJ C m t r ((d,v)::pre) pre'):QJ C m t (.op ⟨some d,none,op⟩::r) pre pre':=by
 unfold QJ at *; rw [J.flatL,J.flat]
 exact Z0m6 v h1 h
theorem Z8y {d tc:Nat} {want:Bool} {r:List J} {pre pre':TS} (hc:look (pre++t) tc=some (.bool want)) (v:Value) (h1:Q1 C m (pre++t) op v) (h:QJ C m t r ((d,v)::pre) pre') :
  QJ C m t (.op ⟨some d,some (tc,want),op⟩::r) pre pre':=by
 unfold QJ at *; rw [J.flatL,J.flat]
 exact Z0m5 v hc h1 h
theorem Z0m4 {tc d:Nat} {g:Option (Nat×Bool)} {grp r:List J} {y:Operand} {c v:Bool} {pre pre1 pre':TS} (hc:look (pre++t) tc=some (.bool c))
  (hg : ∀ p,g=some p->look (pre++t) p.1=some (.bool p.2))
  (hsk:Znc true [(tc,true)] (J.flatL grp)=true) (hfr:Zrc (pre++t) (dsts (J.flatL grp))=true)
  (hrun:c=true->QJ C m ((tc,.bool true)::(pre++t)) grp [] pre1) (hy:c=true->ev (pre1++((tc,.bool true)::(pre++t))) y=some (.bool v)) (hk:Zdd pre1 (pre++t)=true)
  (h:QJ C m t r ((d,.bool (c&&v))::pre) pre'):QJ C m t (.lg false tc d g grp y::r) pre pre':=by
 unfold QJ at *; rw [J.flatL,J.flat]
 exact Z038 (Z0c7 (or:=false) (c:=c) (v:=v) hc hg hsk hfr hk hrun hy) h
end
section
variable {C:Cfg} {t:TS} {m:List Zd} {kn:KN} {ke:KE}
theorem Zp (h:kn t m):WC C .skip t m kn ke:=by
 intro hm c0 hok ρ fu Q a w ha hw hc
 cases c0 <;> first | (exact wpIn_skip (hc.n t m h a w ha hw)) | (simp [okC] at hok)
theorem Zf (h:ke.ret t m):WC C .ret t m kn ke:=by
 intro hm c0 hok ρ fu Q a w ha hw hc
 cases c0 <;> first | (exact wpIn_ret (hc.r t m h a w ha hw)) | (simp [okC] at hok)
theorem Z08 {id:Nat} (k:KN) (hk:Zwf ke.brk id=some k) (h:k t m):WC C (.exit id) t m kn ke:=by
 intro hm c0 hok ρ fu Q a w ha hw hc
 cases c0 <;> first | (simp [okC] at hok; done) | skip
 rename_i id'
 simp only [okC,Nat.beq_eq] at hok
 subst hok
 exact wpIn_exit (hc.b id' k hk t m h a w ha hw)
theorem Z1 {l:List J} (h:WJ C l t m kn):WC C (.ops l) t m kn ke:=by
 intro hm c0 hok ρ fu Q a w ha hw hc
 cases c0 <;> first | (simp [okC] at hok; done) | skip
 rename_i id ops draw
 simp only [okC,Bool.and_eq_true,Bool.not_eq_true'] at hok
 obtain ⟨h1,h2⟩:=hok
 subst h2
 exact wpIn_region_list (h ops ops.toList h1 ρ fu Q a w ha hw hc.n)
theorem Z0 {x y:IC} (h:WC C x t m (fun t m=>WC C y t m kn ke) ke):WC C (.seq x y) t m kn ke:=by
 intro hm c0 hok ρ fu Q a w ha hw hc
 cases c0 <;> first | (simp [okC] at hok; done) | skip
 rename_i x0 y0
 simp only [okC,Bool.and_eq_true] at hok
 refine wpIn_seq (h hm x0 hok.1 ρ fu _ a w ha hw ⟨?_,?_,?_,hc.p⟩)
 ·intro t' m' h' a' w' ha' hw'
  exact h' hm y0 hok.2 ρ fu Q a' w' ha' hw' hc
 ·exact hc.b
 ·exact hc.r
theorem Z04q {x:Operand} {c:Bool} {p q:IC} (hx:ev t x=some (.bool c)) (ht:c=true->WC C p t m kn ke) (hf:c=false->WC C q t m kn ke):WC C (.cond x p q) t m kn ke:=by
 intro hm c0 hok ρ fu Q a w ha hw hc
 cases c0 <;> first | (simp [okC] at hok; done) | skip
 rename_i x0 p0 q0
 simp only [okC,Bool.and_eq_true] at hok
 obtain ⟨⟨h1,h2⟩,h3⟩:=hok
 have hx0:=Z0m h1
 subst hx0
 refine wpIn_cond (t:=c) (ha.ev hx) ?_
 cases c
 ·exact hf rfl hm q0 h3 ρ fu Q a w ha hw hc
 ·exact ht rfl hm p0 h2 ρ fu Q a w ha hw hc
theorem Zb {id:Nat} {c:IC} (h:WC C c t m kn ⟨(id,kn)::ke.brk,ke.ret,ke.pan⟩):WC C (.block id c) t m kn ke:=by
 intro hm c0 hok ρ fu Q a w ha hw hc
 cases c0 <;> first | (simp [okC] at hok; done) | skip
 rename_i id0 c1
 simp only [okC,Bool.and_eq_true,Nat.beq_eq] at hok
 obtain ⟨h1,h2⟩:=hok
 subst h1
 refine wpIn_block (h hm c1 h2 ρ fu _ a w ha hw ⟨hc.n,?_,hc.r,hc.p⟩)
 intro id' k hk t' m' h' a' w' ha' hw'
 simp only [Zwf] at hk
 simp only [Exit.inBlock]
 by_cases e:Nat.beq id0 id'=true
 ·rw [e,cond_true] at hk
  rw [Nat.beq_eq] at e; subst e
  rw [if_pos rfl]
  injection hk with hk; subst hk
  exact hc.n t' m' h' a' w' ha' hw'
 ·rw [Bool.not_eq_true] at e; rw [e,cond_false] at hk
  rw [if_neg (by intro e'; subst e'; rw [Nat.beq_refl] at e; cases e)]
  exact hc.b id' k hk t' m' h' a' w' ha' hw'
end
theorem Z0p7 {C:Cfg} {t:TS} {m:List Zd} {kn:KN} {ke:KE} (h:kn t m):WC C .lbl t m kn ke:=by
 intro hm c0 hok ρ fu Q a w ha hw hc
 cases c0 <;> first | (exact wpIn_label (hc.n t m h a w ha hw)) | (simp [okC] at hok)
theorem Zdy {P:Program} {b:Go.Frame} {a:Act} {k:List Item} {cs:List Go.Frame} {w:World} {c:Code}:step P (lone (b.atR a (.code (.scope c)::k)) cs w) = .next (lone (b.atR a (.code c :: .inScope c::k)) cs w) :=
 step_lone_go (by simp [stepG,stepG.exec,Frame.atR])
theorem Zt9 {P:Program} {b:Go.Frame} {a:Act} {k:List Item} {cs:List Go.Frame} {w:World} {c:Code}:step P (lone (b.atR a (.inScope c::k)) cs w) = .next (lone (b.atR a k) cs w) :=
 step_lone_go (by simp [stepG,stepG.exec,Frame.atR])
theorem Z00o {F:Fence} {n:Nat} {P:Program} {c:Code} {Q:Exit->Act->World->Prop} {a:Act} {w:World} (h:c.wpIn F n P (Exit.noGoto Q) a w):(Code.scope c).wpIn F n P Q a w:=by
 intro b k cs hro hb hr
 have h0:(lone (b.atR a (.code (.scope c)::k)) cs w).fenced P F:=fenced_calm hb hr rfl
 obtain ⟨e,a1,w1,hq,harr⟩:=h b (.inScope c::k) cs hro hb hr
 cases e with
 | normal=>exact ⟨.normal,a1,w1,hq,.head h0 Zdy (StepsIn.trans harr (.one (fenced_calm hb hr rfl) Zt9))⟩
 | exit id=>exact ⟨.exit id,a1,w1,hq,.of_steps (.one h0 Zdy) ⟨fun k' hk=>harr.1 k' (by simp [exitTo,hk]),fun hr2 hk=>harr.2 hr2 (by simp [exitTo,hk])⟩⟩
 | goto l=>exact hq.elim
 | ret=>exact ⟨_,a1,w1,hq,.of_steps (.one h0 Zdy) harr⟩
 | panic ch=>exact ⟨_,a1,w1,hq,.of_steps (.one h0 Zdy) harr⟩
 | outgrown=>exact ⟨_,a1,w1,hq,.of_steps (.one h0 Zdy) harr⟩
theorem Z08d {C:Cfg} {t:TS} {m:List Zd} {kn:KN} {ke:KE} {c:IC} (h:WC C c t m kn ke):WC C (.scope c) t m kn ke:=by
 intro hm c0 hok ρ fu Q a w ha hw hc
 cases c0 <;> first | (simp [okC] at hok; done) | skip
 rename_i c1
 simp only [okC] at hok
 exact Z00o (h hm c1 hok ρ fu _ a w ha hw ⟨hc.n,hc.b,hc.r,hc.p⟩)
theorem Z04w {F:Fence} {n:Nat} {P:Program} {Q:Exit->Act->World->Prop} {c:Code} {X:Type} (I:X->Act->World->Prop) (μ:X->Nat) {x0:X} {a:Act} {w:World} (h0:I x0 a w)
  (round : ∀ x a w,I x a w->c.wpIn F n P (Exit.then (fun a' w'=>∃ y,I y a' w'/\μ y<μ x) Q) a w):(Code.loop c).wpIn F n P Q a w:=by
 intro b k cs hro hb hr
 have key : ∀ j x a w,μ x=j->I x a w->∃ e a' w',Q e a' w'/\ArrivesIn (Machine.fenced P F) P (lone (b.atR a (.code c :: .inLoop c::k)) cs w) b k cs e a' w':=by
  intro j
  induction j using Nat.strongRecOn with
  | _ j ih =>
   intro x a w hn hI
   obtain ⟨e,a1,w1,hq,harr⟩:=round x a w hI b (.inLoop c::k) cs hro hb hr
   cases e with
   | normal =>
    obtain ⟨y,hI1,hlt⟩:=hq
    obtain ⟨e2,a2,w2,hq2,harr2⟩:=ih (μ y) (hn▸hlt) y a1 w1 rfl hI1
    exact ⟨e2,a2,w2,hq2,.of_steps (StepsIn.trans harr (.one (fenced_calm hb hr rfl) stepR_inLoop)) harr2⟩
   | exit id=>exact ⟨_,a1,w1,hq,.pass (x:=.inLoop c) rfl (fun _ _=>.inl (by simp)) harr⟩
   | goto l=>exact ⟨_,a1,w1,hq,.pass (x:=.inLoop c) rfl (fun _ _=>.inl (by simp)) harr⟩
   | ret=>exact ⟨_,a1,w1,hq,.pass (x:=.inLoop c) rfl (fun _ _=>.inl (by simp)) harr⟩
   | panic ch=>exact ⟨_,a1,w1,hq,.pass (x:=.inLoop c) rfl (fun _ _=>.inl (by simp)) harr⟩
   | outgrown=>exact ⟨_,a1,w1,hq,.pass (x:=.inLoop c) rfl (fun _ _=>.inl (by simp)) harr⟩
 obtain ⟨e,a',w',hq,harr⟩:=key _ x0 a w rfl h0
 exact ⟨e,a',w',hq,.of_steps (.one (fenced_calm hb hr rfl) stepR_loop) harr⟩
section
variable {C:Cfg} {t:TS} {m:List Zd} {kn:KN} {ke:KE}
end
inductive RV where
 | tmp (j:Nat)
 | cell (j n:Nat) (ag:Bool)
def okR (P:Program):List ResultVar->List RV->Bool
 | [],[]=>true
 | .tmp j::r,.tmp j'::q=>Nat.beq j j'&&okR P r q
 | .cell j T::r,.cell j' n ag::q=>Nat.beq j j'&&(Zf2 P T==some n)&&(Zf4 P T==some ag)&&okR P r q
 | _,_=>false
inductive Has (b:Nat) (o:Obj):List Zd->Prop
 | here {m:List Zd}:Has b o (⟨b,o⟩::m)
 | there {c:Zd} {m:List Zd}:Has b o m->Has b o (c::m)
 | app {ms m:List Zd}:Has b o m->Has b o (ms++m)
theorem Has.mem {b:Nat} {o:Obj} {m:List Zd} (h:Has b o m):(⟨b,o⟩:Zd)∈m:=by
 induction h with
 | here=>exact List.mem_cons_self
 | there _ ih=>exact List.mem_cons_of_mem _ ih
 | app _ ih=>exact List.mem_append_right _ ih
inductive ResV (t:TS) (m:List Zd):RV->Value->Prop
 | tmp {j:Nat} {v:Value}:look t j=some v->ResV t m (.tmp j) v
 | one {j b:Nat} {T:TypeId} {s:List Seg} {v:Value}:look t j=some (.pointer (some ⟨b,0,none⟩))->Has b (.cells (cells s).toArray T (0,0)) m->Z93 s 0=some v->ResV t m (.cell j 1 false) v
 | agg {j b n:Nat} {T:TypeId} {s p:List Seg}:look t j=some (.pointer (some ⟨b,0,none⟩))->Has b (.cells (cells s).toArray T (0,0)) m->sub s 0 n=some p->ResV t m (.cell j n true) (agg p)
inductive Zqg (t:TS) (m:List Zd):List RV->List Value->Prop
 | nil:Zqg t m [] []
 | cons {x:RV} {v:Value} {r:List RV} {l:List Value}:ResV t m x v->Zqg t m r l->Zqg t m (x::r) (v::l)
def tupV:List Value->Value
 | [v]=>v
 | l=>.tuple l.toArray
def retK (W0:World) (S:List Nat) (rs:List RV) (R:Ending->World->Prop):KN:=fun t m=>∃ l,Zqg t m rs l /\ ∀ w,Sat W0 S m w->R (.returned (tupV l)) w
def noQ:Exit->Act->World->Prop:=fun _ _ _=>False
def stp (P:Program) (ops:Array Oper) (j:Nat) (K:Act->World->Prop) (a:Act) (w:World):Prop :=
 match ops[j]? with
 | none=>K a w
 | some o=>if Region.wanted o (yielded ops a.tmps) then o.wp P a w K noQ else K (a.put o.dst undef) w
section
variable {P:Program} {ops:Array Oper}
theorem Zxa {j:Nat} {K:Act->World->Prop} {Q:Exit->Act->World->Prop} {ρ:Option Nat} {fu:Nat} {a:Act} {w:World} (hd : ∀ o,ops[j]? = some o->∀ c,o.op ≠ .defer c) (h:stp P ops j K a w):wpOpIn (FW ρ) fu P ops Q j K a w:=by
 unfold stp at h
 unfold wpOpIn
 split
 ·rename_i ho; simp only [ho] at h; exact h
 ·rename_i o ho
  simp only [ho] at h
  split
  ·rename_i hw; simp only [hw,if_true] at h; exact Zmr (hd _ ho) (Z09d h)
  ·rename_i hw; simp only [hw] at h; exact ⟨fun _ _=>trivial,h⟩
theorem Zz0 {j:Nat} {K K':Act->World->Prop} {a:Act} {w:World} (hK : ∀ a w,K a w->K' a w) (h:stp P ops j K a w):stp P ops j K' a w:=by
 unfold stp at *
 split
 ·rename_i ho; simp only [ho] at h; exact hK _ _ h
 ·rename_i o ho
  simp only [ho] at h
  split
  ·rename_i hw; simp only [hw,if_true] at h; exact Oper.wp_mono hK h
  ·rename_i hw; simp only [hw] at h; exact hK _ _ h
theorem Z0cz {j:Nat} {oi oj:Oper} {v:Value} (hj:ops[j]? = some oj) (hap:oi.apart ops oj=true) (hsj : ∀ cs b,oj.op ≠ .select cs b)
  {K:Act->World->Prop} {a:Act} {w:World} (h:stp P ops j K (a.put oi.dst v) w):stp P ops j (fun a' w'=>K (a'.put oi.dst v) w'/\(∃ u,a'=a.put oj.dst u ∨ ∃ d,a'=({ a with defers:=d::a.defers }).put oj.dst u)) a w:=by
 obtain ⟨h1,h2,h3⟩:=Oper.apart_spec hap
 unfold stp at *
 simp only [hj] at *
 rw [wanted_put oj a oi.dst v h1] at h
 split
 ·rename_i hw
  simp only [hw,if_true] at h
  unfold Oper.wp at *
  rw [execOp_put oj hsj a oi.dst v h1] at h
  generalize (execOp a.eval oj).run P w=r at *
  cases r with
  | ok n w' =>
   cases n <;> simp only [Oper.upon] at h ⊢
   case value u=>exact ⟨by rw [<- Act.put_comm a v u h2]; exact h,u,.inl rfl⟩
   case skip=>exact ⟨by rw [<- Act.put_comm a v undef h2]; exact h,undef,.inl rfl⟩
   case defer d =>
    refine ⟨?_,undef,.inr ⟨d,rfl⟩⟩
    rw [<- Act.put_comm _ v undef h2,<- Act.put_defers]
    exact h
   case enter f args =>
    refine Calls.mono h fun e w'' he=>?_
    cases e with
    | returned u=>exact ⟨by rw [<- Act.put_comm a v u h2]; exact he,u,.inl rfl⟩
    | panicked c=>exact he
    | outgrown=>exact he
   case row row args=>exact Rows.mono h fun u w'' he=>⟨by rw [<- Act.put_comm a v u h2]; exact he,u,.inl rfl⟩
  | halt x w'=>cases x <;> simp only [Oper.upon] at h ⊢ <;> exact h
 ·rename_i hw
  simp only [hw] at h
  exact ⟨by rw [<- Act.put_comm a v undef h2]; exact h,undef,.inl rfl⟩
def GC (Φ:Act->World->Prop):Prop:=∀ a w w',Φ a w->Below w.heap.size w w'->Φ a w'
def Zoc (P:Program) (ops:Array Oper) (late:Nat->Bool) (D D0:World->Prop) (kn:Act->World->Prop):Nat->Array Bool->(Act->World->Prop)->Prop
 | 0,listed,Φ=>Region.ready .any ops listed = [] /\ ∀ a w,Φ a w->kn a w
 | f+1,listed,Φ =>
  (Region.ready .any ops listed = []->∀ a w,Φ a w->kn a w) /\
  ∀ j∈Region.ready .any ops listed,∀ a w,Φ a w ->
   stp P ops j (fun a' w'=>∃ Φ',GC Φ'/\Φ' a' w'/\(late j=false->D w->D w')/\(D0 w->D0 w')/\Zoc P ops late D D0 kn f (listed.setIfInBounds j true) Φ') a w
theorem Zgy {late:Nat->Bool} {D D0:World->Prop} {kn:Act->World->Prop} {Q:Exit->Act->World->Prop} {ρ:Option Nat} {fu:Nat} (hnd:Zwj ops=true) (hQ : ∀ a w,kn a w->Q .normal a w) :
  ∀ (f:Nat) (listed:Array Bool) (Φ:Act->World->Prop),Zoc P ops late D D0 kn f listed Φ->∀ a w,Φ a w->wpAnyIn (FW ρ) fu P .any ops Q f listed a w
 | 0,_,_,h,a,w,hΦ=>⟨h.1,hQ _ _ (h.2 a w hΦ)⟩
 | f+1,listed,Φ,h,a,w,hΦ=>⟨fun h0=>hQ _ _ (h.1 h0 a w hΦ),fun j hj=>Zxa (fun o ho=>Zu8 hnd ho) (Zz0 (fun a' w' ⟨Φ',_,h1,_,_,h2⟩=>Zgy hnd hQ f _ Φ' h2 a' w' h1) (h.2 j hj a w hΦ))⟩
theorem Zoc.sub {late:Nat->Bool} {D D0:World->Prop} {kn:Act->World->Prop} {f:Nat} {listed:Array Bool} {Φ Φ':Act->World->Prop} (hs : ∀ a w,Φ' a w->Φ a w) (h:Zoc P ops late D D0 kn f listed Φ):Zoc P ops late D D0 kn f listed Φ':=by
 cases f with
 | zero=>exact ⟨h.1,fun a w hΦ=>h.2 a w (hs a w hΦ)⟩
 | succ f=>exact ⟨fun h0 a w hΦ=>h.1 h0 a w (hs a w hΦ),fun j hj a w hΦ=>h.2 j hj a w (hs a w hΦ)⟩
theorem YS.of_same {D:World->Prop} {o:Oper} {v:Value} {a a':Act} (hy:YS P ops D o v a) (he:execOp a'.eval o=execOp a.eval o)
  (hw:Region.wanted o (yielded ops a'.tmps)=Region.wanted o (yielded ops a.tmps)):YS P ops D o v a':=by
 unfold YS Oper.quietAt at *
 rw [he,hw]
 exact hy
theorem YS.stp {D:World->Prop} {i:Nat} {o:Oper} {v:Value} {a:Act} {w:World} (hi:ops[i]? = some o) (hy:YS P ops D o v a) (hD:D w) {K:Act->World->Prop} (hK : ∀ w',Below w.heap.size w w'->K (a.put o.dst v) w'):stp P ops i K a w:=by
 unfold Sx.stp
 simp only [hi]
 rcases hy with ⟨hw,hv⟩ | ⟨hw,rfl⟩
 ·simp only [hw,if_true]; exact Zgz (hv w hD) (Below.refl _ _) hK
 ·simp only [hw,Bool.false_eq_true,if_false]; exact hK w (Below.refl _ _)
def Zhc (ops:Array Oper) (listed:Array Bool):Prop:=∀ j oj,ops[j]? = some oj->listed.getD j false=true->∀ e∈oj.after,Region.binds .any e=true->listed.getD e.on false=true
theorem Zhc.set {listed:Array Bool} {j:Nat} (h:Zhc ops listed) (hj:j∈Region.ready .any ops listed):Zhc ops (listed.setIfInBounds j true):=by
 obtain ⟨_,oi,hoi,hall⟩:=mem_ready.1 hj
 intro k ok hk hl e he hb
 by_cases hjk:j=k
 ·subst hjk
  have:ok=oi:=Option.some.inj (hk.symm.trans hoi)
  subst this
  exact getD_set_true (hall e he hb)
 ·rw [getD_set_ne false hjk] at hl
  exact getD_set_true (h k ok hk hl e he hb)
theorem Zr3 {listed:Array Bool} (hc:Zhc ops listed) {i:Nat} : ∀ (n j:Nat),anc ops i n j=true->listed.getD j false=true->listed.getD i false=true
 | 0,_,h,_=>by simp [anc] at h
 | n+1,j,h,hl=>by
  simp only [anc] at h
  split at h
  ·rename_i o ho
   obtain ⟨e,he,hb⟩:=Array.any_eq_true'.1 h
   simp only [Bool.and_eq_true,Bool.or_eq_true,beq_iff_eq] at hb
   have h1:=hc j o ho hl e he hb.1
   rcases hb.2 with h2 | h2
   ·rw [h2] at h1; exact h1
   ·exact Zr3 hc n e.on h2 h1
  ·cases h
theorem Z015 {listed:Array Bool} (hc:Zhc ops listed) {i n j:Nat} (h:anc ops i n j=true) (hj:j∈Region.ready .any ops listed):listed.getD i false=true:=by
 obtain ⟨_,oj,hoj,hall⟩:=mem_ready.1 hj
 cases n with
 | zero=>simp [anc] at h
 | succ n =>
  simp only [anc,hoj] at h
  obtain ⟨e,he,hb⟩:=Array.any_eq_true'.1 h
  simp only [Bool.and_eq_true,Bool.or_eq_true,beq_iff_eq] at hb
  have h1:=hall e he hb.1
  rcases hb.2 with h2 | h2
  ·rw [h2] at h1; exact h1
  ·exact Zr3 hc n e.on h2 h1
theorem Zz5 {listed:Array Bool} {i:Nat} (h:listed.getD i true=false):listed.getD i false=false:=by
 rcases Nat.lt_or_ge i listed.size with h' | h'
 ·simp [h'] at h ⊢; exact h
 ·simp [Array.getElem?_eq_none h'] at h
theorem Zoc.first {late:Nat->Bool} {D D0 E:World->Prop} {kn:Act->World->Prop} (pu:Bool) (hD : ∀ w w',E w->Below w.heap.size w w'->E w')
  (hB : ∀ w w',D w->Below w.heap.size w w'->D w') (hB0 : ∀ w w',D0 w->Below w.heap.size w w'->D0 w') (hE:E=bif pu then D0 else D) {i:Nat} {oi:Oper} {v:Value} (hi:ops[i]? = some oi)
  (hsel : ∀ (j:Nat) (o:Oper) cs b,ops[j]? = some o->o.op ≠ .select cs b) :
  ∀ (f:Nat) (listed:Array Bool) (Φ:Act->World->Prop),Zhc ops listed ->
   (∀ j oj,ops[j]? = some oj->j≠i->listed.getD j true=false->(∀ e∈oj.after,Region.binds .any e=true->e.on≠i)->oi.apart ops oj=true) ->
   (pu=false->∀ j,j≠i->listed.getD j true=false->late j=true->∃ n,anc ops i n j=true) ->
   i∈Region.ready .any ops listed->GC Φ->(∀ a w,Φ a w->E w/\YS P ops E oi v a) ->
   Zoc P ops late D D0 kn f (listed.setIfInBounds i true) (fun a' w'=>∃ a,a'=a.put oi.dst v/\Φ a w')->Zoc P ops late D D0 kn (f+1) listed Φ:=by
 intro f
 induction f with
 | zero =>
  intro listed Φ hcl hfree hlate hr hg hy H
  refine ⟨fun h=>(by rw [h] at hr; cases hr),fun j hj a w hΦ=>?_⟩
  by_cases hji:j=i
  ·subst hji
   refine (hy a w hΦ).2.stp hi (hy a w hΦ).1 fun w' hb=>⟨fun a' w'=>∃ a,a'=a.put oi.dst v/\Φ a w',?_,⟨a,rfl,hg a w w' hΦ hb⟩,fun _ h=>hB _ _ h hb,fun h=>hB0 _ _ h hb,H⟩
   rintro a' w1 w2 ⟨a1,e1,h1⟩ hb1; exact ⟨a1,e1,hg _ _ _ h1 hb1⟩
  ·have:=ready_mono hj hji
   rw [H.1] at this
   cases this
 | succ f ih =>
  intro listed Φ hcl hfree hlate hr hg hy H
  have hun:=(mem_ready.1 hr).1
  refine ⟨fun h=>(by rw [h] at hr; cases hr),fun j hj a w hΦ=>?_⟩
  by_cases hji:j=i
  ·subst hji
   refine (hy a w hΦ).2.stp hi (hy a w hΦ).1 fun w' hb=>⟨fun a' w'=>∃ a,a'=a.put oi.dst v/\Φ a w',?_,⟨a,rfl,hg a w w' hΦ hb⟩,fun _ h=>hB _ _ h hb,fun h=>hB0 _ _ h hb,H⟩
   rintro a' w1 w2 ⟨a1,e1,h1⟩ hb1; exact ⟨a1,e1,hg _ _ _ h1 hb1⟩
  ·obtain ⟨hjun,oj,hoj,hall⟩:=mem_ready.1 hj
   have hnot : ∀ e∈oj.after,Region.binds .any e=true->e.on≠i:=fun e he hb heq=>by
    have h1:=hall e he hb
    rw [heq,Zz5 hun] at h1
    cases h1
   have hap:=hfree j oj hoj hji hjun hnot
   have hnl:pu=false->late j=false:=by
    intro hpu
    cases hl:late j with
    | false=>rfl
    | true =>
     obtain ⟨n,hn⟩:=hlate hpu j hji hjun hl
     have:=Z015 hcl hn hj
     rw [Zz5 hun] at this; cases this
   have h1:=H.2 j (ready_mono hj hji) (a.put oi.dst v) w ⟨a,rfl,hΦ⟩
   have h2:=Z0cz hoj hap (fun cs b=>hsel j oj cs b hoj) h1
   obtain ⟨hDw,hyw⟩:=hy a w hΦ
   obtain ⟨p1,p2,p3⟩:=Oper.apart_spec hap
   have keep : ∀ (a:Act),YS P ops E oi v a->∀ u,YS P ops E oi v (a.put oj.dst u):=fun a hy u =>
    hy.of_same (execOp_put oi (fun cs b=>hsel i oi cs b hi) a oj.dst u p3) (wanted_put oi a oj.dst u p3)
   refine Zz0 ?_ h2
   rintro a1 w1 ⟨⟨Φ',hg',hΦ',hlate',hzero',H'⟩,hu⟩
   have hEw:E w1:=by
    cases pu with
    | true=>simp only [cond_true] at hE; subst hE; exact hzero' hDw
    | false=>simp only [cond_false] at hE; subst hE; exact hlate' (hnl rfl) hDw
   have hya1:YS P ops E oi v a1:=by
    rcases hu with ⟨u,rfl | ⟨d,rfl⟩⟩
    ·exact keep a hyw u
    ·exact keep _ (hyw.of_same (a':={ a with defers:=d::a.defers }) rfl rfl) u
   refine ⟨fun a' w'=>Φ' (a'.put oi.dst v) w'/\E w'/\YS P ops E oi v a',?_,⟨hΦ',hEw,hya1⟩,fun h=>hlate' h,hzero',?_⟩
   ·rintro a' w' w'' ⟨q1,q2,q3⟩ hb
    exact ⟨hg' _ _ _ q1 hb,hD _ _ q2 hb,q3⟩
   ·refine ih (listed.setIfInBounds j true) _ (hcl.set hj) ?_ ?_ (ready_mono hr (Ne.symm hji)) ?_ (fun a' w' h=>h.2) ?_
    ·intro k ok hk hki hun' hno
     refine hfree k ok hk hki ?_ hno
     by_cases hjk:j=k
     ·subst hjk; exact hjun
     ·rw [getD_set_ne true hjk] at hun'; exact hun'
    ·intro hpu k hki hun' hl
     refine hlate hpu k hki ?_ hl
     by_cases hjk:j=k
     ·subst hjk; exact hjun
     ·rw [getD_set_ne true hjk] at hun'; exact hun'
    ·rintro a' w' w'' ⟨q1,q2,q3⟩ hb
     exact ⟨hg' _ _ _ q1 hb,hD _ _ q2 hb,q3⟩
    ·rw [Array.setIfInBounds_comm _ _ hji]
     refine Zoc.sub ?_ H'
     rintro a' w' ⟨a2,rfl,q1,q2,q3⟩
     exact q1
end
theorem Sat.sub {W0:World} {S:List Nat} {m m0:List Zd} {w w':World} (h:Sat W0 S m w') (h0:Sat W0 S m0 w) (hs : ∀ c∈m0,c∈m):Sat W0 S m0 w' :=
 ⟨h.fr,fun c hc=>h.own c (hs c hc),h0.base,h0.dist⟩
def St (C:Cfg) (t:TS) (m0 m:List Zd) (b:Bool):Act->World->Prop:=fun a w=>Zei C.n t a/\Sat C.W0 C.S m w/\(b=true->Sat C.W0 C.S m0 w)
theorem St.gc {C:Cfg} {t:TS} {m0 m:List Zd} {b:Bool}:GC (St C t m0 m b):=fun a w w' ⟨h1,h2,h3⟩ hb=>⟨h1,h2.of_below hb,fun e=>(h3 e).of_below hb⟩
def Fin (C:Cfg) (kn:KN):Act->World->Prop:=fun a w=>∃ t m,kn t m/\Zei C.n t a/\Sat C.W0 C.S m w
def WS (C:Cfg) (s:Sch) (late:List Nat) (t:TS) (m0 m:List Zd) (b:Bool) (kn:KN):Prop :=
 ∀ (ops:Array Oper) (listed:Array Bool),Zan C.P C.n ops late s listed=true->Znd s=true->Region.noSelect ops=true->Zhc ops listed ->
  Zoc C.P ops (Zu4 late) (Sat C.W0 C.S m0) (Sat C.W0 C.S []) (Fin C kn) (Zx4 s) listed (St C t m0 m b)
section
variable {C:Cfg} {t:TS} {m0 m:List Zd} {b:Bool} {kn:KN} {late:List Nat} {r:Sch}
theorem Z03 (h:kn t m):WS C .nil late t m0 m b kn:=by
 intro ops listed hok hlen hsel hcl
 simp only [Zan,List.isEmpty_iff] at hok
 exact ⟨hok,fun a w ⟨h1,h2,_⟩=>⟨t,m,h,h1,h2⟩⟩
theorem Zoc.take {P:Program} {ops:Array Oper} {late lt:List Nat} {D D0 E:World->Prop} {kn:Act->World->Prop} (pu:Bool) (hD : ∀ w w',E w->Below w.heap.size w w'->E w')
  (hB : ∀ w w',D w->Below w.heap.size w w'->D w') (hB0 : ∀ w w',D0 w->Below w.heap.size w w'->D0 w') (hE:E=bif pu then D0 else D) (hlt:pu=false->lt=late) (hsel:Region.noSelect ops=true) {f:Nat} {K:Act->Prop} :
  ∀ (idx:List Nat) (lo:List Oper) (listed listed':Array Bool) (A:Act->Prop) (W:World->Prop),ops? ops idx=some lo->Zrz ops lt idx listed=some listed'->Zhc ops listed->Zkp P ops E lo A K ->
   (∀ w w',W w->Below w.heap.size w w'->W w')->(∀ w,W w->E w) ->
   (Zhc ops listed'->Zoc P ops (Zu4 late) D D0 kn f listed' (fun a w=>K a/\W w))->Zoc P ops (Zu4 late) D D0 kn (idx.length+f) listed (fun a w=>A a/\W w)
 | [],lo,listed,listed',A,W,hlo,htk,hcl,hq,hW,hWD,H=>by
  simp only [Zrz,Option.some.injEq] at htk; subst htk
  simp only [ops?,Option.some.injEq] at hlo; subst hlo
  simp only [List.length_nil,Nat.zero_add]
  exact Zoc.sub (fun a w ⟨h1,h2⟩=>⟨hq a h1,h2⟩) (H hcl)
 | i::idx,lo,listed,listed',A,W,hlo,htk,hcl,hq,hW,hWD,H=>by
  simp only [ops?] at hlo
  split at hlo
  ·rename_i o l ho hl
   injection hlo with hlo; subst hlo
   simp only [Zrz] at htk
   by_cases hb:((Region.ready .any ops listed).contains i&&Region.free .any ops listed i&&lt.all (fun j=>Nat.beq j i||listed.getD j true||anc ops i ops.size j))=true
   ·rw [hb,cond_true] at htk
    simp only [Bool.and_eq_true] at hb
    obtain ⟨⟨hr,hf⟩,hlate⟩:=hb
    obtain ⟨v,hy,hq2⟩:=hq
    have hr':i∈Region.ready .any ops listed:=by simpa using hr
    rw [List.length_cons,show idx.length+1+f=(idx.length+f)+1 by omega]
    refine Zoc.first pu hD hB hB0 hE ho (Region.noSelect_spec hsel) (idx.length+f) listed _ hcl (Region.free_spec ho hf) ?_ hr' ?_ (fun a w h=>⟨hWD w h.2,hy a h.1⟩) ?_
    ·intro hpu j hji hun hl'
     have hjl:j∈lt:=by rw [hlt hpu]; simpa [Zu4] using hl'
     have:=List.all_eq_true.1 hlate j hjl
     simp only [Bool.or_eq_true,Nat.beq_eq] at this
     rcases this with (h1 | h1) | h1
     ·exact absurd h1 hji
     ·rw [hun] at h1; cases h1
     ·exact ⟨_,h1⟩
    ·intro a w w' h hb; exact ⟨h.1,hW _ _ h.2 hb⟩
    ·refine Zoc.sub ?_ (Zoc.take pu hD hB hB0 hE hlt hsel idx l (listed.setIfInBounds i true) listed' (fun a'=>∃ a,A a/\a'=a.put o.dst v) W hl htk (hcl.set hr') hq2 hW hWD H)
     rintro a' w ⟨a,rfl,h1,h2⟩
     exact ⟨⟨a,h1,rfl⟩,h2⟩
   ·rw [Bool.not_eq_true] at hb; rw [hb,cond_false] at htk; cases htk
  ·cases hlo
theorem ws_q {idx:List Nat} {j:J} {pre:TS} (h1:QJ C m0 t [j] [] pre) (h:WS C r late (pre++t) m0 m true kn):WS C (.q idx j r) late t m0 m true kn:=by
 intro ops listed hok hlen hsel hcl
 simp only [Zan,Bool.and_eq_true] at hok
 obtain ⟨ho,ht⟩:=hok
 split at ho
 ·rename_i lo hlo
  split at ht
  ·rename_i listed' htk
   have hq:Zkp C.P ops (Sat C.W0 C.S m0) lo (Zei C.n ([]++t)) (Zei C.n (pre++t)):=by
    have:=h1 ops lo (by rw [J.flatL,J.flatL,List.append_nil]; exact ho)
    exact this
   rw [Zx4]
   refine Zoc.sub ?_ (Zoc.take (late:=late) (lt:=late) (kn:=Fin C kn) false (fun w w' hw hb=>hw.of_below hb) (fun w w' hw hb=>hw.of_below hb) (fun w w' hw hb=>hw.of_below hb) rfl (fun _=>rfl) hsel (f:=Zx4 r) (K:=Zei C.n (pre++t)) idx lo listed listed' (Zei C.n ([]++t)) (fun w=>Sat C.W0 C.S m w/\Sat C.W0 C.S m0 w) hlo htk hcl hq
    (fun w w' hw hb=>⟨hw.1.of_below hb,hw.2.of_below hb⟩) (fun w hw=>hw.2) ?_)
   ·rintro a w ⟨q1,q2,q3⟩; exact ⟨by simpa using q1,q2,q3 rfl⟩
   ·intro hcl'
    refine Zoc.sub ?_ (h ops listed' ht hlen hsel hcl')
    rintro a w ⟨q1,q2,q3⟩; exact ⟨q1,q2,fun _=>q3⟩
  ·cases ht
 ·cases ho
theorem Sat.none {W0:World} {S:List Nat} {m:List Zd} {w:World} (h:Sat W0 S m w):Sat W0 S [] w:=⟨h.fr,by simp,by simp,by simp⟩
theorem ws_p {idx:List Nat} {j:J} {pre:TS} (h1:QJ C [] t [j] [] pre) (h:WS C r late (pre++t) m0 m b kn):WS C (.p idx j r) late t m0 m b kn:=by
 intro ops listed hok hlen hsel hcl
 simp only [Zan,Bool.and_eq_true] at hok
 obtain ⟨ho,ht⟩:=hok
 split at ho
 ·rename_i lo hlo
  split at ht
  ·rename_i listed' htk
   have hq:Zkp C.P ops (Sat C.W0 C.S []) lo (Zei C.n ([]++t)) (Zei C.n (pre++t)):=by
    have:=h1 ops lo (by rw [J.flatL,J.flatL,List.append_nil]; exact ho)
    exact this
   rw [Zx4]
   refine Zoc.sub ?_ (Zoc.take (late:=late) (lt:=[]) (kn:=Fin C kn) true (fun w w' hw hb=>hw.of_below hb) (fun w w' hw hb=>hw.of_below hb) (fun w w' hw hb=>hw.of_below hb) rfl (fun h=>by cases h) hsel (f:=Zx4 r) (K:=Zei C.n (pre++t)) idx lo listed listed' (Zei C.n ([]++t)) (fun w=>Sat C.W0 C.S m w/\(b=true->Sat C.W0 C.S m0 w)) hlo htk hcl hq
    (fun w w' hw hb=>⟨hw.1.of_below hb,fun e=>(hw.2 e).of_below hb⟩) (fun w hw=>hw.1.none) ?_)
   ·rintro a w ⟨q1,q2,q3⟩; exact ⟨by simpa using q1,q2,q3⟩
   ·intro hcl'
    refine Zoc.sub ?_ (h ops listed' ht hlen hsel hcl')
    rintro a w ⟨q1,q2,q3⟩; exact ⟨q1,q2,q3⟩
  ·cases ht
 ·cases ho
theorem ws_e {i:Nat} {d:Option Nat} {op:IOp} (b':Bool) (hb:b'=true->b=true/\True)
  (h:EF C m t d op (fun t' m'=>(Zu4 late i=false->∀ c∈m0,c∈m')/\(b'=true->∀ c∈m0,c∈m')/\WS C r late t' m0 m' b' kn)) (hbt:b=true):WS C (.e i ⟨d,none,op⟩ r) late t m0 m b kn:=by
 subst hbt
 intro ops listed hok hlen hsel hcl
 simp only [Zan,Bool.and_eq_true] at hok
 obtain ⟨⟨ho,hr⟩,hrest⟩:=hok
 split at ho
 ·rename_i o hoi
  simp only [okL,Bool.and_eq_true,Bool.and_true] at ho
  obtain ⟨⟨hd,hg⟩,hop⟩:=ho
  split at hr
  ·rename_i k hk
   rw [Nat.beq_eq] at hr; subst hr
   rw [Zx4]
   refine ⟨fun h0=>(by rw [h0] at hk; cases hk),fun j hj a w hΦ=>?_⟩
   rw [hk] at hj
   obtain rfl:j=k:=by simpa using hj
   obtain ⟨q1,q2,q3⟩:=hΦ
   unfold stp
   simp only [hoi]
   rw [if_pos (Z90 (Z7e hg))]
   refine Oper.wp_mono ?_ (h o hop hd a q1 w q2)
   rintro a' w' ⟨t',m',⟨hk1,hk2,hk3⟩,ha',hw'⟩
   refine ⟨St C t' m0 m' b',St.gc,⟨ha',hw',fun e=>hw'.sub (q3 rfl) (hk2 e)⟩,fun hl hD=>hw'.sub hD (hk1 hl),fun _=>hw'.none,?_⟩
   exact hk3 ops _ hrest hlen hsel (hcl.set (by rw [hk]; simp))
  ·cases hr
 ·cases ho
theorem Z11f {i:Nat} {d:Option Nat} {op:IOp}
  (h:EF C m t d op (fun t' m'=>Zu4 late i=true/\WS C r late t' m0 m' false kn)):WS C (.e i ⟨d,none,op⟩ r) late t m0 m false kn:=by
 intro ops listed hok hlen hsel hcl
 simp only [Zan,Bool.and_eq_true] at hok
 obtain ⟨⟨ho,hr⟩,hrest⟩:=hok
 split at ho
 ·rename_i o hoi
  simp only [okL,Bool.and_eq_true,Bool.and_true] at ho
  obtain ⟨⟨hd,hg⟩,hop⟩:=ho
  split at hr
  ·rename_i k hk
   rw [Nat.beq_eq] at hr; subst hr
   rw [Zx4]
   refine ⟨fun h0=>(by rw [h0] at hk; cases hk),fun j hj a w hΦ=>?_⟩
   rw [hk] at hj
   obtain rfl:j=k:=by simpa using hj
   obtain ⟨q1,q2,q3⟩:=hΦ
   unfold stp
   simp only [hoi]
   rw [if_pos (Z90 (Z7e hg))]
   refine Oper.wp_mono ?_ (h o hop hd a q1 w q2)
   rintro a' w' ⟨t',m',⟨hk1,hk3⟩,ha',hw'⟩
   refine ⟨St C t' m0 m' false,St.gc,⟨ha',hw',fun e=>by cases e⟩,fun hl hD=>?_,fun _=>hw'.none,?_⟩
   ·rw [hk1] at hl; cases hl
   ·exact hk3 ops _ hrest hlen hsel (hcl.set (by rw [hk]; simp))
  ·cases hr
 ·cases ho
theorem Zz7 {i i':Nat} {d d':Option Nat} {op op':IOp} {r':Sch}
  (h:EF C m t d op (fun t' m'=>(∀ c∈m0,c∈m')/\WS C r late t' m0 m' true kn))
  (h':EF C m t d' op' (fun t' m'=>(∀ c∈m0,c∈m')/\WS C r' late t' m0 m' true kn)):WS C (.two i ⟨d,none,op⟩ r i' ⟨d',none,op'⟩ r') late t m0 m true kn:=by
 intro ops listed hok hlen hsel hcl
 simp only [Zan,Bool.and_eq_true] at hok
 obtain ⟨⟨⟨ho,hr⟩,hrest⟩,hrest'⟩:=hok
 simp only [Znd,Bool.and_eq_true,Nat.beq_eq] at hlen
 obtain ⟨⟨hl1,hl2⟩,hl3⟩:=hlen
 split at ho
 ·rename_i o o' hoi hoi'
  simp only [okL,Bool.and_eq_true,Bool.and_true] at ho
  obtain ⟨⟨⟨hd,hg⟩,hop⟩,⟨hd',hg'⟩,hop'⟩:=ho
  split at hr
  ·rename_i k k' hk
   simp only [Bool.and_eq_true,Nat.beq_eq] at hr
   obtain ⟨rfl,rfl⟩:=hr
   rw [Zx4]
   refine ⟨fun h0=>(by rw [h0] at hk; cases hk),fun j hj a w hΦ=>?_⟩
   have hjr:=hj
   rw [hk] at hj
   obtain ⟨q1,q2,q3⟩:=hΦ
   simp only [List.mem_cons,List.not_mem_nil,or_false] at hj
   rcases hj with rfl | rfl
   ·unfold stp
    simp only [hoi]
    rw [if_pos (Z90 (Z7e hg))]
    refine Oper.wp_mono ?_ (h o hop hd a q1 w q2)
    rintro a' w' ⟨t',m',⟨hk2,hk3⟩,ha',hw'⟩
    exact ⟨St C t' m0 m' true,St.gc,⟨ha',hw',fun e=>hw'.sub (q3 rfl) hk2⟩,fun hl hD=>hw'.sub hD hk2,fun _=>hw'.none,hk3 ops _ hrest hl2 hsel (hcl.set hjr)⟩
   ·unfold stp
    simp only [hoi']
    rw [if_pos (Z90 (Z7e hg')),hl1]
    refine Oper.wp_mono ?_ (h' o' hop' hd' a q1 w q2)
    rintro a' w' ⟨t',m',⟨hk2,hk3⟩,ha',hw'⟩
    exact ⟨St C t' m0 m' true,St.gc,⟨ha',hw',fun e=>hw'.sub (q3 rfl) hk2⟩,fun hl hD=>hw'.sub hD hk2,fun _=>hw'.none,hk3 ops _ hrest' hl3 hsel (hcl.set hjr)⟩
  ·cases hr
 ·cases ho
theorem ef_q {d:Nat} {op:IOp} {K:KN} (v:Value) (h1:Q1 C m t op v) (h:K ((d,v)::t) m):EF C m t (some d) op K:=by
 intro o ho hd a ha w hw
 obtain ⟨hd1,hd2⟩:=Z5f hd
 exact Zgz (h1 o ho a ha w hw) (Below.refl _ _) (fun w' hb=>⟨_,m,h,hd1▸ha.put hd2 v,hw.of_below hb⟩)
end
theorem Zv {C:Cfg} {t:TS} {m:List Zd} {kn:KN} {ke:KE} {s:Sch} {late:List Nat} (h:WS C s late t m m true kn):WC C (.draw s late) t m kn ke:=by
 intro hm c0 hok ρ fu Q a w ha hw hc
 cases c0 <;> first | (simp [okC] at hok; done) | skip
 rename_i id ops draw
 simp only [okC,Bool.and_eq_true,Nat.beq_eq] at hok
 obtain ⟨⟨⟨⟨⟨h1,h2⟩,hnd⟩,h3⟩,h5⟩,h4⟩:=hok
 subst h1
 refine wpIn_region_any hm ?_
 have hcl:Zhc ops (Array.replicate ops.size false):=by
  intro j oj hj hl
  rw [Array.getD_eq_getD_getElem?,Array.getElem?_replicate] at hl
  split at hl <;> cases hl
 have H:=h ops _ h4 h5 h2 hcl
 rw [h3] at H
 exact Zgy hnd (fun a' w' ⟨t',m',hk,ha',hw'⟩=>hc.n t' m' hk a' w' ha' hw') _ _ _ H a _ ⟨ha,hw.drew,fun _=>hw.drew⟩
structure FnD where
 n:Nat
 rs:List RV
 c:IC
def okF (P:Program) (f:FuncId) (d:FnD):Bool :=
 match P.funcs[f]? with
 | some fn=>decide (fn.ntmps=d.n)&&okR P fn.results.toList d.rs&&(match fn.body with
  | some c=>okC P d.n c d.c
  | none=>false)
 | none=>false
def Ztn:Nat->List Value->TS
 | _,[]=>[]
 | i,v::r=>(i,v)::Ztn (i+1) r
theorem Zrh : ∀ (l:List Value) (i j:Nat) (v:Value),look (Ztn i l) j=some v->i<=j/\l[j-i]? = some v
 | [],_,_,_,h=>by simp [Ztn,look] at h
 | u::r,i,j,v,h=>by
  simp only [Ztn,look] at h
  by_cases e:Nat.beq i j=true
  ·rw [e,cond_true] at h
   rw [Nat.beq_eq] at e; subst e
   exact ⟨Nat.le_refl _,by simpa using h⟩
  ·rw [Bool.not_eq_true] at e; rw [e,cond_false] at h
   obtain ⟨h1,h2⟩:=Zrh r (i+1) j v h
   refine ⟨by omega,?_⟩
   rw [show j-i=(j-(i+1))+1 by omega]; simpa using h2
theorem Zcj {w:World} {b:Nat} {T:TypeId} {l:List Value} (h:w.heap[b]? = some (.cells l.toArray T (0,0))) (i:Nat):w.cell? ⟨b,i,none⟩=l[i]? := by
 simp [World.cell?,h]
theorem Zlk {P:Program} {w:World} {b:Nat} : ∀ (n:Nat) (o i:Nat) (acc:Array Value) (l:List Value),l.length=n->(∀ k,k<n->w.cell? ⟨b,o+(i+k),none⟩=l[k]?) ->
  (loadCellsFrom ⟨b,o,none⟩ i n acc).run P w = .ok (acc++l.toArray) w
 | 0,o,i,acc,l,hl,h=>by
  have:l = []:=List.eq_nil_of_length_eq_zero hl
  subst this
  simp [loadCellsFrom]
 | n+1,o,i,acc,l,hl,h=>by
  cases l with
  | nil=>simp at hl
  | cons v l =>
   have h0:=h 0 (by omega)
   simp only [Nat.add_zero,List.getElem?_cons_zero] at h0
   simp only [loadCellsFrom,Sem.run_bind,Addr.add_lit,run_load,h0,Result.andThen_ok]
   rw [Zlk n o (i+1) (acc.push v) l (by simpa using hl) (fun k hk=>by
    have:=h (k+1) (by omega)
    rw [show i+1+k=i+(k+1) by omega]; simpa using this)]
   simp
theorem Zkj {P:Program} {w:World} {T:TypeId} {b o n:Nat} {ag:Bool} (hs:Zf2 P T=some n) (ha:Zf4 P T=some ag) {l:List Value} (hl:l.length=n)
  (h : ∀ k,k<n->w.cell? ⟨b,o+k,none⟩=l[k]?) (h1:ag=false->n=1):(loadVar T ⟨b,o,none⟩).run P w = .ok (if ag then .agg l.toArray else l.getD 0 undef) w:=by
 unfold Zf2 at hs
 unfold Zf4 at ha
 cases hi:P.info? T with
 | none=>rw [hi] at hs; cases hs
 | some inf =>
  rw [hi] at hs
  simp only [Option.map_some,Option.some.injEq] at hs
  cases hu:P.underlying T with
  | none=>rw [hu] at ha; cases ha
  | some dsc =>
   rw [hu] at ha
   simp only [Option.map_some,Option.some.injEq] at ha
   have hagg:(isAgg T).run P w = .ok ag w:=by
    simp only [isAgg,underlying,program,Sem.run_bind,Sem.run,hu,Result.andThen_ok]
    subst ha
    cases dsc <;> rfl
   simp only [loadVar,Sem.run_bind,hagg,Result.andThen_ok]
   cases ag with
   | true =>
    simp only [if_true,Sem.run_bind,sizeOf,typeInfo,program,Sem.run,hi,Result.andThen_ok,Sem.run_pure,hs,loadCells,Sem.run_pure]
    rw [Zlk n o 0 #[] l hl (fun k hk=>by rw [Nat.zero_add]; exact h k hk)]
    simp
   | false =>
    obtain rfl:=h1 rfl
    cases l with
    | nil=>simp at hl
    | cons v l =>
     have h0:=h 0 (by omega)
     simp only [Nat.add_zero,List.getElem?_cons_zero] at h0
     simp [run_load,h0]
def Zv3 (tmps:Array Value):ResultVar->Sem Value
 | .tmp t=>pure (tmps.getD t undef)
 | .cell a t=>do loadVar t (<- asAddr (tmps.getD a undef))
theorem Z077 {P:Program} {C:Cfg} {t:TS} {m:List Zd} {a:Act} {w:World} (ha:Zei C.n t a) (hw:Sat C.W0 C.S m w) {x:ResultVar} {y:RV} {v:Value} (hv:ResV t m y v) (hok:okR P [x] [y]=true) :
  (Zv3 a.tmps x).run P w = .ok v w:=by
 unfold Zv3
 cases hv with
 | tmp h =>
  cases x with
  | tmp j'=>simp only [okR,Bool.and_true,Nat.beq_eq] at hok; subst hok; simp [ha.look _ _ h]
  | cell c T=>simp [okR] at hok
 | one h hb hc =>
  cases x with
  | tmp j'=>simp [okR] at hok
  | cell c T =>
   simp only [okR,Bool.and_true,Bool.and_eq_true,Nat.beq_eq,beq_iff_eq] at hok
   obtain ⟨⟨h1,h2⟩,h3⟩:=hok
   subst h1
   simp only [Sem.run_bind,ha.look _ _ h,asAddr,Sem.run_pure,Result.andThen_ok]
   have hcell:=Zcj (hw.own _ hb.mem)
   rw [Zf8] at hc
   rw [Zkj h2 h3 (l:=[v]) rfl (fun k hk=>by
    obtain rfl:k=0:=by omega
    rw [Nat.add_zero,hcell,hc]; rfl) (fun _=>rfl)]
   rfl
 | agg h hb hs =>
  cases x with
  | tmp j'=>simp [okR] at hok
  | cell c T =>
   simp only [okR,Bool.and_true,Bool.and_eq_true,Nat.beq_eq,beq_iff_eq] at hok
   obtain ⟨⟨h1,h2⟩,h3⟩:=hok
   subst h1
   simp only [Sem.run_bind,ha.look _ _ h,asAddr,Sem.run_pure,Result.andThen_ok]
   have hcell:=Zcj (hw.own _ hb.mem)
   obtain ⟨e1,e2,e3⟩:=Za1 hs
   rw [Zkj h2 h3 (l:=cells _) (by rw [cells_length]; exact e2) (fun k hk=>by
    rw [Nat.zero_add,hcell,e1,List.drop_zero,List.getElem?_take_of_lt hk]) (fun h=>by cases h)]
   rfl
theorem Z06o {P:Program} {x:ResultVar} {y:RV} {xs:List ResultVar} {ys:List RV} (h:okR P (x::xs) (y::ys)=true):okR P [x] [y]=true/\okR P xs ys=true:=by
 cases x <;> cases y <;> simp_all [okR]
theorem Zv4 {P:Program} {C:Cfg} {t:TS} {m:List Zd} {a:Act} {w:World} (ha:Zei C.n t a) (hw:Sat C.W0 C.S m w) : ∀ {ys:List RV} {vs:List Value} {xs:List ResultVar},Zqg t m ys vs->okR P xs ys=true ->
  (xs.mapM (Zv3 a.tmps)).run P w = .ok vs w
 | [],_,xs,h,hok=>by
  cases h
  cases xs with
  | nil=>simp
  | cons x xs=>cases x <;> simp [okR] at hok
 | y::ys,_,xs,h,hok=>by
  cases h with
  | cons hv hr =>
   cases xs with
   | nil=>simp [okR] at hok
   | cons x xs =>
    obtain ⟨h1,h2⟩:=Z06o hok
    simp only [List.mapM_cons,Sem.run_bind]
    rw [Z077 ha hw hv h1]
    simp only [Result.andThen_ok,Zv4 ha hw hr h2,Sem.run_pure]
theorem Z0d3 (l:List Value):(if h:l.toArray.size=1 then l.toArray[0] else .tuple l.toArray)=tupV l:=by
 match l with
 | []=>rfl
 | [v]=>rfl
 | a::b::r=>simp [tupV]
theorem Zxn {P:Program} {f:FuncId} {d:FnD} {args:List Value} {W0:World} {S:List Nat} {m0:List Zd} {R:Ending->World->Prop}
  (hm:P.follows .mixedOrders=true) (hok:okF P f d=true) (hlen:Nat.ble args.length d.n=true) (h0:Sat W0 S m0 W0)
  (h:WC ⟨P,d.n,W0,S⟩ d.c (Ztn 0 args) m0 (retK W0 S d.rs R) ⟨[],retK W0 S d.rs R,noP⟩):Calls P f args.toArray W0 R:=by
 unfold okF at hok
 split at hok
 ·rename_i fn hf
  simp only [Bool.and_eq_true,decide_eq_true_eq] at hok
  obtain ⟨⟨h1,h2⟩,h3⟩:=hok
  split at h3
  ·rename_i c hb
   have fin : ∀ t m,retK W0 S d.rs R t m->∀ a w,Zei d.n t a->Sat W0 S m w->a.defers = [] /\ ∃ v,(results fn a.tmps).run P w = .ok v w/\R (.returned v) w:=by
    rintro t m ⟨l,hl,hR⟩ a w ha hw
    refine ⟨ha.defers,tupV l,?_,hR w hw⟩
    have hrun:=Zv4 (C:=⟨P,d.n,W0,S⟩) ha hw hl h2
    have hres:results fn a.tmps=(do let vs <- fn.results.mapM (Zv3 a.tmps); pure (if h:vs.size=1 then vs[0] else .tuple vs)):=rfl
    rw [hres]
    simp only [Sem.run_bind]
    have hmap:(fn.results.mapM (Zv3 a.tmps)).run P w = .ok l.toArray w:=by
     rw [<- Array.toArray_toList (xs:=fn.results),List.mapM_toArray]
     simp only [Sem.run_map,hrun,Result.andThen_ok]
    simp only [hmap,Result.andThen_ok,Sem.run_pure]
    rw [Z0d3]
   refine calls_of_wp hf hb (wpIn_wide.1 (h hm c h3 none 0 _ _ W0 ?_ h0 ⟨?_,?_,?_,fun _ _ _ h=>h.elim⟩))
   ·have hlen':args.length<=fn.ntmps:=by rw [h1]; exact Nat.le_of_ble_eq_true hlen
    refine ⟨by simp [h1]; omega,rfl,?_⟩
    intro j v hj
    obtain ⟨_,hj2⟩:=Zrh args 0 j v hj
    rw [Nat.sub_zero] at hj2
    have hlt:j<args.length:=(List.getElem?_eq_some_iff.1 hj2).1
    simp only [Array.getD_eq_getD_getElem?]
    rw [Array.getElem?_append_left (by simpa using hlt)]
    simp [hj2]
   ·exact fun t m hk a w ha hw=>fin t m hk a w ha hw
   ·intro id k hk; simp [Zwf] at hk
   ·exact fun t m hk a w ha hw=>fin t m hk a w ha hw
  ·cases h3
 ·cases hok
theorem Zbz (W0:World):Sat W0 [] [] W0:=⟨⟨rfl,rfl,rfl,Nat.le_refl _,fun _ _ _=>rfl⟩,by simp,by simp,by simp⟩
def Z1w (W0:World) (v:Value):Ending->World->Prop:=fun e w'=>e = .returned v/\Below W0.heap.size W0 w'
theorem Z9 {P:Program} {f:FuncId} {d:FnD} {args:List Value} {W0:World} {v:Value}
  (hm:P.follows .mixedOrders=true) (hok:okF P f d=true) (hlen:Nat.ble args.length d.n=true)
  (h:WC ⟨P,d.n,W0,[]⟩ d.c (Ztn 0 args) [] (fun t m=>∃ l,Zqg t m d.rs l/\tupV l=v) ⟨[],fun t m=>∃ l,Zqg t m d.rs l/\tupV l=v,noP⟩):Calls P f args.toArray W0 (Z1w W0 v):=by
 have key : ∀ (kn:KN),(fun t m=>∃ l,Zqg t m d.rs l/\tupV l=v)=kn->retK W0 [] d.rs (Z1w W0 v)=kn->True:=fun _ _ _=>trivial
 refine Zxn hm hok hlen (Zbz W0) ?_
 have hsub : ∀ t m,(∃ l,Zqg t m d.rs l/\tupV l=v)->retK W0 [] d.rs (Z1w W0 v) t m:=by
  rintro t m ⟨l,h1,rfl⟩
  exact ⟨l,h1,fun w hw=>⟨rfl,hw.fr.below⟩⟩
 intro hm c0 hok ρ fu Q a w ha hw hc
 exact h hm c0 hok ρ fu Q a w ha hw ⟨fun t m hk=>hc.n t m (hsub t m hk),fun id k hk=>by simp [Zwf] at hk,fun t m hk=>hc.r t m (hsub t m hk),fun _ _ _ h=>h.elim⟩
theorem Zvj {P:Program} {T:TypeId} {n:Nat} (h:(Zf2 P T==some n)=true) : ∃ i,P.info? T=some i/\i.size=n:=by
 unfold Zf2 at h
 cases hi:P.info? T with
 | none=>rw [hi] at h; simp at h
 | some i=>rw [hi] at h; exact ⟨i,rfl,by simpa using h⟩
theorem Z3j {P:Program} {T:TypeId} {n:Nat} (h:(Zf2 P T==some n)=true) (w:World):(sizeOf T).run P w = .ok n w:=by
 obtain ⟨i,h1,h2⟩:=Zvj h
 simp [sizeOf,typeInfo,program,Sem.run,h1,h2]
theorem Z01 {P:Program} {T:TypeId} {d:TypeDesc} (h:P.underlying T=some d) (w:World):(underlying T).run P w = .ok d w:=by
 simp [underlying,program,Sem.run,h]
theorem Z0t {P:Program} {o:Oper} {a:Act} {w:World} {v:Value} {C:World->Prop} (h:(execOp a.eval o).run P w = .ok (.value v) w):o.quietAt P a C w v:=by
 unfold Oper.quietAt
 rw [h]
 exact ⟨rfl,rfl⟩
theorem Ze5 {P:Program} {s:Sem Value} {w:World} {v:Value} (h:s.run P w = .ok v w):(do pure (Next.value (<- s)):Sem Next).run P w = .ok (.value v) w:=by
 simp [h]
section
variable {C:Cfg} {t:TS} {m:List Zd}
theorem Z5r {x:Operand} {v:Value} (h:ev t x=some v):Q1 C m t (.mv x) v:=by
 intro o ho a ha w hw
 refine Z0t ?_
 simp only [Za4] at ho
 split at ho
 ·rename_i x' heq
  have e:=Z0m ho; subst e
  simp [execOp,heq,ha.ev h]
 ·rename_i x' heq
  have e:=Z0m ho; subst e
  simp [execOp,heq,ha.ev h]
 ·cases ho
def Z4 (op:BinOp) (k:IntKind) (x y:Int):Int :=
 match op with
 | .and=>k.wrap (BitVec.ofInt k.bits x &&& BitVec.ofInt k.bits y).toNat
 | .or=>k.wrap (BitVec.ofInt k.bits x ||| BitVec.ofInt k.bits y).toNat
 | .xor=>k.wrap (BitVec.ofInt k.bits x ^^^ BitVec.ofInt k.bits y).toNat
 | .andNot=>k.wrap (BitVec.ofInt k.bits x &&& ~~~BitVec.ofInt k.bits y).toNat
 | _=>0
def unV:UnOp->Value->Option Value
 | .neg,.int k n=>some (.int k (k.wrap (0-n)))
 | .xor,.int k n=>some (.int k (Z4 .xor k (if k.signed then -1 else k.max) n))
 | .not,.bool b=>some (.bool !b)
 | _,_=>none
theorem Zuu {op:UnOp} {x:Operand} {u v:Value} (h:ev t x=some u) (hv:unV op u=some v):Q1 C m t (.un op x) v:=by
 intro o ho a ha w hw
 refine Z0t ?_
 simp only [Za4] at ho
 split at ho
 ·rename_i op' T x' heq
  simp only [Bool.and_eq_true,decide_eq_true_eq] at ho
  obtain ⟨h1,h2⟩:=ho
  have e:=Z0m h2; subst e; subst h1
  simp only [execOp,heq,ha.ev h]
  refine Ze5 ?_
  unfold unV at hv
  split at hv
  ·injection hv with hv; subst hv; rfl
  ·injection hv with hv; subst hv; rfl
  ·injection hv with hv; subst hv; rfl
  ·cases hv
 ·cases ho
def binV:BinOp->IntKind->Int->Int->Option Value
 | .add,k,x,y=>some (.int k (k.wrap (x+y)))
 | .sub,k,x,y=>some (.int k (k.wrap (x-y)))
 | .mul,k,x,y=>some (.int k (k.wrap (x*y)))
 | .and,k,x,y=>some (.int k (Z4 .and k x y))
 | .or,k,x,y=>some (.int k (Z4 .or k x y))
 | .xor,k,x,y=>some (.int k (Z4 .xor k x y))
 | .andNot,k,x,y=>some (.int k (Z4 .andNot k x y))
 | .eql,_,x,y=>some (.bool (x==y))
 | .neq,_,x,y=>some (.bool (x != y))
 | .lss,_,x,y=>some (.bool (decide (x<y)))
 | .leq,_,x,y=>some (.bool (decide (x<=y)))
 | .gtr,_,x,y=>some (.bool (decide (x>y)))
 | .geq,_,x,y=>some (.bool (decide (x≥y)))
 | _,_,_,_=>none
theorem Zl2 {P:Program} {o:Oper} {op:BinOp} {x y:Operand} (h:Za4 P o (.bin op x y)=true) : ∃ T T',o.op = .binOp op T x y T':=by
 simp only [Za4] at h
 split at h
 ·rename_i op' T x' y' T' heq
  simp only [Bool.and_eq_true,decide_eq_true_eq] at h
  obtain ⟨⟨h1,h2⟩,h3⟩:=h
  have e:=Z0m h2; have e':=Z0m h3; subst e; subst e'; subst h1
  exact ⟨T,T',heq⟩
 ·cases h
theorem Zbk {op:BinOp} {x y:Operand} {k:IntKind} {p q:Int} {v:Value} (hx:ev t x=some (.int k p)) (hy:ev t y=some (.int k q)) (hv:binV op k p q=some v):Q1 C m t (.bin op x y) v:=by
 intro o ho a ha w hw
 refine Z0t ?_
 obtain ⟨T,T',heq⟩:=Zl2 ho
 simp only [execOp,heq,ha.ev hx,ha.ev hy]
 refine Ze5 ?_
 unfold binV at hv
 split at hv <;> first
  | (cases hv; done)
  | (injection hv with hv; subst hv; simp [eqGuard_at_int,binOp,Op.intArith,Op.intBits,Op.intCmp,Z4]; done)
theorem Zbl {x y:Operand} {k:IntKind} {p q:Int} (hx:ev t x=some (.int k p)) (hy:ev t y=some (.int k q)) (hq:q≠0):Q1 C m t (.bin .quo x y) (.int k (k.wrap (p.tdiv q))):=by
 intro o ho a ha w hw
 refine Z0t ?_
 obtain ⟨T,T',heq⟩:=Zl2 ho
 simp only [execOp,heq,ha.ev hx,ha.ev hy]
 refine Ze5 ?_
 simp [eqGuard_at_int,binOp,Op.intDiv,hq]
theorem Zdp {x y:Operand} {k:IntKind} {p q:Int} (hx:ev t x=some (.int k p)) (hy:ev t y=some (.int k q)) (hq:q≠0):Q1 C m t (.bin .rem x y) (.int k (p.tmod q)):=by
 intro o ho a ha w hw
 refine Z0t ?_
 obtain ⟨T,T',heq⟩:=Zl2 ho
 simp only [execOp,heq,ha.ev hx,ha.ev hy]
 refine Ze5 ?_
 simp [eqGuard_at_int,binOp,Op.intDiv,hq]
theorem Zno {x y:Operand} {k k':IntKind} {p q:Int} (hx:ev t x=some (.int k p)) (hy:ev t y=some (.int k' q)) (hq:0<=q):Q1 C m t (.bin .shl x y) (.int k (k.wrap (p*2^min q.toNat k.bits))):=by
 intro o ho a ha w hw
 refine Z0t ?_
 obtain ⟨T,T',heq⟩:=Zl2 ho
 simp only [execOp,heq,ha.ev hx,ha.ev hy]
 refine Ze5 ?_
 have : ¬ q<0:=by omega
 simp [eqGuard_at_int,binOp,Op.shift,this]
theorem Z61 {x y:Operand} {k k':IntKind} {p q:Int} (hx:ev t x=some (.int k p)) (hy:ev t y=some (.int k' q)) (hq:0<=q):Q1 C m t (.bin .shr x y) (.int k (p.fdiv (2^min q.toNat k.bits))):=by
 intro o ho a ha w hw
 refine Z0t ?_
 obtain ⟨T,T',heq⟩:=Zl2 ho
 simp only [execOp,heq,ha.ev hx,ha.ev hy]
 refine Ze5 ?_
 have : ¬ q<0:=by omega
 simp [eqGuard_at_int,binOp,Op.shift,this]
theorem Zpo {k k':IntKind} {x:Operand} {n:Int} (h:ev t x=some (.int k' n)):Q1 C m t (.conv k x) (.int k (k.wrap n)):=by
 intro o ho a ha w hw
 refine Z0t ?_
 simp only [Za4] at ho
 split at ho
 ·rename_i S D x' heq
  simp only [Bool.and_eq_true] at ho
  obtain ⟨⟨h1,h2⟩,h3⟩:=ho
  have e:=Z0m h1; subst e
  split at h2
  ·rename_i k2 hD
   have hk:k2=k:=by simpa using h2
   subst hk
   obtain ⟨dS,hS⟩:=Option.isSome_iff_exists.1 h3
   simp only [execOp,heq,ha.ev h]
   refine Ze5 ?_
   simp only [convert,Sem.run_bind,Z01 hS,Z01 hD,Result.andThen_ok]
   cases dS <;> rfl
  ·cases h2
 ·cases ho
theorem Z0bq {P:Program} {o:Oper} {n:Nat} {ag:Bool} {x:Operand} (h:Za4 P o (.ld n ag x)=true) : ∃ T,o.op = .load T x/\Zf2 P T=some n/\Zf4 P T=some ag:=by
 simp only [Za4] at h
 split at h
 ·rename_i T x' heq
  simp only [Bool.and_eq_true,beq_iff_eq] at h
  obtain ⟨⟨h1,h2⟩,h3⟩:=h
  have e:=Z0m h1; subst e
  exact ⟨T,heq,h2,h3⟩
 ·cases h
theorem Z50 {P:Program} {o:Oper} {n:Nat} {ag:Bool} {x:Operand} {a:Act} {w:World} {b off:Nat} {l:List Value} (ho:Za4 P o (.ld n ag x)=true) (hx:a.eval x = .pointer (some ⟨b,off,none⟩))
  (hl:l.length=n) (hc : ∀ k,k<n->w.cell? ⟨b,off+k,none⟩=l[k]?) (h1:ag=false->n=1):(execOp a.eval o).run P w = .ok (.value (if ag then .agg l.toArray else l.getD 0 undef)) w:=by
 obtain ⟨T,heq,hs,hag⟩:=Z0bq ho
 simp only [execOp,heq,hx]
 refine Ze5 ?_
 simp only [Instr.loadAt,Instr.sureAddr,Sem.run_bind,Sem.run_pure,Result.andThen_ok]
 exact Zkj hs hag hl hc h1
theorem q_ld {n:Nat} {x:Operand} {b off:Nat} {T:TypeId} {fz:Nat×Nat} {s p:List Seg} (hx:ev t x=some (.pointer (some ⟨b,off,none⟩))) (hb:Has b (.cells (cells s).toArray T fz) m) (hs:sub s off n=some p) :
  Q1 C m t (.ld n true x) (agg p):=by
 intro o ho a ha w hw
 obtain ⟨e1,e2,e3⟩:=Za1 hs
 have h:=hw.own _ hb.mem
 refine Z0t ((Z50 ho (ha.ev hx) (l:=cells p) (by rw [cells_length]; exact e2) (fun k hk=>?_) (fun h=>by cases h)).trans rfl)
 simp only [World.cell?,h]
 rw [e1,List.getElem?_take_of_lt hk,List.getElem?_drop]
 simp
theorem Z86 {x:Operand} {b off:Nat} {T:TypeId} {fz:Nat×Nat} {s:List Seg} {v:Value} (hx:ev t x=some (.pointer (some ⟨b,off,none⟩))) (hb:Has b (.cells (cells s).toArray T fz) m) (hs:Z93 s off=some v) :
  Q1 C m t (.ld 1 false x) v:=by
 intro o ho a ha w hw
 have h:=hw.own _ hb.mem
 rw [Zf8] at hs
 refine Z0t ((Z50 ho (ha.ev hx) (l:=[v]) rfl (fun k hk=>?_) (fun _=>rfl)).trans rfl)
 obtain rfl:k=0:=by omega
 simp only [World.cell?,h]
 simpa using hs
theorem Z32 {x:Operand} {b base i len:Nat} {T:TypeId} {fz:Nat×Nat} {s:List Seg} {k:IntKind} {xs:List Int} (hx:ev t x=some (.pointer (some ⟨b,base+i*1,none⟩))) (hb:Has b (.cells (cells s).toArray T fz) m)
  (hs:Ze6 s base=some (.ints k len xs)) (hi:i<len):Q1 C m t (.ld 1 false x) (.int k (xs.getD i 0)):=by
 intro o ho a ha w hw
 have h:=hw.own _ hb.mem
 refine Z0t ((Z50 ho (ha.ev hx) (l:=[.int k (xs.getD i 0)]) rfl (fun k hk=>?_) (fun _=>rfl)).trans rfl)
 obtain rfl:k=0:=by omega
 simp only [World.cell?,h]
 have:=Z7x hs i hi
 simp only [Seg.cells,Z2i hi] at this
 simpa using this
theorem Z03q {s:List Seg} {base w len i:Nat} {g:Nat->List Value} {q p:List Seg} {c n:Nat} (hs:Ze6 s base=some (.rows w len g)) (hi:i<len) (hq:g i=cells q) (hw:width q=w) (hp:sub q c n=some p) (k:Nat) (hk:k<n) :
  (cells s)[base+i*w+c+k]? = (cells p)[k]? := by
 obtain ⟨e1,e2,e3⟩:=Za1 hp
 have hn:c+n<=w:=by rcases e3 with e3 | e3 <;> omega
 have hle:i*w+w<=len*w:=by rw [<- Nat.succ_mul]; exact Nat.mul_le_mul_right w hi
 have:=Z7x hs (i*w+(c+k)) (by simp only [Seg.width]; omega)
 rw [show base+i*w+c+k=base+(i*w+(c+k)) by omega,this]
 simp only [Seg.cells]
 rw [Z8o hi (by omega),hq,Zaq (by rw [cells_length]; exact hw),e1,List.getElem?_take_of_lt hk,List.getElem?_drop]
theorem Z0c5 {n:Nat} {x:Operand} {b base i w len c:Nat} {T:TypeId} {fz:Nat×Nat} {s q p:List Seg} {g:Nat->List Value} (hx:ev t x=some (.pointer (some ⟨b,base+i*w+c,none⟩))) (hb:Has b (.cells (cells s).toArray T fz) m)
  (hs:Ze6 s base=some (.rows w len g)) (hi:i<len) (hq:g i=cells q) (hw:width q=w) (hp:sub q c n=some p):Q1 C m t (.ld n true x) (agg p):=by
 intro o ho a ha wd hwd
 have h:=hwd.own _ hb.mem
 obtain ⟨e1,e2,e3⟩:=Za1 hp
 refine Z0t ((Z50 ho (ha.ev hx) (l:=cells p) (by rw [cells_length]; exact e2) (fun k hk=>?_) (fun h=>by cases h)).trans rfl)
 simp only [World.cell?,h]
 have:=Z03q hs hi hq hw hp k hk
 simpa using this
structure Mem (W:World) (b off:Nat) (s:List Seg):Prop where
 cell : ∀ i,i<width s->W.cell? ⟨b,off+i,none⟩=(cells s)[i]?
 lt:b<W.heap.size
theorem Mem.now {C:Cfg} {m:List Zd} {w:World} {b off:Nat} {s:List Seg} (h:Mem C.W0 b off s) (hS:b∉C.S) (hw:Sat C.W0 C.S m w) {i:Nat} (hi:i<width s):w.cell? ⟨b,off+i,none⟩=(cells s)[i]? := by
 rw [<- h.cell i hi]
 unfold World.cell?
 rw [hw.fr.block b h.lt hS]
theorem Z004 {n:Nat} {x:Operand} {b o0 off:Nat} {s p:List Seg} (hx:ev t x=some (.pointer (some ⟨b,o0+off,none⟩))) (hm:Mem C.W0 b o0 s) (hS:b∉C.S) (hs:sub s off n=some p) :
  Q1 C m t (.ld n true x) (agg p):=by
 intro o ho a ha w hw
 obtain ⟨e1,e2,e3⟩:=Za1 hs
 refine Z0t ((Z50 ho (ha.ev hx) (l:=cells p) (by rw [cells_length]; exact e2) (fun k hk=>?_) (fun h=>by cases h)).trans rfl)
 rw [Nat.add_assoc,hm.now hS hw (i:=off+k) (by rcases e3 with e3 | e3 <;> omega),e1,List.getElem?_take_of_lt hk,List.getElem?_drop]
theorem Zn7 {x:Operand} {b o0 off:Nat} {s:List Seg} {v:Value} (hx:ev t x=some (.pointer (some ⟨b,o0+off,none⟩))) (hm:Mem C.W0 b o0 s) (hS:b∉C.S) (hs:Z93 s off=some v) :
  Q1 C m t (.ld 1 false x) v:=by
 intro o ho a ha w hw
 rw [Zf8] at hs
 have hlt:off<width s:=by
  have:=(List.getElem?_eq_some_iff.1 hs).1
  rw [cells_length] at this; exact this
 refine Z0t ((Z50 ho (ha.ev hx) (l:=[v]) rfl (fun k hk=>?_) (fun _=>rfl)).trans rfl)
 obtain rfl:k=0:=by omega
 rw [Nat.add_zero,hm.now hS hw hlt,hs]; rfl
theorem Z037 {x:Operand} {b o0 i len:Nat} {k:IntKind} {xs:List Int} (hx:ev t x=some (.pointer (some ⟨b,o0+i*1,none⟩))) (hm:Mem C.W0 b o0 [.ints k len xs]) (hS:b∉C.S) (hi:i<len) :
  Q1 C m t (.ld 1 false x) (.int k (xs.getD i 0)):=by
 intro o ho a ha w hw
 refine Z0t ((Z50 ho (ha.ev hx) (l:=[.int k (xs.getD i 0)]) rfl (fun k hk=>?_) (fun _=>rfl)).trans rfl)
 obtain rfl:k=0:=by omega
 rw [Nat.add_zero,Nat.mul_one,hm.now hS hw (by simpa [width,Seg.width] using hi)]
 simp [cells,Seg.cells,Z2i hi]
theorem Zrm {off:Nat} {x:Operand} {b o1:Nat} (h:ev t x=some (.pointer (some ⟨b,o1,none⟩))):Q1 C m t (.fa off x) (.pointer (some ⟨b,o1+off,none⟩)):=by
 intro o ho a ha w hw
 refine Z0t ?_
 simp only [Za4] at ho
 split at ho
 ·rename_i T x' f heq
  simp only [Bool.and_eq_true] at ho
  obtain ⟨h1,h2⟩:=ho
  have e:=Z0m h1; subst e
  split at h2
  ·rename_i fs hu
   split at h2
   ·rename_i fd hf
    simp only [Bool.and_eq_true,decide_eq_true_eq] at h2
    obtain ⟨h3,h4⟩:=h2
    subst h3
    split at h4
    ·rename_i sz hsz
     have hne:sz≠0:=by simpa using h4
     simp only [execOp,heq,ha.ev h]
     refine Ze5 ?_
     simp only [Instr.fieldAt,Sem.run_bind,Z01 hu,Result.andThen_ok,hf,Instr.sureAddr,Sem.run_pure,fieldPlace,Z3j (T:=fd.type) (n:=sz) (by rw [hsz]; simp),hne,if_false,Addr.add_lit]
    ·cases h4
   ·cases h2
  ·cases h2
 ·cases ho
theorem q_ia {len w:Nat} {x i:Operand} {b o1:Nat} {k:IntKind} {z:Int} (h:ev t x=some (.pointer (some ⟨b,o1,none⟩))) (hi:ev t i=some (.int k z)) (hz:0<=z/\z<len) :
  Q1 C m t (.ia len w x i) (.pointer (some ⟨b,o1+z.toNat*w,none⟩)):=by
 intro o ho a ha wd hw
 refine Z0t ?_
 simp only [Za4] at ho
 split at ho
 ·rename_i T x' i' heq
  simp only [Bool.and_eq_true] at ho
  obtain ⟨⟨h1,h2⟩,h3⟩:=ho
  have e:=Z0m h1; have e':=Z0m h2; subst e; subst e'
  split at h3
  ·rename_i l el hu
   simp only [Bool.and_eq_true,decide_eq_true_eq] at h3
   obtain ⟨h4,h5⟩:=h3
   subst h4
   simp only [execOp,heq,ha.ev h,ha.ev hi]
   refine Ze5 ?_
   simp [Instr.indexAt,asIntOf,Z01 hu,Instr.sureAddr,hz,Z3j h5,Addr.add_lit]
  ·cases h3
 ·cases ho
theorem Z0zf {w:Nat} {x i:Operand} {b o1 len cp:Nat} {k:IntKind} {z:Int} (h:ev t x=some (.slice (some ⟨b,o1,none⟩) len cp)) (hi:ev t i=some (.int k z)) (hz:0<=z/\z<len) :
  Q1 C m t (.ias w x i) (.pointer (some ⟨b,o1+z.toNat*w,none⟩)):=by
 intro o ho a ha wd hw
 refine Z0t ?_
 simp only [Za4] at ho
 split at ho
 ·rename_i T x' i' heq
  simp only [Bool.and_eq_true] at ho
  obtain ⟨⟨h1,h2⟩,h3⟩:=ho
  have e:=Z0m h1; have e':=Z0m h2; subst e; subst e'
  split at h3
  ·rename_i el hu
   simp only [execOp,heq,ha.ev h,ha.ev hi]
   refine Ze5 ?_
   simp [Instr.indexAt,asIntOf,Z01 hu,Instr.sureAddr,hz,Z3j h3,Addr.add_lit]
  ·cases h3
 ·cases ho
theorem Zgo {P:Program} {T:TypeId} {n off:Nat} {ag:Bool} (hs:(Zf2 P T==some n)=true) (hag:(Zf4 P T==some ag)=true) {l:List Value} {w:World} {v:Value}
  (hv:ag=true->v = .agg ((l.drop off).take n).toArray) (hv1:ag=false->l[off]? = some v):(part T l.toArray off).run P w = .ok v w:=by
 unfold Zf4 at hag
 cases hu:P.underlying T with
 | none=>rw [hu] at hag; simp at hag
 | some dsc =>
  rw [hu] at hag
  simp only [Option.map_some,beq_iff_eq,Option.some.injEq] at hag
  have hagg:(isAgg T).run P w = .ok ag w:=by
   simp only [isAgg,Sem.run_bind,Z01 hu,Result.andThen_ok]
   subst hag
   cases dsc <;> rfl
  simp only [part,Sem.run_bind,hagg,Result.andThen_ok]
  cases ag with
  | true =>
   rw [hv rfl]
   simp [Z3j hs,List.extract_eq_take_drop]
  | false=>simp [hv1 rfl]
theorem Z06m {P:Program} {o:Oper} {off n:Nat} {ag:Bool} {x:Operand} (h:Za4 P o (.fld off n ag x)=true) :
  ∃ T f fs fd,o.op = .field T x f/\P.underlying T=some (.struct fs)/\fs[f]? = some fd/\fd.offset=off/\(Zf2 P fd.type==some n)=true/\(Zf4 P fd.type==some ag)=true:=by
 simp only [Za4] at h
 split at h
 ·rename_i T x' f heq
  simp only [Bool.and_eq_true] at h
  obtain ⟨h1,h2⟩:=h
  have e:=Z0m h1; subst e
  split at h2
  ·rename_i fs hu
   split at h2
   ·rename_i fd hf
    simp only [Bool.and_eq_true,decide_eq_true_eq] at h2
    obtain ⟨⟨h3,h4⟩,h5⟩:=h2
    exact ⟨T,f,fs,fd,heq,hu,hf,h3,h4,h5⟩
   ·cases h2
  ·cases h2
 ·cases h
theorem Z0lx {off:Nat} {x:Operand} {s:List Seg} {v:Value} (h:ev t x=some (agg s)) (hs:Z93 s off=some v):Q1 C m t (.fld off 1 false x) v:=by
 intro o ho a ha w hw
 refine Z0t ?_
 obtain ⟨T,f,fs,fd,heq,hu,hf,h3,h4,h5⟩:=Z06m ho
 subst h3
 simp only [execOp,heq,ha.ev h]
 refine Ze5 ?_
 simp only [Instr.field,agg,Sem.run_bind,Z01 hu,Result.andThen_ok,hf,asAgg,Sem.run_pure]
 exact Zgo h4 h5 (fun h=>by cases h) (fun _=>by rw [<- Zf8]; exact hs)
theorem Zyb {P:Program} {o:Oper} {len w:Nat} {ag:Bool} {x i:Operand} (h:Za4 P o (.idx len w ag x i)=true) :
  ∃ T e,o.op = .index T x i/\P.underlying T=some (.array len e)/\(Zf2 P e==some w)=true/\(Zf4 P e==some ag)=true:=by
 simp only [Za4] at h
 split at h
 ·rename_i T x' i' heq
  simp only [Bool.and_eq_true] at h
  obtain ⟨⟨h1,h2⟩,h3⟩:=h
  have e:=Z0m h1; have e':=Z0m h2; subst e; subst e'
  split at h3
  ·rename_i l el hu
   simp only [Bool.and_eq_true,decide_eq_true_eq] at h3
   obtain ⟨⟨h4,h5⟩,h6⟩:=h3
   subst h4
   exact ⟨T,el,heq,hu,h5,h6⟩
  ·cases h3
 ·cases h
theorem Zn6 {len:Nat} {x i:Operand} {k k':IntKind} {xs:List Int} {z:Int} (h:ev t x=some (agg [.ints k len xs])) (hi:ev t i=some (.int k' z)) (hz:0<=z/\z<len) :
  Q1 C m t (.idx len 1 false x i) (.int k (xs.getD z.toNat 0)):=by
 intro o ho a ha w hw
 refine Z0t ?_
 obtain ⟨T,e,heq,hu,h5,h6⟩:=Zyb ho
 simp only [execOp,heq,ha.ev h,ha.ev hi]
 refine Ze5 ?_
 simp only [Instr.index,agg,asIntOf,Sem.run_bind,Sem.run_pure,Z01 hu,Result.andThen_ok,hz,and_self,if_true,Z3j h5]
 refine Zgo h5 h6 (fun h=>by cases h) (fun _=>?_)
 rw [Nat.mul_one]
 simp only [cells,Seg.cells,List.append_nil]
 exact Z2i (by omega)
theorem Zpp {x:Operand} {i:Nat} {vs:Array Value} {v:Value} (h:ev t x=some (.tuple vs)) (hv:vs.toList[i]? = some v):Q1 C m t (.ext x i) v:=by
 have hv:vs[i]? = some v:=by rw [<- Array.getElem?_toList]; exact hv
 intro o ho a ha w hw
 refine Z0t ?_
 simp only [Za4] at ho
 split at ho
 ·rename_i x' i' heq
  simp only [Bool.and_eq_true,decide_eq_true_eq] at ho
  obtain ⟨h1,h2⟩:=ho
  have e:=Z0m h1; subst e; subst h2
  simp only [execOp,heq,ha.ev h]
  refine Ze5 ?_
  simp [Instr.extract,hv]
 ·cases ho
theorem Z02q {P:Program} {o:Oper} {f:FuncId} {args:List Operand} (h:Za4 P o (.call f args)=true) : ∃ c,o.op = .call c/\c.callee = .value (.func f)/\c.args.toList=args /\ ∃ fn,P.funcs[f]? = some fn/\fn.body.isSome=true/\(fn.name == "runtime.NumGoroutine")=false:=by
 simp only [Za4] at h
 split at h
 ·rename_i c heq
  simp only [Bool.and_eq_true] at h
  obtain ⟨⟨h1,h2⟩,h3⟩:=h
  split at h1
  ·rename_i f' hc
   rw [Nat.beq_eq] at h1; subst h1
   split at h3
   ·rename_i fn hfn
    simp only [Bool.and_eq_true,Bool.not_eq_true'] at h3
    exact ⟨c,heq,hc,Z81 h2,fn,hfn,h3.1,h3.2⟩
   ·cases h3
  ·cases h1
 ·cases h
theorem Zyu {P:Program} {o:Oper} {f:FuncId} {args:List Operand} {a:Act} {w:World} (h:Za4 P o (.call f args)=true):(execOp a.eval o).run P w = .ok (.enter f (args.map a.eval).toArray) w:=by
 obtain ⟨c,heq,hc,ha,fn,hfn,hb,hn⟩:=Z02q h
 have hb':fn.body.isNone=false:=by cases hfb:fn.body <;> simp_all
 have hargs:c.args.map a.eval=(args.map a.eval).toArray:=by
  rw [<- ha,<- Array.toList_map,Array.toArray_toList]
 have hf:(Act.eval a) (.func f) = .func (.func f) #[] #[]:=rfl
 simp only [execOp,heq,resolve,hc,hf,Deferred.ofValue,Sem.run_bind,Sem.run_pure,Result.andThen_ok,invoke,Array.append_empty,Array.empty_append,hargs,callFunc]
 have hn':fn.name ≠ "runtime.NumGoroutine" := by simpa using hn
 have hb2:fn.body≠none:=by intro e; rw [e] at hb; cases hb
 simp [program,Sem.run,hfn,hn',hb2]
theorem Z06 {f:FuncId} {args:List Operand} {vs:List Value} {v:Value} (ha:evL t args=some vs) (h : ∀ w,Sat C.W0 C.S m w->Calls C.P f vs.toArray w (Z1w w v)):Q1 C m t (.call f args) v:=by
 intro o ho a hat w hw
 unfold Oper.quietAt
 rw [Zyu ho,hat.evL ha]
 exact ⟨rfl,(h w hw).mono fun e w' he=>he⟩
theorem Z06n {P:Program} {o:Oper} {x:Operand} (h:Za4 P o (.len x)=true) : ∃ c T e,o.op = .call c/\c.callee = .builtin .len/\c.args = #[x]/\c.argTypes[0]? = some T/\P.underlying T=some (.slice e):=by
 simp only [Za4] at h
 split at h
 ·rename_i c heq
  simp only [Bool.and_eq_true] at h
  obtain ⟨⟨h1,h2⟩,h3⟩:=h
  split at h1
  ·rename_i hc
   split at h3
   ·rename_i e he
    have ha:c.args = #[x]:=by
     have:=Z81 h2
     rw [<- Array.toArray_toList (xs:=c.args),this]
    cases hT:c.argTypes[0]? with
    | none=>rw [hT] at he; cases he
    | some T=>rw [hT] at he; exact ⟨c,T,e,heq,hc,ha,hT,he⟩
   ·cases h3
  ·cases h1
 ·cases h
theorem Z06y {x:Operand} {a0:Option Addr} {n c:Nat} (h:ev t x=some (.slice a0 n c)):Q1 C m t (.len x) (.int .i64 n):=by
 intro o ho a ha w hw
 refine Z0t ?_
 obtain ⟨c,T,e,heq,hc,hargs,hT,hu⟩:=Z06n ho
 simp only [execOp,heq,resolve,hc,Sem.run_bind,Sem.run_pure,Result.andThen_ok,invoke,builtin,hargs]
 have hx:=ha.ev h
 simp [Builtin.len_,hT,hx,Z01 hu,goInt]
end
end Go.Sx
namespace Go.Sx
open Go Go.RowKit
open List (replicate)
set_option linter.all false
def kdOk:Kd->Value->Bool
 | .i k,.int k' _=>decide (k=k')
 | .b,.bool _=>true
 | _,_=>false
def Z68:List Kd->List Value->Bool
 | [],[]=>true
 | k::r,v::l=>kdOk k v&&Z68 r l
 | _,_=>false
theorem Z3x : ∀ {ks:List Kd} {l:List Value},Z68 ks l=true->l.length=ks.length
 | [],[],_=>rfl
 | [],_::_,h=>by simp [Z68] at h
 | _::_,[],h=>by simp [Z68] at h
 | k::r,v::l,h=>by
  simp only [Z68,Bool.and_eq_true] at h
  simp [Z3x h.2]
theorem Z7c : ∀ {ks ks':List Kd} {l:List Value},Z68 (ks++ks') l=true->Z68 ks (l.take ks.length)=true/\Z68 ks' (l.drop ks.length)=true
 | [],ks',l,h=>by simpa [Z68] using h
 | k::r,ks',[],h=>by simp [Z68] at h
 | k::r,ks',v::l,h=>by
  simp only [List.cons_append,Z68,Bool.and_eq_true] at h
  obtain ⟨h1,h2⟩:=Z7c h.2
  simp [Z68,h.1,h1,h2]
noncomputable def same (l l':List Value):Bool:=@decide (l=l') (Classical.propDecidable _)
theorem Zfz {l l':List Value}:same l l'=true↔l=l':=by simp [same]
theorem Zru {a b a' b':List Value} (h:a.length=a'.length):same (a++b) (a'++b')=(same a a'&&same b b'):=by
 rw [Bool.eq_iff_iff,Bool.and_eq_true,Zfz,Zfz,Zfz]
 constructor
 ·intro e; exact List.append_inj e h
 ·rintro ⟨rfl,rfl⟩; rfl
section
variable {P:Program}
def EqOk (P:Program) (d:Nat) (T:TypeId) (ks:List Kd):Prop :=
 ∀ (w:World) (l l':List Value),Z68 ks l=true->Z68 ks l'=true ->
  (Zf4 P T=some true->(Op.equalIn d T (.agg l.toArray) (.agg l'.toArray)).run P w = .ok (same l l') w) /\
  (Zf4 P T=some false->∀ v v',l = [v]->l' = [v']->(Op.equalIn d T v v').run P w = .ok (same l l') w)
theorem Zue {d:Nat} {T:TypeId} {ks:List Kd} (h:EqOk P d T ks) (hs:(Zf2 P T==some ks.length)=true) (ha:agOk P T ks.length=true)
  (w:World) (xs ys:List Value) (off:Nat) (hx:Z68 ks ((xs.drop off).take ks.length)=true) (hy:Z68 ks ((ys.drop off).take ks.length)=true) :
  ((do let a <- part T xs.toArray off; let b <- part T ys.toArray off; Op.equalIn d T a b:Sem Bool)).run P w = .ok (same ((xs.drop off).take ks.length) ((ys.drop off).take ks.length)) w:=by
 unfold agOk at ha
 cases hag:Zf4 P T with
 | none=>rw [hag] at ha; cases ha
 | some ag =>
  cases ag with
  | true =>
   simp only [Sem.run_bind]
   rw [Zgo (n:=ks.length) (ag:=true) hs (by rw [hag]; rfl) (fun _=>rfl) (fun h=>by cases h)]
   simp only [Result.andThen_ok]
   rw [Zgo (n:=ks.length) (ag:=true) hs (by rw [hag]; rfl) (fun _=>rfl) (fun h=>by cases h)]
   simp only [Result.andThen_ok]
   exact (h w _ _ hx hy).1 hag
  | false =>
   rw [hag] at ha
   have h1:ks.length=1:=by simpa using ha
   have hlx:=Z3x hx
   have hly:=Z3x hy
   rw [h1] at hlx hly
   obtain ⟨v,hv⟩:=List.length_eq_one_iff.1 hlx
   obtain ⟨v',hv'⟩:=List.length_eq_one_iff.1 hly
   have gx:xs[off]? = some v:=by
    have:((xs.drop off).take ks.length)[0]? = some v:=by rw [h1,hv]; rfl
    rw [List.getElem?_take_of_lt (by omega),List.getElem?_drop] at this
    simpa using this
   have gy:ys[off]? = some v':=by
    have:((ys.drop off).take ks.length)[0]? = some v':=by rw [h1,hv']; rfl
    rw [List.getElem?_take_of_lt (by omega),List.getElem?_drop] at this
    simpa using this
   simp only [Sem.run_bind]
   rw [Zgo (n:=ks.length) (ag:=false) hs (by rw [hag]; rfl) (fun h=>by cases h) (fun _=>gx)]
   simp only [Result.andThen_ok]
   rw [Zgo (n:=ks.length) (ag:=false) hs (by rw [hag]; rfl) (fun h=>by cases h) (fun _=>gy)]
   simp only [Result.andThen_ok]
   exact (h w _ _ hx hy).2 hag v v' (by rw [h1]; exact hv) (by rw [h1]; exact hv')
def Zb0 (P:Program) (d:Nat) (acc:Option (List Kd)) (f:Field):Option (List Kd):=match acc,Zgg P d f.type with
 | some l,some l'=>if (f.name != "_")&&decide (f.offset=l.length)&&(Zf2 P f.type==some l'.length)&&agOk P f.type l'.length then some (l++l') else none
 | _,_=>none
theorem Zlz {d:Nat} : ∀ (fs:List Field),fs.foldl (Zb0 P d) none=none
 | []=>rfl
 | f::fs=>by rw [List.foldl_cons]; exact Zlz fs
theorem Ztx {d D:Nat} (ih : ∀ T ks,Zgg P d T=some ks->EqOk P D T ks) : ∀ (fs:List Field) (acc ks:List Kd),fs.foldl (Zb0 P d) (some acc)=some ks->∃ rest,ks=acc++rest /\
  ∀ (w:World) (l l':List Value),Z68 ks l=true->Z68 ks l'=true ->
   (Op.eqFields D l.toArray l'.toArray fs).run P w = .ok (same (l.drop acc.length) (l'.drop acc.length)) w
 | [],acc,ks,h=>by
  simp only [List.foldl_nil,Option.some.injEq] at h
  subst h
  refine ⟨[],by simp,fun w l l' hl hl'=>?_⟩
  have h1:=Z3x hl
  have h2:=Z3x hl'
  rw [List.drop_of_length_le (by omega),List.drop_of_length_le (by omega)]
  simp [Op.eqFields,same]
 | f::fs,acc,ks,h=>by
  rw [List.foldl_cons] at h
  cases hk:Zgg P d f.type with
  | none =>
   rw [show Zb0 P d (some acc) f=none by simp [Zb0,hk],Zlz] at h; cases h
  | some l1 =>
   by_cases hc:((f.name != "_")&&decide (f.offset=acc.length)&&(Zf2 P f.type==some l1.length)&&agOk P f.type l1.length)=true
   ·rw [show Zb0 P d (some acc) f=some (acc++l1) by simp only [Zb0,hk]; rw [if_pos hc]] at h
    obtain ⟨rest,e,H⟩:=Ztx ih fs (acc++l1) ks h
    refine ⟨l1++rest,by rw [e,List.append_assoc],fun w l l' hl hl'=>?_⟩
    simp only [Bool.and_eq_true,decide_eq_true_eq] at hc
    obtain ⟨⟨⟨c1,c2⟩,c3⟩,c4⟩:=hc
    have c1':f.name ≠ "_" := by simpa using c1
    have hx:Z68 l1 ((l.drop acc.length).take l1.length)=true:=by
     rw [e,List.append_assoc] at hl
     exact (Z7c (Z7c hl).2).1
    have hy:Z68 l1 ((l'.drop acc.length).take l1.length)=true:=by
     rw [e,List.append_assoc] at hl'
     exact (Z7c (Z7c hl').2).1
    have hp:=Zue (ih f.type l1 hk) c3 c4 w l l' acc.length hx hy
    simp only [Op.eqFields]
    rw [if_pos c1',c2]
    have hbind:(do
      let a <- part f.type l.toArray acc.length
      let b <- part f.type l'.toArray acc.length
      let r <- Op.equalIn D f.type a b
      if (!r)=true then pure false else Op.eqFields D l.toArray l'.toArray fs:Sem Bool) =
      ((do let a <- part f.type l.toArray acc.length; let b <- part f.type l'.toArray acc.length; Op.equalIn D f.type a b:Sem Bool) >>= fun r=>if (!r)=true then pure false else Op.eqFields D l.toArray l'.toArray fs):=by
     simp only [bind_assoc]
    rw [hbind,Sem.run_bind,hp]
    simp only [Result.andThen_ok]
    have hsp:same (l.drop acc.length) (l'.drop acc.length)=(same ((l.drop acc.length).take l1.length) ((l'.drop acc.length).take l1.length)&&same ((l.drop acc.length).drop l1.length) ((l'.drop acc.length).drop l1.length)):=by
     rw [<- Zru (by rw [Z3x hx,Z3x hy]),List.take_append_drop,List.take_append_drop]
    rw [hsp]
    cases hsm:same ((l.drop acc.length).take l1.length) ((l'.drop acc.length).take l1.length) with
    | false=>simp
    | true =>
     simp only [Bool.not_true,Bool.false_eq_true,if_false,Bool.true_and]
     rw [H w l l' hl hl',List.length_append,List.drop_drop,List.drop_drop]
   ·rw [show Zb0 P d (some acc) f=none by simp only [Zb0,hk]; rw [if_neg hc],Zlz] at h; cases h
def Op.eqElems (D e n:Nat) (xs ys:Array Value):List Nat->Sem Bool
 | []=>pure true
 | i::r=>do
  let a <- part e xs (i*n)
  let b <- part e ys (i*n)
  let q <- Go.Op.equalIn D e a b
  if (!q)=true then pure false else eqElems D e n xs ys r
theorem Zmk (w:World) (D:Nat) (t e len n:Nat) (xs ys:Array Value) (ht:P.underlying t=some (.array len e)) (hs:(Zf2 P e==some n)=true) :
  (Go.Op.equalIn (D+1) t (.agg xs) (.agg ys)).run P w=(Op.eqElems D e n xs ys (List.range' 0 len)).run P w:=by
 simp only [Go.Op.equalIn,Sem.run_bind,Z01 ht,Result.andThen_ok,Z3j hs]
 rw [Std.Legacy.Range.forIn_eq_forIn_range']
 simp only [Std.Legacy.Range.size,Nat.sub_zero,Nat.add_sub_cancel,Nat.div_one]
 generalize List.range' 0 len=l
 induction l generalizing w with
 | nil=>simp [Op.eqElems]
 | cons i l ih =>
  simp only [List.forIn_cons,Op.eqElems,Sem.run_bind]
  generalize (part e xs (i*n)).run P w=r1
  cases r1 with
  | ok a w1 =>
   simp only [Result.andThen_ok]
   generalize (part e ys (i*n)).run P w1=r2
   cases r2 with
   | ok b w2 =>
    simp only [Result.andThen_ok]
    generalize (Go.Op.equalIn D e a b).run P w2=r3
    cases r3 with
    | ok q w3 =>
     cases q
     ·simp
     ·simp only [Result.andThen_ok,Bool.not_true,Bool.false_eq_true,if_false,Sem.run_pure]
      exact ih w3
    | halt x w3=>simp [Result.andThen]
   | halt x w2=>simp [Result.andThen]
  | halt x w1=>simp [Result.andThen]
theorem Zhb (n:Nat) (l:List Kd):(replicate (n+1) l).flatten=l++(replicate n l).flatten:=by simp [List.replicate_succ]
theorem Zxv {D e:Nat} {l1:List Kd} (ih:EqOk P D e l1) (hs:(Zf2 P e==some l1.length)=true) (ha:agOk P e l1.length=true) :
  ∀ (len s:Nat) (w:World) (l l':List Value),Z68 (replicate len l1).flatten (l.drop (s*l1.length))=true->Z68 (replicate len l1).flatten (l'.drop (s*l1.length))=true ->
   (Op.eqElems D e l1.length l.toArray l'.toArray (List.range' s len)).run P w = .ok (same (l.drop (s*l1.length)) (l'.drop (s*l1.length))) w
 | 0,s,w,l,l',hl,hl'=>by
  have h1:=Z3x hl
  have h2:=Z3x hl'
  simp only [List.replicate_zero,List.flatten_nil,List.length_nil] at h1 h2
  rw [List.eq_nil_of_length_eq_zero h1,List.eq_nil_of_length_eq_zero h2]
  simp [Op.eqElems,same]
 | len+1,s,w,l,l',hl,hl'=>by
  rw [Zhb] at hl hl'
  obtain ⟨hx,hl2⟩:=Z7c hl
  obtain ⟨hy,hl2'⟩:=Z7c hl'
  have hp:=Zue ih hs ha w l l' (s*l1.length) hx hy
  rw [List.range'_succ]
  simp only [Op.eqElems]
  have hbind:(do
    let a <- part e l.toArray (s*l1.length)
    let b <- part e l'.toArray (s*l1.length)
    let q <- Go.Op.equalIn D e a b
    if (!q)=true then pure false else Op.eqElems D e l1.length l.toArray l'.toArray (List.range' (s+1) len):Sem Bool) =
    ((do let a <- part e l.toArray (s*l1.length); let b <- part e l'.toArray (s*l1.length); Go.Op.equalIn D e a b:Sem Bool) >>= fun q=>if (!q)=true then pure false else Op.eqElems D e l1.length l.toArray l'.toArray (List.range' (s+1) len)):=by
   simp only [bind_assoc]
  rw [hbind,Sem.run_bind,hp]
  simp only [Result.andThen_ok]
  have hsp:same (l.drop (s*l1.length)) (l'.drop (s*l1.length))=(same ((l.drop (s*l1.length)).take l1.length) ((l'.drop (s*l1.length)).take l1.length)&&same ((l.drop (s*l1.length)).drop l1.length) ((l'.drop (s*l1.length)).drop l1.length)):=by
   rw [<- Zru (by rw [Z3x hx,Z3x hy]),List.take_append_drop,List.take_append_drop]
  rw [hsp]
  cases hsm:same ((l.drop (s*l1.length)).take l1.length) ((l'.drop (s*l1.length)).take l1.length) with
  | false=>simp
  | true =>
   simp only [Bool.not_true,Bool.false_eq_true,if_false,Bool.true_and]
   rw [List.drop_drop] at hl2 hl2' ⊢
   rw [List.drop_drop]
   rw [show s*l1.length+l1.length=(s+1)*l1.length by rw [Nat.succ_mul]] at hl2 hl2' ⊢
   exact Zxv ih hs ha len (s+1) w l l' hl2 hl2'
theorem Z0ar : ∀ (d D:Nat) (T:TypeId) (ks:List Kd),d<=D->Zgg P d T=some ks->EqOk P D T ks
 | 0,D,T,ks,_,h=>by simp [Zgg] at h
 | d+1,0,T,ks,hD,h=>by omega
 | d+1,D+1,T,ks,hD,h=>by
  intro w l l' hl hl'
  simp only [Zgg] at h
  split at h
  ·rename_i hu
   injection h with h; subst h
   refine ⟨fun ha=>by simp [Zf4,hu,Zu2] at ha,fun _ v v' e1 e2=>?_⟩
   subst e1; subst e2
   simp only [Z68,Bool.and_true] at hl hl'
   cases v <;> simp [kdOk] at hl
   cases v' <;> simp [kdOk] at hl'
   rename_i a b
   rw [run_equalIn_bool w D T a b hu]
   congr 1
   rw [Bool.eq_iff_iff,Zfz]; simp
  ·rename_i k hu
   injection h with h; subst h
   refine ⟨fun ha=>by simp [Zf4,hu,Zu2] at ha,fun _ v v' e1 e2=>?_⟩
   subst e1; subst e2
   simp only [Z68,Bool.and_true] at hl hl'
   cases v <;> simp [kdOk] at hl
   cases v' <;> simp [kdOk] at hl'
   rename_i k1 a k2 b
   subst hl; subst hl'
   rw [run_equalIn_int w D T k k a b hu]
   congr 1
   rw [Bool.eq_iff_iff,Zfz]; simp
  ·rename_i fs hu
   split at h
   ·cases h
   ·rename_i hst
    refine ⟨fun _=>?_,fun ha=>by simp [Zf4,hu,Zu2] at ha⟩
    have hfo:P.fieldsOf T=fs:=by simp [Program.fieldsOf,hu]
    rw [run_equalIn_struct w D T l.toArray l'.toArray (by rw [hfo]; exact hu) (by simpa using hst),hfo]
    obtain ⟨rest,e,H⟩:=Ztx (P:=P) (d:=d) (D:=D) (fun T ks hk=>Z0ar d D T ks (by omega) hk) fs.toList [] ks h
    have:=H w l l' hl hl'
    simpa using this
  ·rename_i len e hu
   split at h
   ·rename_i l1 hk
    by_cases hc:((Zf2 P e==some l1.length)&&agOk P e l1.length)=true
    ·rw [if_pos hc] at h
     injection h with h; subst h
     simp only [Bool.and_eq_true] at hc
     obtain ⟨c1,c2⟩:=hc
     refine ⟨fun _=>?_,fun ha=>by simp [Zf4,hu,Zu2] at ha⟩
     rw [Zmk w D T e len l1.length l.toArray l'.toArray hu c1]
     have:=Zxv (Z0ar d D e l1 (by omega) hk) c1 c2 len 0 w l l' (by simpa using hl) (by simpa using hl')
     simpa using this
    ·rw [if_neg hc] at h; cases h
   ·cases h
  ·cases h
end
def Z0cv:Seg->List (Kd×Nat)->Option (List (Kd×Nat))
 | _,[]=>none
 | .one (.int k _),(.i k',n)::r=>if k=k' then (match n with | 0=>none | 1=>some r | n+2=>some ((.i k',n+1)::r)) else none
 | .one (.bool _),(.b,n)::r=>match n with | 0=>none | 1=>some r | n+2=>some ((.b,n+1)::r)
 | .one _,_=>none
 | .ints k c _,(.i k',n)::r=>if k=k' then (bif Nat.beq c n then some r else bif Nat.blt c n then some ((.i k',n-c)::r) else none) else none
 | .ints ..,_=>none
 | .rows ..,_=>none
def Zrx:List Seg->List (Kd×Nat)->Bool
 | [],[]=>true
 | [],_=>false
 | s::r,ks=>match Z0cv s ks with
  | some ks'=>Zrx r ks'
  | none=>false
theorem Zht : ∀ {ks ks':List Kd} {l l':List Value},Z68 ks l=true->Z68 ks' l'=true->Z68 (ks++ks') (l++l')=true
 | [],_,[],_,_,h=>h
 | [],_,_::_,_,h,_=>by simp [Z68] at h
 | _::_,_,[],_,h,_=>by simp [Z68] at h
 | k::r,_,v::l,_,h,h'=>by
  simp only [Z68,Bool.and_eq_true] at h
  simp only [List.cons_append,Z68,Bool.and_eq_true]
  exact ⟨h.1,Zht h.2 h'⟩
theorem Zrd (k:IntKind) (xs:List Int) (n:Nat):Z68 (replicate n (.i k)) (intsCells k n xs)=true:=by
 unfold intsCells
 have : ∀ (l:List Nat),Z68 (replicate l.length (.i k)) (l.map fun i=>Value.int k (xs.getD i 0))=true:=by
  intro l
  induction l with
  | nil=>rfl
  | cons i l ih=>simp only [List.length_cons,List.replicate_succ,List.map_cons,Z68,kdOk,decide_true,Bool.true_and]; exact ih
 have h:=this (List.range n)
 simpa using h
theorem Z07p {s:Seg} {ks ks':List (Kd×Nat)} (h:Z0cv s ks=some ks') : ∃ l,kdL ks=l++kdL ks'/\Z68 l s.cells=true:=by
 unfold Z0cv at h
 split at h
 ·cases h
 ·rename_i k _ k' n r
  split at h
  ·rename_i e; subst e
   split at h
   ·cases h
   ·injection h with h; subst h; exact ⟨[.i k],by simp [kdL],by simp [Seg.cells,Z68,kdOk]⟩
   ·injection h with h; subst h; exact ⟨[.i k],by simp [kdL,List.replicate_succ],by simp [Seg.cells,Z68,kdOk]⟩
  ·cases h
 ·split at h
  ·cases h
  ·injection h with h; subst h; exact ⟨[.b],by simp [kdL],by simp [Seg.cells,Z68,kdOk]⟩
  ·injection h with h; subst h; exact ⟨[.b],by simp [kdL,List.replicate_succ],by simp [Seg.cells,Z68,kdOk]⟩
 ·cases h
 ·rename_i k c xs k' n r
  split at h
  ·rename_i e; subst e
   by_cases h1:Nat.beq c n=true
   ·rw [h1,cond_true] at h; injection h with h; subst h
    rw [Nat.beq_eq] at h1; subst h1
    exact ⟨replicate c (.i k),by simp [kdL],Zrd k xs c⟩
   ·rw [Bool.not_eq_true] at h1; rw [h1,cond_false] at h
    by_cases h2:Nat.blt c n=true
    ·rw [h2,cond_true] at h; injection h with h; subst h
     have h2':c<n:=by simpa [Nat.blt_eq] using h2
     refine ⟨replicate c (.i k),?_,Zrd k xs c⟩
     simp only [kdL]
     rw [<- List.append_assoc,List.replicate_append_replicate,show c+(n-c)=n by omega]
    ·rw [Bool.not_eq_true] at h2; rw [h2,cond_false] at h; cases h
  ·cases h
 ·cases h
 ·cases h
theorem Zq5 : ∀ {s:List Seg} {ks:List (Kd×Nat)},Zrx s ks=true->Z68 (kdL ks) (cells s)=true
 | [],[],_=>rfl
 | [],_::_,h=>by simp [Zrx] at h
 | s::r,ks,h=>by
  simp only [Zrx] at h
  split at h
  ·rename_i ks' hk
   obtain ⟨l,e,h1⟩:=Z07p hk
   rw [e,cells]
   exact Zht h1 (Zq5 h)
  ·cases h
section
variable {C:Cfg} {t:TS} {m:List Zd}
theorem Z06x {neg:Bool} {ks:List (Kd×Nat)} {x y:Operand} {s s':List Seg} (hx:ev t x=some (agg s)) (hy:ev t y=some (agg s')) (hs:Zrx s ks=true) (hs':Zrx s' ks=true) (c:Bool) (hc:c=true↔cells s=cells s') :
  Q1 C m t (.eqa neg ks x y) (.bool (bif neg then !c else c)):=by
 intro o ho a ha w hw
 refine Z0t ?_
 simp only [Za4] at ho
 split at ho
 ·rename_i op' T x' y' T' heq
  simp only [Bool.and_eq_true,decide_eq_true_eq,beq_iff_eq,Bool.not_eq_true'] at ho
  obtain ⟨⟨⟨⟨⟨h1,h2⟩,h3⟩,h4⟩,h5⟩,h6⟩:=ho
  have e:=Z0m h2; have e':=Z0m h3; subst e; subst e'
  have hk:=Z0ar (P:=C.P) 12 10000 T (kdL ks) (by omega) h4
  have hr:=(hk w (cells s) (cells s') (Zq5 hs) (Zq5 hs')).1 h5
  have hcs:same (cells s) (cells s')=c:=by rw [Bool.eq_iff_iff,Zfz,hc]
  rw [hcs] at hr
  simp only [execOp,heq,ha.ev hx,ha.ev hy,agg]
  refine Ze5 ?_
  rw [Sem.run_bind,run_eqGuard_agg w _ _ _ _ _ _ h6,Result.andThen_ok]
  cases neg
  ·simp only [Bool.false_eq_true,if_false] at h1
   subst h1
   rw [run_eql_struct,hr]; rfl
  ·simp only [if_true] at h1
   subst h1
   rw [run_neq_struct,hr]; rfl
 ·cases ho
end
end Go.Sx
namespace Go.Sx
open Go Go.RowKit
set_option linter.all false
def one1:Value->Bool
 | .agg _ | .tuple _=>false
 | _=>true
theorem Sat.lt {W0:World} {S:List Nat} {m:List Zd} {w:World} (h:Sat W0 S m w) {c:Zd} (hc:c∈m):c.b<w.heap.size:=(Array.getElem?_eq_some_iff.1 (h.own c hc)).1
theorem Sat.alloc {W0:World} {S:List Nat} {m:List Zd} {w:World} (h:Sat W0 S m w) (o:Obj):Sat W0 S (⟨w.heap.size,o⟩::m) (w.alloc o):=by
 have hb:Below w.heap.size w (w.alloc o):=(Below.refl _ _).alloc (Nat.le_refl _) _
 have h':=h.of_below hb
 refine ⟨h'.fr,?_,?_,?_⟩
 ·intro c hc
  rcases List.mem_cons.1 hc with rfl | hc
  ·show (w.heap.push o)[w.heap.size]? = some o
   simp
  ·exact h'.own c hc
 ·intro c hc
  rcases List.mem_cons.1 hc with rfl | hc
  ·exact .inl h.fr.size
  ·exact h'.base c hc
 ·rw [List.map_cons,List.nodup_cons]
  refine ⟨?_,h.dist⟩
  intro hm
  obtain ⟨c,hc,e⟩:=List.mem_map.1 hm
  have:=h.lt hc
  simp only at e
  omega
inductive Upd (b:Nat) (o o':Obj):List Zd->List Zd->Prop
 | here {m:List Zd}:Upd b o o' (⟨b,o⟩::m) (⟨b,o'⟩::m)
 | there {c:Zd} {m m':List Zd}:Upd b o o' m m'->Upd b o o' (c::m) (c::m')
 | app {ms m m':List Zd}:Upd b o o' m m'->Upd b o o' (ms++m) (ms++m')
theorem Upd.mem {b:Nat} {o o':Obj} {m m':List Zd} (h:Upd b o o' m m'):(⟨b,o⟩:Zd)∈m:=by
 induction h with
 | here=>exact List.mem_cons_self
 | there _ ih=>exact List.mem_cons_of_mem _ ih
 | app _ ih=>exact List.mem_append_right _ ih
theorem Upd.blocks {b:Nat} {o o':Obj} {m m':List Zd} (h:Upd b o o' m m'):m'.map (·.b)=m.map (·.b):=by
 induction h with
 | here=>rfl
 | there _ ih=>simp [ih]
 | app _ ih=>simp [ih]
theorem Upd.new {b:Nat} {o o':Obj} {m m':List Zd} (h:Upd b o o' m m') (hd:(m.map (·.b)).Nodup) : ∀ c∈m',(c=⟨b,o'⟩)∨(c∈m/\c.b≠b):=by
 induction h with
 | here =>
  intro c hc
  rcases List.mem_cons.1 hc with rfl | hc
  ·exact .inl rfl
  ·refine .inr ⟨List.mem_cons_of_mem _ hc,?_⟩
   rw [List.map_cons,List.nodup_cons] at hd
   intro e
   exact hd.1 (List.mem_map.2 ⟨c,hc,e⟩)
 | there h ih =>
  rename_i c0 m m'
  rw [List.map_cons,List.nodup_cons] at hd
  intro c hc
  rcases List.mem_cons.1 hc with rfl | hc
  ·refine .inr ⟨List.mem_cons_self,?_⟩
   intro e
   exact hd.1 (List.mem_map.2 ⟨_,h.mem,e.symm⟩)
  ·rcases ih hd.2 c hc with h1 | ⟨h1,h2⟩
   ·exact .inl h1
   ·exact .inr ⟨List.mem_cons_of_mem _ h1,h2⟩
 | app h ih =>
  rw [List.map_append,List.nodup_append] at hd
  intro c hc
  rcases List.mem_append.1 hc with hc | hc
  ·refine .inr ⟨List.mem_append_left _ hc,fun e=>?_⟩
   exact hd.2.2 _ (List.mem_map.2 ⟨c,hc,rfl⟩) _ (List.mem_map.2 ⟨_,h.mem,rfl⟩) e
  ·rcases ih hd.2.1 c hc with h1 | ⟨h1,h2⟩
   ·exact .inl h1
   ·exact .inr ⟨List.mem_append_right _ h1,h2⟩
theorem Sat.upd {W0:World} {S:List Nat} {m m':List Zd} {w w':World} {b:Nat} {o o':Obj} (h:Sat W0 S m w) (hu:Upd b o o' m m') (h1:w'.heap[b]? = some o') (h2 : ∀ k,k≠b->w'.heap[k]? = w.heap[k]?)
  (hs:w'.heap.size=w.heap.size) (hos:w'.os=w.os) (ht:w'.tape=w.tape) (ho:w'.output=w.output):Sat W0 S m' w':=by
 have hb:=h.base _ hu.mem
 refine ⟨⟨hos.trans h.fr.os,ht.trans h.fr.tape,ho.trans h.fr.output,by rw [hs]; exact h.fr.size,fun k hk hS=>?_⟩,?_,?_,by rw [hu.blocks]; exact h.dist⟩
 ·have hne:k≠b:=by
   intro e; subst e
   rcases hb with hb | hb
   ·simp only at hb; omega
   ·exact hS hb
  rw [h2 k hne]; exact h.fr.block k hk hS
 ·intro c hc
  rcases hu.new h.dist c hc with rfl | ⟨hc1,hc2⟩
  ·exact h1
  ·rw [h2 _ hc2]; exact h.own c hc1
 ·intro c hc
  rcases hu.new h.dist c hc with rfl | ⟨hc1,hc2⟩
  ·exact hb
  ·exact h.base c hc1
theorem Z8p {P:Program} {W0:World} {S:List Nat} {T:TypeId} {b:Nat} : ∀ (vs:List Value) (off i:Nat) (l:List Value) (m m1:List Zd) (w:World),Sat W0 S m w->Upd b (.cells l.toArray T (0,0)) (.cells (Z1i l (off+i) vs).toArray T (0,0)) m m1 ->
  off+i+vs.length<=l.length->(∀ v∈vs,one1 v=true)->∃ w',(storeCells ⟨b,off,none⟩ vs i).run P w = .ok () w'/\Sat W0 S m1 w'
 | [],off,i,l,m,m1,w,hw,hu,hl,hv=>by
  refine ⟨w,by simp [storeCells],?_⟩
  have e:Z1i l (off+i) []=l:=by simp [Z1i]
  rw [e] at hu
  exact hw.upd hu (hw.own _ hu.mem) (fun _ _=>rfl) rfl rfl rfl rfl
 | v::vs,off,i,l,m,m1,w,hw,hu,hl,hv=>by
  have hown:=hw.own _ hu.mem
  simp only [List.length_cons] at hl
  have hv1:=hv v List.mem_cons_self
  have hcell:w.cell? ⟨b,off+i,none⟩=some (l[off+i]'(by omega)):=by
   simp [World.cell?,hown]
  have hfz:w.frozen? ⟨b,off+i,none⟩=false:=by
   simp [World.frozen?,hown]
  have hrun:(store (Addr.add ⟨b,off,none⟩ i) v).run P w = .ok () (w.setCell ⟨b,off+i,none⟩ v):=by
   rw [Addr.add_lit]
   cases v <;> simp_all [store,Sem.run,one1]
  -- the state behind the first store
  have hset:(w.setCell ⟨b,off+i,none⟩ v).heap[b]? = some (.cells (l.set (off+i) v).toArray T (0,0)):=by
   simp only [World.setCell,Array.getElem?_modify,hown]
   simp
  have hoth : ∀ k,k≠b->(w.setCell ⟨b,off+i,none⟩ v).heap[k]? = w.heap[k]? := fun k hk=>Below.heap_setCell _ _ _ _ hk
  -- the list of blocks behind it
  have mid : ∀ {m m1:List Zd} {o1 o2 o3:Obj},Upd b o1 o3 m m1->∃ m2,Upd b o1 o2 m m2/\Upd b o2 o3 m2 m1:=by
   intro m m1 o1 o2 o3 h
   induction h with
   | here=>exact ⟨_,.here,.here⟩
   | there _ ih=>obtain ⟨m2,a,b⟩:=ih; exact ⟨_,.there a,.there b⟩
   | app _ ih=>obtain ⟨m2,a,b⟩:=ih; exact ⟨_,.app a,.app b⟩
  obtain ⟨m2,hu1,hu2⟩:=mid (o2:=.cells (l.set (off+i) v).toArray T (0,0)) hu
  have hw2:Sat W0 S m2 (w.setCell ⟨b,off+i,none⟩ v):=hw.upd hu1 hset hoth (by simp [World.setCell]) rfl rfl rfl
  have hsp:Z1i l (off+i) (v::vs)=Z1i (l.set (off+i) v) (off+(i+1)) vs:=by
   unfold Z1i
   rw [show off+(i+1)=off+i+1 by omega,List.drop_set_of_lt (by omega)]
   have:(l.set (off+i) v).take (off+i+1)=l.take (off+i) ++ [v]:=by
    rw [List.take_succ_eq_append_getElem (by rw [List.length_set]; omega),List.take_set_of_le (Nat.le_refl _)]
    simp
   rw [this]
   simp only [List.length_cons,List.append_assoc,List.cons_append,List.nil_append]
   rw [show off+i+(vs.length+1)=off+i+1+vs.length by omega]
  rw [hsp] at hu2
  obtain ⟨w',hr,hs⟩:=Z8p (P:=P) vs off (i+1) (l.set (off+i) v) m2 m1 _ hw2 hu2 (by rw [List.length_set]; omega) (fun u hu=>hv u (List.mem_cons_of_mem _ hu))
  exact ⟨w',by simp only [storeCells,Sem.run_bind,hrun,Result.andThen_ok]; exact hr,hs⟩
def Z0ow:Seg->Bool
 | .one v=>one1 v
 | .ints _ _ _=>true
 | .rows _ _ _=>false
def scal:List Seg->Bool
 | []=>true
 | s::r=>Z0ow s&&scal r
theorem Z046 : ∀ {s:List Seg},scal s=true->∀ v∈cells s,one1 v=true
 | [],_,v,hv=>by simp [cells] at hv
 | s::r,h,v,hv=>by
  simp only [scal,Bool.and_eq_true] at h
  simp only [cells,List.mem_append] at hv
  rcases hv with hv | hv
  ·cases s with
   | one u=>simp only [Seg.cells,List.mem_singleton] at hv; subst hv; exact h.1
   | ints k n xs =>
    simp only [Seg.cells,intsCells,List.mem_map] at hv
    obtain ⟨i,_,rfl⟩:=hv; rfl
   | rows w n g=>simp [Z0ow] at h
  ·exact Z046 h.2 v hv
theorem Zgt {l a v:List Value} {base o:Nat} (ha:a.length+base<=l.length) (hov:o+v.length<=a.length) (hla : ∀ j,j<a.length->l[base+j]? = a[j]?) :
  Z1i l base (Z1i a o v)=Z1i l (base+o) v:=by
 have hsl:(Z1i a o v).length=a.length:=by simp only [Z1i,List.length_append,List.length_take,List.length_drop]; omega
 apply List.ext_getElem?
 intro j
 have hsp:Z1i l base (Z1i a o v)=l.take base++(Z1i a o v++l.drop (base+(Z1i a o v).length)):=rfl
 rw [hsp,hsl]
 by_cases h1:j<base
 ·rw [List.getElem?_append_left (by rw [List.length_take]; omega),List.getElem?_take_of_lt h1]
  unfold Z1i
  rw [List.getElem?_append_left (by rw [List.length_take]; omega),List.getElem?_take_of_lt (by omega)]
 ·rw [List.getElem?_append_right (by rw [List.length_take]; omega),List.length_take,Nat.min_eq_left (by omega)]
  by_cases h2:j<base+a.length
  ·rw [List.getElem?_append_left (by omega)]
   unfold Z1i
   have hj:=hla (j-base) (by omega)
   rw [show base+(j-base)=j by omega] at hj
   by_cases a1:j-base<o
   ·rw [List.getElem?_append_left (by rw [List.length_take]; omega),List.getElem?_append_left (by rw [List.length_take]; omega),List.getElem?_take_of_lt a1,List.getElem?_take_of_lt (by omega),hj]
   ·have L:(a.take o++(v++a.drop (o+v.length)))[j-base]? = (v++a.drop (o+v.length))[j-base-o]? := by
     rw [List.getElem?_append_right (by rw [List.length_take]; omega),List.length_take,Nat.min_eq_left (by omega)]
    have R:(l.take (base+o)++(v++l.drop (base+o+v.length)))[j]? = (v++l.drop (base+o+v.length))[j-(base+o)]? := by
     rw [List.getElem?_append_right (by rw [List.length_take]; omega),List.length_take,Nat.min_eq_left (by omega)]
    rw [L,R]
    by_cases a2:j-base<o+v.length
    ·rw [List.getElem?_append_left (by omega),List.getElem?_append_left (by omega)]
     congr 1; omega
    ·rw [List.getElem?_append_right (by omega),List.getElem?_append_right (by omega),List.getElem?_drop,List.getElem?_drop]
     rw [show base+o+v.length+(j-(base+o)-v.length)=j by omega,hj]
     congr 1; omega
  ·rw [List.getElem?_append_right (by omega),List.getElem?_drop,hsl]
   unfold Z1i
   rw [List.getElem?_append_right (by rw [List.length_take]; omega),List.length_take,Nat.min_eq_left (by omega),List.getElem?_append_right (by omega),List.getElem?_drop]
   congr 1; omega
theorem Z0br {P:Program} {o:Oper} {n:Nat} {x y:Operand} (h:Za4 P o (.st n x y)=true) : ∃ T,o.op = .store T x y/\(Zf2 P T==some n)=true:=by
 simp only [Za4] at h
 split at h
 ·rename_i T x' y' heq
  simp only [Bool.and_eq_true] at h
  obtain ⟨⟨h1,h2⟩,h3⟩:=h
  have e:=Z0m h1; have e':=Z0m h2; subst e; subst e'
  exact ⟨T,heq,h3⟩
 ·cases h
section
variable {C:Cfg} {t:TS} {m m':List Zd} {K:KN}
theorem Zr9 {n:Nat} {x y:Operand} {b off:Nat} {T:TypeId} {l vs:List Value} {u:Value} (hx:ev t x=some (.pointer (some ⟨b,off,none⟩))) (hy:ev t y=some u) (hu:u.cells.toList=vs) (hn:vs.length=n)
  (hup:Upd b (.cells l.toArray T (0,0)) (.cells (Z1i l off vs).toArray T (0,0)) m m') (hl:off+n<=l.length) (hone : ∀ v∈vs,one1 v=true) (h:K t m'):EF C m t none (.st n x y) K:=by
 intro o ho hd a ha w hw
 have hd':=Z06k hd
 obtain ⟨T',heq,hs⟩:=Z0br ho
 obtain ⟨w',hr,hsat⟩:=Z8p (P:=C.P) vs off 0 l m m' w hw (by simpa using hup) (by omega) hone
 unfold Oper.wp
 have hsz:u.cells.size=n:=by rw [<- Array.length_toList,hu,hn]
 have hrun:(execOp a.eval o).run C.P w = .ok .skip w':=by
  simp only [execOp,heq,ha.ev hx,ha.ev hy]
  simp [Instr.storeAt,Instr.sureAddr,storeVar,Z3j hs,hsz,hu,hr]
 rw [hrun]
 simp only [Oper.upon,hd']
 exact ⟨t,m',h,ha,hsat⟩
theorem Zm {n:Nat} {x y:Operand} {b off:Nat} {T:TypeId} {s p q:List Seg} (hx:ev t x=some (.pointer (some ⟨b,off,none⟩))) (hy:ev t y=some (agg p)) (hn:width p=n) (hq:putL s off p=some q) (hsc:scal p=true)
  (hup:Upd b (.cells (cells s).toArray T (0,0)) (.cells (cells q).toArray T (0,0)) m m') (h:K t m'):EF C m t none (.st n x y) K:=by
 obtain ⟨e1,e2,e3⟩:=Zj8 hq
 rw [e1] at hup
 exact Zr9 hx hy (vs:=cells p) (by simp [agg,Value.cells]) (by rw [cells_length]; exact hn) hup (by rw [cells_length]; omega) (Z046 hsc) h
theorem Zra {x y:Operand} {b off:Nat} {T:TypeId} {s q:List Seg} {v:Value} (hx:ev t x=some (.pointer (some ⟨b,off,none⟩))) (hy:ev t y=some v) (hv:one1 v=true) (hq:putC s off v=some q)
  (hup:Upd b (.cells (cells s).toArray T (0,0)) (.cells (cells q).toArray T (0,0)) m m') (h:K t m'):EF C m t none (.st 1 x y) K:=by
 obtain ⟨e1,e2,e3⟩:=Zm2 hq
 rw [e1,Zjh (by rw [cells_length]; exact e3)] at hup
 refine Zr9 hx hy (vs:=[v]) ?_ rfl hup (by rw [cells_length]; omega) (by simpa using hv) h
 cases v <;> simp_all [Value.cells,one1]
theorem Z08o {x y:Operand} {b base i len:Nat} {T:TypeId} {s q:List Seg} {k:IntKind} {xs:List Int} {z:Int} (hx:ev t x=some (.pointer (some ⟨b,base+i*1,none⟩))) (hy:ev t y=some (.int k z))
  (hs:Ze6 s base=some (.ints k len xs)) (hi:i<len) (hq:Zh6 s base (.ints k len (Z2g xs i z))=some q)
  (hup:Upd b (.cells (cells s).toArray T (0,0)) (.cells (cells q).toArray T (0,0)) m m') (h:K t m'):EF C m t none (.st 1 x y) K:=by
 obtain ⟨e1,e2,e3⟩:=Zip hq
 have hw:=Zdv hs
 simp only [Seg.width] at hw e3
 have key:cells q=Z1i (cells s) (base+i*1) [.int k z]:=by
  rw [e1]
  simp only [Seg.cells,Zjv k len xs i z hi]
  rw [Zjh (by rw [Z1d]; exact hi),Nat.mul_one]
  exact Zgt (by rw [Z1d,cells_length]; omega) (by rw [Z1d]; simp; omega) (fun j hj=>Z7x hs j (by rw [Z1d] at hj; exact hj))
 rw [key] at hup
 exact Zr9 hx hy (vs:=[.int k z]) rfl rfl hup (by rw [cells_length]; omega) (by simp [one1]) h
theorem Zu {d:Nat} {T:TypeId} {z:List Seg} (h : ∀ b,C.W0.heap.size<=b->K ((d,.pointer (some ⟨b,0,none⟩))::t) (ck b T z::m)):EF C m t (some d) (.al T z) K:=by
 intro o ho hd a ha w hw
 obtain ⟨hd1,hd2⟩:=Z5f hd
 simp only [Za4] at ho
 split at ho
 ·rename_i T' heq
  simp only [Bool.and_eq_true,decide_eq_true_eq] at ho
  obtain ⟨h1,h2⟩:=ho
  subst h1
  split at h2
  ·rename_i l hl
   have hc:=Zap h2
   unfold zOf at hl
   cases hi:C.P.info? T' with
   | none=>rw [hi] at hl; cases hl
   | some inf =>
    rw [hi] at hl
    simp only [Option.bind_some] at hl
    cases hz:inf.zero with
    | none=>rw [hz] at hl; cases hl
    | some zv =>
     rw [hz] at hl
     simp only [Option.map_some,Option.some.injEq] at hl
     have hcells:zv.cells=(cells z).toArray:=by rw [<- hc,<- hl,Array.toArray_toList]
     unfold Oper.wp
     have hrun:(execOp a.eval o).run C.P w = .ok (.value (.pointer (some ⟨w.heap.size,0,none⟩))) (w.alloc (.cells (cells z).toArray T' (0,0))):=by
      simp only [execOp,heq]
      simp only [Instr.alloc,zeroValue,typeInfo,Sem.run_bind,run_program,Result.andThen_ok,hi,Sem.run_pure,hz,newVar,newRow,hcells]
      rfl
     rw [hrun]
     simp only [Oper.upon,hd1]
     exact ⟨_,_,h w.heap.size hw.fr.size,ha.put hd2 _,hw.alloc _⟩
  ·cases h2
 ·cases ho
theorem Z08m {d:Nat} {T:TypeId} {x:Operand} {v:Value} {s:List Seg} (hx:ev t x=some v) (hv:v.cells=(cells s).toArray) (h : ∀ b,C.W0.heap.size<=b->K ((d,.pointer (some ⟨b,0,none⟩))::t) (ck b T s::m)):EF C m t (some d) (.bx T x) K:=by
 intro o ho hd a ha w hw
 obtain ⟨hd1,hd2⟩:=Z5f hd
 simp only [Za4] at ho
 split at ho
 ·rename_i T' x' heq
  simp only [Bool.and_eq_true,decide_eq_true_eq] at ho
  obtain ⟨h1,h2⟩:=ho
  have e:=Z0m h2; subst e; subst h1
  unfold Oper.wp
  have hrun:(execOp a.eval o).run C.P w = .ok (.value (.pointer (some ⟨w.heap.size,0,none⟩))) (w.alloc (.cells (cells s).toArray T' (0,0))):=by
   simp only [execOp,heq,ha.ev hx]
   simp only [Instr.box,newVar,newRow,Sem.run_bind,hv]
   rfl
  rw [hrun]
  simp only [Oper.upon,hd1]
  exact ⟨_,_,h w.heap.size hw.fr.size,ha.put hd2 _,hw.alloc _⟩
 ·cases ho
theorem Z02 {d:Nat} {T:TypeId} {x:Operand} {s:List Seg} (hx:ev t x=some (agg s)) (h : ∀ b,C.W0.heap.size<=b->K ((d,.pointer (some ⟨b,0,none⟩))::t) (ck b T s::m)):EF C m t (some d) (.bx T x) K :=
 Z08m hx rfl h
theorem Zmt {d:Nat} {T:TypeId} {x:Operand} {v:Value} (hx:ev t x=some v) (hv:v.cells = #[v]) (h : ∀ b,C.W0.heap.size<=b->K ((d,.pointer (some ⟨b,0,none⟩))::t) (ck b T [.one v]::m)):EF C m t (some d) (.bx T x) K :=
 Z08m (s:=[.one v]) hx (by rw [hv]; rfl) h
inductive BdR (t:TS):List Seg->List (Nat×Nat×Operand)->List Seg->Prop
 | nil {z:List Seg}:BdR t z [] z
 | one {z z' q:List Seg} {off:Nat} {x:Operand} {v:Value} {r:List (Nat×Nat×Operand)}:ev t x=some v->v.cells = #[v]->putC z off v=some z'->BdR t z' r q->BdR t z ((off,1,x)::r) q
 | agg {z z' p q:List Seg} {off n:Nat} {x:Operand} {r:List (Nat×Nat×Operand)}:ev t x=some (agg p)->width p=n->putL z off p=some z'->BdR t z' r q->BdR t z ((off,n,x)::r) q
theorem Zb2 (off:Nat) : ∀ (vs:List Value) (j:Nat) (l:List Value),off+j+vs.length<=l.length ->
  (vs.zipIdx j).foldl (fun (cs:Array Value) (p:Value×Nat)=>cs.setIfInBounds (off+p.2) p.1) l.toArray=(Z1i l (off+j) vs).toArray
 | [],j,l,h=>by simp [Z1i]
 | v::vs,j,l,h=>by
  simp only [List.length_cons] at h
  rw [List.zipIdx_cons,List.foldl_cons]
  have e:l.toArray.setIfInBounds (off+j) v=(l.set (off+j) v).toArray:=by simp
  rw [e,Zb2 off vs (j+1) (l.set (off+j) v) (by rw [List.length_set]; omega)]
  congr 1
  unfold Z1i
  rw [show off+(j+1)=off+j+1 by omega,List.drop_set_of_lt (by omega)]
  have:(l.set (off+j) v).take (off+j+1)=l.take (off+j) ++ [v]:=by
   rw [List.take_succ_eq_append_getElem (by rw [List.length_set]; omega),List.take_set_of_le (Nat.le_refl _)]
   simp
  rw [this]
  simp only [List.length_cons,List.append_assoc,List.cons_append,List.nil_append]
  rw [show off+j+(vs.length+1)=off+j+1+vs.length by omega]
def Zp7 (P:Program) (T:TypeId) (i:Nat):Option (Nat×Nat) :=
 match P.underlying T with
 | some (.struct fs)=>(fs[i]?).bind fun f=>(Zf2 P f.type).map fun n=>(f.offset,n)
 | some (.array _ e)=>(Zf2 P e).map fun s=>(i*s,s)
 | _=>none
theorem Zwb {P:Program} {T:TypeId} {a:Act} {n:Nat} (ha:Zei n t a) : ∀ {z q:List Seg} {parts:List (Nat×Nat×Operand)} {ps:List (Nat×Operand)},BdR t z parts q->Zm1 P T ps parts=true ->
  Instr.fill (Zp7 P T) (cells z).toArray (ps.map fun p=>(p.1,a.eval p.2))=some (cells q).toArray
 | z,_,[],ps,.nil,hp=>by
  cases ps with
  | nil=>rfl
  | cons p ps=>obtain ⟨i,x⟩:=p; simp [Zm1] at hp
 | z,q,(off,n1,x)::r,ps,hb,hp=>by
  cases ps with
  | nil=>simp [Zm1] at hp
  | cons p ps =>
   obtain ⟨i,y⟩:=p
   simp only [Zm1,Bool.and_eq_true] at hp
   obtain ⟨⟨h1,h2⟩,h3⟩:=hp
   have e:=Z0m h2; subst e
   have hpl:Zp7 P T i=some (off,n1):=by
    unfold Zp7
    cases hu:P.underlying T with
    | none=>rw [hu] at h1; cases h1
    | some d =>
     rw [hu] at h1
     cases d <;> simp only [Bool.false_eq_true] at h1
     ·rename_i len el
      split at h1
      ·rename_i s hs
       simp only [Bool.and_eq_true,decide_eq_true_eq] at h1
       obtain ⟨rfl,rfl⟩:=h1
       simp [hs]
      ·cases h1
     ·rename_i fs
      split at h1
      ·rename_i f hf
       simp only [Bool.and_eq_true,decide_eq_true_eq,beq_iff_eq] at h1
       obtain ⟨rfl,h4⟩:=h1
       simp [hf,h4]
      ·cases h1
   cases hb with
   | one hx hv hput hr =>
    rename_i z' v
    obtain ⟨e1,e2,e3⟩:=Zm2 hput
    have hcs:(a.eval y).cells = #[v]:=by rw [ha.ev hx]; exact hv
    simp only [List.map_cons,Instr.fill,hpl,hcs]
    rw [if_neg (by simp [cells_length]; omega)]
    have:=Zb2 off [v] 0 (cells z) (by rw [cells_length]; simp; omega)
    have e4:((#[v]:Array Value).zipIdx.foldl (fun (cs:Array Value) (p:Value×Nat)=>cs.setIfInBounds (off+p.2) p.1) (cells z).toArray)=(cells z').toArray:=by
     rw [e1,Zjh (by rw [cells_length]; exact e3)]
     simpa using this
    rw [e4]
    exact Zwb ha hr h3
   | agg hx hw hput hr =>
    rename_i z' p
    obtain ⟨e1,e2,e3⟩:=Zj8 hput
    have hcs:(a.eval y).cells=(cells p).toArray:=by rw [ha.ev hx]; rfl
    simp only [List.map_cons,Instr.fill,hpl,hcs]
    rw [if_neg (by simp [cells_length]; omega)]
    have e4:((cells p).toArray.zipIdx.foldl (fun (cs:Array Value) (q:Value×Nat)=>cs.setIfInBounds (off+q.2) q.1) (cells z).toArray)=(cells z').toArray:=by
     rw [<- Array.foldl_toList,e1]
     have:=Zb2 off (cells p) 0 (cells z) (by rw [cells_length,cells_length]; omega)
     simpa using this
    rw [e4]
    exact Zwb ha hr h3
theorem Zrs {P:Program} {w:World} : ∀ (l:List Field),(∀ f∈l,(Zf2 P f.type).isSome=true)->(l.mapM fun (f:Field)=>(do pure (f.offset,<- sizeOf f.type):Sem (Nat×Nat))).run P w = .ok (l.map fun f=>(f.offset,(Zf2 P f.type).getD 0)) w
 | [],_=>by simp
 | f::l,h=>by
  obtain ⟨n,hn⟩:=Option.isSome_iff_exists.1 (h f List.mem_cons_self)
  simp only [List.mapM_cons,Sem.run_bind,Z3j (T:=f.type) (n:=n) (by rw [hn]; simp),Result.andThen_ok,Sem.run_pure,Zrs l (fun g hg=>h g (List.mem_cons_of_mem _ hg)),List.map_cons,hn,Option.getD_some]
end
section
variable {C:Cfg} {t:TS} {m:List Zd}
theorem Zex {z q:List Seg} {parts:List (Nat×Nat×Operand)} (h:BdR t z parts q):Q1 C m t (.bd z parts) (agg q):=by
 intro o ho a ha w hw
 refine Z0t ?_
 simp only [Za4] at ho
 split at ho
 ·rename_i T ps heq
  simp only [Bool.and_eq_true] at ho
  obtain ⟨⟨h1,h2⟩,h3⟩:=ho
  split at h1
  ·rename_i l hl
   have hc:=Zap h1
   unfold zOf at hl
   cases hi:C.P.info? T with
   | none=>rw [hi] at hl; cases hl
   | some inf =>
    rw [hi] at hl
    simp only [Option.bind_some] at hl
    cases hz:inf.zero with
    | none=>rw [hz] at hl; cases hl
    | some zv =>
     rw [hz] at hl
     simp only [Option.map_some,Option.some.injEq] at hl
     have hcells:zv.cells=(cells z).toArray:=by rw [<- hc,<- hl,Array.toArray_toList]
     have hzero:(zeroValue T).run C.P w = .ok zv w:=by
      simp [zeroValue,typeInfo,program,Sem.run,hi,hz]
     have hfill:=Zwb ha h h2
     have hps:(ps.map fun p=>(p.1,a.eval p.2)).toList=ps.toList.map fun p=>(p.1,a.eval p.2):=by simp
     simp only [execOp,heq]
     refine Ze5 ?_
     have hps':(ps.map fun (x:Nat×Operand)=>match x with | (i,x)=>(i,a.eval x))=(ps.map fun p=>(p.1,a.eval p.2)):=rfl
     rw [hps']
     cases hu:C.P.underlying T with
     | none=>rw [hu] at h3; cases h3
     | some d =>
      rw [hu] at h3
      cases d <;> simp only [Bool.false_eq_true] at h3
      ·rename_i len e
       obtain ⟨s,hs⟩:=Option.isSome_iff_exists.1 h3
       have hpl:Zp7 C.P T=fun i=>some (i*s,s):=by
        funext i; simp [Zp7,hu,hs]
       rw [hpl] at hfill
       simp only [Instr.build,Sem.run_bind,hzero,Result.andThen_ok,Z01 hu,Z3j (T:=e) (n:=s) (by rw [hs]; simp),hcells,hps,hfill,Sem.run_pure]
       rfl
      ·rename_i fs
       have hall : ∀ f∈fs.toList,(Zf2 C.P f.type).isSome=true:=fun f hf=>List.all_eq_true.1 h3 f hf
       have hpm:(fs.mapM fun (f:Field)=>(do pure (f.offset,<- sizeOf f.type):Sem (Nat×Nat))).run C.P w = .ok (fs.map fun f=>(f.offset,(Zf2 C.P f.type).getD 0)) w:=by
        rw [<- Array.toArray_toList (xs:=fs),List.mapM_toArray]
        simp only [Sem.run_map,Zrs fs.toList hall,Result.andThen_ok]
        rw [<- Array.toList_map,Array.toArray_toList]
       have hpl:Zp7 C.P T=fun i=>(fs.map fun f=>(f.offset,(Zf2 C.P f.type).getD 0))[i]? := by
        funext i
        simp only [Zp7,hu,Array.getElem?_map]
        cases hf:fs[i]? with
        | none=>rfl
        | some f =>
         have hmem:f∈fs.toList:=by
          rw [Array.getElem?_eq_some_iff] at hf
          obtain ⟨hlt,he⟩:=hf
          rw [<- he]; simp
         obtain ⟨n,hn⟩:=Option.isSome_iff_exists.1 (hall f hmem)
         simp [hn]
       rw [hpl] at hfill
       simp only [Instr.build,Sem.run_bind,hzero,Result.andThen_ok,Z01 hu,hpm,hcells,hps,hfill,Sem.run_pure]
       rfl
  ·cases h1
 ·cases ho
inductive Zr0 (t:TS) (d:Int):Option Operand->Int->Prop
 | no:Zr0 t d none d
 | yes {x:Operand} {k:IntKind} {z:Int}:ev t x=some (.int k z)->Zr0 t d (some x) z
theorem Zr0.val {t:TS} {n:Nat} {a:Act} (ha:Zei n t a) {d z:Int} {x:Option Operand} (h:Zr0 t d x z):(x.map a.eval=none/\x=none/\z=d) ∨ ∃ k,x.map a.eval=some (.int k z):=by
 cases h with
 | no=>exact .inl ⟨rfl,rfl,rfl⟩
 | yes h=>exact .inr ⟨_,by simp only [Option.map_some,ha.ev h]; rfl⟩
theorem Z9x {P:Program} {w:World} {isS:Bool} {len cap:Nat} {t:TS} {n:Nat} {a:Act} (ha:Zei n t a) {lo hi mx:Option Operand} {lz hz mz:Int} (hl:Zr0 t 0 lo lz) (hh:Zr0 t len hi hz) (hm:Zr0 t cap mx mz)
  (hmh:mx.isSome=true->hi.isSome=true) (h1:0<=lz) (h2:lz<=hz) (h3:hz<=mz) (h4:mz<=cap) :
  (Instr.sliceBounds isS len cap (lo.map a.eval) (hi.map a.eval) (mx.map a.eval)).run P w = .ok (lz.toNat,hz.toNat,mz.toNat) w:=by
 unfold Instr.sliceBounds
 rcases hm.val ha with ⟨em,em',rfl⟩ | ⟨km,em⟩
 ·rw [em]
  rcases hh.val ha with ⟨eh,_,rfl⟩ | ⟨kh,eh⟩
  ·rw [eh]
   rcases hl.val ha with ⟨el,_,rfl⟩ | ⟨kl,el⟩
   ·rw [el]; simp
   ·rw [el]
    have:lz<=(len:Int):=h2
    simp [Instr.sliceBound,asIntOf,h1,this]
  ·rw [eh]
   have hz0:0<=hz:=by omega
   have hzm:((hz.toNat:Nat):Int)=hz:=by omega
   rcases hl.val ha with ⟨el,_,rfl⟩ | ⟨kl,el⟩
   ·rw [el]; simp [Instr.sliceBound,asIntOf,hz0,h3]
   ·rw [el]
    simp [Instr.sliceBound,asIntOf,hz0,h3,h1,h2,hzm]
 ·rw [em]
  have hmx:mx.isSome=true:=by cases mx <;> simp_all
  have hm0:0<=mz:=by omega
  have hmm:((mz.toNat:Nat):Int)=mz:=by omega
  rcases hh.val ha with ⟨eh,eh',rfl⟩ | ⟨kh,eh⟩
  ·have:=hmh hmx; rw [eh'] at this; cases this
  ·rw [eh]
   have hz0:0<=hz:=by omega
   have hzm:((hz.toNat:Nat):Int)=hz:=by omega
   rcases hl.val ha with ⟨el,_,rfl⟩ | ⟨kl,el⟩
   ·rw [el]; simp [Instr.sliceBound,asIntOf,hm0,h4,hmm,hz0,h3]
   ·rw [el]
    simp [Instr.sliceBound,asIntOf,hm0,h4,hmm,hz0,h3,h1,h2,hzm]
def Z4a (b o l m w:Nat):Addr:=if m=l then ⟨b,o,none⟩ else ⟨b,o+l*w,none⟩
theorem Z8b {len w:Nat} {x:Operand} {lo hi mx:Option Operand} {b o1:Nat} {lz hz mz:Int} (hx:ev t x=some (.pointer (some ⟨b,o1,none⟩))) (hl:Zr0 t 0 lo lz) (hh:Zr0 t len hi hz) (hm:Zr0 t len mx mz)
  (hmh:mx.isSome=true->hi.isSome=true) (hb:0<=lz/\lz<=hz/\hz<=mz/\mz<=len):Q1 C m t (.sla len w x lo hi mx) (.slice (some (Z4a b o1 lz.toNat mz.toNat w)) (hz.toNat-lz.toNat) (mz.toNat-lz.toNat)):=by
 intro o ho a ha wd hw
 refine Z0t ?_
 simp only [Za4] at ho
 split at ho
 ·rename_i T x' lo' hi' mx' heq
  simp only [Bool.and_eq_true] at ho
  obtain ⟨⟨⟨⟨h1,h2⟩,h3⟩,h4⟩,h5⟩:=ho
  have e1:=Z0m h1; have e2:=Z58 h2; have e3:=Z58 h3; have e4:=Z58 h4
  subst e1; subst e2; subst e3; subst e4
  split at h5
  ·rename_i l el hu
   simp only [Bool.and_eq_true,decide_eq_true_eq] at h5
   obtain ⟨h6,h7⟩:=h5
   subst h6
   simp only [execOp,heq,ha.ev hx]
   refine Ze5 ?_
   simp only [Instr.sliceAt,Sem.run_bind,Z01 hu,Result.andThen_ok,Instr.sureAddr,Sem.run_pure,Z9x (isS:=false) ha hl hh hm hmh hb.1 hb.2.1 hb.2.2.1 hb.2.2.2,Z3j h7]
   unfold Z4a
   split <;> simp_all [Addr.add_lit]
  ·cases h5
 ·cases ho
theorem Z0zk {w:Nat} {x:Operand} {lo hi mx:Option Operand} {b o1 len cp:Nat} {lz hz mz:Int} (hx:ev t x=some (.slice (some ⟨b,o1,none⟩) len cp)) (hl:Zr0 t 0 lo lz) (hh:Zr0 t len hi hz) (hm:Zr0 t cp mx mz)
  (hmh:mx.isSome=true->hi.isSome=true) (hb:0<=lz/\lz<=hz/\hz<=mz/\mz<=cp):Q1 C m t (.sls w x lo hi mx) (.slice (some (Z4a b o1 lz.toNat mz.toNat w)) (hz.toNat-lz.toNat) (mz.toNat-lz.toNat)):=by
 intro o ho a ha wd hw
 refine Z0t ?_
 simp only [Za4] at ho
 split at ho
 ·rename_i T x' lo' hi' mx' heq
  simp only [Bool.and_eq_true] at ho
  obtain ⟨⟨⟨⟨h1,h2⟩,h3⟩,h4⟩,h5⟩:=ho
  have e1:=Z0m h1; have e2:=Z58 h2; have e3:=Z58 h3; have e4:=Z58 h4
  subst e1; subst e2; subst e3; subst e4
  split at h5
  ·rename_i el hu
   simp only [execOp,heq,ha.ev hx]
   refine Ze5 ?_
   simp only [Instr.sliceAt,Instr.slice,Sem.run_bind,Z01 hu,Result.andThen_ok,Sem.run_pure,Z9x (isS:=true) ha hl hh hm hmh hb.1 hb.2.1 hb.2.2.1 hb.2.2.2,Z3j h5]
   unfold Z4a
   split <;> simp_all [Addr.add_lit]
  ·cases h5
 ·cases ho
theorem Z0m2 {w:Nat} {x:Operand} {lo hi mx:Option Operand} {lz hz mz:Int} (hx:ev t x=some (.slice none 0 0)) (hl:Zr0 t 0 lo lz) (hh:Zr0 t (0:Nat) hi hz) (hm:Zr0 t (0:Nat) mx mz)
  (hmh:mx.isSome=true->hi.isSome=true) (hb:lz=0/\hz=0/\mz=0):Q1 C m t (.sls w x lo hi mx) (.slice none 0 0):=by
 obtain ⟨rfl,rfl,rfl⟩:=hb
 intro o ho a ha wd hw
 refine Z0t ?_
 simp only [Za4] at ho
 split at ho
 ·rename_i T x' lo' hi' mx' heq
  simp only [Bool.and_eq_true] at ho
  obtain ⟨⟨⟨⟨h1,h2⟩,h3⟩,h4⟩,h5⟩:=ho
  have e1:=Z0m h1; have e2:=Z58 h2; have e3:=Z58 h3; have e4:=Z58 h4
  subst e1; subst e2; subst e3; subst e4
  split at h5
  ·rename_i el hu
   simp only [execOp,heq,ha.ev hx]
   refine Ze5 ?_
   simp only [Instr.sliceAt,Instr.slice,Sem.run_bind,Z01 hu,Result.andThen_ok,Sem.run_pure,Z9x (isS:=true) ha hl hh hm hmh (by omega) (by omega) (by omega) (by omega),Z3j h5]
   simp
  ·cases h5
 ·cases ho
end
section
variable {C:Cfg} {t:TS} {m0 m:List Zd} {kn:KN} {late:List Nat} {r:Sch} {op:IOp}
theorem Z0v {i d:Nat} (v:Value) (h1:Q1 C m0 t op v) (h:WS C r late ((d,v)::t) m0 m true kn):WS C (.q [i] (.op ⟨some d,none,op⟩) r) late t m0 m true kn :=
 ws_q (pre:=[(d,v)]) (qj_q v h1 Z8m) h
theorem Z09e {idx:List Nat} {tc d:Nat} {grp:List J} {y:Operand} {c v:Bool} {pre:TS} (hc:look t tc=some (.bool c))
  (hsk:Znc true [(tc,true)] (J.flatL grp)=true) (hfr:Zrc t (dsts (J.flatL grp))=true)
  (hrun:c=true->QJ C m0 ((tc,.bool true)::t) grp [] pre) (hy:c=true->ev (pre++((tc,.bool true)::t)) y=some (.bool v)) (hk:Zdd pre t=true)
  (h:WS C r late ((d,.bool (c&&v))::t) m0 m true kn):WS C (.q idx (.lg false tc d none grp y) r) late t m0 m true kn :=
 ws_q (pre:=[(d,.bool (c&&v))]) (Z0m4 (pre:=[]) (c:=c) (v:=v) hc (fun _ h=>by cases h) hsk hfr hrun hy hk Z8m) h
theorem Z0x {b:Bool} {i d:Nat} (v:Value) (h1:Q1 C [] t op v) (h:WS C r late ((d,v)::t) m0 m b kn):WS C (.p [i] (.op ⟨some d,none,op⟩) r) late t m0 m b kn :=
 ws_p (pre:=[(d,v)]) (qj_q v h1 Z8m) h
theorem EF.mono {d:Option Nat} {K K':KN} (hK : ∀ t m,K t m->K' t m) (h:EF C m t d op K):EF C m t d op K':=by
 intro o ho hd a ha w hw
 refine Oper.wp_mono ?_ (h o ho hd a ha w hw)
 rintro a' w' ⟨t',m',hk,h1,h2⟩
 exact ⟨t',m',hK _ _ hk,h1,h2⟩
def Sup (m0 m:List Zd):Prop:=∀ c∈m0,c∈m
theorem Sup.refl (m:List Zd):Sup m m:=fun _ h=>h
theorem Sup.cons {m0 m:List Zd} {c:Zd} (h:Sup m0 m):Sup m0 (c::m):=fun _ h'=>List.mem_cons_of_mem _ (h _ h')
theorem Z36 {i:Nat} {d:Option Nat} (h:EF C m t d op (fun t' m'=>Sup m0 m'/\WS C r late t' m0 m' true kn)):WS C (.e i ⟨d,none,op⟩ r) late t m0 m true kn :=
 ws_e true (fun _=>⟨rfl,trivial⟩) (h.mono fun _ _ hk=>⟨fun _=>hk.1,fun _=>hk.1,hk.2⟩) rfl
theorem Z16 {i:Nat} {d:Option Nat} (hl:Zu4 late i=true) (h:EF C m t d op (fun t' m'=>WS C r late t' m0 m' false kn)):WS C (.e i ⟨d,none,op⟩ r) late t m0 m true kn :=
 ws_e false (fun h=>by cases h) (h.mono fun _ _ hk=>⟨fun e=>(by rw [hl] at e; cases e),(fun e=>by cases e),hk⟩) rfl
theorem Z0pc {i:Nat} {d:Option Nat} (hl:Zu4 late i=true) (h:EF C m t d op (fun t' m'=>WS C r late t' m0 m' false kn)):WS C (.e i ⟨d,none,op⟩ r) late t m0 m false kn :=
 Z11f (h.mono fun _ _ hk=>⟨hl,hk⟩)
theorem Z88 {i d:Nat} (v:Value) (h1:Q1 C m t op v) (h:WS C r late ((d,v)::t) m0 m true kn) (hs:Sup m0 m):WS C (.e i ⟨some d,none,op⟩ r) late t m0 m true kn :=
 Z36 (ef_q v h1 ⟨hs,h⟩)
theorem Sat.now {W0:World} {m:List Zd} {w:World} (h:Sat W0 [] m w):Below W0.heap.size W0 w:=h.fr.below
end
def subT:TS->TS->Prop
 | [],_=>True
 | (i,v)::r,t=>look t i=some v/\subT r t
theorem Z04j {T t:TS} (h:subT T t) : ∀ j v,look T j=some v->look t j=some v:=by
 induction T with
 | nil=>intro j v hj; cases hj
 | cons p r ih =>
  intro j v hj
  simp only [look] at hj
  by_cases e:Nat.beq p.1 j=true
  ·rw [e,cond_true] at hj
   rw [Nat.beq_eq] at e; subst e
   injection hj with hj; subst hj; exact h.1
  ·rw [Bool.not_eq_true] at e; rw [e,cond_false] at hj
   exact ih h.2 j v hj
theorem Sat.sublist {W0:World} {S:List Nat} {m m':List Zd} {w:World} (h:Sat W0 S m w) (hs:List.Sublist m' m):Sat W0 S m' w :=
 ⟨h.fr,fun c hc=>h.own c (hs.subset hc),fun c hc=>h.base c (hs.subset hc),h.dist.sublist (hs.map _)⟩
inductive Lay where
  | nil
  | bool (r:Lay)
  | int (k:IntKind) (r:Lay)
  | str (r:Lay)
  | ints (k:IntKind) (n:Nat) (r:Lay)
  | rows (w n:Nat) (e r:Lay)
  | sli (k:IntKind) (r:Lay)
  | sl (w:Nat) (e r:Lay)
  | ptr (w:Nat) (e r:Lay)
  | any (r:Lay)
structure SlI (W:World) (k:IntKind) (a:Option Addr) (cap:Nat) (xs:List Int):Prop where
  len:xs.length=cap
  wf : ∀ x∈xs,(Lit.int k x).wf=true
  at_:cap=0 ∨ ∃ b off,a=some ⟨b,off,none⟩/\Mem W b off [.ints k cap xs]
structure SlR (W:World) (w:Nat) (a:Option Addr) (cap:Nat) (g:Nat->List Value):Prop where
  len : ∀ i,i<cap->(g i).length=w
  at_:cap=0∨w=0 ∨ ∃ b off,a=some ⟨b,off,none⟩/\Mem W b off [.rows w cap g]
def Fits (W:World) (B:Nat):Lay->List Value->Prop
  | .nil,cs=>cs = []
  | .bool r,cs=>∃ b cs',cs = .bool b::cs'/\Fits W B r cs'
  | .int k r,cs=>∃ n cs',cs = .int k n::cs'/\(Lit.int k n).wf=true/\Fits W B r cs'
  | .str r,cs=>∃ s cs',cs = .string s::cs'/\s.size<=B/\Fits W B r cs'
  | .ints k n r,cs=>∃ xs cs',xs.length=n/\(∀ x∈xs,(Lit.int k x).wf=true)/\cs=intsCells k n xs++cs'/\Fits W B r cs'
  | .rows w n e r,cs=>∃ g cs',(∀ i,i<n->(g i).length=w/\Fits W B e (g i))/\cs=Z1c w n g++cs'/\Fits W B r cs'
  | .sli k r,cs=>∃ a len cap xs cs',cs = .slice a len cap::cs'/\len<=cap/\cap<=B/\SlI W k a cap xs/\Fits W B r cs'
  | .sl w e r,cs=>∃ a len cap g cs',cs = .slice a len cap::cs'/\len<=cap/\cap<=B/\SlR W w a cap g/\(∀ i,i<cap->Fits W B e (g i))/\Fits W B r cs'
  | .ptr w e r,cs=>∃ a cs',cs = .pointer a::cs'/\(∀ x,a=some x->w=0 ∨ ∃ b off g,x=⟨b,off,none⟩/\g.length=w/\Mem W b off [.rows w 1 fun _=>g]/\Fits W B e g)/\Fits W B r cs'
  | .any r,cs=>∃ v cs',cs=v::cs'/\Fits W B r cs'
def Zts (P:Program):List Field->Nat->Nat->Bool
  | [],o,n=>o==n
  | f::r,o,n=>f.offset==o&&Zts P r (o+P.cellsOf f.type) n
def lay (P:Program):Nat->TypeId->Lay->Option Lay
  | 0,_,_=>none
  | n+1,t,r =>
    match P.underlying t with
    | some .bool=>some (.bool r)
    | some (.int k)=>some (.int k r)
    | some .string=>some (.str r)
    | some (.slice e) =>
      match P.underlying e with
      | some (.int k)=>if P.cellsOf e=1 then some (.sli k r) else none
      | _=>(lay P n e .nil).map fun l=>.sl (P.cellsOf e) l r
    | some (.pointer e)=>(lay P n e .nil).map fun l=>.ptr (P.cellsOf e) l r
    | some (.struct fs)=>if Zts P fs.toList 0 (P.cellsOf t) then fs.toList.foldr (fun f acc=>acc.bind (lay P n f.type)) (some r) else none
    | some (.array m e) =>
      if P.cellsOf t=m*P.cellsOf e then
        match P.underlying e with
        | some (.int k)=>if P.cellsOf e=1 then some (.ints k m r) else none
        | _=>(lay P n e .nil).map fun l=>.rows (P.cellsOf e) m l r
      else none
    | some (.map _ _)=>some (.any r)
    | some (.func ..)=>some (.any r)
    | some (.interface _)=>some (.any r)
    | _=>none
structure Small {H:Type} (S:DataW H->Prop) (B:Nat):Prop where
  agg : ∀ ps,S (.agg ps)->∀ p∈ps,S p
  ptr : ∀ d,S (.ptr d)->S d
  sl : ∀ e s,S (.slice e s)->e.length+s.length<=maxLen->e.length+s.length<=B
  el : ∀ e s,S (.slice e s)->(∀ p∈e,S p) /\ ∀ p∈s,S p
  str : ∀ b,S (.lit (.string b))->b.length<=maxLen->b.length<=B
theorem Small.all {H:Type}:Small (fun _:DataW H=>True) maxLen:=⟨fun _ _ _ _=>trivial,fun _ _=>trivial,fun _ _ _ h=>h,fun _ _ _=>⟨fun _ _=>trivial,fun _ _=>trivial⟩,fun _ _ h=>h⟩
theorem Zf9 {W:World} {a:Addr} {n:Nat} {cs:List Value} (h:W.cells? 0 a n=some cs):cs.length=n /\ ∀ i,i<n->W.cell? (a.add i)=cs[i]? := by
  simp only [World.cells?,Nat.zero_le,if_true] at h
  refine ⟨by simpa using mapM_some_length h,fun i hi=>?_⟩
  exact mapM_some_get h i i (by simp [hi])
theorem Zop {W:World} {a:Addr} {v:Value} (h:W.cell? a=some v):a.spot=none:=by
  unfold World.cell? at h
  cases hs:a.spot with
  | none=>rfl
  | some k=>simp [hs] at h; split at h <;> simp at h
theorem Zmy {k:IntKind} {cs:List Value} (h : ∀ i,i<cs.length->∃ n,cs[i]? = some (.int k n)/\(Lit.int k n).wf=true) :
    ∃ xs:List Int,xs.length=cs.length/\(∀ x∈xs,(Lit.int k x).wf=true)/\cs=intsCells k cs.length xs:=by
  induction cs with
  | nil=>exact ⟨[],rfl,by simp,rfl⟩
  | cons c r ih =>
    obtain ⟨n,hn,hw⟩:=h 0 (by simp)
    obtain ⟨xs,h1,h2,h3⟩:=ih fun i hi=>by simpa using h (i+1) (by simpa using hi)
    simp at hn
    refine ⟨n::xs,by simp [h1],by simpa [hw] using h2,?_⟩
    subst hn
    conv=>lhs; rw [h3]
    simp [intsCells,List.range_succ_eq_map,Function.comp_def]
theorem Zv7 {w:Nat} : ∀ (n:Nat) (cs:List Value),cs.length=n*w->cs=Z1c w n (fun i=>(cs.drop (i*w)).take w):=by
  intro n
  induction n with
  | zero=>intro cs h; simp at h; subst h; rfl
  | succ n ih =>
    intro cs h
    have hl:cs.length=n*w+w:=by rw [h,Nat.succ_mul]
    have h1:=ih (cs.drop w) (by simp; omega)
    have e:cs=cs.take w++cs.drop w:=(List.take_append_drop w cs).symm
    conv=>lhs; rw [e,h1]
    simp only [Z1c,List.range_succ_eq_map,List.flatMap_cons,List.flatMap_map]
    congr 1
    · rw [Zaq (by simp; omega)]; simp
    · congr 1
      funext i
      rw [List.drop_drop]
      congr 3
      rw [Nat.succ_mul]; omega
section
variable {H:Type} {enc:TypeId×Value->H} {P:Program} {W:World} {S:DataW H->Prop} {B:Nat}
theorem Z013 {b off i:Nat}:(Addr.mk b off none).add i=⟨b,off+i,none⟩:=by
  unfold Addr.add
  split
  · subst_vars; rfl
  · rfl
theorem Addr.add_spot {a:Addr} {i:Nat} (h:(a.add i).spot=none) (h0:i=0):a=⟨a.block,a.off,none⟩:=by
  subst h0
  simp [Addr.add] at h
  cases a
  simp_all
theorem Zhv {b off n:Nat} {cs:List Value} {s:List Seg} (hc : ∀ i,i<n->W.cell? ⟨b,off+i,none⟩=cs[i]?) (hl:cs.length=n) (hn:0<n) (e:cs=cells s) (hw:width s=n):Mem W b off s:=by
  subst e
  refine ⟨fun i hi=>hc i (by omega),?_⟩
  have h0:=hc 0 hn
  have:0<(cells s).length:=by omega
  rw [List.getElem?_eq_getElem this] at h0
  unfold World.cell? at h0
  cases hh:W.heap[b]? with
  | none=>simp [hh] at h0
  | some o=>exact (Array.getElem?_eq_some_iff.1 hh).1
theorem Z04n (hS:Small S B) : ∀ (n:Nat) (t:TypeId) (r L:Lay),lay P n t r=some L->∀ (fuel:Nat) (cs:List Value) (d:DataW H) (ps:List MemPlace),
    DataW.trod enc P W 0 (fun _=>true) true fuel t cs=some (d,ps)->S d->∀ cs',Fits W B r cs'->Fits W B L (cs++cs'):=by
  intro n
  induction n with
  | zero=>intro t r L h; simp [lay] at h
  | succ n ih =>
    intro t r L h fuel cs d ps hd hs cs' hr
    simp only [lay] at h
    cases fuel with
    | zero=>simp [DataW.trod] at hd
    | succ m =>
    split at h
    · rename_i hu
      obtain rfl:=Option.some.inj h
      unfold DataW.trod at hd
      rw [hu] at hd
      split at hd <;> simp_all
      exact ⟨_,_,rfl,hr⟩
    · rename_i k hu
      obtain rfl:=Option.some.inj h
      obtain ⟨x,rfl,hx,hw⟩:=DataW.trod_int hu hd
      exact ⟨x,cs',rfl,hw,hr⟩
    · rename_i hu
      obtain rfl:=Option.some.inj h
      obtain ⟨x,rfl,hx,hw⟩:=DataW.trod_string hu hd
      simp only [Prod.mk.injEq] at hx
      refine ⟨x,cs',rfl,?_,hr⟩
      rw [hx.1] at hs
      have:=hS.str _ hs (by simpa using hw)
      simpa using this
    · rename_i e hu
      rcases DataW.trod_slice hu hd with ⟨rfl,hx⟩ | ⟨a,len,cap,elems,rest,m',e1,rfl,hx,_,hlc,hcm,hel,hE,hR,_⟩
      · split at h
        · rename_i k he
          split at h
          · obtain rfl:=Option.some.inj h
            exact ⟨none,0,0,[],cs',rfl,Nat.le_refl _,Nat.zero_le _,⟨rfl,by simp,.inl rfl⟩,hr⟩
          · cases h
        · simp only [Option.map_eq_some_iff] at h
          obtain ⟨l,hl,rfl⟩:=h
          exact ⟨none,0,0,fun _=>[],cs',rfl,Nat.le_refl _,Nat.zero_le _,⟨by simp,.inl rfl⟩,by simp,hr⟩
      · obtain rfl:m'=m:=by omega
        simp only [Prod.mk.injEq] at hx
        obtain ⟨hx,-⟩:=hx
        obtain ⟨hrl,hR⟩:=hR rfl
        have hcB:cap<=B:=by
          rw [hx] at hs
          have:=hS.sl _ _ hs (by simp [hel,hrl]; omega)
          simp [hel,hrl] at this
          omega
        have hel2 : ∀ i,i<cap->∃ cs d p,W.cells? 0 (a.add (i*P.cellsOf e)) (P.cellsOf e)=some cs/\DataW.trod enc P W 0 (fun _=>true) true m' e cs=some (d,p)/\S d:=by
          intro i hi
          rw [hx] at hs
          obtain ⟨s1,s2⟩:=hS.el _ _ hs
          by_cases hil:i<len
          · have h1:=hE i hil
            have h2:i<elems.length:=by omega
            rw [List.getElem?_eq_getElem h2] at h1
            simp only [Option.bind_eq_some_iff] at h1
            obtain ⟨cs,h3,h4⟩:=h1
            exact ⟨cs,_,_,h3,h4,s1 _ (List.mem_map.2 ⟨_,List.getElem_mem h2,rfl⟩)⟩
          · have h1:=hR (i-len) (by omega)
            have h2:i-len<rest.length:=by omega
            rw [List.getElem?_eq_getElem h2] at h1
            simp only [Option.bind_eq_some_iff] at h1
            obtain ⟨cs,h3,h4⟩:=h1
            rw [show len+(i-len)=i by omega] at h3
            exact ⟨cs,_,_,h3,h4,s2 _ (List.mem_map.2 ⟨_,List.getElem_mem h2,rfl⟩)⟩
        have hall : ∃ g:Nat->List Value,∀ i,i<cap->W.cells? 0 (a.add (i*P.cellsOf e)) (P.cellsOf e)=some (g i) /\ ∃ d p,DataW.trod enc P W 0 (fun _=>true) true m' e (g i)=some (d,p)/\S d:=by
          refine ⟨fun i=>(W.cells? 0 (a.add (i*P.cellsOf e)) (P.cellsOf e)).getD [],fun i hi=>?_⟩
          obtain ⟨cs,d,p,h1,h2,h3⟩:=hel2 i hi
          have e3:(W.cells? 0 (a.add (i*P.cellsOf e)) (P.cellsOf e)).getD []=cs:=by rw [h1]; rfl
          dsimp only
          rw [e3]
          exact ⟨h1,d,p,h2,h3⟩
        obtain ⟨g,hg⟩:=hall
        have hlen : ∀ i,i<cap->(g i).length=P.cellsOf e:=fun i hi=>(Zf9 (hg i hi).1).1
        have hsl:SlR W (P.cellsOf e) (some a) cap g:=by
          refine ⟨hlen,?_⟩
          by_cases hc0:cap=0
          · exact .inl hc0
          by_cases hw0:P.cellsOf e=0
          · exact .inr (.inl hw0)
          refine .inr (.inr ⟨a.block,a.off,?_,?_⟩)
          · have h1:=(Zf9 (hg 0 (by omega)).1).2 0 (by omega)
            have h2:0<(g 0).length:=by rw [hlen 0 (by omega)]; omega
            rw [List.getElem?_eq_getElem h2] at h1
            have h3:=Zop h1
            congr 1
            refine Addr.add_spot (i:=0) ?_ rfl
            simpa [Addr.add] using h3
          · have ha:a=⟨a.block,a.off,none⟩:=by
              have h1:=(Zf9 (hg 0 (by omega)).1).2 0 (by omega)
              have h2:0<(g 0).length:=by rw [hlen 0 (by omega)]; omega
              rw [List.getElem?_eq_getElem h2] at h1
              have h3:=Zop h1
              refine Addr.add_spot (i:=0) ?_ rfl
              simpa [Addr.add] using h3
            have hcw:(Z1c (P.cellsOf e) cap g).length=cap*P.cellsOf e:=by
              have:=cells_length [.rows (P.cellsOf e) cap g]
              simpa [cells,Seg.cells,width,Seg.width] using this
            refine Zhv (n:=cap*P.cellsOf e) (cs:=Z1c (P.cellsOf e) cap g) (fun i hi=>?_) hcw (Nat.mul_pos (by omega) (by omega)) (by simp [cells,Seg.cells]) (by simp [width,Seg.width])
            have hw1:0<P.cellsOf e:=by omega
            have hi1:i / P.cellsOf e<cap:=Nat.div_lt_of_lt_mul (by rw [Nat.mul_comm]; exact hi)
            have hi2:i%P.cellsOf e<P.cellsOf e:=Nat.mod_lt _ hw1
            have h1:=(Zf9 (hg _ hi1).1).2 _ hi2
            rw [ha,Z013,Z013] at h1
            have e2:a.off+i / P.cellsOf e*P.cellsOf e+i%P.cellsOf e=a.off+i:=by
              have:=Nat.div_add_mod i (P.cellsOf e)
              rw [Nat.mul_comm] at this
              omega
            rw [e2] at h1
            rw [h1]
            have h4:=Z8o (w:=P.cellsOf e) (n:=cap) (g:=g) hi1 hi2
            rw [Zaq (hlen _ hi1)] at h4
            rw [<- h4]
            congr 1
            have:=Nat.div_add_mod i (P.cellsOf e)
            rw [Nat.mul_comm] at this
            omega
        split at h
        · rename_i k he
          split at h
          · rename_i hc1
            obtain rfl:=Option.some.inj h
            have hone : ∀ i,i<cap->∃ z,g i = [.int k z]/\(Lit.int k z).wf=true:=by
              intro i hi
              obtain ⟨_,d,p,h2,_⟩:=hg i hi
              obtain ⟨z,h3,_,h4⟩:=DataW.trod_int he h2
              exact ⟨z,h3,h4⟩
            obtain ⟨xs,hx1,hx2,hx3⟩:=Zmy (k:=k) (cs:=Z1c 1 cap g) (by
              intro i hi
              have hcw:=cells_length [.rows 1 cap g]
              simp [cells,Seg.cells,width,Seg.width] at hcw
              rw [hcw] at hi
              obtain ⟨z,h1,h2⟩:=hone i hi
              refine ⟨z,?_,h2⟩
              have h4:=Z8o (w:=1) (n:=cap) (g:=g) hi (j:=0) (by omega)
              rw [Zaq (by rw [h1]; rfl),h1] at h4
              simpa using h4)
            have hcw:=cells_length [.rows 1 cap g]
            simp [cells,Seg.cells,width,Seg.width] at hcw
            rw [hcw] at hx1 hx3
            refine ⟨some a,len,cap,xs,cs',rfl,hlc,hcB,⟨hx1,hx2,?_⟩,hr⟩
            rcases hsl.at_ with h0 | h0 | ⟨b,off,h1,h2⟩
            · exact .inl h0
            · omega
            · refine .inr ⟨b,off,h1,⟨fun i hi=>?_,h2.lt⟩⟩
              have:=h2.cell i (by simpa [width,Seg.width,hc1] using hi)
              rw [this]
              simp only [cells,Seg.cells,List.append_nil]
              rw [hc1,hx3]
          · cases h
        · simp only [Option.map_eq_some_iff] at h
          obtain ⟨l,hl,rfl⟩:=h
          refine ⟨some a,len,cap,g,cs',rfl,hlc,hcB,hsl,fun i hi=>?_,hr⟩
          obtain ⟨_,d,p,h2,h3⟩:=hg i hi
          have:=ih e .nil l hl m' (g i) d p h2 h3 [] rfl
          simpa using this
    · rename_i e hu
      simp only [Option.map_eq_some_iff] at h
      obtain ⟨l,hl,rfl⟩:=h
      rcases DataW.trod_pointer hu hd with ⟨rfl,hx⟩ | ⟨a,cs1,y,m',e1,rfl,hx,hcs,hy⟩
      · exact ⟨none,cs',rfl,(fun x hx=>by cases hx),hr⟩
      · refine ⟨some a,cs',rfl,(fun x hx2=>?_),hr⟩
        obtain rfl:=Option.some.inj hx2
        obtain ⟨hl1,hc1⟩:=Zf9 hcs
        by_cases hw0:P.cellsOf e=0
        · exact .inl hw0
        obtain rfl:m'=m:=by omega
        simp only [Prod.mk.injEq] at hx
        have ha:a=⟨a.block,a.off,none⟩:=by
          have h1:=hc1 0 (by omega)
          rw [List.getElem?_eq_getElem (by omega)] at h1
          have h3:=Zop h1
          refine Addr.add_spot (i:=0) ?_ rfl
          simpa [Addr.add] using h3
        refine .inr ⟨a.block,a.off,cs1,ha,hl1,?_,?_⟩
        · refine Zhv (n:=P.cellsOf e) (cs:=cs1) (fun i hi=>?_) hl1 (by omega) ?_ (by simp [width,Seg.width])
          · rw [<- hc1 i hi,ha,Z013]
          · simp [cells,Seg.cells,Z1c,List.range_succ,Zaq hl1]
        · have:=ih e .nil l hl m' cs1 y.1 y.2 hy (hS.ptr _ (by rw [hx.1] at hs; exact hs)) [] rfl
          simpa using this
    · rename_i fs hu
      split at h
      · rename_i hcon
        obtain ⟨xs,m',e1,hx,hlen,hxl,hf⟩:=DataW.trod_struct hu hd
        obtain rfl:m'=m:=by omega
        simp only [Prod.mk.injEq] at hx
        rw [hx.1] at hs
        have hsx : ∀ x∈xs,S x.1:=fun x hx=>hS.agg _ hs _ (List.mem_map.2 ⟨x,hx,rfl⟩)
        have key : ∀ (l:List Field) (o:Nat) (L:Lay),Zts P l o (P.cellsOf t)=true->l.foldr (fun f acc=>acc.bind (lay P n f.type)) (some r)=some L ->
            (∀ f∈l,∃ d p,DataW.trod enc P W 0 (fun _=>true) true m' f.type ((cs.drop f.offset).take (P.cellsOf f.type))=some (d,p)/\S d)->Fits W B L (cs.drop o++cs'):=by
          intro l
          induction l with
          | nil =>
            intro o L h1 h2 _
            simp [Zts] at h1
            simp at h2
            subst h2
            rw [h1,<- hlen]
            simpa using hr
          | cons f l ihl =>
            intro o L h1 h2 h3
            simp only [Zts,Bool.and_eq_true,beq_iff_eq] at h1
            simp only [List.foldr_cons,Option.bind_eq_some_iff] at h2
            obtain ⟨L1,h4,h5⟩:=h2
            have h6:=ihl _ _ h1.2 h4 fun f' hf'=>h3 f' (by simp [hf'])
            obtain ⟨d,p,h7,h8⟩:=h3 f (by simp)
            have h9:=ih f.type L1 L h5 m' _ d p h7 h8 _ h6
            rw [h1.1] at h9
            rw [<- List.append_assoc] at h9
            have:((cs.drop o).take (P.cellsOf f.type))++cs.drop (o+P.cellsOf f.type)=cs.drop o:=by
              rw [<- List.drop_drop]
              exact List.take_append_drop _ _
            rw [this] at h9
            exact h9
        have:=key fs.toList 0 L hcon h (by
          intro f hfm
          obtain ⟨i,hi,hfi⟩:=List.getElem_of_mem hfm
          have h1:=hf i f (by simpa [<- hfi] using hi)
          have h2:i<xs.length:=by rw [hxl]; simpa using hi
          rw [List.getElem?_eq_getElem h2] at h1
          exact ⟨_,_,h1,hsx _ (List.getElem_mem h2)⟩)
        simpa using this
      · cases h
    · rename_i q e hu
      split at h
      · rename_i hct
        obtain ⟨xs,m',e1,hx,hlen,hxl,hf⟩:=DataW.trod_array hu hd
        obtain rfl:m'=m:=by omega
        simp only [Prod.mk.injEq] at hx
        rw [hx.1] at hs
        have hsx : ∀ x∈xs,S x.1:=fun x hx=>hS.agg _ hs _ (List.mem_map.2 ⟨x,hx,rfl⟩)
        have hel : ∀ i,i<q->∃ d p,DataW.trod enc P W 0 (fun _=>true) true m' e ((cs.drop (i*P.cellsOf e)).take (P.cellsOf e))=some (d,p)/\S d:=by
          intro i hi
          have h1:=hf i hi
          have h2:i<xs.length:=by omega
          rw [List.getElem?_eq_getElem h2] at h1
          exact ⟨_,_,h1,hsx _ (List.getElem_mem h2)⟩
        split at h
        · rename_i k he
          split at h
          · rename_i hc1
            obtain rfl:=Option.some.inj h
            have hq:cs.length=q:=by rw [hlen,hct,hc1]; simp
            obtain ⟨zs,h1,h2,h3⟩:=Zmy (k:=k) (cs:=cs) (by
              intro i hi
              obtain ⟨d,p,h1,_⟩:=hel i (by omega)
              obtain ⟨z,h2,_,h3⟩:=DataW.trod_int he h1
              refine ⟨z,?_,h3⟩
              rw [hc1] at h2
              have:=congrArg (fun l=>l[0]?) h2
              simpa using this)
            exact ⟨zs,cs',by omega,h2,by rw [hq] at h3; rw [<- h3],hr⟩
          · cases h
        · simp only [Option.map_eq_some_iff] at h
          obtain ⟨l,hl,rfl⟩:=h
          refine ⟨fun i=>(cs.drop (i*P.cellsOf e)).take (P.cellsOf e),cs',fun i hi=>⟨?_,?_⟩,by rw [<- Zv7 q cs (by omega)],hr⟩
          · simp [hlen,hct]
            have:(i+1)*P.cellsOf e<=q*P.cellsOf e:=Nat.mul_le_mul_right _ hi
            rw [Nat.succ_mul] at this
            omega
          · obtain ⟨d,p,h1,h2⟩:=hel i hi
            have:=ih e .nil l hl m' _ d p h1 h2 [] rfl
            simpa using this
      · cases h
    all_goals first
      | (cases h; done)
      | (rename_i hu
         obtain rfl:=Option.some.inj h
         have hc : ∃ v,cs = [v]:=by
           unfold DataW.trod at hd
           rw [hu] at hd
           split at hd <;> simp_all
         obtain ⟨v,rfl⟩:=hc
         exact ⟨v,cs',rfl,hr⟩)
end
end Go.Sx
namespace Go.Sx
open Go Go.RowKit Go.ChangeShapes
set_option linter.all false
section
variable {H:Type} {enc:TypeId×Value->H}
theorem Zkr {P:Program} (hl:laidOutB P=true) {W W':World} (hb:Below W.heap.size W W') :
  ∀ {ts:List TypeId} {vs:List Value} {ds:List (DataW H)} {ps:List MemPlace},(ts.all fun t=>P.readableRec t&&decide (t<P.types.size))=true->(∀ x∈ps,x.block<W.heap.size) ->
   DataW.TrodAll enc P W 0 (fun _=>true) true ts vs ds ps->DataW.TrodAll enc P W' 0 (fun b=>decide (b<W.heap.size)) true ts vs ds ps
 | [],[],[],_,_,_,h=>h
 | t::ts,v::vs,d::ds,ps,hr,hlt,h=>by
  obtain ⟨p,q,h1,h2,rfl⟩:=h
  simp only [List.all_cons,Bool.and_eq_true,decide_eq_true_eq] at hr
  exact ⟨p,q,Below.trod hl hr.1.1 hr.1.2 h1 hb (fun x hx=>hlt x (by simp [hx])),Zkr hl hb hr.2 (fun x hx=>hlt x (by simp [hx])) h2,rfl⟩
 | [],_::_,_,_,_,_,h=>h.elim
 | [],[],_::_,_,_,_,h=>h.elim
 | _::_,[],_,_,_,_,h=>h.elim
 | _::_,_::_,[],_,_,_,h=>h.elim
def LawAt (P:Program) (f:FuncId) (args:Array Value) (W:World):Prop:=Calls P f args W fun e w'=>e = .returned (.bool true)/\Below W.heap.size W w'
theorem Zgx {P:Program} {W:World} {base:Nat} {sp:Nat->Bool} {held:Bool} : ∀ {ts:List TypeId} {vs:List Value} {ds:List (DataW H)} {ps:List MemPlace},DataW.TrodAll enc P W base sp held ts vs ds ps->ds.length=ts.length/\vs.length=ts.length
 | [],[],[],_,_=>⟨rfl,rfl⟩
 | t::ts,v::vs,d::ds,ps,h=>by
  obtain ⟨p,q,_,h2,_⟩:=h
  have:=Zgx h2
  simp [this]
 | [],_::_,_,_,h=>h.elim
 | [],[],_::_,_,h=>h.elim
 | _::_,[],_,_,h=>h.elim
 | _::_,_::_,[],_,h=>h.elim
theorem Z068 {C:Checked} {f:FuncId} {fn:Func} {s:ChangeSpec} {tb:TypeId} (hvars:s.vars = [])
  (hs : ∀ ds:List (DataW H),ds.length=fn.params.size->s.fn H ds = { results:=[.lit (.bool true)],args:=ds }) (hres:fn.resultTypes = #[tb]) (htb:C.prog.underlying tb=some .bool)
  (hl:laidOutB C.prog=true) (hpar:(fn.params.toList.all fun t=>C.prog.readableRec t&&decide (t<C.prog.types.size))=true)
  {W:World} {args:Array Value} {ds gs:List (DataW H)} {before:List MemPlace} (hW:DataW.Whole enc C.prog fn.params.toList s.vars false W args.toList ds gs before)
  (h:LawAt C.prog f args W):Calls C.prog f args W fun e W'=>∃ v,e = .returned v/\s.post enc C.prog fn false true false false W args v W':=by
 have hW':=hW
 have hlt:=hW.lt
 obtain ⟨p,q,hA,hV,rfl,hfz,hnd⟩:=hW
 rw [hvars] at hV
 obtain ⟨rfl,rfl⟩:=trodVars_none hV
 refine h.mono fun e W' ⟨he,bel⟩=>⟨_,he,ds,[],p ++ [],[],p,[],hW',?_,?_,?_,bel.frame _,fun h=>by cases h⟩
 ·rw [List.append_nil,hs ds (by simpa using (Zgx hA).1),hres]
  exact trodAll_mk1 (shut_bool htb true)
 ·rw [List.append_nil,hs ds (by simpa using (Zgx hA).1)]
  exact Zkr hl bel hpar (fun x hx=>hlt x (by simp [hx])) hA
 ·rw [List.append_nil,hs ds (by simpa using (Zgx hA).1),hvars]
  rfl
structure Given (C:Checked) (fn:Func) (W:World) (args:Array Value):Prop where
 wide : ∃ base,∀ (j:Nat) t v,fn.params[j]? = some t->args[j]? = some v->Value.okWide C.prog W .any base t v
 read : ∃ (H:Type) (enc:TypeId×Value->H) (ds:List (DataW H)) (p:List MemPlace),DataW.TrodAll enc C.prog W 0 (fun _=>true) true fn.params.toList args.toList ds p /\
  ((DataW.weightsEach C.prog fn.params.toList ds).all (· <= reachBytes)=true)
theorem law_laid {C:Checked} {os:Os} {f:FuncId} {fn:Func} {s:ChangeSpec} {tb:TypeId} {conds:List PathCond} {laid:List (String×DataW Unit)}
  (own:ownKnob C.prog.godebug=none) (started:os.Started) (noInit:C.prog.inits.idxOf? f=none) (hfn:C.prog.funcs[f]? = some fn) (hvars:s.vars = [])
  (hs : ∀ ds:List (DataW H),ds.length=fn.params.size->s.fn H ds = { results:=[.lit (.bool true)],args:=ds }) (hres:fn.resultTypes = #[tb]) (htb:C.prog.underlying tb=some .bool)
  (hl:laidOutB C.prog=true) (hpar:(fn.params.toList.all fun t=>C.prog.readableRec t&&decide (t<C.prog.types.size))=true)
  (witness : ∃ (w:World) (tape:Tape) (i:Input),w.os=os/\(w.forCall tape i).Shaped C.prog/\i.vars = []/\Input.okWide C.prog (w.forCall tape i) .any w.heap.size f i /\
   ((s.pre enc C.prog fn conds false (w.forCall tape i).memory i.args/\laidMetH C.prog laid (w.forCall tape i).memory)/\sizedMet enc C.prog fn (OpenSpec.ofChange s) false (w.forCall tape i).memory i.args)/\({}:Assume).holds C.prog (lone (Frame.enter C.prog f i.args .normal) [] (w.forCall tape i)))
  (h : ∀ (W:World) (args:Array Value),laidMetH C.prog laid W->Given C fn W args->LawAt C.prog f args W) :
  ReturnsInHanded {} C os f .any (fun w args=>(s.pre enc C.prog fn conds false w args/\laidMetH C.prog laid w)/\sizedMet enc C.prog fn (OpenSpec.ofChange s) false w args) (s.post enc C.prog fn false true false false):=by
 refine returnsInHanded_of_change_and (X:=fun w _=>laidMetH C.prog laid w) (fun _ _ _ hh h=>h.of_heap hh) own started noInit hfn witness ?_
 intro W base args ds gs before hval hW _ hsz hL _
 refine Z068 hvars hs hres htb hl hpar hW (h W args hL ⟨⟨base,hval⟩,?_⟩)
 obtain ⟨p,q,hA,hV,rfl,hfz,hnd⟩:=hW
 rw [hvars] at hV
 obtain ⟨rfl,rfl⟩:=trodVars_none hV
 refine ⟨H,enc,ds,p,hA,?_⟩
 simpa [ChangeSpec.plain,DataSpec.varTypes,hvars] using hsz
end
theorem Zty {H:Type} {enc:TypeId×Value->H} {P:Program} {W:World} {n:Nat} {t:TypeId} {v:Value} {d:DataW H} {p:List MemPlace} {L:Lay}
  (hL:lay P n t .nil=some L) (h:DataW.Trod enc P W 0 (fun _=>true) true t v d p):Fits W maxLen L v.cells.toList:=by
 obtain ⟨fuel,hf⟩:=h
 have:=Z04n (Small.all) n t .nil L hL fuel v.cells.toList d p hf trivial [] rfl
 simpa using this
def Open (C:Checked) (W:World) (n:Nat):List TypeId->List Value->Prop
 | [],vs=>vs = []
 | t::ts,vs=>∃ v vs',vs=v::vs'/\(∃ base,Value.okWide C.prog W .any base t v)/\(∀ L,lay C.prog n t .nil=some L->Fits W maxLen L v.cells.toList)/\Open C W n ts vs'
theorem Given.open {C:Checked} {fn:Func} {W:World} {args:Array Value} (h:Given C fn W args) (n:Nat):Open C W n fn.params.toList args.toList:=by
 obtain ⟨⟨base,hw⟩,⟨H,enc,ds,p,hA,_⟩⟩:=h
 have key : ∀ (ts:List TypeId) (vs:List Value) (ds:List (DataW H)) (p:List MemPlace),DataW.TrodAll enc C.prog W 0 (fun _=>true) true ts vs ds p ->
   (∀ (j:Nat) t v,ts[j]? = some t->vs[j]? = some v->Value.okWide C.prog W .any base t v)->Open C W n ts vs:=by
  intro ts
  induction ts with
  | nil =>
   intro vs ds p h _
   cases vs with
   | nil=>rfl
   | cons v vs=>cases ds <;> exact h.elim
  | cons t ts ih =>
   intro vs ds p h hv
   cases vs with
   | nil=>cases ds <;> exact h.elim
   | cons v vs =>
    cases ds with
    | nil=>exact h.elim
    | cons d ds =>
     obtain ⟨p1,q1,h1,h2,rfl⟩:=h
     exact ⟨v,vs,rfl,⟨base,hv 0 t v rfl rfl⟩,fun L hL=>Zty hL h1,ih vs ds q1 h2 fun j t v h3 h4=>hv (j+1) t v h3 h4⟩
 exact key _ _ ds p hA fun j t v h1 h2=>hw j t v (by simpa using h1) (by simpa using h2)
theorem Z0pk {P:Program} {W:World} {base:Nat} {t:TypeId} {v x:Value} (hw:Value.okWide P W .any base t v) (hn:(match P.underlying t with | some (.struct _) | some (.array _ _)=>false | _=>true)=true)
  (h:v.cells.toList = [x]):v=x:=by
 cases v with
 | agg cs =>
  exfalso
  unfold Value.okWide at hw
  split at hw
  ·rename_i hu; rw [hu] at hn; cases hn
  ·rename_i hu; rw [hu] at hn; cases hn
  ·unfold Cell.okWide at hw
   split at hw <;> first | (rename_i h2; cases h2; done) | skip
   simp only [Cell.ok] at hw
   split at hw <;> simp_all
 | _=>simpa [Value.cells] using h
theorem wide_agg {P:Program} {W:World} {base:Nat} {t:TypeId} {v:Value} (hw:Value.okWide P W .any base t v) (hn:(match P.underlying t with | some (.struct _) | some (.array _ _)=>true | _=>false)=true):v = .agg v.cells.toList.toArray:=by
 unfold Value.okWide at hw
 split at hw
 ·obtain ⟨cs,rfl,_⟩:=hw; simp [Value.cells]
 ·obtain ⟨cs,rfl,_⟩:=hw; simp [Value.cells]
 ·rename_i h1 h2
  split at hn
  ·rename_i hu; exact absurd hu (h1 _)
  ·rename_i hu; exact absurd hu (h2 _ _)
  ·cases hn
theorem Zu1 {k:IntKind} {cs:List Value} {xs:List Int} (hl:cs.length=xs.length) (h : ∀ i,i<xs.length->cs[i]? = some (.int k (xs.getD i 0))):cs=intsCells k xs.length xs:=by
 apply List.ext_getElem?
 intro i
 by_cases hi:i<xs.length
 ·rw [h i hi]
  simp [intsCells,hi]
 ·rw [List.getElem?_eq_none (by omega),List.getElem?_eq_none (by simp [intsCells]; omega)]
theorem laid_ints {P:Program} {W:World} {l:List (String×DataW Unit)} (h:laidMet P l W) {name:String} {k:IntKind} {xs:List Int} (hm:(name,DataW.agg (xs.map fun x=>.lit (.int k x)))∈l) {g:Nat} {t e:TypeId} {m:Nat}
  (hg:P.globalNamed name=some g) (ht:(P.globals[g]?).map (·.type)=some t) (hu:P.underlying t=some (.array m e)) (he:P.underlying e=some (.int k)) (hc:P.cellsOf e=1) (hn:P.cellsOf t=m) (h0:0<m) :
  Mem W g 0 [.ints k xs.length xs]:=by
 obtain ⟨ps,hv,-,-⟩:=h
 induction l generalizing ps with
 | nil=>cases hm
 | cons x l ih =>
  obtain ⟨n,d⟩:=x
  obtain ⟨g',t',cs,fuel,p,q,h1,h2,h3,h4,h5,_⟩:=hv
  rcases List.mem_cons.1 hm with hx | hx
  ·cases hx
   obtain rfl:g'=g:=Option.some.inj (h1.symm.trans hg)
   obtain rfl:t'=t:=Option.some.inj (h2.symm.trans ht)
   obtain ⟨ys,m',_,hy,hlen,hyl,hel⟩:=DataW.trod_array hu h4
   simp only [Prod.mk.injEq,DataW.agg.injEq] at hy
   have hm':m=xs.length:=by rw [<- hyl]; have:=congrArg List.length hy.1; simpa using this.symm
   have hcs:cs.toList=intsCells k xs.length xs:=by
    refine Zu1 (by omega) fun i hi=>?_
    have h6:=hel i (by omega)
    have h7:i<ys.length:=by omega
    rw [List.getElem?_eq_getElem h7] at h6
    obtain ⟨z,h8,h9,_⟩:=DataW.trod_int he h6
    have h10:(ys.map (·.1))[i]? = some (.lit (.int k (xs.getD i 0))):=by rw [<- hy.1]; simp [hi]
    rw [List.getElem?_map,List.getElem?_eq_getElem h7,Option.map_some,h9] at h10
    simp only [Option.some.injEq,DataW.lit.injEq,Lit.int.injEq,true_and] at h10
    subst h10
    rw [hc] at h8
    have:=congrArg (fun l=>l[0]?) h8
    simpa using this
   refine Zhv (n:=xs.length) (cs:=cs.toList) (fun i hi=>?_) (by rw [hlen,hn,hm']) (by omega) (by rw [hcs]; simp [cells,Seg.cells]) (by simp [width,Seg.width])
   have:=World.var?_cell hg h3 i
   simpa using this
  ·exact ih hx _ h5
def rowL (P:Program) (w:World):List TypeId->List Value->Bool
  | [],[]=>true
  | t::ts,v::vs=>Cell.okWideB P w t v&&rowL P w ts vs
  | _,_=>false
theorem Zv6 {P:Program} {w:World} {base:Nat} : ∀ {ts:List TypeId} {vs:List Value},rowL P w ts vs=true->ts.length=vs.length /\ ∀ (i:Nat) v,vs[i]? = some v->∃ u,ts[i]? = some u/\Cell.okWide P w .any base u v
  | [],[],_=>⟨rfl,fun i v h=>by simp at h⟩
  | t::ts,v::vs,h=>by
    simp only [rowL,Bool.and_eq_true] at h
    obtain ⟨h1,h2⟩:=Zv6 (base:=base) h.2
    refine ⟨by simp [h1],fun i x hx=>?_⟩
    cases i with
    | zero => obtain rfl : v = x := by simpa using hx
              exact ⟨t,rfl,Cell.okWide_of_okWideB h.1⟩
    | succ i=>exact h2 i x (by simpa using hx)
  | [],_::_,h=>by simp [rowL] at h
  | _::_,[],h=>by simp [rowL] at h
def Z03p (P:Program) (w:World) (t:TypeId) (cs:Array Value):Bool:=match P.cellTypes P.depth t with
  | some ts=>rowL P w ts cs.toList
  | none=>false
theorem Zyr {P:Program} {w:World} {base:Nat} {t:TypeId} {cs:Array Value} (h:Z03p P w t cs=true):Row.okWide P w .any base t cs:=by
  unfold Z03p at h
  split at h
  · rename_i ts hts
    obtain ⟨h1,h2⟩:=Zv6 (base:=base) h
    refine ⟨ts,hts,⟨1,by rw [h1]; simp⟩,fun i v hv=>?_⟩
    have hi:i<cs.size:=(Array.getElem?_eq_some_iff.1 hv).1
    obtain ⟨u,hu,ho⟩:=h2 i v (by rw [<- hv]; simp)
    exact ⟨u,by rw [Nat.mod_eq_of_lt (by rw [h1]; simpa using hi)]; exact hu,ho⟩
  · cases h
def valL (P:Program) (w:World) (t:TypeId) (v:Value):Bool:=match P.underlying t with
  | some (.struct _) | some (.array _ _)=>match v with
    | .agg cs=>cs.size==P.cellsOf t&&Z03p P w t cs
    | _=>false
  | _=>Cell.okWideB P w t v
theorem Z08a {P:Program} {w:World} {base:Nat} {t:TypeId} {v:Value} (h:valL P w t v=true):Value.okWide P w .any base t v:=by
  unfold valL at h
  unfold Value.okWide
  split at h
  · rename_i fs hu
    simp only [hu]
    cases v <;> simp at h
    exact ⟨_,rfl,h.1,Zyr h.2⟩
  · rename_i n e hu
    simp only [hu]
    cases v <;> simp at h
    exact ⟨_,rfl,h.1,Zyr h.2⟩
  · rename_i h1 h2
    split
    · rename_i fs hu; exact absurd hu (h1 fs)
    · rename_i n e hu; exact absurd hu (h2 n e)
    · exact Cell.okWide_of_okWideB h
def Zvy (P:Program) (w:World):List TypeId->List Value->Bool
  | [],[]=>true
  | t::ts,v::vs=>valL P w t v&&Zvy P w ts vs
  | _,_=>false
theorem Zr6 {P:Program} {w:World} {base:Nat} : ∀ {ts:List TypeId} {vs:List Value},Zvy P w ts vs=true->vs.length=ts.length /\ ∀ (j:Nat) t v,ts[j]? = some t->vs[j]? = some v->Value.okWide P w .any base t v
  | [],[],_=>⟨rfl,fun j t v h=>by simp at h⟩
  | t::ts,v::vs,h=>by
    simp only [Zvy,Bool.and_eq_true] at h
    obtain ⟨h1,h2⟩:=Zr6 (base:=base) h.2
    refine ⟨by simp [h1],fun j u x hu hx=>?_⟩
    cases j with
    | zero => obtain rfl : t = u := by simpa using hu
              obtain rfl:v=x:=by simpa using hx
              exact Z08a h.1
    | succ j=>exact h2 j u x (by simpa using hu) (by simpa using hx)
  | [],_::_,h=>by simp [Zvy] at h
  | _::_,[],h=>by simp [Zvy] at h
theorem Z0b0 {P:Program} {w:World} {base:Nat} {f:FuncId} {fn:Func} {args:Array Value} (hi:P.inits.idxOf? f=none) (hfn:P.funcs[f]? = some fn) (hb:fn.body.isSome=true) (ho:fn.ours=false) (hf:fn.nfree=0)
    (h:Zvy P w fn.params.toList args.toList=true):Input.okWide P w .any base f ⟨#[],args,[]⟩:=by
  obtain ⟨h1,h2⟩:=Zr6 (base:=base) h
  refine ⟨fun o ho=>by simp at ho,fun gv hg=>by simp at hg,hi,fn,hfn,hb,ho,hf,by simpa using h1,fun j t v ht hv=>h2 j t v ?_ ?_⟩
  · simpa using ht
  · simpa using hv
section
variable {H:Type} {enc:TypeId×Value->H}
theorem witness_L {C:Checked} {os:Os} {f:FuncId} {fn:Func} {s:ChangeSpec} {conds:List PathCond} {apart:Bool} {X:World->Array Value->Prop} (w0:World) (args:Array Value) (fuel:Nat) (hos:w0.os=os)
    (hv:(w0.forCall (fun _ _=>0) ⟨#[],args,[]⟩).variablesB C.prog=true)
    (hr:((w0.forCall (fun _ _=>0) ⟨#[],args,[]⟩).heap.toList.drop C.prog.globals.size).take ((begin C.prog (fun _ _=>0) default).world.heap.size-C.prog.globals.size) =
      (begin C.prog (fun _ _=>0) default).world.heap.toList.drop C.prog.globals.size)
    (hi:C.prog.inits.idxOf? f=none) (hfn:C.prog.funcs[f]? = some fn) (hb:fn.body.isSome=true) (ho:fn.ours=false) (hf:fn.nfree=0) (hok:Zvy C.prog (w0.forCall (fun _ _=>0) ⟨#[],args,[]⟩) fn.params.toList args.toList=true)
    (hpre:s.preB enc C.prog fn conds apart (w0.forCall (fun _ _=>0) ⟨#[],args,[]⟩).memory args fuel=true)
    (hsz:s.sizedB enc C.prog fn apart (w0.forCall (fun _ _=>0) ⟨#[],args,[]⟩).memory args fuel=true)
    (hx:X (w0.forCall (fun _ _=>0) ⟨#[],args,[]⟩).memory args) :
    ∃ (w:World) (tape:Tape) (i:Input),w.os=os/\(w.forCall tape i).Shaped C.prog/\i.vars = []/\Input.okWide C.prog (w.forCall tape i) .any w.heap.size f i /\
      ((s.pre enc C.prog fn conds apart (w.forCall tape i).memory i.args/\X (w.forCall tape i).memory i.args)/\sizedMet enc C.prog fn (OpenSpec.ofChange s) apart (w.forCall tape i).memory i.args)/\({}:Assume).holds C.prog (lone (Frame.enter C.prog f i.args .normal) [] (w.forCall tape i)) :=
  ⟨w0,fun _ _=>0,⟨#[],args,[]⟩,hos,World.shaped_of_B hv hr,rfl,Z0b0 hi hfn hb ho hf hok,⟨⟨ChangeSpec.pre_of_preB hpre,hx⟩,sizedMet_of_sizedB hsz⟩,by
    simp only [Assume.holds]
    exact ⟨by simp,by simp,fun h=>by simp at h,by simp,by simp⟩⟩
end
abbrev factA (P:Program) (fn:Func) (s:ChangeSpec) (c:OpenClaim):Bool:=c.wf (OpenSpec.ofChange s)&&laidOutB P&&mapsRowed P&&fn.params.all (P.readableRec ·)&&namedTie P c.named s.vars
abbrev factB (P:Program) (c:OpenClaim):Bool:=(c.stops == [])&&(P.stops == [])&&(c.knobs == [])&&(P.stopKnobs == [])
abbrev factC (P:Program) (f:FuncId) (c:OpenClaim):Bool:=c.inPlace==P.inPlace f
abbrev factD (P:Program) (f:FuncId) (c:OpenClaim):Bool:=c.unfollowed==P.unfollowed f
abbrev factE (P:Program) (f:FuncId) (c:OpenClaim):Bool:=c.recurses==P.recurses f
abbrev factF (P:Program) (f:FuncId) (c:OpenClaim):Bool:=c.named==P.varsNamed f
abbrev factG (P:Program) (fn:Func) (s:ChangeSpec) (c:OpenClaim):Bool :=
  (c.maps==(fn.params.toList++s.plain.varTypes P).any (P.mapsRec ·))&&(c.ifaces==(fn.params.toList++s.plain.varTypes P).any (P.ifacesRec ·))&&(c.mapsOut==P.mapsAmong fn.resultTypes.toList) &&
  (c.loops==(fn.params.toList++s.plain.varTypes P).any (P.loopsFrom ·))&&(c.wideKeys==(fn.params.toList++s.plain.varTypes P++fn.resultTypes.toList).any (P.wideKeysFrom ·))
abbrev factH (P:Program) (c:OpenClaim):Bool:=(c.plainKeys==P.plainKeys)&&c.shortTexts.isNone&&P.stopsHeard&&P.mayEnter
abbrev factI (P:Program) (c:OpenClaim):Bool:=(c.lifted==P.liftsFinal)&&(P.make==some c.make)&&(c.pinned==c.pinnedBy)
abbrev factK (P:Program) (fn:Func) (s:ChangeSpec) (c:OpenClaim):Bool :=
  s.vars.all (P.varReadable ·)&&fn.resultTypes.all (fun t=>P.readableRec t&&decide (t<P.types.size))&&(c.ifacesOut==fn.resultTypes.toList.any (P.ifacesRec ·))&&(c.loopsOut==fn.resultTypes.toList.any (P.loopsFrom ·)) &&
  (c.kinds==(if c.domain.isEmpty then [] else fn.params.toList.map fun t=>match P.underlying t with | some (.int k)=>some k | _=>none)) &&
  (c.veiled==(fn.params.toList++s.plain.varTypes P++fn.resultTypes.toList).any (P.veiledRec ·))&&c.veiledFits P fn.params.toList (fn.params.toList++s.plain.varTypes P++fn.resultTypes.toList)
theorem facts_of {P:Program} {f:FuncId} {fn:Func} {s:ChangeSpec} {c:OpenClaim} (a:factA P fn s c=true) (b:factB P c=true) (hc:factC P f c=true) (d:factD P f c=true) (e:factE P f c=true) (hf:factF P f c=true)
    (g:factG P fn s c=true) (h:factH P c=true) (i:factI P c=true) (k:factK P fn s c=true):joinedFacts P f fn s c=true:=by
  unfold joinedFacts
  simp only [factA,factB,factC,factD,factE,factF,factG,factH,factI,factK,Bool.and_eq_true] at a b hc d e hf g h i k ⊢
  obtain ⟨⟨⟨⟨a1,a2⟩,a3⟩,a4⟩,a5⟩:=a
  obtain ⟨⟨⟨b1,b2⟩,b3⟩,b4⟩:=b
  obtain ⟨⟨⟨⟨g1,g2⟩,g3⟩,g4⟩,g5⟩:=g
  obtain ⟨⟨⟨h1,h2⟩,h3⟩,h4⟩:=h
  obtain ⟨⟨i1,i2⟩,i3⟩:=i
  obtain ⟨⟨⟨⟨⟨⟨k1,k2⟩,k3⟩,k4⟩,k5⟩,k6⟩,k7⟩:=k
  repeat' apply And.intro
  all_goals assumption
theorem laid_of {P:Program} {fn:Func} {s:ChangeSpec} {c:OpenClaim} (a:factA P fn s c=true):laidOutB P=true:=by
  simp only [factA,Bool.and_eq_true] at a
  exact a.1.1.1.2
end Go.Sx
namespace Go.Sx
open Go Go.RowKit
set_option linter.all false
section
variable {C:Cfg} {t:TS} {m:List Zd} {kn:KN} {ke:KE}
theorem WC.mono {c:IC} {kn':KN} (hK : ∀ t m,kn t m->kn' t m) (h:WC C c t m kn ke):WC C c t m kn' ke:=by
 intro hm c0 hok ρ fu Q a w ha hw hc
 exact h hm c0 hok ρ fu Q a w ha hw ⟨fun t m hk=>hc.n t m (hK t m hk),hc.b,hc.r,hc.p⟩
end
section
variable {C:Cfg} {m:List Zd} {t:TS}
theorem Z02s {P:Program} {o:Oper} {x:Operand} (h:Za4 P o (.nilc x)=true):o.op = .nilCheck x:=by
 simp only [Za4] at h
 split at h
 ·rename_i x' heq
  have e:=Z0m h; subst e; exact heq
 ·cases h
theorem Z28 {x:Operand} {a:Addr} (hx:ev t x=some (.pointer (some a))):Q1 C m t (.nilc x) (.pointer (some a)):=by
 intro o ho f hf w hw
 refine Z0t ?_
 have e:=Z02s ho
 unfold execOp
 rw [e]
 simp only [hf.ev hx]
 rfl
theorem Z0c4 {neg:Bool} {x:Operand} {a:Option Addr} {n c:Nat} (hx:ev t x=some (.slice a n c)):Q1 C m t (.isn neg x) (.bool (bif neg then !a.isNone else a.isNone)):=by
 intro o ho f hf w hw
 refine Z0t ?_
 simp only [Za4] at ho
 split at ho
 ·rename_i op' T x' y' T' heq
  simp only [Bool.and_eq_true,decide_eq_true_eq] at ho
  obtain ⟨⟨⟨h1,h2⟩,h3⟩,h4⟩:=ho
  have e:=Z0m h2; have e':=Z0m h3; subst e; subst e'
  split at h4
  ·rename_i E hu
   have e1:f.eval (.const (.slice none 0 0)) = .slice none 0 0:=rfl
   have e2:(Op.equal T (.slice a n c) (.slice none 0 0)).run C.P w = .ok a.isNone w:=by
    unfold Op.equal
    have:Op.maxDepth=(Op.maxDepth-1)+1:=rfl
    rw [this,Op.equalIn]
    rw [Sem.run_bind,Z01 hu,Result.andThen_ok]
    cases a <;> rfl
   simp only [execOp,heq,hf.ev hx,e1]
   refine Ze5 ?_
   cases neg
   ·simp only [Bool.false_eq_true,if_false] at h1
    subst h1
    have e3:(eqGuard .eql T x' (.const (.slice none 0 0)) (.slice a n c) (.slice none 0 0)).run C.P w = .ok () w:=rfl
    rw [Sem.run_bind,e3,Result.andThen_ok]
    show (do pure (Value.bool (<- Op.equal T (.slice a n c) (.slice none 0 0))):Sem Value).run C.P w=_
    rw [Sem.run_bind,e2]; rfl
   ·simp only [if_true] at h1
    subst h1
    have e3:(eqGuard .neq T x' (.const (.slice none 0 0)) (.slice a n c) (.slice none 0 0)).run C.P w = .ok () w:=rfl
    rw [Sem.run_bind,e3,Result.andThen_ok]
    show (do pure (Value.bool (!(<- Op.equal T (.slice a n c) (.slice none 0 0)))):Sem Value).run C.P w=_
    rw [Sem.run_bind,e2]; rfl
  ·cases h4
 ·cases ho
theorem Z0zj {n:Nat} {x:Operand} {a:Option Addr} {l c:Nat} (hx:ev t x=some (.slice a l c)) (hl:n<=l):Q1 C m t (.s2a n x) (.pointer a):=by
 intro o ho f hf w hw
 refine Z0t ?_
 simp only [Za4] at ho
 split at ho
 ·rename_i A x' heq
  simp only [Bool.and_eq_true] at ho
  obtain ⟨h1,h2⟩:=ho
  have e:=Z0m h1; subst e
  split at h2
  ·rename_i k E hu
   rw [decide_eq_true_eq] at h2; subst h2
   unfold execOp
   rw [heq]
   simp only [hf.ev hx]
   simp [Instr.arrayAt,Z01 hu,Nat.not_lt.2 hl]
  ·cases h2
 ·cases ho
end
end Go.Sx
