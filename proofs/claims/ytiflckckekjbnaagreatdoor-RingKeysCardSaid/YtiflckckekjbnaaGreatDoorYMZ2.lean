/- Texts of a proof, one behind the other: E16 E17 E18 E19 E20 E21 E22 E23 E24 E25. -/
import Derived.Test.YtiflckckekjbnaaGreatDoorYMZ1
import Derived.RangeFuncLeaves
import Derived.RangeFuncRecord
import Derived.Laws.IdiomStrings
namespace Go.Sx
open Go Go.RowKit
open List (replicate)
set_option linter.all false
section
variable {α β:Type} {r:β} {G:Prop}
def bnd (x:α) (f:α->Option β):Option β:=f x
def chk (c:Bool) (o:Option β):Option β:=bif c then o else none
def opt (o:Option α) (f:α->Option β):Option β:=o.bind f
def jn {K:Type} (k:K) (g:K->Option β):Option β:=g k
def br (c:Bool) (a b:Option β):Option β:=bif c then a else b
@[irreducible] def big:Nat:=18446744073709551616
theorem Z38:big=18446744073709551616:=by unfold big; rfl
theorem Z0gq {x:α} {f:α->Option β} (h : ∀ z,z=x->f z=some r->G):bnd x f=some r->G:=fun e=>h x rfl e
theorem Z0gs {c:Bool} {o:Option β} (h:c=true->o=some r->G):chk c o=some r->G:=by
 intro e; cases c
 ·simp [chk] at e
 ·exact h rfl e
theorem Z0lt {o:Option α} {f:α->Option β} (h : ∀ y,o=some y->f y=some r->G):opt o f=some r->G:=by
 intro e; cases o with
 | none=>simp [opt] at e
 | some y=>exact h y rfl e
theorem jn_i {K:Type} {k:K} {g:K->Option β} (h : ∀ k',k'=k->g k'=some r->G):jn k g=some r->G:=fun e=>h k rfl e
theorem br_t {c:Bool} {a b:Option β} (h:br c a b=some r) (hc:c=true):a=some r:=by subst hc; exact h
theorem br_f {c:Bool} {a b:Option β} (h:br c a b=some r) (hc:c=false):b=some r:=by subst hc; exact h
theorem Zv {a:β} (h:a=r->G):some a=some r->G:=fun e=>h (Option.some.inj e)
theorem Z07:(none:Option β)=some r->G:=fun e=>by cases e
end
def inB (z:Int) (n:Nat):Bool:=decide (0<=z)&&decide (z<n)
theorem Z08 {z:Int} {n:Nat} (h:inB z n=true):0<=z/\z<n:=by simpa [inB] using h
theorem Z01 {z:Int} {n:Nat} (h:inB z n=true):z.toNat<n:=by have:=Z08 h; omega
def imp (a b:Bool):Bool := !a||b
theorem Zu6 {a b:Bool} (h:imp a b=true) (ha:a=true):b=true:=by subst ha; simpa [imp] using h
theorem Z01r {a b:Bool} (h:imp (!a) b=true) (ha:a=false):b=true:=by subst ha; simpa [imp] using h
def Zfh (lo hi:Int) (n:Nat):Bool:=decide (0<=lo)&&decide (lo<=hi)&&decide (hi<=n)
theorem Zj0 {lo hi:Int} {n:Nat} (h:Zfh lo hi n=true):0<=lo/\lo<=hi/\hi<=n:=by simp [Zfh] at h; omega
abbrev Z0f (k:IntKind) (p q:Int):Int:=p.fdiv (2^min q.toNat k.bits)
abbrev Z1v (k:IntKind) (p q:Int):Int:=k.wrap (p*2^min q.toNat k.bits)
def Zkm {α:Type} (z:α) (xs:List α) (i:Nat) (v:α):List α:=if i<xs.length then xs.set i v else xs++(replicate (i-xs.length) z ++ [v])
theorem Zni {α:Type} (z:α) (xs:List α) (i j:Nat) (v:α):(Zkm z xs i v).getD j z=if j=i then v else xs.getD j z:=by
 unfold Zkm
 by_cases h:i<xs.length
 ·rw [if_pos h]
  by_cases hj:j=i
  ·subst hj; simp [List.getD,h]
  ·simp [List.getD,List.getElem?_set,hj,Ne.symm hj]
 ·rw [if_neg h]
  simp only [List.getD]
  by_cases hj:j<xs.length
  ·rw [List.getElem?_append_left hj,if_neg (by omega)]
  ·rw [List.getElem?_append_right (by omega)]
   by_cases hji:j=i
   ·subst hji; rw [List.getElem?_append_right (by simp)]; simp
   ·rw [if_neg hji,List.getElem?_eq_none (l:=xs) (by omega)]
    by_cases hlt:j<i
    ·rw [List.getElem?_append_left (by simp; omega),List.getElem?_replicate]; split <;> rfl
    ·rw [List.getElem?_eq_none (by simp; omega)]
theorem Zct {α:Type} {z:α} {xs:List α} {i:Nat} {v:α} (h:i<xs.length):Zkm z xs i v=xs.set i v:=if_pos h
inductive Take (ms:List Zf):List Zf->List Zf->Prop
 | here {m:List Zf}:Take ms (ms++m) m
 | there {c:Zf} {m m':List Zf}:Take ms m m'->Take ms (c::m) (c::m')
 | app {ns m m':List Zf}:Take ms m m'->Take ms (ns++m) (ns++m')
inductive Z41 (c:Zf):List Zf->List Zf->Prop
 | here {m:List Zf}:Z41 c (c::m) m
 | there {c':Zf} {m m':List Zf}:Z41 c m m'->Z41 c (c'::m) (c'::m')
 | app {ns m m':List Zf}:Z41 c m m'->Z41 c (ns++m) (ns++m')
theorem Zy6 (ms ns m:List Zf):List.Perm (ms++(ns++m)) (ns++(ms++m)):=by
 rw [<- List.append_assoc,<- List.append_assoc]
 exact List.Perm.append_right m List.perm_append_comm
theorem Take.perm {ms m m':List Zf} (h:Take ms m m'):List.Perm (ms++m') m:=by
 induction h with
 | here=>exact List.Perm.refl _
 | there _ ih=>exact List.perm_middle.trans (ih.cons _)
 | app _ ih=>exact (Zy6 _ _ _).trans (List.Perm.append_left _ ih)
theorem Z41.perm {c:Zf} {m m':List Zf} (h:Z41 c m m'):List.Perm (c::m') m:=by
 induction h with
 | here=>exact List.Perm.refl _
 | there _ ih=>exact (List.Perm.swap _ _ _).trans (ih.cons _)
 | app _ ih=>exact (List.perm_middle.symm).trans (List.Perm.append_left _ ih)
inductive Zn5:List Zf->List Zf->Prop
 | nil {m:List Zf}:Zn5 [] m
 | all {ms M m m1:List Zf}:Take ms m m1->Zn5 M m1->Zn5 (ms++M) m
 | one {c:Zf} {M m m1:List Zf}:Z41 c m m1->Zn5 M m1->Zn5 (c::M) m
 | no {M m:List Zf}:Zn5 M m->Zn5 ([]++M) m
theorem Zn5.rest {M m:List Zf} (h:Zn5 M m) : ∃ r,List.Perm (M++r) m:=by
 induction h with
 | nil=>exact ⟨_,List.Perm.refl _⟩
 | all h1 _ ih =>
  obtain ⟨r,hr⟩:=ih
  exact ⟨r,by rw [List.append_assoc]; exact (List.Perm.append_left _ hr).trans h1.perm⟩
 | one h1 _ ih =>
  obtain ⟨r,hr⟩:=ih
  exact ⟨r,by rw [List.cons_append]; exact (hr.cons _).trans h1.perm⟩
 | no _ ih=>exact ih
theorem Sat.psub {W0:World} {S:List Nat} {M m:List Zf} {w:World} (h:Sat W0 S m w) (hs:Zn5 M m):Sat W0 S M w:=by
 obtain ⟨r,hr⟩:=hs.rest
 exact (h.perm hr).sublist (List.sublist_append_left _ _)
theorem Sat.take {W0:World} {S:List Nat} {ms m m':List Zf} {w:World} (h:Sat W0 S m w) (hs:Take ms m m'):Sat W0 S ms w :=
 (h.perm hs.perm).sublist (List.sublist_append_left _ _)
structure Fit (T:TS) (M:List Zf) (t:TS) (m:List Zf):Prop where
 t:subT T t
 m:Zn5 M m
section
variable {C:Cfg} {t:TS} {m:List Zf} {kn:KN} {ke:KE}
theorem Ze {c:IC} {T:TS} {M:List Zf} (hl:Fit T M t m) (h:WC C c T M kn ke):WC C c t m kn ke:=by
 intro hm c0 hok ρ fu Q a w ha hw hc
 exact h hm c0 hok ρ fu Q a w (ha.drop (Zw9 hl.t)) (hw.psub hl.m) hc
theorem Zg {a:IC} {G:TS->List Zf->Prop} (h1:WC C a t m G ke) (h2 : ∀ t m,G t m->kn t m):WC C a t m kn ke:=h1.mono h2
theorem Zm {c:IC} (J:Nat->TS->List Zf->Prop) (n0:Nat) (h0:J n0 t m)
  (round : ∀ n t m,J n t m->WC C c t m (fun t' m'=>∃ n',n'<n/\J n' t' m') ke):WC C (.loop c) t m kn ke:=by
 intro hm c0 hok ρ fu Q a w ha hw hc
 cases c0 <;> first | (simp [okC] at hok; done) | skip
 rename_i c1
 simp only [okC] at hok
 refine Zwk (X:=Nat×TS×List Zf) (fun x a w=>J x.1 x.2.1 x.2.2/\Zb1 C.n x.2.1 a/\Sat C.W0 C.S x.2.2 w) (fun x=>x.1) (x0:=(n0,t,m)) ⟨h0,ha,hw⟩ ?_
 rintro ⟨n,t1,m1⟩ a w ⟨hI,ha,hw⟩
 refine round n t1 m1 hI hm c1 hok ρ fu _ a w ha hw ⟨?_,hc.b,hc.r⟩
 rintro t' m' ⟨n',hlt,hJ⟩ a' w' ha' hw'
 exact ⟨(n',t',m'),⟨hJ,ha',hw'⟩,hlt⟩
end
structure El (α:Type) where
 w:Nat
 cell:α->List Value
 len : ∀ a,(cell a).length=w
 one : ∀ a,∀ v∈cell a,one1 v=true
 pos:0<w
 z:α
abbrev El.int (k:IntKind):El Int:=⟨1,fun x=>[.int k x],fun _=>rfl,fun _ v h=>by simp at h; subst h; rfl,by decide,0⟩
def Zb2 {α:Type} (E:El α) (xs:List α):Nat->List Value:=fun i=>E.cell (xs.getD i E.z)
theorem Z5i : ∀ v∈cells [],one1 v=true:=fun v h=>by cases h
theorem Z0z {s:Seg} {r:List Seg} (h1 : ∀ v∈s.cells,one1 v=true) (h2 : ∀ v∈cells r,one1 v=true) : ∀ v∈cells (s::r),one1 v=true:=by
 intro v hv
 simp only [cells,List.mem_append] at hv
 exact hv.elim (h1 v) (h2 v)
theorem Zb5 {u:Value} (h:one1 u=true) : ∀ v∈(Seg.one u).cells,one1 v=true:=by
 intro v hv; simp only [Seg.cells,List.mem_singleton] at hv; subst hv; exact h
theorem Z3q {k:IntKind} {n:Nat} {xs:List Int} : ∀ v∈(Seg.ints k n xs).cells,one1 v=true:=by
 intro v hv; simp only [Seg.cells,intsCells,List.mem_map] at hv; obtain ⟨_,_,rfl⟩:=hv; rfl
theorem Zga {α:Type} {E:El α} {n:Nat} {xs:List α} : ∀ v∈(Seg.rows E.w n (Zb2 E xs)).cells,one1 v=true:=by
 intro v hv
 exact Zr2 (w:=E.w) (n:=n) (g:=Zb2 E xs) (fun i _=>⟨E.len _,E.one _⟩) v hv
theorem Zxg {α:Type} {E:El α} (x:α):fit E.w (E.cell x)=E.cell x:=Z8s (E.len x)
def Z6v {α:Type} (E:El α) (W:World) (v:Value) (xs:List α):Prop :=
 (v = .slice none 0 0/\xs = [])∨(∃ b o cp,v = .slice (some ⟨b,o,none⟩) xs.length cp/\xs.length<=cp /\ ∀ i,i<xs.length->∀ j,j<E.w->W.cell? ⟨b,o+(i*E.w+j),none⟩=(E.cell (xs.getD i E.z))[j]?) ∨ ∃ a,v = .slice (some a) 0 0/\xs = []
def Zi6 {α:Type} (C:Cfg) (m:List Zf) (E:El α) (v:Value) (xs:List α):Prop:=∀ w,Sat C.W0 C.S m w->Z6v E w v xs
def Z03 {α:Type} (E:El α) (v:Value) (ms:List Zf) (xs:List α):Prop :=
 (v = .slice none 0 0/\xs = []/\ms = []) ∨ ∃ b o cp T cs,v = .slice (some ⟨b,o,none⟩) xs.length cp/\xs.length<=cp/\ms = [⟨b,.cells (cells cs).toArray T (0,0)⟩]/\o+cp*E.w<=width cs /\
  ∀ i,i<xs.length->∀ j,j<E.w->(cells cs)[o+(i*E.w+j)]? = (E.cell (xs.getD i E.z))[j]?
theorem Z49 {α:Type} {E:El α}:Z03 E (.slice none 0 0) [] []:=.inl ⟨rfl,rfl,rfl⟩
theorem Z0fb {α:Type} {E:El α} {W:World}:Z6v E W (.slice none 0 0) []:=.inl ⟨rfl,rfl⟩
theorem Z6v.own {α:Type} {E:El α} {v:Value} {ms:List Zf} {xs:List α} (h:Z03 E v ms xs) {W0:World} {S:List Nat} {w:World} (hw:Sat W0 S ms w):Z6v E w v xs:=by
 rcases h with ⟨h1,h2,h3⟩ | ⟨b,o,cp,T,cs,h1,h2,h3,h4,h5⟩
 ·exact .inl ⟨h1,h2⟩
 ·refine .inr (.inl ⟨b,o,cp,h1,h2,fun i hi j hj=>?_⟩)
  subst h3
  rw [Zbj (hw.own _ List.mem_cons_self),h5 i hi j hj]
theorem Z6v.same {α:Type} {E:El α} {W w:World} {v:Value} {xs:List α} (h:Z6v E W v xs) (hb : ∀ b o x,(∀ a n c,v = .slice (some a) n c->a.block=b)->W.cell? ⟨b,o,none⟩=some x->w.cell? ⟨b,o,none⟩=some x):Z6v E w v xs:=by
 rcases h with h | ⟨b,o,cp,h1,h2,h3⟩ | h
 ·exact .inl h
 rotate_left 1
 ·exact .inr (.inr h)
 ·refine .inr (.inl ⟨b,o,cp,h1,h2,fun i hi j hj=>?_⟩)
  have h4:=h3 i hi j hj
  have h5:j<(E.cell (xs.getD i E.z)).length:=by rw [E.len]; exact hj
  rw [List.getElem?_eq_getElem h5] at h4 ⊢
  exact hb b _ _ (fun a n c e=>by rw [h1] at e; injection e with e; injection e with e; rw [<- e]) h4
theorem Zm6 {W:World} {b o:Nat} {x:Value} (h:W.cell? ⟨b,o,none⟩=some x):b<W.heap.size:=by
 rcases Nat.lt_or_ge b W.heap.size with h1 | h1
 ·exact h1
 ·have:W.heap[b]? = none:=Array.getElem?_eq_none h1
  simp [World.cell?,this] at h
theorem Z6v.below {α:Type} {E:El α} {W w:World} {v:Value} {xs:List α} (h:Z6v E W v xs) (hb:Below W.heap.size W w):Z6v E w v xs :=
 h.same fun b o x _ hx=>by rw [hb.cell (p:=⟨b,o,none⟩) (Zm6 hx)]; exact hx
section
variable {α:Type} {C:Cfg} {m:List Zf} {t:TS} {K:KN} {E:El α} {v:Value} {xs:List α}
def Zi4 (v:Value) (xs:List α) (S:List Nat):Prop:=∀ a n c,v = .slice (some a) n c->0<xs.length->a.block∉S
theorem Z2k (h:Z6v E C.W0 v xs) (hS:Zi4 v xs C.S):Zi6 C m E v xs:=by
 intro w hw
 rcases h with h | ⟨b',o',cp,h1,h2,h3⟩ | h
 ·exact .inl h
 rotate_left 1
 ·exact .inr (.inr h)
 ·by_cases h0:0<xs.length
  ·refine Z6v.same (.inr (.inl ⟨b',o',cp,h1,h2,h3⟩)) fun b o x hb hx=>?_
   have e:=hb _ _ _ h1
   subst e
   rw [<- hx]
   unfold World.cell?; simp only [hw.fr.block _ (Zm6 hx) (hS _ _ _ h1 h0)]
  ·exact .inr (.inl ⟨b',o',cp,h1,h2,fun i hi=>by omega⟩)
theorem Z2y:Zi4 v xs []:=fun _ _ _ _ _=>by simp
theorem Zn9 {W0 w:World} {ms m1:List Zf} {b:Nat} {o:Obj} {T:List Nat} (hO:Z03 E v ms xs) (hT:Take ms m m1) (hb:Has b o m1) (hw:Sat W0 T m w):Zi4 v xs [b]:=by
 rcases hO with ⟨h1,h2,h3⟩ | ⟨b1,o1,cp,T1,cs,h1,h2,h3,h4,h5⟩
 ·intro a n c e h0; subst h2; simp at h0
 ·intro a n c e h0
  subst h1
  injection e with e; injection e with e; subst e
  subst h3
  have hd:=(hw.perm hT.perm).dist
  simp only [List.cons_append,List.nil_append,List.map_cons,List.nodup_cons] at hd
  intro hm
  simp only [List.mem_singleton] at hm
  exact hd.1 (hm▸List.mem_map.2 ⟨_,hb.mem,rfl⟩)
theorem Zn8 {W0 w:World} {b:Nat} {o:Obj} (h:Z6v E W0 v xs) (hb:Has b o m) (hw:Sat W0 [] m w):Zi4 v xs [b]:=by
 intro a n c e h0
 rcases h with ⟨h1,h2⟩ | ⟨b',o',cp,h1,h2,h3⟩ | ⟨_,_,h2⟩
 ·subst h2; simp at h0
 rotate_left 1
 ·subst h2; simp at h0
 ·rw [h1] at e
  injection e with e; injection e with e; subst e
  intro hm
  simp only [List.mem_singleton] at hm
  have h4:=h3 0 h0 0 E.pos
  have h5:0<(E.cell (xs.getD 0 E.z)).length:=by rw [E.len]; exact E.pos
  rw [List.getElem?_eq_getElem h5] at h4
  have:=Zm6 h4
  rcases hw.base _ hb.mem with h6 | h6
  ·simp only at h6; omega
  ·simp at h6
theorem Zos {b o l n w:Nat}:(Z54 b o l n w).block=b:=by unfold Z54; split <;> rfl
theorem Z00 {ms mr:List Zf} (hO:Z03 E v ms xs) (hT:Take ms m mr):Zi6 C m E v xs:=fun _ hw=>Z6v.own hO (hw.take hT)
theorem Zve {ms:List Zf} (hO:Z03 E v ms xs):Zi6 C ms E v xs:=fun _ hw=>Z6v.own hO hw
theorem Zvd {ms mr:List Zf} (h:Zi6 C ms E v xs) (hT:Take ms m mr):Zi6 C m E v xs:=fun w hw=>h w (hw.take hT)
theorem iz {k:IntKind} {z e:Int} {op:IOp} (h:z=e) (q:Q1 C m t op (.int k e)):Q1 C m t op (.int k z):=h▸q
def Z8f:Value->Addr
 | .slice (some a) _ _=>a
 | _=>⟨0,0,none⟩
theorem Zx6 {W:World} {b o1:Nat} {j c n:Nat} {s p:List Seg} (h3 : ∀ k,k<E.w->W.cell? ⟨b,o1+(j*E.w+k),none⟩=(E.cell (xs.getD j E.z))[k]?) (hc:E.cell (xs.getD j E.z)=cells s) (hp:sub s c n=some p) (k:Nat) (hk:k<n) :
  W.cell? ⟨b,o1+j*E.w+c+k,none⟩=(cells p)[k]? := by
 obtain ⟨e1,e2,e3⟩:=Z8b hp
 have hw:width s=E.w:=by rw [<- cells_length,<- hc,E.len]
 have:=h3 (c+k) (by rcases e3 with e3 | e3 <;> omega)
 rw [show o1+j*E.w+c+k=o1+(j*E.w+(c+k)) by omega,this,hc,e1,List.getElem?_take_of_lt hk,List.getElem?_drop]
theorem Z0m3 {n:Nat} {x:Operand} {j c:Nat} {s p:List Seg} (hx:ev t x=some (.pointer (some ⟨(Z8f v).block,(Z8f v).off+j*E.w+c,none⟩))) (hs:Zi6 C m E v xs) (hj:j<xs.length) (hc:E.cell (xs.getD j E.z)=cells s) (hp:sub s c n=some p) :
  Q1 C m t (.ld n true x) (agg p):=by
 intro o ho a ha w hw
 obtain ⟨e1,e2,e3⟩:=Z8b hp
 rcases hs w hw with ⟨h1,h2⟩ | ⟨b,o1,cp,h1,h2,h3⟩ | ⟨_,_,h2⟩
 ·subst h2; simp at hj
 rotate_left 1
 ·subst h2; simp at hj
 ·subst h1
  refine Z0d ?_
  rw [Z4p (l:=cells p) ho (ha.ev hx) (by rw [cells_length]; exact e2) (fun k hk=>Zx6 (h3 j hj) hc hp k hk) (fun h=>by cases h)]
  rfl
theorem Zv2 {n:Nat} {x:Operand} {j:Nat} {s p:List Seg} (hx:ev t x=some (.pointer (some ⟨(Z8f v).block,(Z8f v).off+j*E.w,none⟩))) (hs:Zi6 C m E v xs) (hj:j<xs.length) (hc:E.cell (xs.getD j E.z)=cells s) (hp:sub s 0 n=some p) :
  Q1 C m t (.ld n true x) (agg p):=Z0m3 (c:=0) hx hs hj hc hp
theorem Ztn {s:List Seg} {c:Nat} {u:Value} (h:Zg1 s c=some u):c<width s:=by
 rw [Zg2] at h
 have:=(List.getElem?_eq_some_iff.1 h).1
 rwa [cells_length] at this
theorem Z0b0 {x:Operand} {j c:Nat} {s:List Seg} {u:Value} (hx:ev t x=some (.pointer (some ⟨(Z8f v).block,(Z8f v).off+j*E.w+c,none⟩))) (hs:Zi6 C m E v xs) (hj:j<xs.length) (hc:E.cell (xs.getD j E.z)=cells s) (hp:Zg1 s c=some u) :
  Q1 C m t (.ld 1 false x) u:=by
 intro o ho a ha w hw
 rcases hs w hw with ⟨h1,h2⟩ | ⟨b,o1,cp,h1,h2,h3⟩ | ⟨_,_,h2⟩
 ·subst h2; simp at hj
 rotate_left 1
 ·subst h2; simp at hj
 ·subst h1
  refine Z0d ?_
  have hw:width s=E.w:=by rw [<- cells_length,<- hc,E.len]
  have hlt:=Ztn hp
  rw [Z4p (l:=[u]) ho (ha.ev hx) rfl (fun k hk=>by
   obtain rfl:k=0:=by omega
   have:=h3 j hj c (by omega)
   simp only [Z8f,Nat.add_zero,List.getElem?_cons_zero]
   rw [show o1+j*E.w+c=o1+(j*E.w+c) by omega,this,hc,<- Zg2]
   exact hp) (fun _=>rfl)]
  rfl
theorem Z6k {x:Operand} {j:Nat} {s:List Seg} {u:Value} (hx:ev t x=some (.pointer (some ⟨(Z8f v).block,(Z8f v).off+j*E.w,none⟩))) (hs:Zi6 C m E v xs) (hj:j<xs.length) (hc:E.cell (xs.getD j E.z)=cells s) (hp:Zg1 s 0=some u) :
  Q1 C m t (.ld 1 false x) u:=Z0b0 (c:=0) hx hs hj hc hp
theorem Z0m4 {k:IntKind} {n:Nat} {x:Operand} {ys:List Int} (hx:ev t x=some (.pointer (some ⟨(Z8f v).block,(Z8f v).off,none⟩))) (hs:Zi6 C m (El.int k) v ys) (h0:0<n) (hn:decide (n<=ys.length)=true) :
  Q1 C m t (.ld n true x) (agg [.ints k n (tk ys 0 n)]):=by
 intro o ho a ha w hw
 have hn:=of_decide_eq_true hn
 rcases hs w hw with ⟨h1,h2⟩ | ⟨b,o1,cp,h1,h2,h3⟩ | ⟨_,_,h2⟩
 ·subst h2; simp at hn; omega
 rotate_left 1
 ·subst h2; simp at hn; omega
 ·subst h1
  refine Z0d ?_
  rw [Z4p (l:=cells [.ints k n (tk ys 0 n)]) ho (ha.ev hx) (by rw [cells_length]; rfl) (fun i hi=>?_) (fun h=>by cases h)]
  ·rfl
  ·have:=h3 i (by omega) 0 (El.int k).pos
   simp only [Z8f,cells,Seg.cells,List.append_nil]
   simp only [Nat.mul_one,Nat.add_zero] at this
   rw [this,Z2s hi,Zkg,if_pos hi,Nat.zero_add]
   rfl
def Za7 (w:Nat) (v:Value) (lo hi:Nat):Value:=match v with
 | .slice (some ⟨b,o,none⟩) _ cp=>.slice (some (Z54 b o lo cp w)) (hi-lo) (cp-lo)
 | .slice (some a) n c=>.slice (some a) n c
 | _=>.slice none 0 0
theorem Zj1 {w:Nat} {a:Addr}:Za7 w (.slice (some a) 0 0) 0 0 = .slice (some a) 0 0:=by
 obtain ⟨b,o,sp⟩:=a
 cases sp with
 | none=>simp [Za7,Z54]
 | some k=>rfl
theorem Z0b5 {w:Nat} {x:Operand} {lo hi:Option Operand} {lz hz:Int} {a3:Addr} (hx:ev t x=some (.slice (some a3) 0 0)) (hl:Zif t 0 lo lz) (hh:Zif t (0:Nat) hi hz)
  (hb:lz=0/\hz=0):Q1 C m t (.sls w x lo hi none) (.slice (some a3) 0 0):=by
 obtain ⟨rfl,rfl⟩:=hb
 intro o ho a ha wd hw
 refine Z0d ?_
 simp only [Z81] at ho
 split at ho
 ·rename_i T x' lo' hi' mx' heq
  simp only [Bool.and_eq_true] at ho
  obtain ⟨⟨⟨⟨h1,h2⟩,h3⟩,h4⟩,h5⟩:=ho
  have e1:=Z06 h1; have e2:=Z4b h2; have e3:=Z4b h3; have e4:=Z4b h4
  subst e1; subst e2; subst e3; subst e4
  split at h5
  ·rename_i el hu
   simp only [execOp,heq,ha.ev hx]
   refine Zau ?_
   simp only [Instr.sliceAt,Instr.slice,Sem.run_bind,Zr hu,Result.andThen_ok,Sem.run_pure,Z8a (isS:=true) (cap:=0) (mz:=0) ha hl hh .no (by simp) (by omega) (by omega) (by omega) (by omega),Z35 h5]
   simp
  ·cases h5
 ·cases ho
theorem Z03m {z:α} {ys:List α} {lo n i:Nat} (h:i<n) (hn:lo+n<=ys.length):((ys.drop lo).take n).getD i z=ys.getD (lo+i) z:=by
 simp only [List.getD,List.getElem?_take_of_lt h,List.getElem?_drop]
theorem Zvc {lz hz:Int} (hs:Zi6 C m E v xs) (hb:Zfh lz hz xs.length=true):Zi6 C m E (Za7 E.w v lz.toNat hz.toNat) ((xs.drop lz.toNat).take (hz.toNat-lz.toNat)):=by
 intro w hw
 have hb:=Zj0 hb
 have hlen:((xs.drop lz.toNat).take (hz.toNat-lz.toNat)).length=hz.toNat-lz.toNat:=by rw [List.length_take,List.length_drop]; omega
 rcases hs w hw with ⟨h1,h2⟩ | ⟨b,o1,cp,h1,h2,h3⟩ | ⟨a3,h1,h2⟩
 ·subst h1; subst h2
  simp only [List.length_nil] at hb
  exact .inl ⟨rfl,by simp⟩
 rotate_left 1
 ·subst h1; subst h2
  simp only [List.length_nil] at hb
  have e1:lz.toNat=0:=by omega
  have e2:hz.toNat=0:=by omega
  rw [e1,e2,Zj1]
  exact .inr (.inr ⟨a3,rfl,by simp⟩)
 ·subst h1
  by_cases hc:cp=lz.toNat
  ·refine .inr (.inl ⟨b,o1,cp-lz.toNat,?_,by omega,fun i hi=>?_⟩)
   ·simp only [Za7,Z54,hlen,hc,if_true]
   ·omega
  ·refine .inr (.inl ⟨b,o1+lz.toNat*E.w,cp-lz.toNat,?_,by omega,fun i hi j hj=>?_⟩)
   ·simp only [Za7,Z54,hlen,hc,if_false]
   ·rw [hlen] at hi
    rw [Z03m hi (by omega),<- h3 (lz.toNat+i) (by omega) j hj]
    congr 2
    rw [Nat.add_mul]; omega
theorem Z6u {b T base N lo hi mz:Nat} {fz:Nat×Nat} {s:List Seg} {k:IntKind} {ys:List Int} (hb:Has b (.cells (cells s).toArray T fz) m) (hs:Zcr s base=some (.ints k N ys)) (h:lo<=hi/\hi<=mz/\mz<=N) :
  Zi6 C m (El.int k) (.slice (some (Z54 b base lo mz 1)) (hi-lo) (mz-lo)) (tk ys lo (hi-lo)):=by
 intro w hw
 by_cases hc:mz=lo
 ·refine .inr (.inl ⟨b,base,mz-lo,?_,by rw [Z1j]; omega,fun i hi=>?_⟩)
  ·simp only [Z54,hc,if_true,Z1j]
  ·rw [Z1j] at hi; omega
 ·refine .inr (.inl ⟨b,base+lo*1,mz-lo,?_,by rw [Z1j]; omega,fun i hi j hj=>?_⟩)
  ·simp only [Z54,hc,if_false,Z1j]
  ·rw [Z1j] at hi
   obtain rfl:j=0:=by simp only at hj; omega
   have hseg:=Z7f hs (lo+i) (by simp only [Seg.width]; omega)
   rw [Zkg,if_pos hi]
   have:=hw.own _ hb.mem
   have hcell:w.cell? ⟨b,base+(lo+i),none⟩=(cells s)[base+(lo+i)]? := by
    simp only [World.cell?,this]
    simp
   simp only [Nat.mul_one,Nat.add_zero]
   rw [show base+lo+i=base+(lo+i) by omega,hcell,hseg]
   simp only [Seg.cells]
   rw [Z2s (by omega)]
   rfl
theorem EF.perm {d:Option Nat} {op:IOp} {m':List Zf} (hp:List.Perm m' m) (h:EF C m' t d op K):EF C m t d op K :=
 fun o ho hd a ha w hw=>h o ho hd a ha w (hw.perm hp)
theorem Z5e {x y:Operand} {b off:Nat} {T:TypeId} {s q q':List Seg} {u:Value} {m':List Zf} (e:q'=q) (hx:ev t x=some (.pointer (some ⟨b,off,none⟩))) (hy:ev t y=some u) (hv:one1 u=true) (hq:putC s off u=some q')
  (hup:Upd b (.cells (cells s).toArray T (0,0)) (.cells (cells q).toArray T (0,0)) m m') (h:K t m'):EF C m t none (.st 1 x y) K:=by subst e; exact Zhp hx hy hv hq hup h
theorem Z1h {x y:Operand} {b base i len:Nat} {T:TypeId} {s q:List Seg} {k:IntKind} {ys ys':List Int} {z:Int} {m':List Zf} (e:ys'=Z28 ys i z) (hx:ev t x=some (.pointer (some ⟨b,base+i*1,none⟩))) (hy:ev t y=some (.int k z))
  (hs:Zcr s base=some (.ints k len ys)) (hi:i<len) (hq:Zd3 s base (.ints k len ys')=some q)
  (hup:Upd b (.cells (cells s).toArray T (0,0)) (.cells (cells q).toArray T (0,0)) m m') (h:K t m'):EF C m t none (.st 1 x y) K:=by subst e; exact Zzj hx hy hs hi hq hup h
theorem Zys (ys:List α) (i:Nat) (y:α):Zb2 E (Zkm E.z ys i y)=updR (Zb2 E ys) i (E.cell y):=by
 funext j
 simp only [Zb2,updR,Zni]
 split <;> rfl
theorem Zm8 {x y:Operand} {b base i len:Nat} {T:TypeId} {s q:List Seg} {u:Value} {y0:α} {ys ys':List α} {m':List Zf} (e:ys'=Zkm E.z ys i y0) (hx:ev t x=some (.pointer (some ⟨b,base+i*E.w,none⟩))) (hy:ev t y=some u) (hu:u.cells.toList=E.cell y0)
  (hs:Zcr s base=some (.rows E.w len (Zb2 E ys))) (hi:i<len) (hq:Zd3 s base (.rows E.w len (Zb2 E ys'))=some q)
  (hup:Upd b (.cells (cells s).toArray T (0,0)) (.cells (cells q).toArray T (0,0)) m m') (h:K t m'):EF C m t none (.st E.w x y) K:=by
 subst e
 rw [Zys] at hq
 obtain ⟨e1,e2,e3⟩:=Zec hq
 have hw:=Zcs hs
 simp only [Seg.width] at hw e3
 have hle:i*E.w+E.w<=len*E.w:=by rw [<- Nat.succ_mul]; exact Nat.mul_le_mul_right E.w hi
 have hpl:(E.cell y0).length=E.w:=E.len y0
 have key:cells q=Z0s (cells s) (base+i*E.w) (E.cell y0):=by
  rw [e1]
  simp only [Seg.cells,Zmz E.w len (Zb2 E ys) i (E.cell y0) hi hpl]
  exact Zcu (by rw [Z11,cells_length]; omega) (by rw [Z11]; omega) (fun j hj=>Z7f hs j (by rw [Z11] at hj; exact hj))
 rw [key] at hup
 exact Zla hx hy (vs:=E.cell y0) hu hpl hup (by rw [cells_length]; omega) (E.one y0) h
theorem Z0y (l:List Value):cells (l.map Seg.one)=l:=by
 induction l with
 | nil=>rfl
 | cons a r ih=>simp [cells,Seg.cells,ih]
theorem Z56 (l:List Value):width (l.map Seg.one)=l.length:=by rw [<- cells_length,Z0y]
def cellsOf (E:El α) (xs:List α):List Value:=Z0t E.w xs.length (Zb2 E xs)
theorem Z0g:(cellsOf E xs).length=xs.length*E.w:=Z11 _ _ _
theorem Z42 {i j:Nat} (hi:i<xs.length) (hj:j<E.w):(cellsOf E xs)[i*E.w+j]? = (E.cell (xs.getD i E.z))[j]? := by
 unfold cellsOf
 rw [Z76 hi hj]
 simp only [Zb2,Zxg]
theorem Zp9 : ∀ u∈cellsOf E xs,one1 u=true:=Zr2 fun i _=>⟨E.len _,E.one _⟩
theorem Zn2 {w:World} (hs:Zi6 C m E v xs) (hw:Sat C.W0 C.S m w):Zt7 C m E.w v xs.length (cellsOf E xs):=by
 rcases hs w hw with ⟨h1,h2⟩ | ⟨b,o1,cp,h1,h2,h3⟩ | ⟨a3,h1,h2⟩
 ·subst h1; subst h2; exact Zrl
 rotate_left 1
 ·subst h1; subst h2; exact Zrl
 ·subst h1
  refine Z0fw Z0g Zp9 fun w' hw' i hi=>?_
  rcases hs w' hw' with ⟨h1',_⟩ | ⟨b',o1',cp',h1',h2',h3'⟩ | ⟨_,_,h2'⟩
  ·cases h1'
  rotate_left 1
  ·subst h2'; simp at hi
  ·injection h1' with h1' _ h1c
   injection h1' with h1'
   injection h1' with hb ho _
   subst hb; subst ho
   have hp:=E.pos
   have hq:i / E.w<xs.length:=Nat.div_lt_of_lt_mul (by rw [Nat.mul_comm]; exact hi)
   have hr:=Nat.mod_lt i hp
   have he:i / E.w*E.w+i%E.w=i:=by have:=Nat.div_add_mod i E.w; rw [Nat.mul_comm] at this; exact this
   have:=h3' (i / E.w) hq (i%E.w) hr
   rw [he] at this
   rw [this,<- Z42 hq hr,he]
theorem Znf {x y:Operand} {ms mr:List Zf} {i:Nat} {u:Value} {y0:α} {xs':List α} (e:xs'=Zkm E.z xs i y0) (hO:Z03 E v ms xs) (hT:Take ms m mr) (hx:ev t x=some (.pointer (some ⟨(Z8f v).block,(Z8f v).off+i*E.w,none⟩)))
  (hy:ev t y=some u) (hu:u.cells.toList=E.cell y0) (hi:i<xs.length) (h : ∀ ms',Z03 E v ms' xs'->K t (ms'++mr)):EF C m t none (.st E.w x y) K:=by
 refine EF.perm hT.perm ?_
 rcases hO with ⟨h1,h2,h3⟩ | ⟨b,o,cp,T,cs,h1,h2,h3,h4,h5⟩
 ·subst h2; simp at hi
 ·subst h1; subst h3; subst e
  have hle:i*E.w+E.w<=cp*E.w:=by rw [<- Nat.succ_mul]; exact Nat.mul_le_mul_right _ (by omega)
  have hpl:(E.cell y0).length=E.w:=E.len y0
  have hin:o+i*E.w+E.w<=(cells cs).length:=by rw [cells_length]; omega
  refine Zla (l:=cells cs) (vs:=E.cell y0) (T:=T) (m':=[⟨b,.cells (cells ((Z0s (cells cs) (o+i*E.w) (E.cell y0)).map Seg.one)).toArray T (0,0)⟩]++mr) hx hy hu hpl ?_ hin (E.one y0) (h _ (.inr ⟨b,o,cp,T,_,?_,?_,rfl,?_,?_⟩))
  ·rw [Z0y]; exact Upd.here
  ·rw [Zct hi,List.length_set]
  ·rw [Zct hi,List.length_set]; exact h2
  ·rw [Z56,Z0s,List.length_append,List.length_append,List.length_take,List.length_drop,hpl,cells_length]
   have:=cells_length cs; omega
  ·intro i' hi' j hj
   rw [Zct hi,List.length_set] at hi'
   rw [Z0y,Z8q (by rw [hpl]; exact hin),Zni,hpl]
   by_cases hii:i'=i
   ·subst hii
    rw [if_pos (by omega),if_pos rfl]
    congr 1; omega
   ·rw [if_neg hii,if_neg ?_,h5 i' hi' j hj]
    intro hcon
    rcases Nat.lt_or_ge i' i with hl | hl
    ·have:i'*E.w+E.w<=i*E.w:=by rw [<- Nat.succ_mul]; exact Nat.mul_le_mul_right _ hl
     omega
    ·have:i*E.w+E.w<=i'*E.w:=by rw [<- Nat.succ_mul]; exact Nat.mul_le_mul_right _ (by omega)
     omega
theorem Zae {z:α} {ys:List α} {i:Nat} (h:i<xs.length):(xs++ys).getD i z=xs.getD i z:=by simp [List.getD,List.getElem?_append_left h]
theorem Zaf {z:α} {ys:List α} {i:Nat} (h:xs.length<=i):(xs++ys).getD i z=ys.getD (i-xs.length) z:=by simp [List.getD,List.getElem?_append_right h]
theorem Z1m {d:Nat} {T:TypeId} {bytes:Nat} {z:List Seg} {x y:Operand} {ms mr:List Zf} {u:Value} {ys xs':List α} (e:xs'=xs++ys) (hx:ev t x=some v) (hO:Z03 E v ms xs) (hT:Take ms m mr) (hy:ev t y=some u) (hs:Zi6 C m E u ys)
  (hsz:decide ((xs.length+ys.length)*bytes<=140737488355328)=true) (h : ∀ v' ms',Z03 E v' ms' xs'->K ((d,v')::t) (ms'++mr)):EF C m t (some d) (.app T E.w bytes z x y) K:=by
 subst e
 have hsz:=of_decide_eq_true hsz
 intro o ho hd a ha w hw
 have hS:Zt7 C (ms++mr) E.w u ys.length (cellsOf E ys):=Zn2 (w:=w) (fun w' hw'=>hs w' (hw'.perm hT.perm.symm)) (hw.perm hT.perm)
 refine EF.perm hT.perm (EF.less (?_:EF C (ms++mr) t (some d) (.app T E.w bytes z x y) _)) o ho hd a ha w hw
 have hzw:width z=E.w:=by
  simp only [Z81] at ho
  split at ho
  ·simp only [Bool.and_eq_true,Nat.beq_eq] at ho
   exact ho.1.2
  ·cases ho
 rcases hO with ⟨h1,h2,h3⟩ | ⟨b,o1,cp,T',cs,h1,h2,h3,h4,h5⟩
 ·subst h1; subst h2; subst h3
  refine Z01f hx hy hS (by simpa using hsz) (fun h0=>?_) (fun h0 b' cp' hb' hc'=>?_)
  ·have hys:ys = []:=List.eq_nil_of_length_eq_zero h0
   subst hys
   exact ⟨_,h _ _ Z49,List.Sublist.refl _⟩
  ·refine ⟨(cellsOf E ys++(replicate (cp'-ys.length) (cells z)).flatten).map Seg.one,Z0y _,?_⟩
   refine ⟨_,h _ [⟨b',_⟩] (.inr ⟨b',0,cp',T,_,by simp,by simpa using hc',rfl,?_,?_⟩),List.Sublist.refl _⟩
   ·rw [Z56,List.length_append,Z0g]
    simp only [List.length_flatten,List.map_replicate,List.sum_replicate_nat,cells_length,hzw,Nat.zero_add]
    rw [<- Nat.add_mul]
    exact Nat.mul_le_mul_right _ (by omega)
   ·intro i hi j hj
    simp only [List.nil_append] at hi ⊢
    have:i*E.w+E.w<=ys.length*E.w:=by rw [<- Nat.succ_mul]; exact Nat.mul_le_mul_right _ hi
    rw [Z0y,Nat.zero_add,List.getElem?_append_left (by rw [Z0g]; omega),Z42 hi hj]
 ·subst h1; subst h3
  refine Zzh hx Has.here hy hS h4 h2 hsz (fun hr=>?_) (fun hg b' cp' hb' hc'=>?_)
  ·have hle:(xs.length+ys.length)*E.w<=cp*E.w:=Nat.mul_le_mul_right _ hr
   rw [Nat.add_mul] at hle
   have hin:o1+xs.length*E.w+(cellsOf E ys).length<=(cells cs).length:=by rw [Z0g,cells_length]; omega
   refine ⟨(Z0s (cells cs) (o1+xs.length*E.w) (cellsOf E ys)).map Seg.one,[⟨b,.cells (cells ((Z0s (cells cs) (o1+xs.length*E.w) (cellsOf E ys)).map Seg.one)).toArray T' (0,0)⟩]++mr,Z0y _,Upd.here,?_⟩
   refine ⟨_,h _ _ (.inr ⟨b,o1,cp,T',_,by simp,by simpa using hr,rfl,?_,?_⟩),List.Sublist.refl _⟩
   ·rw [Z56,Z0s,List.length_append,List.length_append,List.length_take,List.length_drop]
    rw [cells_length] at hin ⊢; omega
   ·intro i hi j hj
    rw [Z0y,Z8q hin,Z0g]
    rw [List.length_append] at hi
    by_cases hil:i<xs.length
    ·have:i*E.w+E.w<=xs.length*E.w:=by rw [<- Nat.succ_mul]; exact Nat.mul_le_mul_right _ hil
     rw [if_neg (by omega),Zae hil,h5 i hil j hj]
    ·have e1:i*E.w=xs.length*E.w+(i-xs.length)*E.w:=by rw [<- Nat.add_mul]; congr 1; omega
     have:(i-xs.length)*E.w+E.w<=ys.length*E.w:=by rw [<- Nat.succ_mul]; exact Nat.mul_le_mul_right _ (by omega)
     rw [if_pos (by omega),Zaf (by omega),show o1+(i*E.w+j)-(o1+xs.length*E.w)=(i-xs.length)*E.w+j by omega,Z42 (by omega) hj]
  ·have hle:xs.length*E.w<=cp*E.w:=Nat.mul_le_mul_right _ h2
   have hl1:(((cells cs).drop o1).take (xs.length*E.w)).length=xs.length*E.w:=by rw [List.length_take,List.length_drop,cells_length]; omega
   refine ⟨(((cells cs).drop o1).take (xs.length*E.w)++cellsOf E ys++(replicate (cp'-(xs.length+ys.length)) (cells z)).flatten).map Seg.one,Z0y _,?_⟩
   refine ⟨_,h _ [⟨b',_⟩] (.inr ⟨b',0,cp',T,_,by simp,by simpa using hc',rfl,?_,?_⟩),List.Sublist.cons₂ _ (List.sublist_cons_self _ _)⟩
   ·rw [Z56,List.length_append,List.length_append,hl1,Z0g]
    simp only [List.length_flatten,List.map_replicate,List.sum_replicate_nat,cells_length,hzw,Nat.zero_add]
    rw [<- Nat.add_mul,<- Nat.add_mul]
    exact Nat.mul_le_mul_right _ (by omega)
   ·intro i hi j hj
    rw [List.length_append] at hi
    rw [Z0y,Nat.zero_add]
    by_cases hil:i<xs.length
    ·have:i*E.w+E.w<=xs.length*E.w:=by rw [<- Nat.succ_mul]; exact Nat.mul_le_mul_right _ hil
     rw [List.append_assoc,List.getElem?_append_left (by rw [hl1]; omega),List.getElem?_take_of_lt (by omega),List.getElem?_drop,h5 i hil j hj,Zae hil]
    ·have e1:i*E.w=xs.length*E.w+(i-xs.length)*E.w:=by rw [<- Nat.add_mul]; congr 1; omega
     have:(i-xs.length)*E.w+E.w<=ys.length*E.w:=by rw [<- Nat.succ_mul]; exact Nat.mul_le_mul_right _ (by omega)
     rw [List.append_assoc,List.getElem?_append_right (by rw [hl1]; omega),hl1,List.getElem?_append_left (by rw [Z0g]; omega),Zaf (by omega),show i*E.w+j-xs.length*E.w=(i-xs.length)*E.w+j by omega,Z42 (by omega) hj]
def mkB (bytes:Nat) (L N:Int):Bool:=decide (0<=L)&&decide (L<=N)&&decide ((bytes:Int)*N<=281474976710656)&&decide (N<=9223372036854775807)
theorem Zfi {d:Nat} {T:TypeId} {bytes:Nat} {z:List Seg} {l c:Operand} {kl kc:IntKind} {L N:Int} (hz:cells z=E.cell E.z)
  (hl:ev t l=some (.int kl L)) (hc:ev t c=some (.int kc N)) (hB:mkB bytes L N=true)
  (h : ∀ v ms,Z03 E v ms (replicate L.toNat E.z)->K ((d,v)::t) (ms++m)):EF C m t (some d) (.mks T bytes z l c) K:=by
 simp only [mkB,Bool.and_eq_true,decide_eq_true_eq] at hB
 obtain ⟨⟨⟨h0,h1⟩,h2⟩,h3⟩:=hB
 refine Z04p hl hc h0 h1 h2 h3 fun b hb=>?_
 refine ⟨(replicate N.toNat (cells z)).flatten.map Seg.one,Z0y _,?_⟩
 have hw:(cells z).length=E.w:=by rw [hz,E.len]
 refine h _ [⟨b,_⟩] (.inr ⟨b,0,N.toNat,T,_,by simp,by simp; omega,rfl,?_,?_⟩)
 ·rw [Z56]
  simp only [List.length_flatten,List.map_replicate,List.sum_replicate_nat,hw,Nat.zero_add]
  exact Nat.le_refl _
 ·intro i hi j hj
  rw [List.length_replicate] at hi
  have e:(replicate N.toNat (cells z)).flatten=Z0t E.w N.toNat (fun _=>cells z):=(Zlm hw).symm
  rw [Z0y,Nat.zero_add,e,Z76 (by omega) hj,<- hw,Z8s rfl,hz]
  simp [List.getD,List.getElem?_replicate,hi]
inductive Bs (E:El α):List α->List Seg->Prop
 | nil:Bs E [] []
 | cons {x:α} {ys:List α} {p q:List Seg}:cells p=E.cell x->Bs E ys q->Bs E (x::ys) (p++q)
theorem Bs.get {q:List Seg} (h:Bs E xs q):width q=xs.length*E.w /\ ∀ i,i<xs.length->∀ j,j<E.w->(cells q)[i*E.w+j]? = (E.cell (xs.getD i E.z))[j]? := by
 induction h with
 | nil=>exact ⟨by simp [width],fun i hi=>by simp at hi⟩
 | @cons x ys p q hc _ ih =>
  have hp:width p=E.w:=by rw [<- cells_length,hc,E.len]
  refine ⟨by rw [Zi1,ih.1,hp,List.length_cons,Nat.succ_mul]; omega,fun i hi j hj=>?_⟩
  rw [Zdg]
  cases i with
  | zero =>
   rw [List.getElem?_append_left (by rw [cells_length,hp]; omega),hc]
   simp
  | succ i =>
   rw [List.length_cons] at hi
   rw [List.getElem?_append_right (by rw [cells_length,hp,Nat.succ_mul]; omega),cells_length,hp,show (i+1)*E.w+j-E.w=i*E.w+j by rw [Nat.succ_mul]; omega,ih.2 i (by omega) j hj]
   simp
theorem Z3i {d:Nat} {T:TypeId} {len:Nat} {z q:List Seg} {parts:List (Nat×Nat×Operand)} (hb:BdR t z parts q) (hB:Bs E xs q) (hl:xs.length=len)
  (h : ∀ v ms,Z03 E v ms xs->K ((d,v)::t) (ms++m)):EF C m t (some d) (.bs T len E.w z parts) K:=by
 subst hl
 refine Z0gt hb fun b hb'=>?_
 obtain ⟨h1,h2⟩:=hB.get
 refine h _ [⟨b,_⟩] (.inr ⟨b,0,xs.length,T,q,rfl,Nat.le_refl _,rfl,by rw [h1]; omega,fun i hi j hj=>?_⟩)
 rw [Nat.zero_add]; exact h2 i hi j hj
theorem Zp8 {k:IntKind} {ys:List Int}:cellsOf (El.int k) ys=ys.map (.int k):=by
 apply List.ext_getElem?
 intro i
 by_cases hi:i<ys.length
 ·have:=Z42 (E:=El.int k) (xs:=ys) (i:=i) (j:=0) hi (El.int k).pos
  simp only [Nat.mul_one,Nat.add_zero] at this
  rw [this]
  simp [List.getD,List.getElem?_eq_getElem hi]
 ·rw [List.getElem?_eq_none (by rw [Z0g]; simp only [Nat.mul_one]; omega),List.getElem?_eq_none (by rw [List.length_map]; omega)]
theorem Zj3 {d:Option Nat} {x y:Operand} {b T base lo hi mz N:Nat} {s q:List Seg} {k:IntKind} {zs zs' ys:List Int} {u:Value} {m':List Zf} (e:zs'=wr zs lo (ys.take (hi-lo)))
  (hx:ev t x=some (.slice (some (Z54 b base lo mz 1)) (hi-lo) (mz-lo))) (hy:ev t y=some u) (hu:Zi6 C m (El.int k) u ys) (hs:Zcr s base=some (.ints k N zs)) (hb:lo<=hi/\hi<=mz/\mz<=N)
  (hq:Zd3 s base (.ints k N zs')=some q) (hup:Upd b (.cells (cells s).toArray T (0,0)) (.cells (cells q).toArray T (0,0)) m m')
  (h:K (Zv0 d (.int .i64 (Nat.min ys.length (hi-lo):Nat)) t) m'):EF C m t d (.cpy 1 x y) K:=by
 subst e
 intro o ho hd a ha w hw
 have hS:=Zn2 hu hw
 rw [Zp8] at hS
 obtain ⟨e1,e2,e3⟩:=Zec hq
 have hsw:=Zcs hs
 simp only [Seg.width] at hsw e3
 have hseg : ∀ j,j<(intsCells k N zs).length->(cells s)[base+j]? = (intsCells k N zs)[j]? := fun j hj=>Z7f hs j (by rw [Z0w] at hj; exact hj)
 have hlen:(ys.take (hi-lo)).length=Nat.min ys.length (hi-lo):=by rw [List.length_take]; exact Nat.min_comm _ _
 have hmin:Nat.min ys.length (hi-lo)<=hi-lo:=Nat.min_le_right _ _
 have key:cells q=Z0s (cells s) (base+lo) ((ys.take (hi-lo)).map (.int k)):=by
  rw [e1]
  have hwr:intsCells k N (wr zs lo (ys.take (hi-lo)))=Z0s (intsCells k N zs) lo ((ys.take (hi-lo)).map (.int k)):=by
   have:=Zzb (k:=k) (N:=N) (i:=lo) (xs:=zs) (ys:=ys.take (hi-lo)) (by rw [hlen]; omega)
   simpa [cells,Seg.cells] using this
  simp only [Seg.cells,hwr]
  exact Zcu (by rw [Z0w,cells_length]; omega) (by rw [Z0w,List.length_map,hlen]; omega) hseg
 have hke : ∀ d':Option Nat,K (Zv0 d' (.int .i64 (Nat.min ys.length (hi-lo):Nat)) t) m'->K (match d' with | some d=>(d,.int .i64 (Nat.min ys.length (hi-lo):Nat))::t | none=>t) m':=by
  intro d' hk; cases d' <;> exact hk
 by_cases hc:mz=lo
 ·have h0:hi=lo:=by omega
  refine Ztw (w:=1) (dl:=hi-lo) (dc:=mz-lo) (b:=b) (off:=base) (T:=T) (segs:=s) (segs':=q) (m':=m') (by rw [hx]; simp only [Z54,hc,if_true]) hy hS (by rw [h0]; omega) ?_ hup (hke d h) o ho hd a ha w hw
  rw [key,h0]
  simp [Z0s]
 ·refine Ztw (w:=1) (dl:=hi-lo) (dc:=mz-lo) (b:=b) (off:=base+lo) (T:=T) (segs:=s) (segs':=q) (m':=m') (by rw [hx]; simp only [Z54,hc,if_false,Nat.mul_one]) hy hS (by omega) ?_ hup (hke d h) o ho hd a ha w hw
  rw [key]
  congr 1
  rw [<- List.map_take,Nat.mul_one]
  congr 1
  apply List.ext_getElem?
  intro i
  simp only [List.getElem?_take]
  by_cases h1:i<ys.length
  ·by_cases h2:i<hi-lo
   ·rw [if_pos h2,if_pos (Nat.lt_min.2 ⟨h1,h2⟩)]
   ·rw [if_neg h2,if_neg (fun h3=>h2 (Nat.lt_min.1 h3).2)]
  ·rw [List.getElem?_eq_none (l:=ys) (by omega)]
   split <;> split <;> rfl
theorem az {τ:Type} (f:τ->Value) {z e:τ} {op:IOp} (h:z=e) (q:Q1 C m t op (f e)):Q1 C m t op (f z):=h▸q
theorem Z034 {W:World} {lz hz:Int} (h:Z6v E W v xs) (hb:Zfh lz hz xs.length=true):Z6v E W (Za7 E.w v lz.toNat hz.toNat) ((xs.drop lz.toNat).take (hz.toNat-lz.toNat)) :=
 Zvc (C:=⟨default,0,W,[]⟩) (m:=[]) (fun w hw=>h.below hw.now) hb W (Zgt W)
theorem Ztd {S:List Nat} {w lo hi n:Nat} (h:Zi4 v xs S):Zi4 (Za7 w v lo hi) ((xs.drop lo).take n) S:=by
 intro a k c e h0
 have hx:0<xs.length:=by
  rw [List.length_take,List.length_drop] at h0
  omega
 unfold Za7 at e
 split at e
 ·injection e with e; injection e with e; subst e
  rw [Zos]
  exact h _ _ _ rfl hx
 ·injection e with e; injection e with e; subst e
  exact h _ _ _ rfl hx
 ·cases e
theorem Zrb {W:World} {S:List Nat} {lz hz:Int} (h:Z6v E W v xs/\Zi4 v xs S) (hb:Zfh lz hz xs.length=true) :
  Z6v E W (Za7 E.w v lz.toNat hz.toNat) ((xs.drop lz.toNat).take (hz.toNat-lz.toNat))/\Zi4 (Za7 E.w v lz.toNat hz.toNat) ((xs.drop lz.toNat).take (hz.toNat-lz.toNat)) S :=
 ⟨Z034 h.1 hb,Ztd h.2⟩
theorem cpy0 {zs' zs ys:List Int} {n:Nat} (e:zs'=wr zs 0 (ys.take n)):zs'=wr zs 0 (ys.take (n-0)):=e
theorem cut4 {lo hi:Int} {n:Nat} (h:Zfh lo hi n=true):0<=lo/\lo<=hi/\hi<=(n:Int)/\(n:Int)<=(n:Int):=by have:=Zj0 h; omega
theorem cutn {lo hi:Int} {n:Nat} (h:Zfh lo hi n=true):lo.toNat<=hi.toNat/\hi.toNat<=n/\n<=n:=by have:=Zj0 h; omega
theorem getD_some {τ:Type} {o:Option τ} {z:τ} (h:o.isSome=true):o=some (o.getD z):=by cases o <;> simp_all
theorem Zcy {n:Nat} {x y:Operand} {b off:Nat} {T:TypeId} {s p q:List Seg} {m':List Zf} (hx:ev t x=some (.pointer (some ⟨b,off,none⟩))) (hy:ev t y=some (agg p)) (hn:width p=n) (hq:putL s off p=some q) (hsc : ∀ v∈cells p,one1 v=true)
  (hup:Upd b (.cells (cells s).toArray T (0,0)) (.cells (cells q).toArray T (0,0)) m m') (h:K t m'):EF C m t none (.st n x y) K:=by
 obtain ⟨e1,e2,e3⟩:=Zeo hq
 rw [e1] at hup
 exact Zla hx hy (vs:=cells p) (by simp [agg,Value.cells]) (by rw [cells_length]; exact hn) hup (by rw [cells_length]; omega) hsc h
theorem Zo9 {n:Nat} {x:Operand} {b base i w len:Nat} {T:TypeId} {fz:Nat×Nat} {s q p:List Seg} {g:Nat->List Value} (hx:ev t x=some (.pointer (some ⟨b,base+i*w,none⟩))) (hb:Has b (.cells (cells s).toArray T fz) m)
  (hs:Zcr s base=some (.rows w len g)) (hi:i<len) (hq:g i=cells q) (hw:width q=w) (hp:sub q 0 n=some p):Q1 C m t (.ld n true x) (agg p):=Z0m5 (c:=0) hx hb hs hi hq hw hp
theorem Zjh {b T base N lo hi mz:Nat} {s:List Seg} {k:IntKind} {ys:List Int} (hs:Zcr s base=some (.ints k N ys)) (h:lo<=hi/\hi<=mz/\mz<=N) :
  Z03 (El.int k) (.slice (some (Z54 b base lo mz 1)) (hi-lo) (mz-lo)) [ck b T s] (tk ys lo (hi-lo)):=by
 have hw:=Zcs hs
 simp only [Seg.width] at hw
 have key : ∀ i,i<hi-lo->(cells s)[base+(lo+i)]? = some (.int k (ys.getD (lo+i) 0)):=by
  intro i hi'
  have:=Z7f hs (lo+i) (by simp only [Seg.width]; omega)
  rw [this]
  simp only [Seg.cells]
  rw [Z2s (by omega)]
 by_cases hc:mz=lo
 ·refine .inr ⟨b,base,mz-lo,T,s,?_,by rw [Z1j]; omega,rfl,by simp only [Nat.mul_one]; omega,fun i hi'=>?_⟩
  ·simp only [Z54,hc,if_true,Z1j]
  ·rw [Z1j] at hi'; omega
 ·refine .inr ⟨b,base+lo*1,mz-lo,T,s,?_,by rw [Z1j]; omega,rfl,by simp only [Nat.mul_one]; omega,fun i hi' j hj=>?_⟩
  ·simp only [Z54,hc,if_false,Z1j]
  ·rw [Z1j] at hi'
   obtain rfl:j=0:=by have:j<1:=hj; omega
   rw [Zkg,if_pos hi']
   simp only [Nat.mul_one,Nat.add_zero]
   rw [show base+lo+i=base+(lo+i) by omega,key i hi']
   rfl
theorem Zcg {c:Bool} {s s':Seg} (h:c=true↔s.cells=s'.cells):c=true↔cells [s]=cells [s']:=by
 rw [h]; simp [cells]
theorem Zcf {k:IntKind} {n:Nat} {a b:List Int}:ieq n a b=true↔(Seg.ints k n a).cells=(Seg.ints k n b).cells:=by
 have:=Zu4 (k:=k) (n:=n) (a:=a) (b:=b)
 simpa [cells] using this
end
theorem Sup.app {m0 m ms:List Zf} (h:Sup m0 m):Sup m0 (ms++m):=fun _ h'=>List.mem_append_right _ (h _ h')
theorem Zej {α:Type} {E:El α} {n:Nat} {zc:List Value} {r r':List Seg} (hz:zc=E.cell E.z) (h:cells r=cells r'):cells (.rows E.w n (fun _=>zc)::r)=cells (.rows E.w n (Zb2 E (replicate n E.z))::r'):=by
 simp only [cells,h,Seg.cells]
 congr 1
 apply Zll
 intro i hi
 subst hz
 simp [Zb2,List.getD,List.getElem?_replicate,hi]
inductive Pc where
 | one (c:Zf)
 | all (l:List Zf)
def Zte:List Pc->List Zf->List Zf
 | [],m=>m
 | .one c::r,m=>c::Zte r m
 | .all a::r,m=>a++Zte r m
theorem Zix : ∀ (l:List Pc) (m:List Zf),Zte l []++m=Zte l m
 | [],m=>rfl
 | .one c::r,m=>by simp only [Zte,List.cons_append,Zix r m]
 | .all a::r,m=>by simp only [Zte,List.append_assoc,Zix r m]
def Zd9 (W0:World) (S:List Nat) (R:Value->List Pc->Prop):Ending->World->Prop:=retM W0 S fun v M=>∃ Ms,M=Zte Ms []/\R v Ms
section
variable {C:Cfg} {m:List Zf} {t:TS} {K:KN}
theorem Z78 {d:Option Nat} {f:FuncId} {args:List Operand} {vs:List Value} {mS mr:List Zf} {R:Value->List Pc->Prop} (ha:evL t args=some vs) (hp:List.Perm (mS++mr) m)
  (hc : ∀ w,Sat C.W0 C.S m w->Calls C.P f vs.toArray w (Zd9 w (mS.map (·.b)) R))
  (h : ∀ v Ms,R v Ms->K (Zv0 d v t) (Zte Ms mr)):EF C m t d (.call f args) K :=
 Zqn ha hp hc fun v m' ⟨Ms,e,hR⟩=>by subst e; rw [Zix]; exact h v Ms hR
theorem Z05 {d:Option Nat} {f:FuncId} {args:List Operand} {vs:List Value} {R:Value->List Pc->Prop} (ha:evL t args=some vs)
  (hc : ∀ w,Sat C.W0 C.S m w->Calls C.P f vs.toArray w (Zd9 w [] R))
  (h : ∀ v Ms,R v Ms->K (Zv0 d v t) (Zte Ms m)):EF C m t d (.call f args) K :=
 Zxb ha hc fun v m' ⟨Ms,e,hR⟩=>by subst e; rw [Zix]; exact h v Ms hR
end
def retT (rs:List RV) (R:Value->List Zf->Prop):KN:=fun t m=>∃ l M,Zkn t m rs l/\Zn5 M m/\R (Zz6 l) M
theorem Z0e {P:Program} {f:FuncId} {d:FnD} {args:List Value} {W0:World} {S:List Nat} {m0:List Zf} {R:Value->List Zf->Prop}
  (hm:P.follows .mixedOrders=true) (hok:okF P f d=true) (hlen:Nat.ble args.length d.n=true) (h0:Sat W0 S m0 W0)
  (h:WC ⟨P,d.n,W0,S⟩ d.c (Zp6 0 args) m0 (retT d.rs R) ⟨[],retT d.rs R⟩):Calls P f args.toArray W0 (retM W0 S R):=by
 refine Zqi hm hok hlen h0 ?_
 have hsub : ∀ t m,retT d.rs R t m->retK W0 S d.rs (retM W0 S R) t m:=by
  rintro t m ⟨l,M,h1,h2,h3⟩
  exact ⟨l,h1,fun w hw=>⟨_,_,rfl,h3,hw.psub h2⟩⟩
 intro hm c0 hok ρ fu Q a w ha hw hc
 exact h hm c0 hok ρ fu Q a w ha hw ⟨fun t m hk=>hc.n t m (hsub t m hk),fun id k hk=>by simp [Zpj] at hk,fun t m hk=>hc.r t m (hsub t m hk)⟩
section
variable {C:Cfg} {m:List Zf} {t:TS} {K:KN}
theorem Zr0 {P:Program} {o:Oper} {T:TypeId} {w bytes:Nat} {z:List Seg} {x y:Operand} (h:Z81 P o (.apz T w bytes z x y)=true) :
  ∃ c t tx k,o.op = .call c/\c.callee = .builtin .append/\c.args = #[x,y]/\c.argTypes[0]? = some t/\c.argTypes[1]? = some tx/\P.underlying t=some (.slice T) /\
   P.underlying tx=some (.int k)/\(∃ i zv,P.info? T=some i/\i.size=w/\i.bytes=bytes/\0<bytes/\i.zero=some zv/\zv.cells=(cells z).toArray)/\width z=w/\0<w:=by
 simp only [Z81] at h
 split at h
 ·rename_i c heq
  simp only [Bool.and_eq_true] at h
  obtain ⟨⟨⟨⟨⟨⟨⟨h1,h2⟩,h3⟩,h4⟩,h5⟩,h6⟩,h7⟩,h8⟩:=h
  have hargs:=Z5u h2
  have hc:c.callee = .builtin .append:=by
   revert h1; split <;> simp_all
  cases e0:c.argTypes[0]? with
  | none=>rw [e0] at h3; simp at h3
  | some t0 =>
   cases e1:c.argTypes[1]? with
   | none=>rw [e1] at h4; simp at h4
   | some t1 =>
    rw [e0] at h3; rw [e1] at h4
    simp only [Option.bind_some] at h3 h4
    cases u0:P.underlying t0 with
    | none=>rw [u0] at h3; simp at h3
    | some d0 =>
     cases u1:P.underlying t1 with
     | none=>rw [u1] at h4; simp at h4
     | some d1 =>
      rw [u0] at h3; rw [u1] at h4
      cases d0 <;> simp at h3
      cases d1 <;> simp at h4
      rw [h3] at u0
      rename_i k
      obtain ⟨i,hi,hs,hb,hp⟩:=Zfk h5
      cases hz:zOf P T with
      | none=>rw [hz] at h6; simp at h6
      | some q =>
       rw [hz] at h6
       have:=Z8r h6
       subst this
       obtain ⟨zv,hz1,hz2⟩:=Zis hi hz
       exact ⟨c,t0,t1,k,heq,hc,by rw [<- Array.toArray_toList (xs:=c.args),hargs],e0,e1,u0,u1,⟨i,zv,hi,hs,hb,hp,hz1,hz2⟩,by simpa [Nat.beq_eq] using h7,by simpa [Nat.blt_eq] using h8⟩
 ·cases h
theorem Zop {P:Program} {w w':World} {t tx ty e:TypeId} {i:TypeInfo} {z:Value} {b off n0 cp n:Nat} {k kt:IntKind} {N:Int} {cs:List Value} (ht:P.underlying t=some (.slice e)) (hk:P.underlying tx=some (.int kt)) (hi:P.info? e=some i) (hz:i.zero=some z)
  (hN:0<=N) (hn:n=N.toNat) (hb:n*i.bytes<=281474976710656/\n<=9223372036854775807) (hroom:n0+n<=cp) (hnews:(Builtin.zeroCells z.cells n).toList=cs) (hnl:cs.length=n*i.size)
  (hst:(storeCells ⟨b,off+n0*i.size,none⟩ cs 0).run P w = .ok () w') :
  (Builtin.append_ #[t,tx] ty #[.slice (some ⟨b,off,none⟩) n0 cp,.int k N]).run P w = .ok (.slice (some ⟨b,off,none⟩) (n0+n) cp) w':=by
 obtain rfl:N=((n:Nat):Int):=by omega
 have hw:IntKind.i64.wrap (n:Int)=n:=by rw [IntKind.wrap_i64]; omega
 have h1 : ¬ ((n:Int)<0):=by omega
 have h2 : ¬ (281474976710656<(n:Int)*(i.bytes:Int)):=by rw [<- Int.natCast_mul]; omega
 by_cases h0:n*i.size=0
 ·have:cs = []:=List.eq_nil_of_length_eq_zero (by rw [hnl,h0])
  subst this
  have hst':w'=w:=by simpa [storeCells] using hst.symm
  subst hst'
  simp [Builtin.append_,Zr ht,Zr hk,sizeOf,typeInfo,hi,asInt,asIntOf,hw,h1,h2,h0,hroom,storeCells]
 ·simp [Builtin.append_,Zr ht,Zr hk,sizeOf,typeInfo,zeroValue,hz,hi,asInt,asIntOf,hw,h1,h2,h0,hroom,Addr.add_lit,hnews,hst]
theorem Zhz {P:Program} {w:World} {t tx ty e:TypeId} {i:TypeInfo} {z:Value} {n:Nat} {k kt:IntKind} {N:Int} (ht:P.underlying t=some (.slice e)) (hk:P.underlying tx=some (.int kt)) (hi:P.info? e=some i) (hz:i.zero=some z)
  (hN:0<=N) (hn:n=N.toNat) (hb:n*i.bytes<=281474976710656/\n<=9223372036854775807) (base:Option Addr) (sLen sCap:Nat) (olds:List Value)
  (hold:(Builtin.firstCells i.size sLen (.slice base sLen sCap)).run P w.drew = .ok olds.toArray w.drew) (news:List Value) (hnews:(Builtin.zeroCells z.cells n).toList=news) (h0 : ¬ (n*i.size=0))
  (hg:sCap<sLen+n) (h63:((sLen+n:Nat):Int)<=9223372036854775807) (hfit:Builtin.nextslicecap (sLen+n) sCap*i.bytes<=281474976710656) :
  (Builtin.append_ #[t,tx] ty #[.slice base sLen sCap,.int k N]).run P w =
   .ok (.slice (some ⟨w.heap.size,0,none⟩) (sLen+n) (grownCap w (sLen+n) sCap e))
    (w.drew.alloc (.cells ((olds++news).toArray++Builtin.zeroCells z.cells (grownCap w (sLen+n) sCap e-(sLen+n))) e)):=by
 obtain rfl:N=((n:Nat):Int):=by omega
 have hw:IntKind.i64.wrap (n:Int)=n:=by rw [IntKind.wrap_i64]; omega
 have h1 : ¬ ((n:Int)<0):=by omega
 have h2 : ¬ (281474976710656<(n:Int)*(i.bytes:Int)):=by rw [<- Int.natCast_mul]; omega
 have hn' : ¬ (sLen+n<=sCap):=by omega
 have h63' : ¬ (9223372036854775807<((sLen:Int)+(n:Int))):=by omega
 have h48' : ¬ (281474976710656<Builtin.nextslicecap (sLen+n) sCap*i.bytes):=by omega
 have e:Builtin.zeroCells z.cells n=news.toArray:=by rw [<- hnews]
 simp [Builtin.append_,Zr ht,Zr hk,sizeOf,typeInfo,zeroValue,hz,hi,asInt,asIntOf,hw,h1,h2,h0,hn',h63',h48',Question.forced,hold,newRow,grownCap,e]
 congr 2
 apply Array.ext'
 simp [List.append_assoc]
theorem Z04m {d:Nat} {T T':TypeId} {w bytes:Nat} {z:List Seg} {x y:Operand} {b off n0 cp n:Nat} {ky:IntKind} {N:Int} {cs:List Value} {segs:List Seg}
  (hx:ev t x=some (.slice (some ⟨b,off,none⟩) n0 cp)) (hb:Has b (.cells (cells segs).toArray T' (0,0)) m) (hy:ev t y=some (.int ky N)) (hN:0<=N) (hn:n=N.toNat) (hcs:cs=(replicate n (cells z)).flatten) (hone : ∀ u∈cells z,one1 u=true)
  (hfit:off+cp*w<=width segs) (hn0:n0<=cp) (hsz:(n0+n)*bytes<=140737488355328)
  (room:n0+n<=cp->∃ segs' m',cells segs'=Z0s (cells segs) (off+n0*w) cs/\Upd b (.cells (cells segs).toArray T' (0,0)) (.cells (cells segs').toArray T' (0,0)) m m'/\K ((d,.slice (some ⟨b,off,none⟩) (n0+n) cp)::t) m')
  (grow:cp<n0+n->∀ b' cp',C.W0.heap.size<=b'->n0+n<=cp'->∃ segs',cells segs'=((cells segs).drop off).take (n0*w)++cs++(replicate (cp'-(n0+n)) (cells z)).flatten/\K ((d,.slice (some ⟨b',0,none⟩) (n0+n) cp')::t) (ck b' T segs'::m)) :
  EF C m t (some d) (.apz T w bytes z x y) K:=by
 intro o ho hd a ha wd hw
 obtain ⟨hd1,hd2⟩:=Z3r hd
 obtain ⟨c,ty,tx,kt,heq,hc,hargs,ht,htx,hu,hk,⟨i,zv,hi,hsz',hby,hpos,hz1,hz2⟩,hwz,hw0⟩:=Zr0 ho
 have hmul:(n0+n)<=(n0+n)*bytes:=Nat.le_mul_of_pos_right _ hpos
 have hzl:(cells z).length=w:=by rw [cells_length]; exact hwz
 have hnl:cs.length=n*w:=by rw [hcs]; simp [hzl]
 have hone' : ∀ u∈cs,one1 u=true:=by
  intro u hu'
  rw [hcs,List.mem_flatten] at hu'
  obtain ⟨l,hl,hul⟩:=hu'
  obtain ⟨_,rfl⟩:=List.mem_replicate.1 hl
  exact hone u hul
 have hnews:(Builtin.zeroCells zv.cells n).toList=cs:=by rw [hz2,Zb0 (by rw [hzl]; exact hw0),hcs]
 have hnb:n*bytes<=140737488355328:=by rw [Nat.add_mul] at hsz; omega
 have hrun : ∀ {r:Result Value},(Builtin.append_ c.argTypes o.type #[.slice (some ⟨b,off,none⟩) n0 cp,.int ky N]).run C.P wd=r->(execOp a.eval o).run C.P wd=r.andThen fun v w=>.ok (.value v) w:=by
  intro r hr
  simp only [execOp,heq,resolve,hc,Sem.run_bind,Sem.run_pure,Result.andThen_ok,invoke,builtin,hargs,List.map_toArray,List.map_cons,List.map_nil,ha.ev hx,ha.ev hy,hr]
 have hat:Builtin.append_ c.argTypes o.type #[.slice (some ⟨b,off,none⟩) n0 cp,.int ky N]=Builtin.append_ #[ty,tx] o.type #[.slice (some ⟨b,off,none⟩) n0 cp,.int ky N]:=by
  simp [Builtin.append_,ht,htx]
 by_cases hroom:n0+n<=cp
 ·obtain ⟨segs',m',e1,hup,hK⟩:=room hroom
  have hle:n0*w+n*w<=cp*w:=by rw [<- Nat.add_mul]; exact Nat.mul_le_mul_right _ hroom
  have hup':Upd b (.cells (cells segs).toArray T' (0,0)) (.cells (Z0s (cells segs) (off+n0*w+0) cs).toArray T' (0,0)) m m':=by rw [Nat.add_zero,<- e1]; exact hup
  obtain ⟨w',hst,hw'⟩:=Z77 (P:=C.P) cs (off+n0*w) 0 (cells segs) m m' wd hw hup' (by rw [cells_length,hnl]; omega) hone'
  have hr:(Builtin.append_ #[ty,tx] o.type #[.slice (some ⟨b,off,none⟩) n0 cp,.int ky N]).run C.P wd = .ok (.slice (some ⟨b,off,none⟩) (n0+n) cp) w':=by
   subst hsz'
   exact Zop (k:=ky) hu hk hi hz1 hN hn (by rw [hby]; omega) hroom hnews hnl hst
  rw [<- hat] at hr
  have h2:=hrun hr
  unfold Oper.wp
  rw [h2,Result.andThen_ok]
  simp only [Oper.upon]
  exact ⟨_,m',hK,hd1▸ha.put hd2 _,hw'⟩
 ·have hg:cp<n0+n:=by omega
  have hold:(Builtin.firstCells i.size n0 (.slice (some ⟨b,off,none⟩) n0 cp)).run C.P wd.drew = .ok (((cells segs).drop off).take (n0*i.size)).toArray wd.drew:=by
   have hle:n0*w<=cp*w:=Nat.mul_le_mul_right _ hn0
   have:=Zk8 (P:=C.P) (w:=wd.drew) (b:=b) (off:=off) (size:=w) (n:=n0) (l:=n0) (c:=cp) (cs:=((cells segs).drop off).take (n0*w)) (by simp [cells_length]; omega) (fun i hi=>by
    rw [Zbj ((show Sat C.W0 C.S m wd.drew from hw.drew).own _ hb.mem),List.getElem?_take_of_lt hi,List.getElem?_drop]) (Nat.le_refl n0)
   rw [hsz',this,List.take_take,Nat.min_self]
  have hfit':Builtin.nextslicecap (n0+n) cp*i.bytes<=281474976710656:=by rw [hby]; exact growslice_fits hg hsz
  have hr:=Zhz (k:=ky) (P:=C.P) (w:=wd) (t:=ty) (tx:=tx) (ty:=o.type) (e:=T) (i:=i) (z:=zv) hu hk hi hz1 hN hn (by rw [hby]; omega) (some ⟨b,off,none⟩) n0 cp _ hold cs hnews (by rw [hsz']; exact Nat.pos_iff_ne_zero.1 (Nat.mul_pos (by omega) hw0)) hg (by omega) hfit'
  rw [<- hat] at hr
  have h2:=hrun hr
  unfold Oper.wp
  rw [h2,Result.andThen_ok]
  simp only [Oper.upon]
  have hge:=grownCap_ge wd (n0+n) cp T
  obtain ⟨segs',e1,hK⟩:=grow hg wd.heap.size (grownCap wd (n0+n) cp T) hw.fr.size hge
  refine ⟨_,_,hK,hd1▸ha.put hd2 _,?_⟩
  have ha2:=hw.drew.alloc (.cells ((((cells segs).drop off).take (n0*i.size)++cs).toArray++Builtin.zeroCells zv.cells (grownCap wd (n0+n) cp T-(n0+n))) T)
  have e2:((((cells segs).drop off).take (n0*i.size)++cs).toArray++Builtin.zeroCells zv.cells (grownCap wd (n0+n) cp T-(n0+n)))=(cells segs').toArray:=by
   rw [e1,hsz',hz2]
   apply Array.ext'
   rw [Array.toList_append,Zb0 (by rw [cells_length,hwz]; exact hw0)]
  rw [e2]
  rw [e2] at ha2
  exact ha2
theorem Z01h {d:Nat} {T:TypeId} {w bytes:Nat} {z:List Seg} {x y:Operand} {n:Nat} {ky:IntKind} {N:Int} {cs:List Value}
  (hx:ev t x=some (.slice none 0 0)) (hy:ev t y=some (.int ky N)) (hN:0<=N) (hn:n=N.toNat) (hcs:cs=(replicate n (cells z)).flatten) (hone : ∀ u∈cells z,one1 u=true) (hsz:n*bytes<=140737488355328)
  (none_:n=0->K ((d,.slice none 0 0)::t) m)
  (grow:0<n->∀ b' cp',C.W0.heap.size<=b'->n<=cp'->∃ segs',cells segs'=cs++(replicate (cp'-n) (cells z)).flatten/\K ((d,.slice (some ⟨b',0,none⟩) n cp')::t) (ck b' T segs'::m)) :
  EF C m t (some d) (.apz T w bytes z x y) K:=by
 intro o ho hd a ha wd hw
 obtain ⟨hd1,hd2⟩:=Z3r hd
 obtain ⟨c,ty,tx,kt,heq,hc,hargs,ht,htx,hu,hk,⟨i,zv,hi,hsz',hby,hpos,hz1,hz2⟩,hwz,hw0⟩:=Zr0 ho
 have hmul:n<=n*bytes:=Nat.le_mul_of_pos_right _ hpos
 have hzl:(cells z).length=w:=by rw [cells_length]; exact hwz
 have hnl:cs.length=n*w:=by rw [hcs]; simp [hzl]
 have hone' : ∀ u∈cs,one1 u=true:=by
  intro u hu'
  rw [hcs,List.mem_flatten] at hu'
  obtain ⟨l,hl,hul⟩:=hu'
  obtain ⟨_,rfl⟩:=List.mem_replicate.1 hl
  exact hone u hul
 have hnews:(Builtin.zeroCells zv.cells n).toList=cs:=by rw [hz2,Zb0 (by rw [hzl]; exact hw0),hcs]
 have hnb:n*bytes<=140737488355328:=hsz
 have hrun : ∀ {r:Result Value},(Builtin.append_ c.argTypes o.type #[.slice none 0 0,.int ky N]).run C.P wd=r->(execOp a.eval o).run C.P wd=r.andThen fun v w=>.ok (.value v) w:=by
  intro r hr
  simp only [execOp,heq,resolve,hc,Sem.run_bind,Sem.run_pure,Result.andThen_ok,invoke,builtin,hargs,List.map_toArray,List.map_cons,List.map_nil,ha.ev hx,ha.ev hy,hr]
 have hat:Builtin.append_ c.argTypes o.type #[.slice none 0 0,.int ky N]=Builtin.append_ #[ty,tx] o.type #[.slice none 0 0,.int ky N]:=by
  simp [Builtin.append_,ht,htx]
 by_cases hroom:n=0
 ·have hK:=none_ hroom
  have hr:(Builtin.append_ #[ty,tx] o.type #[.slice none 0 0,.int ky N]).run C.P wd = .ok (.slice none 0 0) wd:=by
   subst hsz'
   have hN0:N=0:=by omega
   have hw:IntKind.i64.wrap 0=0:=by decide
   subst hN0
   simp [Builtin.append_,Zr hu,Zr hk,sizeOf,typeInfo,hi,asInt,asIntOf,hw]
  rw [<- hat] at hr
  have h2:=hrun hr
  unfold Oper.wp
  rw [h2,Result.andThen_ok]
  simp only [Oper.upon]
  exact ⟨_,m,hK,hd1▸ha.put hd2 _,hw⟩
 ·have hg:0<0+n:=by omega
  have hold:(Builtin.firstCells i.size 0 (.slice none 0 0)).run C.P wd.drew = .ok ([]:List Value).toArray wd.drew:=by simpa using run_firstCells_none (P:=C.P) wd.drew i.size 0 0 0
  have hfit':Builtin.nextslicecap (0+n) 0*i.bytes<=281474976710656:=by rw [hby]; exact growslice_fits hg (by simpa using hsz)
  have hr:=Zhz (k:=ky) (P:=C.P) (w:=wd) (t:=ty) (tx:=tx) (ty:=o.type) (e:=T) (i:=i) (z:=zv) hu hk hi hz1 hN hn (by rw [hby]; omega) none 0 0 _ hold cs hnews (by rw [hsz']; exact Nat.pos_iff_ne_zero.1 (Nat.mul_pos (by omega) hw0)) hg (by omega) hfit'
  simp only [Nat.zero_add,List.nil_append] at hr
  rw [<- hat] at hr
  have h2:=hrun hr
  unfold Oper.wp
  rw [h2,Result.andThen_ok]
  simp only [Oper.upon]
  have hge:=grownCap_ge wd n 0 T
  obtain ⟨segs',e1,hK⟩:=grow (by omega) wd.heap.size (grownCap wd n 0 T) hw.fr.size hge
  refine ⟨_,_,hK,hd1▸ha.put hd2 _,?_⟩
  have ha2:=hw.drew.alloc (.cells (cs.toArray++Builtin.zeroCells zv.cells (grownCap wd n 0 T-n)) T)
  have e2:(cs.toArray++Builtin.zeroCells zv.cells (grownCap wd n 0 T-n))=(cells segs').toArray:=by
   rw [e1,hz2]
   apply Array.ext'
   rw [Array.toList_append,Zb0 (by rw [cells_length,hwz]; exact hw0)]
  rw [e2]
  rw [e2] at ha2
  exact ha2
end
section
variable {α:Type} {C:Cfg} {m:List Zf} {t:TS} {K:KN} {E:El α} {v:Value} {xs:List α}
theorem Z01i {d:Nat} {T:TypeId} {bytes:Nat} {z:List Seg} {x y:Operand} {ms mr:List Zf} {ky:IntKind} {N:Int} {xs':List α} (e:xs'=xs++replicate N.toNat E.z) (hx:ev t x=some v) (hO:Z03 E v ms xs) (hT:Take ms m mr) (hy:ev t y=some (.int ky N)) (hN:decide (0<=N)=true) (hz:cells z=E.cell E.z)
  (hsz:decide ((xs.length+N.toNat)*bytes<=140737488355328)=true) (h : ∀ v' ms',Z03 E v' ms' xs'->K ((d,v')::t) (ms'++mr)):EF C m t (some d) (.apz T E.w bytes z x y) K:=by
 subst e
 have hsz:=of_decide_eq_true hsz
 intro o ho hd a ha w hw
 have hN:=of_decide_eq_true hN
 have hzw:width z=E.w:=by rw [<- cells_length,hz,E.len]
 have hone : ∀ u∈cells z,one1 u=true:=by rw [hz]; exact E.one _
 generalize hys:replicate N.toNat E.z=ys
 rw [hys] at h
 have hyl:ys.length=N.toNat:=by rw [<- hys,List.length_replicate]
 have hcs:cellsOf E ys=(replicate ys.length (cells z)).flatten:=by
  rw [hyl,<- Zlm (w:=E.w) (by rw [cells_length]; exact hzw),cellsOf,hyl]
  apply Zll
  intro i hi
  simp only [Zb2]
  rw [<- hys,hz]
  simp [List.getD,List.getElem?_replicate,hi]
 rw [<- hyl] at hsz
 refine EF.perm hT.perm (EF.less (?_:EF C (ms++mr) t (some d) (.apz T E.w bytes z x y) _)) o ho hd a ha w hw
 rcases hO with ⟨h1,h2,h3⟩ | ⟨b,o1,cp,T',cs,h1,h2,h3,h4,h5⟩
 ·subst h1; subst h2; subst h3
  refine Z01h hx hy hN hyl hcs hone (by simpa using hsz) (fun h0=>?_) (fun h0 b' cp' hb' hc'=>?_)
  ·have hys:ys = []:=List.eq_nil_of_length_eq_zero h0
   subst hys
   exact ⟨_,h _ _ Z49,List.Sublist.refl _⟩
  ·refine ⟨(cellsOf E ys++(replicate (cp'-ys.length) (cells z)).flatten).map Seg.one,Z0y _,?_⟩
   refine ⟨_,h _ [⟨b',_⟩] (.inr ⟨b',0,cp',T,_,by simp,by simpa using hc',rfl,?_,?_⟩),List.Sublist.refl _⟩
   ·rw [Z56,List.length_append,Z0g]
    simp only [List.length_flatten,List.map_replicate,List.sum_replicate_nat,cells_length,hzw,Nat.zero_add]
    rw [<- Nat.add_mul]
    exact Nat.mul_le_mul_right _ (by omega)
   ·intro i hi j hj
    simp only [List.nil_append] at hi ⊢
    have:i*E.w+E.w<=ys.length*E.w:=by rw [<- Nat.succ_mul]; exact Nat.mul_le_mul_right _ hi
    rw [Z0y,Nat.zero_add,List.getElem?_append_left (by rw [Z0g]; omega),Z42 hi hj]
 ·subst h1; subst h3
  refine Z04m hx Has.here hy hN hyl hcs hone h4 h2 hsz (fun hr=>?_) (fun hg b' cp' hb' hc'=>?_)
  ·have hle:(xs.length+ys.length)*E.w<=cp*E.w:=Nat.mul_le_mul_right _ hr
   rw [Nat.add_mul] at hle
   have hin:o1+xs.length*E.w+(cellsOf E ys).length<=(cells cs).length:=by rw [Z0g,cells_length]; omega
   refine ⟨(Z0s (cells cs) (o1+xs.length*E.w) (cellsOf E ys)).map Seg.one,[⟨b,.cells (cells ((Z0s (cells cs) (o1+xs.length*E.w) (cellsOf E ys)).map Seg.one)).toArray T' (0,0)⟩]++mr,Z0y _,Upd.here,?_⟩
   refine ⟨_,h _ _ (.inr ⟨b,o1,cp,T',_,by simp,by simpa using hr,rfl,?_,?_⟩),List.Sublist.refl _⟩
   ·rw [Z56,Z0s,List.length_append,List.length_append,List.length_take,List.length_drop]
    rw [cells_length] at hin ⊢; omega
   ·intro i hi j hj
    rw [Z0y,Z8q hin,Z0g]
    rw [List.length_append] at hi
    by_cases hil:i<xs.length
    ·have:i*E.w+E.w<=xs.length*E.w:=by rw [<- Nat.succ_mul]; exact Nat.mul_le_mul_right _ hil
     rw [if_neg (by omega),Zae hil,h5 i hil j hj]
    ·have e1:i*E.w=xs.length*E.w+(i-xs.length)*E.w:=by rw [<- Nat.add_mul]; congr 1; omega
     have:(i-xs.length)*E.w+E.w<=ys.length*E.w:=by rw [<- Nat.succ_mul]; exact Nat.mul_le_mul_right _ (by omega)
     rw [if_pos (by omega),Zaf (by omega),show o1+(i*E.w+j)-(o1+xs.length*E.w)=(i-xs.length)*E.w+j by omega,Z42 (by omega) hj]
  ·have hle:xs.length*E.w<=cp*E.w:=Nat.mul_le_mul_right _ h2
   have hl1:(((cells cs).drop o1).take (xs.length*E.w)).length=xs.length*E.w:=by rw [List.length_take,List.length_drop,cells_length]; omega
   refine ⟨(((cells cs).drop o1).take (xs.length*E.w)++cellsOf E ys++(replicate (cp'-(xs.length+ys.length)) (cells z)).flatten).map Seg.one,Z0y _,?_⟩
   refine ⟨_,h _ [⟨b',_⟩] (.inr ⟨b',0,cp',T,_,by simp,by simpa using hc',rfl,?_,?_⟩),List.Sublist.cons₂ _ (List.sublist_cons_self _ _)⟩
   ·rw [Z56,List.length_append,List.length_append,hl1,Z0g]
    simp only [List.length_flatten,List.map_replicate,List.sum_replicate_nat,cells_length,hzw,Nat.zero_add]
    rw [<- Nat.add_mul,<- Nat.add_mul]
    exact Nat.mul_le_mul_right _ (by omega)
   ·intro i hi j hj
    rw [List.length_append] at hi
    rw [Z0y,Nat.zero_add]
    by_cases hil:i<xs.length
    ·have:i*E.w+E.w<=xs.length*E.w:=by rw [<- Nat.succ_mul]; exact Nat.mul_le_mul_right _ hil
     rw [List.append_assoc,List.getElem?_append_left (by rw [hl1]; omega),List.getElem?_take_of_lt (by omega),List.getElem?_drop,h5 i hil j hj,Zae hil]
    ·have e1:i*E.w=xs.length*E.w+(i-xs.length)*E.w:=by rw [<- Nat.add_mul]; congr 1; omega
     have:(i-xs.length)*E.w+E.w<=ys.length*E.w:=by rw [<- Nat.succ_mul]; exact Nat.mul_le_mul_right _ (by omega)
     rw [List.append_assoc,List.getElem?_append_right (by rw [hl1]; omega),hl1,List.getElem?_append_left (by rw [Z0g]; omega),Zaf (by omega),show i*E.w+j-xs.length*E.w=(i-xs.length)*E.w+j by omega,Z42 (by omega) hj]
theorem Z0az {len w:Nat} {x i:Operand} {k k':IntKind} {ys:List Int} {z:Int} (h:ev t x=some (agg [.ints k (len*w) ys])) (hi:ev t i=some (.int k' z)) (hz:0<=z/\z<len) :
  Q1 C m t (.idx len w true x i) (agg [.ints k w (tk ys (z.toNat*w) w)]):=by
 intro o ho a ha wd hw
 obtain ⟨T,e,heq,hu,hs,hag⟩:=Zr1 ho
 refine Z0d ?_
 simp only [execOp,heq,ha.ev h,ha.ev hi]
 refine Zau ?_
 simp only [Instr.index,agg,asIntOf,Sem.run_bind,Sem.run_pure,Zr hu,Result.andThen_ok,hz,and_self,if_true,Z35 hs]
 refine Zet hs hag (fun _=>?_) (fun h=>by cases h)
 congr 2
 have hlt:z.toNat<len:=by omega
 have hle:z.toNat*w+w<=len*w:=by rw [<- Nat.succ_mul]; exact Nat.mul_le_mul_right w hlt
 simp only [cells,Seg.cells,List.append_nil]
 rw [Zu7 (by omega)]
 rw [Zu8,Zd5 (Z1j _ _ _)]
def Zqx:Value->Bool
 | .slice none _ _=>true
 | _=>false
theorem Zvf {β:Type} {E':El β} {v':Value} {ys:List β} (h : ∀ W,Z6v E' W v' ys->Z6v E W v xs) (hs:Zi6 C m E' v' ys):Zi6 C m E v xs:=fun w hw=>h w (hs w hw)
theorem Zrt {β:Type} {E':El β} {v':Value} {ys:List β} : ∀ W,Z6v E' W v' ys->Z6v E W (.slice none 0 0) []:=fun _ _=>Z0fb
theorem Zzx {x:Operand} {b p base i len:Nat} {T:TypeId} {fz:Nat×Nat} {s:List Seg} {k:IntKind} {ys:List Int} {z:Int} (e:z=ys.getD i 0) (hx:ev t x=some (.pointer (some ⟨b,p,none⟩))) (hb:Has b (.cells (cells s).toArray T fz) m)
  (hs:Zcr s base=some (.ints k len ys)) (hp:p=base+i) (hi:decide (i<len)=true):Q1 C m t (.ld 1 false x) (.int k z):=e▸Z0m6 hx hb hs hp (of_decide_eq_true hi)
theorem Ztx {x y:Operand} {b p base i len:Nat} {T:TypeId} {s q:List Seg} {k:IntKind} {ys ys':List Int} {z:Int} {m':List Zf} (e:ys'=Z28 ys i z) (hx:ev t x=some (.pointer (some ⟨b,p,none⟩))) (hy:ev t y=some (.int k z))
  (hs:Zcr s base=some (.ints k len ys)) (hp:p=base+i) (hi:decide (i<len)=true) (hq:Zd3 s base (.ints k len ys')=some q)
  (hup:Upd b (.cells (cells s).toArray T (0,0)) (.cells (cells q).toArray T (0,0)) m m') (h:K t m'):EF C m t none (.st 1 x y) K:=by
 subst e; exact Z04r hx hy hs hp (of_decide_eq_true hi) hq hup h
def Ziv (x y c:Int):Bool:=decide (0<=x)&&decide (0<=y)&&decide (0<=c)&&decide (c<=1)
def Zp4 (x y c:Int):Int:=(x+y+c)%18446744073709551616
def Zp3 (x y c:Int):Int:=(x+y+c) / 18446744073709551616
theorem xadd {P:Program} {x y c l h:Int} (hl:l=Zp4 x y c) (hh:h=Zp3 x y c) (hk:Ziv x y c=true) (w:World):(add64Entry #[.int .u64 x,.int .u64 y,.int .u64 c]).run P w = .ok (.tuple #[.int .u64 l,.int .u64 h]) w:=by
 subst hl; subst hh
 simp [Ziv] at hk
 exact run_add64 x y c hk.1.1.1 hk.1.1.2 hk.1.2 hk.2 w
def Zbg (v:Value):Prop:=∃ a n c,v = .slice a n c
theorem Z6v.isSl {W:World} (h:Z6v E W v xs):Zbg v:=by
 rcases h with ⟨h1,_⟩ | ⟨b,o,cp,h1,_,_⟩ | ⟨_,h1,_⟩
 ·exact ⟨_,_,_,h1⟩
 ·exact ⟨_,_,_,h1⟩
 ·exact ⟨_,_,_,h1⟩
theorem Z03.isSl {ms:List Zf} (h:Z03 E v ms xs):Zbg v:=by
 rcases h with ⟨h1,_⟩ | ⟨b,o,cp,_,_,h1,_⟩
 ·exact ⟨_,_,_,h1⟩
 ·exact ⟨_,_,_,h1⟩
theorem Zbg.cells {u:Value} (h:Zbg u):u.cells = #[u]:=by obtain ⟨a,n,c,rfl⟩:=h; rfl
abbrev SlT:=Option Addr×Nat×Nat
def slV (x:SlT):Value:=.slice x.1 x.2.1 x.2.2
def unS:Value->SlT
 | .slice a n c=>(a,n,c)
 | _=>(none,0,0)
theorem Z006 {u:Value} (h:Zbg u):slV (unS u)=u:=by obtain ⟨a,n,c,rfl⟩:=h; rfl
abbrev El.sl:El SlT:=⟨1,fun x=>[slV x],fun _=>rfl,fun _ v h=>by simp at h; subst h; rfl,by decide,(none,0,0)⟩
theorem Z55 {u:Value} (h:Zbg u):Go.Sx.cells [.one u]=El.sl.cell (unS u):=by simp only [Go.Sx.cells,Seg.cells]; rw [Z006 h]; rfl
inductive Zgu (E:El α) (W:World):List SlT->List (List α)->Prop
 | nil:Zgu E W [] []
 | cons {u:SlT} {us:List SlT} {ys:List α} {yss:List (List α)}:Z6v E W (slV u) ys->Zgu E W us yss->Zgu E W (u::us) (ys::yss)
theorem Zgu.len {W:World} {us:List SlT} {yss:List (List α)} (h:Zgu E W us yss):us.length=yss.length:=by
 induction h with
 | nil=>rfl
 | cons _ _ ih=>simp [ih]
theorem Zgu.get {W:World} {us:List SlT} {yss:List (List α)} (h:Zgu E W us yss) : ∀ i,i<yss.length->Z6v E W (slV (us.getD i (none,0,0))) (yss.getD i []):=by
 induction h with
 | nil=>intro i hi; simp at hi
 | cons h1 _ ih =>
  intro i hi
  cases i with
  | zero=>simpa using h1
  | succ i=>simpa using ih i (by simpa using hi)
theorem Z5q {W:World} {u:Value} (h:Z6v E W u xs):Z6v E W (slV (unS u)) xs:=by rw [Z006 h.isSl]; exact h
theorem Zm1 {W:World} {us:List SlT} {yss:List (List α)} (h:Zgu E W us yss) {z:Int} (hz:inB z yss.length=true):inB z us.length=true:=by rw [h.len]; exact hz
def Shp (v:Value) (n:Nat):Prop:=(v = .slice none 0 0/\n=0)∨(∃ b o cp,v = .slice (some ⟨b,o,none⟩) n cp/\n<=cp) ∨ ∃ a,v = .slice (some a) 0 0/\n=0
theorem Shp.rd {W:World} (h:Z6v E W v xs):Shp v xs.length:=by
 rcases h with ⟨h1,h2⟩ | ⟨b,o,cp,h1,h2,_⟩ | ⟨a3,h1,h2⟩
 ·exact .inl ⟨h1,by rw [h2]; rfl⟩
 ·exact .inr (.inl ⟨b,o,cp,h1,h2⟩)
 ·exact .inr (.inr ⟨a3,h1,by rw [h2]; rfl⟩)
theorem Shp.own {ms:List Zf} (h:Z03 E v ms xs):Shp v xs.length:=by
 rcases h with ⟨h1,h2,_⟩ | ⟨b,o,cp,_,_,h1,h2,_⟩
 ·exact .inl ⟨h1,by rw [h2]; rfl⟩
 ·exact .inr (.inl ⟨b,o,cp,h1,h2⟩)
theorem Shp.nil:Shp (.slice none 0 0) 0:=.inl ⟨rfl,rfl⟩
theorem Shp.blk {b base lo hi mz w n:Nat} (h:lo<=hi/\hi<=mz) (hn:n=hi-lo):Shp (.slice (some (Z54 b base lo mz w)) (hi-lo) (mz-lo)) n:=by
 subst hn
 unfold Z54
 split
 ·exact .inr (.inl ⟨_,_,_,rfl,by omega⟩)
 ·exact .inr (.inl ⟨_,_,_,rfl,by omega⟩)
theorem Shp.cut {w:Nat} {lz hz:Int} (h:Shp v xs.length) (hb:Zfh lz hz xs.length=true):Shp (Za7 w v lz.toNat hz.toNat) ((xs.drop lz.toNat).take (hz.toNat-lz.toNat)).length:=by
 have hb:=Zj0 hb
 have hlen:((xs.drop lz.toNat).take (hz.toNat-lz.toNat)).length=hz.toNat-lz.toNat:=by rw [List.length_take,List.length_drop]; omega
 rw [hlen]
 rcases h with ⟨h1,h2⟩ | ⟨b,o,cp,h1,h2⟩ | ⟨a3,h1,h2⟩
 ·subst h1; exact .inl ⟨rfl,by omega⟩
 rotate_left 1
 ·subst h1
  have e1:lz.toNat=0:=by omega
  have e2:hz.toNat=0:=by omega
  rw [e1,e2,Zj1]
  exact .inr (.inr ⟨a3,rfl,rfl⟩)
 ·subst h1
  simp only [Za7]
  exact Shp.blk (by omega) rfl
theorem Shp.isSl {n:Nat} (h:Shp v n):Zbg v:=by
 rcases h with ⟨h1,_⟩ | ⟨b,o,cp,h1,_⟩ | ⟨_,h1,_⟩
 ·exact ⟨_,_,_,h1⟩
 ·exact ⟨_,_,_,h1⟩
 ·exact ⟨_,_,_,h1⟩
theorem Shp.notnil {n:Nat} (h:Shp v n) (h0:decide (0<n)=true):Zqx v=false:=by
 have h0:=of_decide_eq_true h0
 rcases h with ⟨_,h2⟩ | ⟨b,o1,cp,h1,_⟩ | ⟨_,_,h2⟩
 ·omega
 ·subst h1; rfl
 ·omega
theorem Z3l {x:Operand} {n:Nat} (hx:ev t x=some v) (h:Shp v n):Q1 C m t (.len x) (.int .i64 n):=by
 rcases h with ⟨h1,h2⟩ | ⟨b,o1,cp,h1,h2⟩ | ⟨a3,h1,h2⟩
 ·subst h1; subst h2; exact Zyb hx
 rotate_left 1
 ·subst h1; subst h2; exact Zyb hx
 ·subst h1; exact Zyb hx
theorem Z5p {w n:Nat} {x i:Operand} {k:IntKind} {z:Int} (hx:ev t x=some v) (hi:ev t i=some (.int k z)) (h:Shp v n) (hz:inB z n=true) :
  Q1 C m t (.ias w x i) (.pointer (some ⟨(Z8f v).block,(Z8f v).off+z.toNat*w,none⟩)):=by
 have hz':=Z08 hz
 rcases h with ⟨h1,h2⟩ | ⟨b,o1,cp,h1,h2⟩ | ⟨_,_,h2⟩
 ·omega
 rotate_left 1
 ·omega
 ·subst h1; exact Z0m2 hx hi hz'
theorem Z0b1 {n k:Nat} {x:Operand} (hx:ev t x=some v) (h:Shp v k) (h0:0<n) (hn:decide (n<=k)=true):Q1 C m t (.s2a n x) (.pointer (some ⟨(Z8f v).block,(Z8f v).off,none⟩)):=by
 have hn:=of_decide_eq_true hn
 rcases h with ⟨h1,h2⟩ | ⟨b,o1,cp,h1,h2⟩ | ⟨_,_,h2⟩
 ·omega
 rotate_left 1
 ·omega
 ·subst h1; exact Z0m7 hx hn
theorem Zk2 {w n:Nat} {x:Operand} {lo hi:Option Operand} {lz hz:Int} (hx:ev t x=some v) (h:Shp v n) (hl:Zif t 0 lo lz) (hh:Zif t n hi hz) (hb:Zfh lz hz n=true) :
  Q1 C m t (.sls w x lo hi none) (Za7 w v lz.toNat hz.toNat):=by
 have hb:=Zj0 hb
 rcases h with ⟨h1,h2⟩ | ⟨b,o1,cp,h1,h2⟩ | ⟨a3,h1,h2⟩
 ·subst h1; subst h2
  exact Zzz (mz:=0) hx hl hh .no (by simp) (by omega)
 rotate_left 1
 ·subst h1; subst h2
  have e1:lz.toNat=0:=by omega
  have e2:hz.toNat=0:=by omega
  rw [e1,e2,Zj1]
  exact Z0b5 hx hl hh (by omega)
 ·subst h1
  have:=Z0b3 (C:=C) (m:=m) (w:=w) (mz:=cp) hx hl hh .no (by simp) (by omega)
  simpa [Za7] using this
theorem Zzw {neg:Bool} {x:Operand} {c:Bool} {n:Nat} (hx:ev t x=some v) (h:Shp v n) (hc:Zqx v=c):Q1 C m t (.isn neg x) (.bool (bif neg then !c else c)):=by
 subst hc
 rcases h with ⟨h1,h2⟩ | ⟨b,o1,cp,h1,h2⟩ | ⟨a3,h1,h2⟩
 ·subst h1; exact Z02h hx
 ·subst h1; exact Z02h hx
 ·subst h1; exact Z02h hx
theorem Zud {n k:Nat} {op:IOp} (q:Q1 C m t op (.int .i64 n)) (h:n=k):Q1 C m t op (.int .i64 k):=h▸q
end
end Go.Sx
namespace Go.Sx
open Go Go.RowKit
set_option linter.all false
section
variable {C:Cfg} {m:List Zf} {t:TS} {K:KN} {α:Type} {E:El α} {v:Value} {xs:List α}
theorem Z09 {β:Type} {r:β} {a b:Option β} {c:Bool} {x:Operand} {p q:IC} {kn:KN} {ke:KE} (h:br c a b=some r) (hx:ev t x=some (.bool c)) (ht:a=some r->WC C p t m kn ke) (hf:b=some r->WC C q t m kn ke) :
  WC C (.cond x p q) t m kn ke:=Z0o2 hx (fun e=>ht (br_t h e)) (fun e=>hf (br_f h e))
end
section
variable {α β:Type} {r:β} {G:Prop}
theorem bH {x:α} {f:α->Option β} (h:bnd x f=some r) (k : ∀ z,z=x->f z=some r->G):G:=Z0gq k h
theorem cH {c:Bool} {o:Option β} (h:chk c o=some r) (k:c=true->o=some r->G):G:=Z0gs k h
theorem oH {o:Option α} {f:α->Option β} (h:opt o f=some r) (k : ∀ y,o=some y->f y=some r->G):G:=Z0lt k h
theorem jH {K:Type} {k:K} {g:K->Option β} (h:jn k g=some r) (q : ∀ k',k'=k->g k'=some r->G):G:=jn_i q h
end
instance (n:Nat):OfNat Operand n:=⟨.tmp n⟩
abbrev oj (d:Nat) (i:IOp):J:=.op ⟨some d,none,i⟩
abbrev on_ (i:IOp):J:=.op ⟨none,none,i⟩
abbrev oi (d:Nat) (i:IOp):Zkk:=⟨some d,none,i⟩
abbrev oe (i:IOp):Zkk:=⟨none,none,i⟩
abbrev ci (n:Int):Operand:=.const (.int .i64 n)
abbrev cu (n:Int):Operand:=.const (.int .u64 n)
theorem Z6 {C : Cfg} {m : List Zf} {t : TS} {kn : KN} {x : Operand} {d : Nat} {r : List J} {v : Value} (h1 : ev t x = some v) (h : WJ C r ((d, v) :: t) m kn) : WJ C (.op ⟨some d, none, .mv x⟩ :: r) t m kn := Z4 v (Z0j h1) h
theorem Z0h {C : Cfg} {m : List Zf} {t : TS} {f : FuncId} {args : List Operand} {vs : List Value} {v : Value} (ha : evL t args = some vs) (h : ∀ {w : World}, Calls C.P f vs.toArray w (Z34 w v)) : Q1 C m t (.call f args) v := Z1a ha fun _ _ => h
abbrev Z5 : Seg := .ints .u64 5 (List.replicate 5 0)
abbrev Z10 : Seg := .ints .u64 10 (List.replicate 10 0)
abbrev OL := Option (List Int)
abbrev jm (d : Nat) (x : Operand) : J := oj d (.mv x)
abbrev jl (d : Nat) (n : Nat) (a : Bool) (x : Operand) : J := oj d (.ld n a x)
abbrev jb (d : Nat) (o : BinOp) (x y : Operand) : J := oj d (.bin o x y)
abbrev jc (d : Nat) (f : FuncId) (a : List Operand) : J := oj d (.call f a)
abbrev ji (d : Nat) (l w : Nat) (x i : Operand) : J := oj d (.ia l w x i)
abbrev ja (d : Nat) (T : TypeId) (z : List Seg) : J := oj d (.al T z)
abbrev jx (d : Nat) (T : TypeId) (x : Operand) : J := oj d (.bx T x)
abbrev jf (d : Nat) (n : Nat) (x : Operand) : J := oj d (.fa n x)
abbrev je (d : Nat) (x : Operand) (i : Nat) : J := oj d (.ext x i)
abbrev jn' (d : Nat) (x : Operand) : J := oj d (.len x)
abbrev ji' (d : Nat) (w : Nat) (x i : Operand) : J := oj d (.ias w x i)
abbrev jd (d : Nat) (z : List Seg) (p : List (Nat × Nat × Operand)) : J := oj d (.bd z p)
abbrev jv (d : Nat) (k : IntKind) (x : Operand) : J := oj d (.conv k x)
abbrev jz (d : Nat) (x : Operand) : J := oj d (.nilc x)
abbrev js' (n : Nat) (x y : Operand) : J := on_ (.st n x y)
abbrev jo' (n : Nat) (x y : Operand) : Zkk := oe (.st n x y)
abbrev c8 (n : Int) : Operand := .const (.int .u8 n)
abbrev Sch.P (i : Nat) (j : J) (r : Sch) : Sch := .p [i] j r
abbrev Sch.Q (i : Nat) (j : J) (r : Sch) : Sch := .q [i] j r
abbrev IC.sq (l : List J) (c : IC) : IC := .seq (.ops l) c
abbrev LJ := List J
abbrev LI := List Int
abbrev pt' (b : Nat) : Value := .pointer (some ⟨b, 0, none⟩)
theorem Zn5.o {c : Zf} {M m : List Zf} (h : Zn5 M m) : Zn5 (c :: M) (c :: m) := .one .here h
abbrev u5' (x : List Int) : Seg := .ints .u64 5 x
abbrev uA' (x : List Int) : Seg := .ints .u64 10 x
abbrev b3' (x : List Int) : Seg := .ints .u8 32 x
abbrev b6' (x : List Int) : Seg := .ints .u8 64 x
abbrev u8' (x : List Int) : Seg := .ints .u64 8 x
theorem Has.t1 {b o m c0} : Has b o (c0 :: ⟨b, o⟩ :: m) := .there .here
theorem Has.t2 {b o m c0 c1} : Has b o (c0 :: c1 :: ⟨b, o⟩ :: m) := .there (.there .here)
theorem Has.t3 {b o m c0 c1 c2} : Has b o (c0 :: c1 :: c2 :: ⟨b, o⟩ :: m) := .there (.there (.there .here))
theorem Has.t4 {b o m c0 c1 c2 c3} : Has b o (c0 :: c1 :: c2 :: c3 :: ⟨b, o⟩ :: m) := .there (.there (.there (.there .here)))
theorem Has.t5 {b o m c0 c1 c2 c3 c4} : Has b o (c0 :: c1 :: c2 :: c3 :: c4 :: ⟨b, o⟩ :: m) := .there (.there (.there (.there (.there .here))))
theorem Has.t6 {b o m c0 c1 c2 c3 c4 c5} : Has b o (c0 :: c1 :: c2 :: c3 :: c4 :: c5 :: ⟨b, o⟩ :: m) := .there (.there (.there (.there (.there (.there .here)))))
theorem Has.t7 {b o m c0 c1 c2 c3 c4 c5 c6} : Has b o (c0 :: c1 :: c2 :: c3 :: c4 :: c5 :: c6 :: ⟨b, o⟩ :: m) := .there (.there (.there (.there (.there (.there (.there .here))))))
theorem Has.t8 {b o m c0 c1 c2 c3 c4 c5 c6 c7} : Has b o (c0 :: c1 :: c2 :: c3 :: c4 :: c5 :: c6 :: c7 :: ⟨b, o⟩ :: m) := .there (.there (.there (.there (.there (.there (.there (.there .here)))))))
theorem Has.t9 {b o m c0 c1 c2 c3 c4 c5 c6 c7 c8} : Has b o (c0 :: c1 :: c2 :: c3 :: c4 :: c5 :: c6 :: c7 :: c8 :: ⟨b, o⟩ :: m) := .there (.there (.there (.there (.there (.there (.there (.there (.there .here))))))))
theorem Upd.t1 {b o o' m c0} : Upd b o o' (c0 :: ⟨b, o⟩ :: m) (c0 :: ⟨b, o'⟩ :: m) := .there .here
theorem Upd.t2 {b o o' m c0 c1} : Upd b o o' (c0 :: c1 :: ⟨b, o⟩ :: m) (c0 :: c1 :: ⟨b, o'⟩ :: m) := .there (.there .here)
theorem Upd.t3 {b o o' m c0 c1 c2} : Upd b o o' (c0 :: c1 :: c2 :: ⟨b, o⟩ :: m) (c0 :: c1 :: c2 :: ⟨b, o'⟩ :: m) := .there (.there (.there .here))
theorem Upd.t4 {b o o' m c0 c1 c2 c3} : Upd b o o' (c0 :: c1 :: c2 :: c3 :: ⟨b, o⟩ :: m) (c0 :: c1 :: c2 :: c3 :: ⟨b, o'⟩ :: m) := .there (.there (.there (.there .here)))
theorem Upd.t5 {b o o' m c0 c1 c2 c3 c4} : Upd b o o' (c0 :: c1 :: c2 :: c3 :: c4 :: ⟨b, o⟩ :: m) (c0 :: c1 :: c2 :: c3 :: c4 :: ⟨b, o'⟩ :: m) := .there (.there (.there (.there (.there .here))))
theorem Upd.t6 {b o o' m c0 c1 c2 c3 c4 c5} : Upd b o o' (c0 :: c1 :: c2 :: c3 :: c4 :: c5 :: ⟨b, o⟩ :: m) (c0 :: c1 :: c2 :: c3 :: c4 :: c5 :: ⟨b, o'⟩ :: m) := .there (.there (.there (.there (.there (.there .here)))))
theorem Upd.t7 {b o o' m c0 c1 c2 c3 c4 c5 c6} : Upd b o o' (c0 :: c1 :: c2 :: c3 :: c4 :: c5 :: c6 :: ⟨b, o⟩ :: m) (c0 :: c1 :: c2 :: c3 :: c4 :: c5 :: c6 :: ⟨b, o'⟩ :: m) := .there (.there (.there (.there (.there (.there (.there .here))))))
theorem Upd.t8 {b o o' m c0 c1 c2 c3 c4 c5 c6 c7} : Upd b o o' (c0 :: c1 :: c2 :: c3 :: c4 :: c5 :: c6 :: c7 :: ⟨b, o⟩ :: m) (c0 :: c1 :: c2 :: c3 :: c4 :: c5 :: c6 :: c7 :: ⟨b, o'⟩ :: m) := .there (.there (.there (.there (.there (.there (.there (.there .here)))))))
theorem Upd.t9 {b o o' m c0 c1 c2 c3 c4 c5 c6 c7 c8} : Upd b o o' (c0 :: c1 :: c2 :: c3 :: c4 :: c5 :: c6 :: c7 :: c8 :: ⟨b, o⟩ :: m) (c0 :: c1 :: c2 :: c3 :: c4 :: c5 :: c6 :: c7 :: c8 :: ⟨b, o'⟩ :: m) := .there (.there (.there (.there (.there (.there (.there (.there (.there .here))))))))
theorem Z41.t1 {c m c0} : Z41 c (c0 :: c :: m) (c0 :: m) := .there .here
theorem Z41.t2 {c m c0 c1} : Z41 c (c0 :: c1 :: c :: m) (c0 :: c1 :: m) := .there (.there .here)
theorem Z41.t3 {c m c0 c1 c2} : Z41 c (c0 :: c1 :: c2 :: c :: m) (c0 :: c1 :: c2 :: m) := .there (.there (.there .here))
theorem Z41.t4 {c m c0 c1 c2 c3} : Z41 c (c0 :: c1 :: c2 :: c3 :: c :: m) (c0 :: c1 :: c2 :: c3 :: m) := .there (.there (.there (.there .here)))
theorem Z41.t5 {c m c0 c1 c2 c3 c4} : Z41 c (c0 :: c1 :: c2 :: c3 :: c4 :: c :: m) (c0 :: c1 :: c2 :: c3 :: c4 :: m) := .there (.there (.there (.there (.there .here))))
theorem Z41.t6 {c m c0 c1 c2 c3 c4 c5} : Z41 c (c0 :: c1 :: c2 :: c3 :: c4 :: c5 :: c :: m) (c0 :: c1 :: c2 :: c3 :: c4 :: c5 :: m) := .there (.there (.there (.there (.there (.there .here)))))
theorem Z41.t7 {c m c0 c1 c2 c3 c4 c5 c6} : Z41 c (c0 :: c1 :: c2 :: c3 :: c4 :: c5 :: c6 :: c :: m) (c0 :: c1 :: c2 :: c3 :: c4 :: c5 :: c6 :: m) := .there (.there (.there (.there (.there (.there (.there .here))))))
theorem Z41.t8 {c m c0 c1 c2 c3 c4 c5 c6 c7} : Z41 c (c0 :: c1 :: c2 :: c3 :: c4 :: c5 :: c6 :: c7 :: c :: m) (c0 :: c1 :: c2 :: c3 :: c4 :: c5 :: c6 :: c7 :: m) := .there (.there (.there (.there (.there (.there (.there (.there .here)))))))
theorem Z41.t9 {c m c0 c1 c2 c3 c4 c5 c6 c7 c8} : Z41 c (c0 :: c1 :: c2 :: c3 :: c4 :: c5 :: c6 :: c7 :: c8 :: c :: m) (c0 :: c1 :: c2 :: c3 :: c4 :: c5 :: c6 :: c7 :: c8 :: m) := .there (.there (.there (.there (.there (.there (.there (.there (.there .here))))))))
theorem Take.t1 {ms m c0} : Take ms (c0 :: (ms ++ m)) (c0 :: m) := .there .here
theorem Take.t2 {ms m c0 c1} : Take ms (c0 :: c1 :: (ms ++ m)) (c0 :: c1 :: m) := .there (.there .here)
theorem Take.t3 {ms m c0 c1 c2} : Take ms (c0 :: c1 :: c2 :: (ms ++ m)) (c0 :: c1 :: c2 :: m) := .there (.there (.there .here))
theorem Take.t4 {ms m c0 c1 c2 c3} : Take ms (c0 :: c1 :: c2 :: c3 :: (ms ++ m)) (c0 :: c1 :: c2 :: c3 :: m) := .there (.there (.there (.there .here)))
theorem Take.t5 {ms m c0 c1 c2 c3 c4} : Take ms (c0 :: c1 :: c2 :: c3 :: c4 :: (ms ++ m)) (c0 :: c1 :: c2 :: c3 :: c4 :: m) := .there (.there (.there (.there (.there .here))))
theorem Take.t6 {ms m c0 c1 c2 c3 c4 c5} : Take ms (c0 :: c1 :: c2 :: c3 :: c4 :: c5 :: (ms ++ m)) (c0 :: c1 :: c2 :: c3 :: c4 :: c5 :: m) := .there (.there (.there (.there (.there (.there .here)))))
theorem Take.t7 {ms m c0 c1 c2 c3 c4 c5 c6} : Take ms (c0 :: c1 :: c2 :: c3 :: c4 :: c5 :: c6 :: (ms ++ m)) (c0 :: c1 :: c2 :: c3 :: c4 :: c5 :: c6 :: m) := .there (.there (.there (.there (.there (.there (.there .here))))))
theorem Take.t8 {ms m c0 c1 c2 c3 c4 c5 c6 c7} : Take ms (c0 :: c1 :: c2 :: c3 :: c4 :: c5 :: c6 :: c7 :: (ms ++ m)) (c0 :: c1 :: c2 :: c3 :: c4 :: c5 :: c6 :: c7 :: m) := .there (.there (.there (.there (.there (.there (.there (.there .here)))))))
theorem Take.t9 {ms m c0 c1 c2 c3 c4 c5 c6 c7 c8} : Take ms (c0 :: c1 :: c2 :: c3 :: c4 :: c5 :: c6 :: c7 :: c8 :: (ms ++ m)) (c0 :: c1 :: c2 :: c3 :: c4 :: c5 :: c6 :: c7 :: c8 :: m) := .there (.there (.there (.there (.there (.there (.there (.there (.there .here))))))))
theorem Zbg.one1 {u:Value} (h:Zbg u):one1 u=true:=by obtain ⟨a,n,c,rfl⟩:=h; rfl
section
variable {α:Type} {m:List Zf} {E:El α} {v:Value} {xs:List α}
end
section
variable {α:Type} {C:Cfg} {m:List Zf} {t:TS} {K:KN} {E:El α} {v:Value} {xs:List α}
def Zi5 (E:El α) (u:Value) (xs:List α) (v:Value) (ys:List α) (ms:List Zf):Prop :=
 (∃ m2 m1,ms=m2++m1/\Z03 E v m2 ys/\Z03 E u m1 xs) ∨
 (∃ b o cp T cs,u = .slice (some ⟨b,o,none⟩) xs.length cp/\v = .slice (some ⟨b,o,none⟩) ys.length cp/\xs.length<=ys.length/\ys.length<=cp/\ms = [⟨b,.cells (cells cs).toArray T (0,0)⟩]/\o+cp*E.w<=width cs /\
  (∀ i,i<xs.length->∀ j,j<E.w->(cells cs)[o+(i*E.w+j)]? = (E.cell (xs.getD i E.z))[j]?) /\
  ∀ i,i<ys.length->∀ j,j<E.w->(cells cs)[o+(i*E.w+j)]? = (E.cell (ys.getD i E.z))[j]?)
theorem Zi5.refl {ms:List Zf} (h:Z03 E v ms xs):Zi5 E v xs v xs ms:=by
 rcases h with ⟨h1,h2,h3⟩ | ⟨b,o,cp,T,cs,h1,h2,h3,h4,h5⟩
 ·exact .inl ⟨[],[],by rw [h3]; rfl,.inl ⟨h1,h2,rfl⟩,.inl ⟨h1,h2,rfl⟩⟩
 ·exact .inr ⟨b,o,cp,T,cs,h1,h1,Nat.le_refl _,h2,h3,h4,h5,h5⟩
theorem Zi5.base {u:Value} {ys:List α} {ms:List Zf} (h:Zi5 E u xs v ys ms) : ∃ m1,Z03 E u m1 xs/\List.Sublist m1 ms:=by
 rcases h with ⟨m2,m1,h1,_,h3⟩ | ⟨b,o,cp,T,cs,h1,_,h2,h2',h3,h4,h5,_⟩
 ·exact ⟨m1,h3,by rw [h1]; exact List.sublist_append_right _ _⟩
 ·exact ⟨ms,.inr ⟨b,o,cp,T,cs,h1,by omega,h3,h4,h5⟩,List.Sublist.refl _⟩
theorem Zi5.own {u:Value} {ys:List α} {ms:List Zf} (h:Zi5 E u xs v ys ms) : ∃ m1,Z03 E v m1 ys/\List.Sublist m1 ms:=by
 rcases h with ⟨m2,m1,h1,h3,_⟩ | ⟨b,o,cp,T,cs,_,h1,_,h2,h3,h4,_,h5⟩
 ·exact ⟨m2,h3,by rw [h1]; exact List.sublist_append_left _ _⟩
 ·exact ⟨ms,.inr ⟨b,o,cp,T,cs,h1,h2,h3,h4,h5⟩,List.Sublist.refl _⟩
theorem Zi5.shp {u:Value} {ys:List α} {ms:List Zf} (h:Zi5 E u xs v ys ms):Shp v ys.length:=by
 obtain ⟨m1,h1,_⟩:=h.own; exact Shp.own h1
theorem Z01g {d:Nat} {T:TypeId} {bytes:Nat} {z:List Seg} {x y:Operand} {ms mr:List Zf} {u0 u:Value} {x0 ys xs':List α} (e:xs'=xs++ys) (hx:ev t x=some v) (hO:Zi5 E u0 x0 v xs ms) (hT:Take ms m mr) (hy:ev t y=some u) (hs:Zi6 C m E u ys)
  (hsz:decide ((xs.length+ys.length)*bytes<=140737488355328)=true) (h : ∀ v' ms',Zi5 E u0 x0 v' xs' ms'->K ((d,v')::t) (ms'++mr)):EF C m t (some d) (.app T E.w bytes z x y) K:=by
 rcases hO with ⟨m2,m1,rfl,h1,h2⟩ | ⟨b,o1,cp,T',cs,hu,h1,h20,h2,h3,h4,h50,h5⟩
 ·refine EF.perm hT.perm ?_
  have hs2:Zi6 C (m2++(m1++mr)) E u ys:=fun w' hw'=>hs w' (hw'.perm (by rw [<- List.append_assoc]; exact hT.perm.symm))
  rw [List.append_assoc]
  refine Z1m e hx h1 Take.here hy hs2 hsz fun v' ms' hO'=>?_
  have:=h v' (ms'++m1) (.inl ⟨ms',m1,rfl,hO',h2⟩)
  rwa [List.append_assoc] at this
 subst e
 have hsz:=of_decide_eq_true hsz
 intro o ho hd a ha w hw
 have hS:Zt7 C (ms++mr) E.w u ys.length (cellsOf E ys):=Zn2 (w:=w) (fun w' hw'=>hs w' (hw'.perm hT.perm.symm)) (hw.perm hT.perm)
 refine EF.perm hT.perm (EF.less (?_:EF C (ms++mr) t (some d) (.app T E.w bytes z x y) _)) o ho hd a ha w hw
 have hzw:width z=E.w:=by
  simp only [Z81] at ho
  split at ho
  ·simp only [Bool.and_eq_true,Nat.beq_eq] at ho
   exact ho.1.2
  ·cases ho
 subst h1; subst h3
 refine Zzh hx Has.here hy hS h4 h2 hsz (fun hr=>?_) (fun hg b' cp' hb' hc'=>?_)
 ·have hle:(xs.length+ys.length)*E.w<=cp*E.w:=Nat.mul_le_mul_right _ hr
  rw [Nat.add_mul] at hle
  have hin:o1+xs.length*E.w+(cellsOf E ys).length<=(cells cs).length:=by rw [Z0g,cells_length]; omega
  refine ⟨(Z0s (cells cs) (o1+xs.length*E.w) (cellsOf E ys)).map Seg.one,[⟨b,.cells (cells ((Z0s (cells cs) (o1+xs.length*E.w) (cellsOf E ys)).map Seg.one)).toArray T' (0,0)⟩]++mr,Z0y _,Upd.here,?_⟩
  refine ⟨_,h _ _ (.inr ⟨b,o1,cp,T',_,hu,by simp,by rw [List.length_append]; omega,by simpa using hr,rfl,?_,?_,?_⟩),List.Sublist.refl _⟩
  ·rw [Z56,Z0s,List.length_append,List.length_append,List.length_take,List.length_drop]
   rw [cells_length] at hin ⊢; omega
  ·intro i hi j hj
   rw [Z0y,Z8q hin,Z0g]
   have:i*E.w+E.w<=xs.length*E.w:=by rw [<- Nat.succ_mul]; exact Nat.mul_le_mul_right _ (by omega)
   rw [if_neg (by omega),h50 i hi j hj]
  ·intro i hi j hj
   rw [Z0y,Z8q hin,Z0g]
   rw [List.length_append] at hi
   by_cases hil:i<xs.length
   ·have:i*E.w+E.w<=xs.length*E.w:=by rw [<- Nat.succ_mul]; exact Nat.mul_le_mul_right _ hil
    rw [if_neg (by omega),Zae hil,h5 i hil j hj]
   ·have e1:i*E.w=xs.length*E.w+(i-xs.length)*E.w:=by rw [<- Nat.add_mul]; congr 1; omega
    have:(i-xs.length)*E.w+E.w<=ys.length*E.w:=by rw [<- Nat.succ_mul]; exact Nat.mul_le_mul_right _ (by omega)
    rw [if_pos (by omega),Zaf (by omega),show o1+(i*E.w+j)-(o1+xs.length*E.w)=(i-xs.length)*E.w+j by omega,Z42 (by omega) hj]
 ·have hle:xs.length*E.w<=cp*E.w:=Nat.mul_le_mul_right _ h2
  have hl1:(((cells cs).drop o1).take (xs.length*E.w)).length=xs.length*E.w:=by rw [List.length_take,List.length_drop,cells_length]; omega
  refine ⟨(((cells cs).drop o1).take (xs.length*E.w)++cellsOf E ys++(List.replicate (cp'-(xs.length+ys.length)) (cells z)).flatten).map Seg.one,Z0y _,?_⟩
  refine ⟨_,h _ ([⟨b',_⟩] ++ [⟨b,_⟩]) (.inl ⟨_,_,rfl,.inr ⟨b',0,cp',T,_,by simp,by simpa using hc',rfl,?_,?_⟩,.inr ⟨b,o1,cp,T',cs,hu,by omega,rfl,h4,h50⟩⟩),List.Sublist.refl _⟩
  ·rw [Z56,List.length_append,List.length_append,hl1,Z0g]
   simp only [List.length_flatten,List.map_replicate,List.sum_replicate_nat,cells_length,hzw,Nat.zero_add]
   rw [<- Nat.add_mul,<- Nat.add_mul]
   exact Nat.mul_le_mul_right _ (by omega)
  ·intro i hi j hj
   rw [List.length_append] at hi
   rw [Z0y,Nat.zero_add]
   by_cases hil:i<xs.length
   ·have:i*E.w+E.w<=xs.length*E.w:=by rw [<- Nat.succ_mul]; exact Nat.mul_le_mul_right _ hil
    rw [List.append_assoc,List.getElem?_append_left (by rw [hl1]; omega),List.getElem?_take_of_lt (by omega),List.getElem?_drop,h5 i hil j hj,Zae hil]
   ·have e1:i*E.w=xs.length*E.w+(i-xs.length)*E.w:=by rw [<- Nat.add_mul]; congr 1; omega
    have:(i-xs.length)*E.w+E.w<=ys.length*E.w:=by rw [<- Nat.succ_mul]; exact Nat.mul_le_mul_right _ (by omega)
    rw [List.append_assoc,List.getElem?_append_right (by rw [hl1]; omega),hl1,List.getElem?_append_left (by rw [Z0g]; omega),Zaf (by omega),show i*E.w+j-xs.length*E.w=(i-xs.length)*E.w+j by omega,Z42 (by omega) hj]
theorem EF.sub {d:Option Nat} {op:IOp} {m':List Zf} (h:EF C m' t d op K) (hs:List.Sublist m' m):EF C m t d op K :=
 fun o ho hd a ha w hw=>h o ho hd a ha w (hw.sublist hs)
def Zfz (E:El α) (v:Value) (ms:List Zf) (xs:List α):Prop:=∃ m1,Z03 E v m1 xs/\List.Sublist m1 ms
def Z4j (E:El α) (u:Value) (xs:List α) (v:Value) (ys:List α) (ms:List Zf):Prop:=∃ m1,Zi5 E u xs v ys m1/\List.Sublist m1 ms
theorem Z03.oin {ms:List Zf} (h:Z03 E v ms xs):Zfz E v ms xs:=⟨ms,h,List.Sublist.refl _⟩
theorem Zfz.grow {ms:List Zf} (h:Zfz E v ms xs):Z4j E v xs v xs ms:=by
 obtain ⟨m1,h1,h2⟩:=h; exact ⟨m1,Zi5.refl h1,h2⟩
theorem Z4j.base {u:Value} {ys:List α} {ms:List Zf} (h:Z4j E u xs v ys ms):Zfz E u ms xs:=by
 obtain ⟨m1,h1,h2⟩:=h
 obtain ⟨m0,h3,h4⟩:=h1.base
 exact ⟨m0,h3,h4.trans h2⟩
theorem Zfz.shp {ms:List Zf} (h:Zfz E v ms xs):Shp v xs.length:=by obtain ⟨_,h1,_⟩:=h; exact Shp.own h1
theorem Z4j.shp {u:Value} {ys:List α} {ms:List Zf} (h:Z4j E u xs v ys ms):Shp v ys.length:=by obtain ⟨_,h1,_⟩:=h; exact h1.shp
theorem Z0fa {u:Value} {ys:List α} {ms mr:List Zf} (h:Z4j E u xs v ys ms) (hT:Take ms m mr):Zi6 C m E v ys:=by
 obtain ⟨m1,h1,h2⟩:=h
 obtain ⟨m0,h3,h4⟩:=h1.own
 exact fun _ hw=>Z6v.own h3 ((hw.take hT).sublist (h4.trans h2))
theorem Zql {d:Nat} {T:TypeId} {bytes:Nat} {z:List Seg} {x y:Operand} {ms mr:List Zf} {u0 u:Value} {x0 ys xs':List α} (e:xs'=xs++ys) (hx:ev t x=some v) (hO:Z4j E u0 x0 v xs ms) (hT:Take ms m mr) (hy:ev t y=some u) (hs : ∀ w,Sat C.W0 C.S mr w->Z6v E w u ys)
  (hsz:decide ((xs.length+ys.length)*bytes<=140737488355328)=true) (h : ∀ v' ms',Z4j E u0 x0 v' xs' ms'->K ((d,v')::t) (ms'++mr)):EF C m t (some d) (.app T E.w bytes z x y) K:=by
 obtain ⟨m1,hG,hs1⟩:=hO
 refine EF.perm hT.perm (EF.sub (m':=m1++mr) ?_ (hs1.append_right mr))
 exact Z01g e hx hG Take.here hy (fun w hw=>hs w (hw.sublist (List.sublist_append_right _ _))) hsz fun v' ms' h'=>h v' ms' ⟨ms',h',List.Sublist.refl _⟩
end
def isW (want:Bool):Value->Bool
 | .bool b=>b==want
 | _=>false
theorem Z051 {want:Bool} {u:Value} (h:isW want u=false):u ≠ .bool want:=by
 rintro rfl; simp [isW] at h
theorem Zb1.lit {n:Nat} {t:TS} {a:Act} (h:Zb1 n t a) {tc:Nat} {c b:Bool} (hc:Sx.look t tc=some (.bool c)) (e:c=b):Zb1 n ((tc,.bool b)::t) a:=by
 subst e
 refine h.drop fun j v hj=>?_
 simp only [Sx.look] at hj
 by_cases e:Nat.beq tc j=true
 ·rw [e,cond_true] at hj
  rw [Nat.beq_eq] at e; subst e
  rw [hc]; exact hj
 ·rw [Bool.not_eq_true] at e; rw [e,cond_false] at hj; exact hj
section
variable {C:Cfg} {t:TS} {m m0:List Zf} {kn:KN} {op:IOp} {r:List J} {d:Option Nat} {tc i:Nat} {want bb:Bool} {late:List Nat} {rs:Sch}
theorem Z0o3 {r:List Zkk} (hc:look t tc=some (.bool want)) (h:EF C m t d op (fun t' m'=>WL C r t' m' kn)):WL C (⟨d,some (tc,want),op⟩::r) t m kn:=by
 intro ops lo hok ρ fu Q a w ha hw hcn
 cases lo with
 | nil=>simp [okL] at hok
 | cons o lo =>
  simp only [okL,Bool.and_eq_true] at hok
  obtain ⟨⟨⟨hd,hg⟩,ho⟩,hr⟩:=hok
  unfold wpListIn
  rw [if_pos (by rw [Zef hg ha hc]; simp)]
  refine Zey (Zpr ho) (Oper.wp_mono ?_ (Zwl (h o ho hd a ha w hw)))
  rintro a' w' ⟨t',m',hk,ha',hw'⟩
  exact hk ops lo hr ρ fu Q a' w' ha' hw' hcn
theorem Zyd {r:List Zkk} {d:Nat} {pre pre':TS} {u:Value} (hc:look (pre++t) tc=some u) (hu:isW want u=false) (h:QR C m t r ((d,undef)::pre) pre'):QR C m t (⟨some d,some (tc,want),op⟩::r) pre pre':=by
 intro ops lo hok
 cases lo with
 | nil=>simp [okL] at hok
 | cons o lo =>
  simp only [okL,Bool.and_eq_true] at hok
  obtain ⟨⟨⟨hd,hg⟩,ho⟩,hr⟩:=hok
  obtain ⟨hd1,hd2⟩:=Z3r hd
  refine ⟨undef,fun a ha=>.inr ⟨Zrs hg (by rw [ha.look _ _ hc]; exact Z051 hu),rfl⟩,?_⟩
  rw [hd1]
  exact Zfy.sub (fun a' ⟨a,ha,e⟩=>e▸ha.put hd2 undef) (h ops lo hr)
theorem Zoy {d:Nat} (hc:look t tc=some (.bool want)) (v:Value) (h1:Q1 C m t op v) (h:WJ C r ((d,v)::t) m kn):WJ C (.op ⟨some d,some (tc,want),op⟩::r) t m kn:=by
 unfold WJ at *; rw [J.flatL,J.flat]
 exact Zoz (l1:=[⟨some d,some (tc,want),op⟩]) (pre:=[(d,v)]) (Z000 (pre:=[]) v hc h1 Zra) h
theorem Z0g3 (hc:look t tc=some (.bool want)) (h:EF C m t d op (fun t' m'=>WJ C r t' m' kn)):WJ C (.op ⟨d,some (tc,want),op⟩::r) t m kn:=by
 unfold WJ at *; rw [J.flatL,J.flat]
 exact Z0o3 hc h
theorem Zfw {d:Nat} {u:Value} (hc:look t tc=some u) (hu:isW want u=false) (h:WJ C r ((d,undef)::t) m kn):WJ C (.op ⟨some d,some (tc,want),op⟩::r) t m kn:=by
 unfold WJ at *; rw [J.flatL,J.flat]
 exact Zoz (l1:=[⟨some d,some (tc,want),op⟩]) (pre:=[(d,undef)]) (Zyd (pre:=[]) hc hu Zra) h
theorem Z0g2 {β:Type} {r0:β} {a b:Option β} {c:Bool} (h:br c a b=some r0) (hc:look t tc=some (.bool c)) (ht:a=some r0->WJ C r ((tc,.bool true)::t) m kn) (hf:b=some r0->WJ C r ((tc,.bool false)::t) m kn):WJ C r t m kn:=by
 intro ops lo hok ρ fu Q a w ha hw hcn
 cases hcv:c with
 | true=>exact ht (br_t h hcv) ops lo hok ρ fu Q a w (ha.lit hc hcv) hw hcn
 | false=>exact hf (br_f h hcv) ops lo hok ρ fu Q a w (ha.lit hc hcv) hw hcn
theorem Zzs {x a b:Operand} {v:Value} (hc:ev t x=some (.bool true)) (ha:ev t a=some v):Q1 C m t (.pick x a b) v:=by
 cases hb:ev t b with
 | none=>exact Zjj (u:=v) hc (fun _=>ha) (fun h=>by cases h)
 | some u=>exact Zjj (u:=v) hc (fun _=>ha) (fun h=>by cases h)
theorem Zuu {x a b:Operand} {v:Value} (hc:ev t x=some (.bool false)) (hb:ev t b=some v):Q1 C m t (.pick x a b) v :=
 Zjj (u:=v) hc (fun h=>by cases h) (fun _=>hb)
theorem Zy5 {m m1 m2 M0 M1:List Zf} (h1:Take M0 m m1) (h2:Take M1 m1 m2):List.Perm ((M0++M1)++m2) m:=by
 rw [List.append_assoc]
 exact (h2.perm.append_left M0).trans h1.perm
theorem Zrj {W0:World} {S:List Nat} {w:World} (h:Sat W0 S m w) {M0 M1 mr:List Zf} (hp:List.Perm ((M0++M1)++mr) m):Sat w ((M0++M1).map (·.b)) (M0++(M1 ++ [])) w:=by
 rw [List.append_nil]; exact Zav h hp
end
theorem Zxa {P:Program} {o:Oper} {x:Operand} {args:List Operand} (h:Z81 P o (.cv x args)=true) : ∃ c,o.op = .call c/\c.callee = .value x/\c.args.toList=args:=by
 simp only [Z81] at h
 split at h
 ·rename_i c heq
  simp only [Bool.and_eq_true] at h
  obtain ⟨h1,h2⟩:=h
  split at h1
  ·rename_i y hc
   have:=Z06 h1; subst this
   exact ⟨c,heq,hc,Z5u h2⟩
  ·cases h1
 ·cases h
theorem Zxm {c:Call} {args:List Operand} {a:Act} {vs:List Value} (h:c.args.toList=args) (hv:args.map a.eval=vs):c.args.map a.eval=vs.toArray:=by
 rw [<- hv,<- h,<- Array.toList_map,Array.toArray_toList]
theorem Z03g {P:Program} {o:Oper} {x:Operand} {args:List Operand} {a:Act} {f:FuncId} {fn:Func} {caps:Array Value} {vs:List Value} {w:World} (h:Z81 P o (.cv x args)=true) (hx:a.eval x = .func (.func f) #[] caps) (hv:args.map a.eval=vs)
  (hf:P.funcs[f]? = some fn) (hb:fn.body.isSome=true) (hn:(fn.name == "runtime.NumGoroutine")=false):(execOp a.eval o).run P w = .ok (.enter f (vs.toArray++caps)) w:=by
 obtain ⟨c,heq,hc,ha⟩:=Zxa h
 have hn':fn.name ≠ "runtime.NumGoroutine" := by simpa using hn
 have hb2:fn.body≠none:=by intro e; rw [e] at hb; cases hb
 simp only [execOp,heq,resolve,hc,hx,Deferred.ofValue,Sem.run_bind,Sem.run_pure,Result.andThen_ok,invoke,Array.append_empty,Array.empty_append,Zxm ha hv,callFunc]
 simp [program,Sem.run,hf,hn',hb2]
abbrev ra (R:Loop) (s:LoopState) (p:Option Code):Loop:={ R with state:=s,pending:=p }
theorem q_mf {C:Cfg} {t:TS} {m:List Zf} {f:FuncId} {caps:List Operand} {vs:List Value} (hv:evL t caps=some vs):Q1 C m t (.mf f caps) (.func (.func f) #[] vs.toArray):=by
 intro o ho a ha w hw
 simp only [Z81] at ho
 split at ho
 ·rename_i f' first captured heq
  simp only [Bool.and_eq_true,Nat.beq_eq] at ho
  obtain ⟨⟨h1,h2⟩,h3⟩:=ho
  subst h1
  have h2':first = #[]:=by simpa using h2
  subst h2'
  have h3':=Z5u h3
  refine Z0d ?_
  have e:captured.map a.eval=vs.toArray:=by
   rw [<- ha.evL hv,<- h3',<- Array.toList_map,Array.toArray_toList]
  simp [execOp,heq,Instr.makeFunc,e]
 ·cases ho
section
variable {α:Type} {C:Cfg} {m:List Zf} {t:TS} {K:KN} {E:El α} {v:Value} {xs:List α}
end
def cvOk (P:Program) (f:FuncId):Bool:=match P.funcs[f]? with
 | some fn=>fn.body.isSome && !(fn.name == "runtime.NumGoroutine")
 | none=>false
section
variable {C:Cfg} {m:List Zf} {t:TS} {K:KN}
theorem Zvz {P:Program} {o:Oper} {x:Operand} {args:List Operand} {a:Act} {f:FuncId} {caps vs:List Value} {w:World} (hn:cvOk P f=true) (h:Z81 P o (.cv x args)=true) (hx:a.eval x = .func (.func f) #[] caps.toArray) (hv:args.map a.eval=vs) :
  (execOp a.eval o).run P w = .ok (.enter f (vs++caps).toArray) w:=by
 unfold cvOk at hn
 split at hn
 ·rename_i fn hf
  simp only [Bool.and_eq_true,Bool.not_eq_true'] at hn
  rw [Z03g h hx hv hf hn.1 hn.2]
  simp
 ·cases hn
theorem Z04n {d:Option Nat} {x:Operand} {f:FuncId} {args:List Operand} {vs caps:List Value} {mS mr:List Zf} {R:Value->List Zf->Prop} (hn:cvOk C.P f=true) (hx:ev t x=some (.func (.func f) #[] caps.toArray)) (ha:evL t args=some vs) (hp:List.Perm (mS++mr) m)
  (hc : ∀ w,Sat C.W0 C.S m w->Calls C.P f (vs++caps).toArray w (retM w (mS.map (·.b)) R))
  (h : ∀ v m',R v m'->K (Zv0 d v t) (m'++mr)):EF C m t d (.cv x args) K:=by
 intro o ho hd a hat w hw
 unfold Oper.wp
 rw [Zvz hn ho (hat.ev hx) (hat.evL ha)]
 simp only [Oper.upon]
 refine (hc w hw).mono ?_
 rintro e w' ⟨v,m',rfl,hR,hs⟩
 have hsat:=Zlq hw hp hs
 cases d with
 | none =>
  have hd0:o.dst=none:=by revert hd; cases o.dst <;> simp [okD]
  rw [hd0]
  exact ⟨_,_,h v m' hR,hat,hsat⟩
 | some d =>
  obtain ⟨hd1,hd2⟩:=Z3r hd
  rw [hd1]
  exact ⟨_,_,h v m' hR,hat.put hd2 v,hsat⟩
theorem Z04o {d:Option Nat} {x:Operand} {f:FuncId} {args:List Operand} {vs caps:List Value} {mS mr:List Zf} {R:Value->List Pc->Prop} (hn:cvOk C.P f=true) (hx:ev t x=some (.func (.func f) #[] caps.toArray)) (ha:evL t args=some vs) (hp:List.Perm (mS++mr) m)
  (hc : ∀ w,Sat C.W0 C.S m w->Calls C.P f (vs++caps).toArray w (Zd9 w (mS.map (·.b)) R))
  (h : ∀ v Ms,R v Ms->K (Zv0 d v t) (Zte Ms mr)):EF C m t d (.cv x args) K :=
 Z04n hn hx ha hp hc fun v m' ⟨Ms,e,hR⟩=>by subst e; rw [Zix]; exact h v Ms hR
theorem Zj4 {d:Option Nat} {x:Operand} {f:FuncId} {args:List Operand} {vs caps:List Value} {R:Value->List Pc->Prop} (hn:cvOk C.P f=true) (hx:ev t x=some (.func (.func f) #[] caps.toArray)) (ha:evL t args=some vs)
  (hc : ∀ w,Sat C.W0 C.S m w->Calls C.P f (vs++caps).toArray w (Zd9 w [] R))
  (h : ∀ v Ms,R v Ms->K (Zv0 d v t) (Zte Ms m)):EF C m t d (.cv x args) K :=
 Z04o (mS:=[]) hn hx ha (List.Perm.refl _) hc h
def Zwx (w:World) (b:Nat) (v:Value):Prop:=w.cell? ⟨b,0,none⟩=some v
def CapM (C:Cfg) (m:List Zf) (b:Nat) (v:Value):Prop:=∀ w,Sat C.W0 C.S m w->Zwx w b v
theorem Za2 {b:Nat} {v:Value} (h:Zwx C.W0 b v) (hS:b∉C.S):CapM C m b v:=by
 intro w hw
 have h1:=h
 unfold Zwx at h1 ⊢
 rw [<- h1]
 unfold World.cell?; simp only [hw.fr.block _ (Zm6 h1) hS]
theorem Zgw {b:Nat} {T:TypeId} {fz:Nat×Nat} {v:Value} {s:List Seg} (hb:Has b (.cells (cells (.one v::s)).toArray T fz) m):CapM C m b v:=by
 intro w hw
 have h:=hw.own _ hb.mem
 unfold Zwx
 simp only [World.cell?,h]
 simp [cells,Seg.cells]
theorem Zhw {x:Operand} {b:Nat} {v:Value} (hx:ev t x=some (.pointer (some ⟨b,0,none⟩))) (hs:CapM C m b v):Q1 C m t (.ld 1 false x) v:=by
 intro o ho a ha w hw
 refine Z0d ((Z4p ho (ha.ev hx) (l:=[v]) rfl (fun k hk=>?_) (fun _=>rfl)).trans rfl)
 obtain rfl:k=0:=by omega
 exact hs w hw
theorem Zho {d:Option Nat} {x:Operand} {f:FuncId} {args:List Operand} {vs caps:List Value} {v:Value} (hn:cvOk C.P f=true) (hx:ev t x=some (.func (.func f) #[] caps.toArray)) (ha:evL t args=some vs)
  (hc : ∀ w,Sat C.W0 C.S m w->Calls C.P f (vs++caps).toArray w (Z34 w v)) (h:K (Zv0 d v t) m):EF C m t d (.cv x args) K:=by
 intro o ho hd a hat w hw
 unfold Oper.wp
 rw [Zvz hn ho (hat.ev hx) (hat.evL ha)]
 simp only [Oper.upon]
 refine (hc w hw).mono ?_
 rintro e w' ⟨rfl,hb⟩
 cases d with
 | none =>
  have hd0:o.dst=none:=by revert hd; cases o.dst <;> simp [okD]
  rw [hd0]
  exact ⟨_,_,h,hat,hw.of_below hb⟩
 | some d =>
  obtain ⟨hd1,hd2⟩:=Z3r hd
  rw [hd1]
  exact ⟨_,_,h,hat.put hd2 v,hw.of_below hb⟩
end
section
variable {α:Type} {C:Cfg} {m:List Zf} {t:TS} {K:KN} {E:El α} {v:Value} {xs:List α}
theorem Z01j {d:Option Nat} {x y:Operand} {ms mr:List Zf} {u:Value} {ys xs':List α} (e:xs'=ys.take xs.length++xs.drop ys.length) (hx:ev t x=some v) (hO:Z03 E v ms xs) (hT:Take ms m mr) (hy:ev t y=some u) (hs:Zi6 C m E u ys)
  (h0:0<xs.length) (h : ∀ ms',Z03 E v ms' xs'->K (Zv0 d (.int .i64 ((Nat.min ys.length xs.length:Nat):Int)) t) (ms'++mr)):EF C m t d (.cpy E.w x y) K:=by
 intro o ho hd a ha w hw
 have hS:Zt7 C (ms++mr) E.w u ys.length (cellsOf E ys):=Zn2 (w:=w) (fun w' hw'=>hs w' (hw'.perm hT.perm.symm)) (hw.perm hT.perm)
 refine EF.perm hT.perm (?_:EF C (ms++mr) t d (.cpy E.w x y) K) o ho hd a ha w hw
 have hl':xs'.length=xs.length:=by rw [e,List.length_append,List.length_take,List.length_drop]; omega
 rcases hO with ⟨h1,h2,h3⟩ | ⟨b,o1,cp,T',cs,h1,h2,h3,h4,h5⟩
 ·subst h2; simp at h0
 ·subst h1; subst h3
  obtain ⟨n,hn⟩ : ∃ n,n=Nat.min ys.length xs.length:=⟨_,rfl⟩
  have hn1:n<=ys.length:=by rw [hn]; exact Nat.min_le_left _ _
  have hn2:n<=xs.length:=by rw [hn]; exact Nat.min_le_right _ _
  have hnw:n*E.w<=ys.length*E.w:=Nat.mul_le_mul_right _ hn1
  have hnx:n*E.w<=xs.length*E.w:=Nat.mul_le_mul_right _ hn2
  have hxc:xs.length*E.w<=cp*E.w:=Nat.mul_le_mul_right _ h2
  have hP:((cellsOf E ys).take (n*E.w)).length=n*E.w:=by rw [List.length_take,Z0g]; omega
  have hin:o1+((cellsOf E ys).take (n*E.w)).length<=(cells cs).length:=by rw [hP,cells_length]; omega
  have hk:=h [⟨b,.cells (cells ((Z0s (cells cs) o1 ((cellsOf E ys).take (n*E.w))).map Seg.one)).toArray T' (0,0)⟩] (.inr ⟨b,o1,cp,T',_,by rw [hl'],by rw [hl']; exact h2,rfl,?_,?_⟩)
  ·refine Ztw (w:=E.w) (dl:=xs.length) (dc:=cp) (b:=b) (off:=o1) (T:=T') (segs:=cs) (segs':=(Z0s (cells cs) o1 ((cellsOf E ys).take (n*E.w))).map Seg.one) (m':=[⟨b,.cells (cells ((Z0s (cells cs) o1 ((cellsOf E ys).take (n*E.w))).map Seg.one)).toArray T' (0,0)⟩]++mr) hx hy hS (by omega) ?_ Upd.here ?_
   ·rw [Z0y,hn]
   ·cases d <;> exact hk
  ·rw [Z56,Z0s,List.length_append,List.length_append,List.length_take,List.length_drop,hP,cells_length]
   have:=cells_length cs; omega
  ·intro i hi j hj
   rw [hl'] at hi
   rw [Z0y,Z8q hin,hP,e]
   by_cases hy2:i<ys.length
   ·have hin2:i<n:=by rw [hn]; exact Nat.lt_min.2 ⟨hy2,hi⟩
    have hle:i*E.w+E.w<=n*E.w:=by rw [<- Nat.succ_mul]; exact Nat.mul_le_mul_right _ hin2
    rw [if_pos (by omega),show o1+(i*E.w+j)-o1=i*E.w+j by omega,List.getElem?_take_of_lt (by omega),Z42 hy2 hj,Zae (by rw [List.length_take]; omega)]
    congr 2
    simp only [List.getD_eq_getElem?_getD,List.getElem?_take_of_lt hi]
   ·have hyn:n=ys.length:=hn.trans (Nat.min_eq_left (by omega))
    have hle:n*E.w<=i*E.w:=Nat.mul_le_mul_right _ (by omega)
    rw [if_neg (by omega),h5 i hi j hj,Zaf (by rw [List.length_take]; omega)]
    congr 2
    simp only [List.getD_eq_getElem?_getD,List.getElem?_drop,List.length_take]
    congr 2; omega
def cap3 (v:Value) (n:Nat):Value:=match v with
 | .slice (some a) _ _=>.slice (some a) n n
 | _=>.slice none 0 0
theorem Znv {ms:List Zf} {n:Nat} {cp2:Nat} {b o:Nat} (h:Z03 E (.slice (some ⟨b,o,none⟩) xs.length cp2) ms xs) (hn:n<=xs.length) {c3:Nat} (h1:n<=c3) (h2:c3<=cp2):Z03 E (.slice (some ⟨b,o,none⟩) n c3) ms (xs.take n):=by
 rcases h with ⟨h,_,_⟩ | ⟨b',o',cp,T,cs,he,hc,hm,hw,hcell⟩
 ·cases h
 ·injection he with e1 e2 e3
  injection e1 with e1
  injection e1 with e4 e5
  subst e4; subst e5; subst e3
  have hl:(xs.take n).length=n:=by rw [List.length_take]; omega
  refine .inr ⟨b,o,c3,T,cs,by rw [hl],by rw [hl]; exact h1,hm,?_,fun i hi j hj=>?_⟩
  ·have:=Nat.mul_le_mul_right E.w h2; omega
  ·rw [hl] at hi
   rw [hcell i (by omega) j hj]
   congr 2
   simp only [List.getD_eq_getElem?_getD,List.getElem?_take_of_lt hi]
theorem Zw5 {b o n w:Nat}:Z54 b o 0 n w=⟨b,o,none⟩:=by unfold Z54; split <;> simp
theorem Zn5.oneA {c:Zf} {M m m1:List Zf} (h1:Z41 c m m1) (h2:Zn5 M m1):Zn5 ([c]++M) m:=.one h1 h2
theorem Zzf {z:Int} {n:Nat} (h:Zfh 0 z n=true):z.toNat<=n:=by have:=Zj0 h; omega
theorem Zy2 {ms:List Zf} {n:Nat} (h:Z03 E v ms xs) (hn:n<=xs.length):Z03 E (Za7 E.w v 0 n) ms (xs.take n):=by
 rcases h with ⟨h1,h2,h3⟩ | ⟨b,o,cp,T,cs,he,hc,hm,hw,hcell⟩
 ·subst h1; subst h2; subst h3
  exact .inl ⟨rfl,by simp,rfl⟩
 ·subst he
  simp only [Za7,Zw5,Nat.sub_zero]
  exact Znv (.inr ⟨b,o,cp,T,cs,rfl,hc,hm,hw,hcell⟩) hn (by omega) (Nat.le_refl _)
theorem Zy1 {ms:List Zf} {n:Nat} (h:Z03 E v ms xs) (hn:n<=xs.length):Z03 E (cap3 v n) ms (xs.take n):=by
 rcases h with ⟨h1,h2,h3⟩ | ⟨b,o,cp,T,cs,he,hc,hm,hw,hcell⟩
 ·subst h1; subst h2; subst h3
  exact .inl ⟨rfl,by simp,rfl⟩
 ·subst he
  exact Znv (.inr ⟨b,o,cp,T,cs,rfl,hc,hm,hw,hcell⟩) hn (Nat.le_refl _) (by omega)
theorem Z0b4 {ms:List Zf} {x y1 y2:Operand} {w:Nat} {z:Int} (hO:Z03 E v ms xs) (hx:ev t x=some v) (h1:Zif t (0:Nat) (some y1) z) (h2:Zif t (0:Nat) (some y2) z) (hb:Zfh 0 z xs.length=true) :
  Q1 C m t (.sls w x none (some y1) (some y2)) (cap3 v z.toNat):=by
 obtain ⟨_,hz,hl⟩:=Zj0 hb
 have re : ∀ (n n':Int) (y:Operand),Zif t n (some y) z->Zif t n' (some y) z:=fun n n' y h=>by cases h; exact .yes ‹_›
 rcases hO with ⟨e1,e2,e3⟩ | ⟨b,o,cp,T,cs,he,hc,hm,hw,hcell⟩
 ·subst e1; subst e2
  obtain rfl:z=0:=by simp at hl; omega
  exact Zzz hx .no h1 h2 (fun _=>rfl) ⟨rfl,rfl,rfl⟩
 ·subst he
  have:=Z0b3 (C:=C) (m:=m) (w:=w) (lz:=0) (hz:=z) (mz:=z) hx .no (re _ _ _ h1) (re _ _ _ h2) (fun _=>rfl) ⟨Int.le_refl _,hz,Int.le_refl _,by omega⟩
  simpa [Zw5,cap3] using this
end
def Zt4 (s:ByteArray):List Int:=s.data.toList.map fun b=>(b.toNat:Int)
theorem Zgr (s:ByteArray):(Zt4 s).length=s.size:=by unfold Zt4; rw [List.length_map,Array.length_toList]; rfl
theorem Zrn {s:ByteArray} {i:Nat} (h:i<s.data.size):(Zt4 s).getD i 0=((s.data[i]).toNat:Int):=by
 unfold Zt4; rw [List.getD_eq_getElem?_getD,List.getElem?_map,Array.getElem?_toList,Array.getElem?_eq_getElem h]; rfl
section
variable {C:Cfg} {m:List Zf} {t:TS} {K:KN}
theorem Zv3 {x:Operand} {s:ByteArray} (h:ev t x=some (.string s)):Q1 C m t (.lens x) (.int .i64 s.size):=by
 intro o ho a ha w hw
 refine Z0d ?_
 simp only [Z81] at ho
 split at ho
 ·rename_i c heq
  simp only [Bool.and_eq_true] at ho
  obtain ⟨⟨h1,h2⟩,h3⟩:=ho
  split at h1
  ·rename_i hc
   split at h3
   ·rename_i he
    have hargs:c.args = #[x]:=by
     have:=Z5u h2
     rw [<- Array.toArray_toList (xs:=c.args),this]
    cases hT:c.argTypes[0]? with
    | none=>rw [hT] at he; cases he
    | some T =>
     rw [hT] at he
     have hu:C.P.underlying T=some .string:=he
     simp only [execOp,heq,resolve,hc,Sem.run_bind,Sem.run_pure,Result.andThen_ok,invoke,builtin,hargs]
     have hx:=ha.ev h
     simp [Builtin.len_,hT,hx,Zr hu,goInt]
   ·cases h3
  ·cases h1
 ·cases ho
theorem Z0b2 {x i:Operand} {s:ByteArray} {k:IntKind} {z:Int} (hx:ev t x=some (.string s)) (hi:ev t i=some (.int k z)) (hb:inB z s.size=true):Q1 C m t (.sidx x i) (.int .u8 ((Zt4 s).getD z.toNat 0)):=by
 obtain ⟨h0,h1⟩:=Z08 hb
 intro o ho a ha w hw
 refine Z0d ?_
 simp only [Z81] at ho
 split at ho
 ·rename_i T x' i' heq
  simp only [Bool.and_eq_true] at ho
  obtain ⟨⟨e1,e2⟩,h3⟩:=ho
  have e1:=Z06 e1; have e2:=Z06 e2
  subst e1; subst e2
  split at h3
  ·rename_i hu
   have hlt:z.toNat<s.size:=by omega
   have hs:s[z.toNat]? = some s[z.toNat]:=getElem?_pos s z.toNat hlt
   have hg:(Zt4 s).getD z.toNat 0=((s[z.toNat]).toNat:Int):=Zrn (show z.toNat<s.data.size from hlt)
   simp only [execOp,heq,ha.ev hx,ha.ev hi]
   refine Zau ?_
   rw [hg]
   simp [Instr.index,asIntOf,Zr hu,h0,hs]
  ·cases h3
 ·cases ho
theorem Z04q {d:Nat} {T:TypeId} {x:Operand} {s:ByteArray} (hx:ev t x=some (.string s)) (h : ∀ v ms,Zi6 C ms (El.int .u8) v (Zt4 s)->Shp v (Zt4 s).length->K ((d,v)::t) (ms++m)):EF C m t (some d) (.s2b T x) K:=by
 intro o ho hd a ha w hw
 obtain ⟨hd1,hd2⟩:=Z3r hd
 simp only [Z81] at ho
 split at ho
 ·rename_i S D x' heq
  simp only [Bool.and_eq_true] at ho
  obtain ⟨⟨e1,h2⟩,h3⟩:=ho
  have e1:=Z06 e1
  subst e1
  split at h2
  ·rename_i hs
   split at h3
   ·rename_i e hD
    simp only [Bool.and_eq_true] at h3
    obtain ⟨_,h4⟩:=h3
    split at h4
    ·rename_i he
     have hge:=grownCap_ge w s.size 0 e
     obtain ⟨cp,hcp⟩ : ∃ cp,cp=grownCap w s.size 0 e:=⟨_,rfl⟩
     have hr:(execOp a.eval o).run C.P w = .ok (.value (.slice (some ⟨w.heap.size,0,none⟩) s.size cp)) (w.drew.alloc (.cells (bytesRow s cp) e ((bytesRow s cp).size,(bytesRow s cp).size+1))):=by
      simp only [execOp,heq,ha.ev hx]
      rw [hcp]
      simp only [Sem.run_bind,run_bytes_of_string w S D e s hs hD he,Result.andThen_ok,Sem.run_pure]
     unfold Oper.wp
     rw [hr]
     simp only [Oper.upon]
     rw [hd1]
     refine ⟨_,_,h _ [⟨w.heap.size,.cells (bytesRow s cp) e ((bytesRow s cp).size,(bytesRow s cp).size+1)⟩] ?_ ?_,ha.put hd2 _,hw.drew.alloc _⟩
     ·intro w2 hw2
      have h5:=hw2.own _ (List.mem_cons_self ..)
      refine .inr (.inl ⟨w.heap.size,0,cp,by rw [Zgr],by rw [Zgr,hcp]; exact hge,fun i hi j hj=>?_⟩)
      obtain rfl:j=0:=by simp only at hj; omega
      rw [Zgr] at hi
      simp only [World.cell?,h5]
      show (bytesRow s cp)[0+(i*1+0)]? = some (Value.int .u8 ((Zt4 s).getD i 0))
      have hi':i<s.data.size:=hi
      rw [show 0+(i*1+0)=i by omega,Zrn hi']
      unfold bytesRow
      rw [Array.getElem?_append_left (by rw [Array.size_map]; exact hi'),Array.getElem?_map,Array.getElem?_eq_getElem hi']; rfl
     ·exact .inr (.inl ⟨w.heap.size,0,cp,by rw [Zgr],by rw [Zgr,hcp]; exact hge⟩)
    ·cases h4
   ·cases h3
  ·cases h2
 ·cases ho
end
end Go.Sx
