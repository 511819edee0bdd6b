/- Texts of a proof, one behind the other: E15 E16 E17 E18 E19 E20 E21 E22. -/
import Derived.Test.YtiflckckekjbnaaGreatDoorMX1
import Derived.Laws.Externs
import Derived.RangeFuncLeaves
import Derived.RangeFuncRecord
namespace Go.Sx
open Go Go.RowKit
set_option linter.all false
section
variable {C:Cfg} {m:List Zf} {t:TS} {K:KN}
theorem Zxp {k:IntKind} {N off n:Nat} {xs:List Int} (h:off+n<=N):((intsCells k N xs).drop off).take n=(tk xs off n).map (Value.int k):=by
 apply List.ext_getElem?
 intro j
 by_cases hj:j<n
 ·rw [List.getElem?_take_of_lt hj,List.getElem?_drop,Zsi,if_pos (by omega),List.getElem?_map,List.getElem?_eq_getElem (by rw [Z0x]; exact hj)]
  simp [tk]
 ·rw [List.getElem?_eq_none (by rw [List.length_take]; omega),List.getElem?_eq_none (by rw [List.length_map,Z0x]; omega)]
theorem Z0j6 {size:Nat} {b off n c:Nat} {cs:List Value} (hl:cs.length=n*size) (h1 : ∀ u∈cs,one1 u=true)
  (h : ∀ w,Sat C.W0 C.S m w->∀ i,i<n*size->w.cell? ⟨b,off+i,none⟩=cs[i]?):SrcV C m size (.slice (some ⟨b,off,none⟩) n c) n cs :=
 ⟨fun _=>rfl,fun w hw k hk=>Zme hl (h w hw) hk,hl,h1⟩
theorem Zu7 {w n:Nat} {g:Nat->List Value} (h : ∀ i,i<n->(g i).length=w /\ ∀ u∈g i,one1 u=true) : ∀ u∈Z1e w n g,one1 u=true:=by
 intro u hu
 unfold Z1e at hu
 obtain ⟨i,hi,hu⟩:=List.mem_flatMap.1 hu
 obtain ⟨h1,h2⟩:=h i (by simpa using hi)
 rw [Z9a h1] at hu
 exact h2 u hu
def ExtF (P:Program) (f:FuncId) (e:Array Value->Sem Value):Prop :=
 ∃ fn,P.funcs[f]? = some fn/\(fn.name == "runtime.NumGoroutine")=false/\fn.body.isNone=true/\Extern.findNext fn=none/\Extern.find fn=some e
theorem Zft {f:FuncId} {args:List Operand} {vs:List Value} {v:Value} {e:Array Value->Sem Value} (ha:evL t args=some vs) (he:ExtF C.P f e) (hr : ∀ w,(e vs.toArray).run C.P w = .ok v w):Q1 C m t (.xcall f args) v:=by
 intro o ho a hat w hw
 obtain ⟨fn,h1,h2,h3,h4,h5⟩:=he
 refine Z0v ?_
 simp only [Zaa] at ho
 split at ho
 ·rename_i c heq
  simp only [Bool.and_eq_true] at ho
  obtain ⟨ho1,ho2⟩:=ho
  have hc:c.callee = .value (.func f):=by
   revert ho1
   cases c.callee <;> simp
   rename_i x
   cases x <;> simp
  have hargs:c.args.map a.eval=vs.toArray:=by
   have e1:=Z7i ho2
   have e2:=hat.evL ha
   apply Array.ext'
   rw [Array.toList_map,e1,e2]
  have h6:=run_callFunc_extern (P:=C.P) h1 h2 h3 h4 h5 vs.toArray w
  rw [hr w] at h6
  have hev:a.eval (.func f) = .func (.func f) #[] #[]:=rfl
  simp only [execOp,heq,resolve,hc,hev,Deferred.ofValue,Sem.run_bind,Sem.run_pure,Result.andThen_ok,invoke,Array.append_empty,Array.empty_append,hargs]
  rw [h6]; rfl
 ·cases ho
def Zgn:Array Value->Sem Value:=fun args=>do
 let (x,y,b) <- Extern.MathBitsCarry.three "Sub64" args
 pure (Extern.MathBitsCarry.pair ((x+Extern.MathBitsCarry.m64-y-b)%Extern.MathBitsCarry.m64) (if x<y+b then 1 else 0))
theorem Zzi {P:Program} (x y c:Int) (hx:0<=x) (hy:0<=y) (hy2:y<18446744073709551616) (hc0:0<=c) (hc:c<=1) (w:World) :
  (Zgn #[.int .u64 x,.int .u64 y,.int .u64 c]).run P w = .ok (.tuple #[.int .u64 ((x-y-c)%18446744073709551616),.int .u64 (if x<y+c then 1 else 0)]) w:=by
 have key : ∀ k:Nat,k<=1->(Zgn #[.int .u64 x,.int .u64 y,.int .u64 (k:Int)]).run P w =
   .ok (Extern.MathBitsCarry.pair ((x.toNat+Extern.MathBitsCarry.m64-y.toNat-k)%Extern.MathBitsCarry.m64) (if x.toNat<y.toNat+k then 1 else 0)) w:=by
  intro k hk
  have:k=0∨k=1:=by omega
  rcases this with rfl | rfl <;> rfl
 obtain ⟨k,rfl⟩:=Int.eq_ofNat_of_zero_le hc0
 rw [key k (by omega)]
 obtain ⟨X,rfl⟩:=Int.eq_ofNat_of_zero_le hx
 obtain ⟨Y,rfl⟩:=Int.eq_ofNat_of_zero_le hy
 simp only [Extern.MathBitsCarry.pair,Extern.MathBitsCarry.m64,Int.toNat_natCast]
 have e1:Int.ofNat ((X+2^64-Y-k)%2^64)=((X:Int)-Y-k)%18446744073709551616:=by
  simp only [Int.ofNat_eq_natCast]; omega
 have e2:Int.ofNat (if X<Y+k then 1 else 0)=if (X:Int)<Y+k then 1 else 0:=by
  by_cases h:X<Y+k
  ·rw [if_pos h,if_pos (by omega)]; rfl
  ·rw [if_neg h,if_neg (by omega)]; rfl
 rw [e1,e2]
def ieq (n:Nat) (a b:List Int):Bool:=decide (tk a 0 n=tk b 0 n)
theorem Zxn {k:IntKind} {n:Nat} {a b:List Int}:ieq n a b=true↔cells [.ints k n a]=cells [.ints k n b]:=by
 simp only [ieq,decide_eq_true_eq,cells,Seg.cells,List.append_nil,Zxq]
 constructor
 ·intro h; rw [h]
 ·intro h
  refine List.map_inj_right (f:=Value.int k) (fun x y e=>?_) |>.1 h
  cases e; rfl
theorem Zgy {d:Nat} {T:TypeId} {z z':List Seg} (hz:cells z=cells z') (h : ∀ b,C.W0.heap.size<=b->K ((d,.pointer (some ⟨b,0,none⟩))::t) (ck b T z'::m)):EF C m t (some d) (.al T z) K :=
 Zv fun b hb=>by
  have:=h b hb
  unfold ck at this ⊢
  rw [hz]; exact this
theorem Z0pj {x:Operand} {b p base i len:Nat} {T:TypeId} {fz:Nat×Nat} {s:List Seg} {k:IntKind} {xs:List Int} (hx:ev t x=some (.pointer (some ⟨b,p,none⟩))) (hb:Has b (.cells (cells s).toArray T fz) m)
  (hs:Zes s base=some (.ints k len xs)) (hp:p=base+i) (hi:i<len):Q1 C m t (.ld 1 false x) (.int k (xs.getD i 0)) :=
 Z3e (base:=base) (i:=i) (by rw [hx,hp,Nat.mul_one]) hb hs hi
theorem Z098 {x y:Operand} {b p base i len:Nat} {T:TypeId} {s q:List Seg} {k:IntKind} {xs:List Int} {z:Int} {m':List Zf} (hx:ev t x=some (.pointer (some ⟨b,p,none⟩))) (hy:ev t y=some (.int k z))
  (hs:Zes s base=some (.ints k len xs)) (hp:p=base+i) (hi:i<len) (hq:Zen s base (.ints k len (Z2u xs i z))=some q)
  (hup:Upd b (.cells (cells s).toArray T (0,0)) (.cells (cells q).toArray T (0,0)) m m') (h:K t m'):EF C m t none (.st 1 x y) K :=
 Z03s (base:=base) (i:=i) (by rw [hx,hp,Nat.mul_one]) hy hs hi hq hup h
end
end Go.Sx
namespace Go.Sx
open Go Go.RowKit
open List (replicate)
set_option linter.all false
section
variable {α β:Type} {r:β} {G:Prop}
def bnd (x:α) (f:α->Option β):Option β:=f x
def chk (c:Bool) (o:Option β):Option β:=bif c then o else none
def opt (o:Option α) (f:α->Option β):Option β:=o.bind f
def jn {K:Type} (k:K) (g:K->Option β):Option β:=g k
def br (c:Bool) (a b:Option β):Option β:=bif c then a else b
@[irreducible] def big:Nat:=18446744073709551616
theorem Z1t:big=18446744073709551616:=by unfold big; rfl
theorem Z0k0 {x:α} {f:α->Option β} (h : ∀ z,z=x->f z=some r->G):bnd x f=some r->G:=fun e=>h x rfl e
theorem Z0k1 {c:Bool} {o:Option β} (h:c=true->o=some r->G):chk c o=some r->G:=by
 intro e; cases c
 ·simp [chk] at e
 ·exact h rfl e
theorem Z0pc {o:Option α} {f:α->Option β} (h : ∀ y,o=some y->f y=some r->G):opt o f=some r->G:=by
 intro e; cases o with
 | none=>simp [opt] at e
 | some y=>exact h y rfl e
theorem jn_i {K:Type} {k:K} {g:K->Option β} (h : ∀ k',k'=k->g k'=some r->G):jn k g=some r->G:=fun e=>h k rfl e
theorem br_t {c:Bool} {a b:Option β} (h:br c a b=some r) (hc:c=true):a=some r:=by subst hc; exact h
theorem br_f {c:Bool} {a b:Option β} (h:br c a b=some r) (hc:c=false):b=some r:=by subst hc; exact h
theorem Zt {a:β} (h:a=r->G):some a=some r->G:=fun e=>h (Option.some.inj e)
theorem Z0a:(none:Option β)=some r->G:=fun e=>by cases e
end
def inB (z:Int) (n:Nat):Bool:=decide (0<=z)&&decide (z<n)
theorem Z0j {z:Int} {n:Nat} (h:inB z n=true):0<=z/\z<n:=by simpa [inB] using h
theorem Z03 {z:Int} {n:Nat} (h:inB z n=true):z.toNat<n:=by have:=Z0j h; omega
def imp (a b:Bool):Bool := !a||b
theorem Zq8 {a b:Bool} (h:imp a b=true) (ha:a=true):b=true:=by subst ha; simpa [imp] using h
theorem Zll {a b:Bool} (h:imp (!a) b=true) (ha:a=false):b=true:=by subst ha; simpa [imp] using h
def Z97 (lo hi:Int) (n:Nat):Bool:=decide (0<=lo)&&decide (lo<=hi)&&decide (hi<=n)
theorem Zle {lo hi:Int} {n:Nat} (h:Z97 lo hi n=true):0<=lo/\lo<=hi/\hi<=n:=by simp [Z97] at h; omega
abbrev Zq (k:IntKind) (p q:Int):Int:=p.fdiv (2^min q.toNat k.bits)
abbrev Zl (k:IntKind) (p q:Int):Int:=k.wrap (p*2^min q.toNat k.bits)
def Zdu {α:Type} (z:α) (xs:List α) (i:Nat) (v:α):List α:=if i<xs.length then xs.set i v else xs++(replicate (i-xs.length) z ++ [v])
theorem Z4o {α:Type} (z:α) (xs:List α) (i j:Nat) (v:α):(Zdu z xs i v).getD j z=if j=i then v else xs.getD j z:=by
 unfold Zdu
 by_cases h:i<xs.length
 ·rw [if_pos h]
  by_cases hj:j=i
  ·subst hj; simp [List.getD,h]
  ·simp [List.getD,List.getElem?_set,hj,Ne.symm hj]
 ·rw [if_neg h]
  simp only [List.getD]
  by_cases hj:j<xs.length
  ·rw [List.getElem?_append_left hj,if_neg (by omega)]
  ·rw [List.getElem?_append_right (by omega)]
   by_cases hji:j=i
   ·subst hji; rw [List.getElem?_append_right (by simp)]; simp
   ·rw [if_neg hji,List.getElem?_eq_none (l:=xs) (by omega)]
    by_cases hlt:j<i
    ·rw [List.getElem?_append_left (by simp; omega),List.getElem?_replicate]; split <;> rfl
    ·rw [List.getElem?_eq_none (by simp; omega)]
theorem Za5 {α:Type} {z:α} {xs:List α} {i:Nat} {v:α} (h:i<xs.length):Zdu z xs i v=xs.set i v:=if_pos h
inductive Take (ms:List Zf):List Zf->List Zf->Prop
 | here {m:List Zf}:Take ms (ms++m) m
 | there {c:Zf} {m m':List Zf}:Take ms m m'->Take ms (c::m) (c::m')
 | app {ns m m':List Zf}:Take ms m m'->Take ms (ns++m) (ns++m')
inductive Z34 (c:Zf):List Zf->List Zf->Prop
 | here {m:List Zf}:Z34 c (c::m) m
 | there {c':Zf} {m m':List Zf}:Z34 c m m'->Z34 c (c'::m) (c'::m')
 | app {ns m m':List Zf}:Z34 c m m'->Z34 c (ns++m) (ns++m')
theorem Z024 (ms ns m:List Zf):List.Perm (ms++(ns++m)) (ns++(ms++m)):=by
 rw [<- List.append_assoc,<- List.append_assoc]
 exact List.Perm.append_right m List.perm_append_comm
theorem Take.perm {ms m m':List Zf} (h:Take ms m m'):List.Perm (ms++m') m:=by
 induction h with
 | here=>exact List.Perm.refl _
 | there _ ih=>exact List.perm_middle.trans (ih.cons _)
 | app _ ih=>exact (Z024 _ _ _).trans (List.Perm.append_left _ ih)
theorem Z34.perm {c:Zf} {m m':List Zf} (h:Z34 c m m'):List.Perm (c::m') m:=by
 induction h with
 | here=>exact List.Perm.refl _
 | there _ ih=>exact (List.Perm.swap _ _ _).trans (ih.cons _)
 | app _ ih=>exact (List.perm_middle.symm).trans (List.Perm.append_left _ ih)
inductive Zrw:List Zf->List Zf->Prop
 | nil {m:List Zf}:Zrw [] m
 | all {ms M m m1:List Zf}:Take ms m m1->Zrw M m1->Zrw (ms++M) m
 | one {c:Zf} {M m m1:List Zf}:Z34 c m m1->Zrw M m1->Zrw (c::M) m
 | no {M m:List Zf}:Zrw M m->Zrw ([]++M) m
theorem Zrw.rest {M m:List Zf} (h:Zrw M m) : ∃ r,List.Perm (M++r) m:=by
 induction h with
 | nil=>exact ⟨_,List.Perm.refl _⟩
 | all h1 _ ih =>
  obtain ⟨r,hr⟩:=ih
  exact ⟨r,by rw [List.append_assoc]; exact (List.Perm.append_left _ hr).trans h1.perm⟩
 | one h1 _ ih =>
  obtain ⟨r,hr⟩:=ih
  exact ⟨r,by rw [List.cons_append]; exact (hr.cons _).trans h1.perm⟩
 | no _ ih=>exact ih
theorem Sat.psub {W0:World} {S:List Nat} {M m:List Zf} {w:World} (h:Sat W0 S m w) (hs:Zrw M m):Sat W0 S M w:=by
 obtain ⟨r,hr⟩:=hs.rest
 exact (h.perm hr).sublist (List.sublist_append_left _ _)
theorem Sat.take {W0:World} {S:List Nat} {ms m m':List Zf} {w:World} (h:Sat W0 S m w) (hs:Take ms m m'):Sat W0 S ms w :=
 (h.perm hs.perm).sublist (List.sublist_append_left _ _)
structure Fit (T:TS) (M:List Zf) (t:TS) (m:List Zf):Prop where
 t:subT T t
 m:Zrw M m
section
variable {C:Cfg} {t:TS} {m:List Zf} {kn:KN} {ke:KE}
theorem Zk {c:IC} {T:TS} {M:List Zf} (hl:Fit T M t m) (h:WC C c T M kn ke):WC C c t m kn ke:=by
 intro hm c0 hok ρ fu Q a w ha hw hc
 exact h hm c0 hok ρ fu Q a w (ha.drop (Z000 hl.t)) (hw.psub hl.m) hc
theorem Zm {a:IC} {G:TS->List Zf->Prop} (h1:WC C a t m G ke) (h2 : ∀ t m,G t m->kn t m):WC C a t m kn ke:=h1.mono h2
theorem Zp {c:IC} (J:Nat->TS->List Zf->Prop) (n0:Nat) (h0:J n0 t m)
  (round : ∀ n t m,J n t m->WC C c t m (fun t' m'=>∃ n',n'<n/\J n' t' m') ke):WC C (.loop c) t m kn ke:=by
 intro hm c0 hok ρ fu Q a w ha hw hc
 cases c0 <;> first | (simp [okC] at hok; done) | skip
 rename_i c1
 simp only [okC] at hok
 refine Z00f (X:=Nat×TS×List Zf) (fun x a w=>J x.1 x.2.1 x.2.2/\Z91 C.n x.2.1 a/\Sat C.W0 C.S x.2.2 w) (fun x=>x.1) (x0:=(n0,t,m)) ⟨h0,ha,hw⟩ ?_
 rintro ⟨n,t1,m1⟩ a w ⟨hI,ha,hw⟩
 refine round n t1 m1 hI hm c1 hok ρ fu _ a w ha hw ⟨?_,hc.b,hc.r⟩
 rintro t' m' ⟨n',hlt,hJ⟩ a' w' ha' hw'
 exact ⟨(n',t',m'),⟨hJ,ha',hw'⟩,hlt⟩
end
structure El (α:Type) where
 w:Nat
 cell:α->List Value
 len : ∀ a,(cell a).length=w
 one : ∀ a,∀ v∈cell a,one1 v=true
 pos:0<w
 z:α
abbrev El.int (k:IntKind):El Int:=⟨1,fun x=>[.int k x],fun _=>rfl,fun _ v h=>by simp at h; subst h; rfl,by decide,0⟩
def Z90 {α:Type} (E:El α) (xs:List α):Nat->List Value:=fun i=>E.cell (xs.getD i E.z)
theorem Z82 : ∀ v∈cells [],one1 v=true:=fun v h=>by cases h
theorem Z30 {s:Seg} {r:List Seg} (h1 : ∀ v∈s.cells,one1 v=true) (h2 : ∀ v∈cells r,one1 v=true) : ∀ v∈cells (s::r),one1 v=true:=by
 intro v hv
 simp only [cells,List.mem_append] at hv
 exact hv.elim (h1 v) (h2 v)
theorem Z022 {u:Value} (h:one1 u=true) : ∀ v∈(Seg.one u).cells,one1 v=true:=by
 intro v hv; simp only [Seg.cells,List.mem_singleton] at hv; subst hv; exact h
theorem Z6z {k:IntKind} {n:Nat} {xs:List Int} : ∀ v∈(Seg.ints k n xs).cells,one1 v=true:=by
 intro v hv; simp only [Seg.cells,intsCells,List.mem_map] at hv; obtain ⟨_,_,rfl⟩:=hv; rfl
theorem Zbq {α:Type} {E:El α} {n:Nat} {xs:List α} : ∀ v∈(Seg.rows E.w n (Z90 E xs)).cells,one1 v=true:=by
 intro v hv
 exact Zu7 (w:=E.w) (n:=n) (g:=Z90 E xs) (fun i _=>⟨E.len _,E.one _⟩) v hv
theorem Z01e {α:Type} {E:El α} (x:α):fit E.w (E.cell x)=E.cell x:=Z9a (E.len x)
def RdSl {α:Type} (E:El α) (W:World) (v:Value) (xs:List α):Prop :=
 (v = .slice none 0 0/\xs = [])∨(∃ b o cp,v = .slice (some ⟨b,o,none⟩) xs.length cp/\xs.length<=cp /\ ∀ i,i<xs.length->∀ j,j<E.w->W.cell? ⟨b,o+(i*E.w+j),none⟩=(E.cell (xs.getD i E.z))[j]?) ∨ ∃ a,v = .slice (some a) 0 0/\xs = []
def Zit {α:Type} (C:Cfg) (m:List Zf) (E:El α) (v:Value) (xs:List α):Prop:=∀ w,Sat C.W0 C.S m w->RdSl E w v xs
def Z0m {α:Type} (E:El α) (v:Value) (ms:List Zf) (xs:List α):Prop :=
 (v = .slice none 0 0/\xs = []/\ms = []) ∨ ∃ b o cp T cs,v = .slice (some ⟨b,o,none⟩) xs.length cp/\xs.length<=cp/\ms = [⟨b,.cells (cells cs).toArray T (0,0)⟩]/\o+cp*E.w<=width cs /\
  ∀ i,i<xs.length->∀ j,j<E.w->(cells cs)[o+(i*E.w+j)]? = (E.cell (xs.getD i E.z))[j]?
theorem Z39 {α:Type} {E:El α}:Z0m E (.slice none 0 0) [] []:=.inl ⟨rfl,rfl,rfl⟩
theorem Zuk {α:Type} {E:El α} {W:World}:RdSl E W (.slice none 0 0) []:=.inl ⟨rfl,rfl⟩
theorem RdSl.own {α:Type} {E:El α} {v:Value} {ms:List Zf} {xs:List α} (h:Z0m E v ms xs) {W0:World} {S:List Nat} {w:World} (hw:Sat W0 S ms w):RdSl E w v xs:=by
 rcases h with ⟨h1,h2,h3⟩ | ⟨b,o,cp,T,cs,h1,h2,h3,h4,h5⟩
 ·exact .inl ⟨h1,h2⟩
 ·refine .inr (.inl ⟨b,o,cp,h1,h2,fun i hi j hj=>?_⟩)
  subst h3
  rw [Zcx (hw.own _ List.mem_cons_self),h5 i hi j hj]
theorem RdSl.same {α:Type} {E:El α} {W w:World} {v:Value} {xs:List α} (h:RdSl E W v xs) (hb : ∀ b o x,(∀ a n c,v = .slice (some a) n c->a.block=b)->W.cell? ⟨b,o,none⟩=some x->w.cell? ⟨b,o,none⟩=some x):RdSl E w v xs:=by
 rcases h with h | ⟨b,o,cp,h1,h2,h3⟩ | h
 ·exact .inl h
 rotate_left 1
 ·exact .inr (.inr h)
 ·refine .inr (.inl ⟨b,o,cp,h1,h2,fun i hi j hj=>?_⟩)
  have h4:=h3 i hi j hj
  have h5:j<(E.cell (xs.getD i E.z)).length:=by rw [E.len]; exact hj
  rw [List.getElem?_eq_getElem h5] at h4 ⊢
  exact hb b _ _ (fun a n c e=>by rw [h1] at e; injection e with e; injection e with e; rw [<- e]) h4
theorem Zlb {W:World} {b o:Nat} {x:Value} (h:W.cell? ⟨b,o,none⟩=some x):b<W.heap.size:=by
 rcases Nat.lt_or_ge b W.heap.size with h1 | h1
 ·exact h1
 ·have:W.heap[b]? = none:=Array.getElem?_eq_none h1
  simp [World.cell?,this] at h
theorem RdSl.below {α:Type} {E:El α} {W w:World} {v:Value} {xs:List α} (h:RdSl E W v xs) (hb:Below W.heap.size W w):RdSl E w v xs :=
 h.same fun b o x _ hx=>by rw [hb.cell (p:=⟨b,o,none⟩) (Zlb hx)]; exact hx
section
variable {α:Type} {C:Cfg} {m:List Zf} {t:TS} {K:KN} {E:El α} {v:Value} {xs:List α}
def Zad (v:Value) (xs:List α) (S:List Nat):Prop:=∀ a n c,v = .slice (some a) n c->0<xs.length->a.block∉S
theorem Z0d (h:RdSl E C.W0 v xs) (hS:Zad v xs C.S):Zit C m E v xs:=by
 intro w hw
 rcases h with h | ⟨b',o',cp,h1,h2,h3⟩ | h
 ·exact .inl h
 rotate_left 1
 ·exact .inr (.inr h)
 ·by_cases h0:0<xs.length
  ·refine RdSl.same (.inr (.inl ⟨b',o',cp,h1,h2,h3⟩)) fun b o x hb hx=>?_
   have e:=hb _ _ _ h1
   subst e
   rw [<- hx]
   unfold World.cell?; simp only [hw.fr.block _ (Zlb hx) (hS _ _ _ h1 h0)]
  ·exact .inr (.inl ⟨b',o',cp,h1,h2,fun i hi=>by omega⟩)
theorem Z0h:Zad v xs []:=fun _ _ _ _ _=>by simp
theorem Zew {W0 w:World} {ms m1:List Zf} {b:Nat} {o:Obj} {T:List Nat} (hO:Z0m E v ms xs) (hT:Take ms m m1) (hb:Has b o m1) (hw:Sat W0 T m w):Zad v xs [b]:=by
 rcases hO with ⟨h1,h2,h3⟩ | ⟨b1,o1,cp,T1,cs,h1,h2,h3,h4,h5⟩
 ·intro a n c e h0; subst h2; simp at h0
 ·intro a n c e h0
  subst h1
  injection e with e; injection e with e; subst e
  subst h3
  have hd:=(hw.perm hT.perm).dist
  simp only [List.cons_append,List.nil_append,List.map_cons,List.nodup_cons] at hd
  intro hm
  simp only [List.mem_singleton] at hm
  exact hd.1 (hm▸List.mem_map.2 ⟨_,hb.mem,rfl⟩)
theorem Zwn {W0 w:World} {b:Nat} {o:Obj} (h:RdSl E W0 v xs) (hb:Has b o m) (hw:Sat W0 [] m w):Zad v xs [b]:=by
 intro a n c e h0
 rcases h with ⟨h1,h2⟩ | ⟨b',o',cp,h1,h2,h3⟩ | ⟨_,_,h2⟩
 ·subst h2; simp at h0
 rotate_left 1
 ·subst h2; simp at h0
 ·rw [h1] at e
  injection e with e; injection e with e; subst e
  intro hm
  simp only [List.mem_singleton] at hm
  have h4:=h3 0 h0 0 E.pos
  have h5:0<(E.cell (xs.getD 0 E.z)).length:=by rw [E.len]; exact E.pos
  rw [List.getElem?_eq_getElem h5] at h4
  have:=Zlb h4
  rcases hw.base _ hb.mem with h6 | h6
  ·simp only at h6; omega
  ·simp at h6
theorem Zwo {W0 w:World} {b b' n c:Nat} {o:Obj} {c':Zf} {m1:List Zf} {T:List Nat} {a:Addr} (hT:Z34 c' m m1) (hb:Has b o m1) (hw:Sat W0 T m w) (ha:a.block=c'.b):Zad (.slice (some a) n c) xs [b]:=by
 intro a' n' c1 e h0
 injection e with e; injection e with e; subst e
 have hd:=(hw.perm hT.perm).dist
 simp only [List.map_cons,List.nodup_cons] at hd
 intro hm
 simp only [List.mem_singleton] at hm
 exact hd.1 (List.mem_map.2 ⟨_,hb.mem,by rw [<- ha,hm]⟩)
theorem Zay {b o l n w:Nat}:(Z4u b o l n w).block=b:=by unfold Z4u; split <;> rfl
theorem Z0f {ms mr:List Zf} (hO:Z0m E v ms xs) (hT:Take ms m mr):Zit C m E v xs:=fun _ hw=>RdSl.own hO (hw.take hT)
theorem Z07h {ms:List Zf} (hO:Z0m E v ms xs):Zit C ms E v xs:=fun _ hw=>RdSl.own hO hw
theorem Z0s2 {ms mr:List Zf} (h:Zit C ms E v xs) (hT:Take ms m mr):Zit C m E v xs:=fun w hw=>h w (hw.take hT)
theorem iz {k:IntKind} {z e:Int} {op:IOp} (h:z=e) (q:Q1 C m t op (.int k e)):Q1 C m t op (.int k z):=h▸q
def Z6t:Value->Addr
 | .slice (some a) _ _=>a
 | _=>⟨0,0,none⟩
theorem Z010 {W:World} {b o1:Nat} {j c n:Nat} {s p:List Seg} (h3 : ∀ k,k<E.w->W.cell? ⟨b,o1+(j*E.w+k),none⟩=(E.cell (xs.getD j E.z))[k]?) (hc:E.cell (xs.getD j E.z)=cells s) (hp:sub s c n=some p) (k:Nat) (hk:k<n) :
  W.cell? ⟨b,o1+j*E.w+c+k,none⟩=(cells p)[k]? := by
 obtain ⟨e1,e2,e3⟩:=Z9k hp
 have hw:width s=E.w:=by rw [<- cells_length,<- hc,E.len]
 have:=h3 (c+k) (by rcases e3 with e3 | e3 <;> omega)
 rw [show o1+j*E.w+c+k=o1+(j*E.w+(c+k)) by omega,this,hc,e1,List.getElem?_take_of_lt hk,List.getElem?_drop]
theorem Z0pi {n:Nat} {x:Operand} {j c:Nat} {s p:List Seg} (hx:ev t x=some (.pointer (some ⟨(Z6t v).block,(Z6t v).off+j*E.w+c,none⟩))) (hs:Zit C m E v xs) (hj:j<xs.length) (hc:E.cell (xs.getD j E.z)=cells s) (hp:sub s c n=some p) :
  Q1 C m t (.ld n true x) (agg p):=by
 intro o ho a ha w hw
 obtain ⟨e1,e2,e3⟩:=Z9k hp
 rcases hs w hw with ⟨h1,h2⟩ | ⟨b,o1,cp,h1,h2,h3⟩ | ⟨_,_,h2⟩
 ·subst h2; simp at hj
 rotate_left 1
 ·subst h2; simp at hj
 ·subst h1
  refine Z0v ?_
  rw [Z68 (l:=cells p) ho (ha.ev hx) (by rw [cells_length]; exact e2) (fun k hk=>Z010 (h3 j hj) hc hp k hk) (fun h=>by cases h)]
  rfl
theorem Zcc {n:Nat} {x:Operand} {j:Nat} {s p:List Seg} (hx:ev t x=some (.pointer (some ⟨(Z6t v).block,(Z6t v).off+j*E.w,none⟩))) (hs:Zit C m E v xs) (hj:j<xs.length) (hc:E.cell (xs.getD j E.z)=cells s) (hp:sub s 0 n=some p) :
  Q1 C m t (.ld n true x) (agg p):=Z0pi (c:=0) hx hs hj hc hp
theorem Zx3 {s:List Seg} {c:Nat} {u:Value} (h:Zhv s c=some u):c<width s:=by
 rw [Zhw] at h
 have:=(List.getElem?_eq_some_iff.1 h).1
 rwa [cells_length] at this
theorem Zyu {x:Operand} {j c:Nat} {s:List Seg} {u:Value} (hx:ev t x=some (.pointer (some ⟨(Z6t v).block,(Z6t v).off+j*E.w+c,none⟩))) (hs:Zit C m E v xs) (hj:j<xs.length) (hc:E.cell (xs.getD j E.z)=cells s) (hp:Zhv s c=some u) :
  Q1 C m t (.ld 1 false x) u:=by
 intro o ho a ha w hw
 rcases hs w hw with ⟨h1,h2⟩ | ⟨b,o1,cp,h1,h2,h3⟩ | ⟨_,_,h2⟩
 ·subst h2; simp at hj
 rotate_left 1
 ·subst h2; simp at hj
 ·subst h1
  refine Z0v ?_
  have hw:width s=E.w:=by rw [<- cells_length,<- hc,E.len]
  have hlt:=Zx3 hp
  rw [Z68 (l:=[u]) ho (ha.ev hx) rfl (fun k hk=>by
   obtain rfl:k=0:=by omega
   have:=h3 j hj c (by omega)
   simp only [Z6t,Nat.add_zero,List.getElem?_cons_zero]
   rw [show o1+j*E.w+c=o1+(j*E.w+c) by omega,this,hc,<- Zhw]
   exact hp) (fun _=>rfl)]
  rfl
theorem Z5e {x:Operand} {j:Nat} {s:List Seg} {u:Value} (hx:ev t x=some (.pointer (some ⟨(Z6t v).block,(Z6t v).off+j*E.w,none⟩))) (hs:Zit C m E v xs) (hj:j<xs.length) (hc:E.cell (xs.getD j E.z)=cells s) (hp:Zhv s 0=some u) :
  Q1 C m t (.ld 1 false x) u:=Zyu (c:=0) hx hs hj hc hp
theorem Z0f2 {k:IntKind} {n:Nat} {x:Operand} {ys:List Int} (hx:ev t x=some (.pointer (some ⟨(Z6t v).block,(Z6t v).off,none⟩))) (hs:Zit C m (El.int k) v ys) (h0:0<n) (hn:decide (n<=ys.length)=true) :
  Q1 C m t (.ld n true x) (agg [.ints k n (tk ys 0 n)]):=by
 intro o ho a ha w hw
 have hn:=of_decide_eq_true hn
 rcases hs w hw with ⟨h1,h2⟩ | ⟨b,o1,cp,h1,h2,h3⟩ | ⟨_,_,h2⟩
 ·subst h2; simp at hn; omega
 rotate_left 1
 ·subst h2; simp at hn; omega
 ·subst h1
  refine Z0v ?_
  rw [Z68 (l:=cells [.ints k n (tk ys 0 n)]) ho (ha.ev hx) (by rw [cells_length]; rfl) (fun i hi=>?_) (fun h=>by cases h)]
  ·rfl
  ·have:=h3 i (by omega) 0 (El.int k).pos
   simp only [Z6t,cells,Seg.cells,List.append_nil]
   simp only [Nat.mul_one,Nat.add_zero] at this
   rw [this,Z3o hi,Zpn,if_pos hi,Nat.zero_add]
   rfl
def Z53 (w:Nat) (v:Value) (lo hi:Nat):Value:=match v with
 | .slice (some ⟨b,o,none⟩) _ cp=>.slice (some (Z4u b o lo cp w)) (hi-lo) (cp-lo)
 | .slice (some a) n c=>.slice (some a) n c
 | _=>.slice none 0 0
theorem Zd0 {w:Nat} {a:Addr}:Z53 w (.slice (some a) 0 0) 0 0 = .slice (some a) 0 0:=by
 obtain ⟨b,o,sp⟩:=a
 cases sp with
 | none=>simp [Z53,Z4u]
 | some k=>rfl
theorem Z04d {w:Nat} {x:Operand} {lo hi:Option Operand} {lz hz:Int} {a3:Addr} (hx:ev t x=some (.slice (some a3) 0 0)) (hl:Zmq t 0 lo lz) (hh:Zmq t (0:Nat) hi hz)
  (hb:lz=0/\hz=0):Q1 C m t (.sls w x lo hi none) (.slice (some a3) 0 0):=by
 obtain ⟨rfl,rfl⟩:=hb
 intro o ho a ha wd hw
 refine Z0v ?_
 simp only [Zaa] at ho
 split at ho
 ·rename_i T x' lo' hi' mx' heq
  simp only [Bool.and_eq_true] at ho
  obtain ⟨⟨⟨⟨h1,h2⟩,h3⟩,h4⟩,h5⟩:=ho
  have e1:=Z0e h1; have e2:=Z4z h2; have e3:=Z4z h3; have e4:=Z4z h4
  subst e1; subst e2; subst e3; subst e4
  split at h5
  ·rename_i el hu
   simp only [execOp,heq,ha.ev hx]
   refine Zcp ?_
   simp only [Instr.sliceAt,Instr.slice,Sem.run_bind,Zw hu,Result.andThen_ok,Sem.run_pure,Z9g (isS:=true) (cap:=0) (mz:=0) ha hl hh .no (by simp) (by omega) (by omega) (by omega) (by omega),Z3k h5]
   simp
  ·cases h5
 ·cases ho
theorem Z085 {z:α} {ys:List α} {lo n i:Nat} (h:i<n) (hn:lo+n<=ys.length):((ys.drop lo).take n).getD i z=ys.getD (lo+i) z:=by
 simp only [List.getD,List.getElem?_take_of_lt h,List.getElem?_drop]
theorem Zuj {lz hz:Int} (hs:Zit C m E v xs) (hb:Z97 lz hz xs.length=true):Zit C m E (Z53 E.w v lz.toNat hz.toNat) ((xs.drop lz.toNat).take (hz.toNat-lz.toNat)):=by
 intro w hw
 have hb:=Zle hb
 have hlen:((xs.drop lz.toNat).take (hz.toNat-lz.toNat)).length=hz.toNat-lz.toNat:=by rw [List.length_take,List.length_drop]; omega
 rcases hs w hw with ⟨h1,h2⟩ | ⟨b,o1,cp,h1,h2,h3⟩ | ⟨a3,h1,h2⟩
 ·subst h1; subst h2
  simp only [List.length_nil] at hb
  exact .inl ⟨rfl,by simp⟩
 rotate_left 1
 ·subst h1; subst h2
  simp only [List.length_nil] at hb
  have e1:lz.toNat=0:=by omega
  have e2:hz.toNat=0:=by omega
  rw [e1,e2,Zd0]
  exact .inr (.inr ⟨a3,rfl,by simp⟩)
 ·subst h1
  by_cases hc:cp=lz.toNat
  ·refine .inr (.inl ⟨b,o1,cp-lz.toNat,?_,by omega,fun i hi=>?_⟩)
   ·simp only [Z53,Z4u,hlen,hc,if_true]
   ·omega
  ·refine .inr (.inl ⟨b,o1+lz.toNat*E.w,cp-lz.toNat,?_,by omega,fun i hi j hj=>?_⟩)
   ·simp only [Z53,Z4u,hlen,hc,if_false]
   ·rw [hlen] at hi
    rw [Z085 hi (by omega),<- h3 (lz.toNat+i) (by omega) j hj]
    congr 2
    rw [Nat.add_mul]; omega
theorem Z3q {b T base N lo hi mz:Nat} {fz:Nat×Nat} {s:List Seg} {k:IntKind} {ys:List Int} (hb:Has b (.cells (cells s).toArray T fz) m) (hs:Zes s base=some (.ints k N ys)) (h:lo<=hi/\hi<=mz/\mz<=N) :
  Zit C m (El.int k) (.slice (some (Z4u b base lo mz 1)) (hi-lo) (mz-lo)) (tk ys lo (hi-lo)):=by
 intro w hw
 by_cases hc:mz=lo
 ·refine .inr (.inl ⟨b,base,mz-lo,?_,by rw [Z0x]; omega,fun i hi=>?_⟩)
  ·simp only [Z4u,hc,if_true,Z0x]
  ·rw [Z0x] at hi; omega
 ·refine .inr (.inl ⟨b,base+lo*1,mz-lo,?_,by rw [Z0x]; omega,fun i hi j hj=>?_⟩)
  ·simp only [Z4u,hc,if_false,Z0x]
  ·rw [Z0x] at hi
   obtain rfl:j=0:=by simp only at hj; omega
   have hseg:=Za4 hs (lo+i) (by simp only [Seg.width]; omega)
   rw [Zpn,if_pos hi]
   have:=hw.own _ hb.mem
   have hcell:w.cell? ⟨b,base+(lo+i),none⟩=(cells s)[base+(lo+i)]? := by
    simp only [World.cell?,this]
    simp
   simp only [Nat.mul_one,Nat.add_zero]
   rw [show base+lo+i=base+(lo+i) by omega,hcell,hseg]
   simp only [Seg.cells]
   rw [Z3o (by omega)]
   rfl
theorem EF.perm {d:Option Nat} {op:IOp} {m':List Zf} (hp:List.Perm m' m) (h:EF C m' t d op K):EF C m t d op K :=
 fun o ho hd a ha w hw=>h o ho hd a ha w (hw.perm hp)
theorem Z85 {x y:Operand} {b off:Nat} {T:TypeId} {s q q':List Seg} {u:Value} {m':List Zf} (e:q'=q) (hx:ev t x=some (.pointer (some ⟨b,off,none⟩))) (hy:ev t y=some u) (hv:one1 u=true) (hq:putC s off u=some q')
  (hup:Upd b (.cells (cells s).toArray T (0,0)) (.cells (cells q).toArray T (0,0)) m m') (h:K t m'):EF C m t none (.st 1 x y) K:=by subst e; exact Zb4 hx hy hv hq hup h
theorem Z2l {x y:Operand} {b base i len:Nat} {T:TypeId} {s q:List Seg} {k:IntKind} {ys ys':List Int} {z:Int} {m':List Zf} (e:ys'=Z2u ys i z) (hx:ev t x=some (.pointer (some ⟨b,base+i*1,none⟩))) (hy:ev t y=some (.int k z))
  (hs:Zes s base=some (.ints k len ys)) (hi:i<len) (hq:Zen s base (.ints k len ys')=some q)
  (hup:Upd b (.cells (cells s).toArray T (0,0)) (.cells (cells q).toArray T (0,0)) m m') (h:K t m'):EF C m t none (.st 1 x y) K:=by subst e; exact Z03s hx hy hs hi hq hup h
theorem Z02v (ys:List α) (i:Nat) (y:α):Z90 E (Zdu E.z ys i y)=updR (Z90 E ys) i (E.cell y):=by
 funext j
 simp only [Z90,updR,Z4o]
 split <;> rfl
theorem Zlg {x y:Operand} {b base i len:Nat} {T:TypeId} {s q:List Seg} {u:Value} {y0:α} {ys ys':List α} {m':List Zf} (e:ys'=Zdu E.z ys i y0) (hx:ev t x=some (.pointer (some ⟨b,base+i*E.w,none⟩))) (hy:ev t y=some u) (hu:u.cells.toList=E.cell y0)
  (hs:Zes s base=some (.rows E.w len (Z90 E ys))) (hi:i<len) (hq:Zen s base (.rows E.w len (Z90 E ys'))=some q)
  (hup:Upd b (.cells (cells s).toArray T (0,0)) (.cells (cells q).toArray T (0,0)) m m') (h:K t m'):EF C m t none (.st E.w x y) K:=by
 subst e
 rw [Z02v] at hq
 obtain ⟨e1,e2,e3⟩:=Zfy hq
 have hw:=Zhm hs
 simp only [Seg.width] at hw e3
 have hle:i*E.w+E.w<=len*E.w:=by rw [<- Nat.succ_mul]; exact Nat.mul_le_mul_right E.w hi
 have hpl:(E.cell y0).length=E.w:=E.len y0
 have key:cells q=Z1j (cells s) (base+i*E.w) (E.cell y0):=by
  rw [e1]
  simp only [Seg.cells,Zph E.w len (Z90 E ys) i (E.cell y0) hi hpl]
  exact Ze9 (by rw [Z1w,cells_length]; omega) (by rw [Z1w]; omega) (fun j hj=>Za4 hs j (by rw [Z1w] at hj; exact hj))
 rw [key] at hup
 exact Znf hx hy (vs:=E.cell y0) hu hpl hup (by rw [cells_length]; omega) (E.one y0) h
theorem Z23 (l:List Value):cells (l.map Seg.one)=l:=by
 induction l with
 | nil=>rfl
 | cons a r ih=>simp [cells,Seg.cells,ih]
theorem Z6k (l:List Value):width (l.map Seg.one)=l.length:=by rw [<- cells_length,Z23]
def cellsOf (E:El α) (xs:List α):List Value:=Z1e E.w xs.length (Z90 E xs)
theorem Z0r:(cellsOf E xs).length=xs.length*E.w:=Z1w _ _ _
theorem Z5a {i j:Nat} (hi:i<xs.length) (hj:j<E.w):(cellsOf E xs)[i*E.w+j]? = (E.cell (xs.getD i E.z))[j]? := by
 unfold cellsOf
 rw [Z6j hi hj]
 simp only [Z90,Z01e]
theorem Zs6 : ∀ u∈cellsOf E xs,one1 u=true:=Zu7 fun i _=>⟨E.len _,E.one _⟩
theorem Zt2 {w:World} (hs:Zit C m E v xs) (hw:Sat C.W0 C.S m w):SrcV C m E.w v xs.length (cellsOf E xs):=by
 rcases hs w hw with ⟨h1,h2⟩ | ⟨b,o1,cp,h1,h2,h3⟩ | ⟨a3,h1,h2⟩
 ·subst h1; subst h2; exact Zuy
 rotate_left 1
 ·subst h1; subst h2; exact Zuy
 ·subst h1
  refine Z0j6 Z0r Zs6 fun w' hw' i hi=>?_
  rcases hs w' hw' with ⟨h1',_⟩ | ⟨b',o1',cp',h1',h2',h3'⟩ | ⟨_,_,h2'⟩
  ·cases h1'
  rotate_left 1
  ·subst h2'; simp at hi
  ·injection h1' with h1' _ h1c
   injection h1' with h1'
   injection h1' with hb ho _
   subst hb; subst ho
   have hp:=E.pos
   have hq:i / E.w<xs.length:=Nat.div_lt_of_lt_mul (by rw [Nat.mul_comm]; exact hi)
   have hr:=Nat.mod_lt i hp
   have he:i / E.w*E.w+i%E.w=i:=by have:=Nat.div_add_mod i E.w; rw [Nat.mul_comm] at this; exact this
   have:=h3' (i / E.w) hq (i%E.w) hr
   rw [he] at this
   rw [this,<- Z5a hq hr,he]
theorem Zhz {x y:Operand} {ms mr:List Zf} {i:Nat} {u:Value} {y0:α} {xs':List α} (e:xs'=Zdu E.z xs i y0) (hO:Z0m E v ms xs) (hT:Take ms m mr) (hx:ev t x=some (.pointer (some ⟨(Z6t v).block,(Z6t v).off+i*E.w,none⟩)))
  (hy:ev t y=some u) (hu:u.cells.toList=E.cell y0) (hi:i<xs.length) (h : ∀ ms',Z0m E v ms' xs'->K t (ms'++mr)):EF C m t none (.st E.w x y) K:=by
 refine EF.perm hT.perm ?_
 rcases hO with ⟨h1,h2,h3⟩ | ⟨b,o,cp,T,cs,h1,h2,h3,h4,h5⟩
 ·subst h2; simp at hi
 ·subst h1; subst h3; subst e
  have hle:i*E.w+E.w<=cp*E.w:=by rw [<- Nat.succ_mul]; exact Nat.mul_le_mul_right _ (by omega)
  have hpl:(E.cell y0).length=E.w:=E.len y0
  have hin:o+i*E.w+E.w<=(cells cs).length:=by rw [cells_length]; omega
  refine Znf (l:=cells cs) (vs:=E.cell y0) (T:=T) (m':=[⟨b,.cells (cells ((Z1j (cells cs) (o+i*E.w) (E.cell y0)).map Seg.one)).toArray T (0,0)⟩]++mr) hx hy hu hpl ?_ hin (E.one y0) (h _ (.inr ⟨b,o,cp,T,_,?_,?_,rfl,?_,?_⟩))
  ·rw [Z23]; exact Upd.here
  ·rw [Za5 hi,List.length_set]
  ·rw [Za5 hi,List.length_set]; exact h2
  ·rw [Z6k,Z1j,List.length_append,List.length_append,List.length_take,List.length_drop,hpl,cells_length]
   have:=cells_length cs; omega
  ·intro i' hi' j hj
   rw [Za5 hi,List.length_set] at hi'
   rw [Z23,Zbg (by rw [hpl]; exact hin),Z4o,hpl]
   by_cases hii:i'=i
   ·subst hii
    rw [if_pos (by omega),if_pos rfl]
    congr 1; omega
   ·rw [if_neg hii,if_neg ?_,h5 i' hi' j hj]
    intro hcon
    rcases Nat.lt_or_ge i' i with hl | hl
    ·have:i'*E.w+E.w<=i*E.w:=by rw [<- Nat.succ_mul]; exact Nat.mul_le_mul_right _ hl
     omega
    ·have:i*E.w+E.w<=i'*E.w:=by rw [<- Nat.succ_mul]; exact Nat.mul_le_mul_right _ (by omega)
     omega
theorem Zd3 {z:α} {ys:List α} {i:Nat} (h:i<xs.length):(xs++ys).getD i z=xs.getD i z:=by simp [List.getD,List.getElem?_append_left h]
theorem Zd4 {z:α} {ys:List α} {i:Nat} (h:xs.length<=i):(xs++ys).getD i z=ys.getD (i-xs.length) z:=by simp [List.getD,List.getElem?_append_right h]
theorem Z38 {d:Nat} {T:TypeId} {bytes:Nat} {z:List Seg} {x y:Operand} {ms mr:List Zf} {u:Value} {ys xs':List α} (e:xs'=xs++ys) (hx:ev t x=some v) (hO:Z0m E v ms xs) (hT:Take ms m mr) (hy:ev t y=some u) (hs:Zit C m E u ys)
  (hsz:decide ((xs.length+ys.length)*bytes<=140737488355328)=true) (h : ∀ v' ms',Z0m E v' ms' xs'->K ((d,v')::t) (ms'++mr)):EF C m t (some d) (.app T E.w bytes z x y) K:=by
 subst e
 have hsz:=of_decide_eq_true hsz
 intro o ho hd a ha w hw
 have hS:SrcV C (ms++mr) E.w u ys.length (cellsOf E ys):=Zt2 (w:=w) (fun w' hw'=>hs w' (hw'.perm hT.perm.symm)) (hw.perm hT.perm)
 refine EF.perm hT.perm (EF.less (?_:EF C (ms++mr) t (some d) (.app T E.w bytes z x y) _)) o ho hd a ha w hw
 have hzw:width z=E.w:=by
  simp only [Zaa] at ho
  split at ho
  ·simp only [Bool.and_eq_true,Nat.beq_eq] at ho
   exact ho.1.2
  ·cases ho
 rcases hO with ⟨h1,h2,h3⟩ | ⟨b,o1,cp,T',cs,h1,h2,h3,h4,h5⟩
 ·subst h1; subst h2; subst h3
  refine Z05w hx hy hS (by simpa using hsz) (fun h0=>?_) (fun h0 b' cp' hb' hc'=>?_)
  ·have hys:ys = []:=List.eq_nil_of_length_eq_zero h0
   subst hys
   exact ⟨_,h _ _ Z39,List.Sublist.refl _⟩
  ·refine ⟨(cellsOf E ys++(replicate (cp'-ys.length) (cells z)).flatten).map Seg.one,Z23 _,?_⟩
   refine ⟨_,h _ [⟨b',_⟩] (.inr ⟨b',0,cp',T,_,by simp,by simpa using hc',rfl,?_,?_⟩),List.Sublist.refl _⟩
   ·rw [Z6k,List.length_append,Z0r]
    simp only [List.length_flatten,List.map_replicate,List.sum_replicate_nat,cells_length,hzw,Nat.zero_add]
    rw [<- Nat.add_mul]
    exact Nat.mul_le_mul_right _ (by omega)
   ·intro i hi j hj
    simp only [List.nil_append] at hi ⊢
    have:i*E.w+E.w<=ys.length*E.w:=by rw [<- Nat.succ_mul]; exact Nat.mul_le_mul_right _ hi
    rw [Z23,Nat.zero_add,List.getElem?_append_left (by rw [Z0r]; omega),Z5a hi hj]
 ·subst h1; subst h3
  refine Z03p hx Has.here hy hS h4 h2 hsz (fun hr=>?_) (fun hg b' cp' hb' hc'=>?_)
  ·have hle:(xs.length+ys.length)*E.w<=cp*E.w:=Nat.mul_le_mul_right _ hr
   rw [Nat.add_mul] at hle
   have hin:o1+xs.length*E.w+(cellsOf E ys).length<=(cells cs).length:=by rw [Z0r,cells_length]; omega
   refine ⟨(Z1j (cells cs) (o1+xs.length*E.w) (cellsOf E ys)).map Seg.one,[⟨b,.cells (cells ((Z1j (cells cs) (o1+xs.length*E.w) (cellsOf E ys)).map Seg.one)).toArray T' (0,0)⟩]++mr,Z23 _,Upd.here,?_⟩
   refine ⟨_,h _ _ (.inr ⟨b,o1,cp,T',_,by simp,by simpa using hr,rfl,?_,?_⟩),List.Sublist.refl _⟩
   ·rw [Z6k,Z1j,List.length_append,List.length_append,List.length_take,List.length_drop]
    rw [cells_length] at hin ⊢; omega
   ·intro i hi j hj
    rw [Z23,Zbg hin,Z0r]
    rw [List.length_append] at hi
    by_cases hil:i<xs.length
    ·have:i*E.w+E.w<=xs.length*E.w:=by rw [<- Nat.succ_mul]; exact Nat.mul_le_mul_right _ hil
     rw [if_neg (by omega),Zd3 hil,h5 i hil j hj]
    ·have e1:i*E.w=xs.length*E.w+(i-xs.length)*E.w:=by rw [<- Nat.add_mul]; congr 1; omega
     have:(i-xs.length)*E.w+E.w<=ys.length*E.w:=by rw [<- Nat.succ_mul]; exact Nat.mul_le_mul_right _ (by omega)
     rw [if_pos (by omega),Zd4 (by omega),show o1+(i*E.w+j)-(o1+xs.length*E.w)=(i-xs.length)*E.w+j by omega,Z5a (by omega) hj]
  ·have hle:xs.length*E.w<=cp*E.w:=Nat.mul_le_mul_right _ h2
   have hl1:(((cells cs).drop o1).take (xs.length*E.w)).length=xs.length*E.w:=by rw [List.length_take,List.length_drop,cells_length]; omega
   refine ⟨(((cells cs).drop o1).take (xs.length*E.w)++cellsOf E ys++(replicate (cp'-(xs.length+ys.length)) (cells z)).flatten).map Seg.one,Z23 _,?_⟩
   refine ⟨_,h _ [⟨b',_⟩] (.inr ⟨b',0,cp',T,_,by simp,by simpa using hc',rfl,?_,?_⟩),List.Sublist.cons₂ _ (List.sublist_cons_self _ _)⟩
   ·rw [Z6k,List.length_append,List.length_append,hl1,Z0r]
    simp only [List.length_flatten,List.map_replicate,List.sum_replicate_nat,cells_length,hzw,Nat.zero_add]
    rw [<- Nat.add_mul,<- Nat.add_mul]
    exact Nat.mul_le_mul_right _ (by omega)
   ·intro i hi j hj
    rw [List.length_append] at hi
    rw [Z23,Nat.zero_add]
    by_cases hil:i<xs.length
    ·have:i*E.w+E.w<=xs.length*E.w:=by rw [<- Nat.succ_mul]; exact Nat.mul_le_mul_right _ hil
     rw [List.append_assoc,List.getElem?_append_left (by rw [hl1]; omega),List.getElem?_take_of_lt (by omega),List.getElem?_drop,h5 i hil j hj,Zd3 hil]
    ·have e1:i*E.w=xs.length*E.w+(i-xs.length)*E.w:=by rw [<- Nat.add_mul]; congr 1; omega
     have:(i-xs.length)*E.w+E.w<=ys.length*E.w:=by rw [<- Nat.succ_mul]; exact Nat.mul_le_mul_right _ (by omega)
     rw [List.append_assoc,List.getElem?_append_right (by rw [hl1]; omega),hl1,List.getElem?_append_left (by rw [Z0r]; omega),Zd4 (by omega),show i*E.w+j-xs.length*E.w=(i-xs.length)*E.w+j by omega,Z5a (by omega) hj]
def mkB (bytes:Nat) (L N:Int):Bool:=decide (0<=L)&&decide (L<=N)&&decide ((bytes:Int)*N<=281474976710656)&&decide (N<=9223372036854775807)
theorem Zj0 {d:Nat} {T:TypeId} {bytes:Nat} {z:List Seg} {l c:Operand} {kl kc:IntKind} {L N:Int} (hz:cells z=E.cell E.z)
  (hl:ev t l=some (.int kl L)) (hc:ev t c=some (.int kc N)) (hB:mkB bytes L N=true)
  (h : ∀ v ms,Z0m E v ms (replicate L.toNat E.z)->K ((d,v)::t) (ms++m)):EF C m t (some d) (.mks T bytes z l c) K:=by
 simp only [mkB,Bool.and_eq_true,decide_eq_true_eq] at hB
 obtain ⟨⟨⟨h0,h1⟩,h2⟩,h3⟩:=hB
 refine Z097 hl hc h0 h1 h2 h3 fun b hb=>?_
 refine ⟨(replicate N.toNat (cells z)).flatten.map Seg.one,Z23 _,?_⟩
 have hw:(cells z).length=E.w:=by rw [hz,E.len]
 refine h _ [⟨b,_⟩] (.inr ⟨b,0,N.toNat,T,_,by simp,by simp; omega,rfl,?_,?_⟩)
 ·rw [Z6k]
  simp only [List.length_flatten,List.map_replicate,List.sum_replicate_nat,hw,Nat.zero_add]
  exact Nat.le_refl _
 ·intro i hi j hj
  rw [List.length_replicate] at hi
  have e:(replicate N.toNat (cells z)).flatten=Z1e E.w N.toNat (fun _=>cells z):=(Znw hw).symm
  rw [Z23,Nat.zero_add,e,Z6j (by omega) hj,<- hw,Z9a rfl,hz]
  simp [List.getD,List.getElem?_replicate,hi]
inductive Bs (E:El α):List α->List Seg->Prop
 | nil:Bs E [] []
 | cons {x:α} {ys:List α} {p q:List Seg}:cells p=E.cell x->Bs E ys q->Bs E (x::ys) (p++q)
theorem Bs.get {q:List Seg} (h:Bs E xs q):width q=xs.length*E.w /\ ∀ i,i<xs.length->∀ j,j<E.w->(cells q)[i*E.w+j]? = (E.cell (xs.getD i E.z))[j]? := by
 induction h with
 | nil=>exact ⟨by simp [width],fun i hi=>by simp at hi⟩
 | @cons x ys p q hc _ ih =>
  have hp:width p=E.w:=by rw [<- cells_length,hc,E.len]
  refine ⟨by rw [Zkd,ih.1,hp,List.length_cons,Nat.succ_mul]; omega,fun i hi j hj=>?_⟩
  rw [Zex]
  cases i with
  | zero =>
   rw [List.getElem?_append_left (by rw [cells_length,hp]; omega),hc]
   simp
  | succ i =>
   rw [List.length_cons] at hi
   rw [List.getElem?_append_right (by rw [cells_length,hp,Nat.succ_mul]; omega),cells_length,hp,show (i+1)*E.w+j-E.w=i*E.w+j by rw [Nat.succ_mul]; omega,ih.2 i (by omega) j hj]
   simp
theorem Z5m {d:Nat} {T:TypeId} {len:Nat} {z q:List Seg} {parts:List (Nat×Nat×Operand)} (hb:BdR t z parts q) (hB:Bs E xs q) (hl:xs.length=len)
  (h : ∀ v ms,Z0m E v ms xs->K ((d,v)::t) (ms++m)):EF C m t (some d) (.bs T len E.w z parts) K:=by
 subst hl
 refine Z0k5 hb fun b hb'=>?_
 obtain ⟨h1,h2⟩:=hB.get
 refine h _ [⟨b,_⟩] (.inr ⟨b,0,xs.length,T,q,rfl,Nat.le_refl _,rfl,by rw [h1]; omega,fun i hi j hj=>?_⟩)
 rw [Nat.zero_add]; exact h2 i hi j hj
theorem Zs5 {k:IntKind} {ys:List Int}:cellsOf (El.int k) ys=ys.map (.int k):=by
 apply List.ext_getElem?
 intro i
 by_cases hi:i<ys.length
 ·have:=Z5a (E:=El.int k) (xs:=ys) (i:=i) (j:=0) hi (El.int k).pos
  simp only [Nat.mul_one,Nat.add_zero] at this
  rw [this]
  simp [List.getD,List.getElem?_eq_getElem hi]
 ·rw [List.getElem?_eq_none (by rw [Z0r]; simp only [Nat.mul_one]; omega),List.getElem?_eq_none (by rw [List.length_map]; omega)]
theorem Zol {d:Option Nat} {x y:Operand} {b T base lo hi mz N:Nat} {s q:List Seg} {k:IntKind} {zs zs' ys:List Int} {u:Value} {m':List Zf} (e:zs'=wr zs lo (ys.take (hi-lo)))
  (hx:ev t x=some (.slice (some (Z4u b base lo mz 1)) (hi-lo) (mz-lo))) (hy:ev t y=some u) (hu:Zit C m (El.int k) u ys) (hs:Zes s base=some (.ints k N zs)) (hb:lo<=hi/\hi<=mz/\mz<=N)
  (hq:Zen s base (.ints k N zs')=some q) (hup:Upd b (.cells (cells s).toArray T (0,0)) (.cells (cells q).toArray T (0,0)) m m')
  (h:K (putT d (.int .i64 (Nat.min ys.length (hi-lo):Nat)) t) m'):EF C m t d (.cpy 1 x y) K:=by
 subst e
 intro o ho hd a ha w hw
 have hS:=Zt2 hu hw
 rw [Zs5] at hS
 obtain ⟨e1,e2,e3⟩:=Zfy hq
 have hsw:=Zhm hs
 simp only [Seg.width] at hsw e3
 have hseg : ∀ j,j<(intsCells k N zs).length->(cells s)[base+j]? = (intsCells k N zs)[j]? := fun j hj=>Za4 hs j (by rw [Z1f] at hj; exact hj)
 have hlen:(ys.take (hi-lo)).length=Nat.min ys.length (hi-lo):=by rw [List.length_take]; exact Nat.min_comm _ _
 have hmin:Nat.min ys.length (hi-lo)<=hi-lo:=Nat.min_le_right _ _
 have key:cells q=Z1j (cells s) (base+lo) ((ys.take (hi-lo)).map (.int k)):=by
  rw [e1]
  have hwr:intsCells k N (wr zs lo (ys.take (hi-lo)))=Z1j (intsCells k N zs) lo ((ys.take (hi-lo)).map (.int k)):=by
   have:=Z03j (k:=k) (N:=N) (i:=lo) (xs:=zs) (ys:=ys.take (hi-lo)) (by rw [hlen]; omega)
   simpa [cells,Seg.cells] using this
  simp only [Seg.cells,hwr]
  exact Ze9 (by rw [Z1f,cells_length]; omega) (by rw [Z1f,List.length_map,hlen]; omega) hseg
 have hke : ∀ d':Option Nat,K (putT d' (.int .i64 (Nat.min ys.length (hi-lo):Nat)) t) m'->K (match d' with | some d=>(d,.int .i64 (Nat.min ys.length (hi-lo):Nat))::t | none=>t) m':=by
  intro d' hk; cases d' <;> exact hk
 by_cases hc:mz=lo
 ·have h0:hi=lo:=by omega
  refine Z03r (w:=1) (dl:=hi-lo) (dc:=mz-lo) (b:=b) (off:=base) (T:=T) (segs:=s) (segs':=q) (m':=m') (by rw [hx]; simp only [Z4u,hc,if_true]) hy hS (by rw [h0]; omega) ?_ hup (hke d h) o ho hd a ha w hw
  rw [key,h0]
  simp [Z1j]
 ·refine Z03r (w:=1) (dl:=hi-lo) (dc:=mz-lo) (b:=b) (off:=base+lo) (T:=T) (segs:=s) (segs':=q) (m':=m') (by rw [hx]; simp only [Z4u,hc,if_false,Nat.mul_one]) hy hS (by omega) ?_ hup (hke d h) o ho hd a ha w hw
  rw [key]
  congr 1
  rw [<- List.map_take,Nat.mul_one]
  congr 1
  apply List.ext_getElem?
  intro i
  simp only [List.getElem?_take]
  by_cases h1:i<ys.length
  ·by_cases h2:i<hi-lo
   ·rw [if_pos h2,if_pos (Nat.lt_min.2 ⟨h1,h2⟩)]
   ·rw [if_neg h2,if_neg (fun h3=>h2 (Nat.lt_min.1 h3).2)]
  ·rw [List.getElem?_eq_none (l:=ys) (by omega)]
   split <;> split <;> rfl
theorem az {τ:Type} (f:τ->Value) {z e:τ} {op:IOp} (h:z=e) (q:Q1 C m t op (f e)):Q1 C m t op (f z):=h▸q
theorem Z0iu {W:World} {lz hz:Int} (h:RdSl E W v xs) (hb:Z97 lz hz xs.length=true):RdSl E W (Z53 E.w v lz.toNat hz.toNat) ((xs.drop lz.toNat).take (hz.toNat-lz.toNat)) :=
 Zuj (C:=⟨default,0,W,[]⟩) (m:=[]) (fun w hw=>h.below hw.now) hb W (Zh8 W)
theorem Zwp {S:List Nat} {w lo hi n:Nat} (h:Zad v xs S):Zad (Z53 w v lo hi) ((xs.drop lo).take n) S:=by
 intro a k c e h0
 have hx:0<xs.length:=by
  rw [List.length_take,List.length_drop] at h0
  omega
 unfold Z53 at e
 split at e
 ·injection e with e; injection e with e; subst e
  rw [Zay]
  exact h _ _ _ rfl hx
 ·injection e with e; injection e with e; subst e
  exact h _ _ _ rfl hx
 ·cases e
theorem Z04i {W:World} {S:List Nat} {lz hz:Int} (h:RdSl E W v xs/\Zad v xs S) (hb:Z97 lz hz xs.length=true) :
  RdSl E W (Z53 E.w v lz.toNat hz.toNat) ((xs.drop lz.toNat).take (hz.toNat-lz.toNat))/\Zad (Z53 E.w v lz.toNat hz.toNat) ((xs.drop lz.toNat).take (hz.toNat-lz.toNat)) S :=
 ⟨Z0iu h.1 hb,Zwp h.2⟩
theorem cpy0 {zs' zs ys:List Int} {n:Nat} (e:zs'=wr zs 0 (ys.take n)):zs'=wr zs 0 (ys.take (n-0)):=e
theorem cut4 {lo hi:Int} {n:Nat} (h:Z97 lo hi n=true):0<=lo/\lo<=hi/\hi<=(n:Int)/\(n:Int)<=(n:Int):=by have:=Zle h; omega
theorem cutn {lo hi:Int} {n:Nat} (h:Z97 lo hi n=true):lo.toNat<=hi.toNat/\hi.toNat<=n/\n<=n:=by have:=Zle h; omega
theorem getD_some {τ:Type} {o:Option τ} {z:τ} (h:o.isSome=true):o=some (o.getD z):=by cases o <;> simp_all
theorem Zlf {n:Nat} {x y:Operand} {b off:Nat} {T:TypeId} {s p q:List Seg} {m':List Zf} (hx:ev t x=some (.pointer (some ⟨b,off,none⟩))) (hy:ev t y=some (agg p)) (hn:width p=n) (hq:putL s off p=some q) (hsc : ∀ v∈cells p,one1 v=true)
  (hup:Upd b (.cells (cells s).toArray T (0,0)) (.cells (cells q).toArray T (0,0)) m m') (h:K t m'):EF C m t none (.st n x y) K:=by
 obtain ⟨e1,e2,e3⟩:=Zgd hq
 rw [e1] at hup
 exact Znf hx hy (vs:=cells p) (by simp [agg,Value.cells]) (by rw [cells_length]; exact hn) hup (by rw [cells_length]; omega) hsc h
theorem Zm7 {n:Nat} {x:Operand} {b base i w len:Nat} {T:TypeId} {fz:Nat×Nat} {s q p:List Seg} {g:Nat->List Value} (hx:ev t x=some (.pointer (some ⟨b,base+i*w,none⟩))) (hb:Has b (.cells (cells s).toArray T fz) m)
  (hs:Zes s base=some (.rows w len g)) (hi:i<len) (hq:g i=cells q) (hw:width q=w) (hp:sub q 0 n=some p):Q1 C m t (.ld n true x) (agg p):=Z06w (c:=0) hx hb hs hi hq hw hp
theorem Zc7 {c1 c2:Bool} {s s':Seg} {r r':List Seg} (hw:s.width=s'.width) (h1:c1=true↔s.cells=s'.cells) (h2:c2=true↔cells r=cells r'):(c1&&c2)=true↔cells (s::r)=cells (s'::r'):=by
 rw [Bool.and_eq_true,h1,h2]
 simp only [cells]
 constructor
 ·rintro ⟨h,h'⟩; rw [h,h']
 ·intro h
  exact List.append_inj h (by rw [Seg.cells_length,Seg.cells_length,hw])
theorem Z63 {c:Bool} {s s':Seg} (h:c=true↔s.cells=s'.cells):c=true↔cells [s]=cells [s']:=by
 rw [h]; simp [cells]
theorem Zon {k:IntKind} {a b:Int}:(a==b)=true↔(Seg.one (.int k a)).cells=(Seg.one (.int k b)).cells:=by simp [Seg.cells]
theorem Z4e {k:IntKind} {n:Nat} {a b:List Int}:ieq n a b=true↔(Seg.ints k n a).cells=(Seg.ints k n b).cells:=by
 have:=Zxn (k:=k) (n:=n) (a:=a) (b:=b)
 simpa [cells] using this
end
theorem Sup.app {m0 m ms:List Zf} (h:Sup m0 m):Sup m0 (ms++m):=fun _ h'=>List.mem_append_right _ (h _ h')
theorem Za8 {α:Type} {E:El α} {n:Nat} {zc:List Value} {r r':List Seg} (hz:zc=E.cell E.z) (h:cells r=cells r'):cells (.rows E.w n (fun _=>zc)::r)=cells (.rows E.w n (Z90 E (replicate n E.z))::r'):=by
 simp only [cells,h,Seg.cells]
 congr 1
 apply Znv
 intro i hi
 subst hz
 simp [Z90,List.getD,List.getElem?_replicate,hi]
inductive Pc where
 | one (c:Zf)
 | all (l:List Zf)
def appL:List Pc->List Zf->List Zf
 | [],m=>m
 | .one c::r,m=>c::appL r m
 | .all a::r,m=>a++appL r m
theorem Zog : ∀ (l:List Pc) (m:List Zf),appL l []++m=appL l m
 | [],m=>rfl
 | .one c::r,m=>by simp only [appL,List.cons_append,Zog r m]
 | .all a::r,m=>by simp only [appL,List.append_assoc,Zog r m]
def Zc6 (W0:World) (S:List Nat) (R:Value->List Pc->Prop):Ending->World->Prop:=retM W0 S fun v M=>∃ Ms,M=appL Ms []/\R v Ms
section
variable {C:Cfg} {m:List Zf} {t:TS} {K:KN}
theorem Z3l {d:Option Nat} {f:FuncId} {args:List Operand} {vs:List Value} {mS mr:List Zf} {R:Value->List Pc->Prop} (ha:evL t args=some vs) (hp:List.Perm (mS++mr) m)
  (hc : ∀ w,Sat C.W0 C.S m w->Calls C.P f vs.toArray w (Zc6 w (mS.map (·.b)) R))
  (h : ∀ v Ms,R v Ms->K (putT d v t) (appL Ms mr)):EF C m t d (.call f args) K :=
 Ztr ha hp hc fun v m' ⟨Ms,e,hR⟩=>by subst e; rw [Zog]; exact h v Ms hR
theorem Z06 {d:Option Nat} {f:FuncId} {args:List Operand} {vs:List Value} {R:Value->List Pc->Prop} (ha:evL t args=some vs)
  (hc : ∀ w,Sat C.W0 C.S m w->Calls C.P f vs.toArray w (Zc6 w [] R))
  (h : ∀ v Ms,R v Ms->K (putT d v t) (appL Ms m)):EF C m t d (.call f args) K :=
 Z017 ha hc fun v m' ⟨Ms,e,hR⟩=>by subst e; rw [Zog]; exact h v Ms hR
end
def retT (rs:List RV) (R:Value->List Zf->Prop):KN:=fun t m=>∃ l M,Zmt t m rs l/\Zrw M m/\R (tupV l) M
theorem Z04 {P:Program} {f:FuncId} {d:FnD} {args:List Value} {W0:World} {S:List Nat} {m0:List Zf} {R:Value->List Zf->Prop}
  (hm:P.follows .mixedOrders=true) (hok:okF P f d=true) (hlen:Nat.ble args.length d.n=true) (h0:Sat W0 S m0 W0)
  (h:WC ⟨P,d.n,W0,S⟩ d.c (Zmu 0 args) m0 (retT d.rs R) ⟨[],retT d.rs R⟩):Calls P f args.toArray W0 (retM W0 S R):=by
 refine Ztn hm hok hlen h0 ?_
 have hsub : ∀ t m,retT d.rs R t m->Zsx W0 S d.rs (retM W0 S R) t m:=by
  rintro t m ⟨l,M,h1,h2,h3⟩
  exact ⟨l,h1,fun w hw=>⟨_,_,rfl,h3,hw.psub h2⟩⟩
 intro hm c0 hok ρ fu Q a w ha hw hc
 exact h hm c0 hok ρ fu Q a w ha hw ⟨fun t m hk=>hc.n t m (hsub t m hk),fun id k hk=>by simp [Zki] at hk,fun t m hk=>hc.r t m (hsub t m hk)⟩
section
variable {C:Cfg} {m:List Zf} {t:TS} {K:KN}
theorem Zu5 {P:Program} {o:Oper} {T:TypeId} {w bytes:Nat} {z:List Seg} {x y:Operand} (h:Zaa P o (.apz T w bytes z x y)=true) :
  ∃ c t tx k,o.op = .call c/\c.callee = .builtin .append/\c.args = #[x,y]/\c.argTypes[0]? = some t/\c.argTypes[1]? = some tx/\P.underlying t=some (.slice T) /\
   P.underlying tx=some (.int k)/\(∃ i zv,P.info? T=some i/\i.size=w/\i.bytes=bytes/\0<bytes/\i.zero=some zv/\zv.cells=(cells z).toArray)/\width z=w/\0<w:=by
 simp only [Zaa] at h
 split at h
 ·rename_i c heq
  simp only [Bool.and_eq_true] at h
  obtain ⟨⟨⟨⟨⟨⟨⟨h1,h2⟩,h3⟩,h4⟩,h5⟩,h6⟩,h7⟩,h8⟩:=h
  have hargs:=Z7i h2
  have hc:c.callee = .builtin .append:=by
   revert h1; split <;> simp_all
  cases e0:c.argTypes[0]? with
  | none=>rw [e0] at h3; simp at h3
  | some t0 =>
   cases e1:c.argTypes[1]? with
   | none=>rw [e1] at h4; simp at h4
   | some t1 =>
    rw [e0] at h3; rw [e1] at h4
    simp only [Option.bind_some] at h3 h4
    cases u0:P.underlying t0 with
    | none=>rw [u0] at h3; simp at h3
    | some d0 =>
     cases u1:P.underlying t1 with
     | none=>rw [u1] at h4; simp at h4
     | some d1 =>
      rw [u0] at h3; rw [u1] at h4
      cases d0 <;> simp at h3
      cases d1 <;> simp at h4
      rw [h3] at u0
      rename_i k
      obtain ⟨i,hi,hs,hb,hp⟩:=Zhd h5
      cases hz:zOf P T with
      | none=>rw [hz] at h6; simp at h6
      | some q =>
       rw [hz] at h6
       have:=Za7 h6
       subst this
       obtain ⟨zv,hz1,hz2⟩:=Zl5 hi hz
       exact ⟨c,t0,t1,k,heq,hc,by rw [<- Array.toArray_toList (xs:=c.args),hargs],e0,e1,u0,u1,⟨i,zv,hi,hs,hb,hp,hz1,hz2⟩,by simpa [Nat.beq_eq] using h7,by simpa [Nat.blt_eq] using h8⟩
 ·cases h
theorem Zrd {P:Program} {w w':World} {t tx ty e:TypeId} {i:TypeInfo} {z:Value} {b off n0 cp n:Nat} {k kt:IntKind} {N:Int} {cs:List Value} (ht:P.underlying t=some (.slice e)) (hk:P.underlying tx=some (.int kt)) (hi:P.info? e=some i) (hz:i.zero=some z)
  (hN:0<=N) (hn:n=N.toNat) (hb:n*i.bytes<=281474976710656/\n<=9223372036854775807) (hroom:n0+n<=cp) (hnews:(Builtin.zeroCells z.cells n).toList=cs) (hnl:cs.length=n*i.size)
  (hst:(storeCells ⟨b,off+n0*i.size,none⟩ cs 0).run P w = .ok () w') :
  (Builtin.append_ #[t,tx] ty #[.slice (some ⟨b,off,none⟩) n0 cp,.int k N]).run P w = .ok (.slice (some ⟨b,off,none⟩) (n0+n) cp) w':=by
 obtain rfl:N=((n:Nat):Int):=by omega
 have hw:IntKind.i64.wrap (n:Int)=n:=by rw [IntKind.wrap_i64]; omega
 have h1 : ¬ ((n:Int)<0):=by omega
 have h2 : ¬ (281474976710656<(n:Int)*(i.bytes:Int)):=by rw [<- Int.natCast_mul]; omega
 by_cases h0:n*i.size=0
 ·have:cs = []:=List.eq_nil_of_length_eq_zero (by rw [hnl,h0])
  subst this
  have hst':w'=w:=by simpa [storeCells] using hst.symm
  subst hst'
  simp [Builtin.append_,Zw ht,Zw hk,sizeOf,typeInfo,hi,asInt,asIntOf,hw,h1,h2,h0,hroom,storeCells]
 ·simp [Builtin.append_,Zw ht,Zw hk,sizeOf,typeInfo,zeroValue,hz,hi,asInt,asIntOf,hw,h1,h2,h0,hroom,Addr.add_lit,hnews,hst]
theorem Zk9 {P:Program} {w:World} {t tx ty e:TypeId} {i:TypeInfo} {z:Value} {n:Nat} {k kt:IntKind} {N:Int} (ht:P.underlying t=some (.slice e)) (hk:P.underlying tx=some (.int kt)) (hi:P.info? e=some i) (hz:i.zero=some z)
  (hN:0<=N) (hn:n=N.toNat) (hb:n*i.bytes<=281474976710656/\n<=9223372036854775807) (base:Option Addr) (sLen sCap:Nat) (olds:List Value)
  (hold:(Builtin.firstCells i.size sLen (.slice base sLen sCap)).run P w.drew = .ok olds.toArray w.drew) (news:List Value) (hnews:(Builtin.zeroCells z.cells n).toList=news) (h0 : ¬ (n*i.size=0))
  (hg:sCap<sLen+n) (h63:((sLen+n:Nat):Int)<=9223372036854775807) (hfit:Builtin.nextslicecap (sLen+n) sCap*i.bytes<=281474976710656) :
  (Builtin.append_ #[t,tx] ty #[.slice base sLen sCap,.int k N]).run P w =
   .ok (.slice (some ⟨w.heap.size,0,none⟩) (sLen+n) (grownCap w (sLen+n) sCap e))
    (w.drew.alloc (.cells ((olds++news).toArray++Builtin.zeroCells z.cells (grownCap w (sLen+n) sCap e-(sLen+n))) e)):=by
 obtain rfl:N=((n:Nat):Int):=by omega
 have hw:IntKind.i64.wrap (n:Int)=n:=by rw [IntKind.wrap_i64]; omega
 have h1 : ¬ ((n:Int)<0):=by omega
 have h2 : ¬ (281474976710656<(n:Int)*(i.bytes:Int)):=by rw [<- Int.natCast_mul]; omega
 have hn' : ¬ (sLen+n<=sCap):=by omega
 have h63' : ¬ (9223372036854775807<((sLen:Int)+(n:Int))):=by omega
 have h48' : ¬ (281474976710656<Builtin.nextslicecap (sLen+n) sCap*i.bytes):=by omega
 have e:Builtin.zeroCells z.cells n=news.toArray:=by rw [<- hnews]
 simp [Builtin.append_,Zw ht,Zw hk,sizeOf,typeInfo,zeroValue,hz,hi,asInt,asIntOf,hw,h1,h2,h0,hn',h63',h48',Question.forced,hold,newRow,grownCap,e]
 congr 2
 apply Array.ext'
 simp [List.append_assoc]
theorem Z095 {d:Nat} {T T':TypeId} {w bytes:Nat} {z:List Seg} {x y:Operand} {b off n0 cp n:Nat} {ky:IntKind} {N:Int} {cs:List Value} {segs:List Seg}
  (hx:ev t x=some (.slice (some ⟨b,off,none⟩) n0 cp)) (hb:Has b (.cells (cells segs).toArray T' (0,0)) m) (hy:ev t y=some (.int ky N)) (hN:0<=N) (hn:n=N.toNat) (hcs:cs=(replicate n (cells z)).flatten) (hone : ∀ u∈cells z,one1 u=true)
  (hfit:off+cp*w<=width segs) (hn0:n0<=cp) (hsz:(n0+n)*bytes<=140737488355328)
  (room:n0+n<=cp->∃ segs' m',cells segs'=Z1j (cells segs) (off+n0*w) cs/\Upd b (.cells (cells segs).toArray T' (0,0)) (.cells (cells segs').toArray T' (0,0)) m m'/\K ((d,.slice (some ⟨b,off,none⟩) (n0+n) cp)::t) m')
  (grow:cp<n0+n->∀ b' cp',C.W0.heap.size<=b'->n0+n<=cp'->∃ segs',cells segs'=((cells segs).drop off).take (n0*w)++cs++(replicate (cp'-(n0+n)) (cells z)).flatten/\K ((d,.slice (some ⟨b',0,none⟩) (n0+n) cp')::t) (ck b' T segs'::m)) :
  EF C m t (some d) (.apz T w bytes z x y) K:=by
 intro o ho hd a ha wd hw
 obtain ⟨hd1,hd2⟩:=Z57 hd
 obtain ⟨c,ty,tx,kt,heq,hc,hargs,ht,htx,hu,hk,⟨i,zv,hi,hsz',hby,hpos,hz1,hz2⟩,hwz,hw0⟩:=Zu5 ho
 have hmul:(n0+n)<=(n0+n)*bytes:=Nat.le_mul_of_pos_right _ hpos
 have hzl:(cells z).length=w:=by rw [cells_length]; exact hwz
 have hnl:cs.length=n*w:=by rw [hcs]; simp [hzl]
 have hone' : ∀ u∈cs,one1 u=true:=by
  intro u hu'
  rw [hcs,List.mem_flatten] at hu'
  obtain ⟨l,hl,hul⟩:=hu'
  obtain ⟨_,rfl⟩:=List.mem_replicate.1 hl
  exact hone u hul
 have hnews:(Builtin.zeroCells zv.cells n).toList=cs:=by rw [hz2,Zc5 (by rw [hzl]; exact hw0),hcs]
 have hnb:n*bytes<=140737488355328:=by rw [Nat.add_mul] at hsz; omega
 have hrun : ∀ {r:Result Value},(Builtin.append_ c.argTypes o.type #[.slice (some ⟨b,off,none⟩) n0 cp,.int ky N]).run C.P wd=r->(execOp a.eval o).run C.P wd=r.andThen fun v w=>.ok (.value v) w:=by
  intro r hr
  simp only [execOp,heq,resolve,hc,Sem.run_bind,Sem.run_pure,Result.andThen_ok,invoke,builtin,hargs,List.map_toArray,List.map_cons,List.map_nil,ha.ev hx,ha.ev hy,hr]
 have hat:Builtin.append_ c.argTypes o.type #[.slice (some ⟨b,off,none⟩) n0 cp,.int ky N]=Builtin.append_ #[ty,tx] o.type #[.slice (some ⟨b,off,none⟩) n0 cp,.int ky N]:=by
  simp [Builtin.append_,ht,htx]
 by_cases hroom:n0+n<=cp
 ·obtain ⟨segs',m',e1,hup,hK⟩:=room hroom
  have hle:n0*w+n*w<=cp*w:=by rw [<- Nat.add_mul]; exact Nat.mul_le_mul_right _ hroom
  have hup':Upd b (.cells (cells segs).toArray T' (0,0)) (.cells (Z1j (cells segs) (off+n0*w+0) cs).toArray T' (0,0)) m m':=by rw [Nat.add_zero,<- e1]; exact hup
  obtain ⟨w',hst,hw'⟩:=Z7y (P:=C.P) cs (off+n0*w) 0 (cells segs) m m' wd hw hup' (by rw [cells_length,hnl]; omega) hone'
  have hr:(Builtin.append_ #[ty,tx] o.type #[.slice (some ⟨b,off,none⟩) n0 cp,.int ky N]).run C.P wd = .ok (.slice (some ⟨b,off,none⟩) (n0+n) cp) w':=by
   subst hsz'
   exact Zrd (k:=ky) hu hk hi hz1 hN hn (by rw [hby]; omega) hroom hnews hnl hst
  rw [<- hat] at hr
  have h2:=hrun hr
  unfold Oper.wp
  rw [h2,Result.andThen_ok]
  simp only [Oper.upon]
  exact ⟨_,m',hK,hd1▸ha.put hd2 _,hw'⟩
 ·have hg:cp<n0+n:=by omega
  have hold:(Builtin.firstCells i.size n0 (.slice (some ⟨b,off,none⟩) n0 cp)).run C.P wd.drew = .ok (((cells segs).drop off).take (n0*i.size)).toArray wd.drew:=by
   have hle:n0*w<=cp*w:=Nat.mul_le_mul_right _ hn0
   have:=Zme (P:=C.P) (w:=wd.drew) (b:=b) (off:=off) (size:=w) (n:=n0) (l:=n0) (c:=cp) (cs:=((cells segs).drop off).take (n0*w)) (by simp [cells_length]; omega) (fun i hi=>by
    rw [Zcx ((show Sat C.W0 C.S m wd.drew from hw.drew).own _ hb.mem),List.getElem?_take_of_lt hi,List.getElem?_drop]) (Nat.le_refl n0)
   rw [hsz',this,List.take_take,Nat.min_self]
  have hfit':Builtin.nextslicecap (n0+n) cp*i.bytes<=281474976710656:=by rw [hby]; exact growslice_fits hg hsz
  have hr:=Zk9 (k:=ky) (P:=C.P) (w:=wd) (t:=ty) (tx:=tx) (ty:=o.type) (e:=T) (i:=i) (z:=zv) hu hk hi hz1 hN hn (by rw [hby]; omega) (some ⟨b,off,none⟩) n0 cp _ hold cs hnews (by rw [hsz']; exact Nat.pos_iff_ne_zero.1 (Nat.mul_pos (by omega) hw0)) hg (by omega) hfit'
  rw [<- hat] at hr
  have h2:=hrun hr
  unfold Oper.wp
  rw [h2,Result.andThen_ok]
  simp only [Oper.upon]
  have hge:=grownCap_ge wd (n0+n) cp T
  obtain ⟨segs',e1,hK⟩:=grow hg wd.heap.size (grownCap wd (n0+n) cp T) hw.fr.size hge
  refine ⟨_,_,hK,hd1▸ha.put hd2 _,?_⟩
  have ha2:=hw.drew.alloc (.cells ((((cells segs).drop off).take (n0*i.size)++cs).toArray++Builtin.zeroCells zv.cells (grownCap wd (n0+n) cp T-(n0+n))) T)
  have e2:((((cells segs).drop off).take (n0*i.size)++cs).toArray++Builtin.zeroCells zv.cells (grownCap wd (n0+n) cp T-(n0+n)))=(cells segs').toArray:=by
   rw [e1,hsz',hz2]
   apply Array.ext'
   rw [Array.toList_append,Zc5 (by rw [cells_length,hwz]; exact hw0)]
  rw [e2]
  rw [e2] at ha2
  exact ha2
theorem Z05y {d:Nat} {T:TypeId} {w bytes:Nat} {z:List Seg} {x y:Operand} {n:Nat} {ky:IntKind} {N:Int} {cs:List Value}
  (hx:ev t x=some (.slice none 0 0)) (hy:ev t y=some (.int ky N)) (hN:0<=N) (hn:n=N.toNat) (hcs:cs=(replicate n (cells z)).flatten) (hone : ∀ u∈cells z,one1 u=true) (hsz:n*bytes<=140737488355328)
  (none_:n=0->K ((d,.slice none 0 0)::t) m)
  (grow:0<n->∀ b' cp',C.W0.heap.size<=b'->n<=cp'->∃ segs',cells segs'=cs++(replicate (cp'-n) (cells z)).flatten/\K ((d,.slice (some ⟨b',0,none⟩) n cp')::t) (ck b' T segs'::m)) :
  EF C m t (some d) (.apz T w bytes z x y) K:=by
 intro o ho hd a ha wd hw
 obtain ⟨hd1,hd2⟩:=Z57 hd
 obtain ⟨c,ty,tx,kt,heq,hc,hargs,ht,htx,hu,hk,⟨i,zv,hi,hsz',hby,hpos,hz1,hz2⟩,hwz,hw0⟩:=Zu5 ho
 have hmul:n<=n*bytes:=Nat.le_mul_of_pos_right _ hpos
 have hzl:(cells z).length=w:=by rw [cells_length]; exact hwz
 have hnl:cs.length=n*w:=by rw [hcs]; simp [hzl]
 have hone' : ∀ u∈cs,one1 u=true:=by
  intro u hu'
  rw [hcs,List.mem_flatten] at hu'
  obtain ⟨l,hl,hul⟩:=hu'
  obtain ⟨_,rfl⟩:=List.mem_replicate.1 hl
  exact hone u hul
 have hnews:(Builtin.zeroCells zv.cells n).toList=cs:=by rw [hz2,Zc5 (by rw [hzl]; exact hw0),hcs]
 have hnb:n*bytes<=140737488355328:=hsz
 have hrun : ∀ {r:Result Value},(Builtin.append_ c.argTypes o.type #[.slice none 0 0,.int ky N]).run C.P wd=r->(execOp a.eval o).run C.P wd=r.andThen fun v w=>.ok (.value v) w:=by
  intro r hr
  simp only [execOp,heq,resolve,hc,Sem.run_bind,Sem.run_pure,Result.andThen_ok,invoke,builtin,hargs,List.map_toArray,List.map_cons,List.map_nil,ha.ev hx,ha.ev hy,hr]
 have hat:Builtin.append_ c.argTypes o.type #[.slice none 0 0,.int ky N]=Builtin.append_ #[ty,tx] o.type #[.slice none 0 0,.int ky N]:=by
  simp [Builtin.append_,ht,htx]
 by_cases hroom:n=0
 ·have hK:=none_ hroom
  have hr:(Builtin.append_ #[ty,tx] o.type #[.slice none 0 0,.int ky N]).run C.P wd = .ok (.slice none 0 0) wd:=by
   subst hsz'
   have hN0:N=0:=by omega
   have hw:IntKind.i64.wrap 0=0:=by decide
   subst hN0
   simp [Builtin.append_,Zw hu,Zw hk,sizeOf,typeInfo,hi,asInt,asIntOf,hw]
  rw [<- hat] at hr
  have h2:=hrun hr
  unfold Oper.wp
  rw [h2,Result.andThen_ok]
  simp only [Oper.upon]
  exact ⟨_,m,hK,hd1▸ha.put hd2 _,hw⟩
 ·have hg:0<0+n:=by omega
  have hold:(Builtin.firstCells i.size 0 (.slice none 0 0)).run C.P wd.drew = .ok ([]:List Value).toArray wd.drew:=by simpa using run_firstCells_none (P:=C.P) wd.drew i.size 0 0 0
  have hfit':Builtin.nextslicecap (0+n) 0*i.bytes<=281474976710656:=by rw [hby]; exact growslice_fits hg (by simpa using hsz)
  have hr:=Zk9 (k:=ky) (P:=C.P) (w:=wd) (t:=ty) (tx:=tx) (ty:=o.type) (e:=T) (i:=i) (z:=zv) hu hk hi hz1 hN hn (by rw [hby]; omega) none 0 0 _ hold cs hnews (by rw [hsz']; exact Nat.pos_iff_ne_zero.1 (Nat.mul_pos (by omega) hw0)) hg (by omega) hfit'
  simp only [Nat.zero_add,List.nil_append] at hr
  rw [<- hat] at hr
  have h2:=hrun hr
  unfold Oper.wp
  rw [h2,Result.andThen_ok]
  simp only [Oper.upon]
  have hge:=grownCap_ge wd n 0 T
  obtain ⟨segs',e1,hK⟩:=grow (by omega) wd.heap.size (grownCap wd n 0 T) hw.fr.size hge
  refine ⟨_,_,hK,hd1▸ha.put hd2 _,?_⟩
  have ha2:=hw.drew.alloc (.cells (cs.toArray++Builtin.zeroCells zv.cells (grownCap wd n 0 T-n)) T)
  have e2:(cs.toArray++Builtin.zeroCells zv.cells (grownCap wd n 0 T-n))=(cells segs').toArray:=by
   rw [e1,hz2]
   apply Array.ext'
   rw [Array.toList_append,Zc5 (by rw [cells_length,hwz]; exact hw0)]
  rw [e2]
  rw [e2] at ha2
  exact ha2
end
section
variable {α:Type} {C:Cfg} {m:List Zf} {t:TS} {K:KN} {E:El α} {v:Value} {xs:List α}
theorem Z05z {d:Nat} {T:TypeId} {bytes:Nat} {z:List Seg} {x y:Operand} {ms mr:List Zf} {ky:IntKind} {N:Int} {xs':List α} (e:xs'=xs++replicate N.toNat E.z) (hx:ev t x=some v) (hO:Z0m E v ms xs) (hT:Take ms m mr) (hy:ev t y=some (.int ky N)) (hN:decide (0<=N)=true) (hz:cells z=E.cell E.z)
  (hsz:decide ((xs.length+N.toNat)*bytes<=140737488355328)=true) (h : ∀ v' ms',Z0m E v' ms' xs'->K ((d,v')::t) (ms'++mr)):EF C m t (some d) (.apz T E.w bytes z x y) K:=by
 subst e
 have hsz:=of_decide_eq_true hsz
 intro o ho hd a ha w hw
 have hN:=of_decide_eq_true hN
 have hzw:width z=E.w:=by rw [<- cells_length,hz,E.len]
 have hone : ∀ u∈cells z,one1 u=true:=by rw [hz]; exact E.one _
 generalize hys:replicate N.toNat E.z=ys
 rw [hys] at h
 have hyl:ys.length=N.toNat:=by rw [<- hys,List.length_replicate]
 have hcs:cellsOf E ys=(replicate ys.length (cells z)).flatten:=by
  rw [hyl,<- Znw (w:=E.w) (by rw [cells_length]; exact hzw),cellsOf,hyl]
  apply Znv
  intro i hi
  simp only [Z90]
  rw [<- hys,hz]
  simp [List.getD,List.getElem?_replicate,hi]
 rw [<- hyl] at hsz
 refine EF.perm hT.perm (EF.less (?_:EF C (ms++mr) t (some d) (.apz T E.w bytes z x y) _)) o ho hd a ha w hw
 rcases hO with ⟨h1,h2,h3⟩ | ⟨b,o1,cp,T',cs,h1,h2,h3,h4,h5⟩
 ·subst h1; subst h2; subst h3
  refine Z05y hx hy hN hyl hcs hone (by simpa using hsz) (fun h0=>?_) (fun h0 b' cp' hb' hc'=>?_)
  ·have hys:ys = []:=List.eq_nil_of_length_eq_zero h0
   subst hys
   exact ⟨_,h _ _ Z39,List.Sublist.refl _⟩
  ·refine ⟨(cellsOf E ys++(replicate (cp'-ys.length) (cells z)).flatten).map Seg.one,Z23 _,?_⟩
   refine ⟨_,h _ [⟨b',_⟩] (.inr ⟨b',0,cp',T,_,by simp,by simpa using hc',rfl,?_,?_⟩),List.Sublist.refl _⟩
   ·rw [Z6k,List.length_append,Z0r]
    simp only [List.length_flatten,List.map_replicate,List.sum_replicate_nat,cells_length,hzw,Nat.zero_add]
    rw [<- Nat.add_mul]
    exact Nat.mul_le_mul_right _ (by omega)
   ·intro i hi j hj
    simp only [List.nil_append] at hi ⊢
    have:i*E.w+E.w<=ys.length*E.w:=by rw [<- Nat.succ_mul]; exact Nat.mul_le_mul_right _ hi
    rw [Z23,Nat.zero_add,List.getElem?_append_left (by rw [Z0r]; omega),Z5a hi hj]
 ·subst h1; subst h3
  refine Z095 hx Has.here hy hN hyl hcs hone h4 h2 hsz (fun hr=>?_) (fun hg b' cp' hb' hc'=>?_)
  ·have hle:(xs.length+ys.length)*E.w<=cp*E.w:=Nat.mul_le_mul_right _ hr
   rw [Nat.add_mul] at hle
   have hin:o1+xs.length*E.w+(cellsOf E ys).length<=(cells cs).length:=by rw [Z0r,cells_length]; omega
   refine ⟨(Z1j (cells cs) (o1+xs.length*E.w) (cellsOf E ys)).map Seg.one,[⟨b,.cells (cells ((Z1j (cells cs) (o1+xs.length*E.w) (cellsOf E ys)).map Seg.one)).toArray T' (0,0)⟩]++mr,Z23 _,Upd.here,?_⟩
   refine ⟨_,h _ _ (.inr ⟨b,o1,cp,T',_,by simp,by simpa using hr,rfl,?_,?_⟩),List.Sublist.refl _⟩
   ·rw [Z6k,Z1j,List.length_append,List.length_append,List.length_take,List.length_drop]
    rw [cells_length] at hin ⊢; omega
   ·intro i hi j hj
    rw [Z23,Zbg hin,Z0r]
    rw [List.length_append] at hi
    by_cases hil:i<xs.length
    ·have:i*E.w+E.w<=xs.length*E.w:=by rw [<- Nat.succ_mul]; exact Nat.mul_le_mul_right _ hil
     rw [if_neg (by omega),Zd3 hil,h5 i hil j hj]
    ·have e1:i*E.w=xs.length*E.w+(i-xs.length)*E.w:=by rw [<- Nat.add_mul]; congr 1; omega
     have:(i-xs.length)*E.w+E.w<=ys.length*E.w:=by rw [<- Nat.succ_mul]; exact Nat.mul_le_mul_right _ (by omega)
     rw [if_pos (by omega),Zd4 (by omega),show o1+(i*E.w+j)-(o1+xs.length*E.w)=(i-xs.length)*E.w+j by omega,Z5a (by omega) hj]
  ·have hle:xs.length*E.w<=cp*E.w:=Nat.mul_le_mul_right _ h2
   have hl1:(((cells cs).drop o1).take (xs.length*E.w)).length=xs.length*E.w:=by rw [List.length_take,List.length_drop,cells_length]; omega
   refine ⟨(((cells cs).drop o1).take (xs.length*E.w)++cellsOf E ys++(replicate (cp'-(xs.length+ys.length)) (cells z)).flatten).map Seg.one,Z23 _,?_⟩
   refine ⟨_,h _ [⟨b',_⟩] (.inr ⟨b',0,cp',T,_,by simp,by simpa using hc',rfl,?_,?_⟩),List.Sublist.cons₂ _ (List.sublist_cons_self _ _)⟩
   ·rw [Z6k,List.length_append,List.length_append,hl1,Z0r]
    simp only [List.length_flatten,List.map_replicate,List.sum_replicate_nat,cells_length,hzw,Nat.zero_add]
    rw [<- Nat.add_mul,<- Nat.add_mul]
    exact Nat.mul_le_mul_right _ (by omega)
   ·intro i hi j hj
    rw [List.length_append] at hi
    rw [Z23,Nat.zero_add]
    by_cases hil:i<xs.length
    ·have:i*E.w+E.w<=xs.length*E.w:=by rw [<- Nat.succ_mul]; exact Nat.mul_le_mul_right _ hil
     rw [List.append_assoc,List.getElem?_append_left (by rw [hl1]; omega),List.getElem?_take_of_lt (by omega),List.getElem?_drop,h5 i hil j hj,Zd3 hil]
    ·have e1:i*E.w=xs.length*E.w+(i-xs.length)*E.w:=by rw [<- Nat.add_mul]; congr 1; omega
     have:(i-xs.length)*E.w+E.w<=ys.length*E.w:=by rw [<- Nat.succ_mul]; exact Nat.mul_le_mul_right _ (by omega)
     rw [List.append_assoc,List.getElem?_append_right (by rw [hl1]; omega),hl1,List.getElem?_append_left (by rw [Z0r]; omega),Zd4 (by omega),show i*E.w+j-xs.length*E.w=(i-xs.length)*E.w+j by omega,Z5a (by omega) hj]
theorem Z0f1 {len w:Nat} {x i:Operand} {k k':IntKind} {ys:List Int} {z:Int} (h:ev t x=some (agg [.ints k (len*w) ys])) (hi:ev t i=some (.int k' z)) (hz:0<=z/\z<len) :
  Q1 C m t (.idx len w true x i) (agg [.ints k w (tk ys (z.toNat*w) w)]):=by
 intro o ho a ha wd hw
 obtain ⟨T,e,heq,hu,hs,hag⟩:=Zu6 ho
 refine Z0v ?_
 simp only [execOp,heq,ha.ev h,ha.ev hi]
 refine Zcp ?_
 simp only [Instr.index,agg,asIntOf,Sem.run_bind,Sem.run_pure,Zw hu,Result.andThen_ok,hz,and_self,if_true,Z3k hs]
 refine Zgk hs hag (fun _=>?_) (fun h=>by cases h)
 congr 2
 have hlt:z.toNat<len:=by omega
 have hle:z.toNat*w+w<=len*w:=by rw [<- Nat.succ_mul]; exact Nat.mul_le_mul_right w hlt
 simp only [cells,Seg.cells,List.append_nil]
 rw [Zxp (by omega)]
 rw [Zxq,Zds (Z0x _ _ _)]
def Zlm:Value->Bool
 | .slice none _ _=>true
 | _=>false
theorem Zz3 {β:Type} {E':El β} {v':Value} {ys:List β} (h : ∀ W,RdSl E' W v' ys->RdSl E W v xs) (hs:Zit C m E' v' ys):Zit C m E v xs:=fun w hw=>h w (hs w hw)
theorem Z03d {β:Type} {E':El β} {v':Value} {ys:List β} : ∀ W,RdSl E' W v' ys->RdSl E W (.slice none 0 0) []:=fun _ _=>Zuk
theorem Z04a {x:Operand} {b p base i len:Nat} {T:TypeId} {fz:Nat×Nat} {s:List Seg} {k:IntKind} {ys:List Int} {z:Int} (e:z=ys.getD i 0) (hx:ev t x=some (.pointer (some ⟨b,p,none⟩))) (hb:Has b (.cells (cells s).toArray T fz) m)
  (hs:Zes s base=some (.ints k len ys)) (hp:p=base+i) (hi:decide (i<len)=true):Q1 C m t (.ld 1 false x) (.int k z):=e▸Z0pj hx hb hs hp (of_decide_eq_true hi)
theorem Zxa {x y:Operand} {b p base i len:Nat} {T:TypeId} {s q:List Seg} {k:IntKind} {ys ys':List Int} {z:Int} {m':List Zf} (e:ys'=Z2u ys i z) (hx:ev t x=some (.pointer (some ⟨b,p,none⟩))) (hy:ev t y=some (.int k z))
  (hs:Zes s base=some (.ints k len ys)) (hp:p=base+i) (hi:decide (i<len)=true) (hq:Zen s base (.ints k len ys')=some q)
  (hup:Upd b (.cells (cells s).toArray T (0,0)) (.cells (cells q).toArray T (0,0)) m m') (h:K t m'):EF C m t none (.st 1 x y) K:=by
 subst e; exact Z098 hx hy hs hp (of_decide_eq_true hi) hq hup h
def Zep (x y c:Int):Bool:=decide (0<=x)&&decide (0<=y)&&decide (0<=c)&&decide (c<=1)
def Zae (x y c:Int):Int:=(x+y+c)%18446744073709551616
def Zev (x y c:Int):Int:=(x+y+c) / 18446744073709551616
theorem xadd {P:Program} {x y c l h:Int} (hl:l=Zae x y c) (hh:h=Zev x y c) (hk:Zep x y c=true) (w:World):(add64Entry #[.int .u64 x,.int .u64 y,.int .u64 c]).run P w = .ok (.tuple #[.int .u64 l,.int .u64 h]) w:=by
 subst hl; subst hh
 simp [Zep] at hk
 exact run_add64 x y c hk.1.1.1 hk.1.1.2 hk.1.2 hk.2 w
def Zzz (x y c:Int):Bool:=decide (0<=x)&&decide (0<=y)&&decide (y<18446744073709551616)&&decide (0<=c)&&decide (c<=1)
def Z035 (x y c:Int):Int:=(x-y-c)%18446744073709551616
def Z034 (x y c:Int):Int:=if x<y+c then 1 else 0
theorem xsub {P:Program} {x y c l h:Int} (hl:l=Z035 x y c) (hh:h=Z034 x y c) (hk:Zzz x y c=true) (w:World):(Zgn #[.int .u64 x,.int .u64 y,.int .u64 c]).run P w = .ok (.tuple #[.int .u64 l,.int .u64 h]) w:=by
 subst hl; subst hh
 simp [Zzz] at hk
 exact Zzi x y c hk.1.1.1.1 hk.1.1.1.2 hk.1.1.2 hk.1.2 hk.2 w
def Zkp (v:Value):Prop:=∃ a n c,v = .slice a n c
theorem RdSl.isSl {W:World} (h:RdSl E W v xs):Zkp v:=by
 rcases h with ⟨h1,_⟩ | ⟨b,o,cp,h1,_,_⟩ | ⟨_,h1,_⟩
 ·exact ⟨_,_,_,h1⟩
 ·exact ⟨_,_,_,h1⟩
 ·exact ⟨_,_,_,h1⟩
theorem Z0m.isSl {ms:List Zf} (h:Z0m E v ms xs):Zkp v:=by
 rcases h with ⟨h1,_⟩ | ⟨b,o,cp,_,_,h1,_⟩
 ·exact ⟨_,_,_,h1⟩
 ·exact ⟨_,_,_,h1⟩
theorem Zkp.cells {u:Value} (h:Zkp u):u.cells = #[u]:=by obtain ⟨a,n,c,rfl⟩:=h; rfl
abbrev SlT:=Option Addr×Nat×Nat
def slV (x:SlT):Value:=.slice x.1 x.2.1 x.2.2
def unS:Value->SlT
 | .slice a n c=>(a,n,c)
 | _=>(none,0,0)
theorem Z04q {u:Value} (h:Zkp u):slV (unS u)=u:=by obtain ⟨a,n,c,rfl⟩:=h; rfl
abbrev El.sl:El SlT:=⟨1,fun x=>[slV x],fun _=>rfl,fun _ v h=>by simp at h; subst h; rfl,by decide,(none,0,0)⟩
theorem Zg1 {u:Value} (h:Zkp u):Go.Sx.cells [.one u]=El.sl.cell (unS u):=by simp only [Go.Sx.cells,Seg.cells]; rw [Z04q h]; rfl
inductive Zhq (E:El α) (W:World):List SlT->List (List α)->Prop
 | nil:Zhq E W [] []
 | cons {u:SlT} {us:List SlT} {ys:List α} {yss:List (List α)}:RdSl E W (slV u) ys->Zhq E W us yss->Zhq E W (u::us) (ys::yss)
theorem Zhq.len {W:World} {us:List SlT} {yss:List (List α)} (h:Zhq E W us yss):us.length=yss.length:=by
 induction h with
 | nil=>rfl
 | cons _ _ ih=>simp [ih]
theorem Zhq.get {W:World} {us:List SlT} {yss:List (List α)} (h:Zhq E W us yss) : ∀ i,i<yss.length->RdSl E W (slV (us.getD i (none,0,0))) (yss.getD i []):=by
 induction h with
 | nil=>intro i hi; simp at hi
 | cons h1 _ ih =>
  intro i hi
  cases i with
  | zero=>simpa using h1
  | succ i=>simpa using ih i (by simpa using hi)
theorem Zax {W:World} {u:Value} (h:RdSl E W u xs):RdSl E W (slV (unS u)) xs:=by rw [Z04q h.isSl]; exact h
theorem Zod {W:World} {us:List SlT} {yss:List (List α)} (h:Zhq E W us yss) {z:Int} (hz:inB z yss.length=true):inB z us.length=true:=by rw [h.len]; exact hz
def Shp (v:Value) (n:Nat):Prop:=(v = .slice none 0 0/\n=0)∨(∃ b o cp,v = .slice (some ⟨b,o,none⟩) n cp/\n<=cp) ∨ ∃ a,v = .slice (some a) 0 0/\n=0
theorem Shp.rd {W:World} (h:RdSl E W v xs):Shp v xs.length:=by
 rcases h with ⟨h1,h2⟩ | ⟨b,o,cp,h1,h2,_⟩ | ⟨a3,h1,h2⟩
 ·exact .inl ⟨h1,by rw [h2]; rfl⟩
 ·exact .inr (.inl ⟨b,o,cp,h1,h2⟩)
 ·exact .inr (.inr ⟨a3,h1,by rw [h2]; rfl⟩)
theorem Shp.own {ms:List Zf} (h:Z0m E v ms xs):Shp v xs.length:=by
 rcases h with ⟨h1,h2,_⟩ | ⟨b,o,cp,_,_,h1,h2,_⟩
 ·exact .inl ⟨h1,by rw [h2]; rfl⟩
 ·exact .inr (.inl ⟨b,o,cp,h1,h2⟩)
theorem Shp.nil:Shp (.slice none 0 0) 0:=.inl ⟨rfl,rfl⟩
theorem Shp.blk {b base lo hi mz w n:Nat} (h:lo<=hi/\hi<=mz) (hn:n=hi-lo):Shp (.slice (some (Z4u b base lo mz w)) (hi-lo) (mz-lo)) n:=by
 subst hn
 unfold Z4u
 split
 ·exact .inr (.inl ⟨_,_,_,rfl,by omega⟩)
 ·exact .inr (.inl ⟨_,_,_,rfl,by omega⟩)
theorem Shp.cut {w:Nat} {lz hz:Int} (h:Shp v xs.length) (hb:Z97 lz hz xs.length=true):Shp (Z53 w v lz.toNat hz.toNat) ((xs.drop lz.toNat).take (hz.toNat-lz.toNat)).length:=by
 have hb:=Zle hb
 have hlen:((xs.drop lz.toNat).take (hz.toNat-lz.toNat)).length=hz.toNat-lz.toNat:=by rw [List.length_take,List.length_drop]; omega
 rw [hlen]
 rcases h with ⟨h1,h2⟩ | ⟨b,o,cp,h1,h2⟩ | ⟨a3,h1,h2⟩
 ·subst h1; exact .inl ⟨rfl,by omega⟩
 rotate_left 1
 ·subst h1
  have e1:lz.toNat=0:=by omega
  have e2:hz.toNat=0:=by omega
  rw [e1,e2,Zd0]
  exact .inr (.inr ⟨a3,rfl,rfl⟩)
 ·subst h1
  simp only [Z53]
  exact Shp.blk (by omega) rfl
theorem Shp.isSl {n:Nat} (h:Shp v n):Zkp v:=by
 rcases h with ⟨h1,_⟩ | ⟨b,o,cp,h1,_⟩ | ⟨_,h1,_⟩
 ·exact ⟨_,_,_,h1⟩
 ·exact ⟨_,_,_,h1⟩
 ·exact ⟨_,_,_,h1⟩
theorem Shp.notnil {n:Nat} (h:Shp v n) (h0:decide (0<n)=true):Zlm v=false:=by
 have h0:=of_decide_eq_true h0
 rcases h with ⟨_,h2⟩ | ⟨b,o1,cp,h1,_⟩ | ⟨_,_,h2⟩
 ·omega
 ·subst h1; rfl
 ·omega
theorem Z22 {x:Operand} {n:Nat} (hx:ev t x=some v) (h:Shp v n):Q1 C m t (.len x) (.int .i64 n):=by
 rcases h with ⟨h1,h2⟩ | ⟨b,o1,cp,h1,h2⟩ | ⟨a3,h1,h2⟩
 ·subst h1; subst h2; exact Z02c hx
 rotate_left 1
 ·subst h1; subst h2; exact Z02c hx
 ·subst h1; exact Z02c hx
theorem Z2t {w n:Nat} {x i:Operand} {k:IntKind} {z:Int} (hx:ev t x=some v) (hi:ev t i=some (.int k z)) (h:Shp v n) (hz:inB z n=true) :
  Q1 C m t (.ias w x i) (.pointer (some ⟨(Z6t v).block,(Z6t v).off+z.toNat*w,none⟩)):=by
 have hz':=Z0j hz
 rcases h with ⟨h1,h2⟩ | ⟨b,o1,cp,h1,h2⟩ | ⟨_,_,h2⟩
 ·omega
 rotate_left 1
 ·omega
 ·subst h1; exact Z0ph hx hi hz'
theorem Z04b {n k:Nat} {x:Operand} (hx:ev t x=some v) (h:Shp v k) (h0:0<n) (hn:decide (n<=k)=true):Q1 C m t (.s2a n x) (.pointer (some ⟨(Z6t v).block,(Z6t v).off,none⟩)):=by
 have hn:=of_decide_eq_true hn
 rcases h with ⟨h1,h2⟩ | ⟨b,o1,cp,h1,h2⟩ | ⟨_,_,h2⟩
 ·omega
 rotate_left 1
 ·omega
 ·subst h1; exact Z0pk hx hn
theorem Zqx {w n:Nat} {x:Operand} {lo hi:Option Operand} {lz hz:Int} (hx:ev t x=some v) (h:Shp v n) (hl:Zmq t 0 lo lz) (hh:Zmq t n hi hz) (hb:Z97 lz hz n=true) :
  Q1 C m t (.sls w x lo hi none) (Z53 w v lz.toNat hz.toNat):=by
 have hb:=Zle hb
 rcases h with ⟨h1,h2⟩ | ⟨b,o1,cp,h1,h2⟩ | ⟨a3,h1,h2⟩
 ·subst h1; subst h2
  exact Z04c (mz:=0) hx hl hh .no (by simp) (by omega)
 rotate_left 1
 ·subst h1; subst h2
  have e1:lz.toNat=0:=by omega
  have e2:hz.toNat=0:=by omega
  rw [e1,e2,Zd0]
  exact Z04d hx hl hh (by omega)
 ·subst h1
  have:=Z0f4 (C:=C) (m:=m) (w:=w) (mz:=cp) hx hl hh .no (by simp) (by omega)
  simpa [Z53] using this
theorem Zyt {neg:Bool} {x:Operand} {c:Bool} {n:Nat} (hx:ev t x=some v) (h:Shp v n) (hc:Zlm v=c):Q1 C m t (.isn neg x) (.bool (bif neg then !c else c)):=by
 subst hc
 rcases h with ⟨h1,h2⟩ | ⟨b,o1,cp,h1,h2⟩ | ⟨a3,h1,h2⟩
 ·subst h1; exact Z06v hx
 ·subst h1; exact Z06v hx
 ·subst h1; exact Z06v hx
theorem Zxt {n k:Nat} {op:IOp} (q:Q1 C m t op (.int .i64 n)) (h:n=k):Q1 C m t op (.int .i64 k):=h▸q
end
end Go.Sx
namespace Go.Sx
open Go Go.RowKit
set_option linter.all false
section
variable {C:Cfg} {m:List Zf} {t:TS} {K:KN} {α:Type} {E:El α} {v:Value} {xs:List α}
theorem Zw6 {w L n:Nat} (h:Shp v L):Z6t (Z53 w v 0 n)=Z6t v:=by
 rcases h with ⟨h1,h2⟩ | ⟨b,o,cp,h1,h2⟩ | ⟨a,h1,h2⟩
 ·subst h1; rfl
 ·subst h1
  simp only [Z53,Z6t,Z4u]
  split <;> simp
 ·subst h1
  obtain ⟨b,o,sp⟩:=a
  cases sp with
  | none=>simp [Z53,Z6t,Z4u]
  | some k=>rfl
theorem Z027 {n:Int} {L:Nat} (h:Z97 0 n L=true):0<=n/\n<=L:=by have:=Zle h; omega
theorem Zzq {w L:Nat} {n:Int} (h:Shp v L) (hb:Z97 0 n L=true):Shp (Z53 w v 0 n.toNat) n.toNat:=by
 have hb:=Z027 hb
 rcases h with ⟨h1,h2⟩ | ⟨b,o,cp,h1,h2⟩ | ⟨a,h1,h2⟩
 ·subst h1; exact .inl ⟨rfl,by omega⟩
 ·subst h1
  simp only [Z53]
  exact Shp.blk (by omega) rfl
 ·subst h1
  have e2:n.toNat=0:=by omega
  rw [e2,Zd0]
  exact .inr (.inr ⟨a,rfl,rfl⟩)
theorem Z0f3 {w L:Nat} {x:Operand} {n:Int} (hx:ev t x=some (Z53 w v 0 n.toNat)) (hs:Shp v L) (hb:Z97 0 n L=true):Q1 C m t (.len x) (.int .i64 n):=by
 have h:=Z22 (C:=C) (m:=m) hx (Zzq (w:=w) hs hb)
 have e:((n.toNat:Nat):Int)=n:=by have:=Z027 hb; omega
 rw [e] at h
 exact h
theorem Zng {z n:Int} {L:Nat} (hb:Z97 0 n L=true) (h:inB z n.toNat=true):inB z L=true:=by
 have:=Z027 hb
 have:=Z0j h
 simp [inB]; omega
theorem Zns {w L:Nat} {x i:Operand} {k:IntKind} {z n:Int} (hx:ev t x=some (Z53 w v 0 n.toNat)) (hi:ev t i=some (.int k z)) (hs:Shp v L) (hb:Z97 0 n L=true) (hz:inB z n.toNat=true) :
  Q1 C m t (.ias w x i) (.pointer (some ⟨(Z6t v).block,(Z6t v).off+z.toNat*w,none⟩)):=by
 have h:=Z2t (C:=C) (m:=m) (w:=w) hx hi (Zzq (w:=w) hs hb) hz
 rw [Zw6 hs] at h
 exact h
theorem Z0f5 {w L:Nat} {x:Operand} {lo hi:Option Operand} {n lz hz:Int} (hx:ev t x=some (Z53 w v 0 n.toNat)) (hs:Shp v L) (hn:Z97 0 n L=true) (hl:Zmq t 0 lo lz) (hh:Zmq t n hi hz) (hb:Z97 lz hz L=true) :
  Q1 C m t (.sls w x lo hi none) (Z53 w v lz.toNat hz.toNat):=by
 have hn:=Z027 hn
 have hb:=Zle hb
 obtain ⟨k,rfl⟩ : ∃ k:Nat,n=(k:Int):=⟨n.toNat,by omega⟩
 rw [Int.toNat_natCast] at hx
 rcases hs with ⟨h1,h2⟩ | ⟨b,o1,cp,h1,h2⟩ | ⟨a,h1,h2⟩
 ·subst h1; subst h2
  have e0:k=0:=by omega
  subst e0
  have hx':ev t x=some (.slice none 0 0):=hx
  exact Z04c (mz:=0) hx' hl hh .no (by simp) (by omega)
 ·subst h1
  simp only [Z53,Nat.sub_zero] at hx
  have ea:Z4u b o1 0 cp w=⟨b,o1,none⟩:=by
   unfold Z4u
   split <;> simp
  rw [ea] at hx
  have:=Z0f4 (C:=C) (m:=m) (w:=w) (mz:=cp) hx hl hh .no (by simp) (by omega)
  simpa [Z53] using this
 ·subst h1; subst h2
  have e0:k=0:=by omega
  subst e0
  rw [Zd0] at hx
  have e1:lz.toNat=0:=by omega
  have e2:hz.toNat=0:=by omega
  rw [e1,e2,Zd0]
  exact Z04d hx hl hh (by omega)
theorem Zk7 {n:Int} (hs:Zit C m E v xs) (hb:Z97 0 n xs.length=true):Zit C m E (Z53 E.w v 0 n.toNat) (xs.take n.toNat):=by
 have h:=Zuj (C:=C) (m:=m) (E:=E) (v:=v) (xs:=xs) (lz:=0) (hz:=n) hs hb
 simpa using h
theorem Zut {W0:World} {S:List Nat} {w:World} (h:Sat W0 S m w) {ms mr:List Zf} (hp:List.Perm (ms++mr) m):Sat w (ms.map (·.b)) (ms ++ []) w:=by
 rw [List.append_nil]; exact Zcq h hp
theorem Z02 {β:Type} {r:β} {a b:Option β} {c:Bool} {x:Operand} {p q:IC} {kn:KN} {ke:KE} (h:br c a b=some r) (hx:ev t x=some (.bool c)) (ht:a=some r->WC C p t m kn ke) (hf:b=some r->WC C q t m kn ke) :
  WC C (.cond x p q) t m kn ke:=Z00b hx (fun e=>ht (br_t h e)) (fun e=>hf (br_f h e))
end
section
variable {α β:Type} {r:β} {G:Prop}
theorem bH {x:α} {f:α->Option β} (h:bnd x f=some r) (k : ∀ z,z=x->f z=some r->G):G:=Z0k0 k h
theorem cH {c:Bool} {o:Option β} (h:chk c o=some r) (k:c=true->o=some r->G):G:=Z0k1 k h
theorem oH {o:Option α} {f:α->Option β} (h:opt o f=some r) (k : ∀ y,o=some y->f y=some r->G):G:=Z0pc k h
theorem jH {K:Type} {k:K} {g:K->Option β} (h:jn k g=some r) (q : ∀ k',k'=k->g k'=some r->G):G:=jn_i q h
end
instance (n:Nat):OfNat Operand n:=⟨.tmp n⟩
abbrev oj (d:Nat) (i:IOp):J:=.op ⟨some d,none,i⟩
abbrev on_ (i:IOp):J:=.op ⟨none,none,i⟩
abbrev oi (d:Nat) (i:IOp):Zko:=⟨some d,none,i⟩
abbrev oe (i:IOp):Zko:=⟨none,none,i⟩
abbrev ci (n:Int):Operand:=.const (.int .i64 n)
abbrev cu (n:Int):Operand:=.const (.int .u64 n)
theorem Z7 {C : Cfg} {m : List Zf} {t : TS} {kn : KN} {x : Operand} {d : Nat} {r : List J} {v : Value} (h1 : ev t x = some v) (h : WJ C r ((d, v) :: t) m kn) : WJ C (.op ⟨some d, none, .mv x⟩ :: r) t m kn := Z6 v (Z0u h1) h
theorem Z0b {C : Cfg} {m : List Zf} {t : TS} {f : FuncId} {args : List Operand} {vs : List Value} {v : Value} (ha : evL t args = some vs) (h : ∀ {w : World}, Calls C.P f vs.toArray w (Z36 w v)) : Q1 C m t (.call f args) v := Z0p ha fun _ _ => h
abbrev Z5 : Seg := .ints .u64 5 (List.replicate 5 0)
abbrev Z10 : Seg := .ints .u64 10 (List.replicate 10 0)
abbrev OL := Option (List Int)
abbrev jm (d : Nat) (x : Operand) : J := oj d (.mv x)
abbrev jl (d : Nat) (n : Nat) (a : Bool) (x : Operand) : J := oj d (.ld n a x)
abbrev jb (d : Nat) (o : BinOp) (x y : Operand) : J := oj d (.bin o x y)
abbrev jc (d : Nat) (f : FuncId) (a : List Operand) : J := oj d (.call f a)
abbrev ji (d : Nat) (l w : Nat) (x i : Operand) : J := oj d (.ia l w x i)
abbrev ja (d : Nat) (T : TypeId) (z : List Seg) : J := oj d (.al T z)
abbrev jx (d : Nat) (T : TypeId) (x : Operand) : J := oj d (.bx T x)
abbrev jf (d : Nat) (n : Nat) (x : Operand) : J := oj d (.fa n x)
abbrev je (d : Nat) (x : Operand) (i : Nat) : J := oj d (.ext x i)
abbrev jn' (d : Nat) (x : Operand) : J := oj d (.len x)
abbrev ji' (d : Nat) (w : Nat) (x i : Operand) : J := oj d (.ias w x i)
abbrev jd (d : Nat) (z : List Seg) (p : List (Nat × Nat × Operand)) : J := oj d (.bd z p)
abbrev jv (d : Nat) (k : IntKind) (x : Operand) : J := oj d (.conv k x)
abbrev jz (d : Nat) (x : Operand) : J := oj d (.nilc x)
abbrev js' (n : Nat) (x y : Operand) : J := on_ (.st n x y)
abbrev jo' (n : Nat) (x y : Operand) : Zko := oe (.st n x y)
abbrev c8 (n : Int) : Operand := .const (.int .u8 n)
abbrev Sch.P (i : Nat) (j : J) (r : Sch) : Sch := .p [i] j r
abbrev Sch.Q (i : Nat) (j : J) (r : Sch) : Sch := .q [i] j r
abbrev IC.sq (l : List J) (c : IC) : IC := .seq (.ops l) c
abbrev LJ := List J
abbrev LI := List Int
abbrev pt' (b : Nat) : Value := .pointer (some ⟨b, 0, none⟩)
theorem Zrw.o {c : Zf} {M m : List Zf} (h : Zrw M m) : Zrw (c :: M) (c :: m) := .one .here h
abbrev u5' (x : List Int) : Seg := .ints .u64 5 x
abbrev uA' (x : List Int) : Seg := .ints .u64 10 x
abbrev b3' (x : List Int) : Seg := .ints .u8 32 x
abbrev b6' (x : List Int) : Seg := .ints .u8 64 x
abbrev u8' (x : List Int) : Seg := .ints .u64 8 x
theorem Has.t1 {b o m c0} : Has b o (c0 :: ⟨b, o⟩ :: m) := .there .here
theorem Has.t2 {b o m c0 c1} : Has b o (c0 :: c1 :: ⟨b, o⟩ :: m) := .there (.there .here)
theorem Has.t3 {b o m c0 c1 c2} : Has b o (c0 :: c1 :: c2 :: ⟨b, o⟩ :: m) := .there (.there (.there .here))
theorem Has.t4 {b o m c0 c1 c2 c3} : Has b o (c0 :: c1 :: c2 :: c3 :: ⟨b, o⟩ :: m) := .there (.there (.there (.there .here)))
theorem Has.t5 {b o m c0 c1 c2 c3 c4} : Has b o (c0 :: c1 :: c2 :: c3 :: c4 :: ⟨b, o⟩ :: m) := .there (.there (.there (.there (.there .here))))
theorem Has.t6 {b o m c0 c1 c2 c3 c4 c5} : Has b o (c0 :: c1 :: c2 :: c3 :: c4 :: c5 :: ⟨b, o⟩ :: m) := .there (.there (.there (.there (.there (.there .here)))))
theorem Has.t7 {b o m c0 c1 c2 c3 c4 c5 c6} : Has b o (c0 :: c1 :: c2 :: c3 :: c4 :: c5 :: c6 :: ⟨b, o⟩ :: m) := .there (.there (.there (.there (.there (.there (.there .here))))))
theorem Has.t8 {b o m c0 c1 c2 c3 c4 c5 c6 c7} : Has b o (c0 :: c1 :: c2 :: c3 :: c4 :: c5 :: c6 :: c7 :: ⟨b, o⟩ :: m) := .there (.there (.there (.there (.there (.there (.there (.there .here)))))))
theorem Has.t9 {b o m c0 c1 c2 c3 c4 c5 c6 c7 c8} : Has b o (c0 :: c1 :: c2 :: c3 :: c4 :: c5 :: c6 :: c7 :: c8 :: ⟨b, o⟩ :: m) := .there (.there (.there (.there (.there (.there (.there (.there (.there .here))))))))
theorem Upd.t1 {b o o' m c0} : Upd b o o' (c0 :: ⟨b, o⟩ :: m) (c0 :: ⟨b, o'⟩ :: m) := .there .here
theorem Upd.t2 {b o o' m c0 c1} : Upd b o o' (c0 :: c1 :: ⟨b, o⟩ :: m) (c0 :: c1 :: ⟨b, o'⟩ :: m) := .there (.there .here)
theorem Upd.t3 {b o o' m c0 c1 c2} : Upd b o o' (c0 :: c1 :: c2 :: ⟨b, o⟩ :: m) (c0 :: c1 :: c2 :: ⟨b, o'⟩ :: m) := .there (.there (.there .here))
theorem Upd.t4 {b o o' m c0 c1 c2 c3} : Upd b o o' (c0 :: c1 :: c2 :: c3 :: ⟨b, o⟩ :: m) (c0 :: c1 :: c2 :: c3 :: ⟨b, o'⟩ :: m) := .there (.there (.there (.there .here)))
theorem Upd.t5 {b o o' m c0 c1 c2 c3 c4} : Upd b o o' (c0 :: c1 :: c2 :: c3 :: c4 :: ⟨b, o⟩ :: m) (c0 :: c1 :: c2 :: c3 :: c4 :: ⟨b, o'⟩ :: m) := .there (.there (.there (.there (.there .here))))
theorem Upd.t6 {b o o' m c0 c1 c2 c3 c4 c5} : Upd b o o' (c0 :: c1 :: c2 :: c3 :: c4 :: c5 :: ⟨b, o⟩ :: m) (c0 :: c1 :: c2 :: c3 :: c4 :: c5 :: ⟨b, o'⟩ :: m) := .there (.there (.there (.there (.there (.there .here)))))
theorem Upd.t7 {b o o' m c0 c1 c2 c3 c4 c5 c6} : Upd b o o' (c0 :: c1 :: c2 :: c3 :: c4 :: c5 :: c6 :: ⟨b, o⟩ :: m) (c0 :: c1 :: c2 :: c3 :: c4 :: c5 :: c6 :: ⟨b, o'⟩ :: m) := .there (.there (.there (.there (.there (.there (.there .here))))))
theorem Upd.t8 {b o o' m c0 c1 c2 c3 c4 c5 c6 c7} : Upd b o o' (c0 :: c1 :: c2 :: c3 :: c4 :: c5 :: c6 :: c7 :: ⟨b, o⟩ :: m) (c0 :: c1 :: c2 :: c3 :: c4 :: c5 :: c6 :: c7 :: ⟨b, o'⟩ :: m) := .there (.there (.there (.there (.there (.there (.there (.there .here)))))))
theorem Upd.t9 {b o o' m c0 c1 c2 c3 c4 c5 c6 c7 c8} : Upd b o o' (c0 :: c1 :: c2 :: c3 :: c4 :: c5 :: c6 :: c7 :: c8 :: ⟨b, o⟩ :: m) (c0 :: c1 :: c2 :: c3 :: c4 :: c5 :: c6 :: c7 :: c8 :: ⟨b, o'⟩ :: m) := .there (.there (.there (.there (.there (.there (.there (.there (.there .here))))))))
theorem Z34.t1 {c m c0} : Z34 c (c0 :: c :: m) (c0 :: m) := .there .here
theorem Z34.t2 {c m c0 c1} : Z34 c (c0 :: c1 :: c :: m) (c0 :: c1 :: m) := .there (.there .here)
theorem Z34.t3 {c m c0 c1 c2} : Z34 c (c0 :: c1 :: c2 :: c :: m) (c0 :: c1 :: c2 :: m) := .there (.there (.there .here))
theorem Z34.t4 {c m c0 c1 c2 c3} : Z34 c (c0 :: c1 :: c2 :: c3 :: c :: m) (c0 :: c1 :: c2 :: c3 :: m) := .there (.there (.there (.there .here)))
theorem Z34.t5 {c m c0 c1 c2 c3 c4} : Z34 c (c0 :: c1 :: c2 :: c3 :: c4 :: c :: m) (c0 :: c1 :: c2 :: c3 :: c4 :: m) := .there (.there (.there (.there (.there .here))))
theorem Z34.t6 {c m c0 c1 c2 c3 c4 c5} : Z34 c (c0 :: c1 :: c2 :: c3 :: c4 :: c5 :: c :: m) (c0 :: c1 :: c2 :: c3 :: c4 :: c5 :: m) := .there (.there (.there (.there (.there (.there .here)))))
theorem Z34.t7 {c m c0 c1 c2 c3 c4 c5 c6} : Z34 c (c0 :: c1 :: c2 :: c3 :: c4 :: c5 :: c6 :: c :: m) (c0 :: c1 :: c2 :: c3 :: c4 :: c5 :: c6 :: m) := .there (.there (.there (.there (.there (.there (.there .here))))))
theorem Z34.t8 {c m c0 c1 c2 c3 c4 c5 c6 c7} : Z34 c (c0 :: c1 :: c2 :: c3 :: c4 :: c5 :: c6 :: c7 :: c :: m) (c0 :: c1 :: c2 :: c3 :: c4 :: c5 :: c6 :: c7 :: m) := .there (.there (.there (.there (.there (.there (.there (.there .here)))))))
theorem Z34.t9 {c m c0 c1 c2 c3 c4 c5 c6 c7 c8} : Z34 c (c0 :: c1 :: c2 :: c3 :: c4 :: c5 :: c6 :: c7 :: c8 :: c :: m) (c0 :: c1 :: c2 :: c3 :: c4 :: c5 :: c6 :: c7 :: c8 :: m) := .there (.there (.there (.there (.there (.there (.there (.there (.there .here))))))))
theorem Take.t1 {ms m c0} : Take ms (c0 :: (ms ++ m)) (c0 :: m) := .there .here
theorem Take.t2 {ms m c0 c1} : Take ms (c0 :: c1 :: (ms ++ m)) (c0 :: c1 :: m) := .there (.there .here)
theorem Take.t3 {ms m c0 c1 c2} : Take ms (c0 :: c1 :: c2 :: (ms ++ m)) (c0 :: c1 :: c2 :: m) := .there (.there (.there .here))
theorem Take.t4 {ms m c0 c1 c2 c3} : Take ms (c0 :: c1 :: c2 :: c3 :: (ms ++ m)) (c0 :: c1 :: c2 :: c3 :: m) := .there (.there (.there (.there .here)))
theorem Take.t5 {ms m c0 c1 c2 c3 c4} : Take ms (c0 :: c1 :: c2 :: c3 :: c4 :: (ms ++ m)) (c0 :: c1 :: c2 :: c3 :: c4 :: m) := .there (.there (.there (.there (.there .here))))
theorem Take.t6 {ms m c0 c1 c2 c3 c4 c5} : Take ms (c0 :: c1 :: c2 :: c3 :: c4 :: c5 :: (ms ++ m)) (c0 :: c1 :: c2 :: c3 :: c4 :: c5 :: m) := .there (.there (.there (.there (.there (.there .here)))))
theorem Take.t7 {ms m c0 c1 c2 c3 c4 c5 c6} : Take ms (c0 :: c1 :: c2 :: c3 :: c4 :: c5 :: c6 :: (ms ++ m)) (c0 :: c1 :: c2 :: c3 :: c4 :: c5 :: c6 :: m) := .there (.there (.there (.there (.there (.there (.there .here))))))
theorem Take.t8 {ms m c0 c1 c2 c3 c4 c5 c6 c7} : Take ms (c0 :: c1 :: c2 :: c3 :: c4 :: c5 :: c6 :: c7 :: (ms ++ m)) (c0 :: c1 :: c2 :: c3 :: c4 :: c5 :: c6 :: c7 :: m) := .there (.there (.there (.there (.there (.there (.there (.there .here)))))))
theorem Take.t9 {ms m c0 c1 c2 c3 c4 c5 c6 c7 c8} : Take ms (c0 :: c1 :: c2 :: c3 :: c4 :: c5 :: c6 :: c7 :: c8 :: (ms ++ m)) (c0 :: c1 :: c2 :: c3 :: c4 :: c5 :: c6 :: c7 :: c8 :: m) := .there (.there (.there (.there (.there (.there (.there (.there (.there .here))))))))
theorem Zd6 {c:Zf} {ms m m1 m2:List Zf} (h1:Z34 c m m1) (h2:Take ms m1 m2):List.Perm ((c::ms)++m2) m:=(h2.perm.cons c).trans h1.perm
theorem Z0es {c:Zf} {m m1:List Zf} (h1:Z34 c m m1):List.Perm ((c :: [])++m1) m:=h1.perm
theorem Z9h {W0:World} {S:List Nat} {m:List Zf} {w:World} (h:Sat W0 S m w) {c:Zf} {ms mr:List Zf} (hp:List.Perm ((c::ms)++mr) m):Sat w (c.b::ms.map (·.b)) (c::(ms ++ [])) w:=by
 rw [List.append_nil]; exact Zcq h hp
theorem Zkp.one1 {u:Value} (h:Zkp u):one1 u=true:=by obtain ⟨a,n,c,rfl⟩:=h; rfl
section
variable {α:Type} {m:List Zf} {E:El α} {v:Value} {xs:List α}
theorem Zjv {b:Nat} {S:List Nat} (h1:Zad v xs [b]) (h2:Zad v xs S):Zad v xs (b::S):=by
 intro a n c e h0 hm
 rcases List.mem_cons.1 hm with h | h
 ·exact h1 a n c e h0 (List.mem_singleton.2 h)
 ·exact h2 a n c e h0 h
theorem Zs0:Zad v xs (([]:List Zf).map (·.b)):=fun _ _ _ _ _=>by simp
theorem Ziv {W0 w:World} {ms ms2 m1 m2:List Zf} {T:List Nat} (hO:Z0m E v ms xs) (hT:Take ms m m1) (h2:Take ms2 m1 m2) (hw:Sat W0 T m w):Zad v xs (ms2.map (·.b)):=by
 intro a n c e h0 hm
 obtain ⟨k,hk,e2⟩:=List.mem_map.1 hm
 have hmem:k∈m1:=h2.perm.subset (List.mem_append_left _ hk)
 rcases hO with ⟨h1,h3,_⟩ | ⟨b1,o1,cp,T1,cs,h1,_,h3,_,_⟩
 ·subst h3; simp at h0
 ·subst h1
  injection e with e; injection e with e; subst e
  subst h3
  have hd:=(hw.perm hT.perm).dist
  simp only [List.cons_append,List.nil_append,List.map_cons,List.nodup_cons] at hd
  exact hd.1 (List.mem_map.2 ⟨k,hmem,e2⟩)
theorem Zn9 {W0 w:World} {S:List Nat} {ms m1:List Zf} (h:RdSl E W0 v xs) (hS:Zad v xs S) (hT:Take ms m m1) (hw:Sat W0 S m w):Zad v xs (ms.map (·.b)):=by
 intro a n c e h0 hm
 obtain ⟨k,hk,e2⟩:=List.mem_map.1 hm
 have hmem:k∈m:=hT.perm.subset (List.mem_append_left _ hk)
 rcases hw.base _ hmem with h6 | h6
 ·rcases h with ⟨h1,h2⟩ | ⟨b',o',cp,h1,h2,h3⟩ | ⟨_,_,h2⟩
  ·subst h2; simp at h0
  ·rw [h1] at e
   injection e with e; injection e with e; subst e
   have h4:=h3 0 h0 0 E.pos
   have h5:0<(E.cell (xs.getD 0 E.z)).length:=by rw [E.len]; exact E.pos
   rw [List.getElem?_eq_getElem h5] at h4
   have:=Zlb h4
   simp only at this e2
   omega
  ·subst h2; simp at h0
 ·exact hS a n c e h0 (by rw [<- e2]; exact h6)
theorem Zn8 {W0 w:World} {S:List Nat} {b:Nat} {o:Obj} (h:RdSl E W0 v xs) (hS:Zad v xs S) (hb:Has b o m) (hw:Sat W0 S m w):Zad v xs [b]:=by
 intro a n c e h0 hm
 simp only [List.mem_singleton] at hm
 rcases hw.base _ hb.mem with h6 | h6
 ·rcases h with ⟨h1,h2⟩ | ⟨b',o',cp,h1,h2,h3⟩ | ⟨_,_,h2⟩
  ·subst h2; simp at h0
  ·rw [h1] at e
   injection e with e; injection e with e; subst e
   have h4:=h3 0 h0 0 E.pos
   have h5:0<(E.cell (xs.getD 0 E.z)).length:=by rw [E.len]; exact E.pos
   rw [List.getElem?_eq_getElem h5] at h4
   have:=Zlb h4
   simp only at this h6 hm
   omega
  ·subst h2; simp at h0
 ·exact hS a n c e h0 (by rw [hm]; exact h6)
theorem Znb {W0 w:World} {n c:Nat} {c':Zf} {ms m1 m2:List Zf} {T:List Nat} {a:Addr} (hT:Z34 c' m m1) (h2:Take ms m1 m2) (hw:Sat W0 T m w) (ha:a.block=c'.b):Zad (.slice (some a) n c) xs (ms.map (·.b)):=by
 intro a' n' c1 e h0 hm
 injection e with e; injection e with e; subst e
 obtain ⟨k,hk,e2⟩:=List.mem_map.1 hm
 have hd:=(hw.perm hT.perm).dist
 simp only [List.map_cons,List.nodup_cons] at hd
 exact hd.1 (List.mem_map.2 ⟨k,h2.perm.subset (List.mem_append_left _ hk),by rw [<- ha]; exact e2⟩)
theorem Zna {W0 w:World} {b n c:Nat} {o:Obj} {c':Zf} {m1:List Zf} {T:List Nat} {a:Addr} (hT:Z34 c' m m1) (hb:Has b o m1) (hw:Sat W0 T m w) (ha:a.block=c'.b):Zad (.slice (some a) n c) xs [b] :=
 Zwo (b':=0) hT hb hw ha
end
section
variable {α:Type} {C:Cfg} {m:List Zf} {t:TS} {K:KN} {E:El α} {v:Value} {xs:List α}
def Zke (E:El α) (u:Value) (xs:List α) (v:Value) (ys:List α) (ms:List Zf):Prop :=
 (∃ m2 m1,ms=m2++m1/\Z0m E v m2 ys/\Z0m E u m1 xs) ∨
 (∃ b o cp T cs,u = .slice (some ⟨b,o,none⟩) xs.length cp/\v = .slice (some ⟨b,o,none⟩) ys.length cp/\xs.length<=ys.length/\ys.length<=cp/\ms = [⟨b,.cells (cells cs).toArray T (0,0)⟩]/\o+cp*E.w<=width cs /\
  (∀ i,i<xs.length->∀ j,j<E.w->(cells cs)[o+(i*E.w+j)]? = (E.cell (xs.getD i E.z))[j]?) /\
  ∀ i,i<ys.length->∀ j,j<E.w->(cells cs)[o+(i*E.w+j)]? = (E.cell (ys.getD i E.z))[j]?)
theorem Zke.refl {ms:List Zf} (h:Z0m E v ms xs):Zke E v xs v xs ms:=by
 rcases h with ⟨h1,h2,h3⟩ | ⟨b,o,cp,T,cs,h1,h2,h3,h4,h5⟩
 ·exact .inl ⟨[],[],by rw [h3]; rfl,.inl ⟨h1,h2,rfl⟩,.inl ⟨h1,h2,rfl⟩⟩
 ·exact .inr ⟨b,o,cp,T,cs,h1,h1,Nat.le_refl _,h2,h3,h4,h5,h5⟩
theorem Zke.base {u:Value} {ys:List α} {ms:List Zf} (h:Zke E u xs v ys ms) : ∃ m1,Z0m E u m1 xs/\List.Sublist m1 ms:=by
 rcases h with ⟨m2,m1,h1,_,h3⟩ | ⟨b,o,cp,T,cs,h1,_,h2,h2',h3,h4,h5,_⟩
 ·exact ⟨m1,h3,by rw [h1]; exact List.sublist_append_right _ _⟩
 ·exact ⟨ms,.inr ⟨b,o,cp,T,cs,h1,by omega,h3,h4,h5⟩,List.Sublist.refl _⟩
theorem Zke.own {u:Value} {ys:List α} {ms:List Zf} (h:Zke E u xs v ys ms) : ∃ m1,Z0m E v m1 ys/\List.Sublist m1 ms:=by
 rcases h with ⟨m2,m1,h1,h3,_⟩ | ⟨b,o,cp,T,cs,_,h1,_,h2,h3,h4,_,h5⟩
 ·exact ⟨m2,h3,by rw [h1]; exact List.sublist_append_left _ _⟩
 ·exact ⟨ms,.inr ⟨b,o,cp,T,cs,h1,h2,h3,h4,h5⟩,List.Sublist.refl _⟩
theorem Zke.shp {u:Value} {ys:List α} {ms:List Zf} (h:Zke E u xs v ys ms):Shp v ys.length:=by
 obtain ⟨m1,h1,_⟩:=h.own; exact Shp.own h1
theorem Z05x {d:Nat} {T:TypeId} {bytes:Nat} {z:List Seg} {x y:Operand} {ms mr:List Zf} {u0 u:Value} {x0 ys xs':List α} (e:xs'=xs++ys) (hx:ev t x=some v) (hO:Zke E u0 x0 v xs ms) (hT:Take ms m mr) (hy:ev t y=some u) (hs:Zit C m E u ys)
  (hsz:decide ((xs.length+ys.length)*bytes<=140737488355328)=true) (h : ∀ v' ms',Zke E u0 x0 v' xs' ms'->K ((d,v')::t) (ms'++mr)):EF C m t (some d) (.app T E.w bytes z x y) K:=by
 rcases hO with ⟨m2,m1,rfl,h1,h2⟩ | ⟨b,o1,cp,T',cs,hu,h1,h20,h2,h3,h4,h50,h5⟩
 ·refine EF.perm hT.perm ?_
  have hs2:Zit C (m2++(m1++mr)) E u ys:=fun w' hw'=>hs w' (hw'.perm (by rw [<- List.append_assoc]; exact hT.perm.symm))
  rw [List.append_assoc]
  refine Z38 e hx h1 Take.here hy hs2 hsz fun v' ms' hO'=>?_
  have:=h v' (ms'++m1) (.inl ⟨ms',m1,rfl,hO',h2⟩)
  rwa [List.append_assoc] at this
 subst e
 have hsz:=of_decide_eq_true hsz
 intro o ho hd a ha w hw
 have hS:SrcV C (ms++mr) E.w u ys.length (cellsOf E ys):=Zt2 (w:=w) (fun w' hw'=>hs w' (hw'.perm hT.perm.symm)) (hw.perm hT.perm)
 refine EF.perm hT.perm (EF.less (?_:EF C (ms++mr) t (some d) (.app T E.w bytes z x y) _)) o ho hd a ha w hw
 have hzw:width z=E.w:=by
  simp only [Zaa] at ho
  split at ho
  ·simp only [Bool.and_eq_true,Nat.beq_eq] at ho
   exact ho.1.2
  ·cases ho
 subst h1; subst h3
 refine Z03p hx Has.here hy hS h4 h2 hsz (fun hr=>?_) (fun hg b' cp' hb' hc'=>?_)
 ·have hle:(xs.length+ys.length)*E.w<=cp*E.w:=Nat.mul_le_mul_right _ hr
  rw [Nat.add_mul] at hle
  have hin:o1+xs.length*E.w+(cellsOf E ys).length<=(cells cs).length:=by rw [Z0r,cells_length]; omega
  refine ⟨(Z1j (cells cs) (o1+xs.length*E.w) (cellsOf E ys)).map Seg.one,[⟨b,.cells (cells ((Z1j (cells cs) (o1+xs.length*E.w) (cellsOf E ys)).map Seg.one)).toArray T' (0,0)⟩]++mr,Z23 _,Upd.here,?_⟩
  refine ⟨_,h _ _ (.inr ⟨b,o1,cp,T',_,hu,by simp,by rw [List.length_append]; omega,by simpa using hr,rfl,?_,?_,?_⟩),List.Sublist.refl _⟩
  ·rw [Z6k,Z1j,List.length_append,List.length_append,List.length_take,List.length_drop]
   rw [cells_length] at hin ⊢; omega
  ·intro i hi j hj
   rw [Z23,Zbg hin,Z0r]
   have:i*E.w+E.w<=xs.length*E.w:=by rw [<- Nat.succ_mul]; exact Nat.mul_le_mul_right _ (by omega)
   rw [if_neg (by omega),h50 i hi j hj]
  ·intro i hi j hj
   rw [Z23,Zbg hin,Z0r]
   rw [List.length_append] at hi
   by_cases hil:i<xs.length
   ·have:i*E.w+E.w<=xs.length*E.w:=by rw [<- Nat.succ_mul]; exact Nat.mul_le_mul_right _ hil
    rw [if_neg (by omega),Zd3 hil,h5 i hil j hj]
   ·have e1:i*E.w=xs.length*E.w+(i-xs.length)*E.w:=by rw [<- Nat.add_mul]; congr 1; omega
    have:(i-xs.length)*E.w+E.w<=ys.length*E.w:=by rw [<- Nat.succ_mul]; exact Nat.mul_le_mul_right _ (by omega)
    rw [if_pos (by omega),Zd4 (by omega),show o1+(i*E.w+j)-(o1+xs.length*E.w)=(i-xs.length)*E.w+j by omega,Z5a (by omega) hj]
 ·have hle:xs.length*E.w<=cp*E.w:=Nat.mul_le_mul_right _ h2
  have hl1:(((cells cs).drop o1).take (xs.length*E.w)).length=xs.length*E.w:=by rw [List.length_take,List.length_drop,cells_length]; omega
  refine ⟨(((cells cs).drop o1).take (xs.length*E.w)++cellsOf E ys++(List.replicate (cp'-(xs.length+ys.length)) (cells z)).flatten).map Seg.one,Z23 _,?_⟩
  refine ⟨_,h _ ([⟨b',_⟩] ++ [⟨b,_⟩]) (.inl ⟨_,_,rfl,.inr ⟨b',0,cp',T,_,by simp,by simpa using hc',rfl,?_,?_⟩,.inr ⟨b,o1,cp,T',cs,hu,by omega,rfl,h4,h50⟩⟩),List.Sublist.refl _⟩
  ·rw [Z6k,List.length_append,List.length_append,hl1,Z0r]
   simp only [List.length_flatten,List.map_replicate,List.sum_replicate_nat,cells_length,hzw,Nat.zero_add]
   rw [<- Nat.add_mul,<- Nat.add_mul]
   exact Nat.mul_le_mul_right _ (by omega)
  ·intro i hi j hj
   rw [List.length_append] at hi
   rw [Z23,Nat.zero_add]
   by_cases hil:i<xs.length
   ·have:i*E.w+E.w<=xs.length*E.w:=by rw [<- Nat.succ_mul]; exact Nat.mul_le_mul_right _ hil
    rw [List.append_assoc,List.getElem?_append_left (by rw [hl1]; omega),List.getElem?_take_of_lt (by omega),List.getElem?_drop,h5 i hil j hj,Zd3 hil]
   ·have e1:i*E.w=xs.length*E.w+(i-xs.length)*E.w:=by rw [<- Nat.add_mul]; congr 1; omega
    have:(i-xs.length)*E.w+E.w<=ys.length*E.w:=by rw [<- Nat.succ_mul]; exact Nat.mul_le_mul_right _ (by omega)
    rw [List.append_assoc,List.getElem?_append_right (by rw [hl1]; omega),hl1,List.getElem?_append_left (by rw [Z0r]; omega),Zd4 (by omega),show i*E.w+j-xs.length*E.w=(i-xs.length)*E.w+j by omega,Z5a (by omega) hj]
theorem EF.sub {d:Option Nat} {op:IOp} {m':List Zf} (h:EF C m' t d op K) (hs:List.Sublist m' m):EF C m t d op K :=
 fun o ho hd a ha w hw=>h o ho hd a ha w (hw.sublist hs)
def Zh9 (E:El α) (v:Value) (ms:List Zf) (xs:List α):Prop:=∃ m1,Z0m E v m1 xs/\List.Sublist m1 ms
def Z45 (E:El α) (u:Value) (xs:List α) (v:Value) (ys:List α) (ms:List Zf):Prop:=∃ m1,Zke E u xs v ys m1/\List.Sublist m1 ms
theorem Z0m.oin {ms:List Zf} (h:Z0m E v ms xs):Zh9 E v ms xs:=⟨ms,h,List.Sublist.refl _⟩
theorem Zh9.grow {ms:List Zf} (h:Zh9 E v ms xs):Z45 E v xs v xs ms:=by
 obtain ⟨m1,h1,h2⟩:=h; exact ⟨m1,Zke.refl h1,h2⟩
theorem Z45.base {u:Value} {ys:List α} {ms:List Zf} (h:Z45 E u xs v ys ms):Zh9 E u ms xs:=by
 obtain ⟨m1,h1,h2⟩:=h
 obtain ⟨m0,h3,h4⟩:=h1.base
 exact ⟨m0,h3,h4.trans h2⟩
theorem Zh9.shp {ms:List Zf} (h:Zh9 E v ms xs):Shp v xs.length:=by obtain ⟨_,h1,_⟩:=h; exact Shp.own h1
theorem Z45.shp {u:Value} {ys:List α} {ms:List Zf} (h:Z45 E u xs v ys ms):Shp v ys.length:=by obtain ⟨_,h1,_⟩:=h; exact h1.shp
theorem Z0it {u:Value} {ys:List α} {ms mr:List Zf} (h:Z45 E u xs v ys ms) (hT:Take ms m mr):Zit C m E v ys:=by
 obtain ⟨m1,h1,h2⟩:=h
 obtain ⟨m0,h3,h4⟩:=h1.own
 exact fun _ hw=>RdSl.own h3 ((hw.take hT).sublist (h4.trans h2))
theorem Zok {d:Nat} {T:TypeId} {bytes:Nat} {z:List Seg} {x y:Operand} {ms mr:List Zf} {u0 u:Value} {x0 ys xs':List α} (e:xs'=xs++ys) (hx:ev t x=some v) (hO:Z45 E u0 x0 v xs ms) (hT:Take ms m mr) (hy:ev t y=some u) (hs : ∀ w,Sat C.W0 C.S mr w->RdSl E w u ys)
  (hsz:decide ((xs.length+ys.length)*bytes<=140737488355328)=true) (h : ∀ v' ms',Z45 E u0 x0 v' xs' ms'->K ((d,v')::t) (ms'++mr)):EF C m t (some d) (.app T E.w bytes z x y) K:=by
 obtain ⟨m1,hG,hs1⟩:=hO
 refine EF.perm hT.perm (EF.sub (m':=m1++mr) ?_ (hs1.append_right mr))
 exact Z05x e hx hG Take.here hy (fun w hw=>hs w (hw.sublist (List.sublist_append_right _ _))) hsz fun v' ms' h'=>h v' ms' ⟨ms',h',List.Sublist.refl _⟩
end
def isW (want:Bool):Value->Bool
 | .bool b=>b==want
 | _=>false
theorem Z09h {want:Bool} {u:Value} (h:isW want u=false):u ≠ .bool want:=by
 rintro rfl; simp [isW] at h
theorem Z91.lit {n:Nat} {t:TS} {a:Act} (h:Z91 n t a) {tc:Nat} {c b:Bool} (hc:Sx.look t tc=some (.bool c)) (e:c=b):Z91 n ((tc,.bool b)::t) a:=by
 subst e
 refine h.drop fun j v hj=>?_
 simp only [Sx.look] at hj
 by_cases e:Nat.beq tc j=true
 ·rw [e,cond_true] at hj
  rw [Nat.beq_eq] at e; subst e
  rw [hc]; exact hj
 ·rw [Bool.not_eq_true] at e; rw [e,cond_false] at hj; exact hj
section
variable {C:Cfg} {t:TS} {m m0:List Zf} {kn:KN} {op:IOp} {r:List J} {d:Option Nat} {tc i:Nat} {want bb:Bool} {late:List Nat} {rs:Sch}
theorem Z0t2 {r:List Zko} (hc:look t tc=some (.bool want)) (h:EF C m t d op (fun t' m'=>WL C r t' m' kn)):WL C (⟨d,some (tc,want),op⟩::r) t m kn:=by
 intro ops lo hok ρ fu Q a w ha hw hcn
 cases lo with
 | nil=>simp [okL] at hok
 | cons o lo =>
  simp only [okL,Bool.and_eq_true] at hok
  obtain ⟨⟨⟨hd,hg⟩,ho⟩,hr⟩:=hok
  unfold wpListIn
  rw [if_pos (by rw [Zg2 hg ha hc]; simp)]
  refine Zgp (Zp1 ho) (Oper.wp_mono ?_ (Z00g (h o ho hd a ha w hw)))
  rintro a' w' ⟨t',m',hk,ha',hw'⟩
  exact hk ops lo hr ρ fu Q a' w' ha' hw' hcn
theorem Z02d {r:List Zko} {d:Nat} {pre pre':TS} {u:Value} (hc:look (pre++t) tc=some u) (hu:isW want u=false) (h:QR C m t r ((d,undef)::pre) pre'):QR C m t (⟨some d,some (tc,want),op⟩::r) pre pre':=by
 intro ops lo hok
 cases lo with
 | nil=>simp [okL] at hok
 | cons o lo =>
  simp only [okL,Bool.and_eq_true] at hok
  obtain ⟨⟨⟨hd,hg⟩,ho⟩,hr⟩:=hok
  obtain ⟨hd1,hd2⟩:=Z57 hd
  refine ⟨undef,fun a ha=>.inr ⟨Zv2 hg (by rw [ha.look _ _ hc]; exact Z09h hu),rfl⟩,?_⟩
  rw [hd1]
  exact Zha.sub (fun a' ⟨a,ha,e⟩=>e▸ha.put hd2 undef) (h ops lo hr)
theorem Z089 {d:Nat} (hc:look t tc=some (.bool want)) (v:Value) (h1:Q1 C m t op v) (h:WJ C r ((d,v)::t) m kn):WJ C (.op ⟨some d,some (tc,want),op⟩::r) t m kn:=by
 unfold WJ at *; rw [J.flatL,J.flat]
 exact Zrp (l1:=[⟨some d,some (tc,want),op⟩]) (pre:=[(d,v)]) (Z04f (pre:=[]) v hc h1 Zuh) h
theorem Z0t1 (hc:look t tc=some (.bool want)) (h:EF C m t d op (fun t' m'=>WJ C r t' m' kn)):WJ C (.op ⟨d,some (tc,want),op⟩::r) t m kn:=by
 unfold WJ at *; rw [J.flatL,J.flat]
 exact Z0t2 hc h
theorem Z03g {d:Nat} {u:Value} (hc:look t tc=some u) (hu:isW want u=false) (h:WJ C r ((d,undef)::t) m kn):WJ C (.op ⟨some d,some (tc,want),op⟩::r) t m kn:=by
 unfold WJ at *; rw [J.flatL,J.flat]
 exact Zrp (l1:=[⟨some d,some (tc,want),op⟩]) (pre:=[(d,undef)]) (Z02d (pre:=[]) hc hu Zuh) h
theorem Z0t0 {β:Type} {r0:β} {a b:Option β} {c:Bool} (h:br c a b=some r0) (hc:look t tc=some (.bool c)) (ht:a=some r0->WJ C r ((tc,.bool true)::t) m kn) (hf:b=some r0->WJ C r ((tc,.bool false)::t) m kn):WJ C r t m kn:=by
 intro ops lo hok ρ fu Q a w ha hw hcn
 cases hcv:c with
 | true=>exact ht (br_t h hcv) ops lo hok ρ fu Q a w (ha.lit hc hcv) hw hcn
 | false=>exact hf (br_f h hcv) ops lo hok ρ fu Q a w (ha.lit hc hcv) hw hcn
theorem Z0ew {x a b:Operand} {v:Value} (hc:ev t x=some (.bool true)) (ha:ev t a=some v):Q1 C m t (.pick x a b) v:=by
 cases hb:ev t b with
 | none=>exact Zlp (u:=v) hc (fun _=>ha) (fun h=>by cases h)
 | some u=>exact Zlp (u:=v) hc (fun _=>ha) (fun h=>by cases h)
theorem Z0ev {x a b:Operand} {v:Value} (hc:ev t x=some (.bool false)) (hb:ev t b=some v):Q1 C m t (.pick x a b) v :=
 Zlp (u:=v) hc (fun h=>by cases h) (fun _=>hb)
theorem Z0et {m m1 m2 M0 M1:List Zf} (h1:Take M0 m m1) (h2:Take M1 m1 m2):List.Perm ((M0++M1)++m2) m:=by
 rw [List.append_assoc]
 exact (h2.perm.append_left M0).trans h1.perm
theorem Z02y {W0:World} {S:List Nat} {w:World} (h:Sat W0 S m w) {M0 M1 mr:List Zf} (hp:List.Perm ((M0++M1)++mr) m):Sat w ((M0++M1).map (·.b)) (M0++(M1 ++ [])) w:=by
 rw [List.append_nil]; exact Zcq h hp
end
theorem Z011 {P:Program} {o:Oper} {x:Operand} {args:List Operand} (h:Zaa P o (.cv x args)=true) : ∃ c,o.op = .call c/\c.callee = .value x/\c.args.toList=args:=by
 simp only [Zaa] at h
 split at h
 ·rename_i c heq
  simp only [Bool.and_eq_true] at h
  obtain ⟨h1,h2⟩:=h
  split at h1
  ·rename_i y hc
   have:=Z0e h1; subst this
   exact ⟨c,heq,hc,Z7i h2⟩
  ·cases h1
 ·cases h
theorem Z01m {c:Call} {args:List Operand} {a:Act} {vs:List Value} (h:c.args.toList=args) (hv:args.map a.eval=vs):c.args.map a.eval=vs.toArray:=by
 rw [<- hv,<- h,<- Array.toList_map,Array.toArray_toList]
theorem Z0j3 {P:Program} {o:Oper} {x:Operand} {args:List Operand} {a:Act} {L:Nat} {vs:List Value} {w:World} (h:Zaa P o (.cv x args)=true) (hx:a.eval x = .func (.yield L) #[] #[]) (hv:args.map a.eval=vs) :
  (execOp a.eval o).run P w=(Instr.yield L vs.toArray).run P w:=by
 obtain ⟨c,heq,hc,ha⟩:=Z011 h
 simp only [execOp,heq,resolve,hc,hx,Deferred.ofValue,Sem.run_bind,Sem.run_pure,Result.andThen_ok,invoke,Array.append_empty,Array.empty_append,Z01m ha hv]
theorem Sat.putObj {W0:World} {S:List Nat} {m:List Zf} {w:World} {b:Nat} {o:Obj} (h:Sat W0 S (⟨b,o⟩::m) w) (o':Obj):Sat W0 S (⟨b,o'⟩::m) (w.putObj b o'):=by
 have hlt:=h.lt (c:=⟨b,o⟩) (List.mem_cons_self ..)
 have hd:=h.dist
 simp only [List.map_cons,List.nodup_cons] at hd
 refine ⟨⟨h.fr.os,h.fr.tape,h.fr.output,by rw [World.putObj_size]; exact h.fr.size,fun k hk hS=>?_⟩,?_,?_,?_⟩
 ·rw [World.putObj_heap_other ?_]
  ·exact h.fr.block k hk hS
  ·intro e
   subst e
   rcases h.base ⟨k,o⟩ (List.mem_cons_self ..) with h1 | h1
   ·simp only at h1; omega
   ·exact hS h1
 ·intro c hc
  rcases List.mem_cons.1 hc with rfl | hc
  ·exact World.putObj_heap_same hlt
  ·rw [World.putObj_heap_other (fun e=>hd.1 (List.mem_map.2 ⟨c,hc,e⟩))]
   exact h.own c (List.mem_cons_of_mem _ hc)
 ·intro c hc
  rcases List.mem_cons.1 hc with rfl | hc
  ·exact h.base ⟨b,o⟩ (List.mem_cons_self ..)
  ·exact h.base c (List.mem_cons_of_mem _ hc)
 ·simp only [List.map_cons,List.nodup_cons]; exact hd
abbrev ra (R:Loop) (s:LoopState) (p:Option Code):Loop:={ R with state:=s,pending:=p }
abbrev lpc (L:Nat) (R:Loop):Zf:=⟨L,.loop R⟩
abbrev dfc (D:Nat):Zf:=⟨D,.deferred (some [])⟩
def Zrt (R:Loop) (vs:List Value):Array Value:=(R.params.zip vs.toArray).foldl (fun t (p,v)=>t.setIfInBounds p v) R.tmps
theorem Z03i {C:Cfg} {t:TS} {m m1:List Zf} {kn:KN} {r:List Zko} {d L n2:Nat} {x:Operand} {args:List Operand} {vs:List Value} {R:Loop} {t2:TS} {ca cb:IC}
  (hx:ev t x=some (.func (.yield L) #[] #[])) (ha:evL t args=some vs) (hT:Z34 (lpc L (ra R .ready none)) m m1) (hsz:vs.length=R.params.size)
  (h2:Z91 n2 t2 { tmps:=Zrt R vs,defers:=[] }) (hmo:C.P.follows .mixedOrders=true) (hca:okC C.P n2 R.assign ca=true) (hcb:okC C.P n2 R.body cb=true)
  (hbody:WC ⟨C.P,n2,C.W0,C.S⟩ ca t2 (lpc L (ra R .ready none)::m1) (fun t3 m3=>∃ m4,Z34 (lpc L (ra R .ready none)) m3 m4 /\
   WC ⟨C.P,n2,C.W0,C.S⟩ cb t3 (lpc L (ra R .busy none)::m4)
    (fun _ m5=>∃ m6,Z34 (lpc L (ra R .busy none)) m5 m6/\WL C r ((d,.bool true)::t) (lpc L (ra R .ready none)::m6) kn)
    ⟨[],fun _ m5=>∃ m6,Z34 (lpc L (ra R .busy none)) m5 m6/\WL C r ((d,.bool false)::t) (lpc L (ra R .done (some .ret))::m6) kn⟩) ⟨[],fun _ _=>False⟩) :
  WL C (⟨some d,none,.cv x args⟩::r) t m kn:=by
 intro ops lo hok ρ fu Q a w hat hw hcn
 cases lo with
 | nil=>simp [okL] at hok
 | cons o lo =>
  simp only [okL,Bool.and_eq_true] at hok
  obtain ⟨⟨⟨hd,hg⟩,ho⟩,hr⟩:=hok
  obtain ⟨hd1,hd2⟩:=Z57 hd
  have hw1:Sat C.W0 C.S (lpc L (ra R .ready none)::m1) w:=hw.perm hT.perm
  have hL:=hw1.own _ (List.mem_cons_self ..)
  unfold wpListIn
  rw [if_pos (Z7g (Z5y hg))]
  refine ⟨fun _ _=>trivial,?_⟩
  rw [Oper.semAt_eq _ _ _ (Zp1 ho),Z0j3 ho (hat.ev hx) (hat.evL ha),run_yield hL (by simpa using hsz),Oper.uponIn_round]
  refine ⟨fun e=>(by simp [FW,Fence.wide] at e),roundIn_of_wpIn trivial ?_⟩
  refine hbody hmo R.assign hca (some L) (fu-1) _ _ w h2 hw1 ⟨?_,fun id k hk=>by simp [Zki] at hk,fun t3 m3 hk=>hk.elim⟩
  rintro t3 m3 ⟨m4,hT3,hb⟩ a3 w3 ha3 hw3
  have hw4:=hw3.perm hT3.perm
  have hL3:=hw4.own _ (List.mem_cons_self ..)
  refine ⟨_,run_beginRound hL3 rfl,?_⟩
  refine hb hmo R.body hcb (some L) (fu-1) _ a3 _ ha3 (hw4.putObj (.loop (ra R .busy none))) ⟨?_,fun id k hk=>by simp [Zki] at hk,?_⟩
  ·rintro t5 m5 ⟨m6,hT5,hk⟩ a5 w5 ha5 hw5
   have hw6:=hw5.perm hT5.perm
   refine ⟨_,_,run_endRound (r:=ra R .busy none) none (hw6.own _ (List.mem_cons_self ..)),?_⟩
   rw [hd1]
   exact hk ops lo hr ρ fu Q _ _ (hat.put hd2 _) (hw6.putObj (.loop (ra R .ready none))) hcn
  ·rintro t5 m5 ⟨m6,hT5,hk⟩ a5 w5 ha5 hw5
   have hw6:=hw5.perm hT5.perm
   refine ⟨_,_,run_endRound (r:=ra R .busy none) (some .ret) (hw6.own _ (List.mem_cons_self ..)),?_⟩
   rw [hd1]
   exact hk ops lo hr ρ fu Q _ _ (hat.put hd2 _) (hw6.putObj (.loop (ra R .done (some .ret)))) hcn
theorem Z03h {C:Cfg} {t:TS} {m m1:List Zf} {kn:KN} {r:List J} {d L n2:Nat} {x:Operand} {args:List Operand} {vs:List Value} {R:Loop} {t2:TS} {ca cb:IC}
  (hx:ev t x=some (.func (.yield L) #[] #[])) (ha:evL t args=some vs) (hT:Z34 (lpc L (ra R .ready none)) m m1) (hsz:vs.length=R.params.size)
  (h2:Z91 n2 t2 { tmps:=Zrt R vs,defers:=[] }) (hmo:C.P.follows .mixedOrders=true) (hca:okC C.P n2 R.assign ca=true) (hcb:okC C.P n2 R.body cb=true)
  (hbody:WC ⟨C.P,n2,C.W0,C.S⟩ ca t2 (lpc L (ra R .ready none)::m1) (fun t3 m3=>∃ m4,Z34 (lpc L (ra R .ready none)) m3 m4 /\
   WC ⟨C.P,n2,C.W0,C.S⟩ cb t3 (lpc L (ra R .busy none)::m4)
    (fun _ m5=>∃ m6,Z34 (lpc L (ra R .busy none)) m5 m6/\WJ C r ((d,.bool true)::t) (lpc L (ra R .ready none)::m6) kn)
    ⟨[],fun _ m5=>∃ m6,Z34 (lpc L (ra R .busy none)) m5 m6/\WJ C r ((d,.bool false)::t) (lpc L (ra R .done (some .ret))::m6) kn⟩) ⟨[],fun _ _=>False⟩) :
  WJ C (.op ⟨some d,none,.cv x args⟩::r) t m kn:=by
 unfold WJ at *; rw [J.flatL,J.flat]
 exact Z03i hx ha hT hsz h2 hmo hca hcb hbody
theorem Z00y {P:Program} {f:FuncId} {d:FnD} {args:List Value} {W0 w:World} {S:List Nat} {m0:List Zf} {K:KN}
  (hm:P.follows .mixedOrders=true) (hok:okF P f d=true) (hlen:Nat.ble args.length d.n=true) (hrs:d.rs = []) (h0:Sat W0 S m0 w)
  (h:WC ⟨P,d.n,W0,S⟩ d.c (Zmu 0 args) m0 K ⟨[],K⟩):Calls P f args.toArray w (fun e w'=>(∃ v,e = .returned v) /\ ∃ t m,K t m/\Sat W0 S m w'):=by
 unfold okF at hok
 split at hok
 ·rename_i fn hf
  simp only [Bool.and_eq_true,decide_eq_true_eq] at hok
  obtain ⟨⟨h1,h2⟩,h3⟩:=hok
  split at h3
  ·rename_i c hb
   have fin : ∀ t m,K t m->∀ a w,Z91 d.n t a->Sat W0 S m w->a.defers = [] /\ ∃ v,(results fn a.tmps).run P w = .ok v w/\((∃ v',Ending.returned v = .returned v') /\ ∃ t m,K t m/\Sat W0 S m w):=by
    rintro t m hk a w ha hw
    rw [hrs] at h2
    have hrun:=Zig (C:=⟨P,d.n,W0,S⟩) ha hw .nil h2
    refine ⟨ha.defers,tupV [],?_,⟨_,rfl⟩,t,m,hk,hw⟩
    have hres:results fn a.tmps=(do let vs <- fn.results.mapM (Zif a.tmps); pure (if h:vs.size=1 then vs[0] else .tuple vs)):=rfl
    rw [hres]
    simp only [Sem.run_bind]
    have hmap:(fn.results.mapM (Zif a.tmps)).run P w = .ok [].toArray w:=by
     rw [<- Array.toArray_toList (xs:=fn.results),List.mapM_toArray]
     simp only [Sem.run_map,hrun,Result.andThen_ok]
    simp only [hmap,Result.andThen_ok,Sem.run_pure]
    rw [Zt7]
   refine calls_of_wp hf hb (wpIn_wide.1 (h hm c h3 none 0 _ _ w ?_ h0 ⟨?_,?_,?_⟩))
   ·have hlen':args.length<=fn.ntmps:=by rw [h1]; exact Nat.le_of_ble_eq_true hlen
    refine ⟨by simp [h1]; omega,rfl,?_⟩
    intro j v hj
    obtain ⟨_,hj2⟩:=Zga args 0 j v hj
    rw [Nat.sub_zero] at hj2
    have hlt:j<args.length:=(List.getElem?_eq_some_iff.1 hj2).1
    simp only [Array.getD_eq_getD_getElem?]
    rw [Array.getElem?_append_left (by simpa using hlt)]
    simp [hj2]
   ·exact fun t m hk a w ha hw=>fin t m hk a w ha hw
   ·intro id k hk; simp [Zki] at hk
   ·exact fun t m hk a w ha hw=>fin t m hk a w ha hw
  ·cases h3
 ·cases hok
theorem Znu {P:Program} {fn:Func} {rs:List RV} {W0 w:World} {S:List Nat} {m:List Zf} {t:TS} {n:Nat} {a:Act} {R:Ending->World->Prop} (hrs:okR P fn.results.toList rs=true) (ha:Z91 n t a) (hw:Sat W0 S m w) (h:Zsx W0 S rs R t m) :
  ∃ v,(results fn a.tmps).run P w = .ok v w/\R (.returned v) w:=by
 obtain ⟨l,hl,hR⟩:=h
 refine ⟨tupV l,?_,hR w hw⟩
 have hrun:=Zig (C:=⟨P,n,W0,S⟩) ha hw hl hrs
 have hres:results fn a.tmps=(do let vs <- fn.results.mapM (Zif a.tmps); pure (if h:vs.size=1 then vs[0] else .tuple vs)):=rfl
 rw [hres]
 simp only [Sem.run_bind]
 have hmap:(fn.results.mapM (Zif a.tmps)).run P w = .ok l.toArray w:=by
  rw [<- Array.toArray_toList (xs:=fn.results),List.mapM_toArray]
  simp only [Sem.run_map,hrun,Result.andThen_ok]
 simp only [hmap,Result.andThen_ok,Sem.run_pure]
 rw [Zt7]
abbrev Zvh (D:Nat):Deferred:={ target:=.collected D,args := #[] }
theorem Znj {P:Program} {fn:Func} {rs:List RV} {W0 w:World} {S:List Nat} {m:List Zf} {t:TS} {n fu D:Nat} {a:Act} {R:Ending->World->Prop} (hrs:okR P fn.results.toList rs=true) (ha:Z91 n t a) (hw:Sat W0 S (dfc D::m) w) (h:Zsx W0 S rs R t m) :
  LeavesInM (FW none) fu P fn a.tmps R [Zvh D] .returning w:=by
 unfold LeavesInM
 refine ⟨by simp,.inl ⟨D,_,rfl,run_takeDeferred (hw.own _ (List.mem_cons_self ..)),?_⟩⟩
 exact Znu hrs ha ((hw.putObj (.deferred none)).sublist (List.sublist_cons_self _ _)) h
theorem Zi6 {a:Act} {dst:Option Nat} {v:Value} {ds:List Deferred}:({ a with defers:=a.defers++ds }:Act).put dst v = { a.put dst v with defers:=(a.put dst v).defers++ds }:=by
 cases dst <;> rfl
theorem Z7n {F:Fence} {n:Nat} {P:Program} {ops:Array Oper} {Q Q':Exit->Act->World->Prop} {ds:List Deferred} (hQ : ∀ e a w,Q e a w->Q' e { a with defers:=a.defers++ds } w) :
  ∀ (lo:List Oper) (a:Act) (w:World),wpListIn F n P ops Q lo a w->wpListIn F n P ops Q' lo { a with defers:=a.defers++ds } w
 | [],a,w,h=>hQ _ _ _ h
 | o::lo,a,w,h=>by
  unfold wpListIn at h ⊢
  have he:({ a with defers:=a.defers++ds }:Act).eval=a.eval:=by funext x; cases x <;> rfl
  by_cases hwd:Region.wanted o (yielded ops a.tmps)=true
  ·rw [if_pos hwd] at h
   rw [if_pos hwd]
   obtain ⟨h1,h2⟩:=h
   refine ⟨by rw [he]; exact h1,?_⟩
   rw [he]
   generalize (o.semAt F.round a.eval).run P w=r at *
   cases r with
   | ok x w' =>
    cases x <;> simp only [Oper.uponIn] at h2 ⊢ <;> first
     | (rw [Zi6]; exact Z7n hQ lo _ _ h2)
     | (have h3:=Z7n (ds:=ds) hQ lo _ _ h2; rw [<- Zi6] at h3; exact h3)
     | (refine ⟨h2.1,h2.2.mono fun e w'' he'=>?_⟩; cases e with
       | returned v=>simp only at he' ⊢; rw [Zi6]; exact Z7n hQ lo _ _ he'
       | panicked c=>exact hQ _ _ _ he'
       | outgrown=>obtain ⟨a0,w0,hq⟩:=he'; exact ⟨_,_,hQ _ _ _ hq⟩)
     | (refine ⟨h2.1,h2.2.mono fun v w'' he'=>?_⟩; rw [Zi6]; exact Z7n hQ lo _ _ he')
     | exact h2
   | halt x w'=>cases x <;> simp only [Oper.uponIn] at h2 ⊢ <;> first | exact hQ _ _ _ h2 | exact h2
  ·rw [if_neg hwd] at h
   rw [if_neg hwd,he]
   refine ⟨h.1,?_⟩
   rw [Zi6]; exact Z7n hQ lo _ _ h.2
def WCM (C:Cfg) (c:IC) (t:TS) (m:List Zf) (rs:List RV) (R:Ending->World->Prop):Prop :=
 C.P.follows .mixedOrders=true->∀ c0,okC C.P C.n c0 c=true->∀ (fn:Func),okR C.P fn.results.toList rs=true->∀ a w,Z91 C.n t a->Sat C.W0 C.S m w->c0.wpIn (FW none) 2 C.P (bodyPostM (FW none) 2 C.P fn R) a w
theorem Zs4 {P:Program} {f:FuncId} {d:FnD} {args:List Value} {W0:World} {S:List Nat} {m0:List Zf} {R:Ending->World->Prop}
  (hm:P.follows .mixedOrders=true) (hok:okF P f d=true) (hlen:Nat.ble args.length d.n=true) (h0:Sat W0 S m0 W0)
  (h:WCM ⟨P,d.n,W0,S⟩ d.c (Zmu 0 args) m0 d.rs R):Calls P f args.toArray W0 R:=by
 unfold okF at hok
 split at hok
 ·rename_i fn hf
  simp only [Bool.and_eq_true,decide_eq_true_eq] at hok
  obtain ⟨⟨h1,h2⟩,h3⟩:=hok
  split at h3
  ·rename_i c hb
   refine callsIn_wide.1 (callsIn_of_wp_marks (n:=2) hf hb trivial (h hm c h3 fn h2 _ W0 ?_ h0))
   have hlen':args.length<=fn.ntmps:=by rw [h1]; exact Nat.le_of_ble_eq_true hlen
   refine ⟨by simp [h1]; omega,rfl,?_⟩
   intro j v hj
   obtain ⟨_,hj2⟩:=Zga args 0 j v hj
   rw [Nat.sub_zero] at hj2
   have hlt:j<args.length:=(List.getElem?_eq_some_iff.1 hj2).1
   simp only [Array.getD_eq_getD_getElem?]
   rw [Array.getElem?_append_left (by simpa using hlt)]
   simp [hj2]
  ·cases h3
 ·cases hok
theorem Zuc {P:Program} {fn:Func} {rs:List RV} {W0 w:World} {S:List Nat} {m:List Zf} {t:TS} {n:Nat} {a:Act} {R:Ending->World->Prop} (hrs:okR P fn.results.toList rs=true) (ha:Z91 n t a) (hw:Sat W0 S m w) (h:Zsx W0 S rs R t m) :
  bodyPostM (FW none) 2 P fn R .ret a w:=by
 show LeavesInM (FW none) 2 P fn a.tmps R a.defers .returning w
 rw [ha.defers]
 exact Znu hrs ha hw h
theorem Zta {C:Cfg} {A B:IC} {t:TS} {m:List Zf} {rs:List RV} {R:Ending->World->Prop} (h:WC C A t m (fun t m=>WCM C B t m rs R) ⟨[],Zsx C.W0 C.S rs R⟩):WCM C (.seq A B) t m rs R:=by
 intro hm c0 hok fn hrs a w ha hw
 cases c0 <;> first | (simp [okC] at hok; done) | skip
 rename_i x0 y0
 simp only [okC,Bool.and_eq_true] at hok
 refine wpIn_seq (h hm x0 hok.1 none 2 _ a w ha hw ⟨?_,fun id k hk=>by simp [Zki] at hk,?_⟩)
 ·intro t' m' h' a' w' ha' hw'
  exact h' hm y0 hok.2 fn hrs a' w' ha' hw'
 ·intro t' m' h' a' w' ha' hw'
  exact Zuc hrs ha' hw' h'
def RK (C:Cfg) (t:TS) (L D:Nat) (Rc:Loop) (l:List J) (rs:List RV) (R:Ending->World->Prop):KN:=fun _ m' =>
 (∃ m1,Z34 (lpc L (ra Rc .ready none)) m' m1/\WJ C l t m1 (fun t3 m3=>∃ m4,Z34 (dfc D) m3 m4/\Zsx C.W0 C.S rs R t3 m4)) ∨
 (∃ m1 m2,Z34 (lpc L (ra Rc .done (some .ret))) m' m1/\Z34 (dfc D) m1 m2/\Zsx C.W0 C.S rs R t m2)
def nmOk (P:Program) (f:FuncId):Bool:=match P.funcs[f]? with
 | some fn => !(fn.name == "runtime.NumGoroutine")
 | none=>false
theorem Zya {P:Program} {f:FuncId} (h:nmOk P f=true) {fn:Func} (hf:P.funcs[f]? = some fn):(fn.name == "runtime.NumGoroutine")=false:=by
 unfold nmOk at h; rw [hf] at h; simpa using h
theorem Z02p {W0:World} {S:List Nat} {rs:List RV} {R:Value->List Zf->Prop} {t:TS} {m:List Zf} (h:retT rs R t m):Zsx W0 S rs (retM W0 S R) t m:=by
 obtain ⟨l,M,h1,h2,h3⟩:=h
 exact ⟨l,h1,fun w hw=>⟨_,_,rfl,h3,hw.psub h2⟩⟩
def yTS:List Nat->List Value->TS->TS
 | p::ps,v::vs,t=>yTS ps vs ((p,v)::t)
 | _,_,t=>t
theorem Zo6 {n:Nat} : ∀ (ps:List Nat) (vs:List Value) (t:TS) (tm:Array Value),Z91 n t { tmps:=tm,defers:=[] }->ps.length=vs.length->ps.all (fun p=>Nat.blt p n)=true ->
  Z91 n (yTS ps vs t) { tmps:=(ps.zip vs).foldl (fun t (p:Nat×Value)=>t.setIfInBounds p.1 p.2) tm,defers:=[] }
 | [],vs,t,tm,h,_,_=>by cases vs <;> exact h
 | p::ps,[],t,tm,h,hl,_=>by simp at hl
 | p::ps,v::vs,t,tm,h,hl,hp=>by
  simp only [List.all_cons,Bool.and_eq_true] at hp
  have hlt:p<n:=by have:=hp.1; rwa [Nat.blt_eq] at this
  exact Zo6 ps vs _ _ (h.put hlt v) (by simpa using hl) hp.2
theorem Z00i {n:Nat} {t:TS} {R:Loop} {ps:List Nat} {vs:List Value} (h:Z91 n t { tmps:=R.tmps,defers:=[] }) (hp:R.params.toList=ps) (hl:ps.length=vs.length) (ha:ps.all (fun p=>Nat.blt p n)=true) :
  Z91 n (yTS ps vs t) { tmps:=Zrt R vs,defers:=[] }:=by
 have h1:=Zo6 ps vs t R.tmps h hl ha
 have e:Zrt R vs=(ps.zip vs).foldl (fun t (p:Nat×Value)=>t.setIfInBounds p.1 p.2) R.tmps:=by
  unfold Zrt
  rw [<- Array.foldl_toList,Array.toList_zip,hp]
 rw [e]; exact h1
theorem Z088 {C:Cfg} {A ca cb:IC} {t0:TS} {m0:List Zf} {rs:List RV} {R:Ending->World->Prop} {id gf:Nat} {x:Operand} {ps:List Nat} {l:List J} {dg:FnD}
  (hok:okF C.P gf dg=true) (hdr:dg.rs = []) (hgn:nmOk C.P gf=true)
  (hA:WC C A t0 m0 (fun t m=>∃ lb:List Value,ev t x=some (.func (.func gf) #[] lb.toArray)/\Nat.ble (lb.length+1) dg.n=true /\
   ∀ (L D:Nat) (Rc:Loop),Rc.params.toList=ps->okC C.P C.n Rc.assign ca=true->okC C.P C.n Rc.body cb=true->Z91 C.n t { tmps:=Rc.tmps,defers:=[] } ->
    WC ⟨C.P,dg.n,C.W0,C.S⟩ dg.c (Zmu 0 (.func (.yield L) #[] #[]::lb)) (lpc L (ra Rc .ready none)::dfc D::m) (RK C t L D Rc l rs R) ⟨[],RK C t L D Rc l rs R⟩) ⟨[],Zsx C.W0 C.S rs R⟩) :
  WCM C (.seq (.seq A (.block id (.rng x ps ca cb))) (.seq (.ops l) .ret)) t0 m0 rs R:=by
 intro hm c0 hok0 fn hrs a w ha hw
 cases c0 <;> first | (simp [okC] at hok0; done) | skip
 rename_i y0 z0
 simp only [okC,Bool.and_eq_true] at hok0
 obtain ⟨hy,hz⟩:=hok0
 cases y0 <;> first | (simp [okC] at hy; done) | skip
 rename_i A0 b0
 simp only [okC,Bool.and_eq_true] at hy
 obtain ⟨hyA,hyb⟩:=hy
 cases b0 <;> first | (simp [okC] at hyb; done) | skip
 rename_i id0 r0
 simp only [okC,Bool.and_eq_true,Nat.beq_eq] at hyb
 obtain ⟨hid,hyr⟩:=hyb
 cases r0 <;> first | (simp [okC] at hyr; done) | skip
 rename_i g0 ps0 asg0 body0
 simp only [okC,Bool.and_eq_true,beq_iff_eq] at hyr
 obtain ⟨⟨⟨hg0,hps⟩,hca⟩,hcb⟩:=hyr
 have hg0:=Z0e hg0
 subst hg0
 cases z0 <;> first | (simp [okC] at hz; done) | skip
 rename_i l0 e0
 simp only [okC,Bool.and_eq_true] at hz
 obtain ⟨hzl,hze⟩:=hz
 cases l0 <;> first | (simp [okC] at hzl; done) | skip
 rename_i rid rops rdraw
 simp only [okC,Bool.and_eq_true,Bool.not_eq_true'] at hzl
 obtain ⟨hl1,hl2⟩:=hzl
 subst hl2
 cases e0 <;> first | (simp [okC] at hze; done) | skip
 refine wpIn_seq (wpIn_seq (hA hm A0 hyA none 2 _ a w ha hw ⟨?_,fun id k hk=>by simp [Zki] at hk,?_⟩))
 rotate_left 1
 ·intro t' m' h' a' w' ha' hw'
  exact Zuc hrs ha' hw' h'
 rintro t m ⟨lb,hx,hlen,H⟩ a w ha hw
 refine wpIn_block (wpIn_rangeFunc ?_)
 intro fnid _
 obtain ⟨Rc,hRc⟩ : ∃ Rc:Loop,Rc = { state:=.ready,pending:=none,fn:=fnid,tmps:=a.tmps,params:=ps0,assign:=asg0,body:=body0,defers:=w.heap.size }:=⟨_,rfl⟩
 have hw1:=(hw.alloc (.deferred (some []))).alloc (.loop (ra Rc .ready none))
 rw [World.size_alloc] at hw1
 obtain ⟨gfn,hgf,hgb⟩ : ∃ gfn,C.P.funcs[gf]? = some gfn/\gfn.body.isSome=true:=by
  unfold okF at hok
  split at hok
  ·rename_i fn' hf'
   simp only [Bool.and_eq_true] at hok
   refine ⟨fn',hf',?_⟩
   cases hb:fn'.body with
   | none=>rw [hb] at hok; simp at hok
   | some c=>rfl
  ·cases hok
 have hcall : ∀ args w,(callFunc gf args).run C.P w = .ok (.enter gf args) w:=by
  intro args w
  have hn':gfn.name ≠ "runtime.NumGoroutine" := by simpa using Zya hgn hgf
  have hb2:gfn.body≠none:=by intro e; rw [e] at hgb; cases hgb
  simp [callFunc,program,Sem.run_bind,Sem.run,hgf,hn',hb2]
 have hent:=run_enterLoop_outer (P:=C.P) (w:=w) fnid a.tmps ps0 asg0 body0
 obtain ⟨W1,hW1⟩ : ∃ W1,(w.alloc (.deferred (some []))).alloc (.loop { state:=.ready,pending:=none,fn:=fnid,tmps:=a.tmps,params:=ps0,assign:=asg0,body:=body0,defers:=w.heap.size })=W1:=⟨_,rfl⟩
 rw [hW1] at hent
 refine ⟨w.heap.size+1,[Zvh w.heap.size],W1,{ target:=.fn (.func gf) lb.toArray,args := #[.func (.yield (w.heap.size+1)) #[] #[]] },W1,gf,
  #[.func (.yield (w.heap.size+1)) #[] #[]]++lb.toArray,W1,hent,?_,fun _ _=>trivial,?_,fun e=>(by simp [FW,Fence.wide] at e),?_⟩
 ·simp only [resolve,ha.ev hx]
  simp [Deferred.ofValue,Act.eval]
 ·simp only [invoke]
  exact hcall _ _
 ·have hrec:Z91 C.n t { tmps:=Rc.tmps,defers:=[] }:=by
   rw [hRc]; exact ⟨ha.size,rfl,ha.look⟩
  have hwc:=H (w.heap.size+1) w.heap.size Rc (by rw [hRc]; exact hps) (by rw [hRc]; exact hca) (by rw [hRc]; exact hcb) hrec
  have hcalls:=Z00y (w:=(w.alloc (.deferred (some []))).alloc (.loop (ra Rc .ready none))) hm hok (by simpa using hlen) hdr hw1 hwc
  have hargs:(Value.func (.yield (w.heap.size+1)) #[] #[]::lb).toArray = #[.func (.yield (w.heap.size+1)) #[] #[]]++lb.toArray:=by simp
  rw [hargs] at hcalls
  have hRa:ra Rc .ready none = { state:=.ready,pending:=none,fn:=fnid,tmps:=a.tmps,params:=ps0,assign:=asg0,body:=body0,defers:=w.heap.size }:=by rw [hRc]
  rw [hRa,hW1] at hcalls
  refine Zwz (hcalls.mono ?_)
  rintro e w3 ⟨⟨v,rfl⟩,t',m',hk,hw3⟩
  rcases hk with ⟨m1,hT,hj⟩ | ⟨m1,m2,hT,hT2,hj⟩
  ·have hw4:=hw3.perm hT.perm
   refine ⟨_,_,run_endLoop (hw4.own _ (List.mem_cons_self ..)) (by simp [ra]),?_⟩
   have hw5:=(hw4.putObj (.loop { ra Rc .ready none with state:=.exhausted })).sublist (List.sublist_cons_self _ _)
   show (Code.seq _ .ret).wpIn _ _ _ _ _ _
   refine wpIn_seq (wpIn_region_list ?_)
   have hd:({ a with defers:=[Zvh w.heap.size]++a.defers }:Act) = { a with defers:=a.defers ++ [Zvh w.heap.size] }:=by rw [ha.defers]; rfl
   rw [hd]
   refine Z7n (Q:=fun e a' w'=>e = .normal /\ ∃ t3 m3,(∃ m4,Z34 (dfc w.heap.size) m3 m4/\Zsx C.W0 C.S rs R t3 m4)/\Z91 C.n t3 a'/\Sat C.W0 C.S m3 w') ?_ _ _ _ (hj rops rops.toList hl1 none 2 _ a _ ha hw5 ?_)
   ·rintro e a' w' ⟨rfl,t3,m3,⟨m4,hT4,hr⟩,ha',hw'⟩
    refine wpIn_ret ?_
    show LeavesInM (FW none) 2 C.P fn a'.tmps R (a'.defers ++ [Zvh w.heap.size]) .returning w'
    rw [ha'.defers]
    exact Znj hrs ha' (hw'.perm hT4.perm) hr
   ·exact fun t3 m3 hk a' w' ha' hw'=>⟨rfl,t3,m3,hk,ha',hw'⟩
  ·have hw4:=hw3.perm hT.perm
   refine ⟨_,_,run_endLoop (hw4.own _ (List.mem_cons_self ..)) (by simp [ra]),?_⟩
   have hw5:=((hw4.putObj (.loop { ra Rc .done (some .ret) with state:=.exhausted })).sublist (List.sublist_cons_self _ _)).perm hT2.perm
   refine wpIn_ret ?_
   show LeavesInM (FW none) 2 C.P fn a.tmps R ([Zvh w.heap.size]++a.defers) .returning _
   rw [ha.defers]
   exact Znj hrs ha hw5 hj
theorem q_mf {C:Cfg} {t:TS} {m:List Zf} {f:FuncId} {caps:List Operand} {vs:List Value} (hv:evL t caps=some vs):Q1 C m t (.mf f caps) (.func (.func f) #[] vs.toArray):=by
 intro o ho a ha w hw
 simp only [Zaa] at ho
 split at ho
 ·rename_i f' first captured heq
  simp only [Bool.and_eq_true,Nat.beq_eq] at ho
  obtain ⟨⟨h1,h2⟩,h3⟩:=ho
  subst h1
  have h2':first = #[]:=by simpa using h2
  subst h2'
  have h3':=Z7i h3
  refine Z0v ?_
  have e:captured.map a.eval=vs.toArray:=by
   rw [<- ha.evL hv,<- h3',<- Array.toList_map,Array.toArray_toList]
  simp [execOp,heq,Instr.makeFunc,e]
 ·cases ho
end Go.Sx
