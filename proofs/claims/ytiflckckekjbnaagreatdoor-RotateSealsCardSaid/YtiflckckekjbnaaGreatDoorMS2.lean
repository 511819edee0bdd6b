/- Texts of a proof, one behind the other: E15 E16 E17 E18 E19 E20 E21. -/
import Derived.Test.YtiflckckekjbnaaGreatDoorMS1
import Derived.Laws.Externs
namespace Go.Sx
open Go Go.RowKit
set_option linter.all false
section
variable {C:Cfg} {m:List Zf} {t:TS} {K:KN}
theorem Zv5 {k:IntKind} {N off n:Nat} {xs:List Int} (h:off+n≤N):((intsCells k N xs).drop off).take n=(tk xs off n).map (Value.int k):=by
  apply List.ext_getElem?
  intro j
  by_cases hj:j<n
  · rw [List.getElem?_take_of_lt hj,List.getElem?_drop,Zq0,if_pos (by omega),List.getElem?_map,List.getElem?_eq_getElem (by rw [Z0m]; exact hj)]
    simp [tk]
  · rw [List.getElem?_eq_none (by rw [List.length_take]; omega),List.getElem?_eq_none (by rw [List.length_map,Z0m]; omega)]
theorem Z0uq {size:Nat} {b off n c:Nat} {cs:List Value} (hl:cs.length=n*size) (h1 : ∀ u∈cs,one1 u=true)
    (h : ∀ w,Sat C.W0 C.S m w→∀ i,i<n*size→w.cell? ⟨b,off+i,none⟩=cs[i]?):Zxh C m size (.slice (some ⟨b,off,none⟩) n c) n cs :=
  ⟨fun _=>rfl,fun w hw k hk=>Zkb hl (h w hw) hk,hl,h1⟩
theorem Zrp {w n:Nat} {g:Nat→List Value} (h : ∀ i,i<n→(g i).length=w ∧ ∀ u∈g i,one1 u=true) : ∀ u∈Z0t w n g,one1 u=true:=by
  intro u hu
  unfold Z0t at hu
  obtain ⟨i,hi,hu⟩:=List.mem_flatMap.1 hu
  obtain ⟨h1,h2⟩:=h i (by simpa using hi)
  rw [Z8b h1] at hu
  exact h2 u hu
def ExtF (P:Program) (f:FuncId) (e:Array Value→Sem Value):Prop :=
  ∃ fn,P.funcs[f]? = some fn∧(fn.name == "runtime.NumGoroutine")=false∧fn.body.isNone=true∧Extern.findNext fn=none∧Extern.find fn=some e
theorem Ze7 {f:FuncId} {args:List Operand} {vs:List Value} {v:Value} {e:Array Value→Sem Value} (ha:evL t args=some vs) (he:ExtF C.P f e) (hr : ∀ w,(e vs.toArray).run C.P w = .ok v w):Q1 C m t (.xcall f args) v:=by
  intro o ho a hat w hw
  obtain ⟨fn,h1,h2,h3,h4,h5⟩:=he
  refine Z0h ?_
  simp only [Z9g] at ho
  split at ho
  · rename_i c heq
    simp only [Bool.and_eq_true] at ho
    obtain ⟨ho1,ho2⟩:=ho
    have hc:c.callee = .value (.func f):=by
      revert ho1
      cases c.callee <;> simp
      rename_i x
      cases x <;> simp
    have hargs:c.args.map a.eval=vs.toArray:=by
      have e1:=Z81 ho2
      have e2:=hat.evL ha
      apply Array.ext'
      rw [Array.toList_map,e1,e2]
    have h6:=run_callFunc_extern (P:=C.P) h1 h2 h3 h4 h5 vs.toArray w
    rw [hr w] at h6
    have hev:a.eval (.func f) = .func (.func f) #[] #[]:=rfl
    simp only [execOp,heq,resolve,hc,hev,Deferred.ofValue,Sem.run_bind,Sem.run_pure,Result.andThen_ok,invoke,Array.append_empty,Array.empty_append,hargs]
    rw [h6]; rfl
  · cases ho
def Zf0:Array Value→Sem Value:=fun args=>do
  let (x,y,b) ← Extern.MathBitsCarry.three "Sub64" args
  pure (Extern.MathBitsCarry.pair ((x+Extern.MathBitsCarry.m64-y-b)%Extern.MathBitsCarry.m64) (if x<y+b then 1 else 0))
theorem Zwq {P:Program} (x y c:Int) (hx:0≤x) (hy:0≤y) (hy2:y<18446744073709551616) (hc0:0≤c) (hc:c≤1) (w:World) :
    (Zf0 #[.int .u64 x,.int .u64 y,.int .u64 c]).run P w = .ok (.tuple #[.int .u64 ((x-y-c)%18446744073709551616),.int .u64 (if x<y+c then 1 else 0)]) w:=by
  have key : ∀ k:Nat,k≤1→(Zf0 #[.int .u64 x,.int .u64 y,.int .u64 (k:Int)]).run P w =
      .ok (Extern.MathBitsCarry.pair ((x.toNat+Extern.MathBitsCarry.m64-y.toNat-k)%Extern.MathBitsCarry.m64) (if x.toNat<y.toNat+k then 1 else 0)) w:=by
    intro k hk
    have:k=0∨k=1:=by omega
    rcases this with rfl | rfl <;> rfl
  obtain ⟨k,rfl⟩:=Int.eq_ofNat_of_zero_le hc0
  rw [key k (by omega)]
  obtain ⟨X,rfl⟩:=Int.eq_ofNat_of_zero_le hx
  obtain ⟨Y,rfl⟩:=Int.eq_ofNat_of_zero_le hy
  simp only [Extern.MathBitsCarry.pair,Extern.MathBitsCarry.m64,Int.toNat_natCast]
  have e1:Int.ofNat ((X+2^64-Y-k)%2^64)=((X:Int)-Y-k)%18446744073709551616:=by
    simp only [Int.ofNat_eq_natCast]; omega
  have e2:Int.ofNat (if X<Y+k then 1 else 0)=if (X:Int)<Y+k then 1 else 0:=by
    by_cases h:X<Y+k
    · rw [if_pos h,if_pos (by omega)]; rfl
    · rw [if_neg h,if_neg (by omega)]; rfl
  rw [e1,e2]
def ieq (n:Nat) (a b:List Int):Bool:=decide (tk a 0 n=tk b 0 n)
theorem Zv3 {k:IntKind} {n:Nat} {a b:List Int}:ieq n a b=true↔cells [.ints k n a]=cells [.ints k n b]:=by
  simp only [ieq,decide_eq_true_eq,cells,Seg.cells,List.append_nil,Zv6]
  constructor
  · intro h; rw [h]
  · intro h
    refine List.map_inj_right (f:=Value.int k) (fun x y e=>?_) |>.1 h
    cases e; rfl
theorem Zja {d:Nat} {T:TypeId} {z z':List Seg} (hz:cells z=cells z') (h : ∀ b,C.W0.heap.size≤b→K ((d,.pointer (some ⟨b,0,none⟩))::t) (ck b T z'::m)):EF C m t (some d) (.al T z) K :=
  Zr fun b hb=>by
    have:=h b hb
    unfold ck at this ⊢
    rw [hz]; exact this
theorem Z10l {x:Operand} {b p base i len:Nat} {T:TypeId} {fz:Nat×Nat} {s:List Seg} {k:IntKind} {xs:List Int} (hx:ev t x=some (.pointer (some ⟨b,p,none⟩))) (hb:Has b (.cells (cells s).toArray T fz) m)
    (hs:Zcn s base=some (.ints k len xs)) (hp:p=base+i) (hi:i<len):Q1 C m t (.ld 1 false x) (.int k (xs.getD i 0)) :=
  Z2e (base:=base) (i:=i) (by rw [hx,hp,Nat.mul_one]) hb hs hi
theorem Z065 {x y:Operand} {b p base i len:Nat} {T:TypeId} {s q:List Seg} {k:IntKind} {xs:List Int} {z:Int} {m':List Zf} (hx:ev t x=some (.pointer (some ⟨b,p,none⟩))) (hy:ev t y=some (.int k z))
    (hs:Zcn s base=some (.ints k len xs)) (hp:p=base+i) (hi:i<len) (hq:Zcz s base (.ints k len (Z21 xs i z))=some q)
    (hup:Upd b (.cells (cells s).toArray T (0,0)) (.cells (cells q).toArray T (0,0)) m m') (h:K t m'):EF C m t none (.st 1 x y) K :=
  Z001 (base:=base) (i:=i) (by rw [hx,hp,Nat.mul_one]) hy hs hi hq hup h
end
section
variable {α β:Type} {r:β} {G:Prop}
def bnd (x:α) (f:α→Option β):Option β:=f x
def chk (c:Bool) (o:Option β):Option β:=bif c then o else none
def opt (o:Option α) (f:α→Option β):Option β:=o.bind f
def jn {K:Type} (k:K) (g:K→Option β):Option β:=g k
def br (c:Bool) (a b:Option β):Option β:=bif c then a else b
@[irreducible] def big:Nat:=18446744073709551616
theorem Z19:big=18446744073709551616:=by unfold big; rfl
theorem Z0vk {x:α} {f:α→Option β} (h : ∀ z,z=x→f z=some r→G):bnd x f=some r→G:=fun e=>h x rfl e
theorem Z0vl {c:Bool} {o:Option β} (h:c=true→o=some r→G):chk c o=some r→G:=by
  intro e; cases c
  · simp [chk] at e
  · exact h rfl e
theorem Z10d {o:Option α} {f:α→Option β} (h : ∀ y,o=some y→f y=some r→G):opt o f=some r→G:=by
  intro e; cases o with
  | none=>simp [opt] at e
  | some y=>exact h y rfl e
theorem jn_i {K:Type} {k:K} {g:K→Option β} (h : ∀ k',k'=k→g k'=some r→G):jn k g=some r→G:=fun e=>h k rfl e
theorem br_t {c:Bool} {a b:Option β} (h:br c a b=some r) (hc:c=true):a=some r:=by subst hc; exact h
theorem br_f {c:Bool} {a b:Option β} (h:br c a b=some r) (hc:c=false):b=some r:=by subst hc; exact h
theorem Zw {a:β} (h:a=r→G):some a=some r→G:=fun e=>h (Option.some.inj e)
theorem Z05:(none:Option β)=some r→G:=fun e=>by cases e
end
def inB (z:Int) (n:Nat):Bool:=decide (0≤z)&&decide (z<n)
theorem Z09 {z:Int} {n:Nat} (h:inB z n=true):0≤z∧z<n:=by simpa [inB] using h
theorem Z01 {z:Int} {n:Nat} (h:inB z n=true):z.toNat<n:=by have:=Z09 h; omega
def Zks (lo hi:Int) (n:Nat):Bool:=decide (0≤lo)&&decide (lo≤hi)&&decide (hi≤n)
theorem Znu {lo hi:Int} {n:Nat} (h:Zks lo hi n=true):0≤lo∧lo≤hi∧hi≤n:=by simp [Zks] at h; omega
abbrev Zn (k:IntKind) (p q:Int):Int:=p.fdiv (2^min q.toNat k.bits)
abbrev Zj (k:IntKind) (p q:Int):Int:=k.wrap (p*2^min q.toNat k.bits)
def Zcp {α:Type} (z:α) (xs:List α) (i:Nat) (v:α):List α:=if i<xs.length then xs.set i v else xs++(List.replicate (i-xs.length) z ++ [v])
theorem Z2z {α:Type} (z:α) (xs:List α) (i j:Nat) (v:α):(Zcp z xs i v).getD j z=if j=i then v else xs.getD j z:=by
  unfold Zcp
  by_cases h:i<xs.length
  · rw [if_pos h]
    by_cases hj:j=i
    · subst hj; simp [List.getD,h]
    · simp [List.getD,List.getElem?_set,hj,Ne.symm hj]
  · rw [if_neg h]
    simp only [List.getD]
    by_cases hj:j<xs.length
    · rw [List.getElem?_append_left hj,if_neg (by omega)]
    · rw [List.getElem?_append_right (by omega)]
      by_cases hji:j=i
      · subst hji; rw [List.getElem?_append_right (by simp)]; simp
      · rw [if_neg hji,List.getElem?_eq_none (l:=xs) (by omega)]
        by_cases hlt:j<i
        · rw [List.getElem?_append_left (by simp; omega),List.getElem?_replicate]; split <;> rfl
        · rw [List.getElem?_eq_none (by simp; omega)]
theorem Zb8 {α:Type} {z:α} {xs:List α} {i:Nat} {v:α} (h:i<xs.length):Zcp z xs i v=xs.set i v:=if_pos h
inductive Take (ms:List Zf):List Zf→List Zf→Prop
  | here {m:List Zf}:Take ms (ms++m) m
  | there {c:Zf} {m m':List Zf}:Take ms m m'→Take ms (c::m) (c::m')
  | app {ns m m':List Zf}:Take ms m m'→Take ms (ns++m) (ns++m')
inductive Z6p (c:Zf):List Zf→List Zf→Prop
  | here {m:List Zf}:Z6p c (c::m) m
  | there {c':Zf} {m m':List Zf}:Z6p c m m'→Z6p c (c'::m) (c'::m')
  | app {ns m m':List Zf}:Z6p c m m'→Z6p c (ns++m) (ns++m')
theorem Zyk (ms ns m:List Zf):List.Perm (ms++(ns++m)) (ns++(ms++m)):=by
  rw [← List.append_assoc,← List.append_assoc]
  exact List.Perm.append_right m List.perm_append_comm
theorem Take.perm {ms m m':List Zf} (h:Take ms m m'):List.Perm (ms++m') m:=by
  induction h with
  | here=>exact List.Perm.refl _
  | there _ ih=>exact List.perm_middle.trans (ih.cons _)
  | app _ ih=>exact (Zyk _ _ _).trans (List.Perm.append_left _ ih)
theorem Z6p.perm {c:Zf} {m m':List Zf} (h:Z6p c m m'):List.Perm (c::m') m:=by
  induction h with
  | here=>exact List.Perm.refl _
  | there _ ih=>exact (List.Perm.swap _ _ _).trans (ih.cons _)
  | app _ ih=>exact (List.perm_middle.symm).trans (List.Perm.append_left _ ih)
inductive Zu0:List Zf→List Zf→Prop
  | nil {m:List Zf}:Zu0 [] m
  | all {ms M m m1:List Zf}:Take ms m m1→Zu0 M m1→Zu0 (ms++M) m
  | one {c:Zf} {M m m1:List Zf}:Z6p c m m1→Zu0 M m1→Zu0 (c::M) m
  | no {M m:List Zf}:Zu0 M m→Zu0 ([]++M) m
theorem Zu0.rest {M m:List Zf} (h:Zu0 M m) : ∃ r,List.Perm (M++r) m:=by
  induction h with
  | nil=>exact ⟨_,List.Perm.refl _⟩
  | all h1 _ ih =>
    obtain ⟨r,hr⟩:=ih
    exact ⟨r,by rw [List.append_assoc]; exact (List.Perm.append_left _ hr).trans h1.perm⟩
  | one h1 _ ih =>
    obtain ⟨r,hr⟩:=ih
    exact ⟨r,by rw [List.cons_append]; exact (hr.cons _).trans h1.perm⟩
  | no _ ih=>exact ih
theorem Sat.psub {W0:World} {S:List Nat} {M m:List Zf} {w:World} (h:Sat W0 S m w) (hs:Zu0 M m):Sat W0 S M w:=by
  obtain ⟨r,hr⟩:=hs.rest
  exact (h.perm hr).sublist (List.sublist_append_left _ _)
theorem Sat.take {W0:World} {S:List Nat} {ms m m':List Zf} {w:World} (h:Sat W0 S m w) (hs:Take ms m m'):Sat W0 S ms w :=
  (h.perm hs.perm).sublist (List.sublist_append_left _ _)
structure Fit (T:TS) (M:List Zf) (t:TS) (m:List Zf):Prop where
  t:subT T t
  m:Zu0 M m
section
variable {C:Cfg} {t:TS} {m:List Zf} {kn:KN} {ke:KE}
theorem Zg {c:IC} {T:TS} {M:List Zf} (hl:Fit T M t m) (h:WC C c T M kn ke):WC C c t m kn ke:=by
  intro hm c0 hok Q a w ha hw hc
  exact h hm c0 hok Q a w (ha.drop (Zx2 hl.t)) (hw.psub hl.m) hc
theorem Zh {a:IC} {G:TS→List Zf→Prop} (h1:WC C a t m G ke) (h2 : ∀ t m,G t m→kn t m):WC C a t m kn ke:=h1.mono h2
theorem Zo {c:IC} (J:Nat→TS→List Zf→Prop) (n0:Nat) (h0:J n0 t m)
    (round : ∀ n t m,J n t m→WC C c t m (fun t' m'=>∃ n',n'<n∧J n' t' m') ke):WC C (.loop c) t m kn ke:=by
  intro hm c0 hok Q a w ha hw hc
  cases c0 <;> first | (simp [okC] at hok; done) | skip
  rename_i c1
  simp only [okC] at hok
  refine Zxc (X:=Nat×TS×List Zf) (fun x a w=>J x.1 x.2.1 x.2.2∧Zaq C.n x.2.1 a∧Sat C.W0 C.S x.2.2 w) (fun x=>x.1) (x0:=(n0,t,m)) ⟨h0,ha,hw⟩ ?_
  rintro ⟨n,t1,m1⟩ a w ⟨hI,ha,hw⟩
  refine round n t1 m1 hI hm c1 hok _ a w ha hw ⟨?_,hc.b,hc.r⟩
  rintro t' m' ⟨n',hlt,hJ⟩ a' w' ha' hw'
  exact ⟨(n',t',m'),⟨hJ,ha',hw'⟩,hlt⟩
end
structure El (α:Type) where
  w:Nat
  cell:α→List Value
  len : ∀ a,(cell a).length=w
  one : ∀ a,∀ v∈cell a,one1 v=true
  pos:0<w
  z:α
abbrev El.int (k:IntKind):El Int:=⟨1,fun x=>[.int k x],fun _=>rfl,fun _ v h=>by simp at h; subst h; rfl,by decide,0⟩
def Z9j {α:Type} (E:El α) (xs:List α):Nat→List Value:=fun i=>E.cell (xs.getD i E.z)
theorem Zci : ∀ v∈cells [],one1 v=true:=fun v h=>by cases h
theorem Z4z {s:Seg} {r:List Seg} (h1 : ∀ v∈s.cells,one1 v=true) (h2 : ∀ v∈cells r,one1 v=true) : ∀ v∈cells (s::r),one1 v=true:=by
  intro v hv
  simp only [cells,List.mem_append] at hv
  exact hv.elim (h1 v) (h2 v)
theorem Z8o {k:IntKind} {n:Nat} {xs:List Int} : ∀ v∈(Seg.ints k n xs).cells,one1 v=true:=by
  intro v hv; simp only [Seg.cells,intsCells,List.mem_map] at hv; obtain ⟨_,_,rfl⟩:=hv; rfl
theorem Zga {α:Type} {E:El α} {n:Nat} {xs:List α} : ∀ v∈(Seg.rows E.w n (Z9j E xs)).cells,one1 v=true:=by
  intro v hv
  exact Zrp (w:=E.w) (n:=n) (g:=Z9j E xs) (fun i _=>⟨E.len _,E.one _⟩) v hv
theorem Zy2 {α:Type} {E:El α} (x:α):fit E.w (E.cell x)=E.cell x:=Z8b (E.len x)
def Z4y {α:Type} (E:El α) (W:World) (v:Value) (xs:List α):Prop :=
  (v = .slice none 0 0∧xs = [])∨(∃ b o cp,v = .slice (some ⟨b,o,none⟩) xs.length cp∧xs.length≤cp ∧ ∀ i,i<xs.length→∀ j,j<E.w→W.cell? ⟨b,o+(i*E.w+j),none⟩=(E.cell (xs.getD i E.z))[j]?) ∨ ∃ a,v = .slice (some a) 0 0∧xs = []
def Zkq {α:Type} (C:Cfg) (m:List Zf) (E:El α) (v:Value) (xs:List α):Prop:=∀ w,Sat C.W0 C.S m w→Z4y E w v xs
def Z0b {α:Type} (E:El α) (v:Value) (ms:List Zf) (xs:List α):Prop :=
  (v = .slice none 0 0∧xs = []∧ms = []) ∨ ∃ b o cp T cs,v = .slice (some ⟨b,o,none⟩) xs.length cp∧xs.length≤cp∧ms = [⟨b,.cells (cells cs).toArray T (0,0)⟩]∧o+cp*E.w≤width cs ∧
    ∀ i,i<xs.length→∀ j,j<E.w→(cells cs)[o+(i*E.w+j)]? = (E.cell (xs.getD i E.z))[j]?
theorem Z59 {α:Type} {E:El α}:Z0b E (.slice none 0 0) [] []:=.inl ⟨rfl,rfl,rfl⟩
theorem Z00g {α:Type} {E:El α} {W:World}:Z4y E W (.slice none 0 0) []:=.inl ⟨rfl,rfl⟩
theorem Z4y.own {α:Type} {E:El α} {v:Value} {ms:List Zf} {xs:List α} (h:Z0b E v ms xs) {W0:World} {S:List Nat} {w:World} (hw:Sat W0 S ms w):Z4y E w v xs:=by
  rcases h with ⟨h1,h2,h3⟩ | ⟨b,o,cp,T,cs,h1,h2,h3,h4,h5⟩
  · exact .inl ⟨h1,h2⟩
  · refine .inr (.inl ⟨b,o,cp,h1,h2,fun i hi j hj=>?_⟩)
    subst h3
    rw [Zbc (hw.own _ List.mem_cons_self),h5 i hi j hj]
theorem Z4y.same {α:Type} {E:El α} {W w:World} {v:Value} {xs:List α} (h:Z4y E W v xs) (hb : ∀ b o x,(∀ a n c,v = .slice (some a) n c→a.block=b)→W.cell? ⟨b,o,none⟩=some x→w.cell? ⟨b,o,none⟩=some x):Z4y E w v xs:=by
  rcases h with h | ⟨b,o,cp,h1,h2,h3⟩ | h
  · exact .inl h
  rotate_left 1
  · exact .inr (.inr h)
  · refine .inr (.inl ⟨b,o,cp,h1,h2,fun i hi j hj=>?_⟩)
    have h4:=h3 i hi j hj
    have h5:j<(E.cell (xs.getD i E.z)).length:=by rw [E.len]; exact hj
    rw [List.getElem?_eq_getElem h5] at h4 ⊢
    exact hb b _ _ (fun a n c e=>by rw [h1] at e; injection e with e; injection e with e; rw [← e]) h4
theorem Zj6 {W:World} {b o:Nat} {x:Value} (h:W.cell? ⟨b,o,none⟩=some x):b<W.heap.size:=by
  rcases Nat.lt_or_ge b W.heap.size with h1 | h1
  · exact h1
  · have:W.heap[b]? = none:=Array.getElem?_eq_none h1
    simp [World.cell?,this] at h
theorem Z4y.below {α:Type} {E:El α} {W w:World} {v:Value} {xs:List α} (h:Z4y E W v xs) (hb:Below W.heap.size W w):Z4y E w v xs :=
  h.same fun b o x _ hx=>by rw [hb.cell (p:=⟨b,o,none⟩) (Zj6 hx)]; exact hx
section
variable {α:Type} {C:Cfg} {m:List Zf} {t:TS} {K:KN} {E:El α} {v:Value} {xs:List α}
def Z8f (v:Value) (xs:List α) (S:List Nat):Prop:=∀ a n c,v = .slice (some a) n c→0<xs.length→a.block∉S
theorem Z16 (h:Z4y E C.W0 v xs) (hS:Z8f v xs C.S):Zkq C m E v xs:=by
  intro w hw
  rcases h with h | ⟨b',o',cp,h1,h2,h3⟩ | h
  · exact .inl h
  rotate_left 1
  · exact .inr (.inr h)
  · by_cases h0:0<xs.length
    · refine Z4y.same (.inr (.inl ⟨b',o',cp,h1,h2,h3⟩)) fun b o x hb hx=>?_
      have e:=hb _ _ _ h1
      subst e
      rw [← hx]
      unfold World.cell?; simp only [hw.fr.block _ (Zj6 hx) (hS _ _ _ h1 h0)]
    · exact .inr (.inl ⟨b',o',cp,h1,h2,fun i hi=>by omega⟩)
theorem Z1f:Z8f v xs []:=fun _ _ _ _ _=>by simp
theorem Zd7 {W0 w:World} {ms m1:List Zf} {b:Nat} {o:Obj} {T:List Nat} (hO:Z0b E v ms xs) (hT:Take ms m m1) (hb:Has b o m1) (hw:Sat W0 T m w):Z8f v xs [b]:=by
  rcases hO with ⟨h1,h2,h3⟩ | ⟨b1,o1,cp,T1,cs,h1,h2,h3,h4,h5⟩
  · intro a n c e h0; subst h2; simp at h0
  · intro a n c e h0
    subst h1
    injection e with e; injection e with e; subst e
    subst h3
    have hd:=(hw.perm hT.perm).dist
    simp only [List.cons_append,List.nil_append,List.map_cons,List.nodup_cons] at hd
    intro hm
    simp only [List.mem_singleton] at hm
    exact hd.1 (hm▸List.mem_map.2 ⟨_,hb.mem,rfl⟩)
theorem Znn {W0 w:World} {b:Nat} {o:Obj} (h:Z4y E W0 v xs) (hb:Has b o m) (hw:Sat W0 [] m w):Z8f v xs [b]:=by
  intro a n c e h0
  rcases h with ⟨h1,h2⟩ | ⟨b',o',cp,h1,h2,h3⟩ | ⟨_,_,h2⟩
  · subst h2; simp at h0
  rotate_left 1
  · subst h2; simp at h0
  · rw [h1] at e
    injection e with e; injection e with e; subst e
    intro hm
    simp only [List.mem_singleton] at hm
    have h4:=h3 0 h0 0 E.pos
    have h5:0<(E.cell (xs.getD 0 E.z)).length:=by rw [E.len]; exact E.pos
    rw [List.getElem?_eq_getElem h5] at h4
    have:=Zj6 h4
    rcases hw.base _ hb.mem with h6 | h6
    · simp only at h6; omega
    · simp at h6
theorem Zue {W0 w:World} {b b' n c:Nat} {o:Obj} {c':Zf} {m1:List Zf} {T:List Nat} {a:Addr} (hT:Z6p c' m m1) (hb:Has b o m1) (hw:Sat W0 T m w) (ha:a.block=c'.b):Z8f (.slice (some a) n c) xs [b]:=by
  intro a' n' c1 e h0
  injection e with e; injection e with e; subst e
  have hd:=(hw.perm hT.perm).dist
  simp only [List.map_cons,List.nodup_cons] at hd
  intro hm
  simp only [List.mem_singleton] at hm
  exact hd.1 (List.mem_map.2 ⟨_,hb.mem,by rw [← ha,hm]⟩)
theorem Z95 {b o l n w:Nat}:(Z3l b o l n w).block=b:=by unfold Z3l; split <;> rfl
theorem Z0a {ms mr:List Zf} (hO:Z0b E v ms xs) (hT:Take ms m mr):Zkq C m E v xs:=fun _ hw=>Z4y.own hO (hw.take hT)
theorem Z04t {ms:List Zf} (hO:Z0b E v ms xs):Zkq C ms E v xs:=fun _ hw=>Z4y.own hO hw
theorem Z17e {ms mr:List Zf} (h:Zkq C ms E v xs) (hT:Take ms m mr):Zkq C m E v xs:=fun w hw=>h w (hw.take hT)
theorem Z04s:Zkq C m E (.slice none 0 0) []:=fun _ _=>Z00g
theorem iz {k:IntKind} {z e:Int} {op:IOp} (h:z=e) (q:Q1 C m t op (.int k e)):Q1 C m t op (.int k z):=h▸q
def Zaz:Value→Addr
  | .slice (some a) _ _=>a
  | _=>⟨0,0,none⟩
theorem Zup {s:List Seg} {c:Nat} {u:Value} (h:Zfy s c=some u):c<width s:=by
  rw [Zfz] at h
  have:=(List.getElem?_eq_some_iff.1 h).1
  rwa [cells_length] at this
theorem Z0c0 {x:Operand} {j c:Nat} {s:List Seg} {u:Value} (hx:ev t x=some (.pointer (some ⟨(Zaz v).block,(Zaz v).off+j*E.w+c,none⟩))) (hs:Zkq C m E v xs) (hj:j<xs.length) (hc:E.cell (xs.getD j E.z)=cells s) (hp:Zfy s c=some u) :
    Q1 C m t (.ld 1 false x) u:=by
  intro o ho a ha w hw
  rcases hs w hw with ⟨h1,h2⟩ | ⟨b,o1,cp,h1,h2,h3⟩ | ⟨_,_,h2⟩
  · subst h2; simp at hj
  rotate_left 1
  · subst h2; simp at hj
  · subst h1
    refine Z0h ?_
    have hw:width s=E.w:=by rw [← cells_length,← hc,E.len]
    have hlt:=Zup hp
    rw [Z5t (l:=[u]) ho (ha.ev hx) rfl (fun k hk=>by
      obtain rfl:k=0:=by omega
      have:=h3 j hj c (by omega)
      simp only [Zaz,Nat.add_zero,List.getElem?_cons_zero]
      rw [show o1+j*E.w+c=o1+(j*E.w+c) by omega,this,hc,← Zfz]
      exact hp) (fun _=>rfl)]
    rfl
theorem Z33 {x:Operand} {j:Nat} {s:List Seg} {u:Value} (hx:ev t x=some (.pointer (some ⟨(Zaz v).block,(Zaz v).off+j*E.w,none⟩))) (hs:Zkq C m E v xs) (hj:j<xs.length) (hc:E.cell (xs.getD j E.z)=cells s) (hp:Zfy s 0=some u) :
    Q1 C m t (.ld 1 false x) u:=Z0c0 (c:=0) hx hs hj hc hp
theorem Z10k {k:IntKind} {n:Nat} {x:Operand} {ys:List Int} (hx:ev t x=some (.pointer (some ⟨(Zaz v).block,(Zaz v).off,none⟩))) (hs:Zkq C m (El.int k) v ys) (h0:0<n) (hn:decide (n≤ys.length)=true) :
    Q1 C m t (.ld n true x) (agg [.ints k n (tk ys 0 n)]):=by
  intro o ho a ha w hw
  have hn:=of_decide_eq_true hn
  rcases hs w hw with ⟨h1,h2⟩ | ⟨b,o1,cp,h1,h2,h3⟩ | ⟨_,_,h2⟩
  · subst h2; simp at hn; omega
  rotate_left 1
  · subst h2; simp at hn; omega
  · subst h1
    refine Z0h ?_
    rw [Z5t (l:=cells [.ints k n (tk ys 0 n)]) ho (ha.ev hx) (by rw [cells_length]; rfl) (fun i hi=>?_) (fun h=>by cases h)]
    · rfl
    · have:=h3 i (by omega) 0 (El.int k).pos
      simp only [Zaz,cells,Seg.cells,List.append_nil]
      simp only [Nat.mul_one,Nat.add_zero] at this
      rw [this,Z2d hi,Zkk,if_pos hi,Nat.zero_add]
      rfl
def Zdb (w:Nat) (v:Value) (lo hi:Nat):Value:=match v with
  | .slice (some ⟨b,o,none⟩) _ cp=>.slice (some (Z3l b o lo cp w)) (hi-lo) (cp-lo)
  | .slice (some a) n c=>.slice (some a) n c
  | _=>.slice none 0 0
theorem Zj9 {w:Nat} {a:Addr}:Zdb w (.slice (some a) 0 0) 0 0 = .slice (some a) 0 0:=by
  obtain ⟨b,o,sp⟩:=a
  cases sp with
  | none=>simp [Zdb,Z3l]
  | some k=>rfl
theorem Z0c3 {w:Nat} {x:Operand} {lo hi:Option Operand} {lz hz:Int} {a3:Addr} (hx:ev t x=some (.slice (some a3) 0 0)) (hl:Zl6 t 0 lo lz) (hh:Zl6 t (0:Nat) hi hz)
    (hb:lz=0∧hz=0):Q1 C m t (.sls w x lo hi none) (.slice (some a3) 0 0):=by
  obtain ⟨rfl,rfl⟩:=hb
  intro o ho a ha wd hw
  refine Z0h ?_
  simp only [Z9g] at ho
  split at ho
  · rename_i T x' lo' hi' mx' heq
    simp only [Bool.and_eq_true] at ho
    obtain ⟨⟨⟨⟨h1,h2⟩,h3⟩,h4⟩,h5⟩:=ho
    have e1:=Z06 h1; have e2:=Z3v h2; have e3:=Z3v h3; have e4:=Z3v h4
    subst e1; subst e2; subst e3; subst e4
    split at h5
    · rename_i el hu
      simp only [execOp,heq,ha.ev hx]
      refine Zar ?_
      simp only [Instr.sliceAt,Instr.slice,Sem.run_bind,Zt hu,Result.andThen_ok,Sem.run_pure,Z7q (isS:=true) (cap:=0) (mz:=0) ha hl hh .no (by simp) (by omega) (by omega) (by omega) (by omega),Z2p h5]
      simp
    · cases h5
  · cases ho
theorem Z056 {z:α} {ys:List α} {lo n i:Nat} (h:i<n) (hn:lo+n≤ys.length):((ys.drop lo).take n).getD i z=ys.getD (lo+i) z:=by
  simp only [List.getD,List.getElem?_take_of_lt h,List.getElem?_drop]
theorem Zw7 {lz hz:Int} (hs:Zkq C m E v xs) (hb:Zks lz hz xs.length=true):Zkq C m E (Zdb E.w v lz.toNat hz.toNat) ((xs.drop lz.toNat).take (hz.toNat-lz.toNat)):=by
  intro w hw
  have hb:=Znu hb
  have hlen:((xs.drop lz.toNat).take (hz.toNat-lz.toNat)).length=hz.toNat-lz.toNat:=by rw [List.length_take,List.length_drop]; omega
  rcases hs w hw with ⟨h1,h2⟩ | ⟨b,o1,cp,h1,h2,h3⟩ | ⟨a3,h1,h2⟩
  · subst h1; subst h2
    simp only [List.length_nil] at hb
    exact .inl ⟨rfl,by simp⟩
  rotate_left 1
  · subst h1; subst h2
    simp only [List.length_nil] at hb
    have e1:lz.toNat=0:=by omega
    have e2:hz.toNat=0:=by omega
    rw [e1,e2,Zj9]
    exact .inr (.inr ⟨a3,rfl,by simp⟩)
  · subst h1
    by_cases hc:cp=lz.toNat
    · refine .inr (.inl ⟨b,o1,cp-lz.toNat,?_,by omega,fun i hi=>?_⟩)
      · simp only [Zdb,Z3l,hlen,hc,if_true]
      · omega
    · refine .inr (.inl ⟨b,o1+lz.toNat*E.w,cp-lz.toNat,?_,by omega,fun i hi j hj=>?_⟩)
      · simp only [Zdb,Z3l,hlen,hc,if_false]
      · rw [hlen] at hi
        rw [Z056 hi (by omega),← h3 (lz.toNat+i) (by omega) j hj]
        congr 2
        rw [Nat.add_mul]; omega
theorem Z1g {b T base N lo hi mz:Nat} {fz:Nat×Nat} {s:List Seg} {k:IntKind} {ys:List Int} (hb:Has b (.cells (cells s).toArray T fz) m) (hs:Zcn s base=some (.ints k N ys)) (h:lo≤hi∧hi≤mz∧mz≤N) :
    Zkq C m (El.int k) (.slice (some (Z3l b base lo mz 1)) (hi-lo) (mz-lo)) (tk ys lo (hi-lo)):=by
  intro w hw
  by_cases hc:mz=lo
  · refine .inr (.inl ⟨b,base,mz-lo,?_,by rw [Z0m]; omega,fun i hi=>?_⟩)
    · simp only [Z3l,hc,if_true,Z0m]
    · rw [Z0m] at hi; omega
  · refine .inr (.inl ⟨b,base+lo*1,mz-lo,?_,by rw [Z0m]; omega,fun i hi j hj=>?_⟩)
    · simp only [Z3l,hc,if_false,Z0m]
    · rw [Z0m] at hi
      obtain rfl:j=0:=by simp only at hj; omega
      have hseg:=Z6u hs (lo+i) (by simp only [Seg.width]; omega)
      rw [Zkk,if_pos hi]
      have:=hw.own _ hb.mem
      have hcell:w.cell? ⟨b,base+(lo+i),none⟩=(cells s)[base+(lo+i)]? := by
        simp only [World.cell?,this]
        simp
      simp only [Nat.mul_one,Nat.add_zero]
      rw [show base+lo+i=base+(lo+i) by omega,hcell,hseg]
      simp only [Seg.cells]
      rw [Z2d (by omega)]
      rfl
theorem EF.perm {d:Option Nat} {op:IOp} {m':List Zf} (hp:List.Perm m' m) (h:EF C m' t d op K):EF C m t d op K :=
  fun o ho hd a ha w hw=>h o ho hd a ha w (hw.perm hp)
theorem Z5i {x y:Operand} {b off:Nat} {T:TypeId} {s q q':List Seg} {u:Value} {m':List Zf} (e:q'=q) (hx:ev t x=some (.pointer (some ⟨b,off,none⟩))) (hy:ev t y=some u) (hv:one1 u=true) (hq:putC s off u=some q')
    (hup:Upd b (.cells (cells s).toArray T (0,0)) (.cells (cells q).toArray T (0,0)) m m') (h:K t m'):EF C m t none (.st 1 x y) K:=by subst e; exact Zlf hx hy hv hq hup h
theorem Z1e {x y:Operand} {b base i len:Nat} {T:TypeId} {s q:List Seg} {k:IntKind} {ys ys':List Int} {z:Int} {m':List Zf} (e:ys'=Z21 ys i z) (hx:ev t x=some (.pointer (some ⟨b,base+i*1,none⟩))) (hy:ev t y=some (.int k z))
    (hs:Zcn s base=some (.ints k len ys)) (hi:i<len) (hq:Zcz s base (.ints k len ys')=some q)
    (hup:Upd b (.cells (cells s).toArray T (0,0)) (.cells (cells q).toArray T (0,0)) m m') (h:K t m'):EF C m t none (.st 1 x y) K:=by subst e; exact Z001 hx hy hs hi hq hup h
theorem Zz5 (ys:List α) (i:Nat) (y:α):Z9j E (Zcp E.z ys i y)=updR (Z9j E ys) i (E.cell y):=by
  funext j
  simp only [Z9j,updR,Z2z]
  split <;> rfl
theorem Zjb {x y:Operand} {b base i len:Nat} {T:TypeId} {s q:List Seg} {u:Value} {y0:α} {ys ys':List α} {m':List Zf} (e:ys'=Zcp E.z ys i y0) (hx:ev t x=some (.pointer (some ⟨b,base+i*E.w,none⟩))) (hy:ev t y=some u) (hu:u.cells.toList=E.cell y0)
    (hs:Zcn s base=some (.rows E.w len (Z9j E ys))) (hi:i<len) (hq:Zcz s base (.rows E.w len (Z9j E ys'))=some q)
    (hup:Upd b (.cells (cells s).toArray T (0,0)) (.cells (cells q).toArray T (0,0)) m m') (h:K t m'):EF C m t none (.st E.w x y) K:=by
  subst e
  rw [Zz5] at hq
  obtain ⟨e1,e2,e3⟩:=Zed hq
  have hw:=Zco hs
  simp only [Seg.width] at hw e3
  have hle:i*E.w+E.w≤len*E.w:=by rw [← Nat.succ_mul]; exact Nat.mul_le_mul_right E.w hi
  have hpl:(E.cell y0).length=E.w:=E.len y0
  have key:cells q=Z0y (cells s) (base+i*E.w) (E.cell y0):=by
    rw [e1]
    simp only [Seg.cells,Znd E.w len (Z9j E ys) i (E.cell y0) hi hpl]
    exact Zcq (by rw [Z0z,cells_length]; omega) (by rw [Z0z]; omega) (fun j hj=>Z6u hs j (by rw [Z0z] at hj; exact hj))
  rw [key] at hup
  exact Zle hx hy (vs:=E.cell y0) hu hpl hup (by rw [cells_length]; omega) (E.one y0) h
theorem Z17 (l:List Value):cells (l.map Seg.one)=l:=by
  induction l with
  | nil=>rfl
  | cons a r ih=>simp [cells,Seg.cells,ih]
theorem Z55 (l:List Value):width (l.map Seg.one)=l.length:=by rw [← cells_length,Z17]
def cellsOf (E:El α) (xs:List α):List Value:=Z0t E.w xs.length (Z9j E xs)
theorem Z0c:(cellsOf E xs).length=xs.length*E.w:=Z0z _ _ _
theorem Z44 {i j:Nat} (hi:i<xs.length) (hj:j<E.w):(cellsOf E xs)[i*E.w+j]? = (E.cell (xs.getD i E.z))[j]? := by
  unfold cellsOf
  rw [Z6j hi hj]
  simp only [Z9j,Zy2]
theorem Zpr : ∀ u∈cellsOf E xs,one1 u=true:=Zrp fun i _=>⟨E.len _,E.one _⟩
theorem Zqi {w:World} (hs:Zkq C m E v xs) (hw:Sat C.W0 C.S m w):Zxh C m E.w v xs.length (cellsOf E xs):=by
  rcases hs w hw with ⟨h1,h2⟩ | ⟨b,o1,cp,h1,h2,h3⟩ | ⟨a3,h1,h2⟩
  · subst h1; subst h2; exact Zse
  rotate_left 1
  · subst h1; subst h2; exact Zse
  · subst h1
    refine Z0uq Z0c Zpr fun w' hw' i hi=>?_
    rcases hs w' hw' with ⟨h1',_⟩ | ⟨b',o1',cp',h1',h2',h3'⟩ | ⟨_,_,h2'⟩
    · cases h1'
    rotate_left 1
    · subst h2'; simp at hi
    · injection h1' with h1' _ h1c
      injection h1' with h1'
      injection h1' with hb ho _
      subst hb; subst ho
      have hp:=E.pos
      have hq:i / E.w<xs.length:=Nat.div_lt_of_lt_mul (by rw [Nat.mul_comm]; exact hi)
      have hr:=Nat.mod_lt i hp
      have he:i / E.w*E.w+i%E.w=i:=by have:=Nat.div_add_mod i E.w; rw [Nat.mul_comm] at this; exact this
      have:=h3' (i / E.w) hq (i%E.w) hr
      rw [he] at this
      rw [this,← Z44 hq hr,he]
theorem Zg1 {x y:Operand} {ms mr:List Zf} {i:Nat} {u:Value} {y0:α} {xs':List α} (e:xs'=Zcp E.z xs i y0) (hO:Z0b E v ms xs) (hT:Take ms m mr) (hx:ev t x=some (.pointer (some ⟨(Zaz v).block,(Zaz v).off+i*E.w,none⟩)))
    (hy:ev t y=some u) (hu:u.cells.toList=E.cell y0) (hi:i<xs.length) (h : ∀ ms',Z0b E v ms' xs'→K t (ms'++mr)):EF C m t none (.st E.w x y) K:=by
  refine EF.perm hT.perm ?_
  rcases hO with ⟨h1,h2,h3⟩ | ⟨b,o,cp,T,cs,h1,h2,h3,h4,h5⟩
  · subst h2; simp at hi
  · subst h1; subst h3; subst e
    have hle:i*E.w+E.w≤cp*E.w:=by rw [← Nat.succ_mul]; exact Nat.mul_le_mul_right _ (by omega)
    have hpl:(E.cell y0).length=E.w:=E.len y0
    have hin:o+i*E.w+E.w≤(cells cs).length:=by rw [cells_length]; omega
    refine Zle (l:=cells cs) (vs:=E.cell y0) (T:=T) (m':=[⟨b,.cells (cells ((Z0y (cells cs) (o+i*E.w) (E.cell y0)).map Seg.one)).toArray T (0,0)⟩]++mr) hx hy hu hpl ?_ hin (E.one y0) (h _ (.inr ⟨b,o,cp,T,_,?_,?_,rfl,?_,?_⟩))
    · rw [Z17]; exact Upd.here
    · rw [Zb8 hi,List.length_set]
    · rw [Zb8 hi,List.length_set]; exact h2
    · rw [Z55,Z0y,List.length_append,List.length_append,List.length_take,List.length_drop,hpl,cells_length]
      have:=cells_length cs; omega
    · intro i' hi' j hj
      rw [Zb8 hi,List.length_set] at hi'
      rw [Z17,Z9v (by rw [hpl]; exact hin),Z2z,hpl]
      by_cases hii:i'=i
      · subst hii
        rw [if_pos (by omega),if_pos rfl]
        congr 1; omega
      · rw [if_neg hii,if_neg ?_,h5 i' hi' j hj]
        intro hcon
        rcases Nat.lt_or_ge i' i with hl | hl
        · have:i'*E.w+E.w≤i*E.w:=by rw [← Nat.succ_mul]; exact Nat.mul_le_mul_right _ hl
          omega
        · have:i*E.w+E.w≤i'*E.w:=by rw [← Nat.succ_mul]; exact Nat.mul_le_mul_right _ (by omega)
          omega
theorem Zbf {z:α} {ys:List α} {i:Nat} (h:i<xs.length):(xs++ys).getD i z=xs.getD i z:=by simp [List.getD,List.getElem?_append_left h]
theorem Zbg {z:α} {ys:List α} {i:Nat} (h:xs.length≤i):(xs++ys).getD i z=ys.getD (i-xs.length) z:=by simp [List.getD,List.getElem?_append_right h]
theorem Z3f {d:Nat} {T:TypeId} {bytes:Nat} {z:List Seg} {x y:Operand} {ms mr:List Zf} {u:Value} {ys xs':List α} (e:xs'=xs++ys) (hx:ev t x=some v) (hO:Z0b E v ms xs) (hT:Take ms m mr) (hy:ev t y=some u) (hs:Zkq C m E u ys)
    (hsz:decide ((xs.length+ys.length)*bytes≤140737488355328)=true) (h : ∀ v' ms',Z0b E v' ms' xs'→K ((d,v')::t) (ms'++mr)):EF C m t (some d) (.app T E.w bytes z x y) K:=by
  subst e
  have hsz:=of_decide_eq_true hsz
  intro o ho hd a ha w hw
  have hS:Zxh C (ms++mr) E.w u ys.length (cellsOf E ys):=Zqi (w:=w) (fun w' hw'=>hs w' (hw'.perm hT.perm.symm)) (hw.perm hT.perm)
  refine EF.perm hT.perm (EF.less (?_:EF C (ms++mr) t (some d) (.app T E.w bytes z x y) _)) o ho hd a ha w hw
  have hzw:width z=E.w:=by
    simp only [Z9g] at ho
    split at ho
    · simp only [Bool.and_eq_true,Nat.beq_eq] at ho
      exact ho.1.2
    · cases ho
  rcases hO with ⟨h1,h2,h3⟩ | ⟨b,o1,cp,T',cs,h1,h2,h3,h4,h5⟩
  · subst h1; subst h2; subst h3
    refine Z01t hx hy hS (by simpa using hsz) (fun h0=>?_) (fun h0 b' cp' hb' hc'=>?_)
    · have hys:ys = []:=List.eq_nil_of_length_eq_zero h0
      subst hys
      exact ⟨_,h _ _ Z59,List.Sublist.refl _⟩
    · refine ⟨(cellsOf E ys++(List.replicate (cp'-ys.length) (cells z)).flatten).map Seg.one,Z17 _,?_⟩
      refine ⟨_,h _ [⟨b',_⟩] (.inr ⟨b',0,cp',T,_,by simp,by simpa using hc',rfl,?_,?_⟩),List.Sublist.refl _⟩
      · rw [Z55,List.length_append,Z0c]
        simp only [List.length_flatten,List.map_replicate,List.sum_replicate_nat,cells_length,hzw,Nat.zero_add]
        rw [← Nat.add_mul]
        exact Nat.mul_le_mul_right _ (by omega)
      · intro i hi j hj
        simp only [List.nil_append] at hi ⊢
        have:i*E.w+E.w≤ys.length*E.w:=by rw [← Nat.succ_mul]; exact Nat.mul_le_mul_right _ hi
        rw [Z17,Nat.zero_add,List.getElem?_append_left (by rw [Z0c]; omega),Z44 hi hj]
  · subst h1; subst h3
    refine Zzz hx Has.here hy hS h4 h2 hsz (fun hr=>?_) (fun hg b' cp' hb' hc'=>?_)
    · have hle:(xs.length+ys.length)*E.w≤cp*E.w:=Nat.mul_le_mul_right _ hr
      rw [Nat.add_mul] at hle
      have hin:o1+xs.length*E.w+(cellsOf E ys).length≤(cells cs).length:=by rw [Z0c,cells_length]; omega
      refine ⟨(Z0y (cells cs) (o1+xs.length*E.w) (cellsOf E ys)).map Seg.one,[⟨b,.cells (cells ((Z0y (cells cs) (o1+xs.length*E.w) (cellsOf E ys)).map Seg.one)).toArray T' (0,0)⟩]++mr,Z17 _,Upd.here,?_⟩
      refine ⟨_,h _ _ (.inr ⟨b,o1,cp,T',_,by simp,by simpa using hr,rfl,?_,?_⟩),List.Sublist.refl _⟩
      · rw [Z55,Z0y,List.length_append,List.length_append,List.length_take,List.length_drop]
        rw [cells_length] at hin ⊢; omega
      · intro i hi j hj
        rw [Z17,Z9v hin,Z0c]
        rw [List.length_append] at hi
        by_cases hil:i<xs.length
        · have:i*E.w+E.w≤xs.length*E.w:=by rw [← Nat.succ_mul]; exact Nat.mul_le_mul_right _ hil
          rw [if_neg (by omega),Zbf hil,h5 i hil j hj]
        · have e1:i*E.w=xs.length*E.w+(i-xs.length)*E.w:=by rw [← Nat.add_mul]; congr 1; omega
          have:(i-xs.length)*E.w+E.w≤ys.length*E.w:=by rw [← Nat.succ_mul]; exact Nat.mul_le_mul_right _ (by omega)
          rw [if_pos (by omega),Zbg (by omega),show o1+(i*E.w+j)-(o1+xs.length*E.w)=(i-xs.length)*E.w+j by omega,Z44 (by omega) hj]
    · have hle:xs.length*E.w≤cp*E.w:=Nat.mul_le_mul_right _ h2
      have hl1:(((cells cs).drop o1).take (xs.length*E.w)).length=xs.length*E.w:=by rw [List.length_take,List.length_drop,cells_length]; omega
      refine ⟨(((cells cs).drop o1).take (xs.length*E.w)++cellsOf E ys++(List.replicate (cp'-(xs.length+ys.length)) (cells z)).flatten).map Seg.one,Z17 _,?_⟩
      refine ⟨_,h _ [⟨b',_⟩] (.inr ⟨b',0,cp',T,_,by simp,by simpa using hc',rfl,?_,?_⟩),List.Sublist.cons₂ _ (List.sublist_cons_self _ _)⟩
      · rw [Z55,List.length_append,List.length_append,hl1,Z0c]
        simp only [List.length_flatten,List.map_replicate,List.sum_replicate_nat,cells_length,hzw,Nat.zero_add]
        rw [← Nat.add_mul,← Nat.add_mul]
        exact Nat.mul_le_mul_right _ (by omega)
      · intro i hi j hj
        rw [List.length_append] at hi
        rw [Z17,Nat.zero_add]
        by_cases hil:i<xs.length
        · have:i*E.w+E.w≤xs.length*E.w:=by rw [← Nat.succ_mul]; exact Nat.mul_le_mul_right _ hil
          rw [List.append_assoc,List.getElem?_append_left (by rw [hl1]; omega),List.getElem?_take_of_lt (by omega),List.getElem?_drop,h5 i hil j hj,Zbf hil]
        · have e1:i*E.w=xs.length*E.w+(i-xs.length)*E.w:=by rw [← Nat.add_mul]; congr 1; omega
          have:(i-xs.length)*E.w+E.w≤ys.length*E.w:=by rw [← Nat.succ_mul]; exact Nat.mul_le_mul_right _ (by omega)
          rw [List.append_assoc,List.getElem?_append_right (by rw [hl1]; omega),hl1,List.getElem?_append_left (by rw [Z0c]; omega),Zbg (by omega),show i*E.w+j-xs.length*E.w=(i-xs.length)*E.w+j by omega,Z44 (by omega) hj]
def mkB (bytes:Nat) (L N:Int):Bool:=decide (0≤L)&&decide (L≤N)&&decide ((bytes:Int)*N≤281474976710656)&&decide (N≤9223372036854775807)
theorem Zfj {d:Nat} {T:TypeId} {bytes:Nat} {z:List Seg} {l c:Operand} {kl kc:IntKind} {L N:Int} (hz:cells z=E.cell E.z)
    (hl:ev t l=some (.int kl L)) (hc:ev t c=some (.int kc N)) (hB:mkB bytes L N=true)
    (h : ∀ v ms,Z0b E v ms (List.replicate L.toNat E.z)→K ((d,v)::t) (ms++m)):EF C m t (some d) (.mks T bytes z l c) K:=by
  simp only [mkB,Bool.and_eq_true,decide_eq_true_eq] at hB
  obtain ⟨⟨⟨h0,h1⟩,h2⟩,h3⟩:=hB
  refine Z064 hl hc h0 h1 h2 h3 fun b hb=>?_
  refine ⟨(List.replicate N.toNat (cells z)).flatten.map Seg.one,Z17 _,?_⟩
  have hw:(cells z).length=E.w:=by rw [hz,E.len]
  refine h _ [⟨b,_⟩] (.inr ⟨b,0,N.toNat,T,_,by simp,by simp; omega,rfl,?_,?_⟩)
  · rw [Z55]
    simp only [List.length_flatten,List.map_replicate,List.sum_replicate_nat,hw,Nat.zero_add]
    exact Nat.le_refl _
  · intro i hi j hj
    rw [List.length_replicate] at hi
    have e:(List.replicate N.toNat (cells z)).flatten=Z0t E.w N.toNat (fun _=>cells z):=(Zlx hw).symm
    rw [Z17,Nat.zero_add,e,Z6j (by omega) hj,← hw,Z8b rfl,hz]
    simp [List.getD,List.getElem?_replicate,hi]
inductive Bs (E:El α):List α→List Seg→Prop
  | nil:Bs E [] []
  | cons {x:α} {ys:List α} {p q:List Seg}:cells p=E.cell x→Bs E ys q→Bs E (x::ys) (p++q)
theorem Bs.get {q:List Seg} (h:Bs E xs q):width q=xs.length*E.w ∧ ∀ i,i<xs.length→∀ j,j<E.w→(cells q)[i*E.w+j]? = (E.cell (xs.getD i E.z))[j]? := by
  induction h with
  | nil=>exact ⟨by simp [width],fun i hi=>by simp at hi⟩
  | @cons x ys p q hc _ ih =>
    have hp:width p=E.w:=by rw [← cells_length,hc,E.len]
    refine ⟨by rw [Zi5,ih.1,hp,List.length_cons,Nat.succ_mul]; omega,fun i hi j hj=>?_⟩
    rw [Zd8]
    cases i with
    | zero =>
      rw [List.getElem?_append_left (by rw [cells_length,hp]; omega),hc]
      simp
    | succ i =>
      rw [List.length_cons] at hi
      rw [List.getElem?_append_right (by rw [cells_length,hp,Nat.succ_mul]; omega),cells_length,hp,show (i+1)*E.w+j-E.w=i*E.w+j by rw [Nat.succ_mul]; omega,ih.2 i (by omega) j hj]
      simp
theorem Z5h {d:Nat} {T:TypeId} {len:Nat} {z q:List Seg} {parts:List (Nat×Nat×Operand)} (hb:BdR t z parts q) (hB:Bs E xs q) (hl:xs.length=len)
    (h : ∀ v ms,Z0b E v ms xs→K ((d,v)::t) (ms++m)):EF C m t (some d) (.bs T len E.w z parts) K:=by
  subst hl
  refine Z0vo hb fun b hb'=>?_
  obtain ⟨h1,h2⟩:=hB.get
  refine h _ [⟨b,_⟩] (.inr ⟨b,0,xs.length,T,q,rfl,Nat.le_refl _,rfl,by rw [h1]; omega,fun i hi j hj=>?_⟩)
  rw [Nat.zero_add]; exact h2 i hi j hj
theorem Zpq {k:IntKind} {ys:List Int}:cellsOf (El.int k) ys=ys.map (.int k):=by
  apply List.ext_getElem?
  intro i
  by_cases hi:i<ys.length
  · have:=Z44 (E:=El.int k) (xs:=ys) (i:=i) (j:=0) hi (El.int k).pos
    simp only [Nat.mul_one,Nat.add_zero] at this
    rw [this]
    simp [List.getD,List.getElem?_eq_getElem hi]
  · rw [List.getElem?_eq_none (by rw [Z0c]; simp only [Nat.mul_one]; omega),List.getElem?_eq_none (by rw [List.length_map]; omega)]
theorem Zh0 {d:Option Nat} {x y:Operand} {b T base lo hi mz N:Nat} {s q:List Seg} {k:IntKind} {zs zs' ys:List Int} {u:Value} {m':List Zf} (e:zs'=wr zs lo (ys.take (hi-lo)))
    (hx:ev t x=some (.slice (some (Z3l b base lo mz 1)) (hi-lo) (mz-lo))) (hy:ev t y=some u) (hu:Zkq C m (El.int k) u ys) (hs:Zcn s base=some (.ints k N zs)) (hb:lo≤hi∧hi≤mz∧mz≤N)
    (hq:Zcz s base (.ints k N zs')=some q) (hup:Upd b (.cells (cells s).toArray T (0,0)) (.cells (cells q).toArray T (0,0)) m m')
    (h:K (putT d (.int .i64 (Nat.min ys.length (hi-lo):Nat)) t) m'):EF C m t d (.cpy 1 x y) K:=by
  subst e
  intro o ho hd a ha w hw
  have hS:=Zqi hu hw
  rw [Zpq] at hS
  obtain ⟨e1,e2,e3⟩:=Zed hq
  have hsw:=Zco hs
  simp only [Seg.width] at hsw e3
  have hseg : ∀ j,j<(intsCells k N zs).length→(cells s)[base+j]? = (intsCells k N zs)[j]? := fun j hj=>Z6u hs j (by rw [Z0w] at hj; exact hj)
  have hlen:(ys.take (hi-lo)).length=Nat.min ys.length (hi-lo):=by rw [List.length_take]; exact Nat.min_comm _ _
  have hmin:Nat.min ys.length (hi-lo)≤hi-lo:=Nat.min_le_right _ _
  have key:cells q=Z0y (cells s) (base+lo) ((ys.take (hi-lo)).map (.int k)):=by
    rw [e1]
    have hwr:intsCells k N (wr zs lo (ys.take (hi-lo)))=Z0y (intsCells k N zs) lo ((ys.take (hi-lo)).map (.int k)):=by
      have:=Zzt (k:=k) (N:=N) (i:=lo) (xs:=zs) (ys:=ys.take (hi-lo)) (by rw [hlen]; omega)
      simpa [cells,Seg.cells] using this
    simp only [Seg.cells,hwr]
    exact Zcq (by rw [Z0w,cells_length]; omega) (by rw [Z0w,List.length_map,hlen]; omega) hseg
  have hke : ∀ d':Option Nat,K (putT d' (.int .i64 (Nat.min ys.length (hi-lo):Nat)) t) m'→K (match d' with | some d=>(d,.int .i64 (Nat.min ys.length (hi-lo):Nat))::t | none=>t) m':=by
    intro d' hk; cases d' <;> exact hk
  by_cases hc:mz=lo
  · have h0:hi=lo:=by omega
    refine Z000 (w:=1) (dl:=hi-lo) (dc:=mz-lo) (b:=b) (off:=base) (T:=T) (segs:=s) (segs':=q) (m':=m') (by rw [hx]; simp only [Z3l,hc,if_true]) hy hS (by rw [h0]; omega) ?_ hup (hke d h) o ho hd a ha w hw
    rw [key,h0]
    simp [Z0y]
  · refine Z000 (w:=1) (dl:=hi-lo) (dc:=mz-lo) (b:=b) (off:=base+lo) (T:=T) (segs:=s) (segs':=q) (m':=m') (by rw [hx]; simp only [Z3l,hc,if_false,Nat.mul_one]) hy hS (by omega) ?_ hup (hke d h) o ho hd a ha w hw
    rw [key]
    congr 1
    rw [← List.map_take,Nat.mul_one]
    congr 1
    apply List.ext_getElem?
    intro i
    simp only [List.getElem?_take]
    by_cases h1:i<ys.length
    · by_cases h2:i<hi-lo
      · rw [if_pos h2,if_pos (Nat.lt_min.2 ⟨h1,h2⟩)]
      · rw [if_neg h2,if_neg (fun h3=>h2 (Nat.lt_min.1 h3).2)]
    · rw [List.getElem?_eq_none (l:=ys) (by omega)]
      split <;> split <;> rfl
theorem az {τ:Type} (f:τ→Value) {z e:τ} {op:IOp} (h:z=e) (q:Q1 C m t op (f e)):Q1 C m t op (f z):=h▸q
theorem Z0ug {W:World} {lz hz:Int} (h:Z4y E W v xs) (hb:Zks lz hz xs.length=true):Z4y E W (Zdb E.w v lz.toNat hz.toNat) ((xs.drop lz.toNat).take (hz.toNat-lz.toNat)) :=
  Zw7 (C:=⟨default,0,W,[]⟩) (m:=[]) (fun w hw=>h.below hw.now) hb W (Zgo W)
theorem Zuf {S:List Nat} {w lo hi n:Nat} (h:Z8f v xs S):Z8f (Zdb w v lo hi) ((xs.drop lo).take n) S:=by
  intro a k c e h0
  have hx:0<xs.length:=by
    rw [List.length_take,List.length_drop] at h0
    omega
  unfold Zdb at e
  split at e
  · injection e with e; injection e with e; subst e
    rw [Z95]
    exact h _ _ _ rfl hx
  · injection e with e; injection e with e; subst e
    exact h _ _ _ rfl hx
  · cases e
theorem Z00h {W:World} {S:List Nat} {lz hz:Int} (h:Z4y E W v xs∧Z8f v xs S) (hb:Zks lz hz xs.length=true) :
    Z4y E W (Zdb E.w v lz.toNat hz.toNat) ((xs.drop lz.toNat).take (hz.toNat-lz.toNat))∧Z8f (Zdb E.w v lz.toNat hz.toNat) ((xs.drop lz.toNat).take (hz.toNat-lz.toNat)) S :=
  ⟨Z0ug h.1 hb,Zuf h.2⟩
theorem cpy0 {zs' zs ys:List Int} {n:Nat} (e:zs'=wr zs 0 (ys.take n)):zs'=wr zs 0 (ys.take (n-0)):=e
theorem cut4 {lo hi:Int} {n:Nat} (h:Zks lo hi n=true):0≤lo∧lo≤hi∧hi≤(n:Int)∧(n:Int)≤(n:Int):=by have:=Znu h; omega
theorem cutn {lo hi:Int} {n:Nat} (h:Zks lo hi n=true):lo.toNat≤hi.toNat∧hi.toNat≤n∧n≤n:=by have:=Znu h; omega
theorem Zr6 {n:Nat} {x y:Operand} {b off:Nat} {T:TypeId} {s p q:List Seg} {m':List Zf} (hx:ev t x=some (.pointer (some ⟨b,off,none⟩))) (hy:ev t y=some (agg p)) (hn:width p=n) (hq:putL s off p=some q) (hsc : ∀ v∈cells p,one1 v=true)
    (hup:Upd b (.cells (cells s).toArray T (0,0)) (.cells (cells q).toArray T (0,0)) m m') (h:K t m'):EF C m t none (.st n x y) K:=by
  obtain ⟨e1,e2,e3⟩:=Zeq hq
  rw [e1] at hup
  exact Zle hx hy (vs:=cells p) (by simp [agg,Value.cells]) (by rw [cells_length]; exact hn) hup (by rw [cells_length]; omega) hsc h
theorem Zlq {n:Nat} {x:Operand} {b base i w len:Nat} {T:TypeId} {fz:Nat×Nat} {s q p:List Seg} {g:Nat→List Value} (hx:ev t x=some (.pointer (some ⟨b,base+i*w,none⟩))) (hb:Has b (.cells (cells s).toArray T fz) m)
    (hs:Zcn s base=some (.rows w len g)) (hi:i<len) (hq:g i=cells q) (hw:width q=w) (hp:sub q 0 n=some p):Q1 C m t (.ld n true x) (agg p):=Z02u (c:=0) hx hb hs hi hq hw hp
theorem Zoa {b T base N lo hi mz:Nat} {s:List Seg} {k:IntKind} {ys:List Int} (hs:Zcn s base=some (.ints k N ys)) (h:lo≤hi∧hi≤mz∧mz≤N) :
    Z0b (El.int k) (.slice (some (Z3l b base lo mz 1)) (hi-lo) (mz-lo)) [ck b T s] (tk ys lo (hi-lo)):=by
  have hw:=Zco hs
  simp only [Seg.width] at hw
  have key : ∀ i,i<hi-lo→(cells s)[base+(lo+i)]? = some (.int k (ys.getD (lo+i) 0)):=by
    intro i hi'
    have:=Z6u hs (lo+i) (by simp only [Seg.width]; omega)
    rw [this]
    simp only [Seg.cells]
    rw [Z2d (by omega)]
  by_cases hc:mz=lo
  · refine .inr ⟨b,base,mz-lo,T,s,?_,by rw [Z0m]; omega,rfl,by simp only [Nat.mul_one]; omega,fun i hi'=>?_⟩
    · simp only [Z3l,hc,if_true,Z0m]
    · rw [Z0m] at hi'; omega
  · refine .inr ⟨b,base+lo*1,mz-lo,T,s,?_,by rw [Z0m]; omega,rfl,by simp only [Nat.mul_one]; omega,fun i hi' j hj=>?_⟩
    · simp only [Z3l,hc,if_false,Z0m]
    · rw [Z0m] at hi'
      obtain rfl:j=0:=by have:j<1:=hj; omega
      rw [Zkk,if_pos hi']
      simp only [Nat.mul_one,Nat.add_zero]
      rw [show base+lo+i=base+(lo+i) by omega,key i hi']
      rfl
theorem Zr9 {c1 c2:Bool} {s s':Seg} {r r':List Seg} (hw:s.width=s'.width) (h1:c1=true↔s.cells=s'.cells) (h2:c2=true↔cells r=cells r'):(c1&&c2)=true↔cells (s::r)=cells (s'::r'):=by
  rw [Bool.and_eq_true,h1,h2]
  simp only [cells]
  constructor
  · rintro ⟨h,h'⟩; rw [h,h']
  · intro h
    exact List.append_inj h (by rw [Seg.cells_length,Seg.cells_length,hw])
theorem Zil {c:Bool} {s s':Seg} (h:c=true↔s.cells=s'.cells):c=true↔cells [s]=cells [s']:=by
  rw [h]; simp [cells]
theorem Z020 {k:IntKind} {a b:Int}:(a==b)=true↔(Seg.one (.int k a)).cells=(Seg.one (.int k b)).cells:=by simp [Seg.cells]
theorem Zg2 {k:IntKind} {n:Nat} {a b:List Int}:ieq n a b=true↔(Seg.ints k n a).cells=(Seg.ints k n b).cells:=by
  have:=Zv3 (k:=k) (n:=n) (a:=a) (b:=b)
  simpa [cells] using this
end
theorem Sup.app {m0 m ms:List Zf} (h:Sup m0 m):Sup m0 (ms++m):=fun _ h'=>List.mem_append_right _ (h _ h')
theorem Zcd {α:Type} {E:El α} {n:Nat} {zc:List Value} {r r':List Seg} (hz:zc=E.cell E.z) (h:cells r=cells r'):cells (.rows E.w n (fun _=>zc)::r)=cells (.rows E.w n (Z9j E (List.replicate n E.z))::r'):=by
  simp only [cells,h,Seg.cells]
  congr 1
  apply Zlw
  intro i hi
  subst hz
  simp [Z9j,List.getD,List.getElem?_replicate,hi]
inductive Pc where
  | one (c:Zf)
  | all (l:List Zf)
def Zxn:List Pc→List Zf→List Zf
  | [],m=>m
  | .one c::r,m=>c::Zxn r m
  | .all a::r,m=>a++Zxn r m
theorem Zmj : ∀ (l:List Pc) (m:List Zf),Zxn l []++m=Zxn l m
  | [],m=>rfl
  | .one c::r,m=>by simp only [Zxn,List.cons_append,Zmj r m]
  | .all a::r,m=>by simp only [Zxn,List.append_assoc,Zmj r m]
def Zc0 (W0:World) (S:List Nat) (R:Value→List Pc→Prop):Ending→World→Prop:=retM W0 S fun v M=>∃ Ms,M=Zxn Ms []∧R v Ms
section
variable {C:Cfg} {m:List Zf} {t:TS} {K:KN}
theorem Z2i {d:Option Nat} {f:FuncId} {args:List Operand} {vs:List Value} {mS mr:List Zf} {R:Value→List Pc→Prop} (ha:evL t args=some vs) (hp:List.Perm (mS++mr) m)
    (hc : ∀ w,Sat C.W0 C.S m w→Calls C.P f vs.toArray w (Zc0 w (mS.map (·.b)) R))
    (h : ∀ v Ms,R v Ms→K (putT d v t) (Zxn Ms mr)):EF C m t d (.call f args) K :=
  Zr5 ha hp hc fun v m' ⟨Ms,e,hR⟩=>by subst e; rw [Zmj]; exact h v Ms hR
theorem Zz {d:Option Nat} {f:FuncId} {args:List Operand} {vs:List Value} {R:Value→List Pc→Prop} (ha:evL t args=some vs)
    (hc : ∀ w,Sat C.W0 C.S m w→Calls C.P f vs.toArray w (Zc0 w [] R))
    (h : ∀ v Ms,R v Ms→K (putT d v t) (Zxn Ms m)):EF C m t d (.call f args) K :=
  Zxy ha hc fun v m' ⟨Ms,e,hR⟩=>by subst e; rw [Zmj]; exact h v Ms hR
end
def retT (rs:List RV) (R:Value→List Zf→Prop):KN:=fun t m=>∃ l M,Zkp t m rs l∧Zu0 M m∧R (Zzp l) M
theorem Z02 {P:Program} {f:FuncId} {d:FnD} {args:List Value} {W0:World} {S:List Nat} {m0:List Zf} {R:Value→List Zf→Prop}
    (hm:P.follows .mixedOrders=true) (hok:okF P f d=true) (hlen:Nat.ble args.length d.n=true) (h0:Sat W0 S m0 W0)
    (h:WC ⟨P,d.n,W0,S⟩ d.c (Zpo 0 args) m0 (retT d.rs R) ⟨[],retT d.rs R⟩):Calls P f args.toArray W0 (retM W0 S R):=by
  refine Zr2 hm hok hlen h0 ?_
  have hsub : ∀ t m,retT d.rs R t m→retK W0 S d.rs (retM W0 S R) t m:=by
    rintro t m ⟨l,M,h1,h2,h3⟩
    exact ⟨l,h1,fun w hw=>⟨_,_,rfl,h3,hw.psub h2⟩⟩
  intro hm c0 hok Q a w ha hw hc
  exact h hm c0 hok Q a w ha hw ⟨fun t m hk=>hc.n t m (hsub t m hk),fun id k hk=>by simp [Zq1] at hk,fun t m hk=>hc.r t m (hsub t m hk)⟩
section
variable {C:Cfg} {m:List Zf} {t:TS} {K:KN}
theorem Zrn {P:Program} {o:Oper} {T:TypeId} {w bytes:Nat} {z:List Seg} {x y:Operand} (h:Z9g P o (.apz T w bytes z x y)=true) :
    ∃ c t tx k,o.op = .call c∧c.callee = .builtin .append∧c.args = #[x,y]∧c.argTypes[0]? = some t∧c.argTypes[1]? = some tx∧P.underlying t=some (.slice T) ∧
      P.underlying tx=some (.int k)∧(∃ i zv,P.info? T=some i∧i.size=w∧i.bytes=bytes∧0<bytes∧i.zero=some zv∧zv.cells=(cells z).toArray)∧width z=w∧0<w:=by
  simp only [Z9g] at h
  split at h
  · rename_i c heq
    simp only [Bool.and_eq_true] at h
    obtain ⟨⟨⟨⟨⟨⟨⟨h1,h2⟩,h3⟩,h4⟩,h5⟩,h6⟩,h7⟩,h8⟩:=h
    have hargs:=Z81 h2
    have hc:c.callee = .builtin .append:=by
      revert h1; split <;> simp_all
    cases e0:c.argTypes[0]? with
    | none=>rw [e0] at h3; simp at h3
    | some t0 =>
      cases e1:c.argTypes[1]? with
      | none=>rw [e1] at h4; simp at h4
      | some t1 =>
        rw [e0] at h3; rw [e1] at h4
        simp only [Option.bind_some] at h3 h4
        cases u0:P.underlying t0 with
        | none=>rw [u0] at h3; simp at h3
        | some d0 =>
          cases u1:P.underlying t1 with
          | none=>rw [u1] at h4; simp at h4
          | some d1 =>
            rw [u0] at h3; rw [u1] at h4
            cases d0 <;> simp at h3
            cases d1 <;> simp at h4
            rw [h3] at u0
            rename_i k
            obtain ⟨i,hi,hs,hb,hp⟩:=Zfm h5
            cases hz:zOf P T with
            | none=>rw [hz] at h6; simp at h6
            | some q =>
              rw [hz] at h6
              have:=Z8a h6
              subst this
              obtain ⟨zv,hz1,hz2⟩:=Zix hi hz
              exact ⟨c,t0,t1,k,heq,hc,by rw [← Array.toArray_toList (xs:=c.args),hargs],e0,e1,u0,u1,⟨i,zv,hi,hs,hb,hp,hz1,hz2⟩,by simpa [Nat.beq_eq] using h7,by simpa [Nat.blt_eq] using h8⟩
  · cases h
theorem Zp9 {P:Program} {w w':World} {t tx ty e:TypeId} {i:TypeInfo} {z:Value} {b off n0 cp n:Nat} {k kt:IntKind} {N:Int} {cs:List Value} (ht:P.underlying t=some (.slice e)) (hk:P.underlying tx=some (.int kt)) (hi:P.info? e=some i) (hz:i.zero=some z)
    (hN:0≤N) (hn:n=N.toNat) (hb:n*i.bytes≤281474976710656∧n≤9223372036854775807) (hroom:n0+n≤cp) (hnews:(Builtin.zeroCells z.cells n).toList=cs) (hnl:cs.length=n*i.size)
    (hst:(storeCells ⟨b,off+n0*i.size,none⟩ cs 0).run P w = .ok () w') :
    (Builtin.append_ #[t,tx] ty #[.slice (some ⟨b,off,none⟩) n0 cp,.int k N]).run P w = .ok (.slice (some ⟨b,off,none⟩) (n0+n) cp) w':=by
  obtain rfl:N=((n:Nat):Int):=by omega
  have hw:IntKind.i64.wrap (n:Int)=n:=by rw [IntKind.wrap_i64]; omega
  have h1 : ¬ ((n:Int)<0):=by omega
  have h2 : ¬ (281474976710656<(n:Int)*(i.bytes:Int)):=by rw [← Int.natCast_mul]; omega
  by_cases h0:n*i.size=0
  · have:cs = []:=List.eq_nil_of_length_eq_zero (by rw [hnl,h0])
    subst this
    have hst':w'=w:=by simpa [storeCells] using hst.symm
    subst hst'
    simp [Builtin.append_,Zt ht,Zt hk,sizeOf,typeInfo,hi,asInt,asIntOf,hw,h1,h2,h0,hroom,storeCells]
  · simp [Builtin.append_,Zt ht,Zt hk,sizeOf,typeInfo,zeroValue,hz,hi,asInt,asIntOf,hw,h1,h2,h0,hroom,Addr.add_lit,hnews,hst]
theorem Zi3 {P:Program} {w:World} {t tx ty e:TypeId} {i:TypeInfo} {z:Value} {n:Nat} {k kt:IntKind} {N:Int} (ht:P.underlying t=some (.slice e)) (hk:P.underlying tx=some (.int kt)) (hi:P.info? e=some i) (hz:i.zero=some z)
    (hN:0≤N) (hn:n=N.toNat) (hb:n*i.bytes≤281474976710656∧n≤9223372036854775807) (base:Option Addr) (sLen sCap:Nat) (olds:List Value)
    (hold:(Builtin.firstCells i.size sLen (.slice base sLen sCap)).run P w.drew = .ok olds.toArray w.drew) (news:List Value) (hnews:(Builtin.zeroCells z.cells n).toList=news) (h0 : ¬ (n*i.size=0))
    (hg:sCap<sLen+n) (h63:((sLen+n:Nat):Int)≤9223372036854775807) (hfit:Builtin.nextslicecap (sLen+n) sCap*i.bytes≤281474976710656) :
    (Builtin.append_ #[t,tx] ty #[.slice base sLen sCap,.int k N]).run P w =
      .ok (.slice (some ⟨w.heap.size,0,none⟩) (sLen+n) (grownCap w (sLen+n) sCap e))
        (w.drew.alloc (.cells ((olds++news).toArray++Builtin.zeroCells z.cells (grownCap w (sLen+n) sCap e-(sLen+n))) e)):=by
  obtain rfl:N=((n:Nat):Int):=by omega
  have hw:IntKind.i64.wrap (n:Int)=n:=by rw [IntKind.wrap_i64]; omega
  have h1 : ¬ ((n:Int)<0):=by omega
  have h2 : ¬ (281474976710656<(n:Int)*(i.bytes:Int)):=by rw [← Int.natCast_mul]; omega
  have hn' : ¬ (sLen+n≤sCap):=by omega
  have h63' : ¬ (9223372036854775807<((sLen:Int)+(n:Int))):=by omega
  have h48' : ¬ (281474976710656<Builtin.nextslicecap (sLen+n) sCap*i.bytes):=by omega
  have e:Builtin.zeroCells z.cells n=news.toArray:=by rw [← hnews]
  simp [Builtin.append_,Zt ht,Zt hk,sizeOf,typeInfo,zeroValue,hz,hi,asInt,asIntOf,hw,h1,h2,h0,hn',h63',h48',Question.forced,hold,newRow,grownCap,e]
  congr 2
  apply Array.ext'
  simp [List.append_assoc]
theorem Z062 {d:Nat} {T T':TypeId} {w bytes:Nat} {z:List Seg} {x y:Operand} {b off n0 cp n:Nat} {ky:IntKind} {N:Int} {cs:List Value} {segs:List Seg}
    (hx:ev t x=some (.slice (some ⟨b,off,none⟩) n0 cp)) (hb:Has b (.cells (cells segs).toArray T' (0,0)) m) (hy:ev t y=some (.int ky N)) (hN:0≤N) (hn:n=N.toNat) (hcs:cs=(List.replicate n (cells z)).flatten) (hone : ∀ u∈cells z,one1 u=true)
    (hfit:off+cp*w≤width segs) (hn0:n0≤cp) (hsz:(n0+n)*bytes≤140737488355328)
    (room:n0+n≤cp→∃ segs' m',cells segs'=Z0y (cells segs) (off+n0*w) cs∧Upd b (.cells (cells segs).toArray T' (0,0)) (.cells (cells segs').toArray T' (0,0)) m m'∧K ((d,.slice (some ⟨b,off,none⟩) (n0+n) cp)::t) m')
    (grow:cp<n0+n→∀ b' cp',C.W0.heap.size≤b'→n0+n≤cp'→∃ segs',cells segs'=((cells segs).drop off).take (n0*w)++cs++(List.replicate (cp'-(n0+n)) (cells z)).flatten∧K ((d,.slice (some ⟨b',0,none⟩) (n0+n) cp')::t) (ck b' T segs'::m)) :
    EF C m t (some d) (.apz T w bytes z x y) K:=by
  intro o ho hd a ha wd hw
  obtain ⟨hd1,hd2⟩:=Z46 hd
  obtain ⟨c,ty,tx,kt,heq,hc,hargs,ht,htx,hu,hk,⟨i,zv,hi,hsz',hby,hpos,hz1,hz2⟩,hwz,hw0⟩:=Zrn ho
  have hmul:(n0+n)≤(n0+n)*bytes:=Nat.le_mul_of_pos_right _ hpos
  have hzl:(cells z).length=w:=by rw [cells_length]; exact hwz
  have hnl:cs.length=n*w:=by rw [hcs]; simp [hzl]
  have hone' : ∀ u∈cs,one1 u=true:=by
    intro u hu'
    rw [hcs,List.mem_flatten] at hu'
    obtain ⟨l,hl,hul⟩:=hu'
    obtain ⟨_,rfl⟩:=List.mem_replicate.1 hl
    exact hone u hul
  have hnews:(Builtin.zeroCells zv.cells n).toList=cs:=by rw [hz2,Zap (by rw [hzl]; exact hw0),hcs]
  have hnb:n*bytes≤140737488355328:=by rw [Nat.add_mul] at hsz; omega
  have hrun : ∀ {r:Result Value},(Builtin.append_ c.argTypes o.type #[.slice (some ⟨b,off,none⟩) n0 cp,.int ky N]).run C.P wd=r→(execOp a.eval o).run C.P wd=r.andThen fun v w=>.ok (.value v) w:=by
    intro r hr
    simp only [execOp,heq,resolve,hc,Sem.run_bind,Sem.run_pure,Result.andThen_ok,invoke,builtin,hargs,List.map_toArray,List.map_cons,List.map_nil,ha.ev hx,ha.ev hy,hr]
  have hat:Builtin.append_ c.argTypes o.type #[.slice (some ⟨b,off,none⟩) n0 cp,.int ky N]=Builtin.append_ #[ty,tx] o.type #[.slice (some ⟨b,off,none⟩) n0 cp,.int ky N]:=by
    simp [Builtin.append_,ht,htx]
  by_cases hroom:n0+n≤cp
  · obtain ⟨segs',m',e1,hup,hK⟩:=room hroom
    have hle:n0*w+n*w≤cp*w:=by rw [← Nat.add_mul]; exact Nat.mul_le_mul_right _ hroom
    have hup':Upd b (.cells (cells segs).toArray T' (0,0)) (.cells (Z0y (cells segs) (off+n0*w+0) cs).toArray T' (0,0)) m m':=by rw [Nat.add_zero,← e1]; exact hup
    obtain ⟨w',hst,hw'⟩:=Z6k (P:=C.P) cs (off+n0*w) 0 (cells segs) m m' wd hw hup' (by rw [cells_length,hnl]; omega) hone'
    have hr:(Builtin.append_ #[ty,tx] o.type #[.slice (some ⟨b,off,none⟩) n0 cp,.int ky N]).run C.P wd = .ok (.slice (some ⟨b,off,none⟩) (n0+n) cp) w':=by
      subst hsz'
      exact Zp9 (k:=ky) hu hk hi hz1 hN hn (by rw [hby]; omega) hroom hnews hnl hst
    rw [← hat] at hr
    have h2:=hrun hr
    unfold Oper.wp
    rw [h2,Result.andThen_ok]
    simp only [Oper.upon]
    exact ⟨_,m',hK,hd1▸ha.put hd2 _,hw'⟩
  · have hg:cp<n0+n:=by omega
    have hold:(Builtin.firstCells i.size n0 (.slice (some ⟨b,off,none⟩) n0 cp)).run C.P wd.drew = .ok (((cells segs).drop off).take (n0*i.size)).toArray wd.drew:=by
      have hle:n0*w≤cp*w:=Nat.mul_le_mul_right _ hn0
      have:=Zkb (P:=C.P) (w:=wd.drew) (b:=b) (off:=off) (size:=w) (n:=n0) (l:=n0) (c:=cp) (cs:=((cells segs).drop off).take (n0*w)) (by simp [cells_length]; omega) (fun i hi=>by
        rw [Zbc ((show Sat C.W0 C.S m wd.drew from hw.drew).own _ hb.mem),List.getElem?_take_of_lt hi,List.getElem?_drop]) (Nat.le_refl n0)
      rw [hsz',this,List.take_take,Nat.min_self]
    have hfit':Builtin.nextslicecap (n0+n) cp*i.bytes≤281474976710656:=by rw [hby]; exact growslice_fits hg hsz
    have hr:=Zi3 (k:=ky) (P:=C.P) (w:=wd) (t:=ty) (tx:=tx) (ty:=o.type) (e:=T) (i:=i) (z:=zv) hu hk hi hz1 hN hn (by rw [hby]; omega) (some ⟨b,off,none⟩) n0 cp _ hold cs hnews (by rw [hsz']; exact Nat.pos_iff_ne_zero.1 (Nat.mul_pos (by omega) hw0)) hg (by omega) hfit'
    rw [← hat] at hr
    have h2:=hrun hr
    unfold Oper.wp
    rw [h2,Result.andThen_ok]
    simp only [Oper.upon]
    have hge:=grownCap_ge wd (n0+n) cp T
    obtain ⟨segs',e1,hK⟩:=grow hg wd.heap.size (grownCap wd (n0+n) cp T) hw.fr.size hge
    refine ⟨_,_,hK,hd1▸ha.put hd2 _,?_⟩
    have ha2:=hw.drew.alloc (.cells ((((cells segs).drop off).take (n0*i.size)++cs).toArray++Builtin.zeroCells zv.cells (grownCap wd (n0+n) cp T-(n0+n))) T)
    have e2:((((cells segs).drop off).take (n0*i.size)++cs).toArray++Builtin.zeroCells zv.cells (grownCap wd (n0+n) cp T-(n0+n)))=(cells segs').toArray:=by
      rw [e1,hsz',hz2]
      apply Array.ext'
      rw [Array.toList_append,Zap (by rw [cells_length,hwz]; exact hw0)]
    rw [e2]
    rw [e2] at ha2
    exact ha2
theorem Z01v {d:Nat} {T:TypeId} {w bytes:Nat} {z:List Seg} {x y:Operand} {n:Nat} {ky:IntKind} {N:Int} {cs:List Value}
    (hx:ev t x=some (.slice none 0 0)) (hy:ev t y=some (.int ky N)) (hN:0≤N) (hn:n=N.toNat) (hcs:cs=(List.replicate n (cells z)).flatten) (hone : ∀ u∈cells z,one1 u=true) (hsz:n*bytes≤140737488355328)
    (none_:n=0→K ((d,.slice none 0 0)::t) m)
    (grow:0<n→∀ b' cp',C.W0.heap.size≤b'→n≤cp'→∃ segs',cells segs'=cs++(List.replicate (cp'-n) (cells z)).flatten∧K ((d,.slice (some ⟨b',0,none⟩) n cp')::t) (ck b' T segs'::m)) :
    EF C m t (some d) (.apz T w bytes z x y) K:=by
  intro o ho hd a ha wd hw
  obtain ⟨hd1,hd2⟩:=Z46 hd
  obtain ⟨c,ty,tx,kt,heq,hc,hargs,ht,htx,hu,hk,⟨i,zv,hi,hsz',hby,hpos,hz1,hz2⟩,hwz,hw0⟩:=Zrn ho
  have hmul:n≤n*bytes:=Nat.le_mul_of_pos_right _ hpos
  have hzl:(cells z).length=w:=by rw [cells_length]; exact hwz
  have hnl:cs.length=n*w:=by rw [hcs]; simp [hzl]
  have hone' : ∀ u∈cs,one1 u=true:=by
    intro u hu'
    rw [hcs,List.mem_flatten] at hu'
    obtain ⟨l,hl,hul⟩:=hu'
    obtain ⟨_,rfl⟩:=List.mem_replicate.1 hl
    exact hone u hul
  have hnews:(Builtin.zeroCells zv.cells n).toList=cs:=by rw [hz2,Zap (by rw [hzl]; exact hw0),hcs]
  have hnb:n*bytes≤140737488355328:=hsz
  have hrun : ∀ {r:Result Value},(Builtin.append_ c.argTypes o.type #[.slice none 0 0,.int ky N]).run C.P wd=r→(execOp a.eval o).run C.P wd=r.andThen fun v w=>.ok (.value v) w:=by
    intro r hr
    simp only [execOp,heq,resolve,hc,Sem.run_bind,Sem.run_pure,Result.andThen_ok,invoke,builtin,hargs,List.map_toArray,List.map_cons,List.map_nil,ha.ev hx,ha.ev hy,hr]
  have hat:Builtin.append_ c.argTypes o.type #[.slice none 0 0,.int ky N]=Builtin.append_ #[ty,tx] o.type #[.slice none 0 0,.int ky N]:=by
    simp [Builtin.append_,ht,htx]
  by_cases hroom:n=0
  · have hK:=none_ hroom
    have hr:(Builtin.append_ #[ty,tx] o.type #[.slice none 0 0,.int ky N]).run C.P wd = .ok (.slice none 0 0) wd:=by
      subst hsz'
      have hN0:N=0:=by omega
      have hw:IntKind.i64.wrap 0=0:=by decide
      subst hN0
      simp [Builtin.append_,Zt hu,Zt hk,sizeOf,typeInfo,hi,asInt,asIntOf,hw]
    rw [← hat] at hr
    have h2:=hrun hr
    unfold Oper.wp
    rw [h2,Result.andThen_ok]
    simp only [Oper.upon]
    exact ⟨_,m,hK,hd1▸ha.put hd2 _,hw⟩
  · have hg:0<0+n:=by omega
    have hold:(Builtin.firstCells i.size 0 (.slice none 0 0)).run C.P wd.drew = .ok ([]:List Value).toArray wd.drew:=by simpa using run_firstCells_none (P:=C.P) wd.drew i.size 0 0 0
    have hfit':Builtin.nextslicecap (0+n) 0*i.bytes≤281474976710656:=by rw [hby]; exact growslice_fits hg (by simpa using hsz)
    have hr:=Zi3 (k:=ky) (P:=C.P) (w:=wd) (t:=ty) (tx:=tx) (ty:=o.type) (e:=T) (i:=i) (z:=zv) hu hk hi hz1 hN hn (by rw [hby]; omega) none 0 0 _ hold cs hnews (by rw [hsz']; exact Nat.pos_iff_ne_zero.1 (Nat.mul_pos (by omega) hw0)) hg (by omega) hfit'
    simp only [Nat.zero_add,List.nil_append] at hr
    rw [← hat] at hr
    have h2:=hrun hr
    unfold Oper.wp
    rw [h2,Result.andThen_ok]
    simp only [Oper.upon]
    have hge:=grownCap_ge wd n 0 T
    obtain ⟨segs',e1,hK⟩:=grow (by omega) wd.heap.size (grownCap wd n 0 T) hw.fr.size hge
    refine ⟨_,_,hK,hd1▸ha.put hd2 _,?_⟩
    have ha2:=hw.drew.alloc (.cells (cs.toArray++Builtin.zeroCells zv.cells (grownCap wd n 0 T-n)) T)
    have e2:(cs.toArray++Builtin.zeroCells zv.cells (grownCap wd n 0 T-n))=(cells segs').toArray:=by
      rw [e1,hz2]
      apply Array.ext'
      rw [Array.toList_append,Zap (by rw [cells_length,hwz]; exact hw0)]
    rw [e2]
    rw [e2] at ha2
    exact ha2
end
section
variable {α:Type} {C:Cfg} {m:List Zf} {t:TS} {K:KN} {E:El α} {v:Value} {xs:List α}
theorem Z01w {d:Nat} {T:TypeId} {bytes:Nat} {z:List Seg} {x y:Operand} {ms mr:List Zf} {ky:IntKind} {N:Int} {xs':List α} (e:xs'=xs++List.replicate N.toNat E.z) (hx:ev t x=some v) (hO:Z0b E v ms xs) (hT:Take ms m mr) (hy:ev t y=some (.int ky N)) (hN:decide (0≤N)=true) (hz:cells z=E.cell E.z)
    (hsz:decide ((xs.length+N.toNat)*bytes≤140737488355328)=true) (h : ∀ v' ms',Z0b E v' ms' xs'→K ((d,v')::t) (ms'++mr)):EF C m t (some d) (.apz T E.w bytes z x y) K:=by
  subst e
  have hsz:=of_decide_eq_true hsz
  intro o ho hd a ha w hw
  have hN:=of_decide_eq_true hN
  have hzw:width z=E.w:=by rw [← cells_length,hz,E.len]
  have hone : ∀ u∈cells z,one1 u=true:=by rw [hz]; exact E.one _
  generalize hys:List.replicate N.toNat E.z=ys
  rw [hys] at h
  have hyl:ys.length=N.toNat:=by rw [← hys,List.length_replicate]
  have hcs:cellsOf E ys=(List.replicate ys.length (cells z)).flatten:=by
    rw [hyl,← Zlx (w:=E.w) (by rw [cells_length]; exact hzw),cellsOf,hyl]
    apply Zlw
    intro i hi
    simp only [Z9j]
    rw [← hys,hz]
    simp [List.getD,List.getElem?_replicate,hi]
  rw [← hyl] at hsz
  refine EF.perm hT.perm (EF.less (?_:EF C (ms++mr) t (some d) (.apz T E.w bytes z x y) _)) o ho hd a ha w hw
  rcases hO with ⟨h1,h2,h3⟩ | ⟨b,o1,cp,T',cs,h1,h2,h3,h4,h5⟩
  · subst h1; subst h2; subst h3
    refine Z01v hx hy hN hyl hcs hone (by simpa using hsz) (fun h0=>?_) (fun h0 b' cp' hb' hc'=>?_)
    · have hys:ys = []:=List.eq_nil_of_length_eq_zero h0
      subst hys
      exact ⟨_,h _ _ Z59,List.Sublist.refl _⟩
    · refine ⟨(cellsOf E ys++(List.replicate (cp'-ys.length) (cells z)).flatten).map Seg.one,Z17 _,?_⟩
      refine ⟨_,h _ [⟨b',_⟩] (.inr ⟨b',0,cp',T,_,by simp,by simpa using hc',rfl,?_,?_⟩),List.Sublist.refl _⟩
      · rw [Z55,List.length_append,Z0c]
        simp only [List.length_flatten,List.map_replicate,List.sum_replicate_nat,cells_length,hzw,Nat.zero_add]
        rw [← Nat.add_mul]
        exact Nat.mul_le_mul_right _ (by omega)
      · intro i hi j hj
        simp only [List.nil_append] at hi ⊢
        have:i*E.w+E.w≤ys.length*E.w:=by rw [← Nat.succ_mul]; exact Nat.mul_le_mul_right _ hi
        rw [Z17,Nat.zero_add,List.getElem?_append_left (by rw [Z0c]; omega),Z44 hi hj]
  · subst h1; subst h3
    refine Z062 hx Has.here hy hN hyl hcs hone h4 h2 hsz (fun hr=>?_) (fun hg b' cp' hb' hc'=>?_)
    · have hle:(xs.length+ys.length)*E.w≤cp*E.w:=Nat.mul_le_mul_right _ hr
      rw [Nat.add_mul] at hle
      have hin:o1+xs.length*E.w+(cellsOf E ys).length≤(cells cs).length:=by rw [Z0c,cells_length]; omega
      refine ⟨(Z0y (cells cs) (o1+xs.length*E.w) (cellsOf E ys)).map Seg.one,[⟨b,.cells (cells ((Z0y (cells cs) (o1+xs.length*E.w) (cellsOf E ys)).map Seg.one)).toArray T' (0,0)⟩]++mr,Z17 _,Upd.here,?_⟩
      refine ⟨_,h _ _ (.inr ⟨b,o1,cp,T',_,by simp,by simpa using hr,rfl,?_,?_⟩),List.Sublist.refl _⟩
      · rw [Z55,Z0y,List.length_append,List.length_append,List.length_take,List.length_drop]
        rw [cells_length] at hin ⊢; omega
      · intro i hi j hj
        rw [Z17,Z9v hin,Z0c]
        rw [List.length_append] at hi
        by_cases hil:i<xs.length
        · have:i*E.w+E.w≤xs.length*E.w:=by rw [← Nat.succ_mul]; exact Nat.mul_le_mul_right _ hil
          rw [if_neg (by omega),Zbf hil,h5 i hil j hj]
        · have e1:i*E.w=xs.length*E.w+(i-xs.length)*E.w:=by rw [← Nat.add_mul]; congr 1; omega
          have:(i-xs.length)*E.w+E.w≤ys.length*E.w:=by rw [← Nat.succ_mul]; exact Nat.mul_le_mul_right _ (by omega)
          rw [if_pos (by omega),Zbg (by omega),show o1+(i*E.w+j)-(o1+xs.length*E.w)=(i-xs.length)*E.w+j by omega,Z44 (by omega) hj]
    · have hle:xs.length*E.w≤cp*E.w:=Nat.mul_le_mul_right _ h2
      have hl1:(((cells cs).drop o1).take (xs.length*E.w)).length=xs.length*E.w:=by rw [List.length_take,List.length_drop,cells_length]; omega
      refine ⟨(((cells cs).drop o1).take (xs.length*E.w)++cellsOf E ys++(List.replicate (cp'-(xs.length+ys.length)) (cells z)).flatten).map Seg.one,Z17 _,?_⟩
      refine ⟨_,h _ [⟨b',_⟩] (.inr ⟨b',0,cp',T,_,by simp,by simpa using hc',rfl,?_,?_⟩),List.Sublist.cons₂ _ (List.sublist_cons_self _ _)⟩
      · rw [Z55,List.length_append,List.length_append,hl1,Z0c]
        simp only [List.length_flatten,List.map_replicate,List.sum_replicate_nat,cells_length,hzw,Nat.zero_add]
        rw [← Nat.add_mul,← Nat.add_mul]
        exact Nat.mul_le_mul_right _ (by omega)
      · intro i hi j hj
        rw [List.length_append] at hi
        rw [Z17,Nat.zero_add]
        by_cases hil:i<xs.length
        · have:i*E.w+E.w≤xs.length*E.w:=by rw [← Nat.succ_mul]; exact Nat.mul_le_mul_right _ hil
          rw [List.append_assoc,List.getElem?_append_left (by rw [hl1]; omega),List.getElem?_take_of_lt (by omega),List.getElem?_drop,h5 i hil j hj,Zbf hil]
        · have e1:i*E.w=xs.length*E.w+(i-xs.length)*E.w:=by rw [← Nat.add_mul]; congr 1; omega
          have:(i-xs.length)*E.w+E.w≤ys.length*E.w:=by rw [← Nat.succ_mul]; exact Nat.mul_le_mul_right _ (by omega)
          rw [List.append_assoc,List.getElem?_append_right (by rw [hl1]; omega),hl1,List.getElem?_append_left (by rw [Z0c]; omega),Zbg (by omega),show i*E.w+j-xs.length*E.w=(i-xs.length)*E.w+j by omega,Z44 (by omega) hj]
theorem Z0bz {len w:Nat} {x i:Operand} {k k':IntKind} {ys:List Int} {z:Int} (h:ev t x=some (agg [.ints k (len*w) ys])) (hi:ev t i=some (.int k' z)) (hz:0≤z∧z<len) :
    Q1 C m t (.idx len w true x i) (agg [.ints k w (tk ys (z.toNat*w) w)]):=by
  intro o ho a ha wd hw
  obtain ⟨T,e,heq,hu,hs,hag⟩:=Zro ho
  refine Z0h ?_
  simp only [execOp,heq,ha.ev h,ha.ev hi]
  refine Zar ?_
  simp only [Instr.index,agg,asIntOf,Sem.run_bind,Sem.run_pure,Zt hu,Result.andThen_ok,hz,and_self,if_true,Z2p hs]
  refine Zex hs hag (fun _=>?_) (fun h=>by cases h)
  congr 2
  have hlt:z.toNat<len:=by omega
  have hle:z.toNat*w+w≤len*w:=by rw [← Nat.succ_mul]; exact Nat.mul_le_mul_right w hlt
  simp only [cells,Seg.cells,List.append_nil]
  rw [Zv5 (by omega)]
  rw [Zv6,Z96 (Z0m _ _ _)]
def Zo2:Value→Bool
  | .slice none _ _=>true
  | _=>false
theorem Zw8 {β:Type} {E':El β} {v':Value} {ys:List β} (h : ∀ W,Z4y E' W v' ys→Z4y E W v xs) (hs:Zkq C m E' v' ys):Zkq C m E v xs:=fun w hw=>h w (hs w hw)
theorem Zzq {β:Type} {E':El β} {v':Value} {ys:List β} : ∀ W,Z4y E' W v' ys→Z4y E W (.slice none 0 0) []:=fun _ _=>Z00g
theorem Z00d {x:Operand} {b p base i len:Nat} {T:TypeId} {fz:Nat×Nat} {s:List Seg} {k:IntKind} {ys:List Int} {z:Int} (e:z=ys.getD i 0) (hx:ev t x=some (.pointer (some ⟨b,p,none⟩))) (hb:Has b (.cells (cells s).toArray T fz) m)
    (hs:Zcn s base=some (.ints k len ys)) (hp:p=base+i) (hi:decide (i<len)=true):Q1 C m t (.ld 1 false x) (.int k z):=e▸Z10l hx hb hs hp (of_decide_eq_true hi)
theorem Zuw {x y:Operand} {b p base i len:Nat} {T:TypeId} {s q:List Seg} {k:IntKind} {ys ys':List Int} {z:Int} {m':List Zf} (e:ys'=Z21 ys i z) (hx:ev t x=some (.pointer (some ⟨b,p,none⟩))) (hy:ev t y=some (.int k z))
    (hs:Zcn s base=some (.ints k len ys)) (hp:p=base+i) (hi:decide (i<len)=true) (hq:Zcz s base (.ints k len ys')=some q)
    (hup:Upd b (.cells (cells s).toArray T (0,0)) (.cells (cells q).toArray T (0,0)) m m') (h:K t m'):EF C m t none (.st 1 x y) K:=by
  subst e; exact Z065 hx hy hs hp (of_decide_eq_true hi) hq hup h
def Zd1 (x y c:Int):Bool:=decide (0≤x)&&decide (0≤y)&&decide (0≤c)&&decide (c≤1)
def Z9w (x y c:Int):Int:=(x+y+c)%18446744073709551616
def Zfi (x y c:Int):Int:=(x+y+c) / 18446744073709551616
theorem xadd {P:Program} {x y c l h:Int} (hl:l=Z9w x y c) (hh:h=Zfi x y c) (hk:Zd1 x y c=true) (w:World):(add64Entry #[.int .u64 x,.int .u64 y,.int .u64 c]).run P w = .ok (.tuple #[.int .u64 l,.int .u64 h]) w:=by
  subst hl; subst hh
  simp [Zd1] at hk
  exact run_add64 x y c hk.1.1.1 hk.1.1.2 hk.1.2 hk.2 w
def Zx1 (x y c:Int):Bool:=decide (0≤x)&&decide (0≤y)&&decide (y<18446744073709551616)&&decide (0≤c)&&decide (c≤1)
def Zzh (x y c:Int):Int:=(x-y-c)%18446744073709551616
def Zzg (x y c:Int):Int:=if x<y+c then 1 else 0
theorem xsub {P:Program} {x y c l h:Int} (hl:l=Zzh x y c) (hh:h=Zzg x y c) (hk:Zx1 x y c=true) (w:World):(Zf0 #[.int .u64 x,.int .u64 y,.int .u64 c]).run P w = .ok (.tuple #[.int .u64 l,.int .u64 h]) w:=by
  subst hl; subst hh
  simp [Zx1] at hk
  exact Zwq x y c hk.1.1.1.1 hk.1.1.1.2 hk.1.1.2 hk.1.2 hk.2 w
def Zmf (v:Value):Prop:=∃ a n c,v = .slice a n c
theorem Z4y.isSl {W:World} (h:Z4y E W v xs):Zmf v:=by
  rcases h with ⟨h1,_⟩ | ⟨b,o,cp,h1,_,_⟩ | ⟨_,h1,_⟩
  · exact ⟨_,_,_,h1⟩
  · exact ⟨_,_,_,h1⟩
  · exact ⟨_,_,_,h1⟩
theorem Z0b.isSl {ms:List Zf} (h:Z0b E v ms xs):Zmf v:=by
  rcases h with ⟨h1,_⟩ | ⟨b,o,cp,_,_,h1,_⟩
  · exact ⟨_,_,_,h1⟩
  · exact ⟨_,_,_,h1⟩
theorem Zmf.cells {u:Value} (h:Zmf u):u.cells = #[u]:=by obtain ⟨a,n,c,rfl⟩:=h; rfl
abbrev SlT:=Option Addr×Nat×Nat
def slV (x:SlT):Value:=.slice x.1 x.2.1 x.2.2
def unS:Value→SlT
  | .slice a n c=>(a,n,c)
  | _=>(none,0,0)
theorem Z00m {u:Value} (h:Zmf u):slV (unS u)=u:=by obtain ⟨a,n,c,rfl⟩:=h; rfl
abbrev El.sl:El SlT:=⟨1,fun x=>[slV x],fun _=>rfl,fun _ v h=>by simp at h; subst h; rfl,by decide,(none,0,0)⟩
theorem Zei {u:Value} (h:Zmf u):Go.Sx.cells [.one u]=El.sl.cell (unS u):=by simp only [Go.Sx.cells,Seg.cells]; rw [Z00m h]; rfl
inductive Zi7 (E:El α) (W:World):List SlT→List (List α)→Prop
  | nil:Zi7 E W [] []
  | cons {u:SlT} {us:List SlT} {ys:List α} {yss:List (List α)}:Z4y E W (slV u) ys→Zi7 E W us yss→Zi7 E W (u::us) (ys::yss)
theorem Zi7.len {W:World} {us:List SlT} {yss:List (List α)} (h:Zi7 E W us yss):us.length=yss.length:=by
  induction h with
  | nil=>rfl
  | cons _ _ ih=>simp [ih]
theorem Zi7.get {W:World} {us:List SlT} {yss:List (List α)} (h:Zi7 E W us yss) : ∀ i,i<yss.length→Z4y E W (slV (us.getD i (none,0,0))) (yss.getD i []):=by
  induction h with
  | nil=>intro i hi; simp at hi
  | cons h1 _ ih =>
    intro i hi
    cases i with
    | zero=>simpa using h1
    | succ i=>simpa using ih i (by simpa using hi)
theorem Zea {W:World} {u:Value} (h:Z4y E W u xs):Z4y E W (slV (unS u)) xs:=by rw [Z00m h.isSl]; exact h
theorem Zu9 {W:World} {us:List SlT} {yss:List (List α)} (h:Zi7 E W us yss) {z:Int} (hz:inB z yss.length=true):inB z us.length=true:=by rw [h.len]; exact hz
def Shp (v:Value) (n:Nat):Prop:=(v = .slice none 0 0∧n=0)∨(∃ b o cp,v = .slice (some ⟨b,o,none⟩) n cp∧n≤cp) ∨ ∃ a,v = .slice (some a) 0 0∧n=0
theorem Shp.rd {W:World} (h:Z4y E W v xs):Shp v xs.length:=by
  rcases h with ⟨h1,h2⟩ | ⟨b,o,cp,h1,h2,_⟩ | ⟨a3,h1,h2⟩
  · exact .inl ⟨h1,by rw [h2]; rfl⟩
  · exact .inr (.inl ⟨b,o,cp,h1,h2⟩)
  · exact .inr (.inr ⟨a3,h1,by rw [h2]; rfl⟩)
theorem Shp.own {ms:List Zf} (h:Z0b E v ms xs):Shp v xs.length:=by
  rcases h with ⟨h1,h2,_⟩ | ⟨b,o,cp,_,_,h1,h2,_⟩
  · exact .inl ⟨h1,by rw [h2]; rfl⟩
  · exact .inr (.inl ⟨b,o,cp,h1,h2⟩)
theorem Shp.nil:Shp (.slice none 0 0) 0:=.inl ⟨rfl,rfl⟩
theorem Shp.blk {b base lo hi mz w n:Nat} (h:lo≤hi∧hi≤mz) (hn:n=hi-lo):Shp (.slice (some (Z3l b base lo mz w)) (hi-lo) (mz-lo)) n:=by
  subst hn
  unfold Z3l
  split
  · exact .inr (.inl ⟨_,_,_,rfl,by omega⟩)
  · exact .inr (.inl ⟨_,_,_,rfl,by omega⟩)
theorem Shp.cut {w:Nat} {lz hz:Int} (h:Shp v xs.length) (hb:Zks lz hz xs.length=true):Shp (Zdb w v lz.toNat hz.toNat) ((xs.drop lz.toNat).take (hz.toNat-lz.toNat)).length:=by
  have hb:=Znu hb
  have hlen:((xs.drop lz.toNat).take (hz.toNat-lz.toNat)).length=hz.toNat-lz.toNat:=by rw [List.length_take,List.length_drop]; omega
  rw [hlen]
  rcases h with ⟨h1,h2⟩ | ⟨b,o,cp,h1,h2⟩ | ⟨a3,h1,h2⟩
  · subst h1; exact .inl ⟨rfl,by omega⟩
  rotate_left 1
  · subst h1
    have e1:lz.toNat=0:=by omega
    have e2:hz.toNat=0:=by omega
    rw [e1,e2,Zj9]
    exact .inr (.inr ⟨a3,rfl,rfl⟩)
  · subst h1
    simp only [Zdb]
    exact Shp.blk (by omega) rfl
theorem Shp.isSl {n:Nat} (h:Shp v n):Zmf v:=by
  rcases h with ⟨h1,_⟩ | ⟨b,o,cp,h1,_⟩ | ⟨_,h1,_⟩
  · exact ⟨_,_,_,h1⟩
  · exact ⟨_,_,_,h1⟩
  · exact ⟨_,_,_,h1⟩
theorem Shp.notnil {n:Nat} (h:Shp v n) (h0:decide (0<n)=true):Zo2 v=false:=by
  have h0:=of_decide_eq_true h0
  rcases h with ⟨_,h2⟩ | ⟨b,o1,cp,h1,_⟩ | ⟨_,_,h2⟩
  · omega
  · subst h1; rfl
  · omega
theorem Z25 {x:Operand} {n:Nat} (hx:ev t x=some v) (h:Shp v n):Q1 C m t (.len x) (.int .i64 n):=by
  rcases h with ⟨h1,h2⟩ | ⟨b,o1,cp,h1,h2⟩ | ⟨a3,h1,h2⟩
  · subst h1; subst h2; exact Zyq hx
  rotate_left 1
  · subst h1; subst h2; exact Zyq hx
  · subst h1; exact Zyq hx
theorem Z32 {w n:Nat} {x i:Operand} {k:IntKind} {z:Int} (hx:ev t x=some v) (hi:ev t i=some (.int k z)) (h:Shp v n) (hz:inB z n=true) :
    Q1 C m t (.ias w x i) (.pointer (some ⟨(Zaz v).block,(Zaz v).off+z.toNat*w,none⟩)):=by
  have hz':=Z09 hz
  rcases h with ⟨h1,h2⟩ | ⟨b,o1,cp,h1,h2⟩ | ⟨_,_,h2⟩
  · omega
  rotate_left 1
  · omega
  · subst h1; exact Z10j hx hi hz'
theorem Z0c1 {n k:Nat} {x:Operand} (hx:ev t x=some v) (h:Shp v k) (h0:0<n) (hn:decide (n≤k)=true):Q1 C m t (.s2a n x) (.pointer (some ⟨(Zaz v).block,(Zaz v).off,none⟩)):=by
  have hn:=of_decide_eq_true hn
  rcases h with ⟨h1,h2⟩ | ⟨b,o1,cp,h1,h2⟩ | ⟨_,_,h2⟩
  · omega
  rotate_left 1
  · omega
  · subst h1; exact Z10m hx hn
theorem Zrx {w n:Nat} {x:Operand} {lo hi:Option Operand} {lz hz:Int} (hx:ev t x=some v) (h:Shp v n) (hl:Zl6 t 0 lo lz) (hh:Zl6 t n hi hz) (hb:Zks lz hz n=true) :
    Q1 C m t (.sls w x lo hi none) (Zdb w v lz.toNat hz.toNat):=by
  have hb:=Znu hb
  rcases h with ⟨h1,h2⟩ | ⟨b,o1,cp,h1,h2⟩ | ⟨a3,h1,h2⟩
  · subst h1; subst h2
    exact Z0c2 (mz:=0) hx hl hh .no (by simp) (by omega)
  rotate_left 1
  · subst h1; subst h2
    have e1:lz.toNat=0:=by omega
    have e2:hz.toNat=0:=by omega
    rw [e1,e2,Zj9]
    exact Z0c3 hx hl hh (by omega)
  · subst h1
    have:=Z10n (C:=C) (m:=m) (w:=w) (mz:=cp) hx hl hh .no (by simp) (by omega)
    simpa [Zdb] using this
theorem Zvz {neg:Bool} {x:Operand} {c:Bool} {n:Nat} (hx:ev t x=some v) (h:Shp v n) (hc:Zo2 v=c):Q1 C m t (.isn neg x) (.bool (bif neg then !c else c)):=by
  subst hc
  rcases h with ⟨h1,h2⟩ | ⟨b,o1,cp,h1,h2⟩ | ⟨a3,h1,h2⟩
  · subst h1; exact Z02t hx
  · subst h1; exact Z02t hx
  · subst h1; exact Z02t hx
theorem Z028 {n k:Nat} {op:IOp} (q:Q1 C m t op (.int .i64 n)) (h:n=k):Q1 C m t op (.int .i64 k):=h▸q
end
section
variable {C:Cfg} {m:List Zf} {t:TS} {K:KN} {α:Type} {E:El α} {v:Value} {xs:List α}
theorem Z07 {β:Type} {r:β} {a b:Option β} {c:Bool} {x:Operand} {p q:IC} {kn:KN} {ke:KE} (h:br c a b=some r) (hx:ev t x=some (.bool c)) (ht:a=some r→WC C p t m kn ke) (hf:b=some r→WC C q t m kn ke) :
    WC C (.cond x p q) t m kn ke:=Z18f hx (fun e=>ht (br_t h e)) (fun e=>hf (br_f h e))
end
section
variable {α β:Type} {r:β} {G:Prop}
theorem bH {x:α} {f:α→Option β} (h:bnd x f=some r) (k : ∀ z,z=x→f z=some r→G):G:=Z0vk k h
theorem cH {c:Bool} {o:Option β} (h:chk c o=some r) (k:c=true→o=some r→G):G:=Z0vl k h
theorem oH {o:Option α} {f:α→Option β} (h:opt o f=some r) (k : ∀ y,o=some y→f y=some r→G):G:=Z10d k h
theorem jH {K:Type} {k:K} {g:K→Option β} (h:jn k g=some r) (q : ∀ k',k'=k→g k'=some r→G):G:=jn_i q h
end
instance (n:Nat):OfNat Operand n:=⟨.tmp n⟩
abbrev oj (d:Nat) (i:IOp):J:=.op ⟨some d,none,i⟩
abbrev on_ (i:IOp):J:=.op ⟨none,none,i⟩
abbrev oi (d:Nat) (i:IOp):Zl5:=⟨some d,none,i⟩
abbrev oe (i:IOp):Zl5:=⟨none,none,i⟩
abbrev ci (n:Int):Operand:=.const (.int .i64 n)
abbrev cu (n:Int):Operand:=.const (.int .u64 n)
theorem Z7 {C : Cfg} {m : List Zf} {t : TS} {kn : KN} {x : Operand} {d : Nat} {r : List J} {v : Value} (h1 : ev t x = some v) (h : WJ C r ((d, v) :: t) m kn) : WJ C (.op ⟨some d, none, .mv x⟩ :: r) t m kn := Z6 v (Z0u h1) h
theorem Z0g {C : Cfg} {m : List Zf} {t : TS} {f : FuncId} {args : List Operand} {vs : List Value} {v : Value} (ha : evL t args = some vs) (h : ∀ {w : World}, Calls C.P f vs.toArray w (Z2s w v)) : Q1 C m t (.call f args) v := Z08 ha fun _ _ => h
abbrev Z5 : Seg := .ints .u64 5 (List.replicate 5 0)
abbrev Z10 : Seg := .ints .u64 10 (List.replicate 10 0)
abbrev OL := Option (List Int)
theorem Zbj {c:Zf} {ms m m1 m2:List Zf} (h1:Z6p c m m1) (h2:Take ms m1 m2):List.Perm ((c::ms)++m2) m:=(h2.perm.cons c).trans h1.perm
theorem Z0br {c:Zf} {m m1:List Zf} (h1:Z6p c m m1):List.Perm ((c :: [])++m1) m:=h1.perm
theorem Z7r {W0:World} {S:List Nat} {m:List Zf} {w:World} (h:Sat W0 S m w) {c:Zf} {ms mr:List Zf} (hp:List.Perm ((c::ms)++mr) m):Sat w (c.b::ms.map (·.b)) (c::(ms ++ [])) w:=by
  rw [List.append_nil]; exact Zaj h hp
theorem Zmf.one1 {u:Value} (h:Zmf u):one1 u=true:=by obtain ⟨a,n,c,rfl⟩:=h; rfl
section
variable {α:Type} {m:List Zf} {E:El α} {v:Value} {xs:List α}
theorem Zhq {b:Nat} {S:List Nat} (h1:Z8f v xs [b]) (h2:Z8f v xs S):Z8f v xs (b::S):=by
  intro a n c e h0 hm
  rcases List.mem_cons.1 hm with h | h
  · exact h1 a n c e h0 (List.mem_singleton.2 h)
  · exact h2 a n c e h0 h
theorem Zpn:Z8f v xs (([]:List Zf).map (·.b)):=fun _ _ _ _ _=>by simp
theorem Zgw {W0 w:World} {ms ms2 m1 m2:List Zf} {T:List Nat} (hO:Z0b E v ms xs) (hT:Take ms m m1) (h2:Take ms2 m1 m2) (hw:Sat W0 T m w):Z8f v xs (ms2.map (·.b)):=by
  intro a n c e h0 hm
  obtain ⟨k,hk,e2⟩:=List.mem_map.1 hm
  have hmem:k∈m1:=h2.perm.subset (List.mem_append_left _ hk)
  rcases hO with ⟨h1,h3,_⟩ | ⟨b1,o1,cp,T1,cs,h1,_,h3,_,_⟩
  · subst h3; simp at h0
  · subst h1
    injection e with e; injection e with e; subst e
    subst h3
    have hd:=(hw.perm hT.perm).dist
    simp only [List.cons_append,List.nil_append,List.map_cons,List.nodup_cons] at hd
    exact hd.1 (List.mem_map.2 ⟨k,hmem,e2⟩)
theorem Zla {W0 w:World} {S:List Nat} {ms m1:List Zf} (h:Z4y E W0 v xs) (hS:Z8f v xs S) (hT:Take ms m m1) (hw:Sat W0 S m w):Z8f v xs (ms.map (·.b)):=by
  intro a n c e h0 hm
  obtain ⟨k,hk,e2⟩:=List.mem_map.1 hm
  have hmem:k∈m:=hT.perm.subset (List.mem_append_left _ hk)
  rcases hw.base _ hmem with h6 | h6
  · rcases h with ⟨h1,h2⟩ | ⟨b',o',cp,h1,h2,h3⟩ | ⟨_,_,h2⟩
    · subst h2; simp at h0
    · rw [h1] at e
      injection e with e; injection e with e; subst e
      have h4:=h3 0 h0 0 E.pos
      have h5:0<(E.cell (xs.getD 0 E.z)).length:=by rw [E.len]; exact E.pos
      rw [List.getElem?_eq_getElem h5] at h4
      have:=Zj6 h4
      simp only at this e2
      omega
    · subst h2; simp at h0
  · exact hS a n c e h0 (by rw [← e2]; exact h6)
theorem Zl9 {W0 w:World} {S:List Nat} {b:Nat} {o:Obj} (h:Z4y E W0 v xs) (hS:Z8f v xs S) (hb:Has b o m) (hw:Sat W0 S m w):Z8f v xs [b]:=by
  intro a n c e h0 hm
  simp only [List.mem_singleton] at hm
  rcases hw.base _ hb.mem with h6 | h6
  · rcases h with ⟨h1,h2⟩ | ⟨b',o',cp,h1,h2,h3⟩ | ⟨_,_,h2⟩
    · subst h2; simp at h0
    · rw [h1] at e
      injection e with e; injection e with e; subst e
      have h4:=h3 0 h0 0 E.pos
      have h5:0<(E.cell (xs.getD 0 E.z)).length:=by rw [E.len]; exact E.pos
      rw [List.getElem?_eq_getElem h5] at h4
      have:=Zj6 h4
      simp only at this h6 hm
      omega
    · subst h2; simp at h0
  · exact hS a n c e h0 (by rw [hm]; exact h6)
theorem Zlc {W0 w:World} {n c:Nat} {c':Zf} {ms m1 m2:List Zf} {T:List Nat} {a:Addr} (hT:Z6p c' m m1) (h2:Take ms m1 m2) (hw:Sat W0 T m w) (ha:a.block=c'.b):Z8f (.slice (some a) n c) xs (ms.map (·.b)):=by
  intro a' n' c1 e h0 hm
  injection e with e; injection e with e; subst e
  obtain ⟨k,hk,e2⟩:=List.mem_map.1 hm
  have hd:=(hw.perm hT.perm).dist
  simp only [List.map_cons,List.nodup_cons] at hd
  exact hd.1 (List.mem_map.2 ⟨k,h2.perm.subset (List.mem_append_left _ hk),by rw [← ha]; exact e2⟩)
theorem Zlb {W0 w:World} {b n c:Nat} {o:Obj} {c':Zf} {m1:List Zf} {T:List Nat} {a:Addr} (hT:Z6p c' m m1) (hb:Has b o m1) (hw:Sat W0 T m w) (ha:a.block=c'.b):Z8f (.slice (some a) n c) xs [b] :=
  Zue (b':=0) hT hb hw ha
end
section
variable {α:Type} {C:Cfg} {m:List Zf} {t:TS} {K:KN} {E:El α} {v:Value} {xs:List α}
def Zi6 (E:El α) (u:Value) (xs:List α) (v:Value) (ys:List α) (ms:List Zf):Prop :=
  (∃ m2 m1,ms=m2++m1∧Z0b E v m2 ys∧Z0b E u m1 xs) ∨
  (∃ b o cp T cs,u = .slice (some ⟨b,o,none⟩) xs.length cp∧v = .slice (some ⟨b,o,none⟩) ys.length cp∧xs.length≤ys.length∧ys.length≤cp∧ms = [⟨b,.cells (cells cs).toArray T (0,0)⟩]∧o+cp*E.w≤width cs ∧
    (∀ i,i<xs.length→∀ j,j<E.w→(cells cs)[o+(i*E.w+j)]? = (E.cell (xs.getD i E.z))[j]?) ∧
    ∀ i,i<ys.length→∀ j,j<E.w→(cells cs)[o+(i*E.w+j)]? = (E.cell (ys.getD i E.z))[j]?)
theorem Zi6.refl {ms:List Zf} (h:Z0b E v ms xs):Zi6 E v xs v xs ms:=by
  rcases h with ⟨h1,h2,h3⟩ | ⟨b,o,cp,T,cs,h1,h2,h3,h4,h5⟩
  · exact .inl ⟨[],[],by rw [h3]; rfl,.inl ⟨h1,h2,rfl⟩,.inl ⟨h1,h2,rfl⟩⟩
  · exact .inr ⟨b,o,cp,T,cs,h1,h1,Nat.le_refl _,h2,h3,h4,h5,h5⟩
theorem Zi6.base {u:Value} {ys:List α} {ms:List Zf} (h:Zi6 E u xs v ys ms) : ∃ m1,Z0b E u m1 xs∧List.Sublist m1 ms:=by
  rcases h with ⟨m2,m1,h1,_,h3⟩ | ⟨b,o,cp,T,cs,h1,_,h2,h2',h3,h4,h5,_⟩
  · exact ⟨m1,h3,by rw [h1]; exact List.sublist_append_right _ _⟩
  · exact ⟨ms,.inr ⟨b,o,cp,T,cs,h1,by omega,h3,h4,h5⟩,List.Sublist.refl _⟩
theorem Zi6.own {u:Value} {ys:List α} {ms:List Zf} (h:Zi6 E u xs v ys ms) : ∃ m1,Z0b E v m1 ys∧List.Sublist m1 ms:=by
  rcases h with ⟨m2,m1,h1,h3,_⟩ | ⟨b,o,cp,T,cs,_,h1,_,h2,h3,h4,_,h5⟩
  · exact ⟨m2,h3,by rw [h1]; exact List.sublist_append_left _ _⟩
  · exact ⟨ms,.inr ⟨b,o,cp,T,cs,h1,h2,h3,h4,h5⟩,List.Sublist.refl _⟩
theorem Zi6.shp {u:Value} {ys:List α} {ms:List Zf} (h:Zi6 E u xs v ys ms):Shp v ys.length:=by
  obtain ⟨m1,h1,_⟩:=h.own; exact Shp.own h1
theorem Z01u {d:Nat} {T:TypeId} {bytes:Nat} {z:List Seg} {x y:Operand} {ms mr:List Zf} {u0 u:Value} {x0 ys xs':List α} (e:xs'=xs++ys) (hx:ev t x=some v) (hO:Zi6 E u0 x0 v xs ms) (hT:Take ms m mr) (hy:ev t y=some u) (hs:Zkq C m E u ys)
    (hsz:decide ((xs.length+ys.length)*bytes≤140737488355328)=true) (h : ∀ v' ms',Zi6 E u0 x0 v' xs' ms'→K ((d,v')::t) (ms'++mr)):EF C m t (some d) (.app T E.w bytes z x y) K:=by
  rcases hO with ⟨m2,m1,rfl,h1,h2⟩ | ⟨b,o1,cp,T',cs,hu,h1,h20,h2,h3,h4,h50,h5⟩
  · refine EF.perm hT.perm ?_
    have hs2:Zkq C (m2++(m1++mr)) E u ys:=fun w' hw'=>hs w' (hw'.perm (by rw [← List.append_assoc]; exact hT.perm.symm))
    rw [List.append_assoc]
    refine Z3f e hx h1 Take.here hy hs2 hsz fun v' ms' hO'=>?_
    have:=h v' (ms'++m1) (.inl ⟨ms',m1,rfl,hO',h2⟩)
    rwa [List.append_assoc] at this
  subst e
  have hsz:=of_decide_eq_true hsz
  intro o ho hd a ha w hw
  have hS:Zxh C (ms++mr) E.w u ys.length (cellsOf E ys):=Zqi (w:=w) (fun w' hw'=>hs w' (hw'.perm hT.perm.symm)) (hw.perm hT.perm)
  refine EF.perm hT.perm (EF.less (?_:EF C (ms++mr) t (some d) (.app T E.w bytes z x y) _)) o ho hd a ha w hw
  have hzw:width z=E.w:=by
    simp only [Z9g] at ho
    split at ho
    · simp only [Bool.and_eq_true,Nat.beq_eq] at ho
      exact ho.1.2
    · cases ho
  subst h1; subst h3
  refine Zzz hx Has.here hy hS h4 h2 hsz (fun hr=>?_) (fun hg b' cp' hb' hc'=>?_)
  · have hle:(xs.length+ys.length)*E.w≤cp*E.w:=Nat.mul_le_mul_right _ hr
    rw [Nat.add_mul] at hle
    have hin:o1+xs.length*E.w+(cellsOf E ys).length≤(cells cs).length:=by rw [Z0c,cells_length]; omega
    refine ⟨(Z0y (cells cs) (o1+xs.length*E.w) (cellsOf E ys)).map Seg.one,[⟨b,.cells (cells ((Z0y (cells cs) (o1+xs.length*E.w) (cellsOf E ys)).map Seg.one)).toArray T' (0,0)⟩]++mr,Z17 _,Upd.here,?_⟩
    refine ⟨_,h _ _ (.inr ⟨b,o1,cp,T',_,hu,by simp,by rw [List.length_append]; omega,by simpa using hr,rfl,?_,?_,?_⟩),List.Sublist.refl _⟩
    · rw [Z55,Z0y,List.length_append,List.length_append,List.length_take,List.length_drop]
      rw [cells_length] at hin ⊢; omega
    · intro i hi j hj
      rw [Z17,Z9v hin,Z0c]
      have:i*E.w+E.w≤xs.length*E.w:=by rw [← Nat.succ_mul]; exact Nat.mul_le_mul_right _ (by omega)
      rw [if_neg (by omega),h50 i hi j hj]
    · intro i hi j hj
      rw [Z17,Z9v hin,Z0c]
      rw [List.length_append] at hi
      by_cases hil:i<xs.length
      · have:i*E.w+E.w≤xs.length*E.w:=by rw [← Nat.succ_mul]; exact Nat.mul_le_mul_right _ hil
        rw [if_neg (by omega),Zbf hil,h5 i hil j hj]
      · have e1:i*E.w=xs.length*E.w+(i-xs.length)*E.w:=by rw [← Nat.add_mul]; congr 1; omega
        have:(i-xs.length)*E.w+E.w≤ys.length*E.w:=by rw [← Nat.succ_mul]; exact Nat.mul_le_mul_right _ (by omega)
        rw [if_pos (by omega),Zbg (by omega),show o1+(i*E.w+j)-(o1+xs.length*E.w)=(i-xs.length)*E.w+j by omega,Z44 (by omega) hj]
  · have hle:xs.length*E.w≤cp*E.w:=Nat.mul_le_mul_right _ h2
    have hl1:(((cells cs).drop o1).take (xs.length*E.w)).length=xs.length*E.w:=by rw [List.length_take,List.length_drop,cells_length]; omega
    refine ⟨(((cells cs).drop o1).take (xs.length*E.w)++cellsOf E ys++(List.replicate (cp'-(xs.length+ys.length)) (cells z)).flatten).map Seg.one,Z17 _,?_⟩
    refine ⟨_,h _ ([⟨b',_⟩] ++ [⟨b,_⟩]) (.inl ⟨_,_,rfl,.inr ⟨b',0,cp',T,_,by simp,by simpa using hc',rfl,?_,?_⟩,.inr ⟨b,o1,cp,T',cs,hu,by omega,rfl,h4,h50⟩⟩),List.Sublist.refl _⟩
    · rw [Z55,List.length_append,List.length_append,hl1,Z0c]
      simp only [List.length_flatten,List.map_replicate,List.sum_replicate_nat,cells_length,hzw,Nat.zero_add]
      rw [← Nat.add_mul,← Nat.add_mul]
      exact Nat.mul_le_mul_right _ (by omega)
    · intro i hi j hj
      rw [List.length_append] at hi
      rw [Z17,Nat.zero_add]
      by_cases hil:i<xs.length
      · have:i*E.w+E.w≤xs.length*E.w:=by rw [← Nat.succ_mul]; exact Nat.mul_le_mul_right _ hil
        rw [List.append_assoc,List.getElem?_append_left (by rw [hl1]; omega),List.getElem?_take_of_lt (by omega),List.getElem?_drop,h5 i hil j hj,Zbf hil]
      · have e1:i*E.w=xs.length*E.w+(i-xs.length)*E.w:=by rw [← Nat.add_mul]; congr 1; omega
        have:(i-xs.length)*E.w+E.w≤ys.length*E.w:=by rw [← Nat.succ_mul]; exact Nat.mul_le_mul_right _ (by omega)
        rw [List.append_assoc,List.getElem?_append_right (by rw [hl1]; omega),hl1,List.getElem?_append_left (by rw [Z0c]; omega),Zbg (by omega),show i*E.w+j-xs.length*E.w=(i-xs.length)*E.w+j by omega,Z44 (by omega) hj]
theorem EF.sub {d:Option Nat} {op:IOp} {m':List Zf} (h:EF C m' t d op K) (hs:List.Sublist m' m):EF C m t d op K :=
  fun o ho hd a ha w hw=>h o ho hd a ha w (hw.sublist hs)
def Zf1 (E:El α) (v:Value) (ms:List Zf) (xs:List α):Prop:=∃ m1,Z0b E v m1 xs∧List.Sublist m1 ms
def Z2u (E:El α) (u:Value) (xs:List α) (v:Value) (ys:List α) (ms:List Zf):Prop:=∃ m1,Zi6 E u xs v ys m1∧List.Sublist m1 ms
theorem Z0b.oin {ms:List Zf} (h:Z0b E v ms xs):Zf1 E v ms xs:=⟨ms,h,List.Sublist.refl _⟩
theorem Zf1.grow {ms:List Zf} (h:Zf1 E v ms xs):Z2u E v xs v xs ms:=by
  obtain ⟨m1,h1,h2⟩:=h; exact ⟨m1,Zi6.refl h1,h2⟩
theorem Z2u.base {u:Value} {ys:List α} {ms:List Zf} (h:Z2u E u xs v ys ms):Zf1 E u ms xs:=by
  obtain ⟨m1,h1,h2⟩:=h
  obtain ⟨m0,h3,h4⟩:=h1.base
  exact ⟨m0,h3,h4.trans h2⟩
theorem Zf1.shp {ms:List Zf} (h:Zf1 E v ms xs):Shp v xs.length:=by obtain ⟨_,h1,_⟩:=h; exact Shp.own h1
theorem Z2u.shp {u:Value} {ys:List α} {ms:List Zf} (h:Z2u E u xs v ys ms):Shp v ys.length:=by obtain ⟨_,h1,_⟩:=h; exact h1.shp
theorem Z0uf {u:Value} {ys:List α} {ms mr:List Zf} (h:Z2u E u xs v ys ms) (hT:Take ms m mr):Zkq C m E v ys:=by
  obtain ⟨m1,h1,h2⟩:=h
  obtain ⟨m0,h3,h4⟩:=h1.own
  exact fun _ hw=>Z4y.own h3 ((hw.take hT).sublist (h4.trans h2))
theorem Zml {d:Nat} {T:TypeId} {bytes:Nat} {z:List Seg} {x y:Operand} {ms mr:List Zf} {u0 u:Value} {x0 ys xs':List α} (e:xs'=xs++ys) (hx:ev t x=some v) (hO:Z2u E u0 x0 v xs ms) (hT:Take ms m mr) (hy:ev t y=some u) (hs : ∀ w,Sat C.W0 C.S mr w→Z4y E w u ys)
    (hsz:decide ((xs.length+ys.length)*bytes≤140737488355328)=true) (h : ∀ v' ms',Z2u E u0 x0 v' xs' ms'→K ((d,v')::t) (ms'++mr)):EF C m t (some d) (.app T E.w bytes z x y) K:=by
  obtain ⟨m1,hG,hs1⟩:=hO
  refine EF.perm hT.perm (EF.sub (m':=m1++mr) ?_ (hs1.append_right mr))
  exact Z01u e hx hG Take.here hy (fun w hw=>hs w (hw.sublist (List.sublist_append_right _ _))) hsz fun v' ms' h'=>h v' ms' ⟨ms',h',List.Sublist.refl _⟩
end
def isW (want:Bool):Value→Bool
  | .bool b=>b==want
  | _=>false
theorem Z06e {want:Bool} {u:Value} (h:isW want u=false):u ≠ .bool want:=by
  rintro rfl; simp [isW] at h
theorem Zaq.lit {n:Nat} {t:TS} {a:Act} (h:Zaq n t a) {tc:Nat} {c b:Bool} (hc:Sx.look t tc=some (.bool c)) (e:c=b):Zaq n ((tc,.bool b)::t) a:=by
  subst e
  refine h.drop fun j v hj=>?_
  simp only [Sx.look] at hj
  by_cases e:Nat.beq tc j=true
  · rw [e,cond_true] at hj
    rw [Nat.beq_eq] at e; subst e
    rw [hc]; exact hj
  · rw [Bool.not_eq_true] at e; rw [e,cond_false] at hj; exact hj
section
variable {C:Cfg} {t:TS} {m m0:List Zf} {kn:KN} {op:IOp} {r:List J} {d:Option Nat} {tc i:Nat} {want bb:Bool} {late:List Nat} {rs:Sch}
theorem Z18g {r:List Zl5} (hc:look t tc=some (.bool want)) (h:EF C m t d op (fun t' m'=>WL C r t' m' kn)):WL C (⟨d,some (tc,want),op⟩::r) t m kn:=by
  intro ops lo hok Q a w ha hw hcn
  cases lo with
  | nil=>simp [okL] at hok
  | cons o lo =>
    simp only [okL,Bool.and_eq_true] at hok
    obtain ⟨⟨⟨hd,hg⟩,ho⟩,hr⟩:=hok
    unfold wpList
    rw [if_pos (by rw [Zej hg ha hc]; simp)]
    left
    refine Oper.wp_mono ?_ (Zxd (h o ho hd a ha w hw))
    rintro a' w' ⟨t',m',hk,ha',hw'⟩
    exact hk ops lo hr Q a' w' ha' hw' hcn
theorem Zys {r:List Zl5} {d:Nat} {pre pre':TS} {u:Value} (hc:look (pre++t) tc=some u) (hu:isW want u=false) (h:QR C m t r ((d,undef)::pre) pre'):QR C m t (⟨some d,some (tc,want),op⟩::r) pre pre':=by
  intro ops lo hok
  cases lo with
  | nil=>simp [okL] at hok
  | cons o lo =>
    simp only [okL,Bool.and_eq_true] at hok
    obtain ⟨⟨⟨hd,hg⟩,ho⟩,hr⟩:=hok
    obtain ⟨hd1,hd2⟩:=Z46 hd
    refine ⟨undef,fun a ha=>.inr ⟨Zsn hg (by rw [ha.look _ _ hc]; exact Z06e hu),rfl⟩,?_⟩
    rw [hd1]
    exact Zfw.sub (fun a' ⟨a,ha,e⟩=>e▸ha.put hd2 undef) (h ops lo hr)
theorem Zd6 {d:Nat} (hc:look t tc=some (.bool want)) (v:Value) (h1:Q1 C m t op v) (h:WJ C r ((d,v)::t) m kn):WJ C (.op ⟨some d,some (tc,want),op⟩::r) t m kn:=by
  unfold WJ at *; rw [J.flatL,J.flat]
  exact Zpk (l1:=[⟨some d,some (tc,want),op⟩]) (pre:=[(d,v)]) (Z00e (pre:=[]) v hc h1 Zs0) h
theorem Ztz (hc:look t tc=some (.bool want)) (h:EF C m t d op (fun t' m'=>WJ C r t' m' kn)):WJ C (.op ⟨d,some (tc,want),op⟩::r) t m kn:=by
  unfold WJ at *; rw [J.flatL,J.flat]
  exact Z18g hc h
theorem Z3o {d:Nat} {u:Value} (hc:look t tc=some u) (hu:isW want u=false) (h:WJ C r ((d,undef)::t) m kn):WJ C (.op ⟨some d,some (tc,want),op⟩::r) t m kn:=by
  unfold WJ at *; rw [J.flatL,J.flat]
  exact Zpk (l1:=[⟨some d,some (tc,want),op⟩]) (pre:=[(d,undef)]) (Zys (pre:=[]) hc hu Zs0) h
theorem Zty {β:Type} {r0:β} {a b:Option β} {c:Bool} (h:br c a b=some r0) (hc:look t tc=some (.bool c)) (ht:a=some r0→WJ C r ((tc,.bool true)::t) m kn) (hf:b=some r0→WJ C r ((tc,.bool false)::t) m kn):WJ C r t m kn:=by
  intro ops lo hok Q a w ha hw hcn
  cases hcv:c with
  | true=>exact ht (br_t h hcv) ops lo hok Q a w (ha.lit hc hcv) hw hcn
  | false=>exact hf (br_f h hcv) ops lo hok Q a w (ha.lit hc hcv) hw hcn
theorem Zjn {x a b:Operand} {v:Value} (hc:ev t x=some (.bool true)) (ha:ev t a=some v):Q1 C m t (.pick x a b) v:=by
  cases hb:ev t b with
  | none=>exact Zjm (u:=v) hc (fun _=>ha) (fun h=>by cases h)
  | some u=>exact Zjm (u:=v) hc (fun _=>ha) (fun h=>by cases h)
theorem Zcw {x a b:Operand} {v:Value} (hc:ev t x=some (.bool false)) (hb:ev t b=some v):Q1 C m t (.pick x a b) v :=
  Zjm (u:=v) hc (fun h=>by cases h) (fun _=>hb)
theorem Zyj {m m1 m2 M0 M1:List Zf} (h1:Take M0 m m1) (h2:Take M1 m1 m2):List.Perm ((M0++M1)++m2) m:=by
  rw [List.append_assoc]
  exact (h2.perm.append_left M0).trans h1.perm
theorem Zsb {W0:World} {S:List Nat} {w:World} (h:Sat W0 S m w) {M0 M1 mr:List Zf} (hp:List.Perm ((M0++M1)++mr) m):Sat w ((M0++M1).map (·.b)) (M0++(M1 ++ [])) w:=by
  rw [List.append_nil]; exact Zaj h hp
end
end Go.Sx
