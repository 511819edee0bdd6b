/- Texts of a proof, one behind the other: E14 E15 E16 E17 E18 E19 E20 E21 E22 S1 E23 SB. -/
import Derived.Test.YtiflckckekjbnaaDoorMH1
import Derived.Laws.Externs
import Derived.RangeFuncLeaves
import Derived.RangeFuncRecord
import Derived.Test.YtiflckckekjbnaaDoorProg
namespace Go.Sx
open Go Go.RowKit
set_option linter.all false
def Zwe:Option Nat→Value→TS→TS
  | some d,v,t=>(d,v)::t
  | none,_,t=>t
def Zwf (W0:World) (S:List Nat) (R:Value→List Zc→Prop):Ending→World→Prop:=fun e w'=>∃ v m,e = .returned v∧R v m∧Sat W0 S m w'
theorem Za3 {W0:World} {S:List Nat} {m:List Zc} {w:World} (h:Sat W0 S m w) {mS mr:List Zc} (hp:List.Perm (mS++mr) m):Sat w (mS.map (·.b)) mS w:=by
  have h':=h.perm hp
  refine ⟨⟨rfl,rfl,rfl,Nat.le_refl _,fun _ _ _=>rfl⟩,fun c hc=>h'.own c (List.mem_append_left _ hc),fun c hc=>.inr (List.mem_map.2 ⟨c,hc,rfl⟩),?_⟩
  have:=h'.dist
  rw [List.map_append,List.nodup_append] at this
  exact this.1
theorem Znb {W0:World} {S:List Nat} {m:List Zc} {w w':World} (h:Sat W0 S m w) {mS mr m':List Zc} (hp:List.Perm (mS++mr) m) (h':Sat w (mS.map (·.b)) m' w'):Sat W0 S (m'++mr) w':=by
  have hh:=h.perm hp
  have hd:=hh.dist
  rw [List.map_append,List.nodup_append] at hd
  have hbase : ∀ c∈mS,W0.heap.size≤c.b∨c.b∈S:=fun c hc=>hh.base c (List.mem_append_left _ hc)
  have hr : ∀ c∈mr,c.b<w.heap.size∧c.b∉mS.map (·.b):=fun c hc=>⟨hh.lt (List.mem_append_right _ hc),fun hm=>hd.2.2 _ hm _ (List.mem_map.2 ⟨c,hc,rfl⟩) rfl⟩
  refine ⟨⟨h'.fr.os.trans h.fr.os,h'.fr.tape.trans h.fr.tape,h'.fr.output.trans h.fr.output,Nat.le_trans h.fr.size h'.fr.size,fun k hk hS=>?_⟩,?_,?_,?_⟩
  · rw [h'.fr.block k (Nat.lt_of_lt_of_le hk h.fr.size) ?_]
    · exact h.fr.block k hk hS
    · intro hm
      obtain ⟨c,hc,rfl⟩:=List.mem_map.1 hm
      rcases hbase c hc with h1 | h1
      · omega
      · exact hS h1
  · intro c hc
    rcases List.mem_append.1 hc with hc | hc
    · exact h'.own c hc
    · rw [h'.fr.block c.b (hr c hc).1 (hr c hc).2]
      exact hh.own c (List.mem_append_right _ hc)
  · intro c hc
    rcases List.mem_append.1 hc with hc | hc
    · rcases h'.base c hc with h1 | h1
      · exact .inl (Nat.le_trans h.fr.size h1)
      · obtain ⟨c',hc',e⟩:=List.mem_map.1 h1
        rw [← e]; exact hbase c' hc'
    · exact hh.base c (List.mem_append_right _ hc)
  · rw [List.map_append,List.nodup_append]
    refine ⟨h'.dist,hd.2.1,?_⟩
    intro a ha b hb e
    subst e
    obtain ⟨c,hc,rfl⟩:=List.mem_map.1 ha
    obtain ⟨c2,hc2,e2⟩:=List.mem_map.1 hb
    have:=hr c2 hc2
    rw [e2] at this
    rcases h'.base c hc with h1 | h1
    · omega
    · exact this.2 h1
section
variable {C:Cfg} {m:List Zc} {t:TS} {K:KN}
theorem Zft {w:World} {b o:Nat} {s:List Seg} (h:Mem C.W0 b o s) (hS:b∉C.S) (hw:Sat C.W0 C.S m w):Mem w b o s :=
  ⟨fun i hi=>h.now hS hw hi,Nat.lt_of_lt_of_le h.lt hw.fr.size⟩
theorem Zlg {d:Option Nat} {f:FuncId} {args:List Operand} {vs:List Value} {mS mr:List Zc} {R:Value→List Zc→Prop} (ha:evL t args=some vs) (hp:List.Perm (mS++mr) m)
    (hc : ∀ w,Sat C.W0 C.S m w→Calls C.P f vs.toArray w (Zwf w (mS.map (·.b)) R))
    (h : ∀ v m',R v m'→K (Zwe d v t) (m'++mr)):EF C m t d (.call f args) K:=by
  intro o ho hd a hat w hw
  unfold Oper.wp
  rw [Zm4 ho,hat.evL ha]
  simp only [Oper.upon]
  refine (hc w hw).mono ?_
  rintro e w' ⟨v,m',rfl,hR,hs⟩
  have hsat:=Znb hw hp hs
  cases d with
  | none =>
    have hd0:o.dst=none:=by revert hd; cases o.dst <;> simp [okD]
    rw [hd0]
    exact ⟨_,_,h v m' hR,hat,hsat⟩
  | some d =>
    obtain ⟨hd1,hd2⟩:=Z3u hd
    rw [hd1]
    exact ⟨_,_,h v m' hR,hat.put hd2 v,hsat⟩
theorem Zqv {d:Option Nat} {f:FuncId} {args:List Operand} {vs:List Value} {R:Value→List Zc→Prop} (ha:evL t args=some vs)
    (hc : ∀ w,Sat C.W0 C.S m w→Calls C.P f vs.toArray w (Zwf w [] R))
    (h : ∀ v m',R v m'→K (Zwe d v t) (m'++m)):EF C m t d (.call f args) K :=
  Zlg (mS:=[]) ha (List.Perm.refl _) hc h
end
section
variable {C:Cfg} {m:List Zc} {t:TS} {K:KN}
theorem Zom {k:IntKind} {N off n:Nat} {xs:List Int} (h:off+n≤N):((Z0q k N xs).drop off).take n=(tk xs off n).map (Value.int k):=by
  apply List.ext_getElem?
  intro j
  by_cases hj:j<n
  · rw [List.getElem?_take_of_lt hj,List.getElem?_drop,Zko,if_pos (by omega),List.getElem?_map,List.getElem?_eq_getElem (by rw [Zy]; exact hj)]
    simp [tk]
  · rw [List.getElem?_eq_none (by rw [List.length_take]; omega),List.getElem?_eq_none (by rw [List.length_map,Zy]; omega)]
theorem Z026 {size:Nat} {b off n c:Nat} {cs:List Value} (hl:cs.length=n*size) (h1 : ∀ u∈cs,one1 u=true)
    (h : ∀ w,Sat C.W0 C.S m w→∀ i,i<n*size→w.cell? ⟨b,off+i,none⟩=cs[i]?):Zqi C m size (.slice (some ⟨b,off,none⟩) n c) n cs :=
  ⟨fun _=>rfl,fun w hw k hk=>Zfz hl (h w hw) hk,hl,h1⟩
theorem Zlu {w n:Nat} {g:Nat→List Value} (h : ∀ i,i<n→(g i).length=w ∧ ∀ u∈g i,one1 u=true) : ∀ u∈Z0k w n g,one1 u=true:=by
  intro u hu
  unfold Z0k at hu
  obtain ⟨i,hi,hu⟩:=List.mem_flatMap.1 hu
  obtain ⟨h1,h2⟩:=h i (by simpa using hi)
  rw [Z75 h1] at hu
  exact h2 u hu
def ExtF (P:Program) (f:FuncId) (e:Array Value→Sem Value):Prop :=
  ∃ fn,P.funcs[f]? = some fn∧(fn.name == "runtime.NumGoroutine")=false∧fn.body.isNone=true∧Extern.findNext fn=none∧Extern.find fn=some e
theorem Zc2 {f:FuncId} {args:List Operand} {vs:List Value} {v:Value} {e:Array Value→Sem Value} (ha:evL t args=some vs) (he:ExtF C.P f e) (hr : ∀ w,(e vs.toArray).run C.P w = .ok v w):Q1 C m t (.xcall f args) v:=by
  intro o ho a hat w hw
  obtain ⟨fn,h1,h2,h3,h4,h5⟩:=he
  refine Z07 ?_
  simp only [Z8k] at ho
  split at ho
  · rename_i c heq
    simp only [Bool.and_eq_true] at ho
    obtain ⟨ho1,ho2⟩:=ho
    have hc:c.callee = .value (.func f):=by
      revert ho1
      cases c.callee <;> simp
      rename_i x
      cases x <;> simp
    have hargs:c.args.map a.eval=vs.toArray:=by
      have e1:=Z60 ho2
      have e2:=hat.evL ha
      apply Array.ext'
      rw [Array.toList_map,e1,e2]
    have h6:=run_callFunc_extern (P:=C.P) h1 h2 h3 h4 h5 vs.toArray w
    rw [hr w] at h6
    have hev:a.eval (.func f) = .func (.func f) #[] #[]:=rfl
    simp only [execOp,heq,resolve,hc,hev,Deferred.ofValue,Sem.run_bind,Sem.run_pure,Result.andThen_ok,invoke,Array.append_empty,Array.empty_append,hargs]
    rw [h6]; rfl
  · cases ho
def Zcs:Array Value→Sem Value:=fun args=>do
  let (x,y,b) ← Extern.MathBitsCarry.three "Sub64" args
  pure (Extern.MathBitsCarry.pair ((x+Extern.MathBitsCarry.m64-y-b)%Extern.MathBitsCarry.m64) (if x<y+b then 1 else 0))
theorem Zpn {P:Program} (x y c:Int) (hx:0≤x) (hy:0≤y) (hy2:y<18446744073709551616) (hc0:0≤c) (hc:c≤1) (w:World) :
    (Zcs #[.int .u64 x,.int .u64 y,.int .u64 c]).run P w = .ok (.tuple #[.int .u64 ((x-y-c)%18446744073709551616),.int .u64 (if x<y+c then 1 else 0)]) w:=by
  have key : ∀ k:Nat,k≤1→(Zcs #[.int .u64 x,.int .u64 y,.int .u64 (k:Int)]).run P w =
      .ok (Extern.MathBitsCarry.pair ((x.toNat+Extern.MathBitsCarry.m64-y.toNat-k)%Extern.MathBitsCarry.m64) (if x.toNat<y.toNat+k then 1 else 0)) w:=by
    intro k hk
    have:k=0∨k=1:=by omega
    rcases this with rfl | rfl <;> rfl
  obtain ⟨k,rfl⟩:=Int.eq_ofNat_of_zero_le hc0
  rw [key k (by omega)]
  obtain ⟨X,rfl⟩:=Int.eq_ofNat_of_zero_le hx
  obtain ⟨Y,rfl⟩:=Int.eq_ofNat_of_zero_le hy
  simp only [Extern.MathBitsCarry.pair,Extern.MathBitsCarry.m64,Int.toNat_natCast]
  have e1:Int.ofNat ((X+2^64-Y-k)%2^64)=((X:Int)-Y-k)%18446744073709551616:=by
    simp only [Int.ofNat_eq_natCast]; omega
  have e2:Int.ofNat (if X<Y+k then 1 else 0)=if (X:Int)<Y+k then 1 else 0:=by
    by_cases h:X<Y+k
    · rw [if_pos h,if_pos (by omega)]; rfl
    · rw [if_neg h,if_neg (by omega)]; rfl
  rw [e1,e2]
def ieq (n:Nat) (a b:List Int):Bool:=decide (tk a 0 n=tk b 0 n)
theorem Zol {k:IntKind} {n:Nat} {a b:List Int}:ieq n a b=true↔cells [.ints k n a]=cells [.ints k n b]:=by
  simp only [ieq,decide_eq_true_eq,cells,Seg.cells,List.append_nil,Zon]
  constructor
  · intro h; rw [h]
  · intro h
    refine List.map_inj_right (f:=Value.int k) (fun x y e=>?_) |>.1 h
    cases e; rfl
theorem Zep {d:Nat} {T:TypeId} {z z':List Seg} (hz:cells z=cells z') (h : ∀ b,C.W0.heap.size≤b→K ((d,.pointer (some ⟨b,0,none⟩))::t) (ck b T z'::m)):EF C m t (some d) (.al T z) K :=
  Zw fun b hb=>by
    have:=h b hb
    unfold ck at this ⊢
    rw [hz]; exact this
theorem Z077 {x:Operand} {b p base i len:Nat} {T:TypeId} {fz:Nat×Nat} {s:List Seg} {k:IntKind} {xs:List Int} (hx:ev t x=some (.pointer (some ⟨b,p,none⟩))) (hb:Has b (.cells (cells s).toArray T fz) m)
    (hs:Zav s base=some (.ints k len xs)) (hp:p=base+i) (hi:i<len):Q1 C m t (.ld 1 false x) (.int k (xs.getD i 0)) :=
  Z8v (base:=base) (i:=i) (by rw [hx,hp,Nat.mul_one]) hb hs hi
theorem Zx3 {x y:Operand} {b p base i len:Nat} {T:TypeId} {s q:List Seg} {k:IntKind} {xs:List Int} {z:Int} {m':List Zc} (hx:ev t x=some (.pointer (some ⟨b,p,none⟩))) (hy:ev t y=some (.int k z))
    (hs:Zav s base=some (.ints k len xs)) (hp:p=base+i) (hi:i<len) (hq:Zbd s base (.ints k len (Z4h xs i z))=some q)
    (hup:Upd b (.cells (cells s).toArray T (0,0)) (.cells (cells q).toArray T (0,0)) m m') (h:K t m'):EF C m t none (.st 1 x y) K :=
  Zss (base:=base) (i:=i) (by rw [hx,hp,Nat.mul_one]) hy hs hi hq hup h
end
section
variable {α β:Type} {r:β} {G:Prop}
def bnd (x:α) (f:α→Option β):Option β:=f x
def chk (c:Bool) (o:Option β):Option β:=bif c then o else none
def opt (o:Option α) (f:α→Option β):Option β:=o.bind f
def jn {K:Type} (k:K) (g:K→Option β):Option β:=g k
def br (c:Bool) (a b:Option β):Option β:=bif c then a else b
@[irreducible] def big:Nat:=18446744073709551616
theorem Z47:big=18446744073709551616:=by unfold big; rfl
theorem Z02u {x:α} {f:α→Option β} (h : ∀ z,z=x→f z=some r→G):bnd x f=some r→G:=fun e=>h x rfl e
theorem Z02v {c:Bool} {o:Option β} (h:c=true→o=some r→G):chk c o=some r→G:=by
  intro e; cases c
  · simp [chk] at e
  · exact h rfl e
theorem Z070 {o:Option α} {f:α→Option β} (h : ∀ y,o=some y→f y=some r→G):opt o f=some r→G:=by
  intro e; cases o with
  | none=>simp [opt] at e
  | some y=>exact h y rfl e
theorem jn_i {K:Type} {k:K} {g:K→Option β} (h : ∀ k',k'=k→g k'=some r→G):jn k g=some r→G:=fun e=>h k rfl e
theorem br_t {c:Bool} {a b:Option β} (h:br c a b=some r) (hc:c=true):a=some r:=by subst hc; exact h
theorem br_f {c:Bool} {a b:Option β} (h:br c a b=some r) (hc:c=false):b=some r:=by subst hc; exact h
theorem Zz {a:β} (h:a=r→G):some a=some r→G:=fun e=>h (Option.some.inj e)
theorem Z1c:(none:Option β)=some r→G:=fun e=>by cases e
end
def inB (z:Int) (n:Nat):Bool:=decide (0≤z)&&decide (z<n)
theorem Z1w {z:Int} {n:Nat} (h:inB z n=true):0≤z∧z<n:=by simpa [inB] using h
theorem Z18 {z:Int} {n:Nat} (h:inB z n=true):z.toNat<n:=by have:=Z1w h; omega
def imp (a b:Bool):Bool := !a||b
theorem Zhy {a b:Bool} (h:imp a b=true) (ha:a=true):b=true:=by subst ha; simpa [imp] using h
theorem Zmy {a b:Bool} (h:imp (!a) b=true) (ha:a=false):b=true:=by subst ha; simpa [imp] using h
theorem Zwm {a b:Bool} (h:(a&&b)=true):a=true:=by simp at h; exact h.1
theorem Z02t {a b:Bool} (h:(a&&b)=true):b=true:=by simp at h; exact h.2
def Zge (lo hi:Int) (n:Nat):Bool:=decide (0≤lo)&&decide (lo≤hi)&&decide (hi≤n)
theorem Zix {lo hi:Int} {n:Nat} (h:Zge lo hi n=true):0≤lo∧lo≤hi∧hi≤n:=by simp [Zge] at h; omega
abbrev Zh (k:IntKind) (p q:Int):Int:=p.fdiv (2^min q.toNat k.bits)
abbrev Zq (k:IntKind) (p q:Int):Int:=k.wrap (p*2^min q.toNat k.bits)
def Zf7 {α:Type} (z:α) (xs:List α) (i:Nat) (v:α):List α:=if i<xs.length then xs.set i v else xs++(List.replicate (i-xs.length) z ++ [v])
theorem Z5l {α:Type} (z:α) (xs:List α) (i j:Nat) (v:α):(Zf7 z xs i v).getD j z=if j=i then v else xs.getD j z:=by
  unfold Zf7
  by_cases h:i<xs.length
  · rw [if_pos h]
    by_cases hj:j=i
    · subst hj; simp [List.getD,h]
    · simp [List.getD,List.getElem?_set,hj,Ne.symm hj]
  · rw [if_neg h]
    simp only [List.getD]
    by_cases hj:j<xs.length
    · rw [List.getElem?_append_left hj,if_neg (by omega)]
    · rw [List.getElem?_append_right (by omega)]
      by_cases hji:j=i
      · subst hji; rw [List.getElem?_append_right (by simp)]; simp
      · rw [if_neg hji,List.getElem?_eq_none (l:=xs) (by omega)]
        by_cases hlt:j<i
        · rw [List.getElem?_append_left (by simp; omega),List.getElem?_replicate]; split <;> rfl
        · rw [List.getElem?_eq_none (by simp; omega)]
theorem Zax {α:Type} {z:α} {xs:List α} {i:Nat} {v:α} (h:i<xs.length):Zf7 z xs i v=xs.set i v:=if_pos h
inductive Zgt (ms:List Zc):List Zc→List Zc→Prop
  | here {m:List Zc}:Zgt ms (ms++m) m
  | there {c:Zc} {m m':List Zc}:Zgt ms m m'→Zgt ms (c::m) (c::m')
  | app {ns m m':List Zc}:Zgt ms m m'→Zgt ms (ns++m) (ns++m')
inductive Z3y (c:Zc):List Zc→List Zc→Prop
  | here {m:List Zc}:Z3y c (c::m) m
  | there {c':Zc} {m m':List Zc}:Z3y c m m'→Z3y c (c'::m) (c'::m')
  | app {ns m m':List Zc}:Z3y c m m'→Z3y c (ns++m) (ns++m')
theorem Zro (ms ns m:List Zc):List.Perm (ms++(ns++m)) (ns++(ms++m)):=by
  rw [← List.append_assoc,← List.append_assoc]
  exact List.Perm.append_right m List.perm_append_comm
theorem Zgt.perm {ms m m':List Zc} (h:Zgt ms m m'):List.Perm (ms++m') m:=by
  induction h with
  | here=>exact List.Perm.refl _
  | there _ ih=>exact List.perm_middle.trans (ih.cons _)
  | app _ ih=>exact (Zro _ _ _).trans (List.Perm.append_left _ ih)
theorem Z3y.perm {c:Zc} {m m':List Zc} (h:Z3y c m m'):List.Perm (c::m') m:=by
  induction h with
  | here=>exact List.Perm.refl _
  | there _ ih=>exact (List.Perm.swap _ _ _).trans (ih.cons _)
  | app _ ih=>exact (List.perm_middle.symm).trans (List.Perm.append_left _ ih)
inductive Znl:List Zc→List Zc→Prop
  | nil {m:List Zc}:Znl [] m
  | all {ms M m m1:List Zc}:Zgt ms m m1→Znl M m1→Znl (ms++M) m
  | one {c:Zc} {M m m1:List Zc}:Z3y c m m1→Znl M m1→Znl (c::M) m
  | no {M m:List Zc}:Znl M m→Znl ([]++M) m
theorem Znl.rest {M m:List Zc} (h:Znl M m) : ∃ r,List.Perm (M++r) m:=by
  induction h with
  | nil=>exact ⟨_,List.Perm.refl _⟩
  | all h1 _ ih =>
    obtain ⟨r,hr⟩:=ih
    exact ⟨r,by rw [List.append_assoc]; exact (List.Perm.append_left _ hr).trans h1.perm⟩
  | one h1 _ ih =>
    obtain ⟨r,hr⟩:=ih
    exact ⟨r,by rw [List.cons_append]; exact (hr.cons _).trans h1.perm⟩
  | no _ ih=>exact ih
theorem Sat.psub {W0:World} {S:List Nat} {M m:List Zc} {w:World} (h:Sat W0 S m w) (hs:Znl M m):Sat W0 S M w:=by
  obtain ⟨r,hr⟩:=hs.rest
  exact (h.perm hr).sublist (List.sublist_append_left _ _)
theorem Sat.take {W0:World} {S:List Nat} {ms m m':List Zc} {w:World} (h:Sat W0 S m w) (hs:Zgt ms m m'):Sat W0 S ms w :=
  (h.perm hs.perm).sublist (List.sublist_append_left _ _)
structure Fit (T:TS) (M:List Zc) (t:TS) (m:List Zc):Prop where
  t:subT T t
  m:Znl M m
section
variable {C:Cfg} {t:TS} {m:List Zc} {kn:KN} {ke:KE}
theorem Zm {c:IC} {T:TS} {M:List Zc} (hl:Fit T M t m) (h:WC C c T M kn ke):WC C c t m kn ke:=by
  intro hm c0 hok ρ fu Q a w ha hw hc
  exact h hm c0 hok ρ fu Q a w (ha.drop (Zq1 hl.t)) (hw.psub hl.m) hc
theorem Zo {a:IC} {G:TS→List Zc→Prop} (h1:WC C a t m G ke) (h2 : ∀ t m,G t m→kn t m):WC C a t m kn ke:=h1.mono h2
theorem Z01 {c:IC} (J:Nat→TS→List Zc→Prop) (n0:Nat) (h0:J n0 t m)
    (round : ∀ n t m,J n t m→WC C c t m (fun t' m'=>∃ n',n'<n∧J n' t' m') ke):WC C (.loop c) t m kn ke:=by
  intro hm c0 hok ρ fu Q a w ha hw hc
  cases c0 <;> first | (simp [okC] at hok; done) | skip
  rename_i c1
  simp only [okC] at hok
  refine Zq9 (X:=Nat×TS×List Zc) (fun x a w=>J x.1 x.2.1 x.2.2∧Z6v C.n x.2.1 a∧Sat C.W0 C.S x.2.2 w) (fun x=>x.1) (x0:=(n0,t,m)) ⟨h0,ha,hw⟩ ?_
  rintro ⟨n,t1,m1⟩ a w ⟨hI,ha,hw⟩
  refine round n t1 m1 hI hm c1 hok ρ fu _ a w ha hw ⟨?_,hc.b,hc.r⟩
  rintro t' m' ⟨n',hlt,hJ⟩ a' w' ha' hw'
  exact ⟨(n',t',m'),⟨hJ,ha',hw'⟩,hlt⟩
end
structure El (α:Type) where
  w:Nat
  cell:α→List Value
  len : ∀ a,(cell a).length=w
  one : ∀ a,∀ v∈cell a,one1 v=true
  pos:0<w
  z:α
abbrev El.int (k:IntKind):El Int:=⟨1,fun x=>[.int k x],fun _=>rfl,fun _ v h=>by simp at h; subst h; rfl,by decide,0⟩
def Z8r {α:Type} (E:El α) (xs:List α):Nat→List Value:=fun i=>E.cell (xs.getD i E.z)
theorem Z89 : ∀ v∈cells [],one1 v=true:=fun v h=>by cases h
theorem Z3e {s:Seg} {r:List Seg} (h1 : ∀ v∈s.cells,one1 v=true) (h2 : ∀ v∈cells r,one1 v=true) : ∀ v∈cells (s::r),one1 v=true:=by
  intro v hv
  simp only [cells,List.mem_append] at hv
  exact hv.elim (h1 v) (h2 v)
theorem Zrn {u:Value} (h:one1 u=true) : ∀ v∈(Seg.one u).cells,one1 v=true:=by
  intro v hv; simp only [Seg.cells,List.mem_singleton] at hv; subst hv; exact h
theorem Z8l {k:IntKind} {n:Nat} {xs:List Int} : ∀ v∈(Seg.ints k n xs).cells,one1 v=true:=by
  intro v hv; simp only [Seg.cells,Z0q,List.mem_map] at hv; obtain ⟨_,_,rfl⟩:=hv; rfl
theorem Zaf {α:Type} {E:El α} {n:Nat} {xs:List α} : ∀ v∈(Seg.rows E.w n (Z8r E xs)).cells,one1 v=true:=by
  intro v hv
  exact Zlu (w:=E.w) (n:=n) (g:=Z8r E xs) (fun i _=>⟨E.len _,E.one _⟩) v hv
theorem Zr2 {α:Type} {E:El α} (x:α):fit E.w (E.cell x)=E.cell x:=Z75 (E.len x)
def RdSl {α:Type} (E:El α) (W:World) (v:Value) (xs:List α):Prop :=
  (v = .slice none 0 0∧xs = [])∨(∃ b o cp,v = .slice (some ⟨b,o,none⟩) xs.length cp∧xs.length≤cp ∧ ∀ i,i<xs.length→∀ j,j<E.w→W.cell? ⟨b,o+(i*E.w+j),none⟩=(E.cell (xs.getD i E.z))[j]?) ∨ ∃ a,v = .slice (some a) 0 0∧xs = []
def Zgs {α:Type} (C:Cfg) (m:List Zc) (E:El α) (v:Value) (xs:List α):Prop:=∀ w,Sat C.W0 C.S m w→RdSl E w v xs
def Z1n {α:Type} (E:El α) (v:Value) (ms:List Zc) (xs:List α):Prop :=
  (v = .slice none 0 0∧xs = []∧ms = []) ∨ ∃ b o cp T cs,v = .slice (some ⟨b,o,none⟩) xs.length cp∧xs.length≤cp∧ms = [⟨b,.cells (cells cs).toArray T (0,0)⟩]∧o+cp*E.w≤width cs ∧
    ∀ i,i<xs.length→∀ j,j<E.w→(cells cs)[o+(i*E.w+j)]? = (E.cell (xs.getD i E.z))[j]?
theorem Z8u {α:Type} {E:El α}:Z1n E (.slice none 0 0) [] []:=.inl ⟨rfl,rfl,rfl⟩
theorem Ztc {α:Type} {E:El α} {W:World}:RdSl E W (.slice none 0 0) []:=.inl ⟨rfl,rfl⟩
theorem RdSl.own {α:Type} {E:El α} {v:Value} {ms:List Zc} {xs:List α} (h:Z1n E v ms xs) {W0:World} {S:List Nat} {w:World} (hw:Sat W0 S ms w):RdSl E w v xs:=by
  rcases h with ⟨h1,h2,h3⟩ | ⟨b,o,cp,T,cs,h1,h2,h3,h4,h5⟩
  · exact .inl ⟨h1,h2⟩
  · refine .inr (.inl ⟨b,o,cp,h1,h2,fun i hi j hj=>?_⟩)
    subst h3
    rw [Za9 (hw.own _ List.mem_cons_self),h5 i hi j hj]
theorem RdSl.same {α:Type} {E:El α} {W w:World} {v:Value} {xs:List α} (h:RdSl E W v xs) (hb : ∀ b o x,(∀ a n c,v = .slice (some a) n c→a.block=b)→W.cell? ⟨b,o,none⟩=some x→w.cell? ⟨b,o,none⟩=some x):RdSl E w v xs:=by
  rcases h with h | ⟨b,o,cp,h1,h2,h3⟩ | h
  · exact .inl h
  rotate_left 1
  · exact .inr (.inr h)
  · refine .inr (.inl ⟨b,o,cp,h1,h2,fun i hi j hj=>?_⟩)
    have h4:=h3 i hi j hj
    have h5:j<(E.cell (xs.getD i E.z)).length:=by rw [E.len]; exact hj
    rw [List.getElem?_eq_getElem h5] at h4 ⊢
    exact hb b _ _ (fun a n c e=>by rw [h1] at e; injection e with e; injection e with e; rw [← e]) h4
theorem Zfo {W:World} {b o:Nat} {x:Value} (h:W.cell? ⟨b,o,none⟩=some x):b<W.heap.size:=by
  rcases Nat.lt_or_ge b W.heap.size with h1 | h1
  · exact h1
  · have:W.heap[b]? = none:=Array.getElem?_eq_none h1
    simp [World.cell?,this] at h
theorem RdSl.below {α:Type} {E:El α} {W w:World} {v:Value} {xs:List α} (h:RdSl E W v xs) (hb:Below W.heap.size W w):RdSl E w v xs :=
  h.same fun b o x _ hx=>by rw [hb.cell (p:=⟨b,o,none⟩) (Zfo hx)]; exact hx
section
variable {α:Type} {C:Cfg} {m:List Zc} {t:TS} {K:KN} {E:El α} {v:Value} {xs:List α}
def Z95 (v:Value) (xs:List α) (S:List Nat):Prop:=∀ a n c,v = .slice (some a) n c→0<xs.length→a.block∉S
theorem Z2a (h:RdSl E C.W0 v xs) (hS:Z95 v xs C.S):Zgs C m E v xs:=by
  intro w hw
  rcases h with h | ⟨b',o',cp,h1,h2,h3⟩ | h
  · exact .inl h
  rotate_left 1
  · exact .inr (.inr h)
  · by_cases h0:0<xs.length
    · refine RdSl.same (.inr (.inl ⟨b',o',cp,h1,h2,h3⟩)) fun b o x hb hx=>?_
      have e:=hb _ _ _ h1
      subst e
      rw [← hx]
      unfold World.cell?; simp only [hw.fr.block _ (Zfo hx) (hS _ _ _ h1 h0)]
    · exact .inr (.inl ⟨b',o',cp,h1,h2,fun i hi=>by omega⟩)
theorem Z2m:Z95 v xs []:=fun _ _ _ _ _=>by simp
theorem Zfn {W0 w:World} {ms m1:List Zc} {b:Nat} {o:Obj} {T:List Nat} (hO:Z1n E v ms xs) (hT:Zgt ms m m1) (hb:Has b o m1) (hw:Sat W0 T m w):Z95 v xs [b]:=by
  rcases hO with ⟨h1,h2,h3⟩ | ⟨b1,o1,cp,T1,cs,h1,h2,h3,h4,h5⟩
  · intro a n c e h0; subst h2; simp at h0
  · intro a n c e h0
    subst h1
    injection e with e; injection e with e; subst e
    subst h3
    have hd:=(hw.perm hT.perm).dist
    simp only [List.cons_append,List.nil_append,List.map_cons,List.nodup_cons] at hd
    intro hm
    simp only [List.mem_singleton] at hm
    exact hd.1 (hm▸List.mem_map.2 ⟨_,hb.mem,rfl⟩)
theorem Zir {W0 w:World} {b:Nat} {o:Obj} (h:RdSl E W0 v xs) (hb:Has b o m) (hw:Sat W0 [] m w):Z95 v xs [b]:=by
  intro a n c e h0
  rcases h with ⟨h1,h2⟩ | ⟨b',o',cp,h1,h2,h3⟩ | ⟨_,_,h2⟩
  · subst h2; simp at h0
  rotate_left 1
  · subst h2; simp at h0
  · rw [h1] at e
    injection e with e; injection e with e; subst e
    intro hm
    simp only [List.mem_singleton] at hm
    have h4:=h3 0 h0 0 E.pos
    have h5:0<(E.cell (xs.getD 0 E.z)).length:=by rw [E.len]; exact E.pos
    rw [List.getElem?_eq_getElem h5] at h4
    have:=Zfo h4
    rcases hw.base _ hb.mem with h6 | h6
    · simp only at h6; omega
    · simp at h6
theorem Znt {W0 w:World} {b b' n c:Nat} {o:Obj} {c':Zc} {m1:List Zc} {T:List Nat} {a:Addr} (hT:Z3y c' m m1) (hb:Has b o m1) (hw:Sat W0 T m w) (ha:a.block=c'.b):Z95 (.slice (some a) n c) xs [b]:=by
  intro a' n' c1 e h0
  injection e with e; injection e with e; subst e
  have hd:=(hw.perm hT.perm).dist
  simp only [List.map_cons,List.nodup_cons] at hd
  intro hm
  simp only [List.mem_singleton] at hm
  exact hd.1 (List.mem_map.2 ⟨_,hb.mem,by rw [← ha,hm]⟩)
theorem Zc9 {b o l n w:Nat}:(Z22 b o l n w).block=b:=by unfold Z22; split <;> rfl
theorem Z1x {ms mr:List Zc} (hO:Z1n E v ms xs) (hT:Zgt ms m mr):Zgs C m E v xs:=fun _ hw=>RdSl.own hO (hw.take hT)
theorem Zvp {ms:List Zc} (hO:Z1n E v ms xs):Zgs C ms E v xs:=fun _ hw=>RdSl.own hO hw
theorem Z0li {ms mr:List Zc} (h:Zgs C ms E v xs) (hT:Zgt ms m mr):Zgs C m E v xs:=fun w hw=>h w (hw.take hT)
theorem Zvo:Zgs C m E (.slice none 0 0) []:=fun _ _=>Ztc
theorem iz {k:IntKind} {z e:Int} {op:IOp} (h:z=e) (q:Q1 C m t op (.int k e)):Q1 C m t op (.int k z):=h▸q
def Z7l:Value→Addr
  | .slice (some a) _ _=>a
  | _=>⟨0,0,none⟩
theorem Zqp {W:World} {b o1:Nat} {j c n:Nat} {s p:List Seg} (h3 : ∀ k,k<E.w→W.cell? ⟨b,o1+(j*E.w+k),none⟩=(E.cell (xs.getD j E.z))[k]?) (hc:E.cell (xs.getD j E.z)=cells s) (hp:sub s c n=some p) (k:Nat) (hk:k<n) :
    W.cell? ⟨b,o1+j*E.w+c+k,none⟩=(cells p)[k]? := by
  obtain ⟨e1,e2,e3⟩:=Z7f hp
  have hw:width s=E.w:=by rw [← cells_length,← hc,E.len]
  have:=h3 (c+k) (by rcases e3 with e3 | e3 <;> omega)
  rw [show o1+j*E.w+c+k=o1+(j*E.w+(c+k)) by omega,this,hc,e1,List.getElem?_take_of_lt hk,List.getElem?_drop]
theorem Z076 {n:Nat} {x:Operand} {j c:Nat} {s p:List Seg} (hx:ev t x=some (.pointer (some ⟨(Z7l v).block,(Z7l v).off+j*E.w+c,none⟩))) (hs:Zgs C m E v xs) (hj:j<xs.length) (hc:E.cell (xs.getD j E.z)=cells s) (hp:sub s c n=some p) :
    Q1 C m t (.ld n true x) (agg p):=by
  intro o ho a ha w hw
  obtain ⟨e1,e2,e3⟩:=Z7f hp
  rcases hs w hw with ⟨h1,h2⟩ | ⟨b,o1,cp,h1,h2,h3⟩ | ⟨_,_,h2⟩
  · subst h2; simp at hj
  rotate_left 1
  · subst h2; simp at hj
  · subst h1
    refine Z07 ?_
    rw [Z4v (l:=cells p) ho (ha.ev hx) (by rw [cells_length]; exact e2) (fun k hk=>Zqp (h3 j hj) hc hp k hk) (fun h=>by cases h)]
    rfl
theorem Zba {n:Nat} {x:Operand} {j:Nat} {s p:List Seg} (hx:ev t x=some (.pointer (some ⟨(Z7l v).block,(Z7l v).off+j*E.w,none⟩))) (hs:Zgs C m E v xs) (hj:j<xs.length) (hc:E.cell (xs.getD j E.z)=cells s) (hp:sub s 0 n=some p) :
    Q1 C m t (.ld n true x) (agg p):=Z076 (c:=0) hx hs hj hc hp
theorem Zo2 {s:List Seg} {c:Nat} {u:Value} (h:Zdl s c=some u):c<width s:=by
  rw [Zdm] at h
  have:=(List.getElem?_eq_some_iff.1 h).1
  rwa [cells_length] at this
theorem Zy7 {x:Operand} {j c:Nat} {s:List Seg} {u:Value} (hx:ev t x=some (.pointer (some ⟨(Z7l v).block,(Z7l v).off+j*E.w+c,none⟩))) (hs:Zgs C m E v xs) (hj:j<xs.length) (hc:E.cell (xs.getD j E.z)=cells s) (hp:Zdl s c=some u) :
    Q1 C m t (.ld 1 false x) u:=by
  intro o ho a ha w hw
  rcases hs w hw with ⟨h1,h2⟩ | ⟨b,o1,cp,h1,h2,h3⟩ | ⟨_,_,h2⟩
  · subst h2; simp at hj
  rotate_left 1
  · subst h2; simp at hj
  · subst h1
    refine Z07 ?_
    have hw:width s=E.w:=by rw [← cells_length,← hc,E.len]
    have hlt:=Zo2 hp
    rw [Z4v (l:=[u]) ho (ha.ev hx) rfl (fun k hk=>by
      obtain rfl:k=0:=by omega
      have:=h3 j hj c (by omega)
      simp only [Z7l,Nat.add_zero,List.getElem?_cons_zero]
      rw [show o1+j*E.w+c=o1+(j*E.w+c) by omega,this,hc,← Zdm]
      exact hp) (fun _=>rfl)]
    rfl
theorem Zau {x:Operand} {j:Nat} {s:List Seg} {u:Value} (hx:ev t x=some (.pointer (some ⟨(Z7l v).block,(Z7l v).off+j*E.w,none⟩))) (hs:Zgs C m E v xs) (hj:j<xs.length) (hc:E.cell (xs.getD j E.z)=cells s) (hp:Zdl s 0=some u) :
    Q1 C m t (.ld 1 false x) u:=Zy7 (c:=0) hx hs hj hc hp
theorem Zvh {k:IntKind} {n:Nat} {x:Operand} {ys:List Int} (hx:ev t x=some (.pointer (some ⟨(Z7l v).block,(Z7l v).off,none⟩))) (hs:Zgs C m (El.int k) v ys) (h0:0<n) (hn:decide (n≤ys.length)=true) :
    Q1 C m t (.ld n true x) (agg [.ints k n (tk ys 0 n)]):=by
  intro o ho a ha w hw
  have hn:=of_decide_eq_true hn
  rcases hs w hw with ⟨h1,h2⟩ | ⟨b,o1,cp,h1,h2,h3⟩ | ⟨_,_,h2⟩
  · subst h2; simp at hn; omega
  rotate_left 1
  · subst h2; simp at hn; omega
  · subst h1
    refine Z07 ?_
    rw [Z4v (l:=cells [.ints k n (tk ys 0 n)]) ho (ha.ev hx) (by rw [cells_length]; rfl) (fun i hi=>?_) (fun h=>by cases h)]
    · rfl
    · have:=h3 i (by omega) 0 (El.int k).pos
      simp only [Z7l,cells,Seg.cells,List.append_nil]
      simp only [Nat.mul_one,Nat.add_zero] at this
      rw [this,Z1s hi,Zga,if_pos hi,Nat.zero_add]
      rfl
def Zbk (w:Nat) (v:Value) (lo hi:Nat):Value:=match v with
  | .slice (some ⟨b,o,none⟩) _ cp=>.slice (some (Z22 b o lo cp w)) (hi-lo) (cp-lo)
  | .slice (some a) n c=>.slice (some a) n c
  | _=>.slice none 0 0
theorem Zfr {w:Nat} {a:Addr}:Zbk w (.slice (some a) 0 0) 0 0 = .slice (some a) 0 0:=by
  obtain ⟨b,o,sp⟩:=a
  cases sp with
  | none=>simp [Zbk,Z22]
  | some k=>rfl
theorem Zy9 {w:Nat} {x:Operand} {lo hi:Option Operand} {lz hz:Int} {a3:Addr} (hx:ev t x=some (.slice (some a3) 0 0)) (hl:Zgr t 0 lo lz) (hh:Zgr t (0:Nat) hi hz)
    (hb:lz=0∧hz=0):Q1 C m t (.sls w x lo hi none) (.slice (some a3) 0 0):=by
  obtain ⟨rfl,rfl⟩:=hb
  intro o ho a ha wd hw
  refine Z07 ?_
  simp only [Z8k] at ho
  split at ho
  · rename_i T x' lo' hi' mx' heq
    simp only [Bool.and_eq_true] at ho
    obtain ⟨⟨⟨⟨h1,h2⟩,h3⟩,h4⟩,h5⟩:=ho
    have e1:=Z00 h1; have e2:=Z3m h2; have e3:=Z3m h3; have e4:=Z3m h4
    subst e1; subst e2; subst e3; subst e4
    split at h5
    · rename_i el hu
      simp only [execOp,heq,ha.ev hx]
      refine Za2 ?_
      simp only [Instr.sliceAt,Instr.slice,Sem.run_bind,Zj hu,Result.andThen_ok,Sem.run_pure,Z77 (isS:=true) (cap:=0) (mz:=0) ha hl hh .no (by simp) (by omega) (by omega) (by omega) (by omega),Z2g h5]
      simp
    · cases h5
  · cases ho
theorem Zw5 {z:α} {ys:List α} {lo n i:Nat} (h:i<n) (hn:lo+n≤ys.length):((ys.drop lo).take n).getD i z=ys.getD (lo+i) z:=by
  simp only [List.getD,List.getElem?_take_of_lt h,List.getElem?_drop]
theorem Zpi {lz hz:Int} (hs:Zgs C m E v xs) (hb:Zge lz hz xs.length=true):Zgs C m E (Zbk E.w v lz.toNat hz.toNat) ((xs.drop lz.toNat).take (hz.toNat-lz.toNat)):=by
  intro w hw
  have hb:=Zix hb
  have hlen:((xs.drop lz.toNat).take (hz.toNat-lz.toNat)).length=hz.toNat-lz.toNat:=by rw [List.length_take,List.length_drop]; omega
  rcases hs w hw with ⟨h1,h2⟩ | ⟨b,o1,cp,h1,h2,h3⟩ | ⟨a3,h1,h2⟩
  · subst h1; subst h2
    simp only [List.length_nil] at hb
    exact .inl ⟨rfl,by simp⟩
  rotate_left 1
  · subst h1; subst h2
    simp only [List.length_nil] at hb
    have e1:lz.toNat=0:=by omega
    have e2:hz.toNat=0:=by omega
    rw [e1,e2,Zfr]
    exact .inr (.inr ⟨a3,rfl,by simp⟩)
  · subst h1
    by_cases hc:cp=lz.toNat
    · refine .inr (.inl ⟨b,o1,cp-lz.toNat,?_,by omega,fun i hi=>?_⟩)
      · simp only [Zbk,Z22,hlen,hc,if_true]
      · omega
    · refine .inr (.inl ⟨b,o1+lz.toNat*E.w,cp-lz.toNat,?_,by omega,fun i hi j hj=>?_⟩)
      · simp only [Zbk,Z22,hlen,hc,if_false]
      · rw [hlen] at hi
        rw [Zw5 hi (by omega),← h3 (lz.toNat+i) (by omega) j hj]
        congr 2
        rw [Nat.add_mul]; omega
theorem Z1z {b T base N lo hi mz:Nat} {fz:Nat×Nat} {s:List Seg} {k:IntKind} {ys:List Int} (hb:Has b (.cells (cells s).toArray T fz) m) (hs:Zav s base=some (.ints k N ys)) (h:lo≤hi∧hi≤mz∧mz≤N) :
    Zgs C m (El.int k) (.slice (some (Z22 b base lo mz 1)) (hi-lo) (mz-lo)) (tk ys lo (hi-lo)):=by
  intro w hw
  by_cases hc:mz=lo
  · refine .inr (.inl ⟨b,base,mz-lo,?_,by rw [Zy]; omega,fun i hi=>?_⟩)
    · simp only [Z22,hc,if_true,Zy]
    · rw [Zy] at hi; omega
  · refine .inr (.inl ⟨b,base+lo*1,mz-lo,?_,by rw [Zy]; omega,fun i hi j hj=>?_⟩)
    · simp only [Z22,hc,if_false,Zy]
    · rw [Zy] at hi
      obtain rfl:j=0:=by simp only at hj; omega
      have hseg:=Z6k hs (lo+i) (by simp only [Seg.width]; omega)
      rw [Zga,if_pos hi]
      have:=hw.own _ hb.mem
      have hcell:w.cell? ⟨b,base+(lo+i),none⟩=(cells s)[base+(lo+i)]? := by
        simp only [World.cell?,this]
        simp
      simp only [Nat.mul_one,Nat.add_zero]
      rw [show base+lo+i=base+(lo+i) by omega,hcell,hseg]
      simp only [Seg.cells]
      rw [Z1s (by omega)]
      rfl
theorem EF.perm {d:Option Nat} {op:IOp} {m':List Zc} (hp:List.Perm m' m) (h:EF C m' t d op K):EF C m t d op K :=
  fun o ho hd a ha w hw=>h o ho hd a ha w (hw.perm hp)
theorem Z9d {x y:Operand} {b off:Nat} {T:TypeId} {s q q':List Seg} {u:Value} {m':List Zc} (e:q'=q) (hx:ev t x=some (.pointer (some ⟨b,off,none⟩))) (hy:ev t y=some u) (hv:one1 u=true) (hq:Zvd s off u=some q')
    (hup:Upd b (.cells (cells s).toArray T (0,0)) (.cells (cells q).toArray T (0,0)) m m') (h:K t m'):EF C m t none (.st 1 x y) K:=by subst e; exact Z9c hx hy hv hq hup h
theorem Z5h {x y:Operand} {b base i len:Nat} {T:TypeId} {s q:List Seg} {k:IntKind} {ys ys':List Int} {z:Int} {m':List Zc} (e:ys'=Z4h ys i z) (hx:ev t x=some (.pointer (some ⟨b,base+i*1,none⟩))) (hy:ev t y=some (.int k z))
    (hs:Zav s base=some (.ints k len ys)) (hi:i<len) (hq:Zbd s base (.ints k len ys')=some q)
    (hup:Upd b (.cells (cells s).toArray T (0,0)) (.cells (cells q).toArray T (0,0)) m m') (h:K t m'):EF C m t none (.st 1 x y) K:=by subst e; exact Zss hx hy hs hi hq hup h
theorem Zs1 (ys:List α) (i:Nat) (y:α):Z8r E (Zf7 E.z ys i y)=Zwg (Z8r E ys) i (E.cell y):=by
  funext j
  simp only [Z8r,Zwg,Z5l]
  split <;> rfl
theorem Zkj {x y:Operand} {b base i len:Nat} {T:TypeId} {s q:List Seg} {u:Value} {y0:α} {ys ys':List α} {m':List Zc} (e:ys'=Zf7 E.z ys i y0) (hx:ev t x=some (.pointer (some ⟨b,base+i*E.w,none⟩))) (hy:ev t y=some u) (hu:u.cells.toList=E.cell y0)
    (hs:Zav s base=some (.rows E.w len (Z8r E ys))) (hi:i<len) (hq:Zbd s base (.rows E.w len (Z8r E ys'))=some q)
    (hup:Upd b (.cells (cells s).toArray T (0,0)) (.cells (cells q).toArray T (0,0)) m m') (h:K t m'):EF C m t none (.st E.w x y) K:=by
  subst e
  rw [Zs1] at hq
  obtain ⟨e1,e2,e3⟩:=Zc5 hq
  have hw:=Zaw hs
  simp only [Seg.width] at hw e3
  have hle:i*E.w+E.w≤len*E.w:=by rw [← Nat.succ_mul]; exact Nat.mul_le_mul_right E.w hi
  have hpl:(E.cell y0).length=E.w:=E.len y0
  have key:cells q=Z0z (cells s) (base+i*E.w) (E.cell y0):=by
    rw [e1]
    simp only [Seg.cells,Zig E.w len (Z8r E ys) i (E.cell y0) hi hpl]
    exact Zaz (by rw [Z0w,cells_length]; omega) (by rw [Z0w]; omega) (fun j hj=>Z6k hs j (by rw [Z0w] at hj; exact hj))
  rw [key] at hup
  exact Zgx hx hy (vs:=E.cell y0) hu hpl hup (by rw [cells_length]; omega) (E.one y0) h
theorem Z1t (l:List Value):cells (l.map Seg.one)=l:=by
  induction l with
  | nil=>rfl
  | cons a r ih=>simp [cells,Seg.cells,ih]
theorem Z6u (l:List Value):width (l.map Seg.one)=l.length:=by rw [← cells_length,Z1t]
def cellsOf (E:El α) (xs:List α):List Value:=Z0k E.w xs.length (Z8r E xs)
theorem Z12:(cellsOf E xs).length=xs.length*E.w:=Z0w _ _ _
theorem Z5e {i j:Nat} (hi:i<xs.length) (hj:j<E.w):(cellsOf E xs)[i*E.w+j]? = (E.cell (xs.getD i E.z))[j]? := by
  unfold cellsOf
  rw [Z52 hi hj]
  simp only [Z8r,Zr2]
theorem Zkh : ∀ u∈cellsOf E xs,one1 u=true:=Zlu fun i _=>⟨E.len _,E.one _⟩
theorem Zpx {w:World} (hs:Zgs C m E v xs) (hw:Sat C.W0 C.S m w):Zqi C m E.w v xs.length (cellsOf E xs):=by
  rcases hs w hw with ⟨h1,h2⟩ | ⟨b,o1,cp,h1,h2,h3⟩ | ⟨a3,h1,h2⟩
  · subst h1; subst h2; exact Zm9
  rotate_left 1
  · subst h1; subst h2; exact Zm9
  · subst h1
    refine Z026 Z12 Zkh fun w' hw' i hi=>?_
    rcases hs w' hw' with ⟨h1',_⟩ | ⟨b',o1',cp',h1',h2',h3'⟩ | ⟨_,_,h2'⟩
    · cases h1'
    rotate_left 1
    · subst h2'; simp at hi
    · injection h1' with h1' _ h1c
      injection h1' with h1'
      injection h1' with hb ho _
      subst hb; subst ho
      have hp:=E.pos
      have hq:i / E.w<xs.length:=Nat.div_lt_of_lt_mul (by rw [Nat.mul_comm]; exact hi)
      have hr:=Nat.mod_lt i hp
      have he:i / E.w*E.w+i%E.w=i:=by have:=Nat.div_add_mod i E.w; rw [Nat.mul_comm] at this; exact this
      have:=h3' (i / E.w) hq (i%E.w) hr
      rw [he] at this
      rw [this,← Z5e hq hr,he]
theorem Zj0 {x y:Operand} {ms mr:List Zc} {i:Nat} {u:Value} {y0:α} {xs':List α} (e:xs'=Zf7 E.z xs i y0) (hO:Z1n E v ms xs) (hT:Zgt ms m mr) (hx:ev t x=some (.pointer (some ⟨(Z7l v).block,(Z7l v).off+i*E.w,none⟩)))
    (hy:ev t y=some u) (hu:u.cells.toList=E.cell y0) (hi:i<xs.length) (h : ∀ ms',Z1n E v ms' xs'→K t (ms'++mr)):EF C m t none (.st E.w x y) K:=by
  refine EF.perm hT.perm ?_
  rcases hO with ⟨h1,h2,h3⟩ | ⟨b,o,cp,T,cs,h1,h2,h3,h4,h5⟩
  · subst h2; simp at hi
  · subst h1; subst h3; subst e
    have hle:i*E.w+E.w≤cp*E.w:=by rw [← Nat.succ_mul]; exact Nat.mul_le_mul_right _ (by omega)
    have hpl:(E.cell y0).length=E.w:=E.len y0
    have hin:o+i*E.w+E.w≤(cells cs).length:=by rw [cells_length]; omega
    refine Zgx (l:=cells cs) (vs:=E.cell y0) (T:=T) (m':=[⟨b,.cells (cells ((Z0z (cells cs) (o+i*E.w) (E.cell y0)).map Seg.one)).toArray T (0,0)⟩]++mr) hx hy hu hpl ?_ hin (E.one y0) (h _ (.inr ⟨b,o,cp,T,_,?_,?_,rfl,?_,?_⟩))
    · rw [Z1t]; exact Upd.here
    · rw [Zax hi,List.length_set]
    · rw [Zax hi,List.length_set]; exact h2
    · rw [Z6u,Z0z,List.length_append,List.length_append,List.length_take,List.length_drop,hpl,cells_length]
      have:=cells_length cs; omega
    · intro i' hi' j hj
      rw [Zax hi,List.length_set] at hi'
      rw [Z1t,Zcr (by rw [hpl]; exact hin),Z5l,hpl]
      by_cases hii:i'=i
      · subst hii
        rw [if_pos (by omega),if_pos rfl]
        congr 1; omega
      · rw [if_neg hii,if_neg ?_,h5 i' hi' j hj]
        intro hcon
        rcases Nat.lt_or_ge i' i with hl | hl
        · have:i'*E.w+E.w≤i*E.w:=by rw [← Nat.succ_mul]; exact Nat.mul_le_mul_right _ hl
          omega
        · have:i*E.w+E.w≤i'*E.w:=by rw [← Nat.succ_mul]; exact Nat.mul_le_mul_right _ (by omega)
          omega
theorem Zdq {z:α} {ys:List α} {i:Nat} (h:i<xs.length):(xs++ys).getD i z=xs.getD i z:=by simp [List.getD,List.getElem?_append_left h]
theorem Zdr {z:α} {ys:List α} {i:Nat} (h:xs.length≤i):(xs++ys).getD i z=ys.getD (i-xs.length) z:=by simp [List.getD,List.getElem?_append_right h]
theorem Zar {d:Nat} {T:TypeId} {bytes:Nat} {z:List Seg} {x y:Operand} {ms mr:List Zc} {u:Value} {ys xs':List α} (e:xs'=xs++ys) (hx:ev t x=some v) (hO:Z1n E v ms xs) (hT:Zgt ms m mr) (hy:ev t y=some u) (hs:Zgs C m E u ys)
    (hsz:decide ((xs.length+ys.length)*bytes≤140737488355328)=true) (h : ∀ v' ms',Z1n E v' ms' xs'→K ((d,v')::t) (ms'++mr)):EF C m t (some d) (.app T E.w bytes z x y) K:=by
  subst e
  have hsz:=of_decide_eq_true hsz
  intro o ho hd a ha w hw
  have hS:Zqi C (ms++mr) E.w u ys.length (cellsOf E ys):=Zpx (w:=w) (fun w' hw'=>hs w' (hw'.perm hT.perm.symm)) (hw.perm hT.perm)
  refine EF.perm hT.perm (EF.less (?_:EF C (ms++mr) t (some d) (.app T E.w bytes z x y) _)) o ho hd a ha w hw
  have hzw:width z=E.w:=by
    simp only [Z8k] at ho
    split at ho
    · simp only [Bool.and_eq_true,Nat.beq_eq] at ho
      exact ho.1.2
    · cases ho
  rcases hO with ⟨h1,h2,h3⟩ | ⟨b,o1,cp,T',cs,h1,h2,h3,h4,h5⟩
  · subst h1; subst h2; subst h3
    refine Zug hx hy hS (by simpa using hsz) (fun h0=>?_) (fun h0 b' cp' hb' hc'=>?_)
    · have hys:ys = []:=List.eq_nil_of_length_eq_zero h0
      subst hys
      exact ⟨_,h _ _ Z8u,List.Sublist.refl _⟩
    · refine ⟨(cellsOf E ys++(List.replicate (cp'-ys.length) (cells z)).flatten).map Seg.one,Z1t _,?_⟩
      refine ⟨_,h _ [⟨b',_⟩] (.inr ⟨b',0,cp',T,_,by simp,by simpa using hc',rfl,?_,?_⟩),List.Sublist.refl _⟩
      · rw [Z6u,List.length_append,Z12]
        simp only [List.length_flatten,List.map_replicate,List.sum_replicate_nat,cells_length,hzw,Nat.zero_add]
        rw [← Nat.add_mul]
        exact Nat.mul_le_mul_right _ (by omega)
      · intro i hi j hj
        simp only [List.nil_append] at hi ⊢
        have:i*E.w+E.w≤ys.length*E.w:=by rw [← Nat.succ_mul]; exact Nat.mul_le_mul_right _ hi
        rw [Z1t,Nat.zero_add,List.getElem?_append_left (by rw [Z12]; omega),Z5e hi hj]
  · subst h1; subst h3
    refine Zwz hx Has.here hy hS h4 h2 hsz (fun hr=>?_) (fun hg b' cp' hb' hc'=>?_)
    · have hle:(xs.length+ys.length)*E.w≤cp*E.w:=Nat.mul_le_mul_right _ hr
      rw [Nat.add_mul] at hle
      have hin:o1+xs.length*E.w+(cellsOf E ys).length≤(cells cs).length:=by rw [Z12,cells_length]; omega
      refine ⟨(Z0z (cells cs) (o1+xs.length*E.w) (cellsOf E ys)).map Seg.one,[⟨b,.cells (cells ((Z0z (cells cs) (o1+xs.length*E.w) (cellsOf E ys)).map Seg.one)).toArray T' (0,0)⟩]++mr,Z1t _,Upd.here,?_⟩
      refine ⟨_,h _ _ (.inr ⟨b,o1,cp,T',_,by simp,by simpa using hr,rfl,?_,?_⟩),List.Sublist.refl _⟩
      · rw [Z6u,Z0z,List.length_append,List.length_append,List.length_take,List.length_drop]
        rw [cells_length] at hin ⊢; omega
      · intro i hi j hj
        rw [Z1t,Zcr hin,Z12]
        rw [List.length_append] at hi
        by_cases hil:i<xs.length
        · have:i*E.w+E.w≤xs.length*E.w:=by rw [← Nat.succ_mul]; exact Nat.mul_le_mul_right _ hil
          rw [if_neg (by omega),Zdq hil,h5 i hil j hj]
        · have e1:i*E.w=xs.length*E.w+(i-xs.length)*E.w:=by rw [← Nat.add_mul]; congr 1; omega
          have:(i-xs.length)*E.w+E.w≤ys.length*E.w:=by rw [← Nat.succ_mul]; exact Nat.mul_le_mul_right _ (by omega)
          rw [if_pos (by omega),Zdr (by omega),show o1+(i*E.w+j)-(o1+xs.length*E.w)=(i-xs.length)*E.w+j by omega,Z5e (by omega) hj]
    · have hle:xs.length*E.w≤cp*E.w:=Nat.mul_le_mul_right _ h2
      have hl1:(((cells cs).drop o1).take (xs.length*E.w)).length=xs.length*E.w:=by rw [List.length_take,List.length_drop,cells_length]; omega
      refine ⟨(((cells cs).drop o1).take (xs.length*E.w)++cellsOf E ys++(List.replicate (cp'-(xs.length+ys.length)) (cells z)).flatten).map Seg.one,Z1t _,?_⟩
      refine ⟨_,h _ [⟨b',_⟩] (.inr ⟨b',0,cp',T,_,by simp,by simpa using hc',rfl,?_,?_⟩),List.Sublist.cons₂ _ (List.sublist_cons_self _ _)⟩
      · rw [Z6u,List.length_append,List.length_append,hl1,Z12]
        simp only [List.length_flatten,List.map_replicate,List.sum_replicate_nat,cells_length,hzw,Nat.zero_add]
        rw [← Nat.add_mul,← Nat.add_mul]
        exact Nat.mul_le_mul_right _ (by omega)
      · intro i hi j hj
        rw [List.length_append] at hi
        rw [Z1t,Nat.zero_add]
        by_cases hil:i<xs.length
        · have:i*E.w+E.w≤xs.length*E.w:=by rw [← Nat.succ_mul]; exact Nat.mul_le_mul_right _ hil
          rw [List.append_assoc,List.getElem?_append_left (by rw [hl1]; omega),List.getElem?_take_of_lt (by omega),List.getElem?_drop,h5 i hil j hj,Zdq hil]
        · have e1:i*E.w=xs.length*E.w+(i-xs.length)*E.w:=by rw [← Nat.add_mul]; congr 1; omega
          have:(i-xs.length)*E.w+E.w≤ys.length*E.w:=by rw [← Nat.succ_mul]; exact Nat.mul_le_mul_right _ (by omega)
          rw [List.append_assoc,List.getElem?_append_right (by rw [hl1]; omega),hl1,List.getElem?_append_left (by rw [Z12]; omega),Zdr (by omega),show i*E.w+j-xs.length*E.w=(i-xs.length)*E.w+j by omega,Z5e (by omega) hj]
def mkB (bytes:Nat) (L N:Int):Bool:=decide (0≤L)&&decide (L≤N)&&decide ((bytes:Int)*N≤281474976710656)&&decide (N≤9223372036854775807)
theorem Zfs {d:Nat} {T:TypeId} {bytes:Nat} {z:List Seg} {l c:Operand} {kl kc:IntKind} {L N:Int} (hz:cells z=E.cell E.z)
    (hl:ev t l=some (.int kl L)) (hc:ev t c=some (.int kc N)) (hB:mkB bytes L N=true)
    (h : ∀ v ms,Z1n E v ms (List.replicate L.toNat E.z)→K ((d,v)::t) (ms++m)):EF C m t (some d) (.mks T bytes z l c) K:=by
  simp only [mkB,Bool.and_eq_true,decide_eq_true_eq] at hB
  obtain ⟨⟨⟨h0,h1⟩,h2⟩,h3⟩:=hB
  refine Zx2 hl hc h0 h1 h2 h3 fun b hb=>?_
  refine ⟨(List.replicate N.toNat (cells z)).flatten.map Seg.one,Z1t _,?_⟩
  have hw:(cells z).length=E.w:=by rw [hz,E.len]
  refine h _ [⟨b,_⟩] (.inr ⟨b,0,N.toNat,T,_,by simp,by simp; omega,rfl,?_,?_⟩)
  · rw [Z6u]
    simp only [List.length_flatten,List.map_replicate,List.sum_replicate_nat,hw,Nat.zero_add]
    exact Nat.le_refl _
  · intro i hi j hj
    rw [List.length_replicate] at hi
    have e:(List.replicate N.toNat (cells z)).flatten=Z0k E.w N.toNat (fun _=>cells z):=(Zhc hw).symm
    rw [Z1t,Nat.zero_add,e,Z52 (by omega) hj,← hw,Z75 rfl,hz]
    simp [List.getD,List.getElem?_replicate,hi]
inductive Bs (E:El α):List α→List Seg→Prop
  | nil:Bs E [] []
  | cons {x:α} {ys:List α} {p q:List Seg}:cells p=E.cell x→Bs E ys q→Bs E (x::ys) (p++q)
theorem Bs.get {q:List Seg} (h:Bs E xs q):width q=xs.length*E.w ∧ ∀ i,i<xs.length→∀ j,j<E.w→(cells q)[i*E.w+j]? = (E.cell (xs.getD i E.z))[j]? := by
  induction h with
  | nil=>exact ⟨by simp [width],fun i hi=>by simp at hi⟩
  | @cons x ys p q hc _ ih =>
    have hp:width p=E.w:=by rw [← cells_length,hc,E.len]
    refine ⟨by rw [Zez,ih.1,hp,List.length_cons,Nat.succ_mul]; omega,fun i hi j hj=>?_⟩
    rw [Zbq]
    cases i with
    | zero =>
      rw [List.getElem?_append_left (by rw [cells_length,hp]; omega),hc]
      simp
    | succ i =>
      rw [List.length_cons] at hi
      rw [List.getElem?_append_right (by rw [cells_length,hp,Nat.succ_mul]; omega),cells_length,hp,show (i+1)*E.w+j-E.w=i*E.w+j by rw [Nat.succ_mul]; omega,ih.2 i (by omega) j hj]
      simp
theorem Z9r {d:Nat} {T:TypeId} {len:Nat} {z q:List Seg} {parts:List (Nat×Nat×Operand)} (hb:BdR t z parts q) (hB:Bs E xs q) (hl:xs.length=len)
    (h : ∀ v ms,Z1n E v ms xs→K ((d,v)::t) (ms++m)):EF C m t (some d) (.bs T len E.w z parts) K:=by
  subst hl
  refine Z02y hb fun b hb'=>?_
  obtain ⟨h1,h2⟩:=hB.get
  refine h _ [⟨b,_⟩] (.inr ⟨b,0,xs.length,T,q,rfl,Nat.le_refl _,rfl,by rw [h1]; omega,fun i hi j hj=>?_⟩)
  rw [Nat.zero_add]; exact h2 i hi j hj
theorem Zkg {k:IntKind} {ys:List Int}:cellsOf (El.int k) ys=ys.map (.int k):=by
  apply List.ext_getElem?
  intro i
  by_cases hi:i<ys.length
  · have:=Z5e (E:=El.int k) (xs:=ys) (i:=i) (j:=0) hi (El.int k).pos
    simp only [Nat.mul_one,Nat.add_zero] at this
    rw [this]
    simp [List.getD,List.getElem?_eq_getElem hi]
  · rw [List.getElem?_eq_none (by rw [Z12]; simp only [Nat.mul_one]; omega),List.getElem?_eq_none (by rw [List.length_map]; omega)]
theorem Zea {d:Option Nat} {x y:Operand} {b T base lo hi mz N:Nat} {s q:List Seg} {k:IntKind} {zs zs' ys:List Int} {u:Value} {m':List Zc} (e:zs'=wr zs lo (ys.take (hi-lo)))
    (hx:ev t x=some (.slice (some (Z22 b base lo mz 1)) (hi-lo) (mz-lo))) (hy:ev t y=some u) (hu:Zgs C m (El.int k) u ys) (hs:Zav s base=some (.ints k N zs)) (hb:lo≤hi∧hi≤mz∧mz≤N)
    (hq:Zbd s base (.ints k N zs')=some q) (hup:Upd b (.cells (cells s).toArray T (0,0)) (.cells (cells q).toArray T (0,0)) m m')
    (h:K (Zwe d (.int .i64 (Nat.min ys.length (hi-lo):Nat)) t) m'):EF C m t d (.cpy 1 x y) K:=by
  subst e
  intro o ho hd a ha w hw
  have hS:=Zpx hu hw
  rw [Zkg] at hS
  obtain ⟨e1,e2,e3⟩:=Zc5 hq
  have hsw:=Zaw hs
  simp only [Seg.width] at hsw e3
  have hseg : ∀ j,j<(Z0q k N zs).length→(cells s)[base+j]? = (Z0q k N zs)[j]? := fun j hj=>Z6k hs j (by rw [Z0n] at hj; exact hj)
  have hlen:(ys.take (hi-lo)).length=Nat.min ys.length (hi-lo):=by rw [List.length_take]; exact Nat.min_comm _ _
  have hmin:Nat.min ys.length (hi-lo)≤hi-lo:=Nat.min_le_right _ _
  have key:cells q=Z0z (cells s) (base+lo) ((ys.take (hi-lo)).map (.int k)):=by
    rw [e1]
    have hwr:Z0q k N (wr zs lo (ys.take (hi-lo)))=Z0z (Z0q k N zs) lo ((ys.take (hi-lo)).map (.int k)):=by
      have:=Zsk (k:=k) (N:=N) (i:=lo) (xs:=zs) (ys:=ys.take (hi-lo)) (by rw [hlen]; omega)
      simpa [cells,Seg.cells] using this
    simp only [Seg.cells,hwr]
    exact Zaz (by rw [Z0n,cells_length]; omega) (by rw [Z0n,List.length_map,hlen]; omega) hseg
  have hke : ∀ d':Option Nat,K (Zwe d' (.int .i64 (Nat.min ys.length (hi-lo):Nat)) t) m'→K (match d' with | some d=>(d,.int .i64 (Nat.min ys.length (hi-lo):Nat))::t | none=>t) m':=by
    intro d' hk; cases d' <;> exact hk
  by_cases hc:mz=lo
  · have h0:hi=lo:=by omega
    refine Zsr (w:=1) (dl:=hi-lo) (dc:=mz-lo) (b:=b) (off:=base) (T:=T) (segs:=s) (segs':=q) (m':=m') (by rw [hx]; simp only [Z22,hc,if_true]) hy hS (by rw [h0]; omega) ?_ hup (hke d h) o ho hd a ha w hw
    rw [key,h0]
    simp [Z0z]
  · refine Zsr (w:=1) (dl:=hi-lo) (dc:=mz-lo) (b:=b) (off:=base+lo) (T:=T) (segs:=s) (segs':=q) (m':=m') (by rw [hx]; simp only [Z22,hc,if_false,Nat.mul_one]) hy hS (by omega) ?_ hup (hke d h) o ho hd a ha w hw
    rw [key]
    congr 1
    rw [← List.map_take,Nat.mul_one]
    congr 1
    apply List.ext_getElem?
    intro i
    simp only [List.getElem?_take]
    by_cases h1:i<ys.length
    · by_cases h2:i<hi-lo
      · rw [if_pos h2,if_pos (Nat.lt_min.2 ⟨h1,h2⟩)]
      · rw [if_neg h2,if_neg (fun h3=>h2 (Nat.lt_min.1 h3).2)]
    · rw [List.getElem?_eq_none (l:=ys) (by omega)]
      split <;> split <;> rfl
theorem az {τ:Type} (f:τ→Value) {z e:τ} {op:IOp} (h:z=e) (q:Q1 C m t op (f e)):Q1 C m t op (f z):=h▸q
theorem Zvq {W:World} {lz hz:Int} (h:RdSl E W v xs) (hb:Zge lz hz xs.length=true):RdSl E W (Zbk E.w v lz.toNat hz.toNat) ((xs.drop lz.toNat).take (hz.toNat-lz.toNat)) :=
  Zpi (C:=⟨default,0,W,[]⟩) (m:=[]) (fun w hw=>h.below hw.now) hb W (Zih W)
theorem Znu {S:List Nat} {w lo hi n:Nat} (h:Z95 v xs S):Z95 (Zbk w v lo hi) ((xs.drop lo).take n) S:=by
  intro a k c e h0
  have hx:0<xs.length:=by
    rw [List.length_take,List.length_drop] at h0
    omega
  unfold Zbk at e
  split at e
  · injection e with e; injection e with e; subst e
    rw [Zc9]
    exact h _ _ _ rfl hx
  · injection e with e; injection e with e; subst e
    exact h _ _ _ rfl hx
  · cases e
theorem Ztd {W:World} {S:List Nat} {lz hz:Int} (h:RdSl E W v xs∧Z95 v xs S) (hb:Zge lz hz xs.length=true) :
    RdSl E W (Zbk E.w v lz.toNat hz.toNat) ((xs.drop lz.toNat).take (hz.toNat-lz.toNat))∧Z95 (Zbk E.w v lz.toNat hz.toNat) ((xs.drop lz.toNat).take (hz.toNat-lz.toNat)) S :=
  ⟨Zvq h.1 hb,Znu h.2⟩
theorem cpy0 {zs' zs ys:List Int} {n:Nat} (e:zs'=wr zs 0 (ys.take n)):zs'=wr zs 0 (ys.take (n-0)):=e
theorem cut4 {lo hi:Int} {n:Nat} (h:Zge lo hi n=true):0≤lo∧lo≤hi∧hi≤(n:Int)∧(n:Int)≤(n:Int):=by have:=Zix h; omega
theorem cutn {lo hi:Int} {n:Nat} (h:Zge lo hi n=true):lo.toNat≤hi.toNat∧hi.toNat≤n∧n≤n:=by have:=Zix h; omega
theorem getD_some {τ:Type} {o:Option τ} {z:τ} (h:o.isSome=true):o=some (o.getD z):=by cases o <;> simp_all
theorem Zgy {n:Nat} {x y:Operand} {b off:Nat} {T:TypeId} {s p q:List Seg} {m':List Zc} (hx:ev t x=some (.pointer (some ⟨b,off,none⟩))) (hy:ev t y=some (agg p)) (hn:width p=n) (hq:Zy5 s off p=some q) (hsc : ∀ v∈cells p,one1 v=true)
    (hup:Upd b (.cells (cells s).toArray T (0,0)) (.cells (cells q).toArray T (0,0)) m m') (h:K t m'):EF C m t none (.st n x y) K:=by
  obtain ⟨e1,e2,e3⟩:=Zcm hq
  rw [e1] at hup
  exact Zgx hx hy (vs:=cells p) (by simp [agg,Value.cells]) (by rw [cells_length]; exact hn) hup (by rw [cells_length]; omega) hsc h
theorem Zjm {n:Nat} {x:Operand} {b base i w len:Nat} {T:TypeId} {fz:Nat×Nat} {s q p:List Seg} {g:Nat→List Value} (hx:ev t x=some (.pointer (some ⟨b,base+i*w,none⟩))) (hb:Has b (.cells (cells s).toArray T fz) m)
    (hs:Zav s base=some (.rows w len g)) (hi:i<len) (hq:g i=cells q) (hw:width q=w) (hp:sub q 0 n=some p):Q1 C m t (.ld n true x) (agg p):=Zvi (c:=0) hx hb hs hi hq hw hp
theorem Zjh {b T base N lo hi mz:Nat} {s:List Seg} {k:IntKind} {ys:List Int} (hs:Zav s base=some (.ints k N ys)) (h:lo≤hi∧hi≤mz∧mz≤N) :
    Z1n (El.int k) (.slice (some (Z22 b base lo mz 1)) (hi-lo) (mz-lo)) [ck b T s] (tk ys lo (hi-lo)):=by
  have hw:=Zaw hs
  simp only [Seg.width] at hw
  have key : ∀ i,i<hi-lo→(cells s)[base+(lo+i)]? = some (.int k (ys.getD (lo+i) 0)):=by
    intro i hi'
    have:=Z6k hs (lo+i) (by simp only [Seg.width]; omega)
    rw [this]
    simp only [Seg.cells]
    rw [Z1s (by omega)]
  by_cases hc:mz=lo
  · refine .inr ⟨b,base,mz-lo,T,s,?_,by rw [Zy]; omega,rfl,by simp only [Nat.mul_one]; omega,fun i hi'=>?_⟩
    · simp only [Z22,hc,if_true,Zy]
    · rw [Zy] at hi'; omega
  · refine .inr ⟨b,base+lo*1,mz-lo,T,s,?_,by rw [Zy]; omega,rfl,by simp only [Nat.mul_one]; omega,fun i hi' j hj=>?_⟩
    · simp only [Z22,hc,if_false,Zy]
    · rw [Zy] at hi'
      obtain rfl:j=0:=by have:j<1:=hj; omega
      rw [Zga,if_pos hi']
      simp only [Nat.mul_one,Nat.add_zero]
      rw [show base+lo+i=base+(lo+i) by omega,key i hi']
      rfl
theorem Z88 {c:Bool} {s s':Seg} (h:c=true↔s.cells=s'.cells):c=true↔cells [s]=cells [s']:=by
  rw [h]; simp [cells]
theorem Z87 {k:IntKind} {n:Nat} {a b:List Int}:ieq n a b=true↔(Seg.ints k n a).cells=(Seg.ints k n b).cells:=by
  have:=Zol (k:=k) (n:=n) (a:=a) (b:=b)
  simpa [cells] using this
end
theorem Sup.app {m0 m ms:List Zc} (h:Sup m0 m):Sup m0 (ms++m):=fun _ h'=>List.mem_append_right _ (h _ h')
theorem Z9q {α:Type} {E:El α} {n:Nat} {zc:List Value} {r r':List Seg} (hz:zc=E.cell E.z) (h:cells r=cells r'):cells (.rows E.w n (fun _=>zc)::r)=cells (.rows E.w n (Z8r E (List.replicate n E.z))::r'):=by
  simp only [cells,h,Seg.cells]
  congr 1
  apply Zhb
  intro i hi
  subst hz
  simp [Z8r,List.getD,List.getElem?_replicate,hi]
inductive Pc where
  | one (c:Zc)
  | all (l:List Zc)
def Zqj:List Pc→List Zc→List Zc
  | [],m=>m
  | .one c::r,m=>c::Zqj r m
  | .all a::r,m=>a++Zqj r m
theorem Zhq : ∀ (l:List Pc) (m:List Zc),Zqj l []++m=Zqj l m
  | [],m=>rfl
  | .one c::r,m=>by simp only [Zqj,List.cons_append,Zhq r m]
  | .all a::r,m=>by simp only [Zqj,List.append_assoc,Zhq r m]
def Zek (W0:World) (S:List Nat) (R:Value→List Pc→Prop):Ending→World→Prop:=Zwf W0 S fun v M=>∃ Ms,M=Zqj Ms []∧R v Ms
section
variable {C:Cfg} {m:List Zc} {t:TS} {K:KN}
theorem Z4s {d:Option Nat} {f:FuncId} {args:List Operand} {vs:List Value} {mS mr:List Zc} {R:Value→List Pc→Prop} (ha:evL t args=some vs) (hp:List.Perm (mS++mr) m)
    (hc : ∀ w,Sat C.W0 C.S m w→Calls C.P f vs.toArray w (Zek w (mS.map (·.b)) R))
    (h : ∀ v Ms,R v Ms→K (Zwe d v t) (Zqj Ms mr)):EF C m t d (.call f args) K :=
  Zlg ha hp hc fun v m' ⟨Ms,e,hR⟩=>by subst e; rw [Zhq]; exact h v Ms hR
theorem Z0j {d:Option Nat} {f:FuncId} {args:List Operand} {vs:List Value} {R:Value→List Pc→Prop} (ha:evL t args=some vs)
    (hc : ∀ w,Sat C.W0 C.S m w→Calls C.P f vs.toArray w (Zek w [] R))
    (h : ∀ v Ms,R v Ms→K (Zwe d v t) (Zqj Ms m)):EF C m t d (.call f args) K :=
  Zqv ha hc fun v m' ⟨Ms,e,hR⟩=>by subst e; rw [Zhq]; exact h v Ms hR
end
def retT (rs:List RV) (R:Value→List Zc→Prop):KN:=fun t m=>∃ l M,Zgh t m rs l∧Znl M m∧R (Zq5 l) M
theorem Z0t {P:Program} {f:FuncId} {d:FnD} {args:List Value} {W0:World} {S:List Nat} {m0:List Zc} {R:Value→List Zc→Prop}
    (hm:P.follows .mixedOrders=true) (hok:okF P f d=true) (hlen:Nat.ble args.length d.n=true) (h0:Sat W0 S m0 W0)
    (h:WC ⟨P,d.n,W0,S⟩ d.c (Zgi 0 args) m0 (retT d.rs R) ⟨[],retT d.rs R⟩):Calls P f args.toArray W0 (Zwf W0 S R):=by
  refine Zld hm hok hlen h0 ?_
  have hsub : ∀ t m,retT d.rs R t m→Zkv W0 S d.rs (Zwf W0 S R) t m:=by
    rintro t m ⟨l,M,h1,h2,h3⟩
    exact ⟨l,h1,fun w hw=>⟨_,_,rfl,h3,hw.psub h2⟩⟩
  intro hm c0 hok ρ fu Q a w ha hw hc
  exact h hm c0 hok ρ fu Q a w ha hw ⟨fun t m hk=>hc.n t m (hsub t m hk),fun id k hk=>by simp [Zf2] at hk,fun t m hk=>hc.r t m (hsub t m hk)⟩
section
variable {C:Cfg} {m:List Zc} {t:TS} {K:KN}
theorem Zls {P:Program} {o:Oper} {T:TypeId} {w bytes:Nat} {z:List Seg} {x y:Operand} (h:Z8k P o (.apz T w bytes z x y)=true) :
    ∃ c t tx k,o.op = .call c∧c.callee = .builtin .append∧c.args = #[x,y]∧c.argTypes[0]? = some t∧c.argTypes[1]? = some tx∧P.underlying t=some (.slice T) ∧
      P.underlying tx=some (.int k)∧(∃ i zv,P.info? T=some i∧i.size=w∧i.bytes=bytes∧0<bytes∧i.zero=some zv∧zv.cells=(cells z).toArray)∧width z=w∧0<w:=by
  simp only [Z8k] at h
  split at h
  · rename_i c heq
    simp only [Bool.and_eq_true] at h
    obtain ⟨⟨⟨⟨⟨⟨⟨h1,h2⟩,h3⟩,h4⟩,h5⟩,h6⟩,h7⟩,h8⟩:=h
    have hargs:=Z60 h2
    have hc:c.callee = .builtin .append:=by
      revert h1; split <;> simp_all
    cases e0:c.argTypes[0]? with
    | none=>rw [e0] at h3; simp at h3
    | some t0 =>
      cases e1:c.argTypes[1]? with
      | none=>rw [e1] at h4; simp at h4
      | some t1 =>
        rw [e0] at h3; rw [e1] at h4
        simp only [Option.bind_some] at h3 h4
        cases u0:P.underlying t0 with
        | none=>rw [u0] at h3; simp at h3
        | some d0 =>
          cases u1:P.underlying t1 with
          | none=>rw [u1] at h4; simp at h4
          | some d1 =>
            rw [u0] at h3; rw [u1] at h4
            cases d0 <;> simp at h3
            cases d1 <;> simp at h4
            rw [h3] at u0
            rename_i k
            obtain ⟨i,hi,hs,hb,hp⟩:=Zda h5
            cases hz:zOf P T with
            | none=>rw [hz] at h6; simp at h6
            | some q =>
              rw [hz] at h6
              have:=Z84 h6
              subst this
              obtain ⟨zv,hz1,hz2⟩:=Zfk hi hz
              exact ⟨c,t0,t1,k,heq,hc,by rw [← Array.toArray_toList (xs:=c.args),hargs],e0,e1,u0,u1,⟨i,zv,hi,hs,hb,hp,hz1,hz2⟩,by simpa [Nat.beq_eq] using h7,by simpa [Nat.blt_eq] using h8⟩
  · cases h
theorem Zjt {P:Program} {w w':World} {t tx ty e:TypeId} {i:TypeInfo} {z:Value} {b off n0 cp n:Nat} {k kt:IntKind} {N:Int} {cs:List Value} (ht:P.underlying t=some (.slice e)) (hk:P.underlying tx=some (.int kt)) (hi:P.info? e=some i) (hz:i.zero=some z)
    (hN:0≤N) (hn:n=N.toNat) (hb:n*i.bytes≤281474976710656∧n≤9223372036854775807) (hroom:n0+n≤cp) (hnews:(Builtin.zeroCells z.cells n).toList=cs) (hnl:cs.length=n*i.size)
    (hst:(storeCells ⟨b,off+n0*i.size,none⟩ cs 0).run P w = .ok () w') :
    (Builtin.append_ #[t,tx] ty #[.slice (some ⟨b,off,none⟩) n0 cp,.int k N]).run P w = .ok (.slice (some ⟨b,off,none⟩) (n0+n) cp) w':=by
  obtain rfl:N=((n:Nat):Int):=by omega
  have hw:IntKind.i64.wrap (n:Int)=n:=by rw [IntKind.wrap_i64]; omega
  have h1 : ¬ ((n:Int)<0):=by omega
  have h2 : ¬ (281474976710656<(n:Int)*(i.bytes:Int)):=by rw [← Int.natCast_mul]; omega
  by_cases h0:n*i.size=0
  · have:cs = []:=List.eq_nil_of_length_eq_zero (by rw [hnl,h0])
    subst this
    have hst':w'=w:=by simpa [storeCells] using hst.symm
    subst hst'
    simp [Builtin.append_,Zj ht,Zj hk,sizeOf,typeInfo,hi,asInt,asIntOf,hw,h1,h2,h0,hroom,storeCells]
  · simp [Builtin.append_,Zj ht,Zj hk,sizeOf,typeInfo,zeroValue,hz,hi,asInt,asIntOf,hw,h1,h2,h0,hroom,Addr.add_lit,hnews,hst]
theorem Zeu {P:Program} {w:World} {t tx ty e:TypeId} {i:TypeInfo} {z:Value} {n:Nat} {k kt:IntKind} {N:Int} (ht:P.underlying t=some (.slice e)) (hk:P.underlying tx=some (.int kt)) (hi:P.info? e=some i) (hz:i.zero=some z)
    (hN:0≤N) (hn:n=N.toNat) (hb:n*i.bytes≤281474976710656∧n≤9223372036854775807) (base:Option Addr) (sLen sCap:Nat) (olds:List Value)
    (hold:(Builtin.firstCells i.size sLen (.slice base sLen sCap)).run P w.drew = .ok olds.toArray w.drew) (news:List Value) (hnews:(Builtin.zeroCells z.cells n).toList=news) (h0 : ¬ (n*i.size=0))
    (hg:sCap<sLen+n) (h63:((sLen+n:Nat):Int)≤9223372036854775807) (hfit:Builtin.nextslicecap (sLen+n) sCap*i.bytes≤281474976710656) :
    (Builtin.append_ #[t,tx] ty #[.slice base sLen sCap,.int k N]).run P w =
      .ok (.slice (some ⟨w.heap.size,0,none⟩) (sLen+n) (grownCap w (sLen+n) sCap e))
        (w.drew.alloc (.cells ((olds++news).toArray++Builtin.zeroCells z.cells (grownCap w (sLen+n) sCap e-(sLen+n))) e)):=by
  obtain rfl:N=((n:Nat):Int):=by omega
  have hw:IntKind.i64.wrap (n:Int)=n:=by rw [IntKind.wrap_i64]; omega
  have h1 : ¬ ((n:Int)<0):=by omega
  have h2 : ¬ (281474976710656<(n:Int)*(i.bytes:Int)):=by rw [← Int.natCast_mul]; omega
  have hn' : ¬ (sLen+n≤sCap):=by omega
  have h63' : ¬ (9223372036854775807<((sLen:Int)+(n:Int))):=by omega
  have h48' : ¬ (281474976710656<Builtin.nextslicecap (sLen+n) sCap*i.bytes):=by omega
  have e:Builtin.zeroCells z.cells n=news.toArray:=by rw [← hnews]
  simp [Builtin.append_,Zj ht,Zj hk,sizeOf,typeInfo,zeroValue,hz,hi,asInt,asIntOf,hw,h1,h2,h0,hn',h63',h48',Question.forced,hold,newRow,grownCap,e]
  congr 2
  apply Array.ext'
  simp [List.append_assoc]
theorem Zx0 {d:Nat} {T T':TypeId} {w bytes:Nat} {z:List Seg} {x y:Operand} {b off n0 cp n:Nat} {ky:IntKind} {N:Int} {cs:List Value} {segs:List Seg}
    (hx:ev t x=some (.slice (some ⟨b,off,none⟩) n0 cp)) (hb:Has b (.cells (cells segs).toArray T' (0,0)) m) (hy:ev t y=some (.int ky N)) (hN:0≤N) (hn:n=N.toNat) (hcs:cs=(List.replicate n (cells z)).flatten) (hone : ∀ u∈cells z,one1 u=true)
    (hfit:off+cp*w≤width segs) (hn0:n0≤cp) (hsz:(n0+n)*bytes≤140737488355328)
    (room:n0+n≤cp→∃ segs' m',cells segs'=Z0z (cells segs) (off+n0*w) cs∧Upd b (.cells (cells segs).toArray T' (0,0)) (.cells (cells segs').toArray T' (0,0)) m m'∧K ((d,.slice (some ⟨b,off,none⟩) (n0+n) cp)::t) m')
    (grow:cp<n0+n→∀ b' cp',C.W0.heap.size≤b'→n0+n≤cp'→∃ segs',cells segs'=((cells segs).drop off).take (n0*w)++cs++(List.replicate (cp'-(n0+n)) (cells z)).flatten∧K ((d,.slice (some ⟨b',0,none⟩) (n0+n) cp')::t) (ck b' T segs'::m)) :
    EF C m t (some d) (.apz T w bytes z x y) K:=by
  intro o ho hd a ha wd hw
  obtain ⟨hd1,hd2⟩:=Z3u hd
  obtain ⟨c,ty,tx,kt,heq,hc,hargs,ht,htx,hu,hk,⟨i,zv,hi,hsz',hby,hpos,hz1,hz2⟩,hwz,hw0⟩:=Zls ho
  have hmul:(n0+n)≤(n0+n)*bytes:=Nat.le_mul_of_pos_right _ hpos
  have hzl:(cells z).length=w:=by rw [cells_length]; exact hwz
  have hnl:cs.length=n*w:=by rw [hcs]; simp [hzl]
  have hone' : ∀ u∈cs,one1 u=true:=by
    intro u hu'
    rw [hcs,List.mem_flatten] at hu'
    obtain ⟨l,hl,hul⟩:=hu'
    obtain ⟨_,rfl⟩:=List.mem_replicate.1 hl
    exact hone u hul
  have hnews:(Builtin.zeroCells zv.cells n).toList=cs:=by rw [hz2,Z9o (by rw [hzl]; exact hw0),hcs]
  have hnb:n*bytes≤140737488355328:=by rw [Nat.add_mul] at hsz; omega
  have hrun : ∀ {r:Result Value},(Builtin.append_ c.argTypes o.type #[.slice (some ⟨b,off,none⟩) n0 cp,.int ky N]).run C.P wd=r→(execOp a.eval o).run C.P wd=r.andThen fun v w=>.ok (.value v) w:=by
    intro r hr
    simp only [execOp,heq,resolve,hc,Sem.run_bind,Sem.run_pure,Result.andThen_ok,invoke,builtin,hargs,List.map_toArray,List.map_cons,List.map_nil,ha.ev hx,ha.ev hy,hr]
  have hat:Builtin.append_ c.argTypes o.type #[.slice (some ⟨b,off,none⟩) n0 cp,.int ky N]=Builtin.append_ #[ty,tx] o.type #[.slice (some ⟨b,off,none⟩) n0 cp,.int ky N]:=by
    simp [Builtin.append_,ht,htx]
  by_cases hroom:n0+n≤cp
  · obtain ⟨segs',m',e1,hup,hK⟩:=room hroom
    have hle:n0*w+n*w≤cp*w:=by rw [← Nat.add_mul]; exact Nat.mul_le_mul_right _ hroom
    have hup':Upd b (.cells (cells segs).toArray T' (0,0)) (.cells (Z0z (cells segs) (off+n0*w+0) cs).toArray T' (0,0)) m m':=by rw [Nat.add_zero,← e1]; exact hup
    obtain ⟨w',hst,hw'⟩:=Z68 (P:=C.P) cs (off+n0*w) 0 (cells segs) m m' wd hw hup' (by rw [cells_length,hnl]; omega) hone'
    have hr:(Builtin.append_ #[ty,tx] o.type #[.slice (some ⟨b,off,none⟩) n0 cp,.int ky N]).run C.P wd = .ok (.slice (some ⟨b,off,none⟩) (n0+n) cp) w':=by
      subst hsz'
      exact Zjt (k:=ky) hu hk hi hz1 hN hn (by rw [hby]; omega) hroom hnews hnl hst
    rw [← hat] at hr
    have h2:=hrun hr
    unfold Oper.wp
    rw [h2,Result.andThen_ok]
    simp only [Oper.upon]
    exact ⟨_,m',hK,hd1▸ha.put hd2 _,hw'⟩
  · have hg:cp<n0+n:=by omega
    have hold:(Builtin.firstCells i.size n0 (.slice (some ⟨b,off,none⟩) n0 cp)).run C.P wd.drew = .ok (((cells segs).drop off).take (n0*i.size)).toArray wd.drew:=by
      have hle:n0*w≤cp*w:=Nat.mul_le_mul_right _ hn0
      have:=Zfz (P:=C.P) (w:=wd.drew) (b:=b) (off:=off) (size:=w) (n:=n0) (l:=n0) (c:=cp) (cs:=((cells segs).drop off).take (n0*w)) (by simp [cells_length]; omega) (fun i hi=>by
        rw [Za9 ((show Sat C.W0 C.S m wd.drew from hw.drew).own _ hb.mem),List.getElem?_take_of_lt hi,List.getElem?_drop]) (Nat.le_refl n0)
      rw [hsz',this,List.take_take,Nat.min_self]
    have hfit':Builtin.nextslicecap (n0+n) cp*i.bytes≤281474976710656:=by rw [hby]; exact growslice_fits hg hsz
    have hr:=Zeu (k:=ky) (P:=C.P) (w:=wd) (t:=ty) (tx:=tx) (ty:=o.type) (e:=T) (i:=i) (z:=zv) hu hk hi hz1 hN hn (by rw [hby]; omega) (some ⟨b,off,none⟩) n0 cp _ hold cs hnews (by rw [hsz']; exact Nat.pos_iff_ne_zero.1 (Nat.mul_pos (by omega) hw0)) hg (by omega) hfit'
    rw [← hat] at hr
    have h2:=hrun hr
    unfold Oper.wp
    rw [h2,Result.andThen_ok]
    simp only [Oper.upon]
    have hge:=grownCap_ge wd (n0+n) cp T
    obtain ⟨segs',e1,hK⟩:=grow hg wd.heap.size (grownCap wd (n0+n) cp T) hw.fr.size hge
    refine ⟨_,_,hK,hd1▸ha.put hd2 _,?_⟩
    have ha2:=hw.drew.alloc (.cells ((((cells segs).drop off).take (n0*i.size)++cs).toArray++Builtin.zeroCells zv.cells (grownCap wd (n0+n) cp T-(n0+n))) T)
    have e2:((((cells segs).drop off).take (n0*i.size)++cs).toArray++Builtin.zeroCells zv.cells (grownCap wd (n0+n) cp T-(n0+n)))=(cells segs').toArray:=by
      rw [e1,hsz',hz2]
      apply Array.ext'
      rw [Array.toList_append,Z9o (by rw [cells_length,hwz]; exact hw0)]
    rw [e2]
    rw [e2] at ha2
    exact ha2
theorem Zuh {d:Nat} {T:TypeId} {w bytes:Nat} {z:List Seg} {x y:Operand} {n:Nat} {ky:IntKind} {N:Int} {cs:List Value}
    (hx:ev t x=some (.slice none 0 0)) (hy:ev t y=some (.int ky N)) (hN:0≤N) (hn:n=N.toNat) (hcs:cs=(List.replicate n (cells z)).flatten) (hone : ∀ u∈cells z,one1 u=true) (hsz:n*bytes≤140737488355328)
    (none_:n=0→K ((d,.slice none 0 0)::t) m)
    (grow:0<n→∀ b' cp',C.W0.heap.size≤b'→n≤cp'→∃ segs',cells segs'=cs++(List.replicate (cp'-n) (cells z)).flatten∧K ((d,.slice (some ⟨b',0,none⟩) n cp')::t) (ck b' T segs'::m)) :
    EF C m t (some d) (.apz T w bytes z x y) K:=by
  intro o ho hd a ha wd hw
  obtain ⟨hd1,hd2⟩:=Z3u hd
  obtain ⟨c,ty,tx,kt,heq,hc,hargs,ht,htx,hu,hk,⟨i,zv,hi,hsz',hby,hpos,hz1,hz2⟩,hwz,hw0⟩:=Zls ho
  have hmul:n≤n*bytes:=Nat.le_mul_of_pos_right _ hpos
  have hzl:(cells z).length=w:=by rw [cells_length]; exact hwz
  have hnl:cs.length=n*w:=by rw [hcs]; simp [hzl]
  have hone' : ∀ u∈cs,one1 u=true:=by
    intro u hu'
    rw [hcs,List.mem_flatten] at hu'
    obtain ⟨l,hl,hul⟩:=hu'
    obtain ⟨_,rfl⟩:=List.mem_replicate.1 hl
    exact hone u hul
  have hnews:(Builtin.zeroCells zv.cells n).toList=cs:=by rw [hz2,Z9o (by rw [hzl]; exact hw0),hcs]
  have hnb:n*bytes≤140737488355328:=hsz
  have hrun : ∀ {r:Result Value},(Builtin.append_ c.argTypes o.type #[.slice none 0 0,.int ky N]).run C.P wd=r→(execOp a.eval o).run C.P wd=r.andThen fun v w=>.ok (.value v) w:=by
    intro r hr
    simp only [execOp,heq,resolve,hc,Sem.run_bind,Sem.run_pure,Result.andThen_ok,invoke,builtin,hargs,List.map_toArray,List.map_cons,List.map_nil,ha.ev hx,ha.ev hy,hr]
  have hat:Builtin.append_ c.argTypes o.type #[.slice none 0 0,.int ky N]=Builtin.append_ #[ty,tx] o.type #[.slice none 0 0,.int ky N]:=by
    simp [Builtin.append_,ht,htx]
  by_cases hroom:n=0
  · have hK:=none_ hroom
    have hr:(Builtin.append_ #[ty,tx] o.type #[.slice none 0 0,.int ky N]).run C.P wd = .ok (.slice none 0 0) wd:=by
      subst hsz'
      have hN0:N=0:=by omega
      have hw:IntKind.i64.wrap 0=0:=by decide
      subst hN0
      simp [Builtin.append_,Zj hu,Zj hk,sizeOf,typeInfo,hi,asInt,asIntOf,hw]
    rw [← hat] at hr
    have h2:=hrun hr
    unfold Oper.wp
    rw [h2,Result.andThen_ok]
    simp only [Oper.upon]
    exact ⟨_,m,hK,hd1▸ha.put hd2 _,hw⟩
  · have hg:0<0+n:=by omega
    have hold:(Builtin.firstCells i.size 0 (.slice none 0 0)).run C.P wd.drew = .ok ([]:List Value).toArray wd.drew:=by simpa using run_firstCells_none (P:=C.P) wd.drew i.size 0 0 0
    have hfit':Builtin.nextslicecap (0+n) 0*i.bytes≤281474976710656:=by rw [hby]; exact growslice_fits hg (by simpa using hsz)
    have hr:=Zeu (k:=ky) (P:=C.P) (w:=wd) (t:=ty) (tx:=tx) (ty:=o.type) (e:=T) (i:=i) (z:=zv) hu hk hi hz1 hN hn (by rw [hby]; omega) none 0 0 _ hold cs hnews (by rw [hsz']; exact Nat.pos_iff_ne_zero.1 (Nat.mul_pos (by omega) hw0)) hg (by omega) hfit'
    simp only [Nat.zero_add,List.nil_append] at hr
    rw [← hat] at hr
    have h2:=hrun hr
    unfold Oper.wp
    rw [h2,Result.andThen_ok]
    simp only [Oper.upon]
    have hge:=grownCap_ge wd n 0 T
    obtain ⟨segs',e1,hK⟩:=grow (by omega) wd.heap.size (grownCap wd n 0 T) hw.fr.size hge
    refine ⟨_,_,hK,hd1▸ha.put hd2 _,?_⟩
    have ha2:=hw.drew.alloc (.cells (cs.toArray++Builtin.zeroCells zv.cells (grownCap wd n 0 T-n)) T)
    have e2:(cs.toArray++Builtin.zeroCells zv.cells (grownCap wd n 0 T-n))=(cells segs').toArray:=by
      rw [e1,hz2]
      apply Array.ext'
      rw [Array.toList_append,Z9o (by rw [cells_length,hwz]; exact hw0)]
    rw [e2]
    rw [e2] at ha2
    exact ha2
end
section
variable {α:Type} {C:Cfg} {m:List Zc} {t:TS} {K:KN} {E:El α} {v:Value} {xs:List α}
theorem Zui {d:Nat} {T:TypeId} {bytes:Nat} {z:List Seg} {x y:Operand} {ms mr:List Zc} {ky:IntKind} {N:Int} {xs':List α} (e:xs'=xs++List.replicate N.toNat E.z) (hx:ev t x=some v) (hO:Z1n E v ms xs) (hT:Zgt ms m mr) (hy:ev t y=some (.int ky N)) (hN:decide (0≤N)=true) (hz:cells z=E.cell E.z)
    (hsz:decide ((xs.length+N.toNat)*bytes≤140737488355328)=true) (h : ∀ v' ms',Z1n E v' ms' xs'→K ((d,v')::t) (ms'++mr)):EF C m t (some d) (.apz T E.w bytes z x y) K:=by
  subst e
  have hsz:=of_decide_eq_true hsz
  intro o ho hd a ha w hw
  have hN:=of_decide_eq_true hN
  have hzw:width z=E.w:=by rw [← cells_length,hz,E.len]
  have hone : ∀ u∈cells z,one1 u=true:=by rw [hz]; exact E.one _
  generalize hys:List.replicate N.toNat E.z=ys
  rw [hys] at h
  have hyl:ys.length=N.toNat:=by rw [← hys,List.length_replicate]
  have hcs:cellsOf E ys=(List.replicate ys.length (cells z)).flatten:=by
    rw [hyl,← Zhc (w:=E.w) (by rw [cells_length]; exact hzw),cellsOf,hyl]
    apply Zhb
    intro i hi
    simp only [Z8r]
    rw [← hys,hz]
    simp [List.getD,List.getElem?_replicate,hi]
  rw [← hyl] at hsz
  refine EF.perm hT.perm (EF.less (?_:EF C (ms++mr) t (some d) (.apz T E.w bytes z x y) _)) o ho hd a ha w hw
  rcases hO with ⟨h1,h2,h3⟩ | ⟨b,o1,cp,T',cs,h1,h2,h3,h4,h5⟩
  · subst h1; subst h2; subst h3
    refine Zuh hx hy hN hyl hcs hone (by simpa using hsz) (fun h0=>?_) (fun h0 b' cp' hb' hc'=>?_)
    · have hys:ys = []:=List.eq_nil_of_length_eq_zero h0
      subst hys
      exact ⟨_,h _ _ Z8u,List.Sublist.refl _⟩
    · refine ⟨(cellsOf E ys++(List.replicate (cp'-ys.length) (cells z)).flatten).map Seg.one,Z1t _,?_⟩
      refine ⟨_,h _ [⟨b',_⟩] (.inr ⟨b',0,cp',T,_,by simp,by simpa using hc',rfl,?_,?_⟩),List.Sublist.refl _⟩
      · rw [Z6u,List.length_append,Z12]
        simp only [List.length_flatten,List.map_replicate,List.sum_replicate_nat,cells_length,hzw,Nat.zero_add]
        rw [← Nat.add_mul]
        exact Nat.mul_le_mul_right _ (by omega)
      · intro i hi j hj
        simp only [List.nil_append] at hi ⊢
        have:i*E.w+E.w≤ys.length*E.w:=by rw [← Nat.succ_mul]; exact Nat.mul_le_mul_right _ hi
        rw [Z1t,Nat.zero_add,List.getElem?_append_left (by rw [Z12]; omega),Z5e hi hj]
  · subst h1; subst h3
    refine Zx0 hx Has.here hy hN hyl hcs hone h4 h2 hsz (fun hr=>?_) (fun hg b' cp' hb' hc'=>?_)
    · have hle:(xs.length+ys.length)*E.w≤cp*E.w:=Nat.mul_le_mul_right _ hr
      rw [Nat.add_mul] at hle
      have hin:o1+xs.length*E.w+(cellsOf E ys).length≤(cells cs).length:=by rw [Z12,cells_length]; omega
      refine ⟨(Z0z (cells cs) (o1+xs.length*E.w) (cellsOf E ys)).map Seg.one,[⟨b,.cells (cells ((Z0z (cells cs) (o1+xs.length*E.w) (cellsOf E ys)).map Seg.one)).toArray T' (0,0)⟩]++mr,Z1t _,Upd.here,?_⟩
      refine ⟨_,h _ _ (.inr ⟨b,o1,cp,T',_,by simp,by simpa using hr,rfl,?_,?_⟩),List.Sublist.refl _⟩
      · rw [Z6u,Z0z,List.length_append,List.length_append,List.length_take,List.length_drop]
        rw [cells_length] at hin ⊢; omega
      · intro i hi j hj
        rw [Z1t,Zcr hin,Z12]
        rw [List.length_append] at hi
        by_cases hil:i<xs.length
        · have:i*E.w+E.w≤xs.length*E.w:=by rw [← Nat.succ_mul]; exact Nat.mul_le_mul_right _ hil
          rw [if_neg (by omega),Zdq hil,h5 i hil j hj]
        · have e1:i*E.w=xs.length*E.w+(i-xs.length)*E.w:=by rw [← Nat.add_mul]; congr 1; omega
          have:(i-xs.length)*E.w+E.w≤ys.length*E.w:=by rw [← Nat.succ_mul]; exact Nat.mul_le_mul_right _ (by omega)
          rw [if_pos (by omega),Zdr (by omega),show o1+(i*E.w+j)-(o1+xs.length*E.w)=(i-xs.length)*E.w+j by omega,Z5e (by omega) hj]
    · have hle:xs.length*E.w≤cp*E.w:=Nat.mul_le_mul_right _ h2
      have hl1:(((cells cs).drop o1).take (xs.length*E.w)).length=xs.length*E.w:=by rw [List.length_take,List.length_drop,cells_length]; omega
      refine ⟨(((cells cs).drop o1).take (xs.length*E.w)++cellsOf E ys++(List.replicate (cp'-(xs.length+ys.length)) (cells z)).flatten).map Seg.one,Z1t _,?_⟩
      refine ⟨_,h _ [⟨b',_⟩] (.inr ⟨b',0,cp',T,_,by simp,by simpa using hc',rfl,?_,?_⟩),List.Sublist.cons₂ _ (List.sublist_cons_self _ _)⟩
      · rw [Z6u,List.length_append,List.length_append,hl1,Z12]
        simp only [List.length_flatten,List.map_replicate,List.sum_replicate_nat,cells_length,hzw,Nat.zero_add]
        rw [← Nat.add_mul,← Nat.add_mul]
        exact Nat.mul_le_mul_right _ (by omega)
      · intro i hi j hj
        rw [List.length_append] at hi
        rw [Z1t,Nat.zero_add]
        by_cases hil:i<xs.length
        · have:i*E.w+E.w≤xs.length*E.w:=by rw [← Nat.succ_mul]; exact Nat.mul_le_mul_right _ hil
          rw [List.append_assoc,List.getElem?_append_left (by rw [hl1]; omega),List.getElem?_take_of_lt (by omega),List.getElem?_drop,h5 i hil j hj,Zdq hil]
        · have e1:i*E.w=xs.length*E.w+(i-xs.length)*E.w:=by rw [← Nat.add_mul]; congr 1; omega
          have:(i-xs.length)*E.w+E.w≤ys.length*E.w:=by rw [← Nat.succ_mul]; exact Nat.mul_le_mul_right _ (by omega)
          rw [List.append_assoc,List.getElem?_append_right (by rw [hl1]; omega),hl1,List.getElem?_append_left (by rw [Z12]; omega),Zdr (by omega),show i*E.w+j-xs.length*E.w=(i-xs.length)*E.w+j by omega,Z5e (by omega) hj]
theorem Zy6 {len w:Nat} {x i:Operand} {k k':IntKind} {ys:List Int} {z:Int} (h:ev t x=some (agg [.ints k (len*w) ys])) (hi:ev t i=some (.int k' z)) (hz:0≤z∧z<len) :
    Q1 C m t (.idx len w true x i) (agg [.ints k w (tk ys (z.toNat*w) w)]):=by
  intro o ho a ha wd hw
  obtain ⟨T,e,heq,hu,hs,hag⟩:=Zlt ho
  refine Z07 ?_
  simp only [execOp,heq,ha.ev h,ha.ev hi]
  refine Za2 ?_
  simp only [Instr.index,agg,asIntOf,Sem.run_bind,Sem.run_pure,Zj hu,Result.andThen_ok,hz,and_self,if_true,Z2g hs]
  refine Zcn hs hag (fun _=>?_) (fun h=>by cases h)
  congr 2
  have hlt:z.toNat<len:=by omega
  have hle:z.toNat*w+w≤len*w:=by rw [← Nat.succ_mul]; exact Nat.mul_le_mul_right w hlt
  simp only [cells,Seg.cells,List.append_nil]
  rw [Zom (by omega)]
  rw [Zon,Zd6 (Zy _ _ _)]
def Zj9:Value→Bool
  | .slice none _ _=>true
  | _=>false
theorem Zpj {β:Type} {E':El β} {v':Value} {ys:List β} (h : ∀ W,RdSl E' W v' ys→RdSl E W v xs) (hs:Zgs C m E' v' ys):Zgs C m E v xs:=fun w hw=>h w (hs w hw)
theorem Zsd {β:Type} {E':El β} {v':Value} {ys:List β} : ∀ W,RdSl E' W v' ys→RdSl E W (.slice none 0 0) []:=fun _ _=>Ztc
theorem Zt8 {x:Operand} {b p base i len:Nat} {T:TypeId} {fz:Nat×Nat} {s:List Seg} {k:IntKind} {ys:List Int} {z:Int} (e:z=ys.getD i 0) (hx:ev t x=some (.pointer (some ⟨b,p,none⟩))) (hb:Has b (.cells (cells s).toArray T fz) m)
    (hs:Zav s base=some (.ints k len ys)) (hp:p=base+i) (hi:decide (i<len)=true):Q1 C m t (.ld 1 false x) (.int k z):=e▸Z077 hx hb hs hp (of_decide_eq_true hi)
theorem Zoa {x y:Operand} {b p base i len:Nat} {T:TypeId} {s q:List Seg} {k:IntKind} {ys ys':List Int} {z:Int} {m':List Zc} (e:ys'=Z4h ys i z) (hx:ev t x=some (.pointer (some ⟨b,p,none⟩))) (hy:ev t y=some (.int k z))
    (hs:Zav s base=some (.ints k len ys)) (hp:p=base+i) (hi:decide (i<len)=true) (hq:Zbd s base (.ints k len ys')=some q)
    (hup:Upd b (.cells (cells s).toArray T (0,0)) (.cells (cells q).toArray T (0,0)) m m') (h:K t m'):EF C m t none (.st 1 x y) K:=by
  subst e; exact Zx3 hx hy hs hp (of_decide_eq_true hi) hq hup h
def Zbi (x y c:Int):Bool:=decide (0≤x)&&decide (0≤y)&&decide (0≤c)&&decide (c≤1)
def Z8b (x y c:Int):Int:=(x+y+c)%18446744073709551616
def Zbp (x y c:Int):Int:=(x+y+c) / 18446744073709551616
theorem Zwa {P:Program} {x y c l h:Int} (hl:l=Z8b x y c) (hh:h=Zbp x y c) (hk:Zbi x y c=true) (w:World):(add64Entry #[.int .u64 x,.int .u64 y,.int .u64 c]).run P w = .ok (.tuple #[.int .u64 l,.int .u64 h]) w:=by
  subst hl; subst hh
  simp [Zbi] at hk
  exact run_add64 x y c hk.1.1.1 hk.1.1.2 hk.1.2 hk.2 w
def Zq0 (x y c:Int):Bool:=decide (0≤x)&&decide (0≤y)&&decide (y<18446744073709551616)&&decide (0≤c)&&decide (c≤1)
def Zs8 (x y c:Int):Int:=(x-y-c)%18446744073709551616
def Zs7 (x y c:Int):Int:=if x<y+c then 1 else 0
theorem xsub {P:Program} {x y c l h:Int} (hl:l=Zs8 x y c) (hh:h=Zs7 x y c) (hk:Zq0 x y c=true) (w:World):(Zcs #[.int .u64 x,.int .u64 y,.int .u64 c]).run P w = .ok (.tuple #[.int .u64 l,.int .u64 h]) w:=by
  subst hl; subst hh
  simp [Zq0] at hk
  exact Zpn x y c hk.1.1.1.1 hk.1.1.1.2 hk.1.1.2 hk.1.2 hk.2 w
def Zdg (v:Value):Prop:=∃ a n c,v = .slice a n c
theorem RdSl.isSl {W:World} (h:RdSl E W v xs):Zdg v:=by
  rcases h with ⟨h1,_⟩ | ⟨b,o,cp,h1,_,_⟩ | ⟨_,h1,_⟩
  · exact ⟨_,_,_,h1⟩
  · exact ⟨_,_,_,h1⟩
  · exact ⟨_,_,_,h1⟩
theorem Z1n.isSl {ms:List Zc} (h:Z1n E v ms xs):Zdg v:=by
  rcases h with ⟨h1,_⟩ | ⟨b,o,cp,_,_,h1,_⟩
  · exact ⟨_,_,_,h1⟩
  · exact ⟨_,_,_,h1⟩
theorem Zdg.cells {u:Value} (h:Zdg u):u.cells = #[u]:=by obtain ⟨a,n,c,rfl⟩:=h; rfl
abbrev SlT:=Option Addr×Nat×Nat
def slV (x:SlT):Value:=.slice x.1 x.2.1 x.2.2
def unS:Value→SlT
  | .slice a n c=>(a,n,c)
  | _=>(none,0,0)
theorem Zte {u:Value} (h:Zdg u):slV (unS u)=u:=by obtain ⟨a,n,c,rfl⟩:=h; rfl
abbrev El.sl:El SlT:=⟨1,fun x=>[slV x],fun _=>rfl,fun _ v h=>by simp at h; subst h; rfl,by decide,(none,0,0)⟩
theorem Z7d {u:Value} (h:Zdg u):Go.Sx.cells [.one u]=El.sl.cell (unS u):=by simp only [Go.Sx.cells,Seg.cells]; rw [Zte h]; rfl
inductive Zf0 (E:El α) (W:World):List SlT→List (List α)→Prop
  | nil:Zf0 E W [] []
  | cons {u:SlT} {us:List SlT} {ys:List α} {yss:List (List α)}:RdSl E W (slV u) ys→Zf0 E W us yss→Zf0 E W (u::us) (ys::yss)
theorem Zf0.len {W:World} {us:List SlT} {yss:List (List α)} (h:Zf0 E W us yss):us.length=yss.length:=by
  induction h with
  | nil=>rfl
  | cons _ _ ih=>simp [ih]
theorem Zf0.get {W:World} {us:List SlT} {yss:List (List α)} (h:Zf0 E W us yss) : ∀ i,i<yss.length→RdSl E W (slV (us.getD i (none,0,0))) (yss.getD i []):=by
  induction h with
  | nil=>intro i hi; simp at hi
  | cons h1 _ ih =>
    intro i hi
    cases i with
    | zero=>simpa using h1
    | succ i=>simpa using ih i (by simpa using hi)
theorem Z6t {W:World} {u:Value} (h:RdSl E W u xs):RdSl E W (slV (unS u)) xs:=by rw [Zte h.isSl]; exact h
theorem Znr {W:World} {us:List SlT} {yss:List (List α)} (h:Zf0 E W us yss) {z:Int} (hz:inB z yss.length=true):inB z us.length=true:=by rw [h.len]; exact hz
def Shp (v:Value) (n:Nat):Prop:=(v = .slice none 0 0∧n=0)∨(∃ b o cp,v = .slice (some ⟨b,o,none⟩) n cp∧n≤cp) ∨ ∃ a,v = .slice (some a) 0 0∧n=0
theorem Shp.rd {W:World} (h:RdSl E W v xs):Shp v xs.length:=by
  rcases h with ⟨h1,h2⟩ | ⟨b,o,cp,h1,h2,_⟩ | ⟨a3,h1,h2⟩
  · exact .inl ⟨h1,by rw [h2]; rfl⟩
  · exact .inr (.inl ⟨b,o,cp,h1,h2⟩)
  · exact .inr (.inr ⟨a3,h1,by rw [h2]; rfl⟩)
theorem Shp.own {ms:List Zc} (h:Z1n E v ms xs):Shp v xs.length:=by
  rcases h with ⟨h1,h2,_⟩ | ⟨b,o,cp,_,_,h1,h2,_⟩
  · exact .inl ⟨h1,by rw [h2]; rfl⟩
  · exact .inr (.inl ⟨b,o,cp,h1,h2⟩)
theorem Shp.nil:Shp (.slice none 0 0) 0:=.inl ⟨rfl,rfl⟩
theorem Shp.blk {b base lo hi mz w n:Nat} (h:lo≤hi∧hi≤mz) (hn:n=hi-lo):Shp (.slice (some (Z22 b base lo mz w)) (hi-lo) (mz-lo)) n:=by
  subst hn
  unfold Z22
  split
  · exact .inr (.inl ⟨_,_,_,rfl,by omega⟩)
  · exact .inr (.inl ⟨_,_,_,rfl,by omega⟩)
theorem Shp.cut {w:Nat} {lz hz:Int} (h:Shp v xs.length) (hb:Zge lz hz xs.length=true):Shp (Zbk w v lz.toNat hz.toNat) ((xs.drop lz.toNat).take (hz.toNat-lz.toNat)).length:=by
  have hb:=Zix hb
  have hlen:((xs.drop lz.toNat).take (hz.toNat-lz.toNat)).length=hz.toNat-lz.toNat:=by rw [List.length_take,List.length_drop]; omega
  rw [hlen]
  rcases h with ⟨h1,h2⟩ | ⟨b,o,cp,h1,h2⟩ | ⟨a3,h1,h2⟩
  · subst h1; exact .inl ⟨rfl,by omega⟩
  rotate_left 1
  · subst h1
    have e1:lz.toNat=0:=by omega
    have e2:hz.toNat=0:=by omega
    rw [e1,e2,Zfr]
    exact .inr (.inr ⟨a3,rfl,rfl⟩)
  · subst h1
    simp only [Zbk]
    exact Shp.blk (by omega) rfl
theorem Shp.isSl {n:Nat} (h:Shp v n):Zdg v:=by
  rcases h with ⟨h1,_⟩ | ⟨b,o,cp,h1,_⟩ | ⟨_,h1,_⟩
  · exact ⟨_,_,_,h1⟩
  · exact ⟨_,_,_,h1⟩
  · exact ⟨_,_,_,h1⟩
theorem Shp.notnil {n:Nat} (h:Shp v n) (h0:decide (0<n)=true):Zj9 v=false:=by
  have h0:=of_decide_eq_true h0
  rcases h with ⟨_,h2⟩ | ⟨b,o1,cp,h1,_⟩ | ⟨_,_,h2⟩
  · omega
  · subst h1; rfl
  · omega
theorem Z2i {x:Operand} {n:Nat} (hx:ev t x=some v) (h:Shp v n):Q1 C m t (.len x) (.int .i64 n):=by
  rcases h with ⟨h1,h2⟩ | ⟨b,o1,cp,h1,h2⟩ | ⟨a3,h1,h2⟩
  · subst h1; subst h2; exact Zrt hx
  rotate_left 1
  · subst h1; subst h2; exact Zrt hx
  · subst h1; exact Zrt hx
theorem Z4m {w n:Nat} {x i:Operand} {k:IntKind} {z:Int} (hx:ev t x=some v) (hi:ev t i=some (.int k z)) (h:Shp v n) (hz:inB z n=true) :
    Q1 C m t (.ias w x i) (.pointer (some ⟨(Z7l v).block,(Z7l v).off+z.toNat*w,none⟩)):=by
  have hz':=Z1w hz
  rcases h with ⟨h1,h2⟩ | ⟨b,o1,cp,h1,h2⟩ | ⟨_,_,h2⟩
  · omega
  rotate_left 1
  · omega
  · subst h1; exact Z075 hx hi hz'
theorem Zpg {n k:Nat} {x:Operand} (hx:ev t x=some v) (h:Shp v k) (h0:0<n) (hn:decide (n≤k)=true):Q1 C m t (.s2a n x) (.pointer (some ⟨(Z7l v).block,(Z7l v).off,none⟩)):=by
  have hn:=of_decide_eq_true hn
  rcases h with ⟨h1,h2⟩ | ⟨b,o1,cp,h1,h2⟩ | ⟨_,_,h2⟩
  · omega
  rotate_left 1
  · omega
  · subst h1; exact Z078 hx hn
theorem Zjp {w n:Nat} {x:Operand} {lo hi:Option Operand} {lz hz:Int} (hx:ev t x=some v) (h:Shp v n) (hl:Zgr t 0 lo lz) (hh:Zgr t n hi hz) (hb:Zge lz hz n=true) :
    Q1 C m t (.sls w x lo hi none) (Zbk w v lz.toNat hz.toNat):=by
  have hb:=Zix hb
  rcases h with ⟨h1,h2⟩ | ⟨b,o1,cp,h1,h2⟩ | ⟨a3,h1,h2⟩
  · subst h1; subst h2
    exact Zy8 (mz:=0) hx hl hh .no (by simp) (by omega)
  rotate_left 1
  · subst h1; subst h2
    have e1:lz.toNat=0:=by omega
    have e2:hz.toNat=0:=by omega
    rw [e1,e2,Zfr]
    exact Zy9 hx hl hh (by omega)
  · subst h1
    have:=Z079 (C:=C) (m:=m) (w:=w) (mz:=cp) hx hl hh .no (by simp) (by omega)
    simpa [Zbk] using this
theorem Zpf {neg:Bool} {x:Operand} {c:Bool} {n:Nat} (hx:ev t x=some v) (h:Shp v n) (hc:Zj9 v=c):Q1 C m t (.isn neg x) (.bool (bif neg then !c else c)):=by
  subst hc
  rcases h with ⟨h1,h2⟩ | ⟨b,o1,cp,h1,h2⟩ | ⟨a3,h1,h2⟩
  · subst h1; exact Zvg hx
  · subst h1; exact Zvg hx
  · subst h1; exact Zvg hx
theorem Zuy {n k:Nat} {op:IOp} (q:Q1 C m t op (.int .i64 n)) (h:n=k):Q1 C m t op (.int .i64 k):=h▸q
end
section
variable {C:Cfg} {m:List Zc} {t:TS} {K:KN} {α:Type} {E:El α} {v:Value} {xs:List α}
theorem Z0l {β:Type} {r:β} {a b:Option β} {c:Bool} {x:Operand} {p q:IC} {kn:KN} {ke:KE} (h:br c a b=some r) (hx:ev t x=some (.bool c)) (ht:a=some r→WC C p t m kn ke) (hf:b=some r→WC C q t m kn ke) :
    WC C (.cond x p q) t m kn ke:=Zse hx (fun e=>ht (br_t h e)) (fun e=>hf (br_f h e))
end
section
variable {α β:Type} {r:β} {G:Prop}
theorem bH {x:α} {f:α→Option β} (h:bnd x f=some r) (k : ∀ z,z=x→f z=some r→G):G:=Z02u k h
theorem cH {c:Bool} {o:Option β} (h:chk c o=some r) (k:c=true→o=some r→G):G:=Z02v k h
theorem oH {o:Option α} {f:α→Option β} (h:opt o f=some r) (k : ∀ y,o=some y→f y=some r→G):G:=Z070 k h
theorem jH {K:Type} {k:K} {g:K→Option β} (h:jn k g=some r) (q : ∀ k',k'=k→g k'=some r→G):G:=jn_i q h
end
instance (n:Nat):OfNat Operand n:=⟨.tmp n⟩
abbrev oj (d:Nat) (i:IOp):J:=.op ⟨some d,none,i⟩
abbrev on_ (i:IOp):J:=.op ⟨none,none,i⟩
abbrev oi (d:Nat) (i:IOp):Zfm:=⟨some d,none,i⟩
abbrev oe (i:IOp):Zfm:=⟨none,none,i⟩
abbrev ci (n:Int):Operand:=.const (.int .i64 n)
abbrev cu (n:Int):Operand:=.const (.int .u64 n)
theorem Z8 {C : Cfg} {m : List Zc} {t : TS} {kn : KN} {x : Operand} {d : Nat} {r : List J} {v : Value} (h1 : ev t x = some v) (h : WJ C r ((d, v) :: t) m kn) : WJ C (.op ⟨some d, none, .mv x⟩ :: r) t m kn := Z6 v (Z19 h1) h
theorem Z1a {C : Cfg} {m : List Zc} {t : TS} {f : FuncId} {args : List Operand} {vs : List Value} {v : Value} (ha : evL t args = some vs) (h : ∀ {w : World}, Calls C.P f vs.toArray w (Z56 w v)) : Q1 C m t (.call f args) v := Z0m ha fun _ _ => h
abbrev Z5 : Seg := .ints .u64 5 (List.replicate 5 0)
abbrev Z10 : Seg := .ints .u64 10 (List.replicate 10 0)
abbrev OL := Option (List Int)
theorem Zf3 {c:Zc} {ms m m1 m2:List Zc} (h1:Z3y c m m1) (h2:Zgt ms m1 m2):List.Perm ((c::ms)++m2) m:=(h2.perm.cons c).trans h1.perm
theorem Zco {W0:World} {S:List Nat} {m:List Zc} {w:World} (h:Sat W0 S m w) {c:Zc} {ms mr:List Zc} (hp:List.Perm ((c::ms)++mr) m):Sat w (c.b::ms.map (·.b)) (c::(ms ++ [])) w:=by
  rw [List.append_nil]; exact Za3 h hp
theorem Zdg.one1 {u:Value} (h:Zdg u):one1 u=true:=by obtain ⟨a,n,c,rfl⟩:=h; rfl
section
variable {α:Type} {m:List Zc} {E:El α} {v:Value} {xs:List α}
theorem Zla {b:Nat} {S:List Nat} (h1:Z95 v xs [b]) (h2:Z95 v xs S):Z95 v xs (b::S):=by
  intro a n c e h0 hm
  rcases List.mem_cons.1 hm with h | h
  · exact h1 a n c e h0 (List.mem_singleton.2 h)
  · exact h2 a n c e h0 h
theorem Zgv {W0 w:World} {ms ms2 m1 m2:List Zc} {T:List Nat} (hO:Z1n E v ms xs) (hT:Zgt ms m m1) (h2:Zgt ms2 m1 m2) (hw:Sat W0 T m w):Z95 v xs (ms2.map (·.b)):=by
  intro a n c e h0 hm
  obtain ⟨k,hk,e2⟩:=List.mem_map.1 hm
  have hmem:k∈m1:=h2.perm.subset (List.mem_append_left _ hk)
  rcases hO with ⟨h1,h3,_⟩ | ⟨b1,o1,cp,T1,cs,h1,_,h3,_,_⟩
  · subst h3; simp at h0
  · subst h1
    injection e with e; injection e with e; subst e
    subst h3
    have hd:=(hw.perm hT.perm).dist
    simp only [List.cons_append,List.nil_append,List.map_cons,List.nodup_cons] at hd
    exact hd.1 (List.mem_map.2 ⟨k,hmem,e2⟩)
theorem Zml {W0 w:World} {S:List Nat} {ms m1:List Zc} (h:RdSl E W0 v xs) (hS:Z95 v xs S) (hT:Zgt ms m m1) (hw:Sat W0 S m w):Z95 v xs (ms.map (·.b)):=by
  intro a n c e h0 hm
  obtain ⟨k,hk,e2⟩:=List.mem_map.1 hm
  have hmem:k∈m:=hT.perm.subset (List.mem_append_left _ hk)
  rcases hw.base _ hmem with h6 | h6
  · rcases h with ⟨h1,h2⟩ | ⟨b',o',cp,h1,h2,h3⟩ | ⟨_,_,h2⟩
    · subst h2; simp at h0
    · rw [h1] at e
      injection e with e; injection e with e; subst e
      have h4:=h3 0 h0 0 E.pos
      have h5:0<(E.cell (xs.getD 0 E.z)).length:=by rw [E.len]; exact E.pos
      rw [List.getElem?_eq_getElem h5] at h4
      have:=Zfo h4
      simp only at this e2
      omega
    · subst h2; simp at h0
  · exact hS a n c e h0 (by rw [← e2]; exact h6)
theorem Zmk {W0 w:World} {S:List Nat} {b:Nat} {o:Obj} (h:RdSl E W0 v xs) (hS:Z95 v xs S) (hb:Has b o m) (hw:Sat W0 S m w):Z95 v xs [b]:=by
  intro a n c e h0 hm
  simp only [List.mem_singleton] at hm
  rcases hw.base _ hb.mem with h6 | h6
  · rcases h with ⟨h1,h2⟩ | ⟨b',o',cp,h1,h2,h3⟩ | ⟨_,_,h2⟩
    · subst h2; simp at h0
    · rw [h1] at e
      injection e with e; injection e with e; subst e
      have h4:=h3 0 h0 0 E.pos
      have h5:0<(E.cell (xs.getD 0 E.z)).length:=by rw [E.len]; exact E.pos
      rw [List.getElem?_eq_getElem h5] at h4
      have:=Zfo h4
      simp only at this h6 hm
      omega
    · subst h2; simp at h0
  · exact hS a n c e h0 (by rw [hm]; exact h6)
theorem Zmn {W0 w:World} {n c:Nat} {c':Zc} {ms m1 m2:List Zc} {T:List Nat} {a:Addr} (hT:Z3y c' m m1) (h2:Zgt ms m1 m2) (hw:Sat W0 T m w) (ha:a.block=c'.b):Z95 (.slice (some a) n c) xs (ms.map (·.b)):=by
  intro a' n' c1 e h0 hm
  injection e with e; injection e with e; subst e
  obtain ⟨k,hk,e2⟩:=List.mem_map.1 hm
  have hd:=(hw.perm hT.perm).dist
  simp only [List.map_cons,List.nodup_cons] at hd
  exact hd.1 (List.mem_map.2 ⟨k,h2.perm.subset (List.mem_append_left _ hk),by rw [← ha]; exact e2⟩)
theorem Zmm {W0 w:World} {b n c:Nat} {o:Obj} {c':Zc} {m1:List Zc} {T:List Nat} {a:Addr} (hT:Z3y c' m m1) (hb:Has b o m1) (hw:Sat W0 T m w) (ha:a.block=c'.b):Z95 (.slice (some a) n c) xs [b] :=
  Znt (b':=0) hT hb hw ha
end
section
variable {α:Type} {C:Cfg} {m:List Zc} {t:TS} {K:KN} {E:El α} {v:Value} {xs:List α}
end
def isW (want:Bool):Value→Bool
  | .bool b=>b==want
  | _=>false
theorem Zxc {want:Bool} {u:Value} (h:isW want u=false):u ≠ .bool want:=by
  rintro rfl; simp [isW] at h
theorem Z6v.lit {n:Nat} {t:TS} {a:Act} (h:Z6v n t a) {tc:Nat} {c b:Bool} (hc:Sx.look t tc=some (.bool c)) (e:c=b):Z6v n ((tc,.bool b)::t) a:=by
  subst e
  refine h.drop fun j v hj=>?_
  simp only [Sx.look] at hj
  by_cases e:Nat.beq tc j=true
  · rw [e,cond_true] at hj
    rw [Nat.beq_eq] at e; subst e
    rw [hc]; exact hj
  · rw [Bool.not_eq_true] at e; rw [e,cond_false] at hj; exact hj
section
variable {C:Cfg} {t:TS} {m m0:List Zc} {kn:KN} {op:IOp} {r:List J} {d:Option Nat} {tc i:Nat} {want bb:Bool} {late:List Nat} {rs:Sch}
theorem Z0mb {r:List Zfm} (hc:look t tc=some (.bool want)) (h:EF C m t d op (fun t' m'=>WL C r t' m' kn)):WL C (⟨d,some (tc,want),op⟩::r) t m kn:=by
  intro ops lo hok ρ fu Q a w ha hw hcn
  cases lo with
  | nil=>simp [okL] at hok
  | cons o lo =>
    simp only [okL,Bool.and_eq_true] at hok
    obtain ⟨⟨⟨hd,hg⟩,ho⟩,hr⟩:=hok
    unfold wpListIn
    rw [if_pos (by rw [Zca hg ha hc]; simp)]
    refine Zct (Zi3 ho) (Oper.wp_mono ?_ (Zqa (h o ho hd a ha w hw)))
    rintro a' w' ⟨t',m',hk,ha',hw'⟩
    exact hk ops lo hr ρ fu Q a' w' ha' hw' hcn
theorem Zru {r:List Zfm} {d:Nat} {pre pre':TS} {u:Value} (hc:look (pre++t) tc=some u) (hu:isW want u=false) (h:QR C m t r ((d,undef)::pre) pre'):QR C m t (⟨some d,some (tc,want),op⟩::r) pre pre':=by
  intro ops lo hok
  cases lo with
  | nil=>simp [okL] at hok
  | cons o lo =>
    simp only [okL,Bool.and_eq_true] at hok
    obtain ⟨⟨⟨hd,hg⟩,ho⟩,hr⟩:=hok
    obtain ⟨hd1,hd2⟩:=Z3u hd
    refine ⟨undef,fun a ha=>.inr ⟨Zmf hg (by rw [ha.look _ _ hc]; exact Zxc hu),rfl⟩,?_⟩
    rw [hd1]
    exact Zd7.sub (fun a' ⟨a,ha,e⟩=>e▸ha.put hd2 undef) (h ops lo hr)
theorem Zw9 {d:Nat} (hc:look t tc=some (.bool want)) (v:Value) (h1:Q1 C m t op v) (h:WJ C r ((d,v)::t) m kn):WJ C (.op ⟨some d,some (tc,want),op⟩::r) t m kn:=by
  unfold WJ at *; rw [J.flatL,J.flat]
  exact Zk7 (l1:=[⟨some d,some (tc,want),op⟩]) (pre:=[(d,v)]) (Ztb (pre:=[]) v hc h1 Zm2) h
theorem Z0ma (hc:look t tc=some (.bool want)) (h:EF C m t d op (fun t' m'=>WJ C r t' m' kn)):WJ C (.op ⟨d,some (tc,want),op⟩::r) t m kn:=by
  unfold WJ at *; rw [J.flatL,J.flat]
  exact Z0mb hc h
theorem Zsg {d:Nat} {u:Value} (hc:look t tc=some u) (hu:isW want u=false) (h:WJ C r ((d,undef)::t) m kn):WJ C (.op ⟨some d,some (tc,want),op⟩::r) t m kn:=by
  unfold WJ at *; rw [J.flatL,J.flat]
  exact Zk7 (l1:=[⟨some d,some (tc,want),op⟩]) (pre:=[(d,undef)]) (Zru (pre:=[]) hc hu Zm2) h
theorem Z0m9 {β:Type} {r0:β} {a b:Option β} {c:Bool} (h:br c a b=some r0) (hc:look t tc=some (.bool c)) (ht:a=some r0→WJ C r ((tc,.bool true)::t) m kn) (hf:b=some r0→WJ C r ((tc,.bool false)::t) m kn):WJ C r t m kn:=by
  intro ops lo hok ρ fu Q a w ha hw hcn
  cases hcv:c with
  | true=>exact ht (br_t h hcv) ops lo hok ρ fu Q a w (ha.lit hc hcv) hw hcn
  | false=>exact hf (br_f h hcv) ops lo hok ρ fu Q a w (ha.lit hc hcv) hw hcn
theorem Zy2 {x a b:Operand} {v:Value} (hc:ev t x=some (.bool true)) (ha:ev t a=some v):Q1 C m t (.pick x a b) v:=by
  cases hb:ev t b with
  | none=>exact Zfw (u:=v) hc (fun _=>ha) (fun h=>by cases h)
  | some u=>exact Zfw (u:=v) hc (fun _=>ha) (fun h=>by cases h)
theorem Zy1 {x a b:Operand} {v:Value} (hc:ev t x=some (.bool false)) (hb:ev t b=some v):Q1 C m t (.pick x a b) v :=
  Zfw (u:=v) hc (fun h=>by cases h) (fun _=>hb)
end
theorem Zqr {P:Program} {o:Oper} {x:Operand} {args:List Operand} (h:Z8k P o (.cv x args)=true) : ∃ c,o.op = .call c∧c.callee = .value x∧c.args.toList=args:=by
  simp only [Z8k] at h
  split at h
  · rename_i c heq
    simp only [Bool.and_eq_true] at h
    obtain ⟨h1,h2⟩:=h
    split at h1
    · rename_i y hc
      have:=Z00 h1; subst this
      exact ⟨c,heq,hc,Z60 h2⟩
    · cases h1
  · cases h
theorem Zr8 {c:Call} {args:List Operand} {a:Act} {vs:List Value} (h:c.args.toList=args) (hv:args.map a.eval=vs):c.args.map a.eval=vs.toArray:=by
  rw [← hv,← h,← Array.toList_map,Array.toArray_toList]
theorem Z022 {P:Program} {o:Oper} {x:Operand} {args:List Operand} {a:Act} {L:Nat} {vs:List Value} {w:World} (h:Z8k P o (.cv x args)=true) (hx:a.eval x = .func (.yield L) #[] #[]) (hv:args.map a.eval=vs) :
    (execOp a.eval o).run P w=(Instr.yield L vs.toArray).run P w:=by
  obtain ⟨c,heq,hc,ha⟩:=Zqr h
  simp only [execOp,heq,resolve,hc,hx,Deferred.ofValue,Sem.run_bind,Sem.run_pure,Result.andThen_ok,invoke,Array.append_empty,Array.empty_append,Zr8 ha hv]
theorem Sat.putObj {W0:World} {S:List Nat} {m:List Zc} {w:World} {b:Nat} {o:Obj} (h:Sat W0 S (⟨b,o⟩::m) w) (o':Obj):Sat W0 S (⟨b,o'⟩::m) (w.putObj b o'):=by
  have hlt:=h.lt (c:=⟨b,o⟩) (List.mem_cons_self ..)
  have hd:=h.dist
  simp only [List.map_cons,List.nodup_cons] at hd
  refine ⟨⟨h.fr.os,h.fr.tape,h.fr.output,by rw [World.putObj_size]; exact h.fr.size,fun k hk hS=>?_⟩,?_,?_,?_⟩
  · rw [World.putObj_heap_other ?_]
    · exact h.fr.block k hk hS
    · intro e
      subst e
      rcases h.base ⟨k,o⟩ (List.mem_cons_self ..) with h1 | h1
      · simp only at h1; omega
      · exact hS h1
  · intro c hc
    rcases List.mem_cons.1 hc with rfl | hc
    · exact World.putObj_heap_same hlt
    · rw [World.putObj_heap_other (fun e=>hd.1 (List.mem_map.2 ⟨c,hc,e⟩))]
      exact h.own c (List.mem_cons_of_mem _ hc)
  · intro c hc
    rcases List.mem_cons.1 hc with rfl | hc
    · exact h.base ⟨b,o⟩ (List.mem_cons_self ..)
    · exact h.base c (List.mem_cons_of_mem _ hc)
  · simp only [List.map_cons,List.nodup_cons]; exact hd
abbrev ra (R:Loop) (s:LoopState) (p:Option Code):Loop:={ R with state:=s,pending:=p }
abbrev lpc (L:Nat) (R:Loop):Zc:=⟨L,.loop R⟩
abbrev dfc (D:Nat):Zc:=⟨D,.deferred (some [])⟩
def Zka (R:Loop) (vs:List Value):Array Value:=(R.params.zip vs.toArray).foldl (fun t (p,v)=>t.setIfInBounds p v) R.tmps
theorem Zsi {C:Cfg} {t:TS} {m m1:List Zc} {kn:KN} {r:List Zfm} {d L n2:Nat} {x:Operand} {args:List Operand} {vs:List Value} {R:Loop} {t2:TS} {ca cb:IC}
    (hx:ev t x=some (.func (.yield L) #[] #[])) (ha:evL t args=some vs) (hT:Z3y (lpc L (ra R .ready none)) m m1) (hsz:vs.length=R.params.size)
    (h2:Z6v n2 t2 { tmps:=Zka R vs,defers:=[] }) (hmo:C.P.follows .mixedOrders=true) (hca:okC C.P n2 R.assign ca=true) (hcb:okC C.P n2 R.body cb=true)
    (hbody:WC ⟨C.P,n2,C.W0,C.S⟩ ca t2 (lpc L (ra R .ready none)::m1) (fun t3 m3=>∃ m4,Z3y (lpc L (ra R .ready none)) m3 m4 ∧
      WC ⟨C.P,n2,C.W0,C.S⟩ cb t3 (lpc L (ra R .busy none)::m4)
        (fun _ m5=>∃ m6,Z3y (lpc L (ra R .busy none)) m5 m6∧WL C r ((d,.bool true)::t) (lpc L (ra R .ready none)::m6) kn)
        ⟨[],fun _ m5=>∃ m6,Z3y (lpc L (ra R .busy none)) m5 m6∧WL C r ((d,.bool false)::t) (lpc L (ra R .done (some .ret))::m6) kn⟩) ⟨[],fun _ _=>False⟩) :
    WL C (⟨some d,none,.cv x args⟩::r) t m kn:=by
  intro ops lo hok ρ fu Q a w hat hw hcn
  cases lo with
  | nil=>simp [okL] at hok
  | cons o lo =>
    simp only [okL,Bool.and_eq_true] at hok
    obtain ⟨⟨⟨hd,hg⟩,ho⟩,hr⟩:=hok
    obtain ⟨hd1,hd2⟩:=Z3u hd
    have hw1:Sat C.W0 C.S (lpc L (ra R .ready none)::m1) w:=hw.perm hT.perm
    have hL:=hw1.own _ (List.mem_cons_self ..)
    unfold wpListIn
    rw [if_pos (Z5w (Z4l hg))]
    refine ⟨fun _ _=>trivial,?_⟩
    rw [Oper.semAt_eq _ _ _ (Zi3 ho),Z022 ho (hat.ev hx) (hat.evL ha),run_yield hL (by simpa using hsz),Oper.uponIn_round]
    refine ⟨fun e=>(by simp [FW,Fence.wide] at e),roundIn_of_wpIn trivial ?_⟩
    refine hbody hmo R.assign hca (some L) (fu-1) _ _ w h2 hw1 ⟨?_,fun id k hk=>by simp [Zf2] at hk,fun t3 m3 hk=>hk.elim⟩
    rintro t3 m3 ⟨m4,hT3,hb⟩ a3 w3 ha3 hw3
    have hw4:=hw3.perm hT3.perm
    have hL3:=hw4.own _ (List.mem_cons_self ..)
    refine ⟨_,run_beginRound hL3 rfl,?_⟩
    refine hb hmo R.body hcb (some L) (fu-1) _ a3 _ ha3 (hw4.putObj (.loop (ra R .busy none))) ⟨?_,fun id k hk=>by simp [Zf2] at hk,?_⟩
    · rintro t5 m5 ⟨m6,hT5,hk⟩ a5 w5 ha5 hw5
      have hw6:=hw5.perm hT5.perm
      refine ⟨_,_,run_endRound (r:=ra R .busy none) none (hw6.own _ (List.mem_cons_self ..)),?_⟩
      rw [hd1]
      exact hk ops lo hr ρ fu Q _ _ (hat.put hd2 _) (hw6.putObj (.loop (ra R .ready none))) hcn
    · rintro t5 m5 ⟨m6,hT5,hk⟩ a5 w5 ha5 hw5
      have hw6:=hw5.perm hT5.perm
      refine ⟨_,_,run_endRound (r:=ra R .busy none) (some .ret) (hw6.own _ (List.mem_cons_self ..)),?_⟩
      rw [hd1]
      exact hk ops lo hr ρ fu Q _ _ (hat.put hd2 _) (hw6.putObj (.loop (ra R .done (some .ret)))) hcn
theorem Zsh {C:Cfg} {t:TS} {m m1:List Zc} {kn:KN} {r:List J} {d L n2:Nat} {x:Operand} {args:List Operand} {vs:List Value} {R:Loop} {t2:TS} {ca cb:IC}
    (hx:ev t x=some (.func (.yield L) #[] #[])) (ha:evL t args=some vs) (hT:Z3y (lpc L (ra R .ready none)) m m1) (hsz:vs.length=R.params.size)
    (h2:Z6v n2 t2 { tmps:=Zka R vs,defers:=[] }) (hmo:C.P.follows .mixedOrders=true) (hca:okC C.P n2 R.assign ca=true) (hcb:okC C.P n2 R.body cb=true)
    (hbody:WC ⟨C.P,n2,C.W0,C.S⟩ ca t2 (lpc L (ra R .ready none)::m1) (fun t3 m3=>∃ m4,Z3y (lpc L (ra R .ready none)) m3 m4 ∧
      WC ⟨C.P,n2,C.W0,C.S⟩ cb t3 (lpc L (ra R .busy none)::m4)
        (fun _ m5=>∃ m6,Z3y (lpc L (ra R .busy none)) m5 m6∧WJ C r ((d,.bool true)::t) (lpc L (ra R .ready none)::m6) kn)
        ⟨[],fun _ m5=>∃ m6,Z3y (lpc L (ra R .busy none)) m5 m6∧WJ C r ((d,.bool false)::t) (lpc L (ra R .done (some .ret))::m6) kn⟩) ⟨[],fun _ _=>False⟩) :
    WJ C (.op ⟨some d,none,.cv x args⟩::r) t m kn:=by
  unfold WJ at *; rw [J.flatL,J.flat]
  exact Zsi hx ha hT hsz h2 hmo hca hcb hbody
theorem Zqo {P:Program} {f:FuncId} {d:FnD} {args:List Value} {W0 w:World} {S:List Nat} {m0:List Zc} {K:KN}
    (hm:P.follows .mixedOrders=true) (hok:okF P f d=true) (hlen:Nat.ble args.length d.n=true) (hrs:d.rs = []) (h0:Sat W0 S m0 w)
    (h:WC ⟨P,d.n,W0,S⟩ d.c (Zgi 0 args) m0 K ⟨[],K⟩):Calls P f args.toArray w (fun e w'=>(∃ v,e = .returned v) ∧ ∃ t m,K t m∧Sat W0 S m w'):=by
  unfold okF at hok
  split at hok
  · rename_i fn hf
    simp only [Bool.and_eq_true,decide_eq_true_eq] at hok
    obtain ⟨⟨h1,h2⟩,h3⟩:=hok
    split at h3
    · rename_i c hb
      have fin : ∀ t m,K t m→∀ a w,Z6v d.n t a→Sat W0 S m w→a.defers = [] ∧ ∃ v,(results fn a.tmps).run P w = .ok v w∧((∃ v',Ending.returned v = .returned v') ∧ ∃ t m,K t m∧Sat W0 S m w):=by
        rintro t m hk a w ha hw
        rw [hrs] at h2
        have hrun:=Zdz (C:=⟨P,d.n,W0,S⟩) ha hw .nil h2
        refine ⟨ha.defers,Zq5 [],?_,⟨_,rfl⟩,t,m,hk,hw⟩
        have hres:results fn a.tmps=(do let vs ← fn.results.mapM (Zdy a.tmps); pure (if h:vs.size=1 then vs[0] else .tuple vs)):=rfl
        rw [hres]
        simp only [Sem.run_bind]
        have hmap:(fn.results.mapM (Zdy a.tmps)).run P w = .ok [].toArray w:=by
          rw [← Array.toArray_toList (xs:=fn.results),List.mapM_toArray]
          simp only [Sem.run_map,hrun,Result.andThen_ok]
        simp only [hmap,Result.andThen_ok,Sem.run_pure]
        rw [Zl3]
      refine calls_of_wp hf hb (wpIn_wide.1 (h hm c h3 none 0 _ _ w ?_ h0 ⟨?_,?_,?_⟩))
      · have hlen':args.length≤fn.ntmps:=by rw [h1]; exact Nat.le_of_ble_eq_true hlen
        refine ⟨by simp [h1]; omega,rfl,?_⟩
        intro j v hj
        obtain ⟨_,hj2⟩:=Zci args 0 j v hj
        rw [Nat.sub_zero] at hj2
        have hlt:j<args.length:=(List.getElem?_eq_some_iff.1 hj2).1
        simp only [Array.getD_eq_getD_getElem?]
        rw [Array.getElem?_append_left (by simpa using hlt)]
        simp [hj2]
      · exact fun t m hk a w ha hw=>fin t m hk a w ha hw
      · intro id k hk; simp [Zf2] at hk
      · exact fun t m hk a w ha hw=>fin t m hk a w ha hw
    · cases h3
  · cases hok
theorem Zha {P:Program} {fn:Func} {rs:List RV} {W0 w:World} {S:List Nat} {m:List Zc} {t:TS} {n:Nat} {a:Act} {R:Ending→World→Prop} (hrs:okR P fn.results.toList rs=true) (ha:Z6v n t a) (hw:Sat W0 S m w) (h:Zkv W0 S rs R t m) :
    ∃ v,(results fn a.tmps).run P w = .ok v w∧R (.returned v) w:=by
  obtain ⟨l,hl,hR⟩:=h
  refine ⟨Zq5 l,?_,hR w hw⟩
  have hrun:=Zdz (C:=⟨P,n,W0,S⟩) ha hw hl hrs
  have hres:results fn a.tmps=(do let vs ← fn.results.mapM (Zdy a.tmps); pure (if h:vs.size=1 then vs[0] else .tuple vs)):=rfl
  rw [hres]
  simp only [Sem.run_bind]
  have hmap:(fn.results.mapM (Zdy a.tmps)).run P w = .ok l.toArray w:=by
    rw [← Array.toArray_toList (xs:=fn.results),List.mapM_toArray]
    simp only [Sem.run_map,hrun,Result.andThen_ok]
  simp only [hmap,Result.andThen_ok,Sem.run_pure]
  rw [Zl3]
abbrev Zmz (D:Nat):Deferred:={ target:=.collected D,args := #[] }
theorem Zh2 {P:Program} {fn:Func} {rs:List RV} {W0 w:World} {S:List Nat} {m:List Zc} {t:TS} {n fu D:Nat} {a:Act} {R:Ending→World→Prop} (hrs:okR P fn.results.toList rs=true) (ha:Z6v n t a) (hw:Sat W0 S (dfc D::m) w) (h:Zkv W0 S rs R t m) :
    LeavesInM (FW none) fu P fn a.tmps R [Zmz D] .returning w:=by
  unfold LeavesInM
  refine ⟨by simp,.inl ⟨D,_,rfl,run_takeDeferred (hw.own _ (List.mem_cons_self ..)),?_⟩⟩
  exact Zha hrs ha ((hw.putObj (.deferred none)).sublist (List.sublist_cons_self _ _)) h
theorem Zdw {a:Act} {dst:Option Nat} {v:Value} {ds:List Deferred}:({ a with defers:=a.defers++ds }:Act).put dst v = { a.put dst v with defers:=(a.put dst v).defers++ds }:=by
  cases dst <;> rfl
theorem Z61 {F:Fence} {n:Nat} {P:Program} {ops:Array Oper} {Q Q':Exit→Act→World→Prop} {ds:List Deferred} (hQ : ∀ e a w,Q e a w→Q' e { a with defers:=a.defers++ds } w) :
    ∀ (lo:List Oper) (a:Act) (w:World),wpListIn F n P ops Q lo a w→wpListIn F n P ops Q' lo { a with defers:=a.defers++ds } w
  | [],a,w,h=>hQ _ _ _ h
  | o::lo,a,w,h=>by
    unfold wpListIn at h ⊢
    have he:({ a with defers:=a.defers++ds }:Act).eval=a.eval:=by funext x; cases x <;> rfl
    by_cases hwd:Region.wanted o (yielded ops a.tmps)=true
    · rw [if_pos hwd] at h
      rw [if_pos hwd]
      obtain ⟨h1,h2⟩:=h
      refine ⟨by rw [he]; exact h1,?_⟩
      rw [he]
      generalize (o.semAt F.round a.eval).run P w=r at *
      cases r with
      | ok x w' =>
        cases x <;> simp only [Oper.uponIn] at h2 ⊢ <;> first
          | (rw [Zdw]; exact Z61 hQ lo _ _ h2)
          | (have h3:=Z61 (ds:=ds) hQ lo _ _ h2; rw [← Zdw] at h3; exact h3)
          | (refine ⟨h2.1,h2.2.mono fun e w'' he'=>?_⟩; cases e with
              | returned v=>simp only at he' ⊢; rw [Zdw]; exact Z61 hQ lo _ _ he'
              | panicked c=>exact hQ _ _ _ he'
              | outgrown=>obtain ⟨a0,w0,hq⟩:=he'; exact ⟨_,_,hQ _ _ _ hq⟩)
          | (refine ⟨h2.1,h2.2.mono fun v w'' he'=>?_⟩; rw [Zdw]; exact Z61 hQ lo _ _ he')
          | exact h2
      | halt x w'=>cases x <;> simp only [Oper.uponIn] at h2 ⊢ <;> first | exact hQ _ _ _ h2 | exact h2
    · rw [if_neg hwd] at h
      rw [if_neg hwd,he]
      refine ⟨h.1,?_⟩
      rw [Zdw]; exact Z61 hQ lo _ _ h.2
def WCM (C:Cfg) (c:IC) (t:TS) (m:List Zc) (rs:List RV) (R:Ending→World→Prop):Prop :=
  C.P.follows .mixedOrders=true→∀ c0,okC C.P C.n c0 c=true→∀ (fn:Func),okR C.P fn.results.toList rs=true→∀ a w,Z6v C.n t a→Sat C.W0 C.S m w→c0.wpIn (FW none) 2 C.P (bodyPostM (FW none) 2 C.P fn R) a w
theorem Zkf {P:Program} {f:FuncId} {d:FnD} {args:List Value} {W0:World} {S:List Nat} {m0:List Zc} {R:Ending→World→Prop}
    (hm:P.follows .mixedOrders=true) (hok:okF P f d=true) (hlen:Nat.ble args.length d.n=true) (h0:Sat W0 S m0 W0)
    (h:WCM ⟨P,d.n,W0,S⟩ d.c (Zgi 0 args) m0 d.rs R):Calls P f args.toArray W0 R:=by
  unfold okF at hok
  split at hok
  · rename_i fn hf
    simp only [Bool.and_eq_true,decide_eq_true_eq] at hok
    obtain ⟨⟨h1,h2⟩,h3⟩:=hok
    split at h3
    · rename_i c hb
      refine callsIn_wide.1 (callsIn_of_wp_marks (n:=2) hf hb trivial (h hm c h3 fn h2 _ W0 ?_ h0))
      have hlen':args.length≤fn.ntmps:=by rw [h1]; exact Nat.le_of_ble_eq_true hlen
      refine ⟨by simp [h1]; omega,rfl,?_⟩
      intro j v hj
      obtain ⟨_,hj2⟩:=Zci args 0 j v hj
      rw [Nat.sub_zero] at hj2
      have hlt:j<args.length:=(List.getElem?_eq_some_iff.1 hj2).1
      simp only [Array.getD_eq_getD_getElem?]
      rw [Array.getElem?_append_left (by simpa using hlt)]
      simp [hj2]
    · cases h3
  · cases hok
theorem Zlx {P:Program} {fn:Func} {rs:List RV} {W0 w:World} {S:List Nat} {m:List Zc} {t:TS} {n:Nat} {a:Act} {R:Ending→World→Prop} (hrs:okR P fn.results.toList rs=true) (ha:Z6v n t a) (hw:Sat W0 S m w) (h:Zkv W0 S rs R t m) :
    bodyPostM (FW none) 2 P fn R .ret a w:=by
  show LeavesInM (FW none) 2 P fn a.tmps R a.defers .returning w
  rw [ha.defers]
  exact Zha hrs ha hw h
theorem Zl4 {C:Cfg} {A B:IC} {t:TS} {m:List Zc} {rs:List RV} {R:Ending→World→Prop} (h:WC C A t m (fun t m=>WCM C B t m rs R) ⟨[],Zkv C.W0 C.S rs R⟩):WCM C (.seq A B) t m rs R:=by
  intro hm c0 hok fn hrs a w ha hw
  cases c0 <;> first | (simp [okC] at hok; done) | skip
  rename_i x0 y0
  simp only [okC,Bool.and_eq_true] at hok
  refine wpIn_seq (h hm x0 hok.1 none 2 _ a w ha hw ⟨?_,fun id k hk=>by simp [Zf2] at hk,?_⟩)
  · intro t' m' h' a' w' ha' hw'
    exact h' hm y0 hok.2 fn hrs a' w' ha' hw'
  · intro t' m' h' a' w' ha' hw'
    exact Zlx hrs ha' hw' h'
def RK (C:Cfg) (t:TS) (L D:Nat) (Rc:Loop) (l:List J) (rs:List RV) (R:Ending→World→Prop):KN:=fun _ m' =>
  (∃ m1,Z3y (lpc L (ra Rc .ready none)) m' m1∧WJ C l t m1 (fun t3 m3=>∃ m4,Z3y (dfc D) m3 m4∧Zkv C.W0 C.S rs R t3 m4)) ∨
  (∃ m1 m2,Z3y (lpc L (ra Rc .done (some .ret))) m' m1∧Z3y (dfc D) m1 m2∧Zkv C.W0 C.S rs R t m2)
def nmOk (P:Program) (f:FuncId):Bool:=match P.funcs[f]? with
  | some fn => !(fn.name == "runtime.NumGoroutine")
  | none=>false
theorem Zoz {P:Program} {f:FuncId} (h:nmOk P f=true) {fn:Func} (hf:P.funcs[f]? = some fn):(fn.name == "runtime.NumGoroutine")=false:=by
  unfold nmOk at h; rw [hf] at h; simpa using h
theorem Zrz {W0:World} {S:List Nat} {rs:List RV} {R:Value→List Zc→Prop} {t:TS} {m:List Zc} (h:retT rs R t m):Zkv W0 S rs (Zwf W0 S R) t m:=by
  obtain ⟨l,M,h1,h2,h3⟩:=h
  exact ⟨l,h1,fun w hw=>⟨_,_,rfl,h3,hw.psub h2⟩⟩
def yTS:List Nat→List Value→TS→TS
  | p::ps,v::vs,t=>yTS ps vs ((p,v)::t)
  | _,_,t=>t
theorem Zhi {n:Nat} : ∀ (ps:List Nat) (vs:List Value) (t:TS) (tm:Array Value),Z6v n t { tmps:=tm,defers:=[] }→ps.length=vs.length→ps.all (fun p=>Nat.blt p n)=true →
    Z6v n (yTS ps vs t) { tmps:=(ps.zip vs).foldl (fun t (p:Nat×Value)=>t.setIfInBounds p.1 p.2) tm,defers:=[] }
  | [],vs,t,tm,h,_,_=>by cases vs <;> exact h
  | p::ps,[],t,tm,h,hl,_=>by simp at hl
  | p::ps,v::vs,t,tm,h,hl,hp=>by
    simp only [List.all_cons,Bool.and_eq_true] at hp
    have hlt:p<n:=by have:=hp.1; rwa [Nat.blt_eq] at this
    exact Zhi ps vs _ _ (h.put hlt v) (by simpa using hl) hp.2
theorem Zqb {n:Nat} {t:TS} {R:Loop} {ps:List Nat} {vs:List Value} (h:Z6v n t { tmps:=R.tmps,defers:=[] }) (hp:R.params.toList=ps) (hl:ps.length=vs.length) (ha:ps.all (fun p=>Nat.blt p n)=true) :
    Z6v n (yTS ps vs t) { tmps:=Zka R vs,defers:=[] }:=by
  have h1:=Zhi ps vs t R.tmps h hl ha
  have e:Zka R vs=(ps.zip vs).foldl (fun t (p:Nat×Value)=>t.setIfInBounds p.1 p.2) R.tmps:=by
    unfold Zka
    rw [← Array.foldl_toList,Array.toList_zip,hp]
  rw [e]; exact h1
theorem Zw8 {C:Cfg} {A ca cb:IC} {t0:TS} {m0:List Zc} {rs:List RV} {R:Ending→World→Prop} {id gf:Nat} {x:Operand} {ps:List Nat} {l:List J} {dg:FnD}
    (hok:okF C.P gf dg=true) (hdr:dg.rs = []) (hgn:nmOk C.P gf=true)
    (hA:WC C A t0 m0 (fun t m=>∃ lb:List Value,ev t x=some (.func (.func gf) #[] lb.toArray)∧Nat.ble (lb.length+1) dg.n=true ∧
      ∀ (L D:Nat) (Rc:Loop),Rc.params.toList=ps→okC C.P C.n Rc.assign ca=true→okC C.P C.n Rc.body cb=true→Z6v C.n t { tmps:=Rc.tmps,defers:=[] } →
        WC ⟨C.P,dg.n,C.W0,C.S⟩ dg.c (Zgi 0 (.func (.yield L) #[] #[]::lb)) (lpc L (ra Rc .ready none)::dfc D::m) (RK C t L D Rc l rs R) ⟨[],RK C t L D Rc l rs R⟩) ⟨[],Zkv C.W0 C.S rs R⟩) :
    WCM C (.seq (.seq A (.block id (.rng x ps ca cb))) (.seq (.ops l) .ret)) t0 m0 rs R:=by
  intro hm c0 hok0 fn hrs a w ha hw
  cases c0 <;> first | (simp [okC] at hok0; done) | skip
  rename_i y0 z0
  simp only [okC,Bool.and_eq_true] at hok0
  obtain ⟨hy,hz⟩:=hok0
  cases y0 <;> first | (simp [okC] at hy; done) | skip
  rename_i A0 b0
  simp only [okC,Bool.and_eq_true] at hy
  obtain ⟨hyA,hyb⟩:=hy
  cases b0 <;> first | (simp [okC] at hyb; done) | skip
  rename_i id0 r0
  simp only [okC,Bool.and_eq_true,Nat.beq_eq] at hyb
  obtain ⟨hid,hyr⟩:=hyb
  cases r0 <;> first | (simp [okC] at hyr; done) | skip
  rename_i g0 ps0 asg0 body0
  simp only [okC,Bool.and_eq_true,beq_iff_eq] at hyr
  obtain ⟨⟨⟨hg0,hps⟩,hca⟩,hcb⟩:=hyr
  have hg0:=Z00 hg0
  subst hg0
  cases z0 <;> first | (simp [okC] at hz; done) | skip
  rename_i l0 e0
  simp only [okC,Bool.and_eq_true] at hz
  obtain ⟨hzl,hze⟩:=hz
  cases l0 <;> first | (simp [okC] at hzl; done) | skip
  rename_i rid rops rdraw
  simp only [okC,Bool.and_eq_true,Bool.not_eq_true'] at hzl
  obtain ⟨hl1,hl2⟩:=hzl
  subst hl2
  cases e0 <;> first | (simp [okC] at hze; done) | skip
  refine wpIn_seq (wpIn_seq (hA hm A0 hyA none 2 _ a w ha hw ⟨?_,fun id k hk=>by simp [Zf2] at hk,?_⟩))
  rotate_left 1
  · intro t' m' h' a' w' ha' hw'
    exact Zlx hrs ha' hw' h'
  rintro t m ⟨lb,hx,hlen,H⟩ a w ha hw
  refine wpIn_block (wpIn_rangeFunc ?_)
  intro fnid _
  obtain ⟨Rc,hRc⟩ : ∃ Rc:Loop,Rc = { state:=.ready,pending:=none,fn:=fnid,tmps:=a.tmps,params:=ps0,assign:=asg0,body:=body0,defers:=w.heap.size }:=⟨_,rfl⟩
  have hw1:=(hw.alloc (.deferred (some []))).alloc (.loop (ra Rc .ready none))
  rw [World.size_alloc] at hw1
  obtain ⟨gfn,hgf,hgb⟩ : ∃ gfn,C.P.funcs[gf]? = some gfn∧gfn.body.isSome=true:=by
    unfold okF at hok
    split at hok
    · rename_i fn' hf'
      simp only [Bool.and_eq_true] at hok
      refine ⟨fn',hf',?_⟩
      cases hb:fn'.body with
      | none=>rw [hb] at hok; simp at hok
      | some c=>rfl
    · cases hok
  have hcall : ∀ args w,(callFunc gf args).run C.P w = .ok (.enter gf args) w:=by
    intro args w
    have hn':gfn.name ≠ "runtime.NumGoroutine" := by simpa using Zoz hgn hgf
    have hb2:gfn.body≠none:=by intro e; rw [e] at hgb; cases hgb
    simp [callFunc,program,Sem.run_bind,Sem.run,hgf,hn',hb2]
  have hent:=run_enterLoop_outer (P:=C.P) (w:=w) fnid a.tmps ps0 asg0 body0
  obtain ⟨W1,hW1⟩ : ∃ W1,(w.alloc (.deferred (some []))).alloc (.loop { state:=.ready,pending:=none,fn:=fnid,tmps:=a.tmps,params:=ps0,assign:=asg0,body:=body0,defers:=w.heap.size })=W1:=⟨_,rfl⟩
  rw [hW1] at hent
  refine ⟨w.heap.size+1,[Zmz w.heap.size],W1,{ target:=.fn (.func gf) lb.toArray,args := #[.func (.yield (w.heap.size+1)) #[] #[]] },W1,gf,
    #[.func (.yield (w.heap.size+1)) #[] #[]]++lb.toArray,W1,hent,?_,fun _ _=>trivial,?_,fun e=>(by simp [FW,Fence.wide] at e),?_⟩
  · simp only [resolve,ha.ev hx]
    simp [Deferred.ofValue,Act.eval]
  · simp only [invoke]
    exact hcall _ _
  · have hrec:Z6v C.n t { tmps:=Rc.tmps,defers:=[] }:=by
      rw [hRc]; exact ⟨ha.size,rfl,ha.look⟩
    have hwc:=H (w.heap.size+1) w.heap.size Rc (by rw [hRc]; exact hps) (by rw [hRc]; exact hca) (by rw [hRc]; exact hcb) hrec
    have hcalls:=Zqo (w:=(w.alloc (.deferred (some []))).alloc (.loop (ra Rc .ready none))) hm hok (by simpa using hlen) hdr hw1 hwc
    have hargs:(Value.func (.yield (w.heap.size+1)) #[] #[]::lb).toArray = #[.func (.yield (w.heap.size+1)) #[] #[]]++lb.toArray:=by simp
    rw [hargs] at hcalls
    have hRa:ra Rc .ready none = { state:=.ready,pending:=none,fn:=fnid,tmps:=a.tmps,params:=ps0,assign:=asg0,body:=body0,defers:=w.heap.size }:=by rw [hRc]
    rw [hRa,hW1] at hcalls
    refine Zny (hcalls.mono ?_)
    rintro e w3 ⟨⟨v,rfl⟩,t',m',hk,hw3⟩
    rcases hk with ⟨m1,hT,hj⟩ | ⟨m1,m2,hT,hT2,hj⟩
    · have hw4:=hw3.perm hT.perm
      refine ⟨_,_,run_endLoop (hw4.own _ (List.mem_cons_self ..)) (by simp [ra]),?_⟩
      have hw5:=(hw4.putObj (.loop { ra Rc .ready none with state:=.exhausted })).sublist (List.sublist_cons_self _ _)
      show (Code.seq _ .ret).wpIn _ _ _ _ _ _
      refine wpIn_seq (wpIn_region_list ?_)
      have hd:({ a with defers:=[Zmz w.heap.size]++a.defers }:Act) = { a with defers:=a.defers ++ [Zmz w.heap.size] }:=by rw [ha.defers]; rfl
      rw [hd]
      refine Z61 (Q:=fun e a' w'=>e = .normal ∧ ∃ t3 m3,(∃ m4,Z3y (dfc w.heap.size) m3 m4∧Zkv C.W0 C.S rs R t3 m4)∧Z6v C.n t3 a'∧Sat C.W0 C.S m3 w') ?_ _ _ _ (hj rops rops.toList hl1 none 2 _ a _ ha hw5 ?_)
      · rintro e a' w' ⟨rfl,t3,m3,⟨m4,hT4,hr⟩,ha',hw'⟩
        refine wpIn_ret ?_
        show LeavesInM (FW none) 2 C.P fn a'.tmps R (a'.defers ++ [Zmz w.heap.size]) .returning w'
        rw [ha'.defers]
        exact Zh2 hrs ha' (hw'.perm hT4.perm) hr
      · exact fun t3 m3 hk a' w' ha' hw'=>⟨rfl,t3,m3,hk,ha',hw'⟩
    · have hw4:=hw3.perm hT.perm
      refine ⟨_,_,run_endLoop (hw4.own _ (List.mem_cons_self ..)) (by simp [ra]),?_⟩
      have hw5:=((hw4.putObj (.loop { ra Rc .done (some .ret) with state:=.exhausted })).sublist (List.sublist_cons_self _ _)).perm hT2.perm
      refine wpIn_ret ?_
      show LeavesInM (FW none) 2 C.P fn a.tmps R ([Zmz w.heap.size]++a.defers) .returning _
      rw [ha.defers]
      exact Zh2 hrs ha hw5 hj
theorem q_mf {C:Cfg} {t:TS} {m:List Zc} {f:FuncId} {caps:List Operand} {vs:List Value} (hv:evL t caps=some vs):Q1 C m t (.mf f caps) (.func (.func f) #[] vs.toArray):=by
  intro o ho a ha w hw
  simp only [Z8k] at ho
  split at ho
  · rename_i f' first captured heq
    simp only [Bool.and_eq_true,Nat.beq_eq] at ho
    obtain ⟨⟨h1,h2⟩,h3⟩:=ho
    subst h1
    have h2':first = #[]:=by simpa using h2
    subst h2'
    have h3':=Z60 h3
    refine Z07 ?_
    have e:captured.map a.eval=vs.toArray:=by
      rw [← ha.evL hv,← h3',← Array.toList_map,Array.toArray_toList]
    simp [execOp,heq,Instr.makeFunc,e]
  · cases ho
end Go.Sx
namespace Go.Proofs.YtiflckckekjbnaaDoor
open Go Go.Sx Go.RowKit
set_option linter.all false
set_option maxHeartbeats 400000
set_option maxRecDepth 100000
def Z0ht:List J:=[oj 1 (.bx 58 0),oj 2 (.al 58 [Z5])]
def Z0hu:List J:=[oj 3 (.ia 5 1 1 (ci 0)),oj 4 (.ld 1 false 3),oj 5 (.bin .and 4 (cu 2251799813685247)),oj 6 (.ia 5 1 1 (ci 4)),oj 7 (.ld 1 false 6),oj 8 (.bin .shr 7 (cu 51)),oj 9 (.bin .mul 8 (cu 19)),oj 10 (.bin .add 5 9),oj 11 (.ia 5 1 1 (ci 1)),oj 12 (.ld 1 false 11),oj 13 (.bin .and 12 (cu 2251799813685247)),oj 14 (.ia 5 1 1 (ci 0)),oj 15 (.ld 1 false 14),oj 16 (.bin .shr 15 (cu 51)),oj 17 (.bin .add 13 16),oj 18 (.ia 5 1 1 (ci 2)),oj 19 (.ld 1 false 18),oj 20 (.bin .and 19 (cu 2251799813685247)),oj 21 (.ia 5 1 1 (ci 1)),oj 22 (.ld 1 false 21),oj 23 (.bin .shr 22 (cu 51)),oj 24 (.bin .add 20 23),oj 25 (.ia 5 1 1 (ci 3)),oj 26 (.ld 1 false 25),oj 27 (.bin .and 26 (cu 2251799813685247)),oj 28 (.ia 5 1 1 (ci 2)),oj 29 (.ld 1 false 28),oj 30 (.bin .shr 29 (cu 51)),oj 31 (.bin .add 27 30),oj 32 (.ia 5 1 1 (ci 4)),oj 33 (.ld 1 false 32),oj 34 (.bin .and 33 (cu 2251799813685247)),oj 35 (.ia 5 1 1 (ci 3)),oj 36 (.ld 1 false 35),oj 37 (.bin .shr 36 (cu 51)),oj 38 (.bin .add 34 37),oj 39 (.bd [Z5] [(0,1,10),(1,1,17),(2,1,24),(3,1,31),(4,1,38)]),on_ (.st 5 2 39)]
def d76:FnD:=⟨40,[.cell 2 5 true],(.seq (.ops Z0ht) (.seq (.ops Z0hu) .ret))⟩
theorem ok76:okF Tryd.prog 76 d76=true:=by kernel_rfl
def Z0gt:List J:=[oj 1 (.bx 58 0),oj 2 (.al 58 [Z5])]
def Z0gu:List J:=[oj 7 (.ld 5 true 1),oj 8 (.call 76 [7]),oj 9 (.call 76 [8]),on_ (.st 5 1 9)]
def Z0gv:List J:=[oj 10 (.ia 5 1 1 (ci 0)),oj 11 (.ld 1 false 10),oj 12 (.bin .add 11 (cu 19)),oj 13 (.bin .shr 12 (cu 51)),oj 3 (.mv 13)]
def Z0gw:List J:=[oj 14 (.sla 5 1 1 (some (ci 1)) none none),oj 15 (.len 14),oj 16 (.mv (ci 0))]
def Z0gx:List J:=[oj 17 (.bin .lss 16 15)]
def Z0gy:List J:=[oj 18 (.ias 1 14 16),oj 19 (.ld 1 false 18),oj 5 (.mv 19)]
def Z0gz:List J:=[oj 20 (.mv 5),oj 21 (.mv 3),oj 22 (.bin .add 20 21),oj 23 (.bin .shr 22 (cu 51)),oj 3 (.mv 23)]
def Z04l:IC:=(.seq (.ops Z0gy) (.ops Z0gz))
def Z0h0:List J:=[oj 24 (.bin .add 16 (ci 1)),oj 16 (.mv 24)]
def Z068:IC:=(.seq (.ops Z0gx) (.seq (.cond 17 .skip (.exit 0)) (.seq (.block 1 Z04l) (.ops Z0h0))))
def Z04k:IC:=(.loop Z068)
def Z0h1:List J:=[oj 25 (.ia 5 1 1 (ci 0)),oj 26 (.ld 1 false 25),oj 27 (.mv 3),oj 28 (.bin .mul (cu 19) 27),oj 29 (.bin .add 26 28),oj 30 (.ia 5 1 1 (ci 0)),on_ (.st 1 30 29)]
def Z0h2:List J:=[oj 31 (.mv (ci 0))]
def Z019:List J:=[oj 32 (.bin .lss 31 (ci 4))]
def Z01a:List J:=[oj 33 (.mv 31),oj 6 (.mv 33)]
def Z01b:Sch:=(.p [0] (oj 34 (.mv 6)) (.p [1] (oj 35 (.bin .add 34 (ci 1))) (.p [2] (oj 36 (.ia 5 1 1 35)) (.p [4] (oj 38 (.mv 6)) (.p [5] (oj 39 (.ia 5 1 1 38)) (.q [3] (oj 37 (.ld 1 false 36)) (.q [6] (oj 40 (.ld 1 false 39)) (.p [7] (oj 41 (.bin .shr 40 (cu 51))) (.p [8] (oj 42 (.bin .add 37 41)) (.p [9] (oj 43 (.ia 5 1 1 35)) (.e 10 (oe (.st 1 43 42)) .nil)))))))))))
def Z01c:List J:=[oj 44 (.mv 6),oj 45 (.ia 5 1 1 44),oj 46 (.ld 1 false 45),oj 47 (.bin .and 46 (cu 2251799813685247)),oj 48 (.ia 5 1 1 44),on_ (.st 1 48 47)]
def Z04n:IC:=(.seq (.ops Z01a) (.seq (.draw Z01b [10]) (.ops Z01c)))
def Z01d:List J:=[oj 49 (.bin .add 31 (ci 1)),oj 31 (.mv 49)]
def Z069:IC:=(.seq (.ops Z019) (.seq (.cond 32 .skip (.exit 2)) (.seq (.block 3 Z04n) (.ops Z01d))))
def Z04m:IC:=(.loop Z069)
def Z01e:List J:=[oj 50 (.ia 5 1 1 (ci 4)),oj 51 (.ld 1 false 50),oj 52 (.bin .and 51 (cu 2251799813685247)),oj 53 (.ia 5 1 1 (ci 4)),on_ (.st 1 53 52)]
def Z01f:List J:=[oj 54 (.ld 5 true 1),on_ (.st 5 2 54)]
def d70:FnD:=⟨55,[.cell 2 5 true],(.seq (.ops Z0gt) (.seq (.ops Z0gu) (.seq (.ops Z0gv) (.seq (.seq (.ops Z0gw) (.block 0 Z04k)) (.seq (.ops Z0h1) (.seq (.seq (.ops Z0h2) (.block 2 Z04m)) (.seq (.ops Z01e) (.seq (.ops Z01f) .ret))))))))⟩
theorem ok70:okF Tryd.prog 70 d70=true:=by kernel_rfl
def Z0kr:List J:=[oj 4 (.mv (cu 0)),oj 5 (.mv (cu 0))]
def Z0ks:List J:=[oj 14 (.mv 0),oj 15 (.bin .and 14 (cu 4294967295)),oj 6 (.mv 15)]
def Z0kt:List J:=[oj 16 (.mv 0),oj 17 (.bin .shr 16 (cu 32)),oj 7 (.mv 17)]
def Z0ku:List J:=[oj 18 (.mv 1),oj 19 (.bin .and 18 (cu 4294967295)),oj 8 (.mv 19)]
def Z0kv:List J:=[oj 20 (.mv 1),oj 21 (.bin .shr 20 (cu 32)),oj 9 (.mv 21)]
def Z0kw:List J:=[oj 22 (.mv 6),oj 23 (.mv 8),oj 24 (.bin .mul 22 23),oj 10 (.mv 24)]
def Z0kx:List J:=[oj 25 (.mv 7),oj 26 (.mv 8),oj 27 (.bin .mul 25 26),oj 28 (.mv 10),oj 29 (.bin .shr 28 (cu 32)),oj 30 (.bin .add 27 29),oj 11 (.mv 30)]
def Z0ky:List J:=[oj 31 (.mv 11),oj 32 (.bin .and 31 (cu 4294967295)),oj 12 (.mv 32)]
def Z0kz:List J:=[oj 33 (.mv 11),oj 34 (.bin .shr 33 (cu 32)),oj 13 (.mv 34)]
def Z0l0:List J:=[oj 35 (.mv 12),oj 36 (.mv 6),oj 37 (.mv 9),oj 38 (.bin .mul 36 37),oj 39 (.bin .add 35 38),oj 12 (.mv 39)]
def Z01z:List J:=[oj 40 (.mv 7),oj 41 (.mv 9),oj 42 (.bin .mul 40 41),oj 43 (.mv 13),oj 44 (.bin .add 42 43),oj 45 (.mv 12),oj 46 (.bin .shr 45 (cu 32)),oj 47 (.bin .add 44 46),oj 4 (.mv 47)]
def Z020:List J:=[oj 48 (.mv 0),oj 49 (.mv 1),oj 50 (.bin .mul 48 49),oj 5 (.mv 50)]
def d96:FnD:=⟨51,[.tmp 4,.tmp 5],(.seq (.ops Z0kr) (.seq (.ops Z0ks) (.seq (.ops Z0kt) (.seq (.ops Z0ku) (.seq (.ops Z0kv) (.seq (.ops Z0kw) (.seq (.ops Z0kx) (.seq (.ops Z0ky) (.seq (.ops Z0kz) (.seq (.ops Z0l0) (.seq (.ops Z01z) (.seq (.ops Z020) .ret))))))))))))⟩
theorem ok96:okF Tryd.prog 96 d96=true:=by kernel_rfl
def Z0hv:List J:=[oj 10 (.mv 1),oj 11 (.mv 2),oj 12 (.call 96 [10,11]),oj 9 (.mv 12),oj 13 (.ext 9 0),oj 14 (.ext 9 1),oj 6 (.mv 13),oj 7 (.mv 14)]
def Z0hw:List J:=[oj 8 (.mv (cu 0))]
def Z0hx:List J:=[oj 16 (.mv 0),oj 17 (.mv 0),oj 18 (.nilc 17),oj 19 (.fa 1 18),oj 20 (.ld 1 false 19),oj 21 (.mv 7),oj 22 (.xcall 78 [20,21,(cu 0)]),oj 15 (.mv 22),oj 23 (.ext 15 0),oj 24 (.ext 15 1),oj 25 (.nilc 16),oj 26 (.fa 1 25),on_ (.st 1 26 23),oj 8 (.mv 24)]
def Z0hy:List J:=[oj 28 (.mv 0),oj 29 (.mv 0),oj 30 (.nilc 29),oj 31 (.fa 0 30),oj 32 (.ld 1 false 31),oj 33 (.mv 6),oj 34 (.mv 8),oj 35 (.xcall 78 [32,33,34]),oj 27 (.mv 35),oj 36 (.ext 27 0),oj 37 (.ext 27 1),oj 38 (.nilc 28),oj 39 (.fa 0 38),on_ (.st 1 39 36)]
def d77:FnD:=⟨40,[],(.seq (.ops Z0hv) (.seq (.ops Z0hw) (.seq (.ops Z0hx) (.ops Z0hy))))⟩
theorem ok77:okF Tryd.prog 77 d77=true:=by kernel_rfl
def Z0bq:List J:=[oj 2 (.bx 58 0),oj 3 (.bx 58 1),oj 4 (.al 58 [Z5])]
def Z0br:Sch:=(.q [0] (oj 19 (.ld 5 true 2)) (.p [1] (oj 20 (.call 76 [19])) (.q [2] (oj 21 (.ld 5 true 3)) (.p [3] (oj 22 (.call 76 [21])) (.e 4 (oe (.st 5 2 20)) (.e 5 (oe (.st 5 3 22)) .nil))))))
def Z0bs:List J:=[oj 5 (.al 129 [Z10])]
def Z0bt:List J:=[oj 23 (.ld 5 true 2),oj 24 (.mv (ci 0))]
def Z0bu:List J:=[oj 25 (.bin .lss 24 (ci 5))]
def Z0bv:List J:=[oj 26 (.mv 24),oj 27 (.idx 5 1 false 23 24),oj 6 (.mv 26),oj 7 (.mv 27)]
def Z0bw:List J:=[oj 28 (.ld 5 true 3),oj 29 (.mv (ci 0))]
def Z0bx:List J:=[oj 30 (.bin .lss 29 (ci 5))]
def Z0by:List J:=[oj 31 (.mv 29),oj 32 (.idx 5 1 false 28 29),oj 8 (.mv 31),oj 9 (.mv 32)]
def Z0bz:List J:=[oj 33 (.mv 6),oj 34 (.mv 8),oj 35 (.bin .add 33 34),oj 36 (.bin .lss 35 (ci 5))]
def Z00k:List J:=[oj 37 (.mv 6),oj 38 (.mv 8),oj 39 (.bin .add 37 38),oj 40 (.ia 5 2 5 39),oj 41 (.mv 7),oj 42 (.mv 9),oj 43 (.call 77 [40,41,42])]
def Z00l:List J:=[oj 44 (.mv 6),oj 45 (.mv 8),oj 46 (.bin .add 44 45),oj 47 (.bin .sub 46 (ci 5)),oj 48 (.ia 5 2 5 47),oj 49 (.mv 7),oj 50 (.mv 9),oj 51 (.bin .mul (cu 19) 50),oj 52 (.call 77 [48,49,51])]
def Z03r:IC:=(.seq (.ops Z0by) (.seq (.ops Z0bz) (.cond 36 (.ops Z00k) (.ops Z00l))))
def Z00m:List J:=[oj 53 (.bin .add 29 (ci 1)),oj 29 (.mv 53)]
def Z05t:IC:=(.seq (.ops Z0bx) (.seq (.cond 30 .skip (.exit 2)) (.seq (.block 3 Z03r) (.ops Z00m))))
def Z03q:IC:=(.loop Z05t)
def Z03p:IC:=(.seq (.ops Z0bv) (.seq (.ops Z0bw) (.block 2 Z03q)))
def Z00n:List J:=[oj 54 (.bin .add 24 (ci 1)),oj 24 (.mv 54)]
def Z05s:IC:=(.seq (.ops Z0bu) (.seq (.cond 25 .skip (.exit 0)) (.seq (.block 1 Z03p) (.ops Z00n))))
def Z03o:IC:=(.loop Z05s)
def Z00o:List J:=[oj 10 (.al 58 [Z5])]
def Z00p:List J:=[oj 11 (.mv (cu 0))]
def Z00q:List J:=[oj 55 (.ld 10 true 5),oj 56 (.mv (ci 0))]
def Z00r:List J:=[oj 57 (.bin .lss 56 (ci 5))]
def Z00s:List J:=[oj 58 (.mv 56),oj 59 (.idx 5 2 true 55 56),oj 13 (.al 128 [.ints .u64 2 (List.replicate 2 0)]),oj 12 (.mv 58),on_ (.st 2 13 59)]
def Z00t:List J:=[oj 61 (.fa 1 13),oj 62 (.ld 1 false 61),oj 63 (.mv 11),oj 64 (.xcall 78 [62,63,(cu 0)]),oj 60 (.mv 64),oj 65 (.ext 60 0),oj 66 (.ext 60 1),oj 14 (.mv 65),oj 15 (.mv 66)]
def Z00u:List J:=[oj 67 (.mv 12),oj 68 (.mv 14),oj 69 (.bin .and 68 (cu 2251799813685247)),oj 70 (.ia 5 1 10 67),on_ (.st 1 70 69)]
def Z00v:List J:=[oj 71 (.fa 0 13),oj 72 (.ld 1 false 71),oj 73 (.mv 15),oj 74 (.bin .add 72 73),oj 75 (.bin .shl 74 (cu 13)),oj 76 (.mv 14),oj 77 (.bin .shr 76 (cu 51)),oj 78 (.bin .or 75 77),oj 11 (.mv 78)]
def Z03t:IC:=(.seq (.ops Z00s) (.seq (.ops Z00t) (.seq (.ops Z00u) (.ops Z00v))))
def Z00w:List J:=[oj 79 (.bin .add 56 (ci 1)),oj 56 (.mv 79)]
def Z05u:IC:=(.seq (.ops Z00r) (.seq (.cond 57 .skip (.exit 4)) (.seq (.block 5 Z03t) (.ops Z00w))))
def Z03s:IC:=(.loop Z05u)
def Z00x:List J:=[oj 16 (.al 128 [.ints .u64 2 (List.replicate 2 0)])]
def Z00y:List J:=[oj 80 (.mv 11),oj 81 (.call 77 [16,80,(cu 19)])]
def Z00z:List J:=[oj 83 (.fa 1 16),oj 84 (.ld 1 false 83),oj 85 (.ia 5 1 10 (ci 0)),oj 86 (.ld 1 false 85),oj 87 (.xcall 78 [84,86,(cu 0)]),oj 82 (.mv 87),oj 88 (.ext 82 0),oj 89 (.ext 82 1),oj 17 (.mv 88),oj 18 (.mv 89)]
def Z010:List J:=[oj 90 (.mv 17),oj 91 (.bin .and 90 (cu 2251799813685247)),oj 92 (.ia 5 1 10 (ci 0)),on_ (.st 1 92 91)]
def Z011:List J:=[oj 93 (.ia 5 1 10 (ci 1)),oj 94 (.ld 1 false 93),oj 95 (.fa 0 16),oj 96 (.ld 1 false 95),oj 97 (.mv 18),oj 98 (.bin .add 96 97),oj 99 (.bin .shl 98 (cu 13)),oj 100 (.mv 17),oj 101 (.bin .shr 100 (cu 51)),oj 102 (.bin .or 99 101),oj 103 (.bin .add 94 102),oj 104 (.ia 5 1 10 (ci 1)),on_ (.st 1 104 103)]
def Z012:List J:=[oj 105 (.ld 5 true 10),oj 106 (.call 70 [105]),on_ (.st 5 4 106)]
def d39:FnD:=⟨107,[.cell 4 5 true],(.seq (.ops Z0bq) (.seq (.draw Z0br [4,5]) (.seq (.ops Z0bs) (.seq (.seq (.ops Z0bt) (.block 0 Z03o)) (.seq (.ops Z00o) (.seq (.ops Z00p) (.seq (.seq (.ops Z00q) (.block 4 Z03s)) (.seq (.ops Z00x) (.seq (.ops Z00y) (.seq (.ops Z00z) (.seq (.ops Z010) (.seq (.ops Z011) (.seq (.ops Z012) .ret)))))))))))))⟩
theorem ok39:okF Tryd.prog 39 d39=true:=by kernel_rfl
def Z0b2:List J:=[oj 1 (.bx 58 0),oj 2 (.al 58 [Z5])]
def Z0b3:List J:=[oj 3 (.ld 5 true 1),oj 4 (.ld 5 true 1),oj 5 (.call 39 [3,4]),on_ (.st 5 2 5)]
def d34:FnD:=⟨6,[.cell 2 5 true],(.seq (.ops Z0b2) (.seq (.ops Z0b3) .ret))⟩
theorem ok34:okF Tryd.prog 34 d34=true:=by kernel_rfl
def Z0hn:List J:=[oj 2 (.al 58 [Z5])]
def Z0ho:List J:=[oj 3 (.mv 0),oj 4 (.bd [Z5] [(0,1,3)]),oj 5 (.call 70 [4]),on_ (.st 5 2 5)]
def d74:FnD:=⟨6,[.cell 2 5 true],(.seq (.ops Z0hn) (.seq (.ops Z0ho) .ret))⟩
theorem ok74:okF Tryd.prog 74 d74=true:=by kernel_rfl
def Z0h3:List J:=[oj 2 (.bx 58 0),oj 3 (.bx 26 1),oj 4 (.al 58 [Z5])]
def Z0h4:List J:=[oj 7 (.call 74 [(cu 1)]),oj 5 (.al 58 [Z5]),on_ (.st 5 5 7)]
def Z0h5:List J:=[oj 6 (.mv (ci 255))]
def Z0h6:List J:=[oj 8 (.mv 6),oj 9 (.bin .geq 8 (ci 0))]
def Z0h8:List J:=[oj 12 (.ld 5 true 5),oj 13 (.call 34 [12]),on_ (.st 5 5 13)]
def Z0h9:List J:=[oj 14 (.mv 6),oj 15 (.bin .quo 14 (ci 8)),oj 16 (.ia 32 1 3 15),oj 17 (.ld 1 false 16),oj 18 (.mv 6),oj 19 (.bin .rem 18 (ci 8)),oj 20 (.bin .shr 17 19),oj 21 (.bin .and 20 (.const (.int .u8 1))),oj 22 (.bin .eql 21 (.const (.int .u8 1)))]
def Z0ha:List J:=[oj 23 (.ld 5 true 5),oj 24 (.ld 5 true 2),oj 25 (.call 39 [23,24]),on_ (.st 5 5 25)]
def Z04p:IC:=(.seq (.ops Z0h8) (.seq (.ops Z0h9) (.cond 22 (.ops Z0ha) .skip)))
def Z0h7:List J:=[oj 10 (.mv 6),oj 11 (.bin .sub 10 (ci 1)),oj 6 (.mv 11)]
def Z06a:IC:=(.seq (.seq (.ops Z0h6) (.cond 9 .skip (.exit 0))) (.seq (.block 1 Z04p) (.ops Z0h7)))
def Z04o:IC:=(.loop Z06a)
def Z0hb:List J:=[oj 26 (.ld 5 true 5),on_ (.st 5 4 26)]
def d71:FnD:=⟨27,[.cell 4 5 true],(.seq (.ops Z0h3) (.seq (.ops Z0h4) (.seq (.seq (.ops Z0h5) (.block 0 Z04o)) (.seq (.ops Z0hb) .ret))))⟩
theorem ok71:okF Tryd.prog 71 d71=true:=by kernel_rfl
def Z0hc:List J:=[oj 4 (.al 26 [.ints .u8 32 (List.replicate 32 0)])]
def Z0hd:List J:=[oj 5 (.al 26 [.ints .u8 32 (List.replicate 32 0)])]
def Z0he:List J:=[oj 7 (.mv (ci 0))]
def Z0hf:List J:=[oj 8 (.bin .lss 7 (ci 32))]
def Z0hg:List J:=[oj 9 (.mv 7),oj 6 (.mv 9)]
def Z0hh:List J:=[oj 10 (.mv 6),oj 11 (.ia 32 1 5 10),on_ (.st 1 11 (.const (.int .u8 255)))]
def Z04r:IC:=(.seq (.ops Z0hg) (.ops Z0hh))
def Z0hi:List J:=[oj 12 (.bin .add 7 (ci 1)),oj 7 (.mv 12)]
def Z06b:IC:=(.seq (.ops Z0hf) (.seq (.cond 8 .skip (.exit 0)) (.seq (.block 1 Z04r) (.ops Z0hi))))
def Z04q:IC:=(.loop Z06b)
def Z0hj:List J:=[oj 13 (.mv 0),oj 14 (.mv 1),oj 15 (.ia 32 1 5 (ci 0)),on_ (.st 1 15 13),oj 16 (.ia 32 1 5 (ci 31)),on_ (.st 1 16 14)]
def Z0hk:List J:=[oj 17 (.ld 32 true 5),on_ (.st 32 4 17)]
def d72:FnD:=⟨18,[.cell 4 32 true],(.seq (.ops Z0hc) (.seq (.ops Z0hd) (.seq (.seq (.ops Z0he) (.block 0 Z04q)) (.seq (.ops Z0hj) (.seq (.ops Z0hk) .ret)))))⟩
theorem ok72:okF Tryd.prog 72 d72=true:=by kernel_rfl
def Z0dk:List J:=[oj 1 (.bx 58 0),oj 2 (.al 58 [Z5])]
def Z0dl:Sch:=(.p [1] (oj 4 (.call 72 [(.const (.int .u8 235)),(.const (.int .u8 127))])) (.q [0] (oj 3 (.ld 5 true 1)) (.p [2] (oj 5 (.call 71 [3,4])) (.e 3 (oe (.st 5 2 5)) .nil))))
def d49:FnD:=⟨6,[.cell 2 5 true],(.seq (.ops Z0dk) (.seq (.draw Z0dl [3]) .ret))⟩
theorem ok49:okF Tryd.prog 49 d49=true:=by kernel_rfl
def Z0dm:List J:=[oj 1 (.bx 58 0),oj 2 (.al 26 [.ints .u8 32 (List.replicate 32 0)])]
def Z0dn:List J:=[oj 8 (.ld 5 true 1),oj 9 (.call 70 [8]),on_ (.st 5 1 9)]
def Z0do:List J:=[oj 3 (.al 26 [.ints .u8 32 (List.replicate 32 0)])]
def Z0dp:List J:=[oj 10 (.mv (ci 0))]
def Z0dq:List J:=[oj 11 (.bin .lss 10 (ci 32))]
def Z0dr:List J:=[oj 12 (.mv 10),oj 4 (.mv 12)]
def Z0ds:List J:=[oj 13 (.mv 4),oj 14 (.bin .mul (ci 8) 13),oj 15 (.bin .quo 14 (ci 51)),oj 16 (.mv 4),oj 17 (.bin .mul (ci 8) 16),oj 18 (.bin .rem 17 (ci 51)),oj 5 (.mv 15),oj 6 (.mv 18)]
def Z0dt:List J:=[oj 19 (.mv 5),oj 20 (.ia 5 1 1 19),oj 21 (.ld 1 false 20),oj 22 (.mv 6),oj 23 (.bin .shr 21 22),oj 7 (.mv 23)]
def Z0du:List J:=[oj 24 (.mv 6),oj 25 (.bin .gtr 24 (ci 43)),oj 26 (.mv 25),.lg false 26 29 none [.op ⟨some 27,(some (26,true)),.mv 5⟩,.op ⟨some 28,(some (26,true)),.bin .lss 27 (ci 4)⟩] 28]
def Z0dv:List J:=[oj 30 (.mv 7),oj 31 (.mv 5),oj 32 (.bin .add 31 (ci 1)),oj 33 (.ia 5 1 1 32),oj 34 (.ld 1 false 33),oj 35 (.mv 6),oj 36 (.bin .sub (ci 51) 35),oj 37 (.bin .shl 34 36),oj 38 (.bin .or 30 37),oj 7 (.mv 38)]
def Z013:List J:=[oj 39 (.mv 4),oj 40 (.mv 7),oj 41 (.conv .u8 40),oj 42 (.ia 32 1 3 39),on_ (.st 1 42 41)]
def Z047:IC:=(.seq (.ops Z0dr) (.seq (.ops Z0ds) (.seq (.ops Z0dt) (.seq (.seq (.ops Z0du) (.cond 29 (.ops Z0dv) .skip)) (.ops Z013)))))
def Z014:List J:=[oj 43 (.bin .add 10 (ci 1)),oj 10 (.mv 43)]
def Z061:IC:=(.seq (.ops Z0dq) (.seq (.cond 11 .skip (.exit 0)) (.seq (.block 1 Z047) (.ops Z014))))
def Z046:IC:=(.loop Z061)
def Z015:List J:=[oj 44 (.ld 32 true 3),on_ (.st 32 2 44)]
def d50:FnD:=⟨45,[.cell 2 32 true],(.seq (.ops Z0dm) (.seq (.ops Z0dn) (.seq (.ops Z0do) (.seq (.seq (.ops Z0dp) (.block 0 Z046)) (.seq (.ops Z015) .ret)))))⟩
theorem ok50:okF Tryd.prog 50 d50=true:=by kernel_rfl
def Z0dw:List J:=[oj 1 (.bx 58 0),oj 2 (.mv (.const (.bool false)))]
def Z0dx:List J:=[oj 3 (.ld 5 true 1),oj 4 (.call 70 [3]),oj 5 (.idx 5 1 false 4 (ci 0)),oj 6 (.bin .and 5 (cu 1)),oj 7 (.bin .eql 6 (cu 1)),oj 2 (.mv 7)]
def d51:FnD:=⟨8,[.tmp 2],(.seq (.ops Z0dw) (.seq (.ops Z0dx) .ret))⟩
theorem ok51:okF Tryd.prog 51 d51=true:=by kernel_rfl
def Z09h:List J:=[oj 1 (.bx 60 0),oj 2 (.al 27 [.ints .u8 32 (List.replicate 32 0)])]
def Z09i:List J:=[oj 5 (.fa 10 1),oj 6 (.ld 5 true 5),oj 7 (.call 49 [6]),oj 3 (.al 58 [Z5]),on_ (.st 5 3 7)]
def Z09j:List J:=[oj 8 (.fa 5 1),oj 9 (.ld 5 true 8),oj 10 (.ld 5 true 3),oj 11 (.call 39 [9,10]),oj 12 (.call 50 [11]),oj 4 (.al 27 [.ints .u8 32 (List.replicate 32 0)]),on_ (.st 32 4 12)]
def Z09k:List J:=[oj 13 (.fa 0 1),oj 14 (.ld 5 true 13),oj 15 (.ld 5 true 3),oj 16 (.call 39 [14,15]),oj 17 (.call 51 [16])]
def Z09l:List J:=[oj 18 (.ia 32 1 4 (ci 31)),oj 19 (.ld 1 false 18),oj 20 (.bin .or 19 (.const (.int .u8 128))),oj 21 (.ia 32 1 4 (ci 31)),on_ (.st 1 21 20)]
def Z09m:List J:=[oj 22 (.ld 32 true 4),on_ (.st 32 2 22)]
def d21:FnD:=⟨23,[.cell 2 32 true],(.seq (.ops Z09h) (.seq (.ops Z09i) (.seq (.ops Z09j) (.seq (.seq (.ops Z09k) (.cond 17 (.ops Z09l) .skip)) (.seq (.ops Z09m) .ret)))))⟩
theorem ok21:okF Tryd.prog 21 d21=true:=by kernel_rfl
def Z0cs:List J:=[oj 0 (.mv (.const (.pointer none)))]
def Z0ct:List J:=[oj 1 (.ld 8 true (.global 1)),oj 2 (.bd [.ints .u64 8 (List.replicate 8 0),.ints .u8 128 (List.replicate 128 0),.one (.int .i64 0),.one (.int .u64 0)] [(0,8,1)]),oj 3 (.bx 138 2),oj 0 (.mv 3)]
def d45:FnD:=⟨4,[.tmp 0],(.seq (.ops Z0cs) (.seq (.ops Z0ct) .ret))⟩
theorem ok45:okF Tryd.prog 45 d45=true:=by kernel_rfl
def Zyy:List J:=[oj 0 (.mv (ci 0))]
def Zyz:List J:=[oj 1 (.mv (ci 0))]
def Zz0:List J:=[oj 3 (.conv .u64 (ci 0)),oj 4 (.un .xor 3),oj 2 (.mv 4)]
def Zz1:List J:=[oj 5 (.mv 2),oj 6 (.bin .neq 5 (cu 0))]
def Zz3:List J:=[oj 9 (.mv 1),oj 10 (.bin .add 9 (ci 1)),oj 1 (.mv 10)]
def Zxi:IC:=(.ops Zz3)
def Zz2:List J:=[oj 7 (.mv 2),oj 8 (.bin .shr 7 (cu 1)),oj 2 (.mv 8)]
def Zxp:IC:=(.seq (.seq (.ops Zz1) (.cond 6 .skip (.exit 0))) (.seq (.block 1 Zxi) (.ops Zz2)))
def Zxh:IC:=(.loop Zxp)
def Zz4:List J:=[oj 11 (.mv 1),oj 0 (.mv 11)]
def d103:FnD:=⟨12,[.tmp 0],(.seq (.ops Zyy) (.seq (.ops Zyz) (.seq (.seq (.ops Zz0) (.block 0 Zxh)) (.seq (.ops Zz4) .ret))))⟩
theorem Z06v:okF Tryd.prog 103 d103=true:=by kernel_rfl
def Z0l1:List J:=[oj 4 (.mv (.const (.slice none 0 0)))]
def Z0l2:List J:=[oj 6 (.call 103 []),oj 7 (.bin .quo 6 (ci 8)),oj 5 (.mv 7)]
def Z0l3:List J:=[oj 8 (.mv 1),oj 9 (.bin .lss 8 (ci 0)),oj 10 (.mv 9),.lg true 10 17 none [.op ⟨some 11,(some (10,false)),.mv 1⟩,.op ⟨some 12,(some (10,false)),.mv 0⟩,.op ⟨some 13,(some (10,false)),.len 12⟩,.op ⟨some 14,(some (10,false)),.mv 5⟩,.op ⟨some 15,(some (10,false)),.bin .sub 13 14⟩,.op ⟨some 16,(some (10,false)),.bin .gtr 11 15⟩] 16]
def Z0l4:List J:=[oj 4 (.mv (.const (.slice none 0 0)))]
def Z0l5:List J:=[oj 18 (.mv 0),oj 19 (.mv 1),oj 20 (.mv 1),oj 21 (.mv 5),oj 22 (.bin .add 20 21),oj 23 (.sls 1 18 (some 19) (some 22) none),oj 4 (.mv 23)]
def d97:FnD:=⟨24,[.tmp 4],(.seq (.ops Z0l1) (.seq (.ops Z0l2) (.seq (.seq (.ops Z0l3) (.cond 17 (.seq (.ops Z0l4) .ret) .skip)) (.seq (.ops Z0l5) .ret))))⟩
theorem ok97:okF Tryd.prog 97 d97=true:=by kernel_rfl
def Zzc:List J:=[oj 4 (.mv (cu 0)),oj 5 (.mv (.const (.bool false)))]
def Zzd:List J:=[oj 6 (.mv (cu 0))]
def Zze:List J:=[oj 10 (.mv 0),oj 11 (.mv 1),oj 12 (.call 97 [10,11]),oj 7 (.mv 12)]
def Zzf:List J:=[oj 13 (.mv 7),oj 14 (.len 13),oj 15 (.mv (ci 0))]
def Zzg:List J:=[oj 16 (.bin .lss 15 14)]
def Zzh:List J:=[oj 17 (.ias 1 13 15),oj 18 (.ld 1 false 17),oj 9 (.mv 18)]
def Zzi:List J:=[oj 19 (.mv 6),oj 20 (.bin .shl 19 (cu 8)),oj 21 (.mv 9),oj 22 (.conv .u64 21),oj 23 (.bin .or 20 22),oj 6 (.mv 23)]
def Zxm:IC:=(.seq (.ops Zzh) (.ops Zzi))
def Zzj:List J:=[oj 24 (.bin .add 15 (ci 1)),oj 15 (.mv 24)]
def Zxr:IC:=(.seq (.ops Zzg) (.seq (.cond 16 .skip (.exit 0)) (.seq (.block 1 Zxm) (.ops Zzj))))
def Zxl:IC:=(.loop Zxr)
def Zzk:List J:=[oj 25 (.mv 6),oj 26 (.mv 7),oj 27 (.isn true 26),oj 4 (.mv 25),oj 5 (.mv 27)]
def d105:FnD:=⟨28,[.tmp 4,.tmp 5],(.seq (.ops Zzc) (.seq (.ops Zzd) (.seq (.ops Zze) (.seq (.seq (.ops Zzf) (.block 0 Zxl)) (.seq (.ops Zzk) .ret)))))⟩
theorem Z06x:okF Tryd.prog 105 d105=true:=by kernel_rfl
def Zzn:List J:=[oj 4 (.mv (cu 0))]
def Zzo:List J:=[oj 7 (.call 103 []),oj 5 (.mv 7)]
def Zzp:List J:=[oj 8 (.mv 1),oj 9 (.conv .u64 8),oj 10 (.mv 5),oj 11 (.bin .sub 10 (ci 1)),oj 12 (.conv .u64 11),oj 13 (.bin .and 9 12),oj 6 (.mv 13)]
def Zzq:List J:=[oj 14 (.mv 0),oj 15 (.mv 6),oj 16 (.bin .shr 14 15),oj 17 (.mv 0),oj 18 (.mv 5),oj 19 (.conv .u64 18),oj 20 (.mv 6),oj 21 (.bin .sub 19 20),oj 22 (.bin .shl 17 21),oj 23 (.bin .or 16 22),oj 4 (.mv 23)]
def d107:FnD:=⟨24,[.tmp 4],(.seq (.ops Zzn) (.seq (.ops Zzo) (.seq (.ops Zzp) (.seq (.ops Zzq) .ret))))⟩
theorem Z06z:okF Tryd.prog 107 d107=true:=by kernel_rfl
def Zzl:List J:=[oj 8 (.mv (cu 0))]
def Zzm:Sch:=(.p [0] (oj 9 (.mv 0)) (.p [1] (oj 10 (.mv 1)) (.p [2] (oj 11 (.call 107 [9,10])) (.p [3] (oj 12 (.mv 0)) (.p [4] (oj 13 (.mv 2)) (.p [5] (oj 14 (.call 107 [12,13])) (.p [6] (oj 15 (.bin .xor 11 14)) (.p [7] (oj 16 (.mv 0)) (.p [8] (oj 17 (.mv 3)) (.p [9] (oj 18 (.bin .shr 16 17)) (.p [10] (oj 19 (.bin .xor 15 18)) (.p [11] (oj 8 (.mv 19)) .nil))))))))))))
def d106:FnD:=⟨20,[.tmp 8],(.seq (.ops Zzl) (.seq (.draw Zzm []) .ret))⟩
theorem Z06y:okF Tryd.prog 106 d106=true:=by kernel_rfl
def Z0l6:List J:=[oj 1 (.bx 136 0),oj 2 (.al 155 [.ints .u64 80 (List.replicate 80 0)])]
def Z0l7:List J:=[oj 3 (.al 155 [.ints .u64 80 (List.replicate 80 0)])]
def Z0l8:List J:=[oj 5 (.mv (ci 0))]
def Z0l9:List J:=[oj 6 (.bin .lss 5 (ci 80))]
def Z0la:List J:=[oj 7 (.mv 5),oj 4 (.mv 7)]
def Z0lb:List J:=[oj 8 (.mv 4),oj 9 (.bin .lss 8 (ci 16))]
def Z0lc:List J:=[oj 11 (.mv 4),oj 12 (.sla 128 1 1 none none none),oj 13 (.mv 4),oj 14 (.bin .mul (ci 8) 13),oj 15 (.call 105 [12,14]),oj 10 (.mv 15),oj 16 (.ext 10 0),oj 17 (.ext 10 1),oj 18 (.ia 80 1 3 11),on_ (.st 1 18 16)]
def Z0ld:Sch:=(.p [0] (oj 19 (.mv 4)) (.p [1] (oj 20 (.mv 4)) (.p [2] (oj 21 (.bin .sub 20 (ci 2))) (.p [3] (oj 22 (.ia 80 1 3 21)) (.p [6] (oj 25 (.mv 4)) (.p [7] (oj 26 (.bin .sub 25 (ci 7))) (.p [8] (oj 27 (.ia 80 1 3 26)) (.p [11] (oj 30 (.mv 4)) (.p [12] (oj 31 (.bin .sub 30 (ci 15))) (.p [13] (oj 32 (.ia 80 1 3 31)) (.p [17] (oj 36 (.mv 4)) (.p [18] (oj 37 (.bin .sub 36 (ci 16))) (.p [19] (oj 38 (.ia 80 1 3 37)) (.q [4] (oj 23 (.ld 1 false 22)) (.p [5] (oj 24 (.call 106 [23,(ci 19),(ci 61),(ci 6)])) (.q [9] (oj 28 (.ld 1 false 27)) (.p [10] (oj 29 (.bin .add 24 28)) (.q [14] (oj 33 (.ld 1 false 32)) (.p [15] (oj 34 (.call 106 [33,(ci 1),(ci 8),(ci 7)])) (.p [16] (oj 35 (.bin .add 29 34)) (.q [20] (oj 39 (.ld 1 false 38)) (.p [21] (oj 40 (.bin .add 35 39)) (.p [22] (oj 41 (.ia 80 1 3 19)) (.e 23 (oe (.st 1 41 40)) .nil))))))))))))))))))))))))
def Z05h:IC:=(.seq (.ops Z0la) (.seq (.seq (.ops Z0lb) (.cond 9 (.seq (.ops Z0lc) (.exit 1)) .skip)) (.draw Z0ld [23])))
def Z0le:List J:=[oj 42 (.bin .add 5 (ci 1)),oj 5 (.mv 42)]
def Z06o:IC:=(.seq (.ops Z0l9) (.seq (.cond 6 .skip (.exit 0)) (.seq (.block 1 Z05h) (.ops Z0le))))
def Z05g:IC:=(.loop Z06o)
def Z0lf:List J:=[oj 43 (.ld 80 true 3),on_ (.st 80 2 43)]
def d98:FnD:=⟨44,[.cell 2 80 true],(.seq (.ops Z0l6) (.seq (.ops Z0l7) (.seq (.seq (.ops Z0l8) (.block 0 Z05g)) (.seq (.ops Z0lf) .ret))))⟩
theorem ok98:okF Tryd.prog 98 d98=true:=by kernel_rfl
def Z0lg:List J:=[oj 8 (.mv (cu 0))]
def Z0lh:List J:=[oj 9 (.mv 0),oj 10 (.mv 1),oj 11 (.call 107 [9,10]),oj 12 (.mv 0),oj 13 (.mv 2),oj 14 (.call 107 [12,13]),oj 15 (.bin .xor 11 14),oj 16 (.mv 0),oj 17 (.mv 3),oj 18 (.call 107 [16,17]),oj 19 (.bin .xor 15 18),oj 8 (.mv 19)]
def d99:FnD:=⟨20,[.tmp 8],(.seq (.ops Z0lg) (.seq (.ops Z0lh) .ret))⟩
theorem ok99:okF Tryd.prog 99 d99=true:=by kernel_rfl
def Z0i8:List J:=[oj 2 (.bx 135 0),oj 3 (.bx 136 1),oj 4 (.al 135 [.ints .u64 8 (List.replicate 8 0)])]
def Z0i9:List J:=[oj 20 (.ld 128 true 3),oj 21 (.call 98 [20]),oj 5 (.al 155 [.ints .u64 80 (List.replicate 80 0)]),on_ (.st 80 5 21)]
def Z0ia:Sch:=(.p [0] (oj 22 (.ia 8 1 2 (ci 0))) (.p [2] (oj 24 (.ia 8 1 2 (ci 1))) (.p [4] (oj 26 (.ia 8 1 2 (ci 2))) (.p [6] (oj 28 (.ia 8 1 2 (ci 3))) (.q [1] (oj 23 (.ld 1 false 22)) (.p [8] (oj 6 (.mv 23)) (.q [3] (oj 25 (.ld 1 false 24)) (.p [9] (oj 7 (.mv 25)) (.q [5] (oj 27 (.ld 1 false 26)) (.p [10] (oj 8 (.mv 27)) (.q [7] (oj 29 (.ld 1 false 28)) (.p [11] (oj 9 (.mv 29)) .nil))))))))))))
def Z0ib:Sch:=(.p [0] (oj 30 (.ia 8 1 2 (ci 4))) (.p [2] (oj 32 (.ia 8 1 2 (ci 5))) (.p [4] (oj 34 (.ia 8 1 2 (ci 6))) (.p [6] (oj 36 (.ia 8 1 2 (ci 7))) (.q [1] (oj 31 (.ld 1 false 30)) (.p [8] (oj 10 (.mv 31)) (.q [3] (oj 33 (.ld 1 false 32)) (.p [9] (oj 11 (.mv 33)) (.q [5] (oj 35 (.ld 1 false 34)) (.p [10] (oj 12 (.mv 35)) (.q [7] (oj 37 (.ld 1 false 36)) (.p [11] (oj 13 (.mv 37)) .nil))))))))))))
def Z0ic:List J:=[oj 38 (.ld 80 true (.global 2)),oj 39 (.mv (ci 0))]
def Z0id:List J:=[oj 40 (.bin .lss 39 (ci 80))]
def Z0ie:List J:=[oj 41 (.mv 39),oj 42 (.idx 80 1 false 38 39),oj 14 (.mv 41),oj 15 (.mv 42)]
def Z0if:Sch:=(.p [0] (oj 43 (.mv 13)) (.p [1] (oj 44 (.mv 10)) (.p [2] (oj 45 (.call 99 [44,(ci 14),(ci 18),(ci 41)])) (.p [3] (oj 46 (.bin .add 43 45)) (.p [4] (oj 47 (.mv 10)) (.p [5] (oj 48 (.mv 11)) (.p [6] (oj 49 (.bin .and 47 48)) (.p [7] (oj 50 (.mv 10)) (.p [8] (oj 51 (.un .xor 50)) (.p [9] (oj 52 (.mv 12)) (.p [10] (oj 53 (.bin .and 51 52)) (.p [11] (oj 54 (.bin .xor 49 53)) (.p [12] (oj 55 (.bin .add 46 54)) (.p [13] (oj 56 (.mv 15)) (.p [14] (oj 57 (.bin .add 55 56)) (.p [15] (oj 58 (.mv 14)) (.p [16] (oj 59 (.ia 80 1 5 58)) (.q [17] (oj 60 (.ld 1 false 59)) (.p [18] (oj 61 (.bin .add 57 60)) (.p [19] (oj 16 (.mv 61)) .nil))))))))))))))))))))
def Z0ig:List J:=[oj 62 (.mv 6),oj 63 (.call 99 [62,(ci 28),(ci 34),(ci 39)]),oj 64 (.mv 6),oj 65 (.mv 7),oj 66 (.bin .and 64 65),oj 67 (.mv 6),oj 68 (.mv 8),oj 69 (.bin .and 67 68),oj 70 (.bin .xor 66 69),oj 71 (.mv 7),oj 72 (.mv 8),oj 73 (.bin .and 71 72),oj 74 (.bin .xor 70 73),oj 75 (.bin .add 63 74),oj 17 (.mv 75)]
def Z0ih:List J:=[oj 76 (.mv 12),oj 77 (.mv 11),oj 78 (.mv 10),oj 79 (.mv 9),oj 80 (.mv 16),oj 81 (.bin .add 79 80),oj 82 (.mv 8),oj 83 (.mv 7),oj 84 (.mv 6),oj 85 (.mv 16),oj 86 (.mv 17),oj 87 (.bin .add 85 86),oj 13 (.mv 76),oj 12 (.mv 77),oj 11 (.mv 78),oj 10 (.mv 81),oj 9 (.mv 82),oj 8 (.mv 83),oj 7 (.mv 84),oj 6 (.mv 87)]
def Z04v:IC:=(.seq (.ops Z0ie) (.seq (.draw Z0if []) (.seq (.ops Z0ig) (.ops Z0ih))))
def Z01g:List J:=[oj 88 (.bin .add 39 (ci 1)),oj 39 (.mv 88)]
def Z06d:IC:=(.seq (.ops Z0id) (.seq (.cond 40 .skip (.exit 0)) (.seq (.block 1 Z04v) (.ops Z01g))))
def Z04u:IC:=(.loop Z06d)
def Z01h:List J:=[oj 89 (.mv 6),oj 90 (.mv 7),oj 91 (.mv 8),oj 92 (.mv 9),oj 93 (.mv 10),oj 94 (.mv 11),oj 95 (.mv 12),oj 96 (.mv 13),oj 97 (.bd [.ints .u64 8 (List.replicate 8 0)] [(0,1,89),(1,1,90),(2,1,91),(3,1,92),(4,1,93),(5,1,94),(6,1,95),(7,1,96)]),oj 98 (.mv (ci 0))]
def Z01i:List J:=[oj 99 (.bin .lss 98 (ci 8))]
def Z01j:List J:=[oj 100 (.mv 98),oj 101 (.idx 8 1 false 97 98),oj 18 (.mv 100),oj 19 (.mv 101)]
def Z01k:List J:=[oj 102 (.mv 18),oj 103 (.ia 8 1 2 102),oj 104 (.ld 1 false 103),oj 105 (.mv 19),oj 106 (.bin .add 104 105),oj 107 (.ia 8 1 2 102),on_ (.st 1 107 106)]
def Z04x:IC:=(.seq (.ops Z01j) (.ops Z01k))
def Z01l:List J:=[oj 108 (.bin .add 98 (ci 1)),oj 98 (.mv 108)]
def Z06e:IC:=(.seq (.ops Z01i) (.seq (.cond 99 .skip (.exit 2)) (.seq (.block 3 Z04x) (.ops Z01l))))
def Z04w:IC:=(.loop Z06e)
def Z01m:List J:=[oj 109 (.ld 8 true 2),on_ (.st 8 4 109)]
def d81:FnD:=⟨110,[.cell 4 8 true],(.seq (.ops Z0i8) (.seq (.ops Z0i9) (.seq (.draw Z0ia []) (.seq (.draw Z0ib []) (.seq (.seq (.ops Z0ic) (.block 0 Z04u)) (.seq (.seq (.ops Z01h) (.block 2 Z04w)) (.seq (.ops Z01m) .ret)))))))⟩
theorem ok81:okF Tryd.prog 81 d81=true:=by kernel_rfl
def Z0cu:List J:=[oj 5 (.mv 0),oj 6 (.nilc 5),oj 7 (.fa 137 6),oj 8 (.ld 1 false 7),oj 9 (.mv 1),oj 10 (.len 9),oj 11 (.conv .u64 10),oj 12 (.bin .add 8 11),oj 13 (.nilc 5),oj 14 (.fa 137 13),on_ (.st 1 14 12)]
def Z0cv:List J:=[oj 15 (.mv 1),oj 16 (.len 15),oj 17 (.bin .gtr 16 (ci 0))]
def Z0cw:Sch:=(.p [0] (oj 18 (.mv 0)) (.p [1] (oj 19 (.nilc 18)) (.p [2] (oj 20 (.fa 8 19)) (.p [3] (oj 21 (.mv 0)) (.p [4] (oj 22 (.nilc 21)) (.p [5] (oj 23 (.fa 136 22)) (.p [8] (oj 26 (.mv 1)) (.q [6] (oj 24 (.ld 1 false 23)) (.p [7] (oj 25 (.sla 128 1 20 (some 24) none none)) (.e 9 (oi 27 (.cpy 1 25 26)) (.p [10] (oj 4 (.mv 27)) .nil)))))))))))
def Z0cx:List J:=[oj 28 (.mv 1),oj 29 (.mv 4),oj 30 (.sls 1 28 (some 29) none none),oj 1 (.mv 30)]
def Z0cy:List J:=[oj 31 (.mv 0),oj 32 (.nilc 31),oj 33 (.fa 136 32),oj 34 (.ld 1 false 33),oj 35 (.mv 4),oj 36 (.bin .add 34 35),oj 37 (.nilc 31),oj 38 (.fa 136 37),on_ (.st 1 38 36)]
def Z0cz:List J:=[oj 39 (.mv 0),oj 40 (.nilc 39),oj 41 (.fa 136 40),oj 42 (.ld 1 false 41),oj 43 (.bin .eql 42 (ci 128))]
def Z0d0:Sch:=(.p [0] (oj 44 (.mv 0)) (.p [1] (oj 45 (.mv 0)) (.p [2] (oj 46 (.nilc 45)) (.p [3] (oj 47 (.fa 0 46)) (.p [5] (oj 49 (.mv 0)) (.p [6] (oj 50 (.nilc 49)) (.p [7] (oj 51 (.fa 8 50)) (.q [4] (oj 48 (.ld 8 true 47)) (.q [8] (oj 52 (.ld 128 true 51)) (.p [9] (oj 53 (.call 81 [48,52])) (.p [10] (oj 54 (.nilc 44)) (.p [11] (oj 55 (.fa 0 54)) (.e 12 (oe (.st 8 55 53)) .nil)))))))))))))
def Z0d1:List J:=[oj 56 (.mv 0),oj 57 (.nilc 56),oj 58 (.fa 136 57),on_ (.st 1 58 (ci 0))]
def Z041:IC:=(.seq (.draw Z0cw [9]) (.seq (.ops Z0cx) (.seq (.ops Z0cy) (.seq (.ops Z0cz) (.cond 43 (.seq (.draw Z0d0 [12]) (.ops Z0d1)) .skip)))))
def Z05y:IC:=(.seq (.seq (.ops Z0cv) (.cond 17 .skip (.exit 0))) (.block 1 Z041))
def Z040:IC:=(.loop Z05y)
def d46:FnD:=⟨59,[],(.seq (.ops Z0cu) (.block 0 Z040))⟩
theorem ok46:okF Tryd.prog 46 d46=true:=by kernel_rfl
def Z0j0:List J:=[oj 2 (.mv (.const (.pointer none)))]
def Z0j1:List J:=[oj 4 (.mv 0),oj 5 (.nilc 4),oj 6 (.ld 138 true 5),oj 3 (.al 138 [.ints .u64 8 (List.replicate 8 0),.ints .u8 128 (List.replicate 128 0),.one (.int .i64 0),.one (.int .u64 0)]),on_ (.st 138 3 6)]
def Z0j2:List J:=[oj 2 (.mv 3)]
def d84:FnD:=⟨7,[.tmp 2],(.seq (.ops Z0j0) (.seq (.ops Z0j1) (.seq (.ops Z0j2) .ret)))⟩
theorem ok84:okF Tryd.prog 84 d84=true:=by kernel_rfl
def Z0ja:List J:=[oj 2 (.mv (.const (.slice none 0 0)))]
def Z0jb:List J:=[oj 5 (.call 103 []),oj 6 (.bin .quo 5 (ci 8)),oj 7 (.mks 5 1 [.one (.int .u8 0)] 6 6),oj 3 (.mv 7)]
def Z0jc:List J:=[oj 8 (.mv 3),oj 9 (.len 8),oj 10 (.bin .sub 9 (ci 1)),oj 4 (.mv 10)]
def Z0jd:List J:=[oj 11 (.mv 4),oj 12 (.bin .geq 11 (ci 0))]
def Z0jf:List J:=[oj 15 (.mv 3),oj 16 (.mv 4),oj 17 (.mv 0),oj 18 (.conv .u8 17),oj 19 (.ias 1 15 16),on_ (.st 1 19 18)]
def Z0jg:List J:=[oj 20 (.mv 0),oj 21 (.bin .shr 20 (cu 8)),oj 0 (.mv 21)]
def Z053:IC:=(.seq (.ops Z0jf) (.ops Z0jg))
def Z0je:List J:=[oj 13 (.mv 4),oj 14 (.bin .sub 13 (ci 1)),oj 4 (.mv 14)]
def Z06h:IC:=(.seq (.seq (.ops Z0jd) (.cond 12 .skip (.exit 0))) (.seq (.block 1 Z053) (.ops Z0je)))
def Z052:IC:=(.loop Z06h)
def Z0jh:List J:=[oj 22 (.mv 3),oj 2 (.mv 22)]
def d86:FnD:=⟨23,[.tmp 2],(.seq (.ops Z0ja) (.seq (.ops Z0jb) (.seq (.seq (.ops Z0jc) (.block 0 Z052)) (.seq (.ops Z0jh) .ret))))⟩
theorem ok86:okF Tryd.prog 86 d86=true:=by kernel_rfl
def Z0j3:List J:=[oj 2 (.mv (.const (.slice none 0 0)))]
def Z0j4:List J:=[oj 5 (.mv 0),oj 6 (.bin .add 5 (cu 17)),oj 7 (.bin .rem 6 (cu 128)),oj 8 (.conv .i64 7),oj 9 (.bin .sub (ci 128) 8),oj 10 (.bin .rem 9 (ci 128)),oj 3 (.mv 10)]
def Z0j5:List J:=[oj 11 (.mv 3),oj 12 (.bin .add (ci 17) 11),oj 13 (.mks 5 1 [.one (.int .u8 0)] (ci 0) 12),oj 4 (.mv 13)]
def Z0j6:List J:=[oj 14 (.mv 4),oj 15 (.bs 5 1 1 [.one (.int .u8 0)] [(0,1,(.const (.int .u8 128)))]),oj 16 (.app 5 1 1 [.one (.int .u8 0)] 14 15),oj 4 (.mv 16)]
def Z0j7:List J:=[oj 17 (.mv 4),oj 18 (.mv 3),oj 19 (.apz 5 1 1 [.one (.int .u8 0)] 17 18),oj 4 (.mv 19)]
def Z0j8:List J:=[oj 20 (.mv 4),oj 21 (.mv 0),oj 22 (.bin .shr 21 (cu 61)),oj 23 (.call 86 [22]),oj 24 (.app 5 1 1 [.one (.int .u8 0)] 20 23),oj 4 (.mv 24)]
def Z0j9:List J:=[oj 25 (.mv 4),oj 26 (.mv 0),oj 27 (.bin .shl 26 (cu 3)),oj 28 (.call 86 [27]),oj 29 (.app 5 1 1 [.one (.int .u8 0)] 25 28),oj 2 (.mv 29)]
def d85:FnD:=⟨30,[.tmp 2],(.seq (.ops Z0j3) (.seq (.ops Z0j4) (.seq (.ops Z0j5) (.seq (.ops Z0j6) (.seq (.ops Z0j7) (.seq (.ops Z0j8) (.seq (.ops Z0j9) .ret)))))))⟩
theorem ok85:okF Tryd.prog 85 d85=true:=by kernel_rfl
def Z0da:List J:=[oj 2 (.al 101 [.ints .u8 64 (List.replicate 64 0)])]
def Z0db:List J:=[oj 7 (.mv 0),oj 8 (.call 84 [7]),oj 3 (.mv 8)]
def Z0dc:List J:=[oj 9 (.mv 3),oj 10 (.mv 0),oj 11 (.nilc 10),oj 12 (.fa 137 11),oj 13 (.ld 1 false 12),oj 14 (.call 85 [13]),oj 15 (.call 46 [9,14])]
def Z0dd:List J:=[oj 4 (.al 101 [.ints .u8 64 (List.replicate 64 0)])]
def Z0de:List J:=[oj 16 (.mv 3),oj 17 (.nilc 16),oj 18 (.fa 0 17),oj 19 (.ld 8 true 18),oj 20 (.mv (ci 0))]
def Z0df:List J:=[oj 21 (.bin .lss 20 (ci 8))]
def Z0dg:List J:=[oj 22 (.mv 20),oj 23 (.idx 8 1 false 19 20),oj 5 (.mv 22),oj 6 (.mv 23)]
def Z0dh:Sch:=(.p [0] (oj 24 (.mv 5)) (.p [1] (oj 25 (.bin .mul (ci 8) 24)) (.p [2] (oj 26 (.sla 64 1 4 (some 25) none none)) (.p [3] (oj 27 (.mv 6)) (.e 4 (oi 28 (.call 86 [27])) (.e 5 (oi 29 (.cpy 1 26 28)) .nil))))))
def Z045:IC:=(.seq (.ops Z0dg) (.draw Z0dh [5]))
def Z0di:List J:=[oj 30 (.bin .add 20 (ci 1)),oj 20 (.mv 30)]
def Z060:IC:=(.seq (.ops Z0df) (.seq (.cond 21 .skip (.exit 0)) (.seq (.block 1 Z045) (.ops Z0di))))
def Z044:IC:=(.loop Z060)
def Z0dj:List J:=[oj 31 (.ld 64 true 4),on_ (.st 64 2 31)]
def d48:FnD:=⟨32,[.cell 2 64 true],(.seq (.ops Z0da) (.seq (.ops Z0db) (.seq (.ops Z0dc) (.seq (.ops Z0dd) (.seq (.seq (.ops Z0de) (.block 0 Z044)) (.seq (.ops Z0dj) .ret))))))⟩
theorem ok48:okF Tryd.prog 48 d48=true:=by kernel_rfl
def Z0f1:List J:=[oj 2 (.al 101 [.ints .u8 64 (List.replicate 64 0)])]
def Z0f2:List J:=[oj 4 (.call 45 []),oj 3 (.mv 4)]
def Z0f3:List J:=[oj 5 (.mv 3),oj 6 (.mv 0),oj 7 (.call 46 [5,6])]
def Z0f4:List J:=[oj 8 (.mv 3),oj 9 (.call 48 [8]),on_ (.st 64 2 9)]
def d58:FnD:=⟨10,[.cell 2 64 true],(.seq (.ops Z0f1) (.seq (.ops Z0f2) (.seq (.ops Z0f3) (.seq (.ops Z0f4) .ret))))⟩
theorem ok58:okF Tryd.prog 58 d58=true:=by kernel_rfl
def Z0f5:List J:=[oj 1 (.bx 26 0),oj 2 (.al 63 [.ints .u8 32 (List.replicate 32 0)])]
def Z0f6:List J:=[oj 3 (.ia 32 1 1 (ci 0)),oj 4 (.ld 1 false 3),oj 5 (.bin .andNot 4 (.const (.int .u8 7))),oj 6 (.ia 32 1 1 (ci 0)),on_ (.st 1 6 5)]
def Z0f7:List J:=[oj 7 (.ia 32 1 1 (ci 31)),oj 8 (.ld 1 false 7),oj 9 (.bin .and 8 (.const (.int .u8 127))),oj 10 (.bin .or 9 (.const (.int .u8 64))),oj 11 (.ia 32 1 1 (ci 31)),on_ (.st 1 11 10)]
def Z0f8:List J:=[oj 12 (.ld 32 true 1),on_ (.st 32 2 12)]
def d59:FnD:=⟨13,[.cell 2 32 true],(.seq (.ops Z0f5) (.seq (.ops Z0f6) (.seq (.ops Z0f7) (.seq (.ops Z0f8) .ret))))⟩
theorem ok59:okF Tryd.prog 59 d59=true:=by kernel_rfl
def Z09z:List J:=[oj 1 (.bx 38 0),oj 2 (.al 63 [.ints .u8 32 (List.replicate 32 0)]),oj 3 (.mv (.const (.slice none 0 0)))]
def Z0a0:List J:=[oj 5 (.sla 32 1 1 none none none),oj 6 (.call 58 [5]),oj 4 (.al 101 [.ints .u8 64 (List.replicate 64 0)]),on_ (.st 64 4 6)]
def Z0a1:Sch:=(.p [0] (oj 7 (.sla 64 1 4 none (some (ci 32)) none)) (.p [1] (oj 8 (.s2a 32 7)) (.p [4] (oj 11 (.sla 64 1 4 (some (ci 32)) none none)) (.q [2] (oj 9 (.ld 32 true 8)) (.p [3] (oj 10 (.call 59 [9])) (.e 5 (oe (.st 32 2 10)) (.p [6] (oj 3 (.mv 11)) .nil)))))))
def d24:FnD:=⟨12,[.cell 2 32 true,.tmp 3],(.seq (.ops Z09z) (.seq (.ops Z0a0) (.seq (.draw Z0a1 [5]) .ret)))⟩
theorem ok24:okF Tryd.prog 24 d24=true:=by kernel_rfl
def Z0as:List J:=[oj 1 (.bx 26 0),oj 2 (.al 58 [Z5])]
def Z0at:List J:=[oj 3 (.al 58 [Z5])]
def Z0au:List J:=[oj 8 (.ld 32 true 1),oj 9 (.mv (ci 0))]
def Z0av:List J:=[oj 10 (.bin .lss 9 (ci 32))]
def Z0aw:List J:=[oj 11 (.mv 9),oj 12 (.idx 32 1 false 8 9),oj 4 (.mv 11),oj 5 (.mv 12)]
def Z0ax:List J:=[oj 13 (.mv 4),oj 14 (.bin .eql 13 (ci 31))]
def Z0ay:List J:=[oj 15 (.mv 5),oj 16 (.bin .and 15 (.const (.int .u8 127))),oj 5 (.mv 16)]
def Z0az:List J:=[oj 17 (.mv 4),oj 18 (.bin .mul (ci 8) 17),oj 19 (.bin .quo 18 (ci 51)),oj 20 (.mv 4),oj 21 (.bin .mul (ci 8) 20),oj 22 (.bin .rem 21 (ci 51)),oj 6 (.mv 19),oj 7 (.mv 22)]
def Z0b0:Sch:=(.p [0] (oj 23 (.mv 6)) (.p [1] (oj 24 (.ia 5 1 3 23)) (.p [3] (oj 26 (.mv 5)) (.p [4] (oj 27 (.conv .u64 26)) (.p [5] (oj 28 (.mv 7)) (.p [6] (oj 29 (.bin .shl 27 28)) (.p [7] (oj 30 (.bin .and 29 (cu 2251799813685247))) (.q [2] (oj 25 (.ld 1 false 24)) (.p [8] (oj 31 (.bin .or 25 30)) (.p [9] (oj 32 (.ia 5 1 3 23)) (.e 10 (oe (.st 1 32 31)) .nil)))))))))))
def Z0b1:List J:=[oj 33 (.mv 7),oj 34 (.bin .gtr 33 (ci 43)),oj 35 (.mv 34),.lg false 35 38 none [.op ⟨some 36,(some (35,true)),.mv 6⟩,.op ⟨some 37,(some (35,true)),.bin .lss 36 (ci 4)⟩] 37]
def Z00f:Sch:=(.p [0] (oj 39 (.mv 6)) (.p [1] (oj 40 (.bin .add 39 (ci 1))) (.p [2] (oj 41 (.ia 5 1 3 40)) (.p [4] (oj 43 (.mv 5)) (.p [5] (oj 44 (.conv .u64 43)) (.p [6] (oj 45 (.mv 7)) (.p [7] (oj 46 (.bin .sub (ci 51) 45)) (.p [8] (oj 47 (.bin .shr 44 46)) (.q [3] (oj 42 (.ld 1 false 41)) (.p [9] (oj 48 (.bin .or 42 47)) (.p [10] (oj 49 (.ia 5 1 3 40)) (.e 11 (oe (.st 1 49 48)) .nil))))))))))))
def Z03k:IC:=(.seq (.ops Z0aw) (.seq (.seq (.ops Z0ax) (.cond 14 (.ops Z0ay) .skip)) (.seq (.ops Z0az) (.seq (.draw Z0b0 [10]) (.seq (.ops Z0b1) (.cond 38 (.draw Z00f [11]) .skip))))))
def Z00g:List J:=[oj 50 (.bin .add 9 (ci 1)),oj 9 (.mv 50)]
def Z05q:IC:=(.seq (.ops Z0av) (.seq (.cond 10 .skip (.exit 0)) (.seq (.block 1 Z03k) (.ops Z00g))))
def Z03j:IC:=(.loop Z05q)
def Z00h:List J:=[oj 51 (.ld 5 true 3),oj 52 (.call 70 [51]),on_ (.st 5 2 52)]
def d33:FnD:=⟨53,[.cell 2 5 true],(.seq (.ops Z0as) (.seq (.ops Z0at) (.seq (.seq (.ops Z0au) (.block 0 Z03j)) (.seq (.ops Z00h) .ret))))⟩
theorem ok33:okF Tryd.prog 33 d33=true:=by kernel_rfl
def Z0b4:List J:=[oj 0 (.al 58 [Z5])]
def Z0b5:List J:=[oj 1 (.bd [Z5] [(0,1,(cu 1))]),on_ (.st 5 0 1)]
def d35:FnD:=⟨2,[.cell 0 5 true],(.seq (.ops Z0b4) (.seq (.ops Z0b5) .ret))⟩
theorem ok35:okF Tryd.prog 35 d35=true:=by kernel_rfl
def Z0dy:List J:=[oj 0 (.al 60 [Z5,Z5,Z5,Z5])]
def Z0dz:List J:=[oj 5 (.bd [.ints .u8 32 (List.replicate 32 0)] [(0,1,(.const (.int .u8 26))),(1,1,(.const (.int .u8 213))),(2,1,(.const (.int .u8 37))),(3,1,(.const (.int .u8 143))),(4,1,(.const (.int .u8 96))),(5,1,(.const (.int .u8 45))),(6,1,(.const (.int .u8 86))),(7,1,(.const (.int .u8 201))),(8,1,(.const (.int .u8 178))),(9,1,(.const (.int .u8 167))),(10,1,(.const (.int .u8 37))),(11,1,(.const (.int .u8 149))),(12,1,(.const (.int .u8 96))),(13,1,(.const (.int .u8 199))),(14,1,(.const (.int .u8 44))),(15,1,(.const (.int .u8 105))),(16,1,(.const (.int .u8 92))),(17,1,(.const (.int .u8 220))),(18,1,(.const (.int .u8 214))),(19,1,(.const (.int .u8 253))),(20,1,(.const (.int .u8 49))),(21,1,(.const (.int .u8 226))),(22,1,(.const (.int .u8 164))),(23,1,(.const (.int .u8 192))),(24,1,(.const (.int .u8 254))),(25,1,(.const (.int .u8 83))),(26,1,(.const (.int .u8 110))),(27,1,(.const (.int .u8 205))),(28,1,(.const (.int .u8 211))),(29,1,(.const (.int .u8 54))),(30,1,(.const (.int .u8 105))),(31,1,(.const (.int .u8 33)))]),oj 6 (.call 33 [5]),oj 1 (.al 58 [Z5]),on_ (.st 5 1 6)]
def Z0e0:List J:=[oj 7 (.bd [.ints .u8 32 (List.replicate 32 0)] [(0,1,(.const (.int .u8 88)))]),oj 2 (.al 26 [.ints .u8 32 (List.replicate 32 0)]),on_ (.st 32 2 7)]
def Z0e1:List J:=[oj 8 (.mv (ci 0))]
def Z0e2:List J:=[oj 9 (.bin .lss 8 (ci 31))]
def Z0e3:List J:=[oj 10 (.mv 8),oj 3 (.mv 10)]
def Z0e4:List J:=[oj 11 (.mv 3),oj 12 (.bin .add 11 (ci 1)),oj 13 (.ia 32 1 2 12),on_ (.st 1 13 (.const (.int .u8 102)))]
def Z049:IC:=(.seq (.ops Z0e3) (.ops Z0e4))
def Z0e5:List J:=[oj 14 (.bin .add 8 (ci 1)),oj 8 (.mv 14)]
def Z062:IC:=(.seq (.ops Z0e2) (.seq (.cond 9 .skip (.exit 0)) (.seq (.block 1 Z049) (.ops Z0e5))))
def Z048:IC:=(.loop Z062)
def Z0e6:List J:=[oj 15 (.ld 32 true 2),oj 16 (.call 33 [15]),oj 4 (.al 58 [Z5]),on_ (.st 5 4 16)]
def Z0e7:Sch:=(.p [2] (oj 19 (.call 35 [])) (.q [0] (oj 17 (.ld 5 true 1)) (.q [1] (oj 18 (.ld 5 true 4)) (.q [3] (oj 20 (.ld 5 true 1)) (.q [4] (oj 21 (.ld 5 true 4)) (.p [5] (oj 22 (.call 39 [20,21])) (.p [6] (oj 23 (.bd [Z5,Z5,Z5,Z5] [(0,5,17),(5,5,18),(10,5,19),(15,5,22)])) (.e 7 (oe (.st 20 0 23)) .nil))))))))
def d52:FnD:=⟨24,[.cell 0 20 true],(.seq (.ops Z0dy) (.seq (.ops Z0dz) (.seq (.ops Z0e0) (.seq (.seq (.ops Z0e1) (.block 0 Z048)) (.seq (.ops Z0e6) (.seq (.draw Z0e7 [7]) .ret))))))⟩
theorem ok52:okF Tryd.prog 52 d52=true:=by kernel_rfl
def Z0eh:List J:=[oj 0 (.al 60 [Z5,Z5,Z5,Z5])]
def Z0ei:List J:=[oj 1 (.call 35 []),oj 2 (.call 35 []),oj 3 (.bd [Z5,Z5,Z5,Z5] [(5,5,1),(10,5,2)]),on_ (.st 20 0 3)]
def d54:FnD:=⟨4,[.cell 0 20 true],(.seq (.ops Z0eh) (.seq (.ops Z0ei) .ret))⟩
theorem ok54:okF Tryd.prog 54 d54=true:=by kernel_rfl
def Z0bi:List J:=[oj 2 (.bx 58 0),oj 3 (.bx 58 1),oj 4 (.al 58 [Z5])]
def Z0bj:Sch:=(.q [0] (oj 6 (.ld 5 true 2)) (.p [1] (oj 7 (.call 76 [6])) (.q [2] (oj 8 (.ld 5 true 3)) (.p [3] (oj 9 (.call 76 [8])) (.e 4 (oe (.st 5 2 7)) (.e 5 (oe (.st 5 3 9)) .nil))))))
def Z0bk:List J:=[oj 10 (.mv (ci 0))]
def Z0bl:List J:=[oj 11 (.bin .lss 10 (ci 5))]
def Z0bm:List J:=[oj 12 (.mv 10),oj 5 (.mv 12)]
def Z0bn:Sch:=(.p [0] (oj 13 (.mv 5)) (.p [1] (oj 14 (.ia 5 1 2 13)) (.p [3] (oj 16 (.mv 5)) (.p [4] (oj 17 (.ia 5 1 3 16)) (.q [2] (oj 15 (.ld 1 false 14)) (.q [5] (oj 18 (.ld 1 false 17)) (.p [6] (oj 19 (.bin .add 15 18)) (.p [7] (oj 20 (.ia 5 1 2 13)) (.e 8 (oe (.st 1 20 19)) .nil)))))))))
def Z03n:IC:=(.seq (.ops Z0bm) (.draw Z0bn [8]))
def Z0bo:List J:=[oj 21 (.bin .add 10 (ci 1)),oj 10 (.mv 21)]
def Z05r:IC:=(.seq (.ops Z0bl) (.seq (.cond 11 .skip (.exit 0)) (.seq (.block 1 Z03n) (.ops Z0bo))))
def Z03m:IC:=(.loop Z05r)
def Z0bp:List J:=[oj 22 (.ld 5 true 2),oj 23 (.call 70 [22]),on_ (.st 5 4 23)]
def d38:FnD:=⟨24,[.cell 4 5 true],(.seq (.ops Z0bi) (.seq (.draw Z0bj [4,5]) (.seq (.seq (.ops Z0bk) (.block 0 Z03m)) (.seq (.ops Z0bp) .ret))))⟩
theorem ok38:okF Tryd.prog 38 d38=true:=by kernel_rfl
def Z0c4:List J:=[oj 1 (.bx 58 0),oj 2 (.al 58 [Z5])]
def Z0c5:List J:=[oj 5 (.ld 5 true 1),oj 6 (.call 70 [5]),on_ (.st 5 1 6)]
def Z0c6:List J:=[oj 7 (.ia 5 1 1 (ci 0)),oj 8 (.ld 1 false 7),oj 9 (.bin .sub (cu 4503599627370458) 8),oj 10 (.bd [Z5] [(0,1,9)]),oj 3 (.al 58 [Z5]),on_ (.st 5 3 10)]
def Z0c7:List J:=[oj 4 (.mv (ci 1))]
def Z0c8:List J:=[oj 11 (.mv 4),oj 12 (.bin .lss 11 (ci 5))]
def Z0ca:List J:=[oj 15 (.mv 4),oj 16 (.mv 4),oj 17 (.ia 5 1 1 16),oj 18 (.ld 1 false 17),oj 19 (.bin .sub (cu 4503599627370494) 18),oj 20 (.ia 5 1 3 15),on_ (.st 1 20 19)]
def Z03v:IC:=(.ops Z0ca)
def Z0c9:List J:=[oj 13 (.mv 4),oj 14 (.bin .add 13 (ci 1)),oj 4 (.mv 14)]
def Z05v:IC:=(.seq (.seq (.ops Z0c8) (.cond 12 .skip (.exit 0))) (.seq (.block 1 Z03v) (.ops Z0c9)))
def Z03u:IC:=(.loop Z05v)
def Z0cb:List J:=[oj 21 (.ld 5 true 3),oj 22 (.call 70 [21]),on_ (.st 5 2 22)]
def d42:FnD:=⟨23,[.cell 2 5 true],(.seq (.ops Z0c4) (.seq (.ops Z0c5) (.seq (.ops Z0c6) (.seq (.seq (.ops Z0c7) (.block 0 Z03u)) (.seq (.ops Z0cb) .ret)))))⟩
theorem ok42:okF Tryd.prog 42 d42=true:=by kernel_rfl
def Z0bg:List J:=[oj 2 (.bx 58 0),oj 3 (.bx 58 1),oj 4 (.al 58 [Z5])]
def Z0bh:Sch:=(.q [0] (oj 5 (.ld 5 true 2)) (.q [1] (oj 6 (.ld 5 true 3)) (.p [2] (oj 7 (.call 42 [6])) (.p [3] (oj 8 (.call 38 [5,7])) (.e 4 (oe (.st 5 4 8)) .nil)))))
def d37:FnD:=⟨9,[.cell 4 5 true],(.seq (.ops Z0bg) (.seq (.draw Z0bh [4]) .ret))⟩
theorem ok37:okF Tryd.prog 37 d37=true:=by kernel_rfl
def Z0ji:List J:=[oj 4 (.bx 58 0),oj 5 (.bx 58 1),oj 6 (.bx 58 2),oj 7 (.bx 58 3),oj 8 (.al 60 [Z5,Z5,Z5,Z5])]
def Z0jj:Sch:=(.q [0] (oj 9 (.ld 5 true 4)) (.q [1] (oj 10 (.ld 5 true 5)) (.p [2] (oj 11 (.call 39 [9,10])) (.q [3] (oj 12 (.ld 5 true 6)) (.q [4] (oj 13 (.ld 5 true 7)) (.p [5] (oj 14 (.call 39 [12,13])) (.q [6] (oj 15 (.ld 5 true 5)) (.q [7] (oj 16 (.ld 5 true 6)) (.p [8] (oj 17 (.call 39 [15,16])) (.q [9] (oj 18 (.ld 5 true 4)) (.q [10] (oj 19 (.ld 5 true 7)) (.p [11] (oj 20 (.call 39 [18,19])) (.p [12] (oj 21 (.bd [Z5,Z5,Z5,Z5] [(0,5,11),(5,5,14),(10,5,17),(15,5,20)])) (.e 13 (oe (.st 20 8 21)) .nil))))))))))))))
def d87:FnD:=⟨22,[.cell 8 20 true],(.seq (.ops Z0ji) (.seq (.draw Z0jj [13]) .ret))⟩
theorem ok87:okF Tryd.prog 87 d87=true:=by kernel_rfl
def Z0jk:List J:=[oj 0 (.al 58 [Z5])]
def Z0jl:List J:=[oj 1 (.bd [Z5] [(0,1,(cu 1859910466990425)),(1,1,(cu 932731440258426)),(2,1,(cu 1072319116312658)),(3,1,(cu 1815898335770999)),(4,1,(cu 633789495995903))]),on_ (.st 5 0 1)]
def d88:FnD:=⟨2,[.cell 0 5 true],(.seq (.ops Z0jk) (.seq (.ops Z0jl) .ret))⟩
theorem ok88:okF Tryd.prog 88 d88=true:=by kernel_rfl
def Z0es:List J:=[oj 2 (.bx 60 0),oj 3 (.bx 60 1),oj 4 (.al 60 [Z5,Z5,Z5,Z5])]
def Z0et:Sch:=(.p [0] (oj 10 (.fa 5 2)) (.p [2] (oj 12 (.fa 0 2)) (.p [5] (oj 15 (.fa 5 3)) (.p [7] (oj 17 (.fa 0 3)) (.q [1] (oj 11 (.ld 5 true 10)) (.q [3] (oj 13 (.ld 5 true 12)) (.p [4] (oj 14 (.call 37 [11,13])) (.q [6] (oj 16 (.ld 5 true 15)) (.q [8] (oj 18 (.ld 5 true 17)) (.p [9] (oj 19 (.call 37 [16,18])) (.p [10] (oj 20 (.call 39 [14,19])) (.e 11 (oi 5 (.al 58 [Z5])) (.e 12 (oe (.st 5 5 20)) .nil)))))))))))))
def Z0eu:Sch:=(.p [0] (oj 21 (.fa 5 2)) (.p [2] (oj 23 (.fa 0 2)) (.p [5] (oj 26 (.fa 5 3)) (.p [7] (oj 28 (.fa 0 3)) (.q [1] (oj 22 (.ld 5 true 21)) (.q [3] (oj 24 (.ld 5 true 23)) (.p [4] (oj 25 (.call 38 [22,24])) (.q [6] (oj 27 (.ld 5 true 26)) (.q [8] (oj 29 (.ld 5 true 28)) (.p [9] (oj 30 (.call 38 [27,29])) (.p [10] (oj 31 (.call 39 [25,30])) (.e 11 (oi 6 (.al 58 [Z5])) (.e 12 (oe (.st 5 6 31)) .nil)))))))))))))
def Z0ev:List J:=[oj 32 (.call 88 []),oj 7 (.al 58 [Z5]),on_ (.st 5 7 32)]
def Z0ew:Sch:=(.p [0] (oj 33 (.fa 15 2)) (.p [4] (oj 37 (.fa 15 3)) (.q [1] (oj 34 (.ld 5 true 33)) (.q [2] (oj 35 (.ld 5 true 7)) (.p [3] (oj 36 (.call 39 [34,35])) (.q [5] (oj 38 (.ld 5 true 37)) (.p [6] (oj 39 (.call 39 [36,38])) (.e 7 (oi 8 (.al 58 [Z5])) (.e 8 (oe (.st 5 8 39)) .nil)))))))))
def Z0ex:Sch:=(.p [0] (oj 40 (.fa 10 2)) (.p [2] (oj 42 (.fa 10 2)) (.p [5] (oj 45 (.fa 10 3)) (.q [1] (oj 41 (.ld 5 true 40)) (.q [3] (oj 43 (.ld 5 true 42)) (.p [4] (oj 44 (.call 38 [41,43])) (.q [6] (oj 46 (.ld 5 true 45)) (.p [7] (oj 47 (.call 39 [44,46])) (.e 8 (oi 9 (.al 58 [Z5])) (.e 9 (oe (.st 5 9 47)) .nil))))))))))
def Z0ey:Sch:=(.q [0] (oj 48 (.ld 5 true 6)) (.q [1] (oj 49 (.ld 5 true 5)) (.p [2] (oj 50 (.call 37 [48,49])) (.q [3] (oj 51 (.ld 5 true 9)) (.q [4] (oj 52 (.ld 5 true 8)) (.p [5] (oj 53 (.call 37 [51,52])) (.q [6] (oj 54 (.ld 5 true 9)) (.q [7] (oj 55 (.ld 5 true 8)) (.p [8] (oj 56 (.call 38 [54,55])) (.q [9] (oj 57 (.ld 5 true 6)) (.q [10] (oj 58 (.ld 5 true 5)) (.p [11] (oj 59 (.call 38 [57,58])) (.p [12] (oj 60 (.call 87 [50,53,56,59])) (.e 13 (oe (.st 20 4 60)) .nil))))))))))))))
def d56:FnD:=⟨61,[.cell 4 20 true],(.seq (.ops Z0es) (.seq (.draw Z0et [12]) (.seq (.draw Z0eu [12]) (.seq (.ops Z0ev) (.seq (.draw Z0ew [8]) (.seq (.draw Z0ex [9]) (.seq (.draw Z0ey [13]) .ret)))))))⟩
theorem ok56:okF Tryd.prog 56 d56=true:=by kernel_rfl
def Z0e8:List J:=[oj 1 (.bx 60 0),oj 2 (.al 105 [.rows 20 16 (fun _=>cells [Z5,Z5,Z5,Z5])])]
def Z0e9:List J:=[oj 3 (.al 105 [.rows 20 16 (fun _=>cells [Z5,Z5,Z5,Z5])])]
def Z0ea:List J:=[oj 5 (.call 54 []),oj 6 (.ia 16 20 3 (ci 0)),on_ (.st 20 6 5)]
def Z0eb:List J:=[oj 7 (.mv (ci 0))]
def Z0ec:List J:=[oj 8 (.bin .lss 7 (ci 15))]
def Z0ed:List J:=[oj 9 (.mv 7),oj 4 (.mv 9)]
def Z0ee:Sch:=(.p [0] (oj 10 (.mv 4)) (.p [1] (oj 11 (.bin .add 10 (ci 1))) (.p [2] (oj 12 (.mv 4)) (.p [3] (oj 13 (.ia 16 20 3 12)) (.q [4] (oj 14 (.ld 20 true 13)) (.q [5] (oj 15 (.ld 20 true 1)) (.p [6] (oj 16 (.call 56 [14,15])) (.p [7] (oj 17 (.ia 16 20 3 11)) (.e 8 (oe (.st 20 17 16)) .nil)))))))))
def Z04b:IC:=(.seq (.ops Z0ed) (.draw Z0ee [8]))
def Z0ef:List J:=[oj 18 (.bin .add 7 (ci 1)),oj 7 (.mv 18)]
def Z063:IC:=(.seq (.ops Z0ec) (.seq (.cond 8 .skip (.exit 0)) (.seq (.block 1 Z04b) (.ops Z0ef))))
def Z04a:IC:=(.loop Z063)
def Z0eg:List J:=[oj 19 (.ld 320 true 3),on_ (.st 320 2 19)]
def d53:FnD:=⟨20,[.cell 2 320 true],(.seq (.ops Z0e8) (.seq (.ops Z0e9) (.seq (.ops Z0ea) (.seq (.seq (.ops Z0eb) (.block 0 Z04a)) (.seq (.ops Z0eg) .ret)))))⟩
theorem ok53:okF Tryd.prog 53 d53=true:=by kernel_rfl
def Z0ej:List J:=[oj 1 (.bx 60 0),oj 2 (.al 60 [Z5,Z5,Z5,Z5])]
def Z0ek:List J:=[oj 10 (.fa 0 1),oj 11 (.ld 5 true 10),oj 12 (.call 34 [11]),oj 3 (.al 58 [Z5]),on_ (.st 5 3 12)]
def Z0el:List J:=[oj 13 (.fa 5 1),oj 14 (.ld 5 true 13),oj 15 (.call 34 [14]),oj 4 (.al 58 [Z5]),on_ (.st 5 4 15)]
def Z0em:List J:=[oj 16 (.fa 10 1),oj 17 (.ld 5 true 16),oj 18 (.call 34 [17]),oj 5 (.al 58 [Z5]),on_ (.st 5 5 18)]
def Z0en:List J:=[oj 19 (.ld 5 true 3),oj 20 (.ld 5 true 4),oj 21 (.call 38 [19,20]),oj 6 (.al 58 [Z5]),on_ (.st 5 6 21)]
def Z0eo:Sch:=(.p [1] (oj 23 (.fa 0 1)) (.p [3] (oj 25 (.fa 5 1)) (.q [0] (oj 22 (.ld 5 true 6)) (.q [2] (oj 24 (.ld 5 true 23)) (.q [4] (oj 26 (.ld 5 true 25)) (.p [5] (oj 27 (.call 38 [24,26])) (.p [6] (oj 28 (.call 34 [27])) (.p [7] (oj 29 (.call 37 [22,28])) (.e 8 (oi 7 (.al 58 [Z5])) (.e 9 (oe (.st 5 7 29)) .nil))))))))))
def Z0ep:List J:=[oj 30 (.ld 5 true 3),oj 31 (.ld 5 true 4),oj 32 (.call 37 [30,31]),oj 8 (.al 58 [Z5]),on_ (.st 5 8 32)]
def Z0eq:Sch:=(.q [0] (oj 33 (.ld 5 true 5)) (.q [1] (oj 34 (.ld 5 true 5)) (.p [2] (oj 35 (.call 38 [33,34])) (.q [3] (oj 36 (.ld 5 true 8)) (.p [4] (oj 37 (.call 38 [35,36])) (.e 5 (oi 9 (.al 58 [Z5])) (.e 6 (oe (.st 5 9 37)) .nil)))))))
def Z0er:List J:=[oj 38 (.ld 5 true 7),oj 39 (.ld 5 true 9),oj 40 (.ld 5 true 8),oj 41 (.ld 5 true 6),oj 42 (.call 87 [38,39,40,41]),on_ (.st 20 2 42)]
def d55:FnD:=⟨43,[.cell 2 20 true],(.seq (.ops Z0ej) (.seq (.ops Z0ek) (.seq (.ops Z0el) (.seq (.ops Z0em) (.seq (.ops Z0en) (.seq (.draw Z0eo [9]) (.seq (.ops Z0ep) (.seq (.draw Z0eq [6]) (.seq (.ops Z0er) .ret)))))))))⟩
theorem ok55:okF Tryd.prog 55 d55=true:=by kernel_rfl
def Z0ez:List J:=[oj 2 (.bx 63 0),oj 4 (.mv (.const (.int .u8 0)))]
def Z0f0:List J:=[oj 5 (.mv 1),oj 6 (.bin .quo 5 (ci 2)),oj 7 (.bin .sub (ci 31) 6),oj 8 (.ia 32 1 2 7),oj 9 (.ld 1 false 8),oj 10 (.mv 1),oj 11 (.bin .rem 10 (ci 2)),oj 12 (.bin .sub (ci 1) 11),oj 13 (.bin .mul (ci 4) 12),oj 14 (.bin .shr 9 13),oj 15 (.bin .and 14 (.const (.int .u8 15))),oj 4 (.mv 15)]
def d57:FnD:=⟨16,[.tmp 4],(.seq (.ops Z0ez) (.seq (.ops Z0f0) .ret))⟩
theorem ok57:okF Tryd.prog 57 d57=true:=by kernel_rfl
def Z0f9:List J:=[oj 2 (.bx 63 0),oj 3 (.bx 60 1),oj 4 (.al 60 [Z5,Z5,Z5,Z5])]
def Z0fa:List J:=[oj 8 (.ld 20 true 3),oj 9 (.call 53 [8]),oj 5 (.al 105 [.rows 20 16 (fun _=>cells [Z5,Z5,Z5,Z5])]),on_ (.st 320 5 9)]
def Z0fb:List J:=[oj 10 (.call 54 []),oj 6 (.al 60 [Z5,Z5,Z5,Z5]),on_ (.st 20 6 10)]
def Z0fc:List J:=[oj 11 (.mv (ci 0))]
def Z0fd:List J:=[oj 12 (.bin .lss 11 (ci 64))]
def Z0fe:List J:=[oj 13 (.mv 11),oj 7 (.mv 13)]
def Z0ff:List J:=[oj 14 (.mv (ci 0))]
def Z0fg:List J:=[oj 15 (.bin .lss 14 (ci 4))]
def Z0fh:List J:=[oj 16 (.ld 20 true 6),oj 17 (.call 55 [16]),on_ (.st 20 6 17)]
def Z04f:IC:=(.ops Z0fh)
def Z0fi:List J:=[oj 18 (.bin .add 14 (ci 1)),oj 14 (.mv 18)]
def Z065:IC:=(.seq (.ops Z0fg) (.seq (.cond 15 .skip (.exit 2)) (.seq (.block 3 Z04f) (.ops Z0fi))))
def Z04e:IC:=(.loop Z065)
def Z016:Sch:=(.p [2] (oj 21 (.mv 7)) (.q [0] (oj 19 (.ld 20 true 6)) (.q [1] (oj 20 (.ld 32 true 2)) (.p [3] (oj 22 (.call 57 [20,21])) (.p [4] (oj 23 (.ia 16 20 5 22)) (.q [5] (oj 24 (.ld 20 true 23)) (.p [6] (oj 25 (.call 56 [19,24])) (.e 7 (oe (.st 20 6 25)) .nil))))))))
def Z04d:IC:=(.seq (.ops Z0fe) (.seq (.seq (.ops Z0ff) (.block 2 Z04e)) (.draw Z016 [7])))
def Z017:List J:=[oj 26 (.bin .add 11 (ci 1)),oj 11 (.mv 26)]
def Z064:IC:=(.seq (.ops Z0fd) (.seq (.cond 12 .skip (.exit 0)) (.seq (.block 1 Z04d) (.ops Z017))))
def Z04c:IC:=(.loop Z064)
def Z018:List J:=[oj 27 (.ld 20 true 6),on_ (.st 20 4 27)]
def d60:FnD:=⟨28,[.cell 4 20 true],(.seq (.ops Z0f9) (.seq (.ops Z0fa) (.seq (.ops Z0fb) (.seq (.seq (.ops Z0fc) (.block 0 Z04c)) (.seq (.ops Z018) .ret)))))⟩
theorem ok60:okF Tryd.prog 60 d60=true:=by kernel_rfl
def Z0a2:List J:=[oj 1 (.bx 63 0),oj 2 (.al 60 [Z5,Z5,Z5,Z5])]
def Z0a3:Sch:=(.p [1] (oj 4 (.call 52 [])) (.q [0] (oj 3 (.ld 32 true 1)) (.p [2] (oj 5 (.call 60 [3,4])) (.e 3 (oe (.st 20 2 5)) .nil))))
def d25:FnD:=⟨6,[.cell 2 20 true],(.seq (.ops Z0a2) (.seq (.draw Z0a3 [3]) .ret))⟩
theorem ok25:okF Tryd.prog 25 d25=true:=by kernel_rfl
def Z07c:List J:=[oj 1 (.bx 38 0),oj 2 (.al 27 [.ints .u8 32 (List.replicate 32 0)])]
def Z07d:List J:=[oj 6 (.ld 32 true 1),oj 7 (.call 24 [6]),oj 5 (.mv 7),oj 8 (.ext 5 0),oj 9 (.ext 5 1),oj 3 (.al 63 [.ints .u8 32 (List.replicate 32 0)]),on_ (.st 32 3 8),oj 4 (.mv 9)]
def Z07e:List J:=[oj 10 (.ld 32 true 3),oj 11 (.call 25 [10]),oj 12 (.call 21 [11]),on_ (.st 32 2 12)]
def d10:FnD:=⟨13,[.cell 2 32 true],(.seq (.ops Z07c) (.seq (.ops Z07d) (.seq (.ops Z07e) .ret)))⟩
theorem ok10:okF Tryd.prog 10 d10=true:=by kernel_rfl
def Z0hz:List J:=[oj 4 (.mv (cu 0)),oj 5 (.mv (.const (.bool false)))]
def Z0i0:List J:=[oj 6 (.mv (cu 0))]
def Z0i1:List J:=[oj 10 (.mv 0),oj 11 (.mv 1),oj 12 (.call 97 [10,11]),oj 7 (.mv 12)]
def Z0i2:List J:=[oj 13 (.mv 7),oj 14 (.len 13),oj 15 (.mv (ci 0))]
def Z0i3:List J:=[oj 16 (.bin .lss 15 14)]
def Z0i4:List J:=[oj 17 (.mv 15),oj 18 (.ias 1 13 15),oj 19 (.ld 1 false 18),oj 8 (.mv 17),oj 9 (.mv 19)]
def Z0i5:List J:=[oj 20 (.mv 6),oj 21 (.mv 9),oj 22 (.conv .u64 21),oj 23 (.mv 8),oj 24 (.bin .mul (ci 8) 23),oj 25 (.bin .shl 22 24),oj 26 (.bin .or 20 25),oj 6 (.mv 26)]
def Z04t:IC:=(.seq (.ops Z0i4) (.ops Z0i5))
def Z0i6:List J:=[oj 27 (.bin .add 15 (ci 1)),oj 15 (.mv 27)]
def Z06c:IC:=(.seq (.ops Z0i3) (.seq (.cond 16 .skip (.exit 0)) (.seq (.block 1 Z04t) (.ops Z0i6))))
def Z04s:IC:=(.loop Z06c)
def Z0i7:List J:=[oj 28 (.mv 6),oj 29 (.mv 7),oj 30 (.isn true 29),oj 4 (.mv 28),oj 5 (.mv 30)]
def d80:FnD:=⟨31,[.tmp 4,.tmp 5],(.seq (.ops Z0hz) (.seq (.ops Z0i0) (.seq (.ops Z0i1) (.seq (.seq (.ops Z0i2) (.block 0 Z04s)) (.seq (.ops Z0i7) .ret)))))⟩
theorem ok80:okF Tryd.prog 80 d80=true:=by kernel_rfl
def Zyd:List J:=[oj 2 (.mv (.const (.slice none 0 0)))]
def Zye:List J:=[oj 5 (.call 103 []),oj 6 (.bin .quo 5 (ci 8)),oj 7 (.mks 5 1 [.one (.int .u8 0)] 6 6),oj 3 (.mv 7)]
def Zyf:List J:=[oj 8 (.mv 3),oj 9 (.len 8),oj 10 (.mv (ci 0))]
def Zyg:List J:=[oj 11 (.bin .lss 10 9)]
def Zyh:List J:=[oj 12 (.mv 10),oj 4 (.mv 12)]
def Zyi:List J:=[oj 13 (.mv 3),oj 14 (.mv 4),oj 15 (.mv 0),oj 16 (.conv .u8 15),oj 17 (.ias 1 13 14),on_ (.st 1 17 16)]
def Zyj:List J:=[oj 18 (.mv 0),oj 19 (.bin .shr 18 (cu 8)),oj 0 (.mv 19)]
def Zxe:IC:=(.seq (.ops Zyh) (.seq (.ops Zyi) (.ops Zyj)))
def Zyk:List J:=[oj 20 (.bin .add 10 (ci 1)),oj 10 (.mv 20)]
def Zxn:IC:=(.seq (.ops Zyg) (.seq (.cond 11 .skip (.exit 0)) (.seq (.block 1 Zxe) (.ops Zyk))))
def Zxd:IC:=(.loop Zxn)
def Zyl:List J:=[oj 21 (.mv 3),oj 2 (.mv 21)]
def d100:FnD:=⟨22,[.tmp 2],(.seq (.ops Zyd) (.seq (.ops Zye) (.seq (.seq (.ops Zyf) (.block 0 Zxd)) (.seq (.ops Zyl) .ret))))⟩
theorem Z06s:okF Tryd.prog 100 d100=true:=by kernel_rfl
def Z0ii:List J:=[oj 1 (.bx 93 0),oj 2 (.al 63 [.ints .u8 32 (List.replicate 32 0)])]
def Z0ij:List J:=[oj 3 (.al 63 [.ints .u8 32 (List.replicate 32 0)])]
def Z0ik:List J:=[oj 6 (.ld 4 true 1),oj 7 (.mv (ci 0))]
def Z0il:List J:=[oj 8 (.bin .lss 7 (ci 4))]
def Z0im:List J:=[oj 9 (.mv 7),oj 10 (.idx 4 1 false 6 7),oj 4 (.mv 9),oj 5 (.mv 10)]
def Z0in:Sch:=(.p [0] (oj 11 (.mv 4)) (.p [1] (oj 12 (.bin .mul (ci 8) 11)) (.p [2] (oj 13 (.sla 32 1 3 (some 12) none none)) (.p [3] (oj 14 (.mv 5)) (.e 4 (oi 15 (.call 100 [14])) (.e 5 (oi 16 (.cpy 1 13 15)) .nil))))))
def Z04z:IC:=(.seq (.ops Z0im) (.draw Z0in [5]))
def Z0io:List J:=[oj 17 (.bin .add 7 (ci 1)),oj 7 (.mv 17)]
def Z06f:IC:=(.seq (.ops Z0il) (.seq (.cond 8 .skip (.exit 0)) (.seq (.block 1 Z04z) (.ops Z0io))))
def Z04y:IC:=(.loop Z06f)
def Z0ip:List J:=[oj 18 (.ld 32 true 3),on_ (.st 32 2 18)]
def d82:FnD:=⟨19,[.cell 2 32 true],(.seq (.ops Z0ii) (.seq (.ops Z0ij) (.seq (.seq (.ops Z0ik) (.block 0 Z04y)) (.seq (.ops Z0ip) .ret))))⟩
theorem ok82:okF Tryd.prog 82 d82=true:=by kernel_rfl
def Z0cc:List J:=[oj 2 (.bx 93 0),oj 3 (.bx 93 1),oj 4 (.al 93 [.ints .u64 4 (List.replicate 4 0)]),oj 5 (.mv (cu 0))]
def Z0cd:List J:=[oj 6 (.mv (cu 0))]
def Z0ce:List J:=[oj 8 (.mv (ci 0))]
def Z0cf:List J:=[oj 9 (.bin .lss 8 (ci 4))]
def Z0cg:List J:=[oj 10 (.mv 8),oj 7 (.mv 10)]
def Z0ch:Sch:=(.p [0] (oj 12 (.mv 7)) (.p [1] (oj 13 (.mv 7)) (.p [2] (oj 14 (.ia 4 1 2 13)) (.p [4] (oj 16 (.mv 7)) (.p [5] (oj 17 (.ia 4 1 3 16)) (.p [7] (oj 19 (.mv 6)) (.q [3] (oj 15 (.ld 1 false 14)) (.q [6] (oj 18 (.ld 1 false 17)) (.p [8] (oj 20 (.xcall 79 [15,18,19])) (.p [9] (oj 11 (.mv 20)) (.p [10] (oj 21 (.ext 11 0)) (.p [11] (oj 22 (.ext 11 1)) (.p [12] (oj 23 (.ia 4 1 2 12)) (.e 13 (oe (.st 1 23 21)) (.p [14] (oj 6 (.mv 22)) .nil)))))))))))))))
def Z03x:IC:=(.seq (.ops Z0cg) (.draw Z0ch [13]))
def Z0ci:List J:=[oj 24 (.bin .add 8 (ci 1)),oj 8 (.mv 24)]
def Z05w:IC:=(.seq (.ops Z0cf) (.seq (.cond 9 .skip (.exit 0)) (.seq (.block 1 Z03x) (.ops Z0ci))))
def Z03w:IC:=(.loop Z05w)
def Z0cj:List J:=[oj 25 (.ld 4 true 2),oj 26 (.mv 6),on_ (.st 4 4 25),oj 5 (.mv 26)]
def d43:FnD:=⟨27,[.cell 4 4 true,.tmp 5],(.seq (.ops Z0cc) (.seq (.ops Z0cd) (.seq (.seq (.ops Z0ce) (.block 0 Z03w)) (.seq (.ops Z0cj) .ret))))⟩
theorem ok43:okF Tryd.prog 43 d43=true:=by kernel_rfl
def Z0jm:List J:=[oj 2 (.bx 93 0),oj 3 (.bx 93 1),oj 4 (.al 93 [.ints .u64 4 (List.replicate 4 0)]),oj 5 (.mv (cu 0))]
def Z0jn:List J:=[oj 6 (.mv (cu 0))]
def Z0jo:List J:=[oj 8 (.mv (ci 0))]
def Z0jp:List J:=[oj 9 (.bin .lss 8 (ci 4))]
def Z0jq:List J:=[oj 10 (.mv 8),oj 7 (.mv 10)]
def Z0jr:Sch:=(.p [0] (oj 12 (.mv 7)) (.p [1] (oj 13 (.mv 7)) (.p [2] (oj 14 (.ia 4 1 2 13)) (.p [4] (oj 16 (.mv 7)) (.p [5] (oj 17 (.ia 4 1 3 16)) (.p [7] (oj 19 (.mv 6)) (.q [3] (oj 15 (.ld 1 false 14)) (.q [6] (oj 18 (.ld 1 false 17)) (.p [8] (oj 20 (.xcall 78 [15,18,19])) (.p [9] (oj 11 (.mv 20)) (.p [10] (oj 21 (.ext 11 0)) (.p [11] (oj 22 (.ext 11 1)) (.p [12] (oj 23 (.ia 4 1 2 12)) (.e 13 (oe (.st 1 23 21)) (.p [14] (oj 6 (.mv 22)) .nil)))))))))))))))
def Z055:IC:=(.seq (.ops Z0jq) (.draw Z0jr [13]))
def Z0js:List J:=[oj 24 (.bin .add 8 (ci 1)),oj 8 (.mv 24)]
def Z06i:IC:=(.seq (.ops Z0jp) (.seq (.cond 9 .skip (.exit 0)) (.seq (.block 1 Z055) (.ops Z0js))))
def Z054:IC:=(.loop Z06i)
def Z0jt:List J:=[oj 25 (.ld 4 true 2),oj 26 (.mv 6),on_ (.st 4 4 25),oj 5 (.mv 26)]
def d89:FnD:=⟨27,[.cell 4 4 true,.tmp 5],(.seq (.ops Z0jm) (.seq (.ops Z0jn) (.seq (.seq (.ops Z0jo) (.block 0 Z054)) (.seq (.ops Z0jt) .ret))))⟩
theorem ok89:okF Tryd.prog 89 d89=true:=by kernel_rfl
def Z0jw:List J:=[oj 1 (.bx 93 0),oj 2 (.al 93 [.ints .u64 4 (List.replicate 4 0)])]
def Z0jx:List J:=[oj 3 (.mv (ci 3))]
def Z0jy:List J:=[oj 4 (.mv 3),oj 5 (.bin .geq 4 (ci 0))]
def Z0k0:Sch:=(.p [0] (oj 8 (.mv 3)) (.p [1] (oj 9 (.ia 4 1 1 8)) (.p [3] (oj 11 (.mv 3)) (.p [4] (oj 12 (.ia 4 1 (.global 0) 11)) (.q [2] (oj 10 (.ld 1 false 9)) (.q [5] (oj 13 (.ld 1 false 12)) (.p [6] (oj 14 (.bin .lss 10 13)) .nil)))))))
def Z0k1:Sch:=(.p [0] (oj 15 (.mv 3)) (.p [1] (oj 16 (.ia 4 1 1 15)) (.p [3] (oj 18 (.mv 3)) (.p [4] (oj 19 (.ia 4 1 (.global 0) 18)) (.q [2] (oj 17 (.ld 1 false 16)) (.q [5] (oj 20 (.ld 1 false 19)) (.p [6] (oj 21 (.bin .gtr 17 20)) .nil)))))))
def Z059:IC:=(.seq (.seq (.draw Z0k0 []) (.cond 14 (.exit 0) .skip)) (.seq (.draw Z0k1 []) (.cond 21 (.exit 2) .skip)))
def Z0jz:List J:=[oj 6 (.mv 3),oj 7 (.bin .sub 6 (ci 1)),oj 3 (.mv 7)]
def Z06k:IC:=(.seq (.seq (.ops Z0jy) (.cond 5 .skip (.exit 2))) (.seq (.block 3 Z059) (.ops Z0jz)))
def Z058:IC:=(.loop Z06k)
def Z0k2:List J:=[oj 23 (.ld 4 true 1),oj 24 (.ld 4 true (.global 0)),oj 25 (.call 43 [23,24]),oj 22 (.mv 25),oj 26 (.ext 22 0),oj 27 (.ext 22 1),on_ (.st 4 1 26)]
def Z057:IC:=(.seq (.seq (.ops Z0jx) (.block 2 Z058)) (.ops Z0k2))
def Z06j:IC:=(.block 1 Z057)
def Z056:IC:=(.loop Z06j)
def Z0k3:List J:=[oj 28 (.ld 4 true 1),on_ (.st 4 2 28)]
def d91:FnD:=⟨29,[.cell 2 4 true],(.seq (.ops Z0jw) (.scope (.seq .lbl (.seq (.block 0 Z056) (.seq (.ops Z0k3) .ret)))))⟩
theorem ok91:okF Tryd.prog 91 d91=true:=by kernel_rfl
def Z0k4:List J:=[oj 4 (.mv (.const (.slice none 0 0)))]
def Z0k5:List J:=[oj 14 (.mv 0),oj 15 (.len 14),oj 16 (.mv 1),oj 17 (.len 16),oj 18 (.bin .add 15 17),oj 19 (.mks 56 8 [.one (.int .u64 0)] 18 18),oj 5 (.mv 19)]
def Z0k6:List J:=[oj 20 (.mv 0),oj 21 (.len 20),oj 22 (.mv (ci 0))]
def Z0k7:List J:=[oj 23 (.bin .lss 22 21)]
def Z0k8:List J:=[oj 24 (.mv 22),oj 25 (.ias 1 20 22),oj 26 (.ld 1 false 25),oj 6 (.mv 24),oj 7 (.mv 26)]
def Z0k9:List J:=[oj 8 (.mv (cu 0))]
def Z0ka:List J:=[oj 27 (.mv 1),oj 28 (.len 27),oj 29 (.mv (ci 0))]
def Z0kb:List J:=[oj 30 (.bin .lss 29 28)]
def Z0kc:List J:=[oj 31 (.mv 29),oj 32 (.ias 1 27 29),oj 33 (.ld 1 false 32),oj 9 (.mv 31),oj 10 (.mv 33)]
def Z0kd:List J:=[oj 35 (.mv 7),oj 36 (.mv 10),oj 37 (.call 96 [35,36]),oj 34 (.mv 37),oj 38 (.ext 34 0),oj 39 (.ext 34 1),oj 11 (.mv 38),oj 12 (.mv 39)]
def Z01r:List J:=[oj 41 (.mv 12),oj 42 (.mv 5),oj 43 (.mv 6),oj 44 (.mv 9),oj 45 (.bin .add 43 44),oj 46 (.ias 1 42 45),oj 47 (.ld 1 false 46),oj 48 (.xcall 78 [41,47,(cu 0)]),oj 40 (.mv 48),oj 49 (.ext 40 0),oj 50 (.ext 40 1),oj 12 (.mv 49),oj 13 (.mv 50)]
def Z01s:List J:=[oj 51 (.mv 11),oj 52 (.mv 13),oj 53 (.bin .add 51 52),oj 11 (.mv 53)]
def Z01t:List J:=[oj 55 (.mv 12),oj 56 (.mv 8),oj 57 (.xcall 78 [55,56,(cu 0)]),oj 54 (.mv 57),oj 58 (.ext 54 0),oj 59 (.ext 54 1),oj 12 (.mv 58),oj 13 (.mv 59)]
def Z01u:List J:=[oj 60 (.mv 5),oj 61 (.mv 6),oj 62 (.mv 9),oj 63 (.bin .add 61 62),oj 64 (.mv 12),oj 65 (.mv 11),oj 66 (.mv 13),oj 67 (.bin .add 65 66),oj 68 (.ias 1 60 63),on_ (.st 1 68 64),oj 8 (.mv 67)]
def Z05d:IC:=(.seq (.ops Z0kc) (.seq (.ops Z0kd) (.seq (.ops Z01r) (.seq (.ops Z01s) (.seq (.ops Z01t) (.ops Z01u))))))
def Z01v:List J:=[oj 69 (.bin .add 29 (ci 1)),oj 29 (.mv 69)]
def Z06m:IC:=(.seq (.ops Z0kb) (.seq (.cond 30 .skip (.exit 2)) (.seq (.block 3 Z05d) (.ops Z01v))))
def Z05c:IC:=(.loop Z06m)
def Z01w:List J:=[oj 70 (.mv 5),oj 71 (.mv 6),oj 72 (.mv 1),oj 73 (.len 72),oj 74 (.bin .add 71 73),oj 75 (.mv 8),oj 76 (.ias 1 70 74),on_ (.st 1 76 75)]
def Z05b:IC:=(.seq (.ops Z0k8) (.seq (.ops Z0k9) (.seq (.seq (.ops Z0ka) (.block 2 Z05c)) (.ops Z01w))))
def Z01x:List J:=[oj 77 (.bin .add 22 (ci 1)),oj 22 (.mv 77)]
def Z06l:IC:=(.seq (.ops Z0k7) (.seq (.cond 23 .skip (.exit 0)) (.seq (.block 1 Z05b) (.ops Z01x))))
def Z05a:IC:=(.loop Z06l)
def Z01y:List J:=[oj 78 (.mv 5),oj 4 (.mv 78)]
def d92:FnD:=⟨79,[.tmp 4],(.seq (.ops Z0k4) (.seq (.ops Z0k5) (.seq (.seq (.ops Z0k6) (.block 0 Z05a)) (.seq (.ops Z01y) .ret))))⟩
theorem ok92:okF Tryd.prog 92 d92=true:=by kernel_rfl
def Zym:List J:=[oj 2 (.al 93 [.ints .u64 4 (List.replicate 4 0)]),oj 3 (.mv (.const (.slice none 0 0)))]
def Zyn:List J:=[oj 4 (.al 93 [.ints .u64 4 (List.replicate 4 0)])]
def Zyo:List J:=[oj 8 (.sla 4 1 4 none none none),oj 9 (.mv 0),oj 10 (.cpy 1 8 9)]
def Zyp:List J:=[oj 11 (.ia 4 1 4 (ci 3)),oj 12 (.ld 1 false 11),oj 13 (.bin .and 12 (cu 1152921504606846975)),oj 14 (.ia 4 1 4 (ci 3)),on_ (.st 1 14 13)]
def Zyq:List J:=[oj 5 (.mv (.const (.slice none 0 0)))]
def Zyr:List J:=[oj 6 (.mv (ci 3))]
def Zys:List J:=[oj 15 (.mv 6),oj 16 (.mv 0),oj 17 (.len 16),oj 18 (.bin .lss 15 17)]
def Zyu:List J:=[oj 21 (.mv 0),oj 22 (.mv 6),oj 23 (.ias 1 21 22),oj 24 (.ld 1 false 23),oj 25 (.bin .shr 24 (cu 60)),oj 7 (.mv 25)]
def Zyv:List J:=[oj 26 (.mv 6),oj 27 (.bin .add 26 (ci 1)),oj 28 (.mv 0),oj 29 (.len 28),oj 30 (.bin .lss 27 29)]
def Zvl:List J:=[oj 31 (.mv 7),oj 32 (.mv 0),oj 33 (.mv 6),oj 34 (.bin .add 33 (ci 1)),oj 35 (.ias 1 32 34),oj 36 (.ld 1 false 35),oj 37 (.bin .shl 36 (cu 4)),oj 38 (.bin .or 31 37),oj 7 (.mv 38)]
def Zvm:List J:=[oj 39 (.mv 5),oj 40 (.mv 7),oj 41 (.bs 56 1 1 [.one (.int .u64 0)] [(0,1,40)]),oj 42 (.app 56 1 8 [.one (.int .u64 0)] 39 41),oj 5 (.mv 42)]
def Zxg:IC:=(.seq (.ops Zyu) (.seq (.seq (.ops Zyv) (.cond 30 (.ops Zvl) .skip)) (.ops Zvm)))
def Zyt:List J:=[oj 19 (.mv 6),oj 20 (.bin .add 19 (ci 1)),oj 6 (.mv 20)]
def Zxo:IC:=(.seq (.seq (.ops Zys) (.cond 18 .skip (.exit 0))) (.seq (.block 1 Zxg) (.ops Zyt)))
def Zxf:IC:=(.loop Zxo)
def Zvn:List J:=[oj 43 (.ld 4 true 4),oj 44 (.mv 5),on_ (.st 4 2 43),oj 3 (.mv 44)]
def d101:FnD:=⟨45,[.cell 2 4 true,.tmp 3],(.seq (.ops Zym) (.seq (.ops Zyn) (.seq (.ops Zyo) (.seq (.ops Zyp) (.seq (.ops Zyq) (.seq (.seq (.ops Zyr) (.block 0 Zxf)) (.seq (.ops Zvn) .ret)))))))⟩
theorem Z06t:okF Tryd.prog 101 d101=true:=by kernel_rfl
def Zyw:List J:=[oj 0 (.mv (.const (.slice none 0 0)))]
def Zyx:List J:=[oj 1 (.bs 56 2 1 [.one (.int .u64 0),.one (.int .u64 0)] [(0,1,(cu 6346243789798364141)),(1,1,(cu 1503914060200516822))]),oj 0 (.mv 1)]
def d102:FnD:=⟨2,[.tmp 0],(.seq (.ops Zyw) (.seq (.ops Zyx) .ret))⟩
theorem Z06u:okF Tryd.prog 102 d102=true:=by kernel_rfl
def Z0iq:List J:=[oj 2 (.al 93 [.ints .u64 4 (List.replicate 4 0)])]
def Z0ir:List J:=[oj 3 (.al 158 [.rows 4 2 (fun _=>cells [.ints .u64 4 (List.replicate 4 0)])])]
def Z0is:List J:=[oj 10 (.mv (ci 0))]
def Z0it:List J:=[oj 11 (.bin .lss 10 (ci 4))]
def Z0iu:List J:=[oj 12 (.mv 10),oj 4 (.mv 12)]
def Z0iv:List J:=[oj 5 (.al 93 [.ints .u64 4 (List.replicate 4 0)])]
def Z0iw:List J:=[oj 14 (.mv 0),oj 15 (.call 101 [14]),oj 13 (.mv 15),oj 16 (.ext 13 0),oj 17 (.ext 13 1),on_ (.st 4 5 16),oj 0 (.mv 17)]
def Z0ix:Sch:=(.p [0] (oj 19 (.mv 4)) (.p [1] (oj 20 (.bin .rem 19 (ci 2))) (.p [2] (oj 21 (.mv 4)) (.p [3] (oj 22 (.bin .rem 21 (ci 2))) (.p [4] (oj 23 (.ia 2 4 3 22)) (.q [5] (oj 24 (.ld 4 true 23)) (.q [6] (oj 25 (.ld 4 true 5)) (.p [7] (oj 26 (.call 89 [24,25])) (.p [8] (oj 18 (.mv 26)) (.p [9] (oj 27 (.ext 18 0)) (.p [10] (oj 28 (.ext 18 1)) (.p [11] (oj 29 (.ia 2 4 3 20)) (.e 12 (oe (.st 4 29 27)) .nil)))))))))))))
def Z0iy:List J:=[oj 30 (.mv 0),oj 31 (.call 102 []),oj 32 (.call 92 [30,31]),oj 0 (.mv 32)]
def Z051:IC:=(.seq (.ops Z0iu) (.seq (.ops Z0iv) (.seq (.ops Z0iw) (.seq (.draw Z0ix [12]) (.ops Z0iy)))))
def Z0iz:List J:=[oj 33 (.bin .add 10 (ci 1)),oj 10 (.mv 33)]
def Z06g:IC:=(.seq (.ops Z0it) (.seq (.cond 11 .skip (.exit 0)) (.seq (.block 1 Z051) (.ops Z0iz))))
def Z050:IC:=(.loop Z06g)
def Z01n:List J:=[oj 35 (.ld 4 true (.global 0)),oj 36 (.ld 4 true (.global 0)),oj 37 (.call 89 [35,36]),oj 34 (.mv 37),oj 38 (.ext 34 0),oj 39 (.ext 34 1),oj 6 (.al 93 [.ints .u64 4 (List.replicate 4 0)]),on_ (.st 4 6 38),oj 7 (.mv 39)]
def Z01o:List J:=[oj 41 (.ia 2 4 3 (ci 0)),oj 42 (.ld 4 true 41),oj 43 (.ld 4 true 6),oj 44 (.call 89 [42,43]),oj 40 (.mv 44),oj 45 (.ext 40 0),oj 46 (.ext 40 1),oj 8 (.al 93 [.ints .u64 4 (List.replicate 4 0)]),on_ (.st 4 8 45),oj 9 (.mv 46)]
def Z01p:List J:=[oj 48 (.ld 4 true 8),oj 49 (.ia 2 4 3 (ci 1)),oj 50 (.ld 4 true 49),oj 51 (.call 43 [48,50]),oj 47 (.mv 51),oj 52 (.ext 47 0),oj 53 (.ext 47 1),on_ (.st 4 8 52)]
def Z01q:List J:=[oj 54 (.ld 4 true 8),oj 55 (.call 91 [54]),on_ (.st 4 2 55)]
def d83:FnD:=⟨56,[.cell 2 4 true],(.seq (.ops Z0iq) (.seq (.ops Z0ir) (.seq (.seq (.ops Z0is) (.block 0 Z050)) (.seq (.ops Z01n) (.seq (.ops Z01o) (.seq (.ops Z01p) (.seq (.ops Z01q) .ret)))))))⟩
theorem ok83:okF Tryd.prog 83 d83=true:=by kernel_rfl
def Z0d2:List J:=[oj 1 (.bx 101 0),oj 2 (.al 63 [.ints .u8 32 (List.replicate 32 0)])]
def Z0d3:List J:=[oj 3 (.al 135 [.ints .u64 8 (List.replicate 8 0)])]
def Z0d4:List J:=[oj 5 (.mv (ci 0))]
def Z0d5:List J:=[oj 6 (.bin .lss 5 (ci 8))]
def Z0d6:List J:=[oj 7 (.mv 5),oj 4 (.mv 7)]
def Z0d7:List J:=[oj 9 (.mv 4),oj 10 (.sla 64 1 1 none none none),oj 11 (.mv 4),oj 12 (.bin .mul (ci 8) 11),oj 13 (.call 80 [10,12]),oj 8 (.mv 13),oj 14 (.ext 8 0),oj 15 (.ext 8 1),oj 16 (.ia 8 1 3 9),on_ (.st 1 16 14)]
def Z043:IC:=(.seq (.ops Z0d6) (.ops Z0d7))
def Z0d8:List J:=[oj 17 (.bin .add 5 (ci 1)),oj 5 (.mv 17)]
def Z05z:IC:=(.seq (.ops Z0d5) (.seq (.cond 6 .skip (.exit 0)) (.seq (.block 1 Z043) (.ops Z0d8))))
def Z042:IC:=(.loop Z05z)
def Z0d9:List J:=[oj 18 (.sla 8 1 3 none none none),oj 19 (.call 83 [18]),oj 20 (.call 82 [19]),on_ (.st 32 2 20)]
def d47:FnD:=⟨21,[.cell 2 32 true],(.seq (.ops Z0d2) (.seq (.ops Z0d3) (.seq (.seq (.ops Z0d4) (.block 0 Z042)) (.seq (.ops Z0d9) .ret))))⟩
theorem ok47:okF Tryd.prog 47 d47=true:=by kernel_rfl
def Z099:List J:=[oj 2 (.al 63 [.ints .u8 32 (List.replicate 32 0)])]
def Z09a:List J:=[oj 6 (.call 45 []),oj 3 (.mv 6)]
def Z09b:List J:=[oj 7 (.mv 0),oj 8 (.len 7),oj 9 (.mv (ci 0))]
def Z09c:List J:=[oj 10 (.bin .lss 9 8)]
def Z09d:List J:=[oj 11 (.ias 1 7 9),oj 12 (.ld 1 false 11),oj 5 (.mv 12)]
def Z09e:List J:=[oj 13 (.mv 3),oj 14 (.mv 5),oj 15 (.call 46 [13,14])]
def Z03e:IC:=(.seq (.ops Z09d) (.ops Z09e))
def Z09f:List J:=[oj 16 (.bin .add 9 (ci 1)),oj 9 (.mv 16)]
def Z05n:IC:=(.seq (.ops Z09c) (.seq (.cond 10 .skip (.exit 0)) (.seq (.block 1 Z03e) (.ops Z09f))))
def Z03d:IC:=(.loop Z05n)
def Z09g:List J:=[oj 17 (.mv 3),oj 18 (.call 48 [17]),oj 19 (.call 47 [18]),on_ (.st 32 2 19)]
def d20:FnD:=⟨20,[.cell 2 32 true],(.seq (.ops Z099) (.seq (.ops Z09a) (.seq (.seq (.ops Z09b) (.block 0 Z03d)) (.seq (.ops Z09g) .ret))))⟩
theorem ok20:okF Tryd.prog 20 d20=true:=by kernel_rfl
def Z0ck:List J:=[oj 1 (.bx 63 0),oj 2 (.al 93 [.ints .u64 4 (List.replicate 4 0)])]
def Z0cl:List J:=[oj 3 (.al 93 [.ints .u64 4 (List.replicate 4 0)])]
def Z0cm:List J:=[oj 5 (.mv (ci 0))]
def Z0cn:List J:=[oj 6 (.bin .lss 5 (ci 4))]
def Z0co:List J:=[oj 7 (.mv 5),oj 4 (.mv 7)]
def Z0cp:List J:=[oj 9 (.mv 4),oj 10 (.sla 32 1 1 none none none),oj 11 (.mv 4),oj 12 (.bin .mul (ci 8) 11),oj 13 (.call 80 [10,12]),oj 8 (.mv 13),oj 14 (.ext 8 0),oj 15 (.ext 8 1),oj 16 (.ia 4 1 3 9),on_ (.st 1 16 14)]
def Z03z:IC:=(.seq (.ops Z0co) (.ops Z0cp))
def Z0cq:List J:=[oj 17 (.bin .add 5 (ci 1)),oj 5 (.mv 17)]
def Z05x:IC:=(.seq (.ops Z0cn) (.seq (.cond 6 .skip (.exit 0)) (.seq (.block 1 Z03z) (.ops Z0cq))))
def Z03y:IC:=(.loop Z05x)
def Z0cr:List J:=[oj 18 (.ld 4 true 3),on_ (.st 4 2 18)]
def d44:FnD:=⟨19,[.cell 2 4 true],(.seq (.ops Z0ck) (.seq (.ops Z0cl) (.seq (.seq (.ops Z0cm) (.block 0 Z03y)) (.seq (.ops Z0cr) .ret))))⟩
theorem ok44:okF Tryd.prog 44 d44=true:=by kernel_rfl
def Z0ke:List J:=[oj 1 (.bx 63 0),oj 2 (.mv (.const (.slice none 0 0)))]
def Z0kf:List J:=[oj 4 (.ld 32 true 1),oj 5 (.call 44 [4]),oj 3 (.al 93 [.ints .u64 4 (List.replicate 4 0)]),on_ (.st 4 3 5)]
def Z0kg:List J:=[oj 6 (.sla 4 1 3 none none none),oj 2 (.mv 6)]
def d93:FnD:=⟨7,[.tmp 2],(.seq (.ops Z0ke) (.seq (.ops Z0kf) (.seq (.ops Z0kg) .ret)))⟩
theorem ok93:okF Tryd.prog 93 d93=true:=by kernel_rfl
def Z0ju:List J:=[oj 1 (.bx 63 0),oj 2 (.al 93 [.ints .u64 4 (List.replicate 4 0)])]
def Z0jv:List J:=[oj 3 (.ld 32 true 1),oj 4 (.call 93 [3]),oj 5 (.call 83 [4]),on_ (.st 4 2 5)]
def d90:FnD:=⟨6,[.cell 2 4 true],(.seq (.ops Z0ju) (.seq (.ops Z0jv) .ret))⟩
theorem ok90:okF Tryd.prog 90 d90=true:=by kernel_rfl
def Z0fj:List J:=[oj 2 (.bx 63 0),oj 3 (.bx 63 1),oj 4 (.al 63 [.ints .u8 32 (List.replicate 32 0)])]
def Z0fk:Sch:=(.q [0] (oj 8 (.ld 32 true 2)) (.p [1] (oj 9 (.call 90 [8])) (.q [2] (oj 10 (.ld 32 true 3)) (.p [3] (oj 11 (.call 90 [10])) (.p [4] (oj 12 (.call 89 [9,11])) (.p [5] (oj 7 (.mv 12)) (.p [6] (oj 13 (.ext 7 0)) (.p [7] (oj 14 (.ext 7 1)) (.e 8 (oi 5 (.al 93 [.ints .u64 4 (List.replicate 4 0)])) (.e 9 (oe (.st 4 5 13)) (.p [10] (oj 6 (.mv 14)) .nil)))))))))))
def Z0fl:List J:=[oj 15 (.ld 4 true 5),oj 16 (.call 91 [15]),oj 17 (.call 82 [16]),on_ (.st 32 4 17)]
def d61:FnD:=⟨18,[.cell 4 32 true],(.seq (.ops Z0fj) (.seq (.draw Z0fk [9]) (.seq (.ops Z0fl) .ret)))⟩
theorem ok61:okF Tryd.prog 61 d61=true:=by kernel_rfl
def Z0fm:List J:=[oj 2 (.bx 63 0),oj 3 (.bx 63 1),oj 4 (.al 63 [.ints .u8 32 (List.replicate 32 0)])]
def Z0fn:Sch:=(.q [0] (oj 5 (.ld 32 true 2)) (.q [2] (oj 7 (.ld 32 true 3)) (.e 1 (oi 6 (.call 93 [5])) (.e 3 (oi 8 (.call 93 [7])) (.e 4 (oi 9 (.call 92 [6,8])) (.e 5 (oi 10 (.call 83 [9])) (.p [6] (oj 11 (.call 82 [10])) (.e 7 (oe (.st 32 4 11)) .nil))))))))
def d62:FnD:=⟨12,[.cell 4 32 true],(.seq (.ops Z0fm) (.seq (.draw Z0fn [7]) .ret))⟩
theorem ok62:okF Tryd.prog 62 d62=true:=by kernel_rfl
def Z0a4:List J:=[oj 3 (.bx 63 0),oj 4 (.bx 63 1),oj 5 (.bx 63 2),oj 6 (.al 63 [.ints .u8 32 (List.replicate 32 0)])]
def Z0a5:Sch:=(.q [0] (oj 7 (.ld 32 true 3)) (.q [1] (oj 8 (.ld 32 true 4)) (.p [2] (oj 9 (.call 62 [7,8])) (.q [3] (oj 10 (.ld 32 true 5)) (.p [4] (oj 11 (.call 61 [9,10])) (.e 5 (oe (.st 32 6 11)) .nil))))))
def d26:FnD:=⟨12,[.cell 6 32 true],(.seq (.ops Z0a4) (.seq (.draw Z0a5 [5]) .ret))⟩
theorem ok26:okF Tryd.prog 26 d26=true:=by kernel_rfl
def Z07f:List J:=[oj 2 (.bx 38 0),oj 4 (.al 30 [.ints .u8 64 (List.replicate 64 0)])]
def Z07g:List J:=[oj 14 (.ld 32 true 2),oj 15 (.call 24 [14]),oj 13 (.mv 15),oj 16 (.ext 13 0),oj 17 (.ext 13 1),oj 5 (.al 63 [.ints .u8 32 (List.replicate 32 0)]),on_ (.st 32 5 16),oj 6 (.mv 17)]
def Z07h:List J:=[oj 18 (.ld 32 true 5),oj 19 (.call 25 [18]),oj 20 (.call 21 [19]),oj 7 (.al 27 [.ints .u8 32 (List.replicate 32 0)]),on_ (.st 32 7 20)]
def Z07i:List J:=[oj 21 (.mv 6),oj 22 (.mv 1),oj 23 (.bs 28 2 1 [.one (.slice none 0 0),.one (.slice none 0 0)] [(0,1,21),(1,1,22)]),oj 24 (.call 20 [23]),oj 8 (.al 63 [.ints .u8 32 (List.replicate 32 0)]),on_ (.st 32 8 24)]
def Z07j:List J:=[oj 25 (.ld 32 true 8),oj 26 (.call 25 [25]),oj 27 (.call 21 [26]),oj 9 (.al 27 [.ints .u8 32 (List.replicate 32 0)]),on_ (.st 32 9 27)]
def Z07k:Sch:=(.p [0] (oj 28 (.sla 32 1 9 none none none)) (.p [1] (oj 29 (.sla 32 1 7 none none none)) (.p [2] (oj 30 (.mv 1)) (.two 3 (oi 31 (.bs 28 3 1 [.one (.slice none 0 0),.one (.slice none 0 0),.one (.slice none 0 0)] [(0,1,28),(1,1,29),(2,1,30)])) (.two 4 (oi 32 (.call 20 [31])) (.e 5 (oi 10 (.al 63 [.ints .u8 32 (List.replicate 32 0)])) (.e 6 (oe (.st 32 10 32)) .nil))
  5 ⟨some 10,none,.al 63 [.ints .u8 32 (List.replicate 32 0)]⟩ (.e 4 (oi 32 (.call 20 [31])) (.e 6 (oe (.st 32 10 32)) .nil)))
  5 ⟨some 10,none,.al 63 [.ints .u8 32 (List.replicate 32 0)]⟩ (.e 3 (oi 31 (.bs 28 3 1 [.one (.slice none 0 0),.one (.slice none 0 0),.one (.slice none 0 0)] [(0,1,28),(1,1,29),(2,1,30)])) (.e 4 (oi 32 (.call 20 [31])) (.e 6 (oe (.st 32 10 32)) .nil)))))))
def Z07l:List J:=[oj 33 (.ld 32 true 10),oj 34 (.ld 32 true 5),oj 35 (.ld 32 true 8),oj 36 (.call 26 [33,34,35]),oj 11 (.al 63 [.ints .u8 32 (List.replicate 32 0)]),on_ (.st 32 11 36)]
def Z07m:List J:=[oj 12 (.al 30 [.ints .u8 64 (List.replicate 64 0)])]
def Z07n:Sch:=(.p [0] (oj 37 (.sla 64 1 12 none (some (ci 32)) none)) (.p [1] (oj 38 (.sla 32 1 9 none none none)) (.e 2 (oi 39 (.cpy 1 37 38)) .nil)))
def Z07o:Sch:=(.p [0] (oj 40 (.sla 64 1 12 (some (ci 32)) none none)) (.p [1] (oj 41 (.sla 32 1 11 none none none)) (.e 2 (oi 42 (.cpy 1 40 41)) .nil)))
def Zzr:List J:=[oj 43 (.ld 64 true 12),on_ (.st 64 4 43)]
def d11:FnD:=⟨44,[.cell 4 64 true],(.seq (.ops Z07f) (.seq (.ops Z07g) (.seq (.ops Z07h) (.seq (.ops Z07i) (.seq (.ops Z07j) (.seq (.draw Z07k [6]) (.seq (.ops Z07l) (.seq (.ops Z07m) (.seq (.draw Z07n [2]) (.seq (.draw Z07o [2]) (.seq (.ops Zzr) .ret)))))))))))⟩
theorem ok11:okF Tryd.prog 11 d11=true:=by kernel_rfl
def Z0fo:List J:=[oj 0 (.mv (.const (.pointer none)))]
def Z0fp:List J:=[oj 1 (.bd [.one (.slice none 0 0),.one (.int .i64 0)] []),oj 2 (.bx 149 1),oj 0 (.mv 2)]
def d63:FnD:=⟨3,[.tmp 0],(.seq (.ops Z0fo) (.seq (.ops Z0fp) .ret))⟩
theorem ok63:okF Tryd.prog 63 d63=true:=by kernel_rfl
def Z0kh:List J:=[oj 4 (.mv 0),oj 5 (.nilc 4),oj 6 (.fa 1 5),oj 7 (.ld 1 false 6),oj 8 (.bin .eql 7 (ci 0))]
def Z0ki:List J:=[oj 9 (.mv 0),oj 10 (.mv 0),oj 11 (.nilc 10),oj 12 (.fa 0 11),oj 13 (.ld 1 false 12),oj 14 (.mv 1),oj 15 (.app 5 1 1 [.one (.int .u8 0)] 13 14),oj 16 (.nilc 9),oj 17 (.fa 0 16),on_ (.st 1 17 15)]
def d94:FnD:=⟨18,[],(.seq (.ops Z0kh) (.cond 8 (.ops Z0ki) .skip))⟩
theorem ok94:okF Tryd.prog 94 d94=true:=by kernel_rfl
def Z0fq:List J:=[oj 4 (.mv 0),oj 5 (.mv 1),oj 6 (.call 94 [4,5])]
def d64:FnD:=⟨7,[],(.ops Z0fq)⟩
theorem ok64:okF Tryd.prog 64 d64=true:=by kernel_rfl
def Z0fr:List J:=[oj 2 (.mv (.const (.slice none 0 0)))]
def Z0fs:List J:=[oj 3 (.mv 0),oj 4 (.bin .lss 3 (ci 1)),oj 5 (.mv 4),.lg true 5 8 none [.op ⟨some 6,(some (5,false)),.mv 0⟩,.op ⟨some 7,(some (5,false)),.bin .gtr 6 (ci 255)⟩] 7]
def Z0ft:List J:=[oj 2 (.mv (.const (.slice none 0 0)))]
def Z0fu:List J:=[oj 9 (.mv 0),oj 10 (.conv .u8 9),oj 11 (.bs 5 4 1 [.one (.int .u8 0),.one (.int .u8 0),.one (.int .u8 0),.one (.int .u8 0)] [(0,1,(.const (.int .u8 70))),(1,1,(.const (.int .u8 66))),(2,1,(.const (.int .u8 1))),(3,1,10)]),oj 2 (.mv 11)]
def d65:FnD:=⟨12,[.tmp 2],(.seq (.ops Z0fr) (.seq (.seq (.ops Z0fs) (.cond 8 (.seq (.ops Z0ft) .ret) .skip)) (.seq (.ops Z0fu) .ret)))⟩
theorem ok65:okF Tryd.prog 65 d65=true:=by kernel_rfl
def Zz5:List J:=[oj 0 (.mv (ci 0))]
def Zz6:List J:=[oj 1 (.mv (ci 0))]
def Zz7:List J:=[oj 3 (.conv .u32 (ci 0)),oj 4 (.un .xor 3),oj 2 (.mv 4)]
def Zz8:List J:=[oj 5 (.mv 2),oj 6 (.bin .neq 5 (.const (.int .u32 0)))]
def Zza:List J:=[oj 9 (.mv 1),oj 10 (.bin .add 9 (ci 1)),oj 1 (.mv 10)]
def Zxk:IC:=(.ops Zza)
def Zz9:List J:=[oj 7 (.mv 2),oj 8 (.bin .shr 7 (cu 1)),oj 2 (.mv 8)]
def Zxq:IC:=(.seq (.seq (.ops Zz8) (.cond 6 .skip (.exit 0))) (.seq (.block 1 Zxk) (.ops Zz9)))
def Zxj:IC:=(.loop Zxq)
def Zzb:List J:=[oj 11 (.mv 1),oj 0 (.mv 11)]
def d104:FnD:=⟨12,[.tmp 0],(.seq (.ops Zz5) (.seq (.ops Zz6) (.seq (.seq (.ops Zz7) (.block 0 Zxj)) (.seq (.ops Zzb) .ret))))⟩
theorem Z06w:okF Tryd.prog 104 d104=true:=by kernel_rfl
def Z0kj:List J:=[oj 2 (.mv (.const (.slice none 0 0)))]
def Z0kk:List J:=[oj 5 (.call 104 []),oj 6 (.bin .quo 5 (ci 8)),oj 7 (.mks 5 1 [.one (.int .u8 0)] 6 6),oj 3 (.mv 7)]
def Z0kl:List J:=[oj 8 (.mv 3),oj 9 (.len 8),oj 10 (.bin .sub 9 (ci 1)),oj 4 (.mv 10)]
def Z0km:List J:=[oj 11 (.mv 4),oj 12 (.bin .geq 11 (ci 0))]
def Z0ko:List J:=[oj 15 (.mv 3),oj 16 (.mv 4),oj 17 (.mv 0),oj 18 (.conv .u8 17),oj 19 (.ias 1 15 16),on_ (.st 1 19 18)]
def Z0kp:List J:=[oj 20 (.mv 0),oj 21 (.bin .shr 20 (cu 8)),oj 0 (.mv 21)]
def Z05f:IC:=(.seq (.ops Z0ko) (.ops Z0kp))
def Z0kn:List J:=[oj 13 (.mv 4),oj 14 (.bin .sub 13 (ci 1)),oj 4 (.mv 14)]
def Z06n:IC:=(.seq (.seq (.ops Z0km) (.cond 12 .skip (.exit 0))) (.seq (.block 1 Z05f) (.ops Z0kn)))
def Z05e:IC:=(.loop Z06n)
def Z0kq:List J:=[oj 22 (.mv 3),oj 2 (.mv 22)]
def d95:FnD:=⟨23,[.tmp 2],(.seq (.ops Z0kj) (.seq (.ops Z0kk) (.seq (.seq (.ops Z0kl) (.block 0 Z05e)) (.seq (.ops Z0kq) .ret))))⟩
theorem ok95:okF Tryd.prog 95 d95=true:=by kernel_rfl
def Z0fv:List J:=[oj 4 (.mv 0),oj 5 (.mv 1),oj 6 (.call 95 [5]),oj 7 (.call 94 [4,6])]
def d66:FnD:=⟨8,[],(.ops Z0fv)⟩
theorem ok66:okF Tryd.prog 66 d66=true:=by kernel_rfl
def Z0fw:List J:=[oj 2 (.mv (.const (.slice none 0 0))),oj 3 (.mv (ci 0))]
def Z0fx:List J:=[oj 4 (.mv 0),oj 5 (.nilc 4),oj 6 (.fa 1 5),oj 7 (.ld 1 false 6),oj 8 (.bin .neq 7 (ci 0))]
def Z0fy:Sch:=(.p [0] (oj 9 (.mv 0)) (.p [1] (oj 10 (.nilc 9)) (.p [2] (oj 11 (.fa 1 10)) (.p [4] (oj 2 (.mv (.const (.slice none 0 0)))) (.q [3] (oj 12 (.ld 1 false 11)) (.p [5] (oj 3 (.mv 12)) .nil))))))
def Z0fz:List J:=[oj 13 (.bs 5 0 1 [] []),oj 14 (.mv 0),oj 15 (.nilc 14),oj 16 (.fa 0 15),oj 17 (.ld 1 false 16),oj 18 (.app 5 1 1 [.one (.int .u8 0)] 13 17),oj 2 (.mv 18),oj 3 (.mv (ci 0))]
def d67:FnD:=⟨19,[.tmp 2,.tmp 3],(.seq (.ops Z0fw) (.seq (.seq (.ops Z0fx) (.cond 8 (.seq (.draw Z0fy []) .ret) .skip)) (.seq (.ops Z0fz) .ret)))⟩
theorem ok67:okF Tryd.prog 67 d67=true:=by kernel_rfl
def Z0ad:List J:=[oj 1 (.bx 75 0),oj 2 (.mv (.const (.slice none 0 0)))]
def Z0ae:List J:=[oj 6 (.fa 0 1),oj 7 (.ld 1 false 6),oj 8 (.bin .lss 7 (ci 1)),oj 9 (.mv 8),.lg true 9 13 none [.op ⟨some 10,(some (9,false)),.fa 0 1⟩,.op ⟨some 11,(some (9,false)),.ld 1 false 10⟩,.op ⟨some 12,(some (9,false)),.bin .gtr 11 (ci 64)⟩] 12]
def Z0af:List J:=[oj 2 (.mv (.const (.slice none 0 0)))]
def Z0ag:List J:=[oj 14 (.call 63 []),oj 3 (.mv 14)]
def Z0ah:List J:=[oj 15 (.mv 3),oj 16 (.call 65 [(ci 11)]),oj 17 (.call 64 [15,16])]
def Z0ai:List J:=[oj 18 (.mv 3),oj 19 (.fa 0 1),oj 20 (.ld 1 false 19),oj 21 (.conv .u32 20),oj 22 (.call 66 [18,21])]
def Z0aj:List J:=[oj 23 (.mv 3),oj 24 (.fa 1 1),oj 25 (.sla 32 1 24 none none none),oj 26 (.call 64 [23,25])]
def Z0ak:List J:=[oj 28 (.mv 3),oj 29 (.call 67 [28]),oj 27 (.mv 29),oj 30 (.ext 27 0),oj 31 (.ext 27 1),oj 4 (.mv 30),oj 5 (.mv 31)]
def Z0al:List J:=[oj 32 (.mv 4),oj 2 (.mv 32)]
def d29:FnD:=⟨33,[.tmp 2],(.seq (.ops Z0ad) (.seq (.seq (.ops Z0ae) (.cond 13 (.seq (.ops Z0af) .ret) .skip)) (.seq (.ops Z0ag) (.seq (.ops Z0ah) (.seq (.ops Z0ai) (.seq (.ops Z0aj) (.seq (.ops Z0ak) (.seq (.ops Z0al) .ret))))))))⟩
theorem ok29:okF Tryd.prog 29 d29=true:=by kernel_rfl
def Z0a6:List J:=[oj 3 (.bx 38 0),oj 5 (.bx 27 2),oj 6 (.al 75 [.one (.int .i64 0),.ints .u8 32 (List.replicate 32 0),.ints .u8 64 (List.replicate 64 0)]),oj 7 (.mv (.const (.bool false)))]
def Z0a7:List J:=[oj 10 (.mv 1),oj 11 (.ld 32 true 5),oj 12 (.bd [.one (.int .i64 0),.ints .u8 32 (List.replicate 32 0),.ints .u8 64 (List.replicate 64 0)] [(0,1,10),(1,32,11)]),oj 8 (.al 75 [.one (.int .i64 0),.ints .u8 32 (List.replicate 32 0),.ints .u8 64 (List.replicate 64 0)]),on_ (.st 97 8 12)]
def Z0a8:List J:=[oj 13 (.ld 97 true 8),oj 14 (.call 29 [13]),oj 9 (.mv 14)]
def Z0a9:List J:=[oj 15 (.mv 9),oj 16 (.isn false 15)]
def Z0aa:List J:=[oj 17 (.bd [.one (.int .i64 0),.ints .u8 32 (List.replicate 32 0),.ints .u8 64 (List.replicate 64 0)] []),on_ (.st 97 6 17),oj 7 (.mv (.const (.bool false)))]
def Z0ab:List J:=[oj 18 (.ld 32 true 3),oj 19 (.mv 9),oj 20 (.call 11 [18,19]),oj 21 (.fa 33 8),on_ (.st 64 21 20)]
def Z0ac:List J:=[oj 22 (.ld 97 true 8),on_ (.st 97 6 22),oj 7 (.mv (.const (.bool true)))]
def d28:FnD:=⟨23,[.cell 6 97 true,.tmp 7],(.seq (.ops Z0a6) (.seq (.ops Z0a7) (.seq (.ops Z0a8) (.seq (.seq (.ops Z0a9) (.cond 16 (.seq (.ops Z0aa) .ret) .skip)) (.seq (.ops Z0ab) (.seq (.ops Z0ac) .ret))))))⟩
theorem ok28:okF Tryd.prog 28 d28=true:=by kernel_rfl
def Z07p:List J:=[oj 2 (.al 27 [.ints .u8 32 (List.replicate 32 0)]),oj 3 (.mv (.const (.slice none 0 0))),oj 4 (.mv (.const (.bool false)))]
def Z07q:List J:=[oj 14 (.mv 0),oj 15 (.len 14),oj 16 (.bin .gtr 15 (ci 9))]
def Z07r:List J:=[oj 17 (.mv 0),oj 18 (.sls 32 17 none (some (ci 9)) none),oj 0 (.mv 18)]
def Z07s:List J:=[oj 5 (.al 27 [.ints .u8 32 (List.replicate 32 0)])]
def Z07t:List J:=[oj 6 (.mv (.const (.slice none 0 0)))]
def Z07u:List J:=[oj 7 (.mv (.const (.slice none 0 0)))]
def Z07v:List J:=[oj 8 (.mv (.const (.bool true)))]
def Z07w:List J:=[oj 9 (.mv (ci 0))]
def Z07x:List J:=[oj 19 (.mv 9),oj 20 (.mv 0),oj 21 (.len 20),oj 22 (.bin .lss 19 21)]
def Zzs:List J:=[oj 25 (.mv 0),oj 26 (.mv 9),oj 27 (.ias 32 25 26),oj 28 (.ld 32 true 27),oj 29 (.call 10 [28]),oj 10 (.al 27 [.ints .u8 32 (List.replicate 32 0)]),on_ (.st 32 10 29)]
def Zzt:List J:=[oj 11 (.mv (ci 0))]
def Zzu:List J:=[oj 30 (.mv 11),oj 31 (.mv 7),oj 32 (.len 31),oj 33 (.bin .lss 30 32)]
def Zzw:Sch:=(.p [0] (oj 36 (.mv 8)) (.p [1] (oj 37 (.mv 36)) (.q [2,3,4,5,6,7,8] (.lg false 37 44 none [.op ⟨some 38,(some (37,true)),.mv 7⟩,.op ⟨some 39,(some (37,true)),.mv 11⟩,.op ⟨some 40,(some (37,true)),.ias 32 38 39⟩,.op ⟨some 41,(some (37,true)),.ld 32 true 40⟩,.op ⟨some 42,(some (37,true)),.ld 32 true 10⟩,.op ⟨some 43,(some (37,true)),.eqa true [(.i .u8,32)] 41 42⟩] 43) (.p [9] (oj 8 (.mv 44)) .nil))))
def Z037:IC:=(.draw Zzw [])
def Zzv:List J:=[oj 34 (.mv 11),oj 35 (.bin .add 34 (ci 1)),oj 11 (.mv 35)]
def Z05l:IC:=(.seq (.seq (.ops Zzu) (.cond 33 .skip (.exit 2))) (.seq (.block 3 Z037) (.ops Zzv)))
def Z036:IC:=(.loop Z05l)
def Zzx:List J:=[oj 45 (.mv 7),oj 46 (.ld 32 true 10),oj 47 (.bs 27 1 32 [.ints .u8 32 (List.replicate 32 0)] [(0,32,46)]),oj 48 (.app 27 32 32 [.ints .u8 32 (List.replicate 32 0)] 45 47),oj 7 (.mv 48)]
def Zzy:List J:=[oj 49 (.mv 9),oj 50 (.bin .eql 49 (ci 0))]
def Zzz:List J:=[oj 51 (.ld 32 true 10),on_ (.st 32 5 51)]
def Z000:Sch:=(.p [0] (oj 53 (.mv 0)) (.p [1] (oj 54 (.mv 9)) (.p [2] (oj 55 (.bin .sub 54 (ci 1))) (.p [3] (oj 56 (.ias 32 53 55)) (.p [5] (oj 58 (.mv 9)) (.q [4] (oj 57 (.ld 32 true 56)) (.q [6] (oj 59 (.ld 32 true 10)) (.p [7] (oj 60 (.call 28 [57,58,59])) (.p [8] (oj 52 (.mv 60)) (.p [9] (oj 61 (.ext 52 0)) (.p [10] (oj 62 (.ext 52 1)) (.e 11 (oi 12 (.al 75 [.one (.int .i64 0),.ints .u8 32 (List.replicate 32 0),.ints .u8 64 (List.replicate 64 0)])) (.e 12 (oe (.st 97 12 61)) (.p [13] (oj 13 (.mv 62)) .nil))))))))))))))
def Z001:List J:=[oj 63 (.mv 6),oj 64 (.ld 97 true 12),oj 65 (.bs 75 1 97 [.one (.int .i64 0),.ints .u8 32 (List.replicate 32 0),.ints .u8 64 (List.replicate 64 0)] [(0,97,64)]),oj 66 (.app 75 97 104 [.one (.int .i64 0),.ints .u8 32 (List.replicate 32 0),.ints .u8 64 (List.replicate 64 0)] 63 65),oj 6 (.mv 66)]
def Z035:IC:=(.seq (.ops Zzs) (.seq (.seq (.ops Zzt) (.block 2 Z036)) (.seq (.ops Zzx) (.seq (.seq (.ops Zzy) (.cond 50 (.seq (.ops Zzz) (.exit 1)) .skip)) (.seq (.draw Z000 [12]) (.ops Z001))))))
def Z07y:List J:=[oj 23 (.mv 9),oj 24 (.bin .add 23 (ci 1)),oj 9 (.mv 24)]
def Z05k:IC:=(.seq (.seq (.ops Z07x) (.cond 22 .skip (.exit 0))) (.seq (.block 1 Z035) (.ops Z07y)))
def Z034:IC:=(.loop Z05k)
def Z002:List J:=[oj 67 (.ld 32 true 5),oj 68 (.mv 6),oj 69 (.mv 8),on_ (.st 32 2 67),oj 3 (.mv 68),oj 4 (.mv 69)]
def d13:FnD:=⟨70,[.cell 2 32 true,.tmp 3,.tmp 4],(.seq (.ops Z07p) (.seq (.seq (.ops Z07q) (.cond 16 (.ops Z07r) .skip)) (.seq (.ops Z07s) (.seq (.ops Z07t) (.seq (.ops Z07u) (.seq (.ops Z07v) (.seq (.seq (.ops Z07w) (.block 0 Z034)) (.seq (.ops Z002) .ret))))))))⟩
theorem ok13:okF Tryd.prog 13 d13=true:=by kernel_rfl
def Z0aq:List J:=[oj 1 (.bx 26 0),oj 2 (.mv (.const (.bool false)))]
def Z0ar:Sch:=(.q [0] (oj 3 (.ld 32 true 1)) (.p [1] (oj 4 (.call 33 [3])) (.p [2] (oj 5 (.call 50 [4])) (.q [3] (oj 6 (.ld 32 true 1)) (.p [4] (oj 7 (.eqa false [(.i .u8,32)] 5 6)) (.p [5] (oj 2 (.mv 7)) .nil))))))
def d32:FnD:=⟨8,[.tmp 2],(.seq (.ops Z0aq) (.seq (.draw Z0ar []) .ret))⟩
theorem ok32:okF Tryd.prog 32 d32=true:=by kernel_rfl
def Z0c2:List J:=[oj 1 (.bx 58 0),oj 2 (.mv (.const (.bool false)))]
def Z0c3:List J:=[oj 3 (.ld 5 true 1),oj 4 (.call 70 [3]),oj 5 (.bd [Z5] []),oj 6 (.eqa false [(.i .u64,5)] 4 5),oj 2 (.mv 6)]
def d41:FnD:=⟨7,[.tmp 2],(.seq (.ops Z0c2) (.seq (.ops Z0c3) .ret))⟩
theorem ok41:okF Tryd.prog 41 d41=true:=by kernel_rfl
def Z0hl:List J:=[oj 2 (.bx 58 0),oj 3 (.bx 58 1),oj 4 (.mv (.const (.bool false)))]
def Z0hm:Sch:=(.q [0] (oj 5 (.ld 5 true 2)) (.p [1] (oj 6 (.call 70 [5])) (.q [2] (oj 7 (.ld 5 true 3)) (.p [3] (oj 8 (.call 70 [7])) (.p [4] (oj 9 (.eqa false [(.i .u64,5)] 6 8)) (.p [5] (oj 4 (.mv 9)) .nil))))))
def d73:FnD:=⟨10,[.tmp 4],(.seq (.ops Z0hl) (.seq (.draw Z0hm []) .ret))⟩
theorem ok73:okF Tryd.prog 73 d73=true:=by kernel_rfl
def Z0hp:List J:=[oj 4 (.bx 58 1),oj 5 (.bx 58 2),oj 6 (.al 58 [Z5])]
def Z0hq:List J:=[oj 7 (.mv 0)]
def Z0hr:List J:=[oj 8 (.ld 5 true 4),oj 9 (.call 70 [8]),on_ (.st 5 6 9)]
def Z0hs:List J:=[oj 10 (.ld 5 true 5),oj 11 (.call 70 [10]),on_ (.st 5 6 11)]
def d75:FnD:=⟨12,[.cell 6 5 true],(.seq (.ops Z0hp) (.seq (.seq (.ops Z0hq) (.cond 7 (.seq (.ops Z0hr) .ret) .skip)) (.seq (.ops Z0hs) .ret)))⟩
theorem ok75:okF Tryd.prog 75 d75=true:=by kernel_rfl
def Z0b6:List J:=[oj 2 (.bx 58 0),oj 3 (.bx 58 1),oj 4 (.al 58 [Z5]),oj 5 (.mv (.const (.bool false)))]
def Z0b7:List J:=[oj 10 (.ld 5 true 3),oj 11 (.call 41 [10])]
def Z0b8:List J:=[oj 12 (.bd [Z5] []),oj 13 (.ld 5 true 2),oj 14 (.call 41 [13]),on_ (.st 5 4 12),oj 5 (.mv 14)]
def Z0b9:Sch:=(.q [0] (oj 15 (.ld 5 true 3)) (.p [1] (oj 16 (.call 34 [15])) (.q [2] (oj 17 (.ld 5 true 3)) (.p [3] (oj 18 (.call 39 [16,17])) (.e 4 (oi 6 (.al 58 [Z5])) (.e 5 (oe (.st 5 6 18)) .nil))))))
def Z0ba:Sch:=(.q [0] (oj 19 (.ld 5 true 2)) (.q [1] (oj 20 (.ld 5 true 6)) (.p [2] (oj 21 (.call 34 [20])) (.p [3] (oj 22 (.call 39 [19,21])) (.q [4] (oj 23 (.ld 5 true 3)) (.p [5] (oj 24 (.call 39 [22,23])) (.e 6 (oi 7 (.al 58 [Z5])) (.e 7 (oe (.st 5 7 24)) .nil))))))))
def Z0bb:Sch:=(.q [0] (oj 25 (.ld 5 true 2)) (.q [1] (oj 26 (.ld 5 true 6)) (.p [2] (oj 27 (.call 39 [25,26])) (.p [4] (oj 29 (.call 72 [(.const (.int .u8 253)),(.const (.int .u8 15))])) (.q [3] (oj 28 (.ld 5 true 7)) (.p [5] (oj 30 (.call 71 [28,29])) (.p [6] (oj 31 (.call 39 [27,30])) (.e 7 (oi 8 (.al 58 [Z5])) (.e 8 (oe (.st 5 8 31)) .nil)))))))))
def Z0bc:Sch:=(.q [0] (oj 32 (.ld 5 true 3)) (.q [1] (oj 33 (.ld 5 true 8)) (.p [2] (oj 34 (.call 34 [33])) (.p [3] (oj 35 (.call 39 [32,34])) (.e 4 (oi 9 (.al 58 [Z5])) (.e 5 (oe (.st 5 9 35)) .nil))))))
def Z0be:List J:=[oj 38 (.ld 5 true 9),oj 39 (.ld 5 true 2),oj 40 (.call 73 [38,39]),oj 37 (.mv 40)]
def Z0bf:Sch:=(.q [0] (oj 42 (.ld 5 true 9)) (.q [1] (oj 43 (.ld 5 true 2)) (.p [2] (oj 44 (.call 42 [43])) (.p [3] (oj 45 (.call 73 [42,44])) (.p [4] (oj 41 (.mv 45)) .nil)))))
def Z00i:Sch:=(.p [1] (oj 47 (.call 74 [(cu 2)])) (.p [2] (oj 48 (.call 72 [(.const (.int .u8 251)),(.const (.int .u8 31))])) (.p [3] (oj 49 (.call 71 [47,48])) (.q [0] (oj 46 (.ld 5 true 8)) (.p [4] (oj 50 (.call 39 [46,49])) (.e 5 (oe (.st 5 8 50)) .nil))))))
def Z0bd:List J:=[oj 36 (.bd [Z5] []),on_ (.st 5 4 36),oj 5 (.mv (.const (.bool false)))]
def Z03l:IC:=(.seq (.ops Z0be) (.cond 37 .skip (.seq (.draw Z0bf []) (.cond 41 (.draw Z00i [5]) (.seq (.ops Z0bd) .ret)))))
def Z00j:Sch:=(.q [0] (oj 51 (.ld 5 true 8)) (.p [1] (oj 52 (.call 51 [51])) (.q [2] (oj 53 (.ld 5 true 8)) (.p [3] (oj 54 (.call 42 [53])) (.q [4] (oj 55 (.ld 5 true 8)) (.p [5] (oj 56 (.call 75 [52,54,55])) (.e 6 (oe (.st 5 4 56)) (.p [7] (oj 5 (.mv (.const (.bool true)))) .nil))))))))
def d36:FnD:=⟨57,[.cell 4 5 true,.tmp 5],(.seq (.ops Z0b6) (.seq (.seq (.ops Z0b7) (.cond 11 (.seq (.ops Z0b8) .ret) .skip)) (.seq (.draw Z0b9 [5]) (.seq (.draw Z0ba [7]) (.seq (.draw Z0bb [8]) (.seq (.seq (.draw Z0bc [5]) (.block 0 Z03l)) (.seq (.draw Z00j [6]) .ret)))))))⟩
theorem ok36:okF Tryd.prog 36 d36=true:=by kernel_rfl
def Z0c0:List J:=[oj 0 (.al 58 [Z5])]
def Z0c1:List J:=[oj 1 (.bd [Z5] [(0,1,(cu 929955233495203)),(1,1,(cu 466365720129213)),(2,1,(cu 1662059464998953)),(3,1,(cu 2033849074728123)),(4,1,(cu 1442794654840575))]),on_ (.st 5 0 1)]
def d40:FnD:=⟨2,[.cell 0 5 true],(.seq (.ops Z0c0) (.seq (.ops Z0c1) .ret))⟩
theorem ok40:okF Tryd.prog 40 d40=true:=by kernel_rfl
def Z08w:List J:=[oj 1 (.bx 27 0),oj 2 (.al 60 [Z5,Z5,Z5,Z5]),oj 3 (.mv (.const (.bool false)))]
def Z08x:List J:=[oj 10 (.ia 32 1 1 (ci 31)),oj 11 (.ld 1 false 10),oj 12 (.bin .shr 11 (cu 7)),oj 13 (.bin .eql 12 (.const (.int .u8 1))),oj 4 (.mv 13)]
def Z08y:List J:=[oj 14 (.ia 32 1 1 (ci 31)),oj 15 (.ld 1 false 14),oj 16 (.bin .and 15 (.const (.int .u8 127))),oj 17 (.ia 32 1 1 (ci 31)),on_ (.st 1 17 16)]
def Z08z:List J:=[oj 18 (.ld 32 true 1),oj 19 (.call 32 [18]),oj 20 (.un .not 19)]
def Z090:List J:=[oj 21 (.bd [Z5,Z5,Z5,Z5] []),on_ (.st 20 2 21),oj 3 (.mv (.const (.bool false)))]
def Z091:List J:=[oj 22 (.ld 32 true 1),oj 23 (.call 33 [22]),oj 5 (.al 58 [Z5]),on_ (.st 5 5 23)]
def Z092:List J:=[oj 24 (.ld 5 true 5),oj 25 (.call 34 [24]),oj 6 (.al 58 [Z5]),on_ (.st 5 6 25)]
def Z093:List J:=[oj 26 (.call 35 []),oj 7 (.al 58 [Z5]),on_ (.st 5 7 26)]
def Z094:Sch:=(.q [0] (oj 28 (.ld 5 true 6)) (.q [1] (oj 29 (.ld 5 true 7)) (.p [2] (oj 30 (.call 37 [28,29])) (.p [3] (oj 31 (.call 40 [])) (.q [4] (oj 32 (.ld 5 true 6)) (.p [5] (oj 33 (.call 39 [31,32])) (.q [6] (oj 34 (.ld 5 true 7)) (.p [7] (oj 35 (.call 38 [33,34])) (.p [8] (oj 36 (.call 36 [30,35])) (.p [9] (oj 27 (.mv 36)) (.p [10] (oj 37 (.ext 27 0)) (.p [11] (oj 38 (.ext 27 1)) (.e 12 (oi 8 (.al 58 [Z5])) (.e 13 (oe (.st 5 8 37)) (.p [14] (oj 9 (.mv 38)) .nil)))))))))))))))
def Z095:List J:=[oj 39 (.mv 9),oj 40 (.un .not 39),oj 41 (.mv 40),.lg true 41 47 none [.op ⟨some 42,(some (41,false)),.mv 4⟩,.op ⟨some 43,(some (41,false)),.mv 42⟩,.lg false 43 46 (some (41,false)) [.op ⟨some 44,(some (43,true)),.ld 5 true 8⟩,.op ⟨some 45,(some (43,true)),.call 41 [44]⟩] 45] 46]
def Z007:List J:=[oj 48 (.bd [Z5,Z5,Z5,Z5] []),on_ (.st 20 2 48),oj 3 (.mv (.const (.bool false)))]
def Z008:List J:=[oj 49 (.mv 4)]
def Z009:List J:=[oj 50 (.ld 5 true 8),oj 51 (.call 42 [50]),on_ (.st 5 8 51)]
def Z00a:Sch:=(.q [0] (oj 52 (.ld 5 true 8)) (.q [1] (oj 53 (.ld 5 true 5)) (.q [2] (oj 54 (.ld 5 true 7)) (.q [3] (oj 55 (.ld 5 true 8)) (.q [4] (oj 56 (.ld 5 true 5)) (.p [5] (oj 57 (.call 39 [55,56])) (.p [6] (oj 58 (.bd [Z5,Z5,Z5,Z5] [(0,5,52),(5,5,53),(10,5,54),(15,5,57)])) (.e 7 (oe (.st 20 2 58)) (.p [8] (oj 3 (.mv (.const (.bool true)))) .nil)))))))))
def d18:FnD:=⟨59,[.cell 2 20 true,.tmp 3],(.seq (.ops Z08w) (.seq (.ops Z08x) (.seq (.ops Z08y) (.seq (.seq (.ops Z08z) (.cond 20 (.seq (.ops Z090) .ret) .skip)) (.seq (.ops Z091) (.seq (.ops Z092) (.seq (.ops Z093) (.seq (.draw Z094 [13]) (.seq (.seq (.ops Z095) (.cond 47 (.seq (.ops Z007) .ret) .skip)) (.seq (.seq (.ops Z008) (.cond 49 (.ops Z009) .skip)) (.seq (.draw Z00a [7]) .ret)))))))))))⟩
theorem ok18:okF Tryd.prog 18 d18=true:=by kernel_rfl
def Z096:List J:=[oj 1 (.bx 63 0),oj 2 (.mv (.const (.bool false)))]
def Z097:Sch:=(.q [0] (oj 6 (.ld 32 true 1)) (.p [1] (oj 7 (.call 44 [6])) (.q [2] (oj 8 (.ld 4 true (.global 0))) (.p [3] (oj 9 (.call 43 [7,8])) (.p [4] (oj 5 (.mv 9)) (.p [5] (oj 10 (.ext 5 0)) (.p [6] (oj 11 (.ext 5 1)) (.e 7 (oi 3 (.al 93 [.ints .u64 4 (List.replicate 4 0)])) (.e 8 (oe (.st 4 3 10)) (.p [9] (oj 4 (.mv 11)) .nil))))))))))
def Z098:List J:=[oj 12 (.mv 4),oj 13 (.bin .eql 12 (cu 1)),oj 2 (.mv 13)]
def d19:FnD:=⟨14,[.tmp 2],(.seq (.ops Z096) (.seq (.draw Z097 [8]) (.seq (.ops Z098) .ret)))⟩
theorem ok19:okF Tryd.prog 19 d19=true:=by kernel_rfl
def Z09n:List J:=[oj 3 (.bx 63 0),oj 4 (.bx 60 1),oj 5 (.bx 63 2),oj 6 (.al 60 [Z5,Z5,Z5,Z5])]
def Z09o:List J:=[oj 12 (.call 52 []),oj 7 (.al 60 [Z5,Z5,Z5,Z5]),on_ (.st 20 7 12)]
def Z09p:Sch:=(.q [0] (oj 13 (.ld 20 true 4)) (.p [1] (oj 14 (.call 53 [13])) (.q [2] (oj 15 (.ld 20 true 7)) (.p [3] (oj 16 (.call 53 [15])) (.two 4 (oi 8 (.al 105 [.rows 20 16 (fun _=>cells [Z5,Z5,Z5,Z5])])) (.e 5 (oi 9 (.al 105 [.rows 20 16 (fun _=>cells [Z5,Z5,Z5,Z5])])) (.e 6 (oe (.st 320 8 14)) (.e 7 (oe (.st 320 9 16)) .nil)))
  5 ⟨some 9,none,.al 105 [.rows 20 16 (fun _=>cells [Z5,Z5,Z5,Z5])]⟩ (.e 4 (oi 8 (.al 105 [.rows 20 16 (fun _=>cells [Z5,Z5,Z5,Z5])])) (.e 6 (oe (.st 320 8 14)) (.e 7 (oe (.st 320 9 16)) .nil))))))))
def Z09q:List J:=[oj 17 (.call 54 []),oj 10 (.al 60 [Z5,Z5,Z5,Z5]),on_ (.st 20 10 17)]
def Z09r:List J:=[oj 18 (.mv (ci 0))]
def Z09s:List J:=[oj 19 (.bin .lss 18 (ci 64))]
def Z09t:List J:=[oj 20 (.mv 18),oj 11 (.mv 20)]
def Z09u:List J:=[oj 21 (.mv (ci 0))]
def Z09v:List J:=[oj 22 (.bin .lss 21 (ci 4))]
def Z09w:List J:=[oj 23 (.ld 20 true 10),oj 24 (.call 55 [23]),on_ (.st 20 10 24)]
def Z03i:IC:=(.ops Z09w)
def Z00b:List J:=[oj 25 (.bin .add 21 (ci 1)),oj 21 (.mv 25)]
def Z05p:IC:=(.seq (.ops Z09v) (.seq (.cond 22 .skip (.exit 2)) (.seq (.block 3 Z03i) (.ops Z00b))))
def Z03h:IC:=(.loop Z05p)
def Z00c:Sch:=(.p [2] (oj 28 (.mv 11)) (.p [8] (oj 34 (.mv 11)) (.q [0] (oj 26 (.ld 20 true 10)) (.q [1] (oj 27 (.ld 32 true 3)) (.p [3] (oj 29 (.call 57 [27,28])) (.p [4] (oj 30 (.ia 16 20 8 29)) (.q [5] (oj 31 (.ld 20 true 30)) (.p [6] (oj 32 (.call 56 [26,31])) (.q [7] (oj 33 (.ld 32 true 5)) (.p [9] (oj 35 (.call 57 [33,34])) (.p [10] (oj 36 (.ia 16 20 9 35)) (.q [11] (oj 37 (.ld 20 true 36)) (.p [12] (oj 38 (.call 56 [32,37])) (.e 13 (oe (.st 20 10 38)) .nil))))))))))))))
def Z03g:IC:=(.seq (.ops Z09t) (.seq (.seq (.ops Z09u) (.block 2 Z03h)) (.draw Z00c [13])))
def Z00d:List J:=[oj 39 (.bin .add 18 (ci 1)),oj 18 (.mv 39)]
def Z05o:IC:=(.seq (.ops Z09s) (.seq (.cond 19 .skip (.exit 0)) (.seq (.block 1 Z03g) (.ops Z00d))))
def Z03f:IC:=(.loop Z05o)
def Z00e:List J:=[oj 40 (.ld 20 true 10),on_ (.st 20 6 40)]
def d22:FnD:=⟨41,[.cell 6 20 true],(.seq (.ops Z09n) (.seq (.ops Z09o) (.seq (.draw Z09p [6,7]) (.seq (.ops Z09q) (.seq (.seq (.ops Z09r) (.block 0 Z03f)) (.seq (.ops Z00e) .ret))))))⟩
theorem ok22:okF Tryd.prog 22 d22=true:=by kernel_rfl
def Z09x:List J:=[oj 1 (.bx 60 0),oj 2 (.al 60 [Z5,Z5,Z5,Z5])]
def Z09y:Sch:=(.p [0] (oj 3 (.fa 0 1)) (.p [3] (oj 6 (.fa 5 1)) (.p [5] (oj 8 (.fa 10 1)) (.p [7] (oj 10 (.fa 15 1)) (.q [1] (oj 4 (.ld 5 true 3)) (.p [2] (oj 5 (.call 42 [4])) (.q [4] (oj 7 (.ld 5 true 6)) (.q [6] (oj 9 (.ld 5 true 8)) (.q [8] (oj 11 (.ld 5 true 10)) (.p [9] (oj 12 (.call 42 [11])) (.p [10] (oj 13 (.bd [Z5,Z5,Z5,Z5] [(0,5,5),(5,5,7),(10,5,9),(15,5,12)])) (.e 11 (oe (.st 20 2 13)) .nil))))))))))))
def d23:FnD:=⟨14,[.cell 2 20 true],(.seq (.ops Z09x) (.seq (.draw Z09y [11]) .ret))⟩
theorem ok23:okF Tryd.prog 23 d23=true:=by kernel_rfl
def r7_0:List J:=[oj 3 (.bx 27 0),oj 5 (.bx 30 2),oj 6 (.mv (.const (.bool false)))]
def r7_1:List J:=[oj 13 (.ld 32 true 3),oj 14 (.call 18 [13]),oj 12 (.mv 14),oj 15 (.ext 12 0),oj 16 (.ext 12 1),oj 7 (.al 60 [Z5,Z5,Z5,Z5]),on_ (.st 20 7 15),oj 8 (.mv 16)]
def r7_2:List J:=[oj 17 (.sla 64 1 5 (some (ci 32)) none none),oj 18 (.s2a 32 17),oj 19 (.ld 32 true 18),oj 9 (.al 63 [.ints .u8 32 (List.replicate 32 0)]),on_ (.st 32 9 19)]
def r7_3:List J:=[oj 20 (.mv 8),oj 21 (.un .not 20),oj 22 (.mv 21),.lg true 22 26 none [.op ⟨some 23,(some (22,false)),.ld 32 true 9⟩,.op ⟨some 24,(some (22,false)),.call 19 [23]⟩,.op ⟨some 25,(some (22,false)),.un .not 24⟩] 25]
def r7_4:List J:=[oj 6 (.mv (.const (.bool false)))]
def r7_5:Sch:=(.p [0] (oj 27 (.sla 64 1 5 none (some (ci 32)) none)) (.p [1] (oj 28 (.sla 32 1 3 none none none)) (.p [2] (oj 29 (.mv 1)) (.two 3 (oi 30 (.bs 28 3 1 [.one (.slice none 0 0),.one (.slice none 0 0),.one (.slice none 0 0)] [(0,1,27),(1,1,28),(2,1,29)])) (.two 4 (oi 31 (.call 20 [30])) (.e 5 (oi 10 (.al 63 [.ints .u8 32 (List.replicate 32 0)])) (.e 6 (oe (.st 32 10 31)) .nil))
  5 ⟨some 10,none,.al 63 [.ints .u8 32 (List.replicate 32 0)]⟩ (.e 4 (oi 31 (.call 20 [30])) (.e 6 (oe (.st 32 10 31)) .nil)))
  5 ⟨some 10,none,.al 63 [.ints .u8 32 (List.replicate 32 0)]⟩ (.e 3 (oi 30 (.bs 28 3 1 [.one (.slice none 0 0),.one (.slice none 0 0),.one (.slice none 0 0)] [(0,1,27),(1,1,28),(2,1,29)])) (.e 4 (oi 31 (.call 20 [30])) (.e 6 (oe (.st 32 10 31)) .nil)))))))
def r7_6:Sch:=(.q [0] (oj 32 (.ld 32 true 10)) (.q [1] (oj 33 (.ld 20 true 7)) (.p [2] (oj 34 (.call 23 [33])) (.q [3] (oj 35 (.ld 32 true 9)) (.p [4] (oj 36 (.call 22 [32,34,35])) (.p [5] (oj 37 (.call 21 [36])) (.e 6 (oi 11 (.al 27 [.ints .u8 32 (List.replicate 32 0)])) (.e 7 (oe (.st 32 11 37)) .nil))))))))
def r7_7:Sch:=(.p [1] (oj 39 (.sla 64 1 5 none (some (ci 32)) none)) (.p [2] (oj 40 (.s2a 32 39)) (.q [0] (oj 38 (.ld 32 true 11)) (.q [3] (oj 41 (.ld 32 true 40)) (.p [4] (oj 42 (.eqa false [(.i .u8,32)] 38 41)) (.p [5] (oj 6 (.mv 42)) .nil))))))
def d7:FnD:=⟨43,[.tmp 6],(.seq (.ops r7_0) (.seq (.ops r7_1) (.seq (.ops r7_2) (.seq (.seq (.ops r7_3) (.cond 26 (.seq (.ops r7_4) .ret) .skip)) (.seq (.draw r7_5 [6]) (.seq (.draw r7_6 [7]) (.seq (.draw r7_7 []) .ret)))))))⟩
theorem ok7:okF Tryd.prog 7 d7=true:=by kernel_rfl
def Z0am:List J:=[oj 2 (.bx 27 0),oj 3 (.bx 47 1),oj 4 (.mv (.const (.nilFunc)))]
def Z0an:List J:=[oj 5 (.mf 68 [2,3]),oj 4 (.mv 5)]
def d30:FnD:=⟨6,[.tmp 4],(.seq (.ops Z0am) (.seq (.ops Z0an) .ret))⟩
theorem ok30:okF Tryd.prog 30 d30=true:=by kernel_rfl
def Z0g7:List J:=[oj 3 (.bx 27 1),oj 4 (.mv (ci 0))]
def Z0g8:List J:=[oj 6 (.mv 0),oj 7 (.len 6),oj 8 (.mv (ci 0))]
def Z0g9:List J:=[oj 9 (.bin .lss 8 7)]
def Z0ga:List J:=[oj 10 (.mv 8),oj 5 (.mv 10)]
def Z0gb:Sch:=(.p [1] (oj 12 (.mv 0)) (.p [2] (oj 13 (.mv 5)) (.p [3] (oj 14 (.ias 32 12 13)) (.q [0] (oj 11 (.ld 32 true 3)) (.q [4] (oj 15 (.ld 32 true 14)) (.p [5] (oj 16 (.eqa false [(.i .u8,32)] 11 15)) .nil))))))
def Z0gc:List J:=[oj 17 (.mv 5),oj 4 (.mv 17)]
def Z04j:IC:=(.seq (.ops Z0ga) (.seq (.draw Z0gb []) (.cond 16 (.seq (.ops Z0gc) .ret) .skip)))
def Z0gd:List J:=[oj 18 (.bin .add 8 (ci 1)),oj 8 (.mv 18)]
def Z067:IC:=(.seq (.ops Z0g9) (.seq (.cond 9 .skip (.exit 0)) (.seq (.block 1 Z04j) (.ops Z0gd))))
def Z04i:IC:=(.loop Z067)
def Z0ge:List J:=[oj 4 (.mv (ci (-1)))]
def d69:FnD:=⟨19,[.tmp 4],(.seq (.ops Z0g7) (.seq (.seq (.ops Z0g8) (.block 0 Z04i)) (.seq (.ops Z0ge) .ret)))⟩
theorem ok69:okF Tryd.prog 69 d69=true:=by kernel_rfl
def Z0ao:List J:=[oj 3 (.bx 27 1),oj 4 (.mv (.const (.bool false)))]
def Z0ap:List J:=[oj 5 (.mv 0),oj 6 (.ld 32 true 3),oj 7 (.call 69 [5,6]),oj 8 (.bin .geq 7 (ci 0)),oj 4 (.mv 8)]
def d31:FnD:=⟨9,[.tmp 4],(.seq (.ops Z0ao) (.seq (.ops Z0ap) .ret))⟩
theorem ok31:okF Tryd.prog 31 d31=true:=by kernel_rfl
def Z083:List J:=[oj 2 (.bx 27 0),oj 4 (.al 23 [.one (.slice none 0 0)]),oj 5 (.al 50 [.one (.int .i64 0)])]
def Z084:List J:=[oj 9 (.mv 1),oj 10 (.len 9),oj 11 (.bin .gtr 10 (ci 64))]
def Z085:List J:=[on_ (.st 1 4 (.const (.slice none 0 0))),on_ (.st 1 5 (ci 1))]
def Z086:List J:=[oj 12 (.ld 32 true 2),oj 13 (.bs 27 1 32 [.ints .u8 32 (List.replicate 32 0)] [(0,32,12)]),oj 6 (.al 23 [.one (.slice none 0 0)]),on_ (.st 1 6 13)]
def Z087:List J:=[oj 14 (.ld 32 true 2),oj 15 (.mv 1),oj 16 (.call 30 [14,15])]
def Z088:List J:=[oj 7 (.al 27 [.ints .u8 32 (List.replicate 32 0)]),on_ (.st 32 7 17)]
def Z089:List J:=[oj 8 (.al 75 [.one (.int .i64 0),.ints .u8 32 (List.replicate 32 0),.ints .u8 64 (List.replicate 64 0)]),on_ (.st 97 8 18)]
def Z08a:List J:=[oj 19 (.fa 0 8),oj 20 (.ld 1 false 19),oj 21 (.ld 1 false 6),oj 22 (.len 21),oj 23 (.bin .neq 20 22),oj 24 (.mv 23),.lg true 24 29 none [.op ⟨some 25,(some (24,false)),.ld 1 false 6⟩,.op ⟨some 26,(some (24,false)),.fa 1 8⟩,.op ⟨some 27,(some (24,false)),.ld 32 true 26⟩,.op ⟨some 28,(some (24,false)),.call 31 [25,27]⟩] 28]
def Z08b:List J:=[on_ (.st 1 4 (.const (.slice none 0 0))),on_ (.st 1 5 (ci 171))]
def Z08c:Sch:=(.p [3] (oj 33 (.fa 33 8)) (.q [0] (oj 30 (.ld 32 true 7)) (.q [1] (oj 31 (.ld 97 true 8)) (.q [4] (oj 34 (.ld 64 true 33)) (.e 2 (oi 32 (.call 29 [31])) (.e 5 (oi 35 (.call 7 [30,32,34])) (.p [6] (oj 36 (.un .not 35)) .nil)))))))
def Z003:List J:=[on_ (.st 1 4 (.const (.slice none 0 0))),on_ (.st 1 5 (ci 110))]
def Z004:List J:=[oj 37 (.ld 1 false 6),oj 38 (.fa 1 8),oj 39 (.ld 32 true 38),oj 40 (.bs 27 1 32 [.ints .u8 32 (List.replicate 32 0)] [(0,32,39)]),oj 41 (.app 27 32 32 [.ints .u8 32 (List.replicate 32 0)] 37 40),on_ (.st 1 6 41)]
def Z039:IC:=(.seq (.seq (.ops Z08a) (.cond 29 (.seq (.ops Z08b) .ret) .skip)) (.seq (.seq (.draw Z08c []) (.cond 36 (.seq (.ops Z003) .ret) .skip)) (.ops Z004)))
def Z038:IC:=(.rng 16 [17,18] (.seq (.ops Z088) (.ops Z089)) (.block 1 Z039))
def Z005:List J:=[oj 42 (.ld 1 false 6),on_ (.st 1 4 42),on_ (.st 1 5 (ci 0))]
def d15:FnD:=⟨43,[.cell 4 1 false,.cell 5 1 false],(.seq (.ops Z083) (.seq (.seq (.ops Z084) (.cond 11 (.seq (.ops Z085) .ret) .skip)) (.seq (.ops Z086) (.seq (.seq (.ops Z087) (.block 0 Z038)) (.seq (.ops Z005) .ret)))))⟩
theorem ok15:okF Tryd.prog 15 d15=true:=by kernel_rfl
def Z07z:List J:=[oj 0 (.mv (.const (.bool false)))]
def Z080:List J:=[oj 6 (.bd [.ints .u8 32 (List.replicate 32 0)] [(0,1,(.const (.int .u8 5)))]),oj 7 (.call 15 [6,(.const (.slice none 0 0))]),oj 5 (.mv 7),oj 8 (.ext 5 0),oj 9 (.ext 5 1),oj 1 (.mv 8),oj 2 (.mv 9)]
def Z081:List J:=[oj 11 (.bd [.ints .u8 32 (List.replicate 32 0)] [(0,1,(.const (.int .u8 1)))]),oj 12 (.bd [.ints .u8 32 (List.replicate 32 0)] [(0,1,(.const (.int .u8 6)))]),oj 13 (.call 28 [11,(ci 1),12]),oj 10 (.mv 13),oj 14 (.ext 10 0),oj 15 (.ext 10 1),oj 3 (.al 75 [.one (.int .i64 0),.ints .u8 32 (List.replicate 32 0),.ints .u8 64 (List.replicate 64 0)]),on_ (.st 97 3 14),oj 4 (.mv 15)]
def Z082:List J:=[oj 16 (.mv 2),oj 17 (.bin .eql 16 (ci 0)),oj 18 (.mv 17),.lg false 18 22 none [.op ⟨some 19,(some (18,true)),.mv 1⟩,.op ⟨some 20,(some (18,true)),.len 19⟩,.op ⟨some 21,(some (18,true)),.bin .eql 20 (ci 1)⟩] 21,oj 23 (.mv 22),.lg false 23 29 none [.op ⟨some 24,(some (23,true)),.mv 1⟩,.op ⟨some 25,(some (23,true)),.ias 32 24 (ci 0)⟩,.op ⟨some 26,(some (23,true)),.ld 32 true 25⟩,.op ⟨some 27,(some (23,true)),.bd [.ints .u8 32 (List.replicate 32 0)] [(0,1,(.const (.int .u8 5)))]⟩,.op ⟨some 28,(some (23,true)),.eqa false [(.i .u8,32)] 26 27⟩] 28,oj 30 (.mv 29),.lg false 30 32 none [.op ⟨some 31,(some (30,true)),.mv 4⟩] 31,oj 33 (.mv 32),.lg false 33 37 none [.op ⟨some 34,(some (33,true)),.fa 0 3⟩,.op ⟨some 35,(some (33,true)),.ld 1 false 34⟩,.op ⟨some 36,(some (33,true)),.bin .eql 35 (ci 1)⟩] 36,oj 38 (.mv 37),.lg false 38 43 none [.op ⟨some 39,(some (38,true)),.fa 1 3⟩,.op ⟨some 40,(some (38,true)),.ld 32 true 39⟩,.op ⟨some 41,(some (38,true)),.bd [.ints .u8 32 (List.replicate 32 0)] [(0,1,(.const (.int .u8 6)))]⟩,.op ⟨some 42,(some (38,true)),.eqa false [(.i .u8,32)] 40 41⟩] 42,oj 44 (.mv 43),.op ⟨some 45,(some (44,true)),.ld 97 true 3⟩,.op ⟨some 46,(some (44,true)),.call 29 [45]⟩,.op ⟨some 47,(some (44,true)),.len 46⟩,.op ⟨some 48,(some (44,true)),.bin .eql 47 (ci 40)⟩,oj 49 (.pick 44 48 (.const (.bool false))),oj 0 (.mv 49)]
def d14:FnD:=⟨50,[.tmp 0],(.seq (.ops Z07z) (.seq (.ops Z080) (.seq (.ops Z081) (.seq (.ops Z082) .ret))))⟩
theorem ok14:okF Tryd.prog 14 d14=true:=by kernel_rfl
def Z08d:List J:=[oj 4 (.mv (.const (.bool false)))]
def Z08e:List J:=[oj 6 (.mv 0),oj 7 (.len 6),oj 8 (.mv 1),oj 9 (.len 8),oj 10 (.bin .neq 7 9)]
def Z08f:List J:=[oj 4 (.mv (.const (.bool false)))]
def Z08g:List J:=[oj 5 (.mv (ci 0))]
def Z08h:List J:=[oj 11 (.mv 5),oj 12 (.mv 0),oj 13 (.len 12),oj 14 (.bin .lss 11 13)]
def Z08j:Sch:=(.p [0] (oj 17 (.mv 0)) (.p [1] (oj 18 (.mv 5)) (.p [2] (oj 19 (.ias 32 17 18)) (.p [4] (oj 21 (.mv 1)) (.p [5] (oj 22 (.mv 5)) (.p [6] (oj 23 (.ias 32 21 22)) (.q [3] (oj 20 (.ld 32 true 19)) (.q [7] (oj 24 (.ld 32 true 23)) (.p [8] (oj 25 (.eqa true [(.i .u8,32)] 20 24)) .nil)))))))))
def Z08k:List J:=[oj 4 (.mv (.const (.bool false)))]
def Z03b:IC:=(.seq (.draw Z08j []) (.cond 25 (.seq (.ops Z08k) .ret) .skip))
def Z08i:List J:=[oj 15 (.mv 5),oj 16 (.bin .add 15 (ci 1)),oj 5 (.mv 16)]
def Z05m:IC:=(.seq (.seq (.ops Z08h) (.cond 14 .skip (.exit 0))) (.seq (.block 1 Z03b) (.ops Z08i)))
def Z03a:IC:=(.loop Z05m)
def Z08l:List J:=[oj 4 (.mv (.const (.bool true)))]
def d16:FnD:=⟨26,[.tmp 4],(.seq (.ops Z08d) (.seq (.seq (.ops Z08e) (.cond 10 (.seq (.ops Z08f) .ret) .skip)) (.seq (.seq (.ops Z08g) (.block 0 Z03a)) (.seq (.ops Z08l) .ret))))⟩
theorem ok16:okF Tryd.prog 16 d16=true:=by kernel_rfl
def Z08m:List J:=[oj 6 (.bx 27 0),oj 11 (.bx 30 5),oj 12 (.mv (ci 0))]
def Z08n:List J:=[oj 16 (.ld 32 true 6),oj 17 (.mv 1),oj 18 (.call 15 [16,17]),oj 15 (.mv 18),oj 19 (.ext 15 0),oj 20 (.ext 15 1),oj 13 (.mv 19),oj 14 (.mv 20)]
def Z08o:List J:=[oj 22 (.mv 14),oj 23 (.bin .neq 22 (ci 0)),oj 21 (.mv 23)]
def Z08p:List J:=[oj 24 (.mv 14),oj 12 (.mv 24)]
def Z08q:List J:=[oj 26 (.mv 2),oj 27 (.bin .lss 26 (ci 0)),oj 28 (.mv 27),.lg true 28 31 none [.op ⟨some 29,(some (28,false)),.mv 3⟩,.op ⟨some 30,(some (28,false)),.bin .lss 29 (ci 0)⟩] 30,oj 32 (.mv 31),.lg true 32 37 none [.op ⟨some 33,(some (32,false)),.mv 3⟩,.op ⟨some 34,(some (32,false)),.mv 13⟩,.op ⟨some 35,(some (32,false)),.len 34⟩,.op ⟨some 36,(some (32,false)),.bin .geq 33 35⟩] 36,oj 25 (.mv 37)]
def Z08r:List J:=[oj 12 (.mv (ci 2))]
def Z08s:List J:=[oj 39 (.mv 3),oj 40 (.mv 2),oj 41 (.bin .lss 39 40),oj 38 (.mv 41)]
def Z08t:List J:=[oj 12 (.mv (ci 192))]
def Z08u:Sch:=(.p [0] (oj 43 (.mv 13)) (.p [1] (oj 44 (.mv 3)) (.p [2] (oj 45 (.ias 32 43 44)) (.p [4] (oj 47 (.mv 4)) (.q [3] (oj 46 (.ld 32 true 45)) (.q [5] (oj 48 (.ld 64 true 11)) (.q [6] (oj 49 (.call 7 [46,47,48])) (.p [7] (oj 50 (.un .not 49)) (.p [8] (oj 42 (.mv 50)) .nil)))))))))
def Z08v:List J:=[oj 12 (.mv (ci 110))]
def Z03c:IC:=(.seq (.ops Z08o) (.cond 21 (.seq (.ops Z08p) .ret) (.seq (.ops Z08q) (.cond 25 (.seq (.ops Z08r) .ret) (.seq (.ops Z08s) (.cond 38 (.seq (.ops Z08t) .ret) (.seq (.draw Z08u []) (.cond 42 (.seq (.ops Z08v) .ret) .skip))))))))
def Z006:List J:=[oj 12 (.mv (ci 0))]
def d17:FnD:=⟨51,[.tmp 12],(.seq (.ops Z08m) (.seq (.ops Z08n) (.seq (.block 0 Z03c) (.seq (.ops Z006) .ret))))⟩
theorem ok17:okF Tryd.prog 17 d17=true:=by kernel_rfl
def r6_0:List J:=[oj 10 (.mv (.const (.bool false)))]
def r6_1:List J:=[oj 21 (.mv 0),oj 22 (.call 13 [21]),oj 20 (.mv 22),oj 23 (.ext 20 0),oj 24 (.ext 20 1),oj 25 (.ext 20 2),oj 11 (.al 27 [.ints .u8 32 (List.replicate 32 0)]),on_ (.st 32 11 23),oj 12 (.mv 24),oj 13 (.mv 25)]
def r6_2:List J:=[oj 26 (.mv 0),oj 27 (.len 26),oj 28 (.bin .eql 27 (ci 0))]
def r6_3:List J:=[oj 29 (.call 14 []),oj 10 (.mv 29)]
def r6_4:List J:=[oj 31 (.ld 32 true 11),oj 32 (.mv 12),oj 33 (.call 15 [31,32]),oj 30 (.mv 33),oj 34 (.ext 30 0),oj 35 (.ext 30 1),oj 14 (.mv 34),oj 15 (.mv 35)]
def r6_5:List J:=[oj 36 (.mv 13),oj 37 (.un .not 36)]
def r6_6:List J:=[oj 38 (.mv 15),oj 39 (.bin .eql 38 (ci 171)),oj 40 (.mv 39),.lg false 40 44 none [.op ⟨some 41,(some (40,true)),.mv 14⟩,.op ⟨some 42,(some (40,true)),.len 41⟩,.op ⟨some 43,(some (40,true)),.bin .eql 42 (ci 0)⟩] 43,oj 45 (.mv 44),.lg false 45 47 none [.op ⟨some 46,(some (45,true)),.call 14 []⟩] 46,oj 10 (.mv 47)]
def r6_7:List J:=[oj 48 (.mv 15),oj 49 (.bin .neq 48 (ci 0)),oj 50 (.mv 49),.lg true 50 57 none [.op ⟨some 51,(some (50,false)),.mv 14⟩,.op ⟨some 52,(some (50,false)),.len 51⟩,.op ⟨some 53,(some (50,false)),.mv 12⟩,.op ⟨some 54,(some (50,false)),.len 53⟩,.op ⟨some 55,(some (50,false)),.bin .add 54 (ci 1)⟩,.op ⟨some 56,(some (50,false)),.bin .neq 52 55⟩] 56]
def r6_8:List J:=[oj 10 (.mv (.const (.bool false)))]
def r6_9:List J:=[oj 16 (.mv (ci 0))]
def Z0gf:List J:=[oj 58 (.mv 16),oj 59 (.mv 14),oj 60 (.len 59),oj 61 (.bin .lss 58 60)]
def Z0gh:Sch:=(.p [0] (oj 64 (.mv 14)) (.p [1] (oj 65 (.mv 16)) (.p [2] (oj 66 (.ias 32 64 65)) (.p [4] (oj 68 (.mv 0)) (.p [5] (oj 69 (.mv 16)) (.p [6] (oj 70 (.ias 32 68 69)) (.q [3] (oj 67 (.ld 32 true 66)) (.q [7] (oj 71 (.ld 32 true 70)) (.p [8] (oj 72 (.call 10 [71])) (.p [9] (oj 73 (.eqa true [(.i .u8,32)] 67 72)) .nil))))))))))
def Z0gi:List J:=[oj 10 (.mv (.const (.bool false)))]
def k6_1:IC:=(.seq (.draw Z0gh []) (.cond 73 (.seq (.ops Z0gi) .ret) .skip))
def Z0gg:List J:=[oj 62 (.mv 16),oj 63 (.bin .add 62 (ci 1)),oj 16 (.mv 63)]
def l6_1:IC:=(.seq (.seq (.ops Z0gf) (.cond 61 .skip (.exit 0))) (.seq (.block 1 k6_1) (.ops Z0gg)))
def k6_0:IC:=(.loop l6_1)
def Z0gj:List J:=[oj 74 (.mv 1),oj 75 (.bin .geq 74 (ci 0)),oj 76 (.mv 75),.lg false 76 81 none [.op ⟨some 77,(some (76,true)),.mv 1⟩,.op ⟨some 78,(some (76,true)),.mv 12⟩,.op ⟨some 79,(some (76,true)),.len 78⟩,.op ⟨some 80,(some (76,true)),.bin .leq 77 79⟩] 80]
def Z0gk:Sch:=(.p [1] (oj 84 (.mv 12)) (.p [2] (oj 85 (.mv 1)) (.p [3] (oj 86 (.sls 97 84 none (some 85) none)) (.q [0] (oj 83 (.ld 32 true 11)) (.e 4 (oi 87 (.call 15 [83,86])) (.p [5] (oj 82 (.mv 87)) (.p [6] (oj 88 (.ext 82 0)) (.p [7] (oj 89 (.ext 82 1)) (.p [8] (oj 17 (.mv 88)) (.p [9] (oj 18 (.mv 89)) .nil))))))))))
def Z0gl:List J:=[oj 90 (.mv 18),oj 91 (.bin .neq 90 (ci 0)),oj 92 (.mv 91),.lg true 92 100 none [.op ⟨some 93,(some (92,false)),.mv 17⟩,.op ⟨some 94,(some (92,false)),.mv 14⟩,.op ⟨some 95,(some (92,false)),.mv 1⟩,.op ⟨some 96,(some (92,false)),.bin .add 95 (ci 1)⟩,.op ⟨some 97,(some (92,false)),.sls 32 94 none (some 96) none⟩,.op ⟨some 98,(some (92,false)),.call 16 [93,97]⟩,.op ⟨some 99,(some (92,false)),.un .not 98⟩] 99]
def Z0gm:List J:=[oj 10 (.mv (.const (.bool false)))]
def Z0gn:List J:=[oj 101 (.mv 2),oj 102 (.bin .lss 101 (ci 0)),oj 103 (.mv 102),.lg true 103 106 none [.op ⟨some 104,(some (103,false)),.mv 3⟩,.op ⟨some 105,(some (103,false)),.bin .lss 104 (ci 0)⟩] 105,oj 107 (.mv 106),.lg true 107 112 none [.op ⟨some 108,(some (107,false)),.mv 3⟩,.op ⟨some 109,(some (107,false)),.mv 14⟩,.op ⟨some 110,(some (107,false)),.len 109⟩,.op ⟨some 111,(some (107,false)),.bin .geq 108 110⟩] 111]
def Z0go:List J:=[oj 113 (.ld 32 true 11),oj 114 (.mv 12),oj 115 (.mv 2),oj 116 (.mv 3),oj 117 (.mv 4),oj 118 (.bd [.ints .u8 64 (List.replicate 64 0)] []),oj 119 (.call 17 [113,114,115,116,117,118]),oj 120 (.bin .eql 119 (ci 2)),oj 121 (.mv 120),.lg false 121 123 none [.op ⟨some 122,(some (121,true)),.call 14 []⟩] 122,oj 10 (.mv 123)]
def Z0gp:Sch:=(.p [1] (oj 125 (.mv 12)) (.p [2] (oj 126 (.mv 2)) (.p [3] (oj 127 (.mv 3)) (.p [4] (oj 128 (.mv 4)) (.p [5] (oj 129 (.mv 0)) (.p [6] (oj 130 (.mv 3)) (.p [7] (oj 131 (.ias 32 129 130)) (.p [9] (oj 133 (.mv 4)) (.q [0] (oj 124 (.ld 32 true 11)) (.q [8] (oj 132 (.ld 32 true 131)) (.q [10] (oj 134 (.call 11 [132,133])) (.q [11] (oj 135 (.call 17 [124,125,126,127,128,134])) (.p [12] (oj 19 (.mv 135)) .nil)))))))))))))
def Z0gq:List J:=[oj 136 (.mv 3),oj 137 (.mv 2),oj 138 (.bin .lss 136 137)]
def Z0gr:List J:=[oj 139 (.mv 19),oj 140 (.bin .eql 139 (ci 192)),oj 141 (.mv 140),.lg false 141 143 none [.op ⟨some 142,(some (141,true)),.call 14 []⟩] 142,oj 10 (.mv 143)]
def Z0gs:List J:=[oj 144 (.mv 19),oj 145 (.bin .eql 144 (ci 0)),oj 146 (.mv 145),.lg false 146 148 none [.op ⟨some 147,(some (146,true)),.call 14 []⟩] 147,oj 10 (.mv 148)]
def d6:FnD:=⟨149,[.tmp 10],(.seq (.ops r6_0) (.seq (.ops r6_1) (.seq (.seq (.ops r6_2) (.cond 28 (.seq (.ops r6_3) .ret) .skip)) (.seq (.ops r6_4) (.seq (.seq (.ops r6_5) (.cond 37 (.seq (.ops r6_6) .ret) .skip)) (.seq (.seq (.ops r6_7) (.cond 57 (.seq (.ops r6_8) .ret) .skip)) (.seq (.seq (.ops r6_9) (.block 0 k6_0)) (.seq (.seq (.ops Z0gj) (.cond 81 (.seq (.draw Z0gk []) (.seq (.ops Z0gl) (.cond 100 (.seq (.ops Z0gm) .ret) .skip))) .skip)) (.seq (.seq (.ops Z0gn) (.cond 112 (.seq (.ops Z0go) .ret) .skip)) (.seq (.draw Z0gp []) (.seq (.seq (.ops Z0gq) (.cond 138 (.seq (.ops Z0gr) .ret) .skip)) (.seq (.ops Z0gs) .ret))))))))))))⟩
theorem ok6:okF Tryd.prog 6 d6=true:=by kernel_rfl
def Z0g0:List J:=[oj 7 (.ld 32 true 1),oj 4 (.al 27 [.ints .u8 32 (List.replicate 32 0)]),on_ (.st 32 4 7)]
def Z0g1:List J:=[oj 8 (.ld 1 false 2),oj 9 (.len 8),oj 10 (.mv (ci 0))]
def Z0g2:List J:=[oj 11 (.bin .lss 10 9)]
def Z0g3:List J:=[oj 12 (.ias 97 8 10),oj 13 (.ld 97 true 12),oj 6 (.al 75 [.one (.int .i64 0),.ints .u8 32 (List.replicate 32 0),.ints .u8 64 (List.replicate 64 0)]),on_ (.st 97 6 13)]
def Z0g4:List J:=[oj 14 (.mv 0),oj 15 (.ld 32 true 4),oj 16 (.ld 97 true 6),oj 17 (.cv 14 [15,16]),oj 18 (.un .not 17)]
def Z0g5:List J:=[oj 19 (.fa 1 6),oj 20 (.ld 32 true 19),on_ (.st 32 4 20)]
def Z04h:IC:=(.seq (.ops Z0g3) (.seq (.seq (.ops Z0g4) (.cond 18 .ret .skip)) (.ops Z0g5)))
def Z0g6:List J:=[oj 21 (.bin .add 10 (ci 1)),oj 10 (.mv 21)]
def Z066:IC:=(.seq (.ops Z0g2) (.seq (.cond 11 .skip (.exit 0)) (.seq (.block 1 Z04h) (.ops Z0g6))))
def Z04g:IC:=(.loop Z066)
def d68:FnD:=⟨22,[],(.seq (.ops Z0g0) (.seq (.ops Z0g1) (.block 0 Z04g)))⟩
theorem ok68:okF Tryd.prog 68 d68=true:=by kernel_rfl
theorem mo:Tryd.prog.follows .mixedOrders=true:=by kernel_rfl
theorem Zd8:ExtF Tryd.prog 78 add64Entry:=⟨Tryd.f78,Tryd.func78,by kernel_rfl,by kernel_rfl,by kernel_rfl,by kernel_rfl⟩
theorem Zum:ExtF Tryd.prog 79 Zcs:=⟨Tryd.f79,Tryd.func79,by kernel_rfl,by kernel_rfl,by kernel_rfl,by kernel_rfl⟩
end Go.Proofs.YtiflckckekjbnaaDoor
namespace Go.Sx
open Go Go.RowKit
set_option linter.all false
section
variable {α:Type} {C:Cfg} {m:List Zc} {t:TS} {K:KN} {E:El α} {v:Value} {xs:List α}
end
end Go.Sx
namespace Go.Proofs.YtiflckckekjbnaaDoor
open Go Go.Sx Go.RowKit
set_option linter.all false
set_option maxHeartbeats 400000
set_option maxRecDepth 100000
theorem Ze1 {W:World} {p0:List Int} {v1:Value} (hv:Zdg v1) :
    Calls Tryd.prog 30 [agg [.ints .u8 32 (p0)],v1].toArray W (Zek W [] (fun v Ms=>∃ (b1:Nat) (T1:TypeId) (b2:Nat) (T2:TypeId),v = .func (.func 68) #[] #[.pointer (some ⟨b1,0,none⟩),.pointer (some ⟨b2,0,none⟩)]∧Ms = [.one (ck b1 T1 [.ints .u8 32 (p0)]),.one (ck b2 T2 [.one v1])])):=by
  refine Z0t mo ok30 rfl (Zih _) ?_
  refine Z0<|Z2<|Zg (Z14 (s:=[.ints .u8 32 (p0)]) rfl fun b1 hb1=>Zg (Zx1 rfl (Zdg.cells hv) fun b2 hb2=>Z6 _ (Z19 rfl)<|Z1<|Z0<|Z2<|Z6 _ (q_mf rfl)<|Z6 _ (Z19 rfl)<|Z1<|Zk ?_))
  exact ⟨_,_,.cons (.tmp rfl) .nil,.one (.there .here) (.one .here .nil),⟨_,rfl,b1,27,b2,47,rfl,rfl⟩⟩
end Go.Proofs.YtiflckckekjbnaaDoor
