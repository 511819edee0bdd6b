/- Texts of a proof, one behind the other: E14 E15 E16 E17 E18 E19 E20 E21 E22 E23 E24 E25 E26 E27 E28 E10 E29 E30 S0 S1. -/
import Derived.Test.YteefpkhngighgaaGreatDoorMB1
import Derived.Laws.Externs
import Derived.RangeFuncLeaves
import Derived.RangeFuncRecord
import Derived.Laws.IdiomStrings
import Derived.Recover
import Derived.RecoverIn
import Derived.DefersIn
import Derived.WalkKit
import Derived.MapKept
import Derived.Maps.RangeRun
import Derived.JoinedOf
import Derived.LaidLaws
import Derived.Lay
import Derived.MakeChecks
import Derived.SevenTiedAt
import Derived.ChangeOld
import Derived.SizedLaws
import Derived.Deep.CondSized
import Derived.Test.YteefpkhngighgaaGreatDoorProg
namespace Go.Sx
open Go Go.RowKit
set_option linter.all false
def Zyb:Option Nat->Value->TS->TS
 | some d,v,t=>(d,v)::t
 | none,_,t=>t
def retM (W0:World) (S:List Nat) (R:Value->List Ze->Prop):Ending->World->Prop:=fun e w'=>∃ v m,e = .returned v/\R v m/\Sat W0 S m w'
theorem Zav {W0:World} {S:List Nat} {m:List Ze} {w:World} (h:Sat W0 S m w) {mS mr:List Ze} (hp:List.Perm (mS++mr) m):Sat w (mS.map (·.b)) mS w:=by
 have h':=h.perm hp
 refine ⟨⟨rfl,rfl,rfl,Nat.le_refl _,fun _ _ _=>rfl⟩,fun c hc=>h'.own c (List.mem_append_left _ hc),fun c hc=>.inr (List.mem_map.2 ⟨c,hc,rfl⟩),?_⟩
 have:=h'.dist
 rw [List.map_append,List.nodup_append] at this
 exact this.1
theorem Znu {W0:World} {S:List Nat} {m:List Ze} {w w':World} (h:Sat W0 S m w) {mS mr m':List Ze} (hp:List.Perm (mS++mr) m) (h':Sat w (mS.map (·.b)) m' w'):Sat W0 S (m'++mr) w':=by
 have hh:=h.perm hp
 have hd:=hh.dist
 rw [List.map_append,List.nodup_append] at hd
 have hbase : ∀ c∈mS,W0.heap.size<=c.b∨c.b∈S:=fun c hc=>hh.base c (List.mem_append_left _ hc)
 have hr : ∀ c∈mr,c.b<w.heap.size/\c.b∉mS.map (·.b):=fun c hc=>⟨hh.lt (List.mem_append_right _ hc),fun hm=>hd.2.2 _ hm _ (List.mem_map.2 ⟨c,hc,rfl⟩) rfl⟩
 refine ⟨⟨h'.fr.os.trans h.fr.os,h'.fr.tape.trans h.fr.tape,h'.fr.output.trans h.fr.output,Nat.le_trans h.fr.size h'.fr.size,fun k hk hS=>?_⟩,?_,?_,?_⟩
 ·rw [h'.fr.block k (Nat.lt_of_lt_of_le hk h.fr.size) ?_]
  ·exact h.fr.block k hk hS
  ·intro hm
   obtain ⟨c,hc,rfl⟩:=List.mem_map.1 hm
   rcases hbase c hc with h1 | h1
   ·omega
   ·exact hS h1
 ·intro c hc
  rcases List.mem_append.1 hc with hc | hc
  ·exact h'.own c hc
  ·rw [h'.fr.block c.b (hr c hc).1 (hr c hc).2]
   exact hh.own c (List.mem_append_right _ hc)
 ·intro c hc
  rcases List.mem_append.1 hc with hc | hc
  ·rcases h'.base c hc with h1 | h1
   ·exact .inl (Nat.le_trans h.fr.size h1)
   ·obtain ⟨c',hc',e⟩:=List.mem_map.1 h1
    rw [<- e]; exact hbase c' hc'
  ·exact hh.base c (List.mem_append_right _ hc)
 ·rw [List.map_append,List.nodup_append]
  refine ⟨h'.dist,hd.2.1,?_⟩
  intro a ha b hb e
  subst e
  obtain ⟨c,hc,rfl⟩:=List.mem_map.1 ha
  obtain ⟨c2,hc2,e2⟩:=List.mem_map.1 hb
  have:=hr c2 hc2
  rw [e2] at this
  rcases h'.base c hc with h1 | h1
  ·omega
  ·exact this.2 h1
section
variable {C:Cfg} {m:List Ze} {t:TS} {K:KN}
theorem Zoo {W0:World} {S:List Nat} {w:World} {b:Nat} {T:TypeId} {s:List Seg} (hw:Sat W0 S m w) (hb:Has b (.cells (cells s).toArray T (0,0)) m):Mem w b 0 s:=by
 have hown:=hw.own _ hb.mem
 refine ⟨fun i hi=>?_,(Array.getElem?_eq_some_iff.1 hown).1⟩
 rw [Nat.zero_add,Zcb hown]
theorem Z6w {w:World} {b o:Nat} {s:List Seg} (h:Mem C.W0 b o s) (hS:b∉C.S) (hw:Sat C.W0 C.S m w):Mem w b o s :=
 ⟨fun i hi=>h.now hS hw hi,Nat.lt_of_lt_of_le h.lt hw.fr.size⟩
theorem Zsy {d:Option Nat} {f:FuncId} {args:List Operand} {vs:List Value} {mS mr:List Ze} {R:Value->List Ze->Prop} (ha:evL t args=some vs) (hp:List.Perm (mS++mr) m)
  (hc : ∀ w,Sat C.W0 C.S m w->Calls C.P f vs.toArray w (retM w (mS.map (·.b)) R))
  (h : ∀ v m',R v m'->K (Zyb d v t) (m'++mr)):EF C m t d (.call f args) K:=by
 intro o ho hd a hat w hw
 unfold Oper.wp
 rw [Ztu ho,hat.evL ha]
 simp only [Oper.upon]
 refine (hc w hw).mono ?_
 rintro e w' ⟨v,m',rfl,hR,hs⟩
 have hsat:=Znu hw hp hs
 cases d with
 | none =>
  have hd0:o.dst=none:=by revert hd; cases o.dst <;> simp [okD]
  rw [hd0]
  exact ⟨_,_,h v m' hR,hat,hsat⟩
 | some d =>
  obtain ⟨hd1,hd2⟩:=Z44 hd
  rw [hd1]
  exact ⟨_,_,h v m' hR,hat.put hd2 v,hsat⟩
theorem Z00a {d:Option Nat} {f:FuncId} {args:List Operand} {vs:List Value} {R:Value->List Ze->Prop} (ha:evL t args=some vs)
  (hc : ∀ w,Sat C.W0 C.S m w->Calls C.P f vs.toArray w (retM w [] R))
  (h : ∀ v m',R v m'->K (Zyb d v t) (m'++m)):EF C m t d (.call f args) K :=
 Zsy (mS:=[]) ha (List.Perm.refl _) hc h
end
section
variable {C:Cfg} {m:List Ze} {t:TS} {K:KN}
theorem Zxb {k:IntKind} {N off n:Nat} {xs:List Int} (h:off+n<=N):((intsCells k N xs).drop off).take n=(tk xs off n).map (Value.int k):=by
 apply List.ext_getElem?
 intro j
 by_cases hj:j<n
 ·rw [List.getElem?_take_of_lt hj,List.getElem?_drop,Zrw,if_pos (by omega),List.getElem?_map,List.getElem?_eq_getElem (by rw [Z0c]; exact hj)]
  simp [tk]
 ·rw [List.getElem?_eq_none (by rw [List.length_take]; omega),List.getElem?_eq_none (by rw [List.length_map,Z0c]; omega)]
theorem Z0hm {size:Nat} {b off n c:Nat} {cs:List Value} (hl:cs.length=n*size) (h1 : ∀ u∈cs,one1 u=true)
  (h : ∀ w,Sat C.W0 C.S m w->∀ i,i<n*size->w.cell? ⟨b,off+i,none⟩=cs[i]?):Zzo C m size (.slice (some ⟨b,off,none⟩) n c) n cs :=
 ⟨fun _=>rfl,fun w hw k hk=>Zm8 hl (h w hw) hk,hl,h1⟩
theorem Ztg {w n:Nat} {g:Nat->List Value} (h : ∀ i,i<n->(g i).length=w /\ ∀ u∈g i,one1 u=true) : ∀ u∈Z15 w n g,one1 u=true:=by
 intro u hu
 unfold Z15 at hu
 obtain ⟨i,hi,hu⟩:=List.mem_flatMap.1 hu
 obtain ⟨h1,h2⟩:=h i (by simpa using hi)
 rw [Zb7 h1] at hu
 exact h2 u hu
def ExtF (P:Program) (f:FuncId) (e:Array Value->Sem Value):Prop :=
 ∃ fn,P.funcs[f]? = some fn/\(fn.name == "runtime.NumGoroutine")=false/\fn.body.isNone=true/\Extern.findNext fn=none/\Extern.find fn=some e
theorem Zgt {f:FuncId} {args:List Operand} {vs:List Value} {v:Value} {e:Array Value->Sem Value} (ha:evL t args=some vs) (he:ExtF C.P f e) (hr : ∀ w,(e vs.toArray).run C.P w = .ok v w):Q1 C m t (.xcall f args) v:=by
 intro o ho a hat w hw
 obtain ⟨fn,h1,h2,h3,h4,h5⟩:=he
 refine Z0k ?_
 simp only [Za9] at ho
 split at ho
 ·rename_i c heq
  simp only [Bool.and_eq_true] at ho
  obtain ⟨ho1,ho2⟩:=ho
  have hc:c.callee = .value (.func f):=by
   revert ho1
   cases c.callee <;> simp
   rename_i x
   cases x <;> simp
  have hargs:c.args.map a.eval=vs.toArray:=by
   have e1:=Z71 ho2
   have e2:=hat.evL ha
   apply Array.ext'
   rw [Array.toList_map,e1,e2]
  have h6:=run_callFunc_extern (P:=C.P) h1 h2 h3 h4 h5 vs.toArray w
  rw [hr w] at h6
  have hev:a.eval (.func f) = .func (.func f) #[] #[]:=rfl
  simp only [execOp,heq,resolve,hc,hev,Deferred.ofValue,Sem.run_bind,Sem.run_pure,Result.andThen_ok,invoke,Array.append_empty,Array.empty_append,hargs]
  rw [h6]; rfl
 ·cases ho
def Zhq:Array Value->Sem Value:=fun args=>do
 let (x,y,b) <- Extern.MathBitsCarry.three "Sub64" args
 pure (Extern.MathBitsCarry.pair ((x+Extern.MathBitsCarry.m64-y-b)%Extern.MathBitsCarry.m64) (if x<y+b then 1 else 0))
theorem Zyu {P:Program} (x y c:Int) (hx:0<=x) (hy:0<=y) (hy2:y<18446744073709551616) (hc0:0<=c) (hc:c<=1) (w:World) :
  (Zhq #[.int .u64 x,.int .u64 y,.int .u64 c]).run P w = .ok (.tuple #[.int .u64 ((x-y-c)%18446744073709551616),.int .u64 (if x<y+c then 1 else 0)]) w:=by
 have key : ∀ k:Nat,k<=1->(Zhq #[.int .u64 x,.int .u64 y,.int .u64 (k:Int)]).run P w =
   .ok (Extern.MathBitsCarry.pair ((x.toNat+Extern.MathBitsCarry.m64-y.toNat-k)%Extern.MathBitsCarry.m64) (if x.toNat<y.toNat+k then 1 else 0)) w:=by
  intro k hk
  have:k=0∨k=1:=by omega
  rcases this with rfl | rfl <;> rfl
 obtain ⟨k,rfl⟩:=Int.eq_ofNat_of_zero_le hc0
 rw [key k (by omega)]
 obtain ⟨X,rfl⟩:=Int.eq_ofNat_of_zero_le hx
 obtain ⟨Y,rfl⟩:=Int.eq_ofNat_of_zero_le hy
 simp only [Extern.MathBitsCarry.pair,Extern.MathBitsCarry.m64,Int.toNat_natCast]
 have e1:Int.ofNat ((X+2^64-Y-k)%2^64)=((X:Int)-Y-k)%18446744073709551616:=by
  simp only [Int.ofNat_eq_natCast]; omega
 have e2:Int.ofNat (if X<Y+k then 1 else 0)=if (X:Int)<Y+k then 1 else 0:=by
  by_cases h:X<Y+k
  ·rw [if_pos h,if_pos (by omega)]; rfl
  ·rw [if_neg h,if_neg (by omega)]; rfl
 rw [e1,e2]
def ieq (n:Nat) (a b:List Int):Bool:=decide (tk a 0 n=tk b 0 n)
theorem Zq1 {k:IntKind} {n:Nat} {a b:List Int}:ieq n a b=true↔cells [.ints k n a]=cells [.ints k n b]:=by
 simp only [ieq,decide_eq_true_eq,cells,Seg.cells,List.append_nil,Zxc]
 constructor
 ·intro h; rw [h]
 ·intro h
  refine List.map_inj_right (f:=Value.int k) (fun x y e=>?_) |>.1 h
  cases e; rfl
theorem Zkj {d:Nat} {T:TypeId} {z z':List Seg} (hz:cells z=cells z') (h : ∀ b,C.W0.heap.size<=b->K ((d,.pointer (some ⟨b,0,none⟩))::t) (ck b T z'::m)):EF C m t (some d) (.al T z) K :=
 Zu fun b hb=>by
  have:=h b hb
  unfold ck at this ⊢
  rw [hz]; exact this
theorem Z0pj {x:Operand} {b p base i len:Nat} {T:TypeId} {fz:Nat×Nat} {s:List Seg} {k:IntKind} {xs:List Int} (hx:ev t x=some (.pointer (some ⟨b,p,none⟩))) (hb:Has b (.cells (cells s).toArray T fz) m)
  (hs:Zca s base=some (.ints k len xs)) (hp:p=base+i) (hi:i<len):Q1 C m t (.ld 1 false x) (.int k (xs.getD i 0)) :=
 Z9f (base:=base) (i:=i) (by rw [hx,hp,Nat.mul_one]) hb hs hi
theorem Z092 {x y:Operand} {b p base i len:Nat} {T:TypeId} {s q:List Seg} {k:IntKind} {xs:List Int} {z:Int} {m':List Ze} (hx:ev t x=some (.pointer (some ⟨b,p,none⟩))) (hy:ev t y=some (.int k z))
  (hs:Zca s base=some (.ints k len xs)) (hp:p=base+i) (hi:i<len) (hq:Zfq s base (.ints k len (Z3z xs i z))=some q)
  (hup:Upd b (.cells (cells s).toArray T (0,0)) (.cells (cells q).toArray T (0,0)) m m') (h:K t m'):EF C m t none (.st 1 x y) K :=
 Z02l (base:=base) (i:=i) (by rw [hx,hp,Nat.mul_one]) hy hs hi hq hup h
end
end Go.Sx
namespace Go.Sx
open Go Go.RowKit
open List (replicate)
set_option linter.all false
section
variable {α β:Type} {r:β} {G:Prop}
def bnd (x:α) (f:α->Option β):Option β:=f x
def chk (c:Bool) (o:Option β):Option β:=bif c then o else none
def opt (o:Option α) (f:α->Option β):Option β:=o.bind f
def jn {K:Type} (k:K) (g:K->Option β):Option β:=g k
def br (c:Bool) (a b:Option β):Option β:=bif c then a else b
@[irreducible] def big:Nat:=18446744073709551616
theorem Z6d:big=18446744073709551616:=by unfold big; rfl
theorem Z0is {x:α} {f:α->Option β} (h : ∀ z,z=x->f z=some r->G):bnd x f=some r->G:=fun e=>h x rfl e
theorem Z0it {c:Bool} {o:Option β} (h:c=true->o=some r->G):chk c o=some r->G:=by
 intro e; cases c
 ·simp [chk] at e
 ·exact h rfl e
theorem Z0pb {o:Option α} {f:α->Option β} (h : ∀ y,o=some y->f y=some r->G):opt o f=some r->G:=by
 intro e; cases o with
 | none=>simp [opt] at e
 | some y=>exact h y rfl e
theorem jn_i {K:Type} {k:K} {g:K->Option β} (h : ∀ k',k'=k->g k'=some r->G):jn k g=some r->G:=fun e=>h k rfl e
theorem br_t {c:Bool} {a b:Option β} (h:br c a b=some r) (hc:c=true):a=some r:=by subst hc; exact h
theorem br_f {c:Bool} {a b:Option β} (h:br c a b=some r) (hc:c=false):b=some r:=by subst hc; exact h
theorem Z01 {a:β} (h:a=r->G):some a=some r->G:=fun e=>h (Option.some.inj e)
theorem Z1r:(none:Option β)=some r->G:=fun e=>by cases e
end
def inB (z:Int) (n:Nat):Bool:=decide (0<=z)&&decide (z<n)
theorem Z1w {z:Int} {n:Nat} (h:inB z n=true):0<=z/\z<n:=by simpa [inB] using h
theorem Z1i {z:Int} {n:Nat} (h:inB z n=true):z.toNat<n:=by have:=Z1w h; omega
def imp (a b:Bool):Bool := !a||b
theorem Zrv {a b:Bool} (h:imp a b=true) (ha:a=true):b=true:=by subst ha; simpa [imp] using h
theorem Zuz {a b:Bool} (h:imp (!a) b=true) (ha:a=false):b=true:=by subst ha; simpa [imp] using h
theorem Z0id {a b:Bool} (h:(a&&b)=true):a=true:=by simp at h; exact h.1
theorem Z0ie {a b:Bool} (h:(a&&b)=true):b=true:=by simp at h; exact h.2
def Zki (lo hi:Int) (n:Nat):Bool:=decide (0<=lo)&&decide (lo<=hi)&&decide (hi<=n)
theorem Zln {lo hi:Int} {n:Nat} (h:Zki lo hi n=true):0<=lo/\lo<=hi/\hi<=n:=by simp [Zki] at h; omega
abbrev Zr (k:IntKind) (p q:Int):Int:=p.fdiv (2^min q.toNat k.bits)
abbrev Z02 (k:IntKind) (p q:Int):Int:=k.wrap (p*2^min q.toNat k.bits)
def Zji {α:Type} (z:α) (xs:List α) (i:Nat) (v:α):List α:=if i<xs.length then xs.set i v else xs++(replicate (i-xs.length) z ++ [v])
theorem Z7p {α:Type} (z:α) (xs:List α) (i j:Nat) (v:α):(Zji z xs i v).getD j z=if j=i then v else xs.getD j z:=by
 unfold Zji
 by_cases h:i<xs.length
 ·rw [if_pos h]
  by_cases hj:j=i
  ·subst hj; simp [List.getD,h]
  ·simp [List.getD,List.getElem?_set,hj,Ne.symm hj]
 ·rw [if_neg h]
  simp only [List.getD]
  by_cases hj:j<xs.length
  ·rw [List.getElem?_append_left hj,if_neg (by omega)]
  ·rw [List.getElem?_append_right (by omega)]
   by_cases hji:j=i
   ·subst hji; rw [List.getElem?_append_right (by simp)]; simp
   ·rw [if_neg hji,List.getElem?_eq_none (l:=xs) (by omega)]
    by_cases hlt:j<i
    ·rw [List.getElem?_append_left (by simp; omega),List.getElem?_replicate]; split <;> rfl
    ·rw [List.getElem?_eq_none (by simp; omega)]
theorem Zd2 {α:Type} {z:α} {xs:List α} {i:Nat} {v:α} (h:i<xs.length):Zji z xs i v=xs.set i v:=if_pos h
inductive Ze2 (ms:List Ze):List Ze->List Ze->Prop
 | here {m:List Ze}:Ze2 ms (ms++m) m
 | there {c:Ze} {m m':List Ze}:Ze2 ms m m'->Ze2 ms (c::m) (c::m')
 | app {ns m m':List Ze}:Ze2 ms m m'->Ze2 ms (ns++m) (ns++m')
inductive Z40 (c:Ze):List Ze->List Ze->Prop
 | here {m:List Ze}:Z40 c (c::m) m
 | there {c':Ze} {m m':List Ze}:Z40 c m m'->Z40 c (c'::m) (c'::m')
 | app {ns m m':List Ze}:Z40 c m m'->Z40 c (ns++m) (ns++m')
theorem Z01c (ms ns m:List Ze):List.Perm (ms++(ns++m)) (ns++(ms++m)):=by
 rw [<- List.append_assoc,<- List.append_assoc]
 exact List.Perm.append_right m List.perm_append_comm
theorem Ze2.perm {ms m m':List Ze} (h:Ze2 ms m m'):List.Perm (ms++m') m:=by
 induction h with
 | here=>exact List.Perm.refl _
 | there _ ih=>exact List.perm_middle.trans (ih.cons _)
 | app _ ih=>exact (Z01c _ _ _).trans (List.Perm.append_left _ ih)
theorem Z40.perm {c:Ze} {m m':List Ze} (h:Z40 c m m'):List.Perm (c::m') m:=by
 induction h with
 | here=>exact List.Perm.refl _
 | there _ ih=>exact (List.Perm.swap _ _ _).trans (ih.cons _)
 | app _ ih=>exact (List.perm_middle.symm).trans (List.Perm.append_left _ ih)
inductive Zo3:List Ze->List Ze->Prop
 | nil {m:List Ze}:Zo3 [] m
 | all {ms M m m1:List Ze}:Ze2 ms m m1->Zo3 M m1->Zo3 (ms++M) m
 | one {c:Ze} {M m m1:List Ze}:Z40 c m m1->Zo3 M m1->Zo3 (c::M) m
 | no {M m:List Ze}:Zo3 M m->Zo3 ([]++M) m
theorem Zo3.rest {M m:List Ze} (h:Zo3 M m) : ∃ r,List.Perm (M++r) m:=by
 induction h with
 | nil=>exact ⟨_,List.Perm.refl _⟩
 | all h1 _ ih =>
  obtain ⟨r,hr⟩:=ih
  exact ⟨r,by rw [List.append_assoc]; exact (List.Perm.append_left _ hr).trans h1.perm⟩
 | one h1 _ ih =>
  obtain ⟨r,hr⟩:=ih
  exact ⟨r,by rw [List.cons_append]; exact (hr.cons _).trans h1.perm⟩
 | no _ ih=>exact ih
theorem Sat.psub {W0:World} {S:List Nat} {M m:List Ze} {w:World} (h:Sat W0 S m w) (hs:Zo3 M m):Sat W0 S M w:=by
 obtain ⟨r,hr⟩:=hs.rest
 exact (h.perm hr).sublist (List.sublist_append_left _ _)
theorem Sat.take {W0:World} {S:List Nat} {ms m m':List Ze} {w:World} (h:Sat W0 S m w) (hs:Ze2 ms m m'):Sat W0 S ms w :=
 (h.perm hs.perm).sublist (List.sublist_append_left _ _)
structure Fit (T:TS) (M:List Ze) (t:TS) (m:List Ze):Prop where
 t:subT T t
 m:Zo3 M m
section
variable {C:Cfg} {t:TS} {m:List Ze} {kn:KN} {ke:KE}
theorem Zm {c:IC} {T:TS} {M:List Ze} (hl:Fit T M t m) (h:WC C c T M kn ke):WC C c t m kn ke:=by
 intro hm c0 hok ρ fu Q a w ha hw hc
 exact h hm c0 hok ρ fu Q a w (ha.drop (Zz7 hl.t)) (hw.psub hl.m) hc
theorem Zo {a:IC} {G:TS->List Ze->Prop} (h1:WC C a t m G ke) (h2 : ∀ t m,G t m->kn t m):WC C a t m kn ke:=h1.mono h2
theorem Z07 {c:IC} (J:Nat->TS->List Ze->Prop) (n0:Nat) (h0:J n0 t m)
  (round : ∀ n t m,J n t m->WC C c t m (fun t' m'=>∃ n',n'<n/\J n' t' m') ke):WC C (.loop c) t m kn ke:=by
 intro hm c0 hok ρ fu Q a w ha hw hc
 cases c0 <;> first | (simp [okC] at hok; done) | skip
 rename_i c1
 simp only [okC] at hok
 refine Zzi (X:=Nat×TS×List Ze) (fun x a w=>J x.1 x.2.1 x.2.2/\Zdb C.n x.2.1 a/\Sat C.W0 C.S x.2.2 w) (fun x=>x.1) (x0:=(n0,t,m)) ⟨h0,ha,hw⟩ ?_
 rintro ⟨n,t1,m1⟩ a w ⟨hI,ha,hw⟩
 refine round n t1 m1 hI hm c1 hok ρ fu _ a w ha hw ⟨?_,hc.b,hc.r,hc.p⟩
 rintro t' m' ⟨n',hlt,hJ⟩ a' w' ha' hw'
 exact ⟨(n',t',m'),⟨hJ,ha',hw'⟩,hlt⟩
end
structure El (α:Type) where
 w:Nat
 cell:α->List Value
 len : ∀ a,(cell a).length=w
 one : ∀ a,∀ v∈cell a,one1 v=true
 pos:0<w
 z:α
abbrev El.int (k:IntKind):El Int:=⟨1,fun x=>[.int k x],fun _=>rfl,fun _ v h=>by simp at h; subst h; rfl,by decide,0⟩
def Zaa {α:Type} (E:El α) (xs:List α):Nat->List Value:=fun i=>E.cell (xs.getD i E.z)
theorem Z52 : ∀ v∈cells [],one1 v=true:=fun v h=>by cases h
theorem Z0y {s:Seg} {r:List Seg} (h1 : ∀ v∈s.cells,one1 v=true) (h2 : ∀ v∈cells r,one1 v=true) : ∀ v∈cells (s::r),one1 v=true:=by
 intro v hv
 simp only [cells,List.mem_append] at hv
 exact hv.elim (h1 v) (h2 v)
theorem Z5i {u:Value} (h:one1 u=true) : ∀ v∈(Seg.one u).cells,one1 v=true:=by
 intro v hv; simp only [Seg.cells,List.mem_singleton] at hv; subst hv; exact h
theorem Z9x {k:IntKind} {n:Nat} {xs:List Int} : ∀ v∈(Seg.ints k n xs).cells,one1 v=true:=by
 intro v hv; simp only [Seg.cells,intsCells,List.mem_map] at hv; obtain ⟨_,_,rfl⟩:=hv; rfl
theorem Zek {α:Type} {E:El α} {n:Nat} {xs:List α} : ∀ v∈(Seg.rows E.w n (Zaa E xs)).cells,one1 v=true:=by
 intro v hv
 exact Ztg (w:=E.w) (n:=n) (g:=Zaa E xs) (fun i _=>⟨E.len _,E.one _⟩) v hv
theorem Z00k {α:Type} {E:El α} (x:α):fit E.w (E.cell x)=E.cell x:=Zb7 (E.len x)
def Z6m {α:Type} (E:El α) (W:World) (v:Value) (xs:List α):Prop :=
 (v = .slice none 0 0/\xs = [])∨(∃ b o cp,v = .slice (some ⟨b,o,none⟩) xs.length cp/\xs.length<=cp /\ ∀ i,i<xs.length->∀ j,j<E.w->W.cell? ⟨b,o+(i*E.w+j),none⟩=(E.cell (xs.getD i E.z))[j]?) ∨ ∃ a,v = .slice (some a) 0 0/\xs = []
def Zms {α:Type} (C:Cfg) (m:List Ze) (E:El α) (v:Value) (xs:List α):Prop:=∀ w,Sat C.W0 C.S m w->Z6m E w v xs
def Z09 {α:Type} (E:El α) (v:Value) (ms:List Ze) (xs:List α):Prop :=
 (v = .slice none 0 0/\xs = []/\ms = []) ∨ ∃ b o cp T cs,v = .slice (some ⟨b,o,none⟩) xs.length cp/\xs.length<=cp/\ms = [⟨b,.cells (cells cs).toArray T (0,0)⟩]/\o+cp*E.w<=width cs /\
  ∀ i,i<xs.length->∀ j,j<E.w->(cells cs)[o+(i*E.w+j)]? = (E.cell (xs.getD i E.z))[j]?
theorem Zao {α:Type} {E:El α}:Z09 E (.slice none 0 0) [] []:=.inl ⟨rfl,rfl,rfl⟩
theorem Z0hh {α:Type} {E:El α} {W:World}:Z6m E W (.slice none 0 0) []:=.inl ⟨rfl,rfl⟩
theorem Z6m.own {α:Type} {E:El α} {v:Value} {ms:List Ze} {xs:List α} (h:Z09 E v ms xs) {W0:World} {S:List Nat} {w:World} (hw:Sat W0 S ms w):Z6m E w v xs:=by
 rcases h with ⟨h1,h2,h3⟩ | ⟨b,o,cp,T,cs,h1,h2,h3,h4,h5⟩
 ·exact .inl ⟨h1,h2⟩
 ·refine .inr (.inl ⟨b,o,cp,h1,h2,fun i hi j hj=>?_⟩)
  subst h3
  rw [Zcb (hw.own _ List.mem_cons_self),h5 i hi j hj]
theorem Z6m.same {α:Type} {E:El α} {W w:World} {v:Value} {xs:List α} (h:Z6m E W v xs) (hb : ∀ b o x,(∀ a n c,v = .slice (some a) n c->a.block=b)->W.cell? ⟨b,o,none⟩=some x->w.cell? ⟨b,o,none⟩=some x):Z6m E w v xs:=by
 rcases h with h | ⟨b,o,cp,h1,h2,h3⟩ | h
 ·exact .inl h
 rotate_left 1
 ·exact .inr (.inr h)
 ·refine .inr (.inl ⟨b,o,cp,h1,h2,fun i hi j hj=>?_⟩)
  have h4:=h3 i hi j hj
  have h5:j<(E.cell (xs.getD i E.z)).length:=by rw [E.len]; exact hj
  rw [List.getElem?_eq_getElem h5] at h4 ⊢
  exact hb b _ _ (fun a n c e=>by rw [h1] at e; injection e with e; injection e with e; rw [<- e]) h4
theorem Zju {W:World} {b o:Nat} {x:Value} (h:W.cell? ⟨b,o,none⟩=some x):b<W.heap.size:=by
 rcases Nat.lt_or_ge b W.heap.size with h1 | h1
 ·exact h1
 ·have:W.heap[b]? = none:=Array.getElem?_eq_none h1
  simp [World.cell?,this] at h
theorem Z6m.below {α:Type} {E:El α} {W w:World} {v:Value} {xs:List α} (h:Z6m E W v xs) (hb:Below W.heap.size W w):Z6m E w v xs :=
 h.same fun b o x _ hx=>by rw [hb.cell (p:=⟨b,o,none⟩) (Zju hx)]; exact hx
section
variable {α:Type} {C:Cfg} {m:List Ze} {t:TS} {K:KN} {E:El α} {v:Value} {xs:List α}
def Zcl (v:Value) (xs:List α) (S:List Nat):Prop:=∀ a n c,v = .slice (some a) n c->0<xs.length->a.block∉S
theorem Z1m (h:Z6m E C.W0 v xs) (hS:Zcl v xs C.S):Zms C m E v xs:=by
 intro w hw
 rcases h with h | ⟨b',o',cp,h1,h2,h3⟩ | h
 ·exact .inl h
 rotate_left 1
 ·exact .inr (.inr h)
 ·by_cases h0:0<xs.length
  ·refine Z6m.same (.inr (.inl ⟨b',o',cp,h1,h2,h3⟩)) fun b o x hb hx=>?_
   have e:=hb _ _ _ h1
   subst e
   rw [<- hx]
   unfold World.cell?; simp only [hw.fr.block _ (Zju hx) (hS _ _ _ h1 h0)]
  ·exact .inr (.inl ⟨b',o',cp,h1,h2,fun i hi=>by omega⟩)
theorem Z1u:Zcl v xs []:=fun _ _ _ _ _=>by simp
theorem Zco {W0 w:World} {ms m1:List Ze} {b:Nat} {o:Obj} {T:List Nat} (hO:Z09 E v ms xs) (hT:Ze2 ms m m1) (hb:Has b o m1) (hw:Sat W0 T m w):Zcl v xs [b]:=by
 rcases hO with ⟨h1,h2,h3⟩ | ⟨b1,o1,cp,T1,cs,h1,h2,h3,h4,h5⟩
 ·intro a n c e h0; subst h2; simp at h0
 ·intro a n c e h0
  subst h1
  injection e with e; injection e with e; subst e
  subst h3
  have hd:=(hw.perm hT.perm).dist
  simp only [List.cons_append,List.nil_append,List.map_cons,List.nodup_cons] at hd
  intro hm
  simp only [List.mem_singleton] at hm
  exact hd.1 (hm▸List.mem_map.2 ⟨_,hb.mem,rfl⟩)
theorem Zlj {W0 w:World} {b:Nat} {o:Obj} (h:Z6m E W0 v xs) (hb:Has b o m) (hw:Sat W0 [] m w):Zcl v xs [b]:=by
 intro a n c e h0
 rcases h with ⟨h1,h2⟩ | ⟨b',o',cp,h1,h2,h3⟩ | ⟨_,_,h2⟩
 ·subst h2; simp at h0
 rotate_left 1
 ·subst h2; simp at h0
 ·rw [h1] at e
  injection e with e; injection e with e; subst e
  intro hm
  simp only [List.mem_singleton] at hm
  have h4:=h3 0 h0 0 E.pos
  have h5:0<(E.cell (xs.getD 0 E.z)).length:=by rw [E.len]; exact E.pos
  rw [List.getElem?_eq_getElem h5] at h4
  have:=Zju h4
  rcases hw.base _ hb.mem with h6 | h6
  ·simp only at h6; omega
  ·simp at h6
theorem Zqv {b o l n w:Nat}:(Z1y b o l n w).block=b:=by unfold Z1y; split <;> rfl
theorem Z0b {ms mr:List Ze} (hO:Z09 E v ms xs) (hT:Ze2 ms m mr):Zms C m E v xs:=fun _ hw=>Z6m.own hO (hw.take hT)
theorem Zyo {ms:List Ze} (hO:Z09 E v ms xs):Zms C ms E v xs:=fun _ hw=>Z6m.own hO hw
theorem Zyn {ms mr:List Ze} (h:Zms C ms E v xs) (hT:Ze2 ms m mr):Zms C m E v xs:=fun w hw=>h w (hw.take hT)
theorem iz {k:IntKind} {z e:Int} {op:IOp} (h:z=e) (q:Q1 C m t op (.int k e)):Q1 C m t op (.int k z):=h▸q
def Zaf:Value->Addr
 | .slice (some a) _ _=>a
 | _=>⟨0,0,none⟩
theorem Z003 {W:World} {b o1:Nat} {j c n:Nat} {s p:List Seg} (h3 : ∀ k,k<E.w->W.cell? ⟨b,o1+(j*E.w+k),none⟩=(E.cell (xs.getD j E.z))[k]?) (hc:E.cell (xs.getD j E.z)=cells s) (hp:sub s c n=some p) (k:Nat) (hk:k<n) :
  W.cell? ⟨b,o1+j*E.w+c+k,none⟩=(cells p)[k]? := by
 obtain ⟨e1,e2,e3⟩:=Z8o hp
 have hw:width s=E.w:=by rw [<- cells_length,<- hc,E.len]
 have:=h3 (c+k) (by rcases e3 with e3 | e3 <;> omega)
 rw [show o1+j*E.w+c+k=o1+(j*E.w+(c+k)) by omega,this,hc,e1,List.getElem?_take_of_lt hk,List.getElem?_drop]
theorem Z0pi {n:Nat} {x:Operand} {j c:Nat} {s p:List Seg} (hx:ev t x=some (.pointer (some ⟨(Zaf v).block,(Zaf v).off+j*E.w+c,none⟩))) (hs:Zms C m E v xs) (hj:j<xs.length) (hc:E.cell (xs.getD j E.z)=cells s) (hp:sub s c n=some p) :
  Q1 C m t (.ld n true x) (agg p):=by
 intro o ho a ha w hw
 obtain ⟨e1,e2,e3⟩:=Z8o hp
 rcases hs w hw with ⟨h1,h2⟩ | ⟨b,o1,cp,h1,h2,h3⟩ | ⟨_,_,h2⟩
 ·subst h2; simp at hj
 rotate_left 1
 ·subst h2; simp at hj
 ·subst h1
  refine Z0k ?_
  rw [Z4u (l:=cells p) ho (ha.ev hx) (by rw [cells_length]; exact e2) (fun k hk=>Z003 (h3 j hj) hc hp k hk) (fun h=>by cases h)]
  rfl
theorem Zyh {n:Nat} {x:Operand} {j:Nat} {s p:List Seg} (hx:ev t x=some (.pointer (some ⟨(Zaf v).block,(Zaf v).off+j*E.w,none⟩))) (hs:Zms C m E v xs) (hj:j<xs.length) (hc:E.cell (xs.getD j E.z)=cells s) (hp:sub s 0 n=some p) :
  Q1 C m t (.ld n true x) (agg p):=Z0pi (c:=0) hx hs hj hc hp
theorem Zwe {s:List Seg} {c:Nat} {u:Value} (h:Z8h s c=some u):c<width s:=by
 rw [Ze8] at h
 have:=(List.getElem?_eq_some_iff.1 h).1
 rwa [cells_length] at this
theorem Z0e4 {x:Operand} {j c:Nat} {s:List Seg} {u:Value} (hx:ev t x=some (.pointer (some ⟨(Zaf v).block,(Zaf v).off+j*E.w+c,none⟩))) (hs:Zms C m E v xs) (hj:j<xs.length) (hc:E.cell (xs.getD j E.z)=cells s) (hp:Z8h s c=some u) :
  Q1 C m t (.ld 1 false x) u:=by
 intro o ho a ha w hw
 rcases hs w hw with ⟨h1,h2⟩ | ⟨b,o1,cp,h1,h2,h3⟩ | ⟨_,_,h2⟩
 ·subst h2; simp at hj
 rotate_left 1
 ·subst h2; simp at hj
 ·subst h1
  refine Z0k ?_
  have hw:width s=E.w:=by rw [<- cells_length,<- hc,E.len]
  have hlt:=Zwe hp
  rw [Z4u (l:=[u]) ho (ha.ev hx) rfl (fun k hk=>by
   obtain rfl:k=0:=by omega
   have:=h3 j hj c (by omega)
   simp only [Zaf,Nat.add_zero,List.getElem?_cons_zero]
   rw [show o1+j*E.w+c=o1+(j*E.w+c) by omega,this,hc,<- Ze8]
   exact hp) (fun _=>rfl)]
  rfl
theorem Zaq {x:Operand} {j:Nat} {s:List Seg} {u:Value} (hx:ev t x=some (.pointer (some ⟨(Zaf v).block,(Zaf v).off+j*E.w,none⟩))) (hs:Zms C m E v xs) (hj:j<xs.length) (hc:E.cell (xs.getD j E.z)=cells s) (hp:Z8h s 0=some u) :
  Q1 C m t (.ld 1 false x) u:=Z0e4 (c:=0) hx hs hj hc hp
theorem Z06i {k:IntKind} {n:Nat} {x:Operand} {ys:List Int} (hx:ev t x=some (.pointer (some ⟨(Zaf v).block,(Zaf v).off,none⟩))) (hs:Zms C m (El.int k) v ys) (h0:0<n) (hn:decide (n<=ys.length)=true) :
  Q1 C m t (.ld n true x) (agg [.ints k n (tk ys 0 n)]):=by
 intro o ho a ha w hw
 have hn:=of_decide_eq_true hn
 rcases hs w hw with ⟨h1,h2⟩ | ⟨b,o1,cp,h1,h2,h3⟩ | ⟨_,_,h2⟩
 ·subst h2; simp at hn; omega
 rotate_left 1
 ·subst h2; simp at hn; omega
 ·subst h1
  refine Z0k ?_
  rw [Z4u (l:=cells [.ints k n (tk ys 0 n)]) ho (ha.ev hx) (by rw [cells_length]; rfl) (fun i hi=>?_) (fun h=>by cases h)]
  ·rfl
  ·have:=h3 i (by omega) 0 (El.int k).pos
   simp only [Zaf,cells,Seg.cells,List.append_nil]
   simp only [Nat.mul_one,Nat.add_zero] at this
   rw [this,Z2n hi,Zh5,if_pos hi,Nat.zero_add]
   rfl
def Zed (w:Nat) (v:Value) (lo hi:Nat):Value:=match v with
 | .slice (some ⟨b,o,none⟩) _ cp=>.slice (some (Z1y b o lo cp w)) (hi-lo) (cp-lo)
 | .slice (some a) n c=>.slice (some a) n c
 | _=>.slice none 0 0
theorem Zlo {w:Nat} {a:Addr}:Zed w (.slice (some a) 0 0) 0 0 = .slice (some a) 0 0:=by
 obtain ⟨b,o,sp⟩:=a
 cases sp with
 | none=>simp [Zed,Z1y]
 | some k=>rfl
theorem Z0e9 {w:Nat} {x:Operand} {lo hi:Option Operand} {lz hz:Int} {a3:Addr} (hx:ev t x=some (.slice (some a3) 0 0)) (hl:Zkz t 0 lo lz) (hh:Zkz t (0:Nat) hi hz)
  (hb:lz=0/\hz=0):Q1 C m t (.sls w x lo hi none) (.slice (some a3) 0 0):=by
 obtain ⟨rfl,rfl⟩:=hb
 intro o ho a ha wd hw
 refine Z0k ?_
 simp only [Za9] at ho
 split at ho
 ·rename_i T x' lo' hi' mx' heq
  simp only [Bool.and_eq_true] at ho
  obtain ⟨⟨⟨⟨h1,h2⟩,h3⟩,h4⟩,h5⟩:=ho
  have e1:=Z0i h1; have e2:=Z56 h2; have e3:=Z56 h3; have e4:=Z56 h4
  subst e1; subst e2; subst e3; subst e4
  split at h5
  ·rename_i el hu
   simp only [execOp,heq,ha.ev hx]
   refine Zcy ?_
   simp only [Instr.sliceAt,Instr.slice,Sem.run_bind,Zq hu,Result.andThen_ok,Sem.run_pure,Z9z (isS:=true) (cap:=0) (mz:=0) ha hl hh .no (by simp) (by omega) (by omega) (by omega) (by omega),Z3n h5]
   simp
  ·cases h5
 ·cases ho
theorem Z07q {z:α} {ys:List α} {lo n i:Nat} (h:i<n) (hn:lo+n<=ys.length):((ys.drop lo).take n).getD i z=ys.getD (lo+i) z:=by
 simp only [List.getD,List.getElem?_take_of_lt h,List.getElem?_drop]
theorem Z0hg {lz hz:Int} (hs:Zms C m E v xs) (hb:Zki lz hz xs.length=true):Zms C m E (Zed E.w v lz.toNat hz.toNat) ((xs.drop lz.toNat).take (hz.toNat-lz.toNat)):=by
 intro w hw
 have hb:=Zln hb
 have hlen:((xs.drop lz.toNat).take (hz.toNat-lz.toNat)).length=hz.toNat-lz.toNat:=by rw [List.length_take,List.length_drop]; omega
 rcases hs w hw with ⟨h1,h2⟩ | ⟨b,o1,cp,h1,h2,h3⟩ | ⟨a3,h1,h2⟩
 ·subst h1; subst h2
  simp only [List.length_nil] at hb
  exact .inl ⟨rfl,by simp⟩
 rotate_left 1
 ·subst h1; subst h2
  simp only [List.length_nil] at hb
  have e1:lz.toNat=0:=by omega
  have e2:hz.toNat=0:=by omega
  rw [e1,e2,Zlo]
  exact .inr (.inr ⟨a3,rfl,by simp⟩)
 ·subst h1
  by_cases hc:cp=lz.toNat
  ·refine .inr (.inl ⟨b,o1,cp-lz.toNat,?_,by omega,fun i hi=>?_⟩)
   ·simp only [Zed,Z1y,hlen,hc,if_true]
   ·omega
  ·refine .inr (.inl ⟨b,o1+lz.toNat*E.w,cp-lz.toNat,?_,by omega,fun i hi j hj=>?_⟩)
   ·simp only [Zed,Z1y,hlen,hc,if_false]
   ·rw [hlen] at hi
    rw [Z07q hi (by omega),<- h3 (lz.toNat+i) (by omega) j hj]
    congr 2
    rw [Nat.add_mul]; omega
theorem Z1t {b T base N lo hi mz:Nat} {fz:Nat×Nat} {s:List Seg} {k:IntKind} {ys:List Int} (hb:Has b (.cells (cells s).toArray T fz) m) (hs:Zca s base=some (.ints k N ys)) (h:lo<=hi/\hi<=mz/\mz<=N) :
  Zms C m (El.int k) (.slice (some (Z1y b base lo mz 1)) (hi-lo) (mz-lo)) (tk ys lo (hi-lo)):=by
 intro w hw
 by_cases hc:mz=lo
 ·refine .inr (.inl ⟨b,base,mz-lo,?_,by rw [Z0c]; omega,fun i hi=>?_⟩)
  ·simp only [Z1y,hc,if_true,Z0c]
  ·rw [Z0c] at hi; omega
 ·refine .inr (.inl ⟨b,base+lo*1,mz-lo,?_,by rw [Z0c]; omega,fun i hi j hj=>?_⟩)
  ·simp only [Z1y,hc,if_false,Z0c]
  ·rw [Z0c] at hi
   obtain rfl:j=0:=by simp only at hj; omega
   have hseg:=Z82 hs (lo+i) (by simp only [Seg.width]; omega)
   rw [Zh5,if_pos hi]
   have:=hw.own _ hb.mem
   have hcell:w.cell? ⟨b,base+(lo+i),none⟩=(cells s)[base+(lo+i)]? := by
    simp only [World.cell?,this]
    simp
   simp only [Nat.mul_one,Nat.add_zero]
   rw [show base+lo+i=base+(lo+i) by omega,hcell,hseg]
   simp only [Seg.cells]
   rw [Z2n (by omega)]
   rfl
theorem EF.perm {d:Option Nat} {op:IOp} {m':List Ze} (hp:List.Perm m' m) (h:EF C m' t d op K):EF C m t d op K :=
 fun o ho hd a ha w hw=>h o ho hd a ha w (hw.perm hp)
theorem Zbx {x y:Operand} {b off:Nat} {T:TypeId} {s q q':List Seg} {u:Value} {m':List Ze} (e:q'=q) (hx:ev t x=some (.pointer (some ⟨b,off,none⟩))) (hy:ev t y=some u) (hv:one1 u=true) (hq:putC s off u=some q')
  (hup:Upd b (.cells (cells s).toArray T (0,0)) (.cells (cells q).toArray T (0,0)) m m') (h:K t m'):EF C m t none (.st 1 x y) K:=by subst e; exact Zgc hx hy hv hq hup h
theorem Z5x {x y:Operand} {b base i len:Nat} {T:TypeId} {s q:List Seg} {k:IntKind} {ys ys':List Int} {z:Int} {m':List Ze} (e:ys'=Z3z ys i z) (hx:ev t x=some (.pointer (some ⟨b,base+i*1,none⟩))) (hy:ev t y=some (.int k z))
  (hs:Zca s base=some (.ints k len ys)) (hi:i<len) (hq:Zfq s base (.ints k len ys')=some q)
  (hup:Upd b (.cells (cells s).toArray T (0,0)) (.cells (cells q).toArray T (0,0)) m m') (h:K t m'):EF C m t none (.st 1 x y) K:=by subst e; exact Z02l hx hy hs hi hq hup h
theorem Z01o (ys:List α) (i:Nat) (y:α):Zaa E (Zji E.z ys i y)=updR (Zaa E ys) i (E.cell y):=by
 funext j
 simp only [Zaa,updR,Z7p]
 split <;> rfl
theorem Zrn {x y:Operand} {b base i len:Nat} {T:TypeId} {s q:List Seg} {u:Value} {y0:α} {ys ys':List α} {m':List Ze} (e:ys'=Zji E.z ys i y0) (hx:ev t x=some (.pointer (some ⟨b,base+i*E.w,none⟩))) (hy:ev t y=some u) (hu:u.cells.toList=E.cell y0)
  (hs:Zca s base=some (.rows E.w len (Zaa E ys))) (hi:i<len) (hq:Zfq s base (.rows E.w len (Zaa E ys'))=some q)
  (hup:Upd b (.cells (cells s).toArray T (0,0)) (.cells (cells q).toArray T (0,0)) m m') (h:K t m'):EF C m t none (.st E.w x y) K:=by
 subst e
 rw [Z01o] at hq
 obtain ⟨e1,e2,e3⟩:=Zh0 hq
 have hw:=Zd1 hs
 simp only [Seg.width] at hw e3
 have hle:i*E.w+E.w<=len*E.w:=by rw [<- Nat.succ_mul]; exact Nat.mul_le_mul_right E.w hi
 have hpl:(E.cell y0).length=E.w:=E.len y0
 have key:cells q=Z1c (cells s) (base+i*E.w) (E.cell y0):=by
  rw [e1]
  simp only [Seg.cells,Zp4 E.w len (Zaa E ys) i (E.cell y0) hi hpl]
  exact Zfa (by rw [Z1n,cells_length]; omega) (by rw [Z1n]; omega) (fun j hj=>Z82 hs j (by rw [Z1n] at hj; exact hj))
 rw [key] at hup
 exact Znc hx hy (vs:=E.cell y0) hu hpl hup (by rw [cells_length]; omega) (E.one y0) h
theorem Z24 (l:List Value):cells (l.map Seg.one)=l:=by
 induction l with
 | nil=>rfl
 | cons a r ih=>simp [cells,Seg.cells,ih]
theorem Z8a (l:List Value):width (l.map Seg.one)=l.length:=by rw [<- cells_length,Z24]
def cellsOf (E:El α) (xs:List α):List Value:=Z15 E.w xs.length (Zaa E xs)
theorem Z1e:(cellsOf E xs).length=xs.length*E.w:=Z1n _ _ _
theorem Z6n {i j:Nat} (hi:i<xs.length) (hj:j<E.w):(cellsOf E xs)[i*E.w+j]? = (E.cell (xs.getD i E.z))[j]? := by
 unfold cellsOf
 rw [Z8k hi hj]
 simp only [Zaa,Z00k]
theorem Zrj : ∀ u∈cellsOf E xs,one1 u=true:=Ztg fun i _=>⟨E.len _,E.one _⟩
theorem Zsc {w:World} (hs:Zms C m E v xs) (hw:Sat C.W0 C.S m w):Zzo C m E.w v xs.length (cellsOf E xs):=by
 rcases hs w hw with ⟨h1,h2⟩ | ⟨b,o1,cp,h1,h2,h3⟩ | ⟨a3,h1,h2⟩
 ·subst h1; subst h2; exact Zu6
 rotate_left 1
 ·subst h1; subst h2; exact Zu6
 ·subst h1
  refine Z0hm Z1e Zrj fun w' hw' i hi=>?_
  rcases hs w' hw' with ⟨h1',_⟩ | ⟨b',o1',cp',h1',h2',h3'⟩ | ⟨_,_,h2'⟩
  ·cases h1'
  rotate_left 1
  ·subst h2'; simp at hi
  ·injection h1' with h1' _ h1c
   injection h1' with h1'
   injection h1' with hb ho _
   subst hb; subst ho
   have hp:=E.pos
   have hq:i / E.w<xs.length:=Nat.div_lt_of_lt_mul (by rw [Nat.mul_comm]; exact hi)
   have hr:=Nat.mod_lt i hp
   have he:i / E.w*E.w+i%E.w=i:=by have:=Nat.div_add_mod i E.w; rw [Nat.mul_comm] at this; exact this
   have:=h3' (i / E.w) hq (i%E.w) hr
   rw [he] at this
   rw [this,<- Z6n hq hr,he]
theorem Zlp {x y:Operand} {ms mr:List Ze} {i:Nat} {u:Value} {y0:α} {xs':List α} (e:xs'=Zji E.z xs i y0) (hO:Z09 E v ms xs) (hT:Ze2 ms m mr) (hx:ev t x=some (.pointer (some ⟨(Zaf v).block,(Zaf v).off+i*E.w,none⟩)))
  (hy:ev t y=some u) (hu:u.cells.toList=E.cell y0) (hi:i<xs.length) (h : ∀ ms',Z09 E v ms' xs'->K t (ms'++mr)):EF C m t none (.st E.w x y) K:=by
 refine EF.perm hT.perm ?_
 rcases hO with ⟨h1,h2,h3⟩ | ⟨b,o,cp,T,cs,h1,h2,h3,h4,h5⟩
 ·subst h2; simp at hi
 ·subst h1; subst h3; subst e
  have hle:i*E.w+E.w<=cp*E.w:=by rw [<- Nat.succ_mul]; exact Nat.mul_le_mul_right _ (by omega)
  have hpl:(E.cell y0).length=E.w:=E.len y0
  have hin:o+i*E.w+E.w<=(cells cs).length:=by rw [cells_length]; omega
  refine Znc (l:=cells cs) (vs:=E.cell y0) (T:=T) (m':=[⟨b,.cells (cells ((Z1c (cells cs) (o+i*E.w) (E.cell y0)).map Seg.one)).toArray T (0,0)⟩]++mr) hx hy hu hpl ?_ hin (E.one y0) (h _ (.inr ⟨b,o,cp,T,_,?_,?_,rfl,?_,?_⟩))
  ·rw [Z24]; exact Upd.here
  ·rw [Zd2 hi,List.length_set]
  ·rw [Zd2 hi,List.length_set]; exact h2
  ·rw [Z8a,Z1c,List.length_append,List.length_append,List.length_take,List.length_drop,hpl,cells_length]
   have:=cells_length cs; omega
  ·intro i' hi' j hj
   rw [Zd2 hi,List.length_set] at hi'
   rw [Z24,Zew (by rw [hpl]; exact hin),Z7p,hpl]
   by_cases hii:i'=i
   ·subst hii
    rw [if_pos (by omega),if_pos rfl]
    congr 1; omega
   ·rw [if_neg hii,if_neg ?_,h5 i' hi' j hj]
    intro hcon
    rcases Nat.lt_or_ge i' i with hl | hl
    ·have:i'*E.w+E.w<=i*E.w:=by rw [<- Nat.succ_mul]; exact Nat.mul_le_mul_right _ hl
     omega
    ·have:i*E.w+E.w<=i'*E.w:=by rw [<- Nat.succ_mul]; exact Nat.mul_le_mul_right _ (by omega)
     omega
theorem Zgi {z:α} {ys:List α} {i:Nat} (h:i<xs.length):(xs++ys).getD i z=xs.getD i z:=by simp [List.getD,List.getElem?_append_left h]
theorem Zgj {z:α} {ys:List α} {i:Nat} (h:xs.length<=i):(xs++ys).getD i z=ys.getD (i-xs.length) z:=by simp [List.getD,List.getElem?_append_right h]
theorem Z9r {d:Nat} {T:TypeId} {bytes:Nat} {z:List Seg} {x y:Operand} {ms mr:List Ze} {u:Value} {ys xs':List α} (e:xs'=xs++ys) (hx:ev t x=some v) (hO:Z09 E v ms xs) (hT:Ze2 ms m mr) (hy:ev t y=some u) (hs:Zms C m E u ys)
  (hsz:decide ((xs.length+ys.length)*bytes<=140737488355328)=true) (h : ∀ v' ms',Z09 E v' ms' xs'->K ((d,v')::t) (ms'++mr)):EF C m t (some d) (.app T E.w bytes z x y) K:=by
 subst e
 have hsz:=of_decide_eq_true hsz
 intro o ho hd a ha w hw
 have hS:Zzo C (ms++mr) E.w u ys.length (cellsOf E ys):=Zsc (w:=w) (fun w' hw'=>hs w' (hw'.perm hT.perm.symm)) (hw.perm hT.perm)
 refine EF.perm hT.perm (EF.less (?_:EF C (ms++mr) t (some d) (.app T E.w bytes z x y) _)) o ho hd a ha w hw
 have hzw:width z=E.w:=by
  simp only [Za9] at ho
  split at ho
  ·simp only [Bool.and_eq_true,Nat.beq_eq] at ho
   exact ho.1.2
  ·cases ho
 rcases hO with ⟨h1,h2,h3⟩ | ⟨b,o1,cp,T',cs,h1,h2,h3,h4,h5⟩
 ·subst h1; subst h2; subst h3
  refine Z04m hx hy hS (by simpa using hsz) (fun h0=>?_) (fun h0 b' cp' hb' hc'=>?_)
  ·have hys:ys = []:=List.eq_nil_of_length_eq_zero h0
   subst hys
   exact ⟨_,h _ _ Zao,List.Sublist.refl _⟩
  ·refine ⟨(cellsOf E ys++(replicate (cp'-ys.length) (cells z)).flatten).map Seg.one,Z24 _,?_⟩
   refine ⟨_,h _ [⟨b',_⟩] (.inr ⟨b',0,cp',T,_,by simp,by simpa using hc',rfl,?_,?_⟩),List.Sublist.refl _⟩
   ·rw [Z8a,List.length_append,Z1e]
    simp only [List.length_flatten,List.map_replicate,List.sum_replicate_nat,cells_length,hzw,Nat.zero_add]
    rw [<- Nat.add_mul]
    exact Nat.mul_le_mul_right _ (by omega)
   ·intro i hi j hj
    simp only [List.nil_append] at hi ⊢
    have:i*E.w+E.w<=ys.length*E.w:=by rw [<- Nat.succ_mul]; exact Nat.mul_le_mul_right _ hi
    rw [Z24,Nat.zero_add,List.getElem?_append_left (by rw [Z1e]; omega),Z6n hi hj]
 ·subst h1; subst h3
  refine Z08w hx Has.here hy hS h4 h2 hsz (fun hr=>?_) (fun hg b' cp' hb' hc'=>?_)
  ·have hle:(xs.length+ys.length)*E.w<=cp*E.w:=Nat.mul_le_mul_right _ hr
   rw [Nat.add_mul] at hle
   have hin:o1+xs.length*E.w+(cellsOf E ys).length<=(cells cs).length:=by rw [Z1e,cells_length]; omega
   refine ⟨(Z1c (cells cs) (o1+xs.length*E.w) (cellsOf E ys)).map Seg.one,[⟨b,.cells (cells ((Z1c (cells cs) (o1+xs.length*E.w) (cellsOf E ys)).map Seg.one)).toArray T' (0,0)⟩]++mr,Z24 _,Upd.here,?_⟩
   refine ⟨_,h _ _ (.inr ⟨b,o1,cp,T',_,by simp,by simpa using hr,rfl,?_,?_⟩),List.Sublist.refl _⟩
   ·rw [Z8a,Z1c,List.length_append,List.length_append,List.length_take,List.length_drop]
    rw [cells_length] at hin ⊢; omega
   ·intro i hi j hj
    rw [Z24,Zew hin,Z1e]
    rw [List.length_append] at hi
    by_cases hil:i<xs.length
    ·have:i*E.w+E.w<=xs.length*E.w:=by rw [<- Nat.succ_mul]; exact Nat.mul_le_mul_right _ hil
     rw [if_neg (by omega),Zgi hil,h5 i hil j hj]
    ·have e1:i*E.w=xs.length*E.w+(i-xs.length)*E.w:=by rw [<- Nat.add_mul]; congr 1; omega
     have:(i-xs.length)*E.w+E.w<=ys.length*E.w:=by rw [<- Nat.succ_mul]; exact Nat.mul_le_mul_right _ (by omega)
     rw [if_pos (by omega),Zgj (by omega),show o1+(i*E.w+j)-(o1+xs.length*E.w)=(i-xs.length)*E.w+j by omega,Z6n (by omega) hj]
  ·have hle:xs.length*E.w<=cp*E.w:=Nat.mul_le_mul_right _ h2
   have hl1:(((cells cs).drop o1).take (xs.length*E.w)).length=xs.length*E.w:=by rw [List.length_take,List.length_drop,cells_length]; omega
   refine ⟨(((cells cs).drop o1).take (xs.length*E.w)++cellsOf E ys++(replicate (cp'-(xs.length+ys.length)) (cells z)).flatten).map Seg.one,Z24 _,?_⟩
   refine ⟨_,h _ [⟨b',_⟩] (.inr ⟨b',0,cp',T,_,by simp,by simpa using hc',rfl,?_,?_⟩),List.Sublist.cons₂ _ (List.sublist_cons_self _ _)⟩
   ·rw [Z8a,List.length_append,List.length_append,hl1,Z1e]
    simp only [List.length_flatten,List.map_replicate,List.sum_replicate_nat,cells_length,hzw,Nat.zero_add]
    rw [<- Nat.add_mul,<- Nat.add_mul]
    exact Nat.mul_le_mul_right _ (by omega)
   ·intro i hi j hj
    rw [List.length_append] at hi
    rw [Z24,Nat.zero_add]
    by_cases hil:i<xs.length
    ·have:i*E.w+E.w<=xs.length*E.w:=by rw [<- Nat.succ_mul]; exact Nat.mul_le_mul_right _ hil
     rw [List.append_assoc,List.getElem?_append_left (by rw [hl1]; omega),List.getElem?_take_of_lt (by omega),List.getElem?_drop,h5 i hil j hj,Zgi hil]
    ·have e1:i*E.w=xs.length*E.w+(i-xs.length)*E.w:=by rw [<- Nat.add_mul]; congr 1; omega
     have:(i-xs.length)*E.w+E.w<=ys.length*E.w:=by rw [<- Nat.succ_mul]; exact Nat.mul_le_mul_right _ (by omega)
     rw [List.append_assoc,List.getElem?_append_right (by rw [hl1]; omega),hl1,List.getElem?_append_left (by rw [Z1e]; omega),Zgj (by omega),show i*E.w+j-xs.length*E.w=(i-xs.length)*E.w+j by omega,Z6n (by omega) hj]
def mkB (bytes:Nat) (L N:Int):Bool:=decide (0<=L)&&decide (L<=N)&&decide ((bytes:Int)*N<=281474976710656)&&decide (N<=9223372036854775807)
theorem Zf4 {d:Nat} {T:TypeId} {bytes:Nat} {z:List Seg} {l c:Operand} {kl kc:IntKind} {L N:Int} (hz:cells z=E.cell E.z)
  (hl:ev t l=some (.int kl L)) (hc:ev t c=some (.int kc N)) (hB:mkB bytes L N=true)
  (h : ∀ v ms,Z09 E v ms (replicate L.toNat E.z)->K ((d,v)::t) (ms++m)):EF C m t (some d) (.mks T bytes z l c) K:=by
 simp only [mkB,Bool.and_eq_true,decide_eq_true_eq] at hB
 obtain ⟨⟨⟨h0,h1⟩,h2⟩,h3⟩:=hB
 refine Z08z hl hc h0 h1 h2 h3 fun b hb=>?_
 refine ⟨(replicate N.toNat (cells z)).flatten.map Seg.one,Z24 _,?_⟩
 have hw:(cells z).length=E.w:=by rw [hz,E.len]
 refine h _ [⟨b,_⟩] (.inr ⟨b,0,N.toNat,T,_,by simp,by simp; omega,rfl,?_,?_⟩)
 ·rw [Z8a]
  simp only [List.length_flatten,List.map_replicate,List.sum_replicate_nat,hw,Nat.zero_add]
  exact Nat.le_refl _
 ·intro i hi j hj
  rw [List.length_replicate] at hi
  have e:(replicate N.toNat (cells z)).flatten=Z15 E.w N.toNat (fun _=>cells z):=(Znp hw).symm
  rw [Z24,Nat.zero_add,e,Z8k (by omega) hj,<- hw,Zb7 rfl,hz]
  simp [List.getD,List.getElem?_replicate,hi]
inductive Bs (E:El α):List α->List Seg->Prop
 | nil:Bs E [] []
 | cons {x:α} {ys:List α} {p q:List Seg}:cells p=E.cell x->Bs E ys q->Bs E (x::ys) (p++q)
theorem Bs.get {q:List Seg} (h:Bs E xs q):width q=xs.length*E.w /\ ∀ i,i<xs.length->∀ j,j<E.w->(cells q)[i*E.w+j]? = (E.cell (xs.getD i E.z))[j]? := by
 induction h with
 | nil=>exact ⟨by simp [width],fun i hi=>by simp at hi⟩
 | @cons x ys p q hc _ ih =>
  have hp:width p=E.w:=by rw [<- cells_length,hc,E.len]
  refine ⟨by rw [Zkq,ih.1,hp,List.length_cons,Nat.succ_mul]; omega,fun i hi j hj=>?_⟩
  rw [Zg9]
  cases i with
  | zero =>
   rw [List.getElem?_append_left (by rw [cells_length,hp]; omega),hc]
   simp
  | succ i =>
   rw [List.length_cons] at hi
   rw [List.getElem?_append_right (by rw [cells_length,hp,Nat.succ_mul]; omega),cells_length,hp,show (i+1)*E.w+j-E.w=i*E.w+j by rw [Nat.succ_mul]; omega,ih.2 i (by omega) j hj]
   simp
theorem Z54 {d:Nat} {T:TypeId} {len:Nat} {z q:List Seg} {parts:List (Nat×Nat×Operand)} (hb:BdR t z parts q) (hB:Bs E xs q) (hl:xs.length=len)
  (h : ∀ v ms,Z09 E v ms xs->K ((d,v)::t) (ms++m)):EF C m t (some d) (.bs T len E.w z parts) K:=by
 subst hl
 refine Z0iw hb fun b hb'=>?_
 obtain ⟨h1,h2⟩:=hB.get
 refine h _ [⟨b,_⟩] (.inr ⟨b,0,xs.length,T,q,rfl,Nat.le_refl _,rfl,by rw [h1]; omega,fun i hi j hj=>?_⟩)
 rw [Nat.zero_add]; exact h2 i hi j hj
theorem Zri {k:IntKind} {ys:List Int}:cellsOf (El.int k) ys=ys.map (.int k):=by
 apply List.ext_getElem?
 intro i
 by_cases hi:i<ys.length
 ·have:=Z6n (E:=El.int k) (xs:=ys) (i:=i) (j:=0) hi (El.int k).pos
  simp only [Nat.mul_one,Nat.add_zero] at this
  rw [this]
  simp [List.getD,List.getElem?_eq_getElem hi]
 ·rw [List.getElem?_eq_none (by rw [Z1e]; simp only [Nat.mul_one]; omega),List.getElem?_eq_none (by rw [List.length_map]; omega)]
theorem Zf3 {d:Option Nat} {x y:Operand} {b T base lo hi mz N:Nat} {s q:List Seg} {k:IntKind} {zs zs' ys:List Int} {u:Value} {m':List Ze} (e:zs'=wr zs lo (ys.take (hi-lo)))
  (hx:ev t x=some (.slice (some (Z1y b base lo mz 1)) (hi-lo) (mz-lo))) (hy:ev t y=some u) (hu:Zms C m (El.int k) u ys) (hs:Zca s base=some (.ints k N zs)) (hb:lo<=hi/\hi<=mz/\mz<=N)
  (hq:Zfq s base (.ints k N zs')=some q) (hup:Upd b (.cells (cells s).toArray T (0,0)) (.cells (cells q).toArray T (0,0)) m m')
  (h:K (Zyb d (.int .i64 (Nat.min ys.length (hi-lo):Nat)) t) m'):EF C m t d (.cpy 1 x y) K:=by
 subst e
 intro o ho hd a ha w hw
 have hS:=Zsc hu hw
 rw [Zri] at hS
 obtain ⟨e1,e2,e3⟩:=Zh0 hq
 have hsw:=Zd1 hs
 simp only [Seg.width] at hsw e3
 have hseg : ∀ j,j<(intsCells k N zs).length->(cells s)[base+j]? = (intsCells k N zs)[j]? := fun j hj=>Z82 hs j (by rw [Z16] at hj; exact hj)
 have hlen:(ys.take (hi-lo)).length=Nat.min ys.length (hi-lo):=by rw [List.length_take]; exact Nat.min_comm _ _
 have hmin:Nat.min ys.length (hi-lo)<=hi-lo:=Nat.min_le_right _ _
 have key:cells q=Z1c (cells s) (base+lo) ((ys.take (hi-lo)).map (.int k)):=by
  rw [e1]
  have hwr:intsCells k N (wr zs lo (ys.take (hi-lo)))=Z1c (intsCells k N zs) lo ((ys.take (hi-lo)).map (.int k)):=by
   have:=Z02b (k:=k) (N:=N) (i:=lo) (xs:=zs) (ys:=ys.take (hi-lo)) (by rw [hlen]; omega)
   simpa [cells,Seg.cells] using this
  simp only [Seg.cells,hwr]
  exact Zfa (by rw [Z16,cells_length]; omega) (by rw [Z16,List.length_map,hlen]; omega) hseg
 have hke : ∀ d':Option Nat,K (Zyb d' (.int .i64 (Nat.min ys.length (hi-lo):Nat)) t) m'->K (match d' with | some d=>(d,.int .i64 (Nat.min ys.length (hi-lo):Nat))::t | none=>t) m':=by
  intro d' hk; cases d' <;> exact hk
 by_cases hc:mz=lo
 ·have h0:hi=lo:=by omega
  refine Zwo (w:=1) (dl:=hi-lo) (dc:=mz-lo) (b:=b) (off:=base) (T:=T) (segs:=s) (segs':=q) (m':=m') (by rw [hx]; simp only [Z1y,hc,if_true]) hy hS (by rw [h0]; omega) ?_ hup (hke d h) o ho hd a ha w hw
  rw [key,h0]
  simp [Z1c]
 ·refine Zwo (w:=1) (dl:=hi-lo) (dc:=mz-lo) (b:=b) (off:=base+lo) (T:=T) (segs:=s) (segs':=q) (m':=m') (by rw [hx]; simp only [Z1y,hc,if_false,Nat.mul_one]) hy hS (by omega) ?_ hup (hke d h) o ho hd a ha w hw
  rw [key]
  congr 1
  rw [<- List.map_take,Nat.mul_one]
  congr 1
  apply List.ext_getElem?
  intro i
  simp only [List.getElem?_take]
  by_cases h1:i<ys.length
  ·by_cases h2:i<hi-lo
   ·rw [if_pos h2,if_pos (Nat.lt_min.2 ⟨h1,h2⟩)]
   ·rw [if_neg h2,if_neg (fun h3=>h2 (Nat.lt_min.1 h3).2)]
  ·rw [List.getElem?_eq_none (l:=ys) (by omega)]
   split <;> split <;> rfl
theorem az {τ:Type} (f:τ->Value) {z e:τ} {op:IOp} (h:z=e) (q:Q1 C m t op (f e)):Q1 C m t op (f z):=h▸q
theorem Z078 {W:World} {lz hz:Int} (h:Z6m E W v xs) (hb:Zki lz hz xs.length=true):Z6m E W (Zed E.w v lz.toNat hz.toNat) ((xs.drop lz.toNat).take (hz.toNat-lz.toNat)) :=
 Z0hg (C:=⟨default,0,W,[]⟩) (m:=[]) (fun w hw=>h.below hw.now) hb W (Zez W)
theorem Zw5 {S:List Nat} {w lo hi n:Nat} (h:Zcl v xs S):Zcl (Zed w v lo hi) ((xs.drop lo).take n) S:=by
 intro a k c e h0
 have hx:0<xs.length:=by
  rw [List.length_take,List.length_drop] at h0
  omega
 unfold Zed at e
 split at e
 ·injection e with e; injection e with e; subst e
  rw [Zqv]
  exact h _ _ _ rfl hx
 ·injection e with e; injection e with e; subst e
  exact h _ _ _ rfl hx
 ·cases e
theorem Ztq {W:World} {S:List Nat} {lz hz:Int} (h:Z6m E W v xs/\Zcl v xs S) (hb:Zki lz hz xs.length=true) :
  Z6m E W (Zed E.w v lz.toNat hz.toNat) ((xs.drop lz.toNat).take (hz.toNat-lz.toNat))/\Zcl (Zed E.w v lz.toNat hz.toNat) ((xs.drop lz.toNat).take (hz.toNat-lz.toNat)) S :=
 ⟨Z078 h.1 hb,Zw5 h.2⟩
theorem cpy0 {zs' zs ys:List Int} {n:Nat} (e:zs'=wr zs 0 (ys.take n)):zs'=wr zs 0 (ys.take (n-0)):=e
theorem cut4 {lo hi:Int} {n:Nat} (h:Zki lo hi n=true):0<=lo/\lo<=hi/\hi<=(n:Int)/\(n:Int)<=(n:Int):=by have:=Zln h; omega
theorem cutn {lo hi:Int} {n:Nat} (h:Zki lo hi n=true):lo.toNat<=hi.toNat/\hi.toNat<=n/\n<=n:=by have:=Zln h; omega
theorem getD_some {τ:Type} {o:Option τ} {z:τ} (h:o.isSome=true):o=some (o.getD z):=by cases o <;> simp_all
theorem Zdg {n:Nat} {x y:Operand} {b off:Nat} {T:TypeId} {s p q:List Seg} {m':List Ze} (hx:ev t x=some (.pointer (some ⟨b,off,none⟩))) (hy:ev t y=some (agg p)) (hn:width p=n) (hq:putL s off p=some q) (hsc : ∀ v∈cells p,one1 v=true)
  (hup:Upd b (.cells (cells s).toArray T (0,0)) (.cells (cells q).toArray T (0,0)) m m') (h:K t m'):EF C m t none (.st n x y) K:=by
 obtain ⟨e1,e2,e3⟩:=Zhm hq
 rw [e1] at hup
 exact Znc hx hy (vs:=cells p) (by simp [agg,Value.cells]) (by rw [cells_length]; exact hn) hup (by rw [cells_length]; omega) hsc h
theorem Zqg {n:Nat} {x:Operand} {b base i w len:Nat} {T:TypeId} {fz:Nat×Nat} {s q p:List Seg} {g:Nat->List Value} (hx:ev t x=some (.pointer (some ⟨b,base+i*w,none⟩))) (hb:Has b (.cells (cells s).toArray T fz) m)
  (hs:Zca s base=some (.rows w len g)) (hi:i<len) (hq:g i=cells q) (hw:width q=w) (hp:sub q 0 n=some p):Q1 C m t (.ld n true x) (agg p):=Z06j (c:=0) hx hb hs hi hq hw hp
theorem Zj6 {b T base N lo hi mz:Nat} {s:List Seg} {k:IntKind} {ys:List Int} (hs:Zca s base=some (.ints k N ys)) (h:lo<=hi/\hi<=mz/\mz<=N) :
  Z09 (El.int k) (.slice (some (Z1y b base lo mz 1)) (hi-lo) (mz-lo)) [ck b T s] (tk ys lo (hi-lo)):=by
 have hw:=Zd1 hs
 simp only [Seg.width] at hw
 have key : ∀ i,i<hi-lo->(cells s)[base+(lo+i)]? = some (.int k (ys.getD (lo+i) 0)):=by
  intro i hi'
  have:=Z82 hs (lo+i) (by simp only [Seg.width]; omega)
  rw [this]
  simp only [Seg.cells]
  rw [Z2n (by omega)]
 by_cases hc:mz=lo
 ·refine .inr ⟨b,base,mz-lo,T,s,?_,by rw [Z0c]; omega,rfl,by simp only [Nat.mul_one]; omega,fun i hi'=>?_⟩
  ·simp only [Z1y,hc,if_true,Z0c]
  ·rw [Z0c] at hi'; omega
 ·refine .inr ⟨b,base+lo*1,mz-lo,T,s,?_,by rw [Z0c]; omega,rfl,by simp only [Nat.mul_one]; omega,fun i hi' j hj=>?_⟩
  ·simp only [Z1y,hc,if_false,Z0c]
  ·rw [Z0c] at hi'
   obtain rfl:j=0:=by have:j<1:=hj; omega
   rw [Zh5,if_pos hi']
   simp only [Nat.mul_one,Nat.add_zero]
   rw [show base+lo+i=base+(lo+i) by omega,key i hi']
   rfl
theorem Zj1 {c:Bool} {s s':Seg} (h:c=true↔s.cells=s'.cells):c=true↔cells [s]=cells [s']:=by
 rw [h]; simp [cells]
theorem Zj0 {k:IntKind} {n:Nat} {a b:List Int}:ieq n a b=true↔(Seg.ints k n a).cells=(Seg.ints k n b).cells:=by
 have:=Zq1 (k:=k) (n:=n) (a:=a) (b:=b)
 simpa [cells] using this
end
theorem Sup.app {m0 m ms:List Ze} (h:Sup m0 m):Sup m0 (ms++m):=fun _ h'=>List.mem_append_right _ (h _ h')
theorem Zde {α:Type} {E:El α} {n:Nat} {zc:List Value} {r r':List Seg} (hz:zc=E.cell E.z) (h:cells r=cells r'):cells (.rows E.w n (fun _=>zc)::r)=cells (.rows E.w n (Zaa E (replicate n E.z))::r'):=by
 simp only [cells,h,Seg.cells]
 congr 1
 apply Zno
 intro i hi
 subst hz
 simp [Zaa,List.getD,List.getElem?_replicate,hi]
inductive Pc where
 | one (c:Ze)
 | all (l:List Ze)
def Zvt:List Pc->List Ze->List Ze
 | [],m=>m
 | .one c::r,m=>c::Zvt r m
 | .all a::r,m=>a++Zvt r m
theorem Zlk : ∀ (l:List Pc) (m:List Ze),Zvt l []++m=Zvt l m
 | [],m=>rfl
 | .one c::r,m=>by simp only [Zvt,List.cons_append,Zlk r m]
 | .all a::r,m=>by simp only [Zvt,List.append_assoc,Zlk r m]
def Z8e (W0:World) (S:List Nat) (R:Value->List Pc->Prop):Ending->World->Prop:=retM W0 S fun v M=>∃ Ms,M=Zvt Ms []/\R v Ms
section
variable {C:Cfg} {m:List Ze} {t:TS} {K:KN}
theorem Z2z {d:Option Nat} {f:FuncId} {args:List Operand} {vs:List Value} {mS mr:List Ze} {R:Value->List Pc->Prop} (ha:evL t args=some vs) (hp:List.Perm (mS++mr) m)
  (hc : ∀ w,Sat C.W0 C.S m w->Calls C.P f vs.toArray w (Z8e w (mS.map (·.b)) R))
  (h : ∀ v Ms,R v Ms->K (Zyb d v t) (Zvt Ms mr)):EF C m t d (.call f args) K :=
 Zsy ha hp hc fun v m' ⟨Ms,e,hR⟩=>by subst e; rw [Zlk]; exact h v Ms hR
theorem Zk {d:Option Nat} {f:FuncId} {args:List Operand} {vs:List Value} {R:Value->List Pc->Prop} (ha:evL t args=some vs)
  (hc : ∀ w,Sat C.W0 C.S m w->Calls C.P f vs.toArray w (Z8e w [] R))
  (h : ∀ v Ms,R v Ms->K (Zyb d v t) (Zvt Ms m)):EF C m t d (.call f args) K :=
 Z00a ha hc fun v m' ⟨Ms,e,hR⟩=>by subst e; rw [Zlk]; exact h v Ms hR
end
def retT (rs:List RV) (R:Value->List Ze->Prop):KN:=fun t m=>∃ l M,Zmw t m rs l/\Zo3 M m/\R (tupV l) M
theorem Zs {P:Program} {f:FuncId} {d:FnD} {args:List Value} {W0:World} {S:List Nat} {m0:List Ze} {R:Value->List Ze->Prop}
  (hm:P.follows .mixedOrders=true) (hok:okF P f d=true) (hlen:Nat.ble args.length d.n=true) (h0:Sat W0 S m0 W0)
  (h:WC ⟨P,d.n,W0,S⟩ d.c (Zpj 0 args) m0 (retT d.rs R) ⟨[],retT d.rs R,noP⟩):Calls P f args.toArray W0 (retM W0 S R):=by
 refine Zst hm hok hlen h0 ?_
 have hsub : ∀ t m,retT d.rs R t m->retK W0 S d.rs (retM W0 S R) t m:=by
  rintro t m ⟨l,M,h1,h2,h3⟩
  exact ⟨l,h1,fun w hw=>⟨_,_,rfl,h3,hw.psub h2⟩⟩
 intro hm c0 hok ρ fu Q a w ha hw hc
 exact h hm c0 hok ρ fu Q a w ha hw ⟨fun t m hk=>hc.n t m (hsub t m hk),fun id k hk=>by simp [Zrz] at hk,fun t m hk=>hc.r t m (hsub t m hk),fun _ _ _ h=>h.elim⟩
section
variable {C:Cfg} {m:List Ze} {t:TS} {K:KN}
theorem Ztd {P:Program} {o:Oper} {T:TypeId} {w bytes:Nat} {z:List Seg} {x y:Operand} (h:Za9 P o (.apz T w bytes z x y)=true) :
  ∃ c t tx k,o.op = .call c/\c.callee = .builtin .append/\c.args = #[x,y]/\c.argTypes[0]? = some t/\c.argTypes[1]? = some tx/\P.underlying t=some (.slice T) /\
   P.underlying tx=some (.int k)/\(∃ i zv,P.info? T=some i/\i.size=w/\i.bytes=bytes/\0<bytes/\i.zero=some zv/\zv.cells=(cells z).toArray)/\width z=w/\0<w:=by
 simp only [Za9] at h
 split at h
 ·rename_i c heq
  simp only [Bool.and_eq_true] at h
  obtain ⟨⟨⟨⟨⟨⟨⟨h1,h2⟩,h3⟩,h4⟩,h5⟩,h6⟩,h7⟩,h8⟩:=h
  have hargs:=Z71 h2
  have hc:c.callee = .builtin .append:=by
   revert h1; split <;> simp_all
  cases e0:c.argTypes[0]? with
  | none=>rw [e0] at h3; simp at h3
  | some t0 =>
   cases e1:c.argTypes[1]? with
   | none=>rw [e1] at h4; simp at h4
   | some t1 =>
    rw [e0] at h3; rw [e1] at h4
    simp only [Option.bind_some] at h3 h4
    cases u0:P.underlying t0 with
    | none=>rw [u0] at h3; simp at h3
    | some d0 =>
     cases u1:P.underlying t1 with
     | none=>rw [u1] at h4; simp at h4
     | some d1 =>
      rw [u0] at h3; rw [u1] at h4
      cases d0 <;> simp at h3
      cases d1 <;> simp at h4
      rw [h3] at u0
      rename_i k
      obtain ⟨i,hi,hs,hb,hp⟩:=Zif h5
      cases hz:zOf P T with
      | none=>rw [hz] at h6; simp at h6
      | some q =>
       rw [hz] at h6
       have:=Zb4 h6
       subst this
       obtain ⟨zv,hz1,hz2⟩:=Zli hi hz
       exact ⟨c,t0,t1,k,heq,hc,by rw [<- Array.toArray_toList (xs:=c.args),hargs],e0,e1,u0,u1,⟨i,zv,hi,hs,hb,hp,hz1,hz2⟩,by simpa [Nat.beq_eq] using h7,by simpa [Nat.blt_eq] using h8⟩
 ·cases h
theorem Zqp {P:Program} {w w':World} {t tx ty e:TypeId} {i:TypeInfo} {z:Value} {b off n0 cp n:Nat} {k kt:IntKind} {N:Int} {cs:List Value} (ht:P.underlying t=some (.slice e)) (hk:P.underlying tx=some (.int kt)) (hi:P.info? e=some i) (hz:i.zero=some z)
  (hN:0<=N) (hn:n=N.toNat) (hb:n*i.bytes<=281474976710656/\n<=9223372036854775807) (hroom:n0+n<=cp) (hnews:(Builtin.zeroCells z.cells n).toList=cs) (hnl:cs.length=n*i.size)
  (hst:(storeCells ⟨b,off+n0*i.size,none⟩ cs 0).run P w = .ok () w') :
  (Builtin.append_ #[t,tx] ty #[.slice (some ⟨b,off,none⟩) n0 cp,.int k N]).run P w = .ok (.slice (some ⟨b,off,none⟩) (n0+n) cp) w':=by
 obtain rfl:N=((n:Nat):Int):=by omega
 have hw:IntKind.i64.wrap (n:Int)=n:=by rw [IntKind.wrap_i64]; omega
 have h1 : ¬ ((n:Int)<0):=by omega
 have h2 : ¬ (281474976710656<(n:Int)*(i.bytes:Int)):=by rw [<- Int.natCast_mul]; omega
 by_cases h0:n*i.size=0
 ·have:cs = []:=List.eq_nil_of_length_eq_zero (by rw [hnl,h0])
  subst this
  have hst':w'=w:=by simpa [storeCells] using hst.symm
  subst hst'
  simp [Builtin.append_,Zq ht,Zq hk,sizeOf,typeInfo,hi,asInt,asIntOf,hw,h1,h2,h0,hroom,storeCells]
 ·simp [Builtin.append_,Zq ht,Zq hk,sizeOf,typeInfo,zeroValue,hz,hi,asInt,asIntOf,hw,h1,h2,h0,hroom,Addr.add_lit,hnews,hst]
theorem Zko {P:Program} {w:World} {t tx ty e:TypeId} {i:TypeInfo} {z:Value} {n:Nat} {k kt:IntKind} {N:Int} (ht:P.underlying t=some (.slice e)) (hk:P.underlying tx=some (.int kt)) (hi:P.info? e=some i) (hz:i.zero=some z)
  (hN:0<=N) (hn:n=N.toNat) (hb:n*i.bytes<=281474976710656/\n<=9223372036854775807) (base:Option Addr) (sLen sCap:Nat) (olds:List Value)
  (hold:(Builtin.firstCells i.size sLen (.slice base sLen sCap)).run P w.drew = .ok olds.toArray w.drew) (news:List Value) (hnews:(Builtin.zeroCells z.cells n).toList=news) (h0 : ¬ (n*i.size=0))
  (hg:sCap<sLen+n) (h63:((sLen+n:Nat):Int)<=9223372036854775807) (hfit:Builtin.nextslicecap (sLen+n) sCap*i.bytes<=281474976710656) :
  (Builtin.append_ #[t,tx] ty #[.slice base sLen sCap,.int k N]).run P w =
   .ok (.slice (some ⟨w.heap.size,0,none⟩) (sLen+n) (grownCap w (sLen+n) sCap e))
    (w.drew.alloc (.cells ((olds++news).toArray++Builtin.zeroCells z.cells (grownCap w (sLen+n) sCap e-(sLen+n))) e)):=by
 obtain rfl:N=((n:Nat):Int):=by omega
 have hw:IntKind.i64.wrap (n:Int)=n:=by rw [IntKind.wrap_i64]; omega
 have h1 : ¬ ((n:Int)<0):=by omega
 have h2 : ¬ (281474976710656<(n:Int)*(i.bytes:Int)):=by rw [<- Int.natCast_mul]; omega
 have hn' : ¬ (sLen+n<=sCap):=by omega
 have h63' : ¬ (9223372036854775807<((sLen:Int)+(n:Int))):=by omega
 have h48' : ¬ (281474976710656<Builtin.nextslicecap (sLen+n) sCap*i.bytes):=by omega
 have e:Builtin.zeroCells z.cells n=news.toArray:=by rw [<- hnews]
 simp [Builtin.append_,Zq ht,Zq hk,sizeOf,typeInfo,zeroValue,hz,hi,asInt,asIntOf,hw,h1,h2,h0,hn',h63',h48',Question.forced,hold,newRow,grownCap,e]
 congr 2
 apply Array.ext'
 simp [List.append_assoc]
theorem Z08x {d:Nat} {T T':TypeId} {w bytes:Nat} {z:List Seg} {x y:Operand} {b off n0 cp n:Nat} {ky:IntKind} {N:Int} {cs:List Value} {segs:List Seg}
  (hx:ev t x=some (.slice (some ⟨b,off,none⟩) n0 cp)) (hb:Has b (.cells (cells segs).toArray T' (0,0)) m) (hy:ev t y=some (.int ky N)) (hN:0<=N) (hn:n=N.toNat) (hcs:cs=(replicate n (cells z)).flatten) (hone : ∀ u∈cells z,one1 u=true)
  (hfit:off+cp*w<=width segs) (hn0:n0<=cp) (hsz:(n0+n)*bytes<=140737488355328)
  (room:n0+n<=cp->∃ segs' m',cells segs'=Z1c (cells segs) (off+n0*w) cs/\Upd b (.cells (cells segs).toArray T' (0,0)) (.cells (cells segs').toArray T' (0,0)) m m'/\K ((d,.slice (some ⟨b,off,none⟩) (n0+n) cp)::t) m')
  (grow:cp<n0+n->∀ b' cp',C.W0.heap.size<=b'->n0+n<=cp'->∃ segs',cells segs'=((cells segs).drop off).take (n0*w)++cs++(replicate (cp'-(n0+n)) (cells z)).flatten/\K ((d,.slice (some ⟨b',0,none⟩) (n0+n) cp')::t) (ck b' T segs'::m)) :
  EF C m t (some d) (.apz T w bytes z x y) K:=by
 intro o ho hd a ha wd hw
 obtain ⟨hd1,hd2⟩:=Z44 hd
 obtain ⟨c,ty,tx,kt,heq,hc,hargs,ht,htx,hu,hk,⟨i,zv,hi,hsz',hby,hpos,hz1,hz2⟩,hwz,hw0⟩:=Ztd ho
 have hmul:(n0+n)<=(n0+n)*bytes:=Nat.le_mul_of_pos_right _ hpos
 have hzl:(cells z).length=w:=by rw [cells_length]; exact hwz
 have hnl:cs.length=n*w:=by rw [hcs]; simp [hzl]
 have hone' : ∀ u∈cs,one1 u=true:=by
  intro u hu'
  rw [hcs,List.mem_flatten] at hu'
  obtain ⟨l,hl,hul⟩:=hu'
  obtain ⟨_,rfl⟩:=List.mem_replicate.1 hl
  exact hone u hul
 have hnews:(Builtin.zeroCells zv.cells n).toList=cs:=by rw [hz2,Zda (by rw [hzl]; exact hw0),hcs]
 have hnb:n*bytes<=140737488355328:=by rw [Nat.add_mul] at hsz; omega
 have hrun : ∀ {r:Result Value},(Builtin.append_ c.argTypes o.type #[.slice (some ⟨b,off,none⟩) n0 cp,.int ky N]).run C.P wd=r->(execOp a.eval o).run C.P wd=r.andThen fun v w=>.ok (.value v) w:=by
  intro r hr
  simp only [execOp,heq,resolve,hc,Sem.run_bind,Sem.run_pure,Result.andThen_ok,invoke,builtin,hargs,List.map_toArray,List.map_cons,List.map_nil,ha.ev hx,ha.ev hy,hr]
 have hat:Builtin.append_ c.argTypes o.type #[.slice (some ⟨b,off,none⟩) n0 cp,.int ky N]=Builtin.append_ #[ty,tx] o.type #[.slice (some ⟨b,off,none⟩) n0 cp,.int ky N]:=by
  simp [Builtin.append_,ht,htx]
 by_cases hroom:n0+n<=cp
 ·obtain ⟨segs',m',e1,hup,hK⟩:=room hroom
  have hle:n0*w+n*w<=cp*w:=by rw [<- Nat.add_mul]; exact Nat.mul_le_mul_right _ hroom
  have hup':Upd b (.cells (cells segs).toArray T' (0,0)) (.cells (Z1c (cells segs) (off+n0*w+0) cs).toArray T' (0,0)) m m':=by rw [Nat.add_zero,<- e1]; exact hup
  obtain ⟨w',hst,hw'⟩:=Z8l (P:=C.P) cs (off+n0*w) 0 (cells segs) m m' wd hw hup' (by rw [cells_length,hnl]; omega) hone'
  have hr:(Builtin.append_ #[ty,tx] o.type #[.slice (some ⟨b,off,none⟩) n0 cp,.int ky N]).run C.P wd = .ok (.slice (some ⟨b,off,none⟩) (n0+n) cp) w':=by
   subst hsz'
   exact Zqp (k:=ky) hu hk hi hz1 hN hn (by rw [hby]; omega) hroom hnews hnl hst
  rw [<- hat] at hr
  have h2:=hrun hr
  unfold Oper.wp
  rw [h2,Result.andThen_ok]
  simp only [Oper.upon]
  exact ⟨_,m',hK,hd1▸ha.put hd2 _,hw'⟩
 ·have hg:cp<n0+n:=by omega
  have hold:(Builtin.firstCells i.size n0 (.slice (some ⟨b,off,none⟩) n0 cp)).run C.P wd.drew = .ok (((cells segs).drop off).take (n0*i.size)).toArray wd.drew:=by
   have hle:n0*w<=cp*w:=Nat.mul_le_mul_right _ hn0
   have:=Zm8 (P:=C.P) (w:=wd.drew) (b:=b) (off:=off) (size:=w) (n:=n0) (l:=n0) (c:=cp) (cs:=((cells segs).drop off).take (n0*w)) (by simp [cells_length]; omega) (fun i hi=>by
    rw [Zcb ((show Sat C.W0 C.S m wd.drew from hw.drew).own _ hb.mem),List.getElem?_take_of_lt hi,List.getElem?_drop]) (Nat.le_refl n0)
   rw [hsz',this,List.take_take,Nat.min_self]
  have hfit':Builtin.nextslicecap (n0+n) cp*i.bytes<=281474976710656:=by rw [hby]; exact growslice_fits hg hsz
  have hr:=Zko (k:=ky) (P:=C.P) (w:=wd) (t:=ty) (tx:=tx) (ty:=o.type) (e:=T) (i:=i) (z:=zv) hu hk hi hz1 hN hn (by rw [hby]; omega) (some ⟨b,off,none⟩) n0 cp _ hold cs hnews (by rw [hsz']; exact Nat.pos_iff_ne_zero.1 (Nat.mul_pos (by omega) hw0)) hg (by omega) hfit'
  rw [<- hat] at hr
  have h2:=hrun hr
  unfold Oper.wp
  rw [h2,Result.andThen_ok]
  simp only [Oper.upon]
  have hge:=grownCap_ge wd (n0+n) cp T
  obtain ⟨segs',e1,hK⟩:=grow hg wd.heap.size (grownCap wd (n0+n) cp T) hw.fr.size hge
  refine ⟨_,_,hK,hd1▸ha.put hd2 _,?_⟩
  have ha2:=hw.drew.alloc (.cells ((((cells segs).drop off).take (n0*i.size)++cs).toArray++Builtin.zeroCells zv.cells (grownCap wd (n0+n) cp T-(n0+n))) T)
  have e2:((((cells segs).drop off).take (n0*i.size)++cs).toArray++Builtin.zeroCells zv.cells (grownCap wd (n0+n) cp T-(n0+n)))=(cells segs').toArray:=by
   rw [e1,hsz',hz2]
   apply Array.ext'
   rw [Array.toList_append,Zda (by rw [cells_length,hwz]; exact hw0)]
  rw [e2]
  rw [e2] at ha2
  exact ha2
theorem Z04n {d:Nat} {T:TypeId} {w bytes:Nat} {z:List Seg} {x y:Operand} {n:Nat} {ky:IntKind} {N:Int} {cs:List Value}
  (hx:ev t x=some (.slice none 0 0)) (hy:ev t y=some (.int ky N)) (hN:0<=N) (hn:n=N.toNat) (hcs:cs=(replicate n (cells z)).flatten) (hone : ∀ u∈cells z,one1 u=true) (hsz:n*bytes<=140737488355328)
  (none_:n=0->K ((d,.slice none 0 0)::t) m)
  (grow:0<n->∀ b' cp',C.W0.heap.size<=b'->n<=cp'->∃ segs',cells segs'=cs++(replicate (cp'-n) (cells z)).flatten/\K ((d,.slice (some ⟨b',0,none⟩) n cp')::t) (ck b' T segs'::m)) :
  EF C m t (some d) (.apz T w bytes z x y) K:=by
 intro o ho hd a ha wd hw
 obtain ⟨hd1,hd2⟩:=Z44 hd
 obtain ⟨c,ty,tx,kt,heq,hc,hargs,ht,htx,hu,hk,⟨i,zv,hi,hsz',hby,hpos,hz1,hz2⟩,hwz,hw0⟩:=Ztd ho
 have hmul:n<=n*bytes:=Nat.le_mul_of_pos_right _ hpos
 have hzl:(cells z).length=w:=by rw [cells_length]; exact hwz
 have hnl:cs.length=n*w:=by rw [hcs]; simp [hzl]
 have hone' : ∀ u∈cs,one1 u=true:=by
  intro u hu'
  rw [hcs,List.mem_flatten] at hu'
  obtain ⟨l,hl,hul⟩:=hu'
  obtain ⟨_,rfl⟩:=List.mem_replicate.1 hl
  exact hone u hul
 have hnews:(Builtin.zeroCells zv.cells n).toList=cs:=by rw [hz2,Zda (by rw [hzl]; exact hw0),hcs]
 have hnb:n*bytes<=140737488355328:=hsz
 have hrun : ∀ {r:Result Value},(Builtin.append_ c.argTypes o.type #[.slice none 0 0,.int ky N]).run C.P wd=r->(execOp a.eval o).run C.P wd=r.andThen fun v w=>.ok (.value v) w:=by
  intro r hr
  simp only [execOp,heq,resolve,hc,Sem.run_bind,Sem.run_pure,Result.andThen_ok,invoke,builtin,hargs,List.map_toArray,List.map_cons,List.map_nil,ha.ev hx,ha.ev hy,hr]
 have hat:Builtin.append_ c.argTypes o.type #[.slice none 0 0,.int ky N]=Builtin.append_ #[ty,tx] o.type #[.slice none 0 0,.int ky N]:=by
  simp [Builtin.append_,ht,htx]
 by_cases hroom:n=0
 ·have hK:=none_ hroom
  have hr:(Builtin.append_ #[ty,tx] o.type #[.slice none 0 0,.int ky N]).run C.P wd = .ok (.slice none 0 0) wd:=by
   subst hsz'
   have hN0:N=0:=by omega
   have hw:IntKind.i64.wrap 0=0:=by decide
   subst hN0
   simp [Builtin.append_,Zq hu,Zq hk,sizeOf,typeInfo,hi,asInt,asIntOf,hw]
  rw [<- hat] at hr
  have h2:=hrun hr
  unfold Oper.wp
  rw [h2,Result.andThen_ok]
  simp only [Oper.upon]
  exact ⟨_,m,hK,hd1▸ha.put hd2 _,hw⟩
 ·have hg:0<0+n:=by omega
  have hold:(Builtin.firstCells i.size 0 (.slice none 0 0)).run C.P wd.drew = .ok ([]:List Value).toArray wd.drew:=by simpa using run_firstCells_none (P:=C.P) wd.drew i.size 0 0 0
  have hfit':Builtin.nextslicecap (0+n) 0*i.bytes<=281474976710656:=by rw [hby]; exact growslice_fits hg (by simpa using hsz)
  have hr:=Zko (k:=ky) (P:=C.P) (w:=wd) (t:=ty) (tx:=tx) (ty:=o.type) (e:=T) (i:=i) (z:=zv) hu hk hi hz1 hN hn (by rw [hby]; omega) none 0 0 _ hold cs hnews (by rw [hsz']; exact Nat.pos_iff_ne_zero.1 (Nat.mul_pos (by omega) hw0)) hg (by omega) hfit'
  simp only [Nat.zero_add,List.nil_append] at hr
  rw [<- hat] at hr
  have h2:=hrun hr
  unfold Oper.wp
  rw [h2,Result.andThen_ok]
  simp only [Oper.upon]
  have hge:=grownCap_ge wd n 0 T
  obtain ⟨segs',e1,hK⟩:=grow (by omega) wd.heap.size (grownCap wd n 0 T) hw.fr.size hge
  refine ⟨_,_,hK,hd1▸ha.put hd2 _,?_⟩
  have ha2:=hw.drew.alloc (.cells (cs.toArray++Builtin.zeroCells zv.cells (grownCap wd n 0 T-n)) T)
  have e2:(cs.toArray++Builtin.zeroCells zv.cells (grownCap wd n 0 T-n))=(cells segs').toArray:=by
   rw [e1,hz2]
   apply Array.ext'
   rw [Array.toList_append,Zda (by rw [cells_length,hwz]; exact hw0)]
  rw [e2]
  rw [e2] at ha2
  exact ha2
end
section
variable {α:Type} {C:Cfg} {m:List Ze} {t:TS} {K:KN} {E:El α} {v:Value} {xs:List α}
theorem Z04o {d:Nat} {T:TypeId} {bytes:Nat} {z:List Seg} {x y:Operand} {ms mr:List Ze} {ky:IntKind} {N:Int} {xs':List α} (e:xs'=xs++replicate N.toNat E.z) (hx:ev t x=some v) (hO:Z09 E v ms xs) (hT:Ze2 ms m mr) (hy:ev t y=some (.int ky N)) (hN:decide (0<=N)=true) (hz:cells z=E.cell E.z)
  (hsz:decide ((xs.length+N.toNat)*bytes<=140737488355328)=true) (h : ∀ v' ms',Z09 E v' ms' xs'->K ((d,v')::t) (ms'++mr)):EF C m t (some d) (.apz T E.w bytes z x y) K:=by
 subst e
 have hsz:=of_decide_eq_true hsz
 intro o ho hd a ha w hw
 have hN:=of_decide_eq_true hN
 have hzw:width z=E.w:=by rw [<- cells_length,hz,E.len]
 have hone : ∀ u∈cells z,one1 u=true:=by rw [hz]; exact E.one _
 generalize hys:replicate N.toNat E.z=ys
 rw [hys] at h
 have hyl:ys.length=N.toNat:=by rw [<- hys,List.length_replicate]
 have hcs:cellsOf E ys=(replicate ys.length (cells z)).flatten:=by
  rw [hyl,<- Znp (w:=E.w) (by rw [cells_length]; exact hzw),cellsOf,hyl]
  apply Zno
  intro i hi
  simp only [Zaa]
  rw [<- hys,hz]
  simp [List.getD,List.getElem?_replicate,hi]
 rw [<- hyl] at hsz
 refine EF.perm hT.perm (EF.less (?_:EF C (ms++mr) t (some d) (.apz T E.w bytes z x y) _)) o ho hd a ha w hw
 rcases hO with ⟨h1,h2,h3⟩ | ⟨b,o1,cp,T',cs,h1,h2,h3,h4,h5⟩
 ·subst h1; subst h2; subst h3
  refine Z04n hx hy hN hyl hcs hone (by simpa using hsz) (fun h0=>?_) (fun h0 b' cp' hb' hc'=>?_)
  ·have hys:ys = []:=List.eq_nil_of_length_eq_zero h0
   subst hys
   exact ⟨_,h _ _ Zao,List.Sublist.refl _⟩
  ·refine ⟨(cellsOf E ys++(replicate (cp'-ys.length) (cells z)).flatten).map Seg.one,Z24 _,?_⟩
   refine ⟨_,h _ [⟨b',_⟩] (.inr ⟨b',0,cp',T,_,by simp,by simpa using hc',rfl,?_,?_⟩),List.Sublist.refl _⟩
   ·rw [Z8a,List.length_append,Z1e]
    simp only [List.length_flatten,List.map_replicate,List.sum_replicate_nat,cells_length,hzw,Nat.zero_add]
    rw [<- Nat.add_mul]
    exact Nat.mul_le_mul_right _ (by omega)
   ·intro i hi j hj
    simp only [List.nil_append] at hi ⊢
    have:i*E.w+E.w<=ys.length*E.w:=by rw [<- Nat.succ_mul]; exact Nat.mul_le_mul_right _ hi
    rw [Z24,Nat.zero_add,List.getElem?_append_left (by rw [Z1e]; omega),Z6n hi hj]
 ·subst h1; subst h3
  refine Z08x hx Has.here hy hN hyl hcs hone h4 h2 hsz (fun hr=>?_) (fun hg b' cp' hb' hc'=>?_)
  ·have hle:(xs.length+ys.length)*E.w<=cp*E.w:=Nat.mul_le_mul_right _ hr
   rw [Nat.add_mul] at hle
   have hin:o1+xs.length*E.w+(cellsOf E ys).length<=(cells cs).length:=by rw [Z1e,cells_length]; omega
   refine ⟨(Z1c (cells cs) (o1+xs.length*E.w) (cellsOf E ys)).map Seg.one,[⟨b,.cells (cells ((Z1c (cells cs) (o1+xs.length*E.w) (cellsOf E ys)).map Seg.one)).toArray T' (0,0)⟩]++mr,Z24 _,Upd.here,?_⟩
   refine ⟨_,h _ _ (.inr ⟨b,o1,cp,T',_,by simp,by simpa using hr,rfl,?_,?_⟩),List.Sublist.refl _⟩
   ·rw [Z8a,Z1c,List.length_append,List.length_append,List.length_take,List.length_drop]
    rw [cells_length] at hin ⊢; omega
   ·intro i hi j hj
    rw [Z24,Zew hin,Z1e]
    rw [List.length_append] at hi
    by_cases hil:i<xs.length
    ·have:i*E.w+E.w<=xs.length*E.w:=by rw [<- Nat.succ_mul]; exact Nat.mul_le_mul_right _ hil
     rw [if_neg (by omega),Zgi hil,h5 i hil j hj]
    ·have e1:i*E.w=xs.length*E.w+(i-xs.length)*E.w:=by rw [<- Nat.add_mul]; congr 1; omega
     have:(i-xs.length)*E.w+E.w<=ys.length*E.w:=by rw [<- Nat.succ_mul]; exact Nat.mul_le_mul_right _ (by omega)
     rw [if_pos (by omega),Zgj (by omega),show o1+(i*E.w+j)-(o1+xs.length*E.w)=(i-xs.length)*E.w+j by omega,Z6n (by omega) hj]
  ·have hle:xs.length*E.w<=cp*E.w:=Nat.mul_le_mul_right _ h2
   have hl1:(((cells cs).drop o1).take (xs.length*E.w)).length=xs.length*E.w:=by rw [List.length_take,List.length_drop,cells_length]; omega
   refine ⟨(((cells cs).drop o1).take (xs.length*E.w)++cellsOf E ys++(replicate (cp'-(xs.length+ys.length)) (cells z)).flatten).map Seg.one,Z24 _,?_⟩
   refine ⟨_,h _ [⟨b',_⟩] (.inr ⟨b',0,cp',T,_,by simp,by simpa using hc',rfl,?_,?_⟩),List.Sublist.cons₂ _ (List.sublist_cons_self _ _)⟩
   ·rw [Z8a,List.length_append,List.length_append,hl1,Z1e]
    simp only [List.length_flatten,List.map_replicate,List.sum_replicate_nat,cells_length,hzw,Nat.zero_add]
    rw [<- Nat.add_mul,<- Nat.add_mul]
    exact Nat.mul_le_mul_right _ (by omega)
   ·intro i hi j hj
    rw [List.length_append] at hi
    rw [Z24,Nat.zero_add]
    by_cases hil:i<xs.length
    ·have:i*E.w+E.w<=xs.length*E.w:=by rw [<- Nat.succ_mul]; exact Nat.mul_le_mul_right _ hil
     rw [List.append_assoc,List.getElem?_append_left (by rw [hl1]; omega),List.getElem?_take_of_lt (by omega),List.getElem?_drop,h5 i hil j hj,Zgi hil]
    ·have e1:i*E.w=xs.length*E.w+(i-xs.length)*E.w:=by rw [<- Nat.add_mul]; congr 1; omega
     have:(i-xs.length)*E.w+E.w<=ys.length*E.w:=by rw [<- Nat.succ_mul]; exact Nat.mul_le_mul_right _ (by omega)
     rw [List.append_assoc,List.getElem?_append_right (by rw [hl1]; omega),hl1,List.getElem?_append_left (by rw [Z1e]; omega),Zgj (by omega),show i*E.w+j-xs.length*E.w=(i-xs.length)*E.w+j by omega,Z6n (by omega) hj]
theorem Z0e3 {len w:Nat} {x i:Operand} {k k':IntKind} {ys:List Int} {z:Int} (h:ev t x=some (agg [.ints k (len*w) ys])) (hi:ev t i=some (.int k' z)) (hz:0<=z/\z<len) :
  Q1 C m t (.idx len w true x i) (agg [.ints k w (tk ys (z.toNat*w) w)]):=by
 intro o ho a ha wd hw
 obtain ⟨T,e,heq,hu,hs,hag⟩:=Ztf ho
 refine Z0k ?_
 simp only [execOp,heq,ha.ev h,ha.ev hi]
 refine Zcy ?_
 simp only [Instr.index,agg,asIntOf,Sem.run_bind,Sem.run_pure,Zq hu,Result.andThen_ok,hz,and_self,if_true,Z3n hs]
 refine Zdm hs hag (fun _=>?_) (fun h=>by cases h)
 congr 2
 have hlt:z.toNat<len:=by omega
 have hle:z.toNat*w+w<=len*w:=by rw [<- Nat.succ_mul]; exact Nat.mul_le_mul_right w hlt
 simp only [cells,Seg.cells,List.append_nil]
 rw [Zxb (by omega)]
 rw [Zxc,Zdp (Z0c _ _ _)]
def Zt7:Value->Bool
 | .slice none _ _=>true
 | _=>false
theorem Zs7 {β:Type} {E':El β} {v':Value} {ys:List β} (h : ∀ W,Z6m E' W v' ys->Z6m E W v xs) (hs:Zms C m E' v' ys):Zms C m E v xs:=fun w hw=>h w (hs w hw)
theorem Zub {β:Type} {E':El β} {v':Value} {ys:List β} : ∀ W,Z6m E' W v' ys->Z6m E W (.slice none 0 0) []:=fun _ _=>Z0hh
theorem Z033 {x:Operand} {b p base i len:Nat} {T:TypeId} {fz:Nat×Nat} {s:List Seg} {k:IntKind} {ys:List Int} {z:Int} (e:z=ys.getD i 0) (hx:ev t x=some (.pointer (some ⟨b,p,none⟩))) (hb:Has b (.cells (cells s).toArray T fz) m)
  (hs:Zca s base=some (.ints k len ys)) (hp:p=base+i) (hi:decide (i<len)=true):Q1 C m t (.ld 1 false x) (.int k z):=e▸Z0pj hx hb hs hp (of_decide_eq_true hi)
theorem Zwq {x y:Operand} {b p base i len:Nat} {T:TypeId} {s q:List Seg} {k:IntKind} {ys ys':List Int} {z:Int} {m':List Ze} (e:ys'=Z3z ys i z) (hx:ev t x=some (.pointer (some ⟨b,p,none⟩))) (hy:ev t y=some (.int k z))
  (hs:Zca s base=some (.ints k len ys)) (hp:p=base+i) (hi:decide (i<len)=true) (hq:Zfq s base (.ints k len ys')=some q)
  (hup:Upd b (.cells (cells s).toArray T (0,0)) (.cells (cells q).toArray T (0,0)) m m') (h:K t m'):EF C m t none (.st 1 x y) K:=by
 subst e; exact Z092 hx hy hs hp (of_decide_eq_true hi) hq hup h
def Zfu (x y c:Int):Bool:=decide (0<=x)&&decide (0<=y)&&decide (0<=c)&&decide (c<=1)
def Zbb (x y c:Int):Int:=(x+y+c)%18446744073709551616
def Zg6 (x y c:Int):Int:=(x+y+c) / 18446744073709551616
theorem xadd {P:Program} {x y c l h:Int} (hl:l=Zbb x y c) (hh:h=Zg6 x y c) (hk:Zfu x y c=true) (w:World):(add64Entry #[.int .u64 x,.int .u64 y,.int .u64 c]).run P w = .ok (.tuple #[.int .u64 l,.int .u64 h]) w:=by
 subst hl; subst hh
 simp [Zfu] at hk
 exact run_add64 x y c hk.1.1.1 hk.1.1.2 hk.1.2 hk.2 w
def Zz6 (x y c:Int):Bool:=decide (0<=x)&&decide (0<=y)&&decide (y<18446744073709551616)&&decide (0<=c)&&decide (c<=1)
def Z01y (x y c:Int):Int:=(x-y-c)%18446744073709551616
def Z01x (x y c:Int):Int:=if x<y+c then 1 else 0
theorem xsub {P:Program} {x y c l h:Int} (hl:l=Z01y x y c) (hh:h=Z01x x y c) (hk:Zz6 x y c=true) (w:World):(Zhq #[.int .u64 x,.int .u64 y,.int .u64 c]).run P w = .ok (.tuple #[.int .u64 l,.int .u64 h]) w:=by
 subst hl; subst hh
 simp [Zz6] at hk
 exact Zyu x y c hk.1.1.1.1 hk.1.1.1.2 hk.1.1.2 hk.1.2 hk.2 w
def Z9i (v:Value):Prop:=∃ a n c,v = .slice a n c
theorem Z6m.isSl {W:World} (h:Z6m E W v xs):Z9i v:=by
 rcases h with ⟨h1,_⟩ | ⟨b,o,cp,h1,_,_⟩ | ⟨_,h1,_⟩
 ·exact ⟨_,_,_,h1⟩
 ·exact ⟨_,_,_,h1⟩
 ·exact ⟨_,_,_,h1⟩
theorem Z09.isSl {ms:List Ze} (h:Z09 E v ms xs):Z9i v:=by
 rcases h with ⟨h1,_⟩ | ⟨b,o,cp,_,_,h1,_⟩
 ·exact ⟨_,_,_,h1⟩
 ·exact ⟨_,_,_,h1⟩
theorem Z9i.cells {u:Value} (h:Z9i u):u.cells = #[u]:=by obtain ⟨a,n,c,rfl⟩:=h; rfl
abbrev SlT:=Option Addr×Nat×Nat
def slV (x:SlT):Value:=.slice x.1 x.2.1 x.2.2
def unS:Value->SlT
 | .slice a n c=>(a,n,c)
 | _=>(none,0,0)
theorem Z035 {u:Value} (h:Z9i u):slV (unS u)=u:=by obtain ⟨a,n,c,rfl⟩:=h; rfl
abbrev El.sl:El SlT:=⟨1,fun x=>[slV x],fun _=>rfl,fun _ v h=>by simp at h; subst h; rfl,by decide,(none,0,0)⟩
theorem Z26 {u:Value} (h:Z9i u):Go.Sx.cells [.one u]=El.sl.cell (unS u):=by simp only [Go.Sx.cells,Seg.cells]; rw [Z035 h]; rfl
inductive Zg3 (E:El α) (W:World):List SlT->List (List α)->Prop
 | nil:Zg3 E W [] []
 | cons {u:SlT} {us:List SlT} {ys:List α} {yss:List (List α)}:Z6m E W (slV u) ys->Zg3 E W us yss->Zg3 E W (u::us) (ys::yss)
theorem Zg3.len {W:World} {us:List SlT} {yss:List (List α)} (h:Zg3 E W us yss):us.length=yss.length:=by
 induction h with
 | nil=>rfl
 | cons _ _ ih=>simp [ih]
theorem Zg3.get {W:World} {us:List SlT} {yss:List (List α)} (h:Zg3 E W us yss) : ∀ i,i<yss.length->Z6m E W (slV (us.getD i (none,0,0))) (yss.getD i []):=by
 induction h with
 | nil=>intro i hi; simp at hi
 | cons h1 _ ih =>
  intro i hi
  cases i with
  | zero=>simpa using h1
  | succ i=>simpa using ih i (by simpa using hi)
theorem Z29 {W:World} {u:Value} (h:Z6m E W u xs):Z6m E W (slV (unS u)) xs:=by rw [Z035 h.isSl]; exact h
theorem Zjr {W:World} {us:List SlT} {yss:List (List α)} (h:Zg3 E W us yss) {z:Int} (hz:inB z yss.length=true):inB z us.length=true:=by rw [h.len]; exact hz
def Shp (v:Value) (n:Nat):Prop:=(v = .slice none 0 0/\n=0)∨(∃ b o cp,v = .slice (some ⟨b,o,none⟩) n cp/\n<=cp) ∨ ∃ a,v = .slice (some a) 0 0/\n=0
theorem Shp.rd {W:World} (h:Z6m E W v xs):Shp v xs.length:=by
 rcases h with ⟨h1,h2⟩ | ⟨b,o,cp,h1,h2,_⟩ | ⟨a3,h1,h2⟩
 ·exact .inl ⟨h1,by rw [h2]; rfl⟩
 ·exact .inr (.inl ⟨b,o,cp,h1,h2⟩)
 ·exact .inr (.inr ⟨a3,h1,by rw [h2]; rfl⟩)
theorem Shp.own {ms:List Ze} (h:Z09 E v ms xs):Shp v xs.length:=by
 rcases h with ⟨h1,h2,_⟩ | ⟨b,o,cp,_,_,h1,h2,_⟩
 ·exact .inl ⟨h1,by rw [h2]; rfl⟩
 ·exact .inr (.inl ⟨b,o,cp,h1,h2⟩)
theorem Shp.nil:Shp (.slice none 0 0) 0:=.inl ⟨rfl,rfl⟩
theorem Shp.blk {b base lo hi mz w n:Nat} (h:lo<=hi/\hi<=mz) (hn:n=hi-lo):Shp (.slice (some (Z1y b base lo mz w)) (hi-lo) (mz-lo)) n:=by
 subst hn
 unfold Z1y
 split
 ·exact .inr (.inl ⟨_,_,_,rfl,by omega⟩)
 ·exact .inr (.inl ⟨_,_,_,rfl,by omega⟩)
theorem Shp.cut {w:Nat} {lz hz:Int} (h:Shp v xs.length) (hb:Zki lz hz xs.length=true):Shp (Zed w v lz.toNat hz.toNat) ((xs.drop lz.toNat).take (hz.toNat-lz.toNat)).length:=by
 have hb:=Zln hb
 have hlen:((xs.drop lz.toNat).take (hz.toNat-lz.toNat)).length=hz.toNat-lz.toNat:=by rw [List.length_take,List.length_drop]; omega
 rw [hlen]
 rcases h with ⟨h1,h2⟩ | ⟨b,o,cp,h1,h2⟩ | ⟨a3,h1,h2⟩
 ·subst h1; exact .inl ⟨rfl,by omega⟩
 rotate_left 1
 ·subst h1
  have e1:lz.toNat=0:=by omega
  have e2:hz.toNat=0:=by omega
  rw [e1,e2,Zlo]
  exact .inr (.inr ⟨a3,rfl,rfl⟩)
 ·subst h1
  simp only [Zed]
  exact Shp.blk (by omega) rfl
theorem Shp.isSl {n:Nat} (h:Shp v n):Z9i v:=by
 rcases h with ⟨h1,_⟩ | ⟨b,o,cp,h1,_⟩ | ⟨_,h1,_⟩
 ·exact ⟨_,_,_,h1⟩
 ·exact ⟨_,_,_,h1⟩
 ·exact ⟨_,_,_,h1⟩
theorem Shp.notnil {n:Nat} (h:Shp v n) (h0:decide (0<n)=true):Zt7 v=false:=by
 have h0:=of_decide_eq_true h0
 rcases h with ⟨_,h2⟩ | ⟨b,o1,cp,h1,_⟩ | ⟨_,_,h2⟩
 ·omega
 ·subst h1; rfl
 ·omega
theorem Z5j {x:Operand} {n:Nat} (hx:ev t x=some v) (h:Shp v n):Q1 C m t (.len x) (.int .i64 n):=by
 rcases h with ⟨h1,h2⟩ | ⟨b,o1,cp,h1,h2⟩ | ⟨a3,h1,h2⟩
 ·subst h1; subst h2; exact Z01i hx
 rotate_left 1
 ·subst h1; subst h2; exact Z01i hx
 ·subst h1; exact Z01i hx
theorem Z7u {w n:Nat} {x i:Operand} {k:IntKind} {z:Int} (hx:ev t x=some v) (hi:ev t i=some (.int k z)) (h:Shp v n) (hz:inB z n=true) :
  Q1 C m t (.ias w x i) (.pointer (some ⟨(Zaf v).block,(Zaf v).off+z.toNat*w,none⟩)):=by
 have hz':=Z1w hz
 rcases h with ⟨h1,h2⟩ | ⟨b,o1,cp,h1,h2⟩ | ⟨_,_,h2⟩
 ·omega
 rotate_left 1
 ·omega
 ·subst h1; exact Z0ph hx hi hz'
theorem Zyj {n k:Nat} {x:Operand} (hx:ev t x=some v) (h:Shp v k) (h0:0<n) (hn:decide (n<=k)=true):Q1 C m t (.s2a n x) (.pointer (some ⟨(Zaf v).block,(Zaf v).off,none⟩)):=by
 have hn:=of_decide_eq_true hn
 rcases h with ⟨h1,h2⟩ | ⟨b,o1,cp,h1,h2⟩ | ⟨_,_,h2⟩
 ·omega
 rotate_left 1
 ·omega
 ·subst h1; exact Z0pk hx hn
theorem Ztn {w n:Nat} {x:Operand} {lo hi:Option Operand} {lz hz:Int} (hx:ev t x=some v) (h:Shp v n) (hl:Zkz t 0 lo lz) (hh:Zkz t n hi hz) (hb:Zki lz hz n=true) :
  Q1 C m t (.sls w x lo hi none) (Zed w v lz.toNat hz.toNat):=by
 have hb:=Zln hb
 rcases h with ⟨h1,h2⟩ | ⟨b,o1,cp,h1,h2⟩ | ⟨a3,h1,h2⟩
 ·subst h1; subst h2
  exact Z034 (mz:=0) hx hl hh .no (by simp) (by omega)
 rotate_left 1
 ·subst h1; subst h2
  have e1:lz.toNat=0:=by omega
  have e2:hz.toNat=0:=by omega
  rw [e1,e2,Zlo]
  exact Z0e9 hx hl hh (by omega)
 ·subst h1
  have:=Z0e7 (C:=C) (m:=m) (w:=w) (mz:=cp) hx hl hh .no (by simp) (by omega)
  simpa [Zed] using this
theorem Zyg {neg:Bool} {x:Operand} {c:Bool} {n:Nat} (hx:ev t x=some v) (h:Shp v n) (hc:Zt7 v=c):Q1 C m t (.isn neg x) (.bool (bif neg then !c else c)):=by
 subst hc
 rcases h with ⟨h1,h2⟩ | ⟨b,o1,cp,h1,h2⟩ | ⟨a3,h1,h2⟩
 ·subst h1; exact Z06h hx
 ·subst h1; exact Z06h hx
 ·subst h1; exact Z06h hx
theorem Zry {n k:Nat} {op:IOp} (q:Q1 C m t op (.int .i64 n)) (h:n=k):Q1 C m t op (.int .i64 k):=h▸q
end
end Go.Sx
namespace Go.Sx
open Go Go.RowKit
set_option linter.all false
section
variable {C:Cfg} {m:List Ze} {t:TS} {K:KN} {α:Type} {E:El α} {v:Value} {xs:List α}
theorem Z0r {β:Type} {r:β} {a b:Option β} {c:Bool} {x:Operand} {p q:IC} {kn:KN} {ke:KE} (h:br c a b=some r) (hx:ev t x=some (.bool c)) (ht:a=some r->WC C p t m kn ke) (hf:b=some r->WC C q t m kn ke) :
  WC C (.cond x p q) t m kn ke:=Zzf hx (fun e=>ht (br_t h e)) (fun e=>hf (br_f h e))
end
section
variable {α β:Type} {r:β} {G:Prop}
theorem bH {x:α} {f:α->Option β} (h:bnd x f=some r) (k : ∀ z,z=x->f z=some r->G):G:=Z0is k h
theorem cH {c:Bool} {o:Option β} (h:chk c o=some r) (k:c=true->o=some r->G):G:=Z0it k h
theorem oH {o:Option α} {f:α->Option β} (h:opt o f=some r) (k : ∀ y,o=some y->f y=some r->G):G:=Z0pb k h
theorem jH {K:Type} {k:K} {g:K->Option β} (h:jn k g=some r) (q : ∀ k',k'=k->g k'=some r->G):G:=jn_i q h
end
instance (n:Nat):OfNat Operand n:=⟨.tmp n⟩
abbrev oj (d:Nat) (i:IOp):J:=.op ⟨some d,none,i⟩
abbrev on_ (i:IOp):J:=.op ⟨none,none,i⟩
abbrev oi (d:Nat) (i:IOp):Zmr:=⟨some d,none,i⟩
abbrev oe (i:IOp):Zmr:=⟨none,none,i⟩
abbrev ci (n:Int):Operand:=.const (.int .i64 n)
abbrev cu (n:Int):Operand:=.const (.int .u64 n)
theorem Z8 {C : Cfg} {m : List Ze} {t : TS} {kn : KN} {x : Operand} {d : Nat} {r : List J} {v : Value} (h1 : ev t x = some v) (h : WJ C r ((d, v) :: t) m kn) : WJ C (.op ⟨some d, none, .mv x⟩ :: r) t m kn := Z4 v (Z04 h1) h
theorem Z1d {C : Cfg} {m : List Ze} {t : TS} {f : FuncId} {args : List Operand} {vs : List Value} {v : Value} (ha : evL t args = some vs) (h : ∀ {w : World}, Calls C.P f vs.toArray w (Z3c w v)) : Q1 C m t (.call f args) v := Z0a ha fun _ _ => h
abbrev Z5 : Seg := .ints .u64 5 (List.replicate 5 0)
abbrev Z10 : Seg := .ints .u64 10 (List.replicate 10 0)
abbrev OL := Option (List Int)
abbrev jm (d : Nat) (x : Operand) : J := oj d (.mv x)
abbrev jl (d : Nat) (n : Nat) (a : Bool) (x : Operand) : J := oj d (.ld n a x)
abbrev jb (d : Nat) (o : BinOp) (x y : Operand) : J := oj d (.bin o x y)
abbrev jc (d : Nat) (f : FuncId) (a : List Operand) : J := oj d (.call f a)
abbrev ji (d : Nat) (l w : Nat) (x i : Operand) : J := oj d (.ia l w x i)
abbrev ja (d : Nat) (T : TypeId) (z : List Seg) : J := oj d (.al T z)
abbrev jx (d : Nat) (T : TypeId) (x : Operand) : J := oj d (.bx T x)
abbrev jf (d : Nat) (n : Nat) (x : Operand) : J := oj d (.fa n x)
abbrev je (d : Nat) (x : Operand) (i : Nat) : J := oj d (.ext x i)
abbrev jn' (d : Nat) (x : Operand) : J := oj d (.len x)
abbrev ji' (d : Nat) (w : Nat) (x i : Operand) : J := oj d (.ias w x i)
abbrev jd (d : Nat) (z : List Seg) (p : List (Nat × Nat × Operand)) : J := oj d (.bd z p)
abbrev jv (d : Nat) (k : IntKind) (x : Operand) : J := oj d (.conv k x)
abbrev jz (d : Nat) (x : Operand) : J := oj d (.nilc x)
abbrev js' (n : Nat) (x y : Operand) : J := on_ (.st n x y)
abbrev jo' (n : Nat) (x y : Operand) : Zmr := oe (.st n x y)
abbrev c8 (n : Int) : Operand := .const (.int .u8 n)
abbrev Sch.P (i : Nat) (j : J) (r : Sch) : Sch := .p [i] j r
abbrev Sch.Q (i : Nat) (j : J) (r : Sch) : Sch := .q [i] j r
abbrev IC.sq (l : List J) (c : IC) : IC := .seq (.ops l) c
abbrev LJ := List J
abbrev LI := List Int
abbrev pt' (b : Nat) : Value := .pointer (some ⟨b, 0, none⟩)
theorem Zo3.o {c : Ze} {M m : List Ze} (h : Zo3 M m) : Zo3 (c :: M) (c :: m) := .one .here h
abbrev u5' (x : List Int) : Seg := .ints .u64 5 x
abbrev uA' (x : List Int) : Seg := .ints .u64 10 x
abbrev b3' (x : List Int) : Seg := .ints .u8 32 x
abbrev b6' (x : List Int) : Seg := .ints .u8 64 x
abbrev u8' (x : List Int) : Seg := .ints .u64 8 x
theorem Has.t1 {b o m c0} : Has b o (c0 :: ⟨b, o⟩ :: m) := .there .here
theorem Has.t2 {b o m c0 c1} : Has b o (c0 :: c1 :: ⟨b, o⟩ :: m) := .there (.there .here)
theorem Has.t3 {b o m c0 c1 c2} : Has b o (c0 :: c1 :: c2 :: ⟨b, o⟩ :: m) := .there (.there (.there .here))
theorem Has.t4 {b o m c0 c1 c2 c3} : Has b o (c0 :: c1 :: c2 :: c3 :: ⟨b, o⟩ :: m) := .there (.there (.there (.there .here)))
theorem Has.t5 {b o m c0 c1 c2 c3 c4} : Has b o (c0 :: c1 :: c2 :: c3 :: c4 :: ⟨b, o⟩ :: m) := .there (.there (.there (.there (.there .here))))
theorem Has.t6 {b o m c0 c1 c2 c3 c4 c5} : Has b o (c0 :: c1 :: c2 :: c3 :: c4 :: c5 :: ⟨b, o⟩ :: m) := .there (.there (.there (.there (.there (.there .here)))))
theorem Has.t7 {b o m c0 c1 c2 c3 c4 c5 c6} : Has b o (c0 :: c1 :: c2 :: c3 :: c4 :: c5 :: c6 :: ⟨b, o⟩ :: m) := .there (.there (.there (.there (.there (.there (.there .here))))))
theorem Has.t8 {b o m c0 c1 c2 c3 c4 c5 c6 c7} : Has b o (c0 :: c1 :: c2 :: c3 :: c4 :: c5 :: c6 :: c7 :: ⟨b, o⟩ :: m) := .there (.there (.there (.there (.there (.there (.there (.there .here)))))))
theorem Has.t9 {b o m c0 c1 c2 c3 c4 c5 c6 c7 c8} : Has b o (c0 :: c1 :: c2 :: c3 :: c4 :: c5 :: c6 :: c7 :: c8 :: ⟨b, o⟩ :: m) := .there (.there (.there (.there (.there (.there (.there (.there (.there .here))))))))
theorem Upd.t1 {b o o' m c0} : Upd b o o' (c0 :: ⟨b, o⟩ :: m) (c0 :: ⟨b, o'⟩ :: m) := .there .here
theorem Upd.t2 {b o o' m c0 c1} : Upd b o o' (c0 :: c1 :: ⟨b, o⟩ :: m) (c0 :: c1 :: ⟨b, o'⟩ :: m) := .there (.there .here)
theorem Upd.t3 {b o o' m c0 c1 c2} : Upd b o o' (c0 :: c1 :: c2 :: ⟨b, o⟩ :: m) (c0 :: c1 :: c2 :: ⟨b, o'⟩ :: m) := .there (.there (.there .here))
theorem Upd.t4 {b o o' m c0 c1 c2 c3} : Upd b o o' (c0 :: c1 :: c2 :: c3 :: ⟨b, o⟩ :: m) (c0 :: c1 :: c2 :: c3 :: ⟨b, o'⟩ :: m) := .there (.there (.there (.there .here)))
theorem Upd.t5 {b o o' m c0 c1 c2 c3 c4} : Upd b o o' (c0 :: c1 :: c2 :: c3 :: c4 :: ⟨b, o⟩ :: m) (c0 :: c1 :: c2 :: c3 :: c4 :: ⟨b, o'⟩ :: m) := .there (.there (.there (.there (.there .here))))
theorem Upd.t6 {b o o' m c0 c1 c2 c3 c4 c5} : Upd b o o' (c0 :: c1 :: c2 :: c3 :: c4 :: c5 :: ⟨b, o⟩ :: m) (c0 :: c1 :: c2 :: c3 :: c4 :: c5 :: ⟨b, o'⟩ :: m) := .there (.there (.there (.there (.there (.there .here)))))
theorem Upd.t7 {b o o' m c0 c1 c2 c3 c4 c5 c6} : Upd b o o' (c0 :: c1 :: c2 :: c3 :: c4 :: c5 :: c6 :: ⟨b, o⟩ :: m) (c0 :: c1 :: c2 :: c3 :: c4 :: c5 :: c6 :: ⟨b, o'⟩ :: m) := .there (.there (.there (.there (.there (.there (.there .here))))))
theorem Upd.t8 {b o o' m c0 c1 c2 c3 c4 c5 c6 c7} : Upd b o o' (c0 :: c1 :: c2 :: c3 :: c4 :: c5 :: c6 :: c7 :: ⟨b, o⟩ :: m) (c0 :: c1 :: c2 :: c3 :: c4 :: c5 :: c6 :: c7 :: ⟨b, o'⟩ :: m) := .there (.there (.there (.there (.there (.there (.there (.there .here)))))))
theorem Upd.t9 {b o o' m c0 c1 c2 c3 c4 c5 c6 c7 c8} : Upd b o o' (c0 :: c1 :: c2 :: c3 :: c4 :: c5 :: c6 :: c7 :: c8 :: ⟨b, o⟩ :: m) (c0 :: c1 :: c2 :: c3 :: c4 :: c5 :: c6 :: c7 :: c8 :: ⟨b, o'⟩ :: m) := .there (.there (.there (.there (.there (.there (.there (.there (.there .here))))))))
theorem Z40.t1 {c m c0} : Z40 c (c0 :: c :: m) (c0 :: m) := .there .here
theorem Z40.t2 {c m c0 c1} : Z40 c (c0 :: c1 :: c :: m) (c0 :: c1 :: m) := .there (.there .here)
theorem Z40.t3 {c m c0 c1 c2} : Z40 c (c0 :: c1 :: c2 :: c :: m) (c0 :: c1 :: c2 :: m) := .there (.there (.there .here))
theorem Z40.t4 {c m c0 c1 c2 c3} : Z40 c (c0 :: c1 :: c2 :: c3 :: c :: m) (c0 :: c1 :: c2 :: c3 :: m) := .there (.there (.there (.there .here)))
theorem Z40.t5 {c m c0 c1 c2 c3 c4} : Z40 c (c0 :: c1 :: c2 :: c3 :: c4 :: c :: m) (c0 :: c1 :: c2 :: c3 :: c4 :: m) := .there (.there (.there (.there (.there .here))))
theorem Z40.t6 {c m c0 c1 c2 c3 c4 c5} : Z40 c (c0 :: c1 :: c2 :: c3 :: c4 :: c5 :: c :: m) (c0 :: c1 :: c2 :: c3 :: c4 :: c5 :: m) := .there (.there (.there (.there (.there (.there .here)))))
theorem Z40.t7 {c m c0 c1 c2 c3 c4 c5 c6} : Z40 c (c0 :: c1 :: c2 :: c3 :: c4 :: c5 :: c6 :: c :: m) (c0 :: c1 :: c2 :: c3 :: c4 :: c5 :: c6 :: m) := .there (.there (.there (.there (.there (.there (.there .here))))))
theorem Z40.t8 {c m c0 c1 c2 c3 c4 c5 c6 c7} : Z40 c (c0 :: c1 :: c2 :: c3 :: c4 :: c5 :: c6 :: c7 :: c :: m) (c0 :: c1 :: c2 :: c3 :: c4 :: c5 :: c6 :: c7 :: m) := .there (.there (.there (.there (.there (.there (.there (.there .here)))))))
theorem Z40.t9 {c m c0 c1 c2 c3 c4 c5 c6 c7 c8} : Z40 c (c0 :: c1 :: c2 :: c3 :: c4 :: c5 :: c6 :: c7 :: c8 :: c :: m) (c0 :: c1 :: c2 :: c3 :: c4 :: c5 :: c6 :: c7 :: c8 :: m) := .there (.there (.there (.there (.there (.there (.there (.there (.there .here))))))))
theorem Ze2.t1 {ms m c0} : Ze2 ms (c0 :: (ms ++ m)) (c0 :: m) := .there .here
theorem Ze2.t2 {ms m c0 c1} : Ze2 ms (c0 :: c1 :: (ms ++ m)) (c0 :: c1 :: m) := .there (.there .here)
theorem Ze2.t3 {ms m c0 c1 c2} : Ze2 ms (c0 :: c1 :: c2 :: (ms ++ m)) (c0 :: c1 :: c2 :: m) := .there (.there (.there .here))
theorem Ze2.t4 {ms m c0 c1 c2 c3} : Ze2 ms (c0 :: c1 :: c2 :: c3 :: (ms ++ m)) (c0 :: c1 :: c2 :: c3 :: m) := .there (.there (.there (.there .here)))
theorem Ze2.t5 {ms m c0 c1 c2 c3 c4} : Ze2 ms (c0 :: c1 :: c2 :: c3 :: c4 :: (ms ++ m)) (c0 :: c1 :: c2 :: c3 :: c4 :: m) := .there (.there (.there (.there (.there .here))))
theorem Ze2.t6 {ms m c0 c1 c2 c3 c4 c5} : Ze2 ms (c0 :: c1 :: c2 :: c3 :: c4 :: c5 :: (ms ++ m)) (c0 :: c1 :: c2 :: c3 :: c4 :: c5 :: m) := .there (.there (.there (.there (.there (.there .here)))))
theorem Ze2.t7 {ms m c0 c1 c2 c3 c4 c5 c6} : Ze2 ms (c0 :: c1 :: c2 :: c3 :: c4 :: c5 :: c6 :: (ms ++ m)) (c0 :: c1 :: c2 :: c3 :: c4 :: c5 :: c6 :: m) := .there (.there (.there (.there (.there (.there (.there .here))))))
theorem Ze2.t8 {ms m c0 c1 c2 c3 c4 c5 c6 c7} : Ze2 ms (c0 :: c1 :: c2 :: c3 :: c4 :: c5 :: c6 :: c7 :: (ms ++ m)) (c0 :: c1 :: c2 :: c3 :: c4 :: c5 :: c6 :: c7 :: m) := .there (.there (.there (.there (.there (.there (.there (.there .here)))))))
theorem Ze2.t9 {ms m c0 c1 c2 c3 c4 c5 c6 c7 c8} : Ze2 ms (c0 :: c1 :: c2 :: c3 :: c4 :: c5 :: c6 :: c7 :: c8 :: (ms ++ m)) (c0 :: c1 :: c2 :: c3 :: c4 :: c5 :: c6 :: c7 :: c8 :: m) := .there (.there (.there (.there (.there (.there (.there (.there (.there .here))))))))
theorem Zab {c:Ze} {ms m m1 m2:List Ze} (h1:Z40 c m m1) (h2:Ze2 ms m1 m2):List.Perm ((c::ms)++m2) m:=(h2.perm.cons c).trans h1.perm
theorem Z7f {W0:World} {S:List Nat} {m:List Ze} {w:World} (h:Sat W0 S m w) {c:Ze} {ms mr:List Ze} (hp:List.Perm ((c::ms)++mr) m):Sat w (c.b::ms.map (·.b)) (c::(ms ++ [])) w:=by
 rw [List.append_nil]; exact Zav h hp
theorem Z9i.one1 {u:Value} (h:Z9i u):one1 u=true:=by obtain ⟨a,n,c,rfl⟩:=h; rfl
section
variable {α:Type} {m:List Ze} {E:El α} {v:Value} {xs:List α}
theorem Zn9 {b:Nat} {S:List Nat} (h1:Zcl v xs [b]) (h2:Zcl v xs S):Zcl v xs (b::S):=by
 intro a n c e h0 hm
 rcases List.mem_cons.1 hm with h | h
 ·exact h1 a n c e h0 (List.mem_singleton.2 h)
 ·exact h2 a n c e h0 h
theorem Ze6 {W0 w:World} {ms ms2 m1 m2:List Ze} {T:List Nat} (hO:Z09 E v ms xs) (hT:Ze2 ms m m1) (h2:Ze2 ms2 m1 m2) (hw:Sat W0 T m w):Zcl v xs (ms2.map (·.b)):=by
 intro a n c e h0 hm
 obtain ⟨k,hk,e2⟩:=List.mem_map.1 hm
 have hmem:k∈m1:=h2.perm.subset (List.mem_append_left _ hk)
 rcases hO with ⟨h1,h3,_⟩ | ⟨b1,o1,cp,T1,cs,h1,_,h3,_,_⟩
 ·subst h3; simp at h0
 ·subst h1
  injection e with e; injection e with e; subst e
  subst h3
  have hd:=(hw.perm hT.perm).dist
  simp only [List.cons_append,List.nil_append,List.map_cons,List.nodup_cons] at hd
  exact hd.1 (List.mem_map.2 ⟨k,hmem,e2⟩)
theorem Zuk {W0 w:World} {S:List Nat} {ms m1:List Ze} (h:Z6m E W0 v xs) (hS:Zcl v xs S) (hT:Ze2 ms m m1) (hw:Sat W0 S m w):Zcl v xs (ms.map (·.b)):=by
 intro a n c e h0 hm
 obtain ⟨k,hk,e2⟩:=List.mem_map.1 hm
 have hmem:k∈m:=hT.perm.subset (List.mem_append_left _ hk)
 rcases hw.base _ hmem with h6 | h6
 ·rcases h with ⟨h1,h2⟩ | ⟨b',o',cp,h1,h2,h3⟩ | ⟨_,_,h2⟩
  ·subst h2; simp at h0
  ·rw [h1] at e
   injection e with e; injection e with e; subst e
   have h4:=h3 0 h0 0 E.pos
   have h5:0<(E.cell (xs.getD 0 E.z)).length:=by rw [E.len]; exact E.pos
   rw [List.getElem?_eq_getElem h5] at h4
   have:=Zju h4
   simp only at this e2
   omega
  ·subst h2; simp at h0
 ·exact hS a n c e h0 (by rw [<- e2]; exact h6)
theorem Zuj {W0 w:World} {S:List Nat} {b:Nat} {o:Obj} (h:Z6m E W0 v xs) (hS:Zcl v xs S) (hb:Has b o m) (hw:Sat W0 S m w):Zcl v xs [b]:=by
 intro a n c e h0 hm
 simp only [List.mem_singleton] at hm
 rcases hw.base _ hb.mem with h6 | h6
 ·rcases h with ⟨h1,h2⟩ | ⟨b',o',cp,h1,h2,h3⟩ | ⟨_,_,h2⟩
  ·subst h2; simp at h0
  ·rw [h1] at e
   injection e with e; injection e with e; subst e
   have h4:=h3 0 h0 0 E.pos
   have h5:0<(E.cell (xs.getD 0 E.z)).length:=by rw [E.len]; exact E.pos
   rw [List.getElem?_eq_getElem h5] at h4
   have:=Zju h4
   simp only at this h6 hm
   omega
  ·subst h2; simp at h0
 ·exact hS a n c e h0 (by rw [hm]; exact h6)
end
section
variable {α:Type} {C:Cfg} {m:List Ze} {t:TS} {K:KN} {E:El α} {v:Value} {xs:List α}
end
def isW (want:Bool):Value->Bool
 | .bool b=>b==want
 | _=>false
theorem Z02q {want:Bool} {u:Value} (h:isW want u=false):u ≠ .bool want:=by
 rintro rfl; simp [isW] at h
theorem Zdb.lit {n:Nat} {t:TS} {a:Act} (h:Zdb n t a) {tc:Nat} {c b:Bool} (hc:Sx.look t tc=some (.bool c)) (e:c=b):Zdb n ((tc,.bool b)::t) a:=by
 subst e
 refine h.drop fun j v hj=>?_
 simp only [Sx.look] at hj
 by_cases e:Nat.beq tc j=true
 ·rw [e,cond_true] at hj
  rw [Nat.beq_eq] at e; subst e
  rw [hc]; exact hj
 ·rw [Bool.not_eq_true] at e; rw [e,cond_false] at hj; exact hj
section
variable {C:Cfg} {t:TS} {m m0:List Ze} {kn:KN} {op:IOp} {r:List J} {d:Option Nat} {tc i:Nat} {want bb:Bool} {late:List Nat} {rs:Sch}
theorem Z01j {r:List Zmr} {d:Nat} {pre pre':TS} {u:Value} (hc:look (pre++t) tc=some u) (hu:isW want u=false) (h:QR C m t r ((d,undef)::pre) pre'):QR C m t (⟨some d,some (tc,want),op⟩::r) pre pre':=by
 intro ops lo hok
 cases lo with
 | nil=>simp [okL] at hok
 | cons o lo =>
  simp only [okL,Bool.and_eq_true] at hok
  obtain ⟨⟨⟨hd,hg⟩,ho⟩,hr⟩:=hok
  obtain ⟨hd1,hd2⟩:=Z44 hd
  refine ⟨undef,fun a ha=>.inr ⟨Zpa hg (by rw [ha.look _ _ hc]; exact Z02q hu),rfl⟩,?_⟩
  rw [hd1]
  exact Zic.sub (fun a' ⟨a,ha,e⟩=>e▸ha.put hd2 undef) (h ops lo hr)
theorem Z039 {c b:Bool} (hc:look t tc=some (.bool c)) (e:c=b) (h:WS C rs late ((tc,.bool b)::t) m0 m bb kn):WS C rs late t m0 m bb kn :=
 fun ops listed h1 h2 h3 h4=>Zky.sub (fun _ _ ⟨q1,q2,q3⟩=>⟨q1.lit hc e,q2,q3⟩) (h ops listed h1 h2 h3 h4)
theorem Z02c {β:Type} {r0:β} {a b:Option β} {c:Bool} (h:br c a b=some r0) (hc:look t tc=some (.bool c)) (ht:a=some r0->WS C rs late ((tc,.bool true)::t) m0 m bb kn) (hf:b=some r0->WS C rs late ((tc,.bool false)::t) m0 m bb kn):WS C rs late t m0 m bb kn:=by
 cases hcv:c with
 | true=>exact Z039 hc hcv (ht (br_t h hcv))
 | false=>exact Z039 hc hcv (hf (br_f h hcv))
theorem Zi1 {d:Nat} (hc:look t tc=some (.bool want)) (v:Value) (h1:Q1 C m0 t op v) (h:WS C rs late ((d,v)::t) m0 m true kn):WS C (.q [i] (.op ⟨some d,some (tc,want),op⟩) rs) late t m0 m true kn :=
 ws_q (pre:=[(d,v)]) (Z27 (pre:=[]) hc v h1 Z28) h
theorem Zkx {d:Nat} (hc:look t tc=some (.bool want)) (v:Value) (h1:Q1 C [] t op v) (h:WS C rs late ((d,v)::t) m0 m bb kn):WS C (.p [i] (.op ⟨some d,some (tc,want),op⟩) rs) late t m0 m bb kn :=
 ws_p (pre:=[(d,v)]) (Z27 (pre:=[]) hc v h1 Z28) h
theorem Z0ea {d:Nat} {u:Value} (hc:look t tc=some u) (hu:isW want u=false):QJ C m t [.op ⟨some d,some (tc,want),op⟩] [] [(d,undef)]:=by
 unfold QJ; rw [J.flatL,J.flatL,J.flat]
 exact Z01j (pre:=[]) hc hu Zym
theorem Zc5 {d:Nat} {u:Value} (hc:look t tc=some u) (hu:isW want u=false) (h:WS C rs late ((d,undef)::t) m0 m true kn):WS C (.q [i] (.op ⟨some d,some (tc,want),op⟩) rs) late t m0 m true kn :=
 ws_q (pre:=[(d,undef)]) (Z0ea hc hu) h
theorem Zft {d:Nat} {u:Value} (hc:look t tc=some u) (hu:isW want u=false) (h:WS C rs late ((d,undef)::t) m0 m bb kn):WS C (.p [i] (.op ⟨some d,some (tc,want),op⟩) rs) late t m0 m bb kn :=
 ws_p (pre:=[(d,undef)]) (Z0ea hc hu) h
theorem Z0sh (b':Bool) (hc:look t tc=some (.bool want)) 
  (h:EF C m t d op (fun t' m'=>(Zlx late i=false->bb=true->∀ c∈m0,c∈m')/\(Zlx late i=false∨True)/\(b'=true->bb=true /\ ∀ c∈m0,c∈m')/\(Zlx late i=false->bb=true)/\WS C rs late t' m0 m' b' kn)):WS C (.e i ⟨d,some (tc,want),op⟩ rs) late t m0 m bb kn:=by
 intro ops listed hok hlen hsel hcl
 simp only [Z8y,Bool.and_eq_true] at hok
 obtain ⟨⟨ho,hr⟩,hrest⟩:=hok
 split at ho
 ·rename_i o hoi
  simp only [okL,Bool.and_eq_true,Bool.and_true] at ho
  obtain ⟨⟨hd,hg⟩,hop⟩:=ho
  split at hr
  ·rename_i k hk
   rw [Nat.beq_eq] at hr; subst hr
   rw [Zqw]
   refine ⟨fun h0=>(by rw [h0] at hk; cases hk),fun j hj a w hΦ=>?_⟩
   rw [hk] at hj
   obtain rfl:j=k:=by simpa using hj
   obtain ⟨q1,q2,q3⟩:=hΦ
   unfold stp
   simp only [hoi]
   rw [if_pos (by rw [Zh6 hg q1 hc]; simp)]
   refine Oper.wp_mono ?_ (h o hop hd a q1 w q2)
   rintro a' w' ⟨t',m',⟨hk1,_,hk2,hk4,hk3⟩,ha',hw'⟩
   refine ⟨St C t' m0 m' b',St.gc,⟨ha',hw',fun e=>hw'.sub (q3 (hk2 e).1) (hk2 e).2⟩,fun hl hD=>hw'.sub hD (hk1 hl (hk4 hl)),fun _=>hw'.none,?_⟩
   exact hk3 ops _ hrest hlen hsel (hcl.set (by rw [hk]; simp))
  ·cases hr
 ·cases ho
theorem Zjp (hc:look t tc=some (.bool want)) (h:EF C m t d op (fun t' m'=>Sup m0 m'/\WS C rs late t' m0 m' true kn)):WS C (.e i ⟨d,some (tc,want),op⟩ rs) late t m0 m true kn :=
 Z0sh true hc (h.mono fun _ _ hk=>⟨fun _ _=>hk.1,.inr trivial,fun _=>⟨rfl,hk.1⟩,fun _=>rfl,hk.2⟩)
theorem Zkr {d:Nat} (hc:look t tc=some (.bool want)) (v:Value) (h1:Q1 C m t op v) (h:WS C rs late ((d,v)::t) m0 m true kn) (hs:Sup m0 m):WS C (.e i ⟨some d,some (tc,want),op⟩ rs) late t m0 m true kn :=
 Zjp hc (ef_q v h1 ⟨hs,h⟩)
theorem Zi2 {d:Nat} {u:Value} (hc:look t tc=some u) (hu:isW want u=false) (h:WS C rs late ((d,undef)::t) m0 m bb kn):WS C (.e i ⟨some d,some (tc,want),op⟩ rs) late t m0 m bb kn:=by
 intro ops listed hok hlen hsel hcl
 simp only [Z8y,Bool.and_eq_true] at hok
 obtain ⟨⟨ho,hr⟩,hrest⟩:=hok
 split at ho
 ·rename_i o hoi
  simp only [okL,Bool.and_eq_true,Bool.and_true] at ho
  obtain ⟨⟨hd,hg⟩,hop⟩:=ho
  split at hr
  ·rename_i k hk
   rw [Nat.beq_eq] at hr; subst hr
   rw [Zqw]
   refine ⟨fun h0=>(by rw [h0] at hk; cases hk),fun j hj a w hΦ=>?_⟩
   rw [hk] at hj
   obtain rfl:j=k:=by simpa using hj
   obtain ⟨q1,q2,q3⟩:=hΦ
   obtain ⟨hd1,hd2⟩:=Z44 hd
   unfold stp
   simp only [hoi]
   rw [if_neg (by rw [Zpa hg (by rw [q1.look _ _ hc]; exact Z02q hu)]; simp)]
   exact ⟨St C ((d,undef)::t) m0 m bb,St.gc,⟨hd1▸q1.put hd2 undef,q2,q3⟩,fun _ h=>h,fun h=>h,h ops _ hrest hlen hsel (hcl.set (by rw [hk]; simp))⟩
  ·cases hr
 ·cases ho
theorem Ztk {x a b:Operand} {v:Value} (hc:ev t x=some (.bool true)) (ha:ev t a=some v):Q1 C m t (.pick x a b) v:=by
 cases hb:ev t b with
 | none=>exact Zm3 (u:=v) hc (fun _=>ha) (fun h=>by cases h)
 | some u=>exact Zm3 (u:=v) hc (fun _=>ha) (fun h=>by cases h)
theorem Ztj {x a b:Operand} {v:Value} (hc:ev t x=some (.bool false)) (hb:ev t b=some v):Q1 C m t (.pick x a b) v :=
 Zm3 (u:=v) hc (fun h=>by cases h) (fun _=>hb)
end
theorem Z006 {P:Program} {o:Oper} {x:Operand} {args:List Operand} (h:Za9 P o (.cv x args)=true) : ∃ c,o.op = .call c/\c.callee = .value x/\c.args.toList=args:=by
 simp only [Za9] at h
 split at h
 ·rename_i c heq
  simp only [Bool.and_eq_true] at h
  obtain ⟨h1,h2⟩:=h
  split at h1
  ·rename_i y hc
   have:=Z0i h1; subst this
   exact ⟨c,heq,hc,Z71 h2⟩
  ·cases h1
 ·cases h
theorem Z00s {c:Call} {args:List Operand} {a:Act} {vs:List Value} (h:c.args.toList=args) (hv:args.map a.eval=vs):c.args.map a.eval=vs.toArray:=by
 rw [<- hv,<- h,<- Array.toList_map,Array.toArray_toList]
theorem Z07e {P:Program} {o:Oper} {x:Operand} {args:List Operand} {a:Act} {f:FuncId} {fn:Func} {caps:Array Value} {vs:List Value} {w:World} (h:Za9 P o (.cv x args)=true) (hx:a.eval x = .func (.func f) #[] caps) (hv:args.map a.eval=vs)
  (hf:P.funcs[f]? = some fn) (hb:fn.body.isSome=true) (hn:(fn.name == "runtime.NumGoroutine")=false):(execOp a.eval o).run P w = .ok (.enter f (vs.toArray++caps)) w:=by
 obtain ⟨c,heq,hc,ha⟩:=Z006 h
 have hn':fn.name ≠ "runtime.NumGoroutine" := by simpa using hn
 have hb2:fn.body≠none:=by intro e; rw [e] at hb; cases hb
 simp only [execOp,heq,resolve,hc,hx,Deferred.ofValue,Sem.run_bind,Sem.run_pure,Result.andThen_ok,invoke,Array.append_empty,Array.empty_append,Z00s ha hv,callFunc]
 simp [program,Sem.run,hf,hn',hb2]
def Z7d (P:Program) (f:FuncId):Bool:=match P.funcs[f]? with
 | some fn => !(fn.name == "runtime.NumGoroutine")
 | none=>false
theorem Zqi {C:Cfg} {t:TS} {m:List Ze} {f:FuncId} {caps:List Operand} {vs:List Value} (hv:evL t caps=some vs):Q1 C m t (.mf f caps) (.func (.func f) #[] vs.toArray):=by
 intro o ho a ha w hw
 simp only [Za9] at ho
 split at ho
 ·rename_i f' first captured heq
  simp only [Bool.and_eq_true,Nat.beq_eq] at ho
  obtain ⟨⟨h1,h2⟩,h3⟩:=ho
  subst h1
  have h2':first = #[]:=by simpa using h2
  subst h2'
  have h3':=Z71 h3
  refine Z0k ?_
  have e:captured.map a.eval=vs.toArray:=by
   rw [<- ha.evL hv,<- h3',<- Array.toList_map,Array.toArray_toList]
  simp [execOp,heq,Instr.makeFunc,e]
 ·cases ho
section
variable {α:Type} {C:Cfg} {m:List Ze} {t:TS} {K:KN} {E:El α} {v:Value} {xs:List α}
end
def Zsw (P:Program) (f:FuncId):Bool:=match P.funcs[f]? with
 | some fn=>fn.body.isSome && !(fn.name == "runtime.NumGoroutine")
 | none=>false
section
variable {C:Cfg} {m:List Ze} {t:TS} {K:KN}
theorem Zs8 {P:Program} {o:Oper} {x:Operand} {args:List Operand} {a:Act} {f:FuncId} {caps vs:List Value} {w:World} (hn:Zsw P f=true) (h:Za9 P o (.cv x args)=true) (hx:a.eval x = .func (.func f) #[] caps.toArray) (hv:args.map a.eval=vs) :
  (execOp a.eval o).run P w = .ok (.enter f (vs++caps).toArray) w:=by
 unfold Zsw at hn
 split at hn
 ·rename_i fn hf
  simp only [Bool.and_eq_true,Bool.not_eq_true'] at hn
  rw [Z07e h hx hv hf hn.1 hn.2]
  simp
 ·cases hn
theorem Zgr {x:Operand} {f:FuncId} {args:List Operand} {vs caps:List Value} {v:Value} (hn:Zsw C.P f=true) (hx:ev t x=some (.func (.func f) #[] caps.toArray)) (ha:evL t args=some vs)
  (h : ∀ w,Sat C.W0 C.S m w->Calls C.P f (vs++caps).toArray w (Z3c w v)):Q1 C m t (.cv x args) v:=by
 intro o ho a hat w hw
 unfold Oper.quietAt
 rw [Zs8 hn ho (hat.ev hx) (hat.evL ha)]
 exact ⟨rfl,(h w hw).mono fun e w' he=>he⟩
theorem Z08y {d:Option Nat} {x:Operand} {f:FuncId} {args:List Operand} {vs caps:List Value} {mS mr:List Ze} {R:Value->List Ze->Prop} (hn:Zsw C.P f=true) (hx:ev t x=some (.func (.func f) #[] caps.toArray)) (ha:evL t args=some vs) (hp:List.Perm (mS++mr) m)
  (hc : ∀ w,Sat C.W0 C.S m w->Calls C.P f (vs++caps).toArray w (retM w (mS.map (·.b)) R))
  (h : ∀ v m',R v m'->K (Zyb d v t) (m'++mr)):EF C m t d (.cv x args) K:=by
 intro o ho hd a hat w hw
 unfold Oper.wp
 rw [Zs8 hn ho (hat.ev hx) (hat.evL ha)]
 simp only [Oper.upon]
 refine (hc w hw).mono ?_
 rintro e w' ⟨v,m',rfl,hR,hs⟩
 have hsat:=Znu hw hp hs
 cases d with
 | none =>
  have hd0:o.dst=none:=by revert hd; cases o.dst <;> simp [okD]
  rw [hd0]
  exact ⟨_,_,h v m' hR,hat,hsat⟩
 | some d =>
  obtain ⟨hd1,hd2⟩:=Z44 hd
  rw [hd1]
  exact ⟨_,_,h v m' hR,hat.put hd2 v,hsat⟩
theorem Zwp {d:Option Nat} {x:Operand} {f:FuncId} {args:List Operand} {vs caps:List Value} {mS mr:List Ze} {R:Value->List Pc->Prop} (hn:Zsw C.P f=true) (hx:ev t x=some (.func (.func f) #[] caps.toArray)) (ha:evL t args=some vs) (hp:List.Perm (mS++mr) m)
  (hc : ∀ w,Sat C.W0 C.S m w->Calls C.P f (vs++caps).toArray w (Z8e w (mS.map (·.b)) R))
  (h : ∀ v Ms,R v Ms->K (Zyb d v t) (Zvt Ms mr)):EF C m t d (.cv x args) K :=
 Z08y hn hx ha hp hc fun v m' ⟨Ms,e,hR⟩=>by subst e; rw [Zlk]; exact h v Ms hR
theorem Z7l {d:Option Nat} {x:Operand} {f:FuncId} {args:List Operand} {vs caps:List Value} {R:Value->List Pc->Prop} (hn:Zsw C.P f=true) (hx:ev t x=some (.func (.func f) #[] caps.toArray)) (ha:evL t args=some vs)
  (hc : ∀ w,Sat C.W0 C.S m w->Calls C.P f (vs++caps).toArray w (Z8e w [] R))
  (h : ∀ v Ms,R v Ms->K (Zyb d v t) (Zvt Ms m)):EF C m t d (.cv x args) K :=
 Zwp (mS:=[]) hn hx ha (List.Perm.refl _) hc h
def Zvy (w:World) (b:Nat) (v:Value):Prop:=w.cell? ⟨b,0,none⟩=some v
def CapM (C:Cfg) (m:List Ze) (b:Nat) (v:Value):Prop:=∀ w,Sat C.W0 C.S m w->Zvy w b v
theorem Z3k {b:Nat} {v:Value} (h:Zvy C.W0 b v) (hS:b∉C.S):CapM C m b v:=by
 intro w hw
 have h1:=h
 unfold Zvy at h1 ⊢
 rw [<- h1]
 unfold World.cell?; simp only [hw.fr.block _ (Zju h1) hS]
theorem Zjs {b:Nat} {T:TypeId} {fz:Nat×Nat} {v:Value} {s:List Seg} (hb:Has b (.cells (cells (.one v::s)).toArray T fz) m):CapM C m b v:=by
 intro w hw
 have h:=hw.own _ hb.mem
 unfold Zvy
 simp only [World.cell?,h]
 simp [cells,Seg.cells]
theorem Z7e {x:Operand} {b:Nat} {v:Value} (hx:ev t x=some (.pointer (some ⟨b,0,none⟩))) (hs:CapM C m b v):Q1 C m t (.ld 1 false x) v:=by
 intro o ho a ha w hw
 refine Z0k ((Z4u ho (ha.ev hx) (l:=[v]) rfl (fun k hk=>?_) (fun _=>rfl)).trans rfl)
 obtain rfl:k=0:=by omega
 exact hs w hw
theorem Z94 {d:Option Nat} {x:Operand} {f:FuncId} {args:List Operand} {vs caps:List Value} {v:Value} (hn:Zsw C.P f=true) (hx:ev t x=some (.func (.func f) #[] caps.toArray)) (ha:evL t args=some vs)
  (hc : ∀ w,Sat C.W0 C.S m w->Calls C.P f (vs++caps).toArray w (Z3c w v)) (h:K (Zyb d v t) m):EF C m t d (.cv x args) K:=by
 intro o ho hd a hat w hw
 unfold Oper.wp
 rw [Zs8 hn ho (hat.ev hx) (hat.evL ha)]
 simp only [Oper.upon]
 refine (hc w hw).mono ?_
 rintro e w' ⟨rfl,hb⟩
 cases d with
 | none =>
  have hd0:o.dst=none:=by revert hd; cases o.dst <;> simp [okD]
  rw [hd0]
  exact ⟨_,_,h,hat,hw.of_below hb⟩
 | some d =>
  obtain ⟨hd1,hd2⟩:=Z44 hd
  rw [hd1]
  exact ⟨_,_,h,hat.put hd2 v,hw.of_below hb⟩
end
section
variable {α:Type} {C:Cfg} {m:List Ze} {t:TS} {K:KN} {E:El α} {v:Value} {xs:List α}
theorem Z04p {d:Option Nat} {x y:Operand} {ms mr:List Ze} {u:Value} {ys xs':List α} (e:xs'=ys.take xs.length++xs.drop ys.length) (hx:ev t x=some v) (hO:Z09 E v ms xs) (hT:Ze2 ms m mr) (hy:ev t y=some u) (hs:Zms C m E u ys)
  (h0:0<xs.length) (h : ∀ ms',Z09 E v ms' xs'->K (Zyb d (.int .i64 ((Nat.min ys.length xs.length:Nat):Int)) t) (ms'++mr)):EF C m t d (.cpy E.w x y) K:=by
 intro o ho hd a ha w hw
 have hS:Zzo C (ms++mr) E.w u ys.length (cellsOf E ys):=Zsc (w:=w) (fun w' hw'=>hs w' (hw'.perm hT.perm.symm)) (hw.perm hT.perm)
 refine EF.perm hT.perm (?_:EF C (ms++mr) t d (.cpy E.w x y) K) o ho hd a ha w hw
 have hl':xs'.length=xs.length:=by rw [e,List.length_append,List.length_take,List.length_drop]; omega
 rcases hO with ⟨h1,h2,h3⟩ | ⟨b,o1,cp,T',cs,h1,h2,h3,h4,h5⟩
 ·subst h2; simp at h0
 ·subst h1; subst h3
  obtain ⟨n,hn⟩ : ∃ n,n=Nat.min ys.length xs.length:=⟨_,rfl⟩
  have hn1:n<=ys.length:=by rw [hn]; exact Nat.min_le_left _ _
  have hn2:n<=xs.length:=by rw [hn]; exact Nat.min_le_right _ _
  have hnw:n*E.w<=ys.length*E.w:=Nat.mul_le_mul_right _ hn1
  have hnx:n*E.w<=xs.length*E.w:=Nat.mul_le_mul_right _ hn2
  have hxc:xs.length*E.w<=cp*E.w:=Nat.mul_le_mul_right _ h2
  have hP:((cellsOf E ys).take (n*E.w)).length=n*E.w:=by rw [List.length_take,Z1e]; omega
  have hin:o1+((cellsOf E ys).take (n*E.w)).length<=(cells cs).length:=by rw [hP,cells_length]; omega
  have hk:=h [⟨b,.cells (cells ((Z1c (cells cs) o1 ((cellsOf E ys).take (n*E.w))).map Seg.one)).toArray T' (0,0)⟩] (.inr ⟨b,o1,cp,T',_,by rw [hl'],by rw [hl']; exact h2,rfl,?_,?_⟩)
  ·refine Zwo (w:=E.w) (dl:=xs.length) (dc:=cp) (b:=b) (off:=o1) (T:=T') (segs:=cs) (segs':=(Z1c (cells cs) o1 ((cellsOf E ys).take (n*E.w))).map Seg.one) (m':=[⟨b,.cells (cells ((Z1c (cells cs) o1 ((cellsOf E ys).take (n*E.w))).map Seg.one)).toArray T' (0,0)⟩]++mr) hx hy hS (by omega) ?_ Upd.here ?_
   ·rw [Z24,hn]
   ·cases d <;> exact hk
  ·rw [Z8a,Z1c,List.length_append,List.length_append,List.length_take,List.length_drop,hP,cells_length]
   have:=cells_length cs; omega
  ·intro i hi j hj
   rw [hl'] at hi
   rw [Z24,Zew hin,hP,e]
   by_cases hy2:i<ys.length
   ·have hin2:i<n:=by rw [hn]; exact Nat.lt_min.2 ⟨hy2,hi⟩
    have hle:i*E.w+E.w<=n*E.w:=by rw [<- Nat.succ_mul]; exact Nat.mul_le_mul_right _ hin2
    rw [if_pos (by omega),show o1+(i*E.w+j)-o1=i*E.w+j by omega,List.getElem?_take_of_lt (by omega),Z6n hy2 hj,Zgi (by rw [List.length_take]; omega)]
    congr 2
    simp only [List.getD_eq_getElem?_getD,List.getElem?_take_of_lt hi]
   ·have hyn:n=ys.length:=hn.trans (Nat.min_eq_left (by omega))
    have hle:n*E.w<=i*E.w:=Nat.mul_le_mul_right _ (by omega)
    rw [if_neg (by omega),h5 i hi j hj,Zgj (by rw [List.length_take]; omega)]
    congr 2
    simp only [List.getD_eq_getElem?_getD,List.getElem?_drop,List.length_take]
    congr 2; omega
def cap3 (v:Value) (n:Nat):Value:=match v with
 | .slice (some a) _ _=>.slice (some a) n n
 | _=>.slice none 0 0
theorem Zxy {ms:List Ze} {n:Nat} {cp2:Nat} {b o:Nat} (h:Z09 E (.slice (some ⟨b,o,none⟩) xs.length cp2) ms xs) (hn:n<=xs.length) {c3:Nat} (h1:n<=c3) (h2:c3<=cp2):Z09 E (.slice (some ⟨b,o,none⟩) n c3) ms (xs.take n):=by
 rcases h with ⟨h,_,_⟩ | ⟨b',o',cp,T,cs,he,hc,hm,hw,hcell⟩
 ·cases h
 ·injection he with e1 e2 e3
  injection e1 with e1
  injection e1 with e4 e5
  subst e4; subst e5; subst e3
  have hl:(xs.take n).length=n:=by rw [List.length_take]; omega
  refine .inr ⟨b,o,c3,T,cs,by rw [hl],by rw [hl]; exact h1,hm,?_,fun i hi j hj=>?_⟩
  ·have:=Nat.mul_le_mul_right E.w h2; omega
  ·rw [hl] at hi
   rw [hcell i (by omega) j hj]
   congr 2
   simp only [List.getD_eq_getElem?_getD,List.getElem?_take_of_lt hi]
theorem Z07j {b o n w:Nat}:Z1y b o 0 n w=⟨b,o,none⟩:=by unfold Z1y; split <;> simp
theorem Zo3.oneA {c:Ze} {M m m1:List Ze} (h1:Z40 c m m1) (h2:Zo3 M m1):Zo3 ([c]++M) m:=.one h1 h2
theorem Z08t {z:Int} {n:Nat} (h:Zki 0 z n=true):z.toNat<=n:=by have:=Zln h; omega
theorem Z01a {ms:List Ze} {n:Nat} (h:Z09 E v ms xs) (hn:n<=xs.length):Z09 E (cap3 v n) ms (xs.take n):=by
 rcases h with ⟨h1,h2,h3⟩ | ⟨b,o,cp,T,cs,he,hc,hm,hw,hcell⟩
 ·subst h1; subst h2; subst h3
  exact .inl ⟨rfl,by simp,rfl⟩
 ·subst he
  exact Zxy (.inr ⟨b,o,cp,T,cs,rfl,hc,hm,hw,hcell⟩) hn (Nat.le_refl _) (by omega)
theorem Z0e8 {ms:List Ze} {x y1 y2:Operand} {w:Nat} {z:Int} (hO:Z09 E v ms xs) (hx:ev t x=some v) (h1:Zkz t (0:Nat) (some y1) z) (h2:Zkz t (0:Nat) (some y2) z) (hb:Zki 0 z xs.length=true) :
  Q1 C m t (.sls w x none (some y1) (some y2)) (cap3 v z.toNat):=by
 obtain ⟨_,hz,hl⟩:=Zln hb
 have re : ∀ (n n':Int) (y:Operand),Zkz t n (some y) z->Zkz t n' (some y) z:=fun n n' y h=>by cases h; exact .yes ‹_›
 rcases hO with ⟨e1,e2,e3⟩ | ⟨b,o,cp,T,cs,he,hc,hm,hw,hcell⟩
 ·subst e1; subst e2
  obtain rfl:z=0:=by simp at hl; omega
  exact Z034 hx .no h1 h2 (fun _=>rfl) ⟨rfl,rfl,rfl⟩
 ·subst he
  have:=Z0e7 (C:=C) (m:=m) (w:=w) (lz:=0) (hz:=z) (mz:=z) hx .no (re _ _ _ h1) (re _ _ _ h2) (fun _=>rfl) ⟨Int.le_refl _,hz,Int.le_refl _,by omega⟩
  simpa [Z07j,cap3] using this
end
def strL (s:ByteArray):List Int:=s.data.toList.map fun b=>(b.toNat:Int)
theorem Zjl (s:ByteArray):(strL s).length=s.size:=by unfold strL; rw [List.length_map,Array.length_toList]; rfl
theorem Z01w {s:ByteArray} {i:Nat} (h:i<s.data.size):(strL s).getD i 0=((s.data[i]).toNat:Int):=by
 unfold strL; rw [List.getD_eq_getElem?_getD,List.getElem?_map,Array.getElem?_toList,Array.getElem?_eq_getElem h]; rfl
section
variable {C:Cfg} {m:List Ze} {t:TS} {K:KN}
theorem Z0e5 {x:Operand} {s:ByteArray} (h:ev t x=some (.string s)):Q1 C m t (.lens x) (.int .i64 s.size):=by
 intro o ho a ha w hw
 refine Z0k ?_
 simp only [Za9] at ho
 split at ho
 ·rename_i c heq
  simp only [Bool.and_eq_true] at ho
  obtain ⟨⟨h1,h2⟩,h3⟩:=ho
  split at h1
  ·rename_i hc
   split at h3
   ·rename_i he
    have hargs:c.args = #[x]:=by
     have:=Z71 h2
     rw [<- Array.toArray_toList (xs:=c.args),this]
    cases hT:c.argTypes[0]? with
    | none=>rw [hT] at he; cases he
    | some T =>
     rw [hT] at he
     have hu:C.P.underlying T=some .string:=he
     simp only [execOp,heq,resolve,hc,Sem.run_bind,Sem.run_pure,Result.andThen_ok,invoke,builtin,hargs]
     have hx:=ha.ev h
     simp [Builtin.len_,hT,hx,Zq hu,goInt]
   ·cases h3
  ·cases h1
 ·cases ho
theorem Z091 {d:Nat} {T:TypeId} {x:Operand} {s:ByteArray} (hx:ev t x=some (.string s)) (h : ∀ v ms,Zms C ms (El.int .u8) v (strL s)->Shp v (strL s).length->K ((d,v)::t) (ms++m)):EF C m t (some d) (.s2b T x) K:=by
 intro o ho hd a ha w hw
 obtain ⟨hd1,hd2⟩:=Z44 hd
 simp only [Za9] at ho
 split at ho
 ·rename_i S D x' heq
  simp only [Bool.and_eq_true] at ho
  obtain ⟨⟨e1,h2⟩,h3⟩:=ho
  have e1:=Z0i e1
  subst e1
  split at h2
  ·rename_i hs
   split at h3
   ·rename_i e hD
    simp only [Bool.and_eq_true] at h3
    obtain ⟨_,h4⟩:=h3
    split at h4
    ·rename_i he
     have hge:=grownCap_ge w s.size 0 e
     obtain ⟨cp,hcp⟩ : ∃ cp,cp=grownCap w s.size 0 e:=⟨_,rfl⟩
     have hr:(execOp a.eval o).run C.P w = .ok (.value (.slice (some ⟨w.heap.size,0,none⟩) s.size cp)) (w.drew.alloc (.cells (bytesRow s cp) e ((bytesRow s cp).size,(bytesRow s cp).size+1))):=by
      simp only [execOp,heq,ha.ev hx]
      rw [hcp]
      simp only [Sem.run_bind,run_bytes_of_string w S D e s hs hD he,Result.andThen_ok,Sem.run_pure]
     unfold Oper.wp
     rw [hr]
     simp only [Oper.upon]
     rw [hd1]
     refine ⟨_,_,h _ [⟨w.heap.size,.cells (bytesRow s cp) e ((bytesRow s cp).size,(bytesRow s cp).size+1)⟩] ?_ ?_,ha.put hd2 _,hw.drew.alloc _⟩
     ·intro w2 hw2
      have h5:=hw2.own _ (List.mem_cons_self ..)
      refine .inr (.inl ⟨w.heap.size,0,cp,by rw [Zjl],by rw [Zjl,hcp]; exact hge,fun i hi j hj=>?_⟩)
      obtain rfl:j=0:=by simp only at hj; omega
      rw [Zjl] at hi
      simp only [World.cell?,h5]
      show (bytesRow s cp)[0+(i*1+0)]? = some (Value.int .u8 ((strL s).getD i 0))
      have hi':i<s.data.size:=hi
      rw [show 0+(i*1+0)=i by omega,Z01w hi']
      unfold bytesRow
      rw [Array.getElem?_append_left (by rw [Array.size_map]; exact hi'),Array.getElem?_map,Array.getElem?_eq_getElem hi']; rfl
     ·exact .inr (.inl ⟨w.heap.size,0,cp,by rw [Zjl],by rw [Zjl,hcp]; exact hge⟩)
    ·cases h4
   ·cases h3
  ·cases h2
 ·cases ho
end
section
variable {C:Cfg} {t:TS} {m:List Ze} {kp:List PanicEntry->KN} {kn:KN} {ke:KE}
end
section
variable {α β ε:Type} {G:Prop}
end
section
variable {C:Cfg} {t:TS} {m:List Ze} {kp:List PanicEntry->KN} {kn:KN}
end
structure Mp (α:Type) where
 es:List (Int×α×Nat)
 clock:Nat
section
variable {α:Type}
variable {P:Program} {w:World} {T K e:TypeId} {q:IntKind} {b:Nat} {mp:Mp α} {E:El α}
end
section
variable {C:Cfg} {t:TS} {m m':List Ze} {K:KN} {α:Type} {E:El α} {q:IntKind} {mp:Mp α} {b r:Nat} {s:List Seg}
end
section
variable {α:Type}
end
end Go.Sx
namespace Go.Sx
open Go Go.RowKit Go.ChangeShapes
set_option linter.all false
section
variable {H:Type} {enc:TypeId×Value->H}
theorem Ziv {P:Program} (hl:laidOutB P=true) {W W':World} (hb:Below W.heap.size W W') :
  ∀ {ts:List TypeId} {vs:List Value} {ds:List (DataW H)} {ps:List MemPlace},(ts.all fun t=>P.readableRec t&&decide (t<P.types.size))=true->(∀ x∈ps,x.block<W.heap.size) ->
   DataW.TrodAll enc P W 0 (fun _=>true) true ts vs ds ps->DataW.TrodAll enc P W' 0 (fun b=>decide (b<W.heap.size)) true ts vs ds ps
 | [],[],[],_,_,_,h=>h
 | t::ts,v::vs,d::ds,ps,hr,hlt,h=>by
  obtain ⟨p,q,h1,h2,rfl⟩:=h
  simp only [List.all_cons,Bool.and_eq_true,decide_eq_true_eq] at hr
  exact ⟨p,q,Below.trod hl hr.1.1 hr.1.2 h1 hb (fun x hx=>hlt x (by simp [hx])),Ziv hl hb hr.2 (fun x hx=>hlt x (by simp [hx])) h2,rfl⟩
 | [],_::_,_,_,_,_,h=>h.elim
 | [],[],_::_,_,_,_,h=>h.elim
 | _::_,[],_,_,_,_,h=>h.elim
 | _::_,_::_,[],_,_,_,h=>h.elim
def LawAt (P:Program) (f:FuncId) (args:Array Value) (W:World):Prop:=Calls P f args W fun e w'=>e = .returned (.bool true)/\Below W.heap.size W w'
theorem Zfc {P:Program} {W:World} {base:Nat} {sp:Nat->Bool} {held:Bool} : ∀ {ts:List TypeId} {vs:List Value} {ds:List (DataW H)} {ps:List MemPlace},DataW.TrodAll enc P W base sp held ts vs ds ps->ds.length=ts.length/\vs.length=ts.length
 | [],[],[],_,_=>⟨rfl,rfl⟩
 | t::ts,v::vs,d::ds,ps,h=>by
  obtain ⟨p,q,_,h2,_⟩:=h
  have:=Zfc h2
  simp [this]
 | [],_::_,_,_,h=>h.elim
 | [],[],_::_,_,h=>h.elim
 | _::_,[],_,_,h=>h.elim
 | _::_,_::_,[],_,h=>h.elim
theorem Z00n {C:Checked} {f:FuncId} {fn:Func} {s:ChangeSpec} {tb:TypeId} (hvars:s.vars = [])
  (hs : ∀ ds:List (DataW H),ds.length=fn.params.size->s.fn H ds = { results:=[.lit (.bool true)],args:=ds }) (hres:fn.resultTypes = #[tb]) (htb:C.prog.underlying tb=some .bool)
  (hl:laidOutB C.prog=true) (hpar:(fn.params.toList.all fun t=>C.prog.readableRec t&&decide (t<C.prog.types.size))=true)
  {W:World} {args:Array Value} {ds gs:List (DataW H)} {before:List MemPlace} (hW:DataW.Whole enc C.prog fn.params.toList s.vars false W args.toList ds gs before)
  (h:LawAt C.prog f args W):Calls C.prog f args W fun e W'=>∃ v,e = .returned v/\s.post enc C.prog fn false true false false W args v W':=by
 have hW':=hW
 have hlt:=hW.lt
 obtain ⟨p,q,hA,hV,rfl,hfz,hnd⟩:=hW
 rw [hvars] at hV
 obtain ⟨rfl,rfl⟩:=trodVars_none hV
 refine h.mono fun e W' ⟨he,bel⟩=>⟨_,he,ds,[],p ++ [],[],p,[],hW',?_,?_,?_,bel.frame _,fun h=>by cases h⟩
 ·rw [List.append_nil,hs ds (by simpa using (Zfc hA).1),hres]
  exact trodAll_mk1 (shut_bool htb true)
 ·rw [List.append_nil,hs ds (by simpa using (Zfc hA).1)]
  exact Ziv hl bel hpar (fun x hx=>hlt x (by simp [hx])) hA
 ·rw [List.append_nil,hs ds (by simpa using (Zfc hA).1),hvars]
  rfl
structure Given (C:Checked) (fn:Func) (W:World) (args:Array Value):Prop where
 wide : ∃ base,∀ (j:Nat) t v,fn.params[j]? = some t->args[j]? = some v->Value.okWide C.prog W .any base t v
 read : ∃ (H:Type) (enc:TypeId×Value->H) (ds:List (DataW H)) (p:List MemPlace),DataW.TrodAll enc C.prog W 0 (fun _=>true) true fn.params.toList args.toList ds p /\
  ((DataW.weightsEach C.prog fn.params.toList ds).all (· <= reachBytes)=true)
theorem law_laid {C:Checked} {os:Os} {f:FuncId} {fn:Func} {s:ChangeSpec} {tb:TypeId} {conds:List PathCond} {laid:List (String×DataW Unit)}
  (own:ownKnob C.prog.godebug=none) (started:os.Started) (noInit:C.prog.inits.idxOf? f=none) (hfn:C.prog.funcs[f]? = some fn) (hvars:s.vars = [])
  (hs : ∀ ds:List (DataW H),ds.length=fn.params.size->s.fn H ds = { results:=[.lit (.bool true)],args:=ds }) (hres:fn.resultTypes = #[tb]) (htb:C.prog.underlying tb=some .bool)
  (hl:laidOutB C.prog=true) (hpar:(fn.params.toList.all fun t=>C.prog.readableRec t&&decide (t<C.prog.types.size))=true)
  (witness : ∃ (w:World) (tape:Tape) (i:Input),w.os=os/\(w.forCall tape i).Shaped C.prog/\i.vars = []/\Input.okWide C.prog (w.forCall tape i) .any w.heap.size f i /\
   ((s.pre enc C.prog fn conds false (w.forCall tape i).memory i.args/\laidMetH C.prog laid (w.forCall tape i).memory)/\sizedMet enc C.prog fn (OpenSpec.ofChange s) false (w.forCall tape i).memory i.args)/\({}:Assume).holds C.prog (lone (Frame.enter C.prog f i.args .normal) [] (w.forCall tape i)))
  (h : ∀ (W:World) (args:Array Value),laidMetH C.prog laid W->Given C fn W args->LawAt C.prog f args W) :
  ReturnsInHanded {} C os f .any (fun w args=>(s.pre enc C.prog fn conds false w args/\laidMetH C.prog laid w)/\sizedMet enc C.prog fn (OpenSpec.ofChange s) false w args) (s.post enc C.prog fn false true false false):=by
 refine returnsInHanded_of_change_and (X:=fun w _=>laidMetH C.prog laid w) (fun _ _ _ hh h=>h.of_heap hh) own started noInit hfn witness ?_
 intro W base args ds gs before hval hW _ hsz hL _
 refine Z00n hvars hs hres htb hl hpar hW (h W args hL ⟨⟨base,hval⟩,?_⟩)
 obtain ⟨p,q,hA,hV,rfl,hfz,hnd⟩:=hW
 rw [hvars] at hV
 obtain ⟨rfl,rfl⟩:=trodVars_none hV
 refine ⟨H,enc,ds,p,hA,?_⟩
 simpa [ChangeSpec.plain,DataSpec.varTypes,hvars] using hsz
end
theorem Zpx {H:Type} {enc:TypeId×Value->H} {P:Program} {W:World} {n:Nat} {t:TypeId} {v:Value} {d:DataW H} {p:List MemPlace} {L:Lay}
  (hL:lay P n t .nil=some L) (h:DataW.Trod enc P W 0 (fun _=>true) true t v d p):Fits W maxLen L v.cells.toList:=by
 obtain ⟨fuel,hf⟩:=h
 have:=Zzc (Small.all) n t .nil L hL fuel v.cells.toList d p hf trivial [] rfl
 simpa using this
def Open (C:Checked) (W:World) (n:Nat):List TypeId->List Value->Prop
 | [],vs=>vs = []
 | t::ts,vs=>∃ v vs',vs=v::vs'/\(∃ base,Value.okWide C.prog W .any base t v)/\(∀ L,lay C.prog n t .nil=some L->Fits W maxLen L v.cells.toList)/\Open C W n ts vs'
theorem Given.open {C:Checked} {fn:Func} {W:World} {args:Array Value} (h:Given C fn W args) (n:Nat):Open C W n fn.params.toList args.toList:=by
 obtain ⟨⟨base,hw⟩,⟨H,enc,ds,p,hA,_⟩⟩:=h
 have key : ∀ (ts:List TypeId) (vs:List Value) (ds:List (DataW H)) (p:List MemPlace),DataW.TrodAll enc C.prog W 0 (fun _=>true) true ts vs ds p ->
   (∀ (j:Nat) t v,ts[j]? = some t->vs[j]? = some v->Value.okWide C.prog W .any base t v)->Open C W n ts vs:=by
  intro ts
  induction ts with
  | nil =>
   intro vs ds p h _
   cases vs with
   | nil=>rfl
   | cons v vs=>cases ds <;> exact h.elim
  | cons t ts ih =>
   intro vs ds p h hv
   cases vs with
   | nil=>cases ds <;> exact h.elim
   | cons v vs =>
    cases ds with
    | nil=>exact h.elim
    | cons d ds =>
     obtain ⟨p1,q1,h1,h2,rfl⟩:=h
     exact ⟨v,vs,rfl,⟨base,hv 0 t v rfl rfl⟩,fun L hL=>Zpx hL h1,ih vs ds q1 h2 fun j t v h3 h4=>hv (j+1) t v h3 h4⟩
 exact key _ _ ds p hA fun j t v h1 h2=>hw j t v (by simpa using h1) (by simpa using h2)
theorem wide_one {P:Program} {W:World} {base:Nat} {t:TypeId} {v x:Value} (hw:Value.okWide P W .any base t v) (hn:(match P.underlying t with | some (.struct _) | some (.array _ _)=>false | _=>true)=true)
  (h:v.cells.toList = [x]):v=x:=by
 cases v with
 | agg cs =>
  exfalso
  unfold Value.okWide at hw
  split at hw
  ·rename_i hu; rw [hu] at hn; cases hn
  ·rename_i hu; rw [hu] at hn; cases hn
  ·unfold Cell.okWide at hw
   split at hw <;> first | (rename_i h2; cases h2; done) | skip
   simp only [Cell.ok] at hw
   split at hw <;> simp_all
 | _=>simpa [Value.cells] using h
theorem wide_agg {P:Program} {W:World} {base:Nat} {t:TypeId} {v:Value} (hw:Value.okWide P W .any base t v) (hn:(match P.underlying t with | some (.struct _) | some (.array _ _)=>true | _=>false)=true):v = .agg v.cells.toList.toArray:=by
 unfold Value.okWide at hw
 split at hw
 ·obtain ⟨cs,rfl,_⟩:=hw; simp [Value.cells]
 ·obtain ⟨cs,rfl,_⟩:=hw; simp [Value.cells]
 ·rename_i h1 h2
  split at hn
  ·rename_i hu; exact absurd hu (h1 _)
  ·rename_i hu; exact absurd hu (h2 _ _)
  ·cases hn
theorem Zq4 {k:IntKind} {cs:List Value} {xs:List Int} (hl:cs.length=xs.length) (h : ∀ i,i<xs.length->cs[i]? = some (.int k (xs.getD i 0))):cs=intsCells k xs.length xs:=by
 apply List.ext_getElem?
 intro i
 by_cases hi:i<xs.length
 ·rw [h i hi]
  simp [intsCells,hi]
 ·rw [List.getElem?_eq_none (by omega),List.getElem?_eq_none (by simp [intsCells]; omega)]
theorem laid_ints {P:Program} {W:World} {l:List (String×DataW Unit)} (h:laidMet P l W) {name:String} {k:IntKind} {xs:List Int} (hm:(name,DataW.agg (xs.map fun x=>.lit (.int k x)))∈l) {g:Nat} {t e:TypeId} {m:Nat}
  (hg:P.globalNamed name=some g) (ht:(P.globals[g]?).map (·.type)=some t) (hu:P.underlying t=some (.array m e)) (he:P.underlying e=some (.int k)) (hc:P.cellsOf e=1) (hn:P.cellsOf t=m) (h0:0<m) :
  Mem W g 0 [.ints k xs.length xs]:=by
 obtain ⟨ps,hv,-,-⟩:=h
 induction l generalizing ps with
 | nil=>cases hm
 | cons x l ih =>
  obtain ⟨n,d⟩:=x
  obtain ⟨g',t',cs,fuel,p,q,h1,h2,h3,h4,h5,_⟩:=hv
  rcases List.mem_cons.1 hm with hx | hx
  ·cases hx
   obtain rfl:g'=g:=Option.some.inj (h1.symm.trans hg)
   obtain rfl:t'=t:=Option.some.inj (h2.symm.trans ht)
   obtain ⟨ys,m',_,hy,hlen,hyl,hel⟩:=DataW.trod_array hu h4
   simp only [Prod.mk.injEq,DataW.agg.injEq] at hy
   have hm':m=xs.length:=by rw [<- hyl]; have:=congrArg List.length hy.1; simpa using this.symm
   have hcs:cs.toList=intsCells k xs.length xs:=by
    refine Zq4 (by omega) fun i hi=>?_
    have h6:=hel i (by omega)
    have h7:i<ys.length:=by omega
    rw [List.getElem?_eq_getElem h7] at h6
    obtain ⟨z,h8,h9,_⟩:=DataW.trod_int he h6
    have h10:(ys.map (·.1))[i]? = some (.lit (.int k (xs.getD i 0))):=by rw [<- hy.1]; simp [hi]
    rw [List.getElem?_map,List.getElem?_eq_getElem h7,Option.map_some,h9] at h10
    simp only [Option.some.injEq,DataW.lit.injEq,Lit.int.injEq,true_and] at h10
    subst h10
    rw [hc] at h8
    have:=congrArg (fun l=>l[0]?) h8
    simpa using this
   refine Zgm (n:=xs.length) (cs:=cs.toList) (fun i hi=>?_) (by rw [hlen,hn,hm']) (by omega) (by rw [hcs]; simp [cells,Seg.cells]) (by simp [width,Seg.width])
   have:=World.var?_cell hg h3 i
   simpa using this
  ·exact ih hx _ h5
section
variable {H:Type} {enc:TypeId×Value->H}
end
end Go.Sx
namespace Go.Sx
open Go Go.RowKit
set_option linter.all false
def Zbv (ms:List Ze) (w:World):Prop:=∀ c∈ms,w.heap[c.b]? = some c.o
theorem Zbv.of {ms m:List Ze} {W0:World} {S:List Nat} {w:World} (hw:Sat W0 S m w) (hs : ∀ c∈ms,c∈m):Zbv ms w:=fun c hc=>hw.own c (hs c hc)
theorem Zbv.take {ms m m':List Ze} {W0:World} {S:List Nat} {w:World} (hw:Sat W0 S m w) (hs:Ze2 ms m m'):Zbv ms w :=
 .of hw fun c hc=>hs.perm.subset (List.mem_append_left _ hc)
theorem Zbv.still {C:Cfg} {m ms:List Ze} {w:World} (h:Zbv ms C.W0) (hS : ∀ c∈ms,c.b∉C.S) (hw:Sat C.W0 C.S m w):Zbv ms w:=fun c hc=>by
 have h1:=h c hc
 rw [hw.fr.block _ (Array.getElem?_eq_some_iff.1 h1).1 (hS c hc)]; exact h1
theorem Zbv.still0 {W0:World} {m ms:List Ze} {w:World} (h:Zbv ms W0) (hw:Sat W0 [] m w):Zbv ms w :=
 Zbv.still (C:=⟨default,0,W0,[]⟩) h (fun _ _=>by simp) hw
theorem Zbv.sub {ms ns:List Ze} {w:World} (h:Zbv ms w) (hs : ∀ c∈ns,c∈ms):Zbv ns w:=fun c hc=>h c (hs c hc)
theorem Zbv.lt {ms:List Ze} {w:World} (h:Zbv ms w) {c:Ze} (hc:c∈ms):c.b<w.heap.size:=(Array.getElem?_eq_some_iff.1 (h c hc)).1
theorem Zbv.cap {ms:List Ze} {w:World} {b:Nat} {T:TypeId} {v:Value} {s:List Seg} (h:Zbv ms w) (hb:ck b T (.one v::s)∈ms):Zvy w b v:=by
 have h:=h _ hb
 unfold Zvy
 simp only [World.cell?,h]
 simp [cells,Seg.cells]
theorem Zbv.mem {ms:List Ze} {w:World} {b:Nat} {T:TypeId} {s:List Seg} (h:Zbv ms w) (hb:ck b T s∈ms):Mem w b 0 s:=by
 have h:=h _ hb
 refine ⟨fun i hi=>?_,(Array.getElem?_eq_some_iff.1 h).1⟩
 simp only [World.cell?,h]
 simp
theorem Zxk {w:World} {b o:Nat} {s r:List Seg} (h:Mem w b o (s++r)):Mem w b o s:=by
 have e : ∀ (a c:List Seg),cells (a++c)=cells a++cells c:=by
  intro a c; induction a with
  | nil=>rfl
  | cons x a ih=>simp [cells,ih]
 refine ⟨fun i hi=>?_,h.lt⟩
 have h1:i<(cells s).length:=by rw [cells_length]; exact hi
 have h2:width s<=width (s++r):=by rw [<- cells_length,<- cells_length,e,List.length_append]; omega
 rw [h.cell i (by omega),e,List.getElem?_append_left h1]
theorem Z9q {P:Program} {f:FuncId} {d:FnD} (h:okF P f d=true) (hn:Z7d P f=true):Zsw P f=true:=by
 unfold okF at h; unfold Z7d at hn; unfold Zsw
 split at h
 ·rename_i fn hf
  rw [hf] at hn ⊢
  simp only [Bool.and_eq_true] at h ⊢
  obtain ⟨_,h3⟩:=h
  split at h3
  ·rename_i c hb
   rw [hb]
   exact ⟨rfl,hn⟩
  ·cases h3
 ·cases h
abbrev ClT:=FuncId×List Value
abbrev clV (c:ClT):Value:=.func (.func c.1) #[] c.2.toArray
abbrev pt0 (b:Nat):Value:=.pointer (some ⟨b,0,none⟩)
end Go.Sx
namespace Go.Proofs.YteefpkhngighgaaGreatDoor
open Go Go.Sx Go.RowKit
open List (replicate)
set_option linter.all false
set_option maxHeartbeats 400000
set_option maxRecDepth 100000
def d200:FnD:=⟨3,[.tmp 0],(.sq [jm 0 (.const (.pointer none))] (.sq [jd 1 [.one (.slice none 0 0),.one (.int .i64 0)] [],jx 2 375 1,jm 0 2] .ret))⟩
theorem Z0ma:okF Tryz.prog 200 d200=true:=by kernel_rfl
def Z0g6:LJ:=[jm 9 0,jm 10 0,jz 11 10,jf 12 0 11,jl 13 1 false 12,jm 14 1,oj 15 (.app 5 1 1 [.one (.int .u8 0)] 13 14),jz 16 9,jf 17 0 16,js' 1 17 15]
def d294:FnD:=⟨18,[],(.sq [jm 4 0,jz 5 4,jf 6 1 5,jl 7 1 false 6,jb 8 .eql 7 (ci 0)] (.cond 8 (.ops Z0g6) .skip))⟩
theorem Z0nx:okF Tryz.prog 294 d294=true:=by kernel_rfl
def d196:FnD:=⟨7,[],(.ops [jm 4 0,jm 5 1,jc 6 294 [4,5]])⟩
theorem Z0m9:okF Tryz.prog 196 d196=true:=by kernel_rfl
def Z09z:IC:=(.ops [jm 9 1,jb 10 .add 9 (ci 1),jm 1 10])
def Z0c2:IC:=(.seq (.sq [jm 5 2,jb 6 .neq 5 (.const (.int .u32 0))] (.cond 6 .skip (.exit 0))) (.seq (.block 1 Z09z) (.ops [jm 7 2,jb 8 .shr 7 (cu 1),jm 2 8])))
def Z09y:IC:=(.loop Z0c2)
def d183:FnD:=⟨12,[.tmp 0],(.sq [jm 0 (ci 0)] (.sq [jm 1 (ci 0)] (.seq (.sq [jv 3 .u32 (ci 0),oj 4 (.un .xor 3),jm 2 4] (.block 0 Z09y)) (.sq [jm 11 1,jm 0 11] .ret))))⟩
theorem Z0m4:okF Tryz.prog 183 d183=true:=by kernel_rfl
def Z0jm:IC:=(.sq [jm 15 3,jm 16 4,jm 17 0,jv 18 .u8 17,ji' 19 1 15 16,js' 1 19 18] (.ops [jm 20 0,jb 21 .shr 20 (cu 8),jm 0 21]))
def Z0jw:IC:=(.seq (.sq [jm 11 4,jb 12 .geq 11 (ci 0)] (.cond 12 .skip (.exit 0))) (.seq (.block 1 Z0jm) (.ops [jm 13 4,jb 14 .sub 13 (ci 1),jm 4 14])))
def Z0jl:IC:=(.loop Z0jw)
def d87:FnD:=⟨23,[.tmp 2],(.sq [jm 2 (.const (.slice none 0 0))] (.sq [jc 5 183 [],jb 6 .quo 5 (ci 8),oj 7 (.mks 5 1 [.one (.int .u8 0)] 6 6),jm 3 7] (.seq (.sq [jm 8 3,jn' 9 8,jb 10 .sub 9 (ci 1),jm 4 10] (.block 0 Z0jl)) (.sq [jm 22 3,jm 2 22] .ret))))⟩
theorem ok87:okF Tryz.prog 87 d87=true:=by kernel_rfl
def d185:FnD:=⟨8,[],(.ops [jm 4 0,jm 5 1,jc 6 87 [5],jc 7 294 [4,6]])⟩
theorem Z0m5:okF Tryz.prog 185 d185=true:=by kernel_rfl
def Z09v:IC:=(.ops [jm 9 1,jb 10 .add 9 (ci 1),jm 1 10])
def Z0c0:IC:=(.seq (.sq [jm 5 2,jb 6 .neq 5 (cu 0)] (.cond 6 .skip (.exit 0))) (.seq (.block 1 Z09v) (.ops [jm 7 2,jb 8 .shr 7 (cu 1),jm 2 8])))
def Z09u:IC:=(.loop Z0c0)
def d123:FnD:=⟨12,[.tmp 0],(.sq [jm 0 (ci 0)] (.sq [jm 1 (ci 0)] (.seq (.sq [jv 3 .u64 (ci 0),oj 4 (.un .xor 3),jm 2 4] (.block 0 Z09u)) (.sq [jm 11 1,jm 0 11] .ret))))⟩
theorem Z0ln:okF Tryz.prog 123 d123=true:=by kernel_rfl
def Z0je:IC:=(.sq [jm 15 3,jm 16 4,jm 17 0,jv 18 .u8 17,ji' 19 1 15 16,js' 1 19 18] (.ops [jm 20 0,jb 21 .shr 20 (cu 8),jm 0 21]))
def Z0js:IC:=(.seq (.sq [jm 11 4,jb 12 .geq 11 (ci 0)] (.cond 12 .skip (.exit 0))) (.seq (.block 1 Z0je) (.ops [jm 13 4,jb 14 .sub 13 (ci 1),jm 4 14])))
def Z0jd:IC:=(.loop Z0js)
def d59:FnD:=⟨23,[.tmp 2],(.sq [jm 2 (.const (.slice none 0 0))] (.sq [jc 5 123 [],jb 6 .quo 5 (ci 8),oj 7 (.mks 5 1 [.one (.int .u8 0)] 6 6),jm 3 7] (.seq (.sq [jm 8 3,jn' 9 8,jb 10 .sub 9 (ci 1),jm 4 10] (.block 0 Z0jd)) (.sq [jm 22 3,jm 2 22] .ret))))⟩
theorem ok59:okF Tryz.prog 59 d59=true:=by kernel_rfl
def d191:FnD:=⟨8,[],(.ops [jm 4 0,jm 5 1,jc 6 59 [5],jc 7 294 [4,6]])⟩
theorem Z0m7:okF Tryz.prog 191 d191=true:=by kernel_rfl
def d316:FnD:=⟨11,[],(.sq [jm 4 1] (.cond 4 (.ops [jm 5 0,oj 6 (.bs 5 1 1 [.one (.int .u8 0)] [(0,1,(c8 1))]),jc 7 294 [5,6]]) (.ops [jm 8 0,oj 9 (.bs 5 1 1 [.one (.int .u8 0)] [(0,1,(c8 0))]),jc 10 294 [8,9]])))⟩
theorem Z0o8:okF Tryz.prog 316 d316=true:=by kernel_rfl
def Z0f4:Sch:=(.P 0 (jm 9 0) (.P 1 (jz 10 9) (.P 2 (jf 11 1 10) (.P 4 (jm 2 (.const (.slice none 0 0))) (.Q 3 (jl 12 1 false 11) (.P 5 (jm 3 12) .nil))))))
def Z0f5:LJ:=[oj 13 (.bs 5 0 1 [] []),jm 14 0,jz 15 14,jf 16 0 15,jl 17 1 false 16,oj 18 (.app 5 1 1 [.one (.int .u8 0)] 13 17),jm 2 18,jm 3 (ci 0)]
def d202:FnD:=⟨19,[.tmp 2,.tmp 3],(.sq [jm 2 (.const (.slice none 0 0)),jm 3 (ci 0)] (.seq (.sq [jm 4 0,jz 5 4,jf 6 1 5,jl 7 1 false 6,jb 8 .neq 7 (ci 0)] (.cond 8 (.seq (.draw Z0f4 []) .ret) .skip)) (.sq Z0f5 .ret)))⟩
theorem Z0mc:okF Tryz.prog 202 d202=true:=by kernel_rfl
def Z0f2:LJ:=[jm 3 0,jb 4 .lss 3 (ci 1),jm 5 4,.lg true 5 8 none [.op ⟨some 6,(some (5,false)),.mv 0⟩,.op ⟨some 7,(some (5,false)),.bin .gtr 6 (ci 255)⟩] 7]
def Z0f3:LJ:=[jm 9 0,jv 10 .u8 9,oj 11 (.bs 5 4 1 [.one (.int .u8 0),.one (.int .u8 0),.one (.int .u8 0),.one (.int .u8 0)] [(0,1,(c8 70)),(1,1,(c8 66)),(2,1,(c8 1)),(3,1,10)]),jm 2 11]
def d201:FnD:=⟨12,[.tmp 2],(.sq [jm 2 (.const (.slice none 0 0))] (.seq (.sq Z0f2 (.cond 8 (.sq [jm 2 (.const (.slice none 0 0))] .ret) .skip)) (.sq Z0f3 .ret)))⟩
theorem Z0mb:okF Tryz.prog 201 d201=true:=by kernel_rfl
def Z0q7:LJ:=[jl 1 8 true (.global 0),jd 2 [.ints .u32 8 (replicate 8 0),.ints .u8 64 (replicate 64 0),.one (.int .u64 0)] [(0,8,1)],jx 3 183 2,jm 0 3]
def d39:FnD:=⟨4,[.tmp 0],(.sq [jm 0 (.const (.pointer none))] (.sq Z0q7 .ret))⟩
theorem ok39:okF Tryz.prog 39 d39=true:=by kernel_rfl
def Z0h2:LJ:=[jm 8 1,jb 9 .lss 8 (ci 0),jm 10 9,.lg true 10 17 none [.op ⟨some 11,(some (10,false)),.mv 1⟩,.op ⟨some 12,(some (10,false)),.mv 0⟩,.op ⟨some 13,(some (10,false)),.len 12⟩,.op ⟨some 14,(some (10,false)),.mv 5⟩,.op ⟨some 15,(some (10,false)),.bin .sub 13 14⟩,.op ⟨some 16,(some (10,false)),.bin .gtr 11 15⟩] 16]
def d339:FnD:=⟨24,[.tmp 4],(.sq [jm 4 (.const (.slice none 0 0))] (.sq [jc 6 183 [],jb 7 .quo 6 (ci 8),jm 5 7] (.seq (.sq Z0h2 (.cond 17 (.sq [jm 4 (.const (.slice none 0 0))] .ret) .skip)) (.sq [jm 18 0,jm 19 1,jm 20 1,jm 21 5,jb 22 .add 20 21,oj 23 (.sls 1 18 (some 19) (some 22) none),jm 4 23] .ret))))⟩
theorem Z0os:okF Tryz.prog 339 d339=true:=by kernel_rfl
def Z0an:IC:=(.sq [ji' 17 1 13 15,jl 18 1 false 17,jm 9 18] (.ops [jm 19 6,jb 20 .shl 19 (cu 8),jm 21 9,jv 22 .u32 21,jb 23 .or 20 22,jm 6 23]))
def Z0ce:IC:=(.sq [jb 16 .lss 15 14] (.seq (.cond 16 .skip (.exit 0)) (.seq (.block 1 Z0an) (.ops [jb 24 .add 15 (ci 1),jm 15 24]))))
def Z0am:IC:=(.loop Z0ce)
def d291:FnD:=⟨28,[.tmp 4,.tmp 5],(.sq [jm 4 (.const (.int .u32 0)),jm 5 (.const (.bool false))] (.sq [jm 6 (.const (.int .u32 0))] (.sq [jm 10 0,jm 11 1,jc 12 339 [10,11],jm 7 12] (.seq (.sq [jm 13 7,jn' 14 13,jm 15 (ci 0)] (.block 0 Z0am)) (.sq [jm 25 6,jm 26 7,oj 27 (.isn true 26),jm 4 25,jm 5 27] .ret)))))⟩
theorem Z0nu:okF Tryz.prog 291 d291=true:=by kernel_rfl
def Z0g5:LJ:=[jm 14 0,jm 15 6,jb 16 .shr 14 15,jm 17 0,jm 18 5,jv 19 .u64 18,jm 20 6,jb 21 .sub 19 20,jb 22 .shl 17 21,jb 23 .or 16 22,jm 4 23]
def d293:FnD:=⟨24,[.tmp 4],(.sq [jm 4 (.const (.int .u32 0))] (.sq [jc 7 183 [],jm 5 7] (.sq [jm 8 1,jv 9 .u64 8,jm 10 5,jb 11 .sub 10 (ci 1),jv 12 .u64 11,jb 13 .and 9 12,jm 6 13] (.sq Z0g5 .ret))))⟩
theorem Z0nw:okF Tryz.prog 293 d293=true:=by kernel_rfl
def Z0g4:Sch:=(.P 0 (jm 9 0) (.P 1 (jm 10 1) (.P 2 (jc 11 293 [9,10]) (.P 3 (jm 12 0) (.P 4 (jm 13 2) (.P 5 (jc 14 293 [12,13]) (.P 6 (jb 15 .xor 11 14) (.P 7 (jm 16 0) (.P 8 (jm 17 3) (.P 9 (jb 18 .shr 16 17) (.P 10 (jb 19 .xor 15 18) (.P 11 (jm 8 19) .nil))))))))))))
def d292:FnD:=⟨20,[.tmp 8],(.sq [jm 8 (.const (.int .u32 0))] (.seq (.draw Z0g4 []) .ret))⟩
theorem Z0nv:okF Tryz.prog 292 d292=true:=by kernel_rfl
def Z0ez:LJ:=[jm 11 4,oj 12 (.sla 64 1 1 none none none),jm 13 4,jb 14 .mul (ci 4) 13,jc 15 291 [12,14],jm 10 15,je 16 10 0,je 17 10 1,ji 18 64 1 3 11,js' 1 18 16]
def Z0f0:Sch:=(.P 0 (jm 19 4) (.P 1 (jm 20 4) (.P 2 (jb 21 .sub 20 (ci 2)) (.P 3 (ji 22 64 1 3 21) (.P 6 (jm 25 4) (.P 7 (jb 26 .sub 25 (ci 7)) (.P 8 (ji 27 64 1 3 26) (.P 11 (jm 30 4) (.P 12 (jb 31 .sub 30 (ci 15)) (.P 13 (ji 32 64 1 3 31) (.P 17 (jm 36 4) (.P 18 (jb 37 .sub 36 (ci 16)) (.P 19 (ji 38 64 1 3 37) (.Q 4 (jl 23 1 false 22) (.P 5 (jc 24 292 [23,(ci 17),(ci 19),(ci 10)]) (.Q 9 (jl 28 1 false 27) (.P 10 (jb 29 .add 24 28) (.Q 14 (jl 33 1 false 32) (.P 15 (jc 34 292 [33,(ci 7),(ci 18),(ci 3)]) (.P 16 (jb 35 .add 29 34) (.Q 20 (jl 39 1 false 38) (.P 21 (jb 40 .add 35 39) (.P 22 (ji 41 64 1 3 19) (.e 23 (jo' 1 41 40) .nil))))))))))))))))))))))))
def Z09x:IC:=(.sq [jm 7 5,jm 4 7] (.seq (.sq [jm 8 4,jb 9 .lss 8 (ci 16)] (.cond 9 (.sq Z0ez (.exit 1)) .skip)) (.draw Z0f0 [23])))
def Z0c1:IC:=(.sq [jb 6 .lss 5 (ci 64)] (.seq (.cond 6 .skip (.exit 0)) (.seq (.block 1 Z09x) (.ops [jb 42 .add 5 (ci 1),jm 5 42]))))
def Z09w:IC:=(.loop Z0c1)
def d181:FnD:=⟨44,[.cell 2 64 true],(.sq [jx 1 26 0,ja 2 307 [.ints .u32 64 (replicate 64 0)]] (.sq [ja 3 307 [.ints .u32 64 (replicate 64 0)]] (.seq (.sq [jm 5 (ci 0)] (.block 0 Z09w)) (.sq [jl 43 64 true 3,js' 64 2 43] .ret))))⟩
theorem Z0m2:okF Tryz.prog 181 d181=true:=by kernel_rfl
def Z0f1:LJ:=[jm 9 0,jm 10 1,jc 11 293 [9,10],jm 12 0,jm 13 2,jc 14 293 [12,13],jb 15 .xor 11 14,jm 16 0,jm 17 3,jc 18 293 [16,17],jb 19 .xor 15 18,jm 8 19]
def d182:FnD:=⟨20,[.tmp 8],(.sq [jm 8 (.const (.int .u32 0))] (.sq Z0f1 .ret))⟩
theorem Z0m3:okF Tryz.prog 182 d182=true:=by kernel_rfl
def Z0rh:Sch:=(.P 0 (ji 19 8 1 2 (ci 0)) (.P 2 (ji 21 8 1 2 (ci 1)) (.P 4 (ji 23 8 1 2 (ci 2)) (.P 6 (ji 25 8 1 2 (ci 3)) (.P 8 (ji 27 8 1 2 (ci 4)) (.P 10 (ji 29 8 1 2 (ci 5)) (.P 12 (ji 31 8 1 2 (ci 6)) (.P 14 (ji 33 8 1 2 (ci 7)) (.Q 1 (jl 20 1 false 19) (.P 16 (jm 5 20) (.Q 3 (jl 22 1 false 21) (.P 17 (jm 6 22) (.Q 5 (jl 24 1 false 23) (.P 18 (jm 7 24) (.Q 7 (jl 26 1 false 25) (.P 19 (jm 8 26) (.Q 9 (jl 28 1 false 27) (.P 20 (jm 9 28) (.Q 11 (jl 30 1 false 29) (.P 21 (jm 10 30) (.Q 13 (jl 32 1 false 31) (.P 22 (jm 11 32) (.Q 15 (jl 34 1 false 33) (.P 23 (jm 12 34) .nil))))))))))))))))))))))))
def Z0ri:Sch:=(.P 0 (jm 41 12) (.P 1 (jm 42 9) (.P 2 (jc 43 182 [42,(ci 6),(ci 11),(ci 25)]) (.P 3 (jb 44 .add 41 43) (.P 4 (jm 45 9) (.P 5 (jm 46 10) (.P 6 (jb 47 .and 45 46) (.P 7 (jm 48 9) (.P 8 (oj 49 (.un .xor 48)) (.P 9 (jm 50 11) (.P 10 (jb 51 .and 49 50) (.P 11 (jb 52 .xor 47 51) (.P 12 (jb 53 .add 44 52) (.P 13 (jm 54 13) (.P 14 (ji 55 64 1 (.global 1) 54) (.P 17 (jm 58 14) (.Q 15 (jl 56 1 false 55) (.P 16 (jb 57 .add 53 56) (.P 18 (jb 59 .add 57 58) (.P 19 (jm 15 59) .nil))))))))))))))))))))
def Z0rj:LJ:=[jm 60 5,jc 61 182 [60,(ci 2),(ci 13),(ci 22)],jm 62 5,jm 63 6,jb 64 .and 62 63,jm 65 5,jm 66 7,jb 67 .and 65 66,jb 68 .xor 64 67,jm 69 6,jm 70 7,jb 71 .and 69 70,jb 72 .xor 68 71,jb 73 .add 61 72,jm 16 73]
def Z0rk:LJ:=[jm 74 15,jm 75 16,jb 76 .add 74 75,jm 77 5,jm 78 6,jm 79 7,jm 80 8,jm 81 15,jb 82 .add 80 81,jm 83 9,jm 84 10,jm 85 11,jm 5 76,jm 6 77,jm 7 78,jm 8 79,jm 9 82,jm 10 83,jm 11 84,jm 12 85]
def Z0ji:IC:=(.sq [jm 39 37,oj 40 (.idx 64 1 false 36 37),jm 13 39,jm 14 40] (.seq (.draw Z0ri []) (.sq Z0rj (.ops Z0rk))))
def Z0ju:IC:=(.sq [jb 38 .lss 37 (ci 64)] (.seq (.cond 38 .skip (.exit 0)) (.seq (.block 1 Z0ji) (.ops [jb 86 .add 37 (ci 1),jm 37 86]))))
def Z0jh:IC:=(.loop Z0ju)
def Z0rl:LJ:=[jm 87 5,jm 88 6,jm 89 7,jm 90 8,jm 91 9,jm 92 10,jm 93 11,jm 94 12,jd 95 [.ints .u32 8 (replicate 8 0)] [(0,1,87),(1,1,88),(2,1,89),(3,1,90),(4,1,91),(5,1,92),(6,1,93),(7,1,94)],jm 96 (ci 0)]
def Z0jk:IC:=(.sq [jm 98 96,oj 99 (.idx 8 1 false 95 96),jm 17 98,jm 18 99] (.ops [jm 100 17,ji 101 8 1 2 100,jl 102 1 false 101,jm 103 18,jb 104 .add 102 103,ji 105 8 1 2 100,js' 1 105 104]))
def Z0jv:IC:=(.sq [jb 97 .lss 96 (ci 8)] (.seq (.cond 97 .skip (.exit 2)) (.seq (.block 3 Z0jk) (.ops [jb 106 .add 96 (ci 1),jm 96 106]))))
def Z0jj:IC:=(.loop Z0jv)
def d85:FnD:=⟨108,[.cell 4 8 true],(.sq [jx 2 181 0,jx 3 26 1,ja 4 181 [.ints .u32 8 (replicate 8 0)]] (.seq (.draw Z0rh []) (.seq (.sq [jl 35 64 true 3,jc 36 181 [35],jm 37 (ci 0)] (.block 0 Z0jh)) (.seq (.sq Z0rl (.block 2 Z0jj)) (.sq [jl 107 8 true 2,js' 8 4 107] .ret)))))⟩
theorem ok85:okF Tryz.prog 85 d85=true:=by kernel_rfl
def Z0qa:Sch:=(.P 0 (jm 8 0) (.P 1 (jz 9 8) (.P 2 (jf 10 8 9) (.P 3 (jm 11 0) (.P 4 (jz 12 11) (.P 5 (jf 13 72 12) (.P 9 (jm 17 1) (.Q 6 (jl 14 1 false 13) (.P 7 (jb 15 .rem 14 (cu 64)) (.P 8 (oj 16 (.sla 64 1 10 (some 15) none none)) (.e 10 (oi 18 (.cpy 1 16 17)) (.P 11 (jm 4 18) .nil))))))))))))
def Z0qb:LJ:=[jm 22 0,jz 23 22,jf 24 72 23,jl 25 1 false 24,jm 26 4,jv 27 .u64 26,jb 28 .add 25 27,jz 29 22,jf 30 72 29,js' 1 30 28]
def Z0qc:Sch:=(.P 0 (jm 37 0) (.P 1 (jm 38 0) (.P 2 (jz 39 38) (.P 3 (jf 40 0 39) (.P 5 (jm 42 0) (.P 6 (jz 43 42) (.P 7 (jf 44 8 43) (.Q 4 (jl 41 8 true 40) (.Q 8 (jl 45 64 true 44) (.P 9 (jc 46 85 [41,45]) (.P 10 (jz 47 37) (.P 11 (jf 48 0 47) (.e 12 (jo' 8 48 46) .nil)))))))))))))
def Z0j4:IC:=(.seq (.draw Z0qa [10]) (.sq [jm 19 1,jm 20 4,oj 21 (.sls 1 19 (some 20) none none),jm 1 21] (.sq Z0qb (.sq [jm 31 0,jz 32 31,jf 33 72 32,jl 34 1 false 33,jb 35 .rem 34 (cu 64),jb 36 .eql 35 (cu 0)] (.cond 36 (.draw Z0qc [12]) .skip)))))
def Z0jn:IC:=(.seq (.sq [jm 5 1,jn' 6 5,jb 7 .gtr 6 (ci 0)] (.cond 7 .skip (.exit 0))) (.block 1 Z0j4))
def Z0j3:IC:=(.loop Z0jn)
def d40:FnD:=⟨49,[],(.block 0 Z0j3)⟩
theorem ok40:okF Tryz.prog 40 d40=true:=by kernel_rfl
def Z0rm:LJ:=[jm 5 0,jb 6 .rem 5 (cu 64),jv 7 .i64 6,jb 8 .add 7 (ci 9),jb 9 .rem 8 (ci 64),jb 10 .sub (ci 64) 9,jb 11 .rem 10 (ci 64),jm 3 11]
def Z0rn:LJ:=[jm 12 3,jb 13 .add (ci 1) 12,jm 14 3,jb 15 .add (ci 1) 14,jb 16 .add 15 (ci 8),oj 17 (.mks 5 1 [.one (.int .u8 0)] 13 16),jm 4 17]
def d86:FnD:=⟨25,[.tmp 2],(.sq [jm 2 (.const (.slice none 0 0))] (.sq Z0rm (.sq Z0rn (.sq [jm 18 4,ji' 19 1 18 (ci 0),js' 1 19 (c8 128)] (.sq [jm 20 4,jm 21 0,jb 22 .mul 21 (cu 8),jc 23 59 [22],oj 24 (.app 5 1 1 [.one (.int .u8 0)] 20 23),jm 2 24] .ret)))))⟩
theorem ok86:okF Tryz.prog 86 d86=true:=by kernel_rfl
def Z0qd:LJ:=[jm 7 0,jz 8 7,jl 9 73 true 8,ja 3 183 [.ints .u32 8 (replicate 8 0),.ints .u8 64 (replicate 64 0),.one (.int .u64 0)],js' 73 3 9]
def Z0qe:Sch:=(.P 0 (jm 22 5) (.P 1 (jb 23 .mul (ci 4) 22) (.P 2 (oj 24 (.sla 32 1 4 (some 23) none none)) (.P 3 (jm 25 6) (.e 4 (oi 26 (.call 87 [25])) (.e 5 (oi 27 (.cpy 1 24 26)) .nil))))))
def Z0j6:IC:=(.sq [jm 20 18,oj 21 (.idx 8 1 false 17 18),jm 5 20,jm 6 21] (.draw Z0qe [5]))
def Z0jo:IC:=(.sq [jb 19 .lss 18 (ci 8)] (.seq (.cond 19 .skip (.exit 0)) (.seq (.block 1 Z0j6) (.ops [jb 28 .add 18 (ci 1),jm 18 28]))))
def Z0j5:IC:=(.loop Z0jo)
def d41:FnD:=⟨30,[.cell 2 32 true],(.sq [ja 2 23 [.ints .u8 32 (replicate 32 0)]] (.sq Z0qd (.sq [jm 10 0,jz 11 10,jf 12 72 11,jl 13 1 false 12,jc 14 86 [13],jc 15 40 [3,14]] (.sq [ja 4 23 [.ints .u8 32 (replicate 32 0)]] (.seq (.sq [jf 16 0 3,jl 17 8 true 16,jm 18 (ci 0)] (.block 0 Z0j5)) (.sq [jl 29 32 true 4,js' 32 2 29] .ret))))))⟩
theorem ok41:okF Tryz.prog 41 d41=true:=by kernel_rfl
def d11:FnD:=⟨10,[.cell 2 32 true],(.sq [ja 2 23 [.ints .u8 32 (replicate 32 0)]] (.sq [jc 4 39 [],jm 3 4] (.sq [jm 5 3,jm 6 0,jc 7 40 [5,6]] (.sq [jm 8 3,jc 9 41 [8],js' 32 2 9] .ret))))⟩
theorem ok11:okF Tryz.prog 11 d11=true:=by kernel_rfl
def d244:FnD:=⟨4,[.tmp 2],(.sq [jx 1 23 0,jm 2 (.const (.slice none 0 0))] (.sq [oj 3 (.sla 32 1 1 none none none),jm 2 3] .ret))⟩
theorem Z0ng:okF Tryz.prog 244 d244=true:=by kernel_rfl
def Z0b6:IC:=(.sq [jm 16 14,jm 6 16] (.ops [jm 17 5,jm 18 6,ji' 19 1 17 18,jl 20 1 false 19,jm 21 0,jb 22 .xor 20 21,ji' 23 1 17 18,js' 1 23 22]))
def Z0cn:IC:=(.sq [jb 15 .lss 14 13] (.seq (.cond 15 .skip (.exit 0)) (.seq (.block 1 Z0b6) (.ops [jb 24 .add 14 (ci 1),jm 14 24]))))
def Z0b5:IC:=(.loop Z0cn)
def d338:FnD:=⟨26,[.tmp 4],(.sq [jm 4 (.const (.slice none 0 0))] (.sq [jl 7 1 false 1,oj 8 (.mks 5 1 [.one (.int .u8 0)] 7 7),jm 5 8] (.sq [jm 9 5,jl 10 1 false 2,oj 11 (.cpy 1 9 10)] (.seq (.sq [jm 12 5,jn' 13 12,jm 14 (ci 0)] (.block 0 Z0b5)) (.sq [jm 25 5,jm 4 25] .ret)))))⟩
theorem Z0or:okF Tryz.prog 338 d338=true:=by kernel_rfl
def Z0ja:IC:=(.sq [ji' 13 1 9 11,jl 14 1 false 13,jm 5 14] (.ops [jm 15 3,jm 16 5,jn' 17 16,jb 18 .add 15 17,jm 3 18]))
def Z0jq:IC:=(.sq [jb 12 .lss 11 10] (.seq (.cond 12 .skip (.exit 0)) (.seq (.block 1 Z0ja) (.ops [jb 19 .add 11 (ci 1),jm 11 19]))))
def Z0j9:IC:=(.loop Z0jq)
def Z0jc:IC:=(.sq [ji' 26 1 22 24,jl 27 1 false 26,jm 8 27] (.ops [jm 28 6,jm 29 8,oj 30 (.app 5 1 1 [.one (.int .u8 0)] 28 29),jm 6 30]))
def Z0jr:IC:=(.sq [jb 25 .lss 24 23] (.seq (.cond 25 .skip (.exit 2)) (.seq (.block 3 Z0jc) (.ops [jb 31 .add 24 (ci 1),jm 24 31]))))
def Z0jb:IC:=(.loop Z0jr)
def d58:FnD:=⟨33,[.tmp 2],(.sq [jm 2 (.const (.slice none 0 0))] (.sq [jm 3 (ci 0)] (.seq (.sq [jm 9 0,jn' 10 9,jm 11 (ci 0)] (.block 0 Z0j9)) (.sq [jm 20 3,oj 21 (.mks 5 1 [.one (.int .u8 0)] (ci 0) 20),jm 6 21] (.seq (.sq [jm 22 0,jn' 23 22,jm 24 (ci 0)] (.block 2 Z0jb)) (.sq [jm 32 6,jm 2 32] .ret))))))⟩
theorem ok58:okF Tryz.prog 58 d58=true:=by kernel_rfl
def Z0gz:Sch:=(.Q 0 (jl 14 1 false 3) (.Q 1 (jl 15 1 false 4) (.Q 2 (jl 16 1 false 5) (.e 3 (oi 17 (.cv 15 [16])) (.e 4 (oi 18 (.cv 14 [17])) (.e 5 (jo' 1 5 18) .nil))))))
def Z0h0:Sch:=(.P 1 (jm 21 8) (.P 3 (jm 23 1) (.Q 0 (jl 20 1 false 4) (.two 2 (oi 22 (.cv 21 [(c8 54)])) (.two 4 (oi 24 (.bs 58 2 1 [.one (.slice none 0 0),.one (.slice none 0 0)] [(0,1,22),(1,1,23)])) (.two 5 (oi 25 (.call 58 [24])) (.two 6 (oi 26 (.cv 20 [25])) (.e 7 (oi 9 (.al 23 [.ints .u8 32 (replicate 32 0)])) (.e 8 (jo' 32 9 26) .nil))
 7 ⟨some 9,none,.al 23 [.ints .u8 32 (replicate 32 0)]⟩ (.e 6 (oi 26 (.cv 20 [25])) (.e 8 (jo' 32 9 26) .nil)))
 7 ⟨some 9,none,.al 23 [.ints .u8 32 (replicate 32 0)]⟩ (.e 5 (oi 25 (.call 58 [24])) (.e 6 (oi 26 (.cv 20 [25])) (.e 8 (jo' 32 9 26) .nil))))
 7 ⟨some 9,none,.al 23 [.ints .u8 32 (replicate 32 0)]⟩ (.e 4 (oi 24 (.bs 58 2 1 [.one (.slice none 0 0),.one (.slice none 0 0)] [(0,1,22),(1,1,23)])) (.e 5 (oi 25 (.call 58 [24])) (.e 6 (oi 26 (.cv 20 [25])) (.e 8 (jo' 32 9 26) .nil)))))
 7 ⟨some 9,none,.al 23 [.ints .u8 32 (replicate 32 0)]⟩ (.e 2 (oi 22 (.cv 21 [(c8 54)])) (.e 4 (oi 24 (.bs 58 2 1 [.one (.slice none 0 0),.one (.slice none 0 0)] [(0,1,22),(1,1,23)])) (.e 5 (oi 25 (.call 58 [24])) (.e 6 (oi 26 (.cv 20 [25])) (.e 8 (jo' 32 9 26) .nil)))))))))
def Z0h1:Sch:=(.P 1 (jm 28 8) (.Q 0 (jl 27 1 false 4) (.Q 3 (jl 30 1 false 3) (.Q 4 (jl 31 32 true 9) (.e 2 (oi 29 (.cv 28 [(c8 92)])) (.e 5 (oi 32 (.cv 30 [31])) (.e 6 (oi 33 (.bs 58 2 1 [.one (.slice none 0 0),.one (.slice none 0 0)] [(0,1,29),(1,1,32)])) (.e 7 (oi 34 (.call 58 [33])) (.e 8 (oi 35 (.cv 27 [34])) (.e 9 (jo' 32 7 35) .nil))))))))))
def d337:FnD:=⟨36,[.cell 7 32 true],(.sq [jx 5 58 0,ja 7 23 [.ints .u8 32 (replicate 32 0)]] (.seq (.sq [jl 10 1 false 5,jn' 11 10,jl 12 1 false 2,jb 13 .gtr 11 12] (.cond 13 (.draw Z0gz [5]) .skip)) (.sq [oj 19 (.mf 338 [2,5]),jm 8 19] (.seq (.draw Z0h0 [8]) (.seq (.draw Z0h1 [9]) .ret)))))⟩
theorem Z0oq:okF Tryz.prog 337 d337=true:=by kernel_rfl
def d101:FnD:=⟨8,[.cell 4 32 true,.tmp 5],(.sq [jx 2 46 0,jx 3 29 1,ja 4 43 [.ints .u8 32 (replicate 32 0)],jm 5 (.const (.bool false))] (.sq [jf 6 0 2,jl 7 32 true 6,js' 32 4 7,jm 5 (.const (.bool true))] .ret))⟩
theorem Z0l1:okF Tryz.prog 101 d101=true:=by kernel_rfl
def d105:FnD:=⟨8,[.cell 4 32 true,.tmp 5],(.sq [jx 2 46 0,jx 3 31 1,ja 4 43 [.ints .u8 32 (replicate 32 0)],jm 5 (.const (.bool false))] (.sq [jf 6 0 2,jl 7 32 true 6,js' 32 4 7,jm 5 (.const (.bool true))] .ret))⟩
theorem Z0l5:okF Tryz.prog 105 d105=true:=by kernel_rfl
def Z0px:LJ:=[jm 7 0,jm 8 1,jb 9 .geq 7 8,jm 10 9,.lg false 10 14 none [.op ⟨some 11,(some (10,true)),.mv 0⟩,.op ⟨some 12,(some (10,true)),.mv 2⟩,.op ⟨some 13,(some (10,true)),.bin .leq 11 12⟩] 13,jm 6 14]
def d19:FnD:=⟨15,[.tmp 6],(.sq [jm 6 (.const (.bool false))] (.sq Z0px .ret))⟩
theorem ok19:okF Tryz.prog 19 d19=true:=by kernel_rfl
def d108:FnD:=⟨8,[.cell 4 32 true,.tmp 5],(.sq [jx 2 46 0,jx 3 34 1,ja 4 43 [.ints .u8 32 (replicate 32 0)],jm 5 (.const (.bool false))] (.sq [jf 6 0 2,jl 7 32 true 6,js' 32 4 7,jm 5 (.const (.bool true))] .ret))⟩
theorem Z0l8:okF Tryz.prog 108 d108=true:=by kernel_rfl
def d121:FnD:=⟨8,[.cell 4 32 true,.tmp 5],(.sq [jx 2 46 0,jx 3 36 1,ja 4 43 [.ints .u8 32 (replicate 32 0)],jm 5 (.const (.bool false))] (.sq [jf 6 0 2,jl 7 32 true 6,js' 32 4 7,jm 5 (.const (.bool true))] .ret))⟩
theorem Z0ll:okF Tryz.prog 121 d121=true:=by kernel_rfl
def r6_1:LJ:=[jf 5 0 1,jl 6 1 false 5,jc 7 19 [6,(ci 1),(ci 16)],jm 8 7,.lg false 8 12 none [.op ⟨some 9,(some (8,true)),.fa 1 1⟩,.op ⟨some 10,(some (8,true)),.ld 1 false 9⟩,.op ⟨some 11,(some (8,true)),.call 19 [10,(ci 1),(ci 8)]⟩] 11,jm 3 12]
def r6_2:LJ:=[jf 13 2 1,jl 14 1 false 13,jc 15 19 [14,(ci 1),(ci 256)],jm 16 15,.lg false 16 20 none [.op ⟨some 17,(some (16,true)),.fa 3 1⟩,.op ⟨some 18,(some (16,true)),.ld 1 false 17⟩,.op ⟨some 19,(some (16,true)),.call 19 [18,(ci 512),(ci 1048576)]⟩] 19,jm 4 20]
def r6_3:LJ:=[jm 21 3,oj 22 (.un .not 21),jm 23 22,.lg true 23 26 none [.op ⟨some 24,(some (23,false)),.mv 4⟩,.op ⟨some 25,(some (23,false)),.un .not 24⟩] 25,jm 27 26,.lg true 27 32 none [.op ⟨some 28,(some (27,false)),.fa 4 1⟩,.op ⟨some 29,(some (27,false)),.ld 1 false 28⟩,.op ⟨some 30,(some (27,false)),.call 19 [29,(ci 1),(ci 65535)]⟩,.op ⟨some 31,(some (27,false)),.un .not 30⟩] 31]
def d6:FnD:=⟨33,[.tmp 2],(.sq [jx 1 25 0,jm 2 (ci 0)] (.sq r6_1 (.sq r6_2 (.seq (.sq r6_3 (.cond 32 (.sq [jm 2 (ci 4)] .ret) .skip)) (.sq [jm 2 (ci 0)] .ret)))))⟩
theorem ok6:okF Tryz.prog 6 d6=true:=by kernel_rfl
def d243:FnD:=⟨8,[.tmp 6],(.sq [jx 3 3 0,jx 4 57 1,jx 5 363 2,jm 6 (.const (.nilFunc))] (.sq [oj 7 (.mf 337 [3,5,4]),jm 6 7] .ret))⟩
theorem Z0nf:okF Tryz.prog 243 d243=true:=by kernel_rfl
def d124:FnD:=⟨9,[.cell 4 32 true],(.sq [ja 4 23 [.ints .u8 32 (replicate 32 0)]] (.sq [jc 5 243 [(ci 64),(.func 11),(.func 244)],jm 6 0,jm 7 1,oj 8 (.cv 5 [6,7]),js' 32 4 8] .ret))⟩
theorem Z0lo:okF Tryz.prog 124 d124=true:=by kernel_rfl
def Z0r6:LJ:=[jm 12 2,jb 13 .lss 12 (ci 0),jm 14 13,.lg true 14 17 none [.op ⟨some 15,(some (14,false)),.mv 2⟩,.op ⟨some 16,(some (14,false)),.bin .gtr 15 (ci 8160)⟩] 16]
def Z0r7:Sch:=(.P 0 (oj 27 (.sla 32 1 3 none none none)) (.P 1 (jm 28 9) (.P 2 (jm 29 1) (.P 3 (jm 30 10) (.two 4 (oi 31 (.bs 5 1 1 [.one (.int .u8 0)] [(0,1,30)])) (.two 5 (oi 32 (.bs 58 3 1 [.one (.slice none 0 0),.one (.slice none 0 0),.one (.slice none 0 0)] [(0,1,28),(1,1,29),(2,1,31)])) (.two 6 (oi 33 (.call 58 [32])) (.two 7 (oi 34 (.call 124 [27,33])) (.e 8 (oi 11 (.al 23 [.ints .u8 32 (replicate 32 0)])) (.e 9 (jo' 32 11 34) .nil))
 8 ⟨some 11,none,.al 23 [.ints .u8 32 (replicate 32 0)]⟩ (.e 7 (oi 34 (.call 124 [27,33])) (.e 9 (jo' 32 11 34) .nil)))
 8 ⟨some 11,none,.al 23 [.ints .u8 32 (replicate 32 0)]⟩ (.e 6 (oi 33 (.call 58 [32])) (.e 7 (oi 34 (.call 124 [27,33])) (.e 9 (jo' 32 11 34) .nil))))
 8 ⟨some 11,none,.al 23 [.ints .u8 32 (replicate 32 0)]⟩ (.e 5 (oi 32 (.bs 58 3 1 [.one (.slice none 0 0),.one (.slice none 0 0),.one (.slice none 0 0)] [(0,1,28),(1,1,29),(2,1,31)])) (.e 6 (oi 33 (.call 58 [32])) (.e 7 (oi 34 (.call 124 [27,33])) (.e 9 (jo' 32 11 34) .nil)))))
 8 ⟨some 11,none,.al 23 [.ints .u8 32 (replicate 32 0)]⟩ (.e 4 (oi 31 (.bs 5 1 1 [.one (.int .u8 0)] [(0,1,30)])) (.e 5 (oi 32 (.bs 58 3 1 [.one (.slice none 0 0),.one (.slice none 0 0),.one (.slice none 0 0)] [(0,1,28),(1,1,29),(2,1,31)])) (.e 6 (oi 33 (.call 58 [32])) (.e 7 (oi 34 (.call 124 [27,33])) (.e 9 (jo' 32 11 34) .nil))))))))))
def Z0jg:IC:=(.seq (.draw Z0r7 [9]) (.sq [oj 35 (.sla 32 1 11 none none none),jm 9 35] (.ops [jm 36 8,jm 37 9,oj 38 (.app 5 1 1 [.one (.int .u8 0)] 36 37),jm 8 38])))
def Z0jt:IC:=(.seq (.sq [jm 21 8,jn' 22 21,jm 23 2,jb 24 .lss 22 23] (.cond 24 .skip (.exit 0))) (.seq (.block 1 Z0jg) (.ops [jm 25 10,jb 26 .add 25 (c8 1),jm 10 26])))
def Z0jf:IC:=(.loop Z0jt)
def d60:FnD:=⟨43,[.tmp 6,.tmp 7],(.sq [jx 3 23 0,jm 6 (.const (.slice none 0 0)),jm 7 (.const (.bool false))] (.seq (.sq Z0r6 (.cond 17 (.sq [jm 6 (.const (.slice none 0 0)),jm 7 (.const (.bool false))] .ret) .skip)) (.sq [jm 18 2,jb 19 .add 18 (ci 32),oj 20 (.mks 5 1 [.one (.int .u8 0)] (ci 0) 19),jm 8 20] (.sq [jm 9 (.const (.slice none 0 0))] (.seq (.sq [jm 10 (c8 1)] (.block 0 Z0jf)) (.sq [jm 39 8,jm 40 2,jm 41 2,oj 42 (.sls 1 39 none (some 40) (some 41)),jm 6 42,jm 7 (.const (.bool true))] .ret))))))⟩
theorem ok60:okF Tryz.prog 60 d60=true:=by kernel_rfl
def Z0q2:LJ:=[jm 12 1,oj 13 (.lens 12),jb 14 .gtr 13 (ci 32),jm 15 14,.lg true 15 18 none [.op ⟨some 16,(some (15,false)),.mv 2⟩,.op ⟨some 17,(some (15,false)),.bin .lss 16 (ci 0)⟩] 17,jm 19 18,.lg true 19 22 none [.op ⟨some 20,(some (19,false)),.mv 2⟩,.op ⟨some 21,(some (19,false)),.bin .gtr 20 (ci 2147483647)⟩] 21]
def Z0q3:LJ:=[jm 24 1,oj 25 (.s2b 5 24),oj 26 (.bs 5 1 1 [.one (.int .u8 0)] [(0,1,(c8 0))]),jm 27 2,jv 28 .u64 27,jc 29 59 [28],oj 30 (.bs 58 3 1 [.one (.slice none 0 0),.one (.slice none 0 0),.one (.slice none 0 0)] [(0,1,25),(1,1,26),(2,1,29)]),jc 31 58 [30],jm 8 31]
def d23:FnD:=⟨42,[.cell 6 32 true,.tmp 7],(.sq [jx 3 23 0,ja 6 23 [.ints .u8 32 (replicate 32 0)],jm 7 (.const (.bool false))] (.seq (.sq Z0q2 (.cond 22 (.sq [jd 23 [.ints .u8 32 (replicate 32 0)] [],js' 32 6 23,jm 7 (.const (.bool false))] .ret) .skip)) (.sq Z0q3 (.sq [jl 33 32 true 3,jm 34 8,jc 35 60 [33,34,(ci 32)],jm 32 35,je 36 32 0,je 37 32 1,jm 9 36,jm 10 37] (.sq [ja 11 23 [.ints .u8 32 (replicate 32 0)]] (.sq [oj 38 (.sla 32 1 11 none none none),jm 39 9,oj 40 (.cpy 1 38 39)] (.sq [jl 41 32 true 11,js' 32 6 41,jm 7 (.const (.bool true))] .ret)))))))⟩
theorem ok23:okF Tryz.prog 23 d23=true:=by kernel_rfl
def r8_1:LJ:=[jl 6 37 true 2,jc 7 6 [6],jb 8 .neq 7 (ci 0),jm 9 8,.lg true 9 18 none [.op ⟨some 10,(some (9,false)),.mv 1⟩,.op ⟨some 11,(some (9,false)),.fa 0 2⟩,.op ⟨some 12,(some (9,false)),.ld 1 false 11⟩,.op ⟨some 13,(some (9,false)),.fa 1 2⟩,.op ⟨some 14,(some (9,false)),.ld 1 false 13⟩,.op ⟨some 15,(some (9,false)),.bin .add 12 14⟩,.op ⟨some 16,(some (9,false)),.call 19 [10,(ci 0),15]⟩,.op ⟨some 17,(some (9,false)),.un .not 16⟩] 17]
def r8_3:LJ:=[jf 20 5 2,jl 21 32 true 20,jm 22 1,.op ⟨some 23,none,.call 23 [21,(.const (.string ⟨#[110,111,100,101]⟩)),22]⟩,je 24 23 0,je 25 23 1,js' 32 4 24,jm 5 25]
def d8:FnD:=⟨26,[.cell 4 32 true,.tmp 5],(.sq [jx 2 25 0,ja 4 23 [.ints .u8 32 (replicate 32 0)],jm 5 (.const (.bool false))] (.seq (.sq r8_1 (.cond 18 (.sq [jd 19 [.ints .u8 32 (replicate 32 0)] [],js' 32 4 19,jm 5 (.const (.bool false))] .ret) .skip)) (.sq r8_3 .ret)))⟩
theorem ok8:okF Tryz.prog 8 d8=true:=by kernel_rfl
def Z0f7:LJ:=[jl 1 8 true (.global 2),jd 2 [.ints .u64 8 (replicate 8 0),.ints .u8 128 (replicate 128 0),.one (.int .i64 0),.one (.int .u64 0)] [(0,8,1)],jx 3 382 2,jm 0 3]
def d222:FnD:=⟨4,[.tmp 0],(.sq [jm 0 (.const (.pointer none))] (.sq Z0f7 .ret))⟩
theorem Z0mv:okF Tryz.prog 222 d222=true:=by kernel_rfl
def Z0h3:LJ:=[jm 8 1,jb 9 .lss 8 (ci 0),jm 10 9,.lg true 10 17 none [.op ⟨some 11,(some (10,false)),.mv 1⟩,.op ⟨some 12,(some (10,false)),.mv 0⟩,.op ⟨some 13,(some (10,false)),.len 12⟩,.op ⟨some 14,(some (10,false)),.mv 5⟩,.op ⟨some 15,(some (10,false)),.bin .sub 13 14⟩,.op ⟨some 16,(some (10,false)),.bin .gtr 11 15⟩] 16]
def d342:FnD:=⟨24,[.tmp 4],(.sq [jm 4 (.const (.slice none 0 0))] (.sq [jc 6 123 [],jb 7 .quo 6 (ci 8),jm 5 7] (.seq (.sq Z0h3 (.cond 17 (.sq [jm 4 (.const (.slice none 0 0))] .ret) .skip)) (.sq [jm 18 0,jm 19 1,jm 20 1,jm 21 5,jb 22 .add 20 21,oj 23 (.sls 1 18 (some 19) (some 22) none),jm 4 23] .ret))))⟩
theorem Z0ot:okF Tryz.prog 342 d342=true:=by kernel_rfl
def Z0ap:IC:=(.sq [ji' 17 1 13 15,jl 18 1 false 17,jm 9 18] (.ops [jm 19 6,jb 20 .shl 19 (cu 8),jm 21 9,jv 22 .u64 21,jb 23 .or 20 22,jm 6 23]))
def Z0cf:IC:=(.sq [jb 16 .lss 15 14] (.seq (.cond 16 .skip (.exit 0)) (.seq (.block 1 Z0ap) (.ops [jb 24 .add 15 (ci 1),jm 15 24]))))
def Z0ao:IC:=(.loop Z0cf)
def d300:FnD:=⟨28,[.tmp 4,.tmp 5],(.sq [jm 4 (cu 0),jm 5 (.const (.bool false))] (.sq [jm 6 (cu 0)] (.sq [jm 10 0,jm 11 1,jc 12 342 [10,11],jm 7 12] (.seq (.sq [jm 13 7,jn' 14 13,jm 15 (ci 0)] (.block 0 Z0ao)) (.sq [jm 25 6,jm 26 7,oj 27 (.isn true 26),jm 4 25,jm 5 27] .ret)))))⟩
theorem Z0ny:okF Tryz.prog 300 d300=true:=by kernel_rfl
def Z0hf:LJ:=[jm 14 0,jm 15 6,jb 16 .shr 14 15,jm 17 0,jm 18 5,jv 19 .u64 18,jm 20 6,jb 21 .sub 19 20,jb 22 .shl 17 21,jb 23 .or 16 22,jm 4 23]
def d364:FnD:=⟨24,[.tmp 4],(.sq [jm 4 (cu 0)] (.sq [jc 7 123 [],jm 5 7] (.sq [jm 8 1,jv 9 .u64 8,jm 10 5,jb 11 .sub 10 (ci 1),jv 12 .u64 11,jb 13 .and 9 12,jm 6 13] (.sq Z0hf .ret))))⟩
theorem Z0pa:okF Tryz.prog 364 d364=true:=by kernel_rfl
def Z0he:Sch:=(.P 0 (jm 9 0) (.P 1 (jm 10 1) (.P 2 (jc 11 364 [9,10]) (.P 3 (jm 12 0) (.P 4 (jm 13 2) (.P 5 (jc 14 364 [12,13]) (.P 6 (jb 15 .xor 11 14) (.P 7 (jm 16 0) (.P 8 (jm 17 3) (.P 9 (jb 18 .shr 16 17) (.P 10 (jb 19 .xor 15 18) (.P 11 (jm 8 19) .nil))))))))))))
def d363:FnD:=⟨20,[.tmp 8],(.sq [jm 8 (cu 0)] (.seq (.draw Z0he []) .ret))⟩
theorem Z0p9:okF Tryz.prog 363 d363=true:=by kernel_rfl
def Z0h9:LJ:=[jm 11 4,oj 12 (.sla 128 1 1 none none none),jm 13 4,jb 14 .mul (ci 8) 13,jc 15 300 [12,14],jm 10 15,je 16 10 0,je 17 10 1,ji 18 80 1 3 11,js' 1 18 16]
def Z0ha:Sch:=(.P 0 (jm 19 4) (.P 1 (jm 20 4) (.P 2 (jb 21 .sub 20 (ci 2)) (.P 3 (ji 22 80 1 3 21) (.P 6 (jm 25 4) (.P 7 (jb 26 .sub 25 (ci 7)) (.P 8 (ji 27 80 1 3 26) (.P 11 (jm 30 4) (.P 12 (jb 31 .sub 30 (ci 15)) (.P 13 (ji 32 80 1 3 31) (.P 17 (jm 36 4) (.P 18 (jb 37 .sub 36 (ci 16)) (.P 19 (ji 38 80 1 3 37) (.Q 4 (jl 23 1 false 22) (.P 5 (jc 24 363 [23,(ci 19),(ci 61),(ci 6)]) (.Q 9 (jl 28 1 false 27) (.P 10 (jb 29 .add 24 28) (.Q 14 (jl 33 1 false 32) (.P 15 (jc 34 363 [33,(ci 1),(ci 8),(ci 7)]) (.P 16 (jb 35 .add 29 34) (.Q 20 (jl 39 1 false 38) (.P 21 (jb 40 .add 35 39) (.P 22 (ji 41 80 1 3 19) (.e 23 (jo' 1 41 40) .nil))))))))))))))))))))))))
def Z0bo:IC:=(.sq [jm 7 5,jm 4 7] (.seq (.sq [jm 8 4,jb 9 .lss 8 (ci 16)] (.cond 9 (.sq Z0h9 (.exit 1)) .skip)) (.draw Z0ha [23])))
def Z0cw:IC:=(.sq [jb 6 .lss 5 (ci 80)] (.seq (.cond 6 .skip (.exit 0)) (.seq (.block 1 Z0bo) (.ops [jb 42 .add 5 (ci 1),jm 5 42]))))
def Z0bn:IC:=(.loop Z0cw)
def d354:FnD:=⟨44,[.cell 2 80 true],(.sq [jx 1 380 0,ja 2 410 [.ints .u64 80 (replicate 80 0)]] (.sq [ja 3 410 [.ints .u64 80 (replicate 80 0)]] (.seq (.sq [jm 5 (ci 0)] (.block 0 Z0bn)) (.sq [jl 43 80 true 3,js' 80 2 43] .ret))))⟩
theorem Z0p2:okF Tryz.prog 354 d354=true:=by kernel_rfl
def Z0hb:LJ:=[jm 9 0,jm 10 1,jc 11 364 [9,10],jm 12 0,jm 13 2,jc 14 364 [12,13],jb 15 .xor 11 14,jm 16 0,jm 17 3,jc 18 364 [16,17],jb 19 .xor 15 18,jm 8 19]
def d355:FnD:=⟨20,[.tmp 8],(.sq [jm 8 (cu 0)] (.sq Z0hb .ret))⟩
theorem Z0p3:okF Tryz.prog 355 d355=true:=by kernel_rfl
def Z0ga:Sch:=(.P 0 (ji 22 8 1 2 (ci 0)) (.P 2 (ji 24 8 1 2 (ci 1)) (.P 4 (ji 26 8 1 2 (ci 2)) (.P 6 (ji 28 8 1 2 (ci 3)) (.Q 1 (jl 23 1 false 22) (.P 8 (jm 6 23) (.Q 3 (jl 25 1 false 24) (.P 9 (jm 7 25) (.Q 5 (jl 27 1 false 26) (.P 10 (jm 8 27) (.Q 7 (jl 29 1 false 28) (.P 11 (jm 9 29) .nil))))))))))))
def Z0gb:Sch:=(.P 0 (ji 30 8 1 2 (ci 4)) (.P 2 (ji 32 8 1 2 (ci 5)) (.P 4 (ji 34 8 1 2 (ci 6)) (.P 6 (ji 36 8 1 2 (ci 7)) (.Q 1 (jl 31 1 false 30) (.P 8 (jm 10 31) (.Q 3 (jl 33 1 false 32) (.P 9 (jm 11 33) (.Q 5 (jl 35 1 false 34) (.P 10 (jm 12 35) (.Q 7 (jl 37 1 false 36) (.P 11 (jm 13 37) .nil))))))))))))
def Z0gc:Sch:=(.P 0 (jm 43 13) (.P 1 (jm 44 10) (.P 2 (jc 45 355 [44,(ci 14),(ci 18),(ci 41)]) (.P 3 (jb 46 .add 43 45) (.P 4 (jm 47 10) (.P 5 (jm 48 11) (.P 6 (jb 49 .and 47 48) (.P 7 (jm 50 10) (.P 8 (oj 51 (.un .xor 50)) (.P 9 (jm 52 12) (.P 10 (jb 53 .and 51 52) (.P 11 (jb 54 .xor 49 53) (.P 12 (jb 55 .add 46 54) (.P 13 (jm 56 15) (.P 14 (jb 57 .add 55 56) (.P 15 (jm 58 14) (.P 16 (ji 59 80 1 5 58) (.Q 17 (jl 60 1 false 59) (.P 18 (jb 61 .add 57 60) (.P 19 (jm 16 61) .nil))))))))))))))))))))
def Z0gd:LJ:=[jm 62 6,jc 63 355 [62,(ci 28),(ci 34),(ci 39)],jm 64 6,jm 65 7,jb 66 .and 64 65,jm 67 6,jm 68 8,jb 69 .and 67 68,jb 70 .xor 66 69,jm 71 7,jm 72 8,jb 73 .and 71 72,jb 74 .xor 70 73,jb 75 .add 63 74,jm 17 75]
def Z0ge:LJ:=[jm 76 12,jm 77 11,jm 78 10,jm 79 9,jm 80 16,jb 81 .add 79 80,jm 82 8,jm 83 7,jm 84 6,jm 85 16,jm 86 17,jb 87 .add 85 86,jm 13 76,jm 12 77,jm 11 78,jm 10 81,jm 9 82,jm 8 83,jm 7 84,jm 6 87]
def Z0at:IC:=(.sq [jm 41 39,oj 42 (.idx 80 1 false 38 39),jm 14 41,jm 15 42] (.seq (.draw Z0gc []) (.sq Z0gd (.ops Z0ge))))
def Z0ch:IC:=(.sq [jb 40 .lss 39 (ci 80)] (.seq (.cond 40 .skip (.exit 0)) (.seq (.block 1 Z0at) (.ops [jb 88 .add 39 (ci 1),jm 39 88]))))
def Z0as:IC:=(.loop Z0ch)
def Z06x:LJ:=[jm 89 6,jm 90 7,jm 91 8,jm 92 9,jm 93 10,jm 94 11,jm 95 12,jm 96 13,jd 97 [.ints .u64 8 (replicate 8 0)] [(0,1,89),(1,1,90),(2,1,91),(3,1,92),(4,1,93),(5,1,94),(6,1,95),(7,1,96)],jm 98 (ci 0)]
def Z0av:IC:=(.sq [jm 100 98,oj 101 (.idx 8 1 false 97 98),jm 18 100,jm 19 101] (.ops [jm 102 18,ji 103 8 1 2 102,jl 104 1 false 103,jm 105 19,jb 106 .add 104 105,ji 107 8 1 2 102,js' 1 107 106]))
def Z0ci:IC:=(.sq [jb 99 .lss 98 (ci 8)] (.seq (.cond 99 .skip (.exit 2)) (.seq (.block 3 Z0av) (.ops [jb 108 .add 98 (ci 1),jm 98 108]))))
def Z0au:IC:=(.loop Z0ci)
def d320:FnD:=⟨110,[.cell 4 8 true],(.sq [jx 2 379 0,jx 3 380 1,ja 4 379 [.ints .u64 8 (replicate 8 0)]] (.sq [jl 20 128 true 3,jc 21 354 [20],ja 5 410 [.ints .u64 80 (replicate 80 0)],js' 80 5 21] (.seq (.draw Z0ga []) (.seq (.draw Z0gb []) (.seq (.sq [jl 38 80 true (.global 4),jm 39 (ci 0)] (.block 0 Z0as)) (.seq (.sq Z06x (.block 2 Z0au)) (.sq [jl 109 8 true 2,js' 8 4 109] .ret)))))))⟩
theorem Z0o9:okF Tryz.prog 320 d320=true:=by kernel_rfl
def Z0f8:LJ:=[jm 5 0,jz 6 5,jf 7 137 6,jl 8 1 false 7,jm 9 1,jn' 10 9,jv 11 .u64 10,jb 12 .add 8 11,jz 13 5,jf 14 137 13,js' 1 14 12]
def Z0f9:Sch:=(.P 0 (jm 18 0) (.P 1 (jz 19 18) (.P 2 (jf 20 8 19) (.P 3 (jm 21 0) (.P 4 (jz 22 21) (.P 5 (jf 23 136 22) (.P 8 (jm 26 1) (.Q 6 (jl 24 1 false 23) (.P 7 (oj 25 (.sla 128 1 20 (some 24) none none)) (.e 9 (oi 27 (.cpy 1 25 26)) (.P 10 (jm 4 27) .nil)))))))))))
def Z0fa:Sch:=(.P 0 (jm 44 0) (.P 1 (jm 45 0) (.P 2 (jz 46 45) (.P 3 (jf 47 0 46) (.P 5 (jm 49 0) (.P 6 (jz 50 49) (.P 7 (jf 51 8 50) (.Q 4 (jl 48 8 true 47) (.Q 8 (jl 52 128 true 51) (.P 9 (jc 53 320 [48,52]) (.P 10 (jz 54 44) (.P 11 (jf 55 0 54) (.e 12 (jo' 8 55 53) .nil)))))))))))))
def Z0a3:IC:=(.seq (.draw Z0f9 [9]) (.sq [jm 28 1,jm 29 4,oj 30 (.sls 1 28 (some 29) none none),jm 1 30] (.sq [jm 31 0,jz 32 31,jf 33 136 32,jl 34 1 false 33,jm 35 4,jb 36 .add 34 35,jz 37 31,jf 38 136 37,js' 1 38 36] (.sq [jm 39 0,jz 40 39,jf 41 136 40,jl 42 1 false 41,jb 43 .eql 42 (ci 128)] (.cond 43 (.seq (.draw Z0fa [12]) (.ops [jm 56 0,jz 57 56,jf 58 136 57,js' 1 58 (ci 0)])) .skip)))))
def Z0c4:IC:=(.seq (.sq [jm 15 1,jn' 16 15,jb 17 .gtr 16 (ci 0)] (.cond 17 .skip (.exit 0))) (.block 1 Z0a3))
def Z0a2:IC:=(.loop Z0c4)
def d223:FnD:=⟨59,[],(.sq Z0f8 (.block 0 Z0a2))⟩
theorem Z0mw:okF Tryz.prog 223 d223=true:=by kernel_rfl
def Z0gf:LJ:=[jm 4 0,jz 5 4,jl 6 138 true 5,ja 3 382 [.ints .u64 8 (replicate 8 0),.ints .u8 128 (replicate 128 0),.one (.int .i64 0),.one (.int .u64 0)],js' 138 3 6]
def d321:FnD:=⟨7,[.tmp 2],(.sq [jm 2 (.const (.pointer none))] (.sq Z0gf (.sq [jm 2 3] .ret)))⟩
theorem Z0oa:okF Tryz.prog 321 d321=true:=by kernel_rfl
def Z0gg:LJ:=[jm 5 0,jb 6 .add 5 (cu 17),jb 7 .rem 6 (cu 128),jv 8 .i64 7,jb 9 .sub (ci 128) 8,jb 10 .rem 9 (ci 128),jm 3 10]
def Z0gh:LJ:=[jm 14 4,oj 15 (.bs 5 1 1 [.one (.int .u8 0)] [(0,1,(c8 128))]),oj 16 (.app 5 1 1 [.one (.int .u8 0)] 14 15),jm 4 16]
def d322:FnD:=⟨30,[.tmp 2],(.sq [jm 2 (.const (.slice none 0 0))] (.sq Z0gg (.sq [jm 11 3,jb 12 .add (ci 17) 11,oj 13 (.mks 5 1 [.one (.int .u8 0)] (ci 0) 12),jm 4 13] (.sq Z0gh (.sq [jm 17 4,jm 18 3,oj 19 (.apz 5 1 1 [.one (.int .u8 0)] 17 18),jm 4 19] (.sq [jm 20 4,jm 21 0,jb 22 .shr 21 (cu 61),jc 23 59 [22],oj 24 (.app 5 1 1 [.one (.int .u8 0)] 20 23),jm 4 24] (.sq [jm 25 4,jm 26 0,jb 27 .shl 26 (cu 3),jc 28 59 [27],oj 29 (.app 5 1 1 [.one (.int .u8 0)] 25 28),jm 2 29] .ret)))))))⟩
theorem Z0ob:okF Tryz.prog 322 d322=true:=by kernel_rfl
def Z0fb:Sch:=(.P 0 (jm 24 5) (.P 1 (jb 25 .mul (ci 8) 24) (.P 2 (oj 26 (.sla 64 1 4 (some 25) none none)) (.P 3 (jm 27 6) (.e 4 (oi 28 (.call 59 [27])) (.e 5 (oi 29 (.cpy 1 26 28)) .nil))))))
def Z0a5:IC:=(.sq [jm 22 20,oj 23 (.idx 8 1 false 19 20),jm 5 22,jm 6 23] (.draw Z0fb [5]))
def Z0c5:IC:=(.sq [jb 21 .lss 20 (ci 8)] (.seq (.cond 21 .skip (.exit 0)) (.seq (.block 1 Z0a5) (.ops [jb 30 .add 20 (ci 1),jm 20 30]))))
def Z0a4:IC:=(.loop Z0c5)
def d224:FnD:=⟨32,[.cell 2 64 true],(.sq [ja 2 212 [.ints .u8 64 (replicate 64 0)]] (.sq [jm 7 0,jc 8 321 [7],jm 3 8] (.sq [jm 9 3,jm 10 0,jz 11 10,jf 12 137 11,jl 13 1 false 12,jc 14 322 [13],jc 15 223 [9,14]] (.sq [ja 4 212 [.ints .u8 64 (replicate 64 0)]] (.seq (.sq [jm 16 3,jz 17 16,jf 18 0 17,jl 19 8 true 18,jm 20 (ci 0)] (.block 0 Z0a4)) (.sq [jl 31 64 true 4,js' 64 2 31] .ret))))))⟩
theorem Z0mx:okF Tryz.prog 224 d224=true:=by kernel_rfl
def d111:FnD:=⟨10,[.cell 2 64 true],(.sq [ja 2 212 [.ints .u8 64 (replicate 64 0)]] (.sq [jc 4 222 [],jm 3 4] (.sq [jm 5 3,jm 6 0,jc 7 223 [5,6]] (.sq [jm 8 3,jc 9 224 [8],js' 64 2 9] .ret))))⟩
theorem Z0lb:okF Tryz.prog 111 d111=true:=by kernel_rfl
def d112:FnD:=⟨13,[.cell 2 32 true],(.sq [jx 1 22 0,ja 2 118 [.ints .u8 32 (replicate 32 0)]] (.sq [ji 3 32 1 1 (ci 0),jl 4 1 false 3,jb 5 .andNot 4 (c8 7),ji 6 32 1 1 (ci 0),js' 1 6 5] (.sq [ji 7 32 1 1 (ci 31),jl 8 1 false 7,jb 9 .and 8 (c8 127),jb 10 .or 9 (c8 64),ji 11 32 1 1 (ci 31),js' 1 11 10] (.sq [jl 12 32 true 1,js' 32 2 12] .ret))))⟩
theorem Z0lc:okF Tryz.prog 112 d112=true:=by kernel_rfl
def Z0qx:Sch:=(.P 0 (oj 7 (.sla 64 1 4 none (some (ci 32)) none)) (.P 1 (oj 8 (.s2a 32 7)) (.P 4 (oj 11 (.sla 64 1 4 (some (ci 32)) none none)) (.Q 2 (jl 9 32 true 8) (.P 3 (jc 10 112 [9]) (.e 5 (jo' 32 2 10) (.P 6 (jm 3 11) .nil)))))))
def d52:FnD:=⟨12,[.cell 2 32 true,.tmp 3],(.sq [jx 1 23 0,ja 2 118 [.ints .u8 32 (replicate 32 0)],jm 3 (.const (.slice none 0 0))] (.sq [oj 5 (.sla 32 1 1 none none none),jc 6 111 [5],ja 4 212 [.ints .u8 64 (replicate 64 0)],js' 64 4 6] (.seq (.draw Z0qx [5]) .ret)))⟩
theorem ok52:okF Tryz.prog 52 d52=true:=by kernel_rfl
def Z0fe:LJ:=[ji 3 5 1 1 (ci 0),jl 4 1 false 3,jb 5 .and 4 (cu 2251799813685247),ji 6 5 1 1 (ci 4),jl 7 1 false 6,jb 8 .shr 7 (cu 51),jb 9 .mul 8 (cu 19),jb 10 .add 5 9,ji 11 5 1 1 (ci 1),jl 12 1 false 11,jb 13 .and 12 (cu 2251799813685247),ji 14 5 1 1 (ci 0),jl 15 1 false 14,jb 16 .shr 15 (cu 51),jb 17 .add 13 16,ji 18 5 1 1 (ci 2),jl 19 1 false 18,jb 20 .and 19 (cu 2251799813685247),ji 21 5 1 1 (ci 1),jl 22 1 false 21,jb 23 .shr 22 (cu 51),jb 24 .add 20 23,ji 25 5 1 1 (ci 3),jl 26 1 false 25,jb 27 .and 26 (cu 2251799813685247),ji 28 5 1 1 (ci 2),jl 29 1 false 28,jb 30 .shr 29 (cu 51),jb 31 .add 27 30,ji 32 5 1 1 (ci 4),jl 33 1 false 32,jb 34 .and 33 (cu 2251799813685247),ji 35 5 1 1 (ci 3),jl 36 1 false 35,jb 37 .shr 36 (cu 51),jb 38 .add 34 37,jd 39 [Z5] [(0,1,10),(1,1,17),(2,1,24),(3,1,31),(4,1,38)],js' 5 2 39]
def d228:FnD:=⟨40,[.cell 2 5 true],(.sq [jx 1 124 0,ja 2 124 [Z5]] (.sq Z0fe .ret))⟩
theorem Z0n1:okF Tryz.prog 228 d228=true:=by kernel_rfl
def Z0ab:IC:=(.sq [ji' 18 1 14 16,jl 19 1 false 18,jm 5 19] (.ops [jm 20 5,jm 21 3,jb 22 .add 20 21,jb 23 .shr 22 (cu 51),jm 3 23]))
def Z0c8:IC:=(.sq [jb 17 .lss 16 15] (.seq (.cond 17 .skip (.exit 0)) (.seq (.block 1 Z0ab) (.ops [jb 24 .add 16 (ci 1),jm 16 24]))))
def Z0aa:IC:=(.loop Z0c8)
def Z0fd:LJ:=[ji 25 5 1 1 (ci 0),jl 26 1 false 25,jm 27 3,jb 28 .mul (cu 19) 27,jb 29 .add 26 28,ji 30 5 1 1 (ci 0),js' 1 30 29]
def Z06s:Sch:=(.P 0 (jm 34 6) (.P 1 (jb 35 .add 34 (ci 1)) (.P 2 (ji 36 5 1 1 35) (.P 4 (jm 38 6) (.P 5 (ji 39 5 1 1 38) (.Q 3 (jl 37 1 false 36) (.Q 6 (jl 40 1 false 39) (.P 7 (jb 41 .shr 40 (cu 51)) (.P 8 (jb 42 .add 37 41) (.P 9 (ji 43 5 1 1 35) (.e 10 (jo' 1 43 42) .nil)))))))))))
def Z0ad:IC:=(.sq [jm 33 31,jm 6 33] (.seq (.draw Z06s [10]) (.ops [jm 44 6,ji 45 5 1 1 44,jl 46 1 false 45,jb 47 .and 46 (cu 2251799813685247),ji 48 5 1 1 44,js' 1 48 47])))
def Z0c9:IC:=(.sq [jb 32 .lss 31 (ci 4)] (.seq (.cond 32 .skip (.exit 2)) (.seq (.block 3 Z0ad) (.ops [jb 49 .add 31 (ci 1),jm 31 49]))))
def Z0ac:IC:=(.loop Z0c9)
def d227:FnD:=⟨55,[.cell 2 5 true],(.sq [jx 1 124 0,ja 2 124 [Z5]] (.sq [jl 7 5 true 1,jc 8 228 [7],jc 9 228 [8],js' 5 1 9] (.sq [ji 10 5 1 1 (ci 0),jl 11 1 false 10,jb 12 .add 11 (cu 19),jb 13 .shr 12 (cu 51),jm 3 13] (.seq (.sq [oj 14 (.sla 5 1 1 (some (ci 1)) none none),jn' 15 14,jm 16 (ci 0)] (.block 0 Z0aa)) (.sq Z0fd (.seq (.sq [jm 31 (ci 0)] (.block 2 Z0ac)) (.sq [ji 50 5 1 1 (ci 4),jl 51 1 false 50,jb 52 .and 51 (cu 2251799813685247),ji 53 5 1 1 (ci 4),js' 1 53 52] (.sq [jl 54 5 true 1,js' 5 2 54] .ret))))))))⟩
theorem Z0n0:okF Tryz.prog 227 d227=true:=by kernel_rfl
def Z06y:LJ:=[jm 40 7,jm 41 9,jb 42 .mul 40 41,jm 43 13,jb 44 .add 42 43,jm 45 12,jb 46 .shr 45 (cu 32),jb 47 .add 44 46,jm 4 47]
def d325:FnD:=⟨51,[.tmp 4,.tmp 5],(.sq [jm 4 (cu 0),jm 5 (cu 0)] (.sq [jm 14 0,jb 15 .and 14 (cu 4294967295),jm 6 15] (.sq [jm 16 0,jb 17 .shr 16 (cu 32),jm 7 17] (.sq [jm 18 1,jb 19 .and 18 (cu 4294967295),jm 8 19] (.sq [jm 20 1,jb 21 .shr 20 (cu 32),jm 9 21] (.sq [jm 22 6,jm 23 8,jb 24 .mul 22 23,jm 10 24] (.sq [jm 25 7,jm 26 8,jb 27 .mul 25 26,jm 28 10,jb 29 .shr 28 (cu 32),jb 30 .add 27 29,jm 11 30] (.sq [jm 31 11,jb 32 .and 31 (cu 4294967295),jm 12 32] (.sq [jm 33 11,jb 34 .shr 33 (cu 32),jm 13 34] (.sq [jm 35 12,jm 36 6,jm 37 9,jb 38 .mul 36 37,jb 39 .add 35 38,jm 12 39] (.sq Z06y (.sq [jm 48 0,jm 49 1,jb 50 .mul 48 49,jm 5 50] .ret))))))))))))⟩
theorem Z0oe:okF Tryz.prog 325 d325=true:=by kernel_rfl
def Z0ff:LJ:=[jm 16 0,jm 17 0,jz 18 17,jf 19 1 18,jl 20 1 false 19,jm 21 7,oj 22 (.xcall 230 [20,21,(cu 0)]),jm 15 22,je 23 15 0,je 24 15 1,jz 25 16,jf 26 1 25,js' 1 26 23,jm 8 24]
def Z0fg:LJ:=[jm 28 0,jm 29 0,jz 30 29,jf 31 0 30,jl 32 1 false 31,jm 33 6,jm 34 8,oj 35 (.xcall 230 [32,33,34]),jm 27 35,je 36 27 0,je 37 27 1,jz 38 28,jf 39 0 38,js' 1 39 36]
def d229:FnD:=⟨40,[],(.sq [jm 10 1,jm 11 2,jc 12 325 [10,11],jm 9 12,je 13 9 0,je 14 9 1,jm 6 13,jm 7 14] (.sq [jm 8 (cu 0)] (.sq Z0ff (.ops Z0fg))))⟩
theorem Z0n2:okF Tryz.prog 229 d229=true:=by kernel_rfl
def Z0ep:Sch:=(.Q 0 (jl 19 5 true 2) (.P 1 (jc 20 228 [19]) (.Q 2 (jl 21 5 true 3) (.P 3 (jc 22 228 [21]) (.e 4 (jo' 5 2 20) (.e 5 (jo' 5 3 22) .nil))))))
def Z06m:LJ:=[jm 44 6,jm 45 8,jb 46 .add 44 45,jb 47 .sub 46 (ci 5),ji 48 5 2 5 47,jm 49 7,jm 50 9,jb 51 .mul (cu 19) 50,jc 52 229 [48,49,51]]
def Z09l:IC:=(.sq [jm 31 29,oj 32 (.idx 5 1 false 28 29),jm 8 31,jm 9 32] (.sq [jm 33 6,jm 34 8,jb 35 .add 33 34,jb 36 .lss 35 (ci 5)] (.cond 36 (.ops [jm 37 6,jm 38 8,jb 39 .add 37 38,ji 40 5 2 5 39,jm 41 7,jm 42 9,jc 43 229 [40,41,42]]) (.ops Z06m))))
def Z0bv:IC:=(.sq [jb 30 .lss 29 (ci 5)] (.seq (.cond 30 .skip (.exit 2)) (.seq (.block 3 Z09l) (.ops [jb 53 .add 29 (ci 1),jm 29 53]))))
def Z09k:IC:=(.loop Z0bv)
def Z09j:IC:=(.sq [jm 26 24,oj 27 (.idx 5 1 false 23 24),jm 6 26,jm 7 27] (.sq [jl 28 5 true 3,jm 29 (ci 0)] (.block 2 Z09k)))
def Z0bu:IC:=(.sq [jb 25 .lss 24 (ci 5)] (.seq (.cond 25 .skip (.exit 0)) (.seq (.block 1 Z09j) (.ops [jb 54 .add 24 (ci 1),jm 24 54]))))
def Z09i:IC:=(.loop Z0bu)
def Z06n:LJ:=[jf 61 1 13,jl 62 1 false 61,jm 63 11,oj 64 (.xcall 230 [62,63,(cu 0)]),jm 60 64,je 65 60 0,je 66 60 1,jm 14 65,jm 15 66]
def Z06o:LJ:=[jf 71 0 13,jl 72 1 false 71,jm 73 15,jb 74 .add 72 73,jb 75 .shl 74 (cu 13),jm 76 14,jb 77 .shr 76 (cu 51),jb 78 .or 75 77,jm 11 78]
def Z09n:IC:=(.sq [jm 58 56,oj 59 (.idx 5 2 true 55 56),ja 13 346 [.ints .u64 2 (replicate 2 0)],jm 12 58,js' 2 13 59] (.sq Z06n (.sq [jm 67 12,jm 68 14,jb 69 .and 68 (cu 2251799813685247),ji 70 5 1 10 67,js' 1 70 69] (.ops Z06o))))
def Z0bw:IC:=(.sq [jb 57 .lss 56 (ci 5)] (.seq (.cond 57 .skip (.exit 4)) (.seq (.block 5 Z09n) (.ops [jb 79 .add 56 (ci 1),jm 56 79]))))
def Z09m:IC:=(.loop Z0bw)
def Z06p:LJ:=[jf 83 1 16,jl 84 1 false 83,ji 85 5 1 10 (ci 0),jl 86 1 false 85,oj 87 (.xcall 230 [84,86,(cu 0)]),jm 82 87,je 88 82 0,je 89 82 1,jm 17 88,jm 18 89]
def Z06q:LJ:=[ji 93 5 1 10 (ci 1),jl 94 1 false 93,jf 95 0 16,jl 96 1 false 95,jm 97 18,jb 98 .add 96 97,jb 99 .shl 98 (cu 13),jm 100 17,jb 101 .shr 100 (cu 51),jb 102 .or 99 101,jb 103 .add 94 102,ji 104 5 1 10 (ci 1),js' 1 104 103]
def d115:FnD:=⟨107,[.cell 4 5 true],(.sq [jx 2 124 0,jx 3 124 1,ja 4 124 [Z5]] (.seq (.draw Z0ep [4,5]) (.sq [ja 5 347 [Z10]] (.seq (.sq [jl 23 5 true 2,jm 24 (ci 0)] (.block 0 Z09i)) (.sq [ja 10 124 [Z5]] (.sq [jm 11 (cu 0)] (.seq (.sq [jl 55 10 true 5,jm 56 (ci 0)] (.block 4 Z09m)) (.sq [ja 16 346 [.ints .u64 2 (replicate 2 0)]] (.sq [jm 80 11,jc 81 229 [16,80,(cu 19)]] (.sq Z06p (.sq [jm 90 17,jb 91 .and 90 (cu 2251799813685247),ji 92 5 1 10 (ci 0),js' 1 92 91] (.sq Z06q (.sq [jl 105 5 true 10,jc 106 227 [105],js' 5 4 106] .ret)))))))))))))⟩
theorem Z0lf:okF Tryz.prog 115 d115=true:=by kernel_rfl
def d323:FnD:=⟨6,[.cell 2 5 true],(.sq [ja 2 124 [Z5]] (.sq [jm 3 0,jd 4 [Z5] [(0,1,3)],jc 5 227 [4],js' 5 2 5] .ret))⟩
theorem Z0oc:okF Tryz.prog 323 d323=true:=by kernel_rfl
def d324:FnD:=⟨6,[.cell 2 5 true],(.sq [jx 1 124 0,ja 2 124 [Z5]] (.sq [jl 3 5 true 1,jl 4 5 true 1,jc 5 115 [3,4],js' 5 2 5] .ret))⟩
theorem Z0od:okF Tryz.prog 324 d324=true:=by kernel_rfl
def Z0fc:LJ:=[jm 14 6,jb 15 .quo 14 (ci 8),ji 16 32 1 3 15,jl 17 1 false 16,jm 18 6,jb 19 .rem 18 (ci 8),jb 20 .shr 17 19,jb 21 .and 20 (c8 1),jb 22 .eql 21 (c8 1)]
def Z0a7:IC:=(.sq [jl 12 5 true 5,jc 13 324 [12],js' 5 5 13] (.sq Z0fc (.cond 22 (.ops [jl 23 5 true 5,jl 24 5 true 2,jc 25 115 [23,24],js' 5 5 25]) .skip)))
def Z0c6:IC:=(.seq (.sq [jm 8 6,jb 9 .geq 8 (ci 0)] (.cond 9 .skip (.exit 0))) (.seq (.block 1 Z0a7) (.ops [jm 10 6,jb 11 .sub 10 (ci 1),jm 6 11])))
def Z0a6:IC:=(.loop Z0c6)
def d225:FnD:=⟨27,[.cell 4 5 true],(.sq [jx 2 124 0,jx 3 22 1,ja 4 124 [Z5]] (.sq [jc 7 323 [(cu 1)],ja 5 124 [Z5],js' 5 5 7] (.seq (.sq [jm 6 (ci 255)] (.block 0 Z0a6)) (.sq [jl 26 5 true 5,js' 5 4 26] .ret))))⟩
theorem Z0my:okF Tryz.prog 225 d225=true:=by kernel_rfl
def Z0a9:IC:=(.sq [jm 9 7,jm 6 9] (.ops [jm 10 6,ji 11 32 1 5 10,js' 1 11 (c8 255)]))
def Z0c7:IC:=(.sq [jb 8 .lss 7 (ci 32)] (.seq (.cond 8 .skip (.exit 0)) (.seq (.block 1 Z0a9) (.ops [jb 12 .add 7 (ci 1),jm 7 12]))))
def Z0a8:IC:=(.loop Z0c7)
def d226:FnD:=⟨18,[.cell 4 32 true],(.sq [ja 4 22 [.ints .u8 32 (replicate 32 0)]] (.sq [ja 5 22 [.ints .u8 32 (replicate 32 0)]] (.seq (.sq [jm 7 (ci 0)] (.block 0 Z0a8)) (.sq [jm 13 0,jm 14 1,ji 15 32 1 5 (ci 0),js' 1 15 13,ji 16 32 1 5 (ci 31),js' 1 16 14] (.sq [jl 17 32 true 5,js' 32 4 17] .ret)))))⟩
theorem Z0mz:okF Tryz.prog 226 d226=true:=by kernel_rfl
def Z0el:Sch:=(.P 1 (jc 4 226 [(c8 235),(c8 127)]) (.Q 0 (jl 3 5 true 1) (.P 2 (jc 5 225 [3,4]) (.e 3 (jo' 5 2 5) .nil))))
def d113:FnD:=⟨6,[.cell 2 5 true],(.sq [jx 1 124 0,ja 2 124 [Z5]] (.seq (.draw Z0el [3]) .ret))⟩
theorem Z0ld:okF Tryz.prog 113 d113=true:=by kernel_rfl
def Z0em:LJ:=[jm 13 4,jb 14 .mul (ci 8) 13,jb 15 .quo 14 (ci 51),jm 16 4,jb 17 .mul (ci 8) 16,jb 18 .rem 17 (ci 51),jm 5 15,jm 6 18]
def Z0en:LJ:=[jm 24 6,jb 25 .gtr 24 (ci 43),jm 26 25,.lg false 26 29 none [.op ⟨some 27,(some (26,true)),.mv 5⟩,.op ⟨some 28,(some (26,true)),.bin .lss 27 (ci 4)⟩] 28]
def Z0eo:LJ:=[jm 30 7,jm 31 5,jb 32 .add 31 (ci 1),ji 33 5 1 1 32,jl 34 1 false 33,jm 35 6,jb 36 .sub (ci 51) 35,jb 37 .shl 34 36,jb 38 .or 30 37,jm 7 38]
def Z09h:IC:=(.sq [jm 12 10,jm 4 12] (.sq Z0em (.sq [jm 19 5,ji 20 5 1 1 19,jl 21 1 false 20,jm 22 6,jb 23 .shr 21 22,jm 7 23] (.seq (.sq Z0en (.cond 29 (.ops Z0eo) .skip)) (.ops [jm 39 4,jm 40 7,jv 41 .u8 40,ji 42 32 1 3 39,js' 1 42 41])))))
def Z0bt:IC:=(.sq [jb 11 .lss 10 (ci 32)] (.seq (.cond 11 .skip (.exit 0)) (.seq (.block 1 Z09h) (.ops [jb 43 .add 10 (ci 1),jm 10 43]))))
def Z09g:IC:=(.loop Z0bt)
def d114:FnD:=⟨45,[.cell 2 32 true],(.sq [jx 1 124 0,ja 2 22 [.ints .u8 32 (replicate 32 0)]] (.sq [jl 8 5 true 1,jc 9 227 [8],js' 5 1 9] (.sq [ja 3 22 [.ints .u8 32 (replicate 32 0)]] (.seq (.sq [jm 10 (ci 0)] (.block 0 Z09g)) (.sq [jl 44 32 true 3,js' 32 2 44] .ret)))))⟩
theorem Z0le:okF Tryz.prog 114 d114=true:=by kernel_rfl
def d116:FnD:=⟨8,[.tmp 2],(.sq [jx 1 124 0,jm 2 (.const (.bool false))] (.sq [jl 3 5 true 1,jc 4 227 [3],oj 5 (.idx 5 1 false 4 (ci 0)),jb 6 .and 5 (cu 1),jb 7 .eql 6 (cu 1),jm 2 7] .ret))⟩
theorem Z0lg:okF Tryz.prog 116 d116=true:=by kernel_rfl
def Z0qy:LJ:=[jf 8 5 1,jl 9 5 true 8,jl 10 5 true 3,jc 11 115 [9,10],jc 12 114 [11],ja 4 43 [.ints .u8 32 (replicate 32 0)],js' 32 4 12]
def d53:FnD:=⟨23,[.cell 2 32 true],(.sq [jx 1 126 0,ja 2 43 [.ints .u8 32 (replicate 32 0)]] (.sq [jf 5 10 1,jl 6 5 true 5,jc 7 113 [6],ja 3 124 [Z5],js' 5 3 7] (.sq Z0qy (.seq (.sq [jf 13 0 1,jl 14 5 true 13,jl 15 5 true 3,jc 16 115 [14,15],jc 17 116 [16]] (.cond 17 (.ops [ji 18 32 1 4 (ci 31),jl 19 1 false 18,jb 20 .or 19 (c8 128),ji 21 32 1 4 (ci 31),js' 1 21 20]) .skip)) (.sq [jl 22 32 true 4,js' 32 2 22] .ret)))))⟩
theorem ok53:okF Tryz.prog 53 d53=true:=by kernel_rfl
def d237:FnD:=⟨2,[.cell 0 5 true],(.sq [ja 0 124 [Z5]] (.sq [jd 1 [Z5] [(0,1,(cu 1))],js' 5 0 1] .ret))⟩
theorem Z0n9:okF Tryz.prog 237 d237=true:=by kernel_rfl
def d232:FnD:=⟨4,[.cell 0 20 true],(.sq [ja 0 126 [Z5,Z5,Z5,Z5]] (.sq [jc 1 237 [],jc 2 237 [],jd 3 [Z5,Z5,Z5,Z5] [(5,5,1),(10,5,2)],js' 20 0 3] .ret))⟩
theorem Z0n4:okF Tryz.prog 232 d232=true:=by kernel_rfl
def Z0gi:Sch:=(.Q 0 (jl 6 5 true 2) (.P 1 (jc 7 228 [6]) (.Q 2 (jl 8 5 true 3) (.P 3 (jc 9 228 [8]) (.e 4 (jo' 5 2 7) (.e 5 (jo' 5 3 9) .nil))))))
def Z0gj:Sch:=(.P 0 (jm 13 5) (.P 1 (ji 14 5 1 2 13) (.P 3 (jm 16 5) (.P 4 (ji 17 5 1 3 16) (.Q 2 (jl 15 1 false 14) (.Q 5 (jl 18 1 false 17) (.P 6 (jb 19 .add 15 18) (.P 7 (ji 20 5 1 2 13) (.e 8 (jo' 1 20 19) .nil)))))))))
def Z0ax:IC:=(.sq [jm 12 10,jm 5 12] (.draw Z0gj [8]))
def Z0cj:IC:=(.sq [jb 11 .lss 10 (ci 5)] (.seq (.cond 11 .skip (.exit 0)) (.seq (.block 1 Z0ax) (.ops [jb 21 .add 10 (ci 1),jm 10 21]))))
def Z0aw:IC:=(.loop Z0cj)
def d326:FnD:=⟨24,[.cell 4 5 true],(.sq [jx 2 124 0,jx 3 124 1,ja 4 124 [Z5]] (.seq (.draw Z0gi [4,5]) (.seq (.sq [jm 10 (ci 0)] (.block 0 Z0aw)) (.sq [jl 22 5 true 2,jc 23 227 [22],js' 5 4 23] .ret))))⟩
theorem Z0of:okF Tryz.prog 326 d326=true:=by kernel_rfl
def Z0gv:LJ:=[ji 7 5 1 1 (ci 0),jl 8 1 false 7,jb 9 .sub (cu 4503599627370458) 8,jd 10 [Z5] [(0,1,9)],ja 3 124 [Z5],js' 5 3 10]
def Z0gw:LJ:=[jm 15 4,jm 16 4,ji 17 5 1 1 16,jl 18 1 false 17,jb 19 .sub (cu 4503599627370494) 18,ji 20 5 1 3 15,js' 1 20 19]
def Z0b0:IC:=(.ops Z0gw)
def Z0ck:IC:=(.seq (.sq [jm 11 4,jb 12 .lss 11 (ci 5)] (.cond 12 .skip (.exit 0))) (.seq (.block 1 Z0b0) (.ops [jm 13 4,jb 14 .add 13 (ci 1),jm 4 14])))
def Z0az:IC:=(.loop Z0ck)
def d334:FnD:=⟨23,[.cell 2 5 true],(.sq [jx 1 124 0,ja 2 124 [Z5]] (.sq [jl 5 5 true 1,jc 6 227 [5],js' 5 1 6] (.sq Z0gv (.seq (.sq [jm 4 (ci 1)] (.block 0 Z0az)) (.sq [jl 21 5 true 3,jc 22 227 [21],js' 5 2 22] .ret)))))⟩
theorem Z0on:okF Tryz.prog 334 d334=true:=by kernel_rfl
def Z0gk:Sch:=(.Q 0 (jl 5 5 true 2) (.Q 1 (jl 6 5 true 3) (.P 2 (jc 7 334 [6]) (.P 3 (jc 8 326 [5,7]) (.e 4 (jo' 5 4 8) .nil)))))
def d327:FnD:=⟨9,[.cell 4 5 true],(.sq [jx 2 124 0,jx 3 124 1,ja 4 124 [Z5]] (.seq (.draw Z0gk [4]) .ret))⟩
theorem Z0og:okF Tryz.prog 327 d327=true:=by kernel_rfl
def Z0gl:Sch:=(.Q 0 (jl 9 5 true 4) (.Q 1 (jl 10 5 true 5) (.P 2 (jc 11 115 [9,10]) (.Q 3 (jl 12 5 true 6) (.Q 4 (jl 13 5 true 7) (.P 5 (jc 14 115 [12,13]) (.Q 6 (jl 15 5 true 5) (.Q 7 (jl 16 5 true 6) (.P 8 (jc 17 115 [15,16]) (.Q 9 (jl 18 5 true 4) (.Q 10 (jl 19 5 true 7) (.P 11 (jc 20 115 [18,19]) (.P 12 (jd 21 [Z5,Z5,Z5,Z5] [(0,5,11),(5,5,14),(10,5,17),(15,5,20)]) (.e 13 (jo' 20 8 21) .nil))))))))))))))
def d328:FnD:=⟨22,[.cell 8 20 true],(.sq [jx 4 124 0,jx 5 124 1,jx 6 124 2,jx 7 124 3,ja 8 126 [Z5,Z5,Z5,Z5]] (.seq (.draw Z0gl [13]) .ret))⟩
theorem Z0oh:okF Tryz.prog 328 d328=true:=by kernel_rfl
def Z0gm:LJ:=[jd 1 [Z5] [(0,1,(cu 1859910466990425)),(1,1,(cu 932731440258426)),(2,1,(cu 1072319116312658)),(3,1,(cu 1815898335770999)),(4,1,(cu 633789495995903))],js' 5 0 1]
def d329:FnD:=⟨2,[.cell 0 5 true],(.sq [ja 0 124 [Z5]] (.sq Z0gm .ret))⟩
theorem Z0oi:okF Tryz.prog 329 d329=true:=by kernel_rfl
def Z0fk:Sch:=(.P 0 (jf 10 5 2) (.P 2 (jf 12 0 2) (.P 5 (jf 15 5 3) (.P 7 (jf 17 0 3) (.Q 1 (jl 11 5 true 10) (.Q 3 (jl 13 5 true 12) (.P 4 (jc 14 327 [11,13]) (.Q 6 (jl 16 5 true 15) (.Q 8 (jl 18 5 true 17) (.P 9 (jc 19 327 [16,18]) (.P 10 (jc 20 115 [14,19]) (.e 11 (oi 5 (.al 124 [Z5])) (.e 12 (jo' 5 5 20) .nil)))))))))))))
def Z0fl:Sch:=(.P 0 (jf 21 5 2) (.P 2 (jf 23 0 2) (.P 5 (jf 26 5 3) (.P 7 (jf 28 0 3) (.Q 1 (jl 22 5 true 21) (.Q 3 (jl 24 5 true 23) (.P 4 (jc 25 326 [22,24]) (.Q 6 (jl 27 5 true 26) (.Q 8 (jl 29 5 true 28) (.P 9 (jc 30 326 [27,29]) (.P 10 (jc 31 115 [25,30]) (.e 11 (oi 6 (.al 124 [Z5])) (.e 12 (jo' 5 6 31) .nil)))))))))))))
def Z0fm:Sch:=(.P 0 (jf 33 15 2) (.P 4 (jf 37 15 3) (.Q 1 (jl 34 5 true 33) (.Q 2 (jl 35 5 true 7) (.P 3 (jc 36 115 [34,35]) (.Q 5 (jl 38 5 true 37) (.P 6 (jc 39 115 [36,38]) (.e 7 (oi 8 (.al 124 [Z5])) (.e 8 (jo' 5 8 39) .nil)))))))))
def Z0fn:Sch:=(.P 0 (jf 40 10 2) (.P 2 (jf 42 10 2) (.P 5 (jf 45 10 3) (.Q 1 (jl 41 5 true 40) (.Q 3 (jl 43 5 true 42) (.P 4 (jc 44 326 [41,43]) (.Q 6 (jl 46 5 true 45) (.P 7 (jc 47 115 [44,46]) (.e 8 (oi 9 (.al 124 [Z5])) (.e 9 (jo' 5 9 47) .nil))))))))))
def Z0fo:Sch:=(.Q 0 (jl 48 5 true 6) (.Q 1 (jl 49 5 true 5) (.P 2 (jc 50 327 [48,49]) (.Q 3 (jl 51 5 true 9) (.Q 4 (jl 52 5 true 8) (.P 5 (jc 53 327 [51,52]) (.Q 6 (jl 54 5 true 9) (.Q 7 (jl 55 5 true 8) (.P 8 (jc 56 326 [54,55]) (.Q 9 (jl 57 5 true 6) (.Q 10 (jl 58 5 true 5) (.P 11 (jc 59 326 [57,58]) (.P 12 (jc 60 328 [50,53,56,59]) (.e 13 (jo' 20 4 60) .nil))))))))))))))
def d234:FnD:=⟨61,[.cell 4 20 true],(.sq [jx 2 126 0,jx 3 126 1,ja 4 126 [Z5,Z5,Z5,Z5]] (.seq (.draw Z0fk [12]) (.seq (.draw Z0fl [12]) (.sq [jc 32 329 [],ja 7 124 [Z5],js' 5 7 32] (.seq (.draw Z0fm [8]) (.seq (.draw Z0fn [9]) (.seq (.draw Z0fo [13]) .ret)))))))⟩
theorem Z0n6:okF Tryz.prog 234 d234=true:=by kernel_rfl
def Z0fh:Sch:=(.P 0 (jm 10 4) (.P 1 (jb 11 .add 10 (ci 1)) (.P 2 (jm 12 4) (.P 3 (ji 13 16 20 3 12) (.Q 4 (jl 14 20 true 13) (.Q 5 (jl 15 20 true 1) (.P 6 (jc 16 234 [14,15]) (.P 7 (ji 17 16 20 3 11) (.e 8 (jo' 20 17 16) .nil)))))))))
def Z0af:IC:=(.sq [jm 9 7,jm 4 9] (.draw Z0fh [8]))
def Z0ca:IC:=(.sq [jb 8 .lss 7 (ci 15)] (.seq (.cond 8 .skip (.exit 0)) (.seq (.block 1 Z0af) (.ops [jb 18 .add 7 (ci 1),jm 7 18]))))
def Z0ae:IC:=(.loop Z0ca)
def d231:FnD:=⟨20,[.cell 2 320 true],(.sq [jx 1 126 0,ja 2 351 [.rows 20 16 (fun _=>cells [Z5,Z5,Z5,Z5])]] (.sq [ja 3 351 [.rows 20 16 (fun _=>cells [Z5,Z5,Z5,Z5])]] (.sq [jc 5 232 [],ji 6 16 20 3 (ci 0),js' 20 6 5] (.seq (.sq [jm 7 (ci 0)] (.block 0 Z0ae)) (.sq [jl 19 320 true 3,js' 320 2 19] .ret)))))⟩
theorem Z0n3:okF Tryz.prog 231 d231=true:=by kernel_rfl
def Z0fi:Sch:=(.P 1 (jf 23 0 1) (.P 3 (jf 25 5 1) (.Q 0 (jl 22 5 true 6) (.Q 2 (jl 24 5 true 23) (.Q 4 (jl 26 5 true 25) (.P 5 (jc 27 326 [24,26]) (.P 6 (jc 28 324 [27]) (.P 7 (jc 29 327 [22,28]) (.e 8 (oi 7 (.al 124 [Z5])) (.e 9 (jo' 5 7 29) .nil))))))))))
def Z0fj:Sch:=(.Q 0 (jl 33 5 true 5) (.Q 1 (jl 34 5 true 5) (.P 2 (jc 35 326 [33,34]) (.Q 3 (jl 36 5 true 8) (.P 4 (jc 37 326 [35,36]) (.e 5 (oi 9 (.al 124 [Z5])) (.e 6 (jo' 5 9 37) .nil)))))))
def d233:FnD:=⟨43,[.cell 2 20 true],(.sq [jx 1 126 0,ja 2 126 [Z5,Z5,Z5,Z5]] (.sq [jf 10 0 1,jl 11 5 true 10,jc 12 324 [11],ja 3 124 [Z5],js' 5 3 12] (.sq [jf 13 5 1,jl 14 5 true 13,jc 15 324 [14],ja 4 124 [Z5],js' 5 4 15] (.sq [jf 16 10 1,jl 17 5 true 16,jc 18 324 [17],ja 5 124 [Z5],js' 5 5 18] (.sq [jl 19 5 true 3,jl 20 5 true 4,jc 21 326 [19,20],ja 6 124 [Z5],js' 5 6 21] (.seq (.draw Z0fi [9]) (.sq [jl 30 5 true 3,jl 31 5 true 4,jc 32 327 [30,31],ja 8 124 [Z5],js' 5 8 32] (.seq (.draw Z0fj [6]) (.sq [jl 38 5 true 7,jl 39 5 true 9,jl 40 5 true 8,jl 41 5 true 6,jc 42 328 [38,39,40,41],js' 20 2 42] .ret)))))))))⟩
theorem Z0n5:okF Tryz.prog 233 d233=true:=by kernel_rfl
def Z0fp:LJ:=[jm 5 1,jb 6 .quo 5 (ci 2),jb 7 .sub (ci 31) 6,ji 8 32 1 2 7,jl 9 1 false 8,jm 10 1,jb 11 .rem 10 (ci 2),jb 12 .sub (ci 1) 11,jb 13 .mul (ci 4) 12,jb 14 .shr 9 13,jb 15 .and 14 (c8 15),jm 4 15]
def d235:FnD:=⟨16,[.tmp 4],(.sq [jx 2 118 0,jm 4 (c8 0)] (.sq Z0fp .ret))⟩
theorem Z0n7:okF Tryz.prog 235 d235=true:=by kernel_rfl
def Z09r:IC:=(.ops [jl 16 20 true 6,jc 17 233 [16],js' 20 6 17])
def Z0by:IC:=(.sq [jb 15 .lss 14 (ci 4)] (.seq (.cond 15 .skip (.exit 2)) (.seq (.block 3 Z09r) (.ops [jb 18 .add 14 (ci 1),jm 14 18]))))
def Z09q:IC:=(.loop Z0by)
def Z06r:Sch:=(.P 2 (jm 21 7) (.Q 0 (jl 19 20 true 6) (.Q 1 (jl 20 32 true 2) (.P 3 (jc 22 235 [20,21]) (.P 4 (ji 23 16 20 5 22) (.Q 5 (jl 24 20 true 23) (.P 6 (jc 25 234 [19,24]) (.e 7 (jo' 20 6 25) .nil))))))))
def Z09p:IC:=(.sq [jm 13 11,jm 7 13] (.seq (.sq [jm 14 (ci 0)] (.block 2 Z09q)) (.draw Z06r [7])))
def Z0bx:IC:=(.sq [jb 12 .lss 11 (ci 64)] (.seq (.cond 12 .skip (.exit 0)) (.seq (.block 1 Z09p) (.ops [jb 26 .add 11 (ci 1),jm 11 26]))))
def Z09o:IC:=(.loop Z0bx)
def d117:FnD:=⟨28,[.cell 4 20 true],(.sq [jx 2 118 0,jx 3 126 1,ja 4 126 [Z5,Z5,Z5,Z5]] (.sq [jl 8 20 true 3,jc 9 231 [8],ja 5 351 [.rows 20 16 (fun _=>cells [Z5,Z5,Z5,Z5])],js' 320 5 9] (.sq [jc 10 232 [],ja 6 126 [Z5,Z5,Z5,Z5],js' 20 6 10] (.seq (.sq [jm 11 (ci 0)] (.block 0 Z09o)) (.sq [jl 27 20 true 6,js' 20 4 27] .ret)))))⟩
theorem Z0lh:okF Tryz.prog 117 d117=true:=by kernel_rfl
def Z0fq:LJ:=[jm 17 4,jb 18 .mul (ci 8) 17,jb 19 .quo 18 (ci 51),jm 20 4,jb 21 .mul (ci 8) 20,jb 22 .rem 21 (ci 51),jm 6 19,jm 7 22]
def Z0fr:Sch:=(.P 0 (jm 23 6) (.P 1 (ji 24 5 1 3 23) (.P 3 (jm 26 5) (.P 4 (jv 27 .u64 26) (.P 5 (jm 28 7) (.P 6 (jb 29 .shl 27 28) (.P 7 (jb 30 .and 29 (cu 2251799813685247)) (.Q 2 (jl 25 1 false 24) (.P 8 (jb 31 .or 25 30) (.P 9 (ji 32 5 1 3 23) (.e 10 (jo' 1 32 31) .nil)))))))))))
def Z0fs:LJ:=[jm 33 7,jb 34 .gtr 33 (ci 43),jm 35 34,.lg false 35 38 none [.op ⟨some 36,(some (35,true)),.mv 6⟩,.op ⟨some 37,(some (35,true)),.bin .lss 36 (ci 4)⟩] 37]
def Z06t:Sch:=(.P 0 (jm 39 6) (.P 1 (jb 40 .add 39 (ci 1)) (.P 2 (ji 41 5 1 3 40) (.P 4 (jm 43 5) (.P 5 (jv 44 .u64 43) (.P 6 (jm 45 7) (.P 7 (jb 46 .sub (ci 51) 45) (.P 8 (jb 47 .shr 44 46) (.Q 3 (jl 42 1 false 41) (.P 9 (jb 48 .or 42 47) (.P 10 (ji 49 5 1 3 40) (.e 11 (jo' 1 49 48) .nil))))))))))))
def Z0ah:IC:=(.sq [jm 11 9,oj 12 (.idx 32 1 false 8 9),jm 4 11,jm 5 12] (.seq (.sq [jm 13 4,jb 14 .eql 13 (ci 31)] (.cond 14 (.ops [jm 15 5,jb 16 .and 15 (c8 127),jm 5 16]) .skip)) (.sq Z0fq (.seq (.draw Z0fr [10]) (.sq Z0fs (.cond 38 (.draw Z06t [11]) .skip))))))
def Z0cb:IC:=(.sq [jb 10 .lss 9 (ci 32)] (.seq (.cond 10 .skip (.exit 0)) (.seq (.block 1 Z0ah) (.ops [jb 50 .add 9 (ci 1),jm 9 50]))))
def Z0ag:IC:=(.loop Z0cb)
def d236:FnD:=⟨53,[.cell 2 5 true],(.sq [jx 1 22 0,ja 2 124 [Z5]] (.sq [ja 3 124 [Z5]] (.seq (.sq [jl 8 32 true 1,jm 9 (ci 0)] (.block 0 Z0ag)) (.sq [jl 51 5 true 3,jc 52 227 [51],js' 5 2 52] .ret))))⟩
theorem Z0n8:okF Tryz.prog 236 d236=true:=by kernel_rfl
def Z0eq:LJ:=[jd 5 [.ints .u8 32 (replicate 32 0)] [(0,1,(c8 26)),(1,1,(c8 213)),(2,1,(c8 37)),(3,1,(c8 143)),(4,1,(c8 96)),(5,1,(c8 45)),(6,1,(c8 86)),(7,1,(c8 201)),(8,1,(c8 178)),(9,1,(c8 167)),(10,1,(c8 37)),(11,1,(c8 149)),(12,1,(c8 96)),(13,1,(c8 199)),(14,1,(c8 44)),(15,1,(c8 105)),(16,1,(c8 92)),(17,1,(c8 220)),(18,1,(c8 214)),(19,1,(c8 253)),(20,1,(c8 49)),(21,1,(c8 226)),(22,1,(c8 164)),(23,1,(c8 192)),(24,1,(c8 254)),(25,1,(c8 83)),(26,1,(c8 110)),(27,1,(c8 205)),(28,1,(c8 211)),(29,1,(c8 54)),(30,1,(c8 105)),(31,1,(c8 33))],jc 6 236 [5],ja 1 124 [Z5],js' 5 1 6]
def Z0er:LJ:=[jd 7 [.ints .u8 32 (replicate 32 0)] [(0,1,(c8 88))],ja 2 22 [.ints .u8 32 (replicate 32 0)],js' 32 2 7]
def Z09t:IC:=(.sq [jm 10 8,jm 3 10] (.ops [jm 11 3,jb 12 .add 11 (ci 1),ji 13 32 1 2 12,js' 1 13 (c8 102)]))
def Z0bz:IC:=(.sq [jb 9 .lss 8 (ci 31)] (.seq (.cond 9 .skip (.exit 0)) (.seq (.block 1 Z09t) (.ops [jb 14 .add 8 (ci 1),jm 8 14]))))
def Z09s:IC:=(.loop Z0bz)
def Z0es:Sch:=(.P 2 (jc 19 237 []) (.Q 0 (jl 17 5 true 1) (.Q 1 (jl 18 5 true 4) (.Q 3 (jl 20 5 true 1) (.Q 4 (jl 21 5 true 4) (.P 5 (jc 22 115 [20,21]) (.P 6 (jd 23 [Z5,Z5,Z5,Z5] [(0,5,17),(5,5,18),(10,5,19),(15,5,22)]) (.e 7 (jo' 20 0 23) .nil))))))))
def d118:FnD:=⟨24,[.cell 0 20 true],(.sq [ja 0 126 [Z5,Z5,Z5,Z5]] (.sq Z0eq (.sq Z0er (.seq (.sq [jm 8 (ci 0)] (.block 0 Z09s)) (.sq [jl 15 32 true 2,jc 16 236 [15],ja 4 124 [Z5],js' 5 4 16] (.seq (.draw Z0es [7]) .ret))))))⟩
theorem Z0li:okF Tryz.prog 118 d118=true:=by kernel_rfl
def Z0qz:Sch:=(.P 1 (jc 4 118 []) (.Q 0 (jl 3 32 true 1) (.P 2 (jc 5 117 [3,4]) (.e 3 (jo' 20 2 5) .nil))))
def d54:FnD:=⟨6,[.cell 2 20 true],(.sq [jx 1 118 0,ja 2 126 [Z5,Z5,Z5,Z5]] (.seq (.draw Z0qz [3]) .ret))⟩
theorem ok54:okF Tryz.prog 54 d54=true:=by kernel_rfl
def Z0pw:LJ:=[jl 6 32 true 1,jc 7 52 [6],jm 5 7,je 8 5 0,je 9 5 1,ja 3 118 [.ints .u8 32 (replicate 32 0)],js' 32 3 8,jm 4 9]
def d18:FnD:=⟨13,[.cell 2 32 true],(.sq [jx 1 23 0,ja 2 43 [.ints .u8 32 (replicate 32 0)]] (.sq Z0pw (.sq [jl 10 32 true 3,jc 11 54 [10],jc 12 53 [11],js' 32 2 12] .ret)))⟩
theorem ok18:okF Tryz.prog 18 d18=true:=by kernel_rfl
def r5_8:LJ:=[jl 23 37 true 1,jm 24 6,jc 25 8 [23,24],jm 22 25,je 26 22 0,je 27 22 1,ja 7 23 [.ints .u8 32 (replicate 32 0)],js' 32 7 26,jm 8 27]
def Z0r5:LJ:=[jf 34 32 5,jl 35 1 false 34,jl 36 32 true 9,oj 37 (.bs 43 1 32 [.ints .u8 32 (replicate 32 0)] [(0,32,36)]),oj 38 (.app 43 32 32 [.ints .u8 32 (replicate 32 0)] 35 37),jf 39 32 5,js' 1 39 38]
def k5_1:IC:=(.sq [jm 21 19,jm 6 21] (.sq r5_8 (.sq [jl 28 32 true 7,jc 29 18 [28],ja 9 43 [.ints .u8 32 (replicate 32 0)],js' 32 9 29] (.sq [jm 30 6,jb 31 .eql 30 (ci 0)] (.cond 31 (.ops [jl 32 32 true 9,jf 33 0 5,js' 32 33 32]) (.ops Z0r5))))))
def l5_1:IC:=(.sq [jb 20 .lss 19 18] (.seq (.cond 20 .skip (.exit 0)) (.seq (.block 1 k5_1) (.ops [jb 40 .add 19 (ci 1),jm 19 40]))))
def k5_0:IC:=(.loop l5_1)
def d5:FnD:=⟨42,[.cell 2 33 true,.tmp 3],(.sq [jx 1 25 0,ja 2 46 [.ints .u8 32 (replicate 32 0),.one (.slice none 0 0)],jm 3 (ci 0)] (.seq (.sq [jl 10 37 true 1,jc 11 6 [10],jm 4 11] (.sq [jm 12 4,jb 13 .neq 12 (ci 0)] (.cond 13 (.sq [jd 14 [.ints .u8 32 (replicate 32 0),.one (.slice none 0 0)] [],jm 15 4,js' 33 2 14,jm 3 15] .ret) .skip))) (.sq [ja 5 46 [.ints .u8 32 (replicate 32 0),.one (.slice none 0 0)]] (.seq (.sq [jf 16 0 1,jl 17 1 false 16,jb 18 .add 17 (ci 1),jm 19 (ci 0)] (.block 0 k5_0)) (.sq [jl 41 33 true 5,js' 33 2 41,jm 3 (ci 0)] .ret)))))⟩
theorem ok5:okF Tryz.prog 5 d5=true:=by kernel_rfl
def Z0py:LJ:=[ja 0 25 [.one (.int .i64 0),.one (.int .i64 0),.one (.int .i64 0),.one (.int .i64 0),.one (.int .i64 0),.ints .u8 32 (replicate 32 0)]]
def Z0pz:LJ:=[jd 1 [.one (.int .i64 0),.one (.int .i64 0),.one (.int .i64 0),.one (.int .i64 0),.one (.int .i64 0),.ints .u8 32 (replicate 32 0)] [(0,1,(ci 2)),(1,1,(ci 1)),(2,1,(ci 4)),(3,1,(ci 4096)),(4,1,(ci 9))],js' 37 0 1]
def d20:FnD:=⟨2,[.cell 0 37 true],(.sq Z0py (.sq Z0pz .ret))⟩
theorem ok20:okF Tryz.prog 20 d20=true:=by kernel_rfl
def Z0r0:LJ:=[jd 1 [.one .nilFunc,.one .nilFunc,.one .nilFunc,.one .nilFunc] [(0,1,(.func 36)),(1,1,(.func 119)),(2,1,(.func 120)),(3,1,(.func 121))],js' 4 0 1]
def d55:FnD:=⟨2,[.cell 0 4 true],(.sq [ja 0 132 [.one .nilFunc,.one .nilFunc,.one .nilFunc,.one .nilFunc]] (.sq Z0r0 .ret))⟩
theorem ok55:okF Tryz.prog 55 d55=true:=by kernel_rfl
def Z0b8:IC:=(.sq [jm 17 15,ji' 18 1 13 15,jl 19 1 false 18,jm 8 17,jm 9 19] (.ops [jm 20 6,jm 21 9,jv 22 .u64 21,jm 23 8,jb 24 .mul (ci 8) 23,jb 25 .shl 22 24,jb 26 .or 20 25,jm 6 26]))
def Z0co:IC:=(.sq [jb 16 .lss 15 14] (.seq (.cond 16 .skip (.exit 0)) (.seq (.block 1 Z0b8) (.ops [jb 27 .add 15 (ci 1),jm 15 27]))))
def Z0b7:IC:=(.loop Z0co)
def d344:FnD:=⟨31,[.tmp 4,.tmp 5],(.sq [jm 4 (cu 0),jm 5 (.const (.bool false))] (.sq [jm 6 (cu 0)] (.sq [jm 10 0,jm 11 1,jc 12 342 [10,11],jm 7 12] (.seq (.sq [jm 13 7,jn' 14 13,jm 15 (ci 0)] (.block 0 Z0b7)) (.sq [jm 28 6,jm 29 7,oj 30 (.isn true 29),jm 4 28,jm 5 30] .ret)))))⟩
theorem Z0ou:okF Tryz.prog 344 d344=true:=by kernel_rfl
def Z0bq:IC:=(.sq [jm 12 10,jm 4 12] (.sq [jm 13 3,jm 14 4,jm 15 0,jv 16 .u8 15,ji' 17 1 13 14,js' 1 17 16] (.ops [jm 18 0,jb 19 .shr 18 (cu 8),jm 0 19])))
def Z0cx:IC:=(.sq [jb 11 .lss 10 9] (.seq (.cond 11 .skip (.exit 0)) (.seq (.block 1 Z0bq) (.ops [jb 20 .add 10 (ci 1),jm 10 20]))))
def Z0bp:IC:=(.loop Z0cx)
def d359:FnD:=⟨22,[.tmp 2],(.sq [jm 2 (.const (.slice none 0 0))] (.sq [jc 5 123 [],jb 6 .quo 5 (ci 8),oj 7 (.mks 5 1 [.one (.int .u8 0)] 6 6),jm 3 7] (.seq (.sq [jm 8 3,jn' 9 8,jm 10 (ci 0)] (.block 0 Z0bp)) (.sq [jm 21 3,jm 2 21] .ret))))⟩
theorem Z0p6:okF Tryz.prog 359 d359=true:=by kernel_rfl
def Z0h4:Sch:=(.P 0 (jm 11 4) (.P 1 (jb 12 .mul (ci 8) 11) (.P 2 (oj 13 (.sla 32 1 3 (some 12) none none)) (.P 3 (jm 14 5) (.e 4 (oi 15 (.call 359 [14])) (.e 5 (oi 16 (.cpy 1 13 15)) .nil))))))
def Z0ba:IC:=(.sq [jm 9 7,oj 10 (.idx 4 1 false 6 7),jm 4 9,jm 5 10] (.draw Z0h4 [5]))
def Z0cp:IC:=(.sq [jb 8 .lss 7 (ci 4)] (.seq (.cond 8 .skip (.exit 0)) (.seq (.block 1 Z0ba) (.ops [jb 17 .add 7 (ci 1),jm 7 17]))))
def Z0b9:IC:=(.loop Z0cp)
def d345:FnD:=⟨19,[.cell 2 32 true],(.sq [jx 1 393 0,ja 2 118 [.ints .u8 32 (replicate 32 0)]] (.sq [ja 3 118 [.ints .u8 32 (replicate 32 0)]] (.seq (.sq [jl 6 4 true 1,jm 7 (ci 0)] (.block 0 Z0b9)) (.sq [jl 18 32 true 3,js' 32 2 18] .ret))))⟩
theorem Z0ov:okF Tryz.prog 345 d345=true:=by kernel_rfl
def Z0gx:Sch:=(.P 0 (jm 12 7) (.P 1 (jm 13 7) (.P 2 (ji 14 4 1 2 13) (.P 4 (jm 16 7) (.P 5 (ji 17 4 1 3 16) (.P 7 (jm 19 6) (.Q 3 (jl 15 1 false 14) (.Q 6 (jl 18 1 false 17) (.P 8 (oj 20 (.xcall 358 [15,18,19])) (.P 9 (jm 11 20) (.P 10 (je 21 11 0) (.P 11 (je 22 11 1) (.P 12 (ji 23 4 1 2 12) (.e 13 (jo' 1 23 21) (.P 14 (jm 6 22) .nil)))))))))))))))
def Z0b2:IC:=(.sq [jm 10 8,jm 7 10] (.draw Z0gx [13]))
def Z0cl:IC:=(.sq [jb 9 .lss 8 (ci 4)] (.seq (.cond 9 .skip (.exit 0)) (.seq (.block 1 Z0b2) (.ops [jb 24 .add 8 (ci 1),jm 8 24]))))
def Z0b1:IC:=(.loop Z0cl)
def d335:FnD:=⟨27,[.cell 4 4 true,.tmp 5],(.sq [jx 2 393 0,jx 3 393 1,ja 4 393 [.ints .u64 4 (replicate 4 0)],jm 5 (cu 0)] (.sq [jm 6 (cu 0)] (.seq (.sq [jm 8 (ci 0)] (.block 0 Z0b1)) (.sq [jl 25 4 true 2,jm 26 6,js' 4 4 25,jm 5 26] .ret))))⟩
theorem Z0oo:okF Tryz.prog 335 d335=true:=by kernel_rfl
def Z0h6:Sch:=(.P 0 (jm 12 7) (.P 1 (jm 13 7) (.P 2 (ji 14 4 1 2 13) (.P 4 (jm 16 7) (.P 5 (ji 17 4 1 3 16) (.P 7 (jm 19 6) (.Q 3 (jl 15 1 false 14) (.Q 6 (jl 18 1 false 17) (.P 8 (oj 20 (.xcall 230 [15,18,19])) (.P 9 (jm 11 20) (.P 10 (je 21 11 0) (.P 11 (je 22 11 1) (.P 12 (ji 23 4 1 2 12) (.e 13 (jo' 1 23 21) (.P 14 (jm 6 22) .nil)))))))))))))))
def Z0be:IC:=(.sq [jm 10 8,jm 7 10] (.draw Z0h6 [13]))
def Z0cr:IC:=(.sq [jb 9 .lss 8 (ci 4)] (.seq (.cond 9 .skip (.exit 0)) (.seq (.block 1 Z0be) (.ops [jb 24 .add 8 (ci 1),jm 8 24]))))
def Z0bd:IC:=(.loop Z0cr)
def d347:FnD:=⟨27,[.cell 4 4 true,.tmp 5],(.sq [jx 2 393 0,jx 3 393 1,ja 4 393 [.ints .u64 4 (replicate 4 0)],jm 5 (cu 0)] (.sq [jm 6 (cu 0)] (.seq (.sq [jm 8 (ci 0)] (.block 0 Z0bd)) (.sq [jl 25 4 true 2,jm 26 6,js' 4 4 25,jm 5 26] .ret))))⟩
theorem Z0ox:okF Tryz.prog 347 d347=true:=by kernel_rfl
def Z0h7:Sch:=(.P 0 (jm 8 3) (.P 1 (ji 9 4 1 1 8) (.P 3 (jm 11 3) (.P 4 (ji 12 4 1 (.global 3) 11) (.Q 2 (jl 10 1 false 9) (.Q 5 (jl 13 1 false 12) (.P 6 (jb 14 .lss 10 13) .nil)))))))
def Z0h8:Sch:=(.P 0 (jm 15 3) (.P 1 (ji 16 4 1 1 15) (.P 3 (jm 18 3) (.P 4 (ji 19 4 1 (.global 3) 18) (.Q 2 (jl 17 1 false 16) (.Q 5 (jl 20 1 false 19) (.P 6 (jb 21 .gtr 17 20) .nil)))))))
def Z0bi:IC:=(.seq (.seq (.draw Z0h7 []) (.cond 14 (.exit 0) .skip)) (.seq (.draw Z0h8 []) (.cond 21 (.exit 2) .skip)))
def Z0ct:IC:=(.seq (.sq [jm 4 3,jb 5 .geq 4 (ci 0)] (.cond 5 .skip (.exit 2))) (.seq (.block 3 Z0bi) (.ops [jm 6 3,jb 7 .sub 6 (ci 1),jm 3 7])))
def Z0bh:IC:=(.loop Z0ct)
def Z0bg:IC:=(.seq (.sq [jm 3 (ci 3)] (.block 2 Z0bh)) (.ops [jl 23 4 true 1,jl 24 4 true (.global 3),jc 25 335 [23,24],jm 22 25,je 26 22 0,je 27 22 1,js' 4 1 26]))
def Z0cs:IC:=(.block 1 Z0bg)
def Z0bf:IC:=(.loop Z0cs)
def d349:FnD:=⟨29,[.cell 2 4 true],(.sq [jx 1 393 0,ja 2 393 [.ints .u64 4 (replicate 4 0)]] (.scope (.seq .lbl (.seq (.block 0 Z0bf) (.sq [jl 28 4 true 1,js' 4 2 28] .ret)))))⟩
theorem Z0oz:okF Tryz.prog 349 d349=true:=by kernel_rfl
def Z074:LJ:=[jm 41 12,jm 42 5,jm 43 6,jm 44 9,jb 45 .add 43 44,ji' 46 1 42 45,jl 47 1 false 46,oj 48 (.xcall 230 [41,47,(cu 0)]),jm 40 48,je 49 40 0,je 50 40 1,jm 12 49,jm 13 50]
def Z075:LJ:=[jm 60 5,jm 61 6,jm 62 9,jb 63 .add 61 62,jm 64 12,jm 65 11,jm 66 13,jb 67 .add 65 66,ji' 68 1 60 63,js' 1 68 64,jm 8 67]
def Z0bm:IC:=(.sq [jm 31 29,ji' 32 1 27 29,jl 33 1 false 32,jm 9 31,jm 10 33] (.sq [jm 35 7,jm 36 10,jc 37 325 [35,36],jm 34 37,je 38 34 0,je 39 34 1,jm 11 38,jm 12 39] (.sq Z074 (.sq [jm 51 11,jm 52 13,jb 53 .add 51 52,jm 11 53] (.sq [jm 55 12,jm 56 8,oj 57 (.xcall 230 [55,56,(cu 0)]),jm 54 57,je 58 54 0,je 59 54 1,jm 12 58,jm 13 59] (.ops Z075))))))
def Z0cv:IC:=(.sq [jb 30 .lss 29 28] (.seq (.cond 30 .skip (.exit 2)) (.seq (.block 3 Z0bm) (.ops [jb 69 .add 29 (ci 1),jm 29 69]))))
def Z0bl:IC:=(.loop Z0cv)
def Z0bk:IC:=(.sq [jm 24 22,ji' 25 1 20 22,jl 26 1 false 25,jm 6 24,jm 7 26] (.sq [jm 8 (cu 0)] (.seq (.sq [jm 27 1,jn' 28 27,jm 29 (ci 0)] (.block 2 Z0bl)) (.ops [jm 70 5,jm 71 6,jm 72 1,jn' 73 72,jb 74 .add 71 73,jm 75 8,ji' 76 1 70 74,js' 1 76 75]))))
def Z0cu:IC:=(.sq [jb 23 .lss 22 21] (.seq (.cond 23 .skip (.exit 0)) (.seq (.block 1 Z0bk) (.ops [jb 77 .add 22 (ci 1),jm 22 77]))))
def Z0bj:IC:=(.loop Z0cu)
def d350:FnD:=⟨79,[.tmp 4],(.sq [jm 4 (.const (.slice none 0 0))] (.sq [jm 14 0,jn' 15 14,jm 16 1,jn' 17 16,jb 18 .add 15 17,oj 19 (.mks 122 8 [.one (.int .u64 0)] 18 18),jm 5 19] (.seq (.sq [jm 20 0,jn' 21 20,jm 22 (ci 0)] (.block 0 Z0bj)) (.sq [jm 78 5,jm 4 78] .ret))))⟩
theorem Z0p0:okF Tryz.prog 350 d350=true:=by kernel_rfl
def Z076:LJ:=[jm 31 7,jm 32 0,jm 33 6,jb 34 .add 33 (ci 1),ji' 35 1 32 34,jl 36 1 false 35,jb 37 .shl 36 (cu 4),jb 38 .or 31 37,jm 7 38]
def Z077:LJ:=[jm 39 5,jm 40 7,oj 41 (.bs 122 1 1 [.one (.int .u64 0)] [(0,1,40)]),oj 42 (.app 122 1 8 [.one (.int .u64 0)] 39 41),jm 5 42]
def Z0bs:IC:=(.sq [jm 21 0,jm 22 6,ji' 23 1 21 22,jl 24 1 false 23,jb 25 .shr 24 (cu 60),jm 7 25] (.seq (.sq [jm 26 6,jb 27 .add 26 (ci 1),jm 28 0,jn' 29 28,jb 30 .lss 27 29] (.cond 30 (.ops Z076) .skip)) (.ops Z077)))
def Z0cy:IC:=(.seq (.sq [jm 15 6,jm 16 0,jn' 17 16,jb 18 .lss 15 17] (.cond 18 .skip (.exit 0))) (.seq (.block 1 Z0bs) (.ops [jm 19 6,jb 20 .add 19 (ci 1),jm 6 20])))
def Z0br:IC:=(.loop Z0cy)
def d360:FnD:=⟨45,[.cell 2 4 true,.tmp 3],(.sq [ja 2 393 [.ints .u64 4 (replicate 4 0)],jm 3 (.const (.slice none 0 0))] (.sq [ja 4 393 [.ints .u64 4 (replicate 4 0)]] (.sq [oj 8 (.sla 4 1 4 none none none),jm 9 0,oj 10 (.cpy 1 8 9)] (.sq [ji 11 4 1 4 (ci 3),jl 12 1 false 11,jb 13 .and 12 (cu 1152921504606846975),ji 14 4 1 4 (ci 3),js' 1 14 13] (.sq [jm 5 (.const (.slice none 0 0))] (.seq (.sq [jm 6 (ci 3)] (.block 0 Z0br)) (.sq [jl 43 4 true 4,jm 44 5,js' 4 2 43,jm 3 44] .ret)))))))⟩
theorem Z0p7:okF Tryz.prog 360 d360=true:=by kernel_rfl
def Z0hd:LJ:=[oj 1 (.bs 122 2 1 [.one (.int .u64 0),.one (.int .u64 0)] [(0,1,(cu 6346243789798364141)),(1,1,(cu 1503914060200516822))]),jm 0 1]
def d361:FnD:=⟨2,[.tmp 0],(.sq [jm 0 (.const (.slice none 0 0))] (.sq Z0hd .ret))⟩
theorem Z0p8:okF Tryz.prog 361 d361=true:=by kernel_rfl
def Z0h5:Sch:=(.P 0 (jm 19 4) (.P 1 (jb 20 .rem 19 (ci 2)) (.P 2 (jm 21 4) (.P 3 (jb 22 .rem 21 (ci 2)) (.P 4 (ji 23 2 4 3 22) (.Q 5 (jl 24 4 true 23) (.Q 6 (jl 25 4 true 5) (.P 7 (jc 26 347 [24,25]) (.P 8 (jm 18 26) (.P 9 (je 27 18 0) (.P 10 (je 28 18 1) (.P 11 (ji 29 2 4 3 20) (.e 12 (jo' 4 29 27) .nil)))))))))))))
def Z0bc:IC:=(.sq [jm 12 10,jm 4 12] (.sq [ja 5 393 [.ints .u64 4 (replicate 4 0)]] (.sq [jm 14 0,jc 15 360 [14],jm 13 15,je 16 13 0,je 17 13 1,js' 4 5 16,jm 0 17] (.seq (.draw Z0h5 [12]) (.ops [jm 30 0,jc 31 361 [],jc 32 350 [30,31],jm 0 32])))))
def Z0cq:IC:=(.sq [jb 11 .lss 10 (ci 4)] (.seq (.cond 11 .skip (.exit 0)) (.seq (.block 1 Z0bc) (.ops [jb 33 .add 10 (ci 1),jm 10 33]))))
def Z0bb:IC:=(.loop Z0cq)
def Z071:LJ:=[jl 35 4 true (.global 3),jl 36 4 true (.global 3),jc 37 347 [35,36],jm 34 37,je 38 34 0,je 39 34 1,ja 6 393 [.ints .u64 4 (replicate 4 0)],js' 4 6 38,jm 7 39]
def Z072:LJ:=[ji 41 2 4 3 (ci 0),jl 42 4 true 41,jl 43 4 true 6,jc 44 347 [42,43],jm 40 44,je 45 40 0,je 46 40 1,ja 8 393 [.ints .u64 4 (replicate 4 0)],js' 4 8 45,jm 9 46]
def Z073:LJ:=[jl 48 4 true 8,ji 49 2 4 3 (ci 1),jl 50 4 true 49,jc 51 335 [48,50],jm 47 51,je 52 47 0,je 53 47 1,js' 4 8 52]
def d346:FnD:=⟨56,[.cell 2 4 true],(.sq [ja 2 393 [.ints .u64 4 (replicate 4 0)]] (.sq [ja 3 415 [.rows 4 2 (fun _=>cells [.ints .u64 4 (replicate 4 0)])]] (.seq (.sq [jm 10 (ci 0)] (.block 0 Z0bb)) (.sq Z071 (.sq Z072 (.sq Z073 (.sq [jl 54 4 true 8,jc 55 349 [54],js' 4 2 55] .ret)))))))⟩
theorem Z0ow:okF Tryz.prog 346 d346=true:=by kernel_rfl
end Go.Proofs.YteefpkhngighgaaGreatDoor
