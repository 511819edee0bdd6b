/- Texts of a proof, one behind the other: E12 E13 E14 E15 E16 E17 E18 E19 E20 E21 E22 E23 E24 E25 E26 E27 E28 E29 E30 SS0 SS1. -/
import Derived.Test.YtkjfpenagcdmcaaGreatDoorMS1
import Derived.Deep.AppendSrc
import Derived.Laws.MakeOwn
import Derived.Laws.IdiomCopy
import Derived.Great.BuildSlice
import Derived.Laws.Externs
import Derived.RangeFuncLeaves
import Derived.RangeFuncRecord
import Derived.Laws.IdiomStrings
import Derived.Recover
import Derived.RecoverIn
import Derived.DefersIn
import Derived.WalkKit
import Derived.MapKept
import Derived.Maps.RangeRun
import Derived.Deep.CondSized
import Derived.Test.YtkjfpenagcdmcaaGreatDoorProg
namespace Go.Sx
open Go Go.RowKit
set_option linter.all false
theorem Z06p {v:Value} (h:one1 v=true):v.oneCell'=true:=by cases v <;> simp_all [one1,Value.oneCell']
structure SrcV (C:Cfg) (m:List Zd) (size:Nat) (v:Value) (n:Nat) (cs:List Value):Prop where
 len : ∀ w:World,(Builtin.lenOf v).run C.P w = .ok n w
 cells : ∀ w,Sat C.W0 C.S m w->∀ k,k<=n->(Builtin.firstCells size k v).run C.P w = .ok (cs.take (k*size)).toArray w
 nl:cs.length=n*size
 one : ∀ u∈cs,one1 u=true
section
variable {C:Cfg} {m:List Zd} {t:TS} {K:KN}
theorem Zpz {P:Program} {w:World} {b off size n l c:Nat} {cs:List Value} (hl:cs.length=n*size) (h : ∀ i,i<n*size->w.cell? ⟨b,off+i,none⟩=cs[i]?) {k:Nat} (hk:k<=n) :
  (Builtin.firstCells size k (.slice (some ⟨b,off,none⟩) l c)).run P w = .ok (cs.take (k*size)).toArray w:=by
 have hks:k*size<=n*size:=Nat.mul_le_mul_right _ hk
 refine run_firstCells_some w size k ⟨b,off,none⟩ l c (cs.take (k*size)) (by rw [List.length_take]; omega) fun j v hj=>?_
 have hj':j<k*size:=by
  have:=(List.getElem?_eq_some_iff.1 hj).1
  rw [List.length_take] at this; omega
 rw [List.getElem?_take_of_lt hj'] at hj
 rw [Addr.add_lit,h j (by omega)]
 exact hj
theorem Zyz {size c:Nat} {a:Option Addr}:SrcV C m size (.slice a 0 c) 0 []:=by
 refine ⟨fun _=>rfl,fun w hw k hk=>?_,by simp,fun _ h=>by cases h⟩
 obtain rfl:k=0:=by omega
 cases a with
 | none=>simpa using run_firstCells_none (P:=C.P) w size 0 0 c
 | some a=>simpa using run_firstCells_some (P:=C.P) w size 0 a 0 c [] (by simp) (by simp)
theorem SrcV.kit {size n:Nat} {v:Value} {cs:List Value} {tx:TypeId} (h:SrcV C m size v n cs) (hk:(∃ e',C.P.underlying tx=some (.slice e'))∨C.P.underlying tx=some .string) {w:World} (hw:Sat C.W0 C.S m w) :
  Go.Src C.P size tx v n cs w:=by
 have e:cs.take (n*size)=cs:=List.take_of_length_le (by rw [h.nl]; exact Nat.le_refl _)
 refine ⟨hk,h.len,?_,?_,h.nl,fun u hu=>Z06p (h.one u hu)⟩
 ·have:=h.cells w hw n (Nat.le_refl _); rw [e] at this; exact this
 ·have:=h.cells w.drew hw.drew n (Nat.le_refl _); rw [e] at this; exact this
theorem Sat.perm {W0:World} {S:List Nat} {m m':List Zd} {w:World} (h:Sat W0 S m w) (hp:List.Perm m' m):Sat W0 S m' w :=
 ⟨h.fr,fun c hc=>h.own c (hp.subset hc),fun c hc=>h.base c (hp.subset hc),(hp.map _).nodup_iff.2 h.dist⟩
theorem Zk9 {P:Program} {T:TypeId} {w bytes:Nat} (h:Zu0 P T w bytes=true) : ∃ i,P.info? T=some i/\i.size=w/\i.bytes=bytes/\0<bytes:=by
 unfold Zu0 at h
 split at h
 ·rename_i i hi
  simp only [Bool.and_eq_true,Nat.beq_eq] at h
  exact ⟨i,hi,h.1.1,h.1.2,by have:=Nat.lt_of_succ_le (Nat.le_of_ble_eq_true h.2); exact this⟩
 ·cases h
theorem Zob {P:Program} {T:TypeId} {i:TypeInfo} (hi:P.info? T=some i) {l:List Value} (h:zOf P T=some l) : ∃ z,i.zero=some z/\z.cells=l.toArray:=by
 unfold zOf at h
 rw [hi] at h
 simp only [Option.bind_some] at h
 cases hz:i.zero with
 | none=>rw [hz] at h; cases h
 | some z =>
  rw [hz] at h
  simp only [Option.map_some,Option.some.injEq] at h
  exact ⟨z,rfl,by rw [<- h,Array.toArray_toList]⟩
theorem Zy9 {P:Program} {o:Oper} {T:TypeId} {w bytes:Nat} {z:List Seg} {x y:Operand} (h:Za4 P o (.app T w bytes z x y)=true) :
  ∃ c t tx,o.op = .call c/\c.callee = .builtin .append/\c.args = #[x,y]/\c.argTypes[0]? = some t/\c.argTypes[1]? = some tx/\P.underlying t=some (.slice T) /\
   ((∃ e',P.underlying tx=some (.slice e'))∨P.underlying tx=some .string)/\(∃ i zv,P.info? T=some i/\i.size=w/\i.bytes=bytes/\0<bytes/\i.zero=some zv/\zv.cells=(cells z).toArray)/\width z=w/\0<w:=by
 simp only [Za4] at h
 split at h
 ·rename_i c heq
  simp only [Bool.and_eq_true,Nat.beq_eq] at h
  obtain ⟨⟨⟨⟨⟨⟨⟨h1,h2⟩,h3⟩,h4⟩,h5⟩,h6⟩,h7⟩,h8⟩:=h
  have hb:c.callee = .builtin .append:=by
   revert h1; cases c.callee <;> simp
   rename_i f; cases f <;> simp
  have hargs:c.args = #[x,y]:=by
   have:=Z81 h2
   exact Array.ext' (by simpa using this)
  obtain ⟨i,hi,hs,hby,hpos⟩:=Zk9 h5
  cases ht:c.argTypes[0]? with
  | none=>rw [ht] at h3; simp at h3
  | some t =>
   rw [ht] at h3
   simp only [Option.bind_some] at h3
   cases htx:c.argTypes[1]? with
   | none=>rw [htx] at h4; simp at h4
   | some tx =>
    rw [htx] at h4
    simp only [Option.bind_some] at h4
    have hz : ∃ zv,i.zero=some zv/\zv.cells=(cells z).toArray:=by
     split at h6
     ·rename_i q hq
      obtain ⟨zv,e1,e2⟩:=Zob hi hq
      exact ⟨zv,e1,by rw [e2,Zap h6]⟩
     ·cases h6
    obtain ⟨zv,hz1,hz2⟩:=hz
    refine ⟨c,t,tx,heq,hb,hargs,ht,htx,?_,?_,⟨i,zv,hi,hs,hby,hpos,hz1,hz2⟩,h7,by have:=Nat.lt_of_succ_le (Nat.le_of_ble_eq_true h8); exact this⟩
    ·split at h3
     ·rename_i e he; rw [decide_eq_true_eq] at h3; subst h3; exact he
     ·cases h3
    ·split at h4
     ·rename_i e he; exact .inl ⟨e,he⟩
     ·rename_i he; exact .inr he
     ·cases h4
 ·cases h
theorem Ze0 {z:List Value} (hz:0<z.length) : ∀ n:Nat,(Builtin.zeroCells z.toArray n).toList=(List.replicate n z).flatten:=by
 intro n
 apply List.ext_getElem?
 intro i
 have hlen:((List.replicate n z).flatten).length=n*z.length:=by simp
 by_cases hi:i<n*z.length
 ·have h1:i%z.length<z.length:=Nat.mod_lt _ hz
  have hd:i / z.length<n:=Nat.div_lt_of_lt_mul (by rw [Nat.mul_comm]; exact hi)
  have : ∀ (n i:Nat),i<n*z.length->((List.replicate n z).flatten)[i]? = z[i%z.length]? := by
   intro n
   induction n with
   | zero=>intro i hi; simp at hi
   | succ n ih =>
    intro i hi
    rw [List.replicate_succ,List.flatten_cons]
    by_cases h:i<z.length
    ·rw [List.getElem?_append_left h,Nat.mod_eq_of_lt h]
    ·rw [List.getElem?_append_right (by omega),ih _ (by rw [Nat.succ_mul] at hi; omega)]
     congr 1
     exact (Nat.mod_eq_sub_mod (by omega)).symm
  rw [this n i hi]
  simp [Builtin.zeroCells,hi,h1]
 ·have hz2:((Builtin.zeroCells z.toArray n).toList).length=n*z.length:=by simp [Builtin.zeroCells]
  rw [List.getElem?_eq_none (by rw [hz2]; omega),List.getElem?_eq_none (by rw [hlen]; omega)]
theorem Z0e4 {d:Nat} {T T':TypeId} {w bytes:Nat} {z:List Seg} {x y:Operand} {b off n0 cp n:Nat} {v:Value} {cs:List Value} {segs:List Seg}
  (hx:ev t x=some (.slice (some ⟨b,off,none⟩) n0 cp)) (hb:Has b (.cells (cells segs).toArray T' (0,0)) m) (hy:ev t y=some v) (hs:SrcV C m w v n cs)
  (hfit:off+cp*w<=width segs) (hn0:n0<=cp) (hsz:(n0+n)*bytes<=140737488355328)
  (room:n0+n<=cp->∃ segs' m',cells segs'=Z1i (cells segs) (off+n0*w) cs/\Upd b (.cells (cells segs).toArray T' (0,0)) (.cells (cells segs').toArray T' (0,0)) m m'/\K ((d,.slice (some ⟨b,off,none⟩) (n0+n) cp)::t) m')
  (grow:cp<n0+n->∀ b' cp',C.W0.heap.size<=b'->n0+n<=cp'->∃ segs',cells segs'=((cells segs).drop off).take (n0*w)++cs++(List.replicate (cp'-(n0+n)) (cells z)).flatten/\K ((d,.slice (some ⟨b',0,none⟩) (n0+n) cp')::t) (ck b' T segs'::m)) :
  EF C m t (some d) (.app T w bytes z x y) K:=by
 intro o ho hd a ha wd hw
 obtain ⟨hd1,hd2⟩:=Z5f hd
 obtain ⟨c,ty,tx,heq,hc,hargs,ht,htx,hu,hk,⟨i,zv,hi,hsz',hby,hpos,hz1,hz2⟩,hwz,hw0⟩:=Zy9 ho
 have hsrc:=hs.kit hk hw
 have hmul:(n0+n)<=(n0+n)*bytes:=Nat.le_mul_of_pos_right _ hpos
 have hrun : ∀ {r:Result Value},(Builtin.append_ c.argTypes o.type #[.slice (some ⟨b,off,none⟩) n0 cp,v]).run C.P wd=r->(execOp a.eval o).run C.P wd=r.andThen fun v w=>.ok (.value v) w:=by
  intro r hr
  simp only [execOp,heq,resolve,hc,Sem.run_bind,Sem.run_pure,Result.andThen_ok,invoke,builtin,hargs,List.map_toArray,List.map_cons,List.map_nil,ha.ev hx,ha.ev hy,hr]
 have hat:Builtin.append_ c.argTypes o.type #[.slice (some ⟨b,off,none⟩) n0 cp,v]=Builtin.append_ #[ty,tx] o.type #[.slice (some ⟨b,off,none⟩) n0 cp,v]:=by
  simp [Builtin.append_,ht,htx]
 by_cases hroom:n0+n<=cp
 ·obtain ⟨segs',m',e1,hup,hK⟩:=room hroom
  have hle:n0*w+n*w<=cp*w:=by rw [<- Nat.add_mul]; exact Nat.mul_le_mul_right _ hroom
  have hup':Upd b (.cells (cells segs).toArray T' (0,0)) (.cells (Z1i (cells segs) (off+n0*w+0) cs).toArray T' (0,0)) m m':=by rw [Nat.add_zero,<- e1]; exact hup
  obtain ⟨w',hst,hw'⟩:=Z8p (P:=C.P) cs (off+n0*w) 0 (cells segs) m m' wd hw hup' (by rw [cells_length,hs.nl]; omega) hs.one
  have hr:(Builtin.append_ #[ty,tx] o.type #[.slice (some ⟨b,off,none⟩) n0 cp,v]).run C.P wd = .ok (.slice (some ⟨b,off,none⟩) (n0+n) cp) w':=by
   subst hsz'
   rcases hsrc.kind with ⟨e',hk'⟩ | hk' <;> simp [Builtin.append_,Z01 hu,Z01 hk',sizeOf,typeInfo,hi,hsrc.len,hroom,hsrc.cells,Addr.add_lit,hst]
  rw [<- hat] at hr
  have h2:=hrun hr
  unfold Oper.wp
  rw [h2,Result.andThen_ok]
  simp only [Oper.upon]
  exact ⟨_,m',hK,hd1▸ha.put hd2 _,hw'⟩
 ·have hg:cp<n0+n:=by omega
  have hold:(Builtin.firstCells i.size n0 (.slice (some ⟨b,off,none⟩) n0 cp)).run C.P wd.drew = .ok (((cells segs).drop off).take (n0*i.size)).toArray wd.drew:=by
   have hle:n0*w<=cp*w:=Nat.mul_le_mul_right _ hn0
   have:=Zpz (P:=C.P) (w:=wd.drew) (b:=b) (off:=off) (size:=w) (n:=n0) (l:=n0) (c:=cp) (cs:=((cells segs).drop off).take (n0*w)) (by simp [cells_length]; omega) (fun i hi=>by
    rw [Zcj ((show Sat C.W0 C.S m wd.drew from hw.drew).own _ hb.mem),List.getElem?_take_of_lt hi,List.getElem?_drop]) (Nat.le_refl n0)
   rw [hsz',this,List.take_take,Nat.min_self]
  have hfit':Builtin.nextslicecap (n0+n) cp*i.bytes<=281474976710656:=by rw [hby]; exact growslice_fits hg hsz
  have hr:=run_append_grow_src (P:=C.P) wd ty tx o.type T i zv hu hi hz1 (some ⟨b,off,none⟩) n0 cp _ hold v n cs (by rw [hsz']; exact hsrc) hg (by omega) hfit'
  rw [<- hat] at hr
  have h2:=hrun hr
  unfold Oper.wp
  rw [h2,Result.andThen_ok]
  simp only [Oper.upon]
  have hge:=grownCap_ge wd (n0+n) cp T
  obtain ⟨segs',e1,hK⟩:=grow hg wd.heap.size (grownCap wd (n0+n) cp T) hw.fr.size hge
  refine ⟨_,_,hK,hd1▸ha.put hd2 _,?_⟩
  have ha2:=hw.drew.alloc (.cells ((((cells segs).drop off).take (n0*i.size)++cs).toArray++Builtin.zeroCells zv.cells (grownCap wd (n0+n) cp T-(n0+n))) T)
  have e2:((((cells segs).drop off).take (n0*i.size)++cs).toArray++Builtin.zeroCells zv.cells (grownCap wd (n0+n) cp T-(n0+n)))=(cells segs').toArray:=by
   rw [e1,hsz',hz2]
   apply Array.ext'
   rw [Array.toList_append,Ze0 (by rw [cells_length,hwz]; exact hw0)]
  rw [e2]
  rw [e2] at ha2
  exact ha2
theorem Z0am {d:Nat} {T:TypeId} {w bytes:Nat} {z:List Seg} {x y:Operand} {n:Nat} {v:Value} {cs:List Value}
  (hx:ev t x=some (.slice none 0 0)) (hy:ev t y=some v) (hs:SrcV C m w v n cs) (hsz:n*bytes<=140737488355328)
  (none_:n=0->K ((d,.slice none 0 0)::t) m)
  (grow:0<n->∀ b' cp',C.W0.heap.size<=b'->n<=cp'->∃ segs',cells segs'=cs++(List.replicate (cp'-n) (cells z)).flatten/\K ((d,.slice (some ⟨b',0,none⟩) n cp')::t) (ck b' T segs'::m)) :
  EF C m t (some d) (.app T w bytes z x y) K:=by
 intro o ho hd a ha wd hw
 obtain ⟨hd1,hd2⟩:=Z5f hd
 obtain ⟨c,ty,tx,heq,hc,hargs,ht,htx,hu,hk,⟨i,zv,hi,hsz',hby,hpos,hz1,hz2⟩,hwz,hw0⟩:=Zy9 ho
 have hsrc:=hs.kit hk hw
 have hmul:n<=n*bytes:=Nat.le_mul_of_pos_right _ hpos
 have hrun : ∀ {r:Result Value},(Builtin.append_ c.argTypes o.type #[.slice none 0 0,v]).run C.P wd=r->(execOp a.eval o).run C.P wd=r.andThen fun v w=>.ok (.value v) w:=by
  intro r hr
  simp only [execOp,heq,resolve,hc,Sem.run_bind,Sem.run_pure,Result.andThen_ok,invoke,builtin,hargs,List.map_toArray,List.map_cons,List.map_nil,ha.ev hx,ha.ev hy,hr]
 have hat:Builtin.append_ c.argTypes o.type #[.slice none 0 0,v]=Builtin.append_ #[ty,tx] o.type #[.slice none 0 0,v]:=by
  simp [Builtin.append_,ht,htx]
 by_cases hroom:n=0
 ·have hK:=none_ hroom
  have hr:(Builtin.append_ #[ty,tx] o.type #[.slice none 0 0,v]).run C.P wd = .ok (.slice none 0 0) wd:=by
   subst hsz'
   subst hroom
   rcases hsrc.kind with ⟨e',hk'⟩ | hk' <;> simp [Builtin.append_,Z01 hu,Z01 hk',sizeOf,typeInfo,hi,hsrc.len,hsrc.cells]
  rw [<- hat] at hr
  have h2:=hrun hr
  unfold Oper.wp
  rw [h2,Result.andThen_ok]
  simp only [Oper.upon]
  exact ⟨_,m,hK,hd1▸ha.put hd2 _,hw⟩
 ·have hg:0<0+n:=by omega
  have hold:(Builtin.firstCells i.size 0 (.slice none 0 0)).run C.P wd.drew = .ok ([]:List Value).toArray wd.drew:=by simpa using run_firstCells_none (P:=C.P) wd.drew i.size 0 0 0
  have hfit':Builtin.nextslicecap (0+n) 0*i.bytes<=281474976710656:=by rw [hby]; exact growslice_fits hg (by simpa using hsz)
  have hr:=run_append_grow_src (P:=C.P) wd ty tx o.type T i zv hu hi hz1 none 0 0 _ hold v n cs (by rw [hsz']; exact hsrc) hg (by omega) hfit'
  simp only [Nat.zero_add,List.nil_append] at hr
  rw [<- hat] at hr
  have h2:=hrun hr
  unfold Oper.wp
  rw [h2,Result.andThen_ok]
  simp only [Oper.upon]
  have hge:=grownCap_ge wd n 0 T
  obtain ⟨segs',e1,hK⟩:=grow (by omega) wd.heap.size (grownCap wd n 0 T) hw.fr.size hge
  refine ⟨_,_,hK,hd1▸ha.put hd2 _,?_⟩
  have ha2:=hw.drew.alloc (.cells (cs.toArray++Builtin.zeroCells zv.cells (grownCap wd n 0 T-n)) T)
  have e2:(cs.toArray++Builtin.zeroCells zv.cells (grownCap wd n 0 T-n))=(cells segs').toArray:=by
   rw [e1,hz2]
   apply Array.ext'
   rw [Array.toList_append,Ze0 (by rw [cells_length,hwz]; exact hw0)]
  rw [e2]
  rw [e2] at ha2
  exact ha2
end
section
variable {C:Cfg} {m:List Zd} {t:TS} {K:KN}
theorem Z0e7 {d:Nat} {T:TypeId} {bytes:Nat} {z:List Seg} {l c:Operand} {kl kc:IntKind} {L N:Int}
    (hl:ev t l=some (.int kl L)) (hc:ev t c=some (.int kc N)) (h0:0<=L) (hln:L<=N) (hb:(bytes:Int)*N<=281474976710656) (h63:N<=9223372036854775807)
    (h : ∀ b,C.W0.heap.size<=b->∃ segs,cells segs=(List.replicate N.toNat (cells z)).flatten/\K ((d,.slice (some ⟨b,0,none⟩) L.toNat N.toNat)::t) (ck b T segs::m)) :
    EF C m t (some d) (.mks T bytes z l c) K:=by
  intro o ho hd a ha wd hw
  obtain ⟨hd1,hd2⟩:=Z5f hd
  simp only [Za4] at ho
  split at ho
  · rename_i ty l' c' heq
    simp only [Bool.and_eq_true] at ho
    obtain ⟨⟨⟨⟨h1,h2⟩,h3⟩,h4⟩,h5⟩:=ho
    have e:=Z0m h1; have e':=Z0m h2; subst e; subst e'
    split at h3
    · rename_i E hu
      rw [decide_eq_true_eq] at h3; subst h3
      obtain ⟨i,hi,hs,hby,hpos⟩:=Zk9 h4
      split at h5
      · rename_i q hq
        obtain ⟨zv,hz1,hz2⟩:=Zob hi hq
        rw [Zap h5] at hz2
        have hr:=run_make (P:=C.P) wd ty E i zv hu hi hz1 kl kc L N h0 hln (by rw [hby]; exact hb) h63
        have h2:(execOp a.eval o).run C.P wd=(Result.ok (.slice (some ⟨wd.heap.size,0,none⟩) L.toNat N.toNat) (wd.alloc (.cells (madeCells zv.cells (N.toNat*i.size)) E)):Result Value).andThen fun v w=>.ok (.value v) w:=by
          simp only [execOp,heq,ha.ev hl,ha.ev hc,Sem.run_bind,hr,Result.andThen_ok,Sem.run_pure]
        unfold Oper.wp
        rw [h2,Result.andThen_ok]
        simp only [Oper.upon]
        obtain ⟨segs,e1,hK⟩:=h wd.heap.size hw.fr.size
        refine ⟨_,_,hK,hd1▸ha.put hd2 _,?_⟩
        have e2:madeCells zv.cells (N.toNat*i.size)=(cells segs).toArray:=by
          have hsz:zv.cells.size=i.size:=by rw [hz2,hs]; simp [cells_length]
          rw [e1]
          by_cases hz:0<(cells z).length
          · apply Array.ext'
            rw [<- Ze0 hz]
            simp only [madeCells,Builtin.zeroCells,hz2]
            rw [hs,List.size_toArray,cells_length]
          · have hz0:(cells z) = []:=List.eq_nil_of_length_eq_zero (by omega)
            have hw0:i.size=0:=by rw [hs,<- cells_length,hz0]; rfl
            rw [hz0,hw0]
            simp [madeCells]
        rw [e2]
        exact hw.alloc _
      · cases h5
    · cases h3
  · cases ho
theorem Zsf {a:Act} {n w:Nat} (ha:Zei n t a) : ∀ {z q:List Seg} {parts:List (Nat×Nat×Operand)} {ps:List (Nat×Operand)},BdR t z parts q->Zm0 w ps parts=true ->
    Instr.fill (fun i=>some (i*w,w)) (cells z).toArray (ps.map fun p=>(p.1,a.eval p.2))=some (cells q).toArray
  | z,_,[],ps,.nil,hp=>by
    cases ps with
    | nil=>rfl
    | cons p ps=>obtain ⟨i,x⟩:=p; simp [Zm0] at hp
  | z,q,(off,n1,x)::r,ps,hb,hp=>by
    cases ps with
    | nil=>simp [Zm0] at hp
    | cons p ps =>
      obtain ⟨i,y⟩:=p
      simp only [Zm0,Bool.and_eq_true,Nat.beq_eq] at hp
      obtain ⟨⟨⟨h0,h1⟩,h2⟩,h3⟩:=hp
      have e:=Z0m h2; subst e
      subst h0
      subst h1
      cases hb with
      | one hx hv hput hr =>
        rename_i z' v
        obtain ⟨e1,e2,e3⟩:=Zm2 hput
        have hcs:(a.eval y).cells = #[v]:=by rw [ha.ev hx]; exact hv
        simp only [List.map_cons,Instr.fill,hcs]
        rw [if_neg (by simp [cells_length] at e3 ⊢; omega)]
        have:=Zb2 (i*1) [v] 0 (cells z) (by rw [cells_length]; simp; omega)
        have e4:((#[v]:Array Value).zipIdx.foldl (fun (cs:Array Value) (p:Value×Nat)=>cs.setIfInBounds (i*1+p.2) p.1) (cells z).toArray)=(cells z').toArray:=by
          rw [e1,Zjh (by rw [cells_length]; exact e3)]
          simpa using this
        rw [e4]
        exact Zsf ha hr h3
      | agg hx hw hput hr =>
        rename_i z' p
        obtain ⟨e1,e2,e3⟩:=Zj8 hput
        have hcs:(a.eval y).cells=(cells p).toArray:=by rw [ha.ev hx]; rfl
        simp only [List.map_cons,Instr.fill,hcs]
        rw [if_neg (by simp [cells_length]; omega)]
        have e4:((cells p).toArray.zipIdx.foldl (fun (cs:Array Value) (q:Value×Nat)=>cs.setIfInBounds (i*n1+q.2) q.1) (cells z).toArray)=(cells z').toArray:=by
          rw [<- Array.foldl_toList,e1]
          have:=Zb2 (i*n1) (cells p) 0 (cells z) (by rw [cells_length,cells_length]; omega)
          simpa using this
        rw [e4]
        exact Zsf ha hr h3
theorem Z0qp {d:Nat} {T:TypeId} {len w:Nat} {z q:List Seg} {parts:List (Nat×Nat×Operand)} (hb:BdR t z parts q)
    (h : ∀ b,C.W0.heap.size<=b->K ((d,.slice (some ⟨b,0,none⟩) len len)::t) (ck b T q::m)):EF C m t (some d) (.bs T len w z parts) K:=by
  intro o ho hd a ha wd hw
  obtain ⟨hd1,hd2⟩:=Z5f hd
  simp only [Za4] at ho
  split at ho
  · rename_i ty len' ps heq
    simp only [Bool.and_eq_true,Nat.beq_eq] at ho
    obtain ⟨⟨⟨⟨⟨h1,h2⟩,h3⟩,h4⟩,h5⟩,h6⟩:=ho
    subst h2
    split at h1
    · rename_i E hu
      rw [decide_eq_true_eq] at h1; subst h1
      split at h4
      · rename_i q0 hq
        obtain ⟨i,hi,hsz⟩:=Zvj h3
        obtain ⟨zv,hz1,hz2⟩:=Zob hi hq
        have hsmall : ¬ len'*i.size>2^24:=by
          have:=Nat.le_of_ble_eq_true h6
          rw [hsz]; omega
        have hzc:((Array.range (len'*w)).map fun j=>q0.toArray[j%q0.toArray.size]!)=(cells z).toArray:=by
          have:=Zap h4
          rw [<- this,Array.toArray_toList]
        have hfill:=Zsf (w:=w) ha hb h5
        have hps':(ps.map fun (x:Nat×Operand)=>match x with | (i,x)=>(i,a.eval x))=(ps.map fun p=>(p.1,a.eval p.2)):=rfl
        have hps:(ps.map fun p=>(p.1,a.eval p.2)).toList=ps.toList.map fun p=>(p.1,a.eval p.2):=by simp
        have hr:(Instr.buildSlice ty len' (ps.map fun (x:Nat×Operand)=>match x with | (i,x)=>(i,a.eval x))).run C.P wd = .ok (.slice (some ⟨wd.heap.size,0,none⟩) len' len') (wd.alloc (.cells (cells q).toArray E)):=by
          rw [hps']
          by_cases hpos:len'*i.size=0
          · have hzz:(cells z).toArray = #[]:=by rw [<- hzc,<- hsz,hpos]; simp [Array.range_zero']
            rw [hzz] at hfill
            rw [<- hsz] at hfill
            simp [Instr.buildSlice,Z01 hu,sizeOf,typeInfo,hi,hpos,hps,hfill,newRow,Array.range_zero']
          · refine run_buildSlice wd ty E len' _ (cells q).toArray i zv hu hi hz1 hsmall hpos ?_
            rw [hps,hz2,hsz,hzc]
            exact hfill
        have h2:(execOp a.eval o).run C.P wd=(Result.ok (.slice (some ⟨wd.heap.size,0,none⟩) len' len') (wd.alloc (.cells (cells q).toArray E)):Result Value).andThen fun v w=>.ok (.value v) w:=by
          simp only [execOp,heq,Sem.run_bind,hr,Result.andThen_ok,Sem.run_pure]
        unfold Oper.wp
        rw [h2,Result.andThen_ok]
        simp only [Oper.upon]
        exact ⟨_,_,h wd.heap.size hw.fr.size,hd1▸ha.put hd2 _,hw.alloc _⟩
      · cases h4
    · cases h1
  · cases ho
theorem Z06l {P:Program} {o:Oper} {w:Nat} {x y:Operand} (h:Za4 P o (.cpy w x y)=true) :
    ∃ c ty e,o.op = .call c/\c.callee = .builtin .copy/\c.args = #[x,y]/\c.argTypes[0]? = some ty/\P.underlying ty=some (.slice e)/\(Zf2 P e==some w)=true:=by
  simp only [Za4] at h
  split at h
  · rename_i c heq
    simp only [Bool.and_eq_true] at h
    obtain ⟨⟨h1,h2⟩,h3⟩:=h
    have hb:c.callee = .builtin .copy:=by
      revert h1; cases c.callee <;> simp
      rename_i f; cases f <;> simp
    have hargs:c.args = #[x,y]:=Array.ext' (by simpa using Z81 h2)
    split at h3
    · rename_i e he
      cases hT:c.argTypes[0]? with
      | none=>rw [hT] at he; simp at he
      | some ty =>
        rw [hT] at he
        exact ⟨c,ty,e,heq,hb,hargs,rfl.trans hT,by simpa using he,h3⟩
    · cases h3
  · cases h
theorem Z08n {d:Option Nat} {w:Nat} {x y:Operand} {b off dl dc n:Nat} {T:TypeId} {v:Value} {cs:List Value} {segs segs':List Seg} {m':List Zd}
    (hx:ev t x=some (.slice (some ⟨b,off,none⟩) dl dc)) (hy:ev t y=some v) (hs:SrcV C m w v n cs) (hfit:off+dl*w<=width segs)
    (hc:cells segs'=Z1i (cells segs) off (cs.take (Nat.min n dl*w))) (hu:Upd b (.cells (cells segs).toArray T (0,0)) (.cells (cells segs').toArray T (0,0)) m m')
    (h:K (match d with | some d=>(d,.int .i64 (Nat.min n dl:Nat))::t | none=>t) m'):EF C m t d (.cpy w x y) K:=by
  intro o ho hd a ha wd hw
  obtain ⟨c,ty,e,heq,hcal,hargs,hT,hu',hsz⟩:=Z06l ho
  have hmin:Nat.min n dl<=n:=Nat.min_le_left _ _
  have hmin':Nat.min n dl*w<=dl*w:=Nat.mul_le_mul_right _ (Nat.min_le_right _ _)
  have hmin2:Nat.min n dl*w<=n*w:=Nat.mul_le_mul_right _ hmin
  have hup':Upd b (.cells (cells segs).toArray T (0,0)) (.cells (Z1i (cells segs) (off+0) (cs.take (Nat.min n dl*w))).toArray T (0,0)) m m':=by rw [Nat.add_zero,<- hc]; exact hu
  obtain ⟨w',hst,hw'⟩:=Z8p (P:=C.P) (cs.take (Nat.min n dl*w)) off 0 (cells segs) m m' wd hw hup' (by rw [cells_length,List.length_take,hs.nl]; omega) (fun u hu=>hs.one u (List.mem_of_mem_take hu))
  have hfc:=hs.cells wd hw _ hmin
  have hr:(Builtin.copy_ c.argTypes o.type #[.slice (some ⟨b,off,none⟩) dl dc,v]).run C.P wd = .ok (goInt (Nat.min n dl)) w':=by
    simp [Builtin.copy_,hT,Z01 hu',hs.len,Z3j hsz,hfc,hst]
  have h2:(execOp a.eval o).run C.P wd=(Result.ok (goInt (Nat.min n dl)) w':Result Value).andThen fun v w=>.ok (.value v) w:=by
    simp only [execOp,heq,resolve,hcal,Sem.run_bind,Sem.run_pure,Result.andThen_ok,invoke,builtin,hargs,List.map_toArray,List.map_cons,List.map_nil,ha.ev hx,ha.ev hy,hr]
  unfold Oper.wp
  rw [h2,Result.andThen_ok]
  simp only [Oper.upon]
  cases d with
  | none =>
    have hd0:o.dst=none:=by
      revert hd; cases o.dst <;> simp [okD]
    rw [hd0]
    exact ⟨_,m',h,ha,hw'⟩
  | some d =>
    obtain ⟨hd1,hd2⟩:=Z5f hd
    rw [hd1]
    exact ⟨_,m',h,ha.put hd2 _,hw'⟩
def tk (xs:List Int) (o n:Nat):List Int:=(List.range n).map fun i=>xs.getD (o+i) 0
def wr (xs:List Int) (i:Nat) (ys:List Int):List Int:=tk xs 0 i++ys++xs.drop (i+ys.length)
theorem Z0o (xs:List Int) (o n:Nat):(tk xs o n).length=n:=by simp [tk]
theorem Zmq (xs:List Int) (o n i:Nat):(tk xs o n).getD i 0=if i<n then xs.getD (o+i) 0 else 0:=by
  unfold tk
  by_cases h:i<n
  · simp [h]
  · simp [h]
theorem Zbt {xs:List Int} {n:Nat} (h:xs.length=n):tk xs 0 n=xs:=by
  subst h
  apply List.ext_getElem?
  intro i
  by_cases hi:i<xs.length
  · simp [tk,hi]
  · rw [List.getElem?_eq_none (by rw [Z0o]; omega),List.getElem?_eq_none (by omega)]
theorem Z022 (k:IntKind) (n:Nat) (xs:List Int):intsCells k n xs=(tk xs 0 n).map (.int k):=by simp [intsCells,tk,Function.comp_def]
theorem Ztb (xs:List Int) (i:Nat) (ys:List Int) (j:Nat):(wr xs i ys).getD j 0=if i<=j/\j<i+ys.length then ys.getD (j-i) 0 else xs.getD j 0:=by
  unfold wr
  rw [List.getD_eq_getElem?_getD,List.append_assoc]
  by_cases h1:j<i
  · rw [List.getElem?_append_left (by rw [Z0o]; exact h1),if_neg (by omega),<- List.getD_eq_getElem?_getD,Zmq,if_pos h1,Nat.zero_add]
  · rw [List.getElem?_append_right (by rw [Z0o]; omega),Z0o]
    by_cases h2:j<i+ys.length
    · rw [List.getElem?_append_left (by omega),if_pos ⟨by omega,h2⟩,List.getD_eq_getElem?_getD]
    · rw [List.getElem?_append_right (by omega),if_neg (by omega),List.getElem?_drop,List.getD_eq_getElem?_getD]
      congr 2; omega
theorem Zwe (k:IntKind) (n:Nat) (xs:List Int) (i:Nat):(intsCells k n xs)[i]? = if i<n then some (.int k (xs.getD i 0)) else none:=by
  by_cases h:i<n
  · simp [intsCells,h]
  · simp [intsCells,h]
theorem Zji {l p:List Value} {o:Nat} (h:o+p.length<=l.length) (j:Nat):(Z1i l o p)[j]? = if o<=j/\j<o+p.length then p[j-o]? else l[j]? := by
  unfold Z1i
  by_cases h1:j<o
  · rw [List.getElem?_append_left (by rw [List.length_take]; omega),if_neg (by omega),List.getElem?_take_of_lt h1]
  · rw [List.getElem?_append_right (by rw [List.length_take]; omega),List.length_take,Nat.min_eq_left (by omega)]
    by_cases h2:j<o+p.length
    · rw [List.getElem?_append_left (by omega),if_pos ⟨by omega,h2⟩]
    · rw [List.getElem?_append_right (by omega),if_neg (by omega),List.getElem?_drop]
      congr 1; omega
theorem Z08f {k:IntKind} {N i:Nat} {xs ys:List Int} (h:i+ys.length<=N):cells [.ints k N (wr xs i ys)]=Z1i (cells [.ints k N xs]) i (ys.map (.int k)):=by
  simp only [cells,Seg.cells,List.append_nil]
  apply List.ext_getElem?
  intro j
  rw [Zji (by rw [List.length_map]; simp [intsCells]; exact h),Zwe,Zwe,List.length_map,Ztb]
  by_cases h1:i<=j/\j<i+ys.length
  · rw [if_pos h1,if_pos (by omega),if_pos h1,List.getElem?_map,List.getD_eq_getElem?_getD,List.getElem?_eq_getElem (by omega)]
    simp
  · rw [if_neg h1,if_neg h1]
theorem EF.less {d:Option Nat} {op:IOp} (h:EF C m t d op (fun t' m'=>∃ m2,K t' m2/\List.Sublist m2 m')):EF C m t d op K:=by
  intro o ho hd a ha w hw
  refine Oper.wp_mono ?_ (h o ho hd a ha w hw)
  rintro a' w' ⟨t',m',⟨m2,hk,hs⟩,h1,h2⟩
  exact ⟨t',m2,hk,h1,h2.sublist hs⟩
theorem Z00b {w n m:Nat} {g h:Nat->List Value} (e1 : ∀ i,i<n->h i=g i):Z1c w (n+m) h=Z1c w n g++Z1c w m (fun i=>h (n+i)):=by
  unfold Z1c
  rw [List.range_add,List.flatMap_append,List.flatMap_map]
  congr 1
  rw [<- List.flatten_map_eq_flatMap,<- List.flatten_map_eq_flatMap]
  congr 1
  apply List.map_congr_left
  intro i hi
  rw [e1 i (by simpa using hi)]
 where List.flatten_map_eq_flatMap {α β:Type} (l:List α) (f:α->List β):(l.map f).flatten=l.flatMap f:=by rw [List.flatMap_def]
theorem Zrq {w n:Nat} {g h:Nat->List Value} (e : ∀ i,i<n->h i=g i):Z1c w n h=Z1c w n g:=by
  have:=Z00b (w:=w) (n:=n) (m:=0) e
  simpa [Z1c] using this
theorem Zrr {w n:Nat} {z:List Value} (h:z.length=w):Z1c w n (fun _=>z)=(List.replicate n z).flatten:=by
  unfold Z1c
  induction n with
  | zero=>rfl
  | succ n ih=>rw [List.range_succ_eq_map,List.flatMap_cons,List.flatMap_map,Zaq h,ih,List.replicate_succ,List.flatten_cons]
end
def putT:Option Nat->Value->TS->TS
 | some d,v,t=>(d,v)::t
 | none,_,t=>t
def retM (W0:World) (S:List Nat) (R:Value->List Zd->Prop):Ending->World->Prop:=fun e w'=>∃ v m,e = .returned v/\R v m/\Sat W0 S m w'
theorem Zey {W0:World} {S:List Nat} {m:List Zd} {w:World} (h:Sat W0 S m w) {mS mr:List Zd} (hp:List.Perm (mS++mr) m):Sat w (mS.map (·.b)) mS w:=by
 have h':=h.perm hp
 refine ⟨⟨rfl,rfl,rfl,Nat.le_refl _,fun _ _ _=>rfl⟩,fun c hc=>h'.own c (List.mem_append_left _ hc),fun c hc=>.inr (List.mem_map.2 ⟨c,hc,rfl⟩),?_⟩
 have:=h'.dist
 rw [List.map_append,List.nodup_append] at this
 exact this.1
theorem Zrv {W0:World} {S:List Nat} {m:List Zd} {w w':World} (h:Sat W0 S m w) {mS mr m':List Zd} (hp:List.Perm (mS++mr) m) (h':Sat w (mS.map (·.b)) m' w'):Sat W0 S (m'++mr) w':=by
 have hh:=h.perm hp
 have hd:=hh.dist
 rw [List.map_append,List.nodup_append] at hd
 have hbase : ∀ c∈mS,W0.heap.size<=c.b∨c.b∈S:=fun c hc=>hh.base c (List.mem_append_left _ hc)
 have hr : ∀ c∈mr,c.b<w.heap.size/\c.b∉mS.map (·.b):=fun c hc=>⟨hh.lt (List.mem_append_right _ hc),fun hm=>hd.2.2 _ hm _ (List.mem_map.2 ⟨c,hc,rfl⟩) rfl⟩
 refine ⟨⟨h'.fr.os.trans h.fr.os,h'.fr.tape.trans h.fr.tape,h'.fr.output.trans h.fr.output,Nat.le_trans h.fr.size h'.fr.size,fun k hk hS=>?_⟩,?_,?_,?_⟩
 ·rw [h'.fr.block k (Nat.lt_of_lt_of_le hk h.fr.size) ?_]
  ·exact h.fr.block k hk hS
  ·intro hm
   obtain ⟨c,hc,rfl⟩:=List.mem_map.1 hm
   rcases hbase c hc with h1 | h1
   ·omega
   ·exact hS h1
 ·intro c hc
  rcases List.mem_append.1 hc with hc | hc
  ·exact h'.own c hc
  ·rw [h'.fr.block c.b (hr c hc).1 (hr c hc).2]
   exact hh.own c (List.mem_append_right _ hc)
 ·intro c hc
  rcases List.mem_append.1 hc with hc | hc
  ·rcases h'.base c hc with h1 | h1
   ·exact .inl (Nat.le_trans h.fr.size h1)
   ·obtain ⟨c',hc',e⟩:=List.mem_map.1 h1
    rw [<- e]; exact hbase c' hc'
  ·exact hh.base c (List.mem_append_right _ hc)
 ·rw [List.map_append,List.nodup_append]
  refine ⟨h'.dist,hd.2.1,?_⟩
  intro a ha b hb e
  subst e
  obtain ⟨c,hc,rfl⟩:=List.mem_map.1 ha
  obtain ⟨c2,hc2,e2⟩:=List.mem_map.1 hb
  have:=hr c2 hc2
  rw [e2] at this
  rcases h'.base c hc with h1 | h1
  ·omega
  ·exact this.2 h1
section
variable {C:Cfg} {m:List Zd} {t:TS} {K:KN}
theorem Z02d {W0:World} {S:List Nat} {w:World} {b:Nat} {T:TypeId} {s:List Seg} (hw:Sat W0 S m w) (hb:Has b (.cells (cells s).toArray T (0,0)) m):Mem w b 0 s:=by
 have hown:=hw.own _ hb.mem
 refine ⟨fun i hi=>?_,(Array.getElem?_eq_some_iff.1 hown).1⟩
 rw [Nat.zero_add,Zcj hown]
theorem Z7d {w:World} {b o:Nat} {s:List Seg} (h:Mem C.W0 b o s) (hS:b∉C.S) (hw:Sat C.W0 C.S m w):Mem w b o s :=
 ⟨fun i hi=>h.now hS hw hi,Nat.lt_of_lt_of_le h.lt hw.fr.size⟩
theorem Zxt {d:Option Nat} {f:FuncId} {args:List Operand} {vs:List Value} {mS mr:List Zd} {R:Value->List Zd->Prop} (ha:evL t args=some vs) (hp:List.Perm (mS++mr) m)
  (hc : ∀ w,Sat C.W0 C.S m w->Calls C.P f vs.toArray w (retM w (mS.map (·.b)) R))
  (h : ∀ v m',R v m'->K (putT d v t) (m'++mr)):EF C m t d (.call f args) K:=by
 intro o ho hd a hat w hw
 unfold Oper.wp
 rw [Zyu ho,hat.evL ha]
 simp only [Oper.upon]
 refine (hc w hw).mono ?_
 rintro e w' ⟨v,m',rfl,hR,hs⟩
 have hsat:=Zrv hw hp hs
 cases d with
 | none =>
  have hd0:o.dst=none:=by revert hd; cases o.dst <;> simp [okD]
  rw [hd0]
  exact ⟨_,_,h v m' hR,hat,hsat⟩
 | some d =>
  obtain ⟨hd1,hd2⟩:=Z5f hd
  rw [hd1]
  exact ⟨_,_,h v m' hR,hat.put hd2 v,hsat⟩
theorem Z05z {d:Option Nat} {f:FuncId} {args:List Operand} {vs:List Value} {R:Value->List Zd->Prop} (ha:evL t args=some vs)
  (hc : ∀ w,Sat C.W0 C.S m w->Calls C.P f vs.toArray w (retM w [] R))
  (h : ∀ v m',R v m'->K (putT d v t) (m'++m)):EF C m t d (.call f args) K :=
 Zxt (mS:=[]) ha (List.Perm.refl _) hc h
end
section
variable {C:Cfg} {m:List Zd} {t:TS} {K:KN}
theorem Z021 {k:IntKind} {N off n:Nat} {xs:List Int} (h:off+n<=N):((intsCells k N xs).drop off).take n=(tk xs off n).map (Value.int k):=by
 apply List.ext_getElem?
 intro j
 by_cases hj:j<n
 ·rw [List.getElem?_take_of_lt hj,List.getElem?_drop,Zwe,if_pos (by omega),List.getElem?_map,List.getElem?_eq_getElem (by rw [Z0o]; exact hj)]
  simp [tk]
 ·rw [List.getElem?_eq_none (by rw [List.length_take]; omega),List.getElem?_eq_none (by rw [List.length_map,Z0o]; omega)]
theorem Z0p0 {size:Nat} {b off n c:Nat} {cs:List Value} (hl:cs.length=n*size) (h1 : ∀ u∈cs,one1 u=true)
  (h : ∀ w,Sat C.W0 C.S m w->∀ i,i<n*size->w.cell? ⟨b,off+i,none⟩=cs[i]?):SrcV C m size (.slice (some ⟨b,off,none⟩) n c) n cs :=
 ⟨fun _=>rfl,fun w hw k hk=>Zpz hl (h w hw) hk,hl,h1⟩
theorem Zyc {w n:Nat} {g:Nat->List Value} (h : ∀ i,i<n->(g i).length=w /\ ∀ u∈g i,one1 u=true) : ∀ u∈Z1c w n g,one1 u=true:=by
 intro u hu
 unfold Z1c at hu
 obtain ⟨i,hi,hu⟩:=List.mem_flatMap.1 hu
 obtain ⟨h1,h2⟩:=h i (by simpa using hi)
 rw [Zaq h1] at hu
 exact h2 u hu
def ExtF (P:Program) (f:FuncId) (e:Array Value->Sem Value):Prop :=
 ∃ fn,P.funcs[f]? = some fn/\(fn.name == "runtime.NumGoroutine")=false/\fn.body.isNone=true/\Extern.findNext fn=none/\Extern.find fn=some e
theorem Zih {f:FuncId} {args:List Operand} {vs:List Value} {v:Value} {e:Array Value->Sem Value} (ha:evL t args=some vs) (he:ExtF C.P f e) (hr : ∀ w,(e vs.toArray).run C.P w = .ok v w):Q1 C m t (.xcall f args) v:=by
 intro o ho a hat w hw
 obtain ⟨fn,h1,h2,h3,h4,h5⟩:=he
 refine Z0t ?_
 simp only [Za4] at ho
 split at ho
 ·rename_i c heq
  simp only [Bool.and_eq_true] at ho
  obtain ⟨ho1,ho2⟩:=ho
  have hc:c.callee = .value (.func f):=by
   revert ho1
   cases c.callee <;> simp
   rename_i x
   cases x <;> simp
  have hargs:c.args.map a.eval=vs.toArray:=by
   have e1:=Z81 ho2
   have e2:=hat.evL ha
   apply Array.ext'
   rw [Array.toList_map,e1,e2]
  have h6:=run_callFunc_extern (P:=C.P) h1 h2 h3 h4 h5 vs.toArray w
  rw [hr w] at h6
  have hev:a.eval (.func f) = .func (.func f) #[] #[]:=rfl
  simp only [execOp,heq,resolve,hc,hev,Deferred.ofValue,Sem.run_bind,Sem.run_pure,Result.andThen_ok,invoke,Array.append_empty,Array.empty_append,hargs]
  rw [h6]; rfl
 ·cases ho
def Zjj:Array Value->Sem Value:=fun args=>do
 let (x,y,b) <- Extern.MathBitsCarry.three "Sub64" args
 pure (Extern.MathBitsCarry.pair ((x+Extern.MathBitsCarry.m64-y-b)%Extern.MathBitsCarry.m64) (if x<y+b then 1 else 0))
theorem Z041 {P:Program} (x y c:Int) (hx:0<=x) (hy:0<=y) (hy2:y<18446744073709551616) (hc0:0<=c) (hc:c<=1) (w:World) :
  (Zjj #[.int .u64 x,.int .u64 y,.int .u64 c]).run P w = .ok (.tuple #[.int .u64 ((x-y-c)%18446744073709551616),.int .u64 (if x<y+c then 1 else 0)]) w:=by
 have key : ∀ k:Nat,k<=1->(Zjj #[.int .u64 x,.int .u64 y,.int .u64 (k:Int)]).run P w =
   .ok (Extern.MathBitsCarry.pair ((x.toNat+Extern.MathBitsCarry.m64-y.toNat-k)%Extern.MathBitsCarry.m64) (if x.toNat<y.toNat+k then 1 else 0)) w:=by
  intro k hk
  have:k=0∨k=1:=by omega
  rcases this with rfl | rfl <;> rfl
 obtain ⟨k,rfl⟩:=Int.eq_ofNat_of_zero_le hc0
 rw [key k (by omega)]
 obtain ⟨X,rfl⟩:=Int.eq_ofNat_of_zero_le hx
 obtain ⟨Y,rfl⟩:=Int.eq_ofNat_of_zero_le hy
 simp only [Extern.MathBitsCarry.pair,Extern.MathBitsCarry.m64,Int.toNat_natCast]
 have e1:Int.ofNat ((X+2^64-Y-k)%2^64)=((X:Int)-Y-k)%18446744073709551616:=by
  simp only [Int.ofNat_eq_natCast]; omega
 have e2:Int.ofNat (if X<Y+k then 1 else 0)=if (X:Int)<Y+k then 1 else 0:=by
  by_cases h:X<Y+k
  ·rw [if_pos h,if_pos (by omega)]; rfl
  ·rw [if_neg h,if_neg (by omega)]; rfl
 rw [e1,e2]
def ieq (n:Nat) (a b:List Int):Bool:=decide (tk a 0 n=tk b 0 n)
theorem Z01z {k:IntKind} {n:Nat} {a b:List Int}:ieq n a b=true↔cells [.ints k n a]=cells [.ints k n b]:=by
 simp only [ieq,decide_eq_true_eq,cells,Seg.cells,List.append_nil,Z022]
 constructor
 ·intro h; rw [h]
 ·intro h
  refine List.map_inj_right (f:=Value.int k) (fun x y e=>?_) |>.1 h
  cases e; rfl
theorem Zou {d:Nat} {T:TypeId} {z z':List Seg} (hz:cells z=cells z') (h : ∀ b,C.W0.heap.size<=b->K ((d,.pointer (some ⟨b,0,none⟩))::t) (ck b T z'::m)):EF C m t (some d) (.al T z) K :=
 Zu fun b hb=>by
  have:=h b hb
  unfold ck at this ⊢
  rw [hz]; exact this
theorem Z0zi {x:Operand} {b p base i len:Nat} {T:TypeId} {fz:Nat×Nat} {s:List Seg} {k:IntKind} {xs:List Int} (hx:ev t x=some (.pointer (some ⟨b,p,none⟩))) (hb:Has b (.cells (cells s).toArray T fz) m)
  (hs:Ze6 s base=some (.ints k len xs)) (hp:p=base+i) (hi:i<len):Q1 C m t (.ld 1 false x) (.int k (xs.getD i 0)) :=
 Z32 (base:=base) (i:=i) (by rw [hx,hp,Nat.mul_one]) hb hs hi
theorem Z0e8 {x y:Operand} {b p base i len:Nat} {T:TypeId} {s q:List Seg} {k:IntKind} {xs:List Int} {z:Int} {m':List Zd} (hx:ev t x=some (.pointer (some ⟨b,p,none⟩))) (hy:ev t y=some (.int k z))
  (hs:Ze6 s base=some (.ints k len xs)) (hp:p=base+i) (hi:i<len) (hq:Zh6 s base (.ints k len (Z2g xs i z))=some q)
  (hup:Upd b (.cells (cells s).toArray T (0,0)) (.cells (cells q).toArray T (0,0)) m m') (h:K t m'):EF C m t none (.st 1 x y) K :=
 Z08o (base:=base) (i:=i) (by rw [hx,hp,Nat.mul_one]) hy hs hi hq hup h
end
end Go.Sx
namespace Go.Sx
open Go Go.RowKit
open List (replicate)
set_option linter.all false
section
variable {α β:Type} {r:β} {G:Prop}
def bnd (x:α) (f:α->Option β):Option β:=f x
def chk (c:Bool) (o:Option β):Option β:=bif c then o else none
def opt (o:Option α) (f:α->Option β):Option β:=o.bind f
def jn {K:Type} (k:K) (g:K->Option β):Option β:=g k
def br (c:Bool) (a b:Option β):Option β:=bif c then a else b
@[irreducible] def big:Nat:=18446744073709551616
theorem Z21:big=18446744073709551616:=by unfold big; rfl
theorem Z0qi {x:α} {f:α->Option β} (h : ∀ z,z=x->f z=some r->G):bnd x f=some r->G:=fun e=>h x rfl e
theorem Z0qj {c:Bool} {o:Option β} (h:c=true->o=some r->G):chk c o=some r->G:=by
 intro e; cases c
 ·simp [chk] at e
 ·exact h rfl e
theorem Z0zc {o:Option α} {f:α->Option β} (h : ∀ y,o=some y->f y=some r->G):opt o f=some r->G:=by
 intro e; cases o with
 | none=>simp [opt] at e
 | some y=>exact h y rfl e
theorem jn_i {K:Type} {k:K} {g:K->Option β} (h : ∀ k',k'=k->g k'=some r->G):jn k g=some r->G:=fun e=>h k rfl e
theorem br_t {c:Bool} {a b:Option β} (h:br c a b=some r) (hc:c=true):a=some r:=by subst hc; exact h
theorem br_f {c:Bool} {a b:Option β} (h:br c a b=some r) (hc:c=false):b=some r:=by subst hc; exact h
theorem Z183 {a:β} (h:a=r->G):some a=some r->G:=fun e=>h (Option.some.inj e)
theorem Z0s:(none:Option β)=some r->G:=fun e=>by cases e
end
def inB (z:Int) (n:Nat):Bool:=decide (0<=z)&&decide (z<n)
theorem Z0q {z:Int} {n:Nat} (h:inB z n=true):0<=z/\z<n:=by simpa [inB] using h
theorem Z0g {z:Int} {n:Nat} (h:inB z n=true):z.toNat<n:=by have:=Z0q h; omega
def imp (a b:Bool):Bool := !a||b
theorem Z066 {a b:Bool} (h:imp a b=true) (ha:a=true):b=true:=by subst ha; simpa [imp] using h
def Zqi (lo hi:Int) (n:Nat):Bool:=decide (0<=lo)&&decide (lo<=hi)&&decide (hi<=n)
theorem Ztt {lo hi:Int} {n:Nat} (h:Zqi lo hi n=true):0<=lo/\lo<=hi/\hi<=n:=by simp [Zqi] at h; omega
abbrev Zx (k:IntKind) (p q:Int):Int:=p.fdiv (2^min q.toNat k.bits)
abbrev Zn (k:IntKind) (p q:Int):Int:=k.wrap (p*2^min q.toNat k.bits)
def Zh7 {α:Type} (z:α) (xs:List α) (i:Nat) (v:α):List α:=if i<xs.length then xs.set i v else xs++(replicate (i-xs.length) z ++ [v])
theorem Z3w {α:Type} (z:α) (xs:List α) (i j:Nat) (v:α):(Zh7 z xs i v).getD j z=if j=i then v else xs.getD j z:=by
 unfold Zh7
 by_cases h:i<xs.length
 ·rw [if_pos h]
  by_cases hj:j=i
  ·subst hj; simp [List.getD,h]
  ·simp [List.getD,List.getElem?_set,hj,Ne.symm hj]
 ·rw [if_neg h]
  simp only [List.getD]
  by_cases hj:j<xs.length
  ·rw [List.getElem?_append_left hj,if_neg (by omega)]
  ·rw [List.getElem?_append_right (by omega)]
   by_cases hji:j=i
   ·subst hji; rw [List.getElem?_append_right (by simp)]; simp
   ·rw [if_neg hji,List.getElem?_eq_none (l:=xs) (by omega)]
    by_cases hlt:j<i
    ·rw [List.getElem?_append_left (by simp; omega),List.getElem?_replicate]; split <;> rfl
    ·rw [List.getElem?_eq_none (by simp; omega)]
theorem Zgs {α:Type} {z:α} {xs:List α} {i:Nat} {v:α} (h:i<xs.length):Zh7 z xs i v=xs.set i v:=if_pos h
inductive Zf3 (ms:List Zd):List Zd->List Zd->Prop
 | here {m:List Zd}:Zf3 ms (ms++m) m
 | there {c:Zd} {m m':List Zd}:Zf3 ms m m'->Zf3 ms (c::m) (c::m')
 | app {ns m m':List Zd}:Zf3 ms m m'->Zf3 ms (ns++m) (ns++m')
inductive Z4j (c:Zd):List Zd->List Zd->Prop
 | here {m:List Zd}:Z4j c (c::m) m
 | there {c':Zd} {m m':List Zd}:Z4j c m m'->Z4j c (c'::m) (c'::m')
 | app {ns m m':List Zd}:Z4j c m m'->Z4j c (ns++m) (ns++m')
theorem Z06r (ms ns m:List Zd):List.Perm (ms++(ns++m)) (ns++(ms++m)):=by
 rw [<- List.append_assoc,<- List.append_assoc]
 exact List.Perm.append_right m List.perm_append_comm
theorem Zf3.perm {ms m m':List Zd} (h:Zf3 ms m m'):List.Perm (ms++m') m:=by
 induction h with
 | here=>exact List.Perm.refl _
 | there _ ih=>exact List.perm_middle.trans (ih.cons _)
 | app _ ih=>exact (Z06r _ _ _).trans (List.Perm.append_left _ ih)
theorem Z4j.perm {c:Zd} {m m':List Zd} (h:Z4j c m m'):List.Perm (c::m') m:=by
 induction h with
 | here=>exact List.Perm.refl _
 | there _ ih=>exact (List.Perm.swap _ _ _).trans (ih.cons _)
 | app _ ih=>exact (List.perm_middle.symm).trans (List.Perm.append_left _ ih)
inductive Zvq:List Zd->List Zd->Prop
 | nil {m:List Zd}:Zvq [] m
 | all {ms M m m1:List Zd}:Zf3 ms m m1->Zvq M m1->Zvq (ms++M) m
 | one {c:Zd} {M m m1:List Zd}:Z4j c m m1->Zvq M m1->Zvq (c::M) m
 | no {M m:List Zd}:Zvq M m->Zvq ([]++M) m
theorem Zvq.rest {M m:List Zd} (h:Zvq M m) : ∃ r,List.Perm (M++r) m:=by
 induction h with
 | nil=>exact ⟨_,List.Perm.refl _⟩
 | all h1 _ ih =>
  obtain ⟨r,hr⟩:=ih
  exact ⟨r,by rw [List.append_assoc]; exact (List.Perm.append_left _ hr).trans h1.perm⟩
 | one h1 _ ih =>
  obtain ⟨r,hr⟩:=ih
  exact ⟨r,by rw [List.cons_append]; exact (hr.cons _).trans h1.perm⟩
 | no _ ih=>exact ih
theorem Sat.psub {W0:World} {S:List Nat} {M m:List Zd} {w:World} (h:Sat W0 S m w) (hs:Zvq M m):Sat W0 S M w:=by
 obtain ⟨r,hr⟩:=hs.rest
 exact (h.perm hr).sublist (List.sublist_append_left _ _)
theorem Sat.take {W0:World} {S:List Nat} {ms m m':List Zd} {w:World} (h:Sat W0 S m w) (hs:Zf3 ms m m'):Sat W0 S ms w :=
 (h.perm hs.perm).sublist (List.sublist_append_left _ _)
structure Fit (T:TS) (M:List Zd) (t:TS) (m:List Zd):Prop where
 t:subT T t
 m:Zvq M m
section
variable {C:Cfg} {t:TS} {m:List Zd} {kn:KN} {ke:KE}
theorem Zi {c:IC} {T:TS} {M:List Zd} (hl:Fit T M t m) (h:WC C c T M kn ke):WC C c t m kn ke:=by
 intro hm c0 hok ρ fu Q a w ha hw hc
 exact h hm c0 hok ρ fu Q a w (ha.drop (Z04j hl.t)) (hw.psub hl.m) hc
theorem Zo {a:IC} {G:TS->List Zd->Prop} (h1:WC C a t m G ke) (h2 : ∀ t m,G t m->kn t m):WC C a t m kn ke:=h1.mono h2
theorem Zz {c:IC} (J:Nat->TS->List Zd->Prop) (n0:Nat) (h0:J n0 t m)
  (round : ∀ n t m,J n t m->WC C c t m (fun t' m'=>∃ n',n'<n/\J n' t' m') ke):WC C (.loop c) t m kn ke:=by
 intro hm c0 hok ρ fu Q a w ha hw hc
 cases c0 <;> first | (simp [okC] at hok; done) | skip
 rename_i c1
 simp only [okC] at hok
 refine Z04w (X:=Nat×TS×List Zd) (fun x a w=>J x.1 x.2.1 x.2.2/\Zei C.n x.2.1 a/\Sat C.W0 C.S x.2.2 w) (fun x=>x.1) (x0:=(n0,t,m)) ⟨h0,ha,hw⟩ ?_
 rintro ⟨n,t1,m1⟩ a w ⟨hI,ha,hw⟩
 refine round n t1 m1 hI hm c1 hok ρ fu _ a w ha hw ⟨?_,hc.b,hc.r,hc.p⟩
 rintro t' m' ⟨n',hlt,hJ⟩ a' w' ha' hw'
 exact ⟨(n',t',m'),⟨hJ,ha',hw'⟩,hlt⟩
end
structure El (α:Type) where
 w:Nat
 cell:α->List Value
 len : ∀ a,(cell a).length=w
 one : ∀ a,∀ v∈cell a,one1 v=true
 pos:0<w
 z:α
abbrev El.int (k:IntKind):El Int:=⟨1,fun x=>[.int k x],fun _=>rfl,fun _ v h=>by simp at h; subst h; rfl,by decide,0⟩
def Zbp {α:Type} (E:El α) (xs:List α):Nat->List Value:=fun i=>E.cell (xs.getD i E.z)
theorem Z6f : ∀ v∈cells [],one1 v=true:=fun v h=>by cases h
theorem Z1b {s:Seg} {r:List Seg} (h1 : ∀ v∈s.cells,one1 v=true) (h2 : ∀ v∈cells r,one1 v=true) : ∀ v∈cells (s::r),one1 v=true:=by
 intro v hv
 simp only [cells,List.mem_append] at hv
 exact hv.elim (h1 v) (h2 v)
theorem Z54 {u:Value} (h:one1 u=true) : ∀ v∈(Seg.one u).cells,one1 v=true:=by
 intro v hv; simp only [Seg.cells,List.mem_singleton] at hv; subst hv; exact h
theorem Zb8 {k:IntKind} {n:Nat} {xs:List Int} : ∀ v∈(Seg.ints k n xs).cells,one1 v=true:=by
 intro v hv; simp only [Seg.cells,intsCells,List.mem_map] at hv; obtain ⟨_,_,rfl⟩:=hv; rfl
theorem Zl3 {α:Type} {E:El α} {n:Nat} {xs:List α} : ∀ v∈(Seg.rows E.w n (Zbp E xs)).cells,one1 v=true:=by
 intro v hv
 exact Zyc (w:=E.w) (n:=n) (g:=Zbp E xs) (fun i _=>⟨E.len _,E.one _⟩) v hv
theorem Z063 {α:Type} {E:El α} (x:α):fit E.w (E.cell x)=E.cell x:=Zaq (E.len x)
def Z6r {α:Type} (E:El α) (W:World) (v:Value) (xs:List α):Prop :=
 (v = .slice none 0 0/\xs = [])∨(∃ b o cp,v = .slice (some ⟨b,o,none⟩) xs.length cp/\xs.length<=cp /\ ∀ i,i<xs.length->∀ j,j<E.w->W.cell? ⟨b,o+(i*E.w+j),none⟩=(E.cell (xs.getD i E.z))[j]?) ∨ ∃ a,v = .slice (some a) 0 0/\xs = []
def Zr2 {α:Type} (C:Cfg) (m:List Zd) (E:El α) (v:Value) (xs:List α):Prop:=∀ w,Sat C.W0 C.S m w->Z6r E w v xs
def Z0c {α:Type} (E:El α) (v:Value) (ms:List Zd) (xs:List α):Prop :=
 (v = .slice none 0 0/\xs = []/\ms = []) ∨ ∃ b o cp T cs,v = .slice (some ⟨b,o,none⟩) xs.length cp/\xs.length<=cp/\ms = [⟨b,.cells (cells cs).toArray T (0,0)⟩]/\o+cp*E.w<=width cs /\
  ∀ i,i<xs.length->∀ j,j<E.w->(cells cs)[o+(i*E.w+j)]? = (E.cell (xs.getD i E.z))[j]?
theorem Z3y {α:Type} {E:El α}:Z0c E (.slice none 0 0) [] []:=.inl ⟨rfl,rfl,rfl⟩
theorem Z093 {α:Type} {E:El α} {W:World}:Z6r E W (.slice none 0 0) []:=.inl ⟨rfl,rfl⟩
theorem Z6r.own {α:Type} {E:El α} {v:Value} {ms:List Zd} {xs:List α} (h:Z0c E v ms xs) {W0:World} {S:List Nat} {w:World} (hw:Sat W0 S ms w):Z6r E w v xs:=by
 rcases h with ⟨h1,h2,h3⟩ | ⟨b,o,cp,T,cs,h1,h2,h3,h4,h5⟩
 ·exact .inl ⟨h1,h2⟩
 ·refine .inr (.inl ⟨b,o,cp,h1,h2,fun i hi j hj=>?_⟩)
  subst h3
  rw [Zcj (hw.own _ List.mem_cons_self),h5 i hi j hj]
theorem Z6r.same {α:Type} {E:El α} {W w:World} {v:Value} {xs:List α} (h:Z6r E W v xs) (hb : ∀ b o x,(∀ a n c,v = .slice (some a) n c->a.block=b)->W.cell? ⟨b,o,none⟩=some x->w.cell? ⟨b,o,none⟩=some x):Z6r E w v xs:=by
 rcases h with h | ⟨b,o,cp,h1,h2,h3⟩ | h
 ·exact .inl h
 rotate_left 1
 ·exact .inr (.inr h)
 ·refine .inr (.inl ⟨b,o,cp,h1,h2,fun i hi j hj=>?_⟩)
  have h4:=h3 i hi j hj
  have h5:j<(E.cell (xs.getD i E.z)).length:=by rw [E.len]; exact hj
  rw [List.getElem?_eq_getElem h5] at h4 ⊢
  exact hb b _ _ (fun a n c e=>by rw [h1] at e; injection e with e; injection e with e; rw [<- e]) h4
theorem Zlt {W:World} {b o:Nat} {x:Value} (h:W.cell? ⟨b,o,none⟩=some x):b<W.heap.size:=by
 rcases Nat.lt_or_ge b W.heap.size with h1 | h1
 ·exact h1
 ·have:W.heap[b]? = none:=Array.getElem?_eq_none h1
  simp [World.cell?,this] at h
theorem Z6r.below {α:Type} {E:El α} {W w:World} {v:Value} {xs:List α} (h:Z6r E W v xs) (hb:Below W.heap.size W w):Z6r E w v xs :=
 h.same fun b o x _ hx=>by rw [hb.cell (p:=⟨b,o,none⟩) (Zlt hx)]; exact hx
section
variable {α:Type} {C:Cfg} {m:List Zd} {t:TS} {K:KN} {E:El α} {v:Value} {xs:List α}
def Za8 (v:Value) (xs:List α) (S:List Nat):Prop:=∀ a n c,v = .slice (some a) n c->0<xs.length->a.block∉S
theorem Z1n (h:Z6r E C.W0 v xs) (hS:Za8 v xs C.S):Zr2 C m E v xs:=by
 intro w hw
 rcases h with h | ⟨b',o',cp,h1,h2,h3⟩ | h
 ·exact .inl h
 rotate_left 1
 ·exact .inr (.inr h)
 ·by_cases h0:0<xs.length
  ·refine Z6r.same (.inr (.inl ⟨b',o',cp,h1,h2,h3⟩)) fun b o x hb hx=>?_
   have e:=hb _ _ _ h1
   subst e
   rw [<- hx]
   unfold World.cell?; simp only [hw.fr.block _ (Zlt hx) (hS _ _ _ h1 h0)]
  ·exact .inr (.inl ⟨b',o',cp,h1,h2,fun i hi=>by omega⟩)
theorem Z20:Za8 v xs []:=fun _ _ _ _ _=>by simp
theorem Zcw {W0 w:World} {ms m1:List Zd} {b:Nat} {o:Obj} {T:List Nat} (hO:Z0c E v ms xs) (hT:Zf3 ms m m1) (hb:Has b o m1) (hw:Sat W0 T m w):Za8 v xs [b]:=by
 rcases hO with ⟨h1,h2,h3⟩ | ⟨b1,o1,cp,T1,cs,h1,h2,h3,h4,h5⟩
 ·intro a n c e h0; subst h2; simp at h0
 ·intro a n c e h0
  subst h1
  injection e with e; injection e with e; subst e
  subst h3
  have hd:=(hw.perm hT.perm).dist
  simp only [List.cons_append,List.nil_append,List.map_cons,List.nodup_cons] at hd
  intro hm
  simp only [List.mem_singleton] at hm
  exact hd.1 (hm▸List.mem_map.2 ⟨_,hb.mem,rfl⟩)
theorem Ztl {W0 w:World} {b:Nat} {o:Obj} (h:Z6r E W0 v xs) (hb:Has b o m) (hw:Sat W0 [] m w):Za8 v xs [b]:=by
 intro a n c e h0
 rcases h with ⟨h1,h2⟩ | ⟨b',o',cp,h1,h2,h3⟩ | ⟨_,_,h2⟩
 ·subst h2; simp at h0
 rotate_left 1
 ·subst h2; simp at h0
 ·rw [h1] at e
  injection e with e; injection e with e; subst e
  intro hm
  simp only [List.mem_singleton] at hm
  have h4:=h3 0 h0 0 E.pos
  have h5:0<(E.cell (xs.getD 0 E.z)).length:=by rw [E.len]; exact E.pos
  rw [List.getElem?_eq_getElem h5] at h4
  have:=Zlt h4
  rcases hw.base _ hb.mem with h6 | h6
  ·simp only at h6; omega
  ·simp at h6
theorem Z019 {W0 w:World} {b b' n c:Nat} {o:Obj} {c':Zd} {m1:List Zd} {T:List Nat} {a:Addr} (hT:Z4j c' m m1) (hb:Has b o m1) (hw:Sat W0 T m w) (ha:a.block=c'.b):Za8 (.slice (some a) n c) xs [b]:=by
 intro a' n' c1 e h0
 injection e with e; injection e with e; subst e
 have hd:=(hw.perm hT.perm).dist
 simp only [List.map_cons,List.nodup_cons] at hd
 intro hm
 simp only [List.mem_singleton] at hm
 exact hd.1 (List.mem_map.2 ⟨_,hb.mem,by rw [<- ha,hm]⟩)
theorem Z5m {b o l n w:Nat}:(Z4a b o l n w).block=b:=by unfold Z4a; split <;> rfl
theorem Z0l {ms mr:List Zd} (hO:Z0c E v ms xs) (hT:Zf3 ms m mr):Zr2 C m E v xs:=fun _ hw=>Z6r.own hO (hw.take hT)
theorem Z0cm {ms:List Zd} (hO:Z0c E v ms xs):Zr2 C ms E v xs:=fun _ hw=>Z6r.own hO hw
theorem Z10f {ms mr:List Zd} (h:Zr2 C ms E v xs) (hT:Zf3 ms m mr):Zr2 C m E v xs:=fun w hw=>h w (hw.take hT)
theorem Z0cl:Zr2 C m E (.slice none 0 0) []:=fun _ _=>Z093
theorem iz {k:IntKind} {z e:Int} {op:IOp} (h:z=e) (q:Q1 C m t op (.int k e)):Q1 C m t op (.int k z):=h▸q
def Za6:Value->Addr
 | .slice (some a) _ _=>a
 | _=>⟨0,0,none⟩
theorem Z05m {W:World} {b o1:Nat} {j c n:Nat} {s p:List Seg} (h3 : ∀ k,k<E.w->W.cell? ⟨b,o1+(j*E.w+k),none⟩=(E.cell (xs.getD j E.z))[k]?) (hc:E.cell (xs.getD j E.z)=cells s) (hp:sub s c n=some p) (k:Nat) (hk:k<n) :
  W.cell? ⟨b,o1+j*E.w+c+k,none⟩=(cells p)[k]? := by
 obtain ⟨e1,e2,e3⟩:=Za1 hp
 have hw:width s=E.w:=by rw [<- cells_length,<- hc,E.len]
 have:=h3 (c+k) (by rcases e3 with e3 | e3 <;> omega)
 rw [show o1+j*E.w+c+k=o1+(j*E.w+(c+k)) by omega,this,hc,e1,List.getElem?_take_of_lt hk,List.getElem?_drop]
theorem Z0zg {n:Nat} {x:Operand} {j c:Nat} {s p:List Seg} (hx:ev t x=some (.pointer (some ⟨(Za6 v).block,(Za6 v).off+j*E.w+c,none⟩))) (hs:Zr2 C m E v xs) (hj:j<xs.length) (hc:E.cell (xs.getD j E.z)=cells s) (hp:sub s c n=some p) :
  Q1 C m t (.ld n true x) (agg p):=by
 intro o ho a ha w hw
 obtain ⟨e1,e2,e3⟩:=Za1 hp
 rcases hs w hw with ⟨h1,h2⟩ | ⟨b,o1,cp,h1,h2,h3⟩ | ⟨_,_,h2⟩
 ·subst h2; simp at hj
 rotate_left 1
 ·subst h2; simp at hj
 ·subst h1
  refine Z0t ?_
  rw [Z50 (l:=cells p) ho (ha.ev hx) (by rw [cells_length]; exact e2) (fun k hk=>Z05m (h3 j hj) hc hp k hk) (fun h=>by cases h)]
  rfl
theorem Z036 {n:Nat} {x:Operand} {j:Nat} {s p:List Seg} (hx:ev t x=some (.pointer (some ⟨(Za6 v).block,(Za6 v).off+j*E.w,none⟩))) (hs:Zr2 C m E v xs) (hj:j<xs.length) (hc:E.cell (xs.getD j E.z)=cells s) (hp:sub s 0 n=some p) :
  Q1 C m t (.ld n true x) (agg p):=Z0zg (c:=0) hx hs hj hc hp
theorem Z01k {s:List Seg} {c:Nat} {u:Value} (h:Z93 s c=some u):c<width s:=by
 rw [Zf8] at h
 have:=(List.getElem?_eq_some_iff.1 h).1
 rwa [cells_length] at this
theorem Z0m0 {x:Operand} {j c:Nat} {s:List Seg} {u:Value} (hx:ev t x=some (.pointer (some ⟨(Za6 v).block,(Za6 v).off+j*E.w+c,none⟩))) (hs:Zr2 C m E v xs) (hj:j<xs.length) (hc:E.cell (xs.getD j E.z)=cells s) (hp:Z93 s c=some u) :
  Q1 C m t (.ld 1 false x) u:=by
 intro o ho a ha w hw
 rcases hs w hw with ⟨h1,h2⟩ | ⟨b,o1,cp,h1,h2,h3⟩ | ⟨_,_,h2⟩
 ·subst h2; simp at hj
 rotate_left 1
 ·subst h2; simp at hj
 ·subst h1
  refine Z0t ?_
  have hw:width s=E.w:=by rw [<- cells_length,<- hc,E.len]
  have hlt:=Z01k hp
  rw [Z50 (l:=[u]) ho (ha.ev hx) rfl (fun k hk=>by
   obtain rfl:k=0:=by omega
   have:=h3 j hj c (by omega)
   simp only [Za6,Nat.add_zero,List.getElem?_cons_zero]
   rw [show o1+j*E.w+c=o1+(j*E.w+c) by omega,this,hc,<- Zf8]
   exact hp) (fun _=>rfl)]
  rfl
theorem Z4y {x:Operand} {j:Nat} {s:List Seg} {u:Value} (hx:ev t x=some (.pointer (some ⟨(Za6 v).block,(Za6 v).off+j*E.w,none⟩))) (hs:Zr2 C m E v xs) (hj:j<xs.length) (hc:E.cell (xs.getD j E.z)=cells s) (hp:Z93 s 0=some u) :
  Q1 C m t (.ld 1 false x) u:=Z0m0 (c:=0) hx hs hj hc hp
theorem Z0zh {k:IntKind} {n:Nat} {x:Operand} {ys:List Int} (hx:ev t x=some (.pointer (some ⟨(Za6 v).block,(Za6 v).off,none⟩))) (hs:Zr2 C m (El.int k) v ys) (h0:0<n) (hn:decide (n<=ys.length)=true) :
  Q1 C m t (.ld n true x) (agg [.ints k n (tk ys 0 n)]):=by
 intro o ho a ha w hw
 have hn:=of_decide_eq_true hn
 rcases hs w hw with ⟨h1,h2⟩ | ⟨b,o1,cp,h1,h2,h3⟩ | ⟨_,_,h2⟩
 ·subst h2; simp at hn; omega
 rotate_left 1
 ·subst h2; simp at hn; omega
 ·subst h1
  refine Z0t ?_
  rw [Z50 (l:=cells [.ints k n (tk ys 0 n)]) ho (ha.ev hx) (by rw [cells_length]; rfl) (fun i hi=>?_) (fun h=>by cases h)]
  ·rfl
  ·have:=h3 i (by omega) 0 (El.int k).pos
   simp only [Za6,cells,Seg.cells,List.append_nil]
   simp only [Nat.mul_one,Nat.add_zero] at this
   rw [this,Z2i hi,Zmq,if_pos hi,Nat.zero_add]
   rfl
def Zhi (w:Nat) (v:Value) (lo hi:Nat):Value:=match v with
 | .slice (some ⟨b,o,none⟩) _ cp=>.slice (some (Z4a b o lo cp w)) (hi-lo) (cp-lo)
 | .slice (some a) n c=>.slice (some a) n c
 | _=>.slice none 0 0
theorem Zor {w:Nat} {a:Addr}:Zhi w (.slice (some a) 0 0) 0 0 = .slice (some a) 0 0:=by
 obtain ⟨b,o,sp⟩:=a
 cases sp with
 | none=>simp [Zhi,Z4a]
 | some k=>rfl
theorem Z0m3 {w:Nat} {x:Operand} {lo hi:Option Operand} {lz hz:Int} {a3:Addr} (hx:ev t x=some (.slice (some a3) 0 0)) (hl:Zr0 t 0 lo lz) (hh:Zr0 t (0:Nat) hi hz)
  (hb:lz=0/\hz=0):Q1 C m t (.sls w x lo hi none) (.slice (some a3) 0 0):=by
 obtain ⟨rfl,rfl⟩:=hb
 intro o ho a ha wd hw
 refine Z0t ?_
 simp only [Za4] at ho
 split at ho
 ·rename_i T x' lo' hi' mx' heq
  simp only [Bool.and_eq_true] at ho
  obtain ⟨⟨⟨⟨h1,h2⟩,h3⟩,h4⟩,h5⟩:=ho
  have e1:=Z0m h1; have e2:=Z58 h2; have e3:=Z58 h3; have e4:=Z58 h4
  subst e1; subst e2; subst e3; subst e4
  split at h5
  ·rename_i el hu
   simp only [execOp,heq,ha.ev hx]
   refine Ze5 ?_
   simp only [Instr.sliceAt,Instr.slice,Sem.run_bind,Z01 hu,Result.andThen_ok,Sem.run_pure,Z9x (isS:=true) (cap:=0) (mz:=0) ha hl hh .no (by simp) (by omega) (by omega) (by omega) (by omega),Z3j h5]
   simp
  ·cases h5
 ·cases ho
theorem Z0d1 {z:α} {ys:List α} {lo n i:Nat} (h:i<n) (hn:lo+n<=ys.length):((ys.drop lo).take n).getD i z=ys.getD (lo+i) z:=by
 simp only [List.getD,List.getElem?_take_of_lt h,List.getElem?_drop]
theorem Z03f {lz hz:Int} (hs:Zr2 C m E v xs) (hb:Zqi lz hz xs.length=true):Zr2 C m E (Zhi E.w v lz.toNat hz.toNat) ((xs.drop lz.toNat).take (hz.toNat-lz.toNat)):=by
 intro w hw
 have hb:=Ztt hb
 have hlen:((xs.drop lz.toNat).take (hz.toNat-lz.toNat)).length=hz.toNat-lz.toNat:=by rw [List.length_take,List.length_drop]; omega
 rcases hs w hw with ⟨h1,h2⟩ | ⟨b,o1,cp,h1,h2,h3⟩ | ⟨a3,h1,h2⟩
 ·subst h1; subst h2
  simp only [List.length_nil] at hb
  exact .inl ⟨rfl,by simp⟩
 rotate_left 1
 ·subst h1; subst h2
  simp only [List.length_nil] at hb
  have e1:lz.toNat=0:=by omega
  have e2:hz.toNat=0:=by omega
  rw [e1,e2,Zor]
  exact .inr (.inr ⟨a3,rfl,by simp⟩)
 ·subst h1
  by_cases hc:cp=lz.toNat
  ·refine .inr (.inl ⟨b,o1,cp-lz.toNat,?_,by omega,fun i hi=>?_⟩)
   ·simp only [Zhi,Z4a,hlen,hc,if_true]
   ·omega
  ·refine .inr (.inl ⟨b,o1+lz.toNat*E.w,cp-lz.toNat,?_,by omega,fun i hi j hj=>?_⟩)
   ·simp only [Zhi,Z4a,hlen,hc,if_false]
   ·rw [hlen] at hi
    rw [Z0d1 hi (by omega),<- h3 (lz.toNat+i) (by omega) j hj]
    congr 2
    rw [Nat.add_mul]; omega
theorem Z1u {b T base N lo hi mz:Nat} {fz:Nat×Nat} {s:List Seg} {k:IntKind} {ys:List Int} (hb:Has b (.cells (cells s).toArray T fz) m) (hs:Ze6 s base=some (.ints k N ys)) (h:lo<=hi/\hi<=mz/\mz<=N) :
  Zr2 C m (El.int k) (.slice (some (Z4a b base lo mz 1)) (hi-lo) (mz-lo)) (tk ys lo (hi-lo)):=by
 intro w hw
 by_cases hc:mz=lo
 ·refine .inr (.inl ⟨b,base,mz-lo,?_,by rw [Z0o]; omega,fun i hi=>?_⟩)
  ·simp only [Z4a,hc,if_true,Z0o]
  ·rw [Z0o] at hi; omega
 ·refine .inr (.inl ⟨b,base+lo*1,mz-lo,?_,by rw [Z0o]; omega,fun i hi j hj=>?_⟩)
  ·simp only [Z4a,hc,if_false,Z0o]
  ·rw [Z0o] at hi
   obtain rfl:j=0:=by simp only at hj; omega
   have hseg:=Z7x hs (lo+i) (by simp only [Seg.width]; omega)
   rw [Zmq,if_pos hi]
   have:=hw.own _ hb.mem
   have hcell:w.cell? ⟨b,base+(lo+i),none⟩=(cells s)[base+(lo+i)]? := by
    simp only [World.cell?,this]
    simp
   simp only [Nat.mul_one,Nat.add_zero]
   rw [show base+lo+i=base+(lo+i) by omega,hcell,hseg]
   simp only [Seg.cells]
   rw [Z2i (by omega)]
   rfl
theorem EF.perm {d:Option Nat} {op:IOp} {m':List Zd} (hp:List.Perm m' m) (h:EF C m' t d op K):EF C m t d op K :=
 fun o ho hd a ha w hw=>h o ho hd a ha w (hw.perm hp)
theorem Z7a {x y:Operand} {b off:Nat} {T:TypeId} {s q q':List Seg} {u:Value} {m':List Zd} (e:q'=q) (hx:ev t x=some (.pointer (some ⟨b,off,none⟩))) (hy:ev t y=some u) (hv:one1 u=true) (hq:putC s off u=some q')
  (hup:Upd b (.cells (cells s).toArray T (0,0)) (.cells (cells q).toArray T (0,0)) m m') (h:K t m'):EF C m t none (.st 1 x y) K:=by subst e; exact Zra hx hy hv hq hup h
theorem Z1z {x y:Operand} {b base i len:Nat} {T:TypeId} {s q:List Seg} {k:IntKind} {ys ys':List Int} {z:Int} {m':List Zd} (e:ys'=Z2g ys i z) (hx:ev t x=some (.pointer (some ⟨b,base+i*1,none⟩))) (hy:ev t y=some (.int k z))
  (hs:Ze6 s base=some (.ints k len ys)) (hi:i<len) (hq:Zh6 s base (.ints k len ys')=some q)
  (hup:Upd b (.cells (cells s).toArray T (0,0)) (.cells (cells q).toArray T (0,0)) m m') (h:K t m'):EF C m t none (.st 1 x y) K:=by subst e; exact Z08o hx hy hs hi hq hup h
theorem Z07d (ys:List α) (i:Nat) (y:α):Zbp E (Zh7 E.z ys i y)=updR (Zbp E ys) i (E.cell y):=by
 funext j
 simp only [Zbp,updR,Z3w]
 split <;> rfl
theorem Zow {x y:Operand} {b base i len:Nat} {T:TypeId} {s q:List Seg} {u:Value} {y0:α} {ys ys':List α} {m':List Zd} (e:ys'=Zh7 E.z ys i y0) (hx:ev t x=some (.pointer (some ⟨b,base+i*E.w,none⟩))) (hy:ev t y=some u) (hu:u.cells.toList=E.cell y0)
  (hs:Ze6 s base=some (.rows E.w len (Zbp E ys))) (hi:i<len) (hq:Zh6 s base (.rows E.w len (Zbp E ys'))=some q)
  (hup:Upd b (.cells (cells s).toArray T (0,0)) (.cells (cells q).toArray T (0,0)) m m') (h:K t m'):EF C m t none (.st E.w x y) K:=by
 subst e
 rw [Z07d] at hq
 obtain ⟨e1,e2,e3⟩:=Zip hq
 have hw:=Zdv hs
 simp only [Seg.width] at hw e3
 have hle:i*E.w+E.w<=len*E.w:=by rw [<- Nat.succ_mul]; exact Nat.mul_le_mul_right E.w hi
 have hpl:(E.cell y0).length=E.w:=E.len y0
 have key:cells q=Z1i (cells s) (base+i*E.w) (E.cell y0):=by
  rw [e1]
  simp only [Seg.cells,Zt4 E.w len (Zbp E ys) i (E.cell y0) hi hpl]
  exact Zgt (by rw [Z1g,cells_length]; omega) (by rw [Z1g]; omega) (fun j hj=>Z7x hs j (by rw [Z1g] at hj; exact hj))
 rw [key] at hup
 exact Zr9 hx hy (vs:=E.cell y0) hu hpl hup (by rw [cells_length]; omega) (E.one y0) h
theorem Z2p (l:List Value):cells (l.map Seg.one)=l:=by
 induction l with
 | nil=>rfl
 | cons a r ih=>simp [cells,Seg.cells,ih]
theorem Z9i (l:List Value):width (l.map Seg.one)=l.length:=by rw [<- cells_length,Z2p]
def cellsOf (E:El α) (xs:List α):List Value:=Z1c E.w xs.length (Zbp E xs)
theorem Z1j:(cellsOf E xs).length=xs.length*E.w:=Z1g _ _ _
theorem Z77 {i j:Nat} (hi:i<xs.length) (hj:j<E.w):(cellsOf E xs)[i*E.w+j]? = (E.cell (xs.getD i E.z))[j]? := by
 unfold cellsOf
 rw [Z8o hi hj]
 simp only [Zbp,Z063]
theorem Zw2 : ∀ u∈cellsOf E xs,one1 u=true:=Zyc fun i _=>⟨E.len _,E.one _⟩
theorem Z04e {w:World} (hs:Zr2 C m E v xs) (hw:Sat C.W0 C.S m w):SrcV C m E.w v xs.length (cellsOf E xs):=by
 rcases hs w hw with ⟨h1,h2⟩ | ⟨b,o1,cp,h1,h2,h3⟩ | ⟨a3,h1,h2⟩
 ·subst h1; subst h2; exact Zyz
 rotate_left 1
 ·subst h1; subst h2; exact Zyz
 ·subst h1
  refine Z0p0 Z1j Zw2 fun w' hw' i hi=>?_
  rcases hs w' hw' with ⟨h1',_⟩ | ⟨b',o1',cp',h1',h2',h3'⟩ | ⟨_,_,h2'⟩
  ·cases h1'
  rotate_left 1
  ·subst h2'; simp at hi
  ·injection h1' with h1' _ h1c
   injection h1' with h1'
   injection h1' with hb ho _
   subst hb; subst ho
   have hp:=E.pos
   have hq:i / E.w<xs.length:=Nat.div_lt_of_lt_mul (by rw [Nat.mul_comm]; exact hi)
   have hr:=Nat.mod_lt i hp
   have he:i / E.w*E.w+i%E.w=i:=by have:=Nat.div_add_mod i E.w; rw [Nat.mul_comm] at this; exact this
   have:=h3' (i / E.w) hq (i%E.w) hr
   rw [he] at this
   rw [this,<- Z77 hq hr,he]
theorem Zmu {x y:Operand} {ms mr:List Zd} {i:Nat} {u:Value} {y0:α} {xs':List α} (e:xs'=Zh7 E.z xs i y0) (hO:Z0c E v ms xs) (hT:Zf3 ms m mr) (hx:ev t x=some (.pointer (some ⟨(Za6 v).block,(Za6 v).off+i*E.w,none⟩)))
  (hy:ev t y=some u) (hu:u.cells.toList=E.cell y0) (hi:i<xs.length) (h : ∀ ms',Z0c E v ms' xs'->K t (ms'++mr)):EF C m t none (.st E.w x y) K:=by
 refine EF.perm hT.perm ?_
 rcases hO with ⟨h1,h2,h3⟩ | ⟨b,o,cp,T,cs,h1,h2,h3,h4,h5⟩
 ·subst h2; simp at hi
 ·subst h1; subst h3; subst e
  have hle:i*E.w+E.w<=cp*E.w:=by rw [<- Nat.succ_mul]; exact Nat.mul_le_mul_right _ (by omega)
  have hpl:(E.cell y0).length=E.w:=E.len y0
  have hin:o+i*E.w+E.w<=(cells cs).length:=by rw [cells_length]; omega
  refine Zr9 (l:=cells cs) (vs:=E.cell y0) (T:=T) (m':=[⟨b,.cells (cells ((Z1i (cells cs) (o+i*E.w) (E.cell y0)).map Seg.one)).toArray T (0,0)⟩]++mr) hx hy hu hpl ?_ hin (E.one y0) (h _ (.inr ⟨b,o,cp,T,_,?_,?_,rfl,?_,?_⟩))
  ·rw [Z2p]; exact Upd.here
  ·rw [Zgs hi,List.length_set]
  ·rw [Zgs hi,List.length_set]; exact h2
  ·rw [Z9i,Z1i,List.length_append,List.length_append,List.length_take,List.length_drop,hpl,cells_length]
   have:=cells_length cs; omega
  ·intro i' hi' j hj
   rw [Zgs hi,List.length_set] at hi'
   rw [Z2p,Zji (by rw [hpl]; exact hin),Z3w,hpl]
   by_cases hii:i'=i
   ·subst hii
    rw [if_pos (by omega),if_pos rfl]
    congr 1; omega
   ·rw [if_neg hii,if_neg ?_,h5 i' hi' j hj]
    intro hcon
    rcases Nat.lt_or_ge i' i with hl | hl
    ·have:i'*E.w+E.w<=i*E.w:=by rw [<- Nat.succ_mul]; exact Nat.mul_le_mul_right _ hl
     omega
    ·have:i*E.w+E.w<=i'*E.w:=by rw [<- Nat.succ_mul]; exact Nat.mul_le_mul_right _ (by omega)
     omega
theorem Zku {z:α} {ys:List α} {i:Nat} (h:i<xs.length):(xs++ys).getD i z=xs.getD i z:=by simp [List.getD,List.getElem?_append_left h]
theorem Zkv {z:α} {ys:List α} {i:Nat} (h:xs.length<=i):(xs++ys).getD i z=ys.getD (i-xs.length) z:=by simp [List.getD,List.getElem?_append_right h]
theorem Z3i {d:Nat} {T:TypeId} {bytes:Nat} {z:List Seg} {x y:Operand} {ms mr:List Zd} {u:Value} {ys xs':List α} (e:xs'=xs++ys) (hx:ev t x=some v) (hO:Z0c E v ms xs) (hT:Zf3 ms m mr) (hy:ev t y=some u) (hs:Zr2 C m E u ys)
  (hsz:decide ((xs.length+ys.length)*bytes<=140737488355328)=true) (h : ∀ v' ms',Z0c E v' ms' xs'->K ((d,v')::t) (ms'++mr)):EF C m t (some d) (.app T E.w bytes z x y) K:=by
 subst e
 have hsz:=of_decide_eq_true hsz
 intro o ho hd a ha w hw
 have hS:SrcV C (ms++mr) E.w u ys.length (cellsOf E ys):=Z04e (w:=w) (fun w' hw'=>hs w' (hw'.perm hT.perm.symm)) (hw.perm hT.perm)
 refine EF.perm hT.perm (EF.less (?_:EF C (ms++mr) t (some d) (.app T E.w bytes z x y) _)) o ho hd a ha w hw
 have hzw:width z=E.w:=by
  simp only [Za4] at ho
  split at ho
  ·simp only [Bool.and_eq_true,Nat.beq_eq] at ho
   exact ho.1.2
  ·cases ho
 rcases hO with ⟨h1,h2,h3⟩ | ⟨b,o1,cp,T',cs,h1,h2,h3,h4,h5⟩
 ·subst h1; subst h2; subst h3
  refine Z0am hx hy hS (by simpa using hsz) (fun h0=>?_) (fun h0 b' cp' hb' hc'=>?_)
  ·have hys:ys = []:=List.eq_nil_of_length_eq_zero h0
   subst hys
   exact ⟨_,h _ _ Z3y,List.Sublist.refl _⟩
  ·refine ⟨(cellsOf E ys++(replicate (cp'-ys.length) (cells z)).flatten).map Seg.one,Z2p _,?_⟩
   refine ⟨_,h _ [⟨b',_⟩] (.inr ⟨b',0,cp',T,_,by simp,by simpa using hc',rfl,?_,?_⟩),List.Sublist.refl _⟩
   ·rw [Z9i,List.length_append,Z1j]
    simp only [List.length_flatten,List.map_replicate,List.sum_replicate_nat,cells_length,hzw,Nat.zero_add]
    rw [<- Nat.add_mul]
    exact Nat.mul_le_mul_right _ (by omega)
   ·intro i hi j hj
    simp only [List.nil_append] at hi ⊢
    have:i*E.w+E.w<=ys.length*E.w:=by rw [<- Nat.succ_mul]; exact Nat.mul_le_mul_right _ hi
    rw [Z2p,Nat.zero_add,List.getElem?_append_left (by rw [Z1j]; omega),Z77 hi hj]
 ·subst h1; subst h3
  refine Z0e4 hx Has.here hy hS h4 h2 hsz (fun hr=>?_) (fun hg b' cp' hb' hc'=>?_)
  ·have hle:(xs.length+ys.length)*E.w<=cp*E.w:=Nat.mul_le_mul_right _ hr
   rw [Nat.add_mul] at hle
   have hin:o1+xs.length*E.w+(cellsOf E ys).length<=(cells cs).length:=by rw [Z1j,cells_length]; omega
   refine ⟨(Z1i (cells cs) (o1+xs.length*E.w) (cellsOf E ys)).map Seg.one,[⟨b,.cells (cells ((Z1i (cells cs) (o1+xs.length*E.w) (cellsOf E ys)).map Seg.one)).toArray T' (0,0)⟩]++mr,Z2p _,Upd.here,?_⟩
   refine ⟨_,h _ _ (.inr ⟨b,o1,cp,T',_,by simp,by simpa using hr,rfl,?_,?_⟩),List.Sublist.refl _⟩
   ·rw [Z9i,Z1i,List.length_append,List.length_append,List.length_take,List.length_drop]
    rw [cells_length] at hin ⊢; omega
   ·intro i hi j hj
    rw [Z2p,Zji hin,Z1j]
    rw [List.length_append] at hi
    by_cases hil:i<xs.length
    ·have:i*E.w+E.w<=xs.length*E.w:=by rw [<- Nat.succ_mul]; exact Nat.mul_le_mul_right _ hil
     rw [if_neg (by omega),Zku hil,h5 i hil j hj]
    ·have e1:i*E.w=xs.length*E.w+(i-xs.length)*E.w:=by rw [<- Nat.add_mul]; congr 1; omega
     have:(i-xs.length)*E.w+E.w<=ys.length*E.w:=by rw [<- Nat.succ_mul]; exact Nat.mul_le_mul_right _ (by omega)
     rw [if_pos (by omega),Zkv (by omega),show o1+(i*E.w+j)-(o1+xs.length*E.w)=(i-xs.length)*E.w+j by omega,Z77 (by omega) hj]
  ·have hle:xs.length*E.w<=cp*E.w:=Nat.mul_le_mul_right _ h2
   have hl1:(((cells cs).drop o1).take (xs.length*E.w)).length=xs.length*E.w:=by rw [List.length_take,List.length_drop,cells_length]; omega
   refine ⟨(((cells cs).drop o1).take (xs.length*E.w)++cellsOf E ys++(replicate (cp'-(xs.length+ys.length)) (cells z)).flatten).map Seg.one,Z2p _,?_⟩
   refine ⟨_,h _ [⟨b',_⟩] (.inr ⟨b',0,cp',T,_,by simp,by simpa using hc',rfl,?_,?_⟩),List.Sublist.cons₂ _ (List.sublist_cons_self _ _)⟩
   ·rw [Z9i,List.length_append,List.length_append,hl1,Z1j]
    simp only [List.length_flatten,List.map_replicate,List.sum_replicate_nat,cells_length,hzw,Nat.zero_add]
    rw [<- Nat.add_mul,<- Nat.add_mul]
    exact Nat.mul_le_mul_right _ (by omega)
   ·intro i hi j hj
    rw [List.length_append] at hi
    rw [Z2p,Nat.zero_add]
    by_cases hil:i<xs.length
    ·have:i*E.w+E.w<=xs.length*E.w:=by rw [<- Nat.succ_mul]; exact Nat.mul_le_mul_right _ hil
     rw [List.append_assoc,List.getElem?_append_left (by rw [hl1]; omega),List.getElem?_take_of_lt (by omega),List.getElem?_drop,h5 i hil j hj,Zku hil]
    ·have e1:i*E.w=xs.length*E.w+(i-xs.length)*E.w:=by rw [<- Nat.add_mul]; congr 1; omega
     have:(i-xs.length)*E.w+E.w<=ys.length*E.w:=by rw [<- Nat.succ_mul]; exact Nat.mul_le_mul_right _ (by omega)
     rw [List.append_assoc,List.getElem?_append_right (by rw [hl1]; omega),hl1,List.getElem?_append_left (by rw [Z1j]; omega),Zkv (by omega),show i*E.w+j-xs.length*E.w=(i-xs.length)*E.w+j by omega,Z77 (by omega) hj]
def mkB (bytes:Nat) (L N:Int):Bool:=decide (0<=L)&&decide (L<=N)&&decide ((bytes:Int)*N<=281474976710656)&&decide (N<=9223372036854775807)
theorem Zk6 {d:Nat} {T:TypeId} {bytes:Nat} {z:List Seg} {l c:Operand} {kl kc:IntKind} {L N:Int} (hz:cells z=E.cell E.z)
  (hl:ev t l=some (.int kl L)) (hc:ev t c=some (.int kc N)) (hB:mkB bytes L N=true)
  (h : ∀ v ms,Z0c E v ms (replicate L.toNat E.z)->K ((d,v)::t) (ms++m)):EF C m t (some d) (.mks T bytes z l c) K:=by
 simp only [mkB,Bool.and_eq_true,decide_eq_true_eq] at hB
 obtain ⟨⟨⟨h0,h1⟩,h2⟩,h3⟩:=hB
 refine Z0e7 hl hc h0 h1 h2 h3 fun b hb=>?_
 refine ⟨(replicate N.toNat (cells z)).flatten.map Seg.one,Z2p _,?_⟩
 have hw:(cells z).length=E.w:=by rw [hz,E.len]
 refine h _ [⟨b,_⟩] (.inr ⟨b,0,N.toNat,T,_,by simp,by simp; omega,rfl,?_,?_⟩)
 ·rw [Z9i]
  simp only [List.length_flatten,List.map_replicate,List.sum_replicate_nat,hw,Nat.zero_add]
  exact Nat.le_refl _
 ·intro i hi j hj
  rw [List.length_replicate] at hi
  have e:(replicate N.toNat (cells z)).flatten=Z1c E.w N.toNat (fun _=>cells z):=(Zrr hw).symm
  rw [Z2p,Nat.zero_add,e,Z8o (by omega) hj,<- hw,Zaq rfl,hz]
  simp [List.getD,List.getElem?_replicate,hi]
inductive Bs (E:El α):List α->List Seg->Prop
 | nil:Bs E [] []
 | cons {x:α} {ys:List α} {p q:List Seg}:cells p=E.cell x->Bs E ys q->Bs E (x::ys) (p++q)
theorem Bs.get {q:List Seg} (h:Bs E xs q):width q=xs.length*E.w /\ ∀ i,i<xs.length->∀ j,j<E.w->(cells q)[i*E.w+j]? = (E.cell (xs.getD i E.z))[j]? := by
 induction h with
 | nil=>exact ⟨by simp [width],fun i hi=>by simp at hi⟩
 | @cons x ys p q hc _ ih =>
  have hp:width p=E.w:=by rw [<- cells_length,hc,E.len]
  refine ⟨by rw [Znf,ih.1,hp,List.length_cons,Nat.succ_mul]; omega,fun i hi j hj=>?_⟩
  rw [Zhf]
  cases i with
  | zero =>
   rw [List.getElem?_append_left (by rw [cells_length,hp]; omega),hc]
   simp
  | succ i =>
   rw [List.length_cons] at hi
   rw [List.getElem?_append_right (by rw [cells_length,hp,Nat.succ_mul]; omega),cells_length,hp,show (i+1)*E.w+j-E.w=i*E.w+j by rw [Nat.succ_mul]; omega,ih.2 i (by omega) j hj]
   simp
theorem Z5q {d:Nat} {T:TypeId} {len:Nat} {z q:List Seg} {parts:List (Nat×Nat×Operand)} (hb:BdR t z parts q) (hB:Bs E xs q) (hl:xs.length=len)
  (h : ∀ v ms,Z0c E v ms xs->K ((d,v)::t) (ms++m)):EF C m t (some d) (.bs T len E.w z parts) K:=by
 subst hl
 refine Z0qp hb fun b hb'=>?_
 obtain ⟨h1,h2⟩:=hB.get
 refine h _ [⟨b,_⟩] (.inr ⟨b,0,xs.length,T,q,rfl,Nat.le_refl _,rfl,by rw [h1]; omega,fun i hi j hj=>?_⟩)
 rw [Nat.zero_add]; exact h2 i hi j hj
theorem Zw1 {k:IntKind} {ys:List Int}:cellsOf (El.int k) ys=ys.map (.int k):=by
 apply List.ext_getElem?
 intro i
 by_cases hi:i<ys.length
 ·have:=Z77 (E:=El.int k) (xs:=ys) (i:=i) (j:=0) hi (El.int k).pos
  simp only [Nat.mul_one,Nat.add_zero] at this
  rw [this]
  simp [List.getD,List.getElem?_eq_getElem hi]
 ·rw [List.getElem?_eq_none (by rw [Z1j]; simp only [Nat.mul_one]; omega),List.getElem?_eq_none (by rw [List.length_map]; omega)]
theorem Zlw {d:Option Nat} {x y:Operand} {b T base lo hi mz N:Nat} {s q:List Seg} {k:IntKind} {zs zs' ys:List Int} {u:Value} {m':List Zd} (e:zs'=wr zs lo (ys.take (hi-lo)))
  (hx:ev t x=some (.slice (some (Z4a b base lo mz 1)) (hi-lo) (mz-lo))) (hy:ev t y=some u) (hu:Zr2 C m (El.int k) u ys) (hs:Ze6 s base=some (.ints k N zs)) (hb:lo<=hi/\hi<=mz/\mz<=N)
  (hq:Zh6 s base (.ints k N zs')=some q) (hup:Upd b (.cells (cells s).toArray T (0,0)) (.cells (cells q).toArray T (0,0)) m m')
  (h:K (putT d (.int .i64 (Nat.min ys.length (hi-lo):Nat)) t) m'):EF C m t d (.cpy 1 x y) K:=by
 subst e
 intro o ho hd a ha w hw
 have hS:=Z04e hu hw
 rw [Zw1] at hS
 obtain ⟨e1,e2,e3⟩:=Zip hq
 have hsw:=Zdv hs
 simp only [Seg.width] at hsw e3
 have hseg : ∀ j,j<(intsCells k N zs).length->(cells s)[base+j]? = (intsCells k N zs)[j]? := fun j hj=>Z7x hs j (by rw [Z1d] at hj; exact hj)
 have hlen:(ys.take (hi-lo)).length=Nat.min ys.length (hi-lo):=by rw [List.length_take]; exact Nat.min_comm _ _
 have hmin:Nat.min ys.length (hi-lo)<=hi-lo:=Nat.min_le_right _ _
 have key:cells q=Z1i (cells s) (base+lo) ((ys.take (hi-lo)).map (.int k)):=by
  rw [e1]
  have hwr:intsCells k N (wr zs lo (ys.take (hi-lo)))=Z1i (intsCells k N zs) lo ((ys.take (hi-lo)).map (.int k)):=by
   have:=Z08f (k:=k) (N:=N) (i:=lo) (xs:=zs) (ys:=ys.take (hi-lo)) (by rw [hlen]; omega)
   simpa [cells,Seg.cells] using this
  simp only [Seg.cells,hwr]
  exact Zgt (by rw [Z1d,cells_length]; omega) (by rw [Z1d,List.length_map,hlen]; omega) hseg
 have hke : ∀ d':Option Nat,K (putT d' (.int .i64 (Nat.min ys.length (hi-lo):Nat)) t) m'->K (match d' with | some d=>(d,.int .i64 (Nat.min ys.length (hi-lo):Nat))::t | none=>t) m':=by
  intro d' hk; cases d' <;> exact hk
 by_cases hc:mz=lo
 ·have h0:hi=lo:=by omega
  refine Z08n (w:=1) (dl:=hi-lo) (dc:=mz-lo) (b:=b) (off:=base) (T:=T) (segs:=s) (segs':=q) (m':=m') (by rw [hx]; simp only [Z4a,hc,if_true]) hy hS (by rw [h0]; omega) ?_ hup (hke d h) o ho hd a ha w hw
  rw [key,h0]
  simp [Z1i]
 ·refine Z08n (w:=1) (dl:=hi-lo) (dc:=mz-lo) (b:=b) (off:=base+lo) (T:=T) (segs:=s) (segs':=q) (m':=m') (by rw [hx]; simp only [Z4a,hc,if_false,Nat.mul_one]) hy hS (by omega) ?_ hup (hke d h) o ho hd a ha w hw
  rw [key]
  congr 1
  rw [<- List.map_take,Nat.mul_one]
  congr 1
  apply List.ext_getElem?
  intro i
  simp only [List.getElem?_take]
  by_cases h1:i<ys.length
  ·by_cases h2:i<hi-lo
   ·rw [if_pos h2,if_pos (Nat.lt_min.2 ⟨h1,h2⟩)]
   ·rw [if_neg h2,if_neg (fun h3=>h2 (Nat.lt_min.1 h3).2)]
  ·rw [List.getElem?_eq_none (l:=ys) (by omega)]
   split <;> split <;> rfl
theorem az {τ:Type} (f:τ->Value) {z e:τ} {op:IOp} (h:z=e) (q:Q1 C m t op (f e)):Q1 C m t op (f z):=h▸q
theorem Z0on {W:World} {lz hz:Int} (h:Z6r E W v xs) (hb:Zqi lz hz xs.length=true):Z6r E W (Zhi E.w v lz.toNat hz.toNat) ((xs.drop lz.toNat).take (hz.toNat-lz.toNat)) :=
 Z03f (C:=⟨default,0,W,[]⟩) (m:=[]) (fun w hw=>h.below hw.now) hb W (Zbz W)
theorem Z01a {S:List Nat} {w lo hi n:Nat} (h:Za8 v xs S):Za8 (Zhi w v lo hi) ((xs.drop lo).take n) S:=by
 intro a k c e h0
 have hx:0<xs.length:=by
  rw [List.length_take,List.length_drop] at h0
  omega
 unfold Zhi at e
 split at e
 ·injection e with e; injection e with e; subst e
  rw [Z5m]
  exact h _ _ _ rfl hx
 ·injection e with e; injection e with e; subst e
  exact h _ _ _ rfl hx
 ·cases e
theorem Z094 {W:World} {S:List Nat} {lz hz:Int} (h:Z6r E W v xs/\Za8 v xs S) (hb:Zqi lz hz xs.length=true) :
  Z6r E W (Zhi E.w v lz.toNat hz.toNat) ((xs.drop lz.toNat).take (hz.toNat-lz.toNat))/\Za8 (Zhi E.w v lz.toNat hz.toNat) ((xs.drop lz.toNat).take (hz.toNat-lz.toNat)) S :=
 ⟨Z0on h.1 hb,Z01a h.2⟩
theorem cpy0 {zs' zs ys:List Int} {n:Nat} (e:zs'=wr zs 0 (ys.take n)):zs'=wr zs 0 (ys.take (n-0)):=e
theorem cut4 {lo hi:Int} {n:Nat} (h:Zqi lo hi n=true):0<=lo/\lo<=hi/\hi<=(n:Int)/\(n:Int)<=(n:Int):=by have:=Ztt h; omega
theorem cutn {lo hi:Int} {n:Nat} (h:Zqi lo hi n=true):lo.toNat<=hi.toNat/\hi.toNat<=n/\n<=n:=by have:=Ztt h; omega
theorem getD_some {τ:Type} {o:Option τ} {z:τ} (h:o.isSome=true):o=some (o.getD z):=by cases o <;> simp_all
theorem Zhj {n:Nat} {x y:Operand} {b off:Nat} {T:TypeId} {s p q:List Seg} {m':List Zd} (hx:ev t x=some (.pointer (some ⟨b,off,none⟩))) (hy:ev t y=some (agg p)) (hn:width p=n) (hq:putL s off p=some q) (hsc : ∀ v∈cells p,one1 v=true)
  (hup:Upd b (.cells (cells s).toArray T (0,0)) (.cells (cells q).toArray T (0,0)) m m') (h:K t m'):EF C m t none (.st n x y) K:=by
 obtain ⟨e1,e2,e3⟩:=Zj8 hq
 rw [e1] at hup
 exact Zr9 hx hy (vs:=cells p) (by simp [agg,Value.cells]) (by rw [cells_length]; exact hn) hup (by rw [cells_length]; omega) hsc h
theorem Zrn {n:Nat} {x:Operand} {b base i w len:Nat} {T:TypeId} {fz:Nat×Nat} {s q p:List Seg} {g:Nat->List Value} (hx:ev t x=some (.pointer (some ⟨b,base+i*w,none⟩))) (hb:Has b (.cells (cells s).toArray T fz) m)
  (hs:Ze6 s base=some (.rows w len g)) (hi:i<len) (hq:g i=cells q) (hw:width q=w) (hp:sub q 0 n=some p):Q1 C m t (.ld n true x) (agg p):=Z0c5 (c:=0) hx hb hs hi hq hw hp
theorem Zub {b T base N lo hi mz:Nat} {s:List Seg} {k:IntKind} {ys:List Int} (hs:Ze6 s base=some (.ints k N ys)) (h:lo<=hi/\hi<=mz/\mz<=N) :
  Z0c (El.int k) (.slice (some (Z4a b base lo mz 1)) (hi-lo) (mz-lo)) [ck b T s] (tk ys lo (hi-lo)):=by
 have hw:=Zdv hs
 simp only [Seg.width] at hw
 have key : ∀ i,i<hi-lo->(cells s)[base+(lo+i)]? = some (.int k (ys.getD (lo+i) 0)):=by
  intro i hi'
  have:=Z7x hs (lo+i) (by simp only [Seg.width]; omega)
  rw [this]
  simp only [Seg.cells]
  rw [Z2i (by omega)]
 by_cases hc:mz=lo
 ·refine .inr ⟨b,base,mz-lo,T,s,?_,by rw [Z0o]; omega,rfl,by simp only [Nat.mul_one]; omega,fun i hi'=>?_⟩
  ·simp only [Z4a,hc,if_true,Z0o]
  ·rw [Z0o] at hi'; omega
 ·refine .inr ⟨b,base+lo*1,mz-lo,T,s,?_,by rw [Z0o]; omega,rfl,by simp only [Nat.mul_one]; omega,fun i hi' j hj=>?_⟩
  ·simp only [Z4a,hc,if_false,Z0o]
  ·rw [Z0o] at hi'
   obtain rfl:j=0:=by have:j<1:=hj; omega
   rw [Zmq,if_pos hi']
   simp only [Nat.mul_one,Nat.add_zero]
   rw [show base+lo+i=base+(lo+i) by omega,key i hi']
   rfl
theorem Z1o {c1 c2:Bool} {s s':Seg} {r r':List Seg} (hw:s.width=s'.width) (h1:c1=true↔s.cells=s'.cells) (h2:c2=true↔cells r=cells r'):(c1&&c2)=true↔cells (s::r)=cells (s'::r'):=by
 rw [Bool.and_eq_true,h1,h2]
 simp only [cells]
 constructor
 ·rintro ⟨h,h'⟩; rw [h,h']
 ·intro h
  exact List.append_inj h (by rw [Seg.cells_length,Seg.cells_length,hw])
theorem Zny {c:Bool} {s s':Seg} (h:c=true↔s.cells=s'.cells):c=true↔cells [s]=cells [s']:=by
 rw [h]; simp [cells]
theorem Z6z {k:IntKind} {a b:Int}:(a==b)=true↔(Seg.one (.int k a)).cells=(Seg.one (.int k b)).cells:=by simp [Seg.cells]
theorem Z5b {k:IntKind} {n:Nat} {a b:List Int}:ieq n a b=true↔(Seg.ints k n a).cells=(Seg.ints k n b).cells:=by
 have:=Z01z (k:=k) (n:=n) (a:=a) (b:=b)
 simpa [cells] using this
end
theorem Sup.app {m0 m ms:List Zd} (h:Sup m0 m):Sup m0 (ms++m):=fun _ h'=>List.mem_append_right _ (h _ h')
theorem Zga {α:Type} {E:El α} {n:Nat} {zc:List Value} {r r':List Seg} (hz:zc=E.cell E.z) (h:cells r=cells r'):cells (.rows E.w n (fun _=>zc)::r)=cells (.rows E.w n (Zbp E (replicate n E.z))::r'):=by
 simp only [cells,h,Seg.cells]
 congr 1
 apply Zrq
 intro i hi
 subst hz
 simp [Zbp,List.getD,List.getElem?_replicate,hi]
inductive Pc where
 | one (c:Zd)
 | all (l:List Zd)
def appL:List Pc->List Zd->List Zd
 | [],m=>m
 | .one c::r,m=>c::appL r m
 | .all a::r,m=>a++appL r m
theorem Zol : ∀ (l:List Pc) (m:List Zd),appL l []++m=appL l m
 | [],m=>rfl
 | .one c::r,m=>by simp only [appL,List.cons_append,Zol r m]
 | .all a::r,m=>by simp only [appL,List.append_assoc,Zol r m]
def Z67 (W0:World) (S:List Nat) (R:Value->List Pc->Prop):Ending->World->Prop:=retM W0 S fun v M=>∃ Ms,M=appL Ms []/\R v Ms
section
variable {C:Cfg} {m:List Zd} {t:TS} {K:KN}
theorem Z0j {d:Option Nat} {f:FuncId} {args:List Operand} {vs:List Value} {mS mr:List Zd} {R:Value->List Pc->Prop} (ha:evL t args=some vs) (hp:List.Perm (mS++mr) m)
  (hc : ∀ w,Sat C.W0 C.S m w->Calls C.P f vs.toArray w (Z67 w (mS.map (·.b)) R))
  (h : ∀ v Ms,R v Ms->K (putT d v t) (appL Ms mr)):EF C m t d (.call f args) K :=
 Zxt ha hp hc fun v m' ⟨Ms,e,hR⟩=>by subst e; rw [Zol]; exact h v Ms hR
theorem Zg {d:Option Nat} {f:FuncId} {args:List Operand} {vs:List Value} {R:Value->List Pc->Prop} (ha:evL t args=some vs)
  (hc : ∀ w,Sat C.W0 C.S m w->Calls C.P f vs.toArray w (Z67 w [] R))
  (h : ∀ v Ms,R v Ms->K (putT d v t) (appL Ms m)):EF C m t d (.call f args) K :=
 Z05z ha hc fun v m' ⟨Ms,e,hR⟩=>by subst e; rw [Zol]; exact h v Ms hR
end
def retT (rs:List RV) (R:Value->List Zd->Prop):KN:=fun t m=>∃ l M,Zqg t m rs l/\Zvq M m/\R (tupV l) M
theorem Zj {P:Program} {f:FuncId} {d:FnD} {args:List Value} {W0:World} {S:List Nat} {m0:List Zd} {R:Value->List Zd->Prop}
  (hm:P.follows .mixedOrders=true) (hok:okF P f d=true) (hlen:Nat.ble args.length d.n=true) (h0:Sat W0 S m0 W0)
  (h:WC ⟨P,d.n,W0,S⟩ d.c (Ztn 0 args) m0 (retT d.rs R) ⟨[],retT d.rs R,noP⟩):Calls P f args.toArray W0 (retM W0 S R):=by
 refine Zxn hm hok hlen h0 ?_
 have hsub : ∀ t m,retT d.rs R t m->retK W0 S d.rs (retM W0 S R) t m:=by
  rintro t m ⟨l,M,h1,h2,h3⟩
  exact ⟨l,h1,fun w hw=>⟨_,_,rfl,h3,hw.psub h2⟩⟩
 intro hm c0 hok ρ fu Q a w ha hw hc
 exact h hm c0 hok ρ fu Q a w ha hw ⟨fun t m hk=>hc.n t m (hsub t m hk),fun id k hk=>by simp [Zwf] at hk,fun t m hk=>hc.r t m (hsub t m hk),fun _ _ _ h=>h.elim⟩
section
variable {C:Cfg} {m:List Zd} {t:TS} {K:KN}
theorem Zya {P:Program} {o:Oper} {T:TypeId} {w bytes:Nat} {z:List Seg} {x y:Operand} (h:Za4 P o (.apz T w bytes z x y)=true) :
  ∃ c t tx k,o.op = .call c/\c.callee = .builtin .append/\c.args = #[x,y]/\c.argTypes[0]? = some t/\c.argTypes[1]? = some tx/\P.underlying t=some (.slice T) /\
   P.underlying tx=some (.int k)/\(∃ i zv,P.info? T=some i/\i.size=w/\i.bytes=bytes/\0<bytes/\i.zero=some zv/\zv.cells=(cells z).toArray)/\width z=w/\0<w:=by
 simp only [Za4] at h
 split at h
 ·rename_i c heq
  simp only [Bool.and_eq_true] at h
  obtain ⟨⟨⟨⟨⟨⟨⟨h1,h2⟩,h3⟩,h4⟩,h5⟩,h6⟩,h7⟩,h8⟩:=h
  have hargs:=Z81 h2
  have hc:c.callee = .builtin .append:=by
   revert h1; split <;> simp_all
  cases e0:c.argTypes[0]? with
  | none=>rw [e0] at h3; simp at h3
  | some t0 =>
   cases e1:c.argTypes[1]? with
   | none=>rw [e1] at h4; simp at h4
   | some t1 =>
    rw [e0] at h3; rw [e1] at h4
    simp only [Option.bind_some] at h3 h4
    cases u0:P.underlying t0 with
    | none=>rw [u0] at h3; simp at h3
    | some d0 =>
     cases u1:P.underlying t1 with
     | none=>rw [u1] at h4; simp at h4
     | some d1 =>
      rw [u0] at h3; rw [u1] at h4
      cases d0 <;> simp at h3
      cases d1 <;> simp at h4
      rw [h3] at u0
      rename_i k
      obtain ⟨i,hi,hs,hb,hp⟩:=Zk9 h5
      cases hz:zOf P T with
      | none=>rw [hz] at h6; simp at h6
      | some q =>
       rw [hz] at h6
       have:=Zap h6
       subst this
       obtain ⟨zv,hz1,hz2⟩:=Zob hi hz
       exact ⟨c,t0,t1,k,heq,hc,by rw [<- Array.toArray_toList (xs:=c.args),hargs],e0,e1,u0,u1,⟨i,zv,hi,hs,hb,hp,hz1,hz2⟩,by simpa [Nat.beq_eq] using h7,by simpa [Nat.blt_eq] using h8⟩
 ·cases h
theorem Zvc {P:Program} {w w':World} {t tx ty e:TypeId} {i:TypeInfo} {z:Value} {b off n0 cp n:Nat} {k kt:IntKind} {N:Int} {cs:List Value} (ht:P.underlying t=some (.slice e)) (hk:P.underlying tx=some (.int kt)) (hi:P.info? e=some i) (hz:i.zero=some z)
  (hN:0<=N) (hn:n=N.toNat) (hb:n*i.bytes<=281474976710656/\n<=9223372036854775807) (hroom:n0+n<=cp) (hnews:(Builtin.zeroCells z.cells n).toList=cs) (hnl:cs.length=n*i.size)
  (hst:(storeCells ⟨b,off+n0*i.size,none⟩ cs 0).run P w = .ok () w') :
  (Builtin.append_ #[t,tx] ty #[.slice (some ⟨b,off,none⟩) n0 cp,.int k N]).run P w = .ok (.slice (some ⟨b,off,none⟩) (n0+n) cp) w':=by
 obtain rfl:N=((n:Nat):Int):=by omega
 have hw:IntKind.i64.wrap (n:Int)=n:=by rw [IntKind.wrap_i64]; omega
 have h1 : ¬ ((n:Int)<0):=by omega
 have h2 : ¬ (281474976710656<(n:Int)*(i.bytes:Int)):=by rw [<- Int.natCast_mul]; omega
 by_cases h0:n*i.size=0
 ·have:cs = []:=List.eq_nil_of_length_eq_zero (by rw [hnl,h0])
  subst this
  have hst':w'=w:=by simpa [storeCells] using hst.symm
  subst hst'
  simp [Builtin.append_,Z01 ht,Z01 hk,sizeOf,typeInfo,hi,asInt,asIntOf,hw,h1,h2,h0,hroom,storeCells]
 ·simp [Builtin.append_,Z01 ht,Z01 hk,sizeOf,typeInfo,zeroValue,hz,hi,asInt,asIntOf,hw,h1,h2,h0,hroom,Addr.add_lit,hnews,hst]
theorem Zna {P:Program} {w:World} {t tx ty e:TypeId} {i:TypeInfo} {z:Value} {n:Nat} {k kt:IntKind} {N:Int} (ht:P.underlying t=some (.slice e)) (hk:P.underlying tx=some (.int kt)) (hi:P.info? e=some i) (hz:i.zero=some z)
  (hN:0<=N) (hn:n=N.toNat) (hb:n*i.bytes<=281474976710656/\n<=9223372036854775807) (base:Option Addr) (sLen sCap:Nat) (olds:List Value)
  (hold:(Builtin.firstCells i.size sLen (.slice base sLen sCap)).run P w.drew = .ok olds.toArray w.drew) (news:List Value) (hnews:(Builtin.zeroCells z.cells n).toList=news) (h0 : ¬ (n*i.size=0))
  (hg:sCap<sLen+n) (h63:((sLen+n:Nat):Int)<=9223372036854775807) (hfit:Builtin.nextslicecap (sLen+n) sCap*i.bytes<=281474976710656) :
  (Builtin.append_ #[t,tx] ty #[.slice base sLen sCap,.int k N]).run P w =
   .ok (.slice (some ⟨w.heap.size,0,none⟩) (sLen+n) (grownCap w (sLen+n) sCap e))
    (w.drew.alloc (.cells ((olds++news).toArray++Builtin.zeroCells z.cells (grownCap w (sLen+n) sCap e-(sLen+n))) e)):=by
 obtain rfl:N=((n:Nat):Int):=by omega
 have hw:IntKind.i64.wrap (n:Int)=n:=by rw [IntKind.wrap_i64]; omega
 have h1 : ¬ ((n:Int)<0):=by omega
 have h2 : ¬ (281474976710656<(n:Int)*(i.bytes:Int)):=by rw [<- Int.natCast_mul]; omega
 have hn' : ¬ (sLen+n<=sCap):=by omega
 have h63' : ¬ (9223372036854775807<((sLen:Int)+(n:Int))):=by omega
 have h48' : ¬ (281474976710656<Builtin.nextslicecap (sLen+n) sCap*i.bytes):=by omega
 have e:Builtin.zeroCells z.cells n=news.toArray:=by rw [<- hnews]
 simp [Builtin.append_,Z01 ht,Z01 hk,sizeOf,typeInfo,zeroValue,hz,hi,asInt,asIntOf,hw,h1,h2,h0,hn',h63',h48',Question.forced,hold,newRow,grownCap,e]
 congr 2
 apply Array.ext'
 simp [List.append_assoc]
theorem Z0e5 {d:Nat} {T T':TypeId} {w bytes:Nat} {z:List Seg} {x y:Operand} {b off n0 cp n:Nat} {ky:IntKind} {N:Int} {cs:List Value} {segs:List Seg}
  (hx:ev t x=some (.slice (some ⟨b,off,none⟩) n0 cp)) (hb:Has b (.cells (cells segs).toArray T' (0,0)) m) (hy:ev t y=some (.int ky N)) (hN:0<=N) (hn:n=N.toNat) (hcs:cs=(replicate n (cells z)).flatten) (hone : ∀ u∈cells z,one1 u=true)
  (hfit:off+cp*w<=width segs) (hn0:n0<=cp) (hsz:(n0+n)*bytes<=140737488355328)
  (room:n0+n<=cp->∃ segs' m',cells segs'=Z1i (cells segs) (off+n0*w) cs/\Upd b (.cells (cells segs).toArray T' (0,0)) (.cells (cells segs').toArray T' (0,0)) m m'/\K ((d,.slice (some ⟨b,off,none⟩) (n0+n) cp)::t) m')
  (grow:cp<n0+n->∀ b' cp',C.W0.heap.size<=b'->n0+n<=cp'->∃ segs',cells segs'=((cells segs).drop off).take (n0*w)++cs++(replicate (cp'-(n0+n)) (cells z)).flatten/\K ((d,.slice (some ⟨b',0,none⟩) (n0+n) cp')::t) (ck b' T segs'::m)) :
  EF C m t (some d) (.apz T w bytes z x y) K:=by
 intro o ho hd a ha wd hw
 obtain ⟨hd1,hd2⟩:=Z5f hd
 obtain ⟨c,ty,tx,kt,heq,hc,hargs,ht,htx,hu,hk,⟨i,zv,hi,hsz',hby,hpos,hz1,hz2⟩,hwz,hw0⟩:=Zya ho
 have hmul:(n0+n)<=(n0+n)*bytes:=Nat.le_mul_of_pos_right _ hpos
 have hzl:(cells z).length=w:=by rw [cells_length]; exact hwz
 have hnl:cs.length=n*w:=by rw [hcs]; simp [hzl]
 have hone' : ∀ u∈cs,one1 u=true:=by
  intro u hu'
  rw [hcs,List.mem_flatten] at hu'
  obtain ⟨l,hl,hul⟩:=hu'
  obtain ⟨_,rfl⟩:=List.mem_replicate.1 hl
  exact hone u hul
 have hnews:(Builtin.zeroCells zv.cells n).toList=cs:=by rw [hz2,Ze0 (by rw [hzl]; exact hw0),hcs]
 have hnb:n*bytes<=140737488355328:=by rw [Nat.add_mul] at hsz; omega
 have hrun : ∀ {r:Result Value},(Builtin.append_ c.argTypes o.type #[.slice (some ⟨b,off,none⟩) n0 cp,.int ky N]).run C.P wd=r->(execOp a.eval o).run C.P wd=r.andThen fun v w=>.ok (.value v) w:=by
  intro r hr
  simp only [execOp,heq,resolve,hc,Sem.run_bind,Sem.run_pure,Result.andThen_ok,invoke,builtin,hargs,List.map_toArray,List.map_cons,List.map_nil,ha.ev hx,ha.ev hy,hr]
 have hat:Builtin.append_ c.argTypes o.type #[.slice (some ⟨b,off,none⟩) n0 cp,.int ky N]=Builtin.append_ #[ty,tx] o.type #[.slice (some ⟨b,off,none⟩) n0 cp,.int ky N]:=by
  simp [Builtin.append_,ht,htx]
 by_cases hroom:n0+n<=cp
 ·obtain ⟨segs',m',e1,hup,hK⟩:=room hroom
  have hle:n0*w+n*w<=cp*w:=by rw [<- Nat.add_mul]; exact Nat.mul_le_mul_right _ hroom
  have hup':Upd b (.cells (cells segs).toArray T' (0,0)) (.cells (Z1i (cells segs) (off+n0*w+0) cs).toArray T' (0,0)) m m':=by rw [Nat.add_zero,<- e1]; exact hup
  obtain ⟨w',hst,hw'⟩:=Z8p (P:=C.P) cs (off+n0*w) 0 (cells segs) m m' wd hw hup' (by rw [cells_length,hnl]; omega) hone'
  have hr:(Builtin.append_ #[ty,tx] o.type #[.slice (some ⟨b,off,none⟩) n0 cp,.int ky N]).run C.P wd = .ok (.slice (some ⟨b,off,none⟩) (n0+n) cp) w':=by
   subst hsz'
   exact Zvc (k:=ky) hu hk hi hz1 hN hn (by rw [hby]; omega) hroom hnews hnl hst
  rw [<- hat] at hr
  have h2:=hrun hr
  unfold Oper.wp
  rw [h2,Result.andThen_ok]
  simp only [Oper.upon]
  exact ⟨_,m',hK,hd1▸ha.put hd2 _,hw'⟩
 ·have hg:cp<n0+n:=by omega
  have hold:(Builtin.firstCells i.size n0 (.slice (some ⟨b,off,none⟩) n0 cp)).run C.P wd.drew = .ok (((cells segs).drop off).take (n0*i.size)).toArray wd.drew:=by
   have hle:n0*w<=cp*w:=Nat.mul_le_mul_right _ hn0
   have:=Zpz (P:=C.P) (w:=wd.drew) (b:=b) (off:=off) (size:=w) (n:=n0) (l:=n0) (c:=cp) (cs:=((cells segs).drop off).take (n0*w)) (by simp [cells_length]; omega) (fun i hi=>by
    rw [Zcj ((show Sat C.W0 C.S m wd.drew from hw.drew).own _ hb.mem),List.getElem?_take_of_lt hi,List.getElem?_drop]) (Nat.le_refl n0)
   rw [hsz',this,List.take_take,Nat.min_self]
  have hfit':Builtin.nextslicecap (n0+n) cp*i.bytes<=281474976710656:=by rw [hby]; exact growslice_fits hg hsz
  have hr:=Zna (k:=ky) (P:=C.P) (w:=wd) (t:=ty) (tx:=tx) (ty:=o.type) (e:=T) (i:=i) (z:=zv) hu hk hi hz1 hN hn (by rw [hby]; omega) (some ⟨b,off,none⟩) n0 cp _ hold cs hnews (by rw [hsz']; exact Nat.pos_iff_ne_zero.1 (Nat.mul_pos (by omega) hw0)) hg (by omega) hfit'
  rw [<- hat] at hr
  have h2:=hrun hr
  unfold Oper.wp
  rw [h2,Result.andThen_ok]
  simp only [Oper.upon]
  have hge:=grownCap_ge wd (n0+n) cp T
  obtain ⟨segs',e1,hK⟩:=grow hg wd.heap.size (grownCap wd (n0+n) cp T) hw.fr.size hge
  refine ⟨_,_,hK,hd1▸ha.put hd2 _,?_⟩
  have ha2:=hw.drew.alloc (.cells ((((cells segs).drop off).take (n0*i.size)++cs).toArray++Builtin.zeroCells zv.cells (grownCap wd (n0+n) cp T-(n0+n))) T)
  have e2:((((cells segs).drop off).take (n0*i.size)++cs).toArray++Builtin.zeroCells zv.cells (grownCap wd (n0+n) cp T-(n0+n)))=(cells segs').toArray:=by
   rw [e1,hsz',hz2]
   apply Array.ext'
   rw [Array.toList_append,Ze0 (by rw [cells_length,hwz]; exact hw0)]
  rw [e2]
  rw [e2] at ha2
  exact ha2
theorem Z0an {d:Nat} {T:TypeId} {w bytes:Nat} {z:List Seg} {x y:Operand} {n:Nat} {ky:IntKind} {N:Int} {cs:List Value}
  (hx:ev t x=some (.slice none 0 0)) (hy:ev t y=some (.int ky N)) (hN:0<=N) (hn:n=N.toNat) (hcs:cs=(replicate n (cells z)).flatten) (hone : ∀ u∈cells z,one1 u=true) (hsz:n*bytes<=140737488355328)
  (none_:n=0->K ((d,.slice none 0 0)::t) m)
  (grow:0<n->∀ b' cp',C.W0.heap.size<=b'->n<=cp'->∃ segs',cells segs'=cs++(replicate (cp'-n) (cells z)).flatten/\K ((d,.slice (some ⟨b',0,none⟩) n cp')::t) (ck b' T segs'::m)) :
  EF C m t (some d) (.apz T w bytes z x y) K:=by
 intro o ho hd a ha wd hw
 obtain ⟨hd1,hd2⟩:=Z5f hd
 obtain ⟨c,ty,tx,kt,heq,hc,hargs,ht,htx,hu,hk,⟨i,zv,hi,hsz',hby,hpos,hz1,hz2⟩,hwz,hw0⟩:=Zya ho
 have hmul:n<=n*bytes:=Nat.le_mul_of_pos_right _ hpos
 have hzl:(cells z).length=w:=by rw [cells_length]; exact hwz
 have hnl:cs.length=n*w:=by rw [hcs]; simp [hzl]
 have hone' : ∀ u∈cs,one1 u=true:=by
  intro u hu'
  rw [hcs,List.mem_flatten] at hu'
  obtain ⟨l,hl,hul⟩:=hu'
  obtain ⟨_,rfl⟩:=List.mem_replicate.1 hl
  exact hone u hul
 have hnews:(Builtin.zeroCells zv.cells n).toList=cs:=by rw [hz2,Ze0 (by rw [hzl]; exact hw0),hcs]
 have hnb:n*bytes<=140737488355328:=hsz
 have hrun : ∀ {r:Result Value},(Builtin.append_ c.argTypes o.type #[.slice none 0 0,.int ky N]).run C.P wd=r->(execOp a.eval o).run C.P wd=r.andThen fun v w=>.ok (.value v) w:=by
  intro r hr
  simp only [execOp,heq,resolve,hc,Sem.run_bind,Sem.run_pure,Result.andThen_ok,invoke,builtin,hargs,List.map_toArray,List.map_cons,List.map_nil,ha.ev hx,ha.ev hy,hr]
 have hat:Builtin.append_ c.argTypes o.type #[.slice none 0 0,.int ky N]=Builtin.append_ #[ty,tx] o.type #[.slice none 0 0,.int ky N]:=by
  simp [Builtin.append_,ht,htx]
 by_cases hroom:n=0
 ·have hK:=none_ hroom
  have hr:(Builtin.append_ #[ty,tx] o.type #[.slice none 0 0,.int ky N]).run C.P wd = .ok (.slice none 0 0) wd:=by
   subst hsz'
   have hN0:N=0:=by omega
   have hw:IntKind.i64.wrap 0=0:=by decide
   subst hN0
   simp [Builtin.append_,Z01 hu,Z01 hk,sizeOf,typeInfo,hi,asInt,asIntOf,hw]
  rw [<- hat] at hr
  have h2:=hrun hr
  unfold Oper.wp
  rw [h2,Result.andThen_ok]
  simp only [Oper.upon]
  exact ⟨_,m,hK,hd1▸ha.put hd2 _,hw⟩
 ·have hg:0<0+n:=by omega
  have hold:(Builtin.firstCells i.size 0 (.slice none 0 0)).run C.P wd.drew = .ok ([]:List Value).toArray wd.drew:=by simpa using run_firstCells_none (P:=C.P) wd.drew i.size 0 0 0
  have hfit':Builtin.nextslicecap (0+n) 0*i.bytes<=281474976710656:=by rw [hby]; exact growslice_fits hg (by simpa using hsz)
  have hr:=Zna (k:=ky) (P:=C.P) (w:=wd) (t:=ty) (tx:=tx) (ty:=o.type) (e:=T) (i:=i) (z:=zv) hu hk hi hz1 hN hn (by rw [hby]; omega) none 0 0 _ hold cs hnews (by rw [hsz']; exact Nat.pos_iff_ne_zero.1 (Nat.mul_pos (by omega) hw0)) hg (by omega) hfit'
  simp only [Nat.zero_add,List.nil_append] at hr
  rw [<- hat] at hr
  have h2:=hrun hr
  unfold Oper.wp
  rw [h2,Result.andThen_ok]
  simp only [Oper.upon]
  have hge:=grownCap_ge wd n 0 T
  obtain ⟨segs',e1,hK⟩:=grow (by omega) wd.heap.size (grownCap wd n 0 T) hw.fr.size hge
  refine ⟨_,_,hK,hd1▸ha.put hd2 _,?_⟩
  have ha2:=hw.drew.alloc (.cells (cs.toArray++Builtin.zeroCells zv.cells (grownCap wd n 0 T-n)) T)
  have e2:(cs.toArray++Builtin.zeroCells zv.cells (grownCap wd n 0 T-n))=(cells segs').toArray:=by
   rw [e1,hz2]
   apply Array.ext'
   rw [Array.toList_append,Ze0 (by rw [cells_length,hwz]; exact hw0)]
  rw [e2]
  rw [e2] at ha2
  exact ha2
end
section
variable {α:Type} {C:Cfg} {m:List Zd} {t:TS} {K:KN} {E:El α} {v:Value} {xs:List α}
theorem Z0ao {d:Nat} {T:TypeId} {bytes:Nat} {z:List Seg} {x y:Operand} {ms mr:List Zd} {ky:IntKind} {N:Int} {xs':List α} (e:xs'=xs++replicate N.toNat E.z) (hx:ev t x=some v) (hO:Z0c E v ms xs) (hT:Zf3 ms m mr) (hy:ev t y=some (.int ky N)) (hN:decide (0<=N)=true) (hz:cells z=E.cell E.z)
  (hsz:decide ((xs.length+N.toNat)*bytes<=140737488355328)=true) (h : ∀ v' ms',Z0c E v' ms' xs'->K ((d,v')::t) (ms'++mr)):EF C m t (some d) (.apz T E.w bytes z x y) K:=by
 subst e
 have hsz:=of_decide_eq_true hsz
 intro o ho hd a ha w hw
 have hN:=of_decide_eq_true hN
 have hzw:width z=E.w:=by rw [<- cells_length,hz,E.len]
 have hone : ∀ u∈cells z,one1 u=true:=by rw [hz]; exact E.one _
 generalize hys:replicate N.toNat E.z=ys
 rw [hys] at h
 have hyl:ys.length=N.toNat:=by rw [<- hys,List.length_replicate]
 have hcs:cellsOf E ys=(replicate ys.length (cells z)).flatten:=by
  rw [hyl,<- Zrr (w:=E.w) (by rw [cells_length]; exact hzw),cellsOf,hyl]
  apply Zrq
  intro i hi
  simp only [Zbp]
  rw [<- hys,hz]
  simp [List.getD,List.getElem?_replicate,hi]
 rw [<- hyl] at hsz
 refine EF.perm hT.perm (EF.less (?_:EF C (ms++mr) t (some d) (.apz T E.w bytes z x y) _)) o ho hd a ha w hw
 rcases hO with ⟨h1,h2,h3⟩ | ⟨b,o1,cp,T',cs,h1,h2,h3,h4,h5⟩
 ·subst h1; subst h2; subst h3
  refine Z0an hx hy hN hyl hcs hone (by simpa using hsz) (fun h0=>?_) (fun h0 b' cp' hb' hc'=>?_)
  ·have hys:ys = []:=List.eq_nil_of_length_eq_zero h0
   subst hys
   exact ⟨_,h _ _ Z3y,List.Sublist.refl _⟩
  ·refine ⟨(cellsOf E ys++(replicate (cp'-ys.length) (cells z)).flatten).map Seg.one,Z2p _,?_⟩
   refine ⟨_,h _ [⟨b',_⟩] (.inr ⟨b',0,cp',T,_,by simp,by simpa using hc',rfl,?_,?_⟩),List.Sublist.refl _⟩
   ·rw [Z9i,List.length_append,Z1j]
    simp only [List.length_flatten,List.map_replicate,List.sum_replicate_nat,cells_length,hzw,Nat.zero_add]
    rw [<- Nat.add_mul]
    exact Nat.mul_le_mul_right _ (by omega)
   ·intro i hi j hj
    simp only [List.nil_append] at hi ⊢
    have:i*E.w+E.w<=ys.length*E.w:=by rw [<- Nat.succ_mul]; exact Nat.mul_le_mul_right _ hi
    rw [Z2p,Nat.zero_add,List.getElem?_append_left (by rw [Z1j]; omega),Z77 hi hj]
 ·subst h1; subst h3
  refine Z0e5 hx Has.here hy hN hyl hcs hone h4 h2 hsz (fun hr=>?_) (fun hg b' cp' hb' hc'=>?_)
  ·have hle:(xs.length+ys.length)*E.w<=cp*E.w:=Nat.mul_le_mul_right _ hr
   rw [Nat.add_mul] at hle
   have hin:o1+xs.length*E.w+(cellsOf E ys).length<=(cells cs).length:=by rw [Z1j,cells_length]; omega
   refine ⟨(Z1i (cells cs) (o1+xs.length*E.w) (cellsOf E ys)).map Seg.one,[⟨b,.cells (cells ((Z1i (cells cs) (o1+xs.length*E.w) (cellsOf E ys)).map Seg.one)).toArray T' (0,0)⟩]++mr,Z2p _,Upd.here,?_⟩
   refine ⟨_,h _ _ (.inr ⟨b,o1,cp,T',_,by simp,by simpa using hr,rfl,?_,?_⟩),List.Sublist.refl _⟩
   ·rw [Z9i,Z1i,List.length_append,List.length_append,List.length_take,List.length_drop]
    rw [cells_length] at hin ⊢; omega
   ·intro i hi j hj
    rw [Z2p,Zji hin,Z1j]
    rw [List.length_append] at hi
    by_cases hil:i<xs.length
    ·have:i*E.w+E.w<=xs.length*E.w:=by rw [<- Nat.succ_mul]; exact Nat.mul_le_mul_right _ hil
     rw [if_neg (by omega),Zku hil,h5 i hil j hj]
    ·have e1:i*E.w=xs.length*E.w+(i-xs.length)*E.w:=by rw [<- Nat.add_mul]; congr 1; omega
     have:(i-xs.length)*E.w+E.w<=ys.length*E.w:=by rw [<- Nat.succ_mul]; exact Nat.mul_le_mul_right _ (by omega)
     rw [if_pos (by omega),Zkv (by omega),show o1+(i*E.w+j)-(o1+xs.length*E.w)=(i-xs.length)*E.w+j by omega,Z77 (by omega) hj]
  ·have hle:xs.length*E.w<=cp*E.w:=Nat.mul_le_mul_right _ h2
   have hl1:(((cells cs).drop o1).take (xs.length*E.w)).length=xs.length*E.w:=by rw [List.length_take,List.length_drop,cells_length]; omega
   refine ⟨(((cells cs).drop o1).take (xs.length*E.w)++cellsOf E ys++(replicate (cp'-(xs.length+ys.length)) (cells z)).flatten).map Seg.one,Z2p _,?_⟩
   refine ⟨_,h _ [⟨b',_⟩] (.inr ⟨b',0,cp',T,_,by simp,by simpa using hc',rfl,?_,?_⟩),List.Sublist.cons₂ _ (List.sublist_cons_self _ _)⟩
   ·rw [Z9i,List.length_append,List.length_append,hl1,Z1j]
    simp only [List.length_flatten,List.map_replicate,List.sum_replicate_nat,cells_length,hzw,Nat.zero_add]
    rw [<- Nat.add_mul,<- Nat.add_mul]
    exact Nat.mul_le_mul_right _ (by omega)
   ·intro i hi j hj
    rw [List.length_append] at hi
    rw [Z2p,Nat.zero_add]
    by_cases hil:i<xs.length
    ·have:i*E.w+E.w<=xs.length*E.w:=by rw [<- Nat.succ_mul]; exact Nat.mul_le_mul_right _ hil
     rw [List.append_assoc,List.getElem?_append_left (by rw [hl1]; omega),List.getElem?_take_of_lt (by omega),List.getElem?_drop,h5 i hil j hj,Zku hil]
    ·have e1:i*E.w=xs.length*E.w+(i-xs.length)*E.w:=by rw [<- Nat.add_mul]; congr 1; omega
     have:(i-xs.length)*E.w+E.w<=ys.length*E.w:=by rw [<- Nat.succ_mul]; exact Nat.mul_le_mul_right _ (by omega)
     rw [List.append_assoc,List.getElem?_append_right (by rw [hl1]; omega),hl1,List.getElem?_append_left (by rw [Z1j]; omega),Zkv (by omega),show i*E.w+j-xs.length*E.w=(i-xs.length)*E.w+j by omega,Z77 (by omega) hj]
theorem Z0ly {len w:Nat} {x i:Operand} {k k':IntKind} {ys:List Int} {z:Int} (h:ev t x=some (agg [.ints k (len*w) ys])) (hi:ev t i=some (.int k' z)) (hz:0<=z/\z<len) :
  Q1 C m t (.idx len w true x i) (agg [.ints k w (tk ys (z.toNat*w) w)]):=by
 intro o ho a ha wd hw
 obtain ⟨T,e,heq,hu,hs,hag⟩:=Zyb ho
 refine Z0t ?_
 simp only [execOp,heq,ha.ev h,ha.ev hi]
 refine Ze5 ?_
 simp only [Instr.index,agg,asIntOf,Sem.run_bind,Sem.run_pure,Z01 hu,Result.andThen_ok,hz,and_self,if_true,Z3j hs]
 refine Zgo hs hag (fun _=>?_) (fun h=>by cases h)
 congr 2
 have hlt:z.toNat<len:=by omega
 have hle:z.toNat*w+w<=len*w:=by rw [<- Nat.succ_mul]; exact Nat.mul_le_mul_right w hlt
 simp only [cells,Seg.cells,List.append_nil]
 rw [Z021 (by omega)]
 rw [Z022,Zbt (Z0o _ _ _)]
def Z024:Value->Bool
 | .slice none _ _=>true
 | _=>false
theorem Z03g {β:Type} {E':El β} {v':Value} {ys:List β} (h : ∀ W,Z6r E' W v' ys->Z6r E W v xs) (hs:Zr2 C m E' v' ys):Zr2 C m E v xs:=fun w hw=>h w (hs w hw)
theorem Z08b {β:Type} {E':El β} {v':Value} {ys:List β} : ∀ W,Z6r E' W v' ys->Z6r E W (.slice none 0 0) []:=fun _ _=>Z093
theorem Z090 {x:Operand} {b p base i len:Nat} {T:TypeId} {fz:Nat×Nat} {s:List Seg} {k:IntKind} {ys:List Int} {z:Int} (e:z=ys.getD i 0) (hx:ev t x=some (.pointer (some ⟨b,p,none⟩))) (hb:Has b (.cells (cells s).toArray T fz) m)
  (hs:Ze6 s base=some (.ints k len ys)) (hp:p=base+i) (hi:decide (i<len)=true):Q1 C m t (.ld 1 false x) (.int k z):=e▸Z0zi hx hb hs hp (of_decide_eq_true hi)
theorem Z01s {x y:Operand} {b p base i len:Nat} {T:TypeId} {s q:List Seg} {k:IntKind} {ys ys':List Int} {z:Int} {m':List Zd} (e:ys'=Z2g ys i z) (hx:ev t x=some (.pointer (some ⟨b,p,none⟩))) (hy:ev t y=some (.int k z))
  (hs:Ze6 s base=some (.ints k len ys)) (hp:p=base+i) (hi:decide (i<len)=true) (hq:Zh6 s base (.ints k len ys')=some q)
  (hup:Upd b (.cells (cells s).toArray T (0,0)) (.cells (cells q).toArray T (0,0)) m m') (h:K t m'):EF C m t none (.st 1 x y) K:=by
 subst e; exact Z0e8 hx hy hs hp (of_decide_eq_true hi) hq hup h
def Zh9 (x y c:Int):Bool:=decide (0<=x)&&decide (0<=y)&&decide (0<=c)&&decide (c<=1)
def Zcv (x y c:Int):Int:=(x+y+c)%18446744073709551616
def Zk4 (x y c:Int):Int:=(x+y+c) / 18446744073709551616
theorem xadd {P:Program} {x y c l h:Int} (hl:l=Zcv x y c) (hh:h=Zk4 x y c) (hk:Zh9 x y c=true) (w:World):(add64Entry #[.int .u64 x,.int .u64 y,.int .u64 c]).run P w = .ok (.tuple #[.int .u64 l,.int .u64 h]) w:=by
 subst hl; subst hh
 simp [Zh9] at hk
 exact run_add64 x y c hk.1.1.1 hk.1.1.2 hk.1.2 hk.2 w
def Z04i (x y c:Int):Bool:=decide (0<=x)&&decide (0<=y)&&decide (y<18446744073709551616)&&decide (0<=c)&&decide (c<=1)
def Z080 (x y c:Int):Int:=(x-y-c)%18446744073709551616
def Z07z (x y c:Int):Int:=if x<y+c then 1 else 0
theorem xsub {P:Program} {x y c l h:Int} (hl:l=Z080 x y c) (hh:h=Z07z x y c) (hk:Z04i x y c=true) (w:World):(Zjj #[.int .u64 x,.int .u64 y,.int .u64 c]).run P w = .ok (.tuple #[.int .u64 l,.int .u64 h]) w:=by
 subst hl; subst hh
 simp [Z04i] at hk
 exact Z041 x y c hk.1.1.1.1 hk.1.1.1.2 hk.1.1.2 hk.1.2 hk.2 w
def Zjk (v:Value):Prop:=∃ a n c,v = .slice a n c
theorem Z6r.isSl {W:World} (h:Z6r E W v xs):Zjk v:=by
 rcases h with ⟨h1,_⟩ | ⟨b,o,cp,h1,_,_⟩ | ⟨_,h1,_⟩
 ·exact ⟨_,_,_,h1⟩
 ·exact ⟨_,_,_,h1⟩
 ·exact ⟨_,_,_,h1⟩
theorem Z0c.isSl {ms:List Zd} (h:Z0c E v ms xs):Zjk v:=by
 rcases h with ⟨h1,_⟩ | ⟨b,o,cp,_,_,h1,_⟩
 ·exact ⟨_,_,_,h1⟩
 ·exact ⟨_,_,_,h1⟩
theorem Zjk.cells {u:Value} (h:Zjk u):u.cells = #[u]:=by obtain ⟨a,n,c,rfl⟩:=h; rfl
abbrev SlT:=Option Addr×Nat×Nat
def slV (x:SlT):Value:=.slice x.1 x.2.1 x.2.2
def unS:Value->SlT
 | .slice a n c=>(a,n,c)
 | _=>(none,0,0)
theorem Z09a {u:Value} (h:Zjk u):slV (unS u)=u:=by obtain ⟨a,n,c,rfl⟩:=h; rfl
abbrev El.sl:El SlT:=⟨1,fun x=>[slV x],fun _=>rfl,fun _ v h=>by simp at h; subst h; rfl,by decide,(none,0,0)⟩
theorem Zit {u:Value} (h:Zjk u):Go.Sx.cells [.one u]=El.sl.cell (unS u):=by simp only [Go.Sx.cells,Seg.cells]; rw [Z09a h]; rfl
inductive Zng (E:El α) (W:World):List SlT->List (List α)->Prop
 | nil:Zng E W [] []
 | cons {u:SlT} {us:List SlT} {ys:List α} {yss:List (List α)}:Z6r E W (slV u) ys->Zng E W us yss->Zng E W (u::us) (ys::yss)
theorem Zng.len {W:World} {us:List SlT} {yss:List (List α)} (h:Zng E W us yss):us.length=yss.length:=by
 induction h with
 | nil=>rfl
 | cons _ _ ih=>simp [ih]
theorem Zng.get {W:World} {us:List SlT} {yss:List (List α)} (h:Zng E W us yss) : ∀ i,i<yss.length->Z6r E W (slV (us.getD i (none,0,0))) (yss.getD i []):=by
 induction h with
 | nil=>intro i hi; simp at hi
 | cons h1 _ ih =>
  intro i hi
  cases i with
  | zero=>simpa using h1
  | succ i=>simpa using ih i (by simpa using hi)
theorem Zij {W:World} {u:Value} (h:Z6r E W u xs):Z6r E W (slV (unS u)) xs:=by rw [Z09a h.isSl]; exact h
theorem Z014 {W:World} {us:List SlT} {yss:List (List α)} (h:Zng E W us yss) {z:Int} (hz:inB z yss.length=true):inB z us.length=true:=by rw [h.len]; exact hz
def Shp (v:Value) (n:Nat):Prop:=(v = .slice none 0 0/\n=0)∨(∃ b o cp,v = .slice (some ⟨b,o,none⟩) n cp/\n<=cp) ∨ ∃ a,v = .slice (some a) 0 0/\n=0
theorem Shp.rd {W:World} (h:Z6r E W v xs):Shp v xs.length:=by
 rcases h with ⟨h1,h2⟩ | ⟨b,o,cp,h1,h2,_⟩ | ⟨a3,h1,h2⟩
 ·exact .inl ⟨h1,by rw [h2]; rfl⟩
 ·exact .inr (.inl ⟨b,o,cp,h1,h2⟩)
 ·exact .inr (.inr ⟨a3,h1,by rw [h2]; rfl⟩)
theorem Shp.own {ms:List Zd} (h:Z0c E v ms xs):Shp v xs.length:=by
 rcases h with ⟨h1,h2,_⟩ | ⟨b,o,cp,_,_,h1,h2,_⟩
 ·exact .inl ⟨h1,by rw [h2]; rfl⟩
 ·exact .inr (.inl ⟨b,o,cp,h1,h2⟩)
theorem Shp.nil:Shp (.slice none 0 0) 0:=.inl ⟨rfl,rfl⟩
theorem Shp.blk {b base lo hi mz w n:Nat} (h:lo<=hi/\hi<=mz) (hn:n=hi-lo):Shp (.slice (some (Z4a b base lo mz w)) (hi-lo) (mz-lo)) n:=by
 subst hn
 unfold Z4a
 split
 ·exact .inr (.inl ⟨_,_,_,rfl,by omega⟩)
 ·exact .inr (.inl ⟨_,_,_,rfl,by omega⟩)
theorem Shp.cut {w:Nat} {lz hz:Int} (h:Shp v xs.length) (hb:Zqi lz hz xs.length=true):Shp (Zhi w v lz.toNat hz.toNat) ((xs.drop lz.toNat).take (hz.toNat-lz.toNat)).length:=by
 have hb:=Ztt hb
 have hlen:((xs.drop lz.toNat).take (hz.toNat-lz.toNat)).length=hz.toNat-lz.toNat:=by rw [List.length_take,List.length_drop]; omega
 rw [hlen]
 rcases h with ⟨h1,h2⟩ | ⟨b,o,cp,h1,h2⟩ | ⟨a3,h1,h2⟩
 ·subst h1; exact .inl ⟨rfl,by omega⟩
 rotate_left 1
 ·subst h1
  have e1:lz.toNat=0:=by omega
  have e2:hz.toNat=0:=by omega
  rw [e1,e2,Zor]
  exact .inr (.inr ⟨a3,rfl,rfl⟩)
 ·subst h1
  simp only [Zhi]
  exact Shp.blk (by omega) rfl
theorem Shp.isSl {n:Nat} (h:Shp v n):Zjk v:=by
 rcases h with ⟨h1,_⟩ | ⟨b,o,cp,h1,_⟩ | ⟨_,h1,_⟩
 ·exact ⟨_,_,_,h1⟩
 ·exact ⟨_,_,_,h1⟩
 ·exact ⟨_,_,_,h1⟩
theorem Shp.notnil {n:Nat} (h:Shp v n) (h0:decide (0<n)=true):Z024 v=false:=by
 have h0:=of_decide_eq_true h0
 rcases h with ⟨_,h2⟩ | ⟨b,o1,cp,h1,_⟩ | ⟨_,_,h2⟩
 ·omega
 ·subst h1; rfl
 ·omega
theorem Z40 {x:Operand} {n:Nat} (hx:ev t x=some v) (h:Shp v n):Q1 C m t (.len x) (.int .i64 n):=by
 rcases h with ⟨h1,h2⟩ | ⟨b,o1,cp,h1,h2⟩ | ⟨a3,h1,h2⟩
 ·subst h1; subst h2; exact Z06y hx
 rotate_left 1
 ·subst h1; subst h2; exact Z06y hx
 ·subst h1; exact Z06y hx
theorem Z48 {w n:Nat} {x i:Operand} {k:IntKind} {z:Int} (hx:ev t x=some v) (hi:ev t i=some (.int k z)) (h:Shp v n) (hz:inB z n=true) :
  Q1 C m t (.ias w x i) (.pointer (some ⟨(Za6 v).block,(Za6 v).off+z.toNat*w,none⟩)):=by
 have hz':=Z0q hz
 rcases h with ⟨h1,h2⟩ | ⟨b,o1,cp,h1,h2⟩ | ⟨_,_,h2⟩
 ·omega
 rotate_left 1
 ·omega
 ·subst h1; exact Z0zf hx hi hz'
theorem Z0m1 {n k:Nat} {x:Operand} (hx:ev t x=some v) (h:Shp v k) (h0:0<n) (hn:decide (n<=k)=true):Q1 C m t (.s2a n x) (.pointer (some ⟨(Za6 v).block,(Za6 v).off,none⟩)):=by
 have hn:=of_decide_eq_true hn
 rcases h with ⟨h1,h2⟩ | ⟨b,o1,cp,h1,h2⟩ | ⟨_,_,h2⟩
 ·omega
 rotate_left 1
 ·omega
 ·subst h1; exact Z0zj hx hn
theorem Zyk {w n:Nat} {x:Operand} {lo hi:Option Operand} {lz hz:Int} (hx:ev t x=some v) (h:Shp v n) (hl:Zr0 t 0 lo lz) (hh:Zr0 t n hi hz) (hb:Zqi lz hz n=true) :
  Q1 C m t (.sls w x lo hi none) (Zhi w v lz.toNat hz.toNat):=by
 have hb:=Ztt hb
 rcases h with ⟨h1,h2⟩ | ⟨b,o1,cp,h1,h2⟩ | ⟨a3,h1,h2⟩
 ·subst h1; subst h2
  exact Z0m2 (mz:=0) hx hl hh .no (by simp) (by omega)
 rotate_left 1
 ·subst h1; subst h2
  have e1:lz.toNat=0:=by omega
  have e2:hz.toNat=0:=by omega
  rw [e1,e2,Zor]
  exact Z0m3 hx hl hh (by omega)
 ·subst h1
  have:=Z0zk (C:=C) (m:=m) (w:=w) (mz:=cp) hx hl hh .no (by simp) (by omega)
  simpa [Zhi] using this
theorem Z08z {neg:Bool} {x:Operand} {c:Bool} {n:Nat} (hx:ev t x=some v) (h:Shp v n) (hc:Z024 v=c):Q1 C m t (.isn neg x) (.bool (bif neg then !c else c)):=by
 subst hc
 rcases h with ⟨h1,h2⟩ | ⟨b,o1,cp,h1,h2⟩ | ⟨a3,h1,h2⟩
 ·subst h1; exact Z0c4 hx
 ·subst h1; exact Z0c4 hx
 ·subst h1; exact Z0c4 hx
theorem Z0b4 {n k:Nat} {op:IOp} (q:Q1 C m t op (.int .i64 n)) (h:n=k):Q1 C m t op (.int .i64 k):=h▸q
end
end Go.Sx
namespace Go.Sx
open Go Go.RowKit
set_option linter.all false
section
variable {C:Cfg} {m:List Zd} {t:TS} {K:KN} {α:Type} {E:El α} {v:Value} {xs:List α}
theorem Z0k {β:Type} {r:β} {a b:Option β} {c:Bool} {x:Operand} {p q:IC} {kn:KN} {ke:KE} (h:br c a b=some r) (hx:ev t x=some (.bool c)) (ht:a=some r->WC C p t m kn ke) (hf:b=some r->WC C q t m kn ke) :
  WC C (.cond x p q) t m kn ke:=Z04q hx (fun e=>ht (br_t h e)) (fun e=>hf (br_f h e))
end
section
variable {α β:Type} {r:β} {G:Prop}
theorem bH {x:α} {f:α->Option β} (h:bnd x f=some r) (k : ∀ z,z=x->f z=some r->G):G:=Z0qi k h
theorem cH {c:Bool} {o:Option β} (h:chk c o=some r) (k:c=true->o=some r->G):G:=Z0qj k h
theorem oH {o:Option α} {f:α->Option β} (h:opt o f=some r) (k : ∀ y,o=some y->f y=some r->G):G:=Z0zc k h
theorem jH {K:Type} {k:K} {g:K->Option β} (h:jn k g=some r) (q : ∀ k',k'=k->g k'=some r->G):G:=jn_i q h
end
instance (n:Nat):OfNat Operand n:=⟨.tmp n⟩
abbrev oj (d:Nat) (i:IOp):J:=.op ⟨some d,none,i⟩
abbrev on_ (i:IOp):J:=.op ⟨none,none,i⟩
abbrev oi (d:Nat) (i:IOp):Zqe:=⟨some d,none,i⟩
abbrev oe (i:IOp):Zqe:=⟨none,none,i⟩
abbrev ci (n:Int):Operand:=.const (.int .i64 n)
abbrev cu (n:Int):Operand:=.const (.int .u64 n)
theorem Z7 {C : Cfg} {m : List Zd} {t : TS} {kn : KN} {x : Operand} {d : Nat} {r : List J} {v : Value} (h1 : ev t x = some v) (h : WJ C r ((d, v) :: t) m kn) : WJ C (.op ⟨some d, none, .mv x⟩ :: r) t m kn := Zq v (Z5r h1) h
theorem q_cl {C : Cfg} {m : List Zd} {t : TS} {f : FuncId} {args : List Operand} {vs : List Value} {v : Value} (ha : evL t args = some vs) (h : ∀ {w : World}, Calls C.P f vs.toArray w (Z1w w v)) : Q1 C m t (.call f args) v := Z06 ha fun _ _ => h
abbrev Z5 : Seg := .ints .u64 5 (List.replicate 5 0)
abbrev Z10 : Seg := .ints .u64 10 (List.replicate 10 0)
abbrev OL := Option (List Int)
abbrev jm (d : Nat) (x : Operand) : J := oj d (.mv x)
abbrev jl (d : Nat) (n : Nat) (a : Bool) (x : Operand) : J := oj d (.ld n a x)
abbrev jb (d : Nat) (o : BinOp) (x y : Operand) : J := oj d (.bin o x y)
abbrev jc (d : Nat) (f : FuncId) (a : List Operand) : J := oj d (.call f a)
abbrev ji (d : Nat) (l w : Nat) (x i : Operand) : J := oj d (.ia l w x i)
abbrev ja (d : Nat) (T : TypeId) (z : List Seg) : J := oj d (.al T z)
abbrev jx (d : Nat) (T : TypeId) (x : Operand) : J := oj d (.bx T x)
abbrev jf (d : Nat) (n : Nat) (x : Operand) : J := oj d (.fa n x)
abbrev je (d : Nat) (x : Operand) (i : Nat) : J := oj d (.ext x i)
abbrev jn' (d : Nat) (x : Operand) : J := oj d (.len x)
abbrev ji' (d : Nat) (w : Nat) (x i : Operand) : J := oj d (.ias w x i)
abbrev jd (d : Nat) (z : List Seg) (p : List (Nat × Nat × Operand)) : J := oj d (.bd z p)
abbrev jv (d : Nat) (k : IntKind) (x : Operand) : J := oj d (.conv k x)
abbrev jz (d : Nat) (x : Operand) : J := oj d (.nilc x)
abbrev js' (n : Nat) (x y : Operand) : J := on_ (.st n x y)
abbrev jo' (n : Nat) (x y : Operand) : Zqe := oe (.st n x y)
abbrev c8 (n : Int) : Operand := .const (.int .u8 n)
abbrev Sch.P (i : Nat) (j : J) (r : Sch) : Sch := .p [i] j r
abbrev Sch.Q (i : Nat) (j : J) (r : Sch) : Sch := .q [i] j r
abbrev IC.sq (l : List J) (c : IC) : IC := .seq (.ops l) c
abbrev LJ := List J
abbrev LI := List Int
abbrev pt' (b : Nat) : Value := .pointer (some ⟨b, 0, none⟩)
abbrev Seg.i (x : Int) : Seg := .one (.int .i64 x)
abbrev Seg.v (x : Bool) : Seg := .one (.bool x)
theorem sU {a m : List Zd} (h : Sup a m := by repeat (first | exact Sup.refl _ | apply Sup.cons | apply Sup.app)) : Sup a m := h
theorem Zvq.o {c : Zd} {M m : List Zd} (h : Zvq M m) : Zvq (c :: M) (c :: m) := .one .here h
abbrev u5' (x : List Int) : Seg := .ints .u64 5 x
abbrev uA' (x : List Int) : Seg := .ints .u64 10 x
abbrev b3' (x : List Int) : Seg := .ints .u8 32 x
abbrev b6' (x : List Int) : Seg := .ints .u8 64 x
abbrev u8' (x : List Int) : Seg := .ints .u64 8 x
theorem Has.t1 {b o m c0} : Has b o (c0 :: ⟨b, o⟩ :: m) := .there .here
theorem Has.t2 {b o m c0 c1} : Has b o (c0 :: c1 :: ⟨b, o⟩ :: m) := .there (.there .here)
theorem Has.t3 {b o m c0 c1 c2} : Has b o (c0 :: c1 :: c2 :: ⟨b, o⟩ :: m) := .there (.there (.there .here))
theorem Has.t4 {b o m c0 c1 c2 c3} : Has b o (c0 :: c1 :: c2 :: c3 :: ⟨b, o⟩ :: m) := .there (.there (.there (.there .here)))
theorem Has.t5 {b o m c0 c1 c2 c3 c4} : Has b o (c0 :: c1 :: c2 :: c3 :: c4 :: ⟨b, o⟩ :: m) := .there (.there (.there (.there (.there .here))))
theorem Has.t6 {b o m c0 c1 c2 c3 c4 c5} : Has b o (c0 :: c1 :: c2 :: c3 :: c4 :: c5 :: ⟨b, o⟩ :: m) := .there (.there (.there (.there (.there (.there .here)))))
theorem Has.t7 {b o m c0 c1 c2 c3 c4 c5 c6} : Has b o (c0 :: c1 :: c2 :: c3 :: c4 :: c5 :: c6 :: ⟨b, o⟩ :: m) := .there (.there (.there (.there (.there (.there (.there .here))))))
theorem Has.t8 {b o m c0 c1 c2 c3 c4 c5 c6 c7} : Has b o (c0 :: c1 :: c2 :: c3 :: c4 :: c5 :: c6 :: c7 :: ⟨b, o⟩ :: m) := .there (.there (.there (.there (.there (.there (.there (.there .here)))))))
theorem Has.t9 {b o m c0 c1 c2 c3 c4 c5 c6 c7 c8} : Has b o (c0 :: c1 :: c2 :: c3 :: c4 :: c5 :: c6 :: c7 :: c8 :: ⟨b, o⟩ :: m) := .there (.there (.there (.there (.there (.there (.there (.there (.there .here))))))))
theorem Upd.t1 {b o o' m c0} : Upd b o o' (c0 :: ⟨b, o⟩ :: m) (c0 :: ⟨b, o'⟩ :: m) := .there .here
theorem Upd.t2 {b o o' m c0 c1} : Upd b o o' (c0 :: c1 :: ⟨b, o⟩ :: m) (c0 :: c1 :: ⟨b, o'⟩ :: m) := .there (.there .here)
theorem Upd.t3 {b o o' m c0 c1 c2} : Upd b o o' (c0 :: c1 :: c2 :: ⟨b, o⟩ :: m) (c0 :: c1 :: c2 :: ⟨b, o'⟩ :: m) := .there (.there (.there .here))
theorem Upd.t4 {b o o' m c0 c1 c2 c3} : Upd b o o' (c0 :: c1 :: c2 :: c3 :: ⟨b, o⟩ :: m) (c0 :: c1 :: c2 :: c3 :: ⟨b, o'⟩ :: m) := .there (.there (.there (.there .here)))
theorem Upd.t5 {b o o' m c0 c1 c2 c3 c4} : Upd b o o' (c0 :: c1 :: c2 :: c3 :: c4 :: ⟨b, o⟩ :: m) (c0 :: c1 :: c2 :: c3 :: c4 :: ⟨b, o'⟩ :: m) := .there (.there (.there (.there (.there .here))))
theorem Upd.t6 {b o o' m c0 c1 c2 c3 c4 c5} : Upd b o o' (c0 :: c1 :: c2 :: c3 :: c4 :: c5 :: ⟨b, o⟩ :: m) (c0 :: c1 :: c2 :: c3 :: c4 :: c5 :: ⟨b, o'⟩ :: m) := .there (.there (.there (.there (.there (.there .here)))))
theorem Upd.t7 {b o o' m c0 c1 c2 c3 c4 c5 c6} : Upd b o o' (c0 :: c1 :: c2 :: c3 :: c4 :: c5 :: c6 :: ⟨b, o⟩ :: m) (c0 :: c1 :: c2 :: c3 :: c4 :: c5 :: c6 :: ⟨b, o'⟩ :: m) := .there (.there (.there (.there (.there (.there (.there .here))))))
theorem Upd.t8 {b o o' m c0 c1 c2 c3 c4 c5 c6 c7} : Upd b o o' (c0 :: c1 :: c2 :: c3 :: c4 :: c5 :: c6 :: c7 :: ⟨b, o⟩ :: m) (c0 :: c1 :: c2 :: c3 :: c4 :: c5 :: c6 :: c7 :: ⟨b, o'⟩ :: m) := .there (.there (.there (.there (.there (.there (.there (.there .here)))))))
theorem Upd.t9 {b o o' m c0 c1 c2 c3 c4 c5 c6 c7 c8} : Upd b o o' (c0 :: c1 :: c2 :: c3 :: c4 :: c5 :: c6 :: c7 :: c8 :: ⟨b, o⟩ :: m) (c0 :: c1 :: c2 :: c3 :: c4 :: c5 :: c6 :: c7 :: c8 :: ⟨b, o'⟩ :: m) := .there (.there (.there (.there (.there (.there (.there (.there (.there .here))))))))
theorem Z4j.t1 {c m c0} : Z4j c (c0 :: c :: m) (c0 :: m) := .there .here
theorem Z4j.t2 {c m c0 c1} : Z4j c (c0 :: c1 :: c :: m) (c0 :: c1 :: m) := .there (.there .here)
theorem Z4j.t3 {c m c0 c1 c2} : Z4j c (c0 :: c1 :: c2 :: c :: m) (c0 :: c1 :: c2 :: m) := .there (.there (.there .here))
theorem Z4j.t4 {c m c0 c1 c2 c3} : Z4j c (c0 :: c1 :: c2 :: c3 :: c :: m) (c0 :: c1 :: c2 :: c3 :: m) := .there (.there (.there (.there .here)))
theorem Z4j.t5 {c m c0 c1 c2 c3 c4} : Z4j c (c0 :: c1 :: c2 :: c3 :: c4 :: c :: m) (c0 :: c1 :: c2 :: c3 :: c4 :: m) := .there (.there (.there (.there (.there .here))))
theorem Z4j.t6 {c m c0 c1 c2 c3 c4 c5} : Z4j c (c0 :: c1 :: c2 :: c3 :: c4 :: c5 :: c :: m) (c0 :: c1 :: c2 :: c3 :: c4 :: c5 :: m) := .there (.there (.there (.there (.there (.there .here)))))
theorem Z4j.t7 {c m c0 c1 c2 c3 c4 c5 c6} : Z4j c (c0 :: c1 :: c2 :: c3 :: c4 :: c5 :: c6 :: c :: m) (c0 :: c1 :: c2 :: c3 :: c4 :: c5 :: c6 :: m) := .there (.there (.there (.there (.there (.there (.there .here))))))
theorem Z4j.t8 {c m c0 c1 c2 c3 c4 c5 c6 c7} : Z4j c (c0 :: c1 :: c2 :: c3 :: c4 :: c5 :: c6 :: c7 :: c :: m) (c0 :: c1 :: c2 :: c3 :: c4 :: c5 :: c6 :: c7 :: m) := .there (.there (.there (.there (.there (.there (.there (.there .here)))))))
theorem Z4j.t9 {c m c0 c1 c2 c3 c4 c5 c6 c7 c8} : Z4j c (c0 :: c1 :: c2 :: c3 :: c4 :: c5 :: c6 :: c7 :: c8 :: c :: m) (c0 :: c1 :: c2 :: c3 :: c4 :: c5 :: c6 :: c7 :: c8 :: m) := .there (.there (.there (.there (.there (.there (.there (.there (.there .here))))))))
theorem Zf3.t1 {ms m c0} : Zf3 ms (c0 :: (ms ++ m)) (c0 :: m) := .there .here
theorem Zf3.t2 {ms m c0 c1} : Zf3 ms (c0 :: c1 :: (ms ++ m)) (c0 :: c1 :: m) := .there (.there .here)
theorem Zf3.t3 {ms m c0 c1 c2} : Zf3 ms (c0 :: c1 :: c2 :: (ms ++ m)) (c0 :: c1 :: c2 :: m) := .there (.there (.there .here))
theorem Zf3.t4 {ms m c0 c1 c2 c3} : Zf3 ms (c0 :: c1 :: c2 :: c3 :: (ms ++ m)) (c0 :: c1 :: c2 :: c3 :: m) := .there (.there (.there (.there .here)))
theorem Zf3.t5 {ms m c0 c1 c2 c3 c4} : Zf3 ms (c0 :: c1 :: c2 :: c3 :: c4 :: (ms ++ m)) (c0 :: c1 :: c2 :: c3 :: c4 :: m) := .there (.there (.there (.there (.there .here))))
theorem Zf3.t6 {ms m c0 c1 c2 c3 c4 c5} : Zf3 ms (c0 :: c1 :: c2 :: c3 :: c4 :: c5 :: (ms ++ m)) (c0 :: c1 :: c2 :: c3 :: c4 :: c5 :: m) := .there (.there (.there (.there (.there (.there .here)))))
theorem Zf3.t7 {ms m c0 c1 c2 c3 c4 c5 c6} : Zf3 ms (c0 :: c1 :: c2 :: c3 :: c4 :: c5 :: c6 :: (ms ++ m)) (c0 :: c1 :: c2 :: c3 :: c4 :: c5 :: c6 :: m) := .there (.there (.there (.there (.there (.there (.there .here))))))
theorem Zf3.t8 {ms m c0 c1 c2 c3 c4 c5 c6 c7} : Zf3 ms (c0 :: c1 :: c2 :: c3 :: c4 :: c5 :: c6 :: c7 :: (ms ++ m)) (c0 :: c1 :: c2 :: c3 :: c4 :: c5 :: c6 :: c7 :: m) := .there (.there (.there (.there (.there (.there (.there (.there .here)))))))
theorem Zf3.t9 {ms m c0 c1 c2 c3 c4 c5 c6 c7 c8} : Zf3 ms (c0 :: c1 :: c2 :: c3 :: c4 :: c5 :: c6 :: c7 :: c8 :: (ms ++ m)) (c0 :: c1 :: c2 :: c3 :: c4 :: c5 :: c6 :: c7 :: c8 :: m) := .there (.there (.there (.there (.there (.there (.there (.there (.there .here))))))))
def bin1 (t : TS) (op : BinOp) (x y : Operand) : Option Value := match ev t x, ev t y with
 | some (.int k p), some (.int k' q) => if k = k' then binV op k p q else none
 | _, _ => none
theorem Z035 {C : Cfg} {m : List Zd} {t : TS} {op : BinOp} {x y : Operand} {v : Value} (h : bin1 t op x y = some v) : Q1 C m t (.bin op x y) v := by
 unfold bin1 at h
 split at h
 ·rename_i hx hy
  split at h
  ·rename_i e; subst e; exact Zbk hx hy h
  ·cases h
 ·cases h
section
variable {C : Cfg} {t : TS} {m0 m : List Zd} {kn : KN} {r : List J} {late : List Nat} {R : Sch} {d i : Nat} {bb : Bool}
theorem Z0z {n : Nat} {x : Operand} {b off : Nat} {T : TypeId} {fz : Nat × Nat} {s p : List Seg} (hx : ev t x = some (.pointer (some ⟨b, off, none⟩))) (hb : Has b (.cells (cells s).toArray T fz) m) (hs : sub s off n = some p) (h : WJ C r ((d, agg p) :: t) m kn) : WJ C (.op ⟨some d, none, .ld n true x⟩ :: r) t m kn := Zq _ (q_ld hx hb hs) h
theorem Z1q {n : Nat} {x : Operand} {b off : Nat} {T : TypeId} {fz : Nat × Nat} {s p : List Seg} (hx : ev t x = some (.pointer (some ⟨b, off, none⟩))) (hb : Has b (.cells (cells s).toArray T fz) m0) (hs : sub s off n = some p) (h : WS C R late ((d, agg p) :: t) m0 m true kn) : WS C (.q [i] (.op ⟨some d, none, .ld n true x⟩) R) late t m0 m true kn := Z0v _ (q_ld hx hb hs) h
theorem Zky {x : Operand} {b off : Nat} {T : TypeId} {fz : Nat × Nat} {s : List Seg} {v : Value} (hx : ev t x = some (.pointer (some ⟨b, off, none⟩))) (hb : Has b (.cells (cells s).toArray T fz) m) (hs : Z93 s off = some v) (h : WJ C r ((d, v) :: t) m kn) : WJ C (.op ⟨some d, none, .ld 1 false x⟩ :: r) t m kn := Zq _ (Z86 hx hb hs) h
theorem j_i {x : Operand} {b off : Nat} {T : TypeId} {fz : Nat × Nat} {s : List Seg} {k : IntKind} {z e : Int} (hz : z = e) (hx : ev t x = some (.pointer (some ⟨b, off, none⟩))) (hb : Has b (.cells (cells s).toArray T fz) m) (hs : Z93 s off = some (.int k e)) (h : WJ C r ((d, .int k z) :: t) m kn) : WJ C (.op ⟨some d, none, .ld 1 false x⟩ :: r) t m kn := Zq _ (iz hz (Z86 hx hb hs)) h
theorem l_i {x : Operand} {b off : Nat} {T : TypeId} {fz : Nat × Nat} {s : List Seg} {k : IntKind} {z e : Int} (hz : z = e) (hx : ev t x = some (.pointer (some ⟨b, off, none⟩))) (hb : Has b (.cells (cells s).toArray T fz) m0) (hs : Z93 s off = some (.int k e)) (h : WS C R late ((d, .int k z) :: t) m0 m true kn) : WS C (.q [i] (.op ⟨some d, none, .ld 1 false x⟩) R) late t m0 m true kn := Z0v _ (iz hz (Z86 hx hb hs)) h
theorem Z4c {off b o1 : Nat} {x : Operand} (hx : ev t x = some (.pointer (some ⟨b, o1, none⟩))) (h : WJ C r ((d, .pointer (some ⟨b, o1 + off, none⟩)) :: t) m kn) : WJ C (.op ⟨some d, none, .fa off x⟩ :: r) t m kn := Zq _ (Zrm hx) h
theorem Zdc {off b o1 : Nat} {x : Operand} (hx : ev t x = some (.pointer (some ⟨b, o1, none⟩))) (h : WS C R late ((d, .pointer (some ⟨b, o1 + off, none⟩)) :: t) m0 m bb kn) : WS C (.p [i] (.op ⟨some d, none, .fa off x⟩) R) late t m0 m bb kn := Z0x _ (Zrm hx) h
theorem Zf1 {x : Operand} {j : Nat} {vs : Array Value} {v : Value} (hx : ev t x = some (.tuple vs)) (hv : vs.toList[j]? = some v) (h : WJ C r ((d, v) :: t) m kn) : WJ C (.op ⟨some d, none, .ext x j⟩ :: r) t m kn := Zq _ (Zpp hx hv) h
theorem j_c {op : BinOp} {x y : Operand} {v : Value} (hv : bin1 t op x y = some v) (h : WJ C r ((d, v) :: t) m kn) : WJ C (.op ⟨some d, none, .bin op x y⟩ :: r) t m kn := Zq _ (Z035 hv) h
theorem j_b {op : BinOp} {x y : Operand} {k : IntKind} {z e : Int} (hz : z = e) (hv : bin1 t op x y = some (.int k e)) (h : WJ C r ((d, .int k z) :: t) m kn) : WJ C (.op ⟨some d, none, .bin op x y⟩ :: r) t m kn := Zq _ (iz hz (Z035 hv)) h
theorem k_b {op : BinOp} {x y : Operand} {k : IntKind} {z e : Int} (hz : z = e) (hv : bin1 t op x y = some (.int k e)) (h : WS C R late ((d, .int k z) :: t) m0 m bb kn) : WS C (.p [i] (.op ⟨some d, none, .bin op x y⟩) R) late t m0 m bb kn := Z0x _ (iz hz (Z035 hv)) h
theorem Z44 {len w b o1 : Nat} {x y : Operand} {k : IntKind} {z : Int} (hx : ev t x = some (.pointer (some ⟨b, o1, none⟩))) (hy : ev t y = some (.int k z)) (hz : 0 <= z /\ z < len) (h : WJ C r ((d, .pointer (some ⟨b, o1 + z.toNat * w, none⟩)) :: t) m kn) : WJ C (.op ⟨some d, none, .ia len w x y⟩ :: r) t m kn := Zq _ (q_ia hx hy hz) h
theorem Z6v {len w b o1 : Nat} {x y : Operand} {k : IntKind} {z : Int} (hx : ev t x = some (.pointer (some ⟨b, o1, none⟩))) (hy : ev t y = some (.int k z)) (hz : 0 <= z /\ z < len) (h : WS C R late ((d, .pointer (some ⟨b, o1 + z.toNat * w, none⟩)) :: t) m0 m bb kn) : WS C (.p [i] (.op ⟨some d, none, .ia len w x y⟩) R) late t m0 m bb kn := Z0x _ (q_ia hx hy hz) h
theorem j_v {x : Operand} {k k' : IntKind} {n z : Int} (hz : z = k.wrap n) (hx : ev t x = some (.int k' n)) (h : WJ C r ((d, .int k z) :: t) m kn) : WJ C (.op ⟨some d, none, .conv k x⟩ :: r) t m kn := Zq _ (iz hz (Zpo hx)) h
theorem k_m {x : Operand} {v : Value} (hx : ev t x = some v) (h : WS C R late ((d, v) :: t) m0 m bb kn) : WS C (.p [i] (.op ⟨some d, none, .mv x⟩) R) late t m0 m bb kn := Z0x _ (Z5r hx) h
theorem Z2o {f : FuncId} {args : List Operand} {vs : List Value} {v : Value} (ha : evL t args = some vs) (hc : ∀ {w : World}, Calls C.P f vs.toArray w (Z1w w v)) (h : WJ C r ((d, v) :: t) m kn) : WJ C (.op ⟨some d, none, .call f args⟩ :: r) t m kn := Zq _ (q_cl ha hc) h
theorem Z4o {f : FuncId} {args : List Operand} {vs : List Value} {v : Value} (ha : evL t args = some vs) (hc : ∀ {w : World}, Calls C.P f vs.toArray w (Z1w w v)) (h : WS C R late ((d, v) :: t) m0 m bb kn) : WS C (.p [i] (.op ⟨some d, none, .call f args⟩) R) late t m0 m bb kn := Z0x _ (q_cl ha hc) h
end
theorem Z1f {c:Zd} {ms m m1 m2:List Zd} (h1:Z4j c m m1) (h2:Zf3 ms m1 m2):List.Perm ((c::ms)++m2) m:=(h2.perm.cons c).trans h1.perm
theorem Z0lp {c:Zd} {m m1:List Zd} (h1:Z4j c m m1):List.Perm ((c :: [])++m1) m:=h1.perm
theorem Z0w {W0:World} {S:List Nat} {m:List Zd} {w:World} (h:Sat W0 S m w) {c:Zd} {ms mr:List Zd} (hp:List.Perm ((c::ms)++mr) m):Sat w (c.b::ms.map (·.b)) (c::(ms ++ [])) w:=by
 rw [List.append_nil]; exact Zey h hp
theorem Zjk.one1 {u:Value} (h:Zjk u):one1 u=true:=by obtain ⟨a,n,c,rfl⟩:=h; rfl
section
variable {α:Type} {m:List Zd} {E:El α} {v:Value} {xs:List α}
theorem Zh2 {b:Nat} {S:List Nat} (h1:Za8 v xs [b]) (h2:Za8 v xs S):Za8 v xs (b::S):=by
 intro a n c e h0 hm
 rcases List.mem_cons.1 hm with h | h
 ·exact h1 a n c e h0 (List.mem_singleton.2 h)
 ·exact h2 a n c e h0 h
theorem Zvx:Za8 v xs (([]:List Zd).map (·.b)):=fun _ _ _ _ _=>by simp
theorem Zf5 {W0 w:World} {ms ms2 m1 m2:List Zd} {T:List Nat} (hO:Z0c E v ms xs) (hT:Zf3 ms m m1) (h2:Zf3 ms2 m1 m2) (hw:Sat W0 T m w):Za8 v xs (ms2.map (·.b)):=by
 intro a n c e h0 hm
 obtain ⟨k,hk,e2⟩:=List.mem_map.1 hm
 have hmem:k∈m1:=h2.perm.subset (List.mem_append_left _ hk)
 rcases hO with ⟨h1,h3,_⟩ | ⟨b1,o1,cp,T1,cs,h1,_,h3,_,_⟩
 ·subst h3; simp at h0
 ·subst h1
  injection e with e; injection e with e; subst e
  subst h3
  have hd:=(hw.perm hT.perm).dist
  simp only [List.cons_append,List.nil_append,List.map_cons,List.nodup_cons] at hd
  exact hd.1 (List.mem_map.2 ⟨k,hmem,e2⟩)
theorem Zr5 {W0 w:World} {S:List Nat} {ms m1:List Zd} (h:Z6r E W0 v xs) (hS:Za8 v xs S) (hT:Zf3 ms m m1) (hw:Sat W0 S m w):Za8 v xs (ms.map (·.b)):=by
 intro a n c e h0 hm
 obtain ⟨k,hk,e2⟩:=List.mem_map.1 hm
 have hmem:k∈m:=hT.perm.subset (List.mem_append_left _ hk)
 rcases hw.base _ hmem with h6 | h6
 ·rcases h with ⟨h1,h2⟩ | ⟨b',o',cp,h1,h2,h3⟩ | ⟨_,_,h2⟩
  ·subst h2; simp at h0
  ·rw [h1] at e
   injection e with e; injection e with e; subst e
   have h4:=h3 0 h0 0 E.pos
   have h5:0<(E.cell (xs.getD 0 E.z)).length:=by rw [E.len]; exact E.pos
   rw [List.getElem?_eq_getElem h5] at h4
   have:=Zlt h4
   simp only at this e2
   omega
  ·subst h2; simp at h0
 ·exact hS a n c e h0 (by rw [<- e2]; exact h6)
theorem Zr4 {W0 w:World} {S:List Nat} {b:Nat} {o:Obj} (h:Z6r E W0 v xs) (hS:Za8 v xs S) (hb:Has b o m) (hw:Sat W0 S m w):Za8 v xs [b]:=by
 intro a n c e h0 hm
 simp only [List.mem_singleton] at hm
 rcases hw.base _ hb.mem with h6 | h6
 ·rcases h with ⟨h1,h2⟩ | ⟨b',o',cp,h1,h2,h3⟩ | ⟨_,_,h2⟩
  ·subst h2; simp at h0
  ·rw [h1] at e
   injection e with e; injection e with e; subst e
   have h4:=h3 0 h0 0 E.pos
   have h5:0<(E.cell (xs.getD 0 E.z)).length:=by rw [E.len]; exact E.pos
   rw [List.getElem?_eq_getElem h5] at h4
   have:=Zlt h4
   simp only at this h6 hm
   omega
  ·subst h2; simp at h0
 ·exact hS a n c e h0 (by rw [hm]; exact h6)
theorem Zj2 {W0 w:World} {n c:Nat} {c':Zd} {ms m1 m2:List Zd} {T:List Nat} {a:Addr} (hT:Z4j c' m m1) (h2:Zf3 ms m1 m2) (hw:Sat W0 T m w) (ha:a.block=c'.b):Za8 (.slice (some a) n c) xs (ms.map (·.b)):=by
 intro a' n' c1 e h0 hm
 injection e with e; injection e with e; subst e
 obtain ⟨k,hk,e2⟩:=List.mem_map.1 hm
 have hd:=(hw.perm hT.perm).dist
 simp only [List.map_cons,List.nodup_cons] at hd
 exact hd.1 (List.mem_map.2 ⟨k,h2.perm.subset (List.mem_append_left _ hk),by rw [<- ha]; exact e2⟩)
theorem Zj1 {W0 w:World} {b n c:Nat} {o:Obj} {c':Zd} {m1:List Zd} {T:List Nat} {a:Addr} (hT:Z4j c' m m1) (hb:Has b o m1) (hw:Sat W0 T m w) (ha:a.block=c'.b):Za8 (.slice (some a) n c) xs [b] :=
 Z019 (b':=0) hT hb hw ha
end
section
variable {α:Type} {C:Cfg} {m:List Zd} {t:TS} {K:KN} {E:El α} {v:Value} {xs:List α}
end
section
variable {C:Cfg} {t:TS} {m m0:List Zd} {kn:KN} {op:IOp} {r:List J} {d:Option Nat} {tc i:Nat} {want bb:Bool} {late:List Nat} {rs:Sch}
end
theorem Z05q {P:Program} {o:Oper} {x:Operand} {args:List Operand} (h:Za4 P o (.cv x args)=true) : ∃ c,o.op = .call c/\c.callee = .value x/\c.args.toList=args:=by
 simp only [Za4] at h
 split at h
 ·rename_i c heq
  simp only [Bool.and_eq_true] at h
  obtain ⟨h1,h2⟩:=h
  split at h1
  ·rename_i y hc
   have:=Z0m h1; subst this
   exact ⟨c,heq,hc,Z81 h2⟩
  ·cases h1
 ·cases h
theorem Z06a {c:Call} {args:List Operand} {a:Act} {vs:List Value} (h:c.args.toList=args) (hv:args.map a.eval=vs):c.args.map a.eval=vs.toArray:=by
 rw [<- hv,<- h,<- Array.toList_map,Array.toArray_toList]
theorem Z0ct {P:Program} {o:Oper} {x:Operand} {args:List Operand} {a:Act} {f:FuncId} {fn:Func} {caps:Array Value} {vs:List Value} {w:World} (h:Za4 P o (.cv x args)=true) (hx:a.eval x = .func (.func f) #[] caps) (hv:args.map a.eval=vs)
  (hf:P.funcs[f]? = some fn) (hb:fn.body.isSome=true) (hn:(fn.name == "runtime.NumGoroutine")=false):(execOp a.eval o).run P w = .ok (.enter f (vs.toArray++caps)) w:=by
 obtain ⟨c,heq,hc,ha⟩:=Z05q h
 have hn':fn.name ≠ "runtime.NumGoroutine" := by simpa using hn
 have hb2:fn.body≠none:=by intro e; rw [e] at hb; cases hb
 simp only [execOp,heq,resolve,hc,hx,Deferred.ofValue,Sem.run_bind,Sem.run_pure,Result.andThen_ok,invoke,Array.append_empty,Array.empty_append,Z06a ha hv,callFunc]
 simp [program,Sem.run,hf,hn',hb2]
abbrev ra (R:Loop) (s:LoopState) (p:Option Code):Loop:={ R with state:=s,pending:=p }
def Z66 (P:Program) (f:FuncId):Bool:=match P.funcs[f]? with
 | some fn => !(fn.name == "runtime.NumGoroutine")
 | none=>false
theorem q_mf {C:Cfg} {t:TS} {m:List Zd} {f:FuncId} {caps:List Operand} {vs:List Value} (hv:evL t caps=some vs):Q1 C m t (.mf f caps) (.func (.func f) #[] vs.toArray):=by
 intro o ho a ha w hw
 simp only [Za4] at ho
 split at ho
 ·rename_i f' first captured heq
  simp only [Bool.and_eq_true,Nat.beq_eq] at ho
  obtain ⟨⟨h1,h2⟩,h3⟩:=ho
  subst h1
  have h2':first = #[]:=by simpa using h2
  subst h2'
  have h3':=Z81 h3
  refine Z0t ?_
  have e:captured.map a.eval=vs.toArray:=by
   rw [<- ha.evL hv,<- h3',<- Array.toList_map,Array.toArray_toList]
  simp [execOp,heq,Instr.makeFunc,e]
 ·cases ho
section
variable {α:Type} {C:Cfg} {m:List Zd} {t:TS} {K:KN} {E:El α} {v:Value} {xs:List α}
end
def Zxp (P:Program) (f:FuncId):Bool:=match P.funcs[f]? with
 | some fn=>fn.body.isSome && !(fn.name == "runtime.NumGoroutine")
 | none=>false
section
variable {C:Cfg} {m:List Zd} {t:TS} {K:KN}
theorem Zwy {P:Program} {o:Oper} {x:Operand} {args:List Operand} {a:Act} {f:FuncId} {caps vs:List Value} {w:World} (hn:Zxp P f=true) (h:Za4 P o (.cv x args)=true) (hx:a.eval x = .func (.func f) #[] caps.toArray) (hv:args.map a.eval=vs) :
  (execOp a.eval o).run P w = .ok (.enter f (vs++caps).toArray) w:=by
 unfold Zxp at hn
 split at hn
 ·rename_i fn hf
  simp only [Bool.and_eq_true,Bool.not_eq_true'] at hn
  rw [Z0ct h hx hv hf hn.1 hn.2]
  simp
 ·cases hn
theorem Znn {x:Operand} {f:FuncId} {args:List Operand} {vs caps:List Value} {v:Value} (hn:Zxp C.P f=true) (hx:ev t x=some (.func (.func f) #[] caps.toArray)) (ha:evL t args=some vs)
  (h : ∀ w,Sat C.W0 C.S m w->Calls C.P f (vs++caps).toArray w (Z1w w v)):Q1 C m t (.cv x args) v:=by
 intro o ho a hat w hw
 unfold Oper.quietAt
 rw [Zwy hn ho (hat.ev hx) (hat.evL ha)]
 exact ⟨rfl,(h w hw).mono fun e w' he=>he⟩
theorem Z0e6 {d:Option Nat} {x:Operand} {f:FuncId} {args:List Operand} {vs caps:List Value} {mS mr:List Zd} {R:Value->List Zd->Prop} (hn:Zxp C.P f=true) (hx:ev t x=some (.func (.func f) #[] caps.toArray)) (ha:evL t args=some vs) (hp:List.Perm (mS++mr) m)
  (hc : ∀ w,Sat C.W0 C.S m w->Calls C.P f (vs++caps).toArray w (retM w (mS.map (·.b)) R))
  (h : ∀ v m',R v m'->K (putT d v t) (m'++mr)):EF C m t d (.cv x args) K:=by
 intro o ho hd a hat w hw
 unfold Oper.wp
 rw [Zwy hn ho (hat.ev hx) (hat.evL ha)]
 simp only [Oper.upon]
 refine (hc w hw).mono ?_
 rintro e w' ⟨v,m',rfl,hR,hs⟩
 have hsat:=Zrv hw hp hs
 cases d with
 | none =>
  have hd0:o.dst=none:=by revert hd; cases o.dst <;> simp [okD]
  rw [hd0]
  exact ⟨_,_,h v m' hR,hat,hsat⟩
 | some d =>
  obtain ⟨hd1,hd2⟩:=Z5f hd
  rw [hd1]
  exact ⟨_,_,h v m' hR,hat.put hd2 v,hsat⟩
theorem Z01r {d:Option Nat} {x:Operand} {f:FuncId} {args:List Operand} {vs caps:List Value} {mS mr:List Zd} {R:Value->List Pc->Prop} (hn:Zxp C.P f=true) (hx:ev t x=some (.func (.func f) #[] caps.toArray)) (ha:evL t args=some vs) (hp:List.Perm (mS++mr) m)
  (hc : ∀ w,Sat C.W0 C.S m w->Calls C.P f (vs++caps).toArray w (Z67 w (mS.map (·.b)) R))
  (h : ∀ v Ms,R v Ms->K (putT d v t) (appL Ms mr)):EF C m t d (.cv x args) K :=
 Z0e6 hn hx ha hp hc fun v m' ⟨Ms,e,hR⟩=>by subst e; rw [Zol]; exact h v Ms hR
theorem Zk5 {d:Option Nat} {x:Operand} {f:FuncId} {args:List Operand} {vs caps:List Value} {R:Value->List Pc->Prop} (hn:Zxp C.P f=true) (hx:ev t x=some (.func (.func f) #[] caps.toArray)) (ha:evL t args=some vs)
  (hc : ∀ w,Sat C.W0 C.S m w->Calls C.P f (vs++caps).toArray w (Z67 w [] R))
  (h : ∀ v Ms,R v Ms->K (putT d v t) (appL Ms m)):EF C m t d (.cv x args) K :=
 Z01r (mS:=[]) hn hx ha (List.Perm.refl _) hc h
def CapV (w:World) (b:Nat) (v:Value):Prop:=w.cell? ⟨b,0,none⟩=some v
def CapM (C:Cfg) (m:List Zd) (b:Nat) (v:Value):Prop:=∀ w,Sat C.W0 C.S m w->CapV w b v
theorem Zcx {b:Nat} {v:Value} (h:CapV C.W0 b v) (hS:b∉C.S):CapM C m b v:=by
 intro w hw
 have h1:=h
 unfold CapV at h1 ⊢
 rw [<- h1]
 unfold World.cell?; simp only [hw.fr.block _ (Zlt h1) hS]
theorem Zig {x:Operand} {b:Nat} {v:Value} (hx:ev t x=some (.pointer (some ⟨b,0,none⟩))) (hs:CapM C m b v):Q1 C m t (.ld 1 false x) v:=by
 intro o ho a ha w hw
 refine Z0t ((Z50 ho (ha.ev hx) (l:=[v]) rfl (fun k hk=>?_) (fun _=>rfl)).trans rfl)
 obtain rfl:k=0:=by omega
 exact hs w hw
theorem Zov {d:Option Nat} {x:Operand} {f:FuncId} {args:List Operand} {vs caps:List Value} {v:Value} (hn:Zxp C.P f=true) (hx:ev t x=some (.func (.func f) #[] caps.toArray)) (ha:evL t args=some vs)
  (hc : ∀ w,Sat C.W0 C.S m w->Calls C.P f (vs++caps).toArray w (Z1w w v)) (h:K (putT d v t) m):EF C m t d (.cv x args) K:=by
 intro o ho hd a hat w hw
 unfold Oper.wp
 rw [Zwy hn ho (hat.ev hx) (hat.evL ha)]
 simp only [Oper.upon]
 refine (hc w hw).mono ?_
 rintro e w' ⟨rfl,hb⟩
 cases d with
 | none =>
  have hd0:o.dst=none:=by revert hd; cases o.dst <;> simp [okD]
  rw [hd0]
  exact ⟨_,_,h,hat,hw.of_below hb⟩
 | some d =>
  obtain ⟨hd1,hd2⟩:=Z5f hd
  rw [hd1]
  exact ⟨_,_,h,hat.put hd2 v,hw.of_below hb⟩
end
section
variable {α:Type} {C:Cfg} {m:List Zd} {t:TS} {K:KN} {E:El α} {v:Value} {xs:List α}
end
section
variable {C:Cfg} {m:List Zd} {t:TS} {K:KN}
end
section
variable {C:Cfg} {t:TS} {m:List Zd} {kp:List PanicEntry->KN} {kn:KN} {ke:KE}
end
section
variable {α β ε:Type} {G:Prop}
end
section
variable {C:Cfg} {t:TS} {m:List Zd} {kp:List PanicEntry->KN} {kn:KN}
end
theorem Z08c {C:Cfg} {t:TS} {m0 m:List Zd} {kn:KN} {ke:KE} {s:Sch} {late:List Nat} (hs:List.Sublist m0 m) (h:WS C s late t m0 m true kn):WC C (.draw s late) t m kn ke:=by
 intro hm c0 hok ρ fu Q a w ha hw hc
 cases c0 <;> first | (simp [okC] at hok; done) | skip
 rename_i id ops draw
 simp only [okC,Bool.and_eq_true,Nat.beq_eq] at hok
 obtain ⟨⟨⟨⟨⟨h1,h2⟩,hnd⟩,h3⟩,h5⟩,h4⟩:=hok
 subst h1
 refine wpIn_region_any hm ?_
 have hcl:Zhc ops (Array.replicate ops.size false):=by
  intro j oj hj hl
  rw [Array.getD_eq_getD_getElem?,Array.getElem?_replicate] at hl
  split at hl <;> cases hl
 have H:=h ops _ h4 h5 h2 hcl
 rw [h3] at H
 exact Zgy hnd (fun a' w' ⟨t',m',hk,ha',hw'⟩=>hc.n t' m' hk a' w' ha' hw') _ _ _ H a _ ⟨ha,hw.drew,fun _=>(hw.sublist hs).drew⟩
structure Mp (α:Type) where
 es:List (Int×α×Nat)
 clock:Nat
section
variable {α:Type}
variable {P:Program} {w:World} {T K e:TypeId} {q:IntKind} {b:Nat} {mp:Mp α} {E:El α}
end
section
variable {C:Cfg} {t:TS} {m m':List Zd} {K:KN} {α:Type} {E:El α} {q:IntKind} {mp:Mp α} {b r:Nat} {s:List Seg}
end
section
variable {α:Type}
end
end Go.Sx
namespace Go.Sx
open Go Go.RowKit Go.ChangeShapes
set_option linter.all false
section
variable {H:Type} {enc:TypeId×Value->H}
end
end Go.Sx
namespace Go.Sx
open Go Go.RowKit
set_option linter.all false
def Zbu (ms:List Zd) (w:World):Prop:=∀ c∈ms,w.heap[c.b]? = some c.o
theorem Zbu.of {ms m:List Zd} {W0:World} {S:List Nat} {w:World} (hw:Sat W0 S m w) (hs : ∀ c∈ms,c∈m):Zbu ms w:=fun c hc=>hw.own c (hs c hc)
theorem Zbu.take {ms m m':List Zd} {W0:World} {S:List Nat} {w:World} (hw:Sat W0 S m w) (hs:Zf3 ms m m'):Zbu ms w :=
 .of hw fun c hc=>hs.perm.subset (List.mem_append_left _ hc)
theorem Zbu.still {C:Cfg} {m ms:List Zd} {w:World} (h:Zbu ms C.W0) (hS : ∀ c∈ms,c.b∉C.S) (hw:Sat C.W0 C.S m w):Zbu ms w:=fun c hc=>by
 have h1:=h c hc
 rw [hw.fr.block _ (Array.getElem?_eq_some_iff.1 h1).1 (hS c hc)]; exact h1
theorem Zbu.still0 {W0:World} {m ms:List Zd} {w:World} (h:Zbu ms W0) (hw:Sat W0 [] m w):Zbu ms w :=
 Zbu.still (C:=⟨default,0,W0,[]⟩) h (fun _ _=>by simp) hw
theorem Zbu.sub {ms ns:List Zd} {w:World} (h:Zbu ms w) (hs : ∀ c∈ns,c∈ms):Zbu ns w:=fun c hc=>h c (hs c hc)
theorem Zbu.lt {ms:List Zd} {w:World} (h:Zbu ms w) {c:Zd} (hc:c∈ms):c.b<w.heap.size:=(Array.getElem?_eq_some_iff.1 (h c hc)).1
theorem Zbu.cap {ms:List Zd} {w:World} {b:Nat} {T:TypeId} {v:Value} {s:List Seg} (h:Zbu ms w) (hb:ck b T (.one v::s)∈ms):CapV w b v:=by
 have h:=h _ hb
 unfold CapV
 simp only [World.cell?,h]
 simp [cells,Seg.cells]
theorem Zbu.mem {ms:List Zd} {w:World} {b:Nat} {T:TypeId} {s:List Seg} (h:Zbu ms w) (hb:ck b T s∈ms):Mem w b 0 s:=by
 have h:=h _ hb
 refine ⟨fun i hi=>?_,(Array.getElem?_eq_some_iff.1 h).1⟩
 simp only [World.cell?,h]
 simp
theorem Z02e {w:World} {b o:Nat} {s r:List Seg} (h:Mem w b o (s++r)):Mem w b o s:=by
 have e : ∀ (a c:List Seg),cells (a++c)=cells a++cells c:=by
  intro a c; induction a with
  | nil=>rfl
  | cons x a ih=>simp [cells,ih]
 refine ⟨fun i hi=>?_,h.lt⟩
 have h1:i<(cells s).length:=by rw [cells_length]; exact hi
 have h2:width s<=width (s++r):=by rw [<- cells_length,<- cells_length,e,List.length_append]; omega
 rw [h.cell i (by omega),e,List.getElem?_append_left h1]
theorem Zd2 {P:Program} {f:FuncId} {d:FnD} (h:okF P f d=true) (hn:Z66 P f=true):Zxp P f=true:=by
 unfold okF at h; unfold Z66 at hn; unfold Zxp
 split at h
 ·rename_i fn hf
  rw [hf] at hn ⊢
  simp only [Bool.and_eq_true] at h ⊢
  obtain ⟨_,h3⟩:=h
  split at h3
  ·rename_i c hb
   rw [hb]
   exact ⟨rfl,hn⟩
  ·cases h3
 ·cases h
abbrev ClT:=FuncId×List Value
abbrev clV (c:ClT):Value:=.func (.func c.1) #[] c.2.toArray
abbrev pt0 (b:Nat):Value:=.pointer (some ⟨b,0,none⟩)
end Go.Sx
namespace Go.Proofs.YtkjfpenagcdmcaaGreatDoor
open Go Go.Sx Go.RowKit
open List (replicate)
set_option linter.all false
set_option maxHeartbeats 400000
set_option maxRecDepth 100000
def d307:FnD:=⟨3,[.tmp 0],(.sq [jm 0 (.const (.pointer none))] (.sq [jd 1 [.one (.slice none 0 0),.one (.int .i64 0)] [],jx 2 471 1,jm 0 2] .ret))⟩
theorem Z0w7:okF Tryz.prog 307 d307=true:=by kernel_rfl
def d405:FnD:=⟨18,[],(.sq [jm 4 0,jz 5 4,jf 6 1 5,jl 7 1 false 6,jb 8 .eql 7 (ci 0)] (.cond 8 (.ops [jm 9 0,jm 10 0,jz 11 10,jf 12 0 11,jl 13 1 false 12,jm 14 1,oj 15 (.app 5 1 1 [.one (.int .u8 0)] 13 14),jz 16 9,jf 17 0 16,js' 1 17 15]) .skip))⟩
theorem Z0ya:okF Tryz.prog 405 d405=true:=by kernel_rfl
def d298:FnD:=⟨7,[],(.ops [jm 4 0,jm 5 1,jc 6 405 [4,5]])⟩
theorem Z0w6:okF Tryz.prog 298 d298=true:=by kernel_rfl
def Z0hy:IC:=(.ops [jm 9 1,jb 10 .add 9 (ci 1),jm 1 10])
def Z0k8:IC:=(.seq (.sq [jm 5 2,jb 6 .neq 5 (.const (.int .u32 0))] (.cond 6 .skip (.exit 0))) (.seq (.block 1 Z0hy) (.ops [jm 7 2,jb 8 .shr 7 (cu 1),jm 2 8])))
def Z0hx:IC:=(.loop Z0k8)
def d416:FnD:=⟨12,[.tmp 0],(.sq [jm 0 (ci 0)] (.sq [jm 1 (ci 0)] (.seq (.sq [jv 3 .u32 (ci 0),oj 4 (.un .xor 3),jm 2 4] (.block 0 Z0hx)) (.sq [jm 11 1,jm 0 11] .ret))))⟩
theorem Z0yb:okF Tryz.prog 416 d416=true:=by kernel_rfl
def Z0h2:IC:=(.sq [jm 15 3,jm 16 4,jm 17 0,jv 18 .u8 17,ji' 19 1 15 16,js' 1 19 18] (.ops [jm 20 0,jb 21 .shr 20 (cu 8),jm 0 21]))
def Z0js:IC:=(.seq (.sq [jm 11 4,jb 12 .geq 11 (ci 0)] (.cond 12 .skip (.exit 0))) (.seq (.block 1 Z0h2) (.ops [jm 13 4,jb 14 .sub 13 (ci 1),jm 4 14])))
def Z0h1:IC:=(.loop Z0js)
def d312:FnD:=⟨23,[.tmp 2],(.sq [jm 2 (.const (.slice none 0 0))] (.sq [jc 5 416 [],jb 6 .quo 5 (ci 8),oj 7 (.mks 5 1 [.one (.int .u8 0)] 6 6),jm 3 7] (.seq (.sq [jm 8 3,jn' 9 8,jb 10 .sub 9 (ci 1),jm 4 10] (.block 0 Z0h1)) (.sq [jm 22 3,jm 2 22] .ret))))⟩
theorem Z0wa:okF Tryz.prog 312 d312=true:=by kernel_rfl
def d293:FnD:=⟨8,[],(.ops [jm 4 0,jm 5 1,jc 6 312 [5],jc 7 405 [4,6]])⟩
theorem Z0w5:okF Tryz.prog 293 d293=true:=by kernel_rfl
def Z0ii:IC:=(.ops [jm 9 1,jb 10 .add 9 (ci 1),jm 1 10])
def Z0ki:IC:=(.seq (.sq [jm 5 2,jb 6 .neq 5 (cu 0)] (.cond 6 .skip (.exit 0))) (.seq (.block 1 Z0ii) (.ops [jm 7 2,jb 8 .shr 7 (cu 1),jm 2 8])))
def Z0ih:IC:=(.loop Z0ki)
def d475:FnD:=⟨12,[.tmp 0],(.sq [jm 0 (ci 0)] (.sq [jm 1 (ci 0)] (.seq (.sq [jv 3 .u64 (ci 0),oj 4 (.un .xor 3),jm 2 4] (.block 0 Z0ih)) (.sq [jm 11 1,jm 0 11] .ret))))⟩
theorem Z0z9:okF Tryz.prog 475 d475=true:=by kernel_rfl
def Z0hq:IC:=(.sq [jm 15 3,jm 16 4,jm 17 0,jv 18 .u8 17,ji' 19 1 15 16,js' 1 19 18] (.ops [jm 20 0,jb 21 .shr 20 (cu 8),jm 0 21]))
def Z0k4:IC:=(.seq (.sq [jm 11 4,jb 12 .geq 11 (ci 0)] (.cond 12 .skip (.exit 0))) (.seq (.block 1 Z0hq) (.ops [jm 13 4,jb 14 .sub 13 (ci 1),jm 4 14])))
def Z0hp:IC:=(.loop Z0k4)
def d395:FnD:=⟨23,[.tmp 2],(.sq [jm 2 (.const (.slice none 0 0))] (.sq [jc 5 475 [],jb 6 .quo 5 (ci 8),oj 7 (.mks 5 1 [.one (.int .u8 0)] 6 6),jm 3 7] (.seq (.sq [jm 8 3,jn' 9 8,jb 10 .sub 9 (ci 1),jm 4 10] (.block 0 Z0hp)) (.sq [jm 22 3,jm 2 22] .ret))))⟩
theorem Z0y0:okF Tryz.prog 395 d395=true:=by kernel_rfl
def d372:FnD:=⟨8,[],(.ops [jm 4 0,jm 5 1,jc 6 395 [5],jc 7 405 [4,6]])⟩
theorem Z0xm:okF Tryz.prog 372 d372=true:=by kernel_rfl
def Z0o3:Sch:=(.P 0 (jm 9 0) (.P 1 (jz 10 9) (.P 2 (jf 11 1 10) (.P 4 (jm 2 (.const (.slice none 0 0))) (.Q 3 (jl 12 1 false 11) (.P 5 (jm 3 12) .nil))))))
def d309:FnD:=⟨19,[.tmp 2,.tmp 3],(.sq [jm 2 (.const (.slice none 0 0)),jm 3 (ci 0)] (.seq (.sq [jm 4 0,jz 5 4,jf 6 1 5,jl 7 1 false 6,jb 8 .neq 7 (ci 0)] (.cond 8 (.seq (.draw Z0o3 []) .ret) .skip)) (.sq [oj 13 (.bs 5 0 1 [] []),jm 14 0,jz 15 14,jf 16 0 15,jl 17 1 false 16,oj 18 (.app 5 1 1 [.one (.int .u8 0)] 13 17),jm 2 18,jm 3 (ci 0)] .ret)))⟩
theorem Z0w9:okF Tryz.prog 309 d309=true:=by kernel_rfl
def d308:FnD:=⟨12,[.tmp 2],(.sq [jm 2 (.const (.slice none 0 0))] (.seq (.sq [jm 3 0,jb 4 .lss 3 (ci 1),jm 5 4,.lg true 5 8 none [.op ⟨some 6,(some (5,false)),.mv 0⟩,.op ⟨some 7,(some (5,false)),.bin .gtr 6 (ci 255)⟩] 7] (.cond 8 (.sq [jm 2 (.const (.slice none 0 0))] .ret) .skip)) (.sq [jm 9 0,jv 10 .u8 9,oj 11 (.bs 5 4 1 [.one (.int .u8 0),.one (.int .u8 0),.one (.int .u8 0),.one (.int .u8 0)] [(0,1,(c8 70)),(1,1,(c8 66)),(2,1,(c8 1)),(3,1,10)]),jm 2 11] .ret)))⟩
theorem Z0w8:okF Tryz.prog 308 d308=true:=by kernel_rfl
def d42:FnD:=⟨2,[.cell 0 4 true],(.sq [ja 0 79 [.one .nilFunc,.one .nilFunc,.one .nilFunc,.one .nilFunc]] (.sq [jd 1 [.one .nilFunc,.one .nilFunc,.one .nilFunc,.one .nilFunc] [(0,1,(.func 83)),(1,1,(.func 84)),(2,1,(.func 85)),(3,1,(.func 86))],js' 4 0 1] .ret))⟩
theorem ok42:okF Tryz.prog 42 d42=true:=by kernel_rfl
def d256:FnD:=⟨4,[.tmp 0],(.sq [jm 0 (.const (.pointer none))] (.sq [jl 1 8 true (.global 4),jd 2 [.ints .u64 8 (replicate 8 0),.ints .u8 128 (replicate 128 0),.one (.int .i64 0),.one (.int .u64 0)] [(0,8,1)],jx 3 452 2,jm 0 3] .ret))⟩
theorem Z0v8:okF Tryz.prog 256 d256=true:=by kernel_rfl
def Z0oj:LJ:=[jm 8 1,jb 9 .lss 8 (ci 0),jm 10 9,.lg true 10 17 none [.op ⟨some 11,(some (10,false)),.mv 1⟩,.op ⟨some 12,(some (10,false)),.mv 0⟩,.op ⟨some 13,(some (10,false)),.len 12⟩,.op ⟨some 14,(some (10,false)),.mv 5⟩,.op ⟨some 15,(some (10,false)),.bin .sub 13 14⟩,.op ⟨some 16,(some (10,false)),.bin .gtr 11 15⟩] 16]
def d469:FnD:=⟨24,[.tmp 4],(.sq [jm 4 (.const (.slice none 0 0))] (.sq [jc 6 475 [],jb 7 .quo 6 (ci 8),jm 5 7] (.seq (.sq Z0oj (.cond 17 (.sq [jm 4 (.const (.slice none 0 0))] .ret) .skip)) (.sq [jm 18 0,jm 19 1,jm 20 1,jm 21 5,jb 22 .add 20 21,oj 23 (.sls 1 18 (some 19) (some 22) none),jm 4 23] .ret))))⟩
theorem Z0z3:okF Tryz.prog 469 d469=true:=by kernel_rfl
def Z0ia:IC:=(.sq [ji' 17 1 13 15,jl 18 1 false 17,jm 9 18] (.ops [jm 19 6,jb 20 .shl 19 (cu 8),jm 21 9,jv 22 .u64 21,jb 23 .or 20 22,jm 6 23]))
def Z0ke:IC:=(.sq [jb 16 .lss 15 14] (.seq (.cond 16 .skip (.exit 0)) (.seq (.block 1 Z0ia) (.ops [jb 24 .add 15 (ci 1),jm 15 24]))))
def Z0i9:IC:=(.loop Z0ke)
def d467:FnD:=⟨28,[.tmp 4,.tmp 5],(.sq [jm 4 (cu 0),jm 5 (.const (.bool false))] (.sq [jm 6 (cu 0)] (.sq [jm 10 0,jm 11 1,jc 12 469 [10,11],jm 7 12] (.seq (.sq [jm 13 7,jn' 14 13,jm 15 (ci 0)] (.block 0 Z0i9)) (.sq [jm 25 6,jm 26 7,oj 27 (.isn true 26),jm 4 25,jm 5 27] .ret)))))⟩
theorem Z0z1:okF Tryz.prog 467 d467=true:=by kernel_rfl
def d484:FnD:=⟨24,[.tmp 4],(.sq [jm 4 (cu 0)] (.sq [jc 7 475 [],jm 5 7] (.sq [jm 8 1,jv 9 .u64 8,jm 10 5,jb 11 .sub 10 (ci 1),jv 12 .u64 11,jb 13 .and 9 12,jm 6 13] (.sq [jm 14 0,jm 15 6,jb 16 .shr 14 15,jm 17 0,jm 18 5,jv 19 .u64 18,jm 20 6,jb 21 .sub 19 20,jb 22 .shl 17 21,jb 23 .or 16 22,jm 4 23] .ret))))⟩
theorem Z0zb:okF Tryz.prog 484 d484=true:=by kernel_rfl
def Z0ol:Sch:=(.P 0 (jm 9 0) (.P 1 (jm 10 1) (.P 2 (jc 11 484 [9,10]) (.P 3 (jm 12 0) (.P 4 (jm 13 2) (.P 5 (jc 14 484 [12,13]) (.P 6 (jb 15 .xor 11 14) (.P 7 (jm 16 0) (.P 8 (jm 17 3) (.P 9 (jb 18 .shr 16 17) (.P 10 (jb 19 .xor 15 18) (.P 11 (jm 8 19) .nil))))))))))))
def d483:FnD:=⟨20,[.tmp 8],(.sq [jm 8 (cu 0)] (.seq (.draw Z0ol []) .ret))⟩
theorem Z0za:okF Tryz.prog 483 d483=true:=by kernel_rfl
def Z0ok:Sch:=(.P 0 (jm 19 4) (.P 1 (jm 20 4) (.P 2 (jb 21 .sub 20 (ci 2)) (.P 3 (ji 22 80 1 3 21) (.P 6 (jm 25 4) (.P 7 (jb 26 .sub 25 (ci 7)) (.P 8 (ji 27 80 1 3 26) (.P 11 (jm 30 4) (.P 12 (jb 31 .sub 30 (ci 15)) (.P 13 (ji 32 80 1 3 31) (.P 17 (jm 36 4) (.P 18 (jb 37 .sub 36 (ci 16)) (.P 19 (ji 38 80 1 3 37) (.Q 4 (jl 23 1 false 22) (.P 5 (jc 24 483 [23,(ci 19),(ci 61),(ci 6)]) (.Q 9 (jl 28 1 false 27) (.P 10 (jb 29 .add 24 28) (.Q 14 (jl 33 1 false 32) (.P 15 (jc 34 483 [33,(ci 1),(ci 8),(ci 7)]) (.P 16 (jb 35 .add 29 34) (.Q 20 (jl 39 1 false 38) (.P 21 (jb 40 .add 35 39) (.P 22 (ji 41 80 1 3 19) (.e 23 (jo' 1 41 40) .nil))))))))))))))))))))))))
def Z0ic:IC:=(.sq [jm 7 5,jm 4 7] (.seq (.sq [jm 8 4,jb 9 .lss 8 (ci 16)] (.cond 9 (.sq [jm 11 4,oj 12 (.sla 128 1 1 none none none),jm 13 4,jb 14 .mul (ci 8) 13,jc 15 467 [12,14],jm 10 15,je 16 10 0,je 17 10 1,ji 18 80 1 3 11,js' 1 18 16] (.exit 1)) .skip)) (.draw Z0ok [23])))
def Z0kf:IC:=(.sq [jb 6 .lss 5 (ci 80)] (.seq (.cond 6 .skip (.exit 0)) (.seq (.block 1 Z0ic) (.ops [jb 42 .add 5 (ci 1),jm 5 42]))))
def Z0ib:IC:=(.loop Z0kf)
def d470:FnD:=⟨44,[.cell 2 80 true],(.sq [jx 1 450 0,ja 2 343 [.ints .u64 80 (replicate 80 0)]] (.sq [ja 3 343 [.ints .u64 80 (replicate 80 0)]] (.seq (.sq [jm 5 (ci 0)] (.block 0 Z0ib)) (.sq [jl 43 80 true 3,js' 80 2 43] .ret))))⟩
theorem Z0z4:okF Tryz.prog 470 d470=true:=by kernel_rfl
def d471:FnD:=⟨20,[.tmp 8],(.sq [jm 8 (cu 0)] (.sq [jm 9 0,jm 10 1,jc 11 484 [9,10],jm 12 0,jm 13 2,jc 14 484 [12,13],jb 15 .xor 11 14,jm 16 0,jm 17 3,jc 18 484 [16,17],jb 19 .xor 15 18,jm 8 19] .ret))⟩
theorem Z0z5:okF Tryz.prog 471 d471=true:=by kernel_rfl
def Z0o7:Sch:=(.P 0 (ji 22 8 1 2 (ci 0)) (.P 2 (ji 24 8 1 2 (ci 1)) (.P 4 (ji 26 8 1 2 (ci 2)) (.P 6 (ji 28 8 1 2 (ci 3)) (.Q 1 (jl 23 1 false 22) (.P 8 (jm 6 23) (.Q 3 (jl 25 1 false 24) (.P 9 (jm 7 25) (.Q 5 (jl 27 1 false 26) (.P 10 (jm 8 27) (.Q 7 (jl 29 1 false 28) (.P 11 (jm 9 29) .nil))))))))))))
def Z0o8:Sch:=(.P 0 (ji 30 8 1 2 (ci 4)) (.P 2 (ji 32 8 1 2 (ci 5)) (.P 4 (ji 34 8 1 2 (ci 6)) (.P 6 (ji 36 8 1 2 (ci 7)) (.Q 1 (jl 31 1 false 30) (.P 8 (jm 10 31) (.Q 3 (jl 33 1 false 32) (.P 9 (jm 11 33) (.Q 5 (jl 35 1 false 34) (.P 10 (jm 12 35) (.Q 7 (jl 37 1 false 36) (.P 11 (jm 13 37) .nil))))))))))))
def Z0o9:Sch:=(.P 0 (jm 43 13) (.P 1 (jm 44 10) (.P 2 (jc 45 471 [44,(ci 14),(ci 18),(ci 41)]) (.P 3 (jb 46 .add 43 45) (.P 4 (jm 47 10) (.P 5 (jm 48 11) (.P 6 (jb 49 .and 47 48) (.P 7 (jm 50 10) (.P 8 (oj 51 (.un .xor 50)) (.P 9 (jm 52 12) (.P 10 (jb 53 .and 51 52) (.P 11 (jb 54 .xor 49 53) (.P 12 (jb 55 .add 46 54) (.P 13 (jm 56 15) (.P 14 (jb 57 .add 55 56) (.P 15 (jm 58 14) (.P 16 (ji 59 80 1 5 58) (.Q 17 (jl 60 1 false 59) (.P 18 (jb 61 .add 57 60) (.P 19 (jm 16 61) .nil))))))))))))))))))))
def Z0hi:IC:=(.sq [jm 41 39,oj 42 (.idx 80 1 false 38 39),jm 14 41,jm 15 42] (.seq (.draw Z0o9 []) (.sq [jm 62 6,jc 63 471 [62,(ci 28),(ci 34),(ci 39)],jm 64 6,jm 65 7,jb 66 .and 64 65,jm 67 6,jm 68 8,jb 69 .and 67 68,jb 70 .xor 66 69,jm 71 7,jm 72 8,jb 73 .and 71 72,jb 74 .xor 70 73,jb 75 .add 63 74,jm 17 75] (.ops [jm 76 12,jm 77 11,jm 78 10,jm 79 9,jm 80 16,jb 81 .add 79 80,jm 82 8,jm 83 7,jm 84 6,jm 85 16,jm 86 17,jb 87 .add 85 86,jm 13 76,jm 12 77,jm 11 78,jm 10 81,jm 9 82,jm 8 83,jm 7 84,jm 6 87]))))
def Z0k0:IC:=(.sq [jb 40 .lss 39 (ci 80)] (.seq (.cond 40 .skip (.exit 0)) (.seq (.block 1 Z0hi) (.ops [jb 88 .add 39 (ci 1),jm 39 88]))))
def Z0hh:IC:=(.loop Z0k0)
def Z0hk:IC:=(.sq [jm 100 98,oj 101 (.idx 8 1 false 97 98),jm 18 100,jm 19 101] (.ops [jm 102 18,ji 103 8 1 2 102,jl 104 1 false 103,jm 105 19,jb 106 .add 104 105,ji 107 8 1 2 102,js' 1 107 106]))
def Z0k1:IC:=(.sq [jb 99 .lss 98 (ci 8)] (.seq (.cond 99 .skip (.exit 2)) (.seq (.block 3 Z0hk) (.ops [jb 108 .add 98 (ci 1),jm 98 108]))))
def Z0hj:IC:=(.loop Z0k1)
def d390:FnD:=⟨110,[.cell 4 8 true],(.sq [jx 2 230 0,jx 3 450 1,ja 4 230 [.ints .u64 8 (replicate 8 0)]] (.sq [jl 20 128 true 3,jc 21 470 [20],ja 5 343 [.ints .u64 80 (replicate 80 0)],js' 80 5 21] (.seq (.draw Z0o7 []) (.seq (.draw Z0o8 []) (.seq (.sq [jl 38 80 true (.global 6),jm 39 (ci 0)] (.block 0 Z0hh)) (.seq (.sq [jm 89 6,jm 90 7,jm 91 8,jm 92 9,jm 93 10,jm 94 11,jm 95 12,jm 96 13,jd 97 [.ints .u64 8 (replicate 8 0)] [(0,1,89),(1,1,90),(2,1,91),(3,1,92),(4,1,93),(5,1,94),(6,1,95),(7,1,96)],jm 98 (ci 0)] (.block 2 Z0hj)) (.sq [jl 109 8 true 2,js' 8 4 109] .ret)))))))⟩
theorem Z0xv:okF Tryz.prog 390 d390=true:=by kernel_rfl
def Z0n7:Sch:=(.P 0 (jm 18 0) (.P 1 (jz 19 18) (.P 2 (jf 20 8 19) (.P 3 (jm 21 0) (.P 4 (jz 22 21) (.P 5 (jf 23 136 22) (.P 8 (jm 26 1) (.Q 6 (jl 24 1 false 23) (.P 7 (oj 25 (.sla 128 1 20 (some 24) none none)) (.e 9 (oi 27 (.cpy 1 25 26)) (.P 10 (jm 4 27) .nil)))))))))))
def Z0n8:Sch:=(.P 0 (jm 44 0) (.P 1 (jm 45 0) (.P 2 (jz 46 45) (.P 3 (jf 47 0 46) (.P 5 (jm 49 0) (.P 6 (jz 50 49) (.P 7 (jf 51 8 50) (.Q 4 (jl 48 8 true 47) (.Q 8 (jl 52 128 true 51) (.P 9 (jc 53 390 [48,52]) (.P 10 (jz 54 44) (.P 11 (jf 55 0 54) (.e 12 (jo' 8 55 53) .nil)))))))))))))
def Z0g6:IC:=(.seq (.draw Z0n7 [9]) (.sq [jm 28 1,jm 29 4,oj 30 (.sls 1 28 (some 29) none none),jm 1 30] (.sq [jm 31 0,jz 32 31,jf 33 136 32,jl 34 1 false 33,jm 35 4,jb 36 .add 34 35,jz 37 31,jf 38 136 37,js' 1 38 36] (.sq [jm 39 0,jz 40 39,jf 41 136 40,jl 42 1 false 41,jb 43 .eql 42 (ci 128)] (.cond 43 (.seq (.draw Z0n8 [12]) (.ops [jm 56 0,jz 57 56,jf 58 136 57,js' 1 58 (ci 0)])) .skip)))))
def Z0jc:IC:=(.seq (.sq [jm 15 1,jn' 16 15,jb 17 .gtr 16 (ci 0)] (.cond 17 .skip (.exit 0))) (.block 1 Z0g6))
def Z0g5:IC:=(.loop Z0jc)
def d257:FnD:=⟨59,[],(.sq [jm 5 0,jz 6 5,jf 7 137 6,jl 8 1 false 7,jm 9 1,jn' 10 9,jv 11 .u64 10,jb 12 .add 8 11,jz 13 5,jf 14 137 13,js' 1 14 12] (.block 0 Z0g5))⟩
theorem Z0v9:okF Tryz.prog 257 d257=true:=by kernel_rfl
def Z0hg:IC:=(.sq [jm 17 15,ji' 18 1 13 15,jl 19 1 false 18,jm 8 17,jm 9 19] (.ops [jm 20 6,jm 21 9,jv 22 .u64 21,jm 23 8,jb 24 .mul (ci 8) 23,jb 25 .shl 22 24,jb 26 .or 20 25,jm 6 26]))
def Z0jz:IC:=(.sq [jb 16 .lss 15 14] (.seq (.cond 16 .skip (.exit 0)) (.seq (.block 1 Z0hg) (.ops [jb 27 .add 15 (ci 1),jm 15 27]))))
def Z0hf:IC:=(.loop Z0jz)
def d389:FnD:=⟨31,[.tmp 4,.tmp 5],(.sq [jm 4 (cu 0),jm 5 (.const (.bool false))] (.sq [jm 6 (cu 0)] (.sq [jm 10 0,jm 11 1,jc 12 469 [10,11],jm 7 12] (.seq (.sq [jm 13 7,jn' 14 13,jm 15 (ci 0)] (.block 0 Z0hf)) (.sq [jm 28 6,jm 29 7,oj 30 (.isn true 29),jm 4 28,jm 5 30] .ret)))))⟩
theorem Z0xu:okF Tryz.prog 389 d389=true:=by kernel_rfl
def Z0ie:IC:=(.sq [jm 12 10,jm 4 12] (.sq [jm 13 3,jm 14 4,jm 15 0,jv 16 .u8 15,ji' 17 1 13 14,js' 1 17 16] (.ops [jm 18 0,jb 19 .shr 18 (cu 8),jm 0 19])))
def Z0kg:IC:=(.sq [jb 11 .lss 10 9] (.seq (.cond 11 .skip (.exit 0)) (.seq (.block 1 Z0ie) (.ops [jb 20 .add 10 (ci 1),jm 10 20]))))
def Z0id:IC:=(.loop Z0kg)
def d472:FnD:=⟨22,[.tmp 2],(.sq [jm 2 (.const (.slice none 0 0))] (.sq [jc 5 475 [],jb 6 .quo 5 (ci 8),oj 7 (.mks 5 1 [.one (.int .u8 0)] 6 6),jm 3 7] (.seq (.sq [jm 8 3,jn' 9 8,jm 10 (ci 0)] (.block 0 Z0id)) (.sq [jm 21 3,jm 2 21] .ret))))⟩
theorem Z0z6:okF Tryz.prog 472 d472=true:=by kernel_rfl
def Z0oa:Sch:=(.P 0 (jm 11 4) (.P 1 (jb 12 .mul (ci 8) 11) (.P 2 (oj 13 (.sla 32 1 3 (some 12) none none)) (.P 3 (jm 14 5) (.e 4 (oi 15 (.call 472 [14])) (.e 5 (oi 16 (.cpy 1 13 15)) .nil))))))
def Z0hm:IC:=(.sq [jm 9 7,oj 10 (.idx 4 1 false 6 7),jm 4 9,jm 5 10] (.draw Z0oa [5]))
def Z0k2:IC:=(.sq [jb 8 .lss 7 (ci 4)] (.seq (.cond 8 .skip (.exit 0)) (.seq (.block 1 Z0hm) (.ops [jb 17 .add 7 (ci 1),jm 7 17]))))
def Z0hl:IC:=(.loop Z0k2)
def d391:FnD:=⟨19,[.cell 2 32 true],(.sq [jx 1 321 0,ja 2 149 [.ints .u8 32 (replicate 32 0)]] (.sq [ja 3 149 [.ints .u8 32 (replicate 32 0)]] (.seq (.sq [jl 6 4 true 1,jm 7 (ci 0)] (.block 0 Z0hl)) (.sq [jl 18 32 true 3,js' 32 2 18] .ret))))⟩
theorem Z0xw:okF Tryz.prog 391 d391=true:=by kernel_rfl
def Z0n6:Sch:=(.P 0 (jm 12 7) (.P 1 (jm 13 7) (.P 2 (ji 14 4 1 2 13) (.P 4 (jm 16 7) (.P 5 (ji 17 4 1 3 16) (.P 7 (jm 19 6) (.Q 3 (jl 15 1 false 14) (.Q 6 (jl 18 1 false 17) (.P 8 (oj 20 (.xcall 388 [15,18,19])) (.P 9 (jm 11 20) (.P 10 (je 21 11 0) (.P 11 (je 22 11 1) (.P 12 (ji 23 4 1 2 12) (.e 13 (jo' 1 23 21) (.P 14 (jm 6 22) .nil)))))))))))))))
def Z0g2:IC:=(.sq [jm 10 8,jm 7 10] (.draw Z0n6 [13]))
def Z0ja:IC:=(.sq [jb 9 .lss 8 (ci 4)] (.seq (.cond 9 .skip (.exit 0)) (.seq (.block 1 Z0g2) (.ops [jb 24 .add 8 (ci 1),jm 8 24]))))
def Z0g1:IC:=(.loop Z0ja)
def d254:FnD:=⟨27,[.cell 4 4 true,.tmp 5],(.sq [jx 2 321 0,jx 3 321 1,ja 4 321 [.ints .u64 4 (replicate 4 0)],jm 5 (cu 0)] (.sq [jm 6 (cu 0)] (.seq (.sq [jm 8 (ci 0)] (.block 0 Z0g1)) (.sq [jl 25 4 true 2,jm 26 6,js' 4 4 25,jm 5 26] .ret))))⟩
theorem Z0v6:okF Tryz.prog 254 d254=true:=by kernel_rfl
def Z0og:Sch:=(.P 0 (jm 12 7) (.P 1 (jm 13 7) (.P 2 (ji 14 4 1 2 13) (.P 4 (jm 16 7) (.P 5 (ji 17 4 1 3 16) (.P 7 (jm 19 6) (.Q 3 (jl 15 1 false 14) (.Q 6 (jl 18 1 false 17) (.P 8 (oj 20 (.xcall 387 [15,18,19])) (.P 9 (jm 11 20) (.P 10 (je 21 11 0) (.P 11 (je 22 11 1) (.P 12 (ji 23 4 1 2 12) (.e 13 (jo' 1 23 21) (.P 14 (jm 6 22) .nil)))))))))))))))
def Z0i0:IC:=(.sq [jm 10 8,jm 7 10] (.draw Z0og [13]))
def Z0k9:IC:=(.sq [jb 9 .lss 8 (ci 4)] (.seq (.cond 9 .skip (.exit 0)) (.seq (.block 1 Z0i0) (.ops [jb 24 .add 8 (ci 1),jm 8 24]))))
def Z0hz:IC:=(.loop Z0k9)
def d417:FnD:=⟨27,[.cell 4 4 true,.tmp 5],(.sq [jx 2 321 0,jx 3 321 1,ja 4 321 [.ints .u64 4 (replicate 4 0)],jm 5 (cu 0)] (.sq [jm 6 (cu 0)] (.seq (.sq [jm 8 (ci 0)] (.block 0 Z0hz)) (.sq [jl 25 4 true 2,jm 26 6,js' 4 4 25,jm 5 26] .ret))))⟩
theorem Z0yc:okF Tryz.prog 417 d417=true:=by kernel_rfl
def Z0oh:Sch:=(.P 0 (jm 8 3) (.P 1 (ji 9 4 1 1 8) (.P 3 (jm 11 3) (.P 4 (ji 12 4 1 (.global 1) 11) (.Q 2 (jl 10 1 false 9) (.Q 5 (jl 13 1 false 12) (.P 6 (jb 14 .lss 10 13) .nil)))))))
def Z0oi:Sch:=(.P 0 (jm 15 3) (.P 1 (ji 16 4 1 1 15) (.P 3 (jm 18 3) (.P 4 (ji 19 4 1 (.global 1) 18) (.Q 2 (jl 17 1 false 16) (.Q 5 (jl 20 1 false 19) (.P 6 (jb 21 .gtr 17 20) .nil)))))))
def Z0i4:IC:=(.seq (.seq (.draw Z0oh []) (.cond 14 (.exit 0) .skip)) (.seq (.draw Z0oi []) (.cond 21 (.exit 2) .skip)))
def Z0kb:IC:=(.seq (.sq [jm 4 3,jb 5 .geq 4 (ci 0)] (.cond 5 .skip (.exit 2))) (.seq (.block 3 Z0i4) (.ops [jm 6 3,jb 7 .sub 6 (ci 1),jm 3 7])))
def Z0i3:IC:=(.loop Z0kb)
def Z0i2:IC:=(.seq (.sq [jm 3 (ci 3)] (.block 2 Z0i3)) (.ops [jl 23 4 true 1,jl 24 4 true (.global 1),jc 25 254 [23,24],jm 22 25,je 26 22 0,je 27 22 1,js' 4 1 26]))
def Z0ka:IC:=(.block 1 Z0i2)
def Z0i1:IC:=(.loop Z0ka)
def d419:FnD:=⟨29,[.cell 2 4 true],(.sq [jx 1 321 0,ja 2 321 [.ints .u64 4 (replicate 4 0)]] (.scope (.seq .lbl (.seq (.block 0 Z0i1) (.sq [jl 28 4 true 1,js' 4 2 28] .ret)))))⟩
theorem Z0ye:okF Tryz.prog 419 d419=true:=by kernel_rfl
def d468:FnD:=⟨51,[.tmp 4,.tmp 5],(.sq [jm 4 (cu 0),jm 5 (cu 0)] (.sq [jm 14 0,jb 15 .and 14 (cu 4294967295),jm 6 15] (.sq [jm 16 0,jb 17 .shr 16 (cu 32),jm 7 17] (.sq [jm 18 1,jb 19 .and 18 (cu 4294967295),jm 8 19] (.sq [jm 20 1,jb 21 .shr 20 (cu 32),jm 9 21] (.sq [jm 22 6,jm 23 8,jb 24 .mul 22 23,jm 10 24] (.sq [jm 25 7,jm 26 8,jb 27 .mul 25 26,jm 28 10,jb 29 .shr 28 (cu 32),jb 30 .add 27 29,jm 11 30] (.sq [jm 31 11,jb 32 .and 31 (cu 4294967295),jm 12 32] (.sq [jm 33 11,jb 34 .shr 33 (cu 32),jm 13 34] (.sq [jm 35 12,jm 36 6,jm 37 9,jb 38 .mul 36 37,jb 39 .add 35 38,jm 12 39] (.sq [jm 40 7,jm 41 9,jb 42 .mul 40 41,jm 43 13,jb 44 .add 42 43,jm 45 12,jb 46 .shr 45 (cu 32),jb 47 .add 44 46,jm 4 47] (.sq [jm 48 0,jm 49 1,jb 50 .mul 48 49,jm 5 50] .ret))))))))))))⟩
theorem Z0z2:okF Tryz.prog 468 d468=true:=by kernel_rfl
def Z0i8:IC:=(.sq [jm 31 29,ji' 32 1 27 29,jl 33 1 false 32,jm 9 31,jm 10 33] (.sq [jm 35 7,jm 36 10,jc 37 468 [35,36],jm 34 37,je 38 34 0,je 39 34 1,jm 11 38,jm 12 39] (.sq [jm 41 12,jm 42 5,jm 43 6,jm 44 9,jb 45 .add 43 44,ji' 46 1 42 45,jl 47 1 false 46,oj 48 (.xcall 387 [41,47,(cu 0)]),jm 40 48,je 49 40 0,je 50 40 1,jm 12 49,jm 13 50] (.sq [jm 51 11,jm 52 13,jb 53 .add 51 52,jm 11 53] (.sq [jm 55 12,jm 56 8,oj 57 (.xcall 387 [55,56,(cu 0)]),jm 54 57,je 58 54 0,je 59 54 1,jm 12 58,jm 13 59] (.ops [jm 60 5,jm 61 6,jm 62 9,jb 63 .add 61 62,jm 64 12,jm 65 11,jm 66 13,jb 67 .add 65 66,ji' 68 1 60 63,js' 1 68 64,jm 8 67]))))))
def Z0kd:IC:=(.sq [jb 30 .lss 29 28] (.seq (.cond 30 .skip (.exit 2)) (.seq (.block 3 Z0i8) (.ops [jb 69 .add 29 (ci 1),jm 29 69]))))
def Z0i7:IC:=(.loop Z0kd)
def Z0i6:IC:=(.sq [jm 24 22,ji' 25 1 20 22,jl 26 1 false 25,jm 6 24,jm 7 26] (.sq [jm 8 (cu 0)] (.seq (.sq [jm 27 1,jn' 28 27,jm 29 (ci 0)] (.block 2 Z0i7)) (.ops [jm 70 5,jm 71 6,jm 72 1,jn' 73 72,jb 74 .add 71 73,jm 75 8,ji' 76 1 70 74,js' 1 76 75]))))
def Z0kc:IC:=(.sq [jb 23 .lss 22 21] (.seq (.cond 23 .skip (.exit 0)) (.seq (.block 1 Z0i6) (.ops [jb 77 .add 22 (ci 1),jm 22 77]))))
def Z0i5:IC:=(.loop Z0kc)
def d420:FnD:=⟨79,[.tmp 4],(.sq [jm 4 (.const (.slice none 0 0))] (.sq [jm 14 0,jn' 15 14,jm 16 1,jn' 17 16,jb 18 .add 15 17,oj 19 (.mks 150 8 [.one (.int .u64 0)] 18 18),jm 5 19] (.seq (.sq [jm 20 0,jn' 21 20,jm 22 (ci 0)] (.block 0 Z0i5)) (.sq [jm 78 5,jm 4 78] .ret))))⟩
theorem Z0yf:okF Tryz.prog 420 d420=true:=by kernel_rfl
def Z0ig:IC:=(.sq [jm 21 0,jm 22 6,ji' 23 1 21 22,jl 24 1 false 23,jb 25 .shr 24 (cu 60),jm 7 25] (.seq (.sq [jm 26 6,jb 27 .add 26 (ci 1),jm 28 0,jn' 29 28,jb 30 .lss 27 29] (.cond 30 (.ops [jm 31 7,jm 32 0,jm 33 6,jb 34 .add 33 (ci 1),ji' 35 1 32 34,jl 36 1 false 35,jb 37 .shl 36 (cu 4),jb 38 .or 31 37,jm 7 38]) .skip)) (.ops [jm 39 5,jm 40 7,oj 41 (.bs 150 1 1 [.one (.int .u64 0)] [(0,1,40)]),oj 42 (.app 150 1 8 [.one (.int .u64 0)] 39 41),jm 5 42])))
def Z0kh:IC:=(.seq (.sq [jm 15 6,jm 16 0,jn' 17 16,jb 18 .lss 15 17] (.cond 18 .skip (.exit 0))) (.seq (.block 1 Z0ig) (.ops [jm 19 6,jb 20 .add 19 (ci 1),jm 6 20])))
def Z0if:IC:=(.loop Z0kh)
def d473:FnD:=⟨45,[.cell 2 4 true,.tmp 3],(.sq [ja 2 321 [.ints .u64 4 (replicate 4 0)],jm 3 (.const (.slice none 0 0))] (.sq [ja 4 321 [.ints .u64 4 (replicate 4 0)]] (.sq [oj 8 (.sla 4 1 4 none none none),jm 9 0,oj 10 (.cpy 1 8 9)] (.sq [ji 11 4 1 4 (ci 3),jl 12 1 false 11,jb 13 .and 12 (cu 1152921504606846975),ji 14 4 1 4 (ci 3),js' 1 14 13] (.sq [jm 5 (.const (.slice none 0 0))] (.seq (.sq [jm 6 (ci 3)] (.block 0 Z0if)) (.sq [jl 43 4 true 4,jm 44 5,js' 4 2 43,jm 3 44] .ret)))))))⟩
theorem Z0z7:okF Tryz.prog 473 d473=true:=by kernel_rfl
def d474:FnD:=⟨2,[.tmp 0],(.sq [jm 0 (.const (.slice none 0 0))] (.sq [oj 1 (.bs 150 2 1 [.one (.int .u64 0),.one (.int .u64 0)] [(0,1,(cu 6346243789798364141)),(1,1,(cu 1503914060200516822))]),jm 0 1] .ret))⟩
theorem Z0z8:okF Tryz.prog 474 d474=true:=by kernel_rfl
def Z0ob:Sch:=(.P 0 (jm 19 4) (.P 1 (jb 20 .rem 19 (ci 2)) (.P 2 (jm 21 4) (.P 3 (jb 22 .rem 21 (ci 2)) (.P 4 (ji 23 2 4 3 22) (.Q 5 (jl 24 4 true 23) (.Q 6 (jl 25 4 true 5) (.P 7 (jc 26 417 [24,25]) (.P 8 (jm 18 26) (.P 9 (je 27 18 0) (.P 10 (je 28 18 1) (.P 11 (ji 29 2 4 3 20) (.e 12 (jo' 4 29 27) .nil)))))))))))))
def Z0ho:IC:=(.sq [jm 12 10,jm 4 12] (.sq [ja 5 321 [.ints .u64 4 (replicate 4 0)]] (.sq [jm 14 0,jc 15 473 [14],jm 13 15,je 16 13 0,je 17 13 1,js' 4 5 16,jm 0 17] (.seq (.draw Z0ob [12]) (.ops [jm 30 0,jc 31 474 [],jc 32 420 [30,31],jm 0 32])))))
def Z0k3:IC:=(.sq [jb 11 .lss 10 (ci 4)] (.seq (.cond 11 .skip (.exit 0)) (.seq (.block 1 Z0ho) (.ops [jb 33 .add 10 (ci 1),jm 10 33]))))
def Z0hn:IC:=(.loop Z0k3)
def d392:FnD:=⟨56,[.cell 2 4 true],(.sq [ja 2 321 [.ints .u64 4 (replicate 4 0)]] (.sq [ja 3 483 [.rows 4 2 (fun _=>cells [.ints .u64 4 (replicate 4 0)])]] (.seq (.sq [jm 10 (ci 0)] (.block 0 Z0hn)) (.sq [jl 35 4 true (.global 1),jl 36 4 true (.global 1),jc 37 417 [35,36],jm 34 37,je 38 34 0,je 39 34 1,ja 6 321 [.ints .u64 4 (replicate 4 0)],js' 4 6 38,jm 7 39] (.sq [ji 41 2 4 3 (ci 0),jl 42 4 true 41,jl 43 4 true 6,jc 44 417 [42,43],jm 40 44,je 45 40 0,je 46 40 1,ja 8 321 [.ints .u64 4 (replicate 4 0)],js' 4 8 45,jm 9 46] (.sq [jl 48 4 true 8,ji 49 2 4 3 (ci 1),jl 50 4 true 49,jc 51 254 [48,50],jm 47 51,je 52 47 0,je 53 47 1,js' 4 8 52] (.sq [jl 54 4 true 8,jc 55 419 [54],js' 4 2 55] .ret)))))))⟩
theorem Z0xx:okF Tryz.prog 392 d392=true:=by kernel_rfl
def Z0g8:IC:=(.sq [jm 7 5,jm 4 7] (.ops [jm 9 4,oj 10 (.sla 64 1 1 none none none),jm 11 4,jb 12 .mul (ci 8) 11,jc 13 389 [10,12],jm 8 13,je 14 8 0,je 15 8 1,ji 16 8 1 3 9,js' 1 16 14]))
def Z0jd:IC:=(.sq [jb 6 .lss 5 (ci 8)] (.seq (.cond 6 .skip (.exit 0)) (.seq (.block 1 Z0g8) (.ops [jb 17 .add 5 (ci 1),jm 5 17]))))
def Z0g7:IC:=(.loop Z0jd)
def d258:FnD:=⟨21,[.cell 2 32 true],(.sq [jx 1 148 0,ja 2 149 [.ints .u8 32 (replicate 32 0)]] (.sq [ja 3 230 [.ints .u64 8 (replicate 8 0)]] (.seq (.sq [jm 5 (ci 0)] (.block 0 Z0g7)) (.sq [oj 18 (.sla 8 1 3 none none none),jc 19 392 [18],jc 20 391 [19],js' 32 2 20] .ret))))⟩
theorem Z0va:okF Tryz.prog 258 d258=true:=by kernel_rfl
def d393:FnD:=⟨7,[.tmp 2],(.sq [jm 2 (.const (.pointer none))] (.sq [jm 4 0,jz 5 4,jl 6 138 true 5,ja 3 452 [.ints .u64 8 (replicate 8 0),.ints .u8 128 (replicate 128 0),.one (.int .i64 0),.one (.int .u64 0)],js' 138 3 6] (.sq [jm 2 3] .ret)))⟩
theorem Z0xy:okF Tryz.prog 393 d393=true:=by kernel_rfl
def d394:FnD:=⟨30,[.tmp 2],(.sq [jm 2 (.const (.slice none 0 0))] (.sq [jm 5 0,jb 6 .add 5 (cu 17),jb 7 .rem 6 (cu 128),jv 8 .i64 7,jb 9 .sub (ci 128) 8,jb 10 .rem 9 (ci 128),jm 3 10] (.sq [jm 11 3,jb 12 .add (ci 17) 11,oj 13 (.mks 5 1 [.one (.int .u8 0)] (ci 0) 12),jm 4 13] (.sq [jm 14 4,oj 15 (.bs 5 1 1 [.one (.int .u8 0)] [(0,1,(c8 128))]),oj 16 (.app 5 1 1 [.one (.int .u8 0)] 14 15),jm 4 16] (.sq [jm 17 4,jm 18 3,oj 19 (.apz 5 1 1 [.one (.int .u8 0)] 17 18),jm 4 19] (.sq [jm 20 4,jm 21 0,jb 22 .shr 21 (cu 61),jc 23 395 [22],oj 24 (.app 5 1 1 [.one (.int .u8 0)] 20 23),jm 4 24] (.sq [jm 25 4,jm 26 0,jb 27 .shl 26 (cu 3),jc 28 395 [27],oj 29 (.app 5 1 1 [.one (.int .u8 0)] 25 28),jm 2 29] .ret)))))))⟩
theorem Z0xz:okF Tryz.prog 394 d394=true:=by kernel_rfl
def Z0n9:Sch:=(.P 0 (jm 24 5) (.P 1 (jb 25 .mul (ci 8) 24) (.P 2 (oj 26 (.sla 64 1 4 (some 25) none none)) (.P 3 (jm 27 6) (.e 4 (oi 28 (.call 395 [27])) (.e 5 (oi 29 (.cpy 1 26 28)) .nil))))))
def Z0ga:IC:=(.sq [jm 22 20,oj 23 (.idx 8 1 false 19 20),jm 5 22,jm 6 23] (.draw Z0n9 [5]))
def Z0je:IC:=(.sq [jb 21 .lss 20 (ci 8)] (.seq (.cond 21 .skip (.exit 0)) (.seq (.block 1 Z0ga) (.ops [jb 30 .add 20 (ci 1),jm 20 30]))))
def Z0g9:IC:=(.loop Z0je)
def d259:FnD:=⟨32,[.cell 2 64 true],(.sq [ja 2 148 [.ints .u8 64 (replicate 64 0)]] (.sq [jm 7 0,jc 8 393 [7],jm 3 8] (.sq [jm 9 3,jm 10 0,jz 11 10,jf 12 137 11,jl 13 1 false 12,jc 14 394 [13],jc 15 257 [9,14]] (.sq [ja 4 148 [.ints .u8 64 (replicate 64 0)]] (.seq (.sq [jm 16 3,jz 17 16,jf 18 0 17,jl 19 8 true 18,jm 20 (ci 0)] (.block 0 Z0g9)) (.sq [jl 31 64 true 4,js' 64 2 31] .ret))))))⟩
theorem Z0vb:okF Tryz.prog 259 d259=true:=by kernel_rfl
def Z0ek:IC:=(.sq [ji' 11 1 7 9,jl 12 1 false 11,jm 5 12] (.ops [jm 13 3,jm 14 5,jc 15 257 [13,14]]))
def Z0ij:IC:=(.sq [jb 10 .lss 9 8] (.seq (.cond 10 .skip (.exit 0)) (.seq (.block 1 Z0ek) (.ops [jb 16 .add 9 (ci 1),jm 9 16]))))
def Z0ej:IC:=(.loop Z0ij)
def d155:FnD:=⟨20,[.cell 2 32 true],(.sq [ja 2 149 [.ints .u8 32 (replicate 32 0)]] (.sq [jc 6 256 [],jm 3 6] (.seq (.sq [jm 7 0,jn' 8 7,jm 9 (ci 0)] (.block 0 Z0ej)) (.sq [jm 17 3,jc 18 259 [17],jc 19 258 [18],js' 32 2 19] .ret))))⟩
theorem Z0th:okF Tryz.prog 155 d155=true:=by kernel_rfl
def Z0o6:LJ:=[ji 3 5 1 1 (ci 0),jl 4 1 false 3,jb 5 .and 4 (cu 2251799813685247),ji 6 5 1 1 (ci 4),jl 7 1 false 6,jb 8 .shr 7 (cu 51),jb 9 .mul 8 (cu 19),jb 10 .add 5 9,ji 11 5 1 1 (ci 1),jl 12 1 false 11,jb 13 .and 12 (cu 2251799813685247),ji 14 5 1 1 (ci 0),jl 15 1 false 14,jb 16 .shr 15 (cu 51),jb 17 .add 13 16,ji 18 5 1 1 (ci 2),jl 19 1 false 18,jb 20 .and 19 (cu 2251799813685247),ji 21 5 1 1 (ci 1),jl 22 1 false 21,jb 23 .shr 22 (cu 51),jb 24 .add 20 23,ji 25 5 1 1 (ci 3),jl 26 1 false 25,jb 27 .and 26 (cu 2251799813685247),ji 28 5 1 1 (ci 2),jl 29 1 false 28,jb 30 .shr 29 (cu 51),jb 31 .add 27 30,ji 32 5 1 1 (ci 4),jl 33 1 false 32,jb 34 .and 33 (cu 2251799813685247),ji 35 5 1 1 (ci 3),jl 36 1 false 35,jb 37 .shr 36 (cu 51),jb 38 .add 34 37,jd 39 [Z5] [(0,1,10),(1,1,17),(2,1,24),(3,1,31),(4,1,38)],js' 5 2 39]
def d385:FnD:=⟨40,[.cell 2 5 true],(.sq [jx 1 202 0,ja 2 202 [Z5]] (.sq Z0o6 .ret))⟩
theorem Z0xs:okF Tryz.prog 385 d385=true:=by kernel_rfl
def Z0h8:IC:=(.sq [ji' 18 1 14 16,jl 19 1 false 18,jm 5 19] (.ops [jm 20 5,jm 21 3,jb 22 .add 20 21,jb 23 .shr 22 (cu 51),jm 3 23]))
def Z0jv:IC:=(.sq [jb 17 .lss 16 15] (.seq (.cond 17 .skip (.exit 0)) (.seq (.block 1 Z0h8) (.ops [jb 24 .add 16 (ci 1),jm 16 24]))))
def Z0h7:IC:=(.loop Z0jv)
def Z0cf:Sch:=(.P 0 (jm 34 6) (.P 1 (jb 35 .add 34 (ci 1)) (.P 2 (ji 36 5 1 1 35) (.P 4 (jm 38 6) (.P 5 (ji 39 5 1 1 38) (.Q 3 (jl 37 1 false 36) (.Q 6 (jl 40 1 false 39) (.P 7 (jb 41 .shr 40 (cu 51)) (.P 8 (jb 42 .add 37 41) (.P 9 (ji 43 5 1 1 35) (.e 10 (jo' 1 43 42) .nil)))))))))))
def Z0ha:IC:=(.sq [jm 33 31,jm 6 33] (.seq (.draw Z0cf [10]) (.ops [jm 44 6,ji 45 5 1 1 44,jl 46 1 false 45,jb 47 .and 46 (cu 2251799813685247),ji 48 5 1 1 44,js' 1 48 47])))
def Z0jw:IC:=(.sq [jb 32 .lss 31 (ci 4)] (.seq (.cond 32 .skip (.exit 2)) (.seq (.block 3 Z0ha) (.ops [jb 49 .add 31 (ci 1),jm 31 49]))))
def Z0h9:IC:=(.loop Z0jw)
def d379:FnD:=⟨55,[.cell 2 5 true],(.sq [jx 1 202 0,ja 2 202 [Z5]] (.sq [jl 7 5 true 1,jc 8 385 [7],jc 9 385 [8],js' 5 1 9] (.sq [ji 10 5 1 1 (ci 0),jl 11 1 false 10,jb 12 .add 11 (cu 19),jb 13 .shr 12 (cu 51),jm 3 13] (.seq (.sq [oj 14 (.sla 5 1 1 (some (ci 1)) none none),jn' 15 14,jm 16 (ci 0)] (.block 0 Z0h7)) (.sq [ji 25 5 1 1 (ci 0),jl 26 1 false 25,jm 27 3,jb 28 .mul (cu 19) 27,jb 29 .add 26 28,ji 30 5 1 1 (ci 0),js' 1 30 29] (.seq (.sq [jm 31 (ci 0)] (.block 2 Z0h9)) (.sq [ji 50 5 1 1 (ci 4),jl 51 1 false 50,jb 52 .and 51 (cu 2251799813685247),ji 53 5 1 1 (ci 4),js' 1 53 52] (.sq [jl 54 5 true 1,js' 5 2 54] .ret))))))))⟩
theorem Z0xo:okF Tryz.prog 379 d379=true:=by kernel_rfl
def d386:FnD:=⟨40,[],(.sq [jm 10 1,jm 11 2,jc 12 468 [10,11],jm 9 12,je 13 9 0,je 14 9 1,jm 6 13,jm 7 14] (.sq [jm 8 (cu 0)] (.sq [jm 16 0,jm 17 0,jz 18 17,jf 19 1 18,jl 20 1 false 19,jm 21 7,oj 22 (.xcall 387 [20,21,(cu 0)]),jm 15 22,je 23 15 0,je 24 15 1,jz 25 16,jf 26 1 25,js' 1 26 23,jm 8 24] (.ops [jm 28 0,jm 29 0,jz 30 29,jf 31 0 30,jl 32 1 false 31,jm 33 6,jm 34 8,oj 35 (.xcall 387 [32,33,34]),jm 27 35,je 36 27 0,je 37 27 1,jz 38 28,jf 39 0 38,js' 1 39 36]))))⟩
theorem Z0xt:okF Tryz.prog 386 d386=true:=by kernel_rfl
def Z0n5:Sch:=(.Q 0 (jl 19 5 true 2) (.P 1 (jc 20 385 [19]) (.Q 2 (jl 21 5 true 3) (.P 3 (jc 22 385 [21]) (.e 4 (jo' 5 2 20) (.e 5 (jo' 5 3 22) .nil))))))
def Z0fw:IC:=(.sq [jm 31 29,oj 32 (.idx 5 1 false 28 29),jm 8 31,jm 9 32] (.sq [jm 33 6,jm 34 8,jb 35 .add 33 34,jb 36 .lss 35 (ci 5)] (.cond 36 (.ops [jm 37 6,jm 38 8,jb 39 .add 37 38,ji 40 5 2 5 39,jm 41 7,jm 42 9,jc 43 386 [40,41,42]]) (.ops [jm 44 6,jm 45 8,jb 46 .add 44 45,jb 47 .sub 46 (ci 5),ji 48 5 2 5 47,jm 49 7,jm 50 9,jb 51 .mul (cu 19) 50,jc 52 386 [48,49,51]]))))
def Z0j7:IC:=(.sq [jb 30 .lss 29 (ci 5)] (.seq (.cond 30 .skip (.exit 2)) (.seq (.block 3 Z0fw) (.ops [jb 53 .add 29 (ci 1),jm 29 53]))))
def Z0fv:IC:=(.loop Z0j7)
def Z0fu:IC:=(.sq [jm 26 24,oj 27 (.idx 5 1 false 23 24),jm 6 26,jm 7 27] (.sq [jl 28 5 true 3,jm 29 (ci 0)] (.block 2 Z0fv)))
def Z0j6:IC:=(.sq [jb 25 .lss 24 (ci 5)] (.seq (.cond 25 .skip (.exit 0)) (.seq (.block 1 Z0fu) (.ops [jb 54 .add 24 (ci 1),jm 24 54]))))
def Z0ft:IC:=(.loop Z0j6)
def Z0fy:IC:=(.sq [jm 58 56,oj 59 (.idx 5 2 true 55 56),ja 13 443 [.ints .u64 2 (replicate 2 0)],jm 12 58,js' 2 13 59] (.sq [jf 61 1 13,jl 62 1 false 61,jm 63 11,oj 64 (.xcall 387 [62,63,(cu 0)]),jm 60 64,je 65 60 0,je 66 60 1,jm 14 65,jm 15 66] (.sq [jm 67 12,jm 68 14,jb 69 .and 68 (cu 2251799813685247),ji 70 5 1 10 67,js' 1 70 69] (.ops [jf 71 0 13,jl 72 1 false 71,jm 73 15,jb 74 .add 72 73,jb 75 .shl 74 (cu 13),jm 76 14,jb 77 .shr 76 (cu 51),jb 78 .or 75 77,jm 11 78]))))
def Z0j8:IC:=(.sq [jb 57 .lss 56 (ci 5)] (.seq (.cond 57 .skip (.exit 4)) (.seq (.block 5 Z0fy) (.ops [jb 79 .add 56 (ci 1),jm 56 79]))))
def Z0fx:IC:=(.loop Z0j8)
def d250:FnD:=⟨107,[.cell 4 5 true],(.sq [jx 2 202 0,jx 3 202 1,ja 4 202 [Z5]] (.seq (.draw Z0n5 [4,5]) (.sq [ja 5 444 [Z10]] (.seq (.sq [jl 23 5 true 2,jm 24 (ci 0)] (.block 0 Z0ft)) (.sq [ja 10 202 [Z5]] (.sq [jm 11 (cu 0)] (.seq (.sq [jl 55 10 true 5,jm 56 (ci 0)] (.block 4 Z0fx)) (.sq [ja 16 443 [.ints .u64 2 (replicate 2 0)]] (.sq [jm 80 11,jc 81 386 [16,80,(cu 19)]] (.sq [jf 83 1 16,jl 84 1 false 83,ji 85 5 1 10 (ci 0),jl 86 1 false 85,oj 87 (.xcall 387 [84,86,(cu 0)]),jm 82 87,je 88 82 0,je 89 82 1,jm 17 88,jm 18 89] (.sq [jm 90 17,jb 91 .and 90 (cu 2251799813685247),ji 92 5 1 10 (ci 0),js' 1 92 91] (.sq [ji 93 5 1 10 (ci 1),jl 94 1 false 93,jf 95 0 16,jl 96 1 false 95,jm 97 18,jb 98 .add 96 97,jb 99 .shl 98 (cu 13),jm 100 17,jb 101 .shr 100 (cu 51),jb 102 .or 99 101,jb 103 .add 94 102,ji 104 5 1 10 (ci 1),js' 1 104 103] (.sq [jl 105 5 true 10,jc 106 379 [105],js' 5 4 106] .ret)))))))))))))⟩
theorem Z0v4:okF Tryz.prog 250 d250=true:=by kernel_rfl
def d245:FnD:=⟨6,[.cell 2 5 true],(.sq [jx 1 202 0,ja 2 202 [Z5]] (.sq [jl 3 5 true 1,jl 4 5 true 1,jc 5 250 [3,4],js' 5 2 5] .ret))⟩
theorem Z0v0:okF Tryz.prog 245 d245=true:=by kernel_rfl
def d383:FnD:=⟨6,[.cell 2 5 true],(.sq [ja 2 202 [Z5]] (.sq [jm 3 0,jd 4 [Z5] [(0,1,3)],jc 5 379 [4],js' 5 2 5] .ret))⟩
theorem Z0xr:okF Tryz.prog 383 d383=true:=by kernel_rfl
def Z0hc:IC:=(.sq [jl 12 5 true 5,jc 13 245 [12],js' 5 5 13] (.sq [jm 14 6,jb 15 .quo 14 (ci 8),ji 16 32 1 3 15,jl 17 1 false 16,jm 18 6,jb 19 .rem 18 (ci 8),jb 20 .shr 17 19,jb 21 .and 20 (c8 1),jb 22 .eql 21 (c8 1)] (.cond 22 (.ops [jl 23 5 true 5,jl 24 5 true 2,jc 25 250 [23,24],js' 5 5 25]) .skip)))
def Z0jx:IC:=(.seq (.sq [jm 8 6,jb 9 .geq 8 (ci 0)] (.cond 9 .skip (.exit 0))) (.seq (.block 1 Z0hc) (.ops [jm 10 6,jb 11 .sub 10 (ci 1),jm 6 11])))
def Z0hb:IC:=(.loop Z0jx)
def d380:FnD:=⟨27,[.cell 4 5 true],(.sq [jx 2 202 0,jx 3 22 1,ja 4 202 [Z5]] (.sq [jc 7 383 [(cu 1)],ja 5 202 [Z5],js' 5 5 7] (.seq (.sq [jm 6 (ci 255)] (.block 0 Z0hb)) (.sq [jl 26 5 true 5,js' 5 4 26] .ret))))⟩
theorem Z0xp:okF Tryz.prog 380 d380=true:=by kernel_rfl
def Z0he:IC:=(.sq [jm 9 7,jm 6 9] (.ops [jm 10 6,ji 11 32 1 5 10,js' 1 11 (c8 255)]))
def Z0jy:IC:=(.sq [jb 8 .lss 7 (ci 32)] (.seq (.cond 8 .skip (.exit 0)) (.seq (.block 1 Z0he) (.ops [jb 12 .add 7 (ci 1),jm 7 12]))))
def Z0hd:IC:=(.loop Z0jy)
def d381:FnD:=⟨18,[.cell 4 32 true],(.sq [ja 4 22 [.ints .u8 32 (replicate 32 0)]] (.sq [ja 5 22 [.ints .u8 32 (replicate 32 0)]] (.seq (.sq [jm 7 (ci 0)] (.block 0 Z0hd)) (.sq [jm 13 0,jm 14 1,ji 15 32 1 5 (ci 0),js' 1 15 13,ji 16 32 1 5 (ci 31),js' 1 16 14] (.sq [jl 17 32 true 5,js' 32 4 17] .ret)))))⟩
theorem Z0xq:okF Tryz.prog 381 d381=true:=by kernel_rfl
def Z0na:Sch:=(.P 1 (jc 4 381 [(c8 235),(c8 127)]) (.Q 0 (jl 3 5 true 1) (.P 2 (jc 5 380 [3,4]) (.e 3 (jo' 5 2 5) .nil))))
def d260:FnD:=⟨6,[.cell 2 5 true],(.sq [jx 1 202 0,ja 2 202 [Z5]] (.seq (.draw Z0na [3]) .ret))⟩
theorem Z0vc:okF Tryz.prog 260 d260=true:=by kernel_rfl
def Z0gc:IC:=(.sq [jm 12 10,jm 4 12] (.sq [jm 13 4,jb 14 .mul (ci 8) 13,jb 15 .quo 14 (ci 51),jm 16 4,jb 17 .mul (ci 8) 16,jb 18 .rem 17 (ci 51),jm 5 15,jm 6 18] (.sq [jm 19 5,ji 20 5 1 1 19,jl 21 1 false 20,jm 22 6,jb 23 .shr 21 22,jm 7 23] (.seq (.sq [jm 24 6,jb 25 .gtr 24 (ci 43),jm 26 25,.lg false 26 29 none [.op ⟨some 27,(some (26,true)),.mv 5⟩,.op ⟨some 28,(some (26,true)),.bin .lss 27 (ci 4)⟩] 28] (.cond 29 (.ops [jm 30 7,jm 31 5,jb 32 .add 31 (ci 1),ji 33 5 1 1 32,jl 34 1 false 33,jm 35 6,jb 36 .sub (ci 51) 35,jb 37 .shl 34 36,jb 38 .or 30 37,jm 7 38]) .skip)) (.ops [jm 39 4,jm 40 7,jv 41 .u8 40,ji 42 32 1 3 39,js' 1 42 41])))))
def Z0jf:IC:=(.sq [jb 11 .lss 10 (ci 32)] (.seq (.cond 11 .skip (.exit 0)) (.seq (.block 1 Z0gc) (.ops [jb 43 .add 10 (ci 1),jm 10 43]))))
def Z0gb:IC:=(.loop Z0jf)
def d261:FnD:=⟨45,[.cell 2 32 true],(.sq [jx 1 202 0,ja 2 22 [.ints .u8 32 (replicate 32 0)]] (.sq [jl 8 5 true 1,jc 9 379 [8],js' 5 1 9] (.sq [ja 3 22 [.ints .u8 32 (replicate 32 0)]] (.seq (.sq [jm 10 (ci 0)] (.block 0 Z0gb)) (.sq [jl 44 32 true 3,js' 32 2 44] .ret)))))⟩
theorem Z0vd:okF Tryz.prog 261 d261=true:=by kernel_rfl
def d262:FnD:=⟨8,[.tmp 2],(.sq [jx 1 202 0,jm 2 (.const (.bool false))] (.sq [jl 3 5 true 1,jc 4 379 [3],oj 5 (.idx 5 1 false 4 (ci 0)),jb 6 .and 5 (cu 1),jb 7 .eql 6 (cu 1),jm 2 7] .ret))⟩
theorem Z0ve:okF Tryz.prog 262 d262=true:=by kernel_rfl
def d156:FnD:=⟨23,[.cell 2 32 true],(.sq [jx 1 204 0,ja 2 44 [.ints .u8 32 (replicate 32 0)]] (.sq [jf 5 10 1,jl 6 5 true 5,jc 7 260 [6],ja 3 202 [Z5],js' 5 3 7] (.sq [jf 8 5 1,jl 9 5 true 8,jl 10 5 true 3,jc 11 250 [9,10],jc 12 261 [11],ja 4 44 [.ints .u8 32 (replicate 32 0)],js' 32 4 12] (.seq (.sq [jf 13 0 1,jl 14 5 true 13,jl 15 5 true 3,jc 16 250 [14,15],jc 17 262 [16]] (.cond 17 (.ops [ji 18 32 1 4 (ci 31),jl 19 1 false 18,jb 20 .or 19 (c8 128),ji 21 32 1 4 (ci 31),js' 1 21 20]) .skip)) (.sq [jl 22 32 true 4,js' 32 2 22] .ret)))))⟩
theorem Z0ti:okF Tryz.prog 156 d156=true:=by kernel_rfl
def d315:FnD:=⟨10,[.cell 2 64 true],(.sq [ja 2 148 [.ints .u8 64 (replicate 64 0)]] (.sq [jc 4 256 [],jm 3 4] (.sq [jm 5 3,jm 6 0,jc 7 257 [5,6]] (.sq [jm 8 3,jc 9 259 [8],js' 64 2 9] .ret))))⟩
theorem Z0wb:okF Tryz.prog 315 d315=true:=by kernel_rfl
def d316:FnD:=⟨13,[.cell 2 32 true],(.sq [jx 1 22 0,ja 2 149 [.ints .u8 32 (replicate 32 0)]] (.sq [ji 3 32 1 1 (ci 0),jl 4 1 false 3,jb 5 .andNot 4 (c8 7),ji 6 32 1 1 (ci 0),js' 1 6 5] (.sq [ji 7 32 1 1 (ci 31),jl 8 1 false 7,jb 9 .and 8 (c8 127),jb 10 .or 9 (c8 64),ji 11 32 1 1 (ci 31),js' 1 11 10] (.sq [jl 12 32 true 1,js' 32 2 12] .ret))))⟩
theorem Z0wc:okF Tryz.prog 316 d316=true:=by kernel_rfl
def Z0mx:Sch:=(.P 0 (oj 7 (.sla 64 1 4 none (some (ci 32)) none)) (.P 1 (oj 8 (.s2a 32 7)) (.P 4 (oj 11 (.sla 64 1 4 (some (ci 32)) none none)) (.Q 2 (jl 9 32 true 8) (.P 3 (jc 10 316 [9]) (.e 5 (jo' 32 2 10) (.P 6 (jm 3 11) .nil)))))))
def d206:FnD:=⟨12,[.cell 2 32 true,.tmp 3],(.sq [jx 1 23 0,ja 2 149 [.ints .u8 32 (replicate 32 0)],jm 3 (.const (.slice none 0 0))] (.sq [oj 5 (.sla 32 1 1 none none none),jc 6 315 [5],ja 4 148 [.ints .u8 64 (replicate 64 0)],js' 64 4 6] (.seq (.draw Z0mx [5]) .ret)))⟩
theorem Z0u8:okF Tryz.prog 206 d206=true:=by kernel_rfl
def Z0n1:Sch:=(.P 0 (jm 23 6) (.P 1 (ji 24 5 1 3 23) (.P 3 (jm 26 5) (.P 4 (jv 27 .u64 26) (.P 5 (jm 28 7) (.P 6 (jb 29 .shl 27 28) (.P 7 (jb 30 .and 29 (cu 2251799813685247)) (.Q 2 (jl 25 1 false 24) (.P 8 (jb 31 .or 25 30) (.P 9 (ji 32 5 1 3 23) (.e 10 (jo' 1 32 31) .nil)))))))))))
def Z0cd:Sch:=(.P 0 (jm 39 6) (.P 1 (jb 40 .add 39 (ci 1)) (.P 2 (ji 41 5 1 3 40) (.P 4 (jm 43 5) (.P 5 (jv 44 .u64 43) (.P 6 (jm 45 7) (.P 7 (jb 46 .sub (ci 51) 45) (.P 8 (jb 47 .shr 44 46) (.Q 3 (jl 42 1 false 41) (.P 9 (jb 48 .or 42 47) (.P 10 (ji 49 5 1 3 40) (.e 11 (jo' 1 49 48) .nil))))))))))))
def Z0fq:IC:=(.sq [jm 11 9,oj 12 (.idx 32 1 false 8 9),jm 4 11,jm 5 12] (.seq (.sq [jm 13 4,jb 14 .eql 13 (ci 31)] (.cond 14 (.ops [jm 15 5,jb 16 .and 15 (c8 127),jm 5 16]) .skip)) (.sq [jm 17 4,jb 18 .mul (ci 8) 17,jb 19 .quo 18 (ci 51),jm 20 4,jb 21 .mul (ci 8) 20,jb 22 .rem 21 (ci 51),jm 6 19,jm 7 22] (.seq (.draw Z0n1 [10]) (.sq [jm 33 7,jb 34 .gtr 33 (ci 43),jm 35 34,.lg false 35 38 none [.op ⟨some 36,(some (35,true)),.mv 6⟩,.op ⟨some 37,(some (35,true)),.bin .lss 36 (ci 4)⟩] 37] (.cond 38 (.draw Z0cd [11]) .skip))))))
def Z0j4:IC:=(.sq [jb 10 .lss 9 (ci 32)] (.seq (.cond 10 .skip (.exit 0)) (.seq (.block 1 Z0fq) (.ops [jb 50 .add 9 (ci 1),jm 9 50]))))
def Z0fp:IC:=(.loop Z0j4)
def d244:FnD:=⟨53,[.cell 2 5 true],(.sq [jx 1 22 0,ja 2 202 [Z5]] (.sq [ja 3 202 [Z5]] (.seq (.sq [jl 8 32 true 1,jm 9 (ci 0)] (.block 0 Z0fp)) (.sq [jl 51 5 true 3,jc 52 379 [51],js' 5 2 52] .ret))))⟩
theorem Z0uz:okF Tryz.prog 244 d244=true:=by kernel_rfl
def d246:FnD:=⟨2,[.cell 0 5 true],(.sq [ja 0 202 [Z5]] (.sq [jd 1 [Z5] [(0,1,(cu 1))],js' 5 0 1] .ret))⟩
theorem Z0v1:okF Tryz.prog 246 d246=true:=by kernel_rfl
def Z0nb:LJ:=[jd 5 [.ints .u8 32 (replicate 32 0)] [(0,1,(c8 26)),(1,1,(c8 213)),(2,1,(c8 37)),(3,1,(c8 143)),(4,1,(c8 96)),(5,1,(c8 45)),(6,1,(c8 86)),(7,1,(c8 201)),(8,1,(c8 178)),(9,1,(c8 167)),(10,1,(c8 37)),(11,1,(c8 149)),(12,1,(c8 96)),(13,1,(c8 199)),(14,1,(c8 44)),(15,1,(c8 105)),(16,1,(c8 92)),(17,1,(c8 220)),(18,1,(c8 214)),(19,1,(c8 253)),(20,1,(c8 49)),(21,1,(c8 226)),(22,1,(c8 164)),(23,1,(c8 192)),(24,1,(c8 254)),(25,1,(c8 83)),(26,1,(c8 110)),(27,1,(c8 205)),(28,1,(c8 211)),(29,1,(c8 54)),(30,1,(c8 105)),(31,1,(c8 33))],jc 6 244 [5],ja 1 202 [Z5],js' 5 1 6]
def Z0ge:IC:=(.sq [jm 10 8,jm 3 10] (.ops [jm 11 3,jb 12 .add 11 (ci 1),ji 13 32 1 2 12,js' 1 13 (c8 102)]))
def Z0jg:IC:=(.sq [jb 9 .lss 8 (ci 31)] (.seq (.cond 9 .skip (.exit 0)) (.seq (.block 1 Z0ge) (.ops [jb 14 .add 8 (ci 1),jm 8 14]))))
def Z0gd:IC:=(.loop Z0jg)
def Z0nc:Sch:=(.P 2 (jc 19 246 []) (.Q 0 (jl 17 5 true 1) (.Q 1 (jl 18 5 true 4) (.Q 3 (jl 20 5 true 1) (.Q 4 (jl 21 5 true 4) (.P 5 (jc 22 250 [20,21]) (.P 6 (jd 23 [Z5,Z5,Z5,Z5] [(0,5,17),(5,5,18),(10,5,19),(15,5,22)]) (.e 7 (jo' 20 0 23) .nil))))))))
def d263:FnD:=⟨24,[.cell 0 20 true],(.sq [ja 0 204 [Z5,Z5,Z5,Z5]] (.sq Z0nb (.sq [jd 7 [.ints .u8 32 (replicate 32 0)] [(0,1,(c8 88))],ja 2 22 [.ints .u8 32 (replicate 32 0)],js' 32 2 7] (.seq (.sq [jm 8 (ci 0)] (.block 0 Z0gd)) (.sq [jl 15 32 true 2,jc 16 244 [15],ja 4 202 [Z5],js' 5 4 16] (.seq (.draw Z0nc [7]) .ret))))))⟩
theorem Z0vf:okF Tryz.prog 263 d263=true:=by kernel_rfl
def d265:FnD:=⟨4,[.cell 0 20 true],(.sq [ja 0 204 [Z5,Z5,Z5,Z5]] (.sq [jc 1 246 [],jc 2 246 [],jd 3 [Z5,Z5,Z5,Z5] [(5,5,1),(10,5,2)],js' 20 0 3] .ret))⟩
theorem Z0vh:okF Tryz.prog 265 d265=true:=by kernel_rfl
def Z0n3:Sch:=(.Q 0 (jl 6 5 true 2) (.P 1 (jc 7 385 [6]) (.Q 2 (jl 8 5 true 3) (.P 3 (jc 9 385 [8]) (.e 4 (jo' 5 2 7) (.e 5 (jo' 5 3 9) .nil))))))
def Z0n4:Sch:=(.P 0 (jm 13 5) (.P 1 (ji 14 5 1 2 13) (.P 3 (jm 16 5) (.P 4 (ji 17 5 1 3 16) (.Q 2 (jl 15 1 false 14) (.Q 5 (jl 18 1 false 17) (.P 6 (jb 19 .add 15 18) (.P 7 (ji 20 5 1 2 13) (.e 8 (jo' 1 20 19) .nil)))))))))
def Z0fs:IC:=(.sq [jm 12 10,jm 5 12] (.draw Z0n4 [8]))
def Z0j5:IC:=(.sq [jb 11 .lss 10 (ci 5)] (.seq (.cond 11 .skip (.exit 0)) (.seq (.block 1 Z0fs) (.ops [jb 21 .add 10 (ci 1),jm 10 21]))))
def Z0fr:IC:=(.loop Z0j5)
def d249:FnD:=⟨24,[.cell 4 5 true],(.sq [jx 2 202 0,jx 3 202 1,ja 4 202 [Z5]] (.seq (.draw Z0n3 [4,5]) (.seq (.sq [jm 10 (ci 0)] (.block 0 Z0fr)) (.sq [jl 22 5 true 2,jc 23 379 [22],js' 5 4 23] .ret))))⟩
theorem Z0v3:okF Tryz.prog 249 d249=true:=by kernel_rfl
def Z0g0:IC:=(.ops [jm 15 4,jm 16 4,ji 17 5 1 1 16,jl 18 1 false 17,jb 19 .sub (cu 4503599627370494) 18,ji 20 5 1 3 15,js' 1 20 19])
def Z0j9:IC:=(.seq (.sq [jm 11 4,jb 12 .lss 11 (ci 5)] (.cond 12 .skip (.exit 0))) (.seq (.block 1 Z0g0) (.ops [jm 13 4,jb 14 .add 13 (ci 1),jm 4 14])))
def Z0fz:IC:=(.loop Z0j9)
def d253:FnD:=⟨23,[.cell 2 5 true],(.sq [jx 1 202 0,ja 2 202 [Z5]] (.sq [jl 5 5 true 1,jc 6 379 [5],js' 5 1 6] (.sq [ji 7 5 1 1 (ci 0),jl 8 1 false 7,jb 9 .sub (cu 4503599627370458) 8,jd 10 [Z5] [(0,1,9)],ja 3 202 [Z5],js' 5 3 10] (.seq (.sq [jm 4 (ci 1)] (.block 0 Z0fz)) (.sq [jl 21 5 true 3,jc 22 379 [21],js' 5 2 22] .ret)))))⟩
theorem Z0v5:okF Tryz.prog 253 d253=true:=by kernel_rfl
def Z0n2:Sch:=(.Q 0 (jl 5 5 true 2) (.Q 1 (jl 6 5 true 3) (.P 2 (jc 7 253 [6]) (.P 3 (jc 8 249 [5,7]) (.e 4 (jo' 5 4 8) .nil)))))
def d248:FnD:=⟨9,[.cell 4 5 true],(.sq [jx 2 202 0,jx 3 202 1,ja 4 202 [Z5]] (.seq (.draw Z0n2 [4]) .ret))⟩
theorem Z0v2:okF Tryz.prog 248 d248=true:=by kernel_rfl
def Z0oc:Sch:=(.Q 0 (jl 9 5 true 4) (.Q 1 (jl 10 5 true 5) (.P 2 (jc 11 250 [9,10]) (.Q 3 (jl 12 5 true 6) (.Q 4 (jl 13 5 true 7) (.P 5 (jc 14 250 [12,13]) (.Q 6 (jl 15 5 true 5) (.Q 7 (jl 16 5 true 6) (.P 8 (jc 17 250 [15,16]) (.Q 9 (jl 18 5 true 4) (.Q 10 (jl 19 5 true 7) (.P 11 (jc 20 250 [18,19]) (.P 12 (jd 21 [Z5,Z5,Z5,Z5] [(0,5,11),(5,5,14),(10,5,17),(15,5,20)]) (.e 13 (jo' 20 8 21) .nil))))))))))))))
def d396:FnD:=⟨22,[.cell 8 20 true],(.sq [jx 4 202 0,jx 5 202 1,jx 6 202 2,jx 7 202 3,ja 8 204 [Z5,Z5,Z5,Z5]] (.seq (.draw Z0oc [13]) .ret))⟩
theorem Z0y1:okF Tryz.prog 396 d396=true:=by kernel_rfl
def d397:FnD:=⟨2,[.cell 0 5 true],(.sq [ja 0 202 [Z5]] (.sq [jd 1 [Z5] [(0,1,(cu 1859910466990425)),(1,1,(cu 932731440258426)),(2,1,(cu 1072319116312658)),(3,1,(cu 1815898335770999)),(4,1,(cu 633789495995903))],js' 5 0 1] .ret))⟩
theorem Z0y2:okF Tryz.prog 397 d397=true:=by kernel_rfl
def Z0ng:Sch:=(.P 0 (jf 10 5 2) (.P 2 (jf 12 0 2) (.P 5 (jf 15 5 3) (.P 7 (jf 17 0 3) (.Q 1 (jl 11 5 true 10) (.Q 3 (jl 13 5 true 12) (.P 4 (jc 14 248 [11,13]) (.Q 6 (jl 16 5 true 15) (.Q 8 (jl 18 5 true 17) (.P 9 (jc 19 248 [16,18]) (.P 10 (jc 20 250 [14,19]) (.e 11 (oi 5 (.al 202 [Z5])) (.e 12 (jo' 5 5 20) .nil)))))))))))))
def Z0nh:Sch:=(.P 0 (jf 21 5 2) (.P 2 (jf 23 0 2) (.P 5 (jf 26 5 3) (.P 7 (jf 28 0 3) (.Q 1 (jl 22 5 true 21) (.Q 3 (jl 24 5 true 23) (.P 4 (jc 25 249 [22,24]) (.Q 6 (jl 27 5 true 26) (.Q 8 (jl 29 5 true 28) (.P 9 (jc 30 249 [27,29]) (.P 10 (jc 31 250 [25,30]) (.e 11 (oi 6 (.al 202 [Z5])) (.e 12 (jo' 5 6 31) .nil)))))))))))))
def Z0ni:Sch:=(.P 0 (jf 33 15 2) (.P 4 (jf 37 15 3) (.Q 1 (jl 34 5 true 33) (.Q 2 (jl 35 5 true 7) (.P 3 (jc 36 250 [34,35]) (.Q 5 (jl 38 5 true 37) (.P 6 (jc 39 250 [36,38]) (.e 7 (oi 8 (.al 202 [Z5])) (.e 8 (jo' 5 8 39) .nil)))))))))
def Z0nj:Sch:=(.P 0 (jf 40 10 2) (.P 2 (jf 42 10 2) (.P 5 (jf 45 10 3) (.Q 1 (jl 41 5 true 40) (.Q 3 (jl 43 5 true 42) (.P 4 (jc 44 249 [41,43]) (.Q 6 (jl 46 5 true 45) (.P 7 (jc 47 250 [44,46]) (.e 8 (oi 9 (.al 202 [Z5])) (.e 9 (jo' 5 9 47) .nil))))))))))
def Z0nk:Sch:=(.Q 0 (jl 48 5 true 6) (.Q 1 (jl 49 5 true 5) (.P 2 (jc 50 248 [48,49]) (.Q 3 (jl 51 5 true 9) (.Q 4 (jl 52 5 true 8) (.P 5 (jc 53 248 [51,52]) (.Q 6 (jl 54 5 true 9) (.Q 7 (jl 55 5 true 8) (.P 8 (jc 56 249 [54,55]) (.Q 9 (jl 57 5 true 6) (.Q 10 (jl 58 5 true 5) (.P 11 (jc 59 249 [57,58]) (.P 12 (jc 60 396 [50,53,56,59]) (.e 13 (jo' 20 4 60) .nil))))))))))))))
def d267:FnD:=⟨61,[.cell 4 20 true],(.sq [jx 2 204 0,jx 3 204 1,ja 4 204 [Z5,Z5,Z5,Z5]] (.seq (.draw Z0ng [12]) (.seq (.draw Z0nh [12]) (.sq [jc 32 397 [],ja 7 202 [Z5],js' 5 7 32] (.seq (.draw Z0ni [8]) (.seq (.draw Z0nj [9]) (.seq (.draw Z0nk [13]) .ret)))))))⟩
theorem Z0vj:okF Tryz.prog 267 d267=true:=by kernel_rfl
def Z0nd:Sch:=(.P 0 (jm 10 4) (.P 1 (jb 11 .add 10 (ci 1)) (.P 2 (jm 12 4) (.P 3 (ji 13 16 20 3 12) (.Q 4 (jl 14 20 true 13) (.Q 5 (jl 15 20 true 1) (.P 6 (jc 16 267 [14,15]) (.P 7 (ji 17 16 20 3 11) (.e 8 (jo' 20 17 16) .nil)))))))))
def Z0gg:IC:=(.sq [jm 9 7,jm 4 9] (.draw Z0nd [8]))
def Z0jh:IC:=(.sq [jb 8 .lss 7 (ci 15)] (.seq (.cond 8 .skip (.exit 0)) (.seq (.block 1 Z0gg) (.ops [jb 18 .add 7 (ci 1),jm 7 18]))))
def Z0gf:IC:=(.loop Z0jh)
def d264:FnD:=⟨20,[.cell 2 320 true],(.sq [jx 1 204 0,ja 2 331 [.rows 20 16 (fun _=>cells [Z5,Z5,Z5,Z5])]] (.sq [ja 3 331 [.rows 20 16 (fun _=>cells [Z5,Z5,Z5,Z5])]] (.sq [jc 5 265 [],ji 6 16 20 3 (ci 0),js' 20 6 5] (.seq (.sq [jm 7 (ci 0)] (.block 0 Z0gf)) (.sq [jl 19 320 true 3,js' 320 2 19] .ret)))))⟩
theorem Z0vg:okF Tryz.prog 264 d264=true:=by kernel_rfl
def Z0ne:Sch:=(.P 1 (jf 23 0 1) (.P 3 (jf 25 5 1) (.Q 0 (jl 22 5 true 6) (.Q 2 (jl 24 5 true 23) (.Q 4 (jl 26 5 true 25) (.P 5 (jc 27 249 [24,26]) (.P 6 (jc 28 245 [27]) (.P 7 (jc 29 248 [22,28]) (.e 8 (oi 7 (.al 202 [Z5])) (.e 9 (jo' 5 7 29) .nil))))))))))
def Z0nf:Sch:=(.Q 0 (jl 33 5 true 5) (.Q 1 (jl 34 5 true 5) (.P 2 (jc 35 249 [33,34]) (.Q 3 (jl 36 5 true 8) (.P 4 (jc 37 249 [35,36]) (.e 5 (oi 9 (.al 202 [Z5])) (.e 6 (jo' 5 9 37) .nil)))))))
def d266:FnD:=⟨43,[.cell 2 20 true],(.sq [jx 1 204 0,ja 2 204 [Z5,Z5,Z5,Z5]] (.sq [jf 10 0 1,jl 11 5 true 10,jc 12 245 [11],ja 3 202 [Z5],js' 5 3 12] (.sq [jf 13 5 1,jl 14 5 true 13,jc 15 245 [14],ja 4 202 [Z5],js' 5 4 15] (.sq [jf 16 10 1,jl 17 5 true 16,jc 18 245 [17],ja 5 202 [Z5],js' 5 5 18] (.sq [jl 19 5 true 3,jl 20 5 true 4,jc 21 249 [19,20],ja 6 202 [Z5],js' 5 6 21] (.seq (.draw Z0ne [9]) (.sq [jl 30 5 true 3,jl 31 5 true 4,jc 32 248 [30,31],ja 8 202 [Z5],js' 5 8 32] (.seq (.draw Z0nf [6]) (.sq [jl 38 5 true 7,jl 39 5 true 9,jl 40 5 true 8,jl 41 5 true 6,jc 42 396 [38,39,40,41],js' 20 2 42] .ret)))))))))⟩
theorem Z0vi:okF Tryz.prog 266 d266=true:=by kernel_rfl
def d268:FnD:=⟨16,[.tmp 4],(.sq [jx 2 149 0,jm 4 (c8 0)] (.sq [jm 5 1,jb 6 .quo 5 (ci 2),jb 7 .sub (ci 31) 6,ji 8 32 1 2 7,jl 9 1 false 8,jm 10 1,jb 11 .rem 10 (ci 2),jb 12 .sub (ci 1) 11,jb 13 .mul (ci 4) 12,jb 14 .shr 9 13,jb 15 .and 14 (c8 15),jm 4 15] .ret))⟩
theorem Z0vk:okF Tryz.prog 268 d268=true:=by kernel_rfl
def Z0h6:IC:=(.ops [jl 16 20 true 6,jc 17 266 [16],js' 20 6 17])
def Z0ju:IC:=(.sq [jb 15 .lss 14 (ci 4)] (.seq (.cond 15 .skip (.exit 2)) (.seq (.block 3 Z0h6) (.ops [jb 18 .add 14 (ci 1),jm 14 18]))))
def Z0h5:IC:=(.loop Z0ju)
def Z0ce:Sch:=(.P 2 (jm 21 7) (.Q 0 (jl 19 20 true 6) (.Q 1 (jl 20 32 true 2) (.P 3 (jc 22 268 [20,21]) (.P 4 (ji 23 16 20 5 22) (.Q 5 (jl 24 20 true 23) (.P 6 (jc 25 267 [19,24]) (.e 7 (jo' 20 6 25) .nil))))))))
def Z0h4:IC:=(.sq [jm 13 11,jm 7 13] (.seq (.sq [jm 14 (ci 0)] (.block 2 Z0h5)) (.draw Z0ce [7])))
def Z0jt:IC:=(.sq [jb 12 .lss 11 (ci 64)] (.seq (.cond 12 .skip (.exit 0)) (.seq (.block 1 Z0h4) (.ops [jb 26 .add 11 (ci 1),jm 11 26]))))
def Z0h3:IC:=(.loop Z0jt)
def d317:FnD:=⟨28,[.cell 4 20 true],(.sq [jx 2 149 0,jx 3 204 1,ja 4 204 [Z5,Z5,Z5,Z5]] (.sq [jl 8 20 true 3,jc 9 264 [8],ja 5 331 [.rows 20 16 (fun _=>cells [Z5,Z5,Z5,Z5])],js' 320 5 9] (.sq [jc 10 265 [],ja 6 204 [Z5,Z5,Z5,Z5],js' 20 6 10] (.seq (.sq [jm 11 (ci 0)] (.block 0 Z0h3)) (.sq [jl 27 20 true 6,js' 20 4 27] .ret)))))⟩
theorem Z0wd:okF Tryz.prog 317 d317=true:=by kernel_rfl
def Z0my:Sch:=(.P 1 (jc 4 263 []) (.Q 0 (jl 3 32 true 1) (.P 2 (jc 5 317 [3,4]) (.e 3 (jo' 20 2 5) .nil))))
def d207:FnD:=⟨6,[.cell 2 20 true],(.sq [jx 1 149 0,ja 2 204 [Z5,Z5,Z5,Z5]] (.seq (.draw Z0my [3]) .ret))⟩
theorem Z0u9:okF Tryz.prog 207 d207=true:=by kernel_rfl
def Z0g4:IC:=(.sq [jm 7 5,jm 4 7] (.ops [jm 9 4,oj 10 (.sla 32 1 1 none none none),jm 11 4,jb 12 .mul (ci 8) 11,jc 13 389 [10,12],jm 8 13,je 14 8 0,je 15 8 1,ji 16 4 1 3 9,js' 1 16 14]))
def Z0jb:IC:=(.sq [jb 6 .lss 5 (ci 4)] (.seq (.cond 6 .skip (.exit 0)) (.seq (.block 1 Z0g4) (.ops [jb 17 .add 5 (ci 1),jm 5 17]))))
def Z0g3:IC:=(.loop Z0jb)
def d255:FnD:=⟨19,[.cell 2 4 true],(.sq [jx 1 149 0,ja 2 321 [.ints .u64 4 (replicate 4 0)]] (.sq [ja 3 321 [.ints .u64 4 (replicate 4 0)]] (.seq (.sq [jm 5 (ci 0)] (.block 0 Z0g3)) (.sq [jl 18 4 true 3,js' 4 2 18] .ret))))⟩
theorem Z0v7:okF Tryz.prog 255 d255=true:=by kernel_rfl
def d421:FnD:=⟨7,[.tmp 2],(.sq [jx 1 149 0,jm 2 (.const (.slice none 0 0))] (.sq [jl 4 32 true 1,jc 5 255 [4],ja 3 321 [.ints .u64 4 (replicate 4 0)],js' 4 3 5] (.sq [oj 6 (.sla 4 1 3 none none none),jm 2 6] .ret)))⟩
theorem Z0yg:okF Tryz.prog 421 d421=true:=by kernel_rfl
def d418:FnD:=⟨6,[.cell 2 4 true],(.sq [jx 1 149 0,ja 2 321 [.ints .u64 4 (replicate 4 0)]] (.sq [jl 3 32 true 1,jc 4 421 [3],jc 5 392 [4],js' 4 2 5] .ret))⟩
theorem Z0yd:okF Tryz.prog 418 d418=true:=by kernel_rfl
def Z0o4:Sch:=(.Q 0 (jl 8 32 true 2) (.P 1 (jc 9 418 [8]) (.Q 2 (jl 10 32 true 3) (.P 3 (jc 11 418 [10]) (.P 4 (jc 12 417 [9,11]) (.P 5 (jm 7 12) (.P 6 (je 13 7 0) (.P 7 (je 14 7 1) (.e 8 (oi 5 (.al 321 [.ints .u64 4 (replicate 4 0)])) (.e 9 (jo' 4 5 13) (.P 10 (jm 6 14) .nil)))))))))))
def d318:FnD:=⟨18,[.cell 4 32 true],(.sq [jx 2 149 0,jx 3 149 1,ja 4 149 [.ints .u8 32 (replicate 32 0)]] (.seq (.draw Z0o4 [9]) (.sq [jl 15 4 true 5,jc 16 419 [15],jc 17 391 [16],js' 32 4 17] .ret)))⟩
theorem Z0we:okF Tryz.prog 318 d318=true:=by kernel_rfl
def Z0o5:Sch:=(.Q 0 (jl 5 32 true 2) (.Q 2 (jl 7 32 true 3) (.e 1 (oi 6 (.call 421 [5])) (.e 3 (oi 8 (.call 421 [7])) (.e 4 (oi 9 (.call 420 [6,8])) (.e 5 (oi 10 (.call 392 [9])) (.P 6 (jc 11 391 [10]) (.e 7 (jo' 32 4 11) .nil))))))))
def d319:FnD:=⟨12,[.cell 4 32 true],(.sq [jx 2 149 0,jx 3 149 1,ja 4 149 [.ints .u8 32 (replicate 32 0)]] (.seq (.draw Z0o5 [7]) .ret))⟩
theorem Z0wf:okF Tryz.prog 319 d319=true:=by kernel_rfl
def Z0mz:Sch:=(.Q 0 (jl 7 32 true 3) (.Q 1 (jl 8 32 true 4) (.P 2 (jc 9 319 [7,8]) (.Q 3 (jl 10 32 true 5) (.P 4 (jc 11 318 [9,10]) (.e 5 (jo' 32 6 11) .nil))))))
def d208:FnD:=⟨12,[.cell 6 32 true],(.sq [jx 3 149 0,jx 4 149 1,jx 5 149 2,ja 6 149 [.ints .u8 32 (replicate 32 0)]] (.seq (.draw Z0mz [5]) .ret))⟩
theorem Z0ua:okF Tryz.prog 208 d208=true:=by kernel_rfl
def Z0m9:Sch:=(.P 0 (oj 28 (.sla 32 1 9 none none none)) (.P 1 (oj 29 (.sla 32 1 7 none none none)) (.P 2 (jm 30 1) (.two 3 (oi 31 (.bs 81 3 1 [.one (.slice none 0 0),.one (.slice none 0 0),.one (.slice none 0 0)] [(0,1,28),(1,1,29),(2,1,30)])) (.two 4 (oi 32 (.call 155 [31])) (.e 5 (oi 10 (.al 149 [.ints .u8 32 (replicate 32 0)])) (.e 6 (jo' 32 10 32) .nil))
 5 ⟨some 10,none,.al 149 [.ints .u8 32 (replicate 32 0)]⟩ (.e 4 (oi 32 (.call 155 [31])) (.e 6 (jo' 32 10 32) .nil)))
 5 ⟨some 10,none,.al 149 [.ints .u8 32 (replicate 32 0)]⟩ (.e 3 (oi 31 (.bs 81 3 1 [.one (.slice none 0 0),.one (.slice none 0 0),.one (.slice none 0 0)] [(0,1,28),(1,1,29),(2,1,30)])) (.e 4 (oi 32 (.call 155 [31])) (.e 6 (jo' 32 10 32) .nil)))))))
def Z0ma:Sch:=(.P 0 (oj 37 (.sla 64 1 12 none (some (ci 32)) none)) (.P 1 (oj 38 (.sla 32 1 9 none none none)) (.e 2 (oi 39 (.cpy 1 37 38)) .nil)))
def Z0mb:Sch:=(.P 0 (oj 40 (.sla 64 1 12 (some (ci 32)) none none)) (.P 1 (oj 41 (.sla 32 1 11 none none none)) (.e 2 (oi 42 (.cpy 1 40 41)) .nil)))
def d113:FnD:=⟨44,[.cell 4 64 true],(.sq [jx 2 23 0,ja 4 25 [.ints .u8 64 (replicate 64 0)]] (.sq [jl 14 32 true 2,jc 15 206 [14],jm 13 15,je 16 13 0,je 17 13 1,ja 5 149 [.ints .u8 32 (replicate 32 0)],js' 32 5 16,jm 6 17] (.sq [jl 18 32 true 5,jc 19 207 [18],jc 20 156 [19],ja 7 44 [.ints .u8 32 (replicate 32 0)],js' 32 7 20] (.sq [jm 21 6,jm 22 1,oj 23 (.bs 81 2 1 [.one (.slice none 0 0),.one (.slice none 0 0)] [(0,1,21),(1,1,22)]),jc 24 155 [23],ja 8 149 [.ints .u8 32 (replicate 32 0)],js' 32 8 24] (.sq [jl 25 32 true 8,jc 26 207 [25],jc 27 156 [26],ja 9 44 [.ints .u8 32 (replicate 32 0)],js' 32 9 27] (.seq (.draw Z0m9 [6]) (.sq [jl 33 32 true 10,jl 34 32 true 5,jl 35 32 true 8,jc 36 208 [33,34,35],ja 11 149 [.ints .u8 32 (replicate 32 0)],js' 32 11 36] (.sq [ja 12 25 [.ints .u8 64 (replicate 64 0)]] (.seq (.draw Z0ma [2]) (.seq (.draw Z0mb [2]) (.sq [jl 43 64 true 12,js' 64 4 43] .ret)))))))))))⟩
theorem Z0sq:okF Tryz.prog 113 d113=true:=by kernel_rfl
def d159:FnD:=⟨15,[.tmp 6],(.sq [jm 6 (.const (.bool false))] (.sq [jm 7 0,jm 8 1,jb 9 .geq 7 8,jm 10 9,.lg false 10 14 none [.op ⟨some 11,(some (10,true)),.mv 0⟩,.op ⟨some 12,(some (10,true)),.mv 2⟩,.op ⟨some 13,(some (10,true)),.bin .leq 11 12⟩] 13,jm 6 14] .ret))⟩
theorem Z0tj:okF Tryz.prog 159 d159=true:=by kernel_rfl
def Z10a:LJ:=[jf 3 0 1,jl 4 1 false 3,jc 5 159 [4,(ci 1),(ci 65535)],jm 6 5,.lg false 6 10 none [.op ⟨some 7,(some (6,true)),.fa 1 1⟩,.op ⟨some 8,(some (6,true)),.ld 1 false 7⟩,.op ⟨some 9,(some (6,true)),.call 159 [8,(ci 1),(ci 4096)]⟩] 9,jm 11 10,.lg false 11 15 none [.op ⟨some 12,(some (11,true)),.fa 2 1⟩,.op ⟨some 13,(some (11,true)),.ld 1 false 12⟩,.op ⟨some 14,(some (11,true)),.bin .geq 13 (ci 0)⟩] 14,jm 16 15,.lg false 16 20 none [.op ⟨some 17,(some (16,true)),.fa 2 1⟩,.op ⟨some 18,(some (16,true)),.ld 1 false 17⟩,.op ⟨some 19,(some (16,true)),.bin .leq 18 (ci 1000000000)⟩] 19,jm 2 20]
def d88:FnD:=⟨21,[.tmp 2],(.sq [jx 1 27 0,jm 2 (.const (.bool false))] (.sq Z10a .ret))⟩
theorem ok88:okF Tryz.prog 88 d88=true:=by kernel_rfl
def d200:FnD:=⟨22,[],(.sq [jm 5 0,jz 6 5,jf 7 1 6,jl 8 1 false 7,jb 9 .eql 8 (ci 0)] (.cond 9 (.sq [jm 4 (.const (.slice none 0 0))] (.sq [jm 10 4,jm 11 0,jz 12 11,jf 13 0 12,jl 14 1 false 13,oj 15 (.app 5 1 1 [.one (.int .u8 0)] 10 14),jm 4 15] (.ops [jm 16 0,jm 17 4,jm 18 1,oj 19 (.app 5 1 1 [.one (.int .u8 0)] 17 18),jz 20 16,jf 21 0 20,js' 1 21 19]))) .skip))⟩
theorem Z0u6:okF Tryz.prog 200 d200=true:=by kernel_rfl
def d107:FnD:=⟨7,[],(.ops [jm 4 0,jm 5 1,jc 6 200 [4,5]])⟩
theorem Z0sp:okF Tryz.prog 107 d107=true:=by kernel_rfl
def d160:FnD:=⟨12,[.tmp 2],(.sq [jm 2 (.const (.slice none 0 0))] (.seq (.sq [jm 3 0,jb 4 .lss 3 (ci 1),jm 5 4,.lg true 5 8 none [.op ⟨some 6,(some (5,false)),.mv 0⟩,.op ⟨some 7,(some (5,false)),.bin .gtr 6 (ci 255)⟩] 7] (.cond 8 (.sq [jm 2 (.const (.slice none 0 0))] .ret) .skip)) (.sq [jm 9 0,jv 10 .u8 9,oj 11 (.bs 5 4 1 [.one (.int .u8 0),.one (.int .u8 0),.one (.int .u8 0),.one (.int .u8 0)] [(0,1,(c8 70)),(1,1,(c8 66)),(2,1,(c8 1)),(3,1,10)]),jm 2 11] .ret)))⟩
theorem Z0tk:okF Tryz.prog 160 d160=true:=by kernel_rfl
def d89:FnD:=⟨11,[.tmp 2],(.sq [jm 2 (.const (.pointer none))] (.sq [jd 4 [.one (.slice none 0 0),.one (.int .i64 0)] [],jx 5 213 4,jm 3 5] (.sq [jm 6 3,jm 7 0,jc 8 160 [7],jc 9 107 [6,8]] (.sq [jm 10 3,jm 2 10] .ret))))⟩
theorem ok89:okF Tryz.prog 89 d89=true:=by kernel_rfl
def Z0mg:Sch:=(.P 0 (jm 9 0) (.P 1 (jz 10 9) (.P 2 (jf 11 1 10) (.P 4 (jm 2 (.const (.slice none 0 0))) (.Q 3 (jl 12 1 false 11) (.P 5 (jm 3 12) .nil))))))
def d161:FnD:=⟨17,[.tmp 2,.tmp 3],(.sq [jm 2 (.const (.slice none 0 0)),jm 3 (ci 0)] (.seq (.sq [jm 4 0,jz 5 4,jf 6 1 5,jl 7 1 false 6,jb 8 .neq 7 (ci 0)] (.cond 8 (.seq (.draw Z0mg []) .ret) .skip)) (.sq [jm 13 0,jz 14 13,jf 15 0 14,jl 16 1 false 15,jm 2 16,jm 3 (ci 0)] .ret)))⟩
theorem Z0tl:okF Tryz.prog 161 d161=true:=by kernel_rfl
def d91:FnD:=⟨11,[.tmp 2],(.sq [jm 2 (.const (.slice none 0 0))] (.sq [jm 6 0,jc 7 161 [6],jm 5 7,je 8 5 0,je 9 5 1,jm 3 8,jm 4 9] (.sq [jm 10 3,jm 2 10] .ret)))⟩
theorem ok91:okF Tryz.prog 91 d91=true:=by kernel_rfl
def Z0mw:LJ:=[jm 3 0,jb 4 .quo 3 (.const (.int .u32 16777216)),jv 5 .u8 4,jm 6 0,jb 7 .quo 6 (.const (.int .u32 65536)),jv 8 .u8 7,jm 9 0,jb 10 .quo 9 (.const (.int .u32 256)),jv 11 .u8 10,jm 12 0,jv 13 .u8 12,oj 14 (.bs 5 4 1 [.one (.int .u8 0),.one (.int .u8 0),.one (.int .u8 0),.one (.int .u8 0)] [(0,1,5),(1,1,8),(2,1,11),(3,1,13)]),jm 2 14]
def d201:FnD:=⟨15,[.tmp 2],(.sq [jm 2 (.const (.slice none 0 0))] (.sq Z0mw .ret))⟩
theorem Z0u7:okF Tryz.prog 201 d201=true:=by kernel_rfl
def d106:FnD:=⟨8,[],(.ops [jm 4 0,jm 5 1,jc 6 201 [5],jc 7 200 [4,6]])⟩
theorem Z0so:okF Tryz.prog 106 d106=true:=by kernel_rfl
def d288:FnD:=⟨13,[.tmp 2],(.sq [jm 2 (.const (.slice none 0 0))] (.sq [jm 4 0,jb 5 .quo 4 (cu 4294967296),jv 6 .u32 5,jc 7 201 [6],jm 3 7] (.sq [jm 8 3,jm 9 0,jv 10 .u32 9,jc 11 201 [10],oj 12 (.app 5 1 1 [.one (.int .u8 0)] 8 11),jm 2 12] .ret)))⟩
theorem Z0w4:okF Tryz.prog 288 d288=true:=by kernel_rfl
def d182:FnD:=⟨8,[],(.ops [jm 4 0,jm 5 1,jc 6 288 [5],jc 7 200 [4,6]])⟩
theorem Z0u5:okF Tryz.prog 182 d182=true:=by kernel_rfl
def d101:FnD:=⟨23,[],(.sq [jx 3 27 1] (.sq [jm 4 0,jf 5 0 3,jl 6 1 false 5,jv 7 .u32 6,jc 8 106 [4,7]] (.sq [jm 9 0,jf 10 1 3,jl 11 1 false 10,jv 12 .u32 11,jc 13 106 [9,12]] (.sq [jm 14 0,jf 15 2 3,jl 16 1 false 15,jv 17 .u64 16,jc 18 182 [14,17]] (.ops [jm 19 0,jf 20 3 3,oj 21 (.sla 32 1 20 none none none),jc 22 107 [19,21]])))))⟩
theorem Z0sn:okF Tryz.prog 101 d101=true:=by kernel_rfl
def d46:FnD:=⟨13,[.tmp 2],(.sq [jx 1 27 0,jm 2 (.const (.slice none 0 0))] (.seq (.sq [jl 4 99 true 1,jc 5 88 [4],oj 6 (.un .not 5)] (.cond 6 (.sq [jm 2 (.const (.slice none 0 0))] .ret) .skip)) (.sq [jc 7 89 [(ci 1)],jm 3 7] (.sq [jm 8 3,jl 9 99 true 1,jc 10 101 [8,9]] (.sq [jm 11 3,jc 12 91 [11],jm 2 12] .ret)))))⟩
theorem ok46:okF Tryz.prog 46 d46=true:=by kernel_rfl
def Z0r0:IC:=(.sq [jm 11 6,jm 12 6,ji 13 64 1 2 12,jl 14 1 false 13,ji 15 32 1 5 11,js' 1 15 14] (.sq [jm 16 1] (.cond 16 (.ops [jm 17 6,jm 18 6,jb 19 .add (ci 32) 18,ji 20 64 1 2 19,jl 21 1 false 20,ji 22 32 1 5 17,js' 1 22 21]) .skip)))
def Z0r8:IC:=(.seq (.sq [jm 7 6,jb 8 .lss 7 (ci 32)] (.cond 8 .skip (.exit 0))) (.seq (.block 1 Z0r0) (.ops [jm 9 6,jb 10 .add 9 (ci 1),jm 6 10])))
def Z0qz:IC:=(.loop Z0r8)
def d92:FnD:=⟨24,[.cell 4 32 true],(.sq [jx 2 148 0,ja 4 22 [.ints .u8 32 (replicate 32 0)]] (.sq [ja 5 22 [.ints .u8 32 (replicate 32 0)]] (.seq (.sq [jm 6 (ci 0)] (.block 0 Z0qz)) (.sq [jl 23 32 true 5,js' 32 4 23] .ret))))⟩
theorem ok92:okF Tryz.prog 92 d92=true:=by kernel_rfl
def Z0eq:IC:=(.ops [jm 11 3,jm 12 0,jm 13 4,ji' 14 1 12 13,jl 15 1 false 14,jv 16 .i64 15,oj 17 (.bs 3 1 1 [.one (.int .i64 0)] [(0,1,16)]),oj 18 (.app 3 1 8 [.one (.int .i64 0)] 11 17),jm 3 18])
def Z0im:IC:=(.seq (.sq [jm 5 4,jm 6 0,jn' 7 6,jb 8 .lss 5 7] (.cond 8 .skip (.exit 0))) (.seq (.block 1 Z0eq) (.ops [jm 9 4,jb 10 .add 9 (ci 1),jm 4 10])))
def Z0ep:IC:=(.loop Z0im)
def d169:FnD:=⟨20,[.tmp 2],(.sq [jm 2 (.const (.slice none 0 0))] (.sq [jm 3 (.const (.slice none 0 0))] (.seq (.sq [jm 4 (ci 0)] (.block 0 Z0ep)) (.sq [jm 19 3,jm 2 19] .ret))))⟩
theorem Z0ts:okF Tryz.prog 169 d169=true:=by kernel_rfl
def d278:FnD:=⟨13,[.tmp 4],(.sq [jm 4 (ci 0)] (.seq (.sq [jm 5 1,jm 6 0,jn' 7 6,jb 8 .lss 5 7] (.cond 8 (.sq [jm 9 0,jm 10 1,ji' 11 1 9 10,jl 12 1 false 11,jm 4 12] .ret) .skip)) (.sq [jm 4 (ci 0)] .ret)))⟩
theorem Z0vu:okF Tryz.prog 278 d278=true:=by kernel_rfl
def Z0es:IC:=(.ops [jm 9 4,jm 10 0,jm 11 4,jc 12 278 [10,11],jv 13 .u8 12,ji 14 32 1 3 9,js' 1 14 13])
def Z0in:IC:=(.seq (.sq [jm 5 4,jb 6 .lss 5 (ci 32)] (.cond 6 .skip (.exit 0))) (.seq (.block 1 Z0es) (.ops [jm 7 4,jb 8 .add 7 (ci 1),jm 4 8])))
def Z0er:IC:=(.loop Z0in)
def d171:FnD:=⟨16,[.cell 2 32 true],(.sq [ja 2 149 [.ints .u8 32 (replicate 32 0)]] (.sq [ja 3 149 [.ints .u8 32 (replicate 32 0)]] (.seq (.sq [jm 4 (ci 0)] (.block 0 Z0er)) (.sq [jl 15 32 true 3,js' 32 2 15] .ret))))⟩
theorem Z0tu:okF Tryz.prog 171 d171=true:=by kernel_rfl
def d277:FnD:=⟨14,[.tmp 4],(.sq [jm 4 (ci 0)] (.seq (.sq [jm 5 0,jn' 6 5,jm 7 1,jn' 8 7,jb 9 .lss 6 8] (.cond 9 (.sq [jm 10 1,jn' 11 10,jm 4 11] .ret) .skip)) (.sq [jm 12 0,jn' 13 12,jm 4 13] .ret)))⟩
theorem Z0vt:okF Tryz.prog 277 d277=true:=by kernel_rfl
def Z0eo:IC:=(.sq [jm 14 0,jm 15 5,jc 16 278 [14,15],jm 17 1,jm 18 5,jc 19 278 [17,18],jb 20 .neq 16 19] (.cond 20 (.sq [jm 21 0,jm 22 5,jc 23 278 [21,22],jm 24 1,jm 25 5,jc 26 278 [24,25],jb 27 .lss 23 26,jm 4 27] .ret) .skip))
def Z0il:IC:=(.seq (.sq [jm 10 5,jb 11 .geq 10 (ci 0)] (.cond 11 .skip (.exit 0))) (.seq (.block 1 Z0eo) (.ops [jm 12 5,jb 13 .sub 12 (ci 1),jm 5 13])))
def Z0en:IC:=(.loop Z0il)
def d168:FnD:=⟨28,[.tmp 4],(.sq [jm 4 (.const (.bool false))] (.seq (.sq [jm 6 0,jm 7 1,jc 8 277 [6,7],jb 9 .sub 8 (ci 1),jm 5 9] (.block 0 Z0en)) (.sq [jm 4 (.const (.bool false))] .ret)))⟩
theorem Z0tr:okF Tryz.prog 168 d168=true:=by kernel_rfl
def Z0mm:LJ:=[oj 1 (.bs 3 32 1 [.one (.int .i64 0),.one (.int .i64 0),.one (.int .i64 0),.one (.int .i64 0),.one (.int .i64 0),.one (.int .i64 0),.one (.int .i64 0),.one (.int .i64 0),.one (.int .i64 0),.one (.int .i64 0),.one (.int .i64 0),.one (.int .i64 0),.one (.int .i64 0),.one (.int .i64 0),.one (.int .i64 0),.one (.int .i64 0),.one (.int .i64 0),.one (.int .i64 0),.one (.int .i64 0),.one (.int .i64 0),.one (.int .i64 0),.one (.int .i64 0),.one (.int .i64 0),.one (.int .i64 0),.one (.int .i64 0),.one (.int .i64 0),.one (.int .i64 0),.one (.int .i64 0),.one (.int .i64 0),.one (.int .i64 0),.one (.int .i64 0),.one (.int .i64 0)] [(0,1,(ci 237)),(1,1,(ci 211)),(2,1,(ci 245)),(3,1,(ci 92)),(4,1,(ci 26)),(5,1,(ci 99)),(6,1,(ci 18)),(7,1,(ci 88)),(8,1,(ci 214)),(9,1,(ci 156)),(10,1,(ci 247)),(11,1,(ci 162)),(12,1,(ci 222)),(13,1,(ci 249)),(14,1,(ci 222)),(15,1,(ci 20)),(16,1,(ci 0)),(17,1,(ci 0)),(18,1,(ci 0)),(19,1,(ci 0)),(20,1,(ci 0)),(21,1,(ci 0)),(22,1,(ci 0)),(23,1,(ci 0)),(24,1,(ci 0)),(25,1,(ci 0)),(26,1,(ci 0)),(27,1,(ci 0)),(28,1,(ci 0)),(29,1,(ci 0)),(30,1,(ci 0)),(31,1,(ci 16))]),jm 0 1]
def d170:FnD:=⟨2,[.tmp 0],(.sq [jm 0 (.const (.slice none 0 0))] (.sq Z0mm .ret))⟩
theorem Z0tt:okF Tryz.prog 170 d170=true:=by kernel_rfl
def Z0go:IC:=(.ops [jm 17 5,jb 18 .quo 17 (ci 2),jm 5 18])
def Z0jl:IC:=(.seq (.sq [jm 11 6,jm 12 1,jb 13 .rem 12 (ci 8),jb 14 .lss 11 13] (.cond 14 .skip (.exit 0))) (.seq (.block 1 Z0go) (.ops [jm 15 6,jb 16 .add 15 (ci 1),jm 6 16])))
def Z0gn:IC:=(.loop Z0jl)
def d279:FnD:=⟨21,[.tmp 4],(.sq [jm 4 (ci 0)] (.sq [jm 7 0,jm 8 1,jb 9 .quo 8 (ci 8),jc 10 278 [7,9],jm 5 10] (.seq (.sq [jm 6 (ci 0)] (.block 0 Z0gn)) (.sq [jm 19 5,jb 20 .rem 19 (ci 2),jm 4 20] .ret))))⟩
theorem Z0vv:okF Tryz.prog 279 d279=true:=by kernel_rfl
def Z0nu:Sch:=(.P 0 (jm 15 0) (.P 1 (jm 16 7) (.P 2 (ji' 17 1 15 16) (.P 4 (jm 19 1) (.P 5 (jm 20 7) (.P 8 (jm 23 6) (.Q 3 (jl 18 1 false 17) (.Q 6 (jc 21 278 [19,20]) (.P 7 (jb 22 .sub 18 21) (.P 9 (jb 24 .sub 22 23) (.P 10 (jm 8 24) .nil)))))))))))
def Z0gq:IC:=(.seq (.draw Z0nu []) (.sq [jm 6 (ci 0)] (.seq (.sq [jm 25 8,jb 26 .lss 25 (ci 0)] (.cond 26 (.sq [jm 27 8,jb 28 .add 27 (ci 256),jm 8 28] (.ops [jm 6 (ci 1)])) .skip)) (.ops [jm 29 5,jm 30 8,oj 31 (.bs 3 1 1 [.one (.int .i64 0)] [(0,1,30)]),oj 32 (.app 3 1 8 [.one (.int .i64 0)] 29 31),jm 5 32]))))
def Z0jm:IC:=(.seq (.sq [jm 9 7,jm 10 0,jn' 11 10,jb 12 .lss 9 11] (.cond 12 .skip (.exit 0))) (.seq (.block 1 Z0gq) (.ops [jm 13 7,jb 14 .add 13 (ci 1),jm 7 14])))
def Z0gp:IC:=(.loop Z0jm)
def d280:FnD:=⟨34,[.tmp 4],(.sq [jm 4 (.const (.slice none 0 0))] (.sq [jm 5 (.const (.slice none 0 0))] (.sq [jm 6 (ci 0)] (.seq (.sq [jm 7 (ci 0)] (.block 0 Z0gp)) (.sq [jm 33 5,jm 4 33] .ret)))))⟩
theorem Z0vw:okF Tryz.prog 280 d280=true:=by kernel_rfl
def Z0ew:IC:=(.sq [jm 26 4,jm 27 7,ji' 28 1 26 27,jl 29 1 false 28,jb 30 .mul (ci 2) 29,jm 31 6,jb 32 .add 30 31,jm 8 32] (.sq [jm 33 4,jm 34 7,jm 35 8,jb 36 .rem 35 (ci 256),ji' 37 1 33 34,js' 1 37 36] (.ops [jm 38 8,jb 39 .quo 38 (ci 256),jm 6 39])))
def Z0ip:IC:=(.seq (.sq [jm 22 7,jb 23 .lss 22 (ci 33)] (.cond 23 .skip (.exit 2))) (.seq (.block 3 Z0ew) (.ops [jm 24 7,jb 25 .add 24 (ci 1),jm 7 25])))
def Z0ev:IC:=(.loop Z0ip)
def Z0eu:IC:=(.sq [jm 19 0,jm 20 5,jc 21 279 [19,20],jm 6 21] (.seq (.sq [jm 7 (ci 0)] (.block 2 Z0ev)) (.sq [jm 40 4,jm 41 3,jc 42 168 [40,41],oj 43 (.un .not 42)] (.cond 43 (.ops [jm 44 4,jm 45 3,jc 46 280 [44,45],jm 4 46]) .skip))))
def Z0io:IC:=(.seq (.sq [jm 15 5,jb 16 .geq 15 (ci 0)] (.cond 16 .skip (.exit 0))) (.seq (.block 1 Z0eu) (.ops [jm 17 5,jb 18 .sub 17 (ci 1),jm 5 18])))
def Z0et:IC:=(.loop Z0io)
def d172:FnD:=⟨48,[.tmp 2],(.sq [jm 2 (.const (.slice none 0 0))] (.sq [jc 9 170 [],jm 3 9] (.sq [oj 10 (.mks 3 8 [.one (.int .i64 0)] (ci 33) (ci 33)),jm 4 10] (.seq (.sq [jm 11 0,jn' 12 11,jb 13 .mul (ci 8) 12,jb 14 .sub 13 (ci 1),jm 5 14] (.block 0 Z0et)) (.sq [jm 47 4,jm 2 47] .ret)))))⟩
theorem Z0tv:okF Tryz.prog 172 d172=true:=by kernel_rfl
def d95:FnD:=⟨7,[.cell 2 32 true],(.sq [jx 1 148 0,ja 2 149 [.ints .u8 32 (replicate 32 0)]] (.sq [oj 3 (.sla 64 1 1 none none none),jc 4 169 [3],jc 5 172 [4],jc 6 171 [5],js' 32 2 6] .ret))⟩
theorem ok95:okF Tryz.prog 95 d95=true:=by kernel_rfl
def Z0f4:IC:=(.sq [jm 10 4,jb 11 .mul (ci 8) 10,jb 12 .sub (ci 56) 11,jv 13 .u64 12,jm 5 13] (.ops [jm 14 3,jm 15 0,jm 16 5,jb 17 .shr 15 16,jv 18 .u8 17,oj 19 (.bs 5 1 1 [.one (.int .u8 0)] [(0,1,18)]),oj 20 (.app 5 1 1 [.one (.int .u8 0)] 14 19),jm 3 20]))
def Z0it:IC:=(.seq (.sq [jm 6 4,jb 7 .lss 6 (ci 8)] (.cond 7 .skip (.exit 0))) (.seq (.block 1 Z0f4) (.ops [jm 8 4,jb 9 .add 8 (ci 1),jm 4 9])))
def Z0f3:IC:=(.loop Z0it)
def d175:FnD:=⟨22,[.tmp 2],(.sq [jm 2 (.const (.slice none 0 0))] (.sq [jm 3 (.const (.slice none 0 0))] (.seq (.sq [jm 4 (ci 0)] (.block 0 Z0f3)) (.sq [jm 21 3,jm 2 21] .ret))))⟩
theorem Z0ty:okF Tryz.prog 175 d175=true:=by kernel_rfl
def Z0ey:IC:=(.ops [jm 16 3,oj 17 (.bs 5 1 1 [.one (.int .u8 0)] [(0,1,(c8 0))]),oj 18 (.app 5 1 1 [.one (.int .u8 0)] 16 17),jm 3 18])
def Z0iq:IC:=(.seq (.sq [jm 9 4,jm 10 3,jn' 11 10,jb 12 .add 9 11,jb 13 .add 12 (ci 16),jb 14 .rem 13 (ci 128),jb 15 .neq 14 (ci 0)] (.cond 15 .skip (.exit 0))) (.block 1 Z0ey))
def Z0ex:IC:=(.loop Z0iq)
def d173:FnD:=⟨29,[.tmp 2],(.sq [jm 2 (.const (.slice none 0 0))] (.sq [oj 5 (.bs 5 1 1 [.one (.int .u8 0)] [(0,1,(c8 128))]),jm 3 5] (.sq [jm 6 0,jb 7 .rem 6 (cu 128),jv 8 .i64 7,jm 4 8] (.seq (.block 0 Z0ex) (.sq [jm 19 3,jm 20 0,jb 21 .quo 20 (cu 2305843009213693952),jc 22 175 [21],oj 23 (.app 5 1 1 [.one (.int .u8 0)] 19 22),jm 3 23] (.sq [jm 24 3,jm 25 0,jb 26 .mul 25 (cu 8),jc 27 175 [26],oj 28 (.app 5 1 1 [.one (.int .u8 0)] 24 27),jm 2 28] .ret))))))⟩
theorem Z0tw:okF Tryz.prog 173 d173=true:=by kernel_rfl
def Z0hw:IC:=(.ops [jm 9 3,jb 10 .mul 9 (cu 256),jm 11 0,jm 12 4,ji' 13 1 11 12,jl 14 1 false 13,jv 15 .u64 14,jb 16 .add 10 15,jm 3 16])
def Z0k7:IC:=(.seq (.sq [jm 5 4,jb 6 .lss 5 (ci 8)] (.cond 6 .skip (.exit 0))) (.seq (.block 1 Z0hw) (.ops [jm 7 4,jb 8 .add 7 (ci 1),jm 4 8])))
def Z0hv:IC:=(.loop Z0k7)
def d401:FnD:=⟨18,[.tmp 2],(.sq [jm 2 (cu 0)] (.sq [jm 3 (cu 0)] (.seq (.sq [jm 4 (ci 0)] (.block 0 Z0hv)) (.sq [jm 17 3,jm 2 17] .ret))))⟩
theorem Z0y6:okF Tryz.prog 401 d401=true:=by kernel_rfl
def d404:FnD:=⟨13,[.tmp 4],(.sq [jm 4 (cu 0)] (.sq [jm 5 0,jm 6 1,jb 7 .shr 5 6,jm 8 0,jm 9 1,jb 10 .sub (cu 64) 9,jb 11 .shl 8 10,jb 12 .or 7 11,jm 4 12] .ret))⟩
theorem Z0y9:okF Tryz.prog 404 d404=true:=by kernel_rfl
def d402:FnD:=⟨11,[.tmp 2],(.sq [jm 2 (cu 0)] (.sq [jm 3 0,jc 4 404 [3,(cu 19)],jm 5 0,jc 6 404 [5,(cu 61)],jb 7 .xor 4 6,jm 8 0,jb 9 .shr 8 (cu 6),jb 10 .xor 7 9,jm 2 10] .ret))⟩
theorem Z0y7:okF Tryz.prog 402 d402=true:=by kernel_rfl
end Go.Proofs.YtkjfpenagcdmcaaGreatDoor
