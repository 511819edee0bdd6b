/- Texts of a proof, one behind the other: E13 E14 E15 E16 E17 E18. -/
import Derived.Test.YtiflckckekjbnaaGreatDoorMS1
import Derived.Laws.Externs
namespace Go.Sx
open Go Go.RowKit
set_option linter.all false
section
variable {C:Cfg} {m:List Chunk} {t:TS} {K:KN}
theorem ef_mks {d:Nat} {T:TypeId} {bytes:Nat} {z:List Seg} {l c:Operand} {kl kc:IntKind} {L N:Int}
    (hl:ev t l=some (.int kl L)) (hc:ev t c=some (.int kc N)) (h0:0≤L) (hln:L≤N) (hb:(bytes:Int)*N≤281474976710656) (h63:N≤9223372036854775807)
    (h : ∀ b,C.W0.heap.size≤b→∃ segs,cells segs=(List.replicate N.toNat (cells z)).flatten∧K ((d,.slice (some ⟨b,0,none⟩) L.toNat N.toNat)::t) (ck b T segs::m)) :
    EF C m t (some d) (.mks T bytes z l c) K:=by
  intro o ho hd a ha wd hw
  obtain ⟨hd1,hd2⟩:=okD_some hd
  simp only [okOp] at ho
  split at ho
  · rename_i ty l' c' heq
    simp only [Bool.and_eq_true] at ho
    obtain ⟨⟨⟨⟨h1,h2⟩,h3⟩,h4⟩,h5⟩:=ho
    have e:=oeq_sound h1; have e':=oeq_sound h2; subst e; subst e'
    split at h3
    · rename_i E hu
      rw [decide_eq_true_eq] at h3; subst h3
      obtain ⟨i,hi,hs,hby,hpos⟩:=infoOk_spec h4
      split at h5
      · rename_i q hq
        obtain ⟨zv,hz1,hz2⟩:=zOf_spec hi hq
        rw [veqL_sound h5] at hz2
        have hr:=run_make (P:=C.P) wd ty E i zv hu hi hz1 kl kc L N h0 hln (by rw [hby]; exact hb) h63
        have h2:(execOp a.eval o).run C.P wd=(Result.ok (.slice (some ⟨wd.heap.size,0,none⟩) L.toNat N.toNat) (wd.alloc (.cells (madeCells zv.cells (N.toNat*i.size)) E)):Result Value).andThen fun v w=>.ok (.value v) w:=by
          simp only [execOp,heq,ha.ev hl,ha.ev hc,Sem.run_bind,hr,Result.andThen_ok,Sem.run_pure]
        unfold Oper.wp
        rw [h2,Result.andThen_ok]
        simp only [Oper.upon]
        obtain ⟨segs,e1,hK⟩:=h wd.heap.size hw.fr.size
        refine ⟨_,_,hK,hd1▸ha.put hd2 _,?_⟩
        have e2:madeCells zv.cells (N.toNat*i.size)=(cells segs).toArray:=by
          have hsz:zv.cells.size=i.size:=by rw [hz2,hs]; simp [cells_length]
          rw [e1]
          by_cases hz:0<(cells z).length
          · apply Array.ext'
            rw [← zeros_rep hz]
            simp only [madeCells,Builtin.zeroCells,hz2]
            rw [hs,List.size_toArray,cells_length]
          · have hz0:(cells z) = []:=List.eq_nil_of_length_eq_zero (by omega)
            have hw0:i.size=0:=by rw [hs,← cells_length,hz0]; rfl
            rw [hz0,hw0]
            simp [madeCells]
        rw [e2]
        exact hw.alloc _
      · cases h5
    · cases h3
  · cases ho
theorem fillS_ok {a:Act} {n w:Nat} (ha:SatT n t a) : ∀ {z q:List Seg} {parts:List (Nat×Nat×Operand)} {ps:List (Nat×Operand)},BdR t z parts q→partsOk w ps parts=true →
    Instr.fill (fun i=>some (i*w,w)) (cells z).toArray (ps.map fun p=>(p.1,a.eval p.2))=some (cells q).toArray
  | z,_,[],ps,.nil,hp=>by
    cases ps with
    | nil=>rfl
    | cons p ps=>obtain ⟨i,x⟩:=p; simp [partsOk] at hp
  | z,q,(off,n1,x)::r,ps,hb,hp=>by
    cases ps with
    | nil=>simp [partsOk] at hp
    | cons p ps =>
      obtain ⟨i,y⟩:=p
      simp only [partsOk,Bool.and_eq_true,Nat.beq_eq] at hp
      obtain ⟨⟨⟨h0,h1⟩,h2⟩,h3⟩:=hp
      have e:=oeq_sound h2; subst e
      subst h0
      subst h1
      cases hb with
      | one hx hv hput hr =>
        rename_i z' v
        obtain ⟨e1,e2,e3⟩:=putC_cells hput
        have hcs:(a.eval y).cells = #[v]:=by rw [ha.ev hx]; exact hv
        simp only [List.map_cons,Instr.fill,hcs]
        rw [if_neg (by simp [cells_length] at e3 ⊢; omega)]
        have:=foldl_splice (i*1) [v] 0 (cells z) (by rw [cells_length]; simp; omega)
        have e4:((#[v]:Array Value).zipIdx.foldl (fun (cs:Array Value) (p:Value×Nat)=>cs.setIfInBounds (i*1+p.2) p.1) (cells z).toArray)=(cells z').toArray:=by
          rw [e1,set_splice (by rw [cells_length]; exact e3)]
          simpa using this
        rw [e4]
        exact fillS_ok ha hr h3
      | agg hx hw hput hr =>
        rename_i z' p
        obtain ⟨e1,e2,e3⟩:=putL_cells hput
        have hcs:(a.eval y).cells=(cells p).toArray:=by rw [ha.ev hx]; rfl
        simp only [List.map_cons,Instr.fill,hcs]
        rw [if_neg (by simp [cells_length]; omega)]
        have e4:((cells p).toArray.zipIdx.foldl (fun (cs:Array Value) (q:Value×Nat)=>cs.setIfInBounds (i*n1+q.2) q.1) (cells z).toArray)=(cells z').toArray:=by
          rw [← Array.foldl_toList,e1]
          have:=foldl_splice (i*n1) (cells p) 0 (cells z) (by rw [cells_length,cells_length]; omega)
          simpa using this
        rw [e4]
        exact fillS_ok ha hr h3
theorem ef_bs {d:Nat} {T:TypeId} {len w:Nat} {z q:List Seg} {parts:List (Nat×Nat×Operand)} (hb:BdR t z parts q)
    (h : ∀ b,C.W0.heap.size≤b→K ((d,.slice (some ⟨b,0,none⟩) len len)::t) (ck b T q::m)):EF C m t (some d) (.bs T len w z parts) K:=by
  intro o ho hd a ha wd hw
  obtain ⟨hd1,hd2⟩:=okD_some hd
  simp only [okOp] at ho
  split at ho
  · rename_i ty len' ps heq
    simp only [Bool.and_eq_true,Nat.beq_eq] at ho
    obtain ⟨⟨⟨⟨⟨h1,h2⟩,h3⟩,h4⟩,h5⟩,h6⟩:=ho
    subst h2
    split at h1
    · rename_i E hu
      rw [decide_eq_true_eq] at h1; subst h1
      split at h4
      · rename_i q0 hq
        obtain ⟨i,hi,hsz⟩:=szOf_info h3
        obtain ⟨zv,hz1,hz2⟩:=zOf_spec hi hq
        have hsmall : ¬ len'*i.size>2^24:=by
          have:=Nat.le_of_ble_eq_true h6
          rw [hsz]; omega
        have hzc:((Array.range (len'*w)).map fun j=>q0.toArray[j%q0.toArray.size]!)=(cells z).toArray:=by
          have:=veqL_sound h4
          rw [← this,Array.toArray_toList]
        have hfill:=fillS_ok (w:=w) ha hb h5
        have hps':(ps.map fun (x:Nat×Operand)=>match x with | (i,x)=>(i,a.eval x))=(ps.map fun p=>(p.1,a.eval p.2)):=rfl
        have hps:(ps.map fun p=>(p.1,a.eval p.2)).toList=ps.toList.map fun p=>(p.1,a.eval p.2):=by simp
        have hr:(Instr.buildSlice ty len' (ps.map fun (x:Nat×Operand)=>match x with | (i,x)=>(i,a.eval x))).run C.P wd = .ok (.slice (some ⟨wd.heap.size,0,none⟩) len' len') (wd.alloc (.cells (cells q).toArray E)):=by
          rw [hps']
          by_cases hpos:len'*i.size=0
          · have hzz:(cells z).toArray = #[]:=by rw [← hzc,← hsz,hpos]; simp [Array.range_zero']
            rw [hzz] at hfill
            rw [← hsz] at hfill
            simp [Instr.buildSlice,run_underlying hu,sizeOf,typeInfo,hi,hpos,hps,hfill,newRow,Array.range_zero']
          · refine run_buildSlice wd ty E len' _ (cells q).toArray i zv hu hi hz1 hsmall hpos ?_
            rw [hps,hz2,hsz,hzc]
            exact hfill
        have h2:(execOp a.eval o).run C.P wd=(Result.ok (.slice (some ⟨wd.heap.size,0,none⟩) len' len') (wd.alloc (.cells (cells q).toArray E)):Result Value).andThen fun v w=>.ok (.value v) w:=by
          simp only [execOp,heq,Sem.run_bind,hr,Result.andThen_ok,Sem.run_pure]
        unfold Oper.wp
        rw [h2,Result.andThen_ok]
        simp only [Oper.upon]
        exact ⟨_,_,h wd.heap.size hw.fr.size,hd1▸ha.put hd2 _,hw.alloc _⟩
      · cases h4
    · cases h1
  · cases ho
theorem okOp_cpy {P:Program} {o:Oper} {w:Nat} {x y:Operand} (h:okOp P o (.cpy w x y)=true) :
    ∃ c ty e,o.op = .call c∧c.callee = .builtin .copy∧c.args = #[x,y]∧c.argTypes[0]? = some ty∧P.underlying ty=some (.slice e)∧(szOf P e==some w)=true:=by
  simp only [okOp] at h
  split at h
  · rename_i c heq
    simp only [Bool.and_eq_true] at h
    obtain ⟨⟨h1,h2⟩,h3⟩:=h
    have hb:c.callee = .builtin .copy:=by
      revert h1; cases c.callee <;> simp
      rename_i f; cases f <;> simp
    have hargs:c.args = #[x,y]:=Array.ext' (by simpa using oeqL_sound h2)
    split at h3
    · rename_i e he
      cases hT:c.argTypes[0]? with
      | none=>rw [hT] at he; simp at he
      | some ty =>
        rw [hT] at he
        exact ⟨c,ty,e,heq,hb,hargs,rfl.trans hT,by simpa using he,h3⟩
    · cases h3
  · cases h
theorem ef_cpy {d:Option Nat} {w:Nat} {x y:Operand} {b off dl dc n:Nat} {T:TypeId} {v:Value} {cs:List Value} {segs segs':List Seg} {m':List Chunk}
    (hx:ev t x=some (.slice (some ⟨b,off,none⟩) dl dc)) (hy:ev t y=some v) (hs:SrcV C m w v n cs) (hfit:off+dl*w≤width segs)
    (hc:cells segs'=splice (cells segs) off (cs.take (Nat.min n dl*w))) (hu:Upd b (.cells (cells segs).toArray T (0,0)) (.cells (cells segs').toArray T (0,0)) m m')
    (h:K (match d with | some d=>(d,.int .i64 (Nat.min n dl:Nat))::t | none=>t) m'):EF C m t d (.cpy w x y) K:=by
  intro o ho hd a ha wd hw
  obtain ⟨c,ty,e,heq,hcal,hargs,hT,hu',hsz⟩:=okOp_cpy ho
  have hmin:Nat.min n dl≤n:=Nat.min_le_left _ _
  have hmin':Nat.min n dl*w≤dl*w:=Nat.mul_le_mul_right _ (Nat.min_le_right _ _)
  have hmin2:Nat.min n dl*w≤n*w:=Nat.mul_le_mul_right _ hmin
  have hup':Upd b (.cells (cells segs).toArray T (0,0)) (.cells (splice (cells segs) (off+0) (cs.take (Nat.min n dl*w))).toArray T (0,0)) m m':=by rw [Nat.add_zero,← hc]; exact hu
  obtain ⟨w',hst,hw'⟩:=run_storeCells (P:=C.P) (cs.take (Nat.min n dl*w)) off 0 (cells segs) m m' wd hw hup' (by rw [cells_length,List.length_take,hs.nl]; omega) (fun u hu=>hs.one u (List.mem_of_mem_take hu))
  have hfc:=hs.cells wd hw _ hmin
  have hr:(Builtin.copy_ c.argTypes o.type #[.slice (some ⟨b,off,none⟩) dl dc,v]).run C.P wd = .ok (goInt (Nat.min n dl)) w':=by
    simp [Builtin.copy_,hT,run_underlying hu',hs.len,run_sizeOf hsz,hfc,hst]
  have h2:(execOp a.eval o).run C.P wd=(Result.ok (goInt (Nat.min n dl)) w':Result Value).andThen fun v w=>.ok (.value v) w:=by
    simp only [execOp,heq,resolve,hcal,Sem.run_bind,Sem.run_pure,Result.andThen_ok,invoke,builtin,hargs,List.map_toArray,List.map_cons,List.map_nil,ha.ev hx,ha.ev hy,hr]
  unfold Oper.wp
  rw [h2,Result.andThen_ok]
  simp only [Oper.upon]
  cases d with
  | none =>
    have hd0:o.dst=none:=by
      revert hd; cases o.dst <;> simp [okD]
    rw [hd0]
    exact ⟨_,m',h,ha,hw'⟩
  | some d =>
    obtain ⟨hd1,hd2⟩:=okD_some hd
    rw [hd1]
    exact ⟨_,m',h,ha.put hd2 _,hw'⟩
def tk (xs:List Int) (o n:Nat):List Int:=(List.range n).map fun i=>xs.getD (o+i) 0
def wr (xs:List Int) (i:Nat) (ys:List Int):List Int:=tk xs 0 i++ys++xs.drop (i+ys.length)
theorem tk_length (xs:List Int) (o n:Nat):(tk xs o n).length=n:=by simp [tk]
theorem tk_getD (xs:List Int) (o n i:Nat):(tk xs o n).getD i 0=if i<n then xs.getD (o+i) 0 else 0:=by
  unfold tk
  by_cases h:i<n
  · simp [h]
  · simp [h]
theorem tk_all {xs:List Int} {n:Nat} (h:xs.length=n):tk xs 0 n=xs:=by
  subst h
  apply List.ext_getElem?
  intro i
  by_cases hi:i<xs.length
  · simp [tk,hi]
  · rw [List.getElem?_eq_none (by rw [tk_length]; omega),List.getElem?_eq_none (by omega)]
theorem ints_tk (k:IntKind) (n:Nat) (xs:List Int):intsCells k n xs=(tk xs 0 n).map (.int k):=by simp [intsCells,tk,Function.comp_def]
theorem wr_getD (xs:List Int) (i:Nat) (ys:List Int) (j:Nat):(wr xs i ys).getD j 0=if i≤j∧j<i+ys.length then ys.getD (j-i) 0 else xs.getD j 0:=by
  unfold wr
  rw [List.getD_eq_getElem?_getD,List.append_assoc]
  by_cases h1:j<i
  · rw [List.getElem?_append_left (by rw [tk_length]; exact h1),if_neg (by omega),← List.getD_eq_getElem?_getD,tk_getD,if_pos h1,Nat.zero_add]
  · rw [List.getElem?_append_right (by rw [tk_length]; omega),tk_length]
    by_cases h2:j<i+ys.length
    · rw [List.getElem?_append_left (by omega),if_pos ⟨by omega,h2⟩,List.getD_eq_getElem?_getD]
    · rw [List.getElem?_append_right (by omega),if_neg (by omega),List.getElem?_drop,List.getD_eq_getElem?_getD]
      congr 2; omega
theorem intsGet (k:IntKind) (n:Nat) (xs:List Int) (i:Nat):(intsCells k n xs)[i]? = if i<n then some (.int k (xs.getD i 0)) else none:=by
  by_cases h:i<n
  · simp [intsCells,h]
  · simp [intsCells,h]
theorem splice_get {l p:List Value} {o:Nat} (h:o+p.length≤l.length) (j:Nat):(splice l o p)[j]? = if o≤j∧j<o+p.length then p[j-o]? else l[j]? := by
  unfold splice
  by_cases h1:j<o
  · rw [List.getElem?_append_left (by rw [List.length_take]; omega),if_neg (by omega),List.getElem?_take_of_lt h1]
  · rw [List.getElem?_append_right (by rw [List.length_take]; omega),List.length_take,Nat.min_eq_left (by omega)]
    by_cases h2:j<o+p.length
    · rw [List.getElem?_append_left (by omega),if_pos ⟨by omega,h2⟩]
    · rw [List.getElem?_append_right (by omega),if_neg (by omega),List.getElem?_drop]
      congr 1; omega
theorem wr_cells {k:IntKind} {N i:Nat} {xs ys:List Int} (h:i+ys.length≤N):cells [.ints k N (wr xs i ys)]=splice (cells [.ints k N xs]) i (ys.map (.int k)):=by
  simp only [cells,Seg.cells,List.append_nil]
  apply List.ext_getElem?
  intro j
  rw [splice_get (by rw [List.length_map]; simp [intsCells]; exact h),intsGet,intsGet,List.length_map,wr_getD]
  by_cases h1:i≤j∧j<i+ys.length
  · rw [if_pos h1,if_pos (by omega),if_pos h1,List.getElem?_map,List.getD_eq_getElem?_getD,List.getElem?_eq_getElem (by omega)]
    simp
  · rw [if_neg h1,if_neg h1]
theorem EF.less {d:Option Nat} {op:IOp} (h:EF C m t d op (fun t' m'=>∃ m2,K t' m2∧List.Sublist m2 m')):EF C m t d op K:=by
  intro o ho hd a ha w hw
  refine Oper.wp_mono ?_ (h o ho hd a ha w hw)
  rintro a' w' ⟨t',m',⟨m2,hk,hs⟩,h1,h2⟩
  exact ⟨t',m2,hk,h1,h2.sublist hs⟩
theorem rows_split {w n m:Nat} {g h:Nat→List Value} (e1 : ∀ i,i<n→h i=g i):rowsCells w (n+m) h=rowsCells w n g++rowsCells w m (fun i=>h (n+i)):=by
  unfold rowsCells
  rw [List.range_add,List.flatMap_append,List.flatMap_map]
  congr 1
  rw [← List.flatten_map_eq_flatMap,← List.flatten_map_eq_flatMap]
  congr 1
  apply List.map_congr_left
  intro i hi
  rw [e1 i (by simpa using hi)]
 where List.flatten_map_eq_flatMap {α β:Type} (l:List α) (f:α→List β):(l.map f).flatten=l.flatMap f:=by rw [List.flatMap_def]
theorem rows_congr {w n:Nat} {g h:Nat→List Value} (e : ∀ i,i<n→h i=g i):rowsCells w n h=rowsCells w n g:=by
  have:=rows_split (w:=w) (n:=n) (m:=0) e
  simpa [rowsCells] using this
theorem rows_const {w n:Nat} {z:List Value} (h:z.length=w):rowsCells w n (fun _=>z)=(List.replicate n z).flatten:=by
  unfold rowsCells
  induction n with
  | zero=>rfl
  | succ n ih=>rw [List.range_succ_eq_map,List.flatMap_cons,List.flatMap_map,fit_same h,ih,List.replicate_succ,List.flatten_cons]
end
def putT:Option Nat→Value→TS→TS
  | some d,v,t=>(d,v)::t
  | none,_,t=>t
def retM (W0:World) (S:List Nat) (R:Value→List Chunk→Prop):Ending→World→Prop:=fun e w'=>∃ v m,e = .returned v∧R v m∧Sat W0 S m w'
theorem sat_own {W0:World} {S:List Nat} {m:List Chunk} {w:World} (h:Sat W0 S m w) {mS mr:List Chunk} (hp:List.Perm (mS++mr) m):Sat w (mS.map (·.b)) mS w:=by
  have h':=h.perm hp
  refine ⟨⟨rfl,rfl,rfl,Nat.le_refl _,fun _ _ _=>rfl⟩,fun c hc=>h'.own c (List.mem_append_left _ hc),fun c hc=>.inr (List.mem_map.2 ⟨c,hc,rfl⟩),?_⟩
  have:=h'.dist
  rw [List.map_append,List.nodup_append] at this
  exact this.1
theorem sat_behind {W0:World} {S:List Nat} {m:List Chunk} {w w':World} (h:Sat W0 S m w) {mS mr m':List Chunk} (hp:List.Perm (mS++mr) m) (h':Sat w (mS.map (·.b)) m' w'):Sat W0 S (m'++mr) w':=by
  have hh:=h.perm hp
  have hd:=hh.dist
  rw [List.map_append,List.nodup_append] at hd
  have hbase : ∀ c∈mS,W0.heap.size≤c.b∨c.b∈S:=fun c hc=>hh.base c (List.mem_append_left _ hc)
  have hr : ∀ c∈mr,c.b<w.heap.size∧c.b∉mS.map (·.b):=fun c hc=>⟨hh.lt (List.mem_append_right _ hc),fun hm=>hd.2.2 _ hm _ (List.mem_map.2 ⟨c,hc,rfl⟩) rfl⟩
  refine ⟨⟨h'.fr.os.trans h.fr.os,h'.fr.tape.trans h.fr.tape,h'.fr.output.trans h.fr.output,Nat.le_trans h.fr.size h'.fr.size,fun k hk hS=>?_⟩,?_,?_,?_⟩
  · rw [h'.fr.block k (Nat.lt_of_lt_of_le hk h.fr.size) ?_]
    · exact h.fr.block k hk hS
    · intro hm
      obtain ⟨c,hc,rfl⟩:=List.mem_map.1 hm
      rcases hbase c hc with h1 | h1
      · omega
      · exact hS h1
  · intro c hc
    rcases List.mem_append.1 hc with hc | hc
    · exact h'.own c hc
    · rw [h'.fr.block c.b (hr c hc).1 (hr c hc).2]
      exact hh.own c (List.mem_append_right _ hc)
  · intro c hc
    rcases List.mem_append.1 hc with hc | hc
    · rcases h'.base c hc with h1 | h1
      · exact .inl (Nat.le_trans h.fr.size h1)
      · obtain ⟨c',hc',e⟩:=List.mem_map.1 h1
        rw [← e]; exact hbase c' hc'
    · exact hh.base c (List.mem_append_right _ hc)
  · rw [List.map_append,List.nodup_append]
    refine ⟨h'.dist,hd.2.1,?_⟩
    intro a ha b hb e
    subst e
    obtain ⟨c,hc,rfl⟩:=List.mem_map.1 ha
    obtain ⟨c2,hc2,e2⟩:=List.mem_map.1 hb
    have:=hr c2 hc2
    rw [e2] at this
    rcases h'.base c hc with h1 | h1
    · omega
    · exact this.2 h1
section
variable {C:Cfg} {m:List Chunk} {t:TS} {K:KN}
theorem mem_still {w:World} {b o:Nat} {s:List Seg} (h:Mem C.W0 b o s) (hS:b∉C.S) (hw:Sat C.W0 C.S m w):Mem w b o s :=
  ⟨fun i hi=>h.now hS hw hi,Nat.lt_of_lt_of_le h.lt hw.fr.size⟩
theorem ef_callM {d:Option Nat} {f:FuncId} {args:List Operand} {vs:List Value} {mS mr:List Chunk} {R:Value→List Chunk→Prop} (ha:evL t args=some vs) (hp:List.Perm (mS++mr) m)
    (hc : ∀ w,Sat C.W0 C.S m w→Calls C.P f vs.toArray w (retM w (mS.map (·.b)) R))
    (h : ∀ v m',R v m'→K (putT d v t) (m'++mr)):EF C m t d (.call f args) K:=by
  intro o ho hd a hat w hw
  unfold Oper.wp
  rw [run_call ho,hat.evL ha]
  simp only [Oper.upon]
  refine (hc w hw).mono ?_
  rintro e w' ⟨v,m',rfl,hR,hs⟩
  have hsat:=sat_behind hw hp hs
  cases d with
  | none =>
    have hd0:o.dst=none:=by revert hd; cases o.dst <;> simp [okD]
    rw [hd0]
    exact ⟨_,_,h v m' hR,hat,hsat⟩
  | some d =>
    obtain ⟨hd1,hd2⟩:=okD_some hd
    rw [hd1]
    exact ⟨_,_,h v m' hR,hat.put hd2 v,hsat⟩
theorem ef_callF {d:Option Nat} {f:FuncId} {args:List Operand} {vs:List Value} {R:Value→List Chunk→Prop} (ha:evL t args=some vs)
    (hc : ∀ w,Sat C.W0 C.S m w→Calls C.P f vs.toArray w (retM w [] R))
    (h : ∀ v m',R v m'→K (putT d v t) (m'++m)):EF C m t d (.call f args) K :=
  ef_callM (mS:=[]) ha (List.Perm.refl _) hc h
end
section
variable {C:Cfg} {m:List Chunk} {t:TS} {K:KN}
theorem ints_part {k:IntKind} {N off n:Nat} {xs:List Int} (h:off+n≤N):((intsCells k N xs).drop off).take n=(tk xs off n).map (Value.int k):=by
  apply List.ext_getElem?
  intro j
  by_cases hj:j<n
  · rw [List.getElem?_take_of_lt hj,List.getElem?_drop,intsGet,if_pos (by omega),List.getElem?_map,List.getElem?_eq_getElem (by rw [tk_length]; exact hj)]
    simp [tk]
  · rw [List.getElem?_eq_none (by rw [List.length_take]; omega),List.getElem?_eq_none (by rw [List.length_map,tk_length]; omega)]
theorem src_of {size:Nat} {b off n c:Nat} {cs:List Value} (hl:cs.length=n*size) (h1 : ∀ u∈cs,one1 u=true)
    (h : ∀ w,Sat C.W0 C.S m w→∀ i,i<n*size→w.cell? ⟨b,off+i,none⟩=cs[i]?):SrcV C m size (.slice (some ⟨b,off,none⟩) n c) n cs :=
  ⟨fun _=>rfl,fun w hw k hk=>run_first hl (h w hw) hk,hl,h1⟩
theorem one_rows {w n:Nat} {g:Nat→List Value} (h : ∀ i,i<n→(g i).length=w ∧ ∀ u∈g i,one1 u=true) : ∀ u∈rowsCells w n g,one1 u=true:=by
  intro u hu
  unfold rowsCells at hu
  obtain ⟨i,hi,hu⟩:=List.mem_flatMap.1 hu
  obtain ⟨h1,h2⟩:=h i (by simpa using hi)
  rw [fit_same h1] at hu
  exact h2 u hu
def ExtF (P:Program) (f:FuncId) (e:Array Value→Sem Value):Prop :=
  ∃ fn,P.funcs[f]? = some fn∧(fn.name == "runtime.NumGoroutine")=false∧fn.body.isNone=true∧Extern.findNext fn=none∧Extern.find fn=some e
theorem q_xcall {f:FuncId} {args:List Operand} {vs:List Value} {v:Value} {e:Array Value→Sem Value} (ha:evL t args=some vs) (he:ExtF C.P f e) (hr : ∀ w,(e vs.toArray).run C.P w = .ok v w):Q1 C m t (.xcall f args) v:=by
  intro o ho a hat w hw
  obtain ⟨fn,h1,h2,h3,h4,h5⟩:=he
  refine quiet_val ?_
  simp only [okOp] at ho
  split at ho
  · rename_i c heq
    simp only [Bool.and_eq_true] at ho
    obtain ⟨ho1,ho2⟩:=ho
    have hc:c.callee = .value (.func f):=by
      revert ho1
      cases c.callee <;> simp
      rename_i x
      cases x <;> simp
    have hargs:c.args.map a.eval=vs.toArray:=by
      have e1:=oeqL_sound ho2
      have e2:=hat.evL ha
      apply Array.ext'
      rw [Array.toList_map,e1,e2]
    have h6:=run_callFunc_extern (P:=C.P) h1 h2 h3 h4 h5 vs.toArray w
    rw [hr w] at h6
    have hev:a.eval (.func f) = .func (.func f) #[] #[]:=rfl
    simp only [execOp,heq,resolve,hc,hev,Deferred.ofValue,Sem.run_bind,Sem.run_pure,Result.andThen_ok,invoke,Array.append_empty,Array.empty_append,hargs]
    rw [h6]; rfl
  · cases ho
def sub64Entry:Array Value→Sem Value:=fun args=>do
  let (x,y,b) ← Extern.MathBitsCarry.three "Sub64" args
  pure (Extern.MathBitsCarry.pair ((x+Extern.MathBitsCarry.m64-y-b)%Extern.MathBitsCarry.m64) (if x<y+b then 1 else 0))
theorem run_sub64 {P:Program} (x y c:Int) (hx:0≤x) (hy:0≤y) (hy2:y<18446744073709551616) (hc0:0≤c) (hc:c≤1) (w:World) :
    (sub64Entry #[.int .u64 x,.int .u64 y,.int .u64 c]).run P w = .ok (.tuple #[.int .u64 ((x-y-c)%18446744073709551616),.int .u64 (if x<y+c then 1 else 0)]) w:=by
  have key : ∀ k:Nat,k≤1→(sub64Entry #[.int .u64 x,.int .u64 y,.int .u64 (k:Int)]).run P w =
      .ok (Extern.MathBitsCarry.pair ((x.toNat+Extern.MathBitsCarry.m64-y.toNat-k)%Extern.MathBitsCarry.m64) (if x.toNat<y.toNat+k then 1 else 0)) w:=by
    intro k hk
    have:k=0∨k=1:=by omega
    rcases this with rfl | rfl <;> rfl
  obtain ⟨k,rfl⟩:=Int.eq_ofNat_of_zero_le hc0
  rw [key k (by omega)]
  obtain ⟨X,rfl⟩:=Int.eq_ofNat_of_zero_le hx
  obtain ⟨Y,rfl⟩:=Int.eq_ofNat_of_zero_le hy
  simp only [Extern.MathBitsCarry.pair,Extern.MathBitsCarry.m64,Int.toNat_natCast]
  have e1:Int.ofNat ((X+2^64-Y-k)%2^64)=((X:Int)-Y-k)%18446744073709551616:=by
    simp only [Int.ofNat_eq_natCast]; omega
  have e2:Int.ofNat (if X<Y+k then 1 else 0)=if (X:Int)<Y+k then 1 else 0:=by
    by_cases h:X<Y+k
    · rw [if_pos h,if_pos (by omega)]; rfl
    · rw [if_neg h,if_neg (by omega)]; rfl
  rw [e1,e2]
def ieq (n:Nat) (a b:List Int):Bool:=decide (tk a 0 n=tk b 0 n)
theorem ieq_cells {k:IntKind} {n:Nat} {a b:List Int}:ieq n a b=true↔cells [.ints k n a]=cells [.ints k n b]:=by
  simp only [ieq,decide_eq_true_eq,cells,Seg.cells,List.append_nil,ints_tk]
  constructor
  · intro h; rw [h]
  · intro h
    refine List.map_inj_right (f:=Value.int k) (fun x y e=>?_) |>.1 h
    cases e; rfl
theorem ef_al2 {d:Nat} {T:TypeId} {z z':List Seg} (hz:cells z=cells z') (h : ∀ b,C.W0.heap.size≤b→K ((d,.pointer (some ⟨b,0,none⟩))::t) (ck b T z'::m)):EF C m t (some d) (.al T z) K :=
  ef_al fun b hb=>by
    have:=h b hb
    unfold ck at this ⊢
    rw [hz]; exact this
theorem q_ldx {x:Operand} {b p base i len:Nat} {T:TypeId} {fz:Nat×Nat} {s:List Seg} {k:IntKind} {xs:List Int} (hx:ev t x=some (.pointer (some ⟨b,p,none⟩))) (hb:Has b (.cells (cells s).toArray T fz) m)
    (hs:segAt s base=some (.ints k len xs)) (hp:p=base+i) (hi:i<len):Q1 C m t (.ld 1 false x) (.int k (xs.getD i 0)) :=
  q_ldi (base:=base) (i:=i) (by rw [hx,hp,Nat.mul_one]) hb hs hi
theorem ef_stx {x y:Operand} {b p base i len:Nat} {T:TypeId} {s q:List Seg} {k:IntKind} {xs:List Int} {z:Int} {m':List Chunk} (hx:ev t x=some (.pointer (some ⟨b,p,none⟩))) (hy:ev t y=some (.int k z))
    (hs:segAt s base=some (.ints k len xs)) (hp:p=base+i) (hi:i<len) (hq:segSet s base (.ints k len (setD xs i z))=some q)
    (hup:Upd b (.cells (cells s).toArray T (0,0)) (.cells (cells q).toArray T (0,0)) m m') (h:K t m'):EF C m t none (.st 1 x y) K :=
  ef_sti (base:=base) (i:=i) (by rw [hx,hp,Nat.mul_one]) hy hs hi hq hup h
end
section
variable {α β:Type} {r:β} {G:Prop}
def bnd (x:α) (f:α→Option β):Option β:=f x
def chk (c:Bool) (o:Option β):Option β:=bif c then o else none
def opt (o:Option α) (f:α→Option β):Option β:=o.bind f
def jn {K:Type} (k:K) (g:K→Option β):Option β:=g k
def br (c:Bool) (a b:Option β):Option β:=bif c then a else b
@[irreducible] def big:Nat:=18446744073709551616
theorem big_eq:big=18446744073709551616:=by unfold big; rfl
theorem bnd_i {x:α} {f:α→Option β} (h : ∀ z,z=x→f z=some r→G):bnd x f=some r→G:=fun e=>h x rfl e
theorem chk_i {c:Bool} {o:Option β} (h:c=true→o=some r→G):chk c o=some r→G:=by
  intro e; cases c
  · simp [chk] at e
  · exact h rfl e
theorem opt_i {o:Option α} {f:α→Option β} (h : ∀ y,o=some y→f y=some r→G):opt o f=some r→G:=by
  intro e; cases o with
  | none=>simp [opt] at e
  | some y=>exact h y rfl e
theorem jn_i {K:Type} {k:K} {g:K→Option β} (h : ∀ k',k'=k→g k'=some r→G):jn k g=some r→G:=fun e=>h k rfl e
theorem br_t {c:Bool} {a b:Option β} (h:br c a b=some r) (hc:c=true):a=some r:=by subst hc; exact h
theorem br_f {c:Bool} {a b:Option β} (h:br c a b=some r) (hc:c=false):b=some r:=by subst hc; exact h
theorem ret_i {a:β} (h:a=r→G):some a=some r→G:=fun e=>h (Option.some.inj e)
theorem none_i:(none:Option β)=some r→G:=fun e=>by cases e
end
def inB (z:Int) (n:Nat):Bool:=decide (0≤z)&&decide (z<n)
theorem inB_z {z:Int} {n:Nat} (h:inB z n=true):0≤z∧z<n:=by simpa [inB] using h
theorem inB_n {z:Int} {n:Nat} (h:inB z n=true):z.toNat<n:=by have:=inB_z h; omega
def imp (a b:Bool):Bool := !a||b
theorem imp_t {a b:Bool} (h:imp a b=true) (ha:a=true):b=true:=by subst ha; simpa [imp] using h
theorem imp_f {a b:Bool} (h:imp (!a) b=true) (ha:a=false):b=true:=by subst ha; simpa [imp] using h
def cutB (lo hi:Int) (n:Nat):Bool:=decide (0≤lo)&&decide (lo≤hi)&&decide (hi≤n)
theorem cutB_z {lo hi:Int} {n:Nat} (h:cutB lo hi n=true):0≤lo∧lo≤hi∧hi≤n:=by simp [cutB] at h; omega
abbrev shrV (k:IntKind) (p q:Int):Int:=p.fdiv (2^min q.toNat k.bits)
abbrev shlV (k:IntKind) (p q:Int):Int:=k.wrap (p*2^min q.toNat k.bits)
def setG {α:Type} (z:α) (xs:List α) (i:Nat) (v:α):List α:=if i<xs.length then xs.set i v else xs++(List.replicate (i-xs.length) z ++ [v])
theorem getD_setG {α:Type} (z:α) (xs:List α) (i j:Nat) (v:α):(setG z xs i v).getD j z=if j=i then v else xs.getD j z:=by
  unfold setG
  by_cases h:i<xs.length
  · rw [if_pos h]
    by_cases hj:j=i
    · subst hj; simp [List.getD,h]
    · simp [List.getD,List.getElem?_set,hj,Ne.symm hj]
  · rw [if_neg h]
    simp only [List.getD]
    by_cases hj:j<xs.length
    · rw [List.getElem?_append_left hj,if_neg (by omega)]
    · rw [List.getElem?_append_right (by omega)]
      by_cases hji:j=i
      · subst hji; rw [List.getElem?_append_right (by simp)]; simp
      · rw [if_neg hji,List.getElem?_eq_none (l:=xs) (by omega)]
        by_cases hlt:j<i
        · rw [List.getElem?_append_left (by simp; omega),List.getElem?_replicate]; split <;> rfl
        · rw [List.getElem?_eq_none (by simp; omega)]
theorem setG_eq {α:Type} {z:α} {xs:List α} {i:Nat} {v:α} (h:i<xs.length):setG z xs i v=xs.set i v:=if_pos h
inductive Take (ms:List Chunk):List Chunk→List Chunk→Prop
  | here {m:List Chunk}:Take ms (ms++m) m
  | there {c:Chunk} {m m':List Chunk}:Take ms m m'→Take ms (c::m) (c::m')
  | app {ns m m':List Chunk}:Take ms m m'→Take ms (ns++m) (ns++m')
inductive Take1 (c:Chunk):List Chunk→List Chunk→Prop
  | here {m:List Chunk}:Take1 c (c::m) m
  | there {c':Chunk} {m m':List Chunk}:Take1 c m m'→Take1 c (c'::m) (c'::m')
  | app {ns m m':List Chunk}:Take1 c m m'→Take1 c (ns++m) (ns++m')
theorem perm_mid (ms ns m:List Chunk):List.Perm (ms++(ns++m)) (ns++(ms++m)):=by
  rw [← List.append_assoc,← List.append_assoc]
  exact List.Perm.append_right m List.perm_append_comm
theorem Take.perm {ms m m':List Chunk} (h:Take ms m m'):List.Perm (ms++m') m:=by
  induction h with
  | here=>exact List.Perm.refl _
  | there _ ih=>exact List.perm_middle.trans (ih.cons _)
  | app _ ih=>exact (perm_mid _ _ _).trans (List.Perm.append_left _ ih)
theorem Take1.perm {c:Chunk} {m m':List Chunk} (h:Take1 c m m'):List.Perm (c::m') m:=by
  induction h with
  | here=>exact List.Perm.refl _
  | there _ ih=>exact (List.Perm.swap _ _ _).trans (ih.cons _)
  | app _ ih=>exact (List.perm_middle.symm).trans (List.Perm.append_left _ ih)
inductive PSub:List Chunk→List Chunk→Prop
  | nil {m:List Chunk}:PSub [] m
  | all {ms M m m1:List Chunk}:Take ms m m1→PSub M m1→PSub (ms++M) m
  | one {c:Chunk} {M m m1:List Chunk}:Take1 c m m1→PSub M m1→PSub (c::M) m
  | no {M m:List Chunk}:PSub M m→PSub ([]++M) m
theorem PSub.rest {M m:List Chunk} (h:PSub M m) : ∃ r,List.Perm (M++r) m:=by
  induction h with
  | nil=>exact ⟨_,List.Perm.refl _⟩
  | all h1 _ ih =>
    obtain ⟨r,hr⟩:=ih
    exact ⟨r,by rw [List.append_assoc]; exact (List.Perm.append_left _ hr).trans h1.perm⟩
  | one h1 _ ih =>
    obtain ⟨r,hr⟩:=ih
    exact ⟨r,by rw [List.cons_append]; exact (hr.cons _).trans h1.perm⟩
  | no _ ih=>exact ih
theorem Sat.psub {W0:World} {S:List Nat} {M m:List Chunk} {w:World} (h:Sat W0 S m w) (hs:PSub M m):Sat W0 S M w:=by
  obtain ⟨r,hr⟩:=hs.rest
  exact (h.perm hr).sublist (List.sublist_append_left _ _)
theorem Sat.take {W0:World} {S:List Nat} {ms m m':List Chunk} {w:World} (h:Sat W0 S m w) (hs:Take ms m m'):Sat W0 S ms w :=
  (h.perm hs.perm).sublist (List.sublist_append_left _ _)
structure Fit (T:TS) (M:List Chunk) (t:TS) (m:List Chunk):Prop where
  t:subT T t
  m:PSub M m
section
variable {C:Cfg} {t:TS} {m:List Chunk} {kn:KN} {ke:KE}
theorem wc_fit {c:IC} {T:TS} {M:List Chunk} (hl:Fit T M t m) (h:WC C c T M kn ke):WC C c t m kn ke:=by
  intro hm c0 hok Q a w ha hw hc
  exact h hm c0 hok Q a w (ha.drop (subT_look hl.t)) (hw.psub hl.m) hc
theorem wc_mono2 {a:IC} {G:TS→List Chunk→Prop} (h1:WC C a t m G ke) (h2 : ∀ t m,G t m→kn t m):WC C a t m kn ke:=h1.mono h2
theorem wc_loopJ {c:IC} (J:Nat→TS→List Chunk→Prop) (n0:Nat) (h0:J n0 t m)
    (round : ∀ n t m,J n t m→WC C c t m (fun t' m'=>∃ n',n'<n∧J n' t' m') ke):WC C (.loop c) t m kn ke:=by
  intro hm c0 hok Q a w ha hw hc
  cases c0 <;> first | (simp [okC] at hok; done) | skip
  rename_i c1
  simp only [okC] at hok
  refine wp_loop_x (X:=Nat×TS×List Chunk) (fun x a w=>J x.1 x.2.1 x.2.2∧SatT C.n x.2.1 a∧Sat C.W0 C.S x.2.2 w) (fun x=>x.1) (x0:=(n0,t,m)) ⟨h0,ha,hw⟩ ?_
  rintro ⟨n,t1,m1⟩ a w ⟨hI,ha,hw⟩
  refine round n t1 m1 hI hm c1 hok _ a w ha hw ⟨?_,hc.b,hc.r⟩
  rintro t' m' ⟨n',hlt,hJ⟩ a' w' ha' hw'
  exact ⟨(n',t',m'),⟨hJ,ha',hw'⟩,hlt⟩
end
structure El (α:Type) where
  w:Nat
  cell:α→List Value
  len : ∀ a,(cell a).length=w
  one : ∀ a,∀ v∈cell a,one1 v=true
  pos:0<w
  z:α
abbrev El.int (k:IntKind):El Int:=⟨1,fun x=>[.int k x],fun _=>rfl,fun _ v h=>by simp at h; subst h; rfl,by decide,0⟩
def rowE {α:Type} (E:El α) (xs:List α):Nat→List Value:=fun i=>E.cell (xs.getD i E.z)
theorem ones_nil : ∀ v∈cells [],one1 v=true:=fun v h=>by cases h
theorem ones_cons {s:Seg} {r:List Seg} (h1 : ∀ v∈s.cells,one1 v=true) (h2 : ∀ v∈cells r,one1 v=true) : ∀ v∈cells (s::r),one1 v=true:=by
  intro v hv
  simp only [cells,List.mem_append] at hv
  exact hv.elim (h1 v) (h2 v)
theorem ones_ints {k:IntKind} {n:Nat} {xs:List Int} : ∀ v∈(Seg.ints k n xs).cells,one1 v=true:=by
  intro v hv; simp only [Seg.cells,intsCells,List.mem_map] at hv; obtain ⟨_,_,rfl⟩:=hv; rfl
theorem ones_rows {α:Type} {E:El α} {n:Nat} {xs:List α} : ∀ v∈(Seg.rows E.w n (rowE E xs)).cells,one1 v=true:=by
  intro v hv
  exact one_rows (w:=E.w) (n:=n) (g:=rowE E xs) (fun i _=>⟨E.len _,E.one _⟩) v hv
theorem fit_cell {α:Type} {E:El α} (x:α):fit E.w (E.cell x)=E.cell x:=fit_same (E.len x)
def RdSl {α:Type} (E:El α) (W:World) (v:Value) (xs:List α):Prop :=
  (v = .slice none 0 0∧xs = [])∨(∃ b o cp,v = .slice (some ⟨b,o,none⟩) xs.length cp∧xs.length≤cp ∧ ∀ i,i<xs.length→∀ j,j<E.w→W.cell? ⟨b,o+(i*E.w+j),none⟩=(E.cell (xs.getD i E.z))[j]?) ∨ ∃ a,v = .slice (some a) 0 0∧xs = []
def SrcM {α:Type} (C:Cfg) (m:List Chunk) (E:El α) (v:Value) (xs:List α):Prop:=∀ w,Sat C.W0 C.S m w→RdSl E w v xs
def OwnSl {α:Type} (E:El α) (v:Value) (ms:List Chunk) (xs:List α):Prop :=
  (v = .slice none 0 0∧xs = []∧ms = []) ∨ ∃ b o cp T cs,v = .slice (some ⟨b,o,none⟩) xs.length cp∧xs.length≤cp∧ms = [⟨b,.cells (cells cs).toArray T (0,0)⟩]∧o+cp*E.w≤width cs ∧
    ∀ i,i<xs.length→∀ j,j<E.w→(cells cs)[o+(i*E.w+j)]? = (E.cell (xs.getD i E.z))[j]?
theorem own_nil {α:Type} {E:El α}:OwnSl E (.slice none 0 0) [] []:=.inl ⟨rfl,rfl,rfl⟩
theorem rd_nil {α:Type} {E:El α} {W:World}:RdSl E W (.slice none 0 0) []:=.inl ⟨rfl,rfl⟩
theorem RdSl.own {α:Type} {E:El α} {v:Value} {ms:List Chunk} {xs:List α} (h:OwnSl E v ms xs) {W0:World} {S:List Nat} {w:World} (hw:Sat W0 S ms w):RdSl E w v xs:=by
  rcases h with ⟨h1,h2,h3⟩ | ⟨b,o,cp,T,cs,h1,h2,h3,h4,h5⟩
  · exact .inl ⟨h1,h2⟩
  · refine .inr (.inl ⟨b,o,cp,h1,h2,fun i hi j hj=>?_⟩)
    subst h3
    rw [cells_load (hw.own _ List.mem_cons_self),h5 i hi j hj]
theorem RdSl.same {α:Type} {E:El α} {W w:World} {v:Value} {xs:List α} (h:RdSl E W v xs) (hb : ∀ b o x,(∀ a n c,v = .slice (some a) n c→a.block=b)→W.cell? ⟨b,o,none⟩=some x→w.cell? ⟨b,o,none⟩=some x):RdSl E w v xs:=by
  rcases h with h | ⟨b,o,cp,h1,h2,h3⟩ | h
  · exact .inl h
  rotate_left 1
  · exact .inr (.inr h)
  · refine .inr (.inl ⟨b,o,cp,h1,h2,fun i hi j hj=>?_⟩)
    have h4:=h3 i hi j hj
    have h5:j<(E.cell (xs.getD i E.z)).length:=by rw [E.len]; exact hj
    rw [List.getElem?_eq_getElem h5] at h4 ⊢
    exact hb b _ _ (fun a n c e=>by rw [h1] at e; injection e with e; injection e with e; rw [← e]) h4
theorem cell_lt {W:World} {b o:Nat} {x:Value} (h:W.cell? ⟨b,o,none⟩=some x):b<W.heap.size:=by
  rcases Nat.lt_or_ge b W.heap.size with h1 | h1
  · exact h1
  · have:W.heap[b]? = none:=Array.getElem?_eq_none h1
    simp [World.cell?,this] at h
theorem RdSl.below {α:Type} {E:El α} {W w:World} {v:Value} {xs:List α} (h:RdSl E W v xs) (hb:Below W.heap.size W w):RdSl E w v xs :=
  h.same fun b o x _ hx=>by rw [hb.cell (p:=⟨b,o,none⟩) (cell_lt hx)]; exact hx
section
variable {α:Type} {C:Cfg} {m:List Chunk} {t:TS} {K:KN} {E:El α} {v:Value} {xs:List α}
def Apart (v:Value) (xs:List α) (S:List Nat):Prop:=∀ a n c,v = .slice (some a) n c→0<xs.length→a.block∉S
theorem rd_arg (h:RdSl E C.W0 v xs) (hS:Apart v xs C.S):SrcM C m E v xs:=by
  intro w hw
  rcases h with h | ⟨b',o',cp,h1,h2,h3⟩ | h
  · exact .inl h
  rotate_left 1
  · exact .inr (.inr h)
  · by_cases h0:0<xs.length
    · refine RdSl.same (.inr (.inl ⟨b',o',cp,h1,h2,h3⟩)) fun b o x hb hx=>?_
      have e:=hb _ _ _ h1
      subst e
      rw [← hx]
      unfold World.cell?; simp only [hw.fr.block _ (cell_lt hx) (hS _ _ _ h1 h0)]
    · exact .inr (.inl ⟨b',o',cp,h1,h2,fun i hi=>by omega⟩)
theorem apart0:Apart v xs []:=fun _ _ _ _ _=>by simp
theorem apart_own {W0 w:World} {ms m1:List Chunk} {b:Nat} {o:Obj} {T:List Nat} (hO:OwnSl E v ms xs) (hT:Take ms m m1) (hb:Has b o m1) (hw:Sat W0 T m w):Apart v xs [b]:=by
  rcases hO with ⟨h1,h2,h3⟩ | ⟨b1,o1,cp,T1,cs,h1,h2,h3,h4,h5⟩
  · intro a n c e h0; subst h2; simp at h0
  · intro a n c e h0
    subst h1
    injection e with e; injection e with e; subst e
    subst h3
    have hd:=(hw.perm hT.perm).dist
    simp only [List.cons_append,List.nil_append,List.map_cons,List.nodup_cons] at hd
    intro hm
    simp only [List.mem_singleton] at hm
    exact hd.1 (hm▸List.mem_map.2 ⟨_,hb.mem,rfl⟩)
theorem apart_arg {W0 w:World} {b:Nat} {o:Obj} (h:RdSl E W0 v xs) (hb:Has b o m) (hw:Sat W0 [] m w):Apart v xs [b]:=by
  intro a n c e h0
  rcases h with ⟨h1,h2⟩ | ⟨b',o',cp,h1,h2,h3⟩ | ⟨_,_,h2⟩
  · subst h2; simp at h0
  rotate_left 1
  · subst h2; simp at h0
  · rw [h1] at e
    injection e with e; injection e with e; subst e
    intro hm
    simp only [List.mem_singleton] at hm
    have h4:=h3 0 h0 0 E.pos
    have h5:0<(E.cell (xs.getD 0 E.z)).length:=by rw [E.len]; exact E.pos
    rw [List.getElem?_eq_getElem h5] at h4
    have:=cell_lt h4
    rcases hw.base _ hb.mem with h6 | h6
    · simp only at h6; omega
    · simp at h6
theorem slAddr_block {b o l n w:Nat}:(slAddr b o l n w).block=b:=by unfold slAddr; split <;> rfl
theorem rd_own {ms mr:List Chunk} (hO:OwnSl E v ms xs) (hT:Take ms m mr):SrcM C m E v xs:=fun _ hw=>RdSl.own hO (hw.take hT)
theorem rd_ownm {ms:List Chunk} (hO:OwnSl E v ms xs):SrcM C ms E v xs:=fun _ hw=>RdSl.own hO hw
theorem rd_in {ms mr:List Chunk} (h:SrcM C ms E v xs) (hT:Take ms m mr):SrcM C m E v xs:=fun w hw=>h w (hw.take hT)
theorem rd_own0:SrcM C m E (.slice none 0 0) []:=fun _ _=>rd_nil
theorem iz {k:IntKind} {z e:Int} {op:IOp} (h:z=e) (q:Q1 C m t op (.int k e)):Q1 C m t op (.int k z):=h▸q
def slBase:Value→Addr
  | .slice (some a) _ _=>a
  | _=>⟨0,0,none⟩
theorem cellAt_lt {s:List Seg} {c:Nat} {u:Value} (h:cellAt s c=some u):c<width s:=by
  rw [cellAt_eq] at h
  have:=(List.getElem?_eq_some_iff.1 h).1
  rwa [cells_length] at this
theorem q_ldM1 {x:Operand} {j c:Nat} {s:List Seg} {u:Value} (hx:ev t x=some (.pointer (some ⟨(slBase v).block,(slBase v).off+j*E.w+c,none⟩))) (hs:SrcM C m E v xs) (hj:j<xs.length) (hc:E.cell (xs.getD j E.z)=cells s) (hp:cellAt s c=some u) :
    Q1 C m t (.ld 1 false x) u:=by
  intro o ho a ha w hw
  rcases hs w hw with ⟨h1,h2⟩ | ⟨b,o1,cp,h1,h2,h3⟩ | ⟨_,_,h2⟩
  · subst h2; simp at hj
  rotate_left 1
  · subst h2; simp at hj
  · subst h1
    refine quiet_val ?_
    have hw:width s=E.w:=by rw [← cells_length,← hc,E.len]
    have hlt:=cellAt_lt hp
    rw [run_load_at (l:=[u]) ho (ha.ev hx) rfl (fun k hk=>by
      obtain rfl:k=0:=by omega
      have:=h3 j hj c (by omega)
      simp only [slBase,Nat.add_zero,List.getElem?_cons_zero]
      rw [show o1+j*E.w+c=o1+(j*E.w+c) by omega,this,hc,← cellAt_eq]
      exact hp) (fun _=>rfl)]
    rfl
theorem q_ldM10 {x:Operand} {j:Nat} {s:List Seg} {u:Value} (hx:ev t x=some (.pointer (some ⟨(slBase v).block,(slBase v).off+j*E.w,none⟩))) (hs:SrcM C m E v xs) (hj:j<xs.length) (hc:E.cell (xs.getD j E.z)=cells s) (hp:cellAt s 0=some u) :
    Q1 C m t (.ld 1 false x) u:=q_ldM1 (c:=0) hx hs hj hc hp
theorem q_ldS {k:IntKind} {n:Nat} {x:Operand} {ys:List Int} (hx:ev t x=some (.pointer (some ⟨(slBase v).block,(slBase v).off,none⟩))) (hs:SrcM C m (El.int k) v ys) (h0:0<n) (hn:decide (n≤ys.length)=true) :
    Q1 C m t (.ld n true x) (agg [.ints k n (tk ys 0 n)]):=by
  intro o ho a ha w hw
  have hn:=of_decide_eq_true hn
  rcases hs w hw with ⟨h1,h2⟩ | ⟨b,o1,cp,h1,h2,h3⟩ | ⟨_,_,h2⟩
  · subst h2; simp at hn; omega
  rotate_left 1
  · subst h2; simp at hn; omega
  · subst h1
    refine quiet_val ?_
    rw [run_load_at (l:=cells [.ints k n (tk ys 0 n)]) ho (ha.ev hx) (by rw [cells_length]; rfl) (fun i hi=>?_) (fun h=>by cases h)]
    · rfl
    · have:=h3 i (by omega) 0 (El.int k).pos
      simp only [slBase,cells,Seg.cells,List.append_nil]
      simp only [Nat.mul_one,Nat.add_zero] at this
      rw [this,intsCells_get hi,tk_getD,if_pos hi,Nat.zero_add]
      rfl
def cutSl (w:Nat) (v:Value) (lo hi:Nat):Value:=match v with
  | .slice (some ⟨b,o,none⟩) _ cp=>.slice (some (slAddr b o lo cp w)) (hi-lo) (cp-lo)
  | .slice (some a) n c=>.slice (some a) n c
  | _=>.slice none 0 0
theorem cutSl_odd {w:Nat} {a:Addr}:cutSl w (.slice (some a) 0 0) 0 0 = .slice (some a) 0 0:=by
  obtain ⟨b,o,sp⟩:=a
  cases sp with
  | none=>simp [cutSl,slAddr]
  | some k=>rfl
theorem q_slsE {w:Nat} {x:Operand} {lo hi:Option Operand} {lz hz:Int} {a3:Addr} (hx:ev t x=some (.slice (some a3) 0 0)) (hl:OptI t 0 lo lz) (hh:OptI t (0:Nat) hi hz)
    (hb:lz=0∧hz=0):Q1 C m t (.sls w x lo hi none) (.slice (some a3) 0 0):=by
  obtain ⟨rfl,rfl⟩:=hb
  intro o ho a ha wd hw
  refine quiet_val ?_
  simp only [okOp] at ho
  split at ho
  · rename_i T x' lo' hi' mx' heq
    simp only [Bool.and_eq_true] at ho
    obtain ⟨⟨⟨⟨h1,h2⟩,h3⟩,h4⟩,h5⟩:=ho
    have e1:=oeq_sound h1; have e2:=oeqO_sound h2; have e3:=oeqO_sound h3; have e4:=oeqO_sound h4
    subst e1; subst e2; subst e3; subst e4
    split at h5
    · rename_i el hu
      simp only [execOp,heq,ha.ev hx]
      refine run_v ?_
      simp only [Instr.sliceAt,Instr.slice,Sem.run_bind,run_underlying hu,Result.andThen_ok,Sem.run_pure,run_sliceBounds (isS:=true) (cap:=0) (mz:=0) ha hl hh .no (by simp) (by omega) (by omega) (by omega) (by omega),run_sizeOf h5]
      simp
    · cases h5
  · cases ho
theorem tkG_get {z:α} {ys:List α} {lo n i:Nat} (h:i<n) (hn:lo+n≤ys.length):((ys.drop lo).take n).getD i z=ys.getD (lo+i) z:=by
  simp only [List.getD,List.getElem?_take_of_lt h,List.getElem?_drop]
theorem rd_cut {lz hz:Int} (hs:SrcM C m E v xs) (hb:cutB lz hz xs.length=true):SrcM C m E (cutSl E.w v lz.toNat hz.toNat) ((xs.drop lz.toNat).take (hz.toNat-lz.toNat)):=by
  intro w hw
  have hb:=cutB_z hb
  have hlen:((xs.drop lz.toNat).take (hz.toNat-lz.toNat)).length=hz.toNat-lz.toNat:=by rw [List.length_take,List.length_drop]; omega
  rcases hs w hw with ⟨h1,h2⟩ | ⟨b,o1,cp,h1,h2,h3⟩ | ⟨a3,h1,h2⟩
  · subst h1; subst h2
    simp only [List.length_nil] at hb
    exact .inl ⟨rfl,by simp⟩
  rotate_left 1
  · subst h1; subst h2
    simp only [List.length_nil] at hb
    have e1:lz.toNat=0:=by omega
    have e2:hz.toNat=0:=by omega
    rw [e1,e2,cutSl_odd]
    exact .inr (.inr ⟨a3,rfl,by simp⟩)
  · subst h1
    by_cases hc:cp=lz.toNat
    · refine .inr (.inl ⟨b,o1,cp-lz.toNat,?_,by omega,fun i hi=>?_⟩)
      · simp only [cutSl,slAddr,hlen,hc,if_true]
      · omega
    · refine .inr (.inl ⟨b,o1+lz.toNat*E.w,cp-lz.toNat,?_,by omega,fun i hi j hj=>?_⟩)
      · simp only [cutSl,slAddr,hlen,hc,if_false]
      · rw [hlen] at hi
        rw [tkG_get hi (by omega),← h3 (lz.toNat+i) (by omega) j hj]
        congr 2
        rw [Nat.add_mul]; omega
theorem rd_blk_i {b T base N lo hi mz:Nat} {fz:Nat×Nat} {s:List Seg} {k:IntKind} {ys:List Int} (hb:Has b (.cells (cells s).toArray T fz) m) (hs:segAt s base=some (.ints k N ys)) (h:lo≤hi∧hi≤mz∧mz≤N) :
    SrcM C m (El.int k) (.slice (some (slAddr b base lo mz 1)) (hi-lo) (mz-lo)) (tk ys lo (hi-lo)):=by
  intro w hw
  by_cases hc:mz=lo
  · refine .inr (.inl ⟨b,base,mz-lo,?_,by rw [tk_length]; omega,fun i hi=>?_⟩)
    · simp only [slAddr,hc,if_true,tk_length]
    · rw [tk_length] at hi; omega
  · refine .inr (.inl ⟨b,base+lo*1,mz-lo,?_,by rw [tk_length]; omega,fun i hi j hj=>?_⟩)
    · simp only [slAddr,hc,if_false,tk_length]
    · rw [tk_length] at hi
      obtain rfl:j=0:=by simp only at hj; omega
      have hseg:=segAt_cells hs (lo+i) (by simp only [Seg.width]; omega)
      rw [tk_getD,if_pos hi]
      have:=hw.own _ hb.mem
      have hcell:w.cell? ⟨b,base+(lo+i),none⟩=(cells s)[base+(lo+i)]? := by
        simp only [World.cell?,this]
        simp
      simp only [Nat.mul_one,Nat.add_zero]
      rw [show base+lo+i=base+(lo+i) by omega,hcell,hseg]
      simp only [Seg.cells]
      rw [intsCells_get (by omega)]
      rfl
theorem EF.perm {d:Option Nat} {op:IOp} {m':List Chunk} (hp:List.Perm m' m) (h:EF C m' t d op K):EF C m t d op K :=
  fun o ho hd a ha w hw=>h o ho hd a ha w (hw.perm hp)
theorem ef_st1z {x y:Operand} {b off:Nat} {T:TypeId} {s q q':List Seg} {u:Value} {m':List Chunk} (e:q'=q) (hx:ev t x=some (.pointer (some ⟨b,off,none⟩))) (hy:ev t y=some u) (hv:one1 u=true) (hq:putC s off u=some q')
    (hup:Upd b (.cells (cells s).toArray T (0,0)) (.cells (cells q).toArray T (0,0)) m m') (h:K t m'):EF C m t none (.st 1 x y) K:=by subst e; exact ef_st1 hx hy hv hq hup h
theorem ef_stiz {x y:Operand} {b base i len:Nat} {T:TypeId} {s q:List Seg} {k:IntKind} {ys ys':List Int} {z:Int} {m':List Chunk} (e:ys'=setD ys i z) (hx:ev t x=some (.pointer (some ⟨b,base+i*1,none⟩))) (hy:ev t y=some (.int k z))
    (hs:segAt s base=some (.ints k len ys)) (hi:i<len) (hq:segSet s base (.ints k len ys')=some q)
    (hup:Upd b (.cells (cells s).toArray T (0,0)) (.cells (cells q).toArray T (0,0)) m m') (h:K t m'):EF C m t none (.st 1 x y) K:=by subst e; exact ef_sti hx hy hs hi hq hup h
theorem rowE_set (ys:List α) (i:Nat) (y:α):rowE E (setG E.z ys i y)=updR (rowE E ys) i (E.cell y):=by
  funext j
  simp only [rowE,updR,getD_setG]
  split <;> rfl
theorem ef_strz {x y:Operand} {b base i len:Nat} {T:TypeId} {s q:List Seg} {u:Value} {y0:α} {ys ys':List α} {m':List Chunk} (e:ys'=setG E.z ys i y0) (hx:ev t x=some (.pointer (some ⟨b,base+i*E.w,none⟩))) (hy:ev t y=some u) (hu:u.cells.toList=E.cell y0)
    (hs:segAt s base=some (.rows E.w len (rowE E ys))) (hi:i<len) (hq:segSet s base (.rows E.w len (rowE E ys'))=some q)
    (hup:Upd b (.cells (cells s).toArray T (0,0)) (.cells (cells q).toArray T (0,0)) m m') (h:K t m'):EF C m t none (.st E.w x y) K:=by
  subst e
  rw [rowE_set] at hq
  obtain ⟨e1,e2,e3⟩:=segSet_cells hq
  have hw:=segAt_width hs
  simp only [Seg.width] at hw e3
  have hle:i*E.w+E.w≤len*E.w:=by rw [← Nat.succ_mul]; exact Nat.mul_le_mul_right E.w hi
  have hpl:(E.cell y0).length=E.w:=E.len y0
  have key:cells q=splice (cells s) (base+i*E.w) (E.cell y0):=by
    rw [e1]
    simp only [Seg.cells,rowsCells_upd E.w len (rowE E ys) i (E.cell y0) hi hpl]
    exact splice_splice (by rw [rowsCells_length,cells_length]; omega) (by rw [rowsCells_length]; omega) (fun j hj=>segAt_cells hs j (by rw [rowsCells_length] at hj; exact hj))
  rw [key] at hup
  exact ef_put hx hy (vs:=E.cell y0) hu hpl hup (by rw [cells_length]; omega) (E.one y0) h
theorem cells_ones (l:List Value):cells (l.map Seg.one)=l:=by
  induction l with
  | nil=>rfl
  | cons a r ih=>simp [cells,Seg.cells,ih]
theorem width_ones (l:List Value):width (l.map Seg.one)=l.length:=by rw [← cells_length,cells_ones]
def cellsOf (E:El α) (xs:List α):List Value:=rowsCells E.w xs.length (rowE E xs)
theorem cellsOf_length:(cellsOf E xs).length=xs.length*E.w:=rowsCells_length _ _ _
theorem cellsOf_get {i j:Nat} (hi:i<xs.length) (hj:j<E.w):(cellsOf E xs)[i*E.w+j]? = (E.cell (xs.getD i E.z))[j]? := by
  unfold cellsOf
  rw [rowsCells_get2 hi hj]
  simp only [rowE,fit_cell]
theorem cellsOf_one : ∀ u∈cellsOf E xs,one1 u=true:=one_rows fun i _=>⟨E.len _,E.one _⟩
theorem srcV_rd {w:World} (hs:SrcM C m E v xs) (hw:Sat C.W0 C.S m w):SrcV C m E.w v xs.length (cellsOf E xs):=by
  rcases hs w hw with ⟨h1,h2⟩ | ⟨b,o1,cp,h1,h2,h3⟩ | ⟨a3,h1,h2⟩
  · subst h1; subst h2; exact src_none
  rotate_left 1
  · subst h1; subst h2; exact src_none
  · subst h1
    refine src_of cellsOf_length cellsOf_one fun w' hw' i hi=>?_
    rcases hs w' hw' with ⟨h1',_⟩ | ⟨b',o1',cp',h1',h2',h3'⟩ | ⟨_,_,h2'⟩
    · cases h1'
    rotate_left 1
    · subst h2'; simp at hi
    · injection h1' with h1' _ h1c
      injection h1' with h1'
      injection h1' with hb ho _
      subst hb; subst ho
      have hp:=E.pos
      have hq:i / E.w<xs.length:=Nat.div_lt_of_lt_mul (by rw [Nat.mul_comm]; exact hi)
      have hr:=Nat.mod_lt i hp
      have he:i / E.w*E.w+i%E.w=i:=by have:=Nat.div_add_mod i E.w; rw [Nat.mul_comm] at this; exact this
      have:=h3' (i / E.w) hq (i%E.w) hr
      rw [he] at this
      rw [this,← cellsOf_get hq hr,he]
theorem ef_stO {x y:Operand} {ms mr:List Chunk} {i:Nat} {u:Value} {y0:α} {xs':List α} (e:xs'=setG E.z xs i y0) (hO:OwnSl E v ms xs) (hT:Take ms m mr) (hx:ev t x=some (.pointer (some ⟨(slBase v).block,(slBase v).off+i*E.w,none⟩)))
    (hy:ev t y=some u) (hu:u.cells.toList=E.cell y0) (hi:i<xs.length) (h : ∀ ms',OwnSl E v ms' xs'→K t (ms'++mr)):EF C m t none (.st E.w x y) K:=by
  refine EF.perm hT.perm ?_
  rcases hO with ⟨h1,h2,h3⟩ | ⟨b,o,cp,T,cs,h1,h2,h3,h4,h5⟩
  · subst h2; simp at hi
  · subst h1; subst h3; subst e
    have hle:i*E.w+E.w≤cp*E.w:=by rw [← Nat.succ_mul]; exact Nat.mul_le_mul_right _ (by omega)
    have hpl:(E.cell y0).length=E.w:=E.len y0
    have hin:o+i*E.w+E.w≤(cells cs).length:=by rw [cells_length]; omega
    refine ef_put (l:=cells cs) (vs:=E.cell y0) (T:=T) (m':=[⟨b,.cells (cells ((splice (cells cs) (o+i*E.w) (E.cell y0)).map Seg.one)).toArray T (0,0)⟩]++mr) hx hy hu hpl ?_ hin (E.one y0) (h _ (.inr ⟨b,o,cp,T,_,?_,?_,rfl,?_,?_⟩))
    · rw [cells_ones]; exact Upd.here
    · rw [setG_eq hi,List.length_set]
    · rw [setG_eq hi,List.length_set]; exact h2
    · rw [width_ones,splice,List.length_append,List.length_append,List.length_take,List.length_drop,hpl,cells_length]
      have:=cells_length cs; omega
    · intro i' hi' j hj
      rw [setG_eq hi,List.length_set] at hi'
      rw [cells_ones,splice_get (by rw [hpl]; exact hin),getD_setG,hpl]
      by_cases hii:i'=i
      · subst hii
        rw [if_pos (by omega),if_pos rfl]
        congr 1; omega
      · rw [if_neg hii,if_neg ?_,h5 i' hi' j hj]
        intro hcon
        rcases Nat.lt_or_ge i' i with hl | hl
        · have:i'*E.w+E.w≤i*E.w:=by rw [← Nat.succ_mul]; exact Nat.mul_le_mul_right _ hl
          omega
        · have:i*E.w+E.w≤i'*E.w:=by rw [← Nat.succ_mul]; exact Nat.mul_le_mul_right _ (by omega)
          omega
theorem getD_app1 {z:α} {ys:List α} {i:Nat} (h:i<xs.length):(xs++ys).getD i z=xs.getD i z:=by simp [List.getD,List.getElem?_append_left h]
theorem getD_app2 {z:α} {ys:List α} {i:Nat} (h:xs.length≤i):(xs++ys).getD i z=ys.getD (i-xs.length) z:=by simp [List.getD,List.getElem?_append_right h]
theorem ef_appO {d:Nat} {T:TypeId} {bytes:Nat} {z:List Seg} {x y:Operand} {ms mr:List Chunk} {u:Value} {ys xs':List α} (e:xs'=xs++ys) (hx:ev t x=some v) (hO:OwnSl E v ms xs) (hT:Take ms m mr) (hy:ev t y=some u) (hs:SrcM C m E u ys)
    (hsz:decide ((xs.length+ys.length)*bytes≤140737488355328)=true) (h : ∀ v' ms',OwnSl E v' ms' xs'→K ((d,v')::t) (ms'++mr)):EF C m t (some d) (.app T E.w bytes z x y) K:=by
  subst e
  have hsz:=of_decide_eq_true hsz
  intro o ho hd a ha w hw
  have hS:SrcV C (ms++mr) E.w u ys.length (cellsOf E ys):=srcV_rd (w:=w) (fun w' hw'=>hs w' (hw'.perm hT.perm.symm)) (hw.perm hT.perm)
  refine EF.perm hT.perm (EF.less (?_:EF C (ms++mr) t (some d) (.app T E.w bytes z x y) _)) o ho hd a ha w hw
  have hzw:width z=E.w:=by
    simp only [okOp] at ho
    split at ho
    · simp only [Bool.and_eq_true,Nat.beq_eq] at ho
      exact ho.1.2
    · cases ho
  rcases hO with ⟨h1,h2,h3⟩ | ⟨b,o1,cp,T',cs,h1,h2,h3,h4,h5⟩
  · subst h1; subst h2; subst h3
    refine ef_app0 hx hy hS (by simpa using hsz) (fun h0=>?_) (fun h0 b' cp' hb' hc'=>?_)
    · have hys:ys = []:=List.eq_nil_of_length_eq_zero h0
      subst hys
      exact ⟨_,h _ _ own_nil,List.Sublist.refl _⟩
    · refine ⟨(cellsOf E ys++(List.replicate (cp'-ys.length) (cells z)).flatten).map Seg.one,cells_ones _,?_⟩
      refine ⟨_,h _ [⟨b',_⟩] (.inr ⟨b',0,cp',T,_,by simp,by simpa using hc',rfl,?_,?_⟩),List.Sublist.refl _⟩
      · rw [width_ones,List.length_append,cellsOf_length]
        simp only [List.length_flatten,List.map_replicate,List.sum_replicate_nat,cells_length,hzw,Nat.zero_add]
        rw [← Nat.add_mul]
        exact Nat.mul_le_mul_right _ (by omega)
      · intro i hi j hj
        simp only [List.nil_append] at hi ⊢
        have:i*E.w+E.w≤ys.length*E.w:=by rw [← Nat.succ_mul]; exact Nat.mul_le_mul_right _ hi
        rw [cells_ones,Nat.zero_add,List.getElem?_append_left (by rw [cellsOf_length]; omega),cellsOf_get hi hj]
  · subst h1; subst h3
    refine ef_app hx Has.here hy hS h4 h2 hsz (fun hr=>?_) (fun hg b' cp' hb' hc'=>?_)
    · have hle:(xs.length+ys.length)*E.w≤cp*E.w:=Nat.mul_le_mul_right _ hr
      rw [Nat.add_mul] at hle
      have hin:o1+xs.length*E.w+(cellsOf E ys).length≤(cells cs).length:=by rw [cellsOf_length,cells_length]; omega
      refine ⟨(splice (cells cs) (o1+xs.length*E.w) (cellsOf E ys)).map Seg.one,[⟨b,.cells (cells ((splice (cells cs) (o1+xs.length*E.w) (cellsOf E ys)).map Seg.one)).toArray T' (0,0)⟩]++mr,cells_ones _,Upd.here,?_⟩
      refine ⟨_,h _ _ (.inr ⟨b,o1,cp,T',_,by simp,by simpa using hr,rfl,?_,?_⟩),List.Sublist.refl _⟩
      · rw [width_ones,splice,List.length_append,List.length_append,List.length_take,List.length_drop]
        rw [cells_length] at hin ⊢; omega
      · intro i hi j hj
        rw [cells_ones,splice_get hin,cellsOf_length]
        rw [List.length_append] at hi
        by_cases hil:i<xs.length
        · have:i*E.w+E.w≤xs.length*E.w:=by rw [← Nat.succ_mul]; exact Nat.mul_le_mul_right _ hil
          rw [if_neg (by omega),getD_app1 hil,h5 i hil j hj]
        · have e1:i*E.w=xs.length*E.w+(i-xs.length)*E.w:=by rw [← Nat.add_mul]; congr 1; omega
          have:(i-xs.length)*E.w+E.w≤ys.length*E.w:=by rw [← Nat.succ_mul]; exact Nat.mul_le_mul_right _ (by omega)
          rw [if_pos (by omega),getD_app2 (by omega),show o1+(i*E.w+j)-(o1+xs.length*E.w)=(i-xs.length)*E.w+j by omega,cellsOf_get (by omega) hj]
    · have hle:xs.length*E.w≤cp*E.w:=Nat.mul_le_mul_right _ h2
      have hl1:(((cells cs).drop o1).take (xs.length*E.w)).length=xs.length*E.w:=by rw [List.length_take,List.length_drop,cells_length]; omega
      refine ⟨(((cells cs).drop o1).take (xs.length*E.w)++cellsOf E ys++(List.replicate (cp'-(xs.length+ys.length)) (cells z)).flatten).map Seg.one,cells_ones _,?_⟩
      refine ⟨_,h _ [⟨b',_⟩] (.inr ⟨b',0,cp',T,_,by simp,by simpa using hc',rfl,?_,?_⟩),List.Sublist.cons₂ _ (List.sublist_cons_self _ _)⟩
      · rw [width_ones,List.length_append,List.length_append,hl1,cellsOf_length]
        simp only [List.length_flatten,List.map_replicate,List.sum_replicate_nat,cells_length,hzw,Nat.zero_add]
        rw [← Nat.add_mul,← Nat.add_mul]
        exact Nat.mul_le_mul_right _ (by omega)
      · intro i hi j hj
        rw [List.length_append] at hi
        rw [cells_ones,Nat.zero_add]
        by_cases hil:i<xs.length
        · have:i*E.w+E.w≤xs.length*E.w:=by rw [← Nat.succ_mul]; exact Nat.mul_le_mul_right _ hil
          rw [List.append_assoc,List.getElem?_append_left (by rw [hl1]; omega),List.getElem?_take_of_lt (by omega),List.getElem?_drop,h5 i hil j hj,getD_app1 hil]
        · have e1:i*E.w=xs.length*E.w+(i-xs.length)*E.w:=by rw [← Nat.add_mul]; congr 1; omega
          have:(i-xs.length)*E.w+E.w≤ys.length*E.w:=by rw [← Nat.succ_mul]; exact Nat.mul_le_mul_right _ (by omega)
          rw [List.append_assoc,List.getElem?_append_right (by rw [hl1]; omega),hl1,List.getElem?_append_left (by rw [cellsOf_length]; omega),getD_app2 (by omega),show i*E.w+j-xs.length*E.w=(i-xs.length)*E.w+j by omega,cellsOf_get (by omega) hj]
def mkB (bytes:Nat) (L N:Int):Bool:=decide (0≤L)&&decide (L≤N)&&decide ((bytes:Int)*N≤281474976710656)&&decide (N≤9223372036854775807)
theorem ef_mksO {d:Nat} {T:TypeId} {bytes:Nat} {z:List Seg} {l c:Operand} {kl kc:IntKind} {L N:Int} (hz:cells z=E.cell E.z)
    (hl:ev t l=some (.int kl L)) (hc:ev t c=some (.int kc N)) (hB:mkB bytes L N=true)
    (h : ∀ v ms,OwnSl E v ms (List.replicate L.toNat E.z)→K ((d,v)::t) (ms++m)):EF C m t (some d) (.mks T bytes z l c) K:=by
  simp only [mkB,Bool.and_eq_true,decide_eq_true_eq] at hB
  obtain ⟨⟨⟨h0,h1⟩,h2⟩,h3⟩:=hB
  refine ef_mks hl hc h0 h1 h2 h3 fun b hb=>?_
  refine ⟨(List.replicate N.toNat (cells z)).flatten.map Seg.one,cells_ones _,?_⟩
  have hw:(cells z).length=E.w:=by rw [hz,E.len]
  refine h _ [⟨b,_⟩] (.inr ⟨b,0,N.toNat,T,_,by simp,by simp; omega,rfl,?_,?_⟩)
  · rw [width_ones]
    simp only [List.length_flatten,List.map_replicate,List.sum_replicate_nat,hw,Nat.zero_add]
    exact Nat.le_refl _
  · intro i hi j hj
    rw [List.length_replicate] at hi
    have e:(List.replicate N.toNat (cells z)).flatten=rowsCells E.w N.toNat (fun _=>cells z):=(rows_const hw).symm
    rw [cells_ones,Nat.zero_add,e,rowsCells_get2 (by omega) hj,← hw,fit_same rfl,hz]
    simp [List.getD,List.getElem?_replicate,hi]
inductive Bs (E:El α):List α→List Seg→Prop
  | nil:Bs E [] []
  | cons {x:α} {ys:List α} {p q:List Seg}:cells p=E.cell x→Bs E ys q→Bs E (x::ys) (p++q)
theorem Bs.get {q:List Seg} (h:Bs E xs q):width q=xs.length*E.w ∧ ∀ i,i<xs.length→∀ j,j<E.w→(cells q)[i*E.w+j]? = (E.cell (xs.getD i E.z))[j]? := by
  induction h with
  | nil=>exact ⟨by simp [width],fun i hi=>by simp at hi⟩
  | @cons x ys p q hc _ ih =>
    have hp:width p=E.w:=by rw [← cells_length,hc,E.len]
    refine ⟨by rw [width_append,ih.1,hp,List.length_cons,Nat.succ_mul]; omega,fun i hi j hj=>?_⟩
    rw [cells_append]
    cases i with
    | zero =>
      rw [List.getElem?_append_left (by rw [cells_length,hp]; omega),hc]
      simp
    | succ i =>
      rw [List.length_cons] at hi
      rw [List.getElem?_append_right (by rw [cells_length,hp,Nat.succ_mul]; omega),cells_length,hp,show (i+1)*E.w+j-E.w=i*E.w+j by rw [Nat.succ_mul]; omega,ih.2 i (by omega) j hj]
      simp
theorem ef_bsO {d:Nat} {T:TypeId} {len:Nat} {z q:List Seg} {parts:List (Nat×Nat×Operand)} (hb:BdR t z parts q) (hB:Bs E xs q) (hl:xs.length=len)
    (h : ∀ v ms,OwnSl E v ms xs→K ((d,v)::t) (ms++m)):EF C m t (some d) (.bs T len E.w z parts) K:=by
  subst hl
  refine ef_bs hb fun b hb'=>?_
  obtain ⟨h1,h2⟩:=hB.get
  refine h _ [⟨b,_⟩] (.inr ⟨b,0,xs.length,T,q,rfl,Nat.le_refl _,rfl,by rw [h1]; omega,fun i hi j hj=>?_⟩)
  rw [Nat.zero_add]; exact h2 i hi j hj
theorem cellsOf_int {k:IntKind} {ys:List Int}:cellsOf (El.int k) ys=ys.map (.int k):=by
  apply List.ext_getElem?
  intro i
  by_cases hi:i<ys.length
  · have:=cellsOf_get (E:=El.int k) (xs:=ys) (i:=i) (j:=0) hi (El.int k).pos
    simp only [Nat.mul_one,Nat.add_zero] at this
    rw [this]
    simp [List.getD,List.getElem?_eq_getElem hi]
  · rw [List.getElem?_eq_none (by rw [cellsOf_length]; simp only [Nat.mul_one]; omega),List.getElem?_eq_none (by rw [List.length_map]; omega)]
theorem ef_cpyB {d:Option Nat} {x y:Operand} {b T base lo hi mz N:Nat} {s q:List Seg} {k:IntKind} {zs zs' ys:List Int} {u:Value} {m':List Chunk} (e:zs'=wr zs lo (ys.take (hi-lo)))
    (hx:ev t x=some (.slice (some (slAddr b base lo mz 1)) (hi-lo) (mz-lo))) (hy:ev t y=some u) (hu:SrcM C m (El.int k) u ys) (hs:segAt s base=some (.ints k N zs)) (hb:lo≤hi∧hi≤mz∧mz≤N)
    (hq:segSet s base (.ints k N zs')=some q) (hup:Upd b (.cells (cells s).toArray T (0,0)) (.cells (cells q).toArray T (0,0)) m m')
    (h:K (putT d (.int .i64 (Nat.min ys.length (hi-lo):Nat)) t) m'):EF C m t d (.cpy 1 x y) K:=by
  subst e
  intro o ho hd a ha w hw
  have hS:=srcV_rd hu hw
  rw [cellsOf_int] at hS
  obtain ⟨e1,e2,e3⟩:=segSet_cells hq
  have hsw:=segAt_width hs
  simp only [Seg.width] at hsw e3
  have hseg : ∀ j,j<(intsCells k N zs).length→(cells s)[base+j]? = (intsCells k N zs)[j]? := fun j hj=>segAt_cells hs j (by rw [intsCells_length] at hj; exact hj)
  have hlen:(ys.take (hi-lo)).length=Nat.min ys.length (hi-lo):=by rw [List.length_take]; exact Nat.min_comm _ _
  have hmin:Nat.min ys.length (hi-lo)≤hi-lo:=Nat.min_le_right _ _
  have key:cells q=splice (cells s) (base+lo) ((ys.take (hi-lo)).map (.int k)):=by
    rw [e1]
    have hwr:intsCells k N (wr zs lo (ys.take (hi-lo)))=splice (intsCells k N zs) lo ((ys.take (hi-lo)).map (.int k)):=by
      have:=wr_cells (k:=k) (N:=N) (i:=lo) (xs:=zs) (ys:=ys.take (hi-lo)) (by rw [hlen]; omega)
      simpa [cells,Seg.cells] using this
    simp only [Seg.cells,hwr]
    exact splice_splice (by rw [intsCells_length,cells_length]; omega) (by rw [intsCells_length,List.length_map,hlen]; omega) hseg
  have hke : ∀ d':Option Nat,K (putT d' (.int .i64 (Nat.min ys.length (hi-lo):Nat)) t) m'→K (match d' with | some d=>(d,.int .i64 (Nat.min ys.length (hi-lo):Nat))::t | none=>t) m':=by
    intro d' hk; cases d' <;> exact hk
  by_cases hc:mz=lo
  · have h0:hi=lo:=by omega
    refine ef_cpy (w:=1) (dl:=hi-lo) (dc:=mz-lo) (b:=b) (off:=base) (T:=T) (segs:=s) (segs':=q) (m':=m') (by rw [hx]; simp only [slAddr,hc,if_true]) hy hS (by rw [h0]; omega) ?_ hup (hke d h) o ho hd a ha w hw
    rw [key,h0]
    simp [splice]
  · refine ef_cpy (w:=1) (dl:=hi-lo) (dc:=mz-lo) (b:=b) (off:=base+lo) (T:=T) (segs:=s) (segs':=q) (m':=m') (by rw [hx]; simp only [slAddr,hc,if_false,Nat.mul_one]) hy hS (by omega) ?_ hup (hke d h) o ho hd a ha w hw
    rw [key]
    congr 1
    rw [← List.map_take,Nat.mul_one]
    congr 1
    apply List.ext_getElem?
    intro i
    simp only [List.getElem?_take]
    by_cases h1:i<ys.length
    · by_cases h2:i<hi-lo
      · rw [if_pos h2,if_pos (Nat.lt_min.2 ⟨h1,h2⟩)]
      · rw [if_neg h2,if_neg (fun h3=>h2 (Nat.lt_min.1 h3).2)]
    · rw [List.getElem?_eq_none (l:=ys) (by omega)]
      split <;> split <;> rfl
theorem az {τ:Type} (f:τ→Value) {z e:τ} {op:IOp} (h:z=e) (q:Q1 C m t op (f e)):Q1 C m t op (f z):=h▸q
theorem rdcut {W:World} {lz hz:Int} (h:RdSl E W v xs) (hb:cutB lz hz xs.length=true):RdSl E W (cutSl E.w v lz.toNat hz.toNat) ((xs.drop lz.toNat).take (hz.toNat-lz.toNat)) :=
  rd_cut (C:=⟨default,0,W,[]⟩) (m:=[]) (fun w hw=>h.below hw.now) hb W (sat0 W)
theorem apart_cut {S:List Nat} {w lo hi n:Nat} (h:Apart v xs S):Apart (cutSl w v lo hi) ((xs.drop lo).take n) S:=by
  intro a k c e h0
  have hx:0<xs.length:=by
    rw [List.length_take,List.length_drop] at h0
    omega
  unfold cutSl at e
  split at e
  · injection e with e; injection e with e; subst e
    rw [slAddr_block]
    exact h _ _ _ rfl hx
  · injection e with e; injection e with e; subst e
    exact h _ _ _ rfl hx
  · cases e
theorem rdcutS {W:World} {S:List Nat} {lz hz:Int} (h:RdSl E W v xs∧Apart v xs S) (hb:cutB lz hz xs.length=true) :
    RdSl E W (cutSl E.w v lz.toNat hz.toNat) ((xs.drop lz.toNat).take (hz.toNat-lz.toNat))∧Apart (cutSl E.w v lz.toNat hz.toNat) ((xs.drop lz.toNat).take (hz.toNat-lz.toNat)) S :=
  ⟨rdcut h.1 hb,apart_cut h.2⟩
theorem cpy0 {zs' zs ys:List Int} {n:Nat} (e:zs'=wr zs 0 (ys.take n)):zs'=wr zs 0 (ys.take (n-0)):=e
theorem cut4 {lo hi:Int} {n:Nat} (h:cutB lo hi n=true):0≤lo∧lo≤hi∧hi≤(n:Int)∧(n:Int)≤(n:Int):=by have:=cutB_z h; omega
theorem cutn {lo hi:Int} {n:Nat} (h:cutB lo hi n=true):lo.toNat≤hi.toNat∧hi.toNat≤n∧n≤n:=by have:=cutB_z h; omega
theorem getD_some {τ:Type} {o:Option τ} {z:τ} (h:o.isSome=true):o=some (o.getD z):=by cases o <;> simp_all
theorem ef_stg {n:Nat} {x y:Operand} {b off:Nat} {T:TypeId} {s p q:List Seg} {m':List Chunk} (hx:ev t x=some (.pointer (some ⟨b,off,none⟩))) (hy:ev t y=some (agg p)) (hn:width p=n) (hq:putL s off p=some q) (hsc : ∀ v∈cells p,one1 v=true)
    (hup:Upd b (.cells (cells s).toArray T (0,0)) (.cells (cells q).toArray T (0,0)) m m') (h:K t m'):EF C m t none (.st n x y) K:=by
  obtain ⟨e1,e2,e3⟩:=putL_cells hq
  rw [e1] at hup
  exact ef_put hx hy (vs:=cells p) (by simp [agg,Value.cells]) (by rw [cells_length]; exact hn) hup (by rw [cells_length]; omega) hsc h
theorem q_ldr0 {n:Nat} {x:Operand} {b base i w len:Nat} {T:TypeId} {fz:Nat×Nat} {s q p:List Seg} {g:Nat→List Value} (hx:ev t x=some (.pointer (some ⟨b,base+i*w,none⟩))) (hb:Has b (.cells (cells s).toArray T fz) m)
    (hs:segAt s base=some (.rows w len g)) (hi:i<len) (hq:g i=cells q) (hw:width q=w) (hp:sub q 0 n=some p):Q1 C m t (.ld n true x) (agg p):=q_ldr (c:=0) hx hb hs hi hq hw hp
theorem own_blk_i {b T base N lo hi mz:Nat} {s:List Seg} {k:IntKind} {ys:List Int} (hs:segAt s base=some (.ints k N ys)) (h:lo≤hi∧hi≤mz∧mz≤N) :
    OwnSl (El.int k) (.slice (some (slAddr b base lo mz 1)) (hi-lo) (mz-lo)) [ck b T s] (tk ys lo (hi-lo)):=by
  have hw:=segAt_width hs
  simp only [Seg.width] at hw
  have key : ∀ i,i<hi-lo→(cells s)[base+(lo+i)]? = some (.int k (ys.getD (lo+i) 0)):=by
    intro i hi'
    have:=segAt_cells hs (lo+i) (by simp only [Seg.width]; omega)
    rw [this]
    simp only [Seg.cells]
    rw [intsCells_get (by omega)]
  by_cases hc:mz=lo
  · refine .inr ⟨b,base,mz-lo,T,s,?_,by rw [tk_length]; omega,rfl,by simp only [Nat.mul_one]; omega,fun i hi'=>?_⟩
    · simp only [slAddr,hc,if_true,tk_length]
    · rw [tk_length] at hi'; omega
  · refine .inr ⟨b,base+lo*1,mz-lo,T,s,?_,by rw [tk_length]; omega,rfl,by simp only [Nat.mul_one]; omega,fun i hi' j hj=>?_⟩
    · simp only [slAddr,hc,if_false,tk_length]
    · rw [tk_length] at hi'
      obtain rfl:j=0:=by have:j<1:=hj; omega
      rw [tk_getD,if_pos hi']
      simp only [Nat.mul_one,Nat.add_zero]
      rw [show base+lo+i=base+(lo+i) by omega,key i hi']
      rfl
theorem eqc_last {c:Bool} {s s':Seg} (h:c=true↔s.cells=s'.cells):c=true↔cells [s]=cells [s']:=by
  rw [h]; simp [cells]
theorem eqc_ints {k:IntKind} {n:Nat} {a b:List Int}:ieq n a b=true↔(Seg.ints k n a).cells=(Seg.ints k n b).cells:=by
  have:=ieq_cells (k:=k) (n:=n) (a:=a) (b:=b)
  simpa [cells] using this
end
theorem Sup.app {m0 m ms:List Chunk} (h:Sup m0 m):Sup m0 (ms++m):=fun _ h'=>List.mem_append_right _ (h _ h')
theorem alz_rows {α:Type} {E:El α} {n:Nat} {zc:List Value} {r r':List Seg} (hz:zc=E.cell E.z) (h:cells r=cells r'):cells (.rows E.w n (fun _=>zc)::r)=cells (.rows E.w n (rowE E (List.replicate n E.z))::r'):=by
  simp only [cells,h,Seg.cells]
  congr 1
  apply rows_congr
  intro i hi
  subst hz
  simp [rowE,List.getD,List.getElem?_replicate,hi]
inductive Pc where
  | one (c:Chunk)
  | all (l:List Chunk)
def appL:List Pc→List Chunk→List Chunk
  | [],m=>m
  | .one c::r,m=>c::appL r m
  | .all a::r,m=>a++appL r m
theorem appL_eq : ∀ (l:List Pc) (m:List Chunk),appL l []++m=appL l m
  | [],m=>rfl
  | .one c::r,m=>by simp only [appL,List.cons_append,appL_eq r m]
  | .all a::r,m=>by simp only [appL,List.append_assoc,appL_eq r m]
def retS (W0:World) (S:List Nat) (R:Value→List Pc→Prop):Ending→World→Prop:=retM W0 S fun v M=>∃ Ms,M=appL Ms []∧R v Ms
section
variable {C:Cfg} {m:List Chunk} {t:TS} {K:KN}
theorem ef_callS {d:Option Nat} {f:FuncId} {args:List Operand} {vs:List Value} {mS mr:List Chunk} {R:Value→List Pc→Prop} (ha:evL t args=some vs) (hp:List.Perm (mS++mr) m)
    (hc : ∀ w,Sat C.W0 C.S m w→Calls C.P f vs.toArray w (retS w (mS.map (·.b)) R))
    (h : ∀ v Ms,R v Ms→K (putT d v t) (appL Ms mr)):EF C m t d (.call f args) K :=
  ef_callM ha hp hc fun v m' ⟨Ms,e,hR⟩=>by subst e; rw [appL_eq]; exact h v Ms hR
theorem ef_callS0 {d:Option Nat} {f:FuncId} {args:List Operand} {vs:List Value} {R:Value→List Pc→Prop} (ha:evL t args=some vs)
    (hc : ∀ w,Sat C.W0 C.S m w→Calls C.P f vs.toArray w (retS w [] R))
    (h : ∀ v Ms,R v Ms→K (putT d v t) (appL Ms m)):EF C m t d (.call f args) K :=
  ef_callF ha hc fun v m' ⟨Ms,e,hR⟩=>by subst e; rw [appL_eq]; exact h v Ms hR
end
def retT (rs:List RV) (R:Value→List Chunk→Prop):KN:=fun t m=>∃ l M,ResVs t m rs l∧PSub M m∧R (tupV l) M
theorem calls_memT {P:Program} {f:FuncId} {d:FnD} {args:List Value} {W0:World} {S:List Nat} {m0:List Chunk} {R:Value→List Chunk→Prop}
    (hm:P.follows .mixedOrders=true) (hok:okF P f d=true) (hlen:Nat.ble args.length d.n=true) (h0:Sat W0 S m0 W0)
    (h:WC ⟨P,d.n,W0,S⟩ d.c (argsT 0 args) m0 (retT d.rs R) ⟨[],retT d.rs R⟩):Calls P f args.toArray W0 (retM W0 S R):=by
  refine calls_of hm hok hlen h0 ?_
  have hsub : ∀ t m,retT d.rs R t m→retK W0 S d.rs (retM W0 S R) t m:=by
    rintro t m ⟨l,M,h1,h2,h3⟩
    exact ⟨l,h1,fun w hw=>⟨_,_,rfl,h3,hw.psub h2⟩⟩
  intro hm c0 hok Q a w ha hw hc
  exact h hm c0 hok Q a w ha hw ⟨fun t m hk=>hc.n t m (hsub t m hk),fun id k hk=>by simp [lookK] at hk,fun t m hk=>hc.r t m (hsub t m hk)⟩
section
variable {C:Cfg} {m:List Chunk} {t:TS} {K:KN}
theorem okOp_apz {P:Program} {o:Oper} {T:TypeId} {w bytes:Nat} {z:List Seg} {x y:Operand} (h:okOp P o (.apz T w bytes z x y)=true) :
    ∃ c t tx k,o.op = .call c∧c.callee = .builtin .append∧c.args = #[x,y]∧c.argTypes[0]? = some t∧c.argTypes[1]? = some tx∧P.underlying t=some (.slice T) ∧
      P.underlying tx=some (.int k)∧(∃ i zv,P.info? T=some i∧i.size=w∧i.bytes=bytes∧0<bytes∧i.zero=some zv∧zv.cells=(cells z).toArray)∧width z=w∧0<w:=by
  simp only [okOp] at h
  split at h
  · rename_i c heq
    simp only [Bool.and_eq_true] at h
    obtain ⟨⟨⟨⟨⟨⟨⟨h1,h2⟩,h3⟩,h4⟩,h5⟩,h6⟩,h7⟩,h8⟩:=h
    have hargs:=oeqL_sound h2
    have hc:c.callee = .builtin .append:=by
      revert h1; split <;> simp_all
    cases e0:c.argTypes[0]? with
    | none=>rw [e0] at h3; simp at h3
    | some t0 =>
      cases e1:c.argTypes[1]? with
      | none=>rw [e1] at h4; simp at h4
      | some t1 =>
        rw [e0] at h3; rw [e1] at h4
        simp only [Option.bind_some] at h3 h4
        cases u0:P.underlying t0 with
        | none=>rw [u0] at h3; simp at h3
        | some d0 =>
          cases u1:P.underlying t1 with
          | none=>rw [u1] at h4; simp at h4
          | some d1 =>
            rw [u0] at h3; rw [u1] at h4
            cases d0 <;> simp at h3
            cases d1 <;> simp at h4
            rw [h3] at u0
            rename_i k
            obtain ⟨i,hi,hs,hb,hp⟩:=infoOk_spec h5
            cases hz:zOf P T with
            | none=>rw [hz] at h6; simp at h6
            | some q =>
              rw [hz] at h6
              have:=veqL_sound h6
              subst this
              obtain ⟨zv,hz1,hz2⟩:=zOf_spec hi hz
              exact ⟨c,t0,t1,k,heq,hc,by rw [← Array.toArray_toList (xs:=c.args),hargs],e0,e1,u0,u1,⟨i,zv,hi,hs,hb,hp,hz1,hz2⟩,by simpa [Nat.beq_eq] using h7,by simpa [Nat.blt_eq] using h8⟩
  · cases h
theorem run_apz_room {P:Program} {w w':World} {t tx ty e:TypeId} {i:TypeInfo} {z:Value} {b off n0 cp n:Nat} {k kt:IntKind} {N:Int} {cs:List Value} (ht:P.underlying t=some (.slice e)) (hk:P.underlying tx=some (.int kt)) (hi:P.info? e=some i) (hz:i.zero=some z)
    (hN:0≤N) (hn:n=N.toNat) (hb:n*i.bytes≤281474976710656∧n≤9223372036854775807) (hroom:n0+n≤cp) (hnews:(Builtin.zeroCells z.cells n).toList=cs) (hnl:cs.length=n*i.size)
    (hst:(storeCells ⟨b,off+n0*i.size,none⟩ cs 0).run P w = .ok () w') :
    (Builtin.append_ #[t,tx] ty #[.slice (some ⟨b,off,none⟩) n0 cp,.int k N]).run P w = .ok (.slice (some ⟨b,off,none⟩) (n0+n) cp) w':=by
  obtain rfl:N=((n:Nat):Int):=by omega
  have hw:IntKind.i64.wrap (n:Int)=n:=by rw [IntKind.wrap_i64]; omega
  have h1 : ¬ ((n:Int)<0):=by omega
  have h2 : ¬ (281474976710656<(n:Int)*(i.bytes:Int)):=by rw [← Int.natCast_mul]; omega
  by_cases h0:n*i.size=0
  · have:cs = []:=List.eq_nil_of_length_eq_zero (by rw [hnl,h0])
    subst this
    have hst':w'=w:=by simpa [storeCells] using hst.symm
    subst hst'
    simp [Builtin.append_,run_underlying ht,run_underlying hk,sizeOf,typeInfo,hi,asInt,asIntOf,hw,h1,h2,h0,hroom,storeCells]
  · simp [Builtin.append_,run_underlying ht,run_underlying hk,sizeOf,typeInfo,zeroValue,hz,hi,asInt,asIntOf,hw,h1,h2,h0,hroom,Addr.add_lit,hnews,hst]
theorem run_apz_grow {P:Program} {w:World} {t tx ty e:TypeId} {i:TypeInfo} {z:Value} {n:Nat} {k kt:IntKind} {N:Int} (ht:P.underlying t=some (.slice e)) (hk:P.underlying tx=some (.int kt)) (hi:P.info? e=some i) (hz:i.zero=some z)
    (hN:0≤N) (hn:n=N.toNat) (hb:n*i.bytes≤281474976710656∧n≤9223372036854775807) (base:Option Addr) (sLen sCap:Nat) (olds:List Value)
    (hold:(Builtin.firstCells i.size sLen (.slice base sLen sCap)).run P w.drew = .ok olds.toArray w.drew) (news:List Value) (hnews:(Builtin.zeroCells z.cells n).toList=news) (h0 : ¬ (n*i.size=0))
    (hg:sCap<sLen+n) (h63:((sLen+n:Nat):Int)≤9223372036854775807) (hfit:Builtin.nextslicecap (sLen+n) sCap*i.bytes≤281474976710656) :
    (Builtin.append_ #[t,tx] ty #[.slice base sLen sCap,.int k N]).run P w =
      .ok (.slice (some ⟨w.heap.size,0,none⟩) (sLen+n) (grownCap w (sLen+n) sCap e))
        (w.drew.alloc (.cells ((olds++news).toArray++Builtin.zeroCells z.cells (grownCap w (sLen+n) sCap e-(sLen+n))) e)):=by
  obtain rfl:N=((n:Nat):Int):=by omega
  have hw:IntKind.i64.wrap (n:Int)=n:=by rw [IntKind.wrap_i64]; omega
  have h1 : ¬ ((n:Int)<0):=by omega
  have h2 : ¬ (281474976710656<(n:Int)*(i.bytes:Int)):=by rw [← Int.natCast_mul]; omega
  have hn' : ¬ (sLen+n≤sCap):=by omega
  have h63' : ¬ (9223372036854775807<((sLen:Int)+(n:Int))):=by omega
  have h48' : ¬ (281474976710656<Builtin.nextslicecap (sLen+n) sCap*i.bytes):=by omega
  have e:Builtin.zeroCells z.cells n=news.toArray:=by rw [← hnews]
  simp [Builtin.append_,run_underlying ht,run_underlying hk,sizeOf,typeInfo,zeroValue,hz,hi,asInt,asIntOf,hw,h1,h2,h0,hn',h63',h48',Question.forced,hold,newRow,grownCap,e]
  congr 2
  apply Array.ext'
  simp [List.append_assoc]
theorem ef_apz {d:Nat} {T T':TypeId} {w bytes:Nat} {z:List Seg} {x y:Operand} {b off n0 cp n:Nat} {ky:IntKind} {N:Int} {cs:List Value} {segs:List Seg}
    (hx:ev t x=some (.slice (some ⟨b,off,none⟩) n0 cp)) (hb:Has b (.cells (cells segs).toArray T' (0,0)) m) (hy:ev t y=some (.int ky N)) (hN:0≤N) (hn:n=N.toNat) (hcs:cs=(List.replicate n (cells z)).flatten) (hone : ∀ u∈cells z,one1 u=true)
    (hfit:off+cp*w≤width segs) (hn0:n0≤cp) (hsz:(n0+n)*bytes≤140737488355328)
    (room:n0+n≤cp→∃ segs' m',cells segs'=splice (cells segs) (off+n0*w) cs∧Upd b (.cells (cells segs).toArray T' (0,0)) (.cells (cells segs').toArray T' (0,0)) m m'∧K ((d,.slice (some ⟨b,off,none⟩) (n0+n) cp)::t) m')
    (grow:cp<n0+n→∀ b' cp',C.W0.heap.size≤b'→n0+n≤cp'→∃ segs',cells segs'=((cells segs).drop off).take (n0*w)++cs++(List.replicate (cp'-(n0+n)) (cells z)).flatten∧K ((d,.slice (some ⟨b',0,none⟩) (n0+n) cp')::t) (ck b' T segs'::m)) :
    EF C m t (some d) (.apz T w bytes z x y) K:=by
  intro o ho hd a ha wd hw
  obtain ⟨hd1,hd2⟩:=okD_some hd
  obtain ⟨c,ty,tx,kt,heq,hc,hargs,ht,htx,hu,hk,⟨i,zv,hi,hsz',hby,hpos,hz1,hz2⟩,hwz,hw0⟩:=okOp_apz ho
  have hmul:(n0+n)≤(n0+n)*bytes:=Nat.le_mul_of_pos_right _ hpos
  have hzl:(cells z).length=w:=by rw [cells_length]; exact hwz
  have hnl:cs.length=n*w:=by rw [hcs]; simp [hzl]
  have hone' : ∀ u∈cs,one1 u=true:=by
    intro u hu'
    rw [hcs,List.mem_flatten] at hu'
    obtain ⟨l,hl,hul⟩:=hu'
    obtain ⟨_,rfl⟩:=List.mem_replicate.1 hl
    exact hone u hul
  have hnews:(Builtin.zeroCells zv.cells n).toList=cs:=by rw [hz2,zeros_rep (by rw [hzl]; exact hw0),hcs]
  have hnb:n*bytes≤140737488355328:=by rw [Nat.add_mul] at hsz; omega
  have hrun : ∀ {r:Result Value},(Builtin.append_ c.argTypes o.type #[.slice (some ⟨b,off,none⟩) n0 cp,.int ky N]).run C.P wd=r→(execOp a.eval o).run C.P wd=r.andThen fun v w=>.ok (.value v) w:=by
    intro r hr
    simp only [execOp,heq,resolve,hc,Sem.run_bind,Sem.run_pure,Result.andThen_ok,invoke,builtin,hargs,List.map_toArray,List.map_cons,List.map_nil,ha.ev hx,ha.ev hy,hr]
  have hat:Builtin.append_ c.argTypes o.type #[.slice (some ⟨b,off,none⟩) n0 cp,.int ky N]=Builtin.append_ #[ty,tx] o.type #[.slice (some ⟨b,off,none⟩) n0 cp,.int ky N]:=by
    simp [Builtin.append_,ht,htx]
  by_cases hroom:n0+n≤cp
  · obtain ⟨segs',m',e1,hup,hK⟩:=room hroom
    have hle:n0*w+n*w≤cp*w:=by rw [← Nat.add_mul]; exact Nat.mul_le_mul_right _ hroom
    have hup':Upd b (.cells (cells segs).toArray T' (0,0)) (.cells (splice (cells segs) (off+n0*w+0) cs).toArray T' (0,0)) m m':=by rw [Nat.add_zero,← e1]; exact hup
    obtain ⟨w',hst,hw'⟩:=run_storeCells (P:=C.P) cs (off+n0*w) 0 (cells segs) m m' wd hw hup' (by rw [cells_length,hnl]; omega) hone'
    have hr:(Builtin.append_ #[ty,tx] o.type #[.slice (some ⟨b,off,none⟩) n0 cp,.int ky N]).run C.P wd = .ok (.slice (some ⟨b,off,none⟩) (n0+n) cp) w':=by
      subst hsz'
      exact run_apz_room (k:=ky) hu hk hi hz1 hN hn (by rw [hby]; omega) hroom hnews hnl hst
    rw [← hat] at hr
    have h2:=hrun hr
    unfold Oper.wp
    rw [h2,Result.andThen_ok]
    simp only [Oper.upon]
    exact ⟨_,m',hK,hd1▸ha.put hd2 _,hw'⟩
  · have hg:cp<n0+n:=by omega
    have hold:(Builtin.firstCells i.size n0 (.slice (some ⟨b,off,none⟩) n0 cp)).run C.P wd.drew = .ok (((cells segs).drop off).take (n0*i.size)).toArray wd.drew:=by
      have hle:n0*w≤cp*w:=Nat.mul_le_mul_right _ hn0
      have:=run_first (P:=C.P) (w:=wd.drew) (b:=b) (off:=off) (size:=w) (n:=n0) (l:=n0) (c:=cp) (cs:=((cells segs).drop off).take (n0*w)) (by simp [cells_length]; omega) (fun i hi=>by
        rw [cells_load ((show Sat C.W0 C.S m wd.drew from hw.drew).own _ hb.mem),List.getElem?_take_of_lt hi,List.getElem?_drop]) (Nat.le_refl n0)
      rw [hsz',this,List.take_take,Nat.min_self]
    have hfit':Builtin.nextslicecap (n0+n) cp*i.bytes≤281474976710656:=by rw [hby]; exact growslice_fits hg hsz
    have hr:=run_apz_grow (k:=ky) (P:=C.P) (w:=wd) (t:=ty) (tx:=tx) (ty:=o.type) (e:=T) (i:=i) (z:=zv) hu hk hi hz1 hN hn (by rw [hby]; omega) (some ⟨b,off,none⟩) n0 cp _ hold cs hnews (by rw [hsz']; exact Nat.pos_iff_ne_zero.1 (Nat.mul_pos (by omega) hw0)) hg (by omega) hfit'
    rw [← hat] at hr
    have h2:=hrun hr
    unfold Oper.wp
    rw [h2,Result.andThen_ok]
    simp only [Oper.upon]
    have hge:=grownCap_ge wd (n0+n) cp T
    obtain ⟨segs',e1,hK⟩:=grow hg wd.heap.size (grownCap wd (n0+n) cp T) hw.fr.size hge
    refine ⟨_,_,hK,hd1▸ha.put hd2 _,?_⟩
    have ha2:=hw.drew.alloc (.cells ((((cells segs).drop off).take (n0*i.size)++cs).toArray++Builtin.zeroCells zv.cells (grownCap wd (n0+n) cp T-(n0+n))) T)
    have e2:((((cells segs).drop off).take (n0*i.size)++cs).toArray++Builtin.zeroCells zv.cells (grownCap wd (n0+n) cp T-(n0+n)))=(cells segs').toArray:=by
      rw [e1,hsz',hz2]
      apply Array.ext'
      rw [Array.toList_append,zeros_rep (by rw [cells_length,hwz]; exact hw0)]
    rw [e2]
    rw [e2] at ha2
    exact ha2
theorem ef_apz0 {d:Nat} {T:TypeId} {w bytes:Nat} {z:List Seg} {x y:Operand} {n:Nat} {ky:IntKind} {N:Int} {cs:List Value}
    (hx:ev t x=some (.slice none 0 0)) (hy:ev t y=some (.int ky N)) (hN:0≤N) (hn:n=N.toNat) (hcs:cs=(List.replicate n (cells z)).flatten) (hone : ∀ u∈cells z,one1 u=true) (hsz:n*bytes≤140737488355328)
    (none_:n=0→K ((d,.slice none 0 0)::t) m)
    (grow:0<n→∀ b' cp',C.W0.heap.size≤b'→n≤cp'→∃ segs',cells segs'=cs++(List.replicate (cp'-n) (cells z)).flatten∧K ((d,.slice (some ⟨b',0,none⟩) n cp')::t) (ck b' T segs'::m)) :
    EF C m t (some d) (.apz T w bytes z x y) K:=by
  intro o ho hd a ha wd hw
  obtain ⟨hd1,hd2⟩:=okD_some hd
  obtain ⟨c,ty,tx,kt,heq,hc,hargs,ht,htx,hu,hk,⟨i,zv,hi,hsz',hby,hpos,hz1,hz2⟩,hwz,hw0⟩:=okOp_apz ho
  have hmul:n≤n*bytes:=Nat.le_mul_of_pos_right _ hpos
  have hzl:(cells z).length=w:=by rw [cells_length]; exact hwz
  have hnl:cs.length=n*w:=by rw [hcs]; simp [hzl]
  have hone' : ∀ u∈cs,one1 u=true:=by
    intro u hu'
    rw [hcs,List.mem_flatten] at hu'
    obtain ⟨l,hl,hul⟩:=hu'
    obtain ⟨_,rfl⟩:=List.mem_replicate.1 hl
    exact hone u hul
  have hnews:(Builtin.zeroCells zv.cells n).toList=cs:=by rw [hz2,zeros_rep (by rw [hzl]; exact hw0),hcs]
  have hnb:n*bytes≤140737488355328:=hsz
  have hrun : ∀ {r:Result Value},(Builtin.append_ c.argTypes o.type #[.slice none 0 0,.int ky N]).run C.P wd=r→(execOp a.eval o).run C.P wd=r.andThen fun v w=>.ok (.value v) w:=by
    intro r hr
    simp only [execOp,heq,resolve,hc,Sem.run_bind,Sem.run_pure,Result.andThen_ok,invoke,builtin,hargs,List.map_toArray,List.map_cons,List.map_nil,ha.ev hx,ha.ev hy,hr]
  have hat:Builtin.append_ c.argTypes o.type #[.slice none 0 0,.int ky N]=Builtin.append_ #[ty,tx] o.type #[.slice none 0 0,.int ky N]:=by
    simp [Builtin.append_,ht,htx]
  by_cases hroom:n=0
  · have hK:=none_ hroom
    have hr:(Builtin.append_ #[ty,tx] o.type #[.slice none 0 0,.int ky N]).run C.P wd = .ok (.slice none 0 0) wd:=by
      subst hsz'
      have hN0:N=0:=by omega
      have hw:IntKind.i64.wrap 0=0:=by decide
      subst hN0
      simp [Builtin.append_,run_underlying hu,run_underlying hk,sizeOf,typeInfo,hi,asInt,asIntOf,hw]
    rw [← hat] at hr
    have h2:=hrun hr
    unfold Oper.wp
    rw [h2,Result.andThen_ok]
    simp only [Oper.upon]
    exact ⟨_,m,hK,hd1▸ha.put hd2 _,hw⟩
  · have hg:0<0+n:=by omega
    have hold:(Builtin.firstCells i.size 0 (.slice none 0 0)).run C.P wd.drew = .ok ([]:List Value).toArray wd.drew:=by simpa using run_firstCells_none (P:=C.P) wd.drew i.size 0 0 0
    have hfit':Builtin.nextslicecap (0+n) 0*i.bytes≤281474976710656:=by rw [hby]; exact growslice_fits hg (by simpa using hsz)
    have hr:=run_apz_grow (k:=ky) (P:=C.P) (w:=wd) (t:=ty) (tx:=tx) (ty:=o.type) (e:=T) (i:=i) (z:=zv) hu hk hi hz1 hN hn (by rw [hby]; omega) none 0 0 _ hold cs hnews (by rw [hsz']; exact Nat.pos_iff_ne_zero.1 (Nat.mul_pos (by omega) hw0)) hg (by omega) hfit'
    simp only [Nat.zero_add,List.nil_append] at hr
    rw [← hat] at hr
    have h2:=hrun hr
    unfold Oper.wp
    rw [h2,Result.andThen_ok]
    simp only [Oper.upon]
    have hge:=grownCap_ge wd n 0 T
    obtain ⟨segs',e1,hK⟩:=grow (by omega) wd.heap.size (grownCap wd n 0 T) hw.fr.size hge
    refine ⟨_,_,hK,hd1▸ha.put hd2 _,?_⟩
    have ha2:=hw.drew.alloc (.cells (cs.toArray++Builtin.zeroCells zv.cells (grownCap wd n 0 T-n)) T)
    have e2:(cs.toArray++Builtin.zeroCells zv.cells (grownCap wd n 0 T-n))=(cells segs').toArray:=by
      rw [e1,hz2]
      apply Array.ext'
      rw [Array.toList_append,zeros_rep (by rw [cells_length,hwz]; exact hw0)]
    rw [e2]
    rw [e2] at ha2
    exact ha2
end
section
variable {α:Type} {C:Cfg} {m:List Chunk} {t:TS} {K:KN} {E:El α} {v:Value} {xs:List α}
theorem ef_apzO {d:Nat} {T:TypeId} {bytes:Nat} {z:List Seg} {x y:Operand} {ms mr:List Chunk} {ky:IntKind} {N:Int} {xs':List α} (e:xs'=xs++List.replicate N.toNat E.z) (hx:ev t x=some v) (hO:OwnSl E v ms xs) (hT:Take ms m mr) (hy:ev t y=some (.int ky N)) (hN:decide (0≤N)=true) (hz:cells z=E.cell E.z)
    (hsz:decide ((xs.length+N.toNat)*bytes≤140737488355328)=true) (h : ∀ v' ms',OwnSl E v' ms' xs'→K ((d,v')::t) (ms'++mr)):EF C m t (some d) (.apz T E.w bytes z x y) K:=by
  subst e
  have hsz:=of_decide_eq_true hsz
  intro o ho hd a ha w hw
  have hN:=of_decide_eq_true hN
  have hzw:width z=E.w:=by rw [← cells_length,hz,E.len]
  have hone : ∀ u∈cells z,one1 u=true:=by rw [hz]; exact E.one _
  generalize hys:List.replicate N.toNat E.z=ys
  rw [hys] at h
  have hyl:ys.length=N.toNat:=by rw [← hys,List.length_replicate]
  have hcs:cellsOf E ys=(List.replicate ys.length (cells z)).flatten:=by
    rw [hyl,← rows_const (w:=E.w) (by rw [cells_length]; exact hzw),cellsOf,hyl]
    apply rows_congr
    intro i hi
    simp only [rowE]
    rw [← hys,hz]
    simp [List.getD,List.getElem?_replicate,hi]
  rw [← hyl] at hsz
  refine EF.perm hT.perm (EF.less (?_:EF C (ms++mr) t (some d) (.apz T E.w bytes z x y) _)) o ho hd a ha w hw
  rcases hO with ⟨h1,h2,h3⟩ | ⟨b,o1,cp,T',cs,h1,h2,h3,h4,h5⟩
  · subst h1; subst h2; subst h3
    refine ef_apz0 hx hy hN hyl hcs hone (by simpa using hsz) (fun h0=>?_) (fun h0 b' cp' hb' hc'=>?_)
    · have hys:ys = []:=List.eq_nil_of_length_eq_zero h0
      subst hys
      exact ⟨_,h _ _ own_nil,List.Sublist.refl _⟩
    · refine ⟨(cellsOf E ys++(List.replicate (cp'-ys.length) (cells z)).flatten).map Seg.one,cells_ones _,?_⟩
      refine ⟨_,h _ [⟨b',_⟩] (.inr ⟨b',0,cp',T,_,by simp,by simpa using hc',rfl,?_,?_⟩),List.Sublist.refl _⟩
      · rw [width_ones,List.length_append,cellsOf_length]
        simp only [List.length_flatten,List.map_replicate,List.sum_replicate_nat,cells_length,hzw,Nat.zero_add]
        rw [← Nat.add_mul]
        exact Nat.mul_le_mul_right _ (by omega)
      · intro i hi j hj
        simp only [List.nil_append] at hi ⊢
        have:i*E.w+E.w≤ys.length*E.w:=by rw [← Nat.succ_mul]; exact Nat.mul_le_mul_right _ hi
        rw [cells_ones,Nat.zero_add,List.getElem?_append_left (by rw [cellsOf_length]; omega),cellsOf_get hi hj]
  · subst h1; subst h3
    refine ef_apz hx Has.here hy hN hyl hcs hone h4 h2 hsz (fun hr=>?_) (fun hg b' cp' hb' hc'=>?_)
    · have hle:(xs.length+ys.length)*E.w≤cp*E.w:=Nat.mul_le_mul_right _ hr
      rw [Nat.add_mul] at hle
      have hin:o1+xs.length*E.w+(cellsOf E ys).length≤(cells cs).length:=by rw [cellsOf_length,cells_length]; omega
      refine ⟨(splice (cells cs) (o1+xs.length*E.w) (cellsOf E ys)).map Seg.one,[⟨b,.cells (cells ((splice (cells cs) (o1+xs.length*E.w) (cellsOf E ys)).map Seg.one)).toArray T' (0,0)⟩]++mr,cells_ones _,Upd.here,?_⟩
      refine ⟨_,h _ _ (.inr ⟨b,o1,cp,T',_,by simp,by simpa using hr,rfl,?_,?_⟩),List.Sublist.refl _⟩
      · rw [width_ones,splice,List.length_append,List.length_append,List.length_take,List.length_drop]
        rw [cells_length] at hin ⊢; omega
      · intro i hi j hj
        rw [cells_ones,splice_get hin,cellsOf_length]
        rw [List.length_append] at hi
        by_cases hil:i<xs.length
        · have:i*E.w+E.w≤xs.length*E.w:=by rw [← Nat.succ_mul]; exact Nat.mul_le_mul_right _ hil
          rw [if_neg (by omega),getD_app1 hil,h5 i hil j hj]
        · have e1:i*E.w=xs.length*E.w+(i-xs.length)*E.w:=by rw [← Nat.add_mul]; congr 1; omega
          have:(i-xs.length)*E.w+E.w≤ys.length*E.w:=by rw [← Nat.succ_mul]; exact Nat.mul_le_mul_right _ (by omega)
          rw [if_pos (by omega),getD_app2 (by omega),show o1+(i*E.w+j)-(o1+xs.length*E.w)=(i-xs.length)*E.w+j by omega,cellsOf_get (by omega) hj]
    · have hle:xs.length*E.w≤cp*E.w:=Nat.mul_le_mul_right _ h2
      have hl1:(((cells cs).drop o1).take (xs.length*E.w)).length=xs.length*E.w:=by rw [List.length_take,List.length_drop,cells_length]; omega
      refine ⟨(((cells cs).drop o1).take (xs.length*E.w)++cellsOf E ys++(List.replicate (cp'-(xs.length+ys.length)) (cells z)).flatten).map Seg.one,cells_ones _,?_⟩
      refine ⟨_,h _ [⟨b',_⟩] (.inr ⟨b',0,cp',T,_,by simp,by simpa using hc',rfl,?_,?_⟩),List.Sublist.cons₂ _ (List.sublist_cons_self _ _)⟩
      · rw [width_ones,List.length_append,List.length_append,hl1,cellsOf_length]
        simp only [List.length_flatten,List.map_replicate,List.sum_replicate_nat,cells_length,hzw,Nat.zero_add]
        rw [← Nat.add_mul,← Nat.add_mul]
        exact Nat.mul_le_mul_right _ (by omega)
      · intro i hi j hj
        rw [List.length_append] at hi
        rw [cells_ones,Nat.zero_add]
        by_cases hil:i<xs.length
        · have:i*E.w+E.w≤xs.length*E.w:=by rw [← Nat.succ_mul]; exact Nat.mul_le_mul_right _ hil
          rw [List.append_assoc,List.getElem?_append_left (by rw [hl1]; omega),List.getElem?_take_of_lt (by omega),List.getElem?_drop,h5 i hil j hj,getD_app1 hil]
        · have e1:i*E.w=xs.length*E.w+(i-xs.length)*E.w:=by rw [← Nat.add_mul]; congr 1; omega
          have:(i-xs.length)*E.w+E.w≤ys.length*E.w:=by rw [← Nat.succ_mul]; exact Nat.mul_le_mul_right _ (by omega)
          rw [List.append_assoc,List.getElem?_append_right (by rw [hl1]; omega),hl1,List.getElem?_append_left (by rw [cellsOf_length]; omega),getD_app2 (by omega),show i*E.w+j-xs.length*E.w=(i-xs.length)*E.w+j by omega,cellsOf_get (by omega) hj]
theorem q_idxf {len w:Nat} {x i:Operand} {k k':IntKind} {ys:List Int} {z:Int} (h:ev t x=some (agg [.ints k (len*w) ys])) (hi:ev t i=some (.int k' z)) (hz:0≤z∧z<len) :
    Q1 C m t (.idx len w true x i) (agg [.ints k w (tk ys (z.toNat*w) w)]):=by
  intro o ho a ha wd hw
  obtain ⟨T,e,heq,hu,hs,hag⟩:=okOp_idx ho
  refine quiet_val ?_
  simp only [execOp,heq,ha.ev h,ha.ev hi]
  refine run_v ?_
  simp only [Instr.index,agg,asIntOf,Sem.run_bind,Sem.run_pure,run_underlying hu,Result.andThen_ok,hz,and_self,if_true,run_sizeOf hs]
  refine run_part hs hag (fun _=>?_) (fun h=>by cases h)
  congr 2
  have hlt:z.toNat<len:=by omega
  have hle:z.toNat*w+w≤len*w:=by rw [← Nat.succ_mul]; exact Nat.mul_le_mul_right w hlt
  simp only [cells,Seg.cells,List.append_nil]
  rw [ints_part (by omega)]
  rw [ints_tk,tk_all (tk_length _ _ _)]
def isNilV:Value→Bool
  | .slice none _ _=>true
  | _=>false
theorem rd_view {β:Type} {E':El β} {v':Value} {ys:List β} (h : ∀ W,RdSl E' W v' ys→RdSl E W v xs) (hs:SrcM C m E' v' ys):SrcM C m E v xs:=fun w hw=>h w (hs w hw)
theorem view_nil {β:Type} {E':El β} {v':Value} {ys:List β} : ∀ W,RdSl E' W v' ys→RdSl E W (.slice none 0 0) []:=fun _ _=>rd_nil
theorem q_ldxz {x:Operand} {b p base i len:Nat} {T:TypeId} {fz:Nat×Nat} {s:List Seg} {k:IntKind} {ys:List Int} {z:Int} (e:z=ys.getD i 0) (hx:ev t x=some (.pointer (some ⟨b,p,none⟩))) (hb:Has b (.cells (cells s).toArray T fz) m)
    (hs:segAt s base=some (.ints k len ys)) (hp:p=base+i) (hi:decide (i<len)=true):Q1 C m t (.ld 1 false x) (.int k z):=e▸q_ldx hx hb hs hp (of_decide_eq_true hi)
theorem ef_stxz {x y:Operand} {b p base i len:Nat} {T:TypeId} {s q:List Seg} {k:IntKind} {ys ys':List Int} {z:Int} {m':List Chunk} (e:ys'=setD ys i z) (hx:ev t x=some (.pointer (some ⟨b,p,none⟩))) (hy:ev t y=some (.int k z))
    (hs:segAt s base=some (.ints k len ys)) (hp:p=base+i) (hi:decide (i<len)=true) (hq:segSet s base (.ints k len ys')=some q)
    (hup:Upd b (.cells (cells s).toArray T (0,0)) (.cells (cells q).toArray T (0,0)) m m') (h:K t m'):EF C m t none (.st 1 x y) K:=by
  subst e; exact ef_stx hx hy hs hp (of_decide_eq_true hi) hq hup h
def addOk (x y c:Int):Bool:=decide (0≤x)&&decide (0≤y)&&decide (0≤c)&&decide (c≤1)
def addLo (x y c:Int):Int:=(x+y+c)%18446744073709551616
def addHi (x y c:Int):Int:=(x+y+c) / 18446744073709551616
theorem xadd {P:Program} {x y c l h:Int} (hl:l=addLo x y c) (hh:h=addHi x y c) (hk:addOk x y c=true) (w:World):(add64Entry #[.int .u64 x,.int .u64 y,.int .u64 c]).run P w = .ok (.tuple #[.int .u64 l,.int .u64 h]) w:=by
  subst hl; subst hh
  simp [addOk] at hk
  exact run_add64 x y c hk.1.1.1 hk.1.1.2 hk.1.2 hk.2 w
def subOk (x y c:Int):Bool:=decide (0≤x)&&decide (0≤y)&&decide (y<18446744073709551616)&&decide (0≤c)&&decide (c≤1)
def subLo (x y c:Int):Int:=(x-y-c)%18446744073709551616
def subHi (x y c:Int):Int:=if x<y+c then 1 else 0
theorem xsub {P:Program} {x y c l h:Int} (hl:l=subLo x y c) (hh:h=subHi x y c) (hk:subOk x y c=true) (w:World):(sub64Entry #[.int .u64 x,.int .u64 y,.int .u64 c]).run P w = .ok (.tuple #[.int .u64 l,.int .u64 h]) w:=by
  subst hl; subst hh
  simp [subOk] at hk
  exact run_sub64 x y c hk.1.1.1.1 hk.1.1.1.2 hk.1.1.2 hk.1.2 hk.2 w
def IsSl (v:Value):Prop:=∃ a n c,v = .slice a n c
theorem RdSl.isSl {W:World} (h:RdSl E W v xs):IsSl v:=by
  rcases h with ⟨h1,_⟩ | ⟨b,o,cp,h1,_,_⟩ | ⟨_,h1,_⟩
  · exact ⟨_,_,_,h1⟩
  · exact ⟨_,_,_,h1⟩
  · exact ⟨_,_,_,h1⟩
theorem OwnSl.isSl {ms:List Chunk} (h:OwnSl E v ms xs):IsSl v:=by
  rcases h with ⟨h1,_⟩ | ⟨b,o,cp,_,_,h1,_⟩
  · exact ⟨_,_,_,h1⟩
  · exact ⟨_,_,_,h1⟩
theorem IsSl.cells {u:Value} (h:IsSl u):u.cells = #[u]:=by obtain ⟨a,n,c,rfl⟩:=h; rfl
abbrev SlT:=Option Addr×Nat×Nat
def slV (x:SlT):Value:=.slice x.1 x.2.1 x.2.2
def unS:Value→SlT
  | .slice a n c=>(a,n,c)
  | _=>(none,0,0)
theorem slV_un {u:Value} (h:IsSl u):slV (unS u)=u:=by obtain ⟨a,n,c,rfl⟩:=h; rfl
abbrev El.sl:El SlT:=⟨1,fun x=>[slV x],fun _=>rfl,fun _ v h=>by simp at h; subst h; rfl,by decide,(none,0,0)⟩
theorem sl_cell {u:Value} (h:IsSl u):Go.Sx.cells [.one u]=El.sl.cell (unS u):=by simp only [Go.Sx.cells,Seg.cells]; rw [slV_un h]; rfl
inductive RdAll (E:El α) (W:World):List SlT→List (List α)→Prop
  | nil:RdAll E W [] []
  | cons {u:SlT} {us:List SlT} {ys:List α} {yss:List (List α)}:RdSl E W (slV u) ys→RdAll E W us yss→RdAll E W (u::us) (ys::yss)
theorem RdAll.len {W:World} {us:List SlT} {yss:List (List α)} (h:RdAll E W us yss):us.length=yss.length:=by
  induction h with
  | nil=>rfl
  | cons _ _ ih=>simp [ih]
theorem RdAll.get {W:World} {us:List SlT} {yss:List (List α)} (h:RdAll E W us yss) : ∀ i,i<yss.length→RdSl E W (slV (us.getD i (none,0,0))) (yss.getD i []):=by
  induction h with
  | nil=>intro i hi; simp at hi
  | cons h1 _ ih =>
    intro i hi
    cases i with
    | zero=>simpa using h1
    | succ i=>simpa using ih i (by simpa using hi)
theorem rd_unS {W:World} {u:Value} (h:RdSl E W u xs):RdSl E W (slV (unS u)) xs:=by rw [slV_un h.isSl]; exact h
theorem all_len {W:World} {us:List SlT} {yss:List (List α)} (h:RdAll E W us yss) {z:Int} (hz:inB z yss.length=true):inB z us.length=true:=by rw [h.len]; exact hz
def Shp (v:Value) (n:Nat):Prop:=(v = .slice none 0 0∧n=0)∨(∃ b o cp,v = .slice (some ⟨b,o,none⟩) n cp∧n≤cp) ∨ ∃ a,v = .slice (some a) 0 0∧n=0
theorem Shp.rd {W:World} (h:RdSl E W v xs):Shp v xs.length:=by
  rcases h with ⟨h1,h2⟩ | ⟨b,o,cp,h1,h2,_⟩ | ⟨a3,h1,h2⟩
  · exact .inl ⟨h1,by rw [h2]; rfl⟩
  · exact .inr (.inl ⟨b,o,cp,h1,h2⟩)
  · exact .inr (.inr ⟨a3,h1,by rw [h2]; rfl⟩)
theorem Shp.own {ms:List Chunk} (h:OwnSl E v ms xs):Shp v xs.length:=by
  rcases h with ⟨h1,h2,_⟩ | ⟨b,o,cp,_,_,h1,h2,_⟩
  · exact .inl ⟨h1,by rw [h2]; rfl⟩
  · exact .inr (.inl ⟨b,o,cp,h1,h2⟩)
theorem Shp.nil:Shp (.slice none 0 0) 0:=.inl ⟨rfl,rfl⟩
theorem Shp.blk {b base lo hi mz w n:Nat} (h:lo≤hi∧hi≤mz) (hn:n=hi-lo):Shp (.slice (some (slAddr b base lo mz w)) (hi-lo) (mz-lo)) n:=by
  subst hn
  unfold slAddr
  split
  · exact .inr (.inl ⟨_,_,_,rfl,by omega⟩)
  · exact .inr (.inl ⟨_,_,_,rfl,by omega⟩)
theorem Shp.cut {w:Nat} {lz hz:Int} (h:Shp v xs.length) (hb:cutB lz hz xs.length=true):Shp (cutSl w v lz.toNat hz.toNat) ((xs.drop lz.toNat).take (hz.toNat-lz.toNat)).length:=by
  have hb:=cutB_z hb
  have hlen:((xs.drop lz.toNat).take (hz.toNat-lz.toNat)).length=hz.toNat-lz.toNat:=by rw [List.length_take,List.length_drop]; omega
  rw [hlen]
  rcases h with ⟨h1,h2⟩ | ⟨b,o,cp,h1,h2⟩ | ⟨a3,h1,h2⟩
  · subst h1; exact .inl ⟨rfl,by omega⟩
  rotate_left 1
  · subst h1
    have e1:lz.toNat=0:=by omega
    have e2:hz.toNat=0:=by omega
    rw [e1,e2,cutSl_odd]
    exact .inr (.inr ⟨a3,rfl,rfl⟩)
  · subst h1
    simp only [cutSl]
    exact Shp.blk (by omega) rfl
theorem Shp.isSl {n:Nat} (h:Shp v n):IsSl v:=by
  rcases h with ⟨h1,_⟩ | ⟨b,o,cp,h1,_⟩ | ⟨_,h1,_⟩
  · exact ⟨_,_,_,h1⟩
  · exact ⟨_,_,_,h1⟩
  · exact ⟨_,_,_,h1⟩
theorem Shp.notnil {n:Nat} (h:Shp v n) (h0:decide (0<n)=true):isNilV v=false:=by
  have h0:=of_decide_eq_true h0
  rcases h with ⟨_,h2⟩ | ⟨b,o1,cp,h1,_⟩ | ⟨_,_,h2⟩
  · omega
  · subst h1; rfl
  · omega
theorem q_lenP {x:Operand} {n:Nat} (hx:ev t x=some v) (h:Shp v n):Q1 C m t (.len x) (.int .i64 n):=by
  rcases h with ⟨h1,h2⟩ | ⟨b,o1,cp,h1,h2⟩ | ⟨a3,h1,h2⟩
  · subst h1; subst h2; exact q_len hx
  rotate_left 1
  · subst h1; subst h2; exact q_len hx
  · subst h1; exact q_len hx
theorem q_iasP {w n:Nat} {x i:Operand} {k:IntKind} {z:Int} (hx:ev t x=some v) (hi:ev t i=some (.int k z)) (h:Shp v n) (hz:inB z n=true) :
    Q1 C m t (.ias w x i) (.pointer (some ⟨(slBase v).block,(slBase v).off+z.toNat*w,none⟩)):=by
  have hz':=inB_z hz
  rcases h with ⟨h1,h2⟩ | ⟨b,o1,cp,h1,h2⟩ | ⟨_,_,h2⟩
  · omega
  rotate_left 1
  · omega
  · subst h1; exact q_ias hx hi hz'
theorem q_s2aP {n k:Nat} {x:Operand} (hx:ev t x=some v) (h:Shp v k) (h0:0<n) (hn:decide (n≤k)=true):Q1 C m t (.s2a n x) (.pointer (some ⟨(slBase v).block,(slBase v).off,none⟩)):=by
  have hn:=of_decide_eq_true hn
  rcases h with ⟨h1,h2⟩ | ⟨b,o1,cp,h1,h2⟩ | ⟨_,_,h2⟩
  · omega
  rotate_left 1
  · omega
  · subst h1; exact q_s2a hx hn
theorem q_slsP {w n:Nat} {x:Operand} {lo hi:Option Operand} {lz hz:Int} (hx:ev t x=some v) (h:Shp v n) (hl:OptI t 0 lo lz) (hh:OptI t n hi hz) (hb:cutB lz hz n=true) :
    Q1 C m t (.sls w x lo hi none) (cutSl w v lz.toNat hz.toNat):=by
  have hb:=cutB_z hb
  rcases h with ⟨h1,h2⟩ | ⟨b,o1,cp,h1,h2⟩ | ⟨a3,h1,h2⟩
  · subst h1; subst h2
    exact q_sls0 (mz:=0) hx hl hh .no (by simp) (by omega)
  rotate_left 1
  · subst h1; subst h2
    have e1:lz.toNat=0:=by omega
    have e2:hz.toNat=0:=by omega
    rw [e1,e2,cutSl_odd]
    exact q_slsE hx hl hh (by omega)
  · subst h1
    have:=q_sls (C:=C) (m:=m) (w:=w) (mz:=cp) hx hl hh .no (by simp) (by omega)
    simpa [cutSl] using this
theorem q_isnP {neg:Bool} {x:Operand} {c:Bool} {n:Nat} (hx:ev t x=some v) (h:Shp v n) (hc:isNilV v=c):Q1 C m t (.isn neg x) (.bool (bif neg then !c else c)):=by
  subst hc
  rcases h with ⟨h1,h2⟩ | ⟨b,o1,cp,h1,h2⟩ | ⟨a3,h1,h2⟩
  · subst h1; exact q_isn hx
  · subst h1; exact q_isn hx
  · subst h1; exact q_isn hx
theorem len_nlP {n k:Nat} {op:IOp} (q:Q1 C m t op (.int .i64 n)) (h:n=k):Q1 C m t op (.int .i64 k):=h▸q
end
section
variable {C:Cfg} {m:List Chunk} {t:TS} {K:KN} {α:Type} {E:El α} {v:Value} {xs:List α}
theorem slBase_pre {w L n:Nat} (h:Shp v L):slBase (cutSl w v 0 n)=slBase v:=by
  rcases h with ⟨h1,h2⟩ | ⟨b,o,cp,h1,h2⟩ | ⟨a,h1,h2⟩
  · subst h1; rfl
  · subst h1
    simp only [cutSl,slBase,slAddr]
    split <;> simp
  · subst h1
    obtain ⟨b,o,sp⟩:=a
    cases sp with
    | none=>simp [cutSl,slBase,slAddr]
    | some k=>rfl
theorem pre_n {n:Int} {L:Nat} (h:cutB 0 n L=true):0≤n∧n≤L:=by have:=cutB_z h; omega
theorem shp_pre {w L:Nat} {n:Int} (h:Shp v L) (hb:cutB 0 n L=true):Shp (cutSl w v 0 n.toNat) n.toNat:=by
  have hb:=pre_n hb
  rcases h with ⟨h1,h2⟩ | ⟨b,o,cp,h1,h2⟩ | ⟨a,h1,h2⟩
  · subst h1; exact .inl ⟨rfl,by omega⟩
  · subst h1
    simp only [cutSl]
    exact Shp.blk (by omega) rfl
  · subst h1
    have e2:n.toNat=0:=by omega
    rw [e2,cutSl_odd]
    exact .inr (.inr ⟨a,rfl,rfl⟩)
theorem q_lenU {w L:Nat} {x:Operand} {n:Int} (hx:ev t x=some (cutSl w v 0 n.toNat)) (hs:Shp v L) (hb:cutB 0 n L=true):Q1 C m t (.len x) (.int .i64 n):=by
  have h:=q_lenP (C:=C) (m:=m) hx (shp_pre (w:=w) hs hb)
  have e:((n.toNat:Nat):Int)=n:=by have:=pre_n hb; omega
  rw [e] at h
  exact h
theorem inB_up {z n:Int} {L:Nat} (hb:cutB 0 n L=true) (h:inB z n.toNat=true):inB z L=true:=by
  have:=pre_n hb
  have:=inB_z h
  simp [inB]; omega
theorem q_iasU {w L:Nat} {x i:Operand} {k:IntKind} {z n:Int} (hx:ev t x=some (cutSl w v 0 n.toNat)) (hi:ev t i=some (.int k z)) (hs:Shp v L) (hb:cutB 0 n L=true) (hz:inB z n.toNat=true) :
    Q1 C m t (.ias w x i) (.pointer (some ⟨(slBase v).block,(slBase v).off+z.toNat*w,none⟩)):=by
  have h:=q_iasP (C:=C) (m:=m) (w:=w) hx hi (shp_pre (w:=w) hs hb) hz
  rw [slBase_pre hs] at h
  exact h
theorem q_slsU {w L:Nat} {x:Operand} {lo hi:Option Operand} {n lz hz:Int} (hx:ev t x=some (cutSl w v 0 n.toNat)) (hs:Shp v L) (hn:cutB 0 n L=true) (hl:OptI t 0 lo lz) (hh:OptI t n hi hz) (hb:cutB lz hz L=true) :
    Q1 C m t (.sls w x lo hi none) (cutSl w v lz.toNat hz.toNat):=by
  have hn:=pre_n hn
  have hb:=cutB_z hb
  obtain ⟨k,rfl⟩ : ∃ k:Nat,n=(k:Int):=⟨n.toNat,by omega⟩
  rw [Int.toNat_natCast] at hx
  rcases hs with ⟨h1,h2⟩ | ⟨b,o1,cp,h1,h2⟩ | ⟨a,h1,h2⟩
  · subst h1; subst h2
    have e0:k=0:=by omega
    subst e0
    have hx':ev t x=some (.slice none 0 0):=hx
    exact q_sls0 (mz:=0) hx' hl hh .no (by simp) (by omega)
  · subst h1
    simp only [cutSl,Nat.sub_zero] at hx
    have ea:slAddr b o1 0 cp w=⟨b,o1,none⟩:=by
      unfold slAddr
      split <;> simp
    rw [ea] at hx
    have:=q_sls (C:=C) (m:=m) (w:=w) (mz:=cp) hx hl hh .no (by simp) (by omega)
    simpa [cutSl] using this
  · subst h1; subst h2
    have e0:k=0:=by omega
    subst e0
    rw [cutSl_odd] at hx
    have e1:lz.toNat=0:=by omega
    have e2:hz.toNat=0:=by omega
    rw [e1,e2,cutSl_odd]
    exact q_slsE hx hl hh (by omega)
theorem rd_pre {n:Int} (hs:SrcM C m E v xs) (hb:cutB 0 n xs.length=true):SrcM C m E (cutSl E.w v 0 n.toNat) (xs.take n.toNat):=by
  have h:=rd_cut (C:=C) (m:=m) (E:=E) (v:=v) (xs:=xs) (lz:=0) (hz:=n) hs hb
  simpa using h
theorem sat_own1 {W0:World} {S:List Nat} {w:World} (h:Sat W0 S m w) {ms mr:List Chunk} (hp:List.Perm (ms++mr) m):Sat w (ms.map (·.b)) (ms ++ []) w:=by
  rw [List.append_nil]; exact sat_own h hp
theorem wc_br {β:Type} {r:β} {a b:Option β} {c:Bool} {x:Operand} {p q:IC} {kn:KN} {ke:KE} (h:br c a b=some r) (hx:ev t x=some (.bool c)) (ht:a=some r→WC C p t m kn ke) (hf:b=some r→WC C q t m kn ke) :
    WC C (.cond x p q) t m kn ke:=wc_if hx (fun e=>ht (br_t h e)) (fun e=>hf (br_f h e))
end
section
variable {α β:Type} {r:β} {G:Prop}
theorem bH {x:α} {f:α→Option β} (h:bnd x f=some r) (k : ∀ z,z=x→f z=some r→G):G:=bnd_i k h
theorem cH {c:Bool} {o:Option β} (h:chk c o=some r) (k:c=true→o=some r→G):G:=chk_i k h
theorem oH {o:Option α} {f:α→Option β} (h:opt o f=some r) (k : ∀ y,o=some y→f y=some r→G):G:=opt_i k h
theorem jH {K:Type} {k:K} {g:K→Option β} (h:jn k g=some r) (q : ∀ k',k'=k→g k'=some r→G):G:=jn_i q h
end
instance (n:Nat):OfNat Operand n:=⟨.tmp n⟩
abbrev oj (d:Nat) (i:IOp):J:=.op ⟨some d,none,i⟩
abbrev on_ (i:IOp):J:=.op ⟨none,none,i⟩
abbrev oi (d:Nat) (i:IOp):IOpr:=⟨some d,none,i⟩
abbrev oe (i:IOp):IOpr:=⟨none,none,i⟩
abbrev ci (n:Int):Operand:=.const (.int .i64 n)
abbrev cu (n:Int):Operand:=.const (.int .u64 n)
theorem wj_m {C : Cfg} {m : List Chunk} {t : TS} {kn : KN} {x : Operand} {d : Nat} {r : List J} {v : Value} (h1 : ev t x = some v) (h : WJ C r ((d, v) :: t) m kn) : WJ C (.op ⟨some d, none, .mv x⟩ :: r) t m kn := wj_q v (q_mv h1) h
theorem q_cl {C : Cfg} {m : List Chunk} {t : TS} {f : FuncId} {args : List Operand} {vs : List Value} {v : Value} (ha : evL t args = some vs) (h : ∀ {w : World}, Calls C.P f vs.toArray w (ret1 w v)) : Q1 C m t (.call f args) v := q_call ha fun _ _ => h
abbrev Z5 : Seg := .ints .u64 5 (List.replicate 5 0)
abbrev Z10 : Seg := .ints .u64 10 (List.replicate 10 0)
abbrev OL := Option (List Int)
end Go.Sx
