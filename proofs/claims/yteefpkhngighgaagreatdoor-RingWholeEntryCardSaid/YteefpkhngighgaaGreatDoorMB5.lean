/- Texts of a proof, one behind the other: T3 T2 L12 L13 L14 L15 LZ F0 F1 F2 F3 F4 F5. -/
import Derived.Test.YteefpkhngighgaaGreatDoorMB4
namespace Go.Proofs.YteefpkhngighgaaGreatDoor
open Go Go.Sx Go.RowKit
set_option linter.all false
set_option maxHeartbeats 400000
set_option maxRecDepth 100000
section
variable {α β:Type} {L:α->List Seg} {F:Nat}
theorem Zlh {i:Nat} (h:i<=1000):(((i+1:Nat):Int))=IntKind.wrap .i64 ((i:Int)+1):=by rw [IntKind.wrap_i64]; omega
def Zpf (L:α->List Seg) (W:World) (v:Value) (dom:Int) (fs:List (Zag α)):Prop:=∃ (u:Value) (B:List Ze) (vs:List Cl4),v=agg [.one (.int .i64 dom),.one u]/\Z6m E4 W u vs/\Zbv B W/\Z90 L B vs fs
theorem Zpf.still {W0 w:World} {m:List Ze} {v:Value} {dom:Int} {fs:List (Zag α)} (h:Zpf L W0 v dom fs) (hw:Sat W0 [] m w):Zpf L w v dom fs:=by
  obtain ⟨u,B,vs,h1,h2,h3,h4⟩:=h
  exact ⟨u,B,vs,h1,h2.below hw.now,h3.still0 hw,h4⟩
def RC (L:α->List Seg) (dom:Int) (fs:List (Zag α)) (v:Value) (Ms:List Pc):Prop:=∃ (u:Value) (M B:List Ze) (vs:List Cl4),v=agg [.one (.int .i64 dom),.one u]/\Ms = [.all M,.all B]/\Z09 E4 u M vs/\Z90 L B vs fs
def RL (L:α->List Seg) (fs:List (Zag α)) (v:Value) (Ms:List Pc):Prop:=∃ (M B:List Ze) (vs:List Cl4),Ms = [.all M,.all B]/\Z09 E4 v M vs/\Z90 L B vs fs
theorem RC.form {dom:Int} {fs:List (Zag α)} {u:Value} {M B:List Ze} {vs:List Cl4} {W0 w:World} {S:List Nat} {m m1 m2:List Ze} (h1:Z09 E4 u M vs) (h2:Z90 L B vs fs) (hw:Sat W0 S m w) (t1:Ze2 M m m1) (t2:Ze2 B m m2) :
    Zpf L w (agg [.one (.int .i64 dom),.one u]) dom fs:=⟨u,B,vs,rfl,Z6m.own h1 (hw.take t1),Zbv.take hw t2,h2⟩
theorem Zj9 {B:List Ze}:Zo3 (B ++ []) B:=by
  rw [List.append_nil]
  induction B with
  | nil=>exact .nil
  | cons c B ih=>exact .one .here ih
def Z2q (fs:List (Zag α)) (s:Bool) (x:α):Bool:=fs.all fun f => !((f.sgn || !s) && !f.may x)
theorem Zkl {fs:List (Zag α)} {s:Bool} {x:α} {i:Nat} (h:i<fs.length):Z2q (fs.drop i) s x=(!(((fs.getD i fz).sgn || !s) && !(fs.getD i fz).may x)&&Z2q (fs.drop (i+1)) s x):=by
  unfold Z2q
  rw [List.drop_eq_getElem_cons h,List.all_cons]
  simp [List.getD_eq_getElem?_getD,h]
def Zzq (tf tc:Nat):FnD:=⟨30,[.tmp 6],.seq (.ops [oj 3 (.bx tf 0),oj 6 (.mv (.const (.bool false)))]) (.seq (.seq (.ops [oj 9 (.fa 1 3),oj 10 (.ld 1 false 9),oj 11 (.len 10),oj 12 (.mv (ci 0))]) (.block 0 (.loop
  (.seq (.ops [oj 13 (.bin .lss 12 11)]) (.seq (.cond 13 .skip (.exit 0)) (.seq (.block 1 (.seq (.ops [oj 14 (.ias 4 10 12),oj 15 (.ld 4 true 14),oj 8 (.al tc zF),on_ (.st 4 8 15)]) (.seq (.ops [oj 16 (.fa 3 8),oj 17 (.ld 1 false 16),oj 18 (.mv 17),
    .lg true 18 21 none [oG 19 18 false (.mv 2),oG 20 18 false (.un .not 19)] 20,oj 22 (.mv 21),.lg false 22 28 none [oG 23 22 true (.fa 2 8),oG 24 22 true (.ld 1 false 23),oG 25 22 true (.mv 1),oG 26 22 true (.cv 24 [25]),oG 27 22 true (.un .not 26)] 27])
    (.cond 28 (.seq (.ops [oj 6 (.mv (.const (.bool false)))]) .ret) .skip)))) (.ops [oj 29 (.bin .add 12 (ci 1)),oj 12 (.mv 29)]))))))) (.seq (.ops [oj 6 (.mv (.const (.bool true)))]) .ret))⟩
theorem Zts {tf tc:Nat} {W:World} {v:Value} {dom:Int} {fs:List (Zag α)} {b:Nat} {x:α} {s:Bool} (ok:okF Tryz.prog F (Zzq tf tc)=true) (hF:Zpf L W v dom fs) (hm:Mem W b 0 (L x)) (hlen:fs.length<=1000) :
    Calls Tryz.prog F [v,pt0 b,.bool s].toArray W (Z3c W (.bool (Z2q fs s x))):=by
  obtain ⟨u,B,vs,rfl,hR,hH,hf⟩:=hF
  have hl:=hf.len
  refine Za mo ok rfl ?_
  refine Z0<|Z1<|Zc (Z06 (s:=[.one (.int .i64 dom),.one u]) rfl fun b3 _=>Z4 _ (Z04 rfl)<|Z2<|Z0<|Z0<|Z1<|Z4 _ (Z1v rfl)<|Z4 _ (Z0p rfl .here rfl)<|Z4 _ (Z5j rfl (Shp.rd hR))<|Z4 _ (Z04 rfl)<|Z2 <|
    Zo (G:=fun t m=>Z2q fs s x=true/\Fit [] [] t m) ?_ ?_)
  · refine Zd<|Z07 (fun n t m=>∃ i:Nat,i<=fs.length/\n=fs.length-i/\Z2q (fs.drop i) s x=Z2q fs s x/\Fit [(1,pt0 b),(2,.bool s),(10,u),(11,.int .i64 (vs.length:Nat)),(12,.int .i64 (i:Nat))] [] t m) fs.length ?_ ?_
    · exact ⟨0,Nat.zero_le _,rfl,rfl,⟨⟨rfl,rfl,rfl,rfl,rfl,trivial⟩,.nil⟩⟩
    · rintro n t m ⟨i,hi,rfl,he,hFit⟩
      refine Zm hFit ?_
      clear hFit
      refine Z0<|Z1<|Z4 _ (Zb rfl rfl rfl)<|Z2<|Z0<|Zzf (c:=decide ((i:Int)<(vs.length:Nat))) rfl (fun hc=>?_) (fun hc=>?_)
      · have hi2:i<fs.length:=by simp at hc; omega
        have hz:inB (i:Int) vs.length=true:=by simp [inB]; omega
        have fM:=hf.get (i:Int).toNat (by simpa using hi2)
        have hfM:(fs.getD (i:Int).toNat fz)=fs.getD i fz:=by simp
        have hsg:(vs.getD (i:Int).toNat E4.z).2.2.2=(fs.getD (i:Int).toNat fz).sgn:=fM.2.2
        obtain ⟨xv,hxv⟩ : ∃ xv,xv=vs.getD (i:Int).toNat E4.z:=⟨_,rfl⟩
        obtain ⟨f,hff⟩ : ∃ f,f=fs.getD (i:Int).toNat fz:=⟨_,rfl⟩
        rw [<- hff] at hfM hsg fM
        rw [<- hxv] at hsg fM
        refine Zn<|Z0<|Zd<|Z0<|Z1<|Z4 _ (Z7u rfl rfl (Shp.rd hR) hz)<|Z4 (agg (Z1o xv)) (by rw [hxv]; exact Zyh (E:=E4) (s:=Z1o (vs.getD (i:Int).toNat E4.z)) rfl (Z1m hR Z1u) (Z1i hz) rfl rfl) <|
          Zc (Zu fun b8 _=>Zc (Zl (p:=Z1o xv) (q:=Z1o xv) rfl rfl rfl rfl rfl .here<|Z2<|Z0<|Z1<|Z4 _ (Z1v rfl)<|Z4 _ (Z0p rfl .here rfl)<|Z4 _ (Z04 rfl) <|
          Zex (v := !s) rfl rfl rfl (fun _=>Z27 rfl _ (Z04 rfl) (Z27 rfl _ (Zmv rfl rfl) Z28)) (fun _=>rfl) rfl<|Z4 _ (Z04 rfl) <|
          Zjm (v := !f.may x) rfl rfl rfl (fun _=>Z27 rfl _ (Z1v rfl) (Z27 rfl _ (Z0p rfl .here rfl) (Z27 rfl _ (Z04 rfl) (Z27 rfl _ (Zgr (caps:=xv.2.2.1.2) fM.2.1.1 rfl rfl (fun w hw=>fM.2.1.2 w b x (hH.still0 hw) (Z6w hm (by simp) hw))) (Z27 rfl _ (Zmv rfl rfl) Z28))))) (fun _=>rfl) rfl <|
          Z2<|Zzf (c:=(xv.2.2.2 || !s) && !f.may x) rfl (fun h2=>?_) (fun h2=>?_)))
        · refine Z0<|Z1<|Z4 _ (Z04 rfl)<|Z2<|Zf ⟨_,.cons (.tmp rfl) .nil,?_⟩
          rw [<- he,Zkl hi2,<- hfM,<- hsg,h2]; rfl
        · refine Zn<|Z1<|Z4 _ (iz (Zlh (by omega)) (Zb rfl rfl rfl))<|Z4 _ (Z04 rfl)<|Z2 ?_
          refine ⟨fs.length-(i+1),by omega,i+1,by omega,rfl,?_,⟨⟨rfl,rfl,rfl,rfl,rfl,trivial⟩,.nil⟩⟩
          rw [<- he,Zkl hi2,<- hfM,<- hsg,h2]; rfl
      · have hi2:i=fs.length:=by simp at hc; omega
        refine Z0l _ rfl<|⟨?_,⟨trivial,.nil⟩⟩
        rw [<- he,hi2,List.drop_length]; rfl
  · rintro t m ⟨h,hF⟩
    refine Zm hF ?_
    exact Z0<|Z1<|Z4 _ (Z04 rfl)<|Z2<|Zf ⟨_,.cons (.tmp rfl) .nil,by rw [h]; rfl⟩
def Zcv:List (Zag α)->Bool->Zt->α->Option Zt
  | [],_,w,_=>some w
  | f::r,s,w,x=>opt (br (f.sgn || !s) (f.put w x) (some w)) fun w=>Zcv r s w x
theorem Zpz {fs:List (Zag α)} {s:Bool} {x:α} {p:Zt} {i:Nat} (h:i<fs.length):Zcv (fs.drop i) s p x=opt (br ((fs.getD i fz).sgn || !s) ((fs.getD i fz).put p x) (some p)) fun w=>Zcv (fs.drop (i+1)) s w x:=by
  rw [List.drop_eq_getElem_cons h]
  simp [Zcv,List.getD_eq_getElem?_getD,h]
def Zcu (fs:List (Zag α)) (dom:Int) (s:Bool) (x:α):Option (LI) :=
  opt Zb9 fun w=>opt (Zh7 dom) fun h=>opt (Z2y w h) fun w=>opt (Zcv fs s w x) fun w=>opt (Z4b w) fun d=>some d.1
def Zzp (tf tc:Nat):FnD:=⟨43,[.tmp 6],.seq (.ops [oj 3 (.bx tf 0),oj 6 (.mv (.const (.slice none 0 0)))]) (.seq (.ops [oj 12 (.call 200 []),oj 7 (.mv 12)]) (.seq (.ops [oj 13 (.mv 7),oj 14 (.fa 0 3),oj 15 (.ld 1 false 14),oj 16 (.call 201 [15]),oj 17 (.call 196 [13,16])])
  (.seq (.seq (.ops [oj 18 (.fa 1 3),oj 19 (.ld 1 false 18),oj 20 (.len 19),oj 21 (.mv (ci 0))]) (.block 0 (.loop
    (.seq (.ops [oj 22 (.bin .lss 21 20)]) (.seq (.cond 22 .skip (.exit 0)) (.seq (.block 1 (.seq (.ops [oj 23 (.ias 4 19 21),oj 24 (.ld 4 true 23),oj 9 (.al tc zF),on_ (.st 4 9 24)]) (.seq (.ops [oj 25 (.fa 3 9),oj 26 (.ld 1 false 25),oj 27 (.mv 26),
      .lg true 27 30 none [oG 28 27 false (.mv 2),oG 29 27 false (.un .not 28)] 29]) (.cond 30 (.ops [oj 31 (.fa 0 9),oj 32 (.ld 1 false 31),oj 33 (.mv 7),oj 34 (.mv 1),oj 35 (.cv 32 [33,34])]) .skip)))) (.ops [oj 36 (.bin .add 21 (ci 1)),oj 21 (.mv 36)])))))))
  (.seq (.ops [oj 38 (.mv 7),oj 39 (.call 202 [38]),oj 37 (.mv 39),oj 40 (.ext 37 0),oj 41 (.ext 37 1),oj 10 (.mv 40),oj 11 (.mv 41)]) (.seq (.ops [oj 42 (.mv 10),oj 6 (.mv 42)]) .ret)))))⟩
theorem Zsr {tf tc:Nat} {W:World} {v:Value} {dom:Int} {fs:List (Zag α)} {b:Nat} {x:α} {s:Bool} {r:LI} (ok:okF Tryz.prog F (Zzp tf tc)=true) (hF:Zpf L W v dom fs) (hm:Mem W b 0 (L x)) (hlen:fs.length<=1000) (h:Zcu fs dom s x=some r) :
    Calls Tryz.prog F [v,pt0 b,.bool s].toArray W (Z8e W [] (fun v Ms=>∃ (u0:Value) (M0:List Ze),v=u0/\Ms = [.all M0]/\Z09 (El.int .u8) u0 M0 r)):=by
  obtain ⟨u,B,vs,rfl,hR,hH,hf⟩:=hF
  have hl:=hf.len
  unfold Zcu at h
  refine Zs mo ok rfl (Zez _) ?_
  refine oH h fun y1 e1 h=>oH h fun y2 e2 h=>oH h fun y3 e3 h=>oH h fun q eq h=>oH h fun d ed h=>?_
  refine Z0<|Z1<|Zc (Z06 (s:=[.one (.int .i64 dom),.one u]) rfl fun b3 _=>Z4 _ (Z04 rfl)<|Z2<|Z0<|Z1<|Zc (Zk rfl (fun w hw=>Zim e1) fun v1 Ms1 R1=>?_))
  obtain ⟨bw,Tw,uw,Mw,rfl,rfl,O1⟩:=R1
  refine Z4 _ (Z04 rfl)<|Z2<|Z0<|Z1<|Z4 _ (Z04 rfl)<|Z4 _ (Z1v rfl)<|Z4 _ (Z0p rfl (.there (.app .here)) rfl)<|Zc (Zk rfl (fun w hw=>Zn6 e2) fun v2 Ms2 R2=>?_)
  obtain ⟨u2,M2,rfl,rfl,O2⟩:=R2
  refine Zc (Z2z (mS:=_::Mw) rfl (Zab (.app .here) (.app .here)) (fun w hw=>Z78 e3 (Z7f hw (Zab (.app .here) (.app .here))) O1 ⟨(Z0b O2 .here) w hw,(Zn9 (Zco (E:=(El.int .u8)) O2 .here .here hw) (Ze6 (E:=(El.int .u8)) O2 .here (.there .here) hw))⟩) fun v3 Ms3 R3=>?_)
  obtain ⟨u3,M3,rfl,rfl,O3⟩:=R3
  refine Z2<|Z0<|Z0<|Z1<|Z4 _ (Z1v rfl)<|Z4 _ (Z0p rfl (.there (.app (.app .here))) rfl)<|Z4 _ (Z5j rfl (Shp.rd hR))<|Z4 _ (Z04 rfl)<|Z2 <|
    Zo (G:=fun t m=>∃ (p:Value) (Mp:List Ze),Z09 (El.int .u8) p Mp q.gbytes/\Fit [(7,pt0 bw)] (wck bw Tw p q.gfault::(Mp ++ [])) t m) ?_ ?_
  · refine Zd<|Z07 (fun n t m=>∃ (i:Nat) (p:Zt) (up:Value) (Mp:List Ze),i<=fs.length/\n=fs.length-i/\Zcv (fs.drop i) s p x=some q/\Z09 (El.int .u8) up Mp p.gbytes /\
      Fit [(1,pt0 b),(2,.bool s),(7,pt0 bw),(19,u),(20,.int .i64 (vs.length:Nat)),(21,.int .i64 (i:Nat))] (wck bw Tw up p.gfault::(Mp ++ [])) t m) fs.length ?_ ?_
    · exact ⟨0,y3,u3,M3,Nat.zero_le _,rfl,eq,O3,⟨⟨rfl,rfl,rfl,rfl,rfl,rfl,trivial⟩,.one .here (.all .here .nil)⟩⟩
    · rintro n t m ⟨i,p,up,Mp,hi,rfl,he,Op,hFit⟩
      refine Zm hFit ?_
      clear hFit
      refine Z0<|Z1<|Z4 _ (Zb rfl rfl rfl)<|Z2<|Z0<|Zzf (c:=decide ((i:Int)<(vs.length:Nat))) rfl (fun hc=>?_) (fun hc=>?_)
      · have hi2:i<fs.length:=by simp at hc; omega
        have hz:inB (i:Int) vs.length=true:=by simp [inB]; omega
        have fM:=hf.get (i:Int).toNat (by simpa using hi2)
        have hfM:(fs.getD (i:Int).toNat fz)=fs.getD i fz:=by simp
        have hsg:(vs.getD (i:Int).toNat E4.z).2.2.2=(fs.getD (i:Int).toNat fz).sgn:=fM.2.2
        obtain ⟨xv,hxv⟩ : ∃ xv,xv=vs.getD (i:Int).toNat E4.z:=⟨_,rfl⟩
        obtain ⟨f,hff⟩ : ∃ f,f=fs.getD (i:Int).toNat fz:=⟨_,rfl⟩
        rw [<- hff] at hfM hsg fM
        rw [<- hxv] at hsg fM
        rw [Zpz hi2,<- hfM,<- hsg] at he
        refine oH he fun p2 ep he=>Zn<|Z0<|Zd<|Z0<|Z1<|Z4 _ (Z7u rfl rfl (Shp.rd hR) hz)<|Z4 (agg (Z1o xv)) (by rw [hxv]; exact Zyh (E:=E4) (s:=Z1o (vs.getD (i:Int).toNat E4.z)) rfl (Z1m hR Z1u) (Z1i hz) rfl rfl) <|
          Zc (Zu fun b8 _=>Zc (Zl (p:=Z1o xv) (q:=Z1o xv) rfl rfl rfl rfl rfl .here<|Z2<|Z0<|Z1<|Z4 _ (Z1v rfl)<|Z4 _ (Z0p rfl .here rfl)<|Z4 _ (Z04 rfl) <|
          Zex (v := !s) rfl rfl rfl (fun _=>Z27 rfl _ (Z04 rfl) (Z27 rfl _ (Zmv rfl rfl) Z28)) (fun _=>rfl) rfl<|Z2<|Z0r ep rfl (fun ep=>?_) (fun ep=>?_)))
        · refine Z1 <| Z4 _ (Z1v rfl) <| Z4 _ (Z0p rfl .here rfl) <| Z4 _ (Z04 rfl) <| Z4 _ (Z04 rfl) <| Zc (Zwp (mS := _ :: Mp) (caps := xv.1.2) fM.1.1 rfl rfl (Zab (.there .here) (.there .here)) (fun w hw => fM.1.2 w b x bw Tw up Mp p p2 ep (hH.still0 hw)
              (fun k hk=>by have:=Zs3 hw (hH.lt hk) (by simp); simp only [List.map_cons,List.mem_cons,List.append_nil,not_or] at this ⊢; exact ⟨this.2.1,this.2.2⟩) (Z6w hm (by simp) hw)
              (by have:=Zs3 hw hm.lt (by simp); simp only [List.map_cons,List.mem_cons,List.append_nil,not_or] at this ⊢; exact ⟨this.2.1,this.2.2⟩) (Z7f hw (Zab (.there .here) (.there .here))) Op) fun v4 Ms4 R4=>?_)
          obtain ⟨u4,M4,rfl,rfl,O4⟩:=R4
          refine Z2<|Z1<|Z4 _ (iz (Zlh (by omega)) (Zb rfl rfl rfl))<|Z4 _ (Z04 rfl)<|Z2 ?_
          exact ⟨fs.length-(i+1),by omega,i+1,p2,u4,M4,by omega,rfl,he,O4,⟨⟨rfl,rfl,rfl,rfl,rfl,rfl,trivial⟩,.one .here (.all .here .nil)⟩⟩
        · obtain rfl:p=p2:=Option.some.inj ep
          refine Zn<|Z1<|Z4 _ (iz (Zlh (by omega)) (Zb rfl rfl rfl))<|Z4 _ (Z04 rfl)<|Z2 ?_
          exact ⟨fs.length-(i+1),by omega,i+1,p,up,Mp,by omega,rfl,he,Op,⟨⟨rfl,rfl,rfl,rfl,rfl,rfl,trivial⟩,.one (.there .here) (.all (.there .here) .nil)⟩⟩
      · have hi2:i=fs.length:=by simp at hc; omega
        rw [hi2,List.drop_length] at he
        obtain rfl:p=q:=Option.some.inj he
        exact Z0l _ rfl<|⟨up,Mp,Op,⟨⟨rfl,trivial⟩,.one .here (.all .here .nil)⟩⟩
  · rintro t m ⟨p,Mp,Op,hF⟩
    refine Zm hF ?_
    refine Z0<|Z1<|Z4 _ (Z04 rfl)<|Zc (Z2z (mS:=_::Mp) rfl (Zab .here .here) (fun w hw=>Zh9 ed (Z7f hw (Zab .here .here)) Op) fun v4 Ms4 R4=>?_)
    obtain ⟨u4,M4,uw4,Mw4,rfl,rfl,O4,_⟩:=R4
    refine Z4 _ (Z04 rfl)<|Z4 _ (Z17 rfl rfl)<|Z4 _ (Z17 rfl rfl)<|Z4 _ (Z04 rfl)<|Z4 _ (Z04 rfl)<|Z2<|Z0<|Z1<|Z4 _ (Z04 rfl)<|Z4 _ (Z04 rfl)<|Z2<|Zf ?_
    obtain rfl:d.1=r:=Option.some.inj h
    exact ⟨_,_,.cons (.tmp rfl) .nil,.all .here .nil,⟨_,rfl,u4,M4,rfl,rfl,O4⟩⟩
def Zdv (fs:List (Zag α)) (dom:Int) (x:α):Option (LI×Int):=br (!Z2q fs false x) (some ([],2)) (opt (Zcu fs dom false x) fun b=>some (b,0))
def Zbz (fs:List (Zag α)) (dom:Int) (x:α):Option (LI):=br (!Z2q fs true x) (some []) (opt (Zcu fs dom true x) fun b=>some b)
def dEnc (tf tT R B:Nat):FnD:=⟨11,[.tmp 4,.tmp 5],.seq (.ops [oj 2 (.bx tf 0),oj 3 (.bx tT 1),oj 4 (.mv (.const (.slice none 0 0))),oj 5 (.mv (ci 0))]) (.seq (.seq (.ops [oj 6 (.ld 2 true 2),oj 7 (.call R [6,3,.const (.bool false)]),oj 8 (.un .not 7)])
  (.cond 8 (.seq (.ops [oj 4 (.mv (.const (.slice none 0 0))),oj 5 (.mv (ci 2))]) .ret) .skip)) (.seq (.ops [oj 9 (.ld 2 true 2),oj 10 (.call B [9,3,.const (.bool false)]),oj 4 (.mv 10),oj 5 (.mv (ci 0))]) .ret))⟩
abbrev REnc (r:LI×Int) (v:Value) (Ms:List Pc):Prop:=∃ (u0:Value) (M0:List Ze),v = .tuple #[u0,.int .i64 (r.2)]/\Ms = [.all M0]/\Z09 (El.int .u8) u0 M0 r.1
abbrev RSay (r:LI) (v:Value) (Ms:List Pc):Prop:=∃ (u0:Value) (M0:List Ze),v=u0/\Ms = [.all M0]/\Z09 (El.int .u8) u0 M0 r
theorem Z00c {tf tc tT R B:Nat} {W:World} {v:Value} {dom:Int} {fs:List (Zag α)} {x:α} {r:LI×Int} (ok:okF Tryz.prog F (dEnc tf tT R B)=true) (okR:okF Tryz.prog R (Zzq tf tc)=true) (okB:okF Tryz.prog B (Zzp tf tc)=true) (hF:Zpf L W v dom fs) (hlen:fs.length<=1000)
    (h:Zdv fs dom x=some r):Calls Tryz.prog F [v,agg (L x)].toArray W (Z8e W [] (REnc r)):=by
  have hF':=hF
  obtain ⟨u,B',vs,rfl,_⟩:=hF'
  unfold Zdv at h
  refine Zs mo ok rfl (Zez _) ?_
  refine Z0<|Z1<|Zc (Z06 (s:=[.one (.int .i64 dom),.one u]) rfl fun b2 _=>Zc (Z06 (s:=L x) rfl fun b3 _=>Z4 _ (Z04 rfl)<|Z4 _ (Z04 rfl)<|Z2<|Z0<|Z0<|Z1<|Z4 _ (Z00 (p:=[.one (.int .i64 dom),.one u]) rfl (.there .here) rfl) <|
    Z4 _ (Z0a rfl (fun w hw=>Zts (s:=false) (x:=x) okR (hF.still hw) (Zoo hw .here) hlen))<|Z4 _ (Zmv rfl rfl)<|Z2<|Z0r h rfl (fun h=>?_) (fun h=>?_)))
  · obtain rfl:=Option.some.inj h
    exact Z0<|Z1<|Z4 _ (Z04 rfl)<|Z4 _ (Z04 rfl)<|Z2<|Zf ⟨_,_,.cons (.tmp rfl) (.cons (.tmp rfl) .nil),.no .nil,⟨_,rfl,.slice none 0 0,[],rfl,rfl,Zao⟩⟩
  · refine oH h fun y ey h=>Zn<|Z0<|Z1<|Z4 _ (Z00 (p:=[.one (.int .i64 dom),.one u]) rfl (.there .here) rfl)<|Zc (Zk rfl (fun w hw=>Zsr okB (hF.still hw) (Zoo hw .here) hlen ey) fun v1 Ms1 R1=>?_)
    obtain ⟨u1,M1,rfl,rfl,O1⟩:=R1
    obtain rfl:=Option.some.inj h
    exact Z4 _ (Z04 rfl)<|Z4 _ (Z04 rfl)<|Z2<|Zf ⟨_,_,.cons (.tmp rfl) (.cons (.tmp rfl) .nil),.all .here .nil,⟨_,rfl,_,M1,rfl,rfl,O1⟩⟩
def dSay (tf tT R B:Nat):FnD:=⟨10,[.tmp 4],.seq (.ops [oj 2 (.bx tf 0),oj 3 (.bx tT 1),oj 4 (.mv (.const (.slice none 0 0)))]) (.seq (.seq (.ops [oj 5 (.ld 2 true 2),oj 6 (.call R [5,3,.const (.bool true)]),oj 7 (.un .not 6)])
  (.cond 7 (.seq (.ops [oj 4 (.mv (.const (.slice none 0 0)))]) .ret) .skip)) (.seq (.ops [oj 8 (.ld 2 true 2),oj 9 (.call B [8,3,.const (.bool true)]),oj 4 (.mv 9)]) .ret))⟩
theorem Z01r {tf tc tT R B:Nat} {W:World} {v:Value} {dom:Int} {fs:List (Zag α)} {x:α} {r:LI} (ok:okF Tryz.prog F (dSay tf tT R B)=true) (okR:okF Tryz.prog R (Zzq tf tc)=true) (okB:okF Tryz.prog B (Zzp tf tc)=true) (hF:Zpf L W v dom fs) (hlen:fs.length<=1000)
    (h:Zbz fs dom x=some r):Calls Tryz.prog F [v,agg (L x)].toArray W (Z8e W [] (RSay r)):=by
  have hF':=hF
  obtain ⟨u,B',vs,rfl,_⟩:=hF'
  unfold Zbz at h
  refine Zs mo ok rfl (Zez _) ?_
  refine Z0<|Z1<|Zc (Z06 (s:=[.one (.int .i64 dom),.one u]) rfl fun b2 _=>Zc (Z06 (s:=L x) rfl fun b3 _=>Z4 _ (Z04 rfl)<|Z2<|Z0<|Z0<|Z1<|Z4 _ (Z00 (p:=[.one (.int .i64 dom),.one u]) rfl (.there .here) rfl) <|
    Z4 _ (Z0a rfl (fun w hw=>Zts (s:=true) (x:=x) okR (hF.still hw) (Zoo hw .here) hlen))<|Z4 _ (Zmv rfl rfl)<|Z2<|Z0r h rfl (fun h=>?_) (fun h=>?_)))
  · obtain rfl:=Option.some.inj h
    exact Z0<|Z1<|Z4 _ (Z04 rfl)<|Z2<|Zf ⟨_,_,.cons (.tmp rfl) .nil,.no .nil,⟨_,rfl,.slice none 0 0,[],rfl,rfl,Zao⟩⟩
  · refine oH h fun y ey h=>Zn<|Z0<|Z1<|Z4 _ (Z00 (p:=[.one (.int .i64 dom),.one u]) rfl (.there .here) rfl)<|Zc (Zk rfl (fun w hw=>Zsr okB (hF.still hw) (Zoo hw .here) hlen ey) fun v1 Ms1 R1=>?_)
    obtain ⟨u1,M1,rfl,rfl,O1⟩:=R1
    obtain rfl:=Option.some.inj h
    exact Z4 _ (Z04 rfl)<|Z2<|Zf ⟨_,_,.cons (.tmp rfl) .nil,.all .here .nil,⟨_,rfl,_,M1,rfl,rfl,O1⟩⟩
def Zuo (tT w C E:Nat):FnD:=⟨9,[.tmp 2,.tmp 3],.seq (.ops [oj 1 (.bx tT 0),oj 2 (.mv (.const (.slice none 0 0))),oj 3 (.mv (ci 0))]) (.seq (.draw (.q [1] (oj 5 (.ld w true 1)) (.e 0 (oi 4 (.call C [])) (.e 2 (oi 6 (.call E [4,5])) (.p [3] (oj 7 (.ext 6 0)) (.p [4] (oj 8 (.ext 6 1)) (.p [5] (oj 2 (.mv 7)) (.p [6] (oj 3 (.mv 8)) .nil))))))) [2]) .ret)⟩
theorem Zgd {tf tc tT n C E R B:Nat} {W:World} {dom:Int} {fs:List (Zag α)} {x:α} {r:LI×Int} (ok:okF Tryz.prog F (Zuo tT n C E)=true) (okE:okF Tryz.prog E (dEnc tf tT R B)=true) (okR:okF Tryz.prog R (Zzq tf tc)=true) (okB:okF Tryz.prog B (Zzp tf tc)=true)
    (hC : ∀ W,Calls Tryz.prog C #[] W (Z8e W [] (RC L dom fs))) (hlen:fs.length<=1000) (hs:sub (L x) 0 n=some (L x)) (h:Zdv fs dom x=some r):Calls Tryz.prog F [agg (L x)].toArray W (Z8e W [] (REnc r)):=by
  refine Zs mo ok rfl (Zez _) ?_
  refine Z0<|Z1<|Zc (Z06 (s:=L x) rfl fun b1 _=>Z4 _ (Z04 rfl)<|Z4 _ (Z04 rfl)<|Z2<|Z0<|Zv<|Zh _ (Z00 (p:=L x) rfl .here hs)<|Z2u (Zk (vs:=[]) rfl (fun w hw=>hC w) fun v1 Ms1 R1=>?_))
  obtain ⟨u,M,B',vs,rfl,rfl,O1,hf⟩:=R1
  refine ⟨by repeat (first | exact Sup.refl _ | apply Sup.cons | apply Sup.app),Z1q rfl (Zk rfl (fun w hw=>Z00c okE okR okB (RC.form O1 hf hw .here (.app .here)) hlen h) fun v2 Ms2 R2=>?_)⟩
  obtain ⟨u2,M2,rfl,rfl,O2⟩:=R2
  exact Z6 _ (Z17 rfl rfl)<|Z6 _ (Z17 rfl rfl)<|Z6 _ (Z04 rfl)<|Z6 _ (Z04 rfl)<|Zy<|Zf ⟨_,_,.cons (.tmp rfl) (.cons (.tmp rfl) .nil),.all .here .nil,⟨_,rfl,u2,M2,rfl,rfl,O2⟩⟩
def Zwj (tT w C E:Nat):FnD:=⟨6,[.tmp 2],.seq (.ops [oj 1 (.bx tT 0),oj 2 (.mv (.const (.slice none 0 0)))]) (.seq (.draw (.q [1] (oj 4 (.ld w true 1)) (.e 0 (oi 3 (.call C [])) (.e 2 (oi 5 (.call E [3,4])) (.p [3] (oj 2 (.mv 5)) .nil)))) [2]) .ret)⟩
theorem Zje {tf tc tT n C E R B:Nat} {W:World} {dom:Int} {fs:List (Zag α)} {x:α} {r:LI} (ok:okF Tryz.prog F (Zwj tT n C E)=true) (okE:okF Tryz.prog E (dSay tf tT R B)=true) (okR:okF Tryz.prog R (Zzq tf tc)=true) (okB:okF Tryz.prog B (Zzp tf tc)=true)
    (hC : ∀ W,Calls Tryz.prog C #[] W (Z8e W [] (RC L dom fs))) (hlen:fs.length<=1000) (hs:sub (L x) 0 n=some (L x)) (h:Zbz fs dom x=some r):Calls Tryz.prog F [agg (L x)].toArray W (Z8e W [] (RSay r)):=by
  refine Zs mo ok rfl (Zez _) ?_
  refine Z0<|Z1<|Zc (Z06 (s:=L x) rfl fun b1 _=>Z4 _ (Z04 rfl)<|Z2<|Z0<|Zv<|Zh _ (Z00 (p:=L x) rfl .here hs)<|Z2u (Zk (vs:=[]) rfl (fun w hw=>hC w) fun v1 Ms1 R1=>?_))
  obtain ⟨u,M,B',vs,rfl,rfl,O1,hf⟩:=R1
  refine ⟨by repeat (first | exact Sup.refl _ | apply Sup.cons | apply Sup.app),Z1q rfl (Zk rfl (fun w hw=>Z01r okE okR okB (RC.form O1 hf hw .here (.app .here)) hlen h) fun v2 Ms2 R2=>?_)⟩
  obtain ⟨u2,M2,rfl,rfl,O2⟩:=R2
  exact Z6 _ (Z04 rfl)<|Zy<|Zf ⟨_,_,.cons (.tmp rfl) .nil,.all .here .nil,⟨_,rfl,_,M2,rfl,rfl,O2⟩⟩
variable {Lc:β->List Seg} {ms B:List Ze} {b1 b5 ta tc:Nat} {g:FuncId} {rest:α->List Seg} {inn:α->β}
def Zwh:FnD:=⟨13,[],.draw (.q [0] (oj 6 (.fa 0 2)) (.q [1] (oj 7 (.ld 1 false 6)) (.q [2] (oj 8 (.mv 0)) (.q [3] (oj 9 (.ld 1 false 3)) (.q [4] (oj 10 (.mv 1)) (.q [5] (oj 11 (.cv 9 [10])) (.e 6 (oi 12 (.cv 7 [8,11])) .nil))))))) [6]⟩
theorem Z05e {xv:Cl4} {put:Zt->β->Option Zt} (ok:okF Tryz.prog F Zwh=true) (hn:Z7d Tryz.prog F=true) (hat:AtF g 0) (hL : ∀ x,L x=Lc (inn x)++rest x) (hP:Zzn Lc B xv.1 put) (hB : ∀ k∈B,k∈ms)
    (h5:ck b5 tc (Z1o xv)∈ms) (h1:ck b1 ta [.one (clV (g,[]))]∈ms):Zzn L ms (F,[pt0 b5,pt0 b1]) (fun w x=>put w (inn x)):=by
  refine ⟨Z9q ok hn,fun W b x bw Tw vw Mw p r h hH hd hm hb h0 hO=>Zs mo ok rfl h0 ?_⟩
  have hm2:Mem W b 0 (Lc (inn x)):=Zxk (by rw [<- hL]; exact hm)
  refine Zv<|Zh _ (Z1v rfl)<|Zh _ (Zfn (o0:=0) (off:=0) rfl (hH.mem h5) (hd _ h5) rfl)<|Zh _ (Z04 rfl)<|Zh _ (Z7e rfl (Z3k (hH.cap h1) (hd _ h1)))<|Zh _ (Z04 rfl)<|Zh _ (Zgr (caps:=[]) hat.1 rfl rfl (fun w hw=>hat.2 w b)) <|
    Z1q rfl (Zwp (mS:=_::Mw) (caps:=xv.1.2) hP.1 rfl rfl (Zab .here .here) (fun w hw=>hP.2 w b (inn x) bw Tw vw Mw p r h ((hH.sub hB).still (C:=⟨Tryz.prog,13,W,bw::Mw.map (·.b)⟩) (fun k hk=>hd k (hB k hk)) hw) (fun k hk=>hd k (hB k hk)) (Z6w hm2 hb hw) hb (Z7f hw (Zab .here .here)) hO) fun v Ms hR=>Zy ?_)
  obtain ⟨uw,Mw',rfl,rfl,hO'⟩:=hR
  exact ⟨_,_,.nil,.one .here (.all .here .nil),⟨_,rfl,⟨uw,Mw',rfl,rfl,hO'⟩⟩⟩
def Zwg:FnD:=⟨11,[.tmp 4],.seq (.ops [oj 4 (.mv (.const (.bool false)))]) (.seq (.draw (.q [0] (oj 5 (.fa 2 1)) (.q [1] (oj 6 (.ld 1 false 5)) (.q [2] (oj 7 (.ld 1 false 2)) (.q [3] (oj 8 (.mv 0)) (.q [4] (oj 9 (.cv 7 [8])) (.q [5] (oj 10 (.cv 6 [9])) (.q [6] (oj 4 (.mv 10)) .nil))))))) []) .ret)⟩
theorem Z05d {xv:Cl4} {may:β->Bool} (ok:okF Tryz.prog F Zwg=true) (hn:Z7d Tryz.prog F=true) (hat:AtF g 0) (hL : ∀ x,L x=Lc (inn x)++rest x) (hP:Zzm Lc B xv.2.2.1 may) (hB : ∀ k∈B,k∈ms)
    (h5:ck b5 tc (Z1o xv)∈ms) (h1:ck b1 ta [.one (clV (g,[]))]∈ms):Zzm L ms (F,[pt0 b5,pt0 b1]) (fun x=>may (inn x)):=by
  refine ⟨Z9q ok hn,fun W b x hH hm=>Za mo ok rfl ?_⟩
  have hm2:Mem W b 0 (Lc (inn x)):=Zxk (by rw [<- hL]; exact hm)
  exact Z0<|Z1<|Z4 _ (Z04 rfl)<|Z2<|Z0<|Zv<|Zh _ (Z1v rfl)<|Zh _ (Zfn (o0:=0) (off:=2) rfl (hH.mem h5) (by simp) rfl)<|Zh _ (Z7e rfl (Z3k (hH.cap h1) (by simp)))<|Zh _ (Z04 rfl)<|Zh _ (Zgr (caps:=[]) hat.1 rfl rfl (fun w hw=>hat.2 w b)) <|
    Zh _ (Zgr (caps:=xv.2.2.1.2) hP.1 rfl rfl (fun w hw=>hP.2 w b (inn x) ((hH.sub hB).still0 hw) (Z6w hm2 (by simp) hw)))<|Zh _ (Z04 rfl)<|Zy<|Zf ⟨_,.cons (.tmp rfl) .nil,rfl⟩
def dInn (C ta tc te F1 F2 F3:Nat):FnD:=⟨22,[.tmp 2],.seq (.ops [oj 1 (.bx ta 0),oj 2 (.mv (.const (.slice none 0 0)))]) (.seq (.ops [oj 3 (.mv (.const (.slice none 0 0)))]) (.seq (.seq (.ops [oj 6 (.call C []),oj 7 (.fld 1 1 false 6),oj 8 (.len 7),oj 9 (.mv (ci 0))]) (.block 0 (.loop
  (.seq (.ops [oj 10 (.bin .lss 9 8)]) (.seq (.cond 10 .skip (.exit 0)) (.seq (.block 1 (.seq (.ops [oj 11 (.ias 4 7 9),oj 12 (.ld 4 true 11),oj 5 (.al tc zF),on_ (.st 4 5 12)]) (.ops [oj 13 (.mv 3),oj 14 (.mf F1 [5,1]),oj 15 (.mf F2 [5,1]),oj 16 (.mf F3 [5,1]),
    oj 17 (.bd zF [(0,1,14),(1,1,15),(2,1,16),(3,1,.const (.bool true))]),oj 18 (.bs te 1 4 zF [(0,4,17)]),oj 19 (.app te 4 32 zF 13 18),oj 3 (.mv 19)]))) (.ops [oj 20 (.bin .add 9 (ci 1)),oj 9 (.mv 20)]))))))) (.seq (.ops [oj 21 (.mv 3),oj 2 (.mv 21)]) .ret)))⟩
theorem Zok {C te F1 F2 F3:Nat} {dom:Int} {fs:List (Zag β)} (ok:okF Tryz.prog F (dInn C ta tc te F1 F2 F3)=true) (ok1:okF Tryz.prog F1 Zwh=true) (ok3:okF Tryz.prog F3 Zwg=true) (hn1:Z7d Tryz.prog F1=true) (hn3:Z7d Tryz.prog F3=true) (hat:AtF g 0) (hL : ∀ x,L x=Lc (inn x)++rest x)
    (hC : ∀ W,Calls Tryz.prog C #[] W (Z8e W [] (RC Lc dom fs))) (hlen:fs.length<=1000) (W:World):Calls Tryz.prog F [clV (g,[])].toArray W (Z8e W [] (RL L (fs.map (Zzv inn)))):=by
  refine Zs mo ok rfl (Zez _) ?_
  refine Z0<|Z1<|Zc (Zdf rfl rfl fun b1 _=>Z4 _ (Z04 rfl)<|Z2<|Z0<|Z1<|Z4 _ (Z04 rfl)<|Z2<|Z0<|Z0<|Z1<|Zc (Zk (vs:=[]) rfl (fun w hw=>hC w) fun v1 Ms1 R1=>?_))
  obtain ⟨u,M,B,vs,rfl,rfl,O1,hf⟩:=R1
  have hl:=hf.len
  refine Z4 _ (Z0e2 rfl rfl)<|Z4 _ (Z5j rfl (Shp.own O1))<|Z4 _ (Z04 rfl)<|Z2 <|
    Zo (G:=fun t m=>∃ (v:Value) (Y X:List Ze) (ys:List Cl4),Z09 E4 v Y ys/\Z90 L (X++(B ++ [ck b1 ta [.one (clV (g,[]))]])) ys (fs.map (Zzv inn))/\Fit [(3,v)] (Y++((X++(B ++ [ck b1 ta [.one (clV (g,[]))]])) ++ [])) t m) ?_ ?_
  · refine Zd<|Z07 (fun n t m=>∃ (i:Nat) (v:Value) (Y X:List Ze) (ys:List Cl4),i<=fs.length/\n=fs.length-i/\Z09 E4 v Y ys/\Z90 L (X++(B ++ [ck b1 ta [.one (clV (g,[]))]])) ys ((fs.take i).map (Zzv inn)) /\
      Fit [(1,pt0 b1),(3,v),(7,u),(8,.int .i64 (vs.length:Nat)),(9,.int .i64 (i:Nat))] (Y++(M++(X++(B++(ck b1 ta [.one (clV (g,[]))] :: []))))) t m) fs.length ?_ ?_
    · exact ⟨0,.slice none 0 0,[],[],[],Nat.zero_le _,rfl,Zao,.nil,⟨⟨rfl,rfl,rfl,rfl,rfl,trivial⟩,.no (.all .here (.no (.all .here (.one .here .nil))))⟩⟩
    · rintro n t m ⟨i,v,Y,X,ys,hi,rfl,O2,hys,hFit⟩
      refine Zm hFit ?_
      clear hFit
      have hyl:=hys.len
      rw [List.length_map,List.length_take] at hyl
      refine Z0<|Z1<|Z4 _ (Zb rfl rfl rfl)<|Z2<|Z0<|Zzf (c:=decide ((i:Int)<(vs.length:Nat))) rfl (fun hc=>?_) (fun hc=>?_)
      · have hi2:i<fs.length:=by simp at hc; omega
        have hz:inB (i:Int) vs.length=true:=by simp [inB]; omega
        have fM:=hf.get i hi2
        obtain ⟨xv,hxv⟩ : ∃ xv,xv=vs.getD (i:Int).toNat E4.z:=⟨_,rfl⟩
        rw [show vs.getD i E4.z=xv by rw [hxv]; simp] at fM
        refine Zn<|Z0<|Zd<|Z0<|Z1<|Z4 _ (Z7u rfl rfl (Shp.own O1) hz)<|Z4 (agg (Z1o xv)) (by rw [hxv]; exact Zyh (E:=E4) (s:=Z1o (vs.getD (i:Int).toNat E4.z)) rfl (Z0b O1 (.app .here)) (Z1i hz) rfl rfl) <|
          Zc (Zu fun b5 _=>Zc (Zl (p:=Z1o xv) (q:=Z1o xv) rfl rfl rfl rfl rfl .here<|Z2<|Z1<|Z4 _ (Z04 rfl)<|Z4 _ (Zqi rfl)<|Z4 _ (Zqi rfl)<|Z4 _ (Zqi rfl) <|
          Z4 _ (Zcd (q:=Z1o ((F1,[pt0 b5,pt0 b1]),(F2,[pt0 b5,pt0 b1]),(F3,[pt0 b5,pt0 b1]),true)) (.one rfl rfl rfl (.one rfl rfl rfl (.one rfl rfl rfl (.one rfl rfl rfl BdR.nil))))) <|
          Zc (Z54 (E:=E4) (xs:=[((F1,[pt0 b5,pt0 b1]),(F2,[pt0 b5,pt0 b1]),(F3,[pt0 b5,pt0 b1]),true)]) (.agg rfl rfl rfl BdR.nil) (.cons (p:=Z1o ((F1,[pt0 b5,pt0 b1]),(F2,[pt0 b5,pt0 b1]),(F3,[pt0 b5,pt0 b1]),true)) rfl .nil) rfl fun v3 ms3 O3 =>
          Zc (Z9r (E:=E4) (xs':=ys ++ [((F1,[pt0 b5,pt0 b1]),(F2,[pt0 b5,pt0 b1]),(F3,[pt0 b5,pt0 b1]),true)]) rfl rfl O2 (.app (.there .here)) rfl (Z0b O3 .here) (by rw [decide_eq_true_iff]; simp only [List.length_singleton]; omega) fun v4 ms4 O4=>Z4 _ (Z04 rfl)<|Z2 <|
          Z1<|Z4 _ (iz (Zlh (by omega)) (Zb rfl rfl rfl))<|Z4 _ (Z04 rfl)<|Z2 ?_))))
        refine ⟨fs.length-(i+1),by omega,i+1,v4,ms4,ck b5 tc (Z1o xv)::X,_,by omega,rfl,O4,?_,⟨⟨rfl,rfl,rfl,rfl,rfl,trivial⟩,?_⟩⟩
        · rw [List.take_add_one,List.getElem?_eq_getElem hi2,List.map_append]
          refine (hys.mono fun k hk=>List.mem_cons_of_mem _ hk).app ?_
          rw [show List.map (Zzv (α:=α) inn) (some fs[i]).toList = [Zzv inn (fs.getD i fz)] by simp [List.getD_eq_getElem?_getD,hi2]]
          exact .cons ⟨Z05e (tc:=tc) (ta:=ta) (Lc:=Lc) (inn:=inn) (put:=(fs.getD i fz).put) (xv:=xv) ok1 hn1 hat hL fM.1 (fun k hk=>by simp [hk]) (by simp) (by simp),Z05d (tc:=tc) (ta:=ta) (Lc:=Lc) (inn:=inn) (may:=(fs.getD i fz).may) (xv:=xv) ok3 hn3 hat hL fM.2.1 (fun k hk=>by simp [hk]) (by simp) (by simp),rfl⟩ .nil
        · exact .all .here (.all (.app (.there .here)) (.one (.app .here) (.all (.app .here) (.all (.app .here) (.one (.app .here) .nil)))))
      · have hi2:i=fs.length:=by simp at hc; omega
        rw [hi2,List.take_length] at hys
        exact Z0l _ rfl<|⟨v,Y,X,ys,O2,hys,⟨⟨rfl,trivial⟩,by
          rw [List.append_assoc,List.append_assoc]
          exact .all .here (.all (.app .here) (.all (.app .here) (.one (.app .here) .nil)))⟩⟩
  · rintro t m ⟨v,Y,X,ys,O2,hys,hF⟩
    refine Zm hF ?_
    exact Z0<|Z1<|Z4 _ (Z04 rfl)<|Z4 _ (Z04 rfl)<|Z2<|Zf ⟨_,_,.cons (.tmp rfl) .nil,.all .here (.all .here .nil),⟨_,rfl,Y,_,ys,rfl,O2,hys⟩⟩
end
structure Z0j where
 gCert:Zx
 gIndex:Int
 gValue:LI
 gFrozen:Bool
 gFreeze:LI
 gRevoked:Bool
 gRevoke:LI
def zFs:Nat->List Seg
 | 0=>[]
 | n+1=>.one .nilFunc :: .one .nilFunc :: .one .nilFunc :: .one (.bool false)::zFs n
abbrev Ze1:Zx->List Seg:=fun x=>[.one (.int .i64 (x.gSerial)),.one (.int .i64 (x.gRides)),.one (.int .i64 (x.gPrice)),.ints .u8 32 (x.gAnchor),.ints .u8 64 (x.gSig)]
theorem ok90:okF Tryz.prog 90 (dLim 3 189)=true:=by kernel_rfl
theorem Z0dk:okF Tryz.prog 189 (Z007)=true:=by kernel_rfl
theorem Z0d7:Z7d Tryz.prog 189=true:=by kernel_rfl
theorem ok89:okF Tryz.prog 89 (dAt [0] 6)=true:=by kernel_rfl
theorem nm89:Z7d Tryz.prog 89=true:=by kernel_rfl
theorem at89:AtF 89 0:=Zr9 ok89 nm89 rfl
theorem ok88:okF Tryz.prog 88 (dNum 194 3 195 190 184 186 188)=true:=by kernel_rfl
theorem Z0di:okF Tryz.prog 184 (Zpr 185 .u32)=true:=by kernel_rfl
theorem Z0d5:Z7d Tryz.prog 184=true:=by kernel_rfl
theorem Z0dj:okF Tryz.prog 188 (Zwi)=true:=by kernel_rfl
theorem Z0d6:Z7d Tryz.prog 188=true:=by kernel_rfl
theorem ok91:okF Tryz.prog 91 (dAt [1] 6)=true:=by kernel_rfl
theorem nm91:Z7d Tryz.prog 91=true:=by kernel_rfl
theorem at91:AtF 91 1:=Zr9 ok91 nm91 rfl
theorem ok93:okF Tryz.prog 93 (dAt [2] 6)=true:=by kernel_rfl
theorem nm93:Z7d Tryz.prog 93=true:=by kernel_rfl
theorem at93:AtF 93 2:=Zr9 ok93 nm93 rfl
theorem ok92:okF Tryz.prog 92 (dMon 199 2 190 190 192 194)=true:=by kernel_rfl
theorem Z0m6:okF Tryz.prog 190 (Zpr 191 .u64)=true:=by kernel_rfl
theorem Z0k6:Z7d Tryz.prog 190=true:=by kernel_rfl
theorem Z0m8:okF Tryz.prog 194 (Z04j)=true:=by kernel_rfl
theorem Z0k7:Z7d Tryz.prog 194=true:=by kernel_rfl
theorem ok95:okF Tryz.prog 95 (dSl 3 32)=true:=by kernel_rfl
theorem nm95:Z7d Tryz.prog 95=true:=by kernel_rfl
theorem at95:SlF 95 3 32:=slF ok95 nm95 (by decide)
theorem ok94:okF Tryz.prog 94 (dLst 201 190 195 197 199)=true:=by kernel_rfl
theorem Z0dl:okF Tryz.prog 195 (Zrm)=true:=by kernel_rfl
theorem Z0d8:Z7d Tryz.prog 195=true:=by kernel_rfl
theorem Z0dm:okF Tryz.prog 199 (dAny)=true:=by kernel_rfl
theorem Z0d9:Z7d Tryz.prog 199=true:=by kernel_rfl
theorem ok96:okF Tryz.prog 96 (dSl 35 64)=true:=by kernel_rfl
theorem nm96:Z7d Tryz.prog 96=true:=by kernel_rfl
theorem at96:SlF 96 35 64:=slF ok96 nm96 (by decide)
def d42:FnD:=⟨10,[.cell 0 2 true],.seq (.ops [oj 0 (.al 96 [.one (.int .i64 0),.one (.slice none 0 0)])]) (.seq (.ops [oj 1 (.call 90 [ci (65535)]),oj 2 (.call 88 [.func 89,ci (1),1]),oj 3 (.call 90 [ci (4096)]),oj 4 (.call 88 [.func 91,ci (1),3]),oj 5 (.call 92 [.func 93,ci (1000000000)]),oj 6 (.call 94 [.func 95,.const (.bool true)]),oj 7 (.call 94 [.func 96,.const (.bool false)]),oj 8 (.bs 190 5 4 (zFs 5) [(0,4,2),(4,4,4),(8,4,5),(12,4,6),(16,4,7)]),oj 9 (.bd [.one (.int .i64 0),.one (.slice none 0 0)] [(0,1,ci 1),(1,1,8)]),on_ (.st 2 0 9)]) .ret)⟩
theorem ok42:okF Tryz.prog 42 (d42)=true:=by kernel_rfl
def F_Cert:List (Zag Zx):=[fNum (fun x:Zx=>x.gSerial) (1) (fun _=>65535),fNum (fun x:Zx=>x.gRides) (1) (fun _=>4096),fMon (fun x:Zx=>x.gPrice) 1000000000,Zwv (fun x:Zx=>x.gAnchor) 32 true,Zwv (fun x:Zx=>x.gSig) 64 false]
theorem Zpe (W:World):Calls Tryz.prog 42 #[] W (Z8e W [] (RC Ze1 1 F_Cert)):=by
 refine Zs (args:=[]) mo ok42 rfl (Zez _) ?_
 refine Z0<|Z1<|Zc (Zu fun b0 _=>Z2<|Z0<|Z1 <| ?_)
 refine Zc (Zk rfl (fun w hw=>Zom (L:=Ze1) ok90 Z0dk Z0d7) fun v1 Ms1 R1=>?_)
 obtain ⟨c1,M1,rfl,rfl,H1⟩:=R1
 refine Zc (Zk rfl (fun w hw=>Zla (L:=Ze1) (get:=fun x:Zx=>x.gSerial) ok88 Z0di Z0dj Z0d5 Z0d6 at89 (fun _=>rfl) H1) fun v2 Ms2 R2=>?_)
 obtain ⟨x2,M2,rfl,rfl,H2⟩:=R2
 refine Zc (Zk rfl (fun w hw=>Zom (L:=Ze1) ok90 Z0dk Z0d7) fun v3 Ms3 R3=>?_)
 obtain ⟨c3,M3,rfl,rfl,H3⟩:=R3
 refine Zc (Zk rfl (fun w hw=>Zla (L:=Ze1) (get:=fun x:Zx=>x.gRides) ok88 Z0di Z0dj Z0d5 Z0d6 at91 (fun _=>rfl) H3) fun v4 Ms4 R4=>?_)
 obtain ⟨x4,M4,rfl,rfl,H4⟩:=R4
 refine Zc (Zk rfl (fun w hw=>Z00u (L:=Ze1) (get:=fun x:Zx=>x.gPrice) ok92 Z0m6 Z0m8 Z0k6 Z0k7 at93 (fun _=>rfl)) fun v5 Ms5 R5=>?_)
 obtain ⟨x5,M5,rfl,rfl,H5⟩:=R5
 refine Zc (Zk rfl (fun w hw=>Zhi (L:=Ze1) (get:=fun x:Zx=>x.gAnchor) ok94 Z0dl Z0dm Z0d8 Z0d9 at95 (fun _=>rfl)) fun v6 Ms6 R6=>?_)
 obtain ⟨x6,M6,rfl,rfl,H6⟩:=R6
 refine Zc (Zk rfl (fun w hw=>Zhi (L:=Ze1) (get:=fun x:Zx=>x.gSig) ok94 Z0dl Z0dm Z0d8 Z0d9 at96 (fun _=>rfl)) fun v7 Ms7 R7=>?_)
 obtain ⟨x7,M7,rfl,rfl,H7⟩:=R7
 refine Zc (Z54 (E:=E4) (xs:=[x2,x4,x5,x6,x7]) (.agg (p:=Z1o x2) (z':=Z1o x2++(zFs 4)) rfl rfl (by kernel_rfl) (.agg (p:=Z1o x4) (z':=Z1o x2++(Z1o x4++(zFs 3))) rfl rfl (by kernel_rfl) (.agg (p:=Z1o x5) (z':=Z1o x2++(Z1o x4++(Z1o x5++(zFs 2)))) rfl rfl (by kernel_rfl) (.agg (p:=Z1o x6) (z':=Z1o x2++(Z1o x4++(Z1o x5++(Z1o x6++(zFs 1))))) rfl rfl (by kernel_rfl) (.agg (p:=Z1o x7) (z':=Z1o x2++(Z1o x4++(Z1o x5++(Z1o x6++(Z1o x7++([])))))) rfl rfl (by kernel_rfl) BdR.nil))))) (.cons (p:=Z1o x2) rfl (.cons (p:=Z1o x4) rfl (.cons (p:=Z1o x5) rfl (.cons (p:=Z1o x6) rfl (.cons (p:=Z1o x7) rfl .nil))))) rfl fun u8 S8 O8=>?_)
 refine Z4 _ (Zcd (q:=[.one (.int .i64 1),.one u8]) (.one rfl rfl rfl (.one rfl (Z9i.cells (Z09.isSl O8)) rfl BdR.nil))) <| ?_
 refine Zc (Zdg (q:=[.one (.int .i64 1),.one u8]) rfl rfl rfl rfl (Z0y (Z5i rfl) (Z0y (Z5i (Z9i.one1 (Z09.isSl O8))) Z52)) (.app (.app (.app (.app (.app (.app (.app (.app .here))))))))<|Z2<|Zf ?_)
 refine ⟨_,_,.cons (.agg rfl (.app (.app (.app (.app (.app (.app (.app (.app .here)))))))) rfl) .nil,.all .here Zj9,⟨_,rfl,u8,S8,(M7++(M6++(M5++(M4++(M3++(M2++(M1++(ck b0 96 [.one (.int .i64 1),.one u8] :: [])))))))),_,rfl,rfl,O8,?_⟩⟩
 exact (.cons (H2.mono (by intro k hk; simp only [List.mem_append,List.mem_cons,List.not_mem_nil,or_false] at hk ⊢; first | (rcases hk with hk | hk <;> simp [hk]) | simp [hk])) (.cons (H4.mono (by intro k hk; simp only [List.mem_append,List.mem_cons,List.not_mem_nil,or_false] at hk ⊢; first | (rcases hk with hk | hk <;> simp [hk]) | simp [hk])) (.cons (H5.mono (by intro k hk; simp only [List.mem_append,List.mem_cons,List.not_mem_nil,or_false] at hk ⊢; first | (rcases hk with hk | hk <;> simp [hk]) | simp [hk])) (.cons (H6.mono (by intro k hk; simp only [List.mem_append,List.mem_cons,List.not_mem_nil,or_false] at hk ⊢; first | (rcases hk with hk | hk <;> simp [hk]) | simp [hk])) (.cons (H7.mono (by intro k hk; simp only [List.mem_append,List.mem_cons,List.not_mem_nil,or_false] at hk ⊢; first | (rcases hk with hk | hk <;> simp [hk]) | simp [hk])) .nil)))))
theorem ok97:okF Tryz.prog 97 (Zzq 96 190)=true:=by kernel_rfl
theorem ok98:okF Tryz.prog 98 (Zzp 96 190)=true:=by kernel_rfl
theorem ok43:okF Tryz.prog 43 (dEnc 96 29 97 98)=true:=by kernel_rfl
theorem ok12:okF Tryz.prog 12 (Zuo 29 99 42 43)=true:=by kernel_rfl
def Z8r (p0:Zx):Option ((LI)×Int):=Zdv F_Cert 1 p0
theorem Zbu {W:World} {r:(LI)×Int} {p0:Zx} (h:Z8r p0=some r) :
  Calls Tryz.prog 12 [agg [.one (.int .i64 (p0.gSerial)),.one (.int .i64 (p0.gRides)),.one (.int .i64 (p0.gPrice)),.ints .u8 32 (p0.gAnchor),.ints .u8 64 (p0.gSig)]].toArray W (Z8e W [] (fun v Ms=>∃ (u0:Value) (M0:List Ze),v = .tuple #[u0,.int .i64 (r.2)]/\Ms = [.all M0]/\Z09 (El.int .u8) u0 M0 r.1)) :=
 Zgd (L:=Ze1) ok12 ok43 ok97 ok98 Zpe (by decide) (by kernel_rfl) h
theorem Z0md:okF Tryz.prog 203 (dSay 96 29 97 98)=true:=by kernel_rfl
theorem ok99:okF Tryz.prog 99 (Zwj 29 99 42 203)=true:=by kernel_rfl
def Z6s (p0:Zx):Option (LI):=Zbz F_Cert 1 p0
theorem Zdo {W:World} {r:LI} {p0:Zx} (h:Z6s p0=some r) :
  Calls Tryz.prog 99 [agg [.one (.int .i64 (p0.gSerial)),.one (.int .i64 (p0.gRides)),.one (.int .i64 (p0.gPrice)),.ints .u8 32 (p0.gAnchor),.ints .u8 64 (p0.gSig)]].toArray W (Z8e W [] (fun v Ms=>∃ (u0:Value) (M0:List Ze),v=u0/\Ms = [.all M0]/\Z09 (El.int .u8) u0 M0 r)) :=
 Zje (L:=Ze1) ok99 Z0md ok97 ok98 Zpe (by decide) (by kernel_rfl) h
abbrev Zip:Zz->List Seg:=fun x=>[.one (.int .i64 (x.gCert.gSerial)),.one (.int .i64 (x.gCert.gRides)),.one (.int .i64 (x.gCert.gPrice)),.ints .u8 32 (x.gCert.gAnchor),.ints .u8 64 (x.gCert.gSig),.ints .u8 64 (x.gSig)]
theorem Z0lq:okF Tryz.prog 135 (dAt [0] 6)=true:=by kernel_rfl
theorem Z0k0:Z7d Tryz.prog 135=true:=by kernel_rfl
theorem Z0if:AtF 135 0:=Zr9 Z0lq Z0k0 rfl
theorem Z0lp:okF Tryz.prog 134 (dInn 42 232 190 237 248 249 250)=true:=by kernel_rfl
theorem Z0nh:okF Tryz.prog 248 (Zwh)=true:=by kernel_rfl
theorem Z0kg:Z7d Tryz.prog 248=true:=by kernel_rfl
theorem Z0ni:okF Tryz.prog 250 (Zwg)=true:=by kernel_rfl
theorem Z0kh:Z7d Tryz.prog 250=true:=by kernel_rfl
theorem Z0ls:okF Tryz.prog 137 (dSl 99 64)=true:=by kernel_rfl
theorem Z0k1:Z7d Tryz.prog 137=true:=by kernel_rfl
theorem Z0ig:SlF 137 99 64:=slF Z0ls Z0k1 (by decide)
theorem Z0lr:okF Tryz.prog 136 (dLst 239 237 251 252 253)=true:=by kernel_rfl
theorem Z0nj:okF Tryz.prog 251 (Zrm)=true:=by kernel_rfl
theorem Z0ki:Z7d Tryz.prog 251=true:=by kernel_rfl
theorem Z0nk:okF Tryz.prog 253 (dAny)=true:=by kernel_rfl
theorem Z0kj:Z7d Tryz.prog 253=true:=by kernel_rfl
def d73:FnD:=⟨6,[.cell 0 2 true],.seq (.ops [oj 0 (.al 158 [.one (.int .i64 0),.one (.slice none 0 0)])]) (.seq (.ops [oj 1 (.call 134 [.func 135]),oj 2 (.call 136 [.func 137,.const (.bool false)]),oj 3 (.bs 237 1 4 (zFs 1) [(0,4,2)]),oj 4 (.app 237 4 32 zF 1 3),oj 5 (.bd [.one (.int .i64 0),.one (.slice none 0 0)] [(0,1,ci 4),(1,1,4)]),on_ (.st 2 0 5)]) .ret)⟩
theorem ok73:okF Tryz.prog 73 (d73)=true:=by kernel_rfl
def Zdd:List (Zag Zz):=(F_Cert.map (Zzv (fun x:Zz=>x.gCert))) ++ [Zwv (fun x:Zz=>x.gSig) 64 false]
theorem Zsl (W:World):Calls Tryz.prog 73 #[] W (Z8e W [] (RC Zip 4 Zdd)):=by
 refine Zs (args:=[]) mo ok73 rfl (Zez _) ?_
 refine Z0<|Z1<|Zc (Zu fun b0 _=>Z2<|Z0<|Z1 <| ?_)
 refine Zc (Zk rfl (fun w hw=>Zok (L:=Zip) (Lc:=Ze1) (inn:=fun x:Zz=>x.gCert) (rest:=fun x=>[.ints .u8 64 (x.gSig)]) Z0lp Z0nh Z0ni Z0kg Z0kh Z0if (fun _=>rfl) Zpe (by decide) w) fun v1 Ms1 R1=>?_)
 obtain ⟨M1,B1,xs1,rfl,O1,H1⟩:=R1
 refine Zc (Zk rfl (fun w hw=>Zhi (L:=Zip) (get:=fun x:Zz=>x.gSig) Z0lr Z0nj Z0nk Z0ki Z0kj Z0ig (fun _=>rfl)) fun v2 Ms2 R2=>?_)
 obtain ⟨x2,M2,rfl,rfl,H2⟩:=R2
 refine Zc (Z54 (E:=E4) (xs:=[x2]) (.agg (p:=Z1o x2) (z':=Z1o x2++([])) rfl rfl (by kernel_rfl) BdR.nil) (.cons (p:=Z1o x2) rfl .nil) rfl fun u3 S3 O3=>?_)
 refine Zc (Z9r (E:=E4) (xs':=xs1 ++ [x2]) rfl rfl O1 (.app (.app .here)) rfl (Z0b O3 .here) (by rw [H1.len]; rfl) fun u4 S4 O4=>?_)
 refine Z4 _ (Zcd (q:=[.one (.int .i64 4),.one u4]) (.one rfl rfl rfl (.one rfl (Z9i.cells (Z09.isSl O4)) rfl BdR.nil))) <| ?_
 refine Zc (Zdg (q:=[.one (.int .i64 4),.one u4]) rfl rfl rfl rfl (Z0y (Z5i rfl) (Z0y (Z5i (Z9i.one1 (Z09.isSl O4))) Z52)) (.app (.app (.app (.app .here))))<|Z2<|Zf ?_)
 refine ⟨_,_,.cons (.agg rfl (.app (.app (.app (.app .here)))) rfl) .nil,.all .here Zj9,⟨_,rfl,u4,S4,(S3++(M2++(B1++(ck b0 158 [.one (.int .i64 4),.one u4] :: [])))),_,rfl,rfl,O4,?_⟩⟩
 exact (H1.mono (by intro k hk; simp [hk])).app (.cons (H2.mono (by intro k hk; simp only [List.mem_append,List.mem_cons,List.not_mem_nil,or_false] at hk ⊢; first | (rcases hk with hk | hk <;> simp [hk]) | simp [hk])) .nil)
theorem Z0dc:okF Tryz.prog 138 (Zzq 158 237)=true:=by kernel_rfl
theorem Z0dd:okF Tryz.prog 139 (Zzp 158 237)=true:=by kernel_rfl
theorem ok74:okF Tryz.prog 74 (dEnc 158 31 138 139)=true:=by kernel_rfl
theorem ok33:okF Tryz.prog 33 (Zuo 31 163 73 74)=true:=by kernel_rfl
def Za6 (p0:Zz):Option ((LI)×Int):=Zdv Zdd 4 p0
theorem Zfb {W:World} {r:(LI)×Int} {p0:Zz} (h:Za6 p0=some r) :
  Calls Tryz.prog 33 [agg [.one (.int .i64 (p0.gCert.gSerial)),.one (.int .i64 (p0.gCert.gRides)),.one (.int .i64 (p0.gCert.gPrice)),.ints .u8 32 (p0.gCert.gAnchor),.ints .u8 64 (p0.gCert.gSig),.ints .u8 64 (p0.gSig)]].toArray W (Z8e W [] (fun v Ms=>∃ (u0:Value) (M0:List Ze),v = .tuple #[u0,.int .i64 (r.2)]/\Ms = [.all M0]/\Z09 (El.int .u8) u0 M0 r.1)) :=
 Zgd (L:=Zip) ok33 ok74 Z0dc Z0dd Zsl (by decide) (by kernel_rfl) h
theorem Z0mg:okF Tryz.prog 206 (dSay 158 31 138 139)=true:=by kernel_rfl
theorem Z0l3:okF Tryz.prog 103 (Zwj 31 163 73 206)=true:=by kernel_rfl
def Z4z (p0:Zz):Option (LI):=Zbz Zdd 4 p0
theorem Zc4 {W:World} {r:LI} {p0:Zz} (h:Z4z p0=some r) :
  Calls Tryz.prog 103 [agg [.one (.int .i64 (p0.gCert.gSerial)),.one (.int .i64 (p0.gCert.gRides)),.one (.int .i64 (p0.gCert.gPrice)),.ints .u8 32 (p0.gCert.gAnchor),.ints .u8 64 (p0.gCert.gSig),.ints .u8 64 (p0.gSig)]].toArray W (Z8e W [] (fun v Ms=>∃ (u0:Value) (M0:List Ze),v=u0/\Ms = [.all M0]/\Z09 (El.int .u8) u0 M0 r)) :=
 Zje (L:=Zip) Z0l3 Z0mg Z0dc Z0dd Zsl (by decide) (by kernel_rfl) h
abbrev Zba:Zg->List Seg:=fun x=>[.one (.int .i64 (x.gCert.gSerial)),.one (.int .i64 (x.gCert.gRides)),.one (.int .i64 (x.gCert.gPrice)),.ints .u8 32 (x.gCert.gAnchor),.ints .u8 64 (x.gCert.gSig),.ints .u8 64 (x.gSig)]
theorem Z0lu:okF Tryz.prog 151 (dAt [0] 6)=true:=by kernel_rfl
theorem Z0k2:Z7d Tryz.prog 151=true:=by kernel_rfl
theorem Z0ih:AtF 151 0:=Zr9 Z0lu Z0k2 rfl
theorem Z0lt:okF Tryz.prog 150 (dInn 42 256 190 261 261 262 263)=true:=by kernel_rfl
theorem Z0nl:okF Tryz.prog 261 (Zwh)=true:=by kernel_rfl
theorem Z0kk:Z7d Tryz.prog 261=true:=by kernel_rfl
theorem Z0nm:okF Tryz.prog 263 (Zwg)=true:=by kernel_rfl
theorem Z0kl:Z7d Tryz.prog 263=true:=by kernel_rfl
theorem Z0lw:okF Tryz.prog 153 (dSl 99 64)=true:=by kernel_rfl
theorem Z0k3:Z7d Tryz.prog 153=true:=by kernel_rfl
theorem Z0ii:SlF 153 99 64:=slF Z0lw Z0k3 (by decide)
theorem Z0lv:okF Tryz.prog 152 (dLst 263 261 264 265 266)=true:=by kernel_rfl
theorem Z0nn:okF Tryz.prog 264 (Zrm)=true:=by kernel_rfl
theorem Z0km:Z7d Tryz.prog 264=true:=by kernel_rfl
theorem Z0no:okF Tryz.prog 266 (dAny)=true:=by kernel_rfl
theorem Z0kn:Z7d Tryz.prog 266=true:=by kernel_rfl
def d77:FnD:=⟨6,[.cell 0 2 true],.seq (.ops [oj 0 (.al 166 [.one (.int .i64 0),.one (.slice none 0 0)])]) (.seq (.ops [oj 1 (.call 150 [.func 151]),oj 2 (.call 152 [.func 153,.const (.bool false)]),oj 3 (.bs 261 1 4 (zFs 1) [(0,4,2)]),oj 4 (.app 261 4 32 zF 1 3),oj 5 (.bd [.one (.int .i64 0),.one (.slice none 0 0)] [(0,1,ci 6),(1,1,4)]),on_ (.st 2 0 5)]) .ret)⟩
theorem ok77:okF Tryz.prog 77 (d77)=true:=by kernel_rfl
def Z6c:List (Zag Zg):=(F_Cert.map (Zzv (fun x:Zg=>x.gCert))) ++ [Zwv (fun x:Zg=>x.gSig) 64 false]
theorem Zkg (W:World):Calls Tryz.prog 77 #[] W (Z8e W [] (RC Zba 6 Z6c)):=by
 refine Zs (args:=[]) mo ok77 rfl (Zez _) ?_
 refine Z0<|Z1<|Zc (Zu fun b0 _=>Z2<|Z0<|Z1 <| ?_)
 refine Zc (Zk rfl (fun w hw=>Zok (L:=Zba) (Lc:=Ze1) (inn:=fun x:Zg=>x.gCert) (rest:=fun x=>[.ints .u8 64 (x.gSig)]) Z0lt Z0nl Z0nm Z0kk Z0kl Z0ih (fun _=>rfl) Zpe (by decide) w) fun v1 Ms1 R1=>?_)
 obtain ⟨M1,B1,xs1,rfl,O1,H1⟩:=R1
 refine Zc (Zk rfl (fun w hw=>Zhi (L:=Zba) (get:=fun x:Zg=>x.gSig) Z0lv Z0nn Z0no Z0km Z0kn Z0ii (fun _=>rfl)) fun v2 Ms2 R2=>?_)
 obtain ⟨x2,M2,rfl,rfl,H2⟩:=R2
 refine Zc (Z54 (E:=E4) (xs:=[x2]) (.agg (p:=Z1o x2) (z':=Z1o x2++([])) rfl rfl (by kernel_rfl) BdR.nil) (.cons (p:=Z1o x2) rfl .nil) rfl fun u3 S3 O3=>?_)
 refine Zc (Z9r (E:=E4) (xs':=xs1 ++ [x2]) rfl rfl O1 (.app (.app .here)) rfl (Z0b O3 .here) (by rw [H1.len]; rfl) fun u4 S4 O4=>?_)
 refine Z4 _ (Zcd (q:=[.one (.int .i64 6),.one u4]) (.one rfl rfl rfl (.one rfl (Z9i.cells (Z09.isSl O4)) rfl BdR.nil))) <| ?_
 refine Zc (Zdg (q:=[.one (.int .i64 6),.one u4]) rfl rfl rfl rfl (Z0y (Z5i rfl) (Z0y (Z5i (Z9i.one1 (Z09.isSl O4))) Z52)) (.app (.app (.app (.app .here))))<|Z2<|Zf ?_)
 refine ⟨_,_,.cons (.agg rfl (.app (.app (.app (.app .here)))) rfl) .nil,.all .here Zj9,⟨_,rfl,u4,S4,(S3++(M2++(B1++(ck b0 166 [.one (.int .i64 6),.one u4] :: [])))),_,rfl,rfl,O4,?_⟩⟩
 exact (H1.mono (by intro k hk; simp [hk])).app (.cons (H2.mono (by intro k hk; simp only [List.mem_append,List.mem_cons,List.not_mem_nil,or_false] at hk ⊢; first | (rcases hk with hk | hk <;> simp [hk]) | simp [hk])) .nil)
theorem Z0de:okF Tryz.prog 154 (Zzq 166 261)=true:=by kernel_rfl
theorem Z0df:okF Tryz.prog 155 (Zzp 166 261)=true:=by kernel_rfl
theorem ok78:okF Tryz.prog 78 (dEnc 166 34 154 155)=true:=by kernel_rfl
theorem ok35:okF Tryz.prog 35 (Zuo 34 163 77 78)=true:=by kernel_rfl
def Z77 (p0:Zg):Option ((LI)×Int):=Zdv Z6c 6 p0
theorem Zd8 {W:World} {r:(LI)×Int} {p0:Zg} (h:Z77 p0=some r) :
  Calls Tryz.prog 35 [agg [.one (.int .i64 (p0.gCert.gSerial)),.one (.int .i64 (p0.gCert.gRides)),.one (.int .i64 (p0.gCert.gPrice)),.ints .u8 32 (p0.gCert.gAnchor),.ints .u8 64 (p0.gCert.gSig),.ints .u8 64 (p0.gSig)]].toArray W (Z8e W [] (fun v Ms=>∃ (u0:Value) (M0:List Ze),v = .tuple #[u0,.int .i64 (r.2)]/\Ms = [.all M0]/\Z09 (El.int .u8) u0 M0 r.1)) :=
 Zgd (L:=Zba) ok35 ok78 Z0de Z0df Zkg (by decide) (by kernel_rfl) h
theorem Z0mh:okF Tryz.prog 207 (dSay 166 34 154 155)=true:=by kernel_rfl
theorem Z0l6:okF Tryz.prog 106 (Zwj 34 163 77 207)=true:=by kernel_rfl
def Z2t (p0:Zg):Option (LI):=Zbz Z6c 6 p0
theorem Z9e {W:World} {r:LI} {p0:Zg} (h:Z2t p0=some r) :
  Calls Tryz.prog 106 [agg [.one (.int .i64 (p0.gCert.gSerial)),.one (.int .i64 (p0.gCert.gRides)),.one (.int .i64 (p0.gCert.gPrice)),.ints .u8 32 (p0.gCert.gAnchor),.ints .u8 64 (p0.gCert.gSig),.ints .u8 64 (p0.gSig)]].toArray W (Z8e W [] (fun v Ms=>∃ (u0:Value) (M0:List Ze),v=u0/\Ms = [.all M0]/\Z09 (El.int .u8) u0 M0 r)) :=
 Zje (L:=Zba) Z0l6 Z0mh Z0de Z0df Zkg (by decide) (by kernel_rfl) h
abbrev Zjq:Z05->List Seg:=fun x=>[.one (.int .i64 (x.gFloor)),.ints .u8 64 (x.gSig)]
theorem Z0lz:okF Tryz.prog 158 (dLim 3 270)=true:=by kernel_rfl
theorem Z0nr:okF Tryz.prog 270 (Z007)=true:=by kernel_rfl
theorem Z0kq:Z7d Tryz.prog 270=true:=by kernel_rfl
theorem Z0ly:okF Tryz.prog 157 (dAt [0] 6)=true:=by kernel_rfl
theorem Z0k4:Z7d Tryz.prog 157=true:=by kernel_rfl
theorem Z0ij:AtF 157 0:=Zr9 Z0ly Z0k4 rfl
theorem Z0lx:okF Tryz.prog 156 (dNum 272 3 273 270 267 268 269)=true:=by kernel_rfl
theorem Z0np:okF Tryz.prog 267 (Zpr 185 .u32)=true:=by kernel_rfl
theorem Z0ko:Z7d Tryz.prog 267=true:=by kernel_rfl
theorem Z0nq:okF Tryz.prog 269 (Zwi)=true:=by kernel_rfl
theorem Z0kp:Z7d Tryz.prog 269=true:=by kernel_rfl
theorem Z0m1:okF Tryz.prog 160 (dSl 1 64)=true:=by kernel_rfl
theorem Z0k5:Z7d Tryz.prog 160=true:=by kernel_rfl
theorem Z0ik:SlF 160 1 64:=slF Z0m1 Z0k5 (by decide)
theorem Z0m0:okF Tryz.prog 159 (dLst 276 270 271 272 273)=true:=by kernel_rfl
theorem Z0ns:okF Tryz.prog 271 (Zrm)=true:=by kernel_rfl
theorem Z0kr:Z7d Tryz.prog 271=true:=by kernel_rfl
theorem Z0nt:okF Tryz.prog 273 (dAny)=true:=by kernel_rfl
theorem Z0ks:Z7d Tryz.prog 273=true:=by kernel_rfl
def d79:FnD:=⟨6,[.cell 0 2 true],.seq (.ops [oj 0 (.al 170 [.one (.int .i64 0),.one (.slice none 0 0)])]) (.seq (.ops [oj 1 (.call 158 [ci (65536)]),oj 2 (.call 156 [.func 157,ci (1),1]),oj 3 (.call 159 [.func 160,.const (.bool false)]),oj 4 (.bs 270 2 4 (zFs 2) [(0,4,2),(4,4,3)]),oj 5 (.bd [.one (.int .i64 0),.one (.slice none 0 0)] [(0,1,ci 7),(1,1,4)]),on_ (.st 2 0 5)]) .ret)⟩
theorem ok79:okF Tryz.prog 79 (d79)=true:=by kernel_rfl
def Zdq:List (Zag Z05):=[fNum (fun x:Z05=>x.gFloor) (1) (fun _=>65536),Zwv (fun x:Z05=>x.gSig) 64 false]
theorem Zvx (W:World):Calls Tryz.prog 79 #[] W (Z8e W [] (RC Zjq 7 Zdq)):=by
 refine Zs (args:=[]) mo ok79 rfl (Zez _) ?_
 refine Z0<|Z1<|Zc (Zu fun b0 _=>Z2<|Z0<|Z1 <| ?_)
 refine Zc (Zk rfl (fun w hw=>Zom (L:=Zjq) Z0lz Z0nr Z0kq) fun v1 Ms1 R1=>?_)
 obtain ⟨c1,M1,rfl,rfl,H1⟩:=R1
 refine Zc (Zk rfl (fun w hw=>Zla (L:=Zjq) (get:=fun x:Z05=>x.gFloor) Z0lx Z0np Z0nq Z0ko Z0kp Z0ij (fun _=>rfl) H1) fun v2 Ms2 R2=>?_)
 obtain ⟨x2,M2,rfl,rfl,H2⟩:=R2
 refine Zc (Zk rfl (fun w hw=>Zhi (L:=Zjq) (get:=fun x:Z05=>x.gSig) Z0m0 Z0ns Z0nt Z0kr Z0ks Z0ik (fun _=>rfl)) fun v3 Ms3 R3=>?_)
 obtain ⟨x3,M3,rfl,rfl,H3⟩:=R3
 refine Zc (Z54 (E:=E4) (xs:=[x2,x3]) (.agg (p:=Z1o x2) (z':=Z1o x2++(zFs 1)) rfl rfl (by kernel_rfl) (.agg (p:=Z1o x3) (z':=Z1o x2++(Z1o x3++([]))) rfl rfl (by kernel_rfl) BdR.nil)) (.cons (p:=Z1o x2) rfl (.cons (p:=Z1o x3) rfl .nil)) rfl fun u4 S4 O4=>?_)
 refine Z4 _ (Zcd (q:=[.one (.int .i64 7),.one u4]) (.one rfl rfl rfl (.one rfl (Z9i.cells (Z09.isSl O4)) rfl BdR.nil))) <| ?_
 refine Zc (Zdg (q:=[.one (.int .i64 7),.one u4]) rfl rfl rfl rfl (Z0y (Z5i rfl) (Z0y (Z5i (Z9i.one1 (Z09.isSl O4))) Z52)) (.app (.app (.app (.app .here))))<|Z2<|Zf ?_)
 refine ⟨_,_,.cons (.agg rfl (.app (.app (.app (.app .here)))) rfl) .nil,.all .here Zj9,⟨_,rfl,u4,S4,(M3++(M2++(M1++(ck b0 170 [.one (.int .i64 7),.one u4] :: [])))),_,rfl,rfl,O4,?_⟩⟩
 exact (.cons (H2.mono (by intro k hk; simp only [List.mem_append,List.mem_cons,List.not_mem_nil,or_false] at hk ⊢; first | (rcases hk with hk | hk <;> simp [hk]) | simp [hk])) (.cons (H3.mono (by intro k hk; simp only [List.mem_append,List.mem_cons,List.not_mem_nil,or_false] at hk ⊢; first | (rcases hk with hk | hk <;> simp [hk]) | simp [hk])) .nil))
theorem Z0dg:okF Tryz.prog 161 (Zzq 170 270)=true:=by kernel_rfl
theorem Z0dh:okF Tryz.prog 162 (Zzp 170 270)=true:=by kernel_rfl
theorem ok80:okF Tryz.prog 80 (dEnc 170 36 161 162)=true:=by kernel_rfl
theorem ok36:okF Tryz.prog 36 (Zuo 36 65 79 80)=true:=by kernel_rfl
def Zb3 (p0:Z05):Option ((LI)×Int):=Zdv Zdq 7 p0
theorem Zfz {W:World} {r:(LI)×Int} {p0:Z05} (h:Zb3 p0=some r) :
  Calls Tryz.prog 36 [agg [.one (.int .i64 (p0.gFloor)),.ints .u8 64 (p0.gSig)]].toArray W (Z8e W [] (fun v Ms=>∃ (u0:Value) (M0:List Ze),v = .tuple #[u0,.int .i64 (r.2)]/\Ms = [.all M0]/\Z09 (El.int .u8) u0 M0 r.1)) :=
 Zgd (L:=Zjq) ok36 ok80 Z0dg Z0dh Zvx (by decide) (by kernel_rfl) h
theorem Z0na:okF Tryz.prog 238 (dSay 170 36 161 162)=true:=by kernel_rfl
theorem Z0lj:okF Tryz.prog 119 (Zwj 36 65 79 238)=true:=by kernel_rfl
def Z5s (p0:Z05):Option (LI):=Zbz Zdq 7 p0
theorem Zd9 {W:World} {r:LI} {p0:Z05} (h:Z5s p0=some r) :
  Calls Tryz.prog 119 [agg [.one (.int .i64 (p0.gFloor)),.ints .u8 64 (p0.gSig)]].toArray W (Z8e W [] (fun v Ms=>∃ (u0:Value) (M0:List Ze),v=u0/\Ms = [.all M0]/\Z09 (El.int .u8) u0 M0 r)) :=
 Zje (L:=Zjq) Z0lj Z0na Z0dg Z0dh Zvx (by decide) (by kernel_rfl) h
abbrev Zg2:Z0j->List Seg:=fun x=>[.one (.int .i64 (x.gCert.gSerial)),.one (.int .i64 (x.gCert.gRides)),.one (.int .i64 (x.gCert.gPrice)),.ints .u8 32 (x.gCert.gAnchor),.ints .u8 64 (x.gCert.gSig),.one (.int .i64 (x.gIndex)),.ints .u8 32 (x.gValue),.one (.bool (x.gFrozen)),.ints .u8 64 (x.gFreeze),.one (.bool (x.gRevoked)),.ints .u8 64 (x.gRevoke)]
theorem Z0mj:okF Tryz.prog 209 (dAt [0] 6)=true:=by kernel_rfl
theorem Z0k8:Z7d Tryz.prog 209=true:=by kernel_rfl
theorem Z0il:AtF 209 0:=Zr9 Z0mj Z0k8 rfl
theorem Z0mi:okF Tryz.prog 208 (dInn 42 323 190 328 306 307 308)=true:=by kernel_rfl
theorem Z0o2:okF Tryz.prog 306 (Zwh)=true:=by kernel_rfl
theorem Z0kt:Z7d Tryz.prog 306=true:=by kernel_rfl
theorem Z0o3:okF Tryz.prog 308 (Zwg)=true:=by kernel_rfl
theorem Z0ku:Z7d Tryz.prog 308=true:=by kernel_rfl
theorem Z0ml:okF Tryz.prog 211 (dAt [99] 6)=true:=by kernel_rfl
theorem Z0k9:Z7d Tryz.prog 211=true:=by kernel_rfl
theorem Z0im:AtF 211 99:=Zr9 Z0ml Z0k9 rfl
theorem Z0mk:okF Tryz.prog 210 (dNum 330 3 331 328 309 310 311)=true:=by kernel_rfl
theorem Z0o4:okF Tryz.prog 309 (Zpr 185 .u32)=true:=by kernel_rfl
theorem Z0kv:Z7d Tryz.prog 309=true:=by kernel_rfl
theorem Z0o5:okF Tryz.prog 311 (Zwi)=true:=by kernel_rfl
theorem Z0kw:Z7d Tryz.prog 311=true:=by kernel_rfl
theorem Z0mm:okF Tryz.prog 212 (dHi2 0 1)=true:=by kernel_rfl
theorem Z0ka:Z7d Tryz.prog 212=true:=by kernel_rfl
theorem Z0mo:okF Tryz.prog 214 (dSl 100 32)=true:=by kernel_rfl
theorem Z0kb:Z7d Tryz.prog 214=true:=by kernel_rfl
theorem Z0in:SlF 214 100 32:=slF Z0mo Z0kb (by decide)
theorem Z0mn:okF Tryz.prog 213 (dLst 333 328 312 313 314)=true:=by kernel_rfl
theorem Z0o6:okF Tryz.prog 312 (Zrm)=true:=by kernel_rfl
theorem Z0kx:Z7d Tryz.prog 312=true:=by kernel_rfl
theorem Z0o7:okF Tryz.prog 314 (dAny)=true:=by kernel_rfl
theorem Z0ky:Z7d Tryz.prog 314=true:=by kernel_rfl
theorem Z0mp:okF Tryz.prog 216 (dAt [132] 6)=true:=by kernel_rfl
theorem Z0kc:Z7d Tryz.prog 216=true:=by kernel_rfl
theorem Z0io:AtF 216 132:=Zr9 Z0mp Z0kc rfl
theorem Z0mq:okF Tryz.prog 217 (dAt [133] 6)=true:=by kernel_rfl
theorem Z0kd:Z7d Tryz.prog 217=true:=by kernel_rfl
theorem Z0ip:AtF 217 133:=Zr9 Z0mq Z0kd rfl
theorem Z0dn:okF Tryz.prog 215 (dFlg 336 337 328 315 317 319)=true:=by kernel_rfl
theorem Z0do:okF Tryz.prog 315 (Z04i)=true:=by kernel_rfl
theorem Z0da:Z7d Tryz.prog 315=true:=by kernel_rfl
theorem Z0dp:okF Tryz.prog 319 (Z04h)=true:=by kernel_rfl
theorem Z0db:Z7d Tryz.prog 319=true:=by kernel_rfl
theorem Z0mr:okF Tryz.prog 218 (dAt [197] 6)=true:=by kernel_rfl
theorem Z0ke:Z7d Tryz.prog 218=true:=by kernel_rfl
theorem Z0iq:AtF 218 197:=Zr9 Z0mr Z0ke rfl
theorem Z0ms:okF Tryz.prog 219 (dAt [198] 6)=true:=by kernel_rfl
theorem Z0kf:Z7d Tryz.prog 219=true:=by kernel_rfl
theorem Z0ir:AtF 219 198:=Zr9 Z0ms Z0kf rfl
def d109:FnD:=⟨9,[.cell 0 2 true],.seq (.ops [oj 0 (.al 210 [.one (.int .i64 0),.one (.slice none 0 0)])]) (.seq (.ops [oj 1 (.call 208 [.func 209]),oj 2 (.call 210 [.func 211,ci (0),.func 212]),oj 3 (.call 213 [.func 214,.const (.bool true)]),oj 4 (.call 215 [.func 216,.func 217]),oj 5 (.call 215 [.func 218,.func 219]),oj 6 (.bs 328 4 4 (zFs 4) [(0,4,2),(4,4,3),(8,4,4),(12,4,5)]),oj 7 (.app 328 4 32 zF 1 6),oj 8 (.bd [.one (.int .i64 0),.one (.slice none 0 0)] [(0,1,ci 3),(1,1,7)]),on_ (.st 2 0 8)]) .ret)⟩
theorem Z0l9:okF Tryz.prog 109 (d109)=true:=by kernel_rfl
def Zcm:List (Zag Z0j):=(F_Cert.map (Zzv (fun x:Z0j=>x.gCert))) ++ [fNum (fun x:Z0j=>x.gIndex) (0) (fun x=>x.gCert.gRides),Zwv (fun x:Z0j=>x.gValue) 32 true,fFlg (fun x:Z0j=>x.gFrozen) (fun x:Z0j=>x.gFreeze),fFlg (fun x:Z0j=>x.gRevoked) (fun x:Z0j=>x.gRevoke)]
theorem Z03c (W:World):Calls Tryz.prog 109 #[] W (Z8e W [] (RC Zg2 3 Zcm)):=by
 refine Zs (args:=[]) mo Z0l9 rfl (Zez _) ?_
 refine Z0<|Z1<|Zc (Zu fun b0 _=>Z2<|Z0<|Z1 <| ?_)
 refine Zc (Zk rfl (fun w hw=>Zok (L:=Zg2) (Lc:=Ze1) (inn:=fun x:Z0j=>x.gCert) (rest:=fun x=>[.one (.int .i64 (x.gIndex)),.ints .u8 32 (x.gValue),.one (.bool (x.gFrozen)),.ints .u8 64 (x.gFreeze),.one (.bool (x.gRevoked)),.ints .u8 64 (x.gRevoke)]) Z0mi Z0o2 Z0o3 Z0kt Z0ku Z0il (fun _=>rfl) Zpe (by decide) w) fun v1 Ms1 R1=>?_)
 obtain ⟨M1,B1,xs1,rfl,O1,H1⟩:=R1
 refine Zc (Zk rfl (fun w hw=>Zla (L:=Zg2) (c:=(212,[])) (hi:=fun x=>x.gCert.gRides) (get:=fun x:Z0j=>x.gIndex) Z0mk Z0o4 Z0o5 Z0kv Z0kw Z0im (fun _=>rfl) (Z09b (L:=Zg2) (ms:=[]) (get:=fun x=>x.gCert.gRides) (o1:=0) (o2:=1) Z0mm Z0ka (fun _=>rfl))) fun v2 Ms2 R2=>?_)
 obtain ⟨x2,M2,rfl,rfl,H2⟩:=R2
 refine Zc (Zk rfl (fun w hw=>Zhi (L:=Zg2) (get:=fun x:Z0j=>x.gValue) Z0mn Z0o6 Z0o7 Z0kx Z0ky Z0in (fun _=>rfl)) fun v3 Ms3 R3=>?_)
 obtain ⟨x3,M3,rfl,rfl,H3⟩:=R3
 refine Zc (Zk rfl (fun w hw=>Zt2 (L:=Zg2) (flag:=fun x:Z0j=>x.gFrozen) (sig:=fun x:Z0j=>x.gFreeze) Z0dn Z0do Z0dp Z0da Z0db Z0io Z0ip (fun _=>rfl) (fun _=>rfl) (fun _=>rfl)) fun v4 Ms4 R4=>?_)
 obtain ⟨x4,M4,rfl,rfl,H4⟩:=R4
 refine Zc (Zk rfl (fun w hw=>Zt2 (L:=Zg2) (flag:=fun x:Z0j=>x.gRevoked) (sig:=fun x:Z0j=>x.gRevoke) Z0dn Z0do Z0dp Z0da Z0db Z0iq Z0ir (fun _=>rfl) (fun _=>rfl) (fun _=>rfl)) fun v5 Ms5 R5=>?_)
 obtain ⟨x5,M5,rfl,rfl,H5⟩:=R5
 refine Zc (Z54 (E:=E4) (xs:=[x2,x3,x4,x5]) (.agg (p:=Z1o x2) (z':=Z1o x2++(zFs 3)) rfl rfl (by kernel_rfl) (.agg (p:=Z1o x3) (z':=Z1o x2++(Z1o x3++(zFs 2))) rfl rfl (by kernel_rfl) (.agg (p:=Z1o x4) (z':=Z1o x2++(Z1o x3++(Z1o x4++(zFs 1)))) rfl rfl (by kernel_rfl) (.agg (p:=Z1o x5) (z':=Z1o x2++(Z1o x3++(Z1o x4++(Z1o x5++([]))))) rfl rfl (by kernel_rfl) BdR.nil)))) (.cons (p:=Z1o x2) rfl (.cons (p:=Z1o x3) rfl (.cons (p:=Z1o x4) rfl (.cons (p:=Z1o x5) rfl .nil)))) rfl fun u6 S6 O6=>?_)
 refine Zc (Z9r (E:=E4) (xs':=xs1 ++ [x2,x3,x4,x5]) rfl rfl O1 (.app (.app (.app (.app (.app .here))))) rfl (Z0b O6 .here) (by rw [H1.len]; rfl) fun u7 S7 O7=>?_)
 refine Z4 _ (Zcd (q:=[.one (.int .i64 3),.one u7]) (.one rfl rfl rfl (.one rfl (Z9i.cells (Z09.isSl O7)) rfl BdR.nil))) <| ?_
 refine Zc (Zdg (q:=[.one (.int .i64 3),.one u7]) rfl rfl rfl rfl (Z0y (Z5i rfl) (Z0y (Z5i (Z9i.one1 (Z09.isSl O7))) Z52)) (.app (.app (.app (.app (.app (.app (.app .here)))))))<|Z2<|Zf ?_)
 refine ⟨_,_,.cons (.agg rfl (.app (.app (.app (.app (.app (.app (.app .here))))))) rfl) .nil,.all .here Zj9,⟨_,rfl,u7,S7,(S6++(M5++(M4++(M3++(M2++(B1++(ck b0 210 [.one (.int .i64 3),.one u7] :: []))))))),_,rfl,rfl,O7,?_⟩⟩
 exact (H1.mono (by intro k hk; simp [hk])).app (.cons (H2.mono (by intro k hk; simp only [List.mem_append,List.mem_cons,List.not_mem_nil,or_false] at hk ⊢; first | (rcases hk with hk | hk <;> simp [hk]) | simp [hk])) (.cons (H3.mono (by intro k hk; simp only [List.mem_append,List.mem_cons,List.not_mem_nil,or_false] at hk ⊢; first | (rcases hk with hk | hk <;> simp [hk]) | simp [hk])) (.cons (H4.mono (by intro k hk; simp only [List.mem_append,List.mem_cons,List.not_mem_nil,or_false] at hk ⊢; first | (rcases hk with hk | hk <;> simp [hk]) | simp [hk])) (.cons (H5.mono (by intro k hk; simp only [List.mem_append,List.mem_cons,List.not_mem_nil,or_false] at hk ⊢; first | (rcases hk with hk | hk <;> simp [hk]) | simp [hk])) .nil))))
theorem Z0mt:okF Tryz.prog 220 (Zzq 210 328)=true:=by kernel_rfl
theorem Z0mu:okF Tryz.prog 221 (Zzp 210 328)=true:=by kernel_rfl
theorem Z0la:okF Tryz.prog 110 (dEnc 210 63 220 221)=true:=by kernel_rfl
theorem ok50:okF Tryz.prog 50 (Zuo 63 262 109 110)=true:=by kernel_rfl
def Zb2 (p0:Z0j):Option ((LI)×Int):=Zdv Zcm 3 p0
theorem Zfy {W:World} {r:(LI)×Int} {p0:Z0j} (h:Zb2 p0=some r) :
  Calls Tryz.prog 50 [agg [.one (.int .i64 (p0.gCert.gSerial)),.one (.int .i64 (p0.gCert.gRides)),.one (.int .i64 (p0.gCert.gPrice)),.ints .u8 32 (p0.gCert.gAnchor),.ints .u8 64 (p0.gCert.gSig),.one (.int .i64 (p0.gIndex)),.ints .u8 32 (p0.gValue),.one (.bool (p0.gFrozen)),.ints .u8 64 (p0.gFreeze),.one (.bool (p0.gRevoked)),.ints .u8 64 (p0.gRevoke)]].toArray W (Z8e W [] (fun v Ms=>∃ (u0:Value) (M0:List Ze),v = .tuple #[u0,.int .i64 (r.2)]/\Ms = [.all M0]/\Z09 (El.int .u8) u0 M0 r.1)) :=
 Zgd (L:=Zg2) ok50 Z0la Z0mt Z0mu Z03c (by decide) (by kernel_rfl) h
theorem Z0l0:okF Tryz.prog 100 (dAt [35] 6)=true:=by kernel_rfl
theorem Zu0:AtF 100 35:=Zr9 Z0l0 (by kernel_rfl) rfl
theorem Z0l4:okF Tryz.prog 104 (dAt [99] 6)=true:=by kernel_rfl
theorem Zu1:AtF 104 99:=Zr9 Z0l4 (by kernel_rfl) rfl
theorem Z0l7:okF Tryz.prog 107 (dAt [99] 6)=true:=by kernel_rfl
theorem Zu2:AtF 107 99:=Zr9 Z0l7 (by kernel_rfl) rfl
theorem Z0lk:okF Tryz.prog 120 (dAt [1] 6)=true:=by kernel_rfl
theorem Zu3:AtF 120 1:=Zr9 Z0lk (by kernel_rfl) rfl
def Z3o (p1:Z0d) (p2:Z05):Option Bool :=
 opt (Zb3 p2) fun y1 =>
 opt (Z53 p1 p2) fun y2 =>
 jn (fun (i1:Bool)=>some i1) fun k1=>br (((y1.2==0)&&y2.2)) (
 opt (Z5s p2) fun y3 =>
 opt (Z1h y2.1 y3 p2.gSig) fun y4 =>
 k1 y4
 ) (
 k1 false
 )
theorem Zbo {W:World} {r:Bool} {p1:Z0d} {p2:Z05} {v1_0:Value} (h:Z3o p1 p2=some r) (hG:Globs W) (A1_0:Z6m Z0m W v1_0 p1.gGates) :
    Calls Tryz.prog 56 [agg [.one (.func (.func 36) #[] #[]),.one (.func (.func 119) #[] #[]),.one (.func (.func 120) #[] #[]),.one (.func (.func 121) #[] #[])],agg [b3' p1.gIssuer,.one (v1_0)],agg [.one (.int .i64 (p2.gFloor)),b6' p2.gSig]].toArray W (Z3c W (.bool (r))):=by
 unfold Z3o at h
 refine Za mo ok56 rfl ?_
 refine Z0<|Z1<|Zc (Z06 (s:=[.one (.func (.func 36) #[] #[]),.one (.func (.func 119) #[] #[]),.one (.func (.func 120) #[] #[]),.one (.func (.func 121) #[] #[])]) rfl fun b1 u1=>Zc (Z06 (s:=[b3' p1.gIssuer,.one (v1_0)]) rfl fun b2 u2=>Zc (Z06 (s:=[.one (.int .i64 (p2.gFloor)),b6' p2.gSig]) rfl fun b3 u3=>Z8 rfl<|Z2<|Z0<|oH h fun y1 f1 h=>Z1<|Z4 _ (Z1v rfl)<|Z4 _ (Z0p rfl .t2 rfl)<|Z4 _ (Z00 (p:=[.one (.int .i64 (p2.gFloor)),b6' p2.gSig]) rfl .here rfl)<|Zc (Z7l rfl rfl rfl (fun w hw=>Zfz  f1 ) fun v7 o1 R1=>?_))))
 obtain ⟨v9,w1,rfl,rfl,O1⟩:=R1
 refine Z8 rfl<|Z4 _ (Z17 rfl rfl)<|Z4 _ (Z17 rfl rfl)<|Z8 rfl<|Z8 rfl<|Z2<|Z0<|oH h fun y2 f2 h=>Z1<|Z4 _ (Z1v rfl)<|Z4 _ (Z0p rfl (.app .t2) rfl)<|Z4 _ (Z00 (p:=[b3' p1.gIssuer,.one (v1_0)]) rfl (.app .t1) rfl)<|Z4 _ (Z00 (p:=[.one (.int .i64 (p2.gFloor)),b6' p2.gSig]) rfl (.app .here) rfl)<|Zc (Z94 rfl rfl rfl (fun w hw=>Zcx f2 ((Z1m A1_0 Z1u) w hw))<|Z8 rfl<|Z4 _ (Z17 rfl rfl)<|Z4 _ (Z17 rfl rfl)<|Zc (Zu fun b4 u4=>Zc (Zl (q:=[b3' y2.1]) rfl rfl rfl rfl rfl .here<|Z8 rfl<|Z2<|Z0<|jH h fun k1 q1 h=>Zo (G:=fun t m=>∃ (i1:Bool),k1 i1=some r/\Fit [(6,.bool (i1))] (ck b4 43 [b3' y2.1]::(ck b3 36 [.one (.int .i64 (p2.gFloor)),b6' p2.gSig]::(ck b2 46 [b3' p1.gIssuer,.one (v1_0)]::(ck b1 132 [.one (.func (.func 36) #[] #[]),.one (.func (.func 119) #[] #[]),.one (.func (.func 120) #[] #[]),.one (.func (.func 121) #[] #[])] :: [])))) t m) ?_ ?_)))
 ·refine Zv<|Z6 _ (Z04 rfl)<|Z6 _ (Zb rfl rfl rfl)<|Z6 _ (Z04 rfl)<|Zmp rfl rfl rfl (fun hg1=>Z27 rfl _ (Z04 rfl) (Z28)) (fun hg1=>rfl) rfl<|Z6 _ (Z04 rfl)<|Z02c (tc:=31) h rfl (fun h=>?_) (fun h=>?_)
  ·refine oH h fun y3 f3 h=>oH h fun y4 f4 h=>Zkx rfl _ (Z1v rfl)<|Zkx rfl _ (Z1v rfl)<|Zi1 rfl _ (Z00 (p:=[b3' y2.1]) rfl .here rfl)<|Zi1 rfl _ (Z0p rfl (.there (.app .t2)) rfl)<|Zi1 rfl _ (Z00 (p:=[.one (.int .i64 (p2.gFloor)),b6' p2.gSig]) rfl (.there (.app .here)) rfl)<|Zi1 rfl _ (Z0p rfl (.there (.app .t2)) rfl)<|Zjp rfl (Z7l rfl rfl rfl (fun w hw=>Zd9  f3 ) fun v27 o2 R2=>?_)
   obtain ⟨_,w2,rfl,rfl,O2⟩:=R2
   exact ⟨(by repeat (first | exact Sup.refl _ | apply Sup.cons | apply Sup.app)),Zjp rfl (Z94 rfl rfl rfl (fun w hw=>Zu3.2 w b3) ⟨(by repeat (first | exact Sup.refl _ | apply Sup.cons | apply Sup.app)),Zkx rfl _ (Z1l rfl) (Zkr rfl _ (Z00 (p:=[b6' p2.gSig]) rfl (.app (.there (.app .here))) rfl) (Zkr rfl _ (Z0a rfl (fun w hw=>Z8q f4 (hG.at hw (by simp)) ((Z0b O2 .here) w hw))) (Z6 _ (Ztk rfl rfl) (Z6 _ (Z04 rfl) (Zy (⟨y4,h,⟨⟨rfl,trivial⟩,(.one (.app .here) (.one (.app (.app .here)) (.one (.app (.app .here)) (.one (.app (.app .here)) .nil))))⟩⟩)))) (by repeat (first | exact Sup.refl _ | apply Sup.cons | apply Sup.app))) (by repeat (first | exact Sup.refl _ | apply Sup.cons | apply Sup.app)))⟩)⟩
  ·exact Zft rfl rfl<|Zft rfl rfl<|Zc5 rfl rfl<|Zc5 rfl rfl<|Zc5 rfl rfl<|Zc5 rfl rfl<|Zi2 rfl rfl<|Zi2 rfl rfl<|Zft rfl rfl<|Zi2 rfl rfl<|Zi2 rfl rfl<|Z6 _ (Ztj rfl rfl)<|Z6 _ (Z04 rfl)<|Zy<|⟨false,h,⟨⟨rfl,trivial⟩,(.o (.one (.app .here) (.one (.app .here) (.one (.app .here) .nil))))⟩⟩
 ·rintro t m ⟨i1,h,hF⟩
  refine Zm hF ?_
  clear hF
  subst q1
  refine Zf ?_
  revert h; refine Z01 fun h=>?_
  subst h
  exact ⟨_,(.cons (.tmp rfl) .nil),rfl⟩
def Z2j (p0:Z0d) (p1:Z05):Option Bool :=
 opt (Zas) fun y1 =>
 opt (Z3o p0 p1) fun y2 =>
 some y2
theorem Zhv {W:World} {r:Bool} {p0:Z0d} {p1:Z05} {v0_0:Value} (h:Z2j p0 p1=some r) (hG:Globs W) (A0_0:Z6m Z0m W v0_0 p0.gGates) :
    Calls Tryz.prog 21 [agg [b3' p0.gIssuer,.one (v0_0)],agg [.one (.int .i64 (p1.gFloor)),b6' p1.gSig]].toArray W (Z3c W (.bool (r))):=by
 unfold Z2j at h
 refine Za mo ok21 rfl ?_
 refine Z0<|Z1<|Zc (Z06 (s:=[b3' p0.gIssuer,.one (v0_0)]) rfl fun b1 u1=>Zc (Z06 (s:=[.one (.int .i64 (p1.gFloor)),b6' p1.gSig]) rfl fun b2 u2=>Z8 rfl<|Z2<|Z0<|oH h fun y1 f1 h=>oH h fun y2 f2 h=>Zv<|Zh _ (Z00 (p:=[b3' p0.gIssuer,.one (v0_0)]) rfl .t1 rfl)<|Zh _ (Z00 (p:=[.one (.int .i64 (p1.gFloor)),b6' p1.gSig]) rfl .here rfl)<|Za7 _ (Z1d rfl (Zfo f1)) (Za7 _ (Z0a rfl (fun w hw=>Zbo f2 (hG.at hw (by simp)) ((Z1m A0_0 Z1u) w hw))) (Z6 _ (Z04 rfl) (Zy (Zf ?_))) (by repeat (first | exact Sup.refl _ | apply Sup.cons | apply Sup.app))) (by repeat (first | exact Sup.refl _ | apply Sup.cons | apply Sup.app))))
 revert h; refine Z01 fun h=>?_
 subst h
 exact ⟨_,(.cons (.tmp rfl) .nil),rfl⟩
def Z46 (p1:LI) (p2:Z05):Option (Z05) :=
 opt (Z5s p2) fun y1 =>
 opt (Za4 p1 y1) fun y2 =>
 some (⟨p2.gFloor,y2⟩:Z05)
theorem Zc1 {W:World} {r:Z05} {p1:LI} {p2:Z05} (h:Z46 p1 p2=some r) (hG:Globs W) :
    Calls Tryz.prog 57 [agg [.one (.func (.func 36) #[] #[]),.one (.func (.func 119) #[] #[]),.one (.func (.func 120) #[] #[]),.one (.func (.func 121) #[] #[])],agg [b3' p1],agg [.one (.int .i64 (p2.gFloor)),b6' p2.gSig]].toArray W (Z3c W (agg [.one (.int .i64 (r.gFloor)),b6' r.gSig])):=by
 unfold Z46 at h
 refine Za mo ok57 rfl ?_
 refine Z0<|Z1<|Zc (Z06 (s:=[.one (.func (.func 36) #[] #[]),.one (.func (.func 119) #[] #[]),.one (.func (.func 120) #[] #[]),.one (.func (.func 121) #[] #[])]) rfl fun b1 u1=>Zc (Z06 (s:=[b3' p1]) rfl fun b2 u2=>Zc (Z06 (s:=[.one (.int .i64 (p2.gFloor)),b6' p2.gSig]) rfl fun b3 u3=>Zc (Zu fun b4 u4=>Z2<|Z0<|oH h fun y1 f1 h=>oH h fun y2 f2 h=>Zv<|Z6 _ (Z1v rfl)<|Z6 _ (Z1v rfl)<|Zh _ (Z0p rfl .t3 rfl)<|Zh _ (Z00 (p:=[b3' p1]) rfl .t2 rfl)<|Zh _ (Z0p rfl .t3 rfl)<|Zh _ (Z00 (p:=[.one (.int .i64 (p2.gFloor)),b6' p2.gSig]) rfl .t1 rfl)<|Z2u (Z94 rfl rfl rfl (fun w hw=>Zu3.2 w b3) ⟨(by repeat (first | exact Sup.refl _ | apply Sup.cons | apply Sup.app)),Z2u (Z7l rfl rfl rfl (fun w hw=>Zd9  f1 ) fun v8 o1 R1=>?_)⟩)))))
 obtain ⟨_,w1,rfl,rfl,O1⟩:=R1
 refine ⟨(by repeat (first | exact Sup.refl _ | apply Sup.cons | apply Sup.app)),Za7 _ (Z0a rfl (fun w hw=>Zb8 f2 (hG.at hw (by simp)) ((Z0b O1 .here) w hw))) (Z6 _ (Z1l rfl) (Z1q rfl (Zl (q:=[.one (.int .i64 (p2.gFloor)),b6' y2]) rfl rfl rfl rfl rfl (.app .t1) (Zy (Z0 (Z1 (Z4 _ (Z00 (p:=[.one (.int .i64 (p2.gFloor)),b6' y2]) rfl (.app .t1) rfl) (Zc (Zl (q:=[.one (.int .i64 (p2.gFloor)),b6' y2]) rfl rfl rfl rfl rfl (.app .here) (Z2 (Zf ?_))))))))))) (by repeat (first | exact Sup.refl _ | apply Sup.cons | apply Sup.app))⟩
 revert h; refine Z01 fun h=>?_
 subst h
 exact ⟨_,(.cons (.agg rfl (.app .here) rfl) .nil),rfl⟩
def Z32 (p0:LI) (p1:Z05):Option (Z05) :=
 opt (Zas) fun y1 =>
 opt (Z46 p0 p1) fun y2 =>
 some y2
theorem Zii {W:World} {r:Z05} {p0:LI} {p1:Z05} (h:Z32 p0 p1=some r) (hG:Globs W) :
    Calls Tryz.prog 22 [agg [b3' p0],agg [.one (.int .i64 (p1.gFloor)),b6' p1.gSig]].toArray W (Z3c W (agg [.one (.int .i64 (r.gFloor)),b6' r.gSig])):=by
 unfold Z32 at h
 refine Za mo ok22 rfl ?_
 refine Z0<|Z1<|Zc (Z06 (s:=[b3' p0]) rfl fun b1 u1=>Zc (Z06 (s:=[.one (.int .i64 (p1.gFloor)),b6' p1.gSig]) rfl fun b2 u2=>Zc (Zu fun b3 u3=>Z2<|Z0<|oH h fun y1 f1 h=>oH h fun y2 f2 h=>Zv<|Zh _ (Z00 (p:=[b3' p0]) rfl .t2 rfl)<|Zh _ (Z00 (p:=[.one (.int .i64 (p1.gFloor)),b6' p1.gSig]) rfl .t1 rfl)<|Za7 _ (Z1d rfl (Zfo f1)) (Za7 _ (Z0a rfl (fun w hw=>Zc1 f2 (hG.at hw (by simp)))) (Z1q rfl (Zl (q:=[.one (.int .i64 (y2.gFloor)),b6' y2.gSig]) rfl rfl rfl rfl rfl .here (Zy (Zf ?_)))) (by repeat (first | exact Sup.refl _ | apply Sup.cons | apply Sup.app))) (by repeat (first | exact Sup.refl _ | apply Sup.cons | apply Sup.app)))))
 revert h; refine Z01 fun h=>?_
 subst h
 exact ⟨_,(.cons (.agg rfl .here rfl) .nil),rfl⟩
def Z42:Option Bool :=
 opt (Z7a) fun y1 =>
 opt (Zcw y1) fun y2 =>
 opt (Z9y y1 0) fun y3 =>
 chk (imp (((y2.2==0)&&y3.2)&&((y2.1.gGates.length:Int)==2)) (((Z32 y3.1 (⟨4,(List.replicate 64 0)⟩:Z05)).isSome&&(Z2j y2.1 (((Z32 y3.1 (⟨4,(List.replicate 64 0)⟩:Z05)).getD Zf0))).isSome))) <|
 some ((((y2.2==0)&&y3.2)&&((y2.1.gGates.length:Int)==2))&&((Z2j y2.1 (((Z32 y3.1 (⟨4,(List.replicate 64 0)⟩:Z05)).getD Zf0))).getD false))
theorem Z9s {W:World} {r:Bool} (h:Z42=some r) (hG:Globs W) :
    Calls Tryz.prog 7 [].toArray W (Z3c W (.bool (r))):=by
 unfold Z42 at h
 refine Za mo ok7 rfl ?_
 refine Z0<|Z1<|Z8 rfl<|Z2<|Z0<|oH h fun y1 f1 h=>Z1<|Z4 _ (Z1d rfl (Zf5 f1))<|Zc (Zu fun b1 u1=>Zc (Zl (q:=[.one (.int .i64 (y1.gGates)),.one (.int .i64 (y1.gWallets)),.one (.int .i64 (y1.gRows)),.one (.int .i64 (y1.gFlash)),.one (.int .i64 (y1.gSerials)),b3' y1.gSecret]) rfl rfl rfl rfl rfl .here<|Z2<|Z0<|oH h fun y2 f2 h=>Z1<|Z4 _ (Z00 (p:=[.one (.int .i64 (y1.gGates)),.one (.int .i64 (y1.gWallets)),.one (.int .i64 (y1.gRows)),.one (.int .i64 (y1.gFlash)),.one (.int .i64 (y1.gSerials)),b3' y1.gSecret]) rfl .here rfl)<|Zc (Zk rfl (fun w hw=>Zi9  f2 (hG.at hw (by simp))) fun v7 o1 R1=>?_)))
 obtain ⟨v9,w1,rfl,rfl,O1⟩:=R1
 refine Z8 rfl<|Z4 _ (Z17 rfl rfl)<|Z4 _ (Z17 rfl rfl)<|Zc (Zu fun b2 u2=>Zc (Zdg (q:=[b3' y2.1.gIssuer,.one (v9)]) rfl rfl rfl rfl (Z0y Z9x (Z0y (Z5i (Z9i.one1 (Z09.isSl O1))) Z52)) .here<|Z8 rfl<|Z2<|Z0<|oH h fun y3 f3 h=>Z1<|Z4 _ (Z00 (p:=[.one (.int .i64 (y1.gGates)),.one (.int .i64 (y1.gWallets)),.one (.int .i64 (y1.gRows)),.one (.int .i64 (y1.gFlash)),.one (.int .i64 (y1.gSerials)),b3' y1.gSecret]) rfl (.there (.app .here)) rfl)<|Z4 _ (Z0a rfl (fun w hw=>Zdy f3 (hG.at hw (by simp))))<|Z8 rfl<|Z4 _ (Z17 rfl rfl)<|Z4 _ (Z17 rfl rfl)<|Zc (Zu fun b3 u3=>Zc (Zl (q:=[b3' y3.1]) rfl rfl rfl rfl rfl .here<|Z8 rfl<|Z2<|Z0<|cH h fun c1 h=>Zv<|Z6 _ (Z04 rfl)<|Z6 _ (Zb rfl rfl rfl)<|Z6 _ (Z04 rfl)<|Zmp rfl rfl rfl (fun hg1=>Z27 rfl _ (Z04 rfl) (Z28)) (fun hg1=>rfl) rfl<|Z6 _ (Z04 rfl)<|Zue rfl rfl rfl (fun hg1=>Z27 rfl _ (Z1v rfl) (Z27 rfl _ (Z0p rfl .t1 rfl) (Z27 rfl _ (Z5j rfl (Shp.own O1)) (Z27 rfl _ (Zb rfl rfl rfl) (Z28))))) (fun hg1=>rfl) rfl<|Z6 _ (Z04 rfl)<|Zue rfl rfl rfl (fun hg1=>Z27 rfl _ (Z00 (p:=[b3' y2.1.gIssuer,.one (v9)]) rfl .t1 rfl) (Z27 rfl _ (Z00 (p:=[b3' y3.1]) rfl .here rfl) (Z27 rfl _ (Zcd (q:=[.one (.int .i64 (4)),b6' (List.replicate 64 0)]) (.one rfl rfl rfl BdR.nil)) (Z27 rfl _ (Z0a rfl (fun w hw=>Zii (p1:=(⟨4,(List.replicate 64 0)⟩:Z05)) (getD_some (z:=Zf0) (Z0id (Zrv c1 hg1))) (hG.at hw (by simp)))) (Z27 rfl _ (Z0a rfl (fun w hw=>Zhv (getD_some (z:=false) (Z0ie (Zrv c1 hg1))) (hG.at hw (by simp)) ((Z0b O1 .t2) w hw))) (Z28)))))) (fun hg1=>rfl) rfl<|Z6 _ (Z04 rfl)<|Zy<|Zf ?_))))
 revert h; refine Z01 fun h=>?_
 subst h
 exact ⟨_,(.cons (.tmp rfl) .nil),rfl⟩
def Z4i (p1:LI) (p2:Zx):Option (Zx) :=
 opt (Z6s p2) fun y1 =>
 opt (Za4 p1 y1) fun y2 =>
 some (⟨p2.gSerial,p2.gRides,p2.gPrice,p2.gAnchor,y2⟩:Zx)
theorem Zc9 {W:World} {r:Zx} {p1:LI} {p2:Zx} (h:Z4i p1 p2=some r) (hG:Globs W) :
    Calls Tryz.prog 45 [agg [.one (.func (.func 12) #[] #[]),.one (.func (.func 99) #[] #[]),.one (.func (.func 100) #[] #[]),.one (.func (.func 101) #[] #[])],agg [b3' p1],agg [.one (.int .i64 (p2.gSerial)),.one (.int .i64 (p2.gRides)),.one (.int .i64 (p2.gPrice)),b3' p2.gAnchor,b6' p2.gSig]].toArray W (Z3c W (agg [.one (.int .i64 (r.gSerial)),.one (.int .i64 (r.gRides)),.one (.int .i64 (r.gPrice)),b3' r.gAnchor,b6' r.gSig])):=by
 unfold Z4i at h
 refine Za mo ok45 rfl ?_
 refine Z0<|Z1<|Zc (Z06 (s:=[.one (.func (.func 12) #[] #[]),.one (.func (.func 99) #[] #[]),.one (.func (.func 100) #[] #[]),.one (.func (.func 101) #[] #[])]) rfl fun b1 u1=>Zc (Z06 (s:=[b3' p1]) rfl fun b2 u2=>Zc (Z06 (s:=[.one (.int .i64 (p2.gSerial)),.one (.int .i64 (p2.gRides)),.one (.int .i64 (p2.gPrice)),b3' p2.gAnchor,b6' p2.gSig]) rfl fun b3 u3=>Zc (Zu fun b4 u4=>Z2<|Z0<|oH h fun y1 f1 h=>oH h fun y2 f2 h=>Zv<|Z6 _ (Z1v rfl)<|Z6 _ (Z1v rfl)<|Zh _ (Z0p rfl .t3 rfl)<|Zh _ (Z00 (p:=[b3' p1]) rfl .t2 rfl)<|Zh _ (Z0p rfl .t3 rfl)<|Zh _ (Z00 (p:=[.one (.int .i64 (p2.gSerial)),.one (.int .i64 (p2.gRides)),.one (.int .i64 (p2.gPrice)),b3' p2.gAnchor,b6' p2.gSig]) rfl .t1 rfl)<|Z2u (Z94 rfl rfl rfl (fun w hw=>Zu0.2 w b3) ⟨(by repeat (first | exact Sup.refl _ | apply Sup.cons | apply Sup.app)),Z2u (Z7l rfl rfl rfl (fun w hw=>Zdo  f1 ) fun v8 o1 R1=>?_)⟩)))))
 obtain ⟨_,w1,rfl,rfl,O1⟩:=R1
 refine ⟨(by repeat (first | exact Sup.refl _ | apply Sup.cons | apply Sup.app)),Za7 _ (Z0a rfl (fun w hw=>Zb8 f2 (hG.at hw (by simp)) ((Z0b O1 .here) w hw))) (Z6 _ (Z1l rfl) (Z1q rfl (Zl (q:=[.one (.int .i64 (p2.gSerial)),.one (.int .i64 (p2.gRides)),.one (.int .i64 (p2.gPrice)),b3' p2.gAnchor,b6' y2]) rfl rfl rfl rfl rfl (.app .t1) (Zy (Z0 (Z1 (Z4 _ (Z00 (p:=[.one (.int .i64 (p2.gSerial)),.one (.int .i64 (p2.gRides)),.one (.int .i64 (p2.gPrice)),b3' p2.gAnchor,b6' y2]) rfl (.app .t1) rfl) (Zc (Zl (q:=[.one (.int .i64 (p2.gSerial)),.one (.int .i64 (p2.gRides)),.one (.int .i64 (p2.gPrice)),b3' p2.gAnchor,b6' y2]) rfl rfl rfl rfl rfl (.app .here) (Z2 (Zf ?_))))))))))) (by repeat (first | exact Sup.refl _ | apply Sup.cons | apply Sup.app))⟩
 revert h; refine Z01 fun h=>?_
 subst h
 exact ⟨_,(.cons (.agg rfl (.app .here) rfl) .nil),rfl⟩
def Z89 (p0:LI) (p1:Zx):Option (Zx) :=
 opt (Zcf) fun y1 =>
 opt (Z4i p0 p1) fun y2 =>
 some y2
theorem Zjb {W:World} {r:Zx} {p0:LI} {p1:Zx} (h:Z89 p0 p1=some r) (hG:Globs W) :
    Calls Tryz.prog 13 [agg [b3' p0],agg [.one (.int .i64 (p1.gSerial)),.one (.int .i64 (p1.gRides)),.one (.int .i64 (p1.gPrice)),b3' p1.gAnchor,b6' p1.gSig]].toArray W (Z3c W (agg [.one (.int .i64 (r.gSerial)),.one (.int .i64 (r.gRides)),.one (.int .i64 (r.gPrice)),b3' r.gAnchor,b6' r.gSig])):=by
 unfold Z89 at h
 refine Za mo ok13 rfl ?_
 refine Z0<|Z1<|Zc (Z06 (s:=[b3' p0]) rfl fun b1 u1=>Zc (Z06 (s:=[.one (.int .i64 (p1.gSerial)),.one (.int .i64 (p1.gRides)),.one (.int .i64 (p1.gPrice)),b3' p1.gAnchor,b6' p1.gSig]) rfl fun b2 u2=>Zc (Zu fun b3 u3=>Z2<|Z0<|oH h fun y1 f1 h=>oH h fun y2 f2 h=>Zv<|Zh _ (Z00 (p:=[b3' p0]) rfl .t2 rfl)<|Zh _ (Z00 (p:=[.one (.int .i64 (p1.gSerial)),.one (.int .i64 (p1.gRides)),.one (.int .i64 (p1.gPrice)),b3' p1.gAnchor,b6' p1.gSig]) rfl .t1 rfl)<|Za7 _ (Z1d rfl (Zgx f1)) (Za7 _ (Z0a rfl (fun w hw=>Zc9 f2 (hG.at hw (by simp)))) (Z1q rfl (Zl (q:=[.one (.int .i64 (y2.gSerial)),.one (.int .i64 (y2.gRides)),.one (.int .i64 (y2.gPrice)),b3' y2.gAnchor,b6' y2.gSig]) rfl rfl rfl rfl rfl .here (Zy (Zf ?_)))) (by repeat (first | exact Sup.refl _ | apply Sup.cons | apply Sup.app))) (by repeat (first | exact Sup.refl _ | apply Sup.cons | apply Sup.app)))))
 revert h; refine Z01 fun h=>?_
 subst h
 exact ⟨_,(.cons (.agg rfl .here rfl) .nil),rfl⟩
def Z3p (p1:LI) (p2:Zz):Option (Zz) :=
 opt (Z4z p2) fun y1 =>
 opt (Za4 p1 y1) fun y2 =>
 some (⟨p2.gCert,y2⟩:Zz)
theorem Zbp {W:World} {r:Zz} {p1:LI} {p2:Zz} (h:Z3p p1 p2=some r) (hG:Globs W) :
    Calls Tryz.prog 47 [agg [.one (.func (.func 33) #[] #[]),.one (.func (.func 103) #[] #[]),.one (.func (.func 104) #[] #[]),.one (.func (.func 105) #[] #[])],agg [b3' p1],agg [.one (.int .i64 (p2.gCert.gSerial)),.one (.int .i64 (p2.gCert.gRides)),.one (.int .i64 (p2.gCert.gPrice)),b3' p2.gCert.gAnchor,b6' p2.gCert.gSig,b6' p2.gSig]].toArray W (Z3c W (agg [.one (.int .i64 (r.gCert.gSerial)),.one (.int .i64 (r.gCert.gRides)),.one (.int .i64 (r.gCert.gPrice)),b3' r.gCert.gAnchor,b6' r.gCert.gSig,b6' r.gSig])):=by
 unfold Z3p at h
 refine Za mo ok47 rfl ?_
 refine Z0<|Z1<|Zc (Z06 (s:=[.one (.func (.func 33) #[] #[]),.one (.func (.func 103) #[] #[]),.one (.func (.func 104) #[] #[]),.one (.func (.func 105) #[] #[])]) rfl fun b1 u1=>Zc (Z06 (s:=[b3' p1]) rfl fun b2 u2=>Zc (Z06 (s:=[.one (.int .i64 (p2.gCert.gSerial)),.one (.int .i64 (p2.gCert.gRides)),.one (.int .i64 (p2.gCert.gPrice)),b3' p2.gCert.gAnchor,b6' p2.gCert.gSig,b6' p2.gSig]) rfl fun b3 u3=>Zc (Zu fun b4 u4=>Z2<|Z0<|oH h fun y1 f1 h=>oH h fun y2 f2 h=>Zv<|Z6 _ (Z1v rfl)<|Z6 _ (Z1v rfl)<|Zh _ (Z0p rfl .t3 rfl)<|Zh _ (Z00 (p:=[b3' p1]) rfl .t2 rfl)<|Zh _ (Z0p rfl .t3 rfl)<|Zh _ (Z00 (p:=[.one (.int .i64 (p2.gCert.gSerial)),.one (.int .i64 (p2.gCert.gRides)),.one (.int .i64 (p2.gCert.gPrice)),b3' p2.gCert.gAnchor,b6' p2.gCert.gSig,b6' p2.gSig]) rfl .t1 (by kernel_rfl))<|Z2u (Z94 rfl rfl rfl (fun w hw=>Zu1.2 w b3) ⟨(by repeat (first | exact Sup.refl _ | apply Sup.cons | apply Sup.app)),Z2u (Z7l rfl rfl rfl (fun w hw=>Zc4  f1 ) fun v8 o1 R1=>?_)⟩)))))
 obtain ⟨_,w1,rfl,rfl,O1⟩:=R1
 refine ⟨(by repeat (first | exact Sup.refl _ | apply Sup.cons | apply Sup.app)),Za7 _ (Z0a rfl (fun w hw=>Zb8 f2 (hG.at hw (by simp)) ((Z0b O1 .here) w hw))) (Z6 _ (Z1l rfl) (Z1q rfl (Zl (p:=[b6' y2]) (q:=[.one (.int .i64 (p2.gCert.gSerial)),.one (.int .i64 (p2.gCert.gRides)),.one (.int .i64 (p2.gCert.gPrice)),b3' p2.gCert.gAnchor,b6' p2.gCert.gSig,b6' y2]) rfl rfl (by kernel_rfl) (by kernel_rfl) (by kernel_rfl) (.app .t1) (Zy (Z0 (Z1 (Z4 _ (Z00 (p:=[.one (.int .i64 (p2.gCert.gSerial)),.one (.int .i64 (p2.gCert.gRides)),.one (.int .i64 (p2.gCert.gPrice)),b3' p2.gCert.gAnchor,b6' p2.gCert.gSig,b6' y2]) rfl (.app .t1) (by kernel_rfl)) (Zc (Zl (p:=[.one (.int .i64 (p2.gCert.gSerial)),.one (.int .i64 (p2.gCert.gRides)),.one (.int .i64 (p2.gCert.gPrice)),b3' p2.gCert.gAnchor,b6' p2.gCert.gSig,b6' y2]) (q:=[.one (.int .i64 (p2.gCert.gSerial)),.one (.int .i64 (p2.gCert.gRides)),.one (.int .i64 (p2.gCert.gPrice)),b3' p2.gCert.gAnchor,b6' p2.gCert.gSig,b6' y2]) rfl rfl (by kernel_rfl) (by kernel_rfl) (by kernel_rfl) (.app .here) (Z2 (Zf ?_))))))))))) (by repeat (first | exact Sup.refl _ | apply Sup.cons | apply Sup.app))⟩
 revert h; refine Z01 fun h=>?_
 subst h
 exact ⟨_,(.cons (.agg rfl (.app .here) rfl) .nil),rfl⟩
def Z65 (p0:LI) (p1:Zz):Option (Zz) :=
 opt (Z9b) fun y1 =>
 opt (Z3p p0 p1) fun y2 =>
 some y2
theorem Zhw {W:World} {r:Zz} {p0:LI} {p1:Zz} (h:Z65 p0 p1=some r) (hG:Globs W) :
    Calls Tryz.prog 14 [agg [b3' p0],agg [.one (.int .i64 (p1.gCert.gSerial)),.one (.int .i64 (p1.gCert.gRides)),.one (.int .i64 (p1.gCert.gPrice)),b3' p1.gCert.gAnchor,b6' p1.gCert.gSig,b6' p1.gSig]].toArray W (Z3c W (agg [.one (.int .i64 (r.gCert.gSerial)),.one (.int .i64 (r.gCert.gRides)),.one (.int .i64 (r.gCert.gPrice)),b3' r.gCert.gAnchor,b6' r.gCert.gSig,b6' r.gSig])):=by
 unfold Z65 at h
 refine Za mo ok14 rfl ?_
 refine Z0<|Z1<|Zc (Z06 (s:=[b3' p0]) rfl fun b1 u1=>Zc (Z06 (s:=[.one (.int .i64 (p1.gCert.gSerial)),.one (.int .i64 (p1.gCert.gRides)),.one (.int .i64 (p1.gCert.gPrice)),b3' p1.gCert.gAnchor,b6' p1.gCert.gSig,b6' p1.gSig]) rfl fun b2 u2=>Zc (Zu fun b3 u3=>Z2<|Z0<|oH h fun y1 f1 h=>oH h fun y2 f2 h=>Zv<|Zh _ (Z00 (p:=[b3' p0]) rfl .t2 rfl)<|Zh _ (Z00 (p:=[.one (.int .i64 (p1.gCert.gSerial)),.one (.int .i64 (p1.gCert.gRides)),.one (.int .i64 (p1.gCert.gPrice)),b3' p1.gCert.gAnchor,b6' p1.gCert.gSig,b6' p1.gSig]) rfl .t1 (by kernel_rfl))<|Za7 _ (Z1d rfl (Zen f1)) (Za7 _ (Z0a rfl (fun w hw=>Zbp f2 (hG.at hw (by simp)))) (Z1q rfl (Zl (p:=[.one (.int .i64 (y2.gCert.gSerial)),.one (.int .i64 (y2.gCert.gRides)),.one (.int .i64 (y2.gCert.gPrice)),b3' y2.gCert.gAnchor,b6' y2.gCert.gSig,b6' y2.gSig]) (q:=[.one (.int .i64 (y2.gCert.gSerial)),.one (.int .i64 (y2.gCert.gRides)),.one (.int .i64 (y2.gCert.gPrice)),b3' y2.gCert.gAnchor,b6' y2.gCert.gSig,b6' y2.gSig]) rfl rfl (by kernel_rfl) (by kernel_rfl) (by kernel_rfl) .here (Zy (Zf ?_)))) (by repeat (first | exact Sup.refl _ | apply Sup.cons | apply Sup.app))) (by repeat (first | exact Sup.refl _ | apply Sup.cons | apply Sup.app)))))
 revert h; refine Z01 fun h=>?_
 subst h
 exact ⟨_,(.cons (.agg rfl .here rfl) .nil),rfl⟩
def Z2o (p1:LI) (p2:Zg):Option (Zg) :=
 opt (Z2t p2) fun y1 =>
 opt (Za4 p1 y1) fun y2 =>
 some (⟨p2.gCert,y2⟩:Zg)
theorem Z9g {W:World} {r:Zg} {p1:LI} {p2:Zg} (h:Z2o p1 p2=some r) (hG:Globs W) :
    Calls Tryz.prog 49 [agg [.one (.func (.func 35) #[] #[]),.one (.func (.func 106) #[] #[]),.one (.func (.func 107) #[] #[]),.one (.func (.func 108) #[] #[])],agg [b3' p1],agg [.one (.int .i64 (p2.gCert.gSerial)),.one (.int .i64 (p2.gCert.gRides)),.one (.int .i64 (p2.gCert.gPrice)),b3' p2.gCert.gAnchor,b6' p2.gCert.gSig,b6' p2.gSig]].toArray W (Z3c W (agg [.one (.int .i64 (r.gCert.gSerial)),.one (.int .i64 (r.gCert.gRides)),.one (.int .i64 (r.gCert.gPrice)),b3' r.gCert.gAnchor,b6' r.gCert.gSig,b6' r.gSig])):=by
 unfold Z2o at h
 refine Za mo ok49 rfl ?_
 refine Z0<|Z1<|Zc (Z06 (s:=[.one (.func (.func 35) #[] #[]),.one (.func (.func 106) #[] #[]),.one (.func (.func 107) #[] #[]),.one (.func (.func 108) #[] #[])]) rfl fun b1 u1=>Zc (Z06 (s:=[b3' p1]) rfl fun b2 u2=>Zc (Z06 (s:=[.one (.int .i64 (p2.gCert.gSerial)),.one (.int .i64 (p2.gCert.gRides)),.one (.int .i64 (p2.gCert.gPrice)),b3' p2.gCert.gAnchor,b6' p2.gCert.gSig,b6' p2.gSig]) rfl fun b3 u3=>Zc (Zu fun b4 u4=>Z2<|Z0<|oH h fun y1 f1 h=>oH h fun y2 f2 h=>Zv<|Z6 _ (Z1v rfl)<|Z6 _ (Z1v rfl)<|Zh _ (Z0p rfl .t3 rfl)<|Zh _ (Z00 (p:=[b3' p1]) rfl .t2 rfl)<|Zh _ (Z0p rfl .t3 rfl)<|Zh _ (Z00 (p:=[.one (.int .i64 (p2.gCert.gSerial)),.one (.int .i64 (p2.gCert.gRides)),.one (.int .i64 (p2.gCert.gPrice)),b3' p2.gCert.gAnchor,b6' p2.gCert.gSig,b6' p2.gSig]) rfl .t1 (by kernel_rfl))<|Z2u (Z94 rfl rfl rfl (fun w hw=>Zu2.2 w b3) ⟨(by repeat (first | exact Sup.refl _ | apply Sup.cons | apply Sup.app)),Z2u (Z7l rfl rfl rfl (fun w hw=>Z9e  f1 ) fun v8 o1 R1=>?_)⟩)))))
 obtain ⟨_,w1,rfl,rfl,O1⟩:=R1
 refine ⟨(by repeat (first | exact Sup.refl _ | apply Sup.cons | apply Sup.app)),Za7 _ (Z0a rfl (fun w hw=>Zb8 f2 (hG.at hw (by simp)) ((Z0b O1 .here) w hw))) (Z6 _ (Z1l rfl) (Z1q rfl (Zl (p:=[b6' y2]) (q:=[.one (.int .i64 (p2.gCert.gSerial)),.one (.int .i64 (p2.gCert.gRides)),.one (.int .i64 (p2.gCert.gPrice)),b3' p2.gCert.gAnchor,b6' p2.gCert.gSig,b6' y2]) rfl rfl (by kernel_rfl) (by kernel_rfl) (by kernel_rfl) (.app .t1) (Zy (Z0 (Z1 (Z4 _ (Z00 (p:=[.one (.int .i64 (p2.gCert.gSerial)),.one (.int .i64 (p2.gCert.gRides)),.one (.int .i64 (p2.gCert.gPrice)),b3' p2.gCert.gAnchor,b6' p2.gCert.gSig,b6' y2]) rfl (.app .t1) (by kernel_rfl)) (Zc (Zl (p:=[.one (.int .i64 (p2.gCert.gSerial)),.one (.int .i64 (p2.gCert.gRides)),.one (.int .i64 (p2.gCert.gPrice)),b3' p2.gCert.gAnchor,b6' p2.gCert.gSig,b6' y2]) (q:=[.one (.int .i64 (p2.gCert.gSerial)),.one (.int .i64 (p2.gCert.gRides)),.one (.int .i64 (p2.gCert.gPrice)),b3' p2.gCert.gAnchor,b6' p2.gCert.gSig,b6' y2]) rfl rfl (by kernel_rfl) (by kernel_rfl) (by kernel_rfl) (.app .here) (Z2 (Zf ?_))))))))))) (by repeat (first | exact Sup.refl _ | apply Sup.cons | apply Sup.app))⟩
 revert h; refine Z01 fun h=>?_
 subst h
 exact ⟨_,(.cons (.agg rfl (.app .here) rfl) .nil),rfl⟩
def Z3m (p0:LI) (p1:Zg):Option (Zg) :=
 opt (Z57) fun y1 =>
 opt (Z2o p0 p1) fun y2 =>
 some y2
theorem Zem {W:World} {r:Zg} {p0:LI} {p1:Zg} (h:Z3m p0 p1=some r) (hG:Globs W) :
    Calls Tryz.prog 15 [agg [b3' p0],agg [.one (.int .i64 (p1.gCert.gSerial)),.one (.int .i64 (p1.gCert.gRides)),.one (.int .i64 (p1.gCert.gPrice)),b3' p1.gCert.gAnchor,b6' p1.gCert.gSig,b6' p1.gSig]].toArray W (Z3c W (agg [.one (.int .i64 (r.gCert.gSerial)),.one (.int .i64 (r.gCert.gRides)),.one (.int .i64 (r.gCert.gPrice)),b3' r.gCert.gAnchor,b6' r.gCert.gSig,b6' r.gSig])):=by
 unfold Z3m at h
 refine Za mo ok15 rfl ?_
 refine Z0<|Z1<|Zc (Z06 (s:=[b3' p0]) rfl fun b1 u1=>Zc (Z06 (s:=[.one (.int .i64 (p1.gCert.gSerial)),.one (.int .i64 (p1.gCert.gRides)),.one (.int .i64 (p1.gCert.gPrice)),b3' p1.gCert.gAnchor,b6' p1.gCert.gSig,b6' p1.gSig]) rfl fun b2 u2=>Zc (Zu fun b3 u3=>Z2<|Z0<|oH h fun y1 f1 h=>oH h fun y2 f2 h=>Zv<|Zh _ (Z00 (p:=[b3' p0]) rfl .t2 rfl)<|Zh _ (Z00 (p:=[.one (.int .i64 (p1.gCert.gSerial)),.one (.int .i64 (p1.gCert.gRides)),.one (.int .i64 (p1.gCert.gPrice)),b3' p1.gCert.gAnchor,b6' p1.gCert.gSig,b6' p1.gSig]) rfl .t1 (by kernel_rfl))<|Za7 _ (Z1d rfl (Zbq f1)) (Za7 _ (Z0a rfl (fun w hw=>Z9g f2 (hG.at hw (by simp)))) (Z1q rfl (Zl (p:=[.one (.int .i64 (y2.gCert.gSerial)),.one (.int .i64 (y2.gCert.gRides)),.one (.int .i64 (y2.gCert.gPrice)),b3' y2.gCert.gAnchor,b6' y2.gCert.gSig,b6' y2.gSig]) (q:=[.one (.int .i64 (y2.gCert.gSerial)),.one (.int .i64 (y2.gCert.gRides)),.one (.int .i64 (y2.gCert.gPrice)),b3' y2.gCert.gAnchor,b6' y2.gCert.gSig,b6' y2.gSig]) rfl rfl (by kernel_rfl) (by kernel_rfl) (by kernel_rfl) .here (Zy (Zf ?_)))) (by repeat (first | exact Sup.refl _ | apply Sup.cons | apply Sup.app))) (by repeat (first | exact Sup.refl _ | apply Sup.cons | apply Sup.app)))))
 revert h; refine Z01 fun h=>?_
 subst h
 exact ⟨_,(.cons (.agg rfl .here rfl) .nil),rfl⟩
def Z45 (p1:Z0d) (p2:Zx):Option Bool :=
 opt (Z8r p2) fun y1 =>
 opt (Z5k p1 p2) fun y2 =>
 jn (fun (i1:Bool)=>some i1) fun k1=>br (((y1.2==0)&&y2.2)) (
 opt (Z6s p2) fun y3 =>
 opt (Z1h y2.1 y3 p2.gSig) fun y4 =>
 k1 y4
 ) (
 k1 false
 )
theorem Zc0 {W:World} {r:Bool} {p1:Z0d} {p2:Zx} {v1_0:Value} (h:Z45 p1 p2=some r) (hG:Globs W) (A1_0:Z6m Z0m W v1_0 p1.gGates) :
    Calls Tryz.prog 61 [agg [.one (.func (.func 12) #[] #[]),.one (.func (.func 99) #[] #[]),.one (.func (.func 100) #[] #[]),.one (.func (.func 101) #[] #[])],agg [b3' p1.gIssuer,.one (v1_0)],agg [.one (.int .i64 (p2.gSerial)),.one (.int .i64 (p2.gRides)),.one (.int .i64 (p2.gPrice)),b3' p2.gAnchor,b6' p2.gSig]].toArray W (Z3c W (.bool (r))):=by
 unfold Z45 at h
 refine Za mo ok61 rfl ?_
 refine Z0<|Z1<|Zc (Z06 (s:=[.one (.func (.func 12) #[] #[]),.one (.func (.func 99) #[] #[]),.one (.func (.func 100) #[] #[]),.one (.func (.func 101) #[] #[])]) rfl fun b1 u1=>Zc (Z06 (s:=[b3' p1.gIssuer,.one (v1_0)]) rfl fun b2 u2=>Zc (Z06 (s:=[.one (.int .i64 (p2.gSerial)),.one (.int .i64 (p2.gRides)),.one (.int .i64 (p2.gPrice)),b3' p2.gAnchor,b6' p2.gSig]) rfl fun b3 u3=>Z8 rfl<|Z2<|Z0<|oH h fun y1 f1 h=>Z1<|Z4 _ (Z1v rfl)<|Z4 _ (Z0p rfl .t2 rfl)<|Z4 _ (Z00 (p:=[.one (.int .i64 (p2.gSerial)),.one (.int .i64 (p2.gRides)),.one (.int .i64 (p2.gPrice)),b3' p2.gAnchor,b6' p2.gSig]) rfl .here rfl)<|Zc (Z7l rfl rfl rfl (fun w hw=>Zbu  f1 ) fun v7 o1 R1=>?_))))
 obtain ⟨v9,w1,rfl,rfl,O1⟩:=R1
 refine Z8 rfl<|Z4 _ (Z17 rfl rfl)<|Z4 _ (Z17 rfl rfl)<|Z8 rfl<|Z8 rfl<|Z2<|Z0<|oH h fun y2 f2 h=>Z1<|Z4 _ (Z1v rfl)<|Z4 _ (Z0p rfl (.app .t2) rfl)<|Z4 _ (Z00 (p:=[b3' p1.gIssuer,.one (v1_0)]) rfl (.app .t1) rfl)<|Z4 _ (Z00 (p:=[.one (.int .i64 (p2.gSerial)),.one (.int .i64 (p2.gRides)),.one (.int .i64 (p2.gPrice)),b3' p2.gAnchor,b6' p2.gSig]) rfl (.app .here) rfl)<|Zc (Z94 rfl rfl rfl (fun w hw=>Zdc f2 ((Z1m A1_0 Z1u) w hw))<|Z8 rfl<|Z4 _ (Z17 rfl rfl)<|Z4 _ (Z17 rfl rfl)<|Zc (Zu fun b4 u4=>Zc (Zl (q:=[b3' y2.1]) rfl rfl rfl rfl rfl .here<|Z8 rfl<|Z2<|Z0<|jH h fun k1 q1 h=>Zo (G:=fun t m=>∃ (i1:Bool),k1 i1=some r/\Fit [(6,.bool (i1))] (ck b4 43 [b3' y2.1]::(ck b3 29 [.one (.int .i64 (p2.gSerial)),.one (.int .i64 (p2.gRides)),.one (.int .i64 (p2.gPrice)),b3' p2.gAnchor,b6' p2.gSig]::(ck b2 46 [b3' p1.gIssuer,.one (v1_0)]::(ck b1 102 [.one (.func (.func 12) #[] #[]),.one (.func (.func 99) #[] #[]),.one (.func (.func 100) #[] #[]),.one (.func (.func 101) #[] #[])] :: [])))) t m) ?_ ?_)))
 ·refine Zv<|Z6 _ (Z04 rfl)<|Z6 _ (Zb rfl rfl rfl)<|Z6 _ (Z04 rfl)<|Zmp rfl rfl rfl (fun hg1=>Z27 rfl _ (Z04 rfl) (Z28)) (fun hg1=>rfl) rfl<|Z6 _ (Z04 rfl)<|Z02c (tc:=31) h rfl (fun h=>?_) (fun h=>?_)
  ·refine oH h fun y3 f3 h=>oH h fun y4 f4 h=>Zkx rfl _ (Z1v rfl)<|Zkx rfl _ (Z1v rfl)<|Zi1 rfl _ (Z00 (p:=[b3' y2.1]) rfl .here rfl)<|Zi1 rfl _ (Z0p rfl (.there (.app .t2)) rfl)<|Zi1 rfl _ (Z00 (p:=[.one (.int .i64 (p2.gSerial)),.one (.int .i64 (p2.gRides)),.one (.int .i64 (p2.gPrice)),b3' p2.gAnchor,b6' p2.gSig]) rfl (.there (.app .here)) rfl)<|Zi1 rfl _ (Z0p rfl (.there (.app .t2)) rfl)<|Zjp rfl (Z7l rfl rfl rfl (fun w hw=>Zdo  f3 ) fun v27 o2 R2=>?_)
   obtain ⟨_,w2,rfl,rfl,O2⟩:=R2
   exact ⟨(by repeat (first | exact Sup.refl _ | apply Sup.cons | apply Sup.app)),Zjp rfl (Z94 rfl rfl rfl (fun w hw=>Zu0.2 w b3) ⟨(by repeat (first | exact Sup.refl _ | apply Sup.cons | apply Sup.app)),Zkx rfl _ (Z1l rfl) (Zkr rfl _ (Z00 (p:=[b6' p2.gSig]) rfl (.app (.there (.app .here))) rfl) (Zkr rfl _ (Z0a rfl (fun w hw=>Z8q f4 (hG.at hw (by simp)) ((Z0b O2 .here) w hw))) (Z6 _ (Ztk rfl rfl) (Z6 _ (Z04 rfl) (Zy (⟨y4,h,⟨⟨rfl,trivial⟩,(.one (.app .here) (.one (.app (.app .here)) (.one (.app (.app .here)) (.one (.app (.app .here)) .nil))))⟩⟩)))) (by repeat (first | exact Sup.refl _ | apply Sup.cons | apply Sup.app))) (by repeat (first | exact Sup.refl _ | apply Sup.cons | apply Sup.app)))⟩)⟩
  ·exact Zft rfl rfl<|Zft rfl rfl<|Zc5 rfl rfl<|Zc5 rfl rfl<|Zc5 rfl rfl<|Zc5 rfl rfl<|Zi2 rfl rfl<|Zi2 rfl rfl<|Zft rfl rfl<|Zi2 rfl rfl<|Zi2 rfl rfl<|Z6 _ (Ztj rfl rfl)<|Z6 _ (Z04 rfl)<|Zy<|⟨false,h,⟨⟨rfl,trivial⟩,(.o (.one (.app .here) (.one (.app .here) (.one (.app .here) .nil))))⟩⟩
 ·rintro t m ⟨i1,h,hF⟩
  refine Zm hF ?_
  clear hF
  subst q1
  refine Zf ?_
  revert h; refine Z01 fun h=>?_
  subst h
  exact ⟨_,(.cons (.tmp rfl) .nil),rfl⟩
def Z23 (p0:Z0d) (p1:Zx):Option Bool :=
 opt (Zcf) fun y1 =>
 opt (Z45 p0 p1) fun y2 =>
 some y2
theorem Zih {W:World} {r:Bool} {p0:Z0d} {p1:Zx} {v0_0:Value} (h:Z23 p0 p1=some r) (hG:Globs W) (A0_0:Z6m Z0m W v0_0 p0.gGates) :
    Calls Tryz.prog 24 [agg [b3' p0.gIssuer,.one (v0_0)],agg [.one (.int .i64 (p1.gSerial)),.one (.int .i64 (p1.gRides)),.one (.int .i64 (p1.gPrice)),b3' p1.gAnchor,b6' p1.gSig]].toArray W (Z3c W (.bool (r))):=by
 unfold Z23 at h
 refine Za mo ok24 rfl ?_
 refine Z0<|Z1<|Zc (Z06 (s:=[b3' p0.gIssuer,.one (v0_0)]) rfl fun b1 u1=>Zc (Z06 (s:=[.one (.int .i64 (p1.gSerial)),.one (.int .i64 (p1.gRides)),.one (.int .i64 (p1.gPrice)),b3' p1.gAnchor,b6' p1.gSig]) rfl fun b2 u2=>Z8 rfl<|Z2<|Z0<|oH h fun y1 f1 h=>oH h fun y2 f2 h=>Zv<|Zh _ (Z00 (p:=[b3' p0.gIssuer,.one (v0_0)]) rfl .t1 rfl)<|Zh _ (Z00 (p:=[.one (.int .i64 (p1.gSerial)),.one (.int .i64 (p1.gRides)),.one (.int .i64 (p1.gPrice)),b3' p1.gAnchor,b6' p1.gSig]) rfl .here rfl)<|Za7 _ (Z1d rfl (Zgx f1)) (Za7 _ (Z0a rfl (fun w hw=>Zc0 f2 (hG.at hw (by simp)) ((Z1m A0_0 Z1u) w hw))) (Z6 _ (Z04 rfl) (Zy (Zf ?_))) (by repeat (first | exact Sup.refl _ | apply Sup.cons | apply Sup.app))) (by repeat (first | exact Sup.refl _ | apply Sup.cons | apply Sup.app))))
 revert h; refine Z01 fun h=>?_
 subst h
 exact ⟨_,(.cons (.tmp rfl) .nil),rfl⟩
def Z3g (p1:Z0d) (p2:Zz):Option Bool :=
 opt (Za6 p2) fun y1 =>
 opt (Z4h p1 p2) fun y2 =>
 jn (fun (i1:Bool)=>some i1) fun k1=>br (((y1.2==0)&&y2.2)) (
 opt (Z4z p2) fun y3 =>
 opt (Z1h y2.1 y3 p2.gSig) fun y4 =>
 k1 y4
 ) (
 k1 false
 )
theorem Zat {W:World} {r:Bool} {p1:Z0d} {p2:Zz} {v1_0:Value} (h:Z3g p1 p2=some r) (hG:Globs W) (A1_0:Z6m Z0m W v1_0 p1.gGates) :
    Calls Tryz.prog 62 [agg [.one (.func (.func 33) #[] #[]),.one (.func (.func 103) #[] #[]),.one (.func (.func 104) #[] #[]),.one (.func (.func 105) #[] #[])],agg [b3' p1.gIssuer,.one (v1_0)],agg [.one (.int .i64 (p2.gCert.gSerial)),.one (.int .i64 (p2.gCert.gRides)),.one (.int .i64 (p2.gCert.gPrice)),b3' p2.gCert.gAnchor,b6' p2.gCert.gSig,b6' p2.gSig]].toArray W (Z3c W (.bool (r))):=by
 unfold Z3g at h
 refine Za mo ok62 rfl ?_
 refine Z0<|Z1<|Zc (Z06 (s:=[.one (.func (.func 33) #[] #[]),.one (.func (.func 103) #[] #[]),.one (.func (.func 104) #[] #[]),.one (.func (.func 105) #[] #[])]) rfl fun b1 u1=>Zc (Z06 (s:=[b3' p1.gIssuer,.one (v1_0)]) rfl fun b2 u2=>Zc (Z06 (s:=[.one (.int .i64 (p2.gCert.gSerial)),.one (.int .i64 (p2.gCert.gRides)),.one (.int .i64 (p2.gCert.gPrice)),b3' p2.gCert.gAnchor,b6' p2.gCert.gSig,b6' p2.gSig]) rfl fun b3 u3=>Z8 rfl<|Z2<|Z0<|oH h fun y1 f1 h=>Z1<|Z4 _ (Z1v rfl)<|Z4 _ (Z0p rfl .t2 rfl)<|Z4 _ (Z00 (p:=[.one (.int .i64 (p2.gCert.gSerial)),.one (.int .i64 (p2.gCert.gRides)),.one (.int .i64 (p2.gCert.gPrice)),b3' p2.gCert.gAnchor,b6' p2.gCert.gSig,b6' p2.gSig]) rfl .here (by kernel_rfl))<|Zc (Z7l rfl rfl rfl (fun w hw=>Zfb  f1 ) fun v7 o1 R1=>?_))))
 obtain ⟨v9,w1,rfl,rfl,O1⟩:=R1
 refine Z8 rfl<|Z4 _ (Z17 rfl rfl)<|Z4 _ (Z17 rfl rfl)<|Z8 rfl<|Z8 rfl<|Z2<|Z0<|oH h fun y2 f2 h=>Z1<|Z4 _ (Z1v rfl)<|Z4 _ (Z0p rfl (.app .t2) rfl)<|Z4 _ (Z00 (p:=[b3' p1.gIssuer,.one (v1_0)]) rfl (.app .t1) rfl)<|Z4 _ (Z00 (p:=[.one (.int .i64 (p2.gCert.gSerial)),.one (.int .i64 (p2.gCert.gRides)),.one (.int .i64 (p2.gCert.gPrice)),b3' p2.gCert.gAnchor,b6' p2.gCert.gSig,b6' p2.gSig]) rfl (.app .here) (by kernel_rfl))<|Zc (Z94 rfl rfl rfl (fun w hw=>Zc8 f2 ((Z1m A1_0 Z1u) w hw))<|Z8 rfl<|Z4 _ (Z17 rfl rfl)<|Z4 _ (Z17 rfl rfl)<|Zc (Zu fun b4 u4=>Zc (Zl (q:=[b3' y2.1]) rfl rfl rfl rfl rfl .here<|Z8 rfl<|Z2<|Z0<|jH h fun k1 q1 h=>Zo (G:=fun t m=>∃ (i1:Bool),k1 i1=some r/\Fit [(6,.bool (i1))] (ck b4 43 [b3' y2.1]::(ck b3 31 [.one (.int .i64 (p2.gCert.gSerial)),.one (.int .i64 (p2.gCert.gRides)),.one (.int .i64 (p2.gCert.gPrice)),b3' p2.gCert.gAnchor,b6' p2.gCert.gSig,b6' p2.gSig]::(ck b2 46 [b3' p1.gIssuer,.one (v1_0)]::(ck b1 108 [.one (.func (.func 33) #[] #[]),.one (.func (.func 103) #[] #[]),.one (.func (.func 104) #[] #[]),.one (.func (.func 105) #[] #[])] :: [])))) t m) ?_ ?_)))
 ·refine Zv<|Z6 _ (Z04 rfl)<|Z6 _ (Zb rfl rfl rfl)<|Z6 _ (Z04 rfl)<|Zmp rfl rfl rfl (fun hg1=>Z27 rfl _ (Z04 rfl) (Z28)) (fun hg1=>rfl) rfl<|Z6 _ (Z04 rfl)<|Z02c (tc:=31) h rfl (fun h=>?_) (fun h=>?_)
  ·refine oH h fun y3 f3 h=>oH h fun y4 f4 h=>Zkx rfl _ (Z1v rfl)<|Zkx rfl _ (Z1v rfl)<|Zi1 rfl _ (Z00 (p:=[b3' y2.1]) rfl .here rfl)<|Zi1 rfl _ (Z0p rfl (.there (.app .t2)) rfl)<|Zi1 rfl _ (Z00 (p:=[.one (.int .i64 (p2.gCert.gSerial)),.one (.int .i64 (p2.gCert.gRides)),.one (.int .i64 (p2.gCert.gPrice)),b3' p2.gCert.gAnchor,b6' p2.gCert.gSig,b6' p2.gSig]) rfl (.there (.app .here)) (by kernel_rfl))<|Zi1 rfl _ (Z0p rfl (.there (.app .t2)) rfl)<|Zjp rfl (Z7l rfl rfl rfl (fun w hw=>Zc4  f3 ) fun v27 o2 R2=>?_)
   obtain ⟨_,w2,rfl,rfl,O2⟩:=R2
   exact ⟨(by repeat (first | exact Sup.refl _ | apply Sup.cons | apply Sup.app)),Zjp rfl (Z94 rfl rfl rfl (fun w hw=>Zu1.2 w b3) ⟨(by repeat (first | exact Sup.refl _ | apply Sup.cons | apply Sup.app)),Zkx rfl _ (Z1l rfl) (Zkr rfl _ (Z00 (p:=[b6' p2.gSig]) rfl (.app (.there (.app .here))) (by kernel_rfl)) (Zkr rfl _ (Z0a rfl (fun w hw=>Z8q f4 (hG.at hw (by simp)) ((Z0b O2 .here) w hw))) (Z6 _ (Ztk rfl rfl) (Z6 _ (Z04 rfl) (Zy (⟨y4,h,⟨⟨rfl,trivial⟩,(.one (.app .here) (.one (.app (.app .here)) (.one (.app (.app .here)) (.one (.app (.app .here)) .nil))))⟩⟩)))) (by repeat (first | exact Sup.refl _ | apply Sup.cons | apply Sup.app))) (by repeat (first | exact Sup.refl _ | apply Sup.cons | apply Sup.app)))⟩)⟩
  ·exact Zft rfl rfl<|Zft rfl rfl<|Zc5 rfl rfl<|Zc5 rfl rfl<|Zc5 rfl rfl<|Zc5 rfl rfl<|Zi2 rfl rfl<|Zi2 rfl rfl<|Zft rfl rfl<|Zi2 rfl rfl<|Zi2 rfl rfl<|Z6 _ (Ztj rfl rfl)<|Z6 _ (Z04 rfl)<|Zy<|⟨false,h,⟨⟨rfl,trivial⟩,(.o (.one (.app .here) (.one (.app .here) (.one (.app .here) .nil))))⟩⟩
 ·rintro t m ⟨i1,h,hF⟩
  refine Zm hF ?_
  clear hF
  subst q1
  refine Zf ?_
  revert h; refine Z01 fun h=>?_
  subst h
  exact ⟨_,(.cons (.tmp rfl) .nil),rfl⟩
def Z19 (p0:Z0d) (p1:Zz):Option Bool :=
 opt (Z9b) fun y1 =>
 opt (Z3g p0 p1) fun y2 =>
 some y2
theorem Zgv {W:World} {r:Bool} {p0:Z0d} {p1:Zz} {v0_0:Value} (h:Z19 p0 p1=some r) (hG:Globs W) (A0_0:Z6m Z0m W v0_0 p0.gGates) :
    Calls Tryz.prog 25 [agg [b3' p0.gIssuer,.one (v0_0)],agg [.one (.int .i64 (p1.gCert.gSerial)),.one (.int .i64 (p1.gCert.gRides)),.one (.int .i64 (p1.gCert.gPrice)),b3' p1.gCert.gAnchor,b6' p1.gCert.gSig,b6' p1.gSig]].toArray W (Z3c W (.bool (r))):=by
 unfold Z19 at h
 refine Za mo ok25 rfl ?_
 refine Z0<|Z1<|Zc (Z06 (s:=[b3' p0.gIssuer,.one (v0_0)]) rfl fun b1 u1=>Zc (Z06 (s:=[.one (.int .i64 (p1.gCert.gSerial)),.one (.int .i64 (p1.gCert.gRides)),.one (.int .i64 (p1.gCert.gPrice)),b3' p1.gCert.gAnchor,b6' p1.gCert.gSig,b6' p1.gSig]) rfl fun b2 u2=>Z8 rfl<|Z2<|Z0<|oH h fun y1 f1 h=>oH h fun y2 f2 h=>Zv<|Zh _ (Z00 (p:=[b3' p0.gIssuer,.one (v0_0)]) rfl .t1 rfl)<|Zh _ (Z00 (p:=[.one (.int .i64 (p1.gCert.gSerial)),.one (.int .i64 (p1.gCert.gRides)),.one (.int .i64 (p1.gCert.gPrice)),b3' p1.gCert.gAnchor,b6' p1.gCert.gSig,b6' p1.gSig]) rfl .here (by kernel_rfl))<|Za7 _ (Z1d rfl (Zen f1)) (Za7 _ (Z0a rfl (fun w hw=>Zat f2 (hG.at hw (by simp)) ((Z1m A0_0 Z1u) w hw))) (Z6 _ (Z04 rfl) (Zy (Zf ?_))) (by repeat (first | exact Sup.refl _ | apply Sup.cons | apply Sup.app))) (by repeat (first | exact Sup.refl _ | apply Sup.cons | apply Sup.app))))
 revert h; refine Z01 fun h=>?_
 subst h
 exact ⟨_,(.cons (.tmp rfl) .nil),rfl⟩
def Z2d (p1:Z0d) (p2:Zg):Option Bool :=
 opt (Z77 p2) fun y1 =>
 opt (Z36 p1 p2) fun y2 =>
 jn (fun (i1:Bool)=>some i1) fun k1=>br (((y1.2==0)&&y2.2)) (
 opt (Z2t p2) fun y3 =>
 opt (Z1h y2.1 y3 p2.gSig) fun y4 =>
 k1 y4
 ) (
 k1 false
 )
theorem Z8x {W:World} {r:Bool} {p1:Z0d} {p2:Zg} {v1_0:Value} (h:Z2d p1 p2=some r) (hG:Globs W) (A1_0:Z6m Z0m W v1_0 p1.gGates) :
    Calls Tryz.prog 66 [agg [.one (.func (.func 35) #[] #[]),.one (.func (.func 106) #[] #[]),.one (.func (.func 107) #[] #[]),.one (.func (.func 108) #[] #[])],agg [b3' p1.gIssuer,.one (v1_0)],agg [.one (.int .i64 (p2.gCert.gSerial)),.one (.int .i64 (p2.gCert.gRides)),.one (.int .i64 (p2.gCert.gPrice)),b3' p2.gCert.gAnchor,b6' p2.gCert.gSig,b6' p2.gSig]].toArray W (Z3c W (.bool (r))):=by
 unfold Z2d at h
 refine Za mo ok66 rfl ?_
 refine Z0<|Z1<|Zc (Z06 (s:=[.one (.func (.func 35) #[] #[]),.one (.func (.func 106) #[] #[]),.one (.func (.func 107) #[] #[]),.one (.func (.func 108) #[] #[])]) rfl fun b1 u1=>Zc (Z06 (s:=[b3' p1.gIssuer,.one (v1_0)]) rfl fun b2 u2=>Zc (Z06 (s:=[.one (.int .i64 (p2.gCert.gSerial)),.one (.int .i64 (p2.gCert.gRides)),.one (.int .i64 (p2.gCert.gPrice)),b3' p2.gCert.gAnchor,b6' p2.gCert.gSig,b6' p2.gSig]) rfl fun b3 u3=>Z8 rfl<|Z2<|Z0<|oH h fun y1 f1 h=>Z1<|Z4 _ (Z1v rfl)<|Z4 _ (Z0p rfl .t2 rfl)<|Z4 _ (Z00 (p:=[.one (.int .i64 (p2.gCert.gSerial)),.one (.int .i64 (p2.gCert.gRides)),.one (.int .i64 (p2.gCert.gPrice)),b3' p2.gCert.gAnchor,b6' p2.gCert.gSig,b6' p2.gSig]) rfl .here (by kernel_rfl))<|Zc (Z7l rfl rfl rfl (fun w hw=>Zd8  f1 ) fun v7 o1 R1=>?_))))
 obtain ⟨v9,w1,rfl,rfl,O1⟩:=R1
 refine Z8 rfl<|Z4 _ (Z17 rfl rfl)<|Z4 _ (Z17 rfl rfl)<|Z8 rfl<|Z8 rfl<|Z2<|Z0<|oH h fun y2 f2 h=>Z1<|Z4 _ (Z1v rfl)<|Z4 _ (Z0p rfl (.app .t2) rfl)<|Z4 _ (Z00 (p:=[b3' p1.gIssuer,.one (v1_0)]) rfl (.app .t1) rfl)<|Z4 _ (Z00 (p:=[.one (.int .i64 (p2.gCert.gSerial)),.one (.int .i64 (p2.gCert.gRides)),.one (.int .i64 (p2.gCert.gPrice)),b3' p2.gCert.gAnchor,b6' p2.gCert.gSig,b6' p2.gSig]) rfl (.app .here) (by kernel_rfl))<|Zc (Z94 rfl rfl rfl (fun w hw=>Zac f2 ((Z1m A1_0 Z1u) w hw))<|Z8 rfl<|Z4 _ (Z17 rfl rfl)<|Z4 _ (Z17 rfl rfl)<|Zc (Zu fun b4 u4=>Zc (Zl (q:=[b3' y2.1]) rfl rfl rfl rfl rfl .here<|Z8 rfl<|Z2<|Z0<|jH h fun k1 q1 h=>Zo (G:=fun t m=>∃ (i1:Bool),k1 i1=some r/\Fit [(6,.bool (i1))] (ck b4 43 [b3' y2.1]::(ck b3 34 [.one (.int .i64 (p2.gCert.gSerial)),.one (.int .i64 (p2.gCert.gRides)),.one (.int .i64 (p2.gCert.gPrice)),b3' p2.gCert.gAnchor,b6' p2.gCert.gSig,b6' p2.gSig]::(ck b2 46 [b3' p1.gIssuer,.one (v1_0)]::(ck b1 114 [.one (.func (.func 35) #[] #[]),.one (.func (.func 106) #[] #[]),.one (.func (.func 107) #[] #[]),.one (.func (.func 108) #[] #[])] :: [])))) t m) ?_ ?_)))
 ·refine Zv<|Z6 _ (Z04 rfl)<|Z6 _ (Zb rfl rfl rfl)<|Z6 _ (Z04 rfl)<|Zmp rfl rfl rfl (fun hg1=>Z27 rfl _ (Z04 rfl) (Z28)) (fun hg1=>rfl) rfl<|Z6 _ (Z04 rfl)<|Z02c (tc:=31) h rfl (fun h=>?_) (fun h=>?_)
  ·refine oH h fun y3 f3 h=>oH h fun y4 f4 h=>Zkx rfl _ (Z1v rfl)<|Zkx rfl _ (Z1v rfl)<|Zi1 rfl _ (Z00 (p:=[b3' y2.1]) rfl .here rfl)<|Zi1 rfl _ (Z0p rfl (.there (.app .t2)) rfl)<|Zi1 rfl _ (Z00 (p:=[.one (.int .i64 (p2.gCert.gSerial)),.one (.int .i64 (p2.gCert.gRides)),.one (.int .i64 (p2.gCert.gPrice)),b3' p2.gCert.gAnchor,b6' p2.gCert.gSig,b6' p2.gSig]) rfl (.there (.app .here)) (by kernel_rfl))<|Zi1 rfl _ (Z0p rfl (.there (.app .t2)) rfl)<|Zjp rfl (Z7l rfl rfl rfl (fun w hw=>Z9e  f3 ) fun v27 o2 R2=>?_)
   obtain ⟨_,w2,rfl,rfl,O2⟩:=R2
   exact ⟨(by repeat (first | exact Sup.refl _ | apply Sup.cons | apply Sup.app)),Zjp rfl (Z94 rfl rfl rfl (fun w hw=>Zu2.2 w b3) ⟨(by repeat (first | exact Sup.refl _ | apply Sup.cons | apply Sup.app)),Zkx rfl _ (Z1l rfl) (Zkr rfl _ (Z00 (p:=[b6' p2.gSig]) rfl (.app (.there (.app .here))) (by kernel_rfl)) (Zkr rfl _ (Z0a rfl (fun w hw=>Z8q f4 (hG.at hw (by simp)) ((Z0b O2 .here) w hw))) (Z6 _ (Ztk rfl rfl) (Z6 _ (Z04 rfl) (Zy (⟨y4,h,⟨⟨rfl,trivial⟩,(.one (.app .here) (.one (.app (.app .here)) (.one (.app (.app .here)) (.one (.app (.app .here)) .nil))))⟩⟩)))) (by repeat (first | exact Sup.refl _ | apply Sup.cons | apply Sup.app))) (by repeat (first | exact Sup.refl _ | apply Sup.cons | apply Sup.app)))⟩)⟩
  ·exact Zft rfl rfl<|Zft rfl rfl<|Zc5 rfl rfl<|Zc5 rfl rfl<|Zc5 rfl rfl<|Zc5 rfl rfl<|Zi2 rfl rfl<|Zi2 rfl rfl<|Zft rfl rfl<|Zi2 rfl rfl<|Zi2 rfl rfl<|Z6 _ (Ztj rfl rfl)<|Z6 _ (Z04 rfl)<|Zy<|⟨false,h,⟨⟨rfl,trivial⟩,(.o (.one (.app .here) (.one (.app .here) (.one (.app .here) .nil))))⟩⟩
 ·rintro t m ⟨i1,h,hF⟩
  refine Zm hF ?_
  clear hF
  subst q1
  refine Zf ?_
  revert h; refine Z01 fun h=>?_
  subst h
  exact ⟨_,(.cons (.tmp rfl) .nil),rfl⟩
def Z0n (p0:Z0d) (p1:Zg):Option Bool :=
 opt (Z57) fun y1 =>
 opt (Z2d p0 p1) fun y2 =>
 some y2
theorem Zdx {W:World} {r:Bool} {p0:Z0d} {p1:Zg} {v0_0:Value} (h:Z0n p0 p1=some r) (hG:Globs W) (A0_0:Z6m Z0m W v0_0 p0.gGates) :
    Calls Tryz.prog 28 [agg [b3' p0.gIssuer,.one (v0_0)],agg [.one (.int .i64 (p1.gCert.gSerial)),.one (.int .i64 (p1.gCert.gRides)),.one (.int .i64 (p1.gCert.gPrice)),b3' p1.gCert.gAnchor,b6' p1.gCert.gSig,b6' p1.gSig]].toArray W (Z3c W (.bool (r))):=by
 unfold Z0n at h
 refine Za mo ok28 rfl ?_
 refine Z0<|Z1<|Zc (Z06 (s:=[b3' p0.gIssuer,.one (v0_0)]) rfl fun b1 u1=>Zc (Z06 (s:=[.one (.int .i64 (p1.gCert.gSerial)),.one (.int .i64 (p1.gCert.gRides)),.one (.int .i64 (p1.gCert.gPrice)),b3' p1.gCert.gAnchor,b6' p1.gCert.gSig,b6' p1.gSig]) rfl fun b2 u2=>Z8 rfl<|Z2<|Z0<|oH h fun y1 f1 h=>oH h fun y2 f2 h=>Zv<|Zh _ (Z00 (p:=[b3' p0.gIssuer,.one (v0_0)]) rfl .t1 rfl)<|Zh _ (Z00 (p:=[.one (.int .i64 (p1.gCert.gSerial)),.one (.int .i64 (p1.gCert.gRides)),.one (.int .i64 (p1.gCert.gPrice)),b3' p1.gCert.gAnchor,b6' p1.gCert.gSig,b6' p1.gSig]) rfl .here (by kernel_rfl))<|Za7 _ (Z1d rfl (Zbq f1)) (Za7 _ (Z0a rfl (fun w hw=>Z8x f2 (hG.at hw (by simp)) ((Z1m A0_0 Z1u) w hw))) (Z6 _ (Z04 rfl) (Zy (Zf ?_))) (by repeat (first | exact Sup.refl _ | apply Sup.cons | apply Sup.app))) (by repeat (first | exact Sup.refl _ | apply Sup.cons | apply Sup.app))))
 revert h; refine Z01 fun h=>?_
 subst h
 exact ⟨_,(.cons (.tmp rfl) .nil),rfl⟩
end Go.Proofs.YteefpkhngighgaaGreatDoor
namespace Go.Proofs.YteefpkhngighgaaGreatDoor
open Go Go.Sx Go.RowKit
open List (replicate)
set_option linter.all false
set_option maxHeartbeats 400000
set_option maxRecDepth 100000
def Z08 (p0:Z0d) (p1:Z0j):Option Int :=
 opt (Zb2 p1) fun y1 =>
 br ((y1.2 != 0)) (
 some 2
 ) (
 opt (Z23 p0 p1.gCert) fun y2 =>
 jn (fun (i1:Bool)=>br (i1) (
 some 110
 ) (
 opt (Zau p1.gValue p1.gIndex p1.gCert.gAnchor) fun y3 =>
 br ((!y3)) (
 some 150
 ) (
 some 0
 )
 )) fun k1=>br ((!y2)) (
 k1 (!y2)
 ) (
 chk (imp p1.gFrozen ((Z19 p0 (⟨p1.gCert,p1.gFreeze⟩:Zz)).isSome)) <|
 br ((p1.gFrozen&&(!((Z19 p0 (⟨p1.gCert,p1.gFreeze⟩:Zz)).getD false)))) (
 k1 (p1.gFrozen&&(!((Z19 p0 (⟨p1.gCert,p1.gFreeze⟩:Zz)).getD false)))
 ) (
 chk (imp p1.gRevoked ((Z0n p0 (⟨p1.gCert,p1.gRevoke⟩:Zg)).isSome)) <|
 k1 (p1.gRevoked&&(!((Z0n p0 (⟨p1.gCert,p1.gRevoke⟩:Zg)).getD false)))
 )
 )
 )
theorem Z4e {W:World} {r:Int} {p0:Z0d} {p1:Z0j} {v0_0:Value} (h:Z08 p0 p1=some r) (hG:Globs W) (A0_0:Z6m Z0m W v0_0 p0.gGates) :
    Calls Tryz.prog 16 [agg [b3' p0.gIssuer,.one (v0_0)],agg [.one (.int .i64 (p1.gCert.gSerial)),.one (.int .i64 (p1.gCert.gRides)),.one (.int .i64 (p1.gCert.gPrice)),b3' p1.gCert.gAnchor,b6' p1.gCert.gSig,.one (.int .i64 (p1.gIndex)),b3' p1.gValue,.one (.bool (p1.gFrozen)),b6' p1.gFreeze,.one (.bool (p1.gRevoked)),b6' p1.gRevoke]].toArray W (Z3c W (.int .i64 (r))):=by
 unfold Z08 at h
 refine Za mo ok16 rfl ?_
 refine Z0<|Z1<|Zc (Z06 (s:=[b3' p0.gIssuer,.one (v0_0)]) rfl fun b1 u1=>Zc (Z06 (s:=[.one (.int .i64 (p1.gCert.gSerial)),.one (.int .i64 (p1.gCert.gRides)),.one (.int .i64 (p1.gCert.gPrice)),b3' p1.gCert.gAnchor,b6' p1.gCert.gSig,.one (.int .i64 (p1.gIndex)),b3' p1.gValue,.one (.bool (p1.gFrozen)),b6' p1.gFreeze,.one (.bool (p1.gRevoked)),b6' p1.gRevoke]) rfl fun b2 u2=>Z8 rfl<|Z2<|Z0<|Z0<|oH h fun y1 f1 h=>Z1<|Z4 _ (Z00 (p:=[.one (.int .i64 (p1.gCert.gSerial)),.one (.int .i64 (p1.gCert.gRides)),.one (.int .i64 (p1.gCert.gPrice)),b3' p1.gCert.gAnchor,b6' p1.gCert.gSig,.one (.int .i64 (p1.gIndex)),b3' p1.gValue,.one (.bool (p1.gFrozen)),b6' p1.gFreeze,.one (.bool (p1.gRevoked)),b6' p1.gRevoke]) rfl .here (by kernel_rfl))<|Zc (Zk rfl (fun w hw=>Zfy  f1 ) fun v6 o1 R1=>?_)))
 obtain ⟨v8,w1,rfl,rfl,O1⟩:=R1
 refine Z8 rfl<|Z4 _ (Z17 rfl rfl)<|Z4 _ (Z17 rfl rfl)<|Z8 rfl<|Z8 rfl<|Z2<|Z0<|Z1<|Z8 rfl<|Z4 _ (Zb rfl rfl rfl)<|Z2<|Z0r h rfl (fun h=>?_) (fun h=>?_)
 ·refine Z0<|Z1<|Z8 rfl<|Z2<|Zf ?_
  revert h; refine Z01 fun h=>?_
  subst h
  exact ⟨_,(.cons (.tmp rfl) .nil),rfl⟩
 ·refine Zn<|Z0<|Zd<|Z0<|Z0<|oH h fun y2 f2 h=>Z1<|Z4 _ (Z00 (p:=[b3' p0.gIssuer,.one (v0_0)]) rfl (.app .t1) rfl)<|Z4 _ (Z1v rfl)<|Z4 _ (Z00 (p:=[.one (.int .i64 (p1.gCert.gSerial)),.one (.int .i64 (p1.gCert.gRides)),.one (.int .i64 (p1.gCert.gPrice)),b3' p1.gCert.gAnchor,b6' p1.gCert.gSig]) rfl (.app .here) (by kernel_rfl))<|Z4 _ (Z0a rfl (fun w hw=>Zih f2 (hG.at hw (by simp)) ((Z1m A0_0 Z1u) w hw)))<|Z4 _ (Zmv rfl rfl)<|Z8 rfl<|Z2<|jH h fun k1 q1 h=>Zo (G:=fun t m=>∃ (i1:Bool),k1 i1=some r/\Fit [(3,pt' b2),(14,.bool (i1))] (ck b2 63 [.one (.int .i64 (p1.gCert.gSerial)),.one (.int .i64 (p1.gCert.gRides)),.one (.int .i64 (p1.gCert.gPrice)),b3' p1.gCert.gAnchor,b6' p1.gCert.gSig,.one (.int .i64 (p1.gIndex)),b3' p1.gValue,.one (.bool (p1.gFrozen)),b6' p1.gFreeze,.one (.bool (p1.gRevoked)),b6' p1.gRevoke]::(ck b1 46 [b3' p0.gIssuer,.one (v0_0)] :: [])) t m) ?_ ?_
  ·refine Z0r h rfl (fun h=>?_) (fun h=>?_)
   ·exact Zn<|⟨(!y2),h,⟨⟨rfl,rfl,trivial⟩,(.one (.app .here) (.one (.app .here) .nil))⟩⟩
   ·refine Z0<|cH h fun c1 h=>Z1<|Z4 _ (Z1v rfl)<|Z4 _ (Z0p rfl (.app .here) rfl)<|Z8 rfl<|Zjm rfl rfl rfl (fun hg1=>Z27 rfl _ (Z00 (p:=[b3' p0.gIssuer,.one (v0_0)]) rfl (.app .t1) rfl) (Z27 rfl _ (Z1v rfl) (Z27 rfl _ (Z00 (p:=[.one (.int .i64 (p1.gCert.gSerial)),.one (.int .i64 (p1.gCert.gRides)),.one (.int .i64 (p1.gCert.gPrice)),b3' p1.gCert.gAnchor,b6' p1.gCert.gSig]) rfl (.app .here) (by kernel_rfl)) (Z27 rfl _ (Z1v rfl) (Z27 rfl _ (Z00 (p:=[b6' p1.gFreeze]) rfl (.app .here) (by kernel_rfl)) (Z27 rfl _ (Zcd (q:=[.one (.int .i64 (p1.gCert.gSerial)),.one (.int .i64 (p1.gCert.gRides)),.one (.int .i64 (p1.gCert.gPrice)),b3' p1.gCert.gAnchor,b6' p1.gCert.gSig,b6' p1.gFreeze]) (.agg (z':=[.one (.int .i64 (p1.gCert.gSerial)),.one (.int .i64 (p1.gCert.gRides)),.one (.int .i64 (p1.gCert.gPrice)),b3' p1.gCert.gAnchor,b6' p1.gCert.gSig,b6' (replicate 64 0)]) rfl (by kernel_rfl) (by kernel_rfl) (.agg (z':=[.one (.int .i64 (p1.gCert.gSerial)),.one (.int .i64 (p1.gCert.gRides)),.one (.int .i64 (p1.gCert.gPrice)),b3' p1.gCert.gAnchor,b6' p1.gCert.gSig,b6' p1.gFreeze]) rfl (by kernel_rfl) (by kernel_rfl) BdR.nil))) (Z27 rfl _ (Z0a rfl (fun w hw=>Zgv (p1:=(⟨p1.gCert,p1.gFreeze⟩:Zz)) (getD_some (z:=false) (Zrv c1 hg1)) (hG.at hw (by simp)) ((Z1m A0_0 Z1u) w hw))) (Z27 rfl _ (Zmv rfl rfl) (Z28))))))))) (fun hg1=>rfl) rfl<|Z8 rfl<|Z2<|Z0r h rfl (fun h=>?_) (fun h=>?_)
    ·exact Zn<|⟨(p1.gFrozen&&(!((Z19 p0 (⟨p1.gCert,p1.gFreeze⟩:Zz)).getD false))),h,⟨⟨rfl,rfl,trivial⟩,(.one (.app .here) (.one (.app .here) .nil))⟩⟩
    ·exact cH h fun c2 h=>Z1<|Z4 _ (Z1v rfl)<|Z4 _ (Z0p rfl (.app .here) rfl)<|Z8 rfl<|Zjm rfl rfl rfl (fun hg1=>Z27 rfl _ (Z00 (p:=[b3' p0.gIssuer,.one (v0_0)]) rfl (.app .t1) rfl) (Z27 rfl _ (Z1v rfl) (Z27 rfl _ (Z00 (p:=[.one (.int .i64 (p1.gCert.gSerial)),.one (.int .i64 (p1.gCert.gRides)),.one (.int .i64 (p1.gCert.gPrice)),b3' p1.gCert.gAnchor,b6' p1.gCert.gSig]) rfl (.app .here) (by kernel_rfl)) (Z27 rfl _ (Z1v rfl) (Z27 rfl _ (Z00 (p:=[b6' p1.gRevoke]) rfl (.app .here) (by kernel_rfl)) (Z27 rfl _ (Zcd (q:=[.one (.int .i64 (p1.gCert.gSerial)),.one (.int .i64 (p1.gCert.gRides)),.one (.int .i64 (p1.gCert.gPrice)),b3' p1.gCert.gAnchor,b6' p1.gCert.gSig,b6' p1.gRevoke]) (.agg (z':=[.one (.int .i64 (p1.gCert.gSerial)),.one (.int .i64 (p1.gCert.gRides)),.one (.int .i64 (p1.gCert.gPrice)),b3' p1.gCert.gAnchor,b6' p1.gCert.gSig,b6' (replicate 64 0)]) rfl (by kernel_rfl) (by kernel_rfl) (.agg (z':=[.one (.int .i64 (p1.gCert.gSerial)),.one (.int .i64 (p1.gCert.gRides)),.one (.int .i64 (p1.gCert.gPrice)),b3' p1.gCert.gAnchor,b6' p1.gCert.gSig,b6' p1.gRevoke]) rfl (by kernel_rfl) (by kernel_rfl) BdR.nil))) (Z27 rfl _ (Z0a rfl (fun w hw=>Zdx (p1:=(⟨p1.gCert,p1.gRevoke⟩:Zg)) (getD_some (z:=false) (Zrv c2 hg1)) (hG.at hw (by simp)) ((Z1m A0_0 Z1u) w hw))) (Z27 rfl _ (Zmv rfl rfl) (Z28))))))))) (fun hg1=>rfl) rfl<|Z8 rfl<|Z2<|⟨(p1.gRevoked&&(!((Z0n p0 (⟨p1.gCert,p1.gRevoke⟩:Zg)).getD false))),h,⟨⟨rfl,rfl,trivial⟩,(.one (.app .here) (.one (.app .here) .nil))⟩⟩
  ·rintro t m ⟨i1,h,hF⟩
   refine Zm hF ?_
   clear hF
   subst q1
   refine Z0r h rfl (fun h=>?_) (fun h=>?_)
   ·refine Z0<|Z1<|Z8 rfl<|Z2<|Zf ?_
    revert h; refine Z01 fun h=>?_
    subst h
    exact ⟨_,(.cons (.tmp rfl) .nil),rfl⟩
   ·refine Z0<|oH h fun y3 f3 h=>Z1<|Z4 _ (Z1v rfl)<|Z4 _ (Z00 (p:=[b3' p1.gValue]) rfl .here (by kernel_rfl))<|Z4 _ (Z1v rfl)<|Z4 _ (Z0p rfl .here rfl)<|Z4 _ (Z1v rfl)<|Z4 _ (Z1v rfl)<|Z4 _ (Z00 (p:=[b3' p1.gCert.gAnchor]) rfl .here (by kernel_rfl))<|Z4 _ (Z0a rfl (fun w hw=>Zm7 f3 (hG.at hw (by simp))))<|Z4 _ (Zmv rfl rfl)<|Z8 rfl<|Z2<|Z0r h rfl (fun h=>?_) (fun h=>?_)
    ·refine Z0<|Z1<|Z8 rfl<|Z2<|Zf ?_
     revert h; refine Z01 fun h=>?_
     subst h
     exact ⟨_,(.cons (.tmp rfl) .nil),rfl⟩
    ·refine Zn<|Z0<|Z1<|Z8 rfl<|Z2<|Zf ?_
     revert h; refine Z01 fun h=>?_
     subst h
     exact ⟨_,(.cons (.tmp rfl) .nil),rfl⟩
def Z0o (p1:Zx) (p3:Int) (k1:(LI)->(LI)->Option Bool) (k2:Int->(LI)->(LI)->Option Bool) (i1:Int) (a1:LI) (a2:LI):Option Bool :=
 br (((decide (i1<p1.gRides))&&(decide (i1<4096)))) (
 bnd (IntKind.wrap .i64 (p1.gRides-p3)) fun z1 =>
 jn (fun (a3:LI)=>opt (Z72 (tk a1 0 32)) fun y1 =>
 bnd (IntKind.wrap .i64 (i1+1)) fun z2 =>
 k2 z2 y1 a3) fun k3=>br ((i1==z1)) (
 k3 a1
 ) (
 k3 a2
 )
 ) (
 k1 a2 a1
 )
def Z0e (p1:Zx) (p3:Int) (k1:(LI)->(LI)->Option Bool):Nat->Int->(LI)->(LI)->Option Bool
  | 0,_,_,_=>none
  | n+1,i1,a1,a2=>Z0o p1 p3 k1 (Z0e p1 p3 k1 n) i1 a1 a2
def Z33 (p0:Z0q) (p1:Zx) (p2:LI) (p3:Int) (p4:Bool) (p5:Bool) (p6:LI):Option Bool :=
 opt (Zcw p0) fun y1 =>
 opt (Z9y p0 0) fun y2 =>
 jn (fun (a1:LI) (a2:LI)=>jn (fun (a3:LI)=>opt (Z8r (⟨p1.gSerial,p1.gRides,p1.gPrice,a2,p1.gSig⟩:Zx)) fun y3 =>
 br ((((((y1.2 != 0)||(!y2.2))||(y3.2 != 0))||(decide (p3<0)))||(decide (p3>p1.gRides)))) (
 opt (Z42) fun y4 =>
 some y4
 ) (
 opt (Z89 y2.1 (⟨p1.gSerial,p1.gRides,p1.gPrice,a2,p1.gSig⟩:Zx)) fun y5 =>
 jn (fun (a4:LI)=>jn (fun (a5:LI)=>opt (Z08 y1.1 (⟨y5,p3,a3,p4,a4,p5,a5⟩:Z0j)) fun y6 =>
 br ((y6 != 0)) (
 some false
 ) (
 bnd (IntKind.wrap .i64 (p1.gRides+1)) fun z1 =>
 opt (Z08 y1.1 (⟨y5,z1,a3,p4,a4,p5,a5⟩:Z0j)) fun y7 =>
 br ((y7 != 2)) (
 some false
 ) (
 opt (Z2p y5.gSig) fun y8 =>
 opt (Z2p a4) fun y9 =>
 opt (Z2p a5) fun y10 =>
 opt (Z08 y1.1 (⟨(⟨y5.gSerial,y5.gRides,y5.gPrice,y5.gAnchor,y8⟩:Zx),p3,p6,p4,a4,p5,a5⟩:Z0j)) fun y11 =>
 chk (imp (!(y11 != 110)) ((Z08 y1.1 (⟨y5,p3,p6,true,y9,p5,a5⟩:Z0j)).isSome)) <|
 chk (imp (!((y11 != 110)||(((Z08 y1.1 (⟨y5,p3,p6,true,y9,p5,a5⟩:Z0j)).getD 0) != 110))) ((Z08 y1.1 (⟨y5,p3,p6,p4,a4,true,y10⟩:Z0j)).isSome)) <|
 br ((((y11 != 110)||(((Z08 y1.1 (⟨y5,p3,p6,true,y9,p5,a5⟩:Z0j)).getD 0) != 110))||(((Z08 y1.1 (⟨y5,p3,p6,p4,a4,true,y10⟩:Z0j)).getD 0) != 110))) (
 some false
 ) (
 opt (Z42) fun y12 =>
 some y12
 )
 )
 )) fun k1=>br (p5) (
 opt (Z3m y2.1 (⟨y5,(replicate 64 0)⟩:Zg)) fun y13 =>
 k1 y13.gSig
 ) (
 k1 (replicate 64 0)
 )) fun k2=>br (p4) (
 opt (Z65 y2.1 (⟨y5,(replicate 64 0)⟩:Zz)) fun y14 =>
 k2 y14.gSig
 ) (
 k2 (replicate 64 0)
 )
 )) fun k3=>br ((p3==0)) (
 k3 a2
 ) (
 k3 a1
 )) fun k4=>Z0e p1 p3 k4 big 0 p2 p2
theorem fareboxlaw11_RingWholeEntry_spec {W:World} {r:Bool} {p0:Z0q} {p1:Zx} {p2:LI} {p3:Int} {p4:Bool} {p5:Bool} {p6:LI} (h:Z33 p0 p1 p2 p3 p4 p5 p6=some r) (hG:Globs W) :
    Calls Tryz.prog 4 [agg [.one (.int .i64 (p0.gGates)),.one (.int .i64 (p0.gWallets)),.one (.int .i64 (p0.gRows)),.one (.int .i64 (p0.gFlash)),.one (.int .i64 (p0.gSerials)),b3' p0.gSecret],agg [.one (.int .i64 (p1.gSerial)),.one (.int .i64 (p1.gRides)),.one (.int .i64 (p1.gPrice)),b3' p1.gAnchor,b6' p1.gSig],agg [b3' p2],.int .i64 (p3),.bool (p4),.bool (p5),agg [b3' p6]].toArray W (Z3c W (.bool (r))):=by
 unfold Z33 at h
 refine Za mo ok4 rfl ?_
 refine Z0<|Z1<|Zc (Z06 (s:=[.one (.int .i64 (p0.gGates)),.one (.int .i64 (p0.gWallets)),.one (.int .i64 (p0.gRows)),.one (.int .i64 (p0.gFlash)),.one (.int .i64 (p0.gSerials)),b3' p0.gSecret]) rfl fun b1 u1=>Zc (Z06 (s:=[.one (.int .i64 (p1.gSerial)),.one (.int .i64 (p1.gRides)),.one (.int .i64 (p1.gPrice)),b3' p1.gAnchor,b6' p1.gSig]) rfl fun b2 u2=>Zc (Z06 (s:=[b3' p2]) rfl fun b3 u3=>Zc (Z06 (s:=[b3' p6]) rfl fun b4 u4=>Z8 rfl<|Z2<|Z0<|oH h fun y1 f1 h=>Z1<|Z4 _ (Z00 (p:=[.one (.int .i64 (p0.gGates)),.one (.int .i64 (p0.gWallets)),.one (.int .i64 (p0.gRows)),.one (.int .i64 (p0.gFlash)),.one (.int .i64 (p0.gSerials)),b3' p0.gSecret]) rfl .t3 rfl)<|Zc (Zk rfl (fun w hw=>Zi9  f1 (hG.at hw (by simp))) fun v8 o1 R1=>?_)))))
 obtain ⟨v10,w1,rfl,rfl,O1⟩:=R1
 refine Z8 rfl<|Z4 _ (Z17 rfl rfl)<|Z4 _ (Z17 rfl rfl)<|Zc (Zu fun b5 u5=>Zc (Zdg (q:=[b3' y1.1.gIssuer,.one (v10)]) rfl rfl rfl rfl (Z0y Z9x (Z0y (Z5i (Z9i.one1 (Z09.isSl O1))) Z52)) .here<|Z8 rfl<|Z2<|Z0<|oH h fun y2 f2 h=>Z1<|Z4 _ (Z00 (p:=[.one (.int .i64 (p0.gGates)),.one (.int .i64 (p0.gWallets)),.one (.int .i64 (p0.gRows)),.one (.int .i64 (p0.gFlash)),.one (.int .i64 (p0.gSerials)),b3' p0.gSecret]) rfl (.there (.app .t3)) rfl)<|Z4 _ (Z0a rfl (fun w hw=>Zdy f2 (hG.at hw (by simp))))<|Z8 rfl<|Z4 _ (Z17 rfl rfl)<|Z4 _ (Z17 rfl rfl)<|Zc (Zu fun b6 u6=>Zc (Zl (q:=[b3' y2.1]) rfl rfl rfl rfl rfl .here<|Z8 rfl<|Z2<|Z0<|Z1<|Z4 _ (Z00 (p:=[b3' p2]) rfl (.there (.there (.app .t1))) rfl)<|Zc (Zu fun b7 u7=>Zc (Zl (q:=[b3' p2]) rfl rfl rfl rfl rfl .here<|Z2<|Z0<|Z1<|Z4 _ (Z00 (p:=[b3' p2]) rfl (.there (.there (.there (.app .t1)))) rfl)<|Zc (Zu fun b8 u8=>Zc (Zl (q:=[b3' p2]) rfl rfl rfl rfl rfl .here<|Z2<|Z0<|Z0<|Z1<|Z8 rfl<|Z2<|jH h fun k1 q1 h=>Zo (G:=fun t m=>∃ (a1:LI) (a2:LI),k1 a1 a2=some r/\Fit [(3,.int .i64 (p3)),(4,.bool (p4)),(5,.bool (p5)),(8,pt' b2),(13,pt' b4),(15,pt' b5),(16,.int .i64 (y1.2)),(17,pt' b6),(18,.bool (y2.2)),(19,pt' b7),(20,pt' b8)] (ck b8 23 [b3' a1]::(ck b7 23 [b3' a2]::(ck b6 23 [b3' y2.1]::(ck b5 46 [b3' y1.1.gIssuer,.one (v10)]::(w1++(ck b4 23 [b3' p6]::(ck b3 23 [b3' p2]::(ck b2 29 [.one (.int .i64 (p1.gSerial)),.one (.int .i64 (p1.gRides)),.one (.int .i64 (p1.gPrice)),b3' p1.gAnchor,b6' p1.gSig]::(ck b1 25 [.one (.int .i64 (p0.gGates)),.one (.int .i64 (p0.gWallets)),.one (.int .i64 (p0.gRows)),.one (.int .i64 (p0.gFlash)),.one (.int .i64 (p0.gSerials)),b3' p0.gSecret] :: []))))))))) t m) ?_ ?_))))))))
 ·refine Zd<|Z07 (fun n1 t m=>∃ (i1:Int) (a3:LI) (a4:LI),Z0e p1 p3 k1 n1 i1 a3 a4=some r/\Fit [(3,.int .i64 (p3)),(4,.bool (p4)),(5,.bool (p5)),(8,pt' b2),(13,pt' b4),(15,pt' b5),(16,.int .i64 (y1.2)),(17,pt' b6),(18,.bool (y2.2)),(19,pt' b7),(20,pt' b8),(21,.int .i64 (i1))] (ck b8 23 [b3' a4]::(ck b7 23 [b3' a3]::(ck b6 23 [b3' y2.1]::(ck b5 46 [b3' y1.1.gIssuer,.one (v10)]::(w1++(ck b4 23 [b3' p6]::(ck b3 23 [b3' p2]::(ck b2 29 [.one (.int .i64 (p1.gSerial)),.one (.int .i64 (p1.gRides)),.one (.int .i64 (p1.gPrice)),b3' p1.gAnchor,b6' p1.gSig]::(ck b1 25 [.one (.int .i64 (p0.gGates)),.one (.int .i64 (p0.gWallets)),.one (.int .i64 (p0.gRows)),.one (.int .i64 (p0.gFlash)),.one (.int .i64 (p0.gSerials)),b3' p0.gSecret] :: []))))))))) t m) big ?_ ?_
  ·exact ⟨0,p2,p2,h,⟨⟨rfl,rfl,rfl,rfl,rfl,rfl,rfl,rfl,rfl,rfl,rfl,rfl,trivial⟩,(.o (.o (.o (.o (.all .here (.o (.o (.o (.o .nil)))))))))⟩⟩
  ·rintro n1 t m ⟨i1,a3,a4,h,hF⟩
   refine Zm hF ?_
   clear hF
   rcases n1 with _ | n1
   · exact Z1r h
   have h:Z0o p1 p3 k1 (Z0e p1 p3 k1 n1) i1 a3 a4=some r:=h
   unfold Z0o at h
   obtain ⟨k2,q2⟩ : ∃ k,k=Z0e p1 p3 k1 n1:=⟨_,rfl⟩
   try rw [<- q2] at h
   refine Z0<|Z0<|Z1<|Z8 rfl<|Z4 _ (Z1v rfl)<|Z4 _ (Z0p rfl (.there (.there (.there (.there (.app .t2))))) rfl)<|Z4 _ (Zb rfl rfl rfl)<|Z8 rfl<|Zjm rfl rfl rfl (fun hg1=>Z27 rfl _ (Z04 rfl) (Z27 rfl _ (Zb rfl rfl rfl) (Z28))) (fun hg1=>rfl) rfl<|Z2<|Z0r h rfl (fun h=>?_) (fun h=>?_)
   ·refine Zn<|Z0<|Zd<|Z0<|Z0<|bH h fun z1 e1 h=>Z1<|Z8 rfl<|Z4 _ (Z1v rfl)<|Z4 _ (Z0p rfl (.there (.there (.there (.there (.app .t2))))) rfl)<|Z8 rfl<|Z4 _ (iz e1 (Zb rfl rfl rfl))<|Z4 _ (Zb rfl rfl rfl)<|Z2<|jH h fun k3 q3 h=>Zo (G:=fun t m=>∃ (a5:LI),k3 a5=some r/\Fit [(3,.int .i64 (p3)),(4,.bool (p4)),(5,.bool (p5)),(8,pt' b2),(13,pt' b4),(15,pt' b5),(16,.int .i64 (y1.2)),(17,pt' b6),(18,.bool (y2.2)),(19,pt' b7),(20,pt' b8),(21,.int .i64 (i1))] (ck b8 23 [b3' a5]::(ck b7 23 [b3' a3]::(ck b6 23 [b3' y2.1]::(ck b5 46 [b3' y1.1.gIssuer,.one (v10)]::(w1++(ck b4 23 [b3' p6]::(ck b3 23 [b3' p2]::(ck b2 29 [.one (.int .i64 (p1.gSerial)),.one (.int .i64 (p1.gRides)),.one (.int .i64 (p1.gPrice)),b3' p1.gAnchor,b6' p1.gSig]::(ck b1 25 [.one (.int .i64 (p0.gGates)),.one (.int .i64 (p0.gWallets)),.one (.int .i64 (p0.gRows)),.one (.int .i64 (p0.gFlash)),.one (.int .i64 (p0.gSerials)),b3' p0.gSecret] :: []))))))))) t m) ?_ ?_
    ·refine Z0r h rfl (fun h=>?_) (fun h=>?_)
     ·exact Z1<|Z4 _ (Z00 (p:=[b3' a3]) rfl .t1 rfl)<|Zc (Zl (q:=[b3' a3]) rfl rfl rfl rfl rfl .here<|Z2<|⟨a3,h,⟨⟨rfl,rfl,rfl,rfl,rfl,rfl,rfl,rfl,rfl,rfl,rfl,rfl,trivial⟩,(.o (.o (.o (.o (.all .here (.o (.o (.o (.o .nil)))))))))⟩⟩)
     ·exact Zn<|⟨a4,h,⟨⟨rfl,rfl,rfl,rfl,rfl,rfl,rfl,rfl,rfl,rfl,rfl,rfl,trivial⟩,(.o (.o (.o (.o (.all .here (.o (.o (.o (.o .nil)))))))))⟩⟩
    ·rintro t m ⟨a5,h,hF⟩
     refine Zm hF ?_
     clear hF
     subst q3
     refine oH h fun y3 f3 h=>Z1<|Z4 _ (Z88 rfl .no .no .no (by simp) (by decide))<|Z4 _ (Z0a rfl (fun w hw=>Z3a f3 (hG.at hw (by simp)) ((Z1t (s:=[b3' a3]) (N:=32) (k:=.u8) (base:=0) (lo:=0) (hi:=32) (mz:=32) .t1 rfl (by decide)) w hw)))<|Zc (Zl (q:=[b3' y3]) rfl rfl rfl rfl rfl .t1<|Z2<|bH h fun z2 e2 h=>Z1<|Z8 rfl<|Z4 _ (iz e2 (Zb rfl rfl rfl))<|Z8 rfl<|Z2 ?_)
     rw [q2] at h
     exact ⟨n1,Nat.lt_succ_self _,z2,y3,a5,h,⟨⟨rfl,rfl,rfl,rfl,rfl,rfl,rfl,rfl,rfl,rfl,rfl,rfl,trivial⟩,(.o (.o (.o (.o (.all .here (.o (.o (.o (.o .nil)))))))))⟩⟩
   ·exact Z0l _ rfl<|⟨a4,a3,h,⟨⟨rfl,rfl,rfl,rfl,rfl,rfl,rfl,rfl,rfl,rfl,rfl,trivial⟩,(.o (.o (.o (.o (.all .here (.o (.o (.o (.o .nil)))))))))⟩⟩
 ·rintro t m ⟨a1,a2,h,hF⟩
  refine Zm hF ?_
  clear hF
  subst q1
  refine Z0<|Z0<|Z1<|Z8 rfl<|Z4 _ (Zb rfl rfl rfl)<|Z2<|jH h fun k4 q4 h=>Zo (G:=fun t m=>∃ (a6:LI),k4 a6=some r/\Fit [(3,.int .i64 (p3)),(4,.bool (p4)),(5,.bool (p5)),(8,pt' b2),(13,pt' b4),(15,pt' b5),(16,.int .i64 (y1.2)),(17,pt' b6),(18,.bool (y2.2)),(19,pt' b7),(20,pt' b8)] (ck b8 23 [b3' a6]::(ck b7 23 [b3' a2]::(ck b6 23 [b3' y2.1]::(ck b5 46 [b3' y1.1.gIssuer,.one (v10)]::(w1++(ck b4 23 [b3' p6]::(ck b3 23 [b3' p2]::(ck b2 29 [.one (.int .i64 (p1.gSerial)),.one (.int .i64 (p1.gRides)),.one (.int .i64 (p1.gPrice)),b3' p1.gAnchor,b6' p1.gSig]::(ck b1 25 [.one (.int .i64 (p0.gGates)),.one (.int .i64 (p0.gWallets)),.one (.int .i64 (p0.gRows)),.one (.int .i64 (p0.gFlash)),.one (.int .i64 (p0.gSerials)),b3' p0.gSecret] :: []))))))))) t m) ?_ ?_
  ·refine Z0r h rfl (fun h=>?_) (fun h=>?_)
   ·exact Z1<|Z4 _ (Z00 (p:=[b3' a2]) rfl .t1 rfl)<|Zc (Zl (q:=[b3' a2]) rfl rfl rfl rfl rfl .here<|Z2<|⟨a2,h,⟨⟨rfl,rfl,rfl,rfl,rfl,rfl,rfl,rfl,rfl,rfl,rfl,trivial⟩,(.o (.o (.o (.o (.all .here (.o (.o (.o (.o .nil)))))))))⟩⟩)
   ·exact Zn<|⟨a1,h,⟨⟨rfl,rfl,rfl,rfl,rfl,rfl,rfl,rfl,rfl,rfl,rfl,trivial⟩,(.o (.o (.o (.o (.all .here (.o (.o (.o (.o .nil)))))))))⟩⟩
  ·rintro t m ⟨a6,h,hF⟩
   refine Zm hF ?_
   clear hF
   subst q4
   refine Z0<|Z1<|Z4 _ (Z00 (p:=[b3' a2]) rfl .t1 rfl)<|Z4 _ (Z1v rfl)<|Zc (Zl (q:=[.one (.int .i64 (p1.gSerial)),.one (.int .i64 (p1.gRides)),.one (.int .i64 (p1.gPrice)),b3' a2,b6' p1.gSig]) rfl rfl rfl rfl rfl (.there (.there (.there (.there (.app .t2)))))<|Z2<|Z0<|oH h fun y4 f4 h=>Z1<|Z4 _ (Z00 (p:=[.one (.int .i64 (p1.gSerial)),.one (.int .i64 (p1.gRides)),.one (.int .i64 (p1.gPrice)),b3' a2,b6' p1.gSig]) rfl (.there (.there (.there (.there (.app .t2))))) rfl)<|Zc (Zk rfl (fun w hw=>Zbu (p0:=(⟨p1.gSerial,p1.gRides,p1.gPrice,a2,p1.gSig⟩:Zx)) f4 ) fun v163 o2 R2=>?_))
   obtain ⟨v165,w2,rfl,rfl,O2⟩:=R2
   refine Z8 rfl<|Z4 _ (Z17 rfl rfl)<|Z4 _ (Z17 rfl rfl)<|Z8 rfl<|Z8 rfl<|Z2<|Z0<|Z0<|Z1<|Z8 rfl<|Z4 _ (Zb rfl rfl rfl)<|Z8 rfl<|Zex rfl rfl rfl (fun hg1=>Z27 rfl _ (Z04 rfl) (Z27 rfl _ (Zmv rfl rfl) (Z28))) (fun hg1=>rfl) rfl<|Z8 rfl<|Zex rfl rfl rfl (fun hg1=>Z27 rfl _ (Z04 rfl) (Z27 rfl _ (Zb rfl rfl rfl) (Z28))) (fun hg1=>rfl) rfl<|Z8 rfl<|Zex rfl rfl rfl (fun hg1=>Z27 rfl _ (Z04 rfl) (Z27 rfl _ (Zb rfl rfl rfl) (Z28))) (fun hg1=>rfl) rfl<|Z8 rfl<|Zex rfl rfl rfl (fun hg1=>Z27 rfl _ (Z04 rfl) (Z27 rfl _ (Z1v rfl) (Z27 rfl _ (Z0p rfl (.app (.there (.there (.there (.there (.app .t2)))))) rfl) (Z27 rfl _ (Zb rfl rfl rfl) (Z28))))) (fun hg1=>rfl) rfl<|Z2<|Z0r h rfl (fun h=>?_) (fun h=>?_)
   ·refine Z0<|oH h fun y5 f5 h=>Z1<|Z4 _ (Z0a rfl (fun w hw=>Z9s f5 (hG.at hw (by simp))))<|Z8 rfl<|Z2<|Zf ?_
    revert h; refine Z01 fun h=>?_
    subst h
    exact ⟨_,(.cons (.tmp rfl) .nil),rfl⟩
   ·refine Zn<|Z0<|oH h fun y6 f6 h=>Zv<|Z6 _ (Z04 rfl)<|Z6 _ (Z04 rfl)<|Z6 _ (Z04 rfl)<|Zh _ (Z00 (p:=[b3' y2.1]) rfl (.app .t2) rfl)<|Zh _ (Z00 (p:=[.one (.int .i64 (p1.gSerial)),.one (.int .i64 (p1.gRides)),.one (.int .i64 (p1.gPrice)),b3' a2,b6' p1.gSig]) rfl (.app (.there (.there (.there (.there (.app .t2)))))) rfl)<|Z6 _ (Z0a rfl (fun w hw=>Zjb (p1:=(⟨p1.gSerial,p1.gRides,p1.gPrice,a2,p1.gSig⟩:Zx)) f6 (hG.at hw (by simp))))<|Zh _ (Z00 (p:=[b3' a6]) rfl (.app .here) rfl)<|Z6 _ (Zcd (q:=[.one (.int .i64 (y6.gSerial)),.one (.int .i64 (y6.gRides)),.one (.int .i64 (y6.gPrice)),b3' y6.gAnchor,b6' y6.gSig,.one (.int .i64 (p3)),b3' a6,.one (.bool (p4)),b6' (replicate 64 0),.one (.bool (p5)),b6' (replicate 64 0)]) (.agg (z':=[.one (.int .i64 (y6.gSerial)),.one (.int .i64 (y6.gRides)),.one (.int .i64 (y6.gPrice)),b3' y6.gAnchor,b6' y6.gSig,.one (.int .i64 (0)),b3' (replicate 32 0),.one (.bool (false)),b6' (replicate 64 0),.one (.bool (false)),b6' (replicate 64 0)]) rfl (by kernel_rfl) (by kernel_rfl) (.one (z':=[.one (.int .i64 (y6.gSerial)),.one (.int .i64 (y6.gRides)),.one (.int .i64 (y6.gPrice)),b3' y6.gAnchor,b6' y6.gSig,.one (.int .i64 (p3)),b3' (replicate 32 0),.one (.bool (false)),b6' (replicate 64 0),.one (.bool (false)),b6' (replicate 64 0)]) rfl rfl (by kernel_rfl) (.agg (z':=[.one (.int .i64 (y6.gSerial)),.one (.int .i64 (y6.gRides)),.one (.int .i64 (y6.gPrice)),b3' y6.gAnchor,b6' y6.gSig,.one (.int .i64 (p3)),b3' a6,.one (.bool (false)),b6' (replicate 64 0),.one (.bool (false)),b6' (replicate 64 0)]) rfl (by kernel_rfl) (by kernel_rfl) (.one (z':=[.one (.int .i64 (y6.gSerial)),.one (.int .i64 (y6.gRides)),.one (.int .i64 (y6.gPrice)),b3' y6.gAnchor,b6' y6.gSig,.one (.int .i64 (p3)),b3' a6,.one (.bool (p4)),b6' (replicate 64 0),.one (.bool (false)),b6' (replicate 64 0)]) rfl rfl (by kernel_rfl) (.one (z':=[.one (.int .i64 (y6.gSerial)),.one (.int .i64 (y6.gRides)),.one (.int .i64 (y6.gPrice)),b3' y6.gAnchor,b6' y6.gSig,.one (.int .i64 (p3)),b3' a6,.one (.bool (p4)),b6' (replicate 64 0),.one (.bool (p5)),b6' (replicate 64 0)]) rfl rfl (by kernel_rfl) BdR.nil))))))<|Z2u (Zu fun b9 u9=>⟨(by repeat (first | exact Sup.refl _ | apply Sup.cons | apply Sup.app)),Z1q rfl (Zl (p:=[.one (.int .i64 (y6.gSerial)),.one (.int .i64 (y6.gRides)),.one (.int .i64 (y6.gPrice)),b3' y6.gAnchor,b6' y6.gSig,.one (.int .i64 (p3)),b3' a6,.one (.bool (p4)),b6' (replicate 64 0),.one (.bool (p5)),b6' (replicate 64 0)]) (q:=[.one (.int .i64 (y6.gSerial)),.one (.int .i64 (y6.gRides)),.one (.int .i64 (y6.gPrice)),b3' y6.gAnchor,b6' y6.gSig,.one (.int .i64 (p3)),b3' a6,.one (.bool (p4)),b6' (replicate 64 0),.one (.bool (p5)),b6' (replicate 64 0)]) rfl rfl (by kernel_rfl) (by kernel_rfl) (by kernel_rfl) .here (Zy (Z0 (Z0 (Z1 (Z8 rfl (Z2 (jH h fun k5 q5 h=>Zo (G:=fun t m=>∃ (a7:LI),k5 a7=some r/\Fit [(5,.bool (p5)),(8,pt' b2),(13,pt' b4),(15,pt' b5),(17,pt' b6),(24,pt' b9)] (ck b9 63 [.one (.int .i64 (y6.gSerial)),.one (.int .i64 (y6.gRides)),.one (.int .i64 (y6.gPrice)),b3' y6.gAnchor,b6' y6.gSig,.one (.int .i64 (p3)),b3' a6,.one (.bool (p4)),b6' a7,.one (.bool (p5)),b6' (replicate 64 0)]::(ck b8 23 [b3' a6]::(ck b7 23 [b3' a2]::(ck b6 23 [b3' y2.1]::(ck b5 46 [b3' y1.1.gIssuer,.one (v10)]::(w1++(ck b4 23 [b3' p6]::(ck b3 23 [b3' p2]::(ck b2 29 [.one (.int .i64 (p1.gSerial)),.one (.int .i64 (p1.gRides)),.one (.int .i64 (p1.gPrice)),b3' a2,b6' p1.gSig]::(ck b1 25 [.one (.int .i64 (p0.gGates)),.one (.int .i64 (p0.gWallets)),.one (.int .i64 (p0.gRows)),.one (.int .i64 (p0.gFlash)),.one (.int .i64 (p0.gSerials)),b3' p0.gSecret] :: [])))))))))) t m) ?_ ?_))))))))⟩)
    ·refine Z0r h rfl (fun h=>?_) (fun h=>?_)
     ·exact oH h fun y7 f7 h=>Z1<|Z4 _ (Z00 (p:=[b3' y2.1]) rfl (.there (.app .t2)) rfl)<|Z4 _ (Z1v rfl)<|Z4 _ (Z00 (p:=[.one (.int .i64 (y6.gSerial)),.one (.int .i64 (y6.gRides)),.one (.int .i64 (y6.gPrice)),b3' y6.gAnchor,b6' y6.gSig]) rfl .here (by kernel_rfl))<|Z4 _ (Zcd (q:=[.one (.int .i64 (y6.gSerial)),.one (.int .i64 (y6.gRides)),.one (.int .i64 (y6.gPrice)),b3' y6.gAnchor,b6' y6.gSig,b6' (replicate 64 0)]) (.agg (z':=[.one (.int .i64 (y6.gSerial)),.one (.int .i64 (y6.gRides)),.one (.int .i64 (y6.gPrice)),b3' y6.gAnchor,b6' y6.gSig,b6' (replicate 64 0)]) rfl (by kernel_rfl) (by kernel_rfl) BdR.nil))<|Z4 _ (Z0a rfl (fun w hw=>Zhw (p1:=(⟨y6,(replicate 64 0)⟩:Zz)) f7 (hG.at hw (by simp))))<|Z4 _ (Z0e1 (p:=[b6' y7.gSig]) rfl rfl)<|Z4 _ (Z1v rfl)<|Zc (Zl (p:=[b6' y7.gSig]) (q:=[.one (.int .i64 (y6.gSerial)),.one (.int .i64 (y6.gRides)),.one (.int .i64 (y6.gPrice)),b3' y6.gAnchor,b6' y6.gSig,.one (.int .i64 (p3)),b3' a6,.one (.bool (p4)),b6' y7.gSig,.one (.bool (p5)),b6' (replicate 64 0)]) rfl rfl (by kernel_rfl) (by kernel_rfl) (by kernel_rfl) .here<|Z2<|⟨y7.gSig,h,⟨⟨rfl,rfl,rfl,rfl,rfl,rfl,trivial⟩,(.o (.one (.app .here) (.one (.app .here) (.one (.app .here) (.one (.app .here) (.all (.app .here) (.one (.app .here) (.one (.app .here) (.one (.app .here) (.one (.app .here) .nil))))))))))⟩⟩)
     ·exact Zn<|⟨(replicate 64 0),h,⟨⟨rfl,rfl,rfl,rfl,rfl,rfl,trivial⟩,(.o (.one (.app .here) (.one (.app .here) (.one (.app .here) (.one (.app .here) (.all (.app .here) (.one (.app .here) (.one (.app .here) (.one (.app .here) (.one (.app .here) .nil))))))))))⟩⟩
    ·rintro t m ⟨a7,h,hF⟩
     refine Zm hF ?_
     clear hF
     subst q5
     refine Z0<|Z0<|Z1<|Z8 rfl<|Z2<|jH h fun k6 q6 h=>Zo (G:=fun t m=>∃ (a8:LI),k6 a8=some r/\Fit [(8,pt' b2),(13,pt' b4),(15,pt' b5),(24,pt' b9)] (ck b9 63 [.one (.int .i64 (y6.gSerial)),.one (.int .i64 (y6.gRides)),.one (.int .i64 (y6.gPrice)),b3' y6.gAnchor,b6' y6.gSig,.one (.int .i64 (p3)),b3' a6,.one (.bool (p4)),b6' a7,.one (.bool (p5)),b6' a8]::(ck b8 23 [b3' a6]::(ck b7 23 [b3' a2]::(ck b6 23 [b3' y2.1]::(ck b5 46 [b3' y1.1.gIssuer,.one (v10)]::(w1++(ck b4 23 [b3' p6]::(ck b3 23 [b3' p2]::(ck b2 29 [.one (.int .i64 (p1.gSerial)),.one (.int .i64 (p1.gRides)),.one (.int .i64 (p1.gPrice)),b3' a2,b6' p1.gSig]::(ck b1 25 [.one (.int .i64 (p0.gGates)),.one (.int .i64 (p0.gWallets)),.one (.int .i64 (p0.gRows)),.one (.int .i64 (p0.gFlash)),.one (.int .i64 (p0.gSerials)),b3' p0.gSecret] :: [])))))))))) t m) ?_ ?_
     ·refine Z0r h rfl (fun h=>?_) (fun h=>?_)
      ·exact oH h fun y8 f8 h=>Z1<|Z4 _ (Z00 (p:=[b3' y2.1]) rfl .t3 rfl)<|Z4 _ (Z1v rfl)<|Z4 _ (Z00 (p:=[.one (.int .i64 (y6.gSerial)),.one (.int .i64 (y6.gRides)),.one (.int .i64 (y6.gPrice)),b3' y6.gAnchor,b6' y6.gSig]) rfl .here (by kernel_rfl))<|Z4 _ (Zcd (q:=[.one (.int .i64 (y6.gSerial)),.one (.int .i64 (y6.gRides)),.one (.int .i64 (y6.gPrice)),b3' y6.gAnchor,b6' y6.gSig,b6' (replicate 64 0)]) (.agg (z':=[.one (.int .i64 (y6.gSerial)),.one (.int .i64 (y6.gRides)),.one (.int .i64 (y6.gPrice)),b3' y6.gAnchor,b6' y6.gSig,b6' (replicate 64 0)]) rfl (by kernel_rfl) (by kernel_rfl) BdR.nil))<|Z4 _ (Z0a rfl (fun w hw=>Zem (p1:=(⟨y6,(replicate 64 0)⟩:Zg)) f8 (hG.at hw (by simp))))<|Z4 _ (Z0e1 (p:=[b6' y8.gSig]) rfl rfl)<|Z4 _ (Z1v rfl)<|Zc (Zl (p:=[b6' y8.gSig]) (q:=[.one (.int .i64 (y6.gSerial)),.one (.int .i64 (y6.gRides)),.one (.int .i64 (y6.gPrice)),b3' y6.gAnchor,b6' y6.gSig,.one (.int .i64 (p3)),b3' a6,.one (.bool (p4)),b6' a7,.one (.bool (p5)),b6' y8.gSig]) rfl rfl (by kernel_rfl) (by kernel_rfl) (by kernel_rfl) .here<|Z2<|⟨y8.gSig,h,⟨⟨rfl,rfl,rfl,rfl,trivial⟩,(.o (.o (.o (.o (.o (.all .here (.o (.o (.o (.o .nil))))))))))⟩⟩)
      ·exact Zn<|⟨(replicate 64 0),h,⟨⟨rfl,rfl,rfl,rfl,trivial⟩,(.o (.o (.o (.o (.o (.all .here (.o (.o (.o (.o .nil))))))))))⟩⟩
     ·rintro t m ⟨a8,h,hF⟩
      refine Zm hF ?_
      clear hF
      subst q6
      refine Z0<|Z0<|oH h fun y9 f9 h=>Z1<|Z4 _ (Z00 (p:=[b3' y1.1.gIssuer,.one (v10)]) rfl .t4 rfl)<|Z4 _ (Z00 (p:=[.one (.int .i64 (y6.gSerial)),.one (.int .i64 (y6.gRides)),.one (.int .i64 (y6.gPrice)),b3' y6.gAnchor,b6' y6.gSig,.one (.int .i64 (p3)),b3' a6,.one (.bool (p4)),b6' a7,.one (.bool (p5)),b6' a8]) rfl .here (by kernel_rfl))<|Z4 _ (Z0a rfl (fun w hw=>Z4e (p1:=(⟨y6,p3,a6,p4,a7,p5,a8⟩:Z0j)) f9 (hG.at hw (by simp)) ((Z0b O1 .t5) w hw)))<|Z4 _ (Zb rfl rfl rfl)<|Z2<|Z0r h rfl (fun h=>?_) (fun h=>?_)
      ·refine Z0<|Z1<|Z8 rfl<|Z2<|Zf ?_
       revert h; refine Z01 fun h=>?_
       subst h
       exact ⟨_,(.cons (.tmp rfl) .nil),rfl⟩
      ·refine Zn<|Z0<|Z1<|Z4 _ (Z00 (p:=[.one (.int .i64 (y6.gSerial)),.one (.int .i64 (y6.gRides)),.one (.int .i64 (y6.gPrice)),b3' y6.gAnchor,b6' y6.gSig,.one (.int .i64 (p3)),b3' a6,.one (.bool (p4)),b6' a7,.one (.bool (p5)),b6' a8]) rfl .here (by kernel_rfl))<|Zc (Zu fun b10 u10=>Zc (Zl (p:=[.one (.int .i64 (y6.gSerial)),.one (.int .i64 (y6.gRides)),.one (.int .i64 (y6.gPrice)),b3' y6.gAnchor,b6' y6.gSig,.one (.int .i64 (p3)),b3' a6,.one (.bool (p4)),b6' a7,.one (.bool (p5)),b6' a8]) (q:=[.one (.int .i64 (y6.gSerial)),.one (.int .i64 (y6.gRides)),.one (.int .i64 (y6.gPrice)),b3' y6.gAnchor,b6' y6.gSig,.one (.int .i64 (p3)),b3' a6,.one (.bool (p4)),b6' a7,.one (.bool (p5)),b6' a8]) rfl rfl (by kernel_rfl) (by kernel_rfl) (by kernel_rfl) .here<|Z2<|Z0<|bH h fun z3 e3 h=>Z1<|Z4 _ (Z1v rfl)<|Z4 _ (Z0p rfl (.there (.there (.there (.there (.there (.there (.app .t2))))))) rfl)<|Z4 _ (iz e3 (Zb rfl rfl rfl))<|Z4 _ (Z1v rfl)<|Zc (Zgc (q:=[.one (.int .i64 (y6.gSerial)),.one (.int .i64 (y6.gRides)),.one (.int .i64 (y6.gPrice)),b3' y6.gAnchor,b6' y6.gSig,.one (.int .i64 (z3)),b3' a6,.one (.bool (p4)),b6' a7,.one (.bool (p5)),b6' a8]) rfl rfl rfl (by kernel_rfl) .here<|Z2<|Z0<|Z0<|oH h fun y10 f10 h=>Z1<|Z4 _ (Z00 (p:=[b3' y1.1.gIssuer,.one (v10)]) rfl .t5 rfl)<|Z4 _ (Z00 (p:=[.one (.int .i64 (y6.gSerial)),.one (.int .i64 (y6.gRides)),.one (.int .i64 (y6.gPrice)),b3' y6.gAnchor,b6' y6.gSig,.one (.int .i64 (z3)),b3' a6,.one (.bool (p4)),b6' a7,.one (.bool (p5)),b6' a8]) rfl .here (by kernel_rfl))<|Z4 _ (Z0a rfl (fun w hw=>Z4e (p1:=(⟨y6,z3,a6,p4,a7,p5,a8⟩:Z0j)) f10 (hG.at hw (by simp)) ((Z0b O1 .t6) w hw)))<|Z4 _ (Zb rfl rfl rfl)<|Z2<|Z0r h rfl (fun h=>?_) (fun h=>?_))))
       ·refine Z0<|Z1<|Z8 rfl<|Z2<|Zf ?_
        revert h; refine Z01 fun h=>?_
        subst h
        exact ⟨_,(.cons (.tmp rfl) .nil),rfl⟩
       ·refine Zn<|Z0<|Z1<|Z4 _ (Z00 (p:=[.one (.int .i64 (y6.gSerial)),.one (.int .i64 (y6.gRides)),.one (.int .i64 (y6.gPrice)),b3' y6.gAnchor,b6' y6.gSig,.one (.int .i64 (p3)),b3' a6,.one (.bool (p4)),b6' a7,.one (.bool (p5)),b6' a8]) rfl .t1 (by kernel_rfl))<|Zc (Zu fun b11 u11=>Zc (Zl (p:=[.one (.int .i64 (y6.gSerial)),.one (.int .i64 (y6.gRides)),.one (.int .i64 (y6.gPrice)),b3' y6.gAnchor,b6' y6.gSig,.one (.int .i64 (p3)),b3' a6,.one (.bool (p4)),b6' a7,.one (.bool (p5)),b6' a8]) (q:=[.one (.int .i64 (y6.gSerial)),.one (.int .i64 (y6.gRides)),.one (.int .i64 (y6.gPrice)),b3' y6.gAnchor,b6' y6.gSig,.one (.int .i64 (p3)),b3' a6,.one (.bool (p4)),b6' a7,.one (.bool (p5)),b6' a8]) rfl rfl (by kernel_rfl) (by kernel_rfl) (by kernel_rfl) .here<|Z2<|Z0<|Z1<|Z4 _ (Z00 (p:=[b3' p6]) rfl (.there (.there (.there (.there (.there (.there (.there (.app .here)))))))) rfl)<|Z4 _ (Z1v rfl)<|Zc (Zl (p:=[b3' p6]) (q:=[.one (.int .i64 (y6.gSerial)),.one (.int .i64 (y6.gRides)),.one (.int .i64 (y6.gPrice)),b3' y6.gAnchor,b6' y6.gSig,.one (.int .i64 (p3)),b3' p6,.one (.bool (p4)),b6' a7,.one (.bool (p5)),b6' a8]) rfl rfl (by kernel_rfl) (by kernel_rfl) (by kernel_rfl) .here<|Z2<|Z0<|oH h fun y11 f11 h=>Z1<|Z4 _ (Z1v rfl)<|Z4 _ (Z1v rfl)<|Z4 _ (Z00 (p:=[b6' y6.gSig]) rfl .t2 (by kernel_rfl))<|Z4 _ (Z1d rfl (Z5y f11))<|Z4 _ (Z1v rfl)<|Z4 _ (Z1v rfl)<|Zc (Zl (p:=[b6' y11]) (q:=[.one (.int .i64 (y6.gSerial)),.one (.int .i64 (y6.gRides)),.one (.int .i64 (y6.gPrice)),b3' y6.gAnchor,b6' y11,.one (.int .i64 (p3)),b3' p6,.one (.bool (p4)),b6' a7,.one (.bool (p5)),b6' a8]) rfl rfl (by kernel_rfl) (by kernel_rfl) (by kernel_rfl) .here<|Z2<|Z0<|Z1<|Z4 _ (Z00 (p:=[.one (.int .i64 (y6.gSerial)),.one (.int .i64 (y6.gRides)),.one (.int .i64 (y6.gPrice)),b3' y6.gAnchor,b6' y6.gSig,.one (.int .i64 (p3)),b3' a6,.one (.bool (p4)),b6' a7,.one (.bool (p5)),b6' a8]) rfl .t2 (by kernel_rfl))<|Zc (Zu fun b12 u12=>Zc (Zl (p:=[.one (.int .i64 (y6.gSerial)),.one (.int .i64 (y6.gRides)),.one (.int .i64 (y6.gPrice)),b3' y6.gAnchor,b6' y6.gSig,.one (.int .i64 (p3)),b3' a6,.one (.bool (p4)),b6' a7,.one (.bool (p5)),b6' a8]) (q:=[.one (.int .i64 (y6.gSerial)),.one (.int .i64 (y6.gRides)),.one (.int .i64 (y6.gPrice)),b3' y6.gAnchor,b6' y6.gSig,.one (.int .i64 (p3)),b3' a6,.one (.bool (p4)),b6' a7,.one (.bool (p5)),b6' a8]) rfl rfl (by kernel_rfl) (by kernel_rfl) (by kernel_rfl) .here<|Z2<|Z0<|Z1<|Z4 _ (Z00 (p:=[b3' p6]) rfl (.there (.there (.there (.there (.there (.there (.there (.there (.app .here))))))))) rfl)<|Z4 _ (Z1v rfl)<|Zc (Zl (p:=[b3' p6]) (q:=[.one (.int .i64 (y6.gSerial)),.one (.int .i64 (y6.gRides)),.one (.int .i64 (y6.gPrice)),b3' y6.gAnchor,b6' y6.gSig,.one (.int .i64 (p3)),b3' p6,.one (.bool (p4)),b6' a7,.one (.bool (p5)),b6' a8]) rfl rfl (by kernel_rfl) (by kernel_rfl) (by kernel_rfl) .here<|Z2<|Z0<|Z1<|Z4 _ (Z1v rfl)<|Zc (Zgc (q:=[.one (.int .i64 (y6.gSerial)),.one (.int .i64 (y6.gRides)),.one (.int .i64 (y6.gPrice)),b3' y6.gAnchor,b6' y6.gSig,.one (.int .i64 (p3)),b3' p6,.one (.bool (true)),b6' a7,.one (.bool (p5)),b6' a8]) rfl rfl rfl (by kernel_rfl) .here<|Z2<|Z0<|oH h fun y12 f12 h=>Z1<|Z4 _ (Z1v rfl)<|Z4 _ (Z00 (p:=[b6' a7]) rfl .t3 (by kernel_rfl))<|Z4 _ (Z1d rfl (Z5y f12))<|Z4 _ (Z1v rfl)<|Zc (Zl (p:=[b6' y12]) (q:=[.one (.int .i64 (y6.gSerial)),.one (.int .i64 (y6.gRides)),.one (.int .i64 (y6.gPrice)),b3' y6.gAnchor,b6' y6.gSig,.one (.int .i64 (p3)),b3' p6,.one (.bool (true)),b6' y12,.one (.bool (p5)),b6' a8]) rfl rfl (by kernel_rfl) (by kernel_rfl) (by kernel_rfl) .here<|Z2<|Z0<|Z1<|Z4 _ (Z00 (p:=[.one (.int .i64 (y6.gSerial)),.one (.int .i64 (y6.gRides)),.one (.int .i64 (y6.gPrice)),b3' y6.gAnchor,b6' y6.gSig,.one (.int .i64 (p3)),b3' a6,.one (.bool (p4)),b6' a7,.one (.bool (p5)),b6' a8]) rfl .t3 (by kernel_rfl))<|Zc (Zu fun b13 u13=>Zc (Zl (p:=[.one (.int .i64 (y6.gSerial)),.one (.int .i64 (y6.gRides)),.one (.int .i64 (y6.gPrice)),b3' y6.gAnchor,b6' y6.gSig,.one (.int .i64 (p3)),b3' a6,.one (.bool (p4)),b6' a7,.one (.bool (p5)),b6' a8]) (q:=[.one (.int .i64 (y6.gSerial)),.one (.int .i64 (y6.gRides)),.one (.int .i64 (y6.gPrice)),b3' y6.gAnchor,b6' y6.gSig,.one (.int .i64 (p3)),b3' a6,.one (.bool (p4)),b6' a7,.one (.bool (p5)),b6' a8]) rfl rfl (by kernel_rfl) (by kernel_rfl) (by kernel_rfl) .here<|Z2<|Z0<|Z1<|Z4 _ (Z00 (p:=[b3' p6]) rfl (.there (.there (.there (.there (.there (.there (.there (.there (.there (.app .here)))))))))) rfl)<|Z4 _ (Z1v rfl)<|Zc (Zl (p:=[b3' p6]) (q:=[.one (.int .i64 (y6.gSerial)),.one (.int .i64 (y6.gRides)),.one (.int .i64 (y6.gPrice)),b3' y6.gAnchor,b6' y6.gSig,.one (.int .i64 (p3)),b3' p6,.one (.bool (p4)),b6' a7,.one (.bool (p5)),b6' a8]) rfl rfl (by kernel_rfl) (by kernel_rfl) (by kernel_rfl) .here<|Z2<|Z0<|Z1<|Z4 _ (Z1v rfl)<|Zc (Zgc (q:=[.one (.int .i64 (y6.gSerial)),.one (.int .i64 (y6.gRides)),.one (.int .i64 (y6.gPrice)),b3' y6.gAnchor,b6' y6.gSig,.one (.int .i64 (p3)),b3' p6,.one (.bool (p4)),b6' a7,.one (.bool (true)),b6' a8]) rfl rfl rfl (by kernel_rfl) .here<|Z2<|Z0<|oH h fun y13 f13 h=>Z1<|Z4 _ (Z1v rfl)<|Z4 _ (Z00 (p:=[b6' a8]) rfl .t4 (by kernel_rfl))<|Z4 _ (Z1d rfl (Z5y f13))<|Z4 _ (Z1v rfl)<|Zc (Zl (p:=[b6' y13]) (q:=[.one (.int .i64 (y6.gSerial)),.one (.int .i64 (y6.gRides)),.one (.int .i64 (y6.gPrice)),b3' y6.gAnchor,b6' y6.gSig,.one (.int .i64 (p3)),b3' p6,.one (.bool (p4)),b6' a7,.one (.bool (true)),b6' y13]) rfl rfl (by kernel_rfl) (by kernel_rfl) (by kernel_rfl) .here<|Z2<|Z0<|Z0<|oH h fun y14 f14 h=>cH h fun c1 h=>cH h fun c2 h=>Z1<|Z4 _ (Z00 (p:=[b3' y1.1.gIssuer,.one (v10)]) rfl .t8 rfl)<|Z4 _ (Z00 (p:=[.one (.int .i64 (y6.gSerial)),.one (.int .i64 (y6.gRides)),.one (.int .i64 (y6.gPrice)),b3' y6.gAnchor,b6' y11,.one (.int .i64 (p3)),b3' p6,.one (.bool (p4)),b6' a7,.one (.bool (p5)),b6' a8]) rfl .t2 (by kernel_rfl))<|Z4 _ (Z0a rfl (fun w hw=>Z4e (p1:=(⟨(⟨y6.gSerial,y6.gRides,y6.gPrice,y6.gAnchor,y11⟩:Zx),p3,p6,p4,a7,p5,a8⟩:Z0j)) f14 (hG.at hw (by simp)) ((Z0b O1 .t9) w hw)))<|Z4 _ (Zb rfl rfl rfl)<|Z8 rfl<|Zex rfl rfl rfl (fun hg1=>Z27 rfl _ (Z00 (p:=[b3' y1.1.gIssuer,.one (v10)]) rfl .t8 rfl) (Z27 rfl _ (Z00 (p:=[.one (.int .i64 (y6.gSerial)),.one (.int .i64 (y6.gRides)),.one (.int .i64 (y6.gPrice)),b3' y6.gAnchor,b6' y6.gSig,.one (.int .i64 (p3)),b3' p6,.one (.bool (true)),b6' y12,.one (.bool (p5)),b6' a8]) rfl .t1 (by kernel_rfl)) (Z27 rfl _ (Z0a rfl (fun w hw=>Z4e (p1:=(⟨y6,p3,p6,true,y12,p5,a8⟩:Z0j)) (getD_some (z:=0) (Zuz c1 hg1)) (hG.at hw (by simp)) ((Z0b O1 .t9) w hw))) (Z27 rfl _ (Zb rfl rfl rfl) (Z28))))) (fun hg1=>rfl) rfl<|Z8 rfl<|Zex rfl rfl rfl (fun hg1=>Z27 rfl _ (Z00 (p:=[b3' y1.1.gIssuer,.one (v10)]) rfl .t8 rfl) (Z27 rfl _ (Z00 (p:=[.one (.int .i64 (y6.gSerial)),.one (.int .i64 (y6.gRides)),.one (.int .i64 (y6.gPrice)),b3' y6.gAnchor,b6' y6.gSig,.one (.int .i64 (p3)),b3' p6,.one (.bool (p4)),b6' a7,.one (.bool (true)),b6' y13]) rfl .here (by kernel_rfl)) (Z27 rfl _ (Z0a rfl (fun w hw=>Z4e (p1:=(⟨y6,p3,p6,p4,a7,true,y13⟩:Z0j)) (getD_some (z:=0) (Zuz c2 hg1)) (hG.at hw (by simp)) ((Z0b O1 .t9) w hw))) (Z27 rfl _ (Zb rfl rfl rfl) (Z28))))) (fun hg1=>rfl) rfl<|Z2<|Z0r h rfl (fun h=>?_) (fun h=>?_)))))))))))))))
        ·refine Z0<|Z1<|Z8 rfl<|Z2<|Zf ?_
         revert h; refine Z01 fun h=>?_
         subst h
         exact ⟨_,(.cons (.tmp rfl) .nil),rfl⟩
        ·refine Zn<|Z0<|oH h fun y15 f15 h=>Z1<|Z4 _ (Z0a rfl (fun w hw=>Z9s f15 (hG.at hw (by simp))))<|Z8 rfl<|Z2<|Zf ?_
         revert h; refine Z01 fun h=>?_
         subst h
         exact ⟨_,(.cons (.tmp rfl) .nil),rfl⟩
end Go.Proofs.YteefpkhngighgaaGreatDoor

namespace Go.Proofs.YteefpkhngighgaaGreatDoor
open Go Go.Sx Go.RowKit
set_option linter.all false
theorem Zha (x:Int):IntKind.u64.wrap x=x%18446744073709551616:=by simp [IntKind.wrap,IntKind.bits,IntKind.signed]
theorem Z0v (x:Int):IntKind.u8.wrap x=x%256:=by simp [IntKind.wrap,IntKind.bits,IntKind.signed]
theorem Z03 {x:Int} (h0:0<=x) (h1:x<18446744073709551616):IntKind.u64.wrap x=x:=by rw [Zha]; omega
theorem Zp {x:Int} (h0 : -9223372036854775808<=x) (h1:x<=9223372036854775807):IntKind.i64.wrap x=x:=by rw [IntKind.wrap_i64]; omega
theorem bv64 (m:Nat) (h:m<18446744073709551616):(BitVec.ofInt 64 (m:Int)).toNat=m:=by
 rw [BitVec.toNat_ofInt]; simp; omega
theorem bv8 (m:Nat) (h:m<256):(BitVec.ofInt 8 (m:Int)).toNat=m:=by
 rw [BitVec.toNat_ofInt]; simp; omega
theorem Z0ic {x y:Int} (m n:Nat) (hx:x=m) (hy:y=n) (h1:m<18446744073709551616) (h2:n<18446744073709551616):Z7 .and .u64 x y=((m &&& n:Nat):Int):=by
 subst hx; subst hy
 show IntKind.u64.wrap (((BitVec.ofInt 64 (m:Int) &&& BitVec.ofInt 64 (n:Int)).toNat:Nat):Int)=_
 rw [BitVec.toNat_and,bv64 m h1,bv64 n h2,Z03 (by omega)]
 have:m &&& n<=m:=Nat.and_le_left
 omega
theorem or64 {x y:Int} (m n:Nat) (hx:x=m) (hy:y=n) (h1:m<18446744073709551616) (h2:n<18446744073709551616):Z7 .or .u64 x y=((m ||| n:Nat):Int):=by
 subst hx; subst hy
 show IntKind.u64.wrap (((BitVec.ofInt 64 (m:Int) ||| BitVec.ofInt 64 (n:Int)).toNat:Nat):Int)=_
 rw [BitVec.toNat_or,bv64 m h1,bv64 n h2,Z03 (by omega)]
 have:m ||| n<2^64:=Nat.or_lt_two_pow (by simpa using h1) (by simpa using h2)
 simp at this; omega
theorem Zoa (k:Nat) {x y:Int} (hy:y=((2^k-1:Nat):Int)) (hk:2^k<=18446744073709551616) (h0:0<=x) (h1:x<18446744073709551616):Z7 .and .u64 x y=x%((2^k:Nat):Int):=by
 have hp:0<2^k:=Nat.pow_pos (by decide)
 rw [Z0ic x.toNat (2^k-1) (by omega) hy (by omega) (by omega),Nat.and_two_pow_sub_one_eq_mod]
 rw [Int.natCast_emod]
 congr 1; omega
theorem Zo9 {x:Int} (h0:0<=x) (h1:x<18446744073709551616):Z7 .and .u64 x 2251799813685247=x%2251799813685248:=Zoa 51 (by decide) (by decide) h0 h1
theorem Z03j {x:Int} (h0:0<=x) (h1:x<18446744073709551616):Z7 .and .u64 x 4294967295=x%4294967296:=Zoa 32 (by decide) (by decide) h0 h1
theorem Zxx (k:Nat) {x y a:Int} (hx:x=a*((2^k:Nat):Int)) (ha:0<=a) (h0:0<=y) (hy:y<((2^k:Nat):Int)) (h1:x+y<18446744073709551616):Z7 .or .u64 x y=x+y:=by
 have hp:(0:Int)<=((2^k:Nat):Int):=Int.natCast_nonneg _
 have hx0:0<=x:=by rw [hx]; exact Int.mul_nonneg ha hp
 rw [or64 x.toNat y.toNat (by omega) (by omega) (by omega) (by omega)]
 have e:x.toNat=a.toNat <<< k:=by
  rw [Nat.shiftLeft_eq]
  have:(x.toNat:Int)=((a.toNat*2^k:Nat):Int):=by
   rw [Int.natCast_mul,Int.toNat_of_nonneg hx0,Int.toNat_of_nonneg ha,hx]
  exact Int.ofNat_inj.1 this
 rw [e,<- Nat.shiftLeft_add_eq_or_of_lt (by omega:y.toNat<2^k),<- e]
 omega
theorem Zh4 (k:IntKind) {x:Int} {n:Nat} (h:n<=k.bits):Zr k x (n:Int)=x / ((2^n:Nat):Int):=by
 simp only [Zr,Int.toNat_natCast,Nat.min_eq_left h]
 rw [Int.fdiv_eq_ediv_of_nonneg]
 ·simp
 ·exact Int.le_of_lt (Int.pow_pos (by decide))
theorem Zvh (x:Int):Zr .u64 x 51=x / 2251799813685248:=by have:=Zh4 .u64 (x:=x) (n:=51) (by decide); simpa using this
theorem Z0sb (x:Int):Zr .u64 x 32=x / 4294967296:=by have:=Zh4 .u64 (x:=x) (n:=32) (by decide); simpa using this
theorem Zjj (k:IntKind) {x:Int} {n:Nat} (h:n<=k.bits):Z02 k x (n:Int)=k.wrap (x*((2^n:Nat):Int)):=by
 simp only [Z02,Int.toNat_natCast,Nat.min_eq_left h]
 simp
theorem Z0hl (x:Int):Z02 .u64 x 13=(x*8192)%18446744073709551616:=by have:=Zjj .u64 (x:=x) (n:=13) (by decide); rw [Zha] at this; simpa using this
section
variable {α β:Type}
theorem Zj (x:α) (f:α->Option β):bnd x f=f x:=by
 have h : ∀ y,y=bnd x f->y=f x:=fun y e=>e
 exact h _ rfl
theorem Z0h {c:Bool} {o:Option β} (h:c=true):chk c o=o:=by subst h; rfl
theorem Z3 {o:Option α} {f:α->Option β} {y:α} (h:o=some y):opt o f=f y:=by subst h; rfl
theorem Z2e {c:Bool} {a b:Option β} (h:c=true):br c a b=a:=by subst h; rfl
theorem Z1p {c:Bool} {a b:Option β} (h:c=false):br c a b=b:=by subst h; rfl
theorem Z2a {K:Type} (k:K) (g:K->Option β):jn k g=g k:=by
 have h : ∀ y,y=jn k g->y=g k:=fun y e=>e
 exact h _ rfl
end
theorem Z3l {z:Int} {n:Nat} (h0:0<=z) (h1:z<n):inB z n=true:=by simp [inB,h0,h1]
abbrev PP:Int:=57896044618658097711785492504343953926634992332820282019728792003956564819949
abbrev M51:Int:=2251799813685248
def Z7b (x:LI):Int:=x.getD 0 0+x.getD 1 0*2251799813685248+x.getD 2 0*5070602400912917605986812821504+x.getD 3 0*11417981541647679048466287755595961091061972992+x.getD 4 0*25711008708143844408671393477458601640355247900524685364822016
structure U5 (x:LI):Prop where
 a0:0<=x.getD 0 0
 a1:0<=x.getD 1 0
 a2:0<=x.getD 2 0
 a3:0<=x.getD 3 0
 a4:0<=x.getD 4 0
 b0:x.getD 0 0<18446744073709551616
 b1:x.getD 1 0<18446744073709551616
 b2:x.getD 2 0<18446744073709551616
 b3:x.getD 3 0<18446744073709551616
 b4:x.getD 4 0<18446744073709551616
def Zjx (n:Int):LI:=[n%M51,n / M51%M51,n / (M51*M51)%M51,n / (M51*M51*M51)%M51,n / (M51*M51*M51*M51)%M51]
theorem Zrr {n d0 d1 d2 d3 d4:Int} (h:n=d0+d1*2251799813685248+d2*5070602400912917605986812821504+d3*11417981541647679048466287755595961091061972992+d4*25711008708143844408671393477458601640355247900524685364822016)
  (h0:0<=d0/\d0<2251799813685248) (h1:0<=d1/\d1<2251799813685248) (h2:0<=d2/\d2<2251799813685248) (h3:0<=d3/\d3<2251799813685248) (h4:0<=d4/\d4<2251799813685248) : [d0,d1,d2,d3,d4]=Zjx n:=by
 unfold Zjx
 simp only [M51,List.cons.injEq,and_true]
 refine ⟨?_,?_,?_,?_,?_⟩ <;> omega
theorem Zgh {n:Int} (h0:0<=n) (h1:n<PP):Z7b (Zjx n)=n:=by
 simp only [Z7b,Zjx,M51,PP,List.getD_cons_zero,List.getD_cons_succ] at *
 omega
theorem Zrq (n:Int):U5 (Zjx n):=by
 constructor <;> simp only [Zjx,M51,List.getD_cons_zero,List.getD_cons_succ] <;> omega
end Go.Proofs.YteefpkhngighgaaGreatDoor
namespace Go.Proofs.YteefpkhngighgaaGreatDoor
open Go Go.Sx Go.RowKit
open Go.IntKind (wrap)
set_option linter.all false
set_option maxRecDepth 100000
def Zcp (x:LI):LI :=
  [x.getD 0 0%2251799813685248+x.getD 4 0 / 2251799813685248*19,x.getD 1 0%2251799813685248+x.getD 0 0 / 2251799813685248,x.getD 2 0%2251799813685248+x.getD 1 0 / 2251799813685248,
   x.getD 3 0%2251799813685248+x.getD 2 0 / 2251799813685248,x.getD 4 0%2251799813685248+x.getD 3 0 / 2251799813685248]
theorem Zhc {x:LI} (h:U5 x):Z5n x=some (Zcp x):=by
  have ⟨a0,a1,a2,a3,a4,b0,b1,b2,b3,b4⟩:=h
  simp only [Z5n,Zj,Zvh,Zha,Zo9 a0 b0,Zo9 a1 b1,Zo9 a2 b2,Zo9 a3 b3,Zo9 a4 b4,Zcp]
  simp only [Option.some.injEq,List.cons.injEq,and_true]
  refine ⟨?_,?_,?_,?_,?_⟩ <;> omega
structure C5 (x:LI) (e:Int):Prop where
  a0:0<=x.getD 0 0
  a1:0<=x.getD 1 0
  a2:0<=x.getD 2 0
  a3:0<=x.getD 3 0
  a4:0<=x.getD 4 0
  b0:x.getD 0 0<2251799813685248+e
  b1:x.getD 1 0<2251799813685248+e
  b2:x.getD 2 0<2251799813685248+e
  b3:x.getD 3 0<2251799813685248+e
  b4:x.getD 4 0<2251799813685248+e
theorem C5.u {x:LI} {e:Int} (h:C5 x e) (he:e<=1125899906842624):U5 x:=by
  have ⟨a0,a1,a2,a3,a4,b0,b1,b2,b3,b4⟩:=h
  constructor <;> omega
theorem Zwc {x:LI} (h:U5 x):C5 (Zcp x) 262144:=by
  have ⟨a0,a1,a2,a3,a4,b0,b1,b2,b3,b4⟩:=h
  constructor <;> simp only [Zcp,List.getD_cons_zero,List.getD_cons_succ] <;> omega
theorem Z08r {x:LI} (h:C5 x 262144):C5 (Zcp x) 20:=by
  have ⟨a0,a1,a2,a3,a4,b0,b1,b2,b3,b4⟩:=h
  constructor <;> simp only [Zcp,List.getD_cons_zero,List.getD_cons_succ] <;> omega
theorem Z04b {x:LI} : ∃ q,Z7b x=Z7b (Zcp x)+q*PP:=by
  refine ⟨x.getD 4 0 / 2251799813685248,?_⟩
  simp only [Z7b,Zcp,PP,List.getD_cons_zero,List.getD_cons_succ]
  omega
theorem Zjt {x:LI}:Z7b (Zcp x)%PP=Z7b x%PP:=by
  obtain ⟨q,hq⟩:=Z04b (x:=x)
  rw [hq,Int.add_mul_emod_self_right]
def Zn1 (x:LI):LI:=Zjx (Z7b x%PP)
abbrev shw (x:Int):Int:=Zr .u64 x 51
abbrev wuu (x:Int):Int:=wrap .u64 x
abbrev low (x:Int):Int:=Z7 .and .u64 x 2251799813685247
def rQ (y1 y2 y3 y4 q:Int):Int:=shw (wuu (y4+shw (wuu (y3+shw (wuu (y2+shw (wuu (y1+q))))))))
def rr0 (y0 Q:Int):Int:=wuu (y0+wuu (19*Q))
theorem Z079 (y0 y1 y2 y3 y4 q:Int):Z61 [y0,y1,y2,y3,y4] (fun i46=>Z62 (fun a149=>some (Z3z a149 4 (Z7 .and .u64 (a149.getD 4 0) 2251799813685247))) big 0 (Z3z [y0,y1,y2,y3,y4] 0 (wrap .u64 (y0+wrap .u64 (19*i46))))) big q 0 =
    some [low (rr0 y0 (rQ y1 y2 y3 y4 q)),low (wuu (y1+shw (rr0 y0 (rQ y1 y2 y3 y4 q)))),low (wuu (y2+shw (wuu (y1+shw (rr0 y0 (rQ y1 y2 y3 y4 q)))))),
      low (wuu (y3+shw (wuu (y2+shw (wuu (y1+shw (rr0 y0 (rQ y1 y2 y3 y4 q)))))))),low (wuu (y4+shw (wuu (y3+shw (wuu (y2+shw (wuu (y1+shw (rr0 y0 (rQ y1 y2 y3 y4 q)))))))))) ]:=by kernel_rfl
theorem Zto {y q:Int} (hy:0<=y/\y<2251799813685268) (hq:0<=q/\q<=1) : ∃ q' s,shw (wuu (y+q))=q'/\y+q=2251799813685248*q'+s/\(0<=s/\s<2251799813685248)/\(0<=q'/\q'<=1):=by
  refine ⟨(y+q) / 2251799813685248,(y+q)%2251799813685248,?_,by omega,by omega,by omega⟩
  rw [shw,Zvh,wuu,Z03 (by omega) (by omega)]
theorem Zqj {y r:Int} (hy:0<=y/\y<2251799813685268) (hr:0<=r/\r<4503599627370496) : ∃ c d r',shw r=c/\low r=d/\r=2251799813685248*c+d/\(0<=d/\d<2251799813685248)/\wuu (y+c)=r'/\r'=y+c/\(0<=r'/\r'<4503599627370496):=by
  refine ⟨r / 2251799813685248,r%2251799813685248,y+r / 2251799813685248,Zvh _,Zo9 hr.1 (by omega),by omega,by omega,Z03 (by omega) (by omega),rfl,by omega⟩
theorem Z01k {y0 y1 y2 y3 y4 q0 q1 q2 q3 q4 s0 s1 s2 s3 s4 c0 c1 c2 c3 c4 d0 d1 d2 d3 d4:Int}
    (h0:y0+19=2251799813685248*q0+s0) (h1:y1+q0=2251799813685248*q1+s1) (h2:y2+q1=2251799813685248*q2+s2) (h3:y3+q2=2251799813685248*q3+s3) (h4:y4+q3=2251799813685248*q4+s4)
    (k0:y0+19*q4=2251799813685248*c0+d0) (k1:y1+c0=2251799813685248*c1+d1) (k2:y2+c1=2251799813685248*c2+d2) (k3:y3+c2=2251799813685248*c3+d3) (k4:y4+c3=2251799813685248*c4+d4)
    (t0:0<=s0/\s0<2251799813685248) (t1:0<=s1/\s1<2251799813685248) (t2:0<=s2/\s2<2251799813685248) (t3:0<=s3/\s3<2251799813685248) (t4:0<=s4/\s4<2251799813685248)
    (u0:0<=d0/\d0<2251799813685248) (u1:0<=d1/\d1<2251799813685248) (u2:0<=d2/\d2<2251799813685248) (u3:0<=d3/\d3<2251799813685248) (u4:0<=d4/\d4<2251799813685248) (hq:0<=q4/\q4<=1) (hy:0<=(y0+y1*2251799813685248+y2*5070602400912917605986812821504+y3*11417981541647679048466287755595961091061972992+y4*25711008708143844408671393477458601640355247900524685364822016)/\(y0+y1*2251799813685248+y2*5070602400912917605986812821504+y3*11417981541647679048466287755595961091061972992+y4*25711008708143844408671393477458601640355247900524685364822016)<115792089237316195423570985008687907853269984665640564039457584007913129639836) :
    (y0+y1*2251799813685248+y2*5070602400912917605986812821504+y3*11417981541647679048466287755595961091061972992+y4*25711008708143844408671393477458601640355247900524685364822016)-q4*PP=(d0+d1*2251799813685248+d2*5070602400912917605986812821504+d3*11417981541647679048466287755595961091061972992+d4*25711008708143844408671393477458601640355247900524685364822016)/\0<=(d0+d1*2251799813685248+d2*5070602400912917605986812821504+d3*11417981541647679048466287755595961091061972992+d4*25711008708143844408671393477458601640355247900524685364822016)/\(d0+d1*2251799813685248+d2*5070602400912917605986812821504+d3*11417981541647679048466287755595961091061972992+d4*25711008708143844408671393477458601640355247900524685364822016)<PP:=by
  have e1:(y0+y1*2251799813685248+y2*5070602400912917605986812821504+y3*11417981541647679048466287755595961091061972992+y4*25711008708143844408671393477458601640355247900524685364822016)+19=q4*57896044618658097711785492504343953926634992332820282019728792003956564819968+(s0+s1*2251799813685248+s2*5070602400912917605986812821504+s3*11417981541647679048466287755595961091061972992+s4*25711008708143844408671393477458601640355247900524685364822016):=by omega
  have e2:(y0+y1*2251799813685248+y2*5070602400912917605986812821504+y3*11417981541647679048466287755595961091061972992+y4*25711008708143844408671393477458601640355247900524685364822016)+19*q4=c4*57896044618658097711785492504343953926634992332820282019728792003956564819968+(d0+d1*2251799813685248+d2*5070602400912917605986812821504+d3*11417981541647679048466287755595961091061972992+d4*25711008708143844408671393477458601640355247900524685364822016):=by omega
  have b1:0<=(s0+s1*2251799813685248+s2*5070602400912917605986812821504+s3*11417981541647679048466287755595961091061972992+s4*25711008708143844408671393477458601640355247900524685364822016)/\(s0+s1*2251799813685248+s2*5070602400912917605986812821504+s3*11417981541647679048466287755595961091061972992+s4*25711008708143844408671393477458601640355247900524685364822016)<57896044618658097711785492504343953926634992332820282019728792003956564819968:=by omega
  have b2:0<=(d0+d1*2251799813685248+d2*5070602400912917605986812821504+d3*11417981541647679048466287755595961091061972992+d4*25711008708143844408671393477458601640355247900524685364822016)/\(d0+d1*2251799813685248+d2*5070602400912917605986812821504+d3*11417981541647679048466287755595961091061972992+d4*25711008708143844408671393477458601640355247900524685364822016)<57896044618658097711785492504343953926634992332820282019728792003956564819968:=by omega
  generalize (y0+y1*2251799813685248+y2*5070602400912917605986812821504+y3*11417981541647679048466287755595961091061972992+y4*25711008708143844408671393477458601640355247900524685364822016)=V at *
  generalize (d0+d1*2251799813685248+d2*5070602400912917605986812821504+d3*11417981541647679048466287755595961091061972992+d4*25711008708143844408671393477458601640355247900524685364822016)=D at *
  generalize (s0+s1*2251799813685248+s2*5070602400912917605986812821504+s3*11417981541647679048466287755595961091061972992+s4*25711008708143844408671393477458601640355247900524685364822016)=S at *
  clear h0 h1 h2 h3 h4 k0 k1 k2 k3 k4 t0 t1 t2 t3 t4 u0 u1 u2 u3 u4
  simp only [PP]
  have hc:q4=0∨q4=1:=by omega
  rcases hc with rfl | rfl
  · obtain rfl:c4=0:=by omega
    omega
  · obtain rfl:c4=1:=by omega
    omega
theorem Z64 {x:LI} (h:U5 x):Z1k x=some (Zn1 x):=by
  have h1:=Zwc h
  have h2:=Z08r h1
  have hm:Z7b (Zcp (Zcp x))%PP=Z7b x%PP:=by rw [Zjt,Zjt]
  rw [Z1k,Z3 (Zhc h),Z3 (Zhc (h1.u (by decide)))]
  unfold Zn1
  rw [<- hm]
  have hl:Zcp (Zcp x) = [(Zcp (Zcp x)).getD 0 0,(Zcp (Zcp x)).getD 1 0,(Zcp (Zcp x)).getD 2 0,(Zcp (Zcp x)).getD 3 0,(Zcp (Zcp x)).getD 4 0]:=rfl
  generalize Zcp (Zcp x)=y at *
  have ⟨a0,a1,a2,a3,a4,b0,b1,b2,b3,b4⟩:=h2
  simp only [Zj,Z2a,Z7b]
  generalize y.getD 0 0=y0 at *
  generalize y.getD 1 0=y1 at *
  generalize y.getD 2 0=y2 at *
  generalize y.getD 3 0=y3 at *
  generalize y.getD 4 0=y4 at *
  rw [hl,Z079]
  congr 1
  clear hl h1 h2 hm h
  have e0:Zr .u64 (wrap .u64 (y0+19)) 51=(y0+19) / 2251799813685248:=by rw [Zvh,Z03 (by omega) (by omega)]
  obtain ⟨q0,s0,hq0,hs0,hs0',hq0'⟩ : ∃ q s,(y0+19) / 2251799813685248=q/\y0+19=2251799813685248*q+s/\(0<=s/\s<2251799813685248)/\(0<=q/\q<=1):=⟨_,(y0+19)%2251799813685248,rfl,by omega,by omega,by omega⟩
  rw [e0,hq0]
  obtain ⟨q1,s1,e1,hs1,hs1',hq1'⟩:=Zto (y:=y1) (q:=q0) (by omega) hq0'
  obtain ⟨q2,s2,e2,hs2,hs2',hq2'⟩:=Zto (y:=y2) (q:=q1) (by omega) hq1'
  obtain ⟨q3,s3,e3,hs3,hs3',hq3'⟩:=Zto (y:=y3) (q:=q2) (by omega) hq2'
  obtain ⟨q4,s4,e4,hs4,hs4',hq4'⟩:=Zto (y:=y4) (q:=q3) (by omega) hq3'
  have f0:rr0 y0 q4=y0+19*q4:=by rw [rr0,wuu,wuu,Z03 (x:=19*q4) (by omega) (by omega),Z03 (by omega) (by omega)]
  have hy:0<=(y0+y1*2251799813685248+y2*5070602400912917605986812821504+y3*11417981541647679048466287755595961091061972992+y4*25711008708143844408671393477458601640355247900524685364822016)/\(y0+y1*2251799813685248+y2*5070602400912917605986812821504+y3*11417981541647679048466287755595961091061972992+y4*25711008708143844408671393477458601640355247900524685364822016)<115792089237316195423570985008687907853269984665640564039457584007913129639836:=by omega
  unfold rQ
  rw [e1,e2,e3,e4,f0]
  obtain ⟨c0,d0,r1,g0,l0,k0,u0,w1,v1,z1⟩:=Zqj (y:=y1) (r:=y0+19*q4) (by omega) (by omega)
  rw [g0,l0,w1]
  obtain ⟨c1,d1,r2,g1,l1,k1,u1,w2,v2,z2⟩:=Zqj (y:=y2) (r:=r1) (by omega) z1
  rw [g1,l1,w2]
  obtain ⟨c2,d2,r3,g2,l2,k2,u2,w3,v3,z3⟩:=Zqj (y:=y3) (r:=r2) (by omega) z2
  rw [g2,l2,w3]
  obtain ⟨c3,d3,r4,g3,l3,k3,u3,w4,v4,z4⟩:=Zqj (y:=y4) (r:=r3) (by omega) z3
  rw [g3,l3,w4]
  obtain ⟨c4,d4,r5,g4,l4,k4,u4,w5,v5,z5⟩:=Zqj (y:=y4) (r:=r4) (by omega) z4
  rw [l4]
  subst v1 v2 v3 v4
  obtain ⟨hv,hlo⟩:=Z01k hs0 hs1 hs2 hs3 hs4 k0 k1 k2 k3 k4 hs0' hs1' hs2' hs3' hs4' u0 u1 u2 u3 u4 hq4' hy
  refine Zrr ?_ u0 u1 u2 u3 u4
  rw [<- hv] at hlo ⊢
  rw [<- Int.emod_eq_of_lt hlo.1 hlo.2,Int.sub_mul_emod_self_right]
end Go.Proofs.YteefpkhngighgaaGreatDoor
namespace Go.Proofs.YteefpkhngighgaaGreatDoor
open Go Go.Sx Go.RowKit
set_option linter.all false
set_option maxRecDepth 100000
theorem Zgn {a b:Int} {A B:Int} (ha:0<=a/\a<=A) (hb:0<=b/\b<=B):0<=a*b/\a*b<=A*B :=
 ⟨Int.mul_nonneg ha.1 hb.1,Int.mul_le_mul ha.2 hb.2 hb.1 (Int.le_trans ha.1 ha.2)⟩
theorem Zoq {x y:Int} (hx:0<=x/\x<18446744073709551616) (hy:0<=y/\y<18446744073709551616) :
  Z63 x y=some (x*y / 18446744073709551616,x*y%18446744073709551616):=by
 simp only [Z63,Zj,Z03j hx.1 hx.2,Z03j hy.1 hy.2,Z0sb]
 have ex:x=x / 4294967296*4294967296+x%4294967296:=by omega
 have ey:y=y / 4294967296*4294967296+y%4294967296:=by omega
 have bxl:0<=x%4294967296/\x%4294967296<=4294967295:=by omega
 have byl:0<=y%4294967296/\y%4294967296<=4294967295:=by omega
 have bxh:0<=x / 4294967296/\x / 4294967296<=4294967295:=by omega
 have byh:0<=y / 4294967296/\y / 4294967296<=4294967295:=by omega
 have hxy:x*y=x / 4294967296*(y / 4294967296)*18446744073709551616+(x / 4294967296*(y%4294967296)+x%4294967296*(y / 4294967296))*4294967296+x%4294967296*(y%4294967296):=by
  conv=>lhs; rw [ex,ey]
  generalize x / 4294967296=a
  generalize x%4294967296=b
  generalize y / 4294967296=c
  generalize y%4294967296=d
  grind
 have p00:=Zgn bxl byl
 have p10:=Zgn bxh byl
 have p01:=Zgn bxl byh
 have p11:=Zgn bxh byh
 rw [hxy]
 generalize x%4294967296*(y%4294967296)=A at *
 generalize x / 4294967296*(y%4294967296)=B at *
 generalize x%4294967296*(y / 4294967296)=D at *
 generalize x / 4294967296*(y / 4294967296)=F at *
 clear hxy ex ey bxl byl bxh byh
 rw [Z03 (x:=A) (by omega) (by omega),Z03 (x:=B) (by omega) (by omega),Z03 (x:=D) (by omega) (by omega),Z03 (x:=F) (by omega) (by omega)]
 rw [Z03 (x:=B+A / 4294967296) (by omega) (by omega),Z03j (by omega) (by omega)]
 rw [Z03 (x:=(B+A / 4294967296)%4294967296+D) (by omega) (by omega),Z03 (x:=F+(B+A / 4294967296) / 4294967296) (by omega) (by omega)]
 rw [Z03 (by omega) (by omega),Zha]
 congr 1
 refine Prod.ext ?_ rfl
 show F+(B+A / 4294967296) / 4294967296+((B+A / 4294967296)%4294967296+D) / 4294967296=_
 omega
def Zkm (s:Int):Int:=s / 18446744073709551616
def Zhh (s:Int):Int:=s%18446744073709551616
theorem Zo7 (a b c:Int):Zbb a b c=(a+b+c)%18446744073709551616:=rfl
theorem Zl1 (a b c:Int):Zg6 a b c=(a+b+c) / 18446744073709551616:=rfl
theorem Zze {xs:LI} {o L:Nat} {s a c:Int} (hs:0<=s) (h1:xs.getD o 0=Zkm s) (h2:xs.getD (o+1) 0=Zhh s) (hL:o+1<L) (ha:0<=a/\a<18446744073709551616) (hc:0<=c/\c<18446744073709551616)
  (hb:s+a*c<340282366920938463463374607431768211456) :
  Z31 xs o L a c=some (Z3z (Z3z xs (o+1) (Zhh (s+a*c))) o (Zkm (s+a*c))):=by
 have hp:=Zgn (A:=18446744073709551615) (B:=18446744073709551615) (a:=a) (b:=c) (by omega) (by omega)
 rw [Z31,Z3 (Zoq ha hc)]
 rw [Z0h (by simpa using hL)]
 simp only [Zj,h2]
 have e1:Zhh s+a*c%18446744073709551616=Zhh s+a*c%18446744073709551616:=rfl
 generalize a*c=p at *
 have hlo:0<=Zhh s/\Zhh s<18446744073709551616:=by unfold Zhh; omega
 have hhi:0<=Zkm s/\Zkm s<18446744073709551616:=by unfold Zkm; omega
 rw [Z0h (by simp [Zfu]; omega),Z0h (by simpa using hL),Z0h (by simp; omega)]
 simp only [Nat.add_zero,Z8j]
 rw [if_neg (by omega),h1,Z0h (by simp [Zfu,Zl1]; omega),Z0h (by simp; omega)]
 simp only [Zo7,Zl1]
 congr 2
 ·congr 1
  unfold Zhh; omega
 ·unfold Zkm Zhh; omega
end Go.Proofs.YteefpkhngighgaaGreatDoor
namespace Go.Proofs.YteefpkhngighgaaGreatDoor
open Go Go.Sx Go.RowKit
open Go.IntKind (wrap)
set_option linter.all false
set_option maxRecDepth 100000
def Zml (S:Nat->Int):LI:=[Zkm (S 0),Zhh (S 0),Zkm (S 1),Zhh (S 1),Zkm (S 2),Zhh (S 2),Zkm (S 3),Zhh (S 3),Zkm (S 4),Zhh (S 4)]
theorem Zvl {S T:Nat->Int} (h : ∀ k,k<5->S k=T k):Zml S=Zml T:=by
  simp only [Zml,h 0 (by decide),h 1 (by decide),h 2 (by decide),h 3 (by decide),h 4 (by decide)]
def updN (S:Nat->Int) (k:Nat) (v:Int):Nat->Int:=fun j=>if j=k then v else S j
theorem Zuc {S:Nat->Int} {k:Nat} {a c:Int} (hk:k<5) (hs:0<=S k) (ha:0<=a/\a<18446744073709551616) (hc:0<=c/\c<18446744073709551616) (hb:S k+a*c<340282366920938463463374607431768211456) :
    Z31 (Zml S) (0+k*2) 10 a c=some (Zml (updN S k (S k+a*c))):=by
  have h1:(Zml S).getD (0+k*2) 0=Zkm (S k):=by
    match k,hk with
    | 0,_=>rfl
    | 1,_=>rfl
    | 2,_=>rfl
    | 3,_=>rfl
    | 4,_=>rfl
  have h2:(Zml S).getD (0+k*2+1) 0=Zhh (S k):=by
    match k,hk with
    | 0,_=>rfl
    | 1,_=>rfl
    | 2,_=>rfl
    | 3,_=>rfl
    | 4,_=>rfl
  rw [Zze hs h1 h2 (by omega) ha hc hb]
  congr 1
  match k,hk with
  | 0,_=>rfl
  | 1,_=>rfl
  | 2,_=>rfl
  | 3,_=>rfl
  | 4,_=>rfl
def Zop (x:Int) (y:LI) (i j:Nat):Int:=x*(if i+j<5 then y.getD j 0 else 19*y.getD j 0)
theorem Zxq {y:LI} {i j:Nat} {kk:LI->Option (LI)} {k':Int->LI->Option (LI)} {x:Int} {S:Nat->Int} {T:Int} (hi:i<5) (hj:j<5) (hx:0<=x/\x<=2251799813947392) (hy : ∀ j,j<5->0<=y.getD j 0/\y.getD j 0<=2251799813947392)
    (hS : ∀ k,k<5->0<=S k/\S k<=T) (hT:T<=100000000000000000000000000000000000) :
    Z7m y (i:Int) x kk k' (j:Int) (Zml S)=k' ((j+1:Nat):Int) (Zml (updN S ((i+j)%5) (S ((i+j)%5)+Zop x y i j))):=by
  have hyj:=hy j hj
  rw [Z7m,Z2e (by simp; omega),Z2a,Z0h (Z3l (by omega) (by omega))]
  simp only [Zj,Int.toNat_natCast]
  have hij:wrap .i64 ((i:Int)+(j:Int))=((i+j:Nat):Int):=by rw [Zp (by omega) (by omega)]; omega
  have hj1:wrap .i64 ((j:Int)+1)=((j+1:Nat):Int):=by rw [Zp (by omega) (by omega)]; omega
  rw [hij,hj1]
  have hSk:=hS ((i+j)%5) (Nat.mod_lt _ (by decide))
  by_cases h:i+j<5
  · have hm:(i+j)%5=i+j:=Nat.mod_eq_of_lt h
    rw [hm] at hSk ⊢
    have hp:=Zgn hx hyj
    rw [Z2e (by simp; omega),Z0h (Z3l (by omega) (by omega)),Z3 (Zuc (S:=S) (k:=((i+j:Nat):Int).toNat) (by omega) (by rw [Int.toNat_natCast]; exact hSk.1) (by omega) (by omega) (by rw [Int.toNat_natCast]; omega))]
    simp only [Int.toNat_natCast,Zop,if_pos h]
  · have hm:(i+j)%5=i+j-5:=by omega
    rw [hm] at hSk ⊢
    have h5:wrap .i64 (((i+j:Nat):Int)-5)=((i+j-5:Nat):Int):=by rw [Zp (by omega) (by omega)]; omega
    have h19:wrap .u64 (19*y.getD j 0)=19*y.getD j 0:=Z03 (by omega) (by omega)
    rw [h5,h19]
    have hp:=Zgn (b:=19*y.getD j 0) (B:=42784196465000448) hx (by omega)
    rw [Z1p (by simp; omega),Z0h (Z3l (by omega) (by omega)),Z3 (Zuc (S:=S) (k:=((i+j-5:Nat):Int).toNat) (by omega) (by rw [Int.toNat_natCast]; exact hSk.1) (by omega) (by omega) (by rw [Int.toNat_natCast]; omega))]
    simp only [Int.toNat_natCast,Zop,if_neg h]
theorem Z00z {y:LI} {i:Nat} {kk:LI->Option (LI)} {k':Int->LI->Option (LI)} {x:Int} {a:LI} (hi:i<5):Z7m y (i:Int) x kk k' 5 a=kk a:=by
  rw [Z7m,Z1p (by decide)]
theorem Z00w {x:Int} {y:LI} {i j:Nat} (hj:j<5) (hx:0<=x/\x<=2251799813947392) (hy : ∀ j,j<5->0<=y.getD j 0/\y.getD j 0<=2251799813947392):0<=Zop x y i j/\Zop x y i j<=96341445639776675308685928431616:=by
  have hyj:=hy j hj
  unfold Zop
  split
  · have:=Zgn hx hyj; omega
  · have:=Zgn (b:=19*y.getD j 0) (B:=42784196465000448) hx (by omega); omega
theorem Z0hp {S:Nat->Int} {T v:Int} {k:Nat} (hS : ∀ k,k<5->0<=S k/\S k<=T) (hv:0<=v/\v<=T+96341445639776675308685928431616) : ∀ j,j<5->0<=updN S k v j/\updN S k v j<=T+96341445639776675308685928431616:=by
  intro j hj
  have:=hS j hj
  unfold updN
  split <;> omega
def inn (S:Nat->Int) (x:Int) (y:LI) (i:Nat):Nat->Int:=fun k=>S k+x*(if i<=k then y.getD (k-i) 0 else 19*y.getD (k+5-i) 0)
theorem Zxo {y:LI} {i:Nat} {kk:LI->Option (LI)} {x:Int} {S:Nat->Int} {T:Int} (hi:i<5) (hx:0<=x/\x<=2251799813947392) (hy : ∀ j,j<5->0<=y.getD j 0/\y.getD j 0<=2251799813947392)
    (hS : ∀ k,k<5->0<=S k/\S k<=T) (hT:T<=10000000000000000000000000000000000) :
    Z6f y (i:Int) x kk big 0 (Zml S)=kk (Zml (inn S x y i)):=by
  obtain ⟨n,hn⟩ : ∃ n,big=n+6:=⟨18446744073709551610,Z6d⟩
  rw [hn]
  have step : ∀ (n j:Nat) (S:Nat->Int) (T:Int),j<5->(∀ k,k<5->0<=S k/\S k<=T)->T<=100000000000000000000000000000000000 ->
      Z6f y (i:Int) x kk (n+1) (j:Int) (Zml S)=Z6f y (i:Int) x kk n ((j+1:Nat):Int) (Zml (updN S ((i+j)%5) (S ((i+j)%5)+Zop x y i j))) :=
    fun n j S T hj hS hT=>Zxq hi hj hx hy hS hT
  have bd : ∀ (j:Nat) (S:Nat->Int) (T:Int),j<5->(∀ k,k<5->0<=S k/\S k<=T)->∀ k,k<5->0<=updN S ((i+j)%5) (S ((i+j)%5)+Zop x y i j) k/\updN S ((i+j)%5) (S ((i+j)%5)+Zop x y i j) k<=T+96341445639776675308685928431616 :=
    fun j S T hj hS=>Z0hp hS (by have:=Z00w (i:=i) hj hx hy; have:=hS ((i+j)%5) (Nat.mod_lt _ (by decide)); omega)
  have s0:=step (n+5) 0 S T (by decide) hS (by omega)
  have b0:=bd 0 S T (by decide) hS
  have s1:=step (n+4) 1 _ _ (by decide) b0 (by omega)
  have b1:=bd 1 _ _ (by decide) b0
  have s2:=step (n+3) 2 _ _ (by decide) b1 (by omega)
  have b2:=bd 2 _ _ (by decide) b1
  have s3:=step (n+2) 3 _ _ (by decide) b2 (by omega)
  have b3:=bd 3 _ _ (by decide) b2
  have s4:=step (n+1) 4 _ _ (by decide) b3 (by omega)
  refine (s0.trans (s1.trans (s2.trans (s3.trans (s4.trans ((Z00z hi).trans ?_))))))
  congr 1
  apply Zvl
  intro k hk
  clear s0 s1 s2 s3 s4 b0 b1 b2 b3 bd step hS hy hx hn
  match i,hi,k,hk with
  | 0,_,0,_ | 0,_,1,_ | 0,_,2,_ | 0,_,3,_ | 0,_,4,_ | 1,_,0,_ | 1,_,1,_ | 1,_,2,_ | 1,_,3,_ | 1,_,4,_ | 2,_,0,_ | 2,_,1,_ | 2,_,2,_ | 2,_,3,_ | 2,_,4,_
  | 3,_,0,_ | 3,_,1,_ | 3,_,2,_ | 3,_,3,_ | 3,_,4,_ | 4,_,0,_ | 4,_,1,_ | 4,_,2,_ | 4,_,3,_ | 4,_,4,_=>rfl
theorem Zj3 {S:Nat->Int} {x T:Int} {y:LI} {i:Nat} (hi:i<5) (hx:0<=x/\x<=2251799813947392) (hy : ∀ j,j<5->0<=y.getD j 0/\y.getD j 0<=2251799813947392) (hS : ∀ k,k<5->0<=S k/\S k<=T) :
    ∀ k,k<5->0<=inn S x y i k/\inn S x y i k<=T+96341445639776675308685928431616:=by
  intro k hk
  have h1:=hS k hk
  unfold inn
  split
  · have:=Zgn hx (hy (k-i) (by omega)); omega
  · have:=Zgn (b:=19*y.getD (k+5-i) 0) (B:=42784196465000448) hx (by have:=hy (k+5-i) (by omega); omega); omega
def Zmu (x y:LI):Nat->Int:=inn (inn (inn (inn (inn (fun _=>0) (x.getD 0 0) y 0) (x.getD 1 0) y 1) (x.getD 2 0) y 2) (x.getD 3 0) y 3) (x.getD 4 0) y 4
theorem Z05q {x y:LI} (hx : ∀ j,j<5->0<=x.getD j 0/\x.getD j 0<=2251799813947392) (hy : ∀ j,j<5->0<=y.getD j 0/\y.getD j 0<=2251799813947392) : ∀ k,k<5->0<=Zmu x y k/\Zmu x y k<=481707228198883376543429642158080:=by
  have b0:=Zj3 (S:=fun _=>0) (T:=0) (i:=0) (by decide) (hx 0 (by decide)) hy (fun _ _=>by simp)
  have b1:=Zj3 (i:=1) (by decide) (hx 1 (by decide)) hy b0
  have b2:=Zj3 (i:=2) (by decide) (hx 2 (by decide)) hy b1
  have b3:=Zj3 (i:=3) (by decide) (hx 3 (by decide)) hy b2
  have b4:=Zj3 (i:=4) (by decide) (hx 4 (by decide)) hy b3
  intro k hk
  have:=b4 k hk
  unfold Zmu
  omega
theorem Zel {x y : LI} (hx : ∀ j, j < 5 -> 0 <= x.getD j 0 /\ x.getD j 0 <= 2251799813947392) (hy : ∀ j, j < 5 -> 0 <= y.getD j 0 /\ y.getD j 0 <= 2251799813947392) (n i : Nat) (S : Nat -> Int) (T : Int) (hi : i < 5) (hS : ∀ k, k < 5 -> 0 <= S k /\ S k <= T) (hT : T <= 10000000000000000000000000000000000) (kk : LI -> Option (LI)) :
      Z3v x y kk (n+1) (i:Int) (Zml S)=Z3v x y kk n ((i+1:Nat):Int) (Zml (inn S (x.getD i 0) y i)):=by
  rw [Z3v,Zbi,Z2e (by simp; omega),Z0h (Z3l (by omega) (by omega))]
  simp only [Zj,Z2a,Int.toNat_natCast]
  rw [Zxo hi (hx i hi) hy hS hT,Zp (by omega) (by omega)]
  rfl
theorem Zv9 {x y:LI} (n:Nat) (a:LI) (kk:LI->Option (LI)):Z3v x y kk (n+1) ((5:Nat):Int) a=kk a:=by
  rw [Z3v,Zbi,Z1p (by decide)]
theorem Z0sc:(List.replicate 10 0:LI)=Zml (fun _=>0):=by decide
theorem Zxp {x y:LI} (hx : ∀ j,j<5->0<=x.getD j 0/\x.getD j 0<=2251799813947392) (hy : ∀ j,j<5->0<=y.getD j 0/\y.getD j 0<=2251799813947392) (kk:LI->Option (LI)) :
    Z3v x y kk big 0 (List.replicate 10 0)=kk (Zml (Zmu x y)):=by
  obtain ⟨n,hn⟩ : ∃ n,big=n+1+1+1+1+1+1:=⟨18446744073709551610,Z6d⟩
  have b0:=Zj3 (S:=fun _=>0) (T:=0) (i:=0) (by decide) (hx 0 (by decide)) hy (fun _ _=>by simp)
  have b1:=Zj3 (i:=1) (by decide) (hx 1 (by decide)) hy b0
  have b2:=Zj3 (i:=2) (by decide) (hx 2 (by decide)) hy b1
  have b3:=Zj3 (i:=3) (by decide) (hx 3 (by decide)) hy b2
  have s0:=Zel (kk:=kk) hx hy (n+1+1+1+1+1) 0 (fun _=>0) 0 (by decide) (fun _ _=>by simp) (by omega)
  have s1:=Zel (kk:=kk) hx hy (n+1+1+1+1) 1 _ _ (by decide) b0 (by omega)
  have s2:=Zel (kk:=kk) hx hy (n+1+1+1) 2 _ _ (by decide) b1 (by omega)
  have s3:=Zel (kk:=kk) hx hy (n+1+1) 3 _ _ (by decide) b2 (by omega)
  have s4:=Zel (kk:=kk) hx hy (n+1) 4 _ _ (by decide) b3 (by omega)
  have s5:=Zv9 (x:=x) (y:=y) n (Zml (Zmu x y)) kk
  unfold Zmu at s5 ⊢
  rw [<- hn] at s0
  rw [Z0sc]
  exact s0.trans (s1.trans (s2.trans (s3.trans (s4.trans s5))))
theorem Zxm {S:Nat->Int} {kk:Int->LI->Option (LI)} {k':Int->Int->LI->Option (LI)} {i:Nat} {c:Int} {out:LI} (hi:i<5) (hS:0<=S i/\S i<=481707228198883376543429642158080) (hc:0<=c/\c<18446744073709551616) :
    Z97 (Zml S) kk k' c (i:Int) out=k' ((S i+c) / 2251799813685248) ((i+1:Nat):Int) (Z3z out i ((S i+c)%2251799813685248)):=by
  have ht:tk (Zml S) (i*2) 2 = [Zkm (S i),Zhh (S i)]:=by
    match i,hi with
    | 0,_=>rfl
    | 1,_=>rfl
    | 2,_=>rfl
    | 3,_=>rfl
    | 4,_=>rfl
  rw [Z97,Z2e (by simp; omega),Z0h (Z3l (by omega) (by omega))]
  simp only [Zj,Int.toNat_natCast,ht,List.getD_cons_zero,List.getD_cons_succ]
  generalize S i=s at *
  have hl:0<=Zhh s/\Zhh s<18446744073709551616:=by unfold Zhh; omega
  rw [Z0h (by simp [Zfu]; omega),Z0h (Z3l (by omega) (by omega))]
  simp only [Zo7,Zl1,Int.add_zero]
  rw [Zp (by omega) (by omega),Zvh,Z0hl,Zo9 (by omega) (by omega)]
  have hh:0<=Zkm s/\Zkm s<1000000000000000:=by unfold Zkm; omega
  have hcar:0<=(Zhh s+c) / 18446744073709551616/\(Zhh s+c) / 18446744073709551616<=1:=by omega
  rw [Z03 (x:=Zkm s+(Zhh s+c) / 18446744073709551616) (by omega) (by omega)]
  have hm:(Zkm s+(Zhh s+c) / 18446744073709551616)*8192%18446744073709551616=(Zkm s+(Zhh s+c) / 18446744073709551616)*8192:=by omega
  rw [hm,Zxx 13 (x:=(Zkm s+(Zhh s+c) / 18446744073709551616)*8192) (a:=Zkm s+(Zhh s+c) / 18446744073709551616) rfl (by omega) (by omega) (by omega) (by omega)]
  have e1:(Zhh s+c)%18446744073709551616%2251799813685248=(s+c)%2251799813685248:=by unfold Zhh; omega
  have e2:(Zkm s+(Zhh s+c) / 18446744073709551616)*8192+(Zhh s+c)%18446744073709551616 / 2251799813685248=(s+c) / 2251799813685248:=by unfold Zkm Zhh; omega
  rw [e1,e2]
  rfl
theorem alg5 (x0 x1 x2 x3 x4 y0 y1 y2 y3 y4 m:Int):(x0+x1*m+x2*(m*m)+x3*(m*m*m)+x4*(m*m*m*m))*(y0+y1*m+y2*(m*m)+y3*(m*m*m)+y4*(m*m*m*m)) =
    x0*y0+(x0*y1+x1*y0)*m+(x0*y2+x1*y1+x2*y0)*(m*m)+(x0*y3+x1*y2+x2*y1+x3*y0)*(m*m*m)+(x0*y4+x1*y3+x2*y2+x3*y1+x4*y0)*(m*m*m*m)
     + ((x1*y4+x2*y3+x3*y2+x4*y1)+(x2*y4+x3*y3+x4*y2)*m+(x3*y4+x4*y3)*(m*m)+x4*y4*(m*m*m))*(m*m*m*m*m):=by grind
theorem Z00v (x y:LI) : ∃ q,Z7b x*Z7b y=Zmu x y 0+Zmu x y 1*2251799813685248+Zmu x y 2*5070602400912917605986812821504+Zmu x y 3*11417981541647679048466287755595961091061972992+Zmu x y 4*25711008708143844408671393477458601640355247900524685364822016+q*PP:=by
  have h:=alg5 (x.getD 0 0) (x.getD 1 0) (x.getD 2 0) (x.getD 3 0) (x.getD 4 0) (y.getD 0 0) (y.getD 1 0) (y.getD 2 0) (y.getD 3 0) (y.getD 4 0) 2251799813685248
  have e0:Zmu x y 0=x.getD 0 0*y.getD 0 0+19*(x.getD 1 0*y.getD 4 0+x.getD 2 0*y.getD 3 0+x.getD 3 0*y.getD 2 0+x.getD 4 0*y.getD 1 0):=by simp [Zmu,inn] <;> grind
  have e1:Zmu x y 1=x.getD 0 0*y.getD 1 0+x.getD 1 0*y.getD 0 0+19*(x.getD 2 0*y.getD 4 0+x.getD 3 0*y.getD 3 0+x.getD 4 0*y.getD 2 0):=by simp [Zmu,inn] <;> grind
  have e2:Zmu x y 2=x.getD 0 0*y.getD 2 0+x.getD 1 0*y.getD 1 0+x.getD 2 0*y.getD 0 0+19*(x.getD 3 0*y.getD 4 0+x.getD 4 0*y.getD 3 0):=by simp [Zmu,inn] <;> grind
  have e3:Zmu x y 3=x.getD 0 0*y.getD 3 0+x.getD 1 0*y.getD 2 0+x.getD 2 0*y.getD 1 0+x.getD 3 0*y.getD 0 0+19*(x.getD 4 0*y.getD 4 0):=by simp [Zmu,inn] <;> grind
  have e4:Zmu x y 4=x.getD 0 0*y.getD 4 0+x.getD 1 0*y.getD 3 0+x.getD 2 0*y.getD 2 0+x.getD 3 0*y.getD 1 0+x.getD 4 0*y.getD 0 0:=by simp [Zmu,inn] <;> grind
  refine ⟨(x.getD 1 0*y.getD 4 0+x.getD 2 0*y.getD 3 0+x.getD 3 0*y.getD 2 0+x.getD 4 0*y.getD 1 0)+(x.getD 2 0*y.getD 4 0+x.getD 3 0*y.getD 3 0+x.getD 4 0*y.getD 2 0)*2251799813685248+(x.getD 3 0*y.getD 4 0+x.getD 4 0*y.getD 3 0)*5070602400912917605986812821504+x.getD 4 0*y.getD 4 0*11417981541647679048466287755595961091061972992,?_⟩
  rw [e0,e1,e2,e3,e4]
  simp only [Z7b,PP]
  simp only [Int.reduceMul] at h
  rw [h]
  omega
end Go.Proofs.YteefpkhngighgaaGreatDoor
namespace Go.Proofs.YteefpkhngighgaaGreatDoor
open Go Go.Sx Go.RowKit
open List (replicate)
set_option linter.all false
set_option maxRecDepth 100000
theorem U5.mk5 {d0 d1 d2 d3 d4:Int} (h0:0<=d0/\d0<18446744073709551616) (h1:0<=d1/\d1<18446744073709551616) (h2:0<=d2/\d2<18446744073709551616) (h3:0<=d3/\d3<18446744073709551616) (h4:0<=d4/\d4<18446744073709551616):U5 [d0,d1,d2,d3,d4] :=
 ⟨h0.1,h1.1,h2.1,h3.1,h4.1,h0.2,h1.2,h2.2,h3.2,h4.2⟩
theorem Z010 {c d0 d1 d2 d3 d4:Int} (hc:0<=c/\c<900000000000000000)
  (h0:0<=d0/\d0<2251799813685248) (h1:0<=d1/\d1<2251799813685248) (h2:0<=d2/\d2<2251799813685248) (h3:0<=d3/\d3<2251799813685248) (h4:0<=d4/\d4<2251799813685248) :
  (opt (Z31 (replicate 2 0) 0 2 c 19) fun y1819 =>
   bnd (y1819.getD 1 0) fun z1823 =>
   bnd ([d0,d1,d2,d3,d4].getD 0 0) fun z1824 =>
   chk (Zfu z1823 z1824 0) <|
   bnd (Zbb z1823 z1824 0) fun z1826 =>
   bnd (Zg6 z1823 z1824 0) fun z1827 =>
   bnd (Z7 .and .u64 z1826 2251799813685247) fun z1829 =>
   bnd (Z3z [d0,d1,d2,d3,d4] 0 z1829) fun l1830 =>
   bnd (l1830.getD 1 0) fun z1832 =>
   bnd (y1819.getD 0 0) fun z1833 =>
   bnd (IntKind.wrap .u64 (z1833+z1827)) fun z1834 =>
   bnd (Z02 .u64 z1834 13) fun z1835 =>
   bnd (Zr .u64 z1826 51) fun z1836 =>
   bnd (Z7 .or .u64 z1835 z1836) fun z1837 =>
   bnd (IntKind.wrap .u64 (z1832+z1837)) fun z1838 =>
   bnd (Z3z l1830 1 z1838) fun l1839 =>
   opt (Z1k l1839) fun y1841 =>
   some y1841)=some (Zjx ((d0+d1*2251799813685248+d2*5070602400912917605986812821504+d3*11417981541647679048466287755595961091061972992+d4*25711008708143844408671393477458601640355247900524685364822016+19*c)%PP)):=by
 have hw:Z31 (replicate 2 0) 0 2 c 19=some [Zkm (0+c*19),Zhh (0+c*19)]:=Zze (s:=0) (by decide) rfl rfl (by decide) (by omega) (by omega) (by omega)
 rw [Z3 hw]
 simp only [Zj,List.getD_cons_zero,List.getD_cons_succ]
 have hl:Zhh (0+c*19)=c*19%18446744073709551616:=by unfold Zhh; rw [Int.zero_add]
 have hh:Zkm (0+c*19)=c*19 / 18446744073709551616:=by unfold Zkm; rw [Int.zero_add]
 rw [hl,hh]
 have hlt:c*19<18446744073709551616:=by omega
 rw [Int.emod_eq_of_lt (by omega) hlt,Int.ediv_eq_zero_of_lt (by omega) hlt]
 rw [Z0h (by simp [Zfu]; omega)]
 simp only [Zo7,Zl1,Int.add_zero,Int.zero_add]
 rw [Int.emod_eq_of_lt (a:=c*19+d0) (by omega) (by omega),Int.ediv_eq_zero_of_lt (a:=c*19+d0) (by omega) (by omega)]
 have ew:IntKind.wrap .u64 0=0:=by decide
 rw [ew,Zvh,Z0hl,Zo9 (by omega) (by omega)]
 have e0:(0:Int)*8192%18446744073709551616=0:=by decide
 rw [e0,Zxx 13 (x:=0) (a:=0) (by simp) (by omega) (by omega) (by omega) (by omega),Int.zero_add]
 have hs1:Z3z [d0,d1,d2,d3,d4] 0 ((c*19+d0)%2251799813685248) = [(c*19+d0)%2251799813685248,d1,d2,d3,d4]:=rfl
 rw [hs1]
 simp only [List.getD_cons_zero,List.getD_cons_succ]
 rw [Z03 (by omega) (by omega)]
 have hs2:Z3z [(c*19+d0)%2251799813685248,d1,d2,d3,d4] 1 (d1+(c*19+d0) / 2251799813685248) = [(c*19+d0)%2251799813685248,d1+(c*19+d0) / 2251799813685248,d2,d3,d4]:=rfl
 rw [hs2,Z3 (Z64 (U5.mk5 (by omega) (by omega) (by omega) (by omega) (by omega)))]
 unfold Zn1
 congr 3
 simp only [Z7b,List.getD_cons_zero,List.getD_cons_succ]
 omega
theorem C5.le {x:LI} (h:C5 x 262144) : ∀ j,j<5->0<=x.getD j 0/\x.getD j 0<=2251799813947392:=by
 have ⟨a0,a1,a2,a3,a4,b0,b1,b2,b3,b4⟩:=h
 intro j hj
 match j,hj with
 | 0,_=>omega
 | 1,_=>omega
 | 2,_=>omega
 | 3,_=>omega
 | 4,_=>omega
theorem Zxn {x y:LI} (hx:U5 x) (hy:U5 y):Z0t x y=some (Zjx (Z7b x*Z7b y%PP)):=by
 have cx:=(Zwc hx).le
 have cy:=(Zwc hy).le
 rw [Z0t,Z3 (Zhc hx),Z3 (Zhc hy),Z2a,Zxp cx cy,Z2a]
 have hb:=Z05q cx cy
 obtain ⟨q,hq⟩:=Z00v (Zcp x) (Zcp y)
 have hm:Z7b x*Z7b y%PP=Z7b (Zcp x)*Z7b (Zcp y)%PP:=by
  rw [Int.mul_emod,<- Zjt (x:=x),<- Zjt (x:=y),<- Int.mul_emod]
 rw [hm,hq,Int.add_mul_emod_self_right]
 generalize Zmu (Zcp x) (Zcp y)=S at *
 obtain ⟨n,hn⟩ : ∃ n,big=n+1+1+1+1+1+1:=⟨18446744073709551610,Z6d⟩
 generalize hkk:(fun (i1740:Int) (a1741:LI)=>_)=kk
 have step : ∀ (n i:Nat) (c:Int) (out:LI),i<5->(0<=c/\c<18446744073709551616)->Z4l (Zml S) kk (n+1) c (i:Int) out=Z4l (Zml S) kk n ((S i+c) / 2251799813685248) ((i+1:Nat):Int) (Z3z out i ((S i+c)%2251799813685248)):=by
  intro n i c out hi hc
  rw [Z4l,Zxm hi (hb i hi) hc]
 have c0:=hb 0 (by decide)
 have c1:=hb 1 (by decide)
 have c2:=hb 2 (by decide)
 have c3:=hb 3 (by decide)
 have c4:=hb 4 (by decide)
 have k1 : ∃ d,(S 0+0)%2251799813685248=d/\(0<=d/\d<2251799813685248):=⟨_,rfl,by omega⟩
 have s0:=step (n+1+1+1+1+1) 0 0 (replicate 5 0) (by decide) (by decide)
 generalize hd0:(S 0+0)%2251799813685248=d0 at s0
 generalize hv0:(S 0+0) / 2251799813685248=v0 at s0
 have s1:=step (n+1+1+1+1) 1 v0 (Z3z (replicate 5 0) 0 d0) (by decide) (by omega)
 generalize hd1:(S 1+v0)%2251799813685248=d1 at s1
 generalize hv1:(S 1+v0) / 2251799813685248=v1 at s1
 have s2:=step (n+1+1+1) 2 v1 (Z3z (Z3z (replicate 5 0) 0 d0) 1 d1) (by decide) (by omega)
 generalize hd2:(S 2+v1)%2251799813685248=d2 at s2
 generalize hv2:(S 2+v1) / 2251799813685248=v2 at s2
 have s3:=step (n+1+1) 3 v2 (Z3z (Z3z (Z3z (replicate 5 0) 0 d0) 1 d1) 2 d2) (by decide) (by omega)
 generalize hd3:(S 3+v2)%2251799813685248=d3 at s3
 generalize hv3:(S 3+v2) / 2251799813685248=v3 at s3
 have s4:=step (n+1) 4 v3 (Z3z (Z3z (Z3z (Z3z (replicate 5 0) 0 d0) 1 d1) 2 d2) 3 d3) (by decide) (by omega)
 generalize hd4:(S 4+v3)%2251799813685248=d4 at s4
 generalize hv4:(S 4+v3) / 2251799813685248=v4 at s4
 have hout:Z3z (Z3z (Z3z (Z3z (Z3z (replicate 5 0) 0 d0) 1 d1) 2 d2) 3 d3) 4 d4 = [d0,d1,d2,d3,d4]:=rfl
 rw [hout] at s4
 have s5:Z4l (Zml S) kk (n+1) v4 ((4+1:Nat):Int) [d0,d1,d2,d3,d4]=kk v4 [d0,d1,d2,d3,d4]:=by rw [Z4l,Z97,Z1p (by decide)]
 subst hkk
 have s5:=s5.trans (Z010 (c:=v4) (d0:=d0) (d1:=d1) (d2:=d2) (d3:=d3) (d4:=d4) (by omega) (by omega) (by omega) (by omega) (by omega) (by omega))
 rw [<- hn] at s0
 refine s0.trans (s1.trans (s2.trans (s3.trans (s4.trans (s5.trans ?_)))))
 congr 2
 clear s0 s1 s2 s3 s4 s5 step hout hb hn k1 cx cy
 have e0:S 0=v0*2251799813685248+d0:=by omega
 have e1:S 1+v0=v1*2251799813685248+d1:=by omega
 have e2:S 2+v1=v2*2251799813685248+d2:=by omega
 have e3:S 3+v2=v3*2251799813685248+d3:=by omega
 have e4:S 4+v3=v4*2251799813685248+d4:=by omega
 clear hd0 hd1 hd2 hd3 hd4 hv0 hv1 hv2 hv3 hv4
 have key:S 0+S 1*2251799813685248+S 2*5070602400912917605986812821504+S 3*11417981541647679048466287755595961091061972992+S 4*25711008708143844408671393477458601640355247900524685364822016 =
   d0+d1*2251799813685248+d2*5070602400912917605986812821504+d3*11417981541647679048466287755595961091061972992+d4*25711008708143844408671393477458601640355247900524685364822016+19*v4+v4*PP:=by
  simp only [PP]; omega
 rw [key,Int.add_mul_emod_self_right]
theorem Zqz {x:LI} (hx:U5 x):Z1j x=some (Zjx (Z7b x*Z7b x%PP)):=by
 rw [Z1j,Z3 (Zxn hx hx)]
end Go.Proofs.YteefpkhngighgaaGreatDoor
namespace Go.Proofs.YteefpkhngighgaaGreatDoor
open Go Go.Sx Go.RowKit
open Go.IntKind (wrap)
set_option linter.all false
set_option maxRecDepth 100000
def fe (n:Int):LI:=Zjx (n%PP)
theorem Zef (n:Int):U5 (fe n):=Zrq _
theorem Ziq:(0:Int)<PP:=by decide
theorem Z5o (n:Int):Z7b (fe n)=n%PP:=Zgh (Int.emod_nonneg _ (by decide)) (Int.emod_lt_of_pos _ Ziq)
theorem Z02m (n:Int):fe (n%PP)=fe n:=by unfold fe; rw [Int.emod_emod_of_dvd _ (Int.dvd_refl _)]
theorem Zhf {a b:Int} (h:a%PP=b%PP):fe a=fe b:=by unfold fe; rw [h]
theorem Z03g (k:LI->Option (LI)) (x0 x1 x2 x3 x4 y0 y1 y2 y3 y4:Int):Z95 [y0,y1,y2,y3,y4] k big 0 [x0,x1,x2,x3,x4] =
  k ([wrap .u64 (x0+y0),wrap .u64 (x1+y1),wrap .u64 (x2+y2),wrap .u64 (x3+y3),wrap .u64 (x4+y4)]):=by kernel_rfl
theorem Z02g {x y:LI} (hx:U5 x) (hy:U5 y):Z2w x y=some (fe (Z7b x+Z7b y)):=by
 have cx:=Zwc hx
 have cy:=Zwc hy
 have ex:=Zjt (x:=x)
 have ey:=Zjt (x:=y)
 rw [Z2w,Z3 (Zhc hx),Z3 (Zhc hy),Z2a]
 have hlx:Zcp x = [(Zcp x).getD 0 0,(Zcp x).getD 1 0,(Zcp x).getD 2 0,(Zcp x).getD 3 0,(Zcp x).getD 4 0]:=rfl
 have hly:Zcp y = [(Zcp y).getD 0 0,(Zcp y).getD 1 0,(Zcp y).getD 2 0,(Zcp y).getD 3 0,(Zcp y).getD 4 0]:=rfl
 have hm:(Z7b x+Z7b y)%PP=(Z7b (Zcp x)+Z7b (Zcp y))%PP:=by rw [Int.add_emod,<- ex,<- ey,<- Int.add_emod]
 rw [Zhf hm]
 generalize Zcp x=a at *
 generalize Zcp y=b at *
 have ⟨p0,p1,p2,p3,p4,q0,q1,q2,q3,q4⟩:=cx
 have ⟨r0,r1,r2,r3,r4,s0,s1,s2,s3,s4⟩:=cy
 rw [hlx,hly,Z03g]
 rw [Z03 (by omega) (by omega),Z03 (by omega) (by omega),Z03 (by omega) (by omega),Z03 (by omega) (by omega),Z03 (by omega) (by omega)]
 rw [Z3 (Z64 (U5.mk5 (by omega) (by omega) (by omega) (by omega) (by omega)))]
 unfold Zn1 fe
 congr 3
 simp only [Z7b,List.getD_cons_zero,List.getD_cons_succ]
 omega
theorem Z05r (k:LI->Option (LI)) (y0 y1 y2 y3 y4 z:Int):Z98 [y0,y1,y2,y3,y4] k big 1 [z,0,0,0,0] =
  k ([z,wrap .u64 (4503599627370494-y1),wrap .u64 (4503599627370494-y2),wrap .u64 (4503599627370494-y3),wrap .u64 (4503599627370494-y4)]):=by kernel_rfl
theorem Z02t {x:LI} (hx:U5 x):Z60 x=some (fe (- Z7b x)):=by
 rw [Z60,Z3 (Z64 hx)]
 simp only [Zj,Z2a]
 have hv:Z7b (Zn1 x)=Z7b x%PP:=Z5o (Z7b x)
 have hl:Zn1 x = [(Zn1 x).getD 0 0,(Zn1 x).getD 1 0,(Zn1 x).getD 2 0,(Zn1 x).getD 3 0,(Zn1 x).getD 4 0]:=rfl
 have hb : ∀ j,j<5->0<=(Zn1 x).getD j 0/\(Zn1 x).getD j 0<2251799813685248:=by
  intro j hj
  unfold Zn1 Zjx
  match j,hj with
  | 0,_=>simp only [M51,List.getD_cons_zero,List.getD_cons_succ]; omega
  | 1,_=>simp only [M51,List.getD_cons_zero,List.getD_cons_succ]; omega
  | 2,_=>simp only [M51,List.getD_cons_zero,List.getD_cons_succ]; omega
  | 3,_=>simp only [M51,List.getD_cons_zero,List.getD_cons_succ]; omega
  | 4,_=>simp only [M51,List.getD_cons_zero,List.getD_cons_succ]; omega
 have hm:(- Z7b x)%PP=(2*PP-Z7b (Zn1 x))%PP:=by
  rw [hv]
  have e : - Z7b x=2*PP-Z7b x%PP+(-2-Z7b x / PP)*PP:=by
   have:=Int.emod_add_mul_ediv (Z7b x) PP
   rw [Int.mul_comm] at this
   have h2:(-2-Z7b x / PP)*PP = -2*PP-Z7b x / PP*PP:=by rw [Int.sub_mul]
   omega
  rw [e,Int.add_mul_emod_self_right]
 rw [Zhf hm]
 generalize Zn1 x=a at *
 have b0:=hb 0 (by decide)
 have b1:=hb 1 (by decide)
 have b2:=hb 2 (by decide)
 have b3:=hb 3 (by decide)
 have b4:=hb 4 (by decide)
 rw [hl]
 simp only [List.getD_cons_zero]
 rw [Z05r]
 rw [Z03 (by omega) (by omega),Z03 (by omega) (by omega),Z03 (by omega) (by omega),Z03 (by omega) (by omega),Z03 (by omega) (by omega)]
 rw [Z3 (Z64 (U5.mk5 (by omega) (by omega) (by omega) (by omega) (by omega)))]
 unfold Zn1 fe
 congr 3
 simp only [Z7b,PP,List.getD_cons_zero,List.getD_cons_succ]
 omega
theorem Z0hn {x y:LI} (hx:U5 x) (hy:U5 y):Z5h x y=some (fe (Z7b x-Z7b y)):=by
 rw [Z5h,Z3 (Z02t hy),Z3 (Z02g hx (Zef _)),Z5o]
 rw [Zhf (a:=Z7b x + -Z7b y%PP) (b:=Z7b x-Z7b y)]
 rw [Int.sub_eq_add_neg,Int.add_emod,Int.emod_emod_of_dvd _ (Int.dvd_refl _),<- Int.add_emod]
theorem Zu5 {n:Int} (h:0<=n/\n<18446744073709551616):Zan n=some (fe n):=by
 rw [Zan]
 simp only [Zj]
 rw [Z3 (Z64 (U5.mk5 h (by omega) (by omega) (by omega) (by omega)))]
 unfold Zn1 fe
 congr 3
 simp only [Z7b,List.getD_cons_zero,List.getD_cons_succ]
 omega
theorem Z00g {a b:Int} (ha:0<=a/\a<PP) (hb:0<=b/\b<PP) (h:Zjx a=Zjx b):a=b:=by
 rw [<- Zgh ha.1 ha.2,<- Zgh hb.1 hb.2,h]
theorem Zza (n:Int):tk (Zjx n) 0 5=Zjx n:=rfl
theorem Z02p (a b:Int):ieq 5 (fe a) (fe b)=decide (a%PP=b%PP):=by
 unfold ieq fe
 rw [Zza,Zza]
 rw [decide_eq_decide]
 constructor
 ·exact Z00g ⟨Int.emod_nonneg _ (by decide),Int.emod_lt_of_pos _ Ziq⟩ ⟨Int.emod_nonneg _ (by decide),Int.emod_lt_of_pos _ Ziq⟩
 ·intro h; rw [h]
theorem Z00e {x y:LI} (hx:U5 x) (hy:U5 y):Z8t x y=some (decide (Z7b x%PP=Z7b y%PP)):=by
 rw [Z8t,Z3 (Z64 hx),Z3 (Z64 hy)]
 show some (ieq 5 (fe (Z7b x)) (fe (Z7b y)))=_
 rw [Z02p]
theorem Zxd {x:LI} (hx:U5 x):Z5f x=some (decide (Z7b x%PP=0)):=by
 rw [Z5f,Z3 (Z64 hx)]
 simp only [Zj]
 have e:([0,0,0,0,0]:LI)=fe 0:=by decide
 rw [e]
 show some (ieq 5 (fe (Z7b x)) (fe 0))=_
 rw [Z02p]
 rfl
theorem Z03i {x:Int} (h0:0<=x) (h1:x<18446744073709551616):Z7 .and .u64 x 1=x%2:=Zoa 1 (by decide) (by decide) h0 h1
theorem Zt8 {x:LI} (hx:U5 x):Z8u x=some (Z7b x%PP%2==1):=by
 rw [Z8u,Z3 (Z64 hx)]
 simp only [Zj]
 have e:(Zn1 x).getD 0 0=Z7b x%PP%2251799813685248:=rfl
 rw [e,Z03i (by omega) (by omega)]
 congr 2
 omega
theorem Zyy {b:Bool} {x y:LI} (hx:U5 x) (hy:U5 y):Z9a b x y=some (fe (bif b then Z7b x else Z7b y)):=by
 rw [Z9a]
 cases b
 ·rw [Z1p rfl,Z3 (Z64 hy)]; rfl
 ·rw [Z2e rfl,Z3 (Z64 hx)]; rfl
theorem and8 {x y:Int} (m n:Nat) (hx:x=m) (hy:y=n) (h1:m<256) (h2:n<256):Z7 .and .u8 x y=((m &&& n:Nat):Int):=by
 subst hx; subst hy
 show IntKind.u8.wrap (((BitVec.ofInt 8 (m:Int) &&& BitVec.ofInt 8 (n:Int)).toNat:Nat):Int)=_
 rw [BitVec.toNat_and,bv8 m h1,bv8 n h2,Z0v]
 have:m &&& n<=m:=Nat.and_le_left
 omega
theorem Zis (k:Nat) {x y:Int} (hy:y=((2^k-1:Nat):Int)) (hk:2^k<=256) (h0:0<=x) (h1:x<256):Z7 .and .u8 x y=x%((2^k:Nat):Int):=by
 have hp:0<2^k:=Nat.pow_pos (by decide)
 rw [and8 x.toNat (2^k-1) (by omega) hy (by omega) (by omega),Nat.and_two_pow_sub_one_eq_mod]
 rw [Int.natCast_emod]
 congr 1; omega
theorem Z08g {x:Int} (h0:0<=x) (h1:x<256):Z7 .and .u8 x 1=x%2:=Zis 1 (by decide) (by decide) h0 h1
def Byt (e:LI):Prop:=∀ i,0<=e.getD i 0/\e.getD i 0<256
def ebit (e:LI) (i:Nat):Bool:=(e.getD (i / 8) 0 / ((2^(i%8):Nat):Int))%2==1
def pw (x:Int) (e:LI):Nat->Int
 | 0=>1
 | k+1=>if ebit e (255-k) then pw x e k*pw x e k%PP*x%PP else pw x e k*pw x e k%PP
theorem Zyf (x:Int) (e:LI) (k:Nat):0<=pw x e k/\pw x e k<PP:=by
 cases k with
 | zero=>exact ⟨by show (0:Int)<=1; decide,by show (1:Int)<PP; decide⟩
 | succ k =>
  unfold pw
  split
  ·exact ⟨Int.emod_nonneg _ (by decide),Int.emod_lt_of_pos _ Ziq⟩
  ·exact ⟨Int.emod_nonneg _ (by decide),Int.emod_lt_of_pos _ Ziq⟩
theorem Z00h {n:Int} (h0:0<=n) (h1:n<PP):fe n=Zjx n:=by unfold fe; rw [Int.emod_eq_of_lt h0 h1]
theorem Zy6 {x e:LI} (hx:U5 x) (he:Byt e) {kk:LI->Option (LI)} {k':Int->LI->Option (LI)} {i:Nat} (hi:i<256) (a:Int) (ha:0<=a/\a<PP) :
  Z99 x e kk k' (i:Int) (Zjx a)=k' ((i:Int)-1) (Zjx (if ebit e i then a*a%PP*Z7b x%PP else a*a%PP)):=by
 have hsq:Z1j (Zjx a)=some (Zjx (a*a%PP)):=by rw [Zqz (Zrq _),Zgh ha.1 ha.2]
 rw [Z99,Z2e (by simp),Z2a,Z3 hsq]
 simp only [Zj]
 have hd:wrap .i64 (Int.tdiv (i:Int) 8)=((i / 8:Nat):Int):=by
  rw [Int.tdiv_eq_ediv_of_nonneg (by omega),Zp (by omega) (by omega)]; omega
 have hm:Int.tmod (i:Int) 8=((i%8:Nat):Int):=by
  rw [Int.tmod_eq_emod_of_nonneg (by omega)]; omega
 rw [hd,hm,Z0h (Z3l (by omega) (by omega)),Z0h (by simp; omega)]
 have hb:=he (i / 8)
 simp only [Int.toNat_natCast]
 rw [Zh4 .u8 (n:=i%8) (by show i%8<=8; omega)]
 have hp:(0:Int)<((2^(i%8):Nat):Int):=by have:=Nat.pow_pos (n:=i%8) (show 0<2 by decide); omega
 have hq0:=Int.ediv_nonneg hb.1 (Int.le_of_lt hp)
 have hq1:e.getD (i / 8) 0 / ((2^(i%8):Nat):Int)<256:=Int.lt_of_le_of_lt (Int.ediv_le_self _ hb.1) hb.2
 rw [Z08g hq0 hq1]
 have hw:wrap .i64 ((i:Int)-1)=(i:Int)-1:=Zp (by omega) (by omega)
 by_cases hbit:ebit e i=true
 ·have hb':(e.getD (i / 8) 0 / ((2^(i%8):Nat):Int)%2==1)=true:=hbit
  rw [Z2e hb',if_pos hbit,Z3 (Zxn (Zrq _) hx),Zgh (Int.emod_nonneg _ (by decide)) (Int.emod_lt_of_pos _ Ziq),hw]
 ·rw [Bool.not_eq_true] at hbit
  have hb':(e.getD (i / 8) 0 / ((2^(i%8):Nat):Int)%2==1)=false:=hbit
  rw [Z1p hb',if_neg (by rw [hbit]; decide),hw]
theorem Ztl {x e:LI} (hx:U5 x) (he:Byt e) : ∀ (k n:Nat),k<=256->Z5g x e some (n+1+k) ((k:Int)-1) (Zjx (pw (Z7b x) e (256-k)))=some (Zjx (pw (Z7b x) e 256))
 | 0,n,_=>by
  show Z5g x e some (n+1) _ _=_
  rw [Z5g,Z99,Z1p (by decide)]
 | k+1,n,hk=>by
  have ih:=Ztl hx he k n (by omega)
  rw [<- Nat.add_assoc,Z5g]
  have hi:((k+1:Nat):Int)-1=(k:Int):=by omega
  rw [hi,Zy6 hx he (by omega) _ (Zyf _ _ _)]
  have e1:256-k=(256-(k+1))+1:=by omega
  have e2:255-(256-(k+1))=k:=by omega
  rw [e1,pw,e2] at ih
  exact ih
theorem Z031 {x e:LI} (hx:U5 x) (he:Byt e):Zbj x e=some (Zjx (pw (Z7b x) e 256)):=by
 rw [Zbj,Z3 (Zu5 (by decide)),Z2a]
 obtain ⟨n,hn⟩ : ∃ n,big=n+1+256:=⟨18446744073709551359,Z6d⟩
 have:=Ztl hx he 256 n (Nat.le_refl _)
 rw [<- hn] at this
 have e1:fe 1=Zjx (pw (Z7b x) e (256-256)):=rfl
 rw [e1]
 exact this
end Go.Proofs.YteefpkhngighgaaGreatDoor
