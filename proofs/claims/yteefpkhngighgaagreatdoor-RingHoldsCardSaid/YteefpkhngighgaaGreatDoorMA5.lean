/- Texts of a proof, one behind the other: T3 T2 L12 L13 L14 L15 LZ F0 F1 F2 F3 F4 F5. -/
import Derived.Test.YteefpkhngighgaaGreatDoorMA4
namespace Go.Proofs.YteefpkhngighgaaGreatDoor
open Go Go.Sx Go.RowKit
set_option linter.all false
set_option maxHeartbeats 400000
set_option maxRecDepth 100000
section
variable {α β:Type} {L:α->List Seg} {F:Nat}
theorem Zmy {i:Nat} (h:i<=1000):(((i+1:Nat):Int))=IntKind.wrap .i64 ((i:Int)+1):=by rw [IntKind.wrap_i64]; omega
def Zqs (L:α->List Seg) (W:World) (v:Value) (dom:Int) (fs:List (Zb8 α)):Prop:=∃ (u:Value) (B:List Ze) (vs:List Cl4),v=agg [.one (.int .i64 dom),.one u]/\Z5x E4 W u vs/\Zct B W/\Z9l L B vs fs
theorem Zqs.still {W0 w:World} {m:List Ze} {v:Value} {dom:Int} {fs:List (Zb8 α)} (h:Zqs L W0 v dom fs) (hw:Sat W0 [] m w):Zqs L w v dom fs:=by
  obtain ⟨u,B,vs,h1,h2,h3,h4⟩:=h
  exact ⟨u,B,vs,h1,h2.below hw.now,h3.still0 hw,h4⟩
def RC (L:α->List Seg) (dom:Int) (fs:List (Zb8 α)) (v:Value) (Ms:List Pc):Prop:=∃ (u:Value) (M B:List Ze) (vs:List Cl4),v=agg [.one (.int .i64 dom),.one u]/\Ms = [.all M,.all B]/\Z0b E4 u M vs/\Z9l L B vs fs
def RL (L:α->List Seg) (fs:List (Zb8 α)) (v:Value) (Ms:List Pc):Prop:=∃ (M B:List Ze) (vs:List Cl4),Ms = [.all M,.all B]/\Z0b E4 v M vs/\Z9l L B vs fs
theorem RC.form {dom:Int} {fs:List (Zb8 α)} {u:Value} {M B:List Ze} {vs:List Cl4} {W0 w:World} {S:List Nat} {m m1 m2:List Ze} (h1:Z0b E4 u M vs) (h2:Z9l L B vs fs) (hw:Sat W0 S m w) (t1:Zff M m m1) (t2:Zff B m m2) :
    Zqs L w (agg [.one (.int .i64 dom),.one u]) dom fs:=⟨u,B,vs,rfl,Z5x.own h1 (hw.take t1),Zct.take hw t2,h2⟩
theorem Zgp {B:List Ze}:Zpk (B ++ []) B:=by
  rw [List.append_nil]
  induction B with
  | nil=>exact .nil
  | cons c B ih=>exact .one .here ih
def Z4a (fs:List (Zb8 α)) (s:Bool) (x:α):Bool:=fs.all fun f => !((f.sgn || !s) && !f.may x)
theorem Zlx {fs:List (Zb8 α)} {s:Bool} {x:α} {i:Nat} (h:i<fs.length):Z4a (fs.drop i) s x=(!(((fs.getD i fz).sgn || !s) && !(fs.getD i fz).may x)&&Z4a (fs.drop (i+1)) s x):=by
  unfold Z4a
  rw [List.drop_eq_getElem_cons h,List.all_cons]
  simp [List.getD_eq_getElem?_getD,h]
def Zxk (tf tc:Nat):FnD:=⟨30,[.tmp 6],.seq (.ops [oj 3 (.bx tf 0),oj 6 (.mv (.const (.bool false)))]) (.seq (.seq (.ops [oj 9 (.fa 1 3),oj 10 (.ld 1 false 9),oj 11 (.len 10),oj 12 (.mv (ci 0))]) (.block 0 (.loop
  (.seq (.ops [oj 13 (.bin .lss 12 11)]) (.seq (.cond 13 .skip (.exit 0)) (.seq (.block 1 (.seq (.ops [oj 14 (.ias 4 10 12),oj 15 (.ld 4 true 14),oj 8 (.al tc zF),on_ (.st 4 8 15)]) (.seq (.ops [oj 16 (.fa 3 8),oj 17 (.ld 1 false 16),oj 18 (.mv 17),
    .lg true 18 21 none [oG 19 18 false (.mv 2),oG 20 18 false (.un .not 19)] 20,oj 22 (.mv 21),.lg false 22 28 none [oG 23 22 true (.fa 2 8),oG 24 22 true (.ld 1 false 23),oG 25 22 true (.mv 1),oG 26 22 true (.cv 24 [25]),oG 27 22 true (.un .not 26)] 27])
    (.cond 28 (.seq (.ops [oj 6 (.mv (.const (.bool false)))]) .ret) .skip)))) (.ops [oj 29 (.bin .add 12 (ci 1)),oj 12 (.mv 29)]))))))) (.seq (.ops [oj 6 (.mv (.const (.bool true)))]) .ret))⟩
theorem Zvf {tf tc:Nat} {W:World} {v:Value} {dom:Int} {fs:List (Zb8 α)} {b:Nat} {x:α} {s:Bool} (ok:okF Tryz.prog F (Zxk tf tc)=true) (hF:Zqs L W v dom fs) (hm:Mem W b 0 (L x)) (hlen:fs.length<=1000) :
    Calls Tryz.prog F [v,pt0 b,.bool s].toArray W (Z2d W (.bool (Z4a fs s x))):=by
  obtain ⟨u,B,vs,rfl,hR,hH,hf⟩:=hF
  have hl:=hf.len
  refine Z9 mo ok rfl ?_
  refine Z0<|Z1<|Zc (Z03 (s:=[.one (.int .i64 dom),.one u]) rfl fun b3 _=>Z4 _ (Z09 rfl)<|Z2<|Z0<|Z0<|Z1<|Z4 _ (Z1u rfl)<|Z4 _ (Z0j rfl .here rfl)<|Z4 _ (Z5c rfl (Shp.rd hR))<|Z4 _ (Z09 rfl)<|Z2 <|
    Zq (G:=fun t m=>Z4a fs s x=true/\Fit [] [] t m) ?_ ?_)
  · refine Zf<|Z0e (fun n t m=>∃ i:Nat,i<=fs.length/\n=fs.length-i/\Z4a (fs.drop i) s x=Z4a fs s x/\Fit [(1,pt0 b),(2,.bool s),(10,u),(11,.int .i64 (vs.length:Nat)),(12,.int .i64 (i:Nat))] [] t m) fs.length ?_ ?_
    · exact ⟨0,Nat.zero_le _,rfl,rfl,⟨⟨rfl,rfl,rfl,rfl,rfl,trivial⟩,.nil⟩⟩
    · rintro n t m ⟨i,hi,rfl,he,hFit⟩
      refine Zo hFit ?_
      clear hFit
      refine Z0<|Z1<|Z4 _ (Zb rfl rfl rfl)<|Z2<|Z0<|Z016 (c:=decide ((i:Int)<(vs.length:Nat))) rfl (fun hc=>?_) (fun hc=>?_)
      · have hi2:i<fs.length:=by simp at hc; omega
        have hz:inB (i:Int) vs.length=true:=by simp [inB]; omega
        have fM:=hf.get (i:Int).toNat (by simpa using hi2)
        have hfM:(fs.getD (i:Int).toNat fz)=fs.getD i fz:=by simp
        have hsg:(vs.getD (i:Int).toNat E4.z).2.2.2=(fs.getD (i:Int).toNat fz).sgn:=fM.2.2
        obtain ⟨xv,hxv⟩ : ∃ xv,xv=vs.getD (i:Int).toNat E4.z:=⟨_,rfl⟩
        obtain ⟨f,hff⟩ : ∃ f,f=fs.getD (i:Int).toNat fz:=⟨_,rfl⟩
        rw [<- hff] at hfM hsg fM
        rw [<- hxv] at hsg fM
        refine Zy<|Z0<|Zf<|Z0<|Z1<|Z4 _ (Z7r rfl rfl (Shp.rd hR) hz)<|Z4 (agg (Z0n xv)) (by rw [hxv]; exact Zv8 (E:=E4) (s:=Z0n (vs.getD (i:Int).toNat E4.z)) rfl (Z0z hR Z17) (Z1k hz) rfl rfl) <|
          Zc (Zs fun b8 _=>Zc (Zn (p:=Z0n xv) (q:=Z0n xv) rfl rfl rfl rfl rfl .here<|Z2<|Z0<|Z1<|Z4 _ (Z1u rfl)<|Z4 _ (Z0j rfl .here rfl)<|Z4 _ (Z09 rfl) <|
          Zk3 (v := !s) rfl rfl rfl (fun _=>Z31 rfl _ (Z09 rfl) (Z31 rfl _ (Zqa rfl rfl) Z2a)) (fun _=>rfl) rfl<|Z4 _ (Z09 rfl) <|
          Zjn (v := !f.may x) rfl rfl rfl (fun _=>Z31 rfl _ (Z1u rfl) (Z31 rfl _ (Z0j rfl .here rfl) (Z31 rfl _ (Z09 rfl) (Z31 rfl _ (Zm9 (caps:=xv.2.2.1.2) fM.2.1.1 rfl rfl (fun w hw=>fM.2.1.2 w b x (hH.still0 hw) (Z86 hm (by simp) hw))) (Z31 rfl _ (Zqa rfl rfl) Z2a))))) (fun _=>rfl) rfl <|
          Z2<|Z016 (c:=(xv.2.2.2 || !s) && !f.may x) rfl (fun h2=>?_) (fun h2=>?_)))
        · refine Z0<|Z1<|Z4 _ (Z09 rfl)<|Z2<|Zd ⟨_,.cons (.tmp rfl) .nil,?_⟩
          rw [<- he,Zlx hi2,<- hfM,<- hsg,h2]; rfl
        · refine Zy<|Z1<|Z4 _ (iz (Zmy (by omega)) (Zb rfl rfl rfl))<|Z4 _ (Z09 rfl)<|Z2 ?_
          refine ⟨fs.length-(i+1),by omega,i+1,by omega,rfl,?_,⟨⟨rfl,rfl,rfl,rfl,rfl,trivial⟩,.nil⟩⟩
          rw [<- he,Zlx hi2,<- hfM,<- hsg,h2]; rfl
      · have hi2:i=fs.length:=by simp at hc; omega
        refine Z0o _ rfl<|⟨?_,⟨trivial,.nil⟩⟩
        rw [<- he,hi2,List.drop_length]; rfl
  · rintro t m ⟨h,hF⟩
    refine Zo hF ?_
    exact Z0<|Z1<|Z4 _ (Z09 rfl)<|Z2<|Zd ⟨_,.cons (.tmp rfl) .nil,by rw [h]; rfl⟩
def Ze1:List (Zb8 α)->Bool->Z05->α->Option Z05
  | [],_,w,_=>some w
  | f::r,s,w,x=>opt (br (f.sgn || !s) (f.put w x) (some w)) fun w=>Ze1 r s w x
theorem Zrd {fs:List (Zb8 α)} {s:Bool} {x:α} {p:Z05} {i:Nat} (h:i<fs.length):Ze1 (fs.drop i) s p x=opt (br ((fs.getD i fz).sgn || !s) ((fs.getD i fz).put p x) (some p)) fun w=>Ze1 (fs.drop (i+1)) s w x:=by
  rw [List.drop_eq_getElem_cons h]
  simp [Ze1,List.getD_eq_getElem?_getD,h]
def Ze0 (fs:List (Zb8 α)) (dom:Int) (s:Bool) (x:α):Option (LI) :=
  opt Zc4 fun w=>opt (Zik dom) fun h=>opt (Z3j w h) fun w=>opt (Ze1 fs s w x) fun w=>opt (Z4f w) fun d=>some d.1
def Zxj (tf tc:Nat):FnD:=⟨43,[.tmp 6],.seq (.ops [oj 3 (.bx tf 0),oj 6 (.mv (.const (.slice none 0 0)))]) (.seq (.ops [oj 12 (.call 200 []),oj 7 (.mv 12)]) (.seq (.ops [oj 13 (.mv 7),oj 14 (.fa 0 3),oj 15 (.ld 1 false 14),oj 16 (.call 201 [15]),oj 17 (.call 196 [13,16])])
  (.seq (.seq (.ops [oj 18 (.fa 1 3),oj 19 (.ld 1 false 18),oj 20 (.len 19),oj 21 (.mv (ci 0))]) (.block 0 (.loop
    (.seq (.ops [oj 22 (.bin .lss 21 20)]) (.seq (.cond 22 .skip (.exit 0)) (.seq (.block 1 (.seq (.ops [oj 23 (.ias 4 19 21),oj 24 (.ld 4 true 23),oj 9 (.al tc zF),on_ (.st 4 9 24)]) (.seq (.ops [oj 25 (.fa 3 9),oj 26 (.ld 1 false 25),oj 27 (.mv 26),
      .lg true 27 30 none [oG 28 27 false (.mv 2),oG 29 27 false (.un .not 28)] 29]) (.cond 30 (.ops [oj 31 (.fa 0 9),oj 32 (.ld 1 false 31),oj 33 (.mv 7),oj 34 (.mv 1),oj 35 (.cv 32 [33,34])]) .skip)))) (.ops [oj 36 (.bin .add 21 (ci 1)),oj 21 (.mv 36)])))))))
  (.seq (.ops [oj 38 (.mv 7),oj 39 (.call 202 [38]),oj 37 (.mv 39),oj 40 (.ext 37 0),oj 41 (.ext 37 1),oj 10 (.mv 40),oj 11 (.mv 41)]) (.seq (.ops [oj 42 (.mv 10),oj 6 (.mv 42)]) .ret)))))⟩
theorem Zu9 {tf tc:Nat} {W:World} {v:Value} {dom:Int} {fs:List (Zb8 α)} {b:Nat} {x:α} {s:Bool} {r:LI} (ok:okF Tryz.prog F (Zxj tf tc)=true) (hF:Zqs L W v dom fs) (hm:Mem W b 0 (L x)) (hlen:fs.length<=1000) (h:Ze0 fs dom s x=some r) :
    Calls Tryz.prog F [v,pt0 b,.bool s].toArray W (Z7t W [] (fun v Ms=>∃ (u0:Value) (M0:List Ze),v=u0/\Ms = [.all M0]/\Z0b (El.int .u8) u0 M0 r)):=by
  obtain ⟨u,B,vs,rfl,hR,hH,hf⟩:=hF
  have hl:=hf.len
  unfold Ze0 at h
  refine Zv mo ok rfl (Zg4 _) ?_
  refine oH h fun y1 e1 h=>oH h fun y2 e2 h=>oH h fun y3 e3 h=>oH h fun q eq h=>oH h fun d ed h=>?_
  refine Z0<|Z1<|Zc (Z03 (s:=[.one (.int .i64 dom),.one u]) rfl fun b3 _=>Z4 _ (Z09 rfl)<|Z2<|Z0<|Z1<|Zc (Zh rfl (fun w hw=>Zk2 e1) fun v1 Ms1 R1=>?_))
  obtain ⟨bw,Tw,uw,Mw,rfl,rfl,O1⟩:=R1
  refine Z4 _ (Z09 rfl)<|Z2<|Z0<|Z1<|Z4 _ (Z09 rfl)<|Z4 _ (Z1u rfl)<|Z4 _ (Z0j rfl (.there (.app .here)) rfl)<|Zc (Zh rfl (fun w hw=>Zoq e2) fun v2 Ms2 R2=>?_)
  obtain ⟨u2,M2,rfl,rfl,O2⟩:=R2
  refine Zc (Z40 (mS:=_::Mw) rfl (Zfy (.app .here) (.app .here)) (fun w hw=>Zb7 e3 (Zc3 hw (Zfy (.app .here) (.app .here))) O1 ⟨(Z0f O2 .here) w hw,(Zu6 (Zho (E:=(El.int .u8)) O2 .here .here hw) (Zl3 (E:=(El.int .u8)) O2 .here (.there .here) hw))⟩) fun v3 Ms3 R3=>?_)
  obtain ⟨u3,M3,rfl,rfl,O3⟩:=R3
  refine Z2<|Z0<|Z0<|Z1<|Z4 _ (Z1u rfl)<|Z4 _ (Z0j rfl (.there (.app (.app .here))) rfl)<|Z4 _ (Z5c rfl (Shp.rd hR))<|Z4 _ (Z09 rfl)<|Z2 <|
    Zq (G:=fun t m=>∃ (p:Value) (Mp:List Ze),Z0b (El.int .u8) p Mp q.gbytes/\Fit [(7,pt0 bw)] (wck bw Tw p q.gfault::(Mp ++ [])) t m) ?_ ?_
  · refine Zf<|Z0e (fun n t m=>∃ (i:Nat) (p:Z05) (up:Value) (Mp:List Ze),i<=fs.length/\n=fs.length-i/\Ze1 (fs.drop i) s p x=some q/\Z0b (El.int .u8) up Mp p.gbytes /\
      Fit [(1,pt0 b),(2,.bool s),(7,pt0 bw),(19,u),(20,.int .i64 (vs.length:Nat)),(21,.int .i64 (i:Nat))] (wck bw Tw up p.gfault::(Mp ++ [])) t m) fs.length ?_ ?_
    · exact ⟨0,y3,u3,M3,Nat.zero_le _,rfl,eq,O3,⟨⟨rfl,rfl,rfl,rfl,rfl,rfl,trivial⟩,.one .here (.all .here .nil)⟩⟩
    · rintro n t m ⟨i,p,up,Mp,hi,rfl,he,Op,hFit⟩
      refine Zo hFit ?_
      clear hFit
      refine Z0<|Z1<|Z4 _ (Zb rfl rfl rfl)<|Z2<|Z0<|Z016 (c:=decide ((i:Int)<(vs.length:Nat))) rfl (fun hc=>?_) (fun hc=>?_)
      · have hi2:i<fs.length:=by simp at hc; omega
        have hz:inB (i:Int) vs.length=true:=by simp [inB]; omega
        have fM:=hf.get (i:Int).toNat (by simpa using hi2)
        have hfM:(fs.getD (i:Int).toNat fz)=fs.getD i fz:=by simp
        have hsg:(vs.getD (i:Int).toNat E4.z).2.2.2=(fs.getD (i:Int).toNat fz).sgn:=fM.2.2
        obtain ⟨xv,hxv⟩ : ∃ xv,xv=vs.getD (i:Int).toNat E4.z:=⟨_,rfl⟩
        obtain ⟨f,hff⟩ : ∃ f,f=fs.getD (i:Int).toNat fz:=⟨_,rfl⟩
        rw [<- hff] at hfM hsg fM
        rw [<- hxv] at hsg fM
        rw [Zrd hi2,<- hfM,<- hsg] at he
        refine oH he fun p2 ep he=>Zy<|Z0<|Zf<|Z0<|Z1<|Z4 _ (Z7r rfl rfl (Shp.rd hR) hz)<|Z4 (agg (Z0n xv)) (by rw [hxv]; exact Zv8 (E:=E4) (s:=Z0n (vs.getD (i:Int).toNat E4.z)) rfl (Z0z hR Z17) (Z1k hz) rfl rfl) <|
          Zc (Zs fun b8 _=>Zc (Zn (p:=Z0n xv) (q:=Z0n xv) rfl rfl rfl rfl rfl .here<|Z2<|Z0<|Z1<|Z4 _ (Z1u rfl)<|Z4 _ (Z0j rfl .here rfl)<|Z4 _ (Z09 rfl) <|
          Zk3 (v := !s) rfl rfl rfl (fun _=>Z31 rfl _ (Z09 rfl) (Z31 rfl _ (Zqa rfl rfl) Z2a)) (fun _=>rfl) rfl<|Z2<|Z0w ep rfl (fun ep=>?_) (fun ep=>?_)))
        · refine Z1 <| Z4 _ (Z1u rfl) <| Z4 _ (Z0j rfl .here rfl) <| Z4 _ (Z09 rfl) <| Z4 _ (Z09 rfl) <| Zc (Zye (mS := _ :: Mp) (caps := xv.1.2) fM.1.1 rfl rfl (Zfy (.there .here) (.there .here)) (fun w hw => fM.1.2 w b x bw Tw up Mp p p2 ep (hH.still0 hw)
              (fun k hk=>by have:=Zzk hw (hH.lt hk) (by simp); simp only [List.map_cons,List.mem_cons,List.append_nil,not_or] at this ⊢; exact ⟨this.2.1,this.2.2⟩) (Z86 hm (by simp) hw)
              (by have:=Zzk hw hm.lt (by simp); simp only [List.map_cons,List.mem_cons,List.append_nil,not_or] at this ⊢; exact ⟨this.2.1,this.2.2⟩) (Zc3 hw (Zfy (.there .here) (.there .here))) Op) fun v4 Ms4 R4=>?_)
          obtain ⟨u4,M4,rfl,rfl,O4⟩:=R4
          refine Z2<|Z1<|Z4 _ (iz (Zmy (by omega)) (Zb rfl rfl rfl))<|Z4 _ (Z09 rfl)<|Z2 ?_
          exact ⟨fs.length-(i+1),by omega,i+1,p2,u4,M4,by omega,rfl,he,O4,⟨⟨rfl,rfl,rfl,rfl,rfl,rfl,trivial⟩,.one .here (.all .here .nil)⟩⟩
        · obtain rfl:p=p2:=Option.some.inj ep
          refine Zy<|Z1<|Z4 _ (iz (Zmy (by omega)) (Zb rfl rfl rfl))<|Z4 _ (Z09 rfl)<|Z2 ?_
          exact ⟨fs.length-(i+1),by omega,i+1,p,up,Mp,by omega,rfl,he,Op,⟨⟨rfl,rfl,rfl,rfl,rfl,rfl,trivial⟩,.one (.there .here) (.all (.there .here) .nil)⟩⟩
      · have hi2:i=fs.length:=by simp at hc; omega
        rw [hi2,List.drop_length] at he
        obtain rfl:p=q:=Option.some.inj he
        exact Z0o _ rfl<|⟨up,Mp,Op,⟨⟨rfl,trivial⟩,.one .here (.all .here .nil)⟩⟩
  · rintro t m ⟨p,Mp,Op,hF⟩
    refine Zo hF ?_
    refine Z0<|Z1<|Z4 _ (Z09 rfl)<|Zc (Z40 (mS:=_::Mp) rfl (Zfy .here .here) (fun w hw=>Zil ed (Zc3 hw (Zfy .here .here)) Op) fun v4 Ms4 R4=>?_)
    obtain ⟨u4,M4,uw4,Mw4,rfl,rfl,O4,_⟩:=R4
    refine Z4 _ (Z09 rfl)<|Z4 _ (Z0q rfl rfl)<|Z4 _ (Z0q rfl rfl)<|Z4 _ (Z09 rfl)<|Z4 _ (Z09 rfl)<|Z2<|Z0<|Z1<|Z4 _ (Z09 rfl)<|Z4 _ (Z09 rfl)<|Z2<|Zd ?_
    obtain rfl:d.1=r:=Option.some.inj h
    exact ⟨_,_,.cons (.tmp rfl) .nil,.all .here .nil,⟨_,rfl,u4,M4,rfl,rfl,O4⟩⟩
def Zcw (fs:List (Zb8 α)) (dom:Int) (x:α):Option (LI×Int):=br (!Z4a fs false x) (some ([],2)) (opt (Ze0 fs dom false x) fun b=>some (b,0))
def Z9f (fs:List (Zb8 α)) (dom:Int) (x:α):Option (LI):=br (!Z4a fs true x) (some []) (opt (Ze0 fs dom true x) fun b=>some b)
def dEnc (tf tT R B:Nat):FnD:=⟨11,[.tmp 4,.tmp 5],.seq (.ops [oj 2 (.bx tf 0),oj 3 (.bx tT 1),oj 4 (.mv (.const (.slice none 0 0))),oj 5 (.mv (ci 0))]) (.seq (.seq (.ops [oj 6 (.ld 2 true 2),oj 7 (.call R [6,3,.const (.bool false)]),oj 8 (.un .not 7)])
  (.cond 8 (.seq (.ops [oj 4 (.mv (.const (.slice none 0 0))),oj 5 (.mv (ci 2))]) .ret) .skip)) (.seq (.ops [oj 9 (.ld 2 true 2),oj 10 (.call B [9,3,.const (.bool false)]),oj 4 (.mv 10),oj 5 (.mv (ci 0))]) .ret))⟩
abbrev REnc (r:LI×Int) (v:Value) (Ms:List Pc):Prop:=∃ (u0:Value) (M0:List Ze),v = .tuple #[u0,.int .i64 (r.2)]/\Ms = [.all M0]/\Z0b (El.int .u8) u0 M0 r.1
abbrev RSay (r:LI) (v:Value) (Ms:List Pc):Prop:=∃ (u0:Value) (M0:List Ze),v=u0/\Ms = [.all M0]/\Z0b (El.int .u8) u0 M0 r
theorem Z024 {tf tc tT R B:Nat} {W:World} {v:Value} {dom:Int} {fs:List (Zb8 α)} {x:α} {r:LI×Int} (ok:okF Tryz.prog F (dEnc tf tT R B)=true) (okR:okF Tryz.prog R (Zxk tf tc)=true) (okB:okF Tryz.prog B (Zxj tf tc)=true) (hF:Zqs L W v dom fs) (hlen:fs.length<=1000)
    (h:Zcw fs dom x=some r):Calls Tryz.prog F [v,agg (L x)].toArray W (Z7t W [] (REnc r)):=by
  have hF':=hF
  obtain ⟨u,B',vs,rfl,_⟩:=hF'
  unfold Zcw at h
  refine Zv mo ok rfl (Zg4 _) ?_
  refine Z0<|Z1<|Zc (Z03 (s:=[.one (.int .i64 dom),.one u]) rfl fun b2 _=>Zc (Z03 (s:=L x) rfl fun b3 _=>Z4 _ (Z09 rfl)<|Z4 _ (Z09 rfl)<|Z2<|Z0<|Z0<|Z1<|Z4 _ (Z04 (p:=[.one (.int .i64 dom),.one u]) rfl (.there .here) rfl) <|
    Z4 _ (Z06 rfl (fun w hw=>Zvf (s:=false) (x:=x) okR (hF.still hw) (Zq2 hw .here) hlen))<|Z4 _ (Zqa rfl rfl)<|Z2<|Z0w h rfl (fun h=>?_) (fun h=>?_)))
  · obtain rfl:=Option.some.inj h
    exact Z0<|Z1<|Z4 _ (Z09 rfl)<|Z4 _ (Z09 rfl)<|Z2<|Zd ⟨_,_,.cons (.tmp rfl) (.cons (.tmp rfl) .nil),.no .nil,⟨_,rfl,.slice none 0 0,[],rfl,rfl,Zbh⟩⟩
  · refine oH h fun y ey h=>Zy<|Z0<|Z1<|Z4 _ (Z04 (p:=[.one (.int .i64 dom),.one u]) rfl (.there .here) rfl)<|Zc (Zh rfl (fun w hw=>Zu9 okB (hF.still hw) (Zq2 hw .here) hlen ey) fun v1 Ms1 R1=>?_)
    obtain ⟨u1,M1,rfl,rfl,O1⟩:=R1
    obtain rfl:=Option.some.inj h
    exact Z4 _ (Z09 rfl)<|Z4 _ (Z09 rfl)<|Z2<|Zd ⟨_,_,.cons (.tmp rfl) (.cons (.tmp rfl) .nil),.all .here .nil,⟨_,rfl,_,M1,rfl,rfl,O1⟩⟩
def dSay (tf tT R B:Nat):FnD:=⟨10,[.tmp 4],.seq (.ops [oj 2 (.bx tf 0),oj 3 (.bx tT 1),oj 4 (.mv (.const (.slice none 0 0)))]) (.seq (.seq (.ops [oj 5 (.ld 2 true 2),oj 6 (.call R [5,3,.const (.bool true)]),oj 7 (.un .not 6)])
  (.cond 7 (.seq (.ops [oj 4 (.mv (.const (.slice none 0 0)))]) .ret) .skip)) (.seq (.ops [oj 8 (.ld 2 true 2),oj 9 (.call B [8,3,.const (.bool true)]),oj 4 (.mv 9)]) .ret))⟩
theorem Z03n {tf tc tT R B:Nat} {W:World} {v:Value} {dom:Int} {fs:List (Zb8 α)} {x:α} {r:LI} (ok:okF Tryz.prog F (dSay tf tT R B)=true) (okR:okF Tryz.prog R (Zxk tf tc)=true) (okB:okF Tryz.prog B (Zxj tf tc)=true) (hF:Zqs L W v dom fs) (hlen:fs.length<=1000)
    (h:Z9f fs dom x=some r):Calls Tryz.prog F [v,agg (L x)].toArray W (Z7t W [] (RSay r)):=by
  have hF':=hF
  obtain ⟨u,B',vs,rfl,_⟩:=hF'
  unfold Z9f at h
  refine Zv mo ok rfl (Zg4 _) ?_
  refine Z0<|Z1<|Zc (Z03 (s:=[.one (.int .i64 dom),.one u]) rfl fun b2 _=>Zc (Z03 (s:=L x) rfl fun b3 _=>Z4 _ (Z09 rfl)<|Z2<|Z0<|Z0<|Z1<|Z4 _ (Z04 (p:=[.one (.int .i64 dom),.one u]) rfl (.there .here) rfl) <|
    Z4 _ (Z06 rfl (fun w hw=>Zvf (s:=true) (x:=x) okR (hF.still hw) (Zq2 hw .here) hlen))<|Z4 _ (Zqa rfl rfl)<|Z2<|Z0w h rfl (fun h=>?_) (fun h=>?_)))
  · obtain rfl:=Option.some.inj h
    exact Z0<|Z1<|Z4 _ (Z09 rfl)<|Z2<|Zd ⟨_,_,.cons (.tmp rfl) .nil,.no .nil,⟨_,rfl,.slice none 0 0,[],rfl,rfl,Zbh⟩⟩
  · refine oH h fun y ey h=>Zy<|Z0<|Z1<|Z4 _ (Z04 (p:=[.one (.int .i64 dom),.one u]) rfl (.there .here) rfl)<|Zc (Zh rfl (fun w hw=>Zu9 okB (hF.still hw) (Zq2 hw .here) hlen ey) fun v1 Ms1 R1=>?_)
    obtain ⟨u1,M1,rfl,rfl,O1⟩:=R1
    obtain rfl:=Option.some.inj h
    exact Z4 _ (Z09 rfl)<|Z2<|Zd ⟨_,_,.cons (.tmp rfl) .nil,.all .here .nil,⟨_,rfl,_,M1,rfl,rfl,O1⟩⟩
def Zr4 (tT w C E:Nat):FnD:=⟨9,[.tmp 2,.tmp 3],.seq (.ops [oj 1 (.bx tT 0),oj 2 (.mv (.const (.slice none 0 0))),oj 3 (.mv (ci 0))]) (.seq (.draw (.q [1] (oj 5 (.ld w true 1)) (.e 0 (oi 4 (.call C [])) (.e 2 (oi 6 (.call E [4,5])) (.p [3] (oj 7 (.ext 6 0)) (.p [4] (oj 8 (.ext 6 1)) (.p [5] (oj 2 (.mv 7)) (.p [6] (oj 3 (.mv 8)) .nil))))))) [2]) .ret)⟩
theorem Zdx {tf tc tT n C E R B:Nat} {W:World} {dom:Int} {fs:List (Zb8 α)} {x:α} {r:LI×Int} (ok:okF Tryz.prog F (Zr4 tT n C E)=true) (okE:okF Tryz.prog E (dEnc tf tT R B)=true) (okR:okF Tryz.prog R (Zxk tf tc)=true) (okB:okF Tryz.prog B (Zxj tf tc)=true)
    (hC : ∀ W,Calls Tryz.prog C #[] W (Z7t W [] (RC L dom fs))) (hlen:fs.length<=1000) (hs:sub (L x) 0 n=some (L x)) (h:Zcw fs dom x=some r):Calls Tryz.prog F [agg (L x)].toArray W (Z7t W [] (REnc r)):=by
  refine Zv mo ok rfl (Zg4 _) ?_
  refine Z0<|Z1<|Zc (Z03 (s:=L x) rfl fun b1 _=>Z4 _ (Z09 rfl)<|Z4 _ (Z09 rfl)<|Z2<|Z0<|Zj<|Zg _ (Z04 (p:=L x) rfl .here hs)<|Z2c (Zh (vs:=[]) rfl (fun w hw=>hC w) fun v1 Ms1 R1=>?_))
  obtain ⟨u,M,B',vs,rfl,rfl,O1,hf⟩:=R1
  refine ⟨by repeat (first | exact Sup.refl _ | apply Sup.cons | apply Sup.app),Z1n rfl (Zh rfl (fun w hw=>Z024 okE okR okB (RC.form O1 hf hw .here (.app .here)) hlen h) fun v2 Ms2 R2=>?_)⟩
  obtain ⟨u2,M2,rfl,rfl,O2⟩:=R2
  exact Z6 _ (Z0q rfl rfl)<|Z6 _ (Z0q rfl rfl)<|Z6 _ (Z09 rfl)<|Z6 _ (Z09 rfl)<|Zr<|Zd ⟨_,_,.cons (.tmp rfl) (.cons (.tmp rfl) .nil),.all .here .nil,⟨_,rfl,u2,M2,rfl,rfl,O2⟩⟩
def Zr6 (tT w C E:Nat):FnD:=⟨6,[.tmp 2],.seq (.ops [oj 1 (.bx tT 0),oj 2 (.mv (.const (.slice none 0 0)))]) (.seq (.draw (.q [1] (oj 4 (.ld w true 1)) (.e 0 (oi 3 (.call C [])) (.e 2 (oi 5 (.call E [3,4])) (.p [3] (oj 2 (.mv 5)) .nil)))) [2]) .ret)⟩
theorem Ze9 {tf tc tT n C E R B:Nat} {W:World} {dom:Int} {fs:List (Zb8 α)} {x:α} {r:LI} (ok:okF Tryz.prog F (Zr6 tT n C E)=true) (okE:okF Tryz.prog E (dSay tf tT R B)=true) (okR:okF Tryz.prog R (Zxk tf tc)=true) (okB:okF Tryz.prog B (Zxj tf tc)=true)
    (hC : ∀ W,Calls Tryz.prog C #[] W (Z7t W [] (RC L dom fs))) (hlen:fs.length<=1000) (hs:sub (L x) 0 n=some (L x)) (h:Z9f fs dom x=some r):Calls Tryz.prog F [agg (L x)].toArray W (Z7t W [] (RSay r)):=by
  refine Zv mo ok rfl (Zg4 _) ?_
  refine Z0<|Z1<|Zc (Z03 (s:=L x) rfl fun b1 _=>Z4 _ (Z09 rfl)<|Z2<|Z0<|Zj<|Zg _ (Z04 (p:=L x) rfl .here hs)<|Z2c (Zh (vs:=[]) rfl (fun w hw=>hC w) fun v1 Ms1 R1=>?_))
  obtain ⟨u,M,B',vs,rfl,rfl,O1,hf⟩:=R1
  refine ⟨by repeat (first | exact Sup.refl _ | apply Sup.cons | apply Sup.app),Z1n rfl (Zh rfl (fun w hw=>Z03n okE okR okB (RC.form O1 hf hw .here (.app .here)) hlen h) fun v2 Ms2 R2=>?_)⟩
  obtain ⟨u2,M2,rfl,rfl,O2⟩:=R2
  exact Z6 _ (Z09 rfl)<|Zr<|Zd ⟨_,_,.cons (.tmp rfl) .nil,.all .here .nil,⟨_,rfl,_,M2,rfl,rfl,O2⟩⟩
variable {Lc:β->List Seg} {ms B:List Ze} {b1 b5 ta tc:Nat} {g:FuncId} {rest:α->List Seg} {inn:α->β}
def Z01x:FnD:=⟨13,[],.draw (.q [0] (oj 6 (.fa 0 2)) (.q [1] (oj 7 (.ld 1 false 6)) (.q [2] (oj 8 (.mv 0)) (.q [3] (oj 9 (.ld 1 false 3)) (.q [4] (oj 10 (.mv 1)) (.q [5] (oj 11 (.cv 9 [10])) (.e 6 (oi 12 (.cv 7 [8,11])) .nil))))))) [6]⟩
theorem Z072 {xv:Cl4} {put:Z05->β->Option Z05} (ok:okF Tryz.prog F Z01x=true) (hn:Z6p Tryz.prog F=true) (hat:AtF g 0) (hL : ∀ x,L x=Lc (inn x)++rest x) (hP:PutM Lc B xv.1 put) (hB : ∀ k∈B,k∈ms)
    (h5:ck b5 tc (Z0n xv)∈ms) (h1:ck b1 ta [.one (clV (g,[]))]∈ms):PutM L ms (F,[pt0 b5,pt0 b1]) (fun w x=>put w (inn x)):=by
  refine ⟨Zdv ok hn,fun W b x bw Tw vw Mw p r h hH hd hm hb h0 hO=>Zv mo ok rfl h0 ?_⟩
  have hm2:Mem W b 0 (Lc (inn x)):=Zzb (by rw [<- hL]; exact hm)
  refine Zj<|Zg _ (Z1u rfl)<|Zg _ (Zm0 (o0:=0) (off:=0) rfl (hH.mem h5) (hd _ h5) rfl)<|Zg _ (Z09 rfl)<|Zg _ (Zal rfl (Z5d (hH.cap h1) (hd _ h1)))<|Zg _ (Z09 rfl)<|Zg _ (Zm9 (caps:=[]) hat.1 rfl rfl (fun w hw=>hat.2 w b)) <|
    Z1n rfl (Zye (mS:=_::Mw) (caps:=xv.1.2) hP.1 rfl rfl (Zfy .here .here) (fun w hw=>hP.2 w b (inn x) bw Tw vw Mw p r h ((hH.sub hB).still (C:=⟨Tryz.prog,13,W,bw::Mw.map (·.b)⟩) (fun k hk=>hd k (hB k hk)) hw) (fun k hk=>hd k (hB k hk)) (Z86 hm2 hb hw) hb (Zc3 hw (Zfy .here .here)) hO) fun v Ms hR=>Zr ?_)
  obtain ⟨uw,Mw',rfl,rfl,hO'⟩:=hR
  exact ⟨_,_,.nil,.one .here (.all .here .nil),⟨_,rfl,⟨uw,Mw',rfl,rfl,hO'⟩⟩⟩
def Z01w:FnD:=⟨11,[.tmp 4],.seq (.ops [oj 4 (.mv (.const (.bool false)))]) (.seq (.draw (.q [0] (oj 5 (.fa 2 1)) (.q [1] (oj 6 (.ld 1 false 5)) (.q [2] (oj 7 (.ld 1 false 2)) (.q [3] (oj 8 (.mv 0)) (.q [4] (oj 9 (.cv 7 [8])) (.q [5] (oj 10 (.cv 6 [9])) (.q [6] (oj 4 (.mv 10)) .nil))))))) []) .ret)⟩
theorem Z071 {xv:Cl4} {may:β->Bool} (ok:okF Tryz.prog F Z01w=true) (hn:Z6p Tryz.prog F=true) (hat:AtF g 0) (hL : ∀ x,L x=Lc (inn x)++rest x) (hP:MayM Lc B xv.2.2.1 may) (hB : ∀ k∈B,k∈ms)
    (h5:ck b5 tc (Z0n xv)∈ms) (h1:ck b1 ta [.one (clV (g,[]))]∈ms):MayM L ms (F,[pt0 b5,pt0 b1]) (fun x=>may (inn x)):=by
  refine ⟨Zdv ok hn,fun W b x hH hm=>Z9 mo ok rfl ?_⟩
  have hm2:Mem W b 0 (Lc (inn x)):=Zzb (by rw [<- hL]; exact hm)
  exact Z0<|Z1<|Z4 _ (Z09 rfl)<|Z2<|Z0<|Zj<|Zg _ (Z1u rfl)<|Zg _ (Zm0 (o0:=0) (off:=2) rfl (hH.mem h5) (by simp) rfl)<|Zg _ (Zal rfl (Z5d (hH.cap h1) (by simp)))<|Zg _ (Z09 rfl)<|Zg _ (Zm9 (caps:=[]) hat.1 rfl rfl (fun w hw=>hat.2 w b)) <|
    Zg _ (Zm9 (caps:=xv.2.2.1.2) hP.1 rfl rfl (fun w hw=>hP.2 w b (inn x) ((hH.sub hB).still0 hw) (Z86 hm2 (by simp) hw)))<|Zg _ (Z09 rfl)<|Zr<|Zd ⟨_,.cons (.tmp rfl) .nil,rfl⟩
def dInn (C ta tc te F1 F2 F3:Nat):FnD:=⟨22,[.tmp 2],.seq (.ops [oj 1 (.bx ta 0),oj 2 (.mv (.const (.slice none 0 0)))]) (.seq (.ops [oj 3 (.mv (.const (.slice none 0 0)))]) (.seq (.seq (.ops [oj 6 (.call C []),oj 7 (.fld 1 1 false 6),oj 8 (.len 7),oj 9 (.mv (ci 0))]) (.block 0 (.loop
  (.seq (.ops [oj 10 (.bin .lss 9 8)]) (.seq (.cond 10 .skip (.exit 0)) (.seq (.block 1 (.seq (.ops [oj 11 (.ias 4 7 9),oj 12 (.ld 4 true 11),oj 5 (.al tc zF),on_ (.st 4 5 12)]) (.ops [oj 13 (.mv 3),oj 14 (.mf F1 [5,1]),oj 15 (.mf F2 [5,1]),oj 16 (.mf F3 [5,1]),
    oj 17 (.bd zF [(0,1,14),(1,1,15),(2,1,16),(3,1,.const (.bool true))]),oj 18 (.bs te 1 4 zF [(0,4,17)]),oj 19 (.app te 4 32 zF 13 18),oj 3 (.mv 19)]))) (.ops [oj 20 (.bin .add 9 (ci 1)),oj 9 (.mv 20)]))))))) (.seq (.ops [oj 21 (.mv 3),oj 2 (.mv 21)]) .ret)))⟩
theorem Zuq {C te F1 F2 F3:Nat} {dom:Int} {fs:List (Zb8 β)} (ok:okF Tryz.prog F (dInn C ta tc te F1 F2 F3)=true) (ok1:okF Tryz.prog F1 Z01x=true) (ok3:okF Tryz.prog F3 Z01w=true) (hn1:Z6p Tryz.prog F1=true) (hn3:Z6p Tryz.prog F3=true) (hat:AtF g 0) (hL : ∀ x,L x=Lc (inn x)++rest x)
    (hC : ∀ W,Calls Tryz.prog C #[] W (Z7t W [] (RC Lc dom fs))) (hlen:fs.length<=1000) (W:World):Calls Tryz.prog F [clV (g,[])].toArray W (Z7t W [] (RL L (fs.map (fInn inn)))):=by
  refine Zv mo ok rfl (Zg4 _) ?_
  refine Z0<|Z1<|Zc (Zgz rfl rfl fun b1 _=>Z4 _ (Z09 rfl)<|Z2<|Z0<|Z1<|Z4 _ (Z09 rfl)<|Z2<|Z0<|Z0<|Z1<|Zc (Zh (vs:=[]) rfl (fun w hw=>hC w) fun v1 Ms1 R1=>?_))
  obtain ⟨u,M,B,vs,rfl,rfl,O1,hf⟩:=R1
  have hl:=hf.len
  refine Z4 _ (Z0ge rfl rfl)<|Z4 _ (Z5c rfl (Shp.own O1))<|Z4 _ (Z09 rfl)<|Z2 <|
    Zq (G:=fun t m=>∃ (v:Value) (Y X:List Ze) (ys:List Cl4),Z0b E4 v Y ys/\Z9l L (X++(B ++ [ck b1 ta [.one (clV (g,[]))]])) ys (fs.map (fInn inn))/\Fit [(3,v)] (Y++((X++(B ++ [ck b1 ta [.one (clV (g,[]))]])) ++ [])) t m) ?_ ?_
  · refine Zf<|Z0e (fun n t m=>∃ (i:Nat) (v:Value) (Y X:List Ze) (ys:List Cl4),i<=fs.length/\n=fs.length-i/\Z0b E4 v Y ys/\Z9l L (X++(B ++ [ck b1 ta [.one (clV (g,[]))]])) ys ((fs.take i).map (fInn inn)) /\
      Fit [(1,pt0 b1),(3,v),(7,u),(8,.int .i64 (vs.length:Nat)),(9,.int .i64 (i:Nat))] (Y++(M++(X++(B++(ck b1 ta [.one (clV (g,[]))] :: []))))) t m) fs.length ?_ ?_
    · exact ⟨0,.slice none 0 0,[],[],[],Nat.zero_le _,rfl,Zbh,.nil,⟨⟨rfl,rfl,rfl,rfl,rfl,trivial⟩,.no (.all .here (.no (.all .here (.one .here .nil))))⟩⟩
    · rintro n t m ⟨i,v,Y,X,ys,hi,rfl,O2,hys,hFit⟩
      refine Zo hFit ?_
      clear hFit
      have hyl:=hys.len
      rw [List.length_map,List.length_take] at hyl
      refine Z0<|Z1<|Z4 _ (Zb rfl rfl rfl)<|Z2<|Z0<|Z016 (c:=decide ((i:Int)<(vs.length:Nat))) rfl (fun hc=>?_) (fun hc=>?_)
      · have hi2:i<fs.length:=by simp at hc; omega
        have hz:inB (i:Int) vs.length=true:=by simp [inB]; omega
        have fM:=hf.get i hi2
        obtain ⟨xv,hxv⟩ : ∃ xv,xv=vs.getD (i:Int).toNat E4.z:=⟨_,rfl⟩
        rw [show vs.getD i E4.z=xv by rw [hxv]; simp] at fM
        refine Zy<|Z0<|Zf<|Z0<|Z1<|Z4 _ (Z7r rfl rfl (Shp.own O1) hz)<|Z4 (agg (Z0n xv)) (by rw [hxv]; exact Zv8 (E:=E4) (s:=Z0n (vs.getD (i:Int).toNat E4.z)) rfl (Z0f O1 (.app .here)) (Z1k hz) rfl rfl) <|
          Zc (Zs fun b5 _=>Zc (Zn (p:=Z0n xv) (q:=Z0n xv) rfl rfl rfl rfl rfl .here<|Z2<|Z1<|Z4 _ (Z09 rfl)<|Z4 _ (Zv9 rfl)<|Z4 _ (Zv9 rfl)<|Z4 _ (Zv9 rfl) <|
          Z4 _ (Ze2 (q:=Z0n ((F1,[pt0 b5,pt0 b1]),(F2,[pt0 b5,pt0 b1]),(F3,[pt0 b5,pt0 b1]),true)) (.one rfl rfl rfl (.one rfl rfl rfl (.one rfl rfl rfl (.one rfl rfl rfl BdR.nil))))) <|
          Zc (Z5b (E:=E4) (xs:=[((F1,[pt0 b5,pt0 b1]),(F2,[pt0 b5,pt0 b1]),(F3,[pt0 b5,pt0 b1]),true)]) (.agg rfl rfl rfl BdR.nil) (.cons (p:=Z0n ((F1,[pt0 b5,pt0 b1]),(F2,[pt0 b5,pt0 b1]),(F3,[pt0 b5,pt0 b1]),true)) rfl .nil) rfl fun v3 ms3 O3 =>
          Zc (Zbd (E:=E4) (xs':=ys ++ [((F1,[pt0 b5,pt0 b1]),(F2,[pt0 b5,pt0 b1]),(F3,[pt0 b5,pt0 b1]),true)]) rfl rfl O2 (.app (.there .here)) rfl (Z0f O3 .here) (by rw [decide_eq_true_iff]; simp only [List.length_singleton]; omega) fun v4 ms4 O4=>Z4 _ (Z09 rfl)<|Z2 <|
          Z1<|Z4 _ (iz (Zmy (by omega)) (Zb rfl rfl rfl))<|Z4 _ (Z09 rfl)<|Z2 ?_))))
        refine ⟨fs.length-(i+1),by omega,i+1,v4,ms4,ck b5 tc (Z0n xv)::X,_,by omega,rfl,O4,?_,⟨⟨rfl,rfl,rfl,rfl,rfl,trivial⟩,?_⟩⟩
        · rw [List.take_add_one,List.getElem?_eq_getElem hi2,List.map_append]
          refine (hys.mono fun k hk=>List.mem_cons_of_mem _ hk).app ?_
          rw [show List.map (fInn (α:=α) inn) (some fs[i]).toList = [fInn inn (fs.getD i fz)] by simp [List.getD_eq_getElem?_getD,hi2]]
          exact .cons ⟨Z072 (tc:=tc) (ta:=ta) (Lc:=Lc) (inn:=inn) (put:=(fs.getD i fz).put) (xv:=xv) ok1 hn1 hat hL fM.1 (fun k hk=>by simp [hk]) (by simp) (by simp),Z071 (tc:=tc) (ta:=ta) (Lc:=Lc) (inn:=inn) (may:=(fs.getD i fz).may) (xv:=xv) ok3 hn3 hat hL fM.2.1 (fun k hk=>by simp [hk]) (by simp) (by simp),rfl⟩ .nil
        · exact .all .here (.all (.app (.there .here)) (.one (.app .here) (.all (.app .here) (.all (.app .here) (.one (.app .here) .nil)))))
      · have hi2:i=fs.length:=by simp at hc; omega
        rw [hi2,List.take_length] at hys
        exact Z0o _ rfl<|⟨v,Y,X,ys,O2,hys,⟨⟨rfl,trivial⟩,by
          rw [List.append_assoc,List.append_assoc]
          exact .all .here (.all (.app .here) (.all (.app .here) (.one (.app .here) .nil)))⟩⟩
  · rintro t m ⟨v,Y,X,ys,O2,hys,hF⟩
    refine Zo hF ?_
    exact Z0<|Z1<|Z4 _ (Z09 rfl)<|Z4 _ (Z09 rfl)<|Z2<|Zd ⟨_,_,.cons (.tmp rfl) .nil,.all .here (.all .here .nil),⟨_,rfl,Y,_,ys,rfl,O2,hys⟩⟩
end
def zFs:Nat->List Seg
 | 0=>[]
 | n+1=>.one .nilFunc :: .one .nilFunc :: .one .nilFunc :: .one (.bool false)::zFs n
abbrev Zgx:Z0m->List Seg:=fun x=>[.one (.int .i64 (x.gSerial)),.one (.int .i64 (x.gRides)),.one (.int .i64 (x.gPrice)),.ints .u8 32 (x.gAnchor),.ints .u8 64 (x.gSig)]
theorem ok90:okF Tryz.prog 90 (dLim 3 189)=true:=by kernel_rfl
theorem Z0fs:okF Tryz.prog 189 (Zt1)=true:=by kernel_rfl
theorem Z0f0:Z6p Tryz.prog 189=true:=by kernel_rfl
theorem ok89:okF Tryz.prog 89 (dAt [0] 6)=true:=by kernel_rfl
theorem nm89:Z6p Tryz.prog 89=true:=by kernel_rfl
theorem at89:AtF 89 0:=Zou ok89 nm89 rfl
theorem ok88:okF Tryz.prog 88 (dNum 194 3 195 190 184 186 188)=true:=by kernel_rfl
theorem Z0fq:okF Tryz.prog 184 (Zn8 185 .u32)=true:=by kernel_rfl
theorem Z0ey:Z6p Tryz.prog 184=true:=by kernel_rfl
theorem Z0fr:okF Tryz.prog 188 (Zt2)=true:=by kernel_rfl
theorem Z0ez:Z6p Tryz.prog 188=true:=by kernel_rfl
theorem ok91:okF Tryz.prog 91 (dAt [1] 6)=true:=by kernel_rfl
theorem nm91:Z6p Tryz.prog 91=true:=by kernel_rfl
theorem at91:AtF 91 1:=Zou ok91 nm91 rfl
theorem ok93:okF Tryz.prog 93 (dAt [2] 6)=true:=by kernel_rfl
theorem nm93:Z6p Tryz.prog 93=true:=by kernel_rfl
theorem at93:AtF 93 2:=Zou ok93 nm93 rfl
theorem ok92:okF Tryz.prog 92 (dMon 199 2 190 190 192 194)=true:=by kernel_rfl
theorem Z0pc:okF Tryz.prog 190 (Zn8 191 .u64)=true:=by kernel_rfl
theorem Z0mw:Z6p Tryz.prog 190=true:=by kernel_rfl
theorem Z0pe:okF Tryz.prog 194 (Z01y)=true:=by kernel_rfl
theorem Z0mx:Z6p Tryz.prog 194=true:=by kernel_rfl
theorem ok95:okF Tryz.prog 95 (dSl 3 32)=true:=by kernel_rfl
theorem nm95:Z6p Tryz.prog 95=true:=by kernel_rfl
theorem at95:SlF 95 3 32:=slF ok95 nm95 (by decide)
theorem ok94:okF Tryz.prog 94 (dLst 201 190 195 197 199)=true:=by kernel_rfl
theorem Z0ft:okF Tryz.prog 195 (Zpx)=true:=by kernel_rfl
theorem Z0f1:Z6p Tryz.prog 195=true:=by kernel_rfl
theorem Z0fu:okF Tryz.prog 199 (dAny)=true:=by kernel_rfl
theorem Z0f2:Z6p Tryz.prog 199=true:=by kernel_rfl
theorem ok96:okF Tryz.prog 96 (dSl 35 64)=true:=by kernel_rfl
theorem nm96:Z6p Tryz.prog 96=true:=by kernel_rfl
theorem at96:SlF 96 35 64:=slF ok96 nm96 (by decide)
def d42:FnD:=⟨10,[.cell 0 2 true],.seq (.ops [oj 0 (.al 96 [.one (.int .i64 0),.one (.slice none 0 0)])]) (.seq (.ops [oj 1 (.call 90 [ci (65535)]),oj 2 (.call 88 [.func 89,ci (1),1]),oj 3 (.call 90 [ci (4096)]),oj 4 (.call 88 [.func 91,ci (1),3]),oj 5 (.call 92 [.func 93,ci (1000000000)]),oj 6 (.call 94 [.func 95,.const (.bool true)]),oj 7 (.call 94 [.func 96,.const (.bool false)]),oj 8 (.bs 190 5 4 (zFs 5) [(0,4,2),(4,4,4),(8,4,5),(12,4,6),(16,4,7)]),oj 9 (.bd [.one (.int .i64 0),.one (.slice none 0 0)] [(0,1,ci 1),(1,1,8)]),on_ (.st 2 0 9)]) .ret)⟩
theorem ok42:okF Tryz.prog 42 (d42)=true:=by kernel_rfl
def F_Cert:List (Zb8 Z0m):=[Zyj (fun x:Z0m=>x.gSerial) (1) (fun _=>65535),Zyj (fun x:Z0m=>x.gRides) (1) (fun _=>4096),fMon (fun x:Z0m=>x.gPrice) 1000000000,Zxl (fun x:Z0m=>x.gAnchor) 32 true,Zxl (fun x:Z0m=>x.gSig) 64 false]
theorem Zu1 (W:World):Calls Tryz.prog 42 #[] W (Z7t W [] (RC Zgx 1 F_Cert)):=by
 refine Zv (args:=[]) mo ok42 rfl (Zg4 _) ?_
 refine Z0<|Z1<|Zc (Zs fun b0 _=>Z2<|Z0<|Z1 <| ?_)
 refine Zc (Zh rfl (fun w hw=>Zd9 (L:=Zgx) ok90 Z0fs Z0f0) fun v1 Ms1 R1=>?_)
 obtain ⟨c1,M1,rfl,rfl,H1⟩:=R1
 refine Zc (Zh rfl (fun w hw=>Zda (L:=Zgx) (get:=fun x:Z0m=>x.gSerial) ok88 Z0fq Z0fr Z0ey Z0ez at89 (fun _=>rfl) H1) fun v2 Ms2 R2=>?_)
 obtain ⟨x2,M2,rfl,rfl,H2⟩:=R2
 refine Zc (Zh rfl (fun w hw=>Zd9 (L:=Zgx) ok90 Z0fs Z0f0) fun v3 Ms3 R3=>?_)
 obtain ⟨c3,M3,rfl,rfl,H3⟩:=R3
 refine Zc (Zh rfl (fun w hw=>Zda (L:=Zgx) (get:=fun x:Z0m=>x.gRides) ok88 Z0fq Z0fr Z0ey Z0ez at91 (fun _=>rfl) H3) fun v4 Ms4 R4=>?_)
 obtain ⟨x4,M4,rfl,rfl,H4⟩:=R4
 refine Zc (Zh rfl (fun w hw=>Zux (L:=Zgx) (get:=fun x:Z0m=>x.gPrice) ok92 Z0pc Z0pe Z0mw Z0mx at93 (fun _=>rfl)) fun v5 Ms5 R5=>?_)
 obtain ⟨x5,M5,rfl,rfl,H5⟩:=R5
 refine Zc (Zh rfl (fun w hw=>Zc2 (L:=Zgx) (get:=fun x:Z0m=>x.gAnchor) ok94 Z0ft Z0fu Z0f1 Z0f2 at95 (fun _=>rfl)) fun v6 Ms6 R6=>?_)
 obtain ⟨x6,M6,rfl,rfl,H6⟩:=R6
 refine Zc (Zh rfl (fun w hw=>Zc2 (L:=Zgx) (get:=fun x:Z0m=>x.gSig) ok94 Z0ft Z0fu Z0f1 Z0f2 at96 (fun _=>rfl)) fun v7 Ms7 R7=>?_)
 obtain ⟨x7,M7,rfl,rfl,H7⟩:=R7
 refine Zc (Z5b (E:=E4) (xs:=[x2,x4,x5,x6,x7]) (.agg (p:=Z0n x2) (z':=Z0n x2++(zFs 4)) rfl rfl (by kernel_rfl) (.agg (p:=Z0n x4) (z':=Z0n x2++(Z0n x4++(zFs 3))) rfl rfl (by kernel_rfl) (.agg (p:=Z0n x5) (z':=Z0n x2++(Z0n x4++(Z0n x5++(zFs 2)))) rfl rfl (by kernel_rfl) (.agg (p:=Z0n x6) (z':=Z0n x2++(Z0n x4++(Z0n x5++(Z0n x6++(zFs 1))))) rfl rfl (by kernel_rfl) (.agg (p:=Z0n x7) (z':=Z0n x2++(Z0n x4++(Z0n x5++(Z0n x6++(Z0n x7++([])))))) rfl rfl (by kernel_rfl) BdR.nil))))) (.cons (p:=Z0n x2) rfl (.cons (p:=Z0n x4) rfl (.cons (p:=Z0n x5) rfl (.cons (p:=Z0n x6) rfl (.cons (p:=Z0n x7) rfl .nil))))) rfl fun u8 S8 O8=>?_)
 refine Z4 _ (Ze2 (q:=[.one (.int .i64 1),.one u8]) (.one rfl rfl rfl (.one rfl (Z97.cells (Z0b.isSl O8)) rfl BdR.nil))) <| ?_
 refine Zc (Zd3 (q:=[.one (.int .i64 1),.one u8]) rfl rfl rfl rfl (Z0r (Z3l rfl) (Z0r (Z3l (Z97.one1 (Z0b.isSl O8))) Z43)) (.app (.app (.app (.app (.app (.app (.app (.app .here))))))))<|Z2<|Zd ?_)
 refine ⟨_,_,.cons (.agg rfl (.app (.app (.app (.app (.app (.app (.app (.app .here)))))))) rfl) .nil,.all .here Zgp,⟨_,rfl,u8,S8,(M7++(M6++(M5++(M4++(M3++(M2++(M1++(ck b0 96 [.one (.int .i64 1),.one u8] :: [])))))))),_,rfl,rfl,O8,?_⟩⟩
 exact (.cons (H2.mono (by intro k hk; simp only [List.mem_append,List.mem_cons,List.not_mem_nil,or_false] at hk ⊢; first | (rcases hk with hk | hk <;> simp [hk]) | simp [hk])) (.cons (H4.mono (by intro k hk; simp only [List.mem_append,List.mem_cons,List.not_mem_nil,or_false] at hk ⊢; first | (rcases hk with hk | hk <;> simp [hk]) | simp [hk])) (.cons (H5.mono (by intro k hk; simp only [List.mem_append,List.mem_cons,List.not_mem_nil,or_false] at hk ⊢; first | (rcases hk with hk | hk <;> simp [hk]) | simp [hk])) (.cons (H6.mono (by intro k hk; simp only [List.mem_append,List.mem_cons,List.not_mem_nil,or_false] at hk ⊢; first | (rcases hk with hk | hk <;> simp [hk]) | simp [hk])) (.cons (H7.mono (by intro k hk; simp only [List.mem_append,List.mem_cons,List.not_mem_nil,or_false] at hk ⊢; first | (rcases hk with hk | hk <;> simp [hk]) | simp [hk])) .nil)))))
theorem ok97:okF Tryz.prog 97 (Zxk 96 190)=true:=by kernel_rfl
theorem ok98:okF Tryz.prog 98 (Zxj 96 190)=true:=by kernel_rfl
theorem ok43:okF Tryz.prog 43 (dEnc 96 29 97 98)=true:=by kernel_rfl
theorem ok12:okF Tryz.prog 12 (Zr4 29 99 42 43)=true:=by kernel_rfl
def Z99 (p0:Z0m):Option ((LI)×Int):=Zcw F_Cert 1 p0
theorem Zcq {W:World} {r:(LI)×Int} {p0:Z0m} (h:Z99 p0=some r) :
  Calls Tryz.prog 12 [agg [.one (.int .i64 (p0.gSerial)),.one (.int .i64 (p0.gRides)),.one (.int .i64 (p0.gPrice)),.ints .u8 32 (p0.gAnchor),.ints .u8 64 (p0.gSig)]].toArray W (Z7t W [] (fun v Ms=>∃ (u0:Value) (M0:List Ze),v = .tuple #[u0,.int .i64 (r.2)]/\Ms = [.all M0]/\Z0b (El.int .u8) u0 M0 r.1)) :=
 Zdx (L:=Zgx) ok12 ok43 ok97 ok98 Zu1 (by decide) (by kernel_rfl) h
theorem Z0pj:okF Tryz.prog 203 (dSay 96 29 97 98)=true:=by kernel_rfl
theorem ok99:okF Tryz.prog 99 (Zr6 29 99 42 203)=true:=by kernel_rfl
def Z75 (p0:Z0m):Option (LI):=Z9f F_Cert 1 p0
theorem Zex {W:World} {r:LI} {p0:Z0m} (h:Z75 p0=some r) :
  Calls Tryz.prog 99 [agg [.one (.int .i64 (p0.gSerial)),.one (.int .i64 (p0.gRides)),.one (.int .i64 (p0.gPrice)),.ints .u8 32 (p0.gAnchor),.ints .u8 64 (p0.gSig)]].toArray W (Z7t W [] (fun v Ms=>∃ (u0:Value) (M0:List Ze),v=u0/\Ms = [.all M0]/\Z0b (El.int .u8) u0 M0 r)) :=
 Ze9 (L:=Zgx) ok99 Z0pj ok97 ok98 Zu1 (by decide) (by kernel_rfl) h
abbrev Zk6:Z0d->List Seg:=fun x=>[.one (.int .i64 (x.gCert.gSerial)),.one (.int .i64 (x.gCert.gRides)),.one (.int .i64 (x.gCert.gPrice)),.ints .u8 32 (x.gCert.gAnchor),.ints .u8 64 (x.gCert.gSig),.ints .u8 64 (x.gSig)]
theorem Z0og:okF Tryz.prog 135 (dAt [0] 6)=true:=by kernel_rfl
theorem Z0me:Z6p Tryz.prog 135=true:=by kernel_rfl
theorem Z0kr:AtF 135 0:=Zou Z0og Z0me rfl
theorem Z0of:okF Tryz.prog 134 (dInn 42 232 190 237 248 249 250)=true:=by kernel_rfl
theorem Z0qd:okF Tryz.prog 248 (Z01x)=true:=by kernel_rfl
theorem Z0my:Z6p Tryz.prog 248=true:=by kernel_rfl
theorem Z0qe:okF Tryz.prog 250 (Z01w)=true:=by kernel_rfl
theorem Z0mz:Z6p Tryz.prog 250=true:=by kernel_rfl
theorem Z0oi:okF Tryz.prog 137 (dSl 99 64)=true:=by kernel_rfl
theorem Z0mf:Z6p Tryz.prog 137=true:=by kernel_rfl
theorem Z0ks:SlF 137 99 64:=slF Z0oi Z0mf (by decide)
theorem Z0oh:okF Tryz.prog 136 (dLst 239 237 251 252 253)=true:=by kernel_rfl
theorem Z0qf:okF Tryz.prog 251 (Zpx)=true:=by kernel_rfl
theorem Z0n0:Z6p Tryz.prog 251=true:=by kernel_rfl
theorem Z0qg:okF Tryz.prog 253 (dAny)=true:=by kernel_rfl
theorem Z0n1:Z6p Tryz.prog 253=true:=by kernel_rfl
def d73:FnD:=⟨6,[.cell 0 2 true],.seq (.ops [oj 0 (.al 158 [.one (.int .i64 0),.one (.slice none 0 0)])]) (.seq (.ops [oj 1 (.call 134 [.func 135]),oj 2 (.call 136 [.func 137,.const (.bool false)]),oj 3 (.bs 237 1 4 (zFs 1) [(0,4,2)]),oj 4 (.app 237 4 32 zF 1 3),oj 5 (.bd [.one (.int .i64 0),.one (.slice none 0 0)] [(0,1,ci 4),(1,1,4)]),on_ (.st 2 0 5)]) .ret)⟩
theorem ok73:okF Tryz.prog 73 (d73)=true:=by kernel_rfl
def Zgf:List (Zb8 Z0d):=(F_Cert.map (fInn (fun x:Z0d=>x.gCert))) ++ [Zxl (fun x:Z0d=>x.gSig) 64 false]
theorem Zu2 (W:World):Calls Tryz.prog 73 #[] W (Z7t W [] (RC Zk6 4 Zgf)):=by
 refine Zv (args:=[]) mo ok73 rfl (Zg4 _) ?_
 refine Z0<|Z1<|Zc (Zs fun b0 _=>Z2<|Z0<|Z1 <| ?_)
 refine Zc (Zh rfl (fun w hw=>Zuq (L:=Zk6) (Lc:=Zgx) (inn:=fun x:Z0d=>x.gCert) (rest:=fun x=>[.ints .u8 64 (x.gSig)]) Z0of Z0qd Z0qe Z0my Z0mz Z0kr (fun _=>rfl) Zu1 (by decide) w) fun v1 Ms1 R1=>?_)
 obtain ⟨M1,B1,xs1,rfl,O1,H1⟩:=R1
 refine Zc (Zh rfl (fun w hw=>Zc2 (L:=Zk6) (get:=fun x:Z0d=>x.gSig) Z0oh Z0qf Z0qg Z0n0 Z0n1 Z0ks (fun _=>rfl)) fun v2 Ms2 R2=>?_)
 obtain ⟨x2,M2,rfl,rfl,H2⟩:=R2
 refine Zc (Z5b (E:=E4) (xs:=[x2]) (.agg (p:=Z0n x2) (z':=Z0n x2++([])) rfl rfl (by kernel_rfl) BdR.nil) (.cons (p:=Z0n x2) rfl .nil) rfl fun u3 S3 O3=>?_)
 refine Zc (Zbd (E:=E4) (xs':=xs1 ++ [x2]) rfl rfl O1 (.app (.app .here)) rfl (Z0f O3 .here) (by rw [H1.len]; rfl) fun u4 S4 O4=>?_)
 refine Z4 _ (Ze2 (q:=[.one (.int .i64 4),.one u4]) (.one rfl rfl rfl (.one rfl (Z97.cells (Z0b.isSl O4)) rfl BdR.nil))) <| ?_
 refine Zc (Zd3 (q:=[.one (.int .i64 4),.one u4]) rfl rfl rfl rfl (Z0r (Z3l rfl) (Z0r (Z3l (Z97.one1 (Z0b.isSl O4))) Z43)) (.app (.app (.app (.app .here))))<|Z2<|Zd ?_)
 refine ⟨_,_,.cons (.agg rfl (.app (.app (.app (.app .here)))) rfl) .nil,.all .here Zgp,⟨_,rfl,u4,S4,(S3++(M2++(B1++(ck b0 158 [.one (.int .i64 4),.one u4] :: [])))),_,rfl,rfl,O4,?_⟩⟩
 exact (H1.mono (by intro k hk; simp [hk])).app (.cons (H2.mono (by intro k hk; simp only [List.mem_append,List.mem_cons,List.not_mem_nil,or_false] at hk ⊢; first | (rcases hk with hk | hk <;> simp [hk]) | simp [hk])) .nil)
theorem Z0fa:okF Tryz.prog 138 (Zxk 158 237)=true:=by kernel_rfl
theorem Z0fb:okF Tryz.prog 139 (Zxj 158 237)=true:=by kernel_rfl
theorem ok74:okF Tryz.prog 74 (dEnc 158 31 138 139)=true:=by kernel_rfl
theorem ok33:okF Tryz.prog 33 (Zr4 31 163 73 74)=true:=by kernel_rfl
def Z7s (p0:Z0d):Option ((LI)×Int):=Zcw Zgf 4 p0
theorem Zav {W:World} {r:(LI)×Int} {p0:Z0d} (h:Z7s p0=some r) :
  Calls Tryz.prog 33 [agg [.one (.int .i64 (p0.gCert.gSerial)),.one (.int .i64 (p0.gCert.gRides)),.one (.int .i64 (p0.gCert.gPrice)),.ints .u8 32 (p0.gCert.gAnchor),.ints .u8 64 (p0.gCert.gSig),.ints .u8 64 (p0.gSig)]].toArray W (Z7t W [] (fun v Ms=>∃ (u0:Value) (M0:List Ze),v = .tuple #[u0,.int .i64 (r.2)]/\Ms = [.all M0]/\Z0b (El.int .u8) u0 M0 r.1)) :=
 Zdx (L:=Zk6) ok33 ok74 Z0fa Z0fb Zu2 (by decide) (by kernel_rfl) h
theorem Z0pm:okF Tryz.prog 206 (dSay 158 31 138 139)=true:=by kernel_rfl
theorem Z0nm:okF Tryz.prog 103 (Zr6 31 163 73 206)=true:=by kernel_rfl
def Z53 (p0:Z0d):Option (LI):=Z9f Zgf 4 p0
theorem Zd7 {W:World} {r:LI} {p0:Z0d} (h:Z53 p0=some r) :
  Calls Tryz.prog 103 [agg [.one (.int .i64 (p0.gCert.gSerial)),.one (.int .i64 (p0.gCert.gRides)),.one (.int .i64 (p0.gCert.gPrice)),.ints .u8 32 (p0.gCert.gAnchor),.ints .u8 64 (p0.gCert.gSig),.ints .u8 64 (p0.gSig)]].toArray W (Z7t W [] (fun v Ms=>∃ (u0:Value) (M0:List Ze),v=u0/\Ms = [.all M0]/\Z0b (El.int .u8) u0 M0 r)) :=
 Ze9 (L:=Zk6) Z0nm Z0pm Z0fa Z0fb Zu2 (by decide) (by kernel_rfl) h
abbrev Zn0:Z19->List Seg:=fun x=>[.one (.int .i64 (x.gSerial)),.one (.int .i64 (x.gGate)),.one (.int .i64 (x.gIndex)),.ints .u8 32 (x.gValue),.ints .u8 64 (x.gSig)]
theorem Z07o:okF Tryz.prog 142 (dLim 3 257)=true:=by kernel_rfl
theorem Z07r:okF Tryz.prog 257 (Zt1)=true:=by kernel_rfl
theorem Z07i:Z6p Tryz.prog 257=true:=by kernel_rfl
theorem Z0oj:okF Tryz.prog 141 (dAt [0] 6)=true:=by kernel_rfl
theorem Z0mg:Z6p Tryz.prog 141=true:=by kernel_rfl
theorem Z0kt:AtF 141 0:=Zou Z0oj Z0mg rfl
theorem Z07n:okF Tryz.prog 140 (dNum 248 3 249 246 254 255 256)=true:=by kernel_rfl
theorem Z07p:okF Tryz.prog 254 (Zn8 185 .u32)=true:=by kernel_rfl
theorem Z07g:Z6p Tryz.prog 254=true:=by kernel_rfl
theorem Z07q:okF Tryz.prog 256 (Zt2)=true:=by kernel_rfl
theorem Z07h:Z6p Tryz.prog 256=true:=by kernel_rfl
theorem Z0ok:okF Tryz.prog 143 (dAt [1] 6)=true:=by kernel_rfl
theorem Z0mh:Z6p Tryz.prog 143=true:=by kernel_rfl
theorem Z0ku:AtF 143 1:=Zou Z0ok Z0mh rfl
theorem Z0ol:okF Tryz.prog 144 (dAt [2] 6)=true:=by kernel_rfl
theorem Z0mi:Z6p Tryz.prog 144=true:=by kernel_rfl
theorem Z0kv:AtF 144 2:=Zou Z0ol Z0mi rfl
theorem Z0om:okF Tryz.prog 146 (dSl 3 32)=true:=by kernel_rfl
theorem Z0mj:Z6p Tryz.prog 146=true:=by kernel_rfl
theorem Z0kw:SlF 146 3 32:=slF Z0om Z0mj (by decide)
theorem Z0fc:okF Tryz.prog 145 (dLst 252 246 258 259 260)=true:=by kernel_rfl
theorem Z0fv:okF Tryz.prog 258 (Zpx)=true:=by kernel_rfl
theorem Z0f3:Z6p Tryz.prog 258=true:=by kernel_rfl
theorem Z0fw:okF Tryz.prog 260 (dAny)=true:=by kernel_rfl
theorem Z0f4:Z6p Tryz.prog 260=true:=by kernel_rfl
theorem Z0on:okF Tryz.prog 147 (dSl 35 64)=true:=by kernel_rfl
theorem Z0mk:Z6p Tryz.prog 147=true:=by kernel_rfl
theorem Z0kx:SlF 147 35 64:=slF Z0on Z0mk (by decide)
def d75:FnD:=⟨11,[.cell 0 2 true],.seq (.ops [oj 0 (.al 162 [.one (.int .i64 0),.one (.slice none 0 0)])]) (.seq (.ops [oj 1 (.call 142 [ci (65535)]),oj 2 (.call 140 [.func 141,ci (1),1]),oj 3 (.call 142 [ci (16)]),oj 4 (.call 140 [.func 143,ci (1),3]),oj 5 (.call 142 [ci (4096)]),oj 6 (.call 140 [.func 144,ci (0),5]),oj 7 (.call 145 [.func 146,.const (.bool true)]),oj 8 (.call 145 [.func 147,.const (.bool false)]),oj 9 (.bs 246 5 4 (zFs 5) [(0,4,2),(4,4,4),(8,4,6),(12,4,7),(16,4,8)]),oj 10 (.bd [.one (.int .i64 0),.one (.slice none 0 0)] [(0,1,ci 5),(1,1,9)]),on_ (.st 2 0 10)]) .ret)⟩
theorem ok75:okF Tryz.prog 75 (d75)=true:=by kernel_rfl
def Zof:List (Zb8 Z19):=[Zyj (fun x:Z19=>x.gSerial) (1) (fun _=>65535),Zyj (fun x:Z19=>x.gGate) (1) (fun _=>16),Zyj (fun x:Z19=>x.gIndex) (0) (fun _=>4096),Zxl (fun x:Z19=>x.gValue) 32 true,Zxl (fun x:Z19=>x.gSig) 64 false]
theorem Z0a4 (W:World):Calls Tryz.prog 75 #[] W (Z7t W [] (RC Zn0 5 Zof)):=by
 refine Zv (args:=[]) mo ok75 rfl (Zg4 _) ?_
 refine Z0<|Z1<|Zc (Zs fun b0 _=>Z2<|Z0<|Z1 <| ?_)
 refine Zc (Zh rfl (fun w hw=>Zd9 (L:=Zn0) Z07o Z07r Z07i) fun v1 Ms1 R1=>?_)
 obtain ⟨c1,M1,rfl,rfl,H1⟩:=R1
 refine Zc (Zh rfl (fun w hw=>Zda (L:=Zn0) (get:=fun x:Z19=>x.gSerial) Z07n Z07p Z07q Z07g Z07h Z0kt (fun _=>rfl) H1) fun v2 Ms2 R2=>?_)
 obtain ⟨x2,M2,rfl,rfl,H2⟩:=R2
 refine Zc (Zh rfl (fun w hw=>Zd9 (L:=Zn0) Z07o Z07r Z07i) fun v3 Ms3 R3=>?_)
 obtain ⟨c3,M3,rfl,rfl,H3⟩:=R3
 refine Zc (Zh rfl (fun w hw=>Zda (L:=Zn0) (get:=fun x:Z19=>x.gGate) Z07n Z07p Z07q Z07g Z07h Z0ku (fun _=>rfl) H3) fun v4 Ms4 R4=>?_)
 obtain ⟨x4,M4,rfl,rfl,H4⟩:=R4
 refine Zc (Zh rfl (fun w hw=>Zd9 (L:=Zn0) Z07o Z07r Z07i) fun v5 Ms5 R5=>?_)
 obtain ⟨c5,M5,rfl,rfl,H5⟩:=R5
 refine Zc (Zh rfl (fun w hw=>Zda (L:=Zn0) (get:=fun x:Z19=>x.gIndex) Z07n Z07p Z07q Z07g Z07h Z0kv (fun _=>rfl) H5) fun v6 Ms6 R6=>?_)
 obtain ⟨x6,M6,rfl,rfl,H6⟩:=R6
 refine Zc (Zh rfl (fun w hw=>Zc2 (L:=Zn0) (get:=fun x:Z19=>x.gValue) Z0fc Z0fv Z0fw Z0f3 Z0f4 Z0kw (fun _=>rfl)) fun v7 Ms7 R7=>?_)
 obtain ⟨x7,M7,rfl,rfl,H7⟩:=R7
 refine Zc (Zh rfl (fun w hw=>Zc2 (L:=Zn0) (get:=fun x:Z19=>x.gSig) Z0fc Z0fv Z0fw Z0f3 Z0f4 Z0kx (fun _=>rfl)) fun v8 Ms8 R8=>?_)
 obtain ⟨x8,M8,rfl,rfl,H8⟩:=R8
 refine Zc (Z5b (E:=E4) (xs:=[x2,x4,x6,x7,x8]) (.agg (p:=Z0n x2) (z':=Z0n x2++(zFs 4)) rfl rfl (by kernel_rfl) (.agg (p:=Z0n x4) (z':=Z0n x2++(Z0n x4++(zFs 3))) rfl rfl (by kernel_rfl) (.agg (p:=Z0n x6) (z':=Z0n x2++(Z0n x4++(Z0n x6++(zFs 2)))) rfl rfl (by kernel_rfl) (.agg (p:=Z0n x7) (z':=Z0n x2++(Z0n x4++(Z0n x6++(Z0n x7++(zFs 1))))) rfl rfl (by kernel_rfl) (.agg (p:=Z0n x8) (z':=Z0n x2++(Z0n x4++(Z0n x6++(Z0n x7++(Z0n x8++([])))))) rfl rfl (by kernel_rfl) BdR.nil))))) (.cons (p:=Z0n x2) rfl (.cons (p:=Z0n x4) rfl (.cons (p:=Z0n x6) rfl (.cons (p:=Z0n x7) rfl (.cons (p:=Z0n x8) rfl .nil))))) rfl fun u9 S9 O9=>?_)
 refine Z4 _ (Ze2 (q:=[.one (.int .i64 5),.one u9]) (.one rfl rfl rfl (.one rfl (Z97.cells (Z0b.isSl O9)) rfl BdR.nil))) <| ?_
 refine Zc (Zd3 (q:=[.one (.int .i64 5),.one u9]) rfl rfl rfl rfl (Z0r (Z3l rfl) (Z0r (Z3l (Z97.one1 (Z0b.isSl O9))) Z43)) (.app (.app (.app (.app (.app (.app (.app (.app (.app .here)))))))))<|Z2<|Zd ?_)
 refine ⟨_,_,.cons (.agg rfl (.app (.app (.app (.app (.app (.app (.app (.app (.app .here))))))))) rfl) .nil,.all .here Zgp,⟨_,rfl,u9,S9,(M8++(M7++(M6++(M5++(M4++(M3++(M2++(M1++(ck b0 162 [.one (.int .i64 5),.one u9] :: []))))))))),_,rfl,rfl,O9,?_⟩⟩
 exact (.cons (H2.mono (by intro k hk; simp only [List.mem_append,List.mem_cons,List.not_mem_nil,or_false] at hk ⊢; first | (rcases hk with hk | hk <;> simp [hk]) | simp [hk])) (.cons (H4.mono (by intro k hk; simp only [List.mem_append,List.mem_cons,List.not_mem_nil,or_false] at hk ⊢; first | (rcases hk with hk | hk <;> simp [hk]) | simp [hk])) (.cons (H6.mono (by intro k hk; simp only [List.mem_append,List.mem_cons,List.not_mem_nil,or_false] at hk ⊢; first | (rcases hk with hk | hk <;> simp [hk]) | simp [hk])) (.cons (H7.mono (by intro k hk; simp only [List.mem_append,List.mem_cons,List.not_mem_nil,or_false] at hk ⊢; first | (rcases hk with hk | hk <;> simp [hk]) | simp [hk])) (.cons (H8.mono (by intro k hk; simp only [List.mem_append,List.mem_cons,List.not_mem_nil,or_false] at hk ⊢; first | (rcases hk with hk | hk <;> simp [hk]) | simp [hk])) .nil)))))
theorem Z0fd:okF Tryz.prog 148 (Zxk 162 246)=true:=by kernel_rfl
theorem Z0fe:okF Tryz.prog 149 (Zxj 162 246)=true:=by kernel_rfl
theorem ok76:okF Tryz.prog 76 (dEnc 162 33 148 149)=true:=by kernel_rfl
theorem ok34:okF Tryz.prog 34 (Zr4 33 99 75 76)=true:=by kernel_rfl
def Zau (p0:Z19):Option ((LI)×Int):=Zcw Zof 5 p0
theorem Zd6 {W:World} {r:(LI)×Int} {p0:Z19} (h:Zau p0=some r) :
  Calls Tryz.prog 34 [agg [.one (.int .i64 (p0.gSerial)),.one (.int .i64 (p0.gGate)),.one (.int .i64 (p0.gIndex)),.ints .u8 32 (p0.gValue),.ints .u8 64 (p0.gSig)]].toArray W (Z7t W [] (fun v Ms=>∃ (u0:Value) (M0:List Ze),v = .tuple #[u0,.int .i64 (r.2)]/\Ms = [.all M0]/\Z0b (El.int .u8) u0 M0 r.1)) :=
 Zdx (L:=Zn0) ok34 ok76 Z0fd Z0fe Z0a4 (by decide) (by kernel_rfl) h
theorem Z0qa:okF Tryz.prog 245 (dSay 162 33 148 149)=true:=by kernel_rfl
theorem Z0o6:okF Tryz.prog 125 (Zr6 33 99 75 245)=true:=by kernel_rfl
def Za0 (p0:Z19):Option (LI):=Z9f Zof 5 p0
theorem Zgd {W:World} {r:LI} {p0:Z19} (h:Za0 p0=some r) :
  Calls Tryz.prog 125 [agg [.one (.int .i64 (p0.gSerial)),.one (.int .i64 (p0.gGate)),.one (.int .i64 (p0.gIndex)),.ints .u8 32 (p0.gValue),.ints .u8 64 (p0.gSig)]].toArray W (Z7t W [] (fun v Ms=>∃ (u0:Value) (M0:List Ze),v=u0/\Ms = [.all M0]/\Z0b (El.int .u8) u0 M0 r)) :=
 Ze9 (L:=Zn0) Z0o6 Z0qa Z0fd Z0fe Z0a4 (by decide) (by kernel_rfl) h
abbrev Zc5:Zk->List Seg:=fun x=>[.one (.int .i64 (x.gCert.gSerial)),.one (.int .i64 (x.gCert.gRides)),.one (.int .i64 (x.gCert.gPrice)),.ints .u8 32 (x.gCert.gAnchor),.ints .u8 64 (x.gCert.gSig),.ints .u8 64 (x.gSig)]
theorem Z0op:okF Tryz.prog 151 (dAt [0] 6)=true:=by kernel_rfl
theorem Z0ml:Z6p Tryz.prog 151=true:=by kernel_rfl
theorem Z0ky:AtF 151 0:=Zou Z0op Z0ml rfl
theorem Z0oo:okF Tryz.prog 150 (dInn 42 256 190 261 261 262 263)=true:=by kernel_rfl
theorem Z0qh:okF Tryz.prog 261 (Z01x)=true:=by kernel_rfl
theorem Z0n2:Z6p Tryz.prog 261=true:=by kernel_rfl
theorem Z0qi:okF Tryz.prog 263 (Z01w)=true:=by kernel_rfl
theorem Z0n3:Z6p Tryz.prog 263=true:=by kernel_rfl
theorem Z0or:okF Tryz.prog 153 (dSl 99 64)=true:=by kernel_rfl
theorem Z0mm:Z6p Tryz.prog 153=true:=by kernel_rfl
theorem Z0kz:SlF 153 99 64:=slF Z0or Z0mm (by decide)
theorem Z0oq:okF Tryz.prog 152 (dLst 263 261 264 265 266)=true:=by kernel_rfl
theorem Z0qj:okF Tryz.prog 264 (Zpx)=true:=by kernel_rfl
theorem Z0n4:Z6p Tryz.prog 264=true:=by kernel_rfl
theorem Z0qk:okF Tryz.prog 266 (dAny)=true:=by kernel_rfl
theorem Z0n5:Z6p Tryz.prog 266=true:=by kernel_rfl
def d77:FnD:=⟨6,[.cell 0 2 true],.seq (.ops [oj 0 (.al 166 [.one (.int .i64 0),.one (.slice none 0 0)])]) (.seq (.ops [oj 1 (.call 150 [.func 151]),oj 2 (.call 152 [.func 153,.const (.bool false)]),oj 3 (.bs 261 1 4 (zFs 1) [(0,4,2)]),oj 4 (.app 261 4 32 zF 1 3),oj 5 (.bd [.one (.int .i64 0),.one (.slice none 0 0)] [(0,1,ci 6),(1,1,4)]),on_ (.st 2 0 5)]) .ret)⟩
theorem ok77:okF Tryz.prog 77 (d77)=true:=by kernel_rfl
def Z7u:List (Zb8 Zk):=(F_Cert.map (fInn (fun x:Zk=>x.gCert))) ++ [Zxl (fun x:Zk=>x.gSig) 64 false]
theorem Zls (W:World):Calls Tryz.prog 77 #[] W (Z7t W [] (RC Zc5 6 Z7u)):=by
 refine Zv (args:=[]) mo ok77 rfl (Zg4 _) ?_
 refine Z0<|Z1<|Zc (Zs fun b0 _=>Z2<|Z0<|Z1 <| ?_)
 refine Zc (Zh rfl (fun w hw=>Zuq (L:=Zc5) (Lc:=Zgx) (inn:=fun x:Zk=>x.gCert) (rest:=fun x=>[.ints .u8 64 (x.gSig)]) Z0oo Z0qh Z0qi Z0n2 Z0n3 Z0ky (fun _=>rfl) Zu1 (by decide) w) fun v1 Ms1 R1=>?_)
 obtain ⟨M1,B1,xs1,rfl,O1,H1⟩:=R1
 refine Zc (Zh rfl (fun w hw=>Zc2 (L:=Zc5) (get:=fun x:Zk=>x.gSig) Z0oq Z0qj Z0qk Z0n4 Z0n5 Z0kz (fun _=>rfl)) fun v2 Ms2 R2=>?_)
 obtain ⟨x2,M2,rfl,rfl,H2⟩:=R2
 refine Zc (Z5b (E:=E4) (xs:=[x2]) (.agg (p:=Z0n x2) (z':=Z0n x2++([])) rfl rfl (by kernel_rfl) BdR.nil) (.cons (p:=Z0n x2) rfl .nil) rfl fun u3 S3 O3=>?_)
 refine Zc (Zbd (E:=E4) (xs':=xs1 ++ [x2]) rfl rfl O1 (.app (.app .here)) rfl (Z0f O3 .here) (by rw [H1.len]; rfl) fun u4 S4 O4=>?_)
 refine Z4 _ (Ze2 (q:=[.one (.int .i64 6),.one u4]) (.one rfl rfl rfl (.one rfl (Z97.cells (Z0b.isSl O4)) rfl BdR.nil))) <| ?_
 refine Zc (Zd3 (q:=[.one (.int .i64 6),.one u4]) rfl rfl rfl rfl (Z0r (Z3l rfl) (Z0r (Z3l (Z97.one1 (Z0b.isSl O4))) Z43)) (.app (.app (.app (.app .here))))<|Z2<|Zd ?_)
 refine ⟨_,_,.cons (.agg rfl (.app (.app (.app (.app .here)))) rfl) .nil,.all .here Zgp,⟨_,rfl,u4,S4,(S3++(M2++(B1++(ck b0 166 [.one (.int .i64 6),.one u4] :: [])))),_,rfl,rfl,O4,?_⟩⟩
 exact (H1.mono (by intro k hk; simp [hk])).app (.cons (H2.mono (by intro k hk; simp only [List.mem_append,List.mem_cons,List.not_mem_nil,or_false] at hk ⊢; first | (rcases hk with hk | hk <;> simp [hk]) | simp [hk])) .nil)
theorem Z0ff:okF Tryz.prog 154 (Zxk 166 261)=true:=by kernel_rfl
theorem Z0fg:okF Tryz.prog 155 (Zxj 166 261)=true:=by kernel_rfl
theorem ok78:okF Tryz.prog 78 (dEnc 166 34 154 155)=true:=by kernel_rfl
theorem ok35:okF Tryz.prog 35 (Zr4 34 163 77 78)=true:=by kernel_rfl
def Z5a (p0:Zk):Option ((LI)×Int):=Zcw Z7u 6 p0
theorem Z8k {W:World} {r:(LI)×Int} {p0:Zk} (h:Z5a p0=some r) :
  Calls Tryz.prog 35 [agg [.one (.int .i64 (p0.gCert.gSerial)),.one (.int .i64 (p0.gCert.gRides)),.one (.int .i64 (p0.gCert.gPrice)),.ints .u8 32 (p0.gCert.gAnchor),.ints .u8 64 (p0.gCert.gSig),.ints .u8 64 (p0.gSig)]].toArray W (Z7t W [] (fun v Ms=>∃ (u0:Value) (M0:List Ze),v = .tuple #[u0,.int .i64 (r.2)]/\Ms = [.all M0]/\Z0b (El.int .u8) u0 M0 r.1)) :=
 Zdx (L:=Zc5) ok35 ok78 Z0ff Z0fg Zls (by decide) (by kernel_rfl) h
theorem Z0pn:okF Tryz.prog 207 (dSay 166 34 154 155)=true:=by kernel_rfl
theorem Z0np:okF Tryz.prog 106 (Zr6 34 163 77 207)=true:=by kernel_rfl
def Z2t (p0:Zk):Option (LI):=Z9f Z7u 6 p0
theorem Za1 {W:World} {r:LI} {p0:Zk} (h:Z2t p0=some r) :
  Calls Tryz.prog 106 [agg [.one (.int .i64 (p0.gCert.gSerial)),.one (.int .i64 (p0.gCert.gRides)),.one (.int .i64 (p0.gCert.gPrice)),.ints .u8 32 (p0.gCert.gAnchor),.ints .u8 64 (p0.gCert.gSig),.ints .u8 64 (p0.gSig)]].toArray W (Z7t W [] (fun v Ms=>∃ (u0:Value) (M0:List Ze),v=u0/\Ms = [.all M0]/\Z0b (El.int .u8) u0 M0 r)) :=
 Ze9 (L:=Zc5) Z0np Z0pn Z0ff Z0fg Zls (by decide) (by kernel_rfl) h
abbrev Zl1:Z0c->List Seg:=fun x=>[.one (.int .i64 (x.gFloor)),.ints .u8 64 (x.gSig)]
theorem Z0ou:okF Tryz.prog 158 (dLim 3 270)=true:=by kernel_rfl
theorem Z0qn:okF Tryz.prog 270 (Zt1)=true:=by kernel_rfl
theorem Z0n8:Z6p Tryz.prog 270=true:=by kernel_rfl
theorem Z0ot:okF Tryz.prog 157 (dAt [0] 6)=true:=by kernel_rfl
theorem Z0mn:Z6p Tryz.prog 157=true:=by kernel_rfl
theorem Z0l0:AtF 157 0:=Zou Z0ot Z0mn rfl
theorem Z0os:okF Tryz.prog 156 (dNum 272 3 273 270 267 268 269)=true:=by kernel_rfl
theorem Z0ql:okF Tryz.prog 267 (Zn8 185 .u32)=true:=by kernel_rfl
theorem Z0n6:Z6p Tryz.prog 267=true:=by kernel_rfl
theorem Z0qm:okF Tryz.prog 269 (Zt2)=true:=by kernel_rfl
theorem Z0n7:Z6p Tryz.prog 269=true:=by kernel_rfl
theorem Z0ow:okF Tryz.prog 160 (dSl 1 64)=true:=by kernel_rfl
theorem Z0mo:Z6p Tryz.prog 160=true:=by kernel_rfl
theorem Z0l1:SlF 160 1 64:=slF Z0ow Z0mo (by decide)
theorem Z0ov:okF Tryz.prog 159 (dLst 276 270 271 272 273)=true:=by kernel_rfl
theorem Z0qo:okF Tryz.prog 271 (Zpx)=true:=by kernel_rfl
theorem Z0n9:Z6p Tryz.prog 271=true:=by kernel_rfl
theorem Z0qp:okF Tryz.prog 273 (dAny)=true:=by kernel_rfl
theorem Z0na:Z6p Tryz.prog 273=true:=by kernel_rfl
def d79:FnD:=⟨6,[.cell 0 2 true],.seq (.ops [oj 0 (.al 170 [.one (.int .i64 0),.one (.slice none 0 0)])]) (.seq (.ops [oj 1 (.call 158 [ci (65536)]),oj 2 (.call 156 [.func 157,ci (1),1]),oj 3 (.call 159 [.func 160,.const (.bool false)]),oj 4 (.bs 270 2 4 (zFs 2) [(0,4,2),(4,4,3)]),oj 5 (.bd [.one (.int .i64 0),.one (.slice none 0 0)] [(0,1,ci 7),(1,1,4)]),on_ (.st 2 0 5)]) .ret)⟩
theorem ok79:okF Tryz.prog 79 (d79)=true:=by kernel_rfl
def Zf0:List (Zb8 Z0c):=[Zyj (fun x:Z0c=>x.gFloor) (1) (fun _=>65536),Zxl (fun x:Z0c=>x.gSig) 64 false]
theorem Zxp (W:World):Calls Tryz.prog 79 #[] W (Z7t W [] (RC Zl1 7 Zf0)):=by
 refine Zv (args:=[]) mo ok79 rfl (Zg4 _) ?_
 refine Z0<|Z1<|Zc (Zs fun b0 _=>Z2<|Z0<|Z1 <| ?_)
 refine Zc (Zh rfl (fun w hw=>Zd9 (L:=Zl1) Z0ou Z0qn Z0n8) fun v1 Ms1 R1=>?_)
 obtain ⟨c1,M1,rfl,rfl,H1⟩:=R1
 refine Zc (Zh rfl (fun w hw=>Zda (L:=Zl1) (get:=fun x:Z0c=>x.gFloor) Z0os Z0ql Z0qm Z0n6 Z0n7 Z0l0 (fun _=>rfl) H1) fun v2 Ms2 R2=>?_)
 obtain ⟨x2,M2,rfl,rfl,H2⟩:=R2
 refine Zc (Zh rfl (fun w hw=>Zc2 (L:=Zl1) (get:=fun x:Z0c=>x.gSig) Z0ov Z0qo Z0qp Z0n9 Z0na Z0l1 (fun _=>rfl)) fun v3 Ms3 R3=>?_)
 obtain ⟨x3,M3,rfl,rfl,H3⟩:=R3
 refine Zc (Z5b (E:=E4) (xs:=[x2,x3]) (.agg (p:=Z0n x2) (z':=Z0n x2++(zFs 1)) rfl rfl (by kernel_rfl) (.agg (p:=Z0n x3) (z':=Z0n x2++(Z0n x3++([]))) rfl rfl (by kernel_rfl) BdR.nil)) (.cons (p:=Z0n x2) rfl (.cons (p:=Z0n x3) rfl .nil)) rfl fun u4 S4 O4=>?_)
 refine Z4 _ (Ze2 (q:=[.one (.int .i64 7),.one u4]) (.one rfl rfl rfl (.one rfl (Z97.cells (Z0b.isSl O4)) rfl BdR.nil))) <| ?_
 refine Zc (Zd3 (q:=[.one (.int .i64 7),.one u4]) rfl rfl rfl rfl (Z0r (Z3l rfl) (Z0r (Z3l (Z97.one1 (Z0b.isSl O4))) Z43)) (.app (.app (.app (.app .here))))<|Z2<|Zd ?_)
 refine ⟨_,_,.cons (.agg rfl (.app (.app (.app (.app .here)))) rfl) .nil,.all .here Zgp,⟨_,rfl,u4,S4,(M3++(M2++(M1++(ck b0 170 [.one (.int .i64 7),.one u4] :: [])))),_,rfl,rfl,O4,?_⟩⟩
 exact (.cons (H2.mono (by intro k hk; simp only [List.mem_append,List.mem_cons,List.not_mem_nil,or_false] at hk ⊢; first | (rcases hk with hk | hk <;> simp [hk]) | simp [hk])) (.cons (H3.mono (by intro k hk; simp only [List.mem_append,List.mem_cons,List.not_mem_nil,or_false] at hk ⊢; first | (rcases hk with hk | hk <;> simp [hk]) | simp [hk])) .nil))
theorem Z0fh:okF Tryz.prog 161 (Zxk 170 270)=true:=by kernel_rfl
theorem Z0fi:okF Tryz.prog 162 (Zxj 170 270)=true:=by kernel_rfl
theorem ok80:okF Tryz.prog 80 (dEnc 170 36 161 162)=true:=by kernel_rfl
theorem ok36:okF Tryz.prog 36 (Zr4 36 65 79 80)=true:=by kernel_rfl
def Z8q (p0:Z0c):Option ((LI)×Int):=Zcw Zf0 7 p0
theorem Zb6 {W:World} {r:(LI)×Int} {p0:Z0c} (h:Z8q p0=some r) :
  Calls Tryz.prog 36 [agg [.one (.int .i64 (p0.gFloor)),.ints .u8 64 (p0.gSig)]].toArray W (Z7t W [] (fun v Ms=>∃ (u0:Value) (M0:List Ze),v = .tuple #[u0,.int .i64 (r.2)]/\Ms = [.all M0]/\Z0b (El.int .u8) u0 M0 r.1)) :=
 Zdx (L:=Zl1) ok36 ok80 Z0fh Z0fi Zxp (by decide) (by kernel_rfl) h
theorem Z0q3:okF Tryz.prog 238 (dSay 170 36 161 162)=true:=by kernel_rfl
theorem Z0o0:okF Tryz.prog 119 (Zr6 36 65 79 238)=true:=by kernel_rfl
def Z66 (p0:Z0c):Option (LI):=Z9f Zf0 7 p0
theorem Zej {W:World} {r:LI} {p0:Z0c} (h:Z66 p0=some r) :
  Calls Tryz.prog 119 [agg [.one (.int .i64 (p0.gFloor)),.ints .u8 64 (p0.gSig)]].toArray W (Z7t W [] (fun v Ms=>∃ (u0:Value) (M0:List Ze),v=u0/\Ms = [.all M0]/\Z0b (El.int .u8) u0 M0 r)) :=
 Ze9 (L:=Zl1) Z0o0 Z0q3 Z0fh Z0fi Zxp (by decide) (by kernel_rfl) h
abbrev Za5:Z02->List Seg:=fun x=>[.one (.int .i64 (x.gSerial)),.one (.int .i64 (x.gRides)),.one (.int .i64 (x.gAmount)),.ints .u8 64 (x.gSig)]
theorem Z0fk:okF Tryz.prog 165 (dLim 3 277)=true:=by kernel_rfl
theorem Z0fz:okF Tryz.prog 277 (Zt1)=true:=by kernel_rfl
theorem Z0f7:Z6p Tryz.prog 277=true:=by kernel_rfl
theorem Z0ox:okF Tryz.prog 164 (dAt [0] 6)=true:=by kernel_rfl
theorem Z0mp:Z6p Tryz.prog 164=true:=by kernel_rfl
theorem Z0l2:AtF 164 0:=Zou Z0ox Z0mp rfl
theorem Z0fj:okF Tryz.prog 163 (dNum 285 3 286 283 274 275 276)=true:=by kernel_rfl
theorem Z0fx:okF Tryz.prog 274 (Zn8 185 .u32)=true:=by kernel_rfl
theorem Z0f5:Z6p Tryz.prog 274=true:=by kernel_rfl
theorem Z0fy:okF Tryz.prog 276 (Zt2)=true:=by kernel_rfl
theorem Z0f6:Z6p Tryz.prog 276=true:=by kernel_rfl
theorem Z0oy:okF Tryz.prog 166 (dAt [1] 6)=true:=by kernel_rfl
theorem Z0mq:Z6p Tryz.prog 166=true:=by kernel_rfl
theorem Z0l3:AtF 166 1:=Zou Z0oy Z0mq rfl
theorem Z0p0:okF Tryz.prog 168 (dAt [2] 6)=true:=by kernel_rfl
theorem Z0mr:Z6p Tryz.prog 168=true:=by kernel_rfl
theorem Z0l4:AtF 168 2:=Zou Z0p0 Z0mr rfl
theorem Z0oz:okF Tryz.prog 167 (dMon 289 2 283 278 279 280)=true:=by kernel_rfl
theorem Z0qq:okF Tryz.prog 278 (Zn8 191 .u64)=true:=by kernel_rfl
theorem Z0nb:Z6p Tryz.prog 278=true:=by kernel_rfl
theorem Z0qr:okF Tryz.prog 280 (Z01y)=true:=by kernel_rfl
theorem Z0nc:Z6p Tryz.prog 280=true:=by kernel_rfl
theorem Z0p2:okF Tryz.prog 170 (dSl 3 64)=true:=by kernel_rfl
theorem Z0ms:Z6p Tryz.prog 170=true:=by kernel_rfl
theorem Z0l5:SlF 170 3 64:=slF Z0p2 Z0ms (by decide)
theorem Z0p1:okF Tryz.prog 169 (dLst 291 283 281 282 283)=true:=by kernel_rfl
theorem Z0qs:okF Tryz.prog 281 (Zpx)=true:=by kernel_rfl
theorem Z0nd:Z6p Tryz.prog 281=true:=by kernel_rfl
theorem Z0qt:okF Tryz.prog 283 (dAny)=true:=by kernel_rfl
theorem Z0ne:Z6p Tryz.prog 283=true:=by kernel_rfl
def d81:FnD:=⟨9,[.cell 0 2 true],.seq (.ops [oj 0 (.al 174 [.one (.int .i64 0),.one (.slice none 0 0)])]) (.seq (.ops [oj 1 (.call 165 [ci (65535)]),oj 2 (.call 163 [.func 164,ci (1),1]),oj 3 (.call 165 [ci (4096)]),oj 4 (.call 163 [.func 166,ci (0),3]),oj 5 (.call 167 [.func 168,ci (9223372036854775807)]),oj 6 (.call 169 [.func 170,.const (.bool false)]),oj 7 (.bs 283 4 4 (zFs 4) [(0,4,2),(4,4,4),(8,4,5),(12,4,6)]),oj 8 (.bd [.one (.int .i64 0),.one (.slice none 0 0)] [(0,1,ci 8),(1,1,7)]),on_ (.st 2 0 8)]) .ret)⟩
theorem ok81:okF Tryz.prog 81 (d81)=true:=by kernel_rfl
def Z8y:List (Zb8 Z02):=[Zyj (fun x:Z02=>x.gSerial) (1) (fun _=>65535),Zyj (fun x:Z02=>x.gRides) (0) (fun _=>4096),fMon (fun x:Z02=>x.gAmount) 9223372036854775807,Zxl (fun x:Z02=>x.gSig) 64 false]
theorem Zqr (W:World):Calls Tryz.prog 81 #[] W (Z7t W [] (RC Za5 8 Z8y)):=by
 refine Zv (args:=[]) mo ok81 rfl (Zg4 _) ?_
 refine Z0<|Z1<|Zc (Zs fun b0 _=>Z2<|Z0<|Z1 <| ?_)
 refine Zc (Zh rfl (fun w hw=>Zd9 (L:=Za5) Z0fk Z0fz Z0f7) fun v1 Ms1 R1=>?_)
 obtain ⟨c1,M1,rfl,rfl,H1⟩:=R1
 refine Zc (Zh rfl (fun w hw=>Zda (L:=Za5) (get:=fun x:Z02=>x.gSerial) Z0fj Z0fx Z0fy Z0f5 Z0f6 Z0l2 (fun _=>rfl) H1) fun v2 Ms2 R2=>?_)
 obtain ⟨x2,M2,rfl,rfl,H2⟩:=R2
 refine Zc (Zh rfl (fun w hw=>Zd9 (L:=Za5) Z0fk Z0fz Z0f7) fun v3 Ms3 R3=>?_)
 obtain ⟨c3,M3,rfl,rfl,H3⟩:=R3
 refine Zc (Zh rfl (fun w hw=>Zda (L:=Za5) (get:=fun x:Z02=>x.gRides) Z0fj Z0fx Z0fy Z0f5 Z0f6 Z0l3 (fun _=>rfl) H3) fun v4 Ms4 R4=>?_)
 obtain ⟨x4,M4,rfl,rfl,H4⟩:=R4
 refine Zc (Zh rfl (fun w hw=>Zux (L:=Za5) (get:=fun x:Z02=>x.gAmount) Z0oz Z0qq Z0qr Z0nb Z0nc Z0l4 (fun _=>rfl)) fun v5 Ms5 R5=>?_)
 obtain ⟨x5,M5,rfl,rfl,H5⟩:=R5
 refine Zc (Zh rfl (fun w hw=>Zc2 (L:=Za5) (get:=fun x:Z02=>x.gSig) Z0p1 Z0qs Z0qt Z0nd Z0ne Z0l5 (fun _=>rfl)) fun v6 Ms6 R6=>?_)
 obtain ⟨x6,M6,rfl,rfl,H6⟩:=R6
 refine Zc (Z5b (E:=E4) (xs:=[x2,x4,x5,x6]) (.agg (p:=Z0n x2) (z':=Z0n x2++(zFs 3)) rfl rfl (by kernel_rfl) (.agg (p:=Z0n x4) (z':=Z0n x2++(Z0n x4++(zFs 2))) rfl rfl (by kernel_rfl) (.agg (p:=Z0n x5) (z':=Z0n x2++(Z0n x4++(Z0n x5++(zFs 1)))) rfl rfl (by kernel_rfl) (.agg (p:=Z0n x6) (z':=Z0n x2++(Z0n x4++(Z0n x5++(Z0n x6++([]))))) rfl rfl (by kernel_rfl) BdR.nil)))) (.cons (p:=Z0n x2) rfl (.cons (p:=Z0n x4) rfl (.cons (p:=Z0n x5) rfl (.cons (p:=Z0n x6) rfl .nil)))) rfl fun u7 S7 O7=>?_)
 refine Z4 _ (Ze2 (q:=[.one (.int .i64 8),.one u7]) (.one rfl rfl rfl (.one rfl (Z97.cells (Z0b.isSl O7)) rfl BdR.nil))) <| ?_
 refine Zc (Zd3 (q:=[.one (.int .i64 8),.one u7]) rfl rfl rfl rfl (Z0r (Z3l rfl) (Z0r (Z3l (Z97.one1 (Z0b.isSl O7))) Z43)) (.app (.app (.app (.app (.app (.app (.app .here)))))))<|Z2<|Zd ?_)
 refine ⟨_,_,.cons (.agg rfl (.app (.app (.app (.app (.app (.app (.app .here))))))) rfl) .nil,.all .here Zgp,⟨_,rfl,u7,S7,(M6++(M5++(M4++(M3++(M2++(M1++(ck b0 174 [.one (.int .i64 8),.one u7] :: []))))))),_,rfl,rfl,O7,?_⟩⟩
 exact (.cons (H2.mono (by intro k hk; simp only [List.mem_append,List.mem_cons,List.not_mem_nil,or_false] at hk ⊢; first | (rcases hk with hk | hk <;> simp [hk]) | simp [hk])) (.cons (H4.mono (by intro k hk; simp only [List.mem_append,List.mem_cons,List.not_mem_nil,or_false] at hk ⊢; first | (rcases hk with hk | hk <;> simp [hk]) | simp [hk])) (.cons (H5.mono (by intro k hk; simp only [List.mem_append,List.mem_cons,List.not_mem_nil,or_false] at hk ⊢; first | (rcases hk with hk | hk <;> simp [hk]) | simp [hk])) (.cons (H6.mono (by intro k hk; simp only [List.mem_append,List.mem_cons,List.not_mem_nil,or_false] at hk ⊢; first | (rcases hk with hk | hk <;> simp [hk]) | simp [hk])) .nil))))
theorem Z0fl:okF Tryz.prog 171 (Zxk 174 283)=true:=by kernel_rfl
theorem Z0fm:okF Tryz.prog 172 (Zxj 174 283)=true:=by kernel_rfl
theorem ok82:okF Tryz.prog 82 (dEnc 174 38 171 172)=true:=by kernel_rfl
theorem ok37:okF Tryz.prog 37 (Zr4 38 67 81 82)=true:=by kernel_rfl
def Z74 (p0:Z02):Option ((LI)×Int):=Zcw Z8y 8 p0
theorem Z9z {W:World} {r:(LI)×Int} {p0:Z02} (h:Z74 p0=some r) :
  Calls Tryz.prog 37 [agg [.one (.int .i64 (p0.gSerial)),.one (.int .i64 (p0.gRides)),.one (.int .i64 (p0.gAmount)),.ints .u8 64 (p0.gSig)]].toArray W (Z7t W [] (fun v Ms=>∃ (u0:Value) (M0:List Ze),v = .tuple #[u0,.int .i64 (r.2)]/\Ms = [.all M0]/\Z0b (El.int .u8) u0 M0 r.1)) :=
 Zdx (L:=Za5) ok37 ok82 Z0fl Z0fm Zqr (by decide) (by kernel_rfl) h
theorem Z0qb:okF Tryz.prog 246 (dSay 174 38 171 172)=true:=by kernel_rfl
theorem Z0o9:okF Tryz.prog 128 (Zr6 38 67 81 246)=true:=by kernel_rfl
def Z4e (p0:Z02):Option (LI):=Z9f Z8y 8 p0
theorem Zcs {W:World} {r:LI} {p0:Z02} (h:Z4e p0=some r) :
  Calls Tryz.prog 128 [agg [.one (.int .i64 (p0.gSerial)),.one (.int .i64 (p0.gRides)),.one (.int .i64 (p0.gAmount)),.ints .u8 64 (p0.gSig)]].toArray W (Z7t W [] (fun v Ms=>∃ (u0:Value) (M0:List Ze),v=u0/\Ms = [.all M0]/\Z0b (El.int .u8) u0 M0 r)) :=
 Ze9 (L:=Za5) Z0o9 Z0qb Z0fl Z0fm Zqr (by decide) (by kernel_rfl) h
abbrev Zn1:Z0u->List Seg:=fun x=>[.one (.int .i64 (x.gSize)),.ints .u8 32 (x.gRoot),.ints .u8 64 (x.gSig)]
theorem Z0p5:okF Tryz.prog 175 (dLim 3 287)=true:=by kernel_rfl
theorem Z0qw:okF Tryz.prog 287 (Zt1)=true:=by kernel_rfl
theorem Z0nh:Z6p Tryz.prog 287=true:=by kernel_rfl
theorem Z0p4:okF Tryz.prog 174 (dAt [0] 6)=true:=by kernel_rfl
theorem Z0mt:Z6p Tryz.prog 174=true:=by kernel_rfl
theorem Z0l6:AtF 174 0:=Zou Z0p4 Z0mt rfl
theorem Z0p3:okF Tryz.prog 173 (dNum 300 3 301 298 284 285 286)=true:=by kernel_rfl
theorem Z0qu:okF Tryz.prog 284 (Zn8 185 .u32)=true:=by kernel_rfl
theorem Z0nf:Z6p Tryz.prog 284=true:=by kernel_rfl
theorem Z0qv:okF Tryz.prog 286 (Zt2)=true:=by kernel_rfl
theorem Z0ng:Z6p Tryz.prog 286=true:=by kernel_rfl
theorem Z0p6:okF Tryz.prog 177 (dSl 1 32)=true:=by kernel_rfl
theorem Z0mu:Z6p Tryz.prog 177=true:=by kernel_rfl
theorem Z0l7:SlF 177 1 32:=slF Z0p6 Z0mu (by decide)
theorem Z0fn:okF Tryz.prog 176 (dLst 304 298 288 289 290)=true:=by kernel_rfl
theorem Z0g0:okF Tryz.prog 288 (Zpx)=true:=by kernel_rfl
theorem Z0f8:Z6p Tryz.prog 288=true:=by kernel_rfl
theorem Z0g1:okF Tryz.prog 290 (dAny)=true:=by kernel_rfl
theorem Z0f9:Z6p Tryz.prog 290=true:=by kernel_rfl
theorem Z0p7:okF Tryz.prog 178 (dSl 33 64)=true:=by kernel_rfl
theorem Z0mv:Z6p Tryz.prog 178=true:=by kernel_rfl
theorem Z0l8:SlF 178 33 64:=slF Z0p7 Z0mv (by decide)
def d83:FnD:=⟨7,[.cell 0 2 true],.seq (.ops [oj 0 (.al 178 [.one (.int .i64 0),.one (.slice none 0 0)])]) (.seq (.ops [oj 1 (.call 175 [ci (65536)]),oj 2 (.call 173 [.func 174,ci (0),1]),oj 3 (.call 176 [.func 177,.const (.bool true)]),oj 4 (.call 176 [.func 178,.const (.bool false)]),oj 5 (.bs 298 3 4 (zFs 3) [(0,4,2),(4,4,3),(8,4,4)]),oj 6 (.bd [.one (.int .i64 0),.one (.slice none 0 0)] [(0,1,ci 10),(1,1,5)]),on_ (.st 2 0 6)]) .ret)⟩
theorem ok83:okF Tryz.prog 83 (d83)=true:=by kernel_rfl
def Zjc:List (Zb8 Z0u):=[Zyj (fun x:Z0u=>x.gSize) (0) (fun _=>65536),Zxl (fun x:Z0u=>x.gRoot) 32 true,Zxl (fun x:Z0u=>x.gSig) 64 false]
theorem Z04b (W:World):Calls Tryz.prog 83 #[] W (Z7t W [] (RC Zn1 10 Zjc)):=by
 refine Zv (args:=[]) mo ok83 rfl (Zg4 _) ?_
 refine Z0<|Z1<|Zc (Zs fun b0 _=>Z2<|Z0<|Z1 <| ?_)
 refine Zc (Zh rfl (fun w hw=>Zd9 (L:=Zn1) Z0p5 Z0qw Z0nh) fun v1 Ms1 R1=>?_)
 obtain ⟨c1,M1,rfl,rfl,H1⟩:=R1
 refine Zc (Zh rfl (fun w hw=>Zda (L:=Zn1) (get:=fun x:Z0u=>x.gSize) Z0p3 Z0qu Z0qv Z0nf Z0ng Z0l6 (fun _=>rfl) H1) fun v2 Ms2 R2=>?_)
 obtain ⟨x2,M2,rfl,rfl,H2⟩:=R2
 refine Zc (Zh rfl (fun w hw=>Zc2 (L:=Zn1) (get:=fun x:Z0u=>x.gRoot) Z0fn Z0g0 Z0g1 Z0f8 Z0f9 Z0l7 (fun _=>rfl)) fun v3 Ms3 R3=>?_)
 obtain ⟨x3,M3,rfl,rfl,H3⟩:=R3
 refine Zc (Zh rfl (fun w hw=>Zc2 (L:=Zn1) (get:=fun x:Z0u=>x.gSig) Z0fn Z0g0 Z0g1 Z0f8 Z0f9 Z0l8 (fun _=>rfl)) fun v4 Ms4 R4=>?_)
 obtain ⟨x4,M4,rfl,rfl,H4⟩:=R4
 refine Zc (Z5b (E:=E4) (xs:=[x2,x3,x4]) (.agg (p:=Z0n x2) (z':=Z0n x2++(zFs 2)) rfl rfl (by kernel_rfl) (.agg (p:=Z0n x3) (z':=Z0n x2++(Z0n x3++(zFs 1))) rfl rfl (by kernel_rfl) (.agg (p:=Z0n x4) (z':=Z0n x2++(Z0n x3++(Z0n x4++([])))) rfl rfl (by kernel_rfl) BdR.nil))) (.cons (p:=Z0n x2) rfl (.cons (p:=Z0n x3) rfl (.cons (p:=Z0n x4) rfl .nil))) rfl fun u5 S5 O5=>?_)
 refine Z4 _ (Ze2 (q:=[.one (.int .i64 10),.one u5]) (.one rfl rfl rfl (.one rfl (Z97.cells (Z0b.isSl O5)) rfl BdR.nil))) <| ?_
 refine Zc (Zd3 (q:=[.one (.int .i64 10),.one u5]) rfl rfl rfl rfl (Z0r (Z3l rfl) (Z0r (Z3l (Z97.one1 (Z0b.isSl O5))) Z43)) (.app (.app (.app (.app (.app .here)))))<|Z2<|Zd ?_)
 refine ⟨_,_,.cons (.agg rfl (.app (.app (.app (.app (.app .here))))) rfl) .nil,.all .here Zgp,⟨_,rfl,u5,S5,(M4++(M3++(M2++(M1++(ck b0 178 [.one (.int .i64 10),.one u5] :: []))))),_,rfl,rfl,O5,?_⟩⟩
 exact (.cons (H2.mono (by intro k hk; simp only [List.mem_append,List.mem_cons,List.not_mem_nil,or_false] at hk ⊢; first | (rcases hk with hk | hk <;> simp [hk]) | simp [hk])) (.cons (H3.mono (by intro k hk; simp only [List.mem_append,List.mem_cons,List.not_mem_nil,or_false] at hk ⊢; first | (rcases hk with hk | hk <;> simp [hk]) | simp [hk])) (.cons (H4.mono (by intro k hk; simp only [List.mem_append,List.mem_cons,List.not_mem_nil,or_false] at hk ⊢; first | (rcases hk with hk | hk <;> simp [hk]) | simp [hk])) .nil)))
theorem Z0fo:okF Tryz.prog 179 (Zxk 178 298)=true:=by kernel_rfl
theorem Z0fp:okF Tryz.prog 180 (Zxj 178 298)=true:=by kernel_rfl
theorem ok84:okF Tryz.prog 84 (dEnc 178 40 179 180)=true:=by kernel_rfl
theorem ok38:okF Tryz.prog 38 (Zr4 40 97 83 84)=true:=by kernel_rfl
def Z9a (p0:Z0u):Option ((LI)×Int):=Zcw Zjc 10 p0
theorem Zcr {W:World} {r:(LI)×Int} {p0:Z0u} (h:Z9a p0=some r) :
  Calls Tryz.prog 38 [agg [.one (.int .i64 (p0.gSize)),.ints .u8 32 (p0.gRoot),.ints .u8 64 (p0.gSig)]].toArray W (Z7t W [] (fun v Ms=>∃ (u0:Value) (M0:List Ze),v = .tuple #[u0,.int .i64 (r.2)]/\Ms = [.all M0]/\Z0b (El.int .u8) u0 M0 r.1)) :=
 Zdx (L:=Zn1) ok38 ok84 Z0fo Z0fp Z04b (by decide) (by kernel_rfl) h
theorem Z0qc:okF Tryz.prog 247 (dSay 178 40 179 180)=true:=by kernel_rfl
theorem Z0oc:okF Tryz.prog 131 (Zr6 40 97 83 247)=true:=by kernel_rfl
def Z76 (p0:Z0u):Option (LI):=Z9f Zjc 10 p0
theorem Zey {W:World} {r:LI} {p0:Z0u} (h:Z76 p0=some r) :
  Calls Tryz.prog 131 [agg [.one (.int .i64 (p0.gSize)),.ints .u8 32 (p0.gRoot),.ints .u8 64 (p0.gSig)]].toArray W (Z7t W [] (fun v Ms=>∃ (u0:Value) (M0:List Ze),v=u0/\Ms = [.all M0]/\Z0b (El.int .u8) u0 M0 r)) :=
 Ze9 (L:=Zn1) Z0oc Z0qc Z0fo Z0fp Z04b (by decide) (by kernel_rfl) h
theorem Z0nj:okF Tryz.prog 100 (dAt [35] 6)=true:=by kernel_rfl
theorem Zvp:AtF 100 35:=Zou Z0nj (by kernel_rfl) rfl
theorem Z0nn:okF Tryz.prog 104 (dAt [99] 6)=true:=by kernel_rfl
theorem Zvq:AtF 104 99:=Zou Z0nn (by kernel_rfl) rfl
theorem Z0nq:okF Tryz.prog 107 (dAt [99] 6)=true:=by kernel_rfl
theorem Zvr:AtF 107 99:=Zou Z0nq (by kernel_rfl) rfl
theorem Z0o1:okF Tryz.prog 120 (dAt [1] 6)=true:=by kernel_rfl
theorem Zvs:AtF 120 1:=Zou Z0o1 (by kernel_rfl) rfl
theorem Z0o7:okF Tryz.prog 126 (dAt [35] 6)=true:=by kernel_rfl
theorem Zvt:AtF 126 35:=Zou Z0o7 (by kernel_rfl) rfl
theorem Z0oa:okF Tryz.prog 129 (dAt [3] 6)=true:=by kernel_rfl
theorem Zvu:AtF 129 3:=Zou Z0oa (by kernel_rfl) rfl
theorem Z0od:okF Tryz.prog 132 (dAt [33] 6)=true:=by kernel_rfl
theorem Zvv:AtF 132 33:=Zou Z0od (by kernel_rfl) rfl
def Z3m (p1:Zp) (p2:Z0c):Option Bool :=
 opt (Z8q p2) fun y1 =>
 opt (Z58 p1 p2) fun y2 =>
 jn (fun (i1:Bool)=>some i1) fun k1=>br (((y1.2==0)&&y2.2)) (
 opt (Z66 p2) fun y3 =>
 opt (Z0t y2.1 y3 p2.gSig) fun y4 =>
 k1 y4
 ) (
 k1 false
 )
theorem Zck {W:World} {r:Bool} {p1:Zp} {p2:Z0c} {v1_0:Value} (h:Z3m p1 p2=some r) (hG:Globs W) (A1_0:Z5x Z01 W v1_0 p1.gGates) :
    Calls Tryz.prog 56 [agg [.one (.func (.func 36) #[] #[]),.one (.func (.func 119) #[] #[]),.one (.func (.func 120) #[] #[]),.one (.func (.func 121) #[] #[])],agg [b3' p1.gIssuer,.one (v1_0)],agg [.one (.int .i64 (p2.gFloor)),b6' p2.gSig]].toArray W (Z2d W (.bool (r))):=by
 unfold Z3m at h
 refine Z9 mo ok56 rfl ?_
 refine Z0<|Z1<|Zc (Z03 (s:=[.one (.func (.func 36) #[] #[]),.one (.func (.func 119) #[] #[]),.one (.func (.func 120) #[] #[]),.one (.func (.func 121) #[] #[])]) rfl fun b1 u1=>Zc (Z03 (s:=[b3' p1.gIssuer,.one (v1_0)]) rfl fun b2 u2=>Zc (Z03 (s:=[.one (.int .i64 (p2.gFloor)),b6' p2.gSig]) rfl fun b3 u3=>Z7 rfl<|Z2<|Z0<|oH h fun y1 f1 h=>Z1<|Z4 _ (Z1u rfl)<|Z4 _ (Z0j rfl .t2 rfl)<|Z4 _ (Z04 (p:=[.one (.int .i64 (p2.gFloor)),b6' p2.gSig]) rfl .here rfl)<|Zc (Z3t rfl rfl rfl (fun w hw=>Zb6  f1 ) fun v7 o1 R1=>?_))))
 obtain ⟨v9,w1,rfl,rfl,O1⟩:=R1
 refine Z7 rfl<|Z4 _ (Z0q rfl rfl)<|Z4 _ (Z0q rfl rfl)<|Z7 rfl<|Z7 rfl<|Z2<|Z0<|oH h fun y2 f2 h=>Z1<|Z4 _ (Z1u rfl)<|Z4 _ (Z0j rfl (.app .t2) rfl)<|Z4 _ (Z04 (p:=[b3' p1.gIssuer,.one (v1_0)]) rfl (.app .t1) rfl)<|Z4 _ (Z04 (p:=[.one (.int .i64 (p2.gFloor)),b6' p2.gSig]) rfl (.app .here) rfl)<|Zc (Z5p rfl rfl rfl (fun w hw=>Ze6 f2 ((Z0z A1_0 Z17) w hw))<|Z7 rfl<|Z4 _ (Z0q rfl rfl)<|Z4 _ (Z0q rfl rfl)<|Zc (Zs fun b4 u4=>Zc (Zn (q:=[b3' y2.1]) rfl rfl rfl rfl rfl .here<|Z7 rfl<|Z2<|Z0<|jH h fun k1 q1 h=>Zq (G:=fun t m=>∃ (i1:Bool),k1 i1=some r/\Fit [(6,.bool (i1))] (ck b4 43 [b3' y2.1]::(ck b3 36 [.one (.int .i64 (p2.gFloor)),b6' p2.gSig]::(ck b2 46 [b3' p1.gIssuer,.one (v1_0)]::(ck b1 132 [.one (.func (.func 36) #[] #[]),.one (.func (.func 119) #[] #[]),.one (.func (.func 120) #[] #[]),.one (.func (.func 121) #[] #[])] :: [])))) t m) ?_ ?_)))
 ·refine Zj<|Z6 _ (Z09 rfl)<|Z6 _ (Zb rfl rfl rfl)<|Z6 _ (Z09 rfl)<|Zim rfl rfl rfl (fun hg1=>Z31 rfl _ (Z09 rfl) (Z2a)) (fun hg1=>rfl) rfl<|Z6 _ (Z09 rfl)<|Ztx (tc:=31) h rfl (fun h=>?_) (fun h=>?_)
  ·refine oH h fun y3 f3 h=>oH h fun y4 f4 h=>Zfc rfl _ (Z1u rfl)<|Zfc rfl _ (Z1u rfl)<|Zb1 rfl _ (Z04 (p:=[b3' y2.1]) rfl .here rfl)<|Zb1 rfl _ (Z0j rfl (.there (.app .t2)) rfl)<|Zb1 rfl _ (Z04 (p:=[.one (.int .i64 (p2.gFloor)),b6' p2.gSig]) rfl (.there (.app .here)) rfl)<|Zb1 rfl _ (Z0j rfl (.there (.app .t2)) rfl)<|Zek rfl (Z3t rfl rfl rfl (fun w hw=>Zej  f3 ) fun v27 o2 R2=>?_)
   obtain ⟨_,w2,rfl,rfl,O2⟩:=R2
   exact ⟨(by repeat (first | exact Sup.refl _ | apply Sup.cons | apply Sup.app)),Zek rfl (Z5p rfl rfl rfl (fun w hw=>Zvs.2 w b3) ⟨(by repeat (first | exact Sup.refl _ | apply Sup.cons | apply Sup.app)),Zfc rfl _ (Z1q rfl) (Zez rfl _ (Z04 (p:=[b6' p2.gSig]) rfl (.app (.there (.app .here))) rfl) (Zez rfl _ (Z06 rfl (fun w hw=>Z4d f4 (hG.at hw (by simp)) ((Z0f O2 .here) w hw))) (Z6 _ (Znm rfl rfl) (Z6 _ (Z09 rfl) (Zr (⟨y4,h,⟨⟨rfl,trivial⟩,(.one (.app .here) (.one (.app (.app .here)) (.one (.app (.app .here)) (.one (.app (.app .here)) .nil))))⟩⟩)))) (by repeat (first | exact Sup.refl _ | apply Sup.cons | apply Sup.app))) (by repeat (first | exact Sup.refl _ | apply Sup.cons | apply Sup.app)))⟩)⟩
  ·exact Z96 rfl rfl<|Z96 rfl rfl<|Z67 rfl rfl<|Z67 rfl rfl<|Z67 rfl rfl<|Z67 rfl rfl<|Zb2 rfl rfl<|Zb2 rfl rfl<|Z96 rfl rfl<|Zb2 rfl rfl<|Zb2 rfl rfl<|Z6 _ (Znk rfl rfl)<|Z6 _ (Z09 rfl)<|Zr<|⟨false,h,⟨⟨rfl,trivial⟩,(.o (.one (.app .here) (.one (.app .here) (.one (.app .here) .nil))))⟩⟩
 ·rintro t m ⟨i1,h,hF⟩
  refine Zo hF ?_
  clear hF
  subst q1
  refine Zd ?_
  revert h; refine Z00 fun h=>?_
  subst h
  exact ⟨_,(.cons (.tmp rfl) .nil),rfl⟩
def Z22 (p0:Zp) (p1:Z0c):Option Bool :=
 opt (Zbm) fun y1 =>
 opt (Z3m p0 p1) fun y2 =>
 some y2
theorem Zd5 {W:World} {r:Bool} {p0:Zp} {p1:Z0c} {v0_0:Value} (h:Z22 p0 p1=some r) (hG:Globs W) (A0_0:Z5x Z01 W v0_0 p0.gGates) :
    Calls Tryz.prog 21 [agg [b3' p0.gIssuer,.one (v0_0)],agg [.one (.int .i64 (p1.gFloor)),b6' p1.gSig]].toArray W (Z2d W (.bool (r))):=by
 unfold Z22 at h
 refine Z9 mo ok21 rfl ?_
 refine Z0<|Z1<|Zc (Z03 (s:=[b3' p0.gIssuer,.one (v0_0)]) rfl fun b1 u1=>Zc (Z03 (s:=[.one (.int .i64 (p1.gFloor)),b6' p1.gSig]) rfl fun b2 u2=>Z7 rfl<|Z2<|Z0<|oH h fun y1 f1 h=>oH h fun y2 f2 h=>Zj<|Zg _ (Z04 (p:=[b3' p0.gIssuer,.one (v0_0)]) rfl .t1 rfl)<|Zg _ (Z04 (p:=[.one (.int .i64 (p1.gFloor)),b6' p1.gSig]) rfl .here rfl)<|Z5w _ (Z1e rfl (Zh8 f1)) (Z5w _ (Z06 rfl (fun w hw=>Zck f2 (hG.at hw (by simp)) ((Z0z A0_0 Z17) w hw))) (Z6 _ (Z09 rfl) (Zr (Zd ?_))) (by repeat (first | exact Sup.refl _ | apply Sup.cons | apply Sup.app))) (by repeat (first | exact Sup.refl _ | apply Sup.cons | apply Sup.app))))
 revert h; refine Z00 fun h=>?_
 subst h
 exact ⟨_,(.cons (.tmp rfl) .nil),rfl⟩
def Z46 (p1:LI) (p2:Z0c):Option (Z0c) :=
 opt (Z66 p2) fun y1 =>
 opt (Z7b p1 y1) fun y2 =>
 some (⟨p2.gFloor,y2⟩:Z0c)
theorem Zcz {W:World} {r:Z0c} {p1:LI} {p2:Z0c} (h:Z46 p1 p2=some r) (hG:Globs W) :
    Calls Tryz.prog 57 [agg [.one (.func (.func 36) #[] #[]),.one (.func (.func 119) #[] #[]),.one (.func (.func 120) #[] #[]),.one (.func (.func 121) #[] #[])],agg [b3' p1],agg [.one (.int .i64 (p2.gFloor)),b6' p2.gSig]].toArray W (Z2d W (agg [.one (.int .i64 (r.gFloor)),b6' r.gSig])):=by
 unfold Z46 at h
 refine Z9 mo ok57 rfl ?_
 refine Z0<|Z1<|Zc (Z03 (s:=[.one (.func (.func 36) #[] #[]),.one (.func (.func 119) #[] #[]),.one (.func (.func 120) #[] #[]),.one (.func (.func 121) #[] #[])]) rfl fun b1 u1=>Zc (Z03 (s:=[b3' p1]) rfl fun b2 u2=>Zc (Z03 (s:=[.one (.int .i64 (p2.gFloor)),b6' p2.gSig]) rfl fun b3 u3=>Zc (Zs fun b4 u4=>Z2<|Z0<|oH h fun y1 f1 h=>oH h fun y2 f2 h=>Zj<|Z6 _ (Z1u rfl)<|Z6 _ (Z1u rfl)<|Zg _ (Z0j rfl .t3 rfl)<|Zg _ (Z04 (p:=[b3' p1]) rfl .t2 rfl)<|Zg _ (Z0j rfl .t3 rfl)<|Zg _ (Z04 (p:=[.one (.int .i64 (p2.gFloor)),b6' p2.gSig]) rfl .t1 rfl)<|Z2c (Z5p rfl rfl rfl (fun w hw=>Zvs.2 w b3) ⟨(by repeat (first | exact Sup.refl _ | apply Sup.cons | apply Sup.app)),Z2c (Z3t rfl rfl rfl (fun w hw=>Zej  f1 ) fun v8 o1 R1=>?_)⟩)))))
 obtain ⟨_,w1,rfl,rfl,O1⟩:=R1
 refine ⟨(by repeat (first | exact Sup.refl _ | apply Sup.cons | apply Sup.app)),Z5w _ (Z06 rfl (fun w hw=>Z64 f2 (hG.at hw (by simp)) ((Z0f O1 .here) w hw))) (Z6 _ (Z1q rfl) (Z1n rfl (Zn (q:=[.one (.int .i64 (p2.gFloor)),b6' y2]) rfl rfl rfl rfl rfl (.app .t1) (Zr (Z0 (Z1 (Z4 _ (Z04 (p:=[.one (.int .i64 (p2.gFloor)),b6' y2]) rfl (.app .t1) rfl) (Zc (Zn (q:=[.one (.int .i64 (p2.gFloor)),b6' y2]) rfl rfl rfl rfl rfl (.app .here) (Z2 (Zd ?_))))))))))) (by repeat (first | exact Sup.refl _ | apply Sup.cons | apply Sup.app))⟩
 revert h; refine Z00 fun h=>?_
 subst h
 exact ⟨_,(.cons (.agg rfl (.app .here) rfl) .nil),rfl⟩
def Z2m (p0:LI) (p1:Z0c):Option (Z0c) :=
 opt (Zbm) fun y1 =>
 opt (Z46 p0 p1) fun y2 =>
 some y2
theorem Ze5 {W:World} {r:Z0c} {p0:LI} {p1:Z0c} (h:Z2m p0 p1=some r) (hG:Globs W) :
    Calls Tryz.prog 22 [agg [b3' p0],agg [.one (.int .i64 (p1.gFloor)),b6' p1.gSig]].toArray W (Z2d W (agg [.one (.int .i64 (r.gFloor)),b6' r.gSig])):=by
 unfold Z2m at h
 refine Z9 mo ok22 rfl ?_
 refine Z0<|Z1<|Zc (Z03 (s:=[b3' p0]) rfl fun b1 u1=>Zc (Z03 (s:=[.one (.int .i64 (p1.gFloor)),b6' p1.gSig]) rfl fun b2 u2=>Zc (Zs fun b3 u3=>Z2<|Z0<|oH h fun y1 f1 h=>oH h fun y2 f2 h=>Zj<|Zg _ (Z04 (p:=[b3' p0]) rfl .t2 rfl)<|Zg _ (Z04 (p:=[.one (.int .i64 (p1.gFloor)),b6' p1.gSig]) rfl .t1 rfl)<|Z5w _ (Z1e rfl (Zh8 f1)) (Z5w _ (Z06 rfl (fun w hw=>Zcz f2 (hG.at hw (by simp)))) (Z1n rfl (Zn (q:=[.one (.int .i64 (y2.gFloor)),b6' y2.gSig]) rfl rfl rfl rfl rfl .here (Zr (Zd ?_)))) (by repeat (first | exact Sup.refl _ | apply Sup.cons | apply Sup.app))) (by repeat (first | exact Sup.refl _ | apply Sup.cons | apply Sup.app)))))
 revert h; refine Z00 fun h=>?_
 subst h
 exact ⟨_,(.cons (.agg rfl .here rfl) .nil),rfl⟩
def Z1s:Option Bool :=
 opt (Z7o) fun y1 =>
 opt (Ze4 y1) fun y2 =>
 opt (Z91 y1 0) fun y3 =>
 chk (imp (((y2.2==0)&&y3.2)&&((y2.1.gGates.length:Int)==2)) (((Z2m y3.1 (⟨4,(List.replicate 64 0)⟩:Z0c)).isSome&&(Z22 y2.1 (((Z2m y3.1 (⟨4,(List.replicate 64 0)⟩:Z0c)).getD Zgg))).isSome))) <|
 some ((((y2.2==0)&&y3.2)&&((y2.1.gGates.length:Int)==2))&&((Z22 y2.1 (((Z2m y3.1 (⟨4,(List.replicate 64 0)⟩:Z0c)).getD Zgg))).getD false))
theorem Zad {W:World} {r:Bool} (h:Z1s=some r) (hG:Globs W) :
    Calls Tryz.prog 7 [].toArray W (Z2d W (.bool (r))):=by
 unfold Z1s at h
 refine Z9 mo ok7 rfl ?_
 refine Z0<|Z1<|Z7 rfl<|Z2<|Z0<|oH h fun y1 f1 h=>Z1<|Z4 _ (Z1e rfl (Zgm f1))<|Zc (Zs fun b1 u1=>Zc (Zn (q:=[.one (.int .i64 (y1.gGates)),.one (.int .i64 (y1.gWallets)),.one (.int .i64 (y1.gRows)),.one (.int .i64 (y1.gFlash)),.one (.int .i64 (y1.gSerials)),b3' y1.gSecret]) rfl rfl rfl rfl rfl .here<|Z2<|Z0<|oH h fun y2 f2 h=>Z1<|Z4 _ (Z04 (p:=[.one (.int .i64 (y1.gGates)),.one (.int .i64 (y1.gWallets)),.one (.int .i64 (y1.gRows)),.one (.int .i64 (y1.gFlash)),.one (.int .i64 (y1.gSerials)),b3' y1.gSecret]) rfl .here rfl)<|Zc (Zh rfl (fun w hw=>Zjj  f2 (hG.at hw (by simp))) fun v7 o1 R1=>?_)))
 obtain ⟨v9,w1,rfl,rfl,O1⟩:=R1
 refine Z7 rfl<|Z4 _ (Z0q rfl rfl)<|Z4 _ (Z0q rfl rfl)<|Zc (Zs fun b2 u2=>Zc (Zd3 (q:=[b3' y2.1.gIssuer,.one (v9)]) rfl rfl rfl rfl (Z0r Zak (Z0r (Z3l (Z97.one1 (Z0b.isSl O1))) Z43)) .here<|Z7 rfl<|Z2<|Z0<|oH h fun y3 f3 h=>Z1<|Z4 _ (Z04 (p:=[.one (.int .i64 (y1.gGates)),.one (.int .i64 (y1.gWallets)),.one (.int .i64 (y1.gRows)),.one (.int .i64 (y1.gFlash)),.one (.int .i64 (y1.gSerials)),b3' y1.gSecret]) rfl (.there (.app .here)) rfl)<|Z4 _ (Z06 rfl (fun w hw=>Zfa f3 (hG.at hw (by simp))))<|Z7 rfl<|Z4 _ (Z0q rfl rfl)<|Z4 _ (Z0q rfl rfl)<|Zc (Zs fun b3 u3=>Zc (Zn (q:=[b3' y3.1]) rfl rfl rfl rfl rfl .here<|Z7 rfl<|Z2<|Z0<|cH h fun c1 h=>Zj<|Z6 _ (Z09 rfl)<|Z6 _ (Zb rfl rfl rfl)<|Z6 _ (Z09 rfl)<|Zim rfl rfl rfl (fun hg1=>Z31 rfl _ (Z09 rfl) (Z2a)) (fun hg1=>rfl) rfl<|Z6 _ (Z09 rfl)<|Zw6 rfl rfl rfl (fun hg1=>Z31 rfl _ (Z1u rfl) (Z31 rfl _ (Z0j rfl .t1 rfl) (Z31 rfl _ (Z5c rfl (Shp.own O1)) (Z31 rfl _ (Zb rfl rfl rfl) (Z2a))))) (fun hg1=>rfl) rfl<|Z6 _ (Z09 rfl)<|Zw6 rfl rfl rfl (fun hg1=>Z31 rfl _ (Z04 (p:=[b3' y2.1.gIssuer,.one (v9)]) rfl .t1 rfl) (Z31 rfl _ (Z04 (p:=[b3' y3.1]) rfl .here rfl) (Z31 rfl _ (Ze2 (q:=[.one (.int .i64 (4)),b6' (List.replicate 64 0)]) (.one rfl rfl rfl BdR.nil)) (Z31 rfl _ (Z06 rfl (fun w hw=>Ze5 (p1:=(⟨4,(List.replicate 64 0)⟩:Z0c)) (getD_some (z:=Zgg) (Z0aa (Zom c1 hg1))) (hG.at hw (by simp)))) (Z31 rfl _ (Z06 rfl (fun w hw=>Zd5 (getD_some (z:=false) (Z0ab (Zom c1 hg1))) (hG.at hw (by simp)) ((Z0f O1 .t2) w hw))) (Z2a)))))) (fun hg1=>rfl) rfl<|Z6 _ (Z09 rfl)<|Zr<|Zd ?_))))
 revert h; refine Z00 fun h=>?_
 subst h
 exact ⟨_,(.cons (.tmp rfl) .nil),rfl⟩
def Z4k (p1:LI) (p2:Z0m):Option (Z0m) :=
 opt (Z75 p2) fun y1 =>
 opt (Z7b p1 y1) fun y2 =>
 some (⟨p2.gSerial,p2.gRides,p2.gPrice,p2.gAnchor,y2⟩:Z0m)
theorem Zdf {W:World} {r:Z0m} {p1:LI} {p2:Z0m} (h:Z4k p1 p2=some r) (hG:Globs W) :
    Calls Tryz.prog 45 [agg [.one (.func (.func 12) #[] #[]),.one (.func (.func 99) #[] #[]),.one (.func (.func 100) #[] #[]),.one (.func (.func 101) #[] #[])],agg [b3' p1],agg [.one (.int .i64 (p2.gSerial)),.one (.int .i64 (p2.gRides)),.one (.int .i64 (p2.gPrice)),b3' p2.gAnchor,b6' p2.gSig]].toArray W (Z2d W (agg [.one (.int .i64 (r.gSerial)),.one (.int .i64 (r.gRides)),.one (.int .i64 (r.gPrice)),b3' r.gAnchor,b6' r.gSig])):=by
 unfold Z4k at h
 refine Z9 mo ok45 rfl ?_
 refine Z0<|Z1<|Zc (Z03 (s:=[.one (.func (.func 12) #[] #[]),.one (.func (.func 99) #[] #[]),.one (.func (.func 100) #[] #[]),.one (.func (.func 101) #[] #[])]) rfl fun b1 u1=>Zc (Z03 (s:=[b3' p1]) rfl fun b2 u2=>Zc (Z03 (s:=[.one (.int .i64 (p2.gSerial)),.one (.int .i64 (p2.gRides)),.one (.int .i64 (p2.gPrice)),b3' p2.gAnchor,b6' p2.gSig]) rfl fun b3 u3=>Zc (Zs fun b4 u4=>Z2<|Z0<|oH h fun y1 f1 h=>oH h fun y2 f2 h=>Zj<|Z6 _ (Z1u rfl)<|Z6 _ (Z1u rfl)<|Zg _ (Z0j rfl .t3 rfl)<|Zg _ (Z04 (p:=[b3' p1]) rfl .t2 rfl)<|Zg _ (Z0j rfl .t3 rfl)<|Zg _ (Z04 (p:=[.one (.int .i64 (p2.gSerial)),.one (.int .i64 (p2.gRides)),.one (.int .i64 (p2.gPrice)),b3' p2.gAnchor,b6' p2.gSig]) rfl .t1 rfl)<|Z2c (Z5p rfl rfl rfl (fun w hw=>Zvp.2 w b3) ⟨(by repeat (first | exact Sup.refl _ | apply Sup.cons | apply Sup.app)),Z2c (Z3t rfl rfl rfl (fun w hw=>Zex  f1 ) fun v8 o1 R1=>?_)⟩)))))
 obtain ⟨_,w1,rfl,rfl,O1⟩:=R1
 refine ⟨(by repeat (first | exact Sup.refl _ | apply Sup.cons | apply Sup.app)),Z5w _ (Z06 rfl (fun w hw=>Z64 f2 (hG.at hw (by simp)) ((Z0f O1 .here) w hw))) (Z6 _ (Z1q rfl) (Z1n rfl (Zn (q:=[.one (.int .i64 (p2.gSerial)),.one (.int .i64 (p2.gRides)),.one (.int .i64 (p2.gPrice)),b3' p2.gAnchor,b6' y2]) rfl rfl rfl rfl rfl (.app .t1) (Zr (Z0 (Z1 (Z4 _ (Z04 (p:=[.one (.int .i64 (p2.gSerial)),.one (.int .i64 (p2.gRides)),.one (.int .i64 (p2.gPrice)),b3' p2.gAnchor,b6' y2]) rfl (.app .t1) rfl) (Zc (Zn (q:=[.one (.int .i64 (p2.gSerial)),.one (.int .i64 (p2.gRides)),.one (.int .i64 (p2.gPrice)),b3' p2.gAnchor,b6' y2]) rfl rfl rfl rfl rfl (.app .here) (Z2 (Zd ?_))))))))))) (by repeat (first | exact Sup.refl _ | apply Sup.cons | apply Sup.app))⟩
 revert h; refine Z00 fun h=>?_
 subst h
 exact ⟨_,(.cons (.agg rfl (.app .here) rfl) .nil),rfl⟩
def Z8n (p0:LI) (p1:Z0m):Option (Z0m) :=
 opt (Zdj) fun y1 =>
 opt (Z4k p0 p1) fun y2 =>
 some y2
theorem Zkp {W:World} {r:Z0m} {p0:LI} {p1:Z0m} (h:Z8n p0 p1=some r) (hG:Globs W) :
    Calls Tryz.prog 13 [agg [b3' p0],agg [.one (.int .i64 (p1.gSerial)),.one (.int .i64 (p1.gRides)),.one (.int .i64 (p1.gPrice)),b3' p1.gAnchor,b6' p1.gSig]].toArray W (Z2d W (agg [.one (.int .i64 (r.gSerial)),.one (.int .i64 (r.gRides)),.one (.int .i64 (r.gPrice)),b3' r.gAnchor,b6' r.gSig])):=by
 unfold Z8n at h
 refine Z9 mo ok13 rfl ?_
 refine Z0<|Z1<|Zc (Z03 (s:=[b3' p0]) rfl fun b1 u1=>Zc (Z03 (s:=[.one (.int .i64 (p1.gSerial)),.one (.int .i64 (p1.gRides)),.one (.int .i64 (p1.gPrice)),b3' p1.gAnchor,b6' p1.gSig]) rfl fun b2 u2=>Zc (Zs fun b3 u3=>Z2<|Z0<|oH h fun y1 f1 h=>oH h fun y2 f2 h=>Zj<|Zg _ (Z04 (p:=[b3' p0]) rfl .t2 rfl)<|Zg _ (Z04 (p:=[.one (.int .i64 (p1.gSerial)),.one (.int .i64 (p1.gRides)),.one (.int .i64 (p1.gPrice)),b3' p1.gAnchor,b6' p1.gSig]) rfl .t1 rfl)<|Z5w _ (Z1e rfl (Zi9 f1)) (Z5w _ (Z06 rfl (fun w hw=>Zdf f2 (hG.at hw (by simp)))) (Z1n rfl (Zn (q:=[.one (.int .i64 (y2.gSerial)),.one (.int .i64 (y2.gRides)),.one (.int .i64 (y2.gPrice)),b3' y2.gAnchor,b6' y2.gSig]) rfl rfl rfl rfl rfl .here (Zr (Zd ?_)))) (by repeat (first | exact Sup.refl _ | apply Sup.cons | apply Sup.app))) (by repeat (first | exact Sup.refl _ | apply Sup.cons | apply Sup.app)))))
 revert h; refine Z00 fun h=>?_
 subst h
 exact ⟨_,(.cons (.agg rfl .here rfl) .nil),rfl⟩
def Z3n (p1:LI) (p2:Z0d):Option (Z0d) :=
 opt (Z53 p2) fun y1 =>
 opt (Z7b p1 y1) fun y2 =>
 some (⟨p2.gCert,y2⟩:Z0d)
theorem Zcl {W:World} {r:Z0d} {p1:LI} {p2:Z0d} (h:Z3n p1 p2=some r) (hG:Globs W) :
    Calls Tryz.prog 47 [agg [.one (.func (.func 33) #[] #[]),.one (.func (.func 103) #[] #[]),.one (.func (.func 104) #[] #[]),.one (.func (.func 105) #[] #[])],agg [b3' p1],agg [.one (.int .i64 (p2.gCert.gSerial)),.one (.int .i64 (p2.gCert.gRides)),.one (.int .i64 (p2.gCert.gPrice)),b3' p2.gCert.gAnchor,b6' p2.gCert.gSig,b6' p2.gSig]].toArray W (Z2d W (agg [.one (.int .i64 (r.gCert.gSerial)),.one (.int .i64 (r.gCert.gRides)),.one (.int .i64 (r.gCert.gPrice)),b3' r.gCert.gAnchor,b6' r.gCert.gSig,b6' r.gSig])):=by
 unfold Z3n at h
 refine Z9 mo ok47 rfl ?_
 refine Z0<|Z1<|Zc (Z03 (s:=[.one (.func (.func 33) #[] #[]),.one (.func (.func 103) #[] #[]),.one (.func (.func 104) #[] #[]),.one (.func (.func 105) #[] #[])]) rfl fun b1 u1=>Zc (Z03 (s:=[b3' p1]) rfl fun b2 u2=>Zc (Z03 (s:=[.one (.int .i64 (p2.gCert.gSerial)),.one (.int .i64 (p2.gCert.gRides)),.one (.int .i64 (p2.gCert.gPrice)),b3' p2.gCert.gAnchor,b6' p2.gCert.gSig,b6' p2.gSig]) rfl fun b3 u3=>Zc (Zs fun b4 u4=>Z2<|Z0<|oH h fun y1 f1 h=>oH h fun y2 f2 h=>Zj<|Z6 _ (Z1u rfl)<|Z6 _ (Z1u rfl)<|Zg _ (Z0j rfl .t3 rfl)<|Zg _ (Z04 (p:=[b3' p1]) rfl .t2 rfl)<|Zg _ (Z0j rfl .t3 rfl)<|Zg _ (Z04 (p:=[.one (.int .i64 (p2.gCert.gSerial)),.one (.int .i64 (p2.gCert.gRides)),.one (.int .i64 (p2.gCert.gPrice)),b3' p2.gCert.gAnchor,b6' p2.gCert.gSig,b6' p2.gSig]) rfl .t1 (by kernel_rfl))<|Z2c (Z5p rfl rfl rfl (fun w hw=>Zvq.2 w b3) ⟨(by repeat (first | exact Sup.refl _ | apply Sup.cons | apply Sup.app)),Z2c (Z3t rfl rfl rfl (fun w hw=>Zd7  f1 ) fun v8 o1 R1=>?_)⟩)))))
 obtain ⟨_,w1,rfl,rfl,O1⟩:=R1
 refine ⟨(by repeat (first | exact Sup.refl _ | apply Sup.cons | apply Sup.app)),Z5w _ (Z06 rfl (fun w hw=>Z64 f2 (hG.at hw (by simp)) ((Z0f O1 .here) w hw))) (Z6 _ (Z1q rfl) (Z1n rfl (Zn (p:=[b6' y2]) (q:=[.one (.int .i64 (p2.gCert.gSerial)),.one (.int .i64 (p2.gCert.gRides)),.one (.int .i64 (p2.gCert.gPrice)),b3' p2.gCert.gAnchor,b6' p2.gCert.gSig,b6' y2]) rfl rfl (by kernel_rfl) (by kernel_rfl) (by kernel_rfl) (.app .t1) (Zr (Z0 (Z1 (Z4 _ (Z04 (p:=[.one (.int .i64 (p2.gCert.gSerial)),.one (.int .i64 (p2.gCert.gRides)),.one (.int .i64 (p2.gCert.gPrice)),b3' p2.gCert.gAnchor,b6' p2.gCert.gSig,b6' y2]) rfl (.app .t1) (by kernel_rfl)) (Zc (Zn (p:=[.one (.int .i64 (p2.gCert.gSerial)),.one (.int .i64 (p2.gCert.gRides)),.one (.int .i64 (p2.gCert.gPrice)),b3' p2.gCert.gAnchor,b6' p2.gCert.gSig,b6' y2]) (q:=[.one (.int .i64 (p2.gCert.gSerial)),.one (.int .i64 (p2.gCert.gRides)),.one (.int .i64 (p2.gCert.gPrice)),b3' p2.gCert.gAnchor,b6' p2.gCert.gSig,b6' y2]) rfl rfl (by kernel_rfl) (by kernel_rfl) (by kernel_rfl) (.app .here) (Z2 (Zd ?_))))))))))) (by repeat (first | exact Sup.refl _ | apply Sup.cons | apply Sup.app))⟩
 revert h; refine Z00 fun h=>?_
 subst h
 exact ⟨_,(.cons (.agg rfl (.app .here) rfl) .nil),rfl⟩
def Z6j (p0:LI) (p1:Z0d):Option (Z0d) :=
 opt (Z9w) fun y1 =>
 opt (Z3n p0 p1) fun y2 =>
 some y2
theorem Zj6 {W:World} {r:Z0d} {p0:LI} {p1:Z0d} (h:Z6j p0 p1=some r) (hG:Globs W) :
    Calls Tryz.prog 14 [agg [b3' p0],agg [.one (.int .i64 (p1.gCert.gSerial)),.one (.int .i64 (p1.gCert.gRides)),.one (.int .i64 (p1.gCert.gPrice)),b3' p1.gCert.gAnchor,b6' p1.gCert.gSig,b6' p1.gSig]].toArray W (Z2d W (agg [.one (.int .i64 (r.gCert.gSerial)),.one (.int .i64 (r.gCert.gRides)),.one (.int .i64 (r.gCert.gPrice)),b3' r.gCert.gAnchor,b6' r.gCert.gSig,b6' r.gSig])):=by
 unfold Z6j at h
 refine Z9 mo ok14 rfl ?_
 refine Z0<|Z1<|Zc (Z03 (s:=[b3' p0]) rfl fun b1 u1=>Zc (Z03 (s:=[.one (.int .i64 (p1.gCert.gSerial)),.one (.int .i64 (p1.gCert.gRides)),.one (.int .i64 (p1.gCert.gPrice)),b3' p1.gCert.gAnchor,b6' p1.gCert.gSig,b6' p1.gSig]) rfl fun b2 u2=>Zc (Zs fun b3 u3=>Z2<|Z0<|oH h fun y1 f1 h=>oH h fun y2 f2 h=>Zj<|Zg _ (Z04 (p:=[b3' p0]) rfl .t2 rfl)<|Zg _ (Z04 (p:=[.one (.int .i64 (p1.gCert.gSerial)),.one (.int .i64 (p1.gCert.gRides)),.one (.int .i64 (p1.gCert.gPrice)),b3' p1.gCert.gAnchor,b6' p1.gCert.gSig,b6' p1.gSig]) rfl .t1 (by kernel_rfl))<|Z5w _ (Z1e rfl (Zg1 f1)) (Z5w _ (Z06 rfl (fun w hw=>Zcl f2 (hG.at hw (by simp)))) (Z1n rfl (Zn (p:=[.one (.int .i64 (y2.gCert.gSerial)),.one (.int .i64 (y2.gCert.gRides)),.one (.int .i64 (y2.gCert.gPrice)),b3' y2.gCert.gAnchor,b6' y2.gCert.gSig,b6' y2.gSig]) (q:=[.one (.int .i64 (y2.gCert.gSerial)),.one (.int .i64 (y2.gCert.gRides)),.one (.int .i64 (y2.gCert.gPrice)),b3' y2.gCert.gAnchor,b6' y2.gCert.gSig,b6' y2.gSig]) rfl rfl (by kernel_rfl) (by kernel_rfl) (by kernel_rfl) .here (Zr (Zd ?_)))) (by repeat (first | exact Sup.refl _ | apply Sup.cons | apply Sup.app))) (by repeat (first | exact Sup.refl _ | apply Sup.cons | apply Sup.app)))))
 revert h; refine Z00 fun h=>?_
 subst h
 exact ⟨_,(.cons (.agg rfl .here rfl) .nil),rfl⟩
def Z2r (p1:LI) (p2:Zk):Option (Zk) :=
 opt (Z2t p2) fun y1 =>
 opt (Z7b p1 y1) fun y2 =>
 some (⟨p2.gCert,y2⟩:Zk)
theorem Za4 {W:World} {r:Zk} {p1:LI} {p2:Zk} (h:Z2r p1 p2=some r) (hG:Globs W) :
    Calls Tryz.prog 49 [agg [.one (.func (.func 35) #[] #[]),.one (.func (.func 106) #[] #[]),.one (.func (.func 107) #[] #[]),.one (.func (.func 108) #[] #[])],agg [b3' p1],agg [.one (.int .i64 (p2.gCert.gSerial)),.one (.int .i64 (p2.gCert.gRides)),.one (.int .i64 (p2.gCert.gPrice)),b3' p2.gCert.gAnchor,b6' p2.gCert.gSig,b6' p2.gSig]].toArray W (Z2d W (agg [.one (.int .i64 (r.gCert.gSerial)),.one (.int .i64 (r.gCert.gRides)),.one (.int .i64 (r.gCert.gPrice)),b3' r.gCert.gAnchor,b6' r.gCert.gSig,b6' r.gSig])):=by
 unfold Z2r at h
 refine Z9 mo ok49 rfl ?_
 refine Z0<|Z1<|Zc (Z03 (s:=[.one (.func (.func 35) #[] #[]),.one (.func (.func 106) #[] #[]),.one (.func (.func 107) #[] #[]),.one (.func (.func 108) #[] #[])]) rfl fun b1 u1=>Zc (Z03 (s:=[b3' p1]) rfl fun b2 u2=>Zc (Z03 (s:=[.one (.int .i64 (p2.gCert.gSerial)),.one (.int .i64 (p2.gCert.gRides)),.one (.int .i64 (p2.gCert.gPrice)),b3' p2.gCert.gAnchor,b6' p2.gCert.gSig,b6' p2.gSig]) rfl fun b3 u3=>Zc (Zs fun b4 u4=>Z2<|Z0<|oH h fun y1 f1 h=>oH h fun y2 f2 h=>Zj<|Z6 _ (Z1u rfl)<|Z6 _ (Z1u rfl)<|Zg _ (Z0j rfl .t3 rfl)<|Zg _ (Z04 (p:=[b3' p1]) rfl .t2 rfl)<|Zg _ (Z0j rfl .t3 rfl)<|Zg _ (Z04 (p:=[.one (.int .i64 (p2.gCert.gSerial)),.one (.int .i64 (p2.gCert.gRides)),.one (.int .i64 (p2.gCert.gPrice)),b3' p2.gCert.gAnchor,b6' p2.gCert.gSig,b6' p2.gSig]) rfl .t1 (by kernel_rfl))<|Z2c (Z5p rfl rfl rfl (fun w hw=>Zvr.2 w b3) ⟨(by repeat (first | exact Sup.refl _ | apply Sup.cons | apply Sup.app)),Z2c (Z3t rfl rfl rfl (fun w hw=>Za1  f1 ) fun v8 o1 R1=>?_)⟩)))))
 obtain ⟨_,w1,rfl,rfl,O1⟩:=R1
 refine ⟨(by repeat (first | exact Sup.refl _ | apply Sup.cons | apply Sup.app)),Z5w _ (Z06 rfl (fun w hw=>Z64 f2 (hG.at hw (by simp)) ((Z0f O1 .here) w hw))) (Z6 _ (Z1q rfl) (Z1n rfl (Zn (p:=[b6' y2]) (q:=[.one (.int .i64 (p2.gCert.gSerial)),.one (.int .i64 (p2.gCert.gRides)),.one (.int .i64 (p2.gCert.gPrice)),b3' p2.gCert.gAnchor,b6' p2.gCert.gSig,b6' y2]) rfl rfl (by kernel_rfl) (by kernel_rfl) (by kernel_rfl) (.app .t1) (Zr (Z0 (Z1 (Z4 _ (Z04 (p:=[.one (.int .i64 (p2.gCert.gSerial)),.one (.int .i64 (p2.gCert.gRides)),.one (.int .i64 (p2.gCert.gPrice)),b3' p2.gCert.gAnchor,b6' p2.gCert.gSig,b6' y2]) rfl (.app .t1) (by kernel_rfl)) (Zc (Zn (p:=[.one (.int .i64 (p2.gCert.gSerial)),.one (.int .i64 (p2.gCert.gRides)),.one (.int .i64 (p2.gCert.gPrice)),b3' p2.gCert.gAnchor,b6' p2.gCert.gSig,b6' y2]) (q:=[.one (.int .i64 (p2.gCert.gSerial)),.one (.int .i64 (p2.gCert.gRides)),.one (.int .i64 (p2.gCert.gPrice)),b3' p2.gCert.gAnchor,b6' p2.gCert.gSig,b6' y2]) rfl rfl (by kernel_rfl) (by kernel_rfl) (by kernel_rfl) (.app .here) (Z2 (Zd ?_))))))))))) (by repeat (first | exact Sup.refl _ | apply Sup.cons | apply Sup.app))⟩
 revert h; refine Z00 fun h=>?_
 subst h
 exact ⟨_,(.cons (.agg rfl (.app .here) rfl) .nil),rfl⟩
def Z3h (p0:LI) (p1:Zk):Option (Zk) :=
 opt (Z5i) fun y1 =>
 opt (Z2r p0 p1) fun y2 =>
 some y2
theorem Zfz {W:World} {r:Zk} {p0:LI} {p1:Zk} (h:Z3h p0 p1=some r) (hG:Globs W) :
    Calls Tryz.prog 15 [agg [b3' p0],agg [.one (.int .i64 (p1.gCert.gSerial)),.one (.int .i64 (p1.gCert.gRides)),.one (.int .i64 (p1.gCert.gPrice)),b3' p1.gCert.gAnchor,b6' p1.gCert.gSig,b6' p1.gSig]].toArray W (Z2d W (agg [.one (.int .i64 (r.gCert.gSerial)),.one (.int .i64 (r.gCert.gRides)),.one (.int .i64 (r.gCert.gPrice)),b3' r.gCert.gAnchor,b6' r.gCert.gSig,b6' r.gSig])):=by
 unfold Z3h at h
 refine Z9 mo ok15 rfl ?_
 refine Z0<|Z1<|Zc (Z03 (s:=[b3' p0]) rfl fun b1 u1=>Zc (Z03 (s:=[.one (.int .i64 (p1.gCert.gSerial)),.one (.int .i64 (p1.gCert.gRides)),.one (.int .i64 (p1.gCert.gPrice)),b3' p1.gCert.gAnchor,b6' p1.gCert.gSig,b6' p1.gSig]) rfl fun b2 u2=>Zc (Zs fun b3 u3=>Z2<|Z0<|oH h fun y1 f1 h=>oH h fun y2 f2 h=>Zj<|Zg _ (Z04 (p:=[b3' p0]) rfl .t2 rfl)<|Zg _ (Z04 (p:=[.one (.int .i64 (p1.gCert.gSerial)),.one (.int .i64 (p1.gCert.gRides)),.one (.int .i64 (p1.gCert.gPrice)),b3' p1.gCert.gAnchor,b6' p1.gCert.gSig,b6' p1.gSig]) rfl .t1 (by kernel_rfl))<|Z5w _ (Z1e rfl (Zcm f1)) (Z5w _ (Z06 rfl (fun w hw=>Za4 f2 (hG.at hw (by simp)))) (Z1n rfl (Zn (p:=[.one (.int .i64 (y2.gCert.gSerial)),.one (.int .i64 (y2.gCert.gRides)),.one (.int .i64 (y2.gCert.gPrice)),b3' y2.gCert.gAnchor,b6' y2.gCert.gSig,b6' y2.gSig]) (q:=[.one (.int .i64 (y2.gCert.gSerial)),.one (.int .i64 (y2.gCert.gRides)),.one (.int .i64 (y2.gCert.gPrice)),b3' y2.gCert.gAnchor,b6' y2.gCert.gSig,b6' y2.gSig]) rfl rfl (by kernel_rfl) (by kernel_rfl) (by kernel_rfl) .here (Zr (Zd ?_)))) (by repeat (first | exact Sup.refl _ | apply Sup.cons | apply Sup.app))) (by repeat (first | exact Sup.refl _ | apply Sup.cons | apply Sup.app)))))
 revert h; refine Z00 fun h=>?_
 subst h
 exact ⟨_,(.cons (.agg rfl .here rfl) .nil),rfl⟩
def Z45 (p1:Zp) (p2:Z0m):Option Bool :=
 opt (Z99 p2) fun y1 =>
 opt (Z5t p1 p2) fun y2 =>
 jn (fun (i1:Bool)=>some i1) fun k1=>br (((y1.2==0)&&y2.2)) (
 opt (Z75 p2) fun y3 =>
 opt (Z0t y2.1 y3 p2.gSig) fun y4 =>
 k1 y4
 ) (
 k1 false
 )
theorem Zcy {W:World} {r:Bool} {p1:Zp} {p2:Z0m} {v1_0:Value} (h:Z45 p1 p2=some r) (hG:Globs W) (A1_0:Z5x Z01 W v1_0 p1.gGates) :
    Calls Tryz.prog 61 [agg [.one (.func (.func 12) #[] #[]),.one (.func (.func 99) #[] #[]),.one (.func (.func 100) #[] #[]),.one (.func (.func 101) #[] #[])],agg [b3' p1.gIssuer,.one (v1_0)],agg [.one (.int .i64 (p2.gSerial)),.one (.int .i64 (p2.gRides)),.one (.int .i64 (p2.gPrice)),b3' p2.gAnchor,b6' p2.gSig]].toArray W (Z2d W (.bool (r))):=by
 unfold Z45 at h
 refine Z9 mo ok61 rfl ?_
 refine Z0<|Z1<|Zc (Z03 (s:=[.one (.func (.func 12) #[] #[]),.one (.func (.func 99) #[] #[]),.one (.func (.func 100) #[] #[]),.one (.func (.func 101) #[] #[])]) rfl fun b1 u1=>Zc (Z03 (s:=[b3' p1.gIssuer,.one (v1_0)]) rfl fun b2 u2=>Zc (Z03 (s:=[.one (.int .i64 (p2.gSerial)),.one (.int .i64 (p2.gRides)),.one (.int .i64 (p2.gPrice)),b3' p2.gAnchor,b6' p2.gSig]) rfl fun b3 u3=>Z7 rfl<|Z2<|Z0<|oH h fun y1 f1 h=>Z1<|Z4 _ (Z1u rfl)<|Z4 _ (Z0j rfl .t2 rfl)<|Z4 _ (Z04 (p:=[.one (.int .i64 (p2.gSerial)),.one (.int .i64 (p2.gRides)),.one (.int .i64 (p2.gPrice)),b3' p2.gAnchor,b6' p2.gSig]) rfl .here rfl)<|Zc (Z3t rfl rfl rfl (fun w hw=>Zcq  f1 ) fun v7 o1 R1=>?_))))
 obtain ⟨v9,w1,rfl,rfl,O1⟩:=R1
 refine Z7 rfl<|Z4 _ (Z0q rfl rfl)<|Z4 _ (Z0q rfl rfl)<|Z7 rfl<|Z7 rfl<|Z2<|Z0<|oH h fun y2 f2 h=>Z1<|Z4 _ (Z1u rfl)<|Z4 _ (Z0j rfl (.app .t2) rfl)<|Z4 _ (Z04 (p:=[b3' p1.gIssuer,.one (v1_0)]) rfl (.app .t1) rfl)<|Z4 _ (Z04 (p:=[.one (.int .i64 (p2.gSerial)),.one (.int .i64 (p2.gRides)),.one (.int .i64 (p2.gPrice)),b3' p2.gAnchor,b6' p2.gSig]) rfl (.app .here) rfl)<|Zc (Z5p rfl rfl rfl (fun w hw=>Zen f2 ((Z0z A1_0 Z17) w hw))<|Z7 rfl<|Z4 _ (Z0q rfl rfl)<|Z4 _ (Z0q rfl rfl)<|Zc (Zs fun b4 u4=>Zc (Zn (q:=[b3' y2.1]) rfl rfl rfl rfl rfl .here<|Z7 rfl<|Z2<|Z0<|jH h fun k1 q1 h=>Zq (G:=fun t m=>∃ (i1:Bool),k1 i1=some r/\Fit [(6,.bool (i1))] (ck b4 43 [b3' y2.1]::(ck b3 29 [.one (.int .i64 (p2.gSerial)),.one (.int .i64 (p2.gRides)),.one (.int .i64 (p2.gPrice)),b3' p2.gAnchor,b6' p2.gSig]::(ck b2 46 [b3' p1.gIssuer,.one (v1_0)]::(ck b1 102 [.one (.func (.func 12) #[] #[]),.one (.func (.func 99) #[] #[]),.one (.func (.func 100) #[] #[]),.one (.func (.func 101) #[] #[])] :: [])))) t m) ?_ ?_)))
 ·refine Zj<|Z6 _ (Z09 rfl)<|Z6 _ (Zb rfl rfl rfl)<|Z6 _ (Z09 rfl)<|Zim rfl rfl rfl (fun hg1=>Z31 rfl _ (Z09 rfl) (Z2a)) (fun hg1=>rfl) rfl<|Z6 _ (Z09 rfl)<|Ztx (tc:=31) h rfl (fun h=>?_) (fun h=>?_)
  ·refine oH h fun y3 f3 h=>oH h fun y4 f4 h=>Zfc rfl _ (Z1u rfl)<|Zfc rfl _ (Z1u rfl)<|Zb1 rfl _ (Z04 (p:=[b3' y2.1]) rfl .here rfl)<|Zb1 rfl _ (Z0j rfl (.there (.app .t2)) rfl)<|Zb1 rfl _ (Z04 (p:=[.one (.int .i64 (p2.gSerial)),.one (.int .i64 (p2.gRides)),.one (.int .i64 (p2.gPrice)),b3' p2.gAnchor,b6' p2.gSig]) rfl (.there (.app .here)) rfl)<|Zb1 rfl _ (Z0j rfl (.there (.app .t2)) rfl)<|Zek rfl (Z3t rfl rfl rfl (fun w hw=>Zex  f3 ) fun v27 o2 R2=>?_)
   obtain ⟨_,w2,rfl,rfl,O2⟩:=R2
   exact ⟨(by repeat (first | exact Sup.refl _ | apply Sup.cons | apply Sup.app)),Zek rfl (Z5p rfl rfl rfl (fun w hw=>Zvp.2 w b3) ⟨(by repeat (first | exact Sup.refl _ | apply Sup.cons | apply Sup.app)),Zfc rfl _ (Z1q rfl) (Zez rfl _ (Z04 (p:=[b6' p2.gSig]) rfl (.app (.there (.app .here))) rfl) (Zez rfl _ (Z06 rfl (fun w hw=>Z4d f4 (hG.at hw (by simp)) ((Z0f O2 .here) w hw))) (Z6 _ (Znm rfl rfl) (Z6 _ (Z09 rfl) (Zr (⟨y4,h,⟨⟨rfl,trivial⟩,(.one (.app .here) (.one (.app (.app .here)) (.one (.app (.app .here)) (.one (.app (.app .here)) .nil))))⟩⟩)))) (by repeat (first | exact Sup.refl _ | apply Sup.cons | apply Sup.app))) (by repeat (first | exact Sup.refl _ | apply Sup.cons | apply Sup.app)))⟩)⟩
  ·exact Z96 rfl rfl<|Z96 rfl rfl<|Z67 rfl rfl<|Z67 rfl rfl<|Z67 rfl rfl<|Z67 rfl rfl<|Zb2 rfl rfl<|Zb2 rfl rfl<|Z96 rfl rfl<|Zb2 rfl rfl<|Zb2 rfl rfl<|Z6 _ (Znk rfl rfl)<|Z6 _ (Z09 rfl)<|Zr<|⟨false,h,⟨⟨rfl,trivial⟩,(.o (.one (.app .here) (.one (.app .here) (.one (.app .here) .nil))))⟩⟩
 ·rintro t m ⟨i1,h,hF⟩
  refine Zo hF ?_
  clear hF
  subst q1
  refine Zd ?_
  revert h; refine Z00 fun h=>?_
  subst h
  exact ⟨_,(.cons (.tmp rfl) .nil),rfl⟩
def Z7h (p0:Zp) (p1:Z0m):Option Bool :=
 opt (Zdj) fun y1 =>
 opt (Z45 p0 p1) fun y2 =>
 some y2
theorem Zjw {W:World} {r:Bool} {p0:Zp} {p1:Z0m} {v0_0:Value} (h:Z7h p0 p1=some r) (hG:Globs W) (A0_0:Z5x Z01 W v0_0 p0.gGates) :
    Calls Tryz.prog 24 [agg [b3' p0.gIssuer,.one (v0_0)],agg [.one (.int .i64 (p1.gSerial)),.one (.int .i64 (p1.gRides)),.one (.int .i64 (p1.gPrice)),b3' p1.gAnchor,b6' p1.gSig]].toArray W (Z2d W (.bool (r))):=by
 unfold Z7h at h
 refine Z9 mo ok24 rfl ?_
 refine Z0<|Z1<|Zc (Z03 (s:=[b3' p0.gIssuer,.one (v0_0)]) rfl fun b1 u1=>Zc (Z03 (s:=[.one (.int .i64 (p1.gSerial)),.one (.int .i64 (p1.gRides)),.one (.int .i64 (p1.gPrice)),b3' p1.gAnchor,b6' p1.gSig]) rfl fun b2 u2=>Z7 rfl<|Z2<|Z0<|oH h fun y1 f1 h=>oH h fun y2 f2 h=>Zj<|Zg _ (Z04 (p:=[b3' p0.gIssuer,.one (v0_0)]) rfl .t1 rfl)<|Zg _ (Z04 (p:=[.one (.int .i64 (p1.gSerial)),.one (.int .i64 (p1.gRides)),.one (.int .i64 (p1.gPrice)),b3' p1.gAnchor,b6' p1.gSig]) rfl .here rfl)<|Z5w _ (Z1e rfl (Zi9 f1)) (Z5w _ (Z06 rfl (fun w hw=>Zcy f2 (hG.at hw (by simp)) ((Z0z A0_0 Z17) w hw))) (Z6 _ (Z09 rfl) (Zr (Zd ?_))) (by repeat (first | exact Sup.refl _ | apply Sup.cons | apply Sup.app))) (by repeat (first | exact Sup.refl _ | apply Sup.cons | apply Sup.app))))
 revert h; refine Z00 fun h=>?_
 subst h
 exact ⟨_,(.cons (.tmp rfl) .nil),rfl⟩
def Z3a (p1:Zp) (p2:Z0d):Option Bool :=
 opt (Z7s p2) fun y1 =>
 opt (Z4i p1 p2) fun y2 =>
 jn (fun (i1:Bool)=>some i1) fun k1=>br (((y1.2==0)&&y2.2)) (
 opt (Z53 p2) fun y3 =>
 opt (Z0t y2.1 y3 p2.gSig) fun y4 =>
 k1 y4
 ) (
 k1 false
 )
theorem Zbn {W:World} {r:Bool} {p1:Zp} {p2:Z0d} {v1_0:Value} (h:Z3a p1 p2=some r) (hG:Globs W) (A1_0:Z5x Z01 W v1_0 p1.gGates) :
    Calls Tryz.prog 62 [agg [.one (.func (.func 33) #[] #[]),.one (.func (.func 103) #[] #[]),.one (.func (.func 104) #[] #[]),.one (.func (.func 105) #[] #[])],agg [b3' p1.gIssuer,.one (v1_0)],agg [.one (.int .i64 (p2.gCert.gSerial)),.one (.int .i64 (p2.gCert.gRides)),.one (.int .i64 (p2.gCert.gPrice)),b3' p2.gCert.gAnchor,b6' p2.gCert.gSig,b6' p2.gSig]].toArray W (Z2d W (.bool (r))):=by
 unfold Z3a at h
 refine Z9 mo ok62 rfl ?_
 refine Z0<|Z1<|Zc (Z03 (s:=[.one (.func (.func 33) #[] #[]),.one (.func (.func 103) #[] #[]),.one (.func (.func 104) #[] #[]),.one (.func (.func 105) #[] #[])]) rfl fun b1 u1=>Zc (Z03 (s:=[b3' p1.gIssuer,.one (v1_0)]) rfl fun b2 u2=>Zc (Z03 (s:=[.one (.int .i64 (p2.gCert.gSerial)),.one (.int .i64 (p2.gCert.gRides)),.one (.int .i64 (p2.gCert.gPrice)),b3' p2.gCert.gAnchor,b6' p2.gCert.gSig,b6' p2.gSig]) rfl fun b3 u3=>Z7 rfl<|Z2<|Z0<|oH h fun y1 f1 h=>Z1<|Z4 _ (Z1u rfl)<|Z4 _ (Z0j rfl .t2 rfl)<|Z4 _ (Z04 (p:=[.one (.int .i64 (p2.gCert.gSerial)),.one (.int .i64 (p2.gCert.gRides)),.one (.int .i64 (p2.gCert.gPrice)),b3' p2.gCert.gAnchor,b6' p2.gCert.gSig,b6' p2.gSig]) rfl .here (by kernel_rfl))<|Zc (Z3t rfl rfl rfl (fun w hw=>Zav  f1 ) fun v7 o1 R1=>?_))))
 obtain ⟨v9,w1,rfl,rfl,O1⟩:=R1
 refine Z7 rfl<|Z4 _ (Z0q rfl rfl)<|Z4 _ (Z0q rfl rfl)<|Z7 rfl<|Z7 rfl<|Z2<|Z0<|oH h fun y2 f2 h=>Z1<|Z4 _ (Z1u rfl)<|Z4 _ (Z0j rfl (.app .t2) rfl)<|Z4 _ (Z04 (p:=[b3' p1.gIssuer,.one (v1_0)]) rfl (.app .t1) rfl)<|Z4 _ (Z04 (p:=[.one (.int .i64 (p2.gCert.gSerial)),.one (.int .i64 (p2.gCert.gRides)),.one (.int .i64 (p2.gCert.gPrice)),b3' p2.gCert.gAnchor,b6' p2.gCert.gSig,b6' p2.gSig]) rfl (.app .here) (by kernel_rfl))<|Zc (Z5p rfl rfl rfl (fun w hw=>Zdd f2 ((Z0z A1_0 Z17) w hw))<|Z7 rfl<|Z4 _ (Z0q rfl rfl)<|Z4 _ (Z0q rfl rfl)<|Zc (Zs fun b4 u4=>Zc (Zn (q:=[b3' y2.1]) rfl rfl rfl rfl rfl .here<|Z7 rfl<|Z2<|Z0<|jH h fun k1 q1 h=>Zq (G:=fun t m=>∃ (i1:Bool),k1 i1=some r/\Fit [(6,.bool (i1))] (ck b4 43 [b3' y2.1]::(ck b3 31 [.one (.int .i64 (p2.gCert.gSerial)),.one (.int .i64 (p2.gCert.gRides)),.one (.int .i64 (p2.gCert.gPrice)),b3' p2.gCert.gAnchor,b6' p2.gCert.gSig,b6' p2.gSig]::(ck b2 46 [b3' p1.gIssuer,.one (v1_0)]::(ck b1 108 [.one (.func (.func 33) #[] #[]),.one (.func (.func 103) #[] #[]),.one (.func (.func 104) #[] #[]),.one (.func (.func 105) #[] #[])] :: [])))) t m) ?_ ?_)))
 ·refine Zj<|Z6 _ (Z09 rfl)<|Z6 _ (Zb rfl rfl rfl)<|Z6 _ (Z09 rfl)<|Zim rfl rfl rfl (fun hg1=>Z31 rfl _ (Z09 rfl) (Z2a)) (fun hg1=>rfl) rfl<|Z6 _ (Z09 rfl)<|Ztx (tc:=31) h rfl (fun h=>?_) (fun h=>?_)
  ·refine oH h fun y3 f3 h=>oH h fun y4 f4 h=>Zfc rfl _ (Z1u rfl)<|Zfc rfl _ (Z1u rfl)<|Zb1 rfl _ (Z04 (p:=[b3' y2.1]) rfl .here rfl)<|Zb1 rfl _ (Z0j rfl (.there (.app .t2)) rfl)<|Zb1 rfl _ (Z04 (p:=[.one (.int .i64 (p2.gCert.gSerial)),.one (.int .i64 (p2.gCert.gRides)),.one (.int .i64 (p2.gCert.gPrice)),b3' p2.gCert.gAnchor,b6' p2.gCert.gSig,b6' p2.gSig]) rfl (.there (.app .here)) (by kernel_rfl))<|Zb1 rfl _ (Z0j rfl (.there (.app .t2)) rfl)<|Zek rfl (Z3t rfl rfl rfl (fun w hw=>Zd7  f3 ) fun v27 o2 R2=>?_)
   obtain ⟨_,w2,rfl,rfl,O2⟩:=R2
   exact ⟨(by repeat (first | exact Sup.refl _ | apply Sup.cons | apply Sup.app)),Zek rfl (Z5p rfl rfl rfl (fun w hw=>Zvq.2 w b3) ⟨(by repeat (first | exact Sup.refl _ | apply Sup.cons | apply Sup.app)),Zfc rfl _ (Z1q rfl) (Zez rfl _ (Z04 (p:=[b6' p2.gSig]) rfl (.app (.there (.app .here))) (by kernel_rfl)) (Zez rfl _ (Z06 rfl (fun w hw=>Z4d f4 (hG.at hw (by simp)) ((Z0f O2 .here) w hw))) (Z6 _ (Znm rfl rfl) (Z6 _ (Z09 rfl) (Zr (⟨y4,h,⟨⟨rfl,trivial⟩,(.one (.app .here) (.one (.app (.app .here)) (.one (.app (.app .here)) (.one (.app (.app .here)) .nil))))⟩⟩)))) (by repeat (first | exact Sup.refl _ | apply Sup.cons | apply Sup.app))) (by repeat (first | exact Sup.refl _ | apply Sup.cons | apply Sup.app)))⟩)⟩
  ·exact Z96 rfl rfl<|Z96 rfl rfl<|Z67 rfl rfl<|Z67 rfl rfl<|Z67 rfl rfl<|Z67 rfl rfl<|Zb2 rfl rfl<|Zb2 rfl rfl<|Z96 rfl rfl<|Zb2 rfl rfl<|Zb2 rfl rfl<|Z6 _ (Znk rfl rfl)<|Z6 _ (Z09 rfl)<|Zr<|⟨false,h,⟨⟨rfl,trivial⟩,(.o (.one (.app .here) (.one (.app .here) (.one (.app .here) .nil))))⟩⟩
 ·rintro t m ⟨i1,h,hF⟩
  refine Zo hF ?_
  clear hF
  subst q1
  refine Zd ?_
  revert h; refine Z00 fun h=>?_
  subst h
  exact ⟨_,(.cons (.tmp rfl) .nil),rfl⟩
def Z5g (p0:Zp) (p1:Z0d):Option Bool :=
 opt (Z9w) fun y1 =>
 opt (Z3a p0 p1) fun y2 =>
 some y2
theorem Zi7 {W:World} {r:Bool} {p0:Zp} {p1:Z0d} {v0_0:Value} (h:Z5g p0 p1=some r) (hG:Globs W) (A0_0:Z5x Z01 W v0_0 p0.gGates) :
    Calls Tryz.prog 25 [agg [b3' p0.gIssuer,.one (v0_0)],agg [.one (.int .i64 (p1.gCert.gSerial)),.one (.int .i64 (p1.gCert.gRides)),.one (.int .i64 (p1.gCert.gPrice)),b3' p1.gCert.gAnchor,b6' p1.gCert.gSig,b6' p1.gSig]].toArray W (Z2d W (.bool (r))):=by
 unfold Z5g at h
 refine Z9 mo ok25 rfl ?_
 refine Z0<|Z1<|Zc (Z03 (s:=[b3' p0.gIssuer,.one (v0_0)]) rfl fun b1 u1=>Zc (Z03 (s:=[.one (.int .i64 (p1.gCert.gSerial)),.one (.int .i64 (p1.gCert.gRides)),.one (.int .i64 (p1.gCert.gPrice)),b3' p1.gCert.gAnchor,b6' p1.gCert.gSig,b6' p1.gSig]) rfl fun b2 u2=>Z7 rfl<|Z2<|Z0<|oH h fun y1 f1 h=>oH h fun y2 f2 h=>Zj<|Zg _ (Z04 (p:=[b3' p0.gIssuer,.one (v0_0)]) rfl .t1 rfl)<|Zg _ (Z04 (p:=[.one (.int .i64 (p1.gCert.gSerial)),.one (.int .i64 (p1.gCert.gRides)),.one (.int .i64 (p1.gCert.gPrice)),b3' p1.gCert.gAnchor,b6' p1.gCert.gSig,b6' p1.gSig]) rfl .here (by kernel_rfl))<|Z5w _ (Z1e rfl (Zg1 f1)) (Z5w _ (Z06 rfl (fun w hw=>Zbn f2 (hG.at hw (by simp)) ((Z0z A0_0 Z17) w hw))) (Z6 _ (Z09 rfl) (Zr (Zd ?_))) (by repeat (first | exact Sup.refl _ | apply Sup.cons | apply Sup.app))) (by repeat (first | exact Sup.refl _ | apply Sup.cons | apply Sup.app))))
 revert h; refine Z00 fun h=>?_
 subst h
 exact ⟨_,(.cons (.tmp rfl) .nil),rfl⟩
def Z4j (p1:Zp) (p2:Z19):Option Bool :=
 opt (Zau p2) fun y1 =>
 opt (Zg2 p1 p2) fun y2 =>
 jn (fun (i1:Bool)=>some i1) fun k1=>br (((y1.2==0)&&y2.2)) (
 opt (Za0 p2) fun y3 =>
 opt (Z0t y2.1 y3 p2.gSig) fun y4 =>
 k1 y4
 ) (
 k1 false
 )
theorem Zde {W:World} {r:Bool} {p1:Zp} {p2:Z19} {v1_0:Value} (h:Z4j p1 p2=some r) (hG:Globs W) (A1_0:Z5x Z01 W v1_0 p1.gGates) :
    Calls Tryz.prog 64 [agg [.one (.func (.func 34) #[] #[]),.one (.func (.func 125) #[] #[]),.one (.func (.func 126) #[] #[]),.one (.func (.func 127) #[] #[])],agg [b3' p1.gIssuer,.one (v1_0)],agg [.one (.int .i64 (p2.gSerial)),.one (.int .i64 (p2.gGate)),.one (.int .i64 (p2.gIndex)),b3' p2.gValue,b6' p2.gSig]].toArray W (Z2d W (.bool (r))):=by
 unfold Z4j at h
 refine Z9 mo ok64 rfl ?_
 refine Z0<|Z1<|Zc (Z03 (s:=[.one (.func (.func 34) #[] #[]),.one (.func (.func 125) #[] #[]),.one (.func (.func 126) #[] #[]),.one (.func (.func 127) #[] #[])]) rfl fun b1 u1=>Zc (Z03 (s:=[b3' p1.gIssuer,.one (v1_0)]) rfl fun b2 u2=>Zc (Z03 (s:=[.one (.int .i64 (p2.gSerial)),.one (.int .i64 (p2.gGate)),.one (.int .i64 (p2.gIndex)),b3' p2.gValue,b6' p2.gSig]) rfl fun b3 u3=>Z7 rfl<|Z2<|Z0<|oH h fun y1 f1 h=>Z1<|Z4 _ (Z1u rfl)<|Z4 _ (Z0j rfl .t2 rfl)<|Z4 _ (Z04 (p:=[.one (.int .i64 (p2.gSerial)),.one (.int .i64 (p2.gGate)),.one (.int .i64 (p2.gIndex)),b3' p2.gValue,b6' p2.gSig]) rfl .here rfl)<|Zc (Z3t rfl rfl rfl (fun w hw=>Zd6  f1 ) fun v7 o1 R1=>?_))))
 obtain ⟨v9,w1,rfl,rfl,O1⟩:=R1
 refine Z7 rfl<|Z4 _ (Z0q rfl rfl)<|Z4 _ (Z0q rfl rfl)<|Z7 rfl<|Z7 rfl<|Z2<|Z0<|oH h fun y2 f2 h=>Z1<|Z4 _ (Z1u rfl)<|Z4 _ (Z0j rfl (.app .t2) rfl)<|Z4 _ (Z04 (p:=[b3' p1.gIssuer,.one (v1_0)]) rfl (.app .t1) rfl)<|Z4 _ (Z04 (p:=[.one (.int .i64 (p2.gSerial)),.one (.int .i64 (p2.gGate)),.one (.int .i64 (p2.gIndex)),b3' p2.gValue,b6' p2.gSig]) rfl (.app .here) rfl)<|Zc (Z5p rfl rfl rfl (fun w hw=>Znq f2 ((Z0z A1_0 Z17) w hw))<|Z7 rfl<|Z4 _ (Z0q rfl rfl)<|Z4 _ (Z0q rfl rfl)<|Zc (Zs fun b4 u4=>Zc (Zn (q:=[b3' y2.1]) rfl rfl rfl rfl rfl .here<|Z7 rfl<|Z2<|Z0<|jH h fun k1 q1 h=>Zq (G:=fun t m=>∃ (i1:Bool),k1 i1=some r/\Fit [(6,.bool (i1))] (ck b4 43 [b3' y2.1]::(ck b3 33 [.one (.int .i64 (p2.gSerial)),.one (.int .i64 (p2.gGate)),.one (.int .i64 (p2.gIndex)),b3' p2.gValue,b6' p2.gSig]::(ck b2 46 [b3' p1.gIssuer,.one (v1_0)]::(ck b1 142 [.one (.func (.func 34) #[] #[]),.one (.func (.func 125) #[] #[]),.one (.func (.func 126) #[] #[]),.one (.func (.func 127) #[] #[])] :: [])))) t m) ?_ ?_)))
 ·refine Zj<|Z6 _ (Z09 rfl)<|Z6 _ (Zb rfl rfl rfl)<|Z6 _ (Z09 rfl)<|Zim rfl rfl rfl (fun hg1=>Z31 rfl _ (Z09 rfl) (Z2a)) (fun hg1=>rfl) rfl<|Z6 _ (Z09 rfl)<|Ztx (tc:=31) h rfl (fun h=>?_) (fun h=>?_)
  ·refine oH h fun y3 f3 h=>oH h fun y4 f4 h=>Zfc rfl _ (Z1u rfl)<|Zfc rfl _ (Z1u rfl)<|Zb1 rfl _ (Z04 (p:=[b3' y2.1]) rfl .here rfl)<|Zb1 rfl _ (Z0j rfl (.there (.app .t2)) rfl)<|Zb1 rfl _ (Z04 (p:=[.one (.int .i64 (p2.gSerial)),.one (.int .i64 (p2.gGate)),.one (.int .i64 (p2.gIndex)),b3' p2.gValue,b6' p2.gSig]) rfl (.there (.app .here)) rfl)<|Zb1 rfl _ (Z0j rfl (.there (.app .t2)) rfl)<|Zek rfl (Z3t rfl rfl rfl (fun w hw=>Zgd  f3 ) fun v27 o2 R2=>?_)
   obtain ⟨_,w2,rfl,rfl,O2⟩:=R2
   exact ⟨(by repeat (first | exact Sup.refl _ | apply Sup.cons | apply Sup.app)),Zek rfl (Z5p rfl rfl rfl (fun w hw=>Zvt.2 w b3) ⟨(by repeat (first | exact Sup.refl _ | apply Sup.cons | apply Sup.app)),Zfc rfl _ (Z1q rfl) (Zez rfl _ (Z04 (p:=[b6' p2.gSig]) rfl (.app (.there (.app .here))) rfl) (Zez rfl _ (Z06 rfl (fun w hw=>Z4d f4 (hG.at hw (by simp)) ((Z0f O2 .here) w hw))) (Z6 _ (Znm rfl rfl) (Z6 _ (Z09 rfl) (Zr (⟨y4,h,⟨⟨rfl,trivial⟩,(.one (.app .here) (.one (.app (.app .here)) (.one (.app (.app .here)) (.one (.app (.app .here)) .nil))))⟩⟩)))) (by repeat (first | exact Sup.refl _ | apply Sup.cons | apply Sup.app))) (by repeat (first | exact Sup.refl _ | apply Sup.cons | apply Sup.app)))⟩)⟩
  ·exact Z96 rfl rfl<|Z96 rfl rfl<|Z67 rfl rfl<|Z67 rfl rfl<|Z67 rfl rfl<|Z67 rfl rfl<|Zb2 rfl rfl<|Zb2 rfl rfl<|Z96 rfl rfl<|Zb2 rfl rfl<|Zb2 rfl rfl<|Z6 _ (Znk rfl rfl)<|Z6 _ (Z09 rfl)<|Zr<|⟨false,h,⟨⟨rfl,trivial⟩,(.o (.one (.app .here) (.one (.app .here) (.one (.app .here) .nil))))⟩⟩
 ·rintro t m ⟨i1,h,hF⟩
  refine Zo hF ?_
  clear hF
  subst q1
  refine Zd ?_
  revert h; refine Z00 fun h=>?_
  subst h
  exact ⟨_,(.cons (.tmp rfl) .nil),rfl⟩
def Zam (p0:Zp) (p1:Z19):Option Bool :=
 opt (Zg0) fun y1 =>
 opt (Z4j p0 p1) fun y2 =>
 some y2
theorem Zko {W:World} {r:Bool} {p0:Zp} {p1:Z19} {v0_0:Value} (h:Zam p0 p1=some r) (hG:Globs W) (A0_0:Z5x Z01 W v0_0 p0.gGates) :
    Calls Tryz.prog 26 [agg [b3' p0.gIssuer,.one (v0_0)],agg [.one (.int .i64 (p1.gSerial)),.one (.int .i64 (p1.gGate)),.one (.int .i64 (p1.gIndex)),b3' p1.gValue,b6' p1.gSig]].toArray W (Z2d W (.bool (r))):=by
 unfold Zam at h
 refine Z9 mo ok26 rfl ?_
 refine Z0<|Z1<|Zc (Z03 (s:=[b3' p0.gIssuer,.one (v0_0)]) rfl fun b1 u1=>Zc (Z03 (s:=[.one (.int .i64 (p1.gSerial)),.one (.int .i64 (p1.gGate)),.one (.int .i64 (p1.gIndex)),b3' p1.gValue,b6' p1.gSig]) rfl fun b2 u2=>Z7 rfl<|Z2<|Z0<|oH h fun y1 f1 h=>oH h fun y2 f2 h=>Zj<|Zg _ (Z04 (p:=[b3' p0.gIssuer,.one (v0_0)]) rfl .t1 rfl)<|Zg _ (Z04 (p:=[.one (.int .i64 (p1.gSerial)),.one (.int .i64 (p1.gGate)),.one (.int .i64 (p1.gIndex)),b3' p1.gValue,b6' p1.gSig]) rfl .here rfl)<|Z5w _ (Z1e rfl (Zjk f1)) (Z5w _ (Z06 rfl (fun w hw=>Zde f2 (hG.at hw (by simp)) ((Z0z A0_0 Z17) w hw))) (Z6 _ (Z09 rfl) (Zr (Zd ?_))) (by repeat (first | exact Sup.refl _ | apply Sup.cons | apply Sup.app))) (by repeat (first | exact Sup.refl _ | apply Sup.cons | apply Sup.app))))
 revert h; refine Z00 fun h=>?_
 subst h
 exact ⟨_,(.cons (.tmp rfl) .nil),rfl⟩
def Z59 (p1:LI) (p2:Z19):Option (Z19) :=
 opt (Za0 p2) fun y1 =>
 opt (Z7b p1 y1) fun y2 =>
 some (⟨p2.gSerial,p2.gGate,p2.gIndex,p2.gValue,y2⟩:Z19)
theorem Ze7 {W:World} {r:Z19} {p1:LI} {p2:Z19} (h:Z59 p1 p2=some r) (hG:Globs W) :
    Calls Tryz.prog 65 [agg [.one (.func (.func 34) #[] #[]),.one (.func (.func 125) #[] #[]),.one (.func (.func 126) #[] #[]),.one (.func (.func 127) #[] #[])],agg [b3' p1],agg [.one (.int .i64 (p2.gSerial)),.one (.int .i64 (p2.gGate)),.one (.int .i64 (p2.gIndex)),b3' p2.gValue,b6' p2.gSig]].toArray W (Z2d W (agg [.one (.int .i64 (r.gSerial)),.one (.int .i64 (r.gGate)),.one (.int .i64 (r.gIndex)),b3' r.gValue,b6' r.gSig])):=by
 unfold Z59 at h
 refine Z9 mo ok65 rfl ?_
 refine Z0<|Z1<|Zc (Z03 (s:=[.one (.func (.func 34) #[] #[]),.one (.func (.func 125) #[] #[]),.one (.func (.func 126) #[] #[]),.one (.func (.func 127) #[] #[])]) rfl fun b1 u1=>Zc (Z03 (s:=[b3' p1]) rfl fun b2 u2=>Zc (Z03 (s:=[.one (.int .i64 (p2.gSerial)),.one (.int .i64 (p2.gGate)),.one (.int .i64 (p2.gIndex)),b3' p2.gValue,b6' p2.gSig]) rfl fun b3 u3=>Zc (Zs fun b4 u4=>Z2<|Z0<|oH h fun y1 f1 h=>oH h fun y2 f2 h=>Zj<|Z6 _ (Z1u rfl)<|Z6 _ (Z1u rfl)<|Zg _ (Z0j rfl .t3 rfl)<|Zg _ (Z04 (p:=[b3' p1]) rfl .t2 rfl)<|Zg _ (Z0j rfl .t3 rfl)<|Zg _ (Z04 (p:=[.one (.int .i64 (p2.gSerial)),.one (.int .i64 (p2.gGate)),.one (.int .i64 (p2.gIndex)),b3' p2.gValue,b6' p2.gSig]) rfl .t1 rfl)<|Z2c (Z5p rfl rfl rfl (fun w hw=>Zvt.2 w b3) ⟨(by repeat (first | exact Sup.refl _ | apply Sup.cons | apply Sup.app)),Z2c (Z3t rfl rfl rfl (fun w hw=>Zgd  f1 ) fun v8 o1 R1=>?_)⟩)))))
 obtain ⟨_,w1,rfl,rfl,O1⟩:=R1
 refine ⟨(by repeat (first | exact Sup.refl _ | apply Sup.cons | apply Sup.app)),Z5w _ (Z06 rfl (fun w hw=>Z64 f2 (hG.at hw (by simp)) ((Z0f O1 .here) w hw))) (Z6 _ (Z1q rfl) (Z1n rfl (Zn (q:=[.one (.int .i64 (p2.gSerial)),.one (.int .i64 (p2.gGate)),.one (.int .i64 (p2.gIndex)),b3' p2.gValue,b6' y2]) rfl rfl rfl rfl rfl (.app .t1) (Zr (Z0 (Z1 (Z4 _ (Z04 (p:=[.one (.int .i64 (p2.gSerial)),.one (.int .i64 (p2.gGate)),.one (.int .i64 (p2.gIndex)),b3' p2.gValue,b6' y2]) rfl (.app .t1) rfl) (Zc (Zn (q:=[.one (.int .i64 (p2.gSerial)),.one (.int .i64 (p2.gGate)),.one (.int .i64 (p2.gIndex)),b3' p2.gValue,b6' y2]) rfl rfl rfl rfl rfl (.app .here) (Z2 (Zd ?_))))))))))) (by repeat (first | exact Sup.refl _ | apply Sup.cons | apply Sup.app))⟩
 revert h; refine Z00 fun h=>?_
 subst h
 exact ⟨_,(.cons (.agg rfl (.app .here) rfl) .nil),rfl⟩
def Z9v (p0:LI) (p1:Z19):Option (Z19) :=
 opt (Zg0) fun y1 =>
 opt (Z59 p0 p1) fun y2 =>
 some y2
theorem Zli {W:World} {r:Z19} {p0:LI} {p1:Z19} (h:Z9v p0 p1=some r) (hG:Globs W) :
    Calls Tryz.prog 27 [agg [b3' p0],agg [.one (.int .i64 (p1.gSerial)),.one (.int .i64 (p1.gGate)),.one (.int .i64 (p1.gIndex)),b3' p1.gValue,b6' p1.gSig]].toArray W (Z2d W (agg [.one (.int .i64 (r.gSerial)),.one (.int .i64 (r.gGate)),.one (.int .i64 (r.gIndex)),b3' r.gValue,b6' r.gSig])):=by
 unfold Z9v at h
 refine Z9 mo ok27 rfl ?_
 refine Z0<|Z1<|Zc (Z03 (s:=[b3' p0]) rfl fun b1 u1=>Zc (Z03 (s:=[.one (.int .i64 (p1.gSerial)),.one (.int .i64 (p1.gGate)),.one (.int .i64 (p1.gIndex)),b3' p1.gValue,b6' p1.gSig]) rfl fun b2 u2=>Zc (Zs fun b3 u3=>Z2<|Z0<|oH h fun y1 f1 h=>oH h fun y2 f2 h=>Zj<|Zg _ (Z04 (p:=[b3' p0]) rfl .t2 rfl)<|Zg _ (Z04 (p:=[.one (.int .i64 (p1.gSerial)),.one (.int .i64 (p1.gGate)),.one (.int .i64 (p1.gIndex)),b3' p1.gValue,b6' p1.gSig]) rfl .t1 rfl)<|Z5w _ (Z1e rfl (Zjk f1)) (Z5w _ (Z06 rfl (fun w hw=>Ze7 f2 (hG.at hw (by simp)))) (Z1n rfl (Zn (q:=[.one (.int .i64 (y2.gSerial)),.one (.int .i64 (y2.gGate)),.one (.int .i64 (y2.gIndex)),b3' y2.gValue,b6' y2.gSig]) rfl rfl rfl rfl rfl .here (Zr (Zd ?_)))) (by repeat (first | exact Sup.refl _ | apply Sup.cons | apply Sup.app))) (by repeat (first | exact Sup.refl _ | apply Sup.cons | apply Sup.app)))))
 revert h; refine Z00 fun h=>?_
 subst h
 exact ⟨_,(.cons (.agg rfl .here rfl) .nil),rfl⟩
def Z2h (p1:Zp) (p2:Zk):Option Bool :=
 opt (Z5a p2) fun y1 =>
 opt (Z32 p1 p2) fun y2 =>
 jn (fun (i1:Bool)=>some i1) fun k1=>br (((y1.2==0)&&y2.2)) (
 opt (Z2t p2) fun y3 =>
 opt (Z0t y2.1 y3 p2.gSig) fun y4 =>
 k1 y4
 ) (
 k1 false
 )
theorem Z9i {W:World} {r:Bool} {p1:Zp} {p2:Zk} {v1_0:Value} (h:Z2h p1 p2=some r) (hG:Globs W) (A1_0:Z5x Z01 W v1_0 p1.gGates) :
    Calls Tryz.prog 66 [agg [.one (.func (.func 35) #[] #[]),.one (.func (.func 106) #[] #[]),.one (.func (.func 107) #[] #[]),.one (.func (.func 108) #[] #[])],agg [b3' p1.gIssuer,.one (v1_0)],agg [.one (.int .i64 (p2.gCert.gSerial)),.one (.int .i64 (p2.gCert.gRides)),.one (.int .i64 (p2.gCert.gPrice)),b3' p2.gCert.gAnchor,b6' p2.gCert.gSig,b6' p2.gSig]].toArray W (Z2d W (.bool (r))):=by
 unfold Z2h at h
 refine Z9 mo ok66 rfl ?_
 refine Z0<|Z1<|Zc (Z03 (s:=[.one (.func (.func 35) #[] #[]),.one (.func (.func 106) #[] #[]),.one (.func (.func 107) #[] #[]),.one (.func (.func 108) #[] #[])]) rfl fun b1 u1=>Zc (Z03 (s:=[b3' p1.gIssuer,.one (v1_0)]) rfl fun b2 u2=>Zc (Z03 (s:=[.one (.int .i64 (p2.gCert.gSerial)),.one (.int .i64 (p2.gCert.gRides)),.one (.int .i64 (p2.gCert.gPrice)),b3' p2.gCert.gAnchor,b6' p2.gCert.gSig,b6' p2.gSig]) rfl fun b3 u3=>Z7 rfl<|Z2<|Z0<|oH h fun y1 f1 h=>Z1<|Z4 _ (Z1u rfl)<|Z4 _ (Z0j rfl .t2 rfl)<|Z4 _ (Z04 (p:=[.one (.int .i64 (p2.gCert.gSerial)),.one (.int .i64 (p2.gCert.gRides)),.one (.int .i64 (p2.gCert.gPrice)),b3' p2.gCert.gAnchor,b6' p2.gCert.gSig,b6' p2.gSig]) rfl .here (by kernel_rfl))<|Zc (Z3t rfl rfl rfl (fun w hw=>Z8k  f1 ) fun v7 o1 R1=>?_))))
 obtain ⟨v9,w1,rfl,rfl,O1⟩:=R1
 refine Z7 rfl<|Z4 _ (Z0q rfl rfl)<|Z4 _ (Z0q rfl rfl)<|Z7 rfl<|Z7 rfl<|Z2<|Z0<|oH h fun y2 f2 h=>Z1<|Z4 _ (Z1u rfl)<|Z4 _ (Z0j rfl (.app .t2) rfl)<|Z4 _ (Z04 (p:=[b3' p1.gIssuer,.one (v1_0)]) rfl (.app .t1) rfl)<|Z4 _ (Z04 (p:=[.one (.int .i64 (p2.gCert.gSerial)),.one (.int .i64 (p2.gCert.gRides)),.one (.int .i64 (p2.gCert.gPrice)),b3' p2.gCert.gAnchor,b6' p2.gCert.gSig,b6' p2.gSig]) rfl (.app .here) (by kernel_rfl))<|Zc (Z5p rfl rfl rfl (fun w hw=>Zay f2 ((Z0z A1_0 Z17) w hw))<|Z7 rfl<|Z4 _ (Z0q rfl rfl)<|Z4 _ (Z0q rfl rfl)<|Zc (Zs fun b4 u4=>Zc (Zn (q:=[b3' y2.1]) rfl rfl rfl rfl rfl .here<|Z7 rfl<|Z2<|Z0<|jH h fun k1 q1 h=>Zq (G:=fun t m=>∃ (i1:Bool),k1 i1=some r/\Fit [(6,.bool (i1))] (ck b4 43 [b3' y2.1]::(ck b3 34 [.one (.int .i64 (p2.gCert.gSerial)),.one (.int .i64 (p2.gCert.gRides)),.one (.int .i64 (p2.gCert.gPrice)),b3' p2.gCert.gAnchor,b6' p2.gCert.gSig,b6' p2.gSig]::(ck b2 46 [b3' p1.gIssuer,.one (v1_0)]::(ck b1 114 [.one (.func (.func 35) #[] #[]),.one (.func (.func 106) #[] #[]),.one (.func (.func 107) #[] #[]),.one (.func (.func 108) #[] #[])] :: [])))) t m) ?_ ?_)))
 ·refine Zj<|Z6 _ (Z09 rfl)<|Z6 _ (Zb rfl rfl rfl)<|Z6 _ (Z09 rfl)<|Zim rfl rfl rfl (fun hg1=>Z31 rfl _ (Z09 rfl) (Z2a)) (fun hg1=>rfl) rfl<|Z6 _ (Z09 rfl)<|Ztx (tc:=31) h rfl (fun h=>?_) (fun h=>?_)
  ·refine oH h fun y3 f3 h=>oH h fun y4 f4 h=>Zfc rfl _ (Z1u rfl)<|Zfc rfl _ (Z1u rfl)<|Zb1 rfl _ (Z04 (p:=[b3' y2.1]) rfl .here rfl)<|Zb1 rfl _ (Z0j rfl (.there (.app .t2)) rfl)<|Zb1 rfl _ (Z04 (p:=[.one (.int .i64 (p2.gCert.gSerial)),.one (.int .i64 (p2.gCert.gRides)),.one (.int .i64 (p2.gCert.gPrice)),b3' p2.gCert.gAnchor,b6' p2.gCert.gSig,b6' p2.gSig]) rfl (.there (.app .here)) (by kernel_rfl))<|Zb1 rfl _ (Z0j rfl (.there (.app .t2)) rfl)<|Zek rfl (Z3t rfl rfl rfl (fun w hw=>Za1  f3 ) fun v27 o2 R2=>?_)
   obtain ⟨_,w2,rfl,rfl,O2⟩:=R2
   exact ⟨(by repeat (first | exact Sup.refl _ | apply Sup.cons | apply Sup.app)),Zek rfl (Z5p rfl rfl rfl (fun w hw=>Zvr.2 w b3) ⟨(by repeat (first | exact Sup.refl _ | apply Sup.cons | apply Sup.app)),Zfc rfl _ (Z1q rfl) (Zez rfl _ (Z04 (p:=[b6' p2.gSig]) rfl (.app (.there (.app .here))) (by kernel_rfl)) (Zez rfl _ (Z06 rfl (fun w hw=>Z4d f4 (hG.at hw (by simp)) ((Z0f O2 .here) w hw))) (Z6 _ (Znm rfl rfl) (Z6 _ (Z09 rfl) (Zr (⟨y4,h,⟨⟨rfl,trivial⟩,(.one (.app .here) (.one (.app (.app .here)) (.one (.app (.app .here)) (.one (.app (.app .here)) .nil))))⟩⟩)))) (by repeat (first | exact Sup.refl _ | apply Sup.cons | apply Sup.app))) (by repeat (first | exact Sup.refl _ | apply Sup.cons | apply Sup.app)))⟩)⟩
  ·exact Z96 rfl rfl<|Z96 rfl rfl<|Z67 rfl rfl<|Z67 rfl rfl<|Z67 rfl rfl<|Z67 rfl rfl<|Zb2 rfl rfl<|Zb2 rfl rfl<|Z96 rfl rfl<|Zb2 rfl rfl<|Zb2 rfl rfl<|Z6 _ (Znk rfl rfl)<|Z6 _ (Z09 rfl)<|Zr<|⟨false,h,⟨⟨rfl,trivial⟩,(.o (.one (.app .here) (.one (.app .here) (.one (.app .here) .nil))))⟩⟩
 ·rintro t m ⟨i1,h,hF⟩
  refine Zo hF ?_
  clear hF
  subst q1
  refine Zd ?_
  revert h; refine Z00 fun h=>?_
  subst h
  exact ⟨_,(.cons (.tmp rfl) .nil),rfl⟩
def Z37 (p0:Zp) (p1:Zk):Option Bool :=
 opt (Z5i) fun y1 =>
 opt (Z2h p0 p1) fun y2 =>
 some y2
theorem Zf9 {W:World} {r:Bool} {p0:Zp} {p1:Zk} {v0_0:Value} (h:Z37 p0 p1=some r) (hG:Globs W) (A0_0:Z5x Z01 W v0_0 p0.gGates) :
    Calls Tryz.prog 28 [agg [b3' p0.gIssuer,.one (v0_0)],agg [.one (.int .i64 (p1.gCert.gSerial)),.one (.int .i64 (p1.gCert.gRides)),.one (.int .i64 (p1.gCert.gPrice)),b3' p1.gCert.gAnchor,b6' p1.gCert.gSig,b6' p1.gSig]].toArray W (Z2d W (.bool (r))):=by
 unfold Z37 at h
 refine Z9 mo ok28 rfl ?_
 refine Z0<|Z1<|Zc (Z03 (s:=[b3' p0.gIssuer,.one (v0_0)]) rfl fun b1 u1=>Zc (Z03 (s:=[.one (.int .i64 (p1.gCert.gSerial)),.one (.int .i64 (p1.gCert.gRides)),.one (.int .i64 (p1.gCert.gPrice)),b3' p1.gCert.gAnchor,b6' p1.gCert.gSig,b6' p1.gSig]) rfl fun b2 u2=>Z7 rfl<|Z2<|Z0<|oH h fun y1 f1 h=>oH h fun y2 f2 h=>Zj<|Zg _ (Z04 (p:=[b3' p0.gIssuer,.one (v0_0)]) rfl .t1 rfl)<|Zg _ (Z04 (p:=[.one (.int .i64 (p1.gCert.gSerial)),.one (.int .i64 (p1.gCert.gRides)),.one (.int .i64 (p1.gCert.gPrice)),b3' p1.gCert.gAnchor,b6' p1.gCert.gSig,b6' p1.gSig]) rfl .here (by kernel_rfl))<|Z5w _ (Z1e rfl (Zcm f1)) (Z5w _ (Z06 rfl (fun w hw=>Z9i f2 (hG.at hw (by simp)) ((Z0z A0_0 Z17) w hw))) (Z6 _ (Z09 rfl) (Zr (Zd ?_))) (by repeat (first | exact Sup.refl _ | apply Sup.cons | apply Sup.app))) (by repeat (first | exact Sup.refl _ | apply Sup.cons | apply Sup.app))))
 revert h; refine Z00 fun h=>?_
 subst h
 exact ⟨_,(.cons (.tmp rfl) .nil),rfl⟩
def Z33 (p1:Zp) (p2:Z02):Option Bool :=
 opt (Z74 p2) fun y1 =>
 opt (Z44 p1 p2) fun y2 =>
 jn (fun (i1:Bool)=>some i1) fun k1=>br (((y1.2==0)&&y2.2)) (
 opt (Z4e p2) fun y3 =>
 opt (Z0t y2.1 y3 p2.gSig) fun y4 =>
 k1 y4
 ) (
 k1 false
 )
theorem Zaz {W:World} {r:Bool} {p1:Zp} {p2:Z02} {v1_0:Value} (h:Z33 p1 p2=some r) (hG:Globs W) (A1_0:Z5x Z01 W v1_0 p1.gGates) :
    Calls Tryz.prog 68 [agg [.one (.func (.func 37) #[] #[]),.one (.func (.func 128) #[] #[]),.one (.func (.func 129) #[] #[]),.one (.func (.func 130) #[] #[])],agg [b3' p1.gIssuer,.one (v1_0)],agg [.one (.int .i64 (p2.gSerial)),.one (.int .i64 (p2.gRides)),.one (.int .i64 (p2.gAmount)),b6' p2.gSig]].toArray W (Z2d W (.bool (r))):=by
 unfold Z33 at h
 refine Z9 mo ok68 rfl ?_
 refine Z0<|Z1<|Zc (Z03 (s:=[.one (.func (.func 37) #[] #[]),.one (.func (.func 128) #[] #[]),.one (.func (.func 129) #[] #[]),.one (.func (.func 130) #[] #[])]) rfl fun b1 u1=>Zc (Z03 (s:=[b3' p1.gIssuer,.one (v1_0)]) rfl fun b2 u2=>Zc (Z03 (s:=[.one (.int .i64 (p2.gSerial)),.one (.int .i64 (p2.gRides)),.one (.int .i64 (p2.gAmount)),b6' p2.gSig]) rfl fun b3 u3=>Z7 rfl<|Z2<|Z0<|oH h fun y1 f1 h=>Z1<|Z4 _ (Z1u rfl)<|Z4 _ (Z0j rfl .t2 rfl)<|Z4 _ (Z04 (p:=[.one (.int .i64 (p2.gSerial)),.one (.int .i64 (p2.gRides)),.one (.int .i64 (p2.gAmount)),b6' p2.gSig]) rfl .here rfl)<|Zc (Z3t rfl rfl rfl (fun w hw=>Z9z  f1 ) fun v7 o1 R1=>?_))))
 obtain ⟨v9,w1,rfl,rfl,O1⟩:=R1
 refine Z7 rfl<|Z4 _ (Z0q rfl rfl)<|Z4 _ (Z0q rfl rfl)<|Z7 rfl<|Z7 rfl<|Z2<|Z0<|oH h fun y2 f2 h=>Z1<|Z4 _ (Z1u rfl)<|Z4 _ (Z0j rfl (.app .t2) rfl)<|Z4 _ (Z04 (p:=[b3' p1.gIssuer,.one (v1_0)]) rfl (.app .t1) rfl)<|Z4 _ (Z04 (p:=[.one (.int .i64 (p2.gSerial)),.one (.int .i64 (p2.gRides)),.one (.int .i64 (p2.gAmount)),b6' p2.gSig]) rfl (.app .here) rfl)<|Zc (Z5p rfl rfl rfl (fun w hw=>Zcx f2 ((Z0z A1_0 Z17) w hw))<|Z7 rfl<|Z4 _ (Z0q rfl rfl)<|Z4 _ (Z0q rfl rfl)<|Zc (Zs fun b4 u4=>Zc (Zn (q:=[b3' y2.1]) rfl rfl rfl rfl rfl .here<|Z7 rfl<|Z2<|Z0<|jH h fun k1 q1 h=>Zq (G:=fun t m=>∃ (i1:Bool),k1 i1=some r/\Fit [(6,.bool (i1))] (ck b4 43 [b3' y2.1]::(ck b3 38 [.one (.int .i64 (p2.gSerial)),.one (.int .i64 (p2.gRides)),.one (.int .i64 (p2.gAmount)),b6' p2.gSig]::(ck b2 46 [b3' p1.gIssuer,.one (v1_0)]::(ck b1 148 [.one (.func (.func 37) #[] #[]),.one (.func (.func 128) #[] #[]),.one (.func (.func 129) #[] #[]),.one (.func (.func 130) #[] #[])] :: [])))) t m) ?_ ?_)))
 ·refine Zj<|Z6 _ (Z09 rfl)<|Z6 _ (Zb rfl rfl rfl)<|Z6 _ (Z09 rfl)<|Zim rfl rfl rfl (fun hg1=>Z31 rfl _ (Z09 rfl) (Z2a)) (fun hg1=>rfl) rfl<|Z6 _ (Z09 rfl)<|Ztx (tc:=31) h rfl (fun h=>?_) (fun h=>?_)
  ·refine oH h fun y3 f3 h=>oH h fun y4 f4 h=>Zfc rfl _ (Z1u rfl)<|Zfc rfl _ (Z1u rfl)<|Zb1 rfl _ (Z04 (p:=[b3' y2.1]) rfl .here rfl)<|Zb1 rfl _ (Z0j rfl (.there (.app .t2)) rfl)<|Zb1 rfl _ (Z04 (p:=[.one (.int .i64 (p2.gSerial)),.one (.int .i64 (p2.gRides)),.one (.int .i64 (p2.gAmount)),b6' p2.gSig]) rfl (.there (.app .here)) rfl)<|Zb1 rfl _ (Z0j rfl (.there (.app .t2)) rfl)<|Zek rfl (Z3t rfl rfl rfl (fun w hw=>Zcs  f3 ) fun v27 o2 R2=>?_)
   obtain ⟨_,w2,rfl,rfl,O2⟩:=R2
   exact ⟨(by repeat (first | exact Sup.refl _ | apply Sup.cons | apply Sup.app)),Zek rfl (Z5p rfl rfl rfl (fun w hw=>Zvu.2 w b3) ⟨(by repeat (first | exact Sup.refl _ | apply Sup.cons | apply Sup.app)),Zfc rfl _ (Z1q rfl) (Zez rfl _ (Z04 (p:=[b6' p2.gSig]) rfl (.app (.there (.app .here))) rfl) (Zez rfl _ (Z06 rfl (fun w hw=>Z4d f4 (hG.at hw (by simp)) ((Z0f O2 .here) w hw))) (Z6 _ (Znm rfl rfl) (Z6 _ (Z09 rfl) (Zr (⟨y4,h,⟨⟨rfl,trivial⟩,(.one (.app .here) (.one (.app (.app .here)) (.one (.app (.app .here)) (.one (.app (.app .here)) .nil))))⟩⟩)))) (by repeat (first | exact Sup.refl _ | apply Sup.cons | apply Sup.app))) (by repeat (first | exact Sup.refl _ | apply Sup.cons | apply Sup.app)))⟩)⟩
  ·exact Z96 rfl rfl<|Z96 rfl rfl<|Z67 rfl rfl<|Z67 rfl rfl<|Z67 rfl rfl<|Z67 rfl rfl<|Zb2 rfl rfl<|Zb2 rfl rfl<|Z96 rfl rfl<|Zb2 rfl rfl<|Zb2 rfl rfl<|Z6 _ (Znk rfl rfl)<|Z6 _ (Z09 rfl)<|Zr<|⟨false,h,⟨⟨rfl,trivial⟩,(.o (.one (.app .here) (.one (.app .here) (.one (.app .here) .nil))))⟩⟩
 ·rintro t m ⟨i1,h,hF⟩
  refine Zo hF ?_
  clear hF
  subst q1
  refine Zd ?_
  revert h; refine Z00 fun h=>?_
  subst h
  exact ⟨_,(.cons (.tmp rfl) .nil),rfl⟩
def Z4s (p0:Zp) (p1:Z02):Option Bool :=
 opt (Z8p) fun y1 =>
 opt (Z33 p0 p1) fun y2 =>
 some y2
theorem Zhh {W:World} {r:Bool} {p0:Zp} {p1:Z02} {v0_0:Value} (h:Z4s p0 p1=some r) (hG:Globs W) (A0_0:Z5x Z01 W v0_0 p0.gGates) :
    Calls Tryz.prog 29 [agg [b3' p0.gIssuer,.one (v0_0)],agg [.one (.int .i64 (p1.gSerial)),.one (.int .i64 (p1.gRides)),.one (.int .i64 (p1.gAmount)),b6' p1.gSig]].toArray W (Z2d W (.bool (r))):=by
 unfold Z4s at h
 refine Z9 mo ok29 rfl ?_
 refine Z0<|Z1<|Zc (Z03 (s:=[b3' p0.gIssuer,.one (v0_0)]) rfl fun b1 u1=>Zc (Z03 (s:=[.one (.int .i64 (p1.gSerial)),.one (.int .i64 (p1.gRides)),.one (.int .i64 (p1.gAmount)),b6' p1.gSig]) rfl fun b2 u2=>Z7 rfl<|Z2<|Z0<|oH h fun y1 f1 h=>oH h fun y2 f2 h=>Zj<|Zg _ (Z04 (p:=[b3' p0.gIssuer,.one (v0_0)]) rfl .t1 rfl)<|Zg _ (Z04 (p:=[.one (.int .i64 (p1.gSerial)),.one (.int .i64 (p1.gRides)),.one (.int .i64 (p1.gAmount)),b6' p1.gSig]) rfl .here rfl)<|Z5w _ (Z1e rfl (Zev f1)) (Z5w _ (Z06 rfl (fun w hw=>Zaz f2 (hG.at hw (by simp)) ((Z0z A0_0 Z17) w hw))) (Z6 _ (Z09 rfl) (Zr (Zd ?_))) (by repeat (first | exact Sup.refl _ | apply Sup.cons | apply Sup.app))) (by repeat (first | exact Sup.refl _ | apply Sup.cons | apply Sup.app))))
 revert h; refine Z00 fun h=>?_
 subst h
 exact ⟨_,(.cons (.tmp rfl) .nil),rfl⟩
def Z3b (p1:LI) (p2:Z02):Option (Z02) :=
 opt (Z4e p2) fun y1 =>
 opt (Z7b p1 y1) fun y2 =>
 some (⟨p2.gSerial,p2.gRides,p2.gAmount,y2⟩:Z02)
theorem Zbo {W:World} {r:Z02} {p1:LI} {p2:Z02} (h:Z3b p1 p2=some r) (hG:Globs W) :
    Calls Tryz.prog 69 [agg [.one (.func (.func 37) #[] #[]),.one (.func (.func 128) #[] #[]),.one (.func (.func 129) #[] #[]),.one (.func (.func 130) #[] #[])],agg [b3' p1],agg [.one (.int .i64 (p2.gSerial)),.one (.int .i64 (p2.gRides)),.one (.int .i64 (p2.gAmount)),b6' p2.gSig]].toArray W (Z2d W (agg [.one (.int .i64 (r.gSerial)),.one (.int .i64 (r.gRides)),.one (.int .i64 (r.gAmount)),b6' r.gSig])):=by
 unfold Z3b at h
 refine Z9 mo ok69 rfl ?_
 refine Z0<|Z1<|Zc (Z03 (s:=[.one (.func (.func 37) #[] #[]),.one (.func (.func 128) #[] #[]),.one (.func (.func 129) #[] #[]),.one (.func (.func 130) #[] #[])]) rfl fun b1 u1=>Zc (Z03 (s:=[b3' p1]) rfl fun b2 u2=>Zc (Z03 (s:=[.one (.int .i64 (p2.gSerial)),.one (.int .i64 (p2.gRides)),.one (.int .i64 (p2.gAmount)),b6' p2.gSig]) rfl fun b3 u3=>Zc (Zs fun b4 u4=>Z2<|Z0<|oH h fun y1 f1 h=>oH h fun y2 f2 h=>Zj<|Z6 _ (Z1u rfl)<|Z6 _ (Z1u rfl)<|Zg _ (Z0j rfl .t3 rfl)<|Zg _ (Z04 (p:=[b3' p1]) rfl .t2 rfl)<|Zg _ (Z0j rfl .t3 rfl)<|Zg _ (Z04 (p:=[.one (.int .i64 (p2.gSerial)),.one (.int .i64 (p2.gRides)),.one (.int .i64 (p2.gAmount)),b6' p2.gSig]) rfl .t1 rfl)<|Z2c (Z5p rfl rfl rfl (fun w hw=>Zvu.2 w b3) ⟨(by repeat (first | exact Sup.refl _ | apply Sup.cons | apply Sup.app)),Z2c (Z3t rfl rfl rfl (fun w hw=>Zcs  f1 ) fun v8 o1 R1=>?_)⟩)))))
 obtain ⟨_,w1,rfl,rfl,O1⟩:=R1
 refine ⟨(by repeat (first | exact Sup.refl _ | apply Sup.cons | apply Sup.app)),Z5w _ (Z06 rfl (fun w hw=>Z64 f2 (hG.at hw (by simp)) ((Z0f O1 .here) w hw))) (Z6 _ (Z1q rfl) (Z1n rfl (Zn (q:=[.one (.int .i64 (p2.gSerial)),.one (.int .i64 (p2.gRides)),.one (.int .i64 (p2.gAmount)),b6' y2]) rfl rfl rfl rfl rfl (.app .t1) (Zr (Z0 (Z1 (Z4 _ (Z04 (p:=[.one (.int .i64 (p2.gSerial)),.one (.int .i64 (p2.gRides)),.one (.int .i64 (p2.gAmount)),b6' y2]) rfl (.app .t1) rfl) (Zc (Zn (q:=[.one (.int .i64 (p2.gSerial)),.one (.int .i64 (p2.gRides)),.one (.int .i64 (p2.gAmount)),b6' y2]) rfl rfl rfl rfl rfl (.app .here) (Z2 (Zd ?_))))))))))) (by repeat (first | exact Sup.refl _ | apply Sup.cons | apply Sup.app))⟩
 revert h; refine Z00 fun h=>?_
 subst h
 exact ⟨_,(.cons (.agg rfl (.app .here) rfl) .nil),rfl⟩
def Z5h (p0:LI) (p1:Z02):Option (Z02) :=
 opt (Z8p) fun y1 =>
 opt (Z3b p0 p1) fun y2 =>
 some y2
theorem Zi8 {W:World} {r:Z02} {p0:LI} {p1:Z02} (h:Z5h p0 p1=some r) (hG:Globs W) :
    Calls Tryz.prog 30 [agg [b3' p0],agg [.one (.int .i64 (p1.gSerial)),.one (.int .i64 (p1.gRides)),.one (.int .i64 (p1.gAmount)),b6' p1.gSig]].toArray W (Z2d W (agg [.one (.int .i64 (r.gSerial)),.one (.int .i64 (r.gRides)),.one (.int .i64 (r.gAmount)),b6' r.gSig])):=by
 unfold Z5h at h
 refine Z9 mo ok30 rfl ?_
 refine Z0<|Z1<|Zc (Z03 (s:=[b3' p0]) rfl fun b1 u1=>Zc (Z03 (s:=[.one (.int .i64 (p1.gSerial)),.one (.int .i64 (p1.gRides)),.one (.int .i64 (p1.gAmount)),b6' p1.gSig]) rfl fun b2 u2=>Zc (Zs fun b3 u3=>Z2<|Z0<|oH h fun y1 f1 h=>oH h fun y2 f2 h=>Zj<|Zg _ (Z04 (p:=[b3' p0]) rfl .t2 rfl)<|Zg _ (Z04 (p:=[.one (.int .i64 (p1.gSerial)),.one (.int .i64 (p1.gRides)),.one (.int .i64 (p1.gAmount)),b6' p1.gSig]) rfl .t1 rfl)<|Z5w _ (Z1e rfl (Zev f1)) (Z5w _ (Z06 rfl (fun w hw=>Zbo f2 (hG.at hw (by simp)))) (Z1n rfl (Zn (q:=[.one (.int .i64 (y2.gSerial)),.one (.int .i64 (y2.gRides)),.one (.int .i64 (y2.gAmount)),b6' y2.gSig]) rfl rfl rfl rfl rfl .here (Zr (Zd ?_)))) (by repeat (first | exact Sup.refl _ | apply Sup.cons | apply Sup.app))) (by repeat (first | exact Sup.refl _ | apply Sup.cons | apply Sup.app)))))
 revert h; refine Z00 fun h=>?_
 subst h
 exact ⟨_,(.cons (.agg rfl .here rfl) .nil),rfl⟩
def Z47 (p1:Zp) (p2:Z0u):Option Bool :=
 opt (Z9a p2) fun y1 =>
 opt (Z5u p1 p2) fun y2 =>
 jn (fun (i1:Bool)=>some i1) fun k1=>br (((y1.2==0)&&y2.2)) (
 opt (Z76 p2) fun y3 =>
 opt (Z0t y2.1 y3 p2.gSig) fun y4 =>
 k1 y4
 ) (
 k1 false
 )
theorem Zd0 {W:World} {r:Bool} {p1:Zp} {p2:Z0u} {v1_0:Value} (h:Z47 p1 p2=some r) (hG:Globs W) (A1_0:Z5x Z01 W v1_0 p1.gGates) :
    Calls Tryz.prog 71 [agg [.one (.func (.func 38) #[] #[]),.one (.func (.func 131) #[] #[]),.one (.func (.func 132) #[] #[]),.one (.func (.func 133) #[] #[])],agg [b3' p1.gIssuer,.one (v1_0)],agg [.one (.int .i64 (p2.gSize)),b3' p2.gRoot,b6' p2.gSig]].toArray W (Z2d W (.bool (r))):=by
 unfold Z47 at h
 refine Z9 mo ok71 rfl ?_
 refine Z0<|Z1<|Zc (Z03 (s:=[.one (.func (.func 38) #[] #[]),.one (.func (.func 131) #[] #[]),.one (.func (.func 132) #[] #[]),.one (.func (.func 133) #[] #[])]) rfl fun b1 u1=>Zc (Z03 (s:=[b3' p1.gIssuer,.one (v1_0)]) rfl fun b2 u2=>Zc (Z03 (s:=[.one (.int .i64 (p2.gSize)),b3' p2.gRoot,b6' p2.gSig]) rfl fun b3 u3=>Z7 rfl<|Z2<|Z0<|oH h fun y1 f1 h=>Z1<|Z4 _ (Z1u rfl)<|Z4 _ (Z0j rfl .t2 rfl)<|Z4 _ (Z04 (p:=[.one (.int .i64 (p2.gSize)),b3' p2.gRoot,b6' p2.gSig]) rfl .here rfl)<|Zc (Z3t rfl rfl rfl (fun w hw=>Zcr  f1 ) fun v7 o1 R1=>?_))))
 obtain ⟨v9,w1,rfl,rfl,O1⟩:=R1
 refine Z7 rfl<|Z4 _ (Z0q rfl rfl)<|Z4 _ (Z0q rfl rfl)<|Z7 rfl<|Z7 rfl<|Z2<|Z0<|oH h fun y2 f2 h=>Z1<|Z4 _ (Z1u rfl)<|Z4 _ (Z0j rfl (.app .t2) rfl)<|Z4 _ (Z04 (p:=[b3' p1.gIssuer,.one (v1_0)]) rfl (.app .t1) rfl)<|Z4 _ (Z04 (p:=[.one (.int .i64 (p2.gSize)),b3' p2.gRoot,b6' p2.gSig]) rfl (.app .here) rfl)<|Zc (Z5p rfl rfl rfl (fun w hw=>Zeo f2 ((Z0z A1_0 Z17) w hw))<|Z7 rfl<|Z4 _ (Z0q rfl rfl)<|Z4 _ (Z0q rfl rfl)<|Zc (Zs fun b4 u4=>Zc (Zn (q:=[b3' y2.1]) rfl rfl rfl rfl rfl .here<|Z7 rfl<|Z2<|Z0<|jH h fun k1 q1 h=>Zq (G:=fun t m=>∃ (i1:Bool),k1 i1=some r/\Fit [(6,.bool (i1))] (ck b4 43 [b3' y2.1]::(ck b3 40 [.one (.int .i64 (p2.gSize)),b3' p2.gRoot,b6' p2.gSig]::(ck b2 46 [b3' p1.gIssuer,.one (v1_0)]::(ck b1 154 [.one (.func (.func 38) #[] #[]),.one (.func (.func 131) #[] #[]),.one (.func (.func 132) #[] #[]),.one (.func (.func 133) #[] #[])] :: [])))) t m) ?_ ?_)))
 ·refine Zj<|Z6 _ (Z09 rfl)<|Z6 _ (Zb rfl rfl rfl)<|Z6 _ (Z09 rfl)<|Zim rfl rfl rfl (fun hg1=>Z31 rfl _ (Z09 rfl) (Z2a)) (fun hg1=>rfl) rfl<|Z6 _ (Z09 rfl)<|Ztx (tc:=31) h rfl (fun h=>?_) (fun h=>?_)
  ·refine oH h fun y3 f3 h=>oH h fun y4 f4 h=>Zfc rfl _ (Z1u rfl)<|Zfc rfl _ (Z1u rfl)<|Zb1 rfl _ (Z04 (p:=[b3' y2.1]) rfl .here rfl)<|Zb1 rfl _ (Z0j rfl (.there (.app .t2)) rfl)<|Zb1 rfl _ (Z04 (p:=[.one (.int .i64 (p2.gSize)),b3' p2.gRoot,b6' p2.gSig]) rfl (.there (.app .here)) rfl)<|Zb1 rfl _ (Z0j rfl (.there (.app .t2)) rfl)<|Zek rfl (Z3t rfl rfl rfl (fun w hw=>Zey  f3 ) fun v27 o2 R2=>?_)
   obtain ⟨_,w2,rfl,rfl,O2⟩:=R2
   exact ⟨(by repeat (first | exact Sup.refl _ | apply Sup.cons | apply Sup.app)),Zek rfl (Z5p rfl rfl rfl (fun w hw=>Zvv.2 w b3) ⟨(by repeat (first | exact Sup.refl _ | apply Sup.cons | apply Sup.app)),Zfc rfl _ (Z1q rfl) (Zez rfl _ (Z04 (p:=[b6' p2.gSig]) rfl (.app (.there (.app .here))) rfl) (Zez rfl _ (Z06 rfl (fun w hw=>Z4d f4 (hG.at hw (by simp)) ((Z0f O2 .here) w hw))) (Z6 _ (Znm rfl rfl) (Z6 _ (Z09 rfl) (Zr (⟨y4,h,⟨⟨rfl,trivial⟩,(.one (.app .here) (.one (.app (.app .here)) (.one (.app (.app .here)) (.one (.app (.app .here)) .nil))))⟩⟩)))) (by repeat (first | exact Sup.refl _ | apply Sup.cons | apply Sup.app))) (by repeat (first | exact Sup.refl _ | apply Sup.cons | apply Sup.app)))⟩)⟩
  ·exact Z96 rfl rfl<|Z96 rfl rfl<|Z67 rfl rfl<|Z67 rfl rfl<|Z67 rfl rfl<|Z67 rfl rfl<|Zb2 rfl rfl<|Zb2 rfl rfl<|Z96 rfl rfl<|Zb2 rfl rfl<|Zb2 rfl rfl<|Z6 _ (Znk rfl rfl)<|Z6 _ (Z09 rfl)<|Zr<|⟨false,h,⟨⟨rfl,trivial⟩,(.o (.one (.app .here) (.one (.app .here) (.one (.app .here) .nil))))⟩⟩
 ·rintro t m ⟨i1,h,hF⟩
  refine Zo hF ?_
  clear hF
  subst q1
  refine Zd ?_
  revert h; refine Z00 fun h=>?_
  subst h
  exact ⟨_,(.cons (.tmp rfl) .nil),rfl⟩
def Z7i (p0:Zp) (p1:Z0u):Option Bool :=
 opt (Zdk) fun y1 =>
 opt (Z47 p0 p1) fun y2 =>
 some y2
theorem Zjx {W:World} {r:Bool} {p0:Zp} {p1:Z0u} {v0_0:Value} (h:Z7i p0 p1=some r) (hG:Globs W) (A0_0:Z5x Z01 W v0_0 p0.gGates) :
    Calls Tryz.prog 31 [agg [b3' p0.gIssuer,.one (v0_0)],agg [.one (.int .i64 (p1.gSize)),b3' p1.gRoot,b6' p1.gSig]].toArray W (Z2d W (.bool (r))):=by
 unfold Z7i at h
 refine Z9 mo ok31 rfl ?_
 refine Z0<|Z1<|Zc (Z03 (s:=[b3' p0.gIssuer,.one (v0_0)]) rfl fun b1 u1=>Zc (Z03 (s:=[.one (.int .i64 (p1.gSize)),b3' p1.gRoot,b6' p1.gSig]) rfl fun b2 u2=>Z7 rfl<|Z2<|Z0<|oH h fun y1 f1 h=>oH h fun y2 f2 h=>Zj<|Zg _ (Z04 (p:=[b3' p0.gIssuer,.one (v0_0)]) rfl .t1 rfl)<|Zg _ (Z04 (p:=[.one (.int .i64 (p1.gSize)),b3' p1.gRoot,b6' p1.gSig]) rfl .here rfl)<|Z5w _ (Z1e rfl (Zia f1)) (Z5w _ (Z06 rfl (fun w hw=>Zd0 f2 (hG.at hw (by simp)) ((Z0z A0_0 Z17) w hw))) (Z6 _ (Z09 rfl) (Zr (Zd ?_))) (by repeat (first | exact Sup.refl _ | apply Sup.cons | apply Sup.app))) (by repeat (first | exact Sup.refl _ | apply Sup.cons | apply Sup.app))))
 revert h; refine Z00 fun h=>?_
 subst h
 exact ⟨_,(.cons (.tmp rfl) .nil),rfl⟩
def Z4l (p1:LI) (p2:Z0u):Option (Z0u) :=
 opt (Z76 p2) fun y1 =>
 opt (Z7b p1 y1) fun y2 =>
 some (⟨p2.gSize,p2.gRoot,y2⟩:Z0u)
theorem Zdg {W:World} {r:Z0u} {p1:LI} {p2:Z0u} (h:Z4l p1 p2=some r) (hG:Globs W) :
    Calls Tryz.prog 72 [agg [.one (.func (.func 38) #[] #[]),.one (.func (.func 131) #[] #[]),.one (.func (.func 132) #[] #[]),.one (.func (.func 133) #[] #[])],agg [b3' p1],agg [.one (.int .i64 (p2.gSize)),b3' p2.gRoot,b6' p2.gSig]].toArray W (Z2d W (agg [.one (.int .i64 (r.gSize)),b3' r.gRoot,b6' r.gSig])):=by
 unfold Z4l at h
 refine Z9 mo ok72 rfl ?_
 refine Z0<|Z1<|Zc (Z03 (s:=[.one (.func (.func 38) #[] #[]),.one (.func (.func 131) #[] #[]),.one (.func (.func 132) #[] #[]),.one (.func (.func 133) #[] #[])]) rfl fun b1 u1=>Zc (Z03 (s:=[b3' p1]) rfl fun b2 u2=>Zc (Z03 (s:=[.one (.int .i64 (p2.gSize)),b3' p2.gRoot,b6' p2.gSig]) rfl fun b3 u3=>Zc (Zs fun b4 u4=>Z2<|Z0<|oH h fun y1 f1 h=>oH h fun y2 f2 h=>Zj<|Z6 _ (Z1u rfl)<|Z6 _ (Z1u rfl)<|Zg _ (Z0j rfl .t3 rfl)<|Zg _ (Z04 (p:=[b3' p1]) rfl .t2 rfl)<|Zg _ (Z0j rfl .t3 rfl)<|Zg _ (Z04 (p:=[.one (.int .i64 (p2.gSize)),b3' p2.gRoot,b6' p2.gSig]) rfl .t1 rfl)<|Z2c (Z5p rfl rfl rfl (fun w hw=>Zvv.2 w b3) ⟨(by repeat (first | exact Sup.refl _ | apply Sup.cons | apply Sup.app)),Z2c (Z3t rfl rfl rfl (fun w hw=>Zey  f1 ) fun v8 o1 R1=>?_)⟩)))))
 obtain ⟨_,w1,rfl,rfl,O1⟩:=R1
 refine ⟨(by repeat (first | exact Sup.refl _ | apply Sup.cons | apply Sup.app)),Z5w _ (Z06 rfl (fun w hw=>Z64 f2 (hG.at hw (by simp)) ((Z0f O1 .here) w hw))) (Z6 _ (Z1q rfl) (Z1n rfl (Zn (q:=[.one (.int .i64 (p2.gSize)),b3' p2.gRoot,b6' y2]) rfl rfl rfl rfl rfl (.app .t1) (Zr (Z0 (Z1 (Z4 _ (Z04 (p:=[.one (.int .i64 (p2.gSize)),b3' p2.gRoot,b6' y2]) rfl (.app .t1) rfl) (Zc (Zn (q:=[.one (.int .i64 (p2.gSize)),b3' p2.gRoot,b6' y2]) rfl rfl rfl rfl rfl (.app .here) (Z2 (Zd ?_))))))))))) (by repeat (first | exact Sup.refl _ | apply Sup.cons | apply Sup.app))⟩
 revert h; refine Z00 fun h=>?_
 subst h
 exact ⟨_,(.cons (.agg rfl (.app .here) rfl) .nil),rfl⟩
def Z8o (p0:LI) (p1:Z0u):Option (Z0u) :=
 opt (Zdk) fun y1 =>
 opt (Z4l p0 p1) fun y2 =>
 some y2
theorem Zkq {W:World} {r:Z0u} {p0:LI} {p1:Z0u} (h:Z8o p0 p1=some r) (hG:Globs W) :
    Calls Tryz.prog 32 [agg [b3' p0],agg [.one (.int .i64 (p1.gSize)),b3' p1.gRoot,b6' p1.gSig]].toArray W (Z2d W (agg [.one (.int .i64 (r.gSize)),b3' r.gRoot,b6' r.gSig])):=by
 unfold Z8o at h
 refine Z9 mo ok32 rfl ?_
 refine Z0<|Z1<|Zc (Z03 (s:=[b3' p0]) rfl fun b1 u1=>Zc (Z03 (s:=[.one (.int .i64 (p1.gSize)),b3' p1.gRoot,b6' p1.gSig]) rfl fun b2 u2=>Zc (Zs fun b3 u3=>Z2<|Z0<|oH h fun y1 f1 h=>oH h fun y2 f2 h=>Zj<|Zg _ (Z04 (p:=[b3' p0]) rfl .t2 rfl)<|Zg _ (Z04 (p:=[.one (.int .i64 (p1.gSize)),b3' p1.gRoot,b6' p1.gSig]) rfl .t1 rfl)<|Z5w _ (Z1e rfl (Zia f1)) (Z5w _ (Z06 rfl (fun w hw=>Zdg f2 (hG.at hw (by simp)))) (Z1n rfl (Zn (q:=[.one (.int .i64 (y2.gSize)),b3' y2.gRoot,b6' y2.gSig]) rfl rfl rfl rfl rfl .here (Zr (Zd ?_)))) (by repeat (first | exact Sup.refl _ | apply Sup.cons | apply Sup.app))) (by repeat (first | exact Sup.refl _ | apply Sup.cons | apply Sup.app)))))
 revert h; refine Z00 fun h=>?_
 subst h
 exact ⟨_,(.cons (.agg rfl .here rfl) .nil),rfl⟩
structure Z07 where
  gKind:Int
  gCert:Z0m
  gFreeze:Z0d
  gAck:Z19
  gRevocation:Zk
  gFloor:Z0c
  gReceipt:Z02
  gHead:Z0u
def Zz (p0:Zp) (p1:LI) (p2:Z07):Option Bool :=
 br ((p2.gKind==1)) (
 opt (Z8n p1 p2.gCert) fun y1 =>
 opt (Z7h p0 y1) fun y2 =>
 some y2
 ) (
 br ((p2.gKind==2)) (
 opt (Z6j p1 p2.gFreeze) fun y3 =>
 opt (Z5g p0 y3) fun y4 =>
 some y4
 ) (
 br ((p2.gKind==3)) (
 opt (Z9v p1 p2.gAck) fun y5 =>
 opt (Zam p0 y5) fun y6 =>
 some y6
 ) (
 br ((p2.gKind==4)) (
 opt (Z3h p1 p2.gRevocation) fun y7 =>
 opt (Z37 p0 y7) fun y8 =>
 some y8
 ) (
 br ((p2.gKind==5)) (
 opt (Z2m p1 p2.gFloor) fun y9 =>
 opt (Z22 p0 y9) fun y10 =>
 some y10
 ) (
 br ((p2.gKind==6)) (
 opt (Z5h p1 p2.gReceipt) fun y11 =>
 opt (Z4s p0 y11) fun y12 =>
 some y12
 ) (
 br ((p2.gKind==7)) (
 opt (Z8o p1 p2.gHead) fun y13 =>
 opt (Z7i p0 y13) fun y14 =>
 some y14
 ) (
 some false
 )
 )
 )
 )
 )
 )
 )
theorem Zgl {W:World} {r:Bool} {p0:Zp} {p1:LI} {p2:Z07} {v0_0:Value} (h:Zz p0 p1 p2=some r) (hG:Globs W) (A0_0:Z5x Z01 W v0_0 p0.gGates) :
    Calls Tryz.prog 9 [agg [b3' p0.gIssuer,.one (v0_0)],agg [b3' p1],agg [.one (.int .i64 (p2.gKind)),.one (.int .i64 (p2.gCert.gSerial)),.one (.int .i64 (p2.gCert.gRides)),.one (.int .i64 (p2.gCert.gPrice)),b3' p2.gCert.gAnchor,b6' p2.gCert.gSig,.one (.int .i64 (p2.gFreeze.gCert.gSerial)),.one (.int .i64 (p2.gFreeze.gCert.gRides)),.one (.int .i64 (p2.gFreeze.gCert.gPrice)),b3' p2.gFreeze.gCert.gAnchor,b6' p2.gFreeze.gCert.gSig,b6' p2.gFreeze.gSig,.one (.int .i64 (p2.gAck.gSerial)),.one (.int .i64 (p2.gAck.gGate)),.one (.int .i64 (p2.gAck.gIndex)),b3' p2.gAck.gValue,b6' p2.gAck.gSig,.one (.int .i64 (p2.gRevocation.gCert.gSerial)),.one (.int .i64 (p2.gRevocation.gCert.gRides)),.one (.int .i64 (p2.gRevocation.gCert.gPrice)),b3' p2.gRevocation.gCert.gAnchor,b6' p2.gRevocation.gCert.gSig,b6' p2.gRevocation.gSig,.one (.int .i64 (p2.gFloor.gFloor)),b6' p2.gFloor.gSig,.one (.int .i64 (p2.gReceipt.gSerial)),.one (.int .i64 (p2.gReceipt.gRides)),.one (.int .i64 (p2.gReceipt.gAmount)),b6' p2.gReceipt.gSig,.one (.int .i64 (p2.gHead.gSize)),b3' p2.gHead.gRoot,b6' p2.gHead.gSig]].toArray W (Z2d W (.bool (r))):=by
 unfold Zz at h
 refine Z9 mo ok9 rfl ?_
 refine Z0<|Z1<|Zc (Z03 (s:=[b3' p0.gIssuer,.one (v0_0)]) rfl fun b1 u1=>Zc (Z03 (s:=[b3' p1]) rfl fun b2 u2=>Zc (Z03 (s:=[.one (.int .i64 (p2.gKind)),.one (.int .i64 (p2.gCert.gSerial)),.one (.int .i64 (p2.gCert.gRides)),.one (.int .i64 (p2.gCert.gPrice)),b3' p2.gCert.gAnchor,b6' p2.gCert.gSig,.one (.int .i64 (p2.gFreeze.gCert.gSerial)),.one (.int .i64 (p2.gFreeze.gCert.gRides)),.one (.int .i64 (p2.gFreeze.gCert.gPrice)),b3' p2.gFreeze.gCert.gAnchor,b6' p2.gFreeze.gCert.gSig,b6' p2.gFreeze.gSig,.one (.int .i64 (p2.gAck.gSerial)),.one (.int .i64 (p2.gAck.gGate)),.one (.int .i64 (p2.gAck.gIndex)),b3' p2.gAck.gValue,b6' p2.gAck.gSig,.one (.int .i64 (p2.gRevocation.gCert.gSerial)),.one (.int .i64 (p2.gRevocation.gCert.gRides)),.one (.int .i64 (p2.gRevocation.gCert.gPrice)),b3' p2.gRevocation.gCert.gAnchor,b6' p2.gRevocation.gCert.gSig,b6' p2.gRevocation.gSig,.one (.int .i64 (p2.gFloor.gFloor)),b6' p2.gFloor.gSig,.one (.int .i64 (p2.gReceipt.gSerial)),.one (.int .i64 (p2.gReceipt.gRides)),.one (.int .i64 (p2.gReceipt.gAmount)),b6' p2.gReceipt.gSig,.one (.int .i64 (p2.gHead.gSize)),b3' p2.gHead.gRoot,b6' p2.gHead.gSig]) rfl fun b3 u3=>Z7 rfl<|Z2<|Z0<|Z0<|Z1<|Z4 _ (Z1u rfl)<|Z4 _ (Z0j rfl .here rfl)<|Z2<|Zf<|Z0<|Z1<|Z4 _ (Zb rfl rfl rfl)<|Z7 rfl<|Z2<|Z0w h rfl (fun h=>?_) (fun h=>?_))))
 ·refine Z0<|oH h fun y1 f1 h=>oH h fun y2 f2 h=>Zj<|Z6 _ (Z1u rfl)<|Zg _ (Z04 (p:=[b3' p0.gIssuer,.one (v0_0)]) rfl .t2 rfl)<|Zg _ (Z04 (p:=[b3' p1]) rfl .t1 rfl)<|Zg _ (Z04 (p:=[.one (.int .i64 (p2.gCert.gSerial)),.one (.int .i64 (p2.gCert.gRides)),.one (.int .i64 (p2.gCert.gPrice)),b3' p2.gCert.gAnchor,b6' p2.gCert.gSig]) rfl .here (by kernel_rfl))<|Z6 _ (Z06 rfl (fun w hw=>Zkp f1 (hG.at hw (by simp))))<|Zg _ (Z06 rfl (fun w hw=>Zjw f2 (hG.at hw (by simp)) ((Z0z A0_0 Z17) w hw)))<|Z6 _ (Z09 rfl)<|Zr<|Zd ?_
  revert h; refine Z00 fun h=>?_
  subst h
  exact ⟨_,(.cons (.tmp rfl) .nil),rfl⟩
 ·refine Z0<|Z1<|Z4 _ (Zb rfl rfl rfl)<|Z7 rfl<|Z2<|Z0w h rfl (fun h=>?_) (fun h=>?_)
  ·refine Z0<|oH h fun y3 f3 h=>oH h fun y4 f4 h=>Zj<|Z6 _ (Z1u rfl)<|Zg _ (Z04 (p:=[b3' p0.gIssuer,.one (v0_0)]) rfl .t2 rfl)<|Zg _ (Z04 (p:=[b3' p1]) rfl .t1 rfl)<|Zg _ (Z04 (p:=[.one (.int .i64 (p2.gFreeze.gCert.gSerial)),.one (.int .i64 (p2.gFreeze.gCert.gRides)),.one (.int .i64 (p2.gFreeze.gCert.gPrice)),b3' p2.gFreeze.gCert.gAnchor,b6' p2.gFreeze.gCert.gSig,b6' p2.gFreeze.gSig]) rfl .here (by kernel_rfl))<|Z6 _ (Z06 rfl (fun w hw=>Zj6 f3 (hG.at hw (by simp))))<|Zg _ (Z06 rfl (fun w hw=>Zi7 f4 (hG.at hw (by simp)) ((Z0z A0_0 Z17) w hw)))<|Z6 _ (Z09 rfl)<|Zr<|Zd ?_
   revert h; refine Z00 fun h=>?_
   subst h
   exact ⟨_,(.cons (.tmp rfl) .nil),rfl⟩
  ·refine Z0<|Z1<|Z4 _ (Zb rfl rfl rfl)<|Z7 rfl<|Z2<|Z0w h rfl (fun h=>?_) (fun h=>?_)
   ·refine Z0<|oH h fun y5 f5 h=>oH h fun y6 f6 h=>Zj<|Z6 _ (Z1u rfl)<|Zg _ (Z04 (p:=[b3' p0.gIssuer,.one (v0_0)]) rfl .t2 rfl)<|Zg _ (Z04 (p:=[b3' p1]) rfl .t1 rfl)<|Zg _ (Z04 (p:=[.one (.int .i64 (p2.gAck.gSerial)),.one (.int .i64 (p2.gAck.gGate)),.one (.int .i64 (p2.gAck.gIndex)),b3' p2.gAck.gValue,b6' p2.gAck.gSig]) rfl .here (by kernel_rfl))<|Z6 _ (Z06 rfl (fun w hw=>Zli f5 (hG.at hw (by simp))))<|Zg _ (Z06 rfl (fun w hw=>Zko f6 (hG.at hw (by simp)) ((Z0z A0_0 Z17) w hw)))<|Z6 _ (Z09 rfl)<|Zr<|Zd ?_
    revert h; refine Z00 fun h=>?_
    subst h
    exact ⟨_,(.cons (.tmp rfl) .nil),rfl⟩
   ·refine Z0<|Z1<|Z4 _ (Zb rfl rfl rfl)<|Z7 rfl<|Z2<|Z0w h rfl (fun h=>?_) (fun h=>?_)
    ·refine Z0<|oH h fun y7 f7 h=>oH h fun y8 f8 h=>Zj<|Z6 _ (Z1u rfl)<|Zg _ (Z04 (p:=[b3' p0.gIssuer,.one (v0_0)]) rfl .t2 rfl)<|Zg _ (Z04 (p:=[b3' p1]) rfl .t1 rfl)<|Zg _ (Z04 (p:=[.one (.int .i64 (p2.gRevocation.gCert.gSerial)),.one (.int .i64 (p2.gRevocation.gCert.gRides)),.one (.int .i64 (p2.gRevocation.gCert.gPrice)),b3' p2.gRevocation.gCert.gAnchor,b6' p2.gRevocation.gCert.gSig,b6' p2.gRevocation.gSig]) rfl .here (by kernel_rfl))<|Z6 _ (Z06 rfl (fun w hw=>Zfz f7 (hG.at hw (by simp))))<|Zg _ (Z06 rfl (fun w hw=>Zf9 f8 (hG.at hw (by simp)) ((Z0z A0_0 Z17) w hw)))<|Z6 _ (Z09 rfl)<|Zr<|Zd ?_
     revert h; refine Z00 fun h=>?_
     subst h
     exact ⟨_,(.cons (.tmp rfl) .nil),rfl⟩
    ·refine Z0<|Z1<|Z4 _ (Zb rfl rfl rfl)<|Z7 rfl<|Z2<|Z0w h rfl (fun h=>?_) (fun h=>?_)
     ·refine Z0<|oH h fun y9 f9 h=>oH h fun y10 f10 h=>Zj<|Z6 _ (Z1u rfl)<|Zg _ (Z04 (p:=[b3' p0.gIssuer,.one (v0_0)]) rfl .t2 rfl)<|Zg _ (Z04 (p:=[b3' p1]) rfl .t1 rfl)<|Zg _ (Z04 (p:=[.one (.int .i64 (p2.gFloor.gFloor)),b6' p2.gFloor.gSig]) rfl .here (by kernel_rfl))<|Z6 _ (Z06 rfl (fun w hw=>Ze5 f9 (hG.at hw (by simp))))<|Zg _ (Z06 rfl (fun w hw=>Zd5 f10 (hG.at hw (by simp)) ((Z0z A0_0 Z17) w hw)))<|Z6 _ (Z09 rfl)<|Zr<|Zd ?_
      revert h; refine Z00 fun h=>?_
      subst h
      exact ⟨_,(.cons (.tmp rfl) .nil),rfl⟩
     ·refine Z0<|Z1<|Z4 _ (Zb rfl rfl rfl)<|Z7 rfl<|Z2<|Z0w h rfl (fun h=>?_) (fun h=>?_)
      ·refine Z0<|oH h fun y11 f11 h=>oH h fun y12 f12 h=>Zj<|Z6 _ (Z1u rfl)<|Zg _ (Z04 (p:=[b3' p0.gIssuer,.one (v0_0)]) rfl .t2 rfl)<|Zg _ (Z04 (p:=[b3' p1]) rfl .t1 rfl)<|Zg _ (Z04 (p:=[.one (.int .i64 (p2.gReceipt.gSerial)),.one (.int .i64 (p2.gReceipt.gRides)),.one (.int .i64 (p2.gReceipt.gAmount)),b6' p2.gReceipt.gSig]) rfl .here (by kernel_rfl))<|Z6 _ (Z06 rfl (fun w hw=>Zi8 f11 (hG.at hw (by simp))))<|Zg _ (Z06 rfl (fun w hw=>Zhh f12 (hG.at hw (by simp)) ((Z0z A0_0 Z17) w hw)))<|Z6 _ (Z09 rfl)<|Zr<|Zd ?_
       revert h; refine Z00 fun h=>?_
       subst h
       exact ⟨_,(.cons (.tmp rfl) .nil),rfl⟩
      ·refine Z0<|Z1<|Z4 _ (Zb rfl rfl rfl)<|Z7 rfl<|Z2<|Z0w h rfl (fun h=>?_) (fun h=>?_)
       ·refine Z0<|oH h fun y13 f13 h=>oH h fun y14 f14 h=>Zj<|Z6 _ (Z1u rfl)<|Zg _ (Z04 (p:=[b3' p0.gIssuer,.one (v0_0)]) rfl .t2 rfl)<|Zg _ (Z04 (p:=[b3' p1]) rfl .t1 rfl)<|Zg _ (Z04 (p:=[.one (.int .i64 (p2.gHead.gSize)),b3' p2.gHead.gRoot,b6' p2.gHead.gSig]) rfl .here (by kernel_rfl))<|Z6 _ (Z06 rfl (fun w hw=>Zkq f13 (hG.at hw (by simp))))<|Zg _ (Z06 rfl (fun w hw=>Zjx f14 (hG.at hw (by simp)) ((Z0z A0_0 Z17) w hw)))<|Z6 _ (Z09 rfl)<|Zr<|Zd ?_
        revert h; refine Z00 fun h=>?_
        subst h
        exact ⟨_,(.cons (.tmp rfl) .nil),rfl⟩
       ·refine Zy<|Z0<|Z1<|Z7 rfl<|Z2<|Zd ?_
        revert h; refine Z00 fun h=>?_
        subst h
        exact ⟨_,(.cons (.tmp rfl) .nil),rfl⟩
def Zl (p0:Z07):Option Bool :=
 jn (fun (i1:Int)=>some (i1==0)) fun k1=>br ((p0.gKind==1)) (
 opt (Z99 p0.gCert) fun y1 =>
 k1 y1.2
 ) (
 br ((p0.gKind==2)) (
 opt (Z7s p0.gFreeze) fun y2 =>
 k1 y2.2
 ) (
 br ((p0.gKind==3)) (
 opt (Zau p0.gAck) fun y3 =>
 k1 y3.2
 ) (
 br ((p0.gKind==4)) (
 opt (Z5a p0.gRevocation) fun y4 =>
 k1 y4.2
 ) (
 br ((p0.gKind==5)) (
 opt (Z8q p0.gFloor) fun y5 =>
 k1 y5.2
 ) (
 br ((p0.gKind==6)) (
 opt (Z74 p0.gReceipt) fun y6 =>
 k1 y6.2
 ) (
 br ((p0.gKind==7)) (
 opt (Z9a p0.gHead) fun y7 =>
 k1 y7.2
 ) (
 k1 2
 )
 )
 )
 )
 )
 )
 )
theorem Zf2 {W:World} {r:Bool} {p0:Z07} (h:Zl p0=some r)  :
    Calls Tryz.prog 10 [agg [.one (.int .i64 (p0.gKind)),.one (.int .i64 (p0.gCert.gSerial)),.one (.int .i64 (p0.gCert.gRides)),.one (.int .i64 (p0.gCert.gPrice)),b3' p0.gCert.gAnchor,b6' p0.gCert.gSig,.one (.int .i64 (p0.gFreeze.gCert.gSerial)),.one (.int .i64 (p0.gFreeze.gCert.gRides)),.one (.int .i64 (p0.gFreeze.gCert.gPrice)),b3' p0.gFreeze.gCert.gAnchor,b6' p0.gFreeze.gCert.gSig,b6' p0.gFreeze.gSig,.one (.int .i64 (p0.gAck.gSerial)),.one (.int .i64 (p0.gAck.gGate)),.one (.int .i64 (p0.gAck.gIndex)),b3' p0.gAck.gValue,b6' p0.gAck.gSig,.one (.int .i64 (p0.gRevocation.gCert.gSerial)),.one (.int .i64 (p0.gRevocation.gCert.gRides)),.one (.int .i64 (p0.gRevocation.gCert.gPrice)),b3' p0.gRevocation.gCert.gAnchor,b6' p0.gRevocation.gCert.gSig,b6' p0.gRevocation.gSig,.one (.int .i64 (p0.gFloor.gFloor)),b6' p0.gFloor.gSig,.one (.int .i64 (p0.gReceipt.gSerial)),.one (.int .i64 (p0.gReceipt.gRides)),.one (.int .i64 (p0.gReceipt.gAmount)),b6' p0.gReceipt.gSig,.one (.int .i64 (p0.gHead.gSize)),b3' p0.gHead.gRoot,b6' p0.gHead.gSig]].toArray W (Z2d W (.bool (r))):=by
 unfold Zl at h
 refine Z9 mo ok10 rfl ?_
 refine Z0<|Z1<|Zc (Z03 (s:=[.one (.int .i64 (p0.gKind)),.one (.int .i64 (p0.gCert.gSerial)),.one (.int .i64 (p0.gCert.gRides)),.one (.int .i64 (p0.gCert.gPrice)),b3' p0.gCert.gAnchor,b6' p0.gCert.gSig,.one (.int .i64 (p0.gFreeze.gCert.gSerial)),.one (.int .i64 (p0.gFreeze.gCert.gRides)),.one (.int .i64 (p0.gFreeze.gCert.gPrice)),b3' p0.gFreeze.gCert.gAnchor,b6' p0.gFreeze.gCert.gSig,b6' p0.gFreeze.gSig,.one (.int .i64 (p0.gAck.gSerial)),.one (.int .i64 (p0.gAck.gGate)),.one (.int .i64 (p0.gAck.gIndex)),b3' p0.gAck.gValue,b6' p0.gAck.gSig,.one (.int .i64 (p0.gRevocation.gCert.gSerial)),.one (.int .i64 (p0.gRevocation.gCert.gRides)),.one (.int .i64 (p0.gRevocation.gCert.gPrice)),b3' p0.gRevocation.gCert.gAnchor,b6' p0.gRevocation.gCert.gSig,b6' p0.gRevocation.gSig,.one (.int .i64 (p0.gFloor.gFloor)),b6' p0.gFloor.gSig,.one (.int .i64 (p0.gReceipt.gSerial)),.one (.int .i64 (p0.gReceipt.gRides)),.one (.int .i64 (p0.gReceipt.gAmount)),b6' p0.gReceipt.gSig,.one (.int .i64 (p0.gHead.gSize)),b3' p0.gHead.gRoot,b6' p0.gHead.gSig]) rfl fun b1 u1=>Z7 rfl<|Z2<|Z0<|Z1<|Z7 rfl<|Z2<|Z0<|Z0<|Z1<|Z4 _ (Z1u rfl)<|Z4 _ (Z0j rfl .here rfl)<|Z2<|jH h fun k1 q1 h=>Zq (G:=fun t m=>∃ (i1:Int),k1 i1=some r/\Fit [(3,.int .i64 (i1))] (ck b1 42 [.one (.int .i64 (p0.gKind)),.one (.int .i64 (p0.gCert.gSerial)),.one (.int .i64 (p0.gCert.gRides)),.one (.int .i64 (p0.gCert.gPrice)),b3' p0.gCert.gAnchor,b6' p0.gCert.gSig,.one (.int .i64 (p0.gFreeze.gCert.gSerial)),.one (.int .i64 (p0.gFreeze.gCert.gRides)),.one (.int .i64 (p0.gFreeze.gCert.gPrice)),b3' p0.gFreeze.gCert.gAnchor,b6' p0.gFreeze.gCert.gSig,b6' p0.gFreeze.gSig,.one (.int .i64 (p0.gAck.gSerial)),.one (.int .i64 (p0.gAck.gGate)),.one (.int .i64 (p0.gAck.gIndex)),b3' p0.gAck.gValue,b6' p0.gAck.gSig,.one (.int .i64 (p0.gRevocation.gCert.gSerial)),.one (.int .i64 (p0.gRevocation.gCert.gRides)),.one (.int .i64 (p0.gRevocation.gCert.gPrice)),b3' p0.gRevocation.gCert.gAnchor,b6' p0.gRevocation.gCert.gSig,b6' p0.gRevocation.gSig,.one (.int .i64 (p0.gFloor.gFloor)),b6' p0.gFloor.gSig,.one (.int .i64 (p0.gReceipt.gSerial)),.one (.int .i64 (p0.gReceipt.gRides)),.one (.int .i64 (p0.gReceipt.gAmount)),b6' p0.gReceipt.gSig,.one (.int .i64 (p0.gHead.gSize)),b3' p0.gHead.gRoot,b6' p0.gHead.gSig] :: []) t m) ?_ ?_)
 ·refine Zf<|Z0<|Z1<|Z4 _ (Zb rfl rfl rfl)<|Z7 rfl<|Z2<|Z0w h rfl (fun h=>?_) (fun h=>?_)
  ·refine oH h fun y1 f1 h=>Z1<|Z4 _ (Z1u rfl)<|Z4 _ (Z04 (p:=[.one (.int .i64 (p0.gCert.gSerial)),.one (.int .i64 (p0.gCert.gRides)),.one (.int .i64 (p0.gCert.gPrice)),b3' p0.gCert.gAnchor,b6' p0.gCert.gSig]) rfl .here (by kernel_rfl))<|Zc (Zh rfl (fun w hw=>Zcq  f1 ) fun v74 o1 R1=>?_)
   obtain ⟨v76,w1,rfl,rfl,O1⟩:=R1
   exact Z7 rfl<|Z4 _ (Z0q rfl rfl)<|Z4 _ (Z0q rfl rfl)<|Z7 rfl<|Z2<|⟨y1.2,h,⟨⟨rfl,trivial⟩,(.one (.app .here) .nil)⟩⟩
  ·refine Z0<|Z1<|Z4 _ (Zb rfl rfl rfl)<|Z7 rfl<|Z2<|Z0w h rfl (fun h=>?_) (fun h=>?_)
   ·refine oH h fun y2 f2 h=>Z1<|Z4 _ (Z1u rfl)<|Z4 _ (Z04 (p:=[.one (.int .i64 (p0.gFreeze.gCert.gSerial)),.one (.int .i64 (p0.gFreeze.gCert.gRides)),.one (.int .i64 (p0.gFreeze.gCert.gPrice)),b3' p0.gFreeze.gCert.gAnchor,b6' p0.gFreeze.gCert.gSig,b6' p0.gFreeze.gSig]) rfl .here (by kernel_rfl))<|Zc (Zh rfl (fun w hw=>Zav  f2 ) fun v83 o2 R2=>?_)
    obtain ⟨v85,w2,rfl,rfl,O2⟩:=R2
    exact Z7 rfl<|Z4 _ (Z0q rfl rfl)<|Z4 _ (Z0q rfl rfl)<|Z7 rfl<|Z2<|⟨y2.2,h,⟨⟨rfl,trivial⟩,(.one (.app .here) .nil)⟩⟩
   ·refine Z0<|Z1<|Z4 _ (Zb rfl rfl rfl)<|Z7 rfl<|Z2<|Z0w h rfl (fun h=>?_) (fun h=>?_)
    ·refine oH h fun y3 f3 h=>Z1<|Z4 _ (Z1u rfl)<|Z4 _ (Z04 (p:=[.one (.int .i64 (p0.gAck.gSerial)),.one (.int .i64 (p0.gAck.gGate)),.one (.int .i64 (p0.gAck.gIndex)),b3' p0.gAck.gValue,b6' p0.gAck.gSig]) rfl .here (by kernel_rfl))<|Zc (Zh rfl (fun w hw=>Zd6  f3 ) fun v92 o3 R3=>?_)
     obtain ⟨v94,w3,rfl,rfl,O3⟩:=R3
     exact Z7 rfl<|Z4 _ (Z0q rfl rfl)<|Z4 _ (Z0q rfl rfl)<|Z7 rfl<|Z2<|⟨y3.2,h,⟨⟨rfl,trivial⟩,(.one (.app .here) .nil)⟩⟩
    ·refine Z0<|Z1<|Z4 _ (Zb rfl rfl rfl)<|Z7 rfl<|Z2<|Z0w h rfl (fun h=>?_) (fun h=>?_)
     ·refine oH h fun y4 f4 h=>Z1<|Z4 _ (Z1u rfl)<|Z4 _ (Z04 (p:=[.one (.int .i64 (p0.gRevocation.gCert.gSerial)),.one (.int .i64 (p0.gRevocation.gCert.gRides)),.one (.int .i64 (p0.gRevocation.gCert.gPrice)),b3' p0.gRevocation.gCert.gAnchor,b6' p0.gRevocation.gCert.gSig,b6' p0.gRevocation.gSig]) rfl .here (by kernel_rfl))<|Zc (Zh rfl (fun w hw=>Z8k  f4 ) fun v101 o4 R4=>?_)
      obtain ⟨v103,w4,rfl,rfl,O4⟩:=R4
      exact Z7 rfl<|Z4 _ (Z0q rfl rfl)<|Z4 _ (Z0q rfl rfl)<|Z7 rfl<|Z2<|⟨y4.2,h,⟨⟨rfl,trivial⟩,(.one (.app .here) .nil)⟩⟩
     ·refine Z0<|Z1<|Z4 _ (Zb rfl rfl rfl)<|Z7 rfl<|Z2<|Z0w h rfl (fun h=>?_) (fun h=>?_)
      ·refine oH h fun y5 f5 h=>Z1<|Z4 _ (Z1u rfl)<|Z4 _ (Z04 (p:=[.one (.int .i64 (p0.gFloor.gFloor)),b6' p0.gFloor.gSig]) rfl .here (by kernel_rfl))<|Zc (Zh rfl (fun w hw=>Zb6  f5 ) fun v110 o5 R5=>?_)
       obtain ⟨v112,w5,rfl,rfl,O5⟩:=R5
       exact Z7 rfl<|Z4 _ (Z0q rfl rfl)<|Z4 _ (Z0q rfl rfl)<|Z7 rfl<|Z2<|⟨y5.2,h,⟨⟨rfl,trivial⟩,(.one (.app .here) .nil)⟩⟩
      ·refine Z0<|Z1<|Z4 _ (Zb rfl rfl rfl)<|Z7 rfl<|Z2<|Z0w h rfl (fun h=>?_) (fun h=>?_)
       ·refine oH h fun y6 f6 h=>Z1<|Z4 _ (Z1u rfl)<|Z4 _ (Z04 (p:=[.one (.int .i64 (p0.gReceipt.gSerial)),.one (.int .i64 (p0.gReceipt.gRides)),.one (.int .i64 (p0.gReceipt.gAmount)),b6' p0.gReceipt.gSig]) rfl .here (by kernel_rfl))<|Zc (Zh rfl (fun w hw=>Z9z  f6 ) fun v119 o6 R6=>?_)
        obtain ⟨v121,w6,rfl,rfl,O6⟩:=R6
        exact Z7 rfl<|Z4 _ (Z0q rfl rfl)<|Z4 _ (Z0q rfl rfl)<|Z7 rfl<|Z2<|⟨y6.2,h,⟨⟨rfl,trivial⟩,(.one (.app .here) .nil)⟩⟩
       ·refine Z0<|Z1<|Z4 _ (Zb rfl rfl rfl)<|Z7 rfl<|Z2<|Z0w h rfl (fun h=>?_) (fun h=>?_)
        ·refine oH h fun y7 f7 h=>Z1<|Z4 _ (Z1u rfl)<|Z4 _ (Z04 (p:=[.one (.int .i64 (p0.gHead.gSize)),b3' p0.gHead.gRoot,b6' p0.gHead.gSig]) rfl .here (by kernel_rfl))<|Zc (Zh rfl (fun w hw=>Zcr  f7 ) fun v128 o7 R7=>?_)
         obtain ⟨v130,w7,rfl,rfl,O7⟩:=R7
         exact Z7 rfl<|Z4 _ (Z0q rfl rfl)<|Z4 _ (Z0q rfl rfl)<|Z7 rfl<|Z2<|⟨y7.2,h,⟨⟨rfl,trivial⟩,(.one (.app .here) .nil)⟩⟩
        ·exact Zy<|⟨2,h,⟨⟨rfl,trivial⟩,(.o .nil)⟩⟩
 ·rintro t m ⟨i1,h,hF⟩
  refine Zo hF ?_
  clear hF
  subst q1
  refine Z0<|Z1<|Z7 rfl<|Z4 _ (Zb rfl rfl rfl)<|Z7 rfl<|Z2<|Zd ?_
  revert h; refine Z00 fun h=>?_
  subst h
  exact ⟨_,(.cons (.tmp rfl) .nil),rfl⟩
def Z57 (p0:Z0s) (p1:Z07):Option Bool :=
 opt (Ze4 p0) fun y1 =>
 br ((((y1.2 != 0)||(decide (p1.gKind<1)))||(decide (p1.gKind>7)))) (
 opt (Zbl p0) fun y2 =>
 chk (imp ((y1.2==0)==(y2==0)) ((Z1s).isSome)) <|
 some (((y1.2==0)==(y2==0))&&((Z1s).getD false))
 ) (
 jn (fun (i1:Int) (i2:Bool)=>opt (Z91 p0 i1) fun y3 =>
 chk (imp y3.2 (((Zz y1.1 y3.1 p1).isSome&&imp i2 ((Zl p1).isSome)))) <|
 chk (imp (y3.2&&(((Zz y1.1 y3.1 p1).getD false)==(i2&&((Zl p1).getD false)))) ((Z1s).isSome)) <|
 some ((y3.2&&(((Zz y1.1 y3.1 p1).getD false)==(i2&&((Zl p1).getD false))))&&((Z1s).getD false))) fun k1=>br ((p1.gKind==3)) (
 br ((!((decide (p1.gAck.gGate≥1))&&(decide (p1.gAck.gGate<=p0.gGates))))) (
 k1 0 ((decide (p1.gAck.gGate≥1))&&(decide (p1.gAck.gGate<=p0.gGates)))
 ) (
 k1 p1.gAck.gGate ((decide (p1.gAck.gGate≥1))&&(decide (p1.gAck.gGate<=p0.gGates)))
 )
 ) (
 k1 0 true
 )
 )
theorem fareboxlaw11_RingHolds_spec {W:World} {r:Bool} {p0:Z0s} {p1:Z07} (h:Z57 p0 p1=some r) (hG:Globs W) :
    Calls Tryz.prog 3 [agg [.one (.int .i64 (p0.gGates)),.one (.int .i64 (p0.gWallets)),.one (.int .i64 (p0.gRows)),.one (.int .i64 (p0.gFlash)),.one (.int .i64 (p0.gSerials)),b3' p0.gSecret],agg [.one (.int .i64 (p1.gKind)),.one (.int .i64 (p1.gCert.gSerial)),.one (.int .i64 (p1.gCert.gRides)),.one (.int .i64 (p1.gCert.gPrice)),b3' p1.gCert.gAnchor,b6' p1.gCert.gSig,.one (.int .i64 (p1.gFreeze.gCert.gSerial)),.one (.int .i64 (p1.gFreeze.gCert.gRides)),.one (.int .i64 (p1.gFreeze.gCert.gPrice)),b3' p1.gFreeze.gCert.gAnchor,b6' p1.gFreeze.gCert.gSig,b6' p1.gFreeze.gSig,.one (.int .i64 (p1.gAck.gSerial)),.one (.int .i64 (p1.gAck.gGate)),.one (.int .i64 (p1.gAck.gIndex)),b3' p1.gAck.gValue,b6' p1.gAck.gSig,.one (.int .i64 (p1.gRevocation.gCert.gSerial)),.one (.int .i64 (p1.gRevocation.gCert.gRides)),.one (.int .i64 (p1.gRevocation.gCert.gPrice)),b3' p1.gRevocation.gCert.gAnchor,b6' p1.gRevocation.gCert.gSig,b6' p1.gRevocation.gSig,.one (.int .i64 (p1.gFloor.gFloor)),b6' p1.gFloor.gSig,.one (.int .i64 (p1.gReceipt.gSerial)),.one (.int .i64 (p1.gReceipt.gRides)),.one (.int .i64 (p1.gReceipt.gAmount)),b6' p1.gReceipt.gSig,.one (.int .i64 (p1.gHead.gSize)),b3' p1.gHead.gRoot,b6' p1.gHead.gSig]].toArray W (Z2d W (.bool (r))):=by
 unfold Z57 at h
 refine Z9 mo ok3 rfl ?_
 refine Z0<|Z1<|Zc (Z03 (s:=[.one (.int .i64 (p0.gGates)),.one (.int .i64 (p0.gWallets)),.one (.int .i64 (p0.gRows)),.one (.int .i64 (p0.gFlash)),.one (.int .i64 (p0.gSerials)),b3' p0.gSecret]) rfl fun b1 u1=>Zc (Z03 (s:=[.one (.int .i64 (p1.gKind)),.one (.int .i64 (p1.gCert.gSerial)),.one (.int .i64 (p1.gCert.gRides)),.one (.int .i64 (p1.gCert.gPrice)),b3' p1.gCert.gAnchor,b6' p1.gCert.gSig,.one (.int .i64 (p1.gFreeze.gCert.gSerial)),.one (.int .i64 (p1.gFreeze.gCert.gRides)),.one (.int .i64 (p1.gFreeze.gCert.gPrice)),b3' p1.gFreeze.gCert.gAnchor,b6' p1.gFreeze.gCert.gSig,b6' p1.gFreeze.gSig,.one (.int .i64 (p1.gAck.gSerial)),.one (.int .i64 (p1.gAck.gGate)),.one (.int .i64 (p1.gAck.gIndex)),b3' p1.gAck.gValue,b6' p1.gAck.gSig,.one (.int .i64 (p1.gRevocation.gCert.gSerial)),.one (.int .i64 (p1.gRevocation.gCert.gRides)),.one (.int .i64 (p1.gRevocation.gCert.gPrice)),b3' p1.gRevocation.gCert.gAnchor,b6' p1.gRevocation.gCert.gSig,b6' p1.gRevocation.gSig,.one (.int .i64 (p1.gFloor.gFloor)),b6' p1.gFloor.gSig,.one (.int .i64 (p1.gReceipt.gSerial)),.one (.int .i64 (p1.gReceipt.gRides)),.one (.int .i64 (p1.gReceipt.gAmount)),b6' p1.gReceipt.gSig,.one (.int .i64 (p1.gHead.gSize)),b3' p1.gHead.gRoot,b6' p1.gHead.gSig]) rfl fun b2 u2=>Z7 rfl<|Z2<|Z0<|oH h fun y1 f1 h=>Z1<|Z4 _ (Z04 (p:=[.one (.int .i64 (p0.gGates)),.one (.int .i64 (p0.gWallets)),.one (.int .i64 (p0.gRows)),.one (.int .i64 (p0.gFlash)),.one (.int .i64 (p0.gSerials)),b3' p0.gSecret]) rfl .t1 rfl)<|Zc (Zh rfl (fun w hw=>Zjj  f1 (hG.at hw (by simp))) fun v6 o1 R1=>?_)))
 obtain ⟨v8,w1,rfl,rfl,O1⟩:=R1
 refine Z7 rfl<|Z4 _ (Z0q rfl rfl)<|Z4 _ (Z0q rfl rfl)<|Zc (Zs fun b3 u3=>Zc (Zd3 (q:=[b3' y1.1.gIssuer,.one (v8)]) rfl rfl rfl rfl (Z0r Zak (Z0r (Z3l (Z97.one1 (Z0b.isSl O1))) Z43)) .here<|Z7 rfl<|Z2<|Z0<|Z0<|Z1<|Z7 rfl<|Z4 _ (Zb rfl rfl rfl)<|Z7 rfl<|Zk3 rfl rfl rfl (fun hg1=>Z31 rfl _ (Z1u rfl) (Z31 rfl _ (Z0j rfl (.there (.app .here)) rfl) (Z31 rfl _ (Zb rfl rfl rfl) (Z2a)))) (fun hg1=>rfl) rfl<|Z7 rfl<|Zk3 rfl rfl rfl (fun hg1=>Z31 rfl _ (Z1u rfl) (Z31 rfl _ (Z0j rfl (.there (.app .here)) rfl) (Z31 rfl _ (Zb rfl rfl rfl) (Z2a)))) (fun hg1=>rfl) rfl<|Z2<|Z0w h rfl (fun h=>?_) (fun h=>?_)))
 ·refine Z0<|oH h fun y2 f2 h=>cH h fun c1 h=>Z1<|Z7 rfl<|Z4 _ (Zb rfl rfl rfl)<|Z4 _ (Z04 (p:=[.one (.int .i64 (p0.gGates)),.one (.int .i64 (p0.gWallets)),.one (.int .i64 (p0.gRows)),.one (.int .i64 (p0.gFlash)),.one (.int .i64 (p0.gSerials)),b3' p0.gSecret]) rfl (.there (.app .t1)) rfl)<|Z4 _ (Z1e rfl (Ze3 f2))<|Z4 _ (Zb rfl rfl rfl)<|Z4 _ (Z0gd rfl rfl)<|Z7 rfl<|Zjn rfl rfl rfl (fun hg1=>Z31 rfl _ (Z06 rfl (fun w hw=>Zad (getD_some (z:=false) (Zom c1 hg1)) (hG.at hw (by simp)))) (Z2a)) (fun hg1=>rfl) rfl<|Z7 rfl<|Z2<|Zd ?_
  revert h; refine Z00 fun h=>?_
  subst h
  exact ⟨_,(.cons (.tmp rfl) .nil),rfl⟩
 ·refine Zy<|Z0<|Z1<|Z7 rfl<|Z2<|Z0<|Z1<|Z7 rfl<|Z2<|Z0<|Z0<|Z1<|Z4 _ (Z1u rfl)<|Z4 _ (Z0j rfl (.there (.app .here)) rfl)<|Z4 _ (Zb rfl rfl rfl)<|Z2<|jH h fun k1 q1 h=>Zq (G:=fun t m=>∃ (i1:Int) (i2:Bool),k1 i1 i2=some r/\Fit [(2,pt' b1),(3,pt' b2),(5,pt' b3),(7,.int .i64 (i1)),(8,.bool (i2))] (ck b3 46 [b3' y1.1.gIssuer,.one (v8)]::(w1++(ck b2 42 [.one (.int .i64 (p1.gKind)),.one (.int .i64 (p1.gCert.gSerial)),.one (.int .i64 (p1.gCert.gRides)),.one (.int .i64 (p1.gCert.gPrice)),b3' p1.gCert.gAnchor,b6' p1.gCert.gSig,.one (.int .i64 (p1.gFreeze.gCert.gSerial)),.one (.int .i64 (p1.gFreeze.gCert.gRides)),.one (.int .i64 (p1.gFreeze.gCert.gPrice)),b3' p1.gFreeze.gCert.gAnchor,b6' p1.gFreeze.gCert.gSig,b6' p1.gFreeze.gSig,.one (.int .i64 (p1.gAck.gSerial)),.one (.int .i64 (p1.gAck.gGate)),.one (.int .i64 (p1.gAck.gIndex)),b3' p1.gAck.gValue,b6' p1.gAck.gSig,.one (.int .i64 (p1.gRevocation.gCert.gSerial)),.one (.int .i64 (p1.gRevocation.gCert.gRides)),.one (.int .i64 (p1.gRevocation.gCert.gPrice)),b3' p1.gRevocation.gCert.gAnchor,b6' p1.gRevocation.gCert.gSig,b6' p1.gRevocation.gSig,.one (.int .i64 (p1.gFloor.gFloor)),b6' p1.gFloor.gSig,.one (.int .i64 (p1.gReceipt.gSerial)),.one (.int .i64 (p1.gReceipt.gRides)),.one (.int .i64 (p1.gReceipt.gAmount)),b6' p1.gReceipt.gSig,.one (.int .i64 (p1.gHead.gSize)),b3' p1.gHead.gRoot,b6' p1.gHead.gSig]::(ck b1 25 [.one (.int .i64 (p0.gGates)),.one (.int .i64 (p0.gWallets)),.one (.int .i64 (p0.gRows)),.one (.int .i64 (p0.gFlash)),.one (.int .i64 (p0.gSerials)),b3' p0.gSecret] :: [])))) t m) ?_ ?_
  ·refine Z0w h rfl (fun h=>?_) (fun h=>?_)
   ·refine Z0<|Z1<|Z4 _ (Z1u rfl)<|Z4 _ (Z1u rfl)<|Z4 _ (Z0j rfl (.there (.app .here)) rfl)<|Z7 rfl<|Z2<|Z0<|Z1<|Z7 rfl<|Z4 _ (Zb rfl rfl rfl)<|Z7 rfl<|Zjn rfl rfl rfl (fun hg1=>Z31 rfl _ (Z09 rfl) (Z31 rfl _ (Z1u rfl) (Z31 rfl _ (Z0j rfl (.there (.app .t1)) rfl) (Z31 rfl _ (Zb rfl rfl rfl) (Z2a))))) (fun hg1=>rfl) rfl<|Z7 rfl<|Z2<|Z0<|Z1<|Z7 rfl<|Z4 _ (Zqa rfl rfl)<|Z2<|Z0w h rfl (fun h=>?_) (fun h=>?_)
    ·exact Z1<|Z7 rfl<|Z2<|⟨0,((decide (p1.gAck.gGate≥1))&&(decide (p1.gAck.gGate<=p0.gGates))),h,⟨⟨rfl,rfl,rfl,rfl,rfl,trivial⟩,(.o (.all .here (.o (.o .nil))))⟩⟩
    ·exact Zy<|⟨p1.gAck.gGate,((decide (p1.gAck.gGate≥1))&&(decide (p1.gAck.gGate<=p0.gGates))),h,⟨⟨rfl,rfl,rfl,rfl,rfl,trivial⟩,(.o (.all .here (.o (.o .nil))))⟩⟩
   ·exact Zy<|⟨0,true,h,⟨⟨rfl,rfl,rfl,rfl,rfl,trivial⟩,(.o (.all .here (.o (.o .nil))))⟩⟩
  ·rintro t m ⟨i1,i2,h,hF⟩
   refine Zo hF ?_
   clear hF
   subst q1
   refine Z0<|oH h fun y3 f3 h=>Z1<|Z4 _ (Z04 (p:=[.one (.int .i64 (p0.gGates)),.one (.int .i64 (p0.gWallets)),.one (.int .i64 (p0.gRows)),.one (.int .i64 (p0.gFlash)),.one (.int .i64 (p0.gSerials)),b3' p0.gSecret]) rfl (.there (.app .t1)) rfl)<|Z7 rfl<|Z4 _ (Z06 rfl (fun w hw=>Zfa f3 (hG.at hw (by simp))))<|Z7 rfl<|Z4 _ (Z0q rfl rfl)<|Z4 _ (Z0q rfl rfl)<|Zc (Zs fun b4 u4=>Zc (Zn (q:=[b3' y3.1]) rfl rfl rfl rfl rfl .here<|Z7 rfl<|Z2<|Z0<|cH h fun c2 h=>cH h fun c3 h=>Z1<|Z7 rfl<|Z7 rfl<|Zjn rfl rfl rfl (fun hg1=>Z31 rfl _ (Z04 (p:=[b3' y1.1.gIssuer,.one (v8)]) rfl .t1 rfl) (Z31 rfl _ (Z04 (p:=[b3' y3.1]) rfl .here rfl) (Z31 rfl _ (Z04 (p:=[.one (.int .i64 (p1.gKind)),.one (.int .i64 (p1.gCert.gSerial)),.one (.int .i64 (p1.gCert.gRides)),.one (.int .i64 (p1.gCert.gPrice)),b3' p1.gCert.gAnchor,b6' p1.gCert.gSig,.one (.int .i64 (p1.gFreeze.gCert.gSerial)),.one (.int .i64 (p1.gFreeze.gCert.gRides)),.one (.int .i64 (p1.gFreeze.gCert.gPrice)),b3' p1.gFreeze.gCert.gAnchor,b6' p1.gFreeze.gCert.gSig,b6' p1.gFreeze.gSig,.one (.int .i64 (p1.gAck.gSerial)),.one (.int .i64 (p1.gAck.gGate)),.one (.int .i64 (p1.gAck.gIndex)),b3' p1.gAck.gValue,b6' p1.gAck.gSig,.one (.int .i64 (p1.gRevocation.gCert.gSerial)),.one (.int .i64 (p1.gRevocation.gCert.gRides)),.one (.int .i64 (p1.gRevocation.gCert.gPrice)),b3' p1.gRevocation.gCert.gAnchor,b6' p1.gRevocation.gCert.gSig,b6' p1.gRevocation.gSig,.one (.int .i64 (p1.gFloor.gFloor)),b6' p1.gFloor.gSig,.one (.int .i64 (p1.gReceipt.gSerial)),.one (.int .i64 (p1.gReceipt.gRides)),.one (.int .i64 (p1.gReceipt.gAmount)),b6' p1.gReceipt.gSig,.one (.int .i64 (p1.gHead.gSize)),b3' p1.gHead.gRoot,b6' p1.gHead.gSig]) rfl (.there (.there (.app .here))) (by kernel_rfl)) (Z31 rfl _ (Z06 rfl (fun w hw=>Zgl (getD_some (z:=false) (Z0aa (Zom c2 hg1))) (hG.at hw (by simp)) ((Z0f O1 .t2) w hw))) (Z31 rfl _ (Z09 rfl) (Z31 rfl _ (Z09 rfl) (Zvc rfl (fun _ h=>by cases h; rfl) rfl rfl (fun hg2=>Z31 rfl _ (Z04 (p:=[.one (.int .i64 (p1.gKind)),.one (.int .i64 (p1.gCert.gSerial)),.one (.int .i64 (p1.gCert.gRides)),.one (.int .i64 (p1.gCert.gPrice)),b3' p1.gCert.gAnchor,b6' p1.gCert.gSig,.one (.int .i64 (p1.gFreeze.gCert.gSerial)),.one (.int .i64 (p1.gFreeze.gCert.gRides)),.one (.int .i64 (p1.gFreeze.gCert.gPrice)),b3' p1.gFreeze.gCert.gAnchor,b6' p1.gFreeze.gCert.gSig,b6' p1.gFreeze.gSig,.one (.int .i64 (p1.gAck.gSerial)),.one (.int .i64 (p1.gAck.gGate)),.one (.int .i64 (p1.gAck.gIndex)),b3' p1.gAck.gValue,b6' p1.gAck.gSig,.one (.int .i64 (p1.gRevocation.gCert.gSerial)),.one (.int .i64 (p1.gRevocation.gCert.gRides)),.one (.int .i64 (p1.gRevocation.gCert.gPrice)),b3' p1.gRevocation.gCert.gAnchor,b6' p1.gRevocation.gCert.gSig,b6' p1.gRevocation.gSig,.one (.int .i64 (p1.gFloor.gFloor)),b6' p1.gFloor.gSig,.one (.int .i64 (p1.gReceipt.gSerial)),.one (.int .i64 (p1.gReceipt.gRides)),.one (.int .i64 (p1.gReceipt.gAmount)),b6' p1.gReceipt.gSig,.one (.int .i64 (p1.gHead.gSize)),b3' p1.gHead.gRoot,b6' p1.gHead.gSig]) rfl (.there (.there (.app .here))) (by kernel_rfl)) (Z31 rfl _ (Z06 rfl (fun _ _=>Zf2 (getD_some (z:=false) (Zom (Z0ab (Zom c2 hg1)) hg2)))) (Z2a))) (fun hg2=>rfl) rfl (Z31 rfl _ (Z0gd rfl rfl) (Z2a))))))))) (fun hg1=>rfl) rfl<|Z7 rfl<|Zjn rfl rfl rfl (fun hg1=>Z31 rfl _ (Z06 rfl (fun w hw=>Zad (getD_some (z:=false) (Zom c3 hg1)) (hG.at hw (by simp)))) (Z2a)) (fun hg1=>rfl) rfl<|Z7 rfl<|Z2<|Zd ?_))
   revert h; refine Z00 fun h=>?_
   subst h
   exact ⟨_,(.cons (.tmp rfl) .nil),rfl⟩
end Go.Proofs.YteefpkhngighgaaGreatDoor

namespace Go.Proofs.YteefpkhngighgaaGreatDoor
open Go Go.Sx Go.RowKit
set_option linter.all false
theorem Zin (x:Int):IntKind.u64.wrap x=x%18446744073709551616:=by simp [IntKind.wrap,IntKind.bits,IntKind.signed]
theorem Z13 (x:Int):IntKind.u8.wrap x=x%256:=by simp [IntKind.wrap,IntKind.bits,IntKind.signed]
theorem Z0a {x:Int} (h0:0<=x) (h1:x<18446744073709551616):IntKind.u64.wrap x=x:=by rw [Zin]; omega
theorem Zu {x:Int} (h0 : -9223372036854775808<=x) (h1:x<=9223372036854775807):IntKind.i64.wrap x=x:=by rw [IntKind.wrap_i64]; omega
theorem bv64 (m:Nat) (h:m<18446744073709551616):(BitVec.ofInt 64 (m:Int)).toNat=m:=by
 rw [BitVec.toNat_ofInt]; simp; omega
theorem bv8 (m:Nat) (h:m<256):(BitVec.ofInt 8 (m:Int)).toNat=m:=by
 rw [BitVec.toNat_ofInt]; simp; omega
theorem Z0kq {x y:Int} (m n:Nat) (hx:x=m) (hy:y=n) (h1:m<18446744073709551616) (h2:n<18446744073709551616):Z8 .and .u64 x y=((m &&& n:Nat):Int):=by
 subst hx; subst hy
 show IntKind.u64.wrap (((BitVec.ofInt 64 (m:Int) &&& BitVec.ofInt 64 (n:Int)).toNat:Nat):Int)=_
 rw [BitVec.toNat_and,bv64 m h1,bv64 n h2,Z0a (by omega)]
 have:m &&& n<=m:=Nat.and_le_left
 omega
theorem or64 {x y:Int} (m n:Nat) (hx:x=m) (hy:y=n) (h1:m<18446744073709551616) (h2:n<18446744073709551616):Z8 .or .u64 x y=((m ||| n:Nat):Int):=by
 subst hx; subst hy
 show IntKind.u64.wrap (((BitVec.ofInt 64 (m:Int) ||| BitVec.ofInt 64 (n:Int)).toNat:Nat):Int)=_
 rw [BitVec.toNat_or,bv64 m h1,bv64 n h2,Z0a (by omega)]
 have:m ||| n<2^64:=Nat.or_lt_two_pow (by simpa using h1) (by simpa using h2)
 simp at this; omega
theorem Zpr (k:Nat) {x y:Int} (hy:y=((2^k-1:Nat):Int)) (hk:2^k<=18446744073709551616) (h0:0<=x) (h1:x<18446744073709551616):Z8 .and .u64 x y=x%((2^k:Nat):Int):=by
 have hp:0<2^k:=Nat.pow_pos (by decide)
 rw [Z0kq x.toNat (2^k-1) (by omega) hy (by omega) (by omega),Nat.and_two_pow_sub_one_eq_mod]
 rw [Int.natCast_emod]
 congr 1; omega
theorem Zpq {x:Int} (h0:0<=x) (h1:x<18446744073709551616):Z8 .and .u64 x 2251799813685247=x%2251799813685248:=Zpr 51 (by decide) (by decide) h0 h1
theorem Z05e {x:Int} (h0:0<=x) (h1:x<18446744073709551616):Z8 .and .u64 x 4294967295=x%4294967296:=Zpr 32 (by decide) (by decide) h0 h1
theorem Zzo (k:Nat) {x y a:Int} (hx:x=a*((2^k:Nat):Int)) (ha:0<=a) (h0:0<=y) (hy:y<((2^k:Nat):Int)) (h1:x+y<18446744073709551616):Z8 .or .u64 x y=x+y:=by
 have hp:(0:Int)<=((2^k:Nat):Int):=Int.natCast_nonneg _
 have hx0:0<=x:=by rw [hx]; exact Int.mul_nonneg ha hp
 rw [or64 x.toNat y.toNat (by omega) (by omega) (by omega) (by omega)]
 have e:x.toNat=a.toNat <<< k:=by
  rw [Nat.shiftLeft_eq]
  have:(x.toNat:Int)=((a.toNat*2^k:Nat):Int):=by
   rw [Int.natCast_mul,Int.toNat_of_nonneg hx0,Int.toNat_of_nonneg ha,hx]
  exact Int.ofNat_inj.1 this
 rw [e,<- Nat.shiftLeft_add_eq_or_of_lt (by omega:y.toNat<2^k),<- e]
 omega
theorem Zii (k:IntKind) {x:Int} {n:Nat} (h:n<=k.bits):Zt k x (n:Int)=x / ((2^n:Nat):Int):=by
 simp only [Zt,Int.toNat_natCast,Nat.min_eq_left h]
 rw [Int.fdiv_eq_ediv_of_nonneg]
 ·simp
 ·exact Int.le_of_lt (Int.pow_pos (by decide))
theorem Zxa (x:Int):Zt .u64 x 51=x / 2251799813685248:=by have:=Zii .u64 (x:=x) (n:=51) (by decide); simpa using this
theorem Z0vy (x:Int):Zt .u64 x 32=x / 4294967296:=by have:=Zii .u64 (x:=x) (n:=32) (by decide); simpa using this
theorem Zkw (k:IntKind) {x:Int} {n:Nat} (h:n<=k.bits):Z08 k x (n:Int)=k.wrap (x*((2^n:Nat):Int)):=by
 simp only [Z08,Int.toNat_natCast,Nat.min_eq_left h]
 simp
theorem Z0jx (x:Int):Z08 .u64 x 13=(x*8192)%18446744073709551616:=by have:=Zkw .u64 (x:=x) (n:=13) (by decide); rw [Zin] at this; simpa using this
section
variable {α β:Type}
theorem Zm (x:α) (f:α->Option β):bnd x f=f x:=by
 have h : ∀ y,y=bnd x f->y=f x:=fun y e=>e
 exact h _ rfl
theorem Z0p {c:Bool} {o:Option β} (h:c=true):chk c o=o:=by subst h; rfl
theorem Z3 {o:Option α} {f:α->Option β} {y:α} (h:o=some y):opt o f=f y:=by subst h; rfl
theorem Z1w {c:Bool} {a b:Option β} (h:c=true):br c a b=a:=by subst h; rfl
theorem Z0v {c:Bool} {a b:Option β} (h:c=false):br c a b=b:=by subst h; rfl
theorem Z20 {K:Type} (k:K) (g:K->Option β):jn k g=g k:=by
 have h : ∀ y,y=jn k g->y=g k:=fun y e=>e
 exact h _ rfl
end
theorem Z3g {z:Int} {n:Nat} (h0:0<=z) (h1:z<n):inB z n=true:=by simp [inB,h0,h1]
abbrev PP:Int:=57896044618658097711785492504343953926634992332820282019728792003956564819949
abbrev M51:Int:=2251799813685248
def Z7p (x:LI):Int:=x.getD 0 0+x.getD 1 0*2251799813685248+x.getD 2 0*5070602400912917605986812821504+x.getD 3 0*11417981541647679048466287755595961091061972992+x.getD 4 0*25711008708143844408671393477458601640355247900524685364822016
structure U5 (x:LI):Prop where
 a0:0<=x.getD 0 0
 a1:0<=x.getD 1 0
 a2:0<=x.getD 2 0
 a3:0<=x.getD 3 0
 a4:0<=x.getD 4 0
 b0:x.getD 0 0<18446744073709551616
 b1:x.getD 1 0<18446744073709551616
 b2:x.getD 2 0<18446744073709551616
 b3:x.getD 3 0<18446744073709551616
 b4:x.getD 4 0<18446744073709551616
def Zl9 (n:Int):LI:=[n%M51,n / M51%M51,n / (M51*M51)%M51,n / (M51*M51*M51)%M51,n / (M51*M51*M51*M51)%M51]
theorem Zt7 {n d0 d1 d2 d3 d4:Int} (h:n=d0+d1*2251799813685248+d2*5070602400912917605986812821504+d3*11417981541647679048466287755595961091061972992+d4*25711008708143844408671393477458601640355247900524685364822016)
  (h0:0<=d0/\d0<2251799813685248) (h1:0<=d1/\d1<2251799813685248) (h2:0<=d2/\d2<2251799813685248) (h3:0<=d3/\d3<2251799813685248) (h4:0<=d4/\d4<2251799813685248) : [d0,d1,d2,d3,d4]=Zl9 n:=by
 unfold Zl9
 simp only [M51,List.cons.injEq,and_true]
 refine ⟨?_,?_,?_,?_,?_⟩ <;> omega
theorem Zhw {n:Int} (h0:0<=n) (h1:n<PP):Z7p (Zl9 n)=n:=by
 simp only [Z7p,Zl9,M51,PP,List.getD_cons_zero,List.getD_cons_succ] at *
 omega
theorem Zt6 (n:Int):U5 (Zl9 n):=by
 constructor <;> simp only [Zl9,M51,List.getD_cons_zero,List.getD_cons_succ] <;> omega
end Go.Proofs.YteefpkhngighgaaGreatDoor
namespace Go.Proofs.YteefpkhngighgaaGreatDoor
open Go Go.Sx Go.RowKit
open Go.IntKind (wrap)
set_option linter.all false
set_option maxRecDepth 100000
def Zds (x:LI):LI :=
  [x.getD 0 0%2251799813685248+x.getD 4 0 / 2251799813685248*19,x.getD 1 0%2251799813685248+x.getD 0 0 / 2251799813685248,x.getD 2 0%2251799813685248+x.getD 1 0 / 2251799813685248,
   x.getD 3 0%2251799813685248+x.getD 2 0 / 2251799813685248,x.getD 4 0%2251799813685248+x.getD 3 0 / 2251799813685248]
theorem Zip {x:LI} (h:U5 x):Z5z x=some (Zds x):=by
  have ⟨a0,a1,a2,a3,a4,b0,b1,b2,b3,b4⟩:=h
  simp only [Z5z,Zm,Zxa,Zin,Zpq a0 b0,Zpq a1 b1,Zpq a2 b2,Zpq a3 b3,Zpq a4 b4,Zds]
  simp only [Option.some.injEq,List.cons.injEq,and_true]
  refine ⟨?_,?_,?_,?_,?_⟩ <;> omega
structure C5 (x:LI) (e:Int):Prop where
  a0:0<=x.getD 0 0
  a1:0<=x.getD 1 0
  a2:0<=x.getD 2 0
  a3:0<=x.getD 3 0
  a4:0<=x.getD 4 0
  b0:x.getD 0 0<2251799813685248+e
  b1:x.getD 1 0<2251799813685248+e
  b2:x.getD 2 0<2251799813685248+e
  b3:x.getD 3 0<2251799813685248+e
  b4:x.getD 4 0<2251799813685248+e
theorem C5.u {x:LI} {e:Int} (h:C5 x e) (he:e<=1125899906842624):U5 x:=by
  have ⟨a0,a1,a2,a3,a4,b0,b1,b2,b3,b4⟩:=h
  constructor <;> omega
theorem Zy4 {x:LI} (h:U5 x):C5 (Zds x) 262144:=by
  have ⟨a0,a1,a2,a3,a4,b0,b1,b2,b3,b4⟩:=h
  constructor <;> simp only [Zds,List.getD_cons_zero,List.getD_cons_succ] <;> omega
theorem Z0am {x:LI} (h:C5 x 262144):C5 (Zds x) 20:=by
  have ⟨a0,a1,a2,a3,a4,b0,b1,b2,b3,b4⟩:=h
  constructor <;> simp only [Zds,List.getD_cons_zero,List.getD_cons_succ] <;> omega
theorem Z066 {x:LI} : ∃ q,Z7p x=Z7p (Zds x)+q*PP:=by
  refine ⟨x.getD 4 0 / 2251799813685248,?_⟩
  simp only [Z7p,Zds,PP,List.getD_cons_zero,List.getD_cons_succ]
  omega
theorem Zl5 {x:LI}:Z7p (Zds x)%PP=Z7p x%PP:=by
  obtain ⟨q,hq⟩:=Z066 (x:=x)
  rw [hq,Int.add_mul_emod_self_right]
def Zol (x:LI):LI:=Zl9 (Z7p x%PP)
abbrev shw (x:Int):Int:=Zt .u64 x 51
abbrev wuu (x:Int):Int:=wrap .u64 x
abbrev low (x:Int):Int:=Z8 .and .u64 x 2251799813685247
def rQ (y1 y2 y3 y4 q:Int):Int:=shw (wuu (y4+shw (wuu (y3+shw (wuu (y2+shw (wuu (y1+q))))))))
def rr0 (y0 Q:Int):Int:=wuu (y0+wuu (19*Q))
theorem Z094 (y0 y1 y2 y3 y4 q:Int):Z6f [y0,y1,y2,y3,y4] (fun i46=>Z6g (fun a149=>some (Z62 a149 4 (Z8 .and .u64 (a149.getD 4 0) 2251799813685247))) big 0 (Z62 [y0,y1,y2,y3,y4] 0 (wrap .u64 (y0+wrap .u64 (19*i46))))) big q 0 =
    some [low (rr0 y0 (rQ y1 y2 y3 y4 q)),low (wuu (y1+shw (rr0 y0 (rQ y1 y2 y3 y4 q)))),low (wuu (y2+shw (wuu (y1+shw (rr0 y0 (rQ y1 y2 y3 y4 q)))))),
      low (wuu (y3+shw (wuu (y2+shw (wuu (y1+shw (rr0 y0 (rQ y1 y2 y3 y4 q)))))))),low (wuu (y4+shw (wuu (y3+shw (wuu (y2+shw (wuu (y1+shw (rr0 y0 (rQ y1 y2 y3 y4 q)))))))))) ]:=by kernel_rfl
theorem Zvb {y q:Int} (hy:0<=y/\y<2251799813685268) (hq:0<=q/\q<=1) : ∃ q' s,shw (wuu (y+q))=q'/\y+q=2251799813685248*q'+s/\(0<=s/\s<2251799813685248)/\(0<=q'/\q'<=1):=by
  refine ⟨(y+q) / 2251799813685248,(y+q)%2251799813685248,?_,by omega,by omega,by omega⟩
  rw [shw,Zxa,wuu,Z0a (by omega) (by omega)]
theorem Zrw {y r:Int} (hy:0<=y/\y<2251799813685268) (hr:0<=r/\r<4503599627370496) : ∃ c d r',shw r=c/\low r=d/\r=2251799813685248*c+d/\(0<=d/\d<2251799813685248)/\wuu (y+c)=r'/\r'=y+c/\(0<=r'/\r'<4503599627370496):=by
  refine ⟨r / 2251799813685248,r%2251799813685248,y+r / 2251799813685248,Zxa _,Zpq hr.1 (by omega),by omega,by omega,Z0a (by omega) (by omega),rfl,by omega⟩
theorem Z03g {y0 y1 y2 y3 y4 q0 q1 q2 q3 q4 s0 s1 s2 s3 s4 c0 c1 c2 c3 c4 d0 d1 d2 d3 d4:Int}
    (h0:y0+19=2251799813685248*q0+s0) (h1:y1+q0=2251799813685248*q1+s1) (h2:y2+q1=2251799813685248*q2+s2) (h3:y3+q2=2251799813685248*q3+s3) (h4:y4+q3=2251799813685248*q4+s4)
    (k0:y0+19*q4=2251799813685248*c0+d0) (k1:y1+c0=2251799813685248*c1+d1) (k2:y2+c1=2251799813685248*c2+d2) (k3:y3+c2=2251799813685248*c3+d3) (k4:y4+c3=2251799813685248*c4+d4)
    (t0:0<=s0/\s0<2251799813685248) (t1:0<=s1/\s1<2251799813685248) (t2:0<=s2/\s2<2251799813685248) (t3:0<=s3/\s3<2251799813685248) (t4:0<=s4/\s4<2251799813685248)
    (u0:0<=d0/\d0<2251799813685248) (u1:0<=d1/\d1<2251799813685248) (u2:0<=d2/\d2<2251799813685248) (u3:0<=d3/\d3<2251799813685248) (u4:0<=d4/\d4<2251799813685248) (hq:0<=q4/\q4<=1) (hy:0<=(y0+y1*2251799813685248+y2*5070602400912917605986812821504+y3*11417981541647679048466287755595961091061972992+y4*25711008708143844408671393477458601640355247900524685364822016)/\(y0+y1*2251799813685248+y2*5070602400912917605986812821504+y3*11417981541647679048466287755595961091061972992+y4*25711008708143844408671393477458601640355247900524685364822016)<115792089237316195423570985008687907853269984665640564039457584007913129639836) :
    (y0+y1*2251799813685248+y2*5070602400912917605986812821504+y3*11417981541647679048466287755595961091061972992+y4*25711008708143844408671393477458601640355247900524685364822016)-q4*PP=(d0+d1*2251799813685248+d2*5070602400912917605986812821504+d3*11417981541647679048466287755595961091061972992+d4*25711008708143844408671393477458601640355247900524685364822016)/\0<=(d0+d1*2251799813685248+d2*5070602400912917605986812821504+d3*11417981541647679048466287755595961091061972992+d4*25711008708143844408671393477458601640355247900524685364822016)/\(d0+d1*2251799813685248+d2*5070602400912917605986812821504+d3*11417981541647679048466287755595961091061972992+d4*25711008708143844408671393477458601640355247900524685364822016)<PP:=by
  have e1:(y0+y1*2251799813685248+y2*5070602400912917605986812821504+y3*11417981541647679048466287755595961091061972992+y4*25711008708143844408671393477458601640355247900524685364822016)+19=q4*57896044618658097711785492504343953926634992332820282019728792003956564819968+(s0+s1*2251799813685248+s2*5070602400912917605986812821504+s3*11417981541647679048466287755595961091061972992+s4*25711008708143844408671393477458601640355247900524685364822016):=by omega
  have e2:(y0+y1*2251799813685248+y2*5070602400912917605986812821504+y3*11417981541647679048466287755595961091061972992+y4*25711008708143844408671393477458601640355247900524685364822016)+19*q4=c4*57896044618658097711785492504343953926634992332820282019728792003956564819968+(d0+d1*2251799813685248+d2*5070602400912917605986812821504+d3*11417981541647679048466287755595961091061972992+d4*25711008708143844408671393477458601640355247900524685364822016):=by omega
  have b1:0<=(s0+s1*2251799813685248+s2*5070602400912917605986812821504+s3*11417981541647679048466287755595961091061972992+s4*25711008708143844408671393477458601640355247900524685364822016)/\(s0+s1*2251799813685248+s2*5070602400912917605986812821504+s3*11417981541647679048466287755595961091061972992+s4*25711008708143844408671393477458601640355247900524685364822016)<57896044618658097711785492504343953926634992332820282019728792003956564819968:=by omega
  have b2:0<=(d0+d1*2251799813685248+d2*5070602400912917605986812821504+d3*11417981541647679048466287755595961091061972992+d4*25711008708143844408671393477458601640355247900524685364822016)/\(d0+d1*2251799813685248+d2*5070602400912917605986812821504+d3*11417981541647679048466287755595961091061972992+d4*25711008708143844408671393477458601640355247900524685364822016)<57896044618658097711785492504343953926634992332820282019728792003956564819968:=by omega
  generalize (y0+y1*2251799813685248+y2*5070602400912917605986812821504+y3*11417981541647679048466287755595961091061972992+y4*25711008708143844408671393477458601640355247900524685364822016)=V at *
  generalize (d0+d1*2251799813685248+d2*5070602400912917605986812821504+d3*11417981541647679048466287755595961091061972992+d4*25711008708143844408671393477458601640355247900524685364822016)=D at *
  generalize (s0+s1*2251799813685248+s2*5070602400912917605986812821504+s3*11417981541647679048466287755595961091061972992+s4*25711008708143844408671393477458601640355247900524685364822016)=S at *
  clear h0 h1 h2 h3 h4 k0 k1 k2 k3 k4 t0 t1 t2 t3 t4 u0 u1 u2 u3 u4
  simp only [PP]
  have hc:q4=0∨q4=1:=by omega
  rcases hc with rfl | rfl
  · obtain rfl:c4=0:=by omega
    omega
  · obtain rfl:c4=1:=by omega
    omega
theorem Z6i {x:LI} (h:U5 x):Z1p x=some (Zol x):=by
  have h1:=Zy4 h
  have h2:=Z0am h1
  have hm:Z7p (Zds (Zds x))%PP=Z7p x%PP:=by rw [Zl5,Zl5]
  rw [Z1p,Z3 (Zip h),Z3 (Zip (h1.u (by decide)))]
  unfold Zol
  rw [<- hm]
  have hl:Zds (Zds x) = [(Zds (Zds x)).getD 0 0,(Zds (Zds x)).getD 1 0,(Zds (Zds x)).getD 2 0,(Zds (Zds x)).getD 3 0,(Zds (Zds x)).getD 4 0]:=rfl
  generalize Zds (Zds x)=y at *
  have ⟨a0,a1,a2,a3,a4,b0,b1,b2,b3,b4⟩:=h2
  simp only [Zm,Z20,Z7p]
  generalize y.getD 0 0=y0 at *
  generalize y.getD 1 0=y1 at *
  generalize y.getD 2 0=y2 at *
  generalize y.getD 3 0=y3 at *
  generalize y.getD 4 0=y4 at *
  rw [hl,Z094]
  congr 1
  clear hl h1 h2 hm h
  have e0:Zt .u64 (wrap .u64 (y0+19)) 51=(y0+19) / 2251799813685248:=by rw [Zxa,Z0a (by omega) (by omega)]
  obtain ⟨q0,s0,hq0,hs0,hs0',hq0'⟩ : ∃ q s,(y0+19) / 2251799813685248=q/\y0+19=2251799813685248*q+s/\(0<=s/\s<2251799813685248)/\(0<=q/\q<=1):=⟨_,(y0+19)%2251799813685248,rfl,by omega,by omega,by omega⟩
  rw [e0,hq0]
  obtain ⟨q1,s1,e1,hs1,hs1',hq1'⟩:=Zvb (y:=y1) (q:=q0) (by omega) hq0'
  obtain ⟨q2,s2,e2,hs2,hs2',hq2'⟩:=Zvb (y:=y2) (q:=q1) (by omega) hq1'
  obtain ⟨q3,s3,e3,hs3,hs3',hq3'⟩:=Zvb (y:=y3) (q:=q2) (by omega) hq2'
  obtain ⟨q4,s4,e4,hs4,hs4',hq4'⟩:=Zvb (y:=y4) (q:=q3) (by omega) hq3'
  have f0:rr0 y0 q4=y0+19*q4:=by rw [rr0,wuu,wuu,Z0a (x:=19*q4) (by omega) (by omega),Z0a (by omega) (by omega)]
  have hy:0<=(y0+y1*2251799813685248+y2*5070602400912917605986812821504+y3*11417981541647679048466287755595961091061972992+y4*25711008708143844408671393477458601640355247900524685364822016)/\(y0+y1*2251799813685248+y2*5070602400912917605986812821504+y3*11417981541647679048466287755595961091061972992+y4*25711008708143844408671393477458601640355247900524685364822016)<115792089237316195423570985008687907853269984665640564039457584007913129639836:=by omega
  unfold rQ
  rw [e1,e2,e3,e4,f0]
  obtain ⟨c0,d0,r1,g0,l0,k0,u0,w1,v1,z1⟩:=Zrw (y:=y1) (r:=y0+19*q4) (by omega) (by omega)
  rw [g0,l0,w1]
  obtain ⟨c1,d1,r2,g1,l1,k1,u1,w2,v2,z2⟩:=Zrw (y:=y2) (r:=r1) (by omega) z1
  rw [g1,l1,w2]
  obtain ⟨c2,d2,r3,g2,l2,k2,u2,w3,v3,z3⟩:=Zrw (y:=y3) (r:=r2) (by omega) z2
  rw [g2,l2,w3]
  obtain ⟨c3,d3,r4,g3,l3,k3,u3,w4,v4,z4⟩:=Zrw (y:=y4) (r:=r3) (by omega) z3
  rw [g3,l3,w4]
  obtain ⟨c4,d4,r5,g4,l4,k4,u4,w5,v5,z5⟩:=Zrw (y:=y4) (r:=r4) (by omega) z4
  rw [l4]
  subst v1 v2 v3 v4
  obtain ⟨hv,hlo⟩:=Z03g hs0 hs1 hs2 hs3 hs4 k0 k1 k2 k3 k4 hs0' hs1' hs2' hs3' hs4' u0 u1 u2 u3 u4 hq4' hy
  refine Zt7 ?_ u0 u1 u2 u3 u4
  rw [<- hv] at hlo ⊢
  rw [<- Int.emod_eq_of_lt hlo.1 hlo.2,Int.sub_mul_emod_self_right]
end Go.Proofs.YteefpkhngighgaaGreatDoor
namespace Go.Proofs.YteefpkhngighgaaGreatDoor
open Go Go.Sx Go.RowKit
set_option linter.all false
set_option maxRecDepth 100000
theorem Zi1 {a b:Int} {A B:Int} (ha:0<=a/\a<=A) (hb:0<=b/\b<=B):0<=a*b/\a*b<=A*B :=
 ⟨Int.mul_nonneg ha.1 hb.1,Int.mul_le_mul ha.2 hb.2 hb.1 (Int.le_trans ha.1 ha.2)⟩
theorem Zq4 {x y:Int} (hx:0<=x/\x<18446744073709551616) (hy:0<=y/\y<18446744073709551616) :
  Z6h x y=some (x*y / 18446744073709551616,x*y%18446744073709551616):=by
 simp only [Z6h,Zm,Z05e hx.1 hx.2,Z05e hy.1 hy.2,Z0vy]
 have ex:x=x / 4294967296*4294967296+x%4294967296:=by omega
 have ey:y=y / 4294967296*4294967296+y%4294967296:=by omega
 have bxl:0<=x%4294967296/\x%4294967296<=4294967295:=by omega
 have byl:0<=y%4294967296/\y%4294967296<=4294967295:=by omega
 have bxh:0<=x / 4294967296/\x / 4294967296<=4294967295:=by omega
 have byh:0<=y / 4294967296/\y / 4294967296<=4294967295:=by omega
 have hxy:x*y=x / 4294967296*(y / 4294967296)*18446744073709551616+(x / 4294967296*(y%4294967296)+x%4294967296*(y / 4294967296))*4294967296+x%4294967296*(y%4294967296):=by
  conv=>lhs; rw [ex,ey]
  generalize x / 4294967296=a
  generalize x%4294967296=b
  generalize y / 4294967296=c
  generalize y%4294967296=d
  grind
 have p00:=Zi1 bxl byl
 have p10:=Zi1 bxh byl
 have p01:=Zi1 bxl byh
 have p11:=Zi1 bxh byh
 rw [hxy]
 generalize x%4294967296*(y%4294967296)=A at *
 generalize x / 4294967296*(y%4294967296)=B at *
 generalize x%4294967296*(y / 4294967296)=D at *
 generalize x / 4294967296*(y / 4294967296)=F at *
 clear hxy ex ey bxl byl bxh byh
 rw [Z0a (x:=A) (by omega) (by omega),Z0a (x:=B) (by omega) (by omega),Z0a (x:=D) (by omega) (by omega),Z0a (x:=F) (by omega) (by omega)]
 rw [Z0a (x:=B+A / 4294967296) (by omega) (by omega),Z05e (by omega) (by omega)]
 rw [Z0a (x:=(B+A / 4294967296)%4294967296+D) (by omega) (by omega),Z0a (x:=F+(B+A / 4294967296) / 4294967296) (by omega) (by omega)]
 rw [Z0a (by omega) (by omega),Zin]
 congr 1
 refine Prod.ext ?_ rfl
 show F+(B+A / 4294967296) / 4294967296+((B+A / 4294967296)%4294967296+D) / 4294967296=_
 omega
def Zly (s:Int):Int:=s / 18446744073709551616
def Zit (s:Int):Int:=s%18446744073709551616
theorem Zpo (a b c:Int):Zc6 a b c=(a+b+c)%18446744073709551616:=rfl
theorem Zmi (a b c:Int):Zhn a b c=(a+b+c) / 18446744073709551616:=rfl
theorem Z015 {xs:LI} {o L:Nat} {s a c:Int} (hs:0<=s) (h1:xs.getD o 0=Zly s) (h2:xs.getD (o+1) 0=Zit s) (hL:o+1<L) (ha:0<=a/\a<18446744073709551616) (hc:0<=c/\c<18446744073709551616)
  (hb:s+a*c<340282366920938463463374607431768211456) :
  Z2y xs o L a c=some (Z62 (Z62 xs (o+1) (Zit (s+a*c))) o (Zly (s+a*c))):=by
 have hp:=Zi1 (A:=18446744073709551615) (B:=18446744073709551615) (a:=a) (b:=c) (by omega) (by omega)
 rw [Z2y,Z3 (Zq4 ha hc)]
 rw [Z0p (by simpa using hL)]
 simp only [Zm,h2]
 have e1:Zit s+a*c%18446744073709551616=Zit s+a*c%18446744073709551616:=rfl
 generalize a*c=p at *
 have hlo:0<=Zit s/\Zit s<18446744073709551616:=by unfold Zit; omega
 have hhi:0<=Zly s/\Zly s<18446744073709551616:=by unfold Zly; omega
 rw [Z0p (by simp [Zhe]; omega),Z0p (by simpa using hL),Z0p (by simp; omega)]
 simp only [Nat.add_zero,Zaf]
 rw [if_neg (by omega),h1,Z0p (by simp [Zhe,Zmi]; omega),Z0p (by simp; omega)]
 simp only [Zpo,Zmi]
 congr 2
 ·congr 1
  unfold Zit; omega
 ·unfold Zly Zit; omega
end Go.Proofs.YteefpkhngighgaaGreatDoor
namespace Go.Proofs.YteefpkhngighgaaGreatDoor
open Go Go.Sx Go.RowKit
open Go.IntKind (wrap)
set_option linter.all false
set_option maxRecDepth 100000
def Zo5 (S:Nat->Int):LI:=[Zly (S 0),Zit (S 0),Zly (S 1),Zit (S 1),Zly (S 2),Zit (S 2),Zly (S 3),Zit (S 3),Zly (S 4),Zit (S 4)]
theorem Zxd {S T:Nat->Int} (h : ∀ k,k<5->S k=T k):Zo5 S=Zo5 T:=by
  simp only [Zo5,h 0 (by decide),h 1 (by decide),h 2 (by decide),h 3 (by decide),h 4 (by decide)]
def updN (S:Nat->Int) (k:Nat) (v:Int):Nat->Int:=fun j=>if j=k then v else S j
theorem Zw4 {S:Nat->Int} {k:Nat} {a c:Int} (hk:k<5) (hs:0<=S k) (ha:0<=a/\a<18446744073709551616) (hc:0<=c/\c<18446744073709551616) (hb:S k+a*c<340282366920938463463374607431768211456) :
    Z2y (Zo5 S) (0+k*2) 10 a c=some (Zo5 (updN S k (S k+a*c))):=by
  have h1:(Zo5 S).getD (0+k*2) 0=Zly (S k):=by
    match k,hk with
    | 0,_=>rfl
    | 1,_=>rfl
    | 2,_=>rfl
    | 3,_=>rfl
    | 4,_=>rfl
  have h2:(Zo5 S).getD (0+k*2+1) 0=Zit (S k):=by
    match k,hk with
    | 0,_=>rfl
    | 1,_=>rfl
    | 2,_=>rfl
    | 3,_=>rfl
    | 4,_=>rfl
  rw [Z015 hs h1 h2 (by omega) ha hc hb]
  congr 1
  match k,hk with
  | 0,_=>rfl
  | 1,_=>rfl
  | 2,_=>rfl
  | 3,_=>rfl
  | 4,_=>rfl
def Zq3 (x:Int) (y:LI) (i j:Nat):Int:=x*(if i+j<5 then y.getD j 0 else 19*y.getD j 0)
theorem Zzh {y:LI} {i j:Nat} {kk:LI->Option (LI)} {k':Int->LI->Option (LI)} {x:Int} {S:Nat->Int} {T:Int} (hi:i<5) (hj:j<5) (hx:0<=x/\x<=2251799813947392) (hy : ∀ j,j<5->0<=y.getD j 0/\y.getD j 0<=2251799813947392)
    (hS : ∀ k,k<5->0<=S k/\S k<=T) (hT:T<=100000000000000000000000000000000000) :
    Z80 y (i:Int) x kk k' (j:Int) (Zo5 S)=k' ((j+1:Nat):Int) (Zo5 (updN S ((i+j)%5) (S ((i+j)%5)+Zq3 x y i j))):=by
  have hyj:=hy j hj
  rw [Z80,Z1w (by simp; omega),Z20,Z0p (Z3g (by omega) (by omega))]
  simp only [Zm,Int.toNat_natCast]
  have hij:wrap .i64 ((i:Int)+(j:Int))=((i+j:Nat):Int):=by rw [Zu (by omega) (by omega)]; omega
  have hj1:wrap .i64 ((j:Int)+1)=((j+1:Nat):Int):=by rw [Zu (by omega) (by omega)]; omega
  rw [hij,hj1]
  have hSk:=hS ((i+j)%5) (Nat.mod_lt _ (by decide))
  by_cases h:i+j<5
  · have hm:(i+j)%5=i+j:=Nat.mod_eq_of_lt h
    rw [hm] at hSk ⊢
    have hp:=Zi1 hx hyj
    rw [Z1w (by simp; omega),Z0p (Z3g (by omega) (by omega)),Z3 (Zw4 (S:=S) (k:=((i+j:Nat):Int).toNat) (by omega) (by rw [Int.toNat_natCast]; exact hSk.1) (by omega) (by omega) (by rw [Int.toNat_natCast]; omega))]
    simp only [Int.toNat_natCast,Zq3,if_pos h]
  · have hm:(i+j)%5=i+j-5:=by omega
    rw [hm] at hSk ⊢
    have h5:wrap .i64 (((i+j:Nat):Int)-5)=((i+j-5:Nat):Int):=by rw [Zu (by omega) (by omega)]; omega
    have h19:wrap .u64 (19*y.getD j 0)=19*y.getD j 0:=Z0a (by omega) (by omega)
    rw [h5,h19]
    have hp:=Zi1 (b:=19*y.getD j 0) (B:=42784196465000448) hx (by omega)
    rw [Z0v (by simp; omega),Z0p (Z3g (by omega) (by omega)),Z3 (Zw4 (S:=S) (k:=((i+j-5:Nat):Int).toNat) (by omega) (by rw [Int.toNat_natCast]; exact hSk.1) (by omega) (by omega) (by rw [Int.toNat_natCast]; omega))]
    simp only [Int.toNat_natCast,Zq3,if_neg h]
theorem Z02s {y:LI} {i:Nat} {kk:LI->Option (LI)} {k':Int->LI->Option (LI)} {x:Int} {a:LI} (hi:i<5):Z80 y (i:Int) x kk k' 5 a=kk a:=by
  rw [Z80,Z0v (by decide)]
theorem Z02p {x:Int} {y:LI} {i j:Nat} (hj:j<5) (hx:0<=x/\x<=2251799813947392) (hy : ∀ j,j<5->0<=y.getD j 0/\y.getD j 0<=2251799813947392):0<=Zq3 x y i j/\Zq3 x y i j<=96341445639776675308685928431616:=by
  have hyj:=hy j hj
  unfold Zq3
  split
  · have:=Zi1 hx hyj; omega
  · have:=Zi1 (b:=19*y.getD j 0) (B:=42784196465000448) hx (by omega); omega
theorem Z0k1 {S:Nat->Int} {T v:Int} {k:Nat} (hS : ∀ k,k<5->0<=S k/\S k<=T) (hv:0<=v/\v<=T+96341445639776675308685928431616) : ∀ j,j<5->0<=updN S k v j/\updN S k v j<=T+96341445639776675308685928431616:=by
  intro j hj
  have:=hS j hj
  unfold updN
  split <;> omega
def inn (S:Nat->Int) (x:Int) (y:LI) (i:Nat):Nat->Int:=fun k=>S k+x*(if i<=k then y.getD (k-i) 0 else 19*y.getD (k+5-i) 0)
theorem Zzf {y:LI} {i:Nat} {kk:LI->Option (LI)} {x:Int} {S:Nat->Int} {T:Int} (hi:i<5) (hx:0<=x/\x<=2251799813947392) (hy : ∀ j,j<5->0<=y.getD j 0/\y.getD j 0<=2251799813947392)
    (hS : ∀ k,k<5->0<=S k/\S k<=T) (hT:T<=10000000000000000000000000000000000) :
    Z6t y (i:Int) x kk big 0 (Zo5 S)=kk (Zo5 (inn S x y i)):=by
  obtain ⟨n,hn⟩ : ∃ n,big=n+6:=⟨18446744073709551610,Z6r⟩
  rw [hn]
  have step : ∀ (n j:Nat) (S:Nat->Int) (T:Int),j<5->(∀ k,k<5->0<=S k/\S k<=T)->T<=100000000000000000000000000000000000 ->
      Z6t y (i:Int) x kk (n+1) (j:Int) (Zo5 S)=Z6t y (i:Int) x kk n ((j+1:Nat):Int) (Zo5 (updN S ((i+j)%5) (S ((i+j)%5)+Zq3 x y i j))) :=
    fun n j S T hj hS hT=>Zzh hi hj hx hy hS hT
  have bd : ∀ (j:Nat) (S:Nat->Int) (T:Int),j<5->(∀ k,k<5->0<=S k/\S k<=T)->∀ k,k<5->0<=updN S ((i+j)%5) (S ((i+j)%5)+Zq3 x y i j) k/\updN S ((i+j)%5) (S ((i+j)%5)+Zq3 x y i j) k<=T+96341445639776675308685928431616 :=
    fun j S T hj hS=>Z0k1 hS (by have:=Z02p (i:=i) hj hx hy; have:=hS ((i+j)%5) (Nat.mod_lt _ (by decide)); omega)
  have s0:=step (n+5) 0 S T (by decide) hS (by omega)
  have b0:=bd 0 S T (by decide) hS
  have s1:=step (n+4) 1 _ _ (by decide) b0 (by omega)
  have b1:=bd 1 _ _ (by decide) b0
  have s2:=step (n+3) 2 _ _ (by decide) b1 (by omega)
  have b2:=bd 2 _ _ (by decide) b1
  have s3:=step (n+2) 3 _ _ (by decide) b2 (by omega)
  have b3:=bd 3 _ _ (by decide) b2
  have s4:=step (n+1) 4 _ _ (by decide) b3 (by omega)
  refine (s0.trans (s1.trans (s2.trans (s3.trans (s4.trans ((Z02s hi).trans ?_))))))
  congr 1
  apply Zxd
  intro k hk
  clear s0 s1 s2 s3 s4 b0 b1 b2 b3 bd step hS hy hx hn
  match i,hi,k,hk with
  | 0,_,0,_ | 0,_,1,_ | 0,_,2,_ | 0,_,3,_ | 0,_,4,_ | 1,_,0,_ | 1,_,1,_ | 1,_,2,_ | 1,_,3,_ | 1,_,4,_ | 2,_,0,_ | 2,_,1,_ | 2,_,2,_ | 2,_,3,_ | 2,_,4,_
  | 3,_,0,_ | 3,_,1,_ | 3,_,2,_ | 3,_,3,_ | 3,_,4,_ | 4,_,0,_ | 4,_,1,_ | 4,_,2,_ | 4,_,3,_ | 4,_,4,_=>rfl
theorem Zki {S:Nat->Int} {x T:Int} {y:LI} {i:Nat} (hi:i<5) (hx:0<=x/\x<=2251799813947392) (hy : ∀ j,j<5->0<=y.getD j 0/\y.getD j 0<=2251799813947392) (hS : ∀ k,k<5->0<=S k/\S k<=T) :
    ∀ k,k<5->0<=inn S x y i k/\inn S x y i k<=T+96341445639776675308685928431616:=by
  intro k hk
  have h1:=hS k hk
  unfold inn
  split
  · have:=Zi1 hx (hy (k-i) (by omega)); omega
  · have:=Zi1 (b:=19*y.getD (k+5-i) 0) (B:=42784196465000448) hx (by have:=hy (k+5-i) (by omega); omega); omega
def Zoe (x y:LI):Nat->Int:=inn (inn (inn (inn (inn (fun _=>0) (x.getD 0 0) y 0) (x.getD 1 0) y 1) (x.getD 2 0) y 2) (x.getD 3 0) y 3) (x.getD 4 0) y 4
theorem Z07e {x y:LI} (hx : ∀ j,j<5->0<=x.getD j 0/\x.getD j 0<=2251799813947392) (hy : ∀ j,j<5->0<=y.getD j 0/\y.getD j 0<=2251799813947392) : ∀ k,k<5->0<=Zoe x y k/\Zoe x y k<=481707228198883376543429642158080:=by
  have b0:=Zki (S:=fun _=>0) (T:=0) (i:=0) (by decide) (hx 0 (by decide)) hy (fun _ _=>by simp)
  have b1:=Zki (i:=1) (by decide) (hx 1 (by decide)) hy b0
  have b2:=Zki (i:=2) (by decide) (hx 2 (by decide)) hy b1
  have b3:=Zki (i:=3) (by decide) (hx 3 (by decide)) hy b2
  have b4:=Zki (i:=4) (by decide) (hx 4 (by decide)) hy b3
  intro k hk
  have:=b4 k hk
  unfold Zoe
  omega
theorem Zfx {x y : LI} (hx : ∀ j, j < 5 -> 0 <= x.getD j 0 /\ x.getD j 0 <= 2251799813947392) (hy : ∀ j, j < 5 -> 0 <= y.getD j 0 /\ y.getD j 0 <= 2251799813947392) (n i : Nat) (S : Nat -> Int) (T : Int) (hi : i < 5) (hS : ∀ k, k < 5 -> 0 <= S k /\ S k <= T) (hT : T <= 10000000000000000000000000000000000) (kk : LI -> Option (LI)) :
      Z3u x y kk (n+1) (i:Int) (Zo5 S)=Z3u x y kk n ((i+1:Nat):Int) (Zo5 (inn S (x.getD i 0) y i)):=by
  rw [Z3u,Zce,Z1w (by simp; omega),Z0p (Z3g (by omega) (by omega))]
  simp only [Zm,Z20,Int.toNat_natCast]
  rw [Zzf hi (hx i hi) hy hS hT,Zu (by omega) (by omega)]
  rfl
theorem Zx0 {x y:LI} (n:Nat) (a:LI) (kk:LI->Option (LI)):Z3u x y kk (n+1) ((5:Nat):Int) a=kk a:=by
  rw [Z3u,Zce,Z0v (by decide)]
theorem Z0vz:(List.replicate 10 0:LI)=Zo5 (fun _=>0):=by decide
theorem Zzg {x y:LI} (hx : ∀ j,j<5->0<=x.getD j 0/\x.getD j 0<=2251799813947392) (hy : ∀ j,j<5->0<=y.getD j 0/\y.getD j 0<=2251799813947392) (kk:LI->Option (LI)) :
    Z3u x y kk big 0 (List.replicate 10 0)=kk (Zo5 (Zoe x y)):=by
  obtain ⟨n,hn⟩ : ∃ n,big=n+1+1+1+1+1+1:=⟨18446744073709551610,Z6r⟩
  have b0:=Zki (S:=fun _=>0) (T:=0) (i:=0) (by decide) (hx 0 (by decide)) hy (fun _ _=>by simp)
  have b1:=Zki (i:=1) (by decide) (hx 1 (by decide)) hy b0
  have b2:=Zki (i:=2) (by decide) (hx 2 (by decide)) hy b1
  have b3:=Zki (i:=3) (by decide) (hx 3 (by decide)) hy b2
  have s0:=Zfx (kk:=kk) hx hy (n+1+1+1+1+1) 0 (fun _=>0) 0 (by decide) (fun _ _=>by simp) (by omega)
  have s1:=Zfx (kk:=kk) hx hy (n+1+1+1+1) 1 _ _ (by decide) b0 (by omega)
  have s2:=Zfx (kk:=kk) hx hy (n+1+1+1) 2 _ _ (by decide) b1 (by omega)
  have s3:=Zfx (kk:=kk) hx hy (n+1+1) 3 _ _ (by decide) b2 (by omega)
  have s4:=Zfx (kk:=kk) hx hy (n+1) 4 _ _ (by decide) b3 (by omega)
  have s5:=Zx0 (x:=x) (y:=y) n (Zo5 (Zoe x y)) kk
  unfold Zoe at s5 ⊢
  rw [<- hn] at s0
  rw [Z0vz]
  exact s0.trans (s1.trans (s2.trans (s3.trans (s4.trans s5))))
theorem Zzd {S:Nat->Int} {kk:Int->LI->Option (LI)} {k':Int->Int->LI->Option (LI)} {i:Nat} {c:Int} {out:LI} (hi:i<5) (hS:0<=S i/\S i<=481707228198883376543429642158080) (hc:0<=c/\c<18446744073709551616) :
    Z9r (Zo5 S) kk k' c (i:Int) out=k' ((S i+c) / 2251799813685248) ((i+1:Nat):Int) (Z62 out i ((S i+c)%2251799813685248)):=by
  have ht:tk (Zo5 S) (i*2) 2 = [Zly (S i),Zit (S i)]:=by
    match i,hi with
    | 0,_=>rfl
    | 1,_=>rfl
    | 2,_=>rfl
    | 3,_=>rfl
    | 4,_=>rfl
  rw [Z9r,Z1w (by simp; omega),Z0p (Z3g (by omega) (by omega))]
  simp only [Zm,Int.toNat_natCast,ht,List.getD_cons_zero,List.getD_cons_succ]
  generalize S i=s at *
  have hl:0<=Zit s/\Zit s<18446744073709551616:=by unfold Zit; omega
  rw [Z0p (by simp [Zhe]; omega),Z0p (Z3g (by omega) (by omega))]
  simp only [Zpo,Zmi,Int.add_zero]
  rw [Zu (by omega) (by omega),Zxa,Z0jx,Zpq (by omega) (by omega)]
  have hh:0<=Zly s/\Zly s<1000000000000000:=by unfold Zly; omega
  have hcar:0<=(Zit s+c) / 18446744073709551616/\(Zit s+c) / 18446744073709551616<=1:=by omega
  rw [Z0a (x:=Zly s+(Zit s+c) / 18446744073709551616) (by omega) (by omega)]
  have hm:(Zly s+(Zit s+c) / 18446744073709551616)*8192%18446744073709551616=(Zly s+(Zit s+c) / 18446744073709551616)*8192:=by omega
  rw [hm,Zzo 13 (x:=(Zly s+(Zit s+c) / 18446744073709551616)*8192) (a:=Zly s+(Zit s+c) / 18446744073709551616) rfl (by omega) (by omega) (by omega) (by omega)]
  have e1:(Zit s+c)%18446744073709551616%2251799813685248=(s+c)%2251799813685248:=by unfold Zit; omega
  have e2:(Zly s+(Zit s+c) / 18446744073709551616)*8192+(Zit s+c)%18446744073709551616 / 2251799813685248=(s+c) / 2251799813685248:=by unfold Zly Zit; omega
  rw [e1,e2]
  rfl
theorem alg5 (x0 x1 x2 x3 x4 y0 y1 y2 y3 y4 m:Int):(x0+x1*m+x2*(m*m)+x3*(m*m*m)+x4*(m*m*m*m))*(y0+y1*m+y2*(m*m)+y3*(m*m*m)+y4*(m*m*m*m)) =
    x0*y0+(x0*y1+x1*y0)*m+(x0*y2+x1*y1+x2*y0)*(m*m)+(x0*y3+x1*y2+x2*y1+x3*y0)*(m*m*m)+(x0*y4+x1*y3+x2*y2+x3*y1+x4*y0)*(m*m*m*m)
     + ((x1*y4+x2*y3+x3*y2+x4*y1)+(x2*y4+x3*y3+x4*y2)*m+(x3*y4+x4*y3)*(m*m)+x4*y4*(m*m*m))*(m*m*m*m*m):=by grind
theorem Z02o (x y:LI) : ∃ q,Z7p x*Z7p y=Zoe x y 0+Zoe x y 1*2251799813685248+Zoe x y 2*5070602400912917605986812821504+Zoe x y 3*11417981541647679048466287755595961091061972992+Zoe x y 4*25711008708143844408671393477458601640355247900524685364822016+q*PP:=by
  have h:=alg5 (x.getD 0 0) (x.getD 1 0) (x.getD 2 0) (x.getD 3 0) (x.getD 4 0) (y.getD 0 0) (y.getD 1 0) (y.getD 2 0) (y.getD 3 0) (y.getD 4 0) 2251799813685248
  have e0:Zoe x y 0=x.getD 0 0*y.getD 0 0+19*(x.getD 1 0*y.getD 4 0+x.getD 2 0*y.getD 3 0+x.getD 3 0*y.getD 2 0+x.getD 4 0*y.getD 1 0):=by simp [Zoe,inn] <;> grind
  have e1:Zoe x y 1=x.getD 0 0*y.getD 1 0+x.getD 1 0*y.getD 0 0+19*(x.getD 2 0*y.getD 4 0+x.getD 3 0*y.getD 3 0+x.getD 4 0*y.getD 2 0):=by simp [Zoe,inn] <;> grind
  have e2:Zoe x y 2=x.getD 0 0*y.getD 2 0+x.getD 1 0*y.getD 1 0+x.getD 2 0*y.getD 0 0+19*(x.getD 3 0*y.getD 4 0+x.getD 4 0*y.getD 3 0):=by simp [Zoe,inn] <;> grind
  have e3:Zoe x y 3=x.getD 0 0*y.getD 3 0+x.getD 1 0*y.getD 2 0+x.getD 2 0*y.getD 1 0+x.getD 3 0*y.getD 0 0+19*(x.getD 4 0*y.getD 4 0):=by simp [Zoe,inn] <;> grind
  have e4:Zoe x y 4=x.getD 0 0*y.getD 4 0+x.getD 1 0*y.getD 3 0+x.getD 2 0*y.getD 2 0+x.getD 3 0*y.getD 1 0+x.getD 4 0*y.getD 0 0:=by simp [Zoe,inn] <;> grind
  refine ⟨(x.getD 1 0*y.getD 4 0+x.getD 2 0*y.getD 3 0+x.getD 3 0*y.getD 2 0+x.getD 4 0*y.getD 1 0)+(x.getD 2 0*y.getD 4 0+x.getD 3 0*y.getD 3 0+x.getD 4 0*y.getD 2 0)*2251799813685248+(x.getD 3 0*y.getD 4 0+x.getD 4 0*y.getD 3 0)*5070602400912917605986812821504+x.getD 4 0*y.getD 4 0*11417981541647679048466287755595961091061972992,?_⟩
  rw [e0,e1,e2,e3,e4]
  simp only [Z7p,PP]
  simp only [Int.reduceMul] at h
  rw [h]
  omega
end Go.Proofs.YteefpkhngighgaaGreatDoor
namespace Go.Proofs.YteefpkhngighgaaGreatDoor
open Go Go.Sx Go.RowKit
open List (replicate)
set_option linter.all false
set_option maxRecDepth 100000
theorem U5.mk5 {d0 d1 d2 d3 d4:Int} (h0:0<=d0/\d0<18446744073709551616) (h1:0<=d1/\d1<18446744073709551616) (h2:0<=d2/\d2<18446744073709551616) (h3:0<=d3/\d3<18446744073709551616) (h4:0<=d4/\d4<18446744073709551616):U5 [d0,d1,d2,d3,d4] :=
 ⟨h0.1,h1.1,h2.1,h3.1,h4.1,h0.2,h1.2,h2.2,h3.2,h4.2⟩
theorem Z02t {c d0 d1 d2 d3 d4:Int} (hc:0<=c/\c<900000000000000000)
  (h0:0<=d0/\d0<2251799813685248) (h1:0<=d1/\d1<2251799813685248) (h2:0<=d2/\d2<2251799813685248) (h3:0<=d3/\d3<2251799813685248) (h4:0<=d4/\d4<2251799813685248) :
  (opt (Z2y (replicate 2 0) 0 2 c 19) fun y1819 =>
   bnd (y1819.getD 1 0) fun z1823 =>
   bnd ([d0,d1,d2,d3,d4].getD 0 0) fun z1824 =>
   chk (Zhe z1823 z1824 0) <|
   bnd (Zc6 z1823 z1824 0) fun z1826 =>
   bnd (Zhn z1823 z1824 0) fun z1827 =>
   bnd (Z8 .and .u64 z1826 2251799813685247) fun z1829 =>
   bnd (Z62 [d0,d1,d2,d3,d4] 0 z1829) fun l1830 =>
   bnd (l1830.getD 1 0) fun z1832 =>
   bnd (y1819.getD 0 0) fun z1833 =>
   bnd (IntKind.wrap .u64 (z1833+z1827)) fun z1834 =>
   bnd (Z08 .u64 z1834 13) fun z1835 =>
   bnd (Zt .u64 z1826 51) fun z1836 =>
   bnd (Z8 .or .u64 z1835 z1836) fun z1837 =>
   bnd (IntKind.wrap .u64 (z1832+z1837)) fun z1838 =>
   bnd (Z62 l1830 1 z1838) fun l1839 =>
   opt (Z1p l1839) fun y1841 =>
   some y1841)=some (Zl9 ((d0+d1*2251799813685248+d2*5070602400912917605986812821504+d3*11417981541647679048466287755595961091061972992+d4*25711008708143844408671393477458601640355247900524685364822016+19*c)%PP)):=by
 have hw:Z2y (replicate 2 0) 0 2 c 19=some [Zly (0+c*19),Zit (0+c*19)]:=Z015 (s:=0) (by decide) rfl rfl (by decide) (by omega) (by omega) (by omega)
 rw [Z3 hw]
 simp only [Zm,List.getD_cons_zero,List.getD_cons_succ]
 have hl:Zit (0+c*19)=c*19%18446744073709551616:=by unfold Zit; rw [Int.zero_add]
 have hh:Zly (0+c*19)=c*19 / 18446744073709551616:=by unfold Zly; rw [Int.zero_add]
 rw [hl,hh]
 have hlt:c*19<18446744073709551616:=by omega
 rw [Int.emod_eq_of_lt (by omega) hlt,Int.ediv_eq_zero_of_lt (by omega) hlt]
 rw [Z0p (by simp [Zhe]; omega)]
 simp only [Zpo,Zmi,Int.add_zero,Int.zero_add]
 rw [Int.emod_eq_of_lt (a:=c*19+d0) (by omega) (by omega),Int.ediv_eq_zero_of_lt (a:=c*19+d0) (by omega) (by omega)]
 have ew:IntKind.wrap .u64 0=0:=by decide
 rw [ew,Zxa,Z0jx,Zpq (by omega) (by omega)]
 have e0:(0:Int)*8192%18446744073709551616=0:=by decide
 rw [e0,Zzo 13 (x:=0) (a:=0) (by simp) (by omega) (by omega) (by omega) (by omega),Int.zero_add]
 have hs1:Z62 [d0,d1,d2,d3,d4] 0 ((c*19+d0)%2251799813685248) = [(c*19+d0)%2251799813685248,d1,d2,d3,d4]:=rfl
 rw [hs1]
 simp only [List.getD_cons_zero,List.getD_cons_succ]
 rw [Z0a (by omega) (by omega)]
 have hs2:Z62 [(c*19+d0)%2251799813685248,d1,d2,d3,d4] 1 (d1+(c*19+d0) / 2251799813685248) = [(c*19+d0)%2251799813685248,d1+(c*19+d0) / 2251799813685248,d2,d3,d4]:=rfl
 rw [hs2,Z3 (Z6i (U5.mk5 (by omega) (by omega) (by omega) (by omega) (by omega)))]
 unfold Zol
 congr 3
 simp only [Z7p,List.getD_cons_zero,List.getD_cons_succ]
 omega
theorem C5.le {x:LI} (h:C5 x 262144) : ∀ j,j<5->0<=x.getD j 0/\x.getD j 0<=2251799813947392:=by
 have ⟨a0,a1,a2,a3,a4,b0,b1,b2,b3,b4⟩:=h
 intro j hj
 match j,hj with
 | 0,_=>omega
 | 1,_=>omega
 | 2,_=>omega
 | 3,_=>omega
 | 4,_=>omega
theorem Zze {x y:LI} (hx:U5 x) (hy:U5 y):Z0y x y=some (Zl9 (Z7p x*Z7p y%PP)):=by
 have cx:=(Zy4 hx).le
 have cy:=(Zy4 hy).le
 rw [Z0y,Z3 (Zip hx),Z3 (Zip hy),Z20,Zzg cx cy,Z20]
 have hb:=Z07e cx cy
 obtain ⟨q,hq⟩:=Z02o (Zds x) (Zds y)
 have hm:Z7p x*Z7p y%PP=Z7p (Zds x)*Z7p (Zds y)%PP:=by
  rw [Int.mul_emod,<- Zl5 (x:=x),<- Zl5 (x:=y),<- Int.mul_emod]
 rw [hm,hq,Int.add_mul_emod_self_right]
 generalize Zoe (Zds x) (Zds y)=S at *
 obtain ⟨n,hn⟩ : ∃ n,big=n+1+1+1+1+1+1:=⟨18446744073709551610,Z6r⟩
 generalize hkk:(fun (i1740:Int) (a1741:LI)=>_)=kk
 have step : ∀ (n i:Nat) (c:Int) (out:LI),i<5->(0<=c/\c<18446744073709551616)->Z4o (Zo5 S) kk (n+1) c (i:Int) out=Z4o (Zo5 S) kk n ((S i+c) / 2251799813685248) ((i+1:Nat):Int) (Z62 out i ((S i+c)%2251799813685248)):=by
  intro n i c out hi hc
  rw [Z4o,Zzd hi (hb i hi) hc]
 have c0:=hb 0 (by decide)
 have c1:=hb 1 (by decide)
 have c2:=hb 2 (by decide)
 have c3:=hb 3 (by decide)
 have c4:=hb 4 (by decide)
 have k1 : ∃ d,(S 0+0)%2251799813685248=d/\(0<=d/\d<2251799813685248):=⟨_,rfl,by omega⟩
 have s0:=step (n+1+1+1+1+1) 0 0 (replicate 5 0) (by decide) (by decide)
 generalize hd0:(S 0+0)%2251799813685248=d0 at s0
 generalize hv0:(S 0+0) / 2251799813685248=v0 at s0
 have s1:=step (n+1+1+1+1) 1 v0 (Z62 (replicate 5 0) 0 d0) (by decide) (by omega)
 generalize hd1:(S 1+v0)%2251799813685248=d1 at s1
 generalize hv1:(S 1+v0) / 2251799813685248=v1 at s1
 have s2:=step (n+1+1+1) 2 v1 (Z62 (Z62 (replicate 5 0) 0 d0) 1 d1) (by decide) (by omega)
 generalize hd2:(S 2+v1)%2251799813685248=d2 at s2
 generalize hv2:(S 2+v1) / 2251799813685248=v2 at s2
 have s3:=step (n+1+1) 3 v2 (Z62 (Z62 (Z62 (replicate 5 0) 0 d0) 1 d1) 2 d2) (by decide) (by omega)
 generalize hd3:(S 3+v2)%2251799813685248=d3 at s3
 generalize hv3:(S 3+v2) / 2251799813685248=v3 at s3
 have s4:=step (n+1) 4 v3 (Z62 (Z62 (Z62 (Z62 (replicate 5 0) 0 d0) 1 d1) 2 d2) 3 d3) (by decide) (by omega)
 generalize hd4:(S 4+v3)%2251799813685248=d4 at s4
 generalize hv4:(S 4+v3) / 2251799813685248=v4 at s4
 have hout:Z62 (Z62 (Z62 (Z62 (Z62 (replicate 5 0) 0 d0) 1 d1) 2 d2) 3 d3) 4 d4 = [d0,d1,d2,d3,d4]:=rfl
 rw [hout] at s4
 have s5:Z4o (Zo5 S) kk (n+1) v4 ((4+1:Nat):Int) [d0,d1,d2,d3,d4]=kk v4 [d0,d1,d2,d3,d4]:=by rw [Z4o,Z9r,Z0v (by decide)]
 subst hkk
 have s5:=s5.trans (Z02t (c:=v4) (d0:=d0) (d1:=d1) (d2:=d2) (d3:=d3) (d4:=d4) (by omega) (by omega) (by omega) (by omega) (by omega) (by omega))
 rw [<- hn] at s0
 refine s0.trans (s1.trans (s2.trans (s3.trans (s4.trans (s5.trans ?_)))))
 congr 2
 clear s0 s1 s2 s3 s4 s5 step hout hb hn k1 cx cy
 have e0:S 0=v0*2251799813685248+d0:=by omega
 have e1:S 1+v0=v1*2251799813685248+d1:=by omega
 have e2:S 2+v1=v2*2251799813685248+d2:=by omega
 have e3:S 3+v2=v3*2251799813685248+d3:=by omega
 have e4:S 4+v3=v4*2251799813685248+d4:=by omega
 clear hd0 hd1 hd2 hd3 hd4 hv0 hv1 hv2 hv3 hv4
 have key:S 0+S 1*2251799813685248+S 2*5070602400912917605986812821504+S 3*11417981541647679048466287755595961091061972992+S 4*25711008708143844408671393477458601640355247900524685364822016 =
   d0+d1*2251799813685248+d2*5070602400912917605986812821504+d3*11417981541647679048466287755595961091061972992+d4*25711008708143844408671393477458601640355247900524685364822016+19*v4+v4*PP:=by
  simp only [PP]; omega
 rw [key,Int.add_mul_emod_self_right]
theorem Zsf {x:LI} (hx:U5 x):Z1o x=some (Zl9 (Z7p x*Z7p x%PP)):=by
 rw [Z1o,Z3 (Zze hx hx)]
end Go.Proofs.YteefpkhngighgaaGreatDoor
namespace Go.Proofs.YteefpkhngighgaaGreatDoor
open Go Go.Sx Go.RowKit
open Go.IntKind (wrap)
set_option linter.all false
set_option maxRecDepth 100000
def fe (n:Int):LI:=Zl9 (n%PP)
theorem Zfr (n:Int):U5 (fe n):=Zt6 _
theorem Zk7:(0:Int)<PP:=by decide
theorem Z60 (n:Int):Z7p (fe n)=n%PP:=Zhw (Int.emod_nonneg _ (by decide)) (Int.emod_lt_of_pos _ Zk7)
theorem Z04j (n:Int):fe (n%PP)=fe n:=by unfold fe; rw [Int.emod_emod_of_dvd _ (Int.dvd_refl _)]
theorem Zis {a b:Int} (h:a%PP=b%PP):fe a=fe b:=by unfold fe; rw [h]
theorem Z05b (k:LI->Option (LI)) (x0 x1 x2 x3 x4 y0 y1 y2 y3 y4:Int):Z9p [y0,y1,y2,y3,y4] k big 0 [x0,x1,x2,x3,x4] =
  k ([wrap .u64 (x0+y0),wrap .u64 (x1+y1),wrap .u64 (x2+y2),wrap .u64 (x3+y3),wrap .u64 (x4+y4)]):=by kernel_rfl
theorem Z04c {x y:LI} (hx:U5 x) (hy:U5 y):Z2v x y=some (fe (Z7p x+Z7p y)):=by
 have cx:=Zy4 hx
 have cy:=Zy4 hy
 have ex:=Zl5 (x:=x)
 have ey:=Zl5 (x:=y)
 rw [Z2v,Z3 (Zip hx),Z3 (Zip hy),Z20]
 have hlx:Zds x = [(Zds x).getD 0 0,(Zds x).getD 1 0,(Zds x).getD 2 0,(Zds x).getD 3 0,(Zds x).getD 4 0]:=rfl
 have hly:Zds y = [(Zds y).getD 0 0,(Zds y).getD 1 0,(Zds y).getD 2 0,(Zds y).getD 3 0,(Zds y).getD 4 0]:=rfl
 have hm:(Z7p x+Z7p y)%PP=(Z7p (Zds x)+Z7p (Zds y))%PP:=by rw [Int.add_emod,<- ex,<- ey,<- Int.add_emod]
 rw [Zis hm]
 generalize Zds x=a at *
 generalize Zds y=b at *
 have ⟨p0,p1,p2,p3,p4,q0,q1,q2,q3,q4⟩:=cx
 have ⟨r0,r1,r2,r3,r4,s0,s1,s2,s3,s4⟩:=cy
 rw [hlx,hly,Z05b]
 rw [Z0a (by omega) (by omega),Z0a (by omega) (by omega),Z0a (by omega) (by omega),Z0a (by omega) (by omega),Z0a (by omega) (by omega)]
 rw [Z3 (Z6i (U5.mk5 (by omega) (by omega) (by omega) (by omega) (by omega)))]
 unfold Zol fe
 congr 3
 simp only [Z7p,List.getD_cons_zero,List.getD_cons_succ]
 omega
theorem Z07f (k:LI->Option (LI)) (y0 y1 y2 y3 y4 z:Int):Z9s [y0,y1,y2,y3,y4] k big 1 [z,0,0,0,0] =
  k ([z,wrap .u64 (4503599627370494-y1),wrap .u64 (4503599627370494-y2),wrap .u64 (4503599627370494-y3),wrap .u64 (4503599627370494-y4)]):=by kernel_rfl
theorem Z04p {x:LI} (hx:U5 x):Z6e x=some (fe (- Z7p x)):=by
 rw [Z6e,Z3 (Z6i hx)]
 simp only [Zm,Z20]
 have hv:Z7p (Zol x)=Z7p x%PP:=Z60 (Z7p x)
 have hl:Zol x = [(Zol x).getD 0 0,(Zol x).getD 1 0,(Zol x).getD 2 0,(Zol x).getD 3 0,(Zol x).getD 4 0]:=rfl
 have hb : ∀ j,j<5->0<=(Zol x).getD j 0/\(Zol x).getD j 0<2251799813685248:=by
  intro j hj
  unfold Zol Zl9
  match j,hj with
  | 0,_=>simp only [M51,List.getD_cons_zero,List.getD_cons_succ]; omega
  | 1,_=>simp only [M51,List.getD_cons_zero,List.getD_cons_succ]; omega
  | 2,_=>simp only [M51,List.getD_cons_zero,List.getD_cons_succ]; omega
  | 3,_=>simp only [M51,List.getD_cons_zero,List.getD_cons_succ]; omega
  | 4,_=>simp only [M51,List.getD_cons_zero,List.getD_cons_succ]; omega
 have hm:(- Z7p x)%PP=(2*PP-Z7p (Zol x))%PP:=by
  rw [hv]
  have e : - Z7p x=2*PP-Z7p x%PP+(-2-Z7p x / PP)*PP:=by
   have:=Int.emod_add_mul_ediv (Z7p x) PP
   rw [Int.mul_comm] at this
   have h2:(-2-Z7p x / PP)*PP = -2*PP-Z7p x / PP*PP:=by rw [Int.sub_mul]
   omega
  rw [e,Int.add_mul_emod_self_right]
 rw [Zis hm]
 generalize Zol x=a at *
 have b0:=hb 0 (by decide)
 have b1:=hb 1 (by decide)
 have b2:=hb 2 (by decide)
 have b3:=hb 3 (by decide)
 have b4:=hb 4 (by decide)
 rw [hl]
 simp only [List.getD_cons_zero]
 rw [Z07f]
 rw [Z0a (by omega) (by omega),Z0a (by omega) (by omega),Z0a (by omega) (by omega),Z0a (by omega) (by omega),Z0a (by omega) (by omega)]
 rw [Z3 (Z6i (U5.mk5 (by omega) (by omega) (by omega) (by omega) (by omega)))]
 unfold Zol fe
 congr 3
 simp only [Z7p,PP,List.getD_cons_zero,List.getD_cons_succ]
 omega
theorem Z0jz {x y:LI} (hx:U5 x) (hy:U5 y):Z5s x y=some (fe (Z7p x-Z7p y)):=by
 rw [Z5s,Z3 (Z04p hy),Z3 (Z04c hx (Zfr _)),Z60]
 rw [Zis (a:=Z7p x + -Z7p y%PP) (b:=Z7p x-Z7p y)]
 rw [Int.sub_eq_add_neg,Int.add_emod,Int.emod_emod_of_dvd _ (Int.dvd_refl _),<- Int.add_emod]
theorem Zvx {n:Int} (h:0<=n/\n<18446744073709551616):Zbg n=some (fe n):=by
 rw [Zbg]
 simp only [Zm]
 rw [Z3 (Z6i (U5.mk5 h (by omega) (by omega) (by omega) (by omega)))]
 unfold Zol fe
 congr 3
 simp only [Z7p,List.getD_cons_zero,List.getD_cons_succ]
 omega
theorem Z027 {a b:Int} (ha:0<=a/\a<PP) (hb:0<=b/\b<PP) (h:Zl9 a=Zl9 b):a=b:=by
 rw [<- Zhw ha.1 ha.2,<- Zhw hb.1 hb.2,h]
theorem Z011 (n:Int):tk (Zl9 n) 0 5=Zl9 n:=rfl
theorem Z04m (a b:Int):ieq 5 (fe a) (fe b)=decide (a%PP=b%PP):=by
 unfold ieq fe
 rw [Z011,Z011]
 rw [decide_eq_decide]
 constructor
 ·exact Z027 ⟨Int.emod_nonneg _ (by decide),Int.emod_lt_of_pos _ Zk7⟩ ⟨Int.emod_nonneg _ (by decide),Int.emod_lt_of_pos _ Zk7⟩
 ·intro h; rw [h]
theorem Z025 {x y:LI} (hx:U5 x) (hy:U5 y):Z9c x y=some (decide (Z7p x%PP=Z7p y%PP)):=by
 rw [Z9c,Z3 (Z6i hx),Z3 (Z6i hy)]
 show some (ieq 5 (fe (Z7p x)) (fe (Z7p y)))=_
 rw [Z04m]
theorem Zz5 {x:LI} (hx:U5 x):Z5q x=some (decide (Z7p x%PP=0)):=by
 rw [Z5q,Z3 (Z6i hx)]
 simp only [Zm]
 have e:([0,0,0,0,0]:LI)=fe 0:=by decide
 rw [e]
 show some (ieq 5 (fe (Z7p x)) (fe 0))=_
 rw [Z04m]
 rfl
theorem Z05d {x:Int} (h0:0<=x) (h1:x<18446744073709551616):Z8 .and .u64 x 1=x%2:=Zpr 1 (by decide) (by decide) h0 h1
theorem Zut {x:LI} (hx:U5 x):Z9d x=some (Z7p x%PP%2==1):=by
 rw [Z9d,Z3 (Z6i hx)]
 simp only [Zm]
 have e:(Zol x).getD 0 0=Z7p x%PP%2251799813685248:=rfl
 rw [e,Z05d (by omega) (by omega)]
 congr 2
 omega
theorem Z00q {b:Bool} {x y:LI} (hx:U5 x) (hy:U5 y):Z9u b x y=some (fe (bif b then Z7p x else Z7p y)):=by
 rw [Z9u]
 cases b
 ·rw [Z0v rfl,Z3 (Z6i hy)]; rfl
 ·rw [Z1w rfl,Z3 (Z6i hx)]; rfl
theorem and8 {x y:Int} (m n:Nat) (hx:x=m) (hy:y=n) (h1:m<256) (h2:n<256):Z8 .and .u8 x y=((m &&& n:Nat):Int):=by
 subst hx; subst hy
 show IntKind.u8.wrap (((BitVec.ofInt 8 (m:Int) &&& BitVec.ofInt 8 (n:Int)).toNat:Nat):Int)=_
 rw [BitVec.toNat_and,bv8 m h1,bv8 n h2,Z13]
 have:m &&& n<=m:=Nat.and_le_left
 omega
theorem Zk9 (k:Nat) {x y:Int} (hy:y=((2^k-1:Nat):Int)) (hk:2^k<=256) (h0:0<=x) (h1:x<256):Z8 .and .u8 x y=x%((2^k:Nat):Int):=by
 have hp:0<2^k:=Nat.pow_pos (by decide)
 rw [and8 x.toNat (2^k-1) (by omega) hy (by omega) (by omega),Nat.and_two_pow_sub_one_eq_mod]
 rw [Int.natCast_emod]
 congr 1; omega
theorem Z0a9 {x:Int} (h0:0<=x) (h1:x<256):Z8 .and .u8 x 1=x%2:=Zk9 1 (by decide) (by decide) h0 h1
def Byt (e:LI):Prop:=∀ i,0<=e.getD i 0/\e.getD i 0<256
def ebit (e:LI) (i:Nat):Bool:=(e.getD (i / 8) 0 / ((2^(i%8):Nat):Int))%2==1
def pw (x:Int) (e:LI):Nat->Int
 | 0=>1
 | k+1=>if ebit e (255-k) then pw x e k*pw x e k%PP*x%PP else pw x e k*pw x e k%PP
theorem Z006 (x:Int) (e:LI) (k:Nat):0<=pw x e k/\pw x e k<PP:=by
 cases k with
 | zero=>exact ⟨by show (0:Int)<=1; decide,by show (1:Int)<PP; decide⟩
 | succ k =>
  unfold pw
  split
  ·exact ⟨Int.emod_nonneg _ (by decide),Int.emod_lt_of_pos _ Zk7⟩
  ·exact ⟨Int.emod_nonneg _ (by decide),Int.emod_lt_of_pos _ Zk7⟩
theorem Z028 {n:Int} (h0:0<=n) (h1:n<PP):fe n=Zl9 n:=by unfold fe; rw [Int.emod_eq_of_lt h0 h1]
theorem Zzx {x e:LI} (hx:U5 x) (he:Byt e) {kk:LI->Option (LI)} {k':Int->LI->Option (LI)} {i:Nat} (hi:i<256) (a:Int) (ha:0<=a/\a<PP) :
  Z9t x e kk k' (i:Int) (Zl9 a)=k' ((i:Int)-1) (Zl9 (if ebit e i then a*a%PP*Z7p x%PP else a*a%PP)):=by
 have hsq:Z1o (Zl9 a)=some (Zl9 (a*a%PP)):=by rw [Zsf (Zt6 _),Zhw ha.1 ha.2]
 rw [Z9t,Z1w (by simp),Z20,Z3 hsq]
 simp only [Zm]
 have hd:wrap .i64 (Int.tdiv (i:Int) 8)=((i / 8:Nat):Int):=by
  rw [Int.tdiv_eq_ediv_of_nonneg (by omega),Zu (by omega) (by omega)]; omega
 have hm:Int.tmod (i:Int) 8=((i%8:Nat):Int):=by
  rw [Int.tmod_eq_emod_of_nonneg (by omega)]; omega
 rw [hd,hm,Z0p (Z3g (by omega) (by omega)),Z0p (by simp; omega)]
 have hb:=he (i / 8)
 simp only [Int.toNat_natCast]
 rw [Zii .u8 (n:=i%8) (by show i%8<=8; omega)]
 have hp:(0:Int)<((2^(i%8):Nat):Int):=by have:=Nat.pow_pos (n:=i%8) (show 0<2 by decide); omega
 have hq0:=Int.ediv_nonneg hb.1 (Int.le_of_lt hp)
 have hq1:e.getD (i / 8) 0 / ((2^(i%8):Nat):Int)<256:=Int.lt_of_le_of_lt (Int.ediv_le_self _ hb.1) hb.2
 rw [Z0a9 hq0 hq1]
 have hw:wrap .i64 ((i:Int)-1)=(i:Int)-1:=Zu (by omega) (by omega)
 by_cases hbit:ebit e i=true
 ·have hb':(e.getD (i / 8) 0 / ((2^(i%8):Nat):Int)%2==1)=true:=hbit
  rw [Z1w hb',if_pos hbit,Z3 (Zze (Zt6 _) hx),Zhw (Int.emod_nonneg _ (by decide)) (Int.emod_lt_of_pos _ Zk7),hw]
 ·rw [Bool.not_eq_true] at hbit
  have hb':(e.getD (i / 8) 0 / ((2^(i%8):Nat):Int)%2==1)=false:=hbit
  rw [Z0v hb',if_neg (by rw [hbit]; decide),hw]
theorem Zv6 {x e:LI} (hx:U5 x) (he:Byt e) : ∀ (k n:Nat),k<=256->Z5r x e some (n+1+k) ((k:Int)-1) (Zl9 (pw (Z7p x) e (256-k)))=some (Zl9 (pw (Z7p x) e 256))
 | 0,n,_=>by
  show Z5r x e some (n+1) _ _=_
  rw [Z5r,Z9t,Z0v (by decide)]
 | k+1,n,hk=>by
  have ih:=Zv6 hx he k n (by omega)
  rw [<- Nat.add_assoc,Z5r]
  have hi:((k+1:Nat):Int)-1=(k:Int):=by omega
  rw [hi,Zzx hx he (by omega) _ (Z006 _ _ _)]
  have e1:256-k=(256-(k+1))+1:=by omega
  have e2:255-(256-(k+1))=k:=by omega
  rw [e1,pw,e2] at ih
  exact ih
theorem Z04w {x e:LI} (hx:U5 x) (he:Byt e):Zcf x e=some (Zl9 (pw (Z7p x) e 256)):=by
 rw [Zcf,Z3 (Zvx (by decide)),Z20]
 obtain ⟨n,hn⟩ : ∃ n,big=n+1+256:=⟨18446744073709551359,Z6r⟩
 have:=Zv6 hx he 256 n (Nat.le_refl _)
 rw [<- hn] at this
 have e1:fe 1=Zl9 (pw (Z7p x) e (256-256)):=rfl
 rw [e1]
 exact this
end Go.Proofs.YteefpkhngighgaaGreatDoor
