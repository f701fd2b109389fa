import Derived.Test.YtooeifemoidnoaaDoorVdN4
import Derived.Test.YtooeifemoidnoaaDoorVdP0
import Derived.Test.YtooeifemoidnoaaDoorAb27
noncomputable section
namespace Go.Proofs
open Go.Ab Go.Ab.Lf
set_option maxRecDepth 100000
theorem Tryd.sbs:AllT (fun f (b:FbK)=>Tryd.fb.get f=some b.fb) 1 0 Tryd.xs:=⟨(fun _ e=>nomatch e),⟨(fun _ e=>nomatch e),⟨(fun _ e=>Option.some.inj e▸rfl),⟨(fun _ e=>Option.some.inj e▸rfl),⟨(fun _ e=>nomatch e),⟨(fun _ e=>Option.some.inj e▸rfl),⟨(fun _ e=>Option.some.inj e▸rfl),trivial,trivial⟩,⟨(fun _ e=>nomatch e),trivial,trivial⟩⟩,⟨(fun _ e=>Option.some.inj e▸rfl),⟨(fun _ e=>Option.some.inj e▸rfl),trivial,trivial⟩,⟨(fun _ e=>nomatch e),trivial,trivial⟩⟩⟩,⟨(fun _ e=>Option.some.inj e▸rfl),⟨(fun _ e=>Option.some.inj e▸rfl),⟨(fun _ e=>Option.some.inj e▸rfl),trivial,trivial⟩,⟨(fun _ e=>nomatch e),trivial,trivial⟩⟩,⟨(fun _ e=>Option.some.inj e▸rfl),⟨(fun _ e=>Option.some.inj e▸rfl),trivial,trivial⟩,trivial⟩⟩⟩,⟨(fun _ e=>Option.some.inj e▸rfl),⟨(fun _ e=>Option.some.inj e▸rfl),⟨(fun _ e=>Option.some.inj e▸rfl),⟨(fun _ e=>Option.some.inj e▸rfl),trivial,trivial⟩,⟨(fun _ e=>nomatch e),trivial,trivial⟩⟩,⟨(fun _ e=>Option.some.inj e▸rfl),⟨(fun _ e=>Option.some.inj e▸rfl),trivial,trivial⟩,trivial⟩⟩,⟨(fun _ e=>nomatch e),⟨(fun _ e=>Option.some.inj e▸rfl),⟨(fun _ e=>Option.some.inj e▸rfl),trivial,trivial⟩,⟨(fun _ e=>nomatch e),trivial,trivial⟩⟩,⟨(fun _ e=>Option.some.inj e▸rfl),⟨(fun _ e=>Option.some.inj e▸rfl),trivial,trivial⟩,trivial⟩⟩⟩⟩,⟨(fun _ e=>nomatch e),⟨(fun _ e=>Option.some.inj e▸rfl),⟨(fun _ e=>nomatch e),⟨(fun _ e=>Option.some.inj e▸rfl),⟨(fun _ e=>Option.some.inj e▸rfl),trivial,trivial⟩,⟨(fun _ e=>nomatch e),trivial,trivial⟩⟩,⟨(fun _ e=>Option.some.inj e▸rfl),⟨(fun _ e=>Option.some.inj e▸rfl),trivial,trivial⟩,trivial⟩⟩,⟨(fun _ e=>nomatch e),⟨(fun _ e=>Option.some.inj e▸rfl),⟨(fun _ e=>Option.some.inj e▸rfl),trivial,trivial⟩,⟨(fun _ e=>nomatch e),trivial,trivial⟩⟩,⟨(fun _ e=>Option.some.inj e▸rfl),⟨(fun _ e=>Option.some.inj e▸rfl),trivial,trivial⟩,trivial⟩⟩⟩,⟨(fun _ e=>nomatch e),⟨(fun _ e=>Option.some.inj e▸rfl),⟨(fun _ e=>Option.some.inj e▸rfl),⟨(fun _ e=>Option.some.inj e▸rfl),trivial,trivial⟩,⟨(fun _ e=>nomatch e),trivial,trivial⟩⟩,⟨(fun _ e=>Option.some.inj e▸rfl),⟨(fun _ e=>Option.some.inj e▸rfl),trivial,trivial⟩,trivial⟩⟩,⟨(fun _ e=>Option.some.inj e▸rfl),⟨(fun _ e=>Option.some.inj e▸rfl),⟨(fun _ e=>Option.some.inj e▸rfl),trivial,trivial⟩,⟨(fun _ e=>nomatch e),trivial,trivial⟩⟩,⟨(fun _ e=>Option.some.inj e▸rfl),⟨(fun _ e=>nomatch e),trivial,trivial⟩,trivial⟩⟩⟩⟩⟩,⟨(fun _ e=>nomatch e),⟨(fun _ e=>nomatch e),⟨(fun _ e=>Option.some.inj e▸rfl),⟨(fun _ e=>nomatch e),⟨(fun _ e=>Option.some.inj e▸rfl),⟨(fun _ e=>nomatch e),trivial,trivial⟩,⟨(fun _ e=>nomatch e),trivial,trivial⟩⟩,⟨(fun _ e=>Option.some.inj e▸rfl),⟨(fun _ e=>Option.some.inj e▸rfl),trivial,trivial⟩,⟨(fun _ e=>nomatch e),trivial,trivial⟩⟩⟩,⟨(fun _ e=>nomatch e),⟨(fun _ e=>Option.some.inj e▸rfl),⟨(fun _ e=>Option.some.inj e▸rfl),trivial,trivial⟩,⟨(fun _ e=>nomatch e),trivial,trivial⟩⟩,⟨(fun _ e=>Option.some.inj e▸rfl),⟨(fun _ e=>Option.some.inj e▸rfl),trivial,trivial⟩,trivial⟩⟩⟩,⟨(fun _ e=>Option.some.inj e▸rfl),⟨(fun _ e=>Option.some.inj e▸rfl),⟨(fun _ e=>Option.some.inj e▸rfl),⟨(fun _ e=>Option.some.inj e▸rfl),trivial,trivial⟩,⟨(fun _ e=>nomatch e),trivial,trivial⟩⟩,⟨(fun _ e=>Option.some.inj e▸rfl),⟨(fun _ e=>Option.some.inj e▸rfl),trivial,trivial⟩,trivial⟩⟩,⟨(fun _ e=>Option.some.inj e▸rfl),⟨(fun _ e=>Option.some.inj e▸rfl),⟨(fun _ e=>Option.some.inj e▸rfl),trivial,trivial⟩,⟨(fun _ e=>nomatch e),trivial,trivial⟩⟩,⟨(fun _ e=>Option.some.inj e▸rfl),⟨(fun _ e=>nomatch e),trivial,trivial⟩,trivial⟩⟩⟩⟩,⟨(fun _ e=>nomatch e),⟨(fun _ e=>Option.some.inj e▸rfl),⟨(fun _ e=>Option.some.inj e▸rfl),⟨(fun _ e=>Option.some.inj e▸rfl),⟨(fun _ e=>nomatch e),trivial,trivial⟩,⟨(fun _ e=>nomatch e),trivial,trivial⟩⟩,⟨(fun _ e=>Option.some.inj e▸rfl),⟨(fun _ e=>Option.some.inj e▸rfl),trivial,trivial⟩,trivial⟩⟩,⟨(fun _ e=>nomatch e),⟨(fun _ e=>Option.some.inj e▸rfl),⟨(fun _ e=>Option.some.inj e▸rfl),trivial,trivial⟩,⟨(fun _ e=>nomatch e),trivial,trivial⟩⟩,⟨(fun _ e=>Option.some.inj e▸rfl),⟨(fun _ e=>Option.some.inj e▸rfl),trivial,trivial⟩,trivial⟩⟩⟩,⟨(fun _ e=>Option.some.inj e▸rfl),⟨(fun _ e=>Option.some.inj e▸rfl),⟨(fun _ e=>Option.some.inj e▸rfl),⟨(fun _ e=>Option.some.inj e▸rfl),trivial,trivial⟩,⟨(fun _ e=>nomatch e),trivial,trivial⟩⟩,⟨(fun _ e=>Option.some.inj e▸rfl),⟨(fun _ e=>Option.some.inj e▸rfl),trivial,trivial⟩,trivial⟩⟩,⟨(fun _ e=>Option.some.inj e▸rfl),⟨(fun _ e=>Option.some.inj e▸rfl),⟨(fun _ e=>nomatch e),trivial,trivial⟩,⟨(fun _ e=>nomatch e),trivial,trivial⟩⟩,⟨(fun _ e=>Option.some.inj e▸rfl),⟨(fun _ e=>nomatch e),trivial,trivial⟩,trivial⟩⟩⟩⟩⟩⟩
theorem Tryd.sb63:Tryd.fb.get 63=some Tryd.x63.fb:=rfl
theorem Tryd.xs_fb{f:FuncId}{b:FbK}(h:Tryd.xs.get f=some b):Tryd.fb.get f=some b.fb:=by simpa using Tryd.sbs.get f b h
end Go.Proofs

noncomputable section
namespace Go.Ab
open Go.Ab.Lf
def wrE(rows:List Kn)(c:CallF):CallF:=fun f args h=>match lookT rows f args with
 |some v=>.ok v h
 |none=>c f args h
theorem wrE_ok[Io]{P:Program}{rows:List Kn}(ht:KT P rows){call:CallF}(hc:CallOk P call):CallOk P (wrE rows call):=by
 intro f args h v h' e
 unfold wrE at e
 cases ht1:lookT rows f args with
 |none=>rw[ht1]at e;exact hc f args h v h' e
 |some v1=>
  rw[ht1]at e
  cases e
  obtain⟨k1,k2⟩:=lookT_ok ht f args v ht1
  refine⟨k1,fun g w vs H hv=>?_⟩
  refine(k2 g w vs H.imm H.tb hv).mono ?_
  rintro e w' ⟨x,rfl,K,hx⟩
  obtain⟨g',hg'⟩: ∃ g':G,g'=⟨g.m,fun b=>g.imm b∨(w.heap.size<=b/\b<w'.heap.size)⟩:=⟨_,rfl⟩
  have hO: ∀ b,Owned g' h b->Owned g h b:=by
   rintro b ⟨id,cs,s,e,m⟩
   rw[hg']at m
   exact⟨id,cs,s,e,m⟩
  have M:Mono g w g' w':=⟨fun _ _ e=>by rw[hg'];exact e,fun b i=>by rw[hg'];exact .inl i,fun b i=>K.old b (H.imm b i),K.rows⟩
  refine⟨x,g',rfl,⟨K.os,K.tape,K.output,K.size,Nat.le_refl _,M.m,fun b hb _=>K.old b hb,K.rows,M.imm,fun b i=>?_,fun b o=>.inl (hO b o)⟩,⟨fun id hid=>?_,fun id cs e=>?_,fun id id' b s s' cs cs' e1 e2 m1 m2=>?_,fun b i=>?_,TbOk.mono M H.tb⟩,?_⟩
  ·rw[hg']at i
   rcases i with i|i
   ·exact .inl i
   ·exact .inr (.inr i.1)
  ·rw[hg'];exact H.fresh id hid
  ·obtain⟨b,s,C,el,us,h1,h2,h3,h4,h5⟩:=H.objs id cs e
   have hb:=(Array.getElem?_eq_some_iff.1 h2).1
   refine⟨b,s,C,el,us,M.m _ _ h1,by rw[K.old b hb];exact h2,?_,VRs.mono' M _ _ h4,h5⟩
   rw[hg']
   rintro(i|i)
   ·exact h3 i
   ·omega
  ·rw[hg']at m1 m2
   exact H.inj id id' b s s' cs cs' e1 e2 m1 m2
  ·rw[hg']at i
   rcases i with i|i
   ·exact Nat.lt_of_lt_of_le (H.imm b i) K.size
   ·exact i.2
  ·refine VR.mono' (⟨(fun _ _ e=>by cases e),(fun b i=>by rw[hg'];exact .inr i),fun _ _=>rfl,fun _=>Nat.le_refl _⟩:Mono _ _ g' w') _ _ hx
end Go.Ab
namespace Go.Proofs
open Go.Ab Go.Ab.Lf
set_option maxRecDepth 100000
theorem Tryd.clone_any(a:Option Addr)(c:Nat)(w:World):Calls Tryd.prog 63 #[.slice a 0 c] w fun e w'=> ∃ a,e=.returned (.slice a 0 0)/\Go.RowKit.Below w.heap.size w w':=by
 cases a with
 |none=>exact Tryd.clone1 c w
 |some a=>exact Tryd.clone0 a c w
theorem Tryd.kn63[Io](A:AV)(hA: ∀ g w v,VR g w A v-> ∃ a c,v=.slice a 0 c):KnownF Tryd.prog 63 [A] .esl:=by
 refine⟨Tryd.call63,fun g w vs hi ht hv=>?_⟩
 simp only[VRs]at hv
 obtain⟨v,l,rfl,hv,rfl⟩:=hv
 obtain⟨a,c,rfl⟩:=hA g w v hv
 refine(Tryd.clone_any a c w).mono ?_
 rintro e w' ⟨a',rfl,B⟩
 refine⟨_,rfl,⟨B.os,B.tape,B.output,B.size,B.block⟩,?_⟩
 simp only[VR]
 exact⟨a',rfl⟩
theorem Tryd.kn63a[Io]:KnownF Tryd.prog 63 [.esl] .esl:=Tryd.kn63 _ fun g w v h=>by
 simp only[VR]at h
 obtain⟨a,rfl⟩:=h
 exact⟨a,0,rfl⟩
theorem Tryd.kn63b[Io]:KnownF Tryd.prog 63 [.isl 0 []] .esl:=Tryd.kn63 _ fun g w v h=>by
 simp only[VR]at h
 obtain⟨a,c,rfl,_⟩:=h
 exact⟨a,c,rfl⟩
theorem Tryd.kn7[Io]:KnownF Tryd.prog 7 [] (.bool true):=knownF_of (Tryd.ok 1000 60) (by kernel_rfl) (by kernel_rfl)
def Tryd.rows:List Kn:=[⟨7,[],.bool true⟩,⟨63,[.esl],.esl⟩,⟨63,[.isl 0 []],.esl⟩]
theorem Tryd.rows_ok[Io]:KT Tryd.prog Tryd.rows:=KT.cons Tryd.kn7 (KT.cons Tryd.kn63a (KT.cons Tryd.kn63b KT.nil))
def hasT(f:FuncId):Bool:=Nat.beq f 57||Nat.beq f 66
abbrev TbT:=FuncId->List AV->Option AV
def Tryd.wrap(tbl:TbT)(c:CallF):CallF:=orcF hasT tbl (wrE Tryd.rows c)
def Tryd.calT(tbl:TbT)(n d:Nat):CallF:=Tryd.wrap tbl (gCall Tryd.fb.get (Tryd.wrap tbl) n d)
theorem Tryd.calT_ok[Io]{tbl:TbT}(ht: ∀ f args v,tbl f args=some v->KnownF Tryd.prog f args v)(n d:Nat):CallOk Tryd.prog (Tryd.calT tbl n d):=
 have hw: ∀ c,CallOk Tryd.prog c->CallOk Tryd.prog (Tryd.wrap tbl c):=fun _ hc=>orcF_ok ht (wrE_ok Tryd.rows_ok hc)
 hw _ (gCall_ok (draw_ok Tryd.mixed) (fun f b e=>by simpa using Tryd.fbs.get f b e) hw n d)
theorem Tryd.calT_tbl{tbl:TbT}{f:FuncId}{az az':List AV}{v:AV}{h:Hp}(hf:hasT f=true)(hz:mapA (frz 8 h) az=some az')(ht:tbl f az'=some v)(n d:Nat):Tryd.calT tbl n d f az h=.ok v h:=by
 show(Bool.rec (wrE Tryd.rows _ f az h) (match mapA (frz 8 h) az with|some args'=>(match tbl f args' with|some v=>Ro.ok v h|none=>wrE Tryd.rows (gCall Tryd.fb.get (Tryd.wrap tbl) n d) f az h)|none=>wrE Tryd.rows (gCall Tryd.fb.get (Tryd.wrap tbl) n d) f az h) (hasT f):Go.Ab.Ro)=_
 rw[hf,hz]
 dsimp only
 rw[ht]
end Go.Proofs

noncomputable section
namespace Go.Proofs.Vd
open Go.Ab Go.Ab.Lf
set_option maxRecDepth 100000
variable {tbl:TbT}
theorem look_ne{f:FuncId}{az:List AV}(h7:f≠7)(h63:f≠63):lookT Tryd.rows f az=none:=by
 have a7:Nat.beq 7 f=false:=by cases h:Nat.beq 7 f with|false=>rfl|true=>exact(h7 (Nat.eq_of_beq_eq_true h).symm).elim
 have a63:Nat.beq 63 f=false:=by cases h:Nat.beq 63 f with|false=>rfl|true=>exact(h63 (Nat.eq_of_beq_eq_true h).symm).elim
 have e:lookT Tryd.rows f az=(Bool.rec (Bool.rec (Bool.rec none (some .esl) (Nat.beq 63 f&&eqAs [.isl 0 []] az)) (some .esl) (Nat.beq 63 f&&eqAs [.esl] az)) (some (.bool true)) (Nat.beq 7 f&&eqAs [] az):Option AV):=rfl
 rw[e,a7,a63]
 rfl
theorem look63{az:List AV}(h1:az≠[.esl])(h2:az≠[.isl 0 []]):lookT Tryd.rows 63 az=none:=by
 have e:lookT Tryd.rows 63 az=(Bool.rec (Bool.rec none (some .esl) (eqAs [.isl 0 []] az)) (some .esl) (eqAs [.esl] az):Option AV):=rfl
 have a1:eqAs [.esl] az=false:=by cases h:eqAs [.esl] az with|false=>rfl|true=>exact(h1 (eqAs_iff _ _ h).symm).elim
 have a2:eqAs [.isl 0 []] az=false:=by cases h:eqAs [.isl 0 []] az with|false=>rfl|true=>exact(h2 (eqAs_iff _ _ h).symm).elim
 rw[e,a1,a2]
theorem step_cal{f:FuncId}{b:FbK}(hf:Tryd.fb.get f=some b.fb)(hh:hasT f=false){n d:Nat}{az:List AV}{h:Hp}(hl:lookT Tryd.rows f az=none):Tryd.calT tbl n (d+1) f az h=stepC b.fb n (Tryd.calT tbl n d) az h:=by
 have e:Tryd.calT tbl n (d+1) f az h=(Bool.rec (match lookT Tryd.rows f az with|some v=>.ok v h|none=>aStep Tryd.fb.get n (Tryd.calT tbl n d) f az h) (match mapA (frz 8 h) az with|some args'=>(match tbl f args' with|some v=>Go.Ab.Ro.ok v h|none=>wrE Tryd.rows (gCall Tryd.fb.get (Tryd.wrap tbl) n (d+1)) f az h)|none=>wrE Tryd.rows (gCall Tryd.fb.get (Tryd.wrap tbl) n (d+1)) f az h) (hasT f):Go.Ab.Ro):=rfl
 rw[e,hh,hl]
 show aStep Tryd.fb.get n (Tryd.calT tbl n d) f az h=_
 unfold aStep
 rw[hf]
 rfl
theorem st63(n d:Nat)(az:List AV)(h:Hp)(c:AV)(h':Hp)(e:stepC Tryd.x63.fb n ((Tryd.calT tbl) n d) az h=.ok c h'):(Tryd.calT tbl) n (d+1) 63 az h=.ok c h':=by
 by_cases h1:az=[.esl]
 ·subst h1
  have:stepC Tryd.x63.fb n ((Tryd.calT tbl) n d) [.esl] h=.bad:=by kernel_rfl
  rw[this]at e
  cases e
 ·by_cases h2:az=[.isl 0 []]
  ·subst h2
   have:stepC Tryd.x63.fb n ((Tryd.calT tbl) n d) [.isl 0 []] h=.bad:=by kernel_rfl
   rw[this]at e
   cases e
  ·rw[step_cal (b:=Tryd.x63) Tryd.sb63 rfl (look63 h1 h2)]
   exact e
theorem world_cal:World (Tryd.calT tbl):=⟨by
 intro f b hb n d az h c h' e
 unfold bkD at hb
 cases hx:(Nat.beq f 7||hasT f)with
 |true=>rw[show(Nat.beq f 7||(Nat.beq f 57||Nat.beq f 66))=true from hx]at hb;cases hb
 |false=>
  rw[show(Nat.beq f 7||(Nat.beq f 57||Nat.beq f 66))=false from hx,cond_false]at hb
  rw[Bool.or_eq_false_iff]at hx
  have h7:f≠7:=fun q=>by subst q;cases hx.1
  by_cases h63:f=63
  ·subst h63
   have hb:some Tryd.x63=some b:=hb
   cases hb
   exact st63 n d az h c h' e
  ·rw[step_cal (Tryd.xs_fb hb) hx.2 (look_ne h7 h63)]
   exact e⟩
theorem mkF_pl{P:Pat}{ptr:List Nat}{Q:Pat}{ti to:List Ty}{g:denT ti->Lf.T (denT to)}{pl q:List Pl}(h:((mkF P ptr Q ti to g).f pl).val=some q): ∃ x y,pl=ofT ti x/\(g x).val=some y/\q=ofT to y:=by
 change (match toT ti pl with|some x=>(g x).map (ofT to)|none=>.bad).val=some q at h
 split at h
 ·rename_i x hx
  obtain⟨y,h1,h2⟩:=T.map_val h
  exact⟨x,y,toT_ok hx,h1,h2⟩
 ·cases h
theorem mkF_of{P:Pat}{ptr:List Nat}{Q:Pat}{ti to:List Ty}{g:denT ti->Lf.T (denT to)}{x:denT ti}{y:denT to}(h:(g x).val=some y):((mkF P ptr Q ti to g).f (ofT ti x)).val=some (ofT to y):=by
 show(match toT ti (ofT ti x)with|some x=>(g x).map (ofT to)|none=>.bad).val=_
 rw[toT_of]
 show((g x).bd fun a=>Lf.T.ok (ofT to a)).val=_
 rw[Lf.T.val_bd,h]
 rfl
theorem s7_cal:s7.Ok 7 (Tryd.calT tbl):=by
 have C:SimC (fun _ _ _=>.bad) (fun _ _ _ _ h=>.ok (.bool true) h):=fun _ _ _ _ _ _ _ _ _ _ e=>by cases e
 have S:StepOk (fun _ _ _ _ h=>.ok (.bool true) h) 7 (Go.Ab.X.mkFb 8 [.tmp 2] fun _ _=>(Go.Ab.X.cSq (Go.Ab.X.cRg (Go.Ab.X.st 2 (Go.Ab.X.kMove (Go.Ab.X.oC (.bool true))) Go.Ab.X.fi)) Go.Ab.X.cRt)):=by
  intro n d az h c h' e
  unfold stepC at e
  cases hb:Nat.ble (len az) 8 with
  |true=>
   have e:(ifb (Nat.ble (len az) 8) (.ok (.bool true) h) .bad:Go.Ab.Ro)=.ok c h':=e
   rw[hb]at e
   exact e
  |false=>
   have e:(ifb (Nat.ble (len az) 8) (.ok (.bool true) h) .bad:Go.Ab.Ro)=.ok c h':=e
   rw[hb]at e
   cases e
 have k:s7.Ok 7 (fun _ _ _ _ h=>.ok (.bool true) h):=by
  refine mkF_ok C S rfl (okL_none _) (m:=3) rfl ?_
  rintro⟨⟩ q h
  cases h
  kernel_rfl
 intro pl q args H0 E0 h az e hP hv hS
 obtain⟨c,h',E1,ws,H1,⟨M,hM⟩,r⟩:=k pl q args H0 E0 h az e hP hv hS
 have hM:=hM M M (Nat.le_refl _) (Nat.le_refl _)
 cases hM
 obtain⟨x,y,rfl,_,_⟩:=mkF_pl e
 have ha:az=[]:=by
  have hP:some (([]:List Sv),([]:List Pl),Lf.e1)=some (args,[],H0):=hP
  cases hP
  cases hv
  rfl
 subst ha
 exact⟨.bool true,h,E1,ws,H1,⟨0,fun n d _ _=>rfl⟩,r⟩
end Go.Proofs.Vd

noncomputable section
namespace Go.Proofs.Vd
open Go.Ab Go.Ab.Lf
set_option maxRecDepth 100000
variable {tbl:TbT}
abbrev rC(c:AV):FbK:=Go.Ab.X.mkFb 8 [.tmp 2] fun _ _=>(Go.Ab.X.cSq (Go.Ab.X.cRg (Go.Ab.X.st 2 (Go.Ab.X.kMove (Go.Ab.X.oC c)) Go.Ab.X.fi)) Go.Ab.X.cRt)
def sE63:Fsp:=mkF (Ps [.im i64]) [] (Ps [.ow i64]) [.sli i64] [.sli i64] fun x=>.ck (decide (List.length x.1=0)) (.ok ([],()))
theorem rC_step(c0:AV):StepOk (fun _ _ _ _ h=>.ok c0 h) 63 (rC c0):=by
 intro n d az h c h' e
 have e:(ifb (Nat.ble (len az) 8) (.ok c0 h) .bad:Go.Ab.Ro)=.ok c h':=e
 cases hb:Nat.ble (len az) 8 with
 |true=>
  rw[hb]at e
  exact e
 |false=>
  rw[hb]at e
  cases e
theorem bad_sim(cal:CallN):SimC (fun _ _ _=>.bad) cal:=fun _ _ _ _ _ _ _ _ _ _ e=>by cases e
theorem sE_nil:sE63.Ok 63 (fun _ _ _ _ h=>.ok (.sc (.slice none 0 0)) h):=by
 refine mkF_ok (bad_sim _) (rC_step _) rfl (okL_none _) (m:=3) rfl ?_
 rintro⟨x,⟨⟩⟩ q h
 obtain⟨h1,h⟩:=Lf.T.ck_some h
 cases h
 obtain rfl:x=[]:=List.eq_nil_of_length_eq_zero (of_decide_eq_true h1)
 kernel_rfl
theorem sE_nel:sE63.Ok 63 (fun _ _ _ _ h=>.ok .nel h):=by
 refine mkF_ok (bad_sim _) (rC_step _) rfl (okL_none _) (m:=3) rfl ?_
 rintro⟨x,⟨⟩⟩ q h
 obtain⟨h1,h⟩:=Lf.T.ck_some h
 cases h
 obtain rfl:x=[]:=List.eq_nil_of_length_eq_zero (of_decide_eq_true h1)
 kernel_rfl
theorem sE_esl:sE63.Ok 63 (fun _ _ _ _ h=>.ok .esl h):=by
 refine mkF_ok (bad_sim _) (rC_step _) rfl (okL_none _) (m:=3) rfl ?_
 rintro⟨x,⟨⟩⟩ q h
 obtain⟨h1,h⟩:=Lf.T.ck_some h
 cases h
 obtain rfl:x=[]:=List.eq_nil_of_length_eq_zero (of_decide_eq_true h1)
 kernel_rfl
def sN63:Fsp:=mkF (Ps [.im i64]) [] (Ps [.ow i64]) [.sli i64] [.sli i64] fun x=>.ck (decide (List.length x.1<=1099511627776)&& !decide (List.length x.1=0)) (.ok (x.1,()))
theorem sN_cal:sN63.Ok 63 (Tryd.calT tbl):=by
 refine mkF_ok (bad_sim _) (world_cal.st 63 Tryd.x63 rfl) rfl (okL_none _) (m:=3) rfl ?_
 rintro⟨x,⟨⟩⟩ q h
 obtain⟨h1,h⟩:=Lf.T.ck_some h
 cases h
 simp only[Bool.and_eq_true,Bool.not_eq_true',decide_eq_true_eq,decide_eq_false_iff_not]at h1
 have e:(fnT (Ps [.im i64]) [] (Ps [.ow i64]) (fun _=>none) Tryd.x63 3 (fun _ _ _=>.bad) (ofT [.sli i64] (x,()))).val=ckO (!(Nat.beq (List.length x) 0)) (ckO (roomy 8 (0+List.length x)) (some (ofT [.sli i64] (app [] x,())))):=by kernel_rfl
 have c1:Nat.beq (List.length x) 0=false:=by
  cases hb:Nat.beq (List.length x) 0 with
  |false=>rfl
  |true=>exact(h1.2 (Nat.eq_of_beq_eq_true hb)).elim
 rw[e,c1,roomy_le (by omega) (by omega),app_eq]
 rfl
theorem s63_cal:s63.Ok 63 (Tryd.calT tbl):=by
 intro pl q args H0 E0 h az e hP hv hS
 obtain⟨⟨x,⟨⟩⟩,⟨y,⟨⟩⟩,rfl,h1,rfl⟩:=mkF_pl e
 obtain⟨h2,h3⟩:=Lf.T.ck_some h1
 have h2:List.length x<=1099511627776:=of_decide_eq_true h2
 have h3:y=x:=by
  injection h3 with h3
  exact(congrArg Prod.fst h3).symm
 subst h3
 by_cases hx:y=[]
 ·subst hx
  have hP2:some (([.c 1 (.sli i64) []]:List Sv),([]:List Pl),(⟨2,.nil⟩:Hq))=some (args,[],H0):=hP
  cases hP2
  obtain⟨a,rfl,ha⟩: ∃ a,az=[a]/\EV E0.G (.sli i64) [] [a]:=by
   cases hv with
   |cons ha hr=>
    cases hr
    cases ha with
    |c k _=>exact⟨_,rfl,k⟩
  have fin: ∀ c0:AV,sE63.Ok 63 (fun _ _ _ _ h=>.ok c0 h)->(∀ n d,(Tryd.calT tbl) n (d+1) 63 [a] h=.ok c0 h)-> ∃ c h' E1 ws H1,Ev (fun n d=>(Tryd.calT tbl) n d 63 [a] h) (.ok c h')/\Ox E0 E1 (tagAll ⟨2,.nil⟩) H1 h h'/\SR E1 H1 h'/\fillP s63.Q (ofT [.sli i64] ([],())) Lf.e1=some (ws,[],H1)/\Vs E1 H1.next ws (c::s63.ptr.map E0.A):=by
   intro c0 k hc
   obtain⟨c,h',E1,ws,H1,⟨M,hM⟩,r⟩:=k _ (ofT [.sli i64] ([],())) _ _ E0 h [a] rfl hP hv hS
   have hM:=hM M M (Nat.le_refl _) (Nat.le_refl _)
   cases hM
   refine⟨c0,h,E1,ws,H1,⟨1,fun n d _ hd=>?_⟩,r⟩
   obtain⟨d,rfl⟩: ∃ d',d=d'+1:=⟨d - 1,by omega⟩
   exact hc n d
  obtain⟨a',e1,k⟩: ∃ a',[a]=[a']/\CVs E0.G i64 (EV E0.G i64) [] a':=ha
  injection e1 with e1
  subst e1
  rcases k with⟨k,_⟩|⟨ls,k1,k2⟩
  ·cases a with
   |esl=>exact fin .esl sE_esl fun n d=>rfl
   |nel=>exact fin .nel sE_nel fun n d=>st63 n d _ h _ _ rfl
   |sc v=>
    obtain rfl:v=.slice none 0 0:=by
     have k:isNil (.sc v)=true:=k
     unfold isNil at k
     split at k
     ·rename_i n c e
      injection e with e
      subst e
      have k:(Nat.beq n 0&&Nat.beq c 0)=true:=by assumption
      rw[Bool.and_eq_true]at k
      obtain rfl:=Nat.eq_of_beq_eq_true k.1
      obtain rfl:=Nat.eq_of_beq_eq_true k.2
      rfl
     ·cases k
    exact fin _ sE_nil fun n d=>st63 n d _ h _ _ rfl
   | _=>cases k
  ·have hl:ls=[]:=k1
   subst hl
   rcases k2 with k2|⟨id,base,row,k2,_,_⟩
   ·subst k2
    exact fin .esl sE_esl fun n d=>rfl
   ·subst k2
    exact fin .nel sE_nel fun n d=>st63 n d _ h _ _ rfl
 ·have hn:(sN63.f (ofT [.sli i64] (y,()))).val=some (ofT [.sli i64] (y,())):=by
   have e:(sN63.f (ofT [.sli i64] (y,()))).val=(bif (decide (List.length y<=1099511627776)&& !decide (List.length y=0))then some (ofT [.sli i64] (y,()))else none):=rfl
   rw[e,decide_eq_true h2,decide_eq_false (fun q=>hx (List.eq_nil_of_length_eq_zero q))]
   rfl
  exact sN_cal _ _ args H0 E0 h az hn hP hv hS
end Go.Proofs.Vd
