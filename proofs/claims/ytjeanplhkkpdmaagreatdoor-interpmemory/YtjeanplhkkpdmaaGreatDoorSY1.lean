import Derived.Test.YtjeanplhkkpdmaaGreatDoorSY0
import Derived.Test.YtjeanplhkkpdmaaGreatDoorVbI
import Derived.Test.YtjeanplhkkpdmaaGreatDoorLfG
import Derived.Test.YtjeanplhkkpdmaaGreatDoorVdU2
import Derived.Test.YtjeanplhkkpdmaaGreatDoorVdW
import Derived.Test.YtjeanplhkkpdmaaGreatDoorVdV4
import Derived.Test.YtjeanplhkkpdmaaGreatDoorIC
import Derived.OpenShut
import Derived.ChangeSlices
import Derived.Test.YtjeanplhkkpdmaaGreatDoorIO0
import Derived.Test.YtjeanplhkkpdmaaGreatDoorAb21
noncomputable section
namespace Go.Ab
open Go.Ab.Lf
def wrF(lk:FuncId->List AV->Option AV)(c:iP):iP:=fun f args h=>match lk f args with
 |some v=>.ok v h
 |none=>c f args h
theorem Eu[Io]{P:Program}{lk:FuncId->List AV->Option AV}(ht: ∀ f args v,lk f args=some v->qH P f args v){call:iP}(hc:jL P call):jL P (wrF lk call):=by
 intro f args h v h' e
 unfold wrF at e
 cases ht1:lk f args with
 |none=>rw[ht1]at e;exact hc f args h v h' e
 |some v1=>
  rw[ht1]at e
  cases e
  obtain⟨k1,k2⟩:=ht f args v ht1
  refine⟨k1,fun g w vs H hv=>?_⟩
  refine(k2 g w vs H.j3 H.tb hv).mono ?_
  rintro e w' ⟨x,rfl,K,hx⟩
  obtain⟨g',Yt⟩: ∃ g':G,g'=⟨g.m,fun b=>g.j3 b∨(w.heap.size<=b/\b<w'.heap.size)⟩:=⟨_,rfl⟩
  have hO: ∀ b,nn g' h b->nn g h b:=by
   rintro b ⟨id,cs,s,e,m⟩
   rw[Yt]at m
   exact⟨id,cs,s,e,m⟩
  have M:vW g w g' w':=⟨fun _ _ e=>by rw[Yt];exact e,fun b i=>by rw[Yt];exact .inl i,fun b i=>K.uL b (H.j3 b i),K.rows⟩
  refine⟨x,g',rfl,⟨K.os,K.tape,K.output,K.size,Nat.le_refl _,M.m,fun b hb _=>K.uL b hb,K.rows,M.j3,fun b i=>?_,fun b o=>.inl (hO b o)⟩,⟨fun id mQ=>?_,fun id cs e=>?_,fun id zQ b s s' cs cs' e1 e2 m1 m2=>?_,fun b i=>?_,qF.mono M H.tb⟩,?_⟩
  ·rw[Yt]at i
   rcases i with i|i
   ·exact .inl i
   ·exact .inr (.inr i.1)
  ·rw[Yt];exact H.fresh id mQ
  ·obtain⟨b,s,C,el,us,h1,h2,h3,h4,h5⟩:=H.cw id cs e
   have hb:=(Array.getElem?_eq_some_iff.1 h2).1
   refine⟨b,s,C,el,us,M.m _ _ h1,by rw[K.uL b hb];exact h2,?_,cZ.kq M _ _ h4,h5⟩
   rw[Yt]
   rintro(i|i)
   ·exact h3 i
   ·omega
  ·rw[Yt]at m1 m2
   exact H.inj id zQ b s s' cs cs' e1 e2 m1 m2
  ·rw[Yt]at i
   rcases i with i|i
   ·exact Nat.lt_of_lt_of_le (H.j3 b i) K.size
   ·exact i.2
  ·refine VR.kq (⟨(fun _ _ e=>by cases e),(fun b i=>by rw[Yt];exact .inr i),fun _ _=>rfl,fun _=>Nat.le_refl _⟩:vW _ _ g' w') _ _ hx
end Go.Ab
namespace Go.Ab.Lf
open Go.Ab
end Go.Ab.Lf
namespace Go.Ab
instance Yu:Io:=⟨fun _=>0,[]⟩
end Go.Ab
namespace Go.Proofs.Vd
open Go.Ab Go.Ab.Lf Go.RowKit
set_option maxRecDepth 100000
def TP(f:FuncId):Bool:=Nat.beq f 59||Nat.beq f 84||Nat.beq f 85||Nat.beq f 86||Nat.beq f 87||Nat.beq f 88||Nat.beq f 90||Nat.beq f 91||Nat.beq f 92||Nat.beq f 93||Nat.beq f 94||Nat.beq f 144
theorem aeY[Io]{f:FuncId}(h:TP f=true):qH Tryz.prog f [.mB] .mB/\qH Tryz.prog f [.qT 0 []] .mB:=by
 unfold TP at h
 simp only[Bool.or_eq_true]at h
 rcases h with((((((((((h|h)|h)|h)|h)|h)|h)|h)|h)|h)|h)|h
 ·obtain rfl:=Nat.eq_of_beq_eq_true h;exact Tryz.Na Tryz.call59 Tryz.aoJ
 ·obtain rfl:=Nat.eq_of_beq_eq_true h;exact Tryz.Na Tryz.call84 Tryz.aoz
 ·obtain rfl:=Nat.eq_of_beq_eq_true h;exact Tryz.Na Tryz.call85 Tryz.aoA
 ·obtain rfl:=Nat.eq_of_beq_eq_true h;exact Tryz.Na Tryz.call86 Tryz.aoB
 ·obtain rfl:=Nat.eq_of_beq_eq_true h;exact Tryz.Na Tryz.call87 Tryz.aoC
 ·obtain rfl:=Nat.eq_of_beq_eq_true h;exact Tryz.Na Tryz.call88 Tryz.aoD
 ·obtain rfl:=Nat.eq_of_beq_eq_true h;exact Tryz.Na Tryz.call90 Tryz.aoE
 ·obtain rfl:=Nat.eq_of_beq_eq_true h;exact Tryz.Na Tryz.call91 Tryz.aoF
 ·obtain rfl:=Nat.eq_of_beq_eq_true h;exact Tryz.Na Tryz.call92 Tryz.aoG
 ·obtain rfl:=Nat.eq_of_beq_eq_true h;exact Tryz.Na Tryz.call93 Tryz.aoH
 ·obtain rfl:=Nat.eq_of_beq_eq_true h;exact Tryz.Na Tryz.call94 Tryz.aoI
 ·obtain rfl:=Nat.eq_of_beq_eq_true h;exact Tryz.Na Tryz.call144 Tryz.ajy
def Yv(f:FuncId)(az:List AV):Option AV:=bif TP f then(bif nf [.mB] az then some .mB else(bif nf [.qT 0 []] az then some .mB else none))else none
theorem I3[Io]: ∀ f az v,Yv f az=some v->qH Tryz.prog f az v:=by
 intro f az v h
 unfold Yv at h
 cases hc:TP f with
 |false=>rw[hc]at h;cases h
 |true=>
  obtain⟨k1,k2⟩:=aeY hc
  rw[hc,cond_true]at h
  cases h1:nf [.mB] az with
  |true=>rw[h1]at h;cases h;obtain rfl:=mF _ _ h1;exact k1
  |false=>
   rw[h1,cond_false]at h
   cases h2:nf [.qT 0 []] az with
   |true=>rw[h2]at h;cases h;obtain rfl:=mF _ _ h2;exact k2
   |false=>rw[h2]at h;cases h
def aoL(n d:Nat):iP:=wrF Yv (OW Tryz.gt (wrF Yv) n d)
theorem Yw[Io](n d:Nat):jL Tryz.prog (aoL n d):=Eu I3 (Ao (JA Tryz.mixed) Tryz.gts (fun _ hc=>Eu I3 hc) n d)
theorem kn5[Io]:qH Tryz.prog 5 [] (.bool true):=Lr (Yw 1000 60) (by kernel_rfl) (by kernel_rfl)
def GQ(f:FuncId)(az:List AV):Option AV:=bif TP f then Yv f az else
 bif Nat.beq f 5 then(match az with| []=>some (.bool true)| _=>none)else none
theorem Tk[Io]: ∀ f az v,GQ f az=some v->qH Tryz.prog f az v:=by
 intro f az v h
 unfold GQ at h
 cases hc:TP f with
 |true=>rw[hc]at h;exact I3 f az v h
 |false=>
  rw[hc,cond_false]at h
  cases WM:Nat.beq f 5 with
  |true=>
   rw[WM,cond_true]at h
   obtain rfl:=Nat.eq_of_beq_eq_true WM
   split at h
   ·cases h;exact kn5
   ·cases h
  |false=>rw[WM]at h;cases h
def kL(n d:Nat):iP:=wrF GQ (OW Tryz.gt (wrF GQ) n d)
theorem Yx[Io](n d:Nat):jL Tryz.prog (kL n d):=Eu Tk (Ao (JA Tryz.mixed) Tryz.gts (fun _ hc=>Eu Tk hc) n d)
theorem Ew{f:FuncId}{az:List AV}{v:AV}{h:Hp}(hl:GQ f az=some v)(n d:Nat):kL n d f az h=.ok v h:=by
 show(match GQ f az with|some v=>Ro.ok v h|none=>_)=_
 rw[hl]
theorem rR{f:FuncId}{b:xF}(hf:Tryz.xs.get f=some b){n d:Nat}{az:List AV}{h:Hp}(hl:GQ f az=none):kL n (d+1) f az h=AG b.fb n (kL n d) az h:=by
 show(match GQ f az with|some v=>Ro.ok v h|none=>FB Tryz.gt n (kL n d) f az h)=_
 rw[hl]
 show FB Tryz.gt n (kL n d) f az h=_
 unfold FB
 rw[Tryz.ajx hf]
 rfl
theorem aeZ{f:FuncId}{b:xF}(hC:TP f=true)(hf:Tryz.xs.get f=some b): ∀ n d h,AG b.fb n (kL n d) [.mB] h=.bad/\AG b.fb n (kL n d) [.qT 0 []] h=.bad:=by
 unfold TP at hC
 simp only[Bool.or_eq_true]at hC
 rcases hC with((((((((((h|h)|h)|h)|h)|h)|h)|h)|h)|h)|h)|h
 ·obtain rfl:=Nat.eq_of_beq_eq_true h;obtain rfl:b=Tryz.x59:=(Option.some.inj hf).symm;exact fun n d h=>⟨by kernel_rfl,by kernel_rfl⟩
 ·obtain rfl:=Nat.eq_of_beq_eq_true h;obtain rfl:b=Tryz.x84:=(Option.some.inj hf).symm;exact fun n d h=>⟨by kernel_rfl,by kernel_rfl⟩
 ·obtain rfl:=Nat.eq_of_beq_eq_true h;obtain rfl:b=Tryz.x85:=(Option.some.inj hf).symm;exact fun n d h=>⟨by kernel_rfl,by kernel_rfl⟩
 ·obtain rfl:=Nat.eq_of_beq_eq_true h;obtain rfl:b=Tryz.x86:=(Option.some.inj hf).symm;exact fun n d h=>⟨by kernel_rfl,by kernel_rfl⟩
 ·obtain rfl:=Nat.eq_of_beq_eq_true h;obtain rfl:b=Tryz.x87:=(Option.some.inj hf).symm;exact fun n d h=>⟨by kernel_rfl,by kernel_rfl⟩
 ·obtain rfl:=Nat.eq_of_beq_eq_true h;obtain rfl:b=Tryz.x88:=(Option.some.inj hf).symm;exact fun n d h=>⟨by kernel_rfl,by kernel_rfl⟩
 ·obtain rfl:=Nat.eq_of_beq_eq_true h;obtain rfl:b=Tryz.x90:=(Option.some.inj hf).symm;exact fun n d h=>⟨by kernel_rfl,by kernel_rfl⟩
 ·obtain rfl:=Nat.eq_of_beq_eq_true h;obtain rfl:b=Tryz.x91:=(Option.some.inj hf).symm;exact fun n d h=>⟨by kernel_rfl,by kernel_rfl⟩
 ·obtain rfl:=Nat.eq_of_beq_eq_true h;obtain rfl:b=Tryz.x92:=(Option.some.inj hf).symm;exact fun n d h=>⟨by kernel_rfl,by kernel_rfl⟩
 ·obtain rfl:=Nat.eq_of_beq_eq_true h;obtain rfl:b=Tryz.x93:=(Option.some.inj hf).symm;exact fun n d h=>⟨by kernel_rfl,by kernel_rfl⟩
 ·obtain rfl:=Nat.eq_of_beq_eq_true h;obtain rfl:b=Tryz.x94:=(Option.some.inj hf).symm;exact fun n d h=>⟨by kernel_rfl,by kernel_rfl⟩
 ·obtain rfl:=Nat.eq_of_beq_eq_true h;obtain rfl:b=Tryz.ab4:=(Option.some.inj hf).symm;exact fun n d h=>⟨by kernel_rfl,by kernel_rfl⟩
theorem CP: ∀ f b,bkD f=some b->qa kL f b:=by
 intro f b hb n d az h c h' e
 unfold bkD at hb
 cases hx:(Nat.beq f 5||Nat.beq f 163)with
 |true=>rw[hx]at hb;cases hb
 |false=>
  rw[hx,cond_false]at hb
  rw[Bool.or_eq_false_iff]at hx
  obtain⟨h5,_⟩:=hx
  cases hC:TP f with
  |false=>
   rw[rR hb (by unfold GQ;rw[hC,h5];rfl)]
   exact e
  |true=>
   obtain⟨q1,q2⟩:=aeZ hC hb n d h
   have hl:GQ f az=none:=by
    unfold GQ
    rw[hC,cond_true]
    unfold Yv
    rw[hC,cond_true]
    cases h1:nf [.mB] az with
    |true=>obtain rfl:=mF _ _ h1;rw[q1]at e;cases e
    |false=>
     rw[cond_false]
     cases h2:nf [.qT 0 []] az with
     |true=>obtain rfl:=mF _ _ h2;rw[q2]at e;cases e
     |false=>rfl
   rw[rR hb hl]
   exact e
end Go.Proofs.Vd

noncomputable section
namespace Go.Proofs.Vd
open Go.Ab Go.Ab.Lf Go.RowKit
set_option maxRecDepth 100000
abbrev rC(c:AV):xF:=Go.Ab.X.alJ 8 [.tmp 2] fun _ _=>(Go.Ab.X.jw (Go.Ab.X.cRg (Go.Ab.X.st 2 (Go.Ab.X.mC (Go.Ab.X.oC c)) Go.Ab.X.fi)) Go.Ab.X.jn)
theorem Yy(c0:AV)(f:FuncId):qa (fun _ _ _ _ h=>.ok c0 h) f (rC c0):=by
 intro n d az h c h' e
 have e:(lA (Nat.ble (len az) 8) (.ok c0 h) .bad:Go.Ab.Ro)=.ok c h':=e
 cases hb:Nat.ble (len az) 8 with
 |true=>rw[hb]at e;exact e
 |false=>rw[hb]at e;cases e
theorem Ky(cf:cg):rq (fun _ _ _=>.bad) cf:=fun _ _ _ _ _ _ _ _ _ _ e=>by cases e
theorem ajz{P Q:lV}{ti to:List Ty}{g:cb ti->Lf.T (cb to)}{f:FuncId}{cf:cg}
 (k: ∀ x y args H0 (E0:En) h az,(g x).val=some y->j5 P (cp ti x) e1=some (args,[],H0)->Vs E0 H0.next args az->SR E0 (lJ H0) h-> ∃ c g',(g' x).val=some y/\(kf P [] Q ti to g').Ok f (fun _ _ _ _ h=>.ok c h)/\ ∀ n d,cf n (d+1) f az h=.ok c h):(kf P [] Q ti to g).Ok f cf:=by
 intro pl q args H0 E0 h az e hP hv hS
 obtain⟨x,y,rfl,h1,rfl⟩:=vN e
 obtain⟨c,g',hg,k1,k2⟩:=k x y args H0 E0 h az h1 hP hv hS
 obtain⟨c',h',E1,ws,H1,⟨M,hM⟩,r⟩:=k1 _ (cp to y) _ _ E0 h az (vO hg) hP hv hS
 have hM:=hM M M (Nat.le_refl _) (Nat.le_refl _)
 cases hM
 refine⟨_,_,E1,ws,H1,⟨1,fun n d _ hd=>?_⟩,r⟩
 obtain⟨d,rfl⟩: ∃ d',d=d'+1:=⟨d - 1,by omega⟩
 exact k2 n d
theorem aaf{P Q:lV}{ti to:List Ty}{g:cb ti->Lf.T (cb to)}{f:FuncId}{c:AV}(e: ∀ x y,(g x).val=some y->(kO P [] Q (fun _=>none) (rC c) 3 (fun _ _ _=>.bad) (cp ti x)).val=some (cp to y)):(kf P [] Q ti to g).Ok f (fun _ _ _ _ h=>.ok c h):=
 iI (Ky _) (Yy c f) rfl (cu _) (m:=3) rfl fun x y h=>e x y h
abbrev PI(t:Ty):lV:=.cons (.im t) .nil
abbrev PO(t:Ty):lV:=.cons (.ow t) .nil
theorem GR{t:Ty}{f:FuncId}{c:AV}(e:(kO (PI t) [] (PO t) (fun _=>none) (rC c) 3 (fun _ _ _=>.bad) (cp [.ca t] ([],()))).val=some (cp [.ca t] ([],()))):(kf (PI t) [] (PO t) [.ca t] [.ca t] fun x=>.ck (decide (List.length x.1=0)) (.ok ([],()))).Ok f (fun _ _ _ _ h=>.ok c h):=by
 refine aaf ?_
 rintro⟨x,⟨⟩⟩ q h
 obtain⟨h1,h⟩:=Lf.T.cy h
 cases h
 obtain rfl:x=[]:=List.eq_nil_of_length_eq_zero (of_decide_eq_true h1)
 exact e
theorem mM{t:Ty}{f:FuncId}{b:xF}{B sz:Nat}(hb:bkD f=some b)(hx:Tryz.xs.get f=some b)(s7:Nat.ble b.ntmps 512=true)(hC:TP f=true)(hB:B*sz<=70368744177664/\B<=70368744177664)
 (e: ∀ x:List (den t),(kO (PI t) [] (PO t) (fun _=>none) b 3 (fun _ _ _=>.bad) (cp [.ca t] (x,()))).val=cz (!(Nat.beq (List.length x) 0)) (cz (roomy sz (0+List.length x)) (some (cp [.ca t] (app [] x,())))))
 (Ux:(kO (PI t) [] (PO t) (fun _=>none) (rC .mB) 3 (fun _ _ _=>.bad) (cp [.ca t] ([],()))).val=some (cp [.ca t] ([],())))
 (e2':(kO (PI t) [] (PO t) (fun _=>none) (rC .sK) 3 (fun _ _ _=>.bad) (cp [.ca t] ([],()))).val=some (cp [.ca t] ([],())))
 (e3':(kO (PI t) [] (PO t) (fun _=>none) (rC (.sc (.slice none 0 0))) 3 (fun _ _ _=>.bad) (cp [.ca t] ([],()))).val=some (cp [.ca t] ([],())))
 (s2: ∀ n d h,AG b.fb n (kL n d) [.sK] h=.ok .sK h)(s3: ∀ n d h,AG b.fb n (kL n d) [.sc (.slice none 0 0)] h=.ok (.sc (.slice none 0 0)) h)(s4: ∀ n d h id base,AG b.fb n (kL n d) [.jS id base 0 (size t)] h=.ok .sK h):
 (kf (PI t) [] (PO t) [.ca t] [.ca t] fun x=>.ck (decide (List.length x.1<=B)) (.ok (x.1,()))).Ok f kL:=by
 have lkE:GQ f [.mB]=some .mB:=by unfold GQ Yv;rw[hC];rfl
 have lkI:GQ f [.qT 0 []]=some .mB:=by unfold GQ Yv;rw[hC];rfl
 have nx: ∀ az,nf [.mB] az=false->nf [.qT 0 []] az=false->GQ f az=none:=by
  intro az h1 h2
  unfold GQ Yv
  rw[hC,h1,h2]
  rfl
 have hN:(kf (PI t) [] (PO t) [.ca t] [.ca t] fun x=>.ck (decide (List.length x.1<=B)&& !decide (List.length x.1=0)) (.ok (x.1,()))).Ok f kL:=by
  refine iI (Ky _) (CP f b hb) s7 (cu _) (m:=3) rfl ?_
  rintro⟨x,⟨⟩⟩ q h
  obtain⟨h1,h⟩:=Lf.T.cy h
  cases h
  simp only[Bool.and_eq_true,Bool.not_eq_true',decide_eq_true_eq,decide_eq_false_iff_not]at h1
  have c1:Nat.beq (List.length x) 0=false:=by
   cases hb:Nat.beq (List.length x) 0 with
   |false=>rfl
   |true=>exact(h1.2 (Nat.eq_of_beq_eq_true hb)).elim
  refine(e x).trans ?_
  rw[c1,show roomy sz (0+List.length x)=true from pH.2 ⟨by rw[Nat.zero_add];exact Nat.le_trans (Nat.mul_le_mul_right sz h1.1) hB.1,by have:=h1.1;omega⟩,cX]
  rfl
 intro pl q args H0 E0 h az e0 hP hv hS
 obtain⟨⟨x,⟨⟩⟩,⟨y,⟨⟩⟩,rfl,h1,rfl⟩:=vN e0
 obtain⟨h2,h3⟩:=Lf.T.cy h1
 have h3:y=x:=by
  injection h3 with h3
  exact(congrArg Prod.fst h3).symm
 subst h3
 by_cases hy:y=[]
 ·subst hy
  have hP2:some (([.c 1 (.ca t) []]:List Sv),([]:List Pl),(⟨2,.nil⟩:Hq))=some (args,[],H0):=(Mc Rv).symm.trans hP
  cases hP2
  obtain⟨a,rfl,ha⟩: ∃ a,az=[a]/\EV E0.G (.ca t) [] [a]:=by
   cases hv with
   |cons ha hr=>
    cases hr
    cases ha with
    |c k _=>exact⟨_,rfl,k⟩
  have fin: ∀ c0:AV,(kf (PI t) [] (PO t) [.ca t] [.ca t] fun x=>.ck (decide (List.length x.1=0)) (.ok ([],()))).Ok f (fun _ _ _ _ h=>.ok c0 h)->(∀ n d,kL n (d+1) f [a] h=.ok c0 h)-> ∃ c h' E1 ws H1,Ev (fun n d=>kL n d f [a] h) (.ok c h')/\Ox E0 E1 (lJ ⟨2,.nil⟩) H1 h h'/\SR E1 H1 h'/\j5 (PO t) (cp [.ca t] ([],())) Lf.e1=some (ws,[],H1)/\Vs E1 H1.next ws (c::([]:List Nat).map E0.A):=by
   intro c0 k hc
   obtain⟨c,h',E1,ws,H1,⟨M,hM⟩,r⟩:=k _ (cp [.ca t] ([],())) _ _ E0 h [a] (vO (P:=PI t) (ptr:=[]) (Q:=PO t) (ti:=[.ca t]) (to:=[.ca t]) (x:=(([]:List (den t)),())) (y:=(([]:List (den t)),())) rfl) hP hv hS
   have hM:=hM M M (Nat.le_refl _) (Nat.le_refl _)
   cases hM
   refine⟨c0,h,E1,ws,H1,⟨1,fun n d _ hd=>?_⟩,r⟩
   obtain⟨d,rfl⟩: ∃ d',d=d'+1:=⟨d - 1,by omega⟩
   exact hc n d
  obtain⟨a',q1,k⟩: ∃ a',[a]=[a']/\Lv E0.G t (EV E0.G t) [] a':=ha
  injection q1 with q1
  subst q1
  rcases k with⟨k,_⟩|⟨ls,k1,k2⟩
  ·cases a with
   |mB=>exact fin .mB (GR Ux) fun n d=>Ew lkE n (d+1)
   |sK=>exact fin .sK (GR e2') fun n d=>(rR hx (nx _ rfl rfl)).trans (s2 n d h)
   |sc v=>
    obtain rfl:v=.slice none 0 0:=by
     have k:isNil (.sc v)=true:=k
     unfold isNil at k
     split at k
     ·rename_i n c e
      injection e with e
      subst e
      have k:(Nat.beq n 0&&Nat.beq c 0)=true:=by assumption
      rw[Bool.and_eq_true]at k
      obtain rfl:=Nat.eq_of_beq_eq_true k.1
      obtain rfl:=Nat.eq_of_beq_eq_true k.2
      rfl
     ·cases k
    exact fin _ (GR e3') fun n d=>(rR hx (nx _ rfl rfl)).trans (s3 n d h)
   | _=>cases k
  ·have hl:ls=[]:=k1
   subst hl
   rcases k2 with k2|⟨id,base,row,k2,_,_⟩
   ·subst k2
    exact fin .mB (GR Ux) fun n d=>Ew lkI n (d+1)
   ·subst k2
    exact fin .sK (GR e2') fun n d=>(rR hx (nx _ rfl rfl)).trans (s4 n d h id base)
 ·have hn:((kf (PI t) [] (PO t) [.ca t] [.ca t] fun x=>.ck (decide (List.length x.1<=B)&& !decide (List.length x.1=0)) (.ok (x.1,()))).f (cp [.ca t] (y,()))).val=some (cp [.ca t] (y,())):=by
   refine vO (P:=PI t) (ptr:=[]) (Q:=PO t) (ti:=[.ca t]) (to:=[.ca t]) (x:=(y,())) (y:=(y,())) ?_
   show(bif (decide (List.length y<=B)&& !decide (List.length y=0))then some (y,())else none)=_
   rw[show decide (List.length y<=B)=true from h2,decide_eq_false (fun q=>hy (List.eq_nil_of_length_eq_zero q))]
   rfl
  exact hN _ _ args H0 E0 h az hn hP hv hS
theorem Yz:(mu cF).Ok 84 kL:=mM (b:=Tryz.x84) (B:=1099511627776) (sz:=48) (by kernel_rfl) (by kernel_rfl) rfl (by kernel_rfl) (by decide) (fun x=>by kernel_rfl) (by kernel_rfl) (by kernel_rfl) (by kernel_rfl) (fun n d h=>by kernel_rfl) (fun n d h=>by kernel_rfl) (fun n d h id base=>by kernel_rfl)
theorem YA:ZH.Ok 85 kL:=mM (b:=Tryz.x85) (B:=1099511627776) (sz:=8) (by kernel_rfl) (by kernel_rfl) rfl (by kernel_rfl) (by decide) (fun x=>by kernel_rfl) (by kernel_rfl) (by kernel_rfl) (by kernel_rfl) (fun n d h=>by kernel_rfl) (fun n d h=>by kernel_rfl) (fun n d h id base=>by kernel_rfl)
theorem YB:(mu cR).Ok 86 kL:=mM (b:=Tryz.x86) (B:=1099511627776) (sz:=40) (by kernel_rfl) (by kernel_rfl) rfl (by kernel_rfl) (by decide) (fun x=>by kernel_rfl) (by kernel_rfl) (by kernel_rfl) (by kernel_rfl) (fun n d h=>by kernel_rfl) (fun n d h=>by kernel_rfl) (fun n d h id base=>by kernel_rfl)
theorem YC:(mu cq).Ok 87 kL:=mM (b:=Tryz.x87) (B:=1099511627776) (sz:=16) (by kernel_rfl) (by kernel_rfl) rfl (by kernel_rfl) (by decide) (fun x=>by kernel_rfl) (by kernel_rfl) (by kernel_rfl) (by kernel_rfl) (fun n d h=>by kernel_rfl) (fun n d h=>by kernel_rfl) (fun n d h id base=>by kernel_rfl)
theorem YD:(mu cI).Ok 88 kL:=mM (b:=Tryz.x88) (B:=1099511627776) (sz:=40) (by kernel_rfl) (by kernel_rfl) rfl (by kernel_rfl) (by decide) (fun x=>by kernel_rfl) (by kernel_rfl) (by kernel_rfl) (by kernel_rfl) (fun n d h=>by kernel_rfl) (fun n d h=>by kernel_rfl) (fun n d h id base=>by kernel_rfl)
theorem YE:(mu cQ).Ok 90 kL:=mM (b:=Tryz.x90) (B:=1099511627776) (sz:=32) (by kernel_rfl) (by kernel_rfl) rfl (by kernel_rfl) (by decide) (fun x=>by kernel_rfl) (by kernel_rfl) (by kernel_rfl) (by kernel_rfl) (fun n d h=>by kernel_rfl) (fun n d h=>by kernel_rfl) (fun n d h id base=>by kernel_rfl)
theorem YF:(mu cJ).Ok 91 kL:=mM (b:=Tryz.x91) (B:=1099511627776) (sz:=48) (by kernel_rfl) (by kernel_rfl) rfl (by kernel_rfl) (by decide) (fun x=>by kernel_rfl) (by kernel_rfl) (by kernel_rfl) (by kernel_rfl) (fun n d h=>by kernel_rfl) (fun n d h=>by kernel_rfl) (fun n d h id base=>by kernel_rfl)
theorem YG:(mu cK).Ok 92 kL:=mM (b:=Tryz.x92) (B:=1099511627776) (sz:=48) (by kernel_rfl) (by kernel_rfl) rfl (by kernel_rfl) (by decide) (fun x=>by kernel_rfl) (by kernel_rfl) (by kernel_rfl) (by kernel_rfl) (fun n d h=>by kernel_rfl) (fun n d h=>by kernel_rfl) (fun n d h id base=>by kernel_rfl)
theorem YH:(mu cN).Ok 93 kL:=mM (b:=Tryz.x93) (B:=1099511627776) (sz:=48) (by kernel_rfl) (by kernel_rfl) rfl (by kernel_rfl) (by decide) (fun x=>by kernel_rfl) (by kernel_rfl) (by kernel_rfl) (by kernel_rfl) (fun n d h=>by kernel_rfl) (fun n d h=>by kernel_rfl) (fun n d h id base=>by kernel_rfl)
theorem YI:(mu u8).Ok 94 kL:=mM (b:=Tryz.x94) (B:=1099511627776) (sz:=1) (by kernel_rfl) (by kernel_rfl) rfl (by kernel_rfl) (by decide) (fun x=>by kernel_rfl) (by kernel_rfl) (by kernel_rfl) (by kernel_rfl) (fun n d h=>by kernel_rfl) (fun n d h=>by kernel_rfl) (fun n d h id base=>by kernel_rfl)
theorem Tl:(mu tI).Ok 144 kL:=mM (b:=Tryz.ab4) (B:=1099511627776) (sz:=64) (by kernel_rfl) (by kernel_rfl) rfl (by kernel_rfl) (by decide) (fun x=>by kernel_rfl) (by kernel_rfl) (by kernel_rfl) (by kernel_rfl) (fun n d h=>by kernel_rfl) (fun n d h=>by kernel_rfl) (fun n d h id base=>by kernel_rfl)
theorem YJ:(mu u64).Ok 59 kL:=mM (b:=Tryz.x59) (B:=1099511627776) (sz:=8) (by kernel_rfl) (by kernel_rfl) rfl (by kernel_rfl) (by decide) (fun x=>by kernel_rfl) (by kernel_rfl) (by kernel_rfl) (by kernel_rfl) (fun n d h=>by kernel_rfl) (fun n d h=>by kernel_rfl) (fun n d h id base=>by kernel_rfl)
end Go.Proofs.Vd

noncomputable section
namespace Go.Proofs.Vd
open Go.Ab Go.Ab.Lf
set_option maxRecDepth 100000
abbrev vg:List Ty:=[.ca cF,.ca cR,.ca i64,.ca cq,.ca cq,.ca cI,.ca cQ,i64,.ca cJ,.ca cK,.ca cN,.ca cQ,i64,i64]
abbrev qz:List Ty:=[.ca cF,.ca cR,.ca i64,.ca cq,.ca cq,.ca cI,.ca cQ,i64,.ca cJ,.ca cK,.ca cN]
abbrev uI:List Ty:=[.bool]
def YK:oF:=⟨0,kP Tryz.ab3.code 0,[2,24,25,26],(Ps [Kb,.im cQ,.n .i64,.n .i64]),[⟨.qS,[2],Ps [Kb]⟩,⟨.rt,[4],Ps [.bo]⟩]⟩
def ajA:List (Nat×iK):=[]
theorem YL{V:ByteArray->Bool}{cf:cg}(W:WorldC V cf):jd cf (ajA):=.nil
def GS:List Pl->Lf.T Rs:=YK.step (fun _=>none) (je (ajA) 3) 3
def ajB:kE:=BP YK (GS) vg qz uI
theorem YM{V:ByteArray->Bool}{cf:cg}(W:WorldC V cf):jU Rx.w (ajB) (fun n d=>ly (cf n d) n (.bl 0 (.lp YK.body))):=pg (W.toWorld.in (YL W) 3) (cu _) (m:=3) vg qz uI
def L57:Nat->Option kE:=tO [(0,ajB)]
abbrev Tn:List Ty:=[.ca cF,.ca cR,.ca i64,.ca cq,.ca cq,.ca cI,.ca cQ,i64,.ca cJ,.ca cK,.ca cN,i64]
abbrev GU:List Ty:=[.bool]
def e57:List (Nat×iK):=[(29,s10)]
theorem ae0{V:ByteArray->Bool}{cf:cg}(W:WorldC V cf):jd cf (e57):=(.cons (A9 W) .nil)
def t57(x:cb Tn):Lf.T (List Pl):=kO (Ps [pM,.n .i64]) [] (Ps [.bo]) L57 Tryz.ab3 3 (je (e57) 3) (cp Tn x)
def k57(x:cb Tn):Bool:=nA GU (t57 x)
def m57(x:cb Tn):cb GU:=jP GU (t57 x)
def aoN:iK:=kf (Ps [pM,.n .i64]) [] (Ps [.bo]) Tn GU fun x=>.ck (k57 x) (.ok (m57 x))
theorem YN{V:ByteArray->Bool}{cf:cg}(W:WorldC V cf):(aoN).Ok 138 cf:=
 j4 (W.toWorld.in (ae0 W) 3) (W.toWorld.st 138 _ rfl) rfl (ku.nh (.cons (b:=YK.body) (by kernel_rfl) (YM W) .nil)) (m:=3) rfl (fun _=>rfl) (fun _=>rfl)
theorem aoO(y:cb tM)(k:Int)(a:cb vg)(ha:a=(y.1,y.2.1,y.2.2.1,y.2.2.2.1,y.2.2.2.2.1,y.2.2.2.2.2.1,y.2.2.2.2.2.2.1,y.2.2.2.2.2.2.2.1,y.2.2.2.2.2.2.2.2.1,y.2.2.2.2.2.2.2.2.2.1,y.2.2.2.2.2.2.2.2.2.2.1,y.2.2.2.2.2.2.1,(y.2.2.2.2.2.2.1.length:Int),0,()))(z:cb qz)(hz:z=oG GS vg qz a)(S:den cF)(hS:S=iB z.1 (jj z.2.1 z.2.2.1 z.2.2.2.2.2.2.2.1))(o:Bool)(ho:o=jh z.1 (jj z.2.1 z.2.2.1 z.2.2.2.2.2.2.2.1)):(t57 (y.1,y.2.1,y.2.2.1,y.2.2.2.1,y.2.2.2.2.1,y.2.2.2.2.2.1,y.2.2.2.2.2.2.1,y.2.2.2.2.2.2.2.1,y.2.2.2.2.2.2.2.2.1,y.2.2.2.2.2.2.2.2.2.1,y.2.2.2.2.2.2.2.2.2.2.1,k,())).val=
 cz (DN GS vg qz uI a) (bif BO GS vg a then
  bif decide (z.2.2.2.2.2.2.2.1= -1)then some (cp GU (true,()))else
  cz (gT z.1&&(decide (z.2.2.2.2.2.2.2.1<9223372036854775808)&&decide (z.2.1.length<=1099511627776))) (some (cp GU (bif o then(bif decide ((S.1.length:Int)=0)then decide ((S.2.length:Int)=0)else false)else false,())))
  else some (cp GU ((oG GS vg uI a).1,()))):=by
 subst hS;subst ho;subst hz;subst ha
 kernel_rfl
theorem ae1(y:cb tM):mm GS (cp vg (y.1,y.2.1,y.2.2.1,y.2.2.2.1,y.2.2.2.2.1,y.2.2.2.2.2.1,y.2.2.2.2.2.2.1,y.2.2.2.2.2.2.2.1,y.2.2.2.2.2.2.2.2.1,y.2.2.2.2.2.2.2.2.2.1,y.2.2.2.2.2.2.2.2.2.2.1,[],0,0,())) 0 (cp qz (y.1,y.2.1,y.2.2.1,y.2.2.2.1,y.2.2.2.2.1,y.2.2.2.2.2.1,y.2.2.2.2.2.2.1,y.2.2.2.2.2.2.2.1,y.2.2.2.2.2.2.2.2.1,y.2.2.2.2.2.2.2.2.2.1,y.2.2.2.2.2.2.2.2.2.2.1,())):=by
 refine .last ?_
 kernel_rfl
theorem ajC{x:cb ZI}(h:Q3 x=true):(t57 x).val=some (cp GU (mNm x,())):=by
 obtain⟨t,im,fs,tb,me,gl,ex,st,el,co,da,k,⟨⟩⟩:=x
 unfold Q3 at h
 simp only[Bool.and_eq_true]at h
 obtain⟨⟨⟨_,hg,_⟩,hx⟩,hT⟩:=h
 have hx:ex=[]:=List.eq_nil_of_length_eq_zero (of_decide_eq_true hx)
 subst hx
 have v:=Ic (t0:=qz) (t1:=uI) (ae1 (t,im,fs,tb,me,gl,[],st,el,co,da,()))
 refine Eq.trans (aoO (t,im,fs,tb,me,gl,[],st,el,co,da,()) k _ rfl (t,im,fs,tb,me,gl,[],st,el,co,da,()) v.2.2.symm _ rfl _ rfl) ?_
 have a1:DN GS vg qz uI (t,im,fs,tb,me,gl,[],st,el,co,da,[],((List.length ([]:List (den cQ)):Nat):Int),0,())=true:=v.1
 have a2:BO GS vg (t,im,fs,tb,me,gl,[],st,el,co,da,[],((List.length ([]:List (den cQ)):Nat):Int),0,())=true:=v.2.1
 have hg2:(decide (st<9223372036854775808)&&decide (List.length im<=1099511627776))=true:=by rw[Bool.and_eq_true];exact hg
 dsimp only
 rw[a1,a2,hT,hg2]
 have e:mNm (t,im,fs,tb,me,gl,[],st,el,co,da,k,())=ad7 t im fs st:=rfl
 rw[e]
 unfold ad7
 cases decide (st= -1)with
 |true=>rfl
 |false=>rfl
theorem YO{V:ByteArray->Bool}(W:WorldC V kL):s57.Ok 138 kL:=by
 intro pl q args H0 E0 h az e hP hv hS
 obtain⟨x,y,rfl,h1,rfl⟩:=vN e
 obtain⟨h2,h3⟩:=Lf.T.cy h1
 injection h3 with h3
 have s:=mT (ajC h2)
 refine YN W _ _ args H0 E0 h az (vO (g:=fun x=>.ck (k57 x) (.ok (m57 x))) (y:=y) ?_) hP hv hS
 show(bif k57 x then some (m57 x)else none)=some y
 rw[show k57 x=true from s.1,show m57 x=_ from s.2,<-h3]
 rfl
theorem ae2:s5a.Ok 5 kL:=by
 unfold s5a
 refine ajz ?_
 rintro⟨⟩ y args H0 E0 h az h1 hP hv hS
 have hP2:some (([]:List Sv),([]:List Pl),Lf.e1)=some (args,[],H0):=hP
 cases hP2
 cases hv
 refine⟨.bool true,fun _=>.ok (true,()),h1,aaf ?_,fun n d=>Ew rfl n (d+1)⟩
 rintro⟨⟩ y' h'
 cases h'
 kernel_rfl
theorem YP(V:ByteArray->Bool):(s66 V).Ok 163 kL:=by
 unfold s66
 intro pl q args H0 E0 h az e
 obtain⟨x,y,rfl,h1,rfl⟩:=vN e
 obtain⟨h2,_⟩:=Lf.T.cy h1
 unfold CC at h2
 rw[Bool.and_eq_true]at h2
 have h3:false=true:=h2.2
 cases h3
theorem ae3(V:ByteArray->Bool):WI V kL:=
 have W:WorldC V kL:=⟨⟨⟨CP⟩,YP V⟩,YA⟩
 ⟨⟨⟨W,YO W⟩,Yz,YB,YC,YD,YE,YF,YG,YH,YI,Tl⟩,ae2,YJ⟩
end Go.Proofs.Vd

noncomputable section
namespace Go.Proofs.Vd
open Go.Ab Go.Ab.Lf Go.ChangeShapes Go.WideShapes Go.ChangeAt Go.RowKit
set_option maxRecDepth 100000
abbrev N0:Nat->Option Rw:=fun _=>none
def otF(P:Go.Program)(ot:Ty->Nat->Bool):List Field->Nat->Ty->Bool
 | [],_,_=>false
 |f::fs,off,T=>match fs with
  | []=>Nat.beq f.offset off&&(Nat.beq (P.cellsOf f.type) (size T)&&ot T f.type)
  | _::_=>match T with
   | .pair A B=>(Nat.beq f.offset off&&(Nat.beq (P.cellsOf f.type) (size A)&&ot A f.type))&&otF P ot fs (off+size A) B
   | _=>false
def arF(P:Go.Program)(e k:Nat):List Field:=(List.range k).map fun i=>{name:= "",type:=e,offset:=i*P.cellsOf e,embedded:=false,tag:= "",pkgPath:= "",byteOffset:=0}
def otB(P:Go.Program):Nat->Ty->Nat->Bool
 |0,_,_=>false
 |n+1,T,t=>match P.underlying t with
  |some (.int k)=>match T with
   | .int k'=>decide (k=k')
   | _=>false
  |some .bool=>match T with
   | .bool=>true
   | _=>false
  |some .string=>match T with
   | .str=>true
   | _=>false
  |some (.slice e)=>match T with
   | .ca T'=>Nat.beq (P.cellsOf e) (size T')&&(Nat.blt 0 (size T')&&otB P n T' e)
   | _=>false
  |some (.struct fs)=>Nat.beq (P.cellsOf t) (size T)&&otF P (otB P n) fs.toList 0 T
  |some (.array k e)=>Nat.beq (P.cellsOf t) (size T)&&otF P (otB P n) (arF P e k) 0 T
  | _=>false
def Bd:(T:Ty)->den T->Prop
 | .int k,x=>(Lit.int k x).wf=true
 | .bool,_=>True
 | .str,x=>ByteArray.size x<=maxLen
 | .ca t,x=>List.length x<=maxLen/\ ∀ e,e∈x->Bd t e
 | .pair a b,x=>Bd a x.1/\Bd b x.2
def BX:(T:Ty)->den T->Nat
 | .int _,_=>1
 | .bool,_=>1
 | .str,x=>ByteArray.size x+1
 | .ca t,x=>1+List.foldr (fun e n=>BX t e+n) 0 x
 | .pair a b,x=>BX a x.1+BX b x.2
structure MT{H:Type}(bk:DataW H->Nat)(G3:List (DataW H)->Nat):Prop where
 one: ∀ d,1<=bk d
 nil:G3 []=0
 cons: ∀ d l,G3 (d::l)=bk d+G3 l
 str: ∀ b:List UInt8,b.length+1<=bk (.lit (.string b))
 ca: ∀ l m,G3 l+1<=bk (.slice l m)
 agg: ∀ l,G3 l<=bk (.agg l)
theorem MT.app{H:Type}{bk:DataW H->Nat}{G3:List (DataW H)->Nat}(K:MT bk G3)(l m:List (DataW H)):G3 (l++m)=G3 l+G3 m:=by
 induction l with
 |nil=>rw[List.nil_append,K.nil];omega
 |cons a l ih=>rw[List.cons_append,K.cons,K.cons,ih];omega
abbrev gIo[Io](W:Go.World):G:=gE fun b=>b<W.heap.size
section
variable [Io]{H:Type}{enc:TypeId×Value->H}{P:Go.Program}{W:Go.World}{sp:Nat->Bool}{held:Bool}{bk:DataW H->Nat}{G3:List (DataW H)->Nat}
omit [Io] in
theorem To{b o:Nat}{v:Value}(h:W.cell? ⟨b,o,none⟩=some v):b<W.heap.size:=by
 by_cases hb:b<W.heap.size
 ·exact hb
 ·exfalso
  have e:W.heap[b]? =none:=Array.getElem?_eq_none (by omega)
  unfold Go.World.cell? at h
  dsimp only at h
  rw[e]at h
  cases h
def Op(W:Go.World)(T:Ty)(cs:List Value)(n:Nat):Prop:= ∃ (x:den T) (bs:List AV),EV N0 T x bs/\cZ (gIo W) W bs cs/\Bd T x/\BX T x<=n
theorem ui(K:MT bk G3){ot:Ty->Nat->Bool}{n:Nat}(IH: ∀ (T:Ty) (t:Nat) (cs:List Value) (y:DataW H×List MemPlace),ot T t=true->DataW.trod enc P W 0 sp held n t cs=some y->Op W T cs (bk y.1)): ∀ (fs:List Field) (ys:List (DataW H×List MemPlace)) (off:Nat) (T:Ty) (cs:List Value),otF P ot fs off T=true->
 fs.length=ys.length->(∀ (i:Nat) f,fs[i]? =some f->DataW.trod enc P W 0 sp held n f.type ((cs.drop f.offset).take (P.cellsOf f.type))=ys[i]?)->Op W T ((cs.drop off).take (size T)) (G3 (ys.map (·.1)))
 | [],_,_,_,_,h,_,_=>by cases h
 | _::_,[],_,_,_,_,hl,_=>by simp at hl
 | [f],y::ys,off,T,cs,h,hl,hf=>by
  have h:(Nat.beq f.offset off&&(Nat.beq (P.cellsOf f.type) (size T)&&ot T f.type))=true:=h
  rw[Bool.and_eq_true,Bool.and_eq_true]at h
  obtain⟨h1,h2,h3⟩:=h
  have hy:=hf 0 f rfl
  obtain⟨x,bs,k1,k2,k3,k4⟩:=IH T f.type _ y h3 hy
  rw[Nat.eq_of_beq_eq_true h1,Nat.eq_of_beq_eq_true h2]at k2
  refine⟨x,bs,k1,k2,k3,?_⟩
  rw[List.map_cons,K.cons]
  omega
 |f::g::fs,y::ys,off,.pair A B,cs,h,hl,hf=>by
  have h:((Nat.beq f.offset off&&(Nat.beq (P.cellsOf f.type) (size A)&&ot A f.type))&&otF P ot (g::fs) (off+size A) B)=true:=h
  rw[Bool.and_eq_true,Bool.and_eq_true,Bool.and_eq_true]at h
  obtain⟨⟨h1,h2,h3⟩,h4⟩:=h
  have hy:=hf 0 f rfl
  have a:=IH A f.type _ y h3 hy
  rw[Nat.eq_of_beq_eq_true h1,Nat.eq_of_beq_eq_true h2]at a
  obtain⟨x1,as1,e1,v1,b1,c1⟩:=a
  obtain⟨x2,as2,e2,v2,b2,c2⟩:=ui K IH (g::fs) ys (off+size A) B cs h4 (by simpa using hl) fun i f hm=>hf (i+1) f hm
  refine⟨(x1,x2),as1++as2,⟨as1,as2,rfl,e1,e2⟩,?_,⟨b1,b2⟩,?_⟩
  ·have e:(cs.drop off).take (size (.pair A B))=(cs.drop off).take (size A)++(cs.drop (off+size A)).take (size B):=by
    show(cs.drop off).take (size A+size B)=_
    rw[List.take_add,List.drop_drop]
   rw[e]
   exact v1.append v2
  ·show BX A x1+BX B x2<=_
   rw[List.map_cons,K.cons]
   omega
 | _::_::_,_,_,.int _,_,h,_,_=>by cases h
 | _::_::_,_,_,.bool,_,h,_,_=>by cases h
 | _::_::_,_,_,.str,_,h,_,_=>by cases h
 | _::_::_,_,_,.ca _,_,h,_,_=>by cases h
omit [Io] in
theorem Tp{α β:Type}{f:α->Option β}: ∀ {l:List α} {r:List β},l.mapM f=some r->r.length=l.length:=by
 intro l
 induction l with
 |nil=>intro r h;simp at h;subst h;rfl
 |cons a l ih=>
  intro r h
  rw[List.mapM_cons]at h
  simp only[Option.bind_eq_bind,Option.bind_eq_some_iff,Option.pure_def,Option.some.injEq]at h
  obtain⟨b,_,rs,h2,rfl⟩:=h
  simp[ih h2]
omit [Io] in
theorem GV{a:Addr}{k:Nat}{cs:List Value}(h:W.cells? 0 a k=some cs):cs.length=k/\ ∀ j,j<k->W.cell? (a.add j)=cs[j]? :=by
 unfold World.cells? at h
 rw[if_pos (Nat.zero_le _)]at h
 exact⟨by simpa using Tp h,fun j hj=>mapM_some_get h j j (by simp[hj])⟩
theorem GW(K:MT bk G3){T:Ty}{b o n:Nat}{e:Nat}(IH: ∀ (cs:List Value) (y:DataW H×List MemPlace),DataW.trod enc P W 0 sp held n e cs=some y->Op W T cs (bk y.1))(hs:P.cellsOf e=size T):
 ∀ (len:Nat) (ys:List (DataW H×List MemPlace)),ys.length=len->(∀ i,i<len->(W.cells? 0 ⟨b,o+i*size T,none⟩ (P.cellsOf e)).bind (DataW.trod enc P W 0 sp held n e)=ys[i]?)->
 ∃ (xs:List (den T)) (ls:List AV) (vs:List Value),xs.length=len/\nW (EV N0 T) xs ls/\cZ (gIo W) W ls vs/\vs.length=len*size T/\jt W b o vs/\(∀ x,x∈xs->Bd T x)/\List.foldr (fun e n=>BX T e+n) 0 xs<=G3 (ys.map (·.1))
 |0,ys,hy,_=>by
  have:ys=[]:=List.eq_nil_of_length_eq_zero hy
  subst this
  exact⟨[],[],[],rfl,rfl,by simp only[cZ],by simp,fun j v h=>by simp at h,fun x h=>(by cases h),Nat.zero_le _⟩
 |len+1,ys,hy,h=>by
  obtain⟨ys',y,e⟩: ∃ ys' y,ys=ys'++[y]:=by
   have:ys≠[]:=fun e=>by rw[e]at hy;simp at hy
   exact⟨ys.dropLast,ys.getLast this,(List.dropLast_concat_getLast this).symm⟩
  subst e
  have hl:ys'.length=len:=by simpa using hy
  obtain⟨xs,ls,vs,h1,h2,h3,h4,h5,h6,h7⟩:=GW K IH hs len ys' hl fun i hi=>by
   rw[h i (by omega),List.getElem?_append_left (by omega)]
  have hy:=h len (by omega)
  rw[List.getElem?_append_right (by omega),hl,Nat.sub_self]at hy
  have hy:_=some y:=hy
  rw[Option.bind_eq_some_iff]at hy
  obtain⟨cs,hc,hy⟩:=hy
  obtain⟨x,bs,k1,k2,k3,k4⟩:=IH cs y hy
  obtain⟨c1,c2⟩:=GV hc
  refine⟨xs++[x],ls++bs,vs++cs,by simp[h1],h2.app ⟨bs,[],by simp,k1,rfl⟩,h3.append k2,by rw[List.length_append,h4,c1,hs,Nat.succ_mul],fun j v hj=>?_,fun z hz=>?_,?_⟩
  ·rw[List.getElem?_append]at hj
   by_cases q:j<vs.length
   ·rw[if_pos q]at hj
    exact h5 j v hj
   ·rw[if_neg q]at hj
    have kC:j - vs.length<cs.length:=(List.getElem?_eq_some_iff.1 hj).1
    have:=c2 (j - vs.length) (by omega)
    rw[hj,add_plain]at this
    rw[<-this]
    congr 2
    omega
  ·rcases List.mem_append.1 hz with hz|hz
   ·exact h6 z hz
   ·have:z=x:=by simpa using hz
    rw[this]
    exact k3
  ·have key: ∀ (l:List (den T)),List.foldr (fun e n=>BX T e+n) 0 (l++[x])=List.foldr (fun e n=>BX T e+n) 0 l+BX T x:=by
    intro l
    induction l with
    |nil=>simp
    |cons a l ih=>simp only[List.cons_append,List.foldr_cons,ih];omega
   rw[key,List.map_append,K.app,List.map_cons,List.map_nil,K.cons,K.nil]
   omega
theorem xf(K:MT bk G3): ∀ (n:Nat) (fuel:Nat) (T:Ty) (t:Nat) (cs:List Value) (y:DataW H×List MemPlace),otB P n T t=true->DataW.trod enc P W 0 sp held fuel t cs=some y->Op W T cs (bk y.1)
 |0,_,_,_,_,_,h,_=>by cases h
 |n+1,fuel,T,t,cs,y,h,hy=>by
  unfold otB at h
  split at h
  ·rename_i k hu
   split at h
   ·rename_i k'
    have h:=of_decide_eq_true h
    subst h
    obtain⟨z,e1,_,e3⟩:=DataW.trod_int hu hy
    subst e1
    exact⟨z,[.int k z],rfl,by simp only[cZ,VR];exact⟨_,_,rfl,rfl,rfl⟩,e3,K.one _⟩
   ·cases h
  ·rename_i hu
   split at h
   ·obtain⟨b,e1,_⟩:=DataW.trod_bool hu hy
    subst e1
    exact⟨b,[.bool b],rfl,by simp only[cZ,VR];exact⟨_,_,rfl,rfl,rfl⟩,trivial,K.one _⟩
   ·cases h
  ·rename_i hu
   split at h
   ·obtain⟨s,e1,e2,e3⟩:=DataW.trod_string hu hy
    subst e1
    subst e2
    exact⟨s,[.sc (.string s)],rfl,by simp only[cZ,VR];exact⟨_,_,rfl,⟨rfl,rfl⟩,rfl⟩,e3,K.str _⟩
   ·cases h
  ·rename_i e hu
   split at h
   ·rename_i T'
    rw[Bool.and_eq_true,Bool.and_eq_true]at h
    obtain⟨h1,h2,h3⟩:=h
    have h1:=Nat.eq_of_beq_eq_true h1
    have h2:0<size T':=by simpa using h2
    rcases DataW.trod_slice hu hy with⟨e1,_⟩|⟨a,len,cap,elems,rest,m,rfl,e1,e2,_,Zm,hcm,hel,hx,_,_⟩
    ·subst e1
     exact⟨[],[.qT 0 []],⟨_,rfl,.inr ⟨[],rfl,.inl rfl⟩⟩,by simp only[cZ,VR];exact⟨_,_,rfl,⟨none,0,rfl,Nat.le_refl _,.inl ⟨trivial,trivial⟩⟩,rfl⟩,⟨Nat.zero_le _,fun _ h=>by cases h⟩,K.one _⟩
    ·subst e1
     by_cases h0:len=0
     ·subst h0
      exact⟨[],[.qT 0 []],⟨_,rfl,.inr ⟨[],rfl,.inl rfl⟩⟩,by simp only[cZ,VR];exact⟨_,_,rfl,⟨some a,cap,rfl,Nat.zero_le _,.inl ⟨trivial,trivial⟩⟩,rfl⟩,⟨Nat.zero_le _,fun _ h=>by cases h⟩,K.one _⟩
     ·subst e2
      have hx': ∀ i,i<len-> ∃ y,(W.cells? 0 (a.add (i*P.cellsOf e)) (P.cellsOf e)).bind (DataW.trod enc P W 0 sp held m e)=some y:=fun i hi=>by
       rw[hx i hi,List.getElem?_eq_getElem (by omega)]
       exact⟨_,rfl⟩
      obtain⟨b,o,spot⟩:=a
      have hsp:spot=none:=by
       obtain⟨y,hy⟩:=hx' 0 (by omega)
       rw[Option.bind_eq_some_iff]at hy
       obtain⟨cs,hc,_⟩:=hy
       obtain⟨c1,c2⟩:=GV hc
       have q:=c2 0 (by omega)
       rw[List.getElem?_eq_getElem (by omega)]at q
       have:=World.cell?_spot q
       simpa[Addr.add]using this
      subst hsp
      obtain⟨xs,ls,vs,k1,k2,k3,k4,k5,k6,k7⟩:=GW K (T:=T') (b:=b) (o:=o) (fun cs y=>xf K n m T' e cs y h3) h1 len elems hel fun i hi=>by
       have:=hx i hi
       rw[add_plain,h1]at this
       rw[h1]
       exact this
      refine⟨xs,[.qT xs.length ls],⟨_,rfl,.inr ⟨ls,k2,.inl rfl⟩⟩,?_,⟨by rw[k1];omega,k6⟩,Nat.le_trans (by show 1+_<=_;rw[Nat.add_comm];exact Nat.succ_le_succ k7) (K.ca _ _)⟩
      simp only[cZ,VR]
      refine⟨_,_,rfl,⟨some ⟨b,o,none⟩,cap,by rw[k1],by rw[k1];exact Zm,.inr ⟨b,o,vs,rfl,?_,k5,k3⟩⟩,rfl⟩
      have hv0:0<vs.length:=by rw[k4];exact Nat.mul_pos (by omega) h2
      exact To (k5 0 _ (List.getElem?_eq_getElem hv0))
   ·cases h
  ·rename_i fs hu
   rw[Bool.and_eq_true]at h
   obtain⟨h1,h2⟩:=h
   obtain⟨xs,m,rfl,e2,hl,hxl,hf⟩:=DataW.trod_struct hu hy
   subst e2
   have:=ui K (n:=m) (fun T t cs y=>xf K n m T t cs y) fs.toList xs 0 T cs h2 (by simp[hxl]) fun i f hm=>hf i f (by simpa using hm)
   rw[List.drop_zero]at this
   have e:cs.take (size T)=cs:=by
    rw[<-Nat.eq_of_beq_eq_true h1,<-hl,List.take_length]
   rw[e]at this
   obtain⟨x,bs,k1,k2,k3,k4⟩:=this
   exact⟨x,bs,k1,k2,k3,Nat.le_trans k4 (K.agg _)⟩
  ·rename_i k e hu
   rw[Bool.and_eq_true]at h
   obtain⟨h1,h2⟩:=h
   obtain⟨xs,m,rfl,e2,hl,hxl,hf⟩:=DataW.trod_array hu hy
   subst e2
   have:=ui K (n:=m) (fun T t cs y=>xf K n m T t cs y) (arF P e k) xs 0 T cs h2 (by rw[hxl];simp[arF]) fun i f hm=>by
    have hm:((List.range k).map fun i=>({name:= "",type:=e,offset:=i*P.cellsOf e,embedded:=false,tag:= "",pkgPath:= "",byteOffset:=0}:Field))[i]? =some f:=hm
    rw[List.getElem?_map,Option.map_eq_some_iff]at hm
    obtain⟨j,hj,rfl⟩:=hm
    obtain⟨hi,hj⟩:=List.getElem?_eq_some_iff.1 hj
    rw[List.getElem_range]at hj
    subst hj
    exact hf i (by simpa using hi)
   rw[List.drop_zero]at this
   have e:cs.take (size T)=cs:=by
    rw[<-Nat.eq_of_beq_eq_true h1,<-hl,List.take_length]
   rw[e]at this
   obtain⟨x,bs,k1,k2,k3,k4⟩:=this
   exact⟨x,bs,k1,k2,k3,Nat.le_trans k4 (K.agg _)⟩
  ·cases h
end
end Go.Proofs.Vd

noncomputable section
namespace Go.Proofs.Vd
open Go.Ab Go.Ab.Lf Go.ChangeShapes Go.WideShapes Go.ChangeAt Go.RowKit
set_option maxRecDepth 100000
abbrev Ts:Ty:=.pair u8 (.pair u8 (.pair u8 (.pair u8 (.pair u8 (.pair u8 (.pair u8 (.pair u8 (.pair u8 (.pair u8 (.pair u8 (.pair u8 (.pair u8 (.pair u8 (.pair u8 (u8)))))))))))))))
theorem ajE{s:iK}(ok:s.Ok 4 kL)(aoR:s.ptr=[])(hq:s.Q=Ps [.bo]){pl:List Pl}(hf:(s.f pl).val=some (cp [.bool] (true,()))){w:Sv}{op A B Lo Hi ad:Int}{L:List Int}{a0 a1 a2 a3 a4 a5 a6 a7 a8 a9 aa ab ac ae af ag:Int}(hP:j5 s.P pl Lf.e1=some ([.ag [w,.c 0 i64 A,.c 0 i64 B,.c 0 u64 Lo,.c 0 u64 Hi,.c 1 (.ca i64) L],.c 0 u32 ad,.ag [.c 0 (.int .u8) a0,.c 0 (.int .u8) a1,.c 0 (.int .u8) a2,.c 0 (.int .u8) a3,.c 0 (.int .u8) a4,.c 0 (.int .u8) a5,.c 0 (.int .u8) a6,.c 0 (.int .u8) a7,.c 0 (.int .u8) a8,.c 0 (.int .u8) a9,.c 0 (.int .u8) aa,.c 0 (.int .u8) ab,.c 0 (.int .u8) ac,.c 0 (.int .u8) ae,.c 0 (.int .u8) af,.c 0 (.int .u8) ag]],[],⟨2,.nil⟩))(hw: ∀ E N,V E N w (.int .i64 op)){l:AV}(hs:EV N0 (.ca i64) L [l]): ∃ n,isT (kL n n 4 [.agg [.int .i64 op,.int .i64 A,.int .i64 B,.int .u64 Lo,.int .u64 Hi,l],.int .u32 ad,.agg [.int .u8 a0,.int .u8 a1,.int .u8 a2,.int .u8 a3,.int .u8 a4,.int .u8 a5,.int .u8 a6,.int .u8 a7,.int .u8 a8,.int .u8 a9,.int .u8 aa,.int .u8 ab,.int .u8 ac,.int .u8 ae,.int .u8 af,.int .u8 ag]] (kb 0))=true:=by
 obtain⟨E0,hE⟩: ∃ E0:En,E0=⟨fun _=>⟨.any,0⟩,fun r=>[l].getD (r - 1) .any,N0,fun _=>.any⟩:=⟨_,rfl⟩
 have hS:SR E0 (lJ ⟨2,.nil⟩) (kb 0):=by
  have et:lJ ⟨2,.nil⟩=(⟨2,.nil⟩:Hq):=rfl
  rw[et]
  have no: ∀ r R,¬ (Tr.nil:Tr Lf.Row).get r=some R:=fun r R h=>by
   have h:(none:Option Lf.Row)=some R:=h
   cases h
  refine⟨?_,?_,?_,?_⟩
  ·intro r R h;exact(no r R h).elim
  ·rintro r r' id ⟨R,h,_⟩;exact(no r R h).elim
  ·rintro r id ⟨R,h,_⟩;exact(no r R h).elim
  ·intro id row h
   subst hE
   cases h
 have nm: ∀ (k:IntKind) (x:Int),V E0 2 (.c 0 (.int k) x) (.int k x):=fun k x=>.c rfl fun k=>(k rfl).elim
 have hv:Vs E0 2 [.ag [w,.c 0 i64 A,.c 0 i64 B,.c 0 u64 Lo,.c 0 u64 Hi,.c 1 (.ca i64) L],.c 0 u32 ad,.ag [.c 0 (.int .u8) a0,.c 0 (.int .u8) a1,.c 0 (.int .u8) a2,.c 0 (.int .u8) a3,.c 0 (.int .u8) a4,.c 0 (.int .u8) a5,.c 0 (.int .u8) a6,.c 0 (.int .u8) a7,.c 0 (.int .u8) a8,.c 0 (.int .u8) a9,.c 0 (.int .u8) aa,.c 0 (.int .u8) ab,.c 0 (.int .u8) ac,.c 0 (.int .u8) ae,.c 0 (.int .u8) af,.c 0 (.int .u8) ag]] [.agg [.int .i64 op,.int .i64 A,.int .i64 B,.int .u64 Lo,.int .u64 Hi,l],.int .u32 ad,.agg [.int .u8 a0,.int .u8 a1,.int .u8 a2,.int .u8 a3,.int .u8 a4,.int .u8 a5,.int .u8 a6,.int .u8 a7,.int .u8 a8,.int .u8 a9,.int .u8 aa,.int .u8 ab,.int .u8 ac,.int .u8 ae,.int .u8 af,.int .u8 ag]]:=by
  refine .cons (.ag (.cons (hw _ _) (.cons (nm _ _) (.cons (nm _ _) (.cons (nm _ _) (.cons (nm _ _) (.cons ?_ .nil))))))) (.cons (nm _ _) (.cons (.ag (.cons (nm _ _) (.cons (nm _ _) (.cons (nm _ _) (.cons (nm _ _) (.cons (nm _ _) (.cons (nm _ _) (.cons (nm _ _) (.cons (nm _ _) (.cons (nm _ _) (.cons (nm _ _) (.cons (nm _ _) (.cons (nm _ _) (.cons (nm _ _) (.cons (nm _ _) (.cons (nm _ _) (.cons (nm _ _) .nil))))))))))))))))) .nil))
  subst hE
  exact .c hs fun _=>⟨by decide,rfl⟩
 obtain⟨c,h',E1,ws,H1,⟨M,hM⟩,_,_,hQ,hV⟩:=ok _ _ _ _ E0 (kb 0) _ hf hP hv hS
 have hM:kL M M 4 [.agg [.int .i64 op,.int .i64 A,.int .i64 B,.int .u64 Lo,.int .u64 Hi,l],.int .u32 ad,.agg [.int .u8 a0,.int .u8 a1,.int .u8 a2,.int .u8 a3,.int .u8 a4,.int .u8 a5,.int .u8 a6,.int .u8 a7,.int .u8 a8,.int .u8 a9,.int .u8 aa,.int .u8 ab,.int .u8 ac,.int .u8 ae,.int .u8 af,.int .u8 ag]] (kb 0)=.ok c h':=hM M M (Nat.le_refl _) (Nat.le_refl _)
 rw[hq]at hQ
 rw[aoR]at hV
 have hQ:some (([.c 0 .bool true]:List Sv),([]:List Pl),Lf.e1)=some (ws,[],H1):=hQ
 cases hQ
 cases hV with
 |cons k _=>
  cases k with
  |c k _=>
   have k:[c]=[.bool true]:=k
   injection k with k
   subst k
   exact⟨M,by rw[hM];rfl⟩
def g4l(x:cb Ej):Bool:= @decide (0<=x.2.2.1/\0<=x.2.2.2.2.2.1/\x.2.2.2.2.2.1<4294967296/\ByV x.2.2.2.2.2.2) (Classical.propDecidable _)
def s4l(op:Int):iK:=kf (Ps [.ag (Ps [.li .i64 op,.n .i64,.n .i64,.n .u64,.n .u64,.im i64]),.n .u32,.ag Bj]) [] (Ps [.bo]) Ej [.bool] fun x=>.ck (g4l x) (.ok (true,()))
theorem ae5{V:ByteArray->Bool}{cf:cg}(W:WI V cf){I:den nR}{op:Int}(h:xe I op):(s4l op).Ok 4 cf:=by
 obtain⟨Z,hZ⟩: ∃ Z,Z=List.replicate 65536 (0:Int):=⟨_,rfl⟩
 refine iI (W.toWorld.in (aeH W Z I) 80) (W.toWorld.st 4 _ rfl) rfl (cu _) (m:=80) rfl ?_
 rintro⟨A,B,Lo,Hi,L,ad,v⟩ y hy
 obtain⟨h1,hy⟩:=Lf.T.cy hy
 cases hy
 obtain⟨q1,q2,q3,q4⟩:= @of_decide_eq_true _ (Classical.propDecidable _) h1
 exact h V Z hZ A B Lo Hi L ad v q1 q2 q3 q4
theorem YQ{op A B Lo Hi ad:Int}{L:List Int}{a0 a1 a2 a3 a4 a5 a6 a7 a8 a9 aa ab ac ae af ag:Int}(r0: -9223372036854775808<=op)(r1:op<9223372036854775808)(l0:0<=Lo)(d0:0<=ad)(d1:ad<4294967296)(hv:ByV (a0,a1,a2,a3,a4,a5,a6,a7,a8,a9,aa,ab,ac,ae,af,ag,())){l:AV}(hs:EV N0 (.ca i64) L [l]): ∃ n,isT (kL n n 4 [.agg [.int .i64 op,.int .i64 A,.int .i64 B,.int .u64 Lo,.int .u64 Hi,l],.int .u32 ad,.agg [.int .u8 a0,.int .u8 a1,.int .u8 a2,.int .u8 a3,.int .u8 a4,.int .u8 a5,.int .u8 a6,.int .u8 a7,.int .u8 a8,.int .u8 a9,.int .u8 aa,.int .u8 ab,.int .u8 ac,.int .u8 ae,.int .u8 af,.int .u8 ag]] (kb 0))=true:=by
 have W:=ae3 fun _=>true
 by_cases hg:TO op=true
 ·exact ajE (aeS W) rfl rfl (vO (ti:=i64::Ej) (to:=[.bool]) (x:=(op,A,B,Lo,Hi,L,ad,a0,a1,a2,a3,a4,a5,a6,a7,a8,a9,aa,ab,ac,ae,af,ag,())) (y:=(true,())) (g:=fun x=>.ck (TO x.1) (.ok (true,()))) (by show(bif TO op then some _ else none)=_;rw[hg];rfl)) rfl (fun _ _=>.c rfl fun k=>(k rfl).elim) hs
 ·have go: ∀ {I:den nR},xe I op-> ∃ n,isT (kL n n 4 [.agg [.int .i64 op,.int .i64 A,.int .i64 B,.int .u64 Lo,.int .u64 Hi,l],.int .u32 ad,.agg [.int .u8 a0,.int .u8 a1,.int .u8 a2,.int .u8 a3,.int .u8 a4,.int .u8 a5,.int .u8 a6,.int .u8 a7,.int .u8 a8,.int .u8 a9,.int .u8 aa,.int .u8 ab,.int .u8 ac,.int .u8 ae,.int .u8 af,.int .u8 ag]] (kb 0))=true:=fun h=>by
   refine ajE (ae5 W h) rfl rfl (vO (ti:=Ej) (to:=[.bool]) (x:=(A,B,Lo,Hi,L,ad,a0,a1,a2,a3,a4,a5,a6,a7,a8,a9,aa,ab,ac,ae,af,ag,())) (y:=(true,())) (g:=fun x=>.ck (g4l x) (.ok (true,()))) ?_) rfl (fun _ _=>.i) hs
   have q:g4l (A,B,Lo,Hi,L,ad,a0,a1,a2,a3,a4,a5,a6,a7,a8,a9,aa,ab,ac,ae,af,ag,())=true:= @decide_eq_true _ (Classical.propDecidable _) ⟨l0,d0,d1,hv⟩
   show(bif g4l (A,B,Lo,Hi,L,ad,a0,a1,a2,a3,a4,a5,a6,a7,a8,a9,aa,ab,ac,ae,af,ag,())then some _ else none)=_
   rw[q]
   rfl
  have hm:(64768<=op/\op<=64779)∨(64852<=op/\op<=64861):=by
   unfold TO at hg
   rw[dt r0,dt r1]at hg
   simp only[Bool.and_eq_true,decide_eq_true_eq,Bool.not_eq_true',Bool.and_eq_false_iff,decide_eq_false_iff_not,true_and]at hg
   omega
  have hm:op=64768∨op=64769∨op=64770∨op=64771∨op=64772∨op=64773∨op=64774∨op=64775∨op=64776∨op=64777∨op=64778∨op=64779∨op=64852∨op=64853∨op=64854∨op=64855∨op=64856∨op=64857∨op=64858∨op=64859∨op=64860∨op=64861:=by omega
  rcases hm with rfl|rfl|rfl|rfl|rfl|rfl|rfl|rfl|rfl|rfl|rfl|rfl|rfl|rfl|rfl|rfl|rfl|rfl|rfl|rfl|rfl|rfl
  ·exact go SQ
  ·exact go SS
  ·exact go SU
  ·exact go SW
  ·exact go SX
  ·exact go SY
  ·exact go SZ
  ·exact go S4
  ·exact go S5
  ·exact go S6
  ·exact go S7
  ·exact go S8
  ·exact go S9
  ·exact go Ta
  ·exact go Tb
  ·exact go Tc
  ·exact go Td
  ·exact go Te
  ·exact go Tf
  ·exact go Tg
  ·exact go Th
  ·exact go Ti
theorem oU{x:Int}(h:(Lit.int .u8 x).wf=true):By x:=by
 simp[Lit.wf,IntKind.min,IntKind.max,IntKind.bits,IntKind.signed]at h
 unfold By
 omega
theorem ae6{g:G}{W:Go.World}: @qF Yu g W:=by
 intro p hp
 cases hp
theorem Tt{W:Go.World}{X:den tI}{v:den Ts}{s t:List AV}{cs ds:Array Value}{ad:Int}(B1:Bd tI X)(h:EV N0 tI X s)(hv: @cZ Yu (@gIo Yu W) W s cs.toList)(wa:(Lit.int .u32 ad).wf=true)(B2:Bd Ts v)(k:EV N0 Ts v t)(kv: @cZ Yu (@gIo Yu W) W t ds.toList):
 Calls Tryz.prog 4 #[.agg cs,.int .u32 ad,.agg ds] W fun e W'=>e=.returned (.bool true)/\Below W.heap.size W W':=by
 obtain⟨op,A,B,Lo,Hi,L⟩:=X
 obtain⟨a0,a1,a2,a3,a4,a5,a6,a7,a8,a9,aa,ab,ac,ae,af,ag⟩:=v
 obtain⟨_,c1,rfl,o1,_,c2,rfl,o2,_,c3,rfl,o3,_,c4,rfl,o4,_,c5,rfl,o5,l,rfl,o6⟩:=h
 have o1:_=[AV.int .i64 op]:=o1
 have o2:_=[AV.int .i64 A]:=o2
 have o3:_=[AV.int .i64 B]:=o3
 have o4:_=[AV.int .u64 Lo]:=o4
 have o5:_=[AV.int .u64 Hi]:=o5
 subst o1 o2 o3 o4 o5
 obtain⟨_,d0,rfl,p0,_,d1,rfl,p1,_,d2,rfl,p2,_,d3,rfl,p3,_,d4,rfl,p4,_,d5,rfl,p5,_,d6,rfl,p6,_,d7,rfl,p7,_,d8,rfl,p8,_,d9,rfl,p9,_,d10,rfl,p10,_,d11,rfl,p11,_,d12,rfl,p12,_,d13,rfl,p13,_,d14,rfl,p14,p15⟩:=k
 have p0:_=[AV.int .u8 a0]:=p0
 have p1:_=[AV.int .u8 a1]:=p1
 have p2:_=[AV.int .u8 a2]:=p2
 have p3:_=[AV.int .u8 a3]:=p3
 have p4:_=[AV.int .u8 a4]:=p4
 have p5:_=[AV.int .u8 a5]:=p5
 have p6:_=[AV.int .u8 a6]:=p6
 have p7:_=[AV.int .u8 a7]:=p7
 have p8:_=[AV.int .u8 a8]:=p8
 have p9:_=[AV.int .u8 a9]:=p9
 have p10:_=[AV.int .u8 aa]:=p10
 have p11:_=[AV.int .u8 ab]:=p11
 have p12:_=[AV.int .u8 ac]:=p12
 have p13:_=[AV.int .u8 ae]:=p13
 have p14:_=[AV.int .u8 af]:=p14
 have p15:_=[AV.int .u8 ag]:=p15
 subst p0 p1 p2 p3 p4 p5 p6 p7 p8 p9 p10 p11 p12 p13 p14 p15
 have ha:0<=ad/\ad<4294967296:=by
  simp[Lit.wf,IntKind.min,IntKind.max,IntKind.bits,IntKind.signed]at wa
  omega
 have b1:(Lit.int .i64 op).wf=true:=B1.1
 have b2:(Lit.int .u64 Lo).wf=true:=B1.2.2.2.1
 simp[Lit.wf,IntKind.min,IntKind.max,IntKind.bits,IntKind.signed]at b1 b2
 have hB:ByV (a0,a1,a2,a3,a4,a5,a6,a7,a8,a9,aa,ab,ac,ae,af,ag,()):=⟨oU B2.1,oU B2.2.1,oU B2.2.2.1,oU B2.2.2.2.1,oU B2.2.2.2.2.1,oU B2.2.2.2.2.2.1,oU B2.2.2.2.2.2.2.1,oU B2.2.2.2.2.2.2.2.1,oU B2.2.2.2.2.2.2.2.2.1,oU B2.2.2.2.2.2.2.2.2.2.1,oU B2.2.2.2.2.2.2.2.2.2.2.1,oU B2.2.2.2.2.2.2.2.2.2.2.2.1,oU B2.2.2.2.2.2.2.2.2.2.2.2.2.1,oU B2.2.2.2.2.2.2.2.2.2.2.2.2.2.1,oU B2.2.2.2.2.2.2.2.2.2.2.2.2.2.2.1,oU B2.2.2.2.2.2.2.2.2.2.2.2.2.2.2.2⟩
 obtain⟨n,hn⟩:=YQ (op:=op) (A:=A) (B:=B) (Lo:=Lo) (Hi:=Hi) (ad:=ad) (L:=L) b1.1 (Int.lt_of_le_of_lt b1.2 (by decide)) b2.1 ha.1 ha.2 hB (l:=l) ⟨_,rfl,o6⟩
 refine @aaW Yu Tryz.prog _ (@Yx Yu n n) 4 _ [.agg cs,.int .u32 ad,.agg ds] hn W (fun b=>b<W.heap.size) (fun b h=>h) ae6 ?_
 rw[cZ]
 refine⟨_,_,rfl,?_,?_⟩
 ·rw[VR];exact⟨_,rfl,hv⟩
 rw[cZ]
 refine⟨_,_,rfl,by rw[VR],?_⟩
 rw[cZ]
 refine⟨_,_,rfl,?_,by rw[cZ]⟩
 rw[VR];exact⟨_,rfl,kv⟩
theorem I4{P:Go.Program}{w:Go.World}{r:Reach}{base:Nat}{t n:Nat}{e:TypeId}{v:Value}(ht:P.underlying t=some (.array n e))(h:Value.okWide P w r base t v): ∃ cs,v=.agg cs:=by
 simp only[Value.okWide,ht]at h
 obtain⟨cs,h1,_⟩:=h
 exact⟨cs,h1⟩
end Go.Proofs.Vd
