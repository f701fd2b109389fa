import Derived.Test.YtbplobpobnagkaaGreatDoorSY0
import Derived.Test.YtbplobpobnagkaaGreatDoorVbS
import Derived.Test.YtbplobpobnagkaaGreatDoorLfJ
import Derived.Test.YtbplobpobnagkaaGreatDoorVdU2
import Derived.Test.YtbplobpobnagkaaGreatDoorVdW
import Derived.Test.YtbplobpobnagkaaGreatDoorVdV4
import Derived.Test.YtbplobpobnagkaaGreatDoorSH
import Derived.OpenShut
import Derived.ChangeSlices
import Derived.Test.YtbplobpobnagkaaGreatDoorSW
import Derived.Test.YtbplobpobnagkaaGreatDoorAb21
noncomputable section
namespace Go.Ab
open Go.Ab.Lf
def wrF(lk:FuncId->List AV->Option AV)(c:cV):cV:=fun f args h=>match lk f args with
 |some v=>.ok v h
 |none=>c f args h
theorem Cd[Io]{P:Program}{lk:FuncId->List AV->Option AV}(ht: ∀ f args v,lk f args=some v->dM P f args v){call:cV}(hc:eR P call):eR P (wrF lk call):=by
 intro f args h v h' e
 unfold wrF at e
 cases ht1:lk f args with
 |none=>rw[ht1]at e;exact hc f args h v h' e
 |some v1=>
  rw[ht1]at e
  cases e
  obtain⟨k1,k2⟩:=ht f args v ht1
  refine⟨k1,fun g w vs H hv=>?_⟩
  refine(k2 g w vs H.fB H.tb hv).mono ?_
  rintro e w' ⟨x,rfl,K,hx⟩
  obtain⟨g',UI⟩: ∃ g':G,g'=⟨g.m,fun b=>g.fB b∨(w.heap.size<=b/\b<w'.heap.size)⟩:=⟨_,rfl⟩
  have hO: ∀ b,jZ g' h b->jZ g h b:=by
   rintro b ⟨id,cs,s,e,m⟩
   rw[UI]at m
   exact⟨id,cs,s,e,m⟩
  have M:tH g w g' w':=⟨fun _ _ e=>by rw[UI];exact e,fun b i=>by rw[UI];exact .inl i,fun b i=>K.rP b (H.fB b i),K.rows⟩
  refine⟨x,g',rfl,⟨K.os,K.tape,K.output,K.size,Nat.le_refl _,M.m,fun b hb _=>K.rP b hb,K.rows,M.fB,fun b i=>?_,fun b o=>.inl (hO b o)⟩,⟨fun id jB=>?_,fun id cs e=>?_,fun id xl b s s' cs cs' e1 e2 m1 m2=>?_,fun b i=>?_,nO.mono M H.tb⟩,?_⟩
  ·rw[UI]at i
   rcases i with i|i
   ·exact .inl i
   ·exact .inr (.inr i.1)
  ·rw[UI];exact H.fresh id jB
  ·obtain⟨b,s,C,el,us,h1,h2,h3,h4,h5⟩:=H.aL id cs e
   have hb:=(Array.getElem?_eq_some_iff.1 h2).1
   refine⟨b,s,C,el,us,M.m _ _ h1,by rw[K.rP b hb];exact h2,?_,bF.gh M _ _ h4,h5⟩
   rw[UI]
   rintro(i|i)
   ·exact h3 i
   ·omega
  ·rw[UI]at m1 m2
   exact H.inj id xl b s s' cs cs' e1 e2 m1 m2
  ·rw[UI]at i
   rcases i with i|i
   ·exact Nat.lt_of_lt_of_le (H.fB b i) K.size
   ·exact i.2
  ·refine VR.gh (⟨(fun _ _ e=>by cases e),(fun b i=>by rw[UI];exact .inr i),fun _ _=>rfl,fun _=>Nat.le_refl _⟩:tH _ _ g' w') _ _ hx
end Go.Ab
namespace Go.Ab.Lf
open Go.Ab
end Go.Ab.Lf
namespace Go.Ab
instance ioS:Io:=⟨fun _=>0,[]⟩
end Go.Ab
namespace Go.Proofs.Vd
open Go.Ab Go.Ab.Lf Go.RowKit
set_option maxRecDepth 100000
def Qm(f:FuncId):Bool:=Nat.beq f 31||Nat.beq f 32||Nat.beq f 33||Nat.beq f 34||Nat.beq f 35||Nat.beq f 37||Nat.beq f 38||Nat.beq f 39||Nat.beq f 40||Nat.beq f 41||Nat.beq f 79
theorem aaT[Io]{f:FuncId}(h:Qm f=true):dM Tryz.prog f [.fk] .fk/\dM Tryz.prog f [.ly 0 []] .fk:=by
 unfold Qm at h
 simp only[Bool.or_eq_true]at h
 rcases h with(((((((((h|h)|h)|h)|h)|h)|h)|h)|h)|h)|h
 ·obtain rfl:=Nat.eq_of_beq_eq_true h;exact⟨Tryz.afr,Tryz.afs⟩
 ·obtain rfl:=Nat.eq_of_beq_eq_true h;exact⟨Tryz.aft,Tryz.afu⟩
 ·obtain rfl:=Nat.eq_of_beq_eq_true h;exact⟨Tryz.afv,Tryz.afw⟩
 ·obtain rfl:=Nat.eq_of_beq_eq_true h;exact⟨Tryz.afx,Tryz.afy⟩
 ·obtain rfl:=Nat.eq_of_beq_eq_true h;exact⟨Tryz.afz,Tryz.afA⟩
 ·obtain rfl:=Nat.eq_of_beq_eq_true h;exact⟨Tryz.afB,Tryz.afC⟩
 ·obtain rfl:=Nat.eq_of_beq_eq_true h;exact⟨Tryz.afD,Tryz.afE⟩
 ·obtain rfl:=Nat.eq_of_beq_eq_true h;exact⟨Tryz.afF,Tryz.afG⟩
 ·obtain rfl:=Nat.eq_of_beq_eq_true h;exact⟨Tryz.afH,Tryz.afI⟩
 ·obtain rfl:=Nat.eq_of_beq_eq_true h;exact⟨Tryz.afJ,Tryz.afK⟩
 ·obtain rfl:=Nat.eq_of_beq_eq_true h;exact⟨Tryz.afL,Tryz.afM⟩
def UJ(f:FuncId)(az:List AV):Option AV:=bif Qm f then(bif jR [.fk] az then some .fk else(bif jR [.ly 0 []] az then some .fk else none))else none
theorem GP[Io]: ∀ f az v,UJ f az=some v->dM Tryz.prog f az v:=by
 intro f az v h
 unfold UJ at h
 cases hc:Qm f with
 |false=>rw[hc]at h;cases h
 |true=>
  obtain⟨k1,k2⟩:=aaT hc
  rw[hc,cond_true]at h
  cases h1:jR [.fk] az with
  |true=>rw[h1]at h;cases h;obtain rfl:=jq _ _ h1;exact k1
  |false=>
   rw[h1,cond_false]at h
   cases h2:jR [.ly 0 []] az with
   |true=>rw[h2]at h;cases h;obtain rfl:=jq _ _ h2;exact k2
   |false=>rw[h2]at h;cases h
def alB(n d:Nat):cV:=wrF UJ (Md Tryz.gt (wrF UJ) n d)
theorem UK[Io](n d:Nat):eR Tryz.prog (alB n d):=Cd GP (xP (Hn Tryz.mixed) Tryz.gts (fun _ hc=>Cd GP hc) n d)
theorem kn6[Io]:dM Tryz.prog 6 [] (.bool true):=Jj (UK 1000 60) (by kernel_rfl) (by kernel_rfl)
def EA(f:FuncId)(az:List AV):Option AV:=bif Qm f then UJ f az else
 bif Nat.beq f 6 then(match az with| []=>some (.bool true)| _=>none)else none
theorem PY[Io]: ∀ f az v,EA f az=some v->dM Tryz.prog f az v:=by
 intro f az v h
 unfold EA at h
 cases hc:Qm f with
 |true=>rw[hc]at h;exact GP f az v h
 |false=>
  rw[hc,cond_false]at h
  cases Tl:Nat.beq f 6 with
  |true=>
   rw[Tl,cond_true]at h
   obtain rfl:=Nat.eq_of_beq_eq_true Tl
   split at h
   ·cases h;exact kn6
   ·cases h
  |false=>rw[Tl]at h;cases h
def g4(n d:Nat):cV:=wrF EA (Md Tryz.gt (wrF EA) n d)
theorem UL[Io](n d:Nat):eR Tryz.prog (g4 n d):=Cd PY (xP (Hn Tryz.mixed) Tryz.gts (fun _ hc=>Cd PY hc) n d)
theorem Ce{f:FuncId}{az:List AV}{v:AV}{h:Hp}(hl:EA f az=some v)(n d:Nat):g4 n d f az h=.ok v h:=by
 show(match EA f az with|some v=>Ro.ok v h|none=>_)=_
 rw[hl]
theorem pf{f:FuncId}{b:dE}(hf:Tryz.xs.get f=some b){n d:Nat}{az:List AV}{h:Hp}(hl:EA f az=none):g4 n (d+1) f az h=yg b.fb n (g4 n d) az h:=by
 show(match EA f az with|some v=>Ro.ok v h|none=>Da Tryz.gt n (g4 n d) f az h)=_
 rw[hl]
 show Da Tryz.gt n (g4 n d) f az h=_
 unfold Da
 rw[Tryz.afq hf]
 rfl
theorem aaU{f:FuncId}{b:dE}(hC:Qm f=true)(hf:Tryz.xs.get f=some b): ∀ n d h,yg b.fb n (g4 n d) [.fk] h=.bad/\yg b.fb n (g4 n d) [.ly 0 []] h=.bad:=by
 unfold Qm at hC
 simp only[Bool.or_eq_true]at hC
 rcases hC with(((((((((h|h)|h)|h)|h)|h)|h)|h)|h)|h)|h
 ·obtain rfl:=Nat.eq_of_beq_eq_true h;obtain rfl:b=Tryz.x31:=(Option.some.inj hf).symm;exact fun n d h=>⟨by kernel_rfl,by kernel_rfl⟩
 ·obtain rfl:=Nat.eq_of_beq_eq_true h;obtain rfl:b=Tryz.x32:=(Option.some.inj hf).symm;exact fun n d h=>⟨by kernel_rfl,by kernel_rfl⟩
 ·obtain rfl:=Nat.eq_of_beq_eq_true h;obtain rfl:b=Tryz.x33:=(Option.some.inj hf).symm;exact fun n d h=>⟨by kernel_rfl,by kernel_rfl⟩
 ·obtain rfl:=Nat.eq_of_beq_eq_true h;obtain rfl:b=Tryz.x34:=(Option.some.inj hf).symm;exact fun n d h=>⟨by kernel_rfl,by kernel_rfl⟩
 ·obtain rfl:=Nat.eq_of_beq_eq_true h;obtain rfl:b=Tryz.x35:=(Option.some.inj hf).symm;exact fun n d h=>⟨by kernel_rfl,by kernel_rfl⟩
 ·obtain rfl:=Nat.eq_of_beq_eq_true h;obtain rfl:b=Tryz.x37:=(Option.some.inj hf).symm;exact fun n d h=>⟨by kernel_rfl,by kernel_rfl⟩
 ·obtain rfl:=Nat.eq_of_beq_eq_true h;obtain rfl:b=Tryz.x38:=(Option.some.inj hf).symm;exact fun n d h=>⟨by kernel_rfl,by kernel_rfl⟩
 ·obtain rfl:=Nat.eq_of_beq_eq_true h;obtain rfl:b=Tryz.x39:=(Option.some.inj hf).symm;exact fun n d h=>⟨by kernel_rfl,by kernel_rfl⟩
 ·obtain rfl:=Nat.eq_of_beq_eq_true h;obtain rfl:b=Tryz.x40:=(Option.some.inj hf).symm;exact fun n d h=>⟨by kernel_rfl,by kernel_rfl⟩
 ·obtain rfl:=Nat.eq_of_beq_eq_true h;obtain rfl:b=Tryz.x41:=(Option.some.inj hf).symm;exact fun n d h=>⟨by kernel_rfl,by kernel_rfl⟩
 ·obtain rfl:=Nat.eq_of_beq_eq_true h;obtain rfl:b=Tryz.x79:=(Option.some.inj hf).symm;exact fun n d h=>⟨by kernel_rfl,by kernel_rfl⟩
theorem Aw: ∀ f b,bkD f=some b->mO g4 f b:=by
 intro f b hb n d az h c h' e
 unfold bkD at hb
 cases hx:(Nat.beq f 6||Nat.beq f 83)with
 |true=>rw[hx]at hb;cases hb
 |false=>
  rw[hx,cond_false]at hb
  rw[Bool.or_eq_false_iff]at hx
  obtain⟨h6,_⟩:=hx
  cases hC:Qm f with
  |false=>
   rw[pf hb (by unfold EA;rw[hC,h6];rfl)]
   exact e
  |true=>
   obtain⟨q1,q2⟩:=aaU hC hb n d h
   have hl:EA f az=none:=by
    unfold EA
    rw[hC,cond_true]
    unfold UJ
    rw[hC,cond_true]
    cases h1:jR [.fk] az with
    |true=>obtain rfl:=jq _ _ h1;rw[q1]at e;cases e
    |false=>
     rw[cond_false]
     cases h2:jR [.ly 0 []] az with
     |true=>obtain rfl:=jq _ _ h2;rw[q2]at e;cases e
     |false=>rfl
   rw[pf hb hl]
   exact e
end Go.Proofs.Vd

noncomputable section
namespace Go.Proofs.Vd
open Go.Ab Go.Ab.Lf Go.RowKit
set_option maxRecDepth 100000
abbrev rC(c:AV):dE:=Go.Ab.X.bQ 8 [.tmp 2] fun _ _=>(Go.Ab.X.af (Go.Ab.X.ai (Go.Ab.X.st 2 (Go.Ab.X.aa (Go.Ab.X.oC c)) Go.Ab.X.fi)) Go.Ab.X.cF)
theorem UM(c0:AV)(f:FuncId):mO (fun _ _ _ _ h=>.ok c0 h) f (rC c0):=by
 intro n d az h c h' e
 have e:(iw (Nat.ble (len az) 8) (.ok c0 h) .bad:Go.Ab.Ro)=.ok c h':=e
 cases hb:Nat.ble (len az) 8 with
 |true=>rw[hb]at e;exact e
 |false=>rw[hb]at e;cases e
theorem Iv(aq:aB):oz (fun _ _ _=>.bad) aq:=fun _ _ _ _ _ _ _ _ _ _ e=>by cases e
theorem afN{P Q:jV}{ti to:List Ty}{g:ak ti->Lf.T (ak to)}{f:FuncId}{aq:aB}
 (k: ∀ x y args H0 (E0:En) h az,(g x).val=some y->gp P (aA ti x) e1=some (args,[],H0)->Vs E0 H0.next args az->SR E0 (iH H0) h-> ∃ c g',(g' x).val=some y/\(iy P [] Q ti to g').Ok f (fun _ _ _ _ h=>.ok c h)/\ ∀ n d,aq n (d+1) f az h=.ok c h):(iy P [] Q ti to g).Ok f aq:=by
 intro pl q args H0 E0 h az e hP hv hS
 obtain⟨x,y,rfl,h1,rfl⟩:=yP e
 obtain⟨c,g',hg,k1,k2⟩:=k x y args H0 E0 h az h1 hP hv hS
 obtain⟨c',h',E1,ws,H1,⟨M,hM⟩,r⟩:=k1 _ (aA to y) _ _ E0 h az (vH hg) hP hv hS
 have hM:=hM M M (Nat.le_refl _) (Nat.le_refl _)
 cases hM
 refine⟨_,_,E1,ws,H1,⟨1,fun n d _ hd=>?_⟩,r⟩
 obtain⟨d,rfl⟩: ∃ d',d=d'+1:=⟨d - 1,by omega⟩
 exact k2 n d
theorem WC{P Q:jV}{ti to:List Ty}{g:ak ti->Lf.T (ak to)}{f:FuncId}{c:AV}(e: ∀ x y,(g x).val=some y->(je P [] Q (fun _=>none) (rC c) 3 (fun _ _ _=>.bad) (aA ti x)).val=some (aA to y)):(iy P [] Q ti to g).Ok f (fun _ _ _ _ h=>.ok c h):=
 dF (Iv _) (UM c f) rfl (aE _) (m:=3) rfl fun x y h=>e x y h
abbrev PI(t:Ty):jV:=.cons (.im t) .nil
abbrev PO(t:Ty):jV:=.cons (.ow t) .nil
theorem EB{t:Ty}{f:FuncId}{c:AV}(e:(je (PI t) [] (PO t) (fun _=>none) (rC c) 3 (fun _ _ _=>.bad) (aA [.ae t] ([],()))).val=some (aA [.ae t] ([],()))):(iy (PI t) [] (PO t) [.ae t] [.ae t] fun x=>.ck (decide (List.length x.1=0)) (.ok ([],()))).Ok f (fun _ _ _ _ h=>.ok c h):=by
 refine WC ?_
 rintro⟨x,⟨⟩⟩ q h
 obtain⟨h1,h⟩:=Lf.T.aY h
 cases h
 obtain rfl:x=[]:=List.eq_nil_of_length_eq_zero (of_decide_eq_true h1)
 exact e
theorem ko{t:Ty}{f:FuncId}{b:dE}{B sz:Nat}(hb:bkD f=some b)(hx:Tryz.xs.get f=some b)(qo:Nat.ble b.ntmps 512=true)(hC:Qm f=true)(hB:B*sz<=70368744177664/\B<=70368744177664)
 (e: ∀ x:List (den t),(je (PI t) [] (PO t) (fun _=>none) b 3 (fun _ _ _=>.bad) (aA [.ae t] (x,()))).val=aS (!(Nat.beq (List.length x) 0)) (aS (roomy sz (0+List.length x)) (some (aA [.ae t] (app [] x,())))))
 (QY:(je (PI t) [] (PO t) (fun _=>none) (rC .fk) 3 (fun _ _ _=>.bad) (aA [.ae t] ([],()))).val=some (aA [.ae t] ([],())))
 (e2':(je (PI t) [] (PO t) (fun _=>none) (rC .qd) 3 (fun _ _ _=>.bad) (aA [.ae t] ([],()))).val=some (aA [.ae t] ([],())))
 (e3':(je (PI t) [] (PO t) (fun _=>none) (rC (.sc (.slice none 0 0))) 3 (fun _ _ _=>.bad) (aA [.ae t] ([],()))).val=some (aA [.ae t] ([],())))
 (s2: ∀ n d h,yg b.fb n (g4 n d) [.qd] h=.ok .qd h)(s3: ∀ n d h,yg b.fb n (g4 n d) [.sc (.slice none 0 0)] h=.ok (.sc (.slice none 0 0)) h)(s4: ∀ n d h id base,yg b.fb n (g4 n d) [.fg id base 0 (size t)] h=.ok .qd h):
 (iy (PI t) [] (PO t) [.ae t] [.ae t] fun x=>.ck (decide (List.length x.1<=B)) (.ok (x.1,()))).Ok f g4:=by
 have lkE:EA f [.fk]=some .fk:=by unfold EA UJ;rw[hC];rfl
 have lkI:EA f [.ly 0 []]=some .fk:=by unfold EA UJ;rw[hC];rfl
 have nx: ∀ az,jR [.fk] az=false->jR [.ly 0 []] az=false->EA f az=none:=by
  intro az h1 h2
  unfold EA UJ
  rw[hC,h1,h2]
  rfl
 have hN:(iy (PI t) [] (PO t) [.ae t] [.ae t] fun x=>.ck (decide (List.length x.1<=B)&& !decide (List.length x.1=0)) (.ok (x.1,()))).Ok f g4:=by
  refine dF (Iv _) (Aw f b hb) qo (aE _) (m:=3) rfl ?_
  rintro⟨x,⟨⟩⟩ q h
  obtain⟨h1,h⟩:=Lf.T.aY h
  cases h
  simp only[Bool.and_eq_true,Bool.not_eq_true',decide_eq_true_eq,decide_eq_false_iff_not]at h1
  have c1:Nat.beq (List.length x) 0=false:=by
   cases hb:Nat.beq (List.length x) 0 with
   |false=>rfl
   |true=>exact(h1.2 (Nat.eq_of_beq_eq_true hb)).elim
  refine(e x).trans ?_
  rw[c1,show roomy sz (0+List.length x)=true from mz.2 ⟨by rw[Nat.zero_add];exact Nat.le_trans (Nat.mul_le_mul_right sz h1.1) hB.1,by have:=h1.1;omega⟩,bp]
  rfl
 intro pl q args H0 E0 h az e0 hP hv hS
 obtain⟨⟨x,⟨⟩⟩,⟨y,⟨⟩⟩,rfl,h1,rfl⟩:=yP e0
 obtain⟨h2,h3⟩:=Lf.T.aY h1
 have h3:y=x:=by
  injection h3 with h3
  exact(congrArg Prod.fst h3).symm
 subst h3
 by_cases hy:y=[]
 ·subst hy
  have hP2:some (([.c 1 (.ae t) []]:List Sv),([]:List Pl),(⟨2,.nil⟩:Hq))=some (args,[],H0):=(JW OP).symm.trans hP
  cases hP2
  obtain⟨a,rfl,ha⟩: ∃ a,az=[a]/\EV E0.G (.ae t) [] [a]:=by
   cases hv with
   |cons ha hr=>
    cases hr
    cases ha with
    |c k _=>exact⟨_,rfl,k⟩
  have fin: ∀ c0:AV,(iy (PI t) [] (PO t) [.ae t] [.ae t] fun x=>.ck (decide (List.length x.1=0)) (.ok ([],()))).Ok f (fun _ _ _ _ h=>.ok c0 h)->(∀ n d,g4 n (d+1) f [a] h=.ok c0 h)-> ∃ c h' E1 ws H1,Ev (fun n d=>g4 n d f [a] h) (.ok c h')/\Ox E0 E1 (iH ⟨2,.nil⟩) H1 h h'/\SR E1 H1 h'/\gp (PO t) (aA [.ae t] ([],())) Lf.e1=some (ws,[],H1)/\Vs E1 H1.next ws (c::([]:List Nat).map E0.A):=by
   intro c0 k hc
   obtain⟨c,h',E1,ws,H1,⟨M,hM⟩,r⟩:=k _ (aA [.ae t] ([],())) _ _ E0 h [a] (vH (P:=PI t) (ptr:=[]) (Q:=PO t) (ti:=[.ae t]) (to:=[.ae t]) (x:=(([]:List (den t)),())) (y:=(([]:List (den t)),())) rfl) hP hv hS
   have hM:=hM M M (Nat.le_refl _) (Nat.le_refl _)
   cases hM
   refine⟨c0,h,E1,ws,H1,⟨1,fun n d _ hd=>?_⟩,r⟩
   obtain⟨d,rfl⟩: ∃ d',d=d'+1:=⟨d - 1,by omega⟩
   exact hc n d
  obtain⟨a',q1,k⟩: ∃ a',[a]=[a']/\Jo E0.G t (EV E0.G t) [] a':=ha
  injection q1 with q1
  subst q1
  rcases k with⟨k,_⟩|⟨ls,k1,k2⟩
  ·cases a with
   |fk=>exact fin .fk (EB QY) fun n d=>Ce lkE n (d+1)
   |qd=>exact fin .qd (EB e2') fun n d=>(pf hx (nx _ rfl rfl)).trans (s2 n d h)
   |sc v=>
    obtain rfl:v=.slice none 0 0:=by
     have k:isNil (.sc v)=true:=k
     unfold isNil at k
     split at k
     ·rename_i n c e
      injection e with e
      subst e
      have k:(Nat.beq n 0&&Nat.beq c 0)=true:=by assumption
      rw[Bool.and_eq_true]at k
      obtain rfl:=Nat.eq_of_beq_eq_true k.1
      obtain rfl:=Nat.eq_of_beq_eq_true k.2
      rfl
     ·cases k
    exact fin _ (EB e3') fun n d=>(pf hx (nx _ rfl rfl)).trans (s3 n d h)
   | _=>cases k
  ·have hl:ls=[]:=k1
   subst hl
   rcases k2 with k2|⟨id,base,row,k2,_,_⟩
   ·subst k2
    exact fin .fk (EB QY) fun n d=>Ce lkI n (d+1)
   ·subst k2
    exact fin .qd (EB e2') fun n d=>(pf hx (nx _ rfl rfl)).trans (s4 n d h id base)
 ·have hn:((iy (PI t) [] (PO t) [.ae t] [.ae t] fun x=>.ck (decide (List.length x.1<=B)&& !decide (List.length x.1=0)) (.ok (x.1,()))).f (aA [.ae t] (y,()))).val=some (aA [.ae t] (y,())):=by
   refine vH (P:=PI t) (ptr:=[]) (Q:=PO t) (ti:=[.ae t]) (to:=[.ae t]) (x:=(y,())) (y:=(y,())) ?_
   show(bif (decide (List.length y<=B)&& !decide (List.length y=0))then some (y,())else none)=_
   rw[show decide (List.length y<=B)=true from h2,decide_eq_false (fun q=>hy (List.eq_nil_of_length_eq_zero q))]
   rfl
  exact hN _ _ args H0 E0 h az hn hP hv hS
theorem UN:(jU aI).Ok 31 g4:=ko (b:=Tryz.x31) (B:=1099511627776) (sz:=48) (by kernel_rfl) (by kernel_rfl) rfl (by kernel_rfl) (by decide) (fun x=>by kernel_rfl) (by kernel_rfl) (by kernel_rfl) (by kernel_rfl) (fun n d h=>by kernel_rfl) (fun n d h=>by kernel_rfl) (fun n d h id base=>by kernel_rfl)
theorem UO:VX.Ok 32 g4:=ko (b:=Tryz.x32) (B:=1099511627776) (sz:=8) (by kernel_rfl) (by kernel_rfl) rfl (by kernel_rfl) (by decide) (fun x=>by kernel_rfl) (by kernel_rfl) (by kernel_rfl) (by kernel_rfl) (fun n d h=>by kernel_rfl) (fun n d h=>by kernel_rfl) (fun n d h id base=>by kernel_rfl)
theorem UP:(jU aP).Ok 33 g4:=ko (b:=Tryz.x33) (B:=1099511627776) (sz:=40) (by kernel_rfl) (by kernel_rfl) rfl (by kernel_rfl) (by decide) (fun x=>by kernel_rfl) (by kernel_rfl) (by kernel_rfl) (by kernel_rfl) (fun n d h=>by kernel_rfl) (fun n d h=>by kernel_rfl) (fun n d h id base=>by kernel_rfl)
theorem UQ:(jU aj).Ok 34 g4:=ko (b:=Tryz.x34) (B:=1099511627776) (sz:=16) (by kernel_rfl) (by kernel_rfl) rfl (by kernel_rfl) (by decide) (fun x=>by kernel_rfl) (by kernel_rfl) (by kernel_rfl) (by kernel_rfl) (fun n d h=>by kernel_rfl) (fun n d h=>by kernel_rfl) (fun n d h id base=>by kernel_rfl)
theorem UR:(jU aC).Ok 35 g4:=ko (b:=Tryz.x35) (B:=1099511627776) (sz:=40) (by kernel_rfl) (by kernel_rfl) rfl (by kernel_rfl) (by decide) (fun x=>by kernel_rfl) (by kernel_rfl) (by kernel_rfl) (by kernel_rfl) (fun n d h=>by kernel_rfl) (fun n d h=>by kernel_rfl) (fun n d h id base=>by kernel_rfl)
theorem US:(jU aO).Ok 37 g4:=ko (b:=Tryz.x37) (B:=1099511627776) (sz:=32) (by kernel_rfl) (by kernel_rfl) rfl (by kernel_rfl) (by decide) (fun x=>by kernel_rfl) (by kernel_rfl) (by kernel_rfl) (by kernel_rfl) (fun n d h=>by kernel_rfl) (fun n d h=>by kernel_rfl) (fun n d h id base=>by kernel_rfl)
theorem UT:(jU aD).Ok 38 g4:=ko (b:=Tryz.x38) (B:=1099511627776) (sz:=48) (by kernel_rfl) (by kernel_rfl) rfl (by kernel_rfl) (by decide) (fun x=>by kernel_rfl) (by kernel_rfl) (by kernel_rfl) (by kernel_rfl) (fun n d h=>by kernel_rfl) (fun n d h=>by kernel_rfl) (fun n d h id base=>by kernel_rfl)
theorem UU:(jU aK).Ok 39 g4:=ko (b:=Tryz.x39) (B:=1099511627776) (sz:=48) (by kernel_rfl) (by kernel_rfl) rfl (by kernel_rfl) (by decide) (fun x=>by kernel_rfl) (by kernel_rfl) (by kernel_rfl) (by kernel_rfl) (fun n d h=>by kernel_rfl) (fun n d h=>by kernel_rfl) (fun n d h id base=>by kernel_rfl)
theorem UW:(jU aH).Ok 40 g4:=ko (b:=Tryz.x40) (B:=1099511627776) (sz:=48) (by kernel_rfl) (by kernel_rfl) rfl (by kernel_rfl) (by decide) (fun x=>by kernel_rfl) (by kernel_rfl) (by kernel_rfl) (by kernel_rfl) (fun n d h=>by kernel_rfl) (fun n d h=>by kernel_rfl) (fun n d h id base=>by kernel_rfl)
theorem UX:(jU u8).Ok 41 g4:=ko (b:=Tryz.x41) (B:=1099511627776) (sz:=1) (by kernel_rfl) (by kernel_rfl) rfl (by kernel_rfl) (by decide) (fun x=>by kernel_rfl) (by kernel_rfl) (by kernel_rfl) (by kernel_rfl) (fun n d h=>by kernel_rfl) (fun n d h=>by kernel_rfl) (fun n d h id base=>by kernel_rfl)
theorem UY:(jU tI).Ok 79 g4:=ko (b:=Tryz.x79) (B:=1099511627776) (sz:=64) (by kernel_rfl) (by kernel_rfl) rfl (by kernel_rfl) (by decide) (fun x=>by kernel_rfl) (by kernel_rfl) (by kernel_rfl) (by kernel_rfl) (fun n d h=>by kernel_rfl) (fun n d h=>by kernel_rfl) (fun n d h id base=>by kernel_rfl)
end Go.Proofs.Vd

noncomputable section
namespace Go.Proofs.Vd
open Go.Ab Go.Ab.Lf
set_option maxRecDepth 100000
abbrev sE:List Ty:=[.ae aI,.ae aP,.ae i64,.ae aj,.ae aj,.ae aC,.ae aO,i64,.ae aD,.ae aK,.ae aH,.ae aO,i64,i64]
abbrev nG:List Ty:=[.ae aI,.ae aP,.ae i64,.ae aj,.ae aj,.ae aC,.ae aO,i64,.ae aD,.ae aK,.ae aH]
abbrev rN:List Ty:=[.bool]
def UZ:jW:=⟨0,fI Tryz.x73.code 0,[2,24,25,26],(Ps [H8,.im aO,.n .i64,.n .i64]),[⟨.lL,[2],Ps [H8]⟩,⟨.rt,[4],Ps [.bo]⟩]⟩
def afO:List (Nat×cQ):=[]
theorem U0{V:ByteArray->Bool}{aq:aB}(W:WorldC V aq):dh aq (afO):=.nil
def EC:List Pl->Lf.T Rs:=UZ.step (fun _=>none) (dH (afO) 3) 3
def afP:fE:=vw UZ (EC) sE nG rN
theorem U1{V:ByteArray->Bool}{aq:aB}(W:WorldC V aq):ed Rx.w (afP) (fun n d=>gG (aq n d) n (.bl 0 (.lp UZ.body))):=jx (W.toWorld.in (U0 W) 3) (aE _) (m:=3) sE nG rN
def L57:Nat->Option fE:=pP [(0,afP)]
abbrev PZ:List Ty:=[.ae aI,.ae aP,.ae i64,.ae aj,.ae aj,.ae aC,.ae aO,i64,.ae aD,.ae aK,.ae aH,i64]
abbrev ED:List Ty:=[.bool]
def e57:List (Nat×cQ):=[(70,s10)]
theorem aaV{V:ByteArray->Bool}{aq:aB}(W:WorldC V aq):dh aq (e57):=(.cons (BJ W) .nil)
def t57(x:ak PZ):Lf.T (List Pl):=je (Ps [pM,.n .i64]) [] (Ps [.bo]) L57 Tryz.x73 3 (dH (e57) 3) (aA PZ x)
def k57(x:ak PZ):Bool:=jS ED (t57 x)
def m57(x:ak PZ):ak ED:=e9 ED (t57 x)
def alD:cQ:=iy (Ps [pM,.n .i64]) [] (Ps [.bo]) PZ ED fun x=>.ck (k57 x) (.ok (m57 x))
theorem U2{V:ByteArray->Bool}{aq:aB}(W:WorldC V aq):(alD).Ok 73 aq:=
 eX (W.toWorld.in (aaV W) 3) (W.toWorld.st 73 _ rfl) rfl (fq.jm (.cons (b:=UZ.body) (by kernel_rfl) (U1 W) .nil)) (m:=3) rfl (fun _=>rfl) (fun _=>rfl)
theorem alE(y:ak tM)(k:Int)(a:ak sE)(ha:a=(y.1,y.2.1,y.2.2.1,y.2.2.2.1,y.2.2.2.2.1,y.2.2.2.2.2.1,y.2.2.2.2.2.2.1,y.2.2.2.2.2.2.2.1,y.2.2.2.2.2.2.2.2.1,y.2.2.2.2.2.2.2.2.2.1,y.2.2.2.2.2.2.2.2.2.2.1,y.2.2.2.2.2.2.1,(y.2.2.2.2.2.2.1.length:Int),0,()))(z:ak nG)(hz:z=gH EC sE nG a)(S:den aI)(hS:S=ca z.1 (dP z.2.1 z.2.2.1 z.2.2.2.2.2.2.2.1))(o:Bool)(ho:o=dN z.1 (dP z.2.1 z.2.2.1 z.2.2.2.2.2.2.2.1)):(t57 (y.1,y.2.1,y.2.2.1,y.2.2.2.1,y.2.2.2.2.1,y.2.2.2.2.2.1,y.2.2.2.2.2.2.1,y.2.2.2.2.2.2.2.1,y.2.2.2.2.2.2.2.2.1,y.2.2.2.2.2.2.2.2.2.1,y.2.2.2.2.2.2.2.2.2.2.1,k,())).val=
 aS (rG EC sE nG rN a) (bif qw EC sE a then
  bif decide (z.2.2.2.2.2.2.2.1= -1)then some (aA ED (true,()))else
  aS (gT z.1&&(decide (z.2.2.2.2.2.2.2.1<9223372036854775808)&&decide (z.2.1.length<=1099511627776))) (some (aA ED (bif o then(bif decide ((S.1.length:Int)=0)then decide ((S.2.length:Int)=0)else false)else false,())))
  else some (aA ED ((gH EC sE rN a).1,()))):=by
 subst hS;subst ho;subst hz;subst ha
 kernel_rfl
theorem aaW(y:ak tM):gQ EC (aA sE (y.1,y.2.1,y.2.2.1,y.2.2.2.1,y.2.2.2.2.1,y.2.2.2.2.2.1,y.2.2.2.2.2.2.1,y.2.2.2.2.2.2.2.1,y.2.2.2.2.2.2.2.2.1,y.2.2.2.2.2.2.2.2.2.1,y.2.2.2.2.2.2.2.2.2.2.1,[],0,0,())) 0 (aA nG (y.1,y.2.1,y.2.2.1,y.2.2.2.1,y.2.2.2.2.1,y.2.2.2.2.2.1,y.2.2.2.2.2.2.1,y.2.2.2.2.2.2.2.1,y.2.2.2.2.2.2.2.2.1,y.2.2.2.2.2.2.2.2.2.1,y.2.2.2.2.2.2.2.2.2.2.1,())):=by
 refine .last ?_
 kernel_rfl
theorem afQ{x:ak VY}(h:On x=true):(t57 x).val=some (aA ED (mNm x,())):=by
 obtain⟨t,im,fs,tb,me,gl,ex,st,el,co,da,k,⟨⟩⟩:=x
 unfold On at h
 simp only[Bool.and_eq_true]at h
 obtain⟨⟨⟨_,hg,_⟩,hx⟩,hT⟩:=h
 have hx:ex=[]:=List.eq_nil_of_length_eq_zero (of_decide_eq_true hx)
 subst hx
 have v:=sW (t0:=nG) (t1:=rN) (aaW (t,im,fs,tb,me,gl,[],st,el,co,da,()))
 refine Eq.trans (alE (t,im,fs,tb,me,gl,[],st,el,co,da,()) k _ rfl (t,im,fs,tb,me,gl,[],st,el,co,da,()) v.2.2.symm _ rfl _ rfl) ?_
 have a1:rG EC sE nG rN (t,im,fs,tb,me,gl,[],st,el,co,da,[],((List.length ([]:List (den aO)):Nat):Int),0,())=true:=v.1
 have a2:qw EC sE (t,im,fs,tb,me,gl,[],st,el,co,da,[],((List.length ([]:List (den aO)):Nat):Int),0,())=true:=v.2.1
 have hg2:(decide (st<9223372036854775808)&&decide (List.length im<=1099511627776))=true:=by rw[Bool.and_eq_true];exact hg
 dsimp only
 rw[a1,a2,hT,hg2]
 have e:mNm (t,im,fs,tb,me,gl,[],st,el,co,da,k,())=Z2 t im fs st:=rfl
 rw[e]
 unfold Z2
 cases decide (st= -1)with
 |true=>rfl
 |false=>rfl
theorem U3{V:ByteArray->Bool}(W:WorldC V g4):s57.Ok 73 g4:=by
 intro pl q args H0 E0 h az e hP hv hS
 obtain⟨x,y,rfl,h1,rfl⟩:=yP e
 obtain⟨h2,h3⟩:=Lf.T.aY h1
 injection h3 with h3
 have s:=jF (afQ h2)
 refine U2 W _ _ args H0 E0 h az (vH (g:=fun x=>.ck (k57 x) (.ok (m57 x))) (y:=y) ?_) hP hv hS
 show(bif k57 x then some (m57 x)else none)=some y
 rw[show k57 x=true from s.1,show m57 x=_ from s.2,<-h3]
 rfl
theorem aaX:sAw.Ok 6 g4:=by
 unfold sAw
 refine afN ?_
 rintro⟨⟩ y args H0 E0 h az h1 hP hv hS
 have hP2:some (([]:List Sv),([]:List Pl),Lf.e1)=some (args,[],H0):=hP
 cases hP2
 cases hv
 refine⟨.bool true,fun _=>.ok (true,()),h1,WC ?_,fun n d=>Ce rfl n (d+1)⟩
 rintro⟨⟩ y' h'
 cases h'
 kernel_rfl
theorem U4(V:ByteArray->Bool):(s66 V).Ok 83 g4:=by
 unfold s66
 intro pl q args H0 E0 h az e
 obtain⟨x,y,rfl,h1,rfl⟩:=yP e
 obtain⟨h2,_⟩:=Lf.T.aY h1
 unfold Ao at h2
 rw[Bool.and_eq_true]at h2
 have h3:false=true:=h2.2
 cases h3
theorem aaY(V:ByteArray->Bool):yS V g4:=
 have W:WorldC V g4:=⟨⟨⟨Aw⟩,U4 V⟩,UO⟩
 ⟨⟨⟨W,U3 W⟩,UN,UP,UQ,UR,US,UT,UU,UW,UX,UY⟩,aaX⟩
end Go.Proofs.Vd

noncomputable section
namespace Go.Proofs.Vd
open Go.Ab Go.Ab.Lf Go.ChangeShapes Go.WideShapes Go.ChangeAt Go.RowKit
set_option maxRecDepth 100000
abbrev N0:Nat->Option Rw:=fun _=>none
def otF(P:Go.Program)(ot:Ty->Nat->Bool):List Field->Nat->Ty->Bool
 | [],_,_=>false
 |f::fs,off,T=>match fs with
  | []=>Nat.beq f.offset off&&(Nat.beq (P.cellsOf f.type) (size T)&&ot T f.type)
  | _::_=>match T with
   | .pair A B=>(Nat.beq f.offset off&&(Nat.beq (P.cellsOf f.type) (size A)&&ot A f.type))&&otF P ot fs (off+size A) B
   | _=>false
def otB(P:Go.Program):Nat->Ty->Nat->Bool
 |0,_,_=>false
 |n+1,T,t=>match P.underlying t with
  |some (.int k)=>match T with
   | .int k'=>decide (k=k')
   | _=>false
  |some .bool=>match T with
   | .bool=>true
   | _=>false
  |some .string=>match T with
   | .str=>true
   | _=>false
  |some (.slice e)=>match T with
   | .ae T'=>Nat.beq (P.cellsOf e) (size T')&&(Nat.blt 0 (size T')&&otB P n T' e)
   | _=>false
  |some (.struct fs)=>Nat.beq (P.cellsOf t) (size T)&&otF P (otB P n) fs.toList 0 T
  | _=>false
def Bd:(T:Ty)->den T->Prop
 | .int k,x=>(Lit.int k x).wf=true
 | .bool,_=>True
 | .str,x=>ByteArray.size x<=maxLen
 | .ae t,x=>List.length x<=maxLen/\ ∀ e,e∈x->Bd t e
 | .pair a b,x=>Bd a x.1/\Bd b x.2
def zI:(T:Ty)->den T->Nat
 | .int _,_=>1
 | .bool,_=>1
 | .str,x=>ByteArray.size x+1
 | .ae t,x=>1+List.foldr (fun e n=>zI t e+n) 0 x
 | .pair a b,x=>zI a x.1+zI b x.2
structure Kh{H:Type}(bk:DataW H->Nat)(EM:List (DataW H)->Nat):Prop where
 one: ∀ d,1<=bk d
 nil:EM []=0
 cons: ∀ d l,EM (d::l)=bk d+EM l
 str: ∀ b:List UInt8,b.length+1<=bk (.lit (.string b))
 ae: ∀ l m,EM l+1<=bk (.slice l m)
 agg: ∀ l,EM l<=bk (.agg l)
theorem Kh.app{H:Type}{bk:DataW H->Nat}{EM:List (DataW H)->Nat}(K:Kh bk EM)(l m:List (DataW H)):EM (l++m)=EM l+EM m:=by
 induction l with
 |nil=>rw[List.nil_append,K.nil];omega
 |cons a l ih=>rw[List.cons_append,K.cons,K.cons,ih];omega
abbrev gI[Io](W:Go.World):G:=gE fun b=>b<W.heap.size
section
variable [Io]{H:Type}{enc:TypeId×Value->H}{P:Go.Program}{W:Go.World}{sp:Nat->Bool}{held:Bool}{bk:DataW H->Nat}{EM:List (DataW H)->Nat}
omit [Io] in
theorem P0{b o:Nat}{v:Value}(h:W.cell? ⟨b,o,none⟩=some v):b<W.heap.size:=by
 by_cases hb:b<W.heap.size
 ·exact hb
 ·exfalso
  have e:W.heap[b]? =none:=Array.getElem?_eq_none (by omega)
  unfold Go.World.cell? at h
  dsimp only at h
  rw[e]at h
  cases h
def Op(W:Go.World)(T:Ty)(cs:List Value)(n:Nat):Prop:= ∃ (x:den T) (bs:List AV),EV N0 T x bs/\bF (gI W) W bs cs/\Bd T x/\zI T x<=n
theorem we(K:Kh bk EM){ot:Ty->Nat->Bool}{n:Nat}(IH: ∀ (T:Ty) (t:Nat) (cs:List Value) (y:DataW H×List MemPlace),ot T t=true->DataW.trod enc P W 0 sp held n t cs=some y->Op W T cs (bk y.1)): ∀ (fs:List Field) (ys:List (DataW H×List MemPlace)) (off:Nat) (T:Ty) (cs:List Value),otF P ot fs off T=true->
 fs.length=ys.length->(∀ (i:Nat) f,fs[i]? =some f->DataW.trod enc P W 0 sp held n f.type ((cs.drop f.offset).take (P.cellsOf f.type))=ys[i]?)->Op W T ((cs.drop off).take (size T)) (EM (ys.map (·.1)))
 | [],_,_,_,_,h,_,_=>by cases h
 | _::_,[],_,_,_,_,hl,_=>by simp at hl
 | [f],y::ys,off,T,cs,h,hl,hf=>by
  have h:(Nat.beq f.offset off&&(Nat.beq (P.cellsOf f.type) (size T)&&ot T f.type))=true:=h
  rw[Bool.and_eq_true,Bool.and_eq_true]at h
  obtain⟨h1,h2,h3⟩:=h
  have hy:=hf 0 f rfl
  obtain⟨x,bs,k1,k2,k3,k4⟩:=IH T f.type _ y h3 hy
  rw[Nat.eq_of_beq_eq_true h1,Nat.eq_of_beq_eq_true h2]at k2
  refine⟨x,bs,k1,k2,k3,?_⟩
  rw[List.map_cons,K.cons]
  omega
 |f::g::fs,y::ys,off,.pair A B,cs,h,hl,hf=>by
  have h:((Nat.beq f.offset off&&(Nat.beq (P.cellsOf f.type) (size A)&&ot A f.type))&&otF P ot (g::fs) (off+size A) B)=true:=h
  rw[Bool.and_eq_true,Bool.and_eq_true,Bool.and_eq_true]at h
  obtain⟨⟨h1,h2,h3⟩,h4⟩:=h
  have hy:=hf 0 f rfl
  have a:=IH A f.type _ y h3 hy
  rw[Nat.eq_of_beq_eq_true h1,Nat.eq_of_beq_eq_true h2]at a
  obtain⟨x1,as1,e1,v1,b1,c1⟩:=a
  obtain⟨x2,as2,e2,v2,b2,c2⟩:=we K IH (g::fs) ys (off+size A) B cs h4 (by simpa using hl) fun i f hm=>hf (i+1) f hm
  refine⟨(x1,x2),as1++as2,⟨as1,as2,rfl,e1,e2⟩,?_,⟨b1,b2⟩,?_⟩
  ·have e:(cs.drop off).take (size (.pair A B))=(cs.drop off).take (size A)++(cs.drop (off+size A)).take (size B):=by
    show(cs.drop off).take (size A+size B)=_
    rw[List.take_add,List.drop_drop]
   rw[e]
   exact v1.append v2
  ·show zI A x1+zI B x2<=_
   rw[List.map_cons,K.cons]
   omega
 | _::_::_,_,_,.int _,_,h,_,_=>by cases h
 | _::_::_,_,_,.bool,_,h,_,_=>by cases h
 | _::_::_,_,_,.str,_,h,_,_=>by cases h
 | _::_::_,_,_,.ae _,_,h,_,_=>by cases h
omit [Io] in
theorem P1{α β:Type}{f:α->Option β}: ∀ {l:List α} {r:List β},l.mapM f=some r->r.length=l.length:=by
 intro l
 induction l with
 |nil=>intro r h;simp at h;subst h;rfl
 |cons a l ih=>
  intro r h
  rw[List.mapM_cons]at h
  simp only[Option.bind_eq_bind,Option.bind_eq_some_iff,Option.pure_def,Option.some.injEq]at h
  obtain⟨b,_,rs,h2,rfl⟩:=h
  simp[ih h2]
omit [Io] in
theorem EE{a:Addr}{k:Nat}{cs:List Value}(h:W.cells? 0 a k=some cs):cs.length=k/\ ∀ j,j<k->W.cell? (a.add j)=cs[j]? :=by
 unfold World.cells? at h
 rw[if_pos (Nat.zero_le _)]at h
 exact⟨by simpa using P1 h,fun j hj=>mapM_some_get h j j (by simp[hj])⟩
theorem EF(K:Kh bk EM){T:Ty}{b o n:Nat}{e:Nat}(IH: ∀ (cs:List Value) (y:DataW H×List MemPlace),DataW.trod enc P W 0 sp held n e cs=some y->Op W T cs (bk y.1))(hs:P.cellsOf e=size T):
 ∀ (len:Nat) (ys:List (DataW H×List MemPlace)),ys.length=len->(∀ i,i<len->(W.cells? 0 ⟨b,o+i*size T,none⟩ (P.cellsOf e)).bind (DataW.trod enc P W 0 sp held n e)=ys[i]?)->
 ∃ (xs:List (den T)) (ls:List AV) (vs:List Value),xs.length=len/\kT (EV N0 T) xs ls/\bF (gI W) W ls vs/\vs.length=len*size T/\eh W b o vs/\(∀ x,x∈xs->Bd T x)/\List.foldr (fun e n=>zI T e+n) 0 xs<=EM (ys.map (·.1))
 |0,ys,hy,_=>by
  have:ys=[]:=List.eq_nil_of_length_eq_zero hy
  subst this
  exact⟨[],[],[],rfl,rfl,by simp only[bF],by simp,fun j v h=>by simp at h,fun x h=>(by cases h),Nat.zero_le _⟩
 |len+1,ys,hy,h=>by
  obtain⟨ys',y,e⟩: ∃ ys' y,ys=ys'++[y]:=by
   have:ys≠[]:=fun e=>by rw[e]at hy;simp at hy
   exact⟨ys.dropLast,ys.getLast this,(List.dropLast_concat_getLast this).symm⟩
  subst e
  have hl:ys'.length=len:=by simpa using hy
  obtain⟨xs,ls,vs,h1,h2,h3,h4,h5,h6,h7⟩:=EF K IH hs len ys' hl fun i hi=>by
   rw[h i (by omega),List.getElem?_append_left (by omega)]
  have hy:=h len (by omega)
  rw[List.getElem?_append_right (by omega),hl,Nat.sub_self]at hy
  have hy:_=some y:=hy
  rw[Option.bind_eq_some_iff]at hy
  obtain⟨cs,hc,hy⟩:=hy
  obtain⟨x,bs,k1,k2,k3,k4⟩:=IH cs y hy
  obtain⟨c1,c2⟩:=EE hc
  refine⟨xs++[x],ls++bs,vs++cs,by simp[h1],h2.app ⟨bs,[],by simp,k1,rfl⟩,h3.append k2,by rw[List.length_append,h4,c1,hs,Nat.succ_mul],fun j v hj=>?_,fun z hz=>?_,?_⟩
  ·rw[List.getElem?_append]at hj
   by_cases q:j<vs.length
   ·rw[if_pos q]at hj
    exact h5 j v hj
   ·rw[if_neg q]at hj
    have gB:j - vs.length<cs.length:=(List.getElem?_eq_some_iff.1 hj).1
    have:=c2 (j - vs.length) (by omega)
    rw[hj,add_plain]at this
    rw[<-this]
    congr 2
    omega
  ·rcases List.mem_append.1 hz with hz|hz
   ·exact h6 z hz
   ·have:z=x:=by simpa using hz
    rw[this]
    exact k3
  ·have key: ∀ (l:List (den T)),List.foldr (fun e n=>zI T e+n) 0 (l++[x])=List.foldr (fun e n=>zI T e+n) 0 l+zI T x:=by
    intro l
    induction l with
    |nil=>simp
    |cons a l ih=>simp only[List.cons_append,List.foldr_cons,ih];omega
   rw[key,List.map_append,K.app,List.map_cons,List.map_nil,K.cons,K.nil]
   omega
theorem Cf(K:Kh bk EM): ∀ (n:Nat) (fuel:Nat) (T:Ty) (t:Nat) (cs:List Value) (y:DataW H×List MemPlace),otB P n T t=true->DataW.trod enc P W 0 sp held fuel t cs=some y->Op W T cs (bk y.1)
 |0,_,_,_,_,_,h,_=>by cases h
 |n+1,fuel,T,t,cs,y,h,hy=>by
  unfold otB at h
  split at h
  ·rename_i k hu
   split at h
   ·rename_i k'
    have h:=of_decide_eq_true h
    subst h
    obtain⟨z,e1,_,e3⟩:=DataW.trod_int hu hy
    subst e1
    exact⟨z,[.int k z],rfl,by simp only[bF,VR];exact⟨_,_,rfl,rfl,rfl⟩,e3,K.one _⟩
   ·cases h
  ·rename_i hu
   split at h
   ·obtain⟨b,e1,_⟩:=DataW.trod_bool hu hy
    subst e1
    exact⟨b,[.bool b],rfl,by simp only[bF,VR];exact⟨_,_,rfl,rfl,rfl⟩,trivial,K.one _⟩
   ·cases h
  ·rename_i hu
   split at h
   ·obtain⟨s,e1,e2,e3⟩:=DataW.trod_string hu hy
    subst e1
    subst e2
    exact⟨s,[.sc (.string s)],rfl,by simp only[bF,VR];exact⟨_,_,rfl,⟨rfl,rfl⟩,rfl⟩,e3,K.str _⟩
   ·cases h
  ·rename_i e hu
   split at h
   ·rename_i T'
    rw[Bool.and_eq_true,Bool.and_eq_true]at h
    obtain⟨h1,h2,h3⟩:=h
    have h1:=Nat.eq_of_beq_eq_true h1
    have h2:0<size T':=by simpa using h2
    rcases DataW.trod_slice hu hy with⟨e1,_⟩|⟨a,len,cap,elems,rest,m,rfl,e1,e2,_,VC,hcm,hel,hx,_,_⟩
    ·subst e1
     exact⟨[],[.ly 0 []],⟨_,rfl,.inr ⟨[],rfl,.inl rfl⟩⟩,by simp only[bF,VR];exact⟨_,_,rfl,⟨none,0,rfl,Nat.le_refl _,.inl ⟨trivial,trivial⟩⟩,rfl⟩,⟨Nat.zero_le _,fun _ h=>by cases h⟩,K.one _⟩
    ·subst e1
     by_cases h0:len=0
     ·subst h0
      exact⟨[],[.ly 0 []],⟨_,rfl,.inr ⟨[],rfl,.inl rfl⟩⟩,by simp only[bF,VR];exact⟨_,_,rfl,⟨some a,cap,rfl,Nat.zero_le _,.inl ⟨trivial,trivial⟩⟩,rfl⟩,⟨Nat.zero_le _,fun _ h=>by cases h⟩,K.one _⟩
     ·subst e2
      have hx': ∀ i,i<len-> ∃ y,(W.cells? 0 (a.add (i*P.cellsOf e)) (P.cellsOf e)).bind (DataW.trod enc P W 0 sp held m e)=some y:=fun i hi=>by
       rw[hx i hi,List.getElem?_eq_getElem (by omega)]
       exact⟨_,rfl⟩
      obtain⟨b,o,spot⟩:=a
      have hsp:spot=none:=by
       obtain⟨y,hy⟩:=hx' 0 (by omega)
       rw[Option.bind_eq_some_iff]at hy
       obtain⟨cs,hc,_⟩:=hy
       obtain⟨c1,c2⟩:=EE hc
       have q:=c2 0 (by omega)
       rw[List.getElem?_eq_getElem (by omega)]at q
       have:=World.cell?_spot q
       simpa[Addr.add]using this
      subst hsp
      obtain⟨xs,ls,vs,k1,k2,k3,k4,k5,k6,k7⟩:=EF K (T:=T') (b:=b) (o:=o) (fun cs y=>Cf K n m T' e cs y h3) h1 len elems hel fun i hi=>by
       have:=hx i hi
       rw[add_plain,h1]at this
       rw[h1]
       exact this
      refine⟨xs,[.ly xs.length ls],⟨_,rfl,.inr ⟨ls,k2,.inl rfl⟩⟩,?_,⟨by rw[k1];omega,k6⟩,Nat.le_trans (by show 1+_<=_;rw[Nat.add_comm];exact Nat.succ_le_succ k7) (K.ae _ _)⟩
      simp only[bF,VR]
      refine⟨_,_,rfl,⟨some ⟨b,o,none⟩,cap,by rw[k1],by rw[k1];exact VC,.inr ⟨b,o,vs,rfl,?_,k5,k3⟩⟩,rfl⟩
      have hv0:0<vs.length:=by rw[k4];exact Nat.mul_pos (by omega) h2
      exact P0 (k5 0 _ (List.getElem?_eq_getElem hv0))
   ·cases h
  ·rename_i fs hu
   rw[Bool.and_eq_true]at h
   obtain⟨h1,h2⟩:=h
   obtain⟨xs,m,rfl,e2,hl,hxl,hf⟩:=DataW.trod_struct hu hy
   subst e2
   have:=we K (n:=m) (fun T t cs y=>Cf K n m T t cs y) fs.toList xs 0 T cs h2 (by simp[hxl]) fun i f hm=>hf i f (by simpa using hm)
   rw[List.drop_zero]at this
   have e:cs.take (size T)=cs:=by
    rw[<-Nat.eq_of_beq_eq_true h1,<-hl,List.take_length]
   rw[e]at this
   obtain⟨x,bs,k1,k2,k3,k4⟩:=this
   exact⟨x,bs,k1,k2,k3,Nat.le_trans k4 (K.agg _)⟩
  ·cases h
end
end Go.Proofs.Vd

noncomputable section
namespace Go.Proofs.Vd
open Go.Ab Go.Ab.Lf Go.ChangeShapes Go.WideShapes Go.ChangeAt Go.RowKit
set_option maxRecDepth 100000
theorem afS{g:ak yW->Lf.T (ak tA)}(ok:(iy (Ps [.im cP,.n .u32]) [] (Ps [.bo]) yW tA g).Ok 3 g4){l:List (den cP)}{a:Int}(hg:(g (l,a,())).val=some (true,())){s:AV}(hs:EV N0 (.ae cP) l [s]): ∃ n,isT (g4 n n 3 [s,.int .u32 a] (fS 0))=true:=by
 obtain⟨E0,hE⟩: ∃ E0:En,E0=⟨fun _=>⟨.any,0⟩,fun r=>[s].getD (r - 1) .any,N0,fun _=>.any⟩:=⟨_,rfl⟩
 have e:((iy (Ps [.im cP,.n .u32]) [] (Ps [.bo]) yW tA g).f (aA yW (l,a,()))).val=some (aA tA (true,())):=vH (ti:=yW) (to:=tA) (x:=(l,a,())) (y:=(true,())) hg
 have hP:gp (Ps [.im cP,.n .u32]) (aA yW (l,a,())) Lf.e1=some ([.c 1 (.ae cP) l,.c 0 u32 a],[],⟨2,.nil⟩):=rfl
 have hS:SR E0 (iH ⟨2,.nil⟩) (fS 0):=by
  have et:iH ⟨2,.nil⟩=(⟨2,.nil⟩:Hq):=rfl
  rw[et]
  have no: ∀ r R,¬ (Tr.nil:Tr Lf.Row).get r=some R:=fun r R h=>by
   have h:(none:Option Lf.Row)=some R:=h
   cases h
  refine⟨?_,?_,?_,?_⟩
  ·intro r R h;exact(no r R h).elim
  ·rintro r r' id ⟨R,h,_⟩;exact(no r R h).elim
  ·rintro r id ⟨R,h,_⟩;exact(no r R h).elim
  ·intro id row h
   subst hE
   cases h
 have hv:Vs E0 2 [.c 1 (.ae cP) l,.c 0 u32 a] [s,.int .u32 a]:=by
  subst hE
  exact .cons (.c hs fun _=>⟨by decide,rfl⟩) (.cons (.c rfl fun k=>(k rfl).elim) .nil)
 obtain⟨c,h',E1,ws,H1,⟨M,hM⟩,_,_,hQ,hV⟩:=ok _ _ _ _ E0 (fS 0) _ e hP hv hS
 have hM:g4 M M 3 [s,.int .u32 a] (fS 0)=.ok c h':=hM M M (Nat.le_refl _) (Nat.le_refl _)
 have hQ:some (([.c 0 .bool true]:List Sv),([]:List Pl),Lf.e1)=some (ws,[],H1):=hQ
 cases hQ
 cases hV with
 |cons k _=>
  cases k with
  |c k _=>
   have k:[c]=[.bool true]:=k
   injection k with k
   subst k
   exact⟨M,by rw[hM];rfl⟩
theorem U5(l:List (den cP))(h: ∀ g,g∈l->Ey g)(a:Int)(a0:0<=a)(a1:a<4294967296){s:AV}(hs:EV N0 (.ae cP) l [s]): ∃ n,isT (g4 n n 3 [s,.int .u32 a] (fS 0))=true:=by
 have W:=aaY fun _=>true
 rcases afc (fun _=>true) l h a a0 a1 with e|e
 ·have sm:=uV (bW _) (bW _) (k:=ky3 (fun _=>true) (l,a,())) (m:=my3 (fun _=>true) (l,a,())) e
  refine afS (aaO W) ?_ hs
  show(bif ky3 (fun _=>true) (l,a,())then some (my3 (fun _=>true) (l,a,()))else none)=_
  rw[sm.1,sm.2]
  rfl
 ·have sm:=uV (bW _) (bW _) (k:=kz3 (fun _=>true) (l,a,())) (m:=mz3 (fun _=>true) (l,a,())) e
  refine afS (aaM W) ?_ hs
  show(bif kz3 (fun _=>true) (l,a,())then some (mz3 (fun _=>true) (l,a,()))else none)=_
  rw[sm.1,sm.2]
  rfl
theorem aaZ{g:G}{W:Go.World}: @nO ioS g W:=by
 intro p hp
 cases hp
theorem afT{l:List (den cP)}(h:Bd (.ae cP) l): ∀ g,g∈l->Ey g:=by
 intro g hg
 have h1:Bd cP g:=h.2 g hg
 have h2:(Lit.int .u32 g.1).wf=true:=h1.1
 have h3: ∀ d:Int,d∈g.2->(Lit.int .u8 d).wf=true:=h1.2.2
 refine⟨?_,fun d hd=>?_⟩
 ·simp[Lit.wf,IntKind.min,IntKind.max,IntKind.bits,IntKind.signed]at h2
  obtain⟨z,hz⟩: ∃ z:Int,z=g.1:=⟨_,rfl⟩
  have h4:0<=z/\z<=4294967295:=by rw[hz];exact h2
  obtain⟨n,hn⟩:=Int.eq_ofNat_of_zero_le h4.1
  exact⟨n,hz.symm.trans hn,by omega⟩
 ·have:=h3 d hd
  simp[Lit.wf,IntKind.min,IntKind.max,IntKind.bits,IntKind.signed]at this
  omega
theorem P2{W:Go.World}{l:List (den cP)}{s:List AV}{v:Value}(B:Bd (.ae cP) l)(h:EV N0 (.ae cP) l s)(hv: @bF ioS (@gI ioS W) W s [v]){a:Int}(wa:(Lit.int .u32 a).wf=true):
 Calls Tryz.prog 3 #[v,.int .u32 a] W fun e W'=>e=.returned (.bool true)/\Below W.heap.size W W':=by
 obtain⟨s1,rfl,h1⟩:=h
 have ha:0<=a/\a<4294967296:=by
  simp[Lit.wf,IntKind.min,IntKind.max,IntKind.bits,IntKind.signed]at wa
  omega
 obtain⟨n,hn⟩:=U5 l (afT B) a ha.1 ha.2 (s:=s1) ⟨_,rfl,h1⟩
 refine @Xm ioS Tryz.prog _ (@UL ioS n n) 3 _ [v,.int .u32 a] hn W (fun b=>b<W.heap.size) (fun b h=>h) aaZ ?_
 simp only[bF]at hv ⊢
 obtain⟨w,r,e1,e2,e3⟩:=hv
 injection e1 with e1 e4
 subst e1
 subst e4
 exact⟨_,_,rfl,e2,_,_,rfl,by simp only[VR],rfl⟩
end Go.Proofs.Vd
