import Derived.Test.YtjeanplhkkpdmaaGreatDoorSY0
import Derived.Test.YtjeanplhkkpdmaaGreatDoorSA
import Derived.OpenShut
import Derived.ChangeSlices
noncomputable section
namespace Go.Ab
open Go.Ab.Lf
def wrF(lk:FuncId->List AV->Option AV)(c:kh):kh:=fun f args h=>match lk f args with
 |some v=>.ok v h
 |none=>c f args h
theorem KG[Io]{P:Program}{lk:FuncId->List AV->Option AV}(ht: ∀ f args v,lk f args=some v->vo P f args v){call:kh}(hc:mb P call):mb P (wrF lk call):=by
 intro f args h v h' e;unfold wrF at e;cases ht1:lk f args with
 |none=>rw[ht1]at e;exact hc f args h v h' e
 |some v1=>
  rw[ht1]at e;cases e;obtain⟨k1,k2⟩:=ht f args v ht1;refine⟨k1,fun g w vs H hv=>?_⟩;refine(k2 g w vs H.mM H.tb hv).mono ?_;rintro e w' ⟨x,rfl,K,hx⟩
  obtain⟨g',hg'⟩: ∃ g':G,g'=⟨g.m,fun b=>g.mM b∨(w.heap.size<=b/\b<w'.heap.size)⟩:=⟨_,rfl⟩
  have hO: ∀ b,qM g' h b->qM g h b:=by
   rintro b ⟨id,cs,s,e,m⟩;rw[hg']at m;exact⟨id,cs,s,e,m⟩
  have M:Bc g w g' w':=⟨fun _ _ e=>by rw[hg'];exact e,fun b i=>by rw[hg'];exact .inl i,fun b i=>K.zj b (H.mM b i),K.rows⟩
  refine⟨x,g',rfl,⟨K.os,K.tape,K.output,K.size,Nat.le_refl _,M.m,fun b hb _=>K.zj b hb,K.rows,M.mM,fun b i=>?_,fun b o=>.inl (hO b o)⟩,⟨fun id qk=>?_,fun id cs e=>?_,fun id Eg b s s' cs cs' e1 e2 m1 m2=>?_,fun b i=>?_,vm.mono M H.tb⟩,?_⟩
  ·rw[hg']at i
   rcases i with i|i
   ·exact .inl i
   ·exact .inr (.inr i.1)
  ·rw[hg'];exact H.fresh id qk
  ·obtain⟨b,s,C,el,us,h1,h2,h3,h4,h5⟩:=H.cz id cs e;have hb:=(Array.getElem?_eq_some_iff.1 h2).1;refine⟨b,s,C,el,us,M.m _ _ h1,by rw[K.zj b hb];exact h2,?_,jy.ny M _ _ h4,h5⟩;rw[hg'];rintro(i|i)
   ·exact h3 i
   ·omega
  ·rw[hg']at m1 m2;exact H.inj id Eg b s s' cs cs' e1 e2 m1 m2
  ·rw[hg']at i
   rcases i with i|i
   ·exact Nat.lt_of_lt_of_le (H.mM b i) K.size
   ·exact i.2
  ·refine VR.ny (⟨(fun _ _ e=>by cases e),(fun b i=>by rw[hg'];exact .inr i),fun _ _=>rfl,fun _=>Nat.le_refl _⟩:Bc _ _ g' w') _ _ hx
end Go.Ab
namespace Go.Ab.Lf
open Go.Ab
end Go.Ab.Lf
namespace Go.Ab
instance ioS:Io:=⟨fun _=>0,[]⟩
end Go.Ab
namespace Go.Proofs.Vd
open Go.Ab Go.Ab.Lf Go.RowKit
set_option maxRecDepth 100000
def isC(f:FuncId):Bool:=Nat.beq f 59||Nat.beq f 84||Nat.beq f 85||Nat.beq f 86||Nat.beq f 87||Nat.beq f 88||Nat.beq f 90||Nat.beq f 91||Nat.beq f 92||Nat.beq f 93||Nat.beq f 94||Nat.beq f 144
theorem aqo[Io]{f:FuncId}(h:isC f=true):vo Tryz.prog f [.pR] .pR/\vo Tryz.prog f [.vG 0 []] .pR:=by
 unfold isC at h;simp only[Bool.or_eq_true]at h
 rcases h with((((((((((h|h)|h)|h)|h)|h)|h)|h)|h)|h)|h)|h
 ·obtain rfl:=Nat.eq_of_beq_eq_true h;exact Tryz.Un Tryz.call59 Tryz.aCE
 ·obtain rfl:=Nat.eq_of_beq_eq_true h;exact Tryz.Un Tryz.call84 Tryz.aCu
 ·obtain rfl:=Nat.eq_of_beq_eq_true h;exact Tryz.Un Tryz.call85 Tryz.aCv
 ·obtain rfl:=Nat.eq_of_beq_eq_true h;exact Tryz.Un Tryz.call86 Tryz.aCw
 ·obtain rfl:=Nat.eq_of_beq_eq_true h;exact Tryz.Un Tryz.call87 Tryz.aCx
 ·obtain rfl:=Nat.eq_of_beq_eq_true h;exact Tryz.Un Tryz.call88 Tryz.aCy
 ·obtain rfl:=Nat.eq_of_beq_eq_true h;exact Tryz.Un Tryz.call90 Tryz.aCz
 ·obtain rfl:=Nat.eq_of_beq_eq_true h;exact Tryz.Un Tryz.call91 Tryz.aCA
 ·obtain rfl:=Nat.eq_of_beq_eq_true h;exact Tryz.Un Tryz.call92 Tryz.aCB
 ·obtain rfl:=Nat.eq_of_beq_eq_true h;exact Tryz.Un Tryz.call93 Tryz.aCC
 ·obtain rfl:=Nat.eq_of_beq_eq_true h;exact Tryz.Un Tryz.call94 Tryz.aCD
 ·obtain rfl:=Nat.eq_of_beq_eq_true h;exact Tryz.Un Tryz.call144 Tryz.awH
def lkC(f:FuncId)(az:List AV):Option AV:=bif isC f then(bif qG [.pR] az then some .pR else(bif qG [.vG 0 []] az then some .pR else none))else none
theorem Pw[Io]: ∀ f az v,lkC f az=some v->vo Tryz.prog f az v:=by
 intro f az v h;unfold lkC at h;cases hc:isC f with
 |false=>rw[hc]at h;cases h
 |true=>
  obtain⟨k1,k2⟩:=aqo hc;rw[hc,cond_true]at h;cases h1:qG [.pR] az with
  |true=>rw[h1]at h;cases h;obtain rfl:=p' _ _ h1;exact k1
  |false=>
   rw[h1,cond_false]at h;cases h2:qG [.vG 0 []] az with
   |true=>rw[h2]at h;cases h;obtain rfl:=p' _ _ h2;exact k2
   |false=>rw[h2]at h;cases h
def aCG(n d:Nat):kh:=wrF lkC (VY Tryz.gt (wrF lkC) n d)
theorem ah0[Io](n d:Nat):mb Tryz.prog (aCG n d):=KG Pw (FC (Qa Tryz.mixed) Tryz.gts (fun _ hc=>KG Pw hc) n d)
theorem kn5[Io]:vo Tryz.prog 5 [] (.bool true):=Sl (ah0 1000 60) (by kernel_rfl) (by kernel_rfl)
def Nk(f:FuncId)(az:List AV):Option AV:=bif isC f then lkC f az else
 bif Nat.beq f 5 then(match az with| []=>some (.bool true)| _=>none)else none
theorem aaB[Io]: ∀ f az v,Nk f az=some v->vo Tryz.prog f az v:=by
 intro f az v h;unfold Nk at h;cases hc:isC f with
 |true=>rw[hc]at h;exact Pw f az v h
 |false=>
  rw[hc,cond_false]at h;cases h10:Nat.beq f 5 with
  |true=>
   rw[h10,cond_true]at h;obtain rfl:=Nat.eq_of_beq_eq_true h10;split at h
   ·cases h;exact kn5
   ·cases h
  |false=>rw[h10]at h;cases h
def oK(n d:Nat):kh:=wrF Nk (VY Tryz.gt (wrF Nk) n d)
theorem ah1[Io](n d:Nat):mb Tryz.prog (oK n d):=KG aaB (FC (Qa Tryz.mixed) Tryz.gts (fun _ hc=>KG aaB hc) n d)
theorem KH{f:FuncId}{az:List AV}{v:AV}{h:Hp}(hl:Nk f az=some v)(n d:Nat):oK n d f az h=.ok v h:=by
 show(match Nk f az with|some v=>Ro.ok v h|none=>_)=_;rw[hl]
theorem wF{f:FuncId}{b:Cv}(hf:Tryz.xs.get f=some b){n d:Nat}{az:List AV}{h:Hp}(hl:Nk f az=none):oK n (d+1) f az h=FY b.fb n (oK n d) az h:=by
 show(match Nk f az with|some v=>Ro.ok v h|none=>LK Tryz.gt n (oK n d) f az h)=_;rw[hl];show LK Tryz.gt n (oK n d) f az h=_;unfold LK;rw[Tryz.awG hf];rfl
theorem aqp{f:FuncId}{b:Cv}(hC:isC f=true)(hf:Tryz.xs.get f=some b): ∀ n d h,FY b.fb n (oK n d) [.pR] h=.bad/\FY b.fb n (oK n d) [.vG 0 []] h=.bad:=by
 unfold isC at hC;simp only[Bool.or_eq_true]at hC
 rcases hC with((((((((((h|h)|h)|h)|h)|h)|h)|h)|h)|h)|h)|h
 ·obtain rfl:=Nat.eq_of_beq_eq_true h;obtain rfl:b=Tryz.x59:=(Option.some.inj hf).symm;exact fun n d h=>⟨by kernel_rfl,by kernel_rfl⟩
 ·obtain rfl:=Nat.eq_of_beq_eq_true h;obtain rfl:b=Tryz.x84:=(Option.some.inj hf).symm;exact fun n d h=>⟨by kernel_rfl,by kernel_rfl⟩
 ·obtain rfl:=Nat.eq_of_beq_eq_true h;obtain rfl:b=Tryz.x85:=(Option.some.inj hf).symm;exact fun n d h=>⟨by kernel_rfl,by kernel_rfl⟩
 ·obtain rfl:=Nat.eq_of_beq_eq_true h;obtain rfl:b=Tryz.x86:=(Option.some.inj hf).symm;exact fun n d h=>⟨by kernel_rfl,by kernel_rfl⟩
 ·obtain rfl:=Nat.eq_of_beq_eq_true h;obtain rfl:b=Tryz.x87:=(Option.some.inj hf).symm;exact fun n d h=>⟨by kernel_rfl,by kernel_rfl⟩
 ·obtain rfl:=Nat.eq_of_beq_eq_true h;obtain rfl:b=Tryz.x88:=(Option.some.inj hf).symm;exact fun n d h=>⟨by kernel_rfl,by kernel_rfl⟩
 ·obtain rfl:=Nat.eq_of_beq_eq_true h;obtain rfl:b=Tryz.x90:=(Option.some.inj hf).symm;exact fun n d h=>⟨by kernel_rfl,by kernel_rfl⟩
 ·obtain rfl:=Nat.eq_of_beq_eq_true h;obtain rfl:b=Tryz.x91:=(Option.some.inj hf).symm;exact fun n d h=>⟨by kernel_rfl,by kernel_rfl⟩
 ·obtain rfl:=Nat.eq_of_beq_eq_true h;obtain rfl:b=Tryz.x92:=(Option.some.inj hf).symm;exact fun n d h=>⟨by kernel_rfl,by kernel_rfl⟩
 ·obtain rfl:=Nat.eq_of_beq_eq_true h;obtain rfl:b=Tryz.x93:=(Option.some.inj hf).symm;exact fun n d h=>⟨by kernel_rfl,by kernel_rfl⟩
 ·obtain rfl:=Nat.eq_of_beq_eq_true h;obtain rfl:b=Tryz.x94:=(Option.some.inj hf).symm;exact fun n d h=>⟨by kernel_rfl,by kernel_rfl⟩
 ·obtain rfl:=Nat.eq_of_beq_eq_true h;obtain rfl:b=Tryz.aly:=(Option.some.inj hf).symm;exact fun n d h=>⟨by kernel_rfl,by kernel_rfl⟩
theorem IE: ∀ f b,bkD f=some b->sJ oK f b:=by
 intro f b hb n d az h c h' e;unfold bkD at hb;cases hx:(Nat.beq f 5||Nat.beq f 163)with
 |true=>rw[hx]at hb;cases hb
 |false=>
  rw[hx,cond_false]at hb;rw[Bool.or_eq_false_iff]at hx;obtain⟨h5,_⟩:=hx;cases hC:isC f with
  |false=>
   rw[wF hb (by unfold Nk;rw[hC,h5];rfl)];exact e
  |true=>
   obtain⟨q1,q2⟩:=aqp hC hb n d h;have hl:Nk f az=none:=by
    unfold Nk;rw[hC,cond_true];unfold lkC;rw[hC,cond_true];cases h1:qG [.pR] az with
    |true=>obtain rfl:=p' _ _ h1;rw[q1]at e;cases e
    |false=>
     rw[cond_false];cases h2:qG [.vG 0 []] az with
     |true=>obtain rfl:=p' _ _ h2;rw[q2]at e;cases e
     |false=>rfl
   rw[wF hb hl];exact e
end Go.Proofs.Vd
noncomputable section
namespace Go.Proofs.Vd
open Go.Ab Go.Ab.Lf Go.RowKit
set_option maxRecDepth 100000
abbrev rC(c:AV):Cv:=Go.Ab.X.ayQ 8 [.tmp 2] fun _ _=>(Go.Ab.X.lF (Go.Ab.X.cRg (Go.Ab.X.st 2 (Go.Ab.X.pW (Go.Ab.X.oC c)) Go.Ab.X.fi)) Go.Ab.X.ks)
theorem ah2(c0:AV)(f:FuncId):sJ (fun _ _ _ _ h=>.ok c0 h) f (rC c0):=by
 intro n d az h c h' e;have e:(oL (Nat.ble (len az) 8) (.ok c0 h) .bad:Go.Ab.Ro)=.ok c h':=e;cases hb:Nat.ble (len az) 8 with
 |true=>rw[hb]at e;exact e
 |false=>rw[hb]at e;cases e
theorem Rm(cb:cx):vu (fun _ _ _=>.bad) cb:=fun _ _ _ _ _ _ _ _ _ _ e=>by cases e
theorem awI{P Q:n9}{ti to:List Ty}{g:ca ti->Lf.T (ca to)}{f:FuncId}{cb:cx}
 (k: ∀ x y args H0 (E0:En) h az,(g x).val=some y->nA P (cg ti x) e1=some (args,[],H0)->Vs E0 H0.next args az->SR E0 (oV H0) h-> ∃ c g',(g' x).val=some y/\(kR P [] Q ti to g').Ok f (fun _ _ _ _ h=>.ok c h)/\ ∀ n d,cb n (d+1) f az h=.ok c h):(kR P [] Q ti to g).Ok f cb:=by
 intro pl q args H0 E0 h az e hP hv hS;obtain⟨x,y,rfl,h1,rfl⟩:=Df e;obtain⟨c,g',hg,k1,k2⟩:=k x y args H0 E0 h az h1 hP hv hS;obtain⟨c',h',E1,ws,H1,⟨M,hM⟩,r⟩:=k1 _ (cg to y) _ _ E0 h az (GB hg) hP hv hS;have hM:=hM M M (Nat.le_refl _) (Nat.le_refl _);cases hM;refine⟨_,_,E1,ws,H1,⟨1,fun n d _ hd=>?_⟩,r⟩
 obtain⟨d,rfl⟩: ∃ d',d=d'+1:=⟨d - 1,by omega⟩
 exact k2 n d
theorem ajK{P Q:n9}{ti to:List Ty}{g:ca ti->Lf.T (ca to)}{f:FuncId}{c:AV}(e: ∀ x y,(g x).val=some y->(mN P [] Q (fun _=>none) (rC c) 3 (fun _ _ _=>.bad) (cg ti x)).val=some (cg to y)):(kR P [] Q ti to g).Ok f (fun _ _ _ _ h=>.ok c h):=
 j4 (Rm _) (ah2 c f) rfl (cp _) (m:=3) rfl fun x y h=>e x y h
abbrev PI(t:Ty):n9:=.cons (.im t) .nil
abbrev PO(t:Ty):n9:=.cons (.ow t) .nil
theorem Nl{t:Ty}{f:FuncId}{c:AV}(e:(mN (PI t) [] (PO t) (fun _=>none) (rC c) 3 (fun _ _ _=>.bad) (cg [.cq t] ([],()))).val=some (cg [.cq t] ([],()))):(kR (PI t) [] (PO t) [.cq t] [.cq t] fun x=>.ck (decide (List.length x.1=0)) (.ok ([],()))).Ok f (fun _ _ _ _ h=>.ok c h):=by
 refine ajK ?_;rintro⟨x,⟨⟩⟩ q h;obtain⟨h1,h⟩:=Lf.T.cw h;cases h;obtain rfl:x=[]:=List.eq_nil_of_length_eq_zero (of_decide_eq_true h1);exact e
theorem qh{t:Ty}{f:FuncId}{b:Cv}{B sz:Nat}(hb:bkD f=some b)(hx:Tryz.xs.get f=some b)(vU:Nat.ble b.ntmps 512=true)(hC:isC f=true)(hB:B*sz<=70368744177664/\B<=70368744177664)
 (e: ∀ x:List (den t),(mN (PI t) [] (PO t) (fun _=>none) b 3 (fun _ _ _=>.bad) (cg [.cq t] (x,()))).val=cy (!(Nat.beq (List.length x) 0)) (cy (roomy sz (0+List.length x)) (some (cg [.cq t] (app [] x,())))))
 (e1':(mN (PI t) [] (PO t) (fun _=>none) (rC .pR) 3 (fun _ _ _=>.bad) (cg [.cq t] ([],()))).val=some (cg [.cq t] ([],())))
 (e2':(mN (PI t) [] (PO t) (fun _=>none) (rC .xr) 3 (fun _ _ _=>.bad) (cg [.cq t] ([],()))).val=some (cg [.cq t] ([],())))
 (e3':(mN (PI t) [] (PO t) (fun _=>none) (rC (.sc (.slice none 0 0))) 3 (fun _ _ _=>.bad) (cg [.cq t] ([],()))).val=some (cg [.cq t] ([],())))
 (s2: ∀ n d h,FY b.fb n (oK n d) [.xr] h=.ok .xr h)(s3: ∀ n d h,FY b.fb n (oK n d) [.sc (.slice none 0 0)] h=.ok (.sc (.slice none 0 0)) h)(s4: ∀ n d h id base,FY b.fb n (oK n d) [.my id base 0 (size t)] h=.ok .xr h):
 (kR (PI t) [] (PO t) [.cq t] [.cq t] fun x=>.ck (decide (List.length x.1<=B)) (.ok (x.1,()))).Ok f oK:=by
 have lkE:Nk f [.pR]=some .pR:=by unfold Nk lkC;rw[hC];rfl
 have lkI:Nk f [.vG 0 []]=some .pR:=by unfold Nk lkC;rw[hC];rfl
 have nx: ∀ az,qG [.pR] az=false->qG [.vG 0 []] az=false->Nk f az=none:=by
  intro az h1 h2;unfold Nk lkC;rw[hC,h1,h2];rfl
 have hN:(kR (PI t) [] (PO t) [.cq t] [.cq t] fun x=>.ck (decide (List.length x.1<=B)&& !decide (List.length x.1=0)) (.ok (x.1,()))).Ok f oK:=by
  refine j4 (Rm _) (IE f b hb) vU (cp _) (m:=3) rfl ?_;rintro⟨x,⟨⟩⟩ q h;obtain⟨h1,h⟩:=Lf.T.cw h;cases h;simp only[Bool.and_eq_true,Bool.not_eq_true',decide_eq_true_eq,decide_eq_false_iff_not]at h1;have c1:Nat.beq (List.length x) 0=false:=by
   cases hb:Nat.beq (List.length x) 0 with
   |false=>rfl
   |true=>exact(h1.2 (Nat.eq_of_beq_eq_true hb)).elim
  refine(e x).trans ?_;rw[c1,show roomy sz (0+List.length x)=true from tC.2 ⟨by rw[Nat.zero_add];exact Nat.le_trans (Nat.mul_le_mul_right sz h1.1) hB.1,by have:=h1.1;omega⟩,cZ];rfl
 intro pl q args H0 E0 h az e0 hP hv hS;obtain⟨⟨x,⟨⟩⟩,⟨y,⟨⟩⟩,rfl,h1,rfl⟩:=Df e0;obtain⟨h2,h3⟩:=Lf.T.cw h1;have h3:y=x:=by
  injection h3 with h3;exact(congrArg Prod.fst h3).symm
 subst h3
 by_cases hy:y=[]
 ·subst hy;have hP2:some (([.c 1 (.cq t) []]:List Sv),([]:List Pl),(⟨2,.nil⟩:Hq))=some (args,[],H0):=(Te YL).symm.trans hP;cases hP2;obtain⟨a,rfl,ha⟩: ∃ a,az=[a]/\EV E0.G (.cq t) [] [a]:=by
   cases hv with
   |cons ha hr=>
    cases hr;cases ha with
    |c k _=>exact⟨_,rfl,k⟩
  have fin: ∀ c0:AV,(kR (PI t) [] (PO t) [.cq t] [.cq t] fun x=>.ck (decide (List.length x.1=0)) (.ok ([],()))).Ok f (fun _ _ _ _ h=>.ok c0 h)->(∀ n d,oK n (d+1) f [a] h=.ok c0 h)-> ∃ c h' E1 ws H1,Ev (fun n d=>oK n d f [a] h) (.ok c h')/\Ox E0 E1 (oV ⟨2,.nil⟩) H1 h h'/\SR E1 H1 h'/\nA (PO t) (cg [.cq t] ([],())) Lf.e1=some (ws,[],H1)/\Vs E1 H1.next ws (c::([]:List Nat).map E0.A):=by
   intro c0 k hc;obtain⟨c,h',E1,ws,H1,⟨M,hM⟩,r⟩:=k _ (cg [.cq t] ([],())) _ _ E0 h [a] (GB (P:=PI t) (ptr:=[]) (Q:=PO t) (ti:=[.cq t]) (to:=[.cq t]) (x:=(([]:List (den t)),())) (y:=(([]:List (den t)),())) rfl) hP hv hS;have hM:=hM M M (Nat.le_refl _) (Nat.le_refl _);cases hM;refine⟨c0,h,E1,ws,H1,⟨1,fun n d _ hd=>?_⟩,r⟩
   obtain⟨d,rfl⟩: ∃ d',d=d'+1:=⟨d - 1,by omega⟩
   exact hc n d
  obtain⟨a',q1,k⟩: ∃ a',[a]=[a']/\Sr E0.G t (EV E0.G t) [] a':=ha;injection q1 with q1;subst q1
  rcases k with⟨k,_⟩|⟨ls,k1,k2⟩
  ·cases a with
   |pR=>exact fin .pR (Nl e1') fun n d=>KH lkE n (d+1)
   |xr=>exact fin .xr (Nl e2') fun n d=>(wF hx (nx _ rfl rfl)).trans (s2 n d h)
   |sc v=>
    obtain rfl:v=.slice none 0 0:=by
     have k:isNil (.sc v)=true:=k;unfold isNil at k;split at k
     ·rename_i n c e
      injection e with e;subst e
      have k:(Nat.beq n 0&&Nat.beq c 0)=true:=by assumption
      rw[Bool.and_eq_true]at k;obtain rfl:=Nat.eq_of_beq_eq_true k.1;obtain rfl:=Nat.eq_of_beq_eq_true k.2;rfl
     ·cases k
    exact fin _ (Nl e3') fun n d=>(wF hx (nx _ rfl rfl)).trans (s3 n d h)
   | _=>cases k
  ·have hl:ls=[]:=k1;subst hl
   rcases k2 with k2|⟨id,base,row,k2,_,_⟩
   ·subst k2
    exact fin .pR (Nl e1') fun n d=>KH lkI n (d+1)
   ·subst k2
    exact fin .xr (Nl e2') fun n d=>(wF hx (nx _ rfl rfl)).trans (s4 n d h id base)
 ·have hn:((kR (PI t) [] (PO t) [.cq t] [.cq t] fun x=>.ck (decide (List.length x.1<=B)&& !decide (List.length x.1=0)) (.ok (x.1,()))).f (cg [.cq t] (y,()))).val=some (cg [.cq t] (y,())):=by
   refine GB (P:=PI t) (ptr:=[]) (Q:=PO t) (ti:=[.cq t]) (to:=[.cq t]) (x:=(y,())) (y:=(y,())) ?_;show(bif (decide (List.length y<=B)&& !decide (List.length y=0))then some (y,())else none)=_;rw[show decide (List.length y<=B)=true from h2,decide_eq_false (fun q=>hy (List.eq_nil_of_length_eq_zero q))];rfl
  exact hN _ _ args H0 E0 h az hn hP hv hS
theorem ah3:(pO jK).Ok 84 oK:=qh (b:=Tryz.x84) (B:=1099511627776) (sz:=48) (by kernel_rfl) (by kernel_rfl) rfl (by kernel_rfl) (by decide) (fun x=>by kernel_rfl) (by kernel_rfl) (by kernel_rfl) (by kernel_rfl) (fun n d h=>by kernel_rfl) (fun n d h=>by kernel_rfl) (fun n d h id base=>by kernel_rfl)
theorem ah4:s63.Ok 85 oK:=qh (b:=Tryz.x85) (B:=1099511627776) (sz:=8) (by kernel_rfl) (by kernel_rfl) rfl (by kernel_rfl) (by decide) (fun x=>by kernel_rfl) (by kernel_rfl) (by kernel_rfl) (by kernel_rfl) (fun n d h=>by kernel_rfl) (fun n d h=>by kernel_rfl) (fun n d h id base=>by kernel_rfl)
theorem ah5:(pO kg).Ok 86 oK:=qh (b:=Tryz.x86) (B:=1099511627776) (sz:=40) (by kernel_rfl) (by kernel_rfl) rfl (by kernel_rfl) (by decide) (fun x=>by kernel_rfl) (by kernel_rfl) (by kernel_rfl) (by kernel_rfl) (fun n d h=>by kernel_rfl) (fun n d h=>by kernel_rfl) (fun n d h id base=>by kernel_rfl)
theorem ah6:(pO cF).Ok 87 oK:=qh (b:=Tryz.x87) (B:=1099511627776) (sz:=16) (by kernel_rfl) (by kernel_rfl) rfl (by kernel_rfl) (by decide) (fun x=>by kernel_rfl) (by kernel_rfl) (by kernel_rfl) (by kernel_rfl) (fun n d h=>by kernel_rfl) (fun n d h=>by kernel_rfl) (fun n d h id base=>by kernel_rfl)
theorem ah7:(pO jQ).Ok 88 oK:=qh (b:=Tryz.x88) (B:=1099511627776) (sz:=40) (by kernel_rfl) (by kernel_rfl) rfl (by kernel_rfl) (by decide) (fun x=>by kernel_rfl) (by kernel_rfl) (by kernel_rfl) (by kernel_rfl) (fun n d h=>by kernel_rfl) (fun n d h=>by kernel_rfl) (fun n d h id base=>by kernel_rfl)
theorem ah8:(pO kf).Ok 90 oK:=qh (b:=Tryz.x90) (B:=1099511627776) (sz:=32) (by kernel_rfl) (by kernel_rfl) rfl (by kernel_rfl) (by decide) (fun x=>by kernel_rfl) (by kernel_rfl) (by kernel_rfl) (by kernel_rfl) (fun n d h=>by kernel_rfl) (fun n d h=>by kernel_rfl) (fun n d h id base=>by kernel_rfl)
theorem ah9:(pO jS).Ok 91 oK:=qh (b:=Tryz.x91) (B:=1099511627776) (sz:=48) (by kernel_rfl) (by kernel_rfl) rfl (by kernel_rfl) (by decide) (fun x=>by kernel_rfl) (by kernel_rfl) (by kernel_rfl) (by kernel_rfl) (fun n d h=>by kernel_rfl) (fun n d h=>by kernel_rfl) (fun n d h id base=>by kernel_rfl)
theorem ah':(pO jV).Ok 92 oK:=qh (b:=Tryz.x92) (B:=1099511627776) (sz:=48) (by kernel_rfl) (by kernel_rfl) rfl (by kernel_rfl) (by decide) (fun x=>by kernel_rfl) (by kernel_rfl) (by kernel_rfl) (by kernel_rfl) (fun n d h=>by kernel_rfl) (fun n d h=>by kernel_rfl) (fun n d h id base=>by kernel_rfl)
theorem aia:(pO jZ).Ok 93 oK:=qh (b:=Tryz.x93) (B:=1099511627776) (sz:=48) (by kernel_rfl) (by kernel_rfl) rfl (by kernel_rfl) (by decide) (fun x=>by kernel_rfl) (by kernel_rfl) (by kernel_rfl) (by kernel_rfl) (fun n d h=>by kernel_rfl) (fun n d h=>by kernel_rfl) (fun n d h id base=>by kernel_rfl)
theorem aib:(pO u8).Ok 94 oK:=qh (b:=Tryz.x94) (B:=1099511627776) (sz:=1) (by kernel_rfl) (by kernel_rfl) rfl (by kernel_rfl) (by decide) (fun x=>by kernel_rfl) (by kernel_rfl) (by kernel_rfl) (by kernel_rfl) (fun n d h=>by kernel_rfl) (fun n d h=>by kernel_rfl) (fun n d h id base=>by kernel_rfl)
theorem aaC:(pO tI).Ok 144 oK:=qh (b:=Tryz.aly) (B:=1099511627776) (sz:=64) (by kernel_rfl) (by kernel_rfl) rfl (by kernel_rfl) (by decide) (fun x=>by kernel_rfl) (by kernel_rfl) (by kernel_rfl) (by kernel_rfl) (fun n d h=>by kernel_rfl) (fun n d h=>by kernel_rfl) (fun n d h id base=>by kernel_rfl)
theorem aic:(pO u64).Ok 59 oK:=qh (b:=Tryz.x59) (B:=1099511627776) (sz:=8) (by kernel_rfl) (by kernel_rfl) rfl (by kernel_rfl) (by decide) (fun x=>by kernel_rfl) (by kernel_rfl) (by kernel_rfl) (by kernel_rfl) (fun n d h=>by kernel_rfl) (fun n d h=>by kernel_rfl) (fun n d h id base=>by kernel_rfl)
end Go.Proofs.Vd
noncomputable section
namespace Go.Proofs.Vd
open Go.Ab Go.Ab.Lf
set_option maxRecDepth 100000
abbrev z8:List Ty:=mT [.cq kf,i64,i64]
abbrev vf:List Ty:=mT []
abbrev zg:List Ty:=[.bool]
def aid:qV:=⟨0,mV Tryz.alx.code 0,[2,24,25,26],(Ps [QN,.im kf,.n .i64,.n .i64]),[⟨.s7,[2],Ps [QN]⟩,⟨.rt,[4],Ps [.bo]⟩]⟩
def awJ:List (Nat×jJ):=[]
theorem aie{V cb}(W:WorldC V cb):j1 cb (awJ):=.nil
def Nm:List Pl->Lf.T Rs:=aid.step (fun _=>none) (j7 (awJ) 3) 3
def awK:mB:=F9 aid (Nm) z8 vf zg
theorem aif{V cb}(W:WorldC V cb):lE Rx.w (awK) (fun n d=>nO (cb n d) n (.bl 0 (.lp aid.body))):=rR (W.toWorld.in (aie W) 3) (cp _) (m:=3) z8 vf zg
def L57:Nat->Option mB:=vF [(0,awK)]
abbrev aaD:List Ty:=mT [i64]
abbrev Nn:List Ty:=[.bool]
def e57:List (Nat×jJ):=[(29,s10)]
theorem aqq{V cb}(W:WorldC V cb):j1 cb (e57):=(.cons (Gs W) .nil)
def t57(x:ca aaD):Lf.T (List Pl):=mN (Ps [pM,.n .i64]) [] (Ps [.bo]) L57 Tryz.alx 3 (j7 (e57) 3) (cg aaD x)
def k57(x:ca aaD):Bool:=mf Nn (t57 x)
def m57(x:ca aaD):ca Nn:=j9 Nn (t57 x)
def aCI:jJ:=kR (Ps [pM,.n .i64]) [] (Ps [.bo]) aaD Nn fun x=>.ck (k57 x) (.ok (m57 x))
theorem aih{V cb}(W:WorldC V cb):(aCI).Ok 138 cb:=
 jP (W.toWorld.in (aqq W) 3) (W.toWorld.st 138 _ rfl) rfl (mz.pH (.cons (b:=aid.body) (by kernel_rfl) (aif W) .nil)) (m:=3) rfl (fun _=>rfl) (fun _=>rfl)
theorem aCJ(y:ca tM)(k:Int)(a:ca z8)(ha:a=(mF y (y.2.2.2.2.2.2.1,(y.2.2.2.2.2.2.1.length:Int),0,())))(z:ca vf)(hz:z=qb Nm z8 vf a)(S:den jK)(hS:S=jO z.1 (kI z.2.1 z.2.2.1 z.2.2.2.2.2.2.2.1))(o:Bool)(ho:o=kG z.1 (kI z.2.1 z.2.2.1 z.2.2.2.2.2.2.2.1)):(t57 (mF y (k,()))).val=
 cy (GU Nm z8 vf zg a) (bif Ez Nm z8 a then
  bif decide (z.2.2.2.2.2.2.2.1= -1)then some (cg Nn (true,()))else
  cy (gT z.1&&(decide (z.2.2.2.2.2.2.2.1<9223372036854775808)&&decide (z.2.1.length<=1099511627776))) (some (cg Nn (bif o then(bif decide ((S.1.length:Int)=0)then decide ((S.2.length:Int)=0)else false)else false,())))
  else some (cg Nn ((qb Nm z8 zg a).1,()))):=by
 subst hS;subst ho;subst hz;subst ha
 kernel_rfl
theorem aqr(y:ca tM):oU Nm (cg z8 (mF y ([],0,0,()))) 0 (cg vf (mF y ())):=by
 refine .last ?_
 kernel_rfl
theorem awL{x:ca tMN}(h:Yq x=true):(t57 x).val=some (cg Nn (mNm x,())):=by
 obtain⟨t,im,fs,tb,me,gl,ex,st,el,co,da,k,⟨⟩⟩:=x;unfold Yq at h;simp only[Bool.and_eq_true]at h;obtain⟨⟨⟨_,hg,_⟩,hx⟩,hT⟩:=h;have hx:ex=[]:=List.eq_nil_of_length_eq_zero (of_decide_eq_true hx);subst hx;have v:=JF (t0:=vf) (t1:=zg) (aqr (t,im,fs,tb,me,gl,[],st,el,co,da,()));refine Eq.trans (aCJ (t,im,fs,tb,me,gl,[],st,el,co,da,()) k _ rfl (t,im,fs,tb,me,gl,[],st,el,co,da,()) v.2.2.symm _ rfl _ rfl) ?_;have a1:GU Nm z8 vf zg (t,im,fs,tb,me,gl,[],st,el,co,da,[],((List.length ([]:List (den kf)):Nat):Int),0,())=true:=v.1;have a2:Ez Nm z8 (t,im,fs,tb,me,gl,[],st,el,co,da,[],((List.length ([]:List (den kf)):Nat):Int),0,())=true:=v.2.1
 have hg2:(decide (st<9223372036854775808)&&decide (List.length im<=1099511627776))=true:=by rw[Bool.and_eq_true];exact hg
 dsimp only;rw[a1,a2,hT,hg2];have e:mNm (t,im,fs,tb,me,gl,[],st,el,co,da,k,())=anm t im fs st:=rfl;rw[e];unfold anm;cases decide (st= -1)with
 |true=>rfl
 |false=>rfl
theorem aii{V:ByteArray->Bool}(W:WorldC V oK):s57.Ok 138 oK:=by
 intro pl q args H0 E0 h az e hP hv hS;obtain⟨x,y,rfl,h1,rfl⟩:=Df e;obtain⟨h2,h3⟩:=Lf.T.cw h1;injection h3 with h3;have s:=qo (awL h2);refine aih W _ _ args H0 E0 h az (GB (g:=fun x=>.ck (k57 x) (.ok (m57 x))) (y:=y) ?_) hP hv hS;show(bif k57 x then some (m57 x)else none)=some y;rw[show k57 x=true from s.1,show m57 x=_ from s.2,<-h3];rfl
theorem aqs:s5a.Ok 5 oK:=by
 unfold s5a;refine awI ?_;rintro⟨⟩ y args H0 E0 h az h1 hP hv hS;have hP2:some (([]:List Sv),([]:List Pl),Lf.e1)=some (args,[],H0):=hP;cases hP2;cases hv;refine⟨.bool true,fun _=>.ok (true,()),h1,ajK ?_,fun n d=>KH rfl n (d+1)⟩;rintro⟨⟩ y' h';cases h'
 kernel_rfl
theorem aij(V:ByteArray->Bool):(s66 V).Ok 163 oK:=by
 unfold s66;intro pl q args H0 E0 h az e;obtain⟨x,y,rfl,h1,rfl⟩:=Df e;obtain⟨h2,_⟩:=Lf.T.cw h1;unfold Ik at h2;rw[Bool.and_eq_true]at h2;have h3:false=true:=h2.2;cases h3
theorem aqt(V:ByteArray->Bool):WI V oK:=
 have W:WorldC V oK:=⟨⟨⟨IE⟩,aij V⟩,ah4⟩
 ⟨⟨⟨W,aii W⟩,ah3,ah5,ah6,ah7,ah8,ah9,ah',aia,aib,aaC⟩,aqs,aic⟩
end Go.Proofs.Vd
noncomputable section
namespace Go.Proofs.Vd
open Go.Ab Go.Ab.Lf Go.ChangeShapes Go.WideShapes Go.ChangeAt Go.RowKit
set_option maxRecDepth 100000
abbrev N0:Nat->Option Rw:=fun _=>none
def otF(P:Go.Program)(ot:Ty->Nat->Bool):List Field->Nat->Ty->Bool
 | [],_,_=>false
 |f::fs,off,T=>match fs with
  | []=>Nat.beq f.offset off&&(Nat.beq (P.cellsOf f.type) (size T)&&ot T f.type)
  | _::_=>match T with
   | .pair A B=>(Nat.beq f.offset off&&(Nat.beq (P.cellsOf f.type) (size A)&&ot A f.type))&&otF P ot fs (off+size A) B
   | _=>false
def arF(P:Go.Program)(e k:Nat):List Field:=(List.range k).map fun i=>{name:= "",type:=e,offset:=i*P.cellsOf e,embedded:=false,tag:= "",pkgPath:= "",byteOffset:=0}
def otB(P:Go.Program):Nat->Ty->Nat->Bool
 |0,_,_=>false
 |n+1,T,t=>match P.underlying t with
  |some (.int k)=>match T with
   | .int k'=>decide (k=k')
   | _=>false
  |some .bool=>match T with
   | .bool=>true
   | _=>false
  |some .string=>match T with
   | .str=>true
   | _=>false
  |some (.slice e)=>match T with
   | .cq T'=>Nat.beq (P.cellsOf e) (size T')&&(Nat.blt 0 (size T')&&otB P n T' e)
   | _=>false
  |some (.struct fs)=>Nat.beq (P.cellsOf t) (size T)&&otF P (otB P n) fs.toList 0 T
  |some (.array k e)=>Nat.beq (P.cellsOf t) (size T)&&otF P (otB P n) (arF P e k) 0 T
  | _=>false
def Bd:(T:Ty)->den T->Prop
 | .int k,x=>(Lit.int k x).wf=true
 | .bool,_=>True
 | .str,x=>ByteArray.size x<=maxLen
 | .cq t,x=>List.length x<=maxLen/\ ∀ e,e∈x->Bd t e
 | .pair a b,x=>Bd a x.1/\Bd b x.2
def Hz:(T:Ty)->den T->Nat
 | .int _,_=>1
 | .bool,_=>1
 | .str,x=>ByteArray.size x+1
 | .cq t,x=>1+List.foldr (fun e n=>Hz t e+n) 0 x
 | .pair a b,x=>Hz a x.1+Hz b x.2
structure T4{H:Type}(bk:DataW H->Nat)(NA:List (DataW H)->Nat):Prop where
 one: ∀ d,1<=bk d
 nil:NA []=0
 cons: ∀ d l,NA (d::l)=bk d+NA l
 str: ∀ b:List UInt8,b.length+1<=bk (.lit (.string b))
 cq: ∀ l m,NA l+1<=bk (.slice l m)
 agg: ∀ l,NA l<=bk (.agg l)
theorem T4.app{H:Type}{bk:DataW H->Nat}{NA:List (DataW H)->Nat}(K:T4 bk NA)(l m:List (DataW H)):NA (l++m)=NA l+NA m:=by
 induction l with
 |nil=>rw[List.nil_append,K.nil];omega
 |cons a l ih=>rw[List.cons_append,K.cons,K.cons,ih];omega
abbrev gIo[Io](W:Go.World):G:=gE fun b=>b<W.heap.size
section
variable [Io]{H:Type}{enc:TypeId×Value->H}{P:Go.Program}{W:Go.World}{sp:Nat->Bool}{held:Bool}{bk:DataW H->Nat}{NA:List (DataW H)->Nat}
omit [Io] in
theorem aaE{b o:Nat}{v:Value}(h:W.cell? ⟨b,o,none⟩=some v):b<W.heap.size:=by
 by_cases hb:b<W.heap.size
 ·exact hb
 ·exfalso;have e:W.heap[b]? =none:=Array.getElem?_eq_none (by omega);unfold Go.World.cell? at h;dsimp only at h;rw[e]at h;cases h
def Op(W:Go.World)(T:Ty)(cs:List Value)(n:Nat):Prop:= ∃ (x:den T) (bs:List AV),EV N0 T x bs/\jy (gIo W) W bs cs/\Bd T x/\Hz T x<=n
theorem yF(K:T4 bk NA){ot:Ty->Nat->Bool}{n:Nat}(IH: ∀ (T:Ty) (t:Nat) (cs:List Value) (y:DataW H×List MemPlace),ot T t=true->DataW.trod enc P W 0 sp held n t cs=some y->Op W T cs (bk y.1)): ∀ (fs:List Field) (ys:List (DataW H×List MemPlace)) (off:Nat) (T:Ty) (cs:List Value),otF P ot fs off T=true->
 fs.length=ys.length->(∀ (i:Nat) f,fs[i]? =some f->DataW.trod enc P W 0 sp held n f.type ((cs.drop f.offset).take (P.cellsOf f.type))=ys[i]?)->Op W T ((cs.drop off).take (size T)) (NA (ys.map (·.1)))
 | [],_,_,_,_,h,_,_=>by cases h
 | _::_,[],_,_,_,_,hl,_=>by simp at hl
 | [f],y::ys,off,T,cs,h,hl,hf=>by
  have h:(Nat.beq f.offset off&&(Nat.beq (P.cellsOf f.type) (size T)&&ot T f.type))=true:=h;rw[Bool.and_eq_true,Bool.and_eq_true]at h;obtain⟨h1,h2,h3⟩:=h;have hy:=hf 0 f rfl;obtain⟨x,bs,k1,k2,k3,k4⟩:=IH T f.type _ y h3 hy;rw[Nat.eq_of_beq_eq_true h1,Nat.eq_of_beq_eq_true h2]at k2;refine⟨x,bs,k1,k2,k3,?_⟩;rw[List.map_cons,K.cons];omega
 |f::g::fs,y::ys,off,.pair A B,cs,h,hl,hf=>by
  have h:((Nat.beq f.offset off&&(Nat.beq (P.cellsOf f.type) (size A)&&ot A f.type))&&otF P ot (g::fs) (off+size A) B)=true:=h;rw[Bool.and_eq_true,Bool.and_eq_true,Bool.and_eq_true]at h;obtain⟨⟨h1,h2,h3⟩,h4⟩:=h;have hy:=hf 0 f rfl;have a:=IH A f.type _ y h3 hy;rw[Nat.eq_of_beq_eq_true h1,Nat.eq_of_beq_eq_true h2]at a;obtain⟨x1,as1,e1,v1,b1,c1⟩:=a
  obtain⟨x2,as2,e2,v2,b2,c2⟩:=yF K IH (g::fs) ys (off+size A) B cs h4 (by simpa using hl) fun i f hm=>hf (i+1) f hm
  refine⟨(x1,x2),as1++as2,⟨as1,as2,rfl,e1,e2⟩,?_,⟨b1,b2⟩,?_⟩
  ·have e:(cs.drop off).take (size (.pair A B))=(cs.drop off).take (size A)++(cs.drop (off+size A)).take (size B):=by
    show(cs.drop off).take (size A+size B)=_;rw[List.take_add,List.drop_drop]
   rw[e];exact v1.append v2
  ·show Hz A x1+Hz B x2<=_;rw[List.map_cons,K.cons];omega
 | _::_::_,_,_,.int _,_,h,_,_=>by cases h
 | _::_::_,_,_,.bool,_,h,_,_=>by cases h
 | _::_::_,_,_,.str,_,h,_,_=>by cases h
 | _::_::_,_,_,.cq _,_,h,_,_=>by cases h
omit [Io] in
theorem aaF{α β:Type}{f:α->Option β}: ∀ {l:List α} {r:List β},l.mapM f=some r->r.length=l.length:=by
 intro l
 induction l with
 |nil=>intro r h;simp at h;subst h;rfl
 |cons a l ih=>
  intro r h;rw[List.mapM_cons]at h;simp only[Option.bind_eq_bind,Option.bind_eq_some_iff,Option.pure_def,Option.some.injEq]at h;obtain⟨b,_,rs,h2,rfl⟩:=h;simp[ih h2]
omit [Io] in
theorem Np{a:Addr}{k:Nat}{cs:List Value}(h:W.cells? 0 a k=some cs):cs.length=k/\ ∀ j,j<k->W.cell? (a.add j)=cs[j]? :=by
 unfold World.cells? at h;rw[if_pos (Nat.zero_le _)]at h;exact⟨by simpa using aaF h,fun j hj=>mapM_some_get h j j (by simp[hj])⟩
theorem Nq(K:T4 bk NA){T:Ty}{b o n:Nat}{e:Nat}(IH: ∀ (cs:List Value) (y:DataW H×List MemPlace),DataW.trod enc P W 0 sp held n e cs=some y->Op W T cs (bk y.1))(hs:P.cellsOf e=size T):
 ∀ (len:Nat) (ys:List (DataW H×List MemPlace)),ys.length=len->(∀ i,i<len->(W.cells? 0 ⟨b,o+i*size T,none⟩ (P.cellsOf e)).bind (DataW.trod enc P W 0 sp held n e)=ys[i]?)->
 ∃ (xs:List (den T)) (ls:List AV) (vs:List Value),xs.length=len/\rQ (EV N0 T) xs ls/\jy (gIo W) W ls vs/\vs.length=len*size T/\lr W b o vs/\(∀ x,x∈xs->Bd T x)/\List.foldr (fun e n=>Hz T e+n) 0 xs<=NA (ys.map (·.1))
 |0,ys,hy,_=>by
  have:ys=[]:=List.eq_nil_of_length_eq_zero hy;subst this;exact⟨[],[],[],rfl,rfl,by simp only[jy],by simp,fun j v h=>by simp at h,fun x h=>(by cases h),Nat.zero_le _⟩
 |len+1,ys,hy,h=>by
  obtain⟨ys',y,e⟩: ∃ ys' y,ys=ys'++[y]:=by
   have:ys≠[]:=fun e=>by rw[e]at hy;simp at hy
   exact⟨ys.dropLast,ys.getLast this,(List.dropLast_concat_getLast this).symm⟩
  subst e
  have hl:ys'.length=len:=by simpa using hy
  obtain⟨xs,ls,vs,h1,h2,h3,h4,h5,h6,h7⟩:=Nq K IH hs len ys' hl fun i hi=>by
   rw[h i (by omega),List.getElem?_append_left (by omega)]
  have hy:=h len (by omega);rw[List.getElem?_append_right (by omega),hl,Nat.sub_self]at hy;have hy:_=some y:=hy;rw[Option.bind_eq_some_iff]at hy;obtain⟨cs,hc,hy⟩:=hy;obtain⟨x,bs,k1,k2,k3,k4⟩:=IH cs y hy;obtain⟨c1,c2⟩:=Np hc;refine⟨xs++[x],ls++bs,vs++cs,by simp[h1],h2.app ⟨bs,[],by simp,k1,rfl⟩,h3.append k2,by rw[List.length_append,h4,c1,hs,Nat.succ_mul],fun j v hj=>?_,fun z hz=>?_,?_⟩
  ·rw[List.getElem?_append]at hj;by_cases q:j<vs.length
   ·rw[if_pos q]at hj;exact h5 j v hj
   ·rw[if_neg q]at hj;have nM:j - vs.length<cs.length:=(List.getElem?_eq_some_iff.1 hj).1;have:=c2 (j - vs.length) (by omega);rw[hj,add_plain]at this;rw[<-this];congr 2;omega
  ·rcases List.mem_append.1 hz with hz|hz
   ·exact h6 z hz
   ·have:z=x:=by simpa using hz
    rw[this];exact k3
  ·have key: ∀ (l:List (den T)),List.foldr (fun e n=>Hz T e+n) 0 (l++[x])=List.foldr (fun e n=>Hz T e+n) 0 l+Hz T x:=by
    intro l
    induction l with
    |nil=>simp
    |cons a l ih=>simp only[List.cons_append,List.foldr_cons,ih];omega
   rw[key,List.map_append,K.app,List.map_cons,List.map_nil,K.cons,K.nil];omega
theorem Cs(K:T4 bk NA): ∀ (n:Nat) (fuel:Nat) (T:Ty) (t:Nat) (cs:List Value) (y:DataW H×List MemPlace),otB P n T t=true->DataW.trod enc P W 0 sp held fuel t cs=some y->Op W T cs (bk y.1)
 |0,_,_,_,_,_,h,_=>by cases h
 |n+1,fuel,T,t,cs,y,h,hy=>by
  unfold otB at h;split at h
  ·rename_i k hu
   split at h
   ·rename_i k'
    have h:=of_decide_eq_true h;subst h;obtain⟨z,e1,_,e3⟩:=DataW.trod_int hu hy;subst e1;exact⟨z,[.int k z],rfl,by simp only[jy,VR];exact⟨_,_,rfl,rfl,rfl⟩,e3,K.one _⟩
   ·cases h
  ·rename_i hu
   split at h
   ·obtain⟨b,e1,_⟩:=DataW.trod_bool hu hy;subst e1;exact⟨b,[.bool b],rfl,by simp only[jy,VR];exact⟨_,_,rfl,rfl,rfl⟩,trivial,K.one _⟩
   ·cases h
  ·rename_i hu
   split at h
   ·obtain⟨s,e1,e2,e3⟩:=DataW.trod_string hu hy;subst e1;subst e2;exact⟨s,[.sc (.string s)],rfl,by simp only[jy,VR];exact⟨_,_,rfl,⟨rfl,rfl⟩,rfl⟩,e3,K.str _⟩
   ·cases h
  ·rename_i e hu
   split at h
   ·rename_i T'
    rw[Bool.and_eq_true,Bool.and_eq_true]at h;obtain⟨h1,h2,h3⟩:=h;have h1:=Nat.eq_of_beq_eq_true h1
    have h2:0<size T':=by simpa using h2
    rcases DataW.trod_slice hu hy with⟨e1,_⟩|⟨a,len,cap,elems,rest,m,rfl,e1,e2,_,hlc,hcm,hel,hx,_,_⟩
    ·subst e1;exact⟨[],[.vG 0 []],⟨_,rfl,.inr ⟨[],rfl,.inl rfl⟩⟩,by simp only[jy,VR];exact⟨_,_,rfl,⟨none,0,rfl,Nat.le_refl _,.inl ⟨trivial,trivial⟩⟩,rfl⟩,⟨Nat.zero_le _,fun _ h=>by cases h⟩,K.one _⟩
    ·subst e1;by_cases h0:len=0
     ·subst h0;exact⟨[],[.vG 0 []],⟨_,rfl,.inr ⟨[],rfl,.inl rfl⟩⟩,by simp only[jy,VR];exact⟨_,_,rfl,⟨some a,cap,rfl,Nat.zero_le _,.inl ⟨trivial,trivial⟩⟩,rfl⟩,⟨Nat.zero_le _,fun _ h=>by cases h⟩,K.one _⟩
     ·subst e2;have hx': ∀ i,i<len-> ∃ y,(W.cells? 0 (a.add (i*P.cellsOf e)) (P.cellsOf e)).bind (DataW.trod enc P W 0 sp held m e)=some y:=fun i hi=>by
       rw[hx i hi,List.getElem?_eq_getElem (by omega)];exact⟨_,rfl⟩
      obtain⟨b,o,spot⟩:=a;have hsp:spot=none:=by
       obtain⟨y,hy⟩:=hx' 0 (by omega);rw[Option.bind_eq_some_iff]at hy;obtain⟨cs,hc,_⟩:=hy;obtain⟨c1,c2⟩:=Np hc;have q:=c2 0 (by omega);rw[List.getElem?_eq_getElem (by omega)]at q;have:=World.cell?_spot q;simpa[Addr.add]using this
      subst hsp;obtain⟨xs,ls,vs,k1,k2,k3,k4,k5,k6,k7⟩:=Nq K (T:=T') (b:=b) (o:=o) (fun cs y=>Cs K n m T' e cs y h3) h1 len elems hel fun i hi=>by
       have:=hx i hi;rw[add_plain,h1]at this;rw[h1];exact this
      refine⟨xs,[.vG xs.length ls],⟨_,rfl,.inr ⟨ls,k2,.inl rfl⟩⟩,?_,⟨by rw[k1];omega,k6⟩,Nat.le_trans (by show 1+_<=_;rw[Nat.add_comm];exact Nat.succ_le_succ k7) (K.cq _ _)⟩;simp only[jy,VR];refine⟨_,_,rfl,⟨some ⟨b,o,none⟩,cap,by rw[k1],by rw[k1];exact hlc,.inr ⟨b,o,vs,rfl,?_,k5,k3⟩⟩,rfl⟩
      have hv0:0<vs.length:=by rw[k4];exact Nat.mul_pos (by omega) h2
      exact aaE (k5 0 _ (List.getElem?_eq_getElem hv0))
   ·cases h
  ·rename_i fs hu
   rw[Bool.and_eq_true]at h;obtain⟨h1,h2⟩:=h;obtain⟨xs,m,rfl,e2,hl,hxl,hf⟩:=DataW.trod_struct hu hy;subst e2
   have:=yF K (n:=m) (fun T t cs y=>Cs K n m T t cs y) fs.toList xs 0 T cs h2 (by simp[hxl]) fun i f hm=>hf i f (by simpa using hm)
   rw[List.drop_zero]at this;have e:cs.take (size T)=cs:=by
    rw[<-Nat.eq_of_beq_eq_true h1,<-hl,List.take_length]
   rw[e]at this;obtain⟨x,bs,k1,k2,k3,k4⟩:=this;exact⟨x,bs,k1,k2,k3,Nat.le_trans k4 (K.agg _)⟩
  ·rename_i k e hu
   rw[Bool.and_eq_true]at h;obtain⟨h1,h2⟩:=h;obtain⟨xs,m,rfl,e2,hl,hxl,hf⟩:=DataW.trod_array hu hy;subst e2;have:=yF K (n:=m) (fun T t cs y=>Cs K n m T t cs y) (arF P e k) xs 0 T cs h2 (by rw[hxl];simp[arF]) fun i f hm=>by
    have hm:((List.range k).map fun i=>({name:= "",type:=e,offset:=i*P.cellsOf e,embedded:=false,tag:= "",pkgPath:= "",byteOffset:=0}:Field))[i]? =some f:=hm;rw[List.getElem?_map,Option.map_eq_some_iff]at hm;obtain⟨j,hj,rfl⟩:=hm;obtain⟨hi,hj⟩:=List.getElem?_eq_some_iff.1 hj;rw[List.getElem_range]at hj;subst hj;exact hf i (by simpa using hi)
   rw[List.drop_zero]at this;have e:cs.take (size T)=cs:=by
    rw[<-Nat.eq_of_beq_eq_true h1,<-hl,List.take_length]
   rw[e]at this;obtain⟨x,bs,k1,k2,k3,k4⟩:=this;exact⟨x,bs,k1,k2,k3,Nat.le_trans k4 (K.agg _)⟩
  ·cases h
end
end Go.Proofs.Vd
