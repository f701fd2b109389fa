import Derived.Test.YtbplobpobnagkaaGreatDoorSY1
import Derived.Test.YtbplobpobnagkaaGreatDoorVdW
import Derived.Test.YtbplobpobnagkaaGreatDoorVdU2
import Derived.Test.YtbplobpobnagkaaGreatDoorVdV4
import Derived.Test.YtbplobpobnagkaaGreatDoorSH
import Derived.OpenShut
import Derived.ChangeSlices
import Derived.Test.YtbplobpobnagkaaGreatDoorSZ8
import Derived.Test.YtbplobpobnagkaaGreatDoorAb21
noncomputable section
namespace Go.Proofs.Vd
open Go.Ab Go.Ab.Lf Go.RowKit
set_option maxRecDepth 100000
abbrev rC(c:AV):dB:=Go.Ab.X.bS 8 [.tmp 2] fun _ _=>(Go.Ab.X.af (Go.Ab.X.ai (Go.Ab.X.st 2 (Go.Ab.X.aa (Go.Ab.X.oC c)) Go.Ab.X.fi)) Go.Ab.X.cN)
theorem U7(c0:AV)(f:FuncId):mT (fun _ _ _ _ h=>.ok c0 h) f (rC c0):=by
 intro n d az h c h' e
 have e:(il (Nat.ble (len az) 8) (.ok c0 h) .bad:Go.Ab.Ro)=.ok c h':=e
 cases hb:Nat.ble (len az) 8 with
 |true=>rw[hb]at e;exact e
 |false=>rw[hb]at e;cases e
theorem IJ(aq:aB):oE (fun _ _ _=>.bad) aq:=fun _ _ _ _ _ _ _ _ _ _ e=>by cases e
theorem agi{P Q:jW}{ti to:List Ty}{g:aj ti->Lf.T (aj to)}{f:FuncId}{aq:aB}
 (k: ∀ x y args H0 (E0:En) h az,(g x).val=some y->gp P (aA ti x) e1=some (args,[],H0)->Vs E0 H0.next args az->SR E0 (iF H0) h-> ∃ c g',(g' x).val=some y/\(hU P [] Q ti to g').Ok f (fun _ _ _ _ h=>.ok c h)/\ ∀ n d,aq n (d+1) f az h=.ok c h):(hU P [] Q ti to g).Ok f aq:=by
 intro pl q args H0 E0 h az e hP hv hS
 obtain⟨x,y,rfl,h1,rfl⟩:=zk e
 obtain⟨c,g',hg,k1,k2⟩:=k x y args H0 E0 h az h1 hP hv hS
 obtain⟨c',h',E1,ws,H1,⟨M,hM⟩,r⟩:=k1 _ (aA to y) _ _ E0 h az (v9 hg) hP hv hS
 have hM:=hM M M (Nat.le_refl _) (Nat.le_refl _)
 cases hM
 refine⟨_,_,E1,ws,H1,⟨1,fun n d _ hd=>?_⟩,r⟩
 obtain⟨d,rfl⟩: ∃ d',d=d'+1:=⟨d - 1,by omega⟩
 exact k2 n d
theorem W6{P Q:jW}{ti to:List Ty}{g:aj ti->Lf.T (aj to)}{f:FuncId}{c:AV}(e: ∀ x y,(g x).val=some y->(iN P [] Q (fun _=>none) (rC c) 3 (fun _ _ _=>.bad) (aA ti x)).val=some (aA to y)):(hU P [] Q ti to g).Ok f (fun _ _ _ _ h=>.ok c h):=
 dF (IJ _) (U7 c f) rfl (aE _) (m:=3) rfl fun x y h=>e x y h
abbrev PI(t:Ty):jW:=.cons (.im t) .nil
abbrev PO(t:Ty):jW:=.cons (.ow t) .nil
theorem ES{t:Ty}{f:FuncId}{c:AV}(e:(iN (PI t) [] (PO t) (fun _=>none) (rC c) 3 (fun _ _ _=>.bad) (aA [.ae t] ([],()))).val=some (aA [.ae t] ([],()))):(hU (PI t) [] (PO t) [.ae t] [.ae t] fun x=>.ck (decide (List.length x.1=0)) (.ok ([],()))).Ok f (fun _ _ _ _ h=>.ok c h):=by
 refine W6 ?_
 rintro⟨x,⟨⟩⟩ q h
 obtain⟨h1,h⟩:=Lf.T.ba h
 cases h
 obtain rfl:x=[]:=List.eq_nil_of_length_eq_zero (of_decide_eq_true h1)
 exact e
theorem kq{t:Ty}{f:FuncId}{b:dB}{B sz:Nat}(hb:bkD f=some b)(hx:Tryz.xs.get f=some b)(qC:Nat.ble b.ntmps 512=true)(hC:Qu f=true)(hB:B*sz<=70368744177664/\B<=70368744177664)
 (e: ∀ x:List (den t),(iN (PI t) [] (PO t) (fun _=>none) b 3 (fun _ _ _=>.bad) (aA [.ae t] (x,()))).val=aM (!(Nat.beq (List.length x) 0)) (aM (roomy sz (0+List.length x)) (some (aA [.ae t] (app [] x,())))))
 (Q6:(iN (PI t) [] (PO t) (fun _=>none) (rC .fk) 3 (fun _ _ _=>.bad) (aA [.ae t] ([],()))).val=some (aA [.ae t] ([],())))
 (e2':(iN (PI t) [] (PO t) (fun _=>none) (rC .qk) 3 (fun _ _ _=>.bad) (aA [.ae t] ([],()))).val=some (aA [.ae t] ([],())))
 (e3':(iN (PI t) [] (PO t) (fun _=>none) (rC (.sc (.slice none 0 0))) 3 (fun _ _ _=>.bad) (aA [.ae t] ([],()))).val=some (aA [.ae t] ([],())))
 (s2: ∀ n d h,yA b.fb n (gZ n d) [.qk] h=.ok .qk h)(s3: ∀ n d h,yA b.fb n (gZ n d) [.sc (.slice none 0 0)] h=.ok (.sc (.slice none 0 0)) h)(s4: ∀ n d h id base,yA b.fb n (gZ n d) [.ff id base 0 (size t)] h=.ok .qk h):
 (hU (PI t) [] (PO t) [.ae t] [.ae t] fun x=>.ck (decide (List.length x.1<=B)) (.ok (x.1,()))).Ok f gZ:=by
 have lkE:ER f [.fk]=some .fk:=by unfold ER U4;rw[hC];rfl
 have lkI:ER f [.lj 0 []]=some .fk:=by unfold ER U4;rw[hC];rfl
 have nx: ∀ az,jS [.fk] az=false->jS [.lj 0 []] az=false->ER f az=none:=by
  intro az h1 h2
  unfold ER U4
  rw[hC,h1,h2]
  rfl
 have hN:(hU (PI t) [] (PO t) [.ae t] [.ae t] fun x=>.ck (decide (List.length x.1<=B)&& !decide (List.length x.1=0)) (.ok (x.1,()))).Ok f gZ:=by
  refine dF (IJ _) (AX f b hb) qC (aE _) (m:=3) rfl ?_
  rintro⟨x,⟨⟩⟩ q h
  obtain⟨h1,h⟩:=Lf.T.ba h
  cases h
  simp only[Bool.and_eq_true,Bool.not_eq_true',decide_eq_true_eq,decide_eq_false_iff_not]at h1
  have c1:Nat.beq (List.length x) 0=false:=by
   cases hb:Nat.beq (List.length x) 0 with
   |false=>rfl
   |true=>exact(h1.2 (Nat.eq_of_beq_eq_true hb)).elim
  refine(e x).trans ?_
  rw[c1,show roomy sz (0+List.length x)=true from mC.2 ⟨by rw[Nat.zero_add];exact Nat.le_trans (Nat.mul_le_mul_right sz h1.1) hB.1,by have:=h1.1;omega⟩,bp]
  rfl
 intro pl q args H0 E0 h az e0 hP hv hS
 obtain⟨⟨x,⟨⟩⟩,⟨y,⟨⟩⟩,rfl,h1,rfl⟩:=zk e0
 obtain⟨h2,h3⟩:=Lf.T.ba h1
 have h3:y=x:=by
  injection h3 with h3
  exact(congrArg Prod.fst h3).symm
 subst h3
 by_cases hy:y=[]
 ·subst hy
  have hP2:some (([.c 1 (.ae t) []]:List Sv),([]:List Pl),(⟨2,.nil⟩:Hq))=some (args,[],H0):=(J' OY).symm.trans hP
  cases hP2
  obtain⟨a,rfl,ha⟩: ∃ a,az=[a]/\EV E0.G (.ae t) [] [a]:=by
   cases hv with
   |cons ha hr=>
    cases hr
    cases ha with
    |c k _=>exact⟨_,rfl,k⟩
  have fin: ∀ c0:AV,(hU (PI t) [] (PO t) [.ae t] [.ae t] fun x=>.ck (decide (List.length x.1=0)) (.ok ([],()))).Ok f (fun _ _ _ _ h=>.ok c0 h)->(∀ n d,gZ n (d+1) f [a] h=.ok c0 h)-> ∃ c h' E1 ws H1,Ev (fun n d=>gZ n d f [a] h) (.ok c h')/\Ox E0 E1 (iF ⟨2,.nil⟩) H1 h h'/\SR E1 H1 h'/\gp (PO t) (aA [.ae t] ([],())) Lf.e1=some (ws,[],H1)/\Vs E1 H1.next ws (c::([]:List Nat).map E0.A):=by
   intro c0 k hc
   obtain⟨c,h',E1,ws,H1,⟨M,hM⟩,r⟩:=k _ (aA [.ae t] ([],())) _ _ E0 h [a] (v9 (P:=PI t) (ptr:=[]) (Q:=PO t) (ti:=[.ae t]) (to:=[.ae t]) (x:=(([]:List (den t)),())) (y:=(([]:List (den t)),())) rfl) hP hv hS
   have hM:=hM M M (Nat.le_refl _) (Nat.le_refl _)
   cases hM
   refine⟨c0,h,E1,ws,H1,⟨1,fun n d _ hd=>?_⟩,r⟩
   obtain⟨d,rfl⟩: ∃ d',d=d'+1:=⟨d - 1,by omega⟩
   exact hc n d
  obtain⟨a',q1,k⟩: ∃ a',[a]=[a']/\JB E0.G t (EV E0.G t) [] a':=ha
  injection q1 with q1
  subst q1
  rcases k with⟨k,_⟩|⟨ls,k1,k2⟩
  ·cases a with
   |fk=>exact fin .fk (ES Q6) fun n d=>Cv lkE n (d+1)
   |qk=>exact fin .qk (ES e2') fun n d=>(pq hx (nx _ rfl rfl)).trans (s2 n d h)
   |sc v=>
    obtain rfl:v=.slice none 0 0:=by
     have k:isNil (.sc v)=true:=k
     unfold isNil at k
     split at k
     ·rename_i n c e
      injection e with e
      subst e
      have k:(Nat.beq n 0&&Nat.beq c 0)=true:=by assumption
      rw[Bool.and_eq_true]at k
      obtain rfl:=Nat.eq_of_beq_eq_true k.1
      obtain rfl:=Nat.eq_of_beq_eq_true k.2
      rfl
     ·cases k
    exact fin _ (ES e3') fun n d=>(pq hx (nx _ rfl rfl)).trans (s3 n d h)
   | _=>cases k
  ·have hl:ls=[]:=k1
   subst hl
   rcases k2 with k2|⟨id,base,row,k2,_,_⟩
   ·subst k2
    exact fin .fk (ES Q6) fun n d=>Cv lkI n (d+1)
   ·subst k2
    exact fin .qk (ES e2') fun n d=>(pq hx (nx _ rfl rfl)).trans (s4 n d h id base)
 ·have hn:((hU (PI t) [] (PO t) [.ae t] [.ae t] fun x=>.ck (decide (List.length x.1<=B)&& !decide (List.length x.1=0)) (.ok (x.1,()))).f (aA [.ae t] (y,()))).val=some (aA [.ae t] (y,())):=by
   refine v9 (P:=PI t) (ptr:=[]) (Q:=PO t) (ti:=[.ae t]) (to:=[.ae t]) (x:=(y,())) (y:=(y,())) ?_
   show(bif (decide (List.length y<=B)&& !decide (List.length y=0))then some (y,())else none)=_
   rw[show decide (List.length y<=B)=true from h2,decide_eq_false (fun q=>hy (List.eq_nil_of_length_eq_zero q))]
   rfl
  exact hN _ _ args H0 E0 h az hn hP hv hS
theorem U8:(jV aH).Ok 31 gZ:=kq (b:=Tryz.x31) (B:=1099511627776) (sz:=48) (by kernel_rfl) (by kernel_rfl) rfl (by kernel_rfl) (by decide) (fun x=>by kernel_rfl) (by kernel_rfl) (by kernel_rfl) (by kernel_rfl) (fun n d h=>by kernel_rfl) (fun n d h=>by kernel_rfl) (fun n d h id base=>by kernel_rfl)
theorem U9:Wn.Ok 32 gZ:=kq (b:=Tryz.x32) (B:=1099511627776) (sz:=8) (by kernel_rfl) (by kernel_rfl) rfl (by kernel_rfl) (by decide) (fun x=>by kernel_rfl) (by kernel_rfl) (by kernel_rfl) (by kernel_rfl) (fun n d h=>by kernel_rfl) (fun n d h=>by kernel_rfl) (fun n d h id base=>by kernel_rfl)
theorem U':(jV aS).Ok 33 gZ:=kq (b:=Tryz.x33) (B:=1099511627776) (sz:=40) (by kernel_rfl) (by kernel_rfl) rfl (by kernel_rfl) (by decide) (fun x=>by kernel_rfl) (by kernel_rfl) (by kernel_rfl) (by kernel_rfl) (fun n d h=>by kernel_rfl) (fun n d h=>by kernel_rfl) (fun n d h id base=>by kernel_rfl)
theorem Va:(jV ak).Ok 34 gZ:=kq (b:=Tryz.x34) (B:=1099511627776) (sz:=16) (by kernel_rfl) (by kernel_rfl) rfl (by kernel_rfl) (by decide) (fun x=>by kernel_rfl) (by kernel_rfl) (by kernel_rfl) (by kernel_rfl) (fun n d h=>by kernel_rfl) (fun n d h=>by kernel_rfl) (fun n d h id base=>by kernel_rfl)
theorem Vb:(jV aC).Ok 35 gZ:=kq (b:=Tryz.x35) (B:=1099511627776) (sz:=40) (by kernel_rfl) (by kernel_rfl) rfl (by kernel_rfl) (by decide) (fun x=>by kernel_rfl) (by kernel_rfl) (by kernel_rfl) (by kernel_rfl) (fun n d h=>by kernel_rfl) (fun n d h=>by kernel_rfl) (fun n d h id base=>by kernel_rfl)
theorem Vc:(jV aR).Ok 37 gZ:=kq (b:=Tryz.x37) (B:=1099511627776) (sz:=32) (by kernel_rfl) (by kernel_rfl) rfl (by kernel_rfl) (by decide) (fun x=>by kernel_rfl) (by kernel_rfl) (by kernel_rfl) (by kernel_rfl) (fun n d h=>by kernel_rfl) (fun n d h=>by kernel_rfl) (fun n d h id base=>by kernel_rfl)
theorem Ve:(jV aG).Ok 38 gZ:=kq (b:=Tryz.x38) (B:=1099511627776) (sz:=48) (by kernel_rfl) (by kernel_rfl) rfl (by kernel_rfl) (by decide) (fun x=>by kernel_rfl) (by kernel_rfl) (by kernel_rfl) (by kernel_rfl) (fun n d h=>by kernel_rfl) (fun n d h=>by kernel_rfl) (fun n d h id base=>by kernel_rfl)
theorem Vf:(jV aL).Ok 39 gZ:=kq (b:=Tryz.x39) (B:=1099511627776) (sz:=48) (by kernel_rfl) (by kernel_rfl) rfl (by kernel_rfl) (by decide) (fun x=>by kernel_rfl) (by kernel_rfl) (by kernel_rfl) (by kernel_rfl) (fun n d h=>by kernel_rfl) (fun n d h=>by kernel_rfl) (fun n d h id base=>by kernel_rfl)
theorem Vg:(jV aJ).Ok 40 gZ:=kq (b:=Tryz.x40) (B:=1099511627776) (sz:=48) (by kernel_rfl) (by kernel_rfl) rfl (by kernel_rfl) (by decide) (fun x=>by kernel_rfl) (by kernel_rfl) (by kernel_rfl) (by kernel_rfl) (fun n d h=>by kernel_rfl) (fun n d h=>by kernel_rfl) (fun n d h id base=>by kernel_rfl)
theorem Vh:(jV u8).Ok 41 gZ:=kq (b:=Tryz.x41) (B:=1099511627776) (sz:=1) (by kernel_rfl) (by kernel_rfl) rfl (by kernel_rfl) (by decide) (fun x=>by kernel_rfl) (by kernel_rfl) (by kernel_rfl) (by kernel_rfl) (fun n d h=>by kernel_rfl) (fun n d h=>by kernel_rfl) (fun n d h id base=>by kernel_rfl)
theorem Vi:(jV tI).Ok 79 gZ:=kq (b:=Tryz.x79) (B:=1099511627776) (sz:=64) (by kernel_rfl) (by kernel_rfl) rfl (by kernel_rfl) (by decide) (fun x=>by kernel_rfl) (by kernel_rfl) (by kernel_rfl) (by kernel_rfl) (fun n d h=>by kernel_rfl) (fun n d h=>by kernel_rfl) (fun n d h id base=>by kernel_rfl)
end Go.Proofs.Vd

noncomputable section
namespace Go.Proofs.Vd
open Go.Ab Go.Ab.Lf
set_option maxRecDepth 100000
abbrev sW:List Ty:=[.ae aH,.ae aS,.ae i64,.ae ak,.ae ak,.ae aC,.ae aR,i64,.ae aG,.ae aL,.ae aJ,.ae aR,i64,i64]
abbrev nJ:List Ty:=[.ae aH,.ae aS,.ae i64,.ae ak,.ae ak,.ae aC,.ae aR,i64,.ae aG,.ae aL,.ae aJ]
abbrev sf:List Ty:=[.bool]
def Vj:jX:=⟨0,fE Tryz.x73.code 0,[2,24,25,26],(Ps [Im,.im aR,.n .i64,.n .i64]),[⟨.lL,[2],Ps [Im]⟩,⟨.rt,[4],Ps [.bo]⟩]⟩
def agj:List (Nat×cR):=[]
theorem Vk{V:ByteArray->Bool}{aq:aB}(W:WorldC V aq):db aq (agj):=.nil
def ET:List Pl->Lf.T Rs:=Vj.step (fun _=>none) (dH (agj) 3) 3
def agk:fA:=tA Vj (ET) sW nJ sf
theorem Vl{V:ByteArray->Bool}{aq:aB}(W:WorldC V aq):dZ Rx.w (agk) (fun n d=>gD (aq n d) n (.bl 0 (.lp Vj.body))):=hY (W.toWorld.in (Vk W) 3) (aE _) (m:=3) sW nJ sf
def L57:Nat->Option fA:=pX [(0,agk)]
abbrev P7:List Ty:=[.ae aH,.ae aS,.ae i64,.ae ak,.ae ak,.ae aC,.ae aR,i64,.ae aG,.ae aL,.ae aJ,i64]
abbrev EU:List Ty:=[.bool]
def e57:List (Nat×cR):=[(70,s10)]
theorem aby{V:ByteArray->Bool}{aq:aB}(W:WorldC V aq):db aq (e57):=(.cons (B6 W) .nil)
def t57(x:aj P7):Lf.T (List Pl):=iN (Ps [pM,.n .i64]) [] (Ps [.bo]) L57 Tryz.x73 3 (dH (e57) 3) (aA P7 x)
def k57(x:aj P7):Bool:=jr EU (t57 x)
def m57(x:aj P7):aj EU:=eA EU (t57 x)
def amk:cR:=hU (Ps [pM,.n .i64]) [] (Ps [.bo]) P7 EU fun x=>.ck (k57 x) (.ok (m57 x))
theorem Vm{V:ByteArray->Bool}{aq:aB}(W:WorldC V aq):(amk).Ok 73 aq:=
 eg (W.toWorld.in (aby W) 3) (W.toWorld.st 73 _ rfl) rfl (fq.jl (.cons (b:=Vj.body) (by kernel_rfl) (Vl W) .nil)) (m:=3) rfl (fun _=>rfl) (fun _=>rfl)
theorem aml(y:aj tM)(k:Int)(a:aj sW)(ha:a=(y.1,y.2.1,y.2.2.1,y.2.2.2.1,y.2.2.2.2.1,y.2.2.2.2.2.1,y.2.2.2.2.2.2.1,y.2.2.2.2.2.2.2.1,y.2.2.2.2.2.2.2.2.1,y.2.2.2.2.2.2.2.2.2.1,y.2.2.2.2.2.2.2.2.2.2.1,y.2.2.2.2.2.2.1,(y.2.2.2.2.2.2.1.length:Int),0,()))(z:aj nJ)(hz:z=gM ET sW nJ a)(S:den aH)(hS:S=cr z.1 (dO z.2.1 z.2.2.1 z.2.2.2.2.2.2.2.1))(o:Bool)(ho:o=dM z.1 (dO z.2.1 z.2.2.1 z.2.2.2.2.2.2.2.1)):(t57 (y.1,y.2.1,y.2.2.1,y.2.2.2.1,y.2.2.2.2.1,y.2.2.2.2.2.1,y.2.2.2.2.2.2.1,y.2.2.2.2.2.2.2.1,y.2.2.2.2.2.2.2.2.1,y.2.2.2.2.2.2.2.2.2.1,y.2.2.2.2.2.2.2.2.2.2.1,k,())).val=
 aM (r5 ET sW nJ sf a) (bif qK ET sW a then
  bif decide (z.2.2.2.2.2.2.2.1= -1)then some (aA EU (true,()))else
  aM (gT z.1&&(decide (z.2.2.2.2.2.2.2.1<9223372036854775808)&&decide (z.2.1.length<=1099511627776))) (some (aA EU (bif o then(bif decide ((S.1.length:Int)=0)then decide ((S.2.length:Int)=0)else false)else false,())))
  else some (aA EU ((gM ET sW sf a).1,()))):=by
 subst hS;subst ho;subst hz;subst ha
 kernel_rfl
theorem abz(y:aj tM):gG ET (aA sW (y.1,y.2.1,y.2.2.1,y.2.2.2.1,y.2.2.2.2.1,y.2.2.2.2.2.1,y.2.2.2.2.2.2.1,y.2.2.2.2.2.2.2.1,y.2.2.2.2.2.2.2.2.1,y.2.2.2.2.2.2.2.2.2.1,y.2.2.2.2.2.2.2.2.2.2.1,[],0,0,())) 0 (aA nJ (y.1,y.2.1,y.2.2.1,y.2.2.2.1,y.2.2.2.2.1,y.2.2.2.2.2.1,y.2.2.2.2.2.2.1,y.2.2.2.2.2.2.2.1,y.2.2.2.2.2.2.2.2.1,y.2.2.2.2.2.2.2.2.2.1,y.2.2.2.2.2.2.2.2.2.2.1,())):=by
 refine .last ?_
 kernel_rfl
theorem agl{x:aj Wo}(h:OB x=true):(t57 x).val=some (aA EU (mNm x,())):=by
 obtain⟨t,im,fs,tb,me,gl,ex,st,el,co,da,k,⟨⟩⟩:=x
 unfold OB at h
 simp only[Bool.and_eq_true]at h
 obtain⟨⟨⟨_,hg,_⟩,hx⟩,hT⟩:=h
 have hx:ex=[]:=List.eq_nil_of_length_eq_zero (of_decide_eq_true hx)
 subst hx
 have v:=rq (t0:=nJ) (t1:=sf) (abz (t,im,fs,tb,me,gl,[],st,el,co,da,()))
 refine Eq.trans (aml (t,im,fs,tb,me,gl,[],st,el,co,da,()) k _ rfl (t,im,fs,tb,me,gl,[],st,el,co,da,()) v.2.2.symm _ rfl _ rfl) ?_
 have a1:r5 ET sW nJ sf (t,im,fs,tb,me,gl,[],st,el,co,da,[],((List.length ([]:List (den aR)):Nat):Int),0,())=true:=v.1
 have a2:qK ET sW (t,im,fs,tb,me,gl,[],st,el,co,da,[],((List.length ([]:List (den aR)):Nat):Int),0,())=true:=v.2.1
 have hg2:(decide (st<9223372036854775808)&&decide (List.length im<=1099511627776))=true:=by rw[Bool.and_eq_true];exact hg
 dsimp only
 rw[a1,a2,hT,hg2]
 have e:mNm (t,im,fs,tb,me,gl,[],st,el,co,da,k,())=aay t im fs st:=rfl
 rw[e]
 unfold aay
 cases decide (st= -1)with
 |true=>rfl
 |false=>rfl
theorem Vn{V:ByteArray->Bool}(W:WorldC V gZ):s57.Ok 73 gZ:=by
 intro pl q args H0 E0 h az e hP hv hS
 obtain⟨x,y,rfl,h1,rfl⟩:=zk e
 obtain⟨h2,h3⟩:=Lf.T.ba h1
 injection h3 with h3
 have s:=jJ (agl h2)
 refine Vm W _ _ args H0 E0 h az (v9 (g:=fun x=>.ck (k57 x) (.ok (m57 x))) (y:=y) ?_) hP hv hS
 show(bif k57 x then some (m57 x)else none)=some y
 rw[show k57 x=true from s.1,show m57 x=_ from s.2,<-h3]
 rfl
theorem abA:sAw.Ok 6 gZ:=by
 unfold sAw
 refine agi ?_
 rintro⟨⟩ y args H0 E0 h az h1 hP hv hS
 have hP2:some (([]:List Sv),([]:List Pl),Lf.e1)=some (args,[],H0):=hP
 cases hP2
 cases hv
 refine⟨.bool true,fun _=>.ok (true,()),h1,W6 ?_,fun n d=>Cv rfl n (d+1)⟩
 rintro⟨⟩ y' h'
 cases h'
 kernel_rfl
theorem Vo(V:ByteArray->Bool):(s66 V).Ok 83 gZ:=by
 unfold s66
 intro pl q args H0 E0 h az e
 obtain⟨x,y,rfl,h1,rfl⟩:=zk e
 obtain⟨h2,_⟩:=Lf.T.ba h1
 unfold AM at h2
 rw[Bool.and_eq_true]at h2
 have h3:false=true:=h2.2
 cases h3
theorem abB(V:ByteArray->Bool):zm V gZ:=
 have W:WorldC V gZ:=⟨⟨⟨AX⟩,Vo V⟩,U9⟩
 ⟨⟨⟨W,Vn W⟩,U8,U',Va,Vb,Vc,Ve,Vf,Vg,Vh,Vi⟩,abA⟩
end Go.Proofs.Vd

noncomputable section
namespace Go.Proofs.Vd
open Go.Ab Go.Ab.Lf Go.ChangeShapes Go.WideShapes Go.ChangeAt Go.RowKit
set_option maxRecDepth 100000
abbrev N0:Nat->Option Rw:=fun _=>none
def otF(P:Go.Program)(ot:Ty->Nat->Bool):List Field->Nat->Ty->Bool
 | [],_,_=>false
 |f::fs,off,T=>match fs with
  | []=>Nat.beq f.offset off&&(Nat.beq (P.cellsOf f.type) (size T)&&ot T f.type)
  | _::_=>match T with
   | .pair A B=>(Nat.beq f.offset off&&(Nat.beq (P.cellsOf f.type) (size A)&&ot A f.type))&&otF P ot fs (off+size A) B
   | _=>false
def arF(P:Go.Program)(e k:Nat):List Field:=(List.range k).map fun i=>{name:= "",type:=e,offset:=i*P.cellsOf e,embedded:=false,tag:= "",pkgPath:= "",byteOffset:=0}
def W7(P:Go.Program):Nat->Ty->Nat->Bool
 |0,_,_=>false
 |n+1,T,t=>match P.underlying t with
  |some (.int k)=>match T with
   | .int k'=>decide (k=k')
   | _=>false
  |some .bool=>match T with
   | .bool=>true
   | _=>false
  |some .string=>match T with
   | .str=>true
   | _=>false
  |some (.slice e)=>match T with
   | .ae T'=>Nat.beq (P.cellsOf e) (size T')&&(Nat.blt 0 (size T')&&W7 P n T' e)
   | _=>false
  |some (.struct fs)=>Nat.beq (P.cellsOf t) (size T)&&otF P (W7 P n) fs.toList 0 T
  |some (.array k e)=>Nat.beq (P.cellsOf t) (size T)&&otF P (W7 P n) (arF P e k) 0 T
  | _=>false
def Bd:(T:Ty)->den T->Prop
 | .int k,x=>(Lit.int k x).wf=true
 | .bool,_=>True
 | .str,x=>ByteArray.size x<=maxLen
 | .ae t,x=>List.length x<=maxLen/\ ∀ e,e∈x->Bd t e
 | .pair a b,x=>Bd a x.1/\Bd b x.2
def z7:(T:Ty)->den T->Nat
 | .int _,_=>1
 | .bool,_=>1
 | .str,x=>ByteArray.size x+1
 | .ae t,x=>1+List.foldr (fun e n=>z7 t e+n) 0 x
 | .pair a b,x=>z7 a x.1+z7 b x.2
structure Kx{H:Type}(bk:DataW H->Nat)(E9:List (DataW H)->Nat):Prop where
 one: ∀ d,1<=bk d
 nil:E9 []=0
 cons: ∀ d l,E9 (d::l)=bk d+E9 l
 str: ∀ b:List UInt8,b.length+1<=bk (.lit (.string b))
 ae: ∀ l m,E9 l+1<=bk (.slice l m)
 agg: ∀ l,E9 l<=bk (.agg l)
theorem Kx.app{H:Type}{bk:DataW H->Nat}{E9:List (DataW H)->Nat}(K:Kx bk E9)(l m:List (DataW H)):E9 (l++m)=E9 l+E9 m:=by
 induction l with
 |nil=>rw[List.nil_append,K.nil];omega
 |cons a l ih=>rw[List.cons_append,K.cons,K.cons,ih];omega
abbrev gI[Io](W:Go.World):G:=gE fun b=>b<W.heap.size
section
variable [Io]{H:Type}{enc:TypeId×Value->H}{P:Go.Program}{W:Go.World}{sp:Nat->Bool}{held:Bool}{bk:DataW H->Nat}{E9:List (DataW H)->Nat}
omit [Io] in
theorem P8{b o:Nat}{v:Value}(h:W.cell? ⟨b,o,none⟩=some v):b<W.heap.size:=by
 by_cases hb:b<W.heap.size
 ·exact hb
 ·exfalso
  have e:W.heap[b]? =none:=Array.getElem?_eq_none (by omega)
  unfold Go.World.cell? at h
  dsimp only at h
  rw[e]at h
  cases h
def Op(W:Go.World)(T:Ty)(cs:List Value)(n:Nat):Prop:= ∃ (x:den T) (bs:List AV),EV N0 T x bs/\bL (gI W) W bs cs/\Bd T x/\z7 T x<=n
theorem rN(K:Kx bk E9){ot:Ty->Nat->Bool}{n:Nat}(IH: ∀ (T:Ty) (t:Nat) (cs:List Value) (y:DataW H×List MemPlace),ot T t=true->DataW.trod enc P W 0 sp held n t cs=some y->Op W T cs (bk y.1)): ∀ (fs:List Field) (ys:List (DataW H×List MemPlace)) (off:Nat) (T:Ty) (cs:List Value),otF P ot fs off T=true->
 fs.length=ys.length->(∀ (i:Nat) f,fs[i]? =some f->DataW.trod enc P W 0 sp held n f.type ((cs.drop f.offset).take (P.cellsOf f.type))=ys[i]?)->Op W T ((cs.drop off).take (size T)) (E9 (ys.map (·.1)))
 | [],_,_,_,_,h,_,_=>by cases h
 | _::_,[],_,_,_,_,hl,_=>by simp at hl
 | [f],y::ys,off,T,cs,h,hl,hf=>by
  have h:(Nat.beq f.offset off&&(Nat.beq (P.cellsOf f.type) (size T)&&ot T f.type))=true:=h
  rw[Bool.and_eq_true,Bool.and_eq_true]at h
  obtain⟨h1,h2,h3⟩:=h
  have hy:=hf 0 f rfl
  obtain⟨x,bs,k1,k2,k3,k4⟩:=IH T f.type _ y h3 hy
  rw[Nat.eq_of_beq_eq_true h1,Nat.eq_of_beq_eq_true h2]at k2
  refine⟨x,bs,k1,k2,k3,?_⟩
  rw[List.map_cons,K.cons]
  omega
 |f::g::fs,y::ys,off,.pair A B,cs,h,hl,hf=>by
  have h:((Nat.beq f.offset off&&(Nat.beq (P.cellsOf f.type) (size A)&&ot A f.type))&&otF P ot (g::fs) (off+size A) B)=true:=h
  rw[Bool.and_eq_true,Bool.and_eq_true,Bool.and_eq_true]at h
  obtain⟨⟨h1,h2,h3⟩,h4⟩:=h
  have hy:=hf 0 f rfl
  have a:=IH A f.type _ y h3 hy
  rw[Nat.eq_of_beq_eq_true h1,Nat.eq_of_beq_eq_true h2]at a
  obtain⟨x1,as1,e1,v1,b1,c1⟩:=a
  obtain⟨x2,as2,e2,v2,b2,c2⟩:=rN K IH (g::fs) ys (off+size A) B cs h4 (by simpa using hl) fun i f hm=>hf (i+1) f hm
  refine⟨(x1,x2),as1++as2,⟨as1,as2,rfl,e1,e2⟩,?_,⟨b1,b2⟩,?_⟩
  ·have e:(cs.drop off).take (size (.pair A B))=(cs.drop off).take (size A)++(cs.drop (off+size A)).take (size B):=by
    show(cs.drop off).take (size A+size B)=_
    rw[List.take_add,List.drop_drop]
   rw[e]
   exact v1.append v2
  ·show z7 A x1+z7 B x2<=_
   rw[List.map_cons,K.cons]
   omega
 | _::_::_,_,_,.int _,_,h,_,_=>by cases h
 | _::_::_,_,_,.bool,_,h,_,_=>by cases h
 | _::_::_,_,_,.str,_,h,_,_=>by cases h
 | _::_::_,_,_,.ae _,_,h,_,_=>by cases h
omit [Io] in
theorem P9{α β:Type}{f:α->Option β}: ∀ {l:List α} {r:List β},l.mapM f=some r->r.length=l.length:=by
 intro l
 induction l with
 |nil=>intro r h;simp at h;subst h;rfl
 |cons a l ih=>
  intro r h
  rw[List.mapM_cons]at h
  simp only[Option.bind_eq_bind,Option.bind_eq_some_iff,Option.pure_def,Option.some.injEq]at h
  obtain⟨b,_,rs,h2,rfl⟩:=h
  simp[ih h2]
omit [Io] in
theorem EW{a:Addr}{k:Nat}{cs:List Value}(h:W.cells? 0 a k=some cs):cs.length=k/\ ∀ j,j<k->W.cell? (a.add j)=cs[j]? :=by
 unfold World.cells? at h
 rw[if_pos (Nat.zero_le _)]at h
 exact⟨by simpa using P9 h,fun j hj=>mapM_some_get h j j (by simp[hj])⟩
theorem EX(K:Kx bk E9){T:Ty}{b o n:Nat}{e:Nat}(IH: ∀ (cs:List Value) (y:DataW H×List MemPlace),DataW.trod enc P W 0 sp held n e cs=some y->Op W T cs (bk y.1))(hs:P.cellsOf e=size T):
 ∀ (len:Nat) (ys:List (DataW H×List MemPlace)),ys.length=len->(∀ i,i<len->(W.cells? 0 ⟨b,o+i*size T,none⟩ (P.cellsOf e)).bind (DataW.trod enc P W 0 sp held n e)=ys[i]?)->
 ∃ (xs:List (den T)) (ls:List AV) (vs:List Value),xs.length=len/\kR (EV N0 T) xs ls/\bL (gI W) W ls vs/\vs.length=len*size T/\ef W b o vs/\(∀ x,x∈xs->Bd T x)/\List.foldr (fun e n=>z7 T e+n) 0 xs<=E9 (ys.map (·.1))
 |0,ys,hy,_=>by
  have:ys=[]:=List.eq_nil_of_length_eq_zero hy
  subst this
  exact⟨[],[],[],rfl,rfl,by simp only[bL],by simp,fun j v h=>by simp at h,fun x h=>(by cases h),Nat.zero_le _⟩
 |len+1,ys,hy,h=>by
  obtain⟨ys',y,e⟩: ∃ ys' y,ys=ys'++[y]:=by
   have:ys≠[]:=fun e=>by rw[e]at hy;simp at hy
   exact⟨ys.dropLast,ys.getLast this,(List.dropLast_concat_getLast this).symm⟩
  subst e
  have hl:ys'.length=len:=by simpa using hy
  obtain⟨xs,ls,vs,h1,h2,h3,h4,h5,h6,h7⟩:=EX K IH hs len ys' hl fun i hi=>by
   rw[h i (by omega),List.getElem?_append_left (by omega)]
  have hy:=h len (by omega)
  rw[List.getElem?_append_right (by omega),hl,Nat.sub_self]at hy
  have hy:_=some y:=hy
  rw[Option.bind_eq_some_iff]at hy
  obtain⟨cs,hc,hy⟩:=hy
  obtain⟨x,bs,k1,k2,k3,k4⟩:=IH cs y hy
  obtain⟨c1,c2⟩:=EW hc
  refine⟨xs++[x],ls++bs,vs++cs,by simp[h1],h2.app ⟨bs,[],by simp,k1,rfl⟩,h3.append k2,by rw[List.length_append,h4,c1,hs,Nat.succ_mul],fun j v hj=>?_,fun z hz=>?_,?_⟩
  ·rw[List.getElem?_append]at hj
   by_cases q:j<vs.length
   ·rw[if_pos q]at hj
    exact h5 j v hj
   ·rw[if_neg q]at hj
    have gB:j - vs.length<cs.length:=(List.getElem?_eq_some_iff.1 hj).1
    have:=c2 (j - vs.length) (by omega)
    rw[hj,add_plain]at this
    rw[<-this]
    congr 2
    omega
  ·rcases List.mem_append.1 hz with hz|hz
   ·exact h6 z hz
   ·have:z=x:=by simpa using hz
    rw[this]
    exact k3
  ·have key: ∀ (l:List (den T)),List.foldr (fun e n=>z7 T e+n) 0 (l++[x])=List.foldr (fun e n=>z7 T e+n) 0 l+z7 T x:=by
    intro l
    induction l with
    |nil=>simp
    |cons a l ih=>simp only[List.cons_append,List.foldr_cons,ih];omega
   rw[key,List.map_append,K.app,List.map_cons,List.map_nil,K.cons,K.nil]
   omega
theorem si(K:Kx bk E9): ∀ (n:Nat) (fuel:Nat) (T:Ty) (t:Nat) (cs:List Value) (y:DataW H×List MemPlace),W7 P n T t=true->DataW.trod enc P W 0 sp held fuel t cs=some y->Op W T cs (bk y.1)
 |0,_,_,_,_,_,h,_=>by cases h
 |n+1,fuel,T,t,cs,y,h,hy=>by
  unfold W7 at h
  split at h
  ·rename_i k hu
   split at h
   ·rename_i k'
    have h:=of_decide_eq_true h
    subst h
    obtain⟨z,e1,_,e3⟩:=DataW.trod_int hu hy
    subst e1
    exact⟨z,[.int k z],rfl,by simp only[bL,VR];exact⟨_,_,rfl,rfl,rfl⟩,e3,K.one _⟩
   ·cases h
  ·rename_i hu
   split at h
   ·obtain⟨b,e1,_⟩:=DataW.trod_bool hu hy
    subst e1
    exact⟨b,[.bool b],rfl,by simp only[bL,VR];exact⟨_,_,rfl,rfl,rfl⟩,trivial,K.one _⟩
   ·cases h
  ·rename_i hu
   split at h
   ·obtain⟨s,e1,e2,e3⟩:=DataW.trod_string hu hy
    subst e1
    subst e2
    exact⟨s,[.sc (.string s)],rfl,by simp only[bL,VR];exact⟨_,_,rfl,⟨rfl,rfl⟩,rfl⟩,e3,K.str _⟩
   ·cases h
  ·rename_i e hu
   split at h
   ·rename_i T'
    rw[Bool.and_eq_true,Bool.and_eq_true]at h
    obtain⟨h1,h2,h3⟩:=h
    have h1:=Nat.eq_of_beq_eq_true h1
    have h2:0<size T':=by simpa using h2
    rcases DataW.trod_slice hu hy with⟨e1,_⟩|⟨a,len,cap,elems,rest,m,rfl,e1,e2,_,V0,hcm,hel,hx,_,_⟩
    ·subst e1
     exact⟨[],[.lj 0 []],⟨_,rfl,.inr ⟨[],rfl,.inl rfl⟩⟩,by simp only[bL,VR];exact⟨_,_,rfl,⟨none,0,rfl,Nat.le_refl _,.inl ⟨trivial,trivial⟩⟩,rfl⟩,⟨Nat.zero_le _,fun _ h=>by cases h⟩,K.one _⟩
    ·subst e1
     by_cases h0:len=0
     ·subst h0
      exact⟨[],[.lj 0 []],⟨_,rfl,.inr ⟨[],rfl,.inl rfl⟩⟩,by simp only[bL,VR];exact⟨_,_,rfl,⟨some a,cap,rfl,Nat.zero_le _,.inl ⟨trivial,trivial⟩⟩,rfl⟩,⟨Nat.zero_le _,fun _ h=>by cases h⟩,K.one _⟩
     ·subst e2
      have hx': ∀ i,i<len-> ∃ y,(W.cells? 0 (a.add (i*P.cellsOf e)) (P.cellsOf e)).bind (DataW.trod enc P W 0 sp held m e)=some y:=fun i hi=>by
       rw[hx i hi,List.getElem?_eq_getElem (by omega)]
       exact⟨_,rfl⟩
      obtain⟨b,o,spot⟩:=a
      have hsp:spot=none:=by
       obtain⟨y,hy⟩:=hx' 0 (by omega)
       rw[Option.bind_eq_some_iff]at hy
       obtain⟨cs,hc,_⟩:=hy
       obtain⟨c1,c2⟩:=EW hc
       have q:=c2 0 (by omega)
       rw[List.getElem?_eq_getElem (by omega)]at q
       have:=World.cell?_spot q
       simpa[Addr.add]using this
      subst hsp
      obtain⟨xs,ls,vs,k1,k2,k3,k4,k5,k6,k7⟩:=EX K (T:=T') (b:=b) (o:=o) (fun cs y=>si K n m T' e cs y h3) h1 len elems hel fun i hi=>by
       have:=hx i hi
       rw[add_plain,h1]at this
       rw[h1]
       exact this
      refine⟨xs,[.lj xs.length ls],⟨_,rfl,.inr ⟨ls,k2,.inl rfl⟩⟩,?_,⟨by rw[k1];omega,k6⟩,Nat.le_trans (by show 1+_<=_;rw[Nat.add_comm];exact Nat.succ_le_succ k7) (K.ae _ _)⟩
      simp only[bL,VR]
      refine⟨_,_,rfl,⟨some ⟨b,o,none⟩,cap,by rw[k1],by rw[k1];exact V0,.inr ⟨b,o,vs,rfl,?_,k5,k3⟩⟩,rfl⟩
      have hv0:0<vs.length:=by rw[k4];exact Nat.mul_pos (by omega) h2
      exact P8 (k5 0 _ (List.getElem?_eq_getElem hv0))
   ·cases h
  ·rename_i fs hu
   rw[Bool.and_eq_true]at h
   obtain⟨h1,h2⟩:=h
   obtain⟨xs,m,rfl,e2,hl,hxl,hf⟩:=DataW.trod_struct hu hy
   subst e2
   have:=rN K (n:=m) (fun T t cs y=>si K n m T t cs y) fs.toList xs 0 T cs h2 (by simp[hxl]) fun i f hm=>hf i f (by simpa using hm)
   rw[List.drop_zero]at this
   have e:cs.take (size T)=cs:=by
    rw[<-Nat.eq_of_beq_eq_true h1,<-hl,List.take_length]
   rw[e]at this
   obtain⟨x,bs,k1,k2,k3,k4⟩:=this
   exact⟨x,bs,k1,k2,k3,Nat.le_trans k4 (K.agg _)⟩
  ·rename_i k e hu
   rw[Bool.and_eq_true]at h
   obtain⟨h1,h2⟩:=h
   obtain⟨xs,m,rfl,e2,hl,hxl,hf⟩:=DataW.trod_array hu hy
   subst e2
   have:=rN K (n:=m) (fun T t cs y=>si K n m T t cs y) (arF P e k) xs 0 T cs h2 (by rw[hxl];simp[arF]) fun i f hm=>by
    have hm:((List.range k).map fun i=>({name:= "",type:=e,offset:=i*P.cellsOf e,embedded:=false,tag:= "",pkgPath:= "",byteOffset:=0}:Field))[i]? =some f:=hm
    rw[List.getElem?_map,Option.map_eq_some_iff]at hm
    obtain⟨j,hj,rfl⟩:=hm
    obtain⟨hi,hj⟩:=List.getElem?_eq_some_iff.1 hj
    rw[List.getElem_range]at hj
    subst hj
    exact hf i (by simpa using hi)
   rw[List.drop_zero]at this
   have e:cs.take (size T)=cs:=by
    rw[<-Nat.eq_of_beq_eq_true h1,<-hl,List.take_length]
   rw[e]at this
   obtain⟨x,bs,k1,k2,k3,k4⟩:=this
   exact⟨x,bs,k1,k2,k3,Nat.le_trans k4 (K.agg _)⟩
  ·cases h
end
end Go.Proofs.Vd

noncomputable section
namespace Go.Proofs.Vd
open Go.Ab Go.Ab.Lf Go.ChangeShapes Go.WideShapes Go.ChangeAt Go.RowKit
set_option maxRecDepth 100000
theorem agn{g:aj zn->Lf.T (aj zZ)}(ok:(hU (Ps [.im i64,.im cJ,.ag (Ps [.n .i64,.n .i64,.n .u64])]) [] (Ps [.bo]) zn zZ g).Ok 5 gZ){ty:List Int}{bY:List (den cJ)}{kd K x:Int}(hg:(g (ty,bY,kd,K,x,())).val=some (true,())){s t:AV}(hs:EV N0 (.ae i64) ty [s])(ht:EV N0 (.ae cJ) bY [t]): ∃ n,isT (gZ n n 5 [s,t,.agg [.int .i64 kd,.int .i64 K,.int .u64 x]] (fQ 0))=true:=by
 obtain⟨E0,hE⟩: ∃ E0:En,E0=⟨fun _=>⟨.any,0⟩,fun r=>[s,t].getD (r - 1) .any,N0,fun _=>.any⟩:=⟨_,rfl⟩
 have e:((hU (Ps [.im i64,.im cJ,.ag (Ps [.n .i64,.n .i64,.n .u64])]) [] (Ps [.bo]) zn zZ g).f (aA zn (ty,bY,kd,K,x,()))).val=some (aA zZ (true,())):=v9 (ti:=zn) (to:=zZ) (x:=(ty,bY,kd,K,x,())) (y:=(true,())) hg
 have hP:gp (Ps [.im i64,.im cJ,.ag (Ps [.n .i64,.n .i64,.n .u64])]) (aA zn (ty,bY,kd,K,x,())) Lf.e1=some ([.c 1 (.ae i64) ty,.c 2 (.ae cJ) bY,.ag [.c 0 i64 kd,.c 0 i64 K,.c 0 u64 x]],[],⟨3,.nil⟩):=rfl
 have hS:SR E0 (iF ⟨3,.nil⟩) (fQ 0):=by
  have et:iF ⟨3,.nil⟩=(⟨3,.nil⟩:Hq):=rfl
  rw[et]
  have no: ∀ r R,¬ (Tr.nil:Tr Lf.Row).get r=some R:=fun r R h=>by
   have h:(none:Option Lf.Row)=some R:=h
   cases h
  refine⟨?_,?_,?_,?_⟩
  ·intro r R h;exact(no r R h).elim
  ·rintro r r' id ⟨R,h,_⟩;exact(no r R h).elim
  ·rintro r id ⟨R,h,_⟩;exact(no r R h).elim
  ·intro id row h
   subst hE
   cases h
 have hv:Vs E0 3 [.c 1 (.ae i64) ty,.c 2 (.ae cJ) bY,.ag [.c 0 i64 kd,.c 0 i64 K,.c 0 u64 x]] [s,t,.agg [.int .i64 kd,.int .i64 K,.int .u64 x]]:=by
  subst hE
  exact .cons (.c hs fun _=>⟨by decide,rfl⟩) (.cons (.c ht fun _=>⟨by decide,rfl⟩) (.cons (.ag (.cons (.c rfl fun k=>(k rfl).elim) (.cons (.c rfl fun k=>(k rfl).elim) (.cons (.c rfl fun k=>(k rfl).elim) .nil)))) .nil))
 obtain⟨c,h',E1,ws,H1,⟨M,hM⟩,_,_,hQ,hV⟩:=ok _ _ _ _ E0 (fQ 0) _ e hP hv hS
 have hM:gZ M M 5 [s,t,.agg [.int .i64 kd,.int .i64 K,.int .u64 x]] (fQ 0)=.ok c h':=hM M M (Nat.le_refl _) (Nat.le_refl _)
 have hQ:some (([.c 0 .bool true]:List Sv),([]:List Pl),Lf.e1)=some (ws,[],H1):=hQ
 cases hQ
 cases hV with
 |cons k _=>
  cases k with
  |c k _=>
   have k:[c]=[.bool true]:=k
   injection k with k
   subst k
   exact⟨M,by rw[hM];rfl⟩
theorem Vp(ty:List Int)(bY:List (den cJ))(kd K x:Int){s t:AV}(hs:EV N0 (.ae i64) ty [s])(ht:EV N0 (.ae cJ) bY [t]): ∃ n,isT (gZ n n 5 [s,t,.agg [.int .i64 kd,.int .i64 K,.int .u64 x]] (fQ 0))=true:=by
 have W:=abB fun _=>true
 rcases afH (fun _=>true) ty bY kd K x with e|e
 ·have sm:=vi (bR _) (bR _) (k:=ky5 (fun _=>true) (ty,bY,kd,K,x,())) (m:=my5 (fun _=>true) (ty,bY,kd,K,x,())) e
  refine agn (abn W) ?_ hs ht
  show(bif ky5 (fun _=>true) (ty,bY,kd,K,x,())then some (my5 (fun _=>true) (ty,bY,kd,K,x,()))else none)=_
  rw[sm.1,sm.2]
  rfl
 ·have sm:=vi (bR _) (bR _) (k:=kz5 (fun _=>true) (ty,bY,kd,K,x,())) (m:=mz5 (fun _=>true) (ty,bY,kd,K,x,())) e
  refine agn (abl W) ?_ hs ht
  show(bif kz5 (fun _=>true) (ty,bY,kd,K,x,())then some (mz5 (fun _=>true) (ty,bY,kd,K,x,()))else none)=_
  rw[sm.1,sm.2]
  rfl
theorem abC{g:G}{W:Go.World}: @nQ KO g W:=by
 intro p hp
 cases hp
abbrev Vq:Ty:=.pair i64 (.pair i64 u64)
theorem P'{W:Go.World}{ty:List Int}{bY:List (den cJ)}{Y:den Vq}{s t ys:List AV}{v w:Value}{ds:Array Value}(h:EV N0 (.ae i64) ty s)(hv: @bL KO (@gI KO W) W s [v])(k:EV N0 (.ae cJ) bY t)(kv: @bL KO (@gI KO W) W t [w])(o:EV N0 Vq Y ys)(ov: @bL KO (@gI KO W) W ys ds.toList):
 Calls Tryz.prog 5 #[v,w,.agg ds] W fun e W'=>e=.returned (.bool true)/\Below W.heap.size W W':=by
 obtain⟨kd,K,x⟩:=Y
 obtain⟨s1,rfl,h1⟩:=h
 obtain⟨t1,rfl,k1⟩:=k
 obtain⟨_,c2,rfl,o1,_,c3,rfl,o2,o3⟩:=o
 have o1:_=[AV.int .i64 kd]:=o1
 have o2:_=[AV.int .i64 K]:=o2
 have o3:_=[AV.int .u64 x]:=o3
 subst o1
 subst o2
 subst o3
 obtain⟨n,hn⟩:=Vp ty bY kd K x (s:=s1) (t:=t1) ⟨_,rfl,h1⟩ ⟨_,rfl,k1⟩
 refine @XO KO Tryz.prog _ (@U6 KO n n) 5 _ [v,w,.agg ds] hn W (fun b=>b<W.heap.size) (fun b h=>h) abC ?_
 simp only[bL]at hv kv ⊢
 obtain⟨a,r,e1,e2,e3⟩:=hv
 injection e1 with e1 e4
 subst e1
 subst e4
 obtain⟨b,q,f1,f2,f3⟩:=kv
 injection f1 with f1 f4
 subst f1
 subst f4
 refine⟨_,_,rfl,e2,_,_,rfl,f2,_,_,rfl,?_,rfl⟩
 rw[VR]
 exact⟨_,rfl,ov⟩
end Go.Proofs.Vd
