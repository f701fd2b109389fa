import Derived.Test.YtbplobpobnagkaaGreatDoorSY1
import Derived.Test.YtbplobpobnagkaaGreatDoorVdW
import Derived.Test.YtbplobpobnagkaaGreatDoorVdU2
import Derived.Test.YtbplobpobnagkaaGreatDoorVdV4
import Derived.Test.YtbplobpobnagkaaGreatDoorSH
import Derived.OpenShut
import Derived.ChangeSlices
import Derived.Test.YtbplobpobnagkaaGreatDoorAb21
noncomputable section
namespace Go.Proofs.Vd
open Go.Ab Go.Ab.Lf Go.RowKit
set_option maxRecDepth 100000
abbrev rC(c:AV):dC:=Go.Ab.X.bP 8 [.tmp 2] fun _ _=>(Go.Ab.X.af (Go.Ab.X.ai (Go.Ab.X.st 2 (Go.Ab.X.aa (Go.Ab.X.oC c)) Go.Ab.X.fi)) Go.Ab.X.cD)
theorem UO(c0:AV)(f:FuncId):mJ (fun _ _ _ _ h=>.ok c0 h) f (rC c0):=by
 intro n d az h c h' e
 have e:(iu (Nat.ble (len az) 8) (.ok c0 h) .bad:Go.Ab.Ro)=.ok c h':=e
 cases hb:Nat.ble (len az) 8 with
 |true=>rw[hb]at e;exact e
 |false=>rw[hb]at e;cases e
theorem Ir(ao:aA):oy (fun _ _ _=>.bad) ao:=fun _ _ _ _ _ _ _ _ _ _ e=>by cases e
theorem afE{P Q:jT}{ti to:List Ty}{g:aj ti->Lf.T (aj to)}{f:FuncId}{ao:aA}
 (k: ∀ x y args H0 (E0:En) h az,(g x).val=some y->gp P (aB ti x) e1=some (args,[],H0)->Vs E0 H0.next args az->SR E0 (iG H0) h-> ∃ c g',(g' x).val=some y/\(iw P [] Q ti to g').Ok f (fun _ _ _ _ h=>.ok c h)/\ ∀ n d,ao n (d+1) f az h=.ok c h):(iw P [] Q ti to g).Ok f ao:=by
 intro pl q args H0 E0 h az e hP hv hS
 obtain⟨x,y,rfl,h1,rfl⟩:=y0 e
 obtain⟨c,g',hg,k1,k2⟩:=k x y args H0 E0 h az h1 hP hv hS
 obtain⟨c',h',E1,ws,H1,⟨M,hM⟩,r⟩:=k1 _ (aB to y) _ _ E0 h az (vD hg) hP hv hS
 have hM:=hM M M (Nat.le_refl _) (Nat.le_refl _)
 cases hM
 refine⟨_,_,E1,ws,H1,⟨1,fun n d _ hd=>?_⟩,r⟩
 obtain⟨d,rfl⟩: ∃ d',d=d'+1:=⟨d - 1,by omega⟩
 exact k2 n d
theorem WH{P Q:jT}{ti to:List Ty}{g:aj ti->Lf.T (aj to)}{f:FuncId}{c:AV}(e: ∀ x y,(g x).val=some y->(ja P [] Q (fun _=>none) (rC c) 3 (fun _ _ _=>.bad) (aB ti x)).val=some (aB to y)):(iw P [] Q ti to g).Ok f (fun _ _ _ _ h=>.ok c h):=
 dD (Ir _) (UO c f) rfl (aE _) (m:=3) rfl fun x y h=>e x y h
abbrev PI(t:Ty):jT:=.cons (.im t) .nil
abbrev PO(t:Ty):jT:=.cons (.ow t) .nil
theorem Ez{t:Ty}{f:FuncId}{c:AV}(e:(ja (PI t) [] (PO t) (fun _=>none) (rC c) 3 (fun _ _ _=>.bad) (aB [.ae t] ([],()))).val=some (aB [.ae t] ([],()))):(iw (PI t) [] (PO t) [.ae t] [.ae t] fun x=>.ck (decide (List.length x.1=0)) (.ok ([],()))).Ok f (fun _ _ _ _ h=>.ok c h):=by
 refine WH ?_
 rintro⟨x,⟨⟩⟩ q h
 obtain⟨h1,h⟩:=Lf.T.aX h
 cases h
 obtain rfl:x=[]:=List.eq_nil_of_length_eq_zero (of_decide_eq_true h1)
 exact e
theorem kj{t:Ty}{f:FuncId}{b:dC}{B sz:Nat}(hb:bkD f=some b)(hx:Tryz.xs.get f=some b)(qm:Nat.ble b.ntmps 512=true)(hC:Ql f=true)(hB:B*sz<=70368744177664/\B<=70368744177664)
 (e: ∀ x:List (den t),(ja (PI t) [] (PO t) (fun _=>none) b 3 (fun _ _ _=>.bad) (aB [.ae t] (x,()))).val=aT (!(Nat.beq (List.length x) 0)) (aT (roomy sz (0+List.length x)) (some (aB [.ae t] (app [] x,())))))
 (QX:(ja (PI t) [] (PO t) (fun _=>none) (rC .fm) 3 (fun _ _ _=>.bad) (aB [.ae t] ([],()))).val=some (aB [.ae t] ([],())))
 (e2':(ja (PI t) [] (PO t) (fun _=>none) (rC .p') 3 (fun _ _ _=>.bad) (aB [.ae t] ([],()))).val=some (aB [.ae t] ([],())))
 (e3':(ja (PI t) [] (PO t) (fun _=>none) (rC (.sc (.slice none 0 0))) 3 (fun _ _ _=>.bad) (aB [.ae t] ([],()))).val=some (aB [.ae t] ([],())))
 (s2: ∀ n d h,yo b.fb n (gZ n d) [.p'] h=.ok .p' h)(s3: ∀ n d h,yo b.fb n (gZ n d) [.sc (.slice none 0 0)] h=.ok (.sc (.slice none 0 0)) h)(s4: ∀ n d h id base,yo b.fb n (gZ n d) [.ff id base 0 (size t)] h=.ok .p' h):
 (iw (PI t) [] (PO t) [.ae t] [.ae t] fun x=>.ck (decide (List.length x.1<=B)) (.ok (x.1,()))).Ok f gZ:=by
 have lkE:Ey f [.fm]=some .fm:=by unfold Ey UL;rw[hC];rfl
 have lkI:Ey f [.kX 0 []]=some .fm:=by unfold Ey UL;rw[hC];rfl
 have nx: ∀ az,jO [.fm] az=false->jO [.kX 0 []] az=false->Ey f az=none:=by
  intro az h1 h2
  unfold Ey UL
  rw[hC,h1,h2]
  rfl
 have hN:(iw (PI t) [] (PO t) [.ae t] [.ae t] fun x=>.ck (decide (List.length x.1<=B)&& !decide (List.length x.1=0)) (.ok (x.1,()))).Ok f gZ:=by
  refine dD (Ir _) (AF f b hb) qm (aE _) (m:=3) rfl ?_
  rintro⟨x,⟨⟩⟩ q h
  obtain⟨h1,h⟩:=Lf.T.aX h
  cases h
  simp only[Bool.and_eq_true,Bool.not_eq_true',decide_eq_true_eq,decide_eq_false_iff_not]at h1
  have c1:Nat.beq (List.length x) 0=false:=by
   cases hb:Nat.beq (List.length x) 0 with
   |false=>rfl
   |true=>exact(h1.2 (Nat.eq_of_beq_eq_true hb)).elim
  refine(e x).trans ?_
  rw[c1,show roomy sz (0+List.length x)=true from mm.2 ⟨by rw[Nat.zero_add];exact Nat.le_trans (Nat.mul_le_mul_right sz h1.1) hB.1,by have:=h1.1;omega⟩,bp]
  rfl
 intro pl q args H0 E0 h az e0 hP hv hS
 obtain⟨⟨x,⟨⟩⟩,⟨y,⟨⟩⟩,rfl,h1,rfl⟩:=y0 e0
 obtain⟨h2,h3⟩:=Lf.T.aX h1
 have h3:y=x:=by
  injection h3 with h3
  exact(congrArg Prod.fst h3).symm
 subst h3
 by_cases hy:y=[]
 ·subst hy
  have hP2:some (([.c 1 (.ae t) []]:List Sv),([]:List Pl),(⟨2,.nil⟩:Hq))=some (args,[],H0):=(JV OP).symm.trans hP
  cases hP2
  obtain⟨a,rfl,ha⟩: ∃ a,az=[a]/\EV E0.G (.ae t) [] [a]:=by
   cases hv with
   |cons ha hr=>
    cases hr
    cases ha with
    |c k _=>exact⟨_,rfl,k⟩
  have fin: ∀ c0:AV,(iw (PI t) [] (PO t) [.ae t] [.ae t] fun x=>.ck (decide (List.length x.1=0)) (.ok ([],()))).Ok f (fun _ _ _ _ h=>.ok c0 h)->(∀ n d,gZ n (d+1) f [a] h=.ok c0 h)-> ∃ c h' E1 ws H1,Ev (fun n d=>gZ n d f [a] h) (.ok c h')/\Ox E0 E1 (iG ⟨2,.nil⟩) H1 h h'/\SR E1 H1 h'/\gp (PO t) (aB [.ae t] ([],())) Lf.e1=some (ws,[],H1)/\Vs E1 H1.next ws (c::([]:List Nat).map E0.A):=by
   intro c0 k hc
   obtain⟨c,h',E1,ws,H1,⟨M,hM⟩,r⟩:=k _ (aB [.ae t] ([],())) _ _ E0 h [a] (vD (P:=PI t) (ptr:=[]) (Q:=PO t) (ti:=[.ae t]) (to:=[.ae t]) (x:=(([]:List (den t)),())) (y:=(([]:List (den t)),())) rfl) hP hv hS
   have hM:=hM M M (Nat.le_refl _) (Nat.le_refl _)
   cases hM
   refine⟨c0,h,E1,ws,H1,⟨1,fun n d _ hd=>?_⟩,r⟩
   obtain⟨d,rfl⟩: ∃ d',d=d'+1:=⟨d - 1,by omega⟩
   exact hc n d
  obtain⟨a',q1,k⟩: ∃ a',[a]=[a']/\Jm E0.G t (EV E0.G t) [] a':=ha
  injection q1 with q1
  subst q1
  rcases k with⟨k,_⟩|⟨ls,k1,k2⟩
  ·cases a with
   |fm=>exact fin .fm (Ez QX) fun n d=>Cb lkE n (d+1)
   |p'=>exact fin .p' (Ez e2') fun n d=>(pd hx (nx _ rfl rfl)).trans (s2 n d h)
   |sc v=>
    obtain rfl:v=.slice none 0 0:=by
     have k:isNil (.sc v)=true:=k
     unfold isNil at k
     split at k
     ·rename_i n c e
      injection e with e
      subst e
      have k:(Nat.beq n 0&&Nat.beq c 0)=true:=by assumption
      rw[Bool.and_eq_true]at k
      obtain rfl:=Nat.eq_of_beq_eq_true k.1
      obtain rfl:=Nat.eq_of_beq_eq_true k.2
      rfl
     ·cases k
    exact fin _ (Ez e3') fun n d=>(pd hx (nx _ rfl rfl)).trans (s3 n d h)
   | _=>cases k
  ·have hl:ls=[]:=k1
   subst hl
   rcases k2 with k2|⟨id,base,row,k2,_,_⟩
   ·subst k2
    exact fin .fm (Ez QX) fun n d=>Cb lkI n (d+1)
   ·subst k2
    exact fin .p' (Ez e2') fun n d=>(pd hx (nx _ rfl rfl)).trans (s4 n d h id base)
 ·have hn:((iw (PI t) [] (PO t) [.ae t] [.ae t] fun x=>.ck (decide (List.length x.1<=B)&& !decide (List.length x.1=0)) (.ok (x.1,()))).f (aB [.ae t] (y,()))).val=some (aB [.ae t] (y,())):=by
   refine vD (P:=PI t) (ptr:=[]) (Q:=PO t) (ti:=[.ae t]) (to:=[.ae t]) (x:=(y,())) (y:=(y,())) ?_
   show(bif (decide (List.length y<=B)&& !decide (List.length y=0))then some (y,())else none)=_
   rw[show decide (List.length y<=B)=true from h2,decide_eq_false (fun q=>hy (List.eq_nil_of_length_eq_zero q))]
   rfl
  exact hN _ _ args H0 E0 h az hn hP hv hS
theorem UP:(jR aI).Ok 31 gZ:=kj (b:=Tryz.x31) (B:=1099511627776) (sz:=48) (by kernel_rfl) (by kernel_rfl) rfl (by kernel_rfl) (by decide) (fun x=>by kernel_rfl) (by kernel_rfl) (by kernel_rfl) (by kernel_rfl) (fun n d h=>by kernel_rfl) (fun n d h=>by kernel_rfl) (fun n d h id base=>by kernel_rfl)
theorem UQ:V0.Ok 32 gZ:=kj (b:=Tryz.x32) (B:=1099511627776) (sz:=8) (by kernel_rfl) (by kernel_rfl) rfl (by kernel_rfl) (by decide) (fun x=>by kernel_rfl) (by kernel_rfl) (by kernel_rfl) (by kernel_rfl) (fun n d h=>by kernel_rfl) (fun n d h=>by kernel_rfl) (fun n d h id base=>by kernel_rfl)
theorem UR:(jR aQ).Ok 33 gZ:=kj (b:=Tryz.x33) (B:=1099511627776) (sz:=40) (by kernel_rfl) (by kernel_rfl) rfl (by kernel_rfl) (by decide) (fun x=>by kernel_rfl) (by kernel_rfl) (by kernel_rfl) (by kernel_rfl) (fun n d h=>by kernel_rfl) (fun n d h=>by kernel_rfl) (fun n d h id base=>by kernel_rfl)
theorem US:(jR ak).Ok 34 gZ:=kj (b:=Tryz.x34) (B:=1099511627776) (sz:=16) (by kernel_rfl) (by kernel_rfl) rfl (by kernel_rfl) (by decide) (fun x=>by kernel_rfl) (by kernel_rfl) (by kernel_rfl) (by kernel_rfl) (fun n d h=>by kernel_rfl) (fun n d h=>by kernel_rfl) (fun n d h id base=>by kernel_rfl)
theorem UT:(jR aC).Ok 35 gZ:=kj (b:=Tryz.x35) (B:=1099511627776) (sz:=40) (by kernel_rfl) (by kernel_rfl) rfl (by kernel_rfl) (by decide) (fun x=>by kernel_rfl) (by kernel_rfl) (by kernel_rfl) (by kernel_rfl) (fun n d h=>by kernel_rfl) (fun n d h=>by kernel_rfl) (fun n d h id base=>by kernel_rfl)
theorem UU:(jR aP).Ok 37 gZ:=kj (b:=Tryz.x37) (B:=1099511627776) (sz:=32) (by kernel_rfl) (by kernel_rfl) rfl (by kernel_rfl) (by decide) (fun x=>by kernel_rfl) (by kernel_rfl) (by kernel_rfl) (by kernel_rfl) (fun n d h=>by kernel_rfl) (fun n d h=>by kernel_rfl) (fun n d h id base=>by kernel_rfl)
theorem UW:(jR aG).Ok 38 gZ:=kj (b:=Tryz.x38) (B:=1099511627776) (sz:=48) (by kernel_rfl) (by kernel_rfl) rfl (by kernel_rfl) (by decide) (fun x=>by kernel_rfl) (by kernel_rfl) (by kernel_rfl) (by kernel_rfl) (fun n d h=>by kernel_rfl) (fun n d h=>by kernel_rfl) (fun n d h id base=>by kernel_rfl)
theorem UX:(jR aK).Ok 39 gZ:=kj (b:=Tryz.x39) (B:=1099511627776) (sz:=48) (by kernel_rfl) (by kernel_rfl) rfl (by kernel_rfl) (by decide) (fun x=>by kernel_rfl) (by kernel_rfl) (by kernel_rfl) (by kernel_rfl) (fun n d h=>by kernel_rfl) (fun n d h=>by kernel_rfl) (fun n d h id base=>by kernel_rfl)
theorem UY:(jR aD).Ok 40 gZ:=kj (b:=Tryz.x40) (B:=1099511627776) (sz:=48) (by kernel_rfl) (by kernel_rfl) rfl (by kernel_rfl) (by decide) (fun x=>by kernel_rfl) (by kernel_rfl) (by kernel_rfl) (by kernel_rfl) (fun n d h=>by kernel_rfl) (fun n d h=>by kernel_rfl) (fun n d h id base=>by kernel_rfl)
theorem UZ:(jR u8).Ok 41 gZ:=kj (b:=Tryz.x41) (B:=1099511627776) (sz:=1) (by kernel_rfl) (by kernel_rfl) rfl (by kernel_rfl) (by decide) (fun x=>by kernel_rfl) (by kernel_rfl) (by kernel_rfl) (by kernel_rfl) (fun n d h=>by kernel_rfl) (fun n d h=>by kernel_rfl) (fun n d h id base=>by kernel_rfl)
theorem U0:(jR tI).Ok 79 gZ:=kj (b:=Tryz.x79) (B:=1099511627776) (sz:=64) (by kernel_rfl) (by kernel_rfl) rfl (by kernel_rfl) (by decide) (fun x=>by kernel_rfl) (by kernel_rfl) (by kernel_rfl) (by kernel_rfl) (fun n d h=>by kernel_rfl) (fun n d h=>by kernel_rfl) (fun n d h id base=>by kernel_rfl)
end Go.Proofs.Vd

noncomputable section
namespace Go.Proofs.Vd
open Go.Ab Go.Ab.Lf
set_option maxRecDepth 100000
abbrev sy:List Ty:=[.ae aI,.ae aQ,.ae i64,.ae ak,.ae ak,.ae aC,.ae aP,i64,.ae aG,.ae aK,.ae aD,.ae aP,i64,i64]
abbrev nB:List Ty:=[.ae aI,.ae aQ,.ae i64,.ae ak,.ae ak,.ae aC,.ae aP,i64,.ae aG,.ae aK,.ae aD]
abbrev rJ:List Ty:=[.bool]
def U1:j4:=⟨0,fK Tryz.x73.code 0,[2,24,25,26],(Ps [H5,.im aP,.n .i64,.n .i64]),[⟨.lN,[2],Ps [H5]⟩,⟨.rt,[4],Ps [.bo]⟩]⟩
def afF:List (Nat×cQ):=[]
theorem U2{V:ByteArray->Bool}{ao:aA}(W:WorldC V ao):dc ao (afF):=.nil
def EA:List Pl->Lf.T Rs:=U1.step (fun _=>none) (dG (afF) 3) 3
def afG:fD:=vq U1 (EA) sy nB rJ
theorem U3{V:ByteArray->Bool}{ao:aA}(W:WorldC V ao):ep Rx.w (afG) (fun n d=>gy (ao n d) n (.bl 0 (.lp U1.body))):=jx (W.toWorld.in (U2 W) 3) (aE _) (m:=3) sy nB rJ
def L57:Nat->Option fD:=qg [(0,afG)]
abbrev PW:List Ty:=[.ae aI,.ae aQ,.ae i64,.ae ak,.ae ak,.ae aC,.ae aP,i64,.ae aG,.ae aK,.ae aD,i64]
abbrev EB:List Ty:=[.bool]
def e57:List (Nat×cQ):=[(70,s10)]
theorem aaT{V:ByteArray->Bool}{ao:aA}(W:WorldC V ao):dc ao (e57):=(.cons (BL W) .nil)
def t57(x:aj PW):Lf.T (List Pl):=ja (Ps [pM,.n .i64]) [] (Ps [.bo]) L57 Tryz.x73 3 (dG (e57) 3) (aB PW x)
def k57(x:aj PW):Bool:=jP EB (t57 x)
def m57(x:aj PW):aj EB:=e7 EB (t57 x)
def aly:cQ:=iw (Ps [pM,.n .i64]) [] (Ps [.bo]) PW EB fun x=>.ck (k57 x) (.ok (m57 x))
theorem U4{V:ByteArray->Bool}{ao:aA}(W:WorldC V ao):(aly).Ok 73 ao:=
 eU (W.toWorld.in (aaT W) 3) (W.toWorld.st 73 _ rfl) rfl (fx.jq (.cons (b:=U1.body) (by kernel_rfl) (U3 W) .nil)) (m:=3) rfl (fun _=>rfl) (fun _=>rfl)
theorem alz(y:aj tM)(k:Int)(a:aj sy)(ha:a=(y.1,y.2.1,y.2.2.1,y.2.2.2.1,y.2.2.2.2.1,y.2.2.2.2.2.1,y.2.2.2.2.2.2.1,y.2.2.2.2.2.2.2.1,y.2.2.2.2.2.2.2.2.1,y.2.2.2.2.2.2.2.2.2.1,y.2.2.2.2.2.2.2.2.2.2.1,y.2.2.2.2.2.2.1,(y.2.2.2.2.2.2.1.length:Int),0,()))(z:aj nB)(hz:z=gP EA sy nB a)(S:den aI)(hS:S=cb z.1 (dR z.2.1 z.2.2.1 z.2.2.2.2.2.2.2.1))(o:Bool)(ho:o=dP z.1 (dR z.2.1 z.2.2.1 z.2.2.2.2.2.2.2.1)):(t57 (y.1,y.2.1,y.2.2.1,y.2.2.2.1,y.2.2.2.2.1,y.2.2.2.2.2.1,y.2.2.2.2.2.2.1,y.2.2.2.2.2.2.2.1,y.2.2.2.2.2.2.2.2.1,y.2.2.2.2.2.2.2.2.2.1,y.2.2.2.2.2.2.2.2.2.2.1,k,())).val=
 aT (rP EA sy nB rJ a) (bif qQ EA sy a then
  bif decide (z.2.2.2.2.2.2.2.1= -1)then some (aB EB (true,()))else
  aT (gT z.1&&(decide (z.2.2.2.2.2.2.2.1<9223372036854775808)&&decide (z.2.1.length<=1099511627776))) (some (aB EB (bif o then(bif decide ((S.1.length:Int)=0)then decide ((S.2.length:Int)=0)else false)else false,())))
  else some (aB EB ((gP EA sy rJ a).1,()))):=by
 subst hS;subst ho;subst hz;subst ha
 kernel_rfl
theorem aaU(y:aj tM):gM EA (aB sy (y.1,y.2.1,y.2.2.1,y.2.2.2.1,y.2.2.2.2.1,y.2.2.2.2.2.1,y.2.2.2.2.2.2.1,y.2.2.2.2.2.2.2.1,y.2.2.2.2.2.2.2.2.1,y.2.2.2.2.2.2.2.2.2.1,y.2.2.2.2.2.2.2.2.2.2.1,[],0,0,())) 0 (aB nB (y.1,y.2.1,y.2.2.1,y.2.2.2.1,y.2.2.2.2.1,y.2.2.2.2.2.1,y.2.2.2.2.2.2.1,y.2.2.2.2.2.2.2.1,y.2.2.2.2.2.2.2.2.1,y.2.2.2.2.2.2.2.2.2.1,y.2.2.2.2.2.2.2.2.2.2.1,())):=by
 refine .last ?_
 kernel_rfl
theorem afH{x:aj V1}(h:On x=true):(t57 x).val=some (aB EB (mNm x,())):=by
 obtain⟨t,im,fs,tb,me,gl,ex,st,el,co,da,k,⟨⟩⟩:=x
 unfold On at h
 simp only[Bool.and_eq_true]at h
 obtain⟨⟨⟨_,hg,_⟩,hx⟩,hT⟩:=h
 have hx:ex=[]:=List.eq_nil_of_length_eq_zero (of_decide_eq_true hx)
 subst hx
 have v:=sQ (t0:=nB) (t1:=rJ) (aaU (t,im,fs,tb,me,gl,[],st,el,co,da,()))
 refine Eq.trans (alz (t,im,fs,tb,me,gl,[],st,el,co,da,()) k _ rfl (t,im,fs,tb,me,gl,[],st,el,co,da,()) v.2.2.symm _ rfl _ rfl) ?_
 have a1:rP EA sy nB rJ (t,im,fs,tb,me,gl,[],st,el,co,da,[],((List.length ([]:List (den aP)):Nat):Int),0,())=true:=v.1
 have a2:qQ EA sy (t,im,fs,tb,me,gl,[],st,el,co,da,[],((List.length ([]:List (den aP)):Nat):Int),0,())=true:=v.2.1
 have hg2:(decide (st<9223372036854775808)&&decide (List.length im<=1099511627776))=true:=by rw[Bool.and_eq_true];exact hg
 dsimp only
 rw[a1,a2,hT,hg2]
 have e:mNm (t,im,fs,tb,me,gl,[],st,el,co,da,k,())=Z8 t im fs st:=rfl
 rw[e]
 unfold Z8
 cases decide (st= -1)with
 |true=>rfl
 |false=>rfl
theorem U5{V:ByteArray->Bool}(W:WorldC V gZ):s57.Ok 73 gZ:=by
 intro pl q args H0 E0 h az e hP hv hS
 obtain⟨x,y,rfl,h1,rfl⟩:=y0 e
 obtain⟨h2,h3⟩:=Lf.T.aX h1
 injection h3 with h3
 have s:=jE (afH h2)
 refine U4 W _ _ args H0 E0 h az (vD (g:=fun x=>.ck (k57 x) (.ok (m57 x))) (y:=y) ?_) hP hv hS
 show(bif k57 x then some (m57 x)else none)=some y
 rw[show k57 x=true from s.1,show m57 x=_ from s.2,<-h3]
 rfl
theorem aaV:sAw.Ok 6 gZ:=by
 unfold sAw
 refine afE ?_
 rintro⟨⟩ y args H0 E0 h az h1 hP hv hS
 have hP2:some (([]:List Sv),([]:List Pl),Lf.e1)=some (args,[],H0):=hP
 cases hP2
 cases hv
 refine⟨.bool true,fun _=>.ok (true,()),h1,WH ?_,fun n d=>Cb rfl n (d+1)⟩
 rintro⟨⟩ y' h'
 cases h'
 kernel_rfl
theorem U6(V:ByteArray->Bool):(s66 V).Ok 83 gZ:=by
 unfold s66
 intro pl q args H0 E0 h az e
 obtain⟨x,y,rfl,h1,rfl⟩:=y0 e
 obtain⟨h2,_⟩:=Lf.T.aX h1
 unfold Ax at h2
 rw[Bool.and_eq_true]at h2
 have h3:false=true:=h2.2
 cases h3
theorem aaW(V:ByteArray->Bool):zc V gZ:=
 have W:WorldC V gZ:=⟨⟨⟨AF⟩,U6 V⟩,UQ⟩
 ⟨⟨⟨W,U5 W⟩,UP,UR,US,UT,UU,UW,UX,UY,UZ,U0⟩,aaV⟩
end Go.Proofs.Vd

noncomputable section
namespace Go.Proofs.Vd
open Go.Ab Go.Ab.Lf Go.ChangeShapes Go.WideShapes Go.ChangeAt Go.RowKit
set_option maxRecDepth 100000
abbrev N0:Nat->Option Rw:=fun _=>none
def otF(P:Go.Program)(ot:Ty->Nat->Bool):List Field->Nat->Ty->Bool
 | [],_,_=>false
 |f::fs,off,T=>match fs with
  | []=>Nat.beq f.offset off&&(Nat.beq (P.cellsOf f.type) (size T)&&ot T f.type)
  | _::_=>match T with
   | .pair A B=>(Nat.beq f.offset off&&(Nat.beq (P.cellsOf f.type) (size A)&&ot A f.type))&&otF P ot fs (off+size A) B
   | _=>false
def otB(P:Go.Program):Nat->Ty->Nat->Bool
 |0,_,_=>false
 |n+1,T,t=>match P.underlying t with
  |some (.int k)=>match T with
   | .int k'=>decide (k=k')
   | _=>false
  |some .bool=>match T with
   | .bool=>true
   | _=>false
  |some .string=>match T with
   | .str=>true
   | _=>false
  |some (.slice e)=>match T with
   | .ae T'=>Nat.beq (P.cellsOf e) (size T')&&(Nat.blt 0 (size T')&&otB P n T' e)
   | _=>false
  |some (.struct fs)=>Nat.beq (P.cellsOf t) (size T)&&otF P (otB P n) fs.toList 0 T
  | _=>false
def Bd:(T:Ty)->den T->Prop
 | .int k,x=>(Lit.int k x).wf=true
 | .bool,_=>True
 | .str,x=>ByteArray.size x<=maxLen
 | .ae t,x=>List.length x<=maxLen/\ ∀ e,e∈x->Bd t e
 | .pair a b,x=>Bd a x.1/\Bd b x.2
def qv:(T:Ty)->den T->Nat
 | .int _,_=>1
 | .bool,_=>1
 | .str,x=>ByteArray.size x+1
 | .ae t,x=>1+List.foldr (fun e n=>qv t e+n) 0 x
 | .pair a b,x=>qv a x.1+qv b x.2
structure Kg{H:Type}(bk:DataW H->Nat)(EJ:List (DataW H)->Nat):Prop where
 one: ∀ d,1<=bk d
 nil:EJ []=0
 cons: ∀ d l,EJ (d::l)=bk d+EJ l
 str: ∀ b:List UInt8,b.length+1<=bk (.lit (.string b))
 ae: ∀ l m,EJ l+1<=bk (.slice l m)
 agg: ∀ l,EJ l<=bk (.agg l)
theorem Kg.app{H:Type}{bk:DataW H->Nat}{EJ:List (DataW H)->Nat}(K:Kg bk EJ)(l m:List (DataW H)):EJ (l++m)=EJ l+EJ m:=by
 induction l with
 |nil=>rw[List.nil_append,K.nil];omega
 |cons a l ih=>rw[List.cons_append,K.cons,K.cons,ih];omega
abbrev gI[Io](W:Go.World):G:=gE fun b=>b<W.heap.size
section
variable [Io]{H:Type}{enc:TypeId×Value->H}{P:Go.Program}{W:Go.World}{sp:Nat->Bool}{held:Bool}{bk:DataW H->Nat}{EJ:List (DataW H)->Nat}
omit [Io] in
theorem PX{b o:Nat}{v:Value}(h:W.cell? ⟨b,o,none⟩=some v):b<W.heap.size:=by
 by_cases hb:b<W.heap.size
 ·exact hb
 ·exfalso
  have e:W.heap[b]? =none:=Array.getElem?_eq_none (by omega)
  unfold Go.World.cell? at h
  dsimp only at h
  rw[e]at h
  cases h
def Op(W:Go.World)(T:Ty)(cs:List Value)(n:Nat):Prop:= ∃ (x:den T) (bs:List AV),EV N0 T x bs/\bD (gI W) W bs cs/\Bd T x/\qv T x<=n
theorem wj(K:Kg bk EJ){ot:Ty->Nat->Bool}{n:Nat}(IH: ∀ (T:Ty) (t:Nat) (cs:List Value) (y:DataW H×List MemPlace),ot T t=true->DataW.trod enc P W 0 sp held n t cs=some y->Op W T cs (bk y.1)): ∀ (fs:List Field) (ys:List (DataW H×List MemPlace)) (off:Nat) (T:Ty) (cs:List Value),otF P ot fs off T=true->
 fs.length=ys.length->(∀ (i:Nat) f,fs[i]? =some f->DataW.trod enc P W 0 sp held n f.type ((cs.drop f.offset).take (P.cellsOf f.type))=ys[i]?)->Op W T ((cs.drop off).take (size T)) (EJ (ys.map (·.1)))
 | [],_,_,_,_,h,_,_=>by cases h
 | _::_,[],_,_,_,_,hl,_=>by simp at hl
 | [f],y::ys,off,T,cs,h,hl,hf=>by
  have h:(Nat.beq f.offset off&&(Nat.beq (P.cellsOf f.type) (size T)&&ot T f.type))=true:=h
  rw[Bool.and_eq_true,Bool.and_eq_true]at h
  obtain⟨h1,h2,h3⟩:=h
  have hy:=hf 0 f rfl
  obtain⟨x,bs,k1,k2,k3,k4⟩:=IH T f.type _ y h3 hy
  rw[Nat.eq_of_beq_eq_true h1,Nat.eq_of_beq_eq_true h2]at k2
  refine⟨x,bs,k1,k2,k3,?_⟩
  rw[List.map_cons,K.cons]
  omega
 |f::g::fs,y::ys,off,.pair A B,cs,h,hl,hf=>by
  have h:((Nat.beq f.offset off&&(Nat.beq (P.cellsOf f.type) (size A)&&ot A f.type))&&otF P ot (g::fs) (off+size A) B)=true:=h
  rw[Bool.and_eq_true,Bool.and_eq_true,Bool.and_eq_true]at h
  obtain⟨⟨h1,h2,h3⟩,h4⟩:=h
  have hy:=hf 0 f rfl
  have a:=IH A f.type _ y h3 hy
  rw[Nat.eq_of_beq_eq_true h1,Nat.eq_of_beq_eq_true h2]at a
  obtain⟨x1,as1,e1,v1,b1,c1⟩:=a
  obtain⟨x2,as2,e2,v2,b2,c2⟩:=wj K IH (g::fs) ys (off+size A) B cs h4 (by simpa using hl) fun i f hm=>hf (i+1) f hm
  refine⟨(x1,x2),as1++as2,⟨as1,as2,rfl,e1,e2⟩,?_,⟨b1,b2⟩,?_⟩
  ·have e:(cs.drop off).take (size (.pair A B))=(cs.drop off).take (size A)++(cs.drop (off+size A)).take (size B):=by
    show(cs.drop off).take (size A+size B)=_
    rw[List.take_add,List.drop_drop]
   rw[e]
   exact v1.append v2
  ·show qv A x1+qv B x2<=_
   rw[List.map_cons,K.cons]
   omega
 | _::_::_,_,_,.int _,_,h,_,_=>by cases h
 | _::_::_,_,_,.bool,_,h,_,_=>by cases h
 | _::_::_,_,_,.str,_,h,_,_=>by cases h
 | _::_::_,_,_,.ae _,_,h,_,_=>by cases h
omit [Io] in
theorem PY{α β:Type}{f:α->Option β}: ∀ {l:List α} {r:List β},l.mapM f=some r->r.length=l.length:=by
 intro l
 induction l with
 |nil=>intro r h;simp at h;subst h;rfl
 |cons a l ih=>
  intro r h
  rw[List.mapM_cons]at h
  simp only[Option.bind_eq_bind,Option.bind_eq_some_iff,Option.pure_def,Option.some.injEq]at h
  obtain⟨b,_,rs,h2,rfl⟩:=h
  simp[ih h2]
omit [Io] in
theorem EC{a:Addr}{k:Nat}{cs:List Value}(h:W.cells? 0 a k=some cs):cs.length=k/\ ∀ j,j<k->W.cell? (a.add j)=cs[j]? :=by
 unfold World.cells? at h
 rw[if_pos (Nat.zero_le _)]at h
 exact⟨by simpa using PY h,fun j hj=>mapM_some_get h j j (by simp[hj])⟩
theorem ED(K:Kg bk EJ){T:Ty}{b o n:Nat}{e:Nat}(IH: ∀ (cs:List Value) (y:DataW H×List MemPlace),DataW.trod enc P W 0 sp held n e cs=some y->Op W T cs (bk y.1))(hs:P.cellsOf e=size T):
 ∀ (len:Nat) (ys:List (DataW H×List MemPlace)),ys.length=len->(∀ i,i<len->(W.cells? 0 ⟨b,o+i*size T,none⟩ (P.cellsOf e)).bind (DataW.trod enc P W 0 sp held n e)=ys[i]?)->
 ∃ (xs:List (den T)) (ls:List AV) (vs:List Value),xs.length=len/\kG (EV N0 T) xs ls/\bD (gI W) W ls vs/\vs.length=len*size T/\ee W b o vs/\(∀ x,x∈xs->Bd T x)/\List.foldr (fun e n=>qv T e+n) 0 xs<=EJ (ys.map (·.1))
 |0,ys,hy,_=>by
  have:ys=[]:=List.eq_nil_of_length_eq_zero hy
  subst this
  exact⟨[],[],[],rfl,rfl,by simp only[bD],by simp,fun j v h=>by simp at h,fun x h=>(by cases h),Nat.zero_le _⟩
 |len+1,ys,hy,h=>by
  obtain⟨ys',y,e⟩: ∃ ys' y,ys=ys'++[y]:=by
   have:ys≠[]:=fun e=>by rw[e]at hy;simp at hy
   exact⟨ys.dropLast,ys.getLast this,(List.dropLast_concat_getLast this).symm⟩
  subst e
  have hl:ys'.length=len:=by simpa using hy
  obtain⟨xs,ls,vs,h1,h2,h3,h4,h5,h6,h7⟩:=ED K IH hs len ys' hl fun i hi=>by
   rw[h i (by omega),List.getElem?_append_left (by omega)]
  have hy:=h len (by omega)
  rw[List.getElem?_append_right (by omega),hl,Nat.sub_self]at hy
  have hy:_=some y:=hy
  rw[Option.bind_eq_some_iff]at hy
  obtain⟨cs,hc,hy⟩:=hy
  obtain⟨x,bs,k1,k2,k3,k4⟩:=IH cs y hy
  obtain⟨c1,c2⟩:=EC hc
  refine⟨xs++[x],ls++bs,vs++cs,by simp[h1],h2.app ⟨bs,[],by simp,k1,rfl⟩,h3.append k2,by rw[List.length_append,h4,c1,hs,Nat.succ_mul],fun j v hj=>?_,fun z hz=>?_,?_⟩
  ·rw[List.getElem?_append]at hj
   by_cases q:j<vs.length
   ·rw[if_pos q]at hj
    exact h5 j v hj
   ·rw[if_neg q]at hj
    have gG:j - vs.length<cs.length:=(List.getElem?_eq_some_iff.1 hj).1
    have:=c2 (j - vs.length) (by omega)
    rw[hj,add_plain]at this
    rw[<-this]
    congr 2
    omega
  ·rcases List.mem_append.1 hz with hz|hz
   ·exact h6 z hz
   ·have:z=x:=by simpa using hz
    rw[this]
    exact k3
  ·have key: ∀ (l:List (den T)),List.foldr (fun e n=>qv T e+n) 0 (l++[x])=List.foldr (fun e n=>qv T e+n) 0 l+qv T x:=by
    intro l
    induction l with
    |nil=>simp
    |cons a l ih=>simp only[List.cons_append,List.foldr_cons,ih];omega
   rw[key,List.map_append,K.app,List.map_cons,List.map_nil,K.cons,K.nil]
   omega
theorem Cc(K:Kg bk EJ): ∀ (n:Nat) (fuel:Nat) (T:Ty) (t:Nat) (cs:List Value) (y:DataW H×List MemPlace),otB P n T t=true->DataW.trod enc P W 0 sp held fuel t cs=some y->Op W T cs (bk y.1)
 |0,_,_,_,_,_,h,_=>by cases h
 |n+1,fuel,T,t,cs,y,h,hy=>by
  unfold otB at h
  split at h
  ·rename_i k hu
   split at h
   ·rename_i k'
    have h:=of_decide_eq_true h
    subst h
    obtain⟨z,e1,_,e3⟩:=DataW.trod_int hu hy
    subst e1
    exact⟨z,[.int k z],rfl,by simp only[bD,VR];exact⟨_,_,rfl,rfl,rfl⟩,e3,K.one _⟩
   ·cases h
  ·rename_i hu
   split at h
   ·obtain⟨b,e1,_⟩:=DataW.trod_bool hu hy
    subst e1
    exact⟨b,[.bool b],rfl,by simp only[bD,VR];exact⟨_,_,rfl,rfl,rfl⟩,trivial,K.one _⟩
   ·cases h
  ·rename_i hu
   split at h
   ·obtain⟨s,e1,e2,e3⟩:=DataW.trod_string hu hy
    subst e1
    subst e2
    exact⟨s,[.sc (.string s)],rfl,by simp only[bD,VR];exact⟨_,_,rfl,⟨rfl,rfl⟩,rfl⟩,e3,K.str _⟩
   ·cases h
  ·rename_i e hu
   split at h
   ·rename_i T'
    rw[Bool.and_eq_true,Bool.and_eq_true]at h
    obtain⟨h1,h2,h3⟩:=h
    have h1:=Nat.eq_of_beq_eq_true h1
    have h2:0<size T':=by simpa using h2
    rcases DataW.trod_slice hu hy with⟨e1,_⟩|⟨a,len,cap,elems,rest,m,rfl,e1,e2,_,VF,hcm,hel,hx,_,_⟩
    ·subst e1
     exact⟨[],[.kX 0 []],⟨_,rfl,.inr ⟨[],rfl,.inl rfl⟩⟩,by simp only[bD,VR];exact⟨_,_,rfl,⟨none,0,rfl,Nat.le_refl _,.inl ⟨trivial,trivial⟩⟩,rfl⟩,⟨Nat.zero_le _,fun _ h=>by cases h⟩,K.one _⟩
    ·subst e1
     by_cases h0:len=0
     ·subst h0
      exact⟨[],[.kX 0 []],⟨_,rfl,.inr ⟨[],rfl,.inl rfl⟩⟩,by simp only[bD,VR];exact⟨_,_,rfl,⟨some a,cap,rfl,Nat.zero_le _,.inl ⟨trivial,trivial⟩⟩,rfl⟩,⟨Nat.zero_le _,fun _ h=>by cases h⟩,K.one _⟩
     ·subst e2
      have hx': ∀ i,i<len-> ∃ y,(W.cells? 0 (a.add (i*P.cellsOf e)) (P.cellsOf e)).bind (DataW.trod enc P W 0 sp held m e)=some y:=fun i hi=>by
       rw[hx i hi,List.getElem?_eq_getElem (by omega)]
       exact⟨_,rfl⟩
      obtain⟨b,o,spot⟩:=a
      have hsp:spot=none:=by
       obtain⟨y,hy⟩:=hx' 0 (by omega)
       rw[Option.bind_eq_some_iff]at hy
       obtain⟨cs,hc,_⟩:=hy
       obtain⟨c1,c2⟩:=EC hc
       have q:=c2 0 (by omega)
       rw[List.getElem?_eq_getElem (by omega)]at q
       have:=World.cell?_spot q
       simpa[Addr.add]using this
      subst hsp
      obtain⟨xs,ls,vs,k1,k2,k3,k4,k5,k6,k7⟩:=ED K (T:=T') (b:=b) (o:=o) (fun cs y=>Cc K n m T' e cs y h3) h1 len elems hel fun i hi=>by
       have:=hx i hi
       rw[add_plain,h1]at this
       rw[h1]
       exact this
      refine⟨xs,[.kX xs.length ls],⟨_,rfl,.inr ⟨ls,k2,.inl rfl⟩⟩,?_,⟨by rw[k1];omega,k6⟩,Nat.le_trans (by show 1+_<=_;rw[Nat.add_comm];exact Nat.succ_le_succ k7) (K.ae _ _)⟩
      simp only[bD,VR]
      refine⟨_,_,rfl,⟨some ⟨b,o,none⟩,cap,by rw[k1],by rw[k1];exact VF,.inr ⟨b,o,vs,rfl,?_,k5,k3⟩⟩,rfl⟩
      have hv0:0<vs.length:=by rw[k4];exact Nat.mul_pos (by omega) h2
      exact PX (k5 0 _ (List.getElem?_eq_getElem hv0))
   ·cases h
  ·rename_i fs hu
   rw[Bool.and_eq_true]at h
   obtain⟨h1,h2⟩:=h
   obtain⟨xs,m,rfl,e2,hl,hxl,hf⟩:=DataW.trod_struct hu hy
   subst e2
   have:=wj K (n:=m) (fun T t cs y=>Cc K n m T t cs y) fs.toList xs 0 T cs h2 (by simp[hxl]) fun i f hm=>hf i f (by simpa using hm)
   rw[List.drop_zero]at this
   have e:cs.take (size T)=cs:=by
    rw[<-Nat.eq_of_beq_eq_true h1,<-hl,List.take_length]
   rw[e]at this
   obtain⟨x,bs,k1,k2,k3,k4⟩:=this
   exact⟨x,bs,k1,k2,k3,Nat.le_trans k4 (K.agg _)⟩
  ·cases h
end
end Go.Proofs.Vd

noncomputable section
namespace Go.Proofs.Vd
open Go.Ab Go.Ab.Lf Go.ChangeShapes Go.WideShapes Go.ChangeAt Go.RowKit
set_option maxRecDepth 100000
theorem afJ{g:aj zd->Lf.T (aj zO)}(ok:(iw (Ps [.im dI]) [] (Ps [.bo]) zd zO g).Ok 4 gZ){l:List (den dI)}(hg:(g (l,())).val=some (true,())){s:AV}(hs:EV N0 (.ae dI) l [s]): ∃ n,isT (gZ n n 4 [s] (fR 0))=true:=by
 obtain⟨E0,hE⟩: ∃ E0:En,E0=⟨fun _=>⟨.any,0⟩,fun r=>[s].getD (r - 1) .any,N0,fun _=>.any⟩:=⟨_,rfl⟩
 have e:((iw (Ps [.im dI]) [] (Ps [.bo]) zd zO g).f (aB zd (l,()))).val=some (aB zO (true,())):=vD (ti:=zd) (to:=zO) (x:=(l,())) (y:=(true,())) hg
 have hP:gp (Ps [.im dI]) (aB zd (l,())) Lf.e1=some ([.c 1 (.ae dI) l],[],⟨2,.nil⟩):=rfl
 have hS:SR E0 (iG ⟨2,.nil⟩) (fR 0):=by
  have et:iG ⟨2,.nil⟩=(⟨2,.nil⟩:Hq):=rfl
  rw[et]
  have no: ∀ r R,¬ (Tr.nil:Tr Lf.Row).get r=some R:=fun r R h=>by
   have h:(none:Option Lf.Row)=some R:=h
   cases h
  refine⟨?_,?_,?_,?_⟩
  ·intro r R h;exact(no r R h).elim
  ·rintro r r' id ⟨R,h,_⟩;exact(no r R h).elim
  ·rintro r id ⟨R,h,_⟩;exact(no r R h).elim
  ·intro id row h
   subst hE
   cases h
 have hv:Vs E0 2 [.c 1 (.ae dI) l] [s]:=by
  subst hE
  exact .cons (.c hs fun _=>⟨by decide,rfl⟩) .nil
 obtain⟨c,h',E1,ws,H1,⟨M,hM⟩,_,_,hQ,hV⟩:=ok _ _ _ _ E0 (fR 0) _ e hP hv hS
 have hM:gZ M M 4 [s] (fR 0)=.ok c h':=hM M M (Nat.le_refl _) (Nat.le_refl _)
 have hQ:some (([.c 0 .bool true]:List Sv),([]:List Pl),Lf.e1)=some (ws,[],H1):=hQ
 cases hQ
 cases hV with
 |cons k _=>
  cases k with
  |c k _=>
   have k:[c]=[.bool true]:=k
   injection k with k
   subst k
   exact⟨M,by rw[hM];rfl⟩
theorem U7(l:List (den dI))(h: ∀ g,g∈l->sgL g){s:AV}(hs:EV N0 (.ae dI) l [s]): ∃ n,isT (gZ n n 4 [s] (fR 0))=true:=by
 have W:=aaW fun _=>true
 rcases ae4 (fun _=>true) l h with e|e
 ·have sm:=we (cg _) (cg _) (k:=ky4 (fun _=>true) (l,())) (m:=my4 (fun _=>true) (l,())) e
  refine afJ (aaP W) ?_ hs
  show(bif ky4 (fun _=>true) (l,())then some (my4 (fun _=>true) (l,()))else none)=_
  rw[sm.1,sm.2]
  rfl
 ·have sm:=we (cg _) (cg _) (k:=kz4 (fun _=>true) (l,())) (m:=mz4 (fun _=>true) (l,())) e
  refine afJ (aaN W) ?_ hs
  show(bif kz4 (fun _=>true) (l,())then some (mz4 (fun _=>true) (l,()))else none)=_
  rw[sm.1,sm.2]
  rfl
theorem aaX{g:G}{W:Go.World}: @nJ ioS g W:=by
 intro p hp
 cases hp
abbrev Kh(t:Ty)(l:List (den t)):Nat:=List.foldr (fun e n=>qv t e+n) 0 l
theorem PZ{t:Ty}{l:List (den t)}{x:den t}(h:x∈l):qv t x<=Kh t l:=by
 induction l with
 |nil=>cases h
 |cons a l ih=>
  show _<=qv t a+Kh t l
  rcases List.mem_cons.1 h with e|e
  ·subst e;omega
  ·have:=ih e;omega
theorem P0(l:List Int):l.length<=Kh u8 l:=by
 induction l with
 |nil=>exact Nat.zero_le _
 |cons a l ih=>
  show l.length+1<=1+Kh u8 l
  omega
theorem afK{l:List (den dI)}(h:Bd (.ae dI) l)(hn:qv (.ae dI) l<=1048576): ∀ g,g∈l->sgL g:=by
 intro g hg
 have h1:Bd dI g:=h.2 g hg
 have h2:(Lit.int .u32 g.1).wf=true:=h1.1
 refine⟨?_,?_⟩
 ·simp[Lit.wf,IntKind.min,IntKind.max,IntKind.bits,IntKind.signed]at h2
  obtain⟨z,hz⟩: ∃ z:Int,z=g.1:=⟨_,rfl⟩
  have h4:0<=z/\z<=4294967295:=by rw[hz];exact h2
  obtain⟨n,hn⟩:=Int.eq_ofNat_of_zero_le h4.1
  exact⟨n,hz.symm.trans hn,by omega⟩
 ·have hn:1+Kh dI l<=1048576:=hn
  have k1:=PZ hg
  have k2:qv dI g=1+(1+Kh u8 g.2):=rfl
  have k3:=P0 g.2
  omega
theorem P1{W:Go.World}{l:List (den dI)}{s:List AV}{v:Value}(B:Bd (.ae dI) l)(hn:qv (.ae dI) l<=1048576)(h:EV N0 (.ae dI) l s)(hv: @bD ioS (@gI ioS W) W s [v]):
 Calls Tryz.prog 4 #[v] W fun e W'=>e=.returned (.bool true)/\Below W.heap.size W W':=by
 obtain⟨s1,rfl,h1⟩:=h
 obtain⟨n,hn⟩:=U7 l (afK B hn) (s:=s1) ⟨_,rfl,h1⟩
 exact @Xt ioS Tryz.prog _ (@UN ioS n n) 4 _ [v] hn W (fun b=>b<W.heap.size) (fun b h=>h) aaX hv
end Go.Proofs.Vd
