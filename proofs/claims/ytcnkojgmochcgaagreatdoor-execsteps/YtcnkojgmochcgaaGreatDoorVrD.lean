import Derived.Test.YtcnkojgmochcgaaGreatDoorVrC
import Derived.Test.YtcnkojgmochcgaaGreatDoorLfK
import Derived.Test.YtcnkojgmochcgaaGreatDoorLfN
noncomputable section
namespace Go.Proofs.Vq
open Go.Ab Go.Ab.Lf Go.RowKit
set_option maxRecDepth 100000
def P1(k:IntKind)(b:Int)(F:Int->Int):List AV->Option AV
 | [.int k' x]=>bif decide (k'=k)&&(decide (0<=x)&&decide (x<=b))then some (.int .i64 (F x))else none
 | _=>none
theorem uM[Io]{f:FuncId}{k:IntKind}{b:Int}{F:Int->Int}(hk: ∀ x,0<=x->x<=b->bQ Tryz.prog f [.int k x] (.int .i64 (F x))){az:List AV}{v:AV}(h:P1 k b F az=some v):bQ Tryz.prog f az v:=by
 unfold P1 at h
 split at h
 ·rename_i k' x
  cases hb:(decide (k'=k)&&(decide (0<=x)&&decide (x<=b)))with
  |false=>rw[hb]at h;cases h
  |true=>
   rw[hb]at h
   cases h
   simp only[Bool.and_eq_true,decide_eq_true_eq]at hb
   obtain⟨rfl,h1,h2⟩:=hb
   exact hk x h1 h2
 ·cases h
def oZ(f:FuncId)(az:List AV):Option AV:=bif G3 f then KN f az else
 bif Nat.beq f 10 then(match az with| []=>some (.bool true)| _=>none)else
 bif Nat.beq f 49 then P1 .u32 4294967295 (lz 32) az else
 bif Nat.beq f 50 then P1 .u32 4294967295 (tz 32) az else
 bif Nat.beq f 52 then P1 .u64 18446744073709551615 (lz 64) az else
 bif Nat.beq f 53 then P1 .u64 18446744073709551615 (tz 64) az else none
theorem P2: ∀ f az v,oZ f az=some v-> @bQ oY Tryz.prog f az v:=by
 intro f az v h
 unfold oZ at h
 cases hc:G3 f with
 |true=>rw[hc]at h;exact y0 f az v h
 |false=>
  rw[hc,cond_false]at h
  cases P3:Nat.beq f 10 with
  |true=>
   rw[P3,cond_true]at h
   obtain rfl:=Nat.eq_of_beq_eq_true P3
   split at h
   ·cases h;exact abh
   ·cases h
  |false=>
   rw[P3,cond_false]at h
   cases Xh:Nat.beq f 49 with
   |true=>rw[Xh,cond_true]at h;obtain rfl:=Nat.eq_of_beq_eq_true Xh;exact @uM oY _ _ _ _ (fun x a b=>abc x a b) _ _ h
   |false=>
    rw[Xh,cond_false]at h
    cases Xi:Nat.beq f 50 with
    |true=>rw[Xi,cond_true]at h;obtain rfl:=Nat.eq_of_beq_eq_true Xi;exact @uM oY _ _ _ _ (fun x a b=>abe x a b) _ _ h
    |false=>
     rw[Xi,cond_false]at h
     cases Xj:Nat.beq f 52 with
     |true=>rw[Xj,cond_true]at h;obtain rfl:=Nat.eq_of_beq_eq_true Xj;exact @uM oY _ _ _ _ (fun x a b=>abd x a b) _ _ h
     |false=>
      rw[Xj,cond_false]at h
      cases Xk:Nat.beq f 53 with
      |true=>rw[Xk,cond_true]at h;obtain rfl:=Nat.eq_of_beq_eq_true Xk;exact @uM oY _ _ _ _ (fun x a b=>abf x a b) _ _ h
      |false=>rw[Xk]at h;cases h
def P4(f:FuncId)(az:List AV):Option AV:=match az with
 | [.agg m]=>bif @decide (f=56/\EV N0 KM xi m) (Classical.propDecidable _)then some (.int .i64 0)else none
 | _=>none
theorem P5: ∀ f az v,P4 f az=some v-> @bQ oY Tryz.prog f az v:=by
 intro f az v h
 unfold P4 at h
 split at h
 ·rename_i m
  cases hd: @decide (f=56/\EV N0 KM xi m) (Classical.propDecidable _)with
  |false=>rw[hd]at h;cases h
  |true=>
   rw[hd]at h
   cases h
   obtain⟨rfl,hm⟩:= @of_decide_eq_true _ (Classical.propDecidable _) hd
   exact abi hm
 ·cases h
def uN(f:FuncId):Bool:=Nat.beq f 56
def nH(c:bV):bV:=NG uN P4 (AT oZ c)
def dG(n d:Nat):bV:=nH (na Tryz.gt nH n d)
theorem KO(n d:Nat): @cI oY Tryz.prog (dG n d):=
 have hw: ∀ c,@cI oY Tryz.prog c-> @cI oY Tryz.prog (nH c):=fun _ hc=> @IU oY _ _ _ _ P5 (@yZ oY _ _ P2 _ hc)
 hw _ (@qM oY _ _ (@tZ oY _ Tryz.mixed) _ Tryz.gts _ hw n d)
theorem Gj{f:FuncId}{az az':List AV}{v:AV}{h:Hp}(hf:uN f=true)(hz:mapA (mb 8 h) az=some az')(ht:P4 f az'=some v)(n d:Nat):dG n d f az h=.ok v h:=by
 show(Bool.rec (AT oZ _ f az h) (match mapA (mb 8 h) az with|some kL=>(match P4 f kL with|some v=>Ro.ok v h|none=>AT oZ (na Tryz.gt nH n d) f az h)|none=>AT oZ (na Tryz.gt nH n d) f az h) (uN f):Ro)=_
 rw[hf,hz]
 dsimp only
 rw[ht]
theorem pX{f:FuncId}{az:List AV}{v:AV}{h:Hp}(hf:uN f=false)(hl:oZ f az=some v)(n d:Nat):dG n d f az h=.ok v h:=by
 show(Bool.rec (AT oZ _ f az h) (match mapA (mb 8 h) az with|some kL=>(match P4 f kL with|some v=>Ro.ok v h|none=>AT oZ (na Tryz.gt nH n d) f az h)|none=>AT oZ (na Tryz.gt nH n d) f az h) (uN f):Ro)=_
 rw[hf]
 show(match oZ f az with|some v=>Ro.ok v h|none=>_)=_
 rw[hl]
theorem jE{f:FuncId}{b:bR}(hf:Tryz.xs.get f=some b)(hh:uN f=false){n d:Nat}{az:List AV}{h:Hp}(hl:oZ f az=none):dG n (d+1) f az h=q7 b.fb n (dG n d) az h:=by
 show(Bool.rec (AT oZ _ f az h) (match mapA (mb 8 h) az with|some kL=>(match P4 f kL with|some v=>Ro.ok v h|none=>AT oZ (na Tryz.gt nH n (d+1)) f az h)|none=>AT oZ (na Tryz.gt nH n (d+1)) f az h) (uN f):Ro)=_
 rw[hh]
 show(match oZ f az with|some v=>Ro.ok v h|none=>vY Tryz.gt n (dG n d) f az h)=_
 rw[hl]
 show vY Tryz.gt n (dG n d) f az h=_
 unfold vY
 rw[Tryz.V4 hf]
 rfl
theorem P6{f:FuncId}{b:bR}(hC:G3 f=true)(hf:Tryz.xs.get f=some b)(hb:QH f=some b): ∀ n d h,q7 b.fb n (dG n d) [.cW] h=.bad/\q7 b.fb n (dG n d) [.fc 0 []] h=.bad:=by
 unfold G3 at hC
 simp only[Bool.or_eq_true]at hC
 rcases hC with((((((((((((h|h)|h)|h)|h)|h)|h)|h)|h)|h)|h)|h)|h)|h
 ·obtain rfl:=Nat.eq_of_beq_eq_true h;obtain rfl:b=Tryz.Yg:=(Option.some.inj hf).symm;exact fun n d h=>⟨by kernel_rfl,by kernel_rfl⟩
 ·obtain rfl:=Nat.eq_of_beq_eq_true h;obtain rfl:b=Tryz.Yh:=(Option.some.inj hf).symm;exact fun n d h=>⟨by kernel_rfl,by kernel_rfl⟩
 ·obtain rfl:=Nat.eq_of_beq_eq_true h;obtain rfl:b=Tryz.Yi:=(Option.some.inj hf).symm;exact fun n d h=>⟨by kernel_rfl,by kernel_rfl⟩
 ·obtain rfl:=Nat.eq_of_beq_eq_true h;obtain rfl:b=Tryz.Yj:=(Option.some.inj hf).symm;exact fun n d h=>⟨by kernel_rfl,by kernel_rfl⟩
 ·obtain rfl:=Nat.eq_of_beq_eq_true h;obtain rfl:b=Tryz.Yk:=(Option.some.inj hf).symm;exact fun n d h=>⟨by kernel_rfl,by kernel_rfl⟩
 ·obtain rfl:=Nat.eq_of_beq_eq_true h;obtain rfl:b=Tryz.JO:=(Option.some.inj hf).symm;exact fun n d h=>⟨by kernel_rfl,by kernel_rfl⟩
 ·obtain rfl:=Nat.eq_of_beq_eq_true h;obtain rfl:b=Tryz.JP:=(Option.some.inj hf).symm;exact fun n d h=>⟨by kernel_rfl,by kernel_rfl⟩
 ·obtain rfl:=Nat.eq_of_beq_eq_true h;obtain rfl:b=Tryz.JQ:=(Option.some.inj hf).symm;exact fun n d h=>⟨by kernel_rfl,by kernel_rfl⟩
 ·obtain rfl:=Nat.eq_of_beq_eq_true h;obtain rfl:b=Tryz.JR:=(Option.some.inj hf).symm;exact fun n d h=>⟨by kernel_rfl,by kernel_rfl⟩
 ·obtain rfl:=Nat.eq_of_beq_eq_true h;obtain rfl:b=Tryz.JS:=(Option.some.inj hf).symm;exact fun n d h=>⟨by kernel_rfl,by kernel_rfl⟩
 ·obtain rfl:=Nat.eq_of_beq_eq_true h;obtain rfl:b=Tryz.JT:=(Option.some.inj hf).symm;exact fun n d h=>⟨by kernel_rfl,by kernel_rfl⟩
 ·obtain rfl:=Nat.eq_of_beq_eq_true h;obtain rfl:b=Tryz.JU:=(Option.some.inj hf).symm;exact fun n d h=>⟨by kernel_rfl,by kernel_rfl⟩
 ·obtain rfl:=Nat.eq_of_beq_eq_true h;obtain rfl:b=Tryz.JV:=(Option.some.inj hf).symm;exact fun n d h=>⟨by kernel_rfl,by kernel_rfl⟩
 ·obtain rfl:=Nat.eq_of_beq_eq_true h;obtain rfl:b=Tryz.JW:=(Option.some.inj hf).symm;exact fun n d h=>⟨by kernel_rfl,by kernel_rfl⟩
theorem s5: ∀ f b,QH f=some b->kS dG f b:=by
 intro f b hb n d az h c h' e
 have RC:=hb
 unfold QH at hb
 cases hx:exQ f with
 |true=>rw[hx]at hb;cases hb
 |false=>
  rw[hx,cond_false]at hb
  unfold exQ at hx
  simp only[Bool.or_eq_false_iff]at hx
  obtain⟨P3,h56,_,_,Xh,Xi,Xj,Xk⟩:=hx
  cases hC:G3 f with
  |false=>
   rw[jE hb h56 (by unfold oZ;rw[hC,P3,Xh,Xi,Xj,Xk];rfl)]
   exact e
  |true=>
   obtain⟨q1,q2⟩:=P6 hC hb RC n d h
   have hl:oZ f az=none:=by
    unfold oZ
    rw[hC,cond_true]
    unfold KN
    rw[hC,cond_true]
    cases h1:fv [.cW] az with
    |true=>obtain rfl:=eU _ _ h1;rw[q1]at e;cases e
    |false=>
     rw[cond_false]
     cases h2:fv [.fc 0 []] az with
     |true=>obtain rfl:=eU _ _ h2;rw[q2]at e;cases e
     |false=>rfl
   rw[jE hb h56 hl]
   exact e
end Go.Proofs.Vq

noncomputable section
namespace Go.Proofs.Vq
open Go.Ab Go.Ab.Lf Go.RowKit
set_option maxRecDepth 100000
theorem y5{P:gO}{ptr:List Nat}{Q:gO}{ti to:List Ty}{g:aI ti->Lf.T (aI to)}{pl q:List Pl}(h:((gC P ptr Q ti to g).f pl).val=some q): ∃ x y,pl=aN ti x/\(g x).val=some y/\q=aN to y:=by
 change (match toT ti pl with|some x=>(g x).map (aN to)|none=>.bad).val=some q at h
 split at h
 ·rename_i x hx
  obtain⟨y,h1,h2⟩:=T.Ag h
  exact⟨x,y,kU hx,h1,h2⟩
 ·cases h
theorem uO{P:gO}{ptr:List Nat}{Q:gO}{ti to:List Ty}{g:aI ti->Lf.T (aI to)}{x:aI ti}{y:aI to}(h:(g x).val=some y):((gC P ptr Q ti to g).f (aN ti x)).val=some (aN to y):=by
 show(match toT ti (aN ti x)with|some x=>(g x).map (aN to)|none=>.bad).val=_
 rw[jh]
 show((g x).bd fun a=>Lf.T.ok (aN to a)).val=_
 rw[Lf.T.EC,h]
 rfl
abbrev rC(c:AV):bR:=Go.Ab.X.bb 8 [.tmp 2] fun _ _=>(Go.Ab.X.ah (Go.Ab.X.ai (Go.Ab.X.st 2 (Go.Ab.X.aa (Go.Ab.X.oC c)) Go.Ab.X.fi)) Go.Ab.X.ba)
theorem KP(c0:AV)(f:FuncId):kS (fun _ _ _ _ h=>.ok c0 h) f (rC c0):=by
 intro n d az h c h' e
 have e:(ek (Nat.ble (len az) 8) (.ok c0 h) .bad:Go.Ab.Ro)=.ok c h':=e
 cases hb:Nat.ble (len az) 8 with
 |true=>rw[hb]at e;exact e
 |false=>rw[hb]at e;cases e
theorem AW(aP:a8):mh (fun _ _ _=>.bad) aP:=fun _ _ _ _ _ _ _ _ _ _ e=>by cases e
theorem Gk{P Q:gO}{ti to:List Ty}{g:aI ti->Lf.T (aI to)}{f:FuncId}{aP:a8}
 (k: ∀ x y args H0 (E0:En) h az,(g x).val=some y->dq P (aN ti x) e1=some (args,[],H0)->Vs E0 H0.next args az->SR E0 (dF H0) h-> ∃ c g',(g' x).val=some y/\(gC P [] Q ti to g').Ok f (fun _ _ _ _ h=>.ok c h)/\ ∀ n d,aP n (d+1) f az h=.ok c h):(gC P [] Q ti to g).Ok f aP:=by
 intro pl q args H0 E0 h az e hP hv hS
 obtain⟨x,y,rfl,h1,rfl⟩:=y5 e
 obtain⟨c,g',hg,k1,k2⟩:=k x y args H0 E0 h az h1 hP hv hS
 obtain⟨c',h',E1,ws,H1,⟨M,hM⟩,r⟩:=k1 _ (aN to y) _ _ E0 h az (uO hg) hP hv hS
 have hM:=hM M M (Nat.le_refl _) (Nat.le_refl _)
 cases hM
 refine⟨_,_,E1,ws,H1,⟨1,fun n d _ hd=>?_⟩,r⟩
 obtain⟨d,rfl⟩: ∃ d',d=d'+1:=⟨d - 1,by omega⟩
 exact k2 n d
theorem AX{P Q:gO}{ti to:List Ty}{g:aI ti->Lf.T (aI to)}{f:FuncId}{c:AV}(e: ∀ x y,(g x).val=some y->(iN P [] Q (fun _=>none) (rC c) 3 (fun _ _ _=>.bad) (aN ti x)).val=some (aN to y)):(gC P [] Q ti to g).Ok f (fun _ _ _ _ h=>.ok c h):=
 oz (AW _) (KP c f) rfl (bD _) (m:=3) rfl fun x y h=>e x y h
abbrev PI(t:Ty):gO:=.cons (.im t) .nil
abbrev PO(t:Ty):gO:=.cons (.ow t) .nil
theorem xj{t:Ty}{f:FuncId}{c:AV}(e:(iN (PI t) [] (PO t) (fun _=>none) (rC c) 3 (fun _ _ _=>.bad) (aN [.aC t] ([],()))).val=some (aN [.aC t] ([],()))):(gC (PI t) [] (PO t) [.aC t] [.aC t] fun x=>.ck (decide (List.length x.1=0)) (.ok ([],()))).Ok f (fun _ _ _ _ h=>.ok c h):=by
 refine AX ?_
 rintro⟨x,⟨⟩⟩ q h
 obtain⟨h1,h⟩:=Lf.T.bY h
 cases h
 obtain rfl:x=[]:=List.eq_nil_of_length_eq_zero (of_decide_eq_true h1)
 exact e
theorem ew{t:Ty}{f:FuncId}{b:bR}{B sz:Nat}(hb:QH f=some b)(hx:Tryz.xs.get f=some b)(pd:Nat.ble b.ntmps 512=true)(hC:G3 f=true)(hh:uN f=false)(hB:B*sz<=70368744177664/\B<=70368744177664)
 (e: ∀ x:List (den t),(iN (PI t) [] (PO t) (fun _=>none) b 3 (fun _ _ _=>.bad) (aN [.aC t] (x,()))).val=bI (!(Nat.beq (List.length x) 0)) (bI (roomy sz (0+List.length x)) (some (aN [.aC t] (app [] x,())))))
 (HS:(iN (PI t) [] (PO t) (fun _=>none) (rC .cW) 3 (fun _ _ _=>.bad) (aN [.aC t] ([],()))).val=some (aN [.aC t] ([],())))
 (XS:(iN (PI t) [] (PO t) (fun _=>none) (rC .jm) 3 (fun _ _ _=>.bad) (aN [.aC t] ([],()))).val=some (aN [.aC t] ([],())))
 (e3':(iN (PI t) [] (PO t) (fun _=>none) (rC (.sc (.slice none 0 0))) 3 (fun _ _ _=>.bad) (aN [.aC t] ([],()))).val=some (aN [.aC t] ([],())))
 (s2: ∀ n d h,q7 b.fb n (dG n d) [.jm] h=.ok .jm h)(s3: ∀ n d h,q7 b.fb n (dG n d) [.sc (.slice none 0 0)] h=.ok (.sc (.slice none 0 0)) h)(s4: ∀ n d h id base,q7 b.fb n (dG n d) [.dj id base 0 (size t)] h=.ok .jm h):
 (gC (PI t) [] (PO t) [.aC t] [.aC t] fun x=>.ck (decide (List.length x.1<=B)) (.ok (x.1,()))).Ok f dG:=by
 have lkE:oZ f [.cW]=some .cW:=by unfold oZ KN;rw[hC];rfl
 have lkI:oZ f [.fc 0 []]=some .cW:=by unfold oZ KN;rw[hC];rfl
 have nx: ∀ az,fv [.cW] az=false->fv [.fc 0 []] az=false->oZ f az=none:=by
  intro az h1 h2
  unfold oZ KN
  rw[hC,h1,h2]
  rfl
 have hN:(gC (PI t) [] (PO t) [.aC t] [.aC t] fun x=>.ck (decide (List.length x.1<=B)&& !decide (List.length x.1=0)) (.ok (x.1,()))).Ok f dG:=by
  refine oz (AW _) (s5 f b hb) pd (bD _) (m:=3) rfl ?_
  rintro⟨x,⟨⟩⟩ q h
  obtain⟨h1,h⟩:=Lf.T.bY h
  cases h
  simp only[Bool.and_eq_true,Bool.not_eq_true',decide_eq_true_eq,decide_eq_false_iff_not]at h1
  have c1:Nat.beq (List.length x) 0=false:=by
   cases hb:Nat.beq (List.length x) 0 with
   |false=>rfl
   |true=>exact(h1.2 (Nat.eq_of_beq_eq_true hb)).elim
  refine(e x).trans ?_
  rw[c1,show roomy sz (0+List.length x)=true from lG.2 ⟨by rw[Nat.zero_add];exact Nat.le_trans (Nat.mul_le_mul_right sz h1.1) hB.1,by have:=h1.1;omega⟩,bO]
  rfl
 intro pl q args H0 E0 h az e0 hP hv hS
 obtain⟨⟨x,⟨⟩⟩,⟨y,⟨⟩⟩,rfl,h1,rfl⟩:=y5 e0
 obtain⟨h2,h3⟩:=Lf.T.bY h1
 have h3:y=x:=by
  injection h3 with h3
  exact(congrArg Prod.fst h3).symm
 subst h3
 by_cases hy:y=[]
 ·subst hy
  have P7:some (([.c 1 (.aC t) []]:List Sv),([]:List Pl),(⟨2,.nil⟩:Hq))=some (args,[],H0):=(oF wP).symm.trans hP
  cases P7
  obtain⟨a,rfl,ha⟩: ∃ a,az=[a]/\EV E0.G (.aC t) [] [a]:=by
   cases hv with
   |cons ha hr=>
    cases hr
    cases ha with
    |c k _=>exact⟨_,rfl,k⟩
  have fin: ∀ c0:AV,(gC (PI t) [] (PO t) [.aC t] [.aC t] fun x=>.ck (decide (List.length x.1=0)) (.ok ([],()))).Ok f (fun _ _ _ _ h=>.ok c0 h)->(∀ n d,dG n (d+1) f [a] h=.ok c0 h)-> ∃ c h' E1 ws H1,Ev (fun n d=>dG n d f [a] h) (.ok c h')/\Ox E0 E1 (dF ⟨2,.nil⟩) H1 h h'/\SR E1 H1 h'/\dq (PO t) (aN [.aC t] ([],())) Lf.e1=some (ws,[],H1)/\Vs E1 H1.next ws (c::([]:List Nat).map E0.A):=by
   intro c0 k hc
   obtain⟨c,h',E1,ws,H1,⟨M,hM⟩,r⟩:=k _ (aN [.aC t] ([],())) _ _ E0 h [a] (uO (P:=PI t) (ptr:=[]) (Q:=PO t) (ti:=[.aC t]) (to:=[.aC t]) (x:=(([]:List (den t)),())) (y:=(([]:List (den t)),())) rfl) hP hv hS
   have hM:=hM M M (Nat.le_refl _) (Nat.le_refl _)
   cases hM
   refine⟨c0,h,E1,ws,H1,⟨1,fun n d _ hd=>?_⟩,r⟩
   obtain⟨d,rfl⟩: ∃ d',d=d'+1:=⟨d - 1,by omega⟩
   exact hc n d
  obtain⟨a',q1,k⟩: ∃ a',[a]=[a']/\zW E0.G t (EV E0.G t) [] a':=ha
  injection q1 with q1
  subst q1
  rcases k with⟨k,_⟩|⟨ls,k1,k2⟩
  ·cases a with
   |cW=>exact fin .cW (xj HS) fun n d=>pX hh lkE n (d+1)
   |jm=>exact fin .jm (xj XS) fun n d=>(jE hx hh (nx _ rfl rfl)).trans (s2 n d h)
   |sc v=>
    obtain rfl:v=.slice none 0 0:=by
     have k:isNil (.sc v)=true:=k
     unfold isNil at k
     split at k
     ·rename_i n c e
      injection e with e
      subst e
      have k:(Nat.beq n 0&&Nat.beq c 0)=true:=by assumption
      rw[Bool.and_eq_true]at k
      obtain rfl:=Nat.eq_of_beq_eq_true k.1
      obtain rfl:=Nat.eq_of_beq_eq_true k.2
      rfl
     ·cases k
    exact fin _ (xj e3') fun n d=>(jE hx hh (nx _ rfl rfl)).trans (s3 n d h)
   | _=>cases k
  ·have hl:ls=[]:=k1
   subst hl
   rcases k2 with k2|⟨id,base,row,k2,_,_⟩
   ·subst k2
    exact fin .cW (xj HS) fun n d=>pX hh lkI n (d+1)
   ·subst k2
    exact fin .jm (xj XS) fun n d=>(jE hx hh (nx _ rfl rfl)).trans (s4 n d h id base)
 ·have hn:((gC (PI t) [] (PO t) [.aC t] [.aC t] fun x=>.ck (decide (List.length x.1<=B)&& !decide (List.length x.1=0)) (.ok (x.1,()))).f (aN [.aC t] (y,()))).val=some (aN [.aC t] (y,())):=by
   refine uO (P:=PI t) (ptr:=[]) (Q:=PO t) (ti:=[.aC t]) (to:=[.aC t]) (x:=(y,())) (y:=(y,())) ?_
   show(bif (decide (List.length y<=B)&& !decide (List.length y=0))then some (y,())else none)=_
   rw[show decide (List.length y<=B)=true from h2,decide_eq_false (fun q=>hy (List.eq_nil_of_length_eq_zero q))]
   rfl
  exact hN _ _ args H0 E0 h az hn hP hv hS
theorem KQ:(iq u64).Ok 67 dG:=ew (b:=Tryz.Yg) (B:=1099511627776) (sz:=8) (by kernel_rfl) (by kernel_rfl) rfl (by kernel_rfl) (by kernel_rfl) (by decide) (fun x=>by kernel_rfl) (by kernel_rfl) (by kernel_rfl) (by kernel_rfl) (fun n d h=>by kernel_rfl) (fun n d h=>by kernel_rfl) (fun n d h id base=>by kernel_rfl)
theorem KS:(iq cx).Ok 69 dG:=ew (b:=Tryz.Yh) (B:=1099511627776) (sz:=48) (by kernel_rfl) (by kernel_rfl) rfl (by kernel_rfl) (by kernel_rfl) (by decide) (fun x=>by kernel_rfl) (by kernel_rfl) (by kernel_rfl) (by kernel_rfl) (fun n d h=>by kernel_rfl) (fun n d h=>by kernel_rfl) (fun n d h id base=>by kernel_rfl)
theorem KU:(iq i64).Ok 70 dG:=ew (b:=Tryz.Yi) (B:=1099511627776) (sz:=8) (by kernel_rfl) (by kernel_rfl) rfl (by kernel_rfl) (by kernel_rfl) (by decide) (fun x=>by kernel_rfl) (by kernel_rfl) (by kernel_rfl) (by kernel_rfl) (fun n d h=>by kernel_rfl) (fun n d h=>by kernel_rfl) (fun n d h id base=>by kernel_rfl)
theorem KV:(J0).Ok 71 dG:=ew (b:=Tryz.Yj) (B:=549755813888) (sz:=88) (by kernel_rfl) (by kernel_rfl) rfl (by kernel_rfl) (by kernel_rfl) (by decide) (fun x=>by kernel_rfl) (by kernel_rfl) (by kernel_rfl) (by kernel_rfl) (fun n d h=>by kernel_rfl) (fun n d h=>by kernel_rfl) (fun n d h id base=>by kernel_rfl)
theorem KW:(iq cQ).Ok 72 dG:=ew (b:=Tryz.Yk) (B:=1099511627776) (sz:=24) (by kernel_rfl) (by kernel_rfl) rfl (by kernel_rfl) (by kernel_rfl) (by decide) (fun x=>by kernel_rfl) (by kernel_rfl) (by kernel_rfl) (by kernel_rfl) (fun n d h=>by kernel_rfl) (fun n d h=>by kernel_rfl) (fun n d h id base=>by kernel_rfl)
theorem Gl:(iq ph).Ok 116 dG:=ew (b:=Tryz.JO) (B:=1099511627776) (sz:=40) (by kernel_rfl) (by kernel_rfl) rfl (by kernel_rfl) (by kernel_rfl) (by decide) (fun x=>by kernel_rfl) (by kernel_rfl) (by kernel_rfl) (by kernel_rfl) (fun n d h=>by kernel_rfl) (fun n d h=>by kernel_rfl) (fun n d h id base=>by kernel_rfl)
theorem Gm:(iq ji).Ok 117 dG:=ew (b:=Tryz.JP) (B:=1099511627776) (sz:=16) (by kernel_rfl) (by kernel_rfl) rfl (by kernel_rfl) (by kernel_rfl) (by decide) (fun x=>by kernel_rfl) (by kernel_rfl) (by kernel_rfl) (by kernel_rfl) (fun n d h=>by kernel_rfl) (fun n d h=>by kernel_rfl) (fun n d h id base=>by kernel_rfl)
theorem Gn:(iq pj).Ok 118 dG:=ew (b:=Tryz.JQ) (B:=1099511627776) (sz:=40) (by kernel_rfl) (by kernel_rfl) rfl (by kernel_rfl) (by kernel_rfl) (by decide) (fun x=>by kernel_rfl) (by kernel_rfl) (by kernel_rfl) (by kernel_rfl) (fun n d h=>by kernel_rfl) (fun n d h=>by kernel_rfl) (fun n d h id base=>by kernel_rfl)
theorem Gp:(iq pn).Ok 120 dG:=ew (b:=Tryz.JR) (B:=1099511627776) (sz:=32) (by kernel_rfl) (by kernel_rfl) rfl (by kernel_rfl) (by kernel_rfl) (by decide) (fun x=>by kernel_rfl) (by kernel_rfl) (by kernel_rfl) (by kernel_rfl) (fun n d h=>by kernel_rfl) (fun n d h=>by kernel_rfl) (fun n d h id base=>by kernel_rfl)
theorem Gq:(iq po).Ok 121 dG:=ew (b:=Tryz.JS) (B:=1099511627776) (sz:=48) (by kernel_rfl) (by kernel_rfl) rfl (by kernel_rfl) (by kernel_rfl) (by decide) (fun x=>by kernel_rfl) (by kernel_rfl) (by kernel_rfl) (by kernel_rfl) (fun n d h=>by kernel_rfl) (fun n d h=>by kernel_rfl) (fun n d h id base=>by kernel_rfl)
theorem Gr:(iq pq).Ok 122 dG:=ew (b:=Tryz.JT) (B:=1099511627776) (sz:=48) (by kernel_rfl) (by kernel_rfl) rfl (by kernel_rfl) (by kernel_rfl) (by decide) (fun x=>by kernel_rfl) (by kernel_rfl) (by kernel_rfl) (by kernel_rfl) (fun n d h=>by kernel_rfl) (fun n d h=>by kernel_rfl) (fun n d h id base=>by kernel_rfl)
theorem Gs:(iq pw).Ok 123 dG:=ew (b:=Tryz.JU) (B:=1099511627776) (sz:=48) (by kernel_rfl) (by kernel_rfl) rfl (by kernel_rfl) (by kernel_rfl) (by decide) (fun x=>by kernel_rfl) (by kernel_rfl) (by kernel_rfl) (by kernel_rfl) (fun n d h=>by kernel_rfl) (fun n d h=>by kernel_rfl) (fun n d h id base=>by kernel_rfl)
theorem Gt:(iq u8).Ok 124 dG:=ew (b:=Tryz.JV) (B:=1099511627776) (sz:=1) (by kernel_rfl) (by kernel_rfl) rfl (by kernel_rfl) (by kernel_rfl) (by decide) (fun x=>by kernel_rfl) (by kernel_rfl) (by kernel_rfl) (by kernel_rfl) (fun n d h=>by kernel_rfl) (fun n d h=>by kernel_rfl) (fun n d h id base=>by kernel_rfl)
theorem Gu:(iq tI).Ok 221 dG:=ew (b:=Tryz.JW) (B:=1099511627776) (sz:=64) (by kernel_rfl) (by kernel_rfl) rfl (by kernel_rfl) (by kernel_rfl) (by decide) (fun x=>by kernel_rfl) (by kernel_rfl) (by kernel_rfl) (by kernel_rfl) (fun n d h=>by kernel_rfl) (fun n d h=>by kernel_rfl) (fun n d h id base=>by kernel_rfl)
end Go.Proofs.Vq

noncomputable section
namespace Go.Proofs.Vq
open Go.Ab Go.Ab.Lf Go.RowKit
set_option maxRecDepth 100000
theorem uP{k:IntKind}{F:Int->Int}{b:Int}{f:FuncId}(hf: ∀ x:Int,dq (Ps [.n k]) (aN [.int k] (x,())) Lf.e1=some ([.c 0 (.int k) x],[],Lf.e1))(hr: ∀ z x:Int,(iN (Ps [.n k]) [] (Ps [.n .i64]) (fun _=>none) (rC (.int .i64 z)) 3 (fun _ _ _=>.bad) (aN [.int k] (x,()))).val=some (aN [i64] (z,())))(hh:uN f=false)(hl: ∀ x:Int,0<=x->x<=b->oZ f [.int k x]=some (.int .i64 (F x))):(QI k F b).Ok f dG:=by
 unfold QI
 refine Gk ?_
 rintro⟨x,⟨⟩⟩ y args H0 E0 h az h1 hP hv hS
 obtain⟨h2,h3⟩:=Lf.T.bY h1
 simp only[Bool.and_eq_true,decide_eq_true_eq]at h2
 have P7:some (([.c 0 (.int k) x]:List Sv),([]:List Pl),Lf.e1)=some (args,[],H0):=(hf x).symm.trans hP
 cases P7
 have ha:az=[.int k x]:=by
  cases hv with
  |cons ha hr=>
   cases hr
   cases ha with
   |c kx _=>exact kx
 subst ha
 refine⟨.int .i64 (F x),fun _=>.ok (F x,()),h3,AX ?_,fun n d=>pX hh (hl x h2.1 h2.2) n (d+1)⟩
 rintro⟨x',⟨⟩⟩ y' h'
 cases h'
 exact hr (F x) x'
theorem uQ{k:IntKind}{b:Int}{F:Int->Int}{x:Int}(h0:0<=x)(h1:x<=b):P1 k b F [.int k x]=some (.int .i64 (F x)):=by
 show(bif decide (k=k)&&(decide (0<=x)&&decide (x<=b))then some (AV.int .i64 (F x))else none)=_
 rw[decide_eq_true rfl,decide_eq_true h0,decide_eq_true h1]
 rfl
theorem KX:s49.Ok 49 dG:=uP (fun x=>by kernel_rfl) (fun z x=>by kernel_rfl) rfl fun x h0 h1=>uQ h0 h1
theorem KY:s50.Ok 50 dG:=uP (fun x=>by kernel_rfl) (fun z x=>by kernel_rfl) rfl fun x h0 h1=>uQ h0 h1
theorem KZ:s52.Ok 52 dG:=uP (fun x=>by kernel_rfl) (fun z x=>by kernel_rfl) rfl fun x h0 h1=>uQ h0 h1
theorem K3:s53.Ok 53 dG:=uP (fun x=>by kernel_rfl) (fun z x=>by kernel_rfl) rfl fun x h0 h1=>uQ h0 h1
theorem K4:Yv.Ok 10 dG:=by
 unfold Yv
 refine Gk ?_
 rintro⟨⟩ y args H0 E0 h az h1 hP hv hS
 have P7:some (([]:List Sv),([]:List Pl),Lf.e1)=some (args,[],H0):=hP
 cases P7
 cases hv
 refine⟨.bool true,fun _=>.ok (true,()),h1,AX ?_,fun n d=>pX rfl rfl n (d+1)⟩
 rintro⟨⟩ y' h'
 cases h'
 kernel_rfl
theorem Xl(x:aI tM):(iN (Ps [PK .im]) [] (Ps [.n .i64]) (fun _=>none) (rC (.int .i64 0)) 3 (fun _ _ _=>.bad) (aN tM x)).val=some (aN [i64] (0,())):=by kernel_rfl
theorem K5:(F' CB).Ok 56 dG:=by
 unfold F'
 refine Gk ?_
 intro X y args H0 E0 h az h1 hP hv hS
 obtain⟨h2,h3⟩:=Lf.T.bY h1
 obtain rfl:=yV h2
 refine⟨.int .i64 0,fun _=>.ok (0,()),h3,AX ?_,?_⟩
 ·intro x' y' h'
  cases h'
  exact Xl x'
 have P7:some (([.ag [.c 1 (.aC cx) bW.1,.c 2 (.aC ph) bW.2.1,.c 3 (.aC i64) bW.2.2.1,.c 4 (.aC ji) bW.2.2.2.1,.c 5 (.aC ji) bW.2.2.2.2.1,.c 6 (.aC pj) bW.2.2.2.2.2.1,.c 7 (.aC pn) bW.2.2.2.2.2.2.1,.c 0 i64 bW.2.2.2.2.2.2.2.1,.c 8 (.aC po) bW.2.2.2.2.2.2.2.2.1,.c 9 (.aC pq) bW.2.2.2.2.2.2.2.2.2.1,.c 10 (.aC pw) bW.2.2.2.2.2.2.2.2.2.2.1]]:List Sv),([]:List Pl),(⟨11,.nil⟩:Hq))=some (args,[],H0):=by
  rw[<-hP]
  kernel_rfl
 cases P7
 have hG: ∀ id row,E0.G id=some row->h.aQ.get id=some row:=fun id row g=>(hS.g id row g).2.1
 have CD: ∀ {a:Sv} {l:List Sv} {m:List AV},Vs E0 11 (a::l) m-> ∃ c r,m=c::r/\V E0 11 a c/\Vs E0 11 l r:=by
  intro a l m hm
  cases hm with
  |cons p q=>exact⟨_,_,rfl,p,q⟩
 have Xm: ∀ {m:List AV},Vs E0 11 [] m->m=[]:=by
  intro m hm
  cases hm
  rfl
 have ev: ∀ {m:Nat} {t:Ty} {x:den t} {a:AV},V E0 11 (.c m t x) a->EV E0.G t x [a]:=by
  intro m t x a ha
  cases ha with
  |c kx _=>exact kx
 obtain⟨c0,r0,rfl,LM,hr0⟩:=CD hv
 obtain rfl:=Xm hr0
 obtain⟨m,rfl,hm⟩: ∃ m,c0=.agg m/\Vs E0 11 [.c 1 (.aC cx) bW.1,.c 2 (.aC ph) bW.2.1,.c 3 (.aC i64) bW.2.2.1,.c 4 (.aC ji) bW.2.2.2.1,.c 5 (.aC ji) bW.2.2.2.2.1,.c 6 (.aC pj) bW.2.2.2.2.2.1,.c 7 (.aC pn) bW.2.2.2.2.2.2.1,.c 0 i64 bW.2.2.2.2.2.2.2.1,.c 8 (.aC po) bW.2.2.2.2.2.2.2.2.1,.c 9 (.aC pq) bW.2.2.2.2.2.2.2.2.2.1,.c 10 (.aC pw) bW.2.2.2.2.2.2.2.2.2.2.1] m:=by
  cases LM with
  |ag q=>exact⟨_,rfl,q⟩
 obtain⟨b1,m1,rfl,v1,h1z⟩:=CD hm
 obtain⟨b2,m2,rfl,v2,h2z⟩:=CD h1z
 obtain⟨b3,m3,rfl,v3,h3z⟩:=CD h2z
 obtain⟨b4,m4,rfl,v4,h4⟩:=CD h3z
 obtain⟨b5,m5,rfl,v5,h5⟩:=CD h4
 obtain⟨b6,m6,rfl,v6,h6⟩:=CD h5
 obtain⟨b7,m7,rfl,v7,h7⟩:=CD h6
 obtain⟨b8,m8,rfl,v8,h8⟩:=CD h7
 obtain⟨b9,m9,rfl,v9,h9⟩:=CD h8
 obtain⟨b10,m10,rfl,v10,P3⟩:=CD h9
 obtain⟨b11,m11,rfl,v11,h11⟩:=CD P3
 obtain rfl:=Xm h11
 have hE:EV E0.G KM xi [b1,b2,b3,b4,b5,b6,b7,b8,b9,b10,b11]:=⟨[b1],_,rfl,ev v1,⟨[b2],_,rfl,ev v2,⟨[b3],_,rfl,ev v3,⟨[b4],_,rfl,ev v4,⟨[b5],_,rfl,ev v5,⟨[b6],_,rfl,ev v6,⟨[b7],_,rfl,ev v7,⟨[b8],_,rfl,ev v8,⟨[b9],_,rfl,ev v9,⟨[b10],_,rfl,ev v10,ev v11⟩⟩⟩⟩⟩⟩⟩⟩⟩⟩
 obtain⟨cs',k1,k2⟩:=uL hG KM 7 xi _ (by decide) hE
 refine fun n d=>Gj rfl (az':=[.agg cs']) ?_ ?_ n (d+1)
 ·show(match(match mapA (mb 7 h) _ with|some l=>some (AV.agg l)|none=>none)with|some b=>some [b]|none=>none)=_
  rw[k1]
 ·show(bif @decide (56=56/\EV N0 KM xi cs') (Classical.propDecidable _)then some (AV.int .i64 0)else none)=_
  rw[@decide_eq_true _ (Classical.propDecidable _) ⟨rfl,k2⟩]
  rfl
theorem Gv:WL dG where
 st:=s5
 Pj:=KQ
 c69:=KS
 Wg:=KU
 c71:=KV
 Yo:=KW
 Wh:=Gl
 Wi:=Gm
 Wj:=Gn
 Wk:=Gp
 Wl:=Gq
 Wm:=Gr
 Wn:=Gs
 Wo:=Gt
 Wp:=Gu
 b49:=KX
 b50:=KY
 b52:=KZ
 b53:=K3
 aw:=K4
 chk:=K5
end Go.Proofs.Vq

noncomputable section
namespace Go.Proofs.Vq
open Go.Ab Go.Ab.Lf
set_option maxRecDepth 100000
abbrev cU:List Ty:=[u64,.aC i64,.aC u64,.aC cQ,u64,i64,.bool,i64]
abbrev ic:List Ty:=[u64,.aC cQ,u64,i64,.bool]
def K6:rG:=⟨0,rW Tryz.x3.code 0,[0,1,2,7,8,9,10,11],(Ps [.n .u64,.im i64,.im u64,.ow cQ,.n .u64,.n .i64,.bo,.n .i64]),[⟨.yH,[0,7,8,9,10],Ps [.n .u64,.ow cQ,.n .u64,.n .i64,.bo]⟩]⟩
def Xn:List (Nat×dg):=[(11,QJ),(12,s12),(13,s13)]
theorem K7{aP:a8}(W:WQ aP):dy aP Xn:=(.cons (rk W) (.cons (FV W) (.cons (F4 W) .nil)))
def xk:List Pl->Lf.T Rs:=K6.step (fun _=>none) (jj Xn 3) 3
def Xo:gm:=Ch K6 xk cU ic
theorem K8{aP:a8}(W:WQ aP):jg Rx.w Xo (fun n d=>iL (aP n d) n (.bl 0 (.lp K6.body))):=ny (W.in (K7 W) 3) (bD _) (m:=3) cU ic
def L3:Nat->Option gm:=G2 [(0,Xo)]
abbrev L5:List Ty:=[u64,.aC i64,.aC u64]
abbrev xB:List Ty:=[.bool]
def e3(g:Cg):List (Nat×dg):=[(10,Yv),(14,s14 g),(16,s16)]
theorem Xp{g:Cg}{aP:a8}(W:WL aP)(hg:(sG g).Ok 73 aP):dy aP (e3 g):=(.cons W.aw (.cons (PY W hg) (.cons (PV W.toWQ) .nil)))
def t3(g:Cg)(x:aI L5):Lf.T (List Pl):=iN (Ps [.n .u64,.im i64,.im u64]) [] (Ps [.bo]) L3 Tryz.x3 3 (jj (e3 g) 3) (aN L5 x)
def k3(g:Cg)(x:aI L5):Bool:=bT (dN xB (t3 g x))
def m3(g:Cg)(x:aI L5):aI xB:=bT (cT xB (t3 g x))
def s3(g:Cg):dg:=gC (Ps [.n .u64,.im i64,.im u64]) [] (Ps [.bo]) L5 xB fun x=>.ck (k3 g x) (.ok (m3 g x))
theorem Xr{g:Cg}{aP:a8}(W:WL aP)(hg:(sG g).Ok 73 aP):(s3 g).Ok 3 aP:=
 cb (W.toWQ.in (Xp W hg) 3) (W.toWQ.st 3 _ rfl) rfl (oA.nL (.cons (b:=K6.body) (by kernel_rfl) (K8 W.toWQ) .nil)) (m:=3) rfl (fun _=>aq _) (fun _=>aq _)
end Go.Proofs.Vq

noncomputable section
namespace Go.Proofs.Vq
open Go.Ab Go.Ab.Lf
set_option maxRecDepth 100000
abbrev tF3:List Ty:=[i64,.aC u64,.aC u64]
abbrev cL(x:Rn)(f f2:den fw)(pc:Int)(st lo:List Int):aI eZ:=oI (uI (uI tF3)) x (cFn (uI tF3) f (cFn tF3 f2 (pc,st,lo,())))
abbrev rz:List Ty:=[i64,i64,u64]
theorem L6(g:Cg)(x:Rn)(f f2:den fw)(pc:Int)(st lo:List Int)(cs:List (den cQ))(fO:cs=f.2.2.2.2.2.1)(c:den cQ)(hc:c=cs.getD pc.toNat (aS cQ))(a:aI sX)(ha:a=aW rz ⟨x,f2,pc,st,lo⟩ (c.1,c.2.1,c.2.2,()))(F:FR)(hF:F=bz (yS g a)):
 (oJ g (aN eZ (cL x f f2 pc st lo))).val=bif (bif decide (x.err=0)then decide (0<=pc)else false)then
  (bif decide ((cs.length:Int)<=pc)then(bif decide (x.err=0)then some (.out 0 (aN ff (aW [] ⟨{x with err:=40},f2,pc,st,lo⟩ ())))else some (.out 0 (aN ff (aW [] ⟨x,f2,pc,st,lo⟩ ()))))
   else bI (cu pc (cs.length:Int)) (bI (yR g a) (some (.next (aN eZ (cL F.r f F.f F.pc F.st F.lo))))))
  else some (.out 0 (aN ff (aW [] ⟨x,f2,pc,st,lo⟩ ()))):=by
 subst hF;subst ha;subst hc;subst fO
 kernel_rfl
theorem abk(g:Cg)(x:Rn)(f:Int)(az:List Int)(fn:den fw)(Xs:fn=x.m.fns.getD f.toNat (aS fw))(a:aI eZ)(ha:a=cL {x with depth:=bf .i64 x.depth 1} fn fn 0 [] (app az (List.replicate (fn.2.2.2.2.1:Int).toNat (0:Int))))(F:FR)(hF:F=bz (hJ (oJ g) eZ ff a)):
 (t73 g (oI [i64,.aC u64] x (f,az,()))).val=bI (cu f (x.m.fns.length:Int)) (bif decide (0<=(fn.1:Int))then none else
  bif decide (x.depth=64)then(bif decide (x.err=0)then some (aN yU ([],oI [] {x with err:=26} ()))else some (aN yU ([],oI [] x ())))
  else bI (decide (az.length<=1099511627776)) (bI (decide ((fn.2.2.2.2.1:Int)=fn.2.2.2.2.1)) (bI (decide (0<=(fn.2.2.2.2.1:Int))) (bI (roomy 8 (az.length+(List.replicate (fn.2.2.2.2.1:Int).toNat (0:Int)).length))
   (bI (Cf (oJ g) eZ ff a) (bI (decide (F.st.length<=1099511627776)) (some (aN yU (F.st,oI [] {F.r with depth:=bm .i64 F.r.depth 1} ()))))))))):=by
 subst hF;subst ha;subst Xs
 kernel_rfl
end Go.Proofs.Vq

noncomputable section
namespace Go.Proofs.Vq
open Go.Ab Go.Ab.Lf
set_option maxRecDepth 100000
theorem Xt(x:FR)(a b:Int):(t232 (aW [i64,i64] x (a,b,()))).val=
 bif bif decide ((x.4.length:Int)<a)then true else decide (1048576<bf .i64 (bm .i64 ((x.4.length:Int)) a) b)then
  bif decide (x.1.5=0)then
   some (aN rr (false,aW [] ({x with r:={x.r with err:=40}}) ()))
  else
  some (aN rr (false,aW [] x ()))
 else
 some (aN rr (true,aW [] x ())):=by kernel_rfl
theorem Xu(x:FR)(o a n:Int):(t307 (aW [i64,i64,u64] x (o,a,n,()))).val=
 bif decide (o=32)then
  bI (lP (aW [i64,i64] x (0,1,()))) (
  bif (aL (aW [i64,i64] x (0,1,()))).1 then
   bI (cu a (Int.ofNat (List.length (bz (aL (aW [i64,i64] x (0,1,()))).2).lo))) (
   bI (roomy 8 (List.length (bz (aL (aW [i64,i64] x (0,1,()))).2).st+[List.getD (bz (aL (aW [i64,i64] x (0,1,()))).2).lo a.toNat (aS (Ty.int .u64))].length)) (
   some (aN eY (aW [] ({(bz (aL (aW [i64,i64] x (0,1,()))).2)with st:=(app (bz (aL (aW [i64,i64] x (0,1,()))).2).st [List.getD (bz (aL (aW [i64,i64] x (0,1,()))).2).lo a.toNat (aS (Ty.int .u64))])}) ()))))
  else
  some (aN eY (aW [] (bz (aL (aW [i64,i64] x (0,1,()))).2) ())))
 else
 bif decide (o=33)then
  bI (lP (aW [i64,i64] x (1,0,()))) (
  bif (aL (aW [i64,i64] x (1,0,()))).1 then
   bI (cu (bm .i64 (Int.ofNat (List.length (bz (aL (aW [i64,i64] x (1,0,()))).2).st)) (1)) (Int.ofNat (List.length (bz (aL (aW [i64,i64] x (1,0,()))).2).st))) (
   bI (dZ (0) (bm .i64 (Int.ofNat (List.length (bz (aL (aW [i64,i64] x (1,0,()))).2).st)) (1)) (Int.ofNat (List.length (bz (aL (aW [i64,i64] x (1,0,()))).2).st))) (
   bI (decide (a=a)) (
   bI (cu a (Int.ofNat (List.length (bz (aL (aW [i64,i64] x (1,0,()))).2).lo))) (
   some (aN eY (aW [] ({(bz (aL (aW [i64,i64] x (1,0,()))).2)with st:=(List.take ((bm .i64 (Int.ofNat (List.length (bz (aL (aW [i64,i64] x (1,0,()))).2).st)) (1)).toNat - (0:Int).toNat) (List.drop (0:Int).toNat (bz (aL (aW [i64,i64] x (1,0,()))).2).st)),lo:=(List.set (bz (aL (aW [i64,i64] x (1,0,()))).2).lo a.toNat (List.getD (bz (aL (aW [i64,i64] x (1,0,()))).2).st (bm .i64 (Int.ofNat (List.length (bz (aL (aW [i64,i64] x (1,0,()))).2).st)) (1)).toNat (aS (Ty.int .u64))))}) ()))))))
  else
  some (aN eY (aW [] (bz (aL (aW [i64,i64] x (1,0,()))).2) ())))
 else
 bif decide (o=34)then
  bI (lP (aW [i64,i64] x (1,1,()))) (
  bif (aL (aW [i64,i64] x (1,1,()))).1 then
   bI (cu (bm .i64 (Int.ofNat (List.length (bz (aL (aW [i64,i64] x (1,1,()))).2).st)) (1)) (Int.ofNat (List.length (bz (aL (aW [i64,i64] x (1,1,()))).2).st))) (
   bI (cu a (Int.ofNat (List.length (bz (aL (aW [i64,i64] x (1,1,()))).2).lo))) (
   some (aN eY (aW [] ({(bz (aL (aW [i64,i64] x (1,1,()))).2)with lo:=(List.set (bz (aL (aW [i64,i64] x (1,1,()))).2).lo a.toNat (List.getD (bz (aL (aW [i64,i64] x (1,1,()))).2).st (bm .i64 (Int.ofNat (List.length (bz (aL (aW [i64,i64] x (1,1,()))).2).st)) (1)).toNat (aS (Ty.int .u64))))}) ()))))
  else
  some (aN eY (aW [] (bz (aL (aW [i64,i64] x (1,1,()))).2) ())))
 else
 bif decide (o=35)then
  bif bif decide (a<0)then true else decide ((x.1.m.3.1.length:Int)<=a)then
   bif decide (x.1.5=0)then
    some (aN eY (aW [] ({x with r:={x.r with err:=40}}) ()))
   else
   some (aN eY (aW [] x ()))
  else
  bI (cu a ((x.1.m.3.1.length:Int))) (
  bI (lP (aW [i64,i64] x (0,1,()))) (
  bif (aL (aW [i64,i64] x (0,1,()))).1 then
   bI (roomy 8 (List.length (bz (aL (aW [i64,i64] x (0,1,()))).2).st+[x.1.m.3.1.getD a.toNat (aS (Ty.int .u64))].length)) (
   some (aN eY (aW [] ({(bz (aL (aW [i64,i64] x (0,1,()))).2)with st:=(app (bz (aL (aW [i64,i64] x (0,1,()))).2).st [x.1.m.3.1.getD a.toNat (aS (Ty.int .u64))])}) ())))
  else
  some (aN eY (aW [] (bz (aL (aW [i64,i64] x (0,1,()))).2) ()))))
 else
 bif decide (o=36)then
  bif bif decide (a<0)then true else decide ((x.1.m.3.1.length:Int)<=a)then
   bif decide (x.1.5=0)then
    some (aN eY (aW [] ({x with r:={x.r with err:=40}}) ()))
   else
   some (aN eY (aW [] x ()))
  else
  bI (cu a ((x.1.m.3.1.length:Int))) (
  bI (lP (aW [i64,i64] x (1,0,()))) (
  bif (aL (aW [i64,i64] x (1,0,()))).1 then
   bI (cu (bm .i64 (Int.ofNat (List.length (bz (aL (aW [i64,i64] x (1,0,()))).2).st)) (1)) (Int.ofNat (List.length (bz (aL (aW [i64,i64] x (1,0,()))).2).st))) (
   bI (dZ (0) (bm .i64 (Int.ofNat (List.length (bz (aL (aW [i64,i64] x (1,0,()))).2).st)) (1)) (Int.ofNat (List.length (bz (aL (aW [i64,i64] x (1,0,()))).2).st))) (
   bI (decide (a=a)) (
   bif bif decide (a<0)then true else decide (Int.ofNat (List.length (bz (aL (aW [i64,i64] x (1,0,()))).2).r.m.s.wT)<=a)then
    some (aN eY (aW [] ({(bz (aL (aW [i64,i64] x (1,0,()))).2)with st:=(List.take ((bm .i64 (Int.ofNat (List.length (bz (aL (aW [i64,i64] x (1,0,()))).2).st)) (1)).toNat - (0:Int).toNat) (List.drop (0:Int).toNat (bz (aL (aW [i64,i64] x (1,0,()))).2).st))}) ()))
   else
   bI (cu a (Int.ofNat (List.length (bz (aL (aW [i64,i64] x (1,0,()))).2).r.m.s.small))) (
   bif decide (List.getD (bz (aL (aW [i64,i64] x (1,0,()))).2).r.m.s.small a.toNat (aS (Ty.int .i64))=1)then
    bI (cu a (Int.ofNat (List.length (bz (aL (aW [i64,i64] x (1,0,()))).2).r.m.s.wT))) (
    some (aN eY (aW [] ({(bz (aL (aW [i64,i64] x (1,0,()))).2)with r:={(bz (aL (aW [i64,i64] x (1,0,()))).2).r with m:={(bz (aL (aW [i64,i64] x (1,0,()))).2).r.m with s:={(bz (aL (aW [i64,i64] x (1,0,()))).2).r.m.s with wT:=(List.set (bz (aL (aW [i64,i64] x (1,0,()))).2).r.m.s.wT a.toNat (cA .u64 (List.getD (bz (aL (aW [i64,i64] x (1,0,()))).2).st (bm .i64 (Int.ofNat (List.length (bz (aL (aW [i64,i64] x (1,0,()))).2).st)) (1)).toNat (aS (Ty.int .u64))) (4294967295)))}}},st:=(List.take ((bm .i64 (Int.ofNat (List.length (bz (aL (aW [i64,i64] x (1,0,()))).2).st)) (1)).toNat - (0:Int).toNat) (List.drop (0:Int).toNat (bz (aL (aW [i64,i64] x (1,0,()))).2).st))}) ())))
   else
   bI (cu a (Int.ofNat (List.length (bz (aL (aW [i64,i64] x (1,0,()))).2).r.m.s.wT))) (
   some (aN eY (aW [] ({(bz (aL (aW [i64,i64] x (1,0,()))).2)with r:={(bz (aL (aW [i64,i64] x (1,0,()))).2).r with m:={(bz (aL (aW [i64,i64] x (1,0,()))).2).r.m with s:={(bz (aL (aW [i64,i64] x (1,0,()))).2).r.m.s with wT:=(List.set (bz (aL (aW [i64,i64] x (1,0,()))).2).r.m.s.wT a.toNat (List.getD (bz (aL (aW [i64,i64] x (1,0,()))).2).st (bm .i64 (Int.ofNat (List.length (bz (aL (aW [i64,i64] x (1,0,()))).2).st)) (1)).toNat (aS (Ty.int .u64))))}}},st:=(List.take ((bm .i64 (Int.ofNat (List.length (bz (aL (aW [i64,i64] x (1,0,()))).2).st)) (1)).toNat - (0:Int).toNat) (List.drop (0:Int).toNat (bz (aL (aW [i64,i64] x (1,0,()))).2).st))}) ())))))))
  else
  some (aN eY (aW [] (bz (aL (aW [i64,i64] x (1,0,()))).2) ()))))
 else
 some (aN eY (aW [] x ())):=by kernel_rfl
theorem AY(x:FR)(o a n:Int):(t236 (aW [i64,i64,u64] x (o,a,n,()))).val=
 bif decide (o=257)then
  bif decide (x.1.2=0)then
   bif decide (x.1.5=0)then
    some (aN di (aW [] ({x with r:={x.r with err:=27}}) ()))
   else
   some (aN di (aW [] x ()))
  else
  some (aN di (aW [] ({x with r:={x.r with fuel:=(bm .i64 x.1.2 (1))}}) ()))
 else
 bif decide (o=256)then
  bI (lP (aW [i64,i64] x (bf .i64 a (an .i64 n),a,()))) (
  bif (aL (aW [i64,i64] x (bf .i64 a (an .i64 n),a,()))).1 then
   none
  else
  some (aN di (aW [] (bz (aL (aW [i64,i64] x (bf .i64 a (an .i64 n),a,()))).2) ())))
 else
 bif decide (o=26)then
  bI (lP (aW [i64,i64] x (1,0,()))) (
  bif (aL (aW [i64,i64] x (1,0,()))).1 then
   bI (cu (bm .i64 (Int.ofNat (List.length (bz (aL (aW [i64,i64] x (1,0,()))).2).st)) (1)) (Int.ofNat (List.length (bz (aL (aW [i64,i64] x (1,0,()))).2).st))) (
   bI (dZ (0) (bm .i64 (Int.ofNat (List.length (bz (aL (aW [i64,i64] x (1,0,()))).2).st)) (1)) (Int.ofNat (List.length (bz (aL (aW [i64,i64] x (1,0,()))).2).st))) (
   some (aN di (aW [] ({(bz (aL (aW [i64,i64] x (1,0,()))).2)with st:=(List.take ((bm .i64 (Int.ofNat (List.length (bz (aL (aW [i64,i64] x (1,0,()))).2).st)) (1)).toNat - (0:Int).toNat) (List.drop (0:Int).toNat (bz (aL (aW [i64,i64] x (1,0,()))).2).st))}) ()))))
  else
  some (aN di (aW [] (bz (aL (aW [i64,i64] x (1,0,()))).2) ())))
 else
 bif decide (o=27)then
  bI (lP (aW [i64,i64] x (3,1,()))) (
  bif (aL (aW [i64,i64] x (3,1,()))).1 then
   bI (cu (bm .i64 (Int.ofNat (List.length (bz (aL (aW [i64,i64] x (3,1,()))).2).st)) (1)) (Int.ofNat (List.length (bz (aL (aW [i64,i64] x (3,1,()))).2).st))) (
   bI (dZ (0) (bm .i64 (Int.ofNat (List.length (bz (aL (aW [i64,i64] x (3,1,()))).2).st)) (1)) (Int.ofNat (List.length (bz (aL (aW [i64,i64] x (3,1,()))).2).st))) (
   bI (cu (bm .i64 (Int.ofNat ((bm .i64 (Int.ofNat (List.length (bz (aL (aW [i64,i64] x (3,1,()))).2).st)) (1)).toNat - (0:Int).toNat)) (1)) (Int.ofNat ((bm .i64 (Int.ofNat (List.length (bz (aL (aW [i64,i64] x (3,1,()))).2).st)) (1)).toNat - (0:Int).toNat))) (
   bI (dZ (0) (bm .i64 (Int.ofNat ((bm .i64 (Int.ofNat (List.length (bz (aL (aW [i64,i64] x (3,1,()))).2).st)) (1)).toNat - (0:Int).toNat)) (1)) (Int.ofNat ((bm .i64 (Int.ofNat (List.length (bz (aL (aW [i64,i64] x (3,1,()))).2).st)) (1)).toNat - (0:Int).toNat))) (
   bI (cu (bm .i64 (Int.ofNat ((bm .i64 (Int.ofNat ((bm .i64 (Int.ofNat (List.length (bz (aL (aW [i64,i64] x (3,1,()))).2).st)) (1)).toNat - (0:Int).toNat)) (1)).toNat - (0:Int).toNat)) (1)) (Int.ofNat ((bm .i64 (Int.ofNat ((bm .i64 (Int.ofNat (List.length (bz (aL (aW [i64,i64] x (3,1,()))).2).st)) (1)).toNat - (0:Int).toNat)) (1)).toNat - (0:Int).toNat))) (
   bI (dZ (0) (bm .i64 (Int.ofNat ((bm .i64 (Int.ofNat ((bm .i64 (Int.ofNat (List.length (bz (aL (aW [i64,i64] x (3,1,()))).2).st)) (1)).toNat - (0:Int).toNat)) (1)).toNat - (0:Int).toNat)) (1)) (Int.ofNat ((bm .i64 (Int.ofNat ((bm .i64 (Int.ofNat (List.length (bz (aL (aW [i64,i64] x (3,1,()))).2).st)) (1)).toNat - (0:Int).toNat)) (1)).toNat - (0:Int).toNat))) (
   bif decide (an .u32 (List.getD (bz (aL (aW [i64,i64] x (3,1,()))).2).st (bm .i64 (Int.ofNat (List.length (bz (aL (aW [i64,i64] x (3,1,()))).2).st)) (1)).toNat (aS (Ty.int .u64)))=0)then
    bI (roomy 8 ((List.take ((bm .i64 (Int.ofNat ((bm .i64 (Int.ofNat ((bm .i64 (Int.ofNat (List.length (bz (aL (aW [i64,i64] x (3,1,()))).2).st)) (1)).toNat - (0:Int).toNat)) (1)).toNat - (0:Int).toNat)) (1)).toNat - (0:Int).toNat) (List.drop ((0:Int).toNat+(0:Int).toNat+(0:Int).toNat) (bz (aL (aW [i64,i64] x (3,1,()))).2).st)).length+[List.getD (bz (aL (aW [i64,i64] x (3,1,()))).2).st ((0:Int).toNat+(bm .i64 (Int.ofNat ((bm .i64 (Int.ofNat (List.length (bz (aL (aW [i64,i64] x (3,1,()))).2).st)) (1)).toNat - (0:Int).toNat)) (1)).toNat) (aS (Ty.int .u64))].length)) (
    some (aN di (aW [] ({(bz (aL (aW [i64,i64] x (3,1,()))).2)with st:=(app (List.take ((bm .i64 (Int.ofNat ((bm .i64 (Int.ofNat ((bm .i64 (Int.ofNat (List.length (bz (aL (aW [i64,i64] x (3,1,()))).2).st)) (1)).toNat - (0:Int).toNat)) (1)).toNat - (0:Int).toNat)) (1)).toNat - (0:Int).toNat) (List.drop ((0:Int).toNat+(0:Int).toNat+(0:Int).toNat) (bz (aL (aW [i64,i64] x (3,1,()))).2).st)) [List.getD (bz (aL (aW [i64,i64] x (3,1,()))).2).st ((0:Int).toNat+(bm .i64 (Int.ofNat ((bm .i64 (Int.ofNat (List.length (bz (aL (aW [i64,i64] x (3,1,()))).2).st)) (1)).toNat - (0:Int).toNat)) (1)).toNat) (aS (Ty.int .u64))])}) ())))
   else
   bI (roomy 8 ((List.take ((bm .i64 (Int.ofNat ((bm .i64 (Int.ofNat ((bm .i64 (Int.ofNat (List.length (bz (aL (aW [i64,i64] x (3,1,()))).2).st)) (1)).toNat - (0:Int).toNat)) (1)).toNat - (0:Int).toNat)) (1)).toNat - (0:Int).toNat) (List.drop ((0:Int).toNat+(0:Int).toNat+(0:Int).toNat) (bz (aL (aW [i64,i64] x (3,1,()))).2).st)).length+[List.getD (bz (aL (aW [i64,i64] x (3,1,()))).2).st ((0:Int).toNat+(0:Int).toNat+(bm .i64 (Int.ofNat ((bm .i64 (Int.ofNat ((bm .i64 (Int.ofNat (List.length (bz (aL (aW [i64,i64] x (3,1,()))).2).st)) (1)).toNat - (0:Int).toNat)) (1)).toNat - (0:Int).toNat)) (1)).toNat) (aS (Ty.int .u64))].length)) (
   some (aN di (aW [] ({(bz (aL (aW [i64,i64] x (3,1,()))).2)with st:=(app (List.take ((bm .i64 (Int.ofNat ((bm .i64 (Int.ofNat ((bm .i64 (Int.ofNat (List.length (bz (aL (aW [i64,i64] x (3,1,()))).2).st)) (1)).toNat - (0:Int).toNat)) (1)).toNat - (0:Int).toNat)) (1)).toNat - (0:Int).toNat) (List.drop ((0:Int).toNat+(0:Int).toNat+(0:Int).toNat) (bz (aL (aW [i64,i64] x (3,1,()))).2).st)) [List.getD (bz (aL (aW [i64,i64] x (3,1,()))).2).st ((0:Int).toNat+(0:Int).toNat+(bm .i64 (Int.ofNat ((bm .i64 (Int.ofNat ((bm .i64 (Int.ofNat (List.length (bz (aL (aW [i64,i64] x (3,1,()))).2).st)) (1)).toNat - (0:Int).toNat)) (1)).toNat - (0:Int).toNat)) (1)).toNat) (aS (Ty.int .u64))])}) ())))))))))
  else
  some (aN di (aW [] (bz (aL (aW [i64,i64] x (3,1,()))).2) ())))
 else
 bif decide (o=66)then
  bI (lP (aW [i64,i64] x (0,1,()))) (
  bif (aL (aW [i64,i64] x (0,1,()))).1 then
   bI (roomy 8 (List.length (bz (aL (aW [i64,i64] x (0,1,()))).2).st+[n].length)) (
   some (aN di (aW [] ({(bz (aL (aW [i64,i64] x (0,1,()))).2)with st:=(app (bz (aL (aW [i64,i64] x (0,1,()))).2).st [n])}) ())))
  else
  some (aN di (aW [] (bz (aL (aW [i64,i64] x (0,1,()))).2) ())))
 else
 bif bif decide (32<=o)then decide (o<=36)else false then
  bI (PA (aW [i64,i64,u64] x (o,a,n,()))) (
  some (aN di (aW [] (bz (PB (aW [i64,i64,u64] x (o,a,n,())))) ())))
 else
 bif bif decide (40<=o)then decide (o<=64)else false then
  bI (WV (aW [i64,i64,u64] x (o,a,n,()))) (
  some (aN di (aW [] (bz (WW (aW [i64,i64,u64] x (o,a,n,())))) ())))
 else
 bI (yN (o,())) (
 bif decide ((m11 (o,())).1=1)then
  bI (lP (aW [i64,i64] x (1,1,()))) (
  bif (aL (aW [i64,i64] x (1,1,()))).1 then
   bI (cu (bm .i64 (Int.ofNat (List.length (bz (aL (aW [i64,i64] x (1,1,()))).2).st)) (1)) (Int.ofNat (List.length (bz (aL (aW [i64,i64] x (1,1,()))).2).st))) (
   bI (dZ (0) (bm .i64 (Int.ofNat (List.length (bz (aL (aW [i64,i64] x (1,1,()))).2).st)) (1)) (Int.ofNat (List.length (bz (aL (aW [i64,i64] x (1,1,()))).2).st))) (
   bI (decide (o=o)) (
   bI (wV (o,List.getD (bz (aL (aW [i64,i64] x (1,1,()))).2).st (bm .i64 (Int.ofNat (List.length (bz (aL (aW [i64,i64] x (1,1,()))).2).st)) (1)).toNat (aS (Ty.int .u64)),())) (
   bif bif !decide ((m13 (o,List.getD (bz (aL (aW [i64,i64] x (1,1,()))).2).st (bm .i64 (Int.ofNat (List.length (bz (aL (aW [i64,i64] x (1,1,()))).2).st)) (1)).toNat (aS (Ty.int .u64)),())).2.1=0)then decide ((bz (aL (aW [i64,i64] x (1,1,()))).2).r.err=0)else false then
    bI (roomy 8 ((List.take ((bm .i64 (Int.ofNat (List.length (bz (aL (aW [i64,i64] x (1,1,()))).2).st)) (1)).toNat - (0:Int).toNat) (List.drop (0:Int).toNat (bz (aL (aW [i64,i64] x (1,1,()))).2).st)).length+[(m13 (o,List.getD (bz (aL (aW [i64,i64] x (1,1,()))).2).st (bm .i64 (Int.ofNat (List.length (bz (aL (aW [i64,i64] x (1,1,()))).2).st)) (1)).toNat (aS (Ty.int .u64)),())).1].length)) (
    some (aN di (aW [] ({(bz (aL (aW [i64,i64] x (1,1,()))).2)with r:={(bz (aL (aW [i64,i64] x (1,1,()))).2).r with err:=(m13 (o,List.getD (bz (aL (aW [i64,i64] x (1,1,()))).2).st (bm .i64 (Int.ofNat (List.length (bz (aL (aW [i64,i64] x (1,1,()))).2).st)) (1)).toNat (aS (Ty.int .u64)),())).2.1},st:=(app (List.take ((bm .i64 (Int.ofNat (List.length (bz (aL (aW [i64,i64] x (1,1,()))).2).st)) (1)).toNat - (0:Int).toNat) (List.drop (0:Int).toNat (bz (aL (aW [i64,i64] x (1,1,()))).2).st)) [(m13 (o,List.getD (bz (aL (aW [i64,i64] x (1,1,()))).2).st (bm .i64 (Int.ofNat (List.length (bz (aL (aW [i64,i64] x (1,1,()))).2).st)) (1)).toNat (aS (Ty.int .u64)),())).1])}) ())))
   else
   bI (roomy 8 ((List.take ((bm .i64 (Int.ofNat (List.length (bz (aL (aW [i64,i64] x (1,1,()))).2).st)) (1)).toNat - (0:Int).toNat) (List.drop (0:Int).toNat (bz (aL (aW [i64,i64] x (1,1,()))).2).st)).length+[(m13 (o,List.getD (bz (aL (aW [i64,i64] x (1,1,()))).2).st (bm .i64 (Int.ofNat (List.length (bz (aL (aW [i64,i64] x (1,1,()))).2).st)) (1)).toNat (aS (Ty.int .u64)),())).1].length)) (
   some (aN di (aW [] ({(bz (aL (aW [i64,i64] x (1,1,()))).2)with st:=(app (List.take ((bm .i64 (Int.ofNat (List.length (bz (aL (aW [i64,i64] x (1,1,()))).2).st)) (1)).toNat - (0:Int).toNat) (List.drop (0:Int).toNat (bz (aL (aW [i64,i64] x (1,1,()))).2).st)) [(m13 (o,List.getD (bz (aL (aW [i64,i64] x (1,1,()))).2).st (bm .i64 (Int.ofNat (List.length (bz (aL (aW [i64,i64] x (1,1,()))).2).st)) (1)).toNat (aS (Ty.int .u64)),())).1])}) ())))))))
  else
  some (aN di (aW [] (bz (aL (aW [i64,i64] x (1,1,()))).2) ())))
 else
 bI (lP (aW [i64,i64] x (2,1,()))) (
 bif (aL (aW [i64,i64] x (2,1,()))).1 then
  bI (cu (bm .i64 (Int.ofNat (List.length (bz (aL (aW [i64,i64] x (2,1,()))).2).st)) (1)) (Int.ofNat (List.length (bz (aL (aW [i64,i64] x (2,1,()))).2).st))) (
  bI (dZ (0) (bm .i64 (Int.ofNat (List.length (bz (aL (aW [i64,i64] x (2,1,()))).2).st)) (1)) (Int.ofNat (List.length (bz (aL (aW [i64,i64] x (2,1,()))).2).st))) (
  bI (cu (bm .i64 (Int.ofNat ((bm .i64 (Int.ofNat (List.length (bz (aL (aW [i64,i64] x (2,1,()))).2).st)) (1)).toNat - (0:Int).toNat)) (1)) (Int.ofNat ((bm .i64 (Int.ofNat (List.length (bz (aL (aW [i64,i64] x (2,1,()))).2).st)) (1)).toNat - (0:Int).toNat))) (
  bI (dZ (0) (bm .i64 (Int.ofNat ((bm .i64 (Int.ofNat (List.length (bz (aL (aW [i64,i64] x (2,1,()))).2).st)) (1)).toNat - (0:Int).toNat)) (1)) (Int.ofNat ((bm .i64 (Int.ofNat (List.length (bz (aL (aW [i64,i64] x (2,1,()))).2).st)) (1)).toNat - (0:Int).toNat))) (
  bI (wU (o,List.getD (bz (aL (aW [i64,i64] x (2,1,()))).2).st ((0:Int).toNat+(bm .i64 (Int.ofNat ((bm .i64 (Int.ofNat (List.length (bz (aL (aW [i64,i64] x (2,1,()))).2).st)) (1)).toNat - (0:Int).toNat)) (1)).toNat) (aS (Ty.int .u64)),List.getD (bz (aL (aW [i64,i64] x (2,1,()))).2).st (bm .i64 (Int.ofNat (List.length (bz (aL (aW [i64,i64] x (2,1,()))).2).st)) (1)).toNat (aS (Ty.int .u64)),())) (
  bif bif !decide ((m12 (o,List.getD (bz (aL (aW [i64,i64] x (2,1,()))).2).st ((0:Int).toNat+(bm .i64 (Int.ofNat ((bm .i64 (Int.ofNat (List.length (bz (aL (aW [i64,i64] x (2,1,()))).2).st)) (1)).toNat - (0:Int).toNat)) (1)).toNat) (aS (Ty.int .u64)),List.getD (bz (aL (aW [i64,i64] x (2,1,()))).2).st (bm .i64 (Int.ofNat (List.length (bz (aL (aW [i64,i64] x (2,1,()))).2).st)) (1)).toNat (aS (Ty.int .u64)),())).2.1=0)then decide ((bz (aL (aW [i64,i64] x (2,1,()))).2).r.err=0)else false then
   bI (roomy 8 ((List.take ((bm .i64 (Int.ofNat ((bm .i64 (Int.ofNat (List.length (bz (aL (aW [i64,i64] x (2,1,()))).2).st)) (1)).toNat - (0:Int).toNat)) (1)).toNat - (0:Int).toNat) (List.drop ((0:Int).toNat+(0:Int).toNat) (bz (aL (aW [i64,i64] x (2,1,()))).2).st)).length+[(m12 (o,List.getD (bz (aL (aW [i64,i64] x (2,1,()))).2).st ((0:Int).toNat+(bm .i64 (Int.ofNat ((bm .i64 (Int.ofNat (List.length (bz (aL (aW [i64,i64] x (2,1,()))).2).st)) (1)).toNat - (0:Int).toNat)) (1)).toNat) (aS (Ty.int .u64)),List.getD (bz (aL (aW [i64,i64] x (2,1,()))).2).st (bm .i64 (Int.ofNat (List.length (bz (aL (aW [i64,i64] x (2,1,()))).2).st)) (1)).toNat (aS (Ty.int .u64)),())).1].length)) (
   some (aN di (aW [] ({(bz (aL (aW [i64,i64] x (2,1,()))).2)with r:={(bz (aL (aW [i64,i64] x (2,1,()))).2).r with err:=(m12 (o,List.getD (bz (aL (aW [i64,i64] x (2,1,()))).2).st ((0:Int).toNat+(bm .i64 (Int.ofNat ((bm .i64 (Int.ofNat (List.length (bz (aL (aW [i64,i64] x (2,1,()))).2).st)) (1)).toNat - (0:Int).toNat)) (1)).toNat) (aS (Ty.int .u64)),List.getD (bz (aL (aW [i64,i64] x (2,1,()))).2).st (bm .i64 (Int.ofNat (List.length (bz (aL (aW [i64,i64] x (2,1,()))).2).st)) (1)).toNat (aS (Ty.int .u64)),())).2.1},st:=(app (List.take ((bm .i64 (Int.ofNat ((bm .i64 (Int.ofNat (List.length (bz (aL (aW [i64,i64] x (2,1,()))).2).st)) (1)).toNat - (0:Int).toNat)) (1)).toNat - (0:Int).toNat) (List.drop ((0:Int).toNat+(0:Int).toNat) (bz (aL (aW [i64,i64] x (2,1,()))).2).st)) [(m12 (o,List.getD (bz (aL (aW [i64,i64] x (2,1,()))).2).st ((0:Int).toNat+(bm .i64 (Int.ofNat ((bm .i64 (Int.ofNat (List.length (bz (aL (aW [i64,i64] x (2,1,()))).2).st)) (1)).toNat - (0:Int).toNat)) (1)).toNat) (aS (Ty.int .u64)),List.getD (bz (aL (aW [i64,i64] x (2,1,()))).2).st (bm .i64 (Int.ofNat (List.length (bz (aL (aW [i64,i64] x (2,1,()))).2).st)) (1)).toNat (aS (Ty.int .u64)),())).1])}) ())))
  else
  bI (roomy 8 ((List.take ((bm .i64 (Int.ofNat ((bm .i64 (Int.ofNat (List.length (bz (aL (aW [i64,i64] x (2,1,()))).2).st)) (1)).toNat - (0:Int).toNat)) (1)).toNat - (0:Int).toNat) (List.drop ((0:Int).toNat+(0:Int).toNat) (bz (aL (aW [i64,i64] x (2,1,()))).2).st)).length+[(m12 (o,List.getD (bz (aL (aW [i64,i64] x (2,1,()))).2).st ((0:Int).toNat+(bm .i64 (Int.ofNat ((bm .i64 (Int.ofNat (List.length (bz (aL (aW [i64,i64] x (2,1,()))).2).st)) (1)).toNat - (0:Int).toNat)) (1)).toNat) (aS (Ty.int .u64)),List.getD (bz (aL (aW [i64,i64] x (2,1,()))).2).st (bm .i64 (Int.ofNat (List.length (bz (aL (aW [i64,i64] x (2,1,()))).2).st)) (1)).toNat (aS (Ty.int .u64)),())).1].length)) (
  some (aN di (aW [] ({(bz (aL (aW [i64,i64] x (2,1,()))).2)with st:=(app (List.take ((bm .i64 (Int.ofNat ((bm .i64 (Int.ofNat (List.length (bz (aL (aW [i64,i64] x (2,1,()))).2).st)) (1)).toNat - (0:Int).toNat)) (1)).toNat - (0:Int).toNat) (List.drop ((0:Int).toNat+(0:Int).toNat) (bz (aL (aW [i64,i64] x (2,1,()))).2).st)) [(m12 (o,List.getD (bz (aL (aW [i64,i64] x (2,1,()))).2).st ((0:Int).toNat+(bm .i64 (Int.ofNat ((bm .i64 (Int.ofNat (List.length (bz (aL (aW [i64,i64] x (2,1,()))).2).st)) (1)).toNat - (0:Int).toNat)) (1)).toNat) (aS (Ty.int .u64)),List.getD (bz (aL (aW [i64,i64] x (2,1,()))).2).st (bm .i64 (Int.ofNat (List.length (bz (aL (aW [i64,i64] x (2,1,()))).2).st)) (1)).toNat (aS (Ty.int .u64)),())).1])}) ()))))))))
 else
 some (aN di (aW [] (bz (aL (aW [i64,i64] x (2,1,()))).2) ())))):=by kernel_rfl
theorem AZ(g:Cg)(x:FR)(o a n:Int):(t134 g (aW [i64,i64,u64] x (o,a,n,()))).val=
 bif decide (o=0)then
  bif decide (x.1.5=0)then
   some (aN gv (aW [] ({x with r:={x.r with err:=20}}) ()))
  else
  some (aN gv (aW [] x ()))
 else
 bif decide (o=12)then
  bI (PC (aW [i64] x (a,()))) (
  some (aN gv (aW [] (bz (PD (aW [i64] x (a,())))) ())))
 else
 bif decide (o=13)then
  bI (lP (aW [i64,i64] x (1,0,()))) (
  bif (aL (aW [i64,i64] x (1,0,()))).1 then
   bI (cu (bm .i64 (Int.ofNat (List.length (bz (aL (aW [i64,i64] x (1,0,()))).2).st)) (1)) (Int.ofNat (List.length (bz (aL (aW [i64,i64] x (1,0,()))).2).st))) (
   bI (dZ (0) (bm .i64 (Int.ofNat (List.length (bz (aL (aW [i64,i64] x (1,0,()))).2).st)) (1)) (Int.ofNat (List.length (bz (aL (aW [i64,i64] x (1,0,()))).2).st))) (
   bif !decide (an .u32 (List.getD (bz (aL (aW [i64,i64] x (1,0,()))).2).st (bm .i64 (Int.ofNat (List.length (bz (aL (aW [i64,i64] x (1,0,()))).2).st)) (1)).toNat (aS (Ty.int .u64)))=0)then
    bI (PC (aW [i64] ({(bz (aL (aW [i64,i64] x (1,0,()))).2)with st:=(List.take ((bm .i64 (Int.ofNat (List.length (bz (aL (aW [i64,i64] x (1,0,()))).2).st)) (1)).toNat - (0:Int).toNat) (List.drop (0:Int).toNat (bz (aL (aW [i64,i64] x (1,0,()))).2).st))}) (a,()))) (
    some (aN gv (aW [] (bz (PD (aW [i64] ({(bz (aL (aW [i64,i64] x (1,0,()))).2)with st:=(List.take ((bm .i64 (Int.ofNat (List.length (bz (aL (aW [i64,i64] x (1,0,()))).2).st)) (1)).toNat - (0:Int).toNat) (List.drop (0:Int).toNat (bz (aL (aW [i64,i64] x (1,0,()))).2).st))}) (a,())))) ())))
   else
   some (aN gv (aW [] ({(bz (aL (aW [i64,i64] x (1,0,()))).2)with pc:=(bf .i64 (bz (aL (aW [i64,i64] x (1,0,()))).2).pc (1)),st:=(List.take ((bm .i64 (Int.ofNat (List.length (bz (aL (aW [i64,i64] x (1,0,()))).2).st)) (1)).toNat - (0:Int).toNat) (List.drop (0:Int).toNat (bz (aL (aW [i64,i64] x (1,0,()))).2).st))}) ()))))
  else
  some (aN gv (aW [] (bz (aL (aW [i64,i64] x (1,0,()))).2) ())))
 else
 bif decide (o=14)then
  bI (lP (aW [i64,i64] x (1,0,()))) (
  bif (aL (aW [i64,i64] x (1,0,()))).1 then
   bI (cu (bm .i64 (Int.ofNat (List.length (bz (aL (aW [i64,i64] x (1,0,()))).2).st)) (1)) (Int.ofNat (List.length (bz (aL (aW [i64,i64] x (1,0,()))).2).st))) (
   bI (dZ (0) (bm .i64 (Int.ofNat (List.length (bz (aL (aW [i64,i64] x (1,0,()))).2).st)) (1)) (Int.ofNat (List.length (bz (aL (aW [i64,i64] x (1,0,()))).2).st))) (
   bI (decide ((bz (aL (aW [i64,i64] x (1,0,()))).2).pc=(bz (aL (aW [i64,i64] x (1,0,()))).2).pc)) (
   bI (decide (a=a)) (
   some (aN gv (aW [] ({(bz (aL (aW [i64,i64] x (1,0,()))).2)with pc:=(bf .i64 (bz (aL (aW [i64,i64] x (1,0,()))).2).pc (bf .i64 (1) (an .i64 (min (an .u64 (an .u32 (List.getD (bz (aL (aW [i64,i64] x (1,0,()))).2).st (bm .i64 (Int.ofNat (List.length (bz (aL (aW [i64,i64] x (1,0,()))).2).st)) (1)).toNat (aS (Ty.int .u64))))) (an .u64 a))))),st:=(List.take ((bm .i64 (Int.ofNat (List.length (bz (aL (aW [i64,i64] x (1,0,()))).2).st)) (1)).toNat - (0:Int).toNat) (List.drop (0:Int).toNat (bz (aL (aW [i64,i64] x (1,0,()))).2).st))}) ()))))))
  else
  some (aN gv (aW [] (bz (aL (aW [i64,i64] x (1,0,()))).2) ())))
 else
 bif decide (o=15)then
  bI (lP (aW [i64,i64] x (x.2.2.2.2.1,0,()))) (
  bif (aL (aW [i64,i64] x (x.2.2.2.2.1,0,()))).1 then
   bI (dZ (bm .i64 (Int.ofNat (List.length (bz (aL (aW [i64,i64] x (x.2.2.2.2.1,0,()))).2).st)) (bz (aL (aW [i64,i64] x (x.2.2.2.2.1,0,()))).2).f.2.2.2.1) (Int.ofNat (List.length (bz (aL (aW [i64,i64] x (x.2.2.2.2.1,0,()))).2).st)) (Int.ofNat (List.length (bz (aL (aW [i64,i64] x (x.2.2.2.2.1,0,()))).2).st))) (
   some (aN gv (aW [] ({(bz (aL (aW [i64,i64] x (x.2.2.2.2.1,0,()))).2)with pc:=(-1),st:=(List.take ((Int.ofNat (List.length (bz (aL (aW [i64,i64] x (x.2.2.2.2.1,0,()))).2).st)).toNat - (bm .i64 (Int.ofNat (List.length (bz (aL (aW [i64,i64] x (x.2.2.2.2.1,0,()))).2).st)) (bz (aL (aW [i64,i64] x (x.2.2.2.2.1,0,()))).2).f.2.2.2.1).toNat) (List.drop (bm .i64 (Int.ofNat (List.length (bz (aL (aW [i64,i64] x (x.2.2.2.2.1,0,()))).2).st)) (bz (aL (aW [i64,i64] x (x.2.2.2.2.1,0,()))).2).f.2.2.2.1).toNat (bz (aL (aW [i64,i64] x (x.2.2.2.2.1,0,()))).2).st))}) ())))
  else
  some (aN gv (aW [] (bz (aL (aW [i64,i64] x (x.2.2.2.2.1,0,()))).2) ())))
 else
 bif decide (o=16)then
  bI (W3 g (aW [i64] x (a,()))) (
  some (aN gv (aW [] (bz (W4 g (aW [i64] x (a,())))) ())))
 else
 bif decide (o=17)then
  bI (W6 g (aW [i64] x (a,()))) (
  some (aN gv (aW [] (bz (W7 g (aW [i64] x (a,())))) ())))
 else
 bI (yQ (aW [i64,i64,u64] x (o,a,n,()))) (
 some (aN gv (aW [] ({(bz (xd (aW [i64,i64,u64] x (o,a,n,()))))with pc:=(bf .i64 (bz (xd (aW [i64,i64,u64] x (o,a,n,())))).pc (1))}) ()))):=by kernel_rfl
end Go.Proofs.Vq
