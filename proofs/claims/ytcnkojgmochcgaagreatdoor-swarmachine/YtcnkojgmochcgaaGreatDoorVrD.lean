import Derived.Test.YtcnkojgmochcgaaGreatDoorVrC
import Derived.Test.YtcnkojgmochcgaaGreatDoorLfK
import Derived.Test.YtcnkojgmochcgaaGreatDoorLfN
noncomputable section
namespace Go.Proofs.Vq
open Go.Ab Go.Ab.Lf Go.RowKit
set_option maxRecDepth 100000
def lkN(k:IntKind)(b:Int)(F:Int->Int):List AV->Option AV
 | [.int k' x]=>bif decide (k'=k)&&(decide (0<=x)&&decide (x<=b))then some (.int .i64 (F x))else none
 | _=>none
theorem G5[Io]{f:FuncId}{k:IntKind}{b:Int}{F:Int->Int}(hk: ∀ x,0<=x->x<=b->oL Tryz.prog f [.int k x] (.int .i64 (F x))){az:List AV}{v:AV}(h:lkN k b F az=some v):oL Tryz.prog f az v:=by
 unfold lkN at h
 split at h
 ·rename_i k' x
  cases hb:(decide (k'=k)&&(decide (0<=x)&&decide (x<=b)))with
  |false=>rw[hb]at h;cases h
  |true=>
   rw[hb]at h
   cases h
   simp only[Bool.and_eq_true,decide_eq_true_eq]at hb
   obtain⟨rfl,h1,h2⟩:=hb
   exact hk x h1 h2
 ·cases h
def Bh(f:FuncId)(az:List AV):Option AV:=bif VW f then Zc f az else
 bif Nat.beq f 41 then(match az with| []=>some (.bool true)| _=>none)else
 bif Nat.beq f 49 then lkN .u32 4294967295 (lz 32) az else
 bif Nat.beq f 50 then lkN .u32 4294967295 (tz 32) az else
 bif Nat.beq f 52 then lkN .u64 18446744073709551615 (lz 64) az else
 bif Nat.beq f 53 then lkN .u64 18446744073709551615 (tz 64) az else none
theorem ae0: ∀ f az v,Bh f az=some v-> @oL Fv Tryz.prog f az v:=by
 intro f az v h
 unfold Bh at h
 cases hc:VW f with
 |true=>rw[hc]at h;exact LH f az v h
 |false=>
  rw[hc,cond_false]at h
  cases h41:Nat.beq f 41 with
  |true=>
   rw[h41,cond_true]at h
   obtain rfl:=Nat.eq_of_beq_eq_true h41
   split at h
   ·cases h;exact arZ
   ·cases h
  |false=>
   rw[h41,cond_false]at h
   cases h49:Nat.beq f 49 with
   |true=>rw[h49,cond_true]at h;obtain rfl:=Nat.eq_of_beq_eq_true h49;exact @G5 Fv _ _ _ _ (fun x a b=>arT x a b) _ _ h
   |false=>
    rw[h49,cond_false]at h
    cases h50:Nat.beq f 50 with
    |true=>rw[h50,cond_true]at h;obtain rfl:=Nat.eq_of_beq_eq_true h50;exact @G5 Fv _ _ _ _ (fun x a b=>arV x a b) _ _ h
    |false=>
     rw[h50,cond_false]at h
     cases h52:Nat.beq f 52 with
     |true=>rw[h52,cond_true]at h;obtain rfl:=Nat.eq_of_beq_eq_true h52;exact @G5 Fv _ _ _ _ (fun x a b=>arU x a b) _ _ h
     |false=>
      rw[h52,cond_false]at h
      cases h53:Nat.beq f 53 with
      |true=>rw[h53,cond_true]at h;obtain rfl:=Nat.eq_of_beq_eq_true h53;exact @G5 Fv _ _ _ _ (fun x a b=>arW x a b) _ _ h
      |false=>rw[h53]at h;cases h
def tbZ(f:FuncId)(az:List AV):Option AV:=match az with
 | [.agg m]=>bif @decide (f=56/\EV N0 Zb Jy m) (Classical.propDecidable _)then some (.int .i64 0)else none
 | _=>none
theorem ae2: ∀ f az v,tbZ f az=some v-> @oL Fv Tryz.prog f az v:=by
 intro f az v h
 unfold tbZ at h
 split at h
 ·rename_i m
  cases hd: @decide (f=56/\EV N0 Zb Jy m) (Classical.propDecidable _)with
  |false=>rw[hd]at h;cases h
  |true=>
   rw[hd]at h
   cases h
   obtain⟨rfl,hm⟩:= @of_decide_eq_true _ (Classical.propDecidable _) hd
   exact ar0 hm
 ·cases h
def G6(f:FuncId):Bool:=Nat.beq f 56
def zX(c:nv):nv:=ada G6 tbZ (Kj Bh c)
def pe(n d:Nat):nv:=zX (wG Tryz.gt zX n d)
theorem Ze(n d:Nat): @nP Fv Tryz.prog (pe n d):=
 have hw: ∀ c,@nP Fv Tryz.prog c-> @nP Fv Tryz.prog (zX c):=fun _ hc=> @Xt Fv _ _ _ _ ae2 (@Dz Fv _ _ ae0 _ hc)
 hw _ (@wH Fv _ _ (@B5 Fv _ Tryz.mixed) _ Tryz.gts _ hw n d)
theorem TW{f:FuncId}{az az':List AV}{v:AV}{h:Hp}(hf:G6 f=true)(hz:mapA (yp 8 h) az=some az')(ht:tbZ f az'=some v)(n d:Nat):pe n d f az h=.ok v h:=by
 show(Bool.rec (Kj Bh _ f az h) (match mapA (yp 8 h) az with|some wI=>(match tbZ f wI with|some v=>Ro.ok v h|none=>Kj Bh (wG Tryz.gt zX n d) f az h)|none=>Kj Bh (wG Tryz.gt zX n d) f az h) (G6 f):Ro)=_
 rw[hf,hz]
 dsimp only
 rw[ht]
theorem Cf{f:FuncId}{az:List AV}{v:AV}{h:Hp}(hf:G6 f=false)(hl:Bh f az=some v)(n d:Nat):pe n d f az h=.ok v h:=by
 show(Bool.rec (Kj Bh _ f az h) (match mapA (yp 8 h) az with|some wI=>(match tbZ f wI with|some v=>Ro.ok v h|none=>Kj Bh (wG Tryz.gt zX n d) f az h)|none=>Kj Bh (wG Tryz.gt zX n d) f az h) (G6 f):Ro)=_
 rw[hf]
 show(match Bh f az with|some v=>Ro.ok v h|none=>_)=_
 rw[hl]
theorem vg{f:FuncId}{b:Ea}(hf:Tryz.xs.get f=some b)(hh:G6 f=false){n d:Nat}{az:List AV}{h:Hp}(hl:Bh f az=none):pe n (d+1) f az h=Dj b.fb n (pe n d) az h:=by
 show(Bool.rec (Kj Bh _ f az h) (match mapA (yp 8 h) az with|some wI=>(match tbZ f wI with|some v=>Ro.ok v h|none=>Kj Bh (wG Tryz.gt zX n (d+1)) f az h)|none=>Kj Bh (wG Tryz.gt zX n (d+1)) f az h) (G6 f):Ro)=_
 rw[hh]
 show(match Bh f az with|some v=>Ro.ok v h|none=>II Tryz.gt n (pe n d) f az h)=_
 rw[hl]
 dsimp only
 show II Tryz.gt n (pe n d) f az h=_
 unfold II
 rw[Tryz.aiw hf]
 rfl
theorem ae3{f:FuncId}{b:Ea}(hC:VW f=true)(hf:Tryz.xs.get f=some b)(hb:bkQ f=some b): ∀ n d h,Dj b.fb n (pe n d) [.qi] h=.bad/\Dj b.fb n (pe n d) [.sU 0 []] h=.bad:=by
 unfold VW at hC
 simp only[Bool.or_eq_true]at hC
 rcases hC with((((((((((((h|h)|h)|h)|h)|h)|h)|h)|h)|h)|h)|h)|h)|h
 ·obtain rfl:=Nat.eq_of_beq_eq_true h;obtain rfl:b=Tryz.x67:=(Option.some.inj hf).symm;exact fun n d h=>⟨by kernel_rfl,by kernel_rfl⟩
 ·obtain rfl:=Nat.eq_of_beq_eq_true h;obtain rfl:b=Tryz.x69:=(Option.some.inj hf).symm;exact fun n d h=>⟨by kernel_rfl,by kernel_rfl⟩
 ·obtain rfl:=Nat.eq_of_beq_eq_true h;obtain rfl:b=Tryz.x70:=(Option.some.inj hf).symm;exact fun n d h=>⟨by kernel_rfl,by kernel_rfl⟩
 ·obtain rfl:=Nat.eq_of_beq_eq_true h;obtain rfl:b=Tryz.x71:=(Option.some.inj hf).symm;exact fun n d h=>⟨by kernel_rfl,by kernel_rfl⟩
 ·obtain rfl:=Nat.eq_of_beq_eq_true h;obtain rfl:b=Tryz.x72:=(Option.some.inj hf).symm;exact fun n d h=>⟨by kernel_rfl,by kernel_rfl⟩
 ·obtain rfl:=Nat.eq_of_beq_eq_true h;obtain rfl:b=Tryz.ad2:=(Option.some.inj hf).symm;exact fun n d h=>⟨by kernel_rfl,by kernel_rfl⟩
 ·obtain rfl:=Nat.eq_of_beq_eq_true h;obtain rfl:b=Tryz.ad3:=(Option.some.inj hf).symm;exact fun n d h=>⟨by kernel_rfl,by kernel_rfl⟩
 ·obtain rfl:=Nat.eq_of_beq_eq_true h;obtain rfl:b=Tryz.ad4:=(Option.some.inj hf).symm;exact fun n d h=>⟨by kernel_rfl,by kernel_rfl⟩
 ·obtain rfl:=Nat.eq_of_beq_eq_true h;obtain rfl:b=Tryz.ad5:=(Option.some.inj hf).symm;exact fun n d h=>⟨by kernel_rfl,by kernel_rfl⟩
 ·obtain rfl:=Nat.eq_of_beq_eq_true h;obtain rfl:b=Tryz.ad6:=(Option.some.inj hf).symm;exact fun n d h=>⟨by kernel_rfl,by kernel_rfl⟩
 ·obtain rfl:=Nat.eq_of_beq_eq_true h;obtain rfl:b=Tryz.ad7:=(Option.some.inj hf).symm;exact fun n d h=>⟨by kernel_rfl,by kernel_rfl⟩
 ·obtain rfl:=Nat.eq_of_beq_eq_true h;obtain rfl:b=Tryz.ad8:=(Option.some.inj hf).symm;exact fun n d h=>⟨by kernel_rfl,by kernel_rfl⟩
 ·obtain rfl:=Nat.eq_of_beq_eq_true h;obtain rfl:b=Tryz.ad9:=(Option.some.inj hf).symm;exact fun n d h=>⟨by kernel_rfl,by kernel_rfl⟩
 ·obtain rfl:=Nat.eq_of_beq_eq_true h;obtain rfl:b=Tryz.aeg:=(Option.some.inj hf).symm;exact fun n d h=>⟨by kernel_rfl,by kernel_rfl⟩
theorem Fw: ∀ f b,bkQ f=some b->wP pe f b:=by
 intro f b hb n d az h c h' e
 have hb0:=hb
 unfold bkQ at hb
 cases hx:exQ f with
 |true=>rw[hx]at hb;cases hb
 |false=>
  rw[hx,cond_false]at hb
  unfold exQ at hx
  simp only[Bool.or_eq_false_iff]at hx
  obtain⟨h41,h56,axc,_,h49,h50,h52,h53⟩:=hx
  cases hC:VW f with
  |false=>
   rw[vg hb h56 (by unfold Bh;rw[hC,h41,h49,h50,h52,h53];rfl)]
   exact e
  |true=>
   obtain⟨q1,q2⟩:=ae3 hC hb hb0 n d h
   have hl:Bh f az=none:=by
    unfold Bh
    rw[hC,cond_true]
    unfold Zc
    rw[hC,cond_true]
    cases h1:q7 [.qi] az with
    |true=>obtain rfl:=qD _ _ h1;rw[q1]at e;cases e
    |false=>
     rw[cond_false]
     cases h2:q7 [.sU 0 []] az with
     |true=>obtain rfl:=qD _ _ h2;rw[q2]at e;cases e
     |false=>rfl
   rw[vg hb h56 hl]
   exact e
end Go.Proofs.Vq

noncomputable section
namespace Go.Proofs.Vq
open Go.Ab Go.Ab.Lf Go.RowKit
set_option maxRecDepth 100000
theorem LI{P:rI}{ptr:List Nat}{Q:rI}{ti to:List Ty}{g:cf ti->Lf.T (cf to)}{pl q:List Pl}(h:((pL P ptr Q ti to g).f pl).val=some q): ∃ x y,pl=cp ti x/\(g x).val=some y/\q=cp to y:=by
 change (match toT ti pl with|some x=>(g x).map (cp to)|none=>.bad).val=some q at h
 split at h
 ·rename_i x hx
  obtain⟨y,h1,h2⟩:=T.GO h
  exact⟨x,y,rR hx,h1,h2⟩
 ·cases h
theorem G7{P:rI}{ptr:List Nat}{Q:rI}{ti to:List Ty}{g:cf ti->Lf.T (cf to)}{x:cf ti}{y:cf to}(h:(g x).val=some y):((pL P ptr Q ti to g).f (cp ti x)).val=some (cp to y):=by
 show(match toT ti (cp ti x)with|some x=>(g x).map (cp to)|none=>.bad).val=_
 rw[tW]
 show((g x).bd fun a=>Lf.T.ok (cp to a)).val=_
 rw[Lf.T.Lc,h]
 rfl
abbrev rC(c:AV):Ea:=Go.Ab.X.anI 8 [.tmp 2] fun _ _=>(Go.Ab.X.nH (Go.Ab.X.cRg (Go.Ab.X.st 2 (Go.Ab.X.qA (Go.Ab.X.oC c)) Go.Ab.X.fi)) Go.Ab.X.og)
theorem Zf(c0:AV)(f:FuncId):wP (fun _ _ _ _ h=>.ok c0 h) f (rC c0):=by
 intro n d az h c h' e
 have e:(pZ (Nat.ble (len az) 8) (.ok c0 h) .bad:Go.Ab.Ro)=.ok c h':=e
 cases hb:Nat.ble (len az) 8 with
 |true=>rw[hb]at e;exact e
 |false=>rw[hb]at e;cases e
theorem Ni(cr:cu):yz (fun _ _ _=>.bad) cr:=fun _ _ _ _ _ _ _ _ _ _ e=>by cases e
theorem TX{P Q:rI}{ti to:List Ty}{g:cf ti->Lf.T (cf to)}{f:FuncId}{cr:cu}
 (k: ∀ x y args H0 (E0:En) h az,(g x).val=some y->oO P (cp ti x) e1=some (args,[],H0)->Vs E0 H0.next args az->SR E0 (pd H0) h-> ∃ c g',(g' x).val=some y/\(pL P [] Q ti to g').Ok f (fun _ _ _ _ h=>.ok c h)/\ ∀ n d,cr n (d+1) f az h=.ok c h):(pL P [] Q ti to g).Ok f cr:=by
 intro pl q args H0 E0 h az e hP hv hS
 obtain⟨x,y,rfl,h1,rfl⟩:=LI e
 obtain⟨c,g',hg,k1,k2⟩:=k x y args H0 E0 h az h1 hP hv hS
 obtain⟨c',h',E1,ws,H1,⟨M,hM⟩,r⟩:=k1 _ (cp to y) _ _ E0 h az (G7 hg) hP hv hS
 have hM:=hM M M (Nat.le_refl _) (Nat.le_refl _)
 cases hM
 refine⟨_,_,E1,ws,H1,⟨1,fun n d _ hd=>?_⟩,r⟩
 obtain⟨d,rfl⟩: ∃ d',d=d'+1:=⟨d - 1,by omega⟩
 exact k2 n d
theorem Nj{P Q:rI}{ti to:List Ty}{g:cf ti->Lf.T (cf to)}{f:FuncId}{c:AV}(e: ∀ x y,(g x).val=some y->(q9 P [] Q (fun _=>none) (rC c) 3 (fun _ _ _=>.bad) (cp ti x)).val=some (cp to y)):(pL P [] Q ti to g).Ok f (fun _ _ _ _ h=>.ok c h):=
 tU (Ni _) (Zf c f) rfl (cF _) (m:=3) rfl fun x y h=>e x y h
abbrev PI(t:Ty):rI:=.cons (.im t) .nil
abbrev PO(t:Ty):rI:=.cons (.ow t) .nil
theorem Jz{t:Ty}{f:FuncId}{c:AV}(e:(q9 (PI t) [] (PO t) (fun _=>none) (rC c) 3 (fun _ _ _=>.bad) (cp [.cq t] ([],()))).val=some (cp [.cq t] ([],()))):(pL (PI t) [] (PO t) [.cq t] [.cq t] fun x=>.ck (decide (List.length x.1=0)) (.ok ([],()))).Ok f (fun _ _ _ _ h=>.ok c h):=by
 refine Nj ?_
 rintro⟨x,⟨⟩⟩ q h
 obtain⟨h1,h⟩:=Lf.T.cG h
 cases h
 obtain rfl:x=[]:=List.eq_nil_of_length_eq_zero (of_decide_eq_true h1)
 exact e
theorem pT{t:Ty}{f:FuncId}{b:Ea}{B sz:Nat}(hb:bkQ f=some b)(hx:Tryz.xs.get f=some b)(D9:Nat.ble b.ntmps 512=true)(hC:VW f=true)(hh:G6 f=false)(hB:B*sz<=70368744177664/\B<=70368744177664)
 (e: ∀ x:List (den t),(q9 (PI t) [] (PO t) (fun _=>none) b 3 (fun _ _ _=>.bad) (cp [.cq t] (x,()))).val=cA (!(Nat.beq (List.length x) 0)) (cA (roomy sz (0+List.length x)) (some (cp [.cq t] (app [] x,())))))
 (WB:(q9 (PI t) [] (PO t) (fun _=>none) (rC .qi) 3 (fun _ _ _=>.bad) (cp [.cq t] ([],()))).val=some (cp [.cq t] ([],())))
 (e2':(q9 (PI t) [] (PO t) (fun _=>none) (rC .uR) 3 (fun _ _ _=>.bad) (cp [.cq t] ([],()))).val=some (cp [.cq t] ([],())))
 (e3':(q9 (PI t) [] (PO t) (fun _=>none) (rC (.sc (.slice none 0 0))) 3 (fun _ _ _=>.bad) (cp [.cq t] ([],()))).val=some (cp [.cq t] ([],())))
 (s2: ∀ n d h,Dj b.fb n (pe n d) [.uR] h=.ok .uR h)(s3: ∀ n d h,Dj b.fb n (pe n d) [.sc (.slice none 0 0)] h=.ok (.sc (.slice none 0 0)) h)(s4: ∀ n d h id base,Dj b.fb n (pe n d) [.oG id base 0 (size t)] h=.ok .uR h):
 (pL (PI t) [] (PO t) [.cq t] [.cq t] fun x=>.ck (decide (List.length x.1<=B)) (.ok (x.1,()))).Ok f pe:=by
 have lkE:Bh f [.qi]=some .qi:=by unfold Bh Zc;rw[hC];rfl
 have lkI:Bh f [.sU 0 []]=some .qi:=by unfold Bh Zc;rw[hC];rfl
 have nx: ∀ az,q7 [.qi] az=false->q7 [.sU 0 []] az=false->Bh f az=none:=by
  intro az h1 h2
  unfold Bh Zc
  rw[hC,h1,h2]
  rfl
 have hN:(pL (PI t) [] (PO t) [.cq t] [.cq t] fun x=>.ck (decide (List.length x.1<=B)&& !decide (List.length x.1=0)) (.ok (x.1,()))).Ok f pe:=by
  refine tU (Ni _) (Fw f b hb) D9 (cF _) (m:=3) rfl ?_
  rintro⟨x,⟨⟩⟩ q h
  obtain⟨h1,h⟩:=Lf.T.cG h
  cases h
  simp only[Bool.and_eq_true,Bool.not_eq_true',decide_eq_true_eq,decide_eq_false_iff_not]at h1
  have c1:Nat.beq (List.length x) 0=false:=by
   cases hb:Nat.beq (List.length x) 0 with
   |false=>rfl
   |true=>exact(h1.2 (Nat.eq_of_beq_eq_true hb)).elim
  refine(e x).trans ?_
  rw[c1,show roomy sz (0+List.length x)=true from xw.2 ⟨by rw[Nat.zero_add];exact Nat.le_trans (Nat.mul_le_mul_right sz h1.1) hB.1,by have:=h1.1;omega⟩,nD]
  rfl
 intro pl q args H0 E0 h az e0 hP hv hS
 obtain⟨⟨x,⟨⟩⟩,⟨y,⟨⟩⟩,rfl,h1,rfl⟩:=LI e0
 obtain⟨h2,h3⟩:=Lf.T.cG h1
 have h3:y=x:=by
  injection h3 with h3
  exact(congrArg Prod.fst h3).symm
 subst h3
 by_cases hy:y=[]
 ·subst hy
  have hP2:some (([.c 1 (.cq t) []]:List Sv),([]:List Pl),(⟨2,.nil⟩:Hq))=some (args,[],H0):=(AX Jk).symm.trans hP
  cases hP2
  obtain⟨a,rfl,ha⟩: ∃ a,az=[a]/\EV E0.G (.cq t) [] [a]:=by
   cases hv with
   |cons ha hr=>
    cases hr
    cases ha with
    |c k _=>exact⟨_,rfl,k⟩
  have fin: ∀ c0:AV,(pL (PI t) [] (PO t) [.cq t] [.cq t] fun x=>.ck (decide (List.length x.1=0)) (.ok ([],()))).Ok f (fun _ _ _ _ h=>.ok c0 h)->(∀ n d,pe n (d+1) f [a] h=.ok c0 h)-> ∃ c h' E1 ws H1,Ev (fun n d=>pe n d f [a] h) (.ok c h')/\Ox E0 E1 (pd ⟨2,.nil⟩) H1 h h'/\SR E1 H1 h'/\oO (PO t) (cp [.cq t] ([],())) Lf.e1=some (ws,[],H1)/\Vs E1 H1.next ws (c::([]:List Nat).map E0.A):=by
   intro c0 k hc
   obtain⟨c,h',E1,ws,H1,⟨M,hM⟩,r⟩:=k _ (cp [.cq t] ([],())) _ _ E0 h [a] (G7 (P:=PI t) (ptr:=[]) (Q:=PO t) (ti:=[.cq t]) (to:=[.cq t]) (x:=(([]:List (den t)),())) (y:=(([]:List (den t)),())) rfl) hP hv hS
   have hM:=hM M M (Nat.le_refl _) (Nat.le_refl _)
   cases hM
   refine⟨c0,h,E1,ws,H1,⟨1,fun n d _ hd=>?_⟩,r⟩
   obtain⟨d,rfl⟩: ∃ d',d=d'+1:=⟨d - 1,by omega⟩
   exact hc n d
  obtain⟨a',q1,k⟩: ∃ a',[a]=[a']/\MO E0.G t (EV E0.G t) [] a':=ha
  injection q1 with q1
  subst q1
  rcases k with⟨k,_⟩|⟨ls,k1,k2⟩
  ·cases a with
   |qi=>exact fin .qi (Jz WB) fun n d=>Cf hh lkE n (d+1)
   |uR=>exact fin .uR (Jz e2') fun n d=>(vg hx hh (nx _ rfl rfl)).trans (s2 n d h)
   |sc v=>
    obtain rfl:v=.slice none 0 0:=by
     have k:isNil (.sc v)=true:=k
     unfold isNil at k
     split at k
     ·rename_i n c e
      injection e with e
      subst e
      have k:(Nat.beq n 0&&Nat.beq c 0)=true:=by assumption
      rw[Bool.and_eq_true]at k
      obtain rfl:=Nat.eq_of_beq_eq_true k.1
      obtain rfl:=Nat.eq_of_beq_eq_true k.2
      rfl
     ·cases k
    exact fin _ (Jz e3') fun n d=>(vg hx hh (nx _ rfl rfl)).trans (s3 n d h)
   | _=>cases k
  ·have hl:ls=[]:=k1
   subst hl
   rcases k2 with k2|⟨id,base,row,k2,_,_⟩
   ·subst k2
    exact fin .qi (Jz WB) fun n d=>Cf hh lkI n (d+1)
   ·subst k2
    exact fin .uR (Jz e2') fun n d=>(vg hx hh (nx _ rfl rfl)).trans (s4 n d h id base)
 ·have hn:((pL (PI t) [] (PO t) [.cq t] [.cq t] fun x=>.ck (decide (List.length x.1<=B)&& !decide (List.length x.1=0)) (.ok (x.1,()))).f (cp [.cq t] (y,()))).val=some (cp [.cq t] (y,())):=by
   refine G7 (P:=PI t) (ptr:=[]) (Q:=PO t) (ti:=[.cq t]) (to:=[.cq t]) (x:=(y,())) (y:=(y,())) ?_
   show(bif (decide (List.length y<=B)&& !decide (List.length y=0))then some (y,())else none)=_
   rw[show decide (List.length y<=B)=true from h2,decide_eq_false (fun q=>hy (List.eq_nil_of_length_eq_zero q))]
   rfl
  exact hN _ _ args H0 E0 h az hn hP hv hS
theorem Zg:(tX u64).Ok 67 pe:=pT (b:=Tryz.x67) (B:=1099511627776) (sz:=8) (by kernel_rfl) (by kernel_rfl) rfl (by kernel_rfl) (by kernel_rfl) (by decide) (fun x=>by kernel_rfl) (by kernel_rfl) (by kernel_rfl) (by kernel_rfl) (fun n d h=>by kernel_rfl) (fun n d h=>by kernel_rfl) (fun n d h id base=>by kernel_rfl)
theorem Zh:(tX nd).Ok 69 pe:=pT (b:=Tryz.x69) (B:=1099511627776) (sz:=48) (by kernel_rfl) (by kernel_rfl) rfl (by kernel_rfl) (by kernel_rfl) (by decide) (fun x=>by kernel_rfl) (by kernel_rfl) (by kernel_rfl) (by kernel_rfl) (fun n d h=>by kernel_rfl) (fun n d h=>by kernel_rfl) (fun n d h id base=>by kernel_rfl)
theorem Zi:(tX i64).Ok 70 pe:=pT (b:=Tryz.x70) (B:=1099511627776) (sz:=8) (by kernel_rfl) (by kernel_rfl) rfl (by kernel_rfl) (by kernel_rfl) (by decide) (fun x=>by kernel_rfl) (by kernel_rfl) (by kernel_rfl) (by kernel_rfl) (fun n d h=>by kernel_rfl) (fun n d h=>by kernel_rfl) (fun n d h id base=>by kernel_rfl)
theorem Zj:(Yx).Ok 71 pe:=pT (b:=Tryz.x71) (B:=549755813888) (sz:=88) (by kernel_rfl) (by kernel_rfl) rfl (by kernel_rfl) (by kernel_rfl) (by decide) (fun x=>by kernel_rfl) (by kernel_rfl) (by kernel_rfl) (by kernel_rfl) (fun n d h=>by kernel_rfl) (fun n d h=>by kernel_rfl) (fun n d h id base=>by kernel_rfl)
theorem Zk:(tX oi).Ok 72 pe:=pT (b:=Tryz.x72) (B:=1099511627776) (sz:=24) (by kernel_rfl) (by kernel_rfl) rfl (by kernel_rfl) (by kernel_rfl) (by decide) (fun x=>by kernel_rfl) (by kernel_rfl) (by kernel_rfl) (by kernel_rfl) (fun n d h=>by kernel_rfl) (fun n d h=>by kernel_rfl) (fun n d h id base=>by kernel_rfl)
theorem TY:(tX BC).Ok 116 pe:=pT (b:=Tryz.ad2) (B:=1099511627776) (sz:=40) (by kernel_rfl) (by kernel_rfl) rfl (by kernel_rfl) (by kernel_rfl) (by decide) (fun x=>by kernel_rfl) (by kernel_rfl) (by kernel_rfl) (by kernel_rfl) (fun n d h=>by kernel_rfl) (fun n d h=>by kernel_rfl) (fun n d h id base=>by kernel_rfl)
theorem TZ:(tX uJ).Ok 117 pe:=pT (b:=Tryz.ad3) (B:=1099511627776) (sz:=16) (by kernel_rfl) (by kernel_rfl) rfl (by kernel_rfl) (by kernel_rfl) (by decide) (fun x=>by kernel_rfl) (by kernel_rfl) (by kernel_rfl) (by kernel_rfl) (fun n d h=>by kernel_rfl) (fun n d h=>by kernel_rfl) (fun n d h id base=>by kernel_rfl)
theorem T3:(tX BD).Ok 118 pe:=pT (b:=Tryz.ad4) (B:=1099511627776) (sz:=40) (by kernel_rfl) (by kernel_rfl) rfl (by kernel_rfl) (by kernel_rfl) (by decide) (fun x=>by kernel_rfl) (by kernel_rfl) (by kernel_rfl) (by kernel_rfl) (fun n d h=>by kernel_rfl) (fun n d h=>by kernel_rfl) (fun n d h id base=>by kernel_rfl)
theorem T4:(tX BE).Ok 120 pe:=pT (b:=Tryz.ad5) (B:=1099511627776) (sz:=32) (by kernel_rfl) (by kernel_rfl) rfl (by kernel_rfl) (by kernel_rfl) (by decide) (fun x=>by kernel_rfl) (by kernel_rfl) (by kernel_rfl) (by kernel_rfl) (fun n d h=>by kernel_rfl) (fun n d h=>by kernel_rfl) (fun n d h id base=>by kernel_rfl)
theorem T5:(tX BG).Ok 121 pe:=pT (b:=Tryz.ad6) (B:=1099511627776) (sz:=48) (by kernel_rfl) (by kernel_rfl) rfl (by kernel_rfl) (by kernel_rfl) (by decide) (fun x=>by kernel_rfl) (by kernel_rfl) (by kernel_rfl) (by kernel_rfl) (fun n d h=>by kernel_rfl) (fun n d h=>by kernel_rfl) (fun n d h id base=>by kernel_rfl)
theorem T6:(tX BH).Ok 122 pe:=pT (b:=Tryz.ad7) (B:=1099511627776) (sz:=48) (by kernel_rfl) (by kernel_rfl) rfl (by kernel_rfl) (by kernel_rfl) (by decide) (fun x=>by kernel_rfl) (by kernel_rfl) (by kernel_rfl) (by kernel_rfl) (fun n d h=>by kernel_rfl) (fun n d h=>by kernel_rfl) (fun n d h id base=>by kernel_rfl)
theorem T7:(tX BI).Ok 123 pe:=pT (b:=Tryz.ad8) (B:=1099511627776) (sz:=48) (by kernel_rfl) (by kernel_rfl) rfl (by kernel_rfl) (by kernel_rfl) (by decide) (fun x=>by kernel_rfl) (by kernel_rfl) (by kernel_rfl) (by kernel_rfl) (fun n d h=>by kernel_rfl) (fun n d h=>by kernel_rfl) (fun n d h id base=>by kernel_rfl)
theorem T8:(tX u8).Ok 124 pe:=pT (b:=Tryz.ad9) (B:=1099511627776) (sz:=1) (by kernel_rfl) (by kernel_rfl) rfl (by kernel_rfl) (by kernel_rfl) (by decide) (fun x=>by kernel_rfl) (by kernel_rfl) (by kernel_rfl) (by kernel_rfl) (fun n d h=>by kernel_rfl) (fun n d h=>by kernel_rfl) (fun n d h id base=>by kernel_rfl)
theorem T9:(tX tI).Ok 221 pe:=pT (b:=Tryz.aeg) (B:=1099511627776) (sz:=64) (by kernel_rfl) (by kernel_rfl) rfl (by kernel_rfl) (by kernel_rfl) (by decide) (fun x=>by kernel_rfl) (by kernel_rfl) (by kernel_rfl) (by kernel_rfl) (fun n d h=>by kernel_rfl) (fun n d h=>by kernel_rfl) (fun n d h id base=>by kernel_rfl)
end Go.Proofs.Vq

noncomputable section
namespace Go.Proofs.Vq
open Go.Ab Go.Ab.Lf
set_option maxRecDepth 100000
abbrev tF3:List Ty:=[i64,.cq u64,.cq u64]
abbrev cL(x:Rn)(f f2:den pn)(pc:Int)(st lo:List Int):cf rF:=zU (GZ (GZ tF3)) x (cFn (GZ tF3) f (cFn tF3 f2 (pc,st,lo,())))
abbrev Ao:List Ty:=[i64,i64,u64]
theorem abD(g:Cg)(x:Rn)(f f2:den pn)(pc:Int)(st lo:List Int)(cs:List (den oi))(q8:cs=f.2.2.2.2.2.1)(c:den oi)(hc:c=cs.getD pc.toNat (cE oi))(a:cf Fl)(ha:a=cy Ao ⟨x,f2,pc,st,lo⟩ (c.1,c.2.1,c.2.2,()))(F:xA)(hF:F=cK (Py g a)):
 (BN g (cp rF (cL x f f2 pc st lo))).val=bif (bif decide (x.err=0)then decide (0<=pc)else false)then
  (bif decide ((cs.length:Int)<=pc)then(bif decide (x.err=0)then some (.out 0 (cp qo (cy [] ⟨{x with err:=40},f2,pc,st,lo⟩ ())))else some (.out 0 (cp qo (cy [] ⟨x,f2,pc,st,lo⟩ ()))))
   else cA (nh pc (cs.length:Int)) (cA (Px g a) (some (.next (cp rF (cL F.r f F.f F.pc F.st F.lo))))))
  else some (.out 0 (cp qo (cy [] ⟨x,f2,pc,st,lo⟩ ()))):=by
 subst hF;subst ha;subst hc;subst q8
 kernel_rfl
theorem ar2(g:Cg)(x:Rn)(f:Int)(az:List Int)(fn:den pn)(Zl:fn=x.m.fns.getD f.toNat (cE pn))(a:cf rF)(ha:a=cL {x with depth:=nz .i64 x.depth 1} fn fn 0 [] (app az (List.replicate (fn.2.2.2.2.1:Int).toNat (0:Int))))(F:xA)(hF:F=cK (lo1 (BN g) rF qo a)):
 (t73 g (zU [i64,.cq u64] x (f,az,()))).val=cA (nh f (x.m.fns.length:Int)) (bif decide (0<=(fn.1:Int))then none else
  bif decide (x.depth=64)then(bif decide (x.err=0)then some (cp Jw ([],zU [] {x with err:=26} ()))else some (cp Jw ([],zU [] x ())))
  else cA (decide (az.length<=1099511627776)) (cA (decide ((fn.2.2.2.2.1:Int)=fn.2.2.2.2.1)) (cA (decide (0<=(fn.2.2.2.2.1:Int))) (cA (roomy 8 (az.length+(List.replicate (fn.2.2.2.2.1:Int).toNat (0:Int)).length))
   (cA (DT (BN g) rF qo a) (cA (decide (F.st.length<=1099511627776)) (some (cp Jw (F.st,zU [] {F.r with depth:=cz .i64 F.r.depth 1} ()))))))))):=by
 subst hF;subst ha;subst Zl
 kernel_rfl
end Go.Proofs.Vq

noncomputable section
namespace Go.Proofs.Vq
open Go.Ab Go.Ab.Lf
set_option maxRecDepth 100000
theorem ajA(x:xA)(a b:Int):(t232 (cy [i64,i64] x (a,b,()))).val=
 bif bif decide ((x.4.length:Int)<a)then true else decide (1048576<nz .i64 (cz .i64 ((x.4.length:Int)) a) b)then
  bif decide (x.1.5=0)then
   some (cp Dw (false,cy [] ({x with r:={x.r with err:=40}}) ()))
  else
  some (cp Dw (false,cy [] x ()))
 else
 some (cp Dw (true,cy [] x ())):=by kernel_rfl
theorem abE(x:xA)(o a n:Int):(t307 (cy [i64,i64,u64] x (o,a,n,()))).val=
 bif decide (o=32)then
  cA (th (cy [i64,i64] x (0,1,()))) (
  bif (ct (cy [i64,i64] x (0,1,()))).1 then
   cA (nh a (Int.ofNat (List.length (cK (ct (cy [i64,i64] x (0,1,()))).2).lo))) (
   cA (roomy 8 (List.length (cK (ct (cy [i64,i64] x (0,1,()))).2).st+[List.getD (cK (ct (cy [i64,i64] x (0,1,()))).2).lo a.toNat (cE (Ty.int .u64))].length)) (
   some (cp qH (cy [] ({(cK (ct (cy [i64,i64] x (0,1,()))).2)with st:=(app (cK (ct (cy [i64,i64] x (0,1,()))).2).st [List.getD (cK (ct (cy [i64,i64] x (0,1,()))).2).lo a.toNat (cE (Ty.int .u64))])}) ()))))
  else
  some (cp qH (cy [] (cK (ct (cy [i64,i64] x (0,1,()))).2) ())))
 else
 bif decide (o=33)then
  cA (th (cy [i64,i64] x (1,0,()))) (
  bif (ct (cy [i64,i64] x (1,0,()))).1 then
   cA (nh (cz .i64 (Int.ofNat (List.length (cK (ct (cy [i64,i64] x (1,0,()))).2).st)) (1)) (Int.ofNat (List.length (cK (ct (cy [i64,i64] x (1,0,()))).2).st))) (
   cA (n7 (0) (cz .i64 (Int.ofNat (List.length (cK (ct (cy [i64,i64] x (1,0,()))).2).st)) (1)) (Int.ofNat (List.length (cK (ct (cy [i64,i64] x (1,0,()))).2).st))) (
   cA (decide (a=a)) (
   cA (nh a (Int.ofNat (List.length (cK (ct (cy [i64,i64] x (1,0,()))).2).lo))) (
   some (cp qH (cy [] ({(cK (ct (cy [i64,i64] x (1,0,()))).2)with st:=(List.take ((cz .i64 (Int.ofNat (List.length (cK (ct (cy [i64,i64] x (1,0,()))).2).st)) (1)).toNat - (0:Int).toNat) (List.drop (0:Int).toNat (cK (ct (cy [i64,i64] x (1,0,()))).2).st)),lo:=(List.set (cK (ct (cy [i64,i64] x (1,0,()))).2).lo a.toNat (List.getD (cK (ct (cy [i64,i64] x (1,0,()))).2).st (cz .i64 (Int.ofNat (List.length (cK (ct (cy [i64,i64] x (1,0,()))).2).st)) (1)).toNat (cE (Ty.int .u64))))}) ()))))))
  else
  some (cp qH (cy [] (cK (ct (cy [i64,i64] x (1,0,()))).2) ())))
 else
 bif decide (o=34)then
  cA (th (cy [i64,i64] x (1,1,()))) (
  bif (ct (cy [i64,i64] x (1,1,()))).1 then
   cA (nh (cz .i64 (Int.ofNat (List.length (cK (ct (cy [i64,i64] x (1,1,()))).2).st)) (1)) (Int.ofNat (List.length (cK (ct (cy [i64,i64] x (1,1,()))).2).st))) (
   cA (nh a (Int.ofNat (List.length (cK (ct (cy [i64,i64] x (1,1,()))).2).lo))) (
   some (cp qH (cy [] ({(cK (ct (cy [i64,i64] x (1,1,()))).2)with lo:=(List.set (cK (ct (cy [i64,i64] x (1,1,()))).2).lo a.toNat (List.getD (cK (ct (cy [i64,i64] x (1,1,()))).2).st (cz .i64 (Int.ofNat (List.length (cK (ct (cy [i64,i64] x (1,1,()))).2).st)) (1)).toNat (cE (Ty.int .u64))))}) ()))))
  else
  some (cp qH (cy [] (cK (ct (cy [i64,i64] x (1,1,()))).2) ())))
 else
 bif decide (o=35)then
  bif bif decide (a<0)then true else decide ((x.1.m.3.1.length:Int)<=a)then
   bif decide (x.1.5=0)then
    some (cp qH (cy [] ({x with r:={x.r with err:=40}}) ()))
   else
   some (cp qH (cy [] x ()))
  else
  cA (nh a ((x.1.m.3.1.length:Int))) (
  cA (th (cy [i64,i64] x (0,1,()))) (
  bif (ct (cy [i64,i64] x (0,1,()))).1 then
   cA (roomy 8 (List.length (cK (ct (cy [i64,i64] x (0,1,()))).2).st+[x.1.m.3.1.getD a.toNat (cE (Ty.int .u64))].length)) (
   some (cp qH (cy [] ({(cK (ct (cy [i64,i64] x (0,1,()))).2)with st:=(app (cK (ct (cy [i64,i64] x (0,1,()))).2).st [x.1.m.3.1.getD a.toNat (cE (Ty.int .u64))])}) ())))
  else
  some (cp qH (cy [] (cK (ct (cy [i64,i64] x (0,1,()))).2) ()))))
 else
 bif decide (o=36)then
  bif bif decide (a<0)then true else decide ((x.1.m.3.1.length:Int)<=a)then
   bif decide (x.1.5=0)then
    some (cp qH (cy [] ({x with r:={x.r with err:=40}}) ()))
   else
   some (cp qH (cy [] x ()))
  else
  cA (nh a ((x.1.m.3.1.length:Int))) (
  cA (th (cy [i64,i64] x (1,0,()))) (
  bif (ct (cy [i64,i64] x (1,0,()))).1 then
   cA (nh (cz .i64 (Int.ofNat (List.length (cK (ct (cy [i64,i64] x (1,0,()))).2).st)) (1)) (Int.ofNat (List.length (cK (ct (cy [i64,i64] x (1,0,()))).2).st))) (
   cA (n7 (0) (cz .i64 (Int.ofNat (List.length (cK (ct (cy [i64,i64] x (1,0,()))).2).st)) (1)) (Int.ofNat (List.length (cK (ct (cy [i64,i64] x (1,0,()))).2).st))) (
   cA (decide (a=a)) (
   bif bif decide (a<0)then true else decide (Int.ofNat (List.length (cK (ct (cy [i64,i64] x (1,0,()))).2).r.m.s.Jo)<=a)then
    some (cp qH (cy [] ({(cK (ct (cy [i64,i64] x (1,0,()))).2)with st:=(List.take ((cz .i64 (Int.ofNat (List.length (cK (ct (cy [i64,i64] x (1,0,()))).2).st)) (1)).toNat - (0:Int).toNat) (List.drop (0:Int).toNat (cK (ct (cy [i64,i64] x (1,0,()))).2).st))}) ()))
   else
   cA (nh a (Int.ofNat (List.length (cK (ct (cy [i64,i64] x (1,0,()))).2).r.m.s.small))) (
   bif decide (List.getD (cK (ct (cy [i64,i64] x (1,0,()))).2).r.m.s.small a.toNat (cE (Ty.int .i64))=1)then
    cA (nh a (Int.ofNat (List.length (cK (ct (cy [i64,i64] x (1,0,()))).2).r.m.s.Jo))) (
    some (cp qH (cy [] ({(cK (ct (cy [i64,i64] x (1,0,()))).2)with r:={(cK (ct (cy [i64,i64] x (1,0,()))).2).r with m:={(cK (ct (cy [i64,i64] x (1,0,()))).2).r.m with s:={(cK (ct (cy [i64,i64] x (1,0,()))).2).r.m.s with Jo:=(List.set (cK (ct (cy [i64,i64] x (1,0,()))).2).r.m.s.Jo a.toNat (np .u64 (List.getD (cK (ct (cy [i64,i64] x (1,0,()))).2).st (cz .i64 (Int.ofNat (List.length (cK (ct (cy [i64,i64] x (1,0,()))).2).st)) (1)).toNat (cE (Ty.int .u64))) (4294967295)))}}},st:=(List.take ((cz .i64 (Int.ofNat (List.length (cK (ct (cy [i64,i64] x (1,0,()))).2).st)) (1)).toNat - (0:Int).toNat) (List.drop (0:Int).toNat (cK (ct (cy [i64,i64] x (1,0,()))).2).st))}) ())))
   else
   cA (nh a (Int.ofNat (List.length (cK (ct (cy [i64,i64] x (1,0,()))).2).r.m.s.Jo))) (
   some (cp qH (cy [] ({(cK (ct (cy [i64,i64] x (1,0,()))).2)with r:={(cK (ct (cy [i64,i64] x (1,0,()))).2).r with m:={(cK (ct (cy [i64,i64] x (1,0,()))).2).r.m with s:={(cK (ct (cy [i64,i64] x (1,0,()))).2).r.m.s with Jo:=(List.set (cK (ct (cy [i64,i64] x (1,0,()))).2).r.m.s.Jo a.toNat (List.getD (cK (ct (cy [i64,i64] x (1,0,()))).2).st (cz .i64 (Int.ofNat (List.length (cK (ct (cy [i64,i64] x (1,0,()))).2).st)) (1)).toNat (cE (Ty.int .u64))))}}},st:=(List.take ((cz .i64 (Int.ofNat (List.length (cK (ct (cy [i64,i64] x (1,0,()))).2).st)) (1)).toNat - (0:Int).toNat) (List.drop (0:Int).toNat (cK (ct (cy [i64,i64] x (1,0,()))).2).st))}) ())))))))
  else
  some (cp qH (cy [] (cK (ct (cy [i64,i64] x (1,0,()))).2) ()))))
 else
 some (cp qH (cy [] x ())):=by kernel_rfl
theorem JA(x:xA)(o a n:Int):(t236 (cy [i64,i64,u64] x (o,a,n,()))).val=
 bif decide (o=257)then
  bif decide (x.1.2=0)then
   bif decide (x.1.5=0)then
    some (cp pH (cy [] ({x with r:={x.r with err:=27}}) ()))
   else
   some (cp pH (cy [] x ()))
  else
  some (cp pH (cy [] ({x with r:={x.r with fuel:=(cz .i64 x.1.2 (1))}}) ()))
 else
 bif decide (o=256)then
  cA (th (cy [i64,i64] x (nz .i64 a (cb .i64 n),a,()))) (
  bif (ct (cy [i64,i64] x (nz .i64 a (cb .i64 n),a,()))).1 then
   none
  else
  some (cp pH (cy [] (cK (ct (cy [i64,i64] x (nz .i64 a (cb .i64 n),a,()))).2) ())))
 else
 bif decide (o=26)then
  cA (th (cy [i64,i64] x (1,0,()))) (
  bif (ct (cy [i64,i64] x (1,0,()))).1 then
   cA (nh (cz .i64 (Int.ofNat (List.length (cK (ct (cy [i64,i64] x (1,0,()))).2).st)) (1)) (Int.ofNat (List.length (cK (ct (cy [i64,i64] x (1,0,()))).2).st))) (
   cA (n7 (0) (cz .i64 (Int.ofNat (List.length (cK (ct (cy [i64,i64] x (1,0,()))).2).st)) (1)) (Int.ofNat (List.length (cK (ct (cy [i64,i64] x (1,0,()))).2).st))) (
   some (cp pH (cy [] ({(cK (ct (cy [i64,i64] x (1,0,()))).2)with st:=(List.take ((cz .i64 (Int.ofNat (List.length (cK (ct (cy [i64,i64] x (1,0,()))).2).st)) (1)).toNat - (0:Int).toNat) (List.drop (0:Int).toNat (cK (ct (cy [i64,i64] x (1,0,()))).2).st))}) ()))))
  else
  some (cp pH (cy [] (cK (ct (cy [i64,i64] x (1,0,()))).2) ())))
 else
 bif decide (o=27)then
  cA (th (cy [i64,i64] x (3,1,()))) (
  bif (ct (cy [i64,i64] x (3,1,()))).1 then
   cA (nh (cz .i64 (Int.ofNat (List.length (cK (ct (cy [i64,i64] x (3,1,()))).2).st)) (1)) (Int.ofNat (List.length (cK (ct (cy [i64,i64] x (3,1,()))).2).st))) (
   cA (n7 (0) (cz .i64 (Int.ofNat (List.length (cK (ct (cy [i64,i64] x (3,1,()))).2).st)) (1)) (Int.ofNat (List.length (cK (ct (cy [i64,i64] x (3,1,()))).2).st))) (
   cA (nh (cz .i64 (Int.ofNat ((cz .i64 (Int.ofNat (List.length (cK (ct (cy [i64,i64] x (3,1,()))).2).st)) (1)).toNat - (0:Int).toNat)) (1)) (Int.ofNat ((cz .i64 (Int.ofNat (List.length (cK (ct (cy [i64,i64] x (3,1,()))).2).st)) (1)).toNat - (0:Int).toNat))) (
   cA (n7 (0) (cz .i64 (Int.ofNat ((cz .i64 (Int.ofNat (List.length (cK (ct (cy [i64,i64] x (3,1,()))).2).st)) (1)).toNat - (0:Int).toNat)) (1)) (Int.ofNat ((cz .i64 (Int.ofNat (List.length (cK (ct (cy [i64,i64] x (3,1,()))).2).st)) (1)).toNat - (0:Int).toNat))) (
   cA (nh (cz .i64 (Int.ofNat ((cz .i64 (Int.ofNat ((cz .i64 (Int.ofNat (List.length (cK (ct (cy [i64,i64] x (3,1,()))).2).st)) (1)).toNat - (0:Int).toNat)) (1)).toNat - (0:Int).toNat)) (1)) (Int.ofNat ((cz .i64 (Int.ofNat ((cz .i64 (Int.ofNat (List.length (cK (ct (cy [i64,i64] x (3,1,()))).2).st)) (1)).toNat - (0:Int).toNat)) (1)).toNat - (0:Int).toNat))) (
   cA (n7 (0) (cz .i64 (Int.ofNat ((cz .i64 (Int.ofNat ((cz .i64 (Int.ofNat (List.length (cK (ct (cy [i64,i64] x (3,1,()))).2).st)) (1)).toNat - (0:Int).toNat)) (1)).toNat - (0:Int).toNat)) (1)) (Int.ofNat ((cz .i64 (Int.ofNat ((cz .i64 (Int.ofNat (List.length (cK (ct (cy [i64,i64] x (3,1,()))).2).st)) (1)).toNat - (0:Int).toNat)) (1)).toNat - (0:Int).toNat))) (
   bif decide (cb .u32 (List.getD (cK (ct (cy [i64,i64] x (3,1,()))).2).st (cz .i64 (Int.ofNat (List.length (cK (ct (cy [i64,i64] x (3,1,()))).2).st)) (1)).toNat (cE (Ty.int .u64)))=0)then
    cA (roomy 8 ((List.take ((cz .i64 (Int.ofNat ((cz .i64 (Int.ofNat ((cz .i64 (Int.ofNat (List.length (cK (ct (cy [i64,i64] x (3,1,()))).2).st)) (1)).toNat - (0:Int).toNat)) (1)).toNat - (0:Int).toNat)) (1)).toNat - (0:Int).toNat) (List.drop ((0:Int).toNat+(0:Int).toNat+(0:Int).toNat) (cK (ct (cy [i64,i64] x (3,1,()))).2).st)).length+[List.getD (cK (ct (cy [i64,i64] x (3,1,()))).2).st ((0:Int).toNat+(cz .i64 (Int.ofNat ((cz .i64 (Int.ofNat (List.length (cK (ct (cy [i64,i64] x (3,1,()))).2).st)) (1)).toNat - (0:Int).toNat)) (1)).toNat) (cE (Ty.int .u64))].length)) (
    some (cp pH (cy [] ({(cK (ct (cy [i64,i64] x (3,1,()))).2)with st:=(app (List.take ((cz .i64 (Int.ofNat ((cz .i64 (Int.ofNat ((cz .i64 (Int.ofNat (List.length (cK (ct (cy [i64,i64] x (3,1,()))).2).st)) (1)).toNat - (0:Int).toNat)) (1)).toNat - (0:Int).toNat)) (1)).toNat - (0:Int).toNat) (List.drop ((0:Int).toNat+(0:Int).toNat+(0:Int).toNat) (cK (ct (cy [i64,i64] x (3,1,()))).2).st)) [List.getD (cK (ct (cy [i64,i64] x (3,1,()))).2).st ((0:Int).toNat+(cz .i64 (Int.ofNat ((cz .i64 (Int.ofNat (List.length (cK (ct (cy [i64,i64] x (3,1,()))).2).st)) (1)).toNat - (0:Int).toNat)) (1)).toNat) (cE (Ty.int .u64))])}) ())))
   else
   cA (roomy 8 ((List.take ((cz .i64 (Int.ofNat ((cz .i64 (Int.ofNat ((cz .i64 (Int.ofNat (List.length (cK (ct (cy [i64,i64] x (3,1,()))).2).st)) (1)).toNat - (0:Int).toNat)) (1)).toNat - (0:Int).toNat)) (1)).toNat - (0:Int).toNat) (List.drop ((0:Int).toNat+(0:Int).toNat+(0:Int).toNat) (cK (ct (cy [i64,i64] x (3,1,()))).2).st)).length+[List.getD (cK (ct (cy [i64,i64] x (3,1,()))).2).st ((0:Int).toNat+(0:Int).toNat+(cz .i64 (Int.ofNat ((cz .i64 (Int.ofNat ((cz .i64 (Int.ofNat (List.length (cK (ct (cy [i64,i64] x (3,1,()))).2).st)) (1)).toNat - (0:Int).toNat)) (1)).toNat - (0:Int).toNat)) (1)).toNat) (cE (Ty.int .u64))].length)) (
   some (cp pH (cy [] ({(cK (ct (cy [i64,i64] x (3,1,()))).2)with st:=(app (List.take ((cz .i64 (Int.ofNat ((cz .i64 (Int.ofNat ((cz .i64 (Int.ofNat (List.length (cK (ct (cy [i64,i64] x (3,1,()))).2).st)) (1)).toNat - (0:Int).toNat)) (1)).toNat - (0:Int).toNat)) (1)).toNat - (0:Int).toNat) (List.drop ((0:Int).toNat+(0:Int).toNat+(0:Int).toNat) (cK (ct (cy [i64,i64] x (3,1,()))).2).st)) [List.getD (cK (ct (cy [i64,i64] x (3,1,()))).2).st ((0:Int).toNat+(0:Int).toNat+(cz .i64 (Int.ofNat ((cz .i64 (Int.ofNat ((cz .i64 (Int.ofNat (List.length (cK (ct (cy [i64,i64] x (3,1,()))).2).st)) (1)).toNat - (0:Int).toNat)) (1)).toNat - (0:Int).toNat)) (1)).toNat) (cE (Ty.int .u64))])}) ())))))))))
  else
  some (cp pH (cy [] (cK (ct (cy [i64,i64] x (3,1,()))).2) ())))
 else
 bif decide (o=66)then
  cA (th (cy [i64,i64] x (0,1,()))) (
  bif (ct (cy [i64,i64] x (0,1,()))).1 then
   cA (roomy 8 (List.length (cK (ct (cy [i64,i64] x (0,1,()))).2).st+[n].length)) (
   some (cp pH (cy [] ({(cK (ct (cy [i64,i64] x (0,1,()))).2)with st:=(app (cK (ct (cy [i64,i64] x (0,1,()))).2).st [n])}) ())))
  else
  some (cp pH (cy [] (cK (ct (cy [i64,i64] x (0,1,()))).2) ())))
 else
 bif bif decide (32<=o)then decide (o<=36)else false then
  cA (aeH (cy [i64,i64,u64] x (o,a,n,()))) (
  some (cp pH (cy [] (cK (aeI (cy [i64,i64,u64] x (o,a,n,())))) ())))
 else
 bif bif decide (40<=o)then decide (o<=64)else false then
  cA (aja (cy [i64,i64,u64] x (o,a,n,()))) (
  some (cp pH (cy [] (cK (ajb (cy [i64,i64,u64] x (o,a,n,())))) ())))
 else
 cA (xz (o,())) (
 bif decide ((m11 (o,())).1=1)then
  cA (th (cy [i64,i64] x (1,1,()))) (
  bif (ct (cy [i64,i64] x (1,1,()))).1 then
   cA (nh (cz .i64 (Int.ofNat (List.length (cK (ct (cy [i64,i64] x (1,1,()))).2).st)) (1)) (Int.ofNat (List.length (cK (ct (cy [i64,i64] x (1,1,()))).2).st))) (
   cA (n7 (0) (cz .i64 (Int.ofNat (List.length (cK (ct (cy [i64,i64] x (1,1,()))).2).st)) (1)) (Int.ofNat (List.length (cK (ct (cy [i64,i64] x (1,1,()))).2).st))) (
   cA (decide (o=o)) (
   cA (VV (o,List.getD (cK (ct (cy [i64,i64] x (1,1,()))).2).st (cz .i64 (Int.ofNat (List.length (cK (ct (cy [i64,i64] x (1,1,()))).2).st)) (1)).toNat (cE (Ty.int .u64)),())) (
   bif bif !decide ((m13 (o,List.getD (cK (ct (cy [i64,i64] x (1,1,()))).2).st (cz .i64 (Int.ofNat (List.length (cK (ct (cy [i64,i64] x (1,1,()))).2).st)) (1)).toNat (cE (Ty.int .u64)),())).2.1=0)then decide ((cK (ct (cy [i64,i64] x (1,1,()))).2).r.err=0)else false then
    cA (roomy 8 ((List.take ((cz .i64 (Int.ofNat (List.length (cK (ct (cy [i64,i64] x (1,1,()))).2).st)) (1)).toNat - (0:Int).toNat) (List.drop (0:Int).toNat (cK (ct (cy [i64,i64] x (1,1,()))).2).st)).length+[(m13 (o,List.getD (cK (ct (cy [i64,i64] x (1,1,()))).2).st (cz .i64 (Int.ofNat (List.length (cK (ct (cy [i64,i64] x (1,1,()))).2).st)) (1)).toNat (cE (Ty.int .u64)),())).1].length)) (
    some (cp pH (cy [] ({(cK (ct (cy [i64,i64] x (1,1,()))).2)with r:={(cK (ct (cy [i64,i64] x (1,1,()))).2).r with err:=(m13 (o,List.getD (cK (ct (cy [i64,i64] x (1,1,()))).2).st (cz .i64 (Int.ofNat (List.length (cK (ct (cy [i64,i64] x (1,1,()))).2).st)) (1)).toNat (cE (Ty.int .u64)),())).2.1},st:=(app (List.take ((cz .i64 (Int.ofNat (List.length (cK (ct (cy [i64,i64] x (1,1,()))).2).st)) (1)).toNat - (0:Int).toNat) (List.drop (0:Int).toNat (cK (ct (cy [i64,i64] x (1,1,()))).2).st)) [(m13 (o,List.getD (cK (ct (cy [i64,i64] x (1,1,()))).2).st (cz .i64 (Int.ofNat (List.length (cK (ct (cy [i64,i64] x (1,1,()))).2).st)) (1)).toNat (cE (Ty.int .u64)),())).1])}) ())))
   else
   cA (roomy 8 ((List.take ((cz .i64 (Int.ofNat (List.length (cK (ct (cy [i64,i64] x (1,1,()))).2).st)) (1)).toNat - (0:Int).toNat) (List.drop (0:Int).toNat (cK (ct (cy [i64,i64] x (1,1,()))).2).st)).length+[(m13 (o,List.getD (cK (ct (cy [i64,i64] x (1,1,()))).2).st (cz .i64 (Int.ofNat (List.length (cK (ct (cy [i64,i64] x (1,1,()))).2).st)) (1)).toNat (cE (Ty.int .u64)),())).1].length)) (
   some (cp pH (cy [] ({(cK (ct (cy [i64,i64] x (1,1,()))).2)with st:=(app (List.take ((cz .i64 (Int.ofNat (List.length (cK (ct (cy [i64,i64] x (1,1,()))).2).st)) (1)).toNat - (0:Int).toNat) (List.drop (0:Int).toNat (cK (ct (cy [i64,i64] x (1,1,()))).2).st)) [(m13 (o,List.getD (cK (ct (cy [i64,i64] x (1,1,()))).2).st (cz .i64 (Int.ofNat (List.length (cK (ct (cy [i64,i64] x (1,1,()))).2).st)) (1)).toNat (cE (Ty.int .u64)),())).1])}) ())))))))
  else
  some (cp pH (cy [] (cK (ct (cy [i64,i64] x (1,1,()))).2) ())))
 else
 cA (th (cy [i64,i64] x (2,1,()))) (
 bif (ct (cy [i64,i64] x (2,1,()))).1 then
  cA (nh (cz .i64 (Int.ofNat (List.length (cK (ct (cy [i64,i64] x (2,1,()))).2).st)) (1)) (Int.ofNat (List.length (cK (ct (cy [i64,i64] x (2,1,()))).2).st))) (
  cA (n7 (0) (cz .i64 (Int.ofNat (List.length (cK (ct (cy [i64,i64] x (2,1,()))).2).st)) (1)) (Int.ofNat (List.length (cK (ct (cy [i64,i64] x (2,1,()))).2).st))) (
  cA (nh (cz .i64 (Int.ofNat ((cz .i64 (Int.ofNat (List.length (cK (ct (cy [i64,i64] x (2,1,()))).2).st)) (1)).toNat - (0:Int).toNat)) (1)) (Int.ofNat ((cz .i64 (Int.ofNat (List.length (cK (ct (cy [i64,i64] x (2,1,()))).2).st)) (1)).toNat - (0:Int).toNat))) (
  cA (n7 (0) (cz .i64 (Int.ofNat ((cz .i64 (Int.ofNat (List.length (cK (ct (cy [i64,i64] x (2,1,()))).2).st)) (1)).toNat - (0:Int).toNat)) (1)) (Int.ofNat ((cz .i64 (Int.ofNat (List.length (cK (ct (cy [i64,i64] x (2,1,()))).2).st)) (1)).toNat - (0:Int).toNat))) (
  cA (G2 (o,List.getD (cK (ct (cy [i64,i64] x (2,1,()))).2).st ((0:Int).toNat+(cz .i64 (Int.ofNat ((cz .i64 (Int.ofNat (List.length (cK (ct (cy [i64,i64] x (2,1,()))).2).st)) (1)).toNat - (0:Int).toNat)) (1)).toNat) (cE (Ty.int .u64)),List.getD (cK (ct (cy [i64,i64] x (2,1,()))).2).st (cz .i64 (Int.ofNat (List.length (cK (ct (cy [i64,i64] x (2,1,()))).2).st)) (1)).toNat (cE (Ty.int .u64)),())) (
  bif bif !decide ((m12 (o,List.getD (cK (ct (cy [i64,i64] x (2,1,()))).2).st ((0:Int).toNat+(cz .i64 (Int.ofNat ((cz .i64 (Int.ofNat (List.length (cK (ct (cy [i64,i64] x (2,1,()))).2).st)) (1)).toNat - (0:Int).toNat)) (1)).toNat) (cE (Ty.int .u64)),List.getD (cK (ct (cy [i64,i64] x (2,1,()))).2).st (cz .i64 (Int.ofNat (List.length (cK (ct (cy [i64,i64] x (2,1,()))).2).st)) (1)).toNat (cE (Ty.int .u64)),())).2.1=0)then decide ((cK (ct (cy [i64,i64] x (2,1,()))).2).r.err=0)else false then
   cA (roomy 8 ((List.take ((cz .i64 (Int.ofNat ((cz .i64 (Int.ofNat (List.length (cK (ct (cy [i64,i64] x (2,1,()))).2).st)) (1)).toNat - (0:Int).toNat)) (1)).toNat - (0:Int).toNat) (List.drop ((0:Int).toNat+(0:Int).toNat) (cK (ct (cy [i64,i64] x (2,1,()))).2).st)).length+[(m12 (o,List.getD (cK (ct (cy [i64,i64] x (2,1,()))).2).st ((0:Int).toNat+(cz .i64 (Int.ofNat ((cz .i64 (Int.ofNat (List.length (cK (ct (cy [i64,i64] x (2,1,()))).2).st)) (1)).toNat - (0:Int).toNat)) (1)).toNat) (cE (Ty.int .u64)),List.getD (cK (ct (cy [i64,i64] x (2,1,()))).2).st (cz .i64 (Int.ofNat (List.length (cK (ct (cy [i64,i64] x (2,1,()))).2).st)) (1)).toNat (cE (Ty.int .u64)),())).1].length)) (
   some (cp pH (cy [] ({(cK (ct (cy [i64,i64] x (2,1,()))).2)with r:={(cK (ct (cy [i64,i64] x (2,1,()))).2).r with err:=(m12 (o,List.getD (cK (ct (cy [i64,i64] x (2,1,()))).2).st ((0:Int).toNat+(cz .i64 (Int.ofNat ((cz .i64 (Int.ofNat (List.length (cK (ct (cy [i64,i64] x (2,1,()))).2).st)) (1)).toNat - (0:Int).toNat)) (1)).toNat) (cE (Ty.int .u64)),List.getD (cK (ct (cy [i64,i64] x (2,1,()))).2).st (cz .i64 (Int.ofNat (List.length (cK (ct (cy [i64,i64] x (2,1,()))).2).st)) (1)).toNat (cE (Ty.int .u64)),())).2.1},st:=(app (List.take ((cz .i64 (Int.ofNat ((cz .i64 (Int.ofNat (List.length (cK (ct (cy [i64,i64] x (2,1,()))).2).st)) (1)).toNat - (0:Int).toNat)) (1)).toNat - (0:Int).toNat) (List.drop ((0:Int).toNat+(0:Int).toNat) (cK (ct (cy [i64,i64] x (2,1,()))).2).st)) [(m12 (o,List.getD (cK (ct (cy [i64,i64] x (2,1,()))).2).st ((0:Int).toNat+(cz .i64 (Int.ofNat ((cz .i64 (Int.ofNat (List.length (cK (ct (cy [i64,i64] x (2,1,()))).2).st)) (1)).toNat - (0:Int).toNat)) (1)).toNat) (cE (Ty.int .u64)),List.getD (cK (ct (cy [i64,i64] x (2,1,()))).2).st (cz .i64 (Int.ofNat (List.length (cK (ct (cy [i64,i64] x (2,1,()))).2).st)) (1)).toNat (cE (Ty.int .u64)),())).1])}) ())))
  else
  cA (roomy 8 ((List.take ((cz .i64 (Int.ofNat ((cz .i64 (Int.ofNat (List.length (cK (ct (cy [i64,i64] x (2,1,()))).2).st)) (1)).toNat - (0:Int).toNat)) (1)).toNat - (0:Int).toNat) (List.drop ((0:Int).toNat+(0:Int).toNat) (cK (ct (cy [i64,i64] x (2,1,()))).2).st)).length+[(m12 (o,List.getD (cK (ct (cy [i64,i64] x (2,1,()))).2).st ((0:Int).toNat+(cz .i64 (Int.ofNat ((cz .i64 (Int.ofNat (List.length (cK (ct (cy [i64,i64] x (2,1,()))).2).st)) (1)).toNat - (0:Int).toNat)) (1)).toNat) (cE (Ty.int .u64)),List.getD (cK (ct (cy [i64,i64] x (2,1,()))).2).st (cz .i64 (Int.ofNat (List.length (cK (ct (cy [i64,i64] x (2,1,()))).2).st)) (1)).toNat (cE (Ty.int .u64)),())).1].length)) (
  some (cp pH (cy [] ({(cK (ct (cy [i64,i64] x (2,1,()))).2)with st:=(app (List.take ((cz .i64 (Int.ofNat ((cz .i64 (Int.ofNat (List.length (cK (ct (cy [i64,i64] x (2,1,()))).2).st)) (1)).toNat - (0:Int).toNat)) (1)).toNat - (0:Int).toNat) (List.drop ((0:Int).toNat+(0:Int).toNat) (cK (ct (cy [i64,i64] x (2,1,()))).2).st)) [(m12 (o,List.getD (cK (ct (cy [i64,i64] x (2,1,()))).2).st ((0:Int).toNat+(cz .i64 (Int.ofNat ((cz .i64 (Int.ofNat (List.length (cK (ct (cy [i64,i64] x (2,1,()))).2).st)) (1)).toNat - (0:Int).toNat)) (1)).toNat) (cE (Ty.int .u64)),List.getD (cK (ct (cy [i64,i64] x (2,1,()))).2).st (cz .i64 (Int.ofNat (List.length (cK (ct (cy [i64,i64] x (2,1,()))).2).st)) (1)).toNat (cE (Ty.int .u64)),())).1])}) ()))))))))
 else
 some (cp pH (cy [] (cK (ct (cy [i64,i64] x (2,1,()))).2) ())))):=by kernel_rfl
theorem abF(g:Cg)(x:xA)(o a n:Int):(t134 g (cy [i64,i64,u64] x (o,a,n,()))).val=
 bif decide (o=0)then
  bif decide (x.1.5=0)then
   some (cp sj (cy [] ({x with r:={x.r with err:=20}}) ()))
  else
  some (cp sj (cy [] x ()))
 else
 bif decide (o=12)then
  cA (aeJ (cy [i64] x (a,()))) (
  some (cp sj (cy [] (cK (aeK (cy [i64] x (a,())))) ())))
 else
 bif decide (o=13)then
  cA (th (cy [i64,i64] x (1,0,()))) (
  bif (ct (cy [i64,i64] x (1,0,()))).1 then
   cA (nh (cz .i64 (Int.ofNat (List.length (cK (ct (cy [i64,i64] x (1,0,()))).2).st)) (1)) (Int.ofNat (List.length (cK (ct (cy [i64,i64] x (1,0,()))).2).st))) (
   cA (n7 (0) (cz .i64 (Int.ofNat (List.length (cK (ct (cy [i64,i64] x (1,0,()))).2).st)) (1)) (Int.ofNat (List.length (cK (ct (cy [i64,i64] x (1,0,()))).2).st))) (
   bif !decide (cb .u32 (List.getD (cK (ct (cy [i64,i64] x (1,0,()))).2).st (cz .i64 (Int.ofNat (List.length (cK (ct (cy [i64,i64] x (1,0,()))).2).st)) (1)).toNat (cE (Ty.int .u64)))=0)then
    cA (aeJ (cy [i64] ({(cK (ct (cy [i64,i64] x (1,0,()))).2)with st:=(List.take ((cz .i64 (Int.ofNat (List.length (cK (ct (cy [i64,i64] x (1,0,()))).2).st)) (1)).toNat - (0:Int).toNat) (List.drop (0:Int).toNat (cK (ct (cy [i64,i64] x (1,0,()))).2).st))}) (a,()))) (
    some (cp sj (cy [] (cK (aeK (cy [i64] ({(cK (ct (cy [i64,i64] x (1,0,()))).2)with st:=(List.take ((cz .i64 (Int.ofNat (List.length (cK (ct (cy [i64,i64] x (1,0,()))).2).st)) (1)).toNat - (0:Int).toNat) (List.drop (0:Int).toNat (cK (ct (cy [i64,i64] x (1,0,()))).2).st))}) (a,())))) ())))
   else
   some (cp sj (cy [] ({(cK (ct (cy [i64,i64] x (1,0,()))).2)with pc:=(nz .i64 (cK (ct (cy [i64,i64] x (1,0,()))).2).pc (1)),st:=(List.take ((cz .i64 (Int.ofNat (List.length (cK (ct (cy [i64,i64] x (1,0,()))).2).st)) (1)).toNat - (0:Int).toNat) (List.drop (0:Int).toNat (cK (ct (cy [i64,i64] x (1,0,()))).2).st))}) ()))))
  else
  some (cp sj (cy [] (cK (ct (cy [i64,i64] x (1,0,()))).2) ())))
 else
 bif decide (o=14)then
  cA (th (cy [i64,i64] x (1,0,()))) (
  bif (ct (cy [i64,i64] x (1,0,()))).1 then
   cA (nh (cz .i64 (Int.ofNat (List.length (cK (ct (cy [i64,i64] x (1,0,()))).2).st)) (1)) (Int.ofNat (List.length (cK (ct (cy [i64,i64] x (1,0,()))).2).st))) (
   cA (n7 (0) (cz .i64 (Int.ofNat (List.length (cK (ct (cy [i64,i64] x (1,0,()))).2).st)) (1)) (Int.ofNat (List.length (cK (ct (cy [i64,i64] x (1,0,()))).2).st))) (
   cA (decide ((cK (ct (cy [i64,i64] x (1,0,()))).2).pc=(cK (ct (cy [i64,i64] x (1,0,()))).2).pc)) (
   cA (decide (a=a)) (
   some (cp sj (cy [] ({(cK (ct (cy [i64,i64] x (1,0,()))).2)with pc:=(nz .i64 (cK (ct (cy [i64,i64] x (1,0,()))).2).pc (nz .i64 (1) (cb .i64 (min (cb .u64 (cb .u32 (List.getD (cK (ct (cy [i64,i64] x (1,0,()))).2).st (cz .i64 (Int.ofNat (List.length (cK (ct (cy [i64,i64] x (1,0,()))).2).st)) (1)).toNat (cE (Ty.int .u64))))) (cb .u64 a))))),st:=(List.take ((cz .i64 (Int.ofNat (List.length (cK (ct (cy [i64,i64] x (1,0,()))).2).st)) (1)).toNat - (0:Int).toNat) (List.drop (0:Int).toNat (cK (ct (cy [i64,i64] x (1,0,()))).2).st))}) ()))))))
  else
  some (cp sj (cy [] (cK (ct (cy [i64,i64] x (1,0,()))).2) ())))
 else
 bif decide (o=15)then
  cA (th (cy [i64,i64] x (x.2.2.2.2.1,0,()))) (
  bif (ct (cy [i64,i64] x (x.2.2.2.2.1,0,()))).1 then
   cA (n7 (cz .i64 (Int.ofNat (List.length (cK (ct (cy [i64,i64] x (x.2.2.2.2.1,0,()))).2).st)) (cK (ct (cy [i64,i64] x (x.2.2.2.2.1,0,()))).2).f.2.2.2.1) (Int.ofNat (List.length (cK (ct (cy [i64,i64] x (x.2.2.2.2.1,0,()))).2).st)) (Int.ofNat (List.length (cK (ct (cy [i64,i64] x (x.2.2.2.2.1,0,()))).2).st))) (
   some (cp sj (cy [] ({(cK (ct (cy [i64,i64] x (x.2.2.2.2.1,0,()))).2)with pc:=(-1),st:=(List.take ((Int.ofNat (List.length (cK (ct (cy [i64,i64] x (x.2.2.2.2.1,0,()))).2).st)).toNat - (cz .i64 (Int.ofNat (List.length (cK (ct (cy [i64,i64] x (x.2.2.2.2.1,0,()))).2).st)) (cK (ct (cy [i64,i64] x (x.2.2.2.2.1,0,()))).2).f.2.2.2.1).toNat) (List.drop (cz .i64 (Int.ofNat (List.length (cK (ct (cy [i64,i64] x (x.2.2.2.2.1,0,()))).2).st)) (cK (ct (cy [i64,i64] x (x.2.2.2.2.1,0,()))).2).f.2.2.2.1).toNat (cK (ct (cy [i64,i64] x (x.2.2.2.2.1,0,()))).2).st))}) ())))
  else
  some (cp sj (cy [] (cK (ct (cy [i64,i64] x (x.2.2.2.2.1,0,()))).2) ())))
 else
 bif decide (o=16)then
  cA (aji g (cy [i64] x (a,()))) (
  some (cp sj (cy [] (cK (ajj g (cy [i64] x (a,())))) ())))
 else
 bif decide (o=17)then
  cA (ajl g (cy [i64] x (a,()))) (
  some (cp sj (cy [] (cK (ajm g (cy [i64] x (a,())))) ())))
 else
 cA (Ej (cy [i64,i64,u64] x (o,a,n,()))) (
 some (cp sj (cy [] ({(cK (Dx (cy [i64,i64,u64] x (o,a,n,()))))with pc:=(nz .i64 (cK (Dx (cy [i64,i64,u64] x (o,a,n,())))).pc (1))}) ()))):=by kernel_rfl
end Go.Proofs.Vq

noncomputable section
namespace Go.Proofs.Vq
open Go.Ab Go.Ab.Lf
set_option maxRecDepth 100000
theorem abG(l:List Int)(n i:Int):(Du (cp xY (l,n,i,()))).val=
 bif decide (i<n)then
  cA (nh i ((l.length:Int))) (
  bif bif !decide (l.getD i.toNat (cE (Ty.int .i64))=127)then !decide (l.getD i.toNat (cE (Ty.int .i64))=126)else false then
   some (.out 1 (cp uv (false,())))
  else
  some (.next (cp xY (l,n,nz .i64 i (1),()))))
 else
 some (.out 0 (cp vF (()))):=by kernel_rfl
theorem ar3(l:List Int):(t83 (l,())).val=
 cA (HK Du [(Ty.int .i64).cq,Ty.int .i64,Ty.int .i64] [] [Ty.bool] (l,(l.length:Int),0,())) (
 bif Fk Du [(Ty.int .i64).cq,Ty.int .i64,Ty.int .i64] (l,(l.length:Int),0,())then
  some (cp Jl (true,()))
 else
 some (cp Jl ((lo1 Du [(Ty.int .i64).cq,Ty.int .i64,Ty.int .i64] [Ty.bool] (l,(l.length:Int),0,())).1,()))):=by kernel_rfl
theorem ajB(o:Int):(t245 (o,())).val=
 bif decide (o=0)then
  some (cp ou (true,()))
 else
 bif decide (o=12)then
  some (cp ou (true,()))
 else
 bif decide (o=257)then
  some (cp ou (true,()))
 else
 bif decide (o=13)then
  some (cp ou (true,()))
 else
 bif decide (o=14)then
  some (cp ou (true,()))
 else
 bif decide (o=26)then
  some (cp ou (true,()))
 else
 bif decide (o=33)then
  some (cp ou (true,()))
 else
 bif decide (o=36)then
  some (cp ou (true,()))
 else
 bif decide (o=27)then
  some (cp ou (true,()))
 else
 bif decide (o=32)then
  some (cp ou (true,()))
 else
 bif decide (o=35)then
  some (cp ou (true,()))
 else
 bif decide (o=63)then
  some (cp ou (true,()))
 else
 bif decide (o=66)then
  some (cp ou (true,()))
 else
 bif decide (o=34)then
  some (cp ou (true,()))
 else
 bif decide (o=64)then
  some (cp ou (true,()))
 else
 bif decide (o=40)then
  some (cp ou (true,()))
 else
 bif decide (o=41)then
  some (cp ou (true,()))
 else
 bif bif decide (44<=o)then decide (o<=53)else false then
  some (cp ou (true,()))
 else
 bif decide (o=54)then
  some (cp ou (true,()))
 else
 bif decide (o=55)then
  some (cp ou (true,()))
 else
 bif bif decide (58<=o)then decide (o<=62)else false then
  some (cp ou (true,()))
 else
 cA (xz (o,())) (
 bif decide (0<(m11 (o,())).1)then
  cA (xz (o,())) (
  some (cp ou (true,())))
 else
 some (cp ou (bif decide (o=15)then true else bif decide (o=16)then true else bif decide (o=17)then true else decide (o=256),()))):=by kernel_rfl
theorem ajC(ss:List (den nd))(fs:List (den pn))(p0 p1 p2 p3 p4:Int)(cs:List (den oi))(ms:List Int)(t o a n:Int):(t141 (ss,fs,p0,p1,p2,p3,p4,cs,ms,t,o,a,n,())).val=
 bif decide (o=12)then
  some (cp sZ (bif decide (0<=a)then decide (a<(cs.length:Int))else false,()))
 else
 bif decide (o=13)then
  some (cp sZ (bif decide (0<=a)then decide (a<(cs.length:Int))else false,()))
 else
 bif decide (o=14)then
  some (cp sZ (bif decide (0<=a)then decide (a<cz .i64 (cz .i64 ((cs.length:Int)) t) (1))else false,()))
 else
 bif decide (o=16)then
  some (cp sZ (bif decide (0<=a)then decide (a<(fs.length:Int))else false,()))
 else
 bif decide (o=17)then
  some (cp sZ (bif decide (0<=a)then decide (a<(ss.length:Int))else false,()))
 else
 bif decide (o=32)then
  some (cp sZ (bif decide (0<=a)then decide (a<nz .i64 p2 p4)else false,()))
 else
 bif decide (o=33)then
  some (cp sZ (bif decide (0<=a)then decide (a<nz .i64 p2 p4)else false,()))
 else
 bif decide (o=34)then
  some (cp sZ (bif decide (0<=a)then decide (a<nz .i64 p2 p4)else false,()))
 else
 bif decide (o=35)then
  some (cp sZ (decide (0<=a),()))
 else
 bif decide (o=36)then
  some (cp sZ (decide (0<=a),()))
 else
 bif decide (o=256)then
  some (cp sZ (bif decide (0<=a)then bif decide (a<=1048576)then decide (n<=1048576)else false else false,()))
 else
 cA (YC (o,())) (
 some (cp sZ ((YD (o,())).1,()))):=by kernel_rfl
theorem abH(p0 p1 p2 p3 p4:Int)(cs:List (den oi))(ms:List Int)(ss:List (den nd))(fs:List (den pn))(ds:List (den oi))(n i:Int):(Dv (cp xZ (p0,p1,p2,p3,p4,cs,ms,ss,fs,ds,n,i,()))).val=
 bif decide (i<n)then
  cA (nh i ((ds.length:Int))) (
  cA (YG (ss,fs,p0,p1,p2,p3,p4,cs,ms,i,(ds.getD i.toNat (cE ((Ty.int .i64).pair ((Ty.int .i64).pair (Ty.int .u64))))).1,(ds.getD i.toNat (cE ((Ty.int .i64).pair ((Ty.int .i64).pair (Ty.int .u64))))).2.1,(ds.getD i.toNat (cE ((Ty.int .i64).pair ((Ty.int .i64).pair (Ty.int .u64))))).2.2,())) (
  bif !(YH (ss,fs,p0,p1,p2,p3,p4,cs,ms,i,(ds.getD i.toNat (cE ((Ty.int .i64).pair ((Ty.int .i64).pair (Ty.int .u64))))).1,(ds.getD i.toNat (cE ((Ty.int .i64).pair ((Ty.int .i64).pair (Ty.int .u64))))).2.1,(ds.getD i.toNat (cE ((Ty.int .i64).pair ((Ty.int .i64).pair (Ty.int .u64))))).2.2,())).1 then
   some (.out 1 (cp uw (false,())))
  else
  some (.next (cp xZ (p0,p1,p2,p3,p4,cs,ms,ss,fs,ds,n,nz .i64 i (1),())))))
 else
 some (.out 0 (cp vG (()))):=by kernel_rfl
theorem ar4(ss:List (den nd))(fs:List (den pn))(p0 p1 p2 p3 p4:Int)(cs:List (den oi))(ms:List Int):(t84 (ss,fs,p0,p1,p2,p3,p4,cs,ms,())).val=
 bif bif decide (p0<(-1))then true else bif decide (p1<0)then true else bif decide ((ss.length:Int)<=p1)then true else bif decide (p4<0)then true else bif decide (4096<p4)then true else decide (p0=(-1)) ^^ decide (0<(cs.length:Int))then
  some (cp BJ (false,()))
 else
 cA (nh p1 ((ss.length:Int))) (
 bif bif !decide (p2=Int.ofNat (List.length (ss.getD p1.toNat (cE ((Ty.int .i64).cq.pair (Ty.int .i64).cq))).1))then true else !decide (p3=Int.ofNat (List.length (ss.getD p1.toNat (cE ((Ty.int .i64).cq.pair (Ty.int .i64).cq))).2))then
  some (cp BJ (false,()))
 else
 cA (HK Dv [Ty.int .i64,Ty.int .i64,Ty.int .i64,Ty.int .i64,Ty.int .i64,((Ty.int .i64).pair ((Ty.int .i64).pair (Ty.int .u64))).cq,(Ty.int .i64).cq,((Ty.int .i64).cq.pair (Ty.int .i64).cq).cq,((Ty.int .i64).pair ((Ty.int .i64).pair ((Ty.int .i64).pair ((Ty.int .i64).pair ((Ty.int .i64).pair (((Ty.int .i64).pair ((Ty.int .i64).pair (Ty.int .u64))).cq.pair (Ty.int .i64).cq)))))).cq,((Ty.int .i64).pair ((Ty.int .i64).pair (Ty.int .u64))).cq,Ty.int .i64,Ty.int .i64] [] [Ty.bool] (p0,p1,p2,p3,p4,cs,ms,ss,fs,cs,(cs.length:Int),0,())) (
 bif Fk Dv [Ty.int .i64,Ty.int .i64,Ty.int .i64,Ty.int .i64,Ty.int .i64,((Ty.int .i64).pair ((Ty.int .i64).pair (Ty.int .u64))).cq,(Ty.int .i64).cq,((Ty.int .i64).cq.pair (Ty.int .i64).cq).cq,((Ty.int .i64).pair ((Ty.int .i64).pair ((Ty.int .i64).pair ((Ty.int .i64).pair ((Ty.int .i64).pair (((Ty.int .i64).pair ((Ty.int .i64).pair (Ty.int .u64))).cq.pair (Ty.int .i64).cq)))))).cq,((Ty.int .i64).pair ((Ty.int .i64).pair (Ty.int .u64))).cq,Ty.int .i64,Ty.int .i64] (p0,p1,p2,p3,p4,cs,ms,ss,fs,cs,(cs.length:Int),0,())then
  some (cp BJ (true,()))
 else
 some (cp BJ ((lo1 Dv [Ty.int .i64,Ty.int .i64,Ty.int .i64,Ty.int .i64,Ty.int .i64,((Ty.int .i64).pair ((Ty.int .i64).pair (Ty.int .u64))).cq,(Ty.int .i64).cq,((Ty.int .i64).cq.pair (Ty.int .i64).cq).cq,((Ty.int .i64).pair ((Ty.int .i64).pair ((Ty.int .i64).pair ((Ty.int .i64).pair ((Ty.int .i64).pair (((Ty.int .i64).pair ((Ty.int .i64).pair (Ty.int .u64))).cq.pair (Ty.int .i64).cq)))))).cq,((Ty.int .i64).pair ((Ty.int .i64).pair (Ty.int .u64))).cq,Ty.int .i64,Ty.int .i64] [Ty.bool] (p0,p1,p2,p3,p4,cs,ms,ss,fs,cs,(cs.length:Int),0,())).1,())))):=by kernel_rfl
theorem abI(ss:List (den nd))(fs:List (den pn))(l:List (den nd))(n i:Int):(f340 (cp qX (ss,fs,l,n,i,()))).val=
 bif decide (i<n)then
  cA (nh i ((l.length:Int))) (
  cA (k83 ((l.getD i.toNat (cE ((Ty.int .i64).cq.pair (Ty.int .i64).cq))).1,())) (
  bif !(m83 ((l.getD i.toNat (cE ((Ty.int .i64).cq.pair (Ty.int .i64).cq))).1,())).1 then
   some (.out 1 (cp rE (1,())))
  else
  cA (k83 ((l.getD i.toNat (cE ((Ty.int .i64).cq.pair (Ty.int .i64).cq))).2,())) (
  bif !(m83 ((l.getD i.toNat (cE ((Ty.int .i64).cq.pair (Ty.int .i64).cq))).2,())).1 then
   some (.out 1 (cp rE (1,())))
  else
  some (.next (cp qX (ss,fs,l,n,nz .i64 i (1),()))))))
 else
 some (.out 0 (cp po (ss,fs,()))):=by kernel_rfl
theorem abJ(ss:List (den nd))(fs:List (den pn))(n i:Int):(f342 (cp ve (ss,fs,n,i,()))).val=
 bif decide (i<n)then
  cA (nh i ((fs.length:Int))) (
  cA (k84 (ss,fs,(fs.getD i.toNat (cE ((Ty.int .i64).pair ((Ty.int .i64).pair ((Ty.int .i64).pair ((Ty.int .i64).pair ((Ty.int .i64).pair (((Ty.int .i64).pair ((Ty.int .i64).pair (Ty.int .u64))).cq.pair (Ty.int .i64).cq)))))))).1,(fs.getD i.toNat (cE ((Ty.int .i64).pair ((Ty.int .i64).pair ((Ty.int .i64).pair ((Ty.int .i64).pair ((Ty.int .i64).pair (((Ty.int .i64).pair ((Ty.int .i64).pair (Ty.int .u64))).cq.pair (Ty.int .i64).cq)))))))).2.1,(fs.getD i.toNat (cE ((Ty.int .i64).pair ((Ty.int .i64).pair ((Ty.int .i64).pair ((Ty.int .i64).pair ((Ty.int .i64).pair (((Ty.int .i64).pair ((Ty.int .i64).pair (Ty.int .u64))).cq.pair (Ty.int .i64).cq)))))))).2.2.1,(fs.getD i.toNat (cE ((Ty.int .i64).pair ((Ty.int .i64).pair ((Ty.int .i64).pair ((Ty.int .i64).pair ((Ty.int .i64).pair (((Ty.int .i64).pair ((Ty.int .i64).pair (Ty.int .u64))).cq.pair (Ty.int .i64).cq)))))))).2.2.2.1,(fs.getD i.toNat (cE ((Ty.int .i64).pair ((Ty.int .i64).pair ((Ty.int .i64).pair ((Ty.int .i64).pair ((Ty.int .i64).pair (((Ty.int .i64).pair ((Ty.int .i64).pair (Ty.int .u64))).cq.pair (Ty.int .i64).cq)))))))).2.2.2.2.1,(fs.getD i.toNat (cE ((Ty.int .i64).pair ((Ty.int .i64).pair ((Ty.int .i64).pair ((Ty.int .i64).pair ((Ty.int .i64).pair (((Ty.int .i64).pair ((Ty.int .i64).pair (Ty.int .u64))).cq.pair (Ty.int .i64).cq)))))))).2.2.2.2.2.1,(fs.getD i.toNat (cE ((Ty.int .i64).pair ((Ty.int .i64).pair ((Ty.int .i64).pair ((Ty.int .i64).pair ((Ty.int .i64).pair (((Ty.int .i64).pair ((Ty.int .i64).pair (Ty.int .u64))).cq.pair (Ty.int .i64).cq)))))))).2.2.2.2.2.2,())) (
  bif !(m84 (ss,fs,(fs.getD i.toNat (cE ((Ty.int .i64).pair ((Ty.int .i64).pair ((Ty.int .i64).pair ((Ty.int .i64).pair ((Ty.int .i64).pair (((Ty.int .i64).pair ((Ty.int .i64).pair (Ty.int .u64))).cq.pair (Ty.int .i64).cq)))))))).1,(fs.getD i.toNat (cE ((Ty.int .i64).pair ((Ty.int .i64).pair ((Ty.int .i64).pair ((Ty.int .i64).pair ((Ty.int .i64).pair (((Ty.int .i64).pair ((Ty.int .i64).pair (Ty.int .u64))).cq.pair (Ty.int .i64).cq)))))))).2.1,(fs.getD i.toNat (cE ((Ty.int .i64).pair ((Ty.int .i64).pair ((Ty.int .i64).pair ((Ty.int .i64).pair ((Ty.int .i64).pair (((Ty.int .i64).pair ((Ty.int .i64).pair (Ty.int .u64))).cq.pair (Ty.int .i64).cq)))))))).2.2.1,(fs.getD i.toNat (cE ((Ty.int .i64).pair ((Ty.int .i64).pair ((Ty.int .i64).pair ((Ty.int .i64).pair ((Ty.int .i64).pair (((Ty.int .i64).pair ((Ty.int .i64).pair (Ty.int .u64))).cq.pair (Ty.int .i64).cq)))))))).2.2.2.1,(fs.getD i.toNat (cE ((Ty.int .i64).pair ((Ty.int .i64).pair ((Ty.int .i64).pair ((Ty.int .i64).pair ((Ty.int .i64).pair (((Ty.int .i64).pair ((Ty.int .i64).pair (Ty.int .u64))).cq.pair (Ty.int .i64).cq)))))))).2.2.2.2.1,(fs.getD i.toNat (cE ((Ty.int .i64).pair ((Ty.int .i64).pair ((Ty.int .i64).pair ((Ty.int .i64).pair ((Ty.int .i64).pair (((Ty.int .i64).pair ((Ty.int .i64).pair (Ty.int .u64))).cq.pair (Ty.int .i64).cq)))))))).2.2.2.2.2.1,(fs.getD i.toNat (cE ((Ty.int .i64).pair ((Ty.int .i64).pair ((Ty.int .i64).pair ((Ty.int .i64).pair ((Ty.int .i64).pair (((Ty.int .i64).pair ((Ty.int .i64).pair (Ty.int .u64))).cq.pair (Ty.int .i64).cq)))))))).2.2.2.2.2.2,())).1 then
   some (.out 1 (cp rW (1,())))
  else
  some (.next (cp ve (ss,fs,n,nz .i64 i (1),())))))
 else
 some (.out 0 (cp ux (()))):=by kernel_rfl
theorem ar5(ss:List (den nd))(fs:List (den pn)):(t34 (ss,fs,())).val=
 cA (HK f340 [((Ty.int .i64).cq.pair (Ty.int .i64).cq).cq,((Ty.int .i64).pair ((Ty.int .i64).pair ((Ty.int .i64).pair ((Ty.int .i64).pair ((Ty.int .i64).pair (((Ty.int .i64).pair ((Ty.int .i64).pair (Ty.int .u64))).cq.pair (Ty.int .i64).cq)))))).cq,((Ty.int .i64).cq.pair (Ty.int .i64).cq).cq,Ty.int .i64,Ty.int .i64] [((Ty.int .i64).cq.pair (Ty.int .i64).cq).cq,((Ty.int .i64).pair ((Ty.int .i64).pair ((Ty.int .i64).pair ((Ty.int .i64).pair ((Ty.int .i64).pair (((Ty.int .i64).pair ((Ty.int .i64).pair (Ty.int .u64))).cq.pair (Ty.int .i64).cq)))))).cq] [Ty.int .i64] (ss,fs,ss,(ss.length:Int),0,())) (
 bif Fk f340 [((Ty.int .i64).cq.pair (Ty.int .i64).cq).cq,((Ty.int .i64).pair ((Ty.int .i64).pair ((Ty.int .i64).pair ((Ty.int .i64).pair ((Ty.int .i64).pair (((Ty.int .i64).pair ((Ty.int .i64).pair (Ty.int .u64))).cq.pair (Ty.int .i64).cq)))))).cq,((Ty.int .i64).cq.pair (Ty.int .i64).cq).cq,Ty.int .i64,Ty.int .i64] (ss,fs,ss,(ss.length:Int),0,())then
  cA (HK f342 [((Ty.int .i64).cq.pair (Ty.int .i64).cq).cq,((Ty.int .i64).pair ((Ty.int .i64).pair ((Ty.int .i64).pair ((Ty.int .i64).pair ((Ty.int .i64).pair (((Ty.int .i64).pair ((Ty.int .i64).pair (Ty.int .u64))).cq.pair (Ty.int .i64).cq)))))).cq,Ty.int .i64,Ty.int .i64] [] [Ty.int .i64] ((lo1 f340 [((Ty.int .i64).cq.pair (Ty.int .i64).cq).cq,((Ty.int .i64).pair ((Ty.int .i64).pair ((Ty.int .i64).pair ((Ty.int .i64).pair ((Ty.int .i64).pair (((Ty.int .i64).pair ((Ty.int .i64).pair (Ty.int .u64))).cq.pair (Ty.int .i64).cq)))))).cq,((Ty.int .i64).cq.pair (Ty.int .i64).cq).cq,Ty.int .i64,Ty.int .i64] [((Ty.int .i64).cq.pair (Ty.int .i64).cq).cq,((Ty.int .i64).pair ((Ty.int .i64).pair ((Ty.int .i64).pair ((Ty.int .i64).pair ((Ty.int .i64).pair (((Ty.int .i64).pair ((Ty.int .i64).pair (Ty.int .u64))).cq.pair (Ty.int .i64).cq)))))).cq] (ss,fs,ss,(ss.length:Int),0,())).1,(lo1 f340 [((Ty.int .i64).cq.pair (Ty.int .i64).cq).cq,((Ty.int .i64).pair ((Ty.int .i64).pair ((Ty.int .i64).pair ((Ty.int .i64).pair ((Ty.int .i64).pair (((Ty.int .i64).pair ((Ty.int .i64).pair (Ty.int .u64))).cq.pair (Ty.int .i64).cq)))))).cq,((Ty.int .i64).cq.pair (Ty.int .i64).cq).cq,Ty.int .i64,Ty.int .i64] [((Ty.int .i64).cq.pair (Ty.int .i64).cq).cq,((Ty.int .i64).pair ((Ty.int .i64).pair ((Ty.int .i64).pair ((Ty.int .i64).pair ((Ty.int .i64).pair (((Ty.int .i64).pair ((Ty.int .i64).pair (Ty.int .u64))).cq.pair (Ty.int .i64).cq)))))).cq] (ss,fs,ss,(ss.length:Int),0,())).2.1,Int.ofNat (List.length (lo1 f340 [((Ty.int .i64).cq.pair (Ty.int .i64).cq).cq,((Ty.int .i64).pair ((Ty.int .i64).pair ((Ty.int .i64).pair ((Ty.int .i64).pair ((Ty.int .i64).pair (((Ty.int .i64).pair ((Ty.int .i64).pair (Ty.int .u64))).cq.pair (Ty.int .i64).cq)))))).cq,((Ty.int .i64).cq.pair (Ty.int .i64).cq).cq,Ty.int .i64,Ty.int .i64] [((Ty.int .i64).cq.pair (Ty.int .i64).cq).cq,((Ty.int .i64).pair ((Ty.int .i64).pair ((Ty.int .i64).pair ((Ty.int .i64).pair ((Ty.int .i64).pair (((Ty.int .i64).pair ((Ty.int .i64).pair (Ty.int .u64))).cq.pair (Ty.int .i64).cq)))))).cq] (ss,fs,ss,(ss.length:Int),0,())).2.1),0,())) (
  bif Fk f342 [((Ty.int .i64).cq.pair (Ty.int .i64).cq).cq,((Ty.int .i64).pair ((Ty.int .i64).pair ((Ty.int .i64).pair ((Ty.int .i64).pair ((Ty.int .i64).pair (((Ty.int .i64).pair ((Ty.int .i64).pair (Ty.int .u64))).cq.pair (Ty.int .i64).cq)))))).cq,Ty.int .i64,Ty.int .i64] ((lo1 f340 [((Ty.int .i64).cq.pair (Ty.int .i64).cq).cq,((Ty.int .i64).pair ((Ty.int .i64).pair ((Ty.int .i64).pair ((Ty.int .i64).pair ((Ty.int .i64).pair (((Ty.int .i64).pair ((Ty.int .i64).pair (Ty.int .u64))).cq.pair (Ty.int .i64).cq)))))).cq,((Ty.int .i64).cq.pair (Ty.int .i64).cq).cq,Ty.int .i64,Ty.int .i64] [((Ty.int .i64).cq.pair (Ty.int .i64).cq).cq,((Ty.int .i64).pair ((Ty.int .i64).pair ((Ty.int .i64).pair ((Ty.int .i64).pair ((Ty.int .i64).pair (((Ty.int .i64).pair ((Ty.int .i64).pair (Ty.int .u64))).cq.pair (Ty.int .i64).cq)))))).cq] (ss,fs,ss,(ss.length:Int),0,())).1,(lo1 f340 [((Ty.int .i64).cq.pair (Ty.int .i64).cq).cq,((Ty.int .i64).pair ((Ty.int .i64).pair ((Ty.int .i64).pair ((Ty.int .i64).pair ((Ty.int .i64).pair (((Ty.int .i64).pair ((Ty.int .i64).pair (Ty.int .u64))).cq.pair (Ty.int .i64).cq)))))).cq,((Ty.int .i64).cq.pair (Ty.int .i64).cq).cq,Ty.int .i64,Ty.int .i64] [((Ty.int .i64).cq.pair (Ty.int .i64).cq).cq,((Ty.int .i64).pair ((Ty.int .i64).pair ((Ty.int .i64).pair ((Ty.int .i64).pair ((Ty.int .i64).pair (((Ty.int .i64).pair ((Ty.int .i64).pair (Ty.int .u64))).cq.pair (Ty.int .i64).cq)))))).cq] (ss,fs,ss,(ss.length:Int),0,())).2.1,Int.ofNat (List.length (lo1 f340 [((Ty.int .i64).cq.pair (Ty.int .i64).cq).cq,((Ty.int .i64).pair ((Ty.int .i64).pair ((Ty.int .i64).pair ((Ty.int .i64).pair ((Ty.int .i64).pair (((Ty.int .i64).pair ((Ty.int .i64).pair (Ty.int .u64))).cq.pair (Ty.int .i64).cq)))))).cq,((Ty.int .i64).cq.pair (Ty.int .i64).cq).cq,Ty.int .i64,Ty.int .i64] [((Ty.int .i64).cq.pair (Ty.int .i64).cq).cq,((Ty.int .i64).pair ((Ty.int .i64).pair ((Ty.int .i64).pair ((Ty.int .i64).pair ((Ty.int .i64).pair (((Ty.int .i64).pair ((Ty.int .i64).pair (Ty.int .u64))).cq.pair (Ty.int .i64).cq)))))).cq] (ss,fs,ss,(ss.length:Int),0,())).2.1),0,())then
   some (cp BK (0,()))
  else
  some (cp BK ((lo1 f342 [((Ty.int .i64).cq.pair (Ty.int .i64).cq).cq,((Ty.int .i64).pair ((Ty.int .i64).pair ((Ty.int .i64).pair ((Ty.int .i64).pair ((Ty.int .i64).pair (((Ty.int .i64).pair ((Ty.int .i64).pair (Ty.int .u64))).cq.pair (Ty.int .i64).cq)))))).cq,Ty.int .i64,Ty.int .i64] [Ty.int .i64] ((lo1 f340 [((Ty.int .i64).cq.pair (Ty.int .i64).cq).cq,((Ty.int .i64).pair ((Ty.int .i64).pair ((Ty.int .i64).pair ((Ty.int .i64).pair ((Ty.int .i64).pair (((Ty.int .i64).pair ((Ty.int .i64).pair (Ty.int .u64))).cq.pair (Ty.int .i64).cq)))))).cq,((Ty.int .i64).cq.pair (Ty.int .i64).cq).cq,Ty.int .i64,Ty.int .i64] [((Ty.int .i64).cq.pair (Ty.int .i64).cq).cq,((Ty.int .i64).pair ((Ty.int .i64).pair ((Ty.int .i64).pair ((Ty.int .i64).pair ((Ty.int .i64).pair (((Ty.int .i64).pair ((Ty.int .i64).pair (Ty.int .u64))).cq.pair (Ty.int .i64).cq)))))).cq] (ss,fs,ss,(ss.length:Int),0,())).1,(lo1 f340 [((Ty.int .i64).cq.pair (Ty.int .i64).cq).cq,((Ty.int .i64).pair ((Ty.int .i64).pair ((Ty.int .i64).pair ((Ty.int .i64).pair ((Ty.int .i64).pair (((Ty.int .i64).pair ((Ty.int .i64).pair (Ty.int .u64))).cq.pair (Ty.int .i64).cq)))))).cq,((Ty.int .i64).cq.pair (Ty.int .i64).cq).cq,Ty.int .i64,Ty.int .i64] [((Ty.int .i64).cq.pair (Ty.int .i64).cq).cq,((Ty.int .i64).pair ((Ty.int .i64).pair ((Ty.int .i64).pair ((Ty.int .i64).pair ((Ty.int .i64).pair (((Ty.int .i64).pair ((Ty.int .i64).pair (Ty.int .u64))).cq.pair (Ty.int .i64).cq)))))).cq] (ss,fs,ss,(ss.length:Int),0,())).2.1,Int.ofNat (List.length (lo1 f340 [((Ty.int .i64).cq.pair (Ty.int .i64).cq).cq,((Ty.int .i64).pair ((Ty.int .i64).pair ((Ty.int .i64).pair ((Ty.int .i64).pair ((Ty.int .i64).pair (((Ty.int .i64).pair ((Ty.int .i64).pair (Ty.int .u64))).cq.pair (Ty.int .i64).cq)))))).cq,((Ty.int .i64).cq.pair (Ty.int .i64).cq).cq,Ty.int .i64,Ty.int .i64] [((Ty.int .i64).cq.pair (Ty.int .i64).cq).cq,((Ty.int .i64).pair ((Ty.int .i64).pair ((Ty.int .i64).pair ((Ty.int .i64).pair ((Ty.int .i64).pair (((Ty.int .i64).pair ((Ty.int .i64).pair (Ty.int .u64))).cq.pair (Ty.int .i64).cq)))))).cq] (ss,fs,ss,(ss.length:Int),0,())).2.1),0,())).1,())))
 else
 some (cp BK ((lo1 f340 [((Ty.int .i64).cq.pair (Ty.int .i64).cq).cq,((Ty.int .i64).pair ((Ty.int .i64).pair ((Ty.int .i64).pair ((Ty.int .i64).pair ((Ty.int .i64).pair (((Ty.int .i64).pair ((Ty.int .i64).pair (Ty.int .u64))).cq.pair (Ty.int .i64).cq)))))).cq,((Ty.int .i64).cq.pair (Ty.int .i64).cq).cq,Ty.int .i64,Ty.int .i64] [Ty.int .i64] (ss,fs,ss,(ss.length:Int),0,())).1,()))):=by kernel_rfl
theorem Ua(a b:List Int)(i:Int):(zV (cp wV (a,b,i,()))).val=
 bif decide (i<(a.length:Int))then
  cA (nh i ((a.length:Int))&&nh i ((b.length:Int))) (
  bif !decide (a.getD i.toNat (cE (Ty.int .u64))=b.getD i.toNat (cE (Ty.int .u64)))then
   some (.out 1 (cp wW (false,())))
  else
  some (.next (cp wV (a,b,nz .i64 i (1),()))))
 else
 some (.out 0 (cp vf (()))):=by kernel_rfl
theorem ar6(a b:List Int):(t25 (a,b,())).val=
 bif !decide ((a.length:Int)=(b.length:Int))then
  some (cp LG (false,()))
 else
 cA (HK zV [(Ty.int .u64).cq,(Ty.int .u64).cq,Ty.int .i64] [] [Ty.bool] (a,b,0,())) (
 bif Fk zV [(Ty.int .u64).cq,(Ty.int .u64).cq,Ty.int .i64] (a,b,0,())then
  some (cp LG (true,()))
 else
 some (cp LG ((lo1 zV [(Ty.int .u64).cq,(Ty.int .u64).cq,Ty.int .i64] [Ty.bool] (a,b,0,())).1,()))):=by kernel_rfl
end Go.Proofs.Vq
