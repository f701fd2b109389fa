import Derived.Test.YtcnkojgmochcgaaGreatDoorVrC
import Derived.Test.YtcnkojgmochcgaaGreatDoorLfK
import Derived.Test.YtcnkojgmochcgaaGreatDoorLfN
noncomputable section
namespace Go.Proofs.Vq
open Go.Ab Go.Ab.Lf Go.RowKit
set_option maxRecDepth 100000
def lkN(k:IntKind)(b:Int)(F:Int->Int):List AV->Option AV
 | [.int k' x]=>bif decide (k'=k)&&(decide (0<=x)&&decide (x<=b))then some (.int .i64 (F x))else none
 | _=>none
theorem Gc[Io]{f:FuncId}{k:IntKind}{b:Int}{F:Int->Int}(hk: ∀ x,0<=x->x<=b->oe Tryz.prog f [.int k x] (.int .i64 (F x))){az:List AV}{v:AV}(h:lkN k b F az=some v):oe Tryz.prog f az v:=by
 unfold lkN at h
 split at h
 ·rename_i k' x
  cases hb:(decide (k'=k)&&(decide (0<=x)&&decide (x<=b)))with
  |false=>rw[hb]at h;cases h
  |true=>
   rw[hb]at h
   cases h
   simp only[Bool.and_eq_true,decide_eq_true_eq]at hb
   obtain⟨rfl,h1,h2⟩:=hb
   exact hk x h1 h2
 ·cases h
def Ay(f:FuncId)(az:List AV):Option AV:=bif Xf f then lkC f az else
 bif Nat.beq f 36 then(match az with| []=>some (.bool true)| _=>none)else
 bif Nat.beq f 49 then lkN .u32 4294967295 (lz 32) az else
 bif Nat.beq f 50 then lkN .u32 4294967295 (tz 32) az else
 bif Nat.beq f 52 then lkN .u64 18446744073709551615 (lz 64) az else
 bif Nat.beq f 53 then lkN .u64 18446744073709551615 (tz 64) az else none
theorem afR: ∀ f az v,Ay f az=some v-> @oe CX Tryz.prog f az v:=by
 intro f az v h
 unfold Ay at h
 cases hc:Xf f with
 |true=>rw[hc]at h;exact KV f az v h
 |false=>
  rw[hc,cond_false]at h
  cases h36:Nat.beq f 36 with
  |true=>
   rw[h36,cond_true]at h
   obtain rfl:=Nat.eq_of_beq_eq_true h36
   split at h
   ·cases h;exact asu
   ·cases h
  |false=>
   rw[h36,cond_false]at h
   cases h49:Nat.beq f 49 with
   |true=>rw[h49,cond_true]at h;obtain rfl:=Nat.eq_of_beq_eq_true h49;exact @Gc CX _ _ _ _ (fun x a b=>asp x a b) _ _ h
   |false=>
    rw[h49,cond_false]at h
    cases h50:Nat.beq f 50 with
    |true=>rw[h50,cond_true]at h;obtain rfl:=Nat.eq_of_beq_eq_true h50;exact @Gc CX _ _ _ _ (fun x a b=>asr x a b) _ _ h
    |false=>
     rw[h50,cond_false]at h
     cases h52:Nat.beq f 52 with
     |true=>rw[h52,cond_true]at h;obtain rfl:=Nat.eq_of_beq_eq_true h52;exact @Gc CX _ _ _ _ (fun x a b=>asq x a b) _ _ h
     |false=>
      rw[h52,cond_false]at h
      cases h53:Nat.beq f 53 with
      |true=>rw[h53,cond_true]at h;obtain rfl:=Nat.eq_of_beq_eq_true h53;exact @Gc CX _ _ _ _ (fun x a b=>ass x a b) _ _ h
      |false=>rw[h53]at h;cases h
def tbZ(f:FuncId)(az:List AV):Option AV:=match az with
 | [.agg m]=>bif @decide (f=56/\EV N0 tMm Iy m) (Classical.propDecidable _)then some (.int .i64 0)else none
 | _=>none
theorem afT: ∀ f az v,tbZ f az=some v-> @oe CX Tryz.prog f az v:=by
 intro f az v h
 unfold tbZ at h
 split at h
 ·rename_i m
  cases hd: @decide (f=56/\EV N0 tMm Iy m) (Classical.propDecidable _)with
  |false=>rw[hd]at h;cases h
  |true=>
   rw[hd]at h
   cases h
   obtain⟨rfl,hm⟩:= @of_decide_eq_true _ (Classical.propDecidable _) hd
   exact asv hm
 ·cases h
def Gd(f:FuncId):Bool:=Nat.beq f 56
def y9(c:mS):mS:=ad8 Gd tbZ (JC Ay c)
def oL(n d:Nat):mS:=y9 (vX Tryz.gt y9 n d)
theorem aap(n d:Nat): @nv CX Tryz.prog (oL n d):=
 have hw: ∀ c,@nv CX Tryz.prog c-> @nv CX Tryz.prog (y9 c):=fun _ hc=> @YG CX _ _ _ _ afT (@CV CX _ _ afR _ hc)
 hw _ (@vY CX _ _ (@Be CX _ Tryz.mixed) _ Tryz.gts _ hw n d)
theorem UM{f:FuncId}{az az':List AV}{v:AV}{h:Hp}(hf:Gd f=true)(hz:mapA (xD 8 h) az=some az')(ht:tbZ f az'=some v)(n d:Nat):oL n d f az h=.ok v h:=by
 show(Bool.rec (JC Ay _ f az h) (match mapA (xD 8 h) az with|some vZ=>(match tbZ f vZ with|some v=>Ro.ok v h|none=>JC Ay (vX Tryz.gt y9 n d) f az h)|none=>JC Ay (vX Tryz.gt y9 n d) f az h) (Gd f):Ro)=_
 rw[hf,hz]
 dsimp only
 rw[ht]
theorem Bq{f:FuncId}{az:List AV}{v:AV}{h:Hp}(hf:Gd f=false)(hl:Ay f az=some v)(n d:Nat):oL n d f az h=.ok v h:=by
 show(Bool.rec (JC Ay _ f az h) (match mapA (xD 8 h) az with|some vZ=>(match tbZ f vZ with|some v=>Ro.ok v h|none=>JC Ay (vX Tryz.gt y9 n d) f az h)|none=>JC Ay (vX Tryz.gt y9 n d) f az h) (Gd f):Ro)=_
 rw[hf]
 show(match Ay f az with|some v=>Ro.ok v h|none=>_)=_
 rw[hl]
theorem uM{f:FuncId}{b:Dj}(hf:Tryz.xs.get f=some b)(hh:Gd f=false){n d:Nat}{az:List AV}{h:Hp}(hl:Ay f az=none):oL n (d+1) f az h=CF b.fb n (oL n d) az h:=by
 show(Bool.rec (JC Ay _ f az h) (match mapA (xD 8 h) az with|some vZ=>(match tbZ f vZ with|some v=>Ro.ok v h|none=>JC Ay (vX Tryz.gt y9 n (d+1)) f az h)|none=>JC Ay (vX Tryz.gt y9 n (d+1)) f az h) (Gd f):Ro)=_
 rw[hh]
 show(match Ay f az with|some v=>Ro.ok v h|none=>HB Tryz.gt n (oL n d) f az h)=_
 rw[hl]
 dsimp only
 show HB Tryz.gt n (oL n d) f az h=_
 unfold HB
 rw[Tryz.ajw hf]
 rfl
theorem afU{f:FuncId}{b:Dj}(hC:Xf f=true)(hf:Tryz.xs.get f=some b)(hb:bkQ f=some b): ∀ n d h,CF b.fb n (oL n d) [.pO] h=.bad/\CF b.fb n (oL n d) [.rJ 0 []] h=.bad:=by
 unfold Xf at hC
 simp only[Bool.or_eq_true]at hC
 rcases hC with((((((((((((h|h)|h)|h)|h)|h)|h)|h)|h)|h)|h)|h)|h)|h
 ·obtain rfl:=Nat.eq_of_beq_eq_true h;obtain rfl:b=Tryz.x67:=(Option.some.inj hf).symm;exact fun n d h=>⟨by kernel_rfl,by kernel_rfl⟩
 ·obtain rfl:=Nat.eq_of_beq_eq_true h;obtain rfl:b=Tryz.x69:=(Option.some.inj hf).symm;exact fun n d h=>⟨by kernel_rfl,by kernel_rfl⟩
 ·obtain rfl:=Nat.eq_of_beq_eq_true h;obtain rfl:b=Tryz.x70:=(Option.some.inj hf).symm;exact fun n d h=>⟨by kernel_rfl,by kernel_rfl⟩
 ·obtain rfl:=Nat.eq_of_beq_eq_true h;obtain rfl:b=Tryz.x71:=(Option.some.inj hf).symm;exact fun n d h=>⟨by kernel_rfl,by kernel_rfl⟩
 ·obtain rfl:=Nat.eq_of_beq_eq_true h;obtain rfl:b=Tryz.x72:=(Option.some.inj hf).symm;exact fun n d h=>⟨by kernel_rfl,by kernel_rfl⟩
 ·obtain rfl:=Nat.eq_of_beq_eq_true h;obtain rfl:b=Tryz.aeZ:=(Option.some.inj hf).symm;exact fun n d h=>⟨by kernel_rfl,by kernel_rfl⟩
 ·obtain rfl:=Nat.eq_of_beq_eq_true h;obtain rfl:b=Tryz.ae0:=(Option.some.inj hf).symm;exact fun n d h=>⟨by kernel_rfl,by kernel_rfl⟩
 ·obtain rfl:=Nat.eq_of_beq_eq_true h;obtain rfl:b=Tryz.ae1:=(Option.some.inj hf).symm;exact fun n d h=>⟨by kernel_rfl,by kernel_rfl⟩
 ·obtain rfl:=Nat.eq_of_beq_eq_true h;obtain rfl:b=Tryz.ae2:=(Option.some.inj hf).symm;exact fun n d h=>⟨by kernel_rfl,by kernel_rfl⟩
 ·obtain rfl:=Nat.eq_of_beq_eq_true h;obtain rfl:b=Tryz.ae3:=(Option.some.inj hf).symm;exact fun n d h=>⟨by kernel_rfl,by kernel_rfl⟩
 ·obtain rfl:=Nat.eq_of_beq_eq_true h;obtain rfl:b=Tryz.ae4:=(Option.some.inj hf).symm;exact fun n d h=>⟨by kernel_rfl,by kernel_rfl⟩
 ·obtain rfl:=Nat.eq_of_beq_eq_true h;obtain rfl:b=Tryz.ae5:=(Option.some.inj hf).symm;exact fun n d h=>⟨by kernel_rfl,by kernel_rfl⟩
 ·obtain rfl:=Nat.eq_of_beq_eq_true h;obtain rfl:b=Tryz.ae6:=(Option.some.inj hf).symm;exact fun n d h=>⟨by kernel_rfl,by kernel_rfl⟩
 ·obtain rfl:=Nat.eq_of_beq_eq_true h;obtain rfl:b=Tryz.afa:=(Option.some.inj hf).symm;exact fun n d h=>⟨by kernel_rfl,by kernel_rfl⟩
theorem ED: ∀ f b,bkQ f=some b->u9 oL f b:=by
 intro f b hb n d az h c h' e
 have hb0:=hb
 unfold bkQ at hb
 cases hx:exQ f with
 |true=>rw[hx]at hb;cases hb
 |false=>
  rw[hx,cond_false]at hb
  unfold exQ at hx
  simp only[Bool.or_eq_false_iff]at hx
  obtain⟨h36,h56,axB,_,h49,h50,h52,h53⟩:=hx
  cases hC:Xf f with
  |false=>
   rw[uM hb h56 (by unfold Ay;rw[hC,h36,h49,h50,h52,h53];rfl)]
   exact e
  |true=>
   obtain⟨q1,q2⟩:=afU hC hb hb0 n d h
   have hl:Ay f az=none:=by
    unfold Ay
    rw[hC,cond_true]
    unfold lkC
    rw[hC,cond_true]
    cases h1:qL [.pO] az with
    |true=>obtain rfl:=qj _ _ h1;rw[q1]at e;cases e
    |false=>
     rw[cond_false]
     cases h2:qL [.rJ 0 []] az with
     |true=>obtain rfl:=qj _ _ h2;rw[q2]at e;cases e
     |false=>rfl
   rw[uM hb h56 hl]
   exact e
end Go.Proofs.Vq

noncomputable section
namespace Go.Proofs.Vq
open Go.Ab Go.Ab.Lf Go.RowKit
set_option maxRecDepth 100000
theorem KW{P:qH}{ptr:List Nat}{Q:qH}{ti to:List Ty}{g:cf ti->Lf.T (cf to)}{pl q:List Pl}(h:((pW P ptr Q ti to g).f pl).val=some q): ∃ x y,pl=cq ti x/\(g x).val=some y/\q=cq to y:=by
 change (match toT ti pl with|some x=>(g x).map (cq to)|none=>.bad).val=some q at h
 split at h
 ·rename_i x hx
  obtain⟨y,h1,h2⟩:=T.FX h
  exact⟨x,y,rD hx,h1,h2⟩
 ·cases h
theorem KX{P:qH}{ptr:List Nat}{Q:qH}{ti to:List Ty}{g:cf ti->Lf.T (cf to)}{x:cf ti}{y:cf to}(h:(g x).val=some y):((pW P ptr Q ti to g).f (cq ti x)).val=some (cq to y):=by
 show(match toT ti (cq ti x)with|some x=>(g x).map (cq to)|none=>.bad).val=_
 rw[tx]
 show((g x).bd fun a=>Lf.T.ok (cq to a)).val=_
 rw[Lf.T.Kv,h]
 rfl
abbrev rC(c:AV):Dj:=Go.Ab.X.an7 8 [.tmp 2] fun _ _=>(Go.Ab.X.nu (Go.Ab.X.cRg (Go.Ab.X.st 2 (Go.Ab.X.qg (Go.Ab.X.oC c)) Go.Ab.X.fi)) Go.Ab.X.nI)
theorem aaq(c0:AV)(f:FuncId):u9 (fun _ _ _ _ h=>.ok c0 h) f (rC c0):=by
 intro n d az h c h' e
 have e:(pH (Nat.ble (len az) 8) (.ok c0 h) .bad:Go.Ab.Ro)=.ok c h':=e
 cases hb:Nat.ble (len az) 8 with
 |true=>rw[hb]at e;exact e
 |false=>rw[hb]at e;cases e
theorem NQ(cr:cx):w8 (fun _ _ _=>.bad) cr:=fun _ _ _ _ _ _ _ _ _ _ e=>by cases e
theorem UN{P Q:qH}{ti to:List Ty}{g:cf ti->Lf.T (cf to)}{f:FuncId}{cr:cx}
 (k: ∀ x y args H0 (E0:En) h az,(g x).val=some y->oi P (cq ti x) e1=some (args,[],H0)->Vs E0 H0.next args az->SR E0 (oK H0) h-> ∃ c g',(g' x).val=some y/\(pW P [] Q ti to g').Ok f (fun _ _ _ _ h=>.ok c h)/\ ∀ n d,cr n (d+1) f az h=.ok c h):(pW P [] Q ti to g).Ok f cr:=by
 intro pl q args H0 E0 h az e hP hv hS
 obtain⟨x,y,rfl,h1,rfl⟩:=KW e
 obtain⟨c,g',hg,k1,k2⟩:=k x y args H0 E0 h az h1 hP hv hS
 obtain⟨c',h',E1,ws,H1,⟨M,hM⟩,r⟩:=k1 _ (cq to y) _ _ E0 h az (KX hg) hP hv hS
 have hM:=hM M M (Nat.le_refl _) (Nat.le_refl _)
 cases hM
 refine⟨_,_,E1,ws,H1,⟨1,fun n d _ hd=>?_⟩,r⟩
 obtain⟨d,rfl⟩: ∃ d',d=d'+1:=⟨d - 1,by omega⟩
 exact k2 n d
theorem NR{P Q:qH}{ti to:List Ty}{g:cf ti->Lf.T (cf to)}{f:FuncId}{c:AV}(e: ∀ x y,(g x).val=some y->(qA P [] Q (fun _=>none) (rC c) 3 (fun _ _ _=>.bad) (cq ti x)).val=some (cq to y)):(pW P [] Q ti to g).Ok f (fun _ _ _ _ h=>.ok c h):=
 tw (NQ _) (aaq c f) rfl (cD _) (m:=3) rfl fun x y h=>e x y h
abbrev PI(t:Ty):qH:=.cons (.im t) .nil
abbrev Qk(t:Ty):qH:=.cons (.ow t) .nil
theorem Iz{t:Ty}{f:FuncId}{c:AV}(e:(qA (PI t) [] (Qk t) (fun _=>none) (rC c) 3 (fun _ _ _=>.bad) (cq [.cp t] ([],()))).val=some (cq [.cp t] ([],()))):(pW (PI t) [] (Qk t) [.cp t] [.cp t] fun x=>.ck (decide (List.length x.1=0)) (.ok ([],()))).Ok f (fun _ _ _ _ h=>.ok c h):=by
 refine NR ?_
 rintro⟨x,⟨⟩⟩ q h
 obtain⟨h1,h⟩:=Lf.T.cP h
 cases h
 obtain rfl:x=[]:=List.eq_nil_of_length_eq_zero (of_decide_eq_true h1)
 exact e
theorem pF{t:Ty}{f:FuncId}{b:Dj}{B sz:Nat}(hb:bkQ f=some b)(hx:Tryz.xs.get f=some b)(AL:Nat.ble b.ntmps 512=true)(hC:Xf f=true)(hh:Gd f=false)(hB:B*sz<=70368744177664/\B<=70368744177664)
 (e: ∀ x:List (den t),(qA (PI t) [] (Qk t) (fun _=>none) b 3 (fun _ _ _=>.bad) (cq [.cp t] (x,()))).val=cF (!(Nat.beq (List.length x) 0)) (cF (roomy sz (0+List.length x)) (some (cq [.cp t] (app [] x,())))))
 (XU:(qA (PI t) [] (Qk t) (fun _=>none) (rC .pO) 3 (fun _ _ _=>.bad) (cq [.cp t] ([],()))).val=some (cq [.cp t] ([],())))
 (e2':(qA (PI t) [] (Qk t) (fun _=>none) (rC .ur) 3 (fun _ _ _=>.bad) (cq [.cp t] ([],()))).val=some (cq [.cp t] ([],())))
 (e3':(qA (PI t) [] (Qk t) (fun _=>none) (rC (.sc (.slice none 0 0))) 3 (fun _ _ _=>.bad) (cq [.cp t] ([],()))).val=some (cq [.cp t] ([],())))
 (s2: ∀ n d h,CF b.fb n (oL n d) [.ur] h=.ok .ur h)(s3: ∀ n d h,CF b.fb n (oL n d) [.sc (.slice none 0 0)] h=.ok (.sc (.slice none 0 0)) h)(s4: ∀ n d h id base,CF b.fb n (oL n d) [.nW id base 0 (size t)] h=.ok .ur h):
 (pW (PI t) [] (Qk t) [.cp t] [.cp t] fun x=>.ck (decide (List.length x.1<=B)) (.ok (x.1,()))).Ok f oL:=by
 have lkE:Ay f [.pO]=some .pO:=by unfold Ay lkC;rw[hC];rfl
 have lkI:Ay f [.rJ 0 []]=some .pO:=by unfold Ay lkC;rw[hC];rfl
 have nx: ∀ az,qL [.pO] az=false->qL [.rJ 0 []] az=false->Ay f az=none:=by
  intro az h1 h2
  unfold Ay lkC
  rw[hC,h1,h2]
  rfl
 have hN:(pW (PI t) [] (Qk t) [.cp t] [.cp t] fun x=>.ck (decide (List.length x.1<=B)&& !decide (List.length x.1=0)) (.ok (x.1,()))).Ok f oL:=by
  refine tw (NQ _) (ED f b hb) AL (cD _) (m:=3) rfl ?_
  rintro⟨x,⟨⟩⟩ q h
  obtain⟨h1,h⟩:=Lf.T.cP h
  cases h
  simp only[Bool.and_eq_true,Bool.not_eq_true',decide_eq_true_eq,decide_eq_false_iff_not]at h1
  have c1:Nat.beq (List.length x) 0=false:=by
   cases hb:Nat.beq (List.length x) 0 with
   |false=>rfl
   |true=>exact(h1.2 (Nat.eq_of_beq_eq_true hb)).elim
  refine(e x).trans ?_
  rw[c1,show roomy sz (0+List.length x)=true from wK.2 ⟨by rw[Nat.zero_add];exact Nat.le_trans (Nat.mul_le_mul_right sz h1.1) hB.1,by have:=h1.1;omega⟩,mP]
  rfl
 intro pl q args H0 E0 h az e0 hP hv hS
 obtain⟨⟨x,⟨⟩⟩,⟨y,⟨⟩⟩,rfl,h1,rfl⟩:=KW e0
 obtain⟨h2,h3⟩:=Lf.T.cP h1
 have h3:y=x:=by
  injection h3 with h3
  exact(congrArg Prod.fst h3).symm
 subst h3
 by_cases hy:y=[]
 ·subst hy
  have hP2:some (([.c 1 (.cp t) []]:List Sv),([]:List Pl),(⟨2,.nil⟩:Hq))=some (args,[],H0):=(Aa Ii).symm.trans hP
  cases hP2
  obtain⟨a,rfl,ha⟩: ∃ a,az=[a]/\EV E0.G (.cp t) [] [a]:=by
   cases hv with
   |cons ha hr=>
    cases hr
    cases ha with
    |c k _=>exact⟨_,rfl,k⟩
  have fin: ∀ c0:AV,(pW (PI t) [] (Qk t) [.cp t] [.cp t] fun x=>.ck (decide (List.length x.1=0)) (.ok ([],()))).Ok f (fun _ _ _ _ h=>.ok c0 h)->(∀ n d,oL n (d+1) f [a] h=.ok c0 h)-> ∃ c h' E1 ws H1,Ev (fun n d=>oL n d f [a] h) (.ok c h')/\Ox E0 E1 (oK ⟨2,.nil⟩) H1 h h'/\SR E1 H1 h'/\oi (Qk t) (cq [.cp t] ([],())) Lf.e1=some (ws,[],H1)/\Vs E1 H1.next ws (c::([]:List Nat).map E0.A):=by
   intro c0 k hc
   obtain⟨c,h',E1,ws,H1,⟨M,hM⟩,r⟩:=k _ (cq [.cp t] ([],())) _ _ E0 h [a] (KX (P:=PI t) (ptr:=[]) (Q:=Qk t) (ti:=[.cp t]) (to:=[.cp t]) (x:=(([]:List (den t)),())) (y:=(([]:List (den t)),())) rfl) hP hv hS
   have hM:=hM M M (Nat.le_refl _) (Nat.le_refl _)
   cases hM
   refine⟨c0,h,E1,ws,H1,⟨1,fun n d _ hd=>?_⟩,r⟩
   obtain⟨d,rfl⟩: ∃ d',d=d'+1:=⟨d - 1,by omega⟩
   exact hc n d
  obtain⟨a',q1,k⟩: ∃ a',[a]=[a']/\Nn E0.G t (EV E0.G t) [] a':=ha
  injection q1 with q1
  subst q1
  rcases k with⟨k,_⟩|⟨ls,k1,k2⟩
  ·cases a with
   |pO=>exact fin .pO (Iz XU) fun n d=>Bq hh lkE n (d+1)
   |ur=>exact fin .ur (Iz e2') fun n d=>(uM hx hh (nx _ rfl rfl)).trans (s2 n d h)
   |sc v=>
    obtain rfl:v=.slice none 0 0:=by
     have k:isNil (.sc v)=true:=k
     unfold isNil at k
     split at k
     ·rename_i n c e
      injection e with e
      subst e
      have k:(Nat.beq n 0&&Nat.beq c 0)=true:=by assumption
      rw[Bool.and_eq_true]at k
      obtain rfl:=Nat.eq_of_beq_eq_true k.1
      obtain rfl:=Nat.eq_of_beq_eq_true k.2
      rfl
     ·cases k
    exact fin _ (Iz e3') fun n d=>(uM hx hh (nx _ rfl rfl)).trans (s3 n d h)
   | _=>cases k
  ·have hl:ls=[]:=k1
   subst hl
   rcases k2 with k2|⟨id,base,row,k2,_,_⟩
   ·subst k2
    exact fin .pO (Iz XU) fun n d=>Bq hh lkI n (d+1)
   ·subst k2
    exact fin .ur (Iz e2') fun n d=>(uM hx hh (nx _ rfl rfl)).trans (s4 n d h id base)
 ·have hn:((pW (PI t) [] (Qk t) [.cp t] [.cp t] fun x=>.ck (decide (List.length x.1<=B)&& !decide (List.length x.1=0)) (.ok (x.1,()))).f (cq [.cp t] (y,()))).val=some (cq [.cp t] (y,())):=by
   refine KX (P:=PI t) (ptr:=[]) (Q:=Qk t) (ti:=[.cp t]) (to:=[.cp t]) (x:=(y,())) (y:=(y,())) ?_
   show(bif (decide (List.length y<=B)&& !decide (List.length y=0))then some (y,())else none)=_
   rw[show decide (List.length y<=B)=true from h2,decide_eq_false (fun q=>hy (List.eq_nil_of_length_eq_zero q))]
   rfl
  exact hN _ _ args H0 E0 h az hn hP hv hS
theorem aar:(tA u64).Ok 67 oL:=pF (b:=Tryz.x67) (B:=1099511627776) (sz:=8) (by kernel_rfl) (by kernel_rfl) rfl (by kernel_rfl) (by kernel_rfl) (by decide) (fun x=>by kernel_rfl) (by kernel_rfl) (by kernel_rfl) (by kernel_rfl) (fun n d h=>by kernel_rfl) (fun n d h=>by kernel_rfl) (fun n d h id base=>by kernel_rfl)
theorem aas:(tA mc).Ok 69 oL:=pF (b:=Tryz.x69) (B:=1099511627776) (sz:=48) (by kernel_rfl) (by kernel_rfl) rfl (by kernel_rfl) (by kernel_rfl) (by decide) (fun x=>by kernel_rfl) (by kernel_rfl) (by kernel_rfl) (by kernel_rfl) (fun n d h=>by kernel_rfl) (fun n d h=>by kernel_rfl) (fun n d h id base=>by kernel_rfl)
theorem aau:(tA i64).Ok 70 oL:=pF (b:=Tryz.x70) (B:=1099511627776) (sz:=8) (by kernel_rfl) (by kernel_rfl) rfl (by kernel_rfl) (by kernel_rfl) (by decide) (fun x=>by kernel_rfl) (by kernel_rfl) (by kernel_rfl) (by kernel_rfl) (fun n d h=>by kernel_rfl) (fun n d h=>by kernel_rfl) (fun n d h id base=>by kernel_rfl)
theorem aav:(ZI).Ok 71 oL:=pF (b:=Tryz.x71) (B:=549755813888) (sz:=88) (by kernel_rfl) (by kernel_rfl) rfl (by kernel_rfl) (by kernel_rfl) (by decide) (fun x=>by kernel_rfl) (by kernel_rfl) (by kernel_rfl) (by kernel_rfl) (fun n d h=>by kernel_rfl) (fun n d h=>by kernel_rfl) (fun n d h id base=>by kernel_rfl)
theorem aaw:(tA nd).Ok 72 oL:=pF (b:=Tryz.x72) (B:=1099511627776) (sz:=24) (by kernel_rfl) (by kernel_rfl) rfl (by kernel_rfl) (by kernel_rfl) (by decide) (fun x=>by kernel_rfl) (by kernel_rfl) (by kernel_rfl) (by kernel_rfl) (fun n d h=>by kernel_rfl) (fun n d h=>by kernel_rfl) (fun n d h id base=>by kernel_rfl)
theorem UO:(tA AP).Ok 116 oL:=pF (b:=Tryz.aeZ) (B:=1099511627776) (sz:=40) (by kernel_rfl) (by kernel_rfl) rfl (by kernel_rfl) (by kernel_rfl) (by decide) (fun x=>by kernel_rfl) (by kernel_rfl) (by kernel_rfl) (by kernel_rfl) (fun n d h=>by kernel_rfl) (fun n d h=>by kernel_rfl) (fun n d h id base=>by kernel_rfl)
theorem UP:(tA uj).Ok 117 oL:=pF (b:=Tryz.ae0) (B:=1099511627776) (sz:=16) (by kernel_rfl) (by kernel_rfl) rfl (by kernel_rfl) (by kernel_rfl) (by decide) (fun x=>by kernel_rfl) (by kernel_rfl) (by kernel_rfl) (by kernel_rfl) (fun n d h=>by kernel_rfl) (fun n d h=>by kernel_rfl) (fun n d h id base=>by kernel_rfl)
theorem UQ:(tA AQ).Ok 118 oL:=pF (b:=Tryz.ae1) (B:=1099511627776) (sz:=40) (by kernel_rfl) (by kernel_rfl) rfl (by kernel_rfl) (by kernel_rfl) (by decide) (fun x=>by kernel_rfl) (by kernel_rfl) (by kernel_rfl) (by kernel_rfl) (fun n d h=>by kernel_rfl) (fun n d h=>by kernel_rfl) (fun n d h id base=>by kernel_rfl)
theorem UR:(tA AR).Ok 120 oL:=pF (b:=Tryz.ae2) (B:=1099511627776) (sz:=32) (by kernel_rfl) (by kernel_rfl) rfl (by kernel_rfl) (by kernel_rfl) (by decide) (fun x=>by kernel_rfl) (by kernel_rfl) (by kernel_rfl) (by kernel_rfl) (fun n d h=>by kernel_rfl) (fun n d h=>by kernel_rfl) (fun n d h id base=>by kernel_rfl)
theorem US:(tA AU).Ok 121 oL:=pF (b:=Tryz.ae3) (B:=1099511627776) (sz:=48) (by kernel_rfl) (by kernel_rfl) rfl (by kernel_rfl) (by kernel_rfl) (by decide) (fun x=>by kernel_rfl) (by kernel_rfl) (by kernel_rfl) (by kernel_rfl) (fun n d h=>by kernel_rfl) (fun n d h=>by kernel_rfl) (fun n d h id base=>by kernel_rfl)
theorem UT:(tA AW).Ok 122 oL:=pF (b:=Tryz.ae4) (B:=1099511627776) (sz:=48) (by kernel_rfl) (by kernel_rfl) rfl (by kernel_rfl) (by kernel_rfl) (by decide) (fun x=>by kernel_rfl) (by kernel_rfl) (by kernel_rfl) (by kernel_rfl) (fun n d h=>by kernel_rfl) (fun n d h=>by kernel_rfl) (fun n d h id base=>by kernel_rfl)
theorem UU:(tA AX).Ok 123 oL:=pF (b:=Tryz.ae5) (B:=1099511627776) (sz:=48) (by kernel_rfl) (by kernel_rfl) rfl (by kernel_rfl) (by kernel_rfl) (by decide) (fun x=>by kernel_rfl) (by kernel_rfl) (by kernel_rfl) (by kernel_rfl) (fun n d h=>by kernel_rfl) (fun n d h=>by kernel_rfl) (fun n d h id base=>by kernel_rfl)
theorem UW:(tA u8).Ok 124 oL:=pF (b:=Tryz.ae6) (B:=1099511627776) (sz:=1) (by kernel_rfl) (by kernel_rfl) rfl (by kernel_rfl) (by kernel_rfl) (by decide) (fun x=>by kernel_rfl) (by kernel_rfl) (by kernel_rfl) (by kernel_rfl) (fun n d h=>by kernel_rfl) (fun n d h=>by kernel_rfl) (fun n d h id base=>by kernel_rfl)
theorem UX:(tA tI).Ok 221 oL:=pF (b:=Tryz.afa) (B:=1099511627776) (sz:=64) (by kernel_rfl) (by kernel_rfl) rfl (by kernel_rfl) (by kernel_rfl) (by decide) (fun x=>by kernel_rfl) (by kernel_rfl) (by kernel_rfl) (by kernel_rfl) (fun n d h=>by kernel_rfl) (fun n d h=>by kernel_rfl) (fun n d h id base=>by kernel_rfl)
end Go.Proofs.Vq

noncomputable section
namespace Go.Proofs.Vq
open Go.Ab Go.Ab.Lf
set_option maxRecDepth 100000
abbrev tF3:List Ty:=[i64,.cp u64,.cp u64]
abbrev cL(x:Rn)(f f2:den oW)(pc:Int)(st lo:List Int):cf q8:=y5 (F7 (F7 tF3)) x (cFn (F7 tF3) f (cFn tF3 f2 (pc,st,lo,())))
abbrev zm:List Ty:=[i64,i64,u64]
theorem acI(g:Cg)(x:Rn)(f f2:den oW)(pc:Int)(st lo:List Int)(cs:List (den nd))(rj:cs=f.2.2.2.2.2.1)(c:den nd)(hc:c=cs.getD pc.toNat (cE nd))(a:cf Ez)(ha:a=cz zm ⟨x,f2,pc,st,lo⟩ (c.1,c.2.1,c.2.2,()))(F:wQ)(hF:F=cJ (Qg g a)):
 (A2 g (cq q8 (cL x f f2 pc st lo))).val=bif (bif decide (x.err=0)then decide (0<=pc)else false)then
  (bif decide ((cs.length:Int)<=pc)then(bif decide (x.err=0)then some (.out 0 (cq pZ (cz [] ⟨{x with err:=40},f2,pc,st,lo⟩ ())))else some (.out 0 (cq pZ (cz [] ⟨x,f2,pc,st,lo⟩ ()))))
   else cF (cZ pc (cs.length:Int)) (cF (Qf g a) (some (.next (cq q8 (cL F.r f F.f F.pc F.st F.lo))))))
  else some (.out 0 (cq pZ (cz [] ⟨x,f2,pc,st,lo⟩ ()))):=by
 subst hF;subst ha;subst hc;subst rj
 kernel_rfl
theorem asx(g:Cg)(x:Rn)(f:Int)(az:List Int)(fn:den oW)(hfn:fn=x.m.fns.getD f.toNat (cE oW))(a:cf q8)(ha:a=cL {x with depth:=cY .i64 x.depth 1} fn fn 0 [] (app az (List.replicate (fn.2.2.2.2.1:Int).toNat (0:Int))))(F:wQ)(hF:F=cJ (lo1 (A2 g) q8 pZ a)):
 (t73 g (y5 [i64,.cp u64] x (f,az,()))).val=cF (cZ f (x.m.fns.length:Int)) (bif decide (0<=(fn.1:Int))then none else
  bif decide (x.depth=64)then(bif decide (x.err=0)then some (cq Iw ([],y5 [] {x with err:=26} ()))else some (cq Iw ([],y5 [] x ())))
  else cF (decide (az.length<=1099511627776)) (cF (decide ((fn.2.2.2.2.1:Int)=fn.2.2.2.2.1)) (cF (decide (0<=(fn.2.2.2.2.1:Int))) (cF (roomy 8 (az.length+(List.replicate (fn.2.2.2.2.1:Int).toNat (0:Int)).length))
   (cF (ND (A2 g) q8 pZ a) (cF (decide (F.st.length<=1099511627776)) (some (cq Iw (F.st,y5 [] {F.r with depth:=cA .i64 F.r.depth 1} ()))))))))):=by
 subst hF;subst ha;subst hfn
 kernel_rfl
end Go.Proofs.Vq

noncomputable section
namespace Go.Proofs.Vq
open Go.Ab Go.Ab.Lf
set_option maxRecDepth 100000
theorem akz(x:wQ)(a b:Int):(t232 (cz [i64,i64] x (a,b,()))).val=
 bif bif decide ((x.4.length:Int)<a)then true else decide (1048576<cY .i64 (cA .i64 ((x.4.length:Int)) a) b)then
  bif decide (x.1.5=0)then
   some (cq CS (false,cz [] ({x with r:={x.r with err:=40}}) ()))
  else
  some (cq CS (false,cz [] x ()))
 else
 some (cq CS (true,cz [] x ())):=by kernel_rfl
theorem acJ(x:wQ)(o a n:Int):(t307 (cz [i64,i64,u64] x (o,a,n,()))).val=
 bif decide (o=32)then
  cF (sO (cz [i64,i64] x (0,1,()))) (
  bif (cu (cz [i64,i64] x (0,1,()))).1 then
   cF (cZ a (Int.ofNat (List.length (cJ (cu (cz [i64,i64] x (0,1,()))).2).lo))) (
   cF (roomy 8 (List.length (cJ (cu (cz [i64,i64] x (0,1,()))).2).st+[List.getD (cJ (cu (cz [i64,i64] x (0,1,()))).2).lo a.toNat (cE (Ty.int .u64))].length)) (
   some (cq qo (cz [] ({(cJ (cu (cz [i64,i64] x (0,1,()))).2)with st:=(app (cJ (cu (cz [i64,i64] x (0,1,()))).2).st [List.getD (cJ (cu (cz [i64,i64] x (0,1,()))).2).lo a.toNat (cE (Ty.int .u64))])}) ()))))
  else
  some (cq qo (cz [] (cJ (cu (cz [i64,i64] x (0,1,()))).2) ())))
 else
 bif decide (o=33)then
  cF (sO (cz [i64,i64] x (1,0,()))) (
  bif (cu (cz [i64,i64] x (1,0,()))).1 then
   cF (cZ (cA .i64 (Int.ofNat (List.length (cJ (cu (cz [i64,i64] x (1,0,()))).2).st)) (1)) (Int.ofNat (List.length (cJ (cu (cz [i64,i64] x (1,0,()))).2).st))) (
   cF (nH (0) (cA .i64 (Int.ofNat (List.length (cJ (cu (cz [i64,i64] x (1,0,()))).2).st)) (1)) (Int.ofNat (List.length (cJ (cu (cz [i64,i64] x (1,0,()))).2).st))) (
   cF (decide (a=a)) (
   cF (cZ a (Int.ofNat (List.length (cJ (cu (cz [i64,i64] x (1,0,()))).2).lo))) (
   some (cq qo (cz [] ({(cJ (cu (cz [i64,i64] x (1,0,()))).2)with st:=(List.take ((cA .i64 (Int.ofNat (List.length (cJ (cu (cz [i64,i64] x (1,0,()))).2).st)) (1)).toNat - (0:Int).toNat) (List.drop (0:Int).toNat (cJ (cu (cz [i64,i64] x (1,0,()))).2).st)),lo:=(List.set (cJ (cu (cz [i64,i64] x (1,0,()))).2).lo a.toNat (List.getD (cJ (cu (cz [i64,i64] x (1,0,()))).2).st (cA .i64 (Int.ofNat (List.length (cJ (cu (cz [i64,i64] x (1,0,()))).2).st)) (1)).toNat (cE (Ty.int .u64))))}) ()))))))
  else
  some (cq qo (cz [] (cJ (cu (cz [i64,i64] x (1,0,()))).2) ())))
 else
 bif decide (o=34)then
  cF (sO (cz [i64,i64] x (1,1,()))) (
  bif (cu (cz [i64,i64] x (1,1,()))).1 then
   cF (cZ (cA .i64 (Int.ofNat (List.length (cJ (cu (cz [i64,i64] x (1,1,()))).2).st)) (1)) (Int.ofNat (List.length (cJ (cu (cz [i64,i64] x (1,1,()))).2).st))) (
   cF (cZ a (Int.ofNat (List.length (cJ (cu (cz [i64,i64] x (1,1,()))).2).lo))) (
   some (cq qo (cz [] ({(cJ (cu (cz [i64,i64] x (1,1,()))).2)with lo:=(List.set (cJ (cu (cz [i64,i64] x (1,1,()))).2).lo a.toNat (List.getD (cJ (cu (cz [i64,i64] x (1,1,()))).2).st (cA .i64 (Int.ofNat (List.length (cJ (cu (cz [i64,i64] x (1,1,()))).2).st)) (1)).toNat (cE (Ty.int .u64))))}) ()))))
  else
  some (cq qo (cz [] (cJ (cu (cz [i64,i64] x (1,1,()))).2) ())))
 else
 bif decide (o=35)then
  bif bif decide (a<0)then true else decide ((x.1.m.3.1.length:Int)<=a)then
   bif decide (x.1.5=0)then
    some (cq qo (cz [] ({x with r:={x.r with err:=40}}) ()))
   else
   some (cq qo (cz [] x ()))
  else
  cF (cZ a ((x.1.m.3.1.length:Int))) (
  cF (sO (cz [i64,i64] x (0,1,()))) (
  bif (cu (cz [i64,i64] x (0,1,()))).1 then
   cF (roomy 8 (List.length (cJ (cu (cz [i64,i64] x (0,1,()))).2).st+[x.1.m.3.1.getD a.toNat (cE (Ty.int .u64))].length)) (
   some (cq qo (cz [] ({(cJ (cu (cz [i64,i64] x (0,1,()))).2)with st:=(app (cJ (cu (cz [i64,i64] x (0,1,()))).2).st [x.1.m.3.1.getD a.toNat (cE (Ty.int .u64))])}) ())))
  else
  some (cq qo (cz [] (cJ (cu (cz [i64,i64] x (0,1,()))).2) ()))))
 else
 bif decide (o=36)then
  bif bif decide (a<0)then true else decide ((x.1.m.3.1.length:Int)<=a)then
   bif decide (x.1.5=0)then
    some (cq qo (cz [] ({x with r:={x.r with err:=40}}) ()))
   else
   some (cq qo (cz [] x ()))
  else
  cF (cZ a ((x.1.m.3.1.length:Int))) (
  cF (sO (cz [i64,i64] x (1,0,()))) (
  bif (cu (cz [i64,i64] x (1,0,()))).1 then
   cF (cZ (cA .i64 (Int.ofNat (List.length (cJ (cu (cz [i64,i64] x (1,0,()))).2).st)) (1)) (Int.ofNat (List.length (cJ (cu (cz [i64,i64] x (1,0,()))).2).st))) (
   cF (nH (0) (cA .i64 (Int.ofNat (List.length (cJ (cu (cz [i64,i64] x (1,0,()))).2).st)) (1)) (Int.ofNat (List.length (cJ (cu (cz [i64,i64] x (1,0,()))).2).st))) (
   cF (decide (a=a)) (
   bif bif decide (a<0)then true else decide (Int.ofNat (List.length (cJ (cu (cz [i64,i64] x (1,0,()))).2).r.m.s.Im)<=a)then
    some (cq qo (cz [] ({(cJ (cu (cz [i64,i64] x (1,0,()))).2)with st:=(List.take ((cA .i64 (Int.ofNat (List.length (cJ (cu (cz [i64,i64] x (1,0,()))).2).st)) (1)).toNat - (0:Int).toNat) (List.drop (0:Int).toNat (cJ (cu (cz [i64,i64] x (1,0,()))).2).st))}) ()))
   else
   cF (cZ a (Int.ofNat (List.length (cJ (cu (cz [i64,i64] x (1,0,()))).2).r.m.s.small))) (
   bif decide (List.getD (cJ (cu (cz [i64,i64] x (1,0,()))).2).r.m.s.small a.toNat (cE (Ty.int .i64))=1)then
    cF (cZ a (Int.ofNat (List.length (cJ (cu (cz [i64,i64] x (1,0,()))).2).r.m.s.Im))) (
    some (cq qo (cz [] ({(cJ (cu (cz [i64,i64] x (1,0,()))).2)with r:={(cJ (cu (cz [i64,i64] x (1,0,()))).2).r with m:={(cJ (cu (cz [i64,i64] x (1,0,()))).2).r.m with s:={(cJ (cu (cz [i64,i64] x (1,0,()))).2).r.m.s with Im:=(List.set (cJ (cu (cz [i64,i64] x (1,0,()))).2).r.m.s.Im a.toNat (mN .u64 (List.getD (cJ (cu (cz [i64,i64] x (1,0,()))).2).st (cA .i64 (Int.ofNat (List.length (cJ (cu (cz [i64,i64] x (1,0,()))).2).st)) (1)).toNat (cE (Ty.int .u64))) (4294967295)))}}},st:=(List.take ((cA .i64 (Int.ofNat (List.length (cJ (cu (cz [i64,i64] x (1,0,()))).2).st)) (1)).toNat - (0:Int).toNat) (List.drop (0:Int).toNat (cJ (cu (cz [i64,i64] x (1,0,()))).2).st))}) ())))
   else
   cF (cZ a (Int.ofNat (List.length (cJ (cu (cz [i64,i64] x (1,0,()))).2).r.m.s.Im))) (
   some (cq qo (cz [] ({(cJ (cu (cz [i64,i64] x (1,0,()))).2)with r:={(cJ (cu (cz [i64,i64] x (1,0,()))).2).r with m:={(cJ (cu (cz [i64,i64] x (1,0,()))).2).r.m with s:={(cJ (cu (cz [i64,i64] x (1,0,()))).2).r.m.s with Im:=(List.set (cJ (cu (cz [i64,i64] x (1,0,()))).2).r.m.s.Im a.toNat (List.getD (cJ (cu (cz [i64,i64] x (1,0,()))).2).st (cA .i64 (Int.ofNat (List.length (cJ (cu (cz [i64,i64] x (1,0,()))).2).st)) (1)).toNat (cE (Ty.int .u64))))}}},st:=(List.take ((cA .i64 (Int.ofNat (List.length (cJ (cu (cz [i64,i64] x (1,0,()))).2).st)) (1)).toNat - (0:Int).toNat) (List.drop (0:Int).toNat (cJ (cu (cz [i64,i64] x (1,0,()))).2).st))}) ())))))))
  else
  some (cq qo (cz [] (cJ (cu (cz [i64,i64] x (1,0,()))).2) ()))))
 else
 some (cq qo (cz [] x ())):=by kernel_rfl
theorem IA(x:wQ)(o a n:Int):(t236 (cz [i64,i64,u64] x (o,a,n,()))).val=
 bif decide (o=257)then
  bif decide (x.1.2=0)then
   bif decide (x.1.5=0)then
    some (cq pj (cz [] ({x with r:={x.r with err:=27}}) ()))
   else
   some (cq pj (cz [] x ()))
  else
  some (cq pj (cz [] ({x with r:={x.r with fuel:=(cA .i64 x.1.2 (1))}}) ()))
 else
 bif decide (o=256)then
  cF (sO (cz [i64,i64] x (cY .i64 a (cb .i64 n),a,()))) (
  bif (cu (cz [i64,i64] x (cY .i64 a (cb .i64 n),a,()))).1 then
   none
  else
  some (cq pj (cz [] (cJ (cu (cz [i64,i64] x (cY .i64 a (cb .i64 n),a,()))).2) ())))
 else
 bif decide (o=26)then
  cF (sO (cz [i64,i64] x (1,0,()))) (
  bif (cu (cz [i64,i64] x (1,0,()))).1 then
   cF (cZ (cA .i64 (Int.ofNat (List.length (cJ (cu (cz [i64,i64] x (1,0,()))).2).st)) (1)) (Int.ofNat (List.length (cJ (cu (cz [i64,i64] x (1,0,()))).2).st))) (
   cF (nH (0) (cA .i64 (Int.ofNat (List.length (cJ (cu (cz [i64,i64] x (1,0,()))).2).st)) (1)) (Int.ofNat (List.length (cJ (cu (cz [i64,i64] x (1,0,()))).2).st))) (
   some (cq pj (cz [] ({(cJ (cu (cz [i64,i64] x (1,0,()))).2)with st:=(List.take ((cA .i64 (Int.ofNat (List.length (cJ (cu (cz [i64,i64] x (1,0,()))).2).st)) (1)).toNat - (0:Int).toNat) (List.drop (0:Int).toNat (cJ (cu (cz [i64,i64] x (1,0,()))).2).st))}) ()))))
  else
  some (cq pj (cz [] (cJ (cu (cz [i64,i64] x (1,0,()))).2) ())))
 else
 bif decide (o=27)then
  cF (sO (cz [i64,i64] x (3,1,()))) (
  bif (cu (cz [i64,i64] x (3,1,()))).1 then
   cF (cZ (cA .i64 (Int.ofNat (List.length (cJ (cu (cz [i64,i64] x (3,1,()))).2).st)) (1)) (Int.ofNat (List.length (cJ (cu (cz [i64,i64] x (3,1,()))).2).st))) (
   cF (nH (0) (cA .i64 (Int.ofNat (List.length (cJ (cu (cz [i64,i64] x (3,1,()))).2).st)) (1)) (Int.ofNat (List.length (cJ (cu (cz [i64,i64] x (3,1,()))).2).st))) (
   cF (cZ (cA .i64 (Int.ofNat ((cA .i64 (Int.ofNat (List.length (cJ (cu (cz [i64,i64] x (3,1,()))).2).st)) (1)).toNat - (0:Int).toNat)) (1)) (Int.ofNat ((cA .i64 (Int.ofNat (List.length (cJ (cu (cz [i64,i64] x (3,1,()))).2).st)) (1)).toNat - (0:Int).toNat))) (
   cF (nH (0) (cA .i64 (Int.ofNat ((cA .i64 (Int.ofNat (List.length (cJ (cu (cz [i64,i64] x (3,1,()))).2).st)) (1)).toNat - (0:Int).toNat)) (1)) (Int.ofNat ((cA .i64 (Int.ofNat (List.length (cJ (cu (cz [i64,i64] x (3,1,()))).2).st)) (1)).toNat - (0:Int).toNat))) (
   cF (cZ (cA .i64 (Int.ofNat ((cA .i64 (Int.ofNat ((cA .i64 (Int.ofNat (List.length (cJ (cu (cz [i64,i64] x (3,1,()))).2).st)) (1)).toNat - (0:Int).toNat)) (1)).toNat - (0:Int).toNat)) (1)) (Int.ofNat ((cA .i64 (Int.ofNat ((cA .i64 (Int.ofNat (List.length (cJ (cu (cz [i64,i64] x (3,1,()))).2).st)) (1)).toNat - (0:Int).toNat)) (1)).toNat - (0:Int).toNat))) (
   cF (nH (0) (cA .i64 (Int.ofNat ((cA .i64 (Int.ofNat ((cA .i64 (Int.ofNat (List.length (cJ (cu (cz [i64,i64] x (3,1,()))).2).st)) (1)).toNat - (0:Int).toNat)) (1)).toNat - (0:Int).toNat)) (1)) (Int.ofNat ((cA .i64 (Int.ofNat ((cA .i64 (Int.ofNat (List.length (cJ (cu (cz [i64,i64] x (3,1,()))).2).st)) (1)).toNat - (0:Int).toNat)) (1)).toNat - (0:Int).toNat))) (
   bif decide (cb .u32 (List.getD (cJ (cu (cz [i64,i64] x (3,1,()))).2).st (cA .i64 (Int.ofNat (List.length (cJ (cu (cz [i64,i64] x (3,1,()))).2).st)) (1)).toNat (cE (Ty.int .u64)))=0)then
    cF (roomy 8 ((List.take ((cA .i64 (Int.ofNat ((cA .i64 (Int.ofNat ((cA .i64 (Int.ofNat (List.length (cJ (cu (cz [i64,i64] x (3,1,()))).2).st)) (1)).toNat - (0:Int).toNat)) (1)).toNat - (0:Int).toNat)) (1)).toNat - (0:Int).toNat) (List.drop ((0:Int).toNat+(0:Int).toNat+(0:Int).toNat) (cJ (cu (cz [i64,i64] x (3,1,()))).2).st)).length+[List.getD (cJ (cu (cz [i64,i64] x (3,1,()))).2).st ((0:Int).toNat+(cA .i64 (Int.ofNat ((cA .i64 (Int.ofNat (List.length (cJ (cu (cz [i64,i64] x (3,1,()))).2).st)) (1)).toNat - (0:Int).toNat)) (1)).toNat) (cE (Ty.int .u64))].length)) (
    some (cq pj (cz [] ({(cJ (cu (cz [i64,i64] x (3,1,()))).2)with st:=(app (List.take ((cA .i64 (Int.ofNat ((cA .i64 (Int.ofNat ((cA .i64 (Int.ofNat (List.length (cJ (cu (cz [i64,i64] x (3,1,()))).2).st)) (1)).toNat - (0:Int).toNat)) (1)).toNat - (0:Int).toNat)) (1)).toNat - (0:Int).toNat) (List.drop ((0:Int).toNat+(0:Int).toNat+(0:Int).toNat) (cJ (cu (cz [i64,i64] x (3,1,()))).2).st)) [List.getD (cJ (cu (cz [i64,i64] x (3,1,()))).2).st ((0:Int).toNat+(cA .i64 (Int.ofNat ((cA .i64 (Int.ofNat (List.length (cJ (cu (cz [i64,i64] x (3,1,()))).2).st)) (1)).toNat - (0:Int).toNat)) (1)).toNat) (cE (Ty.int .u64))])}) ())))
   else
   cF (roomy 8 ((List.take ((cA .i64 (Int.ofNat ((cA .i64 (Int.ofNat ((cA .i64 (Int.ofNat (List.length (cJ (cu (cz [i64,i64] x (3,1,()))).2).st)) (1)).toNat - (0:Int).toNat)) (1)).toNat - (0:Int).toNat)) (1)).toNat - (0:Int).toNat) (List.drop ((0:Int).toNat+(0:Int).toNat+(0:Int).toNat) (cJ (cu (cz [i64,i64] x (3,1,()))).2).st)).length+[List.getD (cJ (cu (cz [i64,i64] x (3,1,()))).2).st ((0:Int).toNat+(0:Int).toNat+(cA .i64 (Int.ofNat ((cA .i64 (Int.ofNat ((cA .i64 (Int.ofNat (List.length (cJ (cu (cz [i64,i64] x (3,1,()))).2).st)) (1)).toNat - (0:Int).toNat)) (1)).toNat - (0:Int).toNat)) (1)).toNat) (cE (Ty.int .u64))].length)) (
   some (cq pj (cz [] ({(cJ (cu (cz [i64,i64] x (3,1,()))).2)with st:=(app (List.take ((cA .i64 (Int.ofNat ((cA .i64 (Int.ofNat ((cA .i64 (Int.ofNat (List.length (cJ (cu (cz [i64,i64] x (3,1,()))).2).st)) (1)).toNat - (0:Int).toNat)) (1)).toNat - (0:Int).toNat)) (1)).toNat - (0:Int).toNat) (List.drop ((0:Int).toNat+(0:Int).toNat+(0:Int).toNat) (cJ (cu (cz [i64,i64] x (3,1,()))).2).st)) [List.getD (cJ (cu (cz [i64,i64] x (3,1,()))).2).st ((0:Int).toNat+(0:Int).toNat+(cA .i64 (Int.ofNat ((cA .i64 (Int.ofNat ((cA .i64 (Int.ofNat (List.length (cJ (cu (cz [i64,i64] x (3,1,()))).2).st)) (1)).toNat - (0:Int).toNat)) (1)).toNat - (0:Int).toNat)) (1)).toNat) (cE (Ty.int .u64))])}) ())))))))))
  else
  some (cq pj (cz [] (cJ (cu (cz [i64,i64] x (3,1,()))).2) ())))
 else
 bif decide (o=66)then
  cF (sO (cz [i64,i64] x (0,1,()))) (
  bif (cu (cz [i64,i64] x (0,1,()))).1 then
   cF (roomy 8 (List.length (cJ (cu (cz [i64,i64] x (0,1,()))).2).st+[n].length)) (
   some (cq pj (cz [] ({(cJ (cu (cz [i64,i64] x (0,1,()))).2)with st:=(app (cJ (cu (cz [i64,i64] x (0,1,()))).2).st [n])}) ())))
  else
  some (cq pj (cz [] (cJ (cu (cz [i64,i64] x (0,1,()))).2) ())))
 else
 bif bif decide (32<=o)then decide (o<=36)else false then
  cF (afC (cz [i64,i64,u64] x (o,a,n,()))) (
  some (cq pj (cz [] (cJ (afD (cz [i64,i64,u64] x (o,a,n,())))) ())))
 else
 bif bif decide (40<=o)then decide (o<=64)else false then
  cF (aka (cz [i64,i64,u64] x (o,a,n,()))) (
  some (cq pj (cz [] (cJ (akb (cz [i64,i64,u64] x (o,a,n,())))) ())))
 else
 cF (wP (o,())) (
 bif decide ((m11 (o,())).1=1)then
  cF (sO (cz [i64,i64] x (1,1,()))) (
  bif (cu (cz [i64,i64] x (1,1,()))).1 then
   cF (cZ (cA .i64 (Int.ofNat (List.length (cJ (cu (cz [i64,i64] x (1,1,()))).2).st)) (1)) (Int.ofNat (List.length (cJ (cu (cz [i64,i64] x (1,1,()))).2).st))) (
   cF (nH (0) (cA .i64 (Int.ofNat (List.length (cJ (cu (cz [i64,i64] x (1,1,()))).2).st)) (1)) (Int.ofNat (List.length (cJ (cu (cz [i64,i64] x (1,1,()))).2).st))) (
   cF (decide (o=o)) (
   cF (Xe (o,List.getD (cJ (cu (cz [i64,i64] x (1,1,()))).2).st (cA .i64 (Int.ofNat (List.length (cJ (cu (cz [i64,i64] x (1,1,()))).2).st)) (1)).toNat (cE (Ty.int .u64)),())) (
   bif bif !decide ((m13 (o,List.getD (cJ (cu (cz [i64,i64] x (1,1,()))).2).st (cA .i64 (Int.ofNat (List.length (cJ (cu (cz [i64,i64] x (1,1,()))).2).st)) (1)).toNat (cE (Ty.int .u64)),())).2.1=0)then decide ((cJ (cu (cz [i64,i64] x (1,1,()))).2).r.err=0)else false then
    cF (roomy 8 ((List.take ((cA .i64 (Int.ofNat (List.length (cJ (cu (cz [i64,i64] x (1,1,()))).2).st)) (1)).toNat - (0:Int).toNat) (List.drop (0:Int).toNat (cJ (cu (cz [i64,i64] x (1,1,()))).2).st)).length+[(m13 (o,List.getD (cJ (cu (cz [i64,i64] x (1,1,()))).2).st (cA .i64 (Int.ofNat (List.length (cJ (cu (cz [i64,i64] x (1,1,()))).2).st)) (1)).toNat (cE (Ty.int .u64)),())).1].length)) (
    some (cq pj (cz [] ({(cJ (cu (cz [i64,i64] x (1,1,()))).2)with r:={(cJ (cu (cz [i64,i64] x (1,1,()))).2).r with err:=(m13 (o,List.getD (cJ (cu (cz [i64,i64] x (1,1,()))).2).st (cA .i64 (Int.ofNat (List.length (cJ (cu (cz [i64,i64] x (1,1,()))).2).st)) (1)).toNat (cE (Ty.int .u64)),())).2.1},st:=(app (List.take ((cA .i64 (Int.ofNat (List.length (cJ (cu (cz [i64,i64] x (1,1,()))).2).st)) (1)).toNat - (0:Int).toNat) (List.drop (0:Int).toNat (cJ (cu (cz [i64,i64] x (1,1,()))).2).st)) [(m13 (o,List.getD (cJ (cu (cz [i64,i64] x (1,1,()))).2).st (cA .i64 (Int.ofNat (List.length (cJ (cu (cz [i64,i64] x (1,1,()))).2).st)) (1)).toNat (cE (Ty.int .u64)),())).1])}) ())))
   else
   cF (roomy 8 ((List.take ((cA .i64 (Int.ofNat (List.length (cJ (cu (cz [i64,i64] x (1,1,()))).2).st)) (1)).toNat - (0:Int).toNat) (List.drop (0:Int).toNat (cJ (cu (cz [i64,i64] x (1,1,()))).2).st)).length+[(m13 (o,List.getD (cJ (cu (cz [i64,i64] x (1,1,()))).2).st (cA .i64 (Int.ofNat (List.length (cJ (cu (cz [i64,i64] x (1,1,()))).2).st)) (1)).toNat (cE (Ty.int .u64)),())).1].length)) (
   some (cq pj (cz [] ({(cJ (cu (cz [i64,i64] x (1,1,()))).2)with st:=(app (List.take ((cA .i64 (Int.ofNat (List.length (cJ (cu (cz [i64,i64] x (1,1,()))).2).st)) (1)).toNat - (0:Int).toNat) (List.drop (0:Int).toNat (cJ (cu (cz [i64,i64] x (1,1,()))).2).st)) [(m13 (o,List.getD (cJ (cu (cz [i64,i64] x (1,1,()))).2).st (cA .i64 (Int.ofNat (List.length (cJ (cu (cz [i64,i64] x (1,1,()))).2).st)) (1)).toNat (cE (Ty.int .u64)),())).1])}) ())))))))
  else
  some (cq pj (cz [] (cJ (cu (cz [i64,i64] x (1,1,()))).2) ())))
 else
 cF (sO (cz [i64,i64] x (2,1,()))) (
 bif (cu (cz [i64,i64] x (2,1,()))).1 then
  cF (cZ (cA .i64 (Int.ofNat (List.length (cJ (cu (cz [i64,i64] x (2,1,()))).2).st)) (1)) (Int.ofNat (List.length (cJ (cu (cz [i64,i64] x (2,1,()))).2).st))) (
  cF (nH (0) (cA .i64 (Int.ofNat (List.length (cJ (cu (cz [i64,i64] x (2,1,()))).2).st)) (1)) (Int.ofNat (List.length (cJ (cu (cz [i64,i64] x (2,1,()))).2).st))) (
  cF (cZ (cA .i64 (Int.ofNat ((cA .i64 (Int.ofNat (List.length (cJ (cu (cz [i64,i64] x (2,1,()))).2).st)) (1)).toNat - (0:Int).toNat)) (1)) (Int.ofNat ((cA .i64 (Int.ofNat (List.length (cJ (cu (cz [i64,i64] x (2,1,()))).2).st)) (1)).toNat - (0:Int).toNat))) (
  cF (nH (0) (cA .i64 (Int.ofNat ((cA .i64 (Int.ofNat (List.length (cJ (cu (cz [i64,i64] x (2,1,()))).2).st)) (1)).toNat - (0:Int).toNat)) (1)) (Int.ofNat ((cA .i64 (Int.ofNat (List.length (cJ (cu (cz [i64,i64] x (2,1,()))).2).st)) (1)).toNat - (0:Int).toNat))) (
  cF (F' (o,List.getD (cJ (cu (cz [i64,i64] x (2,1,()))).2).st ((0:Int).toNat+(cA .i64 (Int.ofNat ((cA .i64 (Int.ofNat (List.length (cJ (cu (cz [i64,i64] x (2,1,()))).2).st)) (1)).toNat - (0:Int).toNat)) (1)).toNat) (cE (Ty.int .u64)),List.getD (cJ (cu (cz [i64,i64] x (2,1,()))).2).st (cA .i64 (Int.ofNat (List.length (cJ (cu (cz [i64,i64] x (2,1,()))).2).st)) (1)).toNat (cE (Ty.int .u64)),())) (
  bif bif !decide ((m12 (o,List.getD (cJ (cu (cz [i64,i64] x (2,1,()))).2).st ((0:Int).toNat+(cA .i64 (Int.ofNat ((cA .i64 (Int.ofNat (List.length (cJ (cu (cz [i64,i64] x (2,1,()))).2).st)) (1)).toNat - (0:Int).toNat)) (1)).toNat) (cE (Ty.int .u64)),List.getD (cJ (cu (cz [i64,i64] x (2,1,()))).2).st (cA .i64 (Int.ofNat (List.length (cJ (cu (cz [i64,i64] x (2,1,()))).2).st)) (1)).toNat (cE (Ty.int .u64)),())).2.1=0)then decide ((cJ (cu (cz [i64,i64] x (2,1,()))).2).r.err=0)else false then
   cF (roomy 8 ((List.take ((cA .i64 (Int.ofNat ((cA .i64 (Int.ofNat (List.length (cJ (cu (cz [i64,i64] x (2,1,()))).2).st)) (1)).toNat - (0:Int).toNat)) (1)).toNat - (0:Int).toNat) (List.drop ((0:Int).toNat+(0:Int).toNat) (cJ (cu (cz [i64,i64] x (2,1,()))).2).st)).length+[(m12 (o,List.getD (cJ (cu (cz [i64,i64] x (2,1,()))).2).st ((0:Int).toNat+(cA .i64 (Int.ofNat ((cA .i64 (Int.ofNat (List.length (cJ (cu (cz [i64,i64] x (2,1,()))).2).st)) (1)).toNat - (0:Int).toNat)) (1)).toNat) (cE (Ty.int .u64)),List.getD (cJ (cu (cz [i64,i64] x (2,1,()))).2).st (cA .i64 (Int.ofNat (List.length (cJ (cu (cz [i64,i64] x (2,1,()))).2).st)) (1)).toNat (cE (Ty.int .u64)),())).1].length)) (
   some (cq pj (cz [] ({(cJ (cu (cz [i64,i64] x (2,1,()))).2)with r:={(cJ (cu (cz [i64,i64] x (2,1,()))).2).r with err:=(m12 (o,List.getD (cJ (cu (cz [i64,i64] x (2,1,()))).2).st ((0:Int).toNat+(cA .i64 (Int.ofNat ((cA .i64 (Int.ofNat (List.length (cJ (cu (cz [i64,i64] x (2,1,()))).2).st)) (1)).toNat - (0:Int).toNat)) (1)).toNat) (cE (Ty.int .u64)),List.getD (cJ (cu (cz [i64,i64] x (2,1,()))).2).st (cA .i64 (Int.ofNat (List.length (cJ (cu (cz [i64,i64] x (2,1,()))).2).st)) (1)).toNat (cE (Ty.int .u64)),())).2.1},st:=(app (List.take ((cA .i64 (Int.ofNat ((cA .i64 (Int.ofNat (List.length (cJ (cu (cz [i64,i64] x (2,1,()))).2).st)) (1)).toNat - (0:Int).toNat)) (1)).toNat - (0:Int).toNat) (List.drop ((0:Int).toNat+(0:Int).toNat) (cJ (cu (cz [i64,i64] x (2,1,()))).2).st)) [(m12 (o,List.getD (cJ (cu (cz [i64,i64] x (2,1,()))).2).st ((0:Int).toNat+(cA .i64 (Int.ofNat ((cA .i64 (Int.ofNat (List.length (cJ (cu (cz [i64,i64] x (2,1,()))).2).st)) (1)).toNat - (0:Int).toNat)) (1)).toNat) (cE (Ty.int .u64)),List.getD (cJ (cu (cz [i64,i64] x (2,1,()))).2).st (cA .i64 (Int.ofNat (List.length (cJ (cu (cz [i64,i64] x (2,1,()))).2).st)) (1)).toNat (cE (Ty.int .u64)),())).1])}) ())))
  else
  cF (roomy 8 ((List.take ((cA .i64 (Int.ofNat ((cA .i64 (Int.ofNat (List.length (cJ (cu (cz [i64,i64] x (2,1,()))).2).st)) (1)).toNat - (0:Int).toNat)) (1)).toNat - (0:Int).toNat) (List.drop ((0:Int).toNat+(0:Int).toNat) (cJ (cu (cz [i64,i64] x (2,1,()))).2).st)).length+[(m12 (o,List.getD (cJ (cu (cz [i64,i64] x (2,1,()))).2).st ((0:Int).toNat+(cA .i64 (Int.ofNat ((cA .i64 (Int.ofNat (List.length (cJ (cu (cz [i64,i64] x (2,1,()))).2).st)) (1)).toNat - (0:Int).toNat)) (1)).toNat) (cE (Ty.int .u64)),List.getD (cJ (cu (cz [i64,i64] x (2,1,()))).2).st (cA .i64 (Int.ofNat (List.length (cJ (cu (cz [i64,i64] x (2,1,()))).2).st)) (1)).toNat (cE (Ty.int .u64)),())).1].length)) (
  some (cq pj (cz [] ({(cJ (cu (cz [i64,i64] x (2,1,()))).2)with st:=(app (List.take ((cA .i64 (Int.ofNat ((cA .i64 (Int.ofNat (List.length (cJ (cu (cz [i64,i64] x (2,1,()))).2).st)) (1)).toNat - (0:Int).toNat)) (1)).toNat - (0:Int).toNat) (List.drop ((0:Int).toNat+(0:Int).toNat) (cJ (cu (cz [i64,i64] x (2,1,()))).2).st)) [(m12 (o,List.getD (cJ (cu (cz [i64,i64] x (2,1,()))).2).st ((0:Int).toNat+(cA .i64 (Int.ofNat ((cA .i64 (Int.ofNat (List.length (cJ (cu (cz [i64,i64] x (2,1,()))).2).st)) (1)).toNat - (0:Int).toNat)) (1)).toNat) (cE (Ty.int .u64)),List.getD (cJ (cu (cz [i64,i64] x (2,1,()))).2).st (cA .i64 (Int.ofNat (List.length (cJ (cu (cz [i64,i64] x (2,1,()))).2).st)) (1)).toNat (cE (Ty.int .u64)),())).1])}) ()))))))))
 else
 some (cq pj (cz [] (cJ (cu (cz [i64,i64] x (2,1,()))).2) ())))):=by kernel_rfl
theorem acK(g:Cg)(x:wQ)(o a n:Int):(t134 g (cz [i64,i64,u64] x (o,a,n,()))).val=
 bif decide (o=0)then
  bif decide (x.1.5=0)then
   some (cq rT (cz [] ({x with r:={x.r with err:=20}}) ()))
  else
  some (cq rT (cz [] x ()))
 else
 bif decide (o=12)then
  cF (afE (cz [i64] x (a,()))) (
  some (cq rT (cz [] (cJ (afF (cz [i64] x (a,())))) ())))
 else
 bif decide (o=13)then
  cF (sO (cz [i64,i64] x (1,0,()))) (
  bif (cu (cz [i64,i64] x (1,0,()))).1 then
   cF (cZ (cA .i64 (Int.ofNat (List.length (cJ (cu (cz [i64,i64] x (1,0,()))).2).st)) (1)) (Int.ofNat (List.length (cJ (cu (cz [i64,i64] x (1,0,()))).2).st))) (
   cF (nH (0) (cA .i64 (Int.ofNat (List.length (cJ (cu (cz [i64,i64] x (1,0,()))).2).st)) (1)) (Int.ofNat (List.length (cJ (cu (cz [i64,i64] x (1,0,()))).2).st))) (
   bif !decide (cb .u32 (List.getD (cJ (cu (cz [i64,i64] x (1,0,()))).2).st (cA .i64 (Int.ofNat (List.length (cJ (cu (cz [i64,i64] x (1,0,()))).2).st)) (1)).toNat (cE (Ty.int .u64)))=0)then
    cF (afE (cz [i64] ({(cJ (cu (cz [i64,i64] x (1,0,()))).2)with st:=(List.take ((cA .i64 (Int.ofNat (List.length (cJ (cu (cz [i64,i64] x (1,0,()))).2).st)) (1)).toNat - (0:Int).toNat) (List.drop (0:Int).toNat (cJ (cu (cz [i64,i64] x (1,0,()))).2).st))}) (a,()))) (
    some (cq rT (cz [] (cJ (afF (cz [i64] ({(cJ (cu (cz [i64,i64] x (1,0,()))).2)with st:=(List.take ((cA .i64 (Int.ofNat (List.length (cJ (cu (cz [i64,i64] x (1,0,()))).2).st)) (1)).toNat - (0:Int).toNat) (List.drop (0:Int).toNat (cJ (cu (cz [i64,i64] x (1,0,()))).2).st))}) (a,())))) ())))
   else
   some (cq rT (cz [] ({(cJ (cu (cz [i64,i64] x (1,0,()))).2)with pc:=(cY .i64 (cJ (cu (cz [i64,i64] x (1,0,()))).2).pc (1)),st:=(List.take ((cA .i64 (Int.ofNat (List.length (cJ (cu (cz [i64,i64] x (1,0,()))).2).st)) (1)).toNat - (0:Int).toNat) (List.drop (0:Int).toNat (cJ (cu (cz [i64,i64] x (1,0,()))).2).st))}) ()))))
  else
  some (cq rT (cz [] (cJ (cu (cz [i64,i64] x (1,0,()))).2) ())))
 else
 bif decide (o=14)then
  cF (sO (cz [i64,i64] x (1,0,()))) (
  bif (cu (cz [i64,i64] x (1,0,()))).1 then
   cF (cZ (cA .i64 (Int.ofNat (List.length (cJ (cu (cz [i64,i64] x (1,0,()))).2).st)) (1)) (Int.ofNat (List.length (cJ (cu (cz [i64,i64] x (1,0,()))).2).st))) (
   cF (nH (0) (cA .i64 (Int.ofNat (List.length (cJ (cu (cz [i64,i64] x (1,0,()))).2).st)) (1)) (Int.ofNat (List.length (cJ (cu (cz [i64,i64] x (1,0,()))).2).st))) (
   cF (decide ((cJ (cu (cz [i64,i64] x (1,0,()))).2).pc=(cJ (cu (cz [i64,i64] x (1,0,()))).2).pc)) (
   cF (decide (a=a)) (
   some (cq rT (cz [] ({(cJ (cu (cz [i64,i64] x (1,0,()))).2)with pc:=(cY .i64 (cJ (cu (cz [i64,i64] x (1,0,()))).2).pc (cY .i64 (1) (cb .i64 (min (cb .u64 (cb .u32 (List.getD (cJ (cu (cz [i64,i64] x (1,0,()))).2).st (cA .i64 (Int.ofNat (List.length (cJ (cu (cz [i64,i64] x (1,0,()))).2).st)) (1)).toNat (cE (Ty.int .u64))))) (cb .u64 a))))),st:=(List.take ((cA .i64 (Int.ofNat (List.length (cJ (cu (cz [i64,i64] x (1,0,()))).2).st)) (1)).toNat - (0:Int).toNat) (List.drop (0:Int).toNat (cJ (cu (cz [i64,i64] x (1,0,()))).2).st))}) ()))))))
  else
  some (cq rT (cz [] (cJ (cu (cz [i64,i64] x (1,0,()))).2) ())))
 else
 bif decide (o=15)then
  cF (sO (cz [i64,i64] x (x.2.2.2.2.1,0,()))) (
  bif (cu (cz [i64,i64] x (x.2.2.2.2.1,0,()))).1 then
   cF (nH (cA .i64 (Int.ofNat (List.length (cJ (cu (cz [i64,i64] x (x.2.2.2.2.1,0,()))).2).st)) (cJ (cu (cz [i64,i64] x (x.2.2.2.2.1,0,()))).2).f.2.2.2.1) (Int.ofNat (List.length (cJ (cu (cz [i64,i64] x (x.2.2.2.2.1,0,()))).2).st)) (Int.ofNat (List.length (cJ (cu (cz [i64,i64] x (x.2.2.2.2.1,0,()))).2).st))) (
   some (cq rT (cz [] ({(cJ (cu (cz [i64,i64] x (x.2.2.2.2.1,0,()))).2)with pc:=(-1),st:=(List.take ((Int.ofNat (List.length (cJ (cu (cz [i64,i64] x (x.2.2.2.2.1,0,()))).2).st)).toNat - (cA .i64 (Int.ofNat (List.length (cJ (cu (cz [i64,i64] x (x.2.2.2.2.1,0,()))).2).st)) (cJ (cu (cz [i64,i64] x (x.2.2.2.2.1,0,()))).2).f.2.2.2.1).toNat) (List.drop (cA .i64 (Int.ofNat (List.length (cJ (cu (cz [i64,i64] x (x.2.2.2.2.1,0,()))).2).st)) (cJ (cu (cz [i64,i64] x (x.2.2.2.2.1,0,()))).2).f.2.2.2.1).toNat (cJ (cu (cz [i64,i64] x (x.2.2.2.2.1,0,()))).2).st))}) ())))
  else
  some (cq rT (cz [] (cJ (cu (cz [i64,i64] x (x.2.2.2.2.1,0,()))).2) ())))
 else
 bif decide (o=16)then
  cF (aki g (cz [i64] x (a,()))) (
  some (cq rT (cz [] (cJ (akj g (cz [i64] x (a,())))) ())))
 else
 bif decide (o=17)then
  cF (akl g (cz [i64] x (a,()))) (
  some (cq rT (cz [] (cJ (akm g (cz [i64] x (a,())))) ())))
 else
 cF (DK (cz [i64,i64,u64] x (o,a,n,()))) (
 some (cq rT (cz [] ({(cJ (CT (cz [i64,i64,u64] x (o,a,n,()))))with pc:=(cY .i64 (cJ (CT (cz [i64,i64,u64] x (o,a,n,())))).pc (1))}) ()))):=by kernel_rfl
end Go.Proofs.Vq

noncomputable section
namespace Go.Proofs.Vq
open Go.Ab Go.Ab.Lf
set_option maxRecDepth 100000
theorem acL(l:List Int)(n i:Int):(CQ (cq xn (l,n,i,()))).val=
 bif decide (i<n)then
  cF (cZ i ((l.length:Int))) (
  bif bif !decide (l.getD i.toNat (cE (Ty.int .i64))=127)then !decide (l.getD i.toNat (cE (Ty.int .i64))=126)else false then
   some (.out 1 (cq tR (false,())))
  else
  some (.next (cq xn (l,n,cY .i64 i (1),()))))
 else
 some (.out 0 (cq vc (()))):=by kernel_rfl
theorem asy(l:List Int):(t83 (l,())).val=
 cF (DH CQ [(Ty.int .i64).cp,Ty.int .i64,Ty.int .i64] [] [Ty.bool] (l,(l.length:Int),0,())) (
 bif CO CQ [(Ty.int .i64).cp,Ty.int .i64,Ty.int .i64] (l,(l.length:Int),0,())then
  some (cq Ij (true,()))
 else
 some (cq Ij ((lo1 CQ [(Ty.int .i64).cp,Ty.int .i64,Ty.int .i64] [Ty.bool] (l,(l.length:Int),0,())).1,()))):=by kernel_rfl
theorem akA(o:Int):(t245 (o,())).val=
 bif decide (o=0)then
  some (cq nN (true,()))
 else
 bif decide (o=12)then
  some (cq nN (true,()))
 else
 bif decide (o=257)then
  some (cq nN (true,()))
 else
 bif decide (o=13)then
  some (cq nN (true,()))
 else
 bif decide (o=14)then
  some (cq nN (true,()))
 else
 bif decide (o=26)then
  some (cq nN (true,()))
 else
 bif decide (o=33)then
  some (cq nN (true,()))
 else
 bif decide (o=36)then
  some (cq nN (true,()))
 else
 bif decide (o=27)then
  some (cq nN (true,()))
 else
 bif decide (o=32)then
  some (cq nN (true,()))
 else
 bif decide (o=35)then
  some (cq nN (true,()))
 else
 bif decide (o=63)then
  some (cq nN (true,()))
 else
 bif decide (o=66)then
  some (cq nN (true,()))
 else
 bif decide (o=34)then
  some (cq nN (true,()))
 else
 bif decide (o=64)then
  some (cq nN (true,()))
 else
 bif decide (o=40)then
  some (cq nN (true,()))
 else
 bif decide (o=41)then
  some (cq nN (true,()))
 else
 bif bif decide (44<=o)then decide (o<=53)else false then
  some (cq nN (true,()))
 else
 bif decide (o=54)then
  some (cq nN (true,()))
 else
 bif decide (o=55)then
  some (cq nN (true,()))
 else
 bif bif decide (58<=o)then decide (o<=62)else false then
  some (cq nN (true,()))
 else
 cF (wP (o,())) (
 bif decide (0<(m11 (o,())).1)then
  cF (wP (o,())) (
  some (cq nN (true,())))
 else
 some (cq nN (bif decide (o=15)then true else bif decide (o=16)then true else bif decide (o=17)then true else decide (o=256),()))):=by kernel_rfl
theorem akB(ss:List (den mc))(fs:List (den oW))(p0 p1 p2 p3 p4:Int)(cs:List (den nd))(ms:List Int)(t o a n:Int):(t141 (ss,fs,p0,p1,p2,p3,p4,cs,ms,t,o,a,n,())).val=
 bif decide (o=12)then
  some (cq sH (bif decide (0<=a)then decide (a<(cs.length:Int))else false,()))
 else
 bif decide (o=13)then
  some (cq sH (bif decide (0<=a)then decide (a<(cs.length:Int))else false,()))
 else
 bif decide (o=14)then
  some (cq sH (bif decide (0<=a)then decide (a<cA .i64 (cA .i64 ((cs.length:Int)) t) (1))else false,()))
 else
 bif decide (o=16)then
  some (cq sH (bif decide (0<=a)then decide (a<(fs.length:Int))else false,()))
 else
 bif decide (o=17)then
  some (cq sH (bif decide (0<=a)then decide (a<(ss.length:Int))else false,()))
 else
 bif decide (o=32)then
  some (cq sH (bif decide (0<=a)then decide (a<cY .i64 p2 p4)else false,()))
 else
 bif decide (o=33)then
  some (cq sH (bif decide (0<=a)then decide (a<cY .i64 p2 p4)else false,()))
 else
 bif decide (o=34)then
  some (cq sH (bif decide (0<=a)then decide (a<cY .i64 p2 p4)else false,()))
 else
 bif decide (o=35)then
  some (cq sH (decide (0<=a),()))
 else
 bif decide (o=36)then
  some (cq sH (decide (0<=a),()))
 else
 bif decide (o=256)then
  some (cq sH (bif decide (0<=a)then bif decide (a<=1048576)then decide (n<=1048576)else false else false,()))
 else
 cF (ZN (o,())) (
 some (cq sH ((ZO (o,())).1,()))):=by kernel_rfl
theorem acM(p0 p1 p2 p3 p4:Int)(cs:List (den nd))(ms:List Int)(ss:List (den mc))(fs:List (den oW))(ds:List (den nd))(n i:Int):(CR (cq xp (p0,p1,p2,p3,p4,cs,ms,ss,fs,ds,n,i,()))).val=
 bif decide (i<n)then
  cF (cZ i ((ds.length:Int))) (
  cF (ZR (ss,fs,p0,p1,p2,p3,p4,cs,ms,i,(ds.getD i.toNat (cE ((Ty.int .i64).pair ((Ty.int .i64).pair (Ty.int .u64))))).1,(ds.getD i.toNat (cE ((Ty.int .i64).pair ((Ty.int .i64).pair (Ty.int .u64))))).2.1,(ds.getD i.toNat (cE ((Ty.int .i64).pair ((Ty.int .i64).pair (Ty.int .u64))))).2.2,())) (
  bif !(ZS (ss,fs,p0,p1,p2,p3,p4,cs,ms,i,(ds.getD i.toNat (cE ((Ty.int .i64).pair ((Ty.int .i64).pair (Ty.int .u64))))).1,(ds.getD i.toNat (cE ((Ty.int .i64).pair ((Ty.int .i64).pair (Ty.int .u64))))).2.1,(ds.getD i.toNat (cE ((Ty.int .i64).pair ((Ty.int .i64).pair (Ty.int .u64))))).2.2,())).1 then
   some (.out 1 (cq tT (false,())))
  else
  some (.next (cq xp (p0,p1,p2,p3,p4,cs,ms,ss,fs,ds,n,cY .i64 i (1),())))))
 else
 some (.out 0 (cq ve (()))):=by kernel_rfl
theorem asz(ss:List (den mc))(fs:List (den oW))(p0 p1 p2 p3 p4:Int)(cs:List (den nd))(ms:List Int):(t84 (ss,fs,p0,p1,p2,p3,p4,cs,ms,())).val=
 bif bif decide (p0<(-1))then true else bif decide (p1<0)then true else bif decide ((ss.length:Int)<=p1)then true else bif decide (p4<0)then true else bif decide (4096<p4)then true else decide (p0=(-1)) ^^ decide (0<(cs.length:Int))then
  some (cq AY (false,()))
 else
 cF (cZ p1 ((ss.length:Int))) (
 bif bif !decide (p2=Int.ofNat (List.length (ss.getD p1.toNat (cE ((Ty.int .i64).cp.pair (Ty.int .i64).cp))).1))then true else !decide (p3=Int.ofNat (List.length (ss.getD p1.toNat (cE ((Ty.int .i64).cp.pair (Ty.int .i64).cp))).2))then
  some (cq AY (false,()))
 else
 cF (DH CR [Ty.int .i64,Ty.int .i64,Ty.int .i64,Ty.int .i64,Ty.int .i64,((Ty.int .i64).pair ((Ty.int .i64).pair (Ty.int .u64))).cp,(Ty.int .i64).cp,((Ty.int .i64).cp.pair (Ty.int .i64).cp).cp,((Ty.int .i64).pair ((Ty.int .i64).pair ((Ty.int .i64).pair ((Ty.int .i64).pair ((Ty.int .i64).pair (((Ty.int .i64).pair ((Ty.int .i64).pair (Ty.int .u64))).cp.pair (Ty.int .i64).cp)))))).cp,((Ty.int .i64).pair ((Ty.int .i64).pair (Ty.int .u64))).cp,Ty.int .i64,Ty.int .i64] [] [Ty.bool] (p0,p1,p2,p3,p4,cs,ms,ss,fs,cs,(cs.length:Int),0,())) (
 bif CO CR [Ty.int .i64,Ty.int .i64,Ty.int .i64,Ty.int .i64,Ty.int .i64,((Ty.int .i64).pair ((Ty.int .i64).pair (Ty.int .u64))).cp,(Ty.int .i64).cp,((Ty.int .i64).cp.pair (Ty.int .i64).cp).cp,((Ty.int .i64).pair ((Ty.int .i64).pair ((Ty.int .i64).pair ((Ty.int .i64).pair ((Ty.int .i64).pair (((Ty.int .i64).pair ((Ty.int .i64).pair (Ty.int .u64))).cp.pair (Ty.int .i64).cp)))))).cp,((Ty.int .i64).pair ((Ty.int .i64).pair (Ty.int .u64))).cp,Ty.int .i64,Ty.int .i64] (p0,p1,p2,p3,p4,cs,ms,ss,fs,cs,(cs.length:Int),0,())then
  some (cq AY (true,()))
 else
 some (cq AY ((lo1 CR [Ty.int .i64,Ty.int .i64,Ty.int .i64,Ty.int .i64,Ty.int .i64,((Ty.int .i64).pair ((Ty.int .i64).pair (Ty.int .u64))).cp,(Ty.int .i64).cp,((Ty.int .i64).cp.pair (Ty.int .i64).cp).cp,((Ty.int .i64).pair ((Ty.int .i64).pair ((Ty.int .i64).pair ((Ty.int .i64).pair ((Ty.int .i64).pair (((Ty.int .i64).pair ((Ty.int .i64).pair (Ty.int .u64))).cp.pair (Ty.int .i64).cp)))))).cp,((Ty.int .i64).pair ((Ty.int .i64).pair (Ty.int .u64))).cp,Ty.int .i64,Ty.int .i64] [Ty.bool] (p0,p1,p2,p3,p4,cs,ms,ss,fs,cs,(cs.length:Int),0,())).1,())))):=by kernel_rfl
theorem acN(ss:List (den mc))(fs:List (den oW))(l:List (den mc))(n i:Int):(f340 (cq qI (ss,fs,l,n,i,()))).val=
 bif decide (i<n)then
  cF (cZ i ((l.length:Int))) (
  cF (k83 ((l.getD i.toNat (cE ((Ty.int .i64).cp.pair (Ty.int .i64).cp))).1,())) (
  bif !(m83 ((l.getD i.toNat (cE ((Ty.int .i64).cp.pair (Ty.int .i64).cp))).1,())).1 then
   some (.out 1 (cq q7 (1,())))
  else
  cF (k83 ((l.getD i.toNat (cE ((Ty.int .i64).cp.pair (Ty.int .i64).cp))).2,())) (
  bif !(m83 ((l.getD i.toNat (cE ((Ty.int .i64).cp.pair (Ty.int .i64).cp))).2,())).1 then
   some (.out 1 (cq q7 (1,())))
  else
  some (.next (cq qI (ss,fs,l,n,cY .i64 i (1),()))))))
 else
 some (.out 0 (cq oY (ss,fs,()))):=by kernel_rfl
theorem acO(ss:List (den mc))(fs:List (den oW))(n i:Int):(f342 (cq uJ (ss,fs,n,i,()))).val=
 bif decide (i<n)then
  cF (cZ i ((fs.length:Int))) (
  cF (k84 (ss,fs,(fs.getD i.toNat (cE ((Ty.int .i64).pair ((Ty.int .i64).pair ((Ty.int .i64).pair ((Ty.int .i64).pair ((Ty.int .i64).pair (((Ty.int .i64).pair ((Ty.int .i64).pair (Ty.int .u64))).cp.pair (Ty.int .i64).cp)))))))).1,(fs.getD i.toNat (cE ((Ty.int .i64).pair ((Ty.int .i64).pair ((Ty.int .i64).pair ((Ty.int .i64).pair ((Ty.int .i64).pair (((Ty.int .i64).pair ((Ty.int .i64).pair (Ty.int .u64))).cp.pair (Ty.int .i64).cp)))))))).2.1,(fs.getD i.toNat (cE ((Ty.int .i64).pair ((Ty.int .i64).pair ((Ty.int .i64).pair ((Ty.int .i64).pair ((Ty.int .i64).pair (((Ty.int .i64).pair ((Ty.int .i64).pair (Ty.int .u64))).cp.pair (Ty.int .i64).cp)))))))).2.2.1,(fs.getD i.toNat (cE ((Ty.int .i64).pair ((Ty.int .i64).pair ((Ty.int .i64).pair ((Ty.int .i64).pair ((Ty.int .i64).pair (((Ty.int .i64).pair ((Ty.int .i64).pair (Ty.int .u64))).cp.pair (Ty.int .i64).cp)))))))).2.2.2.1,(fs.getD i.toNat (cE ((Ty.int .i64).pair ((Ty.int .i64).pair ((Ty.int .i64).pair ((Ty.int .i64).pair ((Ty.int .i64).pair (((Ty.int .i64).pair ((Ty.int .i64).pair (Ty.int .u64))).cp.pair (Ty.int .i64).cp)))))))).2.2.2.2.1,(fs.getD i.toNat (cE ((Ty.int .i64).pair ((Ty.int .i64).pair ((Ty.int .i64).pair ((Ty.int .i64).pair ((Ty.int .i64).pair (((Ty.int .i64).pair ((Ty.int .i64).pair (Ty.int .u64))).cp.pair (Ty.int .i64).cp)))))))).2.2.2.2.2.1,(fs.getD i.toNat (cE ((Ty.int .i64).pair ((Ty.int .i64).pair ((Ty.int .i64).pair ((Ty.int .i64).pair ((Ty.int .i64).pair (((Ty.int .i64).pair ((Ty.int .i64).pair (Ty.int .u64))).cp.pair (Ty.int .i64).cp)))))))).2.2.2.2.2.2,())) (
  bif !(m84 (ss,fs,(fs.getD i.toNat (cE ((Ty.int .i64).pair ((Ty.int .i64).pair ((Ty.int .i64).pair ((Ty.int .i64).pair ((Ty.int .i64).pair (((Ty.int .i64).pair ((Ty.int .i64).pair (Ty.int .u64))).cp.pair (Ty.int .i64).cp)))))))).1,(fs.getD i.toNat (cE ((Ty.int .i64).pair ((Ty.int .i64).pair ((Ty.int .i64).pair ((Ty.int .i64).pair ((Ty.int .i64).pair (((Ty.int .i64).pair ((Ty.int .i64).pair (Ty.int .u64))).cp.pair (Ty.int .i64).cp)))))))).2.1,(fs.getD i.toNat (cE ((Ty.int .i64).pair ((Ty.int .i64).pair ((Ty.int .i64).pair ((Ty.int .i64).pair ((Ty.int .i64).pair (((Ty.int .i64).pair ((Ty.int .i64).pair (Ty.int .u64))).cp.pair (Ty.int .i64).cp)))))))).2.2.1,(fs.getD i.toNat (cE ((Ty.int .i64).pair ((Ty.int .i64).pair ((Ty.int .i64).pair ((Ty.int .i64).pair ((Ty.int .i64).pair (((Ty.int .i64).pair ((Ty.int .i64).pair (Ty.int .u64))).cp.pair (Ty.int .i64).cp)))))))).2.2.2.1,(fs.getD i.toNat (cE ((Ty.int .i64).pair ((Ty.int .i64).pair ((Ty.int .i64).pair ((Ty.int .i64).pair ((Ty.int .i64).pair (((Ty.int .i64).pair ((Ty.int .i64).pair (Ty.int .u64))).cp.pair (Ty.int .i64).cp)))))))).2.2.2.2.1,(fs.getD i.toNat (cE ((Ty.int .i64).pair ((Ty.int .i64).pair ((Ty.int .i64).pair ((Ty.int .i64).pair ((Ty.int .i64).pair (((Ty.int .i64).pair ((Ty.int .i64).pair (Ty.int .u64))).cp.pair (Ty.int .i64).cp)))))))).2.2.2.2.2.1,(fs.getD i.toNat (cE ((Ty.int .i64).pair ((Ty.int .i64).pair ((Ty.int .i64).pair ((Ty.int .i64).pair ((Ty.int .i64).pair (((Ty.int .i64).pair ((Ty.int .i64).pair (Ty.int .u64))).cp.pair (Ty.int .i64).cp)))))))).2.2.2.2.2.2,())).1 then
   some (.out 1 (cq rI (1,())))
  else
  some (.next (cq uJ (ss,fs,n,cY .i64 i (1),())))))
 else
 some (.out 0 (cq tU (()))):=by kernel_rfl
theorem asA(ss:List (den mc))(fs:List (den oW)):(t34 (ss,fs,())).val=
 cF (DH f340 [((Ty.int .i64).cp.pair (Ty.int .i64).cp).cp,((Ty.int .i64).pair ((Ty.int .i64).pair ((Ty.int .i64).pair ((Ty.int .i64).pair ((Ty.int .i64).pair (((Ty.int .i64).pair ((Ty.int .i64).pair (Ty.int .u64))).cp.pair (Ty.int .i64).cp)))))).cp,((Ty.int .i64).cp.pair (Ty.int .i64).cp).cp,Ty.int .i64,Ty.int .i64] [((Ty.int .i64).cp.pair (Ty.int .i64).cp).cp,((Ty.int .i64).pair ((Ty.int .i64).pair ((Ty.int .i64).pair ((Ty.int .i64).pair ((Ty.int .i64).pair (((Ty.int .i64).pair ((Ty.int .i64).pair (Ty.int .u64))).cp.pair (Ty.int .i64).cp)))))).cp] [Ty.int .i64] (ss,fs,ss,(ss.length:Int),0,())) (
 bif CO f340 [((Ty.int .i64).cp.pair (Ty.int .i64).cp).cp,((Ty.int .i64).pair ((Ty.int .i64).pair ((Ty.int .i64).pair ((Ty.int .i64).pair ((Ty.int .i64).pair (((Ty.int .i64).pair ((Ty.int .i64).pair (Ty.int .u64))).cp.pair (Ty.int .i64).cp)))))).cp,((Ty.int .i64).cp.pair (Ty.int .i64).cp).cp,Ty.int .i64,Ty.int .i64] (ss,fs,ss,(ss.length:Int),0,())then
  cF (DH f342 [((Ty.int .i64).cp.pair (Ty.int .i64).cp).cp,((Ty.int .i64).pair ((Ty.int .i64).pair ((Ty.int .i64).pair ((Ty.int .i64).pair ((Ty.int .i64).pair (((Ty.int .i64).pair ((Ty.int .i64).pair (Ty.int .u64))).cp.pair (Ty.int .i64).cp)))))).cp,Ty.int .i64,Ty.int .i64] [] [Ty.int .i64] ((lo1 f340 [((Ty.int .i64).cp.pair (Ty.int .i64).cp).cp,((Ty.int .i64).pair ((Ty.int .i64).pair ((Ty.int .i64).pair ((Ty.int .i64).pair ((Ty.int .i64).pair (((Ty.int .i64).pair ((Ty.int .i64).pair (Ty.int .u64))).cp.pair (Ty.int .i64).cp)))))).cp,((Ty.int .i64).cp.pair (Ty.int .i64).cp).cp,Ty.int .i64,Ty.int .i64] [((Ty.int .i64).cp.pair (Ty.int .i64).cp).cp,((Ty.int .i64).pair ((Ty.int .i64).pair ((Ty.int .i64).pair ((Ty.int .i64).pair ((Ty.int .i64).pair (((Ty.int .i64).pair ((Ty.int .i64).pair (Ty.int .u64))).cp.pair (Ty.int .i64).cp)))))).cp] (ss,fs,ss,(ss.length:Int),0,())).1,(lo1 f340 [((Ty.int .i64).cp.pair (Ty.int .i64).cp).cp,((Ty.int .i64).pair ((Ty.int .i64).pair ((Ty.int .i64).pair ((Ty.int .i64).pair ((Ty.int .i64).pair (((Ty.int .i64).pair ((Ty.int .i64).pair (Ty.int .u64))).cp.pair (Ty.int .i64).cp)))))).cp,((Ty.int .i64).cp.pair (Ty.int .i64).cp).cp,Ty.int .i64,Ty.int .i64] [((Ty.int .i64).cp.pair (Ty.int .i64).cp).cp,((Ty.int .i64).pair ((Ty.int .i64).pair ((Ty.int .i64).pair ((Ty.int .i64).pair ((Ty.int .i64).pair (((Ty.int .i64).pair ((Ty.int .i64).pair (Ty.int .u64))).cp.pair (Ty.int .i64).cp)))))).cp] (ss,fs,ss,(ss.length:Int),0,())).2.1,Int.ofNat (List.length (lo1 f340 [((Ty.int .i64).cp.pair (Ty.int .i64).cp).cp,((Ty.int .i64).pair ((Ty.int .i64).pair ((Ty.int .i64).pair ((Ty.int .i64).pair ((Ty.int .i64).pair (((Ty.int .i64).pair ((Ty.int .i64).pair (Ty.int .u64))).cp.pair (Ty.int .i64).cp)))))).cp,((Ty.int .i64).cp.pair (Ty.int .i64).cp).cp,Ty.int .i64,Ty.int .i64] [((Ty.int .i64).cp.pair (Ty.int .i64).cp).cp,((Ty.int .i64).pair ((Ty.int .i64).pair ((Ty.int .i64).pair ((Ty.int .i64).pair ((Ty.int .i64).pair (((Ty.int .i64).pair ((Ty.int .i64).pair (Ty.int .u64))).cp.pair (Ty.int .i64).cp)))))).cp] (ss,fs,ss,(ss.length:Int),0,())).2.1),0,())) (
  bif CO f342 [((Ty.int .i64).cp.pair (Ty.int .i64).cp).cp,((Ty.int .i64).pair ((Ty.int .i64).pair ((Ty.int .i64).pair ((Ty.int .i64).pair ((Ty.int .i64).pair (((Ty.int .i64).pair ((Ty.int .i64).pair (Ty.int .u64))).cp.pair (Ty.int .i64).cp)))))).cp,Ty.int .i64,Ty.int .i64] ((lo1 f340 [((Ty.int .i64).cp.pair (Ty.int .i64).cp).cp,((Ty.int .i64).pair ((Ty.int .i64).pair ((Ty.int .i64).pair ((Ty.int .i64).pair ((Ty.int .i64).pair (((Ty.int .i64).pair ((Ty.int .i64).pair (Ty.int .u64))).cp.pair (Ty.int .i64).cp)))))).cp,((Ty.int .i64).cp.pair (Ty.int .i64).cp).cp,Ty.int .i64,Ty.int .i64] [((Ty.int .i64).cp.pair (Ty.int .i64).cp).cp,((Ty.int .i64).pair ((Ty.int .i64).pair ((Ty.int .i64).pair ((Ty.int .i64).pair ((Ty.int .i64).pair (((Ty.int .i64).pair ((Ty.int .i64).pair (Ty.int .u64))).cp.pair (Ty.int .i64).cp)))))).cp] (ss,fs,ss,(ss.length:Int),0,())).1,(lo1 f340 [((Ty.int .i64).cp.pair (Ty.int .i64).cp).cp,((Ty.int .i64).pair ((Ty.int .i64).pair ((Ty.int .i64).pair ((Ty.int .i64).pair ((Ty.int .i64).pair (((Ty.int .i64).pair ((Ty.int .i64).pair (Ty.int .u64))).cp.pair (Ty.int .i64).cp)))))).cp,((Ty.int .i64).cp.pair (Ty.int .i64).cp).cp,Ty.int .i64,Ty.int .i64] [((Ty.int .i64).cp.pair (Ty.int .i64).cp).cp,((Ty.int .i64).pair ((Ty.int .i64).pair ((Ty.int .i64).pair ((Ty.int .i64).pair ((Ty.int .i64).pair (((Ty.int .i64).pair ((Ty.int .i64).pair (Ty.int .u64))).cp.pair (Ty.int .i64).cp)))))).cp] (ss,fs,ss,(ss.length:Int),0,())).2.1,Int.ofNat (List.length (lo1 f340 [((Ty.int .i64).cp.pair (Ty.int .i64).cp).cp,((Ty.int .i64).pair ((Ty.int .i64).pair ((Ty.int .i64).pair ((Ty.int .i64).pair ((Ty.int .i64).pair (((Ty.int .i64).pair ((Ty.int .i64).pair (Ty.int .u64))).cp.pair (Ty.int .i64).cp)))))).cp,((Ty.int .i64).cp.pair (Ty.int .i64).cp).cp,Ty.int .i64,Ty.int .i64] [((Ty.int .i64).cp.pair (Ty.int .i64).cp).cp,((Ty.int .i64).pair ((Ty.int .i64).pair ((Ty.int .i64).pair ((Ty.int .i64).pair ((Ty.int .i64).pair (((Ty.int .i64).pair ((Ty.int .i64).pair (Ty.int .u64))).cp.pair (Ty.int .i64).cp)))))).cp] (ss,fs,ss,(ss.length:Int),0,())).2.1),0,())then
   some (cq AZ (0,()))
  else
  some (cq AZ ((lo1 f342 [((Ty.int .i64).cp.pair (Ty.int .i64).cp).cp,((Ty.int .i64).pair ((Ty.int .i64).pair ((Ty.int .i64).pair ((Ty.int .i64).pair ((Ty.int .i64).pair (((Ty.int .i64).pair ((Ty.int .i64).pair (Ty.int .u64))).cp.pair (Ty.int .i64).cp)))))).cp,Ty.int .i64,Ty.int .i64] [Ty.int .i64] ((lo1 f340 [((Ty.int .i64).cp.pair (Ty.int .i64).cp).cp,((Ty.int .i64).pair ((Ty.int .i64).pair ((Ty.int .i64).pair ((Ty.int .i64).pair ((Ty.int .i64).pair (((Ty.int .i64).pair ((Ty.int .i64).pair (Ty.int .u64))).cp.pair (Ty.int .i64).cp)))))).cp,((Ty.int .i64).cp.pair (Ty.int .i64).cp).cp,Ty.int .i64,Ty.int .i64] [((Ty.int .i64).cp.pair (Ty.int .i64).cp).cp,((Ty.int .i64).pair ((Ty.int .i64).pair ((Ty.int .i64).pair ((Ty.int .i64).pair ((Ty.int .i64).pair (((Ty.int .i64).pair ((Ty.int .i64).pair (Ty.int .u64))).cp.pair (Ty.int .i64).cp)))))).cp] (ss,fs,ss,(ss.length:Int),0,())).1,(lo1 f340 [((Ty.int .i64).cp.pair (Ty.int .i64).cp).cp,((Ty.int .i64).pair ((Ty.int .i64).pair ((Ty.int .i64).pair ((Ty.int .i64).pair ((Ty.int .i64).pair (((Ty.int .i64).pair ((Ty.int .i64).pair (Ty.int .u64))).cp.pair (Ty.int .i64).cp)))))).cp,((Ty.int .i64).cp.pair (Ty.int .i64).cp).cp,Ty.int .i64,Ty.int .i64] [((Ty.int .i64).cp.pair (Ty.int .i64).cp).cp,((Ty.int .i64).pair ((Ty.int .i64).pair ((Ty.int .i64).pair ((Ty.int .i64).pair ((Ty.int .i64).pair (((Ty.int .i64).pair ((Ty.int .i64).pair (Ty.int .u64))).cp.pair (Ty.int .i64).cp)))))).cp] (ss,fs,ss,(ss.length:Int),0,())).2.1,Int.ofNat (List.length (lo1 f340 [((Ty.int .i64).cp.pair (Ty.int .i64).cp).cp,((Ty.int .i64).pair ((Ty.int .i64).pair ((Ty.int .i64).pair ((Ty.int .i64).pair ((Ty.int .i64).pair (((Ty.int .i64).pair ((Ty.int .i64).pair (Ty.int .u64))).cp.pair (Ty.int .i64).cp)))))).cp,((Ty.int .i64).cp.pair (Ty.int .i64).cp).cp,Ty.int .i64,Ty.int .i64] [((Ty.int .i64).cp.pair (Ty.int .i64).cp).cp,((Ty.int .i64).pair ((Ty.int .i64).pair ((Ty.int .i64).pair ((Ty.int .i64).pair ((Ty.int .i64).pair (((Ty.int .i64).pair ((Ty.int .i64).pair (Ty.int .u64))).cp.pair (Ty.int .i64).cp)))))).cp] (ss,fs,ss,(ss.length:Int),0,())).2.1),0,())).1,())))
 else
 some (cq AZ ((lo1 f340 [((Ty.int .i64).cp.pair (Ty.int .i64).cp).cp,((Ty.int .i64).pair ((Ty.int .i64).pair ((Ty.int .i64).pair ((Ty.int .i64).pair ((Ty.int .i64).pair (((Ty.int .i64).pair ((Ty.int .i64).pair (Ty.int .u64))).cp.pair (Ty.int .i64).cp)))))).cp,((Ty.int .i64).cp.pair (Ty.int .i64).cp).cp,Ty.int .i64,Ty.int .i64] [Ty.int .i64] (ss,fs,ss,(ss.length:Int),0,())).1,()))):=by kernel_rfl
theorem UY(a b:List Int)(i:Int):(y7 (cq wu (a,b,i,()))).val=
 bif decide (i<(a.length:Int))then
  cF (cZ i ((a.length:Int))&&cZ i ((b.length:Int))) (
  bif !decide (a.getD i.toNat (cE (Ty.int .u64))=b.getD i.toNat (cE (Ty.int .u64)))then
   some (.out 1 (cq wv (false,())))
  else
  some (.next (cq wu (a,b,cY .i64 i (1),()))))
 else
 some (.out 0 (cq uL (()))):=by kernel_rfl
theorem asB(a b:List Int):(t25 (a,b,())).val=
 bif !decide ((a.length:Int)=(b.length:Int))then
  some (cq KU (false,()))
 else
 cF (DH y7 [(Ty.int .u64).cp,(Ty.int .u64).cp,Ty.int .i64] [] [Ty.bool] (a,b,0,())) (
 bif CO y7 [(Ty.int .u64).cp,(Ty.int .u64).cp,Ty.int .i64] (a,b,0,())then
  some (cq KU (true,()))
 else
 some (cq KU ((lo1 y7 [(Ty.int .u64).cp,(Ty.int .u64).cp,Ty.int .i64] [Ty.bool] (a,b,0,())).1,()))):=by kernel_rfl
end Go.Proofs.Vq
