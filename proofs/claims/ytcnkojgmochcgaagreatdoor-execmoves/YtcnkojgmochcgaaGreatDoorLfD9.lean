import Derived.Test.YtcnkojgmochcgaaGreatDoorLfD6
noncomputable section
namespace Go.Ab
namespace Lf
theorem yB{v:Value}(h:cu (.sc v)=true):DP v v=true:=by
 have h':isNil (.sc v)=true:=h
 cases v<;>first|(cases h';done)|skip
 rename_i p n c
 cases p with
 |none=>show(Nat.beq n n&&Nat.beq c c)=true;rw[Nat.beq_refl,Nat.beq_refl];rfl
 |some _=>cases h'
theorem wo(n:Int):eqI n n=true:=cG.2 rfl
theorem oD{a:AV}(h:cu a=true):iG a a=true:=by
 cases a<;>first|(cases h;done)|skip
 ·exact yB h
 ·rfl
 ·rfl
theorem wq{l m:List AV}(h:fx l l=true)(k:fx m m=true):fx (l++m) (l++m)=true:=by
 induction l with
 |nil=>exact k
 |cons a l ih=>
  have h:(iG a a&&fx l l)=true:=h
  rw[Bool.and_eq_true]at h
  show(iG a a&&fx (l++m) (l++m))=true
  rw[h.1,ih h.2];rfl
theorem wu{α:Type}{E:α->List AV->Prop}(hE: ∀ x cs,E x cs->fx cs cs=true): ∀ {x:List α} {ls:List AV},fP E x ls->fx ls ls=true
 | [],_,e=>by have e':_=[]:=e;subst e';rfl
 | _::_,_,⟨c,r,e,a,b⟩=>by subst e;exact wq (hE _ _ a) (wu hE b)
theorem Jm{G:Nat->Option Rw}{t:Ty}{E:den t->List AV->Prop}(hE: ∀ x cs,E x cs->fx cs cs=true){x:List (den t)}{a:AV}(k:zO G t E x a):iG a a=true:=by
 rcases k with⟨k,_⟩|⟨ls,k1,k2|⟨id,base,row,k2,_,_⟩⟩
 ·exact oD k
 ·subst k2
  show(Nat.beq _ _&&fx ls ls)=true
  rw[Nat.beq_refl,Bool.true_and]
  exact wu hE k1
 ·subst k2
  show(Nat.beq _ _&&Nat.beq _ _&&Nat.beq _ _&&Nat.beq _ _)=true
  simp
theorem pP{G:Nat->Option Rw}: ∀ (t:Ty) (x:den t) (cs:List AV),EV G t x cs->fx cs cs=true
 | .int k,x,_,e=>by
  have e':_=_:=e;subst e'
  show(eM k k&&eqI x x&&true)=true
  rw[qQ,wo];rfl
 | .bool,x,_,e=>by
  have e':_=_:=e;subst e'
  show(!(xor x x)&&true)=true
  cases x<;>rfl
 | .str,x,_,e=>by
  have e':_=_:=e;subst e'
  show(DP (.string x) (.string x)&&true)=true
  rw[Bool.and_true];show(x.data.toList == x.data.toList)=true;exact beq_self_eq_true _
 | .aB t,_,_,⟨a,e,k⟩=>by
  subst e
  show(iG a a&&true)=true
  rw[Jm (fun x cs=>pP t x cs) k];rfl
 | .pair a b,_,_,⟨c,d,e,k1,k2⟩=>by
  subst e
  exact wq (pP a _ _ k1) (pP b _ _ k2)
theorem wv{E:En}{N:Nat}{u v:Sv}{a b:AV}{c:LB}(hu:V E N u a)(hv:V E N v b)(e:zL u v=some c)(hc:c.v=true):iG a b=true:=by
 have DZ:(match toN u,toN v with
  |some (k,a),some (k',b)=>bif eM k k' then some (LB.t (decide (a=b)))else none
  | _,_=>match toB u,toB v with
   |some a,some b=>some (LB.t (!(xor a.v b.v)))
   | _,_=>none)=some c->iG a b=true:=by
  intro e
  split at e
  ·rename_i k m k' n h1 h2
   obtain⟨hk,e⟩:=bb e
   cases e
   rw[eG hu h1,eG hv h2]
   have:m=n:=by simpa[LB.v]using hc
   subst this
   show(eM k k'&&eqI m m)=true
   rw[hk,wo];rfl
  ·split at e
   ·rename_i x y h1 h2
    cases e
    rw[eF hu h1,eF hv h2]
    exact hc
   ·cases e
 unfold zL at e
 split at e
 ·have e:=(bb e).1;cases hu;cases hv;exact e
 ·cases hu;cases hv
  rename_i a b
  cases a<;>cases b<;>first|rfl|(cases e;done)
 ·have e:=(bb e).1;cases hu;cases hv;exact e
 ·have e:=(bb e).1
  rw[Bool.and_eq_true]at e
  have e1:=beq_true e.1;have e2:=beq_true e.2
  subst e1;subst e2
  cases hu with
  |rf _ h1=>cases hv with
   |rf _ h2=>
    rw[h1]at h2;cases h2
    show(Nat.beq _ _&&Nat.beq _ _)=true
    simp
 ·have e0:=(bb e).1
  replace e:=(bb e).2
  rw[Bool.and_eq_true,Bool.and_eq_true]at e0
  have e1:=beq_true e0.1;have e2:=beq_true e0.2.1;have e3:=beq_true e0.2.2
  subst e1;subst e2;subst e3
  cases e
  simp only[LB.v,decide_eq_true_eq]at hc
  subst hc
  cases hu with
  |re _ h1 _=>cases hv with
   |re _ h2 _=>
    rw[h1]at h2;cases h2
    show(Nat.beq _ _&&Nat.beq _ _)=true
    simp
 ·have e0:=(bb e).1
  rw[Bool.and_eq_true]at e0
  have e1:=beq_true e0.1;have e2:=beq_true e0.2
  subst e1;subst e2
  cases hu with
  |os _ h1=>cases hv with
   |os _ h2=>
    rcases h1 with⟨h1,_⟩|⟨id,base,h1⟩
    ·exact oD h1
    ·rw[h1];show(Nat.beq _ _&&Nat.beq _ _&&Nat.beq _ _&&Nat.beq _ _)=true;simp
 ·have e0:=(bb e).1
  replace e:=(bb e).2
  rw[Bool.and_eq_true]at e0
  have e1:=beq_true e0.1;have e2:=beq_true e0.2
  subst e1;subst e2
  cases e
  simp only[LB.v,Bool.and_eq_true,decide_eq_true_eq]at hc
  obtain⟨c1,c2⟩:=hc
  subst c1;subst c2
  cases hu with
  |se _ h1 _ _=>cases hv with
   |se _ _ _ _=>exact oD h1
   |ss _ h2 _=>rw[h2]at h1;cases h1
  |ss _ h1 _=>cases hv with
   |se _ h2 _ _=>rw[h1]at h2;cases h2
   |ss _ h2 _=>
    rw[h1]at h2
    injection h2 with a1 a2 _ _
    subst a1;subst a2
    show(Nat.beq _ _&&Nat.beq _ _&&Nat.beq _ _&&Nat.beq _ _)=true;simp
 ·have e0:=(bb e).1
  rw[Bool.and_eq_true,Bool.and_eq_true,Bool.and_eq_true]at e0
  have e1:=beq_true e0.1;have e2:=beq_true e0.2.1;have e3:=beq_true e0.2.2.1;have e4:=beq_true e0.2.2.2
  subst e1;subst e2;subst e3;subst e4
  cases hu with
  |xo _ h1=>cases hv with
   |xo _ h2=>rw[h1]at h2;cases h2;show(Nat.beq _ _&&Nat.beq _ _&&Nat.beq _ _&&Nat.beq _ _)=true;simp
 ·have e0:=(bb e).1
  rw[Bool.and_eq_true]at e0
  have hp:=bh.1 e0.1
  have e1:=beq_true e0.2
  subst e1
  cases hu with
  |c k1 m1=>cases hv with
   |c k2 m2=>
    rw[(m1 (by omega)).2,<-(m2 (by omega)).2]
    have:=pP _ _ _ k2
    have this:(iG b b&&true)=true:=this
    rwa [Bool.and_true]at this
 ·exact DZ e
theorem wx{E:En}{N:Nat}: ∀ {l m:List Sv} {as bs:List AV} {c:LB},Vs E N l as->Vs E N m bs->zM l m=some c->c.v=true->fx as bs=true
 | [],[],_,_,_,.nil,.nil,_,_=>rfl
 | [],_::_,_,_,_,_,_,e,_=>by cases e
 | _::_,[],_,_,_,_,_,e,_=>by cases e
 |u::l,v::m,a::as,b::bs,c,.cons hu hl,.cons hv hm,e,hc=>by
  unfold zM at e
  split at e
  ·rename_i x hx
   split at e
   ·rename_i y hy
    cases e
    rw[LB.EA,Bool.and_eq_true]at hc
    show(iG a b&&fx as bs)=true
    rw[wv hu hv hx hc.1,wx hl hm hy hc.2];rfl
   ·cases e
  ·cases e
theorem wy{E:En}{N:Nat}{u v:Sv}{a b:AV}{c:LB}(hu:V E N u a)(hv:V E N v b)(e:zN u v=some c)(hc:c.v=true):iG a b=true:=by
 unfold zN at e
 split at e
 ·cases hu with
  |ag h1=>cases hv with
   |ag h2=>exact wx h1 h2 e hc
 ·exact wv hu hv e hc
theorem Ev.map{α β:Type}{p:Nat->Nat->α}{r:α}(h:Ev p r){q:Nat->Nat->β}{s:β}(k: ∃ M,∀ n d,M<=n->M<=d->p n d=r->q n d=s):Ev q s:=by
 obtain⟨M,h⟩:=h
 obtain⟨M',k⟩:=k
 exact⟨max M M',fun n d h1 h2=>k n d (by omega) (by omega) (h n d (by omega) (by omega))⟩
theorem Ev.my{α β:Type}{p:Nat->Nat->α}{r:α}(h:Ev p r){q:Nat->Nat->β}{s:β}(k: ∀ n d,p n d=r->q n d=s):Ev q s:=h.map ⟨0,fun n d _ _=>k n d⟩
theorem Ev.Ow{α β γ:Type}{p:Nat->Nat->α}{r:α}(h:Ev p r){q:Nat->Nat->β}{s:β}(k:Ev q s){f:Nat->Nat->γ}{u:γ}(g: ∀ n d,p n d=r->q n d=s->f n d=u):Ev f u:=by
 obtain⟨M,h⟩:=h
 obtain⟨M',k⟩:=k
 exact⟨max M M',fun n d h1 h2=>g n d (h n d (by omega) (by omega)) (k n d (by omega) (by omega))⟩
theorem yC{f:dq}{g:R9}(s:dn f g):dn f (fun n d=>mn (g n d)):=by
 intro E T t H h v T' H' hT hH e
 obtain⟨c,h',E',k,X,S,w,GR⟩:=s E T t H h v T' H' hT hH e
 refine⟨c,h',E',k.my fun n d q=>?_,X,S,w,GR⟩
 have hb:Nat.ble h.next h'.next=true:=by rw[Nat.ble_eq];exact X.ud
 simp only[mn,q,hb]
theorem yD{f:dq}{g:R9}(s:dn f g)(j:Od)(want:Bool):dn (N8 j want f) (fun n d=>gF (bz j) want (g n d)):=by
 intro E T t H h v T' H' hT hH e
 unfold N8 at e
 split at e
 ·rename_i hj
  obtain⟨rfl,rfl,rfl⟩:=ba e
  obtain⟨a,ha,qS⟩:=bu hT hj
  cases qS with
  |tu k=>cases k;exact⟨eh,h,E,⟨0,fun n d _ _=>by unfold gF;simp only[ha]⟩,Nx.refl _ _ _,hH,.tu .nil,hT⟩
 ·obtain⟨c,T1,hc,mB,h1,h2⟩:=ov hT e
  have hg: ∀ n d,gF (bz j) want (g n d) t h=ej (ej want c (!c)) (g n d t h) (.ok eh h):=fun n d=>by unfold gF;rw[hc]
  have yes:(bif want then c else !c)=true->(f T1 H).val=some (v,T',H')-> ∃ c h' E',Ev (fun n d=>gF (bz j) want (g n d) t h) (.ok c h')/\Nx E E' H H' h h'/\SR E' H' h'/\V E' H'.next v c/\TV E' H'.next T' t:=by
   intro hw e
   obtain⟨x,h',E',k,X,S,w,GR⟩:=s E T1 t H h v T' H' mB hH e
   refine⟨x,h',E',k.my fun n d q=>?_,X,S,w,GR⟩
   rw[hg,q]
   cases want<;>cases c<;>first|rfl|cases hw
  have no:(bif want then c else !c)=false->(okV kP T1 H).val=some (v,T',H')-> ∃ c h' E',Ev (fun n d=>gF (bz j) want (g n d) t h) (.ok c h')/\Nx E E' H H' h h'/\SR E' H' h'/\V E' H'.next v c/\TV E' H'.next T' t:=by
   intro hw e
   obtain⟨rfl,rfl,rfl⟩:=ba e
   refine⟨eh,h,E,⟨0,fun n d _ _=>?_⟩,Nx.refl _ _ _,hH,.tu .nil,mB⟩
   show gF (bz j) want (g n d) t h=_
   rw[hg]
   cases want<;>cases c<;>first|rfl|cases hw
  cases c with
  |true=>
   have:=h1 rfl
   cases want with
   |true=>exact yes rfl this
   |false=>exact no rfl this
  |false=>
   have:=h2 rfl
   cases want with
   |true=>exact no rfl this
   |false=>exact yes rfl this
end Lf
end Go.Ab

noncomputable section
namespace Go.Ab
namespace Lf
section
variable {call:dV}{aM:aV}(C:mw call aM)
include C
theorem EU(o:gb):dn (LI call o) (fun n d=>yi (aM n d) o):=by
 have h0:=fun o=>Jl C o
 have ho:=h0 o
 cases o with
 |gd j w f=>
  have hw:=yD (h0 f) j w
  cases f with
  |mn f=>
   have hw:=yD (yC (h0 f)) j w
   exact hw
  | _=>exact hw
 |mn f=>
  have hw:=yC (h0 f)
  cases f with
  |gd j w f=>exact yC (yD (h0 f) j w)
  | _=>exact hw
 | _=>exact ho
def Sl(f:Tq->Hq->T (Tq×Hq))(g:Nat->Nat->ic):Prop:= ∀ (E:En) (T:Tq) (t:Tm) (H:Hq) (h:Hp) (T':Tq) (H':Hq),TV E H.next T t->SR E H h->(f T H).val=some (T',H')->
 ∃ t' h' E',Ev (fun n d=>g n d t h) (.ok t' h')/\Nx E E' H H' h h'/\SR E' H' h'/\TV E' H'.next T' t'
theorem EW(r:rJ):Sl (qL call r) (fun n d=>Cj (aM n d) r):=by
 induction r with
 |fi=>intro E T t H h T' H' hT hH e;cases e;exact⟨t,h,E,Ev.const rfl,Nx.refl _ _ _,hH,hT⟩
 |st i f k ih=>
  intro E T t H h T' H' hT hH e
  change (bif Nat.blt i 512 then(LI call f T H).bd fun p=>qL call k (p.2.1.put i (some p.1)) p.2.2 else .bad).val=some (T',H')at e
  obtain⟨hi,e⟩:=dc e
  obtain⟨⟨v,T1,H1⟩,e1,e2⟩:=Lf.T.cD e
  obtain⟨c,h1,E1,k1,X1,S1,w1,mB⟩:=EU C f E T t H h v T1 H1 hT hH e1
  obtain⟨t2,h2,E2,k2,X2,S2,GQ⟩:=ih E1 _ (t.put i (some c)) H1 h1 T' H' (mB.put (bh.1 hi) w1) S1 e2
  refine⟨t2,h2,E2,k1.Ow k2 fun n d q1 q2=>?_,X1.trans X2,S2,GQ⟩
  show(Go.Ab.Ro.rec Go.Ab.Rt.bad (fun v h=>Cj (aM n d) k (sT i v t) h) (yi (aM n d) f t h):Go.Ab.Rt)=_
  try dsimp only at q1
  rw[q1]
  exact q2
 |sn f k ih=>
  intro E T t H h T' H' hT hH e
  change ((LI call f T H).bd fun p=>qL call k p.2.1 p.2.2).val=some (T',H')at e
  obtain⟨⟨v,T1,H1⟩,e1,e2⟩:=Lf.T.cD e
  obtain⟨c,h1,E1,k1,X1,S1,w1,mB⟩:=EU C f E T t H h v T1 H1 hT hH e1
  obtain⟨t2,h2,E2,k2,X2,S2,GQ⟩:=ih E1 _ t H1 h1 T' H' mB S1 e2
  refine⟨t2,h2,E2,k1.Ow k2 fun n d q1 q2=>?_,X1.trans X2,S2,GQ⟩
  show(Go.Ab.Ro.rec Go.Ab.Rt.bad (fun v h=>Cj (aM n d) k t h) (yi (aM n d) f t h):Go.Ab.Rt)=_
  try dsimp only at q1
  rw[q1]
  exact q2
 |ck s f k ih=>
  intro E T t H h T' H' hT hH e
  have fin: ∀ (F:Nat->Nat->dg) (y z:AV),(∀ n d,F n d t h=.ok y h)->bz s t=some z->iG z y=true->(qL call k T H).val=some (T',H')-> ∃ t' h' E',Ev (fun n d=>Go.Ab.ck (bz s) (F n d) (Cj (aM n d) k) t h) (.ok t' h')/\Nx E E' H H' h h'/\SR E' H' h'/\TV E' H'.next T' t':=by
   intro F y z hF hz hs e
   obtain⟨t2,h2,E2,k2,X2,S2,GQ⟩:=ih E T t H h T' H' hT hH e
   refine⟨t2,h2,E2,k2.my fun n d q=>?_,X2,S2,GQ⟩
   show(Go.Ab.Ro.rec Go.Ab.Rt.bad (fun v _=>Option.rec Go.Ab.Rt.bad (fun u=>Bool.rec Go.Ab.Rt.bad (Cj (aM n d) k t h) (iG u v)) (bz s t)) (F n d t h):Go.Ab.Rt)=_
   rw[hF,hz]
   simp only[hs]
   exact q
  have Sm: ∀ {sz:Nat} {g:Bool} {a:Od},(vZ s sz g a T H (qL call k T H)).val=some (T',H')-> ∃ y z,ae sz g (bz a) t h=.ok y h/\bz s t=some z/\iG z y=true/\(qL call k T H).val=some (T',H'):=by
   intro sz g a e
   unfold vZ at e
   split at e
   ·rename_i p hp
    split at e
    ·rename_i v hv
     split at e
     ·rename_i u hu
      split at e
      ·rename_i c hc
       obtain⟨dR,e⟩:=kQ e
       obtain⟨x,hx,Bv⟩:=bu hT hp
       obtain⟨y,hy,RB⟩:=qR hH Bv hv
       obtain⟨z,hz,pC⟩:=bu hT hu
       have hs:=wy pC RB hc dR
       exact⟨y,z,by unfold ae;rw[hx];simp only[hy],hz,hs,e⟩
      ·cases e
     ·cases e
    ·cases e
   ·cases e
  have Sn:(rL s T (qL call k T H)).val=some (T',H')-> ∃ z,bz s t=some z/\iG z eh=true/\(qL call k T H).val=some (T',H'):=by
   intro e
   unfold rL at e
   split at e
   ·rename_i hu
    obtain⟨z,hz,pC⟩:=bu hT hu
    cases pC with
    |tu q=>cases q;exact⟨_,hz,by kernel_rfl,e⟩
   ·cases e
  cases f with
  |ld sz g a=>
   obtain⟨y,z,h1,h2,h3,h4⟩:=Sm e
   exact fin (fun _ _=>ae sz g (bz a)) y z (fun _ _=>h1) h2 h3 h4
  |slN sz a lo hi=>
   change (Ej s sz a lo hi T H (qL call k T H)).val=some (T',H')at e
   unfold Ej at e
   obtain⟨⟨v,T1,H1⟩,e1,e2⟩:=Lf.T.cD e
   obtain⟨_,_,y,hy,RB⟩:=wj sz a lo hi E T t H h v T1 H1 hT hH e1
   split at e2
   ·rename_i u hu
    split at e2
    ·rename_i c hc
     obtain⟨dR,e2⟩:=kQ e2
     obtain⟨z,hz,pC⟩:=bu hT hu
     exact fin (fun _ _=>bB sz (bz a) (lo.map bz) (hi.map bz)) y z (fun _ _=>hy) hz (wy pC RB hc dR) e2
    ·cases e2
   ·cases e2
  |gd j w f=>
   cases f with
   |ld sz g a=>
    change (match fO j T with
     |some (.b c)=>bif (bif w then c else !c)then vZ s sz g a T H (qL call k T H)else rL s T (qL call k T H)
     |some (.tu [])=>rL s T (qL call k T H)
     | _=>.bad:Lf.T (Tq×Hq)).val=some (T',H')at e
    split at e
    ·rename_i c hj
     obtain⟨q,hq,ZR⟩:=bu hT hj
     cases ZR
     cases hc:(bif w then c else !c)with
     |true=>
      rw[hc]at e
      obtain⟨y,z,h1,h2,h3,h4⟩:=Sm e
      refine fin (fun _ _=>gF (bz j) w (ae sz g (bz a))) y z (fun _ _=>?_) h2 h3 h4
      unfold gF
      rw[hq]
      cases w<;>cases c<;>first|(cases hc;done)|exact h1
     |false=>
      rw[hc]at e
      obtain⟨z,h2,h3,h4⟩:=Sn e
      refine fin (fun _ _=>gF (bz j) w (ae sz g (bz a))) eh z (fun _ _=>?_) h2 h3 h4
      unfold gF
      rw[hq]
      cases w<;>cases c<;>first|(cases hc;done)|rfl
    ·rename_i hj
     obtain⟨q,hq,ZR⟩:=bu hT hj
     cases ZR with
     |tu qq=>
      cases qq
      obtain⟨z,h2,h3,h4⟩:=Sn e
      refine fin (fun _ _=>gF (bz j) w (ae sz g (bz a))) eh z (fun _ _=>?_) h2 h3 h4
      unfold gF
      rw[hq]
    ·cases e
   | _=>cases e
  | _=>cases e
omit C in
theorem gn{v w:Sv}{t t':Tq}{h h':Hq}(e:(okV v t h).val=some (w,t',h')):h'=h:=(ba e).2.2
omit C in
theorem kT{v:Option Sv}{w:Sv}{t t':Tq}{h h':Hq}(e:(okO v t h).val=some (w,t',h')):h'=h:=(iB e).2.2
omit C in
theorem um{j:Od}{T0 T':Tq}{a b:Tq->T (Sv×Tq×Hq)}{v:Sv}{H H':Hq}(ha: ∀ t,(a t).val=some (v,T',H')->H'=H)(hb: ∀ t,(b t).val=some (v,T',H')->H'=H)(e:(mm j T0 a b).val=some (v,T',H')):H'=H:=by
 unfold mm at e
 split at e
 ·rename_i i
  cases xt:Nat.blt i 512 with
  |false=>rw[xt]at e;cases e
  |true=>
   rw[xt]at e
   simp only[cond_true]at e
   split at e
   ·rename_i c _
    cases c with
    |true=>exact ha _ e
    |false=>exact hb _ e
   ·rename_i m x _
    rw[Lf.T.Eo]at e
    cases x with
    |true=>exact ha _ e
    |false=>exact hb _ e
   ·cases e
 ·rename_i c
  cases c with
  |true=>exact ha _ e
  |false=>exact hb _ e
 ·cases e
omit C in
theorem uo{o:gb}(hp:iW o=true)(hg: ∀ j w f,o≠ .gd j w f){T0 T':Tq}{H H':Hq}{v:Sv}(e:(qK call o T0 H).val=some (v,T',H')):H'=H:=by
 cases o<;>first|(cases hp;done)|exact(hg _ _ _ rfl).elim|skip
 case mv=>exact kT e
 case pk=>exact um (a:=fun t=>qI _ t H) (b:=fun t=>qI _ t H) (fun _ e=>kT e) (fun _ e=>kT e) e
 all_goals
  simp only[qK]at e
  first
   |unfold zH at e
   |unfold zI at e
   |unfold IK at e
   |unfold Ys at e
   |unfold jO at e
   |unfold tY at e
   |unfold IL at e
   |unfold IM at e
   |unfold tZ at e
   |unfold pK at e
   |unfold nm at e
   |unfold bS at e
   |unfold zJ at e
   |unfold yn at e
  repeat' split at e
  all_goals first
   |(cases e;done)
   |exact gn e
   |exact kT e
   |exact gn (Lf.T.bU e).2
   |(obtain⟨_,_,e2⟩:=Lf.T.cD e;exact gn e2)
   |(obtain⟨_,e⟩:=dc e;first|exact gn e|exact kT e|exact gn (Lf.T.bU e).2)
   |skip
omit C in
theorem EX{o:gb}(hp:iW o=true){T0 T':Tq}{H H':Hq}{v:Sv}(e:(LI call o T0 H).val=some (v,T',H')):H'=H:=by
 cases o with
 |gd j w f=>
  have hf:iW f=true/\(∀ j w g,f≠ .gd j w g)/\ ∀ g,f≠ .mn g:=by
   cases f<;>first|(cases hp;done)|exact⟨hp,fun _ _ _=>(by intro h;cases h),fun _=>(by intro h;cases h)⟩
  have e':(N8 j w (qK call f) T0 H).val=some (v,T',H'):=by
   cases f<;>first|exact e|exact(hf.2.2 _ rfl).elim
  unfold N8 at e'
  split at e'
  ·exact gn e'
  ·cases w with
   |true=>exact um (a:=fun t=>qK call f t H) (b:=fun t=>okV kP t H) (fun _ e=>uo hf.1 hf.2.1 e) (fun _ e=>gn e) e'
   |false=>exact um (a:=fun t=>okV kP t H) (b:=fun t=>qK call f t H) (fun _ e=>gn e) (fun _ e=>uo hf.1 hf.2.1 e) e'
 |mn f=>cases hp
 | _=>first|(cases hp;done)|exact uo (call:=call) (T0:=T0) hp (fun _ _ _ h=>by cases h) e
omit C in
theorem Jn{r:rJ}(hp:qM r=true): ∀ {T0 T':Tq} {H H':Hq},(qL call r T0 H).val=some (T',H')->H'=H:=by
 induction r with
 |fi=>intro T0 T' H H' e;cases e;rfl
 |st i f k ih=>
  intro T0 T' H H' e
  have hp:(bif iW f then qM k else false)=true:=hp
  cases hf:iW f with
  |false=>rw[hf]at hp;cases hp
  |true=>
   rw[hf]at hp
   change (bif Nat.blt i 512 then(LI call f T0 H).bd fun p=>qL call k (p.2.1.put i (some p.1)) p.2.2 else .bad).val=some (T',H')at e
   obtain⟨_,e⟩:=dc e
   obtain⟨⟨v,T1,H1⟩,e1,e2⟩:=Lf.T.cD e
   rw[ih hp e2]
   exact EX hf e1
 |sn f k ih=>
  intro T0 T' H H' e
  have hp:(bif iW f then qM k else false)=true:=hp
  cases hf:iW f with
  |false=>rw[hf]at hp;cases hp
  |true=>
   rw[hf]at hp
   change ((LI call f T0 H).bd fun p=>qL call k p.2.1 p.2.2).val=some (T',H')at e
   obtain⟨⟨v,T1,H1⟩,e1,e2⟩:=Lf.T.cD e
   rw[ih hp e2]
   exact EX hf e1
 |ck s f k ih=>
  intro T0 T' H H' e
  have Sm: ∀ {sz:Nat} {g:Bool} {a:Od},(vZ s sz g a T0 H (qL call k T0 H)).val=some (T',H')->H'=H:=by
   intro sz g a e
   unfold vZ at e
   split at e
   ·split at e
    ·split at e
     ·split at e
      ·obtain⟨_,e⟩:=kQ e
       exact ih hp e
      ·cases e
     ·cases e
    ·cases e
   ·cases e
  have Sn:(rL s T0 (qL call k T0 H)).val=some (T',H')->H'=H:=by
   intro e
   unfold rL at e
   split at e
   ·exact ih hp e
   ·cases e
  cases f with
  |ld sz g a=>exact Sm e
  |slN sz a lo hi=>
   change (Ej s sz a lo hi T0 H (qL call k T0 H)).val=some (T',H')at e
   unfold Ej at e
   obtain⟨⟨v,T1,H1⟩,e1,e2⟩:=Lf.T.cD e
   split at e2
   ·split at e2
    ·obtain⟨_,e2⟩:=kQ e2
     exact ih hp e2
    ·cases e2
   ·cases e2
  |gd j w f=>
   cases f with
   |ld sz g a=>
    change (match fO j T0 with
     |some (.b c)=>bif (bif w then c else !c)then vZ s sz g a T0 H (qL call k T0 H)else rL s T0 (qL call k T0 H)
     |some (.tu [])=>rL s T0 (qL call k T0 H)
     | _=>.bad:Lf.T (Tq×Hq)).val=some (T',H')at e
    split at e
    ·rename_i c hj
     cases hc:(bif w then c else !c)with
     |true=>rw[hc]at e;exact Sm e
     |false=>rw[hc]at e;exact Sn e
    ·exact Sn e
    ·cases e
   | _=>cases e
  | _=>cases e
omit C in
theorem B0{c:bP}{r:rJ}: ∀ {t t':Tm} {h h':Hp},dK (fun i=>Nat.blt i 512) (qN r)=true->Cj c r t h=.ok t' h'-> ∀ i,i<512->i∉qN r->t'.at i=t.at i:=by
 induction r with
 |fi=>intro t t' h h' _ e i _ _;cases e;rfl
 |st j f k ih=>
  intro t t' h h' hb e i hi hn
  have hb:(bif Nat.blt j 512 then dK (fun i=>Nat.blt i 512) (qN k)else false)=true:=hb
  cases hj:Nat.blt j 512 with
  |false=>rw[hj]at hb;cases hb
  |true=>
   rw[hj]at hb
   have Om:i∉j::qN k:=hn
   change (Go.Ab.Ro.rec Go.Ab.Rt.bad (fun v h=>Cj c k (sT j v t) h) (yi c f t h):Go.Ab.Rt)=.ok t' h' at e
   cases ha:yi c f t h with
   |bad=>rw[ha]at e;cases e
   |ok v h1=>
    rw[ha]at e
    rw[ih hb e i hi fun q=>Om (List.mem_cons_of_mem _ q)]
    show(t.put j (some v)).at i=_
    rw[Tm.fj _ _ _ _ (bh.1 hj) hi,if_neg fun q=>Om (by rw[q];exact List.mem_cons_self)]
 |sn f k ih=>
  intro t t' h h' hb e i hi hn
  change (Go.Ab.Ro.rec Go.Ab.Rt.bad (fun v h=>Cj c k t h) (yi c f t h):Go.Ab.Rt)=.ok t' h' at e
  cases ha:yi c f t h with
  |bad=>rw[ha]at e;cases e
  |ok v h1=>rw[ha]at e;exact ih hb e i hi hn
 |ck s f k ih=>
  intro t t' h h' hb e i hi hn
  change (Go.Ab.Ro.rec Go.Ab.Rt.bad (fun v _=>Option.rec Go.Ab.Rt.bad (fun u=>Bool.rec Go.Ab.Rt.bad (Cj c k t h) (iG u v)) (bz s t)) (yi c f t h):Go.Ab.Rt)=.ok t' h' at e
  cases ha:yi c f t h with
  |bad=>rw[ha]at e;cases e
  |ok v h1=>
   rw[ha]at e
   cases hs:bz s t with
   |none=>rw[hs]at e;cases e
   |some u=>
    rw[hs]at e
    simp only at e
    cases hq:iG u v with
    |false=>rw[hq]at e;cases e
    |true=>rw[hq]at e;exact ih hb e i hi hn
omit C in
theorem uq{E:En}{N:Nat}{c:Bool}{v w u:Sv}{a:AV}(e:ZF c v w=some u)(hv:V E N (bif c then v else w) a):V E N u a:=by
 have DZ:(match toN v,toN w with
  |some (k,x),some (k',y)=>bif eM k k' then some (Sv.c 0 (.int k) (bif c then x else y))else none
  | _,_=>match toB v,toB w with
   |some x,some y=>some (.c 0 .bool (bif c then x.v else y.v))
   | _,_=>none)=some u->V E N u a:=by
  intro e
  split at e
  ·rename_i k x k' y h1 h2
   obtain⟨hk,e⟩:=bb e
   cases e
   have:=bD.1 hk;subst this
   cases c with
   |true=>rw[eG hv h1];exact dO
   |false=>rw[eG hv h2];exact dO
  ·split at e
   ·rename_i x y h1 h2
    cases e
    cases c with
    |true=>rw[eF hv h1];exact gT
    |false=>rw[eF hv h2];exact gT
   ·cases e
 unfold ZF at e
 split at e
 ·rename_i x y
  cases x<;>cases y<;>cases c<;>cases e<;>cases hv<;>first|exact .b|exact gT
 ·obtain⟨h,e⟩:=bb e
  cases e
  have:=pH _ _ h;subst this
  cases c<;>exact hv
 ·obtain⟨h,e⟩:=bb e
  cases e
  rw[Bool.and_eq_true]at h
  have h1:=beq_true h.1;have h2:=beq_true h.2
  subst h1;subst h2
  cases c<;>exact hv
 ·obtain⟨h,e⟩:=bb e
  cases e
  rw[Bool.and_eq_true]at h
  have h1:=beq_true h.1;have h2:=beq_true h.2
  subst h1;subst h2
  cases c<;>exact hv
 ·split at e
  ·rename_i p _
   cases p
   cases e
   cases c with
   |true=>cases hv with
    |c k _=>exact .c k fun h=>(h rfl).elim
   |false=>cases hv with
    |c k _=>exact .c k fun h=>(h rfl).elim
  ·cases e
 ·rename_i k x k' y
  have h:=(bb e).1
  replace e:=(bb e).2
  have:=bD.1 h;subst this
  cases hb:eqI x y with
  |true=>
   rw[hb]at e;cases e
   have:=cG.1 hb;subst this
   cases c<;>exact hv
  |false=>
   rw[hb]at e;cases e
   cases c<;>cases hv<;>exact dO
 ·exact DZ e
omit C in
theorem EY{E:En}{N:Nat}{c:Bool}{a b T0:Tq}{t':Tm}(ht:TV E N (bif c then a else b) t'): ∀ {ry:List Nat},dK (fun i=>Nat.blt i 512) ry=true->(∀ i v,i<512->i∉ry->T0.at i=some v-> ∃ x,t'.at i=some x/\V E N v x)->TV E N (QM ry c T0 a b) t'
 | [],_,h0=>fun i v hi hv=>h0 i v hi (by simp) hv
 |j::ry,hb,h0=>by
  have hb:(bif Nat.blt j 512 then dK (fun i=>Nat.blt i 512) ry else false)=true:=hb
  cases hj:Nat.blt j 512 with
  |false=>rw[hj]at hb;cases hb
  |true=>
   rw[hj]at hb
   have key: ∀ i v,i<512->i≠j->(QM ry c T0 a b).at i=some v-> ∃ x,t'.at i=some x/\V E N v x:=by
    intro i v hi kj hv
    have gen: ∀ {l:List Nat},dK (fun i=>Nat.blt i 512) l=true->(∀ q,q∈l->q∈ry)->(QM l c T0 a b).at i=some v->(i∈l/\QL c (a.at i) (b.at i)=some v)∨(i∉l/\T0.at i=some v):=by
     intro l
     induction l with
     |nil=>intro _ _ e;exact .inr ⟨by simp,e⟩
     |cons q l ih=>
      intro hl hs e
      have hl:(bif Nat.blt q 512 then dK (fun i=>Nat.blt i 512) l else false)=true:=hl
      cases hq:Nat.blt q 512 with
      |false=>rw[hq]at hl;cases hl
      |true=>
       rw[hq]at hl
       change ((QM l c T0 a b).put q (QL c (a.at q) (b.at q))).at i=some v at e
       rw[Tq.fj _ _ _ _ (bh.1 hq) hi]at e
       split at e
       ·rename_i e';subst e';exact .inl ⟨List.mem_cons_self,e⟩
       ·rename_i ne
        rcases ih hl (fun q hq=>hs q (List.mem_cons_of_mem _ hq)) e with⟨k1,k2⟩|⟨k1,k2⟩
        ·exact .inl ⟨List.mem_cons_of_mem _ k1,k2⟩
        ·exact .inr ⟨fun h=>(List.mem_cons.1 h).elim ne k1,k2⟩
    rcases gen hb (fun _ h=>h) hv with⟨_,k⟩|⟨k1,k2⟩
    ·unfold QL at k
     split at k
     ·split at k
      ·rename_i _ v1 h1 _ v2 h2
       cases c with
       |true=>
        obtain⟨x,x1,x2⟩:=ht i v1 hi h1
        exact⟨x,x1,uq k x2⟩
       |false=>
        obtain⟨x,x1,x2⟩:=ht i v2 hi h2
        exact⟨x,x1,uq k x2⟩
      ·cases k
     ·cases k
    ·exact h0 i v hi (fun h=>(List.mem_cons.1 h).elim kj k1) k2
   intro i v hi hv
   change ((QM ry c T0 a b).put j (QL c (a.at j) (b.at j))).at i=some v at hv
   rw[Tq.fj _ _ _ _ (bh.1 hj) hi]at hv
   split at hv
   ·rename_i e;subst e
    unfold QL at hv
    split at hv
    ·split at hv
     ·rename_i _ v1 h1 _ v2 h2
      cases c with
      |true=>
       obtain⟨x,x1,x2⟩:=ht i v1 hi h1
       exact⟨x,x1,uq hv x2⟩
      |false=>
       obtain⟨x,x1,x2⟩:=ht i v2 hi h2
       exact⟨x,x1,uq hv x2⟩
     ·cases hv
    ·cases hv
   ·rename_i ne;exact key i v hi ne hv
omit C in
theorem LB.Oy(c:Bool)(x y:LB):(LB.cond c x y).v=bif c then x.v else y.v:=by
 cases x with
 |l x=>cases x<;>cases y with
  |l y=>cases y<;>cases c<;>rfl
  |t y=>rfl
 |t x=>cases y<;>rfl
omit C in
theorem Oz{ry:List Nat}(hb:dK (fun i=>Nat.blt i 512) ry=true){T0:Tq}{x:T (Tq×Hq)}(h:(LJ ry T0 x).1.v=true): ∃ p,x.val=some p/\ ∀ (E:En) (N:Nat) (t':Tm),TV E N p.1 t'->(∀ i v,i<512->i∉ry->T0.at i=some v-> ∃ a,t'.at i=some a/\V E N v a)->TV E N (LJ ry T0 x).2 t':=by
 induction x with
 |bad=>cases h
 |ok p=>exact⟨p,rfl,fun E N t' h1 _=>h1⟩
 |br c a b ma pV=>
  have h':(bif c then(LJ ry T0 a).1.v else(LJ ry T0 b).1.v)=true:=by
   have h1:(LB.cond c (LJ ry T0 a).1 (LJ ry T0 b).1).v=true:=h
   rwa [LB.Oy]at h1
  cases c with
  |true=>
   obtain⟨p,p1,p2⟩:=ma h'
   exact⟨p,p1,fun E N t' h1 h2=>EY (c:=true) (p2 E N t' h1 h2) hb h2⟩
  |false=>
   obtain⟨p,p1,p2⟩:=pV h'
   exact⟨p,p1,fun E N t' h1 h2=>EY (c:=false) (p2 E N t' h1 h2) hb h2⟩
 |ck c a ih=>
  have h1:(LB.and (.t c) (LJ ry T0 a).1).v=true:=h
  rw[LB.EA,Bool.and_eq_true]at h1
  obtain⟨p,p1,p2⟩:=ih h1.2
  have hc:c=true:=h1.1
  subst hc
  exact⟨p,p1,p2⟩
theorem Jo(r:rJ):Sl (IQ call r) (fun n d=>Cj (aM n d) r):=by
 intro E T0 t H h T' H' hT hH e
 unfold IQ at e
 cases hp:(qM r&&dK (fun i=>Nat.blt i 512) (qN r))with
 |false=>rw[hp]at e;exact EW C r E T0 t H h T' H' hT hH e
 |true=>
  rw[hp]at e
  rw[Bool.and_eq_true]at hp
  simp only[cond_true]at e
  obtain⟨h1,e⟩:=kQ e
  cases e
  obtain⟨⟨T1,H1⟩,p1,p2⟩:=Oz hp.2 h1
  have Sp:H1=H:=Jn hp.1 p1
  subst Sp
  obtain⟨t',h',E',k,X,S,GR⟩:=EW C r E T0 t H1 h T1 H1 hT hH p1
  refine⟨t',h',E',k,X,S,p2 E' H1.next t' GR fun i v hi hn hv=>?_⟩
  obtain⟨a,ha,qS⟩:=hT i v hi hv
  obtain⟨M,k⟩:=k
  have k':=k M M (Nat.le_refl _) (Nat.le_refl _)
  dsimp only at k'
  exact⟨a,by rw[B0 hp.2 k' i hi hn];exact ha,qS.mono X.e X.le⟩
structure Ox(E E':En)(H H':Hq)(h h':Hp):Prop where
 A:E'.A=E.A
 G:IS E.G E'.G
 ud:h.next<=h'.next
 ow: ∀ r id,own H' r->fU (E'.K r).av=some id->(∃ r0,own H r0/\fU (E.K r0).av=some id)∨h.next<=id
 gw: ∀ id row,E'.G id=some row->E.G id=some row∨(∃ r0,own H r0/\fU (E.K r0).av=some id)∨h.next<=id
 fr: ∀ id,id<h.next->(∀ r,own H r->fU (E.K r).av≠some id)->h'.aN.get id=h.aN.get id
omit C in
theorem Nx.ox{E E':En}{H H':Hq}{h h':Hp}(X:Nx E E' H H' h h'):Ox E E' H H' h h':=⟨X.e.A,X.e.G,X.ud,X.ow,X.gw,X.fr⟩
omit C in
theorem Ox.trans{E E1 E2:En}{H H1 H2:Hq}{h h1 h2:Hp}(a:Ox E E1 H H1 h h1)(b:Ox E1 E2 H1 H2 h1 h2):Ox E E2 H H2 h h2 where
 A:=b.A.trans a.A
 G id row e:=b.G id row (a.G id row e)
 ud:=Nat.le_trans a.ud b.ud
 ow r id k e:=by
  rcases b.ow r id k e with⟨r0,k0,e0⟩|k0
  ·exact a.ow r0 id k0 e0
  ·exact .inr (Nat.le_trans a.ud k0)
 gw id row e:=by
  rcases b.gw id row e with k|⟨r0,k0,e0⟩|k
  ·exact a.gw id row k
  ·rcases a.ow r0 id k0 e0 with k|k
   ·exact .inr (.inl k)
   ·exact .inr (.inr k)
  ·exact .inr (.inr (Nat.le_trans a.ud k))
 fr id hi hn:=by
  rw[b.fr id (Nat.lt_of_lt_of_le hi a.ud) fun r k e=>?_,a.fr id hi hn]
  rcases a.ow r id k e with⟨r0,k0,e0⟩|k0
  ·exact hn r0 k0 e0
  ·omega
structure Rx where
 X:En->En->Hq->Hq->Hp->Hp->Prop
 of: ∀ {E E':En} {H H':Hq} {h h':Hp},Nx E E' H H' h h'->X E E' H H' h h'
 tr: ∀ {E E1 E2:En} {H H1 H2:Hq} {h h1 h2:Hp},X E E1 H H1 h h1->X E1 E2 H1 H2 h1 h2->X E E2 H H2 h h2
def Rx.s:Rx:=⟨Nx,fun X=>X,Nx.trans⟩
def Rx.w:Rx:=⟨Ox,Nx.ox,Ox.trans⟩
def OA(R:Rx)(E:En)(H:Hq)(h:Hp):Oc->Go.Ab.Rc->Prop
 | .norm T' H',.norm t' h'=> ∃ E',R.X E E' H H' h h'/\SR E' H' h'/\TV E' H'.next T' t'
 | .ret T' H',.ret t' h'=> ∃ E',R.X E E' H H' h h'/\SR E' H' h'/\TV E' H'.next T' t'
 | .exit i T' H',.exit j t' h'=>i=j/\ ∃ E',R.X E E' H H' h h'/\SR E' H' h'/\TV E' H'.next T' t'
 | _,_=>False
def iD(R:Rx)(f:fT)(g:Nat->Nat->rr):Prop:= ∀ (E:En) (T:Tq) (t:Tm) (H:Hq) (h:Hp) (o:Oc),TV E H.next T t->SR E H h->(f T H).val=some o->
 ∃ r,Ev (fun n d=>g n d t h) r/\OA R E H h o r
omit C in
theorem OA.norm{R:Rx}{E:En}{H:Hq}{h:Hp}{T':Tq}{H':Hq}{r:Go.Ab.Rc}(k:OA R E H h (.norm T' H') r): ∃ t' h' E',r=.norm t' h'/\R.X E E' H H' h h'/\SR E' H' h'/\TV E' H'.next T' t':=by
 cases r with
 |norm t' h'=>obtain⟨E',a,b,c⟩:=k;exact⟨t',h',E',rfl,a,b,c⟩
 | _=>exact k.elim
omit C in
theorem OA.trans{R:Rx}{E E1:En}{H H1:Hq}{h h1:Hp}(X:R.X E E1 H H1 h h1){o:Oc}{r:Go.Ab.Rc}(k:OA R E1 H1 h1 o r):OA R E H h o r:=by
 cases o<;>cases r<;>first|exact k.elim|skip
 ·obtain⟨E',a,b,c⟩:=k;exact⟨E',R.tr X a,b,c⟩
 ·obtain⟨E',a,b,c⟩:=k;exact⟨E',R.tr X a,b,c⟩
 ·obtain⟨e,E',a,b,c⟩:=k;exact⟨e,E',R.tr X a,b,c⟩
def nA(R:Rx)(aM:aV)(L:Nat->Option fT):j7->Prop
 | .sq a b=>nA R aM L a/\nA R aM L b
 | .QI _ a b=>nA R aM L a/\nA R aM L b
 | .bl id b=>(match L id with|some f=>iD R f (fun n d=>hJ (aM n d) n (.bl id b))|none=>True)/\nA R aM L b
 | .lp b=>nA R aM L b
 | _=>True
omit C in
theorem bt{R:Rx}{aM:aV}(c:j7):nA R aM (fun _=>none) c:=by
 induction c with
 |sq a b ma pV=>exact⟨ma,pV⟩
 |QI o a b ma pV=>exact⟨ma,pV⟩
 |bl id b ih=>exact⟨trivial,ih⟩
 |lp b ih=>exact ih
 | _=>trivial
def Yv{α:Type}(p:Nat->Nat->Nat->α)(r:α):Prop:= ∃ M,∀ n d j,M<=n->M<=d->M<=j->p n d j=r
omit C in
theorem Yv.diag{α:Type}{p:Nat->Nat->Nat->α}{r:α}(h:Yv p r):Ev (fun n d=>p n d n) r:=by
 obtain⟨M,h⟩:=h
 exact⟨M,fun n d a b=>h n d n a b a⟩
def Jp(j:Nat)(b:rr):rr:=Nat.rec (fun _ _=>.bad) (fun _ ih t h=>Rc.rec Rc.bad (fun t h=>ih t h) (fun t h=>Rc.ret t h) (fun i t h=>Rc.exit i t h) (b t h)) j
omit C in
theorem EZ{R:Rx}{b:fT}{g:Nat->Nat->rr}(hb:iD R b g): ∀ (m:Nat) (E:En) (T:Tq) (t:Tm) (H:Hq) (h:Hp) (o:Oc),TV E H.next T t->SR E H h->
 ((Nat.rec (motive:=fun _=>fT) (fun _ _=>.bad) (fun _ ih t h=>BM (b t h) ih) m:fT) T H).val=some o-> ∃ r,Yv (fun n d j=>Jp j (g n d) t h) r/\OA R E H h o r
 |0,_,_,_,_,_,_,_,_,e=>by cases e
 |m+1,E,T,t,H,h,o,hT,hH,e=>by
  change (BM (b T H) (Nat.rec (motive:=fun _=>fT) (fun _ _=>.bad) (fun _ ih t h=>BM (b t h) ih) m)).val=some o at e
  obtain⟨o1,e1,e2⟩:=Lf.T.cD e
  obtain⟨r1,⟨M1,k1⟩,q1⟩:=hb E T t H h o1 hT hH e1
  cases o1 with
  |norm T1 H1=>
   obtain⟨t1,h1,E1,rfl,X,S1,mB⟩:=q1.norm
   obtain⟨r,⟨M2,k2⟩,q2⟩:=EZ hb m E1 T1 t1 H1 h1 o mB S1 e2
   refine⟨r,⟨max M1 M2+1,fun n d j a b c=>?_⟩,q2.trans X⟩
   obtain⟨j',rfl⟩: ∃ j',j=j'+1:=⟨j - 1,by omega⟩
   show(Rc.rec Rc.bad (fun t h=>Jp j' (g n d) t h) (fun t h=>Rc.ret t h) (fun i t h=>Rc.exit i t h) (g n d t h):Go.Ab.Rc)=r
   have sC:=k1 n d (by omega) (by omega)
   dsimp only at sC
   rw[sC]
   exact k2 n d j' (by omega) (by omega) (by omega)
  |ret T1 H1=>
   cases e2
   refine⟨r1,⟨M1+1,fun n d j a b c=>?_⟩,q1⟩
   obtain⟨j',rfl⟩: ∃ j',j=j'+1:=⟨j - 1,by omega⟩
   show(Rc.rec Rc.bad (fun t h=>Jp j' (g n d) t h) (fun t h=>Rc.ret t h) (fun i t h=>Rc.exit i t h) (g n d t h):Go.Ab.Rc)=r1
   have sC:=k1 n d (by omega) (by omega)
   dsimp only at sC
   rw[sC]
   cases r1<;>first|rfl|exact q1.elim
  |exit i T1 H1=>
   cases e2
   refine⟨r1,⟨M1+1,fun n d j a b c=>?_⟩,q1⟩
   obtain⟨j',rfl⟩: ∃ j',j=j'+1:=⟨j - 1,by omega⟩
   show(Rc.rec Rc.bad (fun t h=>Jp j' (g n d) t h) (fun t h=>Rc.ret t h) (fun i t h=>Rc.exit i t h) (g n d t h):Go.Ab.Rc)=r1
   have sC:=k1 n d (by omega) (by omega)
   dsimp only at sC
   rw[sC]
   cases r1<;>first|rfl|exact q1.elim
theorem yE{R:Rx}(m:Nat){L:Nat->Option fT}(c:j7)(hL:nA R aM L c):iD R (LK L call m c) (fun n d=>hJ (aM n d) n c):=by
 induction c with
 |rg r=>
  intro E T t H h o hT hH e
  have e':((IQ call r T H).bd fun p=>Lf.T.ok (Oc.norm p.1 p.2)).val=some o:=e
  obtain⟨⟨T1,H1⟩,e1,e2⟩:=Lf.T.cD e'
  cases e2
  obtain⟨t',h',E',k,X,S,GR⟩:=Jo C r E T t H h T1 H1 hT hH e1
  refine⟨.norm t' h',k.my fun n d q=>?_,E',R.of X,S,GR⟩
  show(Rt.rec Rc.bad (fun t h=>Rc.norm t h) (Cj (aM n d) r t h):Go.Ab.Rc)=_
  try dsimp only at q
  rw[q]
 |sk=>intro E T t H h o hT hH e;cases e;exact⟨.norm t h,Ev.const rfl,E,R.of (Nx.refl _ _ _),hH,hT⟩
 |sq a b ma pV=>
  intro E T t H h o hT hH e
  have e':(BM (LK L call m a T H) (LK L call m b)).val=some o:=e
  obtain⟨o1,e1,e2⟩:=Lf.T.cD e'
  obtain⟨r1,k1,q1⟩:=ma hL.1 E T t H h o1 hT hH e1
  cases o1 with
  |norm T1 H1=>
   obtain⟨t1,h1,E1,rfl,X,S1,mB⟩:=q1.norm
   obtain⟨r,k2,q2⟩:=pV hL.2 E1 T1 t1 H1 h1 o mB S1 e2
   refine⟨r,k1.Ow k2 fun n d p1 p2=>?_,q2.trans X⟩
   show(Rc.rec Rc.bad (fun t h=>hJ (aM n d) n b t h) (fun t h=>Rc.ret t h) (fun i t h=>Rc.exit i t h) (hJ (aM n d) n a t h):Go.Ab.Rc)=r
   try dsimp only at p1
   rw[p1];exact p2
  |ret T1 H1=>
   cases e2
   refine⟨r1,k1.my fun n d p1=>?_,q1⟩
   show(Rc.rec Rc.bad (fun t h=>hJ (aM n d) n b t h) (fun t h=>Rc.ret t h) (fun i t h=>Rc.exit i t h) (hJ (aM n d) n a t h):Go.Ab.Rc)=r1
   try dsimp only at p1
   rw[p1];cases r1<;>first|rfl|exact q1.elim
  |exit i T1 H1=>
   cases e2
   refine⟨r1,k1.my fun n d p1=>?_,q1⟩
   show(Rc.rec Rc.bad (fun t h=>hJ (aM n d) n b t h) (fun t h=>Rc.ret t h) (fun i t h=>Rc.exit i t h) (hJ (aM n d) n a t h):Go.Ab.Rc)=r1
   try dsimp only at p1
   rw[p1];cases r1<;>first|rfl|exact q1.elim
 |QI c a b ma pV=>
  intro E T t H h o hT hH e
  obtain⟨x,T1,hx,mB,h1,h2⟩:=ov (a:=fun t=>LK L call m a t H) (b:=fun t=>LK L call m b t H) hT e
  have hc: ∀ n d,hJ (aM n d) n (.QI c a b) t h=Bool.rec (hJ (aM n d) n b t h) (hJ (aM n d) n a t h) x:=fun n d=>by
   show aE (bz c) (hJ (aM n d) n a) (hJ (aM n d) n b) t h=_
   unfold aE;rw[hx]
  cases x with
  |true=>
   obtain⟨r,k,q⟩:=ma hL.1 E T1 t H h o mB hH (h1 rfl)
   exact⟨r,k.my fun n d p=>(hc n d).trans p,q⟩
  |false=>
   obtain⟨r,k,q⟩:=pV hL.2 E T1 t H h o mB hH (h2 rfl)
   exact⟨r,k.my fun n d p=>(hc n d).trans p,q⟩
 |bl id b ih=>
  intro E T t H h o hT hH e
  change (match L id with|some f=>f T H|none=>blO id (LK L call m b T H)).val=some o at e
  have hl:=hL.1
  cases hf:L id with
  |some f=>rw[hf]at e hl;exact hl E T t H h o hT hH e
  |none=>
   rw[hf]at e
   obtain⟨o1,e1,e2⟩:=Lf.T.cD e
   obtain⟨r1,k1,q1⟩:=ih hL.2 E T t H h o1 hT hH e1
   cases o1 with
   |norm T1 H1=>
    cases e2
    refine⟨r1,k1.my fun n d p1=>?_,q1⟩
    show(Rc.rec Rc.bad (fun t h=>Rc.norm t h) (fun t h=>Rc.ret t h) (fun i t h=>Bool.rec (Rc.exit i t h) (Rc.norm t h) (Nat.beq i id)) (hJ (aM n d) n b t h):Go.Ab.Rc)=r1
    try dsimp only at p1
    rw[p1];cases r1<;>first|rfl|exact q1.elim
   |ret T1 H1=>
    cases e2
    refine⟨r1,k1.my fun n d p1=>?_,q1⟩
    show(Rc.rec Rc.bad (fun t h=>Rc.norm t h) (fun t h=>Rc.ret t h) (fun i t h=>Bool.rec (Rc.exit i t h) (Rc.norm t h) (Nat.beq i id)) (hJ (aM n d) n b t h):Go.Ab.Rc)=r1
    try dsimp only at p1
    rw[p1];cases r1<;>first|rfl|exact q1.elim
   |exit i T1 H1=>
    cases r1 with
    |exit j t1 h1=>
     obtain⟨rfl,E',X,S,GR⟩:=q1
     cases hi:Nat.beq i id with
     |true=>
      have e2:(Lf.T.ok (bif Nat.beq i id then Oc.norm T1 H1 else Oc.exit i T1 H1)).val=some o:=e2
      rw[hi]at e2
      cases e2
      refine⟨.norm t1 h1,k1.my fun n d p1=>?_,E',X,S,GR⟩
      show(Rc.rec Rc.bad (fun t h=>Rc.norm t h) (fun t h=>Rc.ret t h) (fun i t h=>Bool.rec (Rc.exit i t h) (Rc.norm t h) (Nat.beq i id)) (hJ (aM n d) n b t h):Go.Ab.Rc)=_
      try dsimp only at p1
      rw[p1];simp only[hi]
     |false=>
      have e2:(Lf.T.ok (bif Nat.beq i id then Oc.norm T1 H1 else Oc.exit i T1 H1)).val=some o:=e2
      rw[hi]at e2
      cases e2
      refine⟨.exit i t1 h1,k1.my fun n d p1=>?_,rfl,E',X,S,GR⟩
      show(Rc.rec Rc.bad (fun t h=>Rc.norm t h) (fun t h=>Rc.ret t h) (fun i t h=>Bool.rec (Rc.exit i t h) (Rc.norm t h) (Nat.beq i id)) (hJ (aM n d) n b t h):Go.Ab.Rc)=_
      try dsimp only at p1
      rw[p1];simp only[hi]
    | _=>exact q1.elim
 |lp b ih=>
  intro E T t H h o hT hH e
  obtain⟨r,k,q⟩:=EZ (ih hL) m E T t H h o hT hH e
  exact⟨r,k.diag,q⟩
 |ex i=>intro E T t H h o hT hH e;cases e;exact⟨.exit i t h,Ev.const rfl,rfl,E,R.of (Nx.refl _ _ _),hH,hT⟩
 |rt=>intro E T t H h o hT hH e;cases e;exact⟨.ret t h,Ev.const rfl,E,R.of (Nx.refl _ _ _),hH,hT⟩
 |bad=>intro E T t H h o hT hH e;cases e
end
theorem Jq{E:En}{T:Tq}{t:Tm}{H:Hq}{h:Hp}(hT:TV E H.next T t)(hH:SR E H h){r:Go.Ab.RV}{v:Sv}(e:N9 T H r=some v): ∃ c,Ct t h r=some c/\V E H.next v c:=by
 cases r with
 |tmp i=>obtain⟨hi,e⟩:=bb e;exact hT i v (bh.1 hi) e
 |cell i sz agg=>
  change (match(bif Nat.blt i 512 then T.at i else none)with|some p=>sw sz agg p H|none=>none)=some v at e
  split at e
  ·rename_i p hp
   obtain⟨hi,hp⟩:=bb hp
   obtain⟨a,ha,qS⟩:=hT i p (bh.1 hi) hp
   obtain⟨c,c1,c2⟩:=qR hH qS e
   refine⟨c,?_,c2⟩
   show(match t.at i with|some a=>pX h sz agg a|none=>none)=_
   rw[ha];exact c1
  ·cases e
theorem qT{E:En}{T:Tq}{t:Tm}{H:Hq}{h:Hp}(hT:TV E H.next T t)(hH:SR E H h): ∀ {l:List Go.Ab.RV} {vs:List Sv},Ek T H l=some vs-> ∃ cs,rV t h l=some cs/\Vs E H.next vs cs
 | [],_,e=>by cases e;exact⟨[],rfl,.nil⟩
 |r::l,vs,e=>by
  change (match N9 T H r with|some v=>(match Ek T H l with|some vs=>some (v::vs)|none=>none)|none=>none)=some vs at e
  split at e
  ·rename_i v hv
   split at e
   ·rename_i us hu
    cases e
    obtain⟨c,hc,dR⟩:=Jq hT hH hv
    obtain⟨cs,fh,Ob⟩:=qT hT hH hu
    refine⟨c::cs,?_,.cons dR Ob⟩
    show(match Ct t h r with|some v=>(match rV t h l with|some vs=>some (v::vs)|none=>none)|none=>none)=_
    rw[hc,fh]
   ·cases e
  ·cases e
theorem Jr{E:En}{T:Tq}{t:Tm}{H H':Hq}{h:Hp}(hT:TV E H.next T t)(hH:SR E H h){l:List Go.Ab.RV}{v:Sv}(e:(El l T H).val=some (v,H')):H'=H/\ ∃ c,fin l t h=.ok c h/\V E H.next v c:=by
 unfold El at e
 split at e
 ·rename_i w hw
  cases e
  obtain⟨cs,hc,dR⟩:=qT hT hH hw
  cases dR with
  |cons a b=>cases b;exact⟨rfl,_,by unfold fin;rw[hc],a⟩
 ·rename_i vs hn hw
  cases e
  obtain⟨cs,hc,dR⟩:=qT hT hH hw
  refine⟨rfl,.mD cs,?_,.tu dR⟩
  unfold fin
  rw[hc]
  cases cs with
  |nil=>rfl
  |cons a cs=>
   cases cs with
   |nil=>
    cases dR with
    |cons x y=>cases y;exact(hn _ rfl).elim
   |cons _ _=>rfl
 ·cases e
theorem F8.qU{α:Type}(x:α)(j:Nat):(F8.all x).xq j=x:=by
 unfold F8.all F8.xq
 split<;>rfl
theorem zX(j:Nat):Tq.none.at j=none:=by
 unfold Tq.at Tq.none
 rw[F8.qU,F8.qU,F8.qU]
theorem kI{E:En}{N:Nat}{l:List Sv}: ∀ (as:List AV) (i:Nat) (T:Tq) (t:Tm),Vs E N l as->i+l.length<=512->TV E N T t->TV E N (yp l i T) (fW as i t):=by
 induction l with
 |nil=>intro as i T t h _ hT;cases h;exact hT
 |cons v l ih=>
  intro as i T t h hi hT
  cases h with
  |cons hv h=>
   rename_i a as
   rw[List.length_cons]at hi
   exact ih as (i+1) _ _ h (by omega) (hT.put (by omega) hv)
def qV(b:Fb)(n:Nat)(c:bP):List AV->Hp->Go.Ab.Ro:=fun args h=>ej (Nat.ble (len args) b.ntmps) (match b.body c n (fW args 0 Tm.none) h with
 | .norm t h=>fin b.res t h
 | .ret t h=>fin b.res t h
 | _=>.bad) .bad
def kU(aM:aV)(f:FuncId)(b:bM):Prop:= ∀ n d args h c h',qV b.fb n (aM n d) args h=.ok c h'->aM n (d+1) f args h=.ok c h'
theorem wz{R:Rx}{call:dV}{aM:aV}(C:mw call aM){f:FuncId}{b:bM}(hb:kU aM f b)(o6:b.ntmps<=512){L:Nat->Option fT}(hL:nA R aM L b.code){m:Nat}{E:En}{args:List Sv}{as:List AV}{H H':Hq}{h:Hp}{v:Sv}
 (hv:Vs E H.next args as)(hH:SR E H h)(e:(wa L b m call args H).val=some (v,H')): ∃ c h' E',Ev (fun n d=>aM n d f as h) (.ok c h')/\R.X E E' H H' h h'/\SR E' H' h'/\V E' H'.next v c:=by
 unfold wa at e
 obtain⟨hn,e⟩:=dc e
 have Om:args.length<=b.ntmps:=by have:=Nat.le_of_ble_eq_true hn;rwa [bE]at this
 obtain⟨o,e1,e2⟩:=Lf.T.cD e
 have RJ:TV E H.next (yp args 0 Tq.none) (fW as 0 Tm.none):=kI _ _ _ _ hv (by omega) fun i w _ hw=>by rw[zX]at hw;cases hw
 obtain⟨r,k,q⟩:=yE C (R:=R) m b.code hL E _ _ H h o RJ hH e1
 have hlen:Nat.ble (len as) b.ntmps=true:=by rw[bE,<-hv.length,<-bE];exact hn
 have vG: ∀ {T1:Tq} {H1:Hq} {t1:Tm} {h1:Hp} {E1:En},(r=.norm t1 h1∨r=.ret t1 h1)->R.X E E1 H H1 h h1->SR E1 H1 h1->TV E1 H1.next T1 t1->(El b.res T1 H1).val=some (v,H')-> ∃ c h' E',Ev (fun n d=>aM n d f as h) (.ok c h')/\R.X E E' H H' h h'/\SR E' H' h'/\V E' H'.next v c:=by
  intro T1 H1 t1 h1 E1 hr X S mB e
  obtain⟨hq,c,c1,c2⟩:=Jr mB S e
  rw[hq]
  refine⟨c,h1,E1,?_,X,S,c2⟩
  obtain⟨M,k⟩:=k
  refine⟨M+1,fun n d a a'=>?_⟩
  obtain⟨d',rfl⟩: ∃ d',d=d'+1:=⟨d - 1,by omega⟩
  refine hb n d' as h c h1 ?_
  have k':=k n d' (by omega) (by omega)
  dsimp only at k'
  show ej (Nat.ble (len as) b.ntmps) (match hJ (aM n d') n b.code (fW as 0 Tm.none) h with
   | .norm t h=>fin b.res t h
   | .ret t h=>fin b.res t h
   | _=>.bad) .bad=_
  rw[hlen,k']
  rcases hr with hr|hr<;>rw[hr]<;>exact c1
 cases o with
 |norm T1 H1=>
  obtain⟨t1,h1,E1,hr,X,S,mB⟩:=q.norm
  exact vG (.inl hr) X S mB e2
 |ret T1 H1=>
  cases r with
  |ret t1 h1=>obtain⟨E1,X,S,mB⟩:=q;exact vG (.inr rfl) X S mB e2
  | _=>exact q.elim
 |exit _ _ _=>cases e2
end Lf
end Go.Ab
