import Derived.Test.YtbplobpobnagkaaGreatDoorLfD6
noncomputable section
namespace Go.Ab
namespace Lf
theorem FV{v:Value}(h:dK (.sc v)=true):LY v v=true:=by
 have h':isNil (.sc v)=true:=h
 cases v<;>first|(cases h';done)|skip
 rename_i p n c
 cases p with
 |none=>show(Nat.beq n n&&Nat.beq c c)=true;rw[Nat.beq_refl,Nat.beq_refl];rfl
 |some _=>cases h'
theorem Dn(n:Int):eqI n n=true:=gf.2 rfl
theorem vu{a:AV}(h:dK a=true):nc a a=true:=by
 cases a<;>first|(cases h;done)|skip
 ·exact FV h
 ·rfl
 ·rfl
theorem Dp{l m:List AV}(h:jR l l=true)(k:jR m m=true):jR (l++m) (l++m)=true:=by
 induction l with
 |nil=>exact k
 |cons a l ih=>
  have h:(nc a a&&jR l l)=true:=h
  rw[Bool.and_eq_true]at h
  show(nc a a&&jR (l++m) (l++m))=true
  rw[h.1,ih h.2];rfl
theorem Dq{α:Type}{E:α->List AV->Prop}(hE: ∀ x cs,E x cs->jR cs cs=true): ∀ {x:List α} {ls:List AV},kT E x ls->jR ls ls=true
 | [],_,e=>by have e':_=[]:=e;subst e';rfl
 | _::_,_,⟨c,r,e,a,b⟩=>by subst e;exact Dp (hE _ _ a) (Dq hE b)
theorem Su{G:Nat->Option Rw}{t:Ty}{E:den t->List AV->Prop}(hE: ∀ x cs,E x cs->jR cs cs=true){x:List (den t)}{a:AV}(k:Jo G t E x a):nc a a=true:=by
 rcases k with⟨k,_⟩|⟨ls,k1,k2|⟨id,base,row,k2,_,_⟩⟩
 ·exact vu k
 ·subst k2
  show(Nat.beq _ _&&jR ls ls)=true
  rw[Nat.beq_refl,Bool.true_and]
  exact Dq hE k1
 ·subst k2
  show(Nat.beq _ _&&Nat.beq _ _&&Nat.beq _ _&&Nat.beq _ _)=true
  simp
theorem wY{G:Nat->Option Rw}: ∀ (t:Ty) (x:den t) (cs:List AV),EV G t x cs->jR cs cs=true
 | .int k,x,_,e=>by
  have e':_=_:=e;subst e'
  show(jv k k&&eqI x x&&true)=true
  rw[yb,Dn];rfl
 | .bool,x,_,e=>by
  have e':_=_:=e;subst e'
  show(!(xor x x)&&true)=true
  cases x<;>rfl
 | .str,x,_,e=>by
  have e':_=_:=e;subst e'
  show(LY (.string x) (.string x)&&true)=true
  rw[Bool.and_true];show(x.data.toList == x.data.toList)=true;exact beq_self_eq_true _
 | .ae t,_,_,⟨a,e,k⟩=>by
  subst e
  show(nc a a&&true)=true
  rw[Su (fun x cs=>wY t x cs) k];rfl
 | .pair a b,_,_,⟨c,d,e,k1,k2⟩=>by
  subst e
  exact Dp (wY a _ _ k1) (wY b _ _ k2)
theorem Dr{E:En}{N:Nat}{u v:Sv}{a b:AV}{c:LB}(hu:V E N u a)(hv:V E N v b)(e:Hw u v=some c)(hc:c.v=true):nc a b=true:=by
 have L':(match toN u,toN v with
  |some (k,a),some (k',b)=>bif jv k k' then some (LB.t (decide (a=b)))else none
  | _,_=>match toB u,toB v with
   |some a,some b=>some (LB.t (!(xor a.v b.v)))
   | _,_=>none)=some c->nc a b=true:=by
  intro e
  split at e
  ·rename_i k m k' n h1 h2
   obtain⟨hk,e⟩:=bR e
   cases e
   rw[iF hu h1,iF hv h2]
   have:m=n:=by simpa[LB.v]using hc
   subst this
   show(jv k k'&&eqI m m)=true
   rw[hk,Dn];rfl
  ·split at e
   ·rename_i x y h1 h2
    cases e
    rw[iE hu h1,iE hv h2]
    exact hc
   ·cases e
 unfold Hw at e
 split at e
 ·have e:=(bR e).1;cases hu;cases hv;exact e
 ·cases hu;cases hv
  rename_i a b
  cases a<;>cases b<;>first|rfl|(cases e;done)
 ·have e:=(bR e).1;cases hu;cases hv;exact e
 ·have e:=(bR e).1
  rw[Bool.and_eq_true]at e
  have e1:=beq_true e.1;have e2:=beq_true e.2
  subst e1;subst e2
  cases hu with
  |rf _ h1=>cases hv with
   |rf _ h2=>
    rw[h1]at h2;cases h2
    show(Nat.beq _ _&&Nat.beq _ _)=true
    simp
 ·have e0:=(bR e).1
  replace e:=(bR e).2
  rw[Bool.and_eq_true,Bool.and_eq_true]at e0
  have e1:=beq_true e0.1;have e2:=beq_true e0.2.1;have e3:=beq_true e0.2.2
  subst e1;subst e2;subst e3
  cases e
  simp only[LB.v,decide_eq_true_eq]at hc
  subst hc
  cases hu with
  |re _ h1 _=>cases hv with
   |re _ h2 _=>
    rw[h1]at h2;cases h2
    show(Nat.beq _ _&&Nat.beq _ _)=true
    simp
 ·have e0:=(bR e).1
  rw[Bool.and_eq_true]at e0
  have e1:=beq_true e0.1;have e2:=beq_true e0.2
  subst e1;subst e2
  cases hu with
  |os _ h1=>cases hv with
   |os _ h2=>
    rcases h1 with⟨h1,_⟩|⟨id,base,h1⟩
    ·exact vu h1
    ·rw[h1];show(Nat.beq _ _&&Nat.beq _ _&&Nat.beq _ _&&Nat.beq _ _)=true;simp
 ·have e0:=(bR e).1
  replace e:=(bR e).2
  rw[Bool.and_eq_true]at e0
  have e1:=beq_true e0.1;have e2:=beq_true e0.2
  subst e1;subst e2
  cases e
  simp only[LB.v,Bool.and_eq_true,decide_eq_true_eq]at hc
  obtain⟨c1,c2⟩:=hc
  subst c1;subst c2
  cases hu with
  |se _ h1 _ _=>cases hv with
   |se _ _ _ _=>exact vu h1
   |ss _ h2 _=>rw[h2]at h1;cases h1
  |ss _ h1 _=>cases hv with
   |se _ h2 _ _=>rw[h1]at h2;cases h2
   |ss _ h2 _=>
    rw[h1]at h2
    injection h2 with a1 a2 _ _
    subst a1;subst a2
    show(Nat.beq _ _&&Nat.beq _ _&&Nat.beq _ _&&Nat.beq _ _)=true;simp
 ·have e0:=(bR e).1
  rw[Bool.and_eq_true,Bool.and_eq_true,Bool.and_eq_true]at e0
  have e1:=beq_true e0.1;have e2:=beq_true e0.2.1;have e3:=beq_true e0.2.2.1;have e4:=beq_true e0.2.2.2
  subst e1;subst e2;subst e3;subst e4
  cases hu with
  |xo _ h1=>cases hv with
   |xo _ h2=>rw[h1]at h2;cases h2;show(Nat.beq _ _&&Nat.beq _ _&&Nat.beq _ _&&Nat.beq _ _)=true;simp
 ·have e0:=(bR e).1
  rw[Bool.and_eq_true]at e0
  have hp:=bH.1 e0.1
  have e1:=beq_true e0.2
  subst e1
  cases hu with
  |c k1 m1=>cases hv with
   |c k2 m2=>
    rw[(m1 (by omega)).2,<-(m2 (by omega)).2]
    have:=wY _ _ _ k2
    have this:(nc b b&&true)=true:=this
    rwa [Bool.and_true]at this
 ·exact L' e
theorem Ds{E:En}{N:Nat}: ∀ {l m:List Sv} {as bs:List AV} {c:LB},Vs E N l as->Vs E N m bs->Hx l m=some c->c.v=true->jR as bs=true
 | [],[],_,_,_,.nil,.nil,_,_=>rfl
 | [],_::_,_,_,_,_,_,e,_=>by cases e
 | _::_,[],_,_,_,_,_,e,_=>by cases e
 |u::l,v::m,a::as,b::bs,c,.cons hu hl,.cons hv hm,e,hc=>by
  unfold Hx at e
  split at e
  ·rename_i x hx
   split at e
   ·rename_i y hy
    cases e
    rw[LB.MH,Bool.and_eq_true]at hc
    show(nc a b&&jR as bs)=true
    rw[Dr hu hv hx hc.1,Ds hl hm hy hc.2];rfl
   ·cases e
  ·cases e
theorem Dt{E:En}{N:Nat}{u v:Sv}{a b:AV}{c:LB}(hu:V E N u a)(hv:V E N v b)(e:Hy u v=some c)(hc:c.v=true):nc a b=true:=by
 unfold Hy at e
 split at e
 ·cases hu with
  |ag h1=>cases hv with
   |ag h2=>exact Ds h1 h2 e hc
 ·exact Dr hu hv e hc
theorem Ev.map{α β:Type}{p:Nat->Nat->α}{r:α}(h:Ev p r){q:Nat->Nat->β}{s:β}(k: ∃ M,∀ n d,M<=n->M<=d->p n d=r->q n d=s):Ev q s:=by
 obtain⟨M,h⟩:=h
 obtain⟨M',k⟩:=k
 exact⟨max M M',fun n d h1 h2=>k n d (by omega) (by omega) (h n d (by omega) (by omega))⟩
theorem Ev.sU{α β:Type}{p:Nat->Nat->α}{r:α}(h:Ev p r){q:Nat->Nat->β}{s:β}(k: ∀ n d,p n d=r->q n d=s):Ev q s:=h.map ⟨0,fun n d _ _=>k n d⟩
theorem Ev.XT{α β γ:Type}{p:Nat->Nat->α}{r:α}(h:Ev p r){q:Nat->Nat->β}{s:β}(k:Ev q s){f:Nat->Nat->γ}{u:γ}(g: ∀ n d,p n d=r->q n d=s->f n d=u):Ev f u:=by
 obtain⟨M,h⟩:=h
 obtain⟨M',k⟩:=k
 exact⟨max M M',fun n d h1 h2=>g n d (h n d (by omega) (by omega)) (k n d (by omega) (by omega))⟩
theorem FW{f:fo}{g:OpN}(s:fh f g):fh f (fun n d=>mn (g n d)):=by
 intro E T t H h v T' H' hT hH e
 obtain⟨c,h',E',k,X,S,w,Qd⟩:=s E T t H h v T' H' hT hH e
 refine⟨c,h',E',k.sU fun n d q=>?_,X,S,w,Qd⟩
 have hb:Nat.ble h.next h'.next=true:=by rw[Nat.ble_eq];exact X.Cm
 simp only[mn,q,hb]
theorem FX{f:fo}{g:OpN}(s:fh f g)(j:Od)(want:Bool):fh (XD j want f) (fun n d=>gF (bD j) want (g n d)):=by
 intro E T t H h v T' H' hT hH e
 unfold XD at e
 split at e
 ·rename_i hj
  obtain⟨rfl,rfl,rfl⟩:=aW e
  obtain⟨a,ha,yd⟩:=bz hT hj
  cases yd with
  |tu k=>cases k;exact⟨gV,h,E,⟨0,fun n d _ _=>by unfold gF;simp only[ha]⟩,Nx.refl _ _ _,hH,.tu .nil,hT⟩
 ·obtain⟨c,T1,hc,tB,h1,h2⟩:=vo hT e
  have hg: ∀ n d,gF (bD j) want (g n d) t h=iw (iw want c (!c)) (g n d t h) (.ok gV h):=fun n d=>by unfold gF;rw[hc]
  have yes:(bif want then c else !c)=true->(f T1 H).val=some (v,T',H')-> ∃ c h' E',Ev (fun n d=>gF (bD j) want (g n d) t h) (.ok c h')/\Nx E E' H H' h h'/\SR E' H' h'/\V E' H'.next v c/\TV E' H'.next T' t:=by
   intro hw e
   obtain⟨x,h',E',k,X,S,w,Qd⟩:=s E T1 t H h v T' H' tB hH e
   refine⟨x,h',E',k.sU fun n d q=>?_,X,S,w,Qd⟩
   rw[hg,q]
   cases want<;>cases c<;>first|rfl|cases hw
  have no:(bif want then c else !c)=false->(okV qM T1 H).val=some (v,T',H')-> ∃ c h' E',Ev (fun n d=>gF (bD j) want (g n d) t h) (.ok c h')/\Nx E E' H H' h h'/\SR E' H' h'/\V E' H'.next v c/\TV E' H'.next T' t:=by
   intro hw e
   obtain⟨rfl,rfl,rfl⟩:=aW e
   refine⟨gV,h,E,⟨0,fun n d _ _=>?_⟩,Nx.refl _ _ _,hH,.tu .nil,tB⟩
   show gF (bD j) want (g n d) t h=_
   rw[hg]
   cases want<;>cases c<;>first|rfl|cases hw
  cases c with
  |true=>
   have:=h1 rfl
   cases want with
   |true=>exact yes rfl this
   |false=>exact no rfl this
  |false=>
   have:=h2 rfl
   cases want with
   |true=>exact no rfl this
   |false=>exact yes rfl this
end Lf
end Go.Ab

noncomputable section
namespace Go.Ab
namespace Lf
section
variable {call:eK}{aq:aB}(C:oz call aq)
include C
theorem M3(o:kJ):fh (Vv call o) (fun n d=>FA (aq n d) o):=by
 have h0:=fun o=>Ss C o
 have ho:=h0 o
 cases o with
 |gd j w f=>
  have hw:=FX (h0 f) j w
  cases f with
  |mn f=>
   have hw:=FX (FW (h0 f)) j w
   exact hw
  | _=>exact hw
 |mn f=>
  have hw:=FW (h0 f)
  cases f with
  |gd j w f=>exact FW (FX (h0 f) j w)
  | _=>exact hw
 | _=>exact ho
def acT(f:Tq->Hq->T (Tq×Hq))(g:Nat->Nat->na):Prop:= ∀ (E:En) (T:Tq) (t:Tm) (H:Hq) (h:Hp) (T':Tq) (H':Hq),TV E H.next T t->SR E H h->(f T H).val=some (T',H')->
 ∃ t' h' E',Ev (fun n d=>g n d t h) (.ok t' h')/\Nx E E' H H' h h'/\SR E' H' h'/\TV E' H'.next T' t'
theorem M4(r:zj):acT (xX call r) (fun n d=>Ko (aq n d) r):=by
 induction r with
 |fi=>intro E T t H h T' H' hT hH e;cases e;exact⟨t,h,E,Ev.const rfl,Nx.refl _ _ _,hH,hT⟩
 |st i f k ih=>
  intro E T t H h T' H' hT hH e
  change (bif Nat.blt i 512 then(Vv call f T H).bd fun p=>xX call k (p.2.1.put i (some p.1)) p.2.2 else .bad).val=some (T',H')at e
  obtain⟨hi,e⟩:=eE e
  obtain⟨⟨v,T1,H1⟩,e1,e2⟩:=Lf.T.dI e
  obtain⟨c,h1,E1,k1,X1,S1,w1,tB⟩:=M3 C f E T t H h v T1 H1 hT hH e1
  obtain⟨t2,h2,E2,k2,X2,S2,Qc⟩:=ih E1 _ (t.put i (some c)) H1 h1 T' H' (tB.put (bH.1 hi) w1) S1 e2
  refine⟨t2,h2,E2,k1.XT k2 fun n d q1 q2=>?_,X1.trans X2,S2,Qc⟩
  show(Go.Ab.Ro.rec Go.Ab.Rt.bad (fun v h=>Ko (aq n d) k (sT i v t) h) (FA (aq n d) f t h):Go.Ab.Rt)=_
  try dsimp only at q1
  rw[q1]
  exact q2
 |sn f k ih=>
  intro E T t H h T' H' hT hH e
  change ((Vv call f T H).bd fun p=>xX call k p.2.1 p.2.2).val=some (T',H')at e
  obtain⟨⟨v,T1,H1⟩,e1,e2⟩:=Lf.T.dI e
  obtain⟨c,h1,E1,k1,X1,S1,w1,tB⟩:=M3 C f E T t H h v T1 H1 hT hH e1
  obtain⟨t2,h2,E2,k2,X2,S2,Qc⟩:=ih E1 _ t H1 h1 T' H' tB S1 e2
  refine⟨t2,h2,E2,k1.XT k2 fun n d q1 q2=>?_,X1.trans X2,S2,Qc⟩
  show(Go.Ab.Ro.rec Go.Ab.Rt.bad (fun v h=>Ko (aq n d) k t h) (FA (aq n d) f t h):Go.Ab.Rt)=_
  try dsimp only at q1
  rw[q1]
  exact q2
 |ck s f k ih=>
  intro E T t H h T' H' hT hH e
  have fin: ∀ (F:Nat->Nat->eH) (y z:AV),(∀ n d,F n d t h=.ok y h)->bD s t=some z->nc z y=true->(xX call k T H).val=some (T',H')-> ∃ t' h' E',Ev (fun n d=>Go.Ab.ck (bD s) (F n d) (Ko (aq n d) k) t h) (.ok t' h')/\Nx E E' H H' h h'/\SR E' H' h'/\TV E' H'.next T' t':=by
   intro F y z hF hz hs e
   obtain⟨t2,h2,E2,k2,X2,S2,Qc⟩:=ih E T t H h T' H' hT hH e
   refine⟨t2,h2,E2,k2.sU fun n d q=>?_,X2,S2,Qc⟩
   show(Go.Ab.Ro.rec Go.Ab.Rt.bad (fun v _=>Option.rec Go.Ab.Rt.bad (fun u=>Bool.rec Go.Ab.Rt.bad (Ko (aq n d) k t h) (nc u v)) (bD s t)) (F n d t h):Go.Ab.Rt)=_
   rw[hF,hz]
   simp only[hs]
   exact q
  have ldc: ∀ {sz:Nat} {g:Bool} {a:Od},(Dd s sz g a T H (xX call k T H)).val=some (T',H')-> ∃ y z,bh sz g (bD a) t h=.ok y h/\bD s t=some z/\nc z y=true/\(xX call k T H).val=some (T',H'):=by
   intro sz g a e
   unfold Dd at e
   split at e
   ·rename_i p hp
    split at e
    ·rename_i v hv
     split at e
     ·rename_i u hu
      split at e
      ·rename_i c hc
       obtain⟨gD,e⟩:=qN e
       obtain⟨x,hx,LJ⟩:=bz hT hp
       obtain⟨y,hy,hyv⟩:=yc hH LJ hv
       obtain⟨z,hz,wL⟩:=bz hT hu
       have hs:=Dt wL hyv hc gD
       exact⟨y,z,by unfold bh;rw[hx];simp only[hy],hz,hs,e⟩
      ·cases e
     ·cases e
    ·cases e
   ·cases e
  have unc:(zl s T (xX call k T H)).val=some (T',H')-> ∃ z,bD s t=some z/\nc z gV=true/\(xX call k T H).val=some (T',H'):=by
   intro e
   unfold zl at e
   split at e
   ·rename_i hu
    obtain⟨z,hz,wL⟩:=bz hT hu
    cases wL with
    |tu q=>cases q;exact⟨_,hz,by kernel_rfl,e⟩
   ·cases e
  cases f with
  |ld sz g a=>
   obtain⟨y,z,h1,h2,h3,h4⟩:=ldc e
   exact fin (fun _ _=>bh sz g (bD a)) y z (fun _ _=>h1) h2 h3 h4
  |slN sz a lo hi=>
   change (Mt s sz a lo hi T H (xX call k T H)).val=some (T',H')at e
   unfold Mt at e
   obtain⟨⟨v,T1,H1⟩,e1,e2⟩:=Lf.T.dI e
   obtain⟨_,_,y,hy,hyv⟩:=Dk sz a lo hi E T t H h v T1 H1 hT hH e1
   split at e2
   ·rename_i u hu
    split at e2
    ·rename_i c hc
     obtain⟨gD,e2⟩:=qN e2
     obtain⟨z,hz,wL⟩:=bz hT hu
     exact fin (fun _ _=>cZ sz (bD a) (lo.map bD) (hi.map bD)) y z (fun _ _=>hy) hz (Dt wL hyv hc gD) e2
    ·cases e2
   ·cases e2
  |gd j w f=>
   cases f with
   |ld sz g a=>
    change (match kp j T with
     |some (.b c)=>bif (bif w then c else !c)then Dd s sz g a T H (xX call k T H)else zl s T (xX call k T H)
     |some (.tu [])=>zl s T (xX call k T H)
     | _=>.bad:Lf.T (Tq×Hq)).val=some (T',H')at e
    split at e
    ·rename_i c hj
     obtain⟨q,hq,hqv⟩:=bz hT hj
     cases hqv
     cases hc:(bif w then c else !c)with
     |true=>
      rw[hc]at e
      obtain⟨y,z,h1,h2,h3,h4⟩:=ldc e
      refine fin (fun _ _=>gF (bD j) w (bh sz g (bD a))) y z (fun _ _=>?_) h2 h3 h4
      unfold gF
      rw[hq]
      cases w<;>cases c<;>first|(cases hc;done)|exact h1
     |false=>
      rw[hc]at e
      obtain⟨z,h2,h3,h4⟩:=unc e
      refine fin (fun _ _=>gF (bD j) w (bh sz g (bD a))) gV z (fun _ _=>?_) h2 h3 h4
      unfold gF
      rw[hq]
      cases w<;>cases c<;>first|(cases hc;done)|rfl
    ·rename_i hj
     obtain⟨q,hq,hqv⟩:=bz hT hj
     cases hqv with
     |tu qq=>
      cases qq
      obtain⟨z,h2,h3,h4⟩:=unc e
      refine fin (fun _ _=>gF (bD j) w (bh sz g (bD a))) gV z (fun _ _=>?_) h2 h3 h4
      unfold gF
      rw[hq]
    ·cases e
   | _=>cases e
  | _=>cases e
omit C in
theorem kW{v w:Sv}{t t':Tq}{h h':Hq}(e:(okV v t h).val=some (w,t',h')):h'=h:=(aW e).2.2
omit C in
theorem qQ{v:Option Sv}{w:Sv}{t t':Tq}{h h':Hq}(e:(okO v t h).val=some (w,t',h')):h'=h:=(mM e).2.2
omit C in
theorem Bq{j:Od}{T0 T':Tq}{a b:Tq->T (Sv×Tq×Hq)}{v:Sv}{H H':Hq}(ha: ∀ t,(a t).val=some (v,T',H')->H'=H)(hb: ∀ t,(b t).val=some (v,T',H')->H'=H)(e:(sO j T0 a b).val=some (v,T',H')):H'=H:=by
 unfold sO at e
 split at e
 ·rename_i i
  cases EH:Nat.blt i 512 with
  |false=>rw[EH]at e;cases e
  |true=>
   rw[EH]at e
   simp only[cond_true]at e
   split at e
   ·rename_i c _
    cases c with
    |true=>exact ha _ e
    |false=>exact hb _ e
   ·rename_i m x _
    rw[Lf.T.dX]at e
    cases x with
    |true=>exact ha _ e
    |false=>exact hb _ e
   ·cases e
 ·rename_i c
  cases c with
  |true=>exact ha _ e
  |false=>exact hb _ e
 ·cases e
omit C in
theorem Br{o:kJ}(hp:nR o=true)(hg: ∀ j w f,o≠ .gd j w f){T0 T':Tq}{H H':Hq}{v:Sv}(e:(xW call o T0 H).val=some (v,T',H')):H'=H:=by
 cases o<;>first|(cases hp;done)|exact(hg _ _ _ rfl).elim|skip
 case mv=>exact qQ e
 case pk=>exact Bq (a:=fun t=>xU _ t H) (b:=fun t=>xU _ t H) (fun _ e=>qQ e) (fun _ e=>qQ e) e
 all_goals
  simp only[xW]at e
  first
   |unfold Hs at e
   |unfold Ht at e
   |unfold RP at e
   |unfold sUn at e
   |unfold pK at e
   |unfold Bc at e
   |unfold RQ at e
   |unfold RR at e
   |unfold Be at e
   |unfold wU at e
   |unfold uh at e
   |unfold cH at e
   |unfold Hu at e
   |unfold FG at e
  repeat' split at e
  all_goals first
   |(cases e;done)
   |exact kW e
   |exact qQ e
   |exact kW (Lf.T.aY e).2
   |(obtain⟨_,_,e2⟩:=Lf.T.dI e;exact kW e2)
   |(obtain⟨_,e⟩:=eE e;first|exact kW e|exact qQ e|exact kW (Lf.T.aY e).2)
   |skip
omit C in
theorem M5{o:kJ}(hp:nR o=true){T0 T':Tq}{H H':Hq}{v:Sv}(e:(Vv call o T0 H).val=some (v,T',H')):H'=H:=by
 cases o with
 |gd j w f=>
  have hf:nR f=true/\(∀ j w g,f≠ .gd j w g)/\ ∀ g,f≠ .mn g:=by
   cases f<;>first|(cases hp;done)|exact⟨hp,fun _ _ _=>(by intro h;cases h),fun _=>(by intro h;cases h)⟩
  have e':(XD j w (xW call f) T0 H).val=some (v,T',H'):=by
   cases f<;>first|exact e|exact(hf.2.2 _ rfl).elim
  unfold XD at e'
  split at e'
  ·exact kW e'
  ·cases w with
   |true=>exact Bq (a:=fun t=>xW call f t H) (b:=fun t=>okV qM t H) (fun _ e=>Br hf.1 hf.2.1 e) (fun _ e=>kW e) e'
   |false=>exact Bq (a:=fun t=>okV qM t H) (b:=fun t=>xW call f t H) (fun _ e=>kW e) (fun _ e=>Br hf.1 hf.2.1 e) e'
 |mn f=>cases hp
 | _=>first|(cases hp;done)|exact Br (call:=call) (T0:=T0) hp (fun _ _ _ h=>by cases h) e
omit C in
theorem Sw{r:zj}(hp:xY r=true): ∀ {T0 T':Tq} {H H':Hq},(xX call r T0 H).val=some (T',H')->H'=H:=by
 induction r with
 |fi=>intro T0 T' H H' e;cases e;rfl
 |st i f k ih=>
  intro T0 T' H H' e
  have hp:(bif nR f then xY k else false)=true:=hp
  cases hf:nR f with
  |false=>rw[hf]at hp;cases hp
  |true=>
   rw[hf]at hp
   change (bif Nat.blt i 512 then(Vv call f T0 H).bd fun p=>xX call k (p.2.1.put i (some p.1)) p.2.2 else .bad).val=some (T',H')at e
   obtain⟨_,e⟩:=eE e
   obtain⟨⟨v,T1,H1⟩,e1,e2⟩:=Lf.T.dI e
   rw[ih hp e2]
   exact M5 hf e1
 |sn f k ih=>
  intro T0 T' H H' e
  have hp:(bif nR f then xY k else false)=true:=hp
  cases hf:nR f with
  |false=>rw[hf]at hp;cases hp
  |true=>
   rw[hf]at hp
   change ((Vv call f T0 H).bd fun p=>xX call k p.2.1 p.2.2).val=some (T',H')at e
   obtain⟨⟨v,T1,H1⟩,e1,e2⟩:=Lf.T.dI e
   rw[ih hp e2]
   exact M5 hf e1
 |ck s f k ih=>
  intro T0 T' H H' e
  have ldc: ∀ {sz:Nat} {g:Bool} {a:Od},(Dd s sz g a T0 H (xX call k T0 H)).val=some (T',H')->H'=H:=by
   intro sz g a e
   unfold Dd at e
   split at e
   ·split at e
    ·split at e
     ·split at e
      ·obtain⟨_,e⟩:=qN e
       exact ih hp e
      ·cases e
     ·cases e
    ·cases e
   ·cases e
  have unc:(zl s T0 (xX call k T0 H)).val=some (T',H')->H'=H:=by
   intro e
   unfold zl at e
   split at e
   ·exact ih hp e
   ·cases e
  cases f with
  |ld sz g a=>exact ldc e
  |slN sz a lo hi=>
   change (Mt s sz a lo hi T0 H (xX call k T0 H)).val=some (T',H')at e
   unfold Mt at e
   obtain⟨⟨v,T1,H1⟩,e1,e2⟩:=Lf.T.dI e
   split at e2
   ·split at e2
    ·obtain⟨_,e2⟩:=qN e2
     exact ih hp e2
    ·cases e2
   ·cases e2
  |gd j w f=>
   cases f with
   |ld sz g a=>
    change (match kp j T0 with
     |some (.b c)=>bif (bif w then c else !c)then Dd s sz g a T0 H (xX call k T0 H)else zl s T0 (xX call k T0 H)
     |some (.tu [])=>zl s T0 (xX call k T0 H)
     | _=>.bad:Lf.T (Tq×Hq)).val=some (T',H')at e
    split at e
    ·rename_i c hj
     cases hc:(bif w then c else !c)with
     |true=>rw[hc]at e;exact ldc e
     |false=>rw[hc]at e;exact unc e
    ·exact unc e
    ·cases e
   | _=>cases e
  | _=>cases e
omit C in
theorem Jz{c:cV}{r:zj}: ∀ {t t':Tm} {h h':Hp},cb (fun i=>Nat.blt i 512) (xZ r)=true->Ko c r t h=.ok t' h'-> ∀ i,i<512->i∉xZ r->t'.at i=t.at i:=by
 induction r with
 |fi=>intro t t' h h' _ e i _ _;cases e;rfl
 |st j f k ih=>
  intro t t' h h' hb e i hi hn
  have hb:(bif Nat.blt j 512 then cb (fun i=>Nat.blt i 512) (xZ k)else false)=true:=hb
  cases hj:Nat.blt j 512 with
  |false=>rw[hj]at hb;cases hb
  |true=>
   rw[hj]at hb
   have XO:i∉j::xZ k:=hn
   change (Go.Ab.Ro.rec Go.Ab.Rt.bad (fun v h=>Ko c k (sT j v t) h) (FA c f t h):Go.Ab.Rt)=.ok t' h' at e
   cases ha:FA c f t h with
   |bad=>rw[ha]at e;cases e
   |ok v h1=>
    rw[ha]at e
    rw[ih hb e i hi fun q=>XO (List.mem_cons_of_mem _ q)]
    show(t.put j (some v)).at i=_
    rw[Tm.jA _ _ _ _ (bH.1 hj) hi,if_neg fun q=>XO (by rw[q];exact List.mem_cons_self)]
 |sn f k ih=>
  intro t t' h h' hb e i hi hn
  change (Go.Ab.Ro.rec Go.Ab.Rt.bad (fun v h=>Ko c k t h) (FA c f t h):Go.Ab.Rt)=.ok t' h' at e
  cases ha:FA c f t h with
  |bad=>rw[ha]at e;cases e
  |ok v h1=>rw[ha]at e;exact ih hb e i hi hn
 |ck s f k ih=>
  intro t t' h h' hb e i hi hn
  change (Go.Ab.Ro.rec Go.Ab.Rt.bad (fun v _=>Option.rec Go.Ab.Rt.bad (fun u=>Bool.rec Go.Ab.Rt.bad (Ko c k t h) (nc u v)) (bD s t)) (FA c f t h):Go.Ab.Rt)=.ok t' h' at e
  cases ha:FA c f t h with
  |bad=>rw[ha]at e;cases e
  |ok v h1=>
   rw[ha]at e
   cases hs:bD s t with
   |none=>rw[hs]at e;cases e
   |some u=>
    rw[hs]at e
    simp only at e
    cases hq:nc u v with
    |false=>rw[hq]at e;cases e
    |true=>rw[hq]at e;exact ih hb e i hi hn
omit C in
theorem Bs{E:En}{N:Nat}{c:Bool}{v w u:Sv}{a:AV}(e:mgV c v w=some u)(hv:V E N (bif c then v else w) a):V E N u a:=by
 have L':(match toN v,toN w with
  |some (k,x),some (k',y)=>bif jv k k' then some (Sv.c 0 (.int k) (bif c then x else y))else none
  | _,_=>match toB v,toB w with
   |some x,some y=>some (.c 0 .bool (bif c then x.v else y.v))
   | _,_=>none)=some u->V E N u a:=by
  intro e
  split at e
  ·rename_i k x k' y h1 h2
   obtain⟨hk,e⟩:=bR e
   cases e
   have:=eQ.1 hk;subst this
   cases c with
   |true=>rw[iF hv h1];exact gm
   |false=>rw[iF hv h2];exact gm
  ·split at e
   ·rename_i x y h1 h2
    cases e
    cases c with
    |true=>rw[iE hv h1];exact lV
    |false=>rw[iE hv h2];exact lV
   ·cases e
 unfold mgV at e
 split at e
 ·rename_i x y
  cases x<;>cases y<;>cases c<;>cases e<;>cases hv<;>first|exact .b|exact lV
 ·obtain⟨h,e⟩:=bR e
  cases e
  have:=wQ _ _ h;subst this
  cases c<;>exact hv
 ·obtain⟨h,e⟩:=bR e
  cases e
  rw[Bool.and_eq_true]at h
  have h1:=beq_true h.1;have h2:=beq_true h.2
  subst h1;subst h2
  cases c<;>exact hv
 ·obtain⟨h,e⟩:=bR e
  cases e
  rw[Bool.and_eq_true]at h
  have h1:=beq_true h.1;have h2:=beq_true h.2
  subst h1;subst h2
  cases c<;>exact hv
 ·split at e
  ·rename_i p _
   cases p
   cases e
   cases c with
   |true=>cases hv with
    |c k _=>exact .c k fun h=>(h rfl).elim
   |false=>cases hv with
    |c k _=>exact .c k fun h=>(h rfl).elim
  ·cases e
 ·rename_i k x k' y
  have h:=(bR e).1
  replace e:=(bR e).2
  have:=eQ.1 h;subst this
  cases hb:eqI x y with
  |true=>
   rw[hb]at e;cases e
   have:=gf.1 hb;subst this
   cases c<;>exact hv
  |false=>
   rw[hb]at e;cases e
   cases c<;>cases hv<;>exact gm
 ·exact L' e
omit C in
theorem M6{E:En}{N:Nat}{c:Bool}{a b T0:Tq}{t':Tm}(ht:TV E N (bif c then a else b) t'): ∀ {y0:List Nat},cb (fun i=>Nat.blt i 512) y0=true->(∀ i v,i<512->i∉y0->T0.at i=some v-> ∃ x,t'.at i=some x/\V E N v x)->TV E N (mgT y0 c T0 a b) t'
 | [],_,h0=>fun i v hi hv=>h0 i v hi (by simp) hv
 |j::y0,hb,h0=>by
  have hb:(bif Nat.blt j 512 then cb (fun i=>Nat.blt i 512) y0 else false)=true:=hb
  cases hj:Nat.blt j 512 with
  |false=>rw[hj]at hb;cases hb
  |true=>
   rw[hj]at hb
   have key: ∀ i v,i<512->i≠j->(mgT y0 c T0 a b).at i=some v-> ∃ x,t'.at i=some x/\V E N v x:=by
    intro i v hi jQ hv
    have gen: ∀ {l:List Nat},cb (fun i=>Nat.blt i 512) l=true->(∀ q,q∈l->q∈y0)->(mgT l c T0 a b).at i=some v->(i∈l/\mgO c (a.at i) (b.at i)=some v)∨(i∉l/\T0.at i=some v):=by
     intro l
     induction l with
     |nil=>intro _ _ e;exact .inr ⟨by simp,e⟩
     |cons q l ih=>
      intro hl hs e
      have hl:(bif Nat.blt q 512 then cb (fun i=>Nat.blt i 512) l else false)=true:=hl
      cases hq:Nat.blt q 512 with
      |false=>rw[hq]at hl;cases hl
      |true=>
       rw[hq]at hl
       change ((mgT l c T0 a b).put q (mgO c (a.at q) (b.at q))).at i=some v at e
       rw[Tq.jA _ _ _ _ (bH.1 hq) hi]at e
       split at e
       ·rename_i e';subst e';exact .inl ⟨List.mem_cons_self,e⟩
       ·rename_i ne
        rcases ih hl (fun q hq=>hs q (List.mem_cons_of_mem _ hq)) e with⟨k1,k2⟩|⟨k1,k2⟩
        ·exact .inl ⟨List.mem_cons_of_mem _ k1,k2⟩
        ·exact .inr ⟨fun h=>(List.mem_cons.1 h).elim ne k1,k2⟩
    rcases gen hb (fun _ h=>h) hv with⟨_,k⟩|⟨k1,k2⟩
    ·unfold mgO at k
     split at k
     ·split at k
      ·rename_i _ v1 h1 _ v2 h2
       cases c with
       |true=>
        obtain⟨x,x1,x2⟩:=ht i v1 hi h1
        exact⟨x,x1,Bs k x2⟩
       |false=>
        obtain⟨x,x1,x2⟩:=ht i v2 hi h2
        exact⟨x,x1,Bs k x2⟩
      ·cases k
     ·cases k
    ·exact h0 i v hi (fun h=>(List.mem_cons.1 h).elim jQ k1) k2
   intro i v hi hv
   change ((mgT y0 c T0 a b).put j (mgO c (a.at j) (b.at j))).at i=some v at hv
   rw[Tq.jA _ _ _ _ (bH.1 hj) hi]at hv
   split at hv
   ·rename_i e;subst e
    unfold mgO at hv
    split at hv
    ·split at hv
     ·rename_i _ v1 h1 _ v2 h2
      cases c with
      |true=>
       obtain⟨x,x1,x2⟩:=ht i v1 hi h1
       exact⟨x,x1,Bs hv x2⟩
      |false=>
       obtain⟨x,x1,x2⟩:=ht i v2 hi h2
       exact⟨x,x1,Bs hv x2⟩
     ·cases hv
    ·cases hv
   ·rename_i ne;exact key i v hi ne hv
omit C in
theorem LB.XU(c:Bool)(x y:LB):(LB.cond c x y).v=bif c then x.v else y.v:=by
 cases x with
 |l x=>cases x<;>cases y with
  |l y=>cases y<;>cases c<;>rfl
  |t y=>rfl
 |t x=>cases y<;>rfl
omit C in
theorem XV{y0:List Nat}(hb:cb (fun i=>Nat.blt i 512) y0=true){T0:Tq}{x:T (Tq×Hq)}(h:(Vw y0 T0 x).1.v=true): ∃ p,x.val=some p/\ ∀ (E:En) (N:Nat) (t':Tm),TV E N p.1 t'->(∀ i v,i<512->i∉y0->T0.at i=some v-> ∃ a,t'.at i=some a/\V E N v a)->TV E N (Vw y0 T0 x).2 t':=by
 induction x with
 |bad=>cases h
 |ok p=>exact⟨p,rfl,fun E N t' h1 _=>h1⟩
 |br c a b sG xh=>
  have h':(bif c then(Vw y0 T0 a).1.v else(Vw y0 T0 b).1.v)=true:=by
   have h1:(LB.cond c (Vw y0 T0 a).1 (Vw y0 T0 b).1).v=true:=h
   rwa [LB.XU]at h1
  cases c with
  |true=>
   obtain⟨p,p1,p2⟩:=sG h'
   exact⟨p,p1,fun E N t' h1 h2=>M6 (c:=true) (p2 E N t' h1 h2) hb h2⟩
  |false=>
   obtain⟨p,p1,p2⟩:=xh h'
   exact⟨p,p1,fun E N t' h1 h2=>M6 (c:=false) (p2 E N t' h1 h2) hb h2⟩
 |ck c a ih=>
  have h1:(LB.and (.t c) (Vw y0 T0 a).1).v=true:=h
  rw[LB.MH,Bool.and_eq_true]at h1
  obtain⟨p,p1,p2⟩:=ih h1.2
  have hc:c=true:=h1.1
  subst hc
  exact⟨p,p1,p2⟩
theorem Sx(r:zj):acT (RU call r) (fun n d=>Ko (aq n d) r):=by
 intro E T0 t H h T' H' hT hH e
 unfold RU at e
 cases hp:(xY r&&cb (fun i=>Nat.blt i 512) (xZ r))with
 |false=>rw[hp]at e;exact M4 C r E T0 t H h T' H' hT hH e
 |true=>
  rw[hp]at e
  rw[Bool.and_eq_true]at hp
  simp only[cond_true]at e
  obtain⟨h1,e⟩:=qN e
  cases e
  obtain⟨⟨T1,H1⟩,p1,p2⟩:=XV hp.2 h1
  have hH1:H1=H:=Sw hp.1 p1
  subst hH1
  obtain⟨t',h',E',k,X,S,Qd⟩:=M4 C r E T0 t H1 h T1 H1 hT hH p1
  refine⟨t',h',E',k,X,S,p2 E' H1.next t' Qd fun i v hi hn hv=>?_⟩
  obtain⟨a,ha,yd⟩:=hT i v hi hv
  obtain⟨M,k⟩:=k
  have k':=k M M (Nat.le_refl _) (Nat.le_refl _)
  dsimp only at k'
  exact⟨a,by rw[Jz hp.2 k' i hi hn];exact ha,yd.mono X.e X.le⟩
structure Ox(E E':En)(H H':Hq)(h h':Hp):Prop where
 A:E'.A=E.A
 G:RW E.G E'.G
 Cm:h.next<=h'.next
 ow: ∀ r id,own H' r->lG (E'.K r).av=some id->(∃ r0,own H r0/\lG (E.K r0).av=some id)∨h.next<=id
 gw: ∀ id row,E'.G id=some row->E.G id=some row∨(∃ r0,own H r0/\lG (E.K r0).av=some id)∨h.next<=id
 fr: ∀ id,id<h.next->(∀ r,own H r->lG (E.K r).av≠some id)->h'.aL.get id=h.aL.get id
omit C in
theorem Nx.ox{E E':En}{H H':Hq}{h h':Hp}(X:Nx E E' H H' h h'):Ox E E' H H' h h':=⟨X.e.A,X.e.G,X.Cm,X.ow,X.gw,X.fr⟩
omit C in
theorem Ox.trans{E E1 E2:En}{H H1 H2:Hq}{h h1 h2:Hp}(a:Ox E E1 H H1 h h1)(b:Ox E1 E2 H1 H2 h1 h2):Ox E E2 H H2 h h2 where
 A:=b.A.trans a.A
 G id row e:=b.G id row (a.G id row e)
 Cm:=Nat.le_trans a.Cm b.Cm
 ow r id k e:=by
  rcases b.ow r id k e with⟨r0,k0,e0⟩|k0
  ·exact a.ow r0 id k0 e0
  ·exact .inr (Nat.le_trans a.Cm k0)
 gw id row e:=by
  rcases b.gw id row e with k|⟨r0,k0,e0⟩|k
  ·exact a.gw id row k
  ·rcases a.ow r0 id k0 e0 with k|k
   ·exact .inr (.inl k)
   ·exact .inr (.inr k)
  ·exact .inr (.inr (Nat.le_trans a.Cm k))
 fr id hi hn:=by
  rw[b.fr id (Nat.lt_of_lt_of_le hi a.Cm) fun r k e=>?_,a.fr id hi hn]
  rcases a.ow r id k e with⟨r0,k0,e0⟩|k0
  ·exact hn r0 k0 e0
  ·omega
structure Rx where
 X:En->En->Hq->Hq->Hp->Hp->Prop
 of: ∀ {E E':En} {H H':Hq} {h h':Hp},Nx E E' H H' h h'->X E E' H H' h h'
 tr: ∀ {E E1 E2:En} {H H1 H2:Hq} {h h1 h2:Hp},X E E1 H H1 h h1->X E1 E2 H1 H2 h1 h2->X E E2 H H2 h h2
def Rx.s:Rx:=⟨Nx,fun X=>X,Nx.trans⟩
def Rx.w:Rx:=⟨Ox,Nx.ox,Ox.trans⟩
def XW(R:Rx)(E:En)(H:Hq)(h:Hp):Oc->Go.Ab.Rc->Prop
 | .norm T' H',.norm t' h'=> ∃ E',R.X E E' H H' h h'/\SR E' H' h'/\TV E' H'.next T' t'
 | .ret T' H',.ret t' h'=> ∃ E',R.X E E' H H' h h'/\SR E' H' h'/\TV E' H'.next T' t'
 | .exit i T' H',.exit j t' h'=>i=j/\ ∃ E',R.X E E' H H' h h'/\SR E' H' h'/\TV E' H'.next T' t'
 | _,_=>False
def ed(R:Rx)(f:fE)(g:Nat->Nat->yY):Prop:= ∀ (E:En) (T:Tq) (t:Tm) (H:Hq) (h:Hp) (o:Oc),TV E H.next T t->SR E H h->(f T H).val=some o->
 ∃ r,Ev (fun n d=>g n d t h) r/\XW R E H h o r
omit C in
theorem XW.norm{R:Rx}{E:En}{H:Hq}{h:Hp}{T':Tq}{H':Hq}{r:Go.Ab.Rc}(k:XW R E H h (.norm T' H') r): ∃ t' h' E',r=.norm t' h'/\R.X E E' H H' h h'/\SR E' H' h'/\TV E' H'.next T' t':=by
 cases r with
 |norm t' h'=>obtain⟨E',a,b,c⟩:=k;exact⟨t',h',E',rfl,a,b,c⟩
 | _=>exact k.elim
omit C in
theorem XW.trans{R:Rx}{E E1:En}{H H1:Hq}{h h1:Hp}(X:R.X E E1 H H1 h h1){o:Oc}{r:Go.Ab.Rc}(k:XW R E1 H1 h1 o r):XW R E H h o r:=by
 cases o<;>cases r<;>first|exact k.elim|skip
 ·obtain⟨E',a,b,c⟩:=k;exact⟨E',R.tr X a,b,c⟩
 ·obtain⟨E',a,b,c⟩:=k;exact⟨E',R.tr X a,b,c⟩
 ·obtain⟨e,E',a,b,c⟩:=k;exact⟨e,E',R.tr X a,b,c⟩
def jm(R:Rx)(aq:aB)(L:Nat->Option fE):qi->Prop
 | .sq a b=>jm R aq L a/\jm R aq L b
 | .cif _ a b=>jm R aq L a/\jm R aq L b
 | .bl id b=>(match L id with|some f=>ed R f (fun n d=>gG (aq n d) n (.bl id b))|none=>True)/\jm R aq L b
 | .lp b=>jm R aq L b
 | _=>True
omit C in
theorem aE{R:Rx}{aq:aB}(c:qi):jm R aq (fun _=>none) c:=by
 induction c with
 |sq a b sG xh=>exact⟨sG,xh⟩
 |cif o a b sG xh=>exact⟨sG,xh⟩
 |bl id b ih=>exact⟨trivial,ih⟩
 |lp b ih=>exact ih
 | _=>trivial
def Ev3{α:Type}(p:Nat->Nat->Nat->α)(r:α):Prop:= ∃ M,∀ n d j,M<=n->M<=d->M<=j->p n d j=r
omit C in
theorem Ev3.diag{α:Type}{p:Nat->Nat->Nat->α}{r:α}(h:Ev3 p r):Ev (fun n d=>p n d n) r:=by
 obtain⟨M,h⟩:=h
 exact⟨M,fun n d a b=>h n d n a b a⟩
def Sy(j:Nat)(b:yY):yY:=Nat.rec (fun _ _=>.bad) (fun _ ih t h=>Rc.rec Rc.bad (fun t h=>ih t h) (fun t h=>Rc.ret t h) (fun i t h=>Rc.exit i t h) (b t h)) j
omit C in
theorem M7{R:Rx}{b:fE}{g:Nat->Nat->yY}(hb:ed R b g): ∀ (m:Nat) (E:En) (T:Tq) (t:Tm) (H:Hq) (h:Hp) (o:Oc),TV E H.next T t->SR E H h->
 ((Nat.rec (motive:=fun _=>fE) (fun _ _=>.bad) (fun _ ih t h=>Jn (b t h) ih) m:fE) T H).val=some o-> ∃ r,Ev3 (fun n d j=>Sy j (g n d) t h) r/\XW R E H h o r
 |0,_,_,_,_,_,_,_,_,e=>by cases e
 |m+1,E,T,t,H,h,o,hT,hH,e=>by
  change (Jn (b T H) (Nat.rec (motive:=fun _=>fE) (fun _ _=>.bad) (fun _ ih t h=>Jn (b t h) ih) m)).val=some o at e
  obtain⟨o1,e1,e2⟩:=Lf.T.dI e
  obtain⟨r1,⟨M1,k1⟩,q1⟩:=hb E T t H h o1 hT hH e1
  cases o1 with
  |norm T1 H1=>
   obtain⟨t1,h1,E1,rfl,X,S1,tB⟩:=q1.norm
   obtain⟨r,⟨M2,k2⟩,q2⟩:=M7 hb m E1 T1 t1 H1 h1 o tB S1 e2
   refine⟨r,⟨max M1 M2+1,fun n d j a b c=>?_⟩,q2.trans X⟩
   obtain⟨j',rfl⟩: ∃ j',j=j'+1:=⟨j - 1,by omega⟩
   show(Rc.rec Rc.bad (fun t h=>Sy j' (g n d) t h) (fun t h=>Rc.ret t h) (fun i t h=>Rc.exit i t h) (g n d t h):Go.Ab.Rc)=r
   have Ae:=k1 n d (by omega) (by omega)
   dsimp only at Ae
   rw[Ae]
   exact k2 n d j' (by omega) (by omega) (by omega)
  |ret T1 H1=>
   cases e2
   refine⟨r1,⟨M1+1,fun n d j a b c=>?_⟩,q1⟩
   obtain⟨j',rfl⟩: ∃ j',j=j'+1:=⟨j - 1,by omega⟩
   show(Rc.rec Rc.bad (fun t h=>Sy j' (g n d) t h) (fun t h=>Rc.ret t h) (fun i t h=>Rc.exit i t h) (g n d t h):Go.Ab.Rc)=r1
   have Ae:=k1 n d (by omega) (by omega)
   dsimp only at Ae
   rw[Ae]
   cases r1<;>first|rfl|exact q1.elim
  |exit i T1 H1=>
   cases e2
   refine⟨r1,⟨M1+1,fun n d j a b c=>?_⟩,q1⟩
   obtain⟨j',rfl⟩: ∃ j',j=j'+1:=⟨j - 1,by omega⟩
   show(Rc.rec Rc.bad (fun t h=>Sy j' (g n d) t h) (fun t h=>Rc.ret t h) (fun i t h=>Rc.exit i t h) (g n d t h):Go.Ab.Rc)=r1
   have Ae:=k1 n d (by omega) (by omega)
   dsimp only at Ae
   rw[Ae]
   cases r1<;>first|rfl|exact q1.elim
theorem FY{R:Rx}(m:Nat){L:Nat->Option fE}(c:qi)(hL:jm R aq L c):ed R (Vx L call m c) (fun n d=>gG (aq n d) n c):=by
 induction c with
 |rg r=>
  intro E T t H h o hT hH e
  have e':((RU call r T H).bd fun p=>Lf.T.ok (Oc.norm p.1 p.2)).val=some o:=e
  obtain⟨⟨T1,H1⟩,e1,e2⟩:=Lf.T.dI e'
  cases e2
  obtain⟨t',h',E',k,X,S,Qd⟩:=Sx C r E T t H h T1 H1 hT hH e1
  refine⟨.norm t' h',k.sU fun n d q=>?_,E',R.of X,S,Qd⟩
  show(Rt.rec Rc.bad (fun t h=>Rc.norm t h) (Ko (aq n d) r t h):Go.Ab.Rc)=_
  try dsimp only at q
  rw[q]
 |sk=>intro E T t H h o hT hH e;cases e;exact⟨.norm t h,Ev.const rfl,E,R.of (Nx.refl _ _ _),hH,hT⟩
 |sq a b sG xh=>
  intro E T t H h o hT hH e
  have e':(Jn (Vx L call m a T H) (Vx L call m b)).val=some o:=e
  obtain⟨o1,e1,e2⟩:=Lf.T.dI e'
  obtain⟨r1,k1,q1⟩:=sG hL.1 E T t H h o1 hT hH e1
  cases o1 with
  |norm T1 H1=>
   obtain⟨t1,h1,E1,rfl,X,S1,tB⟩:=q1.norm
   obtain⟨r,k2,q2⟩:=xh hL.2 E1 T1 t1 H1 h1 o tB S1 e2
   refine⟨r,k1.XT k2 fun n d p1 p2=>?_,q2.trans X⟩
   show(Rc.rec Rc.bad (fun t h=>gG (aq n d) n b t h) (fun t h=>Rc.ret t h) (fun i t h=>Rc.exit i t h) (gG (aq n d) n a t h):Go.Ab.Rc)=r
   try dsimp only at p1
   rw[p1];exact p2
  |ret T1 H1=>
   cases e2
   refine⟨r1,k1.sU fun n d p1=>?_,q1⟩
   show(Rc.rec Rc.bad (fun t h=>gG (aq n d) n b t h) (fun t h=>Rc.ret t h) (fun i t h=>Rc.exit i t h) (gG (aq n d) n a t h):Go.Ab.Rc)=r1
   try dsimp only at p1
   rw[p1];cases r1<;>first|rfl|exact q1.elim
  |exit i T1 H1=>
   cases e2
   refine⟨r1,k1.sU fun n d p1=>?_,q1⟩
   show(Rc.rec Rc.bad (fun t h=>gG (aq n d) n b t h) (fun t h=>Rc.ret t h) (fun i t h=>Rc.exit i t h) (gG (aq n d) n a t h):Go.Ab.Rc)=r1
   try dsimp only at p1
   rw[p1];cases r1<;>first|rfl|exact q1.elim
 |cif c a b sG xh=>
  intro E T t H h o hT hH e
  obtain⟨x,T1,hx,tB,h1,h2⟩:=vo (a:=fun t=>Vx L call m a t H) (b:=fun t=>Vx L call m b t H) hT e
  have hc: ∀ n d,gG (aq n d) n (.cif c a b) t h=Bool.rec (gG (aq n d) n b t h) (gG (aq n d) n a t h) x:=fun n d=>by
   show bt (bD c) (gG (aq n d) n a) (gG (aq n d) n b) t h=_
   unfold bt;rw[hx]
  cases x with
  |true=>
   obtain⟨r,k,q⟩:=sG hL.1 E T1 t H h o tB hH (h1 rfl)
   exact⟨r,k.sU fun n d p=>(hc n d).trans p,q⟩
  |false=>
   obtain⟨r,k,q⟩:=xh hL.2 E T1 t H h o tB hH (h2 rfl)
   exact⟨r,k.sU fun n d p=>(hc n d).trans p,q⟩
 |bl id b ih=>
  intro E T t H h o hT hH e
  change (match L id with|some f=>f T H|none=>blO id (Vx L call m b T H)).val=some o at e
  have hl:=hL.1
  cases hf:L id with
  |some f=>rw[hf]at e hl;exact hl E T t H h o hT hH e
  |none=>
   rw[hf]at e
   obtain⟨o1,e1,e2⟩:=Lf.T.dI e
   obtain⟨r1,k1,q1⟩:=ih hL.2 E T t H h o1 hT hH e1
   cases o1 with
   |norm T1 H1=>
    cases e2
    refine⟨r1,k1.sU fun n d p1=>?_,q1⟩
    show(Rc.rec Rc.bad (fun t h=>Rc.norm t h) (fun t h=>Rc.ret t h) (fun i t h=>Bool.rec (Rc.exit i t h) (Rc.norm t h) (Nat.beq i id)) (gG (aq n d) n b t h):Go.Ab.Rc)=r1
    try dsimp only at p1
    rw[p1];cases r1<;>first|rfl|exact q1.elim
   |ret T1 H1=>
    cases e2
    refine⟨r1,k1.sU fun n d p1=>?_,q1⟩
    show(Rc.rec Rc.bad (fun t h=>Rc.norm t h) (fun t h=>Rc.ret t h) (fun i t h=>Bool.rec (Rc.exit i t h) (Rc.norm t h) (Nat.beq i id)) (gG (aq n d) n b t h):Go.Ab.Rc)=r1
    try dsimp only at p1
    rw[p1];cases r1<;>first|rfl|exact q1.elim
   |exit i T1 H1=>
    cases r1 with
    |exit j t1 h1=>
     obtain⟨rfl,E',X,S,Qd⟩:=q1
     cases hi:Nat.beq i id with
     |true=>
      have e2:(Lf.T.ok (bif Nat.beq i id then Oc.norm T1 H1 else Oc.exit i T1 H1)).val=some o:=e2
      rw[hi]at e2
      cases e2
      refine⟨.norm t1 h1,k1.sU fun n d p1=>?_,E',X,S,Qd⟩
      show(Rc.rec Rc.bad (fun t h=>Rc.norm t h) (fun t h=>Rc.ret t h) (fun i t h=>Bool.rec (Rc.exit i t h) (Rc.norm t h) (Nat.beq i id)) (gG (aq n d) n b t h):Go.Ab.Rc)=_
      try dsimp only at p1
      rw[p1];simp only[hi]
     |false=>
      have e2:(Lf.T.ok (bif Nat.beq i id then Oc.norm T1 H1 else Oc.exit i T1 H1)).val=some o:=e2
      rw[hi]at e2
      cases e2
      refine⟨.exit i t1 h1,k1.sU fun n d p1=>?_,rfl,E',X,S,Qd⟩
      show(Rc.rec Rc.bad (fun t h=>Rc.norm t h) (fun t h=>Rc.ret t h) (fun i t h=>Bool.rec (Rc.exit i t h) (Rc.norm t h) (Nat.beq i id)) (gG (aq n d) n b t h):Go.Ab.Rc)=_
      try dsimp only at p1
      rw[p1];simp only[hi]
    | _=>exact q1.elim
 |lp b ih=>
  intro E T t H h o hT hH e
  obtain⟨r,k,q⟩:=M7 (ih hL) m E T t H h o hT hH e
  exact⟨r,k.diag,q⟩
 |ex i=>intro E T t H h o hT hH e;cases e;exact⟨.exit i t h,Ev.const rfl,rfl,E,R.of (Nx.refl _ _ _),hH,hT⟩
 |rt=>intro E T t H h o hT hH e;cases e;exact⟨.ret t h,Ev.const rfl,E,R.of (Nx.refl _ _ _),hH,hT⟩
 |bad=>intro E T t H h o hT hH e;cases e
end
theorem Sz{E:En}{T:Tq}{t:Tm}{H:Hq}{h:Hp}(hT:TV E H.next T t)(hH:SR E H h){r:Go.Ab.RV}{v:Sv}(e:XE T H r=some v): ∃ c,KE t h r=some c/\V E H.next v c:=by
 cases r with
 |tmp i=>obtain⟨hi,e⟩:=bR e;exact hT i v (bH.1 hi) e
 |cell i sz agg=>
  change (match(bif Nat.blt i 512 then T.at i else none)with|some p=>z8 sz agg p H|none=>none)=some v at e
  split at e
  ·rename_i p hp
   obtain⟨hi,hp⟩:=bR hp
   obtain⟨a,ha,yd⟩:=hT i p (bH.1 hi) hp
   obtain⟨c,c1,c2⟩:=yc hH yd e
   refine⟨c,?_,c2⟩
   show(match t.at i with|some a=>xj h sz agg a|none=>none)=_
   rw[ha];exact c1
  ·cases e
theorem ye{E:En}{T:Tq}{t:Tm}{H:Hq}{h:Hp}(hT:TV E H.next T t)(hH:SR E H h): ∀ {l:List Go.Ab.RV} {vs:List Sv},Mu T H l=some vs-> ∃ cs,zK t h l=some cs/\Vs E H.next vs cs
 | [],_,e=>by cases e;exact⟨[],rfl,.nil⟩
 |r::l,vs,e=>by
  change (match XE T H r with|some v=>(match Mu T H l with|some vs=>some (v::vs)|none=>none)|none=>none)=some vs at e
  split at e
  ·rename_i v hv
   split at e
   ·rename_i us hu
    cases e
    obtain⟨c,hc,gD⟩:=Sz hT hH hv
    obtain⟨cs,po,XF⟩:=ye hT hH hu
    refine⟨c::cs,?_,.cons gD XF⟩
    show(match KE t h r with|some v=>(match zK t h l with|some vs=>some (v::vs)|none=>none)|none=>none)=_
    rw[hc,po]
   ·cases e
  ·cases e
theorem SA{E:En}{T:Tq}{t:Tm}{H H':Hq}{h:Hp}(hT:TV E H.next T t)(hH:SR E H h){l:List Go.Ab.RV}{v:Sv}(e:(Mv l T H).val=some (v,H')):H'=H/\ ∃ c,fin l t h=.ok c h/\V E H.next v c:=by
 unfold Mv at e
 split at e
 ·rename_i w hw
  cases e
  obtain⟨cs,hc,gD⟩:=ye hT hH hw
  cases gD with
  |cons a b=>cases b;exact⟨rfl,_,by unfold fin;rw[hc],a⟩
 ·rename_i vs hn hw
  cases e
  obtain⟨cs,hc,gD⟩:=ye hT hH hw
  refine⟨rfl,.wg cs,?_,.tu gD⟩
  unfold fin
  rw[hc]
  cases cs with
  |nil=>rfl
  |cons a cs=>
   cases cs with
   |nil=>
    cases gD with
    |cons x y=>cases y;exact(hn _ rfl).elim
   |cons _ _=>rfl
 ·cases e
theorem F8.yf{α:Type}(x:α)(j:Nat):(F8.all x).Cg j=x:=by
 unfold F8.all F8.Cg
 split<;>rfl
theorem HH(j:Nat):Tq.none.at j=none:=by
 unfold Tq.at Tq.none
 rw[F8.yf,F8.yf,F8.yf]
theorem tU{E:En}{N:Nat}{l:List Sv}: ∀ (as:List AV) (i:Nat) (T:Tq) (t:Tm),Vs E N l as->i+l.length<=512->TV E N T t->TV E N (FI l i T) (pn as i t):=by
 induction l with
 |nil=>intro as i T t h _ hT;cases h;exact hT
 |cons v l ih=>
  intro as i T t h hi hT
  cases h with
  |cons hv h=>
   rename_i a as
   rw[List.length_cons]at hi
   exact ih as (i+1) _ _ h (by omega) (hT.put (by omega) hv)
def yg(b:Fb)(n:Nat)(c:cV):List AV->Hp->Go.Ab.Ro:=fun args h=>iw (Nat.ble (len args) b.ntmps) (match b.body c n (pn args 0 Tm.none) h with
 | .norm t h=>fin b.res t h
 | .ret t h=>fin b.res t h
 | _=>.bad) .bad
def mO(aq:aB)(f:FuncId)(b:dE):Prop:= ∀ n d args h c h',yg b.fb n (aq n d) args h=.ok c h'->aq n (d+1) f args h=.ok c h'
theorem Du{R:Rx}{call:eK}{aq:aB}(C:oz call aq){f:FuncId}{b:dE}(hb:mO aq f b)(qo:b.ntmps<=512){L:Nat->Option fE}(hL:jm R aq L b.code){m:Nat}{E:En}{args:List Sv}{as:List AV}{H H':Hq}{h:Hp}{v:Sv}
 (hv:Vs E H.next args as)(hH:SR E H h)(e:(De L b m call args H).val=some (v,H')): ∃ c h' E',Ev (fun n d=>aq n d f as h) (.ok c h')/\R.X E E' H H' h h'/\SR E' H' h'/\V E' H'.next v c:=by
 unfold De at e
 obtain⟨hn,e⟩:=eE e
 have XO:args.length<=b.ntmps:=by have:=Nat.le_of_ble_eq_true hn;rwa [bS]at this
 obtain⟨o,e1,e2⟩:=Lf.T.dI e
 have hT0:TV E H.next (FI args 0 Tq.none) (pn as 0 Tm.none):=tU _ _ _ _ hv (by omega) fun i w _ hw=>by rw[HH]at hw;cases hw
 obtain⟨r,k,q⟩:=FY C (R:=R) m b.code hL E _ _ H h o hT0 hH e1
 have hlen:Nat.ble (len as) b.ntmps=true:=by rw[bS,<-hv.length,<-bS];exact hn
 have Mc: ∀ {T1:Tq} {H1:Hq} {t1:Tm} {h1:Hp} {E1:En},(r=.norm t1 h1∨r=.ret t1 h1)->R.X E E1 H H1 h h1->SR E1 H1 h1->TV E1 H1.next T1 t1->(Mv b.res T1 H1).val=some (v,H')-> ∃ c h' E',Ev (fun n d=>aq n d f as h) (.ok c h')/\R.X E E' H H' h h'/\SR E' H' h'/\V E' H'.next v c:=by
  intro T1 H1 t1 h1 E1 hr X S tB e
  obtain⟨hq,c,c1,c2⟩:=SA tB S e
  rw[hq]
  refine⟨c,h1,E1,?_,X,S,c2⟩
  obtain⟨M,k⟩:=k
  refine⟨M+1,fun n d a a'=>?_⟩
  obtain⟨d',rfl⟩: ∃ d',d=d'+1:=⟨d - 1,by omega⟩
  refine hb n d' as h c h1 ?_
  have k':=k n d' (by omega) (by omega)
  dsimp only at k'
  show iw (Nat.ble (len as) b.ntmps) (match gG (aq n d') n b.code (pn as 0 Tm.none) h with
   | .norm t h=>fin b.res t h
   | .ret t h=>fin b.res t h
   | _=>.bad) .bad=_
  rw[hlen,k']
  rcases hr with hr|hr<;>rw[hr]<;>exact c1
 cases o with
 |norm T1 H1=>
  obtain⟨t1,h1,E1,hr,X,S,tB⟩:=q.norm
  exact Mc (.inl hr) X S tB e2
 |ret T1 H1=>
  cases r with
  |ret t1 h1=>obtain⟨E1,X,S,tB⟩:=q;exact Mc (.inr rfl) X S tB e2
  | _=>exact q.elim
 |exit _ _ _=>cases e2
end Lf
end Go.Ab
