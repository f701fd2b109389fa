import Derived.Test.YtbplobpobnagkaaGreatDoorLfD6
noncomputable section
namespace Go.Ab
namespace Lf
theorem Gh{v:Value}(h:dI (.sc v)=true):Mf v v=true:=by
 have h':isNil (.sc v)=true:=h
 cases v<;>first|(cases h';done)|skip
 rename_i p n c
 cases p with
 |none=>show(Nat.beq n n&&Nat.beq c c)=true;rw[Nat.beq_refl,Nat.beq_refl];rfl
 |some _=>cases h'
theorem DD(n:Int):eqI n n=true:=ga.2 rfl
theorem vR{a:AV}(h:dI a=true):nh a a=true:=by
 cases a<;>first|(cases h;done)|skip
 ·exact Gh h
 ·rfl
 ·rfl
theorem DE{l m:List AV}(h:jS l l=true)(k:jS m m=true):jS (l++m) (l++m)=true:=by
 induction l with
 |nil=>exact k
 |cons a l ih=>
  have h:(nh a a&&jS l l)=true:=h
  rw[Bool.and_eq_true]at h
  show(nh a a&&jS (l++m) (l++m))=true
  rw[h.1,ih h.2];rfl
theorem DF{α:Type}{E:α->List AV->Prop}(hE: ∀ x cs,E x cs->jS cs cs=true): ∀ {x:List α} {ls:List AV},kR E x ls->jS ls ls=true
 | [],_,e=>by have e':_=[]:=e;subst e';rfl
 | _::_,_,⟨c,r,e,a,b⟩=>by subst e;exact DE (hE _ _ a) (DF hE b)
theorem SD{G:Nat->Option Rw}{t:Ty}{E:den t->List AV->Prop}(hE: ∀ x cs,E x cs->jS cs cs=true){x:List (den t)}{a:AV}(k:JB G t E x a):nh a a=true:=by
 rcases k with⟨k,_⟩|⟨ls,k1,k2|⟨id,base,row,k2,_,_⟩⟩
 ·exact vR k
 ·subst k2
  show(Nat.beq _ _&&jS ls ls)=true
  rw[Nat.beq_refl,Bool.true_and]
  exact DF hE k1
 ·subst k2
  show(Nat.beq _ _&&Nat.beq _ _&&Nat.beq _ _&&Nat.beq _ _)=true
  simp
theorem xu{G:Nat->Option Rw}: ∀ (t:Ty) (x:den t) (cs:List AV),EV G t x cs->jS cs cs=true
 | .int k,x,_,e=>by
  have e':_=_:=e;subst e'
  show(jA k k&&eqI x x&&true)=true
  rw[yu,DD];rfl
 | .bool,x,_,e=>by
  have e':_=_:=e;subst e'
  show(!(xor x x)&&true)=true
  cases x<;>rfl
 | .str,x,_,e=>by
  have e':_=_:=e;subst e'
  show(Mf (.string x) (.string x)&&true)=true
  rw[Bool.and_true];show(x.data.toList == x.data.toList)=true;exact beq_self_eq_true _
 | .ae t,_,_,⟨a,e,k⟩=>by
  subst e
  show(nh a a&&true)=true
  rw[SD (fun x cs=>xu t x cs) k];rfl
 | .pair a b,_,_,⟨c,d,e,k1,k2⟩=>by
  subst e
  exact DE (xu a _ _ k1) (xu b _ _ k2)
theorem DG{E:En}{N:Nat}{u v:Sv}{a b:AV}{c:LB}(hu:V E N u a)(hv:V E N v b)(e:HL u v=some c)(hc:c.v=true):nh a b=true:=by
 have Mp:(match toN u,toN v with
  |some (k,a),some (k',b)=>bif jA k k' then some (LB.t (decide (a=b)))else none
  | _,_=>match toB u,toB v with
   |some a,some b=>some (LB.t (!(xor a.v b.v)))
   | _,_=>none)=some c->nh a b=true:=by
  intro e
  split at e
  ·rename_i k m k' n h1 h2
   obtain⟨hk,e⟩:=bV e
   cases e
   rw[iD hu h1,iD hv h2]
   have:m=n:=by simpa[LB.v]using hc
   subst this
   show(jA k k'&&eqI m m)=true
   rw[hk,DD];rfl
  ·split at e
   ·rename_i x y h1 h2
    cases e
    rw[iB hu h1,iB hv h2]
    exact hc
   ·cases e
 unfold HL at e
 split at e
 ·have e:=(bV e).1;cases hu;cases hv;exact e
 ·cases hu;cases hv
  rename_i a b
  cases a<;>cases b<;>first|rfl|(cases e;done)
 ·have e:=(bV e).1;cases hu;cases hv;exact e
 ·have e:=(bV e).1
  rw[Bool.and_eq_true]at e
  have e1:=beq_true e.1;have e2:=beq_true e.2
  subst e1;subst e2
  cases hu with
  |rf _ h1=>cases hv with
   |rf _ h2=>
    rw[h1]at h2;cases h2
    show(Nat.beq _ _&&Nat.beq _ _)=true
    simp
 ·have e0:=(bV e).1
  replace e:=(bV e).2
  rw[Bool.and_eq_true,Bool.and_eq_true]at e0
  have e1:=beq_true e0.1;have e2:=beq_true e0.2.1;have e3:=beq_true e0.2.2
  subst e1;subst e2;subst e3
  cases e
  simp only[LB.v,decide_eq_true_eq]at hc
  subst hc
  cases hu with
  |re _ h1 _=>cases hv with
   |re _ h2 _=>
    rw[h1]at h2;cases h2
    show(Nat.beq _ _&&Nat.beq _ _)=true
    simp
 ·have e0:=(bV e).1
  rw[Bool.and_eq_true]at e0
  have e1:=beq_true e0.1;have e2:=beq_true e0.2
  subst e1;subst e2
  cases hu with
  |os _ h1=>cases hv with
   |os _ h2=>
    rcases h1 with⟨h1,_⟩|⟨id,base,h1⟩
    ·exact vR h1
    ·rw[h1];show(Nat.beq _ _&&Nat.beq _ _&&Nat.beq _ _&&Nat.beq _ _)=true;simp
 ·have e0:=(bV e).1
  replace e:=(bV e).2
  rw[Bool.and_eq_true]at e0
  have e1:=beq_true e0.1;have e2:=beq_true e0.2
  subst e1;subst e2
  cases e
  simp only[LB.v,Bool.and_eq_true,decide_eq_true_eq]at hc
  obtain⟨c1,c2⟩:=hc
  subst c1;subst c2
  cases hu with
  |se _ h1 _ _=>cases hv with
   |se _ _ _ _=>exact vR h1
   |ss _ h2 _=>rw[h2]at h1;cases h1
  |ss _ h1 _=>cases hv with
   |se _ h2 _ _=>rw[h1]at h2;cases h2
   |ss _ h2 _=>
    rw[h1]at h2
    injection h2 with a1 a2 _ _
    subst a1;subst a2
    show(Nat.beq _ _&&Nat.beq _ _&&Nat.beq _ _&&Nat.beq _ _)=true;simp
 ·have e0:=(bV e).1
  rw[Bool.and_eq_true,Bool.and_eq_true,Bool.and_eq_true]at e0
  have e1:=beq_true e0.1;have e2:=beq_true e0.2.1;have e3:=beq_true e0.2.2.1;have e4:=beq_true e0.2.2.2
  subst e1;subst e2;subst e3;subst e4
  cases hu with
  |xo _ h1=>cases hv with
   |xo _ h2=>rw[h1]at h2;cases h2;show(Nat.beq _ _&&Nat.beq _ _&&Nat.beq _ _&&Nat.beq _ _)=true;simp
 ·have e0:=(bV e).1
  rw[Bool.and_eq_true]at e0
  have hp:=bO.1 e0.1
  have e1:=beq_true e0.2
  subst e1
  cases hu with
  |c k1 m1=>cases hv with
   |c k2 m2=>
    rw[(m1 (by omega)).2,<-(m2 (by omega)).2]
    have:=xu _ _ _ k2
    have this:(nh b b&&true)=true:=this
    rwa [Bool.and_true]at this
 ·exact Mp e
theorem DH{E:En}{N:Nat}: ∀ {l m:List Sv} {as bs:List AV} {c:LB},Vs E N l as->Vs E N m bs->HM l m=some c->c.v=true->jS as bs=true
 | [],[],_,_,_,.nil,.nil,_,_=>rfl
 | [],_::_,_,_,_,_,_,e,_=>by cases e
 | _::_,[],_,_,_,_,_,e,_=>by cases e
 |u::l,v::m,a::as,b::bs,c,.cons hu hl,.cons hv hm,e,hc=>by
  unfold HM at e
  split at e
  ·rename_i x hx
   split at e
   ·rename_i y hy
    cases e
    rw[LB.MX,Bool.and_eq_true]at hc
    show(nh a b&&jS as bs)=true
    rw[DG hu hv hx hc.1,DH hl hm hy hc.2];rfl
   ·cases e
  ·cases e
theorem yx{E:En}{N:Nat}{u v:Sv}{a b:AV}{c:LB}(hu:V E N u a)(hv:V E N v b)(e:Dr u v=some c)(hc:c.v=true):nh a b=true:=by
 unfold Dr at e
 split at e
 ·cases hu with
  |ag h1=>cases hv with
   |ag h2=>exact DH h1 h2 e hc
 ·exact DG hu hv e hc
theorem Ev.map{α β:Type}{p:Nat->Nat->α}{r:α}(h:Ev p r){q:Nat->Nat->β}{s:β}(k: ∃ M,∀ n d,M<=n->M<=d->p n d=r->q n d=s):Ev q s:=by
 obtain⟨M,h⟩:=h
 obtain⟨M',k⟩:=k
 exact⟨max M M',fun n d h1 h2=>k n d (by omega) (by omega) (h n d (by omega) (by omega))⟩
theorem Ev.tx{α β:Type}{p:Nat->Nat->α}{r:α}(h:Ev p r){q:Nat->Nat->β}{s:β}(k: ∀ n d,p n d=r->q n d=s):Ev q s:=h.map ⟨0,fun n d _ _=>k n d⟩
theorem Ev.Yo{α β γ:Type}{p:Nat->Nat->α}{r:α}(h:Ev p r){q:Nat->Nat->β}{s:β}(k:Ev q s){f:Nat->Nat->γ}{u:γ}(g: ∀ n d,p n d=r->q n d=s->f n d=u):Ev f u:=by
 obtain⟨M,h⟩:=h
 obtain⟨M',k⟩:=k
 exact⟨max M M',fun n d h1 h2=>g n d (h n d (by omega) (by omega)) (k n d (by omega) (by omega))⟩
theorem Gi{f:fo}{g:OpN}(s:fg f g):fg f (fun n d=>mn (g n d)):=by
 intro E T t H h v T' H' hT hH e
 obtain⟨c,h',E',k,X,S,w,Qj⟩:=s E T t H h v T' H' hT hH e
 refine⟨c,h',E',k.tx fun n d q=>?_,X,S,w,Qj⟩
 have hb:Nat.ble h.next h'.next=true:=by rw[Nat.ble_eq];exact X.CC
 simp only[mn,q,hb]
theorem Gj{f:fo}{g:OpN}(s:fg f g)(j:Od)(want:Bool):fg (X8 j want f) (fun n d=>gF (bF j) want (g n d)):=by
 intro E T t H h v T' H' hT hH e
 unfold X8 at e
 split at e
 ·rename_i hj
  obtain⟨rfl,rfl,rfl⟩:=aX e
  obtain⟨a,ha,yw⟩:=bB hT hj
  cases yw with
  |tu k=>cases k;exact⟨gQ,h,E,⟨0,fun n d _ _=>by unfold gF;simp only[ha]⟩,Nx.refl _ _ _,hH,.tu .nil,hT⟩
 ·obtain⟨c,T1,hc,tT,h1,h2⟩:=vM hT e
  have hg: ∀ n d,gF (bF j) want (g n d) t h=il (il want c (!c)) (g n d t h) (.ok gQ h):=fun n d=>by unfold gF;rw[hc]
  have yes:(bif want then c else !c)=true->(f T1 H).val=some (v,T',H')-> ∃ c h' E',Ev (fun n d=>gF (bF j) want (g n d) t h) (.ok c h')/\Nx E E' H H' h h'/\SR E' H' h'/\V E' H'.next v c/\TV E' H'.next T' t:=by
   intro hw e
   obtain⟨x,h',E',k,X,S,w,Qj⟩:=s E T1 t H h v T' H' tT hH e
   refine⟨x,h',E',k.tx fun n d q=>?_,X,S,w,Qj⟩
   rw[hg,q]
   cases want<;>cases c<;>first|rfl|cases hw
  have no:(bif want then c else !c)=false->(okV q9 T1 H).val=some (v,T',H')-> ∃ c h' E',Ev (fun n d=>gF (bF j) want (g n d) t h) (.ok c h')/\Nx E E' H H' h h'/\SR E' H' h'/\V E' H'.next v c/\TV E' H'.next T' t:=by
   intro hw e
   obtain⟨rfl,rfl,rfl⟩:=aX e
   refine⟨gQ,h,E,⟨0,fun n d _ _=>?_⟩,Nx.refl _ _ _,hH,.tu .nil,tT⟩
   show gF (bF j) want (g n d) t h=_
   rw[hg]
   cases want<;>cases c<;>first|rfl|cases hw
  cases c with
  |true=>
   have:=h1 rfl
   cases want with
   |true=>exact yes rfl this
   |false=>exact no rfl this
  |false=>
   have:=h2 rfl
   cases want with
   |true=>exact no rfl this
   |false=>exact yes rfl this
end Lf
end Go.Ab

noncomputable section
namespace Go.Ab
namespace Lf
section
variable {call:eJ}{aq:aB}(C:oE call aq)
include C
theorem Nk(o:kJ):fg (VT call o) (fun n d=>FU (aq n d) o):=by
 have h0:=fun o=>SC C o
 have ho:=h0 o
 cases o with
 |gd j w f=>
  have hw:=Gj (h0 f) j w
  cases f with
  |mn f=>
   have hw:=Gj (Gi (h0 f)) j w
   exact hw
  | _=>exact hw
 |mn f=>
  have hw:=Gi (h0 f)
  cases f with
  |gd j w f=>exact Gi (Gj (h0 f) j w)
  | _=>exact hw
 | _=>exact ho
def adw(f:Tq->Hq->T (Tq×Hq))(g:Nat->Nat->ng):Prop:= ∀ (E:En) (T:Tq) (t:Tm) (H:Hq) (h:Hp) (T':Tq) (H':Hq),TV E H.next T t->SR E H h->(f T H).val=some (T',H')->
 ∃ t' h' E',Ev (fun n d=>g n d t h) (.ok t' h')/\Nx E E' H H' h h'/\SR E' H' h'/\TV E' H'.next T' t'
theorem Nl(r:zI):adw (wR call r) (fun n d=>KD (aq n d) r):=by
 induction r with
 |fi=>intro E T t H h T' H' hT hH e;cases e;exact⟨t,h,E,Ev.const rfl,Nx.refl _ _ _,hH,hT⟩
 |st i f k ih=>
  intro E T t H h T' H' hT hH e
  change (bif Nat.blt i 512 then(VT call f T H).bd fun p=>wR call k (p.2.1.put i (some p.1)) p.2.2 else .bad).val=some (T',H')at e
  obtain⟨hi,e⟩:=ez e
  obtain⟨⟨v,T1,H1⟩,e1,e2⟩:=Lf.T.dm e
  obtain⟨c,h1,E1,k1,X1,S1,w1,tT⟩:=Nk C f E T t H h v T1 H1 hT hH e1
  obtain⟨t2,h2,E2,k2,X2,S2,Qi⟩:=ih E1 _ (t.put i (some c)) H1 h1 T' H' (tT.put (bO.1 hi) w1) S1 e2
  refine⟨t2,h2,E2,k1.Yo k2 fun n d q1 q2=>?_,X1.trans X2,S2,Qi⟩
  show(Go.Ab.Ro.rec Go.Ab.Rt.bad (fun v h=>KD (aq n d) k (sT i v t) h) (FU (aq n d) f t h):Go.Ab.Rt)=_
  try dsimp only at q1
  rw[q1]
  exact q2
 |sn f k ih=>
  intro E T t H h T' H' hT hH e
  change ((VT call f T H).bd fun p=>wR call k p.2.1 p.2.2).val=some (T',H')at e
  obtain⟨⟨v,T1,H1⟩,e1,e2⟩:=Lf.T.dm e
  obtain⟨c,h1,E1,k1,X1,S1,w1,tT⟩:=Nk C f E T t H h v T1 H1 hT hH e1
  obtain⟨t2,h2,E2,k2,X2,S2,Qi⟩:=ih E1 _ t H1 h1 T' H' tT S1 e2
  refine⟨t2,h2,E2,k1.Yo k2 fun n d q1 q2=>?_,X1.trans X2,S2,Qi⟩
  show(Go.Ab.Ro.rec Go.Ab.Rt.bad (fun v h=>KD (aq n d) k t h) (FU (aq n d) f t h):Go.Ab.Rt)=_
  try dsimp only at q1
  rw[q1]
  exact q2
 |ck s f k ih=>
  intro E T t H h T' H' hT hH e
  have fin: ∀ (F:Nat->Nat->eG) (y z:AV),(∀ n d,F n d t h=.ok y h)->bF s t=some z->nh z y=true->(wR call k T H).val=some (T',H')-> ∃ t' h' E',Ev (fun n d=>Go.Ab.ck (bF s) (F n d) (KD (aq n d) k) t h) (.ok t' h')/\Nx E E' H H' h h'/\SR E' H' h'/\TV E' H'.next T' t':=by
   intro F y z hF hz hs e
   obtain⟨t2,h2,E2,k2,X2,S2,Qi⟩:=ih E T t H h T' H' hT hH e
   refine⟨t2,h2,E2,k2.tx fun n d q=>?_,X2,S2,Qi⟩
   show(Go.Ab.Ro.rec Go.Ab.Rt.bad (fun v _=>Option.rec Go.Ab.Rt.bad (fun u=>Bool.rec Go.Ab.Rt.bad (KD (aq n d) k t h) (nh u v)) (bF s t)) (F n d t h):Go.Ab.Rt)=_
   rw[hF,hz]
   simp only[hs]
   exact q
  have ldc: ∀ {sz:Nat} {g:Bool} {a:Od},(Ds s sz g a T H (wR call k T H)).val=some (T',H')-> ∃ y z,bh sz g (bF a) t h=.ok y h/\bF s t=some z/\nh z y=true/\(wR call k T H).val=some (T',H'):=by
   intro sz g a e
   unfold Ds at e
   split at e
   ·rename_i p hp
    split at e
    ·rename_i v hv
     split at e
     ·rename_i u hu
      split at e
      ·rename_i c hc
       obtain⟨gh,e⟩:=mQ e
       obtain⟨x,hx,L3⟩:=bB hT hp
       obtain⟨y,hy,Xy⟩:=yv hH L3 hv
       obtain⟨z,hz,wc⟩:=bB hT hu
       have hs:=yx wc Xy hc gh
       exact⟨y,z,by unfold bh;rw[hx];simp only[hy],hz,hs,e⟩
      ·cases e
     ·cases e
    ·cases e
   ·cases e
  have unc:(zK s T (wR call k T H)).val=some (T',H')-> ∃ z,bF s t=some z/\nh z gQ=true/\(wR call k T H).val=some (T',H'):=by
   intro e
   unfold zK at e
   split at e
   ·rename_i hu
    obtain⟨z,hz,wc⟩:=bB hT hu
    cases wc with
    |tu q=>cases q;exact⟨_,hz,by kernel_rfl,e⟩
   ·cases e
  cases f with
  |ld sz g a=>
   obtain⟨y,z,h1,h2,h3,h4⟩:=ldc e
   exact fin (fun _ _=>bh sz g (bF a)) y z (fun _ _=>h1) h2 h3 h4
  |slN sz a lo hi=>
   change (MJ s sz a lo hi T H (wR call k T H)).val=some (T',H')at e
   unfold MJ at e
   obtain⟨⟨v,T1,H1⟩,e1,e2⟩:=Lf.T.dm e
   obtain⟨_,_,y,hy,Xy⟩:=Dz sz a lo hi E T t H h v T1 H1 hT hH e1
   split at e2
   ·rename_i u hu
    split at e2
    ·rename_i c hc
     obtain⟨gh,e2⟩:=mQ e2
     obtain⟨z,hz,wc⟩:=bB hT hu
     exact fin (fun _ _=>dg sz (bF a) (lo.map bF) (hi.map bF)) y z (fun _ _=>hy) hz (yx wc Xy hc gh) e2
    ·cases e2
   ·cases e2
  |slA n sz a lo hi=>
   change (MK s n sz a lo hi T H (wR call k T H)).val=some (T',H')at e
   unfold MK at e
   obtain⟨⟨v,T1,H1⟩,e1,e2⟩:=Lf.T.dm e
   obtain⟨_,_,y,hy,Xy⟩:=DA n sz a lo hi E T t H h v T1 H1 hT hH e1
   split at e2
   ·rename_i u hu
    split at e2
    ·rename_i c hc
     obtain⟨gh,e2⟩:=mQ e2
     obtain⟨z,hz,wc⟩:=bB hT hu
     exact fin (fun _ _=>fX n sz (bF a) (lo.map bF) (hi.map bF)) y z (fun _ _=>hy) hz (yx wc Xy hc gh) e2
    ·cases e2
   ·cases e2
  |gd j w f=>
   cases f with
   |ld sz g a=>
    change (match j5 j T with
     |some (.b c)=>bif (bif w then c else !c)then Ds s sz g a T H (wR call k T H)else zK s T (wR call k T H)
     |some (.tu [])=>zK s T (wR call k T H)
     | _=>.bad:Lf.T (Tq×Hq)).val=some (T',H')at e
    split at e
    ·rename_i c hj
     obtain⟨q,hq,hqv⟩:=bB hT hj
     cases hqv
     cases hc:(bif w then c else !c)with
     |true=>
      rw[hc]at e
      obtain⟨y,z,h1,h2,h3,h4⟩:=ldc e
      refine fin (fun _ _=>gF (bF j) w (bh sz g (bF a))) y z (fun _ _=>?_) h2 h3 h4
      unfold gF
      rw[hq]
      cases w<;>cases c<;>first|(cases hc;done)|exact h1
     |false=>
      rw[hc]at e
      obtain⟨z,h2,h3,h4⟩:=unc e
      refine fin (fun _ _=>gF (bF j) w (bh sz g (bF a))) gQ z (fun _ _=>?_) h2 h3 h4
      unfold gF
      rw[hq]
      cases w<;>cases c<;>first|(cases hc;done)|rfl
    ·rename_i hj
     obtain⟨q,hq,hqv⟩:=bB hT hj
     cases hqv with
     |tu qq=>
      cases qq
      obtain⟨z,h2,h3,h4⟩:=unc e
      refine fin (fun _ _=>gF (bF j) w (bh sz g (bF a))) gQ z (fun _ _=>?_) h2 h3 h4
      unfold gF
      rw[hq]
    ·cases e
   | _=>cases e
  | _=>cases e
omit C in
theorem kU{v w:Sv}{t t':Tq}{h h':Hq}(e:(okV v t h).val=some (w,t',h')):h'=h:=(aX e).2.2
omit C in
theorem rh{v:Option Sv}{w:Sv}{t t':Tq}{h h':Hq}(e:(okO v t h).val=some (w,t',h')):h'=h:=(mR e).2.2
omit C in
theorem BN{j:Od}{T0 T':Tq}{a b:Tq->T (Sv×Tq×Hq)}{v:Sv}{H H':Hq}(ha: ∀ t,(a t).val=some (v,T',H')->H'=H)(hb: ∀ t,(b t).val=some (v,T',H')->H'=H)(e:(tp j T0 a b).val=some (v,T',H')):H'=H:=by
 unfold tp at e
 split at e
 ·rename_i i
  cases EZ:Nat.blt i 512 with
  |false=>rw[EZ]at e;cases e
  |true=>
   rw[EZ]at e
   simp only[cond_true]at e
   split at e
   ·rename_i c _
    cases c with
    |true=>exact ha _ e
    |false=>exact hb _ e
   ·rename_i m x _
    rw[Lf.T.dW]at e
    cases x with
    |true=>exact ha _ e
    |false=>exact hb _ e
   ·cases e
 ·rename_i c
  cases c with
  |true=>exact ha _ e
  |false=>exact hb _ e
 ·cases e
omit C in
theorem BO{o:kJ}(hp:nU o=true)(hg: ∀ j w f,o≠ .gd j w f){T0 T':Tq}{H H':Hq}{v:Sv}(e:(yo call o T0 H).val=some (v,T',H')):H'=H:=by
 cases o<;>first|(cases hp;done)|exact(hg _ _ _ rfl).elim|skip
 case mv=>exact rh e
 case pk=>exact BN (a:=fun t=>ym _ t H) (b:=fun t=>ym _ t H) (fun _ e=>rh e) (fun _ e=>rh e) e
 all_goals
  simp only[yo]at e
  first
   |unfold HH at e
   |unfold HI at e
   |unfold RX at e
   |unfold sUn at e
   |unfold pS at e
   |unfold BA at e
   |unfold RY at e
   |unfold RZ at e
   |unfold BB at e
   |unfold xp at e
   |unfold uB at e
   |unfold cQ at e
   |unfold HJ at e
   |unfold F3 at e
  repeat' split at e
  all_goals first
   |(cases e;done)
   |exact kU e
   |exact rh e
   |exact kU (Lf.T.ba e).2
   |(obtain⟨_,_,e2⟩:=Lf.T.dm e;exact kU e2)
   |(obtain⟨_,e⟩:=ez e;first|exact kU e|exact rh e|exact kU (Lf.T.ba e).2)
   |skip
omit C in
theorem Nm{o:kJ}(hp:nU o=true){T0 T':Tq}{H H':Hq}{v:Sv}(e:(VT call o T0 H).val=some (v,T',H')):H'=H:=by
 cases o with
 |gd j w f=>
  have hf:nU f=true/\(∀ j w g,f≠ .gd j w g)/\ ∀ g,f≠ .mn g:=by
   cases f<;>first|(cases hp;done)|exact⟨hp,fun _ _ _=>(by intro h;cases h),fun _=>(by intro h;cases h)⟩
  have e':(X8 j w (yo call f) T0 H).val=some (v,T',H'):=by
   cases f<;>first|exact e|exact(hf.2.2 _ rfl).elim
  unfold X8 at e'
  split at e'
  ·exact kU e'
  ·cases w with
   |true=>exact BN (a:=fun t=>yo call f t H) (b:=fun t=>okV q9 t H) (fun _ e=>BO hf.1 hf.2.1 e) (fun _ e=>kU e) e'
   |false=>exact BN (a:=fun t=>okV q9 t H) (b:=fun t=>yo call f t H) (fun _ e=>kU e) (fun _ e=>BO hf.1 hf.2.1 e) e'
 |mn f=>cases hp
 | _=>first|(cases hp;done)|exact BO (call:=call) (T0:=T0) hp (fun _ _ _ h=>by cases h) e
omit C in
theorem SE{r:zI}(hp:yp r=true): ∀ {T0 T':Tq} {H H':Hq},(wR call r T0 H).val=some (T',H')->H'=H:=by
 induction r with
 |fi=>intro T0 T' H H' e;cases e;rfl
 |st i f k ih=>
  intro T0 T' H H' e
  have hp:(bif nU f then yp k else false)=true:=hp
  cases hf:nU f with
  |false=>rw[hf]at hp;cases hp
  |true=>
   rw[hf]at hp
   change (bif Nat.blt i 512 then(VT call f T0 H).bd fun p=>wR call k (p.2.1.put i (some p.1)) p.2.2 else .bad).val=some (T',H')at e
   obtain⟨_,e⟩:=ez e
   obtain⟨⟨v,T1,H1⟩,e1,e2⟩:=Lf.T.dm e
   rw[ih hp e2]
   exact Nm hf e1
 |sn f k ih=>
  intro T0 T' H H' e
  have hp:(bif nU f then yp k else false)=true:=hp
  cases hf:nU f with
  |false=>rw[hf]at hp;cases hp
  |true=>
   rw[hf]at hp
   change ((VT call f T0 H).bd fun p=>wR call k p.2.1 p.2.2).val=some (T',H')at e
   obtain⟨⟨v,T1,H1⟩,e1,e2⟩:=Lf.T.dm e
   rw[ih hp e2]
   exact Nm hf e1
 |ck s f k ih=>
  intro T0 T' H H' e
  have ldc: ∀ {sz:Nat} {g:Bool} {a:Od},(Ds s sz g a T0 H (wR call k T0 H)).val=some (T',H')->H'=H:=by
   intro sz g a e
   unfold Ds at e
   split at e
   ·split at e
    ·split at e
     ·split at e
      ·obtain⟨_,e⟩:=mQ e
       exact ih hp e
      ·cases e
     ·cases e
    ·cases e
   ·cases e
  have unc:(zK s T0 (wR call k T0 H)).val=some (T',H')->H'=H:=by
   intro e
   unfold zK at e
   split at e
   ·exact ih hp e
   ·cases e
  cases f with
  |ld sz g a=>exact ldc e
  |slN sz a lo hi=>
   change (MJ s sz a lo hi T0 H (wR call k T0 H)).val=some (T',H')at e
   unfold MJ at e
   obtain⟨⟨v,T1,H1⟩,e1,e2⟩:=Lf.T.dm e
   split at e2
   ·split at e2
    ·obtain⟨_,e2⟩:=mQ e2
     exact ih hp e2
    ·cases e2
   ·cases e2
  |slA n sz a lo hi=>
   change (MK s n sz a lo hi T0 H (wR call k T0 H)).val=some (T',H')at e
   unfold MK at e
   obtain⟨⟨v,T1,H1⟩,e1,e2⟩:=Lf.T.dm e
   split at e2
   ·split at e2
    ·obtain⟨_,e2⟩:=mQ e2
     exact ih hp e2
    ·cases e2
   ·cases e2
  |gd j w f=>
   cases f with
   |ld sz g a=>
    change (match j5 j T0 with
     |some (.b c)=>bif (bif w then c else !c)then Ds s sz g a T0 H (wR call k T0 H)else zK s T0 (wR call k T0 H)
     |some (.tu [])=>zK s T0 (wR call k T0 H)
     | _=>.bad:Lf.T (Tq×Hq)).val=some (T',H')at e
    split at e
    ·rename_i c hj
     cases hc:(bif w then c else !c)with
     |true=>rw[hc]at e;exact ldc e
     |false=>rw[hc]at e;exact unc e
    ·exact unc e
    ·cases e
   | _=>cases e
  | _=>cases e
omit C in
theorem JM{c:cZ}{r:zI}: ∀ {t t':Tm} {h h':Hp},cu (fun i=>Nat.blt i 512) (yq r)=true->KD c r t h=.ok t' h'-> ∀ i,i<512->i∉yq r->t'.at i=t.at i:=by
 induction r with
 |fi=>intro t t' h h' _ e i _ _;cases e;rfl
 |st j f k ih=>
  intro t t' h h' hb e i hi hn
  have hb:(bif Nat.blt j 512 then cu (fun i=>Nat.blt i 512) (yq k)else false)=true:=hb
  cases hj:Nat.blt j 512 with
  |false=>rw[hj]at hb;cases hb
  |true=>
   rw[hj]at hb
   have Yj:i∉j::yq k:=hn
   change (Go.Ab.Ro.rec Go.Ab.Rt.bad (fun v h=>KD c k (sT j v t) h) (FU c f t h):Go.Ab.Rt)=.ok t' h' at e
   cases ha:FU c f t h with
   |bad=>rw[ha]at e;cases e
   |ok v h1=>
    rw[ha]at e
    rw[ih hb e i hi fun q=>Yj (List.mem_cons_of_mem _ q)]
    show(t.put j (some v)).at i=_
    rw[Tm.jF _ _ _ _ (bO.1 hj) hi,if_neg fun q=>Yj (by rw[q];exact List.mem_cons_self)]
 |sn f k ih=>
  intro t t' h h' hb e i hi hn
  change (Go.Ab.Ro.rec Go.Ab.Rt.bad (fun v h=>KD c k t h) (FU c f t h):Go.Ab.Rt)=.ok t' h' at e
  cases ha:FU c f t h with
  |bad=>rw[ha]at e;cases e
  |ok v h1=>rw[ha]at e;exact ih hb e i hi hn
 |ck s f k ih=>
  intro t t' h h' hb e i hi hn
  change (Go.Ab.Ro.rec Go.Ab.Rt.bad (fun v _=>Option.rec Go.Ab.Rt.bad (fun u=>Bool.rec Go.Ab.Rt.bad (KD c k t h) (nh u v)) (bF s t)) (FU c f t h):Go.Ab.Rt)=.ok t' h' at e
  cases ha:FU c f t h with
  |bad=>rw[ha]at e;cases e
  |ok v h1=>
   rw[ha]at e
   cases hs:bF s t with
   |none=>rw[hs]at e;cases e
   |some u=>
    rw[hs]at e
    simp only at e
    cases hq:nh u v with
    |false=>rw[hq]at e;cases e
    |true=>rw[hq]at e;exact ih hb e i hi hn
omit C in
theorem BP{E:En}{N:Nat}{c:Bool}{v w u:Sv}{a:AV}(e:mgV c v w=some u)(hv:V E N (bif c then v else w) a):V E N u a:=by
 have Mp:(match toN v,toN w with
  |some (k,x),some (k',y)=>bif jA k k' then some (Sv.c 0 (.int k) (bif c then x else y))else none
  | _,_=>match toB v,toB w with
   |some x,some y=>some (.c 0 .bool (bif c then x.v else y.v))
   | _,_=>none)=some u->V E N u a:=by
  intro e
  split at e
  ·rename_i k x k' y h1 h2
   obtain⟨hk,e⟩:=bV e
   cases e
   have:=eQ.1 hk;subst this
   cases c with
   |true=>rw[iD hv h1];exact gm
   |false=>rw[iD hv h2];exact gm
  ·split at e
   ·rename_i x y h1 h2
    cases e
    cases c with
    |true=>rw[iB hv h1];exact lW
    |false=>rw[iB hv h2];exact lW
   ·cases e
 unfold mgV at e
 split at e
 ·rename_i x y
  cases x<;>cases y<;>cases c<;>cases e<;>cases hv<;>first|exact .b|exact lW
 ·obtain⟨h,e⟩:=bV e
  cases e
  have:=xm _ _ h;subst this
  cases c<;>exact hv
 ·obtain⟨h,e⟩:=bV e
  cases e
  rw[Bool.and_eq_true]at h
  have h1:=beq_true h.1;have h2:=beq_true h.2
  subst h1;subst h2
  cases c<;>exact hv
 ·obtain⟨h,e⟩:=bV e
  cases e
  rw[Bool.and_eq_true]at h
  have h1:=beq_true h.1;have h2:=beq_true h.2
  subst h1;subst h2
  cases c<;>exact hv
 ·split at e
  ·rename_i p _
   cases p
   cases e
   cases c with
   |true=>cases hv with
    |c k _=>exact .c k fun h=>(h rfl).elim
   |false=>cases hv with
    |c k _=>exact .c k fun h=>(h rfl).elim
  ·cases e
 ·rename_i k x k' y
  have h:=(bV e).1
  replace e:=(bV e).2
  have:=eQ.1 h;subst this
  cases hb:eqI x y with
  |true=>
   rw[hb]at e;cases e
   have:=ga.1 hb;subst this
   cases c<;>exact hv
  |false=>
   rw[hb]at e;cases e
   cases c<;>cases hv<;>exact gm
 ·exact Mp e
omit C in
theorem Nn{E:En}{N:Nat}{c:Bool}{a b T0:Tq}{t':Tm}(ht:TV E N (bif c then a else b) t'): ∀ {zx:List Nat},cu (fun i=>Nat.blt i 512) zx=true->(∀ i v,i<512->i∉zx->T0.at i=some v-> ∃ x,t'.at i=some x/\V E N v x)->TV E N (mgT zx c T0 a b) t'
 | [],_,h0=>fun i v hi hv=>h0 i v hi (by simp) hv
 |j::zx,hb,h0=>by
  have hb:(bif Nat.blt j 512 then cu (fun i=>Nat.blt i 512) zx else false)=true:=hb
  cases hj:Nat.blt j 512 with
  |false=>rw[hj]at hb;cases hb
  |true=>
   rw[hj]at hb
   have key: ∀ i v,i<512->i≠j->(mgT zx c T0 a b).at i=some v-> ∃ x,t'.at i=some x/\V E N v x:=by
    intro i v hi jR hv
    have gen: ∀ {l:List Nat},cu (fun i=>Nat.blt i 512) l=true->(∀ q,q∈l->q∈zx)->(mgT l c T0 a b).at i=some v->(i∈l/\mgO c (a.at i) (b.at i)=some v)∨(i∉l/\T0.at i=some v):=by
     intro l
     induction l with
     |nil=>intro _ _ e;exact .inr ⟨by simp,e⟩
     |cons q l ih=>
      intro hl hs e
      have hl:(bif Nat.blt q 512 then cu (fun i=>Nat.blt i 512) l else false)=true:=hl
      cases hq:Nat.blt q 512 with
      |false=>rw[hq]at hl;cases hl
      |true=>
       rw[hq]at hl
       change ((mgT l c T0 a b).put q (mgO c (a.at q) (b.at q))).at i=some v at e
       rw[Tq.jF _ _ _ _ (bO.1 hq) hi]at e
       split at e
       ·rename_i e';subst e';exact .inl ⟨List.mem_cons_self,e⟩
       ·rename_i ne
        rcases ih hl (fun q hq=>hs q (List.mem_cons_of_mem _ hq)) e with⟨k1,k2⟩|⟨k1,k2⟩
        ·exact .inl ⟨List.mem_cons_of_mem _ k1,k2⟩
        ·exact .inr ⟨fun h=>(List.mem_cons.1 h).elim ne k1,k2⟩
    rcases gen hb (fun _ h=>h) hv with⟨_,k⟩|⟨k1,k2⟩
    ·unfold mgO at k
     split at k
     ·split at k
      ·rename_i _ v1 h1 _ v2 h2
       cases c with
       |true=>
        obtain⟨x,x1,x2⟩:=ht i v1 hi h1
        exact⟨x,x1,BP k x2⟩
       |false=>
        obtain⟨x,x1,x2⟩:=ht i v2 hi h2
        exact⟨x,x1,BP k x2⟩
      ·cases k
     ·cases k
    ·exact h0 i v hi (fun h=>(List.mem_cons.1 h).elim jR k1) k2
   intro i v hi hv
   change ((mgT zx c T0 a b).put j (mgO c (a.at j) (b.at j))).at i=some v at hv
   rw[Tq.jF _ _ _ _ (bO.1 hj) hi]at hv
   split at hv
   ·rename_i e;subst e
    unfold mgO at hv
    split at hv
    ·split at hv
     ·rename_i _ v1 h1 _ v2 h2
      cases c with
      |true=>
       obtain⟨x,x1,x2⟩:=ht i v1 hi h1
       exact⟨x,x1,BP hv x2⟩
      |false=>
       obtain⟨x,x1,x2⟩:=ht i v2 hi h2
       exact⟨x,x1,BP hv x2⟩
     ·cases hv
    ·cases hv
   ·rename_i ne;exact key i v hi ne hv
omit C in
theorem LB.Yp(c:Bool)(x y:LB):(LB.cond c x y).v=bif c then x.v else y.v:=by
 cases x with
 |l x=>cases x<;>cases y with
  |l y=>cases y<;>cases c<;>rfl
  |t y=>rfl
 |t x=>cases y<;>rfl
omit C in
theorem Yq{zx:List Nat}(hb:cu (fun i=>Nat.blt i 512) zx=true){T0:Tq}{x:T (Tq×Hq)}(h:(VU zx T0 x).1.v=true): ∃ p,x.val=some p/\ ∀ (E:En) (N:Nat) (t':Tm),TV E N p.1 t'->(∀ i v,i<512->i∉zx->T0.at i=some v-> ∃ a,t'.at i=some a/\V E N v a)->TV E N (VU zx T0 x).2 t':=by
 induction x with
 |bad=>cases h
 |ok p=>exact⟨p,rfl,fun E N t' h1 _=>h1⟩
 |br c a b sY xD=>
  have h':(bif c then(VU zx T0 a).1.v else(VU zx T0 b).1.v)=true:=by
   have h1:(LB.cond c (VU zx T0 a).1 (VU zx T0 b).1).v=true:=h
   rwa [LB.Yp]at h1
  cases c with
  |true=>
   obtain⟨p,p1,p2⟩:=sY h'
   exact⟨p,p1,fun E N t' h1 h2=>Nn (c:=true) (p2 E N t' h1 h2) hb h2⟩
  |false=>
   obtain⟨p,p1,p2⟩:=xD h'
   exact⟨p,p1,fun E N t' h1 h2=>Nn (c:=false) (p2 E N t' h1 h2) hb h2⟩
 |ck c a ih=>
  have h1:(LB.and (.t c) (VU zx T0 a).1).v=true:=h
  rw[LB.MX,Bool.and_eq_true]at h1
  obtain⟨p,p1,p2⟩:=ih h1.2
  have hc:c=true:=h1.1
  subst hc
  exact⟨p,p1,p2⟩
theorem SF(r:zI):adw (R4 call r) (fun n d=>KD (aq n d) r):=by
 intro E T0 t H h T' H' hT hH e
 unfold R4 at e
 cases hp:(yp r&&cu (fun i=>Nat.blt i 512) (yq r))with
 |false=>rw[hp]at e;exact Nl C r E T0 t H h T' H' hT hH e
 |true=>
  rw[hp]at e
  rw[Bool.and_eq_true]at hp
  simp only[cond_true]at e
  obtain⟨h1,e⟩:=mQ e
  cases e
  obtain⟨⟨T1,H1⟩,p1,p2⟩:=Yq hp.2 h1
  have hH1:H1=H:=SE hp.1 p1
  subst hH1
  obtain⟨t',h',E',k,X,S,Qj⟩:=Nl C r E T0 t H1 h T1 H1 hT hH p1
  refine⟨t',h',E',k,X,S,p2 E' H1.next t' Qj fun i v hi hn hv=>?_⟩
  obtain⟨a,ha,yw⟩:=hT i v hi hv
  obtain⟨M,k⟩:=k
  have k':=k M M (Nat.le_refl _) (Nat.le_refl _)
  dsimp only at k'
  exact⟨a,by rw[JM hp.2 k' i hi hn];exact ha,yw.mono X.e X.le⟩
structure Ox(E E':En)(H H':Hq)(h h':Hp):Prop where
 A:E'.A=E.A
 G:R5 E.G E'.G
 CC:h.next<=h'.next
 ow: ∀ r id,own H' r->lE (E'.K r).av=some id->(∃ r0,own H r0/\lE (E.K r0).av=some id)∨h.next<=id
 gw: ∀ id row,E'.G id=some row->E.G id=some row∨(∃ r0,own H r0/\lE (E.K r0).av=some id)∨h.next<=id
 fr: ∀ id,id<h.next->(∀ r,own H r->lE (E.K r).av≠some id)->h'.aP.get id=h.aP.get id
omit C in
theorem Nx.ox{E E':En}{H H':Hq}{h h':Hp}(X:Nx E E' H H' h h'):Ox E E' H H' h h':=⟨X.e.A,X.e.G,X.CC,X.ow,X.gw,X.fr⟩
omit C in
theorem Ox.trans{E E1 E2:En}{H H1 H2:Hq}{h h1 h2:Hp}(a:Ox E E1 H H1 h h1)(b:Ox E1 E2 H1 H2 h1 h2):Ox E E2 H H2 h h2 where
 A:=b.A.trans a.A
 G id row e:=b.G id row (a.G id row e)
 CC:=Nat.le_trans a.CC b.CC
 ow r id k e:=by
  rcases b.ow r id k e with⟨r0,k0,e0⟩|k0
  ·exact a.ow r0 id k0 e0
  ·exact .inr (Nat.le_trans a.CC k0)
 gw id row e:=by
  rcases b.gw id row e with k|⟨r0,k0,e0⟩|k
  ·exact a.gw id row k
  ·rcases a.ow r0 id k0 e0 with k|k
   ·exact .inr (.inl k)
   ·exact .inr (.inr k)
  ·exact .inr (.inr (Nat.le_trans a.CC k))
 fr id hi hn:=by
  rw[b.fr id (Nat.lt_of_lt_of_le hi a.CC) fun r k e=>?_,a.fr id hi hn]
  rcases a.ow r id k e with⟨r0,k0,e0⟩|k0
  ·exact hn r0 k0 e0
  ·omega
structure Rx where
 X:En->En->Hq->Hq->Hp->Hp->Prop
 of: ∀ {E E':En} {H H':Hq} {h h':Hp},Nx E E' H H' h h'->X E E' H H' h h'
 tr: ∀ {E E1 E2:En} {H H1 H2:Hq} {h h1 h2:Hp},X E E1 H H1 h h1->X E1 E2 H1 H2 h1 h2->X E E2 H H2 h h2
def Rx.s:Rx:=⟨Nx,fun X=>X,Nx.trans⟩
def Rx.w:Rx:=⟨Ox,Nx.ox,Ox.trans⟩
def Yr(R:Rx)(E:En)(H:Hq)(h:Hp):Oc->Go.Ab.Rc->Prop
 | .norm T' H',.norm t' h'=> ∃ E',R.X E E' H H' h h'/\SR E' H' h'/\TV E' H'.next T' t'
 | .ret T' H',.ret t' h'=> ∃ E',R.X E E' H H' h h'/\SR E' H' h'/\TV E' H'.next T' t'
 | .exit i T' H',.exit j t' h'=>i=j/\ ∃ E',R.X E E' H H' h h'/\SR E' H' h'/\TV E' H'.next T' t'
 | _,_=>False
def dZ(R:Rx)(f:fA)(g:Nat->Nat->zt):Prop:= ∀ (E:En) (T:Tq) (t:Tm) (H:Hq) (h:Hp) (o:Oc),TV E H.next T t->SR E H h->(f T H).val=some o->
 ∃ r,Ev (fun n d=>g n d t h) r/\Yr R E H h o r
omit C in
theorem Yr.norm{R:Rx}{E:En}{H:Hq}{h:Hp}{T':Tq}{H':Hq}{r:Go.Ab.Rc}(k:Yr R E H h (.norm T' H') r): ∃ t' h' E',r=.norm t' h'/\R.X E E' H H' h h'/\SR E' H' h'/\TV E' H'.next T' t':=by
 cases r with
 |norm t' h'=>obtain⟨E',a,b,c⟩:=k;exact⟨t',h',E',rfl,a,b,c⟩
 | _=>exact k.elim
omit C in
theorem Yr.trans{R:Rx}{E E1:En}{H H1:Hq}{h h1:Hp}(X:R.X E E1 H H1 h h1){o:Oc}{r:Go.Ab.Rc}(k:Yr R E1 H1 h1 o r):Yr R E H h o r:=by
 cases o<;>cases r<;>first|exact k.elim|skip
 ·obtain⟨E',a,b,c⟩:=k;exact⟨E',R.tr X a,b,c⟩
 ·obtain⟨E',a,b,c⟩:=k;exact⟨E',R.tr X a,b,c⟩
 ·obtain⟨e,E',a,b,c⟩:=k;exact⟨e,E',R.tr X a,b,c⟩
def jl(R:Rx)(aq:aB)(L:Nat->Option fA):qt->Prop
 | .sq a b=>jl R aq L a/\jl R aq L b
 | .cif _ a b=>jl R aq L a/\jl R aq L b
 | .bl id b=>(match L id with|some f=>dZ R f (fun n d=>gD (aq n d) n (.bl id b))|none=>True)/\jl R aq L b
 | .lp b=>jl R aq L b
 | _=>True
omit C in
theorem aE{R:Rx}{aq:aB}(c:qt):jl R aq (fun _=>none) c:=by
 induction c with
 |sq a b sY xD=>exact⟨sY,xD⟩
 |cif o a b sY xD=>exact⟨sY,xD⟩
 |bl id b ih=>exact⟨trivial,ih⟩
 |lp b ih=>exact ih
 | _=>trivial
def Ev3{α:Type}(p:Nat->Nat->Nat->α)(r:α):Prop:= ∃ M,∀ n d j,M<=n->M<=d->M<=j->p n d j=r
omit C in
theorem Ev3.diag{α:Type}{p:Nat->Nat->Nat->α}{r:α}(h:Ev3 p r):Ev (fun n d=>p n d n) r:=by
 obtain⟨M,h⟩:=h
 exact⟨M,fun n d a b=>h n d n a b a⟩
def SG(j:Nat)(b:zt):zt:=Nat.rec (fun _ _=>.bad) (fun _ ih t h=>Rc.rec Rc.bad (fun t h=>ih t h) (fun t h=>Rc.ret t h) (fun i t h=>Rc.exit i t h) (b t h)) j
omit C in
theorem Np{R:Rx}{b:fA}{g:Nat->Nat->zt}(hb:dZ R b g): ∀ (m:Nat) (E:En) (T:Tq) (t:Tm) (H:Hq) (h:Hp) (o:Oc),TV E H.next T t->SR E H h->
 ((Nat.rec (motive:=fun _=>fA) (fun _ _=>.bad) (fun _ ih t h=>JA (b t h) ih) m:fA) T H).val=some o-> ∃ r,Ev3 (fun n d j=>SG j (g n d) t h) r/\Yr R E H h o r
 |0,_,_,_,_,_,_,_,_,e=>by cases e
 |m+1,E,T,t,H,h,o,hT,hH,e=>by
  change (JA (b T H) (Nat.rec (motive:=fun _=>fA) (fun _ _=>.bad) (fun _ ih t h=>JA (b t h) ih) m)).val=some o at e
  obtain⟨o1,e1,e2⟩:=Lf.T.dm e
  obtain⟨r1,⟨M1,k1⟩,q1⟩:=hb E T t H h o1 hT hH e1
  cases o1 with
  |norm T1 H1=>
   obtain⟨t1,h1,E1,rfl,X,S1,tT⟩:=q1.norm
   obtain⟨r,⟨M2,k2⟩,q2⟩:=Np hb m E1 T1 t1 H1 h1 o tT S1 e2
   refine⟨r,⟨max M1 M2+1,fun n d j a b c=>?_⟩,q2.trans X⟩
   obtain⟨j',rfl⟩: ∃ j',j=j'+1:=⟨j - 1,by omega⟩
   show(Rc.rec Rc.bad (fun t h=>SG j' (g n d) t h) (fun t h=>Rc.ret t h) (fun i t h=>Rc.exit i t h) (g n d t h):Go.Ab.Rc)=r
   have AB:=k1 n d (by omega) (by omega)
   dsimp only at AB
   rw[AB]
   exact k2 n d j' (by omega) (by omega) (by omega)
  |ret T1 H1=>
   cases e2
   refine⟨r1,⟨M1+1,fun n d j a b c=>?_⟩,q1⟩
   obtain⟨j',rfl⟩: ∃ j',j=j'+1:=⟨j - 1,by omega⟩
   show(Rc.rec Rc.bad (fun t h=>SG j' (g n d) t h) (fun t h=>Rc.ret t h) (fun i t h=>Rc.exit i t h) (g n d t h):Go.Ab.Rc)=r1
   have AB:=k1 n d (by omega) (by omega)
   dsimp only at AB
   rw[AB]
   cases r1<;>first|rfl|exact q1.elim
  |exit i T1 H1=>
   cases e2
   refine⟨r1,⟨M1+1,fun n d j a b c=>?_⟩,q1⟩
   obtain⟨j',rfl⟩: ∃ j',j=j'+1:=⟨j - 1,by omega⟩
   show(Rc.rec Rc.bad (fun t h=>SG j' (g n d) t h) (fun t h=>Rc.ret t h) (fun i t h=>Rc.exit i t h) (g n d t h):Go.Ab.Rc)=r1
   have AB:=k1 n d (by omega) (by omega)
   dsimp only at AB
   rw[AB]
   cases r1<;>first|rfl|exact q1.elim
theorem Gk{R:Rx}(m:Nat){L:Nat->Option fA}(c:qt)(hL:jl R aq L c):dZ R (VV L call m c) (fun n d=>gD (aq n d) n c):=by
 induction c with
 |rg r=>
  intro E T t H h o hT hH e
  have e':((R4 call r T H).bd fun p=>Lf.T.ok (Oc.norm p.1 p.2)).val=some o:=e
  obtain⟨⟨T1,H1⟩,e1,e2⟩:=Lf.T.dm e'
  cases e2
  obtain⟨t',h',E',k,X,S,Qj⟩:=SF C r E T t H h T1 H1 hT hH e1
  refine⟨.norm t' h',k.tx fun n d q=>?_,E',R.of X,S,Qj⟩
  show(Rt.rec Rc.bad (fun t h=>Rc.norm t h) (KD (aq n d) r t h):Go.Ab.Rc)=_
  try dsimp only at q
  rw[q]
 |sk=>intro E T t H h o hT hH e;cases e;exact⟨.norm t h,Ev.const rfl,E,R.of (Nx.refl _ _ _),hH,hT⟩
 |sq a b sY xD=>
  intro E T t H h o hT hH e
  have e':(JA (VV L call m a T H) (VV L call m b)).val=some o:=e
  obtain⟨o1,e1,e2⟩:=Lf.T.dm e'
  obtain⟨r1,k1,q1⟩:=sY hL.1 E T t H h o1 hT hH e1
  cases o1 with
  |norm T1 H1=>
   obtain⟨t1,h1,E1,rfl,X,S1,tT⟩:=q1.norm
   obtain⟨r,k2,q2⟩:=xD hL.2 E1 T1 t1 H1 h1 o tT S1 e2
   refine⟨r,k1.Yo k2 fun n d p1 p2=>?_,q2.trans X⟩
   show(Rc.rec Rc.bad (fun t h=>gD (aq n d) n b t h) (fun t h=>Rc.ret t h) (fun i t h=>Rc.exit i t h) (gD (aq n d) n a t h):Go.Ab.Rc)=r
   try dsimp only at p1
   rw[p1];exact p2
  |ret T1 H1=>
   cases e2
   refine⟨r1,k1.tx fun n d p1=>?_,q1⟩
   show(Rc.rec Rc.bad (fun t h=>gD (aq n d) n b t h) (fun t h=>Rc.ret t h) (fun i t h=>Rc.exit i t h) (gD (aq n d) n a t h):Go.Ab.Rc)=r1
   try dsimp only at p1
   rw[p1];cases r1<;>first|rfl|exact q1.elim
  |exit i T1 H1=>
   cases e2
   refine⟨r1,k1.tx fun n d p1=>?_,q1⟩
   show(Rc.rec Rc.bad (fun t h=>gD (aq n d) n b t h) (fun t h=>Rc.ret t h) (fun i t h=>Rc.exit i t h) (gD (aq n d) n a t h):Go.Ab.Rc)=r1
   try dsimp only at p1
   rw[p1];cases r1<;>first|rfl|exact q1.elim
 |cif c a b sY xD=>
  intro E T t H h o hT hH e
  obtain⟨x,T1,hx,tT,h1,h2⟩:=vM (a:=fun t=>VV L call m a t H) (b:=fun t=>VV L call m b t H) hT e
  have hc: ∀ n d,gD (aq n d) n (.cif c a b) t h=Bool.rec (gD (aq n d) n b t h) (gD (aq n d) n a t h) x:=fun n d=>by
   show bu (bF c) (gD (aq n d) n a) (gD (aq n d) n b) t h=_
   unfold bu;rw[hx]
  cases x with
  |true=>
   obtain⟨r,k,q⟩:=sY hL.1 E T1 t H h o tT hH (h1 rfl)
   exact⟨r,k.tx fun n d p=>(hc n d).trans p,q⟩
  |false=>
   obtain⟨r,k,q⟩:=xD hL.2 E T1 t H h o tT hH (h2 rfl)
   exact⟨r,k.tx fun n d p=>(hc n d).trans p,q⟩
 |bl id b ih=>
  intro E T t H h o hT hH e
  change (match L id with|some f=>f T H|none=>blO id (VV L call m b T H)).val=some o at e
  have hl:=hL.1
  cases hf:L id with
  |some f=>rw[hf]at e hl;exact hl E T t H h o hT hH e
  |none=>
   rw[hf]at e
   obtain⟨o1,e1,e2⟩:=Lf.T.dm e
   obtain⟨r1,k1,q1⟩:=ih hL.2 E T t H h o1 hT hH e1
   cases o1 with
   |norm T1 H1=>
    cases e2
    refine⟨r1,k1.tx fun n d p1=>?_,q1⟩
    show(Rc.rec Rc.bad (fun t h=>Rc.norm t h) (fun t h=>Rc.ret t h) (fun i t h=>Bool.rec (Rc.exit i t h) (Rc.norm t h) (Nat.beq i id)) (gD (aq n d) n b t h):Go.Ab.Rc)=r1
    try dsimp only at p1
    rw[p1];cases r1<;>first|rfl|exact q1.elim
   |ret T1 H1=>
    cases e2
    refine⟨r1,k1.tx fun n d p1=>?_,q1⟩
    show(Rc.rec Rc.bad (fun t h=>Rc.norm t h) (fun t h=>Rc.ret t h) (fun i t h=>Bool.rec (Rc.exit i t h) (Rc.norm t h) (Nat.beq i id)) (gD (aq n d) n b t h):Go.Ab.Rc)=r1
    try dsimp only at p1
    rw[p1];cases r1<;>first|rfl|exact q1.elim
   |exit i T1 H1=>
    cases r1 with
    |exit j t1 h1=>
     obtain⟨rfl,E',X,S,Qj⟩:=q1
     cases hi:Nat.beq i id with
     |true=>
      have e2:(Lf.T.ok (bif Nat.beq i id then Oc.norm T1 H1 else Oc.exit i T1 H1)).val=some o:=e2
      rw[hi]at e2
      cases e2
      refine⟨.norm t1 h1,k1.tx fun n d p1=>?_,E',X,S,Qj⟩
      show(Rc.rec Rc.bad (fun t h=>Rc.norm t h) (fun t h=>Rc.ret t h) (fun i t h=>Bool.rec (Rc.exit i t h) (Rc.norm t h) (Nat.beq i id)) (gD (aq n d) n b t h):Go.Ab.Rc)=_
      try dsimp only at p1
      rw[p1];simp only[hi]
     |false=>
      have e2:(Lf.T.ok (bif Nat.beq i id then Oc.norm T1 H1 else Oc.exit i T1 H1)).val=some o:=e2
      rw[hi]at e2
      cases e2
      refine⟨.exit i t1 h1,k1.tx fun n d p1=>?_,rfl,E',X,S,Qj⟩
      show(Rc.rec Rc.bad (fun t h=>Rc.norm t h) (fun t h=>Rc.ret t h) (fun i t h=>Bool.rec (Rc.exit i t h) (Rc.norm t h) (Nat.beq i id)) (gD (aq n d) n b t h):Go.Ab.Rc)=_
      try dsimp only at p1
      rw[p1];simp only[hi]
    | _=>exact q1.elim
 |lp b ih=>
  intro E T t H h o hT hH e
  obtain⟨r,k,q⟩:=Np (ih hL) m E T t H h o hT hH e
  exact⟨r,k.diag,q⟩
 |ex i=>intro E T t H h o hT hH e;cases e;exact⟨.exit i t h,Ev.const rfl,rfl,E,R.of (Nx.refl _ _ _),hH,hT⟩
 |rt=>intro E T t H h o hT hH e;cases e;exact⟨.ret t h,Ev.const rfl,E,R.of (Nx.refl _ _ _),hH,hT⟩
 |bad=>intro E T t H h o hT hH e;cases e
end
theorem SH{E:En}{T:Tq}{t:Tm}{H:Hq}{h:Hp}(hT:TV E H.next T t)(hH:SR E H h){r:Go.Ab.RV}{v:Sv}(e:X9 T H r=some v): ∃ c,KT t h r=some c/\V E H.next v c:=by
 cases r with
 |tmp i=>obtain⟨hi,e⟩:=bV e;exact hT i v (bO.1 hi) e
 |cell i sz agg=>
  change (match(bif Nat.blt i 512 then T.at i else none)with|some p=>Aw sz agg p H|none=>none)=some v at e
  split at e
  ·rename_i p hp
   obtain⟨hi,hp⟩:=bV hp
   obtain⟨a,ha,yw⟩:=hT i p (bO.1 hi) hp
   obtain⟨c,c1,c2⟩:=yv hH yw e
   refine⟨c,?_,c2⟩
   show(match t.at i with|some a=>xF h sz agg a|none=>none)=_
   rw[ha];exact c1
  ·cases e
theorem yy{E:En}{T:Tq}{t:Tm}{H:Hq}{h:Hp}(hT:TV E H.next T t)(hH:SR E H h): ∀ {l:List Go.Ab.RV} {vs:List Sv},ML T H l=some vs-> ∃ cs,Aa t h l=some cs/\Vs E H.next vs cs
 | [],_,e=>by cases e;exact⟨[],rfl,.nil⟩
 |r::l,vs,e=>by
  change (match X9 T H r with|some v=>(match ML T H l with|some vs=>some (v::vs)|none=>none)|none=>none)=some vs at e
  split at e
  ·rename_i v hv
   split at e
   ·rename_i us hu
    cases e
    obtain⟨c,hc,gh⟩:=SH hT hH hv
    obtain⟨cs,pD,Ya⟩:=yy hT hH hu
    refine⟨c::cs,?_,.cons gh Ya⟩
    show(match KT t h r with|some v=>(match Aa t h l with|some vs=>some (v::vs)|none=>none)|none=>none)=_
    rw[hc,pD]
   ·cases e
  ·cases e
theorem SI{E:En}{T:Tq}{t:Tm}{H H':Hq}{h:Hp}(hT:TV E H.next T t)(hH:SR E H h){l:List Go.Ab.RV}{v:Sv}(e:(MM l T H).val=some (v,H')):H'=H/\ ∃ c,fin l t h=.ok c h/\V E H.next v c:=by
 unfold MM at e
 split at e
 ·rename_i w hw
  cases e
  obtain⟨cs,hc,gh⟩:=yy hT hH hw
  cases gh with
  |cons a b=>cases b;exact⟨rfl,_,by unfold fin;rw[hc],a⟩
 ·rename_i vs hn hw
  cases e
  obtain⟨cs,hc,gh⟩:=yy hT hH hw
  refine⟨rfl,.wK cs,?_,.tu gh⟩
  unfold fin
  rw[hc]
  cases cs with
  |nil=>rfl
  |cons a cs=>
   cases cs with
   |nil=>
    cases gh with
    |cons x y=>cases y;exact(hn _ rfl).elim
   |cons _ _=>rfl
 ·cases e
theorem F8.yz{α:Type}(x:α)(j:Nat):(F8.all x).Cw j=x:=by
 unfold F8.all F8.Cw
 split<;>rfl
theorem HV(j:Nat):Tq.none.at j=none:=by
 unfold Tq.at Tq.none
 rw[F8.yz,F8.yz,F8.yz]
theorem uk{E:En}{N:Nat}{l:List Sv}: ∀ (as:List AV) (i:Nat) (T:Tq) (t:Tm),Vs E N l as->i+l.length<=512->TV E N T t->TV E N (F5 l i T) (pA as i t):=by
 induction l with
 |nil=>intro as i T t h _ hT;cases h;exact hT
 |cons v l ih=>
  intro as i T t h hi hT
  cases h with
  |cons hv h=>
   rename_i a as
   rw[List.length_cons]at hi
   exact ih as (i+1) _ _ h (by omega) (hT.put (by omega) hv)
def yA(b:Fb)(n:Nat)(c:cZ):List AV->Hp->Go.Ab.Ro:=fun args h=>il (Nat.ble (len args) b.ntmps) (match b.body c n (pA args 0 Tm.none) h with
 | .norm t h=>fin b.res t h
 | .ret t h=>fin b.res t h
 | _=>.bad) .bad
def mT(aq:aB)(f:FuncId)(b:dB):Prop:= ∀ n d args h c h',yA b.fb n (aq n d) args h=.ok c h'->aq n (d+1) f args h=.ok c h'
theorem DI{R:Rx}{call:eJ}{aq:aB}(C:oE call aq){f:FuncId}{b:dB}(hb:mT aq f b)(qC:b.ntmps<=512){L:Nat->Option fA}(hL:jl R aq L b.code){m:Nat}{E:En}{args:List Sv}{as:List AV}{H H':Hq}{h:Hp}{v:Sv}
 (hv:Vs E H.next args as)(hH:SR E H h)(e:(Dt L b m call args H).val=some (v,H')): ∃ c h' E',Ev (fun n d=>aq n d f as h) (.ok c h')/\R.X E E' H H' h h'/\SR E' H' h'/\V E' H'.next v c:=by
 unfold Dt at e
 obtain⟨hn,e⟩:=ez e
 have Yj:args.length<=b.ntmps:=by have:=Nat.le_of_ble_eq_true hn;rwa [bW]at this
 obtain⟨o,e1,e2⟩:=Lf.T.dm e
 have hT0:TV E H.next (F5 args 0 Tq.none) (pA as 0 Tm.none):=uk _ _ _ _ hv (by omega) fun i w _ hw=>by rw[HV]at hw;cases hw
 obtain⟨r,k,q⟩:=Gk C (R:=R) m b.code hL E _ _ H h o hT0 hH e1
 have hlen:Nat.ble (len as) b.ntmps=true:=by rw[bW,<-hv.length,<-bW];exact hn
 have Ms: ∀ {T1:Tq} {H1:Hq} {t1:Tm} {h1:Hp} {E1:En},(r=.norm t1 h1∨r=.ret t1 h1)->R.X E E1 H H1 h h1->SR E1 H1 h1->TV E1 H1.next T1 t1->(MM b.res T1 H1).val=some (v,H')-> ∃ c h' E',Ev (fun n d=>aq n d f as h) (.ok c h')/\R.X E E' H H' h h'/\SR E' H' h'/\V E' H'.next v c:=by
  intro T1 H1 t1 h1 E1 hr X S tT e
  obtain⟨hq,c,c1,c2⟩:=SI tT S e
  rw[hq]
  refine⟨c,h1,E1,?_,X,S,c2⟩
  obtain⟨M,k⟩:=k
  refine⟨M+1,fun n d a a'=>?_⟩
  obtain⟨d',rfl⟩: ∃ d',d=d'+1:=⟨d - 1,by omega⟩
  refine hb n d' as h c h1 ?_
  have k':=k n d' (by omega) (by omega)
  dsimp only at k'
  show il (Nat.ble (len as) b.ntmps) (match gD (aq n d') n b.code (pA as 0 Tm.none) h with
   | .norm t h=>fin b.res t h
   | .ret t h=>fin b.res t h
   | _=>.bad) .bad=_
  rw[hlen,k']
  rcases hr with hr|hr<;>rw[hr]<;>exact c1
 cases o with
 |norm T1 H1=>
  obtain⟨t1,h1,E1,hr,X,S,tT⟩:=q.norm
  exact Ms (.inl hr) X S tT e2
 |ret T1 H1=>
  cases r with
  |ret t1 h1=>obtain⟨E1,X,S,tT⟩:=q;exact Ms (.inr rfl) X S tT e2
  | _=>exact q.elim
 |exit _ _ _=>cases e2
end Lf
end Go.Ab
