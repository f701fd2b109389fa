import Derived.Test.YtcnkojgmochcgaaGreatDoorLfD6
noncomputable section
namespace Go.Ab
namespace Lf
theorem CN{v:Value}(h:dH (.sc v)=true):Is v v=true:=by
 have h':isNil (.sc v)=true:=h
 cases v<;>first|(cases h';done)|skip
 rename_i p n c
 cases p with
 |none=>show(Nat.beq n n&&Nat.beq c c)=true;rw[Nat.beq_refl,Nat.beq_refl];rfl
 |some _=>cases h'
theorem AD(n:Int):eqI n n=true:=gx.2 rfl
theorem s9{a:AV}(h:dH a=true):mf a a=true:=by
 cases a<;>first|(cases h;done)|skip
 ·exact CN h
 ·rfl
 ·rfl
theorem AE{l m:List AV}(h:i6 l l=true)(k:i6 m m=true):i6 (l++m) (l++m)=true:=by
 induction l with
 |nil=>exact k
 |cons a l ih=>
  have h:(mf a a&&i6 l l)=true:=h
  rw[Bool.and_eq_true]at h
  show(mf a a&&i6 (l++m) (l++m))=true
  rw[h.1,ih h.2];rfl
theorem AF{α:Type}{E:α->List AV->Prop}(hE: ∀ x cs,E x cs->i6 cs cs=true): ∀ {x:List α} {ls:List AV},jH E x ls->i6 ls ls=true
 | [],_,e=>by have e':_=[]:=e;subst e';rfl
 | _::_,_,⟨c,r,e,a,b⟩=>by subst e;exact AE (hE _ _ a) (AF hE b)
theorem NT{G:Nat->Option Rw}{t:Ty}{E:den t->List AV->Prop}(hE: ∀ x cs,E x cs->i6 cs cs=true){x:List (den t)}{a:AV}(k:DT G t E x a):mf a a=true:=by
 rcases k with⟨k,_⟩|⟨ls,k1,k2|⟨id,base,row,k2,_,_⟩⟩
 ·exact s9 k
 ·subst k2
  show(Nat.beq _ _&&i6 ls ls)=true
  rw[Nat.beq_refl,Bool.true_and]
  exact AF hE k1
 ·subst k2
  show(Nat.beq _ _&&Nat.beq _ _&&Nat.beq _ _&&Nat.beq _ _)=true
  simp
theorem uJ{G:Nat->Option Rw}: ∀ (t:Ty) (x:den t) (cs:List AV),EV G t x cs->i6 cs cs=true
 | .int k,x,_,e=>by
  have e':_=_:=e;subst e'
  show(ka k k&&eqI x x&&true)=true
  rw[vK,AD];rfl
 | .bool,x,_,e=>by
  have e':_=_:=e;subst e'
  show(!(xor x x)&&true)=true
  cases x<;>rfl
 | .str,x,_,e=>by
  have e':_=_:=e;subst e'
  show(Is (.string x) (.string x)&&true)=true
  rw[Bool.and_true];show(x.data.toList == x.data.toList)=true;exact beq_self_eq_true _
 | .aC t,_,_,⟨a,e,k⟩=>by
  subst e
  show(mf a a&&true)=true
  rw[NT (fun x cs=>uJ t x cs) k];rfl
 | .pair a b,_,_,⟨c,d,e,k1,k2⟩=>by
  subst e
  exact AE (uJ a _ _ k1) (uJ b _ _ k2)
theorem AG{E:En}{N:Nat}{u v:Sv}{a b:AV}{c:LB}(hu:V E N u a)(hv:V E N v b)(e:DQ u v=some c)(hc:c.v=true):mf a b=true:=by
 have IC:(match toN u,toN v with
  |some (k,a),some (k',b)=>bif ka k k' then some (LB.t (decide (a=b)))else none
  | _,_=>match toB u,toB v with
   |some a,some b=>some (LB.t (!(xor a.v b.v)))
   | _,_=>none)=some c->mf a b=true:=by
  intro e
  split at e
  ·rename_i k m k' n h1 h2
   obtain⟨hk,e⟩:=cD e
   cases e
   rw[gP hu h1,gP hv h2]
   have:m=n:=by simpa[LB.v]using hc
   subst this
   show(ka k k'&&eqI m m)=true
   rw[hk,AD];rfl
  ·split at e
   ·rename_i x y h1 h2
    cases e
    rw[gO hu h1,gO hv h2]
    exact hc
   ·cases e
 unfold DQ at e
 split at e
 ·have e:=(cD e).1;cases hu;cases hv;exact e
 ·cases hu;cases hv
  rename_i a b
  cases a<;>cases b<;>first|rfl|(cases e;done)
 ·have e:=(cD e).1;cases hu;cases hv;exact e
 ·have e:=(cD e).1
  rw[Bool.and_eq_true]at e
  have e1:=beq_true e.1;have e2:=beq_true e.2
  subst e1;subst e2
  cases hu with
  |rf _ h1=>cases hv with
   |rf _ h2=>
    rw[h1]at h2;cases h2
    show(Nat.beq _ _&&Nat.beq _ _)=true
    simp
 ·have e0:=(cD e).1
  replace e:=(cD e).2
  rw[Bool.and_eq_true,Bool.and_eq_true]at e0
  have e1:=beq_true e0.1;have e2:=beq_true e0.2.1;have e3:=beq_true e0.2.2
  subst e1;subst e2;subst e3
  cases e
  simp only[LB.v,decide_eq_true_eq]at hc
  subst hc
  cases hu with
  |re _ h1 _=>cases hv with
   |re _ h2 _=>
    rw[h1]at h2;cases h2
    show(Nat.beq _ _&&Nat.beq _ _)=true
    simp
 ·have e0:=(cD e).1
  rw[Bool.and_eq_true]at e0
  have e1:=beq_true e0.1;have e2:=beq_true e0.2
  subst e1;subst e2
  cases hu with
  |os _ h1=>cases hv with
   |os _ h2=>
    rcases h1 with⟨h1,_⟩|⟨id,base,h1⟩
    ·exact s9 h1
    ·rw[h1];show(Nat.beq _ _&&Nat.beq _ _&&Nat.beq _ _&&Nat.beq _ _)=true;simp
 ·have e0:=(cD e).1
  replace e:=(cD e).2
  rw[Bool.and_eq_true]at e0
  have e1:=beq_true e0.1;have e2:=beq_true e0.2
  subst e1;subst e2
  cases e
  simp only[LB.v,Bool.and_eq_true,decide_eq_true_eq]at hc
  obtain⟨c1,c2⟩:=hc
  subst c1;subst c2
  cases hu with
  |se _ h1 _ _=>cases hv with
   |se _ _ _ _=>exact s9 h1
   |ss _ h2 _=>rw[h2]at h1;cases h1
  |ss _ h1 _=>cases hv with
   |se _ h2 _ _=>rw[h1]at h2;cases h2
   |ss _ h2 _=>
    rw[h1]at h2
    injection h2 with a1 a2 _ _
    subst a1;subst a2
    show(Nat.beq _ _&&Nat.beq _ _&&Nat.beq _ _&&Nat.beq _ _)=true;simp
 ·have e0:=(cD e).1
  rw[Bool.and_eq_true,Bool.and_eq_true,Bool.and_eq_true]at e0
  have e1:=beq_true e0.1;have e2:=beq_true e0.2.1;have e3:=beq_true e0.2.2.1;have e4:=beq_true e0.2.2.2
  subst e1;subst e2;subst e3;subst e4
  cases hu with
  |xo _ h1=>cases hv with
   |xo _ h2=>rw[h1]at h2;cases h2;show(Nat.beq _ _&&Nat.beq _ _&&Nat.beq _ _&&Nat.beq _ _)=true;simp
 ·have e0:=(cD e).1
  rw[Bool.and_eq_true]at e0
  have hp:=ct.1 e0.1
  have e1:=beq_true e0.2
  subst e1
  cases hu with
  |c k1 m1=>cases hv with
   |c k2 m2=>
    rw[(m1 (by omega)).2,<-(m2 (by omega)).2]
    have:=uJ _ _ _ k2
    have this:(mf b b&&true)=true:=this
    rwa [Bool.and_true]at this
 ·exact IC e
theorem AH{E:En}{N:Nat}: ∀ {l m:List Sv} {as bs:List AV} {c:LB},Vs E N l as->Vs E N m bs->DR l m=some c->c.v=true->i6 as bs=true
 | [],[],_,_,_,.nil,.nil,_,_=>rfl
 | [],_::_,_,_,_,_,_,e,_=>by cases e
 | _::_,[],_,_,_,_,_,e,_=>by cases e
 |u::l,v::m,a::as,b::bs,c,.cons hu hl,.cons hv hm,e,hc=>by
  unfold DR at e
  split at e
  ·rename_i x hx
   split at e
   ·rename_i y hy
    cases e
    rw[LB.Jg,Bool.and_eq_true]at hc
    show(mf a b&&i6 as bs)=true
    rw[AG hu hv hx hc.1,AH hl hm hy hc.2];rfl
   ·cases e
  ·cases e
theorem AJ{E:En}{N:Nat}{u v:Sv}{a b:AV}{c:LB}(hu:V E N u a)(hv:V E N v b)(e:DS u v=some c)(hc:c.v=true):mf a b=true:=by
 unfold DS at e
 split at e
 ·cases hu with
  |ag h1=>cases hv with
   |ag h2=>exact AH h1 h2 e hc
 ·exact AG hu hv e hc
theorem Ev.map{α β:Type}{p:Nat->Nat->α}{r:α}(h:Ev p r){q:Nat->Nat->β}{s:β}(k: ∃ M,∀ n d,M<=n->M<=d->p n d=r->q n d=s):Ev q s:=by
 obtain⟨M,h⟩:=h
 obtain⟨M',k⟩:=k
 exact⟨max M M',fun n d h1 h2=>k n d (by omega) (by omega) (h n d (by omega) (by omega))⟩
theorem Ev.qJ{α β:Type}{p:Nat->Nat->α}{r:α}(h:Ev p r){q:Nat->Nat->β}{s:β}(k: ∀ n d,p n d=r->q n d=s):Ev q s:=h.map ⟨0,fun n d _ _=>k n d⟩
theorem Ev.Tv{α β γ:Type}{p:Nat->Nat->α}{r:α}(h:Ev p r){q:Nat->Nat->β}{s:β}(k:Ev q s){f:Nat->Nat->γ}{u:γ}(g: ∀ n d,p n d=r->q n d=s->f n d=u):Ev f u:=by
 obtain⟨M,h⟩:=h
 obtain⟨M',k⟩:=k
 exact⟨max M M',fun n d h1 h2=>g n d (h n d (by omega) (by omega)) (k n d (by omega) (by omega))⟩
theorem CO{f:eV}{g:XA}(s:eT f g):eT f (fun n d=>mn (g n d)):=by
 intro E T t H h v T' H' hT hH e
 obtain⟨c,h',E',k,X,S,w,LJ⟩:=s E T t H h v T' H' hT hH e
 refine⟨c,h',E',k.qJ fun n d q=>?_,X,S,w,LJ⟩
 have hb:Nat.ble h.next h'.next=true:=by rw[Nat.ble_eq];exact X.yH
 simp only[mn,q,hb]
theorem CP{f:eV}{g:XA}(s:eT f g)(j:Od)(want:Bool):eT (Tc j want f) (fun n d=>gF (cf j) want (g n d)):=by
 intro E T t H h v T' H' hT hH e
 unfold Tc at e
 split at e
 ·rename_i hj
  obtain⟨rfl,rfl,rfl⟩:=bA e
  obtain⟨a,ha,vM⟩:=bX hT hj
  cases vM with
  |tu k=>cases k;exact⟨gk,h,E,⟨0,fun n d _ _=>by unfold gF;simp only[ha]⟩,Nx.refl _ _ _,hH,.tu .nil,hT⟩
 ·obtain⟨c,T1,hc,qO,h1,h2⟩:=sZ hT e
  have hg: ∀ n d,gF (cf j) want (g n d) t h=gD (gD want c (!c)) (g n d t h) (.ok gk h):=fun n d=>by unfold gF;rw[hc]
  have yes:(bif want then c else !c)=true->(f T1 H).val=some (v,T',H')-> ∃ c h' E',Ev (fun n d=>gF (cf j) want (g n d) t h) (.ok c h')/\Nx E E' H H' h h'/\SR E' H' h'/\V E' H'.next v c/\TV E' H'.next T' t:=by
   intro hw e
   obtain⟨x,h',E',k,X,S,w,LJ⟩:=s E T1 t H h v T' H' qO hH e
   refine⟨x,h',E',k.qJ fun n d q=>?_,X,S,w,LJ⟩
   rw[hg,q]
   cases want<;>cases c<;>first|rfl|cases hw
  have no:(bif want then c else !c)=false->(okV pd T1 H).val=some (v,T',H')-> ∃ c h' E',Ev (fun n d=>gF (cf j) want (g n d) t h) (.ok c h')/\Nx E E' H H' h h'/\SR E' H' h'/\V E' H'.next v c/\TV E' H'.next T' t:=by
   intro hw e
   obtain⟨rfl,rfl,rfl⟩:=bA e
   refine⟨gk,h,E,⟨0,fun n d _ _=>?_⟩,Nx.refl _ _ _,hH,.tu .nil,qO⟩
   show gF (cf j) want (g n d) t h=_
   rw[hg]
   cases want<;>cases c<;>first|rfl|cases hw
  cases c with
  |true=>
   have:=h1 rfl
   cases want with
   |true=>exact yes rfl this
   |false=>exact no rfl this
  |false=>
   have:=h2 rfl
   cases want with
   |true=>exact no rfl this
   |false=>exact yes rfl this
end Lf
end Go.Ab

noncomputable section
namespace Go.Ab
namespace Lf
section
variable {call:fP}{aR:bb}(C:qI call aR)
include C
theorem Jz(o:j5):eT (QX call o) (fun n d=>Cu (aR n d) o):=by
 have h0:=fun o=>NS C o
 have ho:=h0 o
 cases o with
 |gd j w f=>
  have hw:=CP (h0 f) j w
  cases f with
  |mn f=>
   have hw:=CP (CO (h0 f)) j w
   exact hw
  | _=>exact hw
 |mn f=>
  have hw:=CO (h0 f)
  cases f with
  |gd j w f=>exact CO (CP (h0 f) j w)
  | _=>exact hw
 | _=>exact ho
def XM(f:Tq->Hq->T (Tq×Hq))(g:Nat->Nat->me):Prop:= ∀ (E:En) (T:Tq) (t:Tm) (H:Hq) (h:Hp) (T':Tq) (H':Hq),TV E H.next T t->SR E H h->(f T H).val=some (T',H')->
 ∃ t' h' E',Ev (fun n d=>g n d t h) (.ok t' h')/\Nx E E' H H' h h'/\SR E' H' h'/\TV E' H'.next T' t'
theorem JA(r:wM):XM (vF call r) (fun n d=>GF (aR n d) r):=by
 induction r with
 |fi=>intro E T t H h T' H' hT hH e;cases e;exact⟨t,h,E,Ev.const rfl,Nx.refl _ _ _,hH,hT⟩
 |st i f k ih=>
  intro E T t H h T' H' hT hH e
  change (bif Nat.blt i 512 then(QX call f T H).bd fun p=>vF call k (p.2.1.put i (some p.1)) p.2.2 else .bad).val=some (T',H')at e
  obtain⟨hi,e⟩:=eO e
  obtain⟨⟨v,T1,H1⟩,e1,e2⟩:=Lf.T.dQ e
  obtain⟨c,h1,E1,k1,X1,S1,w1,qO⟩:=Jz C f E T t H h v T1 H1 hT hH e1
  obtain⟨t2,h2,E2,k2,X2,S2,LI⟩:=ih E1 _ (t.put i (some c)) H1 h1 T' H' (qO.put (ct.1 hi) w1) S1 e2
  refine⟨t2,h2,E2,k1.Tv k2 fun n d q1 q2=>?_,X1.trans X2,S2,LI⟩
  show(Go.Ab.Ro.rec Go.Ab.Rt.bad (fun v h=>GF (aR n d) k (sT i v t) h) (Cu (aR n d) f t h):Go.Ab.Rt)=_
  try dsimp only at q1
  rw[q1]
  exact q2
 |sn f k ih=>
  intro E T t H h T' H' hT hH e
  change ((QX call f T H).bd fun p=>vF call k p.2.1 p.2.2).val=some (T',H')at e
  obtain⟨⟨v,T1,H1⟩,e1,e2⟩:=Lf.T.dQ e
  obtain⟨c,h1,E1,k1,X1,S1,w1,qO⟩:=Jz C f E T t H h v T1 H1 hT hH e1
  obtain⟨t2,h2,E2,k2,X2,S2,LI⟩:=ih E1 _ t H1 h1 T' H' qO S1 e2
  refine⟨t2,h2,E2,k1.Tv k2 fun n d q1 q2=>?_,X1.trans X2,S2,LI⟩
  show(Go.Ab.Ro.rec Go.Ab.Rt.bad (fun v h=>GF (aR n d) k t h) (Cu (aR n d) f t h):Go.Ab.Rt)=_
  try dsimp only at q1
  rw[q1]
  exact q2
 |ck s f k ih=>
  intro E T t H h T' H' hT hH e
  have fin: ∀ (F:Nat->Nat->eP) (y z:AV),(∀ n d,F n d t h=.ok y h)->cf s t=some z->mf z y=true->(vF call k T H).val=some (T',H')-> ∃ t' h' E',Ev (fun n d=>Go.Ab.ck (cf s) (F n d) (GF (aR n d) k) t h) (.ok t' h')/\Nx E E' H H' h h'/\SR E' H' h'/\TV E' H'.next T' t':=by
   intro F y z hF hz hs e
   obtain⟨t2,h2,E2,k2,X2,S2,LI⟩:=ih E T t H h T' H' hT hH e
   refine⟨t2,h2,E2,k2.qJ fun n d q=>?_,X2,S2,LI⟩
   show(Go.Ab.Ro.rec Go.Ab.Rt.bad (fun v _=>Option.rec Go.Ab.Rt.bad (fun u=>Bool.rec Go.Ab.Rt.bad (GF (aR n d) k t h) (mf u v)) (cf s t)) (F n d t h):Go.Ab.Rt)=_
   rw[hF,hz]
   simp only[hs]
   exact q
  have XN: ∀ {sz:Nat} {g:Bool} {a:Od},(As s sz g a T H (vF call k T H)).val=some (T',H')-> ∃ y z,bc sz g (cf a) t h=.ok y h/\cf s t=some z/\mf z y=true/\(vF call k T H).val=some (T',H'):=by
   intro sz g a e
   unfold As at e
   split at e
   ·rename_i p hp
    split at e
    ·rename_i v hv
     split at e
     ·rename_i u hu
      split at e
      ·rename_i c hc
       obtain⟨fL,e⟩:=pe e
       obtain⟨x,hx,Ib⟩:=bX hT hp
       obtain⟨y,hy,W8⟩:=vL hH Ib hv
       obtain⟨z,hz,ux⟩:=bX hT hu
       have hs:=AJ ux W8 hc fL
       exact⟨y,z,by unfold bc;rw[hx];simp only[hy],hz,hs,e⟩
      ·cases e
     ·cases e
    ·cases e
   ·cases e
  have XO:(wQ s T (vF call k T H)).val=some (T',H')-> ∃ z,cf s t=some z/\mf z gk=true/\(vF call k T H).val=some (T',H'):=by
   intro e
   unfold wQ at e
   split at e
   ·rename_i hu
    obtain⟨z,hz,ux⟩:=bX hT hu
    cases ux with
    |tu q=>cases q;exact⟨_,hz,by kernel_rfl,e⟩
   ·cases e
  cases f with
  |ld sz g a=>
   obtain⟨y,z,h1,h2,h3,h4⟩:=XN e
   exact fin (fun _ _=>bc sz g (cf a)) y z (fun _ _=>h1) h2 h3 h4
  |slN sz a lo hi=>
   change (I3 s sz a lo hi T H (vF call k T H)).val=some (T',H')at e
   unfold I3 at e
   obtain⟨⟨v,T1,H1⟩,e1,e2⟩:=Lf.T.dQ e
   obtain⟨_,_,y,hy,W8⟩:=Az sz a lo hi E T t H h v T1 H1 hT hH e1
   split at e2
   ·rename_i u hu
    split at e2
    ·rename_i c hc
     obtain⟨fL,e2⟩:=pe e2
     obtain⟨z,hz,ux⟩:=bX hT hu
     exact fin (fun _ _=>cB sz (cf a) (lo.map cf) (hi.map cf)) y z (fun _ _=>hy) hz (AJ ux W8 hc fL) e2
    ·cases e2
   ·cases e2
  |gd j w f=>
   cases f with
   |ld sz g a=>
    change (match jG j T with
     |some (.b c)=>bif (bif w then c else !c)then As s sz g a T H (vF call k T H)else wQ s T (vF call k T H)
     |some (.tu [])=>wQ s T (vF call k T H)
     | _=>.bad:Lf.T (Tq×Hq)).val=some (T',H')at e
    split at e
    ·rename_i c hj
     obtain⟨q,hq,hqv⟩:=bX hT hj
     cases hqv
     cases hc:(bif w then c else !c)with
     |true=>
      rw[hc]at e
      obtain⟨y,z,h1,h2,h3,h4⟩:=XN e
      refine fin (fun _ _=>gF (cf j) w (bc sz g (cf a))) y z (fun _ _=>?_) h2 h3 h4
      unfold gF
      rw[hq]
      cases w<;>cases c<;>first|(cases hc;done)|exact h1
     |false=>
      rw[hc]at e
      obtain⟨z,h2,h3,h4⟩:=XO e
      refine fin (fun _ _=>gF (cf j) w (bc sz g (cf a))) gk z (fun _ _=>?_) h2 h3 h4
      unfold gF
      rw[hq]
      cases w<;>cases c<;>first|(cases hc;done)|rfl
    ·rename_i hj
     obtain⟨q,hq,hqv⟩:=bX hT hj
     cases hqv with
     |tu qq=>
      cases qq
      obtain⟨z,h2,h3,h4⟩:=XO e
      refine fin (fun _ _=>gF (cf j) w (bc sz g (cf a))) gk z (fun _ _=>?_) h2 h3 h4
      unfold gF
      rw[hq]
    ·cases e
   | _=>cases e
  | _=>cases e
omit C in
theorem ki{v w:Sv}{t t':Tq}{h h':Hq}(e:(okV v t h).val=some (w,t',h')):h'=h:=(bA e).2.2
omit C in
theorem ph{v:Option Sv}{w:Sv}{t t':Tq}{h h':Hq}(e:(okO v t h).val=some (w,t',h')):h'=h:=(l4 e).2.2
omit C in
theorem yR{j:Od}{T0 T':Tq}{a b:Tq->T (Sv×Tq×Hq)}{v:Sv}{H H':Hq}(ha: ∀ t,(a t).val=some (v,T',H')->H'=H)(hb: ∀ t,(b t).val=some (v,T',H')->H'=H)(e:(qE j T0 a b).val=some (v,T',H')):H'=H:=by
 unfold qE at e
 split at e
 ·rename_i i
  cases BD:Nat.blt i 512 with
  |false=>rw[BD]at e;cases e
  |true=>
   rw[BD]at e
   simp only[cond_true]at e
   split at e
   ·rename_i c _
    cases c with
    |true=>exact ha _ e
    |false=>exact hb _ e
   ·rename_i m x _
    rw[Lf.T.yI]at e
    cases x with
    |true=>exact ha _ e
    |false=>exact hb _ e
   ·cases e
 ·rename_i c
  cases c with
  |true=>exact ha _ e
  |false=>exact hb _ e
 ·cases e
omit C in
theorem yS{o:j5}(hp:mO o=true)(hg: ∀ j w f,o≠ .gd j w f){T0 T':Tq}{H H':Hq}{v:Sv}(e:(vE call o T0 H).val=some (v,T',H')):H'=H:=by
 cases o<;>first|(cases hp;done)|exact(hg _ _ _ rfl).elim|skip
 case mv=>exact ph e
 case pk=>exact yR (a:=fun t=>vC _ t H) (b:=fun t=>vC _ t H) (fun _ e=>ph e) (fun _ e=>ph e) e
 all_goals
  simp only[vE]at e
  first
   |unfold DL at e
   |unfold DM at e
   |unfold Nd at e
   |unfold sUn at e
   |unfold nU at e
   |unfold yC at e
   |unfold Nf at e
   |unfold Ng at e
   |unfold yD at e
   |unfold uE at e
   |unfold rB at e
   |unfold dc at e
   |unfold DN at e
   |unfold CA at e
  repeat' split at e
  all_goals first
   |(cases e;done)
   |exact ki e
   |exact ph e
   |exact ki (Lf.T.dj e).2
   |(obtain⟨_,_,e2⟩:=Lf.T.dQ e;exact ki e2)
   |(obtain⟨_,e⟩:=eO e;first|exact ki e|exact ph e|exact ki (Lf.T.dj e).2)
   |skip
omit C in
theorem JB{o:j5}(hp:mO o=true){T0 T':Tq}{H H':Hq}{v:Sv}(e:(QX call o T0 H).val=some (v,T',H')):H'=H:=by
 cases o with
 |gd j w f=>
  have hf:mO f=true/\(∀ j w g,f≠ .gd j w g)/\ ∀ g,f≠ .mn g:=by
   cases f<;>first|(cases hp;done)|exact⟨hp,fun _ _ _=>(by intro h;cases h),fun _=>(by intro h;cases h)⟩
  have e':(Tc j w (vE call f) T0 H).val=some (v,T',H'):=by
   cases f<;>first|exact e|exact(hf.2.2 _ rfl).elim
  unfold Tc at e'
  split at e'
  ·exact ki e'
  ·cases w with
   |true=>exact yR (a:=fun t=>vE call f t H) (b:=fun t=>okV pd t H) (fun _ e=>yS hf.1 hf.2.1 e) (fun _ e=>ki e) e'
   |false=>exact yR (a:=fun t=>okV pd t H) (b:=fun t=>vE call f t H) (fun _ e=>ki e) (fun _ e=>yS hf.1 hf.2.1 e) e'
 |mn f=>cases hp
 | _=>first|(cases hp;done)|exact yS (call:=call) (T0:=T0) hp (fun _ _ _ h=>by cases h) e
omit C in
theorem NU{r:wM}(hp:vG r=true): ∀ {T0 T':Tq} {H H':Hq},(vF call r T0 H).val=some (T',H')->H'=H:=by
 induction r with
 |fi=>intro T0 T' H H' e;cases e;rfl
 |st i f k ih=>
  intro T0 T' H H' e
  have hp:(bif mO f then vG k else false)=true:=hp
  cases hf:mO f with
  |false=>rw[hf]at hp;cases hp
  |true=>
   rw[hf]at hp
   change (bif Nat.blt i 512 then(QX call f T0 H).bd fun p=>vF call k (p.2.1.put i (some p.1)) p.2.2 else .bad).val=some (T',H')at e
   obtain⟨_,e⟩:=eO e
   obtain⟨⟨v,T1,H1⟩,e1,e2⟩:=Lf.T.dQ e
   rw[ih hp e2]
   exact JB hf e1
 |sn f k ih=>
  intro T0 T' H H' e
  have hp:(bif mO f then vG k else false)=true:=hp
  cases hf:mO f with
  |false=>rw[hf]at hp;cases hp
  |true=>
   rw[hf]at hp
   change ((QX call f T0 H).bd fun p=>vF call k p.2.1 p.2.2).val=some (T',H')at e
   obtain⟨⟨v,T1,H1⟩,e1,e2⟩:=Lf.T.dQ e
   rw[ih hp e2]
   exact JB hf e1
 |ck s f k ih=>
  intro T0 T' H H' e
  have XN: ∀ {sz:Nat} {g:Bool} {a:Od},(As s sz g a T0 H (vF call k T0 H)).val=some (T',H')->H'=H:=by
   intro sz g a e
   unfold As at e
   split at e
   ·split at e
    ·split at e
     ·split at e
      ·obtain⟨_,e⟩:=pe e
       exact ih hp e
      ·cases e
     ·cases e
    ·cases e
   ·cases e
  have XO:(wQ s T0 (vF call k T0 H)).val=some (T',H')->H'=H:=by
   intro e
   unfold wQ at e
   split at e
   ·exact ih hp e
   ·cases e
  cases f with
  |ld sz g a=>exact XN e
  |slN sz a lo hi=>
   change (I3 s sz a lo hi T0 H (vF call k T0 H)).val=some (T',H')at e
   unfold I3 at e
   obtain⟨⟨v,T1,H1⟩,e1,e2⟩:=Lf.T.dQ e
   split at e2
   ·split at e2
    ·obtain⟨_,e2⟩:=pe e2
     exact ih hp e2
    ·cases e2
   ·cases e2
  |gd j w f=>
   cases f with
   |ld sz g a=>
    change (match jG j T0 with
     |some (.b c)=>bif (bif w then c else !c)then As s sz g a T0 H (vF call k T0 H)else wQ s T0 (vF call k T0 H)
     |some (.tu [])=>wQ s T0 (vF call k T0 H)
     | _=>.bad:Lf.T (Tq×Hq)).val=some (T',H')at e
    split at e
    ·rename_i c hj
     cases hc:(bif w then c else !c)with
     |true=>rw[hc]at e;exact XN e
     |false=>rw[hc]at e;exact XO e
    ·exact XO e
    ·cases e
   | _=>cases e
  | _=>cases e
omit C in
theorem Gc{c:cY}{r:wM}: ∀ {t t':Tm} {h h':Hp},fB (fun i=>Nat.blt i 512) (vH r)=true->GF c r t h=.ok t' h'-> ∀ i,i<512->i∉vH r->t'.at i=t.at i:=by
 induction r with
 |fi=>intro t t' h h' _ e i _ _;cases e;rfl
 |st j f k ih=>
  intro t t' h h' hb e i hi hn
  have hb:(bif Nat.blt j 512 then fB (fun i=>Nat.blt i 512) (vH k)else false)=true:=hb
  cases hj:Nat.blt j 512 with
  |false=>rw[hj]at hb;cases hb
  |true=>
   rw[hj]at hb
   have Tn:i∉j::vH k:=hn
   change (Go.Ab.Ro.rec Go.Ab.Rt.bad (fun v h=>GF c k (sT j v t) h) (Cu c f t h):Go.Ab.Rt)=.ok t' h' at e
   cases ha:Cu c f t h with
   |bad=>rw[ha]at e;cases e
   |ok v h1=>
    rw[ha]at e
    rw[ih hb e i hi fun q=>Tn (List.mem_cons_of_mem _ q)]
    show(t.put j (some v)).at i=_
    rw[Tm.iM _ _ _ _ (ct.1 hj) hi,if_neg fun q=>Tn (by rw[q];exact List.mem_cons_self)]
 |sn f k ih=>
  intro t t' h h' hb e i hi hn
  change (Go.Ab.Ro.rec Go.Ab.Rt.bad (fun v h=>GF c k t h) (Cu c f t h):Go.Ab.Rt)=.ok t' h' at e
  cases ha:Cu c f t h with
  |bad=>rw[ha]at e;cases e
  |ok v h1=>rw[ha]at e;exact ih hb e i hi hn
 |ck s f k ih=>
  intro t t' h h' hb e i hi hn
  change (Go.Ab.Ro.rec Go.Ab.Rt.bad (fun v _=>Option.rec Go.Ab.Rt.bad (fun u=>Bool.rec Go.Ab.Rt.bad (GF c k t h) (mf u v)) (cf s t)) (Cu c f t h):Go.Ab.Rt)=.ok t' h' at e
  cases ha:Cu c f t h with
  |bad=>rw[ha]at e;cases e
  |ok v h1=>
   rw[ha]at e
   cases hs:cf s t with
   |none=>rw[hs]at e;cases e
   |some u=>
    rw[hs]at e
    simp only at e
    cases hq:mf u v with
    |false=>rw[hq]at e;cases e
    |true=>rw[hq]at e;exact ih hb e i hi hn
omit C in
theorem yU{E:En}{N:Nat}{c:Bool}{v w u:Sv}{a:AV}(e:mgV c v w=some u)(hv:V E N (bif c then v else w) a):V E N u a:=by
 have IC:(match toN v,toN w with
  |some (k,x),some (k',y)=>bif ka k k' then some (Sv.c 0 (.int k) (bif c then x else y))else none
  | _,_=>match toB v,toB w with
   |some x,some y=>some (.c 0 .bool (bif c then x.v else y.v))
   | _,_=>none)=some u->V E N u a:=by
  intro e
  split at e
  ·rename_i k x k' y h1 h2
   obtain⟨hk,e⟩:=cD e
   cases e
   have:=eY.1 hk;subst this
   cases c with
   |true=>rw[gP hv h1];exact fI
   |false=>rw[gP hv h2];exact fI
  ·split at e
   ·rename_i x y h1 h2
    cases e
    cases c with
    |true=>rw[gO hv h1];exact lr
    |false=>rw[gO hv h2];exact lr
   ·cases e
 unfold mgV at e
 split at e
 ·rename_i x y
  cases x<;>cases y<;>cases c<;>cases e<;>cases hv<;>first|exact .b|exact lr
 ·obtain⟨h,e⟩:=cD e
  cases e
  have:=uB _ _ h;subst this
  cases c<;>exact hv
 ·obtain⟨h,e⟩:=cD e
  cases e
  rw[Bool.and_eq_true]at h
  have h1:=beq_true h.1;have h2:=beq_true h.2
  subst h1;subst h2
  cases c<;>exact hv
 ·obtain⟨h,e⟩:=cD e
  cases e
  rw[Bool.and_eq_true]at h
  have h1:=beq_true h.1;have h2:=beq_true h.2
  subst h1;subst h2
  cases c<;>exact hv
 ·split at e
  ·rename_i p _
   cases p
   cases e
   cases c with
   |true=>cases hv with
    |c k _=>exact .c k fun h=>(h rfl).elim
   |false=>cases hv with
    |c k _=>exact .c k fun h=>(h rfl).elim
  ·cases e
 ·rename_i k x k' y
  have h:=(cD e).1
  replace e:=(cD e).2
  have:=eY.1 h;subst this
  cases hb:eqI x y with
  |true=>
   rw[hb]at e;cases e
   have:=gx.1 hb;subst this
   cases c<;>exact hv
  |false=>
   rw[hb]at e;cases e
   cases c<;>cases hv<;>exact fI
 ·exact IC e
omit C in
theorem JC{E:En}{N:Nat}{c:Bool}{a b T0:Tq}{t':Tm}(ht:TV E N (bif c then a else b) t'): ∀ {wB:List Nat},fB (fun i=>Nat.blt i 512) wB=true->(∀ i v,i<512->i∉wB->T0.at i=some v-> ∃ x,t'.at i=some x/\V E N v x)->TV E N (Wg wB c T0 a b) t'
 | [],_,h0=>fun i v hi hv=>h0 i v hi (by simp) hv
 |j::wB,hb,h0=>by
  have hb:(bif Nat.blt j 512 then fB (fun i=>Nat.blt i 512) wB else false)=true:=hb
  cases hj:Nat.blt j 512 with
  |false=>rw[hj]at hb;cases hb
  |true=>
   rw[hj]at hb
   have key: ∀ i v,i<512->i≠j->(Wg wB c T0 a b).at i=some v-> ∃ x,t'.at i=some x/\V E N v x:=by
    intro i v hi mW hv
    have gen: ∀ {l:List Nat},fB (fun i=>Nat.blt i 512) l=true->(∀ q,q∈l->q∈wB)->(Wg l c T0 a b).at i=some v->(i∈l/\Wf c (a.at i) (b.at i)=some v)∨(i∉l/\T0.at i=some v):=by
     intro l
     induction l with
     |nil=>intro _ _ e;exact .inr ⟨by simp,e⟩
     |cons q l ih=>
      intro hl hs e
      have hl:(bif Nat.blt q 512 then fB (fun i=>Nat.blt i 512) l else false)=true:=hl
      cases hq:Nat.blt q 512 with
      |false=>rw[hq]at hl;cases hl
      |true=>
       rw[hq]at hl
       change ((Wg l c T0 a b).put q (Wf c (a.at q) (b.at q))).at i=some v at e
       rw[Tq.iM _ _ _ _ (ct.1 hq) hi]at e
       split at e
       ·rename_i e';subst e';exact .inl ⟨List.mem_cons_self,e⟩
       ·rename_i ne
        rcases ih hl (fun q hq=>hs q (List.mem_cons_of_mem _ hq)) e with⟨k1,k2⟩|⟨k1,k2⟩
        ·exact .inl ⟨List.mem_cons_of_mem _ k1,k2⟩
        ·exact .inr ⟨fun h=>(List.mem_cons.1 h).elim ne k1,k2⟩
    rcases gen hb (fun _ h=>h) hv with⟨_,k⟩|⟨k1,k2⟩
    ·unfold Wf at k
     split at k
     ·split at k
      ·rename_i _ v1 h1 _ v2 h2
       cases c with
       |true=>
        obtain⟨x,x1,x2⟩:=ht i v1 hi h1
        exact⟨x,x1,yU k x2⟩
       |false=>
        obtain⟨x,x1,x2⟩:=ht i v2 hi h2
        exact⟨x,x1,yU k x2⟩
      ·cases k
     ·cases k
    ·exact h0 i v hi (fun h=>(List.mem_cons.1 h).elim mW k1) k2
   intro i v hi hv
   change ((Wg wB c T0 a b).put j (Wf c (a.at j) (b.at j))).at i=some v at hv
   rw[Tq.iM _ _ _ _ (ct.1 hj) hi]at hv
   split at hv
   ·rename_i e;subst e
    unfold Wf at hv
    split at hv
    ·split at hv
     ·rename_i _ v1 h1 _ v2 h2
      cases c with
      |true=>
       obtain⟨x,x1,x2⟩:=ht i v1 hi h1
       exact⟨x,x1,yU hv x2⟩
      |false=>
       obtain⟨x,x1,x2⟩:=ht i v2 hi h2
       exact⟨x,x1,yU hv x2⟩
     ·cases hv
    ·cases hv
   ·rename_i ne;exact key i v hi ne hv
omit C in
theorem LB.Tw(c:Bool)(x y:LB):(LB.cond c x y).v=bif c then x.v else y.v:=by
 cases x with
 |l x=>cases x<;>cases y with
  |l y=>cases y<;>cases c<;>rfl
  |t y=>rfl
 |t x=>cases y<;>rfl
omit C in
theorem Tx{wB:List Nat}(hb:fB (fun i=>Nat.blt i 512) wB=true){T0:Tq}{x:T (Tq×Hq)}(h:(QY wB T0 x).1.v=true): ∃ p,x.val=some p/\ ∀ (E:En) (N:Nat) (t':Tm),TV E N p.1 t'->(∀ i v,i<512->i∉wB->T0.at i=some v-> ∃ a,t'.at i=some a/\V E N v a)->TV E N (QY wB T0 x).2 t':=by
 induction x with
 |bad=>cases h
 |ok p=>exact⟨p,rfl,fun E N t' h1 _=>h1⟩
 |br c a b qv uT=>
  have h':(bif c then(QY wB T0 a).1.v else(QY wB T0 b).1.v)=true:=by
   have h1:(LB.cond c (QY wB T0 a).1 (QY wB T0 b).1).v=true:=h
   rwa [LB.Tw]at h1
  cases c with
  |true=>
   obtain⟨p,p1,p2⟩:=qv h'
   exact⟨p,p1,fun E N t' h1 h2=>JC (c:=true) (p2 E N t' h1 h2) hb h2⟩
  |false=>
   obtain⟨p,p1,p2⟩:=uT h'
   exact⟨p,p1,fun E N t' h1 h2=>JC (c:=false) (p2 E N t' h1 h2) hb h2⟩
 |ck c a ih=>
  have h1:(LB.and (.t c) (QY wB T0 a).1).v=true:=h
  rw[LB.Jg,Bool.and_eq_true]at h1
  obtain⟨p,p1,p2⟩:=ih h1.2
  have hc:c=true:=h1.1
  subst hc
  exact⟨p,p1,p2⟩
theorem NV(r:wM):XM (Nj call r) (fun n d=>GF (aR n d) r):=by
 intro E T0 t H h T' H' hT hH e
 unfold Nj at e
 cases hp:(vG r&&fB (fun i=>Nat.blt i 512) (vH r))with
 |false=>rw[hp]at e;exact JA C r E T0 t H h T' H' hT hH e
 |true=>
  rw[hp]at e
  rw[Bool.and_eq_true]at hp
  simp only[cond_true]at e
  obtain⟨h1,e⟩:=pe e
  cases e
  obtain⟨⟨T1,H1⟩,p1,p2⟩:=Tx hp.2 h1
  have XP:H1=H:=NU hp.1 p1
  subst XP
  obtain⟨t',h',E',k,X,S,LJ⟩:=JA C r E T0 t H1 h T1 H1 hT hH p1
  refine⟨t',h',E',k,X,S,p2 E' H1.next t' LJ fun i v hi hn hv=>?_⟩
  obtain⟨a,ha,vM⟩:=hT i v hi hv
  obtain⟨M,k⟩:=k
  have k':=k M M (Nat.le_refl _) (Nat.le_refl _)
  dsimp only at k'
  exact⟨a,by rw[Gc hp.2 k' i hi hn];exact ha,vM.mono X.e X.le⟩
structure Ox(E E':En)(H H':Hq)(h h':Hp):Prop where
 A:E'.A=E.A
 G:Nk E.G E'.G
 yH:h.next<=h'.next
 ow: ∀ r id,own H' r->jN (E'.K r).av=some id->(∃ r0,own H r0/\jN (E.K r0).av=some id)∨h.next<=id
 gw: ∀ id row,E'.G id=some row->E.G id=some row∨(∃ r0,own H r0/\jN (E.K r0).av=some id)∨h.next<=id
 fr: ∀ id,id<h.next->(∀ r,own H r->jN (E.K r).av≠some id)->h'.aU.get id=h.aU.get id
omit C in
theorem Nx.ox{E E':En}{H H':Hq}{h h':Hp}(X:Nx E E' H H' h h'):Ox E E' H H' h h':=⟨X.e.A,X.e.G,X.yH,X.ow,X.gw,X.fr⟩
omit C in
theorem Ox.trans{E E1 E2:En}{H H1 H2:Hq}{h h1 h2:Hp}(a:Ox E E1 H H1 h h1)(b:Ox E1 E2 H1 H2 h1 h2):Ox E E2 H H2 h h2 where
 A:=b.A.trans a.A
 G id row e:=b.G id row (a.G id row e)
 yH:=Nat.le_trans a.yH b.yH
 ow r id k e:=by
  rcases b.ow r id k e with⟨r0,k0,e0⟩|k0
  ·exact a.ow r0 id k0 e0
  ·exact .inr (Nat.le_trans a.yH k0)
 gw id row e:=by
  rcases b.gw id row e with k|⟨r0,k0,e0⟩|k
  ·exact a.gw id row k
  ·rcases a.ow r0 id k0 e0 with k|k
   ·exact .inr (.inl k)
   ·exact .inr (.inr k)
  ·exact .inr (.inr (Nat.le_trans a.yH k))
 fr id hi hn:=by
  rw[b.fr id (Nat.lt_of_lt_of_le hi a.yH) fun r k e=>?_,a.fr id hi hn]
  rcases a.ow r id k e with⟨r0,k0,e0⟩|k0
  ·exact hn r0 k0 e0
  ·omega
structure Rx where
 X:En->En->Hq->Hq->Hp->Hp->Prop
 of: ∀ {E E':En} {H H':Hq} {h h':Hp},Nx E E' H H' h h'->X E E' H H' h h'
 tr: ∀ {E E1 E2:En} {H H1 H2:Hq} {h h1 h2:Hp},X E E1 H H1 h h1->X E1 E2 H1 H2 h1 h2->X E E2 H H2 h h2
def Rx.s:Rx:=⟨Nx,fun X=>X,Nx.trans⟩
def Rx.w:Rx:=⟨Ox,Nx.ox,Ox.trans⟩
def Tz(R:Rx)(E:En)(H:Hq)(h:Hp):Oc->Go.Ab.Rc->Prop
 | .norm T' H',.norm t' h'=> ∃ E',R.X E E' H H' h h'/\SR E' H' h'/\TV E' H'.next T' t'
 | .ret T' H',.ret t' h'=> ∃ E',R.X E E' H H' h h'/\SR E' H' h'/\TV E' H'.next T' t'
 | .exit i T' H',.exit j t' h'=>i=j/\ ∃ E',R.X E E' H H' h h'/\SR E' H' h'/\TV E' H'.next T' t'
 | _,_=>False
def kj(R:Rx)(f:i7)(g:Nat->Nat->wy):Prop:= ∀ (E:En) (T:Tq) (t:Tm) (H:Hq) (h:Hp) (o:Oc),TV E H.next T t->SR E H h->(f T H).val=some o->
 ∃ r,Ev (fun n d=>g n d t h) r/\Tz R E H h o r
omit C in
theorem Tz.norm{R:Rx}{E:En}{H:Hq}{h:Hp}{T':Tq}{H':Hq}{r:Go.Ab.Rc}(k:Tz R E H h (.norm T' H') r): ∃ t' h' E',r=.norm t' h'/\R.X E E' H H' h h'/\SR E' H' h'/\TV E' H'.next T' t':=by
 cases r with
 |norm t' h'=>obtain⟨E',a,b,c⟩:=k;exact⟨t',h',E',rfl,a,b,c⟩
 | _=>exact k.elim
omit C in
theorem Tz.trans{R:Rx}{E E1:En}{H H1:Hq}{h h1:Hp}(X:R.X E E1 H H1 h h1){o:Oc}{r:Go.Ab.Rc}(k:Tz R E1 H1 h1 o r):Tz R E H h o r:=by
 cases o<;>cases r<;>first|exact k.elim|skip
 ·obtain⟨E',a,b,c⟩:=k;exact⟨E',R.tr X a,b,c⟩
 ·obtain⟨E',a,b,c⟩:=k;exact⟨E',R.tr X a,b,c⟩
 ·obtain⟨e,E',a,b,c⟩:=k;exact⟨e,E',R.tr X a,b,c⟩
def qK(R:Rx)(aR:bb)(L:Nat->Option i7):ou->Prop
 | .sq a b=>qK R aR L a/\qK R aR L b
 | .Wc _ a b=>qK R aR L a/\qK R aR L b
 | .bl id b=>(match L id with|some f=>kj R f (fun n d=>kM (aR n d) n (.bl id b))|none=>True)/\qK R aR L b
 | .lp b=>qK R aR L b
 | _=>True
omit C in
theorem bU{R:Rx}{aR:bb}(c:ou):qK R aR (fun _=>none) c:=by
 induction c with
 |sq a b qv uT=>exact⟨qv,uT⟩
 |Wc o a b qv uT=>exact⟨qv,uT⟩
 |bl id b ih=>exact⟨trivial,ih⟩
 |lp b ih=>exact ih
 | _=>trivial
def Ev3{α:Type}(p:Nat->Nat->Nat->α)(r:α):Prop:= ∃ M,∀ n d j,M<=n->M<=d->M<=j->p n d j=r
omit C in
theorem Ev3.diag{α:Type}{p:Nat->Nat->Nat->α}{r:α}(h:Ev3 p r):Ev (fun n d=>p n d n) r:=by
 obtain⟨M,h⟩:=h
 exact⟨M,fun n d a b=>h n d n a b a⟩
def NW(j:Nat)(b:wy):wy:=Nat.rec (fun _ _=>.bad) (fun _ ih t h=>Rc.rec Rc.bad (fun t h=>ih t h) (fun t h=>Rc.ret t h) (fun i t h=>Rc.exit i t h) (b t h)) j
omit C in
theorem JD{R:Rx}{b:i7}{g:Nat->Nat->wy}(hb:kj R b g): ∀ (m:Nat) (E:En) (T:Tq) (t:Tm) (H:Hq) (h:Hp) (o:Oc),TV E H.next T t->SR E H h->
 ((Nat.rec (motive:=fun _=>i7) (fun _ _=>.bad) (fun _ ih t h=>FW (b t h) ih) m:i7) T H).val=some o-> ∃ r,Ev3 (fun n d j=>NW j (g n d) t h) r/\Tz R E H h o r
 |0,_,_,_,_,_,_,_,_,e=>by cases e
 |m+1,E,T,t,H,h,o,hT,hH,e=>by
  change (FW (b T H) (Nat.rec (motive:=fun _=>i7) (fun _ _=>.bad) (fun _ ih t h=>FW (b t h) ih) m)).val=some o at e
  obtain⟨o1,e1,e2⟩:=Lf.T.dQ e
  obtain⟨r1,⟨M1,k1⟩,q1⟩:=hb E T t H h o1 hT hH e1
  cases o1 with
  |norm T1 H1=>
   obtain⟨t1,h1,E1,rfl,X,S1,qO⟩:=q1.norm
   obtain⟨r,⟨M2,k2⟩,q2⟩:=JD hb m E1 T1 t1 H1 h1 o qO S1 e2
   refine⟨r,⟨max M1 M2+1,fun n d j a b c=>?_⟩,q2.trans X⟩
   obtain⟨j',rfl⟩: ∃ j',j=j'+1:=⟨j - 1,by omega⟩
   show(Rc.rec Rc.bad (fun t h=>NW j' (g n d) t h) (fun t h=>Rc.ret t h) (fun i t h=>Rc.exit i t h) (g n d t h):Go.Ab.Rc)=r
   have xB:=k1 n d (by omega) (by omega)
   dsimp only at xB
   rw[xB]
   exact k2 n d j' (by omega) (by omega) (by omega)
  |ret T1 H1=>
   cases e2
   refine⟨r1,⟨M1+1,fun n d j a b c=>?_⟩,q1⟩
   obtain⟨j',rfl⟩: ∃ j',j=j'+1:=⟨j - 1,by omega⟩
   show(Rc.rec Rc.bad (fun t h=>NW j' (g n d) t h) (fun t h=>Rc.ret t h) (fun i t h=>Rc.exit i t h) (g n d t h):Go.Ab.Rc)=r1
   have xB:=k1 n d (by omega) (by omega)
   dsimp only at xB
   rw[xB]
   cases r1<;>first|rfl|exact q1.elim
  |exit i T1 H1=>
   cases e2
   refine⟨r1,⟨M1+1,fun n d j a b c=>?_⟩,q1⟩
   obtain⟨j',rfl⟩: ∃ j',j=j'+1:=⟨j - 1,by omega⟩
   show(Rc.rec Rc.bad (fun t h=>NW j' (g n d) t h) (fun t h=>Rc.ret t h) (fun i t h=>Rc.exit i t h) (g n d t h):Go.Ab.Rc)=r1
   have xB:=k1 n d (by omega) (by omega)
   dsimp only at xB
   rw[xB]
   cases r1<;>first|rfl|exact q1.elim
theorem CQ{R:Rx}(m:Nat){L:Nat->Option i7}(c:ou)(hL:qK R aR L c):kj R (QZ L call m c) (fun n d=>kM (aR n d) n c):=by
 induction c with
 |rg r=>
  intro E T t H h o hT hH e
  have e':((Nj call r T H).bd fun p=>Lf.T.ok (Oc.norm p.1 p.2)).val=some o:=e
  obtain⟨⟨T1,H1⟩,e1,e2⟩:=Lf.T.dQ e'
  cases e2
  obtain⟨t',h',E',k,X,S,LJ⟩:=NV C r E T t H h T1 H1 hT hH e1
  refine⟨.norm t' h',k.qJ fun n d q=>?_,E',R.of X,S,LJ⟩
  show(Rt.rec Rc.bad (fun t h=>Rc.norm t h) (GF (aR n d) r t h):Go.Ab.Rc)=_
  try dsimp only at q
  rw[q]
 |sk=>intro E T t H h o hT hH e;cases e;exact⟨.norm t h,Ev.const rfl,E,R.of (Nx.refl _ _ _),hH,hT⟩
 |sq a b qv uT=>
  intro E T t H h o hT hH e
  have e':(FW (QZ L call m a T H) (QZ L call m b)).val=some o:=e
  obtain⟨o1,e1,e2⟩:=Lf.T.dQ e'
  obtain⟨r1,k1,q1⟩:=qv hL.1 E T t H h o1 hT hH e1
  cases o1 with
  |norm T1 H1=>
   obtain⟨t1,h1,E1,rfl,X,S1,qO⟩:=q1.norm
   obtain⟨r,k2,q2⟩:=uT hL.2 E1 T1 t1 H1 h1 o qO S1 e2
   refine⟨r,k1.Tv k2 fun n d p1 p2=>?_,q2.trans X⟩
   show(Rc.rec Rc.bad (fun t h=>kM (aR n d) n b t h) (fun t h=>Rc.ret t h) (fun i t h=>Rc.exit i t h) (kM (aR n d) n a t h):Go.Ab.Rc)=r
   try dsimp only at p1
   rw[p1];exact p2
  |ret T1 H1=>
   cases e2
   refine⟨r1,k1.qJ fun n d p1=>?_,q1⟩
   show(Rc.rec Rc.bad (fun t h=>kM (aR n d) n b t h) (fun t h=>Rc.ret t h) (fun i t h=>Rc.exit i t h) (kM (aR n d) n a t h):Go.Ab.Rc)=r1
   try dsimp only at p1
   rw[p1];cases r1<;>first|rfl|exact q1.elim
  |exit i T1 H1=>
   cases e2
   refine⟨r1,k1.qJ fun n d p1=>?_,q1⟩
   show(Rc.rec Rc.bad (fun t h=>kM (aR n d) n b t h) (fun t h=>Rc.ret t h) (fun i t h=>Rc.exit i t h) (kM (aR n d) n a t h):Go.Ab.Rc)=r1
   try dsimp only at p1
   rw[p1];cases r1<;>first|rfl|exact q1.elim
 |Wc c a b qv uT=>
  intro E T t H h o hT hH e
  obtain⟨x,T1,hx,qO,h1,h2⟩:=sZ (a:=fun t=>QZ L call m a t H) (b:=fun t=>QZ L call m b t H) hT e
  have hc: ∀ n d,kM (aR n d) n (.Wc c a b) t h=Bool.rec (kM (aR n d) n b t h) (kM (aR n d) n a t h) x:=fun n d=>by
   show aI (cf c) (kM (aR n d) n a) (kM (aR n d) n b) t h=_
   unfold aI;rw[hx]
  cases x with
  |true=>
   obtain⟨r,k,q⟩:=qv hL.1 E T1 t H h o qO hH (h1 rfl)
   exact⟨r,k.qJ fun n d p=>(hc n d).trans p,q⟩
  |false=>
   obtain⟨r,k,q⟩:=uT hL.2 E T1 t H h o qO hH (h2 rfl)
   exact⟨r,k.qJ fun n d p=>(hc n d).trans p,q⟩
 |bl id b ih=>
  intro E T t H h o hT hH e
  change (match L id with|some f=>f T H|none=>blO id (QZ L call m b T H)).val=some o at e
  have hl:=hL.1
  cases hf:L id with
  |some f=>rw[hf]at e hl;exact hl E T t H h o hT hH e
  |none=>
   rw[hf]at e
   obtain⟨o1,e1,e2⟩:=Lf.T.dQ e
   obtain⟨r1,k1,q1⟩:=ih hL.2 E T t H h o1 hT hH e1
   cases o1 with
   |norm T1 H1=>
    cases e2
    refine⟨r1,k1.qJ fun n d p1=>?_,q1⟩
    show(Rc.rec Rc.bad (fun t h=>Rc.norm t h) (fun t h=>Rc.ret t h) (fun i t h=>Bool.rec (Rc.exit i t h) (Rc.norm t h) (Nat.beq i id)) (kM (aR n d) n b t h):Go.Ab.Rc)=r1
    try dsimp only at p1
    rw[p1];cases r1<;>first|rfl|exact q1.elim
   |ret T1 H1=>
    cases e2
    refine⟨r1,k1.qJ fun n d p1=>?_,q1⟩
    show(Rc.rec Rc.bad (fun t h=>Rc.norm t h) (fun t h=>Rc.ret t h) (fun i t h=>Bool.rec (Rc.exit i t h) (Rc.norm t h) (Nat.beq i id)) (kM (aR n d) n b t h):Go.Ab.Rc)=r1
    try dsimp only at p1
    rw[p1];cases r1<;>first|rfl|exact q1.elim
   |exit i T1 H1=>
    cases r1 with
    |exit j t1 h1=>
     obtain⟨rfl,E',X,S,LJ⟩:=q1
     cases hi:Nat.beq i id with
     |true=>
      have e2:(Lf.T.ok (bif Nat.beq i id then Oc.norm T1 H1 else Oc.exit i T1 H1)).val=some o:=e2
      rw[hi]at e2
      cases e2
      refine⟨.norm t1 h1,k1.qJ fun n d p1=>?_,E',X,S,LJ⟩
      show(Rc.rec Rc.bad (fun t h=>Rc.norm t h) (fun t h=>Rc.ret t h) (fun i t h=>Bool.rec (Rc.exit i t h) (Rc.norm t h) (Nat.beq i id)) (kM (aR n d) n b t h):Go.Ab.Rc)=_
      try dsimp only at p1
      rw[p1];simp only[hi]
     |false=>
      have e2:(Lf.T.ok (bif Nat.beq i id then Oc.norm T1 H1 else Oc.exit i T1 H1)).val=some o:=e2
      rw[hi]at e2
      cases e2
      refine⟨.exit i t1 h1,k1.qJ fun n d p1=>?_,rfl,E',X,S,LJ⟩
      show(Rc.rec Rc.bad (fun t h=>Rc.norm t h) (fun t h=>Rc.ret t h) (fun i t h=>Bool.rec (Rc.exit i t h) (Rc.norm t h) (Nat.beq i id)) (kM (aR n d) n b t h):Go.Ab.Rc)=_
      try dsimp only at p1
      rw[p1];simp only[hi]
    | _=>exact q1.elim
 |lp b ih=>
  intro E T t H h o hT hH e
  obtain⟨r,k,q⟩:=JD (ih hL) m E T t H h o hT hH e
  exact⟨r,k.diag,q⟩
 |ex i=>intro E T t H h o hT hH e;cases e;exact⟨.exit i t h,Ev.const rfl,rfl,E,R.of (Nx.refl _ _ _),hH,hT⟩
 |rt=>intro E T t H h o hT hH e;cases e;exact⟨.ret t h,Ev.const rfl,E,R.of (Nx.refl _ _ _),hH,hT⟩
 |bad=>intro E T t H h o hT hH e;cases e
end
theorem NX{E:En}{T:Tq}{t:Tm}{H:Hq}{h:Hp}(hT:TV E H.next T t)(hH:SR E H h){r:Go.Ab.RV}{v:Sv}(e:Td T H r=some v): ∃ c,GV t h r=some c/\V E H.next v c:=by
 cases r with
 |tmp i=>obtain⟨hi,e⟩:=cD e;exact hT i v (ct.1 hi) e
 |cell i sz agg=>
  change (match(bif Nat.blt i 512 then T.at i else none)with|some p=>xw sz agg p H|none=>none)=some v at e
  split at e
  ·rename_i p hp
   obtain⟨hi,hp⟩:=cD hp
   obtain⟨a,ha,vM⟩:=hT i p (ct.1 hi) hp
   obtain⟨c,c1,c2⟩:=vL hH vM e
   refine⟨c,?_,c2⟩
   show(match t.at i with|some a=>uV h sz agg a|none=>none)=_
   rw[ha];exact c1
  ·cases e
theorem vN{E:En}{T:Tq}{t:Tm}{H:Hq}{h:Hp}(hT:TV E H.next T t)(hH:SR E H h): ∀ {l:List Go.Ab.RV} {vs:List Sv},I4 T H l=some vs-> ∃ cs,w7 t h l=some cs/\Vs E H.next vs cs
 | [],_,e=>by cases e;exact⟨[],rfl,.nil⟩
 |r::l,vs,e=>by
  change (match Td T H r with|some v=>(match I4 T H l with|some vs=>some (v::vs)|none=>none)|none=>none)=some vs at e
  split at e
  ·rename_i v hv
   split at e
   ·rename_i us hu
    cases e
    obtain⟨c,hc,fL⟩:=NX hT hH hv
    obtain⟨cs,gu,Te⟩:=vN hT hH hu
    refine⟨c::cs,?_,.cons fL Te⟩
    show(match GV t h r with|some v=>(match w7 t h l with|some vs=>some (v::vs)|none=>none)|none=>none)=_
    rw[hc,gu]
   ·cases e
  ·cases e
theorem NY{E:En}{T:Tq}{t:Tm}{H H':Hq}{h:Hp}(hT:TV E H.next T t)(hH:SR E H h){l:List Go.Ab.RV}{v:Sv}(e:(I5 l T H).val=some (v,H')):H'=H/\ ∃ c,fin l t h=.ok c h/\V E H.next v c:=by
 unfold I5 at e
 split at e
 ·rename_i w hw
  cases e
  obtain⟨cs,hc,fL⟩:=vN hT hH hw
  cases fL with
  |cons a b=>cases b;exact⟨rfl,_,by unfold fin;rw[hc],a⟩
 ·rename_i vs hn hw
  cases e
  obtain⟨cs,hc,fL⟩:=vN hT hH hw
  refine⟨rfl,.qP cs,?_,.tu fL⟩
  unfold fin
  rw[hc]
  cases cs with
  |nil=>rfl
  |cons a cs=>
   cases cs with
   |nil=>
    cases fL with
    |cons x y=>cases y;exact(hn _ rfl).elim
   |cons _ _=>rfl
 ·cases e
theorem F8.vO{α:Type}(x:α)(j:Nat):(F8.all x).xR j=x:=by
 unfold F8.all F8.xR
 split<;>rfl
theorem D3(j:Nat):Tq.none.at j=none:=by
 unfold Tq.at Tq.none
 rw[F8.vO,F8.vO,F8.vO]
theorem ra{E:En}{N:Nat}{l:List Sv}: ∀ (as:List AV) (i:Nat) (T:Tq) (t:Tm),Vs E N l as->i+l.length<=512->TV E N T t->TV E N (CC l i T) (nJ as i t):=by
 induction l with
 |nil=>intro as i T t h _ hT;cases h;exact hT
 |cons v l ih=>
  intro as i T t h hi hT
  cases h with
  |cons hv h=>
   rename_i a as
   rw[List.length_cons]at hi
   exact ih as (i+1) _ _ h (by omega) (hT.put (by omega) hv)
def vP(b:Fb)(n:Nat)(c:cY):List AV->Hp->Go.Ab.Ro:=fun args h=>gD (Nat.ble (len args) b.ntmps) (match b.body c n (nJ args 0 Tm.none) h with
 | .norm t h=>fin b.res t h
 | .ret t h=>fin b.res t h
 | _=>.bad) .bad
def pj(aR:bb)(f:FuncId)(b:cQ):Prop:= ∀ n d args h c h',vP b.fb n (aR n d) args h=.ok c h'->aR n (d+1) f args h=.ok c h'
theorem AK{R:Rx}{call:fP}{aR:bb}(C:qI call aR){f:FuncId}{b:cQ}(hb:pj aR f b)(wL:b.ntmps<=512){L:Nat->Option i7}(hL:qK R aR L b.code){m:Nat}{E:En}{args:List Sv}{as:List AV}{H H':Hq}{h:Hp}{v:Sv}
 (hv:Vs E H.next args as)(hH:SR E H h)(e:(At L b m call args H).val=some (v,H')): ∃ c h' E',Ev (fun n d=>aR n d f as h) (.ok c h')/\R.X E E' H H' h h'/\SR E' H' h'/\V E' H'.next v c:=by
 unfold At at e
 obtain⟨hn,e⟩:=eO e
 have Tn:args.length<=b.ntmps:=by have:=Nat.le_of_ble_eq_true hn;rwa [cF]at this
 obtain⟨o,e1,e2⟩:=Lf.T.dQ e
 have hT0:TV E H.next (CC args 0 Tq.none) (nJ as 0 Tm.none):=ra _ _ _ _ hv (by omega) fun i w _ hw=>by rw[D3]at hw;cases hw
 obtain⟨r,k,q⟩:=CQ C (R:=R) m b.code hL E _ _ H h o hT0 hH e1
 have hlen:Nat.ble (len as) b.ntmps=true:=by rw[cF,<-hv.length,<-cF];exact hn
 have II: ∀ {T1:Tq} {H1:Hq} {t1:Tm} {h1:Hp} {E1:En},(r=.norm t1 h1∨r=.ret t1 h1)->R.X E E1 H H1 h h1->SR E1 H1 h1->TV E1 H1.next T1 t1->(I5 b.res T1 H1).val=some (v,H')-> ∃ c h' E',Ev (fun n d=>aR n d f as h) (.ok c h')/\R.X E E' H H' h h'/\SR E' H' h'/\V E' H'.next v c:=by
  intro T1 H1 t1 h1 E1 hr X S qO e
  obtain⟨hq,c,c1,c2⟩:=NY qO S e
  rw[hq]
  refine⟨c,h1,E1,?_,X,S,c2⟩
  obtain⟨M,k⟩:=k
  refine⟨M+1,fun n d a a'=>?_⟩
  obtain⟨d',rfl⟩: ∃ d',d=d'+1:=⟨d - 1,by omega⟩
  refine hb n d' as h c h1 ?_
  have k':=k n d' (by omega) (by omega)
  dsimp only at k'
  show gD (Nat.ble (len as) b.ntmps) (match kM (aR n d') n b.code (nJ as 0 Tm.none) h with
   | .norm t h=>fin b.res t h
   | .ret t h=>fin b.res t h
   | _=>.bad) .bad=_
  rw[hlen,k']
  rcases hr with hr|hr<;>rw[hr]<;>exact c1
 cases o with
 |norm T1 H1=>
  obtain⟨t1,h1,E1,hr,X,S,qO⟩:=q.norm
  exact II (.inl hr) X S qO e2
 |ret T1 H1=>
  cases r with
  |ret t1 h1=>obtain⟨E1,X,S,qO⟩:=q;exact II (.inr rfl) X S qO e2
  | _=>exact q.elim
 |exit _ _ _=>cases e2
end Lf
end Go.Ab
