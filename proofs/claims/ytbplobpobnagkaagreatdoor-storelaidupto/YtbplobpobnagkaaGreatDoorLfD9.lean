import Derived.Test.YtbplobpobnagkaaGreatDoorLfD6
noncomputable section
namespace Go.Ab
namespace Lf
theorem FP{v:Value}(h:dH (.sc v)=true):LV v v=true:=by
 have h':isNil (.sc v)=true:=h
 cases v<;>first|(cases h';done)|skip
 rename_i p n c
 cases p with
 |none=>show(Nat.beq n n&&Nat.beq c c)=true;rw[Nat.beq_refl,Nat.beq_refl];rfl
 |some _=>cases h'
theorem Dq(n:Int):eqI n n=true:=ga.2 rfl
theorem vo{a:AV}(h:dH a=true):mX a a=true:=by
 cases a<;>first|(cases h;done)|skip
 ·exact FP h
 ·rfl
 ·rfl
theorem Dr{l m:List AV}(h:jO l l=true)(k:jO m m=true):jO (l++m) (l++m)=true:=by
 induction l with
 |nil=>exact k
 |cons a l ih=>
  have h:(mX a a&&jO l l)=true:=h
  rw[Bool.and_eq_true]at h
  show(mX a a&&jO (l++m) (l++m))=true
  rw[h.1,ih h.2];rfl
theorem Ds{α:Type}{E:α->List AV->Prop}(hE: ∀ x cs,E x cs->jO cs cs=true): ∀ {x:List α} {ls:List AV},kG E x ls->jO ls ls=true
 | [],_,e=>by have e':_=[]:=e;subst e';rfl
 | _::_,_,⟨c,r,e,a,b⟩=>by subst e;exact Dr (hE _ _ a) (Ds hE b)
theorem Sw{G:Nat->Option Rw}{t:Ty}{E:den t->List AV->Prop}(hE: ∀ x cs,E x cs->jO cs cs=true){x:List (den t)}{a:AV}(k:Jm G t E x a):mX a a=true:=by
 rcases k with⟨k,_⟩|⟨ls,k1,k2|⟨id,base,row,k2,_,_⟩⟩
 ·exact vo k
 ·subst k2
  show(Nat.beq _ _&&jO ls ls)=true
  rw[Nat.beq_refl,Bool.true_and]
  exact Ds hE k1
 ·subst k2
  show(Nat.beq _ _&&Nat.beq _ _&&Nat.beq _ _&&Nat.beq _ _)=true
  simp
theorem xd{G:Nat->Option Rw}: ∀ (t:Ty) (x:den t) (cs:List AV),EV G t x cs->jO cs cs=true
 | .int k,x,_,e=>by
  have e':_=_:=e;subst e'
  show(jv k k&&eqI x x&&true)=true
  rw[yh,Dq];rfl
 | .bool,x,_,e=>by
  have e':_=_:=e;subst e'
  show(!(xor x x)&&true)=true
  cases x<;>rfl
 | .str,x,_,e=>by
  have e':_=_:=e;subst e'
  show(LV (.string x) (.string x)&&true)=true
  rw[Bool.and_true];show(x.data.toList == x.data.toList)=true;exact beq_self_eq_true _
 | .ae t,_,_,⟨a,e,k⟩=>by
  subst e
  show(mX a a&&true)=true
  rw[Sw (fun x cs=>xd t x cs) k];rfl
 | .pair a b,_,_,⟨c,d,e,k1,k2⟩=>by
  subst e
  exact Dr (xd a _ _ k1) (xd b _ _ k2)
theorem Dt{E:En}{N:Nat}{u v:Sv}{a b:AV}{c:LB}(hu:V E N u a)(hv:V E N v b)(e:Ht u v=some c)(hc:c.v=true):mX a b=true:=by
 have L6:(match toN u,toN v with
  |some (k,a),some (k',b)=>bif jv k k' then some (LB.t (decide (a=b)))else none
  | _,_=>match toB u,toB v with
   |some a,some b=>some (LB.t (!(xor a.v b.v)))
   | _,_=>none)=some c->mX a b=true:=by
  intro e
  split at e
  ·rename_i k m k' n h1 h2
   obtain⟨hk,e⟩:=bQ e
   cases e
   rw[iE hu h1,iE hv h2]
   have:m=n:=by simpa[LB.v]using hc
   subst this
   show(jv k k'&&eqI m m)=true
   rw[hk,Dq];rfl
  ·split at e
   ·rename_i x y h1 h2
    cases e
    rw[iD hu h1,iD hv h2]
    exact hc
   ·cases e
 unfold Ht at e
 split at e
 ·have e:=(bQ e).1;cases hu;cases hv;exact e
 ·cases hu;cases hv
  rename_i a b
  cases a<;>cases b<;>first|rfl|(cases e;done)
 ·have e:=(bQ e).1;cases hu;cases hv;exact e
 ·have e:=(bQ e).1
  rw[Bool.and_eq_true]at e
  have e1:=beq_true e.1;have e2:=beq_true e.2
  subst e1;subst e2
  cases hu with
  |rf _ h1=>cases hv with
   |rf _ h2=>
    rw[h1]at h2;cases h2
    show(Nat.beq _ _&&Nat.beq _ _)=true
    simp
 ·have e0:=(bQ e).1
  replace e:=(bQ e).2
  rw[Bool.and_eq_true,Bool.and_eq_true]at e0
  have e1:=beq_true e0.1;have e2:=beq_true e0.2.1;have e3:=beq_true e0.2.2
  subst e1;subst e2;subst e3
  cases e
  simp only[LB.v,decide_eq_true_eq]at hc
  subst hc
  cases hu with
  |re _ h1 _=>cases hv with
   |re _ h2 _=>
    rw[h1]at h2;cases h2
    show(Nat.beq _ _&&Nat.beq _ _)=true
    simp
 ·have e0:=(bQ e).1
  rw[Bool.and_eq_true]at e0
  have e1:=beq_true e0.1;have e2:=beq_true e0.2
  subst e1;subst e2
  cases hu with
  |os _ h1=>cases hv with
   |os _ h2=>
    rcases h1 with⟨h1,_⟩|⟨id,base,h1⟩
    ·exact vo h1
    ·rw[h1];show(Nat.beq _ _&&Nat.beq _ _&&Nat.beq _ _&&Nat.beq _ _)=true;simp
 ·have e0:=(bQ e).1
  replace e:=(bQ e).2
  rw[Bool.and_eq_true]at e0
  have e1:=beq_true e0.1;have e2:=beq_true e0.2
  subst e1;subst e2
  cases e
  simp only[LB.v,Bool.and_eq_true,decide_eq_true_eq]at hc
  obtain⟨c1,c2⟩:=hc
  subst c1;subst c2
  cases hu with
  |se _ h1 _ _=>cases hv with
   |se _ _ _ _=>exact vo h1
   |ss _ h2 _=>rw[h2]at h1;cases h1
  |ss _ h1 _=>cases hv with
   |se _ h2 _ _=>rw[h1]at h2;cases h2
   |ss _ h2 _=>
    rw[h1]at h2
    injection h2 with a1 a2 _ _
    subst a1;subst a2
    show(Nat.beq _ _&&Nat.beq _ _&&Nat.beq _ _&&Nat.beq _ _)=true;simp
 ·have e0:=(bQ e).1
  rw[Bool.and_eq_true,Bool.and_eq_true,Bool.and_eq_true]at e0
  have e1:=beq_true e0.1;have e2:=beq_true e0.2.1;have e3:=beq_true e0.2.2.1;have e4:=beq_true e0.2.2.2
  subst e1;subst e2;subst e3;subst e4
  cases hu with
  |xo _ h1=>cases hv with
   |xo _ h2=>rw[h1]at h2;cases h2;show(Nat.beq _ _&&Nat.beq _ _&&Nat.beq _ _&&Nat.beq _ _)=true;simp
 ·have e0:=(bQ e).1
  rw[Bool.and_eq_true]at e0
  have hp:=bH.1 e0.1
  have e1:=beq_true e0.2
  subst e1
  cases hu with
  |c k1 m1=>cases hv with
   |c k2 m2=>
    rw[(m1 (by omega)).2,<-(m2 (by omega)).2]
    have:=xd _ _ _ k2
    have this:(mX b b&&true)=true:=this
    rwa [Bool.and_true]at this
 ·exact L6 e
theorem Du{E:En}{N:Nat}: ∀ {l m:List Sv} {as bs:List AV} {c:LB},Vs E N l as->Vs E N m bs->Hu l m=some c->c.v=true->jO as bs=true
 | [],[],_,_,_,.nil,.nil,_,_=>rfl
 | [],_::_,_,_,_,_,_,e,_=>by cases e
 | _::_,[],_,_,_,_,_,e,_=>by cases e
 |u::l,v::m,a::as,b::bs,c,.cons hu hl,.cons hv hm,e,hc=>by
  unfold Hu at e
  split at e
  ·rename_i x hx
   split at e
   ·rename_i y hy
    cases e
    rw[LB.MF,Bool.and_eq_true]at hc
    show(mX a b&&jO as bs)=true
    rw[Dt hu hv hx hc.1,Du hl hm hy hc.2];rfl
   ·cases e
  ·cases e
theorem yl{E:En}{N:Nat}{u v:Sv}{a b:AV}{c:LB}(hu:V E N u a)(hv:V E N v b)(e:Dc u v=some c)(hc:c.v=true):mX a b=true:=by
 unfold Dc at e
 split at e
 ·cases hu with
  |ag h1=>cases hv with
   |ag h2=>exact Du h1 h2 e hc
 ·exact Dt hu hv e hc
theorem Ev.map{α β:Type}{p:Nat->Nat->α}{r:α}(h:Ev p r){q:Nat->Nat->β}{s:β}(k: ∃ M,∀ n d,M<=n->M<=d->p n d=r->q n d=s):Ev q s:=by
 obtain⟨M,h⟩:=h
 obtain⟨M',k⟩:=k
 exact⟨max M M',fun n d h1 h2=>k n d (by omega) (by omega) (h n d (by omega) (by omega))⟩
theorem Ev.sO{α β:Type}{p:Nat->Nat->α}{r:α}(h:Ev p r){q:Nat->Nat->β}{s:β}(k: ∀ n d,p n d=r->q n d=s):Ev q s:=h.map ⟨0,fun n d _ _=>k n d⟩
theorem Ev.XZ{α β γ:Type}{p:Nat->Nat->α}{r:α}(h:Ev p r){q:Nat->Nat->β}{s:β}(k:Ev q s){f:Nat->Nat->γ}{u:γ}(g: ∀ n d,p n d=r->q n d=s->f n d=u):Ev f u:=by
 obtain⟨M,h⟩:=h
 obtain⟨M',k⟩:=k
 exact⟨max M M',fun n d h1 h2=>g n d (h n d (by omega) (by omega)) (k n d (by omega) (by omega))⟩
theorem FQ{f:fh}{g:OpN}(s:eS f g):eS f (fun n d=>mn (g n d)):=by
 intro E T t H h v T' H' hT hH e
 obtain⟨c,h',E',k,X,S,w,Qc⟩:=s E T t H h v T' H' hT hH e
 refine⟨c,h',E',k.sO fun n d q=>?_,X,S,w,Qc⟩
 have hb:Nat.ble h.next h'.next=true:=by rw[Nat.ble_eq];exact X.Cj
 simp only[mn,q,hb]
theorem FR{f:fh}{g:OpN}(s:eS f g)(j:Od)(want:Bool):eS (XJ j want f) (fun n d=>gF (bB j) want (g n d)):=by
 intro E T t H h v T' H' hT hH e
 unfold XJ at e
 split at e
 ·rename_i hj
  obtain⟨rfl,rfl,rfl⟩:=aU e
  obtain⟨a,ha,yk⟩:=bz hT hj
  cases yk with
  |tu k=>cases k;exact⟨gQ,h,E,⟨0,fun n d _ _=>by unfold gF;simp only[ha]⟩,Nx.refl _ _ _,hH,.tu .nil,hT⟩
 ·obtain⟨c,T1,hc,tj,h1,h2⟩:=vi hT e
  have hg: ∀ n d,gF (bB j) want (g n d) t h=iu (iu want c (!c)) (g n d t h) (.ok gQ h):=fun n d=>by unfold gF;rw[hc]
  have yes:(bif want then c else !c)=true->(f T1 H).val=some (v,T',H')-> ∃ c h' E',Ev (fun n d=>gF (bB j) want (g n d) t h) (.ok c h')/\Nx E E' H H' h h'/\SR E' H' h'/\V E' H'.next v c/\TV E' H'.next T' t:=by
   intro hw e
   obtain⟨x,h',E',k,X,S,w,Qc⟩:=s E T1 t H h v T' H' tj hH e
   refine⟨x,h',E',k.sO fun n d q=>?_,X,S,w,Qc⟩
   rw[hg,q]
   cases want<;>cases c<;>first|rfl|cases hw
  have no:(bif want then c else !c)=false->(okV qK T1 H).val=some (v,T',H')-> ∃ c h' E',Ev (fun n d=>gF (bB j) want (g n d) t h) (.ok c h')/\Nx E E' H H' h h'/\SR E' H' h'/\V E' H'.next v c/\TV E' H'.next T' t:=by
   intro hw e
   obtain⟨rfl,rfl,rfl⟩:=aU e
   refine⟨gQ,h,E,⟨0,fun n d _ _=>?_⟩,Nx.refl _ _ _,hH,.tu .nil,tj⟩
   show gF (bB j) want (g n d) t h=_
   rw[hg]
   cases want<;>cases c<;>first|rfl|cases hw
  cases c with
  |true=>
   have:=h1 rfl
   cases want with
   |true=>exact yes rfl this
   |false=>exact no rfl this
  |false=>
   have:=h2 rfl
   cases want with
   |true=>exact no rfl this
   |false=>exact yes rfl this
end Lf
end Go.Ab

noncomputable section
namespace Go.Ab
namespace Lf
section
variable {call:eL}{ao:aA}(C:oy call ao)
include C
theorem MX(o:ku):eS (Vy call o) (fun n d=>Fw (ao n d) o):=by
 have h0:=fun o=>Su C o
 have ho:=h0 o
 cases o with
 |gd j w f=>
  have hw:=FR (h0 f) j w
  cases f with
  |mn f=>
   have hw:=FR (FQ (h0 f)) j w
   exact hw
  | _=>exact hw
 |mn f=>
  have hw:=FQ (h0 f)
  cases f with
  |gd j w f=>exact FQ (FR (h0 f) j w)
  | _=>exact hw
 | _=>exact ho
def acP(f:Tq->Hq->T (Tq×Hq))(g:Nat->Nat->mV):Prop:= ∀ (E:En) (T:Tq) (t:Tm) (H:Hq) (h:Hp) (T':Tq) (H':Hq),TV E H.next T t->SR E H h->(f T H).val=some (T',H')->
 ∃ t' h' E',Ev (fun n d=>g n d t h) (.ok t' h')/\Nx E E' H H' h h'/\SR E' H' h'/\TV E' H'.next T' t'
theorem MY(r:zu):acP (wB call r) (fun n d=>Kn (ao n d) r):=by
 induction r with
 |fi=>intro E T t H h T' H' hT hH e;cases e;exact⟨t,h,E,Ev.const rfl,Nx.refl _ _ _,hH,hT⟩
 |st i f k ih=>
  intro E T t H h T' H' hT hH e
  change (bif Nat.blt i 512 then(Vy call f T H).bd fun p=>wB call k (p.2.1.put i (some p.1)) p.2.2 else .bad).val=some (T',H')at e
  obtain⟨hi,e⟩:=eF e
  obtain⟨⟨v,T1,H1⟩,e1,e2⟩:=Lf.T.dh e
  obtain⟨c,h1,E1,k1,X1,S1,w1,tj⟩:=MX C f E T t H h v T1 H1 hT hH e1
  obtain⟨t2,h2,E2,k2,X2,S2,Qb⟩:=ih E1 _ (t.put i (some c)) H1 h1 T' H' (tj.put (bH.1 hi) w1) S1 e2
  refine⟨t2,h2,E2,k1.XZ k2 fun n d q1 q2=>?_,X1.trans X2,S2,Qb⟩
  show(Go.Ab.Ro.rec Go.Ab.Rt.bad (fun v h=>Kn (ao n d) k (sT i v t) h) (Fw (ao n d) f t h):Go.Ab.Rt)=_
  try dsimp only at q1
  rw[q1]
  exact q2
 |sn f k ih=>
  intro E T t H h T' H' hT hH e
  change ((Vy call f T H).bd fun p=>wB call k p.2.1 p.2.2).val=some (T',H')at e
  obtain⟨⟨v,T1,H1⟩,e1,e2⟩:=Lf.T.dh e
  obtain⟨c,h1,E1,k1,X1,S1,w1,tj⟩:=MX C f E T t H h v T1 H1 hT hH e1
  obtain⟨t2,h2,E2,k2,X2,S2,Qb⟩:=ih E1 _ t H1 h1 T' H' tj S1 e2
  refine⟨t2,h2,E2,k1.XZ k2 fun n d q1 q2=>?_,X1.trans X2,S2,Qb⟩
  show(Go.Ab.Ro.rec Go.Ab.Rt.bad (fun v h=>Kn (ao n d) k t h) (Fw (ao n d) f t h):Go.Ab.Rt)=_
  try dsimp only at q1
  rw[q1]
  exact q2
 |ck s f k ih=>
  intro E T t H h T' H' hT hH e
  have fin: ∀ (F:Nat->Nat->eH) (y z:AV),(∀ n d,F n d t h=.ok y h)->bB s t=some z->mX z y=true->(wB call k T H).val=some (T',H')-> ∃ t' h' E',Ev (fun n d=>Go.Ab.ck (bB s) (F n d) (Kn (ao n d) k) t h) (.ok t' h')/\Nx E E' H H' h h'/\SR E' H' h'/\TV E' H'.next T' t':=by
   intro F y z hF hz hs e
   obtain⟨t2,h2,E2,k2,X2,S2,Qb⟩:=ih E T t H h T' H' hT hH e
   refine⟨t2,h2,E2,k2.sO fun n d q=>?_,X2,S2,Qb⟩
   show(Go.Ab.Ro.rec Go.Ab.Rt.bad (fun v _=>Option.rec Go.Ab.Rt.bad (fun u=>Bool.rec Go.Ab.Rt.bad (Kn (ao n d) k t h) (mX u v)) (bB s t)) (F n d t h):Go.Ab.Rt)=_
   rw[hF,hz]
   simp only[hs]
   exact q
  have ldc: ∀ {sz:Nat} {g:Bool} {a:Od},(Dd s sz g a T H (wB call k T H)).val=some (T',H')-> ∃ y z,bg sz g (bB a) t h=.ok y h/\bB s t=some z/\mX z y=true/\(wB call k T H).val=some (T',H'):=by
   intro sz g a e
   unfold Dd at e
   split at e
   ·rename_i p hp
    split at e
    ·rename_i v hv
     split at e
     ·rename_i u hu
      split at e
      ·rename_i c hc
       obtain⟨gh,e⟩:=mF e
       obtain⟨x,hx,LF⟩:=bz hT hp
       obtain⟨y,hy,Xb⟩:=yi hH LF hv
       obtain⟨z,hz,vH⟩:=bz hT hu
       have hs:=yl vH Xb hc gh
       exact⟨y,z,by unfold bg;rw[hx];simp only[hy],hz,hs,e⟩
      ·cases e
     ·cases e
    ·cases e
   ·cases e
  have unc:(zx s T (wB call k T H)).val=some (T',H')-> ∃ z,bB s t=some z/\mX z gQ=true/\(wB call k T H).val=some (T',H'):=by
   intro e
   unfold zx at e
   split at e
   ·rename_i hu
    obtain⟨z,hz,vH⟩:=bz hT hu
    cases vH with
    |tu q=>cases q;exact⟨_,hz,by kernel_rfl,e⟩
   ·cases e
  cases f with
  |ld sz g a=>
   obtain⟨y,z,h1,h2,h3,h4⟩:=ldc e
   exact fin (fun _ _=>bg sz g (bB a)) y z (fun _ _=>h1) h2 h3 h4
  |slN sz a lo hi=>
   change (Mp s sz a lo hi T H (wB call k T H)).val=some (T',H')at e
   unfold Mp at e
   obtain⟨⟨v,T1,H1⟩,e1,e2⟩:=Lf.T.dh e
   obtain⟨_,_,y,hy,Xb⟩:=Dk sz a lo hi E T t H h v T1 H1 hT hH e1
   split at e2
   ·rename_i u hu
    split at e2
    ·rename_i c hc
     obtain⟨gh,e2⟩:=mF e2
     obtain⟨z,hz,vH⟩:=bz hT hu
     exact fin (fun _ _=>cK sz (bB a) (lo.map bB) (hi.map bB)) y z (fun _ _=>hy) hz (yl vH Xb hc gh) e2
    ·cases e2
   ·cases e2
  |slA n sz a lo hi=>
   change (Mq s n sz a lo hi T H (wB call k T H)).val=some (T',H')at e
   unfold Mq at e
   obtain⟨⟨v,T1,H1⟩,e1,e2⟩:=Lf.T.dh e
   obtain⟨_,_,y,hy,Xb⟩:=Dl n sz a lo hi E T t H h v T1 H1 hT hH e1
   split at e2
   ·rename_i u hu
    split at e2
    ·rename_i c hc
     obtain⟨gh,e2⟩:=mF e2
     obtain⟨z,hz,vH⟩:=bz hT hu
     exact fin (fun _ _=>iO n sz (bB a) (lo.map bB) (hi.map bB)) y z (fun _ _=>hy) hz (yl vH Xb hc gh) e2
    ·cases e2
   ·cases e2
  |gd j w f=>
   cases f with
   |ld sz g a=>
    change (match jS j T with
     |some (.b c)=>bif (bif w then c else !c)then Dd s sz g a T H (wB call k T H)else zx s T (wB call k T H)
     |some (.tu [])=>zx s T (wB call k T H)
     | _=>.bad:Lf.T (Tq×Hq)).val=some (T',H')at e
    split at e
    ·rename_i c hj
     obtain⟨q,hq,hqv⟩:=bz hT hj
     cases hqv
     cases hc:(bif w then c else !c)with
     |true=>
      rw[hc]at e
      obtain⟨y,z,h1,h2,h3,h4⟩:=ldc e
      refine fin (fun _ _=>gF (bB j) w (bg sz g (bB a))) y z (fun _ _=>?_) h2 h3 h4
      unfold gF
      rw[hq]
      cases w<;>cases c<;>first|(cases hc;done)|exact h1
     |false=>
      rw[hc]at e
      obtain⟨z,h2,h3,h4⟩:=unc e
      refine fin (fun _ _=>gF (bB j) w (bg sz g (bB a))) gQ z (fun _ _=>?_) h2 h3 h4
      unfold gF
      rw[hq]
      cases w<;>cases c<;>first|(cases hc;done)|rfl
    ·rename_i hj
     obtain⟨q,hq,hqv⟩:=bz hT hj
     cases hqv with
     |tu qq=>
      cases qq
      obtain⟨z,h2,h3,h4⟩:=unc e
      refine fin (fun _ _=>gF (bB j) w (bg sz g (bB a))) gQ z (fun _ _=>?_) h2 h3 h4
      unfold gF
      rw[hq]
    ·cases e
   | _=>cases e
  | _=>cases e
omit C in
theorem kR{v w:Sv}{t t':Tq}{h h':Hq}(e:(okV v t h).val=some (w,t',h')):h'=h:=(aU e).2.2
omit C in
theorem qN{v:Option Sv}{w:Sv}{t t':Tq}{h h':Hq}(e:(okO v t h).val=some (w,t',h')):h'=h:=(mG e).2.2
omit C in
theorem Bu{j:Od}{T0 T':Tq}{a b:Tq->T (Sv×Tq×Hq)}{v:Sv}{H H':Hq}(ha: ∀ t,(a t).val=some (v,T',H')->H'=H)(hb: ∀ t,(b t).val=some (v,T',H')->H'=H)(e:(sK j T0 a b).val=some (v,T',H')):H'=H:=by
 unfold sK at e
 split at e
 ·rename_i i
  cases Cf:Nat.blt i 512 with
  |false=>rw[Cf]at e;cases e
  |true=>
   rw[Cf]at e
   simp only[cond_true]at e
   split at e
   ·rename_i c _
    cases c with
    |true=>exact ha _ e
    |false=>exact hb _ e
   ·rename_i m x _
    rw[Lf.T.dZ]at e
    cases x with
    |true=>exact ha _ e
    |false=>exact hb _ e
   ·cases e
 ·rename_i c
  cases c with
  |true=>exact ha _ e
  |false=>exact hb _ e
 ·cases e
omit C in
theorem Bv{o:ku}(hp:nM o=true)(hg: ∀ j w f,o≠ .gd j w f){T0 T':Tq}{H H':Hq}{v:Sv}(e:(yc call o T0 H).val=some (v,T',H')):H'=H:=by
 cases o<;>first|(cases hp;done)|exact(hg _ _ _ rfl).elim|skip
 case mv=>exact qN e
 case pk=>exact Bu (a:=fun t=>x' _ t H) (b:=fun t=>x' _ t H) (fun _ e=>qN e) (fun _ e=>qN e) e
 all_goals
  simp only[yc]at e
  first
   |unfold Hn at e
   |unfold Ho at e
   |unfold RO at e
   |unfold sUn at e
   |unfold pF at e
   |unfold Bi at e
   |unfold RP at e
   |unfold RQ at e
   |unfold Bj at e
   |unfold wZ at e
   |unfold tZ at e
   |unfold cF at e
   |unfold Hr at e
   |unfold FC at e
  repeat' split at e
  all_goals first
   |(cases e;done)
   |exact kR e
   |exact qN e
   |exact kR (Lf.T.aX e).2
   |(obtain⟨_,_,e2⟩:=Lf.T.dh e;exact kR e2)
   |(obtain⟨_,e⟩:=eF e;first|exact kR e|exact qN e|exact kR (Lf.T.aX e).2)
   |skip
omit C in
theorem MZ{o:ku}(hp:nM o=true){T0 T':Tq}{H H':Hq}{v:Sv}(e:(Vy call o T0 H).val=some (v,T',H')):H'=H:=by
 cases o with
 |gd j w f=>
  have hf:nM f=true/\(∀ j w g,f≠ .gd j w g)/\ ∀ g,f≠ .mn g:=by
   cases f<;>first|(cases hp;done)|exact⟨hp,fun _ _ _=>(by intro h;cases h),fun _=>(by intro h;cases h)⟩
  have e':(XJ j w (yc call f) T0 H).val=some (v,T',H'):=by
   cases f<;>first|exact e|exact(hf.2.2 _ rfl).elim
  unfold XJ at e'
  split at e'
  ·exact kR e'
  ·cases w with
   |true=>exact Bu (a:=fun t=>yc call f t H) (b:=fun t=>okV qK t H) (fun _ e=>Bv hf.1 hf.2.1 e) (fun _ e=>kR e) e'
   |false=>exact Bu (a:=fun t=>okV qK t H) (b:=fun t=>yc call f t H) (fun _ e=>kR e) (fun _ e=>Bv hf.1 hf.2.1 e) e'
 |mn f=>cases hp
 | _=>first|(cases hp;done)|exact Bv (call:=call) (T0:=T0) hp (fun _ _ _ h=>by cases h) e
omit C in
theorem Sx{r:zu}(hp:yd r=true): ∀ {T0 T':Tq} {H H':Hq},(wB call r T0 H).val=some (T',H')->H'=H:=by
 induction r with
 |fi=>intro T0 T' H H' e;cases e;rfl
 |st i f k ih=>
  intro T0 T' H H' e
  have hp:(bif nM f then yd k else false)=true:=hp
  cases hf:nM f with
  |false=>rw[hf]at hp;cases hp
  |true=>
   rw[hf]at hp
   change (bif Nat.blt i 512 then(Vy call f T0 H).bd fun p=>wB call k (p.2.1.put i (some p.1)) p.2.2 else .bad).val=some (T',H')at e
   obtain⟨_,e⟩:=eF e
   obtain⟨⟨v,T1,H1⟩,e1,e2⟩:=Lf.T.dh e
   rw[ih hp e2]
   exact MZ hf e1
 |sn f k ih=>
  intro T0 T' H H' e
  have hp:(bif nM f then yd k else false)=true:=hp
  cases hf:nM f with
  |false=>rw[hf]at hp;cases hp
  |true=>
   rw[hf]at hp
   change ((Vy call f T0 H).bd fun p=>wB call k p.2.1 p.2.2).val=some (T',H')at e
   obtain⟨⟨v,T1,H1⟩,e1,e2⟩:=Lf.T.dh e
   rw[ih hp e2]
   exact MZ hf e1
 |ck s f k ih=>
  intro T0 T' H H' e
  have ldc: ∀ {sz:Nat} {g:Bool} {a:Od},(Dd s sz g a T0 H (wB call k T0 H)).val=some (T',H')->H'=H:=by
   intro sz g a e
   unfold Dd at e
   split at e
   ·split at e
    ·split at e
     ·split at e
      ·obtain⟨_,e⟩:=mF e
       exact ih hp e
      ·cases e
     ·cases e
    ·cases e
   ·cases e
  have unc:(zx s T0 (wB call k T0 H)).val=some (T',H')->H'=H:=by
   intro e
   unfold zx at e
   split at e
   ·exact ih hp e
   ·cases e
  cases f with
  |ld sz g a=>exact ldc e
  |slN sz a lo hi=>
   change (Mp s sz a lo hi T0 H (wB call k T0 H)).val=some (T',H')at e
   unfold Mp at e
   obtain⟨⟨v,T1,H1⟩,e1,e2⟩:=Lf.T.dh e
   split at e2
   ·split at e2
    ·obtain⟨_,e2⟩:=mF e2
     exact ih hp e2
    ·cases e2
   ·cases e2
  |slA n sz a lo hi=>
   change (Mq s n sz a lo hi T0 H (wB call k T0 H)).val=some (T',H')at e
   unfold Mq at e
   obtain⟨⟨v,T1,H1⟩,e1,e2⟩:=Lf.T.dh e
   split at e2
   ·split at e2
    ·obtain⟨_,e2⟩:=mF e2
     exact ih hp e2
    ·cases e2
   ·cases e2
  |gd j w f=>
   cases f with
   |ld sz g a=>
    change (match jS j T0 with
     |some (.b c)=>bif (bif w then c else !c)then Dd s sz g a T0 H (wB call k T0 H)else zx s T0 (wB call k T0 H)
     |some (.tu [])=>zx s T0 (wB call k T0 H)
     | _=>.bad:Lf.T (Tq×Hq)).val=some (T',H')at e
    split at e
    ·rename_i c hj
     cases hc:(bif w then c else !c)with
     |true=>rw[hc]at e;exact ldc e
     |false=>rw[hc]at e;exact unc e
    ·exact unc e
    ·cases e
   | _=>cases e
  | _=>cases e
omit C in
theorem Jy{c:cX}{r:zu}: ∀ {t t':Tm} {h h':Hp},cf (fun i=>Nat.blt i 512) (ye r)=true->Kn c r t h=.ok t' h'-> ∀ i,i<512->i∉ye r->t'.at i=t.at i:=by
 induction r with
 |fi=>intro t t' h h' _ e i _ _;cases e;rfl
 |st j f k ih=>
  intro t t' h h' hb e i hi hn
  have hb:(bif Nat.blt j 512 then cf (fun i=>Nat.blt i 512) (ye k)else false)=true:=hb
  cases hj:Nat.blt j 512 with
  |false=>rw[hj]at hb;cases hb
  |true=>
   rw[hj]at hb
   have XU:i∉j::ye k:=hn
   change (Go.Ab.Ro.rec Go.Ab.Rt.bad (fun v h=>Kn c k (sT j v t) h) (Fw c f t h):Go.Ab.Rt)=.ok t' h' at e
   cases ha:Fw c f t h with
   |bad=>rw[ha]at e;cases e
   |ok v h1=>
    rw[ha]at e
    rw[ih hb e i hi fun q=>XU (List.mem_cons_of_mem _ q)]
    show(t.put j (some v)).at i=_
    rw[Tm.jA _ _ _ _ (bH.1 hj) hi,if_neg fun q=>XU (by rw[q];exact List.mem_cons_self)]
 |sn f k ih=>
  intro t t' h h' hb e i hi hn
  change (Go.Ab.Ro.rec Go.Ab.Rt.bad (fun v h=>Kn c k t h) (Fw c f t h):Go.Ab.Rt)=.ok t' h' at e
  cases ha:Fw c f t h with
  |bad=>rw[ha]at e;cases e
  |ok v h1=>rw[ha]at e;exact ih hb e i hi hn
 |ck s f k ih=>
  intro t t' h h' hb e i hi hn
  change (Go.Ab.Ro.rec Go.Ab.Rt.bad (fun v _=>Option.rec Go.Ab.Rt.bad (fun u=>Bool.rec Go.Ab.Rt.bad (Kn c k t h) (mX u v)) (bB s t)) (Fw c f t h):Go.Ab.Rt)=.ok t' h' at e
  cases ha:Fw c f t h with
  |bad=>rw[ha]at e;cases e
  |ok v h1=>
   rw[ha]at e
   cases hs:bB s t with
   |none=>rw[hs]at e;cases e
   |some u=>
    rw[hs]at e
    simp only at e
    cases hq:mX u v with
    |false=>rw[hq]at e;cases e
    |true=>rw[hq]at e;exact ih hb e i hi hn
omit C in
theorem Bw{E:En}{N:Nat}{c:Bool}{v w u:Sv}{a:AV}(e:mgV c v w=some u)(hv:V E N (bif c then v else w) a):V E N u a:=by
 have L6:(match toN v,toN w with
  |some (k,x),some (k',y)=>bif jv k k' then some (Sv.c 0 (.int k) (bif c then x else y))else none
  | _,_=>match toB v,toB w with
   |some x,some y=>some (.c 0 .bool (bif c then x.v else y.v))
   | _,_=>none)=some u->V E N u a:=by
  intro e
  split at e
  ·rename_i k x k' y h1 h2
   obtain⟨hk,e⟩:=bQ e
   cases e
   have:=eO.1 hk;subst this
   cases c with
   |true=>rw[iE hv h1];exact gm
   |false=>rw[iE hv h2];exact gm
  ·split at e
   ·rename_i x y h1 h2
    cases e
    cases c with
    |true=>rw[iD hv h1];exact lM
    |false=>rw[iD hv h2];exact lM
   ·cases e
 unfold mgV at e
 split at e
 ·rename_i x y
  cases x<;>cases y<;>cases c<;>cases e<;>cases hv<;>first|exact .b|exact lM
 ·obtain⟨h,e⟩:=bQ e
  cases e
  have:=wW _ _ h;subst this
  cases c<;>exact hv
 ·obtain⟨h,e⟩:=bQ e
  cases e
  rw[Bool.and_eq_true]at h
  have h1:=beq_true h.1;have h2:=beq_true h.2
  subst h1;subst h2
  cases c<;>exact hv
 ·obtain⟨h,e⟩:=bQ e
  cases e
  rw[Bool.and_eq_true]at h
  have h1:=beq_true h.1;have h2:=beq_true h.2
  subst h1;subst h2
  cases c<;>exact hv
 ·split at e
  ·rename_i p _
   cases p
   cases e
   cases c with
   |true=>cases hv with
    |c k _=>exact .c k fun h=>(h rfl).elim
   |false=>cases hv with
    |c k _=>exact .c k fun h=>(h rfl).elim
  ·cases e
 ·rename_i k x k' y
  have h:=(bQ e).1
  replace e:=(bQ e).2
  have:=eO.1 h;subst this
  cases hb:eqI x y with
  |true=>
   rw[hb]at e;cases e
   have:=ga.1 hb;subst this
   cases c<;>exact hv
  |false=>
   rw[hb]at e;cases e
   cases c<;>cases hv<;>exact gm
 ·exact L6 e
omit C in
theorem M3{E:En}{N:Nat}{c:Bool}{a b T0:Tq}{t':Tm}(ht:TV E N (bif c then a else b) t'): ∀ {zg:List Nat},cf (fun i=>Nat.blt i 512) zg=true->(∀ i v,i<512->i∉zg->T0.at i=some v-> ∃ x,t'.at i=some x/\V E N v x)->TV E N (mgT zg c T0 a b) t'
 | [],_,h0=>fun i v hi hv=>h0 i v hi (by simp) hv
 |j::zg,hb,h0=>by
  have hb:(bif Nat.blt j 512 then cf (fun i=>Nat.blt i 512) zg else false)=true:=hb
  cases hj:Nat.blt j 512 with
  |false=>rw[hj]at hb;cases hb
  |true=>
   rw[hj]at hb
   have key: ∀ i v,i<512->i≠j->(mgT zg c T0 a b).at i=some v-> ∃ x,t'.at i=some x/\V E N v x:=by
    intro i v hi jN hv
    have gen: ∀ {l:List Nat},cf (fun i=>Nat.blt i 512) l=true->(∀ q,q∈l->q∈zg)->(mgT l c T0 a b).at i=some v->(i∈l/\mgO c (a.at i) (b.at i)=some v)∨(i∉l/\T0.at i=some v):=by
     intro l
     induction l with
     |nil=>intro _ _ e;exact .inr ⟨by simp,e⟩
     |cons q l ih=>
      intro hl hs e
      have hl:(bif Nat.blt q 512 then cf (fun i=>Nat.blt i 512) l else false)=true:=hl
      cases hq:Nat.blt q 512 with
      |false=>rw[hq]at hl;cases hl
      |true=>
       rw[hq]at hl
       change ((mgT l c T0 a b).put q (mgO c (a.at q) (b.at q))).at i=some v at e
       rw[Tq.jA _ _ _ _ (bH.1 hq) hi]at e
       split at e
       ·rename_i e';subst e';exact .inl ⟨List.mem_cons_self,e⟩
       ·rename_i ne
        rcases ih hl (fun q hq=>hs q (List.mem_cons_of_mem _ hq)) e with⟨k1,k2⟩|⟨k1,k2⟩
        ·exact .inl ⟨List.mem_cons_of_mem _ k1,k2⟩
        ·exact .inr ⟨fun h=>(List.mem_cons.1 h).elim ne k1,k2⟩
    rcases gen hb (fun _ h=>h) hv with⟨_,k⟩|⟨k1,k2⟩
    ·unfold mgO at k
     split at k
     ·split at k
      ·rename_i _ v1 h1 _ v2 h2
       cases c with
       |true=>
        obtain⟨x,x1,x2⟩:=ht i v1 hi h1
        exact⟨x,x1,Bw k x2⟩
       |false=>
        obtain⟨x,x1,x2⟩:=ht i v2 hi h2
        exact⟨x,x1,Bw k x2⟩
      ·cases k
     ·cases k
    ·exact h0 i v hi (fun h=>(List.mem_cons.1 h).elim jN k1) k2
   intro i v hi hv
   change ((mgT zg c T0 a b).put j (mgO c (a.at j) (b.at j))).at i=some v at hv
   rw[Tq.jA _ _ _ _ (bH.1 hj) hi]at hv
   split at hv
   ·rename_i e;subst e
    unfold mgO at hv
    split at hv
    ·split at hv
     ·rename_i _ v1 h1 _ v2 h2
      cases c with
      |true=>
       obtain⟨x,x1,x2⟩:=ht i v1 hi h1
       exact⟨x,x1,Bw hv x2⟩
      |false=>
       obtain⟨x,x1,x2⟩:=ht i v2 hi h2
       exact⟨x,x1,Bw hv x2⟩
     ·cases hv
    ·cases hv
   ·rename_i ne;exact key i v hi ne hv
omit C in
theorem LB.X5(c:Bool)(x y:LB):(LB.cond c x y).v=bif c then x.v else y.v:=by
 cases x with
 |l x=>cases x<;>cases y with
  |l y=>cases y<;>cases c<;>rfl
  |t y=>rfl
 |t x=>cases y<;>rfl
omit C in
theorem X6{zg:List Nat}(hb:cf (fun i=>Nat.blt i 512) zg=true){T0:Tq}{x:T (Tq×Hq)}(h:(Vz zg T0 x).1.v=true): ∃ p,x.val=some p/\ ∀ (E:En) (N:Nat) (t':Tm),TV E N p.1 t'->(∀ i v,i<512->i∉zg->T0.at i=some v-> ∃ a,t'.at i=some a/\V E N v a)->TV E N (Vz zg T0 x).2 t':=by
 induction x with
 |bad=>cases h
 |ok p=>exact⟨p,rfl,fun E N t' h1 _=>h1⟩
 |br c a b sB xm=>
  have h':(bif c then(Vz zg T0 a).1.v else(Vz zg T0 b).1.v)=true:=by
   have h1:(LB.cond c (Vz zg T0 a).1 (Vz zg T0 b).1).v=true:=h
   rwa [LB.X5]at h1
  cases c with
  |true=>
   obtain⟨p,p1,p2⟩:=sB h'
   exact⟨p,p1,fun E N t' h1 h2=>M3 (c:=true) (p2 E N t' h1 h2) hb h2⟩
  |false=>
   obtain⟨p,p1,p2⟩:=xm h'
   exact⟨p,p1,fun E N t' h1 h2=>M3 (c:=false) (p2 E N t' h1 h2) hb h2⟩
 |ck c a ih=>
  have h1:(LB.and (.t c) (Vz zg T0 a).1).v=true:=h
  rw[LB.MF,Bool.and_eq_true]at h1
  obtain⟨p,p1,p2⟩:=ih h1.2
  have hc:c=true:=h1.1
  subst hc
  exact⟨p,p1,p2⟩
theorem Sy(r:zu):acP (RT call r) (fun n d=>Kn (ao n d) r):=by
 intro E T0 t H h T' H' hT hH e
 unfold RT at e
 cases hp:(yd r&&cf (fun i=>Nat.blt i 512) (ye r))with
 |false=>rw[hp]at e;exact MY C r E T0 t H h T' H' hT hH e
 |true=>
  rw[hp]at e
  rw[Bool.and_eq_true]at hp
  simp only[cond_true]at e
  obtain⟨h1,e⟩:=mF e
  cases e
  obtain⟨⟨T1,H1⟩,p1,p2⟩:=X6 hp.2 h1
  have hH1:H1=H:=Sx hp.1 p1
  subst hH1
  obtain⟨t',h',E',k,X,S,Qc⟩:=MY C r E T0 t H1 h T1 H1 hT hH p1
  refine⟨t',h',E',k,X,S,p2 E' H1.next t' Qc fun i v hi hn hv=>?_⟩
  obtain⟨a,ha,yk⟩:=hT i v hi hv
  obtain⟨M,k⟩:=k
  have k':=k M M (Nat.le_refl _) (Nat.le_refl _)
  dsimp only at k'
  exact⟨a,by rw[Jy hp.2 k' i hi hn];exact ha,yk.mono X.e X.le⟩
structure Ox(E E':En)(H H':Hq)(h h':Hp):Prop where
 A:E'.A=E.A
 G:RU E.G E'.G
 Cj:h.next<=h'.next
 ow: ∀ r id,own H' r->ly (E'.K r).av=some id->(∃ r0,own H r0/\ly (E.K r0).av=some id)∨h.next<=id
 gw: ∀ id row,E'.G id=some row->E.G id=some row∨(∃ r0,own H r0/\ly (E.K r0).av=some id)∨h.next<=id
 fr: ∀ id,id<h.next->(∀ r,own H r->ly (E.K r).av≠some id)->h'.aL.get id=h.aL.get id
omit C in
theorem Nx.ox{E E':En}{H H':Hq}{h h':Hp}(X:Nx E E' H H' h h'):Ox E E' H H' h h':=⟨X.e.A,X.e.G,X.Cj,X.ow,X.gw,X.fr⟩
omit C in
theorem Ox.trans{E E1 E2:En}{H H1 H2:Hq}{h h1 h2:Hp}(a:Ox E E1 H H1 h h1)(b:Ox E1 E2 H1 H2 h1 h2):Ox E E2 H H2 h h2 where
 A:=b.A.trans a.A
 G id row e:=b.G id row (a.G id row e)
 Cj:=Nat.le_trans a.Cj b.Cj
 ow r id k e:=by
  rcases b.ow r id k e with⟨r0,k0,e0⟩|k0
  ·exact a.ow r0 id k0 e0
  ·exact .inr (Nat.le_trans a.Cj k0)
 gw id row e:=by
  rcases b.gw id row e with k|⟨r0,k0,e0⟩|k
  ·exact a.gw id row k
  ·rcases a.ow r0 id k0 e0 with k|k
   ·exact .inr (.inl k)
   ·exact .inr (.inr k)
  ·exact .inr (.inr (Nat.le_trans a.Cj k))
 fr id hi hn:=by
  rw[b.fr id (Nat.lt_of_lt_of_le hi a.Cj) fun r k e=>?_,a.fr id hi hn]
  rcases a.ow r id k e with⟨r0,k0,e0⟩|k0
  ·exact hn r0 k0 e0
  ·omega
structure Rx where
 X:En->En->Hq->Hq->Hp->Hp->Prop
 of: ∀ {E E':En} {H H':Hq} {h h':Hp},Nx E E' H H' h h'->X E E' H H' h h'
 tr: ∀ {E E1 E2:En} {H H1 H2:Hq} {h h1 h2:Hp},X E E1 H H1 h h1->X E1 E2 H1 H2 h1 h2->X E E2 H H2 h h2
def Rx.s:Rx:=⟨Nx,fun X=>X,Nx.trans⟩
def Rx.w:Rx:=⟨Ox,Nx.ox,Ox.trans⟩
def X7(R:Rx)(E:En)(H:Hq)(h:Hp):Oc->Go.Ab.Rc->Prop
 | .norm T' H',.norm t' h'=> ∃ E',R.X E E' H H' h h'/\SR E' H' h'/\TV E' H'.next T' t'
 | .ret T' H',.ret t' h'=> ∃ E',R.X E E' H H' h h'/\SR E' H' h'/\TV E' H'.next T' t'
 | .exit i T' H',.exit j t' h'=>i=j/\ ∃ E',R.X E E' H H' h h'/\SR E' H' h'/\TV E' H'.next T' t'
 | _,_=>False
def ep(R:Rx)(f:fD)(g:Nat->Nat->ze):Prop:= ∀ (E:En) (T:Tq) (t:Tm) (H:Hq) (h:Hp) (o:Oc),TV E H.next T t->SR E H h->(f T H).val=some o->
 ∃ r,Ev (fun n d=>g n d t h) r/\X7 R E H h o r
omit C in
theorem X7.norm{R:Rx}{E:En}{H:Hq}{h:Hp}{T':Tq}{H':Hq}{r:Go.Ab.Rc}(k:X7 R E H h (.norm T' H') r): ∃ t' h' E',r=.norm t' h'/\R.X E E' H H' h h'/\SR E' H' h'/\TV E' H'.next T' t':=by
 cases r with
 |norm t' h'=>obtain⟨E',a,b,c⟩:=k;exact⟨t',h',E',rfl,a,b,c⟩
 | _=>exact k.elim
omit C in
theorem X7.trans{R:Rx}{E E1:En}{H H1:Hq}{h h1:Hp}(X:R.X E E1 H H1 h h1){o:Oc}{r:Go.Ab.Rc}(k:X7 R E1 H1 h1 o r):X7 R E H h o r:=by
 cases o<;>cases r<;>first|exact k.elim|skip
 ·obtain⟨E',a,b,c⟩:=k;exact⟨E',R.tr X a,b,c⟩
 ·obtain⟨E',a,b,c⟩:=k;exact⟨E',R.tr X a,b,c⟩
 ·obtain⟨e,E',a,b,c⟩:=k;exact⟨e,E',R.tr X a,b,c⟩
def jq(R:Rx)(ao:aA)(L:Nat->Option fD):qe->Prop
 | .sq a b=>jq R ao L a/\jq R ao L b
 | .cif _ a b=>jq R ao L a/\jq R ao L b
 | .bl id b=>(match L id with|some f=>ep R f (fun n d=>gy (ao n d) n (.bl id b))|none=>True)/\jq R ao L b
 | .lp b=>jq R ao L b
 | _=>True
omit C in
theorem aE{R:Rx}{ao:aA}(c:qe):jq R ao (fun _=>none) c:=by
 induction c with
 |sq a b sB xm=>exact⟨sB,xm⟩
 |cif o a b sB xm=>exact⟨sB,xm⟩
 |bl id b ih=>exact⟨trivial,ih⟩
 |lp b ih=>exact ih
 | _=>trivial
def Ev3{α:Type}(p:Nat->Nat->Nat->α)(r:α):Prop:= ∃ M,∀ n d j,M<=n->M<=d->M<=j->p n d j=r
omit C in
theorem Ev3.diag{α:Type}{p:Nat->Nat->Nat->α}{r:α}(h:Ev3 p r):Ev (fun n d=>p n d n) r:=by
 obtain⟨M,h⟩:=h
 exact⟨M,fun n d a b=>h n d n a b a⟩
def Sz(j:Nat)(b:ze):ze:=Nat.rec (fun _ _=>.bad) (fun _ ih t h=>Rc.rec Rc.bad (fun t h=>ih t h) (fun t h=>Rc.ret t h) (fun i t h=>Rc.exit i t h) (b t h)) j
omit C in
theorem M4{R:Rx}{b:fD}{g:Nat->Nat->ze}(hb:ep R b g): ∀ (m:Nat) (E:En) (T:Tq) (t:Tm) (H:Hq) (h:Hp) (o:Oc),TV E H.next T t->SR E H h->
 ((Nat.rec (motive:=fun _=>fD) (fun _ _=>.bad) (fun _ ih t h=>Jl (b t h) ih) m:fD) T H).val=some o-> ∃ r,Ev3 (fun n d j=>Sz j (g n d) t h) r/\X7 R E H h o r
 |0,_,_,_,_,_,_,_,_,e=>by cases e
 |m+1,E,T,t,H,h,o,hT,hH,e=>by
  change (Jl (b T H) (Nat.rec (motive:=fun _=>fD) (fun _ _=>.bad) (fun _ ih t h=>Jl (b t h) ih) m)).val=some o at e
  obtain⟨o1,e1,e2⟩:=Lf.T.dh e
  obtain⟨r1,⟨M1,k1⟩,q1⟩:=hb E T t H h o1 hT hH e1
  cases o1 with
  |norm T1 H1=>
   obtain⟨t1,h1,E1,rfl,X,S1,tj⟩:=q1.norm
   obtain⟨r,⟨M2,k2⟩,q2⟩:=M4 hb m E1 T1 t1 H1 h1 o tj S1 e2
   refine⟨r,⟨max M1 M2+1,fun n d j a b c=>?_⟩,q2.trans X⟩
   obtain⟨j',rfl⟩: ∃ j',j=j'+1:=⟨j - 1,by omega⟩
   show(Rc.rec Rc.bad (fun t h=>Sz j' (g n d) t h) (fun t h=>Rc.ret t h) (fun i t h=>Rc.exit i t h) (g n d t h):Go.Ab.Rc)=r
   have Ap:=k1 n d (by omega) (by omega)
   dsimp only at Ap
   rw[Ap]
   exact k2 n d j' (by omega) (by omega) (by omega)
  |ret T1 H1=>
   cases e2
   refine⟨r1,⟨M1+1,fun n d j a b c=>?_⟩,q1⟩
   obtain⟨j',rfl⟩: ∃ j',j=j'+1:=⟨j - 1,by omega⟩
   show(Rc.rec Rc.bad (fun t h=>Sz j' (g n d) t h) (fun t h=>Rc.ret t h) (fun i t h=>Rc.exit i t h) (g n d t h):Go.Ab.Rc)=r1
   have Ap:=k1 n d (by omega) (by omega)
   dsimp only at Ap
   rw[Ap]
   cases r1<;>first|rfl|exact q1.elim
  |exit i T1 H1=>
   cases e2
   refine⟨r1,⟨M1+1,fun n d j a b c=>?_⟩,q1⟩
   obtain⟨j',rfl⟩: ∃ j',j=j'+1:=⟨j - 1,by omega⟩
   show(Rc.rec Rc.bad (fun t h=>Sz j' (g n d) t h) (fun t h=>Rc.ret t h) (fun i t h=>Rc.exit i t h) (g n d t h):Go.Ab.Rc)=r1
   have Ap:=k1 n d (by omega) (by omega)
   dsimp only at Ap
   rw[Ap]
   cases r1<;>first|rfl|exact q1.elim
theorem FU{R:Rx}(m:Nat){L:Nat->Option fD}(c:qe)(hL:jq R ao L c):ep R (VA L call m c) (fun n d=>gy (ao n d) n c):=by
 induction c with
 |rg r=>
  intro E T t H h o hT hH e
  have e':((RT call r T H).bd fun p=>Lf.T.ok (Oc.norm p.1 p.2)).val=some o:=e
  obtain⟨⟨T1,H1⟩,e1,e2⟩:=Lf.T.dh e'
  cases e2
  obtain⟨t',h',E',k,X,S,Qc⟩:=Sy C r E T t H h T1 H1 hT hH e1
  refine⟨.norm t' h',k.sO fun n d q=>?_,E',R.of X,S,Qc⟩
  show(Rt.rec Rc.bad (fun t h=>Rc.norm t h) (Kn (ao n d) r t h):Go.Ab.Rc)=_
  try dsimp only at q
  rw[q]
 |sk=>intro E T t H h o hT hH e;cases e;exact⟨.norm t h,Ev.const rfl,E,R.of (Nx.refl _ _ _),hH,hT⟩
 |sq a b sB xm=>
  intro E T t H h o hT hH e
  have e':(Jl (VA L call m a T H) (VA L call m b)).val=some o:=e
  obtain⟨o1,e1,e2⟩:=Lf.T.dh e'
  obtain⟨r1,k1,q1⟩:=sB hL.1 E T t H h o1 hT hH e1
  cases o1 with
  |norm T1 H1=>
   obtain⟨t1,h1,E1,rfl,X,S1,tj⟩:=q1.norm
   obtain⟨r,k2,q2⟩:=xm hL.2 E1 T1 t1 H1 h1 o tj S1 e2
   refine⟨r,k1.XZ k2 fun n d p1 p2=>?_,q2.trans X⟩
   show(Rc.rec Rc.bad (fun t h=>gy (ao n d) n b t h) (fun t h=>Rc.ret t h) (fun i t h=>Rc.exit i t h) (gy (ao n d) n a t h):Go.Ab.Rc)=r
   try dsimp only at p1
   rw[p1];exact p2
  |ret T1 H1=>
   cases e2
   refine⟨r1,k1.sO fun n d p1=>?_,q1⟩
   show(Rc.rec Rc.bad (fun t h=>gy (ao n d) n b t h) (fun t h=>Rc.ret t h) (fun i t h=>Rc.exit i t h) (gy (ao n d) n a t h):Go.Ab.Rc)=r1
   try dsimp only at p1
   rw[p1];cases r1<;>first|rfl|exact q1.elim
  |exit i T1 H1=>
   cases e2
   refine⟨r1,k1.sO fun n d p1=>?_,q1⟩
   show(Rc.rec Rc.bad (fun t h=>gy (ao n d) n b t h) (fun t h=>Rc.ret t h) (fun i t h=>Rc.exit i t h) (gy (ao n d) n a t h):Go.Ab.Rc)=r1
   try dsimp only at p1
   rw[p1];cases r1<;>first|rfl|exact q1.elim
 |cif c a b sB xm=>
  intro E T t H h o hT hH e
  obtain⟨x,T1,hx,tj,h1,h2⟩:=vi (a:=fun t=>VA L call m a t H) (b:=fun t=>VA L call m b t H) hT e
  have hc: ∀ n d,gy (ao n d) n (.cif c a b) t h=Bool.rec (gy (ao n d) n b t h) (gy (ao n d) n a t h) x:=fun n d=>by
   show bu (bB c) (gy (ao n d) n a) (gy (ao n d) n b) t h=_
   unfold bu;rw[hx]
  cases x with
  |true=>
   obtain⟨r,k,q⟩:=sB hL.1 E T1 t H h o tj hH (h1 rfl)
   exact⟨r,k.sO fun n d p=>(hc n d).trans p,q⟩
  |false=>
   obtain⟨r,k,q⟩:=xm hL.2 E T1 t H h o tj hH (h2 rfl)
   exact⟨r,k.sO fun n d p=>(hc n d).trans p,q⟩
 |bl id b ih=>
  intro E T t H h o hT hH e
  change (match L id with|some f=>f T H|none=>blO id (VA L call m b T H)).val=some o at e
  have hl:=hL.1
  cases hf:L id with
  |some f=>rw[hf]at e hl;exact hl E T t H h o hT hH e
  |none=>
   rw[hf]at e
   obtain⟨o1,e1,e2⟩:=Lf.T.dh e
   obtain⟨r1,k1,q1⟩:=ih hL.2 E T t H h o1 hT hH e1
   cases o1 with
   |norm T1 H1=>
    cases e2
    refine⟨r1,k1.sO fun n d p1=>?_,q1⟩
    show(Rc.rec Rc.bad (fun t h=>Rc.norm t h) (fun t h=>Rc.ret t h) (fun i t h=>Bool.rec (Rc.exit i t h) (Rc.norm t h) (Nat.beq i id)) (gy (ao n d) n b t h):Go.Ab.Rc)=r1
    try dsimp only at p1
    rw[p1];cases r1<;>first|rfl|exact q1.elim
   |ret T1 H1=>
    cases e2
    refine⟨r1,k1.sO fun n d p1=>?_,q1⟩
    show(Rc.rec Rc.bad (fun t h=>Rc.norm t h) (fun t h=>Rc.ret t h) (fun i t h=>Bool.rec (Rc.exit i t h) (Rc.norm t h) (Nat.beq i id)) (gy (ao n d) n b t h):Go.Ab.Rc)=r1
    try dsimp only at p1
    rw[p1];cases r1<;>first|rfl|exact q1.elim
   |exit i T1 H1=>
    cases r1 with
    |exit j t1 h1=>
     obtain⟨rfl,E',X,S,Qc⟩:=q1
     cases hi:Nat.beq i id with
     |true=>
      have e2:(Lf.T.ok (bif Nat.beq i id then Oc.norm T1 H1 else Oc.exit i T1 H1)).val=some o:=e2
      rw[hi]at e2
      cases e2
      refine⟨.norm t1 h1,k1.sO fun n d p1=>?_,E',X,S,Qc⟩
      show(Rc.rec Rc.bad (fun t h=>Rc.norm t h) (fun t h=>Rc.ret t h) (fun i t h=>Bool.rec (Rc.exit i t h) (Rc.norm t h) (Nat.beq i id)) (gy (ao n d) n b t h):Go.Ab.Rc)=_
      try dsimp only at p1
      rw[p1];simp only[hi]
     |false=>
      have e2:(Lf.T.ok (bif Nat.beq i id then Oc.norm T1 H1 else Oc.exit i T1 H1)).val=some o:=e2
      rw[hi]at e2
      cases e2
      refine⟨.exit i t1 h1,k1.sO fun n d p1=>?_,rfl,E',X,S,Qc⟩
      show(Rc.rec Rc.bad (fun t h=>Rc.norm t h) (fun t h=>Rc.ret t h) (fun i t h=>Bool.rec (Rc.exit i t h) (Rc.norm t h) (Nat.beq i id)) (gy (ao n d) n b t h):Go.Ab.Rc)=_
      try dsimp only at p1
      rw[p1];simp only[hi]
    | _=>exact q1.elim
 |lp b ih=>
  intro E T t H h o hT hH e
  obtain⟨r,k,q⟩:=M4 (ih hL) m E T t H h o hT hH e
  exact⟨r,k.diag,q⟩
 |ex i=>intro E T t H h o hT hH e;cases e;exact⟨.exit i t h,Ev.const rfl,rfl,E,R.of (Nx.refl _ _ _),hH,hT⟩
 |rt=>intro E T t H h o hT hH e;cases e;exact⟨.ret t h,Ev.const rfl,E,R.of (Nx.refl _ _ _),hH,hT⟩
 |bad=>intro E T t H h o hT hH e;cases e
end
theorem SA{E:En}{T:Tq}{t:Tm}{H:Hq}{h:Hp}(hT:TV E H.next T t)(hH:SR E H h){r:Go.Ab.RV}{v:Sv}(e:XK T H r=some v): ∃ c,KA t h r=some c/\V E H.next v c:=by
 cases r with
 |tmp i=>obtain⟨hi,e⟩:=bQ e;exact hT i v (bH.1 hi) e
 |cell i sz agg=>
  change (match(bif Nat.blt i 512 then T.at i else none)with|some p=>Aj sz agg p H|none=>none)=some v at e
  split at e
  ·rename_i p hp
   obtain⟨hi,hp⟩:=bQ hp
   obtain⟨a,ha,yk⟩:=hT i p (bH.1 hi) hp
   obtain⟨c,c1,c2⟩:=yi hH yk e
   refine⟨c,?_,c2⟩
   show(match t.at i with|some a=>xp h sz agg a|none=>none)=_
   rw[ha];exact c1
  ·cases e
theorem ym{E:En}{T:Tq}{t:Tm}{H:Hq}{h:Hp}(hT:TV E H.next T t)(hH:SR E H h): ∀ {l:List Go.Ab.RV} {vs:List Sv},Mr T H l=some vs-> ∃ cs,zR t h l=some cs/\Vs E H.next vs cs
 | [],_,e=>by cases e;exact⟨[],rfl,.nil⟩
 |r::l,vs,e=>by
  change (match XK T H r with|some v=>(match Mr T H l with|some vs=>some (v::vs)|none=>none)|none=>none)=some vs at e
  split at e
  ·rename_i v hv
   split at e
   ·rename_i us hu
    cases e
    obtain⟨c,hc,gh⟩:=SA hT hH hv
    obtain⟨cs,n8,XL⟩:=ym hT hH hu
    refine⟨c::cs,?_,.cons gh XL⟩
    show(match KA t h r with|some v=>(match zR t h l with|some vs=>some (v::vs)|none=>none)|none=>none)=_
    rw[hc,n8]
   ·cases e
  ·cases e
theorem SB{E:En}{T:Tq}{t:Tm}{H H':Hq}{h:Hp}(hT:TV E H.next T t)(hH:SR E H h){l:List Go.Ab.RV}{v:Sv}(e:(Ms l T H).val=some (v,H')):H'=H/\ ∃ c,fin l t h=.ok c h/\V E H.next v c:=by
 unfold Ms at e
 split at e
 ·rename_i w hw
  cases e
  obtain⟨cs,hc,gh⟩:=ym hT hH hw
  cases gh with
  |cons a b=>cases b;exact⟨rfl,_,by unfold fin;rw[hc],a⟩
 ·rename_i vs hn hw
  cases e
  obtain⟨cs,hc,gh⟩:=ym hT hH hw
  refine⟨rfl,.wm cs,?_,.tu gh⟩
  unfold fin
  rw[hc]
  cases cs with
  |nil=>rfl
  |cons a cs=>
   cases cs with
   |nil=>
    cases gh with
    |cons x y=>cases y;exact(hn _ rfl).elim
   |cons _ _=>rfl
 ·cases e
theorem F8.yn{α:Type}(x:α)(j:Nat):(F8.all x).Cd j=x:=by
 unfold F8.all F8.Cd
 split<;>rfl
theorem HE(j:Nat):Tq.none.at j=none:=by
 unfold Tq.at Tq.none
 rw[F8.yn,F8.yn,F8.yn]
theorem tK{E:En}{N:Nat}{l:List Sv}: ∀ (as:List AV) (i:Nat) (T:Tq) (t:Tm),Vs E N l as->i+l.length<=512->TV E N T t->TV E N (FF l i T) (ph as i t):=by
 induction l with
 |nil=>intro as i T t h _ hT;cases h;exact hT
 |cons v l ih=>
  intro as i T t h hi hT
  cases h with
  |cons hv h=>
   rename_i a as
   rw[List.length_cons]at hi
   exact ih as (i+1) _ _ h (by omega) (hT.put (by omega) hv)
def yo(b:Fb)(n:Nat)(c:cX):List AV->Hp->Go.Ab.Ro:=fun args h=>iu (Nat.ble (len args) b.ntmps) (match b.body c n (ph args 0 Tm.none) h with
 | .norm t h=>fin b.res t h
 | .ret t h=>fin b.res t h
 | _=>.bad) .bad
def mJ(ao:aA)(f:FuncId)(b:dC):Prop:= ∀ n d args h c h',yo b.fb n (ao n d) args h=.ok c h'->ao n (d+1) f args h=.ok c h'
theorem Dv{R:Rx}{call:eL}{ao:aA}(C:oy call ao){f:FuncId}{b:dC}(hb:mJ ao f b)(qm:b.ntmps<=512){L:Nat->Option fD}(hL:jq R ao L b.code){m:Nat}{E:En}{args:List Sv}{as:List AV}{H H':Hq}{h:Hp}{v:Sv}
 (hv:Vs E H.next args as)(hH:SR E H h)(e:(De L b m call args H).val=some (v,H')): ∃ c h' E',Ev (fun n d=>ao n d f as h) (.ok c h')/\R.X E E' H H' h h'/\SR E' H' h'/\V E' H'.next v c:=by
 unfold De at e
 obtain⟨hn,e⟩:=eF e
 have XU:args.length<=b.ntmps:=by have:=Nat.le_of_ble_eq_true hn;rwa [bM]at this
 obtain⟨o,e1,e2⟩:=Lf.T.dh e
 have hT0:TV E H.next (FF args 0 Tq.none) (ph as 0 Tm.none):=tK _ _ _ _ hv (by omega) fun i w _ hw=>by rw[HE]at hw;cases hw
 obtain⟨r,k,q⟩:=FU C (R:=R) m b.code hL E _ _ H h o hT0 hH e1
 have hlen:Nat.ble (len as) b.ntmps=true:=by rw[bM,<-hv.length,<-bM];exact hn
 have L': ∀ {T1:Tq} {H1:Hq} {t1:Tm} {h1:Hp} {E1:En},(r=.norm t1 h1∨r=.ret t1 h1)->R.X E E1 H H1 h h1->SR E1 H1 h1->TV E1 H1.next T1 t1->(Ms b.res T1 H1).val=some (v,H')-> ∃ c h' E',Ev (fun n d=>ao n d f as h) (.ok c h')/\R.X E E' H H' h h'/\SR E' H' h'/\V E' H'.next v c:=by
  intro T1 H1 t1 h1 E1 hr X S tj e
  obtain⟨hq,c,c1,c2⟩:=SB tj S e
  rw[hq]
  refine⟨c,h1,E1,?_,X,S,c2⟩
  obtain⟨M,k⟩:=k
  refine⟨M+1,fun n d a a'=>?_⟩
  obtain⟨d',rfl⟩: ∃ d',d=d'+1:=⟨d - 1,by omega⟩
  refine hb n d' as h c h1 ?_
  have k':=k n d' (by omega) (by omega)
  dsimp only at k'
  show iu (Nat.ble (len as) b.ntmps) (match gy (ao n d') n b.code (ph as 0 Tm.none) h with
   | .norm t h=>fin b.res t h
   | .ret t h=>fin b.res t h
   | _=>.bad) .bad=_
  rw[hlen,k']
  rcases hr with hr|hr<;>rw[hr]<;>exact c1
 cases o with
 |norm T1 H1=>
  obtain⟨t1,h1,E1,hr,X,S,tj⟩:=q.norm
  exact L' (.inl hr) X S tj e2
 |ret T1 H1=>
  cases r with
  |ret t1 h1=>obtain⟨E1,X,S,tj⟩:=q;exact L' (.inr rfl) X S tj e2
  | _=>exact q.elim
 |exit _ _ _=>cases e2
end Lf
end Go.Ab
