import Derived.Test.YtcnkojgmochcgaaGreatDoorLfE
noncomputable section
namespace Go.Ab
namespace Lf
def e1:Hq:=⟨1,.nil⟩
def aeM(T:Tq)(sl:List Nat):Option (List Sv):=List.rec (some []) (fun i _ ih=>match(bif Nat.blt i 512 then T.at i else none)with
 |some v=>(match ih with
  |some vs=>some (v::vs)
  |none=>none)
 |none=>none) sl
def TX(sl:List Nat):List Sv->Tq->Tq:=List.rec (fun _ T=>T) (fun i _ ih vs T=>match vs with
 |v::vs=>ih vs (T.put i (some v))
 | []=>T) sl
def H6(sl:List Nat)(P:qH)(T:Tq)(H:Hq):Option (List Pl):=match aeM T sl with
 |some vs=>(match CH P vs ⟨H,1,[]⟩with
  |some (pl,[],_)=>some pl
  | _=>none)
 |none=>none
def mkS(sl:List Nat)(P:qH)(pl:List Pl):Option (Tq×Hq):=match oi P pl e1 with
 |some (ws,[],H)=>some (TX sl ws Tq.none,H)
 | _=>none
theorem Ny{E:En}{N:Nat}{T:Tq}{t:Tm}(hT:TV E N T t): ∀ {sl:List Nat} {vs:List Sv},aeM T sl=some vs-> ∃ cs,Vs E N vs cs/\sl.length=cs.length/\ ∀ (k i:Nat),sl[k]? =some i->i<512/\ ∃ a,t.at i=some a/\cs[k]? =some a
 | [],vs,e=>by cases e;exact⟨[],.nil,rfl,fun k i h=>by simp at h⟩
 |i::sl,vs,e=>by
  change (match(bif Nat.blt i 512 then T.at i else none)with|some v=>(match aeM T sl with|some vs=>some (v::vs)|none=>none)|none=>none)=some vs at e
  split at e
  ·rename_i v hv
   split at e
   ·rename_i us hu
    cases e
    obtain⟨hi,hv⟩:=cR hv
    obtain⟨a,ha,CB⟩:=hT i v (cM.1 hi) hv
    obtain⟨cs,c1,c2,c3⟩:=Ny hT hu
    refine⟨a::cs,.cons CB c1,by simp[c2],fun k j h=>?_⟩
    cases k with
    |zero=>simp at h;subst h;exact⟨cM.1 hi,a,ha,rfl⟩
    |succ k=>simpa using c3 k j (by simpa using h)
   ·cases e
  ·cases e
theorem TY{E:En}{N:Nat}{t:Tm}{sl:List Nat}: ∀ (ws:List Sv) (cs:List AV) (T:Tq),Vs E N ws cs->sl.length=cs.length->(∀ (k i:Nat),sl[k]? =some i->i<512/\ ∃ a,t.at i=some a/\cs[k]? =some a)->TV E N T t->TV E N (TX sl ws T) t:=by
 induction sl with
 |nil=>intro _ _ T _ _ _ hT;exact hT
 |cons i sl ih=>
  intro ws cs T h hl hc hT
  cases h with
  |nil=>simp at hl
  |cons hw hws=>
   rename_i w c ws cs
   obtain⟨hi,a,ha,hca⟩:=hc 0 i rfl
   simp at hca
   subst hca
   refine ih _ _ _ hws (by simpa using hl) (fun k j h=>by simpa using hc (k+1) j (by simpa using h)) ?_
   intro j v hj hv
   rw[Tq.qy _ _ _ _ hi hj]at hv
   split at hv
   ·rename_i e;subst e;cases hv;exact⟨c,ha,hw⟩
   ·exact hT j v hj hv
theorem aeO{E:En}{H:Hq}{h:Hp}(S:SR E H h)(A:Nat->AV)(hA:A=E.A):Sub ⟨fun _=>⟨.any,0⟩,fun _=>.any,E.G,A⟩ e1 E ⟨H,1,[]⟩ h:=by
 have no: ∀ r,¬ own e1 r:=by rintro r ⟨R,e,_⟩;cases e
 exact⟨rfl,Nat.one_pos,⟨(fun r R e=>by cases e),(fun r _ _ o=>(no r o).elim),(fun r _ o=>(no r o).elim),fun id row e=>⟨(S.g id row e).1,(S.g id row e).2.1,fun r o=>(no r o).elim⟩⟩,rfl,hA,(fun p hp=>by cases hp),fun j o=>(no j o).elim,fun _ _ _ hp=>by cases hp⟩
theorem Sub.ox{E0:En}{H0:Hq}{E E':En}{H:Hq}{X':Xq}{h:Hp}(n:Nx E E' H X'.H h h)(s:Sub E0 H0 E' X' h):Ox E E0 H H0 h h where
 A:=by rw[s.A,n.e.A]
 G:=by rw[s.G];exact n.e.G
 FJ:=Nat.le_refl _
 ow j id o e:=by
  obtain⟨r,hr⟩:=s.ow j o
  obtain⟨_,o2,_,k⟩:=s.rn _ hr
  rw[k]at e
  exact n.ow r id o2 e
 gw id row e:=by rw[s.G]at e;exact n.gw id row e
 fr _ _ _:=rfl
theorem Bn{sl:List Nat}{P:qH}{E:En}{T:Tq}{t:Tm}{H:Hq}{h:Hp}{pl:List Pl}(hT:TV E H.next T t)(hH:SR E H h)(e:H6 sl P T H=some pl):
 ∃ T0 H0 E0,mkS sl P pl=some (T0,H0)/\TV E0 H0.next T0 t/\SR E0 H0 h/\Ox E E0 H H0 h h:=by
 unfold H6 at e
 split at e
 ·rename_i vs nP
  split at e
  ·rename_i Zu X' hx
   cases e
   obtain⟨cs,c1,c2,c3⟩:=Ny hT nP
   obtain⟨E',zl,yN,ws,a1,a2,n1,S1,s1,d1,d2,d3,d4,_,_⟩:=KJ P (X:=⟨H,1,[]⟩) hH (aeO hH E.A rfl) c1 hx
   have ha2:a2=[]:=by cases d2;rfl
   rw[ha2,List.append_nil]at d1
   subst d1
   have d3':=d3 []
   rw[List.append_nil]at d3'
   refine⟨TX sl ws Tq.none,yN,zl,?_,?_,s1.S0,s1.ox n1⟩
   ·unfold mkS;rw[d3']
   ·exact TY _ _ _ d4 c2 c3 fun i v _ hv=>by rw[Nw]at hv;cases hv
  ·cases e
 ·cases e
inductive Kd where
 |GG|rt|ex (i:Nat)
structure Ot where
 k:Kd
 sl:List Nat
 P:qH
inductive Rs where
 |next (pl:List Pl)
 |out (k:Nat) (pl:List Pl)
structure AN where
 id:Nat
 body:uq
 sl:List Nat
 P:qH
 outs:List Ot
def P3(id:Nat)(o:Oc)(k:Kd):Bool:=match o,k with
 | .exit i _ _,.GG=>Nat.beq i id
 | .ret _ _,.rt=>true
 | .exit i _ _,.ex j=>Nat.beq i j&& !(Nat.beq i id)
 | _,_=>false
def Oc.T:Oc->Tq
 | .norm t _=>t
 | .ret t _=>t
 | .exit _ t _=>t
def Oc.H:Oc->Hq
 | .norm _ h=>h
 | .ret _ h=>h
 | .exit _ _ h=>h
def H7(id:Nat)(o:Oc)(l:List Ot):Nat->Option Rs:=List.rec (fun _=>none) (fun q _ ih k=>bif P3 id o q.k then(match H6 q.sl q.P o.T o.H with
 |some pl=>some (.out k pl)
 |none=>none)else ih (Nat.add k 1)) l
def AN.step(l:AN)(L:Nat->Option rk)(call:o7)(m:Nat)(pl:List Pl):T Rs:=(T.of (mkS l.sl l.P pl)).bd fun s=>(sCd L call m l.body s.1 s.2).bd fun o=>match o with
 | .norm t h=>T.of (match H6 l.sl l.P t h with
  |some pl=>some (.next pl)
  |none=>none)
 |o=>T.of (H7 l.id o l.outs 0)
inductive uh (f:List Pl->T Rs):List Pl->Nat->List Pl->Prop
 |last {pl k q}:(f pl).val=some (.out k q)->uh f pl k q
 |more {pl Zu k q}:(f pl).val=some (.next Zu)->uh f Zu k q->uh f pl k q
theorem T.qZ{α:Type}{x:Option α}{a:α}(h:(T.of x).val=some a):x=some a:=by cases x with
 |none=>cases h
 |some b=>exact h
theorem CI{id:Nat}{o:Oc}{k:Nat}{q:List Pl}: ∀ {l:List Ot} {j:Nat},H7 id o l j=some (.out k q)-> ∃ t,l[k - j]? =some t/\j<=k/\P3 id o t.k=true/\H6 t.sl t.P o.T o.H=some q
 | [],j,e=>by cases e
 |t::l,j,e=>by
  change (bif P3 id o t.k then(match H6 t.sl t.P o.T o.H with|some pl=>some (Rs.out j pl)|none=>none)else H7 id o l (Nat.add j 1))=some (.out k q)at e
  cases hb:P3 id o t.k with
  |true=>
   rw[hb]at e
   simp only[cond_true]at e
   split at e
   ·rename_i pl hp
    cases e
    exact⟨t,by simp,Nat.le_refl _,hb,hp⟩
   ·cases e
  |false=>
   rw[hb]at e
   obtain⟨u,h1,h2,h3,h4⟩:=CI (l:=l) (j:=j+1) e
   have:k - j=(k - (j+1))+1:=by omega
   exact⟨u,by rw[this];simpa using h1,by omega,h3,h4⟩
theorem xK{id:Nat}{o:Oc}{pl:List Pl}: ∀ {l:List Ot} {j:Nat},H7 id o l j=some (.next pl)->False
 | [],j,e=>by cases e
 |t::l,j,e=>by
  change (bif P3 id o t.k then(match H6 t.sl t.P o.T o.H with|some pl=>some (Rs.out j pl)|none=>none)else H7 id o l (Nat.add j 1))=some (.next pl)at e
  cases hb:P3 id o t.k with
  |true=>
   rw[hb]at e
   simp only[cond_true]at e
   split at e<;>cases e
  |false=>rw[hb]at e;exact xK (l:=l) e
def Zv(E:En)(H:Hq)(h:Hp)(id:Nat)(t:Ot)(q:List Pl):Go.Ab.Rc->Prop
 | .ret t' h'=>t.k=.rt/\ ∃ T' H' E',mkS t.sl t.P q=some (T',H')/\Ox E E' H H' h h'/\SR E' H' h'/\TV E' H'.next T' t'
 | .exit i t' h'=>((t.k=.GG/\i=id)∨(t.k=.ex i/\i≠id))/\ ∃ T' H' E',mkS t.sl t.P q=some (T',H')/\Ox E E' H H' h h'/\SR E' H' h'/\TV E' H'.next T' t'
 | _=>False
theorem Zv.trans{E E1:En}{H H1:Hq}{h h1:Hp}(X:Ox E E1 H H1 h h1){id:Nat}{t:Ot}{q:List Pl}{r:Go.Ab.Rc}(k:Zv E1 H1 h1 id t q r):Zv E H h id t q r:=by
 cases r<;>first|exact k.elim|skip
 ·obtain⟨a,T',H',E',b,c,d,e⟩:=k;exact⟨a,T',H',E',b,X.trans c,d,e⟩
 ·obtain⟨a,T',H',E',b,c,d,e⟩:=k;exact⟨a,T',H',E',b,X.trans c,d,e⟩
section
variable {call:o7}{cr:cx}(C:w8 call cr)
include C
theorem aeP{l:AN}{L:Nat->Option rk}{m:Nat}(hL:wL Rx.w cr L l.body){pl:List Pl}{k:Nat}{q:List Pl}(r:uh (l.step L call m) pl k q): ∀ {E:En} {T:Tq} {t:Tm} {H:Hq} {h:Hp},mkS l.sl l.P pl=some (T,H)->TV E H.next T t->SR E H h->
 ∃ c u,Ev3 (fun n d j=>Zo j (su (cr n d) n l.body) t h) c/\l.outs[k]? =some u/\Zv E H h l.id u q c:=by
 induction r with
 |last e=>
  intro E T t H h hm hT hH
  obtain⟨s,e1,e2⟩:=Lf.T.mZ e
  have e1:=Lf.T.qZ e1
  rw[hm]at e1;cases e1
  obtain⟨o,e3,e4⟩:=Lf.T.mZ e2
  obtain⟨c,k1,q1⟩:=KI C (R:=Rx.w) m l.body hL E T t H h o hT hH e3
  cases o with
  |norm T1 H1=>
   have e4:=Lf.T.qZ e4
   split at e4<;>cases e4
  |ret T1 H1=>
   have e4:=Lf.T.qZ e4
   obtain⟨u,u1,_,u2,u3⟩:=CI e4
   cases c with
   |ret t1 h1=>
    obtain⟨E1,X,S1,xW⟩:=q1
    obtain⟨T2,H2,E2,r1,r2,r3,r4⟩:=Bn xW S1 u3
    obtain⟨M,k1⟩:=k1
    refine⟨.ret t1 h1,u,⟨M+1,fun n d j a b c=>?_⟩,by simpa using u1,?_,T2,H2,E2,r1,Ox.trans X r4,r3,r2⟩
    ·obtain⟨j',rfl⟩: ∃ j',j=j'+1:=⟨j - 1,by omega⟩
     have Eo:=k1 n d (by omega) (by omega)
     dsimp only at Eo
     show(Rc.rec Rc.bad (fun t h=>Zo j' (su (cr n d) n l.body) t h) (fun t h=>Rc.ret t h) (fun i t h=>Rc.exit i t h) (su (cr n d) n l.body t h):Go.Ab.Rc)=_
     rw[Eo]
    ·cases hk:u.k with
     |rt=>rfl
     |GG=>rw[hk]at u2;cases u2
     |ex i=>rw[hk]at u2;cases u2
   | _=>exact q1.elim
  |exit i T1 H1=>
   have e4:=Lf.T.qZ e4
   obtain⟨u,u1,_,u2,u3⟩:=CI e4
   cases c with
   |exit i' t1 h1=>
    obtain⟨rfl,E1,X,S1,xW⟩:=q1
    obtain⟨T2,H2,E2,r1,r2,r3,r4⟩:=Bn xW S1 u3
    obtain⟨M,k1⟩:=k1
    refine⟨.exit i t1 h1,u,⟨M+1,fun n d j a b c=>?_⟩,by simpa using u1,?_,T2,H2,E2,r1,Ox.trans X r4,r3,r2⟩
    ·obtain⟨j',rfl⟩: ∃ j',j=j'+1:=⟨j - 1,by omega⟩
     have Eo:=k1 n d (by omega) (by omega)
     dsimp only at Eo
     show(Rc.rec Rc.bad (fun t h=>Zo j' (su (cr n d) n l.body) t h) (fun t h=>Rc.ret t h) (fun i t h=>Rc.exit i t h) (su (cr n d) n l.body t h):Go.Ab.Rc)=_
     rw[Eo]
    ·cases hk:u.k with
     |rt=>rw[hk]at u2;cases u2
     |GG=>rw[hk]at u2;exact .inl ⟨rfl,beq_true u2⟩
     |ex j=>
      rw[hk]at u2
      have u2:(Nat.beq i j&& !(Nat.beq i l.id))=true:=u2
      rw[Bool.and_eq_true]at u2
      have:=beq_true u2.1
      subst this
      refine .inr ⟨rfl,fun e=>?_⟩
      rw[e,Nat.beq_refl]at u2
      cases u2.2
   | _=>exact q1.elim
 |more e _ ih=>
  intro E T t H h hm hT hH
  obtain⟨s,e1,e2⟩:=Lf.T.mZ e
  have e1:=Lf.T.qZ e1
  rw[hm]at e1;cases e1
  obtain⟨o,e3,e4⟩:=Lf.T.mZ e2
  obtain⟨c,k1,q1⟩:=KI C (R:=Rx.w) m l.body hL E T t H h o hT hH e3
  cases o with
  |norm T1 H1=>
   obtain⟨t1,h1,E1,rfl,X,S1,xW⟩:=q1.norm
   have e4:=Lf.T.qZ e4
   split at e4
   ·rename_i Zu hp
    cases e4
    obtain⟨T2,H2,E2,r1,r2,r3,r4⟩:=Bn xW S1 hp
    obtain⟨c,u,⟨M2,k2⟩,u1,u2⟩:=ih r1 r2 r3
    obtain⟨M,k1⟩:=k1
    refine⟨c,u,⟨max M M2+1,fun n d j a b c'=>?_⟩,u1,u2.trans (Ox.trans X r4)⟩
    obtain⟨j',rfl⟩: ∃ j',j=j'+1:=⟨j - 1,by omega⟩
    have Eo:=k1 n d (by omega) (by omega)
    dsimp only at Eo
    show(Rc.rec Rc.bad (fun t h=>Zo j' (su (cr n d) n l.body) t h) (fun t h=>Rc.ret t h) (fun i t h=>Rc.exit i t h) (su (cr n d) n l.body t h):Go.Ab.Rc)=_
    rw[Eo]
    exact k2 n d j' (by omega) (by omega) (by omega)
   ·cases e4
  |ret T1 H1=>exact(xK (Lf.T.qZ e4)).elim
  |exit i T1 H1=>exact(xK (Lf.T.qZ e4)).elim
def AN.pc(l:AN)(f:List Pl->T (Nat×List Pl)):rk:=fun t h=>(T.of (H6 l.sl l.P t h)).bd fun pl=>(f pl).bd fun p=>match sa l.outs p.1 with
 |some u=>(T.of (mkS u.sl u.P p.2)).bd fun s=>.ok (match u.k with
  | .GG=>.norm s.1 s.2
  | .rt=>.ret s.1 s.2
  | .ex i=>.exit i s.1 s.2)
 |none=>.bad
theorem ai5{l:AN}{L:Nat->Option rk}{m:Nat}(hL:wL Rx.w cr L l.body){f:List Pl->T (Nat×List Pl)}(hf: ∀ pl k q,(f pl).val=some (k,q)->uh (l.step L call m) pl k q):
 rQ Rx.w (l.pc f) (fun n d=>su (cr n d) n (.bl l.id (.lp l.body))):=by
 intro E T t H h o hT hH e
 obtain⟨pl,e1,e2⟩:=Lf.T.mZ e
 have e1:=Lf.T.qZ e1
 obtain⟨⟨k,q⟩,e3,e4⟩:=Lf.T.mZ e2
 obtain⟨T0,H0,E0,r1,r2,r3,r4⟩:=Bn hT hH e1
 obtain⟨c,u,k1,u1,u2⟩:=aeP C hL (hf pl k q e3) r1 r2 r3
 simp only[pn]at e4
 rw[u1]at e4
 obtain⟨s,e5,e6⟩:=Lf.T.mZ e4
 have e5:=Lf.T.qZ e5
 have k1:=k1.diag
 have Zw: ∀ n d,su (cr n d) n (.bl l.id (.lp l.body)) t h=(Rc.rec Rc.bad (fun t h=>Rc.norm t h) (fun t h=>Rc.ret t h) (fun i t h=>Bool.rec (Rc.exit i t h) (Rc.norm t h) (Nat.beq i l.id)) (Zo n (su (cr n d) n l.body) t h):Go.Ab.Rc):=fun _ _=>rfl
 cases c with
 |ret t1 h1=>
  obtain⟨a,T',H',E',b,x,y,z⟩:=u2
  rw[b]at e5;cases e5
  rw[a]at e6;cases e6
  exact⟨.ret t1 h1,k1.xJ fun n d p=>(Zw n d).trans (by rw[p]),E',Ox.trans r4 x,y,z⟩
 |exit i t1 h1=>
  obtain⟨a,T',H',E',b,x,y,z⟩:=u2
  rw[b]at e5;cases e5
  rcases a with⟨a,rfl⟩|⟨a,a2⟩
  ·rw[a]at e6;cases e6
   exact⟨.norm t1 h1,k1.xJ fun n d p=>(Zw n d).trans (by rw[p];simp only[Nat.beq_refl]),E',Ox.trans r4 x,y,z⟩
  ·rw[a]at e6;cases e6
   refine⟨.exit i t1 h1,k1.xJ fun n d p=>?_,rfl,E',Ox.trans r4 x,y,z⟩
   refine(Zw n d).trans ?_
   rw[p]
   have:Nat.beq i l.id=false:=by cases hb:Nat.beq i l.id with
    |false=>rfl
    |true=>exact(a2 (beq_true hb)).elim
   simp only[this]
 | _=>exact u2.elim
end
end Lf
end Go.Ab

noncomputable section
namespace Go.Ab
namespace Lf
def ai6(r:Nat):Option Row->Option Row
 |some (.o _ l)=>some (.o r l)
 |x=>x
def AO(n:Nat)(H:Hq):Hq:=Nat.rec H (fun i ih=>match ih.cw.get i with
 |some (.o _ l)=>ql ih i (some (.o i l))
 | _=>ih) n
def oK(H:Hq):Hq:=AO H.next H
theorem yO(H:Hq): ∀ n,(AO n H).next=H.next/\ ∀ r,(AO n H).cw.get r=if r<n then ai6 r (H.cw.get r)else H.cw.get r
 |0=>⟨rfl,fun r=>by rw[if_neg (by omega)];rfl⟩
 |n+1=>by
  obtain⟨h1,h2⟩:=yO H n
  have hs:AO (n+1) H=(match(AO n H).cw.get n with|some (.o _ l)=>ql (AO n H) n (some (.o n l))| _=>AO n H):=rfl
  have hn:=h2 n
  rw[if_neg (by omega)]at hn
  rw[hs,hn]
  cases hg:H.cw.get n with
  |none=>
   refine⟨h1,fun r=>?_⟩
   show(AO n H).cw.get r=_
   rw[h2 r]
   by_cases e:r=n
   ·subst e;rw[if_neg (by omega),if_pos (by omega),hg];rfl
   ·by_cases e2:r<n
    ·rw[if_pos e2,if_pos (by omega)]
    ·rw[if_neg e2,if_neg (by omega)]
  |some R=>
   cases R with
   |o g l=>
    refine⟨h1,fun r=>?_⟩
    show(ql (AO n H) n (some (.o n l))).cw.get r=_
    rw[ov]
    by_cases e:r=n
    ·subst e;rw[if_pos rfl,if_pos (by omega),hg];rfl
    ·rw[if_neg e,h2 r]
     by_cases e2:r<n
     ·rw[if_pos e2,if_pos (by omega)]
     ·rw[if_neg e2,if_neg (by omega)]
   | _=>
    refine⟨h1,fun r=>?_⟩
    show(AO n H).cw.get r=_
    rw[h2 r]
    by_cases e:r=n
    ·subst e;rw[if_neg (by omega),if_pos (by omega),hg];rfl
    ·by_cases e2:r<n
     ·rw[if_pos e2,if_pos (by omega)]
     ·rw[if_neg e2,if_neg (by omega)]
theorem TZ{r:Nat}{x:Option Row}{R:Row}(h:ai6 r x=some R): ∃ R0,x=some R0/\R.live=R0.live/\(R=R0∨ ∃ g l,R0=.o g l/\R=.o r l):=by
 cases x with
 |none=>cases h
 |some R0=>cases R0<;>cases h<;>first|exact⟨_,rfl,rfl,.inl rfl⟩|exact⟨_,rfl,rfl,.inr ⟨_,_,rfl,rfl⟩⟩
theorem CJ{H:Hq}{r:Nat}{R:Row}(h:(oK H).cw.get r=some R): ∃ R0,H.cw.get r=some R0/\R.live=R0.live/\(R=R0∨ ∃ g l,R0=.o g l/\R=.o r l):=by
 have e:=(yO H H.next).2 r
 have h':(AO H.next H).cw.get r=some R:=h
 rw[e]at h'
 split at h'
 ·exact TZ h'
 ·exact⟨R,h',rfl,.inl rfl⟩
theorem yQ{H:Hq}{r:Nat}(o:own (oK H) r):own H r:=by
 obtain⟨R,a,b⟩:=o
 obtain⟨R0,c,d,_⟩:=CJ a
 exact⟨R0,c,by rw[<-d];exact b⟩
theorem Av(H:Hq):(oK H).next=H.next:=(yO H H.next).1
def En.tg(E:En):En:=⟨E.K,E.tk,E.G,fun g=>(E.K g).av⟩
mutual
theorem V.QY{E:En}{N:Nat}: ∀ {a c},V E N a c->V E.tg N a c
 | _,_,.i=>.i
 | _,_,.b=>.b
 | _,_,.a k=>.a k
 | _,_,.c k m=>.c k m
 | _,_,.ag k=>.ag (Vs.QY k)
 | _,_,.tu k=>.tu (Vs.QY k)
 | _,_,.fn k=>.fn (Vs.QY k)
 | _,_,.rf a b=>.rf a b
 | _,_,.re a b c=>.re a b c
 | _,_,.os a b=>.os (E:=E.tg) a b
 | _,_,.se a b c d=>.se (E:=E.tg) a b c d
 | _,_,.ss a b c=>.ss a b c
 | _,_,.xo a b=>.xo a b
 | _,_,.zp k=>.zp (Vs.QY k)
 | _,_,.zr k g s=>.zr (Vs.QY k) g s
theorem Vs.QY{E:En}{N:Nat}: ∀ {l l'},Vs E N l l'->Vs E.tg N l l'
 | _,_,.nil=>.nil
 | _,_,.cons a b=>.cons (V.QY a) (Vs.QY b)
end
theorem aeQ{E:En}{H:Hq}{h:Hp}(S:SR E H h):SR E.tg (oK H) h where
 row r R e:=by
  obtain⟨R0,a,_,c⟩:=CJ e
  obtain⟨s1,s2⟩:=S.row r R0 a
  rw[Av]
  refine⟨s1,?_⟩
  rcases c with rfl|⟨g,l,rfl,rfl⟩
  ·cases R with
   |o g l=>
    obtain⟨id,row,k1,k2,k3,k4⟩:=s2
    have e':=(yO H H.next).2 r
    rw[if_pos s1,a]at e'
    have e2:(AO H.next H).cw.get r=some (.o g l):=e
    rw[e2]at e'
    have:g=r:=by injection e' with e';injection e' with e'
    exact⟨id,row,k1,k2,Vs.QY k3,fun _=>by rw[this];rfl⟩
   |zo l=>obtain⟨id,row,k1,k2,k3⟩:=s2;exact⟨id,row,k1,k2,Vs.QY k3⟩
   |l t x=>exact s2
   |z t x=>exact s2
  ·obtain⟨id,row,k1,k2,k3,_⟩:=s2
   exact⟨id,row,k1,k2,Vs.QY k3,fun _=>rfl⟩
 inj r r' id o o' e e':=S.inj r r' id (yQ o) (yQ o') e e'
 lt r id o e:=S.lt r id (yQ o) e
 g id row e:=by
  obtain⟨a,b,c⟩:=S.g id row e
  exact⟨a,b,fun r o=>c r (yQ o)⟩
def Zx(g:Nat)(H:Hq):Option Nat:=Nat.rec none (fun i ih=>match H.cw.get i with
 |some (.o g' _)=>bif Nat.beq g g' then some i else ih
 | _=>ih) H.next
theorem Zy{g:Nat}{H:Hq}{j:Nat}(h:Zx g H=some j): ∃ l,H.cw.get j=some (.o g l):=by
 unfold Zx at h
 generalize H.next=n at h
 induction n with
 |zero=>cases h
 |succ n ih=>
  change (match H.cw.get n with|some (.o g' _)=>(bif Nat.beq g g' then some n else(Nat.rec none (fun i ih=>match H.cw.get i with|some (.o g' _)=>bif Nat.beq g g' then some i else ih| _=>ih) n:Option Nat))| _=>(Nat.rec none (fun i ih=>match H.cw.get i with|some (.o g' _)=>bif Nat.beq g g' then some i else ih| _=>ih) n:Option Nat))=some j at h
  split at h
  ·rename_i g' l hr
   cases hb:Nat.beq g g' with
   |true=>rw[hb]at h;cases h;rw[beq_true hb];exact⟨l,hr⟩
   |false=>rw[hb]at h;exact ih h
  ·exact ih h
def aeR(l:List Nat)(H:Hq):Option (List Sv):=List.rec (some []) (fun g _ ih=>match Zx g H with
 |some j=>(match ih with
  |some r=>some (.rf j 0::r)
  |none=>none)
 |none=>none) l
theorem Nz{E:En}{H:Hq}{h:Hp}(S:SR E H h): ∀ {l:List Nat} {vs:List Sv},(∀ g,g∈l->g≠0)->aeR l H=some vs->Vs E H.next vs (l.map E.A)
 | [],vs,_,e=>by cases e;exact .nil
 |g::l,vs,h0,e=>by
  change (match Zx g H with|some j=>(match aeR l H with|some r=>some (.rf j 0::r)|none=>none)|none=>none)=some vs at e
  split at e
  ·rename_i j hj
   split at e
   ·rename_i r hr
    cases e
    obtain⟨q,hq⟩:=Zy hj
    obtain⟨lt,id,row,k1,k2,k3,k4⟩:=S.row _ _ hq
    refine .cons ?_ (Nz S (fun g hg=>h0 g (List.mem_cons_of_mem _ hg)) hr)
    rw[<-k4 (h0 g List.mem_cons_self),k1]
    exact .rf lt k1
   ·cases e
  ·cases e
structure ny where
 P:qH
 ptr:List Nat
 Q:qH
 f:List Pl->T (List Pl)
def ny.Ok(s:ny)(f:FuncId)(cr:cx):Prop:= ∀ (pl q:List Pl) (args:List Sv) (H0:Hq) (E0:En) (h:Hp) (as:List AV),(s.f pl).val=some q->oi s.P pl e1=some (args,[],H0)->Vs E0 H0.next args as->SR E0 (oK H0) h->
 ∃ c h' E1 ws H1,Ev (fun n d=>cr n d f as h) (.ok c h')/\Ox E0 E1 (oK H0) H1 h h'/\SR E1 H1 h'/\oi s.Q q e1=some (ws,[],H1)/\Vs E1 H1.next ws (c::s.ptr.map E0.A)
def qA(P:qH)(ptr:List Nat)(Q:qH)(L:Nat->Option rk)(b:Dj)(m:Nat)(call:o7)(pl:List Pl):T (List Pl):=match oi P pl e1 with
 |some (args,[],H0)=>(HJ L b m call args (oK H0)).bd fun p=>match aeR ptr p.2 with
  |some ps=>(match CH Q (p.1::ps) ⟨p.2,1,[]⟩with
   |some (q,[],_)=>.ok q
   | _=>.bad)
  |none=>.bad
 | _=>.bad
theorem acs{call:o7}{cr:cx}(C:w8 call cr){f:FuncId}{b:Dj}(hb:u9 cr f b)(AL:b.ntmps<=512){L:Nat->Option rk}(hL:wL Rx.w cr L b.code){m:Nat}{s:ny}(h0: ∀ g,g∈s.ptr->g≠0)
 (hf: ∀ pl q,(s.f pl).val=some q->(qA s.P s.ptr s.Q L b m call pl).val=some q):s.Ok f cr:=by
 intro pl q args H0 E0 h as e hP hv hS
 have XU:=hf pl q e
 unfold qA at XU
 rw[hP]at XU
 simp only at XU
 obtain⟨⟨v,H1⟩,a1,a2⟩:=Lf.T.mZ XU
 obtain⟨c,h',E1,k1,X1,S1,hv1⟩:=HZ C (R:=Rx.w) hb AL hL (by rw[Av];exact hv) hS a1
 simp only at a2
 split at a2
 ·rename_i ps XT
  split at a2
  ·rename_i q' X2 hx
   cases a2
   have rA:=Nz S1 h0 XT
   obtain⟨E2,E2',H2',ws,c1,c2,n2,S2,s2,d1,d2,d3,d4,_,_⟩:=KJ s.Q (X:=⟨H1,1,[]⟩) S1 (aeO S1 E1.A rfl) (Vs.cons hv1 rA) hx
   have W8:c2=[]:=by cases d2;rfl
   rw[W8,List.append_nil]at d1
   have d3':=d3 []
   rw[List.append_nil]at d3'
   refine⟨c,h',E2',ws,H2',k1,Ox.trans X1 (s2.ox n2),s2.S0,d3',?_⟩
   have X1A:E1.A=E0.A:=(X1:Ox E0 E1 (oK H0) H1 h h').A
   rw[<-d1,X1A]at d4
   exact d4
  ·cases a2
 ·cases a2
end Lf
end Go.Ab

noncomputable section
namespace Go.Ab
namespace Lf
section
variable (f:Nat->Nat)(b:Nat)
mutual
def GH:Sv->Sv
 | .i k n=>.i k n
 | .b x=>.b x
 | .a v=>.a v
 | .c m t x=>.c (bif Nat.beq m 0 then 0 else Nat.add b m) t x
 | .ag l=>.ag (P4 l)
 | .tu l=>.tu (P4 l)
 | .fn g l=>.fn g (P4 l)
 | .rf r o=>.rf (f r) o
 | .re r s i o=>.re (f r) s i o
 | .os r s=>.os (f r) s
 | .ss r s o n=>.ss (f r) s o n
 | .xo r s o n=>.xo (f r) s o n
 | .zp l=>.zp (P4 l)
def P4:List Sv->List Sv
 | []=>[]
 |a::l=>GH a::P4 l
end
end
def isRef:AV->Bool
 | .ref _ _=>true
 | _=>false
structure Rn(E1:En)(N1:Nat)(E:En)(N:Nat)(f:Nat->Nat)(b:Nat):Prop where
 lt: ∀ j,j<N1->f j<N
 K: ∀ j,j<N1->(E.K (f j)).av=(E1.K j).av/\(isRef (E1.K j).av=true∨E.K (f j)=E1.K j)
 tk: ∀ m,m<N1->m≠0->b+m<N/\E.tk (b+m)=E1.tk m
 G:YP E1.G E.G
section
variable {E1:En}{N1:Nat}{E:En}{N:Nat}{f:Nat->Nat}{b:Nat}
theorem NA: ∀ (l:List Sv),(P4 f b l).length=l.length
 | []=>by unfold P4;rfl
 |a::l=>by unfold P4;simp[NA l]
mutual
theorem V.rn(R:Rn E1 N1 E N f b): ∀ {v a},V E1 N1 v a->V E N (GH f b v) a
 | _,_,.i=>by unfold GH;exact .i
 | _,_,.b=>by unfold GH;exact .b
 | _,_,.a k=>by unfold GH;exact .a k
 | _,_,.c (m:=m) k h=>by
  unfold GH
  refine .c (EV.mono R.G _ _ _ k) fun hm=>?_
  cases hb:Nat.beq m 0 with
  |true=>rw[hb]at hm;exact(hm rfl).elim
  |false=>
   have hm0:m≠0:=fun e=>by subst e;cases hb
   obtain⟨h1,h2⟩:=h hm0
   obtain⟨t1,t2⟩:=R.tk m h1 hm0
   exact⟨t1,by rw[h2];exact t2.symm⟩
 | _,_,.ag k=>by unfold GH;exact .ag (Vs.rn R k)
 | _,_,.tu k=>by unfold GH;exact .tu (Vs.rn R k)
 | _,_,.fn k=>by unfold GH;exact .fn (Vs.rn R k)
 | _,_,.rf h k=>by unfold GH;exact .rf (R.lt _ h) (by rw[(R.K _ h).1];exact k)
 | _,_,.re h k i=>by unfold GH;exact .re (R.lt _ h) (by rw[(R.K _ h).1];exact k) i
 | _,_,.os (r:=r) h k=>by
  unfold GH
  obtain⟨k1,k2⟩:=R.K _ h
  rcases k2 with k2|k2
  ·rcases k with⟨k,_⟩|⟨_,_,k⟩
   ·generalize (E1.K r).av=x at k k2;cases x<;>first|(cases k2;done)|(cases k;done)
   ·rw[k]at k2;cases k2
  ·have:=V.os (E:=E) (N:=N) (r:=f r) (R.lt _ h) (by rw[k2];exact k)
   rw[k2]at this;exact this
 | _,_,.se (r:=r) (sz:=sz) h k n o=>by
  unfold GH
  obtain⟨k1,k2⟩:=R.K _ h
  rcases k2 with k2|k2
  ·generalize (E1.K r).av=x at k k2;cases x<;>first|(cases k2;done)|(cases k;done)
  ·have:=V.se (E:=E) (N:=N) (r:=f r) (sz:=sz) (R.lt _ h) (by rw[k2];exact k) (by rw[k2];exact n) o
   rw[k2]at this;exact this
 | _,_,.ss (r:=r) h k n=>by
  unfold GH
  obtain⟨k1,k2⟩:=R.K _ h
  rcases k2 with k2|k2
  ·rw[k]at k2;cases k2
  ·exact .ss (R.lt _ h) (by rw[k2];exact k) (by rw[k2];exact n)
 | _,_,.xo h k=>by unfold GH;exact .xo (R.lt _ h) (by rw[(R.K _ h).1];exact k)
 | _,_,.zp k=>by unfold GH;exact .zp (Vs.rn R k)
 | _,_,.zr k g s=>by unfold GH;exact .zr (Vs.rn R k) (R.G _ _ g) (by rw[NA];exact s)
theorem Vs.rn(R:Rn E1 N1 E N f b): ∀ {l l'},Vs E1 N1 l l'->Vs E N (P4 f b l) l'
 | _,_,.nil=>by unfold P4;exact .nil
 | _,_,.cons a k=>by unfold P4;exact .cons (V.rn R a) (Vs.rn R k)
end
end
def acu(H:Hq)(r:Nat):Nat:=match H.cw.get r with
 |some (.o g _)=>g
 | _=>0
def H8(rn:List (Nat×Nat))(b:Nat)(H1:Hq)(j:Nat):Nat:=match H1.cw.get j with
 |some (.o g _)=>bif Nat.beq g 0 then Nat.add b j else(match look g rn with
  |some r=>r
  |none=>Nat.add b j)
 | _=>Nat.add b j
def H9(rn:List (Nat×Nat))(b:Nat)(H H1:Hq)(R:Row):Row:=match R with
 | .o g l=>.o (bif Nat.beq g 0 then 0 else(match look g rn with
  |some r=>acu H r
  |none=>0)) (P4 (H8 rn b H1) b l)
 | .zo l=>.zo (P4 (H8 rn b H1) b l)
 |R=>R
def Eu(rn:List (Nat×Nat))(H:Hq):Hq:=List.rec H (fun p _ ih=>ql ih p.2 none) rn
def Zz(rn:List (Nat×Nat))(b:Nat)(H H1:Hq)(n:Nat):Hq:=Nat.rec (Eu rn H) (fun j ih=>match H1.cw.get j with
 |some R=>ql ih (H8 rn b H1 j) (some (H9 rn b H H1 R))
 |none=>ih) n
def CK(rn:List (Nat×Nat))(H H1:Hq):Hq:=⟨Nat.add H.next H1.next,(Zz rn H.next H H1 H1.next).cw⟩
def ny.call(s:ny):List Sv->Hq->T (Sv×Hq):=fun args H=>match CH s.P args ⟨H,1,[]⟩with
 |some (pl,[],X)=>(s.f pl).bd fun q=>(match oi s.Q q e1 with
  |some (v::_,[],H1)=>.ok (GH (H8 X.rn X.H.next H1) X.H.next v,CK X.rn X.H H1)
  | _=>.bad)
 | _=>.bad
theorem Ew{H:Hq}: ∀ {rn:List (Nat×Nat)} {r:Nat} {R:Row},(Eu rn H).cw.get r=some R->H.cw.get r=some R/\ ∀ j,(j,r)∉rn
 | [],r,R,h=>⟨h,fun j hj=>by cases hj⟩
 |p::rn,r,R,h=>by
  have h:(ql (Eu rn H) p.2 none).cw.get r=some R:=h
  rw[ov]at h
  split at h
  ·cases h
  ·rename_i ne
   obtain⟨a,b⟩:=Ew h
   refine⟨a,fun j hj=>?_⟩
   rcases List.mem_cons.1 hj with e|e
   ·rw[<-e]at ne;exact ne rfl
   ·exact b j e
theorem CL{rn:List (Nat×Nat)}{b:Nat}{H H1:Hq}: ∀ {n r:Nat} {Q:Row},(Zz rn b H H1 n).cw.get r=some Q->(∃ j R,j<n/\H1.cw.get j=some R/\H8 rn b H1 j=r/\Q=H9 rn b H H1 R)∨(Eu rn H).cw.get r=some Q
 |0,r,Q,h=>.inr h
 |n+1,r,Q,h=>by
  have h:(match H1.cw.get n with|some R=>ql (Zz rn b H H1 n) (H8 rn b H1 n) (some (H9 rn b H H1 R))|none=>Zz rn b H H1 n).cw.get r=some Q:=h
  split at h
  ·rename_i R hR
   rw[ov]at h
   split at h
   ·rename_i e;cases h;exact .inl ⟨n,R,Nat.lt_succ_self _,hR,e.symm,rfl⟩
   ·rcases CL h with⟨j,R',a,c⟩|k
    ·exact .inl ⟨j,R',Nat.lt_succ_of_lt a,c⟩
    ·exact .inr k
  ·rcases CL h with⟨j,R',a,c⟩|k
   ·exact .inl ⟨j,R',Nat.lt_succ_of_lt a,c⟩
   ·exact .inr k
theorem KK{rn:List (Nat×Nat)}{b:Nat}{H H1:Hq}{R:Row}:(H9 rn b H H1 R).live=R.live:=by cases R<;>rfl
theorem ZA{s:ny}{f:FuncId}{cr:cx}(k:s.Ok f cr){E:En}{args:List Sv}{as:List AV}{H H':Hq}{h:Hp}{v:Sv}(hv:Vs E H.next args as)(hH:SR E H h)(e:(s.call args H).val=some (v,H')):
 ∃ c h' E',Ev (fun n d=>cr n d f as h) (.ok c h')/\Nx E E' H H' h h'/\SR E' H' h'/\V E' H'.next v c:=by
 unfold ny.call at e
 split at e
 ·rename_i pl X hx
  obtain⟨q,e2,e3⟩:=Lf.T.mZ e
  split at e3
  ·rename_i w ws' H1 ai7
   cases e3
   obtain⟨E2,E0,H0,ws,a1,a2,n1,S2,s2,d1,d2,d3,d4,_,_⟩:=KJ s.P (X:=⟨H,1,[]⟩) hH (aeO hH E.A rfl) hv hx
   have ha2:a2=[]:=by cases d2;rfl
   rw[ha2,List.append_nil]at d1
   subst d1
   have d3':=d3 []
   rw[List.append_nil]at d3'
   obtain⟨c,h',E1,ws1,H1',k1,X1,S1,f1,v1⟩:=k pl q ws H0 E0.tg h as e2 d3' (Vs.QY d4) (aeQ s2.S0)
   rw[ai7]at f1
   cases f1
   have hb0: ∀ p,p∈X.rn->p.2<X.H.next:=fun p hp=>by
    obtain⟨_,⟨R,oR,_⟩,_,_⟩:=s2.rn p hp
    exact(S2.row _ _ oR).1
   have Dv: ∃ E':En,(∀ r,r<X.H.next->E'.K r=E2.K r/\E'.tk r=E2.tk r)/\(∀ j,E'.K (X.H.next+j)=E1.K j/\E'.tk (X.H.next+j)=E1.tk j)/\E'.G=E1.G/\E'.A=E2.A:=
    ⟨⟨fun r=>if r<X.H.next then E2.K r else E1.K (r - X.H.next),fun r=>if r<X.H.next then E2.tk r else E1.tk (r - X.H.next),E1.G,E2.A⟩,fun r hr=>⟨if_pos hr,if_pos hr⟩,fun j=>by
      show(if _ then _ else _)=_/\(if _ then _ else _)=_
      rw[if_neg (by omega),if_neg (by omega),Nat.add_sub_cancel_left]
      exact⟨rfl,rfl⟩,rfl,rfl⟩
   obtain⟨E',P5,hKn,ZB,hEA⟩:=Dv
   have hN:(CK X.rn X.H H1).next=X.H.next+H1.next:=rfl
   have acv: ∀ {j g:Nat} {l:List Sv},H1.cw.get j=some (.o g l)->g≠0->(E1.K j).av=(E0.K g).av:=by
    intro j g l hj hg
    obtain⟨_,id,row,k1,k2,k3,k4⟩:=S1.row _ _ hj
    rw[k4 hg,X1.A]
    rfl
   have T3: ∀ j,j<H1.next->H8 X.rn X.H.next H1 j<X.H.next+H1.next/\(E'.K (H8 X.rn X.H.next H1 j)).av=(E1.K j).av/\(isRef (E1.K j).av=true∨E'.K (H8 X.rn X.H.next H1 j)=E1.K j):=by
    intro j hj
    have plain:X.H.next+j<X.H.next+H1.next/\(E'.K (X.H.next+j)).av=(E1.K j).av/\(isRef (E1.K j).av=true∨E'.K (X.H.next+j)=E1.K j):=⟨by omega,by rw[(hKn j).1],.inr (hKn j).1⟩
    unfold H8
    split
    ·rename_i g l hg
     cases hb:Nat.beq g 0 with
     |true=>exact plain
     |false=>
      have hg0:g≠0:=fun e=>by subst e;cases hb
      simp only[cond_false]
      cases hl:look g X.rn with
      |none=>exact plain
      |some r=>
       have hm:=uG hl
       have hr:=hb0 _ hm
       obtain⟨_,_,_,q4⟩:=s2.rn _ hm
       have hmk:=acv hg hg0
       obtain⟨_,id,row,k1,_⟩:=S1.row _ _ hg
       refine⟨by show r<_;have:=hr;simp only at this;omega,?_,.inl (by rw[k1];rfl)⟩
       rw[(P5 r hr).1,hmk]
       exact congrArg Kr.av q4.symm
    ·exact plain
   have RN:Rn E1 H1.next E' (CK X.rn X.H H1).next (H8 X.rn X.H.next H1) X.H.next:=
    ⟨fun j hj=>(T3 j hj).1,fun j hj=>(T3 j hj).2,fun m hm _=>⟨by rw[hN];omega,(hKn m).2⟩,by rw[ZB];exact fun _ _ e=>e⟩
   have NB: ∀ {j id:Nat},own (oK H0) j->r9 (E0.tg.K j).av=some id-> ∃ r,(j,r)∈X.rn/\own X.H r/\r9 (E2.K r).av=some id:=by
    intro j id o e
    obtain⟨r,hr⟩:=s2.ow j (yQ o)
    obtain⟨_,o2,_,q4⟩:=s2.rn _ hr
    exact⟨r,hr,o2,by rw[<-show E0.K j=E2.K r from q4];exact e⟩
   have vG: ∀ {r:Nat} {Q:Row},(Eu X.rn X.H).cw.get r=some Q->X.H.cw.get r=some Q/\r<X.H.next/\(∀ id,Q.live=true->r9 (E2.K r).av=some id-> ∀ j,own (oK H0) j->r9 (E0.tg.K j).av≠some id):=by
    intro r Q hq
    obtain⟨a,b⟩:=Ew hq
    refine⟨a,(S2.row _ _ a).1,fun id lv e j o e2=>?_⟩
    obtain⟨r',hr',o',e'⟩:=NB o e2
    have:=S2.inj r r' id ⟨Q,a,lv⟩ o' e e'
    subst this
    exact b j hr'
   have T4: ∀ {r:Nat} {Q:Row},(CK X.rn X.H H1).cw.get r=some Q->(∃ j R,j<H1.next/\H1.cw.get j=some R/\H8 X.rn X.H.next H1 j=r/\Q=H9 X.rn X.H.next X.H H1 R)∨(Eu X.rn X.H).cw.get r=some Q:=fun hq=>CL hq
   have T5: ∀ {r:Nat},own (CK X.rn X.H H1) r->(∃ j,j<H1.next/\own H1 j/\H8 X.rn X.H.next H1 j=r)∨(r<X.H.next/\own X.H r/\(∀ id,r9 (E2.K r).av=some id-> ∀ j,own (oK H0) j->r9 (E0.tg.K j).av≠some id)):=by
    rintro r ⟨Q,q1,q2⟩
    rcases T4 q1 with⟨j,R,a,b,c,d⟩|q
    ·exact .inl ⟨j,a,⟨R,b,by rw[d,KK]at q2;exact q2⟩,c⟩
    ·obtain⟨a,b,c⟩:=vG q
     exact .inr ⟨b,⟨Q,a,q2⟩,fun id e=>c id q2 e⟩
   have acw: ∀ {j id:Nat},own H1 j->r9 (E1.K j).av=some id->(∃ j0,own (oK H0) j0/\r9 (E0.tg.K j0).av=some id)∨h.next<=id:=fun o e=>X1.ow _ _ o e
   have acx: ∀ {j r id:Nat},own H1 j->r9 (E1.K j).av=some id->own X.H r->r9 (E2.K r).av=some id->(∀ id,r9 (E2.K r).av=some id-> ∀ j,own (oK H0) j->r9 (E0.tg.K j).av≠some id)->False:=by
    intro j r id o e o' e' hn
    rcases acw o e with⟨j0,a,b⟩|a
    ·exact hn id e' j0 a b
    ·have:=S2.lt r id o' e';omega
   refine⟨c,h',E',k1,n1.trans ⟨⟨fun r hr=>(P5 r hr).1,fun r hr=>(P5 r hr).2,?_,hEA⟩,by rw[hN];omega,X1.FJ,?_,?_,?_⟩,⟨?_,?_,?_,?_⟩,?_⟩
   ·rw[ZB]
    have:=X1.G
    rw[show E0.tg.G=E2.G from s2.G]at this
    exact this
   ·intro r id o e
    rcases T5 o with⟨j,a,b,cc⟩|⟨a,b,_⟩
    ·rw[<-cc,(T3 j a).2.1]at e
     rcases acw b e with⟨j0,o0,e0⟩|q
     ·obtain⟨r',_,o',e'⟩:=NB o0 e0
      exact .inl ⟨r',o',e'⟩
     ·exact .inr q
    ·rw[(P5 r a).1]at e;exact .inl ⟨r,b,e⟩
   ·intro id row e
    rw[ZB]at e
    rcases X1.gw id row e with q|⟨j0,o0,e0⟩|q
    ·rw[show E0.tg.G=E2.G from s2.G]at q;exact .inl q
    ·obtain⟨r',_,o',e'⟩:=NB o0 e0
     exact .inr (.inl ⟨r',o',e'⟩)
    ·exact .inr (.inr q)
   ·intro id hi hn
    refine X1.fr id hi fun j o e=>?_
    obtain⟨r',_,o',e'⟩:=NB o e
    exact hn r' o' e'
   ·
    intro r Q hq
    rcases T4 hq with⟨j,R,a,b,cc,rfl⟩|q
    ·subst cc
     refine⟨(T3 j a).1,?_⟩
     obtain⟨_,s1⟩:=S1.row _ _ b
     have CB:=(T3 j a).2.1
     cases R with
     |o g l=>
      obtain⟨id,row,k1,k2,k3,k4⟩:=s1
      refine⟨id,row,by rw[CB];exact k1,k2,Vs.rn RN k3,fun hg=>?_⟩
      rw[CB]
      cases hb:Nat.beq g 0 with
      |true=>rw[hb]at hg;exact(hg rfl).elim
      |false=>
       have hg0:g≠0:=fun e=>by subst e;cases hb
       rw[hb]at hg
       simp only[cond_false]at hg ⊢
       cases hl:look g X.rn with
       |none=>rw[hl]at hg;exact(hg rfl).elim
       |some r=>
        rw[hl]at hg
        simp only at hg ⊢
        have hm:=uG hl
        obtain⟨_,⟨Rr,oR,lR⟩,_,q4⟩:=s2.rn _ hm
        have hmk:=acv b hg0
        rw[hmk,show E0.K g=E2.K r from q4,hEA]
        unfold acu at hg ⊢
        have oR:X.H.cw.get r=some Rr:=oR
        rw[oR]at hg ⊢
        cases Rr with
        |o g' l'=>
         obtain⟨_,_,_,_,_,_,t4⟩:=S2.row _ _ oR
         exact t4 hg
        | _=>exact(hg rfl).elim
     |zo l=>
      obtain⟨id,row,k1,k2,k3⟩:=s1
      exact⟨id,row,by rw[CB];exact k1,by rw[ZB];exact k2,Vs.rn RN k3⟩
     |l t x=>
      have hK:E'.K (H8 X.rn X.H.next H1 j)=E1.K j:=by unfold H8;rw[b];exact(hKn j).1
      rw[hK]
      exact LR.mono (by rw[ZB];exact fun _ _ e=>e) (fun _ _ _ e=>e) s1
     |z t x=>
      have hK:E'.K (H8 X.rn X.H.next H1 j)=E1.K j:=by unfold H8;rw[b];exact(hKn j).1
      rw[hK]
      exact LR.mono (by rw[ZB];exact fun _ _ e=>e) (fun _ _ _ e=>by rw[ZB];exact e) s1
    ·obtain⟨a,b,hn⟩:=vG q
     obtain⟨_,s1⟩:=S2.row _ _ a
     refine⟨by rw[hN];omega,?_⟩
     rw[(P5 r b).1]
     have le2:Bh E2 E' X.H.next:=⟨fun r hr=>(P5 r hr).1,fun r hr=>(P5 r hr).2,by rw[ZB];have:=X1.G;rw[show E0.tg.G=E2.G from s2.G]at this;exact this,hEA⟩
     refine s1.mono le2 (by rw[hN];omega) fun lv id row e1 e2=>?_
     have qd:=S2.lt r id ⟨Q,a,lv⟩ e1
     rw[X1.fr id qd fun j o e=>hn id lv e1 j o e]
     exact e2
   ·intro r r' id o o' e e'
    rcases T5 o with⟨j,a,b,rfl⟩|⟨a,b,hn⟩<;>rcases T5 o' with⟨j',a',b',rfl⟩|⟨a',b',Y7⟩
    ·rw[(T3 j a).2.1]at e;rw[(T3 j' a').2.1]at e'
     rw[S1.inj j j' id b b' e e']
    ·rw[(T3 j a).2.1]at e;rw[(P5 r' a').1]at e'
     exact(acx b e b' e' Y7).elim
    ·rw[(T3 j' a').2.1]at e';rw[(P5 r a).1]at e
     exact(acx b' e' b e hn).elim
    ·rw[(P5 r a).1]at e;rw[(P5 r' a').1]at e'
     exact S2.inj r r' id b b' e e'
   ·intro r id o e
    rcases T5 o with⟨j,a,b,rfl⟩|⟨a,b,hn⟩
    ·rw[(T3 j a).2.1]at e;exact S1.lt j id b e
    ·rw[(P5 r a).1]at e;exact Nat.lt_of_lt_of_le (S2.lt r id b e) X1.FJ
   ·intro id row e
    rw[ZB]at e
    obtain⟨g1,g2,g3⟩:=S1.g id row e
    refine⟨g1,g2,fun r o e2=>?_⟩
    rcases T5 o with⟨j,a,b,rfl⟩|⟨a,b,hn⟩
    ·rw[(T3 j a).2.1]at e2;exact g3 j b e2
    ·rw[(P5 r a).1]at e2
     rcases X1.gw id row e with q|⟨j0,o0,e0⟩|q
     ·rw[show E0.tg.G=E2.G from s2.G]at q
      exact(S2.g id row q).2.2 r b e2
     ·exact hn id e2 j0 o0 e0
     ·have:=S2.lt r id b e2;omega
   ·cases v1 with
    |cons x _=>exact V.rn RN x
  ·cases e3
 ·cases e
end Lf
end Go.Ab

noncomputable section
namespace Go.Ab
namespace Lf
@[reducible] noncomputable def cf(l:List Ty):Type:=List.rec Unit (fun t _ ih=>den t×ih) l
def cq(l:List Ty):cf l->List Pl:=List.rec (motive:=fun l=>cf l->List Pl) (fun _=>[]) (fun t _ ih x=>⟨t,x.1⟩::ih x.2) l
def toT(l:List Ty):List Pl->Option (cf l):=List.rec (motive:=fun l=>List Pl->Option (cf l))
 (fun pl=>match pl with
  | []=>some ()
  | _::_=>none)
 (fun t _ ih pl=>match pl with
  |⟨t',x⟩::r=>(match zk t' t with
   |some ⟨e⟩=>(match ih r with
    |some y=>some (e▸x,y)
    |none=>none)
   |none=>none)
  | []=>none) l
theorem rD: ∀ {l:List Ty} {pl:List Pl} {x:cf l},toT l pl=some x->pl=cq l x
 | [],pl,x,h=>by
  cases pl with
  |nil=>rfl
  |cons _ _=>cases h
 |t::l,pl,x,h=>by
  cases pl with
  |nil=>cases h
  |cons p r=>
   obtain⟨t',y⟩:=p
   change (match zk t' t with|some ⟨e⟩=>(match toT l r with|some z=>some (e▸y,z)|none=>none)|none=>none)=some x at h
   split at h
   ·rename_i q hq
    cases q
    split at h
    ·rename_i z hz
     cases h
     rw[rD hz];rfl
    ·cases h
   ·cases h
def T.map{α β:Type}(f:α->β)(x:T α):T β:=x.bd fun a=>.ok (f a)
theorem T.FX{α β:Type}{f:α->β}{x:T α}{b:β}(h:(x.map f).val=some b): ∃ a,x.val=some a/\b=f a:=by
 obtain⟨a,h1,h2⟩:=T.mZ h
 cases h2
 exact⟨a,h1,rfl⟩
def pW(P:qH)(ptr:List Nat)(Q:qH)(ti to:List Ty)(g:cf ti->T (cf to)):ny:=⟨P,ptr,Q,fun pl=>match toT ti pl with
 |some x=>(g x).map (cq to)
 |none=>.bad⟩
theorem tw{call:o7}{cr:cx}(C:w8 call cr){f:FuncId}{b:Dj}(hb:u9 cr f b)(AL:Nat.ble b.ntmps 512=true){L:Nat->Option rk}(hL:wL Rx.w cr L b.code){m:Nat}{P:qH}{ptr:List Nat}{Q:qH}{ti to:List Ty}{g:cf ti->T (cf to)}
 (h0:oD (fun g=> !(Nat.beq g 0)) ptr=true)(hf: ∀ x y,(g x).val=some y->(qA P ptr Q L b m call (cq ti x)).val=some (cq to y)):(pW P ptr Q ti to g).Ok f cr:=by
 refine acs C hb (Nat.le_of_ble_eq_true AL) hL (m:=m) (fun g hg e=>?_) fun pl q h=>?_
 ·rw[pQ,List.all_eq_true]at h0
  have:=h0 g hg
  subst e
  cases this
 ·change (match toT ti pl with|some x=>(g x).map (cq to)|none=>.bad).val=some q at h
  split at h
  ·rename_i x hx
   obtain⟨y,h1,h2⟩:=T.FX h
   rw[rD hx,h2]
   exact hf x y h1
  ·cases h
def QZ(l:AN)(ti:List Ty)(g:cf ti->T (Nat×List Pl)):rk:=l.pc fun pl=>match toT ti pl with
 |some x=>g x
 |none=>.bad
theorem zY{call:o7}{cr:cx}(C:w8 call cr){l:AN}{L:Nat->Option rk}{m:Nat}(hL:wL Rx.w cr L l.body){ti:List Ty}{g:cf ti->T (Nat×List Pl)}(hf: ∀ x k q,(g x).val=some (k,q)->uh (l.step L call m) (cq ti x) k q):
 rQ Rx.w (QZ l ti g) (fun n d=>su (cr n d) n (.bl l.id (.lp l.body))):=by
 refine ai5 C hL (m:=m) fun pl k q h=>?_
 change (match toT ti pl with|some x=>g x|none=>.bad).val=some (k,q)at h
 split at h
 ·rename_i x hx;rw[rD hx];exact hf x k q h
 ·cases h
def KL(c:uq):List (Nat×uq):=uq.rec (fun _=>[]) [] (fun _ _ a b=>app a b) (fun _ _ _ a b=>app a b) (fun id c b=>(id,c)::b) (fun _ b=>b) (fun _=>[]) [] [] c
def T6(id:Nat)(l:List (Nat×uq)):List uq:=List.rec [] (fun p _ ih=>Bool.rec ih (p.2::ih) (Nat.beq p.1 id)) l
theorem T7{id:Nat}{l:List (Nat×uq)}{b:uq}(h:(id,b)∈l):b∈T6 id l:=by
 induction l with
 |nil=>cases h
 |cons p l ih=>
  change b∈(Bool.rec (T6 id l) (p.2::T6 id l) (Nat.beq p.1 id):List uq)
  rcases List.mem_cons.1 h with e|e
  ·rw[<-e]
   simp only[Nat.beq_refl]
   exact List.mem_cons_self
  ·cases Nat.beq p.1 id with
   |true=>exact List.mem_cons_of_mem _ (ih e)
   |false=>exact ih e
def zZ(c:uq)(id:Nat):uq:=match T6 id (KL c)with
 | [.lp b]=>b
 | _=>.bad
def JB(l:List (Nat×rk))(i:Nat):Option rk:=List.rec none (fun p _ ih=>bif Nat.beq p.1 i then some p.2 else ih) l
theorem aeS{R:Rx}{cr:cx}{L:Nat->Option rk}{c:uq}(h: ∀ p,p∈KL c-> ∀ f,L p.1=some f->rQ R f (fun n d=>su (cr n d) n (.bl p.1 p.2))):wL R cr L c:=by
 induction c with
 |sq a b xr BG=>
  have h: ∀ p,p∈app (KL a) (KL b)-> ∀ f,L p.1=some f->rQ R f (fun n d=>su (cr n d) n (.bl p.1 p.2)):=h
  rw[mP]at h
  exact⟨xr fun p hp=>h p (List.mem_append_left _ hp),BG fun p hp=>h p (List.mem_append_right _ hp)⟩
 |cif o a b xr BG=>
  have h: ∀ p,p∈app (KL a) (KL b)-> ∀ f,L p.1=some f->rQ R f (fun n d=>su (cr n d) n (.bl p.1 p.2)):=h
  rw[mP]at h
  exact⟨xr fun p hp=>h p (List.mem_append_left _ hp),BG fun p hp=>h p (List.mem_append_right _ hp)⟩
 |bl id b ih=>
  refine⟨?_,ih fun p hp=>h p (List.mem_cons_of_mem _ hp)⟩
  split
  ·rename_i f hf
   exact h (id,b) List.mem_cons_self f hf
  ·trivial
 |lp b ih=>exact ih h
 | _=>trivial
inductive vD (cr:cx) (c:uq):List (Nat×rk)->Prop
 |nil:vD cr c []
 |cons {i:Nat} {f:rk} {b:uq} {l:List (Nat×rk)}:T6 i (KL c)=[.lp b]->rQ Rx.w f (fun n d=>su (cr n d) n (.bl i (.lp b)))->vD cr c l->vD cr c ((i,f)::l)
theorem vD.wL{cr:cx}{c:uq}{l:List (Nat×rk)}(h:vD cr c l):wL Rx.w cr (JB l) c:=by
 refine aeS fun p hp f hf=>?_
 induction h with
 |nil=>cases hf
 |cons h1 h2 _ ih=>
  rename_i i g b l _
  have hf:(bif Nat.beq i p.1 then some g else JB l p.1)=some f:=hf
  cases hb:Nat.beq i p.1 with
  |true=>
   rw[hb]at hf
   cases hf
   have e:=beq_true hb
   subst e
   have:=T7 hp
   rw[h1]at this
   rw[List.mem_singleton.1 this]
   exact h2
  |false=>rw[hb]at hf;exact ih hf
def aeT(l:List (Nat×ny))(f:FuncId):Option ny:=List.rec none (fun p _ ih=>bif Nat.beq p.1 f then some p.2 else ih) l
inductive nZ (cr:cx):List (Nat×ny)->Prop
 |nil:nZ cr []
 |cons {i:Nat} {s:ny} {l:List (Nat×ny)}:s.Ok i cr->nZ cr l->nZ cr ((i,s)::l)
theorem nZ.ok{cr:cx}{l:List (Nat×ny)}(h:nZ cr l): ∀ f s,aeT l f=some s->s.Ok f cr:=by
 induction h with
 |nil=>intro f s e;cases e
 |cons h1 _ ih=>
  rename_i i t l _
  intro f s e
  have e:(bif Nat.beq i f then some t else aeT l f)=some s:=e
  cases hb:Nat.beq i f with
  |true=>rw[hb]at e;cases e;rw[<-beq_true hb];exact h1
  |false=>rw[hb]at e;exact ih f s e
end Lf
end Go.Ab
