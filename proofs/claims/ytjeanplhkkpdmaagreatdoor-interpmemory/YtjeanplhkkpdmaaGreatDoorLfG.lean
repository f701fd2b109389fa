import Derived.Test.YtjeanplhkkpdmaaGreatDoorLfE
import Derived.KernelRfl
noncomputable section
namespace Go.Ab
namespace Lf
def e1:Hq:=⟨1,.nil⟩
def abB(T:Tq)(sl:List Nat):Option (List Sv):=List.rec (some []) (fun i _ ih=>match(bif Nat.blt i 512 then T.at i else none)with
 |some v=>(match ih with
  |some vs=>some (v::vs)
  |none=>none)
 |none=>none) sl
def PR(sl:List Nat):List Sv->Tq->Tq:=List.rec (fun _ T=>T) (fun i _ ih vs T=>match vs with
 |v::vs=>ih vs (T.put i (some v))
 | []=>T) sl
def F6(sl:List Nat)(P:lV)(T:Tq)(H:Hq):Option (List Pl):=match abB T sl with
 |some vs=>(match AJ P vs ⟨H,1,[]⟩with
  |some (pl,[],_)=>some pl
  | _=>none)
 |none=>none
def mkS(sl:List Nat)(P:lV)(pl:List Pl):Option (Tq×Hq):=match j5 P pl e1 with
 |some (ws,[],H)=>some (PR sl ws Tq.none,H)
 | _=>none
theorem JS{E:En}{N:Nat}{T:Tq}{t:Tm}(hT:TV E N T t): ∀ {sl:List Nat} {vs:List Sv},abB T sl=some vs-> ∃ cs,Vs E N vs cs/\sl.length=cs.length/\ ∀ (k i:Nat),sl[k]? =some i->i<512/\ ∃ a,t.at i=some a/\cs[k]? =some a
 | [],vs,e=>by cases e;exact⟨[],.nil,rfl,fun k i h=>by simp at h⟩
 |i::sl,vs,e=>by
  change (match(bif Nat.blt i 512 then T.at i else none)with|some v=>(match abB T sl with|some vs=>some (v::vs)|none=>none)|none=>none)=some vs at e
  split at e
  ·rename_i v hv
   split at e
   ·rename_i us hu
    cases e
    obtain⟨hi,hv⟩:=iu hv
    obtain⟨a,ha,yG⟩:=hT i v (ic.1 hi) hv
    obtain⟨cs,c1,c2,c3⟩:=JS hT hu
    refine⟨a::cs,.cons yG c1,by simp[c2],fun k j h=>?_⟩
    cases k with
    |zero=>simp at h;subst h;exact⟨ic.1 hi,a,ha,rfl⟩
    |succ k=>simpa using c3 k j (by simpa using h)
   ·cases e
  ·cases e
theorem PS{E:En}{N:Nat}{t:Tm}{sl:List Nat}: ∀ (ws:List Sv) (cs:List AV) (T:Tq),Vs E N ws cs->sl.length=cs.length->(∀ (k i:Nat),sl[k]? =some i->i<512/\ ∃ a,t.at i=some a/\cs[k]? =some a)->TV E N T t->TV E N (PR sl ws T) t:=by
 induction sl with
 |nil=>intro _ _ T _ _ _ hT;exact hT
 |cons i sl ih=>
  intro ws cs T h hl hc hT
  cases h with
  |nil=>simp at hl
  |cons hw hws=>
   rename_i w c ws cs
   obtain⟨hi,a,ha,hca⟩:=hc 0 i rfl
   simp at hca
   subst hca
   refine ih _ _ _ hws (by simpa using hl) (fun k j h=>by simpa using hc (k+1) j (by simpa using h)) ?_
   intro j v hj hv
   rw[Tq.mq _ _ _ _ hi hj]at hv
   split at hv
   ·rename_i e;subst e;cases hv;exact⟨c,ha,hw⟩
   ·exact hT j v hj hv
theorem abD{E:En}{H:Hq}{h:Hp}(S:SR E H h)(A:Nat->AV)(hA:A=E.A):Sub ⟨fun _=>⟨.any,0⟩,fun _=>.any,E.G,A⟩ e1 E ⟨H,1,[]⟩ h:=by
 have no: ∀ r,¬ own e1 r:=by rintro r ⟨R,e,_⟩;cases e
 exact⟨rfl,Nat.one_pos,⟨(fun r R e=>by cases e),(fun r _ _ o=>(no r o).elim),(fun r _ o=>(no r o).elim),fun id row e=>⟨(S.g id row e).1,(S.g id row e).2.1,fun r o=>(no r o).elim⟩⟩,rfl,hA,(fun p hp=>by cases hp),fun j o=>(no j o).elim,fun _ _ _ hp=>by cases hp⟩
theorem Sub.ox{E0:En}{H0:Hq}{E E':En}{H:Hq}{X':Xq}{h:Hp}(n:Nx E E' H X'.H h h)(s:Sub E0 H0 E' X' h):Ox E E0 H H0 h h where
 A:=by rw[s.A,n.e.A]
 G:=by rw[s.G];exact n.e.G
 EC:=Nat.le_refl _
 ow j id o e:=by
  obtain⟨r,hr⟩:=s.ow j o
  obtain⟨_,o2,_,k⟩:=s.rn _ hr
  rw[k]at e
  exact n.ow r id o2 e
 gw id row e:=by rw[s.G]at e;exact n.gw id row e
 fr _ _ _:=rfl
theorem zn{sl:List Nat}{P:lV}{E:En}{T:Tq}{t:Tm}{H:Hq}{h:Hp}{pl:List Pl}(hT:TV E H.next T t)(hH:SR E H h)(e:F6 sl P T H=some pl):
 ∃ T0 H0 E0,mkS sl P pl=some (T0,H0)/\TV E0 H0.next T0 t/\SR E0 H0 h/\Ox E E0 H H0 h h:=by
 unfold F6 at e
 split at e
 ·rename_i vs jE
  split at e
  ·rename_i pl' X' hx
   cases e
   obtain⟨cs,c1,c2,c3⟩:=JS hT jE
   obtain⟨E',xh,wK,ws,a1,a2,n1,S1,s1,d1,d2,d3,d4,_,_⟩:=H9 P (X:=⟨H,1,[]⟩) hH (abD hH E.A rfl) c1 hx
   have ha2:a2=[]:=by cases d2;rfl
   rw[ha2,List.append_nil]at d1
   subst d1
   have Zo:=d3 []
   rw[List.append_nil]at Zo
   refine⟨PR sl ws Tq.none,wK,xh,?_,?_,s1.S0,s1.ox n1⟩
   ·unfold mkS;rw[Zo]
   ·exact PS _ _ _ d4 c2 c3 fun i v _ hv=>by rw[JR]at hv;cases hv
  ·cases e
 ·cases e
inductive Kd where
 |qS|rt|ex (i:Nat)
structure Ot where
 k:Kd
 sl:List Nat
 P:lV
inductive Rs where
 |next (pl:List Pl)
 |out (k:Nat) (pl:List Pl)
structure oF where
 id:Nat
 body:qR
 sl:List Nat
 P:lV
 outs:List Ot
def LM(id:Nat)(o:Oc)(k:Kd):Bool:=match o,k with
 | .exit i _ _,.qS=>Nat.beq i id
 | .ret _ _,.rt=>true
 | .exit i _ _,.ex j=>Nat.beq i j&& !(Nat.beq i id)
 | _,_=>false
def Oc.T:Oc->Tq
 | .norm t _=>t
 | .ret t _=>t
 | .exit _ t _=>t
def Oc.H:Oc->Hq
 | .norm _ h=>h
 | .ret _ h=>h
 | .exit _ _ h=>h
def F7(id:Nat)(o:Oc)(l:List Ot):Nat->Option Rs:=List.rec (fun _=>none) (fun q _ ih k=>bif LM id o q.k then(match F6 q.sl q.P o.T o.H with
 |some pl=>some (.out k pl)
 |none=>none)else ih (Nat.add k 1)) l
def oF.step(l:oF)(L:Nat->Option kE)(call:jH)(m:Nat)(pl:List Pl):T Rs:=(T.of (mkS l.sl l.P pl)).bd fun s=>(Zh L call m l.body s.1 s.2).bd fun o=>match o with
 | .norm t h=>T.of (match F6 l.sl l.P t h with
  |some pl=>some (.next pl)
  |none=>none)
 |o=>T.of (F7 l.id o l.outs 0)
inductive mm (f:List Pl->T Rs):List Pl->Nat->List Pl->Prop
 |last {pl k q}:(f pl).val=some (.out k q)->mm f pl k q
 |more {pl pl' k q}:(f pl).val=some (.next pl')->mm f pl' k q->mm f pl k q
theorem T.nX{α:Type}{x:Option α}{a:α}(h:(T.of x).val=some a):x=some a:=by cases x with
 |none=>cases h
 |some b=>exact h
theorem AK{id:Nat}{o:Oc}{k:Nat}{q:List Pl}: ∀ {l:List Ot} {j:Nat},F7 id o l j=some (.out k q)-> ∃ t,l[k - j]? =some t/\j<=k/\LM id o t.k=true/\F6 t.sl t.P o.T o.H=some q
 | [],j,e=>by cases e
 |t::l,j,e=>by
  change (bif LM id o t.k then(match F6 t.sl t.P o.T o.H with|some pl=>some (Rs.out j pl)|none=>none)else F7 id o l (Nat.add j 1))=some (.out k q)at e
  cases hb:LM id o t.k with
  |true=>
   rw[hb]at e
   simp only[cond_true]at e
   split at e
   ·rename_i pl hp
    cases e
    exact⟨t,by simp,Nat.le_refl _,hb,hp⟩
   ·cases e
  |false=>
   rw[hb]at e
   obtain⟨u,h1,h2,h3,h4⟩:=AK (l:=l) (j:=j+1) e
   have:k - j=(k - (j+1))+1:=by omega
   exact⟨u,by rw[this];simpa using h1,by omega,h3,h4⟩
theorem vA{id:Nat}{o:Oc}{pl:List Pl}: ∀ {l:List Ot} {j:Nat},F7 id o l j=some (.next pl)->False
 | [],j,e=>by cases e
 |t::l,j,e=>by
  change (bif LM id o t.k then(match F6 t.sl t.P o.T o.H with|some pl=>some (Rs.out j pl)|none=>none)else F7 id o l (Nat.add j 1))=some (.next pl)at e
  cases hb:LM id o t.k with
  |true=>
   rw[hb]at e
   simp only[cond_true]at e
   split at e<;>cases e
  |false=>rw[hb]at e;exact vA (l:=l) e
def Wa(E:En)(H:Hq)(h:Hp)(id:Nat)(t:Ot)(q:List Pl):Go.Ab.Rc->Prop
 | .ret t' h'=>t.k=.rt/\ ∃ T' H' E',mkS t.sl t.P q=some (T',H')/\Ox E E' H H' h h'/\SR E' H' h'/\TV E' H'.next T' t'
 | .exit i t' h'=>((t.k=.qS/\i=id)∨(t.k=.ex i/\i≠id))/\ ∃ T' H' E',mkS t.sl t.P q=some (T',H')/\Ox E E' H H' h h'/\SR E' H' h'/\TV E' H'.next T' t'
 | _=>False
theorem Wa.trans{E E1:En}{H H1:Hq}{h h1:Hp}(X:Ox E E1 H H1 h h1){id:Nat}{t:Ot}{q:List Pl}{r:Go.Ab.Rc}(k:Wa E1 H1 h1 id t q r):Wa E H h id t q r:=by
 cases r<;>first|exact k.elim|skip
 ·obtain⟨a,T',H',E',b,c,d,e⟩:=k;exact⟨a,T',H',E',b,X.trans c,d,e⟩
 ·obtain⟨a,T',H',E',b,c,d,e⟩:=k;exact⟨a,T',H',E',b,X.trans c,d,e⟩
section
variable {call:jH}{cf:cg}(C:rq call cf)
include C
theorem abE{l:oF}{L:Nat->Option kE}{m:Nat}(hL:nh Rx.w cf L l.body){pl:List Pl}{k:Nat}{q:List Pl}(r:mm (l.step L call m) pl k q): ∀ {E:En} {T:Tq} {t:Tm} {H:Hq} {h:Hp},mkS l.sl l.P pl=some (T,H)->TV E H.next T t->SR E H h->
 ∃ c u,Ev3 (fun n d j=>V5 j (ly (cf n d) n l.body) t h) c/\l.outs[k]? =some u/\Wa E H h l.id u q c:=by
 induction r with
 |last e=>
  intro E T t H h hm hT hH
  obtain⟨s,e1,e2⟩:=Lf.T.iW e
  have e1:=Lf.T.nX e1
  rw[hm]at e1;cases e1
  obtain⟨o,e3,e4⟩:=Lf.T.iW e2
  obtain⟨c,k1,q1⟩:=H8 C (R:=Rx.w) m l.body hL E T t H h o hT hH e3
  cases o with
  |norm T1 H1=>
   have e4:=Lf.T.nX e4
   split at e4<;>cases e4
  |ret T1 H1=>
   have e4:=Lf.T.nX e4
   obtain⟨u,u1,_,u2,u3⟩:=AK e4
   cases c with
   |ret t1 h1=>
    obtain⟨E1,X,S1,uY⟩:=q1
    obtain⟨T2,H2,E2,r1,r2,r3,r4⟩:=zn uY S1 u3
    obtain⟨M,k1⟩:=k1
    refine⟨.ret t1 h1,u,⟨M+1,fun n d j a b c=>?_⟩,by simpa using u1,?_,T2,H2,E2,r1,Ox.trans X r4,r3,r2⟩
    ·obtain⟨j',rfl⟩: ∃ j',j=j'+1:=⟨j - 1,by omega⟩
     have Ct:=k1 n d (by omega) (by omega)
     dsimp only at Ct
     show(Rc.rec Rc.bad (fun t h=>V5 j' (ly (cf n d) n l.body) t h) (fun t h=>Rc.ret t h) (fun i t h=>Rc.exit i t h) (ly (cf n d) n l.body t h):Go.Ab.Rc)=_
     rw[Ct]
    ·cases hk:u.k with
     |rt=>rfl
     |qS=>rw[hk]at u2;cases u2
     |ex i=>rw[hk]at u2;cases u2
   | _=>exact q1.elim
  |exit i T1 H1=>
   have e4:=Lf.T.nX e4
   obtain⟨u,u1,_,u2,u3⟩:=AK e4
   cases c with
   |exit i' t1 h1=>
    obtain⟨rfl,E1,X,S1,uY⟩:=q1
    obtain⟨T2,H2,E2,r1,r2,r3,r4⟩:=zn uY S1 u3
    obtain⟨M,k1⟩:=k1
    refine⟨.exit i t1 h1,u,⟨M+1,fun n d j a b c=>?_⟩,by simpa using u1,?_,T2,H2,E2,r1,Ox.trans X r4,r3,r2⟩
    ·obtain⟨j',rfl⟩: ∃ j',j=j'+1:=⟨j - 1,by omega⟩
     have Ct:=k1 n d (by omega) (by omega)
     dsimp only at Ct
     show(Rc.rec Rc.bad (fun t h=>V5 j' (ly (cf n d) n l.body) t h) (fun t h=>Rc.ret t h) (fun i t h=>Rc.exit i t h) (ly (cf n d) n l.body t h):Go.Ab.Rc)=_
     rw[Ct]
    ·cases hk:u.k with
     |rt=>rw[hk]at u2;cases u2
     |qS=>rw[hk]at u2;exact .inl ⟨rfl,beq_true u2⟩
     |ex j=>
      rw[hk]at u2
      have u2:(Nat.beq i j&& !(Nat.beq i l.id))=true:=u2
      rw[Bool.and_eq_true]at u2
      have:=beq_true u2.1
      subst this
      refine .inr ⟨rfl,fun e=>?_⟩
      rw[e,Nat.beq_refl]at u2
      cases u2.2
   | _=>exact q1.elim
 |more e _ ih=>
  intro E T t H h hm hT hH
  obtain⟨s,e1,e2⟩:=Lf.T.iW e
  have e1:=Lf.T.nX e1
  rw[hm]at e1;cases e1
  obtain⟨o,e3,e4⟩:=Lf.T.iW e2
  obtain⟨c,k1,q1⟩:=H8 C (R:=Rx.w) m l.body hL E T t H h o hT hH e3
  cases o with
  |norm T1 H1=>
   obtain⟨t1,h1,E1,rfl,X,S1,uY⟩:=q1.norm
   have e4:=Lf.T.nX e4
   split at e4
   ·rename_i pl' hp
    cases e4
    obtain⟨T2,H2,E2,r1,r2,r3,r4⟩:=zn uY S1 hp
    obtain⟨c,u,⟨M2,k2⟩,u1,u2⟩:=ih r1 r2 r3
    obtain⟨M,k1⟩:=k1
    refine⟨c,u,⟨max M M2+1,fun n d j a b c'=>?_⟩,u1,u2.trans (Ox.trans X r4)⟩
    obtain⟨j',rfl⟩: ∃ j',j=j'+1:=⟨j - 1,by omega⟩
    have Ct:=k1 n d (by omega) (by omega)
    dsimp only at Ct
    show(Rc.rec Rc.bad (fun t h=>V5 j' (ly (cf n d) n l.body) t h) (fun t h=>Rc.ret t h) (fun i t h=>Rc.exit i t h) (ly (cf n d) n l.body t h):Go.Ab.Rc)=_
    rw[Ct]
    exact k2 n d j' (by omega) (by omega) (by omega)
   ·cases e4
  |ret T1 H1=>exact(vA (Lf.T.nX e4)).elim
  |exit i T1 H1=>exact(vA (Lf.T.nX e4)).elim
def oF.pc(l:oF)(f:List Pl->T (Nat×List Pl)):kE:=fun t h=>(T.of (F6 l.sl l.P t h)).bd fun pl=>(f pl).bd fun p=>match oH l.outs p.1 with
 |some u=>(T.of (mkS u.sl u.P p.2)).bd fun s=>.ok (match u.k with
  | .qS=>.norm s.1 s.2
  | .rt=>.ret s.1 s.2
  | .ex i=>.exit i s.1 s.2)
 |none=>.bad
theorem ag2{l:oF}{L:Nat->Option kE}{m:Nat}(hL:nh Rx.w cf L l.body){f:List Pl->T (Nat×List Pl)}(hf: ∀ pl k q,(f pl).val=some (k,q)->mm (l.step L call m) pl k q):
 jU Rx.w (l.pc f) (fun n d=>ly (cf n d) n (.bl l.id (.lp l.body))):=by
 intro E T t H h o hT hH e
 obtain⟨pl,e1,e2⟩:=Lf.T.iW e
 have e1:=Lf.T.nX e1
 obtain⟨⟨k,q⟩,e3,e4⟩:=Lf.T.iW e2
 obtain⟨T0,H0,E0,r1,r2,r3,r4⟩:=zn hT hH e1
 obtain⟨c,u,k1,u1,u2⟩:=abE C hL (hf pl k q e3) r1 r2 r3
 simp only[kG]at e4
 rw[u1]at e4
 obtain⟨s,e5,e6⟩:=Lf.T.iW e4
 have e5:=Lf.T.nX e5
 have k1:=k1.diag
 have hbl: ∀ n d,ly (cf n d) n (.bl l.id (.lp l.body)) t h=(Rc.rec Rc.bad (fun t h=>Rc.norm t h) (fun t h=>Rc.ret t h) (fun i t h=>Bool.rec (Rc.exit i t h) (Rc.norm t h) (Nat.beq i l.id)) (V5 n (ly (cf n d) n l.body) t h):Go.Ab.Rc):=fun _ _=>rfl
 cases c with
 |ret t1 h1=>
  obtain⟨a,T',H',E',b,x,y,z⟩:=u2
  rw[b]at e5;cases e5
  rw[a]at e6;cases e6
  exact⟨.ret t1 h1,k1.vz fun n d p=>(hbl n d).trans (by rw[p]),E',Ox.trans r4 x,y,z⟩
 |exit i t1 h1=>
  obtain⟨a,T',H',E',b,x,y,z⟩:=u2
  rw[b]at e5;cases e5
  rcases a with⟨a,rfl⟩|⟨a,a2⟩
  ·rw[a]at e6;cases e6
   exact⟨.norm t1 h1,k1.vz fun n d p=>(hbl n d).trans (by rw[p];simp only[Nat.beq_refl]),E',Ox.trans r4 x,y,z⟩
  ·rw[a]at e6;cases e6
   refine⟨.exit i t1 h1,k1.vz fun n d p=>?_,rfl,E',Ox.trans r4 x,y,z⟩
   refine(hbl n d).trans ?_
   rw[p]
   have:Nat.beq i l.id=false:=by cases hb:Nat.beq i l.id with
    |false=>rfl
    |true=>exact(a2 (beq_true hb)).elim
   simp only[this]
 | _=>exact u2.elim
end
end Lf
end Go.Ab

noncomputable section
namespace Go.Ab
namespace Lf
def ag3(r:Nat):Option Row->Option Row
 |some (.o _ l)=>some (.o r l)
 |x=>x
def yH(n:Nat)(H:Hq):Hq:=Nat.rec H (fun i ih=>match ih.cw.get i with
 |some (.o _ l)=>mG ih i (some (.o i l))
 | _=>ih) n
def lJ(H:Hq):Hq:=yH H.next H
theorem wL(H:Hq): ∀ n,(yH n H).next=H.next/\ ∀ r,(yH n H).cw.get r=if r<n then ag3 r (H.cw.get r)else H.cw.get r
 |0=>⟨rfl,fun r=>by rw[if_neg (by omega)];rfl⟩
 |n+1=>by
  obtain⟨h1,h2⟩:=wL H n
  have hs:yH (n+1) H=(match(yH n H).cw.get n with|some (.o _ l)=>mG (yH n H) n (some (.o n l))| _=>yH n H):=rfl
  have hn:=h2 n
  rw[if_neg (by omega)]at hn
  rw[hs,hn]
  cases hg:H.cw.get n with
  |none=>
   refine⟨h1,fun r=>?_⟩
   show(yH n H).cw.get r=_
   rw[h2 r]
   by_cases e:r=n
   ·subst e;rw[if_neg (by omega),if_pos (by omega),hg];rfl
   ·by_cases e2:r<n
    ·rw[if_pos e2,if_pos (by omega)]
    ·rw[if_neg e2,if_neg (by omega)]
  |some R=>
   cases R with
   |o g l=>
    refine⟨h1,fun r=>?_⟩
    show(mG (yH n H) n (some (.o n l))).cw.get r=_
    rw[jX]
    by_cases e:r=n
    ·subst e;rw[if_pos rfl,if_pos (by omega),hg];rfl
    ·rw[if_neg e,h2 r]
     by_cases e2:r<n
     ·rw[if_pos e2,if_pos (by omega)]
     ·rw[if_neg e2,if_neg (by omega)]
   | _=>
    refine⟨h1,fun r=>?_⟩
    show(yH n H).cw.get r=_
    rw[h2 r]
    by_cases e:r=n
    ·subst e;rw[if_neg (by omega),if_pos (by omega),hg];rfl
    ·by_cases e2:r<n
     ·rw[if_pos e2,if_pos (by omega)]
     ·rw[if_neg e2,if_neg (by omega)]
theorem PT{r:Nat}{x:Option Row}{R:Row}(h:ag3 r x=some R): ∃ R0,x=some R0/\R.live=R0.live/\(R=R0∨ ∃ g l,R0=.o g l/\R=.o r l):=by
 cases x with
 |none=>cases h
 |some R0=>cases R0<;>cases h<;>first|exact⟨_,rfl,rfl,.inl rfl⟩|exact⟨_,rfl,rfl,.inr ⟨_,_,rfl,rfl⟩⟩
theorem AL{H:Hq}{r:Nat}{R:Row}(h:(lJ H).cw.get r=some R): ∃ R0,H.cw.get r=some R0/\R.live=R0.live/\(R=R0∨ ∃ g l,R0=.o g l/\R=.o r l):=by
 have e:=(wL H H.next).2 r
 have h':(yH H.next H).cw.get r=some R:=h
 rw[e]at h'
 split at h'
 ·exact PT h'
 ·exact⟨R,h',rfl,.inl rfl⟩
theorem wM{H:Hq}{r:Nat}(o:own (lJ H) r):own H r:=by
 obtain⟨R,a,b⟩:=o
 obtain⟨R0,c,d,_⟩:=AL a
 exact⟨R0,c,by rw[<-d];exact b⟩
theorem yl(H:Hq):(lJ H).next=H.next:=(wL H H.next).1
def En.tg(E:En):En:=⟨E.K,E.tk,E.G,fun g=>(E.K g).av⟩
mutual
theorem V.M3{E:En}{N:Nat}: ∀ {a c},V E N a c->V E.tg N a c
 | _,_,.i=>.i
 | _,_,.b=>.b
 | _,_,.a k=>.a k
 | _,_,.c k m=>.c k m
 | _,_,.ag k=>.ag (Vs.M3 k)
 | _,_,.tu k=>.tu (Vs.M3 k)
 | _,_,.fn k=>.fn (Vs.M3 k)
 | _,_,.rf a b=>.rf a b
 | _,_,.re a b c=>.re a b c
 | _,_,.os a b=>.os (E:=E.tg) a b
 | _,_,.se a b c d=>.se (E:=E.tg) a b c d
 | _,_,.ss a b c=>.ss a b c
 | _,_,.xo a b=>.xo a b
 | _,_,.zp k=>.zp (Vs.M3 k)
 | _,_,.zr k g s=>.zr (Vs.M3 k) g s
theorem Vs.M3{E:En}{N:Nat}: ∀ {l l'},Vs E N l l'->Vs E.tg N l l'
 | _,_,.nil=>.nil
 | _,_,.cons a b=>.cons (V.M3 a) (Vs.M3 b)
end
theorem abG{E:En}{H:Hq}{h:Hp}(S:SR E H h):SR E.tg (lJ H) h where
 row r R e:=by
  obtain⟨R0,a,_,c⟩:=AL e
  obtain⟨s1,s2⟩:=S.row r R0 a
  rw[yl]
  refine⟨s1,?_⟩
  rcases c with rfl|⟨g,l,rfl,rfl⟩
  ·cases R with
   |o g l=>
    obtain⟨id,row,k1,k2,k3,k4⟩:=s2
    have e':=(wL H H.next).2 r
    rw[if_pos s1,a]at e'
    have e2:(yH H.next H).cw.get r=some (.o g l):=e
    rw[e2]at e'
    have:g=r:=by injection e' with e';injection e' with e'
    exact⟨id,row,k1,k2,Vs.M3 k3,fun _=>by rw[this];rfl⟩
   |zo l=>obtain⟨id,row,k1,k2,k3⟩:=s2;exact⟨id,row,k1,k2,Vs.M3 k3⟩
   |l t x=>exact s2
   |z t x=>exact s2
  ·obtain⟨id,row,k1,k2,k3,_⟩:=s2
   exact⟨id,row,k1,k2,Vs.M3 k3,fun _=>rfl⟩
 inj r r' id o o' e e':=S.inj r r' id (wM o) (wM o') e e'
 lt r id o e:=S.lt r id (wM o) e
 g id row e:=by
  obtain⟨a,b,c⟩:=S.g id row e
  exact⟨a,b,fun r o=>c r (wM o)⟩
def Wb(g:Nat)(H:Hq):Option Nat:=Nat.rec none (fun i ih=>match H.cw.get i with
 |some (.o g' _)=>bif Nat.beq g g' then some i else ih
 | _=>ih) H.next
theorem Wc{g:Nat}{H:Hq}{j:Nat}(h:Wb g H=some j): ∃ l,H.cw.get j=some (.o g l):=by
 unfold Wb at h
 generalize H.next=n at h
 induction n with
 |zero=>cases h
 |succ n ih=>
  change (match H.cw.get n with|some (.o g' _)=>(bif Nat.beq g g' then some n else(Nat.rec none (fun i ih=>match H.cw.get i with|some (.o g' _)=>bif Nat.beq g g' then some i else ih| _=>ih) n:Option Nat))| _=>(Nat.rec none (fun i ih=>match H.cw.get i with|some (.o g' _)=>bif Nat.beq g g' then some i else ih| _=>ih) n:Option Nat))=some j at h
  split at h
  ·rename_i g' l hr
   cases hb:Nat.beq g g' with
   |true=>rw[hb]at h;cases h;rw[beq_true hb];exact⟨l,hr⟩
   |false=>rw[hb]at h;exact ih h
  ·exact ih h
def abH(l:List Nat)(H:Hq):Option (List Sv):=List.rec (some []) (fun g _ ih=>match Wb g H with
 |some j=>(match ih with
  |some r=>some (.rf j 0::r)
  |none=>none)
 |none=>none) l
theorem JT{E:En}{H:Hq}{h:Hp}(S:SR E H h): ∀ {l:List Nat} {vs:List Sv},(∀ g,g∈l->g≠0)->abH l H=some vs->Vs E H.next vs (l.map E.A)
 | [],vs,_,e=>by cases e;exact .nil
 |g::l,vs,h0,e=>by
  change (match Wb g H with|some j=>(match abH l H with|some r=>some (.rf j 0::r)|none=>none)|none=>none)=some vs at e
  split at e
  ·rename_i j hj
   split at e
   ·rename_i r hr
    cases e
    obtain⟨q,hq⟩:=Wc hj
    obtain⟨lt,id,row,k1,k2,k3,k4⟩:=S.row _ _ hq
    refine .cons ?_ (JT S (fun g hg=>h0 g (List.mem_cons_of_mem _ hg)) hr)
    rw[<-k4 (h0 g List.mem_cons_self),k1]
    exact .rf lt k1
   ·cases e
  ·cases e
structure iK where
 P:lV
 ptr:List Nat
 Q:lV
 f:List Pl->T (List Pl)
def iK.Ok(s:iK)(f:FuncId)(cf:cg):Prop:= ∀ (pl q:List Pl) (args:List Sv) (H0:Hq) (E0:En) (h:Hp) (as:List AV),(s.f pl).val=some q->j5 s.P pl e1=some (args,[],H0)->Vs E0 H0.next args as->SR E0 (lJ H0) h->
 ∃ c h' E1 ws H1,Ev (fun n d=>cf n d f as h) (.ok c h')/\Ox E0 E1 (lJ H0) H1 h h'/\SR E1 H1 h'/\j5 s.Q q e1=some (ws,[],H1)/\Vs E1 H1.next ws (c::s.ptr.map E0.A)
def kO(P:lV)(ptr:List Nat)(Q:lV)(L:Nat->Option kE)(b:xF)(m:Nat)(call:jH)(pl:List Pl):T (List Pl):=match j5 P pl e1 with
 |some (args,[],H0)=>(FI L b m call args (lJ H0)).bd fun p=>match abH ptr p.2 with
  |some ps=>(match AJ Q (p.1::ps) ⟨p.2,1,[]⟩with
   |some (q,[],_)=>.ok q
   | _=>.bad)
  |none=>.bad
 | _=>.bad
theorem ag4{call:jH}{cf:cg}(C:rq call cf){f:FuncId}{b:xF}(hb:qa cf f b)(s7:b.ntmps<=512){L:Nat->Option kE}(hL:nh Rx.w cf L b.code){m:Nat}{s:iK}(h0: ∀ g,g∈s.ptr->g≠0)
 (hf: ∀ pl q,(s.f pl).val=some q->(kO s.P s.ptr s.Q L b m call pl).val=some q):s.Ok f cf:=by
 intro pl q args H0 E0 h as e hP hv hS
 have Ux:=hf pl q e
 unfold kO at Ux
 rw[hP]at Ux
 simp only at Ux
 obtain⟨⟨v,H1⟩,a1,a2⟩:=Lf.T.iW Ux
 obtain⟨c,h',E1,k1,X1,S1,hv1⟩:=F4 C (R:=Rx.w) hb s7 hL (by rw[yl];exact hv) hS a1
 simp only at a2
 split at a2
 ·rename_i ps Uw
  split at a2
  ·rename_i q' X2 hx
   cases a2
   have oi:=JT S1 h0 Uw
   obtain⟨E2,E2',H2',ws,c1,c2,n2,S2,s2,d1,d2,d3,d4,_,_⟩:=H9 s.Q (X:=⟨H1,1,[]⟩) S1 (abD S1 E1.A rfl) (Vs.cons hv1 oi) hx
   have YZ:c2=[]:=by cases d2;rfl
   rw[YZ,List.append_nil]at d1
   have Zo:=d3 []
   rw[List.append_nil]at Zo
   refine⟨c,h',E2',ws,H2',k1,Ox.trans X1 (s2.ox n2),s2.S0,Zo,?_⟩
   have X1A:E1.A=E0.A:=(X1:Ox E0 E1 (lJ H0) H1 h h').A
   rw[<-d1,X1A]at d4
   exact d4
  ·cases a2
 ·cases a2
end Lf
end Go.Ab

noncomputable section
namespace Go.Ab
namespace Lf
section
variable (f:Nat->Nat)(b:Nat)
mutual
def ED:Sv->Sv
 | .i k n=>.i k n
 | .b x=>.b x
 | .a v=>.a v
 | .c m t x=>.c (bif Nat.beq m 0 then 0 else Nat.add b m) t x
 | .ag l=>.ag (LN l)
 | .tu l=>.tu (LN l)
 | .fn g l=>.fn g (LN l)
 | .rf r o=>.rf (f r) o
 | .re r s i o=>.re (f r) s i o
 | .os r s=>.os (f r) s
 | .ss r s o n=>.ss (f r) s o n
 | .xo r s o n=>.xo (f r) s o n
 | .zp l=>.zp (LN l)
def LN:List Sv->List Sv
 | []=>[]
 |a::l=>ED a::LN l
end
end
def isRef:AV->Bool
 | .ref _ _=>true
 | _=>false
structure Rn(E1:En)(N1:Nat)(E:En)(N:Nat)(f:Nat->Nat)(b:Nat):Prop where
 lt: ∀ j,j<N1->f j<N
 K: ∀ j,j<N1->(E.K (f j)).av=(E1.K j).av/\(isRef (E1.K j).av=true∨E.K (f j)=E1.K j)
 tk: ∀ m,m<N1->m≠0->b+m<N/\E.tk (b+m)=E1.tk m
 G:Vu E1.G E.G
section
variable {E1:En}{N1:Nat}{E:En}{N:Nat}{f:Nat->Nat}{b:Nat}
theorem JU: ∀ (l:List Sv),(LN f b l).length=l.length
 | []=>by unfold LN;rfl
 |a::l=>by unfold LN;simp[JU l]
mutual
theorem V.rn(R:Rn E1 N1 E N f b): ∀ {v a},V E1 N1 v a->V E N (ED f b v) a
 | _,_,.i=>by unfold ED;exact .i
 | _,_,.b=>by unfold ED;exact .b
 | _,_,.a k=>by unfold ED;exact .a k
 | _,_,.c (m:=m) k h=>by
  unfold ED
  refine .c (EV.mono R.G _ _ _ k) fun hm=>?_
  cases hb:Nat.beq m 0 with
  |true=>rw[hb]at hm;exact(hm rfl).elim
  |false=>
   have hm0:m≠0:=fun e=>by subst e;cases hb
   obtain⟨h1,h2⟩:=h hm0
   obtain⟨t1,t2⟩:=R.tk m h1 hm0
   exact⟨t1,by rw[h2];exact t2.symm⟩
 | _,_,.ag k=>by unfold ED;exact .ag (Vs.rn R k)
 | _,_,.tu k=>by unfold ED;exact .tu (Vs.rn R k)
 | _,_,.fn k=>by unfold ED;exact .fn (Vs.rn R k)
 | _,_,.rf h k=>by unfold ED;exact .rf (R.lt _ h) (by rw[(R.K _ h).1];exact k)
 | _,_,.re h k i=>by unfold ED;exact .re (R.lt _ h) (by rw[(R.K _ h).1];exact k) i
 | _,_,.os (r:=r) h k=>by
  unfold ED
  obtain⟨k1,k2⟩:=R.K _ h
  rcases k2 with k2|k2
  ·rcases k with⟨k,_⟩|⟨_,_,k⟩
   ·generalize (E1.K r).av=x at k k2;cases x<;>first|(cases k2;done)|(cases k;done)
   ·rw[k]at k2;cases k2
  ·have:=V.os (E:=E) (N:=N) (r:=f r) (R.lt _ h) (by rw[k2];exact k)
   rw[k2]at this;exact this
 | _,_,.se (r:=r) (sz:=sz) h k n o=>by
  unfold ED
  obtain⟨k1,k2⟩:=R.K _ h
  rcases k2 with k2|k2
  ·generalize (E1.K r).av=x at k k2;cases x<;>first|(cases k2;done)|(cases k;done)
  ·have:=V.se (E:=E) (N:=N) (r:=f r) (sz:=sz) (R.lt _ h) (by rw[k2];exact k) (by rw[k2];exact n) o
   rw[k2]at this;exact this
 | _,_,.ss (r:=r) h k n=>by
  unfold ED
  obtain⟨k1,k2⟩:=R.K _ h
  rcases k2 with k2|k2
  ·rw[k]at k2;cases k2
  ·exact .ss (R.lt _ h) (by rw[k2];exact k) (by rw[k2];exact n)
 | _,_,.xo h k=>by unfold ED;exact .xo (R.lt _ h) (by rw[(R.K _ h).1];exact k)
 | _,_,.zp k=>by unfold ED;exact .zp (Vs.rn R k)
 | _,_,.zr k g s=>by unfold ED;exact .zr (Vs.rn R k) (R.G _ _ g) (by rw[JU];exact s)
theorem Vs.rn(R:Rn E1 N1 E N f b): ∀ {l l'},Vs E1 N1 l l'->Vs E N (LN f b l) l'
 | _,_,.nil=>by unfold LN;exact .nil
 | _,_,.cons a k=>by unfold LN;exact .cons (V.rn R a) (Vs.rn R k)
end
end
def Zp(H:Hq)(r:Nat):Nat:=match H.cw.get r with
 |some (.o g _)=>g
 | _=>0
def F9(rn:List (Nat×Nat))(b:Nat)(H1:Hq)(j:Nat):Nat:=match H1.cw.get j with
 |some (.o g _)=>bif Nat.beq g 0 then Nat.add b j else(match look g rn with
  |some r=>r
  |none=>Nat.add b j)
 | _=>Nat.add b j
def F'(rn:List (Nat×Nat))(b:Nat)(H H1:Hq)(R:Row):Row:=match R with
 | .o g l=>.o (bif Nat.beq g 0 then 0 else(match look g rn with
  |some r=>Zp H r
  |none=>0)) (LN (F9 rn b H1) b l)
 | .zo l=>.zo (LN (F9 rn b H1) b l)
 |R=>R
def Cy(rn:List (Nat×Nat))(H:Hq):Hq:=List.rec H (fun p _ ih=>mG ih p.2 none) rn
def DI(rn:List (Nat×Nat))(b:Nat)(H H1:Hq)(n:Nat):Hq:=Nat.rec (Cy rn H) (fun j ih=>match H1.cw.get j with
 |some R=>mG ih (F9 rn b H1 j) (some (F' rn b H H1 R))
 |none=>ih) n
def AM(rn:List (Nat×Nat))(H H1:Hq):Hq:=⟨Nat.add H.next H1.next,(DI rn H.next H H1 H1.next).cw⟩
def iK.call(s:iK):List Sv->Hq->T (Sv×Hq):=fun args H=>match AJ s.P args ⟨H,1,[]⟩with
 |some (pl,[],X)=>(s.f pl).bd fun q=>(match j5 s.Q q e1 with
  |some (v::_,[],H1)=>.ok (ED (F9 X.rn X.H.next H1) X.H.next v,AM X.rn X.H H1)
  | _=>.bad)
 | _=>.bad
theorem Cz{H:Hq}: ∀ {rn:List (Nat×Nat)} {r:Nat} {R:Row},(Cy rn H).cw.get r=some R->H.cw.get r=some R/\ ∀ j,(j,r)∉rn
 | [],r,R,h=>⟨h,fun j hj=>by cases hj⟩
 |p::rn,r,R,h=>by
  have h:(mG (Cy rn H) p.2 none).cw.get r=some R:=h
  rw[jX]at h
  split at h
  ·cases h
  ·rename_i ne
   obtain⟨a,b⟩:=Cz h
   refine⟨a,fun j hj=>?_⟩
   rcases List.mem_cons.1 hj with e|e
   ·rw[<-e]at ne;exact ne rfl
   ·exact b j e
theorem AN{rn:List (Nat×Nat)}{b:Nat}{H H1:Hq}: ∀ {n r:Nat} {Q:Row},(DI rn b H H1 n).cw.get r=some Q->(∃ j R,j<n/\H1.cw.get j=some R/\F9 rn b H1 j=r/\Q=F' rn b H H1 R)∨(Cy rn H).cw.get r=some Q
 |0,r,Q,h=>.inr h
 |n+1,r,Q,h=>by
  have h:(match H1.cw.get n with|some R=>mG (DI rn b H H1 n) (F9 rn b H1 n) (some (F' rn b H H1 R))|none=>DI rn b H H1 n).cw.get r=some Q:=h
  split at h
  ·rename_i R hR
   rw[jX]at h
   split at h
   ·rename_i e;cases h;exact .inl ⟨n,R,Nat.lt_succ_self _,hR,e.symm,rfl⟩
   ·rcases AN h with⟨j,R',a,c⟩|k
    ·exact .inl ⟨j,R',Nat.lt_succ_of_lt a,c⟩
    ·exact .inr k
  ·rcases AN h with⟨j,R',a,c⟩|k
   ·exact .inl ⟨j,R',Nat.lt_succ_of_lt a,c⟩
   ·exact .inr k
theorem Ia{rn:List (Nat×Nat)}{b:Nat}{H H1:Hq}{R:Row}:(F' rn b H H1 R).live=R.live:=by cases R<;>rfl
theorem Wd{s:iK}{f:FuncId}{cf:cg}(k:s.Ok f cf){E:En}{args:List Sv}{as:List AV}{H H':Hq}{h:Hp}{v:Sv}(hv:Vs E H.next args as)(hH:SR E H h)(e:(s.call args H).val=some (v,H')):
 ∃ c h' E',Ev (fun n d=>cf n d f as h) (.ok c h')/\Nx E E' H H' h h'/\SR E' H' h'/\V E' H'.next v c:=by
 unfold iK.call at e
 split at e
 ·rename_i pl X hx
  obtain⟨q,e2,e3⟩:=Lf.T.iW e
  split at e3
  ·rename_i w ws' H1 ag5
   cases e3
   obtain⟨E2,E0,H0,ws,a1,a2,n1,S2,s2,d1,d2,d3,d4,_,_⟩:=H9 s.P (X:=⟨H,1,[]⟩) hH (abD hH E.A rfl) hv hx
   have ha2:a2=[]:=by cases d2;rfl
   rw[ha2,List.append_nil]at d1
   subst d1
   have Zo:=d3 []
   rw[List.append_nil]at Zo
   obtain⟨c,h',E1,ws1,H1',k1,X1,S1,f1,v1⟩:=k pl q ws H0 E0.tg h as e2 Zo (Vs.M3 d4) (abG s2.S0)
   rw[ag5]at f1
   cases f1
   have hb0: ∀ p,p∈X.rn->p.2<X.H.next:=fun p hp=>by
    obtain⟨_,⟨R,oR,_⟩,_,_⟩:=s2.rn p hp
    exact(S2.row _ _ oR).1
   have BC: ∃ E':En,(∀ r,r<X.H.next->E'.K r=E2.K r/\E'.tk r=E2.tk r)/\(∀ j,E'.K (X.H.next+j)=E1.K j/\E'.tk (X.H.next+j)=E1.tk j)/\E'.G=E1.G/\E'.A=E2.A:=
    ⟨⟨fun r=>if r<X.H.next then E2.K r else E1.K (r - X.H.next),fun r=>if r<X.H.next then E2.tk r else E1.tk (r - X.H.next),E1.G,E2.A⟩,fun r hr=>⟨if_pos hr,if_pos hr⟩,fun j=>by
      show(if _ then _ else _)=_/\(if _ then _ else _)=_
      rw[if_neg (by omega),if_neg (by omega),Nat.add_sub_cancel_left]
      exact⟨rfl,rfl⟩,rfl,rfl⟩
   obtain⟨E',LO,hKn,We,hEA⟩:=BC
   have hN:(AM X.rn X.H H1).next=X.H.next+H1.next:=rfl
   have Zq: ∀ {j g:Nat} {l:List Sv},H1.cw.get j=some (.o g l)->g≠0->(E1.K j).av=(E0.K g).av:=by
    intro j g l hj hg
    obtain⟨_,id,row,k1,k2,k3,k4⟩:=S1.row _ _ hj
    rw[k4 hg,X1.A]
    rfl
   have PU: ∀ j,j<H1.next->F9 X.rn X.H.next H1 j<X.H.next+H1.next/\(E'.K (F9 X.rn X.H.next H1 j)).av=(E1.K j).av/\(isRef (E1.K j).av=true∨E'.K (F9 X.rn X.H.next H1 j)=E1.K j):=by
    intro j hj
    have plain:X.H.next+j<X.H.next+H1.next/\(E'.K (X.H.next+j)).av=(E1.K j).av/\(isRef (E1.K j).av=true∨E'.K (X.H.next+j)=E1.K j):=⟨by omega,by rw[(hKn j).1],.inr (hKn j).1⟩
    unfold F9
    split
    ·rename_i g l hg
     cases hb:Nat.beq g 0 with
     |true=>exact plain
     |false=>
      have hg0:g≠0:=fun e=>by subst e;cases hb
      simp only[cond_false]
      cases hl:look g X.rn with
      |none=>exact plain
      |some r=>
       have hm:=rr hl
       have hr:=hb0 _ hm
       obtain⟨_,_,_,q4⟩:=s2.rn _ hm
       have hmk:=Zq hg hg0
       obtain⟨_,id,row,k1,_⟩:=S1.row _ _ hg
       refine⟨by show r<_;have:=hr;simp only at this;omega,?_,.inl (by rw[k1];rfl)⟩
       rw[(LO r hr).1,hmk]
       exact congrArg Kr.av q4.symm
    ·exact plain
   have RN:Rn E1 H1.next E' (AM X.rn X.H H1).next (F9 X.rn X.H.next H1) X.H.next:=
    ⟨fun j hj=>(PU j hj).1,fun j hj=>(PU j hj).2,fun m hm _=>⟨by rw[hN];omega,(hKn m).2⟩,by rw[We];exact fun _ _ e=>e⟩
   have JV: ∀ {j id:Nat},own (lJ H0) j->oM (E0.tg.K j).av=some id-> ∃ r,(j,r)∈X.rn/\own X.H r/\oM (E2.K r).av=some id:=by
    intro j id o e
    obtain⟨r,hr⟩:=s2.ow j (wM o)
    obtain⟨_,o2,_,q4⟩:=s2.rn _ hr
    exact⟨r,hr,o2,by rw[<-show E0.K j=E2.K r from q4];exact e⟩
   have uL: ∀ {r:Nat} {Q:Row},(Cy X.rn X.H).cw.get r=some Q->X.H.cw.get r=some Q/\r<X.H.next/\(∀ id,Q.live=true->oM (E2.K r).av=some id-> ∀ j,own (lJ H0) j->oM (E0.tg.K j).av≠some id):=by
    intro r Q hq
    obtain⟨a,b⟩:=Cz hq
    refine⟨a,(S2.row _ _ a).1,fun id lv e j o e2=>?_⟩
    obtain⟨r',hr',o',e'⟩:=JV o e2
    have:=S2.inj r r' id ⟨Q,a,lv⟩ o' e e'
    subst this
    exact b j hr'
   have PV: ∀ {r:Nat} {Q:Row},(AM X.rn X.H H1).cw.get r=some Q->(∃ j R,j<H1.next/\H1.cw.get j=some R/\F9 X.rn X.H.next H1 j=r/\Q=F' X.rn X.H.next X.H H1 R)∨(Cy X.rn X.H).cw.get r=some Q:=fun hq=>AN hq
   have PW: ∀ {r:Nat},own (AM X.rn X.H H1) r->(∃ j,j<H1.next/\own H1 j/\F9 X.rn X.H.next H1 j=r)∨(r<X.H.next/\own X.H r/\(∀ id,oM (E2.K r).av=some id-> ∀ j,own (lJ H0) j->oM (E0.tg.K j).av≠some id)):=by
    rintro r ⟨Q,q1,q2⟩
    rcases PV q1 with⟨j,R,a,b,c,d⟩|q
    ·exact .inl ⟨j,a,⟨R,b,by rw[d,Ia]at q2;exact q2⟩,c⟩
    ·obtain⟨a,b,c⟩:=uL q
     exact .inr ⟨b,⟨Q,a,q2⟩,fun id e=>c id q2 e⟩
   have Zr: ∀ {j id:Nat},own H1 j->oM (E1.K j).av=some id->(∃ j0,own (lJ H0) j0/\oM (E0.tg.K j0).av=some id)∨h.next<=id:=fun o e=>X1.ow _ _ o e
   have Zs: ∀ {j r id:Nat},own H1 j->oM (E1.K j).av=some id->own X.H r->oM (E2.K r).av=some id->(∀ id,oM (E2.K r).av=some id-> ∀ j,own (lJ H0) j->oM (E0.tg.K j).av≠some id)->False:=by
    intro j r id o e o' e' hn
    rcases Zr o e with⟨j0,a,b⟩|a
    ·exact hn id e' j0 a b
    ·have:=S2.lt r id o' e';omega
   refine⟨c,h',E',k1,n1.trans ⟨⟨fun r hr=>(LO r hr).1,fun r hr=>(LO r hr).2,?_,hEA⟩,by rw[hN];omega,X1.EC,?_,?_,?_⟩,⟨?_,?_,?_,?_⟩,?_⟩
   ·rw[We]
    have:=X1.G
    rw[show E0.tg.G=E2.G from s2.G]at this
    exact this
   ·intro r id o e
    rcases PW o with⟨j,a,b,cc⟩|⟨a,b,_⟩
    ·rw[<-cc,(PU j a).2.1]at e
     rcases Zr b e with⟨j0,o0,e0⟩|q
     ·obtain⟨r',_,o',e'⟩:=JV o0 e0
      exact .inl ⟨r',o',e'⟩
     ·exact .inr q
    ·rw[(LO r a).1]at e;exact .inl ⟨r,b,e⟩
   ·intro id row e
    rw[We]at e
    rcases X1.gw id row e with q|⟨j0,o0,e0⟩|q
    ·rw[show E0.tg.G=E2.G from s2.G]at q;exact .inl q
    ·obtain⟨r',_,o',e'⟩:=JV o0 e0
     exact .inr (.inl ⟨r',o',e'⟩)
    ·exact .inr (.inr q)
   ·intro id hi hn
    refine X1.fr id hi fun j o e=>?_
    obtain⟨r',_,o',e'⟩:=JV o e
    exact hn r' o' e'
   ·
    intro r Q hq
    rcases PV hq with⟨j,R,a,b,cc,rfl⟩|q
    ·subst cc
     refine⟨(PU j a).1,?_⟩
     obtain⟨_,s1⟩:=S1.row _ _ b
     have yG:=(PU j a).2.1
     cases R with
     |o g l=>
      obtain⟨id,row,k1,k2,k3,k4⟩:=s1
      refine⟨id,row,by rw[yG];exact k1,k2,Vs.rn RN k3,fun hg=>?_⟩
      rw[yG]
      cases hb:Nat.beq g 0 with
      |true=>rw[hb]at hg;exact(hg rfl).elim
      |false=>
       have hg0:g≠0:=fun e=>by subst e;cases hb
       rw[hb]at hg
       simp only[cond_false]at hg ⊢
       cases hl:look g X.rn with
       |none=>rw[hl]at hg;exact(hg rfl).elim
       |some r=>
        rw[hl]at hg
        simp only at hg ⊢
        have hm:=rr hl
        obtain⟨_,⟨Rr,oR,lR⟩,_,q4⟩:=s2.rn _ hm
        have hmk:=Zq b hg0
        rw[hmk,show E0.K g=E2.K r from q4,hEA]
        unfold Zp at hg ⊢
        have oR:X.H.cw.get r=some Rr:=oR
        rw[oR]at hg ⊢
        cases Rr with
        |o g' l'=>
         obtain⟨_,_,_,_,_,_,t4⟩:=S2.row _ _ oR
         exact t4 hg
        | _=>exact(hg rfl).elim
     |zo l=>
      obtain⟨id,row,k1,k2,k3⟩:=s1
      exact⟨id,row,by rw[yG];exact k1,by rw[We];exact k2,Vs.rn RN k3⟩
     |l t x=>
      have hK:E'.K (F9 X.rn X.H.next H1 j)=E1.K j:=by unfold F9;rw[b];exact(hKn j).1
      rw[hK]
      exact LR.mono (by rw[We];exact fun _ _ e=>e) (fun _ _ _ e=>e) s1
     |z t x=>
      have hK:E'.K (F9 X.rn X.H.next H1 j)=E1.K j:=by unfold F9;rw[b];exact(hKn j).1
      rw[hK]
      exact LR.mono (by rw[We];exact fun _ _ e=>e) (fun _ _ _ e=>by rw[We];exact e) s1
    ·obtain⟨a,b,hn⟩:=uL q
     obtain⟨_,s1⟩:=S2.row _ _ a
     refine⟨by rw[hN];omega,?_⟩
     rw[(LO r b).1]
     have le2:zj E2 E' X.H.next:=⟨fun r hr=>(LO r hr).1,fun r hr=>(LO r hr).2,by rw[We];have:=X1.G;rw[show E0.tg.G=E2.G from s2.G]at this;exact this,hEA⟩
     refine s1.mono le2 (by rw[hN];omega) fun lv id row e1 e2=>?_
     have mQ:=S2.lt r id ⟨Q,a,lv⟩ e1
     rw[X1.fr id mQ fun j o e=>hn id lv e1 j o e]
     exact e2
   ·intro r r' id o o' e e'
    rcases PW o with⟨j,a,b,rfl⟩|⟨a,b,hn⟩<;>rcases PW o' with⟨j',a',b',rfl⟩|⟨a',b',hn'⟩
    ·rw[(PU j a).2.1]at e;rw[(PU j' a').2.1]at e'
     rw[S1.inj j j' id b b' e e']
    ·rw[(PU j a).2.1]at e;rw[(LO r' a').1]at e'
     exact(Zs b e b' e' hn').elim
    ·rw[(PU j' a').2.1]at e';rw[(LO r a).1]at e
     exact(Zs b' e' b e hn).elim
    ·rw[(LO r a).1]at e;rw[(LO r' a').1]at e'
     exact S2.inj r r' id b b' e e'
   ·intro r id o e
    rcases PW o with⟨j,a,b,rfl⟩|⟨a,b,hn⟩
    ·rw[(PU j a).2.1]at e;exact S1.lt j id b e
    ·rw[(LO r a).1]at e;exact Nat.lt_of_lt_of_le (S2.lt r id b e) X1.EC
   ·intro id row e
    rw[We]at e
    obtain⟨g1,g2,g3⟩:=S1.g id row e
    refine⟨g1,g2,fun r o e2=>?_⟩
    rcases PW o with⟨j,a,b,rfl⟩|⟨a,b,hn⟩
    ·rw[(PU j a).2.1]at e2;exact g3 j b e2
    ·rw[(LO r a).1]at e2
     rcases X1.gw id row e with q|⟨j0,o0,e0⟩|q
     ·rw[show E0.tg.G=E2.G from s2.G]at q
      exact(S2.g id row q).2.2 r b e2
     ·exact hn id e2 j0 o0 e0
     ·have:=S2.lt r id b e2;omega
   ·cases v1 with
    |cons x _=>exact V.rn RN x
  ·cases e3
 ·cases e
def inl(bk:FuncId->Option xF)(ent:FuncId->Option iK)(m d:Nat):jH:=Nat.rec (fun _ _ _=>.bad) (fun _ ih f args h=>match ent f with
 |some s=>s.call args h
 |none=>(match bk f with
  |some b=>bif Nat.ble b.ntmps 512 then FI (fun _=>none) b m ih args h else .bad
  |none=>.bad)) d
theorem PX{bk:FuncId->Option xF}{ent:FuncId->Option iK}{m:Nat}{cf:cg}(hb: ∀ f b,bk f=some b->qa cf f b)(he: ∀ f s,ent f=some s->s.Ok f cf): ∀ d,rq (inl bk ent m d) cf
 |0=>by intro E f args as H h v H' _ _ e;cases e
 |d+1=>by
  intro E f args as H h v H' hv hH e
  change (match ent f with|some s=>s.call args H|none=>(match bk f with|some b=>bif Nat.ble b.ntmps 512 then FI (fun _=>none) b m (inl bk ent m d) args H else .bad|none=>.bad)).val=some (v,H')at e
  split at e
  ·rename_i s hs
   exact Wd (he f s hs) hv hH e
  ·split at e
   ·rename_i b B8
    obtain⟨h5,e⟩:=jv e
    exact F4 (PX hb he d) (R:=Rx.s) (hb f b B8) (Nat.le_of_ble_eq_true h5) (cu _) hv hH e
   ·cases e
end Lf
end Go.Ab

noncomputable section
namespace Go.Ab
namespace Lf
@[reducible] noncomputable def cb(l:List Ty):Type:=List.rec Unit (fun t _ ih=>den t×ih) l
def cp(l:List Ty):cb l->List Pl:=List.rec (motive:=fun l=>cb l->List Pl) (fun _=>[]) (fun t _ ih x=>⟨t,x.1⟩::ih x.2) l
def toT(l:List Ty):List Pl->Option (cb l):=List.rec (motive:=fun l=>List Pl->Option (cb l))
 (fun pl=>match pl with
  | []=>some ()
  | _::_=>none)
 (fun t _ ih pl=>match pl with
  |⟨t',x⟩::r=>(match yk t' t with
   |some ⟨e⟩=>(match ih r with
    |some y=>some (e▸x,y)
    |none=>none)
   |none=>none)
  | []=>none) l
theorem sj: ∀ {l:List Ty} {pl:List Pl} {x:cb l},toT l pl=some x->pl=cp l x
 | [],pl,x,h=>by
  cases pl with
  |nil=>rfl
  |cons _ _=>cases h
 |t::l,pl,x,h=>by
  cases pl with
  |nil=>cases h
  |cons p r=>
   obtain⟨t',y⟩:=p
   change (match yk t' t with|some ⟨e⟩=>(match toT l r with|some z=>some (e▸y,z)|none=>none)|none=>none)=some x at h
   split at h
   ·rename_i q hq
    cases q
    split at h
    ·rename_i z hz
     cases h
     rw[sj hz];rfl
    ·cases h
   ·cases h
def T.map{α β:Type}(f:α->β)(x:T α):T β:=x.bd fun a=>.ok (f a)
theorem T.DJ{α β:Type}{f:α->β}{x:T α}{b:β}(h:(x.map f).val=some b): ∃ a,x.val=some a/\b=f a:=by
 obtain⟨a,h1,h2⟩:=T.iW h
 cases h2
 exact⟨a,h1,rfl⟩
def kf(P:lV)(ptr:List Nat)(Q:lV)(ti to:List Ty)(g:cb ti->T (cb to)):iK:=⟨P,ptr,Q,fun pl=>match toT ti pl with
 |some x=>(g x).map (cp to)
 |none=>.bad⟩
theorem iI{call:jH}{cf:cg}(C:rq call cf){f:FuncId}{b:xF}(hb:qa cf f b)(s7:Nat.ble b.ntmps 512=true){L:Nat->Option kE}(hL:nh Rx.w cf L b.code){m:Nat}{P:lV}{ptr:List Nat}{Q:lV}{ti to:List Ty}{g:cb ti->T (cb to)}
 (h0:iD (fun g=> !(Nat.beq g 0)) ptr=true)(hf: ∀ x y,(g x).val=some y->(kO P ptr Q L b m call (cp ti x)).val=some (cp to y)):(kf P ptr Q ti to g).Ok f cf:=by
 refine ag4 C hb (Nat.le_of_ble_eq_true s7) hL (m:=m) (fun g hg e=>?_) fun pl q h=>?_
 ·rw[kT,List.all_eq_true]at h0
  have:=h0 g hg
  subst e
  cases this
 ·change (match toT ti pl with|some x=>(g x).map (cp to)|none=>.bad).val=some q at h
  split at h
  ·rename_i x hx
   obtain⟨y,h1,h2⟩:=T.DJ h
   rw[sj hx,h2]
   exact hf x y h1
  ·cases h
def so(l:oF)(ti:List Ty)(g:cb ti->T (Nat×List Pl)):kE:=l.pc fun pl=>match toT ti pl with
 |some x=>g x
 |none=>.bad
theorem lK{call:jH}{cf:cg}(C:rq call cf){l:oF}{L:Nat->Option kE}{m:Nat}(hL:nh Rx.w cf L l.body){ti:List Ty}{g:cb ti->T (Nat×List Pl)}(hf: ∀ x k q,(g x).val=some (k,q)->mm (l.step L call m) (cp ti x) k q):
 jU Rx.w (so l ti g) (fun n d=>ly (cf n d) n (.bl l.id (.lp l.body))):=by
 refine ag2 C hL (m:=m) fun pl k q h=>?_
 change (match toT ti pl with|some x=>g x|none=>.bad).val=some (k,q)at h
 split at h
 ·rename_i x hx;rw[sj hx];exact hf x k q h
 ·cases h
def Ib(c:qR):List (Nat×qR):=qR.rec (fun _=>[]) [] (fun _ _ a b=>app a b) (fun _ _ _ a b=>app a b) (fun id c b=>(id,c)::b) (fun _ b=>b) (fun _=>[]) [] [] c
def PY(id:Nat)(l:List (Nat×qR)):List qR:=List.rec [] (fun p _ ih=>Bool.rec ih (p.2::ih) (Nat.beq p.1 id)) l
theorem PZ{id:Nat}{l:List (Nat×qR)}{b:qR}(h:(id,b)∈l):b∈PY id l:=by
 induction l with
 |nil=>cases h
 |cons p l ih=>
  change b∈(Bool.rec (PY id l) (p.2::PY id l) (Nat.beq p.1 id):List qR)
  rcases List.mem_cons.1 h with e|e
  ·rw[<-e]
   simp only[Nat.beq_refl]
   exact List.mem_cons_self
  ·cases Nat.beq p.1 id with
   |true=>exact List.mem_cons_of_mem _ (ih e)
   |false=>exact ih e
def kP(c:qR)(id:Nat):qR:=match PY id (Ib c)with
 | [.lp b]=>b
 | _=>.bad
def tO(l:List (Nat×kE))(i:Nat):Option kE:=List.rec none (fun p _ ih=>bif Nat.beq p.1 i then some p.2 else ih) l
theorem abI{R:Rx}{cf:cg}{L:Nat->Option kE}{c:qR}(h: ∀ p,p∈Ib c-> ∀ f,L p.1=some f->jU R f (fun n d=>ly (cf n d) n (.bl p.1 p.2))):nh R cf L c:=by
 induction c with
 |sq a b vi zF=>
  have h: ∀ p,p∈app (Ib a) (Ib b)-> ∀ f,L p.1=some f->jU R f (fun n d=>ly (cf n d) n (.bl p.1 p.2)):=h
  rw[cX]at h
  exact⟨vi fun p hp=>h p (List.mem_append_left _ hp),zF fun p hp=>h p (List.mem_append_right _ hp)⟩
 |cif o a b vi zF=>
  have h: ∀ p,p∈app (Ib a) (Ib b)-> ∀ f,L p.1=some f->jU R f (fun n d=>ly (cf n d) n (.bl p.1 p.2)):=h
  rw[cX]at h
  exact⟨vi fun p hp=>h p (List.mem_append_left _ hp),zF fun p hp=>h p (List.mem_append_right _ hp)⟩
 |bl id b ih=>
  refine⟨?_,ih fun p hp=>h p (List.mem_cons_of_mem _ hp)⟩
  split
  ·rename_i f hf
   exact h (id,b) List.mem_cons_self f hf
  ·trivial
 |lp b ih=>exact ih h
 | _=>trivial
inductive ku (cf:cg) (c:qR):List (Nat×kE)->Prop
 |nil:ku cf c []
 |cons {i:Nat} {f:kE} {b:qR} {l:List (Nat×kE)}:PY i (Ib c)=[.lp b]->jU Rx.w f (fun n d=>ly (cf n d) n (.bl i (.lp b)))->ku cf c l->ku cf c ((i,f)::l)
theorem ku.nh{cf:cg}{c:qR}{l:List (Nat×kE)}(h:ku cf c l):nh Rx.w cf (tO l) c:=by
 refine abI fun p hp f hf=>?_
 induction h with
 |nil=>cases hf
 |cons h1 h2 _ ih=>
  rename_i i g b l _
  have hf:(bif Nat.beq i p.1 then some g else tO l p.1)=some f:=hf
  cases hb:Nat.beq i p.1 with
  |true=>
   rw[hb]at hf
   cases hf
   have e:=beq_true hb
   subst e
   have:=PZ hp
   rw[h1]at this
   rw[List.mem_singleton.1 this]
   exact h2
  |false=>rw[hb]at hf;exact ih hf
def abJ(l:List (Nat×iK))(f:FuncId):Option iK:=List.rec none (fun p _ ih=>bif Nat.beq p.1 f then some p.2 else ih) l
inductive jd (cf:cg):List (Nat×iK)->Prop
 |nil:jd cf []
 |cons {i:Nat} {s:iK} {l:List (Nat×iK)}:s.Ok i cf->jd cf l->jd cf ((i,s)::l)
theorem jd.ok{cf:cg}{l:List (Nat×iK)}(h:jd cf l): ∀ f s,abJ l f=some s->s.Ok f cf:=by
 induction h with
 |nil=>intro f s e;cases e
 |cons h1 _ ih=>
  rename_i i t l _
  intro f s e
  have e:(bif Nat.beq i f then some t else abJ l f)=some s:=e
  cases hb:Nat.beq i f with
  |true=>rw[hb]at e;cases e;rw[<-beq_true hb];exact h1
  |false=>rw[hb]at e;exact ih f s e
end Lf
end Go.Ab

noncomputable section
namespace Go.Ab
namespace Lf
def wN{α S O:Type}(G:S->α->S ⊕ O)(e:S->O):List α->S->O
 | [],s=>e s
 |x::r,s=>match G s x with
  | .inl s'=>wN G e r s'
  | .inr o=>o
theorem j8{α S O:Type}{F:S->α->S}{e:S->O}(l:List α): ∀ (s:S),wN (fun s x=>.inl (F s x)) e l s=e (l.foldl F s):=by
 induction l with
 |nil=>intro s;rfl
 |cons x r ih=>intro s;exact ih (F s x)
def BN{S:Type}(st:S->List Pl):S ⊕ (Nat×List Pl)->Rs
 | .inl s=>.next (st s)
 | .inr o=>.out o.1 o.2
theorem LP{α S:Type}{f:List Pl->T Rs}{l:List α}(st:S->Nat->List Pl)(G:S->α->S ⊕ (Nat×List Pl))(e:S->Nat×List Pl)(inv:S->List α->Prop)
 (wP: ∀ s j x r,l.drop j=x::r->inv s (x::r)->(f (st s j)).val=some (BN (fun s=>st s (j+1)) (G s x))/\ ∀ s',G s x=.inl s'->inv s' r)
 (DK: ∀ s j,l.drop j=[]->j<=l.length->inv s []->(f (st s j)).val=some (.out (e s).1 (e s).2)): ∀ (r:List α) (j:Nat) (s:S),l.drop j=r->j<=l.length->inv s r->mm f (st s j) (wN G e r s).1 (wN G e r s).2
 | [],j,s,h,hj,hi=>.last (DK s j h hj hi)
 |x::r,j,s,h,hj,hi=>by
  obtain⟨h1,h2⟩:=wP s j x r h hi
  have kC:j<l.length:=by
   rcases Nat.lt_or_ge j l.length with k|k
   ·exact k
   ·rw[List.drop_eq_nil_of_le k]at h;cases h
  cases hg:G s x with
  |inl s'=>
   rw[hg]at h1
   have hr:l.drop (j+1)=r:=by rw[<-List.tail_drop,h];rfl
   have:=LP st G e inv wP DK r (j+1) s' hr kC (h2 s' hg)
   have e2:wN G e (x::r) s=wN G e r s':=by simp only[wN,hg]
   rw[e2]
   exact .more h1 this
  |inr o=>
   rw[hg]at h1
   have e2:wN G e (x::r) s=o:=by simp only[wN,hg]
   rw[e2]
   exact .last h1
def kY{α S O:Type}(G:S->α->List α->S ⊕ O)(e:S->O):List α->S->O
 | [],s=>e s
 |x::r,s=>match G s x r with
  | .inl s'=>kY G e r s'
  | .inr o=>o
def M4{S O:Type}(st:S->List Pl)(om:O->Nat×List Pl):S ⊕ O->Rs
 | .inl s=>.next (st s)
 | .inr o=>.out (om o).1 (om o).2
theorem Wf{α S O:Type}{f:List Pl->T Rs}{l:List α}(st:S->Nat->List Pl)(G:S->α->List α->S ⊕ O)(e:S->O)(om:O->Nat×List Pl)(inv:S->List α->Prop)
 (wP: ∀ s j x r,l.drop j=x::r->inv s (x::r)->(f (st s j)).val=some (M4 (fun s=>st s (j+1)) om (G s x r))/\ ∀ s',G s x r=.inl s'->inv s' r)
 (DK: ∀ s j,l.drop j=[]->j<=l.length->inv s []->(f (st s j)).val=some (.out (om (e s)).1 (om (e s)).2)): ∀ (r:List α) (j:Nat) (s:S),l.drop j=r->j<=l.length->inv s r->mm f (st s j) (om (kY G e r s)).1 (om (kY G e r s)).2
 | [],j,s,h,hj,hi=>.last (DK s j h hj hi)
 |x::r,j,s,h,hj,hi=>by
  obtain⟨h1,h2⟩:=wP s j x r h hi
  have kC:j<l.length:=by
   rcases Nat.lt_or_ge j l.length with k|k
   ·exact k
   ·rw[List.drop_eq_nil_of_le k]at h;cases h
  cases hg:G s x r with
  |inl s'=>
   rw[hg]at h1
   have hr:l.drop (j+1)=r:=by rw[<-List.tail_drop,h];rfl
   have:=Wf st G e om inv wP DK r (j+1) s' hr kC (h2 s' hg)
   have e2:kY G e (x::r) s=kY G e r s':=by simp only[kY,hg]
   rw[e2]
   exact .more h1 this
  |inr o=>
   rw[hg]at h1
   have e2:kY G e (x::r) s=o:=by simp only[kY,hg]
   rw[e2]
   exact .last h1
theorem iT{α:Type}{l:List α}{j:Nat}{x:α}{r:List α}(h:l.drop j=x::r)(d:α):j<l.length/\l.getD j d=x:=by
 have kC:j<l.length:=by
  rcases Nat.lt_or_ge j l.length with k|k
  ·exact k
  ·rw[List.drop_eq_nil_of_le k]at h;cases h
 refine⟨kC,?_⟩
 rw[List.drop_eq_getElem_cons kC]at h
 injection h with h _
 simp[List.getD_eq_getElem?_getD,List.getElem?_eq_getElem kC,h]
theorem wrap_i64{n:Int}(h1: -9223372036854775808<=n)(h2:n<9223372036854775808):ja .i64 n=n:=by
 show Int.sub (Int.emod (Int.add n 9223372036854775808) 18446744073709551616) 9223372036854775808=n
 have e:Int.emod (Int.add n 9223372036854775808) 18446744073709551616=n+9223372036854775808:=Int.emod_eq_of_lt (by show 0<=n+_;omega) (by show n+_<_;omega)
 rw[e]
 show n+9223372036854775808 - 9223372036854775808=n
 omega
theorem DL{n:Nat}(h:0<n)(h2:n<4611686018427387904):il .i64 (n:Int) 1=((n - 1:Nat):Int):=by
 unfold il
 rw[wrap_i64 (by omega) (by omega)]
 omega
theorem nQ{j:Nat}(h:j<4611686018427387904):iA .i64 (j:Int) 1=((j+1:Nat):Int):=by
 unfold iA
 rw[wrap_i64 (by omega) (by omega)]
 omega
theorem qo(n:Int):0<=cE .u64 n/\cE .u64 n<18446744073709551616:=⟨Int.emod_nonneg n (by decide),Int.emod_lt_of_pos n (by decide)⟩
theorem JW(n:Int): -9223372036854775808<=cE .i64 n/\cE .i64 n<9223372036854775808:=by
 have h1:0<=(n+9223372036854775808) % 18446744073709551616:=Int.emod_nonneg _ (by decide)
 have h2:(n+9223372036854775808) % 18446744073709551616<18446744073709551616:=Int.emod_lt_of_pos _ (by decide)
 have e:cE .i64 n=(n+9223372036854775808) % 18446744073709551616 - 9223372036854775808:=rfl
 omega
theorem iX{j n:Nat}(h:j<n):ij (j:Int) (Int.ofNat n)=true:=by
 rw[lI];exact⟨by omega,by have:Int.ofNat n=(n:Int):=rfl;omega⟩
theorem jq{j n:Nat}(h:j<n):decide ((j:Int)<(n:Int))=true:=decide_eq_true (by omega)
theorem iQ{j n:Nat}(h:n<=j):decide ((j:Int)<(n:Int))=false:=decide_eq_false (by omega)
end Lf
end Go.Ab
namespace Go.Ab.Lf
def uZ(l:List Ty):cb l:=List.rec (motive:=cb) () (fun t _ ih=>(cr t,ih)) l
def nA(to:List Ty)(x:T (List Pl)):Bool:=match x.val with
 |some q=>(match toT to q with
  |some _=>true
  |none=>false)
 |none=>false
def jP(to:List Ty)(x:T (List Pl)):cb to:=match x.val with
 |some q=>(match toT to q with
  |some y=>y
  |none=>uZ to)
 |none=>uZ to
theorem tP{to:List Ty}{x:T (List Pl)}(h:nA to x=true):x.val=some (cp to (jP to x)):=by
 unfold nA at h
 unfold jP
 split at h
 ·rename_i q hq
  rw[hq]
  split at h
  ·rename_i y hy
   rw[sj hy]
  ·cases h
 ·cases h
theorem j4{call:jH}{cf:cg}(C:rq call cf){f:FuncId}{b:xF}(hb:qa cf f b)(s7:Nat.ble b.ntmps 512=true){L:Nat->Option kE}(hL:nh Rx.w cf L b.code){m:Nat}{P:lV}{ptr:List Nat}{Q:lV}{ti to:List Ty}{ok:cb ti->Bool}{out:cb ti->cb to}
 (h0:iD (fun g=> !(Nat.beq g 0)) ptr=true)(h1: ∀ x,ok x=nA to (kO P ptr Q L b m call (cp ti x)))(h2: ∀ x,out x=jP to (kO P ptr Q L b m call (cp ti x))):(kf P ptr Q ti to fun x=>.ck (ok x) (.ok (out x))).Ok f cf:=by
 refine iI C hb s7 hL (m:=m) h0 fun x y h=>?_
 obtain⟨a,b⟩:=T.cy h
 cases b
 rw[h2]
 exact tP (by rw[<-h1];exact a)
end Go.Ab.Lf

noncomputable section
namespace Go.Ab.Lf
theorem qc: ∀ {l:List Ty} (x:cb l),toT l (cp l x)=some x
 | [],_=>rfl
 |t::l,x=>by
  have ih:=qc (l:=l) x.2
  have key: ∀ (o:Option (PLift (t=t))) (p:Option (cb l)),o=some ⟨rfl⟩->p=some x.2->(match o with|some ⟨e⟩=>(match p with|some y=>some ((Eq.rec (motive:=fun s _=>den s) x.1 e:den t),y)|none=>none)|none=>none:Option (cb (t::l)))=some x:=by
   intro o p ho hp
   subst ho;subst hp
   rfl
  have e:toT (t::l) (cp (t::l) x)=(match yk t t with|some ⟨e⟩=>(match toT l (cp l x.2)with|some y=>some ((Eq.rec (motive:=fun s _=>den s) x.1 e:den t),y)|none=>none)|none=>none:Option (cb (t::l))):=by kernel_rfl
  rw[e]
  exact key _ _ (qb t) ih
theorem mm.det{f:List Pl->T Rs}{pl:List Pl}{k:Nat}{q:List Pl}(h:mm f pl k q): ∀ {k':Nat} {q':List Pl},mm f pl k' q'->k=k'/\q=q':=by
 induction h with
 |last e=>
  intro k' q' h'
  cases h' with
  |last e'=>rw[e]at e';cases e';exact⟨rfl,rfl⟩
  |more e' _=>rw[e]at e';cases e'
 |more e _ ih=>
  intro k' q' h'
  cases h' with
  |last e'=>rw[e]at e';cases e'
  |more e' r=>rw[e]at e';cases e';exact ih r
def Ga(f:List Pl->T Rs)(pl:List Pl):Option (Nat×List Pl):=by
 classical exact if h: ∃ p:Nat×List Pl,mm f pl p.1 p.2 then some (Classical.choose h)else none
theorem xR{f:List Pl->T Rs}{pl:List Pl}{k:Nat}{q:List Pl}(h:mm f pl k q):Ga f pl=some (k,q):=by
 unfold Ga
 have hx: ∃ p:Nat×List Pl,mm f pl p.1 p.2:=⟨(k,q),h⟩
 rw[dif_pos hx]
 obtain⟨a,b⟩:=(Classical.choose_spec hx).det h
 exact congrArg some (Prod.ext a b)
theorem DM{f:List Pl->T Rs}{pl:List Pl}{k:Nat}{q:List Pl}(h:Ga f pl=some (k,q)):mm f pl k q:=by
 unfold Ga at h
 split at h
 ·rename_i hx
  have:=Classical.choose_spec hx
  injection h with h
  rw[h]at this
  exact this
 ·cases h
def xi(f:List Pl->T Rs)(ti to:List Ty)(x:cb ti):Bool:=match Ga f (cp ti x)with
 |some (0,q)=>(toT to q).isSome
 | _=>false
def oG(f:List Pl->T Rs)(ti to:List Ty)(x:cb ti):cb to:=match Ga f (cp ti x)with
 |some (_,q)=>(toT to q).getD (uZ to)
 |none=>uZ to
theorem ru{f:List Pl->T Rs}{ti to:List Ty}{x:cb ti}{y:cb to}(h:mm f (cp ti x) 0 (cp to y)):xi f ti to x=true/\oG f ti to x=y:=by
 unfold xi oG
 rw[xR h]
 simp only[qc]
 exact⟨rfl,rfl⟩
theorem abK{f:List Pl->T Rs}{ti to:List Ty}{x:cb ti}(h:xi f ti to x=true):mm f (cp ti x) 0 (cp to (oG f ti to x)):=by
 unfold xi at h
 unfold oG
 split at h
 ·rename_i q hq
  rw[hq]
  cases hy:toT to q with
  |none=>rw[hy]at h;cases h
  |some y=>
   have:=sj hy
   subst this
   simp only[qc]
   exact DM hq
 ·cases h
def wQ(l:oF)(f:List Pl->T Rs)(ti to:List Ty):kE:=so l ti fun x=>.ck (xi f ti to x) (.ok (0,cp to (oG f ti to x)))
theorem lW{call:jH}{cf:cg}(C:rq call cf){l:oF}{L:Nat->Option kE}{m:Nat}(hL:nh Rx.w cf L l.body)(ti to:List Ty):jU Rx.w (wQ l (l.step L call m) ti to) (fun n d=>ly (cf n d) n (.bl l.id (.lp l.body))):=
 lK C hL (m:=m) fun x k q h=>by
  obtain⟨h1,h2⟩:=T.cy h
  cases h2
  exact abK h1
def DN(f:List Pl->T Rs)(ti t0 t1:List Ty)(x:cb ti):Bool:=match Ga f (cp ti x)with
 |some (0,q)=>(toT t0 q).isSome
 |some (1,q)=>(toT t1 q).isSome
 | _=>false
def BO(f:List Pl->T Rs)(ti:List Ty)(x:cb ti):Bool:=match Ga f (cp ti x)with
 |some (0,_)=>true
 | _=>false
theorem Ic{f:List Pl->T Rs}{ti t0 t1:List Ty}{x:cb ti}{y:cb t0}(h:mm f (cp ti x) 0 (cp t0 y)):DN f ti t0 t1 x=true/\BO f ti x=true/\oG f ti t0 x=y:=by
 unfold DN BO oG
 rw[xR h]
 simp only[qc]
 exact⟨rfl,trivial,rfl⟩
theorem P0{f:List Pl->T Rs}{ti t0 t1:List Ty}{x:cb ti}{y:cb t1}(h:mm f (cp ti x) 1 (cp t1 y)):DN f ti t0 t1 x=true/\BO f ti x=false/\oG f ti t1 x=y:=by
 unfold DN BO oG
 rw[xR h]
 simp only[qc]
 exact⟨rfl,trivial,rfl⟩
theorem abL{f:List Pl->T Rs}{ti t0 t1:List Ty}{x:cb ti}(h:DN f ti t0 t1 x=true):(BO f ti x=true->mm f (cp ti x) 0 (cp t0 (oG f ti t0 x)))/\(BO f ti x=false->mm f (cp ti x) 1 (cp t1 (oG f ti t1 x))):=by
 unfold DN at h
 unfold BO oG
 split at h
 ·rename_i q hq
  rw[hq]
  refine⟨fun _=>?_,fun e=>by cases e⟩
  cases hy:toT t0 q with
  |none=>rw[hy]at h;cases h
  |some y=>
   have:=sj hy
   subst this
   simp only[qc]
   exact DM hq
 ·rename_i q hq
  rw[hq]
  refine⟨fun e=>(by simp at e),fun _=>?_⟩
  cases hy:toT t1 q with
  |none=>rw[hy]at h;cases h
  |some y=>
   have:=sj hy
   subst this
   simp only[qc]
   exact DM hq
 ·cases h
def BP(l:oF)(f:List Pl->T Rs)(ti t0 t1:List Ty):kE:=so l ti fun x=>.ck (DN f ti t0 t1 x) (.br (BO f ti x) (.ok (0,cp t0 (oG f ti t0 x))) (.ok (1,cp t1 (oG f ti t1 x))))
theorem pg{call:jH}{cf:cg}(C:rq call cf){l:oF}{L:Nat->Option kE}{m:Nat}(hL:nh Rx.w cf L l.body)(ti t0 t1:List Ty):jU Rx.w (BP l (l.step L call m) ti t0 t1) (fun n d=>ly (cf n d) n (.bl l.id (.lp l.body))):=
 lK C hL (m:=m) fun x k q h=>by
  obtain⟨h1,h2⟩:=T.cy h
  obtain⟨r0,r1⟩:=abL h1
  rw[T.jo]at h2
  cases hb:BO (l.step L call m) ti x with
  |true=>rw[hb]at h2;cases h2;exact r0 hb
  |false=>rw[hb]at h2;cases h2;exact r1 hb
theorem mT{to:List Ty}{t:T (List Pl)}{y:cb to}(h:t.val=some (cp to y)):nA to t=true/\jP to t=y:=by
 unfold nA jP
 rw[h]
 simp only[qc]
 exact⟨trivial,trivial⟩
end Go.Ab.Lf
