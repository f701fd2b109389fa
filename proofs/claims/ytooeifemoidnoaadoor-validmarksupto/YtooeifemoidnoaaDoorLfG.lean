import Derived.Test.YtooeifemoidnoaaDoorLfE
import Derived.KernelRfl
noncomputable section
namespace Go.Ab
namespace Lf
def e1:Hq:=⟨1,.nil⟩
def atSl(T:Tq)(sl:List Nat):Option (List Sv):=List.rec (some []) (fun i _ ih=>match(bif Nat.blt i 512 then T.at i else none)with
 |some v=>(match ih with
  |some vs=>some (v::vs)
  |none=>none)
 |none=>none) sl
def putSl(sl:List Nat):List Sv->Tq->Tq:=List.rec (fun _ T=>T) (fun i _ ih vs T=>match vs with
 |v::vs=>ih vs (T.put i (some v))
 | []=>T) sl
def resh(sl:List Nat)(P:Pat)(T:Tq)(H:Hq):Option (List Pl):=match atSl T sl with
 |some vs=>(match extP P vs ⟨H,1,[]⟩with
  |some (pl,[],_)=>some pl
  | _=>none)
 |none=>none
def mkS(sl:List Nat)(P:Pat)(pl:List Pl):Option (Tq×Hq):=match fillP P pl e1 with
 |some (ws,[],H)=>some (putSl sl ws Tq.none,H)
 | _=>none
theorem atSl_ok{E:En}{N:Nat}{T:Tq}{t:Tm}(hT:TV E N T t): ∀ {sl:List Nat} {vs:List Sv},atSl T sl=some vs-> ∃ cs,Vs E N vs cs/\sl.length=cs.length/\ ∀ (k i:Nat),sl[k]? =some i->i<512/\ ∃ a,t.at i=some a/\cs[k]? =some a
 | [],vs,e=>by cases e;exact⟨[],.nil,rfl,fun k i h=>by simp at h⟩
 |i::sl,vs,e=>by
  change (match(bif Nat.blt i 512 then T.at i else none)with|some v=>(match atSl T sl with|some vs=>some (v::vs)|none=>none)|none=>none)=some vs at e
  split at e
  ·rename_i v hv
   split at e
   ·rename_i us hu
    cases e
    obtain⟨hi,hv⟩:=condS hv
    obtain⟨a,ha,hav⟩:=hT i v (blt_iff.1 hi) hv
    obtain⟨cs,c1,c2,c3⟩:=atSl_ok hT hu
    refine⟨a::cs,.cons hav c1,by simp[c2],fun k j h=>?_⟩
    cases k with
    |zero=>simp at h;subst h;exact⟨blt_iff.1 hi,a,ha,rfl⟩
    |succ k=>simpa using c3 k j (by simpa using h)
   ·cases e
  ·cases e
theorem putSl_ok{E:En}{N:Nat}{t:Tm}{sl:List Nat}: ∀ (ws:List Sv) (cs:List AV) (T:Tq),Vs E N ws cs->sl.length=cs.length->(∀ (k i:Nat),sl[k]? =some i->i<512/\ ∃ a,t.at i=some a/\cs[k]? =some a)->TV E N T t->TV E N (putSl sl ws T) t:=by
 induction sl with
 |nil=>intro _ _ T _ _ _ hT;exact hT
 |cons i sl ih=>
  intro ws cs T h hl hc hT
  cases h with
  |nil=>simp at hl
  |cons hw hws=>
   rename_i w c ws cs
   obtain⟨hi,a,ha,hca⟩:=hc 0 i rfl
   simp at hca
   subst hca
   refine ih _ _ _ hws (by simpa using hl) (fun k j h=>by simpa using hc (k+1) j (by simpa using h)) ?_
   intro j v hj hv
   rw[Tq.at_put _ _ _ _ hi hj]at hv
   split at hv
   ·rename_i e;subst e;cases hv;exact⟨c,ha,hw⟩
   ·exact hT j v hj hv
theorem sub0{E:En}{H:Hq}{h:Hp}(S:SR E H h)(A:Nat->AV)(hA:A=E.A):Sub ⟨fun _=>⟨.any,0⟩,fun _=>.any,E.G,A⟩ e1 E ⟨H,1,[]⟩ h:=by
 have no: ∀ r,¬ own e1 r:=by rintro r ⟨R,e,_⟩;cases e
 exact⟨rfl,Nat.one_pos,⟨(fun r R e=>by cases e),(fun r _ _ o=>(no r o).elim),(fun r _ o=>(no r o).elim),fun id row e=>⟨(S.g id row e).1,(S.g id row e).2.1,fun r o=>(no r o).elim⟩⟩,rfl,hA,(fun p hp=>by cases hp),fun j o=>(no j o).elim,fun _ _ _ hp=>by cases hp⟩
theorem Sub.ox{E0:En}{H0:Hq}{E E':En}{H:Hq}{X':Xq}{h:Hp}(n:Nx E E' H X'.H h h)(s:Sub E0 H0 E' X' h):Ox E E0 H H0 h h where
 A:=by rw[s.A,n.e.A]
 G:=by rw[s.G];exact n.e.G
 le':=Nat.le_refl _
 ow j id o e:=by
  obtain⟨r,hr⟩:=s.ow j o
  obtain⟨_,o2,_,k⟩:=s.rn _ hr
  rw[k]at e
  exact n.ow r id o2 e
 gw id row e:=by rw[s.G]at e;exact n.gw id row e
 fr _ _ _:=rfl
theorem resh_ok{sl:List Nat}{P:Pat}{E:En}{T:Tq}{t:Tm}{H:Hq}{h:Hp}{pl:List Pl}(hT:TV E H.next T t)(hH:SR E H h)(e:resh sl P T H=some pl):
 ∃ T0 H0 E0,mkS sl P pl=some (T0,H0)/\TV E0 H0.next T0 t/\SR E0 H0 h/\Ox E E0 H H0 h h:=by
 unfold resh at e
 split at e
 ·rename_i vs hvs
  split at e
  ·rename_i pl' X' hx
   cases e
   obtain⟨cs,c1,c2,c3⟩:=atSl_ok hT hvs
   obtain⟨E',E0',H0',ws,a1,a2,n1,S1,s1,d1,d2,d3,d4,_,_⟩:=ext_ok P (X:=⟨H,1,[]⟩) hH (sub0 hH E.A rfl) c1 hx
   have ha2:a2=[]:=by cases d2;rfl
   rw[ha2,List.append_nil]at d1
   subst d1
   have d3':=d3 []
   rw[List.append_nil]at d3'
   refine⟨putSl sl ws Tq.none,H0',E0',?_,?_,s1.S0,s1.ox n1⟩
   ·unfold mkS;rw[d3']
   ·exact putSl_ok _ _ _ d4 c2 c3 fun i v _ hv=>by rw[tq_none]at hv;cases hv
  ·cases e
 ·cases e
inductive Kd where
 |brk|rt|ex (i:Nat)
structure Ot where
 k:Kd
 sl:List Nat
 P:Pat
inductive Rs where
 |next (pl:List Pl)
 |out (k:Nat) (pl:List Pl)
structure Lop where
 id:Nat
 body:CdK
 sl:List Nat
 P:Pat
 outs:List Ot
def eqKd(id:Nat)(o:Oc)(k:Kd):Bool:=match o,k with
 | .exit i _ _,.brk=>Nat.beq i id
 | .ret _ _,.rt=>true
 | .exit i _ _,.ex j=>Nat.beq i j&& !(Nat.beq i id)
 | _,_=>false
def Oc.T:Oc->Tq
 | .norm t _=>t
 | .ret t _=>t
 | .exit _ t _=>t
def Oc.H:Oc->Hq
 | .norm _ h=>h
 | .ret _ h=>h
 | .exit _ _ h=>h
def outOf(id:Nat)(o:Oc)(l:List Ot):Nat->Option Rs:=List.rec (fun _=>none) (fun q _ ih k=>bif eqKd id o q.k then(match resh q.sl q.P o.T o.H with
 |some pl=>some (.out k pl)
 |none=>none)else ih (Nat.add k 1)) l
def Lop.step(l:Lop)(L:Nat->Option CdR)(call:CallQ)(m:Nat)(pl:List Pl):T Rs:=(T.of (mkS l.sl l.P pl)).bd fun s=>(sCd L call m l.body s.1 s.2).bd fun o=>match o with
 | .norm t h=>T.of (match resh l.sl l.P t h with
  |some pl=>some (.next pl)
  |none=>none)
 |o=>T.of (outOf l.id o l.outs 0)
inductive Rch (f:List Pl->T Rs):List Pl->Nat->List Pl->Prop
 |last {pl k q}:(f pl).val=some (.out k q)->Rch f pl k q
 |more {pl pl' k q}:(f pl).val=some (.next pl')->Rch f pl' k q->Rch f pl k q
theorem T.of_some{α:Type}{x:Option α}{a:α}(h:(T.of x).val=some a):x=some a:=by cases x with
 |none=>cases h
 |some b=>exact h
theorem outOf_ok{id:Nat}{o:Oc}{k:Nat}{q:List Pl}: ∀ {l:List Ot} {j:Nat},outOf id o l j=some (.out k q)-> ∃ t,l[k - j]? =some t/\j<=k/\eqKd id o t.k=true/\resh t.sl t.P o.T o.H=some q
 | [],j,e=>by cases e
 |t::l,j,e=>by
  change (bif eqKd id o t.k then(match resh t.sl t.P o.T o.H with|some pl=>some (Rs.out j pl)|none=>none)else outOf id o l (Nat.add j 1))=some (.out k q)at e
  cases hb:eqKd id o t.k with
  |true=>
   rw[hb]at e
   simp only[cond_true]at e
   split at e
   ·rename_i pl hp
    cases e
    exact⟨t,by simp,Nat.le_refl _,hb,hp⟩
   ·cases e
  |false=>
   rw[hb]at e
   obtain⟨u,h1,h2,h3,h4⟩:=outOf_ok (l:=l) (j:=j+1) e
   have:k - j=(k - (j+1))+1:=by omega
   exact⟨u,by rw[this];simpa using h1,by omega,h3,h4⟩
theorem outOf_next{id:Nat}{o:Oc}{pl:List Pl}: ∀ {l:List Ot} {j:Nat},outOf id o l j=some (.next pl)->False
 | [],j,e=>by cases e
 |t::l,j,e=>by
  change (bif eqKd id o t.k then(match resh t.sl t.P o.T o.H with|some pl=>some (Rs.out j pl)|none=>none)else outOf id o l (Nat.add j 1))=some (.next pl)at e
  cases hb:eqKd id o t.k with
  |true=>
   rw[hb]at e
   simp only[cond_true]at e
   split at e<;>cases e
  |false=>rw[hb]at e;exact outOf_next (l:=l) e
def OutR(E:En)(H:Hq)(h:Hp)(id:Nat)(t:Ot)(q:List Pl):Go.Ab.Rc->Prop
 | .ret t' h'=>t.k=.rt/\ ∃ T' H' E',mkS t.sl t.P q=some (T',H')/\Ox E E' H H' h h'/\SR E' H' h'/\TV E' H'.next T' t'
 | .exit i t' h'=>((t.k=.brk/\i=id)∨(t.k=.ex i/\i≠id))/\ ∃ T' H' E',mkS t.sl t.P q=some (T',H')/\Ox E E' H H' h h'/\SR E' H' h'/\TV E' H'.next T' t'
 | _=>False
theorem OutR.trans{E E1:En}{H H1:Hq}{h h1:Hp}(X:Ox E E1 H H1 h h1){id:Nat}{t:Ot}{q:List Pl}{r:Go.Ab.Rc}(k:OutR E1 H1 h1 id t q r):OutR E H h id t q r:=by
 cases r<;>first|exact k.elim|skip
 ·obtain⟨a,T',H',E',b,c,d,e⟩:=k;exact⟨a,T',H',E',b,X.trans c,d,e⟩
 ·obtain⟨a,T',H',E',b,c,d,e⟩:=k;exact⟨a,T',H',E',b,X.trans c,d,e⟩
section
variable {call:CallQ}{cal:CallN}(C:SimC call cal)
include C
theorem rch_ok{l:Lop}{L:Nat->Option CdR}{m:Nat}(hL:okL Rx.w cal L l.body){pl:List Pl}{k:Nat}{q:List Pl}(r:Rch (l.step L call m) pl k q): ∀ {E:En} {T:Tq} {t:Tm} {H:Hq} {h:Hp},mkS l.sl l.P pl=some (T,H)->TV E H.next T t->SR E H h->
 ∃ c u,Ev3 (fun n d j=>lpF j (aCd (cal n d) n l.body) t h) c/\l.outs[k]? =some u/\OutR E H h l.id u q c:=by
 induction r with
 |last e=>
  intro E T t H h hm hT hH
  obtain⟨s,e1,e2⟩:=Lf.T.bd_some e
  have e1:=Lf.T.of_some e1
  rw[hm]at e1;cases e1
  obtain⟨o,e3,e4⟩:=Lf.T.bd_some e2
  obtain⟨c,k1,q1⟩:=sim_cd C (R:=Rx.w) m l.body hL E T t H h o hT hH e3
  cases o with
  |norm T1 H1=>
   have e4:=Lf.T.of_some e4
   split at e4<;>cases e4
  |ret T1 H1=>
   have e4:=Lf.T.of_some e4
   obtain⟨u,u1,_,u2,u3⟩:=outOf_ok e4
   cases c with
   |ret t1 h1=>
    obtain⟨E1,X,S1,hT1⟩:=q1
    obtain⟨T2,H2,E2,r1,r2,r3,r4⟩:=resh_ok hT1 S1 u3
    obtain⟨M,k1⟩:=k1
    refine⟨.ret t1 h1,u,⟨M+1,fun n d j a b c=>?_⟩,by simpa using u1,?_,T2,H2,E2,r1,Ox.trans X r4,r3,r2⟩
    ·obtain⟨j',rfl⟩: ∃ j',j=j'+1:=⟨j - 1,by omega⟩
     have k1':=k1 n d (by omega) (by omega)
     dsimp only at k1'
     show(Rc.rec Rc.bad (fun t h=>lpF j' (aCd (cal n d) n l.body) t h) (fun t h=>Rc.ret t h) (fun i t h=>Rc.exit i t h) (aCd (cal n d) n l.body t h):Go.Ab.Rc)=_
     rw[k1']
    ·cases hk:u.k with
     |rt=>rfl
     |brk=>rw[hk]at u2;cases u2
     |ex i=>rw[hk]at u2;cases u2
   | _=>exact q1.elim
  |exit i T1 H1=>
   have e4:=Lf.T.of_some e4
   obtain⟨u,u1,_,u2,u3⟩:=outOf_ok e4
   cases c with
   |exit i' t1 h1=>
    obtain⟨rfl,E1,X,S1,hT1⟩:=q1
    obtain⟨T2,H2,E2,r1,r2,r3,r4⟩:=resh_ok hT1 S1 u3
    obtain⟨M,k1⟩:=k1
    refine⟨.exit i t1 h1,u,⟨M+1,fun n d j a b c=>?_⟩,by simpa using u1,?_,T2,H2,E2,r1,Ox.trans X r4,r3,r2⟩
    ·obtain⟨j',rfl⟩: ∃ j',j=j'+1:=⟨j - 1,by omega⟩
     have k1':=k1 n d (by omega) (by omega)
     dsimp only at k1'
     show(Rc.rec Rc.bad (fun t h=>lpF j' (aCd (cal n d) n l.body) t h) (fun t h=>Rc.ret t h) (fun i t h=>Rc.exit i t h) (aCd (cal n d) n l.body t h):Go.Ab.Rc)=_
     rw[k1']
    ·cases hk:u.k with
     |rt=>rw[hk]at u2;cases u2
     |brk=>rw[hk]at u2;exact .inl ⟨rfl,beq_true u2⟩
     |ex j=>
      rw[hk]at u2
      have u2:(Nat.beq i j&& !(Nat.beq i l.id))=true:=u2
      rw[Bool.and_eq_true]at u2
      have:=beq_true u2.1
      subst this
      refine .inr ⟨rfl,fun e=>?_⟩
      rw[e,Nat.beq_refl]at u2
      cases u2.2
   | _=>exact q1.elim
 |more e _ ih=>
  intro E T t H h hm hT hH
  obtain⟨s,e1,e2⟩:=Lf.T.bd_some e
  have e1:=Lf.T.of_some e1
  rw[hm]at e1;cases e1
  obtain⟨o,e3,e4⟩:=Lf.T.bd_some e2
  obtain⟨c,k1,q1⟩:=sim_cd C (R:=Rx.w) m l.body hL E T t H h o hT hH e3
  cases o with
  |norm T1 H1=>
   obtain⟨t1,h1,E1,rfl,X,S1,hT1⟩:=q1.norm
   have e4:=Lf.T.of_some e4
   split at e4
   ·rename_i pl' hp
    cases e4
    obtain⟨T2,H2,E2,r1,r2,r3,r4⟩:=resh_ok hT1 S1 hp
    obtain⟨c,u,⟨M2,k2⟩,u1,u2⟩:=ih r1 r2 r3
    obtain⟨M,k1⟩:=k1
    refine⟨c,u,⟨max M M2+1,fun n d j a b c'=>?_⟩,u1,u2.trans (Ox.trans X r4)⟩
    obtain⟨j',rfl⟩: ∃ j',j=j'+1:=⟨j - 1,by omega⟩
    have k1':=k1 n d (by omega) (by omega)
    dsimp only at k1'
    show(Rc.rec Rc.bad (fun t h=>lpF j' (aCd (cal n d) n l.body) t h) (fun t h=>Rc.ret t h) (fun i t h=>Rc.exit i t h) (aCd (cal n d) n l.body t h):Go.Ab.Rc)=_
    rw[k1']
    exact k2 n d j' (by omega) (by omega) (by omega)
   ·cases e4
  |ret T1 H1=>exact(outOf_next (Lf.T.of_some e4)).elim
  |exit i T1 H1=>exact(outOf_next (Lf.T.of_some e4)).elim
def Lop.pc(l:Lop)(f:List Pl->T (Nat×List Pl)):CdR:=fun t h=>(T.of (resh l.sl l.P t h)).bd fun pl=>(f pl).bd fun p=>match getN l.outs p.1 with
 |some u=>(T.of (mkS u.sl u.P p.2)).bd fun s=>.ok (match u.k with
  | .brk=>.norm s.1 s.2
  | .rt=>.ret s.1 s.2
  | .ex i=>.exit i s.1 s.2)
 |none=>.bad
theorem pc_ok{l:Lop}{L:Nat->Option CdR}{m:Nat}(hL:okL Rx.w cal L l.body){f:List Pl->T (Nat×List Pl)}(hf: ∀ pl k q,(f pl).val=some (k,q)->Rch (l.step L call m) pl k q):
 SimD Rx.w (l.pc f) (fun n d=>aCd (cal n d) n (.bl l.id (.lp l.body))):=by
 intro E T t H h o hT hH e
 obtain⟨pl,e1,e2⟩:=Lf.T.bd_some e
 have e1:=Lf.T.of_some e1
 obtain⟨⟨k,q⟩,e3,e4⟩:=Lf.T.bd_some e2
 obtain⟨T0,H0,E0,r1,r2,r3,r4⟩:=resh_ok hT hH e1
 obtain⟨c,u,k1,u1,u2⟩:=rch_ok C hL (hf pl k q e3) r1 r2 r3
 simp only[getN_eq]at e4
 rw[u1]at e4
 obtain⟨s,e5,e6⟩:=Lf.T.bd_some e4
 have e5:=Lf.T.of_some e5
 have k1:=k1.diag
 have hbl: ∀ n d,aCd (cal n d) n (.bl l.id (.lp l.body)) t h=(Rc.rec Rc.bad (fun t h=>Rc.norm t h) (fun t h=>Rc.ret t h) (fun i t h=>Bool.rec (Rc.exit i t h) (Rc.norm t h) (Nat.beq i l.id)) (lpF n (aCd (cal n d) n l.body) t h):Go.Ab.Rc):=fun _ _=>rfl
 cases c with
 |ret t1 h1=>
  obtain⟨a,T',H',E',b,x,y,z⟩:=u2
  rw[b]at e5;cases e5
  rw[a]at e6;cases e6
  exact⟨.ret t1 h1,k1.map0 fun n d p=>(hbl n d).trans (by rw[p]),E',Ox.trans r4 x,y,z⟩
 |exit i t1 h1=>
  obtain⟨a,T',H',E',b,x,y,z⟩:=u2
  rw[b]at e5;cases e5
  rcases a with⟨a,rfl⟩|⟨a,a2⟩
  ·rw[a]at e6;cases e6
   exact⟨.norm t1 h1,k1.map0 fun n d p=>(hbl n d).trans (by rw[p];simp only[Nat.beq_refl]),E',Ox.trans r4 x,y,z⟩
  ·rw[a]at e6;cases e6
   refine⟨.exit i t1 h1,k1.map0 fun n d p=>?_,rfl,E',Ox.trans r4 x,y,z⟩
   refine(hbl n d).trans ?_
   rw[p]
   have:Nat.beq i l.id=false:=by cases hb:Nat.beq i l.id with
    |false=>rfl
    |true=>exact(a2 (beq_true hb)).elim
   simp only[this]
 | _=>exact u2.elim
end
end Lf
end Go.Ab

noncomputable section
namespace Go.Ab
namespace Lf
def tagR(r:Nat):Option Row->Option Row
 |some (.o _ l)=>some (.o r l)
 |x=>x
def tagN(n:Nat)(H:Hq):Hq:=Nat.rec H (fun i ih=>match ih.objs.get i with
 |some (.o _ l)=>setQ ih i (some (.o i l))
 | _=>ih) n
def tagAll(H:Hq):Hq:=tagN H.next H
theorem tagN_get(H:Hq): ∀ n,(tagN n H).next=H.next/\ ∀ r,(tagN n H).objs.get r=if r<n then tagR r (H.objs.get r)else H.objs.get r
 |0=>⟨rfl,fun r=>by rw[if_neg (by omega)];rfl⟩
 |n+1=>by
  obtain⟨h1,h2⟩:=tagN_get H n
  have hs:tagN (n+1) H=(match(tagN n H).objs.get n with|some (.o _ l)=>setQ (tagN n H) n (some (.o n l))| _=>tagN n H):=rfl
  have hn:=h2 n
  rw[if_neg (by omega)]at hn
  rw[hs,hn]
  cases hg:H.objs.get n with
  |none=>
   refine⟨h1,fun r=>?_⟩
   show(tagN n H).objs.get r=_
   rw[h2 r]
   by_cases e:r=n
   ·subst e;rw[if_neg (by omega),if_pos (by omega),hg];rfl
   ·by_cases e2:r<n
    ·rw[if_pos e2,if_pos (by omega)]
    ·rw[if_neg e2,if_neg (by omega)]
  |some R=>
   cases R with
   |o g l=>
    refine⟨h1,fun r=>?_⟩
    show(setQ (tagN n H) n (some (.o n l))).objs.get r=_
    rw[setQ_get]
    by_cases e:r=n
    ·subst e;rw[if_pos rfl,if_pos (by omega),hg];rfl
    ·rw[if_neg e,h2 r]
     by_cases e2:r<n
     ·rw[if_pos e2,if_pos (by omega)]
     ·rw[if_neg e2,if_neg (by omega)]
   | _=>
    refine⟨h1,fun r=>?_⟩
    show(tagN n H).objs.get r=_
    rw[h2 r]
    by_cases e:r=n
    ·subst e;rw[if_neg (by omega),if_pos (by omega),hg];rfl
    ·by_cases e2:r<n
     ·rw[if_pos e2,if_pos (by omega)]
     ·rw[if_neg e2,if_neg (by omega)]
theorem tagR_inv{r:Nat}{x:Option Row}{R:Row}(h:tagR r x=some R): ∃ R0,x=some R0/\R.live=R0.live/\(R=R0∨ ∃ g l,R0=.o g l/\R=.o r l):=by
 cases x with
 |none=>cases h
 |some R0=>cases R0<;>cases h<;>first|exact⟨_,rfl,rfl,.inl rfl⟩|exact⟨_,rfl,rfl,.inr ⟨_,_,rfl,rfl⟩⟩
theorem tagAll_get{H:Hq}{r:Nat}{R:Row}(h:(tagAll H).objs.get r=some R): ∃ R0,H.objs.get r=some R0/\R.live=R0.live/\(R=R0∨ ∃ g l,R0=.o g l/\R=.o r l):=by
 have e:=(tagN_get H H.next).2 r
 have h':(tagN H.next H).objs.get r=some R:=h
 rw[e]at h'
 split at h'
 ·exact tagR_inv h'
 ·exact⟨R,h',rfl,.inl rfl⟩
theorem own_tag{H:Hq}{r:Nat}(o:own (tagAll H) r):own H r:=by
 obtain⟨R,a,b⟩:=o
 obtain⟨R0,c,d,_⟩:=tagAll_get a
 exact⟨R0,c,by rw[<-d];exact b⟩
theorem tagAll_next(H:Hq):(tagAll H).next=H.next:=(tagN_get H H.next).1
def En.tg(E:En):En:=⟨E.K,E.tk,E.G,fun g=>(E.K g).av⟩
mutual
theorem V.tg1{E:En}{N:Nat}: ∀ {a c},V E N a c->V E.tg N a c
 | _,_,.i=>.i
 | _,_,.b=>.b
 | _,_,.a k=>.a k
 | _,_,.c k m=>.c k m
 | _,_,.ag k=>.ag (Vs.tg1 k)
 | _,_,.tu k=>.tu (Vs.tg1 k)
 | _,_,.fn k=>.fn (Vs.tg1 k)
 | _,_,.rf a b=>.rf a b
 | _,_,.re a b c=>.re a b c
 | _,_,.os a b=>.os (E:=E.tg) a b
 | _,_,.se a b c d=>.se (E:=E.tg) a b c d
 | _,_,.ss a b c=>.ss a b c
 | _,_,.xo a b=>.xo a b
 | _,_,.zp k=>.zp (Vs.tg1 k)
 | _,_,.zr k g s=>.zr (Vs.tg1 k) g s
theorem Vs.tg1{E:En}{N:Nat}: ∀ {l l'},Vs E N l l'->Vs E.tg N l l'
 | _,_,.nil=>.nil
 | _,_,.cons a b=>.cons (V.tg1 a) (Vs.tg1 b)
end
theorem sr_tag{E:En}{H:Hq}{h:Hp}(S:SR E H h):SR E.tg (tagAll H) h where
 row r R e:=by
  obtain⟨R0,a,_,c⟩:=tagAll_get e
  obtain⟨s1,s2⟩:=S.row r R0 a
  rw[tagAll_next]
  refine⟨s1,?_⟩
  rcases c with rfl|⟨g,l,rfl,rfl⟩
  ·cases R with
   |o g l=>
    obtain⟨id,row,k1,k2,k3,k4⟩:=s2
    have e':=(tagN_get H H.next).2 r
    rw[if_pos s1,a]at e'
    have e2:(tagN H.next H).objs.get r=some (.o g l):=e
    rw[e2]at e'
    have:g=r:=by injection e' with e';injection e' with e'
    exact⟨id,row,k1,k2,Vs.tg1 k3,fun _=>by rw[this];rfl⟩
   |zo l=>obtain⟨id,row,k1,k2,k3⟩:=s2;exact⟨id,row,k1,k2,Vs.tg1 k3⟩
   |l t x=>exact s2
   |z t x=>exact s2
  ·obtain⟨id,row,k1,k2,k3,_⟩:=s2
   exact⟨id,row,k1,k2,Vs.tg1 k3,fun _=>rfl⟩
 inj r r' id o o' e e':=S.inj r r' id (own_tag o) (own_tag o') e e'
 lt r id o e:=S.lt r id (own_tag o) e
 g id row e:=by
  obtain⟨a,b,c⟩:=S.g id row e
  exact⟨a,b,fun r o=>c r (own_tag o)⟩
def fndT(g:Nat)(H:Hq):Option Nat:=Nat.rec none (fun i ih=>match H.objs.get i with
 |some (.o g' _)=>bif Nat.beq g g' then some i else ih
 | _=>ih) H.next
theorem fndT_ok{g:Nat}{H:Hq}{j:Nat}(h:fndT g H=some j): ∃ l,H.objs.get j=some (.o g l):=by
 unfold fndT at h
 generalize H.next=n at h
 induction n with
 |zero=>cases h
 |succ n ih=>
  change (match H.objs.get n with|some (.o g' _)=>(bif Nat.beq g g' then some n else(Nat.rec none (fun i ih=>match H.objs.get i with|some (.o g' _)=>bif Nat.beq g g' then some i else ih| _=>ih) n:Option Nat))| _=>(Nat.rec none (fun i ih=>match H.objs.get i with|some (.o g' _)=>bif Nat.beq g g' then some i else ih| _=>ih) n:Option Nat))=some j at h
  split at h
  ·rename_i g' l hr
   cases hb:Nat.beq g g' with
   |true=>rw[hb]at h;cases h;rw[beq_true hb];exact⟨l,hr⟩
   |false=>rw[hb]at h;exact ih h
  ·exact ih h
def ptrS(l:List Nat)(H:Hq):Option (List Sv):=List.rec (some []) (fun g _ ih=>match fndT g H with
 |some j=>(match ih with
  |some r=>some (.rf j 0::r)
  |none=>none)
 |none=>none) l
theorem ptrS_ok{E:En}{H:Hq}{h:Hp}(S:SR E H h): ∀ {l:List Nat} {vs:List Sv},(∀ g,g∈l->g≠0)->ptrS l H=some vs->Vs E H.next vs (l.map E.A)
 | [],vs,_,e=>by cases e;exact .nil
 |g::l,vs,h0,e=>by
  change (match fndT g H with|some j=>(match ptrS l H with|some r=>some (.rf j 0::r)|none=>none)|none=>none)=some vs at e
  split at e
  ·rename_i j hj
   split at e
   ·rename_i r hr
    cases e
    obtain⟨q,hq⟩:=fndT_ok hj
    obtain⟨lt,id,row,k1,k2,k3,k4⟩:=S.row _ _ hq
    refine .cons ?_ (ptrS_ok S (fun g hg=>h0 g (List.mem_cons_of_mem _ hg)) hr)
    rw[<-k4 (h0 g List.mem_cons_self),k1]
    exact .rf lt k1
   ·cases e
  ·cases e
structure Fsp where
 P:Pat
 ptr:List Nat
 Q:Pat
 f:List Pl->T (List Pl)
def Fsp.Ok(s:Fsp)(f:FuncId)(cal:CallN):Prop:= ∀ (pl q:List Pl) (args:List Sv) (H0:Hq) (E0:En) (h:Hp) (as:List AV),(s.f pl).val=some q->fillP s.P pl e1=some (args,[],H0)->Vs E0 H0.next args as->SR E0 (tagAll H0) h->
 ∃ c h' E1 ws H1,Ev (fun n d=>cal n d f as h) (.ok c h')/\Ox E0 E1 (tagAll H0) H1 h h'/\SR E1 H1 h'/\fillP s.Q q e1=some (ws,[],H1)/\Vs E1 H1.next ws (c::s.ptr.map E0.A)
def fnT(P:Pat)(ptr:List Nat)(Q:Pat)(L:Nat->Option CdR)(b:FbK)(m:Nat)(call:CallQ)(pl:List Pl):T (List Pl):=match fillP P pl e1 with
 |some (args,[],H0)=>(sStep L b m call args (tagAll H0)).bd fun p=>match ptrS ptr p.2 with
  |some ps=>(match extP Q (p.1::ps) ⟨p.2,1,[]⟩with
   |some (q,[],_)=>.ok q
   | _=>.bad)
  |none=>.bad
 | _=>.bad
theorem fn_ok{call:CallQ}{cal:CallN}(C:SimC call cal){f:FuncId}{b:FbK}(hb:StepOk cal f b)(h512:b.ntmps<=512){L:Nat->Option CdR}(hL:okL Rx.w cal L b.code){m:Nat}{s:Fsp}(h0: ∀ g,g∈s.ptr->g≠0)
 (hf: ∀ pl q,(s.f pl).val=some q->(fnT s.P s.ptr s.Q L b m call pl).val=some q):s.Ok f cal:=by
 intro pl q args H0 E0 h as e hP hv hS
 have e1':=hf pl q e
 unfold fnT at e1'
 rw[hP]at e1'
 simp only at e1'
 obtain⟨⟨v,H1⟩,a1,a2⟩:=Lf.T.bd_some e1'
 obtain⟨c,h',E1,k1,X1,S1,hv1⟩:=sStep_ok C (R:=Rx.w) hb h512 hL (by rw[tagAll_next];exact hv) hS a1
 simp only at a2
 split at a2
 ·rename_i ps hps
  split at a2
  ·rename_i q' X2 hx
   cases a2
   have hpv:=ptrS_ok S1 h0 hps
   obtain⟨E2,E2',H2',ws,c1,c2,n2,S2,s2,d1,d2,d3,d4,_,_⟩:=ext_ok s.Q (X:=⟨H1,1,[]⟩) S1 (sub0 S1 E1.A rfl) (Vs.cons hv1 hpv) hx
   have hc2:c2=[]:=by cases d2;rfl
   rw[hc2,List.append_nil]at d1
   have d3':=d3 []
   rw[List.append_nil]at d3'
   refine⟨c,h',E2',ws,H2',k1,Ox.trans X1 (s2.ox n2),s2.S0,d3',?_⟩
   have X1A:E1.A=E0.A:=(X1:Ox E0 E1 (tagAll H0) H1 h h').A
   rw[<-d1,X1A]at d4
   exact d4
  ·cases a2
 ·cases a2
end Lf
end Go.Ab

noncomputable section
namespace Go.Ab
namespace Lf
section
variable (f:Nat->Nat)(b:Nat)
mutual
def rnV:Sv->Sv
 | .i k n=>.i k n
 | .b x=>.b x
 | .a v=>.a v
 | .c m t x=>.c (bif Nat.beq m 0 then 0 else Nat.add b m) t x
 | .ag l=>.ag (rnL l)
 | .tu l=>.tu (rnL l)
 | .fn g l=>.fn g (rnL l)
 | .rf r o=>.rf (f r) o
 | .re r s i o=>.re (f r) s i o
 | .os r s=>.os (f r) s
 | .ss r s o n=>.ss (f r) s o n
 | .xo r s o n=>.xo (f r) s o n
 | .zp l=>.zp (rnL l)
def rnL:List Sv->List Sv
 | []=>[]
 |a::l=>rnV a::rnL l
end
end
def isRef:AV->Bool
 | .ref _ _=>true
 | _=>false
structure Rn(E1:En)(N1:Nat)(E:En)(N:Nat)(f:Nat->Nat)(b:Nat):Prop where
 lt: ∀ j,j<N1->f j<N
 K: ∀ j,j<N1->(E.K (f j)).av=(E1.K j).av/\(isRef (E1.K j).av=true∨E.K (f j)=E1.K j)
 tk: ∀ m,m<N1->m≠0->b+m<N/\E.tk (b+m)=E1.tk m
 G:GLe E1.G E.G
section
variable {E1:En}{N1:Nat}{E:En}{N:Nat}{f:Nat->Nat}{b:Nat}
theorem rnL_len: ∀ (l:List Sv),(rnL f b l).length=l.length
 | []=>by unfold rnL;rfl
 |a::l=>by unfold rnL;simp[rnL_len l]
mutual
theorem V.rn(R:Rn E1 N1 E N f b): ∀ {v a},V E1 N1 v a->V E N (rnV f b v) a
 | _,_,.i=>by unfold rnV;exact .i
 | _,_,.b=>by unfold rnV;exact .b
 | _,_,.a k=>by unfold rnV;exact .a k
 | _,_,.c (m:=m) k h=>by
  unfold rnV
  refine .c (EV.mono R.G _ _ _ k) fun hm=>?_
  cases hb:Nat.beq m 0 with
  |true=>rw[hb]at hm;exact(hm rfl).elim
  |false=>
   have hm0:m≠0:=fun e=>by subst e;cases hb
   obtain⟨h1,h2⟩:=h hm0
   obtain⟨t1,t2⟩:=R.tk m h1 hm0
   exact⟨t1,by rw[h2];exact t2.symm⟩
 | _,_,.ag k=>by unfold rnV;exact .ag (Vs.rn R k)
 | _,_,.tu k=>by unfold rnV;exact .tu (Vs.rn R k)
 | _,_,.fn k=>by unfold rnV;exact .fn (Vs.rn R k)
 | _,_,.rf h k=>by unfold rnV;exact .rf (R.lt _ h) (by rw[(R.K _ h).1];exact k)
 | _,_,.re h k i=>by unfold rnV;exact .re (R.lt _ h) (by rw[(R.K _ h).1];exact k) i
 | _,_,.os (r:=r) h k=>by
  unfold rnV
  obtain⟨k1,k2⟩:=R.K _ h
  rcases k2 with k2|k2
  ·rcases k with⟨k,_⟩|⟨_,_,k⟩
   ·generalize (E1.K r).av=x at k k2;cases x<;>first|(cases k2;done)|(cases k;done)
   ·rw[k]at k2;cases k2
  ·have:=V.os (E:=E) (N:=N) (r:=f r) (R.lt _ h) (by rw[k2];exact k)
   rw[k2]at this;exact this
 | _,_,.se (r:=r) (sz:=sz) h k n o=>by
  unfold rnV
  obtain⟨k1,k2⟩:=R.K _ h
  rcases k2 with k2|k2
  ·generalize (E1.K r).av=x at k k2;cases x<;>first|(cases k2;done)|(cases k;done)
  ·have:=V.se (E:=E) (N:=N) (r:=f r) (sz:=sz) (R.lt _ h) (by rw[k2];exact k) (by rw[k2];exact n) o
   rw[k2]at this;exact this
 | _,_,.ss (r:=r) h k n=>by
  unfold rnV
  obtain⟨k1,k2⟩:=R.K _ h
  rcases k2 with k2|k2
  ·rw[k]at k2;cases k2
  ·exact .ss (R.lt _ h) (by rw[k2];exact k) (by rw[k2];exact n)
 | _,_,.xo h k=>by unfold rnV;exact .xo (R.lt _ h) (by rw[(R.K _ h).1];exact k)
 | _,_,.zp k=>by unfold rnV;exact .zp (Vs.rn R k)
 | _,_,.zr k g s=>by unfold rnV;exact .zr (Vs.rn R k) (R.G _ _ g) (by rw[rnL_len];exact s)
theorem Vs.rn(R:Rn E1 N1 E N f b): ∀ {l l'},Vs E1 N1 l l'->Vs E N (rnL f b l) l'
 | _,_,.nil=>by unfold rnL;exact .nil
 | _,_,.cons a k=>by unfold rnL;exact .cons (V.rn R a) (Vs.rn R k)
end
end
def tagOf(H:Hq)(r:Nat):Nat:=match H.objs.get r with
 |some (.o g _)=>g
 | _=>0
def bkF(rn:List (Nat×Nat))(b:Nat)(H1:Hq)(j:Nat):Nat:=match H1.objs.get j with
 |some (.o g _)=>bif Nat.beq g 0 then Nat.add b j else(match look g rn with
  |some r=>r
  |none=>Nat.add b j)
 | _=>Nat.add b j
def rnRow(rn:List (Nat×Nat))(b:Nat)(H H1:Hq)(R:Row):Row:=match R with
 | .o g l=>.o (bif Nat.beq g 0 then 0 else(match look g rn with
  |some r=>tagOf H r
  |none=>0)) (rnL (bkF rn b H1) b l)
 | .zo l=>.zo (rnL (bkF rn b H1) b l)
 |R=>R
def killL(rn:List (Nat×Nat))(H:Hq):Hq:=List.rec H (fun p _ ih=>setQ ih p.2 none) rn
def addN(rn:List (Nat×Nat))(b:Nat)(H H1:Hq)(n:Nat):Hq:=Nat.rec (killL rn H) (fun j ih=>match H1.objs.get j with
 |some R=>setQ ih (bkF rn b H1 j) (some (rnRow rn b H H1 R))
 |none=>ih) n
def mergeQ(rn:List (Nat×Nat))(H H1:Hq):Hq:=⟨Nat.add H.next H1.next,(addN rn H.next H H1 H1.next).objs⟩
def Fsp.call(s:Fsp):List Sv->Hq->T (Sv×Hq):=fun args H=>match extP s.P args ⟨H,1,[]⟩with
 |some (pl,[],X)=>(s.f pl).bd fun q=>(match fillP s.Q q e1 with
  |some (v::_,[],H1)=>.ok (rnV (bkF X.rn X.H.next H1) X.H.next v,mergeQ X.rn X.H H1)
  | _=>.bad)
 | _=>.bad
theorem killL_get{H:Hq}: ∀ {rn:List (Nat×Nat)} {r:Nat} {R:Row},(killL rn H).objs.get r=some R->H.objs.get r=some R/\ ∀ j,(j,r)∉rn
 | [],r,R,h=>⟨h,fun j hj=>by cases hj⟩
 |p::rn,r,R,h=>by
  have h:(setQ (killL rn H) p.2 none).objs.get r=some R:=h
  rw[setQ_get]at h
  split at h
  ·cases h
  ·rename_i ne
   obtain⟨a,b⟩:=killL_get h
   refine⟨a,fun j hj=>?_⟩
   rcases List.mem_cons.1 hj with e|e
   ·rw[<-e]at ne;exact ne rfl
   ·exact b j e
theorem addN_get{rn:List (Nat×Nat)}{b:Nat}{H H1:Hq}: ∀ {n r:Nat} {Q:Row},(addN rn b H H1 n).objs.get r=some Q->(∃ j R,j<n/\H1.objs.get j=some R/\bkF rn b H1 j=r/\Q=rnRow rn b H H1 R)∨(killL rn H).objs.get r=some Q
 |0,r,Q,h=>.inr h
 |n+1,r,Q,h=>by
  have h:(match H1.objs.get n with|some R=>setQ (addN rn b H H1 n) (bkF rn b H1 n) (some (rnRow rn b H H1 R))|none=>addN rn b H H1 n).objs.get r=some Q:=h
  split at h
  ·rename_i R hR
   rw[setQ_get]at h
   split at h
   ·rename_i e;cases h;exact .inl ⟨n,R,Nat.lt_succ_self _,hR,e.symm,rfl⟩
   ·rcases addN_get h with⟨j,R',a,c⟩|k
    ·exact .inl ⟨j,R',Nat.lt_succ_of_lt a,c⟩
    ·exact .inr k
  ·rcases addN_get h with⟨j,R',a,c⟩|k
   ·exact .inl ⟨j,R',Nat.lt_succ_of_lt a,c⟩
   ·exact .inr k
theorem rnRow_live{rn:List (Nat×Nat)}{b:Nat}{H H1:Hq}{R:Row}:(rnRow rn b H H1 R).live=R.live:=by cases R<;>rfl
theorem call_ok{s:Fsp}{f:FuncId}{cal:CallN}(k:s.Ok f cal){E:En}{args:List Sv}{as:List AV}{H H':Hq}{h:Hp}{v:Sv}(hv:Vs E H.next args as)(hH:SR E H h)(e:(s.call args H).val=some (v,H')):
 ∃ c h' E',Ev (fun n d=>cal n d f as h) (.ok c h')/\Nx E E' H H' h h'/\SR E' H' h'/\V E' H'.next v c:=by
 unfold Fsp.call at e
 split at e
 ·rename_i pl X hx
  obtain⟨q,e2,e3⟩:=Lf.T.bd_some e
  split at e3
  ·rename_i w ws' H1 hfill
   cases e3
   obtain⟨E2,E0,H0,ws,a1,a2,n1,S2,s2,d1,d2,d3,d4,_,_⟩:=ext_ok s.P (X:=⟨H,1,[]⟩) hH (sub0 hH E.A rfl) hv hx
   have ha2:a2=[]:=by cases d2;rfl
   rw[ha2,List.append_nil]at d1
   subst d1
   have d3':=d3 []
   rw[List.append_nil]at d3'
   obtain⟨c,h',E1,ws1,H1',k1,X1,S1,f1,v1⟩:=k pl q ws H0 E0.tg h as e2 d3' (Vs.tg1 d4) (sr_tag s2.S0)
   rw[hfill]at f1
   cases f1
   have hb0: ∀ p,p∈X.rn->p.2<X.H.next:=fun p hp=>by
    obtain⟨_,⟨R,oR,_⟩,_,_⟩:=s2.rn p hp
    exact(S2.row _ _ oR).1
   have hnew: ∃ E':En,(∀ r,r<X.H.next->E'.K r=E2.K r/\E'.tk r=E2.tk r)/\(∀ j,E'.K (X.H.next+j)=E1.K j/\E'.tk (X.H.next+j)=E1.tk j)/\E'.G=E1.G/\E'.A=E2.A:=
    ⟨⟨fun r=>if r<X.H.next then E2.K r else E1.K (r - X.H.next),fun r=>if r<X.H.next then E2.tk r else E1.tk (r - X.H.next),E1.G,E2.A⟩,fun r hr=>⟨if_pos hr,if_pos hr⟩,fun j=>by
      show(if _ then _ else _)=_/\(if _ then _ else _)=_
      rw[if_neg (by omega),if_neg (by omega),Nat.add_sub_cancel_left]
      exact⟨rfl,rfl⟩,rfl,rfl⟩
   obtain⟨E',hKo,hKn,hEG,hEA⟩:=hnew
   have hN:(mergeQ X.rn X.H H1).next=X.H.next+H1.next:=rfl
   have hmark: ∀ {j g:Nat} {l:List Sv},H1.objs.get j=some (.o g l)->g≠0->(E1.K j).av=(E0.K g).av:=by
    intro j g l hj hg
    obtain⟨_,id,row,k1,k2,k3,k4⟩:=S1.row _ _ hj
    rw[k4 hg,X1.A]
    rfl
   have hbk: ∀ j,j<H1.next->bkF X.rn X.H.next H1 j<X.H.next+H1.next/\(E'.K (bkF X.rn X.H.next H1 j)).av=(E1.K j).av/\(isRef (E1.K j).av=true∨E'.K (bkF X.rn X.H.next H1 j)=E1.K j):=by
    intro j hj
    have plain:X.H.next+j<X.H.next+H1.next/\(E'.K (X.H.next+j)).av=(E1.K j).av/\(isRef (E1.K j).av=true∨E'.K (X.H.next+j)=E1.K j):=⟨by omega,by rw[(hKn j).1],.inr (hKn j).1⟩
    unfold bkF
    split
    ·rename_i g l hg
     cases hb:Nat.beq g 0 with
     |true=>exact plain
     |false=>
      have hg0:g≠0:=fun e=>by subst e;cases hb
      simp only[cond_false]
      cases hl:look g X.rn with
      |none=>exact plain
      |some r=>
       have hm:=look_mem hl
       have hr:=hb0 _ hm
       obtain⟨_,_,_,q4⟩:=s2.rn _ hm
       have hmk:=hmark hg hg0
       obtain⟨_,id,row,k1,_⟩:=S1.row _ _ hg
       refine⟨by show r<_;have:=hr;simp only at this;omega,?_,.inl (by rw[k1];rfl)⟩
       rw[(hKo r hr).1,hmk]
       exact congrArg Kr.av q4.symm
    ·exact plain
   have RN:Rn E1 H1.next E' (mergeQ X.rn X.H H1).next (bkF X.rn X.H.next H1) X.H.next:=
    ⟨fun j hj=>(hbk j hj).1,fun j hj=>(hbk j hj).2,fun m hm _=>⟨by rw[hN];omega,(hKn m).2⟩,by rw[hEG];exact fun _ _ e=>e⟩
   have hown0: ∀ {j id:Nat},own (tagAll H0) j->ido (E0.tg.K j).av=some id-> ∃ r,(j,r)∈X.rn/\own X.H r/\ido (E2.K r).av=some id:=by
    intro j id o e
    obtain⟨r,hr⟩:=s2.ow j (own_tag o)
    obtain⟨_,o2,_,q4⟩:=s2.rn _ hr
    exact⟨r,hr,o2,by rw[<-show E0.K j=E2.K r from q4];exact e⟩
   have old: ∀ {r:Nat} {Q:Row},(killL X.rn X.H).objs.get r=some Q->X.H.objs.get r=some Q/\r<X.H.next/\(∀ id,Q.live=true->ido (E2.K r).av=some id-> ∀ j,own (tagAll H0) j->ido (E0.tg.K j).av≠some id):=by
    intro r Q hq
    obtain⟨a,b⟩:=killL_get hq
    refine⟨a,(S2.row _ _ a).1,fun id lv e j o e2=>?_⟩
    obtain⟨r',hr',o',e'⟩:=hown0 o e2
    have:=S2.inj r r' id ⟨Q,a,lv⟩ o' e e'
    subst this
    exact b j hr'
   have cases': ∀ {r:Nat} {Q:Row},(mergeQ X.rn X.H H1).objs.get r=some Q->(∃ j R,j<H1.next/\H1.objs.get j=some R/\bkF X.rn X.H.next H1 j=r/\Q=rnRow X.rn X.H.next X.H H1 R)∨(killL X.rn X.H).objs.get r=some Q:=fun hq=>addN_get hq
   have ownN: ∀ {r:Nat},own (mergeQ X.rn X.H H1) r->(∃ j,j<H1.next/\own H1 j/\bkF X.rn X.H.next H1 j=r)∨(r<X.H.next/\own X.H r/\(∀ id,ido (E2.K r).av=some id-> ∀ j,own (tagAll H0) j->ido (E0.tg.K j).av≠some id)):=by
    rintro r ⟨Q,q1,q2⟩
    rcases cases' q1 with⟨j,R,a,b,c,d⟩|q
    ·exact .inl ⟨j,a,⟨R,b,by rw[d,rnRow_live]at q2;exact q2⟩,c⟩
    ·obtain⟨a,b,c⟩:=old q
     exact .inr ⟨b,⟨Q,a,q2⟩,fun id e=>c id q2 e⟩
   have idNew: ∀ {j id:Nat},own H1 j->ido (E1.K j).av=some id->(∃ j0,own (tagAll H0) j0/\ido (E0.tg.K j0).av=some id)∨h.next<=id:=fun o e=>X1.ow _ _ o e
   have clash: ∀ {j r id:Nat},own H1 j->ido (E1.K j).av=some id->own X.H r->ido (E2.K r).av=some id->(∀ id,ido (E2.K r).av=some id-> ∀ j,own (tagAll H0) j->ido (E0.tg.K j).av≠some id)->False:=by
    intro j r id o e o' e' hn
    rcases idNew o e with⟨j0,a,b⟩|a
    ·exact hn id e' j0 a b
    ·have:=S2.lt r id o' e';omega
   refine⟨c,h',E',k1,n1.trans ⟨⟨fun r hr=>(hKo r hr).1,fun r hr=>(hKo r hr).2,?_,hEA⟩,by rw[hN];omega,X1.le',?_,?_,?_⟩,⟨?_,?_,?_,?_⟩,?_⟩
   ·rw[hEG]
    have:=X1.G
    rw[show E0.tg.G=E2.G from s2.G]at this
    exact this
   ·intro r id o e
    rcases ownN o with⟨j,a,b,cc⟩|⟨a,b,_⟩
    ·rw[<-cc,(hbk j a).2.1]at e
     rcases idNew b e with⟨j0,o0,e0⟩|q
     ·obtain⟨r',_,o',e'⟩:=hown0 o0 e0
      exact .inl ⟨r',o',e'⟩
     ·exact .inr q
    ·rw[(hKo r a).1]at e;exact .inl ⟨r,b,e⟩
   ·intro id row e
    rw[hEG]at e
    rcases X1.gw id row e with q|⟨j0,o0,e0⟩|q
    ·rw[show E0.tg.G=E2.G from s2.G]at q;exact .inl q
    ·obtain⟨r',_,o',e'⟩:=hown0 o0 e0
     exact .inr (.inl ⟨r',o',e'⟩)
    ·exact .inr (.inr q)
   ·intro id hi hn
    refine X1.fr id hi fun j o e=>?_
    obtain⟨r',_,o',e'⟩:=hown0 o e
    exact hn r' o' e'
   ·
    intro r Q hq
    rcases cases' hq with⟨j,R,a,b,cc,rfl⟩|q
    ·subst cc
     refine⟨(hbk j a).1,?_⟩
     obtain⟨_,s1⟩:=S1.row _ _ b
     have hav:=(hbk j a).2.1
     cases R with
     |o g l=>
      obtain⟨id,row,k1,k2,k3,k4⟩:=s1
      refine⟨id,row,by rw[hav];exact k1,k2,Vs.rn RN k3,fun hg=>?_⟩
      rw[hav]
      cases hb:Nat.beq g 0 with
      |true=>rw[hb]at hg;exact(hg rfl).elim
      |false=>
       have hg0:g≠0:=fun e=>by subst e;cases hb
       rw[hb]at hg
       simp only[cond_false]at hg ⊢
       cases hl:look g X.rn with
       |none=>rw[hl]at hg;exact(hg rfl).elim
       |some r=>
        rw[hl]at hg
        simp only at hg ⊢
        have hm:=look_mem hl
        obtain⟨_,⟨Rr,oR,lR⟩,_,q4⟩:=s2.rn _ hm
        have hmk:=hmark b hg0
        rw[hmk,show E0.K g=E2.K r from q4,hEA]
        unfold tagOf at hg ⊢
        have oR:X.H.objs.get r=some Rr:=oR
        rw[oR]at hg ⊢
        cases Rr with
        |o g' l'=>
         obtain⟨_,_,_,_,_,_,t4⟩:=S2.row _ _ oR
         exact t4 hg
        | _=>exact(hg rfl).elim
     |zo l=>
      obtain⟨id,row,k1,k2,k3⟩:=s1
      exact⟨id,row,by rw[hav];exact k1,by rw[hEG];exact k2,Vs.rn RN k3⟩
     |l t x=>
      have hK:E'.K (bkF X.rn X.H.next H1 j)=E1.K j:=by unfold bkF;rw[b];exact(hKn j).1
      rw[hK]
      exact LR.mono (by rw[hEG];exact fun _ _ e=>e) (fun _ _ _ e=>e) s1
     |z t x=>
      have hK:E'.K (bkF X.rn X.H.next H1 j)=E1.K j:=by unfold bkF;rw[b];exact(hKn j).1
      rw[hK]
      exact LR.mono (by rw[hEG];exact fun _ _ e=>e) (fun _ _ _ e=>by rw[hEG];exact e) s1
    ·obtain⟨a,b,hn⟩:=old q
     obtain⟨_,s1⟩:=S2.row _ _ a
     refine⟨by rw[hN];omega,?_⟩
     rw[(hKo r b).1]
     have le2:ELe E2 E' X.H.next:=⟨fun r hr=>(hKo r hr).1,fun r hr=>(hKo r hr).2,by rw[hEG];have:=X1.G;rw[show E0.tg.G=E2.G from s2.G]at this;exact this,hEA⟩
     refine s1.mono le2 (by rw[hN];omega) fun lv id row e1 e2=>?_
     have hid:=S2.lt r id ⟨Q,a,lv⟩ e1
     rw[X1.fr id hid fun j o e=>hn id lv e1 j o e]
     exact e2
   ·intro r r' id o o' e e'
    rcases ownN o with⟨j,a,b,rfl⟩|⟨a,b,hn⟩<;>rcases ownN o' with⟨j',a',b',rfl⟩|⟨a',b',hn'⟩
    ·rw[(hbk j a).2.1]at e;rw[(hbk j' a').2.1]at e'
     rw[S1.inj j j' id b b' e e']
    ·rw[(hbk j a).2.1]at e;rw[(hKo r' a').1]at e'
     exact(clash b e b' e' hn').elim
    ·rw[(hbk j' a').2.1]at e';rw[(hKo r a).1]at e
     exact(clash b' e' b e hn).elim
    ·rw[(hKo r a).1]at e;rw[(hKo r' a').1]at e'
     exact S2.inj r r' id b b' e e'
   ·intro r id o e
    rcases ownN o with⟨j,a,b,rfl⟩|⟨a,b,hn⟩
    ·rw[(hbk j a).2.1]at e;exact S1.lt j id b e
    ·rw[(hKo r a).1]at e;exact Nat.lt_of_lt_of_le (S2.lt r id b e) X1.le'
   ·intro id row e
    rw[hEG]at e
    obtain⟨g1,g2,g3⟩:=S1.g id row e
    refine⟨g1,g2,fun r o e2=>?_⟩
    rcases ownN o with⟨j,a,b,rfl⟩|⟨a,b,hn⟩
    ·rw[(hbk j a).2.1]at e2;exact g3 j b e2
    ·rw[(hKo r a).1]at e2
     rcases X1.gw id row e with q|⟨j0,o0,e0⟩|q
     ·rw[show E0.tg.G=E2.G from s2.G]at q
      exact(S2.g id row q).2.2 r b e2
     ·exact hn id e2 j0 o0 e0
     ·have:=S2.lt r id b e2;omega
   ·cases v1 with
    |cons x _=>exact V.rn RN x
  ·cases e3
 ·cases e
def inl(bk:FuncId->Option FbK)(ent:FuncId->Option Fsp)(m d:Nat):CallQ:=Nat.rec (fun _ _ _=>.bad) (fun _ ih f args h=>match ent f with
 |some s=>s.call args h
 |none=>(match bk f with
  |some b=>bif Nat.ble b.ntmps 512 then sStep (fun _=>none) b m ih args h else .bad
  |none=>.bad)) d
theorem inl_ok{bk:FuncId->Option FbK}{ent:FuncId->Option Fsp}{m:Nat}{cal:CallN}(hb: ∀ f b,bk f=some b->StepOk cal f b)(he: ∀ f s,ent f=some s->s.Ok f cal): ∀ d,SimC (inl bk ent m d) cal
 |0=>by intro E f args as H h v H' _ _ e;cases e
 |d+1=>by
  intro E f args as H h v H' hv hH e
  change (match ent f with|some s=>s.call args H|none=>(match bk f with|some b=>bif Nat.ble b.ntmps 512 then sStep (fun _=>none) b m (inl bk ent m d) args H else .bad|none=>.bad)).val=some (v,H')at e
  split at e
  ·rename_i s hs
   exact call_ok (he f s hs) hv hH e
  ·split at e
   ·rename_i b hb'
    obtain⟨h5,e⟩:=cond_left e
    exact sStep_ok (inl_ok hb he d) (R:=Rx.s) (hb f b hb') (Nat.le_of_ble_eq_true h5) (okL_none _) hv hH e
   ·cases e
end Lf
end Go.Ab

noncomputable section
namespace Go.Ab
namespace Lf
@[reducible] noncomputable def denT(l:List Ty):Type:=List.rec Unit (fun t _ ih=>den t×ih) l
def ofT(l:List Ty):denT l->List Pl:=List.rec (motive:=fun l=>denT l->List Pl) (fun _=>[]) (fun t _ ih x=>⟨t,x.1⟩::ih x.2) l
def toT(l:List Ty):List Pl->Option (denT l):=List.rec (motive:=fun l=>List Pl->Option (denT l))
 (fun pl=>match pl with
  | []=>some ()
  | _::_=>none)
 (fun t _ ih pl=>match pl with
  |⟨t',x⟩::r=>(match teq t' t with
   |some ⟨e⟩=>(match ih r with
    |some y=>some (e▸x,y)
    |none=>none)
   |none=>none)
  | []=>none) l
theorem toT_ok: ∀ {l:List Ty} {pl:List Pl} {x:denT l},toT l pl=some x->pl=ofT l x
 | [],pl,x,h=>by
  cases pl with
  |nil=>rfl
  |cons _ _=>cases h
 |t::l,pl,x,h=>by
  cases pl with
  |nil=>cases h
  |cons p r=>
   obtain⟨t',y⟩:=p
   change (match teq t' t with|some ⟨e⟩=>(match toT l r with|some z=>some (e▸y,z)|none=>none)|none=>none)=some x at h
   split at h
   ·rename_i q hq
    cases q
    split at h
    ·rename_i z hz
     cases h
     rw[toT_ok hz];rfl
    ·cases h
   ·cases h
def T.map{α β:Type}(f:α->β)(x:T α):T β:=x.bd fun a=>.ok (f a)
theorem T.map_val{α β:Type}{f:α->β}{x:T α}{b:β}(h:(x.map f).val=some b): ∃ a,x.val=some a/\b=f a:=by
 obtain⟨a,h1,h2⟩:=T.bd_some h
 cases h2
 exact⟨a,h1,rfl⟩
def mkF(P:Pat)(ptr:List Nat)(Q:Pat)(ti to:List Ty)(g:denT ti->T (denT to)):Fsp:=⟨P,ptr,Q,fun pl=>match toT ti pl with
 |some x=>(g x).map (ofT to)
 |none=>.bad⟩
theorem mkF_ok{call:CallQ}{cal:CallN}(C:SimC call cal){f:FuncId}{b:FbK}(hb:StepOk cal f b)(h512:Nat.ble b.ntmps 512=true){L:Nat->Option CdR}(hL:okL Rx.w cal L b.code){m:Nat}{P:Pat}{ptr:List Nat}{Q:Pat}{ti to:List Ty}{g:denT ti->T (denT to)}
 (h0:allB (fun g=> !(Nat.beq g 0)) ptr=true)(hf: ∀ x y,(g x).val=some y->(fnT P ptr Q L b m call (ofT ti x)).val=some (ofT to y)):(mkF P ptr Q ti to g).Ok f cal:=by
 refine fn_ok C hb (Nat.le_of_ble_eq_true h512) hL (m:=m) (fun g hg e=>?_) fun pl q h=>?_
 ·rw[allB_eq,List.all_eq_true]at h0
  have:=h0 g hg
  subst e
  cases this
 ·change (match toT ti pl with|some x=>(g x).map (ofT to)|none=>.bad).val=some q at h
  split at h
  ·rename_i x hx
   obtain⟨y,h1,h2⟩:=T.map_val h
   rw[toT_ok hx,h2]
   exact hf x y h1
  ·cases h
def mkL(l:Lop)(ti:List Ty)(g:denT ti->T (Nat×List Pl)):CdR:=l.pc fun pl=>match toT ti pl with
 |some x=>g x
 |none=>.bad
theorem mkL_ok{call:CallQ}{cal:CallN}(C:SimC call cal){l:Lop}{L:Nat->Option CdR}{m:Nat}(hL:okL Rx.w cal L l.body){ti:List Ty}{g:denT ti->T (Nat×List Pl)}(hf: ∀ x k q,(g x).val=some (k,q)->Rch (l.step L call m) (ofT ti x) k q):
 SimD Rx.w (mkL l ti g) (fun n d=>aCd (cal n d) n (.bl l.id (.lp l.body))):=by
 refine pc_ok C hL (m:=m) fun pl k q h=>?_
 change (match toT ti pl with|some x=>g x|none=>.bad).val=some (k,q)at h
 split at h
 ·rename_i x hx;rw[toT_ok hx];exact hf x k q h
 ·cases h
def blks(c:CdK):List (Nat×CdK):=CdK.rec (fun _=>[]) [] (fun _ _ a b=>app a b) (fun _ _ _ a b=>app a b) (fun id c b=>(id,c)::b) (fun _ b=>b) (fun _=>[]) [] [] c
def fndB(id:Nat)(l:List (Nat×CdK)):List CdK:=List.rec [] (fun p _ ih=>Bool.rec ih (p.2::ih) (Nat.beq p.1 id)) l
theorem fndB_mem{id:Nat}{l:List (Nat×CdK)}{b:CdK}(h:(id,b)∈l):b∈fndB id l:=by
 induction l with
 |nil=>cases h
 |cons p l ih=>
  change b∈(Bool.rec (fndB id l) (p.2::fndB id l) (Nat.beq p.1 id):List CdK)
  rcases List.mem_cons.1 h with e|e
  ·rw[<-e]
   simp only[Nat.beq_refl]
   exact List.mem_cons_self
  ·cases Nat.beq p.1 id with
   |true=>exact List.mem_cons_of_mem _ (ih e)
   |false=>exact ih e
def lpOf(c:CdK)(id:Nat):CdK:=match fndB id (blks c)with
 | [.lp b]=>b
 | _=>.bad
def pcL(l:List (Nat×CdR))(i:Nat):Option CdR:=List.rec none (fun p _ ih=>bif Nat.beq p.1 i then some p.2 else ih) l
theorem okL_of{R:Rx}{cal:CallN}{L:Nat->Option CdR}{c:CdK}(h: ∀ p,p∈blks c-> ∀ f,L p.1=some f->SimD R f (fun n d=>aCd (cal n d) n (.bl p.1 p.2))):okL R cal L c:=by
 induction c with
 |sq a b iha ihb=>
  have h: ∀ p,p∈app (blks a) (blks b)-> ∀ f,L p.1=some f->SimD R f (fun n d=>aCd (cal n d) n (.bl p.1 p.2)):=h
  rw[app_eq]at h
  exact⟨iha fun p hp=>h p (List.mem_append_left _ hp),ihb fun p hp=>h p (List.mem_append_right _ hp)⟩
 |cif o a b iha ihb=>
  have h: ∀ p,p∈app (blks a) (blks b)-> ∀ f,L p.1=some f->SimD R f (fun n d=>aCd (cal n d) n (.bl p.1 p.2)):=h
  rw[app_eq]at h
  exact⟨iha fun p hp=>h p (List.mem_append_left _ hp),ihb fun p hp=>h p (List.mem_append_right _ hp)⟩
 |bl id b ih=>
  refine⟨?_,ih fun p hp=>h p (List.mem_cons_of_mem _ hp)⟩
  split
  ·rename_i f hf
   exact h (id,b) List.mem_cons_self f hf
  ·trivial
 |lp b ih=>exact ih h
 | _=>trivial
inductive PcOk (cal:CallN) (c:CdK):List (Nat×CdR)->Prop
 |nil:PcOk cal c []
 |cons {i:Nat} {f:CdR} {b:CdK} {l:List (Nat×CdR)}:fndB i (blks c)=[.lp b]->SimD Rx.w f (fun n d=>aCd (cal n d) n (.bl i (.lp b)))->PcOk cal c l->PcOk cal c ((i,f)::l)
theorem PcOk.okL{cal:CallN}{c:CdK}{l:List (Nat×CdR)}(h:PcOk cal c l):okL Rx.w cal (pcL l) c:=by
 refine okL_of fun p hp f hf=>?_
 induction h with
 |nil=>cases hf
 |cons h1 h2 _ ih=>
  rename_i i g b l _
  have hf:(bif Nat.beq i p.1 then some g else pcL l p.1)=some f:=hf
  cases hb:Nat.beq i p.1 with
  |true=>
   rw[hb]at hf
   cases hf
   have e:=beq_true hb
   subst e
   have:=fndB_mem hp
   rw[h1]at this
   rw[List.mem_singleton.1 this]
   exact h2
  |false=>rw[hb]at hf;exact ih hf
def entL(l:List (Nat×Fsp))(f:FuncId):Option Fsp:=List.rec none (fun p _ ih=>bif Nat.beq p.1 f then some p.2 else ih) l
inductive EnOk (cal:CallN):List (Nat×Fsp)->Prop
 |nil:EnOk cal []
 |cons {i:Nat} {s:Fsp} {l:List (Nat×Fsp)}:s.Ok i cal->EnOk cal l->EnOk cal ((i,s)::l)
theorem EnOk.ok{cal:CallN}{l:List (Nat×Fsp)}(h:EnOk cal l): ∀ f s,entL l f=some s->s.Ok f cal:=by
 induction h with
 |nil=>intro f s e;cases e
 |cons h1 _ ih=>
  rename_i i t l _
  intro f s e
  have e:(bif Nat.beq i f then some t else entL l f)=some s:=e
  cases hb:Nat.beq i f with
  |true=>rw[hb]at e;cases e;rw[<-beq_true hb];exact h1
  |false=>rw[hb]at e;exact ih f s e
end Lf
end Go.Ab

noncomputable section
namespace Go.Ab
namespace Lf
def foldX{α S O:Type}(G:S->α->S ⊕ O)(e:S->O):List α->S->O
 | [],s=>e s
 |x::r,s=>match G s x with
  | .inl s'=>foldX G e r s'
  | .inr o=>o
theorem foldX_inl{α S O:Type}{F:S->α->S}{e:S->O}(l:List α): ∀ (s:S),foldX (fun s x=>.inl (F s x)) e l s=e (l.foldl F s):=by
 induction l with
 |nil=>intro s;rfl
 |cons x r ih=>intro s;exact ih (F s x)
def rsOf{S:Type}(st:S->List Pl):S ⊕ (Nat×List Pl)->Rs
 | .inl s=>.next (st s)
 | .inr o=>.out o.1 o.2
theorem rng{α S:Type}{f:List Pl->T Rs}{l:List α}(st:S->Nat->List Pl)(G:S->α->S ⊕ (Nat×List Pl))(e:S->Nat×List Pl)(inv:S->List α->Prop)
 (hstep: ∀ s j x r,l.drop j=x::r->inv s (x::r)->(f (st s j)).val=some (rsOf (fun s=>st s (j+1)) (G s x))/\ ∀ s',G s x=.inl s'->inv s' r)
 (hend: ∀ s j,l.drop j=[]->j<=l.length->inv s []->(f (st s j)).val=some (.out (e s).1 (e s).2)): ∀ (r:List α) (j:Nat) (s:S),l.drop j=r->j<=l.length->inv s r->Rch f (st s j) (foldX G e r s).1 (foldX G e r s).2
 | [],j,s,h,hj,hi=>.last (hend s j h hj hi)
 |x::r,j,s,h,hj,hi=>by
  obtain⟨h1,h2⟩:=hstep s j x r h hi
  have hlt:j<l.length:=by
   rcases Nat.lt_or_ge j l.length with k|k
   ·exact k
   ·rw[List.drop_eq_nil_of_le k]at h;cases h
  cases hg:G s x with
  |inl s'=>
   rw[hg]at h1
   have hr:l.drop (j+1)=r:=by rw[<-List.tail_drop,h];rfl
   have:=rng st G e inv hstep hend r (j+1) s' hr hlt (h2 s' hg)
   have e2:foldX G e (x::r) s=foldX G e r s':=by simp only[foldX,hg]
   rw[e2]
   exact .more h1 this
  |inr o=>
   rw[hg]at h1
   have e2:foldX G e (x::r) s=o:=by simp only[foldX,hg]
   rw[e2]
   exact .last h1
def foldR{α S O:Type}(G:S->α->List α->S ⊕ O)(e:S->O):List α->S->O
 | [],s=>e s
 |x::r,s=>match G s x r with
  | .inl s'=>foldR G e r s'
  | .inr o=>o
def rsR{S O:Type}(st:S->List Pl)(om:O->Nat×List Pl):S ⊕ O->Rs
 | .inl s=>.next (st s)
 | .inr o=>.out (om o).1 (om o).2
theorem rngR{α S O:Type}{f:List Pl->T Rs}{l:List α}(st:S->Nat->List Pl)(G:S->α->List α->S ⊕ O)(e:S->O)(om:O->Nat×List Pl)(inv:S->List α->Prop)
 (hstep: ∀ s j x r,l.drop j=x::r->inv s (x::r)->(f (st s j)).val=some (rsR (fun s=>st s (j+1)) om (G s x r))/\ ∀ s',G s x r=.inl s'->inv s' r)
 (hend: ∀ s j,l.drop j=[]->j<=l.length->inv s []->(f (st s j)).val=some (.out (om (e s)).1 (om (e s)).2)): ∀ (r:List α) (j:Nat) (s:S),l.drop j=r->j<=l.length->inv s r->Rch f (st s j) (om (foldR G e r s)).1 (om (foldR G e r s)).2
 | [],j,s,h,hj,hi=>.last (hend s j h hj hi)
 |x::r,j,s,h,hj,hi=>by
  obtain⟨h1,h2⟩:=hstep s j x r h hi
  have hlt:j<l.length:=by
   rcases Nat.lt_or_ge j l.length with k|k
   ·exact k
   ·rw[List.drop_eq_nil_of_le k]at h;cases h
  cases hg:G s x r with
  |inl s'=>
   rw[hg]at h1
   have hr:l.drop (j+1)=r:=by rw[<-List.tail_drop,h];rfl
   have:=rngR st G e om inv hstep hend r (j+1) s' hr hlt (h2 s' hg)
   have e2:foldR G e (x::r) s=foldR G e r s':=by simp only[foldR,hg]
   rw[e2]
   exact .more h1 this
  |inr o=>
   rw[hg]at h1
   have e2:foldR G e (x::r) s=o:=by simp only[foldR,hg]
   rw[e2]
   exact .last h1
theorem drop_get{α:Type}{l:List α}{j:Nat}{x:α}{r:List α}(h:l.drop j=x::r)(d:α):j<l.length/\l.getD j d=x:=by
 have hlt:j<l.length:=by
  rcases Nat.lt_or_ge j l.length with k|k
  ·exact k
  ·rw[List.drop_eq_nil_of_le k]at h;cases h
 refine⟨hlt,?_⟩
 rw[List.drop_eq_getElem_cons hlt]at h
 injection h with h _
 simp[List.getD_eq_getElem?_getD,List.getElem?_eq_getElem hlt,h]
theorem wrap_i64{n:Int}(h1: -9223372036854775808<=n)(h2:n<9223372036854775808):wrapF .i64 n=n:=by
 show Int.sub (Int.emod (Int.add n 9223372036854775808) 18446744073709551616) 9223372036854775808=n
 have e:Int.emod (Int.add n 9223372036854775808) 18446744073709551616=n+9223372036854775808:=Int.emod_eq_of_lt (by show 0<=n+_;omega) (by show n+_<_;omega)
 rw[e]
 show n+9223372036854775808 - 9223372036854775808=n
 omega
theorem sub1{n:Nat}(h:0<n)(h2:n<4611686018427387904):subW .i64 (n:Int) 1=((n - 1:Nat):Int):=by
 unfold subW
 rw[wrap_i64 (by omega) (by omega)]
 omega
theorem wrap_u64{n:Int}(h1:0<=n)(h2:n<18446744073709551616):wrapF .u64 n=n:=Int.emod_eq_of_lt h1 h2
theorem add1{j:Nat}(h:j<4611686018427387904):addW .i64 (j:Int) 1=((j+1:Nat):Int):=by
 unfold addW
 rw[wrap_i64 (by omega) (by omega)]
 omega
theorem cvt_u64(n:Int):0<=cvtW .u64 n/\cvtW .u64 n<18446744073709551616:=⟨Int.emod_nonneg n (by decide),Int.emod_lt_of_pos n (by decide)⟩
theorem cvt_i64(n:Int): -9223372036854775808<=cvtW .i64 n/\cvtW .i64 n<9223372036854775808:=by
 have h1:0<=(n+9223372036854775808) % 18446744073709551616:=Int.emod_nonneg _ (by decide)
 have h2:(n+9223372036854775808) % 18446744073709551616<18446744073709551616:=Int.emod_lt_of_pos _ (by decide)
 have e:cvtW .i64 n=(n+9223372036854775808) % 18446744073709551616 - 9223372036854775808:=rfl
 omega
theorem ix_nat{j n:Nat}(h:j<n):ixOk (j:Int) (Int.ofNat n)=true:=by
 rw[ixOk_iff];exact⟨by omega,by have:Int.ofNat n=(n:Int):=rfl;omega⟩
theorem lt_nat{j n:Nat}(h:j<n):decide ((j:Int)<(n:Int))=true:=decide_eq_true (by omega)
theorem lt_natF{j n:Nat}(h:n<=j):decide ((j:Int)<(n:Int))=false:=decide_eq_false (by omega)
end Lf
end Go.Ab
namespace Go.Ab.Lf
def dfltT(l:List Ty):denT l:=List.rec (motive:=denT) () (fun t _ ih=>(dflt t,ih)) l
def okV1(to:List Ty)(x:T (List Pl)):Bool:=match x.val with
 |some q=>(match toT to q with
  |some _=>true
  |none=>false)
 |none=>false
def outV1(to:List Ty)(x:T (List Pl)):denT to:=match x.val with
 |some q=>(match toT to q with
  |some y=>y
  |none=>dfltT to)
 |none=>dfltT to
theorem outV1_ok{to:List Ty}{x:T (List Pl)}(h:okV1 to x=true):x.val=some (ofT to (outV1 to x)):=by
 unfold okV1 at h
 unfold outV1
 split at h
 ·rename_i q hq
  rw[hq]
  split at h
  ·rename_i y hy
   rw[toT_ok hy]
  ·cases h
 ·cases h
theorem auto_ok{call:CallQ}{cal:CallN}(C:SimC call cal){f:FuncId}{b:FbK}(hb:StepOk cal f b)(h512:Nat.ble b.ntmps 512=true){L:Nat->Option CdR}(hL:okL Rx.w cal L b.code){m:Nat}{P:Pat}{ptr:List Nat}{Q:Pat}{ti to:List Ty}{ok:denT ti->Bool}{out:denT ti->denT to}
 (h0:allB (fun g=> !(Nat.beq g 0)) ptr=true)(h1: ∀ x,ok x=okV1 to (fnT P ptr Q L b m call (ofT ti x)))(h2: ∀ x,out x=outV1 to (fnT P ptr Q L b m call (ofT ti x))):(mkF P ptr Q ti to fun x=>.ck (ok x) (.ok (out x))).Ok f cal:=by
 refine mkF_ok C hb h512 hL (m:=m) h0 fun x y h=>?_
 obtain⟨a,b⟩:=T.ck_some h
 cases b
 rw[h2]
 exact outV1_ok (by rw[<-h1];exact a)
end Go.Ab.Lf

noncomputable section
namespace Go.Ab.Lf
theorem toT_of: ∀ {l:List Ty} (x:denT l),toT l (ofT l x)=some x
 | [],_=>rfl
 |t::l,x=>by
  have ih:=toT_of (l:=l) x.2
  have key: ∀ (o:Option (PLift (t=t))) (p:Option (denT l)),o=some ⟨rfl⟩->p=some x.2->(match o with|some ⟨e⟩=>(match p with|some y=>some ((Eq.rec (motive:=fun s _=>den s) x.1 e:den t),y)|none=>none)|none=>none:Option (denT (t::l)))=some x:=by
   intro o p ho hp
   subst ho;subst hp
   rfl
  have e:toT (t::l) (ofT (t::l) x)=(match teq t t with|some ⟨e⟩=>(match toT l (ofT l x.2)with|some y=>some ((Eq.rec (motive:=fun s _=>den s) x.1 e:den t),y)|none=>none)|none=>none:Option (denT (t::l))):=by kernel_rfl
  rw[e]
  exact key _ _ (teq_self t) ih
theorem Rch.det{f:List Pl->T Rs}{pl:List Pl}{k:Nat}{q:List Pl}(h:Rch f pl k q): ∀ {k':Nat} {q':List Pl},Rch f pl k' q'->k=k'/\q=q':=by
 induction h with
 |last e=>
  intro k' q' h'
  cases h' with
  |last e'=>rw[e]at e';cases e';exact⟨rfl,rfl⟩
  |more e' _=>rw[e]at e';cases e'
 |more e _ ih=>
  intro k' q' h'
  cases h' with
  |last e'=>rw[e]at e';cases e'
  |more e' r=>rw[e]at e';cases e';exact ih r
def rchO(f:List Pl->T Rs)(pl:List Pl):Option (Nat×List Pl):=by
 classical exact if h: ∃ p:Nat×List Pl,Rch f pl p.1 p.2 then some (Classical.choose h)else none
theorem rchO_some{f:List Pl->T Rs}{pl:List Pl}{k:Nat}{q:List Pl}(h:Rch f pl k q):rchO f pl=some (k,q):=by
 unfold rchO
 have hx: ∃ p:Nat×List Pl,Rch f pl p.1 p.2:=⟨(k,q),h⟩
 rw[dif_pos hx]
 obtain⟨a,b⟩:=(Classical.choose_spec hx).det h
 exact congrArg some (Prod.ext a b)
theorem rchO_ok{f:List Pl->T Rs}{pl:List Pl}{k:Nat}{q:List Pl}(h:rchO f pl=some (k,q)):Rch f pl k q:=by
 unfold rchO at h
 split at h
 ·rename_i hx
  have:=Classical.choose_spec hx
  injection h with h
  rw[h]at this
  exact this
 ·cases h
def lk1(f:List Pl->T Rs)(ti to:List Ty)(x:denT ti):Bool:=match rchO f (ofT ti x)with
 |some (0,q)=>(toT to q).isSome
 | _=>false
def lo1(f:List Pl->T Rs)(ti to:List Ty)(x:denT ti):denT to:=match rchO f (ofT ti x)with
 |some (_,q)=>(toT to q).getD (dfltT to)
 |none=>dfltT to
theorem l1_eq{f:List Pl->T Rs}{ti to:List Ty}{x:denT ti}{y:denT to}(h:Rch f (ofT ti x) 0 (ofT to y)):lk1 f ti to x=true/\lo1 f ti to x=y:=by
 unfold lk1 lo1
 rw[rchO_some h]
 simp only[toT_of]
 exact⟨rfl,rfl⟩
theorem l1_rch{f:List Pl->T Rs}{ti to:List Ty}{x:denT ti}(h:lk1 f ti to x=true):Rch f (ofT ti x) 0 (ofT to (lo1 f ti to x)):=by
 unfold lk1 at h
 unfold lo1
 split at h
 ·rename_i q hq
  rw[hq]
  cases hy:toT to q with
  |none=>rw[hy]at h;cases h
  |some y=>
   have:=toT_ok hy
   subst this
   simp only[toT_of]
   exact rchO_ok hq
 ·cases h
def mkL1(l:Lop)(f:List Pl->T Rs)(ti to:List Ty):CdR:=mkL l ti fun x=>.ck (lk1 f ti to x) (.ok (0,ofT to (lo1 f ti to x)))
theorem mkL1_ok{call:CallQ}{cal:CallN}(C:SimC call cal){l:Lop}{L:Nat->Option CdR}{m:Nat}(hL:okL Rx.w cal L l.body)(ti to:List Ty):SimD Rx.w (mkL1 l (l.step L call m) ti to) (fun n d=>aCd (cal n d) n (.bl l.id (.lp l.body))):=
 mkL_ok C hL (m:=m) fun x k q h=>by
  obtain⟨h1,h2⟩:=T.ck_some h
  cases h2
  exact l1_rch h1
def lk2(f:List Pl->T Rs)(ti t0 t1:List Ty)(x:denT ti):Bool:=match rchO f (ofT ti x)with
 |some (0,q)=>(toT t0 q).isSome
 |some (1,q)=>(toT t1 q).isSome
 | _=>false
def lb2(f:List Pl->T Rs)(ti:List Ty)(x:denT ti):Bool:=match rchO f (ofT ti x)with
 |some (0,_)=>true
 | _=>false
theorem l2_eq0{f:List Pl->T Rs}{ti t0 t1:List Ty}{x:denT ti}{y:denT t0}(h:Rch f (ofT ti x) 0 (ofT t0 y)):lk2 f ti t0 t1 x=true/\lb2 f ti x=true/\lo1 f ti t0 x=y:=by
 unfold lk2 lb2 lo1
 rw[rchO_some h]
 simp only[toT_of]
 exact⟨rfl,trivial,rfl⟩
theorem l2_eq1{f:List Pl->T Rs}{ti t0 t1:List Ty}{x:denT ti}{y:denT t1}(h:Rch f (ofT ti x) 1 (ofT t1 y)):lk2 f ti t0 t1 x=true/\lb2 f ti x=false/\lo1 f ti t1 x=y:=by
 unfold lk2 lb2 lo1
 rw[rchO_some h]
 simp only[toT_of]
 exact⟨rfl,trivial,rfl⟩
theorem l2_rch{f:List Pl->T Rs}{ti t0 t1:List Ty}{x:denT ti}(h:lk2 f ti t0 t1 x=true):(lb2 f ti x=true->Rch f (ofT ti x) 0 (ofT t0 (lo1 f ti t0 x)))/\(lb2 f ti x=false->Rch f (ofT ti x) 1 (ofT t1 (lo1 f ti t1 x))):=by
 unfold lk2 at h
 unfold lb2 lo1
 split at h
 ·rename_i q hq
  rw[hq]
  refine⟨fun _=>?_,fun e=>by cases e⟩
  cases hy:toT t0 q with
  |none=>rw[hy]at h;cases h
  |some y=>
   have:=toT_ok hy
   subst this
   simp only[toT_of]
   exact rchO_ok hq
 ·rename_i q hq
  rw[hq]
  refine⟨fun e=>(by simp at e),fun _=>?_⟩
  cases hy:toT t1 q with
  |none=>rw[hy]at h;cases h
  |some y=>
   have:=toT_ok hy
   subst this
   simp only[toT_of]
   exact rchO_ok hq
 ·cases h
def mkL2(l:Lop)(f:List Pl->T Rs)(ti t0 t1:List Ty):CdR:=mkL l ti fun x=>.ck (lk2 f ti t0 t1 x) (.br (lb2 f ti x) (.ok (0,ofT t0 (lo1 f ti t0 x))) (.ok (1,ofT t1 (lo1 f ti t1 x))))
theorem mkL2_ok{call:CallQ}{cal:CallN}(C:SimC call cal){l:Lop}{L:Nat->Option CdR}{m:Nat}(hL:okL Rx.w cal L l.body)(ti t0 t1:List Ty):SimD Rx.w (mkL2 l (l.step L call m) ti t0 t1) (fun n d=>aCd (cal n d) n (.bl l.id (.lp l.body))):=
 mkL_ok C hL (m:=m) fun x k q h=>by
  obtain⟨h1,h2⟩:=T.ck_some h
  obtain⟨r0,r1⟩:=l2_rch h1
  rw[T.val_br]at h2
  cases hb:lb2 (l.step L call m) ti x with
  |true=>rw[hb]at h2;cases h2;exact r0 hb
  |false=>rw[hb]at h2;cases h2;exact r1 hb
theorem sem_of{to:List Ty}{t:T (List Pl)}{y:denT to}(h:t.val=some (ofT to y)):okV1 to t=true/\outV1 to t=y:=by
 unfold okV1 outV1
 rw[h]
 simp only[toT_of]
 exact⟨trivial,trivial⟩
end Go.Ab.Lf
