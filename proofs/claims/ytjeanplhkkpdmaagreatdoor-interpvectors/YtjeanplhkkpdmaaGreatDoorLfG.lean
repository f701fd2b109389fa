import Derived.Test.YtjeanplhkkpdmaaGreatDoorLfE
noncomputable section
namespace Go.Ab
namespace Lf
def e1:Hq:=⟨1,.nil⟩
def ak5(T:Tq)(sl:List Nat):Option (List Sv):=List.rec (some []) (fun i _ ih=>match(bif Nat.blt i 512 then T.at i else none)with
 |some v=>(match ih with
  |some vs=>some (v::vs)
  |none=>none)
 |none=>none) sl
def W0(sl:List Nat):List Sv->Tq->Tq:=List.rec (fun _ T=>T) (fun i _ ih vs T=>match vs with
 |v::vs=>ih vs (T.put i (some v))
 | []=>T) sl
def Md(sl:List Nat)(P:n9)(T:Tq)(H:Hq):Option (List Pl):=match ak5 T sl with
 |some vs=>(match F3 P vs ⟨H,1,[]⟩with
  |some (pl,[],_)=>some pl
  | _=>none)
 |none=>none
def mkS(sl:List Nat)(P:n9)(pl:List Pl):Option (Tq×Hq):=match nA P pl e1 with
 |some (ws,[],H)=>some (W0 sl ws Tq.none,H)
 | _=>none
theorem Qt{E:En}{N:Nat}{T:Tq}{t:Tm}(hT:TV E N T t): ∀ {sl:List Nat} {vs:List Sv},ak5 T sl=some vs-> ∃ cs,Vs E N vs cs/\sl.length=cs.length/\ ∀ (k i:Nat),sl[k]? =some i->i<512/\ ∃ a,t.at i=some a/\cs[k]? =some a
 | [],vs,e=>by cases e;exact⟨[],.nil,rfl,fun k i h=>by simp at h⟩
 |i::sl,vs,e=>by
  change (match(bif Nat.blt i 512 then T.at i else none)with|some v=>(match ak5 T sl with|some vs=>some (v::vs)|none=>none)|none=>none)=some vs at e
  split at e
  ·rename_i v hv
   split at e
   ·rename_i us hu
    cases e;obtain⟨hi,hv⟩:=jI hv;obtain⟨a,ha,DV⟩:=hT i v (jn.1 hi) hv;obtain⟨cs,c1,c2,c3⟩:=Qt hT hu;refine⟨a::cs,.cons DV c1,by simp[c2],fun k j h=>?_⟩;cases k with
    |zero=>simp at h;subst h;exact⟨jn.1 hi,a,ha,rfl⟩
    |succ k=>simpa using c3 k j (by simpa using h)
   ·cases e
  ·cases e
theorem W1{E:En}{N:Nat}{t:Tm}{sl:List Nat}: ∀ (ws:List Sv) (cs:List AV) (T:Tq),Vs E N ws cs->sl.length=cs.length->(∀ (k i:Nat),sl[k]? =some i->i<512/\ ∃ a,t.at i=some a/\cs[k]? =some a)->TV E N T t->TV E N (W0 sl ws T) t:=by
 induction sl with
 |nil=>intro _ _ T _ _ _ hT;exact hT
 |cons i sl ih=>
  intro ws cs T h hl hc hT;cases h with
  |nil=>simp at hl
  |cons hw hws=>
   rename_i w c ws cs
   obtain⟨hi,a,ha,hca⟩:=hc 0 i rfl;simp at hca;subst hca;refine ih _ _ _ hws (by simpa using hl) (fun k j h=>by simpa using hc (k+1) j (by simpa using h)) ?_;intro j v hj hv;rw[Tq.pK _ _ _ _ hi hj]at hv;split at hv
   ·rename_i e;subst e;cases hv;exact⟨c,ha,hw⟩
   ·exact hT j v hj hv
theorem ak7{E:En}{H:Hq}{h:Hp}(S:SR E H h)(A:Nat->AV)(hA:A=E.A):Sub ⟨fun _=>⟨.any,0⟩,fun _=>.any,E.G,A⟩ e1 E ⟨H,1,[]⟩ h:=by
 have no: ∀ r,¬ own e1 r:=by rintro r ⟨R,e,_⟩;cases e
 exact⟨rfl,Nat.one_pos,⟨(fun r R e=>by cases e),(fun r _ _ o=>(no r o).elim),(fun r _ o=>(no r o).elim),fun id row e=>⟨(S.g id row e).1,(S.g id row e).2.1,fun r o=>(no r o).elim⟩⟩,rfl,hA,(fun p hp=>by cases hp),fun j o=>(no j o).elim,fun _ _ _ hp=>by cases hp⟩
theorem Sub.ox{E0:En}{H0:Hq}{E E':En}{H:Hq}{X':Xq}{h:Hp}(n:Nx E E' H X'.H h h)(s:Sub E0 H0 E' X' h):Ox E E0 H H0 h h where
 A:=by rw[s.A,n.e.A]
 G:=by rw[s.G];exact n.e.G
 KO:=Nat.le_refl _
 ow j id o e:=by
  obtain⟨r,hr⟩:=s.ow j o;obtain⟨_,o2,_,k⟩:=s.rn _ hr;rw[k]at e;exact n.ow r id o2 e
 gw id row e:=by rw[s.G]at e;exact n.gw id row e
 fr _ _ _:=rfl
theorem Ey{sl:List Nat}{P:n9}{E:En}{T:Tq}{t:Tm}{H:Hq}{h:Hp}{pl:List Pl}(hT:TV E H.next T t)(hH:SR E H h)(e:Md sl P T H=some pl):
 ∃ T0 H0 E0,mkS sl P pl=some (T0,H0)/\TV E0 H0.next T0 t/\SR E0 H0 h/\Ox E E0 H H0 h h:=by
 unfold Md at e;split at e
 ·rename_i vs lP
  split at e
  ·rename_i pl' X' hx
   cases e;obtain⟨cs,c1,c2,c3⟩:=Qt hT lP;obtain⟨E',Cy,BL,ws,a1,a2,n1,S1,s1,d1,d2,d3,d4,_,_⟩:=OJ P (X:=⟨H,1,[]⟩) hH (ak7 hH E.A rfl) c1 hx
   have ha2:a2=[]:=by cases d2;rfl
   rw[ha2,List.append_nil]at d1;subst d1;have d3':=d3 [];rw[List.append_nil]at d3';refine⟨W0 sl ws Tq.none,BL,Cy,?_,?_,s1.S0,s1.ox n1⟩
   ·unfold mkS;rw[d3']
   ·exact W1 _ _ _ d4 c2 c3 fun i v _ hv=>by rw[Qs]at hv;cases hv
  ·cases e
 ·cases e
inductive Kd where
 |s7|rt|ex (i:Nat)
structure Ot where
 k:Kd
 sl:List Nat
 P:n9
inductive Rs where
 |next (pl:List Pl)
 |out (k:Nat) (pl:List Pl)
structure qV where
 id:Nat
 body:vV
 sl:List Nat
 P:n9
 outs:List Ot
def SI(id:Nat)(o:Oc)(k:Kd):Bool:=match o,k with
 | .exit i _ _,.s7=>Nat.beq i id
 | .ret _ _,.rt=>true
 | .exit i _ _,.ex j=>Nat.beq i j&& !(Nat.beq i id)
 | _,_=>false
def Oc.T:Oc->Tq
 | .norm t _=>t
 | .ret t _=>t
 | .exit _ t _=>t
def Oc.H:Oc->Hq
 | .norm _ h=>h
 | .ret _ h=>h
 | .exit _ _ h=>h
def Me(id:Nat)(o:Oc)(l:List Ot):Nat->Option Rs:=List.rec (fun _=>none) (fun q _ ih k=>bif SI id o q.k then(match Md q.sl q.P o.T o.H with
 |some pl=>some (.out k pl)
 |none=>none)else ih (Nat.add k 1)) l
def qV.step(l:qV)(L:Nat->Option mB)(call:lL)(m:Nat)(pl:List Pl):T Rs:=(T.of (mkS l.sl l.P pl)).bd fun s=>(sCd L call m l.body s.1 s.2).bd fun o=>match o with
 | .norm t h=>T.of (match Md l.sl l.P t h with
  |some pl=>some (.next pl)
  |none=>none)
 |o=>T.of (Me l.id o l.outs 0)
inductive oU (f:List Pl->T Rs):List Pl->Nat->List Pl->Prop
 |last {pl k q}:(f pl).val=some (.out k q)->oU f pl k q
 |more {pl pl' k q}:(f pl).val=some (.next pl')->oU f pl' k q->oU f pl k q
theorem T.qX{α:Type}{x:Option α}{a:α}(h:(T.of x).val=some a):x=some a:=by cases x with
 |none=>cases h
 |some b=>exact h
theorem F4{id:Nat}{o:Oc}{k:Nat}{q:List Pl}: ∀ {l:List Ot} {j:Nat},Me id o l j=some (.out k q)-> ∃ t,l[k - j]? =some t/\j<=k/\SI id o t.k=true/\Md t.sl t.P o.T o.H=some q
 | [],j,e=>by cases e
 |t::l,j,e=>by
  change (bif SI id o t.k then(match Md t.sl t.P o.T o.H with|some pl=>some (Rs.out j pl)|none=>none)else Me id o l (Nat.add j 1))=some (.out k q)at e
  cases hb:SI id o t.k with
  |true=>
   rw[hb]at e;simp only[cond_true]at e;split at e
   ·rename_i pl hp
    cases e;exact⟨t,by simp,Nat.le_refl _,hb,hp⟩
   ·cases e
  |false=>
   rw[hb]at e;obtain⟨u,h1,h2,h3,h4⟩:=F4 (l:=l) (j:=j+1) e
   have:k - j=(k - (j+1))+1:=by omega
   exact⟨u,by rw[this];simpa using h1,by omega,h3,h4⟩
theorem Aq{id:Nat}{o:Oc}{pl:List Pl}: ∀ {l:List Ot} {j:Nat},Me id o l j=some (.next pl)->False
 | [],j,e=>by cases e
 |t::l,j,e=>by
  change (bif SI id o t.k then(match Md t.sl t.P o.T o.H with|some pl=>some (Rs.out j pl)|none=>none)else Me id o l (Nat.add j 1))=some (.next pl)at e
  cases hb:SI id o t.k with
  |true=>
   rw[hb]at e;simp only[cond_true]at e;split at e<;>cases e
  |false=>rw[hb]at e;exact Aq (l:=l) e
def adh(E:En)(H:Hq)(h:Hp)(id:Nat)(t:Ot)(q:List Pl):Go.Ab.Rc->Prop
 | .ret t' h'=>t.k=.rt/\ ∃ T' H' E',mkS t.sl t.P q=some (T',H')/\Ox E E' H H' h h'/\SR E' H' h'/\TV E' H'.next T' t'
 | .exit i t' h'=>((t.k=.s7/\i=id)∨(t.k=.ex i/\i≠id))/\ ∃ T' H' E',mkS t.sl t.P q=some (T',H')/\Ox E E' H H' h h'/\SR E' H' h'/\TV E' H'.next T' t'
 | _=>False
theorem adh.trans{E E1:En}{H H1:Hq}{h h1:Hp}(X:Ox E E1 H H1 h h1){id:Nat}{t:Ot}{q:List Pl}{r:Go.Ab.Rc}(k:adh E1 H1 h1 id t q r):adh E H h id t q r:=by
 cases r<;>first|exact k.elim|skip
 ·obtain⟨a,T',H',E',b,c,d,e⟩:=k;exact⟨a,T',H',E',b,X.trans c,d,e⟩
 ·obtain⟨a,T',H',E',b,c,d,e⟩:=k;exact⟨a,T',H',E',b,X.trans c,d,e⟩
section
variable {call:lL}{cb:cx}(C:vu call cb)
include C
theorem ak8{l:qV}{L:Nat->Option mB}{m:Nat}(hL:pH Rx.w cb L l.body){pl:List Pl}{k:Nat}{q:List Pl}(r:oU (l.step L call m) pl k q): ∀ {E:En} {T:Tq} {t:Tm} {H:Hq} {h:Hp},mkS l.sl l.P pl=some (T,H)->TV E H.next T t->SR E H h->
 ∃ c u,Ev3 (fun n d j=>lpF j (nO (cb n d) n l.body) t h) c/\l.outs[k]? =some u/\adh E H h l.id u q c:=by
 induction r with
 |last e=>
  intro E T t H h hm hT hH;obtain⟨s,e1,e2⟩:=Lf.T.kj e;have e1:=Lf.T.qX e1;rw[hm]at e1;cases e1;obtain⟨o,e3,e4⟩:=Lf.T.kj e2;obtain⟨c,k1,q1⟩:=OI C (R:=Rx.w) m l.body hL E T t H h o hT hH e3;cases o with
  |norm T1 H1=>
   have e4:=Lf.T.qX e4;split at e4<;>cases e4
  |ret T1 H1=>
   have e4:=Lf.T.qX e4;obtain⟨u,u1,_,u2,u3⟩:=F4 e4;cases c with
   |ret t1 h1=>
    obtain⟨E1,X,S1,zI⟩:=q1;obtain⟨T2,H2,E2,r1,r2,r3,r4⟩:=Ey zI S1 u3;obtain⟨M,k1⟩:=k1;refine⟨.ret t1 h1,u,⟨M+1,fun n d j a b c=>?_⟩,by simpa using u1,?_,T2,H2,E2,r1,Ox.trans X r4,r3,r2⟩
    ·obtain⟨j',rfl⟩: ∃ j',j=j'+1:=⟨j - 1,by omega⟩
     have H8:=k1 n d (by omega) (by omega);dsimp only at H8;show(Rc.rec Rc.bad (fun t h=>lpF j' (nO (cb n d) n l.body) t h) (fun t h=>Rc.ret t h) (fun i t h=>Rc.exit i t h) (nO (cb n d) n l.body t h):Go.Ab.Rc)=_;rw[H8]
    ·cases hk:u.k with
     |rt=>rfl
     |s7=>rw[hk]at u2;cases u2
     |ex i=>rw[hk]at u2;cases u2
   | _=>exact q1.elim
  |exit i T1 H1=>
   have e4:=Lf.T.qX e4;obtain⟨u,u1,_,u2,u3⟩:=F4 e4;cases c with
   |exit i' t1 h1=>
    obtain⟨rfl,E1,X,S1,zI⟩:=q1;obtain⟨T2,H2,E2,r1,r2,r3,r4⟩:=Ey zI S1 u3;obtain⟨M,k1⟩:=k1;refine⟨.exit i t1 h1,u,⟨M+1,fun n d j a b c=>?_⟩,by simpa using u1,?_,T2,H2,E2,r1,Ox.trans X r4,r3,r2⟩
    ·obtain⟨j',rfl⟩: ∃ j',j=j'+1:=⟨j - 1,by omega⟩
     have H8:=k1 n d (by omega) (by omega);dsimp only at H8;show(Rc.rec Rc.bad (fun t h=>lpF j' (nO (cb n d) n l.body) t h) (fun t h=>Rc.ret t h) (fun i t h=>Rc.exit i t h) (nO (cb n d) n l.body t h):Go.Ab.Rc)=_;rw[H8]
    ·cases hk:u.k with
     |rt=>rw[hk]at u2;cases u2
     |s7=>rw[hk]at u2;exact .inl ⟨rfl,beq_true u2⟩
     |ex j=>
      rw[hk]at u2;have u2:(Nat.beq i j&& !(Nat.beq i l.id))=true:=u2;rw[Bool.and_eq_true]at u2;have:=beq_true u2.1;subst this;refine .inr ⟨rfl,fun e=>?_⟩;rw[e,Nat.beq_refl]at u2;cases u2.2
   | _=>exact q1.elim
 |more e _ ih=>
  intro E T t H h hm hT hH;obtain⟨s,e1,e2⟩:=Lf.T.kj e;have e1:=Lf.T.qX e1;rw[hm]at e1;cases e1;obtain⟨o,e3,e4⟩:=Lf.T.kj e2;obtain⟨c,k1,q1⟩:=OI C (R:=Rx.w) m l.body hL E T t H h o hT hH e3;cases o with
  |norm T1 H1=>
   obtain⟨t1,h1,E1,rfl,X,S1,zI⟩:=q1.norm;have e4:=Lf.T.qX e4;split at e4
   ·rename_i pl' hp
    cases e4;obtain⟨T2,H2,E2,r1,r2,r3,r4⟩:=Ey zI S1 hp;obtain⟨c,u,⟨M2,k2⟩,u1,u2⟩:=ih r1 r2 r3;obtain⟨M,k1⟩:=k1;refine⟨c,u,⟨max M M2+1,fun n d j a b c'=>?_⟩,u1,u2.trans (Ox.trans X r4)⟩
    obtain⟨j',rfl⟩: ∃ j',j=j'+1:=⟨j - 1,by omega⟩
    have H8:=k1 n d (by omega) (by omega);dsimp only at H8;show(Rc.rec Rc.bad (fun t h=>lpF j' (nO (cb n d) n l.body) t h) (fun t h=>Rc.ret t h) (fun i t h=>Rc.exit i t h) (nO (cb n d) n l.body t h):Go.Ab.Rc)=_;rw[H8];exact k2 n d j' (by omega) (by omega) (by omega)
   ·cases e4
  |ret T1 H1=>exact(Aq (Lf.T.qX e4)).elim
  |exit i T1 H1=>exact(Aq (Lf.T.qX e4)).elim
def qV.pc(l:qV)(f:List Pl->T (Nat×List Pl)):mB:=fun t h=>(T.of (Md l.sl l.P t h)).bd fun pl=>(f pl).bd fun p=>match sD l.outs p.1 with
 |some u=>(T.of (mkS u.sl u.P p.2)).bd fun s=>.ok (match u.k with
  | .s7=>.norm s.1 s.2
  | .rt=>.ret s.1 s.2
  | .ex i=>.exit i s.1 s.2)
 |none=>.bad
theorem asz{l:qV}{L:Nat->Option mB}{m:Nat}(hL:pH Rx.w cb L l.body){f:List Pl->T (Nat×List Pl)}(hf: ∀ pl k q,(f pl).val=some (k,q)->oU (l.step L call m) pl k q):
 lE Rx.w (l.pc f) (fun n d=>nO (cb n d) n (.bl l.id (.lp l.body))):=by
 intro E T t H h o hT hH e;obtain⟨pl,e1,e2⟩:=Lf.T.kj e;have e1:=Lf.T.qX e1;obtain⟨⟨k,q⟩,e3,e4⟩:=Lf.T.kj e2;obtain⟨T0,H0,E0,r1,r2,r3,r4⟩:=Ey hT hH e1;obtain⟨c,u,k1,u1,u2⟩:=ak8 C hL (hf pl k q e3) r1 r2 r3;simp only[nQ]at e4;rw[u1]at e4;obtain⟨s,e5,e6⟩:=Lf.T.kj e4;have e5:=Lf.T.qX e5;have k1:=k1.diag
 have hbl: ∀ n d,nO (cb n d) n (.bl l.id (.lp l.body)) t h=(Rc.rec Rc.bad (fun t h=>Rc.norm t h) (fun t h=>Rc.ret t h) (fun i t h=>Bool.rec (Rc.exit i t h) (Rc.norm t h) (Nat.beq i l.id)) (lpF n (nO (cb n d) n l.body) t h):Go.Ab.Rc):=fun _ _=>rfl
 cases c with
 |ret t1 h1=>
  obtain⟨a,T',H',E',b,x,y,z⟩:=u2;rw[b]at e5;cases e5;rw[a]at e6;cases e6;exact⟨.ret t1 h1,k1.Ap fun n d p=>(hbl n d).trans (by rw[p]),E',Ox.trans r4 x,y,z⟩
 |exit i t1 h1=>
  obtain⟨a,T',H',E',b,x,y,z⟩:=u2;rw[b]at e5;cases e5
  rcases a with⟨a,rfl⟩|⟨a,a2⟩
  ·rw[a]at e6;cases e6;exact⟨.norm t1 h1,k1.Ap fun n d p=>(hbl n d).trans (by rw[p];simp only[Nat.beq_refl]),E',Ox.trans r4 x,y,z⟩
  ·rw[a]at e6;cases e6;refine⟨.exit i t1 h1,k1.Ap fun n d p=>?_,rfl,E',Ox.trans r4 x,y,z⟩;refine(hbl n d).trans ?_;rw[p];have:Nat.beq i l.id=false:=by cases hb:Nat.beq i l.id with
    |false=>rfl
    |true=>exact(a2 (beq_true hb)).elim
   simp only[this]
 | _=>exact u2.elim
end
end Lf
end Go.Ab
noncomputable section
namespace Go.Ab
namespace Lf
def asA(r:Nat):Option Row->Option Row
 |some (.o _ l)=>some (.o r l)
 |x=>x
def DW(n:Nat)(H:Hq):Hq:=Nat.rec H (fun i ih=>match ih.cz.get i with
 |some (.o _ l)=>qa ih i (some (.o i l))
 | _=>ih) n
def oV(H:Hq):Hq:=DW H.next H
theorem BM(H:Hq): ∀ n,(DW n H).next=H.next/\ ∀ r,(DW n H).cz.get r=if r<n then asA r (H.cz.get r)else H.cz.get r
 |0=>⟨rfl,fun r=>by rw[if_neg (by omega)];rfl⟩
 |n+1=>by
  obtain⟨h1,h2⟩:=BM H n;have hs:DW (n+1) H=(match(DW n H).cz.get n with|some (.o _ l)=>qa (DW n H) n (some (.o n l))| _=>DW n H):=rfl;have hn:=h2 n;rw[if_neg (by omega)]at hn;rw[hs,hn];cases hg:H.cz.get n with
  |none=>
   refine⟨h1,fun r=>?_⟩;show(DW n H).cz.get r=_;rw[h2 r];by_cases e:r=n
   ·subst e;rw[if_neg (by omega),if_pos (by omega),hg];rfl
   ·by_cases e2:r<n
    ·rw[if_pos e2,if_pos (by omega)]
    ·rw[if_neg e2,if_neg (by omega)]
  |some R=>
   cases R with
   |o g l=>
    refine⟨h1,fun r=>?_⟩;show(qa (DW n H) n (some (.o n l))).cz.get r=_;rw[mE];by_cases e:r=n
    ·subst e;rw[if_pos rfl,if_pos (by omega),hg];rfl
    ·rw[if_neg e,h2 r];by_cases e2:r<n
     ·rw[if_pos e2,if_pos (by omega)]
     ·rw[if_neg e2,if_neg (by omega)]
   | _=>
    refine⟨h1,fun r=>?_⟩;show(DW n H).cz.get r=_;rw[h2 r];by_cases e:r=n
    ·subst e;rw[if_neg (by omega),if_pos (by omega),hg];rfl
    ·by_cases e2:r<n
     ·rw[if_pos e2,if_pos (by omega)]
     ·rw[if_neg e2,if_neg (by omega)]
theorem W2{r:Nat}{x:Option Row}{R:Row}(h:asA r x=some R): ∃ R0,x=some R0/\R.live=R0.live/\(R=R0∨ ∃ g l,R0=.o g l/\R=.o r l):=by
 cases x with
 |none=>cases h
 |some R0=>cases R0<;>cases h<;>first|exact⟨_,rfl,rfl,.inl rfl⟩|exact⟨_,rfl,rfl,.inr ⟨_,_,rfl,rfl⟩⟩
theorem F5{H:Hq}{r:Nat}{R:Row}(h:(oV H).cz.get r=some R): ∃ R0,H.cz.get r=some R0/\R.live=R0.live/\(R=R0∨ ∃ g l,R0=.o g l/\R=.o r l):=by
 have e:=(BM H H.next).2 r;have h':(DW H.next H).cz.get r=some R:=h;rw[e]at h';split at h'
 ·exact W2 h'
 ·exact⟨R,h',rfl,.inl rfl⟩
theorem BN{H:Hq}{r:Nat}(o:own (oV H) r):own H r:=by
 obtain⟨R,a,b⟩:=o;obtain⟨R0,c,d,_⟩:=F5 a;exact⟨R0,c,by rw[<-d];exact b⟩
theorem DG(H:Hq):(oV H).next=H.next:=(BM H H.next).1
def En.tg(E:En):En:=⟨E.K,E.tk,E.G,fun g=>(E.K g).av⟩
mutual
theorem V.Ud{E:En}{N:Nat}: ∀ {a c},V E N a c->V E.tg N a c
 | _,_,.i=>.i
 | _,_,.b=>.b
 | _,_,.a k=>.a k
 | _,_,.c k m=>.c k m
 | _,_,.ag k=>.ag (Vs.Ud k)
 | _,_,.tu k=>.tu (Vs.Ud k)
 | _,_,.fn k=>.fn (Vs.Ud k)
 | _,_,.rf a b=>.rf a b
 | _,_,.re a b c=>.re a b c
 | _,_,.os a b=>.os (E:=E.tg) a b
 | _,_,.se a b c d=>.se (E:=E.tg) a b c d
 | _,_,.ss a b c=>.ss a b c
 | _,_,.xo a b=>.xo a b
 | _,_,.zp k=>.zp (Vs.Ud k)
 | _,_,.zr k g s=>.zr (Vs.Ud k) g s
theorem Vs.Ud{E:En}{N:Nat}: ∀ {l l'},Vs E N l l'->Vs E.tg N l l'
 | _,_,.nil=>.nil
 | _,_,.cons a b=>.cons (V.Ud a) (Vs.Ud b)
end
theorem ak'{E:En}{H:Hq}{h:Hp}(S:SR E H h):SR E.tg (oV H) h where
 row r R e:=by
  obtain⟨R0,a,_,c⟩:=F5 e;obtain⟨s1,s2⟩:=S.row r R0 a;rw[DG];refine⟨s1,?_⟩
  rcases c with rfl|⟨g,l,rfl,rfl⟩
  ·cases R with
   |o g l=>
    obtain⟨id,row,k1,k2,k3,k4⟩:=s2;have e':=(BM H H.next).2 r;rw[if_pos s1,a]at e';have e2:(DW H.next H).cz.get r=some (.o g l):=e;rw[e2]at e'
    have:g=r:=by injection e' with e';injection e' with e'
    exact⟨id,row,k1,k2,Vs.Ud k3,fun _=>by rw[this];rfl⟩
   |zo l=>obtain⟨id,row,k1,k2,k3⟩:=s2;exact⟨id,row,k1,k2,Vs.Ud k3⟩
   |l t x=>exact s2
   |z t x=>exact s2
  ·obtain⟨id,row,k1,k2,k3,_⟩:=s2;exact⟨id,row,k1,k2,Vs.Ud k3,fun _=>rfl⟩
 inj r r' id o o' e e':=S.inj r r' id (BN o) (BN o') e e'
 lt r id o e:=S.lt r id (BN o) e
 g id row e:=by
  obtain⟨a,b,c⟩:=S.g id row e;exact⟨a,b,fun r o=>c r (BN o)⟩
def adi(g:Nat)(H:Hq):Option Nat:=Nat.rec none (fun i ih=>match H.cz.get i with
 |some (.o g' _)=>bif Nat.beq g g' then some i else ih
 | _=>ih) H.next
theorem adj{g:Nat}{H:Hq}{j:Nat}(h:adi g H=some j): ∃ l,H.cz.get j=some (.o g l):=by
 unfold adi at h
 generalize H.next=n at h
 induction n with
 |zero=>cases h
 |succ n ih=>
  change (match H.cz.get n with|some (.o g' _)=>(bif Nat.beq g g' then some n else(Nat.rec none (fun i ih=>match H.cz.get i with|some (.o g' _)=>bif Nat.beq g g' then some i else ih| _=>ih) n:Option Nat))| _=>(Nat.rec none (fun i ih=>match H.cz.get i with|some (.o g' _)=>bif Nat.beq g g' then some i else ih| _=>ih) n:Option Nat))=some j at h
  split at h
  ·rename_i g' l hr
   cases hb:Nat.beq g g' with
   |true=>rw[hb]at h;cases h;rw[beq_true hb];exact⟨l,hr⟩
   |false=>rw[hb]at h;exact ih h
  ·exact ih h
def ala(l:List Nat)(H:Hq):Option (List Sv):=List.rec (some []) (fun g _ ih=>match adi g H with
 |some j=>(match ih with
  |some r=>some (.rf j 0::r)
  |none=>none)
 |none=>none) l
theorem Qu{E:En}{H:Hq}{h:Hp}(S:SR E H h): ∀ {l:List Nat} {vs:List Sv},(∀ g,g∈l->g≠0)->ala l H=some vs->Vs E H.next vs (l.map E.A)
 | [],vs,_,e=>by cases e;exact .nil
 |g::l,vs,h0,e=>by
  change (match adi g H with|some j=>(match ala l H with|some r=>some (.rf j 0::r)|none=>none)|none=>none)=some vs at e
  split at e
  ·rename_i j hj
   split at e
   ·rename_i r hr
    cases e;obtain⟨q,hq⟩:=adj hj;obtain⟨lt,id,row,k1,k2,k3,k4⟩:=S.row _ _ hq;refine .cons ?_ (Qu S (fun g hg=>h0 g (List.mem_cons_of_mem _ hg)) hr);rw[<-k4 (h0 g List.mem_cons_self),k1];exact .rf lt k1
   ·cases e
  ·cases e
structure jJ where
 P:n9
 ptr:List Nat
 Q:n9
 f:List Pl->T (List Pl)
def jJ.Ok(s:jJ)(f:FuncId)(cb:cx):Prop:= ∀ (pl q:List Pl) (args:List Sv) (H0:Hq) (E0:En) (h:Hp) (as:List AV),(s.f pl).val=some q->nA s.P pl e1=some (args,[],H0)->Vs E0 H0.next args as->SR E0 (oV H0) h->
 ∃ c h' E1 ws H1,Ev (fun n d=>cb n d f as h) (.ok c h')/\Ox E0 E1 (oV H0) H1 h h'/\SR E1 H1 h'/\nA s.Q q e1=some (ws,[],H1)/\Vs E1 H1.next ws (c::s.ptr.map E0.A)
def mN(P:n9)(ptr:List Nat)(Q:n9)(L:Nat->Option mB)(b:Cv)(m:Nat)(call:lL)(pl:List Pl):T (List Pl):=match nA P pl e1 with
 |some (args,[],H0)=>(LP L b m call args (oV H0)).bd fun p=>match ala ptr p.2 with
  |some ps=>(match F3 Q (p.1::ps) ⟨p.2,1,[]⟩with
   |some (q,[],_)=>.ok q
   | _=>.bad)
  |none=>.bad
 | _=>.bad
theorem aiS{call:lL}{cb:cx}(C:vu call cb){f:FuncId}{b:Cv}(hb:sJ cb f b)(vU:b.ntmps<=512){L:Nat->Option mB}(hL:pH Rx.w cb L b.code){m:Nat}{s:jJ}(h0: ∀ g,g∈s.ptr->g≠0)
 (hf: ∀ pl q,(s.f pl).val=some q->(mN s.P s.ptr s.Q L b m call pl).val=some q):s.Ok f cb:=by
 intro pl q args H0 E0 h as e hP hv hS;have e1':=hf pl q e;unfold mN at e1';rw[hP]at e1';simp only at e1';obtain⟨⟨v,H1⟩,a1,a2⟩:=Lf.T.kj e1';obtain⟨c,h',E1,k1,X1,S1,hv1⟩:=Mb C (R:=Rx.w) hb vU hL (by rw[DG];exact hv) hS a1;simp only at a2;split at a2
 ·rename_i ps hps
  split at a2
  ·rename_i q' X2 hx
   cases a2;have rJ:=Qu S1 h0 hps;obtain⟨E2,E2',H2',ws,c1,c2,n2,S2,s2,d1,d2,d3,d4,_,_⟩:=OJ s.Q (X:=⟨H1,1,[]⟩) S1 (ak7 S1 E1.A rfl) (Vs.cons hv1 rJ) hx
   have hc2:c2=[]:=by cases d2;rfl
   rw[hc2,List.append_nil]at d1;have d3':=d3 [];rw[List.append_nil]at d3';refine⟨c,h',E2',ws,H2',k1,Ox.trans X1 (s2.ox n2),s2.S0,d3',?_⟩;have X1A:E1.A=E0.A:=(X1:Ox E0 E1 (oV H0) H1 h h').A;rw[<-d1,X1A]at d4;exact d4
  ·cases a2
 ·cases a2
end Lf
end Go.Ab
noncomputable section
namespace Go.Ab
namespace Lf
section
variable (f:Nat->Nat)(b:Nat)
mutual
def KP:Sv->Sv
 | .i k n=>.i k n
 | .b x=>.b x
 | .a v=>.a v
 | .c m t x=>.c (bif Nat.beq m 0 then 0 else Nat.add b m) t x
 | .ag l=>.ag (SJ l)
 | .tu l=>.tu (SJ l)
 | .fn g l=>.fn g (SJ l)
 | .rf r o=>.rf (f r) o
 | .re r s i o=>.re (f r) s i o
 | .os r s=>.os (f r) s
 | .ss r s o n=>.ss (f r) s o n
 | .xo r s o n=>.xo (f r) s o n
 | .zp l=>.zp (SJ l)
def SJ:List Sv->List Sv
 | []=>[]
 |a::l=>KP a::SJ l
end
end
def isRef:AV->Bool
 | .ref _ _=>true
 | _=>false
structure Rn(E1:En)(N1:Nat)(E:En)(N:Nat)(f:Nat->Nat)(b:Nat):Prop where
 lt: ∀ j,j<N1->f j<N
 K: ∀ j,j<N1->(E.K (f j)).av=(E1.K j).av/\(isRef (E1.K j).av=true∨E.K (f j)=E1.K j)
 tk: ∀ m,m<N1->m≠0->b+m<N/\E.tk (b+m)=E1.tk m
 G:GLe E1.G E.G
section
variable {E1:En}{N1:Nat}{E:En}{N:Nat}{f:Nat->Nat}{b:Nat}
theorem Qv: ∀ (l:List Sv),(SJ f b l).length=l.length
 | []=>by unfold SJ;rfl
 |a::l=>by unfold SJ;simp[Qv l]
mutual
theorem V.rn(R:Rn E1 N1 E N f b): ∀ {v a},V E1 N1 v a->V E N (KP f b v) a
 | _,_,.i=>by unfold KP;exact .i
 | _,_,.b=>by unfold KP;exact .b
 | _,_,.a k=>by unfold KP;exact .a k
 | _,_,.c (m:=m) k h=>by
  unfold KP
  refine .c (EV.mono R.G _ _ _ k) fun hm=>?_
  cases hb:Nat.beq m 0 with
  |true=>rw[hb]at hm;exact(hm rfl).elim
  |false=>
   have hm0:m≠0:=fun e=>by subst e;cases hb
   obtain⟨h1,h2⟩:=h hm0;obtain⟨t1,t2⟩:=R.tk m h1 hm0;exact⟨t1,by rw[h2];exact t2.symm⟩
 | _,_,.ag k=>by unfold KP;exact .ag (Vs.rn R k)
 | _,_,.tu k=>by unfold KP;exact .tu (Vs.rn R k)
 | _,_,.fn k=>by unfold KP;exact .fn (Vs.rn R k)
 | _,_,.rf h k=>by unfold KP;exact .rf (R.lt _ h) (by rw[(R.K _ h).1];exact k)
 | _,_,.re h k i=>by unfold KP;exact .re (R.lt _ h) (by rw[(R.K _ h).1];exact k) i
 | _,_,.os (r:=r) h k=>by
  unfold KP;obtain⟨k1,k2⟩:=R.K _ h
  rcases k2 with k2|k2
  ·rcases k with⟨k,_⟩|⟨_,_,k⟩
   ·generalize (E1.K r).av=x at k k2;cases x<;>first|(cases k2;done)|(cases k;done)
   ·rw[k]at k2;cases k2
  ·have:=V.os (E:=E) (N:=N) (r:=f r) (R.lt _ h) (by rw[k2];exact k);rw[k2]at this;exact this
 | _,_,.se (r:=r) (sz:=sz) h k n o=>by
  unfold KP;obtain⟨k1,k2⟩:=R.K _ h
  rcases k2 with k2|k2
  ·generalize (E1.K r).av=x at k k2;cases x<;>first|(cases k2;done)|(cases k;done)
  ·have:=V.se (E:=E) (N:=N) (r:=f r) (sz:=sz) (R.lt _ h) (by rw[k2];exact k) (by rw[k2];exact n) o;rw[k2]at this;exact this
 | _,_,.ss (r:=r) h k n=>by
  unfold KP;obtain⟨k1,k2⟩:=R.K _ h
  rcases k2 with k2|k2
  ·rw[k]at k2;cases k2
  ·exact .ss (R.lt _ h) (by rw[k2];exact k) (by rw[k2];exact n)
 | _,_,.xo h k=>by unfold KP;exact .xo (R.lt _ h) (by rw[(R.K _ h).1];exact k)
 | _,_,.zp k=>by unfold KP;exact .zp (Vs.rn R k)
 | _,_,.zr k g s=>by unfold KP;exact .zr (Vs.rn R k) (R.G _ _ g) (by rw[Qv];exact s)
theorem Vs.rn(R:Rn E1 N1 E N f b): ∀ {l l'},Vs E1 N1 l l'->Vs E N (SJ f b l) l'
 | _,_,.nil=>by unfold SJ;exact .nil
 | _,_,.cons a k=>by unfold SJ;exact .cons (V.rn R a) (Vs.rn R k)
end
end
def aiT(H:Hq)(r:Nat):Nat:=match H.cz.get r with
 |some (.o g _)=>g
 | _=>0
def Mf(rn:List (Nat×Nat))(b:Nat)(H1:Hq)(j:Nat):Nat:=match H1.cz.get j with
 |some (.o g _)=>bif Nat.beq g 0 then Nat.add b j else(match look g rn with
  |some r=>r
  |none=>Nat.add b j)
 | _=>Nat.add b j
def Mg(rn:List (Nat×Nat))(b:Nat)(H H1:Hq)(R:Row):Row:=match R with
 | .o g l=>.o (bif Nat.beq g 0 then 0 else(match look g rn with
  |some r=>aiT H r
  |none=>0)) (SJ (Mf rn b H1) b l)
 | .zo l=>.zo (SJ (Mf rn b H1) b l)
 |R=>R
def Ib(rn:List (Nat×Nat))(H:Hq):Hq:=List.rec H (fun p _ ih=>qa ih p.2 none) rn
def JA(rn:List (Nat×Nat))(b:Nat)(H H1:Hq)(n:Nat):Hq:=Nat.rec (Ib rn H) (fun j ih=>match H1.cz.get j with
 |some R=>qa ih (Mf rn b H1 j) (some (Mg rn b H H1 R))
 |none=>ih) n
def F6(rn:List (Nat×Nat))(H H1:Hq):Hq:=⟨Nat.add H.next H1.next,(JA rn H.next H H1 H1.next).cz⟩
def jJ.call(s:jJ):List Sv->Hq->T (Sv×Hq):=fun args H=>match F3 s.P args ⟨H,1,[]⟩with
 |some (pl,[],X)=>(s.f pl).bd fun q=>(match nA s.Q q e1 with
  |some (v::_,[],H1)=>.ok (KP (Mf X.rn X.H.next H1) X.H.next v,F6 X.rn X.H H1)
  | _=>.bad)
 | _=>.bad
theorem Ic{H:Hq}: ∀ {rn:List (Nat×Nat)} {r:Nat} {R:Row},(Ib rn H).cz.get r=some R->H.cz.get r=some R/\ ∀ j,(j,r)∉rn
 | [],r,R,h=>⟨h,fun j hj=>by cases hj⟩
 |p::rn,r,R,h=>by
  have h:(qa (Ib rn H) p.2 none).cz.get r=some R:=h;rw[mE]at h;split at h
  ·cases h
  ·rename_i ne
   obtain⟨a,b⟩:=Ic h;refine⟨a,fun j hj=>?_⟩
   rcases List.mem_cons.1 hj with e|e
   ·rw[<-e]at ne;exact ne rfl
   ·exact b j e
theorem F7{rn:List (Nat×Nat)}{b:Nat}{H H1:Hq}: ∀ {n r:Nat} {Q:Row},(JA rn b H H1 n).cz.get r=some Q->(∃ j R,j<n/\H1.cz.get j=some R/\Mf rn b H1 j=r/\Q=Mg rn b H H1 R)∨(Ib rn H).cz.get r=some Q
 |0,r,Q,h=>.inr h
 |n+1,r,Q,h=>by
  have h:(match H1.cz.get n with|some R=>qa (JA rn b H H1 n) (Mf rn b H1 n) (some (Mg rn b H H1 R))|none=>JA rn b H H1 n).cz.get r=some Q:=h;split at h
  ·rename_i R hR
   rw[mE]at h;split at h
   ·rename_i e;cases h;exact .inl ⟨n,R,Nat.lt_succ_self _,hR,e.symm,rfl⟩
   ·rcases F7 h with⟨j,R',a,c⟩|k
    ·exact .inl ⟨j,R',Nat.lt_succ_of_lt a,c⟩
    ·exact .inr k
  ·rcases F7 h with⟨j,R',a,c⟩|k
   ·exact .inl ⟨j,R',Nat.lt_succ_of_lt a,c⟩
   ·exact .inr k
theorem OK{rn:List (Nat×Nat)}{b:Nat}{H H1:Hq}{R:Row}:(Mg rn b H H1 R).live=R.live:=by cases R<;>rfl
theorem adk{s:jJ}{f:FuncId}{cb:cx}(k:s.Ok f cb){E:En}{args:List Sv}{as:List AV}{H H':Hq}{h:Hp}{v:Sv}(hv:Vs E H.next args as)(hH:SR E H h)(e:(s.call args H).val=some (v,H')):
 ∃ c h' E',Ev (fun n d=>cb n d f as h) (.ok c h')/\Nx E E' H H' h h'/\SR E' H' h'/\V E' H'.next v c:=by
 unfold jJ.call at e;split at e
 ·rename_i pl X hx
  obtain⟨q,e2,e3⟩:=Lf.T.kj e;split at e3
  ·rename_i w ws' H1 asB
   cases e3;obtain⟨E2,E0,H0,ws,a1,a2,n1,S2,s2,d1,d2,d3,d4,_,_⟩:=OJ s.P (X:=⟨H,1,[]⟩) hH (ak7 hH E.A rfl) hv hx
   have ha2:a2=[]:=by cases d2;rfl
   rw[ha2,List.append_nil]at d1;subst d1;have d3':=d3 [];rw[List.append_nil]at d3';obtain⟨c,h',E1,ws1,H1',k1,X1,S1,f1,v1⟩:=k pl q ws H0 E0.tg h as e2 d3' (Vs.Ud d4) (ak' s2.S0);rw[asB]at f1;cases f1;have hb0: ∀ p,p∈X.rn->p.2<X.H.next:=fun p hp=>by
    obtain⟨_,⟨R,oR,_⟩,_,_⟩:=s2.rn p hp;exact(S2.row _ _ oR).1
   have G6: ∃ E':En,(∀ r,r<X.H.next->E'.K r=E2.K r/\E'.tk r=E2.tk r)/\(∀ j,E'.K (X.H.next+j)=E1.K j/\E'.tk (X.H.next+j)=E1.tk j)/\E'.G=E1.G/\E'.A=E2.A:=
    ⟨⟨fun r=>if r<X.H.next then E2.K r else E1.K (r - X.H.next),fun r=>if r<X.H.next then E2.tk r else E1.tk (r - X.H.next),E1.G,E2.A⟩,fun r hr=>⟨if_pos hr,if_pos hr⟩,fun j=>by
      show(if _ then _ else _)=_/\(if _ then _ else _)=_;rw[if_neg (by omega),if_neg (by omega),Nat.add_sub_cancel_left]
      exact⟨rfl,rfl⟩,rfl,rfl⟩
   obtain⟨E',SK,hKn,hEG,hEA⟩:=G6
   have hN:(F6 X.rn X.H H1).next=X.H.next+H1.next:=rfl
   have aiU: ∀ {j g:Nat} {l:List Sv},H1.cz.get j=some (.o g l)->g≠0->(E1.K j).av=(E0.K g).av:=by
    intro j g l hj hg;obtain⟨_,id,row,k1,k2,k3,k4⟩:=S1.row _ _ hj;rw[k4 hg,X1.A];rfl
   have W4: ∀ j,j<H1.next->Mf X.rn X.H.next H1 j<X.H.next+H1.next/\(E'.K (Mf X.rn X.H.next H1 j)).av=(E1.K j).av/\(isRef (E1.K j).av=true∨E'.K (Mf X.rn X.H.next H1 j)=E1.K j):=by
    intro j hj
    have plain:X.H.next+j<X.H.next+H1.next/\(E'.K (X.H.next+j)).av=(E1.K j).av/\(isRef (E1.K j).av=true∨E'.K (X.H.next+j)=E1.K j):=⟨by omega,by rw[(hKn j).1],.inr (hKn j).1⟩
    unfold Mf;split
    ·rename_i g l hg
     cases hb:Nat.beq g 0 with
     |true=>exact plain
     |false=>
      have hg0:g≠0:=fun e=>by subst e;cases hb
      simp only[cond_false];cases hl:look g X.rn with
      |none=>exact plain
      |some r=>
       have hm:=vX hl;have hr:=hb0 _ hm;obtain⟨_,_,_,q4⟩:=s2.rn _ hm;have hmk:=aiU hg hg0;obtain⟨_,id,row,k1,_⟩:=S1.row _ _ hg;refine⟨by show r<_;have:=hr;simp only at this;omega,?_,.inl (by rw[k1];rfl)⟩;rw[(SK r hr).1,hmk];exact congrArg Kr.av q4.symm
    ·exact plain
   have RN:Rn E1 H1.next E' (F6 X.rn X.H H1).next (Mf X.rn X.H.next H1) X.H.next:=
    ⟨fun j hj=>(W4 j hj).1,fun j hj=>(W4 j hj).2,fun m hm _=>⟨by rw[hN];omega,(hKn m).2⟩,by rw[hEG];exact fun _ _ e=>e⟩
   have Qw: ∀ {j id:Nat},own (oV H0) j->sI (E0.tg.K j).av=some id-> ∃ r,(j,r)∈X.rn/\own X.H r/\sI (E2.K r).av=some id:=by
    intro j id o e;obtain⟨r,hr⟩:=s2.ow j (BN o);obtain⟨_,o2,_,q4⟩:=s2.rn _ hr;exact⟨r,hr,o2,by rw[<-show E0.K j=E2.K r from q4];exact e⟩
   have zj: ∀ {r:Nat} {Q:Row},(Ib X.rn X.H).cz.get r=some Q->X.H.cz.get r=some Q/\r<X.H.next/\(∀ id,Q.live=true->sI (E2.K r).av=some id-> ∀ j,own (oV H0) j->sI (E0.tg.K j).av≠some id):=by
    intro r Q hq;obtain⟨a,b⟩:=Ic hq;refine⟨a,(S2.row _ _ a).1,fun id lv e j o e2=>?_⟩;obtain⟨r',hr',o',e'⟩:=Qw o e2;have:=S2.inj r r' id ⟨Q,a,lv⟩ o' e e';subst this;exact b j hr'
   have W5: ∀ {r:Nat} {Q:Row},(F6 X.rn X.H H1).cz.get r=some Q->(∃ j R,j<H1.next/\H1.cz.get j=some R/\Mf X.rn X.H.next H1 j=r/\Q=Mg X.rn X.H.next X.H H1 R)∨(Ib X.rn X.H).cz.get r=some Q:=fun hq=>F7 hq
   have W6: ∀ {r:Nat},own (F6 X.rn X.H H1) r->(∃ j,j<H1.next/\own H1 j/\Mf X.rn X.H.next H1 j=r)∨(r<X.H.next/\own X.H r/\(∀ id,sI (E2.K r).av=some id-> ∀ j,own (oV H0) j->sI (E0.tg.K j).av≠some id)):=by
    rintro r ⟨Q,q1,q2⟩
    rcases W5 q1 with⟨j,R,a,b,c,d⟩|q
    ·exact .inl ⟨j,a,⟨R,b,by rw[d,OK]at q2;exact q2⟩,c⟩
    ·obtain⟨a,b,c⟩:=zj q;exact .inr ⟨b,⟨Q,a,q2⟩,fun id e=>c id q2 e⟩
   have aiV: ∀ {j id:Nat},own H1 j->sI (E1.K j).av=some id->(∃ j0,own (oV H0) j0/\sI (E0.tg.K j0).av=some id)∨h.next<=id:=fun o e=>X1.ow _ _ o e
   have aiW: ∀ {j r id:Nat},own H1 j->sI (E1.K j).av=some id->own X.H r->sI (E2.K r).av=some id->(∀ id,sI (E2.K r).av=some id-> ∀ j,own (oV H0) j->sI (E0.tg.K j).av≠some id)->False:=by
    intro j r id o e o' e' hn
    rcases aiV o e with⟨j0,a,b⟩|a
    ·exact hn id e' j0 a b
    ·have:=S2.lt r id o' e';omega
   refine⟨c,h',E',k1,n1.trans ⟨⟨fun r hr=>(SK r hr).1,fun r hr=>(SK r hr).2,?_,hEA⟩,by rw[hN];omega,X1.KO,?_,?_,?_⟩,⟨?_,?_,?_,?_⟩,?_⟩
   ·rw[hEG];have:=X1.G;rw[show E0.tg.G=E2.G from s2.G]at this;exact this
   ·intro r id o e
    rcases W6 o with⟨j,a,b,cc⟩|⟨a,b,_⟩
    ·rw[<-cc,(W4 j a).2.1]at e
     rcases aiV b e with⟨j0,o0,e0⟩|q
     ·obtain⟨r',_,o',e'⟩:=Qw o0 e0;exact .inl ⟨r',o',e'⟩
     ·exact .inr q
    ·rw[(SK r a).1]at e;exact .inl ⟨r,b,e⟩
   ·intro id row e;rw[hEG]at e
    rcases X1.gw id row e with q|⟨j0,o0,e0⟩|q
    ·rw[show E0.tg.G=E2.G from s2.G]at q;exact .inl q
    ·obtain⟨r',_,o',e'⟩:=Qw o0 e0;exact .inr (.inl ⟨r',o',e'⟩)
    ·exact .inr (.inr q)
   ·intro id hi hn
    refine X1.fr id hi fun j o e=>?_
    obtain⟨r',_,o',e'⟩:=Qw o e;exact hn r' o' e'
   ·
    intro r Q hq
    rcases W5 hq with⟨j,R,a,b,cc,rfl⟩|q
    ·subst cc;refine⟨(W4 j a).1,?_⟩;obtain⟨_,s1⟩:=S1.row _ _ b;have DV:=(W4 j a).2.1;cases R with
     |o g l=>
      obtain⟨id,row,k1,k2,k3,k4⟩:=s1;refine⟨id,row,by rw[DV];exact k1,k2,Vs.rn RN k3,fun hg=>?_⟩;rw[DV];cases hb:Nat.beq g 0 with
      |true=>rw[hb]at hg;exact(hg rfl).elim
      |false=>
       have hg0:g≠0:=fun e=>by subst e;cases hb
       rw[hb]at hg;simp only[cond_false]at hg ⊢;cases hl:look g X.rn with
       |none=>rw[hl]at hg;exact(hg rfl).elim
       |some r=>
        rw[hl]at hg;simp only at hg ⊢;have hm:=vX hl;obtain⟨_,⟨Rr,oR,lR⟩,_,q4⟩:=s2.rn _ hm;have hmk:=aiU b hg0;rw[hmk,show E0.K g=E2.K r from q4,hEA];unfold aiT at hg ⊢;have oR:X.H.cz.get r=some Rr:=oR;rw[oR]at hg ⊢;cases Rr with
        |o g' l'=>
         obtain⟨_,_,_,_,_,_,t4⟩:=S2.row _ _ oR;exact t4 hg
        | _=>exact(hg rfl).elim
     |zo l=>
      obtain⟨id,row,k1,k2,k3⟩:=s1;exact⟨id,row,by rw[DV];exact k1,by rw[hEG];exact k2,Vs.rn RN k3⟩
     |l t x=>
      have hK:E'.K (Mf X.rn X.H.next H1 j)=E1.K j:=by unfold Mf;rw[b];exact(hKn j).1
      rw[hK];exact LR.mono (by rw[hEG];exact fun _ _ e=>e) (fun _ _ _ e=>e) s1
     |z t x=>
      have hK:E'.K (Mf X.rn X.H.next H1 j)=E1.K j:=by unfold Mf;rw[b];exact(hKn j).1
      rw[hK];exact LR.mono (by rw[hEG];exact fun _ _ e=>e) (fun _ _ _ e=>by rw[hEG];exact e) s1
    ·obtain⟨a,b,hn⟩:=zj q;obtain⟨_,s1⟩:=S2.row _ _ a;refine⟨by rw[hN];omega,?_⟩;rw[(SK r b).1]
     have le2:Et E2 E' X.H.next:=⟨fun r hr=>(SK r hr).1,fun r hr=>(SK r hr).2,by rw[hEG];have:=X1.G;rw[show E0.tg.G=E2.G from s2.G]at this;exact this,hEA⟩
     refine s1.mono le2 (by rw[hN];omega) fun lv id row e1 e2=>?_
     have qk:=S2.lt r id ⟨Q,a,lv⟩ e1;rw[X1.fr id qk fun j o e=>hn id lv e1 j o e];exact e2
   ·intro r r' id o o' e e'
    rcases W6 o with⟨j,a,b,rfl⟩|⟨a,b,hn⟩<;>rcases W6 o' with⟨j',a',b',rfl⟩|⟨a',b',hn'⟩
    ·rw[(W4 j a).2.1]at e;rw[(W4 j' a').2.1]at e';rw[S1.inj j j' id b b' e e']
    ·rw[(W4 j a).2.1]at e;rw[(SK r' a').1]at e';exact(aiW b e b' e' hn').elim
    ·rw[(W4 j' a').2.1]at e';rw[(SK r a).1]at e;exact(aiW b' e' b e hn).elim
    ·rw[(SK r a).1]at e;rw[(SK r' a').1]at e';exact S2.inj r r' id b b' e e'
   ·intro r id o e
    rcases W6 o with⟨j,a,b,rfl⟩|⟨a,b,hn⟩
    ·rw[(W4 j a).2.1]at e;exact S1.lt j id b e
    ·rw[(SK r a).1]at e;exact Nat.lt_of_lt_of_le (S2.lt r id b e) X1.KO
   ·intro id row e;rw[hEG]at e;obtain⟨g1,g2,g3⟩:=S1.g id row e;refine⟨g1,g2,fun r o e2=>?_⟩
    rcases W6 o with⟨j,a,b,rfl⟩|⟨a,b,hn⟩
    ·rw[(W4 j a).2.1]at e2;exact g3 j b e2
    ·rw[(SK r a).1]at e2
     rcases X1.gw id row e with q|⟨j0,o0,e0⟩|q
     ·rw[show E0.tg.G=E2.G from s2.G]at q;exact(S2.g id row q).2.2 r b e2
     ·exact hn id e2 j0 o0 e0
     ·have:=S2.lt r id b e2;omega
   ·cases v1 with
    |cons x _=>exact V.rn RN x
  ·cases e3
 ·cases e
def inl(bk:FuncId->Option Cv)(ent:FuncId->Option jJ)(m d:Nat):lL:=Nat.rec (fun _ _ _=>.bad) (fun _ ih f args h=>match ent f with
 |some s=>s.call args h
 |none=>(match bk f with
  |some b=>bif Nat.ble b.ntmps 512 then LP (fun _=>none) b m ih args h else .bad
  |none=>.bad)) d
theorem W7{bk:FuncId->Option Cv}{ent:FuncId->Option jJ}{m:Nat}{cb:cx}(hb: ∀ f b,bk f=some b->sJ cb f b)(he: ∀ f s,ent f=some s->s.Ok f cb): ∀ d,vu (inl bk ent m d) cb
 |0=>by intro E f args as H h v H' _ _ e;cases e
 |d+1=>by
  intro E f args as H h v H' hv hH e
  change (match ent f with|some s=>s.call args H|none=>(match bk f with|some b=>bif Nat.ble b.ntmps 512 then LP (fun _=>none) b m (inl bk ent m d) args H else .bad|none=>.bad)).val=some (v,H')at e
  split at e
  ·rename_i s hs
   exact adk (he f s hs) hv hH e
  ·split at e
   ·rename_i b HI
    obtain⟨h5,e⟩:=lC e;exact Mb (W7 hb he d) (R:=Rx.s) (hb f b HI) (Nat.le_of_ble_eq_true h5) (cp _) hv hH e
   ·cases e
end Lf
end Go.Ab
noncomputable section
namespace Go.Ab
namespace Lf
@[reducible] noncomputable def ca(l:List Ty):Type:=List.rec Unit (fun t _ ih=>den t×ih) l
def cg(l:List Ty):ca l->List Pl:=List.rec (motive:=fun l=>ca l->List Pl) (fun _=>[]) (fun t _ ih x=>⟨t,x.1⟩::ih x.2) l
def toT(l:List Ty):List Pl->Option (ca l):=List.rec (motive:=fun l=>List Pl->Option (ca l))
 (fun pl=>match pl with
  | []=>some ()
  | _::_=>none)
 (fun t _ ih pl=>match pl with
  |⟨t',x⟩::r=>(match DF t' t with
   |some ⟨e⟩=>(match ih r with
    |some y=>some (e▸x,y)
    |none=>none)
   |none=>none)
  | []=>none) l
theorem rL: ∀ {l:List Ty} {pl:List Pl} {x:ca l},toT l pl=some x->pl=cg l x
 | [],pl,x,h=>by
  cases pl with
  |nil=>rfl
  |cons _ _=>cases h
 |t::l,pl,x,h=>by
  cases pl with
  |nil=>cases h
  |cons p r=>
   obtain⟨t',y⟩:=p
   change (match DF t' t with|some ⟨e⟩=>(match toT l r with|some z=>some (e▸y,z)|none=>none)|none=>none)=some x at h
   split at h
   ·rename_i q hq
    cases q;split at h
    ·rename_i z hz
     cases h;rw[rL hz];rfl
    ·cases h
   ·cases h
def T.map{α β:Type}(f:α->β)(x:T α):T β:=x.bd fun a=>.ok (f a)
theorem T.JB{α β:Type}{f:α->β}{x:T α}{b:β}(h:(x.map f).val=some b): ∃ a,x.val=some a/\b=f a:=by
 obtain⟨a,h1,h2⟩:=T.kj h;cases h2;exact⟨a,h1,rfl⟩
def kR(P:n9)(ptr:List Nat)(Q:n9)(ti to:List Ty)(g:ca ti->T (ca to)):jJ:=⟨P,ptr,Q,fun pl=>match toT ti pl with
 |some x=>(g x).map (cg to)
 |none=>.bad⟩
theorem j4{call:lL}{cb:cx}(C:vu call cb){f:FuncId}{b:Cv}(hb:sJ cb f b)(vU:Nat.ble b.ntmps 512=true){L:Nat->Option mB}(hL:pH Rx.w cb L b.code){m:Nat}{P:n9}{ptr:List Nat}{Q:n9}{ti to:List Ty}{g:ca ti->T (ca to)}
 (h0:jC (fun g=> !(Nat.beq g 0)) ptr=true)(hf: ∀ x y,(g x).val=some y->(mN P ptr Q L b m call (cg ti x)).val=some (cg to y)):(kR P ptr Q ti to g).Ok f cb:=by
 refine aiS C hb (Nat.le_of_ble_eq_true vU) hL (m:=m) (fun g hg e=>?_) fun pl q h=>?_
 ·rw[ou,List.all_eq_true]at h0;have:=h0 g hg;subst e;cases this
 ·change (match toT ti pl with|some x=>(g x).map (cg to)|none=>.bad).val=some q at h
  split at h
  ·rename_i x hx
   obtain⟨y,h1,h2⟩:=T.JB h;rw[rL hx,h2];exact hf x y h1
  ·cases h
def w6(l:qV)(ti:List Ty)(g:ca ti->T (Nat×List Pl)):mB:=l.pc fun pl=>match toT ti pl with
 |some x=>g x
 |none=>.bad
theorem oW{call:lL}{cb:cx}(C:vu call cb){l:qV}{L:Nat->Option mB}{m:Nat}(hL:pH Rx.w cb L l.body){ti:List Ty}{g:ca ti->T (Nat×List Pl)}(hf: ∀ x k q,(g x).val=some (k,q)->oU (l.step L call m) (cg ti x) k q):
 lE Rx.w (w6 l ti g) (fun n d=>nO (cb n d) n (.bl l.id (.lp l.body))):=by
 refine asz C hL (m:=m) fun pl k q h=>?_
 change (match toT ti pl with|some x=>g x|none=>.bad).val=some (k,q)at h
 split at h
 ·rename_i x hx;rw[rL hx];exact hf x k q h
 ·cases h
def OL(c:vV):List (Nat×vV):=vV.rec (fun _=>[]) [] (fun _ _ a b=>app a b) (fun _ _ _ a b=>app a b) (fun id c b=>(id,c)::b) (fun _ b=>b) (fun _=>[]) [] [] c
def W8(id:Nat)(l:List (Nat×vV)):List vV:=List.rec [] (fun p _ ih=>Bool.rec ih (p.2::ih) (Nat.beq p.1 id)) l
theorem W9{id:Nat}{l:List (Nat×vV)}{b:vV}(h:(id,b)∈l):b∈W8 id l:=by
 induction l with
 |nil=>cases h
 |cons p l ih=>
  change b∈(Bool.rec (W8 id l) (p.2::W8 id l) (Nat.beq p.1 id):List vV)
  rcases List.mem_cons.1 h with e|e
  ·rw[<-e];simp only[Nat.beq_refl];exact List.mem_cons_self
  ·cases Nat.beq p.1 id with
   |true=>exact List.mem_cons_of_mem _ (ih e)
   |false=>exact ih e
def mV(c:vV)(id:Nat):vV:=match W8 id (OL c)with
 | [.lp b]=>b
 | _=>.bad
def vF(l:List (Nat×mB))(i:Nat):Option mB:=List.rec none (fun p _ ih=>bif Nat.beq p.1 i then some p.2 else ih) l
theorem alb{R:Rx}{cb:cx}{L:Nat->Option mB}{c:vV}(h: ∀ p,p∈OL c-> ∀ f,L p.1=some f->lE R f (fun n d=>nO (cb n d) n (.bl p.1 p.2))):pH R cb L c:=by
 induction c with
 |sq a b Aa EN=>
  have h: ∀ p,p∈app (OL a) (OL b)-> ∀ f,L p.1=some f->lE R f (fun n d=>nO (cb n d) n (.bl p.1 p.2)):=h;rw[cZ]at h;exact⟨Aa fun p hp=>h p (List.mem_append_left _ hp),EN fun p hp=>h p (List.mem_append_right _ hp)⟩
 |cif o a b Aa EN=>
  have h: ∀ p,p∈app (OL a) (OL b)-> ∀ f,L p.1=some f->lE R f (fun n d=>nO (cb n d) n (.bl p.1 p.2)):=h;rw[cZ]at h;exact⟨Aa fun p hp=>h p (List.mem_append_left _ hp),EN fun p hp=>h p (List.mem_append_right _ hp)⟩
 |bl id b ih=>
  refine⟨?_,ih fun p hp=>h p (List.mem_cons_of_mem _ hp)⟩;split
  ·rename_i f hf
   exact h (id,b) List.mem_cons_self f hf
  ·trivial
 |lp b ih=>exact ih h
 | _=>trivial
inductive mz (cb:cx) (c:vV):List (Nat×mB)->Prop
 |nil:mz cb c []
 |cons {i:Nat} {f:mB} {b:vV} {l:List (Nat×mB)}:W8 i (OL c)=[.lp b]->lE Rx.w f (fun n d=>nO (cb n d) n (.bl i (.lp b)))->mz cb c l->mz cb c ((i,f)::l)
theorem mz.pH{cb:cx}{c:vV}{l:List (Nat×mB)}(h:mz cb c l):pH Rx.w cb (vF l) c:=by
 refine alb fun p hp f hf=>?_
 induction h with
 |nil=>cases hf
 |cons h1 h2 _ ih=>
  rename_i i g b l _
  have hf:(bif Nat.beq i p.1 then some g else vF l p.1)=some f:=hf;cases hb:Nat.beq i p.1 with
  |true=>
   rw[hb]at hf;cases hf;have e:=beq_true hb;subst e;have:=W9 hp;rw[h1]at this;rw[List.mem_singleton.1 this];exact h2
  |false=>rw[hb]at hf;exact ih hf
def ald(l:List (Nat×jJ))(f:FuncId):Option jJ:=List.rec none (fun p _ ih=>bif Nat.beq p.1 f then some p.2 else ih) l
inductive j1 (cb:cx):List (Nat×jJ)->Prop
 |nil:j1 cb []
 |cons {i:Nat} {s:jJ} {l:List (Nat×jJ)}:s.Ok i cb->j1 cb l->j1 cb ((i,s)::l)
theorem j1.ok{cb:cx}{l:List (Nat×jJ)}(h:j1 cb l): ∀ f s,ald l f=some s->s.Ok f cb:=by
 induction h with
 |nil=>intro f s e;cases e
 |cons h1 _ ih=>
  rename_i i t l _
  intro f s e;have e:(bif Nat.beq i f then some t else ald l f)=some s:=e;cases hb:Nat.beq i f with
  |true=>rw[hb]at e;cases e;rw[<-beq_true hb];exact h1
  |false=>rw[hb]at e;exact ih f s e
end Lf
end Go.Ab
noncomputable section
namespace Go.Ab
namespace Lf
def BO{α S O:Type}(G:S->α->S ⊕ O)(e:S->O):List α->S->O
 | [],s=>e s
 |x::r,s=>match G s x with
  | .inl s'=>BO G e r s'
  | .inr o=>o
theorem mP{α S O:Type}{F:S->α->S}{e:S->O}(l:List α): ∀ (s:S),BO (fun s x=>.inl (F s x)) e l s=e (l.foldl F s):=by
 induction l with
 |nil=>intro s;rfl
 |cons x r ih=>intro s;exact ih (F s x)
def Hf{S:Type}(st:S->List Pl):S ⊕ (Nat×List Pl)->Rs
 | .inl s=>.next (st s)
 | .inr o=>.out o.1 o.2
theorem SL{α S:Type}{f:List Pl->T Rs}{l:List α}(st:S->Nat->List Pl)(G:S->α->S ⊕ (Nat×List Pl))(e:S->Nat×List Pl)(inv:S->List α->Prop)
 (BP: ∀ s j x r,l.drop j=x::r->inv s (x::r)->(f (st s j)).val=some (Hf (fun s=>st s (j+1)) (G s x))/\ ∀ s',G s x=.inl s'->inv s' r)
 (JC: ∀ s j,l.drop j=[]->j<=l.length->inv s []->(f (st s j)).val=some (.out (e s).1 (e s).2)): ∀ (r:List α) (j:Nat) (s:S),l.drop j=r->j<=l.length->inv s r->oU f (st s j) (BO G e r s).1 (BO G e r s).2
 | [],j,s,h,hj,hi=>.last (JC s j h hj hi)
 |x::r,j,s,h,hj,hi=>by
  obtain⟨h1,h2⟩:=BP s j x r h hi;have nM:j<l.length:=by
   rcases Nat.lt_or_ge j l.length with k|k
   ·exact k
   ·rw[List.drop_eq_nil_of_le k]at h;cases h
  cases hg:G s x with
  |inl s'=>
   rw[hg]at h1
   have hr:l.drop (j+1)=r:=by rw[<-List.tail_drop,h];rfl
   have:=SL st G e inv BP JC r (j+1) s' hr nM (h2 s' hg)
   have e2:BO G e (x::r) s=BO G e r s':=by simp only[BO,hg]
   rw[e2];exact .more h1 this
  |inr o=>
   rw[hg]at h1
   have e2:BO G e (x::r) s=o:=by simp only[BO,hg]
   rw[e2];exact .last h1
def nP{α S O:Type}(G:S->α->List α->S ⊕ O)(e:S->O):List α->S->O
 | [],s=>e s
 |x::r,s=>match G s x r with
  | .inl s'=>nP G e r s'
  | .inr o=>o
def Ue{S O:Type}(st:S->List Pl)(om:O->Nat×List Pl):S ⊕ O->Rs
 | .inl s=>.next (st s)
 | .inr o=>.out (om o).1 (om o).2
theorem adm{α S O:Type}{f:List Pl->T Rs}{l:List α}(st:S->Nat->List Pl)(G:S->α->List α->S ⊕ O)(e:S->O)(om:O->Nat×List Pl)(inv:S->List α->Prop)
 (BP: ∀ s j x r,l.drop j=x::r->inv s (x::r)->(f (st s j)).val=some (Ue (fun s=>st s (j+1)) om (G s x r))/\ ∀ s',G s x r=.inl s'->inv s' r)
 (JC: ∀ s j,l.drop j=[]->j<=l.length->inv s []->(f (st s j)).val=some (.out (om (e s)).1 (om (e s)).2)): ∀ (r:List α) (j:Nat) (s:S),l.drop j=r->j<=l.length->inv s r->oU f (st s j) (om (nP G e r s)).1 (om (nP G e r s)).2
 | [],j,s,h,hj,hi=>.last (JC s j h hj hi)
 |x::r,j,s,h,hj,hi=>by
  obtain⟨h1,h2⟩:=BP s j x r h hi;have nM:j<l.length:=by
   rcases Nat.lt_or_ge j l.length with k|k
   ·exact k
   ·rw[List.drop_eq_nil_of_le k]at h;cases h
  cases hg:G s x r with
  |inl s'=>
   rw[hg]at h1
   have hr:l.drop (j+1)=r:=by rw[<-List.tail_drop,h];rfl
   have:=adm st G e om inv BP JC r (j+1) s' hr nM (h2 s' hg)
   have e2:nP G e (x::r) s=nP G e r s':=by simp only[nP,hg]
   rw[e2];exact .more h1 this
  |inr o=>
   rw[hg]at h1
   have e2:nP G e (x::r) s=o:=by simp only[nP,hg]
   rw[e2];exact .last h1
theorem kq{α:Type}{l:List α}{j:Nat}{x:α}{r:List α}(h:l.drop j=x::r)(d:α):j<l.length/\l.getD j d=x:=by
 have nM:j<l.length:=by
  rcases Nat.lt_or_ge j l.length with k|k
  ·exact k
  ·rw[List.drop_eq_nil_of_le k]at h;cases h
 refine⟨nM,?_⟩;rw[List.drop_eq_getElem_cons nM]at h;injection h with h _;simp[List.getD_eq_getElem?_getD,List.getElem?_eq_getElem nM,h]
theorem wrap_i64{n:Int}(h1: -9223372036854775808<=n)(h2:n<9223372036854775808):kK .i64 n=n:=by
 show Int.sub (Int.emod (Int.add n 9223372036854775808) 18446744073709551616) 9223372036854775808=n;have e:Int.emod (Int.add n 9223372036854775808) 18446744073709551616=n+9223372036854775808:=Int.emod_eq_of_lt (by show 0<=n+_;omega) (by show n+_<_;omega);rw[e];show n+9223372036854775808 - 9223372036854775808=n;omega
theorem JD{n:Nat}(h:0<n)(h2:n<4611686018427387904):jF .i64 (n:Int) 1=((n - 1:Nat):Int):=by
 unfold jF;rw[wrap_i64 (by omega) (by omega)];omega
theorem rM{j:Nat}(h:j<4611686018427387904):jR .i64 (j:Int) 1=((j+1:Nat):Int):=by
 unfold jR;rw[wrap_i64 (by omega) (by omega)];omega
theorem uS(n:Int):0<=cI .u64 n/\cI .u64 n<18446744073709551616:=⟨Int.emod_nonneg n (by decide),Int.emod_lt_of_pos n (by decide)⟩
theorem Qx(n:Int): -9223372036854775808<=cI .i64 n/\cI .i64 n<9223372036854775808:=by
 have h1:0<=(n+9223372036854775808) % 18446744073709551616:=Int.emod_nonneg _ (by decide);have h2:(n+9223372036854775808) % 18446744073709551616<18446744073709551616:=Int.emod_lt_of_pos _ (by decide);have e:cI .i64 n=(n+9223372036854775808) % 18446744073709551616 - 9223372036854775808:=rfl;omega
theorem kF{j n:Nat}(h:j<n):jA (j:Int) (Int.ofNat n)=true:=by
 rw[nZ];exact⟨by omega,by have:Int.ofNat n=(n:Int):=rfl;omega⟩
theorem kY{j n:Nat}(h:j<n):decide ((j:Int)<(n:Int))=true:=decide_eq_true (by omega)
theorem km{j n:Nat}(h:n<=j):decide ((j:Int)<(n:Int))=false:=decide_eq_false (by omega)
end Lf
end Go.Ab
namespace Go.Ab.Lf
def zJ(l:List Ty):ca l:=List.rec (motive:=ca) () (fun t _ ih=>(cr t,ih)) l
def mf(to:List Ty)(x:T (List Pl)):Bool:=match x.val with
 |some q=>(match toT to q with
  |some _=>true
  |none=>false)
 |none=>false
def j9(to:List Ty)(x:T (List Pl)):ca to:=match x.val with
 |some q=>(match toT to q with
  |some y=>y
  |none=>zJ to)
 |none=>zJ to
theorem yh{to:List Ty}{x:T (List Pl)}(h:mf to x=true):x.val=some (cg to (j9 to x)):=by
 unfold mf at h;unfold j9;split at h
 ·rename_i q hq
  rw[hq];split at h
  ·rename_i y hy
   rw[rL hy]
  ·cases h
 ·cases h
theorem jP{call:lL}{cb:cx}(C:vu call cb){f:FuncId}{b:Cv}(hb:sJ cb f b)(vU:Nat.ble b.ntmps 512=true){L:Nat->Option mB}(hL:pH Rx.w cb L b.code){m:Nat}{P:n9}{ptr:List Nat}{Q:n9}{ti to:List Ty}{ok:ca ti->Bool}{out:ca ti->ca to}
 (h0:jC (fun g=> !(Nat.beq g 0)) ptr=true)(h1: ∀ x,ok x=mf to (mN P ptr Q L b m call (cg ti x)))(h2: ∀ x,out x=j9 to (mN P ptr Q L b m call (cg ti x))):(kR P ptr Q ti to fun x=>.ck (ok x) (.ok (out x))).Ok f cb:=by
 refine j4 C hb vU hL (m:=m) h0 fun x y h=>?_
 obtain⟨a,b⟩:=T.cw h;cases b;rw[h2];exact yh (by rw[<-h1];exact a)
abbrev lY:n9:=.av (.sc (.slice none 0 0))
abbrev mF{A B C D E F G H I J K R S:Type}(y:A×B×C×D×E×F×G×H×I×J×K×R)(r:S):=(y.1,y.2.1,y.2.2.1,y.2.2.2.1,y.2.2.2.2.1,y.2.2.2.2.2.1,y.2.2.2.2.2.2.1,y.2.2.2.2.2.2.2.1,y.2.2.2.2.2.2.2.2.1,y.2.2.2.2.2.2.2.2.2.1,y.2.2.2.2.2.2.2.2.2.2.1,r)
end Go.Ab.Lf
noncomputable section
namespace Go.Ab.Lf
theorem vw: ∀ {l:List Ty} (x:ca l),toT l (cg l x)=some x
 | [],_=>rfl
 |t::l,x=>by
  have ih:=vw (l:=l) x.2;have key: ∀ (o:Option (PLift (t=t))) (p:Option (ca l)),o=some ⟨rfl⟩->p=some x.2->(match o with|some ⟨e⟩=>(match p with|some y=>some ((Eq.rec (motive:=fun s _=>den s) x.1 e:den t),y)|none=>none)|none=>none:Option (ca (t::l)))=some x:=by
   intro o p ho hp;subst ho;subst hp;rfl
  have e:toT (t::l) (cg (t::l) x)=(match DF t t with|some ⟨e⟩=>(match toT l (cg l x.2)with|some y=>some ((Eq.rec (motive:=fun s _=>den s) x.1 e:den t),y)|none=>none)|none=>none:Option (ca (t::l))):=by kernel_rfl
  rw[e];exact key _ _ (tY t) ih
theorem oU.det{f:List Pl->T Rs}{pl:List Pl}{k:Nat}{q:List Pl}(h:oU f pl k q): ∀ {k':Nat} {q':List Pl},oU f pl k' q'->k=k'/\q=q':=by
 induction h with
 |last e=>
  intro k' q' h';cases h' with
  |last e'=>rw[e]at e';cases e';exact⟨rfl,rfl⟩
  |more e' _=>rw[e]at e';cases e'
 |more e _ ih=>
  intro k' q' h';cases h' with
  |last e'=>rw[e]at e';cases e'
  |more e' r=>rw[e]at e';cases e';exact ih r
def Mh(f:List Pl->T Rs)(pl:List Pl):Option (Nat×List Pl):=by
 classical exact if h: ∃ p:Nat×List Pl,oU f pl p.1 p.2 then some (Classical.choose h)else none
theorem C5{f:List Pl->T Rs}{pl:List Pl}{k:Nat}{q:List Pl}(h:oU f pl k q):Mh f pl=some (k,q):=by
 unfold Mh
 have hx: ∃ p:Nat×List Pl,oU f pl p.1 p.2:=⟨(k,q),h⟩
 rw[dif_pos hx];obtain⟨a,b⟩:=(Classical.choose_spec hx).det h;exact congrArg some (Prod.ext a b)
theorem JE{f:List Pl->T Rs}{pl:List Pl}{k:Nat}{q:List Pl}(h:Mh f pl=some (k,q)):oU f pl k q:=by
 unfold Mh at h;split at h
 ·rename_i hx
  have:=Classical.choose_spec hx;injection h with h;rw[h]at this;exact this
 ·cases h
def uF(f:List Pl->T Rs)(ti to:List Ty)(x:ca ti):Bool:=match Mh f (cg ti x)with
 |some (0,q)=>(toT to q).isSome
 | _=>false
def qb(f:List Pl->T Rs)(ti to:List Ty)(x:ca ti):ca to:=match Mh f (cg ti x)with
 |some (_,q)=>(toT to q).getD (zJ to)
 |none=>zJ to
theorem uT{f:List Pl->T Rs}{ti to:List Ty}{x:ca ti}{y:ca to}(h:oU f (cg ti x) 0 (cg to y)):uF f ti to x=true/\qb f ti to x=y:=by
 unfold uF qb;rw[C5 h];simp only[vw];exact⟨rfl,rfl⟩
theorem ale{f:List Pl->T Rs}{ti to:List Ty}{x:ca ti}(h:uF f ti to x=true):oU f (cg ti x) 0 (cg to (qb f ti to x)):=by
 unfold uF at h;unfold qb;split at h
 ·rename_i q hq
  rw[hq];cases hy:toT to q with
  |none=>rw[hy]at h;cases h
  |some y=>
   have:=rL hy;subst this;simp only[vw];exact JE hq
 ·cases h
def vY(l:qV)(f:List Pl->T Rs)(ti to:List Ty):mB:=w6 l ti fun x=>.ck (uF f ti to x) (.ok (0,cg to (qb f ti to x)))
theorem mg{call:lL}{cb:cx}(C:vu call cb){l:qV}{L:Nat->Option mB}{m:Nat}(hL:pH Rx.w cb L l.body)(ti to:List Ty):lE Rx.w (vY l (l.step L call m) ti to) (fun n d=>nO (cb n d) n (.bl l.id (.lp l.body))):=
 oW C hL (m:=m) fun x k q h=>by
  obtain⟨h1,h2⟩:=T.cw h;cases h2;exact ale h1
def GU(f:List Pl->T Rs)(ti t0 t1:List Ty)(x:ca ti):Bool:=match Mh f (cg ti x)with
 |some (0,q)=>(toT t0 q).isSome
 |some (1,q)=>(toT t1 q).isSome
 | _=>false
def Ez(f:List Pl->T Rs)(ti:List Ty)(x:ca ti):Bool:=match Mh f (cg ti x)with
 |some (0,_)=>true
 | _=>false
theorem JF{f:List Pl->T Rs}{ti t0 t1:List Ty}{x:ca ti}{y:ca t0}(h:oU f (cg ti x) 0 (cg t0 y)):GU f ti t0 t1 x=true/\Ez f ti x=true/\qb f ti t0 x=y:=by
 unfold GU Ez qb;rw[C5 h];simp only[vw];exact⟨rfl,trivial,rfl⟩
theorem OM{f:List Pl->T Rs}{ti t0 t1:List Ty}{x:ca ti}{y:ca t1}(h:oU f (cg ti x) 1 (cg t1 y)):GU f ti t0 t1 x=true/\Ez f ti x=false/\qb f ti t1 x=y:=by
 unfold GU Ez qb;rw[C5 h];simp only[vw];exact⟨rfl,trivial,rfl⟩
theorem alf{f:List Pl->T Rs}{ti t0 t1:List Ty}{x:ca ti}(h:GU f ti t0 t1 x=true):(Ez f ti x=true->oU f (cg ti x) 0 (cg t0 (qb f ti t0 x)))/\(Ez f ti x=false->oU f (cg ti x) 1 (cg t1 (qb f ti t1 x))):=by
 unfold GU at h;unfold Ez qb;split at h
 ·rename_i q hq
  rw[hq];refine⟨fun _=>?_,fun e=>by cases e⟩;cases hy:toT t0 q with
  |none=>rw[hy]at h;cases h
  |some y=>
   have:=rL hy;subst this;simp only[vw];exact JE hq
 ·rename_i q hq
  rw[hq];refine⟨fun e=>(by simp at e),fun _=>?_⟩;cases hy:toT t1 q with
  |none=>rw[hy]at h;cases h
  |some y=>
   have:=rL hy;subst this;simp only[vw];exact JE hq
 ·cases h
def F9(l:qV)(f:List Pl->T Rs)(ti t0 t1:List Ty):mB:=w6 l ti fun x=>.ck (GU f ti t0 t1 x) (.br (Ez f ti x) (.ok (0,cg t0 (qb f ti t0 x))) (.ok (1,cg t1 (qb f ti t1 x))))
theorem rR{call:lL}{cb:cx}(C:vu call cb){l:qV}{L:Nat->Option mB}{m:Nat}(hL:pH Rx.w cb L l.body)(ti t0 t1:List Ty):lE Rx.w (F9 l (l.step L call m) ti t0 t1) (fun n d=>nO (cb n d) n (.bl l.id (.lp l.body))):=
 oW C hL (m:=m) fun x k q h=>by
  obtain⟨h1,h2⟩:=T.cw h;obtain⟨r0,r1⟩:=alf h1;rw[T.kX]at h2;cases hb:Ez (l.step L call m) ti x with
  |true=>rw[hb]at h2;cases h2;exact r0 hb
  |false=>rw[hb]at h2;cases h2;exact r1 hb
theorem qo{to:List Ty}{t:T (List Pl)}{y:ca to}(h:t.val=some (cg to y)):mf to t=true/\j9 to t=y:=by
 unfold mf j9;rw[h];simp only[vw];exact⟨trivial,trivial⟩
end Go.Ab.Lf
