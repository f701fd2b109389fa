import Derived.Test.YtcnkojgmochcgaaGreatDoorLfA
noncomputable section
namespace Go.Ab
namespace Lf
theorem gQ{H:Hq}{R:Row}{i:Nat}:(dP H R).aU.get i=if i=H.next then some R else H.aU.get i:=Tr.gZ _ _ _ _
theorem eW{H:Hq}{r i:Nat}{R:Option Row}:(iD H r R).aU.get i=if i=r then R else H.aU.get i:=Tr.gZ _ _ _ _
theorem fJ{h:Hp}{cs:Rw}{i:Nat}:(dK h cs).aU.get i=if i=h.next then some cs else h.aU.get i:=Tr.gZ _ _ _ _
theorem iX{h:Hp}{r i:Nat}{cs:Option Rw}:(gY h r cs).aU.get i=if i=r then cs else h.aU.get i:=Tr.gZ _ _ _ _
theorem LR.mono{G G':Nat->Option Rw}{S S':Nat->Option Rw}(hg:Nk G G'){t:Ty}{x:List (den t)}{k:Kr}(hs: ∀ id row,jN k.av=some id->S id=some row->S' id=some row)(h:LR G t x k S):LR G' t x k S':=by
 refine⟨h.1,?_⟩
 rcases h.2 with h2|⟨id,base,row,ls,e,s,g,l⟩
 ·exact .inl h2
 ·exact .inr ⟨id,base,row,ls,e,hs _ _ (by rw[e];rfl) s,g,l.mono (EV.mono hg t)⟩
theorem RV.mono{E E':En}{N N':Nat}{h h':Hp}{k:Kr}{R:Row}(e:uF E E' N)(hN:N<=N')(hs:R.live=true-> ∀ id row,jN k.av=some id->h.aU.get id=some row->h'.aU.get id=some row)(r:RV E N h k R):RV E' N' h' k R:=by
 cases R with
 |o g l=>obtain⟨id,row,a,b,c,d⟩:=r;exact⟨id,row,a,hs rfl _ _ (by rw[a];rfl) b,c.mono e hN,by rw[e.A];exact d⟩
 |zo l=>obtain⟨id,row,a,b,c⟩:=r;exact⟨id,row,a,e.G _ _ b,c.mono e hN⟩
 |l t x=>exact LR.mono e.G (hs rfl) r
 |z t x=>exact LR.mono e.G (fun id row _ k=>e.G _ _ k) r
def En.row(E:En)(r:Nat)(k:Kr):En:=⟨fun i=>if i=r then k else E.K i,E.tk,E.G,E.A⟩
theorem En.oW(E:En)(r:Nat)(k:Kr):uF E (E.row r k) r:=⟨fun i hi=>if_neg (by omega),fun _ _=>rfl,fun _ _ e=>e,rfl⟩
theorem jj{E:En}{H:Hq}{h:Hp}(S:SR E H h){H1:Hq}(yK:H1.next=H.next)(Th: ∀ r R,H1.aU.get r=some R->H.aU.get r=some R){k:Kr}{R:Row}{h':Hp}(hn:h.next<=h'.next)
 (gz: ∀ id,id<h.next->(∀ r,own H r-> ¬ own H1 r->jN (E.K r).av≠some id)->h'.aU.get id=h.aU.get id)
 (gK: ∀ id,jN k.av=some id->id<h'.next/\(h.next<=id∨ ∃ r,own H r/\ ¬ own H1 r/\jN (E.K r).av=some id))
 (hR:RV E H.next h' k R)(live:R.live=true):SR (E.row H.next k) (dP H1 R) h'/\Nx E (E.row H.next k) H (dP H1 R) h h':=by
 have hle:=En.oW E H.next k
 have Ja: ∀ r,own H1 r->own H r:=fun r ⟨R,a,b⟩=>⟨R,Th _ _ a,b⟩
 have mZ: ∀ r,own (dP H1 R) r->r=H.next∨(r<H.next/\own H1 r):=by
  rintro r ⟨R',a,b⟩
  rw[gQ,yK]at a
  split at a
  ·exact .inl ‹_›
  ·exact .inr ⟨(S.row _ _ (Th _ _ a)).1,R',a,b⟩
 have keep: ∀ r,own H1 r-> ∀ id,jN (E.K r).av=some id->h'.aU.get id=h.aU.get id:=by
  intro r o id e
  refine gz id (S.lt r id (Ja r o) e) fun r' o' n' e'=>?_
  exact n' (by rw[S.inj r' r id o' (Ja r o) e' e];exact o)
 have XB: ∀ id row,E.G id=some row->h'.aU.get id=some row:=by
  intro id row e
  obtain⟨a,b,c⟩:=S.g id row e
  rw[gz id a fun r o _=>c r o,b]
 have K0:(E.row H.next k).K H.next=k:=if_pos rfl
 have K1: ∀ r,r<H.next->(E.row H.next k).K r=E.K r:=fun r hr=>if_neg (by omega)
 refine⟨⟨?_,?_,?_,?_⟩,⟨hle,?_,hn,?_,?_,?_⟩⟩
 ·intro r R' hr
  rw[gQ,yK]at hr
  split at hr
  ·rename_i e
   cases hr
   subst e
   rw[K0]
   exact⟨by show _<Nat.add H1.next 1;rw[yK];exact Nat.lt_succ_self _,RV.mono hle (by show _<=Nat.add H1.next 1;rw[yK];exact Nat.le_succ _) (fun _ _ _ _ e=>e) hR⟩
  ·have h0:=S.row _ _ (Th _ _ hr)
   refine⟨by show _<Nat.add H1.next 1;rw[yK];exact Nat.lt_succ_of_lt h0.1,?_⟩
   rw[K1 _ h0.1]
   exact RV.mono hle (by show _<=Nat.add H1.next 1;rw[yK];exact Nat.le_succ _) (fun lv id row e1 e2=>by rw[keep r ⟨R',hr,lv⟩ id e1];exact e2) h0.2
 ·intro r r' id o o' e e'
  rcases mZ r o with a|⟨a1,a2⟩<;>rcases mZ r' o' with b|⟨b1,b2⟩
  ·rw[a,b]
  ·subst a
   rw[K0]at e;rw[K1 _ b1]at e'
   rcases(gK id e).2 with c|⟨q,q1,q2,q3⟩
   ·have:=S.lt _ _ (Ja _ b2) e';omega
   ·exact(q2 (by rw[S.inj q r' id q1 (Ja _ b2) q3 e'];exact b2)).elim
  ·subst b
   rw[K0]at e';rw[K1 _ a1]at e
   rcases(gK id e').2 with c|⟨q,q1,q2,q3⟩
   ·have:=S.lt _ _ (Ja _ a2) e;omega
   ·exact(q2 (by rw[S.inj q r id q1 (Ja _ a2) q3 e];exact a2)).elim
  ·rw[K1 _ a1]at e;rw[K1 _ b1]at e'
   exact S.inj r r' id (Ja _ a2) (Ja _ b2) e e'
 ·intro r id o e
  rcases mZ r o with a|⟨a1,a2⟩
  ·subst a;rw[K0]at e;exact(gK id e).1
  ·rw[K1 _ a1]at e;exact Nat.lt_of_lt_of_le (S.lt _ _ (Ja _ a2) e) hn
 ·intro id row e
  obtain⟨a,b,c⟩:=S.g id row e
  refine⟨Nat.lt_of_lt_of_le a hn,XB id row e,fun r o e2=>?_⟩
  rcases mZ r o with q|⟨q1,q2⟩
  ·subst q;rw[K0]at e2
   rcases(gK id e2).2 with w|⟨w,w1,w2,w3⟩
   ·omega
   ·exact c _ w1 w3
  ·rw[K1 _ q1]at e2;exact c r (Ja _ q2) e2
 ·show H.next<=Nat.add H1.next 1;rw[yK];exact Nat.le_succ _
 ·intro r id o e
  rcases mZ r o with a|⟨a1,a2⟩
  ·subst a;rw[K0]at e
   rcases(gK id e).2 with w|⟨w,w1,w2,w3⟩
   ·exact .inr w
   ·exact .inl ⟨w,w1,w3⟩
  ·rw[K1 _ a1]at e;exact .inl ⟨r,Ja _ a2,e⟩
 ·exact fun id row e=>.inl e
 ·exact fun id hi hn=>gz id hi fun r o _=>hn r o
theorem DU{E:En}{H:Hq}{h:Hp}(S:SR E H h){k:Kr}{R:Row}{rw:Rw}(hk:jN k.av=some h.next∨jN k.av=none)
 (hR:RV E H.next (dK h rw) k R)(live:R.live=true):SR (E.row H.next k) (dP H R) (dK h rw)/\Nx E (E.row H.next k) H (dP H R) h (dK h rw):=by
 refine jj S rfl (fun _ _ e=>e) (Nat.le_succ _) (fun id hi _=>?_) (fun id e=>?_) hR live
 ·rw[fJ,if_neg (by omega)]
 ·rcases hk with hk|hk
  ·rw[hk]at e;cases e;exact⟨Nat.lt_succ_self _,.inl (Nat.le_refl _)⟩
  ·rw[hk]at e;cases e
theorem Jb{E:En}{H:Hq}{h:Hp}(S:SR E H h){l:List Sv}{rw:Rw}(hv:Vs E H.next l rw.toL):
 SR (E.row H.next ⟨.ref h.next 0,0⟩) (dP H (.o 0 l)) (dK h rw)/\Nx E (E.row H.next ⟨.ref h.next 0,0⟩) H (dP H (.o 0 l)) h (dK h rw):=
 DU S (.inl rfl) ⟨h.next,rw,rfl,by rw[fJ,if_pos rfl],hv,fun h=>(h rfl).elim⟩ rfl
theorem Q1{E:En}{H:Hq}{h:Hp}(S:SR E H h){t:Ty}{x:List (den t)}{rw:Rw}(hv:jH (EV E.G t) x rw.toL):
 SR (E.row H.next ⟨.dV h.next 0 x.length (size t),x.length⟩) (dP H (.l t x)) (dK h rw)/\Nx E (E.row H.next ⟨.dV h.next 0 x.length (size t),x.length⟩) H (dP H (.l t x)) h (dK h rw):=by
 have hl:=hv.length (EV.length t)
 refine DU S (.inl rfl) ⟨rfl,.inr ⟨h.next,0,rw,rw.toL,rfl,by rw[fJ,if_pos rfl],?_,hv⟩⟩ rfl
 refine ek.2 ⟨by rw[<-eM,hl,Nat.zero_add];exact Nat.le_refl _,?_⟩
 show _=List.take (x.length*size t) _
 rw[<-hl,List.drop_zero,List.take_length]
theorem TV.put{E:En}{N:Nat}{T:Tq}{t:Tm}(h:TV E N T t){i:Nat}{v:Sv}{a:AV}(hi:i<512)(hv:V E N v a):TV E N (T.put i (some v)) (t.put i (some a)):=by
 intro j w hj hw
 rw[Tq.iM _ _ _ _ hi hj]at hw
 rw[Tm.iM _ _ _ _ hi hj]
 split at hw
 ·rename_i e;cases hw;exact⟨a,if_pos e,hv⟩
 ·rename_i e;rw[if_neg e];exact h j w hj hw
theorem Np(cs:List AV):eT (S6 cs) (fun _ _=>dB cs):=by
 intro E T t H h v T' H' hT hH e
 unfold S6 at e
 split at e
 ·rename_i l hl
  obtain⟨rfl,rfl,rfl⟩:=bA e
  obtain⟨S,X⟩:=Jb hH (l:=l) (rw:=uq cs) (by rw[hJ];exact rF hl)
  exact⟨_,_,_,Ev.const rfl,X,S,.rf (Nat.lt_succ_self _) (by show(if H.next=H.next then _ else _:Kr).av=_;rw[if_pos rfl]),hT.mono X.e X.le⟩
 ·cases e
theorem Nq(x:Od):eT (S7 x) (fun _ _=>dr (cf x)):=by
 intro E T t H h v T' H' hT hH e
 unfold S7 at e
 split at e
 ·rename_i w hw
  obtain⟨rfl,rfl,rfl⟩:=bA e
  obtain⟨c,hc,fL⟩:=bX hT hw
  obtain⟨S,X⟩:=Jb hH (l:=w.cells) (rw:=uq c.cells) (by rw[hJ];exact fL.cells)
  refine⟨_,_,_,Ev.const ?_,X,S,.rf (Nat.lt_succ_self _) (by show(if H.next=H.next then _ else _:Kr).av=_;rw[if_pos rfl]),hT.mono X.e X.le⟩
  unfold dr
  rw[hc]
 ·cases e
theorem Nr(l:List Sv)(off:Nat)(new:List Sv):Ap l off new=l.take off++(new++l.drop (off+new.length)):=by
 unfold Ap;rw[dn,dn,oP,jg,cF];rfl
theorem Vs.put{E:En}{N:Nat}{l:List Sv}{l':List AV}{m:List Sv}{m':List AV}(h:Vs E N l l')(k:Vs E N m m')(off:Nat):Vs E N (Ap l off m) (put l' off m'):=by
 rw[Nr,put_eq,k.length]
 exact(h.take off).app (k.app (h.drop _))
theorem pS{E:En}{N:Nat}: ∀ {ps:List (Nat×Nat×Sv)} {qs:List (Nat×Nat×AV)} {z r:List Sv} {z':List AV},ps.length=qs.length->(∀ (i:Nat) (p:Nat×Nat×Sv),ps[i]? =some p-> ∃ q:Nat×Nat×AV,qs[i]? =some q/\q.1=p.1/\q.2.1=p.2.1/\V E N p.2.2 q.2.2)->Vs E N z z'->
 yy ps z=some r-> ∃ r',uU qs z'=some r'/\Vs E N r r'
 | [],[],z,r,z',_,_,hz,e=>by cases e;exact⟨z',rfl,hz⟩
 | [],_::_,_,_,_,h,_,_,_=>by cases h
 | _::_,[],_,_,_,h,_,_,_=>by cases h
 |p::ps,q::qs,z,r,z',hl,hq,hz,e=>by
  obtain⟨q',Ti,h1,h2,hv⟩:=hq 0 p rfl
  cases Ti
  change (bif Nat.beq (len p.2.2.cells) p.2.1&&Nat.ble (Nat.add p.1 p.2.1) (len z)then yy ps (Ap z p.1 p.2.2.cells)else none)=some r at e
  obtain⟨hb,e⟩:=cD e
  obtain⟨r',hr,Ia⟩:=pS (ps:=ps) (qs:=qs) (by simpa using hl) (fun i p hp=>hq (i+1) p hp) (hz.put hv.cells p.1) e
  refine⟨r',?_,Ia⟩
  show(bif Nat.beq (len q.2.2.cells) q.2.1&&Nat.ble (Nat.add q.1 q.2.1) (len z')then uU qs (put z' q.1 q.2.2.cells)else none)=some r'
  rw[cF,<-hv.cells.length,h1,h2,cF,<-hz.length,<-cF,<-cF,hb,cond_true,hr]
theorem xx{E:En}{N:Nat}{T:Tq}{t:Tm}(hT:TV E N T t): ∀ {ps:List (Nat×Nat×Od)} {vs:List (Nat×Nat×Sv)},yz ps T=some vs->
 ∃ qs,mK (ps.map fun p=>(p.1,p.2.1,cf p.2.2)) t=some qs/\vs.length=qs.length/\ ∀ (i:Nat) (p:Nat×Nat×Sv),vs[i]? =some p-> ∃ q:Nat×Nat×AV,qs[i]? =some q/\q.1=p.1/\q.2.1=p.2.1/\V E N p.2.2 q.2.2
 | [],vs,e=>by cases e;exact⟨[],rfl,rfl,fun i p h=>by simp at h⟩
 |p::ps,vs,e=>by
  change (match jG p.2.2 T with|some v=>(match yz ps T with|some vs=>some ((p.1,p.2.1,v)::vs)|none=>none)|none=>none)=some vs at e
  split at e
  ·rename_i v hv
   split at e
   ·rename_i us hu
    cases e
    obtain⟨c,hc,fL⟩:=bX hT hv
    obtain⟨qs,h1,h2,h3⟩:=xx hT hu
    refine⟨(p.1,p.2.1,c)::qs,?_,by simp[h2],fun i x hx=>?_⟩
    ·show(match cf p.2.2 t with|some v=>(match mK (ps.map fun(p:Nat×Nat×Od)=>(p.1,p.2.1,cf p.2.2)) t with|some vs=>some ((p.1,p.2.1,v)::vs)|none=>none)|none=>none)=_
     rw[hc,h1]
    ·cases i with
     |zero=>simp at hx;subst hx;exact⟨_,rfl,rfl,rfl,fL⟩
     |succ i=>simpa using h3 i x (by simpa using hx)
   ·cases e
  ·cases e
theorem xy{E:En}{N:Nat}{T:Tq}{t:Tm}(hT:TV E N T t): ∀ {ps:List (Nat×Od)} {vs:List (Nat×Sv)},yA ps T=some vs->
 ∃ qs,mJ (ps.map fun p=>(p.1,cf p.2)) t=some qs/\vs.length=qs.length/\ ∀ (i:Nat) (p:Nat×Sv),vs[i]? =some p-> ∃ q:Nat×AV,qs[i]? =some q/\q.1=p.1/\V E N p.2 q.2
 | [],vs,e=>by cases e;exact⟨[],rfl,rfl,fun i p h=>by simp at h⟩
 |p::ps,vs,e=>by
  change (match jG p.2 T with|some v=>(match yA ps T with|some vs=>some ((p.1,v)::vs)|none=>none)|none=>none)=some vs at e
  split at e
  ·rename_i v hv
   split at e
   ·rename_i us hu
    cases e
    obtain⟨c,hc,fL⟩:=bX hT hv
    obtain⟨qs,h1,h2,h3⟩:=xy hT hu
    refine⟨(p.1,c)::qs,?_,by simp[h2],fun i x hx=>?_⟩
    ·show(match cf p.2 t with|some v=>(match mJ (ps.map fun(p:Nat×Od)=>(p.1,cf p.2)) t with|some vs=>some ((p.1,v)::vs)|none=>none)|none=>none)=_
     rw[hc,h1]
    ·cases i with
     |zero=>simp at hx;subst hx;exact⟨_,rfl,rfl,fL⟩
     |succ i=>simpa using h3 i x (by simpa using hx)
   ·cases e
  ·cases e
theorem F3(z:List AV)(ps:List (Nat×Nat×Od)):eT (Cv z ps) (fun _ _=>aq z (ps.map fun p=>(p.1,p.2.1,cf p.2.2))):=dC (by
 intro E T t H h v T' H' hT hH e
 unfold Cv at e
 split at e
 ·rename_i zs hz
  split at e
  ·rename_i vs hv
   split at e
   ·rename_i cs hc
    obtain⟨rfl,rfl,rfl⟩:=bA e
    obtain⟨qs,h1,h2,h3⟩:=xx hT hv
    obtain⟨r',hr,Ia⟩:=pS h2 h3 (rF hz) hc
    refine⟨rfl,rfl,.agg r',?_,.ag Ia⟩
    unfold aq
    rw[h1]
    simp only[hr]
   ·cases e
  ·cases e
 ·cases e)
theorem xz{E:En}{N size:Nat}: ∀ {ps:List (Nat×Sv)} {qs:List (Nat×AV)} {k:Nat} {r:List Sv},ps.length=qs.length->(∀ (i:Nat) (p:Nat×Sv),ps[i]? =some p-> ∃ q:Nat×AV,qs[i]? =some q/\q.1=p.1/\V E N p.2 q.2)->
 vB size ps k=some r-> ∃ r',qR size qs k=some r'/\Vs E N r r'
 | [],[],_,_,_,_,e=>by cases e;exact⟨[],rfl,.nil⟩
 | [],_::_,_,_,h,_,_=>by cases h
 | _::_,[],_,_,h,_,_=>by cases h
 |p::ps,q::qs,k,r,hl,hq,e=>by
  obtain⟨q',Ti,h1,hv⟩:=hq 0 p rfl
  cases Ti
  change (bif Nat.beq p.1 k&&Nat.beq (len p.2.cells) size then(match vB size ps (Nat.add k 1)with|some r=>some (app p.2.cells r)|none=>none)else none)=some r at e
  obtain⟨hb,e⟩:=cD e
  split at e
  ·rename_i s hs
   cases e
   obtain⟨r',hr,Ia⟩:=xz (ps:=ps) (qs:=qs) (by simpa using hl) (fun i p hp=>hq (i+1) p hp) hs
   refine⟨q.2.cells++r',?_,?_⟩
   ·show(bif Nat.beq q.1 k&&Nat.beq (len q.2.cells) size then(match qR size qs (Nat.add k 1)with|some r=>some (app q.2.cells r)|none=>none)else none)=_
    rw[cF,<-hv.cells.length,h1,<-cF,hb,cond_true,hr];simp only[dn]
   ·rw[dn];exact hv.cells.app Ia
  ·cases e
theorem yL{E:En}{N:Nat}{z:List Sv}{z':List AV}(h:Vs E N z z'): ∀ n,Vs E N (SZ n z) (fE n z')
 |0=>.nil
 |n+1=>by
  show Vs E N (app z (SZ n z)) (app z' (fE n z'))
  rw[dn,dn];exact h.app (yL h n)
theorem vJ{E:En}{N size:Nat}: ∀ {ps:List (Nat×Sv)} {qs:List (Nat×AV)},ps.length=qs.length->(∀ (i:Nat) (p:Nat×Sv),ps[i]? =some p-> ∃ q:Nat×AV,qs[i]? =some q/\q.1=p.1/\V E N p.2 q.2)->
 (yB size ps).length=(scale size qs).length/\ ∀ (i:Nat) (p:Nat×Nat×Sv),(yB size ps)[i]? =some p-> ∃ q:Nat×Nat×AV,(scale size qs)[i]? =some q/\q.1=p.1/\q.2.1=p.2.1/\V E N p.2.2 q.2.2
 | [],[],_,_=>⟨rfl,fun i p h=>by simp[yB]at h⟩
 | [],_::_,h,_=>by cases h
 | _::_,[],h,_=>by cases h
 |p::ps,q::qs,hl,hq=>by
  obtain⟨q',Ti,h1,hv⟩:=hq 0 p rfl
  cases Ti
  obtain⟨a,b⟩:=vJ (ps:=ps) (qs:=qs) (by simpa using hl) (fun i p hp=>hq (i+1) p hp)
  refine⟨by show _+1=_+1;exact congrArg _ a,fun i x hx=>?_⟩
  cases i with
  |zero=>
   change some (Nat.mul p.1 size,size,p.2)=some x at hx
   cases hx
   exact⟨(Nat.mul q.1 size,size,q.2),rfl,by show Nat.mul q.1 size=Nat.mul p.1 size;rw[h1],rfl,hv⟩
  |succ i=>exact b i x hx
theorem Ns(n sz:Nat)(z:List AV)(ps:List (Nat×Od)):eT (S8 n sz z ps) (fun _ _=>bH n sz z (ps.map fun p=>(p.1,cf p.2))):=by
 intro E T t H h v T' H' hT hH e
 unfold S8 at e
 split at e
 ·rename_i vs hv
  obtain⟨qs,h1,h2,h3⟩:=xy hT hv
  cases hn:Nat.beq n 0 with
  |true=>
   rw[hn]at e
   simp only[cond_true]at e
   split at e
   ·obtain⟨rfl,rfl,rfl⟩:=bA e
    refine⟨_,_,E,Ev.const ?_,Nx.refl _ _ _,hH,.a (v:=.mI) rfl,hT⟩
    unfold bH
    rw[h1]
    simp only[hn,cond_true]
    have:qs=[]:=by cases qs with
     |nil=>rfl
     |cons _ _=>cases h2
    rw[this]
   ·cases e
  |false=>
   rw[hn]at e
   simp only[cond_false]at e
   split at e
   ·rename_i zs hz
    split at e
    ·rename_i cs hc
     cases hb:(fB Ao cs&&(Nat.blt 0 sz&&Nat.beq (len cs) (Nat.mul n sz)))with
     |false=>rw[hb]at e;cases e
     |true=>
      rw[hb]at e
      simp only[cond_true]at e
      obtain⟨rfl,rfl,rfl⟩:=bA e
      have key: ∃ cs',pJ n sz z qs=some cs'/\Vs E H.next cs cs':=by
       unfold Aq at hc
       unfold pJ
       rw[cF,<-h2,<-cF]
       cases hq:Nat.beq (len vs) n with
       |true=>
        rw[hq]at hc
        simp only[cond_true]at hc ⊢
        split at hc
        ·rename_i q hqq
         cases hc
         obtain⟨r',a,b⟩:=xz h2 h3 hqq
         rw[a];exact⟨r',rfl,b⟩
        ·rename_i hqq
         obtain⟨a,b⟩:=vJ (size:=sz) h2 h3
         obtain⟨r',c,d⟩:=pS a b (yL (rF hz) n) hc
         cases hf:qR sz qs 0 with
         |none=>exact⟨r',c,d⟩
         |some w=>
          exfalso
          have back: ∀ {ps:List (Nat×Sv)} {qs:List (Nat×AV)} {k:Nat} {w:List AV},ps.length=qs.length->(∀ (i:Nat) (p:Nat×Sv),ps[i]? =some p-> ∃ q:Nat×AV,qs[i]? =some q/\q.1=p.1/\V E H.next p.2 q.2)->qR sz qs k=some w-> ∃ r,vB sz ps k=some r:=by
           intro ps
           induction ps with
           |nil=>intro qs k w _ _ _;exact⟨[],rfl⟩
           |cons p ps ih=>
            intro qs k w hl hq e
            cases qs with
            |nil=>cases hl
            |cons q qs=>
             obtain⟨q',Ti,h1,hv⟩:=hq 0 p rfl
             cases Ti
             change (bif Nat.beq q.1 k&&Nat.beq (len q.2.cells) sz then(match qR sz qs (Nat.add k 1)with|some r=>some (app q.2.cells r)|none=>none)else none)=some w at e
             obtain⟨hb,e⟩:=cD e
             split at e
             ·rename_i s hs
              obtain⟨r,hr⟩:=ih (by simpa using hl) (fun i p hp=>hq (i+1) p hp) hs
              refine⟨app p.2.cells r,?_⟩
              show(bif Nat.beq p.1 k&&Nat.beq (len p.2.cells) sz then(match vB sz ps (Nat.add k 1)with|some r=>some (app p.2.cells r)|none=>none)else none)=_
              rw[cF,hv.cells.length,<-h1,<-cF,hb,cond_true,hr]
             ·cases e
          obtain⟨r,hr⟩:=back h2 h3 hf
          rw[hqq]at hr
          cases hr
       |false=>
        rw[hq]at hc
        simp only[cond_false]at hc ⊢
        obtain⟨a,b⟩:=vJ (size:=sz) h2 h3
        exact pS a b (yL (rF hz) n) hc
      obtain⟨cs',k1,k2⟩:=key
      obtain⟨S,X⟩:=Jb hH (l:=cs) (rw:=uq cs') (by rw[hJ];exact k2)
      refine⟨_,_,_,Ev.const ?_,X,S,.xo (id:=h.next) (Nat.lt_succ_self _) (by show(if H.next=H.next then _ else _:Kr).av=_;rw[if_pos rfl]),hT.mono X.e X.le⟩
      unfold bH
      rw[h1]
      simp only[hn,cond_false,k1]
    ·cases e
   ·cases e
 ·cases e
end Lf
end Go.Ab

noncomputable section
namespace Go.Ab
namespace Lf
theorem l5{H:Hq}{r:Nat}{R:Row}(hl:R.live=false){q:Nat}(o:own (iD H r (some R)) q):q≠r/\own H q:=by
 obtain⟨R',a,b⟩:=o
 rw[eW]at a
 split at a
 ·cases a;rw[hl]at b;cases b
 ·exact⟨‹_›,R',a,b⟩
def En.fz(E:En)(a:AV)(h:Hp):En:=⟨E.K,E.tk,fun id=>if jN a=some id then h.aU.get id else E.G id,E.A⟩
inductive Frz:Row->Row->Prop
 |l {t x}:Frz (.l t x) (.z t x)
 |o {g l}:Frz (.o g l) (.zo l)
theorem xA{E:En}{H:Hq}{h:Hp}(S:SR E H h){r:Nat}{R R':Row}(hr:H.aU.get r=some R)(f:Frz R R'):
 SR (E.fz (E.K r).av h) (iD H r (some R')) h/\Nx E (E.fz (E.K r).av h) H (iD H r (some R')) h h:=by
 have lv:R.live=true:=by cases f<;>rfl
 have Q2:R'.live=false:=by cases f<;>rfl
 have hg:Nk E.G (E.fz (E.K r).av h).G:=by
  intro id row e
  show(if _ then _ else _)=_
  split
  ·rename_i c;exact((S.g id row e).2.2 r ⟨R,hr,lv⟩ c).elim
  ·exact e
 have le:uF E (E.fz (E.K r).av h) H.next:=⟨fun _ _=>rfl,fun _ _=>rfl,hg,rfl⟩
 refine⟨⟨?_,?_,?_,?_⟩,⟨le,Nat.le_refl _,Nat.le_refl _,?_,?_,fun _ _ _=>rfl⟩⟩
 ·intro q Q hq
  rw[eW]at hq
  split at hq
  ·rename_i e;subst e;cases hq
   obtain⟨h1,h2⟩:=S.row _ _ hr
   refine⟨h1,?_⟩
   cases f with
   |l=>exact LR.mono hg (fun id row e k=>by have e':jN (E.K q).av=some id:=e;show(if _ then _ else _)=_;rw[if_pos e'];exact k) h2
   |o=>
    obtain⟨id,row,a,b,c,_⟩:=h2
    exact⟨id,row,a,by show(if _ then _ else _)=_;rw[if_pos (by rw[a];rfl)];exact b,c.mono le (Nat.le_refl _)⟩
  ·obtain⟨h1,h2⟩:=S.row _ _ hq
   exact⟨h1,h2.mono le (Nat.le_refl _) (fun _ _ _ _ e=>e)⟩
 ·intro a b id oa ob ea eb
  exact S.inj a b id (l5 Q2 oa).2 (l5 Q2 ob).2 ea eb
 ·intro a id oa ea
  exact S.lt a id (l5 Q2 oa).2 ea
 ·intro id row e
  have e':(if jN (E.K r).av=some id then h.aU.get id else E.G id)=some row:=e
  split at e'
  ·rename_i c
   refine⟨S.lt r id ⟨R,hr,lv⟩ c,e',fun q oq eq=>?_⟩
   exact(l5 Q2 oq).1 (S.inj q r id (l5 Q2 oq).2 ⟨R,hr,lv⟩ eq c)
  ·obtain⟨a,b,c⟩:=S.g id row e'
   exact⟨a,b,fun q oq=>c q (l5 Q2 oq).2⟩
 ·intro q id oq eq
  exact .inl ⟨q,(l5 Q2 oq).2,eq⟩
 ·intro id row e
  have e':(if jN (E.K r).av=some id then h.aU.get id else E.G id)=some row:=e
  split at e'
  ·rename_i c;exact .inr (.inl ⟨r,⟨R,hr,lv⟩,c⟩)
  ·exact .inl e'
structure Fz(E E':En)(H H':Hq)(h:Hp):Prop where
 K:E'.K=E.K
 tk:E'.tk=E.tk
 n:H'.next=H.next
 S:SR E' H' h
 X:Nx E E' H H' h h
theorem Fz.refl{E:En}{H:Hq}{h:Hp}(S:SR E H h):Fz E E H H h:=⟨rfl,rfl,rfl,S,Nx.refl _ _ _⟩
theorem Fz.trans{E E1 E2:En}{H H1 H2:Hq}{h:Hp}(a:Fz E E1 H H1 h)(b:Fz E1 E2 H1 H2 h):Fz E E2 H H2 h:=⟨b.K.trans a.K,b.tk.trans a.tk,b.n.trans a.n,b.S,a.X.trans b.X⟩
theorem Fz.g{E E':En}{H H':Hq}{h:Hp}(a:Fz E E' H H' h):Nk E.G E'.G:=a.X.e.G
theorem Fz.v{E E':En}{H H':Hq}{h:Hp}(a:Fz E E' H H' h){v:Sv}{c:AV}(k:V E H.next v c):V E' H'.next v c:=k.mono a.X.e a.X.le
theorem Fz.vs{E E':En}{H H':Hq}{h:Hp}(a:Fz E E' H H' h){v:List Sv}{c:List AV}(k:Vs E H.next v c):Vs E' H'.next v c:=k.mono a.X.e a.X.le
theorem s0{E:En}{H:Hq}{h:Hp}(S:SR E H h){r:Nat}{R R':Row}(hr:H.aU.get r=some R)(f:Frz R R'):Fz E (E.fz (E.K r).av h) H (iD H r (some R')) h:=
 ⟨rfl,rfl,rfl,(xA S hr f).1,(xA S hr f).2⟩
def nP(t:Ty)(f:List Sv->Hq->Option (den t×List Sv×Hq)):Prop:= ∀ (E:En) (H:Hq) (h:Hp) (l r:List Sv) (cs:List AV) (x:den t) (H':Hq),SR E H h->Vs E H.next l cs->f l H=some (x,r,H')->
 ∃ E' c d,Fz E E' H H' h/\cs=c++d/\EV E'.G t x c/\Vs E' H'.next r d
theorem CE{t:Ty}{f:List Sv->Hq->Option (den t×List Sv×Hq)}(hf:nP t f): ∀ (n:Nat) (E:En) (H:Hq) (h:Hp) (l:List Sv) (cs:List AV) (x:List (den t)) (H':Hq),SR E H h->Vs E H.next l cs->rdS t f n l H=some (x,H')->
 ∃ E' c d,Fz E E' H H' h/\cs=c++d/\jH (EV E'.G t) x c/\x.length=n
 |0,E,H,h,l,cs,x,H',S,_,e=>by cases e;exact⟨E,[],cs,Fz.refl S,rfl,rfl,rfl⟩
 |n+1,E,H,h,l,cs,x,H',S,hv,e=>by
  change (match f l H with|some (x,r,h)=>(match rdS t f n r h with|some (xs,h)=>some (x::xs,h)|none=>none)|none=>none)=some (x,H')at e
  split at e
  ·rename_i y r H1 hy
   split at e
   ·rename_i ys H2 W9
    cases e
    obtain⟨E1,c1,d1,F1,rfl,v1,w1⟩:=hf E H h l r cs y H1 S hv hy
    obtain⟨E2,c2,d2,F2,rfl,v2,w2⟩:=CE hf n E1 H1 h r d1 ys H' F1.S w1 W9
    exact⟨E2,c1++c2,d2,F1.trans F2,by simp,⟨c1,c2,rfl,EV.mono F2.g _ _ _ v1,v2⟩,by simp[w2]⟩
   ·cases e
  ·cases e
theorem mQ{r:Rw}{base k:Nat}{ls:List AV}(s:r.jd base k=some ls){o n:Nat}(h:o+n<=k):r.jd (base+o) n=some ((ls.drop o).take n):=by
 obtain⟨a,b⟩:=ek.1 s
 refine ek.2 ⟨by omega,?_⟩
 rw[b,List.drop_take,List.take_take,List.drop_drop,Nat.min_eq_left (by omega)]
theorem yM{G:Nat->Option Rw}{t:Ty}{x:List (den t)}{id base n off m:Nat}{row:Rw}{ls:List AV}(hx:x.length=n)(s:row.jd base (n*size t)=some ls)(e:jH (EV G t) x ls)(h:off+m<=n):
 ((x.drop off).take m).length=m/\row.jd (base+off*size t) (m*size t)=some ((ls.drop (off*size t)).take (m*size t))/\jH (EV G t) ((x.drop off).take m) ((ls.drop (off*size t)).take (m*size t)):=by
 refine⟨by rw[List.length_take,List.length_drop];omega,mQ s ?_,(e.drop (EV.length t) off).take (EV.length t) m⟩
 rw[<-Nat.add_mul];exact Nat.mul_le_mul_right _ h
theorem Ax{E:En}{N:Nat}{t:Ty}{x:List (den t)}{r sz:Nat}{a:AV}{S:Nat->Option Rw}(hv:V E N (.os r sz) a)(l:LR E.G t x (E.K r) S):
 (dH a=true/\x=[])∨ ∃ id base row ls,a=.dV id base x.length (size t)/\(E.K r).av=a/\sz=size t/\S id=some row/\row.jd base (x.length*size t)=some ls/\jH (EV E.G t) x ls:=by
 cases hv with
 |os h1 h2=>
  rcases l.2 with k|⟨id,base,row,ls,k1,k2,k3,k4⟩
  ·exact .inl k
  ·rw[l.1]
   rcases h2 with h2|⟨sE,Jc,h2⟩
   ·rw[k1]at h2;cases h2.1
   ·rw[k1]at h2
    injection h2 with _ _ _ a4
    exact .inr ⟨id,base,row,ls,k1,rfl,a4.symm,k2,k3,k4⟩
theorem Q3{E:En}{N:Nat}{t:Ty}{x:List (den t)}{r sz off n:Nat}{a:AV}{S:Nat->Option Rw}(hv:V E N (.ss r sz off n) a)(l:LR E.G t x (E.K r) S):
 (dH a=true/\n=0/\x=[]/\off=0/\(E.K r).av=a)∨ ∃ id base row ls,a=.dV id (base+off*size t) n (size t)/\off+n<=x.length/\(E.K r).av=.dV id base x.length (size t)/\sz=size t/\S id=some row/\row.jd base (x.length*size t)=some ls/\jH (EV E.G t) x ls:=by
 cases hv with
 |se h1 h2 h3 h4=>
  refine .inl ⟨h2,rfl,?_,h4,rfl⟩
  have:=l.1;rw[h3]at this
  exact List.eq_nil_of_length_eq_zero this
 |ss h1 h2 h3=>
  rcases l.2 with k|⟨id,base,row,ls,k1,k2,k3,k4⟩
  ·rw[h2]at k;cases k.1
  ·rw[k1]at h2
   injection h2 with a1 a2 _ a4
   subst a1;subst a2;subst a4
   rw[l.1]
   exact .inr ⟨id,base,row,ls,rfl,h3,k1,rfl,k2,k3,k4⟩
theorem rG{E:En}{t:Ty}{x:List (den t)}{a:AV}{id base:Nat}{row:Rw}{ls:List AV}(ha:a=.dV id base x.length (size t))(hg:E.G id=some row)(s:row.jd base (x.length*size t)=some ls)(e:jH (EV E.G t) x ls):DT E.G t (EV E.G t) x a:=
 .inr ⟨ls,e,.inr ⟨id,base,row,ha,hg,s⟩⟩
theorem Jd{E:En}{N:Nat}{t:Ty}{x:List (den t)}{r sz:Nat}{a:AV}(hv:V E N (.os r sz) a)(l:LR E.G t x (E.K r) E.G):DT E.G t (EV E.G t) x a:=by
 rcases Ax hv l with k|⟨id,base,row,ls,k1,_,_,k2,k3,k4⟩
 ·exact .inl k
 ·exact rG k1 k2 k3 k4
theorem Je{E:En}{N:Nat}{t:Ty}{x:List (den t)}{r sz off n:Nat}{a:AV}(hv:V E N (.ss r sz off n) a)(l:LR E.G t x (E.K r) E.G):DT E.G t (EV E.G t) ((x.drop off).take n) a:=by
 rcases Q3 hv l with⟨k1,k2,k3,_⟩|⟨id,base,row,ls,k1,k2,_,_,k3,k4,k5⟩
 ·subst k3;exact .inl ⟨k1,by simp⟩
 ·obtain⟨a1,a2,a3⟩:=yM rfl k4 k5 k2 (id:=0)
  refine rG (id:=id) (base:=base+off*size t) (row:=row) ?_ k3 ?_ a3
  ·rw[a1];exact k1
  ·rw[a1];exact a2
theorem Jf{t:Ty}{f:List Sv->Hq->Option (den t×List Sv×Hq)}(hf:nP t f){E:En}{H H':Hq}{h:Hp}{v:Sv}{a:AV}{x:List (den t)}(S:SR E H h)(hv:V E H.next v a)(e:asL t f v H=some (x,H')):
 ∃ E',Fz E E' H H' h/\DT E'.G t (EV E'.G t) x a:=by
 have xo: ∀ {r sz off n:Nat} {l:List Sv} {E1:En} {H1:Hq} {id:Nat} {row:Rw},Fz E E1 H H1 h->sz=size t->a=.dV id off n sz->E1.G id=some row->Vs E1 H1.next l row.toL->QU t f n off l H1=some (x,H')-> ∃ E',Fz E E' H H' h/\DT E'.G t (EV E'.G t) x a:=by
  intro r sz off n l E1 H1 id row F pO ha hg hl e
  unfold QU at e
  obtain⟨hb,e⟩:=cD e
  have hle:=Nat.le_of_ble_eq_true hb
  rw[cF]at hle
  rw[jg]at e
  obtain⟨E2,c,d,F2,e1,e2,e3⟩:=CE hf n E1 H1 h _ _ x H' F.S (hl.drop off) e
  refine⟨E2,F.trans F2,?_⟩
  have hc:=e2.length (EV.length t)
  have hlen:=hl.length
  refine rG (id:=id) (base:=off) (row:=row) (ls:=c) (by rw[e3,ha,pO]) (F2.g _ _ hg) ?_ e2
  refine ek.2 ⟨?_,?_⟩
  ·have:=congrArg List.length e1
   rw[List.length_drop,List.length_append,hc]at this
   rw[<-eM];omega
  ·rw[e1,<-hc,List.take_left]
 cases v with
 |a w=>
  obtain⟨hb,e⟩:=cD e
  cases e
  cases hv with
  |a _=>exact⟨E,Fz.refl S,.inl ⟨hb,rfl⟩⟩
 |c m ty y=>
  cases ty with
  |aC t'=>
   change (match sf t' t with|some ⟨e⟩=>some (e▸y,H)|none=>none)=some (x,H')at e
   split at e
   ·rename_i p hp
    cases p
    cases e
    cases hv with
    |c k _=>obtain⟨b,hb,k⟩:=k;cases hb;exact⟨E,Fz.refl S,k⟩
   ·cases e
  | _=>cases e
 |os r s=>
  change (match H.aU.get r with
   |some (.l t' x)=>(match sf t' t with|some ⟨e⟩=>some (e▸x,iD H r (some (.z t' x)))|none=>none)
   |some (.z t' x)=>(match sf t' t with|some ⟨e⟩=>some (e▸x,H)|none=>none)
   | _=>none)=some (x,H')at e
  split at e
  ·rename_i t' y hr
   split at e
   ·rename_i p hp
    cases p
    cases e
    have F:=s0 S hr .l
    refine⟨_,F,Jd (F.v hv) ?_⟩
    have:=F.S.row r (.z t y) (by rw[eW,if_pos rfl])
    exact this.2
   ·cases e
  ·rename_i t' y hr
   split at e
   ·rename_i p hp
    cases p
    cases e
    exact⟨E,Fz.refl S,Jd hv (S.row _ _ hr).2⟩
   ·cases e
  ·cases e
 |ss r s off n=>
  change (match H.aU.get r with
   |some (.l t' x)=>(match sf t' t with|some ⟨e⟩=>some (((e▸x:List (den t)).drop off).take n,iD H r (some (.z t' x)))|none=>none)
   |some (.z t' x)=>(match sf t' t with|some ⟨e⟩=>some (((e▸x:List (den t)).drop off).take n,H)|none=>none)
   | _=>none)=some (x,H')at e
  split at e
  ·rename_i t' y hr
   split at e
   ·rename_i p hp
    cases p
    cases e
    have F:=s0 S hr .l
    refine⟨_,F,Je (F.v hv) ?_⟩
    have:=F.S.row r (.z t y) (by rw[eW,if_pos rfl])
    exact this.2
   ·cases e
  ·rename_i t' y hr
   split at e
   ·rename_i p hp
    cases p
    cases e
    exact⟨E,Fz.refl S,Je hv (S.row _ _ hr).2⟩
   ·cases e
  ·cases e
 |xo r sz off n=>
  change (bif Nat.beq sz (size t)then(match H.aU.get r with
   |some (.o _ l)=>QU t f n off l (iD H r (some (.zo l)))
   |some (.zo l)=>QU t f n off l H
   | _=>none)else none)=some (x,H')at e
  obtain⟨hb,e⟩:=cD e
  split at e
  ·rename_i l hr
   have F:=s0 S hr .o
   have k:=(F.S.row r (.zo l) (by rw[eW,if_pos rfl])).2
   obtain⟨id,row,k1,k2,k3⟩:=k
   cases hv with
   |xo h1 h2=>
    have xB:(E.K r).av=.ref id 0:=k1
    rw[h2]at xB;cases xB
    exact xo (r:=r) F (beq_true hb) rfl k2 k3 e
  ·rename_i l hr
   obtain⟨id,row,k1,k2,k3⟩:=(S.row _ _ hr).2
   cases hv with
   |xo h1 h2=>
    rw[h2]at k1;cases k1
    exact xo (r:=r) (Fz.refl S) (beq_true hb) rfl k2 k3 e
  ·cases e
 | _=>cases e
theorem qG: ∀ (t:Ty),nP t (QV t)
 | .int k=>by
  intro E H h l r cs x H' S hv e
  cases l with
  |nil=>cases e
  |cons v l=>
   change (match toN v with|some (k',n)=>(bif ka k k' then some (n,l,H)else none)|none=>none)=some (x,r,H')at e
   split at e
   ·rename_i k' n hn
    obtain⟨hb,e⟩:=cD e
    cases e
    cases hv with
    |cons a b=>
     have:=gP a hn
     rw[eY.1 hb]
     exact⟨E,[_],_,Fz.refl S,rfl,by rw[this];rfl,b⟩
   ·cases e
 | .bool=>by
  intro E H h l r cs x H' S hv e
  cases l with
  |nil=>cases e
  |cons v l=>
   change (match toB v with|some b=>some (b.v,l,H)|none=>none)=some (x,r,H')at e
   split at e
   ·rename_i b hn
    cases e
    cases hv with
    |cons a c=>
     have:=gO a hn
     exact⟨E,[_],_,Fz.refl S,rfl,by rw[this];rfl,c⟩
   ·cases e
 | .str=>by
  intro E H h l r cs x H' S hv e
  cases l with
  |nil=>cases e
  |cons v l=>
   change (match toS v with|some (_,s)=>some (s,l,H)|none=>none)=some (x,r,H')at e
   split at e
   ·rename_i b s hn
    cases e
    cases hv with
    |cons a c=>
     have:=ov a hn
     exact⟨E,[_],_,Fz.refl S,rfl,by rw[this];rfl,c⟩
   ·cases e
 | .aC t=>by
  intro E H h l r cs x H' S hv e
  cases l with
  |nil=>cases e
  |cons v l=>
   change (match asL t (QV t) v H with|some (x,h)=>some (x,l,h)|none=>none)=some (x,r,H')at e
   split at e
   ·rename_i y H1 hy
    cases e
    cases hv with
    |cons a c=>
     obtain⟨E',F,k⟩:=Jf (qG t) S a hy
     exact⟨E',[_],_,F,rfl,⟨_,rfl,k⟩,F.vs c⟩
   ·cases e
 | .pair a b=>by
  intro E H h l r cs x H' S hv e
  change (match QV a l H with|some (x,r,h)=>(match QV b r h with|some (y,r,h)=>some ((x,y),r,h)|none=>none)|none=>none)=some (x,r,H')at e
  split at e
  ·rename_i y q H1 hy
   split at e
   ·rename_i z q2 H2 hz
    cases e
    obtain⟨E1,c1,d1,F1,rfl,v1,w1⟩:=qG a E H h l q cs y H1 S hv hy
    obtain⟨E2,c2,d2,F2,rfl,v2,w2⟩:=qG b E1 H1 h q _ d1 z H' F1.S w1 hz
    exact⟨E2,c1++c2,d2,F1.trans F2,by simp,⟨c1,c2,rfl,EV.mono F2.g _ _ _ v1,v2⟩,w2⟩
   ·cases e
  ·cases e
theorem CF{t:Ty}{E:En}{H H':Hq}{h:Hp}{v:Sv}{a:AV}{x:List (den t)}(S:SR E H h)(hv:V E H.next v a)(e:S4 t v H=some (x,H')):
 ∃ E',Fz E E' H H' h/\DT E'.G t (EV E'.G t) x a:=Jf (qG t) S hv e
theorem fl{a:AV}(k:dH a=true):sy a=.eD:=by
 cases a with
 |sc v=>have k':qu (.sc v)=true:=k;unfold sy;rw[k'];rfl
 |eD=>rfl
 |mI=>rfl
 | _=>cases k
theorem xC{E:En}{H:Hq}{h:Hp}(S:SR E H h){t:Ty}{x:List (den t)}{a:AV}(k:DT E.G t (EV E.G t) x a): ∃ cs,dZ h (sy a)=some (x.length,cs)/\jH (EV E.G t) x cs:=by
 rcases k with⟨k,rfl⟩|⟨ls,k1,k2⟩
 ·refine⟨[],?_,rfl⟩
  rw[fl k];rfl
 ·rcases k2 with rfl|⟨id,base,row,rfl,g,s⟩
  ·exact⟨ls,rfl,k1⟩
  ·refine⟨ls,?_,k1⟩
   show(match h.aU.get id with|some cs=>(match cs.jd base (Nat.mul x.length (size t))with|some l=>some (x.length,l)|none=>none)|none=>none)=_
   rw[(S.g _ _ g).2.1]
   have s':row.jd base (Nat.mul x.length (size t))=some ls:=s
   simp only[s']
def XC:AV->Option Nat
 | .dV _ _ n _=>some n
 | .iw n _=>some n
 | .eD=>some 0
 | _=>none
theorem DV{E:En}{H:Hq}{h:Hp}(S:SR E H h){v m:Sv}{a:AV}(hv:V E H.next v a)(e:S5 v H=some m): ∃ n:Nat,toN m=some (.i64,(n:Int))/\V E H.next m (.int .i64 n)/\XC (sy a)=some n/\(dH a=true->n=0):=by
 have row: ∀ {r sz:Nat} {t:Ty} {x:List (den t)} {S':Nat->Option Rw},V E H.next (.os r sz) a->LR E.G t x (E.K r) S'-> ∃ n:Nat,toN (.c 0 (.int .i64) (Int.ofNat x.length))=some (.i64,(n:Int))/\V E H.next (.c 0 (.int .i64) (Int.ofNat x.length)) (.int .i64 n)/\XC (sy a)=some n/\(dH a=true->n=0):=by
  intro r sz t x S' hv l
  refine⟨x.length,rfl,fI,?_⟩
  rcases Ax hv l with⟨k,rfl⟩|⟨id,base,row,ls,k1,_⟩
  ·rw[fl k];exact⟨rfl,fun _=>rfl⟩
  ·rw[k1];exact⟨rfl,fun k=>by cases k⟩
 cases v with
 |a w=>
  obtain⟨hb,e⟩:=cD e
  cases e
  cases hv with
  |a _=>exact⟨0,rfl,.i,by rw[fl hb];rfl,fun _=>rfl⟩
 |c q ty x=>
  cases ty with
  |aC t=>
   cases e
   refine⟨x.length,rfl,fI,?_⟩
   cases hv with
   |c k _=>
    obtain⟨b,hb,k⟩:=k;cases hb
    rcases k with⟨k,hx⟩|⟨ls,k1,k2|⟨_,_,_,k2,_⟩⟩
    ·rw[fl k];subst hx;exact⟨rfl,fun _=>rfl⟩
    ·rw[k2];exact⟨rfl,fun k=>by cases k⟩
    ·rw[k2];exact⟨rfl,fun k=>by cases k⟩
  | _=>cases e
 |os r s=>
  change (match H.aU.get r with|some (.l _ x)=>some (Sv.c 0 (.int .i64) (Int.ofNat x.length))|some (.z _ x)=>some (Sv.c 0 (.int .i64) (Int.ofNat x.length))| _=>none)=some m at e
  split at e
  ·rename_i hr;cases e;exact row hv (S.row _ _ hr).2
  ·rename_i hr;cases e;exact row hv (S.row _ _ hr).2
  ·cases e
 |ss r s off n=>
  cases e
  refine⟨n,rfl,fI,?_⟩
  cases hv with
  |se h1 h2 h3 h4=>rw[fl h2];exact⟨rfl,fun _=>rfl⟩
  |ss h1 h2 h3=>exact⟨rfl,fun k=>by cases k⟩
 |xo r s off n=>
  cases e
  cases hv with
  |xo _ _=>exact⟨n,rfl,.i,rfl,fun k=>by cases k⟩
 | _=>cases e
theorem Nt(a:Od):eT (dc a) (fun _ _=>aT (cf a)):=dC (by
 intro E T t H h v T' H' hT hH e
 unfold dc at e
 split at e
 ·rename_i w hw
  obtain⟨e1,rfl,rfl⟩:=l4 e
  obtain⟨c,hc,fL⟩:=mP hT hw
  obtain⟨n,h1,h2,h3,_⟩:=DV hH fL e1
  refine⟨rfl,rfl,_,?_,h2⟩
  unfold aT
  rw[hc]
  generalize sy c=y at h3 ⊢
  cases y<;>first|(cases h3;done)|(cases h3;rfl)
 ·cases e)
end Lf
end Go.Ab

noncomputable section
namespace Go.Ab
namespace Lf
theorem vK(k:IntKind):ka k k=true:=eY.2 rfl
theorem en{f s:AV->AV->Option AV}{x y r:AV}(h:f x y=some r):tR f s x y=some r:=by unfold tR;rw[h]
theorem fS{f:IntKind->Int->Int->Option AV}(k:IntKind)(a b:Int):mX f (.int k a) (.int k b)=f k a b:=by show(bif ka k k then _ else _)=_;rw[vK];rfl
theorem yN(op:BinOp)(hop:op=.and∨op=.or∨op=.xor)(f:Nat->Nat->Nat)(k:IntKind)(a b:Int): ∃ r,w5 op f (.int k a) (.int k b)=some (.int k r):=by
 unfold w5
 rw[fS]
 have hr: ∃ r,uQ (j2 (Op.intBits op k a b))=some (.int k r):=by rcases hop with rfl|rfl|rfl<;>exact⟨_,rfl⟩
 split
 ·rename_i a b
  cases hc:(Nat.blt a (tw k)&&Nat.blt b (tw k))with
  |true=>exact⟨_,rfl⟩
  |false=>exact hr
 ·exact hr
theorem rH{o:Option AV}{k:IntKind}(h: ∃ r,o=some (.int k r)):o=some (.int k (intOf o)):=by obtain⟨r,h⟩:=h;rw[h];rfl
theorem XD{f:BF}{g:IntKind->Int->Int->Int}(h:IM f=.ar g)(k:IntKind)(a b:Int):f.f (.int k a) (.int k b)=some (.int k (g k a b)):=by
 cases f<;>first|(cases h;done)|skip
 case add=>cases h;exact en (fS k a b)
 case sub=>cases h;exact en (fS k a b)
 case mul=>cases h;exact en (fS k a b)
 case and=>cases h;exact en (rH (yN .and (.inl rfl) Nat.land k a b))
 case or=>cases h;exact en (rH (yN .or (.inr (.inl rfl)) Nat.lor k a b))
 case xor=>cases h;exact en (rH (yN .xor (.inr (.inr rfl)) Nat.xor k a b))
 case andNot=>
  cases h
  have hr: ∃ r,uQ (j2 (Op.intBits .andNot k a b))=some (.int k r):=⟨_,rfl⟩
  refine rH (o:=nG (.int k a) (.int k b)) ?_
  unfold nG;rw[fS];exact hr
theorem XE{f:BF}{g:IntKind->Int->Int->Int}(h:IM f=.dv g)(k:IntKind)(a b:Int)(hb: ¬ b=0):f.f (.int k a) (.int k b)=some (.int k (g k a b)):=by
 have hz:eqI b 0=false:=by cases e:eqI b 0 with
  |false=>rfl
  |true=>exact(hb (gx.1 e)).elim
 cases f<;>first|(cases h;done)|skip
 case quo=>cases h;exact en (by unfold LO;rw[fS,hz];rfl)
 case rem=>cases h;exact en (by unfold LP;rw[fS,hz];rfl)
theorem XF{f:BF}{g:IntKind->Int->Int->Int}(h:IM f=.sh g)(k k':IntKind)(a b:Int)(hb:0<=b):f.f (.int k a) (.int k' b)=some (.int k (g k a b)):=by
 obtain⟨n,rfl⟩:=Int.eq_ofNat_of_zero_le hb
 cases f<;>first|(cases h;done)|skip
 case shl=>cases h;have q:BQ (.int k a) (.int k' (Int.ofNat n))=some (.int k (tX k a (Int.ofNat n))):=rfl;show tR BQ zq (.int k a) (.int k' (Int.ofNat n))=_;exact en q
 case shr=>cases h;have q:BR (.int k a) (.int k' (Int.ofNat n))=some (.int k (lj k a (Int.ofNat n))):=rfl;show tR BR zq (.int k a) (.int k' (Int.ofNat n))=_;exact en q
theorem XG{f:BF}{g:Int->Int->Bool}(h:IM f=.cm g)(k:IntKind)(a b:Int):f.f (.int k a) (.int k b)=some (.bool (g a b)):=by
 cases f<;>first|(cases h;done)|skip
 case lss=>cases h;refine en ?_;unfold Sa;rw[fS,iO]
 case leq=>cases h;refine en ?_;unfold Sb;rw[fS,iO];simp[<-Int.not_lt]
 case gtr=>cases h;refine en ?_;unfold Sc;rw[fS,iO]
 case geq=>cases h;refine en ?_;unfold Sd;rw[fS,iO];simp[<-Int.not_lt]
 case eqI neg=>
  have he:eqI a b=decide (a=b):=by
   cases e:eqI a b with
   |true=>exact(decide_eq_true (gx.1 e)).symm
   |false=>refine(decide_eq_false fun q=>?_).symm;rw[gx.2 q]at e;cases e
  cases neg with
  |false=>cases h;refine en ?_;unfold GS;rw[fS,he];rfl
  |true=>cases h;refine en ?_;unfold GS;rw[fS,he];rfl
section
variable {E:En}{N:Nat}
theorem Nu{i:Bool}{x y:Sv}{c d:AV}{r:LB}(hx:V E N x c)(hy:V E N y d)(h:Nc i x y=some r):V1 i c d=some r.v:=by
 unfold Nc at h
 split at h
 ·split at h
  ·obtain⟨hk,h⟩:=cD h
   cases h
   cases hx;cases hy
   show(bif ka _ _ then some (eqI _ _)else none)=_
   rw[hk];rfl
  ·split at h
   ·rename_i k a k' b h1 h2
    obtain⟨hk,h⟩:=cD h
    cases h
    rw[gP hx h1,gP hy h2]
    show(bif ka k k' then some (eqI a b)else none)=_
    rw[hk]
    show some (eqI a b)=some (decide (a=b))
    congr 1
    cases e:eqI a b with
    |true=>exact(decide_eq_true (gx.1 e)).symm
    |false=>refine(decide_eq_false fun q=>?_).symm;rw[gx.2 q]at e;cases e
   ·cases h
 ·split at h
  ·rename_i h1 h2;cases h;rw[gO hx h1,gO hy h2];rfl
  ·rename_i a b h1 h2;cases h;rw[gO hx h1,gO hy h2];rfl
  ·cases h
theorem LB.Jg(a b:LB):(a.and b).v=(a.v&&b.v):=by
 cases a with
 |l a=>cases a<;>cases b<;>rfl
 |t a=>cases b with
  |l b=>cases b<;>simp[LB.and,LB.v]
  |t b=>rfl
theorem DW: ∀ {l:List Bool} {xs ys:List Sv} {cs ds:List AV} {r:LB},Vs E N xs cs->Vs E N ys ds->SS l xs ys=some r->zA l cs ds=some r.v
 | [],_,_,_,_,_,_,_,h=>by cases h;rfl
 |i::l,[],_,_,_,_,_,_,h=>by cases h
 |i::l,_::_,[],_,_,_,_,_,h=>by cases h
 |i::l,x::xs,y::ys,c'::l1,d'::l2,r,.cons hx Sx,.cons hy W9,h=>by
  change (match Nc i x y with|some c=>(match SS l xs ys with|some d=>some (c.and d)|none=>none)|none=>none)=some r at h
  split at h
  ·rename_i c hc
   split at h
   ·rename_i d hd
    cases h
    have h1:=Nu hx hy hc
    have h2:=DW Sx W9 hd
    show(match V1 i c' d' with|none=>none|some c=>Bool.rec (some false) (zA l l1 l2) c)=_
    rw[h1,LB.Jg]
    simp only
    cases c.v with
    |true=>simp[h2]
    |false=>rfl
   ·cases h
  ·cases h
theorem Tj(neg:Bool)(c:LB):(SU neg c).v=bif neg then !c.v else c.v:=by cases neg<;>cases c<;>rfl
theorem DX{y:Sv}{d:AV}(hy:V E N y d)(h:IQ y=true):(∃ i o,d=.ref i o)∨ ∃ l,d=.gj l:=by
 cases hy<;>first|(cases h;done)|exact .inl ⟨_,_,rfl⟩|exact .inr ⟨_,rfl⟩
theorem Nv{f:BF}{x y v:Sv}{c d:AV}(hx:V E N x c)(hy:V E N y d)(h:(SW f x y).val=some v): ∃ r,f.f c d=some r/\V E N v r:=by
 unfold SW at h
 split at h
 ·split at h
  ·rename_i hr;cases h;cases hx;cases hy;exact⟨_,hr,.i⟩
  ·rename_i hr;cases h;cases hx;cases hy;exact⟨_,hr,.b⟩
  ·cases h
 ·split at h
  ·rename_i k a k' b h1 h2
   rw[gP hx h1,gP hy h2]
   split at h
   ·rename_i g hg
    cases hk:ka k k' with
    |false=>rw[hk]at h;cases h
    |true=>
     rw[hk]at h;cases h
     have:=eY.1 hk;subst this
     exact⟨_,XD hg k a b,fI⟩
   ·rename_i g hg
    cases hk:ka k k' with
    |false=>rw[hk]at h;cases h
    |true=>
     rw[hk]at h
     have:=eY.1 hk;subst this
     simp only[cond_true]at h
     have key: ¬ b=0/\v=.c 0 (.int k) (g k a b):=by
      cases hl:IP y with
      |true=>
       rw[hl]at h
       simp only[cond_true]at h
       cases hz:eqI b 0 with
       |true=>rw[hz]at h;cases h
       |false=>rw[hz]at h;cases h;exact⟨(fun q=>by rw[gx.2 q]at hz;cases hz),rfl⟩
      |false=>
       rw[hl]at h
       obtain⟨h1,h2⟩:=T.dj h
       cases h2
       exact⟨by simpa using h1,rfl⟩
     rw[key.2]
     exact⟨_,XE hg k a b key.1,fI⟩
   ·rename_i g hg
    have key:0<=b/\v=.c 0 (.int k) (g k a b):=by
     cases hl:IP y with
     |true=>
      rw[hl]at h
      simp only[cond_true]at h
      cases hz:p5 b 0 with
      |true=>rw[hz]at h;cases h
      |false=>rw[hz]at h;cases h;exact⟨Mw.1 hz,rfl⟩
     |false=>
      rw[hl]at h
      obtain⟨h1,h2⟩:=T.dj h
      cases h2
      exact⟨by simpa using h1,rfl⟩
    rw[key.2]
    exact⟨_,XF hg k k' a b key.1,fI⟩
   ·rename_i g hg
    cases hk:ka k k' with
    |false=>rw[hk]at h;cases h
    |true=>
     rw[hk]at h;cases h
     have:=eY.1 hk;subst this
     exact⟨_,XG hg k a b,lr⟩
   ·cases h
  ·cases h
theorem Tk{f:BF}{x y v:Sv}{c d:AV}(hx:V E N x c)(hy:V E N y d)(h:(SX f x y).val=some v): ∃ r,f.f c d=some r/\V E N v r:=by
 cases f with
 |WK neg=>
  simp only[SX]at h
  split at h
  ·rename_i h1 h2;cases h;rw[gO hx h1,gO hy h2];exact⟨_,rfl,.b⟩
  ·rename_i h1 h2;cases h;rw[gO hx h1,gO hy h2];cases neg<;>exact⟨_,rfl,lr⟩
  ·cases h
 |QC neg=>
  simp only[SX]at h
  split at h
  ·rename_i h1 h2;cases h;rw[ov hx h1,ov hy h2];exact⟨_,rfl,.b⟩
  ·rename_i h1 h2;cases h;rw[ov hx h1,ov hy h2];cases neg<;>exact⟨_,rfl,lr⟩
  ·cases h
 |eqP neg=>
  simp only[SX]at h
  split at h
  ·cases h;cases hx;cases hy;exact⟨_,rfl,.b⟩
  ·cases hp:IQ y with
   |false=>rw[hp]at h;cases h
   |true=>
    rw[hp]at h;cases h
    cases hx
    rcases DX hy hp with⟨_,_,rfl⟩|⟨_,rfl⟩<;>exact⟨_,rfl,.b⟩
  ·cases hp:IQ x with
   |false=>rw[hp]at h;cases h
   |true=>
    rw[hp]at h;cases h
    cases hy
    rcases DX hx hp with⟨_,_,rfl⟩|⟨_,rfl⟩<;>exact⟨_,rfl,.b⟩
  ·cases h
 |eqN neg=>
  simp only[SX]at h
  split at h
  ·rename_i v' w
   cases hn:isNil w with
   |false=>rw[hn]at h;cases h
   |true=>
    rw[hn]at h
    simp only[cond_true]at h
    split at h
    ·rename_i b hb
     cases h
     cases hx;cases hy
     refine⟨.bool (bif neg then !b else b),?_,.b⟩
     show(bif isNil _ then Option.rec none (fun b=>some (.bool (bif neg then !b else b))) (xS _)else none:Option AV)=_
     rw[hn,hb];rfl
    ·cases h
  ·rename_i w
   cases hn:isNil w with
   |false=>rw[hn]at h;cases h
   |true=>
    rw[hn]at h
    cases h
    cases hx;cases hy
    refine⟨.bool neg,?_,.b⟩
    simp only[BF.f,kX,hn,cond_true]
    cases neg<;>rfl
  ·rename_i t x w
   cases hn:isNil w with
   |false=>rw[hn]at h;cases h
   |true=>
    rw[hn]at h
    obtain⟨hl,h⟩:=Lf.T.dj h
    cases h
    cases hy
    refine⟨.bool neg,?_,.b⟩
    simp only[BF.f,kX,hn,cond_true]
    cases hx with
    |c k _=>
     obtain⟨a,ea,k⟩:=k
     cases ea
     have hx0: ¬ x.length=0:=fun e=>by rw[e]at hl;cases hl
     rcases k with⟨_,k⟩|⟨ls,_,k|⟨id,base,row,k,_⟩⟩
     ·subst k;exact(hx0 rfl).elim
     ·subst k
      have hb:Nat.beq x.length 0=false:=by revert hl;cases Nat.beq x.length 0<;>simp
      simp only[xS,isNil,cond_false,hb]
      cases neg<;>rfl
     ·subst k
      simp only[xS,isNil,cond_false]
      cases neg<;>rfl
  ·cases h
 |mf neg l=>
  simp only[SX]at h
  split at h
  ·rename_i xs ys
   split at h
   ·rename_i r hr
    cases h
    cases hx with
    |ag hx=>cases hy with
     |ag hy=>
      refine⟨.bool (bif neg then !r.v else r.v),?_,by have:=Tf (E:=E) (N:=N) (c:=SU neg r);rw[Tj]at this;exact this⟩
      show(match zA l _ _ with|some c=>some (AV.bool (bif neg then !c else c))|none=>none)=_
      rw[DW hx hy hr]
   ·cases h
  ·cases h
 | _=>exact Nv hx hy h
theorem Nw{f:UF}{x v:Sv}{c:AV}(hx:V E N x c)(h:SY f x=some v): ∃ r,f.f c=some r/\V E N v r:=by
 unfold SY at h
 split at h
 ·split at h
  ·rename_i h1;cases h;rw[gO hx h1];exact⟨_,rfl,.b⟩
  ·rename_i h1;cases h;rw[gO hx h1];exact⟨_,rfl,lr⟩
  ·cases h
 ·split at h
  ·cases h;cases hx;exact⟨_,rfl,.i⟩
  ·cases h;rw[gP hx rfl];exact⟨_,rfl,fI⟩
  ·cases h
 ·split at h
  ·cases h;cases hx;exact⟨_,rfl,.i⟩
  ·cases h;rw[gP hx rfl];exact⟨_,rfl,fI⟩
  ·cases h
 ·split at h
  ·cases h;cases hx;exact⟨_,rfl,.i⟩
  ·cases h;rw[gP hx rfl];exact⟨_,rfl,fI⟩
  ·cases h
end
theorem Ny(f:BF)(a b:Od):eT (Nd f a b) (fun _ _=>ae f.f (cf a) (cf b)):=dC (by
 intro E T t H h v T' H' hT hH e
 unfold Nd at e
 split at e
 ·rename_i x hx
  split at e
  ·rename_i y hy
   obtain⟨w,e1,e2⟩:=Lf.T.dQ e
   obtain⟨rfl,rfl,rfl⟩:=bA e2
   obtain⟨c,hc,fL⟩:=bX hT hx
   obtain⟨d,hd,LH⟩:=bX hT hy
   obtain⟨r,hr,Ia⟩:=Tk fL LH e1
   refine⟨rfl,rfl,r,?_,Ia⟩
   show(Option.rec Go.Ab.Ro.bad (fun a'=>Option.rec Go.Ab.Ro.bad (fun b'=>Option.rec Go.Ab.Ro.bad (fun v=>Go.Ab.Ro.ok v h) (f.f a' b')) (cf b t)) (cf a t):Go.Ab.Ro)=_
   rw[hc,hd]
   simp only[hr]
  ·cases e
 ·cases e)
theorem Tl(f:UF)(a:Od):eT (sUn f a) (fun _ _=>cE f.f (cf a)):=dC (by
 intro E T t H h v T' H' hT hH e
 unfold sUn at e
 split at e
 ·rename_i x hx
  obtain⟨e1,rfl,rfl⟩:=l4 e
  obtain⟨c,hc,fL⟩:=bX hT hx
  obtain⟨r,hr,Ia⟩:=Nw fL e1
  refine⟨rfl,rfl,r,?_,Ia⟩
  show(Option.rec Go.Ab.Ro.bad (fun a'=>Option.rec Go.Ab.Ro.bad (fun v=>Go.Ab.Ro.ok v h) (f.f a')) (cf a t):Go.Ab.Ro)=_
  rw[hc]
  simp only[hr]
 ·cases e)
theorem Jh(a:Od):eT (DN a) (fun _ _=>jf (cf a)):=dC (by
 intro E T t H h v T' H' hT hH e
 unfold DN at e
 split at e
 ·rename_i x hx
  obtain⟨c,hc,fL⟩:=bX hT hx
  split at e
  ·rename_i s hs
   obtain⟨rfl,rfl,rfl⟩:=bA e
   have:=ov fL hs;subst this
   exact⟨rfl,rfl,_,by unfold jf;rw[hc],.i⟩
  ·rename_i s hs
   obtain⟨rfl,rfl,rfl⟩:=bA e
   have:=ov fL hs;subst this
   exact⟨rfl,rfl,_,by unfold jf;rw[hc],fI⟩
  ·cases e
 ·cases e)
theorem Nz(a b:Od){t:Tm}{h:Hp}{k:IntKind}{m n:Int}(h1:cf a t=some (.int k m))(h2:cf b t=some (.int k n)):sD (cf a) (cf b) t h=.ok (.int k (bif p5 n m then n else m)) h:=by
 unfold sD ae
 rw[h1,h2]
 have q:=fS (f:=fun k a b=>some (.int k (bif p5 b a then b else a))) k m n
 simp only[en q]
theorem NA(a b:Od){t:Tm}{h:Hp}{k:IntKind}{m n:Int}(h1:cf a t=some (.int k m))(h2:cf b t=some (.int k n)):wD (cf a) (cf b) t h=.ok (.int k (bif p5 m n then n else m)) h:=by
 unfold wD ae
 rw[h1,h2]
 have q:=fS (f:=fun k a b=>some (.int k (bif p5 a b then b else a))) k m n
 simp only[en q]
theorem XH(m n:Int):(bif p5 n m then n else m)=min m n:=by
 rw[iO]
 by_cases q:n<m
 ·simp only[decide_eq_true q,cond_true];omega
 ·simp only[decide_eq_false q,cond_false];omega
theorem XI(m n:Int):(bif p5 m n then n else m)=max m n:=by
 rw[iO]
 by_cases q:m<n
 ·simp only[decide_eq_true q,cond_true];omega
 ·simp only[decide_eq_false q,cond_false];omega
theorem DY{mx:Bool}{a b:Od}{E:En}{T T':Tq}{t:Tm}{H H':Hq}{v:Sv}(hT:TV E H.next T t)(e:(CA mx a b T H).val=some (v,T',H')):
 H'=H/\T'=T/\ ∃ k m n,cf a t=some (.int k m)/\cf b t=some (.int k n)/\V E H.next v (.int k (bif mx then(bif p5 m n then n else m)else(bif p5 n m then n else m))):=by
 unfold CA at e
 split at e
 ·rename_i x hx
  split at e
  ·rename_i y hy
   obtain⟨c,hc,fL⟩:=bX hT hx
   obtain⟨d,hd,LH⟩:=bX hT hy
   split at e
   ·rename_i k m k' n
    cases hk:ka k k' with
    |false=>rw[hk]at e;cases e
    |true=>
     rw[hk]at e
     obtain⟨rfl,rfl,rfl⟩:=bA e
     have:=eY.1 hk;subst this
     cases fL;cases LH
     exact⟨rfl,rfl,k,m,n,hc,hd,.i⟩
   ·split at e
    ·rename_i k m k' n h1 h2
     cases hk:ka k k' with
     |false=>rw[hk]at e;cases e
     |true=>
      rw[hk]at e
      obtain⟨rfl,rfl,rfl⟩:=bA e
      have:=eY.1 hk;subst this
      rw[gP fL h1]at hc
      rw[gP LH h2]at hd
      refine⟨rfl,rfl,k,m,n,hc,hd,?_⟩
      cases mx with
      |true=>simp only[cond_true,XI];exact fI
      |false=>simp only[cond_false,XH];exact fI
    ·cases e
  ·cases e
 ·cases e
theorem NB(a b:Od):eT (CA false a b) (fun _ _=>sD (cf a) (cf b)):=dC (by
 intro E T t H h v T' H' hT hH e
 obtain⟨rfl,rfl,k,m,n,h1,h2,hv⟩:=DY hT e
 exact⟨rfl,rfl,_,Nz a b h1 h2,hv⟩)
theorem NC(a b:Od):eT (CA true a b) (fun _ _=>wD (cf a) (cf b)):=dC (by
 intro E T t H h v T' H' hT hH e
 obtain⟨rfl,rfl,k,m,n,h1,h2,hv⟩:=DY hT e
 exact⟨rfl,rfl,_,NA a b h1 h2,hv⟩)
end Lf
end Go.Ab

noncomputable section
namespace Go.Ab
namespace Lf
theorem Ay{agg:Bool}{row:Rw}{b k o sz:Nat}{L:List AV}{c:AV}(s:row.jd b k=some L)(pO:0<sz)(h:part agg L o sz=some c):qa agg row (b+o) sz=some c:=by
 unfold part at h
 split at h
 ·cases h
 ·rename_i q hq
  obtain⟨rfl,hl⟩:=kZ hq
  obtain⟨s1,s2⟩:=ek.1 s
  have hL:L.length=k:=by rw[s2,List.length_take,List.length_drop,eM];omega
  have hb:o+sz<=k:=by rw[List.length_take,List.length_drop]at hl;omega
  unfold qa
  rw[mQ s hb]
  exact h
theorem Ji{agg:Bool}{l r:List AV}{sz:Nat}{c:AV}(h:part agg l 0 sz=some c):part agg (l++r) 0 sz=some c:=by
 unfold part at h
 split at h
 ·cases h
 ·rename_i q hq
  obtain⟨rfl,hl⟩:=kZ hq
  rw[List.drop_zero]at h hl
  have:List.take sz (l++r)=List.take sz l:=List.take_append_of_le_length (by rw[List.length_take]at hl;omega)
  unfold part
  rw[qF (by rw[List.drop_zero,this,hl]),List.drop_zero,this]
  exact h
theorem s5{E:En}{H:Hq}{h:Hp}(S:SR E H h){r:Nat}{l:List Sv}(e:vD H r=some l): ∃ id row,(E.K r).av=.ref id 0/\h.aU.get id=some row/\Vs E H.next l row.toL:=by
 unfold vD at e
 split at e
 ·rename_i hr;cases e
  obtain⟨id,row,a,b,c,_⟩:=(S.row _ _ hr).2
  exact⟨id,row,a,b,c⟩
 ·rename_i hr;cases e
  obtain⟨id,row,a,b,c⟩:=(S.row _ _ hr).2
  exact⟨id,row,a,(S.g _ _ b).2.1,c⟩
 ·cases e
theorem rI{E:En}{N:Nat}{t:Ty}{x:List (den t)}{base i:Nat}{row:Rw}{ls:List AV}(hi:i<x.length)(s:row.jd base (x.length*size t)=some ls)(e:jH (EV E.G t) x ls):
 EV E.G t (x.getD i (aE t)) ((ls.drop (i*size t)).take (size t))/\Vs E N (mN t (x.getD i (aE t))) ((ls.drop (i*size t)).take (size t))/\row.jd (base+i*size t) (size t)=some ((ls.drop (i*size t)).take (size t)):=by
 have h1:=e.get (EV.length t) hi (aE t)
 refine⟨h1,pR rfl t _ _ h1,mQ s ?_⟩
 have:=Nat.mul_le_mul_right (size t) (Nat.succ_le_of_lt hi)
 rw[Nat.succ_mul]at this;exact this
theorem Jj{E:En}{H:Hq}{h:Hp}(S:SR E H h){r sz i id base n:Nat}{l:List Sv}(e:IU H r sz i=some l)(hk:(E.K r).av=.dV id base n sz)(hi:i<n):
 ∃ row L,h.aU.get id=some row/\Vs E H.next l L/\row.jd (base+i*sz) sz=some L:=by
 have key: ∀ {t:Ty} {x:List (den t)} {S':Nat->Option Rw},(∀ row,S' id=some row->h.aU.get id=some row)->LR E.G t x (E.K r) S'->(bif Nat.beq sz (size t)then some (mN t (x.getD i (aE t)))else none)=some l-> ∃ row L,h.aU.get id=some row/\Vs E H.next l L/\row.jd (base+i*sz) sz=some L:=by
  intro t x S' hs q e
  obtain⟨hb,e⟩:=cD e
  cases e
  have hz:=beq_true hb
  rcases q.2 with⟨k,_⟩|⟨sE,Jc,row,ls,k1,k2,k3,k4⟩
  ·rw[hk]at k;cases k
  ·rw[hk]at k1
   injection k1 with a1 a2 a3 a4
   subst a1;subst a2
   rw[<-q.1]at a3 k3
   rw[a3]at hi
   obtain⟨_,e2,e3⟩:=rI (N:=H.next) hi k3 k4
   exact⟨row,_,hs _ k2,e2,by rw[hz];exact e3⟩
 unfold IU at e
 split at e
 ·rename_i t x hr;exact key (fun _ e=>e) (S.row _ _ hr).2 e
 ·rename_i t x hr;exact key (fun _ e=>(S.g _ _ e).2.1) (S.row _ _ hr).2 e
 ·cases e
theorem vL{E:En}{H:Hq}{h:Hp}(S:SR E H h){sz:Nat}{agg:Bool}{p v:Sv}{a:AV}(hv:V E H.next p a)(e:xw sz agg p H=some v): ∃ c,uV h sz agg a=some c/\V E H.next v c:=by
 unfold xw at e
 have pO:=ct.1 (cD e).1
 replace e:=(cD e).2
 split at e
 ·rename_i r o
  split at e
  ·rename_i l hl
   obtain⟨id,row,k1,k2,k3⟩:=s5 S hl
   cases hv with
   |rf h1 h2=>
    rw[k1]at h2;cases h2
    obtain⟨c,c1,c2⟩:=nn k3 e
    refine⟨c,?_,c2⟩
    show(match h.aU.get id with|some cs=>qa agg cs o sz|none=>none)=_
    rw[k2];exact I6 pO c1
  ·cases e
 ·rename_i r s i o
  split at e
  ·rename_i l hl
   cases hv with
   |re h1 h2 h3=>
    rename_i id base n
    obtain⟨row,L,k1,k2,k3⟩:=Jj S hl h2 h3
    obtain⟨c,c1,c2⟩:=nn k2 e
    refine⟨c,?_,c2⟩
    show(match h.aU.get id with|some cs=>qa agg cs (base+i*s+o) sz|none=>none)=_
    rw[k1];exact Ay k3 pO c1
  ·cases e
 ·cases hv with
  |zp k=>
   obtain⟨c,c1,c2⟩:=nn k e
   exact⟨c,Ji c1,c2⟩
  |zr k g s=>
   rename_i l' id off row
   obtain⟨c,c1,c2⟩:=nn k e
   refine⟨c,?_,c2⟩
   show(match h.aU.get id with|some cs=>qa agg cs off sz|none=>none)=_
   rw[(S.g _ _ g).2.1]
   have:=Ay s pO c1
   exact this
 ·cases e
theorem Jk(sz:Nat)(agg:Bool)(a:Od):eT (DL sz agg a) (fun _ _=>bc sz agg (cf a)):=dC (by
 intro E T t H h v T' H' hT hH e
 unfold DL at e
 split at e
 ·rename_i p hp
  obtain⟨e1,rfl,rfl⟩:=l4 e
  obtain⟨c,hc,fL⟩:=bX hT hp
  obtain⟨r,h1,h2⟩:=vL hH fL e1
  refine⟨rfl,rfl,r,?_,h2⟩
  unfold bc
  rw[hc]
  simp only[h1]
 ·cases e)
theorem yO{E:En}{H:Hq}{h:Hp}(S:SR E H h){r id:Nat}{R R':Row}{ND:Rw}(hr:H.aU.get r=some R)(lv:R.live=true)(Q2:R'.live=true)(gK:jN (E.K r).av=some id)
 (hR:RV E H.next (gY h id (some ND)) (E.K r) R'):SR E (iD H r (some R')) (gY h id (some ND))/\Nx E E H (iD H r (some R')) h (gY h id (some ND)):=by
 have ow: ∀ q,own (iD H r (some R')) q->own H q:=by
  rintro q ⟨Q,a,b⟩
  rw[eW]at a
  split at a
  ·rename_i e;rw[e];exact⟨R,hr,lv⟩
  ·exact⟨Q,a,b⟩
 refine⟨⟨?_,?_,?_,?_⟩,⟨uF.refl _ _,Nat.le_refl _,Nat.le_refl _,fun q id o e=>.inl ⟨q,ow q o,e⟩,fun _ _ e=>.inl e,fun i hi hn=>?_⟩⟩
 ·intro q Q hq
  rw[eW]at hq
  split at hq
  ·rename_i e;subst e;cases hq;exact⟨(S.row _ _ hr).1,hR⟩
  ·rename_i ne
   refine⟨(S.row _ _ hq).1,(S.row _ _ hq).2.mono (uF.refl _ _) (Nat.le_refl _) fun lq i row e1 e2=>?_⟩
   rw[iX,if_neg fun ei=>ne (S.inj q r id ⟨Q,hq,lq⟩ ⟨R,hr,lv⟩ (by rw[e1,ei]) gK)]
   exact e2
 ·exact fun a b i oa ob ea eb=>S.inj a b i (ow a oa) (ow b ob) ea eb
 ·exact fun a i oa ea=>S.lt a i (ow a oa) ea
 ·intro i row e
  obtain⟨a,b,c⟩:=S.g i row e
  refine⟨a,?_,fun q oq=>c q (ow q oq)⟩
  rw[iX,if_neg fun ei=>c r ⟨R,hr,lv⟩ (by rw[ei];exact gK)]
  exact b
 ·rw[iX,if_neg fun ei=>hn r ⟨R,hr,lv⟩ (by rw[ei];exact gK)]
theorem uG(L B v:List AV)(o:Nat)(h:o+v.length<=L.length): ∀ (A:List AV),put (A++(L++B)) (A.length+o) v=A++(put L o v++B)
 | []=>by
  simp only[List.nil_append,List.length_nil,Nat.zero_add]
  rw[put_eq,put_eq,List.take_append_of_le_length (by omega),List.drop_append_of_le_length h]
  simp
 |a::A=>by
  have:=uG L B v o h A
  rw[put_eq]at this ⊢
  rw[List.length_cons,show A.length+1+o=A.length+o+1 by omega,List.cons_append,List.take_succ_cons,show A.length+o+1+v.length=A.length+o+v.length+1 by omega,List.drop_succ_cons,List.cons_append,this]
  rfl
theorem uH(l:List AV)(o:Nat)(v:List AV)(h:o+v.length<=l.length):(put l o v).length=l.length:=by
 rw[put_eq,List.length_append,List.length_append,List.length_take,List.length_drop];omega
theorem F4{G:Nat->Option Rw}{t:Ty}{x:List (den t)}{ls:List AV}(e:jH (EV G t) x ls){i:Nat}(hi:i<x.length):ls=ls.take (i*size t)++((ls.drop (i*size t)).take (size t)++ls.drop (i*size t+size t)):=by
 rw[<-List.drop_drop,List.take_append_drop,List.take_append_drop]
theorem NF{G:Nat->Option Rw}{t:Ty}{x:List (den t)}{ls:List AV}(e:jH (EV G t) x ls){i:Nat}(hi:i<x.length){y:den t}{c:List AV}(hy:EV G t y c):jH (EV G t) (x.set i y) (ls.take (i*size t)++(c++ls.drop (i*size t+size t))):=by
 rw[List.set_eq_take_append_cons_drop,if_pos hi]
 have h1:=e.take (EV.length t) i
 have h2:=e.drop (EV.length t) (i+1)
 rw[Nat.succ_mul]at h2
 exact h1.app ⟨c,_,rfl,hy,h2⟩
theorem F5(sz:Nat)(a b:Od):eT (Cw sz a b) (fun _ _=>aA sz (cf a) (cf b)):=by
 intro E T t H h v T' H' hT hH e
 unfold Cw at e
 split at e
 ·rename_i w hw
  cases hb:(Nat.beq (len w.cells) sz&&fB Ao w.cells)with
  |false=>rw[hb]at e;cases e
  |true=>
   rw[hb]at e
   simp only[cond_true]at e
   rw[Bool.and_eq_true]at hb
   obtain⟨d,hd,LH⟩:=bX hT hw
   have gu:=LH.cells
   have hlen:d.cells.length=w.cells.length:=gu.length.symm
   have pO:w.cells.length=sz:=by have:=beq_true hb.1;rwa [cF]at this
   have CG:fB dU d.cells=true:=by
    rw[hI,List.all_eq_true]
    refine gu.BU fun q hq=>?_
    have:=hb.2;rw[hI,List.all_eq_true]at this;exact this q hq
   have qe: ∀ {id off:Nat} {row:Rw},cf a t=some (.ref id off)->h.aU.get id=some row->off+sz<=row.n->aA sz (cf a) (cf b) t h=.ok gk (gY h id (some (row.put off d.cells))):=by
    intro id off row h1 h2 h3
    unfold aA
    rw[h1,hd]
    simp only[h2]
    have q:(Nat.beq (len d.cells) sz&&(Nat.ble (Nat.add off (len d.cells)) row.n&&fB dU d.cells))=true:=by
     rw[cF,hlen,pO,CG,Nat.beq_refl,Bool.and_true,Bool.true_and]
     rw[Nat.ble_eq];exact h3
    rw[q];rfl
   split at e
   ·rename_i r o ha
    obtain⟨p,hp,kK⟩:=bX hT ha
    split at e
    ·rename_i l hr
     cases hq:Nat.ble (Nat.add o (len w.cells)) (len l)with
     |false=>rw[hq]at e;cases e
     |true=>
      rw[hq]at e
      obtain⟨rfl,rfl,rfl⟩:=bA e
      have hq:=Nat.le_of_ble_eq_true hq
      rw[cF,cF]at hq
      obtain⟨id,row,k1,k2,k3,k4⟩:=(hH.row _ _ hr).2
      cases kK with
      |rf h1 h2=>
       rw[k1]at h2;cases h2
       have hn:o+sz<=row.n:=by rw[<-eM,<-k3.length,<-pO];exact hq
       have hR:RV E H.next (gY h id (some (row.put o d.cells))) (E.K r) (.o _ (Ap l o w.cells)):=
        ⟨id,row.put o d.cells,k1,by rw[iX,if_pos rfl],by rw[pL (by rw[hlen,pO];exact hn)];exact k3.put gu o,k4⟩
       obtain⟨S,X⟩:=yO hH hr rfl rfl (by rw[k1];rfl) hR
       exact⟨_,_,E,Ev.const (qe hp k2 hn),X,S,.tu .nil,hT⟩
    ·cases e
   ·rename_i r s i o ha
    obtain⟨p,hp,kK⟩:=bX hT ha
    split at e
    ·rename_i ty x hr
     cases hq:(Nat.beq s (size ty)&&Nat.ble (Nat.add o (len w.cells)) s)with
     |false=>rw[hq]at e;cases e
     |true=>
      rw[hq]at e
      simp only[cond_true]at e
      rw[Bool.and_eq_true]at hq
      have hs:s=size ty:=beq_true hq.1
      have hos:=Nat.le_of_ble_eq_true hq.2
      rw[cF]at hos
      split at e
      ·rename_i y H1 hy
       split at e
       ·rename_i t2 x2 Wh
        obtain⟨rfl,rfl,rfl⟩:=bA e
        cases kK with
        |re h1 h2 h3=>
         rename_i id base n
         have q:=(hH.row _ _ hr).2
         rcases q.2 with⟨k,_⟩|⟨sE,Jc,row,ls,k1,k2,k3,k4⟩
         ·rw[h2]at k;cases k
         ·rw[h2]at k1
          injection k1 with a1 a2 a3 a4
          subst a1;subst a2
          rw[<-q.1]at a3 k3
          rw[a3]at h3
          obtain⟨_,e2,e3⟩:=rI (N:=H.next) h3 k3 k4
          obtain⟨E1,c,dd,F,XJ,hey,afi⟩:=qG ty E H h _ [] _ y H1 hH (e2.put gu o) hy
          have hdd:dd=[]:=by cases afi;rfl
          rw[hdd,List.append_nil]at XJ
          have Wi:H1.aU.get r=some (.l t2 x2):=Wh
          have q2:=(F.S.row _ _ Wi).2
          have hKr:(E1.K r).av=.dV id base n s:=by rw[F.K];exact h2
          have hL:((ls.drop (i*size ty)).take (size ty)).length=size ty:=(rI (N:=H.next) h3 k3 k4).1 |> EV.length ty _ _
          have akL:ls.length=x.length*size ty:=k4.length (EV.length ty)
          have hle:i*size ty+size ty<=x.length*size ty:=by
           have:=Nat.mul_le_mul_right (size ty) (Nat.succ_le_of_lt h3)
           rw[Nat.succ_mul]at this;exact this
          obtain⟨s1,s2⟩:=ek.1 k3
          have hn:base+i*s+o+sz<=row.n:=by rw[hs];rw[pO,hs]at hos;have e0:o+sz<=size ty:=hos;omega
          have afj:(row.put (base+i*s+o) d.cells).jd base (x.length*size ty)=some (ls.take (i*size ty)++(c++ls.drop (i*size ty+size ty))):=by
           have Tn:base+i*s+o+d.cells.length<=row.n:=by rw[hlen,pO];exact hn
           refine ek.2 ⟨by show base+_<=row.n;exact s1,?_⟩
           rw[pL Tn,<-XJ]
           have oD:row.toL=row.toL.take base++(ls++row.toL.drop (base+x.length*size ty)):=by
            rw[s2,<-List.drop_drop,List.take_append_drop,List.take_append_drop]
           have B3:(row.toL.take base).length=base:=by rw[List.length_take,eM];omega
           have To:=F4 k4 h3
           have hA:(ls.take (i*size ty)).length=i*size ty:=by rw[List.length_take];omega
           have hod:o+d.cells.length<=size ty:=by rw[hlen,<-hs];exact hos
           have e1:put row.toL (base+i*s+o) d.cells=row.toL.take base++(put ls (i*size ty+o) d.cells++row.toL.drop (base+x.length*size ty)):=by
            have:=uG ls (row.toL.drop (base+x.length*size ty)) d.cells (i*size ty+o) (by omega) (row.toL.take base)
            rw[<-oD,B3]at this
            rw[hs,Nat.add_assoc];exact this
           have e2:put ls (i*size ty+o) d.cells=ls.take (i*size ty)++(put ((ls.drop (i*size ty)).take (size ty)) o d.cells++ls.drop (i*size ty+size ty)):=by
            have:=uG ((ls.drop (i*size ty)).take (size ty)) (ls.drop (i*size ty+size ty)) d.cells o (by rw[hL];exact hod) (ls.take (i*size ty))
            rw[<-To,hA]at this
            exact this
           rw[e1,List.drop_append_of_le_length (by rw[B3];exact Nat.le_refl _)]
           rw[show List.drop base (row.toL.take base)=[]from by rw[List.drop_eq_nil_iff,B3];exact Nat.le_refl _,List.nil_append]
           rw[List.take_append_of_le_length (by rw[uH _ _ _ (by omega)];omega)]
           rw[show List.take (x.length*size ty) (put ls (i*size ty+o) d.cells)=put ls (i*size ty+o) d.cells from by rw[List.take_of_length_le];rw[uH _ _ _ (by omega)];omega]
           exact e2.symm
          have hR:RV E1 H1.next (gY h id (some (row.put (base+i*s+o) d.cells))) (E1.K r) (.l ty (x.set i y)):=by
           refine⟨by rw[List.length_set,F.K];exact q.1,.inr ⟨id,base,row.put (base+i*s+o) d.cells,_,?_,by rw[iX,if_pos rfl],?_,NF (k4.mono (EV.mono F.g ty)) h3 hey⟩⟩
           ·rw[hKr,F.K,<-q.1,hs,a3]
           ·rw[F.K,<-q.1];exact afj
          obtain⟨S,X⟩:=yO F.S Wi rfl rfl (by rw[hKr];rfl) hR
          exact⟨_,_,E1,Ev.const (qe hp k2 hn),F.X.trans X,S,.tu .nil,hT.mono (F.X.trans X).e (F.X.trans X).le⟩
       ·cases e
      ·cases e
    ·cases e
   ·cases e
 ·cases e
end Lf
end Go.Ab
