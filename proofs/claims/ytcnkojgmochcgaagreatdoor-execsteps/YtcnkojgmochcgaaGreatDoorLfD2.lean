import Derived.Test.YtcnkojgmochcgaaGreatDoorLfA
noncomputable section
namespace Go.Ab
namespace Lf
theorem fH{H:Hq}{R:Row}{i:Nat}:(cP H R).aQ.get i=if i=H.next then some R else H.aQ.get i:=Tr.fA _ _ _ _
theorem dx{H:Hq}{r i:Nat}{R:Option Row}:(eV H r R).aQ.get i=if i=r then R else H.aQ.get i:=Tr.fA _ _ _ _
theorem dS{h:Hp}{cs:Rw}{i:Nat}:(cy h cs).aQ.get i=if i=h.next then some cs else h.aQ.get i:=Tr.fA _ _ _ _
theorem fp{h:Hp}{r i:Nat}{cs:Option Rw}:(fg h r cs).aQ.get i=if i=r then cs else h.aQ.get i:=Tr.fA _ _ _ _
theorem LR.mono{G G':Nat->Option Rw}{S S':Nat->Option Rw}(hg:I4 G G'){t:Ty}{x:List (den t)}{k:Kr}(hs: ∀ id row,gB k.av=some id->S id=some row->S' id=some row)(h:LR G t x k S):LR G' t x k S':=by
 refine⟨h.1,?_⟩
 rcases h.2 with h2|⟨id,base,row,ls,e,s,g,l⟩
 ·exact .inl h2
 ·exact .inr ⟨id,base,row,ls,e,hs _ _ (by rw[e];rfl) s,g,l.mono (EV.mono hg t)⟩
theorem RV.mono{E E':En}{N N':Nat}{h h':Hp}{k:Kr}{R:Row}(e:pQ E E' N)(hN:N<=N')(hs:R.live=true-> ∀ id row,gB k.av=some id->h.aQ.get id=some row->h'.aQ.get id=some row)(r:RV E N h k R):RV E' N' h' k R:=by
 cases R with
 |o g l=>obtain⟨id,row,a,b,c,d⟩:=r;exact⟨id,row,a,hs rfl _ _ (by rw[a];rfl) b,c.mono e hN,by rw[e.A];exact d⟩
 |zo l=>obtain⟨id,row,a,b,c⟩:=r;exact⟨id,row,a,e.G _ _ b,c.mono e hN⟩
 |l t x=>exact LR.mono e.G (hs rfl) r
 |z t x=>exact LR.mono e.G (fun id row _ k=>e.G _ _ k) r
def En.row(E:En)(r:Nat)(k:Kr):En:=⟨fun i=>if i=r then k else E.K i,E.tk,E.G,E.A⟩
theorem En.kr(E:En)(r:Nat)(k:Kr):pQ E (E.row r k) r:=⟨fun i hi=>if_neg (by omega),fun _ _=>rfl,fun _ _ e=>e,rfl⟩
theorem fI{E:En}{H:Hq}{h:Hp}(S:SR E H h){H1:Hq}(N4:H1.next=H.next)(N5: ∀ r R,H1.aQ.get r=some R->H.aQ.get r=some R){k:Kr}{R:Row}{h':Hp}(hn:h.next<=h'.next)
 (ep: ∀ id,id<h.next->(∀ r,own H r-> ¬ own H1 r->gB (E.K r).av≠some id)->h'.aQ.get id=h.aQ.get id)
 (eO: ∀ id,gB k.av=some id->id<h'.next/\(h.next<=id∨ ∃ r,own H r/\ ¬ own H1 r/\gB (E.K r).av=some id))
 (hR:RV E H.next h' k R)(live:R.live=true):SR (E.row H.next k) (cP H1 R) h'/\Nx E (E.row H.next k) H (cP H1 R) h h':=by
 have hle:=En.kr E H.next k
 have EF: ∀ r,own H1 r->own H r:=fun r ⟨R,a,b⟩=>⟨R,N5 _ _ a,b⟩
 have jq: ∀ r,own (cP H1 R) r->r=H.next∨(r<H.next/\own H1 r):=by
  rintro r ⟨R',a,b⟩
  rw[fH,N4]at a
  split at a
  ·exact .inl ‹_›
  ·exact .inr ⟨(S.row _ _ (N5 _ _ a)).1,R',a,b⟩
 have qc: ∀ r,own H1 r-> ∀ id,gB (E.K r).av=some id->h'.aQ.get id=h.aQ.get id:=by
  intro r o id e
  refine ep id (S.lt r id (EF r o) e) fun r' o' n' e'=>?_
  exact n' (by rw[S.inj r' r id o' (EF r o) e' e];exact o)
 have RS: ∀ id row,E.G id=some row->h'.aQ.get id=some row:=by
  intro id row e
  obtain⟨a,b,c⟩:=S.g id row e
  rw[ep id a fun r o _=>c r o,b]
 have K0:(E.row H.next k).K H.next=k:=if_pos rfl
 have K1: ∀ r,r<H.next->(E.row H.next k).K r=E.K r:=fun r hr=>if_neg (by omega)
 refine⟨⟨?_,?_,?_,?_⟩,⟨hle,?_,hn,?_,?_,?_⟩⟩
 ·intro r R' hr
  rw[fH,N4]at hr
  split at hr
  ·rename_i e
   cases hr
   subst e
   rw[K0]
   exact⟨by show _<Nat.add H1.next 1;rw[N4];exact Nat.lt_succ_self _,RV.mono hle (by show _<=Nat.add H1.next 1;rw[N4];exact Nat.le_succ _) (fun _ _ _ _ e=>e) hR⟩
  ·have h0:=S.row _ _ (N5 _ _ hr)
   refine⟨by show _<Nat.add H1.next 1;rw[N4];exact Nat.lt_succ_of_lt h0.1,?_⟩
   rw[K1 _ h0.1]
   exact RV.mono hle (by show _<=Nat.add H1.next 1;rw[N4];exact Nat.le_succ _) (fun lv id row e1 e2=>by rw[qc r ⟨R',hr,lv⟩ id e1];exact e2) h0.2
 ·intro r r' id o o' e e'
  rcases jq r o with a|⟨a1,a2⟩<;>rcases jq r' o' with b|⟨b1,b2⟩
  ·rw[a,b]
  ·subst a
   rw[K0]at e;rw[K1 _ b1]at e'
   rcases(eO id e).2 with c|⟨q,q1,q2,q3⟩
   ·have:=S.lt _ _ (EF _ b2) e';omega
   ·exact(q2 (by rw[S.inj q r' id q1 (EF _ b2) q3 e'];exact b2)).elim
  ·subst b
   rw[K0]at e';rw[K1 _ a1]at e
   rcases(eO id e').2 with c|⟨q,q1,q2,q3⟩
   ·have:=S.lt _ _ (EF _ a2) e;omega
   ·exact(q2 (by rw[S.inj q r id q1 (EF _ a2) q3 e];exact a2)).elim
  ·rw[K1 _ a1]at e;rw[K1 _ b1]at e'
   exact S.inj r r' id (EF _ a2) (EF _ b2) e e'
 ·intro r id o e
  rcases jq r o with a|⟨a1,a2⟩
  ·subst a;rw[K0]at e;exact(eO id e).1
  ·rw[K1 _ a1]at e;exact Nat.lt_of_lt_of_le (S.lt _ _ (EF _ a2) e) hn
 ·intro id row e
  obtain⟨a,b,c⟩:=S.g id row e
  refine⟨Nat.lt_of_lt_of_le a hn,RS id row e,fun r o e2=>?_⟩
  rcases jq r o with q|⟨q1,q2⟩
  ·subst q;rw[K0]at e2
   rcases(eO id e2).2 with w|⟨w,w1,w2,w3⟩
   ·omega
   ·exact c _ w1 w3
  ·rw[K1 _ q1]at e2;exact c r (EF _ q2) e2
 ·show H.next<=Nat.add H1.next 1;rw[N4];exact Nat.le_succ _
 ·intro r id o e
  rcases jq r o with a|⟨a1,a2⟩
  ·subst a;rw[K0]at e
   rcases(eO id e).2 with w|⟨w,w1,w2,w3⟩
   ·exact .inr w
   ·exact .inl ⟨w,w1,w3⟩
  ·rw[K1 _ a1]at e;exact .inl ⟨r,EF _ a2,e⟩
 ·exact fun id row e=>.inl e
 ·exact fun id hi hn=>ep id hi fun r o _=>hn r o
theorem zX{E:En}{H:Hq}{h:Hp}(S:SR E H h){k:Kr}{R:Row}{rw:Rw}(hk:gB k.av=some h.next∨gB k.av=none)
 (hR:RV E H.next (cy h rw) k R)(live:R.live=true):SR (E.row H.next k) (cP H R) (cy h rw)/\Nx E (E.row H.next k) H (cP H R) h (cy h rw):=by
 refine fI S rfl (fun _ _ e=>e) (Nat.le_succ _) (fun id hi _=>?_) (fun id e=>?_) hR live
 ·rw[dS,if_neg (by omega)]
 ·rcases hk with hk|hk
  ·rw[hk]at e;cases e;exact⟨Nat.lt_succ_self _,.inl (Nat.le_refl _)⟩
  ·rw[hk]at e;cases e
theorem EG{E:En}{H:Hq}{h:Hp}(S:SR E H h){l:List Sv}{rw:Rw}(hv:Vs E H.next l rw.toL):
 SR (E.row H.next ⟨.ref h.next 0,0⟩) (cP H (.o 0 l)) (cy h rw)/\Nx E (E.row H.next ⟨.ref h.next 0,0⟩) H (cP H (.o 0 l)) h (cy h rw):=
 zX S (.inl rfl) ⟨h.next,rw,rfl,by rw[dS,if_pos rfl],hv,fun h=>(h rfl).elim⟩ rfl
theorem LJ{E:En}{H:Hq}{h:Hp}(S:SR E H h){t:Ty}{x:List (den t)}{rw:Rw}(hv:fT (EV E.G t) x rw.toL):
 SR (E.row H.next ⟨.dj h.next 0 x.length (size t),x.length⟩) (cP H (.l t x)) (cy h rw)/\Nx E (E.row H.next ⟨.dj h.next 0 x.length (size t),x.length⟩) H (cP H (.l t x)) h (cy h rw):=by
 have hl:=hv.length (EV.length t)
 refine zX S (.inl rfl) ⟨rfl,.inr ⟨h.next,0,rw,rw.toL,rfl,by rw[dS,if_pos rfl],?_,hv⟩⟩ rfl
 refine dn.2 ⟨by rw[<-dm,hl,Nat.zero_add];exact Nat.le_refl _,?_⟩
 show _=List.take (x.length*size t) _
 rw[<-hl,List.drop_zero,List.take_length]
theorem TV.put{E:En}{N:Nat}{T:Tq}{t:Tm}(h:TV E N T t){i:Nat}{v:Sv}{a:AV}(hi:i<512)(hv:V E N v a):TV E N (T.put i (some v)) (t.put i (some a)):=by
 intro j w hj hw
 rw[Tq.fh _ _ _ _ hi hj]at hw
 rw[Tm.fh _ _ _ _ hi hj]
 split at hw
 ·rename_i e;cases hw;exact⟨a,if_pos e,hv⟩
 ·rename_i e;rw[if_neg e];exact h j w hj hw
theorem I7(cs:List AV):du (NR cs) (fun _ _=>cf cs):=by
 intro E T t H h v T' H' hT hH e
 unfold NR at e
 split at e
 ·rename_i l hl
  obtain⟨rfl,rfl,rfl⟩:=bc e
  obtain⟨S,X⟩:=EG hH (l:=l) (rw:=pz cs) (by rw[eK];exact nh hl)
  exact⟨_,_,_,Ev.const rfl,X,S,.rf (Nat.lt_succ_self _) (by show(if H.next=H.next then _ else _:Kr).av=_;rw[if_pos rfl]),hT.mono X.e X.le⟩
 ·cases e
theorem I8(x:Od):du (NS x) (fun _ _=>cp (bC x)):=by
 intro E T t H h v T' H' hT hH e
 unfold NS at e
 split at e
 ·rename_i w hw
  obtain⟨rfl,rfl,rfl⟩:=bc e
  obtain⟨c,hc,dV⟩:=bw hT hw
  obtain⟨S,X⟩:=EG hH (l:=w.cells) (rw:=pz c.cells) (by rw[eK];exact dV.cells)
  refine⟨_,_,_,Ev.const ?_,X,S,.rf (Nat.lt_succ_self _) (by show(if H.next=H.next then _ else _:Kr).av=_;rw[if_pos rfl]),hT.mono X.e X.le⟩
  unfold cp
  rw[hc]
 ·cases e
theorem I9(l:List Sv)(off:Nat)(new:List Sv):wa l off new=l.take off++(new++l.drop (off+new.length)):=by
 unfold wa;rw[bO,bO,ki,fB,bJ];rfl
theorem Vs.put{E:En}{N:Nat}{l:List Sv}{l':List AV}{m:List Sv}{m':List AV}(h:Vs E N l l')(k:Vs E N m m')(off:Nat):Vs E N (wa l off m) (put l' off m'):=by
 rw[I9,put_eq,k.length]
 exact(h.take off).app (k.app (h.drop _))
theorem lE{E:En}{N:Nat}: ∀ {ps:List (Nat×Nat×Sv)} {qs:List (Nat×Nat×AV)} {z r:List Sv} {z':List AV},ps.length=qs.length->(∀ (i:Nat) (p:Nat×Nat×Sv),ps[i]? =some p-> ∃ q:Nat×Nat×AV,qs[i]? =some q/\q.1=p.1/\q.2.1=p.2.1/\V E N p.2.2 q.2.2)->Vs E N z z'->
 uc ps z=some r-> ∃ r',p8 qs z'=some r'/\Vs E N r r'
 | [],[],z,r,z',_,_,hz,e=>by cases e;exact⟨z',rfl,hz⟩
 | [],_::_,_,_,_,h,_,_,_=>by cases h
 | _::_,[],_,_,_,h,_,_,_=>by cases h
 |p::ps,q::qs,z,r,z',hl,hq,hz,e=>by
  obtain⟨q',N6,h1,h2,hv⟩:=hq 0 p rfl
  cases N6
  change (bif Nat.beq (len p.2.2.cells) p.2.1&&Nat.ble (Nat.add p.1 p.2.1) (len z)then uc ps (wa z p.1 p.2.2.cells)else none)=some r at e
  obtain⟨hb,e⟩:=bg e
  obtain⟨r',hr,DJ⟩:=lE (ps:=ps) (qs:=qs) (by simpa using hl) (fun i p hp=>hq (i+1) p hp) (hz.put hv.cells p.1) e
  refine⟨r',?_,DJ⟩
  show(bif Nat.beq (len q.2.2.cells) q.2.1&&Nat.ble (Nat.add q.1 q.2.1) (len z')then p8 qs (put z' q.1 q.2.2.cells)else none)=some r'
  rw[bJ,<-hv.cells.length,h1,h2,bJ,<-hz.length,<-bJ,<-bJ,hb,cond_true,hr]
theorem sJ{E:En}{N:Nat}{T:Tq}{t:Tm}(hT:TV E N T t): ∀ {ps:List (Nat×Nat×Od)} {vs:List (Nat×Nat×Sv)},ud ps T=some vs->
 ∃ qs,iX (ps.map fun p=>(p.1,p.2.1,bC p.2.2)) t=some qs/\vs.length=qs.length/\ ∀ (i:Nat) (p:Nat×Nat×Sv),vs[i]? =some p-> ∃ q:Nat×Nat×AV,qs[i]? =some q/\q.1=p.1/\q.2.1=p.2.1/\V E N p.2.2 q.2.2
 | [],vs,e=>by cases e;exact⟨[],rfl,rfl,fun i p h=>by simp at h⟩
 |p::ps,vs,e=>by
  change (match fM p.2.2 T with|some v=>(match ud ps T with|some vs=>some ((p.1,p.2.1,v)::vs)|none=>none)|none=>none)=some vs at e
  split at e
  ·rename_i v hv
   split at e
   ·rename_i us hu
    cases e
    obtain⟨c,hc,dV⟩:=bw hT hv
    obtain⟨qs,h1,h2,h3⟩:=sJ hT hu
    refine⟨(p.1,p.2.1,c)::qs,?_,by simp[h2],fun i x hx=>?_⟩
    ·show(match bC p.2.2 t with|some v=>(match iX (ps.map fun(p:Nat×Nat×Od)=>(p.1,p.2.1,bC p.2.2)) t with|some vs=>some ((p.1,p.2.1,v)::vs)|none=>none)|none=>none)=_
     rw[hc,h1]
    ·cases i with
     |zero=>simp at hx;subst hx;exact⟨_,rfl,rfl,rfl,dV⟩
     |succ i=>simpa using h3 i x (by simpa using hx)
   ·cases e
  ·cases e
theorem sK{E:En}{N:Nat}{T:Tq}{t:Tm}(hT:TV E N T t): ∀ {ps:List (Nat×Od)} {vs:List (Nat×Sv)},ue ps T=some vs->
 ∃ qs,iW (ps.map fun p=>(p.1,bC p.2)) t=some qs/\vs.length=qs.length/\ ∀ (i:Nat) (p:Nat×Sv),vs[i]? =some p-> ∃ q:Nat×AV,qs[i]? =some q/\q.1=p.1/\V E N p.2 q.2
 | [],vs,e=>by cases e;exact⟨[],rfl,rfl,fun i p h=>by simp at h⟩
 |p::ps,vs,e=>by
  change (match fM p.2 T with|some v=>(match ue ps T with|some vs=>some ((p.1,v)::vs)|none=>none)|none=>none)=some vs at e
  split at e
  ·rename_i v hv
   split at e
   ·rename_i us hu
    cases e
    obtain⟨c,hc,dV⟩:=bw hT hv
    obtain⟨qs,h1,h2,h3⟩:=sK hT hu
    refine⟨(p.1,c)::qs,?_,by simp[h2],fun i x hx=>?_⟩
    ·show(match bC p.2 t with|some v=>(match iW (ps.map fun(p:Nat×Od)=>(p.1,bC p.2)) t with|some vs=>some ((p.1,v)::vs)|none=>none)|none=>none)=_
     rw[hc,h1]
    ·cases i with
     |zero=>simp at hx;subst hx;exact⟨_,rfl,rfl,dV⟩
     |succ i=>simpa using h3 i x (by simpa using hx)
   ·cases e
  ·cases e
theorem B2(z:List AV)(ps:List (Nat×Nat×Od)):du (yk z ps) (fun _ _=>ao z (ps.map fun p=>(p.1,p.2.1,bC p.2.2))):=cr (by
 intro E T t H h v T' H' hT hH e
 unfold yk at e
 split at e
 ·rename_i zs hz
  split at e
  ·rename_i vs hv
   split at e
   ·rename_i cs hc
    obtain⟨rfl,rfl,rfl⟩:=bc e
    obtain⟨qs,h1,h2,h3⟩:=sJ hT hv
    obtain⟨r',hr,DJ⟩:=lE h2 h3 (nh hz) hc
    refine⟨rfl,rfl,.agg r',?_,.ag DJ⟩
    unfold ao
    rw[h1]
    simp only[hr]
   ·cases e
  ·cases e
 ·cases e)
theorem sL{E:En}{N size:Nat}: ∀ {ps:List (Nat×Sv)} {qs:List (Nat×AV)} {k:Nat} {r:List Sv},ps.length=qs.length->(∀ (i:Nat) (p:Nat×Sv),ps[i]? =some p-> ∃ q:Nat×AV,qs[i]? =some q/\q.1=p.1/\V E N p.2 q.2)->
 qO size ps k=some r-> ∃ r',mB size qs k=some r'/\Vs E N r r'
 | [],[],_,_,_,_,e=>by cases e;exact⟨[],rfl,.nil⟩
 | [],_::_,_,_,h,_,_=>by cases h
 | _::_,[],_,_,h,_,_=>by cases h
 |p::ps,q::qs,k,r,hl,hq,e=>by
  obtain⟨q',N6,h1,hv⟩:=hq 0 p rfl
  cases N6
  change (bif Nat.beq p.1 k&&Nat.beq (len p.2.cells) size then(match qO size ps (Nat.add k 1)with|some r=>some (app p.2.cells r)|none=>none)else none)=some r at e
  obtain⟨hb,e⟩:=bg e
  split at e
  ·rename_i s hs
   cases e
   obtain⟨r',hr,DJ⟩:=sL (ps:=ps) (qs:=qs) (by simpa using hl) (fun i p hp=>hq (i+1) p hp) hs
   refine⟨q.2.cells++r',?_,?_⟩
   ·show(bif Nat.beq q.1 k&&Nat.beq (len q.2.cells) size then(match mB size qs (Nat.add k 1)with|some r=>some (app q.2.cells r)|none=>none)else none)=_
    rw[bJ,<-hv.cells.length,h1,<-bJ,hb,cond_true,hr];simp only[bO]
   ·rw[bO];exact hv.cells.app DJ
  ·cases e
theorem ur{E:En}{N:Nat}{z:List Sv}{z':List AV}(h:Vs E N z z'): ∀ n,Vs E N (NO n z) (dO n z')
 |0=>.nil
 |n+1=>by
  show Vs E N (app z (NO n z)) (app z' (dO n z'))
  rw[bO,bO];exact h.app (ur h n)
theorem qW{E:En}{N size:Nat}: ∀ {ps:List (Nat×Sv)} {qs:List (Nat×AV)},ps.length=qs.length->(∀ (i:Nat) (p:Nat×Sv),ps[i]? =some p-> ∃ q:Nat×AV,qs[i]? =some q/\q.1=p.1/\V E N p.2 q.2)->
 (uf size ps).length=(scale size qs).length/\ ∀ (i:Nat) (p:Nat×Nat×Sv),(uf size ps)[i]? =some p-> ∃ q:Nat×Nat×AV,(scale size qs)[i]? =some q/\q.1=p.1/\q.2.1=p.2.1/\V E N p.2.2 q.2.2
 | [],[],_,_=>⟨rfl,fun i p h=>by simp[uf]at h⟩
 | [],_::_,h,_=>by cases h
 | _::_,[],h,_=>by cases h
 |p::ps,q::qs,hl,hq=>by
  obtain⟨q',N6,h1,hv⟩:=hq 0 p rfl
  cases N6
  obtain⟨a,b⟩:=qW (ps:=ps) (qs:=qs) (by simpa using hl) (fun i p hp=>hq (i+1) p hp)
  refine⟨by show _+1=_+1;exact congrArg _ a,fun i x hx=>?_⟩
  cases i with
  |zero=>
   change some (Nat.mul p.1 size,size,p.2)=some x at hx
   cases hx
   exact⟨(Nat.mul q.1 size,size,q.2),rfl,by show Nat.mul q.1 size=Nat.mul p.1 size;rw[h1],rfl,hv⟩
  |succ i=>exact b i x hx
theorem I'(n sz:Nat)(z:List AV)(ps:List (Nat×Od)):du (NT n sz z ps) (fun _ _=>bp n sz z (ps.map fun p=>(p.1,bC p.2))):=by
 intro E T t H h v T' H' hT hH e
 unfold NT at e
 split at e
 ·rename_i vs hv
  obtain⟨qs,h1,h2,h3⟩:=sK hT hv
  cases hn:Nat.beq n 0 with
  |true=>
   rw[hn]at e
   simp only[cond_true]at e
   split at e
   ·obtain⟨rfl,rfl,rfl⟩:=bc e
    refine⟨_,_,E,Ev.const ?_,Nx.refl _ _ _,hH,.a (v:=.jm) rfl,hT⟩
    unfold bp
    rw[h1]
    simp only[hn,cond_true]
    have:qs=[]:=by cases qs with
     |nil=>rfl
     |cons _ _=>cases h2
    rw[this]
   ·cases e
  |false=>
   rw[hn]at e
   simp only[cond_false]at e
   split at e
   ·rename_i zs hz
    split at e
    ·rename_i cs hc
     cases hb:(dJ vZ cs&&(Nat.blt 0 sz&&Nat.beq (len cs) (Nat.mul n sz)))with
     |false=>rw[hb]at e;cases e
     |true=>
      rw[hb]at e
      simp only[cond_true]at e
      obtain⟨rfl,rfl,rfl⟩:=bc e
      have key: ∃ cs',la n sz z qs=some cs'/\Vs E H.next cs cs':=by
       unfold wb at hc
       unfold la
       rw[bJ,<-h2,<-bJ]
       cases hq:Nat.beq (len vs) n with
       |true=>
        rw[hq]at hc
        simp only[cond_true]at hc ⊢
        split at hc
        ·rename_i q Zk
         cases hc
         obtain⟨r',a,b⟩:=sL h2 h3 Zk
         rw[a];exact⟨r',rfl,b⟩
        ·rename_i Zk
         obtain⟨a,b⟩:=qW (size:=sz) h2 h3
         obtain⟨r',c,d⟩:=lE a b (ur (nh hz) n) hc
         cases hf:mB sz qs 0 with
         |none=>exact⟨r',c,d⟩
         |some w=>
          exfalso
          have back: ∀ {ps:List (Nat×Sv)} {qs:List (Nat×AV)} {k:Nat} {w:List AV},ps.length=qs.length->(∀ (i:Nat) (p:Nat×Sv),ps[i]? =some p-> ∃ q:Nat×AV,qs[i]? =some q/\q.1=p.1/\V E H.next p.2 q.2)->mB sz qs k=some w-> ∃ r,qO sz ps k=some r:=by
           intro ps
           induction ps with
           |nil=>intro qs k w _ _ _;exact⟨[],rfl⟩
           |cons p ps ih=>
            intro qs k w hl hq e
            cases qs with
            |nil=>cases hl
            |cons q qs=>
             obtain⟨q',N6,h1,hv⟩:=hq 0 p rfl
             cases N6
             change (bif Nat.beq q.1 k&&Nat.beq (len q.2.cells) sz then(match mB sz qs (Nat.add k 1)with|some r=>some (app q.2.cells r)|none=>none)else none)=some w at e
             obtain⟨hb,e⟩:=bg e
             split at e
             ·rename_i s hs
              obtain⟨r,hr⟩:=ih (by simpa using hl) (fun i p hp=>hq (i+1) p hp) hs
              refine⟨app p.2.cells r,?_⟩
              show(bif Nat.beq p.1 k&&Nat.beq (len p.2.cells) sz then(match qO sz ps (Nat.add k 1)with|some r=>some (app p.2.cells r)|none=>none)else none)=_
              rw[bJ,hv.cells.length,<-h1,<-bJ,hb,cond_true,hr]
             ·cases e
          obtain⟨r,hr⟩:=back h2 h3 hf
          rw[Zk]at hr
          cases hr
       |false=>
        rw[hq]at hc
        simp only[cond_false]at hc ⊢
        obtain⟨a,b⟩:=qW (size:=sz) h2 h3
        exact lE a b (ur (nh hz) n) hc
      obtain⟨cs',k1,k2⟩:=key
      obtain⟨S,X⟩:=EG hH (l:=cs) (rw:=pz cs') (by rw[eK];exact k2)
      refine⟨_,_,_,Ev.const ?_,X,S,.xo (id:=h.next) (Nat.lt_succ_self _) (by show(if H.next=H.next then _ else _:Kr).av=_;rw[if_pos rfl]),hT.mono X.e X.le⟩
      unfold bp
      rw[h1]
      simp only[hn,cond_false,k1]
    ·cases e
   ·cases e
 ·cases e
end Lf
end Go.Ab

noncomputable section
namespace Go.Ab
namespace Lf
theorem iI{H:Hq}{r:Nat}{R:Row}(hl:R.live=false){q:Nat}(o:own (eV H r (some R)) q):q≠r/\own H q:=by
 obtain⟨R',a,b⟩:=o
 rw[dx]at a
 split at a
 ·cases a;rw[hl]at b;cases b
 ·exact⟨‹_›,R',a,b⟩
def En.fz(E:En)(a:AV)(h:Hp):En:=⟨E.K,E.tk,fun id=>if gB a=some id then h.aQ.get id else E.G id,E.A⟩
inductive Ya:Row->Row->Prop
 |l {t x}:Ya (.l t x) (.z t x)
 |o {g l}:Ya (.o g l) (.zo l)
theorem sM{E:En}{H:Hq}{h:Hp}(S:SR E H h){r:Nat}{R R':Row}(hr:H.aQ.get r=some R)(f:Ya R R'):
 SR (E.fz (E.K r).av h) (eV H r (some R')) h/\Nx E (E.fz (E.K r).av h) H (eV H r (some R')) h h:=by
 have lv:R.live=true:=by cases f<;>rfl
 have LK:R'.live=false:=by cases f<;>rfl
 have hg:I4 E.G (E.fz (E.K r).av h).G:=by
  intro id row e
  show(if _ then _ else _)=_
  split
  ·rename_i c;exact((S.g id row e).2.2 r ⟨R,hr,lv⟩ c).elim
  ·exact e
 have le:pQ E (E.fz (E.K r).av h) H.next:=⟨fun _ _=>rfl,fun _ _=>rfl,hg,rfl⟩
 refine⟨⟨?_,?_,?_,?_⟩,⟨le,Nat.le_refl _,Nat.le_refl _,?_,?_,fun _ _ _=>rfl⟩⟩
 ·intro q Q hq
  rw[dx]at hq
  split at hq
  ·rename_i e;subst e;cases hq
   obtain⟨h1,h2⟩:=S.row _ _ hr
   refine⟨h1,?_⟩
   cases f with
   |l=>exact LR.mono hg (fun id row e k=>by have e':gB (E.K q).av=some id:=e;show(if _ then _ else _)=_;rw[if_pos e'];exact k) h2
   |o=>
    obtain⟨id,row,a,b,c,_⟩:=h2
    exact⟨id,row,a,by show(if _ then _ else _)=_;rw[if_pos (by rw[a];rfl)];exact b,c.mono le (Nat.le_refl _)⟩
  ·obtain⟨h1,h2⟩:=S.row _ _ hq
   exact⟨h1,h2.mono le (Nat.le_refl _) (fun _ _ _ _ e=>e)⟩
 ·intro a b id oa ob ea eb
  exact S.inj a b id (iI LK oa).2 (iI LK ob).2 ea eb
 ·intro a id oa ea
  exact S.lt a id (iI LK oa).2 ea
 ·intro id row e
  have e':(if gB (E.K r).av=some id then h.aQ.get id else E.G id)=some row:=e
  split at e'
  ·rename_i c
   refine⟨S.lt r id ⟨R,hr,lv⟩ c,e',fun q oq eq=>?_⟩
   exact(iI LK oq).1 (S.inj q r id (iI LK oq).2 ⟨R,hr,lv⟩ eq c)
  ·obtain⟨a,b,c⟩:=S.g id row e'
   exact⟨a,b,fun q oq=>c q (iI LK oq).2⟩
 ·intro q id oq eq
  exact .inl ⟨q,(iI LK oq).2,eq⟩
 ·intro id row e
  have e':(if gB (E.K r).av=some id then h.aQ.get id else E.G id)=some row:=e
  split at e'
  ·rename_i c;exact .inr (.inl ⟨r,⟨R,hr,lv⟩,c⟩)
  ·exact .inl e'
structure Fz(E E':En)(H H':Hq)(h:Hp):Prop where
 K:E'.K=E.K
 tk:E'.tk=E.tk
 n:H'.next=H.next
 S:SR E' H' h
 X:Nx E E' H H' h h
theorem Fz.refl{E:En}{H:Hq}{h:Hp}(S:SR E H h):Fz E E H H h:=⟨rfl,rfl,rfl,S,Nx.refl _ _ _⟩
theorem Fz.trans{E E1 E2:En}{H H1 H2:Hq}{h:Hp}(a:Fz E E1 H H1 h)(b:Fz E1 E2 H1 H2 h):Fz E E2 H H2 h:=⟨b.K.trans a.K,b.tk.trans a.tk,b.n.trans a.n,b.S,a.X.trans b.X⟩
theorem Fz.g{E E':En}{H H':Hq}{h:Hp}(a:Fz E E' H H' h):I4 E.G E'.G:=a.X.e.G
theorem Fz.v{E E':En}{H H':Hq}{h:Hp}(a:Fz E E' H H' h){v:Sv}{c:AV}(k:V E H.next v c):V E' H'.next v c:=k.mono a.X.e a.X.le
theorem Fz.vs{E E':En}{H H':Hq}{h:Hp}(a:Fz E E' H H' h){v:List Sv}{c:List AV}(k:Vs E H.next v c):Vs E' H'.next v c:=k.mono a.X.e a.X.le
theorem om{E:En}{H:Hq}{h:Hp}(S:SR E H h){r:Nat}{R R':Row}(hr:H.aQ.get r=some R)(f:Ya R R'):Fz E (E.fz (E.K r).av h) H (eV H r (some R')) h:=
 ⟨rfl,rfl,rfl,(sM S hr f).1,(sM S hr f).2⟩
def jP(t:Ty)(f:List Sv->Hq->Option (den t×List Sv×Hq)):Prop:= ∀ (E:En) (H:Hq) (h:Hp) (l r:List Sv) (cs:List AV) (x:den t) (H':Hq),SR E H h->Vs E H.next l cs->f l H=some (x,r,H')->
 ∃ E' c d,Fz E E' H H' h/\cs=c++d/\EV E'.G t x c/\Vs E' H'.next r d
theorem yt{t:Ty}{f:List Sv->Hq->Option (den t×List Sv×Hq)}(hf:jP t f): ∀ (n:Nat) (E:En) (H:Hq) (h:Hp) (l:List Sv) (cs:List AV) (x:List (den t)) (H':Hq),SR E H h->Vs E H.next l cs->Zf t f n l H=some (x,H')->
 ∃ E' c d,Fz E E' H H' h/\cs=c++d/\fT (EV E'.G t) x c/\x.length=n
 |0,E,H,h,l,cs,x,H',S,_,e=>by cases e;exact⟨E,[],cs,Fz.refl S,rfl,rfl,rfl⟩
 |n+1,E,H,h,l,cs,x,H',S,hv,e=>by
  change (match f l H with|some (x,r,h)=>(match Zf t f n r h with|some (xs,h)=>some (x::xs,h)|none=>none)|none=>none)=some (x,H')at e
  split at e
  ·rename_i y r H1 hy
   split at e
   ·rename_i ys H2 x0
    cases e
    obtain⟨E1,c1,d1,F1,rfl,v1,w1⟩:=hf E H h l r cs y H1 S hv hy
    obtain⟨E2,c2,d2,F2,rfl,v2,w2⟩:=yt hf n E1 H1 h r d1 ys H' F1.S w1 x0
    exact⟨E2,c1++c2,d2,F1.trans F2,by simp,⟨c1,c2,rfl,EV.mono F2.g _ _ _ v1,v2⟩,by simp[w2]⟩
   ·cases e
  ·cases e
theorem jf{r:Rw}{base k:Nat}{ls:List AV}(s:r.fN base k=some ls){o n:Nat}(h:o+n<=k):r.fN (base+o) n=some ((ls.drop o).take n):=by
 obtain⟨a,b⟩:=dn.1 s
 refine dn.2 ⟨by omega,?_⟩
 rw[b,List.drop_take,List.take_take,List.drop_drop,Nat.min_eq_left (by omega)]
theorem uu{G:Nat->Option Rw}{t:Ty}{x:List (den t)}{id base n off m:Nat}{row:Rw}{ls:List AV}(hx:x.length=n)(s:row.fN base (n*size t)=some ls)(e:fT (EV G t) x ls)(h:off+m<=n):
 ((x.drop off).take m).length=m/\row.fN (base+off*size t) (m*size t)=some ((ls.drop (off*size t)).take (m*size t))/\fT (EV G t) ((x.drop off).take m) ((ls.drop (off*size t)).take (m*size t)):=by
 refine⟨by rw[List.length_take,List.length_drop];omega,jf s ?_,(e.drop (EV.length t) off).take (EV.length t) m⟩
 rw[<-Nat.add_mul];exact Nat.mul_le_mul_right _ h
theorem wm{E:En}{N:Nat}{t:Ty}{x:List (den t)}{r sz:Nat}{a:AV}{S:Nat->Option Rw}(hv:V E N (.os r sz) a)(l:LR E.G t x (E.K r) S):
 (cD a=true/\x=[])∨ ∃ id base row ls,a=.dj id base x.length (size t)/\(E.K r).av=a/\sz=size t/\S id=some row/\row.fN base (x.length*size t)=some ls/\fT (EV E.G t) x ls:=by
 cases hv with
 |os h1 h2=>
  rcases l.2 with k|⟨id,base,row,ls,k1,k2,k3,k4⟩
  ·exact .inl k
  ·rw[l.1]
   rcases h2 with h2|⟨o6,EH,h2⟩
   ·rw[k1]at h2;cases h2.1
   ·rw[k1]at h2
    injection h2 with _ _ _ a4
    exact .inr ⟨id,base,row,ls,k1,rfl,a4.symm,k2,k3,k4⟩
theorem LL{E:En}{N:Nat}{t:Ty}{x:List (den t)}{r sz off n:Nat}{a:AV}{S:Nat->Option Rw}(hv:V E N (.ss r sz off n) a)(l:LR E.G t x (E.K r) S):
 (cD a=true/\n=0/\x=[]/\off=0/\(E.K r).av=a)∨ ∃ id base row ls,a=.dj id (base+off*size t) n (size t)/\off+n<=x.length/\(E.K r).av=.dj id base x.length (size t)/\sz=size t/\S id=some row/\row.fN base (x.length*size t)=some ls/\fT (EV E.G t) x ls:=by
 cases hv with
 |se h1 h2 h3 h4=>
  refine .inl ⟨h2,rfl,?_,h4,rfl⟩
  have:=l.1;rw[h3]at this
  exact List.eq_nil_of_length_eq_zero this
 |ss h1 h2 h3=>
  rcases l.2 with k|⟨id,base,row,ls,k1,k2,k3,k4⟩
  ·rw[h2]at k;cases k.1
  ·rw[k1]at h2
   injection h2 with a1 a2 _ a4
   subst a1;subst a2;subst a4
   rw[l.1]
   exact .inr ⟨id,base,row,ls,rfl,h3,k1,rfl,k2,k3,k4⟩
theorem nm{E:En}{t:Ty}{x:List (den t)}{a:AV}{id base:Nat}{row:Rw}{ls:List AV}(ha:a=.dj id base x.length (size t))(hg:E.G id=some row)(s:row.fN base (x.length*size t)=some ls)(e:fT (EV E.G t) x ls):zW E.G t (EV E.G t) x a:=
 .inr ⟨ls,e,.inr ⟨id,base,row,ha,hg,s⟩⟩
theorem EI{E:En}{N:Nat}{t:Ty}{x:List (den t)}{r sz:Nat}{a:AV}(hv:V E N (.os r sz) a)(l:LR E.G t x (E.K r) E.G):zW E.G t (EV E.G t) x a:=by
 rcases wm hv l with k|⟨id,base,row,ls,k1,_,_,k2,k3,k4⟩
 ·exact .inl k
 ·exact nm k1 k2 k3 k4
theorem EJ{E:En}{N:Nat}{t:Ty}{x:List (den t)}{r sz off n:Nat}{a:AV}(hv:V E N (.ss r sz off n) a)(l:LR E.G t x (E.K r) E.G):zW E.G t (EV E.G t) ((x.drop off).take n) a:=by
 rcases LL hv l with⟨k1,k2,k3,_⟩|⟨id,base,row,ls,k1,k2,_,_,k3,k4,k5⟩
 ·subst k3;exact .inl ⟨k1,by simp⟩
 ·obtain⟨a1,a2,a3⟩:=uu rfl k4 k5 k2 (id:=0)
  refine nm (id:=id) (base:=base+off*size t) (row:=row) ?_ k3 ?_ a3
  ·rw[a1];exact k1
  ·rw[a1];exact a2
theorem EK{t:Ty}{f:List Sv->Hq->Option (den t×List Sv×Hq)}(hf:jP t f){E:En}{H H':Hq}{h:Hp}{v:Sv}{a:AV}{x:List (den t)}(S:SR E H h)(hv:V E H.next v a)(e:X8 t f v H=some (x,H')):
 ∃ E',Fz E E' H H' h/\zW E'.G t (EV E'.G t) x a:=by
 have xo: ∀ {r sz off n:Nat} {l:List Sv} {E1:En} {H1:Hq} {id:Nat} {row:Rw},Fz E E1 H H1 h->sz=size t->a=.dj id off n sz->E1.G id=some row->Vs E1 H1.next l row.toL->LC t f n off l H1=some (x,H')-> ∃ E',Fz E E' H H' h/\zW E'.G t (EV E'.G t) x a:=by
  intro r sz off n l E1 H1 id row F lM ha hg hl e
  unfold LC at e
  obtain⟨hb,e⟩:=bg e
  have hle:=Nat.le_of_ble_eq_true hb
  rw[bJ]at hle
  rw[fB]at e
  obtain⟨E2,c,d,F2,e1,e2,e3⟩:=yt hf n E1 H1 h _ _ x H' F.S (hl.drop off) e
  refine⟨E2,F.trans F2,?_⟩
  have hc:=e2.length (EV.length t)
  have hlen:=hl.length
  refine nm (id:=id) (base:=off) (row:=row) (ls:=c) (by rw[e3,ha,lM]) (F2.g _ _ hg) ?_ e2
  refine dn.2 ⟨?_,?_⟩
  ·have:=congrArg List.length e1
   rw[List.length_drop,List.length_append,hc]at this
   rw[<-dm];omega
  ·rw[e1,<-hc,List.take_left]
 cases v with
 |a w=>
  obtain⟨hb,e⟩:=bg e
  cases e
  cases hv with
  |a _=>exact⟨E,Fz.refl S,.inl ⟨hb,rfl⟩⟩
 |c m ty y=>
  cases ty with
  |aC t'=>
   change (match nK t' t with|some ⟨e⟩=>some (e▸y,H)|none=>none)=some (x,H')at e
   split at e
   ·rename_i p hp
    cases p
    cases e
    cases hv with
    |c k _=>obtain⟨b,hb,k⟩:=k;cases hb;exact⟨E,Fz.refl S,k⟩
   ·cases e
  | _=>cases e
 |os r s=>
  change (match H.aQ.get r with
   |some (.l t' x)=>(match nK t' t with|some ⟨e⟩=>some (e▸x,eV H r (some (.z t' x)))|none=>none)
   |some (.z t' x)=>(match nK t' t with|some ⟨e⟩=>some (e▸x,H)|none=>none)
   | _=>none)=some (x,H')at e
  split at e
  ·rename_i t' y hr
   split at e
   ·rename_i p hp
    cases p
    cases e
    have F:=om S hr .l
    refine⟨_,F,EI (F.v hv) ?_⟩
    have:=F.S.row r (.z t y) (by rw[dx,if_pos rfl])
    exact this.2
   ·cases e
  ·rename_i t' y hr
   split at e
   ·rename_i p hp
    cases p
    cases e
    exact⟨E,Fz.refl S,EI hv (S.row _ _ hr).2⟩
   ·cases e
  ·cases e
 |ss r s off n=>
  change (match H.aQ.get r with
   |some (.l t' x)=>(match nK t' t with|some ⟨e⟩=>some (((e▸x:List (den t)).drop off).take n,eV H r (some (.z t' x)))|none=>none)
   |some (.z t' x)=>(match nK t' t with|some ⟨e⟩=>some (((e▸x:List (den t)).drop off).take n,H)|none=>none)
   | _=>none)=some (x,H')at e
  split at e
  ·rename_i t' y hr
   split at e
   ·rename_i p hp
    cases p
    cases e
    have F:=om S hr .l
    refine⟨_,F,EJ (F.v hv) ?_⟩
    have:=F.S.row r (.z t y) (by rw[dx,if_pos rfl])
    exact this.2
   ·cases e
  ·rename_i t' y hr
   split at e
   ·rename_i p hp
    cases p
    cases e
    exact⟨E,Fz.refl S,EJ hv (S.row _ _ hr).2⟩
   ·cases e
  ·cases e
 |xo r sz off n=>
  change (bif Nat.beq sz (size t)then(match H.aQ.get r with
   |some (.o _ l)=>LC t f n off l (eV H r (some (.zo l)))
   |some (.zo l)=>LC t f n off l H
   | _=>none)else none)=some (x,H')at e
  obtain⟨hb,e⟩:=bg e
  split at e
  ·rename_i l hr
   have F:=om S hr .o
   have k:=(F.S.row r (.zo l) (by rw[dx,if_pos rfl])).2
   obtain⟨id,row,k1,k2,k3⟩:=k
   cases hv with
   |xo h1 h2=>
    have sN:(E.K r).av=.ref id 0:=k1
    rw[h2]at sN;cases sN
    exact xo (r:=r) F (beq_true hb) rfl k2 k3 e
  ·rename_i l hr
   obtain⟨id,row,k1,k2,k3⟩:=(S.row _ _ hr).2
   cases hv with
   |xo h1 h2=>
    rw[h2]at k1;cases k1
    exact xo (r:=r) (Fz.refl S) (beq_true hb) rfl k2 k3 e
  ·cases e
 | _=>cases e
theorem mf: ∀ (t:Ty),jP t (LD t)
 | .int k=>by
  intro E H h l r cs x H' S hv e
  cases l with
  |nil=>cases e
  |cons v l=>
   change (match toN v with|some (k',n)=>(bif eI k k' then some (n,l,H)else none)|none=>none)=some (x,r,H')at e
   split at e
   ·rename_i k' n hn
    obtain⟨hb,e⟩:=bg e
    cases e
    cases hv with
    |cons a b=>
     have:=eF a hn
     rw[bH.1 hb]
     exact⟨E,[_],_,Fz.refl S,rfl,by rw[this];rfl,b⟩
   ·cases e
 | .bool=>by
  intro E H h l r cs x H' S hv e
  cases l with
  |nil=>cases e
  |cons v l=>
   change (match toB v with|some b=>some (b.v,l,H)|none=>none)=some (x,r,H')at e
   split at e
   ·rename_i b hn
    cases e
    cases hv with
    |cons a c=>
     have:=eE a hn
     exact⟨E,[_],_,Fz.refl S,rfl,by rw[this];rfl,c⟩
   ·cases e
 | .str=>by
  intro E H h l r cs x H' S hv e
  cases l with
  |nil=>cases e
  |cons v l=>
   change (match toS v with|some (_,s)=>some (s,l,H)|none=>none)=some (x,r,H')at e
   split at e
   ·rename_i b s hn
    cases e
    cases hv with
    |cons a c=>
     have:=j8 a hn
     exact⟨E,[_],_,Fz.refl S,rfl,by rw[this];rfl,c⟩
   ·cases e
 | .aC t=>by
  intro E H h l r cs x H' S hv e
  cases l with
  |nil=>cases e
  |cons v l=>
   change (match X8 t (LD t) v H with|some (x,h)=>some (x,l,h)|none=>none)=some (x,r,H')at e
   split at e
   ·rename_i y H1 hy
    cases e
    cases hv with
    |cons a c=>
     obtain⟨E',F,k⟩:=EK (mf t) S a hy
     exact⟨E',[_],_,F,rfl,⟨_,rfl,k⟩,F.vs c⟩
   ·cases e
 | .pair a b=>by
  intro E H h l r cs x H' S hv e
  change (match LD a l H with|some (x,r,h)=>(match LD b r h with|some (y,r,h)=>some ((x,y),r,h)|none=>none)|none=>none)=some (x,r,H')at e
  split at e
  ·rename_i y q H1 hy
   split at e
   ·rename_i z q2 H2 hz
    cases e
    obtain⟨E1,c1,d1,F1,rfl,v1,w1⟩:=mf a E H h l q cs y H1 S hv hy
    obtain⟨E2,c2,d2,F2,rfl,v2,w2⟩:=mf b E1 H1 h q _ d1 z H' F1.S w1 hz
    exact⟨E2,c1++c2,d2,F1.trans F2,by simp,⟨c1,c2,rfl,EV.mono F2.g _ _ _ v1,v2⟩,w2⟩
   ·cases e
  ·cases e
theorem yu{t:Ty}{E:En}{H H':Hq}{h:Hp}{v:Sv}{a:AV}{x:List (den t)}(S:SR E H h)(hv:V E H.next v a)(e:NP t v H=some (x,H')):
 ∃ E',Fz E E' H H' h/\zW E'.G t (EV E'.G t) x a:=EK (mf t) S hv e
theorem dC{a:AV}(k:cD a=true):nO a=.cW:=by
 cases a with
 |sc v=>have k':lX (.sc v)=true:=k;unfold nO;rw[k'];rfl
 |cW=>rfl
 |jm=>rfl
 | _=>cases k
theorem sO{E:En}{H:Hq}{h:Hp}(S:SR E H h){t:Ty}{x:List (den t)}{a:AV}(k:zW E.G t (EV E.G t) x a): ∃ cs,cN h (nO a)=some (x.length,cs)/\fT (EV E.G t) x cs:=by
 rcases k with⟨k,rfl⟩|⟨ls,k1,k2⟩
 ·refine⟨[],?_,rfl⟩
  rw[dC k];rfl
 ·rcases k2 with rfl|⟨id,base,row,rfl,g,s⟩
  ·exact⟨ls,rfl,k1⟩
  ·refine⟨ls,?_,k1⟩
   show(match h.aQ.get id with|some cs=>(match cs.fN base (Nat.mul x.length (size t))with|some l=>some (x.length,l)|none=>none)|none=>none)=_
   rw[(S.g _ _ g).2.1]
   have s':row.fN base (Nat.mul x.length (size t))=some ls:=s
   simp only[s']
def RT:AV->Option Nat
 | .dj _ _ n _=>some n
 | .fc n _=>some n
 | .cW=>some 0
 | _=>none
theorem zY{E:En}{H:Hq}{h:Hp}(S:SR E H h){v m:Sv}{a:AV}(hv:V E H.next v a)(e:NQ v H=some m): ∃ n:Nat,toN m=some (.i64,(n:Int))/\V E H.next m (.int .i64 n)/\RT (nO a)=some n/\(cD a=true->n=0):=by
 have row: ∀ {r sz:Nat} {t:Ty} {x:List (den t)} {S':Nat->Option Rw},V E H.next (.os r sz) a->LR E.G t x (E.K r) S'-> ∃ n:Nat,toN (.c 0 (.int .i64) (Int.ofNat x.length))=some (.i64,(n:Int))/\V E H.next (.c 0 (.int .i64) (Int.ofNat x.length)) (.int .i64 n)/\RT (nO a)=some n/\(cD a=true->n=0):=by
  intro r sz t x S' hv l
  refine⟨x.length,rfl,dR,?_⟩
  rcases wm hv l with⟨k,rfl⟩|⟨id,base,row,ls,k1,_⟩
  ·rw[dC k];exact⟨rfl,fun _=>rfl⟩
  ·rw[k1];exact⟨rfl,fun k=>by cases k⟩
 cases v with
 |a w=>
  obtain⟨hb,e⟩:=bg e
  cases e
  cases hv with
  |a _=>exact⟨0,rfl,.i,by rw[dC hb];rfl,fun _=>rfl⟩
 |c q ty x=>
  cases ty with
  |aC t=>
   cases e
   refine⟨x.length,rfl,dR,?_⟩
   cases hv with
   |c k _=>
    obtain⟨b,hb,k⟩:=k;cases hb
    rcases k with⟨k,hx⟩|⟨ls,k1,k2|⟨_,_,_,k2,_⟩⟩
    ·rw[dC k];subst hx;exact⟨rfl,fun _=>rfl⟩
    ·rw[k2];exact⟨rfl,fun k=>by cases k⟩
    ·rw[k2];exact⟨rfl,fun k=>by cases k⟩
  | _=>cases e
 |os r s=>
  change (match H.aQ.get r with|some (.l _ x)=>some (Sv.c 0 (.int .i64) (Int.ofNat x.length))|some (.z _ x)=>some (Sv.c 0 (.int .i64) (Int.ofNat x.length))| _=>none)=some m at e
  split at e
  ·rename_i hr;cases e;exact row hv (S.row _ _ hr).2
  ·rename_i hr;cases e;exact row hv (S.row _ _ hr).2
  ·cases e
 |ss r s off n=>
  cases e
  refine⟨n,rfl,dR,?_⟩
  cases hv with
  |se h1 h2 h3 h4=>rw[dC h2];exact⟨rfl,fun _=>rfl⟩
  |ss h1 h2 h3=>exact⟨rfl,fun k=>by cases k⟩
 |xo r s off n=>
  cases e
  cases hv with
  |xo _ _=>exact⟨n,rfl,.i,rfl,fun k=>by cases k⟩
 | _=>cases e
theorem Ja(a:Od):du (bX a) (fun _ _=>aT (bC a)):=cr (by
 intro E T t H h v T' H' hT hH e
 unfold bX at e
 split at e
 ·rename_i w hw
  obtain⟨e1,rfl,rfl⟩:=iH e
  obtain⟨c,hc,dV⟩:=je hT hw
  obtain⟨n,h1,h2,h3,_⟩:=zY hH dV e1
  refine⟨rfl,rfl,_,?_,h2⟩
  unfold aT
  rw[hc]
  generalize nO c=y at h3 ⊢
  cases y<;>first|(cases h3;done)|(cases h3;rfl)
 ·cases e)
end Lf
end Go.Ab

noncomputable section
namespace Go.Ab
namespace Lf
theorem qX(k:IntKind):eI k k=true:=bH.2 rfl
theorem cS{f s:AV->AV->Option AV}{x y r:AV}(h:f x y=some r):gS f s x y=some r:=by unfold gS;rw[h]
theorem ef{f:IntKind->Int->Int->Option AV}(k:IntKind)(a b:Int):iM f (.int k a) (.int k b)=f k a b:=by show(bif eI k k then _ else _)=_;rw[qX];rfl
theorem uv(op:BinOp)(Mx:op=.and∨op=.or∨op=.xor)(f:Nat->Nat->Nat)(k:IntKind)(a b:Int): ∃ r,jZ op f (.int k a) (.int k b)=some (.int k r):=by
 unfold jZ
 rw[ef]
 have hr: ∃ r,oL (fx (Op.intBits op k a b))=some (.int k r):=by rcases Mx with rfl|rfl|rfl<;>exact⟨_,rfl⟩
 split
 ·rename_i a b
  cases hc:(Nat.blt a (kg k)&&Nat.blt b (kg k))with
  |true=>exact⟨_,rfl⟩
  |false=>exact hr
 ·exact hr
theorem nn{o:Option AV}{k:IntKind}(h: ∃ r,o=some (.int k r)):o=some (.int k (intOf o)):=by obtain⟨r,h⟩:=h;rw[h];rfl
theorem RU{f:BF}{g:IntKind->Int->Int->Int}(h:Ei f=.ar g)(k:IntKind)(a b:Int):f.f (.int k a) (.int k b)=some (.int k (g k a b)):=by
 cases f<;>first|(cases h;done)|skip
 case add=>cases h;exact cS (ef k a b)
 case sub=>cases h;exact cS (ef k a b)
 case mul=>cases h;exact cS (ef k a b)
 case and=>cases h;exact cS (nn (uv .and (.inl rfl) Nat.land k a b))
 case or=>cases h;exact cS (nn (uv .or (.inr (.inl rfl)) Nat.lor k a b))
 case xor=>cases h;exact cS (nn (uv .xor (.inr (.inr rfl)) Nat.xor k a b))
 case andNot=>
  cases h
  have hr: ∃ r,oL (fx (Op.intBits .andNot k a b))=some (.int k r):=⟨_,rfl⟩
  refine nn (o:=jF (.int k a) (.int k b)) ?_
  unfold jF;rw[ef];exact hr
theorem RW{f:BF}{g:IntKind->Int->Int->Int}(h:Ei f=.dv g)(k:IntKind)(a b:Int)(hb: ¬ b=0):f.f (.int k a) (.int k b)=some (.int k (g k a b)):=by
 have hz:eqI b 0=false:=by cases e:eqI b 0 with
  |false=>rfl
  |true=>exact(hb (cH.1 e)).elim
 cases f<;>first|(cases h;done)|skip
 case quo=>cases h;exact cS (by unfold s9;rw[ef,hz];rfl)
 case rem=>cases h;exact cS (by unfold ta;rw[ef,hz];rfl)
theorem RX{f:BF}{g:IntKind->Int->Int->Int}(h:Ei f=.sh g)(k k':IntKind)(a b:Int)(hb:0<=b):f.f (.int k a) (.int k' b)=some (.int k (g k a b)):=by
 obtain⟨n,rfl⟩:=Int.eq_ofNat_of_zero_le hb
 cases f<;>first|(cases h;done)|skip
 case shl=>cases h;have q:tc (.int k a) (.int k' (Int.ofNat n))=some (.int k (ub k a (Int.ofNat n))):=rfl;show gS tc (gS Hc (tS 8 zc)) (.int k a) (.int k' (Int.ofNat n))=_;exact cS q
 case shr=>cases h;have q:tf (.int k a) (.int k' (Int.ofNat n))=some (.int k (ja k a (Int.ofNat n))):=rfl;show gS tf (gS Hd (tS 9 u6)) (.int k a) (.int k' (Int.ofNat n))=_;exact cS q
theorem RY{f:BF}{g:Int->Int->Bool}(h:Ei f=.cm g)(k:IntKind)(a b:Int):f.f (.int k a) (.int k b)=some (.bool (g a b)):=by
 cases f<;>first|(cases h;done)|skip
 case lss=>cases h;refine cS ?_;unfold G6;rw[ef,dE]
 case leq=>cases h;refine cS ?_;unfold G7;rw[ef,dE];simp[<-Int.not_lt]
 case gtr=>cases h;refine cS ?_;unfold G8;rw[ef,dE]
 case geq=>cases h;refine cS ?_;unfold G9;rw[ef,dE];simp[<-Int.not_lt]
 case eqI neg=>
  have he:eqI a b=decide (a=b):=by
   cases e:eqI a b with
   |true=>exact(decide_eq_true (cH.1 e)).symm
   |false=>refine(decide_eq_false fun q=>?_).symm;rw[cH.2 q]at e;cases e
  cases neg with
  |false=>cases h;refine cS ?_;unfold xD;rw[ef,he];rfl
  |true=>cases h;refine cS ?_;unfold xD;rw[ef,he];rfl
section
variable {E:En}{N:Nat}
theorem Jb{i:Bool}{x y:Sv}{c d:AV}{r:LB}(hx:V E N x c)(hy:V E N y d)(h:IX i x y=some r):Ql i c d=some r.v:=by
 unfold IX at h
 split at h
 ·split at h
  ·obtain⟨hk,h⟩:=bg h
   cases h
   cases hx;cases hy
   show(bif eI _ _ then some (eqI _ _)else none)=_
   rw[hk];rfl
  ·split at h
   ·rename_i k a k' b h1 h2
    obtain⟨hk,h⟩:=bg h
    cases h
    rw[eF hx h1,eF hy h2]
    show(bif eI k k' then some (eqI a b)else none)=_
    rw[hk]
    show some (eqI a b)=some (decide (a=b))
    congr 1
    cases e:eqI a b with
    |true=>exact(decide_eq_true (cH.1 e)).symm
    |false=>refine(decide_eq_false fun q=>?_).symm;rw[cH.2 q]at e;cases e
   ·cases h
 ·split at h
  ·rename_i h1 h2;cases h;rw[eE hx h1,eE hy h2];rfl
  ·rename_i a b h1 h2;cases h;rw[eE hx h1,eE hy h2];rfl
  ·cases h
theorem LB.EL(a b:LB):(a.and b).v=(a.v&&b.v):=by
 cases a with
 |l a=>cases a<;>cases b<;>rfl
 |t a=>cases b with
  |l b=>cases b<;>simp[LB.and,LB.v]
  |t b=>rfl
theorem zZ: ∀ {l:List Bool} {xs ys:List Sv} {cs ds:List AV} {r:LB},Vs E N xs cs->Vs E N ys ds->NJ l xs ys=some r->u7 l cs ds=some r.v
 | [],_,_,_,_,_,_,_,h=>by cases h;rfl
 |i::l,[],_,_,_,_,_,_,h=>by cases h
 |i::l,_::_,[],_,_,_,_,_,h=>by cases h
 |i::l,x::xs,y::ys,c'::l1,d'::l2,r,.cons hx Nk,.cons hy x0,h=>by
  change (match IX i x y with|some c=>(match NJ l xs ys with|some d=>some (c.and d)|none=>none)|none=>none)=some r at h
  split at h
  ·rename_i c hc
   split at h
   ·rename_i d hd
    cases h
    have h1:=Jb hx hy hc
    have h2:=zZ Nk x0 hd
    show(match Ql i c' d' with|none=>none|some c=>Bool.rec (some false) (u7 l l1 l2) c)=_
    rw[h1,LB.EL]
    simp only
    cases c.v with
    |true=>simp[h2]
    |false=>rfl
   ·cases h
  ·cases h
theorem N7(neg:Bool)(c:LB):(NK neg c).v=bif neg then !c.v else c.v:=by cases neg<;>cases c<;>rfl
theorem z1{y:Sv}{d:AV}(hy:V E N y d)(h:Ek y=true):(∃ i o,d=.ref i o)∨ ∃ l,d=.eh l:=by
 cases hy<;>first|(cases h;done)|exact .inl ⟨_,_,rfl⟩|exact .inr ⟨_,rfl⟩
theorem Jc{f:BF}{x y v:Sv}{c d:AV}(hx:V E N x c)(hy:V E N y d)(h:(NL f x y).val=some v): ∃ r,f.f c d=some r/\V E N v r:=by
 unfold NL at h
 split at h
 ·split at h
  ·rename_i hr;cases h;cases hx;cases hy;exact⟨_,hr,.i⟩
  ·rename_i hr;cases h;cases hx;cases hy;exact⟨_,hr,.b⟩
  ·cases h
 ·split at h
  ·rename_i k a k' b h1 h2
   rw[eF hx h1,eF hy h2]
   split at h
   ·rename_i g hg
    cases hk:eI k k' with
    |false=>rw[hk]at h;cases h
    |true=>
     rw[hk]at h;cases h
     have:=bH.1 hk;subst this
     exact⟨_,RU hg k a b,dR⟩
   ·rename_i g hg
    cases hk:eI k k' with
    |false=>rw[hk]at h;cases h
    |true=>
     rw[hk]at h
     have:=bH.1 hk;subst this
     simp only[cond_true]at h
     have key: ¬ b=0/\v=.c 0 (.int k) (g k a b):=by
      cases hl:Ej y with
      |true=>
       rw[hl]at h
       simp only[cond_true]at h
       cases hz:eqI b 0 with
       |true=>rw[hz]at h;cases h
       |false=>rw[hz]at h;cases h;exact⟨(fun q=>by rw[cH.2 q]at hz;cases hz),rfl⟩
      |false=>
       rw[hl]at h
       obtain⟨h1,h2⟩:=T.bY h
       cases h2
       exact⟨by simpa using h1,rfl⟩
     rw[key.2]
     exact⟨_,RW hg k a b key.1,dR⟩
   ·rename_i g hg
    have key:0<=b/\v=.c 0 (.int k) (g k a b):=by
     cases hl:Ej y with
     |true=>
      rw[hl]at h
      simp only[cond_true]at h
      cases hz:ez b 0 with
      |true=>rw[hz]at h;cases h
      |false=>rw[hz]at h;cases h;exact⟨ee.1 hz,rfl⟩
     |false=>
      rw[hl]at h
      obtain⟨h1,h2⟩:=T.bY h
      cases h2
      exact⟨by simpa using h1,rfl⟩
    rw[key.2]
    exact⟨_,RX hg k k' a b key.1,dR⟩
   ·rename_i g hg
    cases hk:eI k k' with
    |false=>rw[hk]at h;cases h
    |true=>
     rw[hk]at h;cases h
     have:=bH.1 hk;subst this
     exact⟨_,RY hg k a b,hI⟩
   ·cases h
  ·cases h
theorem N8{f:BF}{x y v:Sv}{c d:AV}(hx:V E N x c)(hy:V E N y d)(h:(NM f x y).val=some v): ∃ r,f.f c d=some r/\V E N v r:=by
 cases f with
 |Le neg=>
  simp only[NM]at h
  split at h
  ·rename_i h1 h2;cases h;rw[eE hx h1,eE hy h2];exact⟨_,rfl,.b⟩
  ·rename_i h1 h2;cases h;rw[eE hx h1,eE hy h2];cases neg<;>exact⟨_,rfl,hI⟩
  ·cases h
 |GQ neg=>
  simp only[NM]at h
  split at h
  ·rename_i h1 h2;cases h;rw[j8 hx h1,j8 hy h2];exact⟨_,rfl,.b⟩
  ·rename_i h1 h2;cases h;rw[j8 hx h1,j8 hy h2];cases neg<;>exact⟨_,rfl,hI⟩
  ·cases h
 |X5 neg=>
  simp only[NM]at h
  split at h
  ·cases h;cases hx;cases hy;exact⟨_,rfl,.b⟩
  ·cases hp:Ek y with
   |false=>rw[hp]at h;cases h
   |true=>
    rw[hp]at h;cases h
    cases hx
    rcases z1 hy hp with⟨_,_,rfl⟩|⟨_,rfl⟩<;>exact⟨_,rfl,.b⟩
  ·cases hp:Ek x with
   |false=>rw[hp]at h;cases h
   |true=>
    rw[hp]at h;cases h
    cases hy
    rcases z1 hx hp with⟨_,_,rfl⟩|⟨_,rfl⟩<;>exact⟨_,rfl,.b⟩
  ·cases h
 |X6 neg=>
  simp only[NM]at h
  split at h
  ·rename_i v' w
   cases hn:isNil w with
   |false=>rw[hn]at h;cases h
   |true=>
    rw[hn]at h
    simp only[cond_true]at h
    split at h
    ·rename_i b hb
     cases h
     cases hx;cases hy
     refine⟨.bool (bif neg then !b else b),?_,.b⟩
     show(bif isNil _ then Option.rec none (fun b=>some (.bool (bif neg then !b else b))) (s8 _)else none:Option AV)=_
     rw[hn,hb];rfl
    ·cases h
  ·rename_i w
   cases hn:isNil w with
   |false=>rw[hn]at h;cases h
   |true=>
    rw[hn]at h
    cases h
    cases hx;cases hy
    refine⟨.bool neg,?_,.b⟩
    simp only[BF.f,gR,hn,cond_true]
    cases neg<;>rfl
  ·rename_i t x w
   cases hn:isNil w with
   |false=>rw[hn]at h;cases h
   |true=>
    rw[hn]at h
    obtain⟨hl,h⟩:=Lf.T.bY h
    cases h
    cases hy
    refine⟨.bool neg,?_,.b⟩
    simp only[BF.f,gR,hn,cond_true]
    cases hx with
    |c k _=>
     obtain⟨a,ea,k⟩:=k
     cases ea
     have YH: ¬ x.length=0:=fun e=>by rw[e]at hl;cases hl
     rcases k with⟨_,k⟩|⟨ls,_,k|⟨id,base,row,k,_⟩⟩
     ·subst k;exact(YH rfl).elim
     ·subst k
      have hb:Nat.beq x.length 0=false:=by revert hl;cases Nat.beq x.length 0<;>simp
      simp only[s8,isNil,cond_false,hb]
      cases neg<;>rfl
     ·subst k
      simp only[s8,isNil,cond_false]
      cases neg<;>rfl
  ·cases h
 |iK neg l=>
  simp only[NM]at h
  split at h
  ·rename_i xs ys
   split at h
   ·rename_i r hr
    cases h
    cases hx with
    |ag hx=>cases hy with
     |ag hy=>
      refine⟨.bool (bif neg then !r.v else r.v),?_,by have:=N2 (E:=E) (N:=N) (c:=NK neg r);rw[N7]at this;exact this⟩
      show(match u7 l _ _ with|some c=>some (AV.bool (bif neg then !c else c))|none=>none)=_
      rw[zZ hx hy hr]
   ·cases h
  ·cases h
 | _=>exact Jc hx hy h
theorem Jd{f:UF}{x v:Sv}{c:AV}(hx:V E N x c)(h:NN f x=some v): ∃ r,f.f c=some r/\V E N v r:=by
 unfold NN at h
 split at h
 ·split at h
  ·rename_i h1;cases h;rw[eE hx h1];exact⟨_,rfl,.b⟩
  ·rename_i h1;cases h;rw[eE hx h1];exact⟨_,rfl,hI⟩
  ·cases h
 ·split at h
  ·cases h;cases hx;exact⟨_,rfl,.i⟩
  ·cases h;rw[eF hx rfl];exact⟨_,rfl,dR⟩
  ·cases h
 ·split at h
  ·cases h;cases hx;exact⟨_,rfl,.i⟩
  ·cases h;rw[eF hx rfl];exact⟨_,rfl,dR⟩
  ·cases h
 ·split at h
  ·cases h;cases hx;exact⟨_,rfl,.i⟩
  ·cases h;rw[eF hx rfl];exact⟨_,rfl,dR⟩
  ·cases h
end
theorem Je(f:BF)(a b:Od):du (IY f a b) (fun _ _=>af f.f (bC a) (bC b)):=cr (by
 intro E T t H h v T' H' hT hH e
 unfold IY at e
 split at e
 ·rename_i x hx
  split at e
  ·rename_i y hy
   obtain⟨w,e1,e2⟩:=Lf.T.cE e
   obtain⟨rfl,rfl,rfl⟩:=bc e2
   obtain⟨c,hc,dV⟩:=bw hT hx
   obtain⟨d,hd,GY⟩:=bw hT hy
   obtain⟨r,hr,DJ⟩:=N8 dV GY e1
   refine⟨rfl,rfl,r,?_,DJ⟩
   show(Option.rec Go.Ab.Ro.bad (fun a'=>Option.rec Go.Ab.Ro.bad (fun b'=>Option.rec Go.Ab.Ro.bad (fun v=>Go.Ab.Ro.ok v h) (f.f a' b')) (bC b t)) (bC a t):Go.Ab.Ro)=_
   rw[hc,hd]
   simp only[hr]
  ·cases e
 ·cases e)
theorem N9(f:UF)(a:Od):du (X9 f a) (fun _ _=>bL f.f (bC a)):=cr (by
 intro E T t H h v T' H' hT hH e
 unfold X9 at e
 split at e
 ·rename_i x hx
  obtain⟨e1,rfl,rfl⟩:=iH e
  obtain⟨c,hc,dV⟩:=bw hT hx
  obtain⟨r,hr,DJ⟩:=Jd dV e1
  refine⟨rfl,rfl,r,?_,DJ⟩
  show(Option.rec Go.Ab.Ro.bad (fun a'=>Option.rec Go.Ab.Ro.bad (fun v=>Go.Ab.Ro.ok v h) (f.f a')) (bC a t):Go.Ab.Ro)=_
  rw[hc]
  simp only[hr]
 ·cases e)
theorem EM(a:Od):du (zR a) (fun _ _=>fy (bC a)):=cr (by
 intro E T t H h v T' H' hT hH e
 unfold zR at e
 split at e
 ·rename_i x hx
  obtain⟨c,hc,dV⟩:=bw hT hx
  split at e
  ·rename_i s hs
   obtain⟨rfl,rfl,rfl⟩:=bc e
   have:=j8 dV hs;subst this
   exact⟨rfl,rfl,_,by unfold fy;rw[hc],.i⟩
  ·rename_i s hs
   obtain⟨rfl,rfl,rfl⟩:=bc e
   have:=j8 dV hs;subst this
   exact⟨rfl,rfl,_,by unfold fy;rw[hc],dR⟩
  ·cases e
 ·cases e)
theorem Jf(a b:Od){t:Tm}{h:Hp}{k:IntKind}{m n:Int}(h1:bC a t=some (.int k m))(h2:bC b t=some (.int k n)):nS (bC a) (bC b) t h=.ok (.int k (bif ez n m then n else m)) h:=by
 unfold nS af
 rw[h1,h2]
 have q:=ef (f:=fun k a b=>some (.int k (bif ez b a then b else a))) k m n
 simp only[cS q]
theorem Jg(a b:Od){t:Tm}{h:Hp}{k:IntKind}{m n:Int}(h1:bC a t=some (.int k m))(h2:bC b t=some (.int k n)):rJ (bC a) (bC b) t h=.ok (.int k (bif ez m n then n else m)) h:=by
 unfold rJ af
 rw[h1,h2]
 have q:=ef (f:=fun k a b=>some (.int k (bif ez a b then b else a))) k m n
 simp only[cS q]
theorem RZ(m n:Int):(bif ez n m then n else m)=min m n:=by
 rw[dE]
 by_cases q:n<m
 ·simp only[decide_eq_true q,cond_true];omega
 ·simp only[decide_eq_false q,cond_false];omega
theorem R2(m n:Int):(bif ez m n then n else m)=max m n:=by
 rw[dE]
 by_cases q:m<n
 ·simp only[decide_eq_true q,cond_true];omega
 ·simp only[decide_eq_false q,cond_false];omega
theorem z6{mx:Bool}{a b:Od}{E:En}{T T':Tq}{t:Tm}{H H':Hq}{v:Sv}(hT:TV E H.next T t)(e:(yo mx a b T H).val=some (v,T',H')):
 H'=H/\T'=T/\ ∃ k m n,bC a t=some (.int k m)/\bC b t=some (.int k n)/\V E H.next v (.int k (bif mx then(bif ez m n then n else m)else(bif ez n m then n else m))):=by
 unfold yo at e
 split at e
 ·rename_i x hx
  split at e
  ·rename_i y hy
   obtain⟨c,hc,dV⟩:=bw hT hx
   obtain⟨d,hd,GY⟩:=bw hT hy
   split at e
   ·rename_i k m k' n
    cases hk:eI k k' with
    |false=>rw[hk]at e;cases e
    |true=>
     rw[hk]at e
     obtain⟨rfl,rfl,rfl⟩:=bc e
     have:=bH.1 hk;subst this
     cases dV;cases GY
     exact⟨rfl,rfl,k,m,n,hc,hd,.i⟩
   ·split at e
    ·rename_i k m k' n h1 h2
     cases hk:eI k k' with
     |false=>rw[hk]at e;cases e
     |true=>
      rw[hk]at e
      obtain⟨rfl,rfl,rfl⟩:=bc e
      have:=bH.1 hk;subst this
      rw[eF dV h1]at hc
      rw[eF GY h2]at hd
      refine⟨rfl,rfl,k,m,n,hc,hd,?_⟩
      cases mx with
      |true=>simp only[cond_true,R2];exact dR
      |false=>simp only[cond_false,RZ];exact dR
    ·cases e
  ·cases e
 ·cases e
theorem Jh(a b:Od):du (yo false a b) (fun _ _=>nS (bC a) (bC b)):=cr (by
 intro E T t H h v T' H' hT hH e
 obtain⟨rfl,rfl,k,m,n,h1,h2,hv⟩:=z6 hT e
 exact⟨rfl,rfl,_,Jf a b h1 h2,hv⟩)
theorem Ji(a b:Od):du (yo true a b) (fun _ _=>rJ (bC a) (bC b)):=cr (by
 intro E T t H h v T' H' hT hH e
 obtain⟨rfl,rfl,k,m,n,h1,h2,hv⟩:=z6 hT e
 exact⟨rfl,rfl,_,Jg a b h1 h2,hv⟩)
end Lf
end Go.Ab

noncomputable section
namespace Go.Ab
namespace Lf
theorem wo{agg:Bool}{row:Rw}{b k o sz:Nat}{L:List AV}{c:AV}(s:row.fN b k=some L)(lM:0<sz)(h:part agg L o sz=some c):lQ agg row (b+o) sz=some c:=by
 unfold part at h
 split at h
 ·cases h
 ·rename_i q hq
  obtain⟨rfl,hl⟩:=gU hq
  obtain⟨s1,s2⟩:=dn.1 s
  have hL:L.length=k:=by rw[s2,List.length_take,List.length_drop,dm];omega
  have hb:o+sz<=k:=by rw[List.length_take,List.length_drop]at hl;omega
  unfold lQ
  rw[jf s hb]
  exact h
theorem EN{agg:Bool}{l r:List AV}{sz:Nat}{c:AV}(h:part agg l 0 sz=some c):part agg (l++r) 0 sz=some c:=by
 unfold part at h
 split at h
 ·cases h
 ·rename_i q hq
  obtain⟨rfl,hl⟩:=gU hq
  rw[List.drop_zero]at h hl
  have:List.take sz (l++r)=List.take sz l:=List.take_append_of_le_length (by rw[List.length_take]at hl;omega)
  unfold part
  rw[me (by rw[List.drop_zero,this,hl]),List.drop_zero,this]
  exact h
theorem ot{E:En}{H:Hq}{h:Hp}(S:SR E H h){r:Nat}{l:List Sv}(e:qQ H r=some l): ∃ id row,(E.K r).av=.ref id 0/\h.aQ.get id=some row/\Vs E H.next l row.toL:=by
 unfold qQ at e
 split at e
 ·rename_i hr;cases e
  obtain⟨id,row,a,b,c,_⟩:=(S.row _ _ hr).2
  exact⟨id,row,a,b,c⟩
 ·rename_i hr;cases e
  obtain⟨id,row,a,b,c⟩:=(S.row _ _ hr).2
  exact⟨id,row,a,(S.g _ _ b).2.1,c⟩
 ·cases e
theorem np{E:En}{N:Nat}{t:Ty}{x:List (den t)}{base i:Nat}{row:Rw}{ls:List AV}(hi:i<x.length)(s:row.fN base (x.length*size t)=some ls)(e:fT (EV E.G t) x ls):
 EV E.G t (x.getD i (aS t)) ((ls.drop (i*size t)).take (size t))/\Vs E N (jb t (x.getD i (aS t))) ((ls.drop (i*size t)).take (size t))/\row.fN (base+i*size t) (size t)=some ((ls.drop (i*size t)).take (size t)):=by
 have h1:=e.get (EV.length t) hi (aS t)
 refine⟨h1,lC rfl t _ _ h1,jf s ?_⟩
 have:=Nat.mul_le_mul_right (size t) (Nat.succ_le_of_lt hi)
 rw[Nat.succ_mul]at this;exact this
theorem EO{E:En}{H:Hq}{h:Hp}(S:SR E H h){r sz i id base n:Nat}{l:List Sv}(e:El H r sz i=some l)(hk:(E.K r).av=.dj id base n sz)(hi:i<n):
 ∃ row L,h.aQ.get id=some row/\Vs E H.next l L/\row.fN (base+i*sz) sz=some L:=by
 have key: ∀ {t:Ty} {x:List (den t)} {S':Nat->Option Rw},(∀ row,S' id=some row->h.aQ.get id=some row)->LR E.G t x (E.K r) S'->(bif Nat.beq sz (size t)then some (jb t (x.getD i (aS t)))else none)=some l-> ∃ row L,h.aQ.get id=some row/\Vs E H.next l L/\row.fN (base+i*sz) sz=some L:=by
  intro t x S' hs q e
  obtain⟨hb,e⟩:=bg e
  cases e
  have hz:=beq_true hb
  rcases q.2 with⟨k,_⟩|⟨o6,EH,row,ls,k1,k2,k3,k4⟩
  ·rw[hk]at k;cases k
  ·rw[hk]at k1
   injection k1 with a1 a2 a3 a4
   subst a1;subst a2
   rw[<-q.1]at a3 k3
   rw[a3]at hi
   obtain⟨_,e2,e3⟩:=np (N:=H.next) hi k3 k4
   exact⟨row,_,hs _ k2,e2,by rw[hz];exact e3⟩
 unfold El at e
 split at e
 ·rename_i t x hr;exact key (fun _ e=>e) (S.row _ _ hr).2 e
 ·rename_i t x hr;exact key (fun _ e=>(S.g _ _ e).2.1) (S.row _ _ hr).2 e
 ·cases e
theorem qY{E:En}{H:Hq}{h:Hp}(S:SR E H h){sz:Nat}{agg:Bool}{p v:Sv}{a:AV}(hv:V E H.next p a)(e:sI sz agg p H=some v): ∃ c,p9 h sz agg a=some c/\V E H.next v c:=by
 unfold sI at e
 have lM:=bt.1 (bg e).1
 replace e:=(bg e).2
 split at e
 ·rename_i r o
  split at e
  ·rename_i l hl
   obtain⟨id,row,k1,k2,k3⟩:=ot S hl
   cases hv with
   |rf h1 h2=>
    rw[k1]at h2;cases h2
    obtain⟨c,c1,c2⟩:=jA k3 e
    refine⟨c,?_,c2⟩
    show(match h.aQ.get id with|some cs=>lQ agg cs o sz|none=>none)=_
    rw[k2];exact EA lM c1
  ·cases e
 ·rename_i r s i o
  split at e
  ·rename_i l hl
   cases hv with
   |re h1 h2 h3=>
    rename_i id base n
    obtain⟨row,L,k1,k2,k3⟩:=EO S hl h2 h3
    obtain⟨c,c1,c2⟩:=jA k2 e
    refine⟨c,?_,c2⟩
    show(match h.aQ.get id with|some cs=>lQ agg cs (base+i*s+o) sz|none=>none)=_
    rw[k1];exact wo k3 lM c1
  ·cases e
 ·cases hv with
  |zp k=>
   obtain⟨c,c1,c2⟩:=jA k e
   exact⟨c,EN c1,c2⟩
  |zr k g s=>
   rename_i l' id off row
   obtain⟨c,c1,c2⟩:=jA k e
   refine⟨c,?_,c2⟩
   show(match h.aQ.get id with|some cs=>lQ agg cs off sz|none=>none)=_
   rw[(S.g _ _ g).2.1]
   have:=wo s lM c1
   exact this
 ·cases e
theorem EP(sz:Nat)(agg:Bool)(a:Od):du (zP sz agg a) (fun _ _=>ae sz agg (bC a)):=cr (by
 intro E T t H h v T' H' hT hH e
 unfold zP at e
 split at e
 ·rename_i p hp
  obtain⟨e1,rfl,rfl⟩:=iH e
  obtain⟨c,hc,dV⟩:=bw hT hp
  obtain⟨r,h1,h2⟩:=qY hH dV e1
  refine⟨rfl,rfl,r,?_,h2⟩
  unfold ae
  rw[hc]
  simp only[h1]
 ·cases e)
theorem uw{E:En}{H:Hq}{h:Hp}(S:SR E H h){r id:Nat}{R R':Row}{Jj:Rw}(hr:H.aQ.get r=some R)(lv:R.live=true)(LK:R'.live=true)(eO:gB (E.K r).av=some id)
 (hR:RV E H.next (fg h id (some Jj)) (E.K r) R'):SR E (eV H r (some R')) (fg h id (some Jj))/\Nx E E H (eV H r (some R')) h (fg h id (some Jj)):=by
 have ow: ∀ q,own (eV H r (some R')) q->own H q:=by
  rintro q ⟨Q,a,b⟩
  rw[dx]at a
  split at a
  ·rename_i e;rw[e];exact⟨R,hr,lv⟩
  ·exact⟨Q,a,b⟩
 refine⟨⟨?_,?_,?_,?_⟩,⟨pQ.refl _ _,Nat.le_refl _,Nat.le_refl _,fun q id o e=>.inl ⟨q,ow q o,e⟩,fun _ _ e=>.inl e,fun i hi hn=>?_⟩⟩
 ·intro q Q hq
  rw[dx]at hq
  split at hq
  ·rename_i e;subst e;cases hq;exact⟨(S.row _ _ hr).1,hR⟩
  ·rename_i ne
   refine⟨(S.row _ _ hq).1,(S.row _ _ hq).2.mono (pQ.refl _ _) (Nat.le_refl _) fun lq i row e1 e2=>?_⟩
   rw[fp,if_neg fun ei=>ne (S.inj q r id ⟨Q,hq,lq⟩ ⟨R,hr,lv⟩ (by rw[e1,ei]) eO)]
   exact e2
 ·exact fun a b i oa ob ea eb=>S.inj a b i (ow a oa) (ow b ob) ea eb
 ·exact fun a i oa ea=>S.lt a i (ow a oa) ea
 ·intro i row e
  obtain⟨a,b,c⟩:=S.g i row e
  refine⟨a,?_,fun q oq=>c q (ow q oq)⟩
  rw[fp,if_neg fun ei=>c r ⟨R,hr,lv⟩ (by rw[ei];exact eO)]
  exact b
 ·rw[fp,if_neg fun ei=>hn r ⟨R,hr,lv⟩ (by rw[ei];exact eO)]
theorem pR(L B v:List AV)(o:Nat)(h:o+v.length<=L.length): ∀ (A:List AV),put (A++(L++B)) (A.length+o) v=A++(put L o v++B)
 | []=>by
  simp only[List.nil_append,List.length_nil,Nat.zero_add]
  rw[put_eq,put_eq,List.take_append_of_le_length (by omega),List.drop_append_of_le_length h]
  simp
 |a::A=>by
  have:=pR L B v o h A
  rw[put_eq]at this ⊢
  rw[List.length_cons,show A.length+1+o=A.length+o+1 by omega,List.cons_append,List.take_succ_cons,show A.length+o+1+v.length=A.length+o+v.length+1 by omega,List.drop_succ_cons,List.cons_append,this]
  rfl
theorem pS(l:List AV)(o:Nat)(v:List AV)(h:o+v.length<=l.length):(put l o v).length=l.length:=by
 rw[put_eq,List.length_append,List.length_append,List.length_take,List.length_drop];omega
theorem B3{G:Nat->Option Rw}{t:Ty}{x:List (den t)}{ls:List AV}(e:fT (EV G t) x ls){i:Nat}(hi:i<x.length):ls=ls.take (i*size t)++((ls.drop (i*size t)).take (size t)++ls.drop (i*size t+size t)):=by
 rw[<-List.drop_drop,List.take_append_drop,List.take_append_drop]
theorem Jk{G:Nat->Option Rw}{t:Ty}{x:List (den t)}{ls:List AV}(e:fT (EV G t) x ls){i:Nat}(hi:i<x.length){y:den t}{c:List AV}(hy:EV G t y c):fT (EV G t) (x.set i y) (ls.take (i*size t)++(c++ls.drop (i*size t+size t))):=by
 rw[List.set_eq_take_append_cons_drop,if_pos hi]
 have h1:=e.take (EV.length t) i
 have h2:=e.drop (EV.length t) (i+1)
 rw[Nat.succ_mul]at h2
 exact h1.app ⟨c,_,rfl,hy,h2⟩
theorem B4(sz:Nat)(a b:Od):du (yl sz a b) (fun _ _=>aA sz (bC a) (bC b)):=by
 intro E T t H h v T' H' hT hH e
 unfold yl at e
 split at e
 ·rename_i w hw
  cases hb:(Nat.beq (len w.cells) sz&&dJ vZ w.cells)with
  |false=>rw[hb]at e;cases e
  |true=>
   rw[hb]at e
   simp only[cond_true]at e
   rw[Bool.and_eq_true]at hb
   obtain⟨d,hd,GY⟩:=bw hT hw
   have fO:=GY.cells
   have hlen:d.cells.length=w.cells.length:=fO.length.symm
   have lM:w.cells.length=sz:=by have:=beq_true hb.1;rwa [bJ]at this
   have yv:dJ cJ d.cells=true:=by
    rw[eJ,List.all_eq_true]
    refine fO.xF fun q hq=>?_
    have:=hb.2;rw[eJ,List.all_eq_true]at this;exact this q hq
   have pH: ∀ {id off:Nat} {row:Rw},bC a t=some (.ref id off)->h.aQ.get id=some row->off+sz<=row.n->aA sz (bC a) (bC b) t h=.ok ej (fg h id (some (row.put off d.cells))):=by
    intro id off row h1 h2 h3
    unfold aA
    rw[h1,hd]
    simp only[h2]
    have q:(Nat.beq (len d.cells) sz&&(Nat.ble (Nat.add off (len d.cells)) row.n&&dJ cJ d.cells))=true:=by
     rw[bJ,hlen,lM,yv,Nat.beq_refl,Bool.and_true,Bool.true_and]
     rw[Nat.ble_eq];exact h3
    rw[q];rfl
   split at e
   ·rename_i r o ha
    obtain⟨p,hp,gL⟩:=bw hT ha
    split at e
    ·rename_i l hr
     cases hq:Nat.ble (Nat.add o (len w.cells)) (len l)with
     |false=>rw[hq]at e;cases e
     |true=>
      rw[hq]at e
      obtain⟨rfl,rfl,rfl⟩:=bc e
      have hq:=Nat.le_of_ble_eq_true hq
      rw[bJ,bJ]at hq
      obtain⟨id,row,k1,k2,k3,k4⟩:=(hH.row _ _ hr).2
      cases gL with
      |rf h1 h2=>
       rw[k1]at h2;cases h2
       have hn:o+sz<=row.n:=by rw[<-dm,<-k3.length,<-lM];exact hq
       have hR:RV E H.next (fg h id (some (row.put o d.cells))) (E.K r) (.o _ (wa l o w.cells)):=
        ⟨id,row.put o d.cells,k1,by rw[fp,if_pos rfl],by rw[mF (by rw[hlen,lM];exact hn)];exact k3.put fO o,k4⟩
       obtain⟨S,X⟩:=uw hH hr rfl rfl (by rw[k1];rfl) hR
       exact⟨_,_,E,Ev.const (pH hp k2 hn),X,S,.tu .nil,hT⟩
    ·cases e
   ·rename_i r s i o ha
    obtain⟨p,hp,gL⟩:=bw hT ha
    split at e
    ·rename_i ty x hr
     cases hq:(Nat.beq s (size ty)&&Nat.ble (Nat.add o (len w.cells)) s)with
     |false=>rw[hq]at e;cases e
     |true=>
      rw[hq]at e
      simp only[cond_true]at e
      rw[Bool.and_eq_true]at hq
      have hs:s=size ty:=beq_true hq.1
      have Yb:=Nat.le_of_ble_eq_true hq.2
      rw[bJ]at Yb
      split at e
      ·rename_i y H1 hy
       split at e
       ·rename_i t2 x2 QB
        obtain⟨rfl,rfl,rfl⟩:=bc e
        cases gL with
        |re h1 h2 h3=>
         rename_i id base n
         have q:=(hH.row _ _ hr).2
         rcases q.2 with⟨k,_⟩|⟨o6,EH,row,ls,k1,k2,k3,k4⟩
         ·rw[h2]at k;cases k
         ·rw[h2]at k1
          injection k1 with a1 a2 a3 a4
          subst a1;subst a2
          rw[<-q.1]at a3 k3
          rw[a3]at h3
          obtain⟨_,e2,e3⟩:=np (N:=H.next) h3 k3 k4
          obtain⟨E1,c,dd,F,Oa,hey,Zl⟩:=mf ty E H h _ [] _ y H1 hH (e2.put fO o) hy
          have hdd:dd=[]:=by cases Zl;rfl
          rw[hdd,List.append_nil]at Oa
          have hr1:H1.aQ.get r=some (.l t2 x2):=QB
          have q2:=(F.S.row _ _ hr1).2
          have hKr:(E1.K r).av=.dj id base n s:=by rw[F.K];exact h2
          have hL:((ls.drop (i*size ty)).take (size ty)).length=size ty:=(np (N:=H.next) h3 k3 k4).1 |> EV.length ty _ _
          have ad9:ls.length=x.length*size ty:=k4.length (EV.length ty)
          have hle:i*size ty+size ty<=x.length*size ty:=by
           have:=Nat.mul_le_mul_right (size ty) (Nat.succ_le_of_lt h3)
           rw[Nat.succ_mul]at this;exact this
          obtain⟨s1,s2⟩:=dn.1 k3
          have hn:base+i*s+o+sz<=row.n:=by rw[hs];rw[lM,hs]at Yb;have e0:o+sz<=size ty:=Yb;omega
          have Zm:(row.put (base+i*s+o) d.cells).fN base (x.length*size ty)=some (ls.take (i*size ty)++(c++ls.drop (i*size ty+size ty))):=by
           have Ob:base+i*s+o+d.cells.length<=row.n:=by rw[hlen,lM];exact hn
           refine dn.2 ⟨by show base+_<=row.n;exact s1,?_⟩
           rw[mF Ob,<-Oa]
           have l5:row.toL=row.toL.take base++(ls++row.toL.drop (base+x.length*size ty)):=by
            rw[s2,<-List.drop_drop,List.take_append_drop,List.take_append_drop]
           have xN:(row.toL.take base).length=base:=by rw[List.length_take,dm];omega
           have Zn:=B3 k4 h3
           have hA:(ls.take (i*size ty)).length=i*size ty:=by rw[List.length_take];omega
           have hod:o+d.cells.length<=size ty:=by rw[hlen,<-hs];exact Yb
           have e1:put row.toL (base+i*s+o) d.cells=row.toL.take base++(put ls (i*size ty+o) d.cells++row.toL.drop (base+x.length*size ty)):=by
            have:=pR ls (row.toL.drop (base+x.length*size ty)) d.cells (i*size ty+o) (by omega) (row.toL.take base)
            rw[<-l5,xN]at this
            rw[hs,Nat.add_assoc];exact this
           have e2:put ls (i*size ty+o) d.cells=ls.take (i*size ty)++(put ((ls.drop (i*size ty)).take (size ty)) o d.cells++ls.drop (i*size ty+size ty)):=by
            have:=pR ((ls.drop (i*size ty)).take (size ty)) (ls.drop (i*size ty+size ty)) d.cells o (by rw[hL];exact hod) (ls.take (i*size ty))
            rw[<-Zn,hA]at this
            exact this
           rw[e1,List.drop_append_of_le_length (by rw[xN];exact Nat.le_refl _)]
           rw[show List.drop base (row.toL.take base)=[]from by rw[List.drop_eq_nil_iff,xN];exact Nat.le_refl _,List.nil_append]
           rw[List.take_append_of_le_length (by rw[pS _ _ _ (by omega)];omega)]
           rw[show List.take (x.length*size ty) (put ls (i*size ty+o) d.cells)=put ls (i*size ty+o) d.cells from by rw[List.take_of_length_le];rw[pS _ _ _ (by omega)];omega]
           exact e2.symm
          have hR:RV E1 H1.next (fg h id (some (row.put (base+i*s+o) d.cells))) (E1.K r) (.l ty (x.set i y)):=by
           refine⟨by rw[List.length_set,F.K];exact q.1,.inr ⟨id,base,row.put (base+i*s+o) d.cells,_,?_,by rw[fp,if_pos rfl],?_,Jk (k4.mono (EV.mono F.g ty)) h3 hey⟩⟩
           ·rw[hKr,F.K,<-q.1,hs,a3]
           ·rw[F.K,<-q.1];exact Zm
          obtain⟨S,X⟩:=uw F.S hr1 rfl rfl (by rw[hKr];rfl) hR
          exact⟨_,_,E1,Ev.const (pH hp k2 hn),F.X.trans X,S,.tu .nil,hT.mono (F.X.trans X).e (F.X.trans X).le⟩
       ·cases e
      ·cases e
    ·cases e
   ·cases e
 ·cases e
end Lf
end Go.Ab
