import Derived.Test.YtjeanplhkkpdmaaGreatDoorLfD4
noncomputable section
namespace Go.Ab
namespace Lf
def pF(G:Nat->Option Rw)(h:Hp)(t:Ty)(a:AV)(x:List (den t)):Prop:=
 (jf a=true/\x=[])∨ ∃ id base row ls,a=.jS id base x.length (size t)/\h.cw.get id=some row/\row.oV base (x.length*size t)=some ls/\nW (EV G t) x ls
theorem DB{t:Ty}{s:Sv}{a:AV}{x:List (den t)}{E:En}{H H1:Hq}{h:Hp}(S:SR E H h)(hv:V E H.next s a)(e:O2 t s H=some (x,H1)): ∃ E1,Fz E E1 H H1 h/\pF E1.G h t a x:=by
 unfold O2 at e
 split at e
 ·rename_i r sz
  split at e
  ·rename_i t' y hr
   split at e
   ·rename_i p hp
    cases p
    cases e
    refine⟨E,Fz.refl S,?_⟩
    rcases FM hv (S.row _ _ hr).2 with k|⟨id,base,row,ls,k1,_,_,k2,k3,k4⟩
    ·exact .inl k
    ·exact .inr ⟨id,base,row,ls,k1,k2,k3,k4⟩
   ·cases e
  ·cases e
 ·rename_i r sz off n
  split at e
  ·rename_i t' y hr
   split at e
   ·rename_i p hp
    cases p
    cases e
    refine⟨E,Fz.refl S,?_⟩
    rcases Zk hv (S.row _ _ hr).2 with⟨k1,k2,k3,_⟩|⟨id,base,row,ls,k1,k2,_,_,k3,k4,k5⟩
    ·subst k3;exact .inl ⟨k1,by simp⟩
    ·obtain⟨a1,a2,a3⟩:=Dy rfl k4 k5 k2 (id:=0)
     exact .inr ⟨id,base+off*size t,row,_,by rw[a1];exact k1,k3,by rw[a1];exact a2,a3⟩
   ·cases e
  ·cases e
 ·obtain⟨hb,e⟩:=iu e
  cases e
  cases hv
  exact⟨E,Fz.refl S,.inl ⟨hb,rfl⟩⟩
 ·rename_i r sz off n
  split at e
  ·rename_i l hr
   have hb:=beq_true (iu e).1
   replace e:=(iu e).2
   unfold Zc at e
   have hle:=Nat.le_of_ble_eq_true (iu e).1
   replace e:=(iu e).2
   rw[iq]at hle
   rw[nr]at e
   obtain⟨id,row,k1,k2,k3,_⟩:=(S.row _ _ hr).2
   obtain⟨E1,c,d,F,e1,e2,e3⟩:=HS (vw t) n E H h _ _ x H1 S (k3.drop off) e
   refine⟨E1,F,?_⟩
   cases hv with
   |xo h1 h2=>
    rw[k1]at h2;cases h2
    have hc:=e2.length (EV.length t)
    have hlen:=k3.length
    refine .inr ⟨id,off,row,c,by rw[e3,hb],k2,?_,e2⟩
    refine jM.2 ⟨?_,?_⟩
    ·have:=congrArg List.length e1
     rw[List.length_drop,List.length_append,hc]at this
     rw[<-jJ];omega
    ·rw[e1,<-hc,List.take_left]
  ·cases e
 ·cases e
structure Kl(E:En)(H H2:Hq)(a:AV):Prop where
 n:H2.next=H.next
 sub: ∀ r R,H2.cw.get r=some R->H.cw.get r=some R
 id: ∀ id,oM a=some id-> ∃ r,own H r/\ ¬ own H2 r/\oM (E.K r).av=some id
 only: ∀ r,own H r-> ¬ own H2 r->oM (E.K r).av=oM a
theorem JP{E:En}{H:Hq}{r:Nat}{R:Row}{a:AV}(hr:H.cw.get r=some R)(lv:R.live=true)(hi:oM (E.K r).av=oM a):Kl E H (mG H r none) a:=by
 have no: ¬ own (mG H r none) r:=by rintro⟨Q,q,_⟩;rw[jX,if_pos rfl]at q;cases q
 refine⟨rfl,fun q Q e=>?_,fun id e=>⟨r,⟨R,hr,lv⟩,no,by rw[hi];exact e⟩,fun q o n=>?_⟩
 ·rw[jX]at e
  split at e
  ·cases e
  ·exact e
 ·by_cases k:q=r
  ·rw[k];exact hi
  ·obtain⟨Q,q1,q2⟩:=o
   exact(n ⟨Q,by rw[jX,if_neg k];exact q1,q2⟩).elim
theorem DC{s:Sv}{a:AV}{E:En}{H H2:Hq}(hv:V E H.next s a)(e:kill s H=some H2):Kl E H H2 a:=by
 unfold kill at e
 split at e
 ·cases e
  cases hv with
  |a h=>exact⟨rfl,fun _ _ e=>e,fun id k=>by cases a<;>first|(cases h;done)|(cases k;done),fun r o n=>(n o).elim⟩
 ·split at e
  ·rename_i hr
   cases e
   cases hv with
   |os h1 h2=>exact JP hr rfl rfl
  ·cases e
 ·split at e
  ·rename_i hr
   cases e
   cases hv with
   |se h1 h2 h3 h4=>exact JP hr rfl rfl
   |ss h1 h2 h3=>exact JP hr rfl (by rw[h2];rfl)
  ·cases e
 ·split at e
  ·rename_i hr
   cases e
   cases hv with
   |xo h1 h2=>exact JP hr rfl (by rw[h2];rfl)
  ·cases e
 ·cases e
theorem pH{b n:Nat}:roomy b n=true↔n*b<=70368744177664/\n<=70368744177664:=by unfold roomy;simp
theorem Pv{r:Rw}{off k:Nat}{l:List AV}(h:r.oV off k=some l): ∃ p,r.sub off k=some p/\p.toL=l:=by
 obtain⟨a,b⟩:=jM.1 h
 have hb:Nat.ble (Nat.add off k) r.n=true:=by rw[Nat.ble_eq];exact a
 have hs:r.sub off k=some (bif Nat.beq off 0 then r.upto k else yX (r.cells k off)):=by unfold Rw.sub;rw[hb];rfl
 exact⟨_,hs,by rw[(EK hs).1,b]⟩
theorem abp{E:En}{H H2:Hq}{h:Hp}(S:SR E H h){t:Ty}{a:AV}{x y:List (den t)}{cs:List AV}{bytes:Nat}{z:Bool}(hd:pF E.G h t a x)(hk:Kl E H H2 a)(hy:nW (EV E.G t) y cs)(hz:z=true->y=[])(hr:roomy bytes (x.length+y.length)=true):
 ∃ c h' E',(bif vh a&&z then Go.Ab.Ro.ok a h else vU (size t) bytes h (xg a) y.length cs)=.ok c h'/\Nx E E' H (jG H2 (.l t (x++y))) h h'/\SR E' (jG H2 (.l t (x++y))) h'/\V E' (jG H2 (.l t (x++y))).next (.os H2.next (size t)) c:=by
 obtain⟨r1,r2⟩:=pH.1 hr
 have Pw: ∀ (k:Kr),(∀ id,oM k.av=some id->oM a=some id)->RV E H.next h k (.l t (x++y))->SR (E.row H.next k) (jG H2 (.l t (x++y))) h/\Nx E (E.row H.next k) H (jG H2 (.l t (x++y))) h h:=by
  intro k h1 h2
  refine oA S hk.n hk.sub (Nat.le_refl _) (fun _ _ _=>rfl) (fun id e=>?_) h2 rfl
  obtain⟨r,o,no,er⟩:=hk.id id (h1 id e)
  exact⟨S.lt r id o er,.inr ⟨r,o,no,er⟩⟩
 have K0: ∀ k:Kr,(E.row H.next k).K H2.next=k:=fun k=>by rw[hk.n];exact if_pos rfl
 have Zl: ∀ k:Kr,((jf k.av=true/\k.n=0)∨ ∃ id base,k.av=.jS id base k.n (size t))->V (E.row H.next k) (jG H2 (.l t (x++y))).next (.os H2.next (size t)) k.av:=by
  intro k Fw
  have:=V.os (E:=E.row H.next k) (N:=(jG H2 (.l t (x++y))).next) (r:=H2.next) (sz:=size t) (Nat.lt_succ_self _) (by rw[K0];exact Fw)
  rwa [K0]at this
 have FQ: ∀ av:AV,jf av=true->x=[]->y=[]-> ∃ E',Nx E E' H (jG H2 (.l t (x++y))) h h/\SR E' (jG H2 (.l t (x++y))) h/\V E' (jG H2 (.l t (x++y))).next (.os H2.next (size t)) av:=by
  intro av ha hx hy
  obtain⟨S',X⟩:=Pw ⟨av,0⟩ (fun id e=>by rw[show oM av=none from Lx ha]at e;cases e) ⟨by rw[hx,hy];rfl,.inl ⟨ha,by rw[hx,hy];rfl⟩⟩
  exact⟨_,X,S',Zl ⟨av,0⟩ (.inl ⟨ha,rfl⟩)⟩
 cases hc:(vh a&&z)with
 |true=>
  rw[Bool.and_eq_true]at hc
  have he:=Cv hc.1
  have hx:x=[]:=by
   rcases hd with⟨_,k⟩|⟨id,base,row,ls,k,_⟩
   ·exact k
   ·rw[k]at he;cases he
  obtain⟨E',X,S',v⟩:=FQ a he hx (hz hc.2)
  exact⟨a,h,E',rfl,X,S',v⟩
 |false=>
  simp only[cond_false]
  have kj:=hy.length (EV.length t)
  have HT:iD ji cs=true:=by rw[kT,List.all_eq_true];exact fun q hq=>hy.ji (EV.ji t) q hq
  by_cases hy0:y=[]
  ·subst hy0
   rcases hd with⟨k,hx⟩|⟨id,base,row,ls,k1,k2,k3,k4⟩
   ·obtain⟨E',X,S',v⟩:=FQ .mB rfl hx rfl
    exact⟨.mB,h,E',by rw[ke k];rfl,X,S',v⟩
   ·obtain⟨S',X⟩:=Pw ⟨a,x.length⟩ (fun id e=>e) ⟨by simp,.inr ⟨id,base,row,ls,k1,k2,k3,by simpa using k4⟩⟩
    refine⟨a,h,_,?_,X,S',Zl ⟨a,x.length⟩ (.inr ⟨id,base,k1⟩)⟩
    subst k1;rfl
  ·have Uy:0<y.length:=List.length_pos_iff.2 hy0
   have hnz:Nat.beq y.length 0=false:=by cases q:Nat.beq y.length 0 with
    |false=>rfl
    |true=>have:=beq_true q;omega
   have Zm:Nat.beq (len cs) (Nat.mul y.length (size t))=true:=by rw[iq,kj];exact Nat.beq_refl _
   rcases hd with⟨k,hx⟩|⟨id,base,row,ls,k1,k2,k3,k4⟩
   ·subst hx
    rw[ke k]
    simp only[List.length_nil,Nat.zero_add]at r1 r2
    have hT:(SR (E.row H.next ⟨.jS h.next 0 y.length (size t),y.length⟩) (jG H2 (.l t ([]++y))) (iV h (yX cs))/\Nx E (E.row H.next ⟨.jS h.next 0 y.length (size t),y.length⟩) H (jG H2 (.l t ([]++y))) h (iV h (yX cs))):=by
     refine oA S hk.n hk.sub (Nat.le_succ _) (fun i hi _=>by rw[kt,if_neg (by omega)]) (fun i e=>by cases e;exact⟨Nat.lt_succ_self _,.inl (Nat.le_refl _)⟩) ?_ rfl
     refine⟨rfl,.inr ⟨h.next,0,yX cs,cs,rfl,by rw[kt,if_pos rfl],?_,hy⟩⟩
     refine jM.2 ⟨by rw[<-jJ,lT,kj,Nat.zero_add];exact Nat.le_refl _,?_⟩
     rw[lT]
     show cs=List.take (y.length*size t) _
     rw[<-kj,List.drop_zero,List.take_length]
    refine⟨_,_,_,?_,hT.2,hT.1,Zl _ (.inr ⟨h.next,0,rfl⟩)⟩
    show(bif Nat.beq y.length 0 then Go.Ab.Ro.ok .mB h else bif Nat.ble (Nat.mul y.length bytes) 70368744177664&&(iD ji cs&&(Nat.beq (len cs) (Nat.mul y.length (size t))&&Nat.ble y.length 70368744177664))then .ok (.jS h.next 0 y.length (size t)) (iV h (yX cs))else .bad)=_
    rw[hnz,HT,Zm,show Nat.ble (Nat.mul y.length bytes) 70368744177664=true from by rw[Nat.ble_eq];exact r1,show Nat.ble y.length 70368744177664=true from by rw[Nat.ble_eq];exact r2]
    rfl
   ·subst k1
    obtain⟨p,p1,p2⟩:=Pv k3
    obtain⟨r,o,no,er⟩:=hk.id id rfl
    have hT:(SR (E.row H.next ⟨.jS h.next 0 (x.length+y.length) (size t),x.length+y.length⟩) (jG H2 (.l t (x++y))) (iV (mO h id none) (p.app cs))/\Nx E (E.row H.next ⟨.jS h.next 0 (x.length+y.length) (size t),x.length+y.length⟩) H (jG H2 (.l t (x++y))) h (iV (mO h id none) (p.app cs))):=by
     refine oA S hk.n hk.sub (Nat.le_succ _) (fun i hi q=>?_) (fun i e=>by cases e;exact⟨Nat.lt_succ_self _,.inl (Nat.le_refl _)⟩) ?_ rfl
     ·rw[kt,if_neg (by show ¬ i=h.next;omega),m0,if_neg]
      intro ei
      exact q r o no (by rw[ei];exact er)
     ·have Li:=k4.app hy
      have hlen:=Li.length (EV.length t)
      refine⟨by rw[List.length_append],.inr ⟨h.next,0,p.app cs,ls++cs,rfl,by rw[kt];exact if_pos rfl,?_,Li⟩⟩
      refine jM.2 ⟨by rw[<-jJ,vY,p2,hlen,Nat.zero_add,List.length_append];exact Nat.le_refl _,?_⟩
      rw[vY,p2]
      show ls++cs=List.take ((x.length+y.length)*size t) _
      rw[<-List.length_append (as:=x),<-hlen,List.drop_zero,List.take_length]
    refine⟨_,_,_,?_,hT.2,hT.1,Zl _ (.inr ⟨h.next,0,rfl⟩)⟩
    show(bif Nat.beq y.length 0 then Go.Ab.Ro.ok (.jS id base x.length (size t)) h else match h.cw.get id with
     |none=>.bad
     |some cs'=>match cs'.sub base (Nat.mul x.length (size t))with
      |none=>.bad
      |some pre=>bif Nat.ble (Nat.mul (Nat.add x.length y.length) bytes) 70368744177664&&(Nat.beq (size t) (size t)&&(iD ji cs&&(Nat.beq (len cs) (Nat.mul y.length (size t))&&Nat.ble (Nat.add x.length y.length) 70368744177664)))then
       .ok (.jS h.next 0 (Nat.add x.length y.length) (size t)) (iV (mO h id none) (pre.app cs))else .bad)=_
    have p1':row.sub base (Nat.mul x.length (size t))=some p:=p1
    rw[hnz]
    simp only[cond_false,k2,p1']
    rw[HT,Zm,Nat.beq_refl,show Nat.ble (Nat.mul (Nat.add x.length y.length) bytes) 70368744177664=true from by rw[Nat.ble_eq];exact r1,show Nat.ble (Nat.add x.length y.length) 70368744177664=true from by rw[Nat.ble_eq];exact r2]
    rfl
theorem HY{E:En}{H H':Hq}{h:Hp}(S:SR E H h){bytes:Nat}{t:Ty}{s:Sv}{a:AV}{y:List (den t)}{cs:List AV}{z:Bool}{T T':Tq}{v:Sv}(hv:V E H.next s a)(hy:nW (EV E.G t) y cs)(hz:z=true->y=[])(e:(apT bytes t s y T H).val=some (v,T',H')):
 T'=T/\ ∃ c h' E',(bif vh a&&z then Go.Ab.Ro.ok a h else vU (size t) bytes h (xg a) y.length cs)=.ok c h'/\Nx E E' H H' h h'/\SR E' H' h'/\V E' H'.next v c:=by
 unfold apT at e
 split at e
 ·rename_i x H1 hx
  split at e
  ·rename_i H2 hH2
   obtain⟨q,e⟩:=Lf.T.cy e
   obtain⟨rfl,rfl,rfl⟩:=cD e
   obtain⟨E1,F,D⟩:=DB S hv hx
   have k:=DC (F.v hv) hH2
   obtain⟨c,h',E',e1,X,S',um⟩:=abp F.S D k (hy.mono (EV.mono F.g t)) hz q (z:=z)
   rw[cX]
   exact⟨rfl,c,h',E',e1,F.X.trans X,S',um⟩
  ·cases e
 ·cases e
theorem VQ{h:Hp}{b:AV}{n:Nat}{cs:List AV}(hz:Tv b=true)(e:iS h (xg b)=some (n,cs)):n=0:=by
 cases b with
 |jS id off m s=>
  have hz:=beq_true (show Nat.beq m 0=true from hz)
  change (match h.cw.get id with|some cs=>(match cs.oV off (Nat.mul m s)with|some l=>some (m,l)|none=>none)|none=>none)=some (n,cs)at e
  split at e
  ·split at e
   ·cases e;exact hz
   ·cases e
  ·cases e
 |qT m l=>
  have hz':=beq_true (show Nat.beq m 0=true from hz)
  cases e;exact hz'
 |mB=>cases e;rfl
 |sK=>cases e;rfl
 |sc v=>
  have:jf (.sc v)=true:=hz
  rw[ke this]at e
  cases e;rfl
 | _=>cases hz
theorem tJ{size bytes:Nat}{s x:Od}{t:Tm}{h:Hp}{a b:AV}{n:Nat}{cs:List AV}(h1:cY s t=some a)(h2:cY x t=some b)(h3:iS h (xg b)=some (n,cs)):
 ka size bytes (cY s) (cY x) t h=(bif vh a&&Tv b then Go.Ab.Ro.ok a h else vU size bytes h (xg a) n cs):=by
 unfold ka
 rw[h1,h2]
 show(bif vh a&&Tv b then Go.Ab.Ro.ok a h else rU size bytes (wO (cY s)) (wO (cY x)) t h)=_
 congr 1
 unfold rU
 rw[show wO (cY s) t=some (xg a)from by unfold wO;rw[h1],show wO (cY x) t=some (xg b)from by unfold wO;rw[h2]]
 simp only[h3]
theorem tK{E:En}{H:Hq}{h:Hp}(S:SR E H h){v:Sv}{b:AV}{n:Nat}{l:List Sv}(hv:V E H.next v b)(e:wE v H=some (n,l)):
 ∃ cs,iS h (xg b)=some (n,cs)/\Vs E H.next l cs/\(n=0->Tv b=true)/\((jf b=true/\n=0/\l=[])∨ ∃ r s off id row,v=.xo r s off n/\b=.jS id off n s/\h.cw.get id=some row/\row.oV off (n*s)=some cs):=by
 unfold wE at e
 split at e
 ·obtain⟨hb,e⟩:=iu e
  cases e
  cases hv with
  |a hl=>
   refine⟨[],by rw[ke hb];rfl,.nil,fun _=>?_,.inl ⟨hb,rfl,rfl⟩⟩
   cases b<;>first|rfl|(cases hl;done)|exact hb
 ·rename_i r s off m
  split at e
  ·rename_i l0 hl
   have hle:=Nat.le_of_ble_eq_true (iu e).1
   replace e:=(iu e).2
   cases e
   obtain⟨id,row,k1,k2,k3⟩:=xL S hl
   cases hv with
   |xo h1 h2=>
    rw[k1]at h2;cases h2
    rw[iq,k3.length]at hle
    have agB:off+n*s<=row.toL.length:=hle
    rw[tl,nr]
    have jE:=(k3.drop off).take (n*s)
    have hs:row.oV off (n*s)=some ((row.toL.drop off).take (n*s)):=HQ agB
    refine⟨_,?_,jE,fun hn=>by subst hn;rfl,.inr ⟨r,s,off,id,row,rfl,rfl,k2,hs⟩⟩
    show(match h.cw.get id with|some cs=>(match cs.oV off (Nat.mul n s)with|some l=>some (n,l)|none=>none)|none=>none)=_
    rw[k2]
    have hs':row.oV off (Nat.mul n s)=_:=hs
    simp only[hs']
  ·cases e
 ·cases e
theorem jv{α:Type}{b:Bool}{x:T α}{r:α}(h:(bif b then x else T.bad).val=some r):b=true/\x.val=some r:=by
 cases b with
 |true=>exact⟨rfl,h⟩
 |false=>cases h
theorem AB{t:Ty}{v:Sv}{a:AV}{x:List (den t)}{E:En}{H H1:Hq}{h:Hp}(S:SR E H h)(hv:V E H.next v a)(e:Au t v H=some (x,H1)): ∃ E1,Fz E E1 H H1 h/\ ∃ cs,iS h (xg a)=some (x.length,cs)/\nW (EV E1.G t) x cs:=by
 unfold Au at e
 split at e
 ·rename_i r hr
  cases e
  obtain⟨E1,F,D⟩:=DB S hv hr
  refine⟨E1,F,?_⟩
  rcases D with⟨d1,rfl⟩|⟨id,base,row,ls,d1,d2,d3,d4⟩
  ·exact⟨[],by rw[ke d1];rfl,rfl⟩
  ·refine⟨ls,?_,d4⟩
   rw[d1]
   show(match h.cw.get id with|some cs=>(match cs.oV base (Nat.mul x.length (size t))with|some l=>some (x.length,l)|none=>none)|none=>none)=_
   rw[d2]
   have s':row.oV base (Nat.mul x.length (size t))=some ls:=d3
   simp only[s']
 ·obtain⟨E1,F,kc⟩:=Po S hv e
  obtain⟨cs,c1,c2⟩:=LA F.S kc
  exact⟨E1,F,cs,c1,c2⟩
theorem Px{size bytes:Nat}{sv xv v:Sv}{T T':Tq}{E:En}{H H':Hq}{h:Hp}{t:Tm}{s x:Od}{a b:AV}(S:SR E H h)(hs:cY s t=some a)(MY:V E H.next sv a)(hx:cY x t=some b)(Oq:V E H.next xv b)(e:(O3 size bytes sv xv T H).val=some (v,T',H')):
 T'=T/\ ∃ c h' E',ka size bytes (cY s) (cY x) t h=.ok c h'/\Nx E E' H H' h h'/\SR E' H' h'/\V E' H'.next v c:=by
 unfold O3 at e
 obtain⟨hb,e⟩:=jv e
 rw[Bool.and_eq_true,Bool.and_eq_true]at hb
 have typed: ∀ {ty:Ty},(bif Nat.beq size (Lf.size ty)then(match Au ty xv H with|some (new,h1)=>apT bytes ty sv new T h1|none=>.bad)else .bad).val=some (v,T',H')->T'=T/\ ∃ c h' E',ka size bytes (cY s) (cY x) t h=.ok c h'/\Nx E E' H H' h h'/\SR E' H' h'/\V E' H'.next v c:=by
  intro ty e
  obtain⟨hz,e⟩:=jv e
  have hz:=beq_true hz
  split at e
  ·rename_i new H1 hn
   obtain⟨E1,F,cs,c1,c2⟩:=AB S Oq hn
   obtain⟨rfl,c,h',E',e1,X,S',um⟩:=HY F.S (F.v MY) c2 (z:=Tv b) (fun q=>List.eq_nil_of_length_eq_zero (VQ q c1)) e
   refine⟨rfl,c,h',E',?_,F.X.trans X,S',um⟩
   rw[tJ hs hx c1,hz];exact e1
  ·cases e
 split at e
 ·
  rename_i l hl
  obtain⟨cs,c1,_,c3,_⟩:=tK S Oq hl
  have hzb:=c3 rfl
  have res: ∀ w:Sv,w=v/\T'=T/\H'=H->V E H.next w a->(vh a=true∨jf a=true∨ ∃ id o n z,a=.jS id o n z)->T'=T/\ ∃ c h' E',ka size bytes (cY s) (cY x) t h=.ok c h'/\Nx E E' H H' h h'/\SR E' H' h'/\V E' H'.next v c:=by
   rintro w ⟨rfl,rfl,rfl⟩ hw hc
   refine⟨rfl,a,h,E,?_,Nx.refl _ _ _,S,hw⟩
   rw[tJ hs hx c1,hzb]
   cases he:vh a with
   |true=>rfl
   |false=>
    rcases hc with hc|hc|⟨id,o,n,z,hc⟩
    ·rw[he]at hc;cases hc
    ·have:a=.mB:=by cases a<;>first|rfl|(cases he;done)|(cases hc;done)|(rename_i v0;have k:vh (.sc v0)=true:=hc;rw[k]at he;cases he)
     subst this
     rfl
    ·subst hc;rfl
  split at e
  ·obtain⟨hw,e⟩:=jv e
   cases MY with
   |a hl=>exact res _ (cD e) (.a hl) (.inl hw)
  ·refine res _ (cD e) MY (.inr ?_)
   cases MY with
   |os h1 h2=>
    rcases h2 with⟨h2,_⟩|⟨_,_,h2⟩
    ·exact .inl h2
    ·exact .inr ⟨_,_,_,_,h2⟩
  ·refine res _ (cD e) MY (.inr ?_)
   cases MY with
   |se _ h2 _ _=>exact .inl h2
   |ss _ _ _=>exact .inr ⟨_,_,_,_,rfl⟩
  ·refine res _ (cD e) MY (.inr ?_)
   cases MY with
   |xo _ _=>exact .inr ⟨_,_,_,_,rfl⟩
  ·cases e
 ·rename_i m new hm hl
  have hm0:m=0->False:=fun k=>hm k
  obtain⟨cs,c1,c2,c3,c4⟩:=tK S Oq hl
  split at e
  ·rename_i n uL ho
   split at e
   ·rename_i H2 hH2
    obtain⟨hr,e⟩:=jv e
    rw[Bool.and_eq_true]at hr
    obtain⟨rfl,rfl,rfl⟩:=cD e
    obtain⟨r1,r2⟩:=pH.1 hr.1
    obtain⟨ds,d1,d2,d3,d4⟩:=tK S MY ho
    have k:=DC MY hH2
    have apw:0<m:=Nat.pos_of_ne_zero fun q=>hm0 q
    obtain⟨r',s',ar7,zQ,VK,x1,x2,x3,x4⟩: ∃ r s off id row,xv=.xo r s off m/\b=.jS id off m s/\h.cw.get id=some row/\row.oV off (m*s)=some cs:=by
     rcases c4 with⟨_,q,_⟩|q
     ·omega
     ·exact q
    have hs':s'=size:=by have q:=beq_true hb.2.1;rw[x1]at q;exact q
    have kj:cs.length=m*size:=by
     obtain⟨q1,q2⟩:=jM.1 x4
     rw[q2,List.length_take,List.length_drop,jJ,hs'];rw[hs']at q1;omega
    have hnz:Nat.beq m 0=false:=by cases q:Nat.beq m 0 with
     |false=>rfl
     |true=>have:=beq_true q;omega
    have Zm:Nat.beq (len cs) (Nat.mul m size)=true:=by rw[iq,kj];exact Nat.beq_refl _
    have hzb:Tv b=false:=by rw[x2];exact hnz
    have HT:iD ji cs=true:=by
     rw[kT,List.all_eq_true]
     refine c2.Hb fun q hq=>?_
     have:=hr.2;rw[kT,List.all_eq_true]at this;exact this q hq
    have sP:0<size:=ic.1 hb.2.2
    rw[cX]
    refine⟨rfl,?_⟩
    rw[tJ hs hx c1,hzb,Bool.and_false,cond_false]
    have Zl:V (E.row H.next ⟨.ref h.next 0,0⟩) (jG H2 (.o 0 (uL++new))).next (.xo H2.next size 0 (Nat.add n m)) (.jS h.next 0 (n+m) size):=by
     refine .xo (id:=h.next) (Nat.lt_succ_self _) ?_
     show(if H2.next=H.next then _ else _:Kr).av=_
     rw[if_pos k.n]
    rcases d4 with⟨q1,q2,q3⟩|⟨r1',VS,VT,id1,alW,y1,y2,y3,y4⟩
    ·subst q2;subst q3
     rw[ke q1]
     simp only[Nat.add_eq,Nat.zero_add]at r1 r2
     have hT:SR (E.row H.next ⟨.ref h.next 0,0⟩) (jG H2 (.o 0 ([]++new))) (iV h (yX cs))/\Nx E (E.row H.next ⟨.ref h.next 0,0⟩) H (jG H2 (.o 0 ([]++new))) h (iV h (yX cs)):=by
      refine oA S k.n k.sub (Nat.le_succ _) (fun i hi _=>by rw[kt,if_neg (by omega)]) (fun i e=>by cases e;exact⟨Nat.lt_succ_self _,.inl (Nat.le_refl _)⟩) ?_ rfl
      exact⟨h.next,yX cs,rfl,by rw[kt,if_pos rfl],by rw[lT];exact c2,fun h=>(h rfl).elim⟩
     rw[Nat.zero_add]at Zl
     refine⟨_,_,_,?_,hT.2,hT.1,Zl⟩
     show(bif Nat.beq m 0 then Go.Ab.Ro.ok .mB h else bif Nat.ble (Nat.mul m bytes) 70368744177664&&(iD ji cs&&(Nat.beq (len cs) (Nat.mul m size)&&Nat.ble m 70368744177664))then .ok (.jS h.next 0 m size) (iV h (yX cs))else .bad)=_
     rw[hnz,HT,Zm,show Nat.ble (Nat.mul m bytes) 70368744177664=true from by rw[Nat.ble_eq];exact r1,show Nat.ble m 70368744177664=true from by rw[Nat.ble_eq];exact r2]
     rfl
    ·have BD:VS=size:=by have q:=beq_true hb.1;rw[y1]at q;exact q
     subst BD
     subst y2
     obtain⟨p,p1,p2⟩:=Pv y4
     obtain⟨r,o,no,er⟩:=k.id id1 rfl
     have hT:SR (E.row H.next ⟨.ref h.next 0,0⟩) (jG H2 (.o 0 (uL++new))) (iV (mO h id1 none) (p.app cs))/\Nx E (E.row H.next ⟨.ref h.next 0,0⟩) H (jG H2 (.o 0 (uL++new))) h (iV (mO h id1 none) (p.app cs)):=by
      refine oA S k.n k.sub (Nat.le_succ _) (fun i hi q=>?_) (fun i e=>by cases e;exact⟨Nat.lt_succ_self _,.inl (Nat.le_refl _)⟩) ?_ rfl
      ·rw[kt,if_neg (by show ¬ i=h.next;omega),m0,if_neg]
       intro ei
       exact q r o no (by rw[ei];exact er)
      ·refine⟨h.next,p.app cs,rfl,by rw[kt];exact if_pos rfl,?_,fun h=>(h rfl).elim⟩
       rw[vY,p2]
       change iS h (.jS id1 VT n VS)=some (n,ds)at d1
       have:ds=ds:=rfl
       exact d2.app c2
     refine⟨_,_,_,?_,hT.2,hT.1,Zl⟩
     show(bif Nat.beq m 0 then Go.Ab.Ro.ok (.jS id1 VT n VS) h else match h.cw.get id1 with
      |none=>.bad
      |some cs'=>match cs'.sub VT (Nat.mul n VS)with
       |none=>.bad
       |some pre=>bif Nat.ble (Nat.mul (Nat.add n m) bytes) 70368744177664&&(Nat.beq VS VS&&(iD ji cs&&(Nat.beq (len cs) (Nat.mul m VS)&&Nat.ble (Nat.add n m) 70368744177664)))then
        .ok (.jS h.next 0 (Nat.add n m) VS) (iV (mO h id1 none) (pre.app cs))else .bad)=_
     have p1':alW.sub VT (Nat.mul n VS)=some p:=p1
     rw[hnz]
     simp only[cond_false,y3,p1']
     rw[HT,Zm,Nat.beq_refl,show Nat.ble (Nat.mul (Nat.add n m) bytes) 70368744177664=true from by rw[Nat.ble_eq];exact r1,show Nat.ble (Nat.add n m) 70368744177664=true from by rw[Nat.ble_eq];exact r2]
     rfl
   ·cases e
  ·split at e
   ·exact typed e
   ·cases e
 ·split at e
  ·exact typed e
  ·cases e
end Lf
end Go.Ab

noncomputable section
namespace Go.Ab
namespace Lf
theorem Py{E:En}{H:Hq}{h:Hp}(S:SR E H h){r:Nat}{R R':Row}(hr:H.cw.get r=some R)(lv:R.live=true)(hR:RV E H.next h (E.K r) R'):SR E (mG H r (some R')) h/\Nx E E H (mG H r (some R')) h h:=by
 have ow: ∀ q,own (mG H r (some R')) q->own H q:=by
  rintro q ⟨Q,a,b⟩
  rw[jX]at a
  split at a
  ·rename_i e;rw[e];exact⟨R,hr,lv⟩
  ·exact⟨Q,a,b⟩
 refine⟨⟨?_,?_,?_,?_⟩,⟨zj.refl _ _,Nat.le_refl _,Nat.le_refl _,fun q id o e=>.inl ⟨q,ow q o,e⟩,fun _ _ e=>.inl e,fun _ _ _=>rfl⟩⟩
 ·intro q Q hq
  rw[jX]at hq
  split at hq
  ·rename_i e;subst e;cases hq;exact⟨(S.row _ _ hr).1,hR⟩
  ·exact S.row _ _ hq
 ·exact fun a b i oa ob ea eb=>S.inj a b i (ow a oa) (ow b ob) ea eb
 ·exact fun a i oa ea=>S.lt a i (ow a oa) ea
 ·intro i row e
  obtain⟨a,b,c⟩:=S.g i row e
  exact⟨a,b,fun q oq=>c q (ow q oq)⟩
theorem Pz{G:Nat->Option Rw}{t:Ty}{x y:List (den t)}{ls cs:List AV}(e:nW (EV G t) x ls)(k:nW (EV G t) y cs)(off:Nat):nW (EV G t) (x.take off++(y++x.drop (off+y.length))) (ls.take (off*size t)++(cs++ls.drop (off*size t+y.length*size t))):=by
 have h1:=e.take (EV.length t) off
 have h2:=e.drop (EV.length t) (off+y.length)
 rw[Nat.add_mul]at h2
 exact h1.app (k.app h2)
theorem LG{size:Nat}{d s:Od}{t:Tm}{h:Hp}{b:AV}{m:Nat}{cs:List AV}(h1:cY d t=some .mB)(h2:cY s t=some b)(h3:iS h b=some (m,cs)):oQ size (cY d) (cY s) t h=.ok (.int .i64 (.ofNat 0)) h:=by
 unfold oQ
 rw[h1,h2]
 simp only[h3]
theorem VU{size:Nat}{d s:Od}{t:Tm}{h:Hp}{b:AV}{m id off n sz:Nat}{cs:List AV}(h1:cY d t=some (.jS id off n sz))(h2:cY s t=some b)(h3:iS h b=some (m,cs))(h0:min m n=0):oQ size (cY d) (cY s) t h=.ok (.int .i64 (.ofNat 0)) h:=by
 unfold oQ
 rw[h1,h2]
 simp only[h3,vZ,h0]
 rfl
theorem VV{size:Nat}{d s:Od}{t:Tm}{h:Hp}{b:AV}{m id off n sz:Nat}{cs:List AV}{row:Rw}(h1:cY d t=some (.jS id off n sz))(h2:cY s t=some b)(h3:iS h b=some (m,cs))(h0:min m n≠0)(hr:h.cw.get id=some row)(hz:0<size)(hs:sz=size)
 (hl:cs.length=m*size)(hc: ∀ a,a∈cs->ji a=true)(hn:off+min m n*size<=row.n):oQ size (cY d) (cY s) t h=.ok (.int .i64 (.ofNat (min m n))) (mO h id (some (row.put off (cs.take (min m n*size))))):=by
 unfold oQ
 rw[h1,h2]
 have hb:Nat.beq (min m n) 0=false:=by
  cases q:Nat.beq (min m n) 0 with
  |false=>rfl
  |true=>exact(h0 (Nat.eq_of_beq_eq_true q)).elim
 have q:((Nat.blt 0 size&&(Nat.beq sz size&&(Nat.beq (len cs) (Nat.mul m size)&&iD Go.Ab.ji cs)))&&Nat.ble (Nat.add off (Nat.mul (min m n) size)) row.n)=true:=by
  have a1:Nat.blt 0 size=true:=by simpa using hz
  have a2:Nat.beq sz size=true:=by rw[hs];exact Nat.beq_refl _
  have a3:Nat.beq (len cs) (Nat.mul m size)=true:=by rw[iq,hl];exact Nat.beq_refl _
  have a4:iD Go.Ab.ji cs=true:=by rw[kT,List.all_eq_true];exact hc
  have a5:Nat.ble (Nat.add off (Nat.mul (min m n) size)) row.n=true:=by rw[Nat.ble_eq];exact hn
  rw[a1,a2,a3,a4,a5]
  rfl
 simp only[h3,vZ,hb,cond_false,hr,q,cond_true,tl]
 rfl
theorem VW{row:Rw}{ls new:List AV}{base k o:Nat}(s:row.oV base k=some ls)(hk:ls.length=k)(ho:o+new.length<=k):(row.put (base+o) new).oV base k=some (ls.take o++(new++ls.drop (o+new.length))):=by
 obtain⟨s1,s2⟩:=jM.1 s
 have hn:base+o+new.length<=row.n:=by omega
 refine jM.2 ⟨by show base+k<=row.n;exact s1,?_⟩
 have vk:row.toL=row.toL.take base++(ls++row.toL.drop (base+k)):=by
  rw[s2,<-List.drop_drop,List.take_append_drop,List.take_append_drop]
 have Hk:(row.toL.take base).length=base:=by rw[List.length_take,jJ];omega
 have e1:=zk ls (row.toL.drop (base+k)) new o (by omega) (row.toL.take base)
 rw[<-vk,Hk]at e1
 rw[vX hn,e1,List.drop_append_of_le_length (by rw[Hk];exact Nat.le_refl _)]
 rw[show List.drop base (row.toL.take base)=[]from by rw[List.drop_eq_nil_iff,Hk];exact Nat.le_refl _,List.nil_append]
 rw[List.take_append_of_le_length (by rw[zl _ _ _ (by omega)];omega)]
 rw[show List.take k (put ls o new)=put ls o new from by rw[List.take_of_length_le];rw[zl _ _ _ (by omega)];omega]
 rw[put_eq]
theorem PA{size:Nat}{d s:Od}{r sz off n:Nat}{sv v:Sv}{E:En}{T T':Tq}{t:Tm}{H H':Hq}{h:Hp}{b c:AV}(hT:TV E H.next T t)(S:SR E H h)(hs:cY s t=some (xg b))(MY:V E H.next sv b)(hd:cY d t=some (xg c))
 (hk:(n=0/\jf c=true)∨ ∃ id base,(E.K r).av=.jS id base (E.K r).n sz/\c=.jS id (base+off*sz) n sz/\off+n<=(E.K r).n)(e:(Vr size sv r sz off n T H).val=some (v,T',H')):
 ∃ a h' E',Ev (fun _ _=>oQ size (cY d) (cY s) t h) (.ok a h')/\Nx E E' H H' h h'/\SR E' H' h'/\V E' H'.next v a/\TV E' H'.next T' t:=by
 unfold Vr at e
 split at e
 ·rename_i ty x hr
  obtain⟨hb,e⟩:=jv e
  rw[Bool.and_eq_true,Bool.and_eq_true]at hb
  obtain⟨b0,b1,b2⟩:=hb
  have b0:0<size:=by simpa using b0
  have b1:=beq_true b1
  have b2:=beq_true b2
  split at e
  ·rename_i y H1 hy
   split at e
   ·rename_i t2 x2 hr2
    obtain⟨rfl,rfl,rfl⟩:=cD e
    obtain⟨E1,F,cs,c1,c2⟩:=AB S MY hy
    have q:=(S.row _ _ hr).2
    have kj:cs.length=y.length*size:=by rw[c2.length (EV.length ty),b2]
    have lrm:LR E1.G ty x (E1.K r) h.cw.get:=by rw[F.K];exact LR.mono F.g (fun _ _ _ e=>e) q
    rw[cX,cX]
    by_cases h0:min y.length n=0
    ·have BC:x.take off++(y.take (min y.length n)++x.drop (Nat.add off (min y.length n)))=x:=by
      rw[h0,List.take_zero,List.nil_append]
      exact List.take_append_drop _ _
     rw[BC]
     obtain⟨S1,X1⟩:=Py F.S hr2 rfl (R':=.l ty x) lrm
     refine⟨.int .i64 (.ofNat 0),h,E1,?_,F.X.trans X1,S1,?_,hT.mono (F.X.trans X1).e (F.X.trans X1).le⟩
     ·rcases hk with⟨hn,hc⟩|⟨id,base,k1,k2,k3⟩
      ·exact Ev.const (LG (by rw[hd,ke hc]) hs c1)
      ·exact Ev.const (VU (by rw[hd,k2];rfl) hs c1 h0)
     ·rw[h0];exact ks
    ·rcases hk with⟨hn,hc⟩|⟨id,base,k1,k2,k3⟩
     ·subst hn;rw[Nat.min_zero]at h0;exact(h0 rfl).elim
     ·rcases lrm.2 with⟨k,_⟩|⟨zQ,Pj,row,ls,p1,p2,p3,p4⟩
      ·rw[F.K,k1]at k;cases k
      ·rw[F.K,k1]at p1
       injection p1 with a1 a2 a3 a4
       subst a1;subst a2
       have hxn:x.length=(E.K r).n:=q.1
       have hls:ls.length=(E1.K r).n*size:=by rw[p4.length (EV.length ty),F.K,hxn,b2]
       obtain⟨w,hw⟩: ∃ w,w=min y.length n:=⟨_,rfl⟩
       have hwn:w<=n:=by rw[hw];exact Nat.min_le_right _ _
       have hwy:w<=y.length:=by rw[hw];exact Nat.min_le_left _ _
       have hyl:(y.take w).length=w:=by rw[List.length_take];exact Nat.min_eq_left hwy
       have hcw:(cs.take (w*size)).length=w*size:=by
        rw[List.length_take,kj];exact Nat.min_eq_left (Nat.mul_le_mul_right _ hwy)
       have hm:off*size+w*size<=(E.K r).n*size:=by rw[<-Nat.add_mul];exact Nat.mul_le_mul_right _ (by omega)
       have p3':row.oV base ((E1.K r).n*size)=some ls:=by rw[b2];exact p3
       obtain⟨s1,_⟩:=jM.1 p3'
       rw[F.K]at s1
       have ps:=VW (o:=off*size) (new:=cs.take (w*size)) p3' hls (by rw[hcw,F.K];exact hm)
       have he:=Pz p4 (by have:=c2.take (EV.length ty) w;rw[<-b2]at this;exact this) off
       rw[hyl,<-b2]at he
       rw[hcw]at ps
       have mQ:oM (E1.K r).av=some id:=by rw[F.K,k1];rfl
       have hR:RV E1 H1.next (mO h id (some (row.put (base+off*size) (cs.take (w*size))))) (E1.K r) (.l ty (x.take off++(y.take w++x.drop (off+w)))):=by
        refine⟨?_,.inr ⟨id,base,_,_,by rw[F.K,k1,b1,b2],by rw[m0,if_pos rfl],by rw[<-b2];exact ps,he⟩⟩
        rw[F.K,<-hxn,List.length_append,List.length_append,List.length_take,hyl,List.length_drop]
        omega
       obtain⟨S1,X1⟩:=DA F.S hr2 rfl rfl mQ hR
       rw[<-hw]
       refine⟨.int .i64 (.ofNat w),_,E1,Ev.const ?_,F.X.trans X1,S1,ks,hT.mono (F.X.trans X1).e (F.X.trans X1).le⟩
       have:=VV (size:=size) (by rw[hd,k2];rfl) hs c1 h0 p2 b0 b1 kj (nW.ji (EV.ji ty) c2) (by rw[b1,<-hw];omega)
       rw[b1,<-hw]at this
       exact this
   ·cases e
  ·cases e
 ·cases e
theorem PB(size:Nat)(d s:Od):jN (O7 size d s) (fun _ _=>oQ size (cY d) (cY s)):=by
 intro E T t H h v T' H' hT hH e
 unfold O7 at e
 split at e
 ·rename_i sv hs
  obtain⟨b,hb,JQ⟩:=qK hT hs
  split at e
  ·rename_i r sz hd
   obtain⟨c,hc,kr⟩:=qK hT hd
   split at e
   ·rename_i ty x hr
    refine PA hT hH hb JQ hc ?_ e
    have q:=(hH.row _ _ hr).2
    cases kr with
    |os h1 h2=>
     rcases h2 with⟨h2,h3⟩|⟨id,base,h2⟩
     ·exact .inl ⟨by have:=q.1;omega,h2⟩
     ·exact .inr ⟨id,base,h2,by rw[h2,q.1,Nat.zero_mul,Nat.add_zero],by have:=q.1;omega⟩
   ·cases e
  ·rename_i r sz off n hd
   obtain⟨c,hc,kr⟩:=qK hT hd
   refine PA hT hH hb JQ hc ?_ e
   cases kr with
   |se h1 h2 h3 h4=>exact .inl ⟨rfl,h2⟩
   |ss h1 h2 h3=>exact .inr ⟨_,_,h2,rfl,h3⟩
  ·cases e
 ·cases e
end Lf
end Go.Ab

noncomputable section
namespace Go.Ab
namespace Lf
theorem HZ(size bytes:Nat)(s x:Od):jN (Du size bytes s x) (fun _ _=>ka size bytes (cY s) (cY x)):=by
 intro E T t H h v T' H' hT hH e
 unfold Du at e
 split at e
 ·rename_i sv hs
  split at e
  ·rename_i xv hx
   obtain⟨a,ha,yG⟩:=cV hT hs
   obtain⟨b,hb,JQ⟩:=cV hT hx
   obtain⟨rfl,c,h',E',e1,X,S',um⟩:=Px hH ha yG hb JQ e
   exact⟨c,h',E',Ev.const e1,X,S',um,hT.mono X.e X.le⟩
  ·cases e
 ·cases e
theorem abt:SR ⟨fun _=>⟨.any,0⟩,fun _=>.any,fun _=>none,fun _=>.any⟩ ⟨0,.nil⟩ ⟨0,.nil⟩:=
 ⟨(fun _ _ e=>by cases e),(fun _ _ _ o=>by obtain⟨_,e,_⟩:=o;cases e),(fun _ _ o=>by obtain⟨_,e,_⟩:=o;cases e),(fun _ _ e=>by cases e)⟩
theorem FR{z:List AV}{t:Ty}{x:den t}(e:JG z=some ⟨t,x⟩)(G:Nat->Option Rw):EV G t x z:=by
 unfold JG at e
 split at e
 ·rename_i t' ht
  split at e
  ·rename_i l hl
   split at e
   ·rename_i y q hy
    cases e
    obtain⟨E',c,d,F,hcd,hev,hd⟩:=vw t _ _ _ l [] z x q abt (wG hl) hy
    have:d=[]:=by cases hd;rfl
    rw[this,List.append_nil]at hcd
    rw[hcd]
    refine EV.mono (fun id row k=>?_) _ _ _ hev
    have:=(F.S.g id row k).1
    exact absurd this (Nat.not_lt_zero _)
   ·cases e
  ·cases e
 ·cases e
theorem DD{G:Nat->Option Rw}{t:Ty}{x:den t}{z:List AV}(h:EV G t x z): ∀ n,nW (EV G t) (List.replicate n x) (ki n z)
 |0=>rfl
 |n+1=>by
  rw[List.replicate_succ]
  show nW _ _ (app z (ki n z))
  rw[cX]
  exact⟨z,_,rfl,h,DD h n⟩
theorem PC(size bytes:Nat)(z:List AV)(s x:Od):jN (O4 size bytes z s x) (fun _ _=>tf size bytes z (cY s) (cY x)):=by
 intro E T t H h v T' H' hT hH e
 unfold O4 at e
 split at e
 ·rename_i sv hs
  split at e
  ·rename_i xv hx
   split at e
   ·rename_i k n hn
    obtain⟨_,e⟩:=jv e
    split at e
    ·rename_i ty y hz
     obtain⟨hb,e⟩:=jv e
     obtain⟨h0,e⟩:=Lf.T.cy e
     rw[Bool.and_eq_true]at hb
     have hb1:=beq_true hb.1
     obtain⟨a,ha,yG⟩:=cV hT hs
     obtain⟨b,B8,JQ⟩:=cV hT hx
     have:=kX JQ hn;subst this
     obtain⟨j,rfl⟩:=Int.eq_ofNat_of_zero_le (by simpa using h0)
     have hy:=DD (FR hz E.G) (j:Int).toNat
     obtain⟨rfl,c,h',E',e1,X,S',um⟩:=HY hH yG hy (z:=Nat.beq j 0) (fun q=>by have:=beq_true q;subst this;rfl) e
     refine⟨c,h',E',Ev.const ?_,X,S',um,hT.mono X.e X.le⟩
     unfold tf
     rw[ha,B8]
     rw[List.length_replicate]at e1
     show(bif vh a&&Nat.beq j 0 then Go.Ab.Ro.ok a h else vU size bytes h (xg a) j (ki j z))=_
     rw[hb1];exact e1
    ·cases e
   ·cases e
  ·cases e
 ·cases e
theorem xO(G:Nat->Option Rw): ∀ (l:List UInt8),nW (EV G (.int .u8)) (l.map fun b=>Int.ofNat b.toNat) (l.map fun b=>AV.int .u8 (.ofNat b.toNat))
 | []=>rfl
 |b::l=>⟨[_],_,rfl,rfl,xO G l⟩
theorem PD(bytes:Nat)(s x:Od):jN (O5 bytes s x) (fun _ _=>vV bytes (cY s) (cY x)):=by
 intro E T t H h v T' H' hT hH e
 unfold O5 at e
 split at e
 ·rename_i sv hs
  split at e
  ·rename_i xv hx
   split at e
   ·rename_i k y hn
    obtain⟨_,e⟩:=jv e
    obtain⟨a,ha,yG⟩:=cV hT hs
    obtain⟨b,B8,JQ⟩:=cV hT hx
    have:=sW JQ hn;subst this
    have hl:y.data.toList.length=y.size:=Array.length_toList
    obtain⟨rfl,c,h',E',e1,X,S',um⟩:=HY hH yG (xO E.G y.data.toList) (z:=Nat.beq y.size 0) (fun q=>by have:=beq_true q;rw[<-hl]at this;rw[List.eq_nil_of_length_eq_zero this];rfl) e
    refine⟨c,h',E',Ev.const ?_,X,S',um,hT.mono X.e X.le⟩
    unfold vV
    rw[ha,B8]
    rw[List.length_map,hl]at e1
    exact e1
   ·cases e
  ·cases e
 ·cases e
theorem FU{G:Nat->Option Rw}: ∀ {x:List Int} {cs:List AV},nW (EV G (.int .u8)) x cs->zO cs=some x
 | [],cs,h=>by
  have h:cs=[]:=h
  subst h
  rfl
 |a::x,cs,h=>by
  obtain⟨c,d,rfl,h1,h2⟩:=h
  have h1:c=[AV.int .u8 a]:=h1
  subst h1
  show(match zO d with|some r=>some (a::r)|none=>none)=_
  rw[FU h2]
theorem VX(x:Od):jN (aa' x) (fun _ _=>yz (cY x)):=by
 intro E T t H h v T' H' hT hH e
 unfold aa' at e
 split at e
 ·rename_i xv hx
  split at e
  ·rename_i y h1 hn
   obtain⟨rfl,rfl,rfl⟩:=cD e
   obtain⟨b,B8,JQ⟩:=cV hT hx
   obtain⟨E1,F,cs,c1,c2⟩:=AB hH JQ hn
   refine⟨.sc (.string (yy y)),h,E1,Ev.const ?_,F.X,F.S,.c rfl (fun q=>(q rfl).elim),hT.mono F.X.e F.X.le⟩
   unfold yz wO
   rw[B8]
   show(match iS h (xg b)with|some (n,cs)=>(match zO cs with|some l=>bif Nat.beq (len l) n then Go.Ab.Ro.ok (.sc (.string (yy l))) h else .bad|none=>.bad)|none=>.bad)=_
   rw[c1]
   show(match zO cs with|some l=>bif Nat.beq (len l) y.length then Go.Ab.Ro.ok (.sc (.string (yy l))) h else .bad|none=>.bad)=_
   rw[FU c2]
   show(bif Nat.beq (len y) y.length then Go.Ab.Ro.ok (.sc (.string (yy y))) h else .bad)=_
   rw[iq,Nat.beq_refl]
   rfl
  ·cases e
 ·cases e
theorem LH(x:Od):jN (HM x) (fun _ _=>rT (cY x)):=by
 intro E T t H h v T' H' hT hH e
 unfold HM at e
 split at e
 ·rename_i xv hx
  split at e
  ·rename_i k y hn
   obtain⟨rfl,rfl,rfl⟩:=cD e
   obtain⟨b,B8,JQ⟩:=cV hT hx
   have:=sW JQ hn;subst this
   have hl:y.data.toList.length=y.size:=Array.length_toList
   obtain⟨S,X⟩:=Zi hH (t:=.int .u8) (rw:=yX (y.data.toList.map fun b=>AV.int .u8 (.ofNat b.toNat))) (by rw[lT];exact xO E.G y.data.toList)
   refine⟨.jS h.next 0 y.size 1,_,_,Ev.const ?_,X,S,?_,hT.mono X.e X.le⟩
   ·unfold rT
    rw[B8]
   ·have hv:=V.os (E:=E.row H.next ⟨.jS h.next 0 (y.data.toList.map fun b=>Int.ofNat b.toNat).length (Lf.size (.int .u8)),(y.data.toList.map fun b=>Int.ofNat b.toNat).length⟩) (N:=(jG H (.l (.int .u8) (y.data.toList.map fun b=>Int.ofNat b.toNat))).next) (r:=H.next) (sz:=1) (Nat.lt_succ_self _) (.inr ⟨h.next,0,by show(if H.next=H.next then _ else _:Kr).av=AV.jS _ _ (if H.next=H.next then _ else _:Kr).n _;rw[if_pos rfl];rfl⟩)
    have e2:((E.row H.next ⟨.jS h.next 0 (y.data.toList.map fun b=>Int.ofNat b.toNat).length (Lf.size (.int .u8)),(y.data.toList.map fun b=>Int.ofNat b.toNat).length⟩).K H.next).av=.jS h.next 0 y.size 1:=by
     show(if H.next=H.next then _ else _:Kr).av=_
     rw[if_pos rfl]
     show AV.jS _ _ _ _=_
     rw[List.length_map,hl];rfl
    rw[e2]at hv
    exact hv
  ·cases e
 ·cases e
theorem VY{T:Tq}{l c:Od}{lv cv:Sv}{k k':IntKind}{m n:Int}(h:Lt l c=true)(h1:ng l T=some lv)(h2:ng c T=some cv)(e1:toN lv=some (k,m))(e2:toN cv=some (k',n)):m=n:=by
 unfold Lt at h
 split at h
 ·have:=beq_true h;subst this
  rw[h1]at h2;cases h2
  rw[e1]at e2;cases e2;rfl
 ·cases h1;cases h2;cases e1;cases e2
  exact ko.1 h
 ·cases h
theorem PE(size bytes:Nat)(z:List AV)(l c:Od):jN (O6 size bytes z l c) (fun _ _=>oP size bytes z (cY l) (cY c)):=by
 intro E T t H h v T' H' hT hH e
 unfold O6 at e
 split at e
 ·rename_i lv hl
  split at e
  ·rename_i cv hc
   split at e
   ·rename_i k l' hln
    split at e
    ·rename_i k' c' hcn
     split at e
     ·rename_i ty y hz
      obtain⟨hb,e⟩:=jv e
      obtain⟨h0,e⟩:=Lf.T.cy e
      obtain⟨rfl,rfl,rfl⟩:=cD e
      rw[Bool.and_eq_true]at hb
      have hb1:=beq_true hb.1
      simp only[Bool.and_eq_true,decide_eq_true_eq]at h0
      obtain⟨⟨h1,h2⟩,h3⟩:=h0
      obtain⟨a,ha,yG⟩:=cV hT hl
      obtain⟨b,B8,JQ⟩:=cV hT hc
      have:=kX yG hln;subst this
      have:=kX JQ hcn;subst this
      have heq:Lt l c=true->l'=c':=fun q=>VY q hl hc hln hcn
      obtain⟨m,rfl⟩:=Int.eq_ofNat_of_zero_le h1
      obtain⟨n,rfl⟩:=Int.eq_ofNat_of_zero_le (Int.le_trans h1 h2)
      have hmn:m<=n:=by omega
      have h3:n*bytes<=70368744177664:=h3
      have hk:oP size bytes z (cY l) (cY c) t h=bif Nat.beq n 0 then .ok .sK h else .ok (.jS h.next 0 m size) (iV h ⟨Nat.mul n (len z),z,.nil⟩):=by
       unfold oP
       rw[ha,B8]
       show(bif Nat.ble m n&&Nat.ble (Nat.mul n bytes) 70368744177664 then(bif Nat.beq n 0 then Go.Ab.Ro.ok .sK h else .ok (.jS h.next 0 m size) (iV h ⟨Nat.mul n (len z),z,.nil⟩))else .bad)=_
       rw[show Nat.ble m n=true from by rw[Nat.ble_eq];exact hmn,show Nat.ble (Nat.mul n bytes) 70368744177664=true from by rw[Nat.ble_eq];exact h3]
       rfl
      have alY:=DD (FR hz E.G) n
      simp only[Int.toNat_natCast]
      cases hn:Nat.beq n 0 with
      |true=>
       have Tz:=beq_true hn
       subst Tz
       have hm0:m=0:=by omega
       subst hm0
       rw[hn]at hk
       have MZ:SR (E.row H.next ⟨.sK,0⟩) (jG H (.l ty (List.replicate 0 y))) h/\Nx E (E.row H.next ⟨.sK,0⟩) H (jG H (.l ty (List.replicate 0 y))) h h:=
        oA hH rfl (fun _ _ e=>e) (Nat.le_refl _) (fun _ _ _=>rfl) (fun _ e=>by cases e) ⟨rfl,.inl ⟨rfl,rfl⟩⟩ rfl
       refine⟨.sK,h,_,Ev.const hk,MZ.2,MZ.1,?_,hT.mono MZ.2.e MZ.2.le⟩
       have K0:(E.row H.next ⟨.sK,0⟩).K H.next=⟨.sK,0⟩:=if_pos rfl
       cases hq:Lt l c with
       |true=>
        have:=V.os (E:=E.row H.next ⟨.sK,0⟩) (N:=(jG H (.l ty (List.replicate 0 y))).next) (r:=H.next) (sz:=size) (Nat.lt_succ_self _) (.inl (by rw[K0];exact⟨rfl,rfl⟩))
        rw[K0]at this;exact this
       |false=>
        have:=V.se (E:=E.row H.next ⟨.sK,0⟩) (N:=(jG H (.l ty (List.replicate 0 y))).next) (r:=H.next) (sz:=size) (off:=0) (Nat.lt_succ_self _) (by rw[K0];rfl) (by rw[K0]) rfl
        rw[K0]at this;exact this
      |false=>
       rw[hn]at hk
       obtain⟨S,X⟩:=Zi hH (t:=ty) (x:=List.replicate n y) (rw:=⟨Nat.mul n (len z),z,.nil⟩) (by rw[I7];exact alY)
       refine⟨_,_,_,Ev.const hk,X,S,?_,hT.mono X.e X.le⟩
       have K0:(E.row H.next ⟨.jS h.next 0 (List.replicate n y).length (Lf.size ty),(List.replicate n y).length⟩).K H.next=⟨.jS h.next 0 n size,n⟩:=by
        show(if H.next=H.next then _ else _)=_
        rw[if_pos rfl,List.length_replicate,hb1]
       cases hq:Lt l c with
       |true=>
        have alZ:m=n:=by have:=heq hq;omega
        subst alZ
        have:=V.os (E:=E.row H.next ⟨.jS h.next 0 (List.replicate m y).length (Lf.size ty),(List.replicate m y).length⟩) (N:=(jG H (.l ty (List.replicate m y))).next) (r:=H.next) (sz:=size) (Nat.lt_succ_self _) (.inr (by rw[K0];exact⟨_,_,rfl⟩))
        rw[K0]at this;exact this
       |false=>
        have:=V.ss (E:=E.row H.next ⟨.jS h.next 0 (List.replicate n y).length (Lf.size ty),(List.replicate n y).length⟩) (N:=(jG H (.l ty (List.replicate n y))).next) (r:=H.next) (sz:=size) (off:=0) (n:=m) (id:=h.next) (base:=0) (Nat.lt_succ_self _) (by rw[K0]) (by rw[K0];show 0+m<=n;omega)
        rw[Nat.zero_mul]at this;exact this
     ·cases e
    ·cases e
   ·cases e
  ·cases e
 ·cases e
def rq(call:jH)(cf:cg):Prop:= ∀ (E:En) (f:FuncId) (args:List Sv) (as:List AV) (H:Hq) (h:Hp) (v:Sv) (H':Hq),Vs E H.next args as->SR E H h->(call f args H).val=some (v,H')->
 ∃ c h' E',Ev (fun n d=>cf n d f as h) (.ok c h')/\Nx E E' H H' h h'/\SR E' H' h'/\V E' H'.next v c
section
variable {call:jH}{cf:cg}(C:rq call cf)
include C
theorem PF(f:FuncId)(args:List Od):jN (O8 call f args) (fun n d=>yc (cf n d) f (args.map cY)):=by
 intro E T t H h v T' H' hT hH e
 unfold O8 at e
 split at e
 ·rename_i vs hv
  obtain⟨p,e1,e2⟩:=Lf.T.iW e
  obtain⟨rfl,rfl,rfl⟩:=cD e2
  obtain⟨cs,hc,kr⟩:=Dw hT hv
  obtain⟨c,h',E',k,X,S,w⟩:=C E f vs cs H h p.1 p.2 kr hH e1
  refine⟨c,h',E',?_,X,S,w,hT.mono X.e X.le⟩
  unfold yc
  simp only[hc]
  exact k
 ·cases e
theorem LJ(f:Od)(args:List Od):jN (HO call f args) (fun n d=>th (cf n d) (cY f) (args.map cY)):=by
 intro E T t H h v T' H' hT hH e
 unfold HO at e
 split at e
 ·rename_i g cap hg
  split at e
  ·rename_i vs hv
   obtain⟨p,e1,e2⟩:=Lf.T.iW e
   obtain⟨rfl,rfl,rfl⟩:=cD e2
   obtain⟨a,ha,yG⟩:=cV hT hg
   obtain⟨cs,hc,kr⟩:=Dw hT hv
   cases yG with
   |fn z5=>
    rename_i l'
    rw[cX]at e1
    obtain⟨c,h',E',k,X,S,w⟩:=C E g _ _ H h p.1 p.2 (kr.app z5) hH e1
    refine⟨c,h',E',?_,X,S,w,hT.mono X.e X.le⟩
    unfold th
    simp only[ha,hc,cX]
    exact k
  ·cases e
 ·cases e
omit C in
theorem FV{h:Hp}: ∀ (l:List Sv) (cs:List AV) (E:En) (H:Hq),SR E H h->Vs E H.next l cs->
 ∃ E',Nx E E' H ⟨(jm l H.next).2,H.cw⟩ h h/\SR E' ⟨(jm l H.next).2,H.cw⟩ h/\Vs E' (jm l H.next).2 (jm l H.next).1 cs:=by
 intro l
 induction l with
 |nil=>intro cs E H S v;exact⟨E,Nx.refl _ _ _,S,v⟩
 |cons a l ih=>
  intro cs E H S v
  have plain: ∀ (c:AV) (cs':List AV),cs=c::cs'->V E H.next a c->Vs E H.next l cs'-> ∃ E',Nx E E' H ⟨(jm l H.next).2,H.cw⟩ h h/\SR E' ⟨(jm l H.next).2,H.cw⟩ h/\Vs E' (jm l H.next).2 (a::(jm l H.next).1) cs:=by
   rintro c cs' rfl va vl
   obtain⟨E',n1,s1,v1⟩:=ih cs' E H S vl
   exact⟨E',n1,s1,.cons (va.mono n1.e n1.le) v1⟩
  cases v with
  |cons va vl=>
   rename_i c cs'
   cases a with
   |c m t x=>
    cases t with
    |ca t=>
     cases hm:Nat.beq m 0 with
     |false=>
      have e:jm (.c m (.ca t) x::l) H.next=(.c m (.ca t) x::(jm l H.next).1,(jm l H.next).2):=by
       show(bif Nat.beq m 0 then _ else _)=_
       rw[hm];rfl
      rw[e]
      exact plain c cs' rfl va vl
     |true=>
      have e:jm (.c m (.ca t) x::l) H.next=(.c H.next (.ca t) x::(jm l (Nat.add H.next 1)).1,(jm l (Nat.add H.next 1)).2):=by
       show(bif Nat.beq m 0 then _ else _)=_
       rw[hm];rfl
      rw[e]
      let E1:En:=⟨E.K,fun r=>if r=H.next then c else E.tk r,E.G,E.A⟩
      let H1:Hq:=⟨Nat.add H.next 1,H.cw⟩
      have el:zj E E1 H.next:=⟨fun _ _=>rfl,fun r hr=>if_neg (Nat.ne_of_lt hr),fun _ _ e=>e,rfl⟩
      have hle:H.next<=H1.next:=Nat.le_add_right _ 1
      have n0:Nx E E1 H H1 h h:=⟨el,hle,Nat.le_refl _,fun r _ a b=>.inl ⟨r,a,b⟩,fun _ _ a=>.inl a,fun _ _ _=>rfl⟩
      have s1:SR E1 H1 h:=⟨fun r R hr=>⟨Nat.lt_of_lt_of_le (S.row r R hr).1 hle,RV.mono el hle (fun _ _ _ _ k=>k) (S.row r R hr).2⟩,S.inj,S.lt,S.g⟩
      obtain⟨E',n1,s2,v1⟩:=ih cs' E1 H1 s1 (vl.mono el hle)
      refine⟨E',n0.trans n1,s2,.cons ?_ v1⟩
      cases va with
      |c k _=>
       refine .c (EV.mono (fun _ _ e=>n1.e.G _ _ e) _ _ _ k) fun _=>⟨Nat.lt_of_lt_of_le (Nat.lt_succ_self H.next) n1.le,?_⟩
       rw[n1.e.tk H.next (Nat.lt_succ_self H.next)]
       exact(if_pos rfl).symm
    | _=>exact plain c cs' rfl va vl
   | _=>exact plain c cs' rfl va vl
omit C in
theorem VZ(b:Od){f:jT}{g:OpN}(k:jN f g):jN (abb b f) g:=by
 intro E T t H h v T' H' hT hH e
 unfold abb at e
 split at e
 ·rename_i i
  cases hi:Nat.blt i 512 with
  |false=>rw[hi]at e;exact k E T t H h v T' H' hT hH e
  |true=>
   rw[hi]at e
   simp only[cond_true]at e
   split at e
   ·rename_i l hl
    obtain⟨a,ha,yG⟩:=hT i _ (ic.1 hi) hl
    cases yG with
    |ag hl'=>
     rename_i l'
     obtain⟨E1,n1,s1,v1⟩:=FV l l' E H hH hl'
     have uY:TV E1 (jm l H.next).2 (T.put i (some (.ag (jm l H.next).1))) t:=by
      have:=(hT.mono n1.e n1.le)
      intro j w hj hw
      rw[Tq.mq _ _ _ _ (ic.1 hi) hj]at hw
      split at hw
      ·rename_i e1
       subst e1
       cases hw
       exact⟨_,ha,.ag v1⟩
      ·exact this j w hj hw
     obtain⟨c,h',E',k1,k2,k3,k4,k5⟩:=k E1 _ t ⟨(jm l H.next).2,H.cw⟩ h v T' H' uY s1 e
     exact⟨c,h',E',k1,n1.trans k2,k3,k4,k5⟩
   ·exact k E T t H h v T' H' hT hH e
 ·exact k E T t H h v T' H' hT hH e
omit C in
theorem PG(a:Od):jN (O9 a) (fun _ _=>uS (cY a)):=iO (by
 intro E T t H h v T' H' hT hH e
 unfold O9 at e
 split at e
 ·rename_i r sz hw
  split at e
  ·rename_i ty x hr
   obtain⟨c1,e⟩:=Lf.T.cy e
   obtain⟨rfl,rfl,rfl⟩:=cD e
   obtain⟨c,hc,kr⟩:=cV hT hw
   refine⟨rfl,rfl,c,?_,kr⟩
   have nd:Nat.beq x.length 0=false:=by cases q:Nat.beq x.length 0 with
    |true=>rw[q]at c1;cases c1
    |false=>rfl
   rcases FM kr (hH.row _ _ hr).2 with⟨_,rfl⟩|⟨id,base,row,ls,rfl,_,_,k4,_⟩
   ·cases nd
   ·unfold uS
    rw[hc]
    simp only[nd,k4,cond_false]
  ·cases e
 ·rename_i r sz off n hw
  split at e
  ·rename_i g l hr
   cases hn:Nat.beq n 0 with
   |true=>rw[hn]at e;cases e
   |false=>
    rw[hn]at e
    obtain⟨rfl,rfl,rfl⟩:=cD e
    obtain⟨c,hc,kr⟩:=cV hT hw
    refine⟨rfl,rfl,c,?_,kr⟩
    obtain⟨id,row,k1,k2,_⟩:=(hH.row _ _ hr).2
    cases kr with
    |xo _ h2=>
     rw[k1]at h2
     cases h2
     unfold uS
     rw[hc]
     simp only[hn,k2,cond_false]
  ·cases e
 ·cases e)
omit C in
theorem V0:jN (fun t h=>okV (.a .any) t h) (fun _ _=>Go.Ab.KC):=by
 intro E T t H h v T' H' hT hH e
 obtain⟨rfl,rfl,rfl⟩:=cD e
 exact⟨.any,h,E,Ev.const rfl,Nx.refl _ _ _,hH,.a rfl,hT⟩
theorem V1(o:jz):jN (Av call o) (fun n d=>HI (cf n d) o):=by
 cases o<;>first|exact Vv|skip
 case mv=>exact Ax _
 case pk=>exact Pf _ _ _
 case nw=>exact Vx _
 case bx=>exact Vy _
 case bd=>exact Lz _ _
 case rw=>exact VA _ _ _ _
 case ld=>exact Pu _ _ _
 case sto=>exact VZ _ (LD _ _ _)
 case nl=>exact Vw _
 case bn=>exact VF _ _ _
 case un=>exact abm _ _
 case bys=>exact LH _
 case bs=>exact VX _
 case fn=>exact abg _ _
 case mk=>exact PE _ _ _ _ _
 case slS=>exact HX _ _ _
 case slN=>exact HV _ _ _ _
 case slA=>exact HW _ _ _ _ _
 case fa=>exact BM _ _
 case fd=>exact Ly _ _ _ _
 case ixS=>exact VM _ _ _
 case ixA=>exact VN _ _ _ _
 case ix=>exact LF _ _ _ _ _
 case ixT=>exact HU _ _
 case ex=>exact FL _ _
 case lnT=>exact Pq _
 case ln=>exact VB _
 case ap=>exact HZ _ _ _ _
 case apZ=>exact PC _ _ _ _ _
 case apS=>exact PD _ _ _
 case emp=>exact VO _ _ _
 case mrk=>exact PG _
 case min=>exact VI _ _
 case max=>exact VJ _ _
 case cap=>exact VP _
 case map=>exact V0
 case cpy=>exact PB _ _ _
 case call=>exact PF C _ _
 case callV=>exact LJ C _ _
end
end Lf
end Go.Ab

noncomputable section
namespace Go.Ab
namespace Lf
theorem H5{v:Value}(h:jf (.sc v)=true):OH v v=true:=by
 have h':isNil (.sc v)=true:=h
 cases v<;>first|(cases h';done)|skip
 rename_i p n c
 cases p with
 |none=>show(Nat.beq n n&&Nat.beq c c)=true;rw[Nat.beq_refl,Nat.beq_refl];rfl
 |some _=>cases h'
theorem FW(n:Int):eqI n n=true:=ko.2 rfl
theorem xP{a:AV}(h:jf a=true):qf a a=true:=by
 cases a<;>first|(cases h;done)|skip
 ·exact H5 h
 ·rfl
 ·rfl
theorem FX{l m:List AV}(h:nf l l=true)(k:nf m m=true):nf (l++m) (l++m)=true:=by
 induction l with
 |nil=>exact k
 |cons a l ih=>
  have h:(qf a a&&nf l l)=true:=h
  rw[Bool.and_eq_true]at h
  show(qf a a&&nf (l++m) (l++m))=true
  rw[h.1,ih h.2];rfl
theorem FY{α:Type}{E:α->List AV->Prop}(hE: ∀ x cs,E x cs->nf cs cs=true): ∀ {x:List α} {ls:List AV},nW E x ls->nf ls ls=true
 | [],_,e=>by have e':_=[]:=e;subst e';rfl
 | _::_,_,⟨c,r,e,a,b⟩=>by subst e;exact FX (hE _ _ a) (FY hE b)
theorem V2{G:Nat->Option Rw}{t:Ty}{E:den t->List AV->Prop}(hE: ∀ x cs,E x cs->nf cs cs=true){x:List (den t)}{a:AV}(k:Lv G t E x a):qf a a=true:=by
 rcases k with⟨k,_⟩|⟨ls,k1,k2|⟨id,base,row,k2,_,_⟩⟩
 ·exact xP k
 ·subst k2
  show(Nat.beq _ _&&nf ls ls)=true
  rw[Nat.beq_refl,Bool.true_and]
  exact FY hE k1
 ·subst k2
  show(Nat.beq _ _&&Nat.beq _ _&&Nat.beq _ _&&Nat.beq _ _)=true
  simp
theorem zm{G:Nat->Option Rw}: ∀ (t:Ty) (x:den t) (cs:List AV),EV G t x cs->nf cs cs=true
 | .int k,x,_,e=>by
  have e':_=_:=e;subst e'
  show(mK k k&&eqI x x&&true)=true
  rw[Az,FW];rfl
 | .bool,x,_,e=>by
  have e':_=_:=e;subst e'
  show(!(xor x x)&&true)=true
  cases x<;>rfl
 | .str,x,_,e=>by
  have e':_=_:=e;subst e'
  show(OH (.string x) (.string x)&&true)=true
  rw[Bool.and_true];show(x.data.toList == x.data.toList)=true;exact beq_self_eq_true _
 | .ca t,_,_,⟨a,e,k⟩=>by
  subst e
  show(qf a a&&true)=true
  rw[V2 (fun x cs=>zm t x cs) k];rfl
 | .pair a b,_,_,⟨c,d,e,k1,k2⟩=>by
  subst e
  exact FX (zm a _ _ k1) (zm b _ _ k2)
theorem FZ{E:En}{N:Nat}{u v:Sv}{a b:AV}{c:LB}(hu:V E N u a)(hv:V E N v b)(e:JH u v=some c)(hc:c.v=true):qf a b=true:=by
 have OS:(match toN u,toN v with
  |some (k,a),some (k',b)=>bif mK k k' then some (LB.t (decide (a=b)))else none
  | _,_=>match toB u,toB v with
   |some a,some b=>some (LB.t (!(xor a.v b.v)))
   | _,_=>none)=some c->qf a b=true:=by
  intro e
  split at e
  ·rename_i k m k' n h1 h2
   obtain⟨hk,e⟩:=iu e
   cases e
   rw[kX hu h1,kX hv h2]
   have:m=n:=by simpa[LB.v]using hc
   subst this
   show(mK k k'&&eqI m m)=true
   rw[hk,FW];rfl
  ·split at e
   ·rename_i x y h1 h2
    cases e
    rw[lH hu h1,lH hv h2]
    exact hc
   ·cases e
 unfold JH at e
 split at e
 ·have e:=(iu e).1;cases hu;cases hv;exact e
 ·cases hu;cases hv
  rename_i a b
  cases a<;>cases b<;>first|rfl|(cases e;done)
 ·have e:=(iu e).1;cases hu;cases hv;exact e
 ·have e:=(iu e).1
  rw[Bool.and_eq_true]at e
  have e1:=beq_true e.1;have e2:=beq_true e.2
  subst e1;subst e2
  cases hu with
  |rf _ h1=>cases hv with
   |rf _ h2=>
    rw[h1]at h2;cases h2
    show(Nat.beq _ _&&Nat.beq _ _)=true
    simp
 ·have e0:=(iu e).1
  replace e:=(iu e).2
  rw[Bool.and_eq_true,Bool.and_eq_true]at e0
  have e1:=beq_true e0.1;have e2:=beq_true e0.2.1;have e3:=beq_true e0.2.2
  subst e1;subst e2;subst e3
  cases e
  simp only[LB.v,decide_eq_true_eq]at hc
  subst hc
  cases hu with
  |re _ h1 _=>cases hv with
   |re _ h2 _=>
    rw[h1]at h2;cases h2
    show(Nat.beq _ _&&Nat.beq _ _)=true
    simp
 ·have e0:=(iu e).1
  rw[Bool.and_eq_true]at e0
  have e1:=beq_true e0.1;have e2:=beq_true e0.2
  subst e1;subst e2
  cases hu with
  |os _ h1=>cases hv with
   |os _ h2=>
    rcases h1 with⟨h1,_⟩|⟨id,base,h1⟩
    ·exact xP h1
    ·rw[h1];show(Nat.beq _ _&&Nat.beq _ _&&Nat.beq _ _&&Nat.beq _ _)=true;simp
 ·have e0:=(iu e).1
  replace e:=(iu e).2
  rw[Bool.and_eq_true]at e0
  have e1:=beq_true e0.1;have e2:=beq_true e0.2
  subst e1;subst e2
  cases e
  simp only[LB.v,Bool.and_eq_true,decide_eq_true_eq]at hc
  obtain⟨c1,c2⟩:=hc
  subst c1;subst c2
  cases hu with
  |se _ h1 _ _=>cases hv with
   |se _ _ _ _=>exact xP h1
   |ss _ h2 _=>rw[h2]at h1;cases h1
  |ss _ h1 _=>cases hv with
   |se _ h2 _ _=>rw[h1]at h2;cases h2
   |ss _ h2 _=>
    rw[h1]at h2
    injection h2 with a1 a2 _ _
    subst a1;subst a2
    show(Nat.beq _ _&&Nat.beq _ _&&Nat.beq _ _&&Nat.beq _ _)=true;simp
 ·have e0:=(iu e).1
  rw[Bool.and_eq_true,Bool.and_eq_true,Bool.and_eq_true]at e0
  have e1:=beq_true e0.1;have e2:=beq_true e0.2.1;have e3:=beq_true e0.2.2.1;have e4:=beq_true e0.2.2.2
  subst e1;subst e2;subst e3;subst e4
  cases hu with
  |xo _ h1=>cases hv with
   |xo _ h2=>rw[h1]at h2;cases h2;show(Nat.beq _ _&&Nat.beq _ _&&Nat.beq _ _&&Nat.beq _ _)=true;simp
 ·have e0:=(iu e).1
  rw[Bool.and_eq_true]at e0
  have hp:=ic.1 e0.1
  have e1:=beq_true e0.2
  subst e1
  cases hu with
  |c k1 m1=>cases hv with
   |c k2 m2=>
    rw[(m1 (by omega)).2,<-(m2 (by omega)).2]
    have:=zm _ _ _ k2
    have this:(qf b b&&true)=true:=this
    rwa [Bool.and_true]at this
 ·exact OS e
theorem F3{E:En}{N:Nat}: ∀ {l m:List Sv} {as bs:List AV} {c:LB},Vs E N l as->Vs E N m bs->JI l m=some c->c.v=true->nf as bs=true
 | [],[],_,_,_,.nil,.nil,_,_=>rfl
 | [],_::_,_,_,_,_,_,e,_=>by cases e
 | _::_,[],_,_,_,_,_,e,_=>by cases e
 |u::l,v::m,a::as,b::bs,c,.cons hu hl,.cons hv hm,e,hc=>by
  unfold JI at e
  split at e
  ·rename_i x hx
   split at e
   ·rename_i y hy
    cases e
    rw[LB.Pp,Bool.and_eq_true]at hc
    show(qf a b&&nf as bs)=true
    rw[FZ hu hv hx hc.1,F3 hl hm hy hc.2];rfl
   ·cases e
  ·cases e
theorem AD{E:En}{N:Nat}{u v:Sv}{a b:AV}{c:LB}(hu:V E N u a)(hv:V E N v b)(e:FG u v=some c)(hc:c.v=true):qf a b=true:=by
 unfold FG at e
 split at e
 ·cases hu with
  |ag h1=>cases hv with
   |ag h2=>exact F3 h1 h2 e hc
 ·exact FZ hu hv e hc
theorem Ev.map{α β:Type}{p:Nat->Nat->α}{r:α}(h:Ev p r){q:Nat->Nat->β}{s:β}(k: ∃ M,∀ n d,M<=n->M<=d->p n d=r->q n d=s):Ev q s:=by
 obtain⟨M,h⟩:=h
 obtain⟨M',k⟩:=k
 exact⟨max M M',fun n d h1 h2=>k n d (by omega) (by omega) (h n d (by omega) (by omega))⟩
theorem Ev.vz{α β:Type}{p:Nat->Nat->α}{r:α}(h:Ev p r){q:Nat->Nat->β}{s:β}(k: ∀ n d,p n d=r->q n d=s):Ev q s:=h.map ⟨0,fun n d _ _=>k n d⟩
theorem Ev.abu{α β γ:Type}{p:Nat->Nat->α}{r:α}(h:Ev p r){q:Nat->Nat->β}{s:β}(k:Ev q s){f:Nat->Nat->γ}{u:γ}(g: ∀ n d,p n d=r->q n d=s->f n d=u):Ev f u:=by
 obtain⟨M,h⟩:=h
 obtain⟨M',k⟩:=k
 exact⟨max M M',fun n d h1 h2=>g n d (h n d (by omega) (by omega)) (k n d (by omega) (by omega))⟩
theorem H6{f:jT}{g:OpN}(s:jN f g):jN f (fun n d=>mn (g n d)):=by
 intro E T t H h v T' H' hT hH e
 obtain⟨c,h',E',k,X,S,w,TE⟩:=s E T t H h v T' H' hT hH e
 refine⟨c,h',E',k.vz fun n d q=>?_,X,S,w,TE⟩
 have hb:Nat.ble h.next h'.next=true:=by rw[Nat.ble_eq];exact X.EC
 simp only[mn,q,hb]
theorem H7{f:jT}{g:OpN}(s:jN f g)(j:Od)(want:Bool):jN (sGd j want f) (fun n d=>gF (cY j) want (g n d)):=by
 intro E T t H h v T' H' hT hH e
 unfold sGd at e
 split at e
 ·rename_i hj
  obtain⟨rfl,rfl,rfl⟩:=cD e
  obtain⟨a,ha,yG⟩:=cV hT hj
  cases yG with
  |tu k=>cases k;exact⟨kN,h,E,⟨0,fun n d _ _=>by unfold gF;simp only[ha]⟩,Nx.refl _ _ _,hH,.tu .nil,hT⟩
 ·obtain⟨c,T1,hc,uY,h1,h2⟩:=xJ hT e
  have hg: ∀ n d,gF (cY j) want (g n d) t h=lA (lA want c (!c)) (g n d t h) (.ok kN h):=fun n d=>by unfold gF;rw[hc]
  have yes:(bif want then c else !c)=true->(f T1 H).val=some (v,T',H')-> ∃ c h' E',Ev (fun n d=>gF (cY j) want (g n d) t h) (.ok c h')/\Nx E E' H H' h h'/\SR E' H' h'/\V E' H'.next v c/\TV E' H'.next T' t:=by
   intro hw e
   obtain⟨x,h',E',k,X,S,w,TE⟩:=s E T1 t H h v T' H' uY hH e
   refine⟨x,h',E',k.vz fun n d q=>?_,X,S,w,TE⟩
   rw[hg,q]
   cases want<;>cases c<;>first|rfl|cases hw
  have no:(bif want then c else !c)=false->(okV tG T1 H).val=some (v,T',H')-> ∃ c h' E',Ev (fun n d=>gF (cY j) want (g n d) t h) (.ok c h')/\Nx E E' H H' h h'/\SR E' H' h'/\V E' H'.next v c/\TV E' H'.next T' t:=by
   intro hw e
   obtain⟨rfl,rfl,rfl⟩:=cD e
   refine⟨kN,h,E,⟨0,fun n d _ _=>?_⟩,Nx.refl _ _ _,hH,.tu .nil,uY⟩
   show gF (cY j) want (g n d) t h=_
   rw[hg]
   cases want<;>cases c<;>first|rfl|cases hw
  cases c with
  |true=>
   have:=h1 rfl
   cases want with
   |true=>exact yes rfl this
   |false=>exact no rfl this
  |false=>
   have:=h2 rfl
   cases want with
   |true=>exact no rfl this
   |false=>exact yes rfl this
end Lf
end Go.Ab
