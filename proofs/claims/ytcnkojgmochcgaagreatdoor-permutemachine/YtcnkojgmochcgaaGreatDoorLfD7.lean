import Derived.Test.YtcnkojgmochcgaaGreatDoorLfD3
noncomputable section
namespace Go.Ab
namespace Lf
def sV(G:Nat->Option Rw)(h:Hp)(t:Ty)(a:AV)(x:List (den t)):Prop:=
 (nr a=true/\x=[])∨ ∃ id base row ls,a=.nW id base x.length (size t)/\h.cw.get id=some row/\row.ri base (x.length*size t)=some ls/\ru (EV G t) x ls
theorem Bk{t:Ty}{s:Sv}{a:AV}{x:List (den t)}{E:En}{H H1:Hq}{h:Hp}(S:SR E H h)(hv:V E H.next s a)(e:HG t s H=some (x,H1)): ∃ E1,Fz E E1 H H1 h/\sV E1.G h t a x:=by
 unfold HG at e
 split at e
 ·rename_i r sz
  split at e
  ·rename_i t' y hr
   split at e
   ·rename_i p hp
    cases p
    cases e
    refine⟨E,Fz.refl S,?_⟩
    rcases HN hv (S.row _ _ hr).2 with k|⟨id,base,row,ls,k1,_,_,k2,k3,k4⟩
    ·exact .inl k
    ·exact .inr ⟨id,base,row,ls,k1,k2,k3,k4⟩
   ·cases e
  ·cases e
 ·rename_i r sz off n
  split at e
  ·rename_i t' y hr
   split at e
   ·rename_i p hp
    cases p
    cases e
    refine⟨E,Fz.refl S,?_⟩
    rcases acn hv (S.row _ _ hr).2 with⟨k1,k2,k3,_⟩|⟨id,base,row,ls,k1,k2,_,_,k3,k4,k5⟩
    ·subst k3;exact .inl ⟨k1,by simp⟩
    ·obtain⟨a1,a2,a3⟩:=FN rfl k4 k5 k2 (id:=0)
     exact .inr ⟨id,base+off*size t,row,_,by rw[a1];exact k1,k3,by rw[a1];exact a2,a3⟩
   ·cases e
  ·cases e
 ·obtain⟨hb,e⟩:=cR e
  cases e
  cases hv
  exact⟨E,Fz.refl S,.inl ⟨hb,rfl⟩⟩
 ·rename_i r sz off n
  split at e
  ·rename_i l hr
   have hb:=beq_true (cR e).1
   replace e:=(cR e).2
   unfold rdX at e
   have hle:=Nat.le_of_ble_eq_true (cR e).1
   replace e:=(cR e).2
   rw[cQ]at hle
   rw[qR]at e
   obtain⟨id,row,k1,k2,k3,_⟩:=(S.row _ _ hr).2
   obtain⟨E1,c,d,F,e1,e2,e3⟩:=Kw (xH t) n E H h _ _ x H1 S (k3.drop off) e
   refine⟨E1,F,?_⟩
   cases hv with
   |xo h1 h2=>
    rw[k1]at h2;cases h2
    have hc:=e2.length (EV.length t)
    have hlen:=k3.length
    refine .inr ⟨id,off,row,c,by rw[e3,hb],k2,?_,e2⟩
    refine nU.2 ⟨?_,?_⟩
    ·have:=congrArg List.length e1
     rw[List.length_drop,List.length_append,hc]at this
     rw[<-nR];omega
    ·rw[e1,<-hc,List.take_left]
  ·cases e
 ·cases e
structure Kl(E:En)(H H2:Hq)(a:AV):Prop where
 n:H2.next=H.next
 sub: ∀ r R,H2.cw.get r=some R->H.cw.get r=some R
 id: ∀ id,r9 a=some id-> ∃ r,own H r/\ ¬ own H2 r/\r9 (E.K r).av=some id
 only: ∀ r,own H r-> ¬ own H2 r->r9 (E.K r).av=r9 a
theorem Nv{E:En}{H:Hq}{r:Nat}{R:Row}{a:AV}(hr:H.cw.get r=some R)(lv:R.live=true)(hi:r9 (E.K r).av=r9 a):Kl E H (ql H r none) a:=by
 have no: ¬ own (ql H r none) r:=by rintro⟨Q,q,_⟩;rw[ov,if_pos rfl]at q;cases q
 refine⟨rfl,fun q Q e=>?_,fun id e=>⟨r,⟨R,hr,lv⟩,no,by rw[hi];exact e⟩,fun q o n=>?_⟩
 ·rw[ov]at e
  split at e
  ·cases e
  ·exact e
 ·by_cases k:q=r
  ·rw[k];exact hi
  ·obtain⟨Q,q1,q2⟩:=o
   exact(n ⟨Q,by rw[ov,if_neg k];exact q1,q2⟩).elim
theorem FQ{s:Sv}{a:AV}{E:En}{H H2:Hq}(hv:V E H.next s a)(e:kill s H=some H2):Kl E H H2 a:=by
 unfold kill at e
 split at e
 ·cases e
  cases hv with
  |a h=>exact⟨rfl,fun _ _ e=>e,fun id k=>by cases a<;>first|(cases h;done)|(cases k;done),fun r o n=>(n o).elim⟩
 ·split at e
  ·rename_i hr
   cases e
   cases hv with
   |os h1 h2=>exact Nv hr rfl rfl
  ·cases e
 ·split at e
  ·rename_i hr
   cases e
   cases hv with
   |se h1 h2 h3 h4=>exact Nv hr rfl rfl
   |ss h1 h2 h3=>exact Nv hr rfl (by rw[h2];rfl)
  ·cases e
 ·split at e
  ·rename_i hr
   cases e
   cases hv with
   |xo h1 h2=>exact Nv hr rfl (by rw[h2];rfl)
  ·cases e
 ·cases e
theorem wK{b n:Nat}:roomy b n=true↔n*b<=70368744177664/\n<=70368744177664:=by unfold roomy;simp
theorem TB{r:Rw}{off k:Nat}{l:List AV}(h:r.ri off k=some l): ∃ p,r.sub off k=some p/\p.toL=l:=by
 obtain⟨a,b⟩:=nU.1 h
 have hb:Nat.ble (Nat.add off k) r.n=true:=by rw[Nat.ble_eq];exact a
 have hs:r.sub off k=some (bif Nat.beq off 0 then r.upto k else A5 (r.cells k off)):=by unfold Rw.sub;rw[hb];rfl
 exact⟨_,hs,by rw[(GS hs).1,b]⟩
theorem aeB{E:En}{H H2:Hq}{h:Hp}(S:SR E H h){t:Ty}{a:AV}{x y:List (den t)}{cs:List AV}{bytes:Nat}{z:Bool}(hd:sV E.G h t a x)(hk:Kl E H H2 a)(hy:ru (EV E.G t) y cs)(hz:z=true->y=[])(hr:roomy bytes (x.length+y.length)=true):
 ∃ c h' E',(bif xq a&&z then Go.Ab.Ro.ok a h else xZ (size t) bytes h (zt a) y.length cs)=.ok c h'/\Nx E E' H (nG H2 (.l t (x++y))) h h'/\SR E' (nG H2 (.l t (x++y))) h'/\V E' (nG H2 (.l t (x++y))).next (.os H2.next (size t)) c:=by
 obtain⟨r1,r2⟩:=wK.1 hr
 have TC: ∀ (k:Kr),(∀ id,r9 k.av=some id->r9 a=some id)->RV E H.next h k (.l t (x++y))->SR (E.row H.next k) (nG H2 (.l t (x++y))) h/\Nx E (E.row H.next k) H (nG H2 (.l t (x++y))) h h:=by
  intro k h1 h2
  refine qW S hk.n hk.sub (Nat.le_refl _) (fun _ _ _=>rfl) (fun id e=>?_) h2 rfl
  obtain⟨r,o,no,er⟩:=hk.id id (h1 id e)
  exact⟨S.lt r id o er,.inr ⟨r,o,no,er⟩⟩
 have K0: ∀ k:Kr,(E.row H.next k).K H2.next=k:=fun k=>by rw[hk.n];exact if_pos rfl
 have mkV: ∀ k:Kr,((nr k.av=true/\k.n=0)∨ ∃ id base,k.av=.nW id base k.n (size t))->V (E.row H.next k) (nG H2 (.l t (x++y))).next (.os H2.next (size t)) k.av:=by
  intro k Hx
  have:=V.os (E:=E.row H.next k) (N:=(nG H2 (.l t (x++y))).next) (r:=H2.next) (sz:=size t) (Nat.lt_succ_self _) (by rw[K0];exact Hx)
  rwa [K0]at this
 have HS: ∀ av:AV,nr av=true->x=[]->y=[]-> ∃ E',Nx E E' H (nG H2 (.l t (x++y))) h h/\SR E' (nG H2 (.l t (x++y))) h/\V E' (nG H2 (.l t (x++y))).next (.os H2.next (size t)) av:=by
  intro av ha hx hy
  obtain⟨S',X⟩:=TC ⟨av,0⟩ (fun id e=>by rw[show r9 av=none from PR ha]at e;cases e) ⟨by rw[hx,hy];rfl,.inl ⟨ha,by rw[hx,hy];rfl⟩⟩
  exact⟨_,X,S',mkV ⟨av,0⟩ (.inl ⟨ha,rfl⟩)⟩
 cases hc:(xq a&&z)with
 |true=>
  rw[Bool.and_eq_true]at hc
  have he:=Es hc.1
  have hx:x=[]:=by
   rcases hd with⟨_,k⟩|⟨id,base,row,ls,k,_⟩
   ·exact k
   ·rw[k]at he;cases he
  obtain⟨E',X,S',v⟩:=HS a he hx (hz hc.2)
  exact⟨a,h,E',rfl,X,S',v⟩
 |false=>
  simp only[cond_false]
  have px:=hy.length (EV.length t)
  have Ky:oD nA cs=true:=by rw[pQ,List.all_eq_true];exact fun q hq=>hy.nA (EV.nA t) q hq
  by_cases hy0:y=[]
  ·subst hy0
   rcases hd with⟨k,hx⟩|⟨id,base,row,ls,k1,k2,k3,k4⟩
   ·obtain⟨E',X,S',v⟩:=HS .pO rfl hx rfl
    exact⟨.pO,h,E',by rw[oH k];rfl,X,S',v⟩
   ·obtain⟨S',X⟩:=TC ⟨a,x.length⟩ (fun id e=>e) ⟨by simp,.inr ⟨id,base,row,ls,k1,k2,k3,by simpa using k4⟩⟩
    refine⟨a,h,_,?_,X,S',mkV ⟨a,x.length⟩ (.inr ⟨id,base,k1⟩)⟩
    subst k1;rfl
  ·have XV:0<y.length:=List.length_pos_iff.2 hy0
   have hnz:Nat.beq y.length 0=false:=by cases q:Nat.beq y.length 0 with
    |false=>rfl
    |true=>have:=beq_true q;omega
   have hlc:Nat.beq (len cs) (Nat.mul y.length (size t))=true:=by rw[cQ,px];exact Nat.beq_refl _
   rcases hd with⟨k,hx⟩|⟨id,base,row,ls,k1,k2,k3,k4⟩
   ·subst hx
    rw[oH k]
    simp only[List.length_nil,Nat.zero_add]at r1 r2
    have hT:(SR (E.row H.next ⟨.nW h.next 0 y.length (size t),y.length⟩) (nG H2 (.l t ([]++y))) (nn h (A5 cs))/\Nx E (E.row H.next ⟨.nW h.next 0 y.length (size t),y.length⟩) H (nG H2 (.l t ([]++y))) h (nn h (A5 cs))):=by
     refine qW S hk.n hk.sub (Nat.le_succ _) (fun i hi _=>by rw[o8,if_neg (by omega)]) (fun i e=>by cases e;exact⟨Nat.lt_succ_self _,.inl (Nat.le_refl _)⟩) ?_ rfl
     refine⟨rfl,.inr ⟨h.next,0,A5 cs,cs,rfl,by rw[o8,if_pos rfl],?_,hy⟩⟩
     refine nU.2 ⟨by rw[<-nR,pR,px,Nat.zero_add];exact Nat.le_refl _,?_⟩
     rw[pR]
     show cs=List.take (y.length*size t) _
     rw[<-px,List.drop_zero,List.take_length]
    refine⟨_,_,_,?_,hT.2,hT.1,mkV _ (.inr ⟨h.next,0,rfl⟩)⟩
    show(bif Nat.beq y.length 0 then Go.Ab.Ro.ok .pO h else bif Nat.ble (Nat.mul y.length bytes) 70368744177664&&(oD nA cs&&(Nat.beq (len cs) (Nat.mul y.length (size t))&&Nat.ble y.length 70368744177664))then .ok (.nW h.next 0 y.length (size t)) (nn h (A5 cs))else .bad)=_
    rw[hnz,Ky,hlc,show Nat.ble (Nat.mul y.length bytes) 70368744177664=true from by rw[Nat.ble_eq];exact r1,show Nat.ble y.length 70368744177664=true from by rw[Nat.ble_eq];exact r2]
    rfl
   ·subst k1
    obtain⟨p,p1,p2⟩:=TB k3
    obtain⟨r,o,no,er⟩:=hk.id id rfl
    have hT:(SR (E.row H.next ⟨.nW h.next 0 (x.length+y.length) (size t),x.length+y.length⟩) (nG H2 (.l t (x++y))) (nn (qx h id none) (p.app cs))/\Nx E (E.row H.next ⟨.nW h.next 0 (x.length+y.length) (size t),x.length+y.length⟩) H (nG H2 (.l t (x++y))) h (nn (qx h id none) (p.app cs))):=by
     refine qW S hk.n hk.sub (Nat.le_succ _) (fun i hi q=>?_) (fun i e=>by cases e;exact⟨Nat.lt_succ_self _,.inl (Nat.le_refl _)⟩) ?_ rfl
     ·rw[o8,if_neg (by show ¬ i=h.next;omega),qG,if_neg]
      intro ei
      exact q r o no (by rw[ei];exact er)
     ·have PE:=k4.app hy
      have hlen:=PE.length (EV.length t)
      refine⟨by rw[List.length_append],.inr ⟨h.next,0,p.app cs,ls++cs,rfl,by rw[o8];exact if_pos rfl,?_,PE⟩⟩
      refine nU.2 ⟨by rw[<-nR,ye,p2,hlen,Nat.zero_add,List.length_append];exact Nat.le_refl _,?_⟩
      rw[ye,p2]
      show ls++cs=List.take ((x.length+y.length)*size t) _
      rw[<-List.length_append (as:=x),<-hlen,List.drop_zero,List.take_length]
    refine⟨_,_,_,?_,hT.2,hT.1,mkV _ (.inr ⟨h.next,0,rfl⟩)⟩
    show(bif Nat.beq y.length 0 then Go.Ab.Ro.ok (.nW id base x.length (size t)) h else match h.cw.get id with
     |none=>.bad
     |some cs'=>match cs'.sub base (Nat.mul x.length (size t))with
      |none=>.bad
      |some pre=>bif Nat.ble (Nat.mul (Nat.add x.length y.length) bytes) 70368744177664&&(Nat.beq (size t) (size t)&&(oD nA cs&&(Nat.beq (len cs) (Nat.mul y.length (size t))&&Nat.ble (Nat.add x.length y.length) 70368744177664)))then
       .ok (.nW h.next 0 (Nat.add x.length y.length) (size t)) (nn (qx h id none) (pre.app cs))else .bad)=_
    have p1':row.sub base (Nat.mul x.length (size t))=some p:=p1
    rw[hnz]
    simp only[cond_false,k2,p1']
    rw[Ky,hlc,Nat.beq_refl,show Nat.ble (Nat.mul (Nat.add x.length y.length) bytes) 70368744177664=true from by rw[Nat.ble_eq];exact r1,show Nat.ble (Nat.add x.length y.length) 70368744177664=true from by rw[Nat.ble_eq];exact r2]
    rfl
theorem KD{E:En}{H H':Hq}{h:Hp}(S:SR E H h){bytes:Nat}{t:Ty}{s:Sv}{a:AV}{y:List (den t)}{cs:List AV}{z:Bool}{T T':Tq}{v:Sv}(hv:V E H.next s a)(hy:ru (EV E.G t) y cs)(hz:z=true->y=[])(e:(apT bytes t s y T H).val=some (v,T',H')):
 T'=T/\ ∃ c h' E',(bif xq a&&z then Go.Ab.Ro.ok a h else xZ (size t) bytes h (zt a) y.length cs)=.ok c h'/\Nx E E' H H' h h'/\SR E' H' h'/\V E' H'.next v c:=by
 unfold apT at e
 split at e
 ·rename_i x H1 hx
  split at e
  ·rename_i H2 hH2
   obtain⟨q,e⟩:=Lf.T.cP e
   obtain⟨rfl,rfl,rfl⟩:=cB e
   obtain⟨E1,F,D⟩:=Bk S hv hx
   have k:=FQ (F.v hv) hH2
   obtain⟨c,h',E',e1,X,S',vA⟩:=aeB F.S D k (hy.mono (EV.mono F.g t)) hz q (z:=z)
   rw[mP]
   exact⟨rfl,c,h',E',e1,F.X.trans X,S',vA⟩
  ·cases e
 ·cases e
theorem Zb{h:Hp}{b:AV}{n:Nat}{cs:List AV}(hz:W3 b=true)(e:nC h (zt b)=some (n,cs)):n=0:=by
 cases b with
 |nW id off m s=>
  have hz:=beq_true (show Nat.beq m 0=true from hz)
  change (match h.cw.get id with|some cs=>(match cs.ri off (Nat.mul m s)with|some l=>some (m,l)|none=>none)|none=>none)=some (n,cs)at e
  split at e
  ·split at e
   ·cases e;exact hz
   ·cases e
  ·cases e
 |rJ m l=>
  have hz':=beq_true (show Nat.beq m 0=true from hz)
  cases e;exact hz'
 |pO=>cases e;rfl
 |ur=>cases e;rfl
 |sc v=>
  have:nr (.sc v)=true:=hz
  rw[oH this]at e
  cases e;rfl
 | _=>cases hz
theorem we{size bytes:Nat}{s x:Od}{t:Tm}{h:Hp}{a b:AV}{n:Nat}{cs:List AV}(h1:cI s t=some a)(h2:cI x t=some b)(h3:nC h (zt b)=some (n,cs)):
 oF size bytes (cI s) (cI x) t h=(bif xq a&&W3 b then Go.Ab.Ro.ok a h else xZ size bytes h (zt a) n cs):=by
 unfold oF
 rw[h1,h2]
 show(bif xq a&&W3 b then Go.Ab.Ro.ok a h else uR size bytes (wO (cI s)) (wO (cI x)) t h)=_
 congr 1
 unfold uR
 rw[show wO (cI s) t=some (zt a)from by unfold wO;rw[h1],show wO (cI x) t=some (zt b)from by unfold wO;rw[h2]]
 simp only[h3]
theorem wg{E:En}{H:Hq}{h:Hp}(S:SR E H h){v:Sv}{b:AV}{n:Nat}{l:List Sv}(hv:V E H.next v b)(e:yI v H=some (n,l)):
 ∃ cs,nC h (zt b)=some (n,cs)/\Vs E H.next l cs/\(n=0->W3 b=true)/\((nr b=true/\n=0/\l=[])∨ ∃ r s off id row,v=.xo r s off n/\b=.nW id off n s/\h.cw.get id=some row/\row.ri off (n*s)=some cs):=by
 unfold yI at e
 split at e
 ·obtain⟨hb,e⟩:=cR e
  cases e
  cases hv with
  |a hl=>
   refine⟨[],by rw[oH hb];rfl,.nil,fun _=>?_,.inl ⟨hb,rfl,rfl⟩⟩
   cases b<;>first|rfl|(cases hl;done)|exact hb
 ·rename_i r s off m
  split at e
  ·rename_i l0 hl
   have hle:=Nat.le_of_ble_eq_true (cR e).1
   replace e:=(cR e).2
   cases e
   obtain⟨id,row,k1,k2,k3⟩:=zR S hl
   cases hv with
   |xo h1 h2=>
    rw[k1]at h2;cases h2
    rw[cQ,k3.length]at hle
    have aiC:off+n*s<=row.toL.length:=hle
    rw[vJ,qR]
    have nP:=(k3.drop off).take (n*s)
    have hs:row.ri off (n*s)=some ((row.toL.drop off).take (n*s)):=Ku aiC
    refine⟨_,?_,nP,fun hn=>by subst hn;rfl,.inr ⟨r,s,off,id,row,rfl,rfl,k2,hs⟩⟩
    show(match h.cw.get id with|some cs=>(match cs.ri off (Nat.mul n s)with|some l=>some (n,l)|none=>none)|none=>none)=_
    rw[k2]
    have hs':row.ri off (Nat.mul n s)=_:=hs
    simp only[hs']
  ·cases e
 ·cases e
theorem nL{α:Type}{b:Bool}{x:T α}{r:α}(h:(bif b then x else T.bad).val=some r):b=true/\x.val=some r:=by
 cases b with
 |true=>exact⟨rfl,h⟩
 |false=>cases h
theorem TD{size bytes:Nat}{sv xv v:Sv}{T T':Tq}{E:En}{H H':Hq}{h:Hp}{t:Tm}{s x:Od}{a b:AV}(S:SR E H h)(hs:cI s t=some a)(QW:V E H.next sv a)(hx:cI x t=some b)(So:V E H.next xv b)(e:(S6 size bytes sv xv T H).val=some (v,T',H')):
 T'=T/\ ∃ c h' E',oF size bytes (cI s) (cI x) t h=.ok c h'/\Nx E E' H H' h h'/\SR E' H' h'/\V E' H'.next v c:=by
 unfold S6 at e
 obtain⟨hb,e⟩:=nL e
 rw[Bool.and_eq_true,Bool.and_eq_true]at hb
 have typed: ∀ {ty:Ty},(bif Nat.beq size (Lf.size ty)then(match lst ty xv H with|some (new,h1)=>apT bytes ty sv new T h1|none=>.bad)else .bad).val=some (v,T',H')->T'=T/\ ∃ c h' E',oF size bytes (cI s) (cI x) t h=.ok c h'/\Nx E E' H H' h h'/\SR E' H' h'/\V E' H'.next v c:=by
  intro ty e
  obtain⟨hz,e⟩:=nL e
  have hz:=beq_true hz
  split at e
  ·rename_i new H1 hn
   obtain⟨E1,F,k⟩:=Kx S So hn
   obtain⟨cs,c1,c2⟩:=Ep F.S k
   obtain⟨rfl,c,h',E',e1,X,S',vA⟩:=KD F.S (F.v QW) c2 (z:=W3 b) (fun q=>List.eq_nil_of_length_eq_zero (Zb q c1)) e
   refine⟨rfl,c,h',E',?_,F.X.trans X,S',vA⟩
   rw[we hs hx c1,hz];exact e1
  ·cases e
 split at e
 ·
  rename_i l hl
  obtain⟨cs,c1,_,c3,_⟩:=wg S So hl
  have hzb:=c3 rfl
  have res: ∀ w:Sv,w=v/\T'=T/\H'=H->V E H.next w a->(xq a=true∨nr a=true∨ ∃ id o n z,a=.nW id o n z)->T'=T/\ ∃ c h' E',oF size bytes (cI s) (cI x) t h=.ok c h'/\Nx E E' H H' h h'/\SR E' H' h'/\V E' H'.next v c:=by
   rintro w ⟨rfl,rfl,rfl⟩ hw hc
   refine⟨rfl,a,h,E,?_,Nx.refl _ _ _,S,hw⟩
   rw[we hs hx c1,hzb]
   cases he:xq a with
   |true=>rfl
   |false=>
    rcases hc with hc|hc|⟨id,o,n,z,hc⟩
    ·rw[he]at hc;cases hc
    ·have:a=.pO:=by cases a<;>first|rfl|(cases he;done)|(cases hc;done)|(rename_i v0;have k:xq (.sc v0)=true:=hc;rw[k]at he;cases he)
     subst this
     rfl
    ·subst hc;rfl
  split at e
  ·obtain⟨hw,e⟩:=nL e
   cases QW with
   |a hl=>exact res _ (cB e) (.a hl) (.inl hw)
  ·refine res _ (cB e) QW (.inr ?_)
   cases QW with
   |os h1 h2=>
    rcases h2 with⟨h2,_⟩|⟨_,_,h2⟩
    ·exact .inl h2
    ·exact .inr ⟨_,_,_,_,h2⟩
  ·refine res _ (cB e) QW (.inr ?_)
   cases QW with
   |se _ h2 _ _=>exact .inl h2
   |ss _ _ _=>exact .inr ⟨_,_,_,_,rfl⟩
  ·refine res _ (cB e) QW (.inr ?_)
   cases QW with
   |xo _ _=>exact .inr ⟨_,_,_,_,rfl⟩
  ·cases e
 ·rename_i m new hm hl
  have hm0:m=0->False:=fun k=>hm k
  obtain⟨cs,c1,c2,c3,c4⟩:=wg S So hl
  split at e
  ·rename_i n vG ho
   split at e
   ·rename_i H2 hH2
    obtain⟨hr,e⟩:=nL e
    rw[Bool.and_eq_true]at hr
    obtain⟨rfl,rfl,rfl⟩:=cB e
    obtain⟨r1,r2⟩:=wK.1 hr.1
    obtain⟨ds,d1,d2,d3,d4⟩:=wg S QW ho
    have k:=FQ QW hH2
    have auu:0<m:=Nat.pos_of_ne_zero fun q=>hm0 q
    obtain⟨r',s',awB,Am,Y5,x1,x2,x3,x4⟩: ∃ r s off id row,xv=.xo r s off m/\b=.nW id off m s/\h.cw.get id=some row/\row.ri off (m*s)=some cs:=by
     rcases c4 with⟨_,q,_⟩|q
     ·omega
     ·exact q
    have hs':s'=size:=by have q:=beq_true hb.2.1;rw[x1]at q;exact q
    have px:cs.length=m*size:=by
     obtain⟨q1,q2⟩:=nU.1 x4
     rw[q2,List.length_take,List.length_drop,nR,hs'];rw[hs']at q1;omega
    have hnz:Nat.beq m 0=false:=by cases q:Nat.beq m 0 with
     |false=>rfl
     |true=>have:=beq_true q;omega
    have hlc:Nat.beq (len cs) (Nat.mul m size)=true:=by rw[cQ,px];exact Nat.beq_refl _
    have hzb:W3 b=false:=by rw[x2];exact hnz
    have Ky:oD nA cs=true:=by
     rw[pQ,List.all_eq_true]
     refine c2.JN fun q hq=>?_
     have:=hr.2;rw[pQ,List.all_eq_true]at this;exact this q hq
    have uO:0<size:=cM.1 hb.2.2
    rw[mP]
    refine⟨rfl,?_⟩
    rw[we hs hx c1,hzb,Bool.and_false,cond_false]
    have mkV:V (E.row H.next ⟨.ref h.next 0,0⟩) (nG H2 (.o 0 (vG++new))).next (.xo H2.next size 0 (Nat.add n m)) (.nW h.next 0 (n+m) size):=by
     refine .xo (id:=h.next) (Nat.lt_succ_self _) ?_
     show(if H2.next=H.next then _ else _:Kr).av=_
     rw[if_pos k.n]
    rcases d4 with⟨q1,q2,q3⟩|⟨r1',Zc,Zd,id1,aol,y1,y2,y3,y4⟩
    ·subst q2;subst q3
     rw[oH q1]
     simp only[Nat.add_eq,Nat.zero_add]at r1 r2
     have hT:SR (E.row H.next ⟨.ref h.next 0,0⟩) (nG H2 (.o 0 ([]++new))) (nn h (A5 cs))/\Nx E (E.row H.next ⟨.ref h.next 0,0⟩) H (nG H2 (.o 0 ([]++new))) h (nn h (A5 cs)):=by
      refine qW S k.n k.sub (Nat.le_succ _) (fun i hi _=>by rw[o8,if_neg (by omega)]) (fun i e=>by cases e;exact⟨Nat.lt_succ_self _,.inl (Nat.le_refl _)⟩) ?_ rfl
      exact⟨h.next,A5 cs,rfl,by rw[o8,if_pos rfl],by rw[pR];exact c2,fun h=>(h rfl).elim⟩
     rw[Nat.zero_add]at mkV
     refine⟨_,_,_,?_,hT.2,hT.1,mkV⟩
     show(bif Nat.beq m 0 then Go.Ab.Ro.ok .pO h else bif Nat.ble (Nat.mul m bytes) 70368744177664&&(oD nA cs&&(Nat.beq (len cs) (Nat.mul m size)&&Nat.ble m 70368744177664))then .ok (.nW h.next 0 m size) (nn h (A5 cs))else .bad)=_
     rw[hnz,Ky,hlc,show Nat.ble (Nat.mul m bytes) 70368744177664=true from by rw[Nat.ble_eq];exact r1,show Nat.ble m 70368744177664=true from by rw[Nat.ble_eq];exact r2]
     rfl
    ·have B5:Zc=size:=by have q:=beq_true hb.1;rw[y1]at q;exact q
     subst B5
     subst y2
     obtain⟨p,p1,p2⟩:=TB y4
     obtain⟨r,o,no,er⟩:=k.id id1 rfl
     have hT:SR (E.row H.next ⟨.ref h.next 0,0⟩) (nG H2 (.o 0 (vG++new))) (nn (qx h id1 none) (p.app cs))/\Nx E (E.row H.next ⟨.ref h.next 0,0⟩) H (nG H2 (.o 0 (vG++new))) h (nn (qx h id1 none) (p.app cs)):=by
      refine qW S k.n k.sub (Nat.le_succ _) (fun i hi q=>?_) (fun i e=>by cases e;exact⟨Nat.lt_succ_self _,.inl (Nat.le_refl _)⟩) ?_ rfl
      ·rw[o8,if_neg (by show ¬ i=h.next;omega),qG,if_neg]
       intro ei
       exact q r o no (by rw[ei];exact er)
      ·refine⟨h.next,p.app cs,rfl,by rw[o8];exact if_pos rfl,?_,fun h=>(h rfl).elim⟩
       rw[ye,p2]
       change nC h (.nW id1 Zd n Zc)=some (n,ds)at d1
       have:ds=ds:=rfl
       exact d2.app c2
     refine⟨_,_,_,?_,hT.2,hT.1,mkV⟩
     show(bif Nat.beq m 0 then Go.Ab.Ro.ok (.nW id1 Zd n Zc) h else match h.cw.get id1 with
      |none=>.bad
      |some cs'=>match cs'.sub Zd (Nat.mul n Zc)with
       |none=>.bad
       |some pre=>bif Nat.ble (Nat.mul (Nat.add n m) bytes) 70368744177664&&(Nat.beq Zc Zc&&(oD nA cs&&(Nat.beq (len cs) (Nat.mul m Zc)&&Nat.ble (Nat.add n m) 70368744177664)))then
        .ok (.nW h.next 0 (Nat.add n m) Zc) (nn (qx h id1 none) (pre.app cs))else .bad)=_
     have p1':aol.sub Zd (Nat.mul n Zc)=some p:=p1
     rw[hnz]
     simp only[cond_false,y3,p1']
     rw[Ky,hlc,Nat.beq_refl,show Nat.ble (Nat.mul (Nat.add n m) bytes) 70368744177664=true from by rw[Nat.ble_eq];exact r1,show Nat.ble (Nat.add n m) 70368744177664=true from by rw[Nat.ble_eq];exact r2]
     rfl
   ·cases e
  ·split at e
   ·exact typed e
   ·cases e
 ·split at e
  ·exact typed e
  ·cases e
end Lf
end Go.Ab

noncomputable section
namespace Go.Ab
namespace Lf
theorem TE{E:En}{H:Hq}{h:Hp}(S:SR E H h){r:Nat}{R R':Row}(hr:H.cw.get r=some R)(lv:R.live=true)(hR:RV E H.next h (E.K r) R'):SR E (ql H r (some R')) h/\Nx E E H (ql H r (some R')) h h:=by
 have ow: ∀ q,own (ql H r (some R')) q->own H q:=by
  rintro q ⟨Q,a,b⟩
  rw[ov]at a
  split at a
  ·rename_i e;rw[e];exact⟨R,hr,lv⟩
  ·exact⟨Q,a,b⟩
 refine⟨⟨?_,?_,?_,?_⟩,⟨Bh.refl _ _,Nat.le_refl _,Nat.le_refl _,fun q id o e=>.inl ⟨q,ow q o,e⟩,fun _ _ e=>.inl e,fun _ _ _=>rfl⟩⟩
 ·intro q Q hq
  rw[ov]at hq
  split at hq
  ·rename_i e;subst e;cases hq;exact⟨(S.row _ _ hr).1,hR⟩
  ·exact S.row _ _ hq
 ·exact fun a b i oa ob ea eb=>S.inj a b i (ow a oa) (ow b ob) ea eb
 ·exact fun a i oa ea=>S.lt a i (ow a oa) ea
 ·intro i row e
  obtain⟨a,b,c⟩:=S.g i row e
  exact⟨a,b,fun q oq=>c q (ow q oq)⟩
theorem TF{G:Nat->Option Rw}{t:Ty}{x y:List (den t)}{ls cs:List AV}(e:ru (EV G t) x ls)(k:ru (EV G t) y cs)(off:Nat):ru (EV G t) (x.take off++(y++x.drop (off+y.length))) (ls.take (off*size t)++(cs++ls.drop (off*size t+y.length*size t))):=by
 have h1:=e.take (EV.length t) off
 have h2:=e.drop (EV.length t) (off+y.length)
 rw[Nat.add_mul]at h2
 exact h1.app (k.app h2)
theorem PY{size:Nat}{d s:Od}{t:Tm}{h:Hp}{b:AV}{m:Nat}{cs:List AV}(h1:cI d t=some .pO)(h2:cI s t=some b)(h3:nC h b=some (m,cs)):sE size (cI d) (cI s) t h=.ok (.int .i64 (.ofNat 0)) h:=by
 unfold sE
 rw[h1,h2]
 simp only[h3]
theorem Ze{size:Nat}{d s:Od}{t:Tm}{h:Hp}{b:AV}{m id off n sz:Nat}{cs:List AV}(h1:cI d t=some (.nW id off n sz))(h2:cI s t=some b)(h3:nC h b=some (m,cs))(h0:min m n=0):sE size (cI d) (cI s) t h=.ok (.int .i64 (.ofNat 0)) h:=by
 unfold sE
 rw[h1,h2]
 simp only[h3,yf,h0]
 rfl
theorem Zf{size:Nat}{d s:Od}{t:Tm}{h:Hp}{b:AV}{m id off n sz:Nat}{cs:List AV}{row:Rw}(h1:cI d t=some (.nW id off n sz))(h2:cI s t=some b)(h3:nC h b=some (m,cs))(h0:min m n≠0)(hr:h.cw.get id=some row)(hz:0<size)(hs:sz=size)
 (hl:cs.length=m*size)(hc: ∀ a,a∈cs->nA a=true)(hn:off+min m n*size<=row.n):sE size (cI d) (cI s) t h=.ok (.int .i64 (.ofNat (min m n))) (qx h id (some (row.put off (cs.take (min m n*size))))):=by
 unfold sE
 rw[h1,h2]
 have hb:Nat.beq (min m n) 0=false:=by
  cases q:Nat.beq (min m n) 0 with
  |false=>rfl
  |true=>exact(h0 (Nat.eq_of_beq_eq_true q)).elim
 have q:((Nat.blt 0 size&&(Nat.beq sz size&&(Nat.beq (len cs) (Nat.mul m size)&&oD Go.Ab.nA cs)))&&Nat.ble (Nat.add off (Nat.mul (min m n) size)) row.n)=true:=by
  have a1:Nat.blt 0 size=true:=by simpa using hz
  have a2:Nat.beq sz size=true:=by rw[hs];exact Nat.beq_refl _
  have a3:Nat.beq (len cs) (Nat.mul m size)=true:=by rw[cQ,hl];exact Nat.beq_refl _
  have a4:oD Go.Ab.nA cs=true:=by rw[pQ,List.all_eq_true];exact hc
  have a5:Nat.ble (Nat.add off (Nat.mul (min m n) size)) row.n=true:=by rw[Nat.ble_eq];exact hn
  rw[a1,a2,a3,a4,a5]
  rfl
 simp only[h3,yf,hb,cond_false,hr,q,cond_true,vJ]
 rfl
theorem Zg{row:Rw}{ls new:List AV}{base k o:Nat}(s:row.ri base k=some ls)(hk:ls.length=k)(ho:o+new.length<=k):(row.put (base+o) new).ri base k=some (ls.take o++(new++ls.drop (o+new.length))):=by
 obtain⟨s1,s2⟩:=nU.1 s
 have hn:base+o+new.length<=row.n:=by omega
 refine nU.2 ⟨by show base+k<=row.n;exact s1,?_⟩
 have xw:row.toL=row.toL.take base++(ls++row.toL.drop (base+k)):=by
  rw[s2,<-List.drop_drop,List.take_append_drop,List.take_append_drop]
 have JW:(row.toL.take base).length=base:=by rw[List.length_take,nR];omega
 have e1:=Bi ls (row.toL.drop (base+k)) new o (by omega) (row.toL.take base)
 rw[<-xw,JW]at e1
 rw[yd hn,e1,List.drop_append_of_le_length (by rw[JW];exact Nat.le_refl _)]
 rw[show List.drop base (row.toL.take base)=[]from by rw[List.drop_eq_nil_iff,JW];exact Nat.le_refl _,List.nil_append]
 rw[List.take_append_of_le_length (by rw[Bj _ _ _ (by omega)];omega)]
 rw[show List.take k (put ls o new)=put ls o new from by rw[List.take_of_length_le];rw[Bj _ _ _ (by omega)];omega]
 rw[put_eq]
theorem TG{t:Ty}{v:Sv}{a:AV}{x:List (den t)}{E:En}{H H1:Hq}{h:Hp}(S:SR E H h)(hv:V E H.next v a)(e:Ta t v H=some (x,H1)): ∃ E1,Fz E E1 H H1 h/\ ∃ cs,nC h (zt a)=some (x.length,cs)/\ru (EV E1.G t) x cs:=by
 unfold Ta at e
 split at e
 ·rename_i r hr
  cases e
  obtain⟨E1,F,D⟩:=Bk S hv hr
  refine⟨E1,F,?_⟩
  rcases D with⟨d1,rfl⟩|⟨id,base,row,ls,d1,d2,d3,d4⟩
  ·exact⟨[],by rw[oH d1];rfl,rfl⟩
  ·refine⟨ls,?_,d4⟩
   rw[d1]
   show(match h.cw.get id with|some cs=>(match cs.ri base (Nat.mul x.length (size t))with|some l=>some (x.length,l)|none=>none)|none=>none)=_
   rw[d2]
   have s':row.ri base (Nat.mul x.length (size t))=some ls:=d3
   simp only[s']
 ·obtain⟨E1,F,kc⟩:=Kx S hv e
  obtain⟨cs,c1,c2⟩:=Ep F.S kc
  exact⟨E1,F,cs,c1,c2⟩
theorem TH{size:Nat}{d s:Od}{r sz off n:Nat}{sv v:Sv}{E:En}{T T':Tq}{t:Tm}{H H':Hq}{h:Hp}{b c:AV}(hT:TV E H.next T t)(S:SR E H h)(hs:cI s t=some (zt b))(QW:V E H.next sv b)(hd:cI d t=some (zt c))
 (hk:(n=0/\nr c=true)∨ ∃ id base,(E.K r).av=.nW id base (E.K r).n sz/\c=.nW id (base+off*sz) n sz/\off+n<=(E.K r).n)(e:(YN size sv r sz off n T H).val=some (v,T',H')):
 ∃ a h' E',Ev (fun _ _=>sE size (cI d) (cI s) t h) (.ok a h')/\Nx E E' H H' h h'/\SR E' H' h'/\V E' H'.next v a/\TV E' H'.next T' t:=by
 unfold YN at e
 split at e
 ·rename_i ty x hr
  obtain⟨hb,e⟩:=nL e
  rw[Bool.and_eq_true,Bool.and_eq_true]at hb
  obtain⟨b0,b1,b2⟩:=hb
  have b0:0<size:=by simpa using b0
  have b1:=beq_true b1
  have b2:=beq_true b2
  split at e
  ·rename_i y H1 hy
   split at e
   ·rename_i t2 x2 hr2
    obtain⟨rfl,rfl,rfl⟩:=cB e
    obtain⟨E1,F,cs,c1,c2⟩:=TG S QW hy
    have q:=(S.row _ _ hr).2
    have px:cs.length=y.length*size:=by rw[c2.length (EV.length ty),b2]
    have lrm:LR E1.G ty x (E1.K r) h.cw.get:=by rw[F.K];exact LR.mono F.g (fun _ _ _ e=>e) q
    rw[mP,mP]
    by_cases h0:min y.length n=0
    ·have Dv:x.take off++(y.take (min y.length n)++x.drop (Nat.add off (min y.length n)))=x:=by
      rw[h0,List.take_zero,List.nil_append]
      exact List.take_append_drop _ _
     rw[Dv]
     obtain⟨S1,X1⟩:=TE F.S hr2 rfl (R':=.l ty x) lrm
     refine⟨.int .i64 (.ofNat 0),h,E1,?_,F.X.trans X1,S1,?_,hT.mono (F.X.trans X1).e (F.X.trans X1).le⟩
     ·rcases hk with⟨hn,hc⟩|⟨id,base,k1,k2,k3⟩
      ·exact Ev.const (PY (by rw[hd,oH hc]) hs c1)
      ·exact Ev.const (Ze (by rw[hd,k2];rfl) hs c1 h0)
     ·rw[h0];exact oJ
    ·rcases hk with⟨hn,hc⟩|⟨id,base,k1,k2,k3⟩
     ·subst hn;rw[Nat.min_zero]at h0;exact(h0 rfl).elim
     ·rcases lrm.2 with⟨k,_⟩|⟨Am,To,row,ls,p1,p2,p3,p4⟩
      ·rw[F.K,k1]at k;cases k
      ·rw[F.K,k1]at p1
       injection p1 with a1 a2 a3 a4
       subst a1;subst a2
       have hxn:x.length=(E.K r).n:=q.1
       have hls:ls.length=(E1.K r).n*size:=by rw[p4.length (EV.length ty),F.K,hxn,b2]
       obtain⟨w,hw⟩: ∃ w,w=min y.length n:=⟨_,rfl⟩
       have hwn:w<=n:=by rw[hw];exact Nat.min_le_right _ _
       have hwy:w<=y.length:=by rw[hw];exact Nat.min_le_left _ _
       have hyl:(y.take w).length=w:=by rw[List.length_take];exact Nat.min_eq_left hwy
       have hcw:(cs.take (w*size)).length=w*size:=by
        rw[List.length_take,px];exact Nat.min_eq_left (Nat.mul_le_mul_right _ hwy)
       have hm:off*size+w*size<=(E.K r).n*size:=by rw[<-Nat.add_mul];exact Nat.mul_le_mul_right _ (by omega)
       have p3':row.ri base ((E1.K r).n*size)=some ls:=by rw[b2];exact p3
       obtain⟨s1,_⟩:=nU.1 p3'
       rw[F.K]at s1
       have ps:=Zg (o:=off*size) (new:=cs.take (w*size)) p3' hls (by rw[hcw,F.K];exact hm)
       have he:=TF p4 (by have:=c2.take (EV.length ty) w;rw[<-b2]at this;exact this) off
       rw[hyl,<-b2]at he
       rw[hcw]at ps
       have qd:r9 (E1.K r).av=some id:=by rw[F.K,k1];rfl
       have hR:RV E1 H1.next (qx h id (some (row.put (base+off*size) (cs.take (w*size))))) (E1.K r) (.l ty (x.take off++(y.take w++x.drop (off+w)))):=by
        refine⟨?_,.inr ⟨id,base,_,_,by rw[F.K,k1,b1,b2],by rw[qG,if_pos rfl],by rw[<-b2];exact ps,he⟩⟩
        rw[F.K,<-hxn,List.length_append,List.length_append,List.length_take,hyl,List.length_drop]
        omega
       obtain⟨S1,X1⟩:=FP F.S hr2 rfl rfl qd hR
       rw[<-hw]
       refine⟨.int .i64 (.ofNat w),_,E1,Ev.const ?_,F.X.trans X1,S1,oJ,hT.mono (F.X.trans X1).e (F.X.trans X1).le⟩
       have:=Zf (size:=size) (by rw[hd,k2];rfl) hs c1 h0 p2 b0 b1 px (ru.nA (EV.nA ty) c2) (by rw[b1,<-hw];omega)
       rw[b1,<-hw]at this
       exact this
   ·cases e
  ·cases e
 ·cases e
theorem TI(size:Nat)(d s:Od):og (Tb size d s) (fun _ _=>sE size (cI d) (cI s)):=by
 intro E T t H h v T' H' hT hH e
 unfold Tb at e
 split at e
 ·rename_i sv hs
  obtain⟨b,hb,QX⟩:=uf hT hs
  split at e
  ·rename_i r sz hd
   obtain⟨c,hc,oN⟩:=uf hT hd
   split at e
   ·rename_i ty x hr
    refine TH hT hH hb QX hc ?_ e
    have q:=(hH.row _ _ hr).2
    cases oN with
    |os h1 h2=>
     rcases h2 with⟨h2,h3⟩|⟨id,base,h2⟩
     ·exact .inl ⟨by have:=q.1;omega,h2⟩
     ·exact .inr ⟨id,base,h2,by rw[h2,q.1,Nat.zero_mul,Nat.add_zero],by have:=q.1;omega⟩
   ·cases e
  ·rename_i r sz off n hd
   obtain⟨c,hc,oN⟩:=uf hT hd
   refine TH hT hH hb QX hc ?_ e
   cases oN with
   |se h1 h2 h3 h4=>exact .inl ⟨rfl,h2⟩
   |ss h1 h2 h3=>exact .inr ⟨_,_,h2,rfl,h3⟩
  ·cases e
 ·cases e
end Lf
end Go.Ab

noncomputable section
namespace Go.Ab
namespace Lf
theorem KE(size bytes:Nat)(s x:Od):og (FI size bytes s x) (fun _ _=>oF size bytes (cI s) (cI x)):=by
 intro E T t H h v T' H' hT hH e
 unfold FI at e
 split at e
 ·rename_i sv hs
  split at e
  ·rename_i xv hx
   obtain⟨a,ha,CB⟩:=cG hT hs
   obtain⟨b,hb,QX⟩:=cG hT hx
   obtain⟨rfl,c,h',E',e1,X,S',vA⟩:=TD hH ha CB hb QX e
   exact⟨c,h',E',Ev.const e1,X,S',vA,hT.mono X.e X.le⟩
  ·cases e
 ·cases e
theorem aeE:SR ⟨fun _=>⟨.any,0⟩,fun _=>.any,fun _=>none,fun _=>.any⟩ ⟨0,.nil⟩ ⟨0,.nil⟩:=
 ⟨(fun _ _ e=>by cases e),(fun _ _ _ o=>by obtain⟨_,e,_⟩:=o;cases e),(fun _ _ o=>by obtain⟨_,e,_⟩:=o;cases e),(fun _ _ e=>by cases e)⟩
theorem HT{z:List AV}{t:Ty}{x:den t}(e:Nj z=some ⟨t,x⟩)(G:Nat->Option Rw):EV G t x z:=by
 unfold Nj at e
 split at e
 ·rename_i t' ht
  split at e
  ·rename_i l hl
   split at e
   ·rename_i y q hy
    cases e
    obtain⟨E',c,d,F,hcd,hev,hd⟩:=xH t _ _ _ l [] z x q aeE (yJ hl) hy
    have:d=[]:=by cases hd;rfl
    rw[this,List.append_nil]at hcd
    rw[hcd]
    refine EV.mono (fun id row k=>?_) _ _ _ hev
    have:=(F.S.g id row k).1
    exact absurd this (Nat.not_lt_zero _)
   ·cases e
  ·cases e
 ·cases e
theorem FR{G:Nat->Option Rw}{t:Ty}{x:den t}{z:List AV}(h:EV G t x z): ∀ n,ru (EV G t) (List.replicate n x) (oQ n z)
 |0=>rfl
 |n+1=>by
  rw[List.replicate_succ]
  show ru _ _ (app z (oQ n z))
  rw[mP]
  exact⟨z,_,rfl,h,FR h n⟩
theorem TJ(size bytes:Nat)(z:List AV)(s x:Od):og (S7 size bytes z s x) (fun _ _=>tL size bytes z (cI s) (cI x)):=by
 intro E T t H h v T' H' hT hH e
 unfold S7 at e
 split at e
 ·rename_i sv hs
  split at e
  ·rename_i xv hx
   split at e
   ·rename_i k n hn
    obtain⟨_,e⟩:=nL e
    split at e
    ·rename_i ty y hz
     obtain⟨hb,e⟩:=nL e
     obtain⟨h0,e⟩:=Lf.T.cP e
     rw[Bool.and_eq_true]at hb
     have hb1:=beq_true hb.1
     obtain⟨a,ha,CB⟩:=cG hT hs
     obtain⟨b,D4,QX⟩:=cG hT hx
     have:=pE QX hn;subst this
     obtain⟨j,rfl⟩:=Int.eq_ofNat_of_zero_le (by simpa using h0)
     have hy:=FR (HT hz E.G) (j:Int).toNat
     obtain⟨rfl,c,h',E',e1,X,S',vA⟩:=KD hH CB hy (z:=Nat.beq j 0) (fun q=>by have:=beq_true q;subst this;rfl) e
     refine⟨c,h',E',Ev.const ?_,X,S',vA,hT.mono X.e X.le⟩
     unfold tL
     rw[ha,D4]
     rw[List.length_replicate]at e1
     show(bif xq a&&Nat.beq j 0 then Go.Ab.Ro.ok a h else xZ size bytes h (zt a) j (oQ j z))=_
     rw[hb1];exact e1
    ·cases e
   ·cases e
  ·cases e
 ·cases e
theorem zU(G:Nat->Option Rw): ∀ (l:List UInt8),ru (EV G (.int .u8)) (l.map fun b=>Int.ofNat b.toNat) (l.map fun b=>AV.int .u8 (.ofNat b.toNat))
 | []=>rfl
 |b::l=>⟨[_],_,rfl,rfl,zU G l⟩
theorem TK(bytes:Nat)(s x:Od):og (S8 bytes s x) (fun _ _=>yc bytes (cI s) (cI x)):=by
 intro E T t H h v T' H' hT hH e
 unfold S8 at e
 split at e
 ·rename_i sv hs
  split at e
  ·rename_i xv hx
   split at e
   ·rename_i k y hn
    obtain⟨_,e⟩:=nL e
    obtain⟨a,ha,CB⟩:=cG hT hs
    obtain⟨b,D4,QX⟩:=cG hT hx
    have:=vt QX hn;subst this
    have hl:y.data.toList.length=y.size:=Array.length_toList
    obtain⟨rfl,c,h',E',e1,X,S',vA⟩:=KD hH CB (zU E.G y.data.toList) (z:=Nat.beq y.size 0) (fun q=>by have:=beq_true q;rw[<-hl]at this;rw[List.eq_nil_of_length_eq_zero this];rfl) e
    refine⟨c,h',E',Ev.const ?_,X,S',vA,hT.mono X.e X.le⟩
    unfold yc
    rw[ha,D4]
    rw[List.length_map,hl]at e1
    exact e1
   ·cases e
  ·cases e
 ·cases e
theorem PZ(x:Od):og (Kp x) (fun _ _=>uQ (cI x)):=by
 intro E T t H h v T' H' hT hH e
 unfold Kp at e
 split at e
 ·rename_i xv hx
  split at e
  ·rename_i k y hn
   obtain⟨rfl,rfl,rfl⟩:=cB e
   obtain⟨b,D4,QX⟩:=cG hT hx
   have:=vt QX hn;subst this
   have hl:y.data.toList.length=y.size:=Array.length_toList
   obtain⟨S,X⟩:=ack hH (t:=.int .u8) (rw:=A5 (y.data.toList.map fun b=>AV.int .u8 (.ofNat b.toNat))) (by rw[pR];exact zU E.G y.data.toList)
   refine⟨.nW h.next 0 y.size 1,_,_,Ev.const ?_,X,S,?_,hT.mono X.e X.le⟩
   ·unfold uQ
    rw[D4]
   ·have hv:=V.os (E:=E.row H.next ⟨.nW h.next 0 (y.data.toList.map fun b=>Int.ofNat b.toNat).length (Lf.size (.int .u8)),(y.data.toList.map fun b=>Int.ofNat b.toNat).length⟩) (N:=(nG H (.l (.int .u8) (y.data.toList.map fun b=>Int.ofNat b.toNat))).next) (r:=H.next) (sz:=1) (Nat.lt_succ_self _) (.inr ⟨h.next,0,by show(if H.next=H.next then _ else _:Kr).av=AV.nW _ _ (if H.next=H.next then _ else _:Kr).n _;rw[if_pos rfl];rfl⟩)
    have e2:((E.row H.next ⟨.nW h.next 0 (y.data.toList.map fun b=>Int.ofNat b.toNat).length (Lf.size (.int .u8)),(y.data.toList.map fun b=>Int.ofNat b.toNat).length⟩).K H.next).av=.nW h.next 0 y.size 1:=by
     show(if H.next=H.next then _ else _:Kr).av=_
     rw[if_pos rfl]
     show AV.nW _ _ _ _=_
     rw[List.length_map,hl];rfl
    rw[e2]at hv
    exact hv
  ·cases e
 ·cases e
theorem Zh{T:Tq}{l c:Od}{lv cv:Sv}{k k':IntKind}{m n:Int}(h:PM l c=true)(h1:qM l T=some lv)(h2:qM c T=some cv)(e1:toN lv=some (k,m))(e2:toN cv=some (k',n)):m=n:=by
 unfold PM at h
 split at h
 ·have:=beq_true h;subst this
  rw[h1]at h2;cases h2
  rw[e1]at e2;cases e2;rfl
 ·cases h1;cases h2;cases e1;cases e2
  exact oU.1 h
 ·cases h
theorem TL(size bytes:Nat)(z:List AV)(l c:Od):og (S9 size bytes z l c) (fun _ _=>tK size bytes z (cI l) (cI c)):=by
 intro E T t H h v T' H' hT hH e
 unfold S9 at e
 split at e
 ·rename_i lv hl
  split at e
  ·rename_i cv hc
   split at e
   ·rename_i k l' hln
    split at e
    ·rename_i k' c' hcn
     split at e
     ·rename_i ty y hz
      obtain⟨hb,e⟩:=nL e
      obtain⟨h0,e⟩:=Lf.T.cP e
      obtain⟨rfl,rfl,rfl⟩:=cB e
      rw[Bool.and_eq_true]at hb
      have hb1:=beq_true hb.1
      simp only[Bool.and_eq_true,decide_eq_true_eq]at h0
      obtain⟨⟨h1,h2⟩,h3⟩:=h0
      obtain⟨a,ha,CB⟩:=cG hT hl
      obtain⟨b,D4,QX⟩:=cG hT hc
      have:=pE CB hln;subst this
      have:=pE QX hcn;subst this
      have heq:PM l c=true->l'=c':=fun q=>Zh q hl hc hln hcn
      obtain⟨m,rfl⟩:=Int.eq_ofNat_of_zero_le h1
      obtain⟨n,rfl⟩:=Int.eq_ofNat_of_zero_le (Int.le_trans h1 h2)
      have hmn:m<=n:=by omega
      have h3:n*bytes<=70368744177664:=h3
      have hk:tK size bytes z (cI l) (cI c) t h=bif Nat.beq n 0 then .ok .ur h else .ok (.nW h.next 0 m size) (nn h ⟨Nat.mul n (len z),z,.nil⟩):=by
       unfold tK
       rw[ha,D4]
       show(bif Nat.ble m n&&Nat.ble (Nat.mul n bytes) 70368744177664 then(bif Nat.beq n 0 then Go.Ab.Ro.ok .ur h else .ok (.nW h.next 0 m size) (nn h ⟨Nat.mul n (len z),z,.nil⟩))else .bad)=_
       rw[show Nat.ble m n=true from by rw[Nat.ble_eq];exact hmn,show Nat.ble (Nat.mul n bytes) 70368744177664=true from by rw[Nat.ble_eq];exact h3]
       rfl
      have aon:=FR (HT hz E.G) n
      simp only[Int.toNat_natCast]
      cases hn:Nat.beq n 0 with
      |true=>
       have W6:=beq_true hn
       subst W6
       have hm0:m=0:=by omega
       subst hm0
       rw[hn]at hk
       have Xd:SR (E.row H.next ⟨.ur,0⟩) (nG H (.l ty (List.replicate 0 y))) h/\Nx E (E.row H.next ⟨.ur,0⟩) H (nG H (.l ty (List.replicate 0 y))) h h:=
        qW hH rfl (fun _ _ e=>e) (Nat.le_refl _) (fun _ _ _=>rfl) (fun _ e=>by cases e) ⟨rfl,.inl ⟨rfl,rfl⟩⟩ rfl
       refine⟨.ur,h,_,Ev.const hk,Xd.2,Xd.1,?_,hT.mono Xd.2.e Xd.2.le⟩
       have K0:(E.row H.next ⟨.ur,0⟩).K H.next=⟨.ur,0⟩:=if_pos rfl
       cases hq:PM l c with
       |true=>
        have:=V.os (E:=E.row H.next ⟨.ur,0⟩) (N:=(nG H (.l ty (List.replicate 0 y))).next) (r:=H.next) (sz:=size) (Nat.lt_succ_self _) (.inl (by rw[K0];exact⟨rfl,rfl⟩))
        rw[K0]at this;exact this
       |false=>
        have:=V.se (E:=E.row H.next ⟨.ur,0⟩) (N:=(nG H (.l ty (List.replicate 0 y))).next) (r:=H.next) (sz:=size) (off:=0) (Nat.lt_succ_self _) (by rw[K0];rfl) (by rw[K0]) rfl
        rw[K0]at this;exact this
      |false=>
       rw[hn]at hk
       obtain⟨S,X⟩:=ack hH (t:=ty) (x:=List.replicate n y) (rw:=⟨Nat.mul n (len z),z,.nil⟩) (by rw[MH];exact aon)
       refine⟨_,_,_,Ev.const hk,X,S,?_,hT.mono X.e X.le⟩
       have K0:(E.row H.next ⟨.nW h.next 0 (List.replicate n y).length (Lf.size ty),(List.replicate n y).length⟩).K H.next=⟨.nW h.next 0 n size,n⟩:=by
        show(if H.next=H.next then _ else _)=_
        rw[if_pos rfl,List.length_replicate,hb1]
       cases hq:PM l c with
       |true=>
        have aoo:m=n:=by have:=heq hq;omega
        subst aoo
        have:=V.os (E:=E.row H.next ⟨.nW h.next 0 (List.replicate m y).length (Lf.size ty),(List.replicate m y).length⟩) (N:=(nG H (.l ty (List.replicate m y))).next) (r:=H.next) (sz:=size) (Nat.lt_succ_self _) (.inr (by rw[K0];exact⟨_,_,rfl⟩))
        rw[K0]at this;exact this
       |false=>
        have:=V.ss (E:=E.row H.next ⟨.nW h.next 0 (List.replicate n y).length (Lf.size ty),(List.replicate n y).length⟩) (N:=(nG H (.l ty (List.replicate n y))).next) (r:=H.next) (sz:=size) (off:=0) (n:=m) (id:=h.next) (base:=0) (Nat.lt_succ_self _) (by rw[K0]) (by rw[K0];show 0+m<=n;omega)
        rw[Nat.zero_mul]at this;exact this
     ·cases e
    ·cases e
   ·cases e
  ·cases e
 ·cases e
def w8(call:o7)(cr:cx):Prop:= ∀ (E:En) (f:FuncId) (args:List Sv) (as:List AV) (H:Hq) (h:Hp) (v:Sv) (H':Hq),Vs E H.next args as->SR E H h->(call f args H).val=some (v,H')->
 ∃ c h' E',Ev (fun n d=>cr n d f as h) (.ok c h')/\Nx E E' H H' h h'/\SR E' H' h'/\V E' H'.next v c
section
variable {call:o7}{cr:cx}(C:w8 call cr)
include C
theorem TM(f:FuncId)(args:List Od):og (Tc call f args) (fun n d=>Al (cr n d) f (args.map cI)):=by
 intro E T t H h v T' H' hT hH e
 unfold Tc at e
 split at e
 ·rename_i vs hv
  obtain⟨p,e1,e2⟩:=Lf.T.mZ e
  obtain⟨rfl,rfl,rfl⟩:=cB e2
  obtain⟨cs,hc,oN⟩:=FL hT hv
  obtain⟨c,h',E',k,X,S,w⟩:=C E f vs cs H h p.1 p.2 oN hH e1
  refine⟨c,h',E',?_,X,S,w,hT.mono X.e X.le⟩
  unfold Al
  simp only[hc]
  exact k
 ·cases e
theorem P0(f:Od)(args:List Od):og (Ks call f args) (fun n d=>vH (cr n d) (cI f) (args.map cI)):=by
 intro E T t H h v T' H' hT hH e
 unfold Ks at e
 split at e
 ·rename_i g cap hg
  split at e
  ·rename_i vs hv
   obtain⟨p,e1,e2⟩:=Lf.T.mZ e
   obtain⟨rfl,rfl,rfl⟩:=cB e2
   obtain⟨a,ha,CB⟩:=cG hT hg
   obtain⟨cs,hc,oN⟩:=FL hT hv
   cases CB with
   |fn B3=>
    rename_i l'
    rw[mP]at e1
    obtain⟨c,h',E',k,X,S,w⟩:=C E g _ _ H h p.1 p.2 (oN.app B3) hH e1
    refine⟨c,h',E',?_,X,S,w,hT.mono X.e X.le⟩
    unfold vH
    simp only[ha,hc,mP]
    exact k
  ·cases e
 ·cases e
omit C in
theorem TN{h:Hp}: ∀ (l:List Sv) (cs:List AV) (E:En) (H:Hq),SR E H h->Vs E H.next l cs->
 ∃ E',Nx E E' H ⟨(qU l H.next).2,H.cw⟩ h h/\SR E' ⟨(qU l H.next).2,H.cw⟩ h/\Vs E' (qU l H.next).2 (qU l H.next).1 cs:=by
 intro l
 induction l with
 |nil=>intro cs E H S v;exact⟨E,Nx.refl _ _ _,S,v⟩
 |cons a l ih=>
  intro cs E H S v
  have plain: ∀ (c:AV) (cs':List AV),cs=c::cs'->V E H.next a c->Vs E H.next l cs'-> ∃ E',Nx E E' H ⟨(qU l H.next).2,H.cw⟩ h h/\SR E' ⟨(qU l H.next).2,H.cw⟩ h/\Vs E' (qU l H.next).2 (a::(qU l H.next).1) cs:=by
   rintro c cs' rfl va vl
   obtain⟨E',n1,s1,v1⟩:=ih cs' E H S vl
   exact⟨E',n1,s1,.cons (va.mono n1.e n1.le) v1⟩
  cases v with
  |cons va vl=>
   rename_i c cs'
   cases a with
   |c m t x=>
    cases t with
    |cp t=>
     cases hm:Nat.beq m 0 with
     |false=>
      have e:qU (.c m (.cp t) x::l) H.next=(.c m (.cp t) x::(qU l H.next).1,(qU l H.next).2):=by
       show(bif Nat.beq m 0 then _ else _)=_
       rw[hm];rfl
      rw[e]
      exact plain c cs' rfl va vl
     |true=>
      have e:qU (.c m (.cp t) x::l) H.next=(.c H.next (.cp t) x::(qU l (Nat.add H.next 1)).1,(qU l (Nat.add H.next 1)).2):=by
       show(bif Nat.beq m 0 then _ else _)=_
       rw[hm];rfl
      rw[e]
      let E1:En:=⟨E.K,fun r=>if r=H.next then c else E.tk r,E.G,E.A⟩
      let H1:Hq:=⟨Nat.add H.next 1,H.cw⟩
      have el:Bh E E1 H.next:=⟨fun _ _=>rfl,fun r hr=>if_neg (Nat.ne_of_lt hr),fun _ _ e=>e,rfl⟩
      have hle:H.next<=H1.next:=Nat.le_add_right _ 1
      have n0:Nx E E1 H H1 h h:=⟨el,hle,Nat.le_refl _,fun r _ a b=>.inl ⟨r,a,b⟩,fun _ _ a=>.inl a,fun _ _ _=>rfl⟩
      have s1:SR E1 H1 h:=⟨fun r R hr=>⟨Nat.lt_of_lt_of_le (S.row r R hr).1 hle,RV.mono el hle (fun _ _ _ _ k=>k) (S.row r R hr).2⟩,S.inj,S.lt,S.g⟩
      obtain⟨E',n1,s2,v1⟩:=ih cs' E1 H1 s1 (vl.mono el hle)
      refine⟨E',n0.trans n1,s2,.cons ?_ v1⟩
      cases va with
      |c k _=>
       refine .c (EV.mono (fun _ _ e=>n1.e.G _ _ e) _ _ _ k) fun _=>⟨Nat.lt_of_lt_of_le (Nat.lt_succ_self H.next) n1.le,?_⟩
       rw[n1.e.tk H.next (Nat.lt_succ_self H.next)]
       exact(if_pos rfl).symm
    | _=>exact plain c cs' rfl va vl
   | _=>exact plain c cs' rfl va vl
omit C in
theorem Zi(b:Od){f:ou}{g:OpN}(k:og f g):og (aem b f) g:=by
 intro E T t H h v T' H' hT hH e
 unfold aem at e
 split at e
 ·rename_i i
  cases hi:Nat.blt i 512 with
  |false=>rw[hi]at e;exact k E T t H h v T' H' hT hH e
  |true=>
   rw[hi]at e
   simp only[cond_true]at e
   split at e
   ·rename_i l hl
    obtain⟨a,ha,CB⟩:=hT i _ (cM.1 hi) hl
    cases CB with
    |ag hl'=>
     rename_i l'
     obtain⟨E1,n1,s1,v1⟩:=TN l l' E H hH hl'
     have xW:TV E1 (qU l H.next).2 (T.put i (some (.ag (qU l H.next).1))) t:=by
      have:=(hT.mono n1.e n1.le)
      intro j w hj hw
      rw[Tq.qy _ _ _ _ (cM.1 hi) hj]at hw
      split at hw
      ·rename_i e1
       subst e1
       cases hw
       exact⟨_,ha,.ag v1⟩
      ·exact this j w hj hw
     obtain⟨c,h',E',k1,k2,k3,k4,k5⟩:=k E1 _ t ⟨(qU l H.next).2,H.cw⟩ h v T' H' xW s1 e
     exact⟨c,h',E',k1,n1.trans k2,k3,k4,k5⟩
   ·exact k E T t H h v T' H' hT hH e
 ·exact k E T t H h v T' H' hT hH e
omit C in
theorem TO(a:Od):og (Td a) (fun _ _=>xf (cI a)):=mX (by
 intro E T t H h v T' H' hT hH e
 unfold Td at e
 split at e
 ·rename_i r sz hw
  split at e
  ·rename_i ty x hr
   obtain⟨c1,e⟩:=Lf.T.cP e
   obtain⟨rfl,rfl,rfl⟩:=cB e
   obtain⟨c,hc,oN⟩:=cG hT hw
   refine⟨rfl,rfl,c,?_,oN⟩
   have xg:Nat.beq x.length 0=false:=by cases q:Nat.beq x.length 0 with
    |true=>rw[q]at c1;cases c1
    |false=>rfl
   rcases HN oN (hH.row _ _ hr).2 with⟨_,rfl⟩|⟨id,base,row,ls,rfl,_,_,k4,_⟩
   ·cases xg
   ·unfold xf
    rw[hc]
    simp only[xg,k4,cond_false]
  ·cases e
 ·rename_i r sz off n hw
  split at e
  ·rename_i g l hr
   cases hn:Nat.beq n 0 with
   |true=>rw[hn]at e;cases e
   |false=>
    rw[hn]at e
    obtain⟨rfl,rfl,rfl⟩:=cB e
    obtain⟨c,hc,oN⟩:=cG hT hw
    refine⟨rfl,rfl,c,?_,oN⟩
    obtain⟨id,row,k1,k2,_⟩:=(hH.row _ _ hr).2
    cases oN with
    |xo _ h2=>
     rw[k1]at h2
     cases h2
     unfold xf
     rw[hc]
     simp only[hn,k2,cond_false]
  ·cases e
 ·cases e)
omit C in
theorem Zj:og (fun t h=>okV (.a .any) t h) (fun _ _=>Go.Ab.O4):=by
 intro E T t H h v T' H' hT hH e
 obtain⟨rfl,rfl,rfl⟩:=cB e
 exact⟨.any,h,E,Ev.const rfl,Nx.refl _ _ _,hH,.a rfl,hT⟩
theorem Zk(o:nT):og (Ct call o) (fun n d=>Kj (cr n d) o):=by
 cases o<;>first|exact YQ|skip
 case mv=>exact Cw _
 case pk=>exact Tk _ _ _
 case nw=>exact YS _
 case bx=>exact YT _
 case bd=>exact PT _ _
 case rw=>exact YV _ _ _ _
 case ld=>exact Tz _ _ _
 case sto=>exact Zi _ (PW _ _ _)
 case nl=>exact YR _
 case bn=>exact Y0 _ _ _
 case un=>exact aey _ _
 case bys=>exact PZ _
 case fn=>exact aes _ _
 case mk=>exact TL _ _ _ _ _
 case slS=>exact KC _ _ _
 case slN=>exact KA _ _ _ _
 case slA=>exact KB _ _ _ _ _
 case fa=>exact DG _ _
 case fd=>exact PS _ _ _ _
 case ixS=>exact Y8 _ _ _
 case ixA=>exact Y9 _ _ _ _
 case ix=>exact PX _ _ _ _ _
 case ixT=>exact Kz _ _
 case ex=>exact HM _ _
 case lnT=>exact Tv _
 case ln=>exact YW _
 case ap=>exact KE _ _ _ _
 case apZ=>exact TJ _ _ _ _ _
 case apS=>exact TK _ _ _
 case emp=>exact Y' _ _ _
 case mrk=>exact TO _
 case min=>exact Y3 _ _
 case max=>exact Y4 _ _
 case cap=>exact Za _
 case map=>exact Zj
 case cpy=>exact TI _ _ _
 case call=>exact TM C _ _
 case callV=>exact P0 C _ _
end
end Lf
end Go.Ab

noncomputable section
namespace Go.Ab
namespace Lf
theorem KF{v:Value}(h:nr (.sc v)=true):SD v v=true:=by
 have h':isNil (.sc v)=true:=h
 cases v<;>first|(cases h';done)|skip
 rename_i p n c
 cases p with
 |none=>show(Nat.beq n n&&Nat.beq c c)=true;rw[Nat.beq_refl,Nat.beq_refl];rfl
 |some _=>cases h'
theorem HU(n:Int):eqI n n=true:=oU.2 rfl
theorem zW{a:AV}(h:nr a=true):tD a a=true:=by
 cases a<;>first|(cases h;done)|skip
 ·exact KF h
 ·rfl
 ·rfl
theorem HV{l m:List AV}(h:qL l l=true)(k:qL m m=true):qL (l++m) (l++m)=true:=by
 induction l with
 |nil=>exact k
 |cons a l ih=>
  have h:(tD a a&&qL l l)=true:=h
  rw[Bool.and_eq_true]at h
  show(tD a a&&qL (l++m) (l++m))=true
  rw[h.1,ih h.2];rfl
theorem HW{α:Type}{E:α->List AV->Prop}(hE: ∀ x cs,E x cs->qL cs cs=true): ∀ {x:List α} {ls:List AV},ru E x ls->qL ls ls=true
 | [],_,e=>by have e':_=[]:=e;subst e';rfl
 | _::_,_,⟨c,r,e,a,b⟩=>by subst e;exact HV (hE _ _ a) (HW hE b)
theorem Zl{G:Nat->Option Rw}{t:Ty}{E:den t->List AV->Prop}(hE: ∀ x cs,E x cs->qL cs cs=true){x:List (den t)}{a:AV}(k:Nn G t E x a):tD a a=true:=by
 rcases k with⟨k,_⟩|⟨ls,k1,k2|⟨id,base,row,k2,_,_⟩⟩
 ·exact zW k
 ·subst k2
  show(Nat.beq _ _&&qL ls ls)=true
  rw[Nat.beq_refl,Bool.true_and]
  exact HW hE k1
 ·subst k2
  show(Nat.beq _ _&&Nat.beq _ _&&Nat.beq _ _&&Nat.beq _ _)=true
  simp
theorem Bm{G:Nat->Option Rw}: ∀ (t:Ty) (x:den t) (cs:List AV),EV G t x cs->qL cs cs=true
 | .int k,x,_,e=>by
  have e':_=_:=e;subst e'
  show(qp k k&&eqI x x&&true)=true
  rw[Cz,HU];rfl
 | .bool,x,_,e=>by
  have e':_=_:=e;subst e'
  show(!(xor x x)&&true)=true
  cases x<;>rfl
 | .str,x,_,e=>by
  have e':_=_:=e;subst e'
  show(SD (.string x) (.string x)&&true)=true
  rw[Bool.and_true];show(x.data.toList == x.data.toList)=true;exact beq_self_eq_true _
 | .cp t,_,_,⟨a,e,k⟩=>by
  subst e
  show(tD a a&&true)=true
  rw[Zl (fun x cs=>Bm t x cs) k];rfl
 | .pair a b,_,_,⟨c,d,e,k1,k2⟩=>by
  subst e
  exact HV (Bm a _ _ k1) (Bm b _ _ k2)
theorem HX{E:En}{N:Nat}{u v:Sv}{a b:AV}{c:LB}(hu:V E N u a)(hv:V E N v b)(e:Nk u v=some c)(hc:c.v=true):tD a b=true:=by
 have SN:(match toN u,toN v with
  |some (k,a),some (k',b)=>bif qp k k' then some (LB.t (decide (a=b)))else none
  | _,_=>match toB u,toB v with
   |some a,some b=>some (LB.t (!(xor a.v b.v)))
   | _,_=>none)=some c->tD a b=true:=by
  intro e
  split at e
  ·rename_i k m k' n h1 h2
   obtain⟨hk,e⟩:=cR e
   cases e
   rw[pE hu h1,pE hv h2]
   have:m=n:=by simpa[LB.v]using hc
   subst this
   show(qp k k'&&eqI m m)=true
   rw[hk,HU];rfl
  ·split at e
   ·rename_i x y h1 h2
    cases e
    rw[pM hu h1,pM hv h2]
    exact hc
   ·cases e
 unfold Nk at e
 split at e
 ·have e:=(cR e).1;cases hu;cases hv;exact e
 ·cases hu;cases hv
  rename_i a b
  cases a<;>cases b<;>first|rfl|(cases e;done)
 ·have e:=(cR e).1;cases hu;cases hv;exact e
 ·have e:=(cR e).1
  rw[Bool.and_eq_true]at e
  have e1:=beq_true e.1;have e2:=beq_true e.2
  subst e1;subst e2
  cases hu with
  |rf _ h1=>cases hv with
   |rf _ h2=>
    rw[h1]at h2;cases h2
    show(Nat.beq _ _&&Nat.beq _ _)=true
    simp
 ·have e0:=(cR e).1
  replace e:=(cR e).2
  rw[Bool.and_eq_true,Bool.and_eq_true]at e0
  have e1:=beq_true e0.1;have e2:=beq_true e0.2.1;have e3:=beq_true e0.2.2
  subst e1;subst e2;subst e3
  cases e
  simp only[LB.v,decide_eq_true_eq]at hc
  subst hc
  cases hu with
  |re _ h1 _=>cases hv with
   |re _ h2 _=>
    rw[h1]at h2;cases h2
    show(Nat.beq _ _&&Nat.beq _ _)=true
    simp
 ·have e0:=(cR e).1
  rw[Bool.and_eq_true]at e0
  have e1:=beq_true e0.1;have e2:=beq_true e0.2
  subst e1;subst e2
  cases hu with
  |os _ h1=>cases hv with
   |os _ h2=>
    rcases h1 with⟨h1,_⟩|⟨id,base,h1⟩
    ·exact zW h1
    ·rw[h1];show(Nat.beq _ _&&Nat.beq _ _&&Nat.beq _ _&&Nat.beq _ _)=true;simp
 ·have e0:=(cR e).1
  replace e:=(cR e).2
  rw[Bool.and_eq_true]at e0
  have e1:=beq_true e0.1;have e2:=beq_true e0.2
  subst e1;subst e2
  cases e
  simp only[LB.v,Bool.and_eq_true,decide_eq_true_eq]at hc
  obtain⟨c1,c2⟩:=hc
  subst c1;subst c2
  cases hu with
  |se _ h1 _ _=>cases hv with
   |se _ _ _ _=>exact zW h1
   |ss _ h2 _=>rw[h2]at h1;cases h1
  |ss _ h1 _=>cases hv with
   |se _ h2 _ _=>rw[h1]at h2;cases h2
   |ss _ h2 _=>
    rw[h1]at h2
    injection h2 with a1 a2 _ _
    subst a1;subst a2
    show(Nat.beq _ _&&Nat.beq _ _&&Nat.beq _ _&&Nat.beq _ _)=true;simp
 ·have e0:=(cR e).1
  rw[Bool.and_eq_true,Bool.and_eq_true,Bool.and_eq_true]at e0
  have e1:=beq_true e0.1;have e2:=beq_true e0.2.1;have e3:=beq_true e0.2.2.1;have e4:=beq_true e0.2.2.2
  subst e1;subst e2;subst e3;subst e4
  cases hu with
  |xo _ h1=>cases hv with
   |xo _ h2=>rw[h1]at h2;cases h2;show(Nat.beq _ _&&Nat.beq _ _&&Nat.beq _ _&&Nat.beq _ _)=true;simp
 ·have e0:=(cR e).1
  rw[Bool.and_eq_true]at e0
  have hp:=cM.1 e0.1
  have e1:=beq_true e0.2
  subst e1
  cases hu with
  |c k1 m1=>cases hv with
   |c k2 m2=>
    rw[(m1 (by omega)).2,<-(m2 (by omega)).2]
    have:=Bm _ _ _ k2
    have this:(tD b b&&true)=true:=this
    rwa [Bool.and_true]at this
 ·exact SN e
theorem HY{E:En}{N:Nat}: ∀ {l m:List Sv} {as bs:List AV} {c:LB},Vs E N l as->Vs E N m bs->Nl l m=some c->c.v=true->qL as bs=true
 | [],[],_,_,_,.nil,.nil,_,_=>rfl
 | [],_::_,_,_,_,_,_,e,_=>by cases e
 | _::_,[],_,_,_,_,_,e,_=>by cases e
 |u::l,v::m,a::as,b::bs,c,.cons hu hl,.cons hv hm,e,hc=>by
  unfold Nl at e
  split at e
  ·rename_i x hx
   split at e
   ·rename_i y hy
    cases e
    rw[LB.Tu,Bool.and_eq_true]at hc
    show(tD a b&&qL as bs)=true
    rw[HX hu hv hx hc.1,HY hl hm hy hc.2];rfl
   ·cases e
  ·cases e
theorem CC{E:En}{N:Nat}{u v:Sv}{a b:AV}{c:LB}(hu:V E N u a)(hv:V E N v b)(e:HH u v=some c)(hc:c.v=true):tD a b=true:=by
 unfold HH at e
 split at e
 ·cases hu with
  |ag h1=>cases hv with
   |ag h2=>exact HY h1 h2 e hc
 ·exact HX hu hv e hc
theorem Ev.map{α β:Type}{p:Nat->Nat->α}{r:α}(h:Ev p r){q:Nat->Nat->β}{s:β}(k: ∃ M,∀ n d,M<=n->M<=d->p n d=r->q n d=s):Ev q s:=by
 obtain⟨M,h⟩:=h
 obtain⟨M',k⟩:=k
 exact⟨max M M',fun n d h1 h2=>k n d (by omega) (by omega) (h n d (by omega) (by omega))⟩
theorem Ev.xJ{α β:Type}{p:Nat->Nat->α}{r:α}(h:Ev p r){q:Nat->Nat->β}{s:β}(k: ∀ n d,p n d=r->q n d=s):Ev q s:=h.map ⟨0,fun n d _ _=>k n d⟩
theorem Ev.aeF{α β γ:Type}{p:Nat->Nat->α}{r:α}(h:Ev p r){q:Nat->Nat->β}{s:β}(k:Ev q s){f:Nat->Nat->γ}{u:γ}(g: ∀ n d,p n d=r->q n d=s->f n d=u):Ev f u:=by
 obtain⟨M,h⟩:=h
 obtain⟨M',k⟩:=k
 exact⟨max M M',fun n d h1 h2=>g n d (h n d (by omega) (by omega)) (k n d (by omega) (by omega))⟩
theorem KG{f:ou}{g:OpN}(s:og f g):og f (fun n d=>mn (g n d)):=by
 intro E T t H h v T' H' hT hH e
 obtain⟨c,h',E',k,X,S,w,QV⟩:=s E T t H h v T' H' hT hH e
 refine⟨c,h',E',k.xJ fun n d q=>?_,X,S,w,QV⟩
 have hb:Nat.ble h.next h'.next=true:=by rw[Nat.ble_eq];exact X.FJ
 simp only[mn,q,hb]
theorem KH{f:ou}{g:OpN}(s:og f g)(j:Od)(want:Bool):og (sGd j want f) (fun n d=>gF (cI j) want (g n d)):=by
 intro E T t H h v T' H' hT hH e
 unfold sGd at e
 split at e
 ·rename_i hj
  obtain⟨rfl,rfl,rfl⟩:=cB e
  obtain⟨a,ha,CB⟩:=cG hT hj
  cases CB with
  |tu k=>cases k;exact⟨pz,h,E,⟨0,fun n d _ _=>by unfold gF;simp only[ha]⟩,Nx.refl _ _ _,hH,.tu .nil,hT⟩
 ·obtain⟨c,T1,hc,xW,h1,h2⟩:=zP hT e
  have hg: ∀ n d,gF (cI j) want (g n d) t h=pH (pH want c (!c)) (g n d t h) (.ok pz h):=fun n d=>by unfold gF;rw[hc]
  have yes:(bif want then c else !c)=true->(f T1 H).val=some (v,T',H')-> ∃ c h' E',Ev (fun n d=>gF (cI j) want (g n d) t h) (.ok c h')/\Nx E E' H H' h h'/\SR E' H' h'/\V E' H'.next v c/\TV E' H'.next T' t:=by
   intro hw e
   obtain⟨x,h',E',k,X,S,w,QV⟩:=s E T1 t H h v T' H' xW hH e
   refine⟨x,h',E',k.xJ fun n d q=>?_,X,S,w,QV⟩
   rw[hg,q]
   cases want<;>cases c<;>first|rfl|cases hw
  have no:(bif want then c else !c)=false->(okV wa T1 H).val=some (v,T',H')-> ∃ c h' E',Ev (fun n d=>gF (cI j) want (g n d) t h) (.ok c h')/\Nx E E' H H' h h'/\SR E' H' h'/\V E' H'.next v c/\TV E' H'.next T' t:=by
   intro hw e
   obtain⟨rfl,rfl,rfl⟩:=cB e
   refine⟨pz,h,E,⟨0,fun n d _ _=>?_⟩,Nx.refl _ _ _,hH,.tu .nil,xW⟩
   show gF (cI j) want (g n d) t h=_
   rw[hg]
   cases want<;>cases c<;>first|rfl|cases hw
  cases c with
  |true=>
   have:=h1 rfl
   cases want with
   |true=>exact yes rfl this
   |false=>exact no rfl this
  |false=>
   have:=h2 rfl
   cases want with
   |true=>exact no rfl this
   |false=>exact yes rfl this
end Lf
end Go.Ab
