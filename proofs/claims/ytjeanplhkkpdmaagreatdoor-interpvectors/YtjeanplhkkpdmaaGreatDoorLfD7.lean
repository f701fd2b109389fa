import Derived.Test.YtjeanplhkkpdmaaGreatDoorLfD4
noncomputable section
namespace Go.Ab
namespace Lf
def tA(G:Nat->Option Rw)(h:Hp)(t:Ty)(a:AV)(x:List (den t)):Prop:=
 (kJ a=true/\x=[])∨ ∃ id base row ls,a=.my id base x.length (size t)/\h.cz.get id=some row/\row.sQ base (x.length*size t)=some ls/\rQ (EV G t) x ls
theorem Jt{t:Ty}{s:Sv}{a:AV}{x:List (den t)}{E:En}{H H1:Hq}{h:Hp}(S:SR E H h)(hv:V E H.next s a)(e:V8 t s H=some (x,H1)): ∃ E1,Fz E E1 H H1 h/\tA E1.G h t a x:=by
 unfold V8 at e;split at e
 ·rename_i r sz
  split at e
  ·rename_i t' y hr
   split at e
   ·rename_i p hp
    cases p;cases e;refine⟨E,Fz.refl S,?_⟩
    rcases LX hv (S.row _ _ hr).2 with k|⟨id,base,row,ls,k1,_,_,k2,k3,k4⟩
    ·exact .inl k
    ·exact .inr ⟨id,base,row,ls,k1,k2,k3,k4⟩
   ·cases e
  ·cases e
 ·rename_i r sz off n
  split at e
  ·rename_i t' y hr
   split at e
   ·rename_i p hp
    cases p;cases e;refine⟨E,Fz.refl S,?_⟩
    rcases aiN hv (S.row _ _ hr).2 with⟨k1,k2,k3,_⟩|⟨id,base,row,ls,k1,k2,_,_,k3,k4,k5⟩
    ·subst k3;exact .inl ⟨k1,by simp⟩
    ·obtain⟨a1,a2,a3⟩:=Jq rfl k4 k5 k2 (id:=0);exact .inr ⟨id,base+off*size t,row,_,by rw[a1];exact k1,k3,by rw[a1];exact a2,a3⟩
   ·cases e
  ·cases e
 ·obtain⟨hb,e⟩:=jI e;cases e;cases hv;exact⟨E,Fz.refl S,.inl ⟨hb,rfl⟩⟩
 ·rename_i r sz off n
  split at e
  ·rename_i l hr
   have hb:=beq_true (jI e).1
   replace e:=(jI e).2
   unfold rdX at e;have hle:=Nat.le_of_ble_eq_true (jI e).1
   replace e:=(jI e).2
   rw[jH]at hle;rw[qP]at e;obtain⟨id,row,k1,k2,k3,_⟩:=(S.row _ _ hr).2;obtain⟨E1,c,d,F,e1,e2,e3⟩:=Ov (Am t) n E H h _ _ x H1 S (k3.drop off) e;refine⟨E1,F,?_⟩;cases hv with
   |xo h1 h2=>
    rw[k1]at h2;cases h2;have hc:=e2.length (EV.length t);have hlen:=k3.length;refine .inr ⟨id,off,row,c,by rw[e3,hb],k2,?_,e2⟩;refine lM.2 ⟨?_,?_⟩
    ·have:=congrArg List.length e1;rw[List.length_drop,List.length_append,hc]at this;rw[<-lI];omega
    ·rw[e1,<-hc,List.take_left]
  ·cases e
 ·cases e
structure Kl(E:En)(H H2:Hq)(a:AV):Prop where
 n:H2.next=H.next
 sub: ∀ r R,H2.cz.get r=some R->H.cz.get r=some R
 id: ∀ id,sI a=some id-> ∃ r,own H r/\ ¬ own H2 r/\sI (E.K r).av=some id
 only: ∀ r,own H r-> ¬ own H2 r->sI (E.K r).av=sI a
theorem Qq{E:En}{H:Hq}{r:Nat}{R:Row}{a:AV}(hr:H.cz.get r=some R)(lv:R.live=true)(hi:sI (E.K r).av=sI a):Kl E H (qa H r none) a:=by
 have no: ¬ own (qa H r none) r:=by rintro⟨Q,q,_⟩;rw[mE,if_pos rfl]at q;cases q
 refine⟨rfl,fun q Q e=>?_,fun id e=>⟨r,⟨R,hr,lv⟩,no,by rw[hi];exact e⟩,fun q o n=>?_⟩
 ·rw[mE]at e;split at e
  ·cases e
  ·exact e
 ·by_cases k:q=r
  ·rw[k];exact hi
  ·obtain⟨Q,q1,q2⟩:=o;exact(n ⟨Q,by rw[mE,if_neg k];exact q1,q2⟩).elim
theorem Ju{s:Sv}{a:AV}{E:En}{H H2:Hq}(hv:V E H.next s a)(e:kill s H=some H2):Kl E H H2 a:=by
 unfold kill at e;split at e
 ·cases e;cases hv with
  |a h=>exact⟨rfl,fun _ _ e=>e,fun id k=>by cases a<;>first|(cases h;done)|(cases k;done),fun r o n=>(n o).elim⟩
 ·split at e
  ·rename_i hr
   cases e;cases hv with
   |os h1 h2=>exact Qq hr rfl rfl
  ·cases e
 ·split at e
  ·rename_i hr
   cases e;cases hv with
   |se h1 h2 h3 h4=>exact Qq hr rfl rfl
   |ss h1 h2 h3=>exact Qq hr rfl (by rw[h2];rfl)
  ·cases e
 ·split at e
  ·rename_i hr
   cases e;cases hv with
   |xo h1 h2=>exact Qq hr rfl (by rw[h2];rfl)
  ·cases e
 ·cases e
theorem tC{b n:Nat}:roomy b n=true↔n*b<=70368744177664/\n<=70368744177664:=by unfold roomy;simp
theorem WE{r:Rw}{off k:Nat}{l:List AV}(h:r.sQ off k=some l): ∃ p,r.sub off k=some p/\p.toL=l:=by
 obtain⟨a,b⟩:=lM.1 h
 have hb:Nat.ble (Nat.add off k) r.n=true:=by rw[Nat.ble_eq];exact a
 have hs:r.sub off k=some (bif Nat.beq off 0 then r.upto k else Ee (r.cells k off)):=by unfold Rw.sub;rw[hb];rfl
 exact⟨_,hs,by rw[(KY hs).1,b]⟩
theorem akU{E:En}{H H2:Hq}{h:Hp}(S:SR E H h){t:Ty}{a:AV}{x y:List (den t)}{cs:List AV}{bytes:Nat}{z:Bool}(hd:tA E.G h t a x)(hk:Kl E H H2 a)(hy:rQ (EV E.G t) y cs)(hz:z=true->y=[])(hr:roomy bytes (x.length+y.length)=true):
 ∃ c h' E',(bif z9 a&&z then Go.Ab.Ro.ok a h else Ba (size t) bytes h (Ct a) y.length cs)=.ok c h'/\Nx E E' H (lU H2 (.l t (x++y))) h h'/\SR E' (lU H2 (.l t (x++y))) h'/\V E' (lU H2 (.l t (x++y))).next (.os H2.next (size t)) c:=by
 obtain⟨r1,r2⟩:=tC.1 hr;have WG: ∀ (k:Kr),(∀ id,sI k.av=some id->sI a=some id)->RV E H.next h k (.l t (x++y))->SR (E.row H.next k) (lU H2 (.l t (x++y))) h/\Nx E (E.row H.next k) H (lU H2 (.l t (x++y))) h h:=by
  intro k h1 h2;refine so S hk.n hk.sub (Nat.le_refl _) (fun _ _ _=>rfl) (fun id e=>?_) h2 rfl;obtain⟨r,o,no,er⟩:=hk.id id (h1 id e);exact⟨S.lt r id o er,.inr ⟨r,o,no,er⟩⟩
 have K0: ∀ k:Kr,(E.row H.next k).K H2.next=k:=fun k=>by rw[hk.n];exact if_pos rfl
 have mkV: ∀ k:Kr,((kJ k.av=true/\k.n=0)∨ ∃ id base,k.av=.my id base k.n (size t))->V (E.row H.next k) (lU H2 (.l t (x++y))).next (.os H2.next (size t)) k.av:=by
  intro k LF;have:=V.os (E:=E.row H.next k) (N:=(lU H2 (.l t (x++y))).next) (r:=H2.next) (sz:=size t) (Nat.lt_succ_self _) (by rw[K0];exact LF)
  rwa [K0]at this
 have L2: ∀ av:AV,kJ av=true->x=[]->y=[]-> ∃ E',Nx E E' H (lU H2 (.l t (x++y))) h h/\SR E' (lU H2 (.l t (x++y))) h/\V E' (lU H2 (.l t (x++y))).next (.os H2.next (size t)) av:=by
  intro av ha hx hy;obtain⟨S',X⟩:=WG ⟨av,0⟩ (fun id e=>by rw[show sI av=none from Su ha]at e;cases e) ⟨by rw[hx,hy];rfl,.inl ⟨ha,by rw[hx,hy];rfl⟩⟩;exact⟨_,X,S',mkV ⟨av,0⟩ (.inl ⟨ha,rfl⟩)⟩
 cases hc:(z9 a&&z)with
 |true=>
  rw[Bool.and_eq_true]at hc;have he:=H9 hc.1;have hx:x=[]:=by
   rcases hd with⟨_,k⟩|⟨id,base,row,ls,k,_⟩
   ·exact k
   ·rw[k]at he;cases he
  obtain⟨E',X,S',v⟩:=L2 a he hx (hz hc.2);exact⟨a,h,E',rfl,X,S',v⟩
 |false=>
  simp only[cond_false];have nq:=hy.length (EV.length t)
  have Ow:jC kN cs=true:=by rw[ou,List.all_eq_true];exact fun q hq=>hy.kN (EV.kN t) q hq
  by_cases hy0:y=[]
  ·subst hy0
   rcases hd with⟨k,hx⟩|⟨id,base,row,ls,k1,k2,k3,k4⟩
   ·obtain⟨E',X,S',v⟩:=L2 .pR rfl hx rfl;exact⟨.pR,h,E',by rw[mU k];rfl,X,S',v⟩
   ·obtain⟨S',X⟩:=WG ⟨a,x.length⟩ (fun id e=>e) ⟨by simp,.inr ⟨id,base,row,ls,k1,k2,k3,by simpa using k4⟩⟩;refine⟨a,h,_,?_,X,S',mkV ⟨a,x.length⟩ (.inr ⟨id,base,k1⟩)⟩;subst k1;rfl
  ·have abJ:0<y.length:=List.length_pos_iff.2 hy0;have hnz:Nat.beq y.length 0=false:=by cases q:Nat.beq y.length 0 with
    |false=>rfl
    |true=>have:=beq_true q;omega
   have hlc:Nat.beq (len cs) (Nat.mul y.length (size t))=true:=by rw[jH,nq];exact Nat.beq_refl _
   rcases hd with⟨k,hx⟩|⟨id,base,row,ls,k1,k2,k3,k4⟩
   ·subst hx;rw[mU k];simp only[List.length_nil,Nat.zero_add]at r1 r2;have hT:(SR (E.row H.next ⟨.my h.next 0 y.length (size t),y.length⟩) (lU H2 (.l t ([]++y))) (kA h (Ee cs))/\Nx E (E.row H.next ⟨.my h.next 0 y.length (size t),y.length⟩) H (lU H2 (.l t ([]++y))) h (kA h (Ee cs))):=by
     refine so S hk.n hk.sub (Nat.le_succ _) (fun i hi _=>by rw[nz,if_neg (by omega)]) (fun i e=>by cases e;exact⟨Nat.lt_succ_self _,.inl (Nat.le_refl _)⟩) ?_ rfl;refine⟨rfl,.inr ⟨h.next,0,Ee cs,cs,rfl,by rw[nz,if_pos rfl],?_,hy⟩⟩;refine lM.2 ⟨by rw[<-lI,pj,nq,Nat.zero_add];exact Nat.le_refl _,?_⟩;rw[pj];show cs=List.take (y.length*size t) _;rw[<-nq,List.drop_zero,List.take_length]
    refine⟨_,_,_,?_,hT.2,hT.1,mkV _ (.inr ⟨h.next,0,rfl⟩)⟩;show(bif Nat.beq y.length 0 then Go.Ab.Ro.ok .pR h else bif Nat.ble (Nat.mul y.length bytes) 70368744177664&&(jC kN cs&&(Nat.beq (len cs) (Nat.mul y.length (size t))&&Nat.ble y.length 70368744177664))then .ok (.my h.next 0 y.length (size t)) (kA h (Ee cs))else .bad)=_;rw[hnz,Ow,hlc,show Nat.ble (Nat.mul y.length bytes) 70368744177664=true from by rw[Nat.ble_eq];exact r1,show Nat.ble y.length 70368744177664=true from by rw[Nat.ble_eq];exact r2];rfl
   ·subst k1;obtain⟨p,p1,p2⟩:=WE k3;obtain⟨r,o,no,er⟩:=hk.id id rfl;have hT:(SR (E.row H.next ⟨.my h.next 0 (x.length+y.length) (size t),x.length+y.length⟩) (lU H2 (.l t (x++y))) (kA (qj h id none) (p.app cs))/\Nx E (E.row H.next ⟨.my h.next 0 (x.length+y.length) (size t),x.length+y.length⟩) H (lU H2 (.l t (x++y))) h (kA (qj h id none) (p.app cs))):=by
     refine so S hk.n hk.sub (Nat.le_succ _) (fun i hi q=>?_) (fun i e=>by cases e;exact⟨Nat.lt_succ_self _,.inl (Nat.le_refl _)⟩) ?_ rfl
     ·rw[nz,if_neg (by show ¬ i=h.next;omega),qy,if_neg];intro ei;exact q r o no (by rw[ei];exact er)
     ·have Sd:=k4.app hy;have hlen:=Sd.length (EV.length t);refine⟨by rw[List.length_append],.inr ⟨h.next,0,p.app cs,ls++cs,rfl,by rw[nz];exact if_pos rfl,?_,Sd⟩⟩;refine lM.2 ⟨by rw[<-lI,Bf,p2,hlen,Nat.zero_add,List.length_append];exact Nat.le_refl _,?_⟩;rw[Bf,p2];show ls++cs=List.take ((x.length+y.length)*size t) _;rw[<-List.length_append (as:=x),<-hlen,List.drop_zero,List.take_length]
    refine⟨_,_,_,?_,hT.2,hT.1,mkV _ (.inr ⟨h.next,0,rfl⟩)⟩;show(bif Nat.beq y.length 0 then Go.Ab.Ro.ok (.my id base x.length (size t)) h else match h.cz.get id with
     |none=>.bad
     |some cs'=>match cs'.sub base (Nat.mul x.length (size t))with
      |none=>.bad
      |some pre=>bif Nat.ble (Nat.mul (Nat.add x.length y.length) bytes) 70368744177664&&(Nat.beq (size t) (size t)&&(jC kN cs&&(Nat.beq (len cs) (Nat.mul y.length (size t))&&Nat.ble (Nat.add x.length y.length) 70368744177664)))then
       .ok (.my h.next 0 (Nat.add x.length y.length) (size t)) (kA (qj h id none) (pre.app cs))else .bad)=_
    have p1':row.sub base (Nat.mul x.length (size t))=some p:=p1;rw[hnz];simp only[cond_false,k2,p1'];rw[Ow,hlc,Nat.beq_refl,show Nat.ble (Nat.mul (Nat.add x.length y.length) bytes) 70368744177664=true from by rw[Nat.ble_eq];exact r1,show Nat.ble (Nat.add x.length y.length) 70368744177664=true from by rw[Nat.ble_eq];exact r2];rfl
theorem OC{E:En}{H H':Hq}{h:Hp}(S:SR E H h){bytes:Nat}{t:Ty}{s:Sv}{a:AV}{y:List (den t)}{cs:List AV}{z:Bool}{T T':Tq}{v:Sv}(hv:V E H.next s a)(hy:rQ (EV E.G t) y cs)(hz:z=true->y=[])(e:(apT bytes t s y T H).val=some (v,T',H')):
 T'=T/\ ∃ c h' E',(bif z9 a&&z then Go.Ab.Ro.ok a h else Ba (size t) bytes h (Ct a) y.length cs)=.ok c h'/\Nx E E' H H' h h'/\SR E' H' h'/\V E' H'.next v c:=by
 unfold apT at e;split at e
 ·rename_i x H1 hx
  split at e
  ·rename_i H2 hH2
   obtain⟨q,e⟩:=Lf.T.cw e;obtain⟨rfl,rfl,rfl⟩:=cE e;obtain⟨E1,F,D⟩:=Jt S hv hx;have k:=Ju (F.v hv) hH2;obtain⟨c,h',E',e1,X,S',yJ⟩:=akU F.S D k (hy.mono (EV.mono F.g t)) hz q (z:=z);rw[cZ];exact⟨rfl,c,h',E',e1,F.X.trans X,S',yJ⟩
  ·cases e
 ·cases e
theorem acW{h:Hp}{b:AV}{n:Nat}{cs:List AV}(hz:isZ b=true)(e:kp h (Ct b)=some (n,cs)):n=0:=by
 cases b with
 |my id off m s=>
  have hz:=beq_true (show Nat.beq m 0=true from hz)
  change (match h.cz.get id with|some cs=>(match cs.sQ off (Nat.mul m s)with|some l=>some (m,l)|none=>none)|none=>none)=some (n,cs)at e
  split at e
  ·split at e
   ·cases e;exact hz
   ·cases e
  ·cases e
 |vG m l=>
  have hz':=beq_true (show Nat.beq m 0=true from hz);cases e;exact hz'
 |pR=>cases e;rfl
 |xr=>cases e;rfl
 |sc v=>
  have:kJ (.sc v)=true:=hz;rw[mU this]at e;cases e;rfl
 | _=>cases hz
theorem yd{size bytes:Nat}{s x:Od}{t:Tm}{h:Hp}{a b:AV}{n:Nat}{cs:List AV}(h1:cY s t=some a)(h2:cY x t=some b)(h3:kp h (Ct b)=some (n,cs)):
 mR size bytes (cY s) (cY x) t h=(bif z9 a&&isZ b then Go.Ab.Ro.ok a h else Ba size bytes h (Ct a) n cs):=by
 unfold mR;rw[h1,h2];show(bif z9 a&&isZ b then Go.Ab.Ro.ok a h else wK size bytes (wO (cY s)) (wO (cY x)) t h)=_;congr 1;unfold wK;rw[show wO (cY s) t=some (Ct a)from by unfold wO;rw[h1],show wO (cY x) t=some (Ct b)from by unfold wO;rw[h2]];simp only[h3]
theorem ye{E:En}{H:Hq}{h:Hp}(S:SR E H h){v:Sv}{b:AV}{n:Nat}{l:List Sv}(hv:V E H.next v b)(e:BE v H=some (n,l)):
 ∃ cs,kp h (Ct b)=some (n,cs)/\Vs E H.next l cs/\(n=0->isZ b=true)/\((kJ b=true/\n=0/\l=[])∨ ∃ r s off id row,v=.xo r s off n/\b=.my id off n s/\h.cz.get id=some row/\row.sQ off (n*s)=some cs):=by
 unfold BE at e;split at e
 ·obtain⟨hb,e⟩:=jI e;cases e;cases hv with
  |a hl=>
   refine⟨[],by rw[mU hb];rfl,.nil,fun _=>?_,.inl ⟨hb,rfl,rfl⟩⟩
   cases b<;>first|rfl|(cases hl;done)|exact hb
 ·rename_i r s off m
  split at e
  ·rename_i l0 hl
   have hle:=Nat.le_of_ble_eq_true (jI e).1
   replace e:=(jI e).2
   cases e;obtain⟨id,row,k1,k2,k3⟩:=CW S hl;cases hv with
   |xo h1 h2=>
    rw[k1]at h2;cases h2;rw[jH,k3.length]at hle;have ar8:off+n*s<=row.toL.length:=hle;rw[xM,qP];have lP:=(k3.drop off).take (n*s);have hs:row.sQ off (n*s)=some ((row.toL.drop off).take (n*s)):=Oq ar8;refine⟨_,?_,lP,fun hn=>by subst hn;rfl,.inr ⟨r,s,off,id,row,rfl,rfl,k2,hs⟩⟩;show(match h.cz.get id with|some cs=>(match cs.sQ off (Nat.mul n s)with|some l=>some (n,l)|none=>none)|none=>none)=_;rw[k2];have hs':row.sQ off (Nat.mul n s)=_:=hs;simp only[hs']
  ·cases e
 ·cases e
theorem lC{α:Type}{b:Bool}{x:T α}{r:α}(h:(bif b then x else T.bad).val=some r):b=true/\x.val=some r:=by
 cases b with
 |true=>exact⟨rfl,h⟩
 |false=>cases h
theorem FU{t:Ty}{v:Sv}{a:AV}{x:List (den t)}{E:En}{H H1:Hq}{h:Hp}(S:SR E H h)(hv:V E H.next v a)(e:FK t v H=some (x,H1)): ∃ E1,Fz E E1 H H1 h/\ ∃ cs,kp h (Ct a)=some (x.length,cs)/\rQ (EV E1.G t) x cs:=by
 unfold FK at e;split at e
 ·rename_i r hr
  cases e;obtain⟨E1,F,D⟩:=Jt S hv hr;refine⟨E1,F,?_⟩
  rcases D with⟨d1,rfl⟩|⟨id,base,row,ls,d1,d2,d3,d4⟩
  ·exact⟨[],by rw[mU d1];rfl,rfl⟩
  ·refine⟨ls,?_,d4⟩;rw[d1];show(match h.cz.get id with|some cs=>(match cs.sQ base (Nat.mul x.length (size t))with|some l=>some (x.length,l)|none=>none)|none=>none)=_;rw[d2];have s':row.sQ base (Nat.mul x.length (size t))=some ls:=d3;simp only[s']
 ·obtain⟨E1,F,kc⟩:=Ww S hv e;obtain⟨cs,c1,c2⟩:=Sy F.S kc;exact⟨E1,F,cs,c1,c2⟩
theorem WH{size bytes:Nat}{sv xv v:Sv}{T T':Tq}{E:En}{H H':Hq}{h:Hp}{t:Tm}{s x:Od}{a b:AV}(S:SR E H h)(hs:cY s t=some a)(Ub:V E H.next sv a)(hx:cY x t=some b)(Vw:V E H.next xv b)(e:(V9 size bytes sv xv T H).val=some (v,T',H')):
 T'=T/\ ∃ c h' E',mR size bytes (cY s) (cY x) t h=.ok c h'/\Nx E E' H H' h h'/\SR E' H' h'/\V E' H'.next v c:=by
 unfold V9 at e;obtain⟨hb,e⟩:=lC e;rw[Bool.and_eq_true,Bool.and_eq_true]at hb;have typed: ∀ {ty:Ty},(bif Nat.beq size (Lf.size ty)then(match FK ty xv H with|some (new,h1)=>apT bytes ty sv new T h1|none=>.bad)else .bad).val=some (v,T',H')->T'=T/\ ∃ c h' E',mR size bytes (cY s) (cY x) t h=.ok c h'/\Nx E E' H H' h h'/\SR E' H' h'/\V E' H'.next v c:=by
  intro ty e;obtain⟨hz,e⟩:=lC e;have hz:=beq_true hz;split at e
  ·rename_i new H1 hn
   obtain⟨E1,F,cs,c1,c2⟩:=FU S Vw hn;obtain⟨rfl,c,h',E',e1,X,S',yJ⟩:=OC F.S (F.v Ub) c2 (z:=isZ b) (fun q=>List.eq_nil_of_length_eq_zero (acW q c1)) e;refine⟨rfl,c,h',E',?_,F.X.trans X,S',yJ⟩;rw[yd hs hx c1,hz];exact e1
  ·cases e
 split at e
 ·
  rename_i l hl
  obtain⟨cs,c1,_,c3,_⟩:=ye S Vw hl;have hzb:=c3 rfl;have res: ∀ w:Sv,w=v/\T'=T/\H'=H->V E H.next w a->(z9 a=true∨kJ a=true∨ ∃ id o n z,a=.my id o n z)->T'=T/\ ∃ c h' E',mR size bytes (cY s) (cY x) t h=.ok c h'/\Nx E E' H H' h h'/\SR E' H' h'/\V E' H'.next v c:=by
   rintro w ⟨rfl,rfl,rfl⟩ hw hc;refine⟨rfl,a,h,E,?_,Nx.refl _ _ _,S,hw⟩;rw[yd hs hx c1,hzb];cases he:z9 a with
   |true=>rfl
   |false=>
    rcases hc with hc|hc|⟨id,o,n,z,hc⟩
    ·rw[he]at hc;cases hc
    ·have:a=.pR:=by cases a<;>first|rfl|(cases he;done)|(cases hc;done)|(rename_i v0;have k:z9 (.sc v0)=true:=hc;rw[k]at he;cases he)
     subst this;rfl
    ·subst hc;rfl
  split at e
  ·obtain⟨hw,e⟩:=lC e;cases Ub with
   |a hl=>exact res _ (cE e) (.a hl) (.inl hw)
  ·refine res _ (cE e) Ub (.inr ?_);cases Ub with
   |os h1 h2=>
    rcases h2 with⟨h2,_⟩|⟨_,_,h2⟩
    ·exact .inl h2
    ·exact .inr ⟨_,_,_,_,h2⟩
  ·refine res _ (cE e) Ub (.inr ?_);cases Ub with
   |se _ h2 _ _=>exact .inl h2
   |ss _ _ _=>exact .inr ⟨_,_,_,_,rfl⟩
  ·refine res _ (cE e) Ub (.inr ?_);cases Ub with
   |xo _ _=>exact .inr ⟨_,_,_,_,rfl⟩
  ·cases e
 ·rename_i m new hm hl
  have hm0:m=0->False:=fun k=>hm k
  obtain⟨cs,c1,c2,c3,c4⟩:=ye S Vw hl;split at e
  ·rename_i n zj ho
   split at e
   ·rename_i H2 hH2
    obtain⟨hr,e⟩:=lC e;rw[Bool.and_eq_true]at hr;obtain⟨rfl,rfl,rfl⟩:=cE e;obtain⟨r1,r2⟩:=tC.1 hr.1;obtain⟨ds,d1,d2,d3,d4⟩:=ye S Ub ho;have k:=Ju Ub hH2
    have aDj:0<m:=Nat.pos_of_ne_zero fun q=>hm0 q
    obtain⟨r',s',aFT,Eg,acQ,x1,x2,x3,x4⟩: ∃ r s off id row,xv=.xo r s off m/\b=.my id off m s/\h.cz.get id=some row/\row.sQ off (m*s)=some cs:=by
     rcases c4 with⟨_,q,_⟩|q
     ·omega
     ·exact q
    have hs':s'=size:=by have q:=beq_true hb.2.1;rw[x1]at q;exact q
    have nq:cs.length=m*size:=by
     obtain⟨q1,q2⟩:=lM.1 x4;rw[q2,List.length_take,List.length_drop,lI,hs'];rw[hs']at q1;omega
    have hnz:Nat.beq m 0=false:=by cases q:Nat.beq m 0 with
     |false=>rfl
     |true=>have:=beq_true q;omega
    have hlc:Nat.beq (len cs) (Nat.mul m size)=true:=by rw[jH,nq];exact Nat.beq_refl _
    have hzb:isZ b=false:=by rw[x2];exact hnz
    have Ow:jC kN cs=true:=by
     rw[ou,List.all_eq_true]
     refine c2.NK fun q hq=>?_
     have:=hr.2;rw[ou,List.all_eq_true]at this;exact this q hq
    have wH:0<size:=jn.1 hb.2.2;rw[cZ];refine⟨rfl,?_⟩;rw[yd hs hx c1,hzb,Bool.and_false,cond_false];have mkV:V (E.row H.next ⟨.ref h.next 0,0⟩) (lU H2 (.o 0 (zj++new))).next (.xo H2.next size 0 (Nat.add n m)) (.my h.next 0 (n+m) size):=by
     refine .xo (id:=h.next) (Nat.lt_succ_self _) ?_;show(if H2.next=H.next then _ else _:Kr).av=_;rw[if_pos k.n]
    rcases d4 with⟨q1,q2,q3⟩|⟨r1',s1',acY,id1,ay4,y1,y2,y3,y4⟩
    ·subst q2;subst q3;rw[mU q1];simp only[Nat.add_eq,Nat.zero_add]at r1 r2;have hT:SR (E.row H.next ⟨.ref h.next 0,0⟩) (lU H2 (.o 0 ([]++new))) (kA h (Ee cs))/\Nx E (E.row H.next ⟨.ref h.next 0,0⟩) H (lU H2 (.o 0 ([]++new))) h (kA h (Ee cs)):=by
      refine so S k.n k.sub (Nat.le_succ _) (fun i hi _=>by rw[nz,if_neg (by omega)]) (fun i e=>by cases e;exact⟨Nat.lt_succ_self _,.inl (Nat.le_refl _)⟩) ?_ rfl;exact⟨h.next,Ee cs,rfl,by rw[nz,if_pos rfl],by rw[pj];exact c2,fun h=>(h rfl).elim⟩
     rw[Nat.zero_add]at mkV;refine⟨_,_,_,?_,hT.2,hT.1,mkV⟩;show(bif Nat.beq m 0 then Go.Ab.Ro.ok .pR h else bif Nat.ble (Nat.mul m bytes) 70368744177664&&(jC kN cs&&(Nat.beq (len cs) (Nat.mul m size)&&Nat.ble m 70368744177664))then .ok (.my h.next 0 m size) (kA h (Ee cs))else .bad)=_;rw[hnz,Ow,hlc,show Nat.ble (Nat.mul m bytes) 70368744177664=true from by rw[Nat.ble_eq];exact r1,show Nat.ble m 70368744177664=true from by rw[Nat.ble_eq];exact r2];rfl
    ·have G7:s1'=size:=by have q:=beq_true hb.1;rw[y1]at q;exact q
     subst G7;subst y2;obtain⟨p,p1,p2⟩:=WE y4;obtain⟨r,o,no,er⟩:=k.id id1 rfl;have hT:SR (E.row H.next ⟨.ref h.next 0,0⟩) (lU H2 (.o 0 (zj++new))) (kA (qj h id1 none) (p.app cs))/\Nx E (E.row H.next ⟨.ref h.next 0,0⟩) H (lU H2 (.o 0 (zj++new))) h (kA (qj h id1 none) (p.app cs)):=by
      refine so S k.n k.sub (Nat.le_succ _) (fun i hi q=>?_) (fun i e=>by cases e;exact⟨Nat.lt_succ_self _,.inl (Nat.le_refl _)⟩) ?_ rfl
      ·rw[nz,if_neg (by show ¬ i=h.next;omega),qy,if_neg];intro ei;exact q r o no (by rw[ei];exact er)
      ·refine⟨h.next,p.app cs,rfl,by rw[nz];exact if_pos rfl,?_,fun h=>(h rfl).elim⟩;rw[Bf,p2]
       change kp h (.my id1 acY n s1')=some (n,ds)at d1
       have:ds=ds:=rfl;exact d2.app c2
     refine⟨_,_,_,?_,hT.2,hT.1,mkV⟩;show(bif Nat.beq m 0 then Go.Ab.Ro.ok (.my id1 acY n s1') h else match h.cz.get id1 with
      |none=>.bad
      |some cs'=>match cs'.sub acY (Nat.mul n s1')with
       |none=>.bad
       |some pre=>bif Nat.ble (Nat.mul (Nat.add n m) bytes) 70368744177664&&(Nat.beq s1' s1'&&(jC kN cs&&(Nat.beq (len cs) (Nat.mul m s1')&&Nat.ble (Nat.add n m) 70368744177664)))then
        .ok (.my h.next 0 (Nat.add n m) s1') (kA (qj h id1 none) (pre.app cs))else .bad)=_
     have p1':ay4.sub acY (Nat.mul n s1')=some p:=p1;rw[hnz];simp only[cond_false,y3,p1'];rw[Ow,hlc,Nat.beq_refl,show Nat.ble (Nat.mul (Nat.add n m) bytes) 70368744177664=true from by rw[Nat.ble_eq];exact r1,show Nat.ble (Nat.add n m) 70368744177664=true from by rw[Nat.ble_eq];exact r2];rfl
   ·cases e
  ·split at e
   ·exact typed e
   ·cases e
 ·split at e
  ·exact typed e
  ·cases e
end Lf
end Go.Ab
noncomputable section
namespace Go.Ab
namespace Lf
theorem WJ{E:En}{H:Hq}{h:Hp}(S:SR E H h){r:Nat}{R R':Row}(hr:H.cz.get r=some R)(lv:R.live=true)(hR:RV E H.next h (E.K r) R'):SR E (qa H r (some R')) h/\Nx E E H (qa H r (some R')) h h:=by
 have ow: ∀ q,own (qa H r (some R')) q->own H q:=by
  rintro q ⟨Q,a,b⟩;rw[mE]at a;split at a
  ·rename_i e;rw[e];exact⟨R,hr,lv⟩
  ·exact⟨Q,a,b⟩
 refine⟨⟨?_,?_,?_,?_⟩,⟨Et.refl _ _,Nat.le_refl _,Nat.le_refl _,fun q id o e=>.inl ⟨q,ow q o,e⟩,fun _ _ e=>.inl e,fun _ _ _=>rfl⟩⟩
 ·intro q Q hq;rw[mE]at hq;split at hq
  ·rename_i e;subst e;cases hq;exact⟨(S.row _ _ hr).1,hR⟩
  ·exact S.row _ _ hq
 ·exact fun a b i oa ob ea eb=>S.inj a b i (ow a oa) (ow b ob) ea eb
 ·exact fun a i oa ea=>S.lt a i (ow a oa) ea
 ·intro i row e;obtain⟨a,b,c⟩:=S.g i row e;exact⟨a,b,fun q oq=>c q (ow q oq)⟩
theorem WK{G:Nat->Option Rw}{t:Ty}{x y:List (den t)}{ls cs:List AV}(e:rQ (EV G t) x ls)(k:rQ (EV G t) y cs)(off:Nat):rQ (EV G t) (x.take off++(y++x.drop (off+y.length))) (ls.take (off*size t)++(cs++ls.drop (off*size t+y.length*size t))):=by
 have h1:=e.take (EV.length t) off;have h2:=e.drop (EV.length t) (off+y.length);rw[Nat.add_mul]at h2;exact h1.app (k.app h2)
theorem SC{size:Nat}{d s:Od}{t:Tm}{h:Hp}{b:AV}{m:Nat}{cs:List AV}(h1:cY d t=some .pR)(h2:cY s t=some b)(h3:kp h b=some (m,cs)):sO size (cY d) (cY s) t h=.ok (.int .i64 (.ofNat 0)) h:=by
 unfold sO;rw[h1,h2];simp only[h3]
theorem acZ{size:Nat}{d s:Od}{t:Tm}{h:Hp}{b:AV}{m id off n sz:Nat}{cs:List AV}(h1:cY d t=some (.my id off n sz))(h2:cY s t=some b)(h3:kp h b=some (m,cs))(h0:min m n=0):sO size (cY d) (cY s) t h=.ok (.int .i64 (.ofNat 0)) h:=by
 unfold sO;rw[h1,h2];simp only[h3,Bg,h0];rfl
theorem ac0{size:Nat}{d s:Od}{t:Tm}{h:Hp}{b:AV}{m id off n sz:Nat}{cs:List AV}{row:Rw}(h1:cY d t=some (.my id off n sz))(h2:cY s t=some b)(h3:kp h b=some (m,cs))(h0:min m n≠0)(hr:h.cz.get id=some row)(hz:0<size)(hs:sz=size)
 (hl:cs.length=m*size)(hc: ∀ a,a∈cs->kN a=true)(hn:off+min m n*size<=row.n):sO size (cY d) (cY s) t h=.ok (.int .i64 (.ofNat (min m n))) (qj h id (some (row.put off (cs.take (min m n*size))))):=by
 unfold sO;rw[h1,h2];have hb:Nat.beq (min m n) 0=false:=by
  cases q:Nat.beq (min m n) 0 with
  |false=>rfl
  |true=>exact(h0 (Nat.eq_of_beq_eq_true q)).elim
 have q:((Nat.blt 0 size&&(Nat.beq sz size&&(Nat.beq (len cs) (Nat.mul m size)&&jC Go.Ab.kN cs)))&&Nat.ble (Nat.add off (Nat.mul (min m n) size)) row.n)=true:=by
  have a1:Nat.blt 0 size=true:=by simpa using hz
  have a2:Nat.beq sz size=true:=by rw[hs];exact Nat.beq_refl _
  have a3:Nat.beq (len cs) (Nat.mul m size)=true:=by rw[jH,hl];exact Nat.beq_refl _
  have a4:jC Go.Ab.kN cs=true:=by rw[ou,List.all_eq_true];exact hc
  have a5:Nat.ble (Nat.add off (Nat.mul (min m n) size)) row.n=true:=by rw[Nat.ble_eq];exact hn
  rw[a1,a2,a3,a4,a5];rfl
 simp only[h3,Bg,hb,cond_false,hr,q,cond_true,xM];rfl
theorem ac1{row:Rw}{ls new:List AV}{base k o:Nat}(s:row.sQ base k=some ls)(hk:ls.length=k)(ho:o+new.length<=k):(row.put (base+o) new).sQ base k=some (ls.take o++(new++ls.drop (o+new.length))):=by
 obtain⟨s1,s2⟩:=lM.1 s
 have hn:base+o+new.length<=row.n:=by omega
 refine lM.2 ⟨by show base+k<=row.n;exact s1,?_⟩;have Ad:row.toL=row.toL.take base++(ls++row.toL.drop (base+k)):=by
  rw[s2,<-List.drop_drop,List.take_append_drop,List.take_append_drop]
 have NS:(row.toL.take base).length=base:=by rw[List.length_take,lI];omega
 have e1:=Eu ls (row.toL.drop (base+k)) new o (by omega) (row.toL.take base);rw[<-Ad,NS]at e1;rw[Be hn,e1,List.drop_append_of_le_length (by rw[NS];exact Nat.le_refl _)];rw[show List.drop base (row.toL.take base)=[]from by rw[List.drop_eq_nil_iff,NS];exact Nat.le_refl _,List.nil_append];rw[List.take_append_of_le_length (by rw[Ew _ _ _ (by omega)];omega)];rw[show List.take k (put ls o new)=put ls o new from by rw[List.take_of_length_le];rw[Ew _ _ _ (by omega)];omega];rw[put_eq]
theorem WL{size:Nat}{d s:Od}{r sz off n:Nat}{sv v:Sv}{E:En}{T T':Tq}{t:Tm}{H H':Hq}{h:Hp}{b c:AV}(hT:TV E H.next T t)(S:SR E H h)(hs:cY s t=some (Ct b))(Ub:V E H.next sv b)(hd:cY d t=some (Ct c))
 (hk:(n=0/\kJ c=true)∨ ∃ id base,(E.K r).av=.my id base (E.K r).n sz/\c=.my id (base+off*sz) n sz/\off+n<=(E.K r).n)(e:(acy size sv r sz off n T H).val=some (v,T',H')):
 ∃ a h' E',Ev (fun _ _=>sO size (cY d) (cY s) t h) (.ok a h')/\Nx E E' H H' h h'/\SR E' H' h'/\V E' H'.next v a/\TV E' H'.next T' t:=by
 unfold acy at e;split at e
 ·rename_i ty x hr
  obtain⟨hb,e⟩:=lC e;rw[Bool.and_eq_true,Bool.and_eq_true]at hb;obtain⟨b0,b1,b2⟩:=hb
  have b0:0<size:=by simpa using b0
  have b1:=beq_true b1;have b2:=beq_true b2;split at e
  ·rename_i y H1 hy
   split at e
   ·rename_i t2 x2 hr2
    obtain⟨rfl,rfl,rfl⟩:=cE e;obtain⟨E1,F,cs,c1,c2⟩:=FU S Ub hy;have q:=(S.row _ _ hr).2
    have nq:cs.length=y.length*size:=by rw[c2.length (EV.length ty),b2]
    have lrm:LR E1.G ty x (E1.K r) h.cz.get:=by rw[F.K];exact LR.mono F.g (fun _ _ _ e=>e) q
    rw[cZ,cZ];by_cases h0:min y.length n=0
    ·have G6:x.take off++(y.take (min y.length n)++x.drop (Nat.add off (min y.length n)))=x:=by
      rw[h0,List.take_zero,List.nil_append];exact List.take_append_drop _ _
     rw[G6];obtain⟨S1,X1⟩:=WJ F.S hr2 rfl (R':=.l ty x) lrm;refine⟨.int .i64 (.ofNat 0),h,E1,?_,F.X.trans X1,S1,?_,hT.mono (F.X.trans X1).e (F.X.trans X1).le⟩
     ·rcases hk with⟨hn,hc⟩|⟨id,base,k1,k2,k3⟩
      ·exact Ev.const (SC (by rw[hd,mU hc]) hs c1)
      ·exact Ev.const (acZ (by rw[hd,k2];rfl) hs c1 h0)
     ·rw[h0];exact m0
    ·rcases hk with⟨hn,hc⟩|⟨id,base,k1,k2,k3⟩
     ·subst hn;rw[Nat.min_zero]at h0;exact(h0 rfl).elim
     ·rcases lrm.2 with⟨k,_⟩|⟨Eg,Ws,row,ls,p1,p2,p3,p4⟩
      ·rw[F.K,k1]at k;cases k
      ·rw[F.K,k1]at p1;injection p1 with a1 a2 a3 a4;subst a1;subst a2;have hxn:x.length=(E.K r).n:=q.1
       have hls:ls.length=(E1.K r).n*size:=by rw[p4.length (EV.length ty),F.K,hxn,b2]
       obtain⟨w,hw⟩: ∃ w,w=min y.length n:=⟨_,rfl⟩
       have hwn:w<=n:=by rw[hw];exact Nat.min_le_right _ _
       have hwy:w<=y.length:=by rw[hw];exact Nat.min_le_left _ _
       have hyl:(y.take w).length=w:=by rw[List.length_take];exact Nat.min_eq_left hwy
       have hcw:(cs.take (w*size)).length=w*size:=by
        rw[List.length_take,nq];exact Nat.min_eq_left (Nat.mul_le_mul_right _ hwy)
       have hm:off*size+w*size<=(E.K r).n*size:=by rw[<-Nat.add_mul];exact Nat.mul_le_mul_right _ (by omega)
       have p3':row.sQ base ((E1.K r).n*size)=some ls:=by rw[b2];exact p3
       obtain⟨s1,_⟩:=lM.1 p3';rw[F.K]at s1;have ps:=ac1 (o:=off*size) (new:=cs.take (w*size)) p3' hls (by rw[hcw,F.K];exact hm);have he:=WK p4 (by have:=c2.take (EV.length ty) w;rw[<-b2]at this;exact this) off;rw[hyl,<-b2]at he;rw[hcw]at ps
       have qk:sI (E1.K r).av=some id:=by rw[F.K,k1];rfl
       have hR:RV E1 H1.next (qj h id (some (row.put (base+off*size) (cs.take (w*size))))) (E1.K r) (.l ty (x.take off++(y.take w++x.drop (off+w)))):=by
        refine⟨?_,.inr ⟨id,base,_,_,by rw[F.K,k1,b1,b2],by rw[qy,if_pos rfl],by rw[<-b2];exact ps,he⟩⟩;rw[F.K,<-hxn,List.length_append,List.length_append,List.length_take,hyl,List.length_drop];omega
       obtain⟨S1,X1⟩:=Js F.S hr2 rfl rfl qk hR;rw[<-hw];refine⟨.int .i64 (.ofNat w),_,E1,Ev.const ?_,F.X.trans X1,S1,m0,hT.mono (F.X.trans X1).e (F.X.trans X1).le⟩;have:=ac0 (size:=size) (by rw[hd,k2];rfl) hs c1 h0 p2 b0 b1 nq (rQ.kN (EV.kN ty) c2) (by rw[b1,<-hw];omega);rw[b1,<-hw]at this;exact this
   ·cases e
  ·cases e
 ·cases e
theorem WM(size:Nat)(d s:Od):lV (Wc size d s) (fun _ _=>sO size (cY d) (cY s)):=by
 intro E T t H h v T' H' hT hH e;unfold Wc at e;split at e
 ·rename_i sv hs
  obtain⟨b,hb,Qr⟩:=vr hT hs;split at e
  ·rename_i r sz hd
   obtain⟨c,hc,nd⟩:=vr hT hd;split at e
   ·rename_i ty x hr
    refine WL hT hH hb Qr hc ?_ e;have q:=(hH.row _ _ hr).2;cases nd with
    |os h1 h2=>
     rcases h2 with⟨h2,h3⟩|⟨id,base,h2⟩
     ·exact .inl ⟨by have:=q.1;omega,h2⟩
     ·exact .inr ⟨id,base,h2,by rw[h2,q.1,Nat.zero_mul,Nat.add_zero],by have:=q.1;omega⟩
   ·cases e
  ·rename_i r sz off n hd
   obtain⟨c,hc,nd⟩:=vr hT hd;refine WL hT hH hb Qr hc ?_ e;cases nd with
   |se h1 h2 h3 h4=>exact .inl ⟨rfl,h2⟩
   |ss h1 h2 h3=>exact .inr ⟨_,_,h2,rfl,h3⟩
  ·cases e
 ·cases e
end Lf
end Go.Ab
noncomputable section
namespace Go.Ab
namespace Lf
theorem OD(size bytes:Nat)(s x:Od):lV (Jn size bytes s x) (fun _ _=>mR size bytes (cY s) (cY x)):=by
 intro E T t H h v T' H' hT hH e;unfold Jn at e;split at e
 ·rename_i sv hs
  split at e
  ·rename_i xv hx
   obtain⟨a,ha,DV⟩:=cU hT hs;obtain⟨b,hb,Qr⟩:=cU hT hx;obtain⟨rfl,c,h',E',e1,X,S',yJ⟩:=WH hH ha DV hb Qr e;exact⟨c,h',E',Ev.const e1,X,S',yJ,hT.mono X.e X.le⟩
  ·cases e
 ·cases e
theorem akX:SR ⟨fun _=>⟨.any,0⟩,fun _=>.any,fun _=>none,fun _=>.any⟩ ⟨0,.nil⟩ ⟨0,.nil⟩:=
 ⟨(fun _ _ e=>by cases e),(fun _ _ _ o=>by obtain⟨_,e,_⟩:=o;cases e),(fun _ _ o=>by obtain⟨_,e,_⟩:=o;cases e),(fun _ _ e=>by cases e)⟩
theorem L3{z:List AV}{t:Ty}{x:den t}(e:Qh z=some ⟨t,x⟩)(G:Nat->Option Rw):EV G t x z:=by
 unfold Qh at e;split at e
 ·rename_i t' ht
  split at e
  ·rename_i l hl
   split at e
   ·rename_i y q hy
    cases e;obtain⟨E',c,d,F,hcd,hev,hd⟩:=Am t _ _ _ l [] z x q akX (BH hl) hy
    have:d=[]:=by cases hd;rfl
    rw[this,List.append_nil]at hcd;rw[hcd];refine EV.mono (fun id row k=>?_) _ _ _ hev;have:=(F.S.g id row k).1;exact absurd this (Nat.not_lt_zero _)
   ·cases e
  ·cases e
 ·cases e
theorem Jv{G:Nat->Option Rw}{t:Ty}{x:den t}{z:List AV}(h:EV G t x z): ∀ n,rQ (EV G t) (List.replicate n x) (nn n z)
 |0=>rfl
 |n+1=>by
  rw[List.replicate_succ];show rQ _ _ (app z (nn n z));rw[cZ];exact⟨z,_,rfl,h,Jv h n⟩
theorem WN(size bytes:Nat)(z:List AV)(s x:Od):lV (V' size bytes z s x) (fun _ _=>xJ size bytes z (cY s) (cY x)):=by
 intro E T t H h v T' H' hT hH e;unfold V' at e;split at e
 ·rename_i sv hs
  split at e
  ·rename_i xv hx
   split at e
   ·rename_i k n hn
    obtain⟨_,e⟩:=lC e;split at e
    ·rename_i ty y hz
     obtain⟨hb,e⟩:=lC e;obtain⟨h0,e⟩:=Lf.T.cw e;rw[Bool.and_eq_true]at hb;have hb1:=beq_true hb.1;obtain⟨a,ha,DV⟩:=cU hT hs;obtain⟨b,HI,Qr⟩:=cU hT hx;have:=oA Qr hn;subst this;obtain⟨j,rfl⟩:=Int.eq_ofNat_of_zero_le (by simpa using h0)
     have hy:=Jv (L3 hz E.G) (j:Int).toNat
     obtain⟨rfl,c,h',E',e1,X,S',yJ⟩:=OC hH DV hy (z:=Nat.beq j 0) (fun q=>by have:=beq_true q;subst this;rfl) e;refine⟨c,h',E',Ev.const ?_,X,S',yJ,hT.mono X.e X.le⟩;unfold xJ;rw[ha,HI];rw[List.length_replicate]at e1;show(bif z9 a&&Nat.beq j 0 then Go.Ab.Ro.ok a h else Ba size bytes h (Ct a) j (nn j z))=_;rw[hb1];exact e1
    ·cases e
   ·cases e
  ·cases e
 ·cases e
theorem C1(G:Nat->Option Rw): ∀ (l:List UInt8),rQ (EV G (.int .u8)) (l.map fun b=>Int.ofNat b.toNat) (l.map fun b=>AV.int .u8 (.ofNat b.toNat))
 | []=>rfl
 |b::l=>⟨[_],_,rfl,rfl,C1 G l⟩
theorem WO(bytes:Nat)(s x:Od):lV (Wa bytes s x) (fun _ _=>Bb bytes (cY s) (cY x)):=by
 intro E T t H h v T' H' hT hH e;unfold Wa at e;split at e
 ·rename_i sv hs
  split at e
  ·rename_i xv hx
   split at e
   ·rename_i k y hn
    obtain⟨_,e⟩:=lC e;obtain⟨a,ha,DV⟩:=cU hT hs;obtain⟨b,HI,Qr⟩:=cU hT hx;have:=xB Qr hn;subst this;have hl:y.data.toList.length=y.size:=Array.length_toList;obtain⟨rfl,c,h',E',e1,X,S',yJ⟩:=OC hH DV (C1 E.G y.data.toList) (z:=Nat.beq y.size 0) (fun q=>by have:=beq_true q;rw[<-hl]at this;rw[List.eq_nil_of_length_eq_zero this];rfl) e;refine⟨c,h',E',Ev.const ?_,X,S',yJ,hT.mono X.e X.le⟩;unfold Bb;rw[ha,HI];rw[List.length_map,hl]at e1;exact e1
   ·cases e
  ·cases e
 ·cases e
theorem L4{G:Nat->Option Rw}: ∀ {x:List Int} {cs:List AV},rQ (EV G (.int .u8)) x cs->E5 cs=some x
 | [],cs,h=>by
  have h:cs=[]:=h;subst h;rfl
 |a::x,cs,h=>by
  obtain⟨c,d,rfl,h1,h2⟩:=h;have h1:c=[AV.int .u8 a]:=h1;subst h1;show(match E5 d with|some r=>some (a::r)|none=>none)=_;rw[L4 h2]
theorem ac2(x:Od):lV (akD x) (fun _ _=>GZ (cY x)):=by
 intro E T t H h v T' H' hT hH e;unfold akD at e;split at e
 ·rename_i xv hx
  split at e
  ·rename_i y h1 hn
   obtain⟨rfl,rfl,rfl⟩:=cE e;obtain⟨b,HI,Qr⟩:=cU hT hx;obtain⟨E1,F,cs,c1,c2⟩:=FU hH Qr hn;refine⟨.sc (.string (KW y)),h,E1,Ev.const ?_,F.X,F.S,.c rfl (fun q=>(q rfl).elim),hT.mono F.X.e F.X.le⟩;unfold GZ wO;rw[HI];show(match kp h (Ct b)with|some (n,cs)=>(match E5 cs with|some l=>bif Nat.beq (len l) n then Go.Ab.Ro.ok (.sc (.string (KW l))) h else .bad|none=>.bad)|none=>.bad)=_;rw[c1];show(match E5 cs with|some l=>bif Nat.beq (len l) y.length then Go.Ab.Ro.ok (.sc (.string (KW l))) h else .bad|none=>.bad)=_;rw[L4 c2];show(bif Nat.beq (len y) y.length then Go.Ab.Ro.ok (.sc (.string (KW y))) h else .bad)=_;rw[jH,Nat.beq_refl];rfl
  ·cases e
 ·cases e
theorem SD(x:Od):lV (Ol x) (fun _ _=>wJ (cY x)):=by
 intro E T t H h v T' H' hT hH e;unfold Ol at e;split at e
 ·rename_i xv hx
  split at e
  ·rename_i k y hn
   obtain⟨rfl,rfl,rfl⟩:=cE e;obtain⟨b,HI,Qr⟩:=cU hT hx;have:=xB Qr hn;subst this;have hl:y.data.toList.length=y.size:=Array.length_toList;obtain⟨S,X⟩:=aiL hH (t:=.int .u8) (rw:=Ee (y.data.toList.map fun b=>AV.int .u8 (.ofNat b.toNat))) (by rw[pj];exact C1 E.G y.data.toList);refine⟨.my h.next 0 y.size 1,_,_,Ev.const ?_,X,S,?_,hT.mono X.e X.le⟩
   ·unfold wJ;rw[HI]
   ·have hv:=V.os (E:=E.row H.next ⟨.my h.next 0 (y.data.toList.map fun b=>Int.ofNat b.toNat).length (Lf.size (.int .u8)),(y.data.toList.map fun b=>Int.ofNat b.toNat).length⟩) (N:=(lU H (.l (.int .u8) (y.data.toList.map fun b=>Int.ofNat b.toNat))).next) (r:=H.next) (sz:=1) (Nat.lt_succ_self _) (.inr ⟨h.next,0,by show(if H.next=H.next then _ else _:Kr).av=AV.my _ _ (if H.next=H.next then _ else _:Kr).n _;rw[if_pos rfl];rfl⟩);have e2:((E.row H.next ⟨.my h.next 0 (y.data.toList.map fun b=>Int.ofNat b.toNat).length (Lf.size (.int .u8)),(y.data.toList.map fun b=>Int.ofNat b.toNat).length⟩).K H.next).av=.my h.next 0 y.size 1:=by
     show(if H.next=H.next then _ else _:Kr).av=_;rw[if_pos rfl];show AV.my _ _ _ _=_;rw[List.length_map,hl];rfl
    rw[e2]at hv;exact hv
  ·cases e
 ·cases e
theorem ac3{T:Tq}{l c:Od}{lv cv:Sv}{k k':IntKind}{m n:Int}(h:Sp l c=true)(h1:qx l T=some lv)(h2:qx c T=some cv)(e1:toN lv=some (k,m))(e2:toN cv=some (k',n)):m=n:=by
 unfold Sp at h;split at h
 ·have:=beq_true h;subst this;rw[h1]at h2;cases h2;rw[e1]at e2;cases e2;rfl
 ·cases h1;cases h2;cases e1;cases e2;exact nu.1 h
 ·cases h
theorem WQ(size bytes:Nat)(z:List AV)(l c:Od):lV (Wb size bytes z l c) (fun _ _=>sN size bytes z (cY l) (cY c)):=by
 intro E T t H h v T' H' hT hH e;unfold Wb at e;split at e
 ·rename_i lv hl
  split at e
  ·rename_i cv hc
   split at e
   ·rename_i k l' hln
    split at e
    ·rename_i k' c' hcn
     split at e
     ·rename_i ty y hz
      obtain⟨hb,e⟩:=lC e;obtain⟨h0,e⟩:=Lf.T.cw e;obtain⟨rfl,rfl,rfl⟩:=cE e;rw[Bool.and_eq_true]at hb;have hb1:=beq_true hb.1;simp only[Bool.and_eq_true,decide_eq_true_eq]at h0;obtain⟨⟨h1,h2⟩,h3⟩:=h0;obtain⟨a,ha,DV⟩:=cU hT hl;obtain⟨b,HI,Qr⟩:=cU hT hc;have:=oA DV hln;subst this;have:=oA Qr hcn;subst this
      have heq:Sp l c=true->l'=c':=fun q=>ac3 q hl hc hln hcn
      obtain⟨m,rfl⟩:=Int.eq_ofNat_of_zero_le h1;obtain⟨n,rfl⟩:=Int.eq_ofNat_of_zero_le (Int.le_trans h1 h2)
      have hmn:m<=n:=by omega
      have h3:n*bytes<=70368744177664:=h3;have hk:sN size bytes z (cY l) (cY c) t h=bif Nat.beq n 0 then .ok .xr h else .ok (.my h.next 0 m size) (kA h ⟨Nat.mul n (len z),z,.nil⟩):=by
       unfold sN;rw[ha,HI];show(bif Nat.ble m n&&Nat.ble (Nat.mul n bytes) 70368744177664 then(bif Nat.beq n 0 then Go.Ab.Ro.ok .xr h else .ok (.my h.next 0 m size) (kA h ⟨Nat.mul n (len z),z,.nil⟩))else .bad)=_;rw[show Nat.ble m n=true from by rw[Nat.ble_eq];exact hmn,show Nat.ble (Nat.mul n bytes) 70368744177664=true from by rw[Nat.ble_eq];exact h3];rfl
      have ay6:=Jv (L3 hz E.G) n;simp only[Int.toNat_natCast];cases hn:Nat.beq n 0 with
      |true=>
       have hn0:=beq_true hn;subst hn0
       have hm0:m=0:=by omega
       subst hm0;rw[hn]at hk;have Uc:SR (E.row H.next ⟨.xr,0⟩) (lU H (.l ty (List.replicate 0 y))) h/\Nx E (E.row H.next ⟨.xr,0⟩) H (lU H (.l ty (List.replicate 0 y))) h h:=
        so hH rfl (fun _ _ e=>e) (Nat.le_refl _) (fun _ _ _=>rfl) (fun _ e=>by cases e) ⟨rfl,.inl ⟨rfl,rfl⟩⟩ rfl
       refine⟨.xr,h,_,Ev.const hk,Uc.2,Uc.1,?_,hT.mono Uc.2.e Uc.2.le⟩
       have K0:(E.row H.next ⟨.xr,0⟩).K H.next=⟨.xr,0⟩:=if_pos rfl
       cases hq:Sp l c with
       |true=>
        have:=V.os (E:=E.row H.next ⟨.xr,0⟩) (N:=(lU H (.l ty (List.replicate 0 y))).next) (r:=H.next) (sz:=size) (Nat.lt_succ_self _) (.inl (by rw[K0];exact⟨rfl,rfl⟩));rw[K0]at this;exact this
       |false=>
        have:=V.se (E:=E.row H.next ⟨.xr,0⟩) (N:=(lU H (.l ty (List.replicate 0 y))).next) (r:=H.next) (sz:=size) (off:=0) (Nat.lt_succ_self _) (by rw[K0];rfl) (by rw[K0]) rfl;rw[K0]at this;exact this
      |false=>
       rw[hn]at hk;obtain⟨S,X⟩:=aiL hH (t:=ty) (x:=List.replicate n y) (rw:=⟨Nat.mul n (len z),z,.nil⟩) (by rw[PB];exact ay6);refine⟨_,_,_,Ev.const hk,X,S,?_,hT.mono X.e X.le⟩;have K0:(E.row H.next ⟨.my h.next 0 (List.replicate n y).length (Lf.size ty),(List.replicate n y).length⟩).K H.next=⟨.my h.next 0 n size,n⟩:=by
        show(if H.next=H.next then _ else _)=_;rw[if_pos rfl,List.length_replicate,hb1]
       cases hq:Sp l c with
       |true=>
        have ay7:m=n:=by have:=heq hq;omega
        subst ay7;have:=V.os (E:=E.row H.next ⟨.my h.next 0 (List.replicate m y).length (Lf.size ty),(List.replicate m y).length⟩) (N:=(lU H (.l ty (List.replicate m y))).next) (r:=H.next) (sz:=size) (Nat.lt_succ_self _) (.inr (by rw[K0];exact⟨_,_,rfl⟩));rw[K0]at this;exact this
       |false=>
        have:=V.ss (E:=E.row H.next ⟨.my h.next 0 (List.replicate n y).length (Lf.size ty),(List.replicate n y).length⟩) (N:=(lU H (.l ty (List.replicate n y))).next) (r:=H.next) (sz:=size) (off:=0) (n:=m) (id:=h.next) (base:=0) (Nat.lt_succ_self _) (by rw[K0]) (by rw[K0];show 0+m<=n;omega);rw[Nat.zero_mul]at this;exact this
     ·cases e
    ·cases e
   ·cases e
  ·cases e
 ·cases e
def vu(call:lL)(cb:cx):Prop:= ∀ (E:En) (f:FuncId) (args:List Sv) (as:List AV) (H:Hq) (h:Hp) (v:Sv) (H':Hq),Vs E H.next args as->SR E H h->(call f args H).val=some (v,H')->
 ∃ c h' E',Ev (fun n d=>cb n d f as h) (.ok c h')/\Nx E E' H H' h h'/\SR E' H' h'/\V E' H'.next v c
section
variable {call:lL}{cb:cx}(C:vu call cb)
include C
theorem WR(f:FuncId)(args:List Od):lV (Wd call f args) (fun n d=>Dv (cb n d) f (args.map cY)):=by
 intro E T t H h v T' H' hT hH e;unfold Wd at e;split at e
 ·rename_i vs hv
  obtain⟨p,e1,e2⟩:=Lf.T.kj e;obtain⟨rfl,rfl,rfl⟩:=cE e2;obtain⟨cs,hc,nd⟩:=Jo hT hv;obtain⟨c,h',E',k,X,S,w⟩:=C E f vs cs H h p.1 p.2 nd hH e1;refine⟨c,h',E',?_,X,S,w,hT.mono X.e X.le⟩;unfold Dv;simp only[hc];exact k
 ·cases e
theorem SE(f:Od)(args:List Od):lV (On call f args) (fun n d=>xK (cb n d) (cY f) (args.map cY)):=by
 intro E T t H h v T' H' hT hH e;unfold On at e;split at e
 ·rename_i g cap hg
  split at e
  ·rename_i vs hv
   obtain⟨p,e1,e2⟩:=Lf.T.kj e;obtain⟨rfl,rfl,rfl⟩:=cE e2;obtain⟨a,ha,DV⟩:=cU hT hg;obtain⟨cs,hc,nd⟩:=Jo hT hv;cases DV with
   |fn Fh=>
    rename_i l'
    rw[cZ]at e1;obtain⟨c,h',E',k,X,S,w⟩:=C E g _ _ H h p.1 p.2 (nd.app Fh) hH e1;refine⟨c,h',E',?_,X,S,w,hT.mono X.e X.le⟩;unfold xK;simp only[ha,hc,cZ];exact k
  ·cases e
 ·cases e
omit C in
theorem L5{h:Hp}: ∀ (l:List Sv) (cs:List AV) (E:En) (H:Hq),SR E H h->Vs E H.next l cs->
 ∃ E',Nx E E' H ⟨(kQ l H.next).2,H.cz⟩ h h/\SR E' ⟨(kQ l H.next).2,H.cz⟩ h/\Vs E' (kQ l H.next).2 (kQ l H.next).1 cs:=by
 intro l
 induction l with
 |nil=>intro cs E H S v;exact⟨E,Nx.refl _ _ _,S,v⟩
 |cons a l ih=>
  intro cs E H S v;have plain: ∀ (c:AV) (cs':List AV),cs=c::cs'->V E H.next a c->Vs E H.next l cs'-> ∃ E',Nx E E' H ⟨(kQ l H.next).2,H.cz⟩ h h/\SR E' ⟨(kQ l H.next).2,H.cz⟩ h/\Vs E' (kQ l H.next).2 (a::(kQ l H.next).1) cs:=by
   rintro c cs' rfl va vl;obtain⟨E',n1,s1,v1⟩:=ih cs' E H S vl;exact⟨E',n1,s1,.cons (va.mono n1.e n1.le) v1⟩
  cases v with
  |cons va vl=>
   rename_i c cs'
   cases a with
   |c m t x=>
    cases t with
    |cq t=>
     cases hm:Nat.beq m 0 with
     |false=>
      have e:kQ (.c m (.cq t) x::l) H.next=(.c m (.cq t) x::(kQ l H.next).1,(kQ l H.next).2):=by
       show(bif Nat.beq m 0 then _ else _)=_;rw[hm];rfl
      rw[e];exact plain c cs' rfl va vl
     |true=>
      have e:kQ (.c m (.cq t) x::l) H.next=(.c H.next (.cq t) x::(kQ l (Nat.add H.next 1)).1,(kQ l (Nat.add H.next 1)).2):=by
       show(bif Nat.beq m 0 then _ else _)=_;rw[hm];rfl
      rw[e]
      let E1:En:=⟨E.K,fun r=>if r=H.next then c else E.tk r,E.G,E.A⟩
      let H1:Hq:=⟨Nat.add H.next 1,H.cz⟩
      have el:Et E E1 H.next:=⟨fun _ _=>rfl,fun r hr=>if_neg (Nat.ne_of_lt hr),fun _ _ e=>e,rfl⟩
      have hle:H.next<=H1.next:=Nat.le_add_right _ 1
      have n0:Nx E E1 H H1 h h:=⟨el,hle,Nat.le_refl _,fun r _ a b=>.inl ⟨r,a,b⟩,fun _ _ a=>.inl a,fun _ _ _=>rfl⟩
      have s1:SR E1 H1 h:=⟨fun r R hr=>⟨Nat.lt_of_lt_of_le (S.row r R hr).1 hle,RV.mono el hle (fun _ _ _ _ k=>k) (S.row r R hr).2⟩,S.inj,S.lt,S.g⟩
      obtain⟨E',n1,s2,v1⟩:=ih cs' E1 H1 s1 (vl.mono el hle);refine⟨E',n0.trans n1,s2,.cons ?_ v1⟩;cases va with
      |c k _=>
       refine .c (EV.mono (fun _ _ e=>n1.e.G _ _ e) _ _ _ k) fun _=>⟨Nat.lt_of_lt_of_le (Nat.lt_succ_self H.next) n1.le,?_⟩
       rw[n1.e.tk H.next (Nat.lt_succ_self H.next)];exact(if_pos rfl).symm
    | _=>exact plain c cs' rfl va vl
   | _=>exact plain c cs' rfl va vl
omit C in
theorem ac4(b:Od){f:mc}{g:OpN}(k:lV f g):lV (akF b f) g:=by
 intro E T t H h v T' H' hT hH e;unfold akF at e;split at e
 ·rename_i i
  cases hi:Nat.blt i 512 with
  |false=>rw[hi]at e;exact k E T t H h v T' H' hT hH e
  |true=>
   rw[hi]at e;simp only[cond_true]at e;split at e
   ·rename_i l hl
    obtain⟨a,ha,DV⟩:=hT i _ (jn.1 hi) hl;cases DV with
    |ag hl'=>
     rename_i l'
     obtain⟨E1,n1,s1,v1⟩:=L5 l l' E H hH hl';have zI:TV E1 (kQ l H.next).2 (T.put i (some (.ag (kQ l H.next).1))) t:=by
      have:=(hT.mono n1.e n1.le)
      intro j w hj hw;rw[Tq.pK _ _ _ _ (jn.1 hi) hj]at hw;split at hw
      ·rename_i e1
       subst e1;cases hw;exact⟨_,ha,.ag v1⟩
      ·exact this j w hj hw
     obtain⟨c,h',E',k1,k2,k3,k4,k5⟩:=k E1 _ t ⟨(kQ l H.next).2,H.cz⟩ h v T' H' zI s1 e;exact⟨c,h',E',k1,n1.trans k2,k3,k4,k5⟩
   ·exact k E T t H h v T' H' hT hH e
 ·exact k E T t H h v T' H' hT hH e
omit C in
theorem WS(a:Od):lV (We a) (fun _ _=>zC (cY a)):=ke (by
 intro E T t H h v T' H' hT hH e;unfold We at e;split at e
 ·rename_i r sz hw
  split at e
  ·rename_i ty x hr
   obtain⟨c1,e⟩:=Lf.T.cw e;obtain⟨rfl,rfl,rfl⟩:=cE e;obtain⟨c,hc,nd⟩:=cU hT hw;refine⟨rfl,rfl,c,?_,nd⟩;have qF:Nat.beq x.length 0=false:=by cases q:Nat.beq x.length 0 with
    |true=>rw[q]at c1;cases c1
    |false=>rfl
   rcases LX nd (hH.row _ _ hr).2 with⟨_,rfl⟩|⟨id,base,row,ls,rfl,_,_,k4,_⟩
   ·cases qF
   ·unfold zC;rw[hc];simp only[qF,k4,cond_false]
  ·cases e
 ·rename_i r sz off n hw
  split at e
  ·rename_i g l hr
   cases hn:Nat.beq n 0 with
   |true=>rw[hn]at e;cases e
   |false=>
    rw[hn]at e;obtain⟨rfl,rfl,rfl⟩:=cE e;obtain⟨c,hc,nd⟩:=cU hT hw;refine⟨rfl,rfl,c,?_,nd⟩;obtain⟨id,row,k1,k2,_⟩:=(hH.row _ _ hr).2;cases nd with
    |xo _ h2=>
     rw[k1]at h2;cases h2;unfold zC;rw[hc];simp only[hn,k2,cond_false]
  ·cases e
 ·cases e)
omit C in
theorem ac5:lV (fun t h=>okV (.a .any) t h) (fun _ _=>Go.Ab.Ru):=by
 intro E T t H h v T' H' hT hH e;obtain⟨rfl,rfl,rfl⟩:=cE e;exact⟨.any,h,E,Ev.const rfl,Nx.refl _ _ _,hH,.a rfl,hT⟩
theorem ac6(o:lK):lV (FM call o) (fun n d=>Oh (cb n d) o):=by
 cases o<;>first|exact acB|skip
 case mv=>exact FO _
 case pk=>exact Wm _ _ _
 case nw=>exact acD _
 case bx=>exact acE _
 case bd=>exact Sx _ _
 case rw=>exact acG _ _ _ _
 case ld=>exact WC _ _ _
 case sto=>exact ac4 _ (SA _ _ _)
 case nl=>exact acC _
 case bn=>exact acL _ _ _
 case un=>exact akP _ _
 case bys=>exact SD _
 case bs=>exact ac2 _
 case fn=>exact akK _ _
 case mk=>exact WQ _ _ _ _ _
 case slS=>exact OB _ _ _
 case slN=>exact Oz _ _ _ _
 case slA=>exact OA _ _ _ _ _
 case fa=>exact He _ _
 case fd=>exact Sw _ _ _ _
 case ixS=>exact acS _ _ _
 case ixA=>exact acT _ _ _ _
 case ix=>exact SB _ _ _ _ _
 case ixT=>exact Oy _ _
 case ex=>exact LW _ _
 case lnT=>exact Wz _
 case ln=>exact acH _
 case ap=>exact OD _ _ _ _
 case apZ=>exact WN _ _ _ _ _
 case apS=>exact WO _ _ _
 case emp=>exact acU _ _ _
 case mrk=>exact WS _
 case min=>exact acO _ _
 case max=>exact acP _ _
 case cap=>exact acV _
 case map=>exact ac5
 case cpy=>exact WM _ _ _
 case call=>exact WR C _ _
 case callV=>exact SE C _ _
end
end Lf
end Go.Ab
noncomputable section
namespace Go.Ab
namespace Lf
theorem OE{v:Value}(h:kJ (.sc v)=true):VJ v v=true:=by
 have h':isNil (.sc v)=true:=h
 cases v<;>first|(cases h';done)|skip
 rename_i p n c
 cases p with
 |none=>show(Nat.beq n n&&Nat.beq c c)=true;rw[Nat.beq_refl,Nat.beq_refl];rfl
 |some _=>cases h'
theorem L6(n:Int):eqI n n=true:=nu.2 rfl
theorem C3{a:AV}(h:kJ a=true):uE a a=true:=by
 cases a<;>first|(cases h;done)|skip
 ·exact OE h
 ·rfl
 ·rfl
theorem L7{l m:List AV}(h:qG l l=true)(k:qG m m=true):qG (l++m) (l++m)=true:=by
 induction l with
 |nil=>exact k
 |cons a l ih=>
  have h:(uE a a&&qG l l)=true:=h;rw[Bool.and_eq_true]at h;show(uE a a&&qG (l++m) (l++m))=true;rw[h.1,ih h.2];rfl
theorem L9{α:Type}{E:α->List AV->Prop}(hE: ∀ x cs,E x cs->qG cs cs=true): ∀ {x:List α} {ls:List AV},rQ E x ls->qG ls ls=true
 | [],_,e=>by have e':_=[]:=e;subst e';rfl
 | _::_,_,⟨c,r,e,a,b⟩=>by subst e;exact L7 (hE _ _ a) (L9 hE b)
theorem ac7{G:Nat->Option Rw}{t:Ty}{E:den t->List AV->Prop}(hE: ∀ x cs,E x cs->qG cs cs=true){x:List (den t)}{a:AV}(k:Sr G t E x a):uE a a=true:=by
 rcases k with⟨k,_⟩|⟨ls,k1,k2|⟨id,base,row,k2,_,_⟩⟩
 ·exact C3 k
 ·subst k2;show(Nat.beq _ _&&qG ls ls)=true;rw[Nat.beq_refl,Bool.true_and];exact L9 hE k1
 ·subst k2;show(Nat.beq _ _&&Nat.beq _ _&&Nat.beq _ _&&Nat.beq _ _)=true;simp
theorem Ex{G:Nat->Option Rw}: ∀ (t:Ty) (x:den t) (cs:List AV),EV G t x cs->qG cs cs=true
 | .int k,x,_,e=>by
  have e':_=_:=e;subst e';show(qf k k&&eqI x x&&true)=true;rw[FQ,L6];rfl
 | .bool,x,_,e=>by
  have e':_=_:=e;subst e';show(!(xor x x)&&true)=true;cases x<;>rfl
 | .str,x,_,e=>by
  have e':_=_:=e;subst e';show(VJ (.string x) (.string x)&&true)=true;rw[Bool.and_true];show(x.data.toList == x.data.toList)=true;exact beq_self_eq_true _
 | .cq t,_,_,⟨a,e,k⟩=>by
  subst e;show(uE a a&&true)=true;rw[ac7 (fun x cs=>Ex t x cs) k];rfl
 | .pair a b,_,_,⟨c,d,e,k1,k2⟩=>by
  subst e;exact L7 (Ex a _ _ k1) (Ex b _ _ k2)
theorem L'{E:En}{N:Nat}{u v:Sv}{a b:AV}{c:LB}(hu:V E N u a)(hv:V E N v b)(e:Qi u v=some c)(hc:c.v=true):uE a b=true:=by
 have VU:(match toN u,toN v with
  |some (k,a),some (k',b)=>bif qf k k' then some (LB.t (decide (a=b)))else none
  | _,_=>match toB u,toB v with
   |some a,some b=>some (LB.t (!(xor a.v b.v)))
   | _,_=>none)=some c->uE a b=true:=by
  intro e;split at e
  ·rename_i k m k' n h1 h2
   obtain⟨hk,e⟩:=jI e;cases e;rw[oA hu h1,oA hv h2]
   have:m=n:=by simpa[LB.v]using hc
   subst this;show(qf k k'&&eqI m m)=true;rw[hk,L6];rfl
  ·split at e
   ·rename_i x y h1 h2
    cases e;rw[oS hu h1,oS hv h2];exact hc
   ·cases e
 unfold Qi at e;split at e
 ·have e:=(jI e).1;cases hu;cases hv;exact e
 ·cases hu;cases hv
  rename_i a b
  cases a<;>cases b<;>first|rfl|(cases e;done)
 ·have e:=(jI e).1;cases hu;cases hv;exact e
 ·have e:=(jI e).1;rw[Bool.and_eq_true]at e;have e1:=beq_true e.1;have e2:=beq_true e.2;subst e1;subst e2;cases hu with
  |rf _ h1=>cases hv with
   |rf _ h2=>
    rw[h1]at h2;cases h2;show(Nat.beq _ _&&Nat.beq _ _)=true;simp
 ·have e0:=(jI e).1
  replace e:=(jI e).2
  rw[Bool.and_eq_true,Bool.and_eq_true]at e0;have e1:=beq_true e0.1;have e2:=beq_true e0.2.1;have e3:=beq_true e0.2.2;subst e1;subst e2;subst e3;cases e;simp only[LB.v,decide_eq_true_eq]at hc;subst hc;cases hu with
  |re _ h1 _=>cases hv with
   |re _ h2 _=>
    rw[h1]at h2;cases h2;show(Nat.beq _ _&&Nat.beq _ _)=true;simp
 ·have e0:=(jI e).1;rw[Bool.and_eq_true]at e0;have e1:=beq_true e0.1;have e2:=beq_true e0.2;subst e1;subst e2;cases hu with
  |os _ h1=>cases hv with
   |os _ h2=>
    rcases h1 with⟨h1,_⟩|⟨id,base,h1⟩
    ·exact C3 h1
    ·rw[h1];show(Nat.beq _ _&&Nat.beq _ _&&Nat.beq _ _&&Nat.beq _ _)=true;simp
 ·have e0:=(jI e).1
  replace e:=(jI e).2
  rw[Bool.and_eq_true]at e0;have e1:=beq_true e0.1;have e2:=beq_true e0.2;subst e1;subst e2;cases e;simp only[LB.v,Bool.and_eq_true,decide_eq_true_eq]at hc;obtain⟨c1,c2⟩:=hc;subst c1;subst c2;cases hu with
  |se _ h1 _ _=>cases hv with
   |se _ _ _ _=>exact C3 h1
   |ss _ h2 _=>rw[h2]at h1;cases h1
  |ss _ h1 _=>cases hv with
   |se _ h2 _ _=>rw[h1]at h2;cases h2
   |ss _ h2 _=>
    rw[h1]at h2;injection h2 with a1 a2 _ _;subst a1;subst a2;show(Nat.beq _ _&&Nat.beq _ _&&Nat.beq _ _&&Nat.beq _ _)=true;simp
 ·have e0:=(jI e).1;rw[Bool.and_eq_true,Bool.and_eq_true,Bool.and_eq_true]at e0;have e1:=beq_true e0.1;have e2:=beq_true e0.2.1;have e3:=beq_true e0.2.2.1;have e4:=beq_true e0.2.2.2;subst e1;subst e2;subst e3;subst e4;cases hu with
  |xo _ h1=>cases hv with
   |xo _ h2=>rw[h1]at h2;cases h2;show(Nat.beq _ _&&Nat.beq _ _&&Nat.beq _ _&&Nat.beq _ _)=true;simp
 ·have e0:=(jI e).1;rw[Bool.and_eq_true]at e0;have hp:=jn.1 e0.1;have e1:=beq_true e0.2;subst e1;cases hu with
  |c k1 m1=>cases hv with
   |c k2 m2=>
    rw[(m1 (by omega)).2,<-(m2 (by omega)).2];have:=Ex _ _ _ k2;have this:(uE b b&&true)=true:=this
    rwa [Bool.and_true]at this
 ·exact VU e
theorem Ma{E:En}{N:Nat}: ∀ {l m:List Sv} {as bs:List AV} {c:LB},Vs E N l as->Vs E N m bs->Qj l m=some c->c.v=true->qG as bs=true
 | [],[],_,_,_,.nil,.nil,_,_=>rfl
 | [],_::_,_,_,_,_,_,e,_=>by cases e
 | _::_,[],_,_,_,_,_,e,_=>by cases e
 |u::l,v::m,a::as,b::bs,c,.cons hu hl,.cons hv hm,e,hc=>by
  unfold Qj at e;split at e
  ·rename_i x hx
   split at e
   ·rename_i y hy
    cases e;rw[LB.Wy,Bool.and_eq_true]at hc;show(uE a b&&qG as bs)=true;rw[L' hu hv hx hc.1,Ma hl hm hy hc.2];rfl
   ·cases e
  ·cases e
theorem FV{E:En}{N:Nat}{u v:Sv}{a b:AV}{c:LB}(hu:V E N u a)(hv:V E N v b)(e:LN u v=some c)(hc:c.v=true):uE a b=true:=by
 unfold LN at e;split at e
 ·cases hu with
  |ag h1=>cases hv with
   |ag h2=>exact Ma h1 h2 e hc
 ·exact L' hu hv e hc
theorem Ev.map{α β:Type}{p:Nat->Nat->α}{r:α}(h:Ev p r){q:Nat->Nat->β}{s:β}(k: ∃ M,∀ n d,M<=n->M<=d->p n d=r->q n d=s):Ev q s:=by
 obtain⟨M,h⟩:=h;obtain⟨M',k⟩:=k;exact⟨max M M',fun n d h1 h2=>k n d (by omega) (by omega) (h n d (by omega) (by omega))⟩
theorem Ev.Ap{α β:Type}{p:Nat->Nat->α}{r:α}(h:Ev p r){q:Nat->Nat->β}{s:β}(k: ∀ n d,p n d=r->q n d=s):Ev q s:=h.map ⟨0,fun n d _ _=>k n d⟩
theorem Ev.akY{α β γ:Type}{p:Nat->Nat->α}{r:α}(h:Ev p r){q:Nat->Nat->β}{s:β}(k:Ev q s){f:Nat->Nat->γ}{u:γ}(g: ∀ n d,p n d=r->q n d=s->f n d=u):Ev f u:=by
 obtain⟨M,h⟩:=h;obtain⟨M',k⟩:=k;exact⟨max M M',fun n d h1 h2=>g n d (h n d (by omega) (by omega)) (k n d (by omega) (by omega))⟩
theorem OG{f:mc}{g:OpN}(s:lV f g):lV f (fun n d=>mn (g n d)):=by
 intro E T t H h v T' H' hT hH e;obtain⟨c,h',E',k,X,S,w,Ua⟩:=s E T t H h v T' H' hT hH e;refine⟨c,h',E',k.Ap fun n d q=>?_,X,S,w,Ua⟩
 have hb:Nat.ble h.next h'.next=true:=by rw[Nat.ble_eq];exact X.KO
 simp only[mn,q,hb]
theorem OH{f:mc}{g:OpN}(s:lV f g)(j:Od)(want:Bool):lV (sGd j want f) (fun n d=>gF (cY j) want (g n d)):=by
 intro E T t H h v T' H' hT hH e;unfold sGd at e;split at e
 ·rename_i hj
  obtain⟨rfl,rfl,rfl⟩:=cE e;obtain⟨a,ha,DV⟩:=cU hT hj;cases DV with
  |tu k=>cases k;exact⟨n7,h,E,⟨0,fun n d _ _=>by unfold gF;simp only[ha]⟩,Nx.refl _ _ _,hH,.tu .nil,hT⟩
 ·obtain⟨c,T1,hc,zI,h1,h2⟩:=CU hT e
  have hg: ∀ n d,gF (cY j) want (g n d) t h=oL (oL want c (!c)) (g n d t h) (.ok n7 h):=fun n d=>by unfold gF;rw[hc]
  have yes:(bif want then c else !c)=true->(f T1 H).val=some (v,T',H')-> ∃ c h' E',Ev (fun n d=>gF (cY j) want (g n d) t h) (.ok c h')/\Nx E E' H H' h h'/\SR E' H' h'/\V E' H'.next v c/\TV E' H'.next T' t:=by
   intro hw e;obtain⟨x,h',E',k,X,S,w,Ua⟩:=s E T1 t H h v T' H' zI hH e;refine⟨x,h',E',k.Ap fun n d q=>?_,X,S,w,Ua⟩;rw[hg,q]
   cases want<;>cases c<;>first|rfl|cases hw
  have no:(bif want then c else !c)=false->(okV x' T1 H).val=some (v,T',H')-> ∃ c h' E',Ev (fun n d=>gF (cY j) want (g n d) t h) (.ok c h')/\Nx E E' H H' h h'/\SR E' H' h'/\V E' H'.next v c/\TV E' H'.next T' t:=by
   intro hw e;obtain⟨rfl,rfl,rfl⟩:=cE e;refine⟨n7,h,E,⟨0,fun n d _ _=>?_⟩,Nx.refl _ _ _,hH,.tu .nil,zI⟩;show gF (cY j) want (g n d) t h=_;rw[hg]
   cases want<;>cases c<;>first|rfl|cases hw
  cases c with
  |true=>
   have:=h1 rfl;cases want with
   |true=>exact yes rfl this
   |false=>exact no rfl this
  |false=>
   have:=h2 rfl;cases want with
   |true=>exact no rfl this
   |false=>exact yes rfl this
end Lf
end Go.Ab
