import Derived.Test.YtcnkojgmochcgaaGreatDoorLfB
noncomputable section
namespace Go.Ab
namespace Lf
theorem tt{H:Hq}{r:Nat}{R:Row}(hl:R.live=false){q:Nat}(o:own (ql H r (some R)) q):q≠r/\own H q:=by
 obtain⟨R',a,b⟩:=o
 rw[ov]at a
 split at a
 ·cases a;rw[hl]at b;cases b
 ·exact⟨‹_›,R',a,b⟩
def En.fz(E:En)(a:AV)(h:Hp):En:=⟨E.K,E.tk,fun id=>if r9 a=some id then h.cw.get id else E.G id,E.A⟩
inductive Frz:Row->Row->Prop
 |l {t x}:Frz (.l t x) (.z t x)
 |o {g l}:Frz (.o g l) (.zo l)
theorem Em{E:En}{H:Hq}{h:Hp}(S:SR E H h){r:Nat}{R R':Row}(hr:H.cw.get r=some R)(f:Frz R R'):
 SR (E.fz (E.K r).av h) (ql H r (some R')) h/\Nx E (E.fz (E.K r).av h) H (ql H r (some R')) h h:=by
 have lv:R.live=true:=by cases f<;>rfl
 have lv':R'.live=false:=by cases f<;>rfl
 have hg:YP E.G (E.fz (E.K r).av h).G:=by
  intro id row e
  show(if _ then _ else _)=_
  split
  ·rename_i c;exact((S.g id row e).2.2 r ⟨R,hr,lv⟩ c).elim
  ·exact e
 have le:Bh E (E.fz (E.K r).av h) H.next:=⟨fun _ _=>rfl,fun _ _=>rfl,hg,rfl⟩
 refine⟨⟨?_,?_,?_,?_⟩,⟨le,Nat.le_refl _,Nat.le_refl _,?_,?_,fun _ _ _=>rfl⟩⟩
 ·intro q Q hq
  rw[ov]at hq
  split at hq
  ·rename_i e;subst e;cases hq
   obtain⟨h1,h2⟩:=S.row _ _ hr
   refine⟨h1,?_⟩
   cases f with
   |l=>exact LR.mono hg (fun id row e k=>by have e':r9 (E.K q).av=some id:=e;show(if _ then _ else _)=_;rw[if_pos e'];exact k) h2
   |o=>
    obtain⟨id,row,a,b,c,_⟩:=h2
    exact⟨id,row,a,by show(if _ then _ else _)=_;rw[if_pos (by rw[a];rfl)];exact b,c.mono le (Nat.le_refl _)⟩
  ·obtain⟨h1,h2⟩:=S.row _ _ hq
   exact⟨h1,h2.mono le (Nat.le_refl _) (fun _ _ _ _ e=>e)⟩
 ·intro a b id oa ob ea eb
  exact S.inj a b id (tt lv' oa).2 (tt lv' ob).2 ea eb
 ·intro a id oa ea
  exact S.lt a id (tt lv' oa).2 ea
 ·intro id row e
  have e':(if r9 (E.K r).av=some id then h.cw.get id else E.G id)=some row:=e
  split at e'
  ·rename_i c
   refine⟨S.lt r id ⟨R,hr,lv⟩ c,e',fun q oq eq=>?_⟩
   exact(tt lv' oq).1 (S.inj q r id (tt lv' oq).2 ⟨R,hr,lv⟩ eq c)
  ·obtain⟨a,b,c⟩:=S.g id row e'
   exact⟨a,b,fun q oq=>c q (tt lv' oq).2⟩
 ·intro q id oq eq
  exact .inl ⟨q,(tt lv' oq).2,eq⟩
 ·intro id row e
  have e':(if r9 (E.K r).av=some id then h.cw.get id else E.G id)=some row:=e
  split at e'
  ·rename_i c;exact .inr (.inl ⟨r,⟨R,hr,lv⟩,c⟩)
  ·exact .inl e'
structure Fz(E E':En)(H H':Hq)(h:Hp):Prop where
 K:E'.K=E.K
 tk:E'.tk=E.tk
 n:H'.next=H.next
 S:SR E' H' h
 X:Nx E E' H H' h h
theorem Fz.refl{E:En}{H:Hq}{h:Hp}(S:SR E H h):Fz E E H H h:=⟨rfl,rfl,rfl,S,Nx.refl _ _ _⟩
theorem Fz.trans{E E1 E2:En}{H H1 H2:Hq}{h:Hp}(a:Fz E E1 H H1 h)(b:Fz E1 E2 H1 H2 h):Fz E E2 H H2 h:=⟨b.K.trans a.K,b.tk.trans a.tk,b.n.trans a.n,b.S,a.X.trans b.X⟩
theorem Fz.g{E E':En}{H H':Hq}{h:Hp}(a:Fz E E' H H' h):YP E.G E'.G:=a.X.e.G
theorem Fz.v{E E':En}{H H':Hq}{h:Hp}(a:Fz E E' H H' h){v:Sv}{c:AV}(k:V E H.next v c):V E' H'.next v c:=k.mono a.X.e a.X.le
theorem Fz.vs{E E':En}{H H':Hq}{h:Hp}(a:Fz E E' H H' h){v:List Sv}{c:List AV}(k:Vs E H.next v c):Vs E' H'.next v c:=k.mono a.X.e a.X.le
theorem zQ{E:En}{H:Hq}{h:Hp}(S:SR E H h){r:Nat}{R R':Row}(hr:H.cw.get r=some R)(f:Frz R R'):Fz E (E.fz (E.K r).av h) H (ql H r (some R')) h:=
 ⟨rfl,rfl,rfl,(Em S hr f).1,(Em S hr f).2⟩
def uY(t:Ty)(f:List Sv->Hq->Option (den t×List Sv×Hq)):Prop:= ∀ (E:En) (H:Hq) (h:Hp) (l r:List Sv) (cs:List AV) (x:den t) (H':Hq),SR E H h->Vs E H.next l cs->f l H=some (x,r,H')->
 ∃ E' c d,Fz E E' H H' h/\cs=c++d/\EV E'.G t x c/\Vs E' H'.next r d
theorem Kw{t:Ty}{f:List Sv->Hq->Option (den t×List Sv×Hq)}(hf:uY t f): ∀ (n:Nat) (E:En) (H:Hq) (h:Hp) (l:List Sv) (cs:List AV) (x:List (den t)) (H':Hq),SR E H h->Vs E H.next l cs->rdS t f n l H=some (x,H')->
 ∃ E' c d,Fz E E' H H' h/\cs=c++d/\ru (EV E'.G t) x c/\x.length=n
 |0,E,H,h,l,cs,x,H',S,_,e=>by cases e;exact⟨E,[],cs,Fz.refl S,rfl,rfl,rfl⟩
 |n+1,E,H,h,l,cs,x,H',S,hv,e=>by
  change (match f l H with|some (x,r,h)=>(match rdS t f n r h with|some (xs,h)=>some (x::xs,h)|none=>none)|none=>none)=some (x,H')at e
  split at e
  ·rename_i y r H1 hy
   split at e
   ·rename_i ys H2 hys
    cases e
    obtain⟨E1,c1,d1,F1,rfl,v1,w1⟩:=hf E H h l r cs y H1 S hv hy
    obtain⟨E2,c2,d2,F2,rfl,v2,w2⟩:=Kw hf n E1 H1 h r d1 ys H' F1.S w1 hys
    exact⟨E2,c1++c2,d2,F1.trans F2,by simp,⟨c1,c2,rfl,EV.mono F2.g _ _ _ v1,v2⟩,by simp[w2]⟩
   ·cases e
  ·cases e
theorem ug{r:Rw}{base k:Nat}{ls:List AV}(s:r.ri base k=some ls){o n:Nat}(h:o+n<=k):r.ri (base+o) n=some ((ls.drop o).take n):=by
 obtain⟨a,b⟩:=nU.1 s
 refine nU.2 ⟨by omega,?_⟩
 rw[b,List.drop_take,List.take_take,List.drop_drop,Nat.min_eq_left (by omega)]
theorem FN{G:Nat->Option Rw}{t:Ty}{x:List (den t)}{id base n off m:Nat}{row:Rw}{ls:List AV}(hx:x.length=n)(s:row.ri base (n*size t)=some ls)(e:ru (EV G t) x ls)(h:off+m<=n):
 ((x.drop off).take m).length=m/\row.ri (base+off*size t) (m*size t)=some ((ls.drop (off*size t)).take (m*size t))/\ru (EV G t) ((x.drop off).take m) ((ls.drop (off*size t)).take (m*size t)):=by
 refine⟨by rw[List.length_take,List.length_drop];omega,ug s ?_,(e.drop (EV.length t) off).take (EV.length t) m⟩
 rw[<-Nat.add_mul];exact Nat.mul_le_mul_right _ h
theorem HN{E:En}{N:Nat}{t:Ty}{x:List (den t)}{r sz:Nat}{a:AV}{S:Nat->Option Rw}(hv:V E N (.os r sz) a)(l:LR E.G t x (E.K r) S):
 (nr a=true/\x=[])∨ ∃ id base row ls,a=.nW id base x.length (size t)/\(E.K r).av=a/\sz=size t/\S id=some row/\row.ri base (x.length*size t)=some ls/\ru (EV E.G t) x ls:=by
 cases hv with
 |os h1 h2=>
  rcases l.2 with k|⟨id,base,row,ls,k1,k2,k3,k4⟩
  ·exact .inl k
  ·rw[l.1]
   rcases h2 with h2|⟨Am,To,h2⟩
   ·rw[k1]at h2;cases h2.1
   ·rw[k1]at h2
    injection h2 with _ _ _ a4
    exact .inr ⟨id,base,row,ls,k1,rfl,a4.symm,k2,k3,k4⟩
theorem acn{E:En}{N:Nat}{t:Ty}{x:List (den t)}{r sz off n:Nat}{a:AV}{S:Nat->Option Rw}(hv:V E N (.ss r sz off n) a)(l:LR E.G t x (E.K r) S):
 (nr a=true/\n=0/\x=[]/\off=0/\(E.K r).av=a)∨ ∃ id base row ls,a=.nW id (base+off*size t) n (size t)/\off+n<=x.length/\(E.K r).av=.nW id base x.length (size t)/\sz=size t/\S id=some row/\row.ri base (x.length*size t)=some ls/\ru (EV E.G t) x ls:=by
 cases hv with
 |se h1 h2 h3 h4=>
  refine .inl ⟨h2,rfl,?_,h4,rfl⟩
  have:=l.1;rw[h3]at this
  exact List.eq_nil_of_length_eq_zero this
 |ss h1 h2 h3=>
  rcases l.2 with k|⟨id,base,row,ls,k1,k2,k3,k4⟩
  ·rw[h2]at k;cases k.1
  ·rw[k1]at h2
   injection h2 with a1 a2 _ a4
   subst a1;subst a2;subst a4
   rw[l.1]
   exact .inr ⟨id,base,row,ls,rfl,h3,k1,rfl,k2,k3,k4⟩
theorem yK{E:En}{t:Ty}{x:List (den t)}{a:AV}{id base:Nat}{row:Rw}{ls:List AV}(ha:a=.nW id base x.length (size t))(hg:E.G id=some row)(s:row.ri base (x.length*size t)=some ls)(e:ru (EV E.G t) x ls):Nn E.G t (EV E.G t) x a:=
 .inr ⟨ls,e,.inr ⟨id,base,row,ha,hg,s⟩⟩
theorem Tp{E:En}{N:Nat}{t:Ty}{x:List (den t)}{r sz:Nat}{a:AV}(hv:V E N (.os r sz) a)(l:LR E.G t x (E.K r) E.G):Nn E.G t (EV E.G t) x a:=by
 rcases HN hv l with k|⟨id,base,row,ls,k1,_,_,k2,k3,k4⟩
 ·exact .inl k
 ·exact yK k1 k2 k3 k4
theorem Ts{E:En}{N:Nat}{t:Ty}{x:List (den t)}{r sz off n:Nat}{a:AV}(hv:V E N (.ss r sz off n) a)(l:LR E.G t x (E.K r) E.G):Nn E.G t (EV E.G t) ((x.drop off).take n) a:=by
 rcases acn hv l with⟨k1,k2,k3,_⟩|⟨id,base,row,ls,k1,k2,_,_,k3,k4,k5⟩
 ·subst k3;exact .inl ⟨k1,by simp⟩
 ·obtain⟨a1,a2,a3⟩:=FN rfl k4 k5 k2 (id:=0)
  refine yK (id:=id) (base:=base+off*size t) (row:=row) ?_ k3 ?_ a3
  ·rw[a1];exact k1
  ·rw[a1];exact a2
theorem Tt{t:Ty}{f:List Sv->Hq->Option (den t×List Sv×Hq)}(hf:uY t f){E:En}{H H':Hq}{h:Hp}{v:Sv}{a:AV}{x:List (den t)}(S:SR E H h)(hv:V E H.next v a)(e:asL t f v H=some (x,H')):
 ∃ E',Fz E E' H H' h/\Nn E'.G t (EV E'.G t) x a:=by
 have xo: ∀ {r sz off n:Nat} {l:List Sv} {E1:En} {H1:Hq} {id:Nat} {row:Rw},Fz E E1 H H1 h->sz=size t->a=.nW id off n sz->E1.G id=some row->Vs E1 H1.next l row.toL->rdX t f n off l H1=some (x,H')-> ∃ E',Fz E E' H H' h/\Nn E'.G t (EV E'.G t) x a:=by
  intro r sz off n l E1 H1 id row F uO ha hg hl e
  unfold rdX at e
  obtain⟨hb,e⟩:=cR e
  have hle:=Nat.le_of_ble_eq_true hb
  rw[cQ]at hle
  rw[qR]at e
  obtain⟨E2,c,d,F2,e1,e2,e3⟩:=Kw hf n E1 H1 h _ _ x H' F.S (hl.drop off) e
  refine⟨E2,F.trans F2,?_⟩
  have hc:=e2.length (EV.length t)
  have hlen:=hl.length
  refine yK (id:=id) (base:=off) (row:=row) (ls:=c) (by rw[e3,ha,uO]) (F2.g _ _ hg) ?_ e2
  refine nU.2 ⟨?_,?_⟩
  ·have:=congrArg List.length e1
   rw[List.length_drop,List.length_append,hc]at this
   rw[<-nR];omega
  ·rw[e1,<-hc,List.take_left]
 cases v with
 |a w=>
  obtain⟨hb,e⟩:=cR e
  cases e
  cases hv with
  |a _=>exact⟨E,Fz.refl S,.inl ⟨hb,rfl⟩⟩
 |c m ty y=>
  cases ty with
  |cp t'=>
   change (match zk t' t with|some ⟨e⟩=>some (e▸y,H)|none=>none)=some (x,H')at e
   split at e
   ·rename_i p hp
    cases p
    cases e
    cases hv with
    |c k _=>obtain⟨b,hb,k⟩:=k;cases hb;exact⟨E,Fz.refl S,k⟩
   ·cases e
  | _=>cases e
 |os r s=>
  change (match H.cw.get r with
   |some (.l t' x)=>(match zk t' t with|some ⟨e⟩=>some (e▸x,ql H r (some (.z t' x)))|none=>none)
   |some (.z t' x)=>(match zk t' t with|some ⟨e⟩=>some (e▸x,H)|none=>none)
   | _=>none)=some (x,H')at e
  split at e
  ·rename_i t' y hr
   split at e
   ·rename_i p hp
    cases p
    cases e
    have F:=zQ S hr .l
    refine⟨_,F,Tp (F.v hv) ?_⟩
    have:=F.S.row r (.z t y) (by rw[ov,if_pos rfl])
    exact this.2
   ·cases e
  ·rename_i t' y hr
   split at e
   ·rename_i p hp
    cases p
    cases e
    exact⟨E,Fz.refl S,Tp hv (S.row _ _ hr).2⟩
   ·cases e
  ·cases e
 |ss r s off n=>
  change (match H.cw.get r with
   |some (.l t' x)=>(match zk t' t with|some ⟨e⟩=>some (((e▸x:List (den t)).drop off).take n,ql H r (some (.z t' x)))|none=>none)
   |some (.z t' x)=>(match zk t' t with|some ⟨e⟩=>some (((e▸x:List (den t)).drop off).take n,H)|none=>none)
   | _=>none)=some (x,H')at e
  split at e
  ·rename_i t' y hr
   split at e
   ·rename_i p hp
    cases p
    cases e
    have F:=zQ S hr .l
    refine⟨_,F,Ts (F.v hv) ?_⟩
    have:=F.S.row r (.z t y) (by rw[ov,if_pos rfl])
    exact this.2
   ·cases e
  ·rename_i t' y hr
   split at e
   ·rename_i p hp
    cases p
    cases e
    exact⟨E,Fz.refl S,Ts hv (S.row _ _ hr).2⟩
   ·cases e
  ·cases e
 |xo r sz off n=>
  change (bif Nat.beq sz (size t)then(match H.cw.get r with
   |some (.o _ l)=>rdX t f n off l (ql H r (some (.zo l)))
   |some (.zo l)=>rdX t f n off l H
   | _=>none)else none)=some (x,H')at e
  obtain⟨hb,e⟩:=cR e
  split at e
  ·rename_i l hr
   have F:=zQ S hr .o
   have k:=(F.S.row r (.zo l) (by rw[ov,if_pos rfl])).2
   obtain⟨id,row,k1,k2,k3⟩:=k
   cases hv with
   |xo h1 h2=>
    have Eo:(E.K r).av=.ref id 0:=k1
    rw[h2]at Eo;cases Eo
    exact xo (r:=r) F (beq_true hb) rfl k2 k3 e
  ·rename_i l hr
   obtain⟨id,row,k1,k2,k3⟩:=(S.row _ _ hr).2
   cases hv with
   |xo h1 h2=>
    rw[h2]at k1;cases k1
    exact xo (r:=r) (Fz.refl S) (beq_true hb) rfl k2 k3 e
  ·cases e
 | _=>cases e
theorem xH: ∀ (t:Ty),uY t (asT t)
 | .int k=>by
  intro E H h l r cs x H' S hv e
  cases l with
  |nil=>cases e
  |cons v l=>
   change (match toN v with|some (k',n)=>(bif qp k k' then some (n,l,H)else none)|none=>none)=some (x,r,H')at e
   split at e
   ·rename_i k' n hn
    obtain⟨hb,e⟩:=cR e
    cases e
    cases hv with
    |cons a b=>
     have:=pE a hn
     rw[oc.1 hb]
     exact⟨E,[_],_,Fz.refl S,rfl,by rw[this];rfl,b⟩
   ·cases e
 | .bool=>by
  intro E H h l r cs x H' S hv e
  cases l with
  |nil=>cases e
  |cons v l=>
   change (match toB v with|some b=>some (b.v,l,H)|none=>none)=some (x,r,H')at e
   split at e
   ·rename_i b hn
    cases e
    cases hv with
    |cons a c=>
     have:=pM a hn
     exact⟨E,[_],_,Fz.refl S,rfl,by rw[this];rfl,c⟩
   ·cases e
 | .str=>by
  intro E H h l r cs x H' S hv e
  cases l with
  |nil=>cases e
  |cons v l=>
   change (match toS v with|some (_,s)=>some (s,l,H)|none=>none)=some (x,r,H')at e
   split at e
   ·rename_i b s hn
    cases e
    cases hv with
    |cons a c=>
     have:=vt a hn
     exact⟨E,[_],_,Fz.refl S,rfl,by rw[this];rfl,c⟩
   ·cases e
 | .cp t=>by
  intro E H h l r cs x H' S hv e
  cases l with
  |nil=>cases e
  |cons v l=>
   change (match asL t (asT t) v H with|some (x,h)=>some (x,l,h)|none=>none)=some (x,r,H')at e
   split at e
   ·rename_i y H1 hy
    cases e
    cases hv with
    |cons a c=>
     obtain⟨E',F,k⟩:=Tt (xH t) S a hy
     exact⟨E',[_],_,F,rfl,⟨_,rfl,k⟩,F.vs c⟩
   ·cases e
 | .pair a b=>by
  intro E H h l r cs x H' S hv e
  change (match asT a l H with|some (x,r,h)=>(match asT b r h with|some (y,r,h)=>some ((x,y),r,h)|none=>none)|none=>none)=some (x,r,H')at e
  split at e
  ·rename_i y q H1 hy
   split at e
   ·rename_i z q2 H2 hz
    cases e
    obtain⟨E1,c1,d1,F1,rfl,v1,w1⟩:=xH a E H h l q cs y H1 S hv hy
    obtain⟨E2,c2,d2,F2,rfl,v2,w2⟩:=xH b E1 H1 h q _ d1 z H' F1.S w1 hz
    exact⟨E2,c1++c2,d2,F1.trans F2,by simp,⟨c1,c2,rfl,EV.mono F2.g _ _ _ v1,v2⟩,w2⟩
   ·cases e
  ·cases e
theorem Kx{t:Ty}{E:En}{H H':Hq}{h:Hp}{v:Sv}{a:AV}{x:List (den t)}(S:SR E H h)(hv:V E H.next v a)(e:lst t v H=some (x,H')):
 ∃ E',Fz E E' H H' h/\Nn E'.G t (EV E'.G t) x a:=Tt (xH t) S hv e
theorem oH{a:AV}(k:nr a=true):zt a=.pO:=by
 cases a with
 |sc v=>have k':xq (.sc v)=true:=k;unfold zt;rw[k'];rfl
 |pO=>rfl
 |ur=>rfl
 | _=>cases k
theorem Ep{E:En}{H:Hq}{h:Hp}(S:SR E H h){t:Ty}{x:List (den t)}{a:AV}(k:Nn E.G t (EV E.G t) x a): ∃ cs,nC h (zt a)=some (x.length,cs)/\ru (EV E.G t) x cs:=by
 rcases k with⟨k,rfl⟩|⟨ls,k1,k2⟩
 ·refine⟨[],?_,rfl⟩
  rw[oH k];rfl
 ·rcases k2 with rfl|⟨id,base,row,rfl,g,s⟩
  ·exact⟨ls,rfl,k1⟩
  ·refine⟨ls,?_,k1⟩
   show(match h.cw.get id with|some cs=>(match cs.ri base (Nat.mul x.length (size t))with|some l=>some (x.length,l)|none=>none)|none=>none)=_
   rw[(S.g _ _ g).2.1]
   have s':row.ri base (Nat.mul x.length (size t))=some ls:=s
   simp only[s']
def aiO:AV->Option Nat
 | .nW _ _ n _=>some n
 | .rJ n _=>some n
 | .pO=>some 0
 | _=>none
theorem Nq{E:En}{H:Hq}{h:Hp}(S:SR E H h){v m:Sv}{a:AV}(hv:V E H.next v a)(e:aeg v H=some m): ∃ n:Nat,toN m=some (.i64,(n:Int))/\V E H.next m (.int .i64 n)/\aiO (zt a)=some n/\(nr a=true->n=0):=by
 have row: ∀ {r sz:Nat} {t:Ty} {x:List (den t)} {S':Nat->Option Rw},V E H.next (.os r sz) a->LR E.G t x (E.K r) S'-> ∃ n:Nat,toN (.c 0 (.int .i64) (Int.ofNat x.length))=some (.i64,(n:Int))/\V E H.next (.c 0 (.int .i64) (Int.ofNat x.length)) (.int .i64 n)/\aiO (zt a)=some n/\(nr a=true->n=0):=by
  intro r sz t x S' hv l
  refine⟨x.length,rfl,oJ,?_⟩
  rcases HN hv l with⟨k,rfl⟩|⟨id,base,row,ls,k1,_⟩
  ·rw[oH k];exact⟨rfl,fun _=>rfl⟩
  ·rw[k1];exact⟨rfl,fun k=>by cases k⟩
 cases v with
 |a w=>
  obtain⟨hb,e⟩:=cR e
  cases e
  cases hv with
  |a _=>exact⟨0,rfl,.i,by rw[oH hb];rfl,fun _=>rfl⟩
 |c q ty x=>
  cases ty with
  |cp t=>
   cases e
   refine⟨x.length,rfl,oJ,?_⟩
   cases hv with
   |c k _=>
    obtain⟨b,hb,k⟩:=k;cases hb
    rcases k with⟨k,hx⟩|⟨ls,k1,k2|⟨_,_,_,k2,_⟩⟩
    ·rw[oH k];subst hx;exact⟨rfl,fun _=>rfl⟩
    ·rw[k2];exact⟨rfl,fun k=>by cases k⟩
    ·rw[k2];exact⟨rfl,fun k=>by cases k⟩
  | _=>cases e
 |os r s=>
  change (match H.cw.get r with|some (.l _ x)=>some (Sv.c 0 (.int .i64) (Int.ofNat x.length))|some (.z _ x)=>some (Sv.c 0 (.int .i64) (Int.ofNat x.length))| _=>none)=some m at e
  split at e
  ·rename_i hr;cases e;exact row hv (S.row _ _ hr).2
  ·rename_i hr;cases e;exact row hv (S.row _ _ hr).2
  ·cases e
 |ss r s off n=>
  cases e
  refine⟨n,rfl,oJ,?_⟩
  cases hv with
  |se h1 h2 h3 h4=>rw[oH h2];exact⟨rfl,fun _=>rfl⟩
  |ss h1 h2 h3=>exact⟨rfl,fun k=>by cases k⟩
 |xo r s off n=>
  cases e
  cases hv with
  |xo _ _=>exact⟨n,rfl,.i,rfl,fun k=>by cases k⟩
 | _=>cases e
theorem YW(a:Od):og (mQ a) (fun _ _=>BP (cI a)):=mX (by
 intro E T t H h v T' H' hT hH e
 unfold mQ at e
 split at e
 ·rename_i w hw
  obtain⟨e1,rfl,rfl⟩:=tp e
  obtain⟨c,hc,oN⟩:=uf hT hw
  obtain⟨n,h1,h2,h3,_⟩:=Nq hH oN e1
  refine⟨rfl,rfl,_,?_,h2⟩
  unfold BP
  rw[hc]
  generalize zt c=y at h3 ⊢
  cases y<;>first|(cases h3;done)|(cases h3;rfl)
 ·cases e)
end Lf
end Go.Ab

noncomputable section
namespace Go.Ab
namespace Lf
theorem Cz(k:IntKind):qp k k=true:=oc.2 rfl
theorem nJ{f s:AV->AV->Option AV}{x y r:AV}(h:f x y=some r):AE f s x y=some r:=by unfold AE;rw[h]
theorem pq{f:IntKind->Int->Int->Option AV}(k:IntKind)(a b:Int):tE f (.int k a) (.int k b)=f k a b:=by show(bif qp k k then _ else _)=_;rw[Cz];rfl
theorem FO(op:BinOp)(hop:op=.and∨op=.or∨op=.xor)(f:Nat->Nat->Nat)(k:IntKind)(a b:Int): ∃ r,DV op f (.int k a) (.int k b)=some (.int k r):=by
 unfold DV
 rw[pq]
 have hr: ∃ r,BC (rF (Op.intBits op k a b))=some (.int k r):=by rcases hop with rfl|rfl|rfl<;>exact⟨_,rfl⟩
 split
 ·rename_i a b
  cases hc:(Nat.blt a (lim k)&&Nat.blt b (lim k))with
  |true=>exact⟨_,rfl⟩
  |false=>exact hr
 ·exact hr
theorem yL{o:Option AV}{k:IntKind}(h: ∃ r,o=some (.int k r)):o=some (.int k (intOf o)):=by obtain⟨r,h⟩:=h;rw[h];rfl
theorem aiP{f:BF}{g:IntKind->Int->Int->Int}(h:SW f=.ar g)(k:IntKind)(a b:Int):f.f (.int k a) (.int k b)=some (.int k (g k a b)):=by
 cases f<;>first|(cases h;done)|skip
 case add=>cases h;exact nJ (pq k a b)
 case sub=>cases h;exact nJ (pq k a b)
 case mul=>cases h;exact nJ (pq k a b)
 case and=>cases h;exact nJ (yL (FO .and (.inl rfl) Nat.land k a b))
 case or=>cases h;exact nJ (yL (FO .or (.inr (.inl rfl)) Nat.lor k a b))
 case xor=>cases h;exact nJ (yL (FO .xor (.inr (.inr rfl)) Nat.xor k a b))
 case andNot=>
  cases h
  have hr: ∃ r,BC (rF (Op.intBits .andNot k a b))=some (.int k r):=⟨_,rfl⟩
  refine yL (o:=sI (.int k a) (.int k b)) ?_
  unfold sI;rw[pq];exact hr
theorem aiQ{f:BF}{g:IntKind->Int->Int->Int}(h:SW f=.dv g)(k:IntKind)(a b:Int)(hb: ¬ b=0):f.f (.int k a) (.int k b)=some (.int k (g k a b)):=by
 have hz:eqI b 0=false:=by cases e:eqI b 0 with
  |false=>rfl
  |true=>exact(hb (oU.1 e)).elim
 cases f<;>first|(cases h;done)|skip
 case quo=>cases h;exact nJ (by unfold Xi;rw[pq,hz];rfl)
 case rem=>cases h;exact nJ (by unfold Xj;rw[pq,hz];rfl)
theorem aiR{f:BF}{g:IntKind->Int->Int->Int}(h:SW f=.sh g)(k k':IntKind)(a b:Int)(hb:0<=b):f.f (.int k a) (.int k' b)=some (.int k (g k a b)):=by
 obtain⟨n,rfl⟩:=Int.eq_ofNat_of_zero_le hb
 cases f<;>first|(cases h;done)|skip
 case shl=>cases h;have q:JI (.int k a) (.int k' (Int.ofNat n))=some (.int k (uE k a (Int.ofNat n))):=rfl;show AE JI Gz (.int k a) (.int k' (Int.ofNat n))=_;exact nJ q
 case shr=>cases h;have q:JJ (.int k a) (.int k' (Int.ofNat n))=some (.int k (oP k a (Int.ofNat n))):=rfl;show AE JJ Gz (.int k a) (.int k' (Int.ofNat n))=_;exact nJ q
theorem aiS{f:BF}{g:Int->Int->Bool}(h:SW f=.cm g)(k:IntKind)(a b:Int):f.f (.int k a) (.int k b)=some (.bool (g a b)):=by
 cases f<;>first|(cases h;done)|skip
 case lss=>cases h;refine nJ ?_;unfold adt;rw[pq,qe]
 case leq=>cases h;refine nJ ?_;unfold adu;rw[pq,qe];simp[<-Int.not_lt]
 case gtr=>cases h;refine nJ ?_;unfold adv;rw[pq,qe]
 case geq=>cases h;refine nJ ?_;unfold adw;rw[pq,qe];simp[<-Int.not_lt]
 case eqI neg=>
  have he:eqI a b=decide (a=b):=by
   cases e:eqI a b with
   |true=>exact(decide_eq_true (oU.1 e)).symm
   |false=>refine(decide_eq_false fun q=>?_).symm;rw[oU.2 q]at e;cases e
  cases neg with
  |false=>cases h;refine nJ ?_;unfold Q6;rw[pq,he];rfl
  |true=>cases h;refine nJ ?_;unfold Q6;rw[pq,he];rfl
section
variable {E:En}{N:Nat}
theorem YX{i:Bool}{x y:Sv}{c d:AV}{r:LB}(hx:V E N x c)(hy:V E N y d)(h:YI i x y=some r):eq1 i c d=some r.v:=by
 unfold YI at h
 split at h
 ·split at h
  ·obtain⟨hk,h⟩:=cR h
   cases h
   cases hx;cases hy
   show(bif qp _ _ then some (eqI _ _)else none)=_
   rw[hk];rfl
  ·split at h
   ·rename_i k a k' b h1 h2
    obtain⟨hk,h⟩:=cR h
    cases h
    rw[pE hx h1,pE hy h2]
    show(bif qp k k' then some (eqI a b)else none)=_
    rw[hk]
    show some (eqI a b)=some (decide (a=b))
    congr 1
    cases e:eqI a b with
    |true=>exact(decide_eq_true (oU.1 e)).symm
    |false=>refine(decide_eq_false fun q=>?_).symm;rw[oU.2 q]at e;cases e
   ·cases h
 ·split at h
  ·rename_i h1 h2;cases h;rw[pM hx h1,pM hy h2];rfl
  ·rename_i a b h1 h2;cases h;rw[pM hx h1,pM hy h2];rfl
  ·cases h
theorem LB.Tu(a b:LB):(a.and b).v=(a.v&&b.v):=by
 cases a with
 |l a=>cases a<;>cases b<;>rfl
 |t a=>cases b with
  |l b=>cases b<;>simp[LB.and,LB.v]
  |t b=>rfl
theorem Nr: ∀ {l:List Bool} {xs ys:List Sv} {cs ds:List AV} {r:LB},Vs E N xs cs->Vs E N ys ds->ad' l xs ys=some r->Dp l cs ds=some r.v
 | [],_,_,_,_,_,_,_,h=>by cases h;rfl
 |i::l,[],_,_,_,_,_,_,h=>by cases h
 |i::l,_::_,[],_,_,_,_,_,h=>by cases h
 |i::l,x::xs,y::ys,c'::l1,d'::l2,r,.cons hx X6,.cons hy hys,h=>by
  change (match YI i x y with|some c=>(match ad' l xs ys with|some d=>some (c.and d)|none=>none)|none=>none)=some r at h
  split at h
  ·rename_i c hc
   split at h
   ·rename_i d hd
    cases h
    have h1:=YX hx hy hc
    have h2:=Nr X6 hys hd
    show(match eq1 i c' d' with|none=>none|some c=>Bool.rec (some false) (Dp l l1 l2) c)=_
    rw[h1,LB.Tu]
    simp only
    cases c.v with
    |true=>simp[h2]
    |false=>rfl
   ·cases h
  ·cases h
theorem aew(neg:Bool)(c:LB):(aea neg c).v=bif neg then !c.v else c.v:=by cases neg<;>cases c<;>rfl
theorem Ns{y:Sv}{d:AV}(hy:V E N y d)(h:SY y=true):(∃ i o,d=.ref i o)∨ ∃ l,d=.py l:=by
 cases hy<;>first|(cases h;done)|exact .inl ⟨_,_,rfl⟩|exact .inr ⟨_,rfl⟩
theorem YY{f:BF}{x y v:Sv}{c d:AV}(hx:V E N x c)(hy:V E N y d)(h:(aeb f x y).val=some v): ∃ r,f.f c d=some r/\V E N v r:=by
 unfold aeb at h
 split at h
 ·split at h
  ·rename_i hr;cases h;cases hx;cases hy;exact⟨_,hr,.i⟩
  ·rename_i hr;cases h;cases hx;cases hy;exact⟨_,hr,.b⟩
  ·cases h
 ·split at h
  ·rename_i k a k' b h1 h2
   rw[pE hx h1,pE hy h2]
   split at h
   ·rename_i g hg
    cases hk:qp k k' with
    |false=>rw[hk]at h;cases h
    |true=>
     rw[hk]at h;cases h
     have:=oc.1 hk;subst this
     exact⟨_,aiP hg k a b,oJ⟩
   ·rename_i g hg
    cases hk:qp k k' with
    |false=>rw[hk]at h;cases h
    |true=>
     rw[hk]at h
     have:=oc.1 hk;subst this
     simp only[cond_true]at h
     have key: ¬ b=0/\v=.c 0 (.int k) (g k a b):=by
      cases hl:SX y with
      |true=>
       rw[hl]at h
       simp only[cond_true]at h
       cases hz:eqI b 0 with
       |true=>rw[hz]at h;cases h
       |false=>rw[hz]at h;cases h;exact⟨(fun q=>by rw[oU.2 q]at hz;cases hz),rfl⟩
      |false=>
       rw[hl]at h
       obtain⟨h1,h2⟩:=T.cP h
       cases h2
       exact⟨by simpa using h1,rfl⟩
     rw[key.2]
     exact⟨_,aiQ hg k a b key.1,oJ⟩
   ·rename_i g hg
    have key:0<=b/\v=.c 0 (.int k) (g k a b):=by
     cases hl:SX y with
     |true=>
      rw[hl]at h
      simp only[cond_true]at h
      cases hz:r7 b 0 with
      |true=>rw[hz]at h;cases h
      |false=>rw[hz]at h;cases h;exact⟨X4.1 hz,rfl⟩
     |false=>
      rw[hl]at h
      obtain⟨h1,h2⟩:=T.cP h
      cases h2
      exact⟨by simpa using h1,rfl⟩
    rw[key.2]
    exact⟨_,aiR hg k k' a b key.1,oJ⟩
   ·rename_i g hg
    cases hk:qp k k' with
    |false=>rw[hk]at h;cases h
    |true=>
     rw[hk]at h;cases h
     have:=oc.1 hk;subst this
     exact⟨_,aiS hg k a b,sN⟩
   ·cases h
  ·cases h
theorem aex{f:BF}{x y v:Sv}{c d:AV}(hx:V E N x c)(hy:V E N y d)(h:(sBn f x y).val=some v): ∃ r,f.f c d=some r/\V E N v r:=by
 cases f with
 |eqB neg=>
  simp only[sBn]at h
  split at h
  ·rename_i h1 h2;cases h;rw[pM hx h1,pM hy h2];exact⟨_,rfl,.b⟩
  ·rename_i h1 h2;cases h;rw[pM hx h1,pM hy h2];cases neg<;>exact⟨_,rfl,sN⟩
  ·cases h
 |Xo neg=>
  simp only[sBn]at h
  split at h
  ·rename_i h1 h2;cases h;rw[vt hx h1,vt hy h2];exact⟨_,rfl,.b⟩
  ·rename_i h1 h2;cases h;rw[vt hx h1,vt hy h2];cases neg<;>exact⟨_,rfl,sN⟩
  ·cases h
 |eqP neg=>
  simp only[sBn]at h
  split at h
  ·cases h;cases hx;cases hy;exact⟨_,rfl,.b⟩
  ·cases hp:SY y with
   |false=>rw[hp]at h;cases h
   |true=>
    rw[hp]at h;cases h
    cases hx
    rcases Ns hy hp with⟨_,_,rfl⟩|⟨_,rfl⟩<;>exact⟨_,rfl,.b⟩
  ·cases hp:SY x with
   |false=>rw[hp]at h;cases h
   |true=>
    rw[hp]at h;cases h
    cases hy
    rcases Ns hx hp with⟨_,_,rfl⟩|⟨_,rfl⟩<;>exact⟨_,rfl,.b⟩
  ·cases h
 |eqN neg=>
  simp only[sBn]at h
  split at h
  ·rename_i v' w
   cases hn:isNil w with
   |false=>rw[hn]at h;cases h
   |true=>
    rw[hn]at h
    simp only[cond_true]at h
    split at h
    ·rename_i b hb
     cases h
     cases hx;cases hy
     refine⟨.bool (bif neg then !b else b),?_,.b⟩
     show(bif isNil _ then Option.rec none (fun b=>some (.bool (bif neg then !b else b))) (ET _)else none:Option AV)=_
     rw[hn,hb];rfl
    ·cases h
  ·rename_i w
   cases hn:isNil w with
   |false=>rw[hn]at h;cases h
   |true=>
    rw[hn]at h
    cases h
    cases hx;cases hy
    refine⟨.bool neg,?_,.b⟩
    simp only[BF.f,BE,hn,cond_true]
    cases neg<;>rfl
  ·rename_i t x w
   cases hn:isNil w with
   |false=>rw[hn]at h;cases h
   |true=>
    rw[hn]at h
    obtain⟨hl,h⟩:=Lf.T.cP h
    cases h
    cases hy
    refine⟨.bool neg,?_,.b⟩
    simp only[BF.f,BE,hn,cond_true]
    cases hx with
    |c k _=>
     obtain⟨a,ea,k⟩:=k
     cases ea
     have hx0: ¬ x.length=0:=fun e=>by rw[e]at hl;cases hl
     rcases k with⟨_,k⟩|⟨ls,_,k|⟨id,base,row,k,_⟩⟩
     ·subst k;exact(hx0 rfl).elim
     ·subst k
      have hb:Nat.beq x.length 0=false:=by revert hl;cases Nat.beq x.length 0<;>simp
      simp only[ET,isNil,cond_false,hb]
      cases neg<;>rfl
     ·subst k
      simp only[ET,isNil,cond_false]
      cases neg<;>rfl
  ·cases h
 |tD neg l=>
  simp only[sBn]at h
  split at h
  ·rename_i xs ys
   split at h
   ·rename_i r hr
    cases h
    cases hx with
    |ag hx=>cases hy with
     |ag hy=>
      refine⟨.bool (bif neg then !r.v else r.v),?_,by have:=aer (E:=E) (N:=N) (c:=aea neg r);rw[aew]at this;exact this⟩
      show(match Dp l _ _ with|some c=>some (AV.bool (bif neg then !c else c))|none=>none)=_
      rw[Nr hx hy hr]
   ·cases h
  ·cases h
 | _=>exact YY hx hy h
theorem YZ{f:UF}{x v:Sv}{c:AV}(hx:V E N x c)(h:aed f x=some v): ∃ r,f.f c=some r/\V E N v r:=by
 unfold aed at h
 split at h
 ·split at h
  ·rename_i h1;cases h;rw[pM hx h1];exact⟨_,rfl,.b⟩
  ·rename_i h1;cases h;rw[pM hx h1];exact⟨_,rfl,sN⟩
  ·cases h
 ·split at h
  ·cases h;cases hx;exact⟨_,rfl,.i⟩
  ·cases h;rw[pE hx rfl];exact⟨_,rfl,oJ⟩
  ·cases h
 ·split at h
  ·cases h;cases hx;exact⟨_,rfl,.i⟩
  ·cases h;rw[pE hx rfl];exact⟨_,rfl,oJ⟩
  ·cases h
 ·split at h
  ·cases h;cases hx;exact⟨_,rfl,.i⟩
  ·cases h;rw[pE hx rfl];exact⟨_,rfl,oJ⟩
  ·cases h
end
theorem Y0(f:BF)(a b:Od):og (YJ f a b) (fun _ _=>vz f.f (cI a) (cI b)):=mX (by
 intro E T t H h v T' H' hT hH e
 unfold YJ at e
 split at e
 ·rename_i x hx
  split at e
  ·rename_i y hy
   obtain⟨w,e1,e2⟩:=Lf.T.mZ e
   obtain⟨rfl,rfl,rfl⟩:=cB e2
   obtain⟨c,hc,oN⟩:=cG hT hx
   obtain⟨d,hd,Xc⟩:=cG hT hy
   obtain⟨r,hr,Sn⟩:=aex oN Xc e1
   refine⟨rfl,rfl,r,?_,Sn⟩
   show(Option.rec Go.Ab.Ro.bad (fun a'=>Option.rec Go.Ab.Ro.bad (fun b'=>Option.rec Go.Ab.Ro.bad (fun v=>Go.Ab.Ro.ok v h) (f.f a' b')) (cI b t)) (cI a t):Go.Ab.Ro)=_
   rw[hc,hd]
   simp only[hr]
  ·cases e
 ·cases e)
theorem aey(f:UF)(a:Od):og (sUn f a) (fun _ _=>GP f.f (cI a)):=mX (by
 intro E T t H h v T' H' hT hH e
 unfold sUn at e
 split at e
 ·rename_i x hx
  obtain⟨e1,rfl,rfl⟩:=tp e
  obtain⟨c,hc,oN⟩:=cG hT hx
  obtain⟨r,hr,Sn⟩:=YZ oN e1
  refine⟨rfl,rfl,r,?_,Sn⟩
  show(Option.rec Go.Ab.Ro.bad (fun a'=>Option.rec Go.Ab.Ro.bad (fun v=>Go.Ab.Ro.ok v h) (f.f a')) (cI a t):Go.Ab.Ro)=_
  rw[hc]
  simp only[hr]
 ·cases e)
theorem Tv(a:Od):og (Ni a) (fun _ _=>vm (cI a)):=mX (by
 intro E T t H h v T' H' hT hH e
 unfold Ni at e
 split at e
 ·rename_i x hx
  obtain⟨c,hc,oN⟩:=cG hT hx
  split at e
  ·rename_i s hs
   obtain⟨rfl,rfl,rfl⟩:=cB e
   have:=vt oN hs;subst this
   exact⟨rfl,rfl,_,by unfold vm;rw[hc],.i⟩
  ·rename_i s hs
   obtain⟨rfl,rfl,rfl⟩:=cB e
   have:=vt oN hs;subst this
   exact⟨rfl,rfl,_,by unfold vm;rw[hc],oJ⟩
  ·cases e
 ·cases e)
theorem Y1(a b:Od){t:Tm}{h:Hp}{k:IntKind}{m n:Int}(h1:cI a t=some (.int k m))(h2:cI b t=some (.int k n)):Dr (cI a) (cI b) t h=.ok (.int k (bif r7 n m then n else m)) h:=by
 unfold Dr vz
 rw[h1,h2]
 have q:=pq (f:=fun k a b=>some (.int k (bif r7 b a then b else a))) k m n
 simp only[nJ q]
theorem Y2(a b:Od){t:Tm}{h:Hp}{k:IntKind}{m n:Int}(h1:cI a t=some (.int k m))(h2:cI b t=some (.int k n)):Ds (cI a) (cI b) t h=.ok (.int k (bif r7 m n then n else m)) h:=by
 unfold Ds vz
 rw[h1,h2]
 have q:=pq (f:=fun k a b=>some (.int k (bif r7 a b then b else a))) k m n
 simp only[nJ q]
theorem aiT(m n:Int):(bif r7 n m then n else m)=min m n:=by
 rw[qe]
 by_cases q:n<m
 ·simp only[decide_eq_true q,cond_true];omega
 ·simp only[decide_eq_false q,cond_false];omega
theorem aiU(m n:Int):(bif r7 m n then n else m)=max m n:=by
 rw[qe]
 by_cases q:m<n
 ·simp only[decide_eq_true q,cond_true];omega
 ·simp only[decide_eq_false q,cond_false];omega
theorem Nt{mx:Bool}{a b:Od}{E:En}{T T':Tq}{t:Tm}{H H':Hq}{v:Sv}(hT:TV E H.next T t)(e:(Kq mx a b T H).val=some (v,T',H')):
 H'=H/\T'=T/\ ∃ k m n,cI a t=some (.int k m)/\cI b t=some (.int k n)/\V E H.next v (.int k (bif mx then(bif r7 m n then n else m)else(bif r7 n m then n else m))):=by
 unfold Kq at e
 split at e
 ·rename_i x hx
  split at e
  ·rename_i y hy
   obtain⟨c,hc,oN⟩:=cG hT hx
   obtain⟨d,hd,Xc⟩:=cG hT hy
   split at e
   ·rename_i k m k' n
    cases hk:qp k k' with
    |false=>rw[hk]at e;cases e
    |true=>
     rw[hk]at e
     obtain⟨rfl,rfl,rfl⟩:=cB e
     have:=oc.1 hk;subst this
     cases oN;cases Xc
     exact⟨rfl,rfl,k,m,n,hc,hd,.i⟩
   ·split at e
    ·rename_i k m k' n h1 h2
     cases hk:qp k k' with
     |false=>rw[hk]at e;cases e
     |true=>
      rw[hk]at e
      obtain⟨rfl,rfl,rfl⟩:=cB e
      have:=oc.1 hk;subst this
      rw[pE oN h1]at hc
      rw[pE Xc h2]at hd
      refine⟨rfl,rfl,k,m,n,hc,hd,?_⟩
      cases mx with
      |true=>simp only[cond_true,aiU];exact oJ
      |false=>simp only[cond_false,aiT];exact oJ
    ·cases e
  ·cases e
 ·cases e
theorem Y3(a b:Od):og (Kq false a b) (fun _ _=>Dr (cI a) (cI b)):=mX (by
 intro E T t H h v T' H' hT hH e
 obtain⟨rfl,rfl,k,m,n,h1,h2,hv⟩:=Nt hT e
 exact⟨rfl,rfl,_,Y1 a b h1 h2,hv⟩)
theorem Y4(a b:Od):og (Kq true a b) (fun _ _=>Ds (cI a) (cI b)):=mX (by
 intro E T t H h v T' H' hT hH e
 obtain⟨rfl,rfl,k,m,n,h1,h2,hv⟩:=Nt hT e
 exact⟨rfl,rfl,_,Y2 a b h1 h2,hv⟩)
end Lf
end Go.Ab

noncomputable section
namespace Go.Ab
namespace Lf
theorem HO{agg:Bool}{row:Rw}{b k o sz:Nat}{L:List AV}{c:AV}(s:row.ri b k=some L)(uO:0<sz)(h:part agg L o sz=some c):xe agg row (b+o) sz=some c:=by
 unfold part at h
 split at h
 ·cases h
 ·rename_i q hq
  obtain⟨rfl,hl⟩:=sJ hq
  obtain⟨s1,s2⟩:=nU.1 s
  have hL:L.length=k:=by rw[s2,List.length_take,List.length_drop,nR];omega
  have hb:o+sz<=k:=by rw[List.length_take,List.length_drop]at hl;omega
  unfold xe
  rw[ug s hb]
  exact h
theorem Tw{agg:Bool}{l r:List AV}{sz:Nat}{c:AV}(h:part agg l 0 sz=some c):part agg (l++r) 0 sz=some c:=by
 unfold part at h
 split at h
 ·cases h
 ·rename_i q hq
  obtain⟨rfl,hl⟩:=sJ hq
  rw[List.drop_zero]at h hl
  have:List.take sz (l++r)=List.take sz l:=List.take_append_of_le_length (by rw[List.length_take]at hl;omega)
  unfold part
  rw[xG (by rw[List.drop_zero,this,hl]),List.drop_zero,this]
  exact h
theorem zR{E:En}{H:Hq}{h:Hp}(S:SR E H h){r:Nat}{l:List Sv}(e:Cr H r=some l): ∃ id row,(E.K r).av=.ref id 0/\h.cw.get id=some row/\Vs E H.next l row.toL:=by
 unfold Cr at e
 split at e
 ·rename_i hr;cases e
  obtain⟨id,row,a,b,c,_⟩:=(S.row _ _ hr).2
  exact⟨id,row,a,b,c⟩
 ·rename_i hr;cases e
  obtain⟨id,row,a,b,c⟩:=(S.row _ _ hr).2
  exact⟨id,row,a,(S.g _ _ b).2.1,c⟩
 ·cases e
theorem yM{E:En}{N:Nat}{t:Ty}{x:List (den t)}{base i:Nat}{row:Rw}{ls:List AV}(hi:i<x.length)(s:row.ri base (x.length*size t)=some ls)(e:ru (EV E.G t) x ls):
 EV E.G t (x.getD i (cE t)) ((ls.drop (i*size t)).take (size t))/\Vs E N (ud t (x.getD i (cE t))) ((ls.drop (i*size t)).take (size t))/\row.ri (base+i*size t) (size t)=some ((ls.drop (i*size t)).take (size t)):=by
 have h1:=e.get (EV.length t) hi (cE t)
 refine⟨h1,wH rfl t _ _ h1,ug s ?_⟩
 have:=Nat.mul_le_mul_right (size t) (Nat.succ_le_of_lt hi)
 rw[Nat.succ_mul]at this;exact this
theorem Tx{E:En}{H:Hq}{h:Hp}(S:SR E H h){r sz i id base n:Nat}{l:List Sv}(e:SZ H r sz i=some l)(hk:(E.K r).av=.nW id base n sz)(hi:i<n):
 ∃ row L,h.cw.get id=some row/\Vs E H.next l L/\row.ri (base+i*sz) sz=some L:=by
 have key: ∀ {t:Ty} {x:List (den t)} {S':Nat->Option Rw},(∀ row,S' id=some row->h.cw.get id=some row)->LR E.G t x (E.K r) S'->(bif Nat.beq sz (size t)then some (ud t (x.getD i (cE t)))else none)=some l-> ∃ row L,h.cw.get id=some row/\Vs E H.next l L/\row.ri (base+i*sz) sz=some L:=by
  intro t x S' hs q e
  obtain⟨hb,e⟩:=cR e
  cases e
  have hz:=beq_true hb
  rcases q.2 with⟨k,_⟩|⟨Am,To,row,ls,k1,k2,k3,k4⟩
  ·rw[hk]at k;cases k
  ·rw[hk]at k1
   injection k1 with a1 a2 a3 a4
   subst a1;subst a2
   rw[<-q.1]at a3 k3
   rw[a3]at hi
   obtain⟨_,e2,e3⟩:=yM (N:=H.next) hi k3 k4
   exact⟨row,_,hs _ k2,e2,by rw[hz];exact e3⟩
 unfold SZ at e
 split at e
 ·rename_i t x hr;exact key (fun _ e=>e) (S.row _ _ hr).2 e
 ·rename_i t x hr;exact key (fun _ e=>(S.g _ _ e).2.1) (S.row _ _ hr).2 e
 ·cases e
theorem CA{E:En}{H:Hq}{h:Hp}(S:SR E H h){sz:Nat}{agg:Bool}{p v:Sv}{a:AV}(hv:V E H.next p a)(e:Ei sz agg p H=some v): ∃ c,BK h sz agg a=some c/\V E H.next v c:=by
 unfold Ei at e
 have uO:=cM.1 (cR e).1
 replace e:=(cR e).2
 split at e
 ·rename_i r o
  split at e
  ·rename_i l hl
   obtain⟨id,row,k1,k2,k3⟩:=zR S hl
   cases hv with
   |rf h1 h2=>
    rw[k1]at h2;cases h2
    obtain⟨c,c1,c2⟩:=uF k3 e
    refine⟨c,?_,c2⟩
    show(match h.cw.get id with|some cs=>xe agg cs o sz|none=>none)=_
    rw[k2];exact Ti uO c1
  ·cases e
 ·rename_i r s i o
  split at e
  ·rename_i l hl
   cases hv with
   |re h1 h2 h3=>
    rename_i id base n
    obtain⟨row,L,k1,k2,k3⟩:=Tx S hl h2 h3
    obtain⟨c,c1,c2⟩:=uF k2 e
    refine⟨c,?_,c2⟩
    show(match h.cw.get id with|some cs=>xe agg cs (base+i*s+o) sz|none=>none)=_
    rw[k1];exact HO k3 uO c1
  ·cases e
 ·cases hv with
  |zp k=>
   obtain⟨c,c1,c2⟩:=uF k e
   exact⟨c,Tw c1,c2⟩
  |zr k g s=>
   rename_i l' id off row
   obtain⟨c,c1,c2⟩:=uF k e
   refine⟨c,?_,c2⟩
   show(match h.cw.get id with|some cs=>xe agg cs off sz|none=>none)=_
   rw[(S.g _ _ g).2.1]
   have:=HO s uO c1
   exact this
 ·cases e
theorem Tz(sz:Nat)(agg:Bool)(a:Od):og (Ng sz agg a) (fun _ _=>rL sz agg (cI a)):=mX (by
 intro E T t H h v T' H' hT hH e
 unfold Ng at e
 split at e
 ·rename_i p hp
  obtain⟨e1,rfl,rfl⟩:=tp e
  obtain⟨c,hc,oN⟩:=cG hT hp
  obtain⟨r,h1,h2⟩:=CA hH oN e1
  refine⟨rfl,rfl,r,?_,h2⟩
  unfold rL
  rw[hc]
  simp only[h1]
 ·cases e)
theorem FP{E:En}{H:Hq}{h:Hp}(S:SR E H h){r id:Nat}{R R':Row}{Y5:Rw}(hr:H.cw.get r=some R)(lv:R.live=true)(lv':R'.live=true)(qd:r9 (E.K r).av=some id)
 (hR:RV E H.next (qx h id (some Y5)) (E.K r) R'):SR E (ql H r (some R')) (qx h id (some Y5))/\Nx E E H (ql H r (some R')) h (qx h id (some Y5)):=by
 have ow: ∀ q,own (ql H r (some R')) q->own H q:=by
  rintro q ⟨Q,a,b⟩
  rw[ov]at a
  split at a
  ·rename_i e;rw[e];exact⟨R,hr,lv⟩
  ·exact⟨Q,a,b⟩
 refine⟨⟨?_,?_,?_,?_⟩,⟨Bh.refl _ _,Nat.le_refl _,Nat.le_refl _,fun q id o e=>.inl ⟨q,ow q o,e⟩,fun _ _ e=>.inl e,fun i hi hn=>?_⟩⟩
 ·intro q Q hq
  rw[ov]at hq
  split at hq
  ·rename_i e;subst e;cases hq;exact⟨(S.row _ _ hr).1,hR⟩
  ·rename_i ne
   refine⟨(S.row _ _ hq).1,(S.row _ _ hq).2.mono (Bh.refl _ _) (Nat.le_refl _) fun lq i row e1 e2=>?_⟩
   rw[qG,if_neg fun ei=>ne (S.inj q r id ⟨Q,hq,lq⟩ ⟨R,hr,lv⟩ (by rw[e1,ei]) qd)]
   exact e2
 ·exact fun a b i oa ob ea eb=>S.inj a b i (ow a oa) (ow b ob) ea eb
 ·exact fun a i oa ea=>S.lt a i (ow a oa) ea
 ·intro i row e
  obtain⟨a,b,c⟩:=S.g i row e
  refine⟨a,?_,fun q oq=>c q (ow q oq)⟩
  rw[qG,if_neg fun ei=>c r ⟨R,hr,lv⟩ (by rw[ei];exact qd)]
  exact b
 ·rw[qG,if_neg fun ei=>hn r ⟨R,hr,lv⟩ (by rw[ei];exact qd)]
theorem Bi(L B v:List AV)(o:Nat)(h:o+v.length<=L.length): ∀ (A:List AV),put (A++(L++B)) (A.length+o) v=A++(put L o v++B)
 | []=>by
  simp only[List.nil_append,List.length_nil,Nat.zero_add]
  rw[put_eq,put_eq,List.take_append_of_le_length (by omega),List.drop_append_of_le_length h]
  simp
 |a::A=>by
  have:=Bi L B v o h A
  rw[put_eq]at this ⊢
  rw[List.length_cons,show A.length+1+o=A.length+o+1 by omega,List.cons_append,List.take_succ_cons,show A.length+o+1+v.length=A.length+o+v.length+1 by omega,List.drop_succ_cons,List.cons_append,this]
  rfl
theorem Bj(l:List AV)(o:Nat)(v:List AV)(h:o+v.length<=l.length):(put l o v).length=l.length:=by
 rw[put_eq,List.length_append,List.length_append,List.length_take,List.length_drop];omega
theorem PV{G:Nat->Option Rw}{t:Ty}{x:List (den t)}{ls:List AV}(e:ru (EV G t) x ls){i:Nat}(hi:i<x.length):ls=ls.take (i*size t)++((ls.drop (i*size t)).take (size t)++ls.drop (i*size t+size t)):=by
 rw[<-List.drop_drop,List.take_append_drop,List.take_append_drop]
theorem Y6{G:Nat->Option Rw}{t:Ty}{x:List (den t)}{ls:List AV}(e:ru (EV G t) x ls){i:Nat}(hi:i<x.length){y:den t}{c:List AV}(hy:EV G t y c):ru (EV G t) (x.set i y) (ls.take (i*size t)++(c++ls.drop (i*size t+size t))):=by
 rw[List.set_eq_take_append_cons_drop,if_pos hi]
 have h1:=e.take (EV.length t) i
 have h2:=e.drop (EV.length t) (i+1)
 rw[Nat.succ_mul]at h2
 exact h1.app ⟨c,_,rfl,hy,h2⟩
theorem PW(sz:Nat)(a b:Od):og (Ko sz a b) (fun _ _=>s6 sz (cI a) (cI b)):=by
 intro E T t H h v T' H' hT hH e
 unfold Ko at e
 split at e
 ·rename_i w hw
  cases hb:(Nat.beq (len w.cells) sz&&oD HD w.cells)with
  |false=>rw[hb]at e;cases e
  |true=>
   rw[hb]at e
   simp only[cond_true]at e
   rw[Bool.and_eq_true]at hb
   obtain⟨d,hd,Xc⟩:=cG hT hw
   have rj:=Xc.cells
   have hlen:d.cells.length=w.cells.length:=rj.length.symm
   have uO:w.cells.length=sz:=by have:=beq_true hb.1;rwa [cQ]at this
   have Ky:oD nA d.cells=true:=by
    rw[pQ,List.all_eq_true]
    refine rj.JN fun q hq=>?_
    have:=hb.2;rw[pQ,List.all_eq_true]at this;exact this q hq
   have uP: ∀ {id off:Nat} {row:Rw},cI a t=some (.ref id off)->h.cw.get id=some row->off+sz<=row.n->s6 sz (cI a) (cI b) t h=.ok pz (qx h id (some (row.put off d.cells))):=by
    intro id off row h1 h2 h3
    unfold s6
    rw[h1,hd]
    simp only[h2]
    have q:(Nat.beq (len d.cells) sz&&(Nat.ble (Nat.add off (len d.cells)) row.n&&oD nA d.cells))=true:=by
     rw[cQ,hlen,uO,Ky,Nat.beq_refl,Bool.and_true,Bool.true_and]
     rw[Nat.ble_eq];exact h3
    rw[q];rfl
   split at e
   ·rename_i r o ha
    obtain⟨p,hp,rA⟩:=cG hT ha
    split at e
    ·rename_i l hr
     cases hq:Nat.ble (Nat.add o (len w.cells)) (len l)with
     |false=>rw[hq]at e;cases e
     |true=>
      rw[hq]at e
      obtain⟨rfl,rfl,rfl⟩:=cB e
      have hq:=Nat.le_of_ble_eq_true hq
      rw[cQ,cQ]at hq
      obtain⟨id,row,k1,k2,k3,k4⟩:=(hH.row _ _ hr).2
      cases rA with
      |rf h1 h2=>
       rw[k1]at h2;cases h2
       have hn:o+sz<=row.n:=by rw[<-nR,<-k3.length,<-uO];exact hq
       have hR:RV E H.next (qx h id (some (row.put o d.cells))) (E.K r) (.o _ (HE l o w.cells)):=
        ⟨id,row.put o d.cells,k1,by rw[qG,if_pos rfl],by rw[yd (by rw[hlen,uO];exact hn)];exact k3.put rj o,k4⟩
       obtain⟨S,X⟩:=FP hH hr rfl rfl (by rw[k1];rfl) hR
       exact⟨_,_,E,Ev.const (uP hp k2 hn),X,S,.tu .nil,hT⟩
    ·cases e
   ·rename_i r s i o ha
    obtain⟨p,hp,rA⟩:=cG hT ha
    split at e
    ·rename_i ty x hr
     cases hq:(Nat.beq s (size ty)&&Nat.ble (Nat.add o (len w.cells)) s)with
     |false=>rw[hq]at e;cases e
     |true=>
      rw[hq]at e
      simp only[cond_true]at e
      rw[Bool.and_eq_true]at hq
      have hs:s=size ty:=beq_true hq.1
      have hos:=Nat.le_of_ble_eq_true hq.2
      rw[cQ]at hos
      split at e
      ·rename_i y H1 hy
       split at e
       ·rename_i t2 x2 hr2
        obtain⟨rfl,rfl,rfl⟩:=cB e
        cases rA with
        |re h1 h2 h3=>
         rename_i id base n
         have q:=(hH.row _ _ hr).2
         rcases q.2 with⟨k,_⟩|⟨Am,To,row,ls,k1,k2,k3,k4⟩
         ·rw[h2]at k;cases k
         ·rw[h2]at k1
          injection k1 with a1 a2 a3 a4
          subst a1;subst a2
          rw[<-q.1]at a3 k3
          rw[a3]at h3
          obtain⟨_,e2,e3⟩:=yM (N:=H.next) h3 k3 k4
          obtain⟨E1,c,dd,F,hcd,hey,aod⟩:=xH ty E H h _ [] _ y H1 hH (e2.put rj o) hy
          have hdd:dd=[]:=by cases aod;rfl
          rw[hdd,List.append_nil]at hcd
          have hr1:H1.cw.get r=some (.l t2 x2):=hr2
          have q2:=(F.S.row _ _ hr1).2
          have hKr:(E1.K r).av=.nW id base n s:=by rw[F.K];exact h2
          have hL:((ls.drop (i*size ty)).take (size ty)).length=size ty:=(yM (N:=H.next) h3 k3 k4).1 |> EV.length ty _ _
          have awy:ls.length=x.length*size ty:=k4.length (EV.length ty)
          have hle:i*size ty+size ty<=x.length*size ty:=by
           have:=Nat.mul_le_mul_right (size ty) (Nat.succ_le_of_lt h3)
           rw[Nat.succ_mul]at this;exact this
          obtain⟨s1,s2⟩:=nU.1 k3
          have hn:base+i*s+o+sz<=row.n:=by rw[hs];rw[uO,hs]at hos;have e0:o+sz<=size ty:=hos;omega
          have aoe:(row.put (base+i*s+o) d.cells).ri base (x.length*size ty)=some (ls.take (i*size ty)++(c++ls.drop (i*size ty+size ty))):=by
           have Y7:base+i*s+o+d.cells.length<=row.n:=by rw[hlen,uO];exact hn
           refine nU.2 ⟨by show base+_<=row.n;exact s1,?_⟩
           rw[yd Y7,<-hcd]
           have xw:row.toL=row.toL.take base++(ls++row.toL.drop (base+x.length*size ty)):=by
            rw[s2,<-List.drop_drop,List.take_append_drop,List.take_append_drop]
           have JW:(row.toL.take base).length=base:=by rw[List.length_take,nR];omega
           have hls:=PV k4 h3
           have hA:(ls.take (i*size ty)).length=i*size ty:=by rw[List.length_take];omega
           have hod:o+d.cells.length<=size ty:=by rw[hlen,<-hs];exact hos
           have e1:put row.toL (base+i*s+o) d.cells=row.toL.take base++(put ls (i*size ty+o) d.cells++row.toL.drop (base+x.length*size ty)):=by
            have:=Bi ls (row.toL.drop (base+x.length*size ty)) d.cells (i*size ty+o) (by omega) (row.toL.take base)
            rw[<-xw,JW]at this
            rw[hs,Nat.add_assoc];exact this
           have e2:put ls (i*size ty+o) d.cells=ls.take (i*size ty)++(put ((ls.drop (i*size ty)).take (size ty)) o d.cells++ls.drop (i*size ty+size ty)):=by
            have:=Bi ((ls.drop (i*size ty)).take (size ty)) (ls.drop (i*size ty+size ty)) d.cells o (by rw[hL];exact hod) (ls.take (i*size ty))
            rw[<-hls,hA]at this
            exact this
           rw[e1,List.drop_append_of_le_length (by rw[JW];exact Nat.le_refl _)]
           rw[show List.drop base (row.toL.take base)=[]from by rw[List.drop_eq_nil_iff,JW];exact Nat.le_refl _,List.nil_append]
           rw[List.take_append_of_le_length (by rw[Bj _ _ _ (by omega)];omega)]
           rw[show List.take (x.length*size ty) (put ls (i*size ty+o) d.cells)=put ls (i*size ty+o) d.cells from by rw[List.take_of_length_le];rw[Bj _ _ _ (by omega)];omega]
           exact e2.symm
          have hR:RV E1 H1.next (qx h id (some (row.put (base+i*s+o) d.cells))) (E1.K r) (.l ty (x.set i y)):=by
           refine⟨by rw[List.length_set,F.K];exact q.1,.inr ⟨id,base,row.put (base+i*s+o) d.cells,_,?_,by rw[qG,if_pos rfl],?_,Y6 (k4.mono (EV.mono F.g ty)) h3 hey⟩⟩
           ·rw[hKr,F.K,<-q.1,hs,a3]
           ·rw[F.K,<-q.1];exact aoe
          obtain⟨S,X⟩:=FP F.S hr1 rfl rfl (by rw[hKr];rfl) hR
          exact⟨_,_,E1,Ev.const (uP hp k2 hn),F.X.trans X,S,.tu .nil,hT.mono (F.X.trans X).e (F.X.trans X).le⟩
       ·cases e
      ·cases e
    ·cases e
   ·cases e
 ·cases e
end Lf
end Go.Ab

noncomputable section
namespace Go.Ab
namespace Lf
theorem tv{i n:Int}:cZ i n=true↔0<=i/\i<n:=by unfold cZ;simp
theorem Y8(size:Nat)(a i:Od):og (YK size a i) (fun _ _=>xY size (cI a) (cI i)):=mX (by
 intro E T t H h v T' H' hT hH e
 unfold YK at e
 split at e
 ·rename_i iv hiv
  split at e
  ·rename_i k n hn
   obtain⟨c,hc,oN⟩:=cG hT hiv
   have:=pE oN hn;subst this
   have kH: ∀ {id off m sz:Nat} {j:Nat},n=(j:Int)->cI a t=some (.nW id off m sz)->j<m->sz=size->xY size (cI a) (cI i) t h=.ok (.ref id (off+j*size)) h:=by
    intro id off m sz j hj h1 h2 h3
    subst hj
    unfold xY
    rw[hc]
    show(match cI a t with
     |some (.nW id off n sz)=>bif Nat.blt j n&&Nat.beq sz size then Go.Ab.Ro.ok (.ref id (Nat.add off (Nat.mul j size))) h else .bad
     |some (.rJ n cs)=>bif Nat.blt j n then .ok (.py (dp (Nat.mul j size) cs)) h else .bad
     | _=>.bad)=_
    rw[h1]
    simp only[cM.2 h2,h3,Nat.beq_refl]
    rfl
   have conv: ∀ {m:Nat},cZ n (Int.ofNat m)=true-> ∃ j:Nat,n=(j:Int)/\n.toNat=j/\j<m:=by
    intro m q
    obtain⟨q1,q2⟩:=tv.1 q
    exact⟨n.toNat,by omega,rfl,by have:(Int.ofNat m)=(m:Int):=rfl;omega⟩
   split at e
   ·rename_i r s ha
    obtain⟨p,hp,rA⟩:=cG hT ha
    have key: ∀ {t':Ty} {x:List (den t')} {S':Nat->Option Rw},LR E.G t' x (E.K r) S'->(bif Nat.beq s size then Lf.T.ck (cZ n (Int.ofNat x.length)) (okV (.re r s n.toNat 0) T H)else Lf.T.bad).val=some (v,T',H')->H'=H/\T'=T/\ ∃ c,xY size (cI a) (cI i) t h=.ok c h/\V E H.next v c:=by
     intro t' x S' q e
     cases hs:Nat.beq s size with
     |false=>rw[hs]at e;cases e
     |true=>
      rw[hs]at e
      have hs:=beq_true hs
      obtain⟨q1,e⟩:=Lf.T.cP e
      obtain⟨rfl,rfl,rfl⟩:=cB e
      obtain⟨j,hj,G7,oI⟩:=conv q1
      have q2:=HN rA q
      cases rA with
      |os h1 h2=>
       rcases h2 with⟨h2,h3⟩|⟨id,base,h2⟩
       ·rw[q.1,h3]at oI;omega
       ·rw[h2]at hp
        rw[q.1]at oI
        refine⟨rfl,rfl,_,kH hj hp oI hs,?_⟩
        rw[G7]
        have:=V.re (i:=j) (o:=0) h1 h2 oI
        rw[Nat.add_zero,hs]at this
        rw[hs];exact this
    split at e
    ·rename_i t' x hr;exact key (hH.row _ _ hr).2 e
    ·rename_i t' x hr;exact key (hH.row _ _ hr).2 e
    ·cases e
   ·rename_i r s off m ha
    obtain⟨p,hp,rA⟩:=cG hT ha
    cases hs:Nat.beq s size with
    |false=>rw[hs]at e;cases e
    |true=>
     rw[hs]at e
     have hs:=beq_true hs
     obtain⟨q1,e⟩:=Lf.T.cP e
     obtain⟨rfl,rfl,rfl⟩:=cB e
     obtain⟨j,hj,G7,oI⟩:=conv q1
     cases rA with
     |se _ _ _ _=>omega
     |ss h1 h2 h3=>
      rename_i id base
      refine⟨rfl,rfl,_,kH hj hp oI hs,?_⟩
      rw[G7]
      have:=V.re (i:=off+j) (o:=0) h1 h2 (by omega)
      rw[Nat.add_zero,Nat.add_mul,<-Nat.add_assoc,hs]at this
      rw[hs];exact this
   ·rename_i r s off m ha
    obtain⟨p,hp,rA⟩:=cG hT ha
    split at e
    ·rename_i k0 j
     cases hs:(Nat.beq s size&&Nat.blt j m)with
     |false=>rw[hs]at e;cases e
     |true=>
      rw[hs]at e
      rw[Bool.and_eq_true]at hs
      obtain⟨rfl,rfl,rfl⟩:=cB e
      cases hn
      cases rA with
      |xo h1 h2=>
       have B5:=beq_true hs.1
       refine⟨rfl,rfl,_,kH rfl hp (cM.1 hs.2) B5,?_⟩
       have:=V.rf (o:=off+j*s) h1 h2
       rw[B5]at this
       rw[B5];exact this
    ·cases hs:Nat.beq s size with
     |false=>rw[hs]at e;cases e
     |true=>
      rw[hs]at e
      obtain⟨i0,W6,oI,e⟩:=wG e
      obtain⟨rfl,rfl,rfl⟩:=cB e
      cases rA with
      |xo h1 h2=>
       have B5:=beq_true hs
       refine⟨rfl,rfl,_,kH W6 hp (by omega) B5,?_⟩
       have:=V.rf (o:=off+i0*s) h1 h2
       rw[B5]at this
       rw[B5];exact this
   ·rename_i m ty x ha
    obtain⟨p,hp,rA⟩:=cG hT ha
    cases hs:Nat.beq size (Lf.size ty)with
    |false=>rw[hs]at e;cases e
    |true=>
     rw[hs]at e
     have hs:=beq_true hs
     obtain⟨q1,e⟩:=Lf.T.cP e
     obtain⟨rfl,rfl,rfl⟩:=cB e
     obtain⟨j,hj,G7,oI⟩:=conv q1
     rw[G7]
     cases rA with
     |c k _=>
      obtain⟨b,hb,k⟩:=k
      cases hb
      rcases k with⟨_,k⟩|⟨ls,k1,k2|⟨id,base,row,k2,k3,k4⟩⟩
      ·subst k;simp at oI
      ·subst k2
       refine⟨rfl,rfl,.py (ls.drop (j*size)),?_,?_⟩
       ·unfold xY
        rw[hc,hp,hj]
        show(bif Nat.blt j x.length then Go.Ab.Ro.ok (.py (dp (Nat.mul j size) ls)) h else .bad)=_
        rw[cM.2 oI,qR];rfl
       ·have h1:=k1.get (EV.length ty) oI (cE ty)
        have:=V.zp (r:=(ls.drop (j*size)).drop size) (wH (E:=E) (N:=H'.next) rfl ty _ _ h1)
        rw[hs,List.take_append_drop]at this
        rw[hs];exact this
      ·subst k2
       refine⟨rfl,rfl,_,kH hj hp oI hs.symm,?_⟩
       obtain⟨_,e2,e3⟩:=yM (N:=H'.next) oI k4 k1
       have hl:(ud ty (x.getD j (cE ty))).length=Lf.size ty:=by
        rw[e2.length,(yM (N:=H'.next) oI k4 k1).1 |> EV.length ty _ _]
       refine .zr e2 k3 ?_
       rw[hl,hs];exact e3
   ·cases e
  ·cases e
 ·cases e)
theorem TA(n size:Nat)(a i:Od):og (S5 n size a i) (fun _ _=>w4 n size (cI a) (cI i)):=mX (by
 intro E T t H h v T' H' hT hH e
 unfold S5 at e
 split at e
 ·rename_i k j hiv
  obtain⟨c,hc,oN⟩:=cG hT hiv
  cases oN
  cases hj:Nat.blt j n with
  |false=>rw[hj]at e;cases e
  |true=>
   rw[hj]at e
   simp only[cond_true]at e
   have hk:w4 n size (cI a) (cI i) t h=(match cI a t with
    |some (.ref id off)=>bif Nat.blt j n then Go.Ab.Ro.ok (.ref id (Nat.add off (Nat.mul j size))) h else .bad
    |some (.py cs)=>bif Nat.blt j n then .ok (.py (dp (Nat.mul j size) cs)) h else .bad
    | _=>.bad):=by unfold w4;rw[hc];rfl
   rw[hk,hj]
   split at e
   ·rename_i r o ha
    obtain⟨rfl,rfl,rfl⟩:=cB e
    obtain⟨p,hp,rA⟩:=cG hT ha
    rw[hp]
    cases rA with
    |rf h1 h2=>exact⟨rfl,rfl,_,rfl,.rf h1 h2⟩
   ·rename_i l ha
    obtain⟨p,hp,rA⟩:=cG hT ha
    rw[hp]
    cases hb:Nat.ble (Nat.mul j size) (len l)with
    |false=>rw[hb]at e;cases e
    |true=>
     rw[hb]at e
     obtain⟨rfl,rfl,rfl⟩:=cB e
     have hle:j*size<=l.length:=by have:=Nat.le_of_ble_eq_true hb;rwa [cQ]at this
     rw[qR]
     cases rA with
     |zp k=>
      rename_i l' r
      refine⟨rfl,rfl,_,rfl,?_⟩
      rw[qR,List.drop_append_of_le_length (by rw[<-k.length];exact hle)]
      exact .zp (k.drop _)
     |zr k g s=>
      rename_i l' id o row
      refine⟨rfl,rfl,_,rfl,?_⟩
      refine .zr (k.drop _) g ?_
      obtain⟨s1,s2⟩:=nU.1 s
      rw[List.length_drop]
      refine nU.2 ⟨by have e1:Nat.add o (Nat.mul j size)=o+j*size:=rfl;have e2:Nat.mul j size=j*size:=rfl;omega,?_⟩
      rw[s2,List.drop_take,List.drop_drop]
      rfl
   ·cases e
 ·cases e)
theorem zS{E:En}{N:Nat}{k:IntKind}: ∀ {l:List Sv} {l':List AV} {r:List Int},Vs E N l l'->FF k l=some r->l'=r.map fun n=>.int k n
 | [],_,_,.nil,e=>by cases e;rfl
 |v::l,_,r,.cons hv h,e=>by
  change (match toN v with|some (k',n)=>(bif qp k k' then(match FF k l with|some r=>some (n::r)|none=>none)else none)|none=>none)=some r at e
  split at e
  ·rename_i k' n hn
   obtain⟨hk,e⟩:=cR e
   split at e
   ·rename_i r' hr
    cases e
    have:=oc.1 hk;subst this
    rw[pE hv hn,zS h hr];rfl
   ·cases e
  ·cases e
theorem aez{E E1:En}{T:Tq}{t:Tm}{H H1:Hq}{h:Hp}{n o:Nat}{x:Int}{l:List Sv}{id:Nat}{row:Rw}{v:Sv}{T':Tq}{H':Hq}(F:Fz E E1 H H1 h)(hT:TV E H.next T t)(hg:E1.G id=some row)(hl:Vs E1 H1.next l row.toL)(e:(ixZ n o x l T H1).val=some (v,T',H')):
 ∃ j:Nat,x=j/\j<n/\Nx E E1 H H' h h/\SR E1 H' h/\V E1 H'.next v (.ref id (o+j))/\TV E1 H'.next T' t:=by
 have hd:=(hl.drop o).take n
 unfold ixZ at e
 split at e
 ·rename_i u w hu
  rw[hu]at hd
  split at e
  ·rename_i k y hk
   split at e
   ·rename_i nl hnl
    cases hlen:Nat.beq (len nl) n with
    |false=>rw[hlen]at e;cases e
    |true=>
     rw[hlen]at e
     obtain⟨q1,e⟩:=Lf.T.cP e
     obtain⟨rfl,rfl,rfl⟩:=cB e
     obtain⟨x1,x2⟩:=tv.1 q1
     obtain⟨j,rfl⟩:=Int.eq_ofNat_of_zero_le x1
     have hj:j<n:=by have:(Int.ofNat n)=(n:Int):=rfl;omega
     have hc:=zS hd hnl
     have aiX:nl.length=n:=by have:=beq_true hlen;rwa [cQ]at this
     have aiY:((row.toL.drop o).take n).length=n:=by rw[hc,List.length_map,aiX]
     have G7:j<nl.length:=by omega
     refine⟨j,rfl,hj,F.X,F.S,.zr (l':=[.int k (nl.getD j 0)]) (row:=row) (.cons oJ .nil) hg (nU.2 ⟨?_,?_⟩),hT.mono F.X.e F.X.le⟩
     ·have:o+n<=row.toL.length∨n=0:=by
       rw[List.length_take,List.length_drop]at aiY
       omega
      rw[<-nR]
      show o+j+1<=_
      omega
     ·have h1:(row.toL.drop (o+j)).take 1=(((row.toL.drop o).take n).drop j).take 1:=by
       rw[List.drop_take,List.drop_drop,List.take_take,Nat.min_eq_left (by omega)]
      show [AV.int k (nl.getD j 0)]=(row.toL.drop (o+j)).take 1
      rw[h1,hc,List.drop_eq_getElem_cons (by simpa using G7)]
      simp[List.getD_eq_getElem?_getD,List.getElem?_eq_getElem G7]
   ·cases e
  ·cases e
 ·cases e
theorem Y9(n size:Nat)(a i:Od):og (YL n size a i) (fun _ _=>w4 n size (cI a) (cI i)):=by
 intro E T t H h v T' H' hT hH e
 unfold YL at e
 split at e
 ·rename_i m k0 x hi
  cases aeA:Nat.beq size 1 with
  |false=>rw[aeA]at e;cases e
  |true=>
  rw[aeA]at e
  simp only[cond_true]at e
  have uO:size=1:=beq_true aeA
  obtain⟨c,hc,oN⟩:=cG hT hi
  have:=pE oN rfl;subst this
  split at e
  ·rename_i r o ha
   obtain⟨p,hp,rA⟩:=cG hT ha
   cases rA with
   |rf h1 h2=>
    rename_i id
    have fin: ∀ {E1:En} {H1:Hq} {l:List Sv} {row:Rw},Fz E E1 H H1 h->E1.G id=some row->Vs E1 H1.next l row.toL->(ixZ n o x l T H1).val=some (v,T',H')-> ∃ c h' E',Ev (fun _ _=>w4 n size (cI a) (cI i) t h) (.ok c h')/\Nx E E' H H' h h'/\SR E' H' h'/\V E' H'.next v c/\TV E' H'.next T' t:=fun F hg hl e=>by
     obtain⟨j,rfl,hj,X,S,w,QV⟩:=aez F hT hg hl e
     refine⟨_,h,_,Ev.const ?_,X,S,w,QV⟩
     unfold w4
     rw[hp,hc]
     show(bif Nat.blt j n then Go.Ab.Ro.ok (.ref id (Nat.add o (Nat.mul j size))) h else .bad)=_
     rw[cM.2 hj,uO,show Nat.mul j 1=j from Nat.mul_one j]
     rfl
    split at e
    ·obtain⟨j,rfl,hj,e2⟩:=wG e
     obtain⟨rfl,rfl,rfl⟩:=cB e2
     refine⟨.ref id (Nat.add o (Nat.mul j size)),h,E,Ev.const ?_,Nx.refl _ _ _,hH,.rf h1 h2,hT⟩
     unfold w4
     rw[hp,hc]
     show(bif Nat.blt j n then Go.Ab.Ro.ok (.ref id (Nat.add o (Nat.mul j size))) h else .bad)=_
     rw[cM.2 (show j<n by omega)]
     rfl
    ·rename_i l hr
     obtain⟨Am,row,k1,k2,k3⟩:=(hH.row _ _ hr).2
     rw[h2]at k1;cases k1
     exact fin (Fz.refl hH) k2 k3 e
    ·cases e
  ·cases e
 ·exact TA n size a i E T t H h v T' H' hT hH e
theorem PX(n size:Nat)(agg:Bool)(a i:Od):og (FG n size agg a i) (fun _ _=>sf n size agg (cI a) (cI i)):=mX (by
 intro E T t H h v T' H' hT hH e
 unfold FG at e
 split at e
 ·rename_i cs ha
  obtain⟨p,hp,rA⟩:=cG hT ha
  cases rA with
  |ag rj=>
   rename_i l'
   split at e
   ·rename_i k j hi
    obtain⟨c,hc,oN⟩:=cG hT hi
    cases oN
    cases hb:Nat.blt j n with
    |false=>rw[hb]at e;cases e
    |true=>
     rw[hb]at e
     obtain⟨e1,rfl,rfl⟩:=tp e
     obtain⟨r,h1,h2⟩:=uF rj e1
     refine⟨rfl,rfl,r,?_,h2⟩
     unfold sf
     rw[hp,hc]
     show(bif Nat.blt j n then(match part agg l' (Nat.mul j size) size with|some v=>Go.Ab.Ro.ok v h|none=>.bad)else .bad)=_
     rw[hb,h1];rfl
   ·rename_i m k0 x hi
    obtain⟨c,hc,oN⟩:=cG hT hi
    have:=pE oN rfl;subst this
    cases hag:(agg|| !(Nat.beq size 1))with
    |true=>rw[hag]at e;cases e
    |false=>
     rw[hag]at e
     rw[Bool.or_eq_false_iff]at hag
     simp only[cond_false]at e
     split at e
     ·rename_i w l
      split at e
      ·rename_i k y hk
       split at e
       ·rename_i nl hnl
        cases hlen:Nat.beq (len nl) n with
        |false=>rw[hlen]at e;cases e
        |true=>
         rw[hlen]at e
         obtain⟨q1,e⟩:=Lf.T.cP e
         obtain⟨rfl,rfl,rfl⟩:=cB e
         obtain⟨x1,x2⟩:=tv.1 q1
         obtain⟨j,rfl⟩:=Int.eq_ofNat_of_zero_le x1
         have hj:j<n:=by have:(Int.ofNat n)=(n:Int):=rfl;omega
         have hl:=zS rj hnl
         have aiX:nl.length=n:=by have:=beq_true hlen;rwa [cQ]at this
         have uO:size=1:=by cases hq:Nat.beq size 1 with
          |true=>exact beq_true hq
          |false=>rw[hq]at hag;cases hag.2
         refine⟨rfl,rfl,.int k (nl.getD j 0),?_,oJ⟩
         unfold sf
         rw[hp,hc]
         show(bif Nat.blt j n then(match part agg l' (Nat.mul j size) size with|some v=>Go.Ab.Ro.ok v h|none=>.bad)else .bad)=_
         have hpt:part agg l' (Nat.mul j size) size=some (.int k (nl.getD j 0)):=by
          rw[hag.1,uO,hl,show Nat.mul j 1=j from Nat.mul_one j]
          have G7:j<nl.length:=by omega
          have ht:((nl.map fun n=>AV.int k n).drop j).take 1=[AV.int k (nl.getD j 0)]:=by
           rw[List.drop_eq_getElem_cons (by simpa using G7)]
           simp[List.getD_eq_getElem?_getD,List.getElem?_eq_getElem G7]
          unfold part
          rw[xG (by rw[ht];rfl),ht];rfl
         rw[cM.2 hj,hpt];rfl
       ·cases e
      ·cases e
     ·cases e
   ·cases e
 ·cases e)
theorem Kz(a i:Od):og (Bg a i) (fun _ _=>qP (cI a) (cI i)):=mX (by
 intro E T t H h v T' H' hT hH e
 unfold Bg at e
 split at e
 ·rename_i w hw
  split at e
  ·rename_i b s hs
   split at e
   ·rename_i iv hiv
    split at e
    ·rename_i k n hn
     obtain⟨q1,e⟩:=Lf.T.cP e
     obtain⟨rfl,rfl,rfl⟩:=cB e
     obtain⟨c,hc,oN⟩:=cG hT hw
     obtain⟨d,hd,Xc⟩:=cG hT hiv
     have:=vt oN hs;subst this
     have:=pE Xc hn;subst this
     obtain⟨x1,x2⟩:=tv.1 q1
     obtain⟨j,rfl⟩:=Int.eq_ofNat_of_zero_le x1
     have hj:j<s.data.toList.length:=by have:(Int.ofNat s.size)=(s.size:Int):=rfl;have e2:s.data.toList.length=s.size:=Array.length_toList
                                        omega
     refine⟨rfl,rfl,_,?_,oJ⟩
     unfold qP
     rw[hc,hd]
     show(match sa s.data.toList j with|some b=>Go.Ab.Ro.ok (.int .u8 b.toNat) h|none=>.bad)=_
     rw[pn,List.getElem?_eq_getElem hj]
     simp[List.getD_eq_getElem?_getD,List.getElem?_eq_getElem hj]
    ·cases e
   ·cases e
  ·cases e
 ·cases e)
theorem Nu{E:En}{N:Nat}{T:Tq}{t:Tm}(hT:TV E N T t){o:Option Od}{d:Sv}{l:Bool}{n:Int}{m:Nat}(hd:toN d=some (.i64,(m:Int)))(e:DE o T d=some (l,n))(h0:0<=n):ua (o.map cI) t m=some n.toNat:=by
 unfold DE at e
 cases o with
 |none=>
  simp only at e
  rw[hd]at e
  cases e
  simp[ua]
 |some o=>
  simp only at e
  split at e
  ·rename_i w hw
   split at e
   ·rename_i k n' hn
    cases e
    obtain⟨c,hc,oN⟩:=cG hT hw
    have:=pE oN hn;subst this
    obtain⟨j,rfl⟩:=Int.eq_ofNat_of_zero_le h0
    show(match cI o t with|some (.int _ (.ofNat n))=>some n| _=>none)=_
    rw[hc];rfl
   ·cases e
  ·cases e
theorem Er{l u n:Int}:nH l u n=true↔0<=l/\l<=u/\u<=n:=by unfold nH;simp
theorem zT{E:En}{N:Nat}{T:Tq}{t:Tm}(hT:TV E N T t){lo hi:Option Od}{d:Sv}{l1 l2:Bool}{l u n:Int}{m:Nat}(hd:toN d=some (.i64,(m:Int)))(hn:n=m)(e1:DE lo T (.i .i64 0)=some (l1,l))(e2:DE hi T d=some (l2,u))(hc:nH l u n=true):
 bounds (lo.map cI) (hi.map cI) t m=some (l.toNat,u.toNat)/\l.toNat<=u.toNat/\u.toNat<=m:=by
 obtain⟨h1,h2,h3⟩:=Er.1 hc
 have a1:=Nu hT (m:=0) rfl e1 h1
 have a2:=Nu hT hd e2 (by omega)
 unfold bounds
 rw[a1,a2]
 have b1:Nat.ble l.toNat u.toNat=true:=by rw[Nat.ble_eq];omega
 have b2:Nat.ble u.toNat m=true:=by rw[Nat.ble_eq];omega
 simp only[b1,b2]
 exact⟨rfl,by omega,by omega⟩
theorem Es{a:AV}(h:xq a=true):nr a=true:=by cases a<;>first|exact h|rfl
theorem xI{size:Nat}{x:n9}{lo hi:Option n9}{t:Tm}{h:Hp}{a:AV}(hx:x t=some a)(he:xq a=false):oE size x lo hi t h=ub size x lo hi t h:=by
 unfold oE;rw[hx];simp only[he];rfl
theorem wJ{size:Nat}{x:n9}{lo hi:Option n9}{t:Tm}{h:Hp}{a:AV}{l u:Nat}(hx:x t=some a)(he:nr a=true)(hb:bounds lo hi t 0=some (l,u)):oE size x lo hi t h=.ok a h:=by
 cases vw:xq a with
 |true=>unfold oE;rw[hx];simp only[vw,hb];rfl
 |false=>
  have:a=.pO:=by cases a<;>first|rfl|(cases vw;done)|(cases he;done)|(rename_i v0;have k:xq (.sc v0)=true:=he;rw[k]at vw;cases vw)
  subst this
  rw[xI hx vw]
  unfold ub
  rw[hx]
  simp only[hb]
theorem wc{size:Nat}{x:n9}{lo hi:Option n9}{t:Tm}{h:Hp}{id off n sz l u:Nat}(hx:x t=some (.nW id off n sz))(hb:bounds lo hi t n=some (l,u))(hs:sz=size):oE size x lo hi t h=.ok (.nW id (off+l*size) (u - l) sz) h:=by
 rw[xI hx rfl]
 unfold ub
 rw[hx]
 simp only[hb,hs,Nat.beq_refl]
 rfl
theorem HP(size:Nat)(a:Od)(lo hi:Option Od): ∀ (E:En) (T:Tq) (t:Tm) (H:Hq) (h:Hp) (v:Sv) (T':Tq) (H':Hq),TV E H.next T t->SR E H h->(yG size a lo hi T H).val=some (v,T',H')->H'=H/\T'=T/\ ∃ c,oE size (cI a) (lo.map cI) (hi.map cI) t h=.ok c h/\V E H.next v c:=by
 intro E T t H h v T' H' hT hH e
 unfold yG at e
 split at e
 ·rename_i w hw
  split at e
  ·rename_i m hm
   split at e
   ·rename_i k n hn
    split at e
    ·rename_i ll l hl
     split at e
     ·rename_i lu u hu
      obtain⟨p,hp,rA⟩:=cG hT hw
      obtain⟨q,q1,_,q3,q4⟩:=Nq hH rA hm
      rw[q1]at hn;cases hn
      have bd:=fun hc=>zT (n:=(q:Int)) hT q1 rfl hl hu hc
      split at e
      ·rename_i z
       cases hz:xq z with
       |false=>rw[hz]at e;cases e
       |true=>
        rw[hz]at e
        obtain⟨c1,e⟩:=Lf.T.cP e
        obtain⟨rfl,rfl,rfl⟩:=cB e
        obtain⟨b1,_,_⟩:=bd c1
        cases rA with
        |a hlf=>
         have hem:=Es hz
         have:q=0:=q4 hem
         subst this
         exact⟨rfl,rfl,p,wJ hp hem b1,.a hlf⟩
      ·rename_i r s
       cases hs:Nat.beq s size with
       |false=>rw[hs]at e;cases e
       |true=>
        rw[hs]at e
        have hs:=beq_true hs
        obtain⟨c1,e⟩:=Lf.T.cP e
        obtain⟨rfl,rfl,rfl⟩:=cB e
        obtain⟨b1,b2,b3⟩:=bd c1
        cases rA with
        |os h1 h2=>
         rcases h2 with⟨h2,h3⟩|⟨id,base,h2⟩
         ·have:q=0:=q4 h2
          subst this
          have e1:l.toNat=0:=by omega
          have e2:u.toNat - l.toNat=0:=by omega
          rw[e2,e1]
          exact⟨rfl,rfl,_,wJ hp h2 b1,.se h1 h2 h3 rfl⟩
         ·rw[h2]at hp q3
          have:(E.K r).n=q:=by cases q3;rfl
          refine⟨rfl,rfl,_,wc hp (by rw[this];exact b1) hs,?_⟩
          rw[<-hs]
          exact .ss h1 h2 (by omega)
      ·rename_i r s off m'
       cases hs:Nat.beq s size with
       |false=>rw[hs]at e;cases e
       |true=>
        rw[hs]at e
        have hs:=beq_true hs
        obtain⟨c1,e⟩:=Lf.T.cP e
        obtain⟨rfl,rfl,rfl⟩:=cB e
        obtain⟨b1,b2,b3⟩:=bd c1
        cases rA with
        |se h1 h2 h3 h4=>
         have:q=0:=q4 h2
         subst this
         have e1:l.toNat=0:=by omega
         have e2:u.toNat - l.toNat=0:=by omega
         rw[e2,e1,h4]
         exact⟨rfl,rfl,_,wJ hp h2 b1,.se h1 h2 h3 rfl⟩
        |ss h1 h2 h3=>
         rename_i id base
         have:m'=q:=by cases q3;rfl
         subst this
         refine⟨rfl,rfl,_,wc hp b1 hs,?_⟩
         rw[<-hs]
         have:=V.ss (off:=off+l.toNat) (n:=u.toNat - l.toNat) h1 h2 (by omega)
         rw[Nat.add_mul,<-Nat.add_assoc]at this
         exact this
      ·rename_i r s off m'
       cases hlu:(ll&&lu)with
       |true=>
        rw[hlu,cond_true,<-hlu]at e
        cases hs:((ll&&lu)&&(Nat.beq s size&&nH l u (q:Int)))with
        |false=>rw[hs]at e;cases e
        |true=>
         rw[hs]at e
         rw[Bool.and_eq_true,Bool.and_eq_true,Bool.and_eq_true]at hs
         obtain⟨rfl,rfl,rfl⟩:=cB e
         obtain⟨b1,b2,b3⟩:=bd hs.2.2
         have B5:=beq_true hs.2.1
         cases rA with
         |xo h1 h2=>
          rename_i id
          have:m'=q:=by cases q3;rfl
          subst this
          refine⟨rfl,rfl,_,wc hp b1 B5,?_⟩
          rw[<-B5]
          exact .xo h1 h2
       |false=>
        rw[hlu,cond_false]at e
        cases hs:Nat.beq s size with
        |false=>rw[hs]at e;cases e
        |true=>
         rw[hs,cond_true]at e
         obtain⟨i,hi1,JU,e⟩:=Cs e
         obtain⟨j,hj1,G7,e⟩:=Cs e
         cases hb:Nat.ble i j with
         |false=>rw[hb]at e;cases e
         |true=>
          rw[hb,cond_true]at e
          have Yx:=Nat.le_of_ble_eq_true hb
          obtain⟨rfl,rfl,rfl⟩:=cB e
          subst hi1;subst hj1
          cases rA with
          |xo h1 h2=>
           rename_i id
           have:m'=q:=by cases q3;rfl
           subst this
           obtain⟨b1,b2,b3⟩:=bd (Er.2 ⟨by omega,by omega,by omega⟩)
           have B5:=beq_true hs
           refine⟨rfl,rfl,_,wc hp b1 B5,?_⟩
           rw[<-B5]
           exact .xo h1 h2
      ·rename_i m' ty x
       cases hs:Nat.beq size (Lf.size ty)with
       |false=>rw[hs]at e;cases e
       |true=>
        rw[hs]at e
        have hs:=beq_true hs
        obtain⟨c1,e⟩:=Lf.T.cP e
        obtain⟨rfl,rfl,rfl⟩:=cB e
        obtain⟨b1,b2,b3⟩:=bd c1
        cases rA with
        |c k _=>
         obtain⟨b,hb,k⟩:=k
         cases hb
         rcases k with⟨k,kx⟩|⟨ls,k1,k2|⟨id,base,row,k2,k3,k4⟩⟩
         ·have:q=0:=q4 k
          subst this
          subst kx
          exact⟨rfl,rfl,_,wJ hp k b1,.c ⟨_,rfl,.inl ⟨k,by simp⟩⟩ fun h=>(h rfl).elim⟩
         ·subst k2
          have:x.length=q:=by cases q3;rfl
          have hle:((x.drop l.toNat).take (u.toNat - l.toNat)).length=u.toNat - l.toNat:=by rw[List.length_take,List.length_drop];omega
          refine⟨rfl,rfl,.rJ (u.toNat - l.toNat) (tk (Nat.mul (u.toNat - l.toNat) size) (dp (Nat.mul l.toNat size) ls)),?_,?_⟩
          ·rw[xI hp rfl]
           unfold ub
           rw[hp]
           simp only[this,b1]
           rfl
          ·refine .c ⟨_,rfl,.inr ⟨_,(k1.drop (EV.length ty) l.toNat).take (EV.length ty) (u.toNat - l.toNat),.inl ?_⟩⟩ fun h=>(h rfl).elim
           rw[hle,vJ,qR,hs];rfl
         ·subst k2
          have:x.length=q:=by cases q3;rfl
          obtain⟨a1,a2,a3⟩:=FN (id:=0) rfl k4 k1 (off:=l.toNat) (m:=u.toNat - l.toNat) (by omega)
          refine⟨rfl,rfl,_,wc hp (by rw[this];exact b1) hs.symm,?_⟩
          refine .c ⟨_,rfl,yK (id:=id) (base:=base+l.toNat*Lf.size ty) ?_ k3 ?_ a3⟩ fun h=>(h rfl).elim
          ·rw[a1,hs]
          ·rw[a1];exact a2
      ·cases e
     ·cases e
    ·cases e
   ·cases e
  ·cases e
 ·cases e
theorem KA(size:Nat)(a:Od)(lo hi:Option Od):og (yG size a lo hi) (fun _ _=>oE size (cI a) (lo.map cI) (hi.map cI)):=mX (HP size a lo hi)
theorem HQ(n size:Nat)(a:Od)(lo hi:Option Od): ∀ (E:En) (T:Tq) (t:Tm) (H:Hq) (h:Hp) (v:Sv) (T':Tq) (H':Hq),TV E H.next T t->SR E H h->(yH n size a lo hi T H).val=some (v,T',H')->H'=H/\T'=T/\ ∃ c,pP n size (cI a) (lo.map cI) (hi.map cI) t h=.ok c h/\V E H.next v c:=by
 intro E T t H h v T' H' hT hH e
 unfold yH at e
 split at e
 ·rename_i r o ha
  split at e
  ·rename_i l hl
   split at e
   ·rename_i u hu
    split at e
    ·rename_i cs rj
     cases hs:(Nat.ble (Nat.add o (Nat.mul n size)) (len cs)&&(nH l u (Int.ofNat n)&&Nat.blt 0 size))with
     |false=>rw[hs]at e;cases e
     |true=>
      rw[hs]at e
      rw[Bool.and_eq_true,Bool.and_eq_true]at hs
      obtain⟨rfl,rfl,rfl⟩:=cB e
      obtain⟨b1,b2,b3⟩:=zT (n:=(n:Int)) (m:=n) hT rfl rfl hl hu hs.2.1
      obtain⟨p,hp,rA⟩:=cG hT ha
      obtain⟨id,row,k1,k2,k3⟩:=zR hH rj
      cases rA with
      |rf h1 h2=>
       rw[k1]at h2;cases h2
       refine⟨rfl,rfl,_,?_,.xo (id:=id) h1 k1⟩
       unfold pP
       rw[hp]
       have q:=hs.1
       rw[cQ,k3.length,nR]at q
       simp only[b1,k2,q]
       rfl
    ·cases e
   ·cases e
  ·cases e
 ·cases e
theorem KB(n size:Nat)(a:Od)(lo hi:Option Od):og (yH n size a lo hi) (fun _ _=>pP n size (cI a) (lo.map cI) (hi.map cI)):=mX (HQ n size a lo hi)
theorem KC(a:Od)(lo hi:Option Od):og (FH a lo hi) (fun _ _=>qO (cI a) (lo.map cI) (hi.map cI)):=mX (by
 intro E T t H h v T' H' hT hH e
 unfold FH at e
 split at e
 ·rename_i w hw
  split at e
  ·rename_i s hs
   split at e
   ·rename_i l hl
    split at e
    ·rename_i u hu
     cases hc:nH l u (Int.ofNat s.size)with
     |false=>rw[hc]at e;cases e
     |true=>
      rw[hc]at e
      obtain⟨rfl,rfl,rfl⟩:=cB e
      obtain⟨b1,b2,b3⟩:=zT (n:=(s.size:Int)) (m:=s.size) hT rfl rfl hl hu hc
      obtain⟨p,hp,rA⟩:=cG hT hw
      have:=vt rA hs;subst this
      refine⟨rfl,rfl,_,?_,.a rfl⟩
      unfold qO
      rw[hp]
      simp only[b1]
    ·cases e
   ·cases e
  ·cases e
 ·cases e)
theorem Y'(x y z:Od):og (ael x y z) (fun _ _=>BQ (cI x) (cI y) (cI z)):=mX (by
 intro E T t H h v T' H' hT hH e
 unfold ael at e
 split at e
 ·rename_i k hy
  split at e
  ·rename_i k' hz
   obtain⟨c,hc,oN⟩:=cG hT hy
   obtain⟨d,hd,Xc⟩:=cG hT hz
   cases oN;cases Xc
   have key: ∀ {w:Sv} {p:AV},cI x t=some (zt p)->V E H.next w p->(nr p=true∨(∃ id o n s,p=.nW id o n s)∨ ∃ n cs,p=.rJ n cs)->BQ (cI x) (cI y) (cI z) t h=.ok .pO h:=by
    intro w p h1 h2 h3
    unfold BQ
    rw[hc,hd,h1]
    rcases h3 with h3|⟨_,_,_,_,rfl⟩|⟨_,_,rfl⟩
    ·rw[oH h3];rfl
    ·rfl
    ·rfl
   split at e
   ·rename_i w hx
    cases hw:nr w with
    |false=>rw[hw]at e;cases e
    |true=>
     rw[hw]at e
     obtain⟨rfl,rfl,rfl⟩:=cB e
     obtain⟨p,hp,rA⟩:=uf hT hx
     refine⟨rfl,rfl,_,key hp rA ?_,.a rfl⟩
     cases rA;exact .inl hw
   ·rename_i hx
    obtain⟨rfl,rfl,rfl⟩:=cB e
    obtain⟨p,hp,rA⟩:=uf hT hx
    refine⟨rfl,rfl,_,key hp rA ?_,.a rfl⟩
    cases rA with
    |os _ h2=>rcases h2 with⟨h2,_⟩|⟨_,_,h2⟩
              ·exact .inl h2
              ·exact .inr (.inl ⟨_,_,_,_,h2⟩)
   ·rename_i hx
    obtain⟨rfl,rfl,rfl⟩:=cB e
    obtain⟨p,hp,rA⟩:=uf hT hx
    refine⟨rfl,rfl,_,key hp rA ?_,.a rfl⟩
    cases rA with
    |se _ h2 _ _=>exact .inl h2
    |ss _ _ _=>exact .inr (.inl ⟨_,_,_,_,rfl⟩)
   ·rename_i hx
    obtain⟨rfl,rfl,rfl⟩:=cB e
    obtain⟨p,hp,rA⟩:=uf hT hx
    refine⟨rfl,rfl,_,key hp rA ?_,.a rfl⟩
    cases rA
    exact .inr (.inl ⟨_,_,_,_,rfl⟩)
   ·rename_i hx
    obtain⟨rfl,rfl,rfl⟩:=cB e
    obtain⟨p,hp,rA⟩:=uf hT hx
    refine⟨rfl,rfl,_,key hp rA ?_,.a rfl⟩
    cases rA with
    |c k _=>
     obtain⟨b,hb,k⟩:=k
     cases hb
     rcases k with⟨k,_⟩|⟨_,_,k|⟨_,_,_,k,_⟩⟩
     ·exact .inl k
     ·exact .inr (.inr ⟨_,_,k⟩)
     ·exact .inr (.inl ⟨_,_,_,_,k⟩)
   ·cases e
  ·cases e
 ·cases e)
theorem Za(x:Od):og (nM x) (fun _ _=>BO (cI x)):=mX (by
 intro E T t H h v T' H' hT hH e
 unfold nM at e
 split at e
 ·rename_i w hx
  cases hw:nr w with
  |false=>rw[hw]at e;cases e
  |true=>
   rw[hw]at e
   obtain⟨rfl,rfl,rfl⟩:=cB e
   obtain⟨p,hp,rA⟩:=uf hT hx
   cases rA
   rw[oH hw]at hp
   refine⟨rfl,rfl,_,?_,.i⟩
   unfold BO
   rw[hp]
 ·cases e)
end Lf
end Go.Ab
