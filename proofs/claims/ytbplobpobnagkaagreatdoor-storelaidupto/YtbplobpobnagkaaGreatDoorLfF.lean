import Derived.Test.YtbplobpobnagkaaGreatDoorLfD9
noncomputable section
namespace Go.Ab
namespace Lf
abbrev Pl:=(t:Ty)×den t
inductive jT where
 |n (k:IntKind)|li (k:IntKind) (m:Int)|bo|lb (b:Bool)|st|im (t:Ty)|ow (t:Ty)|av (v:AV)|pt (g:Nat) (l:jT)|ag (l:jT)|tu (l:jT)
 |nil|cons (a l:jT)|fn (f:FuncId) (l:jT)|el (j sz o:Nat)|rp (j o:Nat)|oo (j sz:Nat)|zp (l:jT)
def gp(p:jT):List Pl->Hq->Option (List Sv×List Pl×Hq):=
 jT.rec (motive:=fun _=>List Pl->Hq->Option (List Sv×List Pl×Hq))
  (fun k pl H=>match pl with
   |⟨.int k',x⟩::r=>bif jv k k' then some ([.c 0 (.int k) x],r,H)else none
   | _=>none)
  (fun k m pl H=>some ([.i k m],pl,H))
  (fun pl H=>match pl with
   |⟨.bool,x⟩::r=>some ([.c 0 .bool x],r,H)
   | _=>none)
  (fun b pl H=>some ([.b b],pl,H))
  (fun pl H=>match pl with
   |⟨.str,x⟩::r=>some ([.c 0 .str x],r,H)
   | _=>none)
  (fun t pl H=>match pl with
   |⟨t',x⟩::r=>(match vM t' (.ae t)with
    |some ⟨e⟩=>some ([.c H.next (.ae t) (e▸x)],r,⟨Nat.add H.next 1,H.aL⟩)
    |none=>none)
   | []=>none)
  (fun t pl H=>match pl with
   |⟨t',x⟩::r=>(match vM t' (.ae t)with
    |some ⟨e⟩=>some ([.os H.next (size t)],r,eK H (.l t (e▸x:den (.ae t))))
    |none=>none)
   | []=>none)
  (fun v pl H=>some ([.a v],pl,H))
  (fun g _ ih pl H=>match ih pl H with
   |some (cs,r,H)=>some ([.rf H.next 0],r,eK H (.o g cs))
   |none=>none)
  (fun _ ih pl H=>match ih pl H with
   |some (cs,r,H)=>some ([.ag cs],r,H)
   |none=>none)
  (fun _ ih pl H=>match ih pl H with
   |some (cs,r,H)=>some ([.tu cs],r,H)
   |none=>none)
  (fun pl H=>some ([],pl,H))
  (fun _ _ sB ihl pl H=>match sB pl H with
   |some (v,r,H)=>(match ihl r H with
    |some (w,r,H)=>some (app v w,r,H)
    |none=>none)
   |none=>none)
  (fun f _ ih pl H=>match ih pl H with
   |some (cs,r,H)=>some ([.fn f cs],r,H)
   |none=>none)
  (fun j sz o pl H=>match pl with
   |⟨.int _,x⟩::r=>some ([.re j sz (Int.toNat x) o],r,H)
   | _=>none)
  (fun j o pl H=>some ([.rf j o],pl,H))
  (fun j sz pl H=>some ([.os j sz],pl,H))
  (fun _ ih pl H=>match ih pl H with
   |some (cs,r,H)=>some ([.zp cs],r,H)
   |none=>none) p
structure Xq where
 H:Hq
 c:Nat
 rn:List (Nat×Nat)
def Dw(H:Hq)(r:Nat):Bool:=match H.aL.get r with
 |some R=>R.live
 |none=>false
def rD(rn:List (Nat×Nat))(H:Hq):Bool:=List.rec true (fun p _ ih=>bif Dw H p.2 then ih else false) rn
def yp(r:Nat)(rn:List (Nat×Nat)):Bool:=List.rec true (fun p _ ih=>bif Nat.beq p.2 r then false else ih) rn
def look(j:Nat)(rn:List (Nat×Nat)):Option Nat:=List.rec none (fun p _ ih=>bif Nat.beq p.1 j then some p.2 else ih) rn
def X8(t:Ty)(v:Sv)(H:Hq):Option (List (den t)×Hq×Nat):=match Mh t v H with
 |some (x,H1)=>(match kill v H1 with
  |some H2=>some (x,eK H2 (.l t x),H2.next)
  |none=>none)
 |none=>none
def SC(t:Ty)(v:Sv)(H:Hq):Option (List (den t)×Hq×Nat):=match v with
 | .os r _=>(match H.aL.get r with
  |some (.l t' x)=>(match vM t' t with
   |some ⟨e⟩=>some (e▸x,H,r)
   |none=>none)
  | _=>none)
 |v=>X8 t v H
def yq(p:jT):List Sv->Xq->Option (List Pl×List Sv×Xq):=
 jT.rec (motive:=fun _=>List Sv->Xq->Option (List Pl×List Sv×Xq))
  (fun k l X=>match l with
   |v::r=>(match toN v with
    |some (k',x)=>bif jv k k' then some ([⟨.int k,x⟩],r,X)else none
    |none=>none)
   | []=>none)
  (fun k m l X=>match l with
   | .i k' m'::r=>bif jv k k'&&eqI m m' then some ([],r,X)else none
   | _=>none)
  (fun l X=>match l with
   |v::r=>(match toB v with
    |some b=>some ([⟨.bool,b.v⟩],r,X)
    |none=>none)
   | []=>none)
  (fun b l X=>match l with
   | .b b'::r=>bif (bif b then b' else !b')then some ([],r,X)else none
   | _=>none)
  (fun l X=>match l with
   |v::r=>(match toS v with
    |some (_,s)=>some ([⟨.str,s⟩],r,X)
    |none=>none)
   | []=>none)
  (fun t l X=>match l with
   |v::r=>(match lst t v X.H with
    |some (x,H1)=>bif rD X.rn H1 then some ([⟨.ae t,x⟩],r,⟨H1,Nat.add X.c 1,X.rn⟩)else none
    |none=>none)
   | []=>none)
  (fun t l X=>match l with
   |v::r=>(match SC t v X.H with
    |some (x,H1,q)=>bif rD X.rn H1&&yp q X.rn then some ([⟨.ae t,x⟩],r,⟨H1,Nat.add X.c 1,(X.c,q)::X.rn⟩)else none
    |none=>none)
   | []=>none)
  (fun v l X=>match l with
   | .a w::r=>bif mX v w then some ([],r,X)else none
   | _=>none)
  (fun g _ ih l X=>match l with
   | .rf r 0::rest=>(match X.H.aL.get r with
    |some (.o g' cells)=>(bif Nat.beq g 0||Nat.beq g g' then(match ih cells X with
     |some (pl,[],X1)=>(match X1.H.aL.get r with
      |some (.o g2 _)=>bif Nat.beq g' g2&&yp r X1.rn then some (pl,rest,⟨X1.H,Nat.add X1.c 1,(X1.c,r)::X1.rn⟩)else none
      | _=>none)
     | _=>none)else none)
    | _=>none)
   | _=>none)
  (fun _ ih l X=>match l with
   | .ag cells::rest=>(match ih cells X with
    |some (pl,[],X1)=>some (pl,rest,X1)
    | _=>none)
   | _=>none)
  (fun _ ih l X=>match l with
   | .tu cells::rest=>(match ih cells X with
    |some (pl,[],X1)=>some (pl,rest,X1)
    | _=>none)
   | _=>none)
  (fun l X=>some ([],l,X))
  (fun _ _ sB ihl l X=>match sB l X with
   |some (pa,r,X1)=>(match ihl r X1 with
    |some (pb,r,X2)=>some (app pa pb,r,X2)
    |none=>none)
   |none=>none)
  (fun f _ ih l X=>match l with
   | .fn f' caps::rest=>(bif Nat.beq f f' then(match ih caps X with
    |some (pl,[],X1)=>some (pl,rest,X1)
    | _=>none)else none)
   | _=>none)
  (fun j sz o l X=>match l with
   | .re r X9 i o'::rest=>(match look j X.rn with
    |some r'=>bif Nat.beq r r'&&(Nat.beq sz X9&&Nat.beq o o')then some ([⟨.int .i64,Int.ofNat i⟩],rest,X)else none
    |none=>none)
   | _=>none)
  (fun j o l X=>match l with
   | .rf r o'::rest=>(match look j X.rn with
    |some r'=>bif Nat.beq r r'&&Nat.beq o o' then some ([],rest,X)else none
    |none=>none)
   | _=>none)
  (fun j sz l X=>match l with
   | .os r X9::rest=>(match look j X.rn with
    |some r'=>bif Nat.beq r r'&&Nat.beq sz X9 then some ([],rest,X)else none
    |none=>none)
   | _=>none)
  (fun _ ih l X=>match l with
   | .zp cells::rest=>(match ih cells X with
    |some (pl,[],X1)=>some (pl,rest,X1)
    | _=>none)
   | _=>none) p
structure Sub(E0:En)(H0:Hq)(E:En)(X:Xq)(h:Hp):Prop where
 c:H0.next=X.c
 pos:0<X.c
 S0:SR E0 H0 h
 G:E0.G=E.G
 A:E0.A=E.A
 rn: ∀ p,p∈X.rn->p.1<X.c/\own X.H p.2/\own H0 p.1/\E0.K p.1=E.K p.2
 ow: ∀ j,own H0 j-> ∃ r,(j,r)∈X.rn
 inj: ∀ j j' r,(j,r)∈X.rn->(j',r)∈X.rn->j=j'
theorem Jz{H:Hq}{r:Nat}:Dw H r=true↔own H r:=by
 unfold Dw own
 cases e:H.aL.get r with
 |none=>simp
 |some R=>simp
theorem qO{H:Hq}: ∀ {rn:List (Nat×Nat)},rD rn H=true-> ∀ p,p∈rn->own H p.2
 | [],_,p,hp=>by cases hp
 |q::rn,h,p,hp=>by
  have h:(bif Dw H q.2 then rD rn H else false)=true:=h
  cases hb:Dw H q.2 with
  |false=>rw[hb]at h;cases h
  |true=>
   rw[hb]at h
   rcases List.mem_cons.1 hp with e|e
   ·subst e;exact Jz.1 hb
   ·exact qO h p e
theorem At{r:Nat}: ∀ {rn:List (Nat×Nat)},yp r rn=true-> ∀ j,(j,r)∉rn
 | [],_,j,hp=>by cases hp
 |q::rn,h,j,hp=>by
  have h:(bif Nat.beq q.2 r then false else yp r rn)=true:=h
  cases hb:Nat.beq q.2 r with
  |true=>rw[hb]at h;cases h
  |false=>
   rw[hb]at h
   rcases List.mem_cons.1 hp with e|e
   ·subst e;rw[Nat.beq_refl]at hb;cases hb
   ·exact At h j e
theorem oz{j r:Nat}: ∀ {rn:List (Nat×Nat)},look j rn=some r->(j,r)∈rn
 | [],h=>by cases h
 |q::rn,h=>by
  have h:(bif Nat.beq q.1 j then some q.2 else look j rn)=some r:=h
  cases hb:Nat.beq q.1 j with
  |true=>rw[hb]at h;cases h;rw[<-beq_true hb];exact List.mem_cons_self
  |false=>rw[hb]at h;exact List.mem_cons_of_mem _ (oz h)
theorem air{E0:En}{H0:Hq}{h:Hp}(S:SR E0 H0 h){G:Nat->Option Rw}(hG:RU E0.G G)(hg: ∀ id row,G id=some row->id<h.next/\h.aL.get id=some row/\ ∀ r,own H0 r->ly (E0.K r).av≠some id):SR ⟨E0.K,E0.tk,G,E0.A⟩ H0 h where
 row r R e:=⟨(S.row r R e).1,RV.mono (E:=E0) (E':=⟨E0.K,E0.tk,G,E0.A⟩) (N:=H0.next) ⟨fun _ _=>rfl,fun _ _=>rfl,hG,rfl⟩ (Nat.le_refl _) (fun _ _ _ _ e=>e) (S.row r R e).2⟩
 inj:=S.inj
 lt:=S.lt
 g:=hg
theorem SD{E0:En}{H0:Hq}{h:Hp}(S:SR E0 H0 h){k:Kr}{R:Row}(hR:RV E0 H0.next h k R)(live:R.live=true)(jB: ∀ id,ly k.av=some id->id<h.next/\(∀ j,own H0 j->ly (E0.K j).av≠some id)/\ ∀ row,E0.G id≠some row):
 SR (E0.row H0.next k) (eK H0 R) h:=by
 have hle:=En.qC E0 H0.next k
 have K0:(E0.row H0.next k).K H0.next=k:=if_pos rfl
 have K1: ∀ r,r<H0.next->(E0.row H0.next k).K r=E0.K r:=fun r hr=>if_neg (by omega)
 have n5: ∀ r,own (eK H0 R) r->r=H0.next∨(r<H0.next/\own H0 r):=by
  rintro r ⟨R',a,b⟩
  rw[kP]at a
  split at a
  ·exact .inl ‹_›
  ·exact .inr ⟨(S.row _ _ a).1,R',a,b⟩
 refine⟨?_,?_,?_,?_⟩
 ·intro r R' hr
  rw[kP]at hr
  split at hr
  ·rename_i e;cases hr;subst e;rw[K0]
   exact⟨Nat.lt_succ_self _,hR.mono hle (Nat.le_succ _) fun _ _ _ _ e=>e⟩
  ·have h0:=S.row _ _ hr
   refine⟨Nat.lt_succ_of_lt h0.1,?_⟩
   rw[K1 _ h0.1]
   exact h0.2.mono hle (Nat.le_succ _) fun _ _ _ _ e=>e
 ·intro r r' id o o' e e'
  rcases n5 r o with a|⟨a1,a2⟩<;>rcases n5 r' o' with b|⟨b1,b2⟩
  ·rw[a,b]
  ·subst a;rw[K0]at e;rw[K1 _ b1]at e'
   exact((jB id e).2.1 r' b2 e').elim
  ·subst b;rw[K0]at e';rw[K1 _ a1]at e
   exact((jB id e').2.1 r a2 e).elim
  ·rw[K1 _ a1]at e;rw[K1 _ b1]at e'
   exact S.inj r r' id a2 b2 e e'
 ·intro r id o e
  rcases n5 r o with a|⟨a1,a2⟩
  ·subst a;rw[K0]at e;exact(jB id e).1
  ·rw[K1 _ a1]at e;exact S.lt r id a2 e
 ·intro id row e
  obtain⟨a,b,c⟩:=S.g id row e
  refine⟨a,b,fun r o e2=>?_⟩
  rcases n5 r o with q|⟨q1,q2⟩
  ·subst q;rw[K0]at e2;exact(jB id e2).2.2 row e
  ·rw[K1 _ q1]at e2;exact c r q2 e2
theorem Ya{E0:En}{H0:Hq}{h:Hp}(S:SR E0 H0 h)(a:AV):SR ⟨E0.K,fun i=>if i=H0.next then a else E0.tk i,E0.G,E0.A⟩ ⟨Nat.add H0.next 1,H0.aL⟩ h where
 row r R e:=⟨Nat.lt_succ_of_lt (S.row r R e).1,RV.mono (E:=E0) (E':=⟨E0.K,fun i=>if i=H0.next then a else E0.tk i,E0.G,E0.A⟩) (N:=H0.next) ⟨fun _ _=>rfl,fun i hi=>if_neg (by omega),fun _ _ e=>e,rfl⟩ (Nat.le_succ _) (fun _ _ _ _ e=>e) (S.row r R e).2⟩
 inj:=S.inj
 lt:=S.lt
 g:=S.g
theorem Sub.VG{E0:En}{H0:Hq}{E E':En}{X:Xq}{h:Hp}(S:SR E X.H h)(s:Sub E0 H0 E X h){H1:Hq}(n:Nx E E' X.H H1 h h)(S':SR E' H1 h)(hl: ∀ p,p∈X.rn->own H1 p.2):Sub ⟨E0.K,E0.tk,E'.G,E0.A⟩ H0 E' ⟨H1,X.c,X.rn⟩ h:=by
 have hK: ∀ p,p∈X.rn->E'.K p.2=E.K p.2:=fun p hp=>by
  obtain⟨_,⟨R,oR,_⟩,_,_⟩:=s.rn p hp
  exact n.e.K _ (S.row _ _ oR).1
 refine⟨s.c,s.pos,?_,rfl,by rw[n.e.A];exact s.A,fun p hp=>?_,s.ow,s.inj⟩
 ·refine air s.S0 (by rw[s.G];exact n.e.G) fun id row e=>?_
  obtain⟨a,b,c⟩:=S'.g id row e
  refine⟨a,b,fun j o q=>?_⟩
  obtain⟨r,hr⟩:=s.ow j o
  obtain⟨_,_,_,k⟩:=s.rn _ hr
  rw[k]at q
  exact c r (hl _ hr) (by rw[hK _ hr];exact q)
 ·obtain⟨a,_,c,d⟩:=s.rn p hp
  exact⟨a,hl p hp,c,by rw[hK p hp];exact d⟩
theorem Sub.M5{E0:En}{H0:Hq}{E:En}{X:Xq}{h:Hp}(S:SR E X.H h)(s:Sub E0 H0 E X h){q:Nat}(hq:own X.H q)(hn:yp q X.rn=true){R':Row}(lv:R'.live=true)(hR:RV E0 H0.next h (E.K q) R'):
 Sub (E0.row H0.next (E.K q)) (eK H0 R') E ⟨X.H,Nat.add X.c 1,(X.c,q)::X.rn⟩ h:=by
 have hn:=At hn
 have K0:(E0.row H0.next (E.K q)).K H0.next=E.K q:=if_pos rfl
 have K1: ∀ r,r<H0.next->(E0.row H0.next (E.K q)).K r=E0.K r:=fun r hr=>if_neg (by omega)
 refine⟨by show Nat.add H0.next 1=Nat.add X.c 1;rw[s.c],Nat.succ_pos _,?_,s.G,s.A,fun p hp=>?_,fun j o=>?_,fun j j' r a b=>?_⟩
 ·refine SD s.S0 hR lv fun id e=>⟨S.lt q id hq e,fun j o e2=>?_,fun row e2=>?_⟩
  ·obtain⟨r,hr⟩:=s.ow j o
   obtain⟨_,o2,_,k⟩:=s.rn _ hr
   rw[k]at e2
   have:r=q:=S.inj r q id o2 hq e2 e
   subst this
   exact hn j hr
  ·rw[s.G]at e2
   exact(S.g id row e2).2.2 q hq e
 ·rcases List.mem_cons.1 hp with e|e
  ·subst e
   refine⟨Nat.lt_succ_self _,hq,?_,by rw[<-s.c,K0]⟩
   exact⟨R',by rw[kP,if_pos s.c.symm],lv⟩
  ·obtain⟨a,b,c,d⟩:=s.rn p e
   have gG:p.1<H0.next:=by rw[s.c];exact a
   refine⟨Nat.lt_succ_of_lt a,b,?_,by rw[K1 _ gG];exact d⟩
   obtain⟨Q,q1,q2⟩:=c
   exact⟨Q,by rw[kP,if_neg (by omega)];exact q1,q2⟩
 ·obtain⟨Q,q1,q2⟩:=o
  rw[kP]at q1
  split at q1
  ·rename_i e;exact⟨q,by rw[e,s.c];exact List.mem_cons_self⟩
  ·obtain⟨r,hr⟩:=s.ow j ⟨Q,q1,q2⟩;exact⟨r,List.mem_cons_of_mem _ hr⟩
 ·rcases List.mem_cons.1 a with e|e<;>rcases List.mem_cons.1 b with f|f
  ·cases e;cases f;rfl
  ·cases e;exact(hn j' f).elim
  ·cases f;exact(hn j e).elim
  ·exact s.inj j j' r e f
theorem SE{t:Ty}{E:En}{H H3:Hq}{h:Hp}{v:Sv}{a:AV}{x:List (den t)}{q:Nat}(S:SR E H h)(hv:V E H.next v a)(e:SC t v H=some (x,H3,q)):
 ∃ E3,Nx E E3 H H3 h h/\SR E3 H3 h/\H3.aL.get q=some (.l t x)/\(E3.K q).av=a:=by
 have gen:X8 t v H=some (x,H3,q)-> ∃ E3,Nx E E3 H H3 h h/\SR E3 H3 h/\H3.aL.get q=some (.l t x)/\(E3.K q).av=a:=by
  intro e
  unfold X8 at e
  split at e
  ·rename_i y H1 hy
   split at e
   ·rename_i H2 h2
    cases e
    obtain⟨E1,F,D⟩:=Br S hv hy
    have k:=Bs (F.v hv) h2
    have hR:RV E1 H1.next h ⟨a,x.length⟩ (.l t x):=by
     refine⟨rfl,?_⟩
     rcases D with d|⟨id,base,row,ls,d1,d2,d3,d4⟩
     ·exact .inl d
     ·exact .inr ⟨id,base,row,ls,d1,d2,d3,d4⟩
    obtain⟨S3,X3⟩:=kQ F.S k.n k.sub (Nat.le_refl _) (h':=h) (fun _ _ _=>rfl) (fun id e=>by
     obtain⟨r,o,no,er⟩:=k.id id e
     exact⟨F.S.lt r id o er,.inr ⟨r,o,no,er⟩⟩) hR rfl
    refine⟨_,F.X.trans X3,S3,by rw[kP,if_pos rfl],?_⟩
    rw[k.n]
    show(if H1.next=H1.next then _ else _:Kr).av=a
    rw[if_pos rfl]
   ·cases e
  ·cases e
 unfold SC at e
 split at e
 ·rename_i r s
  split at e
  ·rename_i t' y hr
   split at e
   ·rename_i p hp
    cases p
    cases e
    refine⟨E,Nx.refl _ _ _,S,hr,?_⟩
    cases hv with
    |os _ _=>rfl
   ·cases e
  ·cases e
 ·exact gen e
def acS(p:jT):Prop:= ∀ {E0:En} {H0:Hq} {E:En} {X X':Xq} {h:Hp} {vs rest:List Sv} {cs:List AV} {pl:List Pl},SR E X.H h->Sub E0 H0 E X h->Vs E X.H.next vs cs->yq p vs X=some (pl,rest,X')->
 ∃ E' uT ui ws GU xw,Nx E E' X.H X'.H h h/\SR E' X'.H h/\Sub uT ui E' X' h/\cs=GU++xw/\Vs E' X'.H.next rest xw/\(∀ tail,gp p (pl++tail) H0=some (ws,tail,ui))/\Vs uT ui.next ws GU/\w7 E0 uT H0.next/\H0.next<=ui.next
theorem j3{p:jT}{E0:En}{H0:Hq}{E:En}{X:Xq}{h:Hp}{rest:List Sv}{a:AV}{cs:List AV}{pl:List Pl}{w:Sv}(S:SR E X.H h)(s:Sub E0 H0 E X h)(hr:Vs E X.H.next rest cs)(hf: ∀ tail,gp p (pl++tail) H0=some ([w],tail,H0))(hw:V E0 H0.next w a):
 ∃ E' uT ui ws GU xw,Nx E E' X.H X.H h h/\SR E' X.H h/\Sub uT ui E' X h/\a::cs=GU++xw/\Vs E' X.H.next rest xw/\(∀ tail,gp p (pl++tail) H0=some (ws,tail,ui))/\Vs uT ui.next ws GU/\w7 E0 uT H0.next/\H0.next<=ui.next:=
 ⟨E,E0,H0,[w],[a],cs,Nx.refl _ _ _,S,s,rfl,hr,hf,.cons hw .nil,w7.refl _ _,Nat.le_refl _⟩
theorem mK: ∀ (t:Ty),vM t t=some ⟨rfl⟩
 | .int k=>by unfold vM;rw[dif_pos rfl]
 | .bool=>rfl
 | .str=>rfl
 | .ae a=>by unfold vM;rw[mK a]
 | .pair a b=>by unfold vM;rw[mK a,mK b]
theorem FV(p:jT):acS p:=by
 induction p with
 |n k=>
  intro E0 H0 E X X' h vs rest cs pl S s hv e
  cases hv with
  |nil=>cases e
  |cons a l=>
   change (match toN _ with|some (k',x)=>bif jv k k' then some ([⟨.int k,x⟩],_,X)else none|none=>none)=some (pl,rest,X')at e
   split at e
   ·rename_i k' x hx
    obtain⟨hk,e⟩:=bQ e
    cases e
    have:=iE a hx
    subst this
    have:=eO.1 hk;subst this
    exact j3 S s l (fun tail=>by show(bif jv k k then _ else _)=_;rw[yh];rfl) gm
   ·cases e
 |li k m=>
  intro E0 H0 E X X' h vs rest cs pl S s hv e
  cases hv with
  |nil=>cases e
  |cons a l=>
   rename_i v c vs cs
   cases v with
   |i k' m'=>
    have e1:=(bQ (show(bif jv k k'&&eqI m m' then some (([]:List Pl),vs,X)else none)=some (pl,rest,X')from e)).1
    have e2:=(bQ (show(bif jv k k'&&eqI m m' then some (([]:List Pl),vs,X)else none)=some (pl,rest,X')from e)).2
    cases e2
    rw[Bool.and_eq_true]at e1
    have:=eO.1 e1.1;subst this
    have:=ga.1 e1.2;subst this
    cases a
    exact j3 S s l (fun tail=>rfl) .i
   | _=>cases e
 |bo=>
  intro E0 H0 E X X' h vs rest cs pl S s hv e
  cases hv with
  |nil=>cases e
  |cons a l=>
   change (match toB _ with|some b=>some ([⟨.bool,b.v⟩],_,X)|none=>none)=some (pl,rest,X')at e
   split at e
   ·rename_i b hb
    cases e
    have:=iD a hb
    subst this
    exact j3 S s l (fun tail=>rfl) lM
   ·cases e
 |lb b=>
  intro E0 H0 E X X' h vs rest cs pl S s hv e
  cases hv with
  |nil=>cases e
  |cons a l=>
   rename_i v c vs cs
   cases v with
   |b b'=>
    have e1:=(bQ (show(bif (bif b then b' else !b')then some (([]:List Pl),vs,X)else none)=some (pl,rest,X')from e)).1
    have e2:=(bQ (show(bif (bif b then b' else !b')then some (([]:List Pl),vs,X)else none)=some (pl,rest,X')from e)).2
    cases e2
    have:b=b':=by cases b<;>cases b'<;>first|rfl|cases e1
    subst this
    cases a
    exact j3 S s l (fun tail=>rfl) .b
   | _=>cases e
 |st=>
  intro E0 H0 E X X' h vs rest cs pl S s hv e
  cases hv with
  |nil=>cases e
  |cons a l=>
   change (match toS _ with|some (_,y)=>some ([⟨.str,y⟩],_,X)|none=>none)=some (pl,rest,X')at e
   split at e
   ·rename_i b y hb
    cases e
    have:=qf a hb
    subst this
    exact j3 S s l (fun tail=>rfl) (.c rfl fun h=>(h rfl).elim)
   ·cases e
 |im t=>
  intro E0 H0 E X X' h vs rest cs pl S s hv e
  cases hv with
  |nil=>cases e
  |cons a l=>
   rename_i v c vs cs
   change (match lst t v X.H with|some (x,H1)=>bif rD X.rn H1 then some ([⟨.ae t,x⟩],vs,⟨H1,Nat.add X.c 1,X.rn⟩)else none|none=>none)=some (pl,rest,X')at e
   split at e
   ·rename_i x H1 hx
    obtain⟨hl,e⟩:=bQ e
    cases e
    obtain⟨E1,F,k⟩:=ME S a hx
    have s1:=s.VG S F.X F.S (qO hl)
    refine⟨E1,⟨E0.K,fun i=>if i=H0.next then c else E0.tk i,E1.G,E0.A⟩,⟨Nat.add H0.next 1,H0.aL⟩,[.c H0.next (.ae t) x],[c],cs,F.X,F.S,?_,rfl,F.vs l,fun tail=>?_,?_,?_,Nat.le_succ _⟩
    ·refine⟨by show Nat.add H0.next 1=Nat.add X.c 1;rw[s.c],Nat.succ_pos _,Ya s1.S0 c,rfl,s1.A,fun p hp=>?_,s1.ow,s1.inj⟩
     obtain⟨p1,p2,p3,p4⟩:=s1.rn p hp
     exact⟨Nat.lt_succ_of_lt p1,p2,p3,p4⟩
    ·unfold gp;simp only[List.cons_append,List.nil_append,mK]
    ·exact .cons (.c ⟨c,rfl,k⟩ fun _=>⟨Nat.lt_succ_self _,(if_pos rfl).symm⟩) .nil
    ·exact⟨fun _ _=>rfl,fun i hi=>if_neg (by omega),by rw[s.G];exact F.X.e.G,rfl⟩
   ·cases e
 |ow t=>
  intro E0 H0 E X X' h vs rest cs pl S s hv e
  cases hv with
  |nil=>cases e
  |cons a l=>
   rename_i v c vs cs
   change (match SC t v X.H with|some (x,H1,q)=>bif rD X.rn H1&&yp q X.rn then some ([⟨.ae t,x⟩],vs,⟨H1,Nat.add X.c 1,(X.c,q)::X.rn⟩)else none|none=>none)=some (pl,rest,X')at e
   split at e
   ·rename_i x H1 q hx
    obtain⟨hl,e⟩:=bQ e
    cases e
    rw[Bool.and_eq_true]at hl
    obtain⟨E1,X1,S1,hq,ha⟩:=SE S a hx
    have s1:=s.VG S X1 S1 (qO hl.1)
    have hR:=(S1.row q _ hq).2
    have s2:=s1.M5 S1 (q:=q) ⟨_,hq,rfl⟩ hl.2 (R':=.l t x) rfl (LR.mono (fun _ _ e=>e) (fun _ _ _ e=>e) hR)
    have K0:((⟨E0.K,E0.tk,E1.G,E0.A⟩:En).row H0.next (E1.K q)).K H0.next=E1.K q:=if_pos rfl
    refine⟨E1,_,_,[.os H0.next (size t)],[c],cs,X1,S1,s2,rfl,l.mono X1.e X1.le,fun tail=>?_,?_,?_,Nat.le_succ _⟩
    ·unfold gp;simp only[List.cons_append,List.nil_append,mK]
    ·refine .cons ?_ .nil
     have rm:=V.os (E:=(⟨E0.K,E0.tk,E1.G,E0.A⟩:En).row H0.next (E1.K q)) (N:=Nat.add H0.next 1) (r:=H0.next) (sz:=size t) (Nat.lt_succ_self _) (by
      rw[K0]
      rcases hR.2 with⟨k1,k2⟩|⟨id,base,row,ls,k1,_⟩
      ·exact .inl ⟨k1,by rw[<-hR.1,k2];rfl⟩
      ·exact .inr ⟨id,base,k1⟩)
     rw[K0,ha]at rm
     exact rm
    ·have le:=En.qC (⟨E0.K,E0.tk,E1.G,E0.A⟩:En) H0.next (E1.K q)
     exact⟨le.K,le.tk,by rw[s.G];exact X1.e.G,rfl⟩
   ·cases e
 |av v=>
  intro E0 H0 E X X' h vs rest cs pl S s hv e
  cases hv with
  |nil=>cases e
  |cons a l=>
   rename_i w c vs cs
   cases w with
   |a w=>
    have e1:=(bQ (show(bif mX v w then some (([]:List Pl),vs,X)else none)=some (pl,rest,X')from e)).1
    have e2:=(bQ (show(bif mX v w then some (([]:List Pl),vs,X)else none)=some (pl,rest,X')from e)).2
    cases e2
    have:=wW _ _ e1;subst this
    cases a with
    |a h=>exact j3 S s l (fun tail=>rfl) (.a h)
   | _=>cases e
 |pt g p ih=>
  intro E0 H0 E X X' h vs rest cs pl S s hv e
  cases hv with
  |nil=>cases e
  |cons a l=>
   rename_i v c vs cs
   cases v with
   |rf r o=>
    cases o with
    |succ _=>cases e
    |zero=>
     change (match X.H.aL.get r with
      |some (.o g' cells)=>(bif Nat.beq g 0||Nat.beq g g' then(match yq p cells X with
       |some (pl,[],X1)=>(match X1.H.aL.get r with
        |some (.o g2 _)=>bif Nat.beq g' g2&&yp r X1.rn then some (pl,vs,(⟨X1.H,Nat.add X1.c 1,(X1.c,r)::X1.rn⟩:Xq))else none
        | _=>none)
       | _=>none)else none)
      | _=>none)=some (pl,rest,X')at e
     split at e
     ·rename_i g' cells hr
      have hg:=(bQ e).1
      replace e:=(bQ e).2
      split at e
      ·rename_i pl' X1 hx
       split at e
       ·rename_i g2 ais hr2
        have hg2:=(bQ e).1
        replace e:=(bQ e).2
        cases e
        rw[Bool.and_eq_true]at hg2
        obtain⟨gG,id,row,k1,k2,k3,k4⟩:=S.row _ _ hr
        obtain⟨E1,uT,ui,ws,GU,xw,n1,S1,s1,c1,c2,c3,c4,c5,c6⟩:=ih S s k3 hx
        have Bx:xw=[]:=by cases c2;rfl
        rw[Bx,List.append_nil]at c1
        have hK:E1.K r=E.K r:=n1.e.K r gG
        have hR:RV uT ui.next h (E1.K r) (.o g ws):=by
         refine⟨id,row,by rw[hK];exact k1,k2,by rw[c1];exact c4,fun SF=>?_⟩
         have:g=g':=by
          rw[Bool.or_eq_true]at hg
          rcases hg with q|q
          ·exact(SF (beq_true q)).elim
          ·exact beq_true q
         subst this
         rw[hK,k4 SF,s1.A,n1.e.A]
        have s2:=s1.M5 S1 (q:=r) ⟨_,hr2,rfl⟩ hg2.2 rfl hR
        have K0:(uT.row ui.next (E1.K r)).K ui.next=E1.K r:=if_pos rfl
        cases a with
        |rf _ h2=>
         rename_i xt
         rw[k1]at h2;cases h2
         refine⟨E1,_,_,[.rf ui.next 0],[.ref id 0],cs,n1,S1,s2,rfl,l.mono n1.e n1.le,fun tail=>?_,?_,?_,Nat.le_succ_of_le c6⟩
         ·show(match gp p (pl++tail) H0 with|some (cs,r,H)=>some ([Sv.rf H.next 0],r,eK H (.o g cs))|none=>none)=_
          rw[c3]
         ·exact .cons (.rf (Nat.lt_succ_self _) (by rw[K0,hK];exact k1)) .nil
         ·exact c5.trans (En.qC _ _ _) c6
       ·cases e
      ·cases e
     ·cases e
   | _=>cases e
 |ag p ih=>
  intro E0 H0 E X X' h vs rest cs pl S s hv e
  cases hv with
  |nil=>cases e
  |cons a l=>
   rename_i v c vs cs
   cases v with
   |ag cells=>
    change (match yq p cells X with|some (pl,[],X1)=>some (pl,vs,X1)| _=>none)=some (pl,rest,X')at e
    split at e
    ·rename_i pl' X1 hx
     cases e
     cases a with
     |ag k=>
      rename_i l'
      obtain⟨E1,uT,ui,ws,GU,xw,n1,S1,s1,c1,c2,c3,c4,c5,c6⟩:=ih S s k hx
      have Bx:xw=[]:=by cases c2;rfl
      rw[Bx,List.append_nil]at c1
      refine⟨E1,uT,ui,[.ag ws],[.agg l'],cs,n1,S1,s1,rfl,l.mono n1.e n1.le,fun tail=>?_,.cons (.ag (by rw[c1];exact c4)) .nil,c5,c6⟩
      show(match gp p (pl++tail) H0 with|some (cs,r,H)=>some ([Sv.ag cs],r,H)|none=>none)=_
      rw[c3]
    ·cases e
   | _=>cases e
 |tu p ih=>
  intro E0 H0 E X X' h vs rest cs pl S s hv e
  cases hv with
  |nil=>cases e
  |cons a l=>
   rename_i v c vs cs
   cases v with
   |tu cells=>
    change (match yq p cells X with|some (pl,[],X1)=>some (pl,vs,X1)| _=>none)=some (pl,rest,X')at e
    split at e
    ·rename_i pl' X1 hx
     cases e
     cases a with
     |tu k=>
      rename_i l'
      obtain⟨E1,uT,ui,ws,GU,xw,n1,S1,s1,c1,c2,c3,c4,c5,c6⟩:=ih S s k hx
      have Bx:xw=[]:=by cases c2;rfl
      rw[Bx,List.append_nil]at c1
      refine⟨E1,uT,ui,[.tu ws],[.wm l'],cs,n1,S1,s1,rfl,l.mono n1.e n1.le,fun tail=>?_,.cons (.tu (by rw[c1];exact c4)) .nil,c5,c6⟩
      show(match gp p (pl++tail) H0 with|some (cs,r,H)=>some ([Sv.tu cs],r,H)|none=>none)=_
      rw[c3]
    ·cases e
   | _=>cases e
 |nil=>
  intro E0 H0 E X X' h vs rest cs pl S s hv e
  cases e
  exact⟨E,E0,H0,[],[],cs,Nx.refl _ _ _,S,s,rfl,hv,fun _=>rfl,.nil,w7.refl _ _,Nat.le_refl _⟩
 |cons p q ihp ihq=>
  intro E0 H0 E X X' h vs rest cs pl S s hv e
  change (match yq p vs X with|some (pa,r,X1)=>(match yq q r X1 with|some (pb,r,X2)=>some (app pa pb,r,X2)|none=>none)|none=>none)=some (pl,rest,X')at e
  split at e
  ·rename_i pa r X1 hx
   split at e
   ·rename_i pb r2 X2 hx2
    cases e
    obtain⟨E1,E1',H1',ws1,a1,a2,n1,S1,s1,c1,c2,c3,c4,c5,c6⟩:=ihp S s hv hx
    obtain⟨E2,E2',H2',ws2,b1,b2,n2,S2,s2,d1,d2,d3,d4,d5,d6⟩:=ihq S1 s1 c2 hx2
    refine⟨E2,E2',H2',ws1++ws2,a1++b1,b2,n1.trans n2,S2,s2,by rw[c1,d1,List.append_assoc],d2,fun tail=>?_,(c4.mono d5 d6).app d4,c5.trans d5 c6,Nat.le_trans c6 d6⟩
    rw[bp,List.append_assoc]
    show(match gp p (pa++(pb++tail)) H0 with|some (v,r,H)=>(match gp q r H with|some (w,r,H)=>some (app v w,r,H)|none=>none)|none=>none)=_
    rw[c3]
    simp only[d3,bp]
   ·cases e
  ·cases e
 |fn f p ih=>
  intro E0 H0 E X X' h vs rest cs pl S s hv e
  cases hv with
  |nil=>cases e
  |cons a l=>
   rename_i v c vs cs
   cases v with
   |fn f' caps=>
    change (bif Nat.beq f f' then(match yq p caps X with|some (pl,[],X1)=>some (pl,vs,X1)| _=>none)else none)=some (pl,rest,X')at e
    have hf:=beq_true (bQ e).1
    replace e:=(bQ e).2
    subst hf
    split at e
    ·rename_i pl' X1 hx
     cases e
     cases a with
     |fn k=>
      rename_i l'
      obtain⟨E1,uT,ui,ws,GU,xw,n1,S1,s1,c1,c2,c3,c4,c5,c6⟩:=ih S s k hx
      have Bx:xw=[]:=by cases c2;rfl
      rw[Bx,List.append_nil]at c1
      refine⟨E1,uT,ui,[.fn f ws],[.fn f l'],cs,n1,S1,s1,rfl,l.mono n1.e n1.le,fun tail=>?_,.cons (.fn (by rw[c1];exact c4)) .nil,c5,c6⟩
      show(match gp p (pl++tail) H0 with|some (cs,r,H)=>some ([Sv.fn f cs],r,H)|none=>none)=_
      rw[c3]
    ·cases e
   | _=>cases e
 |zp p ih=>
  intro E0 H0 E X X' h vs rest cs pl S s hv e
  cases hv with
  |nil=>cases e
  |cons a l=>
   rename_i v c P6 xw
   cases v with
   |zp cells=>
    change (match yq p cells X with|some (pl,[],X1)=>some (pl,P6,X1)| _=>none)=some (pl,rest,X')at e
    split at e
    ·rename_i pl' X1 hx
     cases e
     have fin: ∀ l',Vs E X.H.next cells l'->(∀ (uT:En) (N:Nat) (ws:List Sv),Vs uT N ws l'->(∀ id row,E.G id=some row->uT.G id=some row)->V uT N (.zp ws) c)->
      ∃ E' uT ui ws ds1 ds2,Nx E E' X.H X'.H h h/\SR E' X'.H h/\Sub uT ui E' X' h/\c::xw=ds1++ds2/\Vs E' X'.H.next rest ds2/\(∀ tail,gp (.zp p) (pl++tail) H0=some (ws,tail,ui))/\Vs uT ui.next ws ds1/\w7 E0 uT H0.next/\H0.next<=ui.next:=by
      intro l' k hw
      obtain⟨E1,uT,ui,ws,ds1,ds2,n1,S1,s1,c1,c2,c3,c4,c5,c6⟩:=ih S s k hx
      have Bx:ds2=[]:=by cases c2;rfl
      rw[Bx,List.append_nil]at c1
      refine⟨E1,uT,ui,[.zp ws],[c],xw,n1,S1,s1,rfl,l.mono n1.e n1.le,fun tail=>?_,.cons (hw _ _ _ (by rw[c1];exact c4) fun id row g=>by rw[s1.G];exact n1.e.G id row g) .nil,c5,c6⟩
      show(match gp p (pl++tail) H0 with|some (cs,r,H)=>some ([Sv.zp cs],r,H)|none=>none)=_
      rw[c3]
     cases a with
     |zp k=>exact fin _ k fun _ _ _ w _=>.zp w
     |zr k g sg=>exact fin _ k fun _ _ _ w hg=>.zr w (hg _ _ g) (by rw[w.length,<-k.length];exact sg)
    ·cases e
   | _=>cases e
 |el j sz o=>
  intro E0 H0 E X X' h vs rest cs pl S s hv e
  cases hv with
  |nil=>cases e
  |cons a l=>
   rename_i v c vs cs
   cases v with
   |re r X9 i o'=>
    change (match look j X.rn with|some r'=>bif Nat.beq r r'&&(Nat.beq sz X9&&Nat.beq o o')then some ([(⟨.int .i64,Int.ofNat i⟩:Pl)],vs,X)else none|none=>none)=some (pl,rest,X')at e
    split at e
    ·rename_i r' hr
     have hb:=(bQ e).1
     replace e:=(bQ e).2
     cases e
     rw[Bool.and_eq_true,Bool.and_eq_true]at hb
     have b1:=beq_true hb.1;have b2:=beq_true hb.2.1;have b3:=beq_true hb.2.2
     subst b1;subst b2;subst b3
     obtain⟨q1,q2,q3,q4⟩:=s.rn _ (oz hr)
     cases a with
     |re h1 h2 h3=>
      refine j3 S s l (fun tail=>rfl) ?_
      exact .re (by rw[s.c];exact q1) (by rw[q4];exact h2) h3
    ·cases e
   | _=>cases e
 |rp j o=>
  intro E0 H0 E X X' h vs rest cs pl S s hv e
  cases hv with
  |nil=>cases e
  |cons a l=>
   rename_i v c vs cs
   cases v with
   |rf r o'=>
    change (match look j X.rn with|some r'=>bif Nat.beq r r'&&Nat.beq o o' then some (([]:List Pl),vs,X)else none|none=>none)=some (pl,rest,X')at e
    split at e
    ·rename_i r' hr
     have hb:=(bQ e).1
     replace e:=(bQ e).2
     cases e
     rw[Bool.and_eq_true]at hb
     have b1:=beq_true hb.1;have b2:=beq_true hb.2
     subst b1;subst b2
     obtain⟨q1,q2,q3,q4⟩:=s.rn _ (oz hr)
     cases a with
     |rf h1 h2=>
      refine j3 S s l (fun tail=>rfl) ?_
      exact .rf (by rw[s.c];exact q1) (by rw[q4];exact h2)
    ·cases e
   | _=>cases e
 |oo j sz=>
  intro E0 H0 E X X' h vs rest cs pl S s hv e
  cases hv with
  |nil=>cases e
  |cons a l=>
   rename_i v c vs cs
   cases v with
   |os r X9=>
    change (match look j X.rn with|some r'=>bif Nat.beq r r'&&Nat.beq sz X9 then some (([]:List Pl),vs,X)else none|none=>none)=some (pl,rest,X')at e
    split at e
    ·rename_i r' hr
     have hb:=(bQ e).1
     replace e:=(bQ e).2
     cases e
     rw[Bool.and_eq_true]at hb
     have b1:=beq_true hb.1;have b2:=beq_true hb.2
     subst b1;subst b2
     obtain⟨q1,q2,q3,q4⟩:=s.rn _ (oz hr)
     simp only at q4
     cases a with
     |os h1 h2=>
      refine j3 S s l (fun tail=>rfl) ?_
      have hv:=V.os (E:=E0) (N:=H0.next) (r:=j) (sz:=sz) (by rw[s.c];exact q1) (by rw[q4];exact h2)
      rw[q4]at hv
      exact hv
    ·cases e
   | _=>cases e
end Lf
end Go.Ab

noncomputable section
namespace Go.Ab
namespace Lf
def e1:Hq:=⟨1,.nil⟩
def Yb(T:Tq)(sl:List Nat):Option (List Sv):=List.rec (some []) (fun i _ ih=>match(bif Nat.blt i 512 then T.at i else none)with
 |some v=>(match ih with
  |some vs=>some (v::vs)
  |none=>none)
 |none=>none) sl
def M6(sl:List Nat):List Sv->Tq->Tq:=List.rec (fun _ T=>T) (fun i _ ih vs T=>match vs with
 |v::vs=>ih vs (T.put i (some v))
 | []=>T) sl
def Dx(sl:List Nat)(P:jT)(T:Tq)(H:Hq):Option (List Pl):=match Yb T sl with
 |some vs=>(match yq P vs ⟨H,1,[]⟩with
  |some (pl,[],_)=>some pl
  | _=>none)
 |none=>none
def Yc(sl:List Nat)(P:jT)(pl:List Pl):Option (Tq×Hq):=match gp P pl e1 with
 |some (ws,[],H)=>some (M6 sl ws Tq.none,H)
 | _=>none
theorem HF{E:En}{N:Nat}{T:Tq}{t:Tm}(hT:TV E N T t): ∀ {sl:List Nat} {vs:List Sv},Yb T sl=some vs-> ∃ cs,Vs E N vs cs/\sl.length=cs.length/\ ∀ (k i:Nat),sl[k]? =some i->i<512/\ ∃ a,t.at i=some a/\cs[k]? =some a
 | [],vs,e=>by cases e;exact⟨[],.nil,rfl,fun k i h=>by simp at h⟩
 |i::sl,vs,e=>by
  change (match(bif Nat.blt i 512 then T.at i else none)with|some v=>(match Yb T sl with|some vs=>some (v::vs)|none=>none)|none=>none)=some vs at e
  split at e
  ·rename_i v hv
   split at e
   ·rename_i us hu
    cases e
    obtain⟨hi,hv⟩:=bQ hv
    obtain⟨a,ha,yk⟩:=hT i v (bH.1 hi) hv
    obtain⟨cs,c1,c2,c3⟩:=HF hT hu
    refine⟨a::cs,.cons yk c1,by simp[c2],fun k j h=>?_⟩
    cases k with
    |zero=>simp at h;subst h;exact⟨bH.1 hi,a,ha,rfl⟩
    |succ k=>simpa using c3 k j (by simpa using h)
   ·cases e
  ·cases e
theorem M7{E:En}{N:Nat}{t:Tm}{sl:List Nat}: ∀ (ws:List Sv) (cs:List AV) (T:Tq),Vs E N ws cs->sl.length=cs.length->(∀ (k i:Nat),sl[k]? =some i->i<512/\ ∃ a,t.at i=some a/\cs[k]? =some a)->TV E N T t->TV E N (M6 sl ws T) t:=by
 induction sl with
 |nil=>intro _ _ T _ _ _ hT;exact hT
 |cons i sl ih=>
  intro ws cs T h hl hc hT
  cases h with
  |nil=>simp at hl
  |cons hw hws=>
   rename_i w c ws cs
   obtain⟨hi,a,ha,hca⟩:=hc 0 i rfl
   simp at hca
   subst hca
   refine ih _ _ _ hws (by simpa using hl) (fun k j h=>by simpa using hc (k+1) j (by simpa using h)) ?_
   intro j v hj hv
   rw[Tq.jA _ _ _ _ hi hj]at hv
   split at hv
   ·rename_i e;subst e;cases hv;exact⟨c,ha,hw⟩
   ·exact hT j v hj hv
theorem Yd{E:En}{H:Hq}{h:Hp}(S:SR E H h)(A:Nat->AV)(hA:A=E.A):Sub ⟨fun _=>⟨.any,0⟩,fun _=>.any,E.G,A⟩ e1 E ⟨H,1,[]⟩ h:=by
 have no: ∀ r,¬ own e1 r:=by rintro r ⟨R,e,_⟩;cases e
 exact⟨rfl,Nat.one_pos,⟨(fun r R e=>by cases e),(fun r _ _ o=>(no r o).elim),(fun r _ o=>(no r o).elim),fun id row e=>⟨(S.g id row e).1,(S.g id row e).2.1,fun r o=>(no r o).elim⟩⟩,rfl,hA,(fun p hp=>by cases hp),fun j o=>(no j o).elim,fun _ _ _ hp=>by cases hp⟩
theorem Sub.ox{E0:En}{H0:Hq}{E E':En}{H:Hq}{X':Xq}{h:Hp}(n:Nx E E' H X'.H h h)(s:Sub E0 H0 E' X' h):Ox E E0 H H0 h h where
 A:=by rw[s.A,n.e.A]
 G:=by rw[s.G];exact n.e.G
 Cj:=Nat.le_refl _
 ow j id o e:=by
  obtain⟨r,hr⟩:=s.ow j o
  obtain⟨_,o2,_,k⟩:=s.rn _ hr
  rw[k]at e
  exact n.ow r id o2 e
 gw id row e:=by rw[s.G]at e;exact n.gw id row e
 fr _ _ _:=rfl
theorem xe{sl:List Nat}{P:jT}{E:En}{T:Tq}{t:Tm}{H:Hq}{h:Hp}{pl:List Pl}(hT:TV E H.next T t)(hH:SR E H h)(e:Dx sl P T H=some pl):
 ∃ T0 H0 E0,Yc sl P pl=some (T0,H0)/\TV E0 H0.next T0 t/\SR E0 H0 h/\Ox E E0 H H0 h h:=by
 unfold Dx at e
 split at e
 ·rename_i vs eI
  split at e
  ·rename_i pl' X' hx
   cases e
   obtain⟨cs,c1,c2,c3⟩:=HF hT eI
   obtain⟨E',uT,ui,ws,a1,a2,n1,S1,s1,d1,d2,d3,d4,_,_⟩:=FV P (X:=⟨H,1,[]⟩) hH (Yd hH E.A rfl) c1 hx
   have ha2:a2=[]:=by cases d2;rfl
   rw[ha2,List.append_nil]at d1
   subst d1
   have VH:=d3 []
   rw[List.append_nil]at VH
   refine⟨M6 sl ws Tq.none,ui,uT,?_,?_,s1.S0,s1.ox n1⟩
   ·unfold Yc;rw[VH]
   ·exact M7 _ _ _ d4 c2 c3 fun i v _ hv=>by rw[HE]at hv;cases hv
  ·cases e
 ·cases e
inductive Kd where
 |lN|rt|ex (i:Nat)
structure Ot where
 k:Kd
 sl:List Nat
 P:jT
inductive Rs where
 |next (pl:List Pl)
 |out (k:Nat) (pl:List Pl)
structure j4 where
 id:Nat
 body:qe
 sl:List Nat
 P:jT
 outs:List Ot
def JA(id:Nat)(o:Oc)(k:Kd):Bool:=match o,k with
 | .exit i _ _,.lN=>Nat.beq i id
 | .ret _ _,.rt=>true
 | .exit i _ _,.ex j=>Nat.beq i j&& !(Nat.beq i id)
 | _,_=>false
def Oc.T:Oc->Tq
 | .norm t _=>t
 | .ret t _=>t
 | .exit _ t _=>t
def Oc.H:Oc->Hq
 | .norm _ h=>h
 | .ret _ h=>h
 | .exit _ _ h=>h
def Dy(id:Nat)(o:Oc)(l:List Ot):Nat->Option Rs:=List.rec (fun _=>none) (fun q _ ih k=>bif JA id o q.k then(match Dx q.sl q.P o.T o.H with
 |some pl=>some (.out k pl)
 |none=>none)else ih (Nat.add k 1)) l
def j4.step(l:j4)(L:Nat->Option fD)(call:eL)(m:Nat)(pl:List Pl):T Rs:=(T.of (Yc l.sl l.P pl)).bd fun s=>(VA L call m l.body s.1 s.2).bd fun o=>match o with
 | .norm t h=>T.of (match Dx l.sl l.P t h with
  |some pl=>some (.next pl)
  |none=>none)
 |o=>T.of (Dy l.id o l.outs 0)
inductive gM (f:List Pl->T Rs):List Pl->Nat->List Pl->Prop
 |last {pl k q}:(f pl).val=some (.out k q)->gM f pl k q
 |more {pl pl' k q}:(f pl).val=some (.next pl')->gM f pl' k q->gM f pl k q
theorem T.j5{α:Type}{x:Option α}{a:α}(h:(T.of x).val=some a):x=some a:=by cases x with
 |none=>cases h
 |some b=>exact h
theorem yr{id:Nat}{o:Oc}{k:Nat}{q:List Pl}: ∀ {l:List Ot} {j:Nat},Dy id o l j=some (.out k q)-> ∃ t,l[k - j]? =some t/\j<=k/\JA id o t.k=true/\Dx t.sl t.P o.T o.H=some q
 | [],j,e=>by cases e
 |t::l,j,e=>by
  change (bif JA id o t.k then(match Dx t.sl t.P o.T o.H with|some pl=>some (Rs.out j pl)|none=>none)else Dy id o l (Nat.add j 1))=some (.out k q)at e
  cases hb:JA id o t.k with
  |true=>
   rw[hb]at e
   simp only[cond_true]at e
   split at e
   ·rename_i pl hp
    cases e
    exact⟨t,by simp,Nat.le_refl _,hb,hp⟩
   ·cases e
  |false=>
   rw[hb]at e
   obtain⟨u,h1,h2,h3,h4⟩:=yr (l:=l) (j:=j+1) e
   have:k - j=(k - (j+1))+1:=by omega
   exact⟨u,by rw[this];simpa using h1,by omega,h3,h4⟩
theorem sP{id:Nat}{o:Oc}{pl:List Pl}: ∀ {l:List Ot} {j:Nat},Dy id o l j=some (.next pl)->False
 | [],j,e=>by cases e
 |t::l,j,e=>by
  change (bif JA id o t.k then(match Dx t.sl t.P o.T o.H with|some pl=>some (Rs.out j pl)|none=>none)else Dy id o l (Nat.add j 1))=some (.next pl)at e
  cases hb:JA id o t.k with
  |true=>
   rw[hb]at e
   simp only[cond_true]at e
   split at e<;>cases e
  |false=>rw[hb]at e;exact sP (l:=l) e
def SG(E:En)(H:Hq)(h:Hp)(id:Nat)(t:Ot)(q:List Pl):Go.Ab.Rc->Prop
 | .ret t' h'=>t.k=.rt/\ ∃ T' H' E',Yc t.sl t.P q=some (T',H')/\Ox E E' H H' h h'/\SR E' H' h'/\TV E' H'.next T' t'
 | .exit i t' h'=>((t.k=.lN/\i=id)∨(t.k=.ex i/\i≠id))/\ ∃ T' H' E',Yc t.sl t.P q=some (T',H')/\Ox E E' H H' h h'/\SR E' H' h'/\TV E' H'.next T' t'
 | _=>False
theorem SG.trans{E E1:En}{H H1:Hq}{h h1:Hp}(X:Ox E E1 H H1 h h1){id:Nat}{t:Ot}{q:List Pl}{r:Go.Ab.Rc}(k:SG E1 H1 h1 id t q r):SG E H h id t q r:=by
 cases r<;>first|exact k.elim|skip
 ·obtain⟨a,T',H',E',b,c,d,e⟩:=k;exact⟨a,T',H',E',b,X.trans c,d,e⟩
 ·obtain⟨a,T',H',E',b,c,d,e⟩:=k;exact⟨a,T',H',E',b,X.trans c,d,e⟩
section
variable {call:eL}{ao:aA}(C:oy call ao)
include C
theorem Ye{l:j4}{L:Nat->Option fD}{m:Nat}(hL:jq Rx.w ao L l.body){pl:List Pl}{k:Nat}{q:List Pl}(r:gM (l.step L call m) pl k q): ∀ {E:En} {T:Tq} {t:Tm} {H:Hq} {h:Hp},Yc l.sl l.P pl=some (T,H)->TV E H.next T t->SR E H h->
 ∃ c u,Ev3 (fun n d j=>Sz j (gy (ao n d) n l.body) t h) c/\l.outs[k]? =some u/\SG E H h l.id u q c:=by
 induction r with
 |last e=>
  intro E T t H h hm hT hH
  obtain⟨s,e1,e2⟩:=Lf.T.dh e
  have e1:=Lf.T.j5 e1
  rw[hm]at e1;cases e1
  obtain⟨o,e3,e4⟩:=Lf.T.dh e2
  obtain⟨c,k1,q1⟩:=FU C (R:=Rx.w) m l.body hL E T t H h o hT hH e3
  cases o with
  |norm T1 H1=>
   have e4:=Lf.T.j5 e4
   split at e4<;>cases e4
  |ret T1 H1=>
   have e4:=Lf.T.j5 e4
   obtain⟨u,u1,_,u2,u3⟩:=yr e4
   cases c with
   |ret t1 h1=>
    obtain⟨E1,X,S1,tj⟩:=q1
    obtain⟨T2,H2,E2,r1,r2,r3,r4⟩:=xe tj S1 u3
    obtain⟨M,k1⟩:=k1
    refine⟨.ret t1 h1,u,⟨M+1,fun n d j a b c=>?_⟩,by simpa using u1,?_,T2,H2,E2,r1,Ox.trans X r4,r3,r2⟩
    ·obtain⟨j',rfl⟩: ∃ j',j=j'+1:=⟨j - 1,by omega⟩
     have Ap:=k1 n d (by omega) (by omega)
     dsimp only at Ap
     show(Rc.rec Rc.bad (fun t h=>Sz j' (gy (ao n d) n l.body) t h) (fun t h=>Rc.ret t h) (fun i t h=>Rc.exit i t h) (gy (ao n d) n l.body t h):Go.Ab.Rc)=_
     rw[Ap]
    ·cases hk:u.k with
     |rt=>rfl
     |lN=>rw[hk]at u2;cases u2
     |ex i=>rw[hk]at u2;cases u2
   | _=>exact q1.elim
  |exit i T1 H1=>
   have e4:=Lf.T.j5 e4
   obtain⟨u,u1,_,u2,u3⟩:=yr e4
   cases c with
   |exit i' t1 h1=>
    obtain⟨rfl,E1,X,S1,tj⟩:=q1
    obtain⟨T2,H2,E2,r1,r2,r3,r4⟩:=xe tj S1 u3
    obtain⟨M,k1⟩:=k1
    refine⟨.exit i t1 h1,u,⟨M+1,fun n d j a b c=>?_⟩,by simpa using u1,?_,T2,H2,E2,r1,Ox.trans X r4,r3,r2⟩
    ·obtain⟨j',rfl⟩: ∃ j',j=j'+1:=⟨j - 1,by omega⟩
     have Ap:=k1 n d (by omega) (by omega)
     dsimp only at Ap
     show(Rc.rec Rc.bad (fun t h=>Sz j' (gy (ao n d) n l.body) t h) (fun t h=>Rc.ret t h) (fun i t h=>Rc.exit i t h) (gy (ao n d) n l.body t h):Go.Ab.Rc)=_
     rw[Ap]
    ·cases hk:u.k with
     |rt=>rw[hk]at u2;cases u2
     |lN=>rw[hk]at u2;exact .inl ⟨rfl,beq_true u2⟩
     |ex j=>
      rw[hk]at u2
      have u2:(Nat.beq i j&& !(Nat.beq i l.id))=true:=u2
      rw[Bool.and_eq_true]at u2
      have:=beq_true u2.1
      subst this
      refine .inr ⟨rfl,fun e=>?_⟩
      rw[e,Nat.beq_refl]at u2
      cases u2.2
   | _=>exact q1.elim
 |more e _ ih=>
  intro E T t H h hm hT hH
  obtain⟨s,e1,e2⟩:=Lf.T.dh e
  have e1:=Lf.T.j5 e1
  rw[hm]at e1;cases e1
  obtain⟨o,e3,e4⟩:=Lf.T.dh e2
  obtain⟨c,k1,q1⟩:=FU C (R:=Rx.w) m l.body hL E T t H h o hT hH e3
  cases o with
  |norm T1 H1=>
   obtain⟨t1,h1,E1,rfl,X,S1,tj⟩:=q1.norm
   have e4:=Lf.T.j5 e4
   split at e4
   ·rename_i pl' hp
    cases e4
    obtain⟨T2,H2,E2,r1,r2,r3,r4⟩:=xe tj S1 hp
    obtain⟨c,u,⟨M2,k2⟩,u1,u2⟩:=ih r1 r2 r3
    obtain⟨M,k1⟩:=k1
    refine⟨c,u,⟨max M M2+1,fun n d j a b c'=>?_⟩,u1,u2.trans (Ox.trans X r4)⟩
    obtain⟨j',rfl⟩: ∃ j',j=j'+1:=⟨j - 1,by omega⟩
    have Ap:=k1 n d (by omega) (by omega)
    dsimp only at Ap
    show(Rc.rec Rc.bad (fun t h=>Sz j' (gy (ao n d) n l.body) t h) (fun t h=>Rc.ret t h) (fun i t h=>Rc.exit i t h) (gy (ao n d) n l.body t h):Go.Ab.Rc)=_
    rw[Ap]
    exact k2 n d j' (by omega) (by omega) (by omega)
   ·cases e4
  |ret T1 H1=>exact(sP (Lf.T.j5 e4)).elim
  |exit i T1 H1=>exact(sP (Lf.T.j5 e4)).elim
def j4.pc(l:j4)(f:List Pl->T (Nat×List Pl)):fD:=fun t h=>(T.of (Dx l.sl l.P t h)).bd fun pl=>(f pl).bd fun p=>match kY l.outs p.1 with
 |some u=>(T.of (Yc u.sl u.P p.2)).bd fun s=>.ok (match u.k with
  | .lN=>.norm s.1 s.2
  | .rt=>.ret s.1 s.2
  | .ex i=>.exit i s.1 s.2)
 |none=>.bad
theorem acT{l:j4}{L:Nat->Option fD}{m:Nat}(hL:jq Rx.w ao L l.body){f:List Pl->T (Nat×List Pl)}(hf: ∀ pl k q,(f pl).val=some (k,q)->gM (l.step L call m) pl k q):
 ep Rx.w (l.pc f) (fun n d=>gy (ao n d) n (.bl l.id (.lp l.body))):=by
 intro E T t H h o hT hH e
 obtain⟨pl,e1,e2⟩:=Lf.T.dh e
 have e1:=Lf.T.j5 e1
 obtain⟨⟨k,q⟩,e3,e4⟩:=Lf.T.dh e2
 obtain⟨T0,H0,E0,r1,r2,r3,r4⟩:=xe hT hH e1
 obtain⟨c,u,k1,u1,u2⟩:=Ye C hL (hf pl k q e3) r1 r2 r3
 simp only[gD]at e4
 rw[u1]at e4
 obtain⟨s,e5,e6⟩:=Lf.T.dh e4
 have e5:=Lf.T.j5 e5
 have k1:=k1.diag
 have Yf: ∀ n d,gy (ao n d) n (.bl l.id (.lp l.body)) t h=(Rc.rec Rc.bad (fun t h=>Rc.norm t h) (fun t h=>Rc.ret t h) (fun i t h=>Bool.rec (Rc.exit i t h) (Rc.norm t h) (Nat.beq i l.id)) (Sz n (gy (ao n d) n l.body) t h):Go.Ab.Rc):=fun _ _=>rfl
 cases c with
 |ret t1 h1=>
  obtain⟨a,T',H',E',b,x,y,z⟩:=u2
  rw[b]at e5;cases e5
  rw[a]at e6;cases e6
  exact⟨.ret t1 h1,k1.sO fun n d p=>(Yf n d).trans (by rw[p]),E',Ox.trans r4 x,y,z⟩
 |exit i t1 h1=>
  obtain⟨a,T',H',E',b,x,y,z⟩:=u2
  rw[b]at e5;cases e5
  rcases a with⟨a,rfl⟩|⟨a,a2⟩
  ·rw[a]at e6;cases e6
   exact⟨.norm t1 h1,k1.sO fun n d p=>(Yf n d).trans (by rw[p];simp only[Nat.beq_refl]),E',Ox.trans r4 x,y,z⟩
  ·rw[a]at e6;cases e6
   refine⟨.exit i t1 h1,k1.sO fun n d p=>?_,rfl,E',Ox.trans r4 x,y,z⟩
   refine(Yf n d).trans ?_
   rw[p]
   have:Nat.beq i l.id=false:=by cases hb:Nat.beq i l.id with
    |false=>rfl
    |true=>exact(a2 (beq_true hb)).elim
   simp only[this]
 | _=>exact u2.elim
end
end Lf
end Go.Ab

noncomputable section
namespace Go.Ab
namespace Lf
def acU(r:Nat):Option Row->Option Row
 |some (.o _ l)=>some (.o r l)
 |x=>x
def wC(n:Nat)(H:Hq):Hq:=Nat.rec H (fun i ih=>match ih.aL.get i with
 |some (.o _ l)=>jo ih i (some (.o i l))
 | _=>ih) n
def iG(H:Hq):Hq:=wC H.next H
theorem uj(H:Hq): ∀ n,(wC n H).next=H.next/\ ∀ r,(wC n H).aL.get r=if r<n then acU r (H.aL.get r)else H.aL.get r
 |0=>⟨rfl,fun r=>by rw[if_neg (by omega)];rfl⟩
 |n+1=>by
  obtain⟨h1,h2⟩:=uj H n
  have hs:wC (n+1) H=(match(wC n H).aL.get n with|some (.o _ l)=>jo (wC n H) n (some (.o n l))| _=>wC n H):=rfl
  have hn:=h2 n
  rw[if_neg (by omega)]at hn
  rw[hs,hn]
  cases hg:H.aL.get n with
  |none=>
   refine⟨h1,fun r=>?_⟩
   show(wC n H).aL.get r=_
   rw[h2 r]
   by_cases e:r=n
   ·subst e;rw[if_neg (by omega),if_pos (by omega),hg];rfl
   ·by_cases e2:r<n
    ·rw[if_pos e2,if_pos (by omega)]
    ·rw[if_neg e2,if_neg (by omega)]
  |some R=>
   cases R with
   |o g l=>
    refine⟨h1,fun r=>?_⟩
    show(jo (wC n H) n (some (.o n l))).aL.get r=_
    rw[fp]
    by_cases e:r=n
    ·subst e;rw[if_pos rfl,if_pos (by omega),hg];rfl
    ·rw[if_neg e,h2 r]
     by_cases e2:r<n
     ·rw[if_pos e2,if_pos (by omega)]
     ·rw[if_neg e2,if_neg (by omega)]
   | _=>
    refine⟨h1,fun r=>?_⟩
    show(wC n H).aL.get r=_
    rw[h2 r]
    by_cases e:r=n
    ·subst e;rw[if_neg (by omega),if_pos (by omega),hg];rfl
    ·by_cases e2:r<n
     ·rw[if_pos e2,if_pos (by omega)]
     ·rw[if_neg e2,if_neg (by omega)]
theorem M8{r:Nat}{x:Option Row}{R:Row}(h:acU r x=some R): ∃ R0,x=some R0/\R.live=R0.live/\(R=R0∨ ∃ g l,R0=.o g l/\R=.o r l):=by
 cases x with
 |none=>cases h
 |some R0=>cases R0<;>cases h<;>first|exact⟨_,rfl,rfl,.inl rfl⟩|exact⟨_,rfl,rfl,.inr ⟨_,_,rfl,rfl⟩⟩
theorem yt{H:Hq}{r:Nat}{R:Row}(h:(iG H).aL.get r=some R): ∃ R0,H.aL.get r=some R0/\R.live=R0.live/\(R=R0∨ ∃ g l,R0=.o g l/\R=.o r l):=by
 have e:=(uj H H.next).2 r
 have h':(wC H.next H).aL.get r=some R:=h
 rw[e]at h'
 split at h'
 ·exact M8 h'
 ·exact⟨R,h',rfl,.inl rfl⟩
theorem uk{H:Hq}{r:Nat}(o:own (iG H) r):own H r:=by
 obtain⟨R,a,b⟩:=o
 obtain⟨R0,c,d,_⟩:=yt a
 exact⟨R0,c,by rw[<-d];exact b⟩
theorem vN(H:Hq):(iG H).next=H.next:=(uj H H.next).1
def En.tg(E:En):En:=⟨E.K,E.tk,E.G,fun g=>(E.K g).av⟩
mutual
theorem V.Kp{E:En}{N:Nat}: ∀ {a c},V E N a c->V E.tg N a c
 | _,_,.i=>.i
 | _,_,.b=>.b
 | _,_,.a k=>.a k
 | _,_,.c k m=>.c k m
 | _,_,.ag k=>.ag (Vs.Kp k)
 | _,_,.tu k=>.tu (Vs.Kp k)
 | _,_,.fn k=>.fn (Vs.Kp k)
 | _,_,.rf a b=>.rf a b
 | _,_,.re a b c=>.re a b c
 | _,_,.os a b=>.os (E:=E.tg) a b
 | _,_,.se a b c d=>.se (E:=E.tg) a b c d
 | _,_,.ss a b c=>.ss a b c
 | _,_,.xo a b=>.xo a b
 | _,_,.zp k=>.zp (Vs.Kp k)
 | _,_,.zr k g s=>.zr (Vs.Kp k) g s
theorem Vs.Kp{E:En}{N:Nat}: ∀ {l l'},Vs E N l l'->Vs E.tg N l l'
 | _,_,.nil=>.nil
 | _,_,.cons a b=>.cons (V.Kp a) (Vs.Kp b)
end
theorem Yg{E:En}{H:Hq}{h:Hp}(S:SR E H h):SR E.tg (iG H) h where
 row r R e:=by
  obtain⟨R0,a,_,c⟩:=yt e
  obtain⟨s1,s2⟩:=S.row r R0 a
  rw[vN]
  refine⟨s1,?_⟩
  rcases c with rfl|⟨g,l,rfl,rfl⟩
  ·cases R with
   |o g l=>
    obtain⟨id,row,k1,k2,k3,k4⟩:=s2
    have e':=(uj H H.next).2 r
    rw[if_pos s1,a]at e'
    have e2:(wC H.next H).aL.get r=some (.o g l):=e
    rw[e2]at e'
    have:g=r:=by injection e' with e';injection e' with e'
    exact⟨id,row,k1,k2,Vs.Kp k3,fun _=>by rw[this];rfl⟩
   |zo l=>obtain⟨id,row,k1,k2,k3⟩:=s2;exact⟨id,row,k1,k2,Vs.Kp k3⟩
   |l t x=>exact s2
   |z t x=>exact s2
  ·obtain⟨id,row,k1,k2,k3,_⟩:=s2
   exact⟨id,row,k1,k2,Vs.Kp k3,fun _=>rfl⟩
 inj r r' id o o' e e':=S.inj r r' id (uk o) (uk o') e e'
 lt r id o e:=S.lt r id (uk o) e
 g id row e:=by
  obtain⟨a,b,c⟩:=S.g id row e
  exact⟨a,b,fun r o=>c r (uk o)⟩
def SH(g:Nat)(H:Hq):Option Nat:=Nat.rec none (fun i ih=>match H.aL.get i with
 |some (.o g' _)=>bif Nat.beq g g' then some i else ih
 | _=>ih) H.next
theorem SI{g:Nat}{H:Hq}{j:Nat}(h:SH g H=some j): ∃ l,H.aL.get j=some (.o g l):=by
 unfold SH at h
 generalize H.next=n at h
 induction n with
 |zero=>cases h
 |succ n ih=>
  change (match H.aL.get n with|some (.o g' _)=>(bif Nat.beq g g' then some n else(Nat.rec none (fun i ih=>match H.aL.get i with|some (.o g' _)=>bif Nat.beq g g' then some i else ih| _=>ih) n:Option Nat))| _=>(Nat.rec none (fun i ih=>match H.aL.get i with|some (.o g' _)=>bif Nat.beq g g' then some i else ih| _=>ih) n:Option Nat))=some j at h
  split at h
  ·rename_i g' l hr
   cases hb:Nat.beq g g' with
   |true=>rw[hb]at h;cases h;rw[beq_true hb];exact⟨l,hr⟩
   |false=>rw[hb]at h;exact ih h
  ·exact ih h
def Yh(l:List Nat)(H:Hq):Option (List Sv):=List.rec (some []) (fun g _ ih=>match SH g H with
 |some j=>(match ih with
  |some r=>some (.rf j 0::r)
  |none=>none)
 |none=>none) l
theorem HG{E:En}{H:Hq}{h:Hp}(S:SR E H h): ∀ {l:List Nat} {vs:List Sv},(∀ g,g∈l->g≠0)->Yh l H=some vs->Vs E H.next vs (l.map E.A)
 | [],vs,_,e=>by cases e;exact .nil
 |g::l,vs,h0,e=>by
  change (match SH g H with|some j=>(match Yh l H with|some r=>some (.rf j 0::r)|none=>none)|none=>none)=some vs at e
  split at e
  ·rename_i j hj
   split at e
   ·rename_i r hr
    cases e
    obtain⟨q,hq⟩:=SI hj
    obtain⟨lt,id,row,k1,k2,k3,k4⟩:=S.row _ _ hq
    refine .cons ?_ (HG S (fun g hg=>h0 g (List.mem_cons_of_mem _ hg)) hr)
    rw[<-k4 (h0 g List.mem_cons_self),k1]
    exact .rf lt k1
   ·cases e
  ·cases e
structure cQ where
 P:jT
 ptr:List Nat
 Q:jT
 f:List Pl->T (List Pl)
def cQ.Ok(s:cQ)(f:FuncId)(ao:aA):Prop:= ∀ (pl q:List Pl) (args:List Sv) (H0:Hq) (E0:En) (h:Hp) (as:List AV),(s.f pl).val=some q->gp s.P pl e1=some (args,[],H0)->Vs E0 H0.next args as->SR E0 (iG H0) h->
 ∃ c h' E1 ws H1,Ev (fun n d=>ao n d f as h) (.ok c h')/\Ox E0 E1 (iG H0) H1 h h'/\SR E1 H1 h'/\gp s.Q q e1=some (ws,[],H1)/\Vs E1 H1.next ws (c::s.ptr.map E0.A)
def ja(P:jT)(ptr:List Nat)(Q:jT)(L:Nat->Option fD)(b:dC)(m:Nat)(call:eL)(pl:List Pl):T (List Pl):=match gp P pl e1 with
 |some (args,[],H0)=>(De L b m call args (iG H0)).bd fun p=>match Yh ptr p.2 with
  |some ps=>(match yq Q (p.1::ps) ⟨p.2,1,[]⟩with
   |some (q,[],_)=>.ok q
   | _=>.bad)
  |none=>.bad
 | _=>.bad
theorem acV{call:eL}{ao:aA}(C:oy call ao){f:FuncId}{b:dC}(hb:mJ ao f b)(qm:b.ntmps<=512){L:Nat->Option fD}(hL:jq Rx.w ao L b.code){m:Nat}{s:cQ}(h0: ∀ g,g∈s.ptr->g≠0)
 (hf: ∀ pl q,(s.f pl).val=some q->(ja s.P s.ptr s.Q L b m call pl).val=some q):s.Ok f ao:=by
 intro pl q args H0 E0 h as e hP hv hS
 have QX:=hf pl q e
 unfold ja at QX
 rw[hP]at QX
 simp only at QX
 obtain⟨⟨v,H1⟩,a1,a2⟩:=Lf.T.dh QX
 obtain⟨c,h',E1,k1,X1,S1,hv1⟩:=Dv C (R:=Rx.w) hb qm hL (by rw[vN];exact hv) hS a1
 simp only at a2
 split at a2
 ·rename_i ps QW
  split at a2
  ·rename_i q' X2 hx
   cases a2
   have lr:=HG S1 h0 QW
   obtain⟨E2,E2',H2',ws,c1,c2,n2,S2,s2,d1,d2,d3,d4,_,_⟩:=FV s.Q (X:=⟨H1,1,[]⟩) S1 (Yd S1 E1.A rfl) (Vs.cons hv1 lr) hx
   have Vf:c2=[]:=by cases d2;rfl
   rw[Vf,List.append_nil]at d1
   have VH:=d3 []
   rw[List.append_nil]at VH
   refine⟨c,h',E2',ws,H2',k1,Ox.trans X1 (s2.ox n2),s2.S0,VH,?_⟩
   have X1A:E1.A=E0.A:=(X1:Ox E0 E1 (iG H0) H1 h h').A
   rw[<-d1,X1A]at d4
   exact d4
  ·cases a2
 ·cases a2
end Lf
end Go.Ab

noncomputable section
namespace Go.Ab
namespace Lf
section
variable (f:Nat->Nat)(b:Nat)
mutual
def Ck:Sv->Sv
 | .i k n=>.i k n
 | .b x=>.b x
 | .a v=>.a v
 | .c m t x=>.c (bif Nat.beq m 0 then 0 else Nat.add b m) t x
 | .ag l=>.ag (JB l)
 | .tu l=>.tu (JB l)
 | .fn g l=>.fn g (JB l)
 | .rf r o=>.rf (f r) o
 | .re r s i o=>.re (f r) s i o
 | .os r s=>.os (f r) s
 | .ss r s o n=>.ss (f r) s o n
 | .xo r s o n=>.xo (f r) s o n
 | .zp l=>.zp (JB l)
def JB:List Sv->List Sv
 | []=>[]
 |a::l=>Ck a::JB l
end
end
def isRef:AV->Bool
 | .ref _ _=>true
 | _=>false
structure Rn(E1:En)(N1:Nat)(E:En)(N:Nat)(f:Nat->Nat)(b:Nat):Prop where
 lt: ∀ j,j<N1->f j<N
 K: ∀ j,j<N1->(E.K (f j)).av=(E1.K j).av/\(isRef (E1.K j).av=true∨E.K (f j)=E1.K j)
 tk: ∀ m,m<N1->m≠0->b+m<N/\E.tk (b+m)=E1.tk m
 G:RU E1.G E.G
section
variable {E1:En}{N1:Nat}{E:En}{N:Nat}{f:Nat->Nat}{b:Nat}
theorem HH: ∀ (l:List Sv),(JB f b l).length=l.length
 | []=>by unfold JB;rfl
 |a::l=>by unfold JB;simp[HH l]
mutual
theorem V.rn(R:Rn E1 N1 E N f b): ∀ {v a},V E1 N1 v a->V E N (Ck f b v) a
 | _,_,.i=>by unfold Ck;exact .i
 | _,_,.b=>by unfold Ck;exact .b
 | _,_,.a k=>by unfold Ck;exact .a k
 | _,_,.c (m:=m) k h=>by
  unfold Ck
  refine .c (EV.mono R.G _ _ _ k) fun hm=>?_
  cases hb:Nat.beq m 0 with
  |true=>rw[hb]at hm;exact(hm rfl).elim
  |false=>
   have hm0:m≠0:=fun e=>by subst e;cases hb
   obtain⟨h1,h2⟩:=h hm0
   obtain⟨t1,t2⟩:=R.tk m h1 hm0
   exact⟨t1,by rw[h2];exact t2.symm⟩
 | _,_,.ag k=>by unfold Ck;exact .ag (Vs.rn R k)
 | _,_,.tu k=>by unfold Ck;exact .tu (Vs.rn R k)
 | _,_,.fn k=>by unfold Ck;exact .fn (Vs.rn R k)
 | _,_,.rf h k=>by unfold Ck;exact .rf (R.lt _ h) (by rw[(R.K _ h).1];exact k)
 | _,_,.re h k i=>by unfold Ck;exact .re (R.lt _ h) (by rw[(R.K _ h).1];exact k) i
 | _,_,.os (r:=r) h k=>by
  unfold Ck
  obtain⟨k1,k2⟩:=R.K _ h
  rcases k2 with k2|k2
  ·rcases k with⟨k,_⟩|⟨_,_,k⟩
   ·generalize (E1.K r).av=x at k k2;cases x<;>first|(cases k2;done)|(cases k;done)
   ·rw[k]at k2;cases k2
  ·have:=V.os (E:=E) (N:=N) (r:=f r) (R.lt _ h) (by rw[k2];exact k)
   rw[k2]at this;exact this
 | _,_,.se (r:=r) (sz:=sz) h k n o=>by
  unfold Ck
  obtain⟨k1,k2⟩:=R.K _ h
  rcases k2 with k2|k2
  ·generalize (E1.K r).av=x at k k2;cases x<;>first|(cases k2;done)|(cases k;done)
  ·have:=V.se (E:=E) (N:=N) (r:=f r) (sz:=sz) (R.lt _ h) (by rw[k2];exact k) (by rw[k2];exact n) o
   rw[k2]at this;exact this
 | _,_,.ss (r:=r) h k n=>by
  unfold Ck
  obtain⟨k1,k2⟩:=R.K _ h
  rcases k2 with k2|k2
  ·rw[k]at k2;cases k2
  ·exact .ss (R.lt _ h) (by rw[k2];exact k) (by rw[k2];exact n)
 | _,_,.xo h k=>by unfold Ck;exact .xo (R.lt _ h) (by rw[(R.K _ h).1];exact k)
 | _,_,.zp k=>by unfold Ck;exact .zp (Vs.rn R k)
 | _,_,.zr k g s=>by unfold Ck;exact .zr (Vs.rn R k) (R.G _ _ g) (by rw[HH];exact s)
theorem Vs.rn(R:Rn E1 N1 E N f b): ∀ {l l'},Vs E1 N1 l l'->Vs E N (JB f b l) l'
 | _,_,.nil=>by unfold JB;exact .nil
 | _,_,.cons a k=>by unfold JB;exact .cons (V.rn R a) (Vs.rn R k)
end
end
def VI(H:Hq)(r:Nat):Nat:=match H.aL.get r with
 |some (.o g _)=>g
 | _=>0
def Dz(rn:List (Nat×Nat))(b:Nat)(H1:Hq)(j:Nat):Nat:=match H1.aL.get j with
 |some (.o g _)=>bif Nat.beq g 0 then Nat.add b j else(match look g rn with
  |some r=>r
  |none=>Nat.add b j)
 | _=>Nat.add b j
def DA(rn:List (Nat×Nat))(b:Nat)(H H1:Hq)(R:Row):Row:=match R with
 | .o g l=>.o (bif Nat.beq g 0 then 0 else(match look g rn with
  |some r=>VI H r
  |none=>0)) (JB (Dz rn b H1) b l)
 | .zo l=>.zo (JB (Dz rn b H1) b l)
 |R=>R
def Au(rn:List (Nat×Nat))(H:Hq):Hq:=List.rec H (fun p _ ih=>jo ih p.2 none) rn
def Bz(rn:List (Nat×Nat))(b:Nat)(H H1:Hq)(n:Nat):Hq:=Nat.rec (Au rn H) (fun j ih=>match H1.aL.get j with
 |some R=>jo ih (Dz rn b H1 j) (some (DA rn b H H1 R))
 |none=>ih) n
def yu(rn:List (Nat×Nat))(H H1:Hq):Hq:=⟨Nat.add H.next H1.next,(Bz rn H.next H H1 H1.next).aL⟩
def cQ.call(s:cQ):List Sv->Hq->T (Sv×Hq):=fun args H=>match yq s.P args ⟨H,1,[]⟩with
 |some (pl,[],X)=>(s.f pl).bd fun q=>(match gp s.Q q e1 with
  |some (v::_,[],H1)=>.ok (Ck (Dz X.rn X.H.next H1) X.H.next v,yu X.rn X.H H1)
  | _=>.bad)
 | _=>.bad
theorem Av{H:Hq}: ∀ {rn:List (Nat×Nat)} {r:Nat} {R:Row},(Au rn H).aL.get r=some R->H.aL.get r=some R/\ ∀ j,(j,r)∉rn
 | [],r,R,h=>⟨h,fun j hj=>by cases hj⟩
 |p::rn,r,R,h=>by
  have h:(jo (Au rn H) p.2 none).aL.get r=some R:=h
  rw[fp]at h
  split at h
  ·cases h
  ·rename_i ne
   obtain⟨a,b⟩:=Av h
   refine⟨a,fun j hj=>?_⟩
   rcases List.mem_cons.1 hj with e|e
   ·rw[<-e]at ne;exact ne rfl
   ·exact b j e
theorem yv{rn:List (Nat×Nat)}{b:Nat}{H H1:Hq}: ∀ {n r:Nat} {Q:Row},(Bz rn b H H1 n).aL.get r=some Q->(∃ j R,j<n/\H1.aL.get j=some R/\Dz rn b H1 j=r/\Q=DA rn b H H1 R)∨(Au rn H).aL.get r=some Q
 |0,r,Q,h=>.inr h
 |n+1,r,Q,h=>by
  have h:(match H1.aL.get n with|some R=>jo (Bz rn b H H1 n) (Dz rn b H1 n) (some (DA rn b H H1 R))|none=>Bz rn b H H1 n).aL.get r=some Q:=h
  split at h
  ·rename_i R hR
   rw[fp]at h
   split at h
   ·rename_i e;cases h;exact .inl ⟨n,R,Nat.lt_succ_self _,hR,e.symm,rfl⟩
   ·rcases yv h with⟨j,R',a,c⟩|k
    ·exact .inl ⟨j,R',Nat.lt_succ_of_lt a,c⟩
    ·exact .inr k
  ·rcases yv h with⟨j,R',a,c⟩|k
   ·exact .inl ⟨j,R',Nat.lt_succ_of_lt a,c⟩
   ·exact .inr k
theorem FW{rn:List (Nat×Nat)}{b:Nat}{H H1:Hq}{R:Row}:(DA rn b H H1 R).live=R.live:=by cases R<;>rfl
theorem SJ{s:cQ}{f:FuncId}{ao:aA}(k:s.Ok f ao){E:En}{args:List Sv}{as:List AV}{H H':Hq}{h:Hp}{v:Sv}(hv:Vs E H.next args as)(hH:SR E H h)(e:(s.call args H).val=some (v,H')):
 ∃ c h' E',Ev (fun n d=>ao n d f as h) (.ok c h')/\Nx E E' H H' h h'/\SR E' H' h'/\V E' H'.next v c:=by
 unfold cQ.call at e
 split at e
 ·rename_i pl X hx
  obtain⟨q,e2,e3⟩:=Lf.T.dh e
  split at e3
  ·rename_i w ws' H1 acW
   cases e3
   obtain⟨E2,E0,H0,ws,a1,a2,n1,S2,s2,d1,d2,d3,d4,_,_⟩:=FV s.P (X:=⟨H,1,[]⟩) hH (Yd hH E.A rfl) hv hx
   have ha2:a2=[]:=by cases d2;rfl
   rw[ha2,List.append_nil]at d1
   subst d1
   have VH:=d3 []
   rw[List.append_nil]at VH
   obtain⟨c,h',E1,ws1,H1',k1,X1,S1,f1,v1⟩:=k pl q ws H0 E0.tg h as e2 VH (Vs.Kp d4) (Yg s2.S0)
   rw[acW]at f1
   cases f1
   have hb0: ∀ p,p∈X.rn->p.2<X.H.next:=fun p hp=>by
    obtain⟨_,⟨R,oR,_⟩,_,_⟩:=s2.rn p hp
    exact(S2.row _ _ oR).1
   have zl: ∃ E':En,(∀ r,r<X.H.next->E'.K r=E2.K r/\E'.tk r=E2.tk r)/\(∀ j,E'.K (X.H.next+j)=E1.K j/\E'.tk (X.H.next+j)=E1.tk j)/\E'.G=E1.G/\E'.A=E2.A:=
    ⟨⟨fun r=>if r<X.H.next then E2.K r else E1.K (r - X.H.next),fun r=>if r<X.H.next then E2.tk r else E1.tk (r - X.H.next),E1.G,E2.A⟩,fun r hr=>⟨if_pos hr,if_pos hr⟩,fun j=>by
      show(if _ then _ else _)=_/\(if _ then _ else _)=_
      rw[if_neg (by omega),if_neg (by omega),Nat.add_sub_cancel_left]
      exact⟨rfl,rfl⟩,rfl,rfl⟩
   obtain⟨E',JC,hKn,SK,hEA⟩:=zl
   have hN:(yu X.rn X.H H1).next=X.H.next+H1.next:=rfl
   have VJ: ∀ {j g:Nat} {l:List Sv},H1.aL.get j=some (.o g l)->g≠0->(E1.K j).av=(E0.K g).av:=by
    intro j g l hj hg
    obtain⟨_,id,row,k1,k2,k3,k4⟩:=S1.row _ _ hj
    rw[k4 hg,X1.A]
    rfl
   have M9: ∀ j,j<H1.next->Dz X.rn X.H.next H1 j<X.H.next+H1.next/\(E'.K (Dz X.rn X.H.next H1 j)).av=(E1.K j).av/\(isRef (E1.K j).av=true∨E'.K (Dz X.rn X.H.next H1 j)=E1.K j):=by
    intro j hj
    have plain:X.H.next+j<X.H.next+H1.next/\(E'.K (X.H.next+j)).av=(E1.K j).av/\(isRef (E1.K j).av=true∨E'.K (X.H.next+j)=E1.K j):=⟨by omega,by rw[(hKn j).1],.inr (hKn j).1⟩
    unfold Dz
    split
    ·rename_i g l hg
     cases hb:Nat.beq g 0 with
     |true=>exact plain
     |false=>
      have SF:g≠0:=fun e=>by subst e;cases hb
      simp only[cond_false]
      cases hl:look g X.rn with
      |none=>exact plain
      |some r=>
       have hm:=oz hl
       have hr:=hb0 _ hm
       obtain⟨_,_,_,q4⟩:=s2.rn _ hm
       have hmk:=VJ hg SF
       obtain⟨_,id,row,k1,_⟩:=S1.row _ _ hg
       refine⟨by show r<_;have:=hr;simp only at this;omega,?_,.inl (by rw[k1];rfl)⟩
       rw[(JC r hr).1,hmk]
       exact congrArg Kr.av q4.symm
    ·exact plain
   have RN:Rn E1 H1.next E' (yu X.rn X.H H1).next (Dz X.rn X.H.next H1) X.H.next:=
    ⟨fun j hj=>(M9 j hj).1,fun j hj=>(M9 j hj).2,fun m hm _=>⟨by rw[hN];omega,(hKn m).2⟩,by rw[SK];exact fun _ _ e=>e⟩
   have HI: ∀ {j id:Nat},own (iG H0) j->ly (E0.tg.K j).av=some id-> ∃ r,(j,r)∈X.rn/\own X.H r/\ly (E2.K r).av=some id:=by
    intro j id o e
    obtain⟨r,hr⟩:=s2.ow j (uk o)
    obtain⟨_,o2,_,q4⟩:=s2.rn _ hr
    exact⟨r,hr,o2,by rw[<-show E0.K j=E2.K r from q4];exact e⟩
   have rL: ∀ {r:Nat} {Q:Row},(Au X.rn X.H).aL.get r=some Q->X.H.aL.get r=some Q/\r<X.H.next/\(∀ id,Q.live=true->ly (E2.K r).av=some id-> ∀ j,own (iG H0) j->ly (E0.tg.K j).av≠some id):=by
    intro r Q hq
    obtain⟨a,b⟩:=Av hq
    refine⟨a,(S2.row _ _ a).1,fun id lv e j o e2=>?_⟩
    obtain⟨r',hr',o',e'⟩:=HI o e2
    have:=S2.inj r r' id ⟨Q,a,lv⟩ o' e e'
    subst this
    exact b j hr'
   have Na: ∀ {r:Nat} {Q:Row},(yu X.rn X.H H1).aL.get r=some Q->(∃ j R,j<H1.next/\H1.aL.get j=some R/\Dz X.rn X.H.next H1 j=r/\Q=DA X.rn X.H.next X.H H1 R)∨(Au X.rn X.H).aL.get r=some Q:=fun hq=>yv hq
   have Nb: ∀ {r:Nat},own (yu X.rn X.H H1) r->(∃ j,j<H1.next/\own H1 j/\Dz X.rn X.H.next H1 j=r)∨(r<X.H.next/\own X.H r/\(∀ id,ly (E2.K r).av=some id-> ∀ j,own (iG H0) j->ly (E0.tg.K j).av≠some id)):=by
    rintro r ⟨Q,q1,q2⟩
    rcases Na q1 with⟨j,R,a,b,c,d⟩|q
    ·exact .inl ⟨j,a,⟨R,b,by rw[d,FW]at q2;exact q2⟩,c⟩
    ·obtain⟨a,b,c⟩:=rL q
     exact .inr ⟨b,⟨Q,a,q2⟩,fun id e=>c id q2 e⟩
   have VK: ∀ {j id:Nat},own H1 j->ly (E1.K j).av=some id->(∃ j0,own (iG H0) j0/\ly (E0.tg.K j0).av=some id)∨h.next<=id:=fun o e=>X1.ow _ _ o e
   have VL: ∀ {j r id:Nat},own H1 j->ly (E1.K j).av=some id->own X.H r->ly (E2.K r).av=some id->(∀ id,ly (E2.K r).av=some id-> ∀ j,own (iG H0) j->ly (E0.tg.K j).av≠some id)->False:=by
    intro j r id o e o' e' hn
    rcases VK o e with⟨j0,a,b⟩|a
    ·exact hn id e' j0 a b
    ·have:=S2.lt r id o' e';omega
   refine⟨c,h',E',k1,n1.trans ⟨⟨fun r hr=>(JC r hr).1,fun r hr=>(JC r hr).2,?_,hEA⟩,by rw[hN];omega,X1.Cj,?_,?_,?_⟩,⟨?_,?_,?_,?_⟩,?_⟩
   ·rw[SK]
    have:=X1.G
    rw[show E0.tg.G=E2.G from s2.G]at this
    exact this
   ·intro r id o e
    rcases Nb o with⟨j,a,b,cc⟩|⟨a,b,_⟩
    ·rw[<-cc,(M9 j a).2.1]at e
     rcases VK b e with⟨j0,o0,e0⟩|q
     ·obtain⟨r',_,o',e'⟩:=HI o0 e0
      exact .inl ⟨r',o',e'⟩
     ·exact .inr q
    ·rw[(JC r a).1]at e;exact .inl ⟨r,b,e⟩
   ·intro id row e
    rw[SK]at e
    rcases X1.gw id row e with q|⟨j0,o0,e0⟩|q
    ·rw[show E0.tg.G=E2.G from s2.G]at q;exact .inl q
    ·obtain⟨r',_,o',e'⟩:=HI o0 e0
     exact .inr (.inl ⟨r',o',e'⟩)
    ·exact .inr (.inr q)
   ·intro id hi hn
    refine X1.fr id hi fun j o e=>?_
    obtain⟨r',_,o',e'⟩:=HI o e
    exact hn r' o' e'
   ·
    intro r Q hq
    rcases Na hq with⟨j,R,a,b,cc,rfl⟩|q
    ·subst cc
     refine⟨(M9 j a).1,?_⟩
     obtain⟨_,s1⟩:=S1.row _ _ b
     have yk:=(M9 j a).2.1
     cases R with
     |o g l=>
      obtain⟨id,row,k1,k2,k3,k4⟩:=s1
      refine⟨id,row,by rw[yk];exact k1,k2,Vs.rn RN k3,fun hg=>?_⟩
      rw[yk]
      cases hb:Nat.beq g 0 with
      |true=>rw[hb]at hg;exact(hg rfl).elim
      |false=>
       have SF:g≠0:=fun e=>by subst e;cases hb
       rw[hb]at hg
       simp only[cond_false]at hg ⊢
       cases hl:look g X.rn with
       |none=>rw[hl]at hg;exact(hg rfl).elim
       |some r=>
        rw[hl]at hg
        simp only at hg ⊢
        have hm:=oz hl
        obtain⟨_,⟨Rr,oR,lR⟩,_,q4⟩:=s2.rn _ hm
        have hmk:=VJ b SF
        rw[hmk,show E0.K g=E2.K r from q4,hEA]
        unfold VI at hg ⊢
        have oR:X.H.aL.get r=some Rr:=oR
        rw[oR]at hg ⊢
        cases Rr with
        |o g' l'=>
         obtain⟨_,_,_,_,_,_,t4⟩:=S2.row _ _ oR
         exact t4 hg
        | _=>exact(hg rfl).elim
     |zo l=>
      obtain⟨id,row,k1,k2,k3⟩:=s1
      exact⟨id,row,by rw[yk];exact k1,by rw[SK];exact k2,Vs.rn RN k3⟩
     |l t x=>
      have hK:E'.K (Dz X.rn X.H.next H1 j)=E1.K j:=by unfold Dz;rw[b];exact(hKn j).1
      rw[hK]
      exact LR.mono (by rw[SK];exact fun _ _ e=>e) (fun _ _ _ e=>e) s1
     |z t x=>
      have hK:E'.K (Dz X.rn X.H.next H1 j)=E1.K j:=by unfold Dz;rw[b];exact(hKn j).1
      rw[hK]
      exact LR.mono (by rw[SK];exact fun _ _ e=>e) (fun _ _ _ e=>by rw[SK];exact e) s1
    ·obtain⟨a,b,hn⟩:=rL q
     obtain⟨_,s1⟩:=S2.row _ _ a
     refine⟨by rw[hN];omega,?_⟩
     rw[(JC r b).1]
     have le2:w7 E2 E' X.H.next:=⟨fun r hr=>(JC r hr).1,fun r hr=>(JC r hr).2,by rw[SK];have:=X1.G;rw[show E0.tg.G=E2.G from s2.G]at this;exact this,hEA⟩
     refine s1.mono le2 (by rw[hN];omega) fun lv id row e1 e2=>?_
     have jB:=S2.lt r id ⟨Q,a,lv⟩ e1
     rw[X1.fr id jB fun j o e=>hn id lv e1 j o e]
     exact e2
   ·intro r r' id o o' e e'
    rcases Nb o with⟨j,a,b,rfl⟩|⟨a,b,hn⟩<;>rcases Nb o' with⟨j',a',b',rfl⟩|⟨a',b',XU⟩
    ·rw[(M9 j a).2.1]at e;rw[(M9 j' a').2.1]at e'
     rw[S1.inj j j' id b b' e e']
    ·rw[(M9 j a).2.1]at e;rw[(JC r' a').1]at e'
     exact(VL b e b' e' XU).elim
    ·rw[(M9 j' a').2.1]at e';rw[(JC r a).1]at e
     exact(VL b' e' b e hn).elim
    ·rw[(JC r a).1]at e;rw[(JC r' a').1]at e'
     exact S2.inj r r' id b b' e e'
   ·intro r id o e
    rcases Nb o with⟨j,a,b,rfl⟩|⟨a,b,hn⟩
    ·rw[(M9 j a).2.1]at e;exact S1.lt j id b e
    ·rw[(JC r a).1]at e;exact Nat.lt_of_lt_of_le (S2.lt r id b e) X1.Cj
   ·intro id row e
    rw[SK]at e
    obtain⟨g1,g2,g3⟩:=S1.g id row e
    refine⟨g1,g2,fun r o e2=>?_⟩
    rcases Nb o with⟨j,a,b,rfl⟩|⟨a,b,hn⟩
    ·rw[(M9 j a).2.1]at e2;exact g3 j b e2
    ·rw[(JC r a).1]at e2
     rcases X1.gw id row e with q|⟨j0,o0,e0⟩|q
     ·rw[show E0.tg.G=E2.G from s2.G]at q
      exact(S2.g id row q).2.2 r b e2
     ·exact hn id e2 j0 o0 e0
     ·have:=S2.lt r id b e2;omega
   ·cases v1 with
    |cons x _=>exact V.rn RN x
  ·cases e3
 ·cases e
def inl(bk:FuncId->Option dC)(ent:FuncId->Option cQ)(m d:Nat):eL:=Nat.rec (fun _ _ _=>.bad) (fun _ ih f args h=>match ent f with
 |some s=>s.call args h
 |none=>(match bk f with
  |some b=>bif Nat.ble b.ntmps 512 then De (fun _=>none) b m ih args h else .bad
  |none=>.bad)) d
theorem Nc{bk:FuncId->Option dC}{ent:FuncId->Option cQ}{m:Nat}{ao:aA}(hb: ∀ f b,bk f=some b->mJ ao f b)(he: ∀ f s,ent f=some s->s.Ok f ao): ∀ d,oy (inl bk ent m d) ao
 |0=>by intro E f args as H h v H' _ _ e;cases e
 |d+1=>by
  intro E f args as H h v H' hv hH e
  change (match ent f with|some s=>s.call args H|none=>(match bk f with|some b=>bif Nat.ble b.ntmps 512 then De (fun _=>none) b m (inl bk ent m d) args H else .bad|none=>.bad)).val=some (v,H')at e
  split at e
  ·rename_i s hs
   exact SJ (he f s hs) hv hH e
  ·split at e
   ·rename_i b Cf
    obtain⟨h5,e⟩:=eF e
    exact Dv (Nc hb he d) (R:=Rx.s) (hb f b Cf) (Nat.le_of_ble_eq_true h5) (aE _) hv hH e
   ·cases e
end Lf
end Go.Ab
