import Derived.Test.YtjeanplhkkpdmaaGreatDoorAb35
noncomputable section
namespace Go.Ab
namespace Lf
structure Kr where
 av:AV
 n:Nat
structure En where
 K:Nat->Kr
 tk:Nat->AV
 G:Nat->Option Rw
 A:Nat->AV
section
variable {α:Type}
def rQ(E:α->List AV->Prop):List α->List AV->Prop
 | [],cs=>cs=[]
 |x::xs,cs=> ∃ c r,cs=c++r/\E x c/\rQ E xs r
theorem rQ.mono{E E':α->List AV->Prop}(h: ∀ x c,E x c->E' x c): ∀ {l:List α} {cs:List AV},rQ E l cs->rQ E' l cs
 | [],_,e=>e
 | _::_,_,⟨c,r,e,a,b⟩=>⟨c,r,e,h _ _ a,rQ.mono h b⟩
theorem rQ.app{E:α->List AV->Prop}: ∀ {l m:List α} {cs ds:List AV},rQ E l cs->rQ E m ds->rQ E (l++m) (cs++ds)
 | [],_,_,_,e,k=>by have e':_=[]:=e;subst e';simpa using k
 | _::_,_,_,_,⟨c,r,e,a,b⟩,k=>by subst e;exact⟨c,r++_,by simp,a,rQ.app b k⟩
theorem rQ.length{E:α->List AV->Prop}{s:Nat}(h: ∀ x c,E x c->c.length=s): ∀ {l:List α} {cs:List AV},rQ E l cs->cs.length=l.length*s
 | [],_,e=>by have e':_=[]:=e;subst e';simp
 | _::_,_,⟨c,r,e,a,b⟩=>by subst e;rw[List.length_append,h _ _ a,rQ.length h b,List.length_cons,Nat.succ_mul];omega
theorem rQ.drop{E:α->List AV->Prop}{s:Nat}(h: ∀ x c,E x c->c.length=s): ∀ (n:Nat) {l:List α} {cs:List AV},rQ E l cs->rQ E (l.drop n) (cs.drop (n*s))
 |0,_,_,e=>by simpa using e
 |n+1,[],_,e=>by have e':_=[]:=e;subst e';simp;rfl
 |n+1,_::_,_,⟨c,r,e,a,b⟩=>by
  subst e;have:=rQ.drop h n b;rw[List.drop_succ_cons,Nat.succ_mul,Nat.add_comm,<-List.drop_drop,List.drop_append_of_le_length (by rw[h _ _ a];exact Nat.le_refl _),<-h _ _ a,List.drop_length,List.nil_append,h _ _ a];exact this
theorem rQ.take{E:α->List AV->Prop}{s:Nat}(h: ∀ x c,E x c->c.length=s): ∀ (n:Nat) {l:List α} {cs:List AV},rQ E l cs->rQ E (l.take n) (cs.take (n*s))
 |0,_,_,e=>by simp;rfl
 |n+1,[],_,e=>by have e':_=[]:=e;subst e';simp;rfl
 |n+1,_::_,_,⟨c,r,e,a,b⟩=>by
  subst e;have:=rQ.take h n b;refine⟨c,r.take (n*s),?_,a,this⟩;rw[Nat.succ_mul,Nat.add_comm,<-h _ _ a,List.take_length_add_append]
theorem rQ.get{E:α->List AV->Prop}{s:Nat}(h: ∀ x c,E x c->c.length=s){l:List α}{cs:List AV}(e:rQ E l cs){i:Nat}(hi:i<l.length)(d:α):E (l.getD i d) ((cs.drop (i*s)).take s):=by
 induction l generalizing cs i with
 |nil=>simp at hi
 |cons x l ih=>
  obtain⟨c,r,rfl,a,b⟩:=e;cases i with
  |zero=>simp only[Nat.zero_mul,List.drop_zero,List.getD_cons_zero];rw[List.take_append_of_le_length (by rw[h _ _ a];exact Nat.le_refl _),<-h _ _ a,List.take_length];exact a
  |succ i=>
   rw[List.getD_cons_succ,Nat.succ_mul,Nat.add_comm,<-List.drop_drop,List.drop_append_of_le_length (by rw[h _ _ a];exact Nat.le_refl _),<-h _ _ a,List.drop_length,List.nil_append,h _ _ a];exact ih b (by simpa using hi)
end
def Sr(G:Nat->Option Rw)(t:Ty)(E:den t->List AV->Prop)(x:List (den t))(a:AV):Prop:=
 (kJ a=true/\x=[])∨ ∃ ls,rQ E x ls/\(a=.vG x.length ls∨ ∃ id base row,a=.my id base x.length (size t)/\G id=some row/\row.sQ base (x.length*size t)=some ls)
def EV(G:Nat->Option Rw):(t:Ty)->den t->List AV->Prop
 | .int k,x,cs=>cs=[.int k x]
 | .bool,x,cs=>cs=[.bool x]
 | .str,x,cs=>cs=[.sc (.string x)]
 | .cq t,x,cs=> ∃ a,cs=[a]/\Sr G t (EV G t) x a
 | .pair a b,x,cs=> ∃ c d,cs=c++d/\EV G a x.1 c/\EV G b x.2 d
def GLe(G G':Nat->Option Rw):Prop:= ∀ id row,G id=some row->G' id=some row
theorem Sr.mono{G G':Nat->Option Rw}(h:GLe G G'){t:Ty}{E E':den t->List AV->Prop}(he: ∀ x c,E x c->E' x c){x:List (den t)}{a:AV}(k:Sr G t E x a):Sr G' t E' x a:=by
 rcases k with k|⟨ls,k1,k2⟩
 ·exact .inl k
 ·refine .inr ⟨ls,k1.mono he,?_⟩
  rcases k2 with k2|⟨id,base,row,e,g,s⟩
  ·exact .inl k2
  ·exact .inr ⟨id,base,row,e,h _ _ g,s⟩
theorem EV.mono{G G':Nat->Option Rw}(h:GLe G G'): ∀ (t:Ty) (x:den t) (cs:List AV),EV G t x cs->EV G' t x cs
 | .int _,_,_,e=>e
 | .bool,_,_,e=>e
 | .str,_,_,e=>e
 | .cq t,_,_,⟨a,e,k⟩=>⟨a,e,k.mono h (EV.mono h t)⟩
 | .pair a b,_,_,⟨c,d,e,k1,k2⟩=>⟨c,d,e,EV.mono h a _ _ k1,EV.mono h b _ _ k2⟩
theorem EV.length{G:Nat->Option Rw}: ∀ (t:Ty) (x:den t) (cs:List AV),EV G t x cs->cs.length=size t
 | .int _,_,_,e=>by have e':_=_:=e;rw[e'];rfl
 | .bool,_,_,e=>by have e':_=_:=e;rw[e'];rfl
 | .str,_,_,e=>by have e':_=_:=e;rw[e'];rfl
 | .cq t,_,_,⟨a,e,k⟩=>by rw[e];rfl
 | .pair a b,_,_,⟨c,d,e,k1,k2⟩=>by
  have h1:=EV.length a _ _ k1;have h2:=EV.length b _ _ k2;show _=Nat.add (size a) (size b);rw[e,List.length_append,h1,h2];rfl
theorem w4{a:AV}(h:kJ a=true):kN a=true:=by cases a<;>first|rfl|cases h
theorem EV.kN{G:Nat->Option Rw}: ∀ (t:Ty) (x:den t) (cs:List AV),EV G t x cs-> ∀ a,a∈cs->kN a=true
 | .int _,_,_,e=>by have e':_=_:=e;rw[e'];intro a ha;simp at ha;subst ha;rfl
 | .bool,_,_,e=>by have e':_=_:=e;rw[e'];intro a ha;simp at ha;subst ha;rfl
 | .str,_,_,e=>by have e':_=_:=e;rw[e'];intro a ha;simp at ha;subst ha;rfl
 | .cq t,_,_,⟨a,e,k⟩=>by
  rw[e];intro b hb;simp at hb;subst hb
  rcases k with⟨k,_⟩|⟨_,_,k|⟨_,_,_,k,_⟩⟩
  ·exact w4 k
  ·rw[k];rfl
  ·rw[k];rfl
 | .pair a b,_,_,⟨c,d,e,k1,k2⟩=>by
  rw[e];intro x hx
  rcases List.mem_append.1 hx with h|h
  ·exact EV.kN a _ _ k1 x h
  ·exact EV.kN b _ _ k2 x h
theorem rQ.kN{α:Type}{E:α->List AV->Prop}(h: ∀ x c,E x c-> ∀ a,a∈c->kN a=true): ∀ {l:List α} {cs:List AV},rQ E l cs-> ∀ a,a∈cs->kN a=true
 | [],_,e=>by have e':_=[]:=e;subst e';intro a ha;simp at ha
 | _::_,_,⟨c,r,e,a,b⟩=>by
  subst e;intro y hy
  rcases List.mem_append.1 hy with k|k
  ·exact h _ _ a y k
  ·exact rQ.kN h b y k
mutual
inductive V (E:En) (N:Nat):Sv->AV->Prop
 |i {k n}:V E N (.i k n) (.int k n)
 |b {b}:V E N (.b b) (.bool b)
 |a {v}:aiE v=true->V E N (.a v) v
 |c {m t x a}:EV E.G t x [a]->(m≠0->m<N/\a=E.tk m)->V E N (.c m t x) a
 |ag {l l'}:Vs E N l l'->V E N (.ag l) (.agg l')
 |tu {l l'}:Vs E N l l'->V E N (.tu l) (.DO l')
 |fn {f l l'}:Vs E N l l'->V E N (.fn f l) (.fn f l')
 |rf {r o id}:r<N->(E.K r).av=.ref id 0->V E N (.rf r o) (.ref id o)
 |re {r sz i o id base n}:r<N->(E.K r).av=.my id base n sz->i<n->V E N (.re r sz i o) (.ref id (base+i*sz+o))
 |os {r sz}:r<N->((kJ (E.K r).av=true/\(E.K r).n=0)∨ ∃ id base,(E.K r).av=.my id base (E.K r).n sz)->V E N (.os r sz) (E.K r).av
 |se {r sz off}:r<N->kJ (E.K r).av=true->(E.K r).n=0->off=0->V E N (.ss r sz off 0) (E.K r).av
 |ss {r sz off n id base}:r<N->(E.K r).av=.my id base (E.K r).n sz->off+n<=(E.K r).n->V E N (.ss r sz off n) (.my id (base+off*sz) n sz)
 |xo {r sz off n id}:r<N->(E.K r).av=.ref id 0->V E N (.xo r sz off n) (.my id off n sz)
 |zp {l l' r}:Vs E N l l'->V E N (.zp l) (.qi (l'++r))
 |zr {l l' id off row}:Vs E N l l'->E.G id=some row->row.sQ off l.length=some l'->V E N (.zp l) (.ref id off)
inductive Vs (E:En) (N:Nat):List Sv->List AV->Prop
 |nil:Vs E N [] []
 |cons {a c l l'}:V E N a c->Vs E N l l'->Vs E N (a::l) (c::l')
end
structure Et(E E':En)(N:Nat):Prop where
 K: ∀ r,r<N->E'.K r=E.K r
 tk: ∀ r,r<N->E'.tk r=E.tk r
 G:GLe E.G E'.G
 A:E'.A=E.A
theorem Et.refl(E:En)(N:Nat):Et E E N:=⟨fun _ _=>rfl,fun _ _=>rfl,fun _ _ e=>e,rfl⟩
section
variable {E E':En}{N N':Nat}
mutual
theorem V.mono(h:Et E E' N)(hN:N<=N'): ∀ {a c},V E N a c->V E' N' a c
 | _,_,.i=>.i
 | _,_,.b=>.b
 | _,_,.a k=>.a k
 | _,_,.c k m=>.c (EV.mono h.G _ _ _ k) fun e=>⟨Nat.lt_of_lt_of_le (m e).1 hN,by rw[h.tk _ (m e).1];exact(m e).2⟩
 | _,_,.ag k=>.ag (Vs.mono h hN k)
 | _,_,.tu k=>.tu (Vs.mono h hN k)
 | _,_,.fn k=>.fn (Vs.mono h hN k)
 | _,_,.rf a b=>.rf (Nat.lt_of_lt_of_le a hN) (by rw[h.K _ a];exact b)
 | _,_,.re a b c=>.re (Nat.lt_of_lt_of_le a hN) (by rw[h.K _ a];exact b) c
 | _,_,.os (r:=r) a b=>by rw[<-h.K _ a];exact .os (Nat.lt_of_lt_of_le a hN) (by rw[h.K _ a];exact b)
 | _,_,.se (r:=r) a b c d=>by rw[<-h.K _ a];exact .se (Nat.lt_of_lt_of_le a hN) (by rw[h.K _ a];exact b) (by rw[h.K _ a];exact c) d
 | _,_,.ss a b c=>.ss (Nat.lt_of_lt_of_le a hN) (by rw[h.K _ a];exact b) (by rw[h.K _ a];exact c)
 | _,_,.xo a b=>.xo (Nat.lt_of_lt_of_le a hN) (by rw[h.K _ a];exact b)
 | _,_,.zp k=>.zp (Vs.mono h hN k)
 | _,_,.zr k g s=>.zr (Vs.mono h hN k) (h.G _ _ g) s
theorem Vs.mono(h:Et E E' N)(hN:N<=N'): ∀ {l l'},Vs E N l l'->Vs E' N' l l'
 | _,_,.nil=>.nil
 | _,_,.cons a b=>.cons (V.mono h hN a) (Vs.mono h hN b)
end
theorem Vs.length{l l'}(h:Vs E N l l'):l.length=l'.length:=by
 induction l generalizing l' with
 |nil=>cases h;rfl
 |cons a l ih=>cases h with|cons _ h=>simp[ih h]
theorem Vs.app{l l' m m'}(h:Vs E N l l')(k:Vs E N m m'):Vs E N (l++m) (l'++m'):=by
 induction l generalizing l' with
 |nil=>cases h;exact k
 |cons a l ih=>cases h with|cons a h=>exact .cons a (ih h)
theorem Vs.drop{l l'}(h:Vs E N l l')(n:Nat):Vs E N (l.drop n) (l'.drop n):=by
 induction n generalizing l l' with
 |zero=>simpa using h
 |succ n ih=>
  cases h with
  |nil=>simp;exact .nil
  |cons a h=>simpa using ih h
theorem Vs.take{l l'}(h:Vs E N l l')(n:Nat):Vs E N (l.take n) (l'.take n):=by
 induction n generalizing l l' with
 |zero=>simp;exact .nil
 |succ n ih=>
  cases h with
  |nil=>simp;exact .nil
  |cons a h=>simpa using .cons a (ih h)
theorem Vs.get{l l'}(h:Vs E N l l'){i:Nat}{a}(e:l[i]? =some a): ∃ c,l'[i]? =some c/\V E N a c:=by
 induction l generalizing l' i with
 |nil=>simp at e
 |cons b l ih=>
  cases h with
  |cons hb h=>
   cases i with
   |zero=>simp at e;subst e;exact⟨_,by simp,hb⟩
   |succ i=>simpa using ih h (by simpa using e)
theorem LQ{c:AV}(h:aiE c=true):kN c=true:=by cases c<;>first|rfl|cases h
theorem LU{c:AV}(h:kN c=true):c.cells=[c]:=by cases c<;>first|rfl|cases h
theorem V.one{a c}(h:V E N a c)(e:LL a=true):kN c=true:=by
 cases h with
 |a h=>exact LQ h
 |c h _=>exact EV.kN _ _ _ h _ (by simp)
 |ag h=>cases e
 |tu h=>cases e
 |os _ h=>rcases h with⟨h,_⟩|⟨_,_,h⟩
          ·exact w4 h
          ·rw[h];rfl
 |se _ h _ _=>exact w4 h
 | _=>rfl
theorem V.cells{a c}(h:V E N a c):Vs E N a.cells c.cells:=by
 by_cases e:LL a=true
 ·rw[LU (h.one e)]
  have:a.cells=[a]:=by cases a<;>first|rfl|cases e
  rw[this];exact .cons h .nil
 ·cases h with
  |ag h=>exact h
  |tu h=>exact .cons (.tu h) .nil
  | _=>exact(e rfl).elim
theorem Vs.NK{l l'}(h:Vs E N l l')(e: ∀ a,a∈l->LL a=true): ∀ a,a∈l'->kN a=true:=by
 induction l generalizing l' with
 |nil=>cases h;intro a ha;simp at ha
 |cons b l ih=>
  cases h with
  |cons hb h=>
   intro a ha
   rcases List.mem_cons.1 ha with k|k
   ·subst k;exact hb.one (e _ List.mem_cons_self)
   ·exact ih h (fun a ha=>e a (List.mem_cons_of_mem _ ha)) a k
theorem beq_true{a b:Nat}(h:Nat.beq a b=true):a=b:=Nat.eq_of_beq_eq_true h
theorem jI{α:Type}{b:Bool}{x:Option α}{y:α}(h:(bif b then x else none)=some y):b=true/\x=some y:=by cases b<;>simp_all
theorem Ss{l:List Sv}{off n:Nat}{r:List Sv}(h:ase l off n=some r):r=(l.drop off).take n/\r.length=n:=by
 change (bif Nat.beq (len (tk n (dp off l))) n then some (tk n (dp off l))else none)=some r at h
 rw[xM,qP,jH]at h;cases hb:Nat.beq (List.take n (List.drop off l)).length n with
 |false=>rw[hb]at h;cases h
 |true=>rw[hb]at h;cases h;exact⟨rfl,beq_true hb⟩
theorem Al{l:List AV}{off n:Nat}(h:((l.drop off).take n).length=n):Ef l off n=some ((l.drop off).take n):=by
 change (bif Nat.beq (len (tk n (dp off l))) n then some (tk n (dp off l))else none)=_
 rw[xM,qP,jH,h,Nat.beq_refl];rfl
theorem vW{agg:Bool}{l:List Sv}{l':List AV}{off n:Nat}{r:Sv}(h:Vs E N l l')(e:FF agg l off n=some r): ∃ c,part agg l' off n=some c/\V E N r c:=by
 unfold FF at e;split at e
 ·cases e
 ·rename_i s hs
  obtain⟨rfl,hl⟩:=Ss hs;have hv:=(h.drop off).take n;have hsg:=Al (l:=l') (off:=off) (n:=n) (by rw[<-hv.length,hl]);unfold part;rw[hsg];cases agg with
  |true=>cases e;exact⟨_,rfl,.ag hv⟩
  |false=>
   simp only[cond_false]at e ⊢;generalize (List.take n (List.drop off l))=s at e hv;generalize (List.take n (List.drop off l'))=s' at hv ⊢;split at e
   ·cases e;cases hv with
    |cons a b=>cases b;exact⟨_,rfl,a⟩
   ·cases e
theorem Oq{r:Rw}{off k:Nat}(h:off+k<=r.toL.length):r.sQ off k=some ((r.toL.drop off).take k):=by
 rw[lI]at h
 have hs:r.sQ off k=some (r.cells k off):=by unfold Rw.sQ;rw[show Nat.ble (Nat.add off k) r.n=true from(by rw[Nat.ble_eq];exact h)];rfl
 rw[hs,(tK hs).1]
theorem lM{r:Rw}{off k:Nat}{l:List AV}:r.sQ off k=some l↔off+k<=r.n/\l=(r.toL.drop off).take k:=by
 constructor
 ·intro h;have h1:=tK h;unfold Rw.sQ at h;obtain⟨hb,_⟩:=jI h;exact⟨by have:=Nat.le_of_ble_eq_true hb;exact this,h1.1⟩
 ·rintro⟨h,rfl⟩;exact Oq (by rw[lI];exact h)
theorem Wk{agg:Bool}{r:Rw}{off n:Nat}{c:AV}(hn:0<n)(h:part agg r.toL off n=some c):zA agg r off n=some c:=by
 unfold part at h;split at h
 ·cases h
 ·rename_i s hs
  obtain⟨rfl,hl⟩:=sU hs;unfold zA;rw[Oq (by rw[List.length_take,List.length_drop]at hl;omega)];exact h
theorem yP{G:Nat->Option Rw}(hg:E.G=G): ∀ (t:Ty) (x:den t) (cs:List AV),EV G t x cs->Vs E N (vp t x) cs
 | .int _,_,_,e=>by have e':_=_:=e;subst e';exact .cons (.c (by rw[hg];exact e) (fun h=>(h rfl).elim)) .nil
 | .bool,_,_,e=>by have e':_=_:=e;subst e';exact .cons (.c (by rw[hg];exact e) (fun h=>(h rfl).elim)) .nil
 | .str,_,_,e=>by have e':_=_:=e;subst e';exact .cons (.c (by rw[hg];exact e) (fun h=>(h rfl).elim)) .nil
 | .cq t,_,_,⟨a,e,k⟩=>by subst e;exact .cons (.c (by rw[hg];exact⟨a,rfl,k⟩) (fun h=>(h rfl).elim)) .nil
 | .pair a b,x,_,⟨c,d,e,k1,k2⟩=>by
  subst e;show Vs E N (app (vp a x.1) (vp b x.2)) _;rw[cZ];exact(yP hg a _ _ k1).app (yP hg b _ _ k2)
end
def Row.live:Row->Bool
 | .o _ _| .l _ _=>true
 | _=>false
def own(H:Hq)(r:Nat):Prop:= ∃ R,H.cz.get r=some R/\R.live=true
def sI:AV->Option Nat
 | .ref id _=>some id
 | .my id _ _ _=>some id
 | _=>none
theorem Su{a:AV}(h:kJ a=true):sI a=none:=by cases a<;>first|rfl|cases h
def LR(G:Nat->Option Rw)(t:Ty)(x:List (den t))(k:Kr)(S:Nat->Option Rw):Prop:=
 x.length=k.n/\((kJ k.av=true/\x=[])∨ ∃ id base row ls,k.av=.my id base k.n (size t)/\S id=some row/\row.sQ base (k.n*size t)=some ls/\rQ (EV G t) x ls)
def RV(E:En)(N:Nat)(h:Hp)(k:Kr):Row->Prop
 | .o g l=> ∃ id row,k.av=.ref id 0/\h.cz.get id=some row/\Vs E N l row.toL/\(g≠0->k.av=E.A g)
 | .zo l=> ∃ id row,k.av=.ref id 0/\E.G id=some row/\Vs E N l row.toL
 | .l t x=>LR E.G t x k h.cz.get
 | .z t x=>LR E.G t x k E.G
structure SR(E:En)(H:Hq)(h:Hp):Prop where
 row: ∀ r R,H.cz.get r=some R->r<H.next/\RV E H.next h (E.K r) R
 inj: ∀ r r' id,own H r->own H r'->sI (E.K r).av=some id->sI (E.K r').av=some id->r=r'
 lt: ∀ r id,own H r->sI (E.K r).av=some id->id<h.next
 g: ∀ id row,E.G id=some row->id<h.next/\h.cz.get id=some row/\ ∀ r,own H r->sI (E.K r).av≠some id
def TV(E:En)(N:Nat)(T:Tq)(t:Tm):Prop:= ∀ i v,i<512->T.at i=some v-> ∃ a,t.at i=some a/\V E N v a
structure Nx(E E':En)(H H':Hq)(h h':Hp):Prop where
 e:Et E E' H.next
 le:H.next<=H'.next
 KO:h.next<=h'.next
 ow: ∀ r id,own H' r->sI (E'.K r).av=some id->(∃ r0,own H r0/\sI (E.K r0).av=some id)∨h.next<=id
 gw: ∀ id row,E'.G id=some row->E.G id=some row∨(∃ r0,own H r0/\sI (E.K r0).av=some id)∨h.next<=id
 fr: ∀ id,id<h.next->(∀ r,own H r->sI (E.K r).av≠some id)->h'.cz.get id=h.cz.get id
theorem Nx.refl(E:En)(H:Hq)(h:Hp):Nx E E H H h h:=
 ⟨Et.refl _ _,Nat.le_refl _,Nat.le_refl _,fun r _ a b=>.inl ⟨r,a,b⟩,fun _ _ a=>.inl a,fun _ _ _=>rfl⟩
theorem Et.trans{E E1 E2:En}{N N1:Nat}(a:Et E E1 N)(b:Et E1 E2 N1)(h:N<=N1):Et E E2 N where
 K r hr:=(b.K r (Nat.lt_of_lt_of_le hr h)).trans (a.K r hr)
 tk r hr:=(b.tk r (Nat.lt_of_lt_of_le hr h)).trans (a.tk r hr)
 G id row e:=b.G id row (a.G id row e)
 A:=b.A.trans a.A
theorem Nx.trans{E E1 E2:En}{H H1 H2:Hq}{h h1 h2:Hp}(a:Nx E E1 H H1 h h1)(b:Nx E1 E2 H1 H2 h1 h2):Nx E E2 H H2 h h2 where
 e:=a.e.trans b.e a.le
 le:=Nat.le_trans a.le b.le
 KO:=Nat.le_trans a.KO b.KO
 ow r id k e:=by
  rcases b.ow r id k e with⟨r0,k0,e0⟩|k0
  ·exact a.ow r0 id k0 e0
  ·exact .inr (Nat.le_trans a.KO k0)
 gw id row e:=by
  rcases b.gw id row e with k|⟨r0,k0,e0⟩|k
  ·exact a.gw id row k
  ·rcases a.ow r0 id k0 e0 with k|k
   ·exact .inr (.inl k)
   ·exact .inr (.inr k)
  ·exact .inr (.inr (Nat.le_trans a.KO k))
 fr id hi hn:=by
  rw[b.fr id (Nat.lt_of_lt_of_le hi a.KO) fun r k e=>?_,a.fr id hi hn]
  rcases a.ow r id k e with⟨r0,k0,e0⟩|k0
  ·exact hn r0 k0 e0
  ·omega
theorem TV.mono{E E':En}{N N':Nat}{T:Tq}{t:Tm}(h:TV E N T t)(e:Et E E' N)(hN:N<=N'):TV E' N' T t:=fun i v hi hv=>by
 obtain⟨a,h1,h2⟩:=h i v hi hv;exact⟨a,h1,h2.mono e hN⟩
theorem Tq.pK(t:Tq)(i j:Nat)(x:Option Sv)(hi:i<512)(hj:j<512):(t.put i x).at j=if j=i then x else t.at j:=by
 unfold Tq.at Tq.put;rw[F8.yI _ _ _ _ (by omega) (by omega)];by_cases h1:j / 64=i / 64
 ·rw[if_pos h1,F8.yI _ _ _ _ (by omega) (by omega)];by_cases h2:j / 8 % 8=i / 8 % 8
  ·rw[if_pos h2,F8.yI _ _ _ _ (by omega) (by omega)];by_cases h3:j % 8=i % 8
   ·rw[if_pos h3,if_pos (by omega)]
   ·rw[if_neg h3,if_neg (by omega),h1,h2]
  ·rw[if_neg h2,if_neg (by omega),h1]
 ·rw[if_neg h1,if_neg (by omega)]
section
variable {α β:Type}
theorem T.w5(a:α):(T.ok a).val=some a:=rfl
theorem T.kX(c:Bool)(a b:T α):(T.br c a b).val=bif c then a.val else b.val:=rfl
theorem T.qS(c:Bool)(a:T α):(T.ck c a).val=bif c then a.val else none:=rfl
theorem T.Ou(x:T α)(f:α->T β):(x.bd f).val=x.val.bind fun a=>(f a).val:=by
 induction x with
 |bad=>rfl
 |ok a=>rfl
 |br c a b Aa EN=>
  show(bif c then(a.bd f).val else(b.bd f).val)=(bif c then a.val else b.val).bind _;cases c<;>simp[Aa,EN]
 |ck c a ih=>
  show(bif c then(a.bd f).val else none)=(bif c then a.val else none).bind _;cases c<;>simp[ih]
theorem T.kj{x:T α}{f:α->T β}{b:β}(h:(x.bd f).val=some b): ∃ a,x.val=some a/\(f a).val=some b:=by
 rw[T.Ou]at h;cases e:x.val with
 |none=>rw[e]at h;cases h
 |some a=>rw[e]at h;exact⟨a,rfl,h⟩
theorem T.cw{c:Bool}{x:T α}{b:α}(h:(T.ck c x).val=some b):c=true/\x.val=some b:=by
 rw[T.qS]at h;exact jI h
theorem tU{c:LB}{x:T α}{b:α}(h:(ckL c x).val=some b):c.v=true/\x.val=some b:=by
 cases c with
 |l c=>cases c with
  |true=>exact⟨rfl,h⟩
  |false=>cases h
 |t c=>exact T.cw h
end
def Ev{α:Type}(p:Nat->Nat->α)(r:α):Prop:= ∃ M,∀ n d,M<=n->M<=d->p n d=r
theorem Ev.const{α:Type}{x r:α}(h:x=r):Ev (fun _ _=>x) r:=⟨0,fun _ _ _ _=>h⟩
abbrev cx:=Nat->Nat->kh
abbrev OpN:=Nat->Nat->lO
def lV(f:mc)(g:OpN):Prop:= ∀ (E:En) (T:Tq) (t:Tm) (H:Hq) (h:Hp) (v:Sv) (T':Tq) (H':Hq),TV E H.next T t->SR E H h->(f T H).val=some (v,T',H')->
 ∃ c h' E',Ev (fun n d=>g n d t h) (.ok c h')/\Nx E E' H H' h h'/\SR E' H' h'/\V E' H'.next v c/\TV E' H'.next T' t
theorem ke{f:mc}{g:lO}(k: ∀ (E:En) (T:Tq) (t:Tm) (H:Hq) (h:Hp) (v:Sv) (T':Tq) (H':Hq),TV E H.next T t->SR E H h->(f T H).val=some (v,T',H')->H'=H/\T'=T/\ ∃ c,g t h=.ok c h/\V E H.next v c):lV f (fun _ _=>g):=by
 intro E T t H h v T' H' hT hH e;obtain⟨rfl,rfl,c,e1,hv⟩:=k E T t H h v T' H' hT hH e;exact⟨c,h,E,Ev.const e1,Nx.refl _ _ _,hH,hv,hT⟩
theorem acB{g:OpN}:lV (fun _ _=>.bad) g:=by intro E T t H h v T' H' _ _ e;cases e
end Lf
end Go.Ab
noncomputable section
namespace Go.Ab
namespace Lf
section
variable {E:En}{N:Nat}
theorem Wl{a:AV}{b:Sv}(h:ofA a=some b):V E N b a:=by
 unfold ofA at h;split at h
 ·cases h;exact .i
 ·cases h;exact .b
 ·cases h;exact .a rfl
 ·cases h;exact .a rfl
 ·cases h;exact .a rfl
 ·cases h;exact .tu .nil
 ·cases h;exact .fn .nil
 ·cases h
theorem BH{l:List AV}: ∀ {m:List Sv},Sm l=some m->Vs E N m l:=by
 induction l with
 |nil=>intro m h;cases h;exact .nil
 |cons a l ih=>
  intro m h
  change (match ofA a with|some b=>(match Sm l with|some r=>some (b::r)|none=>none)|none=>none)=some m at h
  split at h
  ·rename_i b hb
   split at h
   ·rename_i r hr;cases h;exact .cons (Wl hb) (ih hr)
   ·cases h
  ·cases h
theorem cU{T:Tq}{t:Tm}(hT:TV E N T t){o:Od}{a:Sv}(h:qx o T=some a): ∃ c,cY o t=some c/\V E N a c:=by
 cases o with
 |t i=>
  change (bif Nat.blt i 512 then T.at i else none)=some a at h
  obtain⟨hi,h⟩:=jI h;exact hT i a (jn.1 hi) h
 |c v=>exact⟨v,rfl,Wl h⟩
 |zz=>cases h
 |w o=>cases h
theorem vr{T:Tq}{t:Tm}(hT:TV E N T t){o:Od}{a:Sv}(h:opw o T=some a): ∃ c,cY o t=some (Ct c)/\V E N a c:=by
 cases o with
 |w o=>
  obtain⟨c,hc,hv⟩:=cU hT (o:=o) h;refine⟨c,?_,hv⟩;show(Option.rec none (fun a=>some (Ct a)) (cY o t):Option AV)=_;rw[hc]
 | _=>cases h
theorem Jo{T:Tq}{t:Tm}(hT:TV E N T t): ∀ {l:List Od} {vs:List Sv},VZ l T=some vs->(∃ cs,CC (l.map cY) t=some cs/\Vs E N vs cs):=by
 intro l
 induction l with
 |nil=>intro vs h;cases h;exact⟨[],rfl,.nil⟩
 |cons o l ih=>
  intro vs h
  change (match qx o T with|some v=>(match VZ l T with|some vs=>some (v::vs)|none=>none)|none=>none)=some vs at h
  split at h
  ·rename_i v hv
   split at h
   ·rename_i us hu
    cases h;obtain⟨c,hc,nd⟩:=cU hT hv;obtain⟨cs,vL,akI⟩:=ih hu;refine⟨c::cs,?_,.cons nd akI⟩;show(Option.rec none (fun v=>Option.rec none (fun vs=>some (v::vs)) (CC (l.map cY) t)) (cY o t):Option (List AV))=_;rw[hc,vL]
   ·cases h
  ·cases h
theorem oS{v:Sv}{x:LB}{a:AV}(h:V E N v a)(e:toB v=some x):a=.bool x.v:=by
 cases h with
 |b=>cases e;rfl
 |c k _=>
  unfold toB at e;split at e
  ·rename_i h;cases h
  ·rename_i h;cases h;cases e
   have k':[a]=[AV.bool _]:=k;injection k'
  ·cases e
 | _=>cases e
theorem oA{v:Sv}{k:IntKind}{n:Int}{a:AV}(h:V E N v a)(e:toN v=some (k,n)):a=.int k n:=by
 cases h with
 |i=>cases e;rfl
 |c q _=>
  unfold toN at e;split at e
  ·rename_i h;cases h
  ·rename_i h;cases h;cases e
   have k':[a]=[AV.int _ _]:=q;injection k'
  ·cases e
 | _=>cases e
theorem xB{v:Sv}{l:Bool}{s:ByteArray}{a:AV}(h:V E N v a)(e:toS v=some (l,s)):a=.sc (.string s):=by
 cases h with
 |a h=>
  unfold toS at e;split at e
  ·rename_i h;cases h;cases e;rfl
  ·rename_i h;cases h
  ·cases e
 |c q _=>
  unfold toS at e;split at e
  ·rename_i h;cases h
  ·rename_i h;cases h;cases e
   have k':[a]=[AV.sc (.string _)]:=q;injection k'
  ·cases e
 | _=>cases e
theorem m0{k:IntKind}{n:Int}:V E N (.c 0 (.int k) n) (.int k n):=.c rfl fun h=>(h rfl).elim
theorem s5{b:Bool}:V E N (.c 0 .bool b) (.bool b):=.c rfl fun h=>(h rfl).elim
theorem akJ{c:LB}:V E N (svB c) (.bool c.v):=by cases c with
 |l b=>exact .b
 |t b=>exact s5
theorem CU{α:Type}{j:Od}{T:Tq}{t:Tm}{a b:Tq->Lf.T α}{r:α}(hT:TV E N T t)(h:(Ak j T a b).val=some r):
 ∃ c T1,cY j t=some (.bool c)/\TV E N T1 t/\(c=true->(a T1).val=some r)/\(c=false->(b T1).val=some r):=by
 unfold Ak at h;split at h
 ·rename_i i
  cases hb:Nat.blt i 512 with
  |false=>rw[hb]at h;cases h
  |true=>
   rw[hb]at h;simp only[cond_true]at h;split at h
   ·rename_i c hc
    obtain⟨x,hx,hv⟩:=hT i _ (jn.1 hb) hc;cases hv;refine⟨c,T,hx,hT,fun e=>?_,fun e=>?_⟩<;>subst e<;>exact h
   ·rename_i m x hc
    obtain⟨y,hy,hv⟩:=hT i _ (jn.1 hb) hc;have:=oS hv rfl;subst this;have key: ∀ c:Bool,c=x->TV E N (T.put i (some (.b c))) t:=by
     intro c hcx j v hj hv;rw[Tq.pK _ _ _ _ (jn.1 hb) hj]at hv;split at hv
     ·rename_i e;subst e;cases hv;exact⟨_,hy,by rw[hcx];exact .b⟩
     ·exact hT j v hj hv
    cases x with
    |true=>exact⟨true,_,hy,key true rfl,fun _=>h,fun e=>by cases e⟩
    |false=>exact⟨false,_,hy,key false rfl,(fun e=>by cases e),fun _=>h⟩
   ·cases h
 ·rename_i c
  refine⟨c,T,rfl,hT,fun e=>?_,fun e=>?_⟩<;>subst e<;>exact h
 ·cases h
theorem FO(x:Od):lV (FH x) (fun _ _=>pW (cY x)):=ke (by
 intro E T t H h v T' H' hT hH e;unfold FH okO at e;split at e
 ·rename_i v' hv
  cases e;obtain⟨c,hc,nd⟩:=cU hT hv;refine⟨rfl,rfl,c,?_,nd⟩;show(Option.rec Go.Ab.Ro.bad (fun v=>Go.Ab.Ro.ok v h) (cY x t):Go.Ab.Ro)=_;rw[hc]
 ·cases e)
theorem Wm(c a b:Od):lV (aiH c a b) (fun _ _=>xt (cY c) (cY a) (cY b)):=by
 intro E T t H h v T' H' hT hH e;obtain⟨x,T1,hx,zI,h1,h2⟩:=CU hT e
 have hk:xt (cY c) (cY a) (cY b) t h=bif x then pW (cY a) t h else pW (cY b) t h:=by unfold xt;rw[hx]
 cases x with
 |true=>
  obtain⟨c',h',E',e1,e2⟩:=FO a E T1 t H h v T' H' zI hH (h1 rfl);exact⟨c',h',E',by simp only[hk];exact e1,e2⟩
 |false=>
  obtain⟨c',h',E',e1,e2⟩:=FO b E T1 t H h v T' H' zI hH (h2 rfl);exact⟨c',h',E',by simp only[hk];exact e1,e2⟩
theorem tW{v:Option Sv}{t T':Tq}{h H':Hq}{w:Sv}(e:(okO v t h).val=some (w,T',H')):v=some w/\T'=t/\H'=h:=by
 unfold okO at e;split at e
 ·cases e;exact⟨rfl,rfl,rfl⟩
 ·cases e
theorem cE{v:Sv}{t T':Tq}{h H':Hq}{w:Sv}(e:(okV v t h).val=some (w,T',H')):v=w/\T'=t/\H'=h:=by cases e;exact⟨rfl,rfl,rfl⟩
theorem LW(a:Od)(i:Nat):lV (BB a i) (fun _ _=>oN (cY a) i):=ke (by
 intro E T t H h v T' H' hT hH e;unfold BB at e;split at e
 ·rename_i vs hv
  obtain⟨e1,rfl,rfl⟩:=tW e;obtain⟨c,hc,nd⟩:=cU hT hv;cases nd with
  |tu k=>
   rw[nQ]at e1;obtain⟨c,h1,h2⟩:=k.get e1;refine⟨rfl,rfl,c,?_,h2⟩;unfold oN;rw[hc];simp only[nQ,h1]
 ·cases e)
theorem Sw(off size:Nat)(agg:Bool)(a:Od):lV (Jj off size agg a) (fun _ _=>tJ off size agg (cY a)):=ke (by
 intro E T t H h v T' H' hT hH e;unfold Jj at e;split at e
 ·rename_i vs hv
  obtain⟨e1,rfl,rfl⟩:=tW e;obtain⟨c,hc,nd⟩:=cU hT hv;cases nd with
  |ag k=>
   obtain⟨c,h1,h2⟩:=vW k e1;refine⟨rfl,rfl,c,?_,h2⟩;unfold tJ;rw[hc];simp only[h1]
 ·cases e)
theorem akK(f:FuncId)(cap:List Od):lV (sFn f cap) (fun _ _=>kFn f (cap.map cY)):=ke (by
 intro E T t H h v T' H' hT hH e;unfold sFn at e;split at e
 ·rename_i vs hv
  obtain⟨rfl,rfl,rfl⟩:=cE e;obtain⟨c,hc,nd⟩:=Jo hT hv;refine⟨rfl,rfl,_,?_,.fn nd⟩;unfold kFn;rw[hc]
 ·cases e)
theorem acC(a:Od):lV (Qf a) (fun _ _=>EW (cY a)):=ke (by
 intro E T t H h v T' H' hT hH e;unfold Qf at e;split at e
 all_goals first
  |(cases e;done)
  |(rename_i hv
    obtain⟨rfl,rfl,rfl⟩:=cE e;obtain⟨c,hc,nd⟩:=cU hT hv;refine⟨rfl,rfl,c,?_,nd⟩;unfold EW;rw[hc]
    cases nd<;>rfl))
theorem He(off:Nat)(a:Od):lV (wZ off a) (fun _ _=>kO off (cY a)):=ke (by
 intro E T t H h v T' H' hT hH e;unfold wZ at e;split at e
 ·rename_i r o hv
  obtain⟨rfl,rfl,rfl⟩:=cE e;obtain⟨c,hc,nd⟩:=cU hT hv;cases nd with
  |rf h1 h2=>exact⟨rfl,rfl,_,by unfold kO;rw[hc],.rf h1 h2⟩
 ·rename_i r s i o hv
  obtain⟨rfl,rfl,rfl⟩:=cE e;obtain⟨c,hc,nd⟩:=cU hT hv;cases nd with
  |re h1 h2 h3=>exact⟨rfl,rfl,_,by unfold kO;rw[hc],by have:=V.re (o:=o+off) h1 h2 h3;rw[<-Nat.add_assoc]at this;exact this⟩
 ·rename_i l hv
  cases hb:Nat.ble off (len l)with
  |false=>rw[hb]at e;cases e
  |true=>
   rw[hb]at e;obtain⟨rfl,rfl,rfl⟩:=cE e
   have hle:off<=l.length:=by have:=Nat.le_of_ble_eq_true hb;rwa [jH]at this
   obtain⟨c,hc,nd⟩:=cU hT hv;rw[qP];cases nd with
   |zp k=>
    rename_i l' r
    refine⟨rfl,rfl,_,by unfold kO;rw[hc],?_⟩;rw[qP,List.drop_append_of_le_length (by rw[<-k.length];exact hle)];exact .zp (k.drop off)
   |zr k g s=>
    rename_i l' id o row
    refine⟨rfl,rfl,_,by unfold kO;rw[hc],?_⟩;refine .zr (k.drop off) g ?_;obtain⟨s1,s2⟩:=lM.1 s;rw[List.length_drop];refine lM.2 ⟨by have e1:Nat.add o off=o+off:=rfl;omega,?_⟩;rw[s2,List.drop_take,List.drop_drop];rfl
 ·cases e)
end
end Lf
end Go.Ab
noncomputable section
namespace Go.Ab
namespace Lf
theorem sj{H:Hq}{R:Row}{i:Nat}:(lU H R).cz.get i=if i=H.next then some R else H.cz.get i:=Tr.qO _ _ _ _
theorem mE{H:Hq}{r i:Nat}{R:Option Row}:(qa H r R).cz.get i=if i=r then R else H.cz.get i:=Tr.qO _ _ _ _
theorem nz{h:Hp}{cs:Rw}{i:Nat}:(kA h cs).cz.get i=if i=h.next then some cs else h.cz.get i:=Tr.qO _ _ _ _
theorem qy{h:Hp}{r i:Nat}{cs:Option Rw}:(qj h r cs).cz.get i=if i=r then cs else h.cz.get i:=Tr.qO _ _ _ _
theorem LR.mono{G G':Nat->Option Rw}{S S':Nat->Option Rw}(hg:GLe G G'){t:Ty}{x:List (den t)}{k:Kr}(hs: ∀ id row,sI k.av=some id->S id=some row->S' id=some row)(h:LR G t x k S):LR G' t x k S':=by
 refine⟨h.1,?_⟩
 rcases h.2 with h2|⟨id,base,row,ls,e,s,g,l⟩
 ·exact .inl h2
 ·exact .inr ⟨id,base,row,ls,e,hs _ _ (by rw[e];rfl) s,g,l.mono (EV.mono hg t)⟩
theorem RV.mono{E E':En}{N N':Nat}{h h':Hp}{k:Kr}{R:Row}(e:Et E E' N)(hN:N<=N')(hs:R.live=true-> ∀ id row,sI k.av=some id->h.cz.get id=some row->h'.cz.get id=some row)(r:RV E N h k R):RV E' N' h' k R:=by
 cases R with
 |o g l=>obtain⟨id,row,a,b,c,d⟩:=r;exact⟨id,row,a,hs rfl _ _ (by rw[a];rfl) b,c.mono e hN,by rw[e.A];exact d⟩
 |zo l=>obtain⟨id,row,a,b,c⟩:=r;exact⟨id,row,a,e.G _ _ b,c.mono e hN⟩
 |l t x=>exact LR.mono e.G (hs rfl) r
 |z t x=>exact LR.mono e.G (fun id row _ k=>e.G _ _ k) r
def En.row(E:En)(r:Nat)(k:Kr):En:=⟨fun i=>if i=r then k else E.K i,E.tk,E.G,E.A⟩
theorem En.xR(E:En)(r:Nat)(k:Kr):Et E (E.row r k) r:=⟨fun i hi=>if_neg (by omega),fun _ _=>rfl,fun _ _ e=>e,rfl⟩
theorem so{E:En}{H:Hq}{h:Hp}(S:SR E H h){H1:Hq}(hn1:H1.next=H.next)(Wn: ∀ r R,H1.cz.get r=some R->H.cz.get r=some R){k:Kr}{R:Row}{h':Hp}(hn:h.next<=h'.next)
 (oz: ∀ id,id<h.next->(∀ r,own H r-> ¬ own H1 r->sI (E.K r).av≠some id)->h'.cz.get id=h.cz.get id)
 (qk: ∀ id,sI k.av=some id->id<h'.next/\(h.next<=id∨ ∃ r,own H r/\ ¬ own H1 r/\sI (E.K r).av=some id))
 (hR:RV E H.next h' k R)(live:R.live=true):SR (E.row H.next k) (lU H1 R) h'/\Nx E (E.row H.next k) H (lU H1 R) h h':=by
 have hle:=En.xR E H.next k
 have Wo: ∀ r,own H1 r->own H r:=fun r ⟨R,a,b⟩=>⟨R,Wn _ _ a,b⟩
 have vJ: ∀ r,own (lU H1 R) r->r=H.next∨(r<H.next/\own H1 r):=by
  rintro r ⟨R',a,b⟩;rw[sj,hn1]at a;split at a
  ·exact .inl ‹_›
  ·exact .inr ⟨(S.row _ _ (Wn _ _ a)).1,R',a,b⟩
 have IJ: ∀ r,own H1 r-> ∀ id,sI (E.K r).av=some id->h'.cz.get id=h.cz.get id:=by
  intro r o id e
  refine oz id (S.lt r id (Wo r o) e) fun r' o' n' e'=>?_
  exact n' (by rw[S.inj r' r id o' (Wo r o) e' e];exact o)
 have asj: ∀ id row,E.G id=some row->h'.cz.get id=some row:=by
  intro id row e;obtain⟨a,b,c⟩:=S.g id row e;rw[oz id a fun r o _=>c r o,b]
 have K0:(E.row H.next k).K H.next=k:=if_pos rfl
 have K1: ∀ r,r<H.next->(E.row H.next k).K r=E.K r:=fun r hr=>if_neg (by omega)
 refine⟨⟨?_,?_,?_,?_⟩,⟨hle,?_,hn,?_,?_,?_⟩⟩
 ·intro r R' hr;rw[sj,hn1]at hr;split at hr
  ·rename_i e
   cases hr;subst e;rw[K0];exact⟨by show _<Nat.add H1.next 1;rw[hn1];exact Nat.lt_succ_self _,RV.mono hle (by show _<=Nat.add H1.next 1;rw[hn1];exact Nat.le_succ _) (fun _ _ _ _ e=>e) hR⟩
  ·have h0:=S.row _ _ (Wn _ _ hr);refine⟨by show _<Nat.add H1.next 1;rw[hn1];exact Nat.lt_succ_of_lt h0.1,?_⟩;rw[K1 _ h0.1];exact RV.mono hle (by show _<=Nat.add H1.next 1;rw[hn1];exact Nat.le_succ _) (fun lv id row e1 e2=>by rw[IJ r ⟨R',hr,lv⟩ id e1];exact e2) h0.2
 ·intro r r' id o o' e e'
  rcases vJ r o with a|⟨a1,a2⟩<;>rcases vJ r' o' with b|⟨b1,b2⟩
  ·rw[a,b]
  ·subst a;rw[K0]at e;rw[K1 _ b1]at e'
   rcases(qk id e).2 with c|⟨q,q1,q2,q3⟩
   ·have:=S.lt _ _ (Wo _ b2) e';omega
   ·exact(q2 (by rw[S.inj q r' id q1 (Wo _ b2) q3 e'];exact b2)).elim
  ·subst b;rw[K0]at e';rw[K1 _ a1]at e
   rcases(qk id e').2 with c|⟨q,q1,q2,q3⟩
   ·have:=S.lt _ _ (Wo _ a2) e;omega
   ·exact(q2 (by rw[S.inj q r id q1 (Wo _ a2) q3 e];exact a2)).elim
  ·rw[K1 _ a1]at e;rw[K1 _ b1]at e';exact S.inj r r' id (Wo _ a2) (Wo _ b2) e e'
 ·intro r id o e
  rcases vJ r o with a|⟨a1,a2⟩
  ·subst a;rw[K0]at e;exact(qk id e).1
  ·rw[K1 _ a1]at e;exact Nat.lt_of_lt_of_le (S.lt _ _ (Wo _ a2) e) hn
 ·intro id row e;obtain⟨a,b,c⟩:=S.g id row e;refine⟨Nat.lt_of_lt_of_le a hn,asj id row e,fun r o e2=>?_⟩
  rcases vJ r o with q|⟨q1,q2⟩
  ·subst q;rw[K0]at e2
   rcases(qk id e2).2 with w|⟨w,w1,w2,w3⟩
   ·omega
   ·exact c _ w1 w3
  ·rw[K1 _ q1]at e2;exact c r (Wo _ q2) e2
 ·show H.next<=Nat.add H1.next 1;rw[hn1];exact Nat.le_succ _
 ·intro r id o e
  rcases vJ r o with a|⟨a1,a2⟩
  ·subst a;rw[K0]at e
   rcases(qk id e).2 with w|⟨w,w1,w2,w3⟩
   ·exact .inr w
   ·exact .inl ⟨w,w1,w3⟩
  ·rw[K1 _ a1]at e;exact .inl ⟨r,Wo _ a2,e⟩
 ·exact fun id row e=>.inl e
 ·exact fun id hi hn=>oz id hi fun r o _=>hn r o
theorem Qk{E:En}{H:Hq}{h:Hp}(S:SR E H h){k:Kr}{R:Row}{rw:Rw}(hk:sI k.av=some h.next∨sI k.av=none)
 (hR:RV E H.next (kA h rw) k R)(live:R.live=true):SR (E.row H.next k) (lU H R) (kA h rw)/\Nx E (E.row H.next k) H (lU H R) h (kA h rw):=by
 refine so S rfl (fun _ _ e=>e) (Nat.le_succ _) (fun id hi _=>?_) (fun id e=>?_) hR live
 ·rw[nz,if_neg (by omega)]
 ·rcases hk with hk|hk
  ·rw[hk]at e;cases e;exact⟨Nat.lt_succ_self _,.inl (Nat.le_refl _)⟩
  ·rw[hk]at e;cases e
theorem Wp{E:En}{H:Hq}{h:Hp}(S:SR E H h){l:List Sv}{rw:Rw}(hv:Vs E H.next l rw.toL):
 SR (E.row H.next ⟨.ref h.next 0,0⟩) (lU H (.o 0 l)) (kA h rw)/\Nx E (E.row H.next ⟨.ref h.next 0,0⟩) H (lU H (.o 0 l)) h (kA h rw):=
 Qk S (.inl rfl) ⟨h.next,rw,rfl,by rw[nz,if_pos rfl],hv,fun h=>(h rfl).elim⟩ rfl
theorem aiL{E:En}{H:Hq}{h:Hp}(S:SR E H h){t:Ty}{x:List (den t)}{rw:Rw}(hv:rQ (EV E.G t) x rw.toL):
 SR (E.row H.next ⟨.my h.next 0 x.length (size t),x.length⟩) (lU H (.l t x)) (kA h rw)/\Nx E (E.row H.next ⟨.my h.next 0 x.length (size t),x.length⟩) H (lU H (.l t x)) h (kA h rw):=by
 have hl:=hv.length (EV.length t);refine Qk S (.inl rfl) ⟨rfl,.inr ⟨h.next,0,rw,rw.toL,rfl,by rw[nz,if_pos rfl],?_,hv⟩⟩ rfl;refine lM.2 ⟨by rw[<-lI,hl,Nat.zero_add];exact Nat.le_refl _,?_⟩;show _=List.take (x.length*size t) _;rw[<-hl,List.drop_zero,List.take_length]
theorem TV.put{E:En}{N:Nat}{T:Tq}{t:Tm}(h:TV E N T t){i:Nat}{v:Sv}{a:AV}(hi:i<512)(hv:V E N v a):TV E N (T.put i (some v)) (t.put i (some a)):=by
 intro j w hj hw;rw[Tq.pK _ _ _ _ hi hj]at hw;rw[Tm.pK _ _ _ _ hi hj];split at hw
 ·rename_i e;cases hw;exact⟨a,if_pos e,hv⟩
 ·rename_i e;rw[if_neg e];exact h j w hj hw
theorem acD(cs:List AV):lV (akz cs) (fun _ _=>NI cs):=by
 intro E T t H h v T' H' hT hH e;unfold akz at e;split at e
 ·rename_i l hl
  obtain⟨rfl,rfl,rfl⟩:=cE e;obtain⟨S,X⟩:=Wp hH (l:=l) (rw:=Ee cs) (by rw[pj];exact BH hl);exact⟨_,_,_,Ev.const rfl,X,S,.rf (Nat.lt_succ_self _) (by show(if H.next=H.next then _ else _:Kr).av=_;rw[if_pos rfl]),hT.mono X.e X.le⟩
 ·cases e
theorem acE(x:Od):lV (akA x) (fun _ _=>GY (cY x)):=by
 intro E T t H h v T' H' hT hH e;unfold akA at e;split at e
 ·rename_i w hw
  obtain⟨rfl,rfl,rfl⟩:=cE e;obtain⟨c,hc,nd⟩:=cU hT hw;obtain⟨S,X⟩:=Wp hH (l:=w.cells) (rw:=Ee c.cells) (by rw[pj];exact nd.cells);refine⟨_,_,_,Ev.const ?_,X,S,.rf (Nat.lt_succ_self _) (by show(if H.next=H.next then _ else _:Kr).av=_;rw[if_pos rfl]),hT.mono X.e X.le⟩;unfold GY;rw[hc]
 ·cases e
theorem acF(l:List Sv)(off:Nat)(new:List Sv):sZ l off new=l.take off++(new++l.drop (off+new.length)):=by
 unfold sZ;rw[cZ,cZ,xM,qP,jH];rfl
theorem Vs.put{E:En}{N:Nat}{l:List Sv}{l':List AV}{m:List Sv}{m':List AV}(h:Vs E N l l')(k:Vs E N m m')(off:Nat):Vs E N (sZ l off m) (put l' off m'):=by
 rw[acF,put_eq,k.length];exact(h.take off).app (k.app (h.drop _))
theorem yQ{E:En}{N:Nat}: ∀ {ps:List (Nat×Nat×Sv)} {qs:List (Nat×Nat×AV)} {z r:List Sv} {z':List AV},ps.length=qs.length->(∀ (i:Nat) (p:Nat×Nat×Sv),ps[i]? =some p-> ∃ q:Nat×Nat×AV,qs[i]? =some q/\q.1=p.1/\q.2.1=p.2.1/\V E N p.2.2 q.2.2)->Vs E N z z'->
 Jf ps z=some r-> ∃ r',ES qs z'=some r'/\Vs E N r r'
 | [],[],z,r,z',_,_,hz,e=>by cases e;exact⟨z',rfl,hz⟩
 | [],_::_,_,_,_,h,_,_,_=>by cases h
 | _::_,[],_,_,_,h,_,_,_=>by cases h
 |p::ps,q::qs,z,r,z',hl,hq,hz,e=>by
  obtain⟨q',hq1,h1,h2,hv⟩:=hq 0 p rfl;cases hq1
  change (bif Nat.beq (len p.2.2.cells) p.2.1&&Nat.ble (Nat.add p.1 p.2.1) (len z)then Jf ps (sZ z p.1 p.2.2.cells)else none)=some r at e
  obtain⟨hb,e⟩:=jI e;obtain⟨r',hr,Vu⟩:=yQ (ps:=ps) (qs:=qs) (by simpa using hl) (fun i p hp=>hq (i+1) p hp) (hz.put hv.cells p.1) e;refine⟨r',?_,Vu⟩;show(bif Nat.beq (len q.2.2.cells) q.2.1&&Nat.ble (Nat.add q.1 q.2.1) (len z')then ES qs (put z' q.1 q.2.2.cells)else none)=some r';rw[jH,<-hv.cells.length,h1,h2,jH,<-hz.length,<-jH,<-jH,hb,cond_true,hr]
theorem HZ{E:En}{N:Nat}{T:Tq}{t:Tm}(hT:TV E N T t): ∀ {ps:List (Nat×Nat×Od)} {vs:List (Nat×Nat×Sv)},Jg ps T=some vs->
 ∃ qs,vh (ps.map fun p=>(p.1,p.2.1,cY p.2.2)) t=some qs/\vs.length=qs.length/\ ∀ (i:Nat) (p:Nat×Nat×Sv),vs[i]? =some p-> ∃ q:Nat×Nat×AV,qs[i]? =some q/\q.1=p.1/\q.2.1=p.2.1/\V E N p.2.2 q.2.2
 | [],vs,e=>by cases e;exact⟨[],rfl,rfl,fun i p h=>by simp at h⟩
 |p::ps,vs,e=>by
  change (match qx p.2.2 T with|some v=>(match Jg ps T with|some vs=>some ((p.1,p.2.1,v)::vs)|none=>none)|none=>none)=some vs at e
  split at e
  ·rename_i v hv
   split at e
   ·rename_i us hu
    cases e;obtain⟨c,hc,nd⟩:=cU hT hv;obtain⟨qs,h1,h2,h3⟩:=HZ hT hu;refine⟨(p.1,p.2.1,c)::qs,?_,by simp[h2],fun i x hx=>?_⟩
    ·show(match cY p.2.2 t with|some v=>(match vh (ps.map fun(p:Nat×Nat×Od)=>(p.1,p.2.1,cY p.2.2)) t with|some vs=>some ((p.1,p.2.1,v)::vs)|none=>none)|none=>none)=_;rw[hc,h1]
    ·cases i with
     |zero=>simp at hx;subst hx;exact⟨_,rfl,rfl,rfl,nd⟩
     |succ i=>simpa using h3 i x (by simpa using hx)
   ·cases e
  ·cases e
theorem H5{E:En}{N:Nat}{T:Tq}{t:Tm}(hT:TV E N T t): ∀ {ps:List (Nat×Od)} {vs:List (Nat×Sv)},Jh ps T=some vs->
 ∃ qs,vg (ps.map fun p=>(p.1,cY p.2)) t=some qs/\vs.length=qs.length/\ ∀ (i:Nat) (p:Nat×Sv),vs[i]? =some p-> ∃ q:Nat×AV,qs[i]? =some q/\q.1=p.1/\V E N p.2 q.2
 | [],vs,e=>by cases e;exact⟨[],rfl,rfl,fun i p h=>by simp at h⟩
 |p::ps,vs,e=>by
  change (match qx p.2 T with|some v=>(match Jh ps T with|some vs=>some ((p.1,v)::vs)|none=>none)|none=>none)=some vs at e
  split at e
  ·rename_i v hv
   split at e
   ·rename_i us hu
    cases e;obtain⟨c,hc,nd⟩:=cU hT hv;obtain⟨qs,h1,h2,h3⟩:=H5 hT hu;refine⟨(p.1,c)::qs,?_,by simp[h2],fun i x hx=>?_⟩
    ·show(match cY p.2 t with|some v=>(match vg (ps.map fun(p:Nat×Od)=>(p.1,cY p.2)) t with|some vs=>some ((p.1,v)::vs)|none=>none)|none=>none)=_;rw[hc,h1]
    ·cases i with
     |zero=>simp at hx;subst hx;exact⟨_,rfl,rfl,nd⟩
     |succ i=>simpa using h3 i x (by simpa using hx)
   ·cases e
  ·cases e
theorem Sx(z:List AV)(ps:List (Nat×Nat×Od)):lV (Oi z ps) (fun _ _=>vi z (ps.map fun p=>(p.1,p.2.1,cY p.2.2))):=ke (by
 intro E T t H h v T' H' hT hH e;unfold Oi at e;split at e
 ·rename_i zs hz
  split at e
  ·rename_i vs hv
   split at e
   ·rename_i cs hc
    obtain⟨rfl,rfl,rfl⟩:=cE e;obtain⟨qs,h1,h2,h3⟩:=HZ hT hv;obtain⟨r',hr,Vu⟩:=yQ h2 h3 (BH hz) hc;refine⟨rfl,rfl,.agg r',?_,.ag Vu⟩;unfold vi;rw[h1];simp only[hr]
   ·cases e
  ·cases e
 ·cases e)
theorem H6{E:En}{N size:Nat}: ∀ {ps:List (Nat×Sv)} {qs:List (Nat×AV)} {k:Nat} {r:List Sv},ps.length=qs.length->(∀ (i:Nat) (p:Nat×Sv),ps[i]? =some p-> ∃ q:Nat×AV,qs[i]? =some q/\q.1=p.1/\V E N p.2 q.2)->
 FG size ps k=some r-> ∃ r',A9 size qs k=some r'/\Vs E N r r'
 | [],[],_,_,_,_,e=>by cases e;exact⟨[],rfl,.nil⟩
 | [],_::_,_,_,h,_,_=>by cases h
 | _::_,[],_,_,h,_,_=>by cases h
 |p::ps,q::qs,k,r,hl,hq,e=>by
  obtain⟨q',hq1,h1,hv⟩:=hq 0 p rfl;cases hq1
  change (bif Nat.beq p.1 k&&Nat.beq (len p.2.cells) size then(match FG size ps (Nat.add k 1)with|some r=>some (app p.2.cells r)|none=>none)else none)=some r at e
  obtain⟨hb,e⟩:=jI e;split at e
  ·rename_i s hs
   cases e;obtain⟨r',hr,Vu⟩:=H6 (ps:=ps) (qs:=qs) (by simpa using hl) (fun i p hp=>hq (i+1) p hp) hs;refine⟨q.2.cells++r',?_,?_⟩
   ·show(bif Nat.beq q.1 k&&Nat.beq (len q.2.cells) size then(match A9 size qs (Nat.add k 1)with|some r=>some (app q.2.cells r)|none=>none)else none)=_;rw[jH,<-hv.cells.length,h1,<-jH,hb,cond_true,hr];simp only[cZ]
   ·rw[cZ];exact hv.cells.app Vu
  ·cases e
theorem Jp{E:En}{N:Nat}{z:List Sv}{z':List AV}(h:Vs E N z z'): ∀ n,Vs E N (akx n z) (nn n z')
 |0=>.nil
 |n+1=>by
  show Vs E N (app z (akx n z)) (app z' (nn n z'));rw[cZ,cZ];exact h.app (Jp h n)
theorem FP{E:En}{N size:Nat}: ∀ {ps:List (Nat×Sv)} {qs:List (Nat×AV)},ps.length=qs.length->(∀ (i:Nat) (p:Nat×Sv),ps[i]? =some p-> ∃ q:Nat×AV,qs[i]? =some q/\q.1=p.1/\V E N p.2 q.2)->
 (Ji size ps).length=(scale size qs).length/\ ∀ (i:Nat) (p:Nat×Nat×Sv),(Ji size ps)[i]? =some p-> ∃ q:Nat×Nat×AV,(scale size qs)[i]? =some q/\q.1=p.1/\q.2.1=p.2.1/\V E N p.2.2 q.2.2
 | [],[],_,_=>⟨rfl,fun i p h=>by simp[Ji]at h⟩
 | [],_::_,h,_=>by cases h
 | _::_,[],h,_=>by cases h
 |p::ps,q::qs,hl,hq=>by
  obtain⟨q',hq1,h1,hv⟩:=hq 0 p rfl;cases hq1;obtain⟨a,b⟩:=FP (ps:=ps) (qs:=qs) (by simpa using hl) (fun i p hp=>hq (i+1) p hp);refine⟨by show _+1=_+1;exact congrArg _ a,fun i x hx=>?_⟩;cases i with
  |zero=>
   change some (Nat.mul p.1 size,size,p.2)=some x at hx
   cases hx;exact⟨(Nat.mul q.1 size,size,q.2),rfl,by show Nat.mul q.1 size=Nat.mul p.1 size;rw[h1],rfl,hv⟩
  |succ i=>exact b i x hx
theorem acG(n sz:Nat)(z:List AV)(ps:List (Nat×Od)):lV (akB n sz z ps) (fun _ _=>EU n sz z (ps.map fun p=>(p.1,cY p.2))):=by
 intro E T t H h v T' H' hT hH e;unfold akB at e;split at e
 ·rename_i vs hv
  obtain⟨qs,h1,h2,h3⟩:=H5 hT hv;cases hn:Nat.beq n 0 with
  |true=>
   rw[hn]at e;simp only[cond_true]at e;split at e
   ·obtain⟨rfl,rfl,rfl⟩:=cE e;refine⟨_,_,E,Ev.const ?_,Nx.refl _ _ _,hH,.a (v:=.xr) rfl,hT⟩;unfold EU;rw[h1];simp only[hn,cond_true];have:qs=[]:=by cases qs with
     |nil=>rfl
     |cons _ _=>cases h2
    rw[this]
   ·cases e
  |false=>
   rw[hn]at e;simp only[cond_false]at e;split at e
   ·rename_i zs hz
    split at e
    ·rename_i cs hc
     cases hb:(jC LL cs&&(Nat.blt 0 sz&&Nat.beq (len cs) (Nat.mul n sz)))with
     |false=>rw[hb]at e;cases e
     |true=>
      rw[hb]at e;simp only[cond_true]at e;obtain⟨rfl,rfl,rfl⟩:=cE e;have key: ∃ cs',yG n sz z qs=some cs'/\Vs E H.next cs cs':=by
       unfold LM at hc;unfold yG;rw[jH,<-h2,<-jH];cases hq:Nat.beq (len vs) n with
       |true=>
        rw[hq]at hc;simp only[cond_true]at hc ⊢;split at hc
        ·rename_i q hqq
         cases hc;obtain⟨r',a,b⟩:=H6 h2 h3 hqq;rw[a];exact⟨r',rfl,b⟩
        ·rename_i hqq
         obtain⟨a,b⟩:=FP (size:=sz) h2 h3;obtain⟨r',c,d⟩:=yQ a b (Jp (BH hz) n) hc;cases hf:A9 sz qs 0 with
         |none=>exact⟨r',c,d⟩
         |some w=>
          exfalso;have back: ∀ {ps:List (Nat×Sv)} {qs:List (Nat×AV)} {k:Nat} {w:List AV},ps.length=qs.length->(∀ (i:Nat) (p:Nat×Sv),ps[i]? =some p-> ∃ q:Nat×AV,qs[i]? =some q/\q.1=p.1/\V E H.next p.2 q.2)->A9 sz qs k=some w-> ∃ r,FG sz ps k=some r:=by
           intro ps
           induction ps with
           |nil=>intro qs k w _ _ _;exact⟨[],rfl⟩
           |cons p ps ih=>
            intro qs k w hl hq e;cases qs with
            |nil=>cases hl
            |cons q qs=>
             obtain⟨q',hq1,h1,hv⟩:=hq 0 p rfl;cases hq1
             change (bif Nat.beq q.1 k&&Nat.beq (len q.2.cells) sz then(match A9 sz qs (Nat.add k 1)with|some r=>some (app q.2.cells r)|none=>none)else none)=some w at e
             obtain⟨hb,e⟩:=jI e;split at e
             ·rename_i s hs
              obtain⟨r,hr⟩:=ih (by simpa using hl) (fun i p hp=>hq (i+1) p hp) hs;refine⟨app p.2.cells r,?_⟩;show(bif Nat.beq p.1 k&&Nat.beq (len p.2.cells) sz then(match FG sz ps (Nat.add k 1)with|some r=>some (app p.2.cells r)|none=>none)else none)=_;rw[jH,hv.cells.length,<-h1,<-jH,hb,cond_true,hr]
             ·cases e
          obtain⟨r,hr⟩:=back h2 h3 hf;rw[hqq]at hr;cases hr
       |false=>
        rw[hq]at hc;simp only[cond_false]at hc ⊢;obtain⟨a,b⟩:=FP (size:=sz) h2 h3;exact yQ a b (Jp (BH hz) n) hc
      obtain⟨cs',k1,k2⟩:=key;obtain⟨S,X⟩:=Wp hH (l:=cs) (rw:=Ee cs') (by rw[pj];exact k2);refine⟨_,_,_,Ev.const ?_,X,S,.xo (id:=h.next) (Nat.lt_succ_self _) (by show(if H.next=H.next then _ else _:Kr).av=_;rw[if_pos rfl]),hT.mono X.e X.le⟩;unfold EU;rw[h1];simp only[hn,cond_false,k1]
    ·cases e
   ·cases e
 ·cases e
end Lf
end Go.Ab
noncomputable section
namespace Go.Ab
namespace Lf
theorem tX{H:Hq}{r:Nat}{R:Row}(hl:R.live=false){q:Nat}(o:own (qa H r (some R)) q):q≠r/\own H q:=by
 obtain⟨R',a,b⟩:=o;rw[mE]at a;split at a
 ·cases a;rw[hl]at b;cases b
 ·exact⟨‹_›,R',a,b⟩
def En.fz(E:En)(a:AV)(h:Hp):En:=⟨E.K,E.tk,fun id=>if sI a=some id then h.cz.get id else E.G id,E.A⟩
inductive Frz:Row->Row->Prop
 |l {t x}:Frz (.l t x) (.z t x)
 |o {g l}:Frz (.o g l) (.zo l)
theorem H7{E:En}{H:Hq}{h:Hp}(S:SR E H h){r:Nat}{R R':Row}(hr:H.cz.get r=some R)(f:Frz R R'):
 SR (E.fz (E.K r).av h) (qa H r (some R')) h/\Nx E (E.fz (E.K r).av h) H (qa H r (some R')) h h:=by
 have lv:R.live=true:=by cases f<;>rfl
 have lv':R'.live=false:=by cases f<;>rfl
 have hg:GLe E.G (E.fz (E.K r).av h).G:=by
  intro id row e;show(if _ then _ else _)=_;split
  ·rename_i c;exact((S.g id row e).2.2 r ⟨R,hr,lv⟩ c).elim
  ·exact e
 have le:Et E (E.fz (E.K r).av h) H.next:=⟨fun _ _=>rfl,fun _ _=>rfl,hg,rfl⟩
 refine⟨⟨?_,?_,?_,?_⟩,⟨le,Nat.le_refl _,Nat.le_refl _,?_,?_,fun _ _ _=>rfl⟩⟩
 ·intro q Q hq;rw[mE]at hq;split at hq
  ·rename_i e;subst e;cases hq
   obtain⟨h1,h2⟩:=S.row _ _ hr;refine⟨h1,?_⟩;cases f with
   |l=>exact LR.mono hg (fun id row e k=>by have e':sI (E.K q).av=some id:=e;show(if _ then _ else _)=_;rw[if_pos e'];exact k) h2
   |o=>
    obtain⟨id,row,a,b,c,_⟩:=h2;exact⟨id,row,a,by show(if _ then _ else _)=_;rw[if_pos (by rw[a];rfl)];exact b,c.mono le (Nat.le_refl _)⟩
  ·obtain⟨h1,h2⟩:=S.row _ _ hq;exact⟨h1,h2.mono le (Nat.le_refl _) (fun _ _ _ _ e=>e)⟩
 ·intro a b id oa ob ea eb;exact S.inj a b id (tX lv' oa).2 (tX lv' ob).2 ea eb
 ·intro a id oa ea;exact S.lt a id (tX lv' oa).2 ea
 ·intro id row e;have e':(if sI (E.K r).av=some id then h.cz.get id else E.G id)=some row:=e;split at e'
  ·rename_i c
   refine⟨S.lt r id ⟨R,hr,lv⟩ c,e',fun q oq eq=>?_⟩;exact(tX lv' oq).1 (S.inj q r id (tX lv' oq).2 ⟨R,hr,lv⟩ eq c)
  ·obtain⟨a,b,c⟩:=S.g id row e';exact⟨a,b,fun q oq=>c q (tX lv' oq).2⟩
 ·intro q id oq eq;exact .inl ⟨q,(tX lv' oq).2,eq⟩
 ·intro id row e;have e':(if sI (E.K r).av=some id then h.cz.get id else E.G id)=some row:=e;split at e'
  ·rename_i c;exact .inr (.inl ⟨r,⟨R,hr,lv⟩,c⟩)
  ·exact .inl e'
structure Fz(E E':En)(H H':Hq)(h:Hp):Prop where
 K:E'.K=E.K
 tk:E'.tk=E.tk
 n:H'.next=H.next
 S:SR E' H' h
 X:Nx E E' H H' h h
theorem Fz.refl{E:En}{H:Hq}{h:Hp}(S:SR E H h):Fz E E H H h:=⟨rfl,rfl,rfl,S,Nx.refl _ _ _⟩
theorem Fz.trans{E E1 E2:En}{H H1 H2:Hq}{h:Hp}(a:Fz E E1 H H1 h)(b:Fz E1 E2 H1 H2 h):Fz E E2 H H2 h:=⟨b.K.trans a.K,b.tk.trans a.tk,b.n.trans a.n,b.S,a.X.trans b.X⟩
theorem Fz.g{E E':En}{H H':Hq}{h:Hp}(a:Fz E E' H H' h):GLe E.G E'.G:=a.X.e.G
theorem Fz.v{E E':En}{H H':Hq}{h:Hp}(a:Fz E E' H H' h){v:Sv}{c:AV}(k:V E H.next v c):V E' H'.next v c:=k.mono a.X.e a.X.le
theorem Fz.vs{E E':En}{H H':Hq}{h:Hp}(a:Fz E E' H H' h){v:List Sv}{c:List AV}(k:Vs E H.next v c):Vs E' H'.next v c:=k.mono a.X.e a.X.le
theorem CV{E:En}{H:Hq}{h:Hp}(S:SR E H h){r:Nat}{R R':Row}(hr:H.cz.get r=some R)(f:Frz R R'):Fz E (E.fz (E.K r).av h) H (qa H r (some R')) h:=
 ⟨rfl,rfl,rfl,(H7 S hr f).1,(H7 S hr f).2⟩
def wS(t:Ty)(f:List Sv->Hq->Option (den t×List Sv×Hq)):Prop:= ∀ (E:En) (H:Hq) (h:Hp) (l r:List Sv) (cs:List AV) (x:den t) (H':Hq),SR E H h->Vs E H.next l cs->f l H=some (x,r,H')->
 ∃ E' c d,Fz E E' H H' h/\cs=c++d/\EV E'.G t x c/\Vs E' H'.next r d
theorem Ov{t:Ty}{f:List Sv->Hq->Option (den t×List Sv×Hq)}(hf:wS t f): ∀ (n:Nat) (E:En) (H:Hq) (h:Hp) (l:List Sv) (cs:List AV) (x:List (den t)) (H':Hq),SR E H h->Vs E H.next l cs->rdS t f n l H=some (x,H')->
 ∃ E' c d,Fz E E' H H' h/\cs=c++d/\rQ (EV E'.G t) x c/\x.length=n
 |0,E,H,h,l,cs,x,H',S,_,e=>by cases e;exact⟨E,[],cs,Fz.refl S,rfl,rfl,rfl⟩
 |n+1,E,H,h,l,cs,x,H',S,hv,e=>by
  change (match f l H with|some (x,r,h)=>(match rdS t f n r h with|some (xs,h)=>some (x::xs,h)|none=>none)|none=>none)=some (x,H')at e
  split at e
  ·rename_i y r H1 hy
   split at e
   ·rename_i ys H2 hys
    cases e;obtain⟨E1,c1,d1,F1,rfl,v1,w1⟩:=hf E H h l r cs y H1 S hv hy;obtain⟨E2,c2,d2,F2,rfl,v2,w2⟩:=Ov hf n E1 H1 h r d1 ys H' F1.S w1 hys;exact⟨E2,c1++c2,d2,F1.trans F2,by simp,⟨c1,c2,rfl,EV.mono F2.g _ _ _ v1,v2⟩,by simp[w2]⟩
   ·cases e
  ·cases e
theorem vt{r:Rw}{base k:Nat}{ls:List AV}(s:r.sQ base k=some ls){o n:Nat}(h:o+n<=k):r.sQ (base+o) n=some ((ls.drop o).take n):=by
 obtain⟨a,b⟩:=lM.1 s;refine lM.2 ⟨by omega,?_⟩;rw[b,List.drop_take,List.take_take,List.drop_drop,Nat.min_eq_left (by omega)]
theorem Jq{G:Nat->Option Rw}{t:Ty}{x:List (den t)}{id base n off m:Nat}{row:Rw}{ls:List AV}(hx:x.length=n)(s:row.sQ base (n*size t)=some ls)(e:rQ (EV G t) x ls)(h:off+m<=n):
 ((x.drop off).take m).length=m/\row.sQ (base+off*size t) (m*size t)=some ((ls.drop (off*size t)).take (m*size t))/\rQ (EV G t) ((x.drop off).take m) ((ls.drop (off*size t)).take (m*size t)):=by
 refine⟨by rw[List.length_take,List.length_drop];omega,vt s ?_,(e.drop (EV.length t) off).take (EV.length t) m⟩;rw[<-Nat.add_mul];exact Nat.mul_le_mul_right _ h
theorem LX{E:En}{N:Nat}{t:Ty}{x:List (den t)}{r sz:Nat}{a:AV}{S:Nat->Option Rw}(hv:V E N (.os r sz) a)(l:LR E.G t x (E.K r) S):
 (kJ a=true/\x=[])∨ ∃ id base row ls,a=.my id base x.length (size t)/\(E.K r).av=a/\sz=size t/\S id=some row/\row.sQ base (x.length*size t)=some ls/\rQ (EV E.G t) x ls:=by
 cases hv with
 |os h1 h2=>
  rcases l.2 with k|⟨id,base,row,ls,k1,k2,k3,k4⟩
  ·exact .inl k
  ·rw[l.1]
   rcases h2 with h2|⟨Eg,Ws,h2⟩
   ·rw[k1]at h2;cases h2.1
   ·rw[k1]at h2;injection h2 with _ _ _ a4;exact .inr ⟨id,base,row,ls,k1,rfl,a4.symm,k2,k3,k4⟩
theorem aiN{E:En}{N:Nat}{t:Ty}{x:List (den t)}{r sz off n:Nat}{a:AV}{S:Nat->Option Rw}(hv:V E N (.ss r sz off n) a)(l:LR E.G t x (E.K r) S):
 (kJ a=true/\n=0/\x=[]/\off=0/\(E.K r).av=a)∨ ∃ id base row ls,a=.my id (base+off*size t) n (size t)/\off+n<=x.length/\(E.K r).av=.my id base x.length (size t)/\sz=size t/\S id=some row/\row.sQ base (x.length*size t)=some ls/\rQ (EV E.G t) x ls:=by
 cases hv with
 |se h1 h2 h3 h4=>
  refine .inl ⟨h2,rfl,?_,h4,rfl⟩;have:=l.1;rw[h3]at this;exact List.eq_nil_of_length_eq_zero this
 |ss h1 h2 h3=>
  rcases l.2 with k|⟨id,base,row,ls,k1,k2,k3,k4⟩
  ·rw[h2]at k;cases k.1
  ·rw[k1]at h2;injection h2 with a1 a2 _ a4;subst a1;subst a2;subst a4;rw[l.1];exact .inr ⟨id,base,row,ls,rfl,h3,k1,rfl,k2,k3,k4⟩
theorem BI{E:En}{t:Ty}{x:List (den t)}{a:AV}{id base:Nat}{row:Rw}{ls:List AV}(ha:a=.my id base x.length (size t))(hg:E.G id=some row)(s:row.sQ base (x.length*size t)=some ls)(e:rQ (EV E.G t) x ls):Sr E.G t (EV E.G t) x a:=
 .inr ⟨ls,e,.inr ⟨id,base,row,ha,hg,s⟩⟩
theorem Wt{E:En}{N:Nat}{t:Ty}{x:List (den t)}{r sz:Nat}{a:AV}(hv:V E N (.os r sz) a)(l:LR E.G t x (E.K r) E.G):Sr E.G t (EV E.G t) x a:=by
 rcases LX hv l with k|⟨id,base,row,ls,k1,_,_,k2,k3,k4⟩
 ·exact .inl k
 ·exact BI k1 k2 k3 k4
theorem Wu{E:En}{N:Nat}{t:Ty}{x:List (den t)}{r sz off n:Nat}{a:AV}(hv:V E N (.ss r sz off n) a)(l:LR E.G t x (E.K r) E.G):Sr E.G t (EV E.G t) ((x.drop off).take n) a:=by
 rcases aiN hv l with⟨k1,k2,k3,_⟩|⟨id,base,row,ls,k1,k2,_,_,k3,k4,k5⟩
 ·subst k3;exact .inl ⟨k1,by simp⟩
 ·obtain⟨a1,a2,a3⟩:=Jq rfl k4 k5 k2 (id:=0);refine BI (id:=id) (base:=base+off*size t) (row:=row) ?_ k3 ?_ a3
  ·rw[a1];exact k1
  ·rw[a1];exact a2
theorem Wv{t:Ty}{f:List Sv->Hq->Option (den t×List Sv×Hq)}(hf:wS t f){E:En}{H H':Hq}{h:Hp}{v:Sv}{a:AV}{x:List (den t)}(S:SR E H h)(hv:V E H.next v a)(e:asL t f v H=some (x,H')):
 ∃ E',Fz E E' H H' h/\Sr E'.G t (EV E'.G t) x a:=by
 have xo: ∀ {r sz off n:Nat} {l:List Sv} {E1:En} {H1:Hq} {id:Nat} {row:Rw},Fz E E1 H H1 h->sz=size t->a=.my id off n sz->E1.G id=some row->Vs E1 H1.next l row.toL->rdX t f n off l H1=some (x,H')-> ∃ E',Fz E E' H H' h/\Sr E'.G t (EV E'.G t) x a:=by
  intro r sz off n l E1 H1 id row F wH ha hg hl e;unfold rdX at e;obtain⟨hb,e⟩:=jI e;have hle:=Nat.le_of_ble_eq_true hb;rw[jH]at hle;rw[qP]at e;obtain⟨E2,c,d,F2,e1,e2,e3⟩:=Ov hf n E1 H1 h _ _ x H' F.S (hl.drop off) e;refine⟨E2,F.trans F2,?_⟩;have hc:=e2.length (EV.length t);have hlen:=hl.length;refine BI (id:=id) (base:=off) (row:=row) (ls:=c) (by rw[e3,ha,wH]) (F2.g _ _ hg) ?_ e2;refine lM.2 ⟨?_,?_⟩
  ·have:=congrArg List.length e1;rw[List.length_drop,List.length_append,hc]at this;rw[<-lI];omega
  ·rw[e1,<-hc,List.take_left]
 cases v with
 |a w=>
  obtain⟨hb,e⟩:=jI e;cases e;cases hv with
  |a _=>exact⟨E,Fz.refl S,.inl ⟨hb,rfl⟩⟩
 |c m ty y=>
  cases ty with
  |cq t'=>
   change (match DF t' t with|some ⟨e⟩=>some (e▸y,H)|none=>none)=some (x,H')at e
   split at e
   ·rename_i p hp
    cases p;cases e;cases hv with
    |c k _=>obtain⟨b,hb,k⟩:=k;cases hb;exact⟨E,Fz.refl S,k⟩
   ·cases e
  | _=>cases e
 |os r s=>
  change (match H.cz.get r with
   |some (.l t' x)=>(match DF t' t with|some ⟨e⟩=>some (e▸x,qa H r (some (.z t' x)))|none=>none)
   |some (.z t' x)=>(match DF t' t with|some ⟨e⟩=>some (e▸x,H)|none=>none)
   | _=>none)=some (x,H')at e
  split at e
  ·rename_i t' y hr
   split at e
   ·rename_i p hp
    cases p;cases e;have F:=CV S hr .l;refine⟨_,F,Wt (F.v hv) ?_⟩;have:=F.S.row r (.z t y) (by rw[mE,if_pos rfl]);exact this.2
   ·cases e
  ·rename_i t' y hr
   split at e
   ·rename_i p hp
    cases p;cases e;exact⟨E,Fz.refl S,Wt hv (S.row _ _ hr).2⟩
   ·cases e
  ·cases e
 |ss r s off n=>
  change (match H.cz.get r with
   |some (.l t' x)=>(match DF t' t with|some ⟨e⟩=>some (((e▸x:List (den t)).drop off).take n,qa H r (some (.z t' x)))|none=>none)
   |some (.z t' x)=>(match DF t' t with|some ⟨e⟩=>some (((e▸x:List (den t)).drop off).take n,H)|none=>none)
   | _=>none)=some (x,H')at e
  split at e
  ·rename_i t' y hr
   split at e
   ·rename_i p hp
    cases p;cases e;have F:=CV S hr .l;refine⟨_,F,Wu (F.v hv) ?_⟩;have:=F.S.row r (.z t y) (by rw[mE,if_pos rfl]);exact this.2
   ·cases e
  ·rename_i t' y hr
   split at e
   ·rename_i p hp
    cases p;cases e;exact⟨E,Fz.refl S,Wu hv (S.row _ _ hr).2⟩
   ·cases e
  ·cases e
 |xo r sz off n=>
  change (bif Nat.beq sz (size t)then(match H.cz.get r with
   |some (.o _ l)=>rdX t f n off l (qa H r (some (.zo l)))
   |some (.zo l)=>rdX t f n off l H
   | _=>none)else none)=some (x,H')at e
  obtain⟨hb,e⟩:=jI e;split at e
  ·rename_i l hr
   have F:=CV S hr .o;have k:=(F.S.row r (.zo l) (by rw[mE,if_pos rfl])).2;obtain⟨id,row,k1,k2,k3⟩:=k;cases hv with
   |xo h1 h2=>
    have H8:(E.K r).av=.ref id 0:=k1;rw[h2]at H8;cases H8;exact xo (r:=r) F (beq_true hb) rfl k2 k3 e
  ·rename_i l hr
   obtain⟨id,row,k1,k2,k3⟩:=(S.row _ _ hr).2;cases hv with
   |xo h1 h2=>
    rw[h2]at k1;cases k1;exact xo (r:=r) (Fz.refl S) (beq_true hb) rfl k2 k3 e
  ·cases e
 | _=>cases e
theorem Am: ∀ (t:Ty),wS t (asT t)
 | .int k=>by
  intro E H h l r cs x H' S hv e;cases l with
  |nil=>cases e
  |cons v l=>
   change (match toN v with|some (k',n)=>(bif qf k k' then some (n,l,H)else none)|none=>none)=some (x,r,H')at e
   split at e
   ·rename_i k' n hn
    obtain⟨hb,e⟩:=jI e;cases e;cases hv with
    |cons a b=>
     have:=oA a hn;rw[l8.1 hb];exact⟨E,[_],_,Fz.refl S,rfl,by rw[this];rfl,b⟩
   ·cases e
 | .bool=>by
  intro E H h l r cs x H' S hv e;cases l with
  |nil=>cases e
  |cons v l=>
   change (match toB v with|some b=>some (b.v,l,H)|none=>none)=some (x,r,H')at e
   split at e
   ·rename_i b hn
    cases e;cases hv with
    |cons a c=>
     have:=oS a hn;exact⟨E,[_],_,Fz.refl S,rfl,by rw[this];rfl,c⟩
   ·cases e
 | .str=>by
  intro E H h l r cs x H' S hv e;cases l with
  |nil=>cases e
  |cons v l=>
   change (match toS v with|some (_,s)=>some (s,l,H)|none=>none)=some (x,r,H')at e
   split at e
   ·rename_i b s hn
    cases e;cases hv with
    |cons a c=>
     have:=xB a hn;exact⟨E,[_],_,Fz.refl S,rfl,by rw[this];rfl,c⟩
   ·cases e
 | .cq t=>by
  intro E H h l r cs x H' S hv e;cases l with
  |nil=>cases e
  |cons v l=>
   change (match asL t (asT t) v H with|some (x,h)=>some (x,l,h)|none=>none)=some (x,r,H')at e
   split at e
   ·rename_i y H1 hy
    cases e;cases hv with
    |cons a c=>
     obtain⟨E',F,k⟩:=Wv (Am t) S a hy;exact⟨E',[_],_,F,rfl,⟨_,rfl,k⟩,F.vs c⟩
   ·cases e
 | .pair a b=>by
  intro E H h l r cs x H' S hv e
  change (match asT a l H with|some (x,r,h)=>(match asT b r h with|some (y,r,h)=>some ((x,y),r,h)|none=>none)|none=>none)=some (x,r,H')at e
  split at e
  ·rename_i y q H1 hy
   split at e
   ·rename_i z q2 H2 hz
    cases e;obtain⟨E1,c1,d1,F1,rfl,v1,w1⟩:=Am a E H h l q cs y H1 S hv hy;obtain⟨E2,c2,d2,F2,rfl,v2,w2⟩:=Am b E1 H1 h q _ d1 z H' F1.S w1 hz;exact⟨E2,c1++c2,d2,F1.trans F2,by simp,⟨c1,c2,rfl,EV.mono F2.g _ _ _ v1,v2⟩,w2⟩
   ·cases e
  ·cases e
theorem Ww{t:Ty}{E:En}{H H':Hq}{h:Hp}{v:Sv}{a:AV}{x:List (den t)}(S:SR E H h)(hv:V E H.next v a)(e:lst t v H=some (x,H')):
 ∃ E',Fz E E' H H' h/\Sr E'.G t (EV E'.G t) x a:=Wv (Am t) S hv e
theorem mU{a:AV}(k:kJ a=true):Ct a=.pR:=by
 cases a with
 |sc v=>have k':z9 (.sc v)=true:=k;unfold Ct;rw[k'];rfl
 |pR=>rfl
 |xr=>rfl
 | _=>cases k
theorem Sy{E:En}{H:Hq}{h:Hp}(S:SR E H h){t:Ty}{x:List (den t)}{a:AV}(k:Sr E.G t (EV E.G t) x a): ∃ cs,kp h (Ct a)=some (x.length,cs)/\rQ (EV E.G t) x cs:=by
 rcases k with⟨k,rfl⟩|⟨ls,k1,k2⟩
 ·refine⟨[],?_,rfl⟩;rw[mU k];rfl
 ·rcases k2 with rfl|⟨id,base,row,rfl,g,s⟩
  ·exact⟨ls,rfl,k1⟩
  ·refine⟨ls,?_,k1⟩;show(match h.cz.get id with|some cs=>(match cs.sQ base (Nat.mul x.length (size t))with|some l=>some (x.length,l)|none=>none)|none=>none)=_;rw[(S.g _ _ g).2.1];have s':row.sQ base (Nat.mul x.length (size t))=some ls:=s;simp only[s']
def asl:AV->Option Nat
 | .my _ _ n _=>some n
 | .vG n _=>some n
 | .pR=>some 0
 | _=>none
theorem Ql{E:En}{H:Hq}{h:Hp}(S:SR E H h){v m:Sv}{a:AV}(hv:V E H.next v a)(e:aky v H=some m): ∃ n:Nat,toN m=some (.i64,(n:Int))/\V E H.next m (.int .i64 n)/\asl (Ct a)=some n/\(kJ a=true->n=0):=by
 have row: ∀ {r sz:Nat} {t:Ty} {x:List (den t)} {S':Nat->Option Rw},V E H.next (.os r sz) a->LR E.G t x (E.K r) S'-> ∃ n:Nat,toN (.c 0 (.int .i64) (Int.ofNat x.length))=some (.i64,(n:Int))/\V E H.next (.c 0 (.int .i64) (Int.ofNat x.length)) (.int .i64 n)/\asl (Ct a)=some n/\(kJ a=true->n=0):=by
  intro r sz t x S' hv l;refine⟨x.length,rfl,m0,?_⟩
  rcases LX hv l with⟨k,rfl⟩|⟨id,base,row,ls,k1,_⟩
  ·rw[mU k];exact⟨rfl,fun _=>rfl⟩
  ·rw[k1];exact⟨rfl,fun k=>by cases k⟩
 cases v with
 |a w=>
  obtain⟨hb,e⟩:=jI e;cases e;cases hv with
  |a _=>exact⟨0,rfl,.i,by rw[mU hb];rfl,fun _=>rfl⟩
 |c q ty x=>
  cases ty with
  |cq t=>
   cases e;refine⟨x.length,rfl,m0,?_⟩;cases hv with
   |c k _=>
    obtain⟨b,hb,k⟩:=k;cases hb
    rcases k with⟨k,hx⟩|⟨ls,k1,k2|⟨_,_,_,k2,_⟩⟩
    ·rw[mU k];subst hx;exact⟨rfl,fun _=>rfl⟩
    ·rw[k2];exact⟨rfl,fun k=>by cases k⟩
    ·rw[k2];exact⟨rfl,fun k=>by cases k⟩
  | _=>cases e
 |os r s=>
  change (match H.cz.get r with|some (.l _ x)=>some (Sv.c 0 (.int .i64) (Int.ofNat x.length))|some (.z _ x)=>some (Sv.c 0 (.int .i64) (Int.ofNat x.length))| _=>none)=some m at e
  split at e
  ·rename_i hr;cases e;exact row hv (S.row _ _ hr).2
  ·rename_i hr;cases e;exact row hv (S.row _ _ hr).2
  ·cases e
 |ss r s off n=>
  cases e;refine⟨n,rfl,m0,?_⟩;cases hv with
  |se h1 h2 h3 h4=>rw[mU h2];exact⟨rfl,fun _=>rfl⟩
  |ss h1 h2 h3=>exact⟨rfl,fun k=>by cases k⟩
 |xo r s off n=>
  cases e;cases hv with
  |xo _ _=>exact⟨n,rfl,.i,rfl,fun k=>by cases k⟩
 | _=>cases e
theorem acH(a:Od):lV (jY a) (fun _ _=>EZ (cY a)):=ke (by
 intro E T t H h v T' H' hT hH e;unfold jY at e;split at e
 ·rename_i w hw
  obtain⟨e1,rfl,rfl⟩:=tW e;obtain⟨c,hc,nd⟩:=vr hT hw;obtain⟨n,h1,h2,h3,_⟩:=Ql hH nd e1;refine⟨rfl,rfl,_,?_,h2⟩;unfold EZ;rw[hc];generalize Ct c=y at h3 ⊢
  cases y<;>first|(cases h3;done)|(cases h3;rfl)
 ·cases e)
end Lf
end Go.Ab
