import Derived.Test.YtcnkojgmochcgaaGreatDoorVrA
import Derived.Test.YtcnkojgmochcgaaGreatDoorVrS
import Derived.Test.YtcnkojgmochcgaaGreatDoorVbQ
noncomputable section
namespace Go.Ab
open Go.Ab.Lf
def EU(lk:FuncId->List AV->Option AV)(c:cY):cY:=fun f args h=>match lk f args with
 |some v=>.ok v h
 |none=>c f args h
theorem De[Io]{P:Program}{lk:FuncId->List AV->Option AV}(ht: ∀ f args v,lk f args=some v->cU P f args v){call:cY}(hc:dR P call):dR P (EU lk call):=by
 intro f args h v h' e
 unfold EU at e
 cases SQ:lk f args with
 |none=>rw[SQ]at e;exact hc f args h v h' e
 |some v1=>
  rw[SQ]at e
  cases e
  obtain⟨k1,k2⟩:=ht f args v SQ
  refine⟨k1,fun g w vs H hv=>?_⟩
  refine(k2 g w vs H.eL H.tb hv).mono ?_
  rintro e w' ⟨x,rfl,K,hx⟩
  obtain⟨g',yx⟩: ∃ g':G,g'=⟨g.m,fun b=>g.eL b∨(w.heap.size<=b/\b<w'.heap.size)⟩:=⟨_,rfl⟩
  have hO: ∀ b,ik g' h b->ik g h b:=by
   rintro b ⟨id,cs,s,e,m⟩
   rw[yx]at m
   exact⟨id,cs,s,e,m⟩
  have M:p6 g w g' w':=⟨fun _ _ e=>by rw[yx];exact e,fun b i=>by rw[yx];exact .inl i,fun b i=>K.oL b (H.eL b i),K.rows⟩
  refine⟨x,g',rfl,⟨K.os,K.tape,K.output,K.size,Nat.le_refl _,M.m,fun b hb _=>K.oL b hb,K.rows,M.eL,fun b i=>?_,fun b o=>.inl (hO b o)⟩,⟨fun id gK=>?_,fun id cs e=>?_,fun id sE b s s' cs cs' e1 e2 m1 m2=>?_,fun b i=>?_,kY.mono M H.tb⟩,?_⟩
  ·rw[yx]at i
   rcases i with i|i
   ·exact .inl i
   ·exact .inr (.inr i.1)
  ·rw[yx];exact H.fresh id gK
  ·obtain⟨b,s,C,el,us,h1,h2,h3,h4,h5⟩:=H.aU id cs e
   have hb:=(Array.getElem?_eq_some_iff.1 h2).1
   refine⟨b,s,C,el,us,M.m _ _ h1,by rw[K.oL b hb];exact h2,?_,bQ.fk M _ _ h4,h5⟩
   rw[yx]
   rintro(i|i)
   ·exact h3 i
   ·omega
  ·rw[yx]at m1 m2
   exact H.inj id sE b s s' cs cs' e1 e2 m1 m2
  ·rw[yx]at i
   rcases i with i|i
   ·exact Nat.lt_of_lt_of_le (H.eL b i) K.size
   ·exact i.2
  ·refine VR.fk (⟨(fun _ _ e=>by cases e),(fun b i=>by rw[yx];exact .inr i),fun _ _=>rfl,fun _=>Nat.le_refl _⟩:p6 _ _ g' w') _ _ hx
end Go.Ab
namespace Go.Ab.Lf
open Go.Ab
def canon:(t:Ty)->den t->List AV
 | .int k,x=>[.int k x]
 | .bool,x=>[.bool x]
 | .str,x=>[.sc (.string x)]
 | .aC t,x=>[.iw (List.length x) (List.foldr (fun y r=>canon t y++r) [] x)]
 | .pair a b,x=>canon a x.1++canon b x.2
theorem sb[Io]{g:G}{w:Go.World}: ∀ (t:Ty) (x:den t) (cs:List AV) (vs:List Value),EV (fun _=>none) t x cs->bQ g w cs vs->bQ g w (canon t x) vs
 | .int _,x,_,vs,e,h=>by have e:_=_:=e;subst e;exact h
 | .bool,x,_,vs,e,h=>by have e:_=_:=e;subst e;exact h
 | .str,x,_,vs,e,h=>by have e:_=_:=e;subst e;exact h
 | .pair a b,x,_,vs,⟨c,d,e,h1,h2⟩,h=>by
  subst e
  obtain⟨us,ts,rfl,k1,k2⟩:=bQ.split h
  exact bQ.append (sb a _ _ _ h1 k1) (sb b _ _ _ h2 k2)
 | .aC t,x,_,vs,⟨a,e,k⟩,h=>by
  subst e
  have els: ∀ (l:List (den t)) (ls:List AV) (vs:List Value),jH (EV (fun _=>none) t) l ls->bQ g w ls vs->bQ g w (List.foldr (fun y r=>canon t y++r) [] l) vs:=by
   intro l
   induction l with
   |nil=>intro ls vs h k;have h:_=_:=h;subst h;exact k
   |cons x l ih=>
    rintro ls vs ⟨c,r,rfl,h1,h2⟩ k
    obtain⟨us,ts,rfl,k1,k2⟩:=bQ.split k
    exact bQ.append (sb t _ _ _ h1 k1) (ih _ _ h2 k2)
  have h':bQ g w [a] vs:=h
  show bQ g w [.iw (List.length x) (List.foldr (fun y r=>canon t y++r) [] x)] vs
  simp only[bQ]at h' ⊢
  obtain⟨v,l,rfl,hv,rfl⟩:=h'
  refine⟨v,_,rfl,?_,rfl⟩
  rcases k with⟨k1,rfl⟩|⟨ls,k1,k2⟩
  ·have e0: ∃ ad c,v=.slice ad 0 c:=by
    cases a with
    |eD=>simp only[VR]at hv;obtain⟨ad,rfl⟩:=hv;exact⟨_,_,rfl⟩
    |mI=>simp only[VR]at hv;obtain⟨ad,rfl⟩:=hv;exact⟨_,_,rfl⟩
    |sc z=>
     obtain rfl:z=.slice none 0 0:=by
      have k:isNil (.sc z)=true:=k1
      unfold isNil at k
      split at k
      ·rename_i n c e
       injection e with e
       subst e
       have k:(Nat.beq n 0&&Nat.beq c 0)=true:=by assumption
       rw[Bool.and_eq_true]at k
       obtain rfl:=Nat.eq_of_beq_eq_true k.1
       obtain rfl:=Nat.eq_of_beq_eq_true k.2
       rfl
      ·cases k
     simp only[VR]at hv
     exact⟨_,_,hv.1⟩
    | _=>cases k1
   obtain⟨ad,c,rfl⟩:=e0
   simp only[VR]
   exact⟨ad,c,rfl,Nat.zero_le _,.inl ⟨rfl,rfl⟩⟩
  ·rcases k2 with k2|⟨_,_,_,_,g,_⟩
   ·subst k2
    simp only[VR]at hv ⊢
    obtain⟨ad,cap,rfl,hc,q⟩:=hv
    refine⟨ad,cap,rfl,hc,?_⟩
    rcases q with⟨q1,q2⟩|⟨b,o,us,q1,q2,q3,q4⟩
    ·left
     obtain rfl:x=[]:=List.eq_nil_of_length_eq_zero q1
     exact⟨rfl,rfl⟩
    ·exact .inr ⟨b,o,us,q1,q2,q3,els x ls us k1 q4⟩
   ·cases g
end Go.Ab.Lf

noncomputable section
namespace Go.Ab.Lf
open Go.Ab
abbrev N0:Nat->Option Rw:=fun _=>none
theorem wv{f:AV->Option AV}: ∀ {l m l' m':List AV},mapA f l=some l'->mapA f m=some m'->mapA f (l++m)=some (l'++m')
 | [],_,_,_,h,k=>by cases h;exact k
 |a::l,m,l',m',h,k=>by
  change (match f a with|some b=>(match mapA f l with|some r=>some (b::r)|none=>none)|none=>none)=some l' at h
  cases h1:f a with
  |none=>rw[h1]at h;cases h
  |some b=>
   cases h2:mapA f l with
   |none=>rw[h1,h2]at h;cases h
   |some r=>
    rw[h1,h2]at h
    cases h
    show(match f a with|some b=>(match mapA f (l++m)with|some r=>some (b::r)|none=>none)|none=>none)=_
    rw[h1,wv h2 k]
    rfl
def dep:Ty->Nat
 | .aC t=>dep t+1
 | .pair a b=>max (dep a) (dep b)
 | _=>0
theorem Gv{a:AV}(h:dH a=true)(n:Nat)(p:Hp):qD (n+1) p a=some a:=by
 cases a with
 |sc v=>rfl
 |eD=>rfl
 |mI=>rfl
 | _=>cases h
theorem zf{G:Nat->Option Rw}{p:Hp}(hG: ∀ id row,G id=some row->p.aU.get id=some row): ∀ (t:Ty) (n:Nat) (x:den t) (cs:List AV),dep t<n->EV G t x cs-> ∃ cs',mapA (qD n p) cs=some cs'/\EV N0 t x cs'
 | .int _,n+1,x,_,_,h=>by have h:_=_:=h;subst h;exact⟨_,rfl,rfl⟩
 | .bool,n+1,x,_,_,h=>by have h:_=_:=h;subst h;exact⟨_,rfl,rfl⟩
 | .str,n+1,x,_,_,h=>by have h:_=_:=h;subst h;exact⟨_,rfl,rfl⟩
 | .pair a b,n,x,_,hn,⟨c,d,e,h1,h2⟩=>by
  have hn:max (dep a) (dep b)<n:=hn
  obtain⟨c',e1,k1⟩:=zf hG a n _ _ (by omega) h1
  obtain⟨d',e2,k2⟩:=zf hG b n _ _ (by omega) h2
  subst e
  exact⟨_,wv e1 e2,_,_,rfl,k1,k2⟩
 | .aC t,n+1,x,_,hn,⟨a,e,k⟩=>by
  have hn:dep t+1<n+1:=hn
  have els: ∀ (l:List (den t)) (ls:List AV),jH (EV G t) l ls-> ∃ VK,mapA (qD n p) ls=some VK/\jH (EV N0 t) l VK:=by
   intro l
   induction l with
   |nil=>intro ls h;have h:_=_:=h;subst h;exact⟨_,rfl,rfl⟩
   |cons x l ih=>
    rintro ls ⟨c,r,rfl,h1,h2⟩
    obtain⟨c',e1,k1⟩:=zf hG t n _ _ (by omega) h1
    obtain⟨r',e2,k2⟩:=ih _ h2
    exact⟨_,wv e1 e2,_,_,rfl,k1,k2⟩
  have one: ∀ a',qD (n+1) p a=some a'->DT N0 t (EV N0 t) x a'-> ∃ cs',mapA (qD (n+1) p) [a]=some cs'/\EV N0 (.aC t) x cs':=by
   intro a' h1 h2
   refine⟨[a'],?_,a',rfl,h2⟩
   show(match qD (n+1) p a with|some b=>some [b]|none=>none)=_
   rw[h1]
  subst e
  rcases k with⟨k1,k2⟩|⟨ls,k1,k2⟩
  ·exact one a (Gv k1 n p) (.inl ⟨k1,k2⟩)
  ·obtain⟨VK,e1,q1⟩:=els x ls k1
   rcases k2 with k2|⟨id,base,row,k2,g,sg⟩
   ·refine one (.iw x.length VK) ?_ (.inr ⟨VK,q1,.inl rfl⟩)
    subst k2
    show(match mapA (qD n p) ls with|some l=>some (AV.iw x.length l)|none=>none)=_
    rw[e1]
   ·refine one (.iw x.length VK) ?_ (.inr ⟨VK,q1,.inl rfl⟩)
    subst k2
    show(match p.aU.get id with|some cs=>(match cs.jd base (Nat.mul x.length (size t))with|some l=>(match mapA (qD n p) l with|some l=>some (AV.iw x.length l)|none=>none)|none=>none)|none=>none)=_
    rw[hG _ _ g]
    have sg:row.jd base (Nat.mul x.length (size t))=some ls:=sg
    dsimp only
    rw[sg]
    dsimp only
    rw[e1]
end Go.Ab.Lf
