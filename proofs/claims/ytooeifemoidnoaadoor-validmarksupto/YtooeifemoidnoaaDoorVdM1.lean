import Derived.Test.YtooeifemoidnoaaDoorVdMd
import Derived.Test.YtooeifemoidnoaaDoorLfG
import Derived.Test.YtooeifemoidnoaaDoorAb27
noncomputable section
namespace Go.Ab.Lf
open Go.Ab
abbrev N0:Nat->Option Rw:=fun _=>none
theorem Els.inj{α:Type}{E:α->List AV->Prop}{s:Nat}(hl: ∀ x c,E x c->c.length=s)(hi: ∀ x y c,E x c->E y c->x=y): ∀ {l m:List α} {cs:List AV},l.length=m.length->Els E l cs->Els E m cs->l=m
 | [],[],_,_,_,_=>rfl
 | [],_::_,_,h,_,_=>by cases h
 | _::_,[],_,h,_,_=>by cases h
 |x::l,y::m,_,h,⟨c,r,e,a,b⟩,⟨c',r',e',a',b'⟩=>by
  subst e
  obtain⟨rfl,rfl⟩:=List.append_inj e' ((hl _ _ a).trans (hl _ _ a').symm)
  rw[hi _ _ _ a a',Els.inj hl hi (by simpa using h) b b']
theorem emptyV_isl{n:Nat}{l:List AV}(h:emptyV (.isl n l)=true):False:=by cases h
theorem EV.inj: ∀ (t:Ty) (x y:den t) (cs:List AV),EV N0 t x cs->EV N0 t y cs->x=y
 | .int _,x,y,_,h,h'=>by
  have h:_=_:=h
  have h':_=_:=h'
  rw[h]at h'
  injection h' with h'
  injection h'
 | .bool,x,y,_,h,h'=>by
  have h:_=_:=h
  have h':_=_:=h'
  rw[h]at h'
  injection h' with h'
  injection h'
 | .str,x,y,_,h,h'=>by
  have h:_=_:=h
  have h':_=_:=h'
  rw[h]at h'
  injection h' with h'
  injection h' with h'
  injection h'
 | .sli t,x,y,_,⟨a,e,k⟩,⟨a',e',k'⟩=>by
  rw[e]at e'
  injection e' with e'
  subst e'
  rcases k with⟨k1,k2⟩|⟨ls,k1,k2⟩
  ·rcases k' with⟨_,k4⟩|⟨_,_,k4⟩
   ·rw[k2,k4]
   ·rcases k4 with k4|⟨_,_,_,_,g,_⟩
    ·subst k4;exact(emptyV_isl k1).elim
    ·cases g
  ·rcases k2 with k2|⟨_,_,_,_,g,_⟩
   ·rcases k' with⟨k3,_⟩|⟨ls',k3,k4⟩
    ·subst k2;exact(emptyV_isl k3).elim
    ·rcases k4 with k4|⟨_,_,_,_,g,_⟩
     ·rw[k2]at k4
      injection k4 with n1 n2
      subst n2
      exact Els.inj (EV.length t) (EV.inj t) n1 k1 k3
     ·cases g
   ·cases g
 | .pair a b,x,y,_,⟨c,d,e,h1,h2⟩,⟨c',d',e',h1',h2'⟩=>by
  rw[e]at e'
  obtain⟨rfl,rfl⟩:=List.append_inj e' ((EV.length a _ _ h1).trans (EV.length a _ _ h1').symm)
  exact Prod.ext (EV.inj a _ _ _ h1 h1') (EV.inj b _ _ _ h2 h2')
theorem mapA_app{f:AV->Option AV}: ∀ {l m l' m':List AV},mapA f l=some l'->mapA f m=some m'->mapA f (l++m)=some (l'++m')
 | [],_,_,_,h,k=>by cases h;exact k
 |a::l,m,l',m',h,k=>by
  change (match f a with|some b=>(match mapA f l with|some r=>some (b::r)|none=>none)|none=>none)=some l' at h
  cases h1:f a with
  |none=>rw[h1]at h;cases h
  |some b=>
   cases h2:mapA f l with
   |none=>rw[h1,h2]at h;cases h
   |some r=>
    rw[h1,h2]at h
    cases h
    show(match f a with|some b=>(match mapA f (l++m)with|some r=>some (b::r)|none=>none)|none=>none)=_
    rw[h1,mapA_app h2 k]
    rfl
def dep:Ty->Nat
 | .sli t=>dep t+1
 | .pair a b=>max (dep a) (dep b)
 | _=>0
theorem frz_empty{a:AV}(h:emptyV a=true)(n:Nat)(p:Hp):frz (n+1) p a=some a:=by
 cases a with
 |sc v=>rfl
 |esl=>rfl
 |nel=>rfl
 | _=>cases h
theorem frz_ev{G:Nat->Option Rw}{p:Hp}(hG: ∀ id row,G id=some row->p.objs.get id=some row): ∀ (t:Ty) (n:Nat) (x:den t) (cs:List AV),dep t<n->EV G t x cs-> ∃ cs',mapA (frz n p) cs=some cs'/\EV N0 t x cs'
 | .int _,n+1,x,_,_,h=>by have h:_=_:=h;subst h;exact⟨_,rfl,rfl⟩
 | .bool,n+1,x,_,_,h=>by have h:_=_:=h;subst h;exact⟨_,rfl,rfl⟩
 | .str,n+1,x,_,_,h=>by have h:_=_:=h;subst h;exact⟨_,rfl,rfl⟩
 | .pair a b,n,x,_,hn,⟨c,d,e,h1,h2⟩=>by
  have hn:max (dep a) (dep b)<n:=hn
  obtain⟨c',e1,k1⟩:=frz_ev hG a n _ _ (by omega) h1
  obtain⟨d',e2,k2⟩:=frz_ev hG b n _ _ (by omega) h2
  subst e
  exact⟨_,mapA_app e1 e2,_,_,rfl,k1,k2⟩
 | .sli t,n+1,x,_,hn,⟨a,e,k⟩=>by
  have hn:dep t+1<n+1:=hn
  have els: ∀ (l:List (den t)) (ls:List AV),Els (EV G t) l ls-> ∃ ls',mapA (frz n p) ls=some ls'/\Els (EV N0 t) l ls':=by
   intro l
   induction l with
   |nil=>intro ls h;have h:_=_:=h;subst h;exact⟨_,rfl,rfl⟩
   |cons x l ih=>
    rintro ls ⟨c,r,rfl,h1,h2⟩
    obtain⟨c',e1,k1⟩:=frz_ev hG t n _ _ (by omega) h1
    obtain⟨r',e2,k2⟩:=ih _ h2
    exact⟨_,mapA_app e1 e2,_,_,rfl,k1,k2⟩
  have one: ∀ a',frz (n+1) p a=some a'->CVs N0 t (EV N0 t) x a'-> ∃ cs',mapA (frz (n+1) p) [a]=some cs'/\EV N0 (.sli t) x cs':=by
   intro a' h1 h2
   refine⟨[a'],?_,a',rfl,h2⟩
   show(match frz (n+1) p a with|some b=>some [b]|none=>none)=_
   rw[h1]
  subst e
  rcases k with⟨k1,k2⟩|⟨ls,k1,k2⟩
  ·exact one a (frz_empty k1 n p) (.inl ⟨k1,k2⟩)
  ·obtain⟨ls',e1,q1⟩:=els x ls k1
   rcases k2 with k2|⟨id,base,row,k2,g,sg⟩
   ·refine one (.isl x.length ls') ?_ (.inr ⟨ls',q1,.inl rfl⟩)
    subst k2
    show(match mapA (frz n p) ls with|some l=>some (AV.isl x.length l)|none=>none)=_
    rw[e1]
   ·refine one (.isl x.length ls') ?_ (.inr ⟨ls',q1,.inl rfl⟩)
    subst k2
    show(match p.objs.get id with|some cs=>(match cs.seg base (Nat.mul x.length (size t))with|some l=>(match mapA (frz n p) l with|some l=>some (AV.isl x.length l)|none=>none)|none=>none)|none=>none)=_
    rw[hG _ _ g]
    have sg:row.seg base (Nat.mul x.length (size t))=some ls:=sg
    dsimp only
    rw[sg]
    dsimp only
    rw[e1]
end Go.Ab.Lf
