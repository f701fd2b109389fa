import Derived.Test.YtcnkojgmochcgaaGreatDoorVqJ
noncomputable section
namespace Go.Proofs.Sw
abbrev Up:Nat:=18446744073709551615
def Uq(w T R x y:Nat):List Sc:=if w=64 then [.g x,.g y,.o 124]else [.g x,.k R,.o 131,.g y,.k R,.o 131,.o 124,.g x,.g y,.o 133,.k T,.o 131,.o 133]
def guC(T R x y:Nat):List Sc:=[.g x,.k T,.o 132,.g y,.k R,.o 131,.o 125]
def Ur(w T R x y:Nat):List Sc:=if w=64 then [.g x,.g y,.o 125]else guC T R x y++[.g x,.g y,.o 133,.k T,.o 131,.k T,.o 133,.o 133]
def ae9(T R x y:Nat):List Sc:=[.g y,.g x,.k Up,.o 133,.o 131]++(guC T R x y++[.g x,.g y,.o 133,.o 132,.k Up,.o 133,.o 132,.k T,.o 131])
def wY(w:Nat):List Sc:=[.k (w - 1),.o 136,.k (2 ^ w - 1),.o 126]
def wZ(w T R u x y:Nat)(sd:Bool):List Sc:=if sd then [.g x,.k T,.o 133,.g y,.k T,.o 133,.s (u+1),.s u]++(ae9 T R u (u+1)++wY w)else ae9 T R x y++wY w
def PE(T R x:Nat):List Sc:=[.g x,.k R,.o 131,.k R,.o 124,.g x,.o 132,.k T,.o 131]
def yF:List Sc:=[.k Up,.o 133]
def PF(w T R u k x y:Nat):List Sc:=match k with
 |0=>[.g x,.g y,.o 133,.s u]++(PE T R u++(wY w++yF))
 |1=>[.g x,.g y,.o 133,.s u]++(PE T R u++wY w)
 |2=>wZ w T R u x y true
 |3=>wZ w T R u x y false
 |4=>wZ w T R u y x true
 |5=>wZ w T R u y x false
 |6=>wZ w T R u y x true++yF
 |7=>wZ w T R u y x false++yF
 |8=>wZ w T R u x y true++yF
 | _=>wZ w T R u x y false++yF
variable {p n:Nat}
def sw(p a:Nat):Int:=if a<2 ^ p then(a:Int)else(a:Int) - (2 ^ (p+1):Nat)
def Ev(c:List Sc)(lo:Nat->Nat)(m:Nat)(P:Nat->Prop):Prop:= ∀ st,∃ z nr,run c st lo=some (z::st,nr)/\P z/\ ∀ j,j<m->nr j=lo j
theorem nQ(lo:Nat->Nat)(a v:Nat):qK lo a v a=v:=if_pos rfl
theorem nS(lo:Nat->Nat){a j:Nat}(v:Nat)(h:j≠a):qK lo a v j=lo j:=if_neg h
theorem Ev.imp{c:List Sc}{lo:Nat->Nat}{m:Nat}{P Q:Nat->Prop}(h:Ev c lo m P)(k: ∀ z,P z->Q z):Ev c lo m Q:=fun st=>by
 obtain⟨z,nr,h1,h2,h3⟩:=h st
 exact⟨z,nr,h1,k z h2,h3⟩
theorem Ev.then{c d:List Sc}{lo:Nat->Nat}{m:Nat}{P Q:Nat->Prop}(h:Ev c lo m P)(k: ∀ z nr st,P z->(∀ j,j<m->nr j=lo j)-> ∃ z' sx,run d (z::st) nr=some (z'::st,sx)/\Q z'/\ ∀ j,j<m->sx j=lo j):Ev (c++d) lo m Q:=fun st=>by
 obtain⟨z,nr,h1,h2,h3⟩:=h st
 obtain⟨z',sx,k1,k2,k3⟩:=k z nr st h2 h3
 exact⟨z',sx,(cU c d st lo h1).trans k1,k2,k3⟩
section
variable (W:Wd (p+1) p n)
include W
theorem Wd.n1(h:p+1=64):n=1:=by
 have:=W.w2
 rw[h]at this
 omega
theorem JH{x:Nat}{a:Nat->Nat}(h:p+1=64)(hx:oh (p+1) n x a):x=a 0:=by
 have h1:=W.n1 h
 subst h1
 rw[hx.e]
 show a 0+2 ^ (p+1)*0=a 0
 omega
theorem LO{x:Nat}{a:Nat->Nat}(h:p+1=64)(e:x=a 0)(hl:a 0<cN):oh (p+1) n x a:=by
 have h1:=W.n1 h
 subst h1
 refine⟨?_,fun i hi=>?_⟩
 ·rw[e]
  show a 0=a 0+2 ^ (p+1)*0
  omega
 ·have:i=0:=by omega
  subst this
  rw[h];exact hl
section
variable {lo:Nat->Nat}{x y:Nat}{a b:Nat->Nat}(hx:oh (p+1) n (lo x) a)(hy:oh (p+1) n (lo y) b)(m:Nat)
include hx hy
theorem Us:Ev (Uq (p+1) (oE p n) (rest p n) x y) lo m fun z=>oh (p+1) n z fun i=>(a i+b i) % 2 ^ (p+1):=fun st=>by
 unfold Uq
 by_cases h:p+1=64
 ·rw[if_pos h]
  refine⟨(lo x+lo y) % cN,lo,rfl,?_,fun _ _=>rfl⟩
  refine LO W h ?_ (by rw[h];exact Nat.mod_lt _ (by decide))
  rw[JH W h hx,JH W h hy,h]
 ·rw[if_neg h]
  exact⟨_,lo,rfl,ajO W hx hy,fun _ _=>rfl⟩
theorem Ut:Ev (Ur (p+1) (oE p n) (rest p n) x y) lo m fun z=>oh (p+1) n z fun i=>(a i+2 ^ (p+1) - b i) % 2 ^ (p+1):=fun st=>by
 unfold Ur
 by_cases h:p+1=64
 ·rw[if_pos h]
  refine⟨(lo x+cN - lo y) % cN,lo,rfl,?_,fun _ _=>rfl⟩
  refine LO W h ?_ (by rw[h];exact Nat.mod_lt _ (by decide))
  rw[JH W h hx,JH W h hy,h]
 ·rw[if_neg h]
  exact⟨_,lo,rfl,abW W hx hy,fun _ _=>rfl⟩
theorem abX:Ev (ae9 (oE p n) (rest p n) x y) lo m fun z=>oh (p+1) n z fun i=>if decide (a i<b i)then 2 ^ p else 0:=fun st=>
 ⟨_,lo,rfl,(Zu W hx hy).congr fun i _=>by simp,fun _ _=>rfl⟩
omit hx hy
theorem JI{z:Nat}{c:Nat->Bool}(hz:oh (p+1) n z (fun i=>if c i then 2 ^ p else 0))(st:List Nat)(lo:Nat->Nat): ∃ z',run (wY (p+1)) (z::st) lo=some (z'::st,lo)/\oh (p+1) n z' (fun i=>if c i then 2 ^ (p+1) - 1 else 0):=
 ⟨_,rfl,Uo W hz⟩
theorem Ev.spr{l:List Sc}{lo:Nat->Nat}{m:Nat}{c:Nat->Bool}(h:Ev l lo m fun z=>oh (p+1) n z fun i=>if c i then 2 ^ p else 0):Ev (l++wY (p+1)) lo m fun z=>oh (p+1) n z fun i=>if c i then 2 ^ (p+1) - 1 else 0:=
 h.then fun z nr st hz hl=>by
  obtain⟨z',h1,h2⟩:=JI W hz st nr
  exact⟨z',nr,h1,h2,hl⟩
omit W in
theorem swx{a b:Nat}(ha:a<2 ^ (p+1))(hb:b<2 ^ (p+1)):decide (a ^^^ 2 ^ p<b ^^^ 2 ^ p)=decide (sw p a<sw p b):=by
 rw[PC ha,PC hb]
 unfold sw
 rw[p2]at*
 by_cases h1:2 ^ p<=a<;>by_cases h2:2 ^ p<=b
 ·rw[if_pos h1,if_pos h2,if_neg (by omega),if_neg (by omega)]
  exact decide_eq_decide.2 (by omega)
 ·rw[if_pos h1,if_neg h2,if_neg (by omega),if_pos (by omega)]
  exact decide_eq_decide.2 (by omega)
 ·rw[if_neg h1,if_pos h2,if_pos (by omega),if_neg (by omega)]
  exact decide_eq_decide.2 (by omega)
 ·rw[if_neg h1,if_neg h2,if_pos (by omega),if_pos (by omega)]
  exact decide_eq_decide.2 (by omega)
include hx hy
theorem w6{u:Nat}(hm:m<=u)(sd:Bool):Ev (wZ (p+1) (oE p n) (rest p n) u x y sd) lo m fun z=>oh (p+1) n z fun i=>if(if sd then decide (sw p (a i)<sw p (b i))else decide (a i<b i))then 2 ^ (p+1) - 1 else 0:=by
 unfold wZ
 cases sd with
 |false=>exact(abX W hx hy m).spr W
 |true=>
  intro st
  have hx':=hx.xor W (Tl p n)
  have hy':=hy.xor W (Tl p n)
  obtain⟨lo1,e1⟩: ∃ lo1,lo1=qK (qK lo (u+1) (lo y ^^^ oE p n)) u (lo x ^^^ oE p n):=⟨_,rfl⟩
  have g1:lo1 u=lo x ^^^ oE p n:=by rw[e1];exact nQ _ _ _
  have g2:lo1 (u+1)=lo y ^^^ oE p n:=by rw[e1,nS _ _ (by omega)];exact nQ _ _ _
  obtain⟨z,sx,r1,r2,r3⟩:=((abX W (lo:=lo1) (x:=u) (y:=u+1) (by rw[g1];exact hx') (by rw[g2];exact hy') m).spr W) st
  refine⟨z,sx,?_,r2.congr fun i hi=>?_,fun j hj=>?_⟩
  ·refine(cU [.g x,.k (oE p n),.o 133,.g y,.k (oE p n),.o 133,.s (u+1),.s u] _ st lo (st1:=st) (lo1:=lo1) (by rw[e1];rfl)).trans r1
  ·have:=swx (hx.l i hi) (hy.l i hi)
   rw[this]
   rfl
  ·rw[r3 j hj,e1,nS _ _ (by omega),nS _ _ (by omega)]
omit hx hy
theorem Ev.not{l:List Sc}{lo:Nat->Nat}{m:Nat}{c:Nat->Bool}(h:Ev l lo m fun z=>oh (p+1) n z fun i=>if c i then 2 ^ (p+1) - 1 else 0):Ev (l++yF) lo m fun z=>oh (p+1) n z fun i=>if !c i then 2 ^ (p+1) - 1 else 0:=
 h.then fun z nr st hz hl=>⟨_,nr,rfl,(hz.not W).congr fun i _=>by cases c i<;>simp,hl⟩
omit W in
theorem ase{a b:Nat}:(a ^^^ b=0)=(a=b):=by
 apply propext
 constructor
 ·intro h
  have:=congrArg (· ^^^ b) h
  simp only[Nat.xor_assoc,Nat.xor_self,Nat.xor_zero,Nat.zero_xor]at this
  exact this
 ·rintro rfl;exact Nat.xor_self _
include hx hy
theorem ajP{u:Nat}(hm:m<=u):Ev ([.g x,.g y,.o 133,.s u]++(PE (oE p n) (rest p n) u++wY (p+1))) lo m fun z=>oh (p+1) n z fun i=>if !decide (a i=b i)then 2 ^ (p+1) - 1 else 0:=fun st=>by
 obtain⟨lo1,e1⟩: ∃ lo1,lo1=qK lo u (lo x ^^^ lo y):=⟨_,rfl⟩
 have g1:lo1 u=lo x ^^^ lo y:=by rw[e1];exact nQ _ _ _
 have hz:=hx.xor W hy
 have hf:Ev (PE (oE p n) (rest p n) u) lo1 m fun z=>oh (p+1) n z fun i=>if !decide (a i=b i)then 2 ^ p else 0:=fun st=>
  ⟨_,lo1,rfl,by
   rw[g1]
   refine(DG W hz).congr fun i _=>?_
   simp only[ase]
   by_cases h:a i=b i<;>simp[h],fun _ _=>rfl⟩
 obtain⟨z,sx,r1,r2,r3⟩:=(hf.spr W) st
 exact⟨z,sx,(cU [.g x,.g y,.o 133,.s u] _ st lo (st1:=st) (lo1:=lo1) (by rw[e1];rfl)).trans r1,r2,fun j hj=>by rw[r3 j hj,e1,nS _ _ (by omega)]⟩
end
def cmpL(p k a b:Nat):Bool:=match k with
 |0=>decide (a=b)
 |1=> !decide (a=b)
 |2=>decide (sw p a<sw p b)
 |3=>decide (a<b)
 |4=>decide (sw p b<sw p a)
 |5=>decide (b<a)
 |6=> !decide (sw p b<sw p a)
 |7=> !decide (b<a)
 |8=> !decide (sw p a<sw p b)
 | _=> !decide (a<b)
section
variable {lo:Nat->Nat}{x y:Nat}{a b:Nat->Nat}(hx:oh (p+1) n (lo x) a)(hy:oh (p+1) n (lo y) b){m u:Nat}(hm:m<=u)
include hx hy hm
theorem abY(k:Nat):Ev (PF (p+1) (oE p n) (rest p n) u k x y) lo m fun z=>oh (p+1) n z fun i=>if cmpL p k (a i) (b i)then 2 ^ (p+1) - 1 else 0:=by
 unfold PF cmpL
 split
 ·have:=((ajP W hx hy m hm).not W).imp fun z hz=>hz.congr (b:=fun i=>if decide (a i=b i)then 2 ^ (p+1) - 1 else 0) fun i _=>by cases decide (a i=b i)<;>rfl
  rwa [List.append_assoc,List.append_assoc]at this
 ·exact ajP W hx hy m hm
 ·exact w6 W hx hy m hm true
 ·exact w6 W hx hy m hm false
 ·exact w6 W hy hx m hm true
 ·exact w6 W hy hx m hm false
 ·exact(w6 W hy hx m hm true).not W
 ·exact(w6 W hy hx m hm false).not W
 ·exact(w6 W hx hy m hm true).not W
 ·exact(w6 W hx hy m hm false).not W
end
end
end Go.Proofs.Sw

noncomputable section
namespace Go.Proofs.Sw
variable {p n:Nat}
abbrev rS(p n:Nat):Nat:=pk (p+1) n fun _=>1
theorem O1(p n:Nat):oh (p+1) n (rS p n) (fun _=>1):=.Ka n (by rw[p2];have:=Nat.two_pow_pos p;omega)
def JJ(w T R O u k x y:Nat):List Sc:=match k with
 |14=>Uq w T R x y
 |17=>Ur w T R x y
 |15=>Uq w T R x y++([.s u,.g x,.g y,.o 133]++(yF++([.g x,.g u,.o 133,.o 131,.k T,.o 131]++(wY w++[.s (u+1),.g u,.g x,.k (w - 1),.o 136,.k O,.o 131,.k R,.o 124,.g u,.o 133,.g (u+1),.o 131,.o 133]))))
 |18=>Ur w T R x y++([.s u,.g x,.g y,.o 133]++([.g x,.g u,.o 133,.o 131,.k T,.o 131]++(wY w++[.s (u+1),.g u,.g x,.k (w - 1),.o 136,.k O,.o 131,.k R,.o 124,.g u,.o 133,.g (u+1),.o 131,.o 133])))
 |16=>Uq w T R x y++([.s u,.g u,.g x,.g y,.o 131,.g x,.g y,.o 132,.g u]++(yF++([.o 131,.o 132,.k T,.o 131]++(wY w++[.o 132]))))
 |19=>Ur w T R x y++(wZ w T R u x y false++(yF++[.o 131]))
 |22=>[.g y,.g y,.g x,.o 133]++(wZ w T R u x y true++[.o 131,.o 133])
 |23=>[.g y,.g y,.g x,.o 133]++(wZ w T R u x y false++[.o 131,.o 133])
 |24=>[.g x,.g x,.g y,.o 133]++(wZ w T R u x y true++[.o 131,.o 133])
 |25=>[.g x,.g x,.g y,.o 133]++(wZ w T R u x y false++[.o 131,.o 133])
 | _=>[.g x,.g y,.o 132,.g x,.g y,.o 133,.k 1,.o 136,.k R,.o 131,.o 125]
def sy(p k a b:Nat):Nat:=match k with
 |14=>(a+b) % 2 ^ (p+1)
 |17=>(a+2 ^ (p+1) - b) % 2 ^ (p+1)
 |15=>(min (max (sw p a+sw p b) (-(2 ^ p:Nat))) ((2 ^ p:Nat) - 1) % ((2 ^ (p+1):Nat):Int)).toNat
 |18=>(min (max (sw p a - sw p b) (-(2 ^ p:Nat))) ((2 ^ p:Nat) - 1) % ((2 ^ (p+1):Nat):Int)).toNat
 |16=>min (a+b) (2 ^ (p+1) - 1)
 |19=>a - b
 |22=>if sw p a<sw p b then a else b
 |23=>if a<b then a else b
 |24=>if sw p a<sw p b then b else a
 |25=>if a<b then b else a
 | _=>(a+b+1) / 2
theorem allM{k x:Nat}(h:x<2 ^ k):x &&& (2 ^ k - 1)=x:=by rw[Nat.and_two_pow_sub_one_eq_mod];exact Nat.mod_eq_of_lt h
theorem ajQ{k s e:Nat}(hs:s<2 ^ k)(he:e<2 ^ k)(c:Bool):s ^^^ ((e ^^^ s) &&& if c then 2 ^ k - 1 else 0)=if c then e else s:=by
 cases c with
 |false=>simp
 |true=>
  simp only[if_true]
  rw[allM (Nat.xor_lt_two_pow he hs),Nat.xor_comm e s,<-Nat.xor_assoc,Nat.xor_self,Nat.zero_xor]
theorem abZ{k s e:Nat}(hs:s<2 ^ k)(he:e<2 ^ k)(c:Bool):s ^^^ ((s ^^^ e) &&& if c then 2 ^ k - 1 else 0)=if c then e else s:=by rw[Nat.xor_comm s e];exact ajQ hs he c
theorem oh.shm(W:Wd (p+1) p n){x:Nat}{a:Nat->Nat}(hx:oh (p+1) n x a){k m:Nat}(hk:k<=p+1)(hm:m<2 ^ (p+1 - k)):oh (p+1) n (x / 2 ^ k &&& pk (p+1) n fun _=>m) (fun i=>a i / 2 ^ k &&& m):=by
 have hle:2 ^ (p+1 - k)<=2 ^ (p+1):=Nat.pow_le_pow_right (by decide) (Nat.sub_le _ _)
 have e:=LM (w:=p+1) (n:=n) (f:=a) W.pos hk hx.l
 have hM:2 ^ (p+1 - k) - 1<2 ^ (p+1):=by have:=Nat.two_pow_pos (p+1 - k);omega
 have k1:oh (p+1) n (x / 2 ^ k &&& pk (p+1) n fun _=>2 ^ (p+1 - k) - 1) (fun i=>a i / 2 ^ k):=⟨by rw[hx.e];exact e,fun i hi=>Nat.lt_of_le_of_lt (Nat.div_le_self _ _) (hx.l i hi)⟩
 have k2:=k1.and W (.Ka n (c:=m) (by omega))
 rw[Nat.and_assoc,DE W.pos (fun _ _=>hM) (fun _ _=>by omega)]at k2
 have e2:(pk (p+1) n fun _=>(2 ^ (p+1 - k) - 1) &&& m)=pk (p+1) n fun _=>m:=cB fun _ _=>by rw[Nat.and_comm];exact allM hm
 rwa [e2]at k2
theorem Zv{a:Nat}(h:a<2 ^ (p+1)):a / 2 ^ p=if 2 ^ p<=a then 1 else 0:=by
 rw[p2]at h
 by_cases q:2 ^ p<=a
 ·rw[if_pos q,Nat.div_eq_sub_div (Nat.two_pow_pos p) q,Nat.div_eq_of_lt (by omega)]
 ·rw[if_neg q,Nat.div_eq_of_lt (by omega)]
theorem FB(x:Int)(m:Nat)(r:Int)(h1:0<=r)(h2:r<m)(k:Int)(e:x=r+m*k):(x % (m:Int)).toNat=r.toNat:=by
 rw[e,Int.add_mul_emod_self_left,Int.emod_eq_of_lt h1 h2]
theorem ajR{s:Int}{T:Nat}(h1: -2*(T:Int)<=s)(h2:s<2*(T:Int))(hT:0<T):(min (max s (-(T:Int))) ((T:Int) - 1) % ((2*T:Nat):Int)).toNat=if s< -(T:Int)then T else if s<0 then(s+2*T).toNat else if s<T then s.toNat else T - 1:=by
 by_cases c1:s< -(T:Int)
 ·rw[if_pos c1,show max s (-(T:Int))= -(T:Int) by omega,show min (-(T:Int)) ((T:Int) - 1)= -(T:Int) by omega,FB _ (2*T) (T:Int) (by omega) (by omega) (-1) (by omega)]
  exact Int.toNat_natCast T
 ·rw[if_neg c1,show max s (-(T:Int))=s by omega]
  by_cases c2:s<0
  ·rw[if_pos c2,show min s ((T:Int) - 1)=s by omega,FB _ (2*T) (s+2*T) (by omega) (by omega) (-1) (by omega)]
  ·rw[if_neg c2]
   by_cases c3:s<T
   ·rw[if_pos c3,show min s ((T:Int) - 1)=s by omega,FB _ (2*T) s (by omega) (by omega) 0 (by omega)]
   ·rw[if_neg c3,show min s ((T:Int) - 1)=(T:Int) - 1 by omega,FB _ (2*T) ((T:Int) - 1) (by omega) (by omega) 0 (by omega)]
    omega
theorem Ul{x:Nat}(T:Nat)(h:x<4*T):x % (2*T)=if 2*T<=x then x - 2*T else x:=by
 by_cases q:2*T<=x
 ·rw[if_pos q,Nat.mod_eq_sub_mod q,Nat.mod_eq_of_lt (by omega)]
 ·rw[if_neg q,Nat.mod_eq_of_lt (by omega)]
section
variable {a b:Nat}(ha:a<2 ^ (p+1))(hb:b<2 ^ (p+1))
include ha hb
theorem ae':(if(!xor (decide (2 ^ p<=a)) (decide (2 ^ p<=b))&&xor (decide (2 ^ p<=a)) (decide (2 ^ p<=(a+b) % 2 ^ (p+1))))then a / 2 ^ p+(2 ^ p - 1)else(a+b) % 2 ^ (p+1))=sy p 15 a b:=by
 have hp:=Nat.two_pow_pos p
 rw[Zv ha]
 show _=(min (max (sw p a+sw p b) (-((2 ^ p:Nat):Int))) (((2 ^ p:Nat):Int) - 1) % ((2 ^ (p+1):Nat):Int)).toNat
 unfold sw
 rw[p2]at*
 generalize 2 ^ p=T at*
 rw[ajR (by split<;>split<;>omega) (by split<;>split<;>omega) hp]
 have hS:=Ul (x:=(a+b)) T (by omega)
 generalize (a+b) % (2*T)=S at*
 have hS:((a+b)<2*T/\S=(a+b))∨(2*T<=(a+b)/\S+2*T=(a+b)):=by split at hS<;>omega
 by_cases h1:T<=a<;>by_cases h2:T<=b<;>by_cases h4:T<=S
 all_goals simp only[h1,h2,h4,decide_true,decide_false,if_true,if_false,Bool.xor_self,Bool.not_false,Bool.true_and,Bool.xor_false,Bool.xor_true,Bool.not_true,Bool.false_and,Bool.false_eq_true,Bool.false_xor,Bool.true_xor]
 all_goals (repeat' split)
 all_goals omega
theorem afa:(if(xor (decide (2 ^ p<=a)) (decide (2 ^ p<=b))&&xor (decide (2 ^ p<=a)) (decide (2 ^ p<=(a+2 ^ (p+1) - b) % 2 ^ (p+1))))then a / 2 ^ p+(2 ^ p - 1)else(a+2 ^ (p+1) - b) % 2 ^ (p+1))=sy p 18 a b:=by
 have hp:=Nat.two_pow_pos p
 rw[Zv ha]
 show _=(min (max (sw p a - sw p b) (-((2 ^ p:Nat):Int))) (((2 ^ p:Nat):Int) - 1) % ((2 ^ (p+1):Nat):Int)).toNat
 unfold sw
 rw[p2]at*
 generalize 2 ^ p=T at*
 rw[ajR (by split<;>split<;>omega) (by split<;>split<;>omega) hp]
 have hS:=Ul (x:=(a+2*T - b)) T (by omega)
 generalize (a+2*T - b) % (2*T)=S at*
 have hS:((a+2*T - b)<2*T/\S=(a+2*T - b))∨(2*T<=(a+2*T - b)/\S+2*T=(a+2*T - b)):=by split at hS<;>omega
 by_cases h1:T<=a<;>by_cases h2:T<=b<;>by_cases h4:T<=S
 all_goals simp only[h1,h2,h4,decide_true,decide_false,if_true,if_false,Bool.xor_self,Bool.not_false,Bool.true_and,Bool.xor_false,Bool.xor_true,Bool.not_true,Bool.false_and,Bool.false_eq_true,Bool.false_xor,Bool.true_xor]
 all_goals (repeat' split)
 all_goals omega
end
end Go.Proofs.Sw

noncomputable section
namespace Go.Proofs.Sw
variable {p n:Nat}
theorem oh.top(W:Wd (p+1) p n){z:Nat}{e:Nat->Nat}(h:oh (p+1) n z e){c:Nat->Bool}(hc: ∀ i,i<n->(e i).testBit p=c i):oh (p+1) n (z &&& oE p n) (fun i=>if c i then 2 ^ p else 0):=
 (h.and W (Tl p n)).congr fun i hi=>by rw[Zs,hc i hi]
theorem p64(W:Wd (p+1) p n):p % 64=p:=by
 have:=W.w2
 have h0:n≠0:=by intro h;rw[h]at this;cases this
 have:=Nat.le_mul_of_pos_right (p+1) (Nat.pos_of_ne_zero h0)
 exact Nat.mod_eq_of_lt (by omega)
section
variable (W:Wd (p+1) p n){lo:Nat->Nat}{x y:Nat}{a b:Nat->Nat}(hx:oh (p+1) n (lo x) a)(hy:oh (p+1) n (lo y) b){m u:Nat}(hm:m<=u)(xm:x<m)(ym:y<m)
include W hx hy hm xm ym
omit hy in
theorem Uu{s:Nat}{S:Nat->Nat}(hs:oh (p+1) n s S)(pre:List Sc){f:Nat->Bool}(QR: ∀ (nr:Nat->Nat) (st:List Nat),∃ v e,run pre ((lo x ^^^ lo y)::st) nr=some (v::st,nr)/\oh (p+1) n v e/\ ∀ i,i<n->(e i).testBit p=f i)(st:List Nat){lo1:Nat->Nat}(hl: ∀ j,j<m->lo1 j=lo j):
 ∃ z sx,run ([.s u,.g x,.g y,.o 133]++(pre++([.g x,.g u,.o 133,.o 131,.k (oE p n),.o 131]++(wY (p+1)++[.s (u+1),.g u,.g x,.k (p+1 - 1),.o 136,.k (rS p n),.o 131,.k (rest p n),.o 124,.g u,.o 133,.g (u+1),.o 131,.o 133])))) (s::st) lo1=some (z::st,sx)/\
  oh (p+1) n z (fun i=>if(f i&&xor (decide (2 ^ p<=a i)) (decide (2 ^ p<=S i)))then a i / 2 ^ p+(2 ^ p - 1)else S i)/\ ∀ j,j<m->sx j=lo j:=by
 have hp:=Nat.two_pow_pos p
 obtain⟨Bm,e3⟩: ∃ Bm,Bm=qK lo1 u s:=⟨_,rfl⟩
 have gx:Bm x=lo x:=by rw[e3,nS _ _ (by omega)];exact hl x xm
 have gy:Bm y=lo y:=by rw[e3,nS _ _ (by omega)];exact hl y ym
 have gu:Bm u=s:=by rw[e3];exact nQ _ _ _
 obtain⟨v,e,v1,v2,v3⟩:=QR Bm st
 have k1:=(v2.and W (hx.xor W hs)).top W (c:=fun i=>f i&&xor (decide (2 ^ p<=a i)) (decide (2 ^ p<=S i))) fun i hi=>by
  rw[Nat.testBit_and,Nat.testBit_xor,v3 i hi,HL (hx.l i hi),HL (hs.l i hi)]
 obtain⟨q,q1,q2⟩:=JI W k1 st Bm
 obtain⟨Uv,e4⟩: ∃ Uv,Uv=qK Bm (u+1) q:=⟨_,rfl⟩
 have hx':Uv x=lo x:=by rw[e4,nS _ _ (by omega)];exact gx
 have Ie:Uv u=s:=by rw[e4,nS _ _ (by omega)];exact gu
 have vp:Uv (u+1)=q:=by rw[e4];exact nQ _ _ _
 have hE:oh (p+1) n (((lo x / 2 ^ (p % 64) &&& rS p n)+rest p n) % cN) (fun i=>(a i / 2 ^ p &&& 1)+(2 ^ p - 1)):=by
  rw[p64 W]
  refine(hx.shm W (k:=p) (m:=1) (by omega) (by rw[show p+1 - p=1 by omega];decide)).add W (Rl p n) fun i hi=>?_
  have:=Nat.and_le_right (n:=a i / 2 ^ p) (m:=1)
  rw[p2];omega
 refine⟨_,Uv,?_,((hs.xor W ((hE.xor W hs).and W q2)).congr fun i hi=>?_),fun j hj=>?_⟩
 ·refine(cU [.s u,.g x,.g y,.o 133] _ (s::st) lo1 (st1:=(lo x ^^^ lo y)::st) (lo1:=Bm) (by rw[<-gx,<-gy,e3];rfl)).trans ?_
  refine(cU pre _ _ Bm v1).trans ?_
  refine(cU [.g x,.g u,.o 133,.o 131,.k (oE p n),.o 131] _ _ Bm (st1:=(v &&& (lo x ^^^ s) &&& oE p n)::st) (lo1:=Bm) (by rw[<-gx,<-gu];rfl)).trans ?_
  refine(cU (wY (p+1)) _ _ Bm q1).trans ?_
  show run [.g u,.g x,.k (p+1 - 1),.o 136,.k (rS p n),.o 131,.k (rest p n),.o 124,.g u,.o 133,.g (u+1),.o 131,.o 133] st (qK Bm (u+1) q)=_
  rw[<-e4]
  show some ((Uv u ^^^ ((((Uv x / 2 ^ (p % 64) &&& rS p n)+rest p n) % cN ^^^ Uv u) &&& Uv (u+1)))::st,Uv)=_
  rw[hx',Ie,vp]
 ·have h1:a i / 2 ^ p &&& 1=a i / 2 ^ p:=by
   rw[Zv (hx.l i hi)];split<;>rfl
  have o5:a i / 2 ^ p+(2 ^ p - 1)<2 ^ (p+1):=by rw[Zv (hx.l i hi),p2];split<;>omega
  rw[h1]
  exact ajQ (hs.l i hi) o5 _
 ·rw[e4,nS _ _ (by omega),e3,nS _ _ (by omega)];exact hl j hj
omit xm ym in
theorem ab0(sd:Bool):Ev ([.g y,.g y,.g x,.o 133]++(wZ (p+1) (oE p n) (rest p n) u x y sd++[.o 131,.o 133])) lo m fun z=>oh (p+1) n z fun i=>if(if sd then decide (sw p (a i)<sw p (b i))else decide (a i<b i))then a i else b i:=fun st=>by
 obtain⟨z,sx,r1,r2,r3⟩:=w6 W hx hy m hm sd ((lo y ^^^ lo x)::lo y::st)
 refine⟨_,sx,?_,(hy.xor W ((hy.xor W hx).and W r2)).congr fun i hi=>abZ (hy.l i hi) (hx.l i hi) _,r3⟩
 exact(cU [.g y,.g y,.g x,.o 133] _ st lo rfl).trans (cU _ _ _ lo r1)
omit xm ym in
theorem Uw(sd:Bool):Ev ([.g x,.g x,.g y,.o 133]++(wZ (p+1) (oE p n) (rest p n) u x y sd++[.o 131,.o 133])) lo m fun z=>oh (p+1) n z fun i=>if(if sd then decide (sw p (a i)<sw p (b i))else decide (a i<b i))then b i else a i:=fun st=>by
 obtain⟨z,sx,r1,r2,r3⟩:=w6 W hx hy m hm sd ((lo x ^^^ lo y)::lo x::st)
 refine⟨_,sx,?_,(hx.xor W ((hx.xor W hy).and W r2)).congr fun i hi=>abZ (hx.l i hi) (hy.l i hi) _,r3⟩
 exact(cU [.g x,.g x,.g y,.o 133] _ st lo rfl).trans (cU _ _ _ lo r1)
theorem Ux(k:Nat):Ev (JJ (p+1) (oE p n) (rest p n) (rS p n) u k x y) lo m fun z=>oh (p+1) n z fun i=>sy p k (a i) (b i):=by
 have hp:=Nat.two_pow_pos p
 unfold JJ
 split
 ·exact Us W hx hy m
 ·exact Ut W hx hy m
 ·refine(Us W hx hy m).then fun s lo1 st hs hl=>?_
  obtain⟨z,sx,h1,h2,h3⟩:=Uu W hx hm xm ym hs yF (f:=fun i=> !xor (decide (2 ^ p<=a i)) (decide (2 ^ p<=b i))) (fun nr st=>⟨_,_,rfl,(hx.xor W hy).not W,fun i hi=>by
   rw[<-notM (Nat.xor_lt_two_pow (hx.l i hi) (hy.l i hi)),Nat.testBit_xor,Nat.testBit_xor,HL (hx.l i hi),HL (hy.l i hi),Nat.testBit_two_pow_sub_one]
   simp⟩) st hl
  exact⟨z,sx,h1,h2.congr fun i hi=>ae' (hx.l i hi) (hy.l i hi),h3⟩
 ·refine(Ut W hx hy m).then fun s lo1 st hs hl=>?_
  obtain⟨z,sx,h1,h2,h3⟩:=Uu W hx hm xm ym hs [] (f:=fun i=>xor (decide (2 ^ p<=a i)) (decide (2 ^ p<=b i))) (fun nr st=>⟨_,_,rfl,hx.xor W hy,fun i hi=>by
   rw[Nat.testBit_xor,HL (hx.l i hi),HL (hy.l i hi)]⟩) st hl
  exact⟨z,sx,h1,h2.congr fun i hi=>afa (hx.l i hi) (hy.l i hi),h3⟩
 ·refine(Us W hx hy m).then fun s lo1 st hs hl=>?_
  obtain⟨Bm,e3⟩: ∃ Bm,Bm=qK lo1 u s:=⟨_,rfl⟩
  have gx:Bm x=lo x:=by rw[e3,nS _ _ (by omega)];exact hl x xm
  have gy:Bm y=lo y:=by rw[e3,nS _ _ (by omega)];exact hl y ym
  have gu:Bm u=s:=by rw[e3];exact nQ _ _ _
  have k1:=((hx.and W hy).or W ((hx.or W hy).and W (hs.not W))).top W (c:=fun i=>decide (2 ^ (p+1)<=a i+b i)) fun i hi=>by
   rw[Nat.testBit_or,Nat.testBit_and,Nat.testBit_and,Nat.testBit_or,<-notM (hs.l i hi),Nat.testBit_xor,HL (hx.l i hi),HL (hy.l i hi),HL (hs.l i hi),Nat.testBit_two_pow_sub_one]
   have h1:=hx.l i hi
   have h2:=hy.l i hi
   rw[p2]at*
   have hS:=Ul (x:=a i+b i) (2 ^ p) (by omega)
   generalize (a i+b i) % (2*2 ^ p)=S at*
   have hS:(a i+b i<2*2 ^ p/\S=a i+b i)∨(2*2 ^ p<=a i+b i/\S+2*2 ^ p=a i+b i):=by split at hS<;>omega
   by_cases c1:2 ^ p<=a i<;>by_cases c2:2 ^ p<=b i<;>by_cases c4:2 ^ p<=S<;>by_cases c5:2*2 ^ p<=a i+b i
   all_goals first|omega|simp[c1,c2,c4,c5]
  obtain⟨q,q1,q2⟩:=JI W k1 (s::st) Bm
  refine⟨_,Bm,?_,(hs.or W q2).congr fun i hi=>?_,fun j hj=>by rw[e3,nS _ _ (by omega)];exact hl j hj⟩
  ·refine(cU [.s u,.g u,.g x,.g y,.o 131,.g x,.g y,.o 132,.g u] _ (s::st) lo1 (st1:=s::(lo x ||| lo y)::(lo x &&& lo y)::s::st) (lo1:=Bm) (by rw[<-gx,<-gy,e3];show some (qK lo1 u s u::_::_::qK lo1 u s u::st,_)=_;rw[nQ])).trans ?_
   refine(cU yF _ _ Bm rfl).trans ?_
   refine(cU [.o 131,.o 132,.k (oE p n),.o 131] _ _ Bm rfl).trans ?_
   exact(cU (wY (p+1)) _ _ Bm q1).trans rfl
  ·show((a i+b i) % 2 ^ (p+1) ||| if decide (2 ^ (p+1)<=a i+b i)then 2 ^ (p+1) - 1 else 0)=min (a i+b i) (2 ^ (p+1) - 1)
   have h1:=hx.l i hi
   have h2:=hy.l i hi
   by_cases c:2 ^ (p+1)<=a i+b i
   ·rw[decide_eq_true c,if_pos rfl,show min (a i+b i) (2 ^ (p+1) - 1)=2 ^ (p+1) - 1 by omega]
    apply Nat.eq_of_testBit_eq
    intro j
    rw[Nat.testBit_or,Nat.testBit_two_pow_sub_one,Nat.testBit_mod_two_pow]
    by_cases hj:j<p+1<;>simp[hj]
   ·rw[decide_eq_false c,Nat.mod_eq_of_lt (by omega)]
    show(a i+b i ||| 0)=_
    rw[Nat.or_zero];omega
 ·refine(Ut W hx hy m).then fun s lo1 st hs hl=>?_
  have hx1:oh (p+1) n (lo1 x) a:=by rw[hl x xm];exact hx
  have hy1:oh (p+1) n (lo1 y) b:=by rw[hl y ym];exact hy
  obtain⟨z,sx,r1,r2,r3⟩:=((w6 W hx1 hy1 m hm false).not W) (s::st)
  refine⟨_,sx,?_,(hs.and W r2).congr fun i hi=>?_,fun j hj=>(r3 j hj).trans (hl j hj)⟩
  ·rw[<-List.append_assoc]
   exact(cU _ [.o 131] _ lo1 r1).trans rfl
  ·have h1:=hx.l i hi
   have h2:=hy.l i hi
   show((a i+2 ^ (p+1) - b i) % 2 ^ (p+1) &&& if !decide (a i<b i)then 2 ^ (p+1) - 1 else 0)=a i - b i
   by_cases c:a i<b i
   ·rw[decide_eq_true c]
    show _ &&& 0=_
    rw[Nat.and_zero];omega
   ·rw[decide_eq_false c]
    show _ &&& (2 ^ (p+1) - 1)=_
    rw[allM (Nat.mod_lt _ (Nat.two_pow_pos _)),show a i+2 ^ (p+1) - b i=a i - b i+2 ^ (p+1) by omega,Nat.add_mod_right,Nat.mod_eq_of_lt (by omega)]
 ·exact(ab0 W hx hy hm true).imp fun z hz=>hz.congr fun i _=>by show _=if sw p (a i)<sw p (b i)then _ else _;simp
 ·exact(ab0 W hx hy hm false).imp fun z hz=>hz.congr fun i _=>by show _=if a i<b i then _ else _;simp
 ·exact(Uw W hx hy hm true).imp fun z hz=>hz.congr fun i _=>by show _=if sw p (a i)<sw p (b i)then _ else _;simp
 ·exact(Uw W hx hy hm false).imp fun z hz=>hz.congr fun i _=>by show _=if a i<b i then _ else _;simp
 ·rename_i n14 n17 n15 n18 n16 n19 n22 n23 n24 n25
  have e: ∀ a b,sy p k a b=(a+b+1) / 2:=fun a b=>by unfold sy;split<;>first|contradiction|rfl
  intro st
  have hM:(rest p n)=pk (p+1) n fun _=>2 ^ (p+1 - 1) - 1:=rfl
  refine⟨_,lo,rfl,((hx.or W hy).sub W ((hx.xor W hy).shm W (k:=1) (m:=2 ^ p - 1) (by omega) (by show _<2 ^ p;omega)) fun i hi=>?_).congr fun i hi=>?_,fun _ _=>rfl⟩
  ·have h1:=Un (a i) (b i)
   have:=Nat.and_le_left (n:=(a i ^^^ b i) / 2 ^ 1) (m:=2 ^ p - 1)
   have:(a i ^^^ b i) / 2 ^ 1<=a i ^^^ b i:=Nat.div_le_self _ _
   omega
  ·have o5:(a i ^^^ b i) / 2 ^ 1<2 ^ p:=by
    have:=Nat.xor_lt_two_pow (hx.l i hi) (hy.l i hi)
    rw[p2]at this
    omega
   rw[allM o5,e]
   exact ajN (a i) (b i)
end
end Go.Proofs.Sw

noncomputable section
namespace Go.Proofs.Sw
variable {p n:Nat}
def Hc(w T R O u k x:Nat):List Sc:=match k with
 |0=>[.g x,.k T,.o 131]++(wY w++[.s u,.g x,.g u,.o 133,.g u,.k O,.o 131,.o 124])
 |1=>if w=64 then [.k 0,.g x,.o 125]else [.k T,.g x,.k R,.o 131,.o 125,.g x,.k T,.o 131,.k T,.o 133,.o 133]
 | _=>[.g x,.g x,.k 1,.o 136,.k 6148914691236517205,.o 131,.o 125,.s u,.g u,.k 3689348814741910323,.o 131,.g u,.k 2,.o 136,.k 3689348814741910323,.o 131,.o 124,.s (u+1),.g (u+1),.g (u+1),.k 4,.o 136,.o 124,.k 1085102592571150095,.o 131]
def pop8(a:Nat):Nat:=a % 2+a / 2 % 2+a / 4 % 2+a / 8 % 2+a / 16 % 2+a / 32 % 2+a / 64 % 2+a / 128 % 2
def A2(p k a:Nat):Nat:=match k with
 |0=>if 2 ^ p<=a then 2 ^ (p+1) - a else a
 |1=>(2 ^ (p+1) - a) % 2 ^ (p+1)
 | _=>pop8 a
theorem Uy{w:Nat}{k:Nat}(hk:k<=w): ∀ {n:Nat} (f:Nat->Nat),(∀ i,n<=i->f i=0)->pk w n f / 2 ^ k=pk w n (fun i=>f i / 2 ^ k+2 ^ (w - k)*(f (i+1) % 2 ^ k))
 |0,_,_=>by simp[pk]
 |n+1,f,hz=>by
  have ih:=Uy hk (n:=n) (fun i=>f (i+1)) fun i hi=>hz (i+1) (by omega)
  show(f 0+2 ^ w*pk w n (fun i=>f (i+1))) / 2 ^ k=f 0 / 2 ^ k+2 ^ (w - k)*(f (0+1) % 2 ^ k)+2 ^ w*pk w n (fun i=>f (i+1) / 2 ^ k+2 ^ (w - k)*(f (i+1+1) % 2 ^ k))
  rw[<-ih]
  have e:2 ^ w=2 ^ k*2 ^ (w - k):=by rw[<-Nat.pow_add,Nat.add_sub_cancel' hk]
  have m:pk w n (fun i=>f (i+1)) % 2 ^ k=f 1 % 2 ^ k:=by
   cases n with
   |zero=>rw[hz 1 (by omega)];rfl
   |succ n=>
    show(f (0+1)+2 ^ w*_) % 2 ^ k=_
    rw[e,Nat.mul_assoc,Nat.add_mul_mod_self_left]
  rw[e,Nat.mul_assoc,Nat.add_mul_div_left _ _ (Nat.two_pow_pos k),Nat.mul_assoc,Nat.mul_left_comm (2 ^ k)]
  have d:=Nat.div_add_mod (pk w n fun i=>f (i+1)) (2 ^ k)
  rw[m]at d
  show _+2 ^ (w - k)*pk w n (fun i=>f (i+1))=f 0 / 2 ^ k+2 ^ (w - k)*(f 1 % 2 ^ k)+2 ^ (w - k)*(2 ^ k*(pk w n (fun i=>f (i+1)) / 2 ^ k))
  rw[Nat.add_assoc,<-Nat.mul_add,Nat.add_comm (f 1 % 2 ^ k),d]
def pa(a:Nat):Nat:=a - (a / 2 &&& 85)
def pb(a:Nat):Nat:=(pa a &&& 51)+(pa a / 4 &&& 51)
theorem Zw: ∀ a:Fin 256,(a.1 / 2 &&& 85)<=a.1/\pa a.1<256/\(pa a.1 &&& 51)+(pa a.1 / 4 &&& 51)<256/\pb a.1 / 16<=4/\pb a.1 % 16<=4/\((pb a.1+pb a.1 / 16) &&& 15)=pop8 a.1:=by decide+kernel
section
variable (W:Wd (p+1) p n){lo:Nat->Nat}{x:Nat}{a:Nat->Nat}(hx:oh (p+1) n (lo x) a){m u:Nat}(hm:m<=u)(xm:x<m)
include W hx hm xm
theorem ajS:Ev (Hc (p+1) (oE p n) (rest p n) (rS p n) u 0 x) lo m fun z=>oh (p+1) n z fun i=>A2 p 0 (a i):=fun st=>by
 have hp:=Nat.two_pow_pos p
 have k1:=hx.top W (c:=fun i=>decide (2 ^ p<=a i)) fun i hi=>HL (hx.l i hi)
 obtain⟨q,q1,q2⟩:=JI W k1 st lo
 obtain⟨lo1,e1⟩: ∃ lo1,lo1=qK lo u q:=⟨_,rfl⟩
 have gx:lo1 x=lo x:=by rw[e1,nS _ _ (by omega)]
 have gu:lo1 u=q:=by rw[e1];exact nQ _ _ _
 have key: ∀ i,i<n->(a i ^^^ if decide (2 ^ p<=a i)then 2 ^ (p+1) - 1 else 0)+((if decide (2 ^ p<=a i)then 2 ^ (p+1) - 1 else 0) &&& 1)=A2 p 0 (a i):=fun i hi=>by
  have h:=hx.l i hi
  show _=if 2 ^ p<=a i then 2 ^ (p+1) - a i else a i
  by_cases c:2 ^ p<=a i
  ·rw[decide_eq_true c,if_pos rfl,if_pos c,notM h]
   have:(2 ^ (p+1) - 1) &&& 1=1:=by rw[Nat.and_one_is_mod,p2];omega
   rw[this];omega
  ·rw[decide_eq_false c,if_neg c];simp
 refine⟨_,lo1,?_,((hx.xor W q2).add W (q2.and W (O1 p n)) fun i hi=>?_).congr key,fun j hj=>by rw[e1,nS _ _ (by omega)]⟩
 ·refine(cU [.g x,.k (oE p n),.o 131] _ st lo rfl).trans ((cU (wY (p+1)) _ _ lo q1).trans ?_)
  show run [.g x,.g u,.o 133,.g u,.k (rS p n),.o 131,.o 124] st (qK lo u q)=_
  rw[<-e1]
  show some (((lo1 x ^^^ lo1 u)+(lo1 u &&& rS p n)) % cN::st,lo1)=_
  rw[gx,gu]
 ·rw[key i hi]
  have h:=hx.l i hi
  show(if 2 ^ p<=a i then 2 ^ (p+1) - a i else a i)<_
  split<;>omega
omit hm xm in
theorem ajT:Ev (Hc (p+1) (oE p n) (rest p n) (rS p n) u 1 x) lo m fun z=>oh (p+1) n z fun i=>A2 p 1 (a i):=fun st=>by
 unfold Hc
 by_cases h:p+1=64
 ·simp only[h,if_true]
  refine⟨(0+cN - lo x) % cN,lo,rfl,?_,fun _ _=>rfl⟩
  rw[<-h]
  refine LO W h ?_ (by show(2 ^ (p+1) - a 0) % 2 ^ (p+1)<cN;rw[h];exact Nat.mod_lt _ (by decide))
  rw[JH W h hx]
  show(0+cN - a 0) % cN=(2 ^ (p+1) - a 0) % 2 ^ (p+1)
  rw[h,Nat.zero_add]
 ·simp only[h,if_false]
  have z0:oh (p+1) n 0 (fun _=>0):=⟨(Ck n).symm,fun _ _=>Nat.two_pow_pos _⟩
  have k:=abW W z0 hx
  rw[Nat.zero_or,Nat.zero_xor]at k
  exact⟨_,lo,rfl,k.congr fun i _=>by show(0+2 ^ (p+1) - a i) % _=_;rw[Nat.zero_add];rfl,fun _ _=>rfl⟩
end
theorem ajU{lo:Nat->Nat}{x:Nat}{a:Nat->Nat}(hx:oh 8 8 (lo x) a){m u:Nat}(hm:m<=u)(xm:x<m):Ev (Hc 8 (oE 7 8) (rest 7 8) (rS 7 8) u 2 x) lo m fun z=>oh 8 8 z fun i=>A2 7 2 (a i):=fun st=>by
 have W:Wd (7+1) 7 8:=⟨rfl,rfl⟩
 have al: ∀ i,i<8->(a i / 2 &&& 85)<=a i/\pa (a i)<256/\(pa (a i) &&& 51)+(pa (a i) / 4 &&& 51)<256/\pb (a i) / 16<=4/\pb (a i) % 16<=4/\((pb (a i)+pb (a i) / 16) &&& 15)=pop8 (a i):=fun i hi=>Zw ⟨a i,hx.l i hi⟩
 have hA:=hx.sub W (hx.shm W (k:=1) (m:=85) (by decide) (by decide)) fun i hi=>(al i hi).1
 obtain⟨t,ht⟩: ∃ t,t=(lo x+cN - (lo x / 2 ^ 1 &&& pk 8 8 fun _=>85)) % cN:=⟨_,rfl⟩
 rw[<-ht]at hA
 have hB:=(hA.and W (oh.Ka 8 (c:=51) (by decide))).add W (hA.shm W (k:=2) (m:=51) (by decide) (by decide)) fun i hi=>(al i hi).2.2.1
 obtain⟨v,hv⟩: ∃ v,v=((t &&& pk 8 8 fun _=>51)+(t / 2 ^ 2 &&& pk 8 8 fun _=>51)) % cN:=⟨_,rfl⟩
 rw[<-hv]at hB
 have hB':oh 8 8 v fun i=>if i<8 then pb (a i)else 0:=hB.congr fun i hi=>by rw[if_pos hi];rfl
 have hS:oh 8 8 (v / 2 ^ 4) (fun i=>(if i<8 then pb (a i)else 0) / 2 ^ 4+2 ^ (8 - 4)*((if i+1<8 then pb (a (i+1))else 0) % 2 ^ 4)):=by
  refine⟨by rw[hB'.e,Uy (by decide) _ fun i hi=>if_neg (by omega)],fun i hi=>?_⟩
  rw[if_pos hi]
  have h1:=(al i hi).2.2.2.1
  by_cases c:i+1<8
  ·rw[if_pos c]
   have h2:=(al (i+1) c).2.2.2.2.1
   omega
  ·rw[if_neg c]
   omega
 have hC:=(hB'.add W hS fun i hi=>by
  rw[if_pos hi]
  have h1:=(al i hi).2.2.2.1
  have h3:=(al i hi).2.2.2.2.1
  by_cases c:i+1<8
  ·rw[if_pos c]
   have h2:=(al (i+1) c).2.2.2.2.1
   omega
  ·rw[if_neg c]
   omega).and W (oh.Ka 8 (c:=15) (by decide))
 obtain⟨lo1,e1⟩: ∃ lo1,lo1=qK (qK lo u t) (u+1) v:=⟨_,rfl⟩
 refine⟨_,lo1,?_,hC.congr fun i hi=>?_,fun j hj=>by rw[e1,nS _ _ (by omega),nS _ _ (by omega)]⟩
 ·have c85:(pk 8 8 fun _=>85)=6148914691236517205:=by decide+kernel
  have c51:(pk 8 8 fun _=>51)=3689348814741910323:=by decide+kernel
  have c15:(pk 8 8 fun _=>15)=1085102592571150095:=by decide+kernel
  rw[c15]
  rw[c85]at ht
  rw[c51]at hv
  have lu:qK lo u t u=t:=nQ _ _ _
  have lv:lo1 (u+1)=v:=by rw[e1];exact nQ _ _ _
  refine(cU [.g x,.g x,.k 1,.o 136,.k 6148914691236517205,.o 131,.o 125,.s u] [.g u,.k 3689348814741910323,.o 131,.g u,.k 2,.o 136,.k 3689348814741910323,.o 131,.o 124,.s (u+1),.g (u+1),.g (u+1),.k 4,.o 136,.o 124,.k 1085102592571150095,.o 131] st lo (st1:=st) (lo1:=qK lo u t) (by rw[ht];rfl)).trans ?_
  refine(cU [.g u,.k 3689348814741910323,.o 131,.g u,.k 2,.o 136,.k 3689348814741910323,.o 131,.o 124,.s (u+1)] [.g (u+1),.g (u+1),.k 4,.o 136,.o 124,.k 1085102592571150095,.o 131] st (qK lo u t) (st1:=st) (lo1:=lo1) (by
   rw[e1,hv]
   show some (st,qK (qK lo u t) (u+1) (((qK lo u t u &&& 3689348814741910323)+(qK lo u t u / 2 ^ 2 &&& 3689348814741910323)) % cN))=_
   rw[lu])).trans ?_
  show some (((lo1 (u+1)+lo1 (u+1) / 2 ^ 4) % cN &&& 1085102592571150095)::st,lo1)=_
  rw[lv]
 ·rw[if_pos hi]
  have h1:=(al i hi).2.2.2.2.2
  show _=pop8 (a i)
  rw[<-h1]
  rw[show(15:Nat)=2 ^ 4 - 1 from rfl,Nat.and_two_pow_sub_one_eq_mod,Nat.and_two_pow_sub_one_eq_mod]
  rw[<-Nat.add_assoc,show 2 ^ (8 - 4)=2 ^ 4 from rfl,Nat.add_mul_mod_self_left]
end Go.Proofs.Sw

noncomputable section
namespace Go.Proofs.Sw
variable {p n:Nat}
def Uz(k:Nat):Nat:=if k=11 then 134 else 136
def Ns(w O k v:Nat):List Sc:=[.g (v+2),.o 173,.k (w - 1),.o 131,.s (v+2),.k (2 ^ w - 1),.g (v+2),.o (Uz k),.k (2 ^ w - 1),.o 131,.k O,.o 126,.s (v+3)]
def w8(w T k v x:Nat):List Sc:=[.g x,.g (v+2),.o (Uz k),.g (v+3),.o 131]++(if k=12 then [.g x,.k T,.o 131]++(wY w++([.g (v+3)]++(yF++[.o 131,.o 132])))else [])
def Nt(p k q:Nat):Nat:=if k=11 then 2 ^ (p+1) - 2 ^ q else 2 ^ (p+1 - q) - 1
def Zx(p k q a:Nat):Nat:=if k=11 then 2 ^ q*a % 2 ^ (p+1)else if k=12 then((sw p a / (2 ^ q:Nat)) % ((2 ^ (p+1):Nat):Int)).toNat else a / 2 ^ q
theorem afb{k q:Nat}:Nt p k q<2 ^ (p+1):=by
 unfold Nt
 have:=Nat.two_pow_pos q
 have:=Nat.two_pow_pos (p+1)
 have h3:=Nat.two_pow_pos (p+1 - q)
 have:2 ^ (p+1 - q)<=2 ^ (p+1):=Nat.pow_le_pow_right (by decide) (Nat.sub_le _ _)
 split<;>omega
section
variable (W:Wd (p+1) p n)
include W
theorem Wd.p63:p<64:=by
 have:=W.w2
 have h0:n≠0:=by intro h;rw[h]at this;cases this
 have:=Nat.le_mul_of_pos_right (p+1) (Nat.pos_of_ne_zero h0)
 omega
theorem Zy{e:Nat}(he:p+1=2 ^ e)(k v:Nat)(st:List Nat)(lo:Nat->Nat): ∃ nr,run (Ns (p+1) (rS p n) k v) st lo=some (st,nr)/\nr (v+2)=lo (v+2) % 4294967296 % (p+1)/\nr (v+3)=(pk (p+1) n fun _=>Nt p k (lo (v+2) % 4294967296 % (p+1)))/\ ∀ j,j<v+2->nr j=lo j:=by
 have hp:=W.p63
 obtain⟨q,hq⟩: ∃ q,q=lo (v+2) % 4294967296 % (p+1):=⟨_,rfl⟩
 have hq1:q<p+1:=by rw[hq];exact Nat.mod_lt _ (Nat.succ_pos _)
 have e1:(lo (v+2) % 4294967296 &&& (p+1 - 1))=q:=by rw[hq,he];exact Nat.and_two_pow_sub_one_eq_mod _ _
 have e2:q % 64=q:=Nat.mod_eq_of_lt (by omega)
 have hW:=Nat.two_pow_pos (p+1)
 have hpw:2 ^ (p+1)<=cN:=by have:2 ^ (p+1)<=2 ^ 64:=Nat.pow_le_pow_right (by decide) (by omega);exact this
 have qw:2 ^ q<=2 ^ (p+1):=Nat.pow_le_pow_right (by decide) (by omega)
 have hq0:=Nat.two_pow_pos q
 have em: ∀ z,Kk (Uz k) [q,2 ^ (p+1) - 1]=some [z]->z &&& (2 ^ (p+1) - 1)=Nt p k q:=by
  intro z hz
  unfold Uz at hz
  unfold Nt
  by_cases h:k=11
  ·rw[if_pos h]at hz ⊢
   have hz:some [2 ^ (q % 64)*(2 ^ (p+1) - 1) % cN]=some [z]:=hz
   cases hz
   rw[Nat.and_two_pow_sub_one_eq_mod,e2]
   have dv:2 ^ (p+1) ∣cN:=⟨2 ^ (64 - (p+1)),by rw[<-Nat.pow_add,Nat.add_sub_cancel' (by omega)]⟩
   rw[Nat.mod_mod_of_dvd _ dv]
   have:2 ^ q*(2 ^ (p+1) - 1)=(2 ^ (p+1) - 2 ^ q)+2 ^ (p+1)*(2 ^ q - 1):=by
    rw[Nat.mul_sub,Nat.mul_one,Nat.mul_sub,Nat.mul_one,Nat.mul_comm (2 ^ (p+1)) (2 ^ q)]
    have:2 ^ (p+1)<=2 ^ q*2 ^ (p+1):=Nat.le_mul_of_pos_left _ hq0
    omega
   rw[this,Nat.add_mul_mod_self_left,Nat.mod_eq_of_lt (by omega)]
  ·rw[if_neg h]at hz ⊢
   have hz:some [(2 ^ (p+1) - 1) / 2 ^ (q % 64)]=some [z]:=hz
   cases hz
   rw[e2]
   have e3:(2 ^ (p+1) - 1) / 2 ^ q=2 ^ (p+1 - q) - 1:=by
    have h1:2 ^ (p+1)=2 ^ q*2 ^ (p+1 - q):=by rw[<-Nat.pow_add,Nat.add_sub_cancel' (by omega)]
    have h2:=Nat.two_pow_pos (p+1 - q)
    have:2 ^ (p+1) - 1=(2 ^ q - 1)+2 ^ q*(2 ^ (p+1 - q) - 1):=by
     rw[Nat.mul_sub,Nat.mul_one,<-h1]
     have:2 ^ q<=2 ^ (p+1):=qw
     omega
    rw[this,Nat.add_mul_div_left _ _ hq0,Nat.div_eq_of_lt (by omega),Nat.zero_add]
   rw[e3]
   refine allM ?_
   have:2 ^ (p+1 - q)<=2 ^ (p+1):=Nat.pow_le_pow_right (by decide) (Nat.sub_le _ _)
   omega
 obtain⟨lo1,h1⟩: ∃ lo1,lo1=qK lo (v+2) q:=⟨_,rfl⟩
 have g1:lo1 (v+2)=q:=by rw[h1];exact nQ _ _ _
 obtain⟨z,hz1,hz2⟩: ∃ z,Kk (Uz k) (q::(2 ^ (p+1) - 1)::st)=some (z::st)/\Kk (Uz k) [q,2 ^ (p+1) - 1]=some [z]:=by
  unfold Uz
  by_cases h:k=11
  ·rw[if_pos h];exact⟨_,rfl,rfl⟩
  ·rw[if_neg h];exact⟨_,rfl,rfl⟩
 have ez:=em z hz2
 have hm:Nt p k q*rS p n % cN=pk (p+1) n fun _=>Nt p k q:=by
  rw[show rS p n=pk (p+1) n fun _=>1 from rfl,Hb]
  have e:(pk (p+1) n fun _=>Nt p k q*1)=pk (p+1) n fun _=>Nt p k q:=cB fun _ _=>Nat.mul_one _
  rw[e]
  exact Nat.mod_eq_of_lt ((oh.Ka n afb).lt W)
 refine⟨qK lo1 (v+3) (pk (p+1) n fun _=>Nt p k q),?_,?_,by rw[<-hq];exact nQ _ _ _,fun j hj=>?_⟩
 ·refine(cU [.g (v+2),.o 173,.k (p+1 - 1),.o 131,.s (v+2)] [.k (2 ^ (p+1) - 1),.g (v+2),.o (Uz k),.k (2 ^ (p+1) - 1),.o 131,.k (rS p n),.o 126,.s (v+3)] st lo (st1:=st) (lo1:=lo1) (by
   rw[h1,<-e1];rfl)).trans ?_
  show(match Kk (Uz k) (lo1 (v+2)::(2 ^ (p+1) - 1)::st)with|some st=>run [.k (2 ^ (p+1) - 1),.o 131,.k (rS p n),.o 126,.s (v+3)] st lo1|none=>none)=_
  rw[g1,hz1]
  show some (st,qK lo1 (v+3) ((z &&& (2 ^ (p+1) - 1))*rS p n % cN))=_
  rw[ez,hm]
 ·rw[nS _ _ (by omega),g1,hq]
 ·rw[nS _ _ (by omega),h1,nS _ _ (by omega)]
omit W in
theorem ash{q a:Nat}(hq:q<p+1)(ha:a<2 ^ (p+1)):(a / 2 ^ q) ||| ((if decide (2 ^ p<=a)then 2 ^ (p+1) - 1 else 0) &&& (2 ^ (p+1) - 1 - (2 ^ (p+1 - q) - 1)))=((sw p a / (2 ^ q:Nat)) % ((2 ^ (p+1):Nat):Int)).toNat:=by
 have hq0:=Nat.two_pow_pos q
 have h1:2 ^ (p+1)=2 ^ q*2 ^ (p+1 - q):=by rw[<-Nat.pow_add,Nat.add_sub_cancel' (by omega)]
 have h2:=Nat.two_pow_pos (p+1 - q)
 have hr:a / 2 ^ q<2 ^ (p+1 - q):=Nat.div_lt_of_lt_mul (by rw[<-h1];exact ha)
 have le:2 ^ (p+1 - q)<=2 ^ (p+1):=Nat.pow_le_pow_right (by decide) (Nat.sub_le _ _)
 have ed0:((a:Int)) / ((2 ^ q:Nat):Int)=((a / 2 ^ q:Nat):Int):=(Int.natCast_ediv _ _).symm
 unfold sw
 by_cases c:2 ^ p<=a
 ·have ed:((a:Int) - ((2 ^ (p+1):Nat):Int)) / ((2 ^ q:Nat):Int)=((a / 2 ^ q:Nat):Int) - ((2 ^ (p+1 - q):Nat):Int):=by
   have e:((2 ^ (p+1):Nat):Int)=((2 ^ q:Nat):Int)*((2 ^ (p+1 - q):Nat):Int):=by rw[h1,Int.natCast_mul]
   rw[e,Int.sub_eq_add_neg,<-Int.mul_neg,Int.add_mul_ediv_left _ _ (by omega),ed0]
   exact(Int.sub_eq_add_neg ..).symm
  have eo:(a / 2 ^ q) ||| (2 ^ (p+1) - 1 - (2 ^ (p+1 - q) - 1))=(2 ^ (p+1) - 2 ^ (p+1 - q))+a / 2 ^ q:=by
   have e3:2 ^ (p+1) - 1 - (2 ^ (p+1 - q) - 1)=2 ^ (p+1 - q)*(2 ^ q - 1):=by rw[Nat.mul_sub,Nat.mul_one,Nat.mul_comm,<-h1];omega
   have e4:2 ^ (p+1) - 2 ^ (p+1 - q)=2 ^ (p+1 - q)*(2 ^ q - 1):=by rw[Nat.mul_sub,Nat.mul_one,Nat.mul_comm,<-h1]
   rw[e3,e4,Nat.or_comm,Nat.two_pow_add_eq_or_of_lt hr]
  rw[decide_eq_true c,if_pos rfl,if_neg (show ¬ a<2 ^ p by omega),Nat.and_comm,allM (by omega),ed,eo]
  generalize a / 2 ^ q=A at*
  generalize 2 ^ (p+1 - q)=D at*
  generalize 2 ^ (p+1)=E at*
  rw[FB _ E ((A:Int) - (D:Int)+(E:Int)) (by omega) (by omega) (-1) (by omega)]
  omega
 ·rw[decide_eq_false c,if_pos (show a<2 ^ p by omega),ed0]
  show a / 2 ^ q ||| (0 &&& _)=_
  rw[Nat.zero_and,Nat.or_zero]
  generalize a / 2 ^ q=A at*
  rw[FB _ (2 ^ (p+1)) (A:Int) (by omega) (by omega) 0 (by omega)]
  exact(Int.toNat_natCast _).symm
theorem JK{k v x q:Nat}(hq:q<p+1){lo:Nat->Nat}{a:Nat->Nat}(hx:oh (p+1) n (lo x) a)(g2:lo (v+2)=q)(g3:lo (v+3)=pk (p+1) n fun _=>Nt p k q)(m:Nat):Ev (w8 (p+1) (oE p n) k v x) lo m fun z=>oh (p+1) n z fun i=>Zx p k q (a i):=fun st=>by
 have hp:=W.p63
 have e2:q % 64=q:=Nat.mod_eq_of_lt (by omega)
 unfold w8
 have main: ∃ z,run [.g x,.g (v+2),.o (Uz k),.g (v+3),.o 131] st lo=some (z::st,lo)/\oh (p+1) n z fun i=>if k=11 then 2 ^ q*a i % 2 ^ (p+1)else a i / 2 ^ q:=by
  unfold Uz
  by_cases h:k=11
  ·simp only[h,if_true]
   refine⟨2 ^ (lo (v+2) % 64)*lo x % cN &&& lo (v+3),rfl,?_,fun i _=>Nat.mod_lt _ (Nat.two_pow_pos _)⟩
   rw[g2,g3,e2,hx.e,h,<-W.big]
   exact ae8 W.pos (by omega) hx.l
  ·simp only[h,if_false]
   refine⟨lo x / 2 ^ (lo (v+2) % 64) &&& lo (v+3),rfl,?_,fun i hi=>Nat.lt_of_le_of_lt (Nat.div_le_self _ _) (hx.l i hi)⟩
   rw[g2,g3,e2,hx.e]
   unfold Nt
   rw[if_neg h]
   exact LM W.pos (by omega) hx.l
 obtain⟨z,z1,z2⟩:=main
 by_cases h:k=12
 ·rw[if_pos h]
  have k1:=hx.top W (c:=fun i=>decide (2 ^ p<=a i)) fun i hi=>HL (hx.l i hi)
  obtain⟨s,s1,s2⟩:=JI W k1 (z::st) lo
  have hM:oh (p+1) n (lo (v+3)) fun _=>2 ^ (p+1 - q) - 1:=by
   rw[g3]
   unfold Nt
   rw[if_neg (show ¬ k=11 by omega)]
   refine .Ka n ?_
   have:=Nat.two_pow_pos (p+1 - q)
   have:2 ^ (p+1 - q)<=2 ^ (p+1):=Nat.pow_le_pow_right (by decide) (Nat.sub_le _ _)
   omega
  refine⟨_,lo,(cU _ _ _ lo z1).trans ((cU [.g x,.k (oE p n),.o 131] _ _ lo rfl).trans ((cU (wY (p+1)) _ _ lo s1).trans rfl)),(z2.or W (s2.and W (hM.not W))).congr fun i hi=>?_,fun _ _=>rfl⟩
  unfold Zx
  rw[if_neg (show ¬ k=11 by omega),if_pos h,if_neg (show ¬ k=11 by omega)]
  exact ash hq (hx.l i hi)
 ·rw[if_neg h]
  refine⟨z,lo,(cU _ _ _ lo z1).trans rfl,z2.congr fun i hi=>?_,fun _ _=>rfl⟩
  unfold Zx
  by_cases h1:k=11
  ·rw[if_pos h1,if_pos h1]
  ·rw[if_neg h1,if_neg h1,if_neg h]
end
end Go.Proofs.Sw

noncomputable section
namespace Go.Proofs.Vq
open Go.Ab Go.Ab.Lf
set_option maxRecDepth 100000
theorem HM{o n:Int}(h:(t11 (o,())).val=some (cp vE (n,()))):xz (o,())=true/\(m11 (o,())).1=n:=by
 obtain⟨h1,h2⟩:=nm (k:=xz (o,())) (m:=m11 (o,())) (ca _) (ca _) h
 exact⟨h1,by rw[h2]⟩
theorem Nu:xz (124,())=true/\(m11 (124,())).1=2:=HM (by kernel_rfl)
theorem asi(x y:Int):G2 (124,x,y,())=true/\m12 (124,x,y,())=(nz .u64 x y,0,()):=by
 refine nm (ca _) (ca _) ?_
 rw[zY,Nu.1,Nu.2]
 rfl
theorem Nv:xz (125,())=true/\(m11 (125,())).1=2:=HM (by kernel_rfl)
theorem asj(x y:Int):G2 (125,x,y,())=true/\m12 (125,x,y,())=(cz .u64 x y,0,()):=by
 refine nm (ca _) (ca _) ?_
 rw[zY,Nv.1,Nv.2]
 rfl
theorem Nw:xz (126,())=true/\(m11 (126,())).1=2:=HM (by kernel_rfl)
theorem asl(x y:Int):G2 (126,x,y,())=true/\m12 (126,x,y,())=(Xu .u64 x y,0,()):=by
 refine nm (ca _) (ca _) ?_
 rw[zY,Nw.1,Nw.2]
 rfl
theorem Ny:xz (131,())=true/\(m11 (131,())).1=2:=HM (by kernel_rfl)
theorem asm(x y:Int):G2 (131,x,y,())=true/\m12 (131,x,y,())=(np .u64 x y,0,()):=by
 refine nm (ca _) (ca _) ?_
 rw[zY,Ny.1,Ny.2]
 rfl
theorem Nz:xz (132,())=true/\(m11 (132,())).1=2:=HM (by kernel_rfl)
theorem asn(x y:Int):G2 (132,x,y,())=true/\m12 (132,x,y,())=(C3 .u64 x y,0,()):=by
 refine nm (ca _) (ca _) ?_
 rw[zY,Nz.1,Nz.2]
 rfl
theorem NA:xz (133,())=true/\(m11 (133,())).1=2:=HM (by kernel_rfl)
theorem aso(x y:Int):G2 (133,x,y,())=true/\m12 (133,x,y,())=(Eb .u64 x y,0,()):=by
 refine nm (ca _) (ca _) ?_
 rw[zY,NA.1,NA.2]
 rfl
theorem NB:xz (134,())=true/\(m11 (134,())).1=2:=HM (by kernel_rfl)
theorem asp(x y:Int)(hy:U y):G2 (134,x,y,())=true/\m12 (134,x,y,())=(tP .u64 x (np .u64 y 63),0,()):=by
 refine nm (ca _) (ca _) ?_
 rw[zY,NB.1,NB.2]
 have c:=dt (DB hy)
 show cA (decide (0<=np .u64 y 63)) (some (cp cT (tP .u64 x (np .u64 y 63),0,())))=_
 rw[c]
 rfl
theorem NC:xz (135,())=true/\(m11 (135,())).1=2:=HM (by kernel_rfl)
theorem asq(x y:Int)(hy:U y):G2 (135,x,y,())=true/\m12 (135,x,y,())=(cb .u64 (px .i64 (cb .i64 x) (np .u64 y 63)),0,()):=by
 refine nm (ca _) (ca _) ?_
 rw[zY,NC.1,NC.2]
 have c:=dt (DB hy)
 show cA (decide (0<=np .u64 y 63)) (some (cp cT (cb .u64 (px .i64 (cb .i64 x) (np .u64 y 63)),0,())))=_
 rw[c]
 rfl
theorem ND:xz (136,())=true/\(m11 (136,())).1=2:=HM (by kernel_rfl)
theorem asr(x y:Int)(hy:U y):G2 (136,x,y,())=true/\m12 (136,x,y,())=(px .u64 x (np .u64 y 63),0,()):=by
 refine nm (ca _) (ca _) ?_
 rw[zY,ND.1,ND.2]
 have c:=dt (DB hy)
 show cA (decide (0<=np .u64 y 63)) (some (cp cT (px .u64 x (np .u64 y 63),0,())))=_
 rw[c]
 rfl
theorem Zz:xz (81,())=true/\(m11 (81,())).1=2:=HM (by kernel_rfl)
theorem o81(x y:Int):G2 (81,x,y,())=true/\m12 (81,x,y,())=(bif decide (cb .i64 x=cb .i64 y)then 1 else 0,0,()):=by
 refine nm (ca _) (ca _) ?_
 rw[zY,Zz.1,Zz.2]
 show(bif decide (cb .i64 x=cb .i64 y)then some (cp cT (1,0,()))else some (cp cT (0,0,())))=_
 cases decide (cb .i64 x=cb .i64 y)<;>rfl
theorem ZA:xz (83,())=true/\(m11 (83,())).1=2:=HM (by kernel_rfl)
theorem o83(x y:Int):G2 (83,x,y,())=true/\m12 (83,x,y,())=(bif decide (cb .i64 x<cb .i64 y)then 1 else 0,0,()):=by
 refine nm (ca _) (ca _) ?_
 rw[zY,ZA.1,ZA.2]
 show(bif decide (cb .i64 x<cb .i64 y)then some (cp cT (1,0,()))else some (cp cT (0,0,())))=_
 cases decide (cb .i64 x<cb .i64 y)<;>rfl
theorem ZB:xz (84,())=true/\(m11 (84,())).1=2:=HM (by kernel_rfl)
theorem o84(x y:Int):G2 (84,x,y,())=true/\m12 (84,x,y,())=(bif decide (cb .u64 (cb .i64 x)<cb .u64 (cb .i64 y))then 1 else 0,0,()):=by
 refine nm (ca _) (ca _) ?_
 rw[zY,ZB.1,ZB.2]
 show(bif decide (cb .u64 (cb .i64 x)<cb .u64 (cb .i64 y))then some (cp cT (1,0,()))else some (cp cT (0,0,())))=_
 cases decide (cb .u64 (cb .i64 x)<cb .u64 (cb .i64 y))<;>rfl
theorem ZC:xz (85,())=true/\(m11 (85,())).1=2:=HM (by kernel_rfl)
theorem o85(x y:Int):G2 (85,x,y,())=true/\m12 (85,x,y,())=(bif decide (cb .i64 y<cb .i64 x)then 1 else 0,0,()):=by
 refine nm (ca _) (ca _) ?_
 rw[zY,ZC.1,ZC.2]
 show(bif decide (cb .i64 y<cb .i64 x)then some (cp cT (1,0,()))else some (cp cT (0,0,())))=_
 cases decide (cb .i64 y<cb .i64 x)<;>rfl
theorem ZD:xz (69,())=true/\(m11 (69,())).1=1:=HM (by kernel_rfl)
theorem o69(x:Int):VV (69,x,())=true/\m13 (69,x,())=(bif decide (cb .u32 x=0)then 1 else 0,0,()):=by
 refine nm (ca _) (ca _) ?_
 rw[Ub,ZD.1,ZD.2]
 show(bif decide (cb .u32 x=0)then some (cp qS (1,0,()))else some (cp qS (0,0,())))=_
 cases decide (cb .u32 x=0)<;>rfl
theorem ZE:xz (80,())=true/\(m11 (80,())).1=1:=HM (by kernel_rfl)
theorem o80(x:Int):VV (80,x,())=true/\m13 (80,x,())=(bif decide (x=0)then 1 else 0,0,()):=by
 refine nm (ca _) (ca _) ?_
 rw[Ub,ZE.1,ZE.2]
 show(bif decide (x=0)then some (cp qS (1,0,()))else some (cp qS (0,0,())))=_
 cases decide (x=0)<;>rfl
theorem NF:xz (167,())=true/\(m11 (167,())).1=1:=HM (by kernel_rfl)
theorem ass(x:Int):VV (167,x,())=true/\m13 (167,x,())=(cb .u64 (cb .u32 x),0,()):=by
 refine nm (ca _) (ca _) ?_
 rw[Ub,NF.1,NF.2]
 rfl
theorem NG:xz (173,())=true/\(m11 (173,())).1=1:=HM (by kernel_rfl)
theorem ast(x:Int):VV (173,x,())=true/\m13 (173,x,())=(cb .u64 (cb .u32 x),0,()):=by
 refine nm (ca _) (ca _) ?_
 rw[Ub,NG.1,NG.2]
 rfl
end Go.Proofs.Vq

noncomputable section
namespace Go.Proofs.Vq
open Go.Ab Go.Ab.Lf Go.Proofs.Sw
set_option maxRecDepth 100000
theorem ZF(n:Nat):na .u64 (n:Int)=((n % cN:Nat):Int):=by
 show Int.emod (n:Int) 18446744073709551616=_
 exact(Int.natCast_emod n cN).symm
theorem wU(n:Int):na .u64 n=n % 18446744073709551616:=rfl
theorem UA{a b:Nat}(ha:a<cN)(hb:b<cN):C3 .u64 (a:Int) (b:Int)=((a ||| b:Nat):Int):=by
 show intOf (bif Nat.blt a 18446744073709551616&&Nat.blt b 18446744073709551616 then some (.int .u64 (.ofNat (Nat.lor a b)))else _)=_
 rw[show(Nat.blt a 18446744073709551616)=true by simpa using ha,show(Nat.blt b 18446744073709551616)=true by simpa using hb];rfl
theorem ZG{a b:Nat}(ha:a<cN)(hb:b<cN):Eb .u64 (a:Int) (b:Int)=((a ^^^ b:Nat):Int):=by
 show intOf (bif Nat.blt a 18446744073709551616&&Nat.blt b 18446744073709551616 then some (.int .u64 (.ofNat (Nat.xor a b)))else _)=_
 rw[show(Nat.blt a 18446744073709551616)=true by simpa using ha,show(Nat.blt b 18446744073709551616)=true by simpa using hb];rfl
theorem LP{y:Nat}(hy:y<cN):np .u64 (y:Int) 63=((y % 64:Nat):Int):=by
 have:=Cj y 63 hy (by decide)
 rw[show(63:Nat)=2 ^ 6 - 1 from rfl,Nat.and_two_pow_sub_one_eq_mod]at this
 exact this
theorem JL{k:Nat}(h:k<64):s5 k 64=k:=by unfold s5;rw[show Nat.ble k 64=true by simp;omega];rfl
theorem UB{x k:Nat}(h:k<64):tP .u64 (x:Int) (k:Int)=((2 ^ k*x % cN:Nat):Int):=by
 show na .u64 (Int.mul (x:Int) (Int.ofNat (2 ^ s5 k 64)))=_
 rw[JL h,Nat.mul_comm]
 exact ZF (x*2 ^ k)
theorem JM{x k:Nat}(h:k<64):px .u64 (x:Int) (k:Int)=((x / 2 ^ k:Nat):Int):=by
 show Int.fdiv (x:Int) ((2 ^ s5 k 64:Nat):Int)=_
 rw[JL h,Int.fdiv_eq_ediv_of_nonneg _ (Int.natCast_nonneg _)]
 exact(Int.natCast_ediv _ _).symm
theorem vK{x:Nat}(h:x<18446744073709551616):cb .i64 (x:Int)=El x:=by
 show((x:Int)+9223372036854775808) % 18446744073709551616 - 9223372036854775808=_
 unfold El
 split<;>omega
theorem ajV{x k:Nat}(hx:x<cN)(h:k<64):cb .u64 (px .i64 (cb .i64 (x:Int)) (k:Int))=(((El x / 2 ^ k) % 18446744073709551616).toNat:Int):=by
 rw[vK hx]
 show(Int.fdiv (El x) ((2 ^ s5 k 64:Nat):Int)) % 18446744073709551616=_
 rw[JL h,Int.fdiv_eq_ediv_of_nonneg _ (Int.natCast_nonneg _)]
 have e:((2 ^ k:Nat):Int)=2 ^ k:=by rw[Int.natCast_pow];rfl
 rw[e]
 have:=Int.emod_nonneg (El x / 2 ^ k) (show(18446744073709551616:Int)≠0 by decide)
 omega
theorem b2i(c:Bool):(bif c then(1:Int)else 0)=((JG c:Nat):Int):=by cases c<;>rfl
theorem JN{x:Nat}(h:x<18446744073709551616):cb .u64 (cb .i64 (x:Int))=(x:Int):=by
 rw[vK h]
 show El x % 18446744073709551616=_
 unfold El
 split<;>omega
theorem afc{x y:Nat}(hx:x<18446744073709551616)(hy:y<18446744073709551616):(El x=El y)=(x=y):=by
 apply propext
 unfold El
 constructor
 ·intro h;split at h<;>split at h<;>omega
 ·rintro rfl;rfl
theorem DH(x:Nat):cb .u32 (x:Int)=((x % 4294967296:Nat):Int):=(Int.natCast_emod x 4294967296).symm
theorem FC{x:Nat}(h:x<cN):U (x:Int):=by
 have h:x<18446744073709551616:=h
 exact⟨by omega,by omega⟩
theorem asu{op:Nat}{x y z:Nat}{s:List Nat}(hx:x<cN)(hy:y<cN)(h:Kk op (y::x::s)=some (z::s))(h3:op=124∨op=125∨op=126∨op=131∨op=132∨op=133∨op=134∨op=135∨op=136∨op=81∨op=83∨op=84∨op=85):(m11 ((op:Int),())).1=2/\m12 ((op:Int),(x:Int),(y:Int),())=((z:Int),0,())/\z<cN/\Num (op:Int):=by
 have N: ∀ o:Int,(69<=o/\o<=200)->Num o:=fun o h=>⟨by omega⟩
 have y6:=Nat.mod_lt y (show 0<64 by decide)
 rcases h3 with rfl|rfl|rfl|rfl|rfl|rfl|rfl|rfl|rfl|rfl|rfl|rfl|rfl
 ·cases h;refine⟨Nu.2,?_,Nat.mod_lt _ (by decide),N _ (by decide)⟩
  rw[show((124:Nat):Int)=124 from rfl,(asi _ _).2]
  exact congrArg (fun z=>(z,(0:Int),())) (ZF (x+y))
 ·cases h;refine⟨Nv.2,?_,Nat.mod_lt _ (by decide),N _ (by decide)⟩
  rw[show((125:Nat):Int)=125 from rfl,(asj _ _).2]
  refine congrArg (fun z=>(z,(0:Int),())) ?_
  have hy:y<18446744073709551616:=hy
  show((x:Int) - (y:Int)) % 18446744073709551616=(((x+18446744073709551616 - y) % 18446744073709551616:Nat):Int)
  omega
 ·cases h;refine⟨Nw.2,?_,Nat.mod_lt _ (by decide),N _ (by decide)⟩
  rw[show((126:Nat):Int)=126 from rfl,(asl _ _).2]
  exact congrArg (fun z=>(z,(0:Int),())) (ZF (x*y))
 ·cases h;refine⟨Ny.2,?_,Nat.and_lt_two_pow (n:=64) _ hy,N _ (by decide)⟩
  rw[show((131:Nat):Int)=131 from rfl,(asm _ _).2,Cj x y hx hy]
 ·cases h;refine⟨Nz.2,?_,Nat.or_lt_two_pow (n:=64) hx hy,N _ (by decide)⟩
  rw[show((132:Nat):Int)=132 from rfl,(asn _ _).2,UA hx hy]
 ·cases h;refine⟨NA.2,?_,Nat.xor_lt_two_pow (n:=64) hx hy,N _ (by decide)⟩
  rw[show((133:Nat):Int)=133 from rfl,(aso _ _).2,ZG hx hy]
 ·cases h;refine⟨NB.2,?_,Nat.mod_lt _ (by decide),N _ (by decide)⟩
  rw[show((134:Nat):Int)=134 from rfl,(asp _ _ (FC hy)).2,LP hy,UB y6]
 ·cases h;refine⟨NC.2,?_,?_,N _ (by decide)⟩
  ·rw[show((135:Nat):Int)=135 from rfl,(asq _ _ (FC hy)).2,LP hy,ajV hx y6]
  ·have:=Int.emod_lt_of_pos (El x / 2 ^ (y % 64)) (show(0:Int)<18446744073709551616 by decide)
   show _<18446744073709551616
   omega
 ·cases h;refine⟨ND.2,?_,Nat.lt_of_le_of_lt (Nat.div_le_self _ _) hx,N _ (by decide)⟩
  rw[show((136:Nat):Int)=136 from rfl,(asr _ _ (FC hy)).2,LP hy,JM y6]
 ·cases h;refine⟨Zz.2,?_,by cases decide (x=y)<;>decide,N _ (by decide)⟩
  rw[show((81:Nat):Int)=81 from rfl,(o81 _ _).2,vK hx,vK hy,b2i]
  simp only[afc hx hy]
 ·cases h;refine⟨ZA.2,?_,by cases decide (El x<El y)<;>decide,N _ (by decide)⟩
  rw[show((83:Nat):Int)=83 from rfl,(o83 _ _).2,vK hx,vK hy,b2i]
 ·cases h;refine⟨ZB.2,?_,by cases decide (x<y)<;>decide,N _ (by decide)⟩
  rw[show((84:Nat):Int)=84 from rfl,(o84 _ _).2,JN hx,JN hy,b2i]
  simp only[Int.ofNat_lt]
 ·cases h;refine⟨ZC.2,?_,by cases decide (El y<El x)<;>decide,N _ (by decide)⟩
  rw[show((85:Nat):Int)=85 from rfl,(o85 _ _).2,vK hx,vK hy,b2i]
theorem asv{op:Nat}{x z:Nat}{s:List Nat}(hx:x<cN)(h:Kk op (x::s)=some (z::s))(h1:op=69∨op=80∨op=167∨op=173):(m11 ((op:Int),())).1=1/\m13 ((op:Int),(x:Int),())=((z:Int),0,())/\z<cN/\Num (op:Int):=by
 have N: ∀ o:Int,(69<=o/\o<=200)->Num o:=fun o h=>⟨by omega⟩
 have cc:cb .u64 (cb .u32 (x:Int))=((x % 4294967296:Nat):Int):=by
  rw[DH]
  exact wrap_u64 (by omega) (by omega)
 rcases h1 with rfl|rfl|rfl|rfl
 ·cases h;refine⟨ZD.2,?_,by cases decide (x % 4294967296=0)<;>decide,N _ (by decide)⟩
  rw[show((69:Nat):Int)=69 from rfl,(o69 _).2,DH,b2i]
  have:(((x % 4294967296:Nat):Int)=0)=(x % 4294967296=0):=propext (by omega)
  simp only[this]
 ·cases h;refine⟨ZE.2,?_,by cases decide (x=0)<;>decide,N _ (by decide)⟩
  rw[show((80:Nat):Int)=80 from rfl,(o80 _).2,b2i]
  have:((x:Int)=0)=(x=0):=propext (by omega)
  simp only[this]
 ·cases h;refine⟨NF.2,?_,by show _<18446744073709551616;omega,N _ (by decide)⟩
  rw[show((167:Nat):Int)=167 from rfl,(ass _).2,cc]
 ·cases h;refine⟨NG.2,?_,by show _<18446744073709551616;omega,N _ (by decide)⟩
  rw[show((173:Nat):Int)=173 from rfl,(ast _).2,cc]
end Go.Proofs.Vq

noncomputable section
namespace Go.Proofs.Vq
open Go.Ab Go.Ab.Lf Go.Proofs.Sw
set_option maxRecDepth 100000
def toC(b:Int):Sc->den oi
 | .g a=>(32,nz .i64 b (a:Int),0)
 | .s a=>(33,nz .i64 b (a:Int),0)
 | .k n=>(66,0,(n:Int))
 | .o op=>((op:Int),0,0)
def UC(op:Nat):Bool:=Nat.beq op 27||(List.elem op [124,125,126,131,132,133,134,135,136,81,83,84,85]||List.elem op [69,80,167,173])
def LQ(N:Nat):Sc->Bool
 | .g a=>Nat.blt a N
 | .s a=>Nat.blt a N
 | .k n=>Nat.blt n cN
 | .o op=>UC op
def Ap(st:List Nat):List Int:=st.reverse.map fun(n:Nat)=>(n:Int)
theorem pM(v:Nat)(st:List Nat):Ap (v::st)=Ap st++[(v:Int)]:=by unfold Ap;simp
theorem z6(st:List Nat):(Ap st).length=st.length:=by unfold Ap;simp
abbrev cX(f0:den pn)(x:xA):cf rF:=cL x.r f0 x.f x.pc x.st x.lo
theorem adP{pc:Nat}{c:Sc}{l:List Sc}(h:pc+(c::l).length<=100000):nz .i64 (pc:Int) 1=((pc+1:Nat):Int):=Zo (by have:(c::l).length=l.length+1:=rfl;omega)
theorem ixC{b a:Nat}(hb:b<=100000)(ha:a<100000):nz .i64 (b:Int) (a:Int)=((b+a:Nat):Int):=(wrap_i64 (by omega) (by omega)).trans (by omega)
section
variable (g:Cg){f0:den pn}{cs:List (den oi)}(Qf:cs=f0.2.2.2.2.2.1){b N:Nat}(hb:b<=100000)
theorem ZH: ∀ {op:Nat} {st tB:List Nat},Kk op st=some tB->tB.length<=st.length:=by
 intro op st tB h
 unfold Kk at h
 split at h<;>first|(cases h;simp;done)|cases h
include Qf hb
theorem LS{r:List (den oi)}{q:List Int->List Pl}: ∀ (l:List Sc) (pc:Nat) (x:xA) (st:List Nat) (lo:Nat->Nat) (tB:List Nat) (nr:Nat->Nat),run l st lo=some (tB,nr)->(∀ c,c∈l->LQ N c=true)->(∀ v,v∈st->v<cN)->(∀ a,a<N->lo a<cN)->
 cs=x.f.2.2.2.2.2.1->x.r.err=0->x.pc=(pc:Int)->pc+l.length<=100000->cs.drop pc=l.map (toC (b:Int))++r->x.st=Ap st->st.length+l.length<=100000->b+N<=x.lo.length->N<=100000->(∀ a,a<N->x.lo.getD (b+a) 0=(lo a:Int))->
 (∀ sx,sx.length=x.lo.length->(∀ a,a<N->sx.getD (b+a) 0=(nr a:Int))->uQ (BN g) (cp rF (cX f0 {x with st:=Ap tB,lo:=sx,pc:=((pc+l.length:Nat):Int)})) 0 (q sx))-> ∃ sx,uQ (BN g) (cp rF (cX f0 x)) 0 (q sx)
 | [],pc,x,st,lo,tB,nr,hr,hc,hs,hl,hf,he,hp,hpc,hd,vj,oG,Qc,hN,DP,K=>by
  cases hr
  have h:=K x.lo rfl DP
  have e:({x with st:=Ap st,lo:=x.lo,pc:=((pc+([]:List Sc).length:Nat):Int)}:xA)=x:=by
   obtain⟨a,b,c,d,e⟩:=x
   have vj:d=Ap st:=vj
   have hp:c=(pc:Int):=hp
   subst vj;subst hp
   rfl
  rw[e]at h
  exact⟨_,h⟩
 |c::l,pc,x,st,lo,tB,nr,hr,hc,hs,hl,hf,he,hp,hpc,hd,vj,oG,Qc,hN,DP,K=>by
  have hc0:=hc c List.mem_cons_self
  have pO: ∀ d,d∈l->LQ N d=true:=fun d hd=>hc d (List.mem_cons_of_mem _ hd)
  have KT:cs.drop pc=toC (b:Int) c::(l.map (toC (b:Int))++r):=hd
  have hd1:=abR KT
  have ll:(c::l).length=l.length+1:=rfl
  have kp:pc+(c::l).length=pc+1+l.length:=by rw[ll];omega
  rw[kp]at K
  have hxl:x.st.length=st.length:=by rw[vj,z6]
  have fin: ∀ (x':xA) (st1:List Nat) (lo1:Nat->Nat),run l st1 lo1=some (tB,nr)->(∀ v,v∈st1->v<cN)->(∀ a,a<N->lo1 a<cN)->st1.length<=st.length+1->
   x'.f=x.f->x'.r=x.r->x'.pc=x.pc->x'.st=Ap st1->x'.lo.length=x.lo.length->(∀ a,a<N->x'.lo.getD (b+a) 0=(lo1 a:Int))->
   (Px g (cy Ao x ((toC (b:Int) c).1,(toC (b:Int) c).2.1,(toC (b:Int) c).2.2,()))=true/\Py g (cy Ao x ((toC (b:Int) c).1,(toC (b:Int) c).2.1,(toC (b:Int) c).2.2,()))=cy [] {x' with pc:=nz .i64 x'.pc 1} ())-> ∃ sx,uQ (BN g) (cp rF (cX f0 x)) 0 (q sx):=by
   intro x' st1 lo1 h1 h2 h3 h4 h5 h6 h7 h8 h9 h10 h11
   have t:=ajJ g hf he hp KT f0 Qf h11
   obtain⟨y,hy⟩: ∃ y:xA,y={x' with pc:=nz .i64 x'.pc 1}:=⟨_,rfl⟩
   rw[<-hy]at t
   obtain⟨sx,R⟩:=LS l (pc+1) y st1 lo1 tB nr h1 pO h2 h3 (by rw[hy];show cs=x'.f.2.2.2.2.2.1;rw[h5];exact hf) (by rw[hy];show x'.r.err=0;rw[h6];exact he) (by rw[hy];show nz .i64 x'.pc 1=_;rw[h7,hp];exact adP hpc) (by omega) hd1 (by rw[hy];exact h8) (by omega) (by rw[hy];show _<=x'.lo.length;rw[h9];exact Qc) hN (by rw[hy];exact h10) fun sx hl2 VM=>by
    have:=K sx (by rw[hl2,hy];exact h9) VM
    rw[hy]
    show uQ _ (cp rF (cL x'.r f0 x'.f _ _ _)) 0 _
    rw[h6,h5]
    exact this
   exact⟨sx,.more t R⟩
  cases c with
  |g a=>
   have ha:a<N:=by simpa[LQ]using hc0
   have hr:run l (lo a::st) lo=some (tB,nr):=hr
   refine fin {x with st:=x.st++[(lo a:Int)]} (lo a::st) lo hr (fun v hv=>?_) hl (by simp) rfl rfl rfl (by rw[pM,<-vj]) rfl DP ?_
   ·rcases List.mem_cons.1 hv with rfl|hv
    ·exact hl a ha
    ·exact hs v hv
   ·have:=P32 x 0 (b+a) (by omega) (by omega)
    rw[DP a ha,<-ixC hb (Nat.lt_of_lt_of_le ha hN)]at this
    exact xE g (o:=32) (by decide) (by decide) this
  |s a=>
   have ha:a<N:=by simpa[LQ]using hc0
   cases st with
   |nil=>cases hr
   |cons v st=>
    have hr:run l st (qK lo a v)=some (tB,nr):=hr
    have hs2:(Ap st).length<=100000:=by rw[z6];have:(v::st).length=st.length+1:=rfl;omega
    refine fin {x with st:=Ap st,lo:=x.lo.set (b+a) (v:Int)} st (qK lo a v) hr (fun v hv=>hs v (List.mem_cons_of_mem _ hv)) (fun c hc=>?_) (by simp;omega) rfl rfl rfl rfl List.length_set (fun c hc=>?_) ?_
    ·unfold qK
     split
     ·exact hs v List.mem_cons_self
     ·exact hl c hc
    ·show(x.lo.set (b+a) (v:Int)).getD (b+c) 0=_
     unfold qK
     by_cases e:c=a
     ·subst e
      rw[if_pos rfl,List.getD_eq_getElem?_getD,List.getElem?_set_self (by omega)]
      rfl
     ·rw[if_neg e,List.getD_eq_getElem?_getD,List.getElem?_set_ne (by omega),<-List.getD_eq_getElem?_getD]
      exact DP c hc
    ·have:=P33 x 0 (b+a) (by omega) (s:=Ap st) (w:=(v:Int)) (by rw[vj,pM]) (by omega)
     rw[<-ixC hb (Nat.lt_of_lt_of_le ha hN)]at this
     exact xE g (o:=33) (by decide) (by decide) this
  |k n=>
   have hn:n<cN:=by simpa[LQ]using hc0
   have hr:run l (n::st) lo=some (tB,nr):=hr
   refine fin {x with st:=x.st++[(n:Int)]} (n::st) lo hr (fun v hv=>?_) hl (by simp) rfl rfl rfl (by rw[pM,<-vj]) rfl DP ?_
   ·rcases List.mem_cons.1 hv with rfl|hv
    ·exact hn
    ·exact hs v hv
   ·exact xE g (o:=66) (by decide) (by decide) (P66 x 0 (n:Int) (by omega))
  |o op=>
   have hr:(match Kk op st with|some st=>run l st lo|none=>none)=some (tB,nr):=hr
   have hop:UC op=true:=hc0
   cases ho:Kk op st with
   |none=>rw[ho]at hr;cases hr
   |some st1=>
    rw[ho]at hr
    unfold UC at hop
    rw[Bool.or_eq_true,Bool.or_eq_true]at hop
    rcases hop with h27|h2|h1
    ·have h27:op=27:=Nat.eq_of_beq_eq_true h27
     subst h27
     have key: ∃ c y z s,st=c::y::z::s/\st1=(if c % 4294967296=0 then y else z)::s:=by
      match st,ho with
      |c::y::z::s,ho=>cases ho;exact⟨c,y,z,s,rfl,rfl⟩
     obtain⟨c,y,z,s,rfl,rfl⟩:=key
     have m: ∀ v,v∈(if c % 4294967296=0 then y else z)::s->v<cN:=fun v hv=>by
      rcases List.mem_cons.1 hv with rfl|hv
      ·split
       ·exact hs y (by simp)
       ·exact hs z (by simp)
      ·exact hs v (by simp[hv])
     have e:Ap (c::y::z::s)=Ap s++[(z:Int),(y:Int),(c:Int)]:=by rw[pM,pM,pM];simp
     have l3:(Ap s).length<=100000:=by rw[z6];have:(c::y::z::s).length=s.length+3:=rfl;omega
     have h:=P27 x 0 0 (s:=Ap s) (v:=(z:Int)) (w:=(y:Int)) (y:=(c:Int)) (by rw[vj,e]) (by omega)
     have ec:(bif decide (cb .u32 (c:Int)=0)then(y:Int)else(z:Int))=(((if c % 4294967296=0 then y else z):Nat):Int):=by
      rw[DH]
      by_cases q:c % 4294967296=0
      ·rw[if_pos q,dt (by omega)];rfl
      ·rw[if_neg q,df (by omega)];rfl
     rw[ec]at h
     exact fin {x with st:=Ap s++[(((if c % 4294967296=0 then y else z):Nat):Int)]} _ lo hr m hl (by simp) rfl rfl rfl (by rw[pM]) rfl DP (xE g (o:=27) (by decide) (by decide) h)
    ·have h2:=List.mem_of_elem_eq_true h2
     have key: ∃ y x0 z s,st=y::x0::s/\st1=z::s:=by
      simp only[List.mem_cons,List.not_mem_nil,or_false]at h2
      match st,ho with
      | [],ho=>rcases h2 with rfl|rfl|rfl|rfl|rfl|rfl|rfl|rfl|rfl|rfl|rfl|rfl|rfl<;>cases ho
      | [_],ho=>rcases h2 with rfl|rfl|rfl|rfl|rfl|rfl|rfl|rfl|rfl|rfl|rfl|rfl|rfl<;>cases ho
      |y::x0::s,ho=>rcases h2 with rfl|rfl|rfl|rfl|rfl|rfl|rfl|rfl|rfl|rfl|rfl|rfl|rfl<;>(cases ho;exact⟨y,x0,_,s,rfl,rfl⟩)
     obtain⟨y,x0,z,s,rfl,rfl⟩:=key
     obtain⟨a1,a2,a3,a4⟩:=asu (hs x0 (by simp)) (hs y (by simp)) ho (by simpa using h2)
     have m: ∀ v,v∈z::s->v<cN:=fun v hv=>by
      rcases List.mem_cons.1 hv with rfl|hv
      ·exact a3
      ·exact hs v (by simp[hv])
     have e:Ap (y::x0::s)=Ap s++[(x0:Int),(y:Int)]:=by rw[pM,pM];simp
     have l3:(Ap s).length<=100000:=by rw[z6];have:(y::x0::s).length=s.length+2:=rfl;omega
     have h:=ajI x 0 0 (o:=(op:Int)) (s:=Ap s) (v:=(x0:Int)) (w:=(y:Int)) a4 a1 he (FC (hs x0 (by simp))) (FC (hs y (by simp))) (by rw[vj,e]) (by omega)
     rw[a2]at h
     have er:({x.r with err:=(((z:Int),(0:Int),()):cf cT).2.1}:Rn)=x.r:=by rw[<-he]
     rw[er]at h
     obtain⟨N4⟩:=a4
     have o4: ¬ (op:Int)=0/\ ¬ (12<=(op:Int)/\(op:Int)<=17):=by
      simp only[List.mem_cons,List.not_mem_nil,or_false]at h2
      omega
     exact fin {x with st:=Ap s++[(z:Int)]} _ lo hr m hl (by simp) rfl rfl rfl (by rw[pM]) rfl DP (xE g o4.1 o4.2 h)
    ·have h1:=List.mem_of_elem_eq_true h1
     have key: ∃ x0 z s,st=x0::s/\st1=z::s:=by
      simp only[List.mem_cons,List.not_mem_nil,or_false]at h1
      match st,ho with
      | [],ho=>rcases h1 with rfl|rfl|rfl|rfl<;>cases ho
      |x0::s,ho=>rcases h1 with rfl|rfl|rfl|rfl<;>(cases ho;exact⟨x0,_,s,rfl,rfl⟩)
     obtain⟨x0,z,s,rfl,rfl⟩:=key
     obtain⟨a1,a2,a3,a4⟩:=asv (hs x0 (by simp)) ho (by simpa using h1)
     have m: ∀ v,v∈z::s->v<cN:=fun v hv=>by
      rcases List.mem_cons.1 hv with rfl|hv
      ·exact a3
      ·exact hs v (by simp[hv])
     have l3:(Ap s).length<=100000:=by rw[z6];have:(x0::s).length=s.length+1:=rfl;omega
     have h:=ar' x 0 0 (o:=(op:Int)) (s:=Ap s) (w:=(x0:Int)) a4 a1 he (FC (hs x0 (by simp))) (by rw[vj,pM]) (by omega)
     rw[a2]at h
     have er:({x.r with err:=(((z:Int),(0:Int),()):cf qS).2.1}:Rn)=x.r:=by rw[<-he]
     rw[er]at h
     have o4: ¬ (op:Int)=0/\ ¬ (12<=(op:Int)/\(op:Int)<=17):=by
      simp only[List.mem_cons,List.not_mem_nil,or_false]at h1
      omega
     exact fin {x with st:=Ap s++[(z:Int)]} _ lo hr m hl (by simp) rfl rfl rfl (by rw[pM]) rfl DP (xE g o4.1 o4.2 h)
end
end Go.Proofs.Vq

noncomputable section
namespace Go.Proofs.Vq
open Go.Ab Go.Ab.Lf
set_option maxRecDepth 100000
theorem Hd{f:List Pl->Lf.T Rs}(n:Nat)(st:Nat->List Pl)(p:Nat->Bool)(o0 o1:List Pl)
 (zP: ∀ j,j<n->(f (st j)).val=some (bif p j then .next (st (j+1))else .out 1 o1))(GS:(f (st n)).val=some (.out 0 o0)):uQ f (st 0) (bif (List.range n).all p then 0 else 1) (bif (List.range n).all p then o0 else o1):=by
 have key: ∀ (k j:Nat),j+k=n->uQ f (st j) (bif (List.range' j k).all p then 0 else 1) (bif (List.range' j k).all p then o0 else o1):=by
  intro k
  induction k with
  |zero=>
   intro j h
   have:j=n:=by omega
   subst this
   exact .last GS
  |succ k ih=>
   intro j h
   have hs:=zP j (by omega)
   rw[List.range'_succ,List.all_cons]
   cases hp:p j with
   |true=>rw[hp]at hs;rw[Bool.true_and];exact .more hs (ih (j+1) (by omega))
   |false=>rw[hp]at hs;exact .last hs
 rw[List.range_eq_range']
 exact key n 0 (by omega)
def JO(t:Int):Bool:=bif !decide (t=127)then !decide (t=126)else false
def PG(l:List Int):Bool:=(List.range l.length).all fun j=> !JO (l.getD j 0)
theorem c83(l:List Int)(hl:l.length<=1099511627776):k83 (l,())=true/\m83 (l,())=(PG l,()):=by
 refine nm (ca _) (ca _) ?_
 have r:=Hd (f:=Du) l.length (fun j=>cp xY (l,(l.length:Int),(j:Int),())) (fun j=> !JO (l.getD j 0)) (cp vF ()) (cp uv (false,())) (fun j hj=>by
  refine(abG l (l.length:Int) (j:Int)).trans ?_
  rw[uI hj,show nh (j:Int) (l.length:Int)=true from qg hj,Zo (by omega)]
  show cA true (bif JO (l.getD j 0)then _ else _)=_
  cases JO (l.getD j 0)<;>rfl) (by
  refine(abG l (l.length:Int) (l.length:Int)).trans ?_
  rw[rV (Nat.le_refl _)]
  rfl)
 have e:(t83 (l,())).val=cA (HK Du xY vF uv (l,(l.length:Int),0,())) (bif Fk Du xY (l,(l.length:Int),0,())then some (cp Jl (true,()))else some (cp Jl ((lo1 Du xY uv (l,(l.length:Int),0,())).1,()))):=ar3 l
 refine e.trans ?_
 unfold PG
 cases hb:(List.range l.length).all (fun j=> !JO (l.getD j 0))with
 |true=>
  rw[hb]at r
  obtain⟨q1,q2,_⟩:=Dt (f:=Du) (ti:=xY) (t0:=vF) (t1:=uv) (y:=()) (x:=(l,(l.length:Int),0,())) r
  rw[q1,q2];rfl
 |false=>
  rw[hb]at r
  obtain⟨q1,q2,q3⟩:=GV (f:=Du) (ti:=xY) (t0:=vF) (t1:=uv) (y:=(false,())) (x:=(l,(l.length:Int),0,())) r
  rw[q1,q2,q3];rfl
theorem afd(o:Int):YC (o,())=true:=by
 refine(rJ.km (P:=fun _:cf ou=>True) (ca _) (ca _) ?_).1
 rw[ajB]
 repeat' with_reducible first
  |exact rJ.ok (P:=fun _:cf ou=>True) trivial
  |refine rJ.bif (fun _=>?_) (fun _=>?_)
  |refine rJ.ck (JB o).1 ?_
 all_goals exact rJ.ok (P:=fun _:cf ou=>True) trivial
def tj(o:Int):Bool:=(YD (o,())).1
def pW(ns nf:Nat)(i lo:Int)(nc:Nat)(t:Int)(c:den oi):Bool:=
 bif decide (c.1=12)then bif decide (0<=(c.2.1:Int))then decide ((c.2.1:Int)<(nc:Int))else false
 else bif decide (c.1=13)then bif decide (0<=(c.2.1:Int))then decide ((c.2.1:Int)<(nc:Int))else false
 else bif decide (c.1=14)then bif decide (0<=(c.2.1:Int))then decide ((c.2.1:Int)<cz .i64 (cz .i64 (nc:Int) t) 1)else false
 else bif decide (c.1=16)then bif decide (0<=(c.2.1:Int))then decide ((c.2.1:Int)<(nf:Int))else false
 else bif decide (c.1=17)then bif decide (0<=(c.2.1:Int))then decide ((c.2.1:Int)<(ns:Int))else false
 else bif decide (c.1=32)then bif decide (0<=(c.2.1:Int))then decide ((c.2.1:Int)<nz .i64 i lo)else false
 else bif decide (c.1=33)then bif decide (0<=(c.2.1:Int))then decide ((c.2.1:Int)<nz .i64 i lo)else false
 else bif decide (c.1=34)then bif decide (0<=(c.2.1:Int))then decide ((c.2.1:Int)<nz .i64 i lo)else false
 else bif decide (c.1=35)then decide (0<=(c.2.1:Int))
 else bif decide (c.1=36)then decide (0<=(c.2.1:Int))
 else bif decide (c.1=256)then bif decide (0<=(c.2.1:Int))then bif decide ((c.2.1:Int)<=1048576)then decide ((c.2.2:Int)<=1048576)else false else false
 else tj c.1
theorem asy(ss:List (den nd))(fs:List (den pn))(p0 p1 p2 p3 p4:Int)(cs:List (den oi))(ms:List Int)(t:Int)(c:den oi):YG (ss,fs,p0,p1,p2,p3,p4,cs,ms,t,c.1,c.2.1,c.2.2,())=true/\YH (ss,fs,p0,p1,p2,p3,p4,cs,ms,t,c.1,c.2.1,c.2.2,())=(pW ss.length fs.length p2 p4 cs.length t c,()):=by
 refine nm (ca _) (ca _) ?_
 refine(ajC ss fs p0 p1 p2 p3 p4 cs ms t c.1 c.2.1 c.2.2).trans ?_
 rw[afd]
 unfold pW
 cases decide (c.1=12)with
 |true=>rfl
 |false=>
 cases decide (c.1=13)with
 |true=>rfl
 |false=>
 cases decide (c.1=14)with
 |true=>rfl
 |false=>
 cases decide (c.1=16)with
 |true=>rfl
 |false=>
 cases decide (c.1=17)with
 |true=>rfl
 |false=>
 cases decide (c.1=32)with
 |true=>rfl
 |false=>
 cases decide (c.1=33)with
 |true=>rfl
 |false=>
 cases decide (c.1=34)with
 |true=>rfl
 |false=>
 cases decide (c.1=35)with
 |true=>rfl
 |false=>
 cases decide (c.1=36)with
 |true=>rfl
 |false=>
 cases decide (c.1=256)with
 |true=>rfl
 |false=>rfl
end Go.Proofs.Vq
