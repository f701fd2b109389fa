import Derived.Test.YtbplobpobnagkaaGreatDoorSH
noncomputable section
namespace Go.Proofs.Vd
open Go.Ab Go.Ab.Lf
set_option maxRecDepth 100000
def xSl(a:List Int)(K x:Int):Int:=bif decide (a.getD K.toNat (ao (Ty.int .i64))=1)then qD .u64 x 4294967295 else x
def z5(K m n:Int):Bool:=bif decide (m<=K)then decide (K<n)else false
def qJ(v a:List Int)(K x:Int)(m:Nat):List Int:=bif z5 K 0 m then v.set K.toNat (xSl a K x)else v
theorem zq{K m n:Int}(h1:m<=K)(h2:K<n):z5 K m n=true:=by unfold z5;rw[dt h1,dt h2];rfl
theorem tR{K m n:Int}(h: ¬ (m<=K/\K<n)):z5 K m n=false:=by
 unfold z5
 by_cases h1:m<=K
 ·rw[dt h1,df (show ¬ K<n by omega)];rfl
 ·rw[df h1];rfl
theorem II(v a:List Int)(K x:Int)(m:Nat):(qJ v a K x m).length=v.length:=by
 unfold qJ
 cases z5 K 0 m
 ·rfl
 ·exact List.length_set ..
theorem abu(v a:List Int)(K x:Int)(o n:Nat)(h:o<=n)(hk:z5 K o n=false):qJ v a K x n=qJ v a K x o:=by
 unfold qJ
 by_cases h1:0<=K/\K<(n:Int)
 ·by_cases h2:K<(o:Int)
  ·rw[zq h1.1 h1.2,zq h1.1 h2]
  ·rw[zq (by omega) h1.2]at hk;cases hk
 ·rw[tR h1,tR (by omega)]
theorem U1(v a A R:List Int)(p:Int×den cJ)(K x:Int)(o n:Nat)(ho:A.length=o)(hn:n=o+(Ct p).length)(ha:a=(A++Ct p)++R)(hk:z5 K o n=true):qJ v a K x n=(bif decide (kZ p.1=127)then((qJ v a K x o).set K.toNat x).set K.toNat (qD .u64 x 4294967295)else(qJ v a K x o).set K.toNat x):=by
 have h1:(o:Int)<=K/\K<(n:Int):=by
  by_cases h:(o:Int)<=K/\K<(n:Int)
  ·exact h
  ·rw[tR h]at hk;cases hk
 have e0:qJ v a K x o=v:=by unfold qJ;rw[tR (by omega)];rfl
 have e1:qJ v a K x n=v.set K.toNat (xSl a K x):=by unfold qJ;rw[zq (by omega) h1.2];rfl
 rw[e0,e1]
 obtain⟨d,hd⟩: ∃ d:Nat,K.toNat=o+d/\d<(Ct p).length:=⟨K.toNat - o,by omega,by omega⟩
 have ea:a.getD K.toNat (ao (Ty.int .i64))=(Ct p).getD d (ao (Ty.int .i64)):=by
  rw[ha,hd.1,List.getD_eq_getElem?_getD,List.getD_eq_getElem?_getD,List.getElem?_append_left (by rw[List.length_append];omega),List.getElem?_append_right (by omega),ho,Nat.add_sub_cancel_left]
 unfold xSl
 rw[ea]
 have zu:=hd.2
 clear ea ha hn hk
 unfold Ct at zu ⊢
 rw[List.set_set]
 rcases PE p.1 with h|h|h
 ·rw[h]at zu ⊢
  have:d=0:=by have:d<1:=zu;omega
  rw[this];rfl
 ·rw[h]at zu ⊢
  have:d=0:=by have:d<1:=zu;omega
  rw[this];rfl
 ·rw[h]at zu ⊢
  have:d=0∨d=1:=by have:d<2:=zu;omega
  rcases this with e|e<;>rw[e]<;>rfl
theorem afF(x:Int)(v a b tab:List Int)(m1:List (den aH))(m2:List (den aS))(m3:List Int)(m4:List (den ak))(m5:List (den ak))(m6:List (den aC))(m7:List (den aR))(m8:Int)(m9:List (den aG))(bD:List (den aL))(bE:List (den aJ))(bs:List Int)(mo:Int)(hv:v.length<=1000000):gG rM (aA jk (x,v,a,b,tab,m1,m2,m3,m4,m5,m6,m7,m8,m9,bD,bE,bs,mo,v,(v.length:Int),((0:Nat):Int),())) 0 (aA jz (x,v,a,b,tab,m1,m2,m3,m4,m5,m6,m7,m8,m9,bD,bE,bs,mo,(v.length:Int),())):=by
 refine nc v.length (fun j=>aA jk (x,v,a,b,tab,m1,m2,m3,m4,m5,m6,m7,m8,m9,bD,bE,bs,mo,v,(v.length:Int),(j:Int),())) _ (fun j hj=>?_) ?_
 ·refine(PB x v a b tab m1 m2 m3 m4 m5 m6 m7 m8 m9 bD bE bs mo v (v.length:Int) (j:Int)).trans ?_
  have c1:aU (j:Int) (v.length:Int)=true:=bX hj
  rw[dt (show(j:Int)<(v.length:Int) by omega),df (show ¬ (j:Int)<0 by omega),df (show ¬ (v.length:Int)<=(j:Int) by omega),c1,Ep (by omega),dt (rfl:v.getD (j:Int).toNat (ao (Ty.int .u64))=_)]
  rfl
 ·refine(PB x v a b tab m1 m2 m3 m4 m5 m6 m7 m8 m9 bD bE bs mo v (v.length:Int) (v.length:Int)).trans ?_
  rw[df (show ¬ (v.length:Int)<(v.length:Int) by omega)]
  rfl
def r52(K x:Int)(l v a b tab:List Int)(m1:List (den aH))(m2:List (den aS))(m3:List Int)(m4:List (den ak))(m5:List (den ak))(m6:List (den aC))(m7:List (den aR))(m8:Int)(m9:List (den aG))(bD:List (den aL))(bE:List (den aJ))(bs:List Int)(mo:Int)(W:List Int)(n9 g xd:Int)(en:Int)(f:Int):Option (R2 (aj gz) (aj fP) (aj jy)):=
 bif bif !decide (f=n9)then true else !decide (bQ .i64 en f=xd)then some (.o1 (false,()))
 else bif bif decide (n9<=K)then decide (K<bw .i64 n9 xd)else false then aM (aU K (W.length:Int)) (aM (aU g (l.length:Int)) (bif decide (l.getD g.toNat (ao (Ty.int .i64))=127)then aM (aU K (Int.ofNat (W.set K.toNat x).length)) (some (.nx (K,x,l,v,a,b,tab,m1,m2,m3,m4,m5,m6,m7,m8,m9,bD,bE,bs,mo,(W.set K.toNat x).set K.toNat (qD .u64 x 4294967295),bw .i64 n9 xd,bw .i64 g 1,())))else some (.nx (K,x,l,v,a,b,tab,m1,m2,m3,m4,m5,m6,m7,m8,m9,bD,bE,bs,mo,W.set K.toNat x,bw .i64 n9 xd,bw .i64 g 1,()))))
 else some (.nx (K,x,l,v,a,b,tab,m1,m2,m3,m4,m5,m6,m7,m8,m9,bD,bE,bs,mo,W,bw .i64 n9 xd,bw .i64 g 1,()))
theorem adN{m n:Nat}(hm:m<=1000000)(hn:n<=1000000):bw .i64 (m:Int) (n:Int)=((m+n:Nat):Int):=by
 unfold bw
 rw[wrap_i64 (by omega) (by omega)]
 omega
theorem sbN{m n:Nat}(hm:m<=1000000)(hn:n<=1000000)(h:n<=m):bQ .i64 (m:Int) (n:Int)=((m - n:Nat):Int):=by
 unfold bQ
 rw[wrap_i64 (by omega) (by omega)]
 omega
theorem PF(K x:Int)(l v a b tab:List Int)(m1:List (den aH))(m2:List (den aS))(m3:List Int)(m4:List (den ak))(m5:List (den ak))(m6:List (den aC))(m7:List (den aR))(m8:Int)(m9:List (den aG))(bD:List (den aL))(bE:List (den aJ))(bs:List Int)(mo:Int)(j o n xd:Nat)(hj:j<l.length)(Hh:j<=1000000)(hn:n=o+xd)(hb:n<=v.length)(hv:v.length<=1000000)(p:Int×den cJ)(hl:l.getD j (ao (Ty.int .i64))=kZ p.1)(A R:List Int)(hA:A.length=o)(ha:a=(A++Ct p)++R)(hs:xd=(Ct p).length):r52 K x l v a b tab m1 m2 m3 m4 m5 m6 m7 m8 m9 bD bE bs mo (qJ v a K x o) (o:Int) (j:Int) (xd:Int) (n:Int) (o:Int)=some (.nx (K,x,l,v,a,b,tab,m1,m2,m3,m4,m5,m6,m7,m8,m9,bD,bE,bs,mo,qJ v a K x n,(n:Int),((j+1:Nat):Int),())):=by
 unfold r52
 rw[dt (rfl:(o:Int)=o),sbN (by omega) (by omega) (by omega),adN (by omega) (by omega),show n - o=xd by omega,dt (rfl:(xd:Int)=xd),Ep (by omega),<-hn]
 show(bif z5 K o n then _ else _)=_
 cases hk:z5 K o n with
 |false=>rw[abu v a K x o n (by omega) hk];rfl
 |true=>
  have h1:(o:Int)<=K/\K<(n:Int):=by
   by_cases h:(o:Int)<=K/\K<(n:Int)
   ·exact h
   ·rw[tR h]at hk;cases hk
  obtain⟨k,rfl⟩:=Int.eq_ofNat_of_zero_le (show 0<=K by omega)
  have c1:aU (k:Int) ((qJ v a (k:Int) x o).length:Int)=true:=bX (by rw[II];omega)
  have c2:aU (k:Int) (Int.ofNat ((qJ v a (k:Int) x o).set (k:Int).toNat x).length)=true:=bX (by rw[List.length_set,II];omega)
  have c3:aU (j:Int) (l.length:Int)=true:=bX hj
  rw[U1 v a A R p (k:Int) x o n hA (by omega) ha hk,c1,c2,c3,Int.toNat_natCast j,hl]
  cases decide (kZ p.1=127)<;>rfl
end Go.Proofs.Vd

noncomputable section
namespace Go.Proofs.Vd
open Go.Ab Go.Ab.Lf
set_option maxRecDepth 100000
def mu(L:List (Int×den cJ))(j:Nat):Nat:=(gA ((L.take j).map mD)).1.length
theorem U2(L:List (Int×den cJ))(j:Nat)(hj:j<=L.length):mu L j<=2*j:=by
 have:=(vj (L.map mD) j (by rw[List.length_map];exact hj)).1
 rw[<-List.map_take]at this
 exact this
structure AtS(L:List (Int×den cJ))(j:Nat)(p:Int×den cJ)(v a b:List Int):Prop where
 t0:(L.map fun p=>kZ p.1).getD j (ao (Ty.int .i64))=kZ p.1
 n0:mu L (j+1)=mu L j+(Ct p).length
 v0:mu L (j+1)<=v.length
 a0: ∃ A R,A.length=mu L j/\a=(A++Ct p)++R
 b0:b.getD j (ao (Ty.int .i64))=(mu L j:Int)
 l0:b.length=L.length
theorem QD(L:List (Int×den cJ))(j:Nat)(hj:j<L.length):AtS L j (L.getD j (ao (Ty.int .i64),ao cJ)) (gA (L.map mD)).1 (gA (L.map mD)).2.1 (gA (L.map mD)).2.2:=by
 obtain⟨p,hp⟩: ∃ p,p=L.getD j (ao (Ty.int .i64),ao cJ):=⟨_,rfl⟩
 have e1:(L.map fun p=>kZ p.1).getD j (ao (Ty.int .i64))=kZ p.1:=by
  rw[hp,List.getD_eq_getElem?_getD,List.getElem?_map,List.getD_eq_getElem?_getD,List.getElem?_eq_getElem hj];rfl
 have P:=abr (L.take (j+1)) (L.drop (j+1))
 rw[List.take_append_drop]at P
 have hq:=G3 (L.take j)
 have hL:=(G3 L).2
 have ht:=xC L j (ao (Ty.int .i64),ao cJ) hj
 rw[<-hp]at ht ⊢
 have hs:=IG (L.take j) p
 rw[<-ht]at hs
 obtain⟨⟨r1,h1⟩,⟨r2,h2⟩,⟨r3,h3⟩⟩:=P
 have on:mu L (j+1)=mu L j+(Ct p).length:=by
  unfold mu
  rw[hs]
  show((gA ((L.take j).map mD)).1++Qt p).length=_
  rw[List.length_append,(IF p).1]
 refine⟨e1,on,?_,⟨(gA ((L.take j).map mD)).2.1,r2,hq.1.symm,?_⟩,?_,hL⟩
 ·show _<=(gA (L.map mD)).1.length
  rw[h1,List.length_append]
  exact Nat.le_add_right _ _
 ·rw[h2,hs]
 ·rw[h3,hs]
  show(((gA ((L.take j).map mD)).2.2++[_])++r3).getD j _=_
  have Hh:(gA ((L.take j).map mD)).2.2.length=j:=by rw[hq.2,List.length_take];omega
  rw[List.getD_eq_getElem?_getD,List.getElem?_append_left (by rw[List.length_append,Hh];show j<j+1;omega),List.getElem?_append_right (by omega),Hh,Nat.sub_self]
  rfl
theorem afG(K x:Int)(L:List (Int×den cJ))(hl:L.length<=500)(tab:List Int)(m1:List (den aH))(m2:List (den aS))(m3:List Int)(m4:List (den ak))(m5:List (den ak))(m6:List (den aC))(m7:List (den aR))(m8:Int)(m9:List (den aG))(bD:List (den aL))(bE:List (den aJ))(bs:List Int)(mo:Int)(v a b:List Int)(hS:gA (L.map mD)=(v,a,b)):gG qy (aA gz (K,x,L.map (fun p=>kZ p.1),v,a,b,tab,m1,m2,m3,m4,m5,m6,m7,m8,m9,bD,bE,bs,mo,v,0,((0:Nat):Int),())) 0 (aA fP (K,x,v,a,b,tab,m1,m2,m3,m4,m5,m6,m7,m8,m9,bD,bE,bs,mo,qJ v a K x v.length,(v.length:Int),())):=by
 have at': ∀ j,j<L.length->AtS L j (L.getD j (ao (Ty.int .i64),ao cJ)) v a b:=fun j hj=>by
  have:=QD L j hj
  rw[hS]at this
  exact this
 have hv:mu L L.length=v.length:=by
  unfold mu
  rw[List.take_length,hS]
 have hle:=U2 L
 have hvl:v.length<=1000:=by have:=hle L.length (Nat.le_refl _);omega
 have w0:qJ v a K x 0=v:=by unfold qJ;rw[tR (by omega)];rfl
 have h0:mu L 0=0:=rfl
 have key:gG qy (aA gz (K,x,L.map (fun p=>kZ p.1),v,a,b,tab,m1,m2,m3,m4,m5,m6,m7,m8,m9,bD,bE,bs,mo,qJ v a K x (mu L 0),(mu L 0:Int),((0:Nat):Int),())) 0 (aA fP (K,x,v,a,b,tab,m1,m2,m3,m4,m5,m6,m7,m8,m9,bD,bE,bs,mo,qJ v a K x (mu L L.length),(mu L L.length:Int),())):=by
  refine nc L.length (fun j=>aA gz (K,x,L.map (fun p=>kZ p.1),v,a,b,tab,m1,m2,m3,m4,m5,m6,m7,m8,m9,bD,bE,bs,mo,qJ v a K x (mu L j),(mu L j:Int),(j:Int),())) _ (fun j hj=>?_) ?_
  ·have A:=at' j hj
   have An:j+1<L.length->b.getD (j+1) (ao (Ty.int .i64))=(mu L (j+1):Int):=fun h=>(at' (j+1) h).b0
   have Ae: ¬ j+1<L.length->mu L (j+1)=v.length:=fun h=>by rw[<-hv,show j+1=L.length by omega]
   have hlj:=hle (j+1) (by omega)
   generalize L.getD j (ao (Ty.int .i64),ao cJ)=p at A
   obtain⟨t,n,vv,⟨B,R,hB,ha⟩,bb,bl⟩:=A
   have ll:(L.map fun p=>kZ p.1).length=L.length:=List.length_map ..
   generalize (L.map fun p=>kZ p.1)=l at t ll
   generalize mu L (j+1)=o' at An Ae n vv hlj
   generalize mu L j=o at n hB bb
   refine(Pz (ti:=gz) (t0:=fP) (t1:=jy) (r:=.nx (K,x,l,v,a,b,tab,m1,m2,m3,m4,m5,m6,m7,m8,m9,bD,bE,bs,mo,qJ v a K x o',(o':Int),((j+1:Nat):Int),())) ?_)
   refine(PA K x l v a b tab m1 m2 m3 m4 m5 m6 m7 m8 m9 bD bE bs mo (qJ v a K x o) (o:Int) (j:Int)).trans ?_
   have c1:aU (j:Int) (l.length:Int)=true:=bX (by omega)
   have c2:aU (j:Int) (b.length:Int)=true:=bX (by omega)
   have fin:(bif decide (l.getD (j:Int).toNat (ao (Ty.int .i64))=123)then r52 K x l v a b tab m1 m2 m3 m4 m5 m6 m7 m8 m9 bD bE bs mo (qJ v a K x o) (o:Int) (j:Int) 2 (o':Int) (o:Int)else r52 K x l v a b tab m1 m2 m3 m4 m5 m6 m7 m8 m9 bD bE bs mo (qJ v a K x o) (o:Int) (j:Int) 1 (o':Int) (o:Int))=some (.nx (K,x,l,v,a,b,tab,m1,m2,m3,m4,m5,m6,m7,m8,m9,bD,bE,bs,mo,qJ v a K x o',(o':Int),((j+1:Nat):Int),())):=by
    rw[Int.toNat_natCast,t]
    have hd:=(IF p).2
    rw[(IF p).1]at hd
    cases hq:decide (kZ p.1=123)with
    |true=>
     rw[hq]at hd
     have hd:((Ct p).length:Int)=2:=hd
     exact PF K x l v a b tab m1 m2 m3 m4 m5 m6 m7 m8 m9 bD bE bs mo j o o' 2 (by omega) (by omega) (by omega) vv (by omega) p t B R hB ha (by omega)
    |false=>
     rw[hq]at hd
     have hd:((Ct p).length:Int)=1:=hd
     exact PF K x l v a b tab m1 m2 m3 m4 m5 m6 m7 m8 m9 bD bE bs mo j o o' 1 (by omega) (by omega) (by omega) vv (by omega) p t B R hB ha (by omega)
   rw[dt (show(j:Int)<(l.length:Int) by omega),df (show ¬ (j:Int)<0 by omega),df (show ¬ (b.length:Int)<=(j:Int) by omega)]
   by_cases hn:j+1<L.length
   ·have c3:aU (bw .i64 (j:Int) 1) (b.length:Int)=true:=by rw[Ep (by omega)];exact bX (by omega)
    have e3:b.getD (bw .i64 (j:Int) 1).toNat (ao (Ty.int .i64))=(o':Int):=by rw[Ep (by omega),Int.toNat_natCast];exact An hn
    have e4:b.getD (j:Int).toNat (ao (Ty.int .i64))=(o:Int):=by rw[Int.toNat_natCast];exact bb
    rw[show decide (bw .i64 (j:Int) 1<(b.length:Int))=true from dt (by rw[Ep (by omega)];omega),c3,c2,c1,e3,e4,cond_true,show(bif false then true else false:Bool)=false from rfl,cond_false,cond_true,kt rfl,kt rfl,kt rfl]
    unfold r52 at fin
    rw[c1]at fin
    exact fin
   ·have e4:b.getD (j:Int).toNat (ao (Ty.int .i64))=(o:Int):=by rw[Int.toNat_natCast];exact bb
    rw[show decide (bw .i64 (j:Int) 1<(b.length:Int))=false from df (by rw[Ep (by omega)];omega),c2,c1,e4,<-Ae hn,cond_true,show(bif false then true else false:Bool)=false from rfl,cond_false,cond_false,kt rfl,kt rfl]
    unfold r52 at fin
    rw[c1]at fin
    exact fin
  ·refine(Pz (ti:=gz) (t0:=fP) (t1:=jy) (r:=.o0 (K,x,v,a,b,tab,m1,m2,m3,m4,m5,m6,m7,m8,m9,bD,bE,bs,mo,qJ v a K x (mu L L.length),(mu L L.length:Int),())) ?_)
   refine(PA K x _ v a b tab m1 m2 m3 m4 m5 m6 m7 m8 m9 bD bE bs mo _ _ (L.length:Int)).trans ?_
   rw[df (show ¬ (L.length:Int)<((L.map fun p=>kZ p.1).length:Int) by rw[List.length_map];omega)]
   rfl
 rw[h0,w0,hv]at key
 exact key
end Go.Proofs.Vd

noncomputable section
namespace Go.Proofs.Vd
open Go.Ab Go.Ab.Lf
set_option maxRecDepth 100000
theorem PG(x:Int)(v a b tab:List Int)(m1:List (den aH))(m2:List (den aS))(m3:List Int)(m4:List (den ak))(m5:List (den ak))(m6:List (den aC))(m7:List (den aR))(m8:Int)(m9:List (den aG))(bD:List (den aL))(bE:List (den aJ))(bs:List Int)(mo:Int)(hv:v.length<=1000000):W4 (x,v,a,b,tab,m1,m2,m3,m4,m5,m6,m7,m8,m9,bD,bE,bs,mo,v,(v.length:Int),0,())=qj true:=by
 obtain⟨u1,u2,u3⟩:=rq (f:=rM) (ti:=jk) (t0:=jz) (t1:=kY) (afF x v a b tab m1 m2 m3 m4 m5 m6 m7 m8 m9 bD bE bs mo hv)
 obtain⟨X,hX⟩: ∃ X:aj jk,X=(x,v,a,b,tab,m1,m2,m3,m4,m5,m6,m7,m8,m9,bD,bE,bs,mo,v,(v.length:Int),0,()):=⟨_,rfl⟩
 have u1:r5 rM jk jz kY X=true:=by rw[hX];exact u1
 have u2:qK rM jk X=true:=by rw[hX];exact u2
 have u3:gM rM jk jz X=(x,v,a,b,tab,m1,m2,m3,m4,m5,m6,m7,m8,m9,bD,bE,bs,mo,(v.length:Int),()):=by rw[hX];exact u3
 rw[<-hX]
 unfold W4
 rw[u1,u2,u3]
 show PC (v.length:Int) x v a=qj true
 have e:EO (v.length:Int) v=true:=by
  unfold EO
  rw[df (show ¬ (v.length:Int)<0 by omega),dt (show(v.length:Int)<=(v.length:Int) by omega)]
  rfl
 unfold PC EP
 rw[e]
 rfl
theorem abv(K x:Int)(v a b tab:List Int)(m1:List (den aH))(m2:List (den aS))(m3:List Int)(m4:List (den ak))(m5:List (den ak))(m6:List (den aC))(m7:List (den aR))(m8:Int)(m9:List (den aG))(bD:List (den aL))(bE:List (den aJ))(bs:List Int)(mo:Int)(hv:v.length<=1000000)(ha:a.length=v.length):abo (K,x,v,a,b,tab,m1,m2,m3,m4,m5,m6,m7,m8,m9,bD,bE,bs,mo,qJ v a K x v.length,(v.length:Int),())=qj true:=by
 unfold abo
 show EP K x v a (bif decide (0<=K)then(bif xor false (decide (K<(v.length:Int)))then qj false else W4 (x,v,a,b,tab,m1,m2,m3,m4,m5,m6,m7,m8,m9,bD,bE,bs,mo,qJ v a K x v.length,(v.length:Int),0,()))else W4 (x,v,a,b,tab,m1,m2,m3,m4,m5,m6,m7,m8,m9,bD,bE,bs,mo,qJ v a K x v.length,(v.length:Int),0,())) (fun v'=>bif decide (0<=K)then(bif xor true (decide (K<(v.length:Int)))then qj false else W4 (x,v',a,b,tab,m1,m2,m3,m4,m5,m6,m7,m8,m9,bD,bE,bs,mo,qJ v a K x v.length,(v.length:Int),0,()))else qj false)=qj true
 unfold EP
 by_cases hk:0<=K/\K<(v.length:Int)
 ·obtain⟨k,rfl⟩:=Int.eq_ofNat_of_zero_le hk.1
  have n0:EO (k:Int) v=false:=by
   unfold EO
   rw[df (show ¬ (k:Int)<0 by omega),df (show ¬ (v.length:Int)<=(k:Int) by omega)]
   rfl
  have c1:aU (k:Int) (a.length:Int)=true:=bX (by omega)
  have c2:aU (k:Int) (v.length:Int)=true:=bX (by omega)
  have ew:qJ v a (k:Int) x v.length=v.set (k:Int).toNat (xSl a (k:Int) x):=by unfold qJ;rw[zq hk.1 hk.2];rfl
  have fin:=PG x (v.set (k:Int).toNat (xSl a (k:Int) x)) a b tab m1 m2 m3 m4 m5 m6 m7 m8 m9 bD bE bs mo (by rw[List.length_set];exact hv)
  rw[List.length_set]at fin
  rw[n0,c1,c2,dt hk.1,dt hk.2,ew,cond_false,kt rfl,kt rfl,kt rfl]
  dsimp only
  rw[cond_true,cond_true,show(xor true true)=false from rfl,cond_false,cond_false]
  unfold xSl at fin ⊢
  cases h:decide (a.getD (k:Int).toNat (ao (Ty.int .i64))=1)with
  |true=>rw[h]at fin;exact fin
  |false=>rw[h]at fin;exact fin
 ·have n0:EO K v=true:=by
   unfold EO
   by_cases h:K<0
   ·rw[dt h];rfl
   ·rw[df h,dt (show(v.length:Int)<=K by omega)];rfl
  have ew:qJ v a K x v.length=v:=by unfold qJ;rw[tR hk];rfl
  rw[n0,cond_true,ew,PG x v a b tab m1 m2 m3 m4 m5 m6 m7 m8 m9 bD bE bs mo hv]
  by_cases h:0<=K
  ·rw[dt h,df (show ¬ K<(v.length:Int) by omega)];rfl
  ·rw[df h];rfl
theorem afH(V:ByteArray->Bool)(ty:List Int)(bY:List (den cJ))(kd K x:Int):(ty5 V (ty,bY,kd,K,x,())).val=some (aA zZ (true,()))∨(tz5 V (ty,bY,kd,K,x,())).val=some (aA EN (true,())):=by
 have hl:(zS ty bY).length<=500:=by rw[G4];omega
 have q0:=lM (f:=rL) (ti:=gY) (to:=fO) (afE ty bY K x ([([],[])]) ([]) ([0]) ([((3:Int),(-1:Int))]) ([((1:Int),(-1:Int))]) ([]) (-1) ([(eC 65 1 0,[0])]) ([([],[iC 11 0 0])]) ([(eC 65 4 0,[5])]))
 generalize zS ty bY=L at hl q0
 obtain⟨G,hG⟩: ∃ G,G=L.map mD:=⟨_,rfl⟩
 have gl:G.length<=500:=by rw[hG,List.length_map];exact hl
 have gC': ∀ g,g∈G->gC g:=fun g hg=>by
  rw[hG]at hg
  obtain⟨p,_,rfl⟩:=List.mem_map.1 hg
  exact abq p
 rw[<-hG]at q0
 have z1:rk rL gY fO (x0S ty bY K x)=true:=q0.1
 have z2:gM rL gY fO (x0S ty bY K x)=(K,x,[([],[])],[],[0],[((3:Int),(-1:Int))],[((1:Int),(-1:Int))],G,[],-1,[(eC 65 1 0,[0])],[([],[iC 11 0 0])],[(eC 65 4 0,[5])],L.map (fun p=>kZ p.1),L.map Prod.snd,()):=q0.2
 obtain⟨k1,hc⟩:=aba V gl gC'
 rcases hc with h0|h4
 ·obtain⟨bs,_,n1,n2⟩:=akD V gl gC' h0
  obtain⟨p1,p2⟩:=akM L hl
  rw[<-hG]at p2
  have lS:=G3 L
  rw[<-hG]at lS
  obtain⟨v,a,b,hS⟩: ∃ v a b,gA G=(v,a,b):=⟨_,_,_,rfl⟩
  have hv:v.length<=1000000:=by
   have:=(vj G G.length (Nat.le_refl _)).1
   rw[List.take_length,hS]at this
   have:v.length<=2*G.length:=this
   omega
  rw[hS]at n2 p2 lS
  have ha:a.length=v.length:=lS.1.symm
  obtain⟨u1,u2,u3⟩:=rq (f:=qy) (ti:=gz) (t0:=fP) (t1:=jy) (afG K x L hl [-1,0,-1] ([([],[])]) ([]) ([0]) ([((3:Int),(-1:Int))]) ([((1:Int),(-1:Int))]) (G) ([]) (-1) ([(eC 65 1 0,[0])]) ([([],[iC 11 0 0])]) ([(eC 65 4 0,[5])]) bs (-1) v a b (by rw[<-hG];exact hS))
  obtain⟨X,hX⟩: ∃ X:aj gz,X=(K,x,L.map (fun p=>kZ p.1),v,a,b,[-1,0,-1],[([],[])],[],[0],[((3:Int),(-1:Int))],[((1:Int),(-1:Int))],G,[],-1,[(eC 65 1 0,[0])],[([],[iC 11 0 0])],[(eC 65 4 0,[5])],bs,-1,v,0,0,()):=⟨_,rfl⟩
  have u1:r5 qy gz fP jy X=true:=by rw[hX];exact u1
  have u2:qK qy gz X=true:=by rw[hX];exact u2
  have u3:gM qy gz fP X=(K,x,v,a,b,[-1,0,-1],[([],[])],[],[0],[((3:Int),(-1:Int))],[((1:Int),(-1:Int))],G,[],-1,[(eC 65 1 0,[0])],[([],[iC 11 0 0])],[(eC 65 4 0,[5])],bs,-1,qJ v a K x v.length,(v.length:Int),()):=by rw[hX];exact u3
  have fin:=abv K x v a b [-1,0,-1] ([([],[])]) ([]) ([0]) ([((3:Int),(-1:Int))]) ([((1:Int),(-1:Int))]) (G) ([]) (-1) ([(eC 65 1 0,[0])]) ([([],[iC 11 0 0])]) ([(eC 65 4 0,[5])]) bs (-1) hv ha
  refine .inr ((akJ V ty bY kd K x _ z2.symm (yS G) rfl _ n2.symm _ p2.symm X (by rw[hX])).trans ?_)
  dsimp only
  rw[z1,n1,k1,h0,p1,u1,u2,u3,fin]
  rfl
 ·obtain⟨n1,n2⟩:=afy V gl gC' h4
  refine .inl ((akK V ty bY kd K x _ z2.symm (yS G) rfl).trans ?_)
  rw[z1,n1,k1,h4,n2]
  rfl
end Go.Proofs.Vd
