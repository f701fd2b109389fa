import Derived.Test.YtcnkojgmochcgaaGreatDoorVqM
import Derived.Test.YtcnkojgmochcgaaGreatDoorVsL
import Derived.Test.YtcnkojgmochcgaaGreatDoorAb23
import Derived.OpenShut
import Derived.ChangeSlices
noncomputable section
namespace Go.Proofs.Vq
open Go.Ab Go.Ab.Lf
set_option maxRecDepth 100000
theorem g32(x:lT)(a:Nat)(n:Int)(ha:a<x.lo.length)(hs:x.st.length<=1000):Ko (aQ mC x (32,(a:Int),n,()))=true/\Kp (aQ mC x (32,(a:Int),n,()))=aQ [] {x with st:=x.st++[x.lo.getD a 0]} ():=by
 have hn:=lO x 0 1 (by decide) (by decide) (by decide) (by omega) (by omega) (by omega)
 refine cZ (ao _) (ao _) ?_
 refine(Md x 32 a n).trans ?_
 rw[dt rfl,hn.1,hn.2]
 show bK (cg (a:Int) (x.lo.length:Int)) (bK (roomy 8 (x.st.length+1)) (some (aX eK (aQ [] {x with st:=app x.st [x.lo.getD a 0]} ()))))=_
 rw[show cg (a:Int) (x.lo.length:Int)=true from gH ha,show roomy 8 (x.st.length+1)=true from fe (by decide) (by omega),bQ]
 rfl
theorem h32(x:lT)(a:Nat)(n:Int)(ha:a<x.lo.length)(hs:x.st.length<=1000):yN (aQ mC x (32,(a:Int),n,()))=true/\w5 (aQ mC x (32,(a:Int),n,()))=aQ [] {x with st:=x.st++[x.lo.getD a 0]} ():=by
 have hn:=g32 x a n ha hs
 refine cZ (ao _) (ao _) ?_
 rw[xm,hn.1,hn.2]
 show _=_
 kernel_rfl
theorem j32(g:Cg)(x:lT)(a:Nat)(n:Int)(ha:a<x.lo.length)(hs:x.st.length<=1000):uz g (aQ mC x (32,(a:Int),n,()))=true/\uA g (aQ mC x (32,(a:Int),n,()))=aQ [] {x with st:=x.st++[x.lo.getD a 0],pc:=bV .i64 x.pc 1} ():=by
 have hn:=h32 x a n ha hs
 refine cZ (ao _) (ao _) ?_
 rw[sP,hn.1,hn.2]
 show _=_
 kernel_rfl
end Go.Proofs.Vq

noncomputable section
namespace Go.Proofs.Vq
open Go.Ab Go.Ab.Lf
set_option maxRecDepth 100000
theorem g34(x:lT)(a:Nat)(n w:Int)(s:List Int)(hx:x.st=s++[w])(ha:a<x.lo.length)(hs:s.length<=1000):Ko (aQ mC x (34,(a:Int),n,()))=true/\Kp (aQ mC x (34,(a:Int),n,()))=aQ [] {x with lo:=x.lo.set a w} ():=by
 have hl:x.st.length=s.length+1:=by rw[hx,List.length_append];rfl
 have hn:=lO x 1 1 (by decide) (by decide) (by decide) (by omega) (by omega) (by omega)
 refine cZ (ao _) (ao _) ?_
 refine(Md x 34 a n).trans ?_
 rw[df (show ¬ (34:Int)=32 by decide),df (show ¬ (34:Int)=33 by decide),dt rfl,hn.1,hn.2]
 show bK (cg (aW .i64 (x.st.length:Int) 1) (x.st.length:Int)) (bK (cg (a:Int) (x.lo.length:Int)) (some (aX eK (aQ [] {x with lo:=x.lo.set a (x.st.getD (aW .i64 (x.st.length:Int) 1).toNat 0)} ()))))=_
 have e:aW .i64 (x.st.length:Int) 1=((s.length:Nat):Int):=by rw[hl];exact(wrap_i64 (by omega) (by omega)).trans (by omega)
 rw[e,show cg ((s.length:Nat):Int) (x.st.length:Int)=true from gH (by omega),show cg (a:Int) (x.lo.length:Int)=true from gH ha]
 have e2:x.st.getD ((s.length:Nat):Int).toNat 0=w:=by rw[hx];simp[List.getD_eq_getElem?_getD]
 rw[e2]
 rfl
theorem j34(g:Cg)(x:lT)(a:Nat)(n w:Int)(s:List Int)(hx:x.st=s++[w])(ha:a<x.lo.length)(hs:s.length<=1000):uz g (aQ mC x (34,(a:Int),n,()))=true/\uA g (aQ mC x (34,(a:Int),n,()))=aQ [] {x with lo:=x.lo.set a w,pc:=bV .i64 x.pc 1} ():=by
 have hn:=g34 x a n w s hx ha hs
 have hm:yN (aQ mC x (34,(a:Int),n,()))=true/\w5 (aQ mC x (34,(a:Int),n,()))=aQ [] {x with lo:=x.lo.set a w} ():=by
  refine cZ (ao _) (ao _) ?_
  rw[xm,hn.1,hn.2]
  show _=_
  kernel_rfl
 refine cZ (ao _) (ao _) ?_
 rw[sP,hm.1,hm.2]
 show _=_
 kernel_rfl
theorem j26(g:Cg)(x:lT)(a n w:Int)(s:List Int)(hx:x.st=s++[w])(hs:s.length<=1000):uz g (aQ mC x (26,a,n,()))=true/\uA g (aQ mC x (26,a,n,()))=aQ [] {x with st:=s,pc:=bV .i64 x.pc 1} ():=by
 have hl:x.st.length=s.length+1:=by rw[hx,List.length_append];rfl
 have hm:yN (aQ mC x (26,a,n,()))=true/\w5 (aQ mC x (26,a,n,()))=aQ [] {x with st:=s} ():=by
  have hn:=lO x 1 0 (by decide) (by decide) (by decide) (by omega) (by omega) (by omega)
  refine cZ (ao _) (ao _) ?_
  refine(xm x 26 a n).trans ?_
  rw[df (show ¬ (26:Int)=257 by decide),df (show ¬ (26:Int)=256 by decide),dt rfl,hn.1,hn.2]
  have e:aW .i64 (x.st.length:Int) 1=((s.length:Nat):Int):=by rw[hl];exact(wrap_i64 (by omega) (by omega)).trans (by omega)
  show bK (cg (aW .i64 (x.st.length:Int) 1) (x.st.length:Int)) (bK (cF 0 (aW .i64 (x.st.length:Int) 1) (x.st.length:Int)) (some (aX dJ (aQ [] {x with st:=List.take ((aW .i64 (x.st.length:Int) 1).toNat - 0) x.st} ()))))=_
  rw[e,show cg ((s.length:Nat):Int) (x.st.length:Int)=true from gH (by omega),show cF 0 ((s.length:Nat):Int) (x.st.length:Int)=true by unfold cF;simp;omega]
  have e2:List.take ((((s.length:Nat):Int)).toNat - 0) x.st=s:=by rw[hx];simp
  rw[e2]
  rfl
 refine cZ (ao _) (ao _) ?_
 rw[sP,hm.1,hm.2]
 show _=_
 kernel_rfl
end Go.Proofs.Vq

noncomputable section
namespace Go.Proofs.Vq
open Go.Ab Go.Ab.Lf
set_option maxRecDepth 100000
section
variable (g:Cg)
theorem uM{x:lT}{cs:List (den bZ)}(hf:cs=x.f.2.2.2.2.2.1)(he:x.r.err=0){pc:Nat}(hp:x.pc=(pc:Int)){c:den bZ}{r:List (den bZ)}(hd:cs.drop pc=c::r)(f0:den eJ)(K9:cs=f0.2.2.2.2.2.1){x':lT}
 (h:uz g (aQ mC x (c.1,c.2.1,c.2.2,()))=true/\uA g (aQ mC x (c.1,c.2.1,c.2.2,()))=aQ [] x' ()):
 (lU g (aX eL (cL x.r f0 x.f x.pc x.st x.lo))).val=some (.next (aX eL (cL x'.r f0 x'.f x'.pc x'.st x'.lo))):=by
 obtain⟨ee,hg⟩:=js hd (bJ bZ)
 refine(Mc g x.r f0 x.f x.pc x.st x.lo cs K9 c (by rw[hp,Int.toNat_natCast];exact hg.symm) (aQ mC x (c.1,c.2.1,c.2.2,())) rfl x' (by rw[h.2];rfl)).trans ?_
 rw[dt he,hp,dt (show(0:Int)<=(pc:Int) by omega),df (show ¬ (cs.length:Int)<=(pc:Int) by omega),show cg (pc:Int) (cs.length:Int)=true from gH ee,h.1]
 rfl
end
end Go.Proofs.Vq

noncomputable section
namespace Go.Proofs.Vq
open Go.Ab Go.Ab.Lf
set_option maxRecDepth 100000
section
variable (g:Cg)
abbrev cX(f0:den eJ)(x:lT):aL eL:=cL x.r f0 x.f x.pc x.st x.lo
theorem mv1{f0:den eJ}{cs:List (den bZ)}(K9:cs=f0.2.2.2.2.2.1){n j:Nat}(hj:j<n)(hn:n<=400){r:List (den bZ)}{q:List Pl}{pc:Nat}(Yf:pc<=100000){x:lT}(hf:cs=x.f.2.2.2.2.2.1)(he:x.r.err=0)(hp:x.pc=(pc:Int))(hd:cs.drop pc=Mk (n:Int) (j:Int)++r)(hl:x.lo.length=2*n)(hs:x.st.length<=900)
 (k:jQ (lU g) (aX eL (cX f0 {x with st:=x.st++[x.lo.getD j 0],lo:=x.lo.set (n+j) (x.lo.getD j 0),pc:=((pc+4:Nat):Int)})) 0 q):jQ (lU g) (aX eL (cX f0 x)) 0 q:=by
 have d1:cs.drop pc=((32:Int),(j:Int),(0:Int))::(((34:Int),((n+j:Nat):Int),(0:Int))::((26:Int),(0:Int),(0:Int))::((32:Int),((n+j:Nat):Int),(0:Int))::r):=by
  rw[hd,Int.natCast_add];rfl
 have d2:=sR d1
 have d3:=sR d2
 have d4:=sR d3
 obtain⟨w,hw⟩: ∃ w,w=x.lo.getD j 0:=⟨_,rfl⟩
 rw[<-hw]at k
 have p1:bV .i64 x.pc 1=((pc+1:Nat):Int):=by rw[hp];exact xB (by omega)
 have s1:=j32 g x j 0 (by omega) (by omega)
 rw[<-hw,p1]at s1
 obtain⟨x1,h1⟩: ∃ x1:lT,x1={x with st:=x.st++[w],pc:=((pc+1:Nat):Int)}:=⟨_,rfl⟩
 have t1:=uM g hf he hp d1 f0 K9 (x':=x1) (by rw[h1];exact s1)
 have s2:=j34 g x1 (n+j) 0 w x.st (by rw[h1]) (by rw[h1];show n+j<x.lo.length;omega) (by omega)
 obtain⟨x2,h2⟩: ∃ x2:lT,x2={x1 with lo:=x1.lo.set (n+j) w,pc:=bV .i64 x1.pc 1}:=⟨_,rfl⟩
 have t2:=uM g (x:=x1) (by rw[h1];exact hf) (by rw[h1];exact he) (by rw[h1]) d2 f0 K9 (x':=x2) (by rw[h2];exact s2)
 have q2:x2={x with st:=x.st++[w],lo:=x.lo.set (n+j) w,pc:=((pc+2:Nat):Int)}:=by rw[h2,h1];show lT.mk _ _ (bV .i64 ((pc+1:Nat):Int) 1) _ _=_;rw[show bV .i64 ((pc+1:Nat):Int) 1=((pc+2:Nat):Int)from xB (by omega)]
 have s3:=j26 g x2 0 0 w x.st (by rw[q2]) (by omega)
 obtain⟨x3,h3⟩: ∃ x3:lT,x3={x2 with st:=x.st,pc:=bV .i64 x2.pc 1}:=⟨_,rfl⟩
 have t3:=uM g (x:=x2) (by rw[q2];exact hf) (by rw[q2];exact he) (by rw[q2]) d3 f0 K9 (x':=x3) (by rw[h3];exact s3)
 have q3:x3={x with lo:=x.lo.set (n+j) w,pc:=((pc+3:Nat):Int)}:=by rw[h3,q2];show lT.mk _ _ (bV .i64 ((pc+2:Nat):Int) 1) _ _=_;rw[show bV .i64 ((pc+2:Nat):Int) 1=((pc+3:Nat):Int)from xB (by omega)]
 have l3:x3.lo=x.lo.set (n+j) w:=by rw[q3]
 have s4:=j32 g x3 (n+j) 0 (by rw[l3,List.length_set];omega) (by rw[q3];show x.st.length<=1000;omega)
 have e4:x3.lo.getD (n+j) 0=w:=by rw[l3,List.getD_eq_getElem?_getD,List.getElem?_set_self (by omega)];rfl
 rw[e4]at s4
 obtain⟨x4,h4⟩: ∃ x4:lT,x4={x3 with st:=x3.st++[w],pc:=bV .i64 x3.pc 1}:=⟨_,rfl⟩
 have t4:=uM g (x:=x3) (by rw[q3];exact hf) (by rw[q3];exact he) (by rw[q3]) d4 f0 K9 (x':=x4) (by rw[h4];exact s4)
 have q4:x4={x with st:=x.st++[w],lo:=x.lo.set (n+j) w,pc:=((pc+4:Nat):Int)}:=by rw[h4,q3];show lT.mk _ _ (bV .i64 ((pc+3:Nat):Int) 1) _ _=_;rw[show bV .i64 ((pc+3:Nat):Int) 1=((pc+4:Nat):Int)from xB (by omega)]
 rw[<-q4]at k
 exact .more t1 (.more t2 (.more t3 (.more t4 k)))
end
end Go.Proofs.Vq

noncomputable section
namespace Go.Proofs.Vq
open Go.Ab Go.Ab.Lf
set_option maxRecDepth 100000
section
variable (g:Cg)
theorem AR{f0:den eJ}{cs:List (den bZ)}(K9:cs=f0.2.2.2.2.2.1)(xs:List Int){n:Nat}(hx:xs.length=n)(hn:n<=400){r:List (den bZ)}{q:List Int->List Pl}: ∀ (k j pc:Nat) (x:lT),j+k=n->pc+4*k<=100000->cs=x.f.2.2.2.2.2.1->x.r.err=0->x.pc=(pc:Int)->cs.drop pc=uW (n:Int) k j++r->x.lo.length=2*n->x.st=xs.take j->(∀ i,i<n->x.lo.getD i 0=xs.getD i 0)->
 (∀ lo,jQ (lU g) (aX eL (cX f0 {x with st:=xs,lo:=lo,pc:=((pc+4*k:Nat):Int)})) 0 (q lo))-> ∃ lo,jQ (lU g) (aX eL (cX f0 x)) 0 (q lo)
 |0,j,pc,x,hj,_,hf,he,hp,hd,hl,hs,hi,K=>by
  have e:x={x with st:=xs,lo:=x.lo,pc:=((pc+4*0:Nat):Int)}:=by
   obtain⟨a,b,c,d,e⟩:=x
   have hs:d=xs.take j:=hs
   have hp:c=(pc:Int):=hp
   subst hs;subst hp
   rw[show xs.take j=xs from List.take_of_length_le (by omega)]
   rfl
  have h:=K x.lo
  rw[<-e]at h
  exact⟨x.lo,h⟩
 |k+1,j,pc,x,hj,hc,hf,he,hp,hd,hl,hs,hi,K=>by
  have uP:cs.drop pc=Mk (n:Int) (j:Int)++(uW (n:Int) k (j+1)++r):=by rw[hd,<-List.append_assoc];rfl
  obtain⟨y,hy⟩: ∃ y:lT,y={x with st:=x.st++[x.lo.getD j 0],lo:=x.lo.set (n+j) (x.lo.getD j 0),pc:=((pc+4:Nat):Int)}:=⟨_,rfl⟩
  obtain⟨lo,ih⟩:=AR K9 xs hx hn (r:=r) (q:=q) k (j+1) (pc+4) y (by omega) (by omega) (by rw[hy];exact hf) (by rw[hy];exact he) (by rw[hy]) (by rw[<-List.drop_drop,uP];rfl) (by rw[hy];show(x.lo.set _ _).length=_;rw[List.length_set];exact hl) (by
   rw[hy,hi j (by omega)]
   show x.st++[xs.getD j 0]=_
   rw[hs,List.take_add_one,List.getD_eq_getElem?_getD,List.getElem?_eq_getElem (by omega)]
   rfl) (fun i h=>by
   rw[hy]
   show(x.lo.set (n+j) _).getD i 0=_
   rw[List.getD_eq_getElem?_getD,List.getElem?_set_ne (by omega),<-List.getD_eq_getElem?_getD]
   exact hi i h) fun lo=>by
   have:=K lo
   rw[show pc+4*(k+1)=pc+4+4*k by omega]at this
   rw[hy]
   exact this
  refine⟨lo,mv1 g K9 (n:=n) (j:=j) (by omega) hn (by omega) hf he hp uP hl (by rw[hs,List.length_take];omega) ?_⟩
  rw[<-hy]
  exact ih
end
end Go.Proofs.Vq

noncomputable section
namespace Go.Proofs.Vq
open Go.Ab Go.Ab.Lf
set_option maxRecDepth 100000
theorem j15(g:Cg)(x:lT)(a n:Int)(ho:x.f.2.2.2.1=(x.st.length:Int))(hs:x.st.length<=1000):uz g (aQ mC x (15,a,n,()))=true/\uA g (aQ mC x (15,a,n,()))=aQ [] {x with pc:= -1} ():=by
 have hn:=lO x (x.st.length:Int) 0 (by omega) (by decide) (by decide) (by omega) (by omega) (by omega)
 rw[<-ho]at hn
 refine cZ (ao _) (ao _) ?_
 refine(sP g x 15 a n).trans ?_
 rw[df (show ¬ (15:Int)=0 by decide),df (show ¬ (15:Int)=12 by decide),df (show ¬ (15:Int)=13 by decide),df (show ¬ (15:Int)=14 by decide),dt rfl]
 show bK (kX (aQ [i64,i64] x (x.f.2.2.2.1,0,()))) (bif (aG (aQ [i64,i64] x (x.f.2.2.2.1,0,()))).1 then _ else _)=_
 rw[hn.1,hn.2]
 show bK (cF (aW .i64 (x.st.length:Int) x.f.2.2.2.1) (x.st.length:Int) (x.st.length:Int)) (some (aX fV (aQ [] {x with pc:= -1,st:=List.take ((x.st.length:Int).toNat - (aW .i64 (x.st.length:Int) x.f.2.2.2.1).toNat) (List.drop (aW .i64 (x.st.length:Int) x.f.2.2.2.1).toNat x.st)} ())))=_
 have e:aW .i64 (x.st.length:Int) x.f.2.2.2.1=0:=by rw[ho];exact(wrap_i64 (by omega) (by omega)).trans (by omega)
 rw[e,show cF 0 (x.st.length:Int) (x.st.length:Int)=true by unfold cF;simp]
 have e2:List.take ((x.st.length:Int).toNat - (0:Int).toNat) (List.drop (0:Int).toNat x.st)=x.st:=by simp
 rw[e2]
 rfl
end Go.Proofs.Vq

noncomputable section
namespace Go.Proofs.Vq
open Go.Ab Go.Ab.Lf
set_option maxRecDepth 100000
theorem rq{α:Type}{f:List Pl->Lf.T Rs}{l:List α}(st:Nat->List Pl)(o0:List Pl)
 (XU: ∀ j x r,l.drop j=x::r->(f (st j)).val=some (.next (st (j+1))))(abR:(f (st l.length)).val=some (.out 0 o0)):jQ f (st 0) 0 o0:=by
 have key: ∀ (r:List α) (j:Nat),l.drop j=r->j<=l.length->jQ f (st j) 0 o0:=by
  intro r
  induction r with
  |nil=>
   intro j h hj
   have:j=l.length:=by have:=List.drop_eq_nil_iff.1 h;omega
   subst this
   exact .last abR
  |cons x r ih=>
   intro j h hj
   have ee:j<l.length:=(js h x).1
   exact .more (XU j x r h) (ih (j+1) (sR h) ee)
 exact key l 0 rfl (Nat.zero_le _)
abbrev n126(n:Nat):List Int:=List.replicate n 126
theorem XV{n j:Nat}{d:Int}(h:j<n):(n126 n).getD j d=126:=by
 rw[List.getD_eq_getElem?_getD,List.getElem?_replicate,if_pos h];rfl
theorem K'(n:Nat)(hn:n<=100000):QW (n126 n,())=true/\QX (n126 n,())=(true,()):=by
 refine cZ (ao _) (ao _) ?_
 have hl:(n126 n).length=n:=List.length_replicate
 have r:jQ rN (aX l5 (n126 n,(n:Int),((0:Nat):Int),())) 0 (aX lI ()):=by
  refine rq (l:=n126 n) (fun j=>aX l5 (n126 n,(n:Int),(j:Int),())) _ (fun j x r e=>?_) ?_
  ·have hj:j<n:=by have:=(js e x).1;rwa [hl]at this
   refine(Me (n126 n) (n:Int) (j:Int)).trans ?_
   rw[dt (show(j:Int)<(n:Int) by omega),show cg (j:Int) ((n126 n).length:Int)=true from gH (by rw[hl];exact hj),Int.toNat_natCast,XV hj,xB (by omega)]
   rfl
  ·refine(Me (n126 n) (n:Int) ((n126 n).length:Int)).trans ?_
   rw[hl,df (show ¬ (n:Int)<(n:Int) by omega)]
   rfl
 obtain⟨q1,q2,_⟩:=q8 (f:=rN) (ti:=l5) (t0:=lI) (t1:=lJ) (y:=()) (x:=(n126 n,(n:Int),0,())) r
 refine(abG (n126 n)).trans ?_
 rw[hl]
 refine Eq.trans (b:=bK (xA rN l5 lI lJ (n126 n,(n:Int),0,())) (bif uT rN l5 (n126 n,(n:Int),0,())then some (aX wM (true,()))else some (aX wM ((iE rN l5 lJ (n126 n,(n:Int),0,())).1,())))) rfl ?_
 rw[q1,q2];rfl
section
variable (n o:Nat)(lo:Int)(cs:List (den bZ))
abbrev dz(n o:Nat):den cr:=(n126 n,n126 o)
abbrev dy(n o:Nat)(lo:Int)(cs:List (den bZ)):den eJ:=((-1:Int),(0:Int),(n:Int),(o:Int),lo,cs,[])
def Gz(n o:Nat)(lo:Int)(cs:List (den bZ))(c:den bZ):Prop:= ∀ t:Int,Pw ([dz n o],[dy n o lo cs],-1,0,(n:Int),(o:Int),lo,cs,[],t,c.1,c.2.1,c.2.2,())=true/\Px ([dz n o],[dy n o lo cs],-1,0,(n:Int),(o:Int),lo,cs,[],t,c.1,c.2.1,c.2.2,())=(true,())
variable {n o lo cs}
theorem XW(hc: ∀ c,c∈cs->Gz n o lo cs c)(hl:cs.length<=1099511627776):jQ rO (aX l6 (-1,0,(n:Int),(o:Int),lo,cs,[],[dz n o],[dy n o lo cs],cs,(cs.length:Int),((0:Nat):Int),())) 0 (aX lK ()):=by
 refine rq (l:=cs) (fun j=>aX l6 (-1,0,(n:Int),(o:Int),lo,cs,[],[dz n o],[dy n o lo cs],cs,(cs.length:Int),(j:Int),())) _ (fun j c r e=>?_) ?_
 ·obtain⟨e1,e2⟩:=js e (bJ bZ)
  have hm:c∈cs:=by
   have:c∈cs.drop j:=by rw[e];exact List.mem_cons_self
   exact List.mem_of_mem_drop this
  obtain⟨q1,q2⟩:=hc c hm (j:Int)
  refine(Mf (-1) 0 (n:Int) (o:Int) lo cs [] [dz n o] [dy n o lo cs] cs (cs.length:Int) (j:Int)).trans ?_
  have hg:cs.getD ((j:Int).toNat) (bJ bZ)=c:=by rw[Int.toNat_natCast];exact e2
  rw[Fi e1,show cg (j:Int) (cs.length:Int)=true from gH e1,xB (by omega)]
  rw[show(List.getD cs (j:Int).toNat (bJ ((Ty.int .i64).pair ((Ty.int .i64).pair (Ty.int .u64)))))=c from hg]
  rw[q1,q2]
  rfl
 ·refine(Mf (-1) 0 (n:Int) (o:Int) lo cs [] [dz n o] [dy n o lo cs] cs (cs.length:Int) (cs.length:Int)).trans ?_
  rw[Aa (Nat.le_refl _)]
  rfl
theorem abS(hc: ∀ c,c∈cs->Gz n o lo cs c)(hl:cs.length<=1099511627776)(h0:cs≠[])(h1:0<=lo)(h2:lo<=4096):YJ ([dz n o],[dy n o lo cs],-1,0,(n:Int),(o:Int),lo,cs,[],())=true/\YK ([dz n o],[dy n o lo cs],-1,0,(n:Int),(o:Int),lo,cs,[],())=(true,()):=by
 refine cZ (ao _) (ao _) ?_
 have hp:(0:Int)<(cs.length:Int):=by have:=List.length_pos_iff.2 h0;omega
 obtain⟨q1,q2,_⟩:=q8 (f:=rO) (ti:=l6) (t0:=lK) (t1:=lL) (y:=()) (x:=(-1,0,(n:Int),(o:Int),lo,cs,[],[dz n o],[dy n o lo cs],cs,(cs.length:Int),0,())) (XW hc hl)
 have e:=abH [dz n o] [dy n o lo cs] (-1) 0 (n:Int) (o:Int) lo cs []
 rw[dt hp,df (show ¬ lo<0 by omega),df (show ¬ 4096<lo by omega)]at e
 refine e.trans ?_
 have e1:decide ((n:Int)=Int.ofNat (List.length (([dz n o].getD (0:Int).toNat (bJ ((Ty.int .i64).aB.pair (Ty.int .i64).aB))).1)))=true:=decide_eq_true (by show(n:Int)=((n126 n).length:Int);rw[List.length_replicate])
 have e2:decide ((o:Int)=Int.ofNat (List.length (([dz n o].getD (0:Int).toNat (bJ ((Ty.int .i64).aB.pair (Ty.int .i64).aB))).2)))=true:=decide_eq_true (by show(o:Int)=((n126 o).length:Int);rw[List.length_replicate])
 rw[e1,e2]
 refine Eq.trans (b:=bK (xA rO l6 lK lL (-1,0,(n:Int),(o:Int),lo,cs,[],[dz n o],[dy n o lo cs],cs,(cs.length:Int),0,())) (bif uT rO l6 (-1,0,(n:Int),(o:Int),lo,cs,[],[dz n o],[dy n o lo cs],cs,(cs.length:Int),0,())then some (aX rP (true,()))else some (aX rP ((iE rO l6 lL (-1,0,(n:Int),(o:Int),lo,cs,[],[dz n o],[dy n o lo cs],cs,(cs.length:Int),0,())).1,())))) ?_ ?_
 ·show _=_
  kernel_rfl
 ·rw[q1,q2];rfl
theorem abT(hc: ∀ c,c∈cs->Gz n o lo cs c)(hl:cs.length<=1099511627776)(h0:cs≠[])(h1:0<=lo)(h2:lo<=4096)(hn:n<=100000)(ho:o<=100000):YL ([dz n o],[dy n o lo cs],())=true/\YM ([dz n o],[dy n o lo cs],())=(0,()):=by
 have XX:jQ f340 (aX fw ([dz n o],[dy n o lo cs],[dz n o],1,0,())) 0 (aX ec ([dz n o],[dy n o lo cs],())):=by
  have e0:=Mg [dz n o] [dy n o lo cs] [dz n o] 1 0
  have e1:=Mg [dz n o] [dy n o lo cs] [dz n o] 1 1
  refine .more (pl':=aX fw ([dz n o],[dy n o lo cs],[dz n o],1,1,())) (e0.trans ?_) (.last (e1.trans ?_))
  ·refine Eq.trans (b:=bK (QW (n126 n,())) (bif !(QX (n126 n,())).1 then some (.out 1 (aX gU (1,())))else bK (QW (n126 o,())) (bif !(QX (n126 o,())).1 then some (.out 1 (aX gU (1,())))else some (.next (aX fw ([dz n o],[dy n o lo cs],[dz n o],1,bV .i64 0 1,())))))) ?_ ?_
   ·show _=_
    kernel_rfl
   ·rw[(K' n hn).1,(K' n hn).2,(K' o ho).1,(K' o ho).2,show bV .i64 0 1=1 from by kernel_rfl];rfl
  ·show _=_
   kernel_rfl
 obtain⟨q1,q2,q3⟩:=q8 (f:=f340) (ti:=fw) (t0:=ec) (t1:=gU) (y:=([dz n o],[dy n o lo cs],())) (x:=([dz n o],[dy n o lo cs],[dz n o],1,0,())) XX
 have f:=abS hc hl h0 h1 h2
 have e0:=Mh [dz n o] [dy n o lo cs] 1 0
 have e1:=Mh [dz n o] [dy n o lo cs] 1 1
 have r:jQ f342 (aX jt ([dz n o],[dy n o lo cs],1,0,())) 0 (aX jT ()):=by
  have h:(f342 (aX jt ([dz n o],[dy n o lo cs],1,0,()))).val=bK (YJ ([dz n o],[dy n o lo cs],-1,0,(n:Int),(o:Int),lo,cs,[],())) (bif !(YK ([dz n o],[dy n o lo cs],-1,0,(n:Int),(o:Int),lo,cs,[],())).1 then some (.out 1 (aX iP (1,())))else some (.next (aX jt ([dz n o],[dy n o lo cs],1,bV .i64 0 1,())))):=by
   refine e0.trans ?_
   show _=_
   kernel_rfl
  rw[f.1,f.2,show bV .i64 0 1=1 from by kernel_rfl]at h
  refine .more h (.last (e1.trans ?_))
  show _=_
  kernel_rfl
 obtain⟨p1,p2,_⟩:=q8 (f:=f342) (ti:=jt) (t0:=jT) (t1:=iP) (y:=()) (x:=([dz n o],[dy n o lo cs],1,0,())) r
 refine cZ (ao _) (ao _) ?_
 refine(abI [dz n o] [dy n o lo cs]).trans ?_
 refine Eq.trans (b:=bK (xA f340 fw ec gU ([dz n o],[dy n o lo cs],[dz n o],1,0,())) (bif uT f340 fw ([dz n o],[dy n o lo cs],[dz n o],1,0,())then
  bK (xA f342 jt jT iP ((iE f340 fw ec ([dz n o],[dy n o lo cs],[dz n o],1,0,())).1,(iE f340 fw ec ([dz n o],[dy n o lo cs],[dz n o],1,0,())).2.1,((iE f340 fw ec ([dz n o],[dy n o lo cs],[dz n o],1,0,())).2.1.length:Int),0,())) (bif uT f342 jt ((iE f340 fw ec ([dz n o],[dy n o lo cs],[dz n o],1,0,())).1,(iE f340 fw ec ([dz n o],[dy n o lo cs],[dz n o],1,0,())).2.1,((iE f340 fw ec ([dz n o],[dy n o lo cs],[dz n o],1,0,())).2.1.length:Int),0,())then some (aX rQ (0,()))
   else some (aX rQ ((iE f342 jt iP ((iE f340 fw ec ([dz n o],[dy n o lo cs],[dz n o],1,0,())).1,(iE f340 fw ec ([dz n o],[dy n o lo cs],[dz n o],1,0,())).2.1,((iE f340 fw ec ([dz n o],[dy n o lo cs],[dz n o],1,0,())).2.1.length:Int),0,())).1,())))else some (aX rQ ((iE f340 fw gU ([dz n o],[dy n o lo cs],[dz n o],1,0,())).1,())))) ?_ ?_
 ·show _=_
  kernel_rfl
 ·rw[q1,q2,q3]
  show bK true (bK (xA f342 jt jT iP ([dz n o],[dy n o lo cs],1,0,())) (bif uT f342 jt ([dz n o],[dy n o lo cs],1,0,())then _ else _))=_
  rw[p1,p2]
  rfl
end
section
variable (sg:den cr)(fn:den eJ)(v sm fi tb nH:List Int)(mo:Int)(h:WY)(bad:Bool)
theorem Qj(h1:sg.1.length<=1099511627776)(h2:sg.2.length<=1099511627776):jQ sN (aX jW ([sg],[fn],[sg],jV (jU (iF [.bool,i64,i64])) ⟨v,sm,fi,tb,bR,nH,mo⟩ (nG (iF [.bool,i64,i64]) h (q9 [.bool,i64,i64] bR (bad,1,0,()))))) 0
 (aX gq ([sg],[fn],[sg],jV (jU (iF [.bool])) ⟨v,sm,fi,tb,bR,nH,mo⟩ (nG (iF [.bool]) h (q9 [.bool] bR (bad,()))))):=by
 have e0:=Gu v sm fi tb nH mo h bad bR 0 [sg] 1 [fn] [sg] sg rfl
 have e1:=Gu v sm fi tb nH mo h bad bR 1 [sg] 1 [fn] [sg] _ rfl
 rw[dt (show(0:Int)<1 by decide),show cg 0 (([sg]:List (den cr)).length:Int)=true from rfl,dt h1,dt h2,show bV .i64 0 1=1 from by kernel_rfl]at e0
 rw[df (show ¬ (1:Int)<1 by decide)]at e1
 exact .more e0 (.last e1)
theorem Qk(hl:fn.2.2.2.2.2.1.length<=1099511627776):jQ rh (aX ja (fm [i64,i64] ⟨[sg],[fn],⟨v,sm,fi,tb,bR,nH,mo⟩,h,bR,bad⟩ (1,0,()))) 0 (aX gu (fm [] ⟨[sg],[fn],⟨v,sm,fi,tb,bR,nH,mo⟩,h,bR,bad⟩ ())):=by
 have e0:=Gv ⟨[sg],[fn],⟨v,sm,fi,tb,bR,nH,mo⟩,h,bR,bad⟩ 1 0 fn rfl
 have e1:=Gv ⟨[sg],[fn],⟨v,sm,fi,tb,bR,nH,mo⟩,h,bR,bad⟩ 1 1 _ rfl
 rw[dt (show(0:Int)<1 by decide),show cg 0 (([fn]:List (den eJ)).length:Int)=true from rfl,dt hl,show bV .i64 0 1=1 from by kernel_rfl]at e0
 rw[df (show ¬ (1:Int)<1 by decide)]at e1
 exact .more e0 (.last e1)
theorem La(h1:sg.1.length<=1099511627776)(h2:sg.2.length<=1099511627776)(hl:fn.2.2.2.2.2.1.length<=1099511627776)(hk:YL ([sg],[fn],())=true)(hb:bad= !decide ((YM ([sg],[fn],())).1=0)):
 QZ ([sg],[fn],jV (jU []) ⟨v,sm,fi,tb,bR,nH,mo⟩ (nG [] h ()))=true/\m22 ([sg],[fn],jV (jU []) ⟨v,sm,fi,tb,bR,nH,mo⟩ (nG [] h ()))=fm [] ⟨[sg],[fn],⟨v,sm,fi,tb,bR,nH,mo⟩,h,bR,bad⟩ ():=by
 refine cZ (ao _) (ao _) ?_
 have q0:=q7 (Qj sg fn v sm fi tb nH mo h bad h1 h2)
 have q2:=q7 (Qk sg fn v sm fi tb nH mo h bad hl)
 refine(abM [sg] [fn] v sm fi tb nH mo h bad hb _ rfl _ q0.2.symm _ rfl).trans ?_
 rw[uB,hk]
 refine Eq.trans (b:=bK (uS sN jW gq ([sg],[fn],[sg],jV (jU (iF [.bool,i64,i64])) ⟨v,sm,fi,tb,bR,nH,mo⟩ (nG (iF [.bool,i64,i64]) h (q9 [.bool,i64,i64] bR (bad,1,0,()))))) (bK (uS rh ja gu (fm [i64,i64] ⟨[sg],[fn],⟨v,sm,fi,tb,bR,nH,mo⟩,h,bR,bad⟩ (1,0,()))) (some (aX yP (iE rh ja gu (fm [i64,i64] ⟨[sg],[fn],⟨v,sm,fi,tb,bR,nH,mo⟩,h,bR,bad⟩ (1,0,()))))))) ?_ ?_
 ·show _=_
  kernel_rfl
 ·rw[q0.1,q2.1,q2.2]
  rfl
end
end Go.Proofs.Vq

noncomputable section
namespace Go.Proofs.Vq
open Go.Ab Go.Ab.Lf
set_option maxRecDepth 100000
end Go.Proofs.Vq

noncomputable section
namespace Go.Proofs.Vq
open Go.Ab Go.Ab.Lf
set_option maxRecDepth 100000
theorem GA(m:yL)(f fu:Int)(az ty:List Int)(n i:Int):(rb (aX gI (fm [i64,i64,.aB u64,.aB i64,i64,i64] m (f,fu,az,ty,n,i,())))).val=
 bif decide (i<n)then(bK (cg i (ty.length:Int)) (bif decide (ty.getD i.toNat (bJ i64)=127)then(bK (cg i (az.length:Int)) (bK (cg i (az.length:Int)) (some (.next (aX gI (fm [i64,i64,.aB u64,.aB i64,i64,i64] m (f,fu,az.set i.toNat (NR .u64 (az.getD i.toNat (bJ u64)) 4294967295),ty,n,bV .i64 i 1,())))))))else some (.next (aX gI (fm [i64,i64,.aB u64,.aB i64,i64,i64] m (f,fu,az,ty,n,bV .i64 i 1,()))))))else some (.out 0 (aX fL (fm [i64,i64,.aB u64] m (f,fu,az,())))):=by
 show _=_
 kernel_rfl
section
variable (g:Cg)
end
end Go.Proofs.Vq

noncomputable section
namespace Go.Proofs.Vq
open Go.Ab Go.Ab.Lf
set_option maxRecDepth 100000
section
variable (g:Cg)
abbrev g1(g:Cg):Cg:=(Xx g,QY g)
end
end Go.Proofs.Vq

noncomputable section
namespace Go.Proofs.Vq
open Go.Ab Go.Ab.Lf
set_option maxRecDepth 100000
theorem Mm(a:List Int)(hl:a.length<=1099511627776): ∀ (r:List Int) (j:Nat),a.drop j=r->j<=a.length->jQ nI (aX kY (a,a,(j:Int),())) 0 (aX jv ())
 | [],j,hd,hj=>by
  have h1:=List.drop_eq_nil_iff.1 hd
  refine .last ((Gt a a (j:Int)).trans ?_)
  rw[Aa h1]
  rfl
 |v::r,j,hd,hj=>by
  obtain⟨h1,_⟩:=js hd 0
  have e:=Gt a a (j:Int)
  rw[Fi h1,show(cg (j:Int) (a.length:Int)&&cg (j:Int) (a.length:Int))=true by rw[show cg (j:Int) (a.length:Int)=true from gH h1];rfl,dt rfl,xB (by omega)]at e
  exact .more e (Mm a hl r (j+1) (sR hd) h1)
theorem Ql(a:List Int)(hl:a.length<=1099511627776):XA (a,a,())=true/\m25 (a,a,())=(true,()):=by
 obtain⟨q1,q2,_⟩:=q8 (f:=nI) (ti:=kY) (t0:=jv) (t1:=kZ) (y:=()) (x:=(a,a,0,())) (Mm a hl a 0 rfl (Nat.zero_le _))
 refine cZ (ao _) (ao _) ?_
 refine(abJ a a).trans ?_
 rw[dt rfl]
 show bK (xA nI kY jv kZ (a,a,0,())) (bif uT nI kY (a,a,0,())then _ else _)=_
 rw[q1,q2]
 rfl
theorem yV(a b d:Int)(c:List Int)(hl:c.length<=1099511627776):GS (a,b,c,d,a,b,c,d,())=true/\m16 (a,b,c,d,a,b,c,d,())=(true,()):=by
 refine cZ (ao _) (ao _) ?_
 have q:=Ql c hl
 refine(abK a b d a b d c c).trans ?_
 rw[dt rfl,dt rfl,dt rfl,q.1,q.2]
 rfl
section
variable (g:Cg)
end
end Go.Proofs.Vq

noncomputable section
namespace Go.Proofs.Vq
open Go.Ab Go.Ab.Lf
set_option maxRecDepth 100000
section
variable {n o:Nat}{lo:Int}{cs:List (den bZ)}
theorem sS{op:Int}(ho:op=32∨op=34)(a:Nat)(k:Int)(h0:0<=lo)(hl:lo<=4096)(hn:n<=100000)(ha:(a:Int)<n+lo):Gz n o lo cs (op,(a:Int),k):=by
 intro t
 refine cZ (ao _) (ao _) ?_
 refine(xn [dz n o] [dy n o lo cs] (-1) 0 (n:Int) (o:Int) lo cs [] t op (a:Int) k).trans ?_
 have e:bV .i64 (n:Int) lo=(n:Int)+lo:=wrap_i64 (by omega) (by omega)
 rw[e,dt (show(0:Int)<=(a:Int) by omega),dt ha]
 rcases ho with rfl|rfl<;>rfl
theorem Qm(k d:Int)(h0:0<=k)(h1:k<=1048576)(h2:d<=1048576):Gz n o lo cs (256,k,d):=by
 intro t
 refine cZ (ao _) (ao _) ?_
 refine(xn [dz n o] [dy n o lo cs] (-1) 0 (n:Int) (o:Int) lo cs [] t 256 k d).trans ?_
 rw[dt h0,dt h1,dt h2]
 rfl
theorem a26:FD (26,())=true/\FF (26,())=(true,()):=by
 refine cZ (ao _) (ao _) ?_
 rw[Gs];show _=_;kernel_rfl
theorem a27:FD (27,())=true/\FF (27,())=(true,()):=by
 refine cZ (ao _) (ao _) ?_
 rw[Gs];show _=_;kernel_rfl
theorem XY(a k:Int):Gz n o lo cs (26,a,k):=by
 intro t
 refine cZ (ao _) (ao _) ?_
 refine(xn [dz n o] [dy n o lo cs] (-1) 0 (n:Int) (o:Int) lo cs [] t 26 a k).trans ?_
 rw[a26.1,a26.2]
 rfl
theorem XZ(a k:Int):Gz n o lo cs (27,a,k):=by
 intro t
 refine cZ (ao _) (ao _) ?_
 refine(xn [dz n o] [dy n o lo cs] (-1) 0 (n:Int) (o:Int) lo cs [] t 27 a k).trans ?_
 rw[a27.1,a27.2]
 rfl
theorem Mn(a k:Int):Gz n o lo cs (15,a,k):=by
 intro t
 refine cZ (ao _) (ao _) ?_
 refine(xn [dz n o] [dy n o lo cs] (-1) 0 (n:Int) (o:Int) lo cs [] t 15 a k).trans ?_
 rw[a15.1,a15.2]
 rfl
variable (g:Cg)
theorem Qn(m:yL)(fu:Int)(xs:List Int)(hx:xs.length=n)(hn:n<=100000):jQ rb (aX gI (fm [i64,i64,.aB u64,.aB i64,i64,i64] m (0,fu,xs,n126 n,(n:Int),((0:Nat):Int),()))) 0 (aX fL (fm [i64,i64,.aB u64] m (0,fu,xs,()))):=by
 have hl:(n126 n).length=n:=List.length_replicate
 refine rq (l:=n126 n) (fun j=>aX gI (fm [i64,i64,.aB u64,.aB i64,i64,i64] m (0,fu,xs,n126 n,(n:Int),(j:Int),()))) _ (fun j x r e=>?_) ?_
 ·have hj:j<n:=by have:=(js e x).1;rwa [hl]at this
  refine(GA m 0 fu xs (n126 n) (n:Int) (j:Int)).trans ?_
  rw[dt (show(j:Int)<(n:Int) by omega),show cg (j:Int) ((n126 n).length:Int)=true from gH (by rw[hl];exact hj),Int.toNat_natCast,XV hj,xB (by omega)]
  rfl
 ·refine(GA m 0 fu xs (n126 n) (n:Int) ((n126 n).length:Int)).trans ?_
  rw[hl,df (show ¬ (n:Int)<(n:Int) by omega)]
  rfl
theorem Mo{x:Rn}(f0 f2:den eJ){pc:Int}{st lo:List Int}(h:x.err≠0∨pc<0):(lU g (aX eL (cL x f0 f2 pc st lo))).val=some (.out 0 (aX ep (aQ [] ⟨x,f2,pc,st,lo⟩ ()))):=by
 refine(Mc g x f0 f2 pc st lo _ rfl _ rfl _ rfl _ rfl).trans ?_
 have e:(bif decide (x.err=0)then decide (0<=pc)else false)=false:=by
  rcases h with h|h
  ·rw[df h];rfl
  ·rw[df (show ¬ 0<=pc by omega)];cases decide (x.err=0)<;>rfl
 rw[e]
 rfl
theorem GB(m:yL)(l:Nat)(hll:l<=4096)(Lm:lo=(l:Int))(hm:m.fns=[dy n o lo cs])(xs:List Int)(hx:xs.length<=100000)(fu ho:Int)(F:lT)(hF:F.r=⟨m,fu,ho,1,0⟩)(hs:F.st.length<=1099511627776)
 (r:jQ (lU g) (aX eL (cL ⟨m,fu,0,1,0⟩ (dy n o lo cs) (dy n o lo cs) 0 [] (xs++List.replicate l 0))) 0 (aX ep (aQ [] F ()))):
 Xx g (ju [i64,.aB u64] ⟨m,fu,0,0,0⟩ (0,xs,()))=true/\QY g (ju [i64,.aB u64] ⟨m,fu,0,0,0⟩ (0,xs,()))=(F.st,ju [] ⟨m,fu,ho,0,0⟩ ()):=by
 obtain⟨q1,q2⟩:=q7 (f:=lU g) (ti:=eL) (to:=ep) r
 refine cZ (ao _) (ao _) ?_
 have e:=abF g ⟨m,fu,0,0,0⟩ 0 xs (dy n o lo cs) (by rw[hm];rfl) (cL ⟨m,fu,0,1,0⟩ (dy n o lo cs) (dy n o lo cs) 0 [] (xs++List.replicate l 0)) (by
  rw[bQ,Lm];show _=_;rfl) F (by rw[q2];rfl)
 refine e.trans ?_
 have hr:roomy 8 (xs.length+(List.replicate ((dy n o lo cs).2.2.2.2.1:Int).toNat (0:Int)).length)=true:=fe (by decide) (by rw[List.length_replicate];show xs.length+lo.toNat<=_;rw[Lm];omega)
 rw[q1,show cg 0 (m.fns.length:Int)=true by rw[hm];rfl,hr,dt (show xs.length<=1099511627776 by omega),dt hs,dt (show(0:Int)<=(dy n o lo cs).2.2.2.2.1 by show 0<=lo;omega),dt (rfl:((dy n o lo cs).2.2.2.2.1:Int)=(dy n o lo cs).2.2.2.2.1),hF]
 show bK true (bif false then _ else bif false then _ else _)=_
 show some (aX w8 (F.st,ju [] ⟨m,fu,ho,aW .i64 1 1,0⟩ ()))=_
 rw[show aW .i64 1 1=0 from by kernel_rfl]
theorem X0(m:yL)(hm:m.fns=[dy n o lo cs])(QN:m.sigs=[dz n o])(hb:m.bad=false)(xs ys:List Int)(hx:xs.length=n)(hn:n<=100000)(ho:Int)
 (hc:Xx g (ju [i64,.aB u64] ⟨m,0,0,0,0⟩ (0,xs,()))=true/\QY g (ju [i64,.aB u64] ⟨m,0,0,0,0⟩ (0,xs,()))=(ys,ju [] ⟨m,0,ho,0,0⟩ ())):
 Xy (g1 g) (fm [i64,.aB u64,i64] m (0,xs,0,()))=true/\m23 (g1 g) (fm [i64,.aB u64,i64] m (0,xs,0,()))=(0,0,ys,0,fm [] m ()):=by
 refine cZ (ao _) (ao _) ?_
 obtain⟨q1,q2⟩:=q7 (f:=rb) (ti:=gI) (to:=fL) (Qn m 0 xs hx hn)
 obtain⟨c1,c2⟩:=hc
 have e:=abL (g1 g) m 0 0 xs (dy n o lo cs) (by rw[hm];rfl) (dz n o) (by rw[QN];rfl) (fm [i64,i64,.aB u64,.aB i64,i64,i64] m (0,0,xs,n126 n,(n:Int),0,())) (by show _=fm [i64,i64,.aB u64,.aB i64,i64,i64] m (0,0,xs,n126 n,((n126 n).length:Int),0,());rw[List.length_replicate]) (fm [i64,i64,.aB u64] m (0,0,xs,())) q2.symm (ju [i64,.aB u64] ⟨m,0,0,0,0⟩ (0,xs,())) (by show _=_;kernel_rfl)
 refine(e ⟨m,0,ho,0,0⟩ (by show _=rnO (QY g _).2;rw[c2];rfl)).trans ?_
 rw[hb,show(m.fns.length:Int)=1 by rw[hm];rfl,show(m.sigs.length:Int)=1 by rw[QN];rfl,show uS rb gI fL (fm [i64,i64,.aB u64,.aB i64,i64,i64] m (0,0,xs,n126 n,(n:Int),0,()))=true from q1,show(g1 g).1 (ju [i64,.aB u64] ⟨m,0,0,0,0⟩ (0,xs,()))=true from c1,show(g1 g).2 (ju [i64,.aB u64] ⟨m,0,0,0,0⟩ (0,xs,()))=_ from c2]
 rw[dt (show xs.length<=1099511627776 by omega),dt (show((xs.length:Nat):Int)=(dy n o lo cs).2.2.1 by show _=(n:Int);omega)]
 rfl
theorem AS(hc: ∀ c,c∈cs->Gz n o lo cs c)(hl:cs.length<=1099511627776)(h0:cs≠[])(h1:0<=lo)(h2:lo<=4096)(hn:n<=100000)(ho:o<=100000)(xs ys:List Int)(hx:xs.length=n)(hp:Int)
 (oP: ∀ m:yL,m=⟨[dz n o],[dy n o lo cs],uC,⟨[],[],0⟩,bR,false⟩->Xx g (ju [i64,.aB u64] ⟨m,0,0,0,0⟩ (0,xs,()))=true/\QY g (ju [i64,.aB u64] ⟨m,0,0,0,0⟩ (0,xs,()))=(ys,ju [] ⟨m,0,hp,0,0⟩ ())):
 GU (g1 g) ([dz n o],[dy n o lo cs],xs,0,())=true/\ ∃ s,m14 (g1 g) ([dz n o],[dy n o lo cs],xs,0,())=(0,0,ys,0,s):=by
 obtain⟨d1,d2⟩:=abT hc hl h0 h1 h2 hn ho
 have cR: ∀ k,k<=100000->(n126 k).length<=1099511627776:=fun k hk=>by rw[List.length_replicate];omega
 obtain⟨n1,n2⟩:=La (dz n o) (dy n o lo cs) [7,1,2,9] [1,0,0,0] [0,1,3] [0,1,2,3,-1,-1] (List.replicate 65536 0) 2 ⟨[],[],0⟩ false (cR n hn) (cR o ho) hl d1 (by rw[d2];rfl)
 obtain⟨c1,c2⟩:=X0 g ⟨[dz n o],[dy n o lo cs],uC,⟨[],[],0⟩,bR,false⟩ rfl rfl rfl xs ys hx hn hp (oP _ rfl)
 have key:=cZ (to:=B8) (t:=t14 (g1 g) ([dz n o],[dy n o lo cs],xs,0,())) (k:=GU (g1 g) ([dz n o],[dy n o lo cs],xs,0,())) (m:=m14 (g1 g) ([dz n o],[dy n o lo cs],xs,0,())) (ao _) (ao _)
  (y:=(0,0,ys,0,jV [] uC ()))
  ((abO (g1 g) [dz n o] [dy n o lo cs] xs 0 _ rfl _ rfl (fm [i64,.aB u64,i64] ⟨[dz n o],[dy n o lo cs],uC,⟨[],[],0⟩,bR,false⟩ (0,xs,0,())) (by
    rw[show m22 ([dz n o],[dy n o lo cs],jV (jU []) uC (nG [] ⟨[],[],0⟩ ()))=_ from n2]
    rfl) _ rfl).trans (by
    rw[c1,c2,uB,show QZ ([dz n o],[dy n o lo cs],jV (jU []) uC (nG [] ⟨[],[],0⟩ ()))=true from n1]
    rfl))
 exact⟨key.1,_,key.2⟩
end
end Go.Proofs.Vq

noncomputable section
namespace Go.Proofs.Vq
open Go.Ab Go.Ab.Lf
set_option maxRecDepth 100000
theorem abU(g:Cg)(x:lT)(k d:Nat)(h:k+d<=x.st.length)(hs:x.st.length<=1000):uz g (aQ mC x (256,(k:Int),(d:Int),()))=true/\uA g (aQ mC x (256,(k:Int),(d:Int),()))=aQ [] {x with st:=x.st.take (x.st.length - k - d)++x.st.drop (x.st.length - k),pc:=bV .i64 x.pc 1} ():=by
 have hn:=lO x ((k+d:Nat):Int) (k:Int) (by omega) (by omega) (by omega) (by omega) (by omega) (by omega)
 have hm:yN (aQ mC x (256,(k:Int),(d:Int),()))=true/\w5 (aQ mC x (256,(k:Int),(d:Int),()))=aQ [] {x with st:=x.st.take (x.st.length - k - d)++x.st.drop (x.st.length - k)} ():=by
  refine cZ (ao _) (ao _) ?_
  refine(xm x 256 (k:Int) (d:Int)).trans ?_
  rw[df (show ¬ (256:Int)=257 by decide),dt rfl]
  have e0:dB .i64 (d:Int)=(d:Int):=wrap_i64 (by omega) (by omega)
  have e1:bV .i64 (k:Int) (d:Int)=((k+d:Nat):Int):=(wrap_i64 (by omega) (by omega)).trans (by omega)
  rw[e0,e1,hn.1,hn.2]
  have eA:aW .i64 (x.st.length:Int) (k:Int)=((x.st.length - k:Nat):Int):=(wrap_i64 (by omega) (by omega)).trans (by omega)
  have eI:aW .i64 ((x.st.length - k:Nat):Int) (d:Int)=((x.st.length - k - d:Nat):Int):=(wrap_i64 (by omega) (by omega)).trans (by omega)
  show bK true (bif true then bK (decide (0<=aW .i64 (aW .i64 (x.st.length:Int) (k:Int)) (d:Int)/\aW .i64 (aW .i64 (x.st.length:Int) (k:Int)) (d:Int)<=aW .i64 (x.st.length:Int) (k:Int)/\aW .i64 (x.st.length:Int) (k:Int)<=(x.st.length:Int)/\x.st.length<=1099511627776)) (some (aX dJ (aQ [] {x with st:=app (List.take (aW .i64 (aW .i64 (x.st.length:Int) (k:Int)) (d:Int)).toNat x.st) (List.drop (aW .i64 (x.st.length:Int) (k:Int)).toNat x.st)} ())))else _)=_
  rw[eA,eI,dt (show(0:Int)<=((x.st.length - k - d:Nat):Int)/\((x.st.length - k - d:Nat):Int)<=((x.st.length - k:Nat):Int)/\((x.st.length - k:Nat):Int)<=(x.st.length:Int)/\x.st.length<=1099511627776 from⟨by omega,by omega,by omega,by omega⟩),bQ]
  rfl
 refine cZ (ao _) (ao _) ?_
 rw[sP,hm.1,hm.2]
 show _=_
 kernel_rfl
theorem j27(g:Cg)(r:Rn)(he:r.err=0)(f2:den eJ)(pc:Int)(a b y:Int)(lo:List Int):uz g (aQ mC ⟨r,f2,pc,[a,b,y],lo⟩ (27,0,0,()))=true/\uA g (aQ mC ⟨r,f2,pc,[a,b,y],lo⟩ (27,0,0,()))=aQ [] ⟨r,f2,bV .i64 pc 1,[bif decide (dB .u32 y=0)then b else a],lo⟩ ():=by
 have hn:=lO ⟨r,f2,pc,[a,b,y],lo⟩ 3 1 (by decide) (by decide) (by decide) (by simp) (by simp) (by simp)
 have hm:yN (aQ mC ⟨r,f2,pc,[a,b,y],lo⟩ (27,0,0,()))=true/\w5 (aQ mC ⟨r,f2,pc,[a,b,y],lo⟩ (27,0,0,()))=aQ [] ⟨r,f2,pc,[bif decide (dB .u32 y=0)then b else a],lo⟩ ():=by
  refine cZ (ao _) (ao _) ?_
  rw[xm,hn.1,hn.2]
  refine Eq.trans (b:=bif decide (dB .u32 y=0)then some (aX dJ (aQ [] ⟨r,f2,pc,[b],lo⟩ ()))else some (aX dJ (aQ [] ⟨r,f2,pc,[a],lo⟩ ()))) ?_ ?_
  ·show _=_
   kernel_rfl
  ·cases decide (dB .u32 y=0)<;>rfl
 refine cZ (ao _) (ao _) ?_
 rw[sP,hm.1,hm.2]
 show _=_
 kernel_rfl
end Go.Proofs.Vq

noncomputable section
namespace Go.Proofs.Vq
open Go.Ab Go.Ab.Lf
set_option maxRecDepth 100000
section
variable (g:Cg)
abbrev yW(n k d:Nat):List (den bZ):=(uW (n:Int) n 0++[((256:Int),(k:Int),(d:Int))])++[((15:Int),(0:Int),(0:Int))]
abbrev jd(xs:List Int)(k d:Nat):List Int:=xs.take (xs.length - k - d)++xs.drop (xs.length - k)
theorem AT(n k d:Nat):(yW n k d).length=4*n+2:=by
 unfold yW
 rw[List.length_append,List.length_append,lP];rfl
theorem AU{n:Nat}: ∀ (k j:Nat) (c:den bZ),c∈uW (n:Int) k j-> ∃ i,j<=i/\i<j+k/\c∈Mk (n:Int) (i:Int)
 |0,_,_,h=>by cases h
 |k+1,j,c,h=>by
  rcases List.mem_append.1 (show c∈Mk (n:Int) (j:Int)++uW (n:Int) k (j+1)from h)with q|q
  ·exact⟨j,Nat.le_refl _,by omega,q⟩
  ·obtain⟨i,h1,h2,h3⟩:=AU k (j+1) c q
   exact⟨i,by omega,by omega,h3⟩
theorem abV{n k d o:Nat}(hn:n<=40)(hk:k<=n)(hd:d<=n){cs:List (den bZ)}: ∀ c,c∈yW n k d->Gz n o (n:Int) cs c:=by
 intro c h
 rcases List.mem_append.1 h with h|h
 ·rcases List.mem_append.1 h with h|h
  ·obtain⟨i,_,h2,h3⟩:=AU n 0 c h
   rcases List.mem_cons.1 h3 with rfl|h3
   ·exact sS (.inl rfl) i 0 (by omega) (by omega) (by omega) (by omega)
   ·rcases List.mem_cons.1 h3 with rfl|h3
    ·have:=sS (n:=n) (o:=o) (lo:=(n:Int)) (cs:=cs) (.inr (rfl:(34:Int)=34)) (n+i) 0 (by omega) (by omega) (by omega) (by omega)
     rwa [Int.natCast_add]at this
    ·rcases List.mem_cons.1 h3 with rfl|h3
     ·exact XY 0 0
     ·rcases List.mem_cons.1 h3 with rfl|h3
      ·have:=sS (n:=n) (o:=o) (lo:=(n:Int)) (cs:=cs) (.inl (rfl:(32:Int)=32)) (n+i) 0 (by omega) (by omega) (by omega) (by omega)
       rwa [Int.natCast_add]at this
      ·cases h3
  ·rcases List.mem_cons.1 h with rfl|h
   ·exact Qm _ _ (by omega) (by omega) (by omega)
   ·cases h
 ·rcases List.mem_cons.1 h with rfl|h
  ·exact Mn 0 0
  ·cases h
theorem Lb(m:yL)(n k d:Nat)(YR:k+d<=n)(hn:n<=40)(xs:List Int)(hx:xs.length=n):
 ∃ lo,jQ (lU g) (aX eL (cL ⟨m,0,0,1,0⟩ (dy n (n - d) (n:Int) (yW n k d)) (dy n (n - d) (n:Int) (yW n k d)) 0 [] (xs++List.replicate n 0))) 0 (aX ep (aQ [] ⟨⟨m,0,0,1,0⟩,dy n (n - d) (n:Int) (yW n k d),-1,jd xs k d,lo⟩ ())):=by
 obtain⟨fn,Cc⟩: ∃ fn,fn=dy n (n - d) (n:Int) (yW n k d):=⟨_,rfl⟩
 have fh:yW n k d=fn.2.2.2.2.2.1:=by rw[Cc]
 have hd0:(yW n k d).drop (4*n)=((256:Int),(k:Int),(d:Int)):: [((15:Int),(0:Int),(0:Int))]:=by
  unfold yW
  rw[List.append_assoc,List.drop_append_of_le_length (by rw[lP];exact Nat.le_refl _),List.drop_eq_nil_of_le (by rw[lP];exact Nat.le_refl _)]
  rfl
 rw[<-Cc]
 have hgl: ∀ i,i<n->(xs++List.replicate n (0:Int)).getD i 0=xs.getD i 0:=fun i hi=>by
  rw[List.getD_eq_getElem?_getD,List.getD_eq_getElem?_getD,List.getElem?_append_left (by omega)]
 have e0:yW n k d=uW (n:Int) n 0++([((256:Int),(k:Int),(d:Int))]++[((15:Int),(0:Int),(0:Int))]):=List.append_assoc ..
 have tail: ∀ Qo:List Int,jQ (lU g) (aX eL (cX fn ⟨⟨m,0,0,1,0⟩,fn,((4*n:Nat):Int),xs,Qo⟩)) 0 (aX ep (aQ [] ⟨⟨m,0,0,1,0⟩,fn,-1,jd xs k d,Qo⟩ ())):=by
  intro Qo
  obtain⟨x1,h1⟩: ∃ x1:lT,x1=⟨⟨m,0,0,1,0⟩,fn,((4*n+1:Nat):Int),jd xs k d,Qo⟩:=⟨_,rfl⟩
  have s1:=abU g ⟨⟨m,0,0,1,0⟩,fn,((4*n:Nat):Int),xs,Qo⟩ k d (by show k+d<=xs.length;omega) (by show xs.length<=1000;omega)
  have t1:=uM g (x:=⟨⟨m,0,0,1,0⟩,fn,((4*n:Nat):Int),xs,Qo⟩) fh rfl rfl hd0 fn fh (x':=x1) (by
   rw[h1]
   refine⟨s1.1,s1.2.trans ?_⟩
   show aQ [] ⟨⟨m,0,0,1,0⟩,fn,bV .i64 ((4*n:Nat):Int) 1,jd xs k d,Qo⟩ ()=_
   rw[xB (by omega)])
  have cR:(jd xs k d).length=n - d:=by unfold jd;rw[List.length_append,List.length_take,List.length_drop];omega
  have s2:=j15 g x1 0 0 (by rw[h1,Cc];show((n - d:Nat):Int)=((jd xs k d).length:Int);rw[cR]) (by rw[h1];show(jd xs k d).length<=1000;rw[cR];omega)
  obtain⟨x2,h2⟩: ∃ x2:lT,x2={x1 with pc:= -1}:=⟨_,rfl⟩
  rw[<-h2]at s2
  have t2:=uM g (x:=x1) (cs:=yW n k d) (by rw[h1];exact fh) (by rw[h1]) (pc:=4*n+1) (by rw[h1]) (sR hd0) fn fh (x':=x2) s2
  have t3:=Mo g (x:=x2.r) fn x2.f (pc:=x2.pc) (st:=x2.st) (lo:=x2.lo) (.inr (by rw[h2];exact(by decide:(-1:Int)<0)))
  refine .more t1 (.more t2 (.last (t3.trans ?_)))
  rw[h2,h1]
 exact AR g fh xs hx (by omega) (r:=[((256:Int),(k:Int),(d:Int))]++[((15:Int),(0:Int),(0:Int))]) (q:=fun lo=>aX ep (aQ [] ⟨⟨m,0,0,1,0⟩,fn,-1,jd xs k d,lo⟩ ())) n 0 0 ⟨⟨m,0,0,1,0⟩,fn,0,[],xs++List.replicate n 0⟩ (by omega) (by omega) fh rfl rfl e0 (by show(xs++List.replicate n (0:Int)).length=_;rw[List.length_append,List.length_replicate];omega) rfl hgl fun lo=>by
  have:=tail lo
  rw[show 0+4*n=4*n by omega]
  exact this
theorem Qp(n k d:Nat)(YR:k+d<=n)(hn:n<=40)(xs:List Int)(hx:xs.length=n):
 GU (g1 g) ([dz n (n - d)],[dy n (n - d) (n:Int) (yW n k d)],xs,0,())=true/\ ∃ s,m14 (g1 g) ([dz n (n - d)],[dy n (n - d) (n:Int) (yW n k d)],xs,0,())=(0,0,jd xs k d,0,s):=by
 refine AS g (abV hn (by omega) (by omega)) (by rw[AT];omega) (by intro h;have:=AT n k d;rw[h]at this;simp at this) (by omega) (by omega) (by omega) (by omega) xs (jd xs k d) hx 0 fun m hm=>?_
 obtain⟨lo,r⟩:=Lb g m n k d YR hn xs hx
 refine GB g m n (by omega) rfl (by rw[hm]) xs (by omega) 0 0 ⟨⟨m,0,0,1,0⟩,dy n (n - d) (n:Int) (yW n k d),-1,jd xs k d,lo⟩ rfl ?_ r
 show(jd xs k d).length<=_
 unfold jd
 rw[List.length_append,List.length_take,List.length_drop]
 omega
abbrev Cq:List (den bZ):=[((32:Int),(0:Int),(0:Int)),((32:Int),(1:Int),(0:Int)),((32:Int),(2:Int),(0:Int)),((27:Int),(0:Int),(0:Int)),((15:Int),(0:Int),(0:Int))]
abbrev pick(xs:List Int):Int:=bif decide (dB .u32 (xs.getD 2 0)=0)then xs.getD 1 0 else xs.getD 0 0
theorem Lc(m:yL)(n:Nat)(h3:3<=n)(hn:n<=40)(xs:List Int)(hx:xs.length=n):
 jQ (lU g) (aX eL (cL ⟨m,0,0,1,0⟩ (dy n 1 0 Cq) (dy n 1 0 Cq) 0 [] (xs++List.replicate 0 0))) 0 (aX ep (aQ [] ⟨⟨m,0,0,1,0⟩,dy n 1 0 Cq,-1,[pick xs],xs⟩ ())):=by
 rw[show xs++List.replicate 0 (0:Int)=xs from List.append_nil _]
 obtain⟨fn,Cc⟩: ∃ fn,fn=dy n 1 0 Cq:=⟨_,rfl⟩
 have fh:Cq=fn.2.2.2.2.2.1:=by rw[Cc]
 rw[<-Cc]
 have F: ∀ (pc:Nat) (st:List Int),pc<=100-> ∀ (a:Nat) (r:List (den bZ)),Cq.drop pc=((32:Int),(a:Int),(0:Int))::r->a<n->st.length<=1000->(lU g (aX eL (cL ⟨m,0,0,1,0⟩ fn fn (pc:Int) st xs))).val=some (.next (aX eL (cL ⟨m,0,0,1,0⟩ fn fn ((pc+1:Nat):Int) (st++[xs.getD a 0]) xs))):=by
  intro pc st Yf a r hd ha oM
  have s:=j32 g ⟨⟨m,0,0,1,0⟩,fn,(pc:Int),st,xs⟩ a 0 (by show a<xs.length;omega) oM
  refine uM g (x:=⟨⟨m,0,0,1,0⟩,fn,(pc:Int),st,xs⟩) fh rfl rfl hd fn fh (x':=⟨⟨m,0,0,1,0⟩,fn,((pc+1:Nat):Int),st++[xs.getD a 0],xs⟩) ⟨s.1,s.2.trans ?_⟩
  show aQ [] ⟨⟨m,0,0,1,0⟩,fn,bV .i64 (pc:Int) 1,st++[xs.getD a 0],xs⟩ ()=_
  rw[xB (by omega)]
 have t1:=F 0 [] (by omega) 0 _ rfl (by omega) (by decide)
 have t2:=F 1 [xs.getD 0 0] (by omega) 1 _ rfl (by omega) (by simp)
 have t3:=F 2 [xs.getD 0 0,xs.getD 1 0] (by omega) 2 _ rfl (by omega) (by simp)
 have s4:=j27 g ⟨m,0,0,1,0⟩ rfl fn ((3:Nat):Int) (xs.getD 0 0) (xs.getD 1 0) (xs.getD 2 0) xs
 have t4:=uM g (x:=⟨⟨m,0,0,1,0⟩,fn,((3:Nat):Int),[xs.getD 0 0,xs.getD 1 0,xs.getD 2 0],xs⟩) fh rfl rfl (pc:=3) (c:=((27:Int),(0:Int),(0:Int))) rfl fn fh (x':=⟨⟨m,0,0,1,0⟩,fn,((4:Nat):Int),[pick xs],xs⟩) ⟨s4.1,s4.2.trans (by rw[show bV .i64 ((3:Nat):Int) 1=((4:Nat):Int)from xB (by omega)])⟩
 have s5:=j15 g ⟨⟨m,0,0,1,0⟩,fn,((4:Nat):Int),[pick xs],xs⟩ 0 0 (by rw[Cc];rfl) (by simp)
 have t5:=uM g (x:=⟨⟨m,0,0,1,0⟩,fn,((4:Nat):Int),[pick xs],xs⟩) fh rfl rfl (pc:=4) (c:=((15:Int),(0:Int),(0:Int))) rfl fn fh s5
 exact .more t1 (.more t2 (.more t3 (.more t4 (.more t5 (.last (Mo g fn fn (.inr (show(-1:Int)<0 by decide))))))))
theorem Qq(n:Nat)(h3:3<=n)(hn:n<=40)(xs:List Int)(hx:xs.length=n):
 GU (g1 g) ([dz n 1],[dy n 1 0 Cq],xs,0,())=true/\ ∃ s,m14 (g1 g) ([dz n 1],[dy n 1 0 Cq],xs,0,())=(0,0,[pick xs],0,s):=by
 have hL: ∀ c,c∈Cq->Gz n 1 0 Cq c:=by
  intro c h
  rcases List.mem_cons.1 h with rfl|h
  ·exact sS (.inl rfl) 0 0 (by decide) (by decide) (by omega) (by omega)
  rcases List.mem_cons.1 h with rfl|h
  ·exact sS (.inl rfl) 1 0 (by decide) (by decide) (by omega) (by omega)
  rcases List.mem_cons.1 h with rfl|h
  ·exact sS (.inl rfl) 2 0 (by decide) (by decide) (by omega) (by omega)
  rcases List.mem_cons.1 h with rfl|h
  ·exact XZ 0 0
  rcases List.mem_cons.1 h with rfl|h
  ·exact Mn 0 0
  cases h
 refine AS g hL (by decide) (by decide) (by decide) (by decide) (by omega) (by decide) xs [pick xs] hx 0 fun m hm=>?_
 exact GB (lo:=0) g m 0 (by decide) rfl (by rw[hm]) xs (by omega) 0 0 ⟨⟨m,0,0,1,0⟩,dy n 1 0 Cq,-1,[pick xs],xs⟩ rfl (by show 1<=_;decide) (Lc g m n h3 hn xs hx)
end
end Go.Proofs.Vq

noncomputable section
namespace Go.Proofs.Vq
open Go.Ab Go.Ab.Lf
set_option maxRecDepth 100000
section
variable (g:Cg)
theorem xp{a b:Int}{n:Nat}(ha:0<=a)(hb:b=((n+1:Nat):Int)): ∃ k:Nat,Int.tmod a b=(k:Int)/\k<=n:=by
 have h0:0<=Int.tmod a b:=Int.tmod_nonneg _ ha
 have h1:Int.tmod a b<b:=Int.tmod_lt_of_pos _ (by omega)
 exact⟨(Int.tmod a b).toNat,by omega,by omega⟩
theorem Ld(y:Int)(h:U y):decide (dB .u32 y=0)=decide (ou .u64 y 4294967296=0):=by
 obtain⟨a,rfl⟩: ∃ a:Nat,y=a:=⟨y.toNat,by have:=h.1;omega⟩
 have e:dB .u32 (a:Int)=(a:Int) % 4294967296:=rfl
 have e2:ou .u64 (a:Int) 4294967296=Int.tmod (a:Int) 4294967296:=rfl
 rw[e,e2,Int.tmod_eq_emod_of_nonneg (by omega)]
theorem Le(n:Nat)(h3:3<=n)(hn:n<=40)(xs:List Int)(hx:xs.length=n)(hU: ∀ y,y∈xs->U y):Gy (g1 g) xs (n:Int)=some (aX uV (true,())):=by
 obtain⟨f1,f2⟩:=z1 n 1 0 [((32:Int),(0:Int),(0:Int)),((32:Int),(1:Int),(0:Int)),((32:Int),(2:Int),(0:Int)),((27:Int),(0:Int),(0:Int))] (by omega) (by decide) (by decide)
 obtain⟨c1,s,c2⟩:=Qq g n h3 hn xs hx
 have hy:U (xs.getD 2 0):=by
  rw[List.getD_eq_getElem?_getD,List.getElem?_eq_getElem (by omega)]
  exact hU _ (List.getElem_mem _)
 unfold Gy
 dsimp only
 rw[show Gq ((n:Int),1,0,[((32:Int),(0:Int),(0:Int)),((32:Int),(1:Int),(0:Int)),((32:Int),(2:Int),(0:Int)),((27:Int),(0:Int),(0:Int))],())=true from f1,show Gr ((n:Int),1,0,[((32:Int),(0:Int),(0:Int)),((32:Int),(1:Int),(0:Int)),((32:Int),(2:Int),(0:Int)),((27:Int),(0:Int),(0:Int))],())=([dz n 1],[dy n 1 0 Cq],())from f2]
 dsimp only
 rw[c1,c2,show cg 1 (xs.length:Int)=true from gH (j:=1) (by omega),show cg 2 (xs.length:Int)=true from gH (j:=2) (by omega),show cg 0 (xs.length:Int)=true from gH (j:=0) (by omega)]
 have hp:pick xs=bif !decide (ou .u64 (xs.getD 2 0) 4294967296=0)then xs.getD 0 0 else xs.getD 1 0:=by
  unfold pick
  rw[Ld _ hy]
  cases decide (ou .u64 (xs.getD 2 0) 4294967296=0)<;>rfl
 rw[hp]
 have e2:xs.getD (2:Int).toNat (bJ (Ty.int .u64))=xs.getD 2 0:=rfl
 rw[e2]
 cases decide (ou .u64 (xs.getD 2 0) 4294967296=0)with
 |true=>
  have q:=yV 0 0 0 [xs.getD 1 0] (by simp)
  show bK true (bK true (bK true (bK true (bK (GS (0,0,[xs.getD 1 0],0,0,0,[xs.getD 1 0],0,())) (some (aX uV (m16 (0,0,[xs.getD 1 0],0,0,0,[xs.getD 1 0],0,()))))))))=_
  rw[q.1,q.2];rfl
 |false=>
  have q:=yV 0 0 0 [xs.getD 0 0] (by simp)
  show bK true (bK true (bK true (bK true (bK true (bK (GS (0,0,[xs.getD 0 0],0,0,0,[xs.getD 0 0],0,())) (some (aX uV (m16 (0,0,[xs.getD 0 0],0,0,0,[xs.getD 0 0],0,())))))))))=_
  rw[q.1,q.2];rfl
theorem AW(n k d:Nat)(YR:k+d<=n)(hn:n<=40)(xs:List Int)(hx:xs.length=n)(hU: ∀ y,y∈xs->U y):K8 (g1 g) xs (n:Int) (uW (n:Int) n 0) (k:Int) (d:Int)=some (aX uV (true,())):=by
 have hlm:(uW (n:Int) n 0++[((256:Int),(k:Int),(d:Int))]).length=4*n+1:=by rw[List.length_append,lP];rfl
 obtain⟨f1,f2⟩:=z1 n (n - d) (n:Int) (uW (n:Int) n 0++[((256:Int),(k:Int),(d:Int))]) (by omega) (by omega) (by omega)
 obtain⟨c1,s,c2⟩:=Qp g n k d YR hn xs hx
 have e1:aW .i64 (n:Int) (d:Int)=((n - d:Nat):Int):=(wrap_i64 (by omega) (by omega)).trans (by omega)
 have e2:dB .u64 (d:Int)=(d:Int):=by
  have:dB .u64 (d:Int)=(d:Int) % 18446744073709551616:=rfl
  rw[this];omega
 have e3:aW .i64 (n:Int) (k:Int)=((n - k:Nat):Int):=(wrap_i64 (by omega) (by omega)).trans (by omega)
 have e4:aW .i64 ((n - k:Nat):Int) (d:Int)=((n - k - d:Nat):Int):=(wrap_i64 (by omega) (by omega)).trans (by omega)
 have w1:List.take (((n - k - d:Nat):Int).toNat - (0:Int).toNat) (List.drop (0:Int).toNat xs)=xs.take (xs.length - k - d):=by rw[hx];simp
 have w2:List.take (((xs.length:Nat):Int).toNat - ((n - k:Nat):Int).toNat) (List.drop ((n - k:Nat):Int).toNat xs)=xs.drop (xs.length - k):=by
  rw[Int.toNat_natCast,Int.toNat_natCast,hx]
  exact List.take_of_length_le (by rw[List.length_drop];omega)
 have hl1:(xs.take (xs.length - k - d)).length<=40:=by rw[List.length_take];omega
 have hl2:(xs.drop (xs.length - k)).length<=40:=by rw[List.length_drop];omega
 have b1:cF 0 ((n - k - d:Nat):Int) (xs.length:Int)=true:=by unfold cF;simp;omega
 have b2:cF ((n - k:Nat):Int) (xs.length:Int) (xs.length:Int)=true:=by unfold cF;simp;omega
 unfold K8
 dsimp only
 rw[e1,e2,e3,e4,bQ,bQ,bQ]
 rw[f1,f2]
 dsimp only
 rw[w1,w2,b1,b2,show roomy 24 ((uW (n:Int) n 0).length+[((256:Int),(k:Int),(d:Int))].length)=true from fe (by decide) (by rw[lP];show 4*n+1<=_;omega),show roomy 8 (([]:List Int).length+(xs.take (xs.length - k - d)).length)=true from fe (by decide) (by show 0+_<=_;omega),List.nil_append,show roomy 8 ((xs.take (xs.length - k - d)).length+(xs.drop (xs.length - k)).length)=true from fe (by decide) (by omega)]
 rw[show GU (g1 g) ([(List.replicate n 126,List.replicate (n - d) 126)],[((-1:Int),(0:Int),(n:Int),((n - d:Nat):Int),(n:Int),(uW (n:Int) n 0++[((256:Int),(k:Int),(d:Int))])++[((15:Int),(0:Int),(0:Int))],[])],xs,0,())=true from c1,show m14 (g1 g) ([(List.replicate n 126,List.replicate (n - d) 126)],[((-1:Int),(0:Int),(n:Int),((n - d:Nat):Int),(n:Int),(uW (n:Int) n 0++[((256:Int),(k:Int),(d:Int))])++[((15:Int),(0:Int),(0:Int))],[])],xs,0,())=(0,0,jd xs k d,0,s)from c2]
 have q:=yV 0 0 0 (jd xs k d) (by unfold jd;rw[List.length_append];omega)
 show bK true (bK true (bK true (bK true (bK true (bK true (bK true (bK (GS (0,0,jd xs k d,0,0,0,jd xs k d,0,())) (bif !(m16 (0,0,jd xs k d,0,0,0,jd xs k d,0,())).1 then some (aX uV (false,()))else bif decide ((n:Int)<3)then some (aX uV (true,()))else Gy (g1 g) xs (n:Int)))))))))=_
 rw[q.1,q.2]
 by_cases h3:(n:Int)<3
 ·rw[dt h3];rfl
 ·rw[df h3]
  show Gy (g1 g) xs (n:Int)=_
  exact Le g n (by omega) hn xs hx hU
theorem nzS(m:Nat): ¬ ((m+1:Nat):Int)=0:=by omega
theorem kdS{n k d:Nat}(h1:k<=n)(h2:d<=n - k):k+d<=n:=by omega
theorem abW(xs:List Int)(ke dr:Int)(hU: ∀ y,y∈xs->U y)(h1:0<=ke/\ke<=255)(h2:0<=dr/\dr<=255):(t4 (g1 g) (xs,ke,dr,())).val=some (aX uV (true,())):=by
 obtain⟨n,hn⟩: ∃ n,n=min xs.length 40:=⟨_,rfl⟩
 have X4:min (xs.length:Int) 40=(n:Int):=by omega
 have X5:n<=40:=by omega
 obtain⟨x,hx⟩: ∃ x,x=xs.take n:=⟨_,rfl⟩
 have hxl:x.length=n:=by rw[hx,List.length_take];omega
 have hxU: ∀ y,y∈x->U y:=fun y h=>hU y (List.mem_of_mem_take (by rw[<-hx];exact h))
 obtain⟨q1,q2⟩:=q7 (f:=yU) (ti:=l7) (to:=gV) (XT x ke dr n (by omega) n 0 [] (by omega) rfl)
 rw[List.nil_append]at q2
 have e:=eq4 (g1 g) xs ke dr (x,ke,dr,(n:Int),[],0,()) (by rw[X4,hx];show _=(List.take ((n:Int).toNat - 0) xs,_);rw[Int.toNat_natCast];rfl) (x,ke,dr,(n:Int),uW (n:Int) n 0,()) q2.symm
 refine e.trans ?_
 rw[X4,show cF 0 (n:Int) (xs.length:Int)=true by unfold cF;simp;omega,show uS yU l7 gV (x,ke,dr,(n:Int),[],0,())=true from q1]
 dsimp only
 have c1:dB .i64 ke=ke:=wrap_i64 (by omega) (by omega)
 have c2:dB .i64 dr=dr:=wrap_i64 (by omega) (by omega)
 have a1:bV .i64 (n:Int) 1=((n+1:Nat):Int):=xB (by omega)
 rw[c1,c2,a1]
 by_cases h0:(0:Int)<(n:Int)
 ·rw[dt h0]
  obtain⟨k,hk,Zn⟩:=xp (n:=n) h1.1 (rfl:((n+1:Nat):Int)=_)
  have qE:ou .i64 ke ((n+1:Nat):Int)=(k:Int):=hk
  rw[qE]
  have e3:aW .i64 (n:Int) (k:Int)=((n - k:Nat):Int):=(wrap_i64 (by omega) (by omega)).trans (by omega)
  have a2:bV .i64 ((n - k:Nat):Int) 1=((n - k+1:Nat):Int):=xB (by omega)
  rw[e3,a2]
  obtain⟨d,hd,zm⟩:=xp (n:=n - k) h2.1 (rfl:((n - k+1:Nat):Int)=_)
  have uP:ou .i64 dr ((n - k+1:Nat):Int)=(d:Int):=hd
  rw[uP,df (nzS n),df (nzS (n - k))]
  rw[Bool.not_true,cond_false,sQ rfl,sQ rfl,cond_true,Bool.not_false,sQ rfl,sQ rfl]
  exact AW g n k d (kdS Zn zm) X5 x hxl hxU
 ·rw[df h0]
  rw[Bool.not_true,cond_false,sQ rfl,sQ rfl,cond_false]
  exact AW g n 0 0 (Nat.zero_le _) X5 x hxl hxU
end
end Go.Proofs.Vq

noncomputable section
namespace Go.Proofs.Vq
open Go.Ab Go.Ab.Lf Go.ChangeShapes Go.WideShapes Go.ChangeAt Go.RowKit
set_option maxRecDepth 100000
abbrev aK(k:IntKind)(l:List Int):AV:=.fg l.length (l.map (AV.int k))
theorem abX(k:IntKind)(l:List Int):fP (EV (fun _=>none) (.int k)) l (l.map (AV.int k)):=by
 induction l with
 |nil=>rfl
 |cons a l ih=>exact⟨[.int k a],_,rfl,rfl,ih⟩
theorem abY(k:IntKind)(l:List Int):EV (fun _=>none) (.aB (.int k)) l [aK k l]:=⟨_,rfl,.inr ⟨_,abX k l,.inl rfl⟩⟩
def g0:Cg:=(fun _=>false,fun _=>wG _)
theorem X6:(sG g0).Ok 73 dD:=by
 intro pl q args H0 E0 h az e
 obtain⟨x,y,rfl,h1,rfl⟩:=uH e
 obtain⟨h2,_⟩:=Lf.T.bU h1
 cases h2
theorem X7:(sG (g1 g0)).Ok 73 dD:=PR Gk.toWQ X6
theorem Qr(xs:List Int)(ke dr:Int)(hU: ∀ y,y∈xs->U y)(hk:0<=ke/\ke<=255)(hd:0<=dr/\dr<=255): ∃ n,Yn (dD n n 4 [aK .u64 xs,.int .u8 ke,.int .u8 dr] (dL 0))=true:=by
 obtain⟨E0,hE⟩: ∃ E0:En,E0=⟨fun _=>⟨.any,0⟩,fun _=>aK .u64 xs,fun _=>none,fun _=>.any⟩:=⟨_,rfl⟩
 have sm:=cZ (ao _) (ao _) (k:=k4 (g1 g0) (xs,ke,dr,())) (m:=m4 (g1 g0) (xs,ke,dr,())) (abW g0 xs ke dr hU hk hd)
 have e:((s4 (g1 g0)).f (aX Mb (xs,ke,dr,()))).val=some (aX uV (true,())):=by
  refine uI (ti:=Mb) (to:=uV) (x:=(xs,ke,dr,())) (y:=(true,())) ?_
  show(bif k4 (g1 g0) (xs,ke,dr,())then some (m4 (g1 g0) (xs,ke,dr,()))else none)=_
  rw[sm.1,sm.2]
  rfl
 have hP:dh (Ps [.im u64,.n .u8,.n .u8]) (aX Mb (xs,ke,dr,())) Lf.e1=some ([.c 1 (.aB u64) xs,.c 0 u8 ke,.c 0 u8 dr],[],⟨2,.nil⟩):=rfl
 have hS:SR E0 (dk ⟨2,.nil⟩) (dL 0):=by
  have et:dk ⟨2,.nil⟩=(⟨2,.nil⟩:Hq):=rfl
  rw[et]
  have no: ∀ r R,¬ (Tr.nil:Tr Lf.Row).get r=some R:=fun r R h=>by
   have h:(none:Option Lf.Row)=some R:=h
   cases h
  refine⟨?_,?_,?_,?_⟩
  ·intro r R h;exact(no r R h).elim
  ·rintro r r' id ⟨R,h,_⟩;exact(no r R h).elim
  ·rintro r id ⟨R,h,_⟩;exact(no r R h).elim
  ·intro id row h
   subst hE
   cases h
 have hv:Vs E0 2 [.c 1 (.aB u64) xs,.c 0 u8 ke,.c 0 u8 dr] [aK .u64 xs,.int .u8 ke,.int .u8 dr]:=by
  subst hE
  exact .cons (.c (abY .u64 xs) fun _=>⟨by decide,rfl⟩) (.cons (.c rfl fun k=>(k rfl).elim) (.cons (.c rfl fun k=>(k rfl).elim) .nil))
 obtain⟨c,h',E1,ws,H1,⟨M,hM⟩,_,_,hQ,hV⟩:=XP Gk X7 _ _ _ _ E0 (dL 0) _ e hP hv hS
 have hM:dD M M 4 [aK .u64 xs,.int .u8 ke,.int .u8 dr] (dL 0)=.ok c h':=hM M M (Nat.le_refl _) (Nat.le_refl _)
 have hQ:some (([.c 0 .bool true]:List Sv),([]:List Pl),Lf.e1)=some (ws,[],H1):=hQ
 cases hQ
 cases hV with
 |cons k _=>
  cases k with
  |c k _=>
   have k:[c]=[.bool true]:=k
   injection k with k
   subst k
   exact⟨M,by rw[hM];rfl⟩
abbrev gW(W:Go.World):G:=gE fun b=>b<W.heap.size
theorem AX{W:Go.World}{b o:Nat}{v:Value}(h:W.cell? ⟨b,o,none⟩=some v):b<W.heap.size:=by
 by_cases hb:b<W.heap.size
 ·exact hb
 ·exfalso
  have e:W.heap[b]? =none:=Array.getElem?_eq_none (by omega)
  unfold Go.World.cell? at h
  dsimp only at h
  rw[e]at h
  cases h
theorem X8{g:G}{W:Go.World}(k:IntKind)(l:List Int): @bq pq g W (l.map (AV.int k)) (l.map (Value.int k)):=by
 induction l with
 |nil=>simp only[List.map_nil,bq]
 |cons a l ih=>
  simp only[List.map_cons,bq]
  exact⟨_,_,rfl,by simp only[VR],ih⟩
theorem abZ{H:Type}{enc:TypeId×Value->H}{W:Go.World}{fuel:Nat}{v:Value}{y:DataW H×List MemPlace}{k:IntKind}{t e:TypeId}(ht:Tryz.prog.underlying t=some (.slice e))(he:Tryz.prog.underlying e=some (.int k))(hc:Tryz.prog.cellsOf e=1)
 (h:DataW.trod enc Tryz.prog W 0 (fun _=>true) true fuel t [v]=some y): ∃ L,@VR pq (gW W) W (aK k L) v/\ ∀ n∈L,(Lit.int k n).wf=true:=by
 rcases Go.ChangeShapes.open_ints ht he hc h with⟨hv,_⟩|⟨a,len,cap,zs,hv,_,Oq,_,hz,_,hc,hw⟩
 ·injection hv with hv
  subst hv
  refine⟨[],?_,fun _ q=>by cases q⟩
  simp only[VR]
  exact⟨none,0,rfl,Nat.le_refl _,.inl ⟨rfl,rfl⟩⟩
 ·injection hv with hv
  subst hv
  have hz:zs.length=cap:=by simpa using hz
  refine⟨zs.take len,?_,fun n hn=>hw n (List.mem_of_mem_take hn)⟩
  have hl:(zs.take len).length=len:=by rw[List.length_take];omega
  simp only[VR]
  rw[hl]
  refine⟨some a,cap,rfl,Oq,?_⟩
  by_cases h0:len=0
  ·subst h0
   exact .inl ⟨rfl,by rw[List.take_zero];rfl⟩
  ·obtain⟨b,off,rfl,hq⟩:=ints_at hc (by omega)
   refine .inr ⟨b,off,(zs.take len).map (Value.int k),rfl,AX (hq 0 (by omega)),fun j u hj=>?_,X8 k _⟩
   rw[List.getElem?_map,Option.map_eq_some_iff]at hj
   obtain⟨n,hn,rfl⟩:=hj
   have hjl:=(List.getElem?_eq_some_iff.1 hn).1
   rw[hl]at hjl
   rw[hq j (by omega),List.getD_eq_getElem?_getD]
   rw[List.getElem?_take_of_lt hjl]at hn
   rw[hn]
   rfl
theorem Qs{W:Go.World}(h0:TabAt 0 Lib.deBruijn32tab W)(h1:TabAt 1 Lib.deBruijn64tab W): @gz pq (gW W) W:=by
 have key: ∀ (b:Nat) (l:List Nat),0<l.length->TabAt b l W->(gW W).cT b/\cO W b 0 (l.map fun n:Nat=>Value.int .u8 (n:Int)):=by
  intro b l hl h
  refine⟨AX (h 0 hl),fun j v e=>?_⟩
  rw[List.getElem?_map,Option.map_eq_some_iff]at e
  obtain⟨n,hn,rfl⟩:=e
  obtain⟨hj,hv⟩:=List.getElem?_eq_some_iff.1 hn
  rw[Nat.zero_add,h j hj,List.getD_eq_getElem?_getD,hn]
  rfl
 intro p hp
 rcases List.mem_cons.1 hp with rfl|hp
 ·exact key 0 _ (by decide) h0
 ·obtain rfl:p=_:=by simpa using hp
  exact key 1 _ (by decide) h1
theorem Lg{W:Go.World}{xs:List Int}{ke dr:Int}{vx:Value}(hU: ∀ y,y∈xs->U y)(hk:0<=ke/\ke<=255)(hd:0<=dr/\dr<=255)(hx: @VR pq (gW W) W (aK .u64 xs) vx)(h0:TabAt 0 Lib.deBruijn32tab W)(h1:TabAt 1 Lib.deBruijn64tab W):
 Calls Tryz.prog 4 #[vx,.int .u8 ke,.int .u8 dr] W fun e W'=>e=.returned (.bool true)/\Below W.heap.size W W':=by
 obtain⟨n,hn⟩:=Qr xs ke dr hU hk hd
 refine @NO pq Tryz.prog _ (KK n n) 4 _ [vx,.int .u8 ke,.int .u8 dr] hn W (fun b=>b<W.heap.size) (fun b h=>h) (Qs h0 h1) ?_
 simp only[bq]
 exact⟨_,_,rfl,hx,_,_,rfl,by simp only[VR],_,_,rfl,by simp only[VR],rfl⟩
end Go.Proofs.Vq
