import Derived.Test.YtcnkojgmochcgaaGreatDoorVqO
import Derived.Test.YtcnkojgmochcgaaGreatDoorVrD
import Derived.Test.YtcnkojgmochcgaaGreatDoorAb23
import Derived.OpenShut
import Derived.ChangeSlices
noncomputable section
namespace Go.Proofs.Vq
open Go.Ab Go.Ab.Lf
set_option maxRecDepth 100000
abbrev Ol:=List (Int×Int×Int)
def gN(o:Int):Int:=(m11 (o,())).1
def eG:Ol->List (den cQ)
 | []=>[]
 |(o,y,i)::l=>(bif decide (gN o=2)then [((66:Int),(0:Int),y),(o,i,(0:Int))]else [(o,i,(0:Int))])++eG l
def p5(o w y:Int):Int×Int:=bif decide (gN o=2)then((m12 (o,w,y,())).1,(m12 (o,w,y,())).2.1)else((m13 (o,w,())).1,(m13 (o,w,())).2.1)
def fq:Ol->Int->Int×Int
 | [],w=>(w,0)
 |(o,y,i)::l,w=>bif decide ((p5 o w y).2=0)then fq l (p5 o w y).1 else p5 o w y
def y8(l:Ol):Prop:= ∀ p,p∈l->Cp p.1/\U p.2.1/\(gN p.1=1∨gN p.1=2)
section
variable (g:Cg)(m:AE)(fu ho de:Int)(cs:List (den cQ))(ms:List Int)
abbrev cG(cs:List (den cQ))(ms:List Int):den fw:=((-1:Int),(0:Int),(1:Int),(1:Int),(0:Int),cs,ms)
theorem rB{pc:Nat}{st lo:List Int}{c:den cQ}{r:List (den cQ)}(hd:cs.drop pc=c::r)(hl:cs.length<=1099511627776){x':FR}
 (h:yR g (aW rz ⟨⟨m,fu,ho,de,0⟩,cG cs ms,pc,st,lo⟩ (c.1,c.2.1,c.2.2,()))=true/\yS g (aW rz ⟨⟨m,fu,ho,de,0⟩,cG cs ms,pc,st,lo⟩ (c.1,c.2.1,c.2.2,()))=aW [] x' ()):
 (oJ g (aN eZ (cL ⟨m,fu,ho,de,0⟩ (cG cs ms) (cG cs ms) pc st lo))).val=some (.next (aN eZ (cL x'.r (cG cs ms) x'.f x'.pc x'.st x'.lo))):=by
 obtain⟨eg,hg⟩:=kV hd (aS cQ)
 refine(L6 g ⟨m,fu,ho,de,0⟩ (cG cs ms) (cG cs ms) pc st lo cs rfl c (by rw[Int.toNat_natCast];exact hg.symm) _ rfl x' (by rw[h.2];rfl)).trans ?_
 rw[dt (rfl:(0:Int)=0),dt (show(0:Int)<=(pc:Int) by omega),df (show ¬ (cs.length:Int)<=(pc:Int) by omega),show cu (pc:Int) (cs.length:Int)=true from rj eg,h.1]
 rfl
theorem GF{x:Rn}{pc:Int}{st lo:List Int}(h:x.err≠0∨pc<0):(oJ g (aN eZ (cL x (cG cs ms) (cG cs ms) pc st lo))).val=some (.out 0 (aN ff (aW [] ⟨x,cG cs ms,pc,st,lo⟩ ()))):=by
 refine(L6 g x (cG cs ms) (cG cs ms) pc st lo cs rfl _ rfl _ rfl _ rfl).trans ?_
 have e:(bif decide (x.err=0)then decide (0<=pc)else false)=false:=by
  rcases h with h|h
  ·rw[df h];rfl
  ·rw[df (show ¬ 0<=pc by omega)];cases decide (x.err=0)<;>rfl
 rw[e]
 rfl
theorem xl{α:Type}{l r:List α}{c:α}{j:Nat}(h:l.drop j=c::r):l.drop (j+1)=r:=by rw[<-List.tail_drop,h];rfl
theorem QO{j:Nat}(h:j<=1099511627776):bf .i64 (j:Int) 1=((j+1:Nat):Int):=aaD (by omega)
theorem A5: ∀ (l:Ol) (j:Nat) (w:Int) (lo:List Int) (n:Int),y8 l->U w->cs.length<=1099511627776->cs.drop j=eG l++[((15:Int),(0:Int),n)]->
 ∃ pc st,lO (oJ g) (aN eZ (cL ⟨m,fu,ho,de,0⟩ (cG cs ms) (cG cs ms) j [w] lo)) 0 (aN ff (aW [] ⟨⟨m,fu,ho,de,(fq l w).2⟩,cG cs ms,pc,st,lo⟩ ()))/\st=[(fq l w).1]
 | [],j,w,lo,n,_,hw,hl,hd=>by
  have h1:=rB g m fu ho de cs ms (c:=((15:Int),(0:Int),n)) (r:=[]) (st:=[w]) (lo:=lo) hd hl (s15 g m fu ho de j w 0 n cs ms lo)
  exact⟨-1,[w],.more h1 (.last (GF g cs ms (.inr (show(-1:Int)<0 by decide)))),rfl⟩
 |(o,y,i)::l,j,w,lo,n,hL,hw,hl,hd=>by
  obtain⟨hO,hy,ha⟩:=hL (o,y,i) List.mem_cons_self
  have hL':y8 l:=fun p hp=>hL p (List.mem_cons_of_mem _ hp)
  have QP: ∀ {k:Nat} {c:den cQ} {r:List (den cQ)},cs.drop k=c::r->k<cs.length:=fun h=>(kV h (aS cQ)).1
  have fin: ∀ (k:Nat) (z e:Int) (st0:List Int),p5 o w y=(z,e)->U z->(oJ g (aN eZ (cL ⟨m,fu,ho,de,0⟩ (cG cs ms) (cG cs ms) (k:Int) st0 lo))).val=some (.next (aN eZ (cL ⟨m,fu,ho,de,e⟩ (cG cs ms) (cG cs ms) (bf .i64 (k:Int) 1) [z] lo)))->k<cs.length->cs.drop (k+1)=eG l++[((15:Int),(0:Int),n)]->
   ∃ pc st,lO (oJ g) (aN eZ (cL ⟨m,fu,ho,de,0⟩ (cG cs ms) (cG cs ms) (k:Int) st0 lo)) 0 (aN ff (aW [] ⟨⟨m,fu,ho,de,(fq ((o,y,i)::l) w).2⟩,cG cs ms,pc,st,lo⟩ ()))/\st=[(fq ((o,y,i)::l) w).1]:=by
   intro k z e st0 he hz h1 hk sa
   have QE:fq ((o,y,i)::l) w=bif decide (e=0)then fq l z else(z,e):=by show(bif decide ((p5 o w y).2=0)then fq l (p5 o w y).1 else p5 o w y)=_;rw[he]
   by_cases RA:e=0
   ·subst RA
    rw[QE,dt rfl,cond_true]
    rw[QO (by omega)]at h1
    obtain⟨pc,st,h2,h3⟩:=A5 l (k+1) z lo n hL' hz hl sa
    exact⟨pc,st,.more h1 h2,h3⟩
   ·rw[QE,df RA,cond_false]
    exact⟨_,_,.more h1 (.last (GF g cs ms (.inl RA))),rfl⟩
  rcases ha with ha|ha
  ·have sB:cs.drop j=(o,i,(0:Int))::(eG l++[((15:Int),(0:Int),n)]):=by
    rw[hd]
    show(bif decide (gN o=2)then _ else _)++eG l++_=_
    rw[df (show ¬ gN o=2 from fun q=>absurd (ha.symm.trans q) (by decide))];rfl
   refine fin j _ _ [w] ?_ (A3 o w hw).2 (rB g m fu ho de cs ms (st:=[w]) (lo:=lo) sB hl (XA g hO (pu m fu ho de (cG cs ms) j o w i 0 lo hO ha hw))) (QP sB) (xl sB)
   unfold p5
   rw[df (show ¬ gN o=2 from fun q=>absurd (ha.symm.trans q) (by decide))];rfl
  ·have sB:cs.drop j=((66:Int),(0:Int),y)::(o,i,(0:Int))::(eG l++[((15:Int),(0:Int),n)]):=by
    rw[hd]
    show(bif decide (gN o=2)then _ else _)++eG l++_=_
    rw[dt ha];rfl
   have hj:=QP sB
   have h1:=rB g m fu ho de cs ms (st:=[w]) (lo:=lo) sB hl (s66 g m fu ho de (cG cs ms) j w y lo)
   have ju:(oJ g (aN eZ (cL ⟨m,fu,ho,de,0⟩ (cG cs ms) (cG cs ms) (j:Int) [w] lo))).val=some (.next (aN eZ (cL ⟨m,fu,ho,de,0⟩ (cG cs ms) (cG cs ms) ((j+1:Nat):Int) [w,y] lo))):=by
    rw[<-QO (by omega)];exact h1
   have sa:=xl sB
   obtain⟨pc,st,h2,h3⟩:=fin (j+1) _ _ [w,y] (by unfold p5;rw[dt ha];rfl) (uS o w y hw hy).2 (rB g m fu ho de cs ms (st:=[w,y]) (lo:=lo) sa hl (XA g hO (pb m fu ho de (cG cs ms) ((j+1:Nat):Int) o w y i 0 lo hO ha hw hy))) (QP sa) (xl sa)
   exact⟨pc,st,.more ju h2,h3⟩
end
end Go.Proofs.Vq

noncomputable section
namespace Go.Proofs.Vq
open Go.Ab Go.Ab.Lf
set_option maxRecDepth 100000
def mc3(y:aI (rX [i64,i64,.aC u64])):AE:=⟨y.1,y.2.1,⟨y.2.2.1,y.2.2.2.1,y.2.2.2.2.1,y.2.2.2.2.2.1,(y.2.2.2.2.2.2.1,y.2.2.2.2.2.2.2.1,y.2.2.2.2.2.2.2.2.1,y.2.2.2.2.2.2.2.2.2.1,y.2.2.2.2.2.2.2.2.2.2.1,y.2.2.2.2.2.2.2.2.2.2.2.1,y.2.2.2.2.2.2.2.2.2.2.2.2.1,y.2.2.2.2.2.2.2.2.2.2.2.2.2.1,y.2.2.2.2.2.2.2.2.2.2.2.2.2.2.1,y.2.2.2.2.2.2.2.2.2.2.2.2.2.2.2.1,y.2.2.2.2.2.2.2.2.2.2.2.2.2.2.2.2.1,()),y.2.2.2.2.2.2.2.2.2.2.2.2.2.2.2.2.2.1,y.2.2.2.2.2.2.2.2.2.2.2.2.2.2.2.2.2.2.1⟩,⟨y.2.2.2.2.2.2.2.2.2.2.2.2.2.2.2.2.2.2.2.1,y.2.2.2.2.2.2.2.2.2.2.2.2.2.2.2.2.2.2.2.2.1,y.2.2.2.2.2.2.2.2.2.2.2.2.2.2.2.2.2.2.2.2.2.1⟩,(y.2.2.2.2.2.2.2.2.2.2.2.2.2.2.2.2.2.2.2.2.2.2.1,y.2.2.2.2.2.2.2.2.2.2.2.2.2.2.2.2.2.2.2.2.2.2.2.1,y.2.2.2.2.2.2.2.2.2.2.2.2.2.2.2.2.2.2.2.2.2.2.2.2.1,y.2.2.2.2.2.2.2.2.2.2.2.2.2.2.2.2.2.2.2.2.2.2.2.2.2.1,y.2.2.2.2.2.2.2.2.2.2.2.2.2.2.2.2.2.2.2.2.2.2.2.2.2.2.1,y.2.2.2.2.2.2.2.2.2.2.2.2.2.2.2.2.2.2.2.2.2.2.2.2.2.2.2.1,y.2.2.2.2.2.2.2.2.2.2.2.2.2.2.2.2.2.2.2.2.2.2.2.2.2.2.2.2.1,y.2.2.2.2.2.2.2.2.2.2.2.2.2.2.2.2.2.2.2.2.2.2.2.2.2.2.2.2.2.1,y.2.2.2.2.2.2.2.2.2.2.2.2.2.2.2.2.2.2.2.2.2.2.2.2.2.2.2.2.2.2.1,y.2.2.2.2.2.2.2.2.2.2.2.2.2.2.2.2.2.2.2.2.2.2.2.2.2.2.2.2.2.2.2.1,y.2.2.2.2.2.2.2.2.2.2.2.2.2.2.2.2.2.2.2.2.2.2.2.2.2.2.2.2.2.2.2.2.1,()),y.2.2.2.2.2.2.2.2.2.2.2.2.2.2.2.2.2.2.2.2.2.2.2.2.2.2.2.2.2.2.2.2.2.1⟩
theorem abv(g:Cg)(m:AE)(f fu:Int)(az:List Int)(fn:den fw)(Xs:fn=m.fns.getD f.toNat (aS fw))(sg:den cx)(Zj:sg=m.sigs.getD (fn.2.1:Int).toNat (aS cx))(a:aI jk)(ha:a=fP [i64,i64,.aC u64,.aC i64,i64,i64] m (f,fu,az,sg.1,(sg.1.length:Int),0,()))
 (z:aI gx)(hz:z=hJ sY jk gx a)(c:aI (oH [i64,.aC u64]))(hc:c=oI [i64,.aC u64] ⟨mc3 z,min (max (z.2.2.2.2.2.2.2.2.2.2.2.2.2.2.2.2.2.2.2.2.2.2.2.2.2.2.2.2.2.2.2.2.2.2.2.1:Int) 0) 100000,0,0,0⟩ (z.2.2.2.2.2.2.2.2.2.2.2.2.2.2.2.2.2.2.2.2.2.2.2.2.2.2.2.2.2.2.2.2.2.2.1,z.2.2.2.2.2.2.2.2.2.2.2.2.2.2.2.2.2.2.2.2.2.2.2.2.2.2.2.2.2.2.2.2.2.2.2.2.1,()))(R:Rn)(hR:R=rnO (g.2 c).2):
 (t23 g (fP [i64,.aC u64,i64] m (f,az,fu,()))).val=
  (let E:=some (aN rY (1,0,[],0,fP [] m ()))
   bif decide (f<0)then E else bif decide ((m.fns.length:Int)<=f)then E else bI (cu f (m.fns.length:Int)) (bif !decide ((az.length:Int)=fn.2.2.1)then E else
   bif m.bad then some (aN rY (40,0,[],0,fP [] m ()))else
   bI (decide (az.length<=1099511627776)) (bI (cu f (m.fns.length:Int)&&cu fn.2.1 (m.sigs.length:Int)) (bI (Cf sY jk gx a) (bI (g.1 c)
    (bif decide (R.err=0)then some (aN rY (R.err,0,(g.2 c).1,R.fuel,fP [] R.m ()))else bif decide (R.err=28)then some (aN rY (R.err,R.m.h.code,[],R.fuel,fP [] R.m ()))else some (aN rY (R.err,0,[],R.fuel,fP [] R.m ())))))))):=by
 subst hR;subst hc;subst hz;subst ha;subst Zj;subst Xs
 show _=_
 kernel_rfl
end Go.Proofs.Vq

noncomputable section
namespace Go.Proofs.Vq
open Go.Ab Go.Ab.Lf
set_option maxRecDepth 100000
theorem abw(ss:List (den cx))(fs:List (den fw))(v sm fi tb nN:List Int)(mo:Int)(h:Pt)(bad:Bool)(hb:bad= !decide ((WC (ss,fs,())).1=0))(a0:aI jY)(ha:a0=(ss,fs,ss,jX (jW (iJ [.bool,i64,i64])) ⟨v,sm,fi,tb,bW,nN,mo⟩ (nE (iJ [.bool,i64,i64]) h (rq [.bool,i64,i64] bW (bad,(ss.length:Int),0,())))))
 (z0:aI gy)(hz:z0=hJ s0 jY gy a0)(a2:aI jl)(Sa:a2=(z0.2.2.1,z0.2.1,z0.2.2.2.1,z0.2.2.2.2.1,z0.2.2.2.2.2.1,z0.2.2.2.2.2.2.1,z0.2.2.2.2.2.2.2.1,z0.2.2.2.2.2.2.2.2.1,z0.2.2.2.2.2.2.2.2.2.1,z0.2.2.2.2.2.2.2.2.2.2.1,z0.2.2.2.2.2.2.2.2.2.2.2.1,z0.2.2.2.2.2.2.2.2.2.2.2.2.1,z0.2.2.2.2.2.2.2.2.2.2.2.2.2.1,z0.2.2.2.2.2.2.2.2.2.2.2.2.2.2.1,z0.2.2.2.2.2.2.2.2.2.2.2.2.2.2.2.1,z0.2.2.2.2.2.2.2.2.2.2.2.2.2.2.2.2.1,z0.2.2.2.2.2.2.2.2.2.2.2.2.2.2.2.2.2.1,z0.2.2.2.2.2.2.2.2.2.2.2.2.2.2.2.2.2.2.1,z0.2.2.2.2.2.2.2.2.2.2.2.2.2.2.2.2.2.2.2.1,z0.2.2.2.2.2.2.2.2.2.2.2.2.2.2.2.2.2.2.2.2.1,z0.2.2.2.2.2.2.2.2.2.2.2.2.2.2.2.2.2.2.2.2.2.1,z0.2.2.2.2.2.2.2.2.2.2.2.2.2.2.2.2.2.2.2.2.2.2.1,z0.2.2.2.2.2.2.2.2.2.2.2.2.2.2.2.2.2.2.2.2.2.2.2.1,z0.2.2.2.2.2.2.2.2.2.2.2.2.2.2.2.2.2.2.2.2.2.2.2.2.1,z0.2.2.2.2.2.2.2.2.2.2.2.2.2.2.2.2.2.2.2.2.2.2.2.2.2.1,z0.2.2.2.2.2.2.2.2.2.2.2.2.2.2.2.2.2.2.2.2.2.2.2.2.2.2.1,z0.2.2.2.2.2.2.2.2.2.2.2.2.2.2.2.2.2.2.2.2.2.2.2.2.2.2.2.1,z0.2.2.2.2.2.2.2.2.2.2.2.2.2.2.2.2.2.2.2.2.2.2.2.2.2.2.2.2.1,z0.2.2.2.2.2.2.2.2.2.2.2.2.2.2.2.2.2.2.2.2.2.2.2.2.2.2.2.2.2.1,z0.2.2.2.2.2.2.2.2.2.2.2.2.2.2.2.2.2.2.2.2.2.2.2.2.2.2.2.2.2.2.1,z0.2.2.2.2.2.2.2.2.2.2.2.2.2.2.2.2.2.2.2.2.2.2.2.2.2.2.2.2.2.2.2.1,z0.2.2.2.2.2.2.2.2.2.2.2.2.2.2.2.2.2.2.2.2.2.2.2.2.2.2.2.2.2.2.2.2.1,z0.2.2.2.2.2.2.2.2.2.2.2.2.2.2.2.2.2.2.2.2.2.2.2.2.2.2.2.2.2.2.2.2.2.1,z0.2.2.2.2.2.2.2.2.2.2.2.2.2.2.2.2.2.2.2.2.2.2.2.2.2.2.2.2.2.2.2.2.2.2.1,(z0.2.1.length:Int),0,())):
 (t22 (ss,fs,jX (jW []) ⟨v,sm,fi,tb,bW,nN,mo⟩ (nE [] h ()))).val=
  bI (CB bW) (bI (Ys (ss,fs,())) (bI (decide (ss.length<=1099511627776)) (bI (Cf s0 jY gy a0) (bI (decide (z0.2.1.length<=549755813888)) (bI (Cf ru jl gz a2) (some (aN yW (hJ ru jl gz a2)))))))):=by
 subst Sa;subst hz;subst ha;subst hb
 show _=_
 kernel_rfl
abbrev cX:den cx:=([126],[126])
section
variable (cs:List (den cQ))(v sm fi tb nN:List Int)(mo:Int)(h:Pt)(bad:Bool)
theorem GG(md:aI tM)(i:Int)(ss:List (den cx))(n:Int)(fs:List (den fw))(sg:List (den cx))(s1:den cx)(xy:s1=sg.getD i.toNat (aS cx)):(s0 (aN jY (ss,fs,sg,jX (jW (iJ [.bool,i64,i64])) ⟨v,sm,fi,tb,md,nN,mo⟩ (nE (iJ [.bool,i64,i64]) h (rq [.bool,i64,i64] md (bad,n,i,())))))).val=
 bif decide (i<n)then(bI (cu i (sg.length:Int)) (bI (decide (s1.1.length<=1099511627776)) (bI (decide (s1.2.length<=1099511627776)) (bI (cu i (sg.length:Int)) (some (.next (aN jY (ss,fs,sg.set i.toNat (s1.1,s1.2),jX (jW (iJ [.bool,i64,i64])) ⟨v,sm,fi,tb,md,nN,mo⟩ (nE (iJ [.bool,i64,i64]) h (rq [.bool,i64,i64] md (bad,n,bf .i64 i 1,())))))))))))else some (.out 0 (aN gy (ss,fs,sg,jX (jW (iJ [.bool])) ⟨v,sm,fi,tb,md,nN,mo⟩ (nE (iJ [.bool]) h (rq [.bool] md (bad,())))))):=by
 subst xy
 show _=_
 kernel_rfl
theorem GH(m:AE)(n i:Int)(fn:den fw)(hf:fn=m.fns.getD i.toNat (aS fw)):(ru (aN jl (fP [i64,i64] m (n,i,())))).val=
 bif decide (i<n)then(bI (cu i (m.fns.length:Int)) (bI (decide (fn.2.2.2.2.2.1.length<=1099511627776)) (bI (cu i (m.fns.length:Int)) (some (.next (aN jl (fP [i64,i64] {m with fns:=m.fns.set i.toNat (fn.1,fn.2.1,fn.2.2.1,fn.2.2.2.1,fn.2.2.2.2.1,fn.2.2.2.2.2.1,fn.2.2.2.2.2.2)} (n,bf .i64 i 1,()))))))))else some (.out 0 (aN gz (fP [] m ()))):=by
 subst hf
 show _=_
 kernel_rfl
theorem XB:lO s0 (aN jY ([cX],[cG cs []],[cX],jX (jW (iJ [.bool,i64,i64])) ⟨v,sm,fi,tb,bW,nN,mo⟩ (nE (iJ [.bool,i64,i64]) h (rq [.bool,i64,i64] bW (bad,1,0,()))))) 0
 (aN gy ([cX],[cG cs []],[cX],jX (jW (iJ [.bool])) ⟨v,sm,fi,tb,bW,nN,mo⟩ (nE (iJ [.bool]) h (rq [.bool] bW (bad,()))))):=by
 have e0:=GG v sm fi tb nN mo h bad bW 0 [cX] 1 [cG cs []] [cX] cX rfl
 have e1:=GG v sm fi tb nN mo h bad bW 1 [cX] 1 [cG cs []] [cX] _ rfl
 rw[dt (show(0:Int)<1 by decide),show cu 0 (([cX]:List (den cx)).length:Int)=true from rfl,dt (show cX.1.length<=1099511627776 by decide),show bf .i64 0 1=1 from by kernel_rfl]at e0
 rw[df (show ¬ (1:Int)<1 by decide)]at e1
 exact .more e0 (.last e1)
theorem XC(hl:cs.length<=1099511627776):lO ru (aN jl (fP [i64,i64] ⟨[cX],[cG cs []],⟨v,sm,fi,tb,bW,nN,mo⟩,h,bW,bad⟩ (1,0,()))) 0 (aN gz (fP [] ⟨[cX],[cG cs []],⟨v,sm,fi,tb,bW,nN,mo⟩,h,bW,bad⟩ ())):=by
 have e0:=GH ⟨[cX],[cG cs []],⟨v,sm,fi,tb,bW,nN,mo⟩,h,bW,bad⟩ 1 0 (cG cs []) rfl
 have e1:=GH ⟨[cX],[cG cs []],⟨v,sm,fi,tb,bW,nN,mo⟩,h,bW,bad⟩ 1 1 _ rfl
 rw[dt (show(0:Int)<1 by decide),show cu 0 (([cG cs []]:List (den fw)).length:Int)=true from rfl,dt (show(cG cs []).2.2.2.2.2.1.length<=1099511627776 from hl),show bf .i64 0 1=1 from by kernel_rfl]at e0
 rw[df (show ¬ (1:Int)<1 by decide)]at e1
 exact .more e0 (.last e1)
theorem P9(hl:cs.length<=1099511627776)(hk:Ys ([cX],[cG cs []],())=true)(hb:bad= !decide ((WC ([cX],[cG cs []],())).1=0)):
 QN ([cX],[cG cs []],jX (jW []) ⟨v,sm,fi,tb,bW,nN,mo⟩ (nE [] h ()))=true/\m22 ([cX],[cG cs []],jX (jW []) ⟨v,sm,fi,tb,bW,nN,mo⟩ (nE [] h ()))=fP [] ⟨[cX],[cG cs []],⟨v,sm,fi,tb,bW,nN,mo⟩,h,bW,bad⟩ ():=by
 refine dD (aq _) (aq _) ?_
 have q0:=wL (XB cs v sm fi tb nN mo h bad)
 have q2:=wL (XC cs v sm fi tb nN mo h bad hl)
 refine(abw [cX] [cG cs []] v sm fi tb nN mo h bad hb _ rfl _ q0.2.symm _ rfl).trans ?_
 rw[uJ,hk]
 refine Eq.trans (b:=bI (Cf s0 jY gy ([cX],[cG cs []],[cX],jX (jW (iJ [.bool,i64,i64])) ⟨v,sm,fi,tb,bW,nN,mo⟩ (nE (iJ [.bool,i64,i64]) h (rq [.bool,i64,i64] bW (bad,1,0,()))))) (bI (Cf ru jl gz (fP [i64,i64] ⟨[cX],[cG cs []],⟨v,sm,fi,tb,bW,nN,mo⟩,h,bW,bad⟩ (1,0,()))) (some (aN yW (hJ ru jl gz (fP [i64,i64] ⟨[cX],[cG cs []],⟨v,sm,fi,tb,bW,nN,mo⟩,h,bW,bad⟩ (1,0,()))))))) ?_ ?_
 ·show _=_
  kernel_rfl
 ·rw[q0.1,q2.1,q2.2]
  rfl
end
end Go.Proofs.Vq

noncomputable section
namespace Go.Proofs.Vq
open Go.Ab Go.Ab.Lf
set_option maxRecDepth 100000
theorem La{α:Type}{f:List Pl->T Rs}{l:List α}(st:Nat->List Pl)(p:α->Bool)(o0 o1:List Pl)
 (XD: ∀ j x r,l.drop j=x::r->(f (st j)).val=some (bif p x then .next (st (j+1))else .out 1 o1))(abx:(f (st l.length)).val=some (.out 0 o0)):lO f (st 0) (bif l.all p then 0 else 1) (bif l.all p then o0 else o1):=by
 have key: ∀ (r:List α) (j:Nat),l.drop j=r->j<=l.length->lO f (st j) (bif r.all p then 0 else 1) (bif r.all p then o0 else o1):=by
  intro r
  induction r with
  |nil=>
   intro j h hj
   have:j=l.length:=by have:=List.drop_eq_nil_iff.1 h;omega
   subst this
   exact .last abx
  |cons x r ih=>
   intro j h hj
   have eg:j<l.length:=by
    rcases Nat.lt_or_ge j l.length with k|k
    ·exact k
    ·rw[List.drop_eq_nil_of_le k]at h;cases h
   have hr:l.drop (j+1)=r:=by rw[<-List.tail_drop,h];rfl
   have hs:=XD j x r h
   rw[List.all_cons]
   cases hp:p x with
   |true=>rw[hp]at hs;rw[Bool.true_and];exact .more hs (ih (j+1) hr eg)
   |false=>rw[hp]at hs;exact .last hs
 exact key l 0 rfl (Nat.zero_le _)
section
variable (cs:List (den cQ))
abbrev kY(cs:List (den cQ))(t:Int)(c:den cQ):aI sW:=([cX],[cG cs []],-1,0,1,1,0,cs,[],t,c.1,c.2.1,c.2.2,())
theorem m32(t n:Int):wS (kY cs t ((32:Int),(0:Int),n))=true/\uG (kY cs t ((32:Int),(0:Int),n))=(true,()):=by
 refine dD (aq _) (aq _) ?_
 refine(A0 [cX] [cG cs []] (-1) 0 1 1 0 cs [] t 32 0 n).trans ?_
 show _=_
 kernel_rfl
theorem a66:FN (66,())=true/\FO (66,())=(true,()):=by
 refine dD (aq _) (aq _) ?_
 rw[Gw];show _=_;kernel_rfl
theorem Yx(t n:Int):wS (kY cs t ((66:Int),(0:Int),n))=true/\uG (kY cs t ((66:Int),(0:Int),n))=(true,()):=by
 refine dD (aq _) (aq _) ?_
 refine(A0 [cX] [cG cs []] (-1) 0 1 1 0 cs [] t 66 0 n).trans ?_
 rw[a66.1,a66.2]
 show _=_
 kernel_rfl
theorem aby:(m11 (15,())).1=0:=by
 have e:yN (15,())=true/\m11 (15,())=(0,()):=by
  refine dD (aq _) (aq _) ?_
  rw[Xv];show _=_;kernel_rfl
 rw[e.2]
theorem a15:FN (15,())=true/\FO (15,())=(true,()):=by
 refine dD (aq _) (aq _) ?_
 rw[Gw,(o3 15).1,aby];show _=_;kernel_rfl
theorem m15(t a n:Int):wS (kY cs t ((15:Int),a,n))=true/\uG (kY cs t ((15:Int),a,n))=(true,()):=by
 refine dD (aq _) (aq _) ?_
 refine(A0 [cX] [cG cs []] (-1) 0 1 1 0 cs [] t 15 a n).trans ?_
 rw[a15.1,a15.2]
 show _=_
 kernel_rfl
theorem aO{o:Int}(h:Cp o):FN (o,())=true/\FO (o,())=(decide (0<gN o),()):=by
 obtain⟨h1,h2⟩:=h
 refine dD (aq _) (aq _) ?_
 rw[Gw,df (show ¬ o=0 by omega),df (show ¬ o=12 by omega),df (show ¬ o=257 by omega),df (show ¬ o=13 by omega),df (show ¬ o=14 by omega),df (show ¬ o=26 by omega),df (show ¬ o=33 by omega),df (show ¬ o=36 by omega),df (show ¬ o=27 by omega),
  df (show ¬ o=32 by omega),df (show ¬ o=35 by omega),df (show ¬ o=63 by omega),df (show ¬ o=66 by omega),df (show ¬ o=34 by omega),df (show ¬ o=64 by omega),df (show ¬ o=40 by omega),df (show ¬ o=41 by omega),dt (show(44:Int)<=o by omega),df (show ¬ o<=53 by omega),df (show ¬ o=54 by omega),df (show ¬ o=55 by omega),dt (show(58:Int)<=o by omega),df (show ¬ o<=62 by omega),
  df (show ¬ o=15 by omega),df (show ¬ o=16 by omega),df (show ¬ o=17 by omega),df (show ¬ o=256 by omega),(o3 o).1]
 by_cases hp:0<gN o
 ·rw[dt hp,show decide (0<(m11 (o,())).1)=true from dt hp];rfl
 ·rw[df hp,show decide (0<(m11 (o,())).1)=false from df hp];rfl
theorem mO{o:Int}(h:Cp o)(t a n:Int):wS (kY cs t (o,a,n))=true/\uG (kY cs t (o,a,n))=(decide (0<gN o),()):=by
 have q:=aO h
 obtain⟨h1,h2⟩:=h
 refine dD (aq _) (aq _) ?_
 refine(A0 [cX] [cG cs []] (-1) 0 1 1 0 cs [] t o a n).trans ?_
 rw[df (show ¬ o=12 by omega),df (show ¬ o=13 by omega),df (show ¬ o=14 by omega),df (show ¬ o=16 by omega),df (show ¬ o=17 by omega),df (show ¬ o=32 by omega),df (show ¬ o=33 by omega),df (show ¬ o=34 by omega),df (show ¬ o=35 by omega),df (show ¬ o=36 by omega),df (show ¬ o=256 by omega),q.1,q.2]
 rfl
def eH(c:den cQ):Bool:=(uG (kY [] 0 c)).1
def s7(c:den cQ):Prop:=(∃ n,c=((32:Int),(0:Int),n))∨(∃ n,c=((66:Int),(0:Int),n))∨(∃ a n,c=((15:Int),a,n))∨(∃ o a n,Cp o/\c=(o,a,n))
theorem P'{c:den cQ}(h:s7 c)(t:Int):wS (kY cs t c)=true/\(uG (kY cs t c)).1=eH c:=by
 rcases h with⟨n,rfl⟩|⟨n,rfl⟩|⟨a,n,rfl⟩|⟨o,a,n,ho,rfl⟩
 ·exact⟨(m32 cs t n).1,by unfold eH;rw[(m32 cs t n).2,(m32 [] 0 n).2]⟩
 ·exact⟨(Yx cs t n).1,by unfold eH;rw[(Yx cs t n).2,(Yx [] 0 n).2]⟩
 ·exact⟨(m15 cs t a n).1,by unfold eH;rw[(m15 cs t a n).2,(m15 [] 0 a n).2]⟩
 ·exact⟨(mO cs ho t a n).1,by unfold eH;rw[(mO cs ho t a n).2,(mO [] ho 0 a n).2]⟩
theorem abz(hc: ∀ c,c∈cs->s7 c)(hl:cs.length<=1099511627776):lO nD (aN iU (-1,0,1,1,0,cs,[],[cX],[cG cs []],cs,(cs.length:Int),((0:Nat):Int),())) (bif cs.all eH then 0 else 1) (bif cs.all eH then aN iV ()else aN gb (false,())):=by
 refine La (l:=cs) (fun j=>aN iU (-1,0,1,1,0,cs,[],[cX],[cG cs []],cs,(cs.length:Int),(j:Int),())) eH _ _ (fun j c r e=>?_) ?_
 ·obtain⟨e1,e2⟩:=kV e (aS cQ)
  have hm:c∈cs:=by
   have:c∈cs.drop j:=by rw[e];exact List.mem_cons_self
   exact List.mem_of_mem_drop this
  obtain⟨q1,q2⟩:=P' cs (hc c hm) (j:Int)
  refine(L7 (-1) 0 1 1 0 cs [] [cX] [cG cs []] cs (cs.length:Int) (j:Int)).trans ?_
  have hg:cs.getD ((j:Int).toNat) (aS cQ)=c:=by rw[Int.toNat_natCast];exact e2
  rw[yK e1,show cu (j:Int) (cs.length:Int)=true from rj e1,QO (by omega)]
  rw[show(List.getD cs (j:Int).toNat (aS ((Ty.int .i64).pair ((Ty.int .i64).pair (Ty.int .u64)))))=c from hg]
  rw[show wS ([cX],[cG cs []],-1,0,1,1,0,cs,[],(j:Int),c.1,c.2.1,c.2.2,())=true from q1,show(uG ([cX],[cG cs []],-1,0,1,1,0,cs,[],(j:Int),c.1,c.2.1,c.2.2,())).1=eH c from q2]
  cases eH c<;>rfl
 ·refine(L7 (-1) 0 1 1 0 cs [] [cX] [cG cs []] cs (cs.length:Int) (cs.length:Int)).trans ?_
  rw[Ah (Nat.le_refl _)]
  rfl
end
end Go.Proofs.Vq

noncomputable section
namespace Go.Proofs.Vq
open Go.Ab Go.Ab.Lf
set_option maxRecDepth 100000
section
variable (cs:List (den cQ))
theorem f84(hc: ∀ c,c∈cs->s7 c)(hl:cs.length<=1099511627776)(h0:cs≠[]):Yq ([cX],[cG cs []],-1,0,1,1,0,cs,[],())=true/\Yr ([cX],[cG cs []],-1,0,1,1,0,cs,[],())=(cs.all eH,()):=by
 refine dD (aq _) (aq _) ?_
 have hp:(0:Int)<(cs.length:Int):=by have:=List.length_pos_iff.2 h0;omega
 have r:=abz cs hc hl
 have e:=abm [cX] [cG cs []] (-1) 0 1 1 0 cs []
 rw[dt hp]at e
 cases hb:cs.all eH with
 |true=>
  rw[hb]at r
  obtain⟨q1,q2,_⟩:=oD (f:=nD) (ti:=iU) (t0:=iV) (t1:=gb) (y:=()) (x:=(-1,0,1,1,0,cs,[],[cX],[cG cs []],cs,(cs.length:Int),0,())) r
  refine e.trans ?_
  refine Eq.trans (b:=bI (sV nD iU iV gb (-1,0,1,1,0,cs,[],[cX],[cG cs []],cs,(cs.length:Int),0,())) (bif rH nD iU (-1,0,1,1,0,cs,[],[cX],[cG cs []],cs,(cs.length:Int),0,())then some (aN px (true,()))else some (aN px ((hJ nD iU gb (-1,0,1,1,0,cs,[],[cX],[cG cs []],cs,(cs.length:Int),0,())).1,())))) ?_ ?_
  ·show _=_
   kernel_rfl
  ·rw[q1,q2];rfl
 |false=>
  rw[hb]at r
  obtain⟨q1,q2,q3⟩:=Fw (f:=nD) (ti:=iU) (t0:=iV) (t1:=gb) (y:=(false,())) (x:=(-1,0,1,1,0,cs,[],[cX],[cG cs []],cs,(cs.length:Int),0,())) r
  refine e.trans ?_
  refine Eq.trans (b:=bI (sV nD iU iV gb (-1,0,1,1,0,cs,[],[cX],[cG cs []],cs,(cs.length:Int),0,())) (bif rH nD iU (-1,0,1,1,0,cs,[],[cX],[cG cs []],cs,(cs.length:Int),0,())then some (aN px (true,()))else some (aN px ((hJ nD iU gb (-1,0,1,1,0,cs,[],[cX],[cG cs []],cs,(cs.length:Int),0,())).1,())))) ?_ ?_
  ·show _=_
   kernel_rfl
  ·rw[q1,q2,q3];rfl
theorem f83:QK ([126],())=true/\QL ([126],())=(true,()):=by
 refine dD (aq _) (aq _) ?_
 have r:lO uF (aN oW ([126],1,0,())) 0 (aN nB ()):=by
  refine .more (pl':=aN oW ([126],1,1,())) ?_ (.last ?_)
  ·show _=_;kernel_rfl
  ·show _=_;kernel_rfl
 obtain⟨q1,q2,_⟩:=oD (f:=uF) (ti:=oW) (t0:=nB) (t1:=nC) (y:=()) (x:=([126],1,0,())) r
 refine(abl [126]).trans ?_
 refine Eq.trans (b:=bI (sV uF oW nB nC ([126],1,0,())) (bif rH uF oW ([126],1,0,())then some (aN wQ (true,()))else some (aN wQ ((hJ uF oW nC ([126],1,0,())).1,())))) ?_ ?_
 ·show _=_
  kernel_rfl
 ·rw[q1,q2];rfl
theorem XE:lO f340 (aN eW ([cX],[cG cs []],[cX],1,0,())) 0 (aN dQ ([cX],[cG cs []],())):=by
 have e0:=L8 [cX] [cG cs []] [cX] 1 0
 have e1:=L8 [cX] [cG cs []] [cX] 1 1
 refine .more (pl':=aN eW ([cX],[cG cs []],[cX],1,1,())) (e0.trans ?_) (.last (e1.trans ?_))
 ·refine Eq.trans (b:=bI (QK ([126],())) (bif !(QL ([126],())).1 then some (.out 1 (aN gf (1,())))else bI (QK ([126],())) (bif !(QL ([126],())).1 then some (.out 1 (aN gf (1,())))else some (.next (aN eW ([cX],[cG cs []],[cX],1,bf .i64 0 1,())))))) ?_ ?_
  ·show _=_
   kernel_rfl
  ·rw[f83.1,f83.2,show bf .i64 0 1=1 from by kernel_rfl];rfl
 ·show _=_
  kernel_rfl
theorem f34(hc: ∀ c,c∈cs->s7 c)(hl:cs.length<=1099511627776)(h0:cs≠[]):Ys ([cX],[cG cs []],())=true/\WC ([cX],[cG cs []],())=(bif cs.all eH then 0 else 1,()):=by
 refine dD (aq _) (aq _) ?_
 obtain⟨q1,q2,_⟩:=oD (f:=f340) (ti:=eW) (t0:=dQ) (t1:=gf) (y:=([cX],[cG cs []],())) (x:=([cX],[cG cs []],[cX],1,0,())) (XE cs)
 have q3:=(oD (f:=f340) (ti:=eW) (t0:=dQ) (t1:=gf) (y:=([cX],[cG cs []],())) (x:=([cX],[cG cs []],[cX],1,0,())) (XE cs)).2.2
 have f:=f84 cs hc hl h0
 have e0:=L9 [cX] [cG cs []] 1 0
 have e1:=L9 [cX] [cG cs []] 1 1
 have r:lO f342 (aN gq ([cX],[cG cs []],1,0,())) (bif cs.all eH then 0 else 1) (bif cs.all eH then aN hZ ()else aN fe (1,())):=by
  have h:(f342 (aN gq ([cX],[cG cs []],1,0,()))).val=bI (Yq ([cX],[cG cs []],-1,0,1,1,0,cs,[],())) (bif !(Yr ([cX],[cG cs []],-1,0,1,1,0,cs,[],())).1 then some (.out 1 (aN fe (1,())))else some (.next (aN gq ([cX],[cG cs []],1,bf .i64 0 1,())))):=by
   refine e0.trans ?_
   show _=_
   kernel_rfl
  rw[f.1,f.2,show bf .i64 0 1=1 from by kernel_rfl]at h
  cases hb:cs.all eH with
  |true=>
   rw[hb]at h
   refine .more h (.last (e1.trans ?_))
   show _=_
   kernel_rfl
  |false=>
   rw[hb]at h
   exact .last h
 refine(abn [cX] [cG cs []]).trans ?_
 refine Eq.trans (b:=bI (sV f340 eW dQ gf ([cX],[cG cs []],[cX],1,0,())) (bif rH f340 eW ([cX],[cG cs []],[cX],1,0,())then
  bI (sV f342 gq hZ fe ((hJ f340 eW dQ ([cX],[cG cs []],[cX],1,0,())).1,(hJ f340 eW dQ ([cX],[cG cs []],[cX],1,0,())).2.1,((hJ f340 eW dQ ([cX],[cG cs []],[cX],1,0,())).2.1.length:Int),0,())) (bif rH f342 gq ((hJ f340 eW dQ ([cX],[cG cs []],[cX],1,0,())).1,(hJ f340 eW dQ ([cX],[cG cs []],[cX],1,0,())).2.1,((hJ f340 eW dQ ([cX],[cG cs []],[cX],1,0,())).2.1.length:Int),0,())then some (aN rm (0,()))
   else some (aN rm ((hJ f342 gq fe ((hJ f340 eW dQ ([cX],[cG cs []],[cX],1,0,())).1,(hJ f340 eW dQ ([cX],[cG cs []],[cX],1,0,())).2.1,((hJ f340 eW dQ ([cX],[cG cs []],[cX],1,0,())).2.1.length:Int),0,())).1,())))else some (aN rm ((hJ f340 eW gf ([cX],[cG cs []],[cX],1,0,())).1,())))) ?_ ?_
 ·show _=_
  kernel_rfl
 ·rw[q1,q2,q3]
  cases hb:cs.all eH with
  |true=>
   rw[hb]at r
   obtain⟨p1,p2,_⟩:=oD (f:=f342) (ti:=gq) (t0:=hZ) (t1:=fe) (y:=()) (x:=([cX],[cG cs []],1,0,())) r
   show bI true (bI (sV f342 gq hZ fe ([cX],[cG cs []],1,0,())) (bif rH f342 gq ([cX],[cG cs []],1,0,())then _ else _))=_
   rw[p1,p2]
   rfl
  |false=>
   rw[hb]at r
   obtain⟨p1,p2,p3⟩:=Fw (f:=f342) (ti:=gq) (t0:=hZ) (t1:=fe) (y:=(1,())) (x:=([cX],[cG cs []],1,0,())) r
   show bI true (bI (sV f342 gq hZ fe ([cX],[cG cs []],1,0,())) (bif rH f342 gq ([cX],[cG cs []],1,0,())then _ else some (aN rm ((hJ f342 gq fe ([cX],[cG cs []],1,0,())).1,()))))=_
   rw[p1,p2,p3]
   rfl
end
end Go.Proofs.Vq

noncomputable section
namespace Go.Proofs.Vq
open Go.Ab Go.Ab.Lf
set_option maxRecDepth 100000
theorem abA(g:Cg)(ss:List (den cx))(fs:List (den fw))(az:List Int)(fu:Int)(X:aI Ck)(hX:X=(ss,fs,jX (jW []) xg (nE [] ⟨[],[],0⟩ ())))(z:aI yW)(hz:z=m22 X)(Y:aI Cj)(hY:Y=(z.1,z.2.1,z.2.2.1,z.2.2.2.1,z.2.2.2.2.1,z.2.2.2.2.2.1,z.2.2.2.2.2.2.1,z.2.2.2.2.2.2.2.1,z.2.2.2.2.2.2.2.2.1,z.2.2.2.2.2.2.2.2.2.1,z.2.2.2.2.2.2.2.2.2.2.1,z.2.2.2.2.2.2.2.2.2.2.2.1,z.2.2.2.2.2.2.2.2.2.2.2.2.1,z.2.2.2.2.2.2.2.2.2.2.2.2.2.1,z.2.2.2.2.2.2.2.2.2.2.2.2.2.2.1,z.2.2.2.2.2.2.2.2.2.2.2.2.2.2.2.1,z.2.2.2.2.2.2.2.2.2.2.2.2.2.2.2.2.1,z.2.2.2.2.2.2.2.2.2.2.2.2.2.2.2.2.2.1,z.2.2.2.2.2.2.2.2.2.2.2.2.2.2.2.2.2.2.1,z.2.2.2.2.2.2.2.2.2.2.2.2.2.2.2.2.2.2.2.1,z.2.2.2.2.2.2.2.2.2.2.2.2.2.2.2.2.2.2.2.2.1,z.2.2.2.2.2.2.2.2.2.2.2.2.2.2.2.2.2.2.2.2.2.1,z.2.2.2.2.2.2.2.2.2.2.2.2.2.2.2.2.2.2.2.2.2.2.1,z.2.2.2.2.2.2.2.2.2.2.2.2.2.2.2.2.2.2.2.2.2.2.2.1,z.2.2.2.2.2.2.2.2.2.2.2.2.2.2.2.2.2.2.2.2.2.2.2.2.1,z.2.2.2.2.2.2.2.2.2.2.2.2.2.2.2.2.2.2.2.2.2.2.2.2.2.1,z.2.2.2.2.2.2.2.2.2.2.2.2.2.2.2.2.2.2.2.2.2.2.2.2.2.2.1,z.2.2.2.2.2.2.2.2.2.2.2.2.2.2.2.2.2.2.2.2.2.2.2.2.2.2.2.1,z.2.2.2.2.2.2.2.2.2.2.2.2.2.2.2.2.2.2.2.2.2.2.2.2.2.2.2.2.1,z.2.2.2.2.2.2.2.2.2.2.2.2.2.2.2.2.2.2.2.2.2.2.2.2.2.2.2.2.2.1,z.2.2.2.2.2.2.2.2.2.2.2.2.2.2.2.2.2.2.2.2.2.2.2.2.2.2.2.2.2.2.1,z.2.2.2.2.2.2.2.2.2.2.2.2.2.2.2.2.2.2.2.2.2.2.2.2.2.2.2.2.2.2.2.1,z.2.2.2.2.2.2.2.2.2.2.2.2.2.2.2.2.2.2.2.2.2.2.2.2.2.2.2.2.2.2.2.2.1,z.2.2.2.2.2.2.2.2.2.2.2.2.2.2.2.2.2.2.2.2.2.2.2.2.2.2.2.2.2.2.2.2.2.1,0,az,fu,()))(r:aI rY)(hr:r=m23 g Y):
 (t14 g (ss,fs,az,fu,())).val=bI (CB bW) (bI (dZ 0 0 0) (bI (decide (([]:List Int).length<=1099511627776)) (bI (QN X) (bI (Xd g Y) (some (aN yY (r.1,r.2.1,r.2.2.1,r.2.2.2.1,r.2.2.2.2.2.2.1,r.2.2.2.2.2.2.2.1,r.2.2.2.2.2.2.2.2.1,r.2.2.2.2.2.2.2.2.2.1,r.2.2.2.2.2.2.2.2.2.2.1,r.2.2.2.2.2.2.2.2.2.2.2.1,r.2.2.2.2.2.2.2.2.2.2.2.2.1,r.2.2.2.2.2.2.2.2.2.2.2.2.2.1,r.2.2.2.2.2.2.2.2.2.2.2.2.2.2.1,r.2.2.2.2.2.2.2.2.2.2.2.2.2.2.2.1,r.2.2.2.2.2.2.2.2.2.2.2.2.2.2.2.2.1,r.2.2.2.2.2.2.2.2.2.2.2.2.2.2.2.2.2.1,r.2.2.2.2.2.2.2.2.2.2.2.2.2.2.2.2.2.2.1,r.2.2.2.2.2.2.2.2.2.2.2.2.2.2.2.2.2.2.2.1,r.2.2.2.2.2.2.2.2.2.2.2.2.2.2.2.2.2.2.2.2.1,r.2.2.2.2.2.2.2.2.2.2.2.2.2.2.2.2.2.2.2.2.2.1,r.2.2.2.2.2.2.2.2.2.2.2.2.2.2.2.2.2.2.2.2.2.2.1,()))))))):=by
 subst hr;subst hY;subst hz;subst hX
 show _=_
 kernel_rfl
theorem eq3(g:Cg)(x:Int)(os ys:List Int)(a:aI cU)(ha:a=(x,os,ys,[((32:Int),(0:Int),(0:Int))],x,0,true,0,()))(z:aI ic)(hz:z=hJ xk cU ic a)(cs:List (den cQ))(fO:cs=app (app [] z.2.1) [((15:Int),(0:Int),(0:Int))])(b:aI Cm)(hb:b=([([126],[126])],[((-1:Int),(0:Int),(1:Int),(1:Int),(0:Int),cs,[])],[z.1],5,()))(r:aI yY)(hr:r=m14 g b):
 (t3 g (x,os,ys,())).val=bif !true then some (aN xB (false,()))else bI (Cf xk cU ic a) (bI (roomy 24 (0+z.2.1.length)) (bI (roomy 24 ((app [] z.2.1).length+1)) (bI (PX g b) (
  bif !z.2.2.2.2.1 then bI (CC (r.1,r.2.1,r.2.2.1,r.2.2.2.1,40,0,[],0,())) (some (aN xB (m16 (r.1,r.2.1,r.2.2.1,r.2.2.2.1,40,0,[],0,()))))
  else bif !decide (z.2.2.2.1=0)then bI (CC (r.1,r.2.1,r.2.2.1,r.2.2.2.1,z.2.2.2.1,0,[],5,())) (some (aN xB (m16 (r.1,r.2.1,r.2.2.1,r.2.2.2.1,z.2.2.2.1,0,[],5,()))))
  else bI (CC (r.1,r.2.1,r.2.2.1,r.2.2.2.1,0,0,[z.2.2.1],5,())) (some (aN xB (m16 (r.1,r.2.1,r.2.2.1,r.2.2.2.1,0,0,[z.2.2.1],5,())))))))):=by
 subst hr;subst hb;subst fO;subst hz;subst ha
 show _=_
 kernel_rfl
end Go.Proofs.Vq

noncomputable section
namespace Go.Proofs.Vq
open Go.Ab Go.Ab.Lf
set_option maxRecDepth 100000
def Cq(v:Int):Int:=bf .i64 69 (an .i64 (bF .u64 (an .u64 v) 130))
theorem Qa(v:Int):Cp (Cq v):=by
 unfold Cq
 have hU:=rA v
 obtain⟨a,ha,hb⟩:=GB hU
 have e:bF .u64 (an .u64 v) 130=((a % 130:Nat):Int):=by rw[ha];exact(Int.ofNat_tmod a 130).symm
 have hm:a % 130<130:=Nat.mod_lt _ (by decide)
 have e2:an .i64 ((a % 130:Nat):Int)=((a % 130:Nat):Int):=wrap_i64 (by omega) (by omega)
 have e3:bf .i64 69 ((a % 130:Nat):Int)=69+((a % 130:Nat):Int):=wrap_i64 (by omega) (by omega)
 rw[e,e2,e3]
 exact⟨by omega,by omega⟩
def iO(o y i:Int):List (den cQ):=bif decide (gN o=2)then [((66:Int),(0:Int),y),(o,i,(0:Int))]else [(o,i,(0:Int))]
def eP(o w y e:Int):Int×Int:=bif (bif !decide (e=0)then true else decide (gN o=0))then(w,e)else p5 o w y
theorem A6(o:Int):gN o=0∨gN o=1∨gN o=2:=(o3 o).2
theorem GJ(x:Int)(os ys:List Int)(cs:List (den cQ))(w e:Int)(lg:Bool)(j:Nat)(hj:j<os.length)(xx:j<1000)(hw:U w)(y:Int)(hy:y=bif decide ((j:Int)<(ys.length:Int))then ys.getD j 0 else an .u64 (j:Int))(hU:U y)(o:Int)(ho:o=Cq (os.getD j 0))(hl:cs.length<=10000):
 (xk (aN cU (x,os,ys,cs,w,e,lg,(j:Int),()))).val=some (.next (aN cU (x,os,ys,cs++iO o y j,(eP o w y e).1,(eP o w y e).2,(bif decide (gN o=0)then false else lg),((j+1:Nat):Int),()))):=by
 have hO:bf .i64 69 (an .i64 (bF .u64 (an .u64 (os.getD ((j:Int)).toNat (aS (Ty.int .i64)))) 130))=o:=by rw[ho];rfl
 have yN:=(o3 o).1
 have wU:=(uS o w y hw hU).1
 have wV:=(A3 o w hw).1
 have r1:roomy 24 (cs.length+1)=true:=nA (by decide) (by omega)
 have r2: ∀ c:den cQ,roomy 24 ((app cs [c]).length+1)=true:=fun c=>by rw[bO,List.length_append];exact nA (by decide) (by simp;omega)
 have hi:cu (j:Int) (os.length:Int)=true:=rj hj
 have c1:decide ((j:Int)<(os.length:Int))=true:=yK hj
 have c2:decide ((j:Int)<1000)=true:=dt (by omega)
 have a1:bf .i64 (j:Int) 1=((j+1:Nat):Int):=QO (by omega)
 have fin: ∀ (cs':List (den cQ)),cs'=cs++iO o y j-> ∀ p:Int×Int,p=eP o w y e-> ∀ l:Bool,l=(bif decide (gN o=0)then false else lg)->
  some (.next (aN cU (x,os,ys,cs',p.1,p.2,l,((j+1:Nat):Int),())))=(some (.next (aN cU (x,os,ys,cs++iO o y j,(eP o w y e).1,(eP o w y e).2,(bif decide (gN o=0)then false else lg),((j+1:Nat):Int),()))):Option Rs):=by
  rintro _ rfl _ rfl _ rfl
  rfl
 refine(L' x os ys cs w e lg (j:Int)).trans ?_
 simp only[List.length_cons,List.length_nil,Nat.zero_add,r1,r2]
 rw[c1,c2,hi,a1,hO]
 have har:gN o=(m11 (o,())).1:=rfl
 by_cases zA:(j:Int)<(ys.length:Int)
 ·have Ii:ys.getD ((j:Int)).toNat (aS (Ty.int .u64))=y:=by rw[hy,dt zA];rfl
  rw[dt zA,show cu (j:Int) (ys.length:Int)=true from rj (by omega),Ii,yN]
  rcases A6 o with h|h|h
  ·rw[show decide ((m11 (o,())).1=2)=false from df (fun q=>absurd (h.symm.trans q) (by decide)),show decide ((m11 (o,())).1=0)=true from dt h]
   cases he:decide (e=0)<;>exact fin _ (by unfold iO;rw[df (fun q=>absurd (h.symm.trans q) (by decide)),bO];rfl) (w,e) (by unfold eP;rw[he,dt h];rfl) _ (by rw[dt h];rfl)
  ·rw[show decide ((m11 (o,())).1=2)=false from df (fun q=>absurd (h.symm.trans q) (by decide)),show decide ((m11 (o,())).1=0)=false from df (fun q=>absurd (h.symm.trans q) (by decide)),wV]
   have g0:decide (gN o=0)=false:=df (fun q=>absurd (h.symm.trans q) (by decide))
   have g2:decide (gN o=2)=false:=df (fun q=>absurd (h.symm.trans q) (by decide))
   cases he:decide (e=0)
   ·exact fin _ (by unfold iO;rw[g2,bO];rfl) (w,e) (by unfold eP;rw[he];rfl) _ (by rw[g0];rfl)
   ·exact fin _ (by unfold iO;rw[g2,bO];rfl) ((m13 (o,w,())).1,(m13 (o,w,())).2.1) (by unfold eP p5;rw[he,g0,g2];rfl) _ (by rw[g0];rfl)
  ·rw[show decide ((m11 (o,())).1=2)=true from dt h,show decide ((m11 (o,())).1=0)=false from df (fun q=>absurd (h.symm.trans q) (by decide)),wU]
   have g0:decide (gN o=0)=false:=df (fun q=>absurd (h.symm.trans q) (by decide))
   have g2:decide (gN o=2)=true:=dt h
   cases he:decide (e=0)
   ·exact fin _ (by unfold iO;rw[g2,bO,bO,List.append_assoc];rfl) (w,e) (by unfold eP;rw[he];rfl) _ (by rw[g0];rfl)
   ·exact fin _ (by unfold iO;rw[g2,bO,bO,List.append_assoc];rfl) ((m12 (o,w,y,())).1,(m12 (o,w,y,())).2.1) (by unfold eP p5;rw[he,g0,g2];rfl) _ (by rw[g0];rfl)
 ·have Ii:an .u64 (j:Int)=y:=by rw[hy,df zA];rfl
  rw[df zA,Ii,yN]
  rcases A6 o with h|h|h
  ·rw[show decide ((m11 (o,())).1=2)=false from df (fun q=>absurd (h.symm.trans q) (by decide)),show decide ((m11 (o,())).1=0)=true from dt h]
   cases he:decide (e=0)<;>exact fin _ (by unfold iO;rw[df (fun q=>absurd (h.symm.trans q) (by decide)),bO];rfl) (w,e) (by unfold eP;rw[he,dt h];rfl) _ (by rw[dt h];rfl)
  ·rw[show decide ((m11 (o,())).1=2)=false from df (fun q=>absurd (h.symm.trans q) (by decide)),show decide ((m11 (o,())).1=0)=false from df (fun q=>absurd (h.symm.trans q) (by decide)),wV]
   have g0:decide (gN o=0)=false:=df (fun q=>absurd (h.symm.trans q) (by decide))
   have g2:decide (gN o=2)=false:=df (fun q=>absurd (h.symm.trans q) (by decide))
   cases he:decide (e=0)
   ·exact fin _ (by unfold iO;rw[g2,bO];rfl) (w,e) (by unfold eP;rw[he];rfl) _ (by rw[g0];rfl)
   ·exact fin _ (by unfold iO;rw[g2,bO];rfl) ((m13 (o,w,())).1,(m13 (o,w,())).2.1) (by unfold eP p5;rw[he,g0,g2];rfl) _ (by rw[g0];rfl)
  ·rw[show decide ((m11 (o,())).1=2)=true from dt h,show decide ((m11 (o,())).1=0)=false from df (fun q=>absurd (h.symm.trans q) (by decide)),wU]
   have g0:decide (gN o=0)=false:=df (fun q=>absurd (h.symm.trans q) (by decide))
   have g2:decide (gN o=2)=true:=dt h
   cases he:decide (e=0)
   ·exact fin _ (by unfold iO;rw[g2,bO,bO,List.append_assoc];rfl) (w,e) (by unfold eP;rw[he];rfl) _ (by rw[g0];rfl)
   ·exact fin _ (by unfold iO;rw[g2,bO,bO,List.append_assoc];rfl) ((m12 (o,w,y,())).1,(m12 (o,w,y,())).2.1) (by unfold eP p5;rw[he,g0,g2];rfl) _ (by rw[g0];rfl)
end Go.Proofs.Vq

noncomputable section
namespace Go.Proofs.Vq
open Go.Ab Go.Ab.Lf
set_option maxRecDepth 100000
def GK(ys:List Int)(j:Nat):Int:=bif decide ((j:Int)<(ys.length:Int))then ys.getD j 0 else an .u64 (j:Int)
theorem Mf{ys:List Int}(h: ∀ y,y∈ys->U y)(j:Nat):U (GK ys j):=by
 unfold GK
 by_cases hj:(j:Int)<(ys.length:Int)
 ·rw[dt hj]
  have xx:j<ys.length:=by omega
  have e:ys.getD j 0=ys[j]:=by simp[List.getD_eq_getElem?_getD,List.getElem?_eq_getElem xx]
  show U (ys.getD j 0)
  rw[e]
  exact h _ (List.getElem_mem _)
 ·rw[df hj];exact rA _
def G4(ys:List Int):List Int->Nat->Ol
 | [],_=>[]
 |v::r,j=>(Cq v,GK ys j,(j:Int))::G4 ys r (j+1)
def fW:Ol->Int->Int->Bool->Int×Int×Bool
 | [],w,e,lg=>(w,e,lg)
 |(o,y,_)::l,w,e,lg=>fW l (eP o w y e).1 (eP o w y e).2 (bif decide (gN o=0)then false else lg)
theorem xm(o y i:Int):(iO o y i).length<=2:=by unfold iO;cases decide (gN o=2)<;>simp
theorem XF{o w y e:Int}(hw:U w)(hy:U y):U (eP o w y e).1:=by
 unfold eP
 cases(bif !decide (e=0)then true else decide (gN o=0))with
 |true=>exact hw
 |false=>
  show U (p5 o w y).1
  unfold p5
  cases decide (gN o=2)with
  |true=>exact(uS o w y hw hy).2
  |false=>exact(A3 o w hw).2
theorem XG(x:Int)(os ys:List Int)(x0: ∀ y,y∈ys->U y): ∀ (r:List Int) (j:Nat) (cs:List (den cQ)) (w e:Int) (lg:Bool),(os.take 1000).drop j=r->j<=(os.take 1000).length->cs.length<=2*j+1->U w->
 lO xk (aN cU (x,os,ys,cs,w,e,lg,(j:Int),())) 0 (aN ic (x,cs++eG (G4 ys r j),(fW (G4 ys r j) w e lg).1,(fW (G4 ys r j) w e lg).2.1,(fW (G4 ys r j) w e lg).2.2,()))
 | [],j,cs,w,e,lg,hd,hj,hl,hw=>by
  have h1:=List.drop_eq_nil_iff.1 hd
  have h2:(os.take 1000).length=min 1000 os.length:=List.length_take ..
  refine .last ((L' x os ys cs w e lg (j:Int)).trans ?_)
  have c:(bif decide ((j:Int)<(os.length:Int))then decide ((j:Int)<1000)else false)=false:=by
   by_cases q:(j:Int)<(os.length:Int)
   ·rw[dt q,df (show ¬ (j:Int)<1000 by omega)];rfl
   ·rw[df q];rfl
  rw[c]
  show some _=_
  rw[show cs++eG (G4 ys [] j)=cs from List.append_nil _]
  rfl
 |v::r,j,cs,w,e,lg,hd,hj,hl,hw=>by
  obtain⟨h1,h2⟩:=kV hd 0
  have h3:(os.take 1000).length=min 1000 os.length:=List.length_take ..
  have hj1:j<os.length:=by omega
  have xx:j<1000:=by omega
  have hv:os.getD j 0=v:=by
   rw[<-h2]
   simp[List.getD_eq_getElem?_getD,xx]
  have hU:=Mf x0 j
  have s:=GJ x os ys cs w e lg j hj1 xx hw (GK ys j) rfl hU (Cq v) (by rw[hv]) (by omega)
  have ih:=XG x os ys x0 r (j+1) (cs++iO (Cq v) (GK ys j) j) (eP (Cq v) w (GK ys j) e).1 (eP (Cq v) w (GK ys j) e).2 (bif decide (gN (Cq v)=0)then false else lg) (xl hd) h1 (by have:=xm (Cq v) (GK ys j) j;rw[List.length_append];omega) (XF hw hU)
  rw[List.append_assoc]at ih
  exact .more s ih
theorem A7: ∀ (l:Ol) (w e:Int) (lg:Bool),¬ e=0->(fW l w e lg).1=w/\(fW l w e lg).2.1=e
 | [],_,_,_,_=>⟨rfl,rfl⟩
 |(o,y,i)::l,w,e,lg,h=>by
  have q:eP o w y e=(w,e):=by unfold eP;rw[df h];rfl
  show(fW l (eP o w y e).1 (eP o w y e).2 _).1=w/\(fW l (eP o w y e).1 (eP o w y e).2 _).2.1=e
  rw[q]
  exact A7 l w e _ h
theorem GL: ∀ (l:Ol) (w:Int) (lg:Bool),(∀ p,p∈l-> ¬ gN p.1=0)->(fW l w 0 lg).1=(fq l w).1/\(fW l w 0 lg).2.1=(fq l w).2
 | [],_,_,_=>⟨rfl,rfl⟩
 |(o,y,i)::l,w,lg,h=>by
  have h0:=h (o,y,i) List.mem_cons_self
  have q:eP o w y 0=p5 o w y:=by unfold eP;rw[dt rfl,df h0];rfl
  show(fW l (eP o w y 0).1 (eP o w y 0).2 _).1=(bif decide ((p5 o w y).2=0)then fq l (p5 o w y).1 else p5 o w y).1/\(fW l (eP o w y 0).1 (eP o w y 0).2 _).2.1=(bif decide ((p5 o w y).2=0)then fq l (p5 o w y).1 else p5 o w y).2
  rw[q]
  by_cases hz:(p5 o w y).2=0
  ·rw[dt hz,cond_true,hz]
   exact GL l _ _ fun p hp=>h p (List.mem_cons_of_mem _ hp)
  ·rw[df hz,cond_false]
   exact A7 l _ _ _ hz
theorem GM: ∀ (l:Ol) (w e:Int) (lg:Bool),(fW l w e lg).2.2=true->lg=true/\ ∀ p,p∈l-> ¬ gN p.1=0
 | [],_,_,_,h=>⟨h,fun p hp=>by cases hp⟩
 |(o,y,i)::l,w,e,lg,h=>by
  obtain⟨h1,h2⟩:=GM l _ _ _ h
  by_cases ho:gN o=0
  ·rw[dt ho]at h1;cases h1
  ·rw[df ho]at h1
   refine⟨h1,fun p hp=>?_⟩
   rcases List.mem_cons.1 hp with rfl|q
   ·exact ho
   ·exact h2 p q
theorem A8: ∀ (l:Ol) (w e:Int) (lg:Bool),(fW l w e lg).2.2=false->lg=false∨ ∃ p,p∈l/\gN p.1=0
 | [],_,_,_,h=>.inl h
 |(o,y,i)::l,w,e,lg,h=>by
  rcases A8 l _ _ _ h with q|⟨p,q1,q2⟩
  ·by_cases ho:gN o=0
   ·exact .inr ⟨_,List.mem_cons_self,ho⟩
   ·rw[df ho]at q;exact .inl q
  ·exact .inr ⟨p,List.mem_cons_of_mem _ q1,q2⟩
theorem y9{ys:List Int}: ∀ {r:List Int} {j:Nat} {p:Int×Int×Int},p∈G4 ys r j-> ∃ v k,p=(Cq v,GK ys k,(k:Int))
 | [],_,_,h=>by cases h
 |v::r,j,p,h=>by
  rcases List.mem_cons.1 h with rfl|q
  ·exact⟨v,j,rfl⟩
  ·exact y9 q
theorem GN{ys:List Int}: ∀ (r:List Int) (j:Nat),(eG (G4 ys r j)).length<=2*r.length
 | [],_=>Nat.le_refl _
 |v::r,j=>by
  have h1:=xm (Cq v) (GK ys j) j
  have h2:=GN (ys:=ys) r (j+1)
  show(iO (Cq v) (GK ys j) j++eG (G4 ys r (j+1))).length<=2*(r.length+1)
  rw[List.length_append]
  omega
theorem xn: ∀ {l:Ol},(∀ p,p∈l->Cp p.1)-> ∀ c,c∈eG l->s7 c
 | [],_,c,h=>by cases h
 |(o,y,i)::l,hl,c,h=>by
  rcases List.mem_append.1 (show c∈iO o y i++eG l from h)with q|q
  ·have ho:=hl (o,y,i) List.mem_cons_self
   unfold iO at q
   cases hb:decide (gN o=2)with
   |true=>
    rw[hb]at q
    rcases List.mem_cons.1 q with rfl|q
    ·exact .inr (.inl ⟨_,rfl⟩)
    ·rcases List.mem_cons.1 q with rfl|q
     ·exact .inr (.inr (.inr ⟨_,_,_,ho,rfl⟩))
     ·cases q
   |false=>
    rw[hb]at q
    rcases List.mem_cons.1 q with rfl|q
    ·exact .inr (.inr (.inr ⟨_,_,_,ho,rfl⟩))
    ·cases q
  ·exact xn (fun p hp=>hl p (List.mem_cons_of_mem _ hp)) c q
theorem Mg{o:Int}(h:Cp o)(a n:Int):eH (o,a,n)=decide (0<gN o):=by unfold eH;rw[(mO [] h 0 a n).2]
theorem xp: ∀ {l:Ol},(∀ p,p∈l->Cp p.1)->(eG l).all eH=l.all (fun p=>decide (0<gN p.1))
 | [],_=>rfl
 |(o,y,i)::l,hl=>by
  have ho:=hl (o,y,i) List.mem_cons_self
  have ih:=xp (l:=l) fun p hp=>hl p (List.mem_cons_of_mem _ hp)
  show(iO o y i++eG l).all eH=_
  rw[List.all_append,ih,List.all_cons]
  have e:(iO o y i).all eH=decide (0<gN o):=by
   unfold iO
   cases hb:decide (gN o=2)with
   |true=>
    show(eH ((66:Int),(0:Int),y)&&(eH (o,i,(0:Int))&&true))=_
    rw[show eH ((66:Int),(0:Int),y)=true by unfold eH;rw[(Yx [] 0 y).2],Mg ho,Bool.and_true,Bool.true_and]
   |false=>
    show(eH (o,i,(0:Int))&&true)=_
    rw[Mg ho,Bool.and_true]
  rw[e]
end Go.Proofs.Vq

noncomputable section
namespace Go.Proofs.Vq
open Go.Ab Go.Ab.Lf
set_option maxRecDepth 100000
theorem GO(m:AE)(f fu:Int)(az ty:List Int)(n i:Int):(sY (aN jk (fP [i64,i64,.aC u64,.aC i64,i64,i64] m (f,fu,az,ty,n,i,())))).val=
 bif decide (i<n)then(bI (cu i (ty.length:Int)) (bif decide (ty.getD i.toNat (aS i64)=127)then(bI (cu i (az.length:Int)) (bI (cu i (az.length:Int)) (some (.next (aN jk (fP [i64,i64,.aC u64,.aC i64,i64,i64] m (f,fu,az.set i.toNat (cA .u64 (az.getD i.toNat (aS u64)) 4294967295),ty,n,bf .i64 i 1,())))))))else some (.next (aN jk (fP [i64,i64,.aC u64,.aC i64,i64,i64] m (f,fu,az,ty,n,bf .i64 i 1,()))))))else some (.out 0 (aN gx (fP [i64,i64,.aC u64] m (f,fu,az,())))):=by
 show _=_
 kernel_rfl
section
variable (g:Cg)
abbrev Qb(cs:List (den cQ))(S:QM)(h:Pt)(mm:aI tM)(b:Bool):AE:=⟨[cX],[cG cs []],S,h,mm,b⟩
theorem XH(m:AE)(x:Int):lO sY (aN jk (fP [i64,i64,.aC u64,.aC i64,i64,i64] m (0,5,[x],[126],1,0,()))) 0 (aN gx (fP [i64,i64,.aC u64] m (0,5,[x],()))):=by
 have e0:=GO m 0 5 [x] [126] 1 0
 have e1:=GO m 0 5 [x] [126] 1 1
 rw[dt (show(0:Int)<1 by decide),show cu 0 (([126]:List Int).length:Int)=true from rfl,show decide ((([126]:List Int).getD (0:Int).toNat (aS i64))=127)=false from rfl,show bf .i64 0 1=1 from by kernel_rfl]at e0
 rw[df (show ¬ (1:Int)<1 by decide)]at e1
 exact .more e0 (.last e1)
theorem Qc(m:AE)(fu de:Int)(l:Ol)(x n:Int)(hL:y8 l)(hx:U x)(hl:(((32:Int),(0:Int),(0:Int))::(eG l++[((15:Int),(0:Int),n)])).length<=1099511627776):
 ∃ pc st,lO (oJ g) (aN eZ (cL ⟨m,fu,0,de,0⟩ (cG (((32:Int),(0:Int),(0:Int))::(eG l++[((15:Int),(0:Int),n)])) []) (cG (((32:Int),(0:Int),(0:Int))::(eG l++[((15:Int),(0:Int),n)])) []) 0 [] [x])) 0
  (aN ff (aW [] ⟨⟨m,fu,0,de,(fq l x).2⟩,cG (((32:Int),(0:Int),(0:Int))::(eG l++[((15:Int),(0:Int),n)])) [],pc,st,[x]⟩ ()))/\st=[(fq l x).1]:=by
 obtain⟨cs,fO⟩: ∃ cs,cs=((32:Int),(0:Int),(0:Int))::(eG l++[((15:Int),(0:Int),n)]):=⟨_,rfl⟩
 rw[<-fO]at hl ⊢
 have h1:=rB g m fu 0 de cs [] (pc:=0) (c:=((32:Int),(0:Int),(0:Int))) (r:=eG l++[((15:Int),(0:Int),n)]) (st:=[]) (lo:=[x]) (by rw[fO];rfl) hl (s32 g m fu 0 de (cG cs []) ((0:Nat):Int) x 0)
 obtain⟨pc,st,h2,h3⟩:=A5 g m fu 0 de cs [] l 1 x [x] n hL hx hl (by rw[fO];rfl)
 have ju:(oJ g (aN eZ (cL ⟨m,fu,0,de,0⟩ (cG cs []) (cG cs []) 0 [] [x]))).val=some (.next (aN eZ (cL ⟨m,fu,0,de,0⟩ (cG cs []) (cG cs []) ((1:Nat):Int) [x] [x]))):=by
  rw[<-QO (j:=0) (by decide)]
  exact h1
 exact⟨pc,st,.more ju h2,h3⟩
theorem Lb(S:QM)(h:Pt)(mm:aI tM)(l:Ol)(x n fu:Int)(hL:y8 l)(hx:U x)(hl:(((32:Int),(0:Int),(0:Int))::(eG l++[((15:Int),(0:Int),n)])).length<=1099511627776)(m:AE)(hm:m=Qb (((32:Int),(0:Int),(0:Int))::(eG l++[((15:Int),(0:Int),n)])) S h mm false):
 k73 g (oI [i64,.aC u64] ⟨m,fu,0,0,0⟩ (0,[x],()))=true/\Yu g (oI [i64,.aC u64] ⟨m,fu,0,0,0⟩ (0,[x],()))=([(fq l x).1],oI [] ⟨m,fu,0,0,(fq l x).2⟩ ()):=by
 obtain⟨pc,st,r,rfl⟩:=Qc g m fu 1 l x n hL hx hl
 obtain⟨cs,fO⟩: ∃ cs,cs=((32:Int),(0:Int),(0:Int))::(eG l++[((15:Int),(0:Int),n)]):=⟨_,rfl⟩
 rw[<-fO]at hl r hm
 obtain⟨q1,q2⟩:=wL (f:=oJ g) (ti:=eZ) (to:=ff) r
 refine dD (aq _) (aq _) ?_
 have e:=abk g ⟨m,fu,0,0,0⟩ 0 [x] (cG cs []) (by rw[hm];rfl) (cL ⟨m,fu,0,1,0⟩ (cG cs []) (cG cs []) 0 [] [x]) (by show _=_;kernel_rfl) ⟨⟨m,fu,0,1,(fq l x).2⟩,cG cs [],pc,[(fq l x).1],[x]⟩ (by rw[q2];rfl)
 refine e.trans ?_
 rw[q1,show cu 0 (m.fns.length:Int)=true by rw[hm];rfl]
 show _=_
 kernel_rfl
def kZ(bad:Bool)(v e:Int):Int×Int×List Int×Int:=bif bad then(40,0,[],0)else bif decide (e=0)then(0,0,[v],5)else(e,0,[],5)
end
end Go.Proofs.Vq

noncomputable section
namespace Go.Proofs.Vq
open Go.Ab Go.Ab.Lf
set_option maxRecDepth 100000
section
variable (g:Cg)
abbrev g1(g:Cg):Cg:=(k73 g,Yu g)
theorem XI(S:QM)(h:Pt)(hc:h.code=0)(mm:aI tM)(l:Ol)(x n:Int)(b:Bool)(hL:b=false->y8 l)(hx:U x)(hl:(((32:Int),(0:Int),(0:Int))::(eG l++[((15:Int),(0:Int),n)])).length<=1099511627776)(m:AE)(hm:m=Qb (((32:Int),(0:Int),(0:Int))::(eG l++[((15:Int),(0:Int),n)])) S h mm b):
 Xd (g1 g) (fP [i64,.aC u64,i64] m (0,[x],5,()))=true/\m23 (g1 g) (fP [i64,.aC u64,i64] m (0,[x],5,()))=((kZ b (fq l x).1 (fq l x).2).1,(kZ b (fq l x).1 (fq l x).2).2.1,(kZ b (fq l x).1 (fq l x).2).2.2.1,(kZ b (fq l x).1 (fq l x).2).2.2.2,fP [] m ()):=by
 obtain⟨cs,fO⟩: ∃ cs,cs=((32:Int),(0:Int),(0:Int))::(eG l++[((15:Int),(0:Int),n)]):=⟨_,rfl⟩
 have pB:=hm
 rw[<-fO]at pB
 refine dD (aq _) (aq _) ?_
 obtain⟨q1,q2⟩:=wL (f:=sY) (ti:=jk) (to:=gx) (XH m x)
 have e:=abv (g1 g) m 0 5 [x] (cG cs []) (by rw[pB];rfl) cX (by rw[pB];rfl) (fP [i64,i64,.aC u64,.aC i64,i64,i64] m (0,5,[x],[126],1,0,())) rfl (fP [i64,i64,.aC u64] m (0,5,[x],())) q2.symm (oI [i64,.aC u64] ⟨m,5,0,0,0⟩ (0,[x],())) (by show _=_;kernel_rfl)
 cases b with
 |true=>
  refine(e _ rfl).trans ?_
  rw[show m.bad=true by rw[pB],show(m.fns.length:Int)=1 by rw[pB];rfl]
  rfl
 |false=>
  obtain⟨c1,c2⟩:=Lb g S h mm l x n 5 (hL rfl) hx hl m hm
  refine(e ⟨m,5,0,0,(fq l x).2⟩ (by show _=rnO (Yu g _).2;rw[c2];rfl)).trans ?_
  rw[show m.bad=false by rw[pB],show(m.fns.length:Int)=1 by rw[pB];rfl,show(m.sigs.length:Int)=1 by rw[pB];rfl,q1,show(g1 g).1 (oI [i64,.aC u64] ⟨m,5,0,0,0⟩ (0,[x],()))=true from c1,show(g1 g).2 (oI [i64,.aC u64] ⟨m,5,0,0,0⟩ (0,[x],()))=_ from c2]
  have Oa:m.h.code=0:=by rw[pB];exact hc
  rw[Oa]
  unfold kZ
  by_cases hz:(fq l x).2=0
  ·rw[dt hz]
   rw[hz]
   rfl
  ·rw[df hz]
   by_cases h28:(fq l x).2=28
   ·rw[dt h28];rfl
   ·rw[df h28];rfl
end
end Go.Proofs.Vq

noncomputable section
namespace Go.Proofs.Vq
open Go.Ab Go.Ab.Lf
set_option maxRecDepth 100000
theorem Mh(a:List Int)(hl:a.length<=1099511627776): ∀ (r:List Int) (j:Nat),a.drop j=r->j<=a.length->lO nF (aN kW (a,a,(j:Int),())) 0 (aN jC ())
 | [],j,hd,hj=>by
  have h1:=List.drop_eq_nil_iff.1 hd
  refine .last ((Gx a a (j:Int)).trans ?_)
  rw[Ah h1]
  rfl
 |v::r,j,hd,hj=>by
  obtain⟨h1,_⟩:=kV hd 0
  have e:=Gx a a (j:Int)
  rw[yK h1,show(cu (j:Int) (a.length:Int)&&cu (j:Int) (a.length:Int))=true by rw[show cu (j:Int) (a.length:Int)=true from rj h1];rfl,dt rfl,QO (by omega)]at e
  exact .more e (Mh a hl r (j+1) (xl hd) h1)
theorem Qd(a:List Int)(hl:a.length<=1099511627776):Xf (a,a,())=true/\m25 (a,a,())=(true,()):=by
 obtain⟨q1,q2,_⟩:=oD (f:=nF) (ti:=kW) (t0:=jC) (t1:=kX) (y:=()) (x:=(a,a,0,())) (Mh a hl a 0 rfl (Nat.zero_le _))
 refine dD (aq _) (aq _) ?_
 refine(abo a a).trans ?_
 rw[dt rfl]
 show bI (sV nF kW jC kX (a,a,0,())) (bif rH nF kW (a,a,0,())then _ else _)=_
 rw[q1,q2]
 rfl
theorem za(a b d:Int)(c:List Int)(hl:c.length<=1099511627776):CC (a,b,c,d,a,b,c,d,())=true/\m16 (a,b,c,d,a,b,c,d,())=(true,()):=by
 refine dD (aq _) (aq _) ?_
 have q:=Qd c hl
 refine(abp a b d a b d c c).trans ?_
 rw[dt rfl,dt rfl,dt rfl,q.1,q.2]
 rfl
section
variable (g:Cg)
abbrev uY(l:Ol):List (den cQ):=((32:Int),(0:Int),(0:Int))::(eG l++[((15:Int),(0:Int),(0:Int))])
theorem Qe(l:Ol)(x:Int)(b:Bool)(hO: ∀ p,p∈l->Cp p.1)(hL:b=false->y8 l)(hx:U x)(hl:(uY l).length<=1099511627776)(hb:b= !l.all (fun p=>decide (0<gN p.1))):
 PX (g1 g) ([([126],[126])],[((-1:Int),(0:Int),(1:Int),(1:Int),(0:Int),uY l,[])],[x],5,())=true/\ ∃ s,m14 (g1 g) ([([126],[126])],[((-1:Int),(0:Int),(1:Int),(1:Int),(0:Int),uY l,[])],[x],5,())=((kZ b (fq l x).1 (fq l x).2).1,(kZ b (fq l x).1 (fq l x).2).2.1,(kZ b (fq l x).1 (fq l x).2).2.2.1,(kZ b (fq l x).1 (fq l x).2).2.2.2,s):=by
 have hc: ∀ c,c∈uY l->s7 c:=by
  intro c h
  rcases List.mem_cons.1 h with rfl|h
  ·exact .inl ⟨_,rfl⟩
  ·rcases List.mem_append.1 h with h|h
   ·exact xn hO c h
   ·rcases List.mem_cons.1 h with rfl|h
    ·exact .inr (.inr (.inl ⟨_,_,rfl⟩))
    ·cases h
 have vP:(uY l).all eH=l.all (fun p=>decide (0<gN p.1)):=by
  show(eH ((32:Int),(0:Int),(0:Int))&&(eG l++[((15:Int),(0:Int),(0:Int))]).all eH)=_
  rw[List.all_append,xp hO,show eH ((32:Int),(0:Int),(0:Int))=true by unfold eH;rw[(m32 [] 0 0).2]]
  show(true&&(_&&(eH ((15:Int),(0:Int),(0:Int))&&true)))=_
  rw[show eH ((15:Int),(0:Int),(0:Int))=true by unfold eH;rw[(m15 [] 0 0 0).2]]
  simp
 obtain⟨d1,d2⟩:=f34 (uY l) hc hl (by simp)
 have si:b= !decide ((WC ([cX],[cG (uY l) []],())).1=0):=by
  rw[d2,vP,hb]
  cases l.all (fun p=>decide (0<gN p.1))<;>rfl
 obtain⟨n1,n2⟩:=P9 (uY l) [7,1,2,9] [1,0,0,0] [0,1,3] [0,1,2,3,-1,-1] (List.replicate 65536 0) 2 ⟨[],[],0⟩ b hl d1 si
 obtain⟨c1,c2⟩:=XI g xg ⟨[],[],0⟩ rfl bW l x 0 b hL hx hl _ rfl
 have key:=dD (to:=yY) (t:=t14 (g1 g) ([([126],[126])],[((-1:Int),(0:Int),(1:Int),(1:Int),(0:Int),uY l,[])],[x],5,())) (k:=PX (g1 g) ([([126],[126])],[((-1:Int),(0:Int),(1:Int),(1:Int),(0:Int),uY l,[])],[x],5,())) (m:=m14 (g1 g) ([([126],[126])],[((-1:Int),(0:Int),(1:Int),(1:Int),(0:Int),uY l,[])],[x],5,())) (aq _) (aq _)
  (y:=((kZ b (fq l x).1 (fq l x).2).1,(kZ b (fq l x).1 (fq l x).2).2.1,(kZ b (fq l x).1 (fq l x).2).2.2.1,(kZ b (fq l x).1 (fq l x).2).2.2.2,jX [] xg ()))
  ((abA (g1 g) [([126],[126])] [((-1:Int),(0:Int),(1:Int),(1:Int),(0:Int),uY l,[])] [x] 5 _ rfl _ rfl (fP [i64,.aC u64,i64] (Qb (uY l) xg ⟨[],[],0⟩ bW b) (0,[x],5,())) (by
    rw[show m22 ([([126],[126])],[((-1:Int),(0:Int),(1:Int),(1:Int),(0:Int),uY l,[])],jX (jW []) xg (nE [] ⟨[],[],0⟩ ()))=_ from n2]
    rfl) _ rfl).trans (by
    rw[c1,c2,uJ,show QN ([([126],[126])],[((-1:Int),(0:Int),(1:Int),(1:Int),(0:Int),uY l,[])],jX (jW []) xg (nE [] ⟨[],[],0⟩ ()))=true from n1]
    rfl))
 exact⟨key.1,_,key.2⟩
end
end Go.Proofs.Vq

noncomputable section
namespace Go.Proofs.Vq
open Go.Ab Go.Ab.Lf
set_option maxRecDepth 100000
section
variable (g:Cg)
theorem abB(x:Int)(os ys:List Int)(hx:U x)(x0: ∀ y,y∈ys->U y):(t3 (g1 g) (x,os,ys,())).val=some (aN xB (true,())):=by
 have hlen:(os.take 1000).length<=1000:=by rw[List.length_take];omega
 have R:=XG x os ys x0 (os.take 1000) 0 [((32:Int),(0:Int),(0:Int))] x 0 true rfl (Nat.zero_le _) (by simp) hx
 obtain⟨q1,q2⟩:=wL (f:=xk) (ti:=cU) (to:=ic) R
 obtain⟨l,hl⟩: ∃ l,l=G4 ys (os.take 1000) 0:=⟨_,rfl⟩
 rw[<-hl]at q2 R
 have hll:(eG l).length<=2000:=by have:=GN (ys:=ys) (os.take 1000) 0;rw[<-hl]at this;omega
 have hO: ∀ p,p∈l->Cp p.1:=by
  intro p hp
  rw[hl]at hp
  obtain⟨v,k,rfl⟩:=y9 hp
  exact Qa v
 have hU: ∀ p,p∈l->U p.2.1:=by
  intro p hp
  rw[hl]at hp
  obtain⟨v,k,rfl⟩:=y9 hp
  exact Mf x0 k
 obtain⟨b,hb⟩: ∃ b,b= !l.all (fun p=>decide (0<gN p.1)):=⟨_,rfl⟩
 have hL:b=false->y8 l:=by
  intro h p hp
  refine⟨hO p hp,hU p hp,?_⟩
  rw[h]at hb
  have h2:l.all (fun p=>decide (0<gN p.1))=true:=by
   cases h3:l.all (fun p=>decide (0<gN p.1))with
   |true=>rfl
   |false=>rw[h3]at hb;cases hb
  have h4:=of_decide_eq_true (List.all_eq_true.1 h2 p hp)
  rcases A6 p.1 with q|q|q
  ·rw[q]at h4;exact absurd h4 (by decide)
  ·exact .inl q
  ·exact .inr q
 have abC:(uY l).length<=1099511627776:=by
  show(eG l++[((15:Int),(0:Int),(0:Int))]).length+1<=_
  rw[List.length_append];simp;omega
 obtain⟨c1,s,c2⟩:=Qe g l x b hO hL hx abC hb
 have e:=eq3 (g1 g) x os ys _ rfl _ q2.symm (uY l) (by rw[bO,bO];rfl) _ rfl _ c2.symm
 refine e.trans ?_
 have rm1:roomy 24 (0+([((32:Int),(0:Int),(0:Int))]++eG l).length)=true:=nA (by decide) (by rw[List.length_append];simp;omega)
 have rm2:roomy 24 ((app [] ([((32:Int),(0:Int),(0:Int))]++eG l)).length+1)=true:=nA (by decide) (by rw[bO,List.nil_append,List.length_append];simp;omega)
 show bI _ (bI _ (bI _ (bI _ (bif !(fW l x 0 true).2.2 then _ else _))))=_
 rw[show Cf xk cU ic (x,os,ys,[((32:Int),(0:Int),(0:Int))],x,0,true,0,())=true from q1,show PX (g1 g) ([([126],[126])],[((-1:Int),(0:Int),(1:Int),(1:Int),(0:Int),uY l,[])],[x],5,())=true from c1]
 rw[show roomy 24 (0+List.length (x,[((32:Int),(0:Int),(0:Int))]++eG l,(fW l x 0 true).1,(fW l x 0 true).2.1,(fW l x 0 true).2.2,()).2.1)=true from rm1,show roomy 24 ((app [] (x,[((32:Int),(0:Int),(0:Int))]++eG l,(fW l x 0 true).1,(fW l x 0 true).2.1,(fW l x 0 true).2.2,()).2.1).length+1)=true from rm2]
 cases hg:(fW l x 0 true).2.2 with
 |true=>
  obtain⟨_,h0⟩:=GM l x 0 true hg
  obtain⟨w1,w2⟩:=GL l x true h0
  have hbf:b=false:=by
   rw[hb]
   have:l.all (fun p=>decide (0<gN p.1))=true:=by
    refine List.all_eq_true.2 fun p hp=>decide_eq_true ?_
    rcases A6 p.1 with q|q|q
    ·exact absurd q (h0 p hp)
    ·rw[q];decide
    ·rw[q];decide
   rw[this];rfl
  rw[hbf]
  show(bif !decide ((fW l x 0 true).2.1=0)then bI (CC (_,_,_,_,(fW l x 0 true).2.1,0,[],5,())) (some (aN xB (m16 (_,_,_,_,(fW l x 0 true).2.1,0,[],5,()))))else bI (CC (_,_,_,_,0,0,[(fW l x 0 true).1],5,())) (some (aN xB (m16 (_,_,_,_,0,0,[(fW l x 0 true).1],5,())))))=_
  rw[w1,w2]
  by_cases hz:(fq l x).2=0
  ·have e1:kZ false (fq l x).1 (fq l x).2=(0,0,[(fq l x).1],5):=by unfold kZ;rw[dt hz];rfl
   rw[dt hz,e1]
   have q:=za 0 0 5 [(fq l x).1] (by simp)
   show bI (CC (0,0,[(fq l x).1],5,0,0,[(fq l x).1],5,())) (some (aN xB (m16 (0,0,[(fq l x).1],5,0,0,[(fq l x).1],5,()))))=_
   rw[q.1,q.2]
   rfl
  ·have e1:kZ false (fq l x).1 (fq l x).2=((fq l x).2,0,[],5):=by unfold kZ;rw[df hz];rfl
   rw[df hz,e1]
   have q:=za (fq l x).2 0 5 [] (by simp)
   show bI (CC ((fq l x).2,0,[],5,(fq l x).2,0,[],5,())) (some (aN xB (m16 ((fq l x).2,0,[],5,(fq l x).2,0,[],5,()))))=_
   rw[q.1,q.2]
   rfl
 |false=>
  rcases A8 l x 0 true hg with h|⟨p,hp,h⟩
  ·cases h
  have hbt:b=true:=by
   rw[hb]
   have:l.all (fun p=>decide (0<gN p.1))=false:=by
    refine List.all_eq_false.2 ⟨p,hp,?_⟩
    rw[h];decide
   rw[this];rfl
  rw[hbt]
  have q:=za 40 0 0 [] (by simp)
  show bI (CC (40,0,[],0,40,0,[],0,())) (some (aN xB (m16 (40,0,[],0,40,0,[],0,()))))=_
  rw[q.1,q.2]
  rfl
end
end Go.Proofs.Vq

noncomputable section
namespace Go.Proofs.Vq
open Go.Ab Go.Ab.Lf Go.ChangeShapes Go.WideShapes Go.ChangeAt Go.RowKit
set_option maxRecDepth 100000
abbrev aK(k:IntKind)(l:List Int):AV:=.fc l.length (l.map (AV.int k))
theorem abD(k:IntKind)(l:List Int):fT (EV (fun _=>none) (.int k)) l (l.map (AV.int k)):=by
 induction l with
 |nil=>rfl
 |cons a l ih=>exact⟨[.int k a],_,rfl,rfl,ih⟩
theorem XJ(k:IntKind)(l:List Int):EV (fun _=>none) (.aC (.int k)) l [aK k l]:=⟨_,rfl,.inr ⟨_,abD k l,.inl rfl⟩⟩
def g0:Cg:=(fun _=>false,fun _=>wJ _)
theorem XK:(sG g0).Ok 73 dG:=by
 intro pl q args H0 E0 h az e
 obtain⟨x,y,rfl,h1,rfl⟩:=y5 e
 obtain⟨h2,_⟩:=Lf.T.bY h1
 cases h2
theorem XL:(sG (g1 g0)).Ok 73 dG:=PG Gv.toWQ XK
theorem Qf(x:Int)(os ys:List Int)(hx:U x)(x0: ∀ y,y∈ys->U y): ∃ n,X4 (dG n n 3 [.int .u64 x,aK .i64 os,aK .u64 ys] (dM 0))=true:=by
 obtain⟨E0,hE⟩: ∃ E0:En,E0=⟨fun _=>⟨.any,0⟩,fun r=>if r=1 then aK .i64 os else aK .u64 ys,fun _=>none,fun _=>.any⟩:=⟨_,rfl⟩
 have sm:=dD (aq _) (aq _) (k:=k3 (g1 g0) (x,os,ys,())) (m:=m3 (g1 g0) (x,os,ys,())) (abB g0 x os ys hx x0)
 have e:((s3 (g1 g0)).f (aN L5 (x,os,ys,()))).val=some (aN xB (true,())):=by
  refine uO (ti:=L5) (to:=xB) (x:=(x,os,ys,())) (y:=(true,())) ?_
  show(bif k3 (g1 g0) (x,os,ys,())then some (m3 (g1 g0) (x,os,ys,()))else none)=_
  rw[sm.1,sm.2]
  rfl
 have hP:dq (Ps [.n .u64,.im i64,.im u64]) (aN L5 (x,os,ys,())) Lf.e1=some ([.c 0 u64 x,.c 1 (.aC i64) os,.c 2 (.aC u64) ys],[],⟨3,.nil⟩):=rfl
 have hS:SR E0 (dF ⟨3,.nil⟩) (dM 0):=by
  have et:dF ⟨3,.nil⟩=(⟨3,.nil⟩:Hq):=rfl
  rw[et]
  have no: ∀ r R,¬ (Tr.nil:Tr Lf.Row).get r=some R:=fun r R h=>by
   have h:(none:Option Lf.Row)=some R:=h
   cases h
  refine⟨?_,?_,?_,?_⟩
  ·intro r R h;exact(no r R h).elim
  ·rintro r r' id ⟨R,h,_⟩;exact(no r R h).elim
  ·rintro r id ⟨R,h,_⟩;exact(no r R h).elim
  ·intro id row h
   subst hE
   cases h
 have hv:Vs E0 3 [.c 0 u64 x,.c 1 (.aC i64) os,.c 2 (.aC u64) ys] [.int .u64 x,aK .i64 os,aK .u64 ys]:=by
  subst hE
  exact .cons (.c rfl fun k=>(k rfl).elim) (.cons (.c (XJ .i64 os) fun _=>⟨by decide,rfl⟩) (.cons (.c (XJ .u64 ys) fun _=>⟨by decide,rfl⟩) .nil))
 obtain⟨c,h',E1,ws,H1,⟨M,hM⟩,_,_,hQ,hV⟩:=Xr Gv XL _ _ _ _ E0 (dM 0) _ e hP hv hS
 have hM:dG M M 3 [.int .u64 x,aK .i64 os,aK .u64 ys] (dM 0)=.ok c h':=hM M M (Nat.le_refl _) (Nat.le_refl _)
 have hQ:some (([.c 0 .bool true]:List Sv),([]:List Pl),Lf.e1)=some (ws,[],H1):=hQ
 cases hQ
 cases hV with
 |cons k _=>
  cases k with
  |c k _=>
   have k:[c]=[.bool true]:=k
   injection k with k
   subst k
   exact⟨M,by rw[hM];rfl⟩
abbrev gW(W:Go.World):G:=gE fun b=>b<W.heap.size
theorem A9{W:Go.World}{b o:Nat}{v:Value}(h:W.cell? ⟨b,o,none⟩=some v):b<W.heap.size:=by
 by_cases hb:b<W.heap.size
 ·exact hb
 ·exfalso
  have e:W.heap[b]? =none:=Array.getElem?_eq_none (by omega)
  unfold Go.World.cell? at h
  dsimp only at h
  rw[e]at h
  cases h
theorem XM{g:G}{W:Go.World}(k:IntKind)(l:List Int): @bA oY g W (l.map (AV.int k)) (l.map (Value.int k)):=by
 induction l with
 |nil=>simp only[List.map_nil,bA]
 |cons a l ih=>
  simp only[List.map_cons,bA]
  exact⟨_,_,rfl,by simp only[VR],ih⟩
theorem XN{H:Type}{enc:TypeId×Value->H}{W:Go.World}{fuel:Nat}{v:Value}{y:DataW H×List MemPlace}{k:IntKind}{t e:TypeId}(ht:Tryz.prog.underlying t=some (.slice e))(he:Tryz.prog.underlying e=some (.int k))(hc:Tryz.prog.cellsOf e=1)
 (h:DataW.trod enc Tryz.prog W 0 (fun _=>true) true fuel t [v]=some y): ∃ L,@VR oY (gW W) W (aK k L) v/\ ∀ n∈L,(Lit.int k n).wf=true:=by
 rcases Go.ChangeShapes.open_ints ht he hc h with⟨hv,_⟩|⟨a,len,cap,zs,hv,_,Of,_,hz,_,hc,hw⟩
 ·injection hv with hv
  subst hv
  refine⟨[],?_,fun _ q=>by cases q⟩
  simp only[VR]
  exact⟨none,0,rfl,Nat.le_refl _,.inl ⟨rfl,rfl⟩⟩
 ·injection hv with hv
  subst hv
  have hz:zs.length=cap:=by simpa using hz
  refine⟨zs.take len,?_,fun n hn=>hw n (List.mem_of_mem_take hn)⟩
  have hl:(zs.take len).length=len:=by rw[List.length_take];omega
  simp only[VR]
  rw[hl]
  refine⟨some a,cap,rfl,Of,?_⟩
  by_cases h0:len=0
  ·subst h0
   exact .inl ⟨rfl,by rw[List.take_zero];rfl⟩
  ·obtain⟨b,off,rfl,hq⟩:=ints_at hc (by omega)
   refine .inr ⟨b,off,(zs.take len).map (Value.int k),rfl,A9 (hq 0 (by omega)),fun j u hj=>?_,XM k _⟩
   rw[List.getElem?_map,Option.map_eq_some_iff]at hj
   obtain⟨n,hn,rfl⟩:=hj
   have QP:=(List.getElem?_eq_some_iff.1 hn).1
   rw[hl]at QP
   rw[hq j (by omega),List.getD_eq_getElem?_getD]
   rw[List.getElem?_take_of_lt QP]at hn
   rw[hn]
   rfl
theorem Qg{W:Go.World}(h0:TabAt 0 Lib.deBruijn32tab W)(h1:TabAt 1 Lib.deBruijn64tab W): @gT oY (gW W) W:=by
 have key: ∀ (b:Nat) (l:List Nat),0<l.length->TabAt b l W->(gW W).cV b/\cR W b 0 (l.map fun n:Nat=>Value.int .u8 (n:Int)):=by
  intro b l hl h
  refine⟨A9 (h 0 hl),fun j v e=>?_⟩
  rw[List.getElem?_map,Option.map_eq_some_iff]at e
  obtain⟨n,hn,rfl⟩:=e
  obtain⟨hj,hv⟩:=List.getElem?_eq_some_iff.1 hn
  rw[Nat.zero_add,h j hj,List.getD_eq_getElem?_getD,hn]
  rfl
 intro p hp
 rcases List.mem_cons.1 hp with rfl|hp
 ·exact key 0 _ (by decide) h0
 ·obtain rfl:p=_:=by simpa using hp
  exact key 1 _ (by decide) h1
theorem Lc{W:Go.World}{x:Int}{os ys:List Int}{vo vy:Value}(hx:U x)(x0: ∀ y,y∈ys->U y)(ho: @VR oY (gW W) W (aK .i64 os) vo)(hy: @VR oY (gW W) W (aK .u64 ys) vy)(h0:TabAt 0 Lib.deBruijn32tab W)(h1:TabAt 1 Lib.deBruijn64tab W):
 Calls Tryz.prog 3 #[.int .u64 x,vo,vy] W fun e W'=>e=.returned (.bool true)/\Below W.heap.size W W':=by
 obtain⟨n,hn⟩:=Qf x os ys hx x0
 refine @NF oY Tryz.prog _ (KO n n) 3 _ [.int .u64 x,vo,vy] hn W (fun b=>b<W.heap.size) (fun b h=>h) (Qg h0 h1) ?_
 simp only[bA]
 exact⟨_,_,rfl,by simp only[VR],_,_,rfl,ho,_,_,rfl,hy,rfl⟩
end Go.Proofs.Vq
